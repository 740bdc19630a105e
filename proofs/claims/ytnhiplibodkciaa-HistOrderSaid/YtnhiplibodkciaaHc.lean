/- Spans of a made history: what is known of them at each event. Spans of a made history: each event keeps what is known; none is refused. Spans of a made history: one event more; all of them. -/
import Derived.Test.YtnhiplibodkciaaHb
namespace Go.Proofs.Ytnhiplibodkciaa
open Go.PI Go

abbrev cli (s : SpT) : Int := s.1
abbrev num (s : SpT) : Int := s.2.1
abbrev cal (s : SpT) : Int := s.2.2.1
abbrev rep (s : SpT) : Int := s.2.2.2.2.1
abbrev rtt (s : SpT) : RetT := s.2.2.2.2.2
def isT (s : SpT) : Bool := decide (0 ≤ turn s)
def isR (s : SpT) : Bool := decide (0 ≤ rep s)

def PS (A N : List Int) (i : Int) (s : SpT) : Prop :=
  (0 ≤ cli s ∧ cli s < 3 ∧ 0 ≤ num s) ∧ (0 ≤ cal s ∧ cal s < i ∧ -1 ≤ turn s ∧ turn s < i ∧ -1 ≤ rep s ∧ rep s < i) ∧ (0 ≤ turn s → cal s < turn s) ∧ (0 ≤ turn s → 0 ≤ rep s → turn s < rep s) ∧
  ((num s < N.getD (cli s).toNat 0 ∧ 0 ≤ rep s) ∨ (num s = N.getD (cli s).toNat 0 ∧ rep s = -1 ∧ ((A.getD (cli s).toNat 0 = 1 ∧ turn s = -1) ∨ (A.getD (cli s).toNat 0 = 2 ∧ 0 ≤ turn s ∧ rtt s = (errn (num s), cli s, z6)))))

structure SInv (out : List SpT) (A N : List Int) (i : Int) : Prop where
  ps : ∀ (j : Nat) s, out[j]? = some s → PS A N i s
  un : ∀ (j j' : Nat) s s', out[j]? = some s → out[j']? = some s' → cli s = cli s' → num s = num s' → j = j'
  tu : ∀ (j j' : Nat) s s', out[j]? = some s → out[j']? = some s' → 0 ≤ turn s → turn s = turn s' → j = j'
  ex : ∀ c : Int, 0 ≤ c → c < 3 → ∀ m : Int, 0 ≤ m → m < N.getD c.toNat 0 → ∃ (j : Nat) (s : SpT), out[j]? = some s ∧ cli s = c ∧ num s = m
  ex1 : ∀ c : Int, 0 ≤ c → c < 3 → 1 ≤ A.getD c.toNat 0 → ∃ (j : Nat) (s : SpT), out[j]? = some s ∧ cli s = c ∧ num s = N.getD c.toNat 0
  cnt : ((out.length + out.countP isT + out.countP isR : Nat) : Int) = i
  cu : out.countP isT ≤ out.countP isR + A.countP (· == 2)

theorem atH_at (out : List SpT) (hl : out.length ≤ 1000) (e : EvH) : ∃ j : Int, atH (out, e, ()) = some (j, ()) ∧ ((j = -1 ∧ ∀ (k : Nat) s, out[k]? = some s → ¬ (cli s = e.2.1 ∧ num s = e.2.2.1)) ∨ (0 ≤ j ∧ j < out.length ∧ cli (out.getD j.toNat spZ) = e.2.1 ∧ num (out.getD j.toNat spZ) = e.2.2.1)) := by
  obtain ⟨z, hz, hq⟩ : ∃ z, idxH_w0 (out, (e, ()), (out.length : Int), 0, ()) = some z ∧ ((∃ j : Int, z = .inl (j, ()) ∧ 0 ≤ j ∧ j < out.length ∧ cli (out.getD j.toNat spZ) = e.2.1 ∧ num (out.getD j.toNat spZ) = e.2.2.1) ∨ (z = .inr () ∧ ∀ (k : Nat) s, out[k]? = some s → ¬ (cli s = e.2.1 ∧ num s = e.2.2.1))) := by
    refine iterO_b (step := idxH_l0) (fun y => ∃ i : Int, y = (out, (e, ()), (out.length : Int), i, ()) ∧ 0 ≤ i ∧ i ≤ out.length ∧ ∀ (k : Nat) s, (k : Int) < i → out[k]? = some s → ¬ (cli s = e.2.1 ∧ num s = e.2.2.1)) (fun y => ((out.length : Int) - y.2.2.2.1).toNat) _ ?_ _ ⟨0, rfl, Int.le_refl 0, by omega, fun k s h => by omega⟩
    rintro y ⟨i, rfl, h0, h1, h2⟩
    unfold idxH_l0
    by_cases hi : i < (out.length : Int)
    · have hw : IntKind.wrap .i64 (i + 1) = i + 1 := Go.PI.wrap_small (by omega) (by omega)
      have hlt : i.toNat < out.length := by omega
      have r : (decide (0 ≤ i) && decide (i < (out.length : Int))) = true := by simp; omega
      have hge : out[i.toNat]? = some (out.getD i.toNat spZ) := by rw [at_lt _ _ _ hlt]; exact List.getElem?_eq_getElem hlt
      by_cases c1 : cli (out.getD i.toNat spZ) = e.2.1
      · have b1 : ((out.getD i.toNat spZ).1 == e.2.1) = true := beq_iff_eq.2 c1
        by_cases c2 : num (out.getD i.toNat spZ) = e.2.2.1
        · have b2 : ((out.getD i.toNat spZ).2.1 == e.2.2.1) = true := beq_iff_eq.2 c2
          have ha : at1H (out.getD i.toNat spZ, e, ()) = some (true, ()) := by
            show Br.run (.cond ((out.getD i.toNat spZ).1 == e.2.1) (.ret ((out.getD i.toNat spZ).2.1 == e.2.2.1, ())) (.ret (false, ()))) = _
            rw [b1, b2]; rfl
          refine ⟨.inr (.inl (i, ())), ?_, .inr ⟨_, rfl, .inl ⟨i, rfl, h0, hi, c1, c2⟩⟩⟩
          simp only [Br.run, decide_eq_true hi, decide_eq_true h0, Bool.and_self, cond_true, ha]
        · have b2 : ((out.getD i.toNat spZ).2.1 == e.2.2.1) = false := beq_eq_false_iff_ne.2 c2
          have ha : at1H (out.getD i.toNat spZ, e, ()) = some (false, ()) := by
            show Br.run (.cond ((out.getD i.toNat spZ).1 == e.2.1) (.ret ((out.getD i.toNat spZ).2.1 == e.2.2.1, ())) (.ret (false, ()))) = _
            rw [b1, b2]; rfl
          refine ⟨.inl (out, (e, ()), (out.length : Int), i + 1, ()), ?_, .inl ⟨_, rfl, ⟨i + 1, rfl, by omega, by omega, fun k s hk hs => ?_⟩, by dsimp only; omega⟩⟩
          · simp only [Br.run, decide_eq_true hi, decide_eq_true h0, Bool.and_self, cond_true, ha, cond_false, hw]
          · by_cases hki : (k : Int) < i
            · exact h2 k s hki hs
            · have : k = i.toNat := by omega
              subst this
              rw [hge] at hs
              obtain rfl := Option.some.inj hs
              exact fun h => c2 h.2
      · have b1 : ((out.getD i.toNat spZ).1 == e.2.1) = false := beq_eq_false_iff_ne.2 c1
        have ha : at1H (out.getD i.toNat spZ, e, ()) = some (false, ()) := by
          show Br.run (.cond ((out.getD i.toNat spZ).1 == e.2.1) (.ret ((out.getD i.toNat spZ).2.1 == e.2.2.1, ())) (.ret (false, ()))) = _
          rw [b1]; rfl
        refine ⟨.inl (out, (e, ()), (out.length : Int), i + 1, ()), ?_, .inl ⟨_, rfl, ⟨i + 1, rfl, by omega, by omega, fun k s hk hs => ?_⟩, by dsimp only; omega⟩⟩
        · simp only [Br.run, decide_eq_true hi, decide_eq_true h0, Bool.and_self, cond_true, ha, cond_false, hw]
        · by_cases hki : (k : Int) < i
          · exact h2 k s hki hs
          · have : k = i.toNat := by omega
            subst this
            rw [hge] at hs
            obtain rfl := Option.some.inj hs
            exact fun h => c1 h.1
    · refine ⟨.inr (.inr ()), ?_, .inr ⟨_, rfl, .inr ⟨rfl, fun k s hs => h2 k s ?_ hs⟩⟩⟩
      · simp only [Br.run, decide_eq_false hi, cond_false]
      · have := (List.getElem?_eq_some_iff.1 hs).1
        omega
  unfold atH atH_B idxH idxH_B
  simp only [Br.run, hz]
  rcases hq with ⟨j, rfl, k⟩ | ⟨rfl, k⟩
  · exact ⟨j, rfl, .inr k⟩
  · exact ⟨-1, rfl, .inl ⟨rfl, k⟩⟩

theorem endedH_at (out : List SpT) (hl : out.length ≤ 1000) (c m : Int) : ∃ b, endedH (out, c, m, ()) = some (b, ()) ∧ ((∃ (j : Nat) (s : SpT), out[j]? = some s ∧ cli s = c ∧ num s = m) → (∀ (j : Nat) s, out[j]? = some s → cli s = c → num s = m → 0 ≤ rep s) → b = true) := by
  obtain ⟨j, hj, h⟩ := atH_at out hl (0, c, m, 0, 0, [0, 0, 0, 0, 0, 0])
  unfold endedH endedH_B
  rcases h with ⟨rfl, h⟩ | ⟨j0, j1, h2, h3⟩
  · simp only [Br.run, hj, show decide ((-1 : Int) ≥ 0) = false from rfl, cond_false]
    exact ⟨false, rfl, fun ⟨k, s, hs, k1, k2⟩ _ => absurd ⟨k1, k2⟩ (h k s hs)⟩
  · have j0' : j ≥ 0 := j0
    have hlt : j.toNat < out.length := by omega
    simp only [Br.run, hj, decide_eq_true j0', decide_eq_true j0, decide_eq_true j1, Bool.and_self, cond_true]
    exact ⟨_, rfl, fun _ h => decide_eq_true (h j.toNat _ (by rw [at_lt _ _ _ hlt]; exact List.getElem?_eq_getElem hlt) h2 h3)⟩

theorem cnt_set (f : SpT → Bool) (l : List SpT) (j : Nat) (h : j < l.length) (a : SpT) : (l.set j a).countP f + (if f l[j] then 1 else 0) = l.countP f + (if f a then 1 else 0) := by
  rw [List.countP_set h]
  by_cases hf : f l[j] = true
  · have : 0 < l.countP f := List.countP_pos_iff.2 ⟨_, List.getElem_mem h, hf⟩
    simp only [hf, if_true]
    omega
  · simp only [hf]
    simp
theorem cnt_setI (l : List Int) (j : Nat) (h : j < l.length) (a : Int) : (l.set j a).countP (· == 2) + (if l[j] = 2 then 1 else 0) = l.countP (· == 2) + (if a = 2 then 1 else 0) := by
  rw [List.countP_set h]
  by_cases hf : l[j] = 2
  · have : 0 < l.countP (· == 2) := List.countP_pos_iff.2 ⟨_, List.getElem_mem h, by simp [hf]⟩
    simp only [hf, beq_self_eq_true, if_true, beq_iff_eq]
    omega
  · simp only [beq_iff_eq, hf, if_false]
    simp
end Go.Proofs.Ytnhiplibodkciaa

namespace Go.Proofs.Ytnhiplibodkciaa
open Go.PI Go

theorem BT.pos {α : Type} {P : α → Prop} {c : Bool} {a b : Br α} (hc : c = true) (h : BT P a) : BT P (.cond c a b) := by subst hc; exact h
theorem BT.neg {α : Type} {P : α → Prop} {c : Bool} {a b : Br α} (hc : c = false) (h : BT P b) : BT P (.cond c a b) := by subst hc; exact h

theorem set_some {out : List SpT} {j : Nat} (hj : j < out.length) {s' x : SpT} {j2 : Nat} (h : (out.set j s')[j2]? = some x) : (j2 = j ∧ x = s') ∨ (j2 ≠ j ∧ out[j2]? = some x) := by
  by_cases e : j2 = j
  · subst e
    rw [List.getElem?_set_self hj] at h
    exact .inl ⟨rfl, (Option.some.inj h).symm⟩
  · rw [List.getElem?_set_ne (Ne.symm e)] at h
    exact .inr ⟨e, h⟩
theorem some_set {out : List SpT} {j : Nat} (hj : j < out.length) {s s' x : SpT} (hs : out[j]? = some s) (hc : cli s' = cli s) (hn : num s' = num s) {c m : Int} (h : ∃ (j2 : Nat) (x : SpT), out[j2]? = some x ∧ cli x = c ∧ num x = m) : ∃ (j2 : Nat) (x : SpT), (out.set j s')[j2]? = some x ∧ cli x = c ∧ num x = m := by
  obtain ⟨j2, x, h1, h2, h3⟩ := h
  by_cases e : j2 = j
  · subst e
    rw [hs] at h1
    obtain rfl := Option.some.inj h1
    exact ⟨j2, s', List.getElem?_set_self hj, hc.trans h2, hn.trans h3⟩
  · exact ⟨j2, x, by rw [List.getElem?_set_ne (Ne.symm e)]; exact h1, h2, h3⟩

theorem SInv.upd {out : List SpT} {A N A' N' : List Int} {i : Int} (h : SInv out A N i) {j : Nat} {s s' : SpT} (hj : out[j]? = some s) (hc : cli s' = cli s) (hn : num s' = num s) (hs' : PS A' N' (i + 1) s') (ho : ∀ (j2 : Nat) s2, j2 ≠ j → out[j2]? = some s2 → PS A' N' (i + 1) s2)
    (ht : turn s' = turn s ∨ turn s' = i) (hA : ∀ c : Int, 0 ≤ c → c < 3 → 1 ≤ A'.getD c.toNat 0 → 1 ≤ A.getD c.toNat 0 ∧ N'.getD c.toNat 0 = N.getD c.toNat 0) (hN : ∀ c : Int, 0 ≤ c → c < 3 → ∀ m : Int, m < N'.getD c.toNat 0 → m < N.getD c.toNat 0 ∨ (1 ≤ A.getD c.toNat 0 ∧ m = N.getD c.toNat 0))
    (hcnt : ((out.length + (out.set j s').countP isT + (out.set j s').countP isR : Nat) : Int) = i + 1) (hcu : (out.set j s').countP isT ≤ (out.set j s').countP isR + A'.countP (· == 2)) : SInv (out.set j s') A' N' (i + 1) := by
  have hlt : j < out.length := (List.getElem?_eq_some_iff.1 hj).1
  refine ⟨fun j2 x hx => ?_, fun j1 j2 x y hx hy e1 e2 => ?_, fun j1 j2 x y hx hy e1 e2 => ?_, fun c c0 c1 m m0 m1 => ?_, fun c c0 c1 a1 => ?_, by rw [List.length_set]; exact hcnt, hcu⟩
  · rcases set_some hlt hx with ⟨rfl, rfl⟩ | ⟨e, hx⟩
    · exact hs'
    · exact ho j2 x e hx
  · rcases set_some hlt hx with ⟨rfl, rfl⟩ | ⟨a1, hx'⟩ <;> rcases set_some hlt hy with ⟨rfl, rfl⟩ | ⟨a2, hy'⟩
    · rfl
    · exact h.un _ _ s y hj hy' (hc.symm.trans e1) (hn.symm.trans e2)
    · exact h.un _ _ x s hx' hj (e1.trans hc) (e2.trans hn)
    · exact h.un _ _ x y hx' hy' e1 e2
  · rcases set_some hlt hx with ⟨rfl, rfl⟩ | ⟨a1, hx'⟩ <;> rcases set_some hlt hy with ⟨rfl, rfl⟩ | ⟨a2, hy'⟩
    · rfl
    · rcases ht with ht | ht
      · exact h.tu _ _ s y hj hy' (by omega) (ht.symm.trans e2)
      · have := (h.ps _ _ hy').2.1
        omega
    · rcases ht with ht | ht
      · exact h.tu _ _ x s hx' hj e1 (e2.trans ht)
      · have := (h.ps _ _ hx').2.1
        omega
    · exact h.tu _ _ x y hx' hy' e1 e2
  · refine some_set (x := s) hlt hj hc hn ?_
    rcases hN c c0 c1 m m1 with k | ⟨k, rfl⟩
    · exact h.ex c c0 c1 m m0 k
    · exact h.ex1 c c0 c1 k
  · obtain ⟨k1, k2⟩ := hA c c0 c1 a1
    rw [k2]
    exact some_set (x := s) hlt hj hc hn (h.ex1 c c0 c1 k1)

theorem app_some {out : List SpT} {s' x : SpT} {j : Nat} (h : (out ++ [s'])[j]? = some x) : (j = out.length ∧ x = s') ∨ (j < out.length ∧ out[j]? = some x) := by
  rcases Nat.lt_or_ge j out.length with k | k
  · rw [List.getElem?_append_left k] at h
    exact .inr ⟨k, h⟩
  · rw [List.getElem?_append_right k] at h
    have := (List.getElem?_eq_some_iff.1 h).1
    simp at this
    have e : j = out.length := by omega
    subst e
    rw [Nat.sub_self] at h
    exact .inl ⟨rfl, by simpa using h.symm⟩
theorem some_app {out : List SpT} (s' : SpT) {c m : Int} (h : ∃ (j : Nat) (x : SpT), out[j]? = some x ∧ cli x = c ∧ num x = m) : ∃ (j : Nat) (x : SpT), (out ++ [s'])[j]? = some x ∧ cli x = c ∧ num x = m := by
  obtain ⟨j, x, h1, h2⟩ := h
  exact ⟨j, x, by rw [List.getElem?_append_left (List.getElem?_eq_some_iff.1 h1).1]; exact h1, h2⟩

theorem SInv.app {out : List SpT} {A N A' : List Int} {i : Int} (h : SInv out A N i) {s' : SpT} (hnew : ∀ (j : Nat) s, out[j]? = some s → ¬ (cli s = cli s' ∧ num s = num s')) (hs' : PS A' N (i + 1) s') (ho : ∀ (j2 : Nat) s2, out[j2]? = some s2 → PS A' N (i + 1) s2) (ht : turn s' = -1) (hr : rep s' = -1)
    (hA : ∀ c : Int, 0 ≤ c → c < 3 → 1 ≤ A'.getD c.toNat 0 → 1 ≤ A.getD c.toNat 0 ∨ (c = cli s' ∧ N.getD c.toNat 0 = num s')) (hu : A.countP (· == 2) ≤ A'.countP (· == 2)) : SInv (out ++ [s']) A' N (i + 1) := by
  have hT : isT s' = false := by unfold isT; rw [ht]; rfl
  have hR : isR s' = false := by unfold isR; rw [hr]; rfl
  refine ⟨fun j x hx => ?_, fun j1 j2 x y hx hy e1 e2 => ?_, fun j1 j2 x y hx hy e1 e2 => ?_, fun c c0 c1 m m0 m1 => some_app s' (h.ex c c0 c1 m m0 m1), fun c c0 c1 a1 => ?_, ?_, ?_⟩
  · rcases app_some hx with ⟨_, rfl⟩ | ⟨_, hx⟩
    · exact hs'
    · exact ho j x hx
  · rcases app_some hx with ⟨rfl, rfl⟩ | ⟨a1, hx'⟩ <;> rcases app_some hy with ⟨rfl, rfl⟩ | ⟨a2, hy'⟩
    · rfl
    · exact absurd ⟨e1.symm, e2.symm⟩ (hnew _ _ hy')
    · exact absurd ⟨e1, e2⟩ (hnew _ _ hx')
    · exact h.un _ _ x y hx' hy' e1 e2
  · rcases app_some hx with ⟨rfl, rfl⟩ | ⟨a1, hx'⟩ <;> rcases app_some hy with ⟨rfl, rfl⟩ | ⟨a2, hy'⟩
    · rfl
    · omega
    · omega
    · exact h.tu _ _ x y hx' hy' e1 e2
  · rcases hA c c0 c1 a1 with k | ⟨rfl, k⟩
    · exact some_app s' (h.ex1 c c0 c1 k)
    · exact ⟨out.length, s', by simp, rfl, k.symm⟩
  · have := h.cnt
    simp only [List.length_append, List.length_singleton, List.countP_append, List.countP_singleton, hT, hR]
    simp
    omega
  · have := h.cu
    simp only [List.countP_append, List.countP_singleton, hT, hR]
    simp
    omega
end Go.Proofs.Ytnhiplibodkciaa

namespace Go.Proofs.Ytnhiplibodkciaa
open Go.PI Go

theorem ps_mono {A N A' N' : List Int} {i : Int} {s : SpT} (h : PS A N i s) (hN : N.getD (cli s).toNat 0 ≤ N'.getD (cli s).toNat 0) (hc : num s < N.getD (cli s).toNat 0 ∨ (A'.getD (cli s).toNat 0 = A.getD (cli s).toNat 0 ∧ N'.getD (cli s).toNat 0 = N.getD (cli s).toNat 0)) : PS A' N' (i + 1) s := by
  obtain ⟨h1, h2, h3, h4, h5⟩ := h
  refine ⟨h1, by omega, h3, h4, ?_⟩
  rcases h5 with ⟨a, b⟩ | ⟨a, b, c⟩
  · exact .inl ⟨by omega, b⟩
  · rcases hc with hc | ⟨k1, k2⟩
    · omega
    · exact .inr ⟨by omega, b, by rw [k1]; exact c⟩

theorem SInv.cur {out : List SpT} {A N : List Int} {i : Int} (h : SInv out A N i) {j : Nat} {s : SpT} (hj : out[j]? = some s) (hn : num s = N.getD (cli s).toNat 0) : rep s = -1 ∧ ((A.getD (cli s).toNat 0 = 1 ∧ turn s = -1) ∨ (A.getD (cli s).toNat 0 = 2 ∧ 0 ≤ turn s ∧ rtt s = (errn (num s), cli s, z6))) := by
  obtain ⟨_, _, _, _, h5⟩ := h.ps j s hj
  rcases h5 with ⟨a, b⟩ | ⟨_, b, c⟩
  · omega
  · exact ⟨b, c⟩
theorem SInv.old {out : List SpT} {A N : List Int} {i : Int} (h : SInv out A N i) {j j2 : Nat} {s s2 : SpT} (hj : out[j]? = some s) (hn : num s = N.getD (cli s).toNat 0) (h2 : out[j2]? = some s2) (hne : j2 ≠ j) (hc : cli s2 = cli s) : num s2 < N.getD (cli s2).toNat 0 := by
  obtain ⟨_, _, _, _, h5⟩ := h.ps j2 s2 h2
  rcases h5 with ⟨a, b⟩ | ⟨a, b, c⟩
  · exact a
  · exact absurd (h.un j2 j s2 s h2 hj hc (by rw [a, hn, hc])) hne

theorem getD_some {out : List SpT} {j : Nat} (h : j < out.length) : out[j]? = some (out.getD j spZ) := by
  rw [at_lt _ _ _ h]; exact List.getElem?_eq_getElem h
theorem set_getD {out : List SpT} {j : Nat} (h : j < out.length) (v : SpT) : (out.set j v).getD j spZ = v := by
  rw [at_lt _ _ _ (by rw [List.length_set]; exact h), List.getElem_set_self]

set_option maxHeartbeats 1000000 in
theorem spansH_step {hh : List EvH} {out : List SpT} {A N : List Int} {i : Int} (hI : SInv out A N i) (hS : StH A N i) (i0 : 0 ≤ i) (i1 : i < hh.length) (hl : hh.length ≤ 30) {k : Int} {t : Bool} (k0 : 0 ≤ k) (k1 : k < 3) (he : hh.getD i.toNat ehZ = (genE A N k t).1) :
    BT (fun y => ∃ out', y = .inl (hh, (hh.length : Int), i + 1, out', ()) ∧ SInv out' (genE A N k t).2.1 (genE A N k t).2.2 (i + 1)) (spansH_l0 (hh, (hh.length : Int), i, out, ())) := by
  have hw : IntKind.wrap .i64 (i + 1) = i + 1 := Go.PI.wrap_small (by omega) (by omega)
  have hcnt := hI.cnt
  have hout : out.length ≤ 30 := by omega
  have hAk := hS.a k
  have hNk := hS.n k
  have r3 : (decide (0 ≤ i) && decide (i < (hh.length : Int))) = true := by simp; omega
  have gA : ∀ (v c : Int), 0 ≤ c → (A.set k.toNat v).getD c.toNat 0 = if c = k then v else A.getD c.toNat 0 := fun v c hc => set_get A k c v k0 (by rw [hS.la]; omega) hc
  have gN : ∀ (v c : Int), 0 ≤ c → (N.set k.toNat v).getD c.toNat 0 = if c = k then v else N.getD c.toNat 0 := fun v c hc => set_get N k c v k0 (by rw [hS.ln]; omega) hc
  unfold spansH_l0
  dsimp only
  refine BT.pos (decide_eq_true i1) (BT.pos r3 ?_)
  rw [he, hw]
  by_cases c0 : A.getD k.toNat 0 = 0
  · have g : genE A N k t = ((1, k, N.getD k.toNat 0, 0, 0, z6), A.set k.toNat 1, N) := if_pos c0
    rw [g]
    obtain ⟨j, hj, hcase⟩ := atH_at out (by omega) (1, k, N.getD k.toNat 0, 0, 0, z6)
    rcases hcase with ⟨rfl, hno⟩ | ⟨j0, j1, e1, e2⟩
    · have hadd : ∀ o : List SpT, o = out ++ [(k, N.getD k.toNat 0, i, -1, -1, 0, 0, List.replicate 6 0)] → SInv o (A.set k.toNat 1) N (i + 1) := fun o ho => by
        rw [ho]
        refine hI.app (s' := (k, N.getD k.toNat 0, i, -1, -1, 0, 0, List.replicate 6 0)) hno ?_ (fun j2 s2 h2 => ?_) rfl rfl (fun c d0 d1 a1 => ?_) ?_
        · refine ⟨⟨k0, k1, hNk.1⟩, ⟨i0, by show i < i + 1; omega, Int.le_refl (-1), by show (-1 : Int) < i + 1; omega, Int.le_refl (-1), by show (-1 : Int) < i + 1; omega⟩, fun h => absurd h (show ¬ (0 : Int) ≤ -1 by decide), fun h => absurd h (show ¬ (0 : Int) ≤ -1 by decide), .inr ⟨rfl, rfl, .inl ⟨?_, rfl⟩⟩⟩
          rw [gA 1 k k0, if_pos rfl]
        · have hp := hI.ps j2 s2 h2
          refine ps_mono hp (Int.le_refl _) ?_
          by_cases e : cli s2 = k
          · left
            rcases hp.2.2.2.2 with ⟨a, _⟩ | ⟨a, _, c⟩
            · exact a
            · exfalso
              rw [e, c0] at c
              omega
          · right
            rw [gA 1 _ hp.1.1, if_neg e]
            exact ⟨rfl, rfl⟩
        · rw [gA 1 c d0] at a1
          by_cases e : c = k
          · exact .inr ⟨e, by rw [e]⟩
          · rw [if_neg e] at a1
            exact .inl a1
        · have := cnt_setI A k.toNat (by rw [hS.la]; omega) 1
          have e : A[k.toNat]'(by rw [hS.la]; omega) = 0 := by rw [← at_lt A k.toNat 0 (by rw [hS.la]; omega)]; exact c0
          rw [e] at this
          simp at this
          omega
      have bnd : (out.length + 1) * 104 ≤ 140737488355328 := by omega
      refine BT.opt ⟨_, hj, BT.pos rfl (BT.neg rfl ?_)⟩
      have hneg : ¬ N.getD k.toNat 0 < 0 := by omega
      by_cases hn : N.getD k.toNat 0 > 0
      · have hwn : IntKind.wrap .i64 (N.getD k.toNat 0 - 1) = N.getD k.toNat 0 - 1 := Go.PI.wrap_small (by omega) (by omega)
        obtain ⟨b, hb, hbt⟩ := endedH_at out (by omega) k (N.getD k.toNat 0 - 1)
        have hb1 : b = true := hbt (hI.ex k k0 k1 _ (by omega) (by omega)) fun j2 s2 h2 q1 q2 => by
          have hp := hI.ps j2 s2 h2
          rcases hp.2.2.2.2 with ⟨_, a⟩ | ⟨a, _, _⟩
          · exact a
          · rw [q1] at a; omega
        subst hb1
        refine BT.pos (decide_eq_true hn) (BT.opt ⟨_, by rw [hwn]; exact hb, BT.neg rfl (BT.neg (decide_eq_false hneg) (BT.pos (decide_eq_true bnd) (BT.ret ⟨_, rfl, hadd _ rfl⟩)))⟩)
      · refine BT.neg (decide_eq_false hn) (BT.neg (decide_eq_false hneg) (BT.pos (decide_eq_true bnd) (BT.ret ⟨_, rfl, hadd _ rfl⟩)))
    · exfalso
      have hp := hI.cur (getD_some (show j.toNat < out.length by omega)) (by rw [e2, e1])
      rw [e1] at hp
      have hp := hp.2
      rw [show A.getD ((1, k, N.getD k.toNat 0, 0, 0, z6) : EvH).2.1.toNat 0 = 0 from c0] at hp
      omega
  · by_cases c1 : A.getD k.toNat 0 = 1 ∧ t = true
    · have g : genE A N k t = ((2, k, N.getD k.toNat 0, errn (N.getD k.toNat 0), k, z6), A.set k.toNat 2, N) := by
        unfold genE
        rw [if_neg c0, if_pos c1]
      rw [g]
      obtain ⟨j, hj, ⟨rfl, hno⟩ | ⟨j0, j1, e1, e2⟩⟩ := atH_at out (by omega) (2, k, N.getD k.toNat 0, errn (N.getD k.toNat 0), k, z6)
      · exfalso
        obtain ⟨j2, s2, h2, q1, q2⟩ := hI.ex1 k k0 k1 (by omega)
        exact hno j2 s2 h2 ⟨q1, q2⟩
      · have hjl : j.toNat < out.length := by omega
        have hs := getD_some hjl
        have e1 : cli (out.getD j.toNat spZ) = k := e1
        have e2 : num (out.getD j.toNat spZ) = N.getD k.toNat 0 := e2
        have hsn : num (out.getD j.toNat spZ) = N.getD (cli (out.getD j.toNat spZ)).toNat 0 := by rw [e2, e1]
        obtain ⟨hr, hcur⟩ := hI.cur hs hsn
        have hp := hI.ps _ _ hs
        have hgs := set_getD hjl
        have e0 : out[j.toNat] = out.getD j.toNat spZ := (at_lt _ _ _ hjl).symm
        have hrj : (decide (0 ≤ j) && decide (j < (out.length : Int))) = true := by simp; omega
        have hrj2 : ∀ v : SpT, (decide (0 ≤ j) && decide (j < ((out.set j.toNat v).length : Int))) = true := fun v => by rw [List.length_set]; exact hrj
        have hold := fun (j2 : Nat) (s2 : SpT) (h2 : out[j2]? = some s2) (hne : j2 ≠ j.toNat) (hc : cli s2 = k) => hI.old hs hsn h2 hne (hc.trans e1.symm)
        refine BT.opt ⟨_, hj, ?_⟩
        dsimp only
        generalize out.getD j.toNat spZ = s at hs e1 e2 hsn hr hcur hp e0 ⊢
        have ht1 : turn s = -1 := by
          rcases hcur with ⟨_, a⟩ | ⟨a, _⟩
          · exact a
          · rw [e1] at a; omega
        have hadd : ∀ o : List SpT, o = out.set j.toNat (s.1, s.2.1, s.2.2.1, i, s.2.2.2.2.1, errn (N.getD k.toNat 0), k, z6) → SInv o (A.set k.toNat 2) N (i + 1) := fun o ho => by
          rw [ho]
          have k1' := cnt_set isT out j.toNat hjl (s.1, s.2.1, s.2.2.1, i, s.2.2.2.2.1, errn (N.getD k.toNat 0), k, z6)
          have k2' := cnt_set isR out j.toNat hjl (s.1, s.2.1, s.2.2.1, i, s.2.2.2.2.1, errn (N.getD k.toNat 0), k, z6)
          have k3 := cnt_setI A k.toNat (by rw [hS.la]; omega) 2
          rw [e0] at k1' k2'
          have f1 : isT s = false := by unfold isT; rw [ht1]; rfl
          have f2 : isT (s.1, s.2.1, s.2.2.1, i, s.2.2.2.2.1, errn (N.getD k.toNat 0), k, z6) = true := decide_eq_true i0
          have f3 : isR s = false := by unfold isR; rw [hr]; rfl
          have f4 : isR (s.1, s.2.1, s.2.2.1, i, s.2.2.2.2.1, errn (N.getD k.toNat 0), k, z6) = false := f3
          have f5 : A[k.toNat]'(by rw [hS.la]; omega) = 1 := by rw [← at_lt A k.toNat 0 (by rw [hS.la]; omega)]; exact c1.1
          rw [f1, f2] at k1'
          rw [f3, f4] at k2'
          rw [f5] at k3
          simp only [Bool.false_eq_true, if_false, if_true, Nat.add_zero, show ¬ (1 : Int) = 2 by decide] at k1' k2' k3
          have hcu := hI.cu
          refine hI.upd hs rfl rfl ?_ (fun j2 s2 hne h2 => ?_) (.inr rfl) (fun c d0 d1 a1 => ?_) (fun c d0 d1 m hm => .inl hm) (by omega) (by omega)
          · obtain ⟨p1, p2, p3, p4, p5⟩ := hp
            refine ⟨p1, ⟨p2.1, by show cal s < i + 1; omega, by show -1 ≤ i; omega, by show i < i + 1; omega, p2.2.2.2.2.1, by show rep s < i + 1; omega⟩, fun _ => p2.2.1, fun _ h => absurd h (by show ¬ 0 ≤ rep s; omega), .inr ⟨hsn, hr, .inr ⟨?_, i0, ?_⟩⟩⟩
            · show (A.set k.toNat 2).getD (cli s).toNat 0 = 2
              rw [e1, gA 2 k k0, if_pos rfl]
            · show (errn (N.getD k.toNat 0), k, z6) = (errn (num s), cli s, z6)
              rw [e1, e2]
          · have hp2 := hI.ps j2 s2 h2
            refine ps_mono hp2 (Int.le_refl _) ?_
            by_cases e : cli s2 = k
            · exact .inl (hold j2 s2 h2 hne e)
            · right
              rw [gA 2 _ hp2.1.1, if_neg e]
              exact ⟨rfl, rfl⟩
          · rw [gA 2 c d0] at a1
            by_cases e : c = k
            · rw [e]
              exact ⟨by omega, rfl⟩
            · rw [if_neg e] at a1
              exact ⟨a1, rfl⟩
        have n1 : decide (j < 0) = false := decide_eq_false (by omega)
        have n2 : decide (turn s ≥ 0) = false := decide_eq_false (by omega)
        have n3 : decide (rep s ≥ 0) = false := decide_eq_false (by omega)
        refine BT.neg rfl (BT.pos rfl (BT.neg n1 (BT.pos hrj (BT.neg n2 (BT.pos hrj (BT.neg n3 (BT.pos hrj (BT.pos (hrj2 _) (BT.ret ⟨_, rfl, hadd _ ?_⟩)))))))))
        simp only [hgs, List.set_set]
    · have hwn : IntKind.wrap .i64 (N.getD k.toNat 0 + 1) = N.getD k.toNat 0 + 1 := Go.PI.wrap_small (by omega) (by omega)
      have g : genE A N k t = ((3, k, N.getD k.toNat 0, errn (N.getD k.toNat 0), k, z6), A.set k.toNat 0, N.set k.toNat (N.getD k.toNat 0 + 1)) := by
        unfold genE
        rw [if_neg c0, if_neg c1, hwn]
      rw [g]
      obtain ⟨j, hj, ⟨rfl, hno⟩ | ⟨j0, j1, e1, e2⟩⟩ := atH_at out (by omega) (3, k, N.getD k.toNat 0, errn (N.getD k.toNat 0), k, z6)
      · exfalso
        obtain ⟨j2, s2, h2, q1, q2⟩ := hI.ex1 k k0 k1 (by omega)
        exact hno j2 s2 h2 ⟨q1, q2⟩
      · have hjl : j.toNat < out.length := by omega
        have hs := getD_some hjl
        have e1 : cli (out.getD j.toNat spZ) = k := e1
        have e2 : num (out.getD j.toNat spZ) = N.getD k.toNat 0 := e2
        have hsn : num (out.getD j.toNat spZ) = N.getD (cli (out.getD j.toNat spZ)).toNat 0 := by rw [e2, e1]
        obtain ⟨hr, hcur⟩ := hI.cur hs hsn
        have hp := hI.ps _ _ hs
        have hgs := set_getD hjl
        have e0 : out[j.toNat] = out.getD j.toNat spZ := (at_lt _ _ _ hjl).symm
        have hrj : (decide (0 ≤ j) && decide (j < (out.length : Int))) = true := by simp; omega
        have hrj2 : ∀ v : SpT, (decide (0 ≤ j) && decide (j < ((out.set j.toNat v).length : Int))) = true := fun v => by rw [List.length_set]; exact hrj
        have hold := fun (j2 : Nat) (s2 : SpT) (h2 : out[j2]? = some s2) (hne : j2 ≠ j.toNat) (hc : cli s2 = k) => hI.old hs hsn h2 hne (hc.trans e1.symm)
        refine BT.opt ⟨_, hj, ?_⟩
        dsimp only
        generalize out.getD j.toNat spZ = s at hs e1 e2 hsn hr hcur hp e0 ⊢
        have hadd : ∀ o : List SpT, o = out.set j.toNat (s.1, s.2.1, s.2.2.1, s.2.2.2.1, i, errn (N.getD k.toNat 0), k, z6) → SInv o (A.set k.toNat 0) (N.set k.toNat (N.getD k.toNat 0 + 1)) (i + 1) := fun o ho => by
          rw [ho]
          have k1' := cnt_set isT out j.toNat hjl (s.1, s.2.1, s.2.2.1, s.2.2.2.1, i, errn (N.getD k.toNat 0), k, z6)
          have k2' := cnt_set isR out j.toNat hjl (s.1, s.2.1, s.2.2.1, s.2.2.2.1, i, errn (N.getD k.toNat 0), k, z6)
          have k3 := cnt_setI A k.toNat (by rw [hS.la]; omega) 0
          rw [e0] at k1' k2'
          have f2 : isT (s.1, s.2.1, s.2.2.1, s.2.2.2.1, i, errn (N.getD k.toNat 0), k, z6) = isT s := rfl
          have f3 : isR s = false := by unfold isR; rw [hr]; rfl
          have f4 : isR (s.1, s.2.1, s.2.2.1, s.2.2.2.1, i, errn (N.getD k.toNat 0), k, z6) = true := decide_eq_true i0
          rw [f2] at k1'
          rw [f3, f4] at k2'
          simp only [Bool.false_eq_true, if_false, if_true, Nat.add_zero, show ¬ (0 : Int) = 2 by decide] at k2' k3
          have k4 : A.countP (· == 2) ≤ (A.set k.toNat 0).countP (· == 2) + 1 := by
            by_cases hf : A[k.toNat]'(by rw [hS.la]; omega) = 2
            · rw [if_pos hf] at k3; omega
            · rw [if_neg hf] at k3; omega
          have hcu := hI.cu
          refine hI.upd hs rfl rfl ?_ (fun j2 s2 hne h2 => ?_) (.inl rfl) (fun c d0 d1 a1 => ?_) (fun c d0 d1 m hm => ?_) (by omega) (by omega)
          · obtain ⟨p1, p2, p3, p4, p5⟩ := hp
            refine ⟨p1, ⟨p2.1, by show cal s < i + 1; omega, p2.2.2.1, by show turn s < i + 1; omega, by show -1 ≤ i; omega, by show i < i + 1; omega⟩, p3, fun _ _ => by show turn s < i; omega, .inl ⟨?_, i0⟩⟩
            show num s < (N.set k.toNat (N.getD k.toNat 0 + 1)).getD (cli s).toNat 0
            rw [e1, gN _ k k0, if_pos rfl, e2]
            omega
          · have hp2 := hI.ps j2 s2 h2
            refine ps_mono hp2 ?_ ?_
            · rw [gN _ _ hp2.1.1]
              by_cases e : cli s2 = k
              · rw [if_pos e, e]; omega
              · rw [if_neg e]; exact Int.le_refl _
            · by_cases e : cli s2 = k
              · exact .inl (hold j2 s2 h2 hne e)
              · right
                rw [gA 0 _ hp2.1.1, gN _ _ hp2.1.1, if_neg e, if_neg e]
                exact ⟨rfl, rfl⟩
          · rw [gA 0 c d0] at a1
            rw [gN _ c d0]
            by_cases e : c = k
            · rw [if_pos e] at a1
              omega
            · rw [if_neg e] at a1
              rw [if_neg e]
              exact ⟨a1, rfl⟩
          · rw [gN _ c d0] at hm
            by_cases e : c = k
            · rw [if_pos e] at hm
              rw [e]
              omega
            · rw [if_neg e] at hm
              exact .inl hm
        have n1 : decide (j < 0) = false := decide_eq_false (by omega)
        have n3 : decide (rep s ≥ 0) = false := decide_eq_false (by omega)
        refine BT.neg rfl (BT.neg rfl (BT.pos rfl (BT.neg n1 (BT.pos hrj (BT.neg n3 (BT.pos hrj ?_))))))
        rcases hcur with ⟨_, a⟩ | ⟨_, a, b⟩
        · have n2 : decide (turn s ≥ 0) = false := decide_eq_false (by omega)
          refine BT.neg n2 (BT.pos hrj (BT.pos (hrj2 _) (BT.ret ⟨_, rfl, hadd _ ?_⟩)))
          simp only [hgs, List.set_set]
        · have n2 : decide (turn s ≥ 0) = true := decide_eq_true a
          have b1 : s.2.2.2.2.2.1 = errn (N.getD k.toNat 0) := by have := congrArg Prod.fst b; rw [e2] at this; exact this
          have b2 : s.2.2.2.2.2.2.1 = k := by have := congrArg (fun z => z.2.1) b; rw [e1] at this; exact this
          have b3 : s.2.2.2.2.2.2.2 = z6 := congrArg (fun z => z.2.2) b
          refine BT.pos n2 (BT.pos hrj (BT.neg ?_ (BT.pos hrj (BT.pos (hrj2 _) (BT.ret ⟨_, rfl, hadd _ ?_⟩)))))
          · rw [b1, b2, b3]
            simp
          · simp only [hgs, List.set_set]
end Go.Proofs.Ytnhiplibodkciaa
