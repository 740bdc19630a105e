/- HistOrder: spans of a made history; those that were done, in order; whether an order is respected. -/
import Derived.Test.YtnhiplibodkciaaHc
import Derived.Test.YtnhiplibodkciaaH4a
namespace Go.Proofs.Ytnhiplibodkciaa
open Go.PI Go

theorem spansH_made {h : List EvH} (hh : h.length ≤ 30) (hg : Hg [0, 0, 0] [0, 0, 0] h) : ∃ out A N, spansH (h, ()) = some ((out, true), ()) ∧ SInv out A N h.length ∧ A.length = 3 := by
  have s0 : StH [0, 0, 0] [0, 0, 0] 0 := by
    have key : ∀ c : Int, ([0, 0, 0] : List Int).getD c.toNat 0 = 0 := fun c => by
      rcases c.toNat with _ | _ | _ | n <;> simp [List.getD]
    exact ⟨rfl, rfl, fun c => by rw [key]; decide, fun c => by rw [key]; decide⟩
  have key : ∀ c : Int, ([0, 0, 0] : List Int).getD c.toNat 0 = 0 := fun c => by
    rcases c.toNat with _ | _ | _ | n <;> simp [List.getD]
  have i0 : SInv [] [0, 0, 0] [0, 0, 0] 0 := ⟨fun j s h => by simp at h, fun j j' s s' h => by simp at h, fun j j' s s' h => by simp at h, fun c c0 c1 m m0 m1 => by rw [key] at m1; omega, fun c c0 c1 a => by rw [key] at a; omega, rfl, by simp⟩
  obtain ⟨z, hz, out, A, N, rfl, h1, h2⟩ : ∃ z, spansH_w0 (h, (h.length : Int), 0, [], ()) = some z ∧ ∃ out A N, z = .inr (out, ()) ∧ SInv out A N h.length ∧ A.length = 3 := by
    refine iterO_b (step := spansH_l0) (fun y => ∃ (i : Int) (out : List SpT) (A N : List Int), y = (h, (h.length : Int), i, out, ()) ∧ 0 ≤ i ∧ i ≤ h.length ∧ SInv out A N i ∧ StH A N i ∧ Hg A N (h.drop i.toNat)) (fun y => ((h.length : Int) - y.2.2.1).toNat) _ ?_ _ ⟨0, [], _, _, rfl, Int.le_refl 0, by omega, i0, s0, hg⟩
    rintro y ⟨i, out, A, N, rfl, j0, j1, hI, hS, hd⟩
    by_cases hi : i < (h.length : Int)
    · have hlt : i.toNat < h.length := by omega
      rw [drop_get h i ehZ j0 hi] at hd
      generalize he : h.getD i.toNat ehZ = e at hd
      generalize hl : h.drop (i + 1).toNat = l at hd
      cases hd with
      | cons A N k t l k0 k1 hr =>
        obtain ⟨s, hs, out', rfl, hI'⟩ := spansH_step hI hS j0 hi hh k0 k1 he
        refine ⟨_, hs, .inl ⟨_, rfl, ⟨i + 1, out', _, _, rfl, by omega, by omega, hI', genE_st hS (by omega) t k0 k1, by rw [hl]; exact hr⟩, by dsimp only; omega⟩⟩
    · have : i = (h.length : Int) := by omega
      subst this
      refine ⟨.inr (.inr (out, ())), ?_, .inr ⟨_, rfl, out, A, N, rfl, hI, hS.la⟩⟩
      unfold spansH_l0
      simp only [Br.run, decide_eq_false hi, cond_false]
  refine ⟨out, A, N, ?_, h1, h2⟩
  unfold spansH spansH_B
  simp only [Br.run, hz]

theorem done_few {out : List SpT} {A N : List Int} {i : Int} (h : SInv out A N i) (hA : A.length = 3) (hi : i ≤ 30) : out.countP isT ≤ 11 ∧ out.length ≤ 30 := by
  have h1 := h.cnt
  have h2 := h.cu
  have h3 : A.countP (· == 2) ≤ 3 := hA ▸ List.countP_le_length
  have h4 : out.countP isT ≤ out.length := List.countP_le_length
  omega

def ahd (a b : SpT) : Bool := decide (0 ≤ rep a) && decide (rep a < cal b)
theorem aheadH_at (a b : SpT) : aheadH (a, b, ()) = some (ahd a b, ()) := by
  unfold aheadH aheadH_B ahd
  by_cases h : a.2.2.2.2.1 ≥ 0
  · have h' : 0 ≤ rep a := h
    simp only [Br.run, decide_eq_true h, cond_true, decide_eq_true h', Bool.true_and]
  · have h' : ¬ 0 ≤ rep a := h
    simp only [Br.run, decide_eq_false h, cond_false, decide_eq_false h', Bool.false_and]

def Resp (l : List SpT) : Prop := ∀ i j : Nat, j < i → i < l.length → ahd (l.getD i spZ) (l.getD j spZ) = false
theorem respH_w1_at (l : List SpT) (hl : l.length ≤ 1000) (i : Int) (i0 : 0 ≤ i) (i1 : i < l.length) (n : Int) : ∃ z, respH_w1 (l, i, n, i, i, 0, ()) = some z ∧ ((z = .inl () ∧ ∃ j : Nat, (j : Int) < i ∧ ahd (l.getD i.toNat spZ) (l.getD j spZ) = true) ∨ (z = .inr (l, n, i, ()) ∧ ∀ j : Nat, (j : Int) < i → ahd (l.getD i.toNat spZ) (l.getD j spZ) = false)) := by
  refine iterO_b (step := respH_l1) (fun y => ∃ j : Int, y = (l, i, n, i, i, j, ()) ∧ 0 ≤ j ∧ j ≤ i ∧ ∀ k : Nat, (k : Int) < j → ahd (l.getD i.toNat spZ) (l.getD k spZ) = false) (fun y => (i - y.2.2.2.2.2.1).toNat) _ ?_ _ ⟨0, rfl, Int.le_refl 0, i0, fun k h => by omega⟩
  rintro y ⟨j, rfl, j0, j1, h⟩
  unfold respH_l1
  by_cases hj : j < i
  · have hw : IntKind.wrap .i64 (j + 1) = j + 1 := Go.PI.wrap_small (by omega) (by omega)
    have jl : j < (l.length : Int) := by omega
    cases ha : ahd (l.getD i.toNat spZ) (l.getD j.toNat spZ)
    · refine ⟨.inl (l, i, n, i, i, j + 1, ()), ?_, .inl ⟨_, rfl, ⟨j + 1, rfl, by omega, by omega, fun k hk => ?_⟩, by dsimp only; omega⟩⟩
      · simp only [Br.run, decide_eq_true hj, decide_eq_true i0, decide_eq_true i1, decide_eq_true j0, decide_eq_true jl, Bool.and_self, cond_true, aheadH_at, ha, cond_false, hw]
      · by_cases e : (k : Int) < j
        · exact h k e
        · have : k = j.toNat := by omega
          rw [this]; exact ha
    · refine ⟨.inr (.inl ()), ?_, .inr ⟨_, rfl, .inl ⟨rfl, j.toNat, by omega, ha⟩⟩⟩
      simp only [Br.run, decide_eq_true hj, decide_eq_true i0, decide_eq_true i1, decide_eq_true j0, decide_eq_true jl, Bool.and_self, cond_true, aheadH_at, ha]
  · refine ⟨.inr (.inr (l, n, i, ())), ?_, .inr ⟨_, rfl, .inr ⟨rfl, fun k hk => h k (by omega)⟩⟩⟩
    simp only [Br.run, decide_eq_false hj, cond_false]
theorem respH_at (l : List SpT) (hl : l.length ≤ 1000) : ∃ b, respH (l, ()) = some (b, ()) ∧ (b = true ↔ Resp l) := by
  obtain ⟨z, hz, hq⟩ : ∃ z, respH_w0 (l, (l.length : Int), 0, ()) = some z ∧ ((z = .inl () ∧ ¬ Resp l) ∨ (z = .inr () ∧ Resp l)) := by
    refine iterO_b (step := respH_l0) (fun y => ∃ i : Int, y = (l, (l.length : Int), i, ()) ∧ 0 ≤ i ∧ i ≤ l.length ∧ ∀ a b : Nat, b < a → (a : Int) < i → ahd (l.getD a spZ) (l.getD b spZ) = false) (fun y => ((l.length : Int) - y.2.2.1).toNat) _ ?_ _ ⟨0, rfl, Int.le_refl 0, by omega, fun a b _ h => by omega⟩
    rintro y ⟨i, rfl, i0, i1, h⟩
    unfold respH_l0
    by_cases hi : i < (l.length : Int)
    · have hw : IntKind.wrap .i64 (i + 1) = i + 1 := Go.PI.wrap_small (by omega) (by omega)
      obtain ⟨z, e1, ⟨rfl, j, hj, hv⟩ | ⟨rfl, hv⟩⟩ := respH_w1_at l hl i i0 hi (l.length : Int)
      · refine ⟨.inr (.inl ()), ?_, .inr ⟨_, rfl, .inl ⟨rfl, fun hr => ?_⟩⟩⟩
        · simp only [Br.run, decide_eq_true hi, cond_true, e1]
        · have := hr i.toNat j (by omega) (by omega)
          rw [hv] at this
          cases this
      · refine ⟨.inl (l, (l.length : Int), i + 1, ()), ?_, .inl ⟨_, rfl, ⟨i + 1, rfl, by omega, by omega, fun a b hab ha => ?_⟩, by dsimp only; omega⟩⟩
        · simp only [Br.run, decide_eq_true hi, cond_true, e1, hw]
        · by_cases e : (a : Int) < i
          · exact h a b hab e
          · have : a = i.toNat := by omega
            rw [this]
            exact hv b (by omega)
    · refine ⟨.inr (.inr ()), ?_, .inr ⟨_, rfl, .inr ⟨rfl, fun a b hab ha => h a b hab (by omega)⟩⟩⟩
      simp only [Br.run, decide_eq_false hi, cond_false]
  unfold respH respH_B
  simp only [Br.run, hz]
  rcases hq with ⟨rfl, k⟩ | ⟨rfl, k⟩
  · exact ⟨false, rfl, ⟨fun h => (by cases h), fun h => absurd h k⟩⟩
  · exact ⟨true, rfl, ⟨fun _ => k, fun _ => rfl⟩⟩

theorem orderH_at {out : List SpT} {A N : List Int} {i : Int} (h : SInv out A N i) (hi : i ≤ 30) (hA : A.length = 3) :
    ∃ o, orderH (out, ()) = some (o, ()) ∧ o.Perm (out.filter isT) ∧ ∀ x y : Nat, x < y → y < o.length → turn (o.getD x spZ) ≤ turn (o.getD y spZ) := by
  obtain ⟨hf, hl⟩ := done_few h hA hi
  obtain ⟨z, hz, rfl⟩ : ∃ z, orderH_w0 (out, (out.length : Int), 0, [], ()) = some z ∧ z = (out.filter isT, ()) := by
    refine iterO_b (step := orderH_l0) (fun y => ∃ (i : Int) (acc : List SpT), y = (out, (out.length : Int), i, acc, ()) ∧ 0 ≤ i ∧ i ≤ out.length ∧ (acc.length : Int) ≤ i ∧ out.filter isT = acc ++ (out.drop i.toNat).filter isT) (fun y => ((out.length : Int) - y.2.2.1).toNat) _ ?_ _ ⟨0, [], rfl, Int.le_refl 0, by omega, by simp, rfl⟩
    rintro y ⟨i, acc, rfl, i0, i1, ha, hd⟩
    unfold orderH_l0
    by_cases hj : i < (out.length : Int)
    · have hw : IntKind.wrap .i64 (i + 1) = i + 1 := Go.PI.wrap_small (by omega) (by omega)
      rw [drop_get out i spZ i0 hj, List.filter_cons] at hd
      have hb : (acc.length + 1) * 104 ≤ 140737488355328 := by omega
      have hb' : ∀ v : SpT, (acc.length + List.length (List.set (List.replicate 1 spZ) 0 v)) * 104 ≤ 140737488355328 := fun v => hb
      by_cases ht : turn (out.getD i.toNat spZ) ≥ 0
      · have hT : isT (out.getD i.toNat spZ) = true := decide_eq_true ht
        rw [hT, if_pos rfl] at hd
        refine ⟨.inl (out, (out.length : Int), i + 1, acc ++ [out.getD i.toNat spZ], ()), ?_, .inl ⟨_, rfl, ⟨i + 1, _, rfl, by omega, by omega, ?_, by rw [hd, List.append_assoc]; rfl⟩, by dsimp only; omega⟩⟩
        · simp only [Br.run, decide_eq_true hj, decide_eq_true i0, Bool.and_self, cond_true, decide_eq_true ht, decide_eq_true (hb' _), hw]
          rfl
        · rw [List.length_append, List.length_singleton]; omega
      · have hT : isT (out.getD i.toNat spZ) = false := decide_eq_false ht
        rw [hT] at hd
        refine ⟨.inl (out, (out.length : Int), i + 1, acc, ()), ?_, .inl ⟨_, rfl, ⟨i + 1, acc, rfl, by omega, by omega, by omega, by simpa using hd⟩, by dsimp only; omega⟩⟩
        simp only [Br.run, decide_eq_true hj, decide_eq_true i0, Bool.and_self, cond_true, decide_eq_false ht, cond_false, hw]
    · refine ⟨.inr (acc, ()), ?_, .inr ⟨_, rfl, ?_⟩⟩
      · simp only [Br.run, decide_eq_false hj, cond_false]
      · rw [hd, List.drop_eq_nil_of_le (by omega)]
        simp
  have hlen : (out.filter isT).length ≤ 12 := by rw [← List.countP_eq_length_filter]; omega
  obtain ⟨o, e1, e2, e3⟩ := sortSp_at (out.filter isT) (fun s hs => by
    obtain ⟨j, hj⟩ := List.getElem?_of_mem (List.mem_filter.1 hs).1
    have := (h.ps j s hj).2.1
    omega) hlen
  refine ⟨o, ?_, e2, fun x y a b => e3 x y a (by rw [← e2.length_eq]; exact b)⟩
  unfold orderH orderH_B
  simp only [Br.run, hz, e1]
end Go.Proofs.Ytnhiplibodkciaa
