/- Queries that are alike are the same. -/
import Derived.Test.YtnhiplibodkciaaStC
namespace Go.Proofs.Ytnhiplibodkciaa
open Go.PI Go

theorem BT.inl {α β : Type} {b : Br (α ⊕ β)} {P : α → Prop} (h : BT (fun y => ∃ x, y = .inl x ∧ P x) b) : ∃ x, b.run = some (.inl x) ∧ P x := by
  obtain ⟨y, hy, x, rfl, h⟩ := h
  exact ⟨x, hy, h⟩
theorem BT.inr {α β : Type} {b : Br (α ⊕ β)} {P : β → Prop} (h : BT (fun y => ∃ x, y = .inr x ∧ P x) b) : ∃ x, b.run = some (.inr x) ∧ P x := by
  obtain ⟨y, hy, x, rfl, h⟩ := h
  exact ⟨x, hy, h⟩
theorem BT.suml {α β γ : Type} {P : α → Prop} {c : β} {k : β → Br α} {l : γ → Br α} (h : BT P (k c)) : BT P (.sum (.inl c) k l) := h
theorem BT.sumr {α β γ : Type} {P : α → Prop} {c : γ} {k : β → Br α} {l : γ → Br α} (h : BT P (l c)) : BT P (.sum (.inr c) k l) := h
theorem BT.optR {α β γ : Type} {P : α → Prop} {o : Option (β ⊕ γ)} {k : β → Br α} {l : γ → Br α} (h : ∃ w, o = some (.inr w) ∧ BT P (l w)) : BT P (.opt o fun z => .sum z k l) := by
  obtain ⟨w, rfl, h⟩ := h
  exact h
theorem same16_w1_same (x : _) (h : x.2.2.2.2.2.2.2.2.2.2.2.2.2.2.2.2.2.2.2.2.2.2.1 = x.2.2.2.2.2.2.2.2.2.2.2.2.2.2.2.2.2.2.2.2.2.2.2.1) (h0 : 0 ≤ x.2.1) (h1 : x.2.1 ≤ x.2.2.2.2.2.2.2.2.2.2.2.2.2.2.2.2.2.2.2.2.2.2.1.2.1.length) (h2 : x.2.2.2.2.2.2.2.2.2.2.2.2.2.2.2.2.2.2.2.2.2.2.1.2.1.length ≤ 1000000) :
    ∃ z, same16_w1 x = some z ∧ (fun y z => ∃ w, z = .inr w ∧ w.1 = y.1 ∧ w.2.2.2.2.2.2.2.2.2.2.2.2.2.2.2.2.2.2.2.1 = y.2.2.2.2.2.2.2.2.2.2.2.2.2.2.2.2.2.2.2.2.1 ∧ w.2.2.2.2.2.2.2.2.2.2.2.2.2.2.2.2.2.2.2.2.1 = y.2.2.2.2.2.2.2.2.2.2.2.2.2.2.2.2.2.2.2.2.2.1) x z := by
  refine iterO_rec (step := fun x => (same16_l1 x).run) (Q := fun y z => ∃ w, z = .inr w ∧ w.1 = y.1 ∧ w.2.2.2.2.2.2.2.2.2.2.2.2.2.2.2.2.2.2.2.1 = y.2.2.2.2.2.2.2.2.2.2.2.2.2.2.2.2.2.2.2.2.1 ∧ w.2.2.2.2.2.2.2.2.2.2.2.2.2.2.2.2.2.2.2.2.1 = y.2.2.2.2.2.2.2.2.2.2.2.2.2.2.2.2.2.2.2.2.2.1) (fun y => y.2.2.2.2.2.2.2.2.2.2.2.2.2.2.2.2.2.2.2.2.2.2.1 = y.2.2.2.2.2.2.2.2.2.2.2.2.2.2.2.2.2.2.2.2.2.2.2.1 ∧ 0 ≤ y.2.1 ∧ y.2.1 ≤ y.2.2.2.2.2.2.2.2.2.2.2.2.2.2.2.2.2.2.2.2.2.2.1.2.1.length ∧ y.2.2.2.2.2.2.2.2.2.2.2.2.2.2.2.2.2.2.2.2.2.2.1.2.1.length ≤ 1000000) (fun y => ((y.2.2.2.2.2.2.2.2.2.2.2.2.2.2.2.2.2.2.2.2.2.2.1.2.1.length : Int) - y.2.1).toNat) ?_ _ ⟨h, h0, h1, h2⟩
  rintro ⟨s5, j, a0, a1, a2, a3, a4, a5, a6, a7, a8, a9, a10, a11, a12, a13, a14, a15, a16, a17, q1, q2, e1, e2, ⟨⟩⟩ hx
  dsimp only at hx ⊢
  obtain ⟨rfl, h0, h1, h2⟩ := hx
  unfold same16_l1
  by_cases hi : j < (e1.2.1.length : Int)
  · have hw : IntKind.wrap .i64 (j + 1) = j + 1 := Go.PI.wrap_small (by omega) (by omega)
    simp only [Br.run, decide_eq_true hi, decide_eq_true h0, Bool.and_self, cond_true, hw, beq_self_eq_true, Bool.not_true, cond_false]
    exact .inl ⟨_, rfl, ⟨rfl, by dsimp only; omega, by dsimp only; omega, h2⟩, by dsimp only; omega, fun z hz => hz⟩
  · simp only [Br.run, decide_eq_false hi, cond_false]
    exact .inr ⟨_, rfl, _, rfl, rfl, rfl, rfl⟩

theorem same16_w1_same2 (x : _) (h : x.2.2.2.2.2.2.2.2.2.2.2.2.2.2.2.2.2.2.2.2.2.2.1 = x.2.2.2.2.2.2.2.2.2.2.2.2.2.2.2.2.2.2.2.2.2.2.2.1) (h0 : 0 ≤ x.2.1) (h1 : x.2.1 ≤ x.2.2.2.2.2.2.2.2.2.2.2.2.2.2.2.2.2.2.2.2.2.2.1.2.1.length) (h2 : x.2.2.2.2.2.2.2.2.2.2.2.2.2.2.2.2.2.2.2.2.2.2.1.2.1.length ≤ 1000000) :
    ∃ w, same16_w1 x = some (.inr w) ∧ w.1 = x.1 ∧ w.2.2.2.2.2.2.2.2.2.2.2.2.2.2.2.2.2.2.2.1 = x.2.2.2.2.2.2.2.2.2.2.2.2.2.2.2.2.2.2.2.2.1 ∧ w.2.2.2.2.2.2.2.2.2.2.2.2.2.2.2.2.2.2.2.2.1 = x.2.2.2.2.2.2.2.2.2.2.2.2.2.2.2.2.2.2.2.2.2.1 := by
  obtain ⟨z, hz, w, rfl, h⟩ := same16_w1_same x h h0 h1 h2
  exact ⟨w, hz, h⟩

theorem same16_same {q : Qry} (h : QFew q) : same16 (q, q, ()) = some (true, ()) := by
  unfold same16 same16_B
  obtain ⟨hq, hf⟩ := h
  obtain ⟨z, hz, hq⟩ : ∃ z, same16_w0 (0, q, q, ()) = some z ∧ z = .inr () := by
    refine iterO_rec (step := fun x => (same16_l0 x).run) (Q := fun _ z => z = .inr ()) (fun y => y.2.1 = q ∧ y.2.2.1 = q ∧ 0 ≤ y.1 ∧ y.1 ≤ q.1.length) (fun y => ((q.1.length : Int) - y.1).toNat) ?_ _ ⟨rfl, rfl, Int.le_refl 0, by dsimp only; omega⟩
    rintro ⟨i, q1, q2, ⟨⟩⟩ hx
    dsimp only at hx ⊢
    obtain ⟨rfl, rfl, h0, h1⟩ := hx
    unfold same16_l0
    by_cases hi : i < (q2.1.length : Int)
    · have hw : IntKind.wrap .i64 (i + 1) = i + 1 := Go.PI.wrap_small (by omega) (by omega)
      have hlt : i.toNat < q2.1.length := by omega
      have hm : q2.1.getD i.toNat eZ' ∈ q2.1 := by rw [getD_lt _ _ _ hlt]; exact List.getElem_mem hlt
      obtain ⟨f1, f2⟩ := hf _ hm
      have e11 : same11 ((q2.1.getD i.toNat eZ').2.2.2.2.2, (q2.1.getD i.toNat eZ').2.2.2.2.2, ()) = some (true, ()) := same11_same _ (by omega)
      simp only [Br.run, decide_eq_true hi, decide_eq_true h0, Bool.and_self, cond_true, bne_self_eq_false, beq_self_eq_true, Bool.not_true, cond_false, e11]
      have g1 : 0 ≤ i + 1 := by omega
      have g2 : i + 1 ≤ (q2.1.length : Int) := by omega
      have g3 : ((q2.1.length : Int) - (i + 1)).toNat < ((q2.1.length : Int) - i).toNat := by omega
      have g4 : (0 : Int) ≤ (q2.1.getD i.toNat eZ').2.1.length := by omega
      have g5 : (q2.1.getD i.toNat eZ').2.1.length ≤ 1000000 := by omega
      refine .inl (BT.inl (BT.optR ?_))
      refine Exists.imp (fun w hx => ⟨hx.1, BT.ret ⟨_, rfl, ?_⟩⟩) (same16_w1_same2 (i, 0, _, _, _, _, _, _, _, _, _, _, _, _, _, _, _, _, _, _, q2, q2, q2.1.getD i.toNat eZ', q2.1.getD i.toNat eZ', ()) rfl (Int.le_refl 0) g4 g5)
      have w1 : w.1 = i := hx.2.1
      have w2 : w.2.2.2.2.2.2.2.2.2.2.2.2.2.2.2.2.2.2.2.1 = q2 := hx.2.2.1
      have w3 : w.2.2.2.2.2.2.2.2.2.2.2.2.2.2.2.2.2.2.2.2.1 = q2 := hx.2.2.2
      clear hx
      rw [w1, w2, w3, hw]
      exact ⟨⟨rfl, rfl, g1, g2⟩, g3, fun z hz => hz⟩
    · simp only [Br.run, decide_eq_false hi, cond_false]
      exact .inr ⟨_, rfl, rfl⟩
  subst hq
  have hn : ((q.1.length : Int) != (q.1.length : Int)) = false := by simp
  simp only [Br.run, bne_self_eq_false, cond_false, hn, hz]
end Go.Proofs.Ytnhiplibodkciaa
