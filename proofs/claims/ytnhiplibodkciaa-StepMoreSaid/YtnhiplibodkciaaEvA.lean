/- What the parts of predicates come to: whatever the parts, an answer. -/
import Derived.Test.YtnhiplibodkciaaR3a
namespace Go.Proofs.Ytnhiplibodkciaa
open Go.PI Go

abbrev Val := Int × (Int × (ByteArray × Bool))
abbrev Nd := Int × (Val × (ByteArray × ByteArray))
abbrev Evt := ByteArray × (ByteArray × (Int × (Int × List Val)))
abbrev Bnd := ByteArray × Evt
abbrev Flds := List (ByteArray × Int)
abbrev Sch := Option (List (ByteArray × Flds))

def pt (op : Int) : Int := if op = 1 then 0 else if op = 2 then 0 else if op = 3 then 1 else if op = 13 then 1 else if 4 ≤ op then (if op ≤ 15 then 2 else -1) else -1

theorem partsT_at (op : Int) : partsT (op, ()) = some (pt op, ()) := by
  unfold partsT partsT_B pt
  simp only [Br.run, cond_eq_ite, beq_iff_eq, decide_eq_true_eq, ge_iff_le]
  repeat' split
  all_goals first | rfl | omega

theorem letter_tot (c : Int) : ∃ b, letter (c, ()) = some (b, ()) := by
  unfold letter letter_B
  simp only [Br.run, cond_eq_ite]
  repeat' split
  all_goals exact ⟨_, rfl⟩

theorem nameF_w0_tot (s : ByteArray) (hs : s.size ≤ 16) (i : Int) (h0 : 0 ≤ i) (h1 : i ≤ s.size) : ∃ z, nameF_w0 (s, (s.size : Int), i, ()) = some z ∧ ∀ y, z = .inr y → y.1 = s := by
  refine iterO_rec (step := fun x => (nameF_l0 x).run) (Q := fun _ z => ∀ y, z = .inr y → y.1 = s) (fun x => x.1 = s ∧ x.2.1 = (s.size : Int) ∧ 0 ≤ x.2.2.1 ∧ x.2.2.1 ≤ s.size) (fun x => ((s.size : Int) - x.2.2.1).toNat) ?_ _ ⟨rfl, rfl, h0, h1⟩
  rintro ⟨s', n, i, ⟨⟩⟩ hx
  dsimp only at hx ⊢
  obtain ⟨rfl, rfl, h0, h1⟩ := hx
  unfold nameF_l0
  by_cases hi : i < (s'.size : Int)
  · obtain ⟨b, hb⟩ := letter_tot ((List.getD (bl s') (Int.toNat i) 0).toNat : Int)
    have hw : IntKind.wrap .i64 (i + 1) = i + 1 := wrap_small (by omega) (by omega)
    simp only [Br.run, decide_eq_true hi, decide_eq_true h0, Bool.and_self, cond_true, hb, hw]
    cases b
    · simp only [Bool.not_false, cond_true, cond_eq_ite, ↓reduceIte]
      split
      · exact .inr ⟨_, rfl, by intro y hy; cases hy⟩
      · split
        · exact .inr ⟨_, rfl, by intro y hy; cases hy⟩
        · exact .inl ⟨_, rfl, ⟨rfl, rfl, by dsimp only; omega, by dsimp only; omega⟩, by dsimp only; omega, fun z hz => hz⟩
    · exact .inl ⟨_, rfl, ⟨rfl, rfl, by dsimp only; omega, by dsimp only; omega⟩, by dsimp only; omega, fun z hz => hz⟩
  · simp only [Br.run, decide_eq_false hi, cond_false]
    exact .inr ⟨_, rfl, by intro y hy; cases hy; rfl⟩

theorem nameF_w1_tot (s : ByteArray) (hs : s.size ≤ 16) (i : Int) (h0 : 0 ≤ i) : ∃ z, nameF_w1 (s, (44 - s.size - 1 : Int), i, ()) = some z ∧ True := by
  refine iterO_rec (step := fun x => (nameF_l1 x).run) (Q := fun _ _ => True) (fun x => x.1 = s ∧ x.2.1 = (44 - s.size - 1 : Int) ∧ 0 ≤ x.2.2.1) (fun x => ((44 : Int) - x.2.2.1).toNat) ?_ _ ⟨rfl, rfl, h0⟩
  rintro ⟨s', n, i, ⟨⟩⟩ hx
  dsimp only at hx ⊢
  obtain ⟨rfl, rfl, h0⟩ := hx
  unfold nameF_l1
  by_cases hi : i < 44 - (s'.size : Int) - 1
  · have hw : IntKind.wrap .i64 (i + 1) = i + 1 := wrap_small (by omega) (by omega)
    have hw2 : IntKind.wrap .i64 (i + (s'.size : Int)) = i + (s'.size : Int) := wrap_small (by omega) (by omega)
    have hw3 : IntKind.wrap .i64 (i + (s'.size : Int) + 2) = i + (s'.size : Int) + 2 := wrap_small (by omega) (by omega)
    have hsz : ∀ x y : ByteArray, (bcat x y).size = x.size + y.size := fun x y => by
      show (bl x ++ bl y).length = x.data.size + y.data.size
      rw [List.length_append]; rfl
    have h1 : (i ≤ i + (s'.size : Int) + 2) := by omega
    have hW : ({ data := #[32, 83, 69, 81, 32, 87, 72, 69, 82, 69, 32, 87, 73, 84, 72, 73, 78, 32, 67, 65, 80, 32, 97, 110, 100, 32, 111, 114, 32, 110, 111, 116, 32, 116, 114, 117, 101, 32, 102, 97, 108, 115, 101, 32] } : ByteArray).size = 44 := rfl
    have hB : ({ data := #[32] } : ByteArray).size = 1 := rfl
    have h2 : (i + (s'.size : Int) + 2 ≤ ((44 : Nat) : Int)) := by omega
    have h3 : 1 + s'.size ≤ 9223372036854775807 := by omega
    have h4 : 1 + s'.size + 1 ≤ 9223372036854775807 := by omega
    simp only [Br.run, hw, hw2, hw3, hsz, hW, hB, decide_eq_true hi, decide_eq_true h0, decide_eq_true h1, decide_eq_true h2, decide_eq_true h3, decide_eq_true h4, Bool.and_self, cond_true, cond_eq_ite, ↓reduceIte]
    split
    · exact .inr ⟨_, rfl, trivial⟩
    · exact .inl ⟨_, rfl, ⟨rfl, rfl, by dsimp only; omega⟩, by dsimp only; omega, fun z hz => hz⟩
  · simp only [Br.run, decide_eq_false hi, cond_false]
    exact .inr ⟨_, rfl, trivial⟩

theorem nameF_tot (s : ByteArray) : ∃ b, nameF (s, ()) = some (b, ()) := by
  unfold nameF nameF_B
  simp only [Br.run, cond_eq_ite]
  split
  · exact ⟨_, rfl⟩
  rename_i hne
  split
  · exact ⟨_, rfl⟩
  rename_i hle
  have hle : s.size ≤ 16 := by simp only [decide_eq_true_eq, gt_iff_lt] at hle; omega
  have hpos : 0 < s.size := by
    rcases Nat.eq_zero_or_pos s.size with h | h
    · exfalso
      apply hne
      have : bl s = [] := by
        have : s.data.size = 0 := h
        unfold bl
        exact List.eq_nil_of_length_eq_zero (by simpa using this)
      rw [this]; rfl
    · exact h
  have hp : (0 : Int) < (s.size : Int) := by omega
  simp only [decide_eq_true hp, decide_eq_true (Nat.le_refl 0), decide_eq_true (Int.le_refl 0), decide_true, Bool.and_self, ↓reduceIte, Br.run]
  obtain ⟨b, hb⟩ := letter_tot ((List.getD (bl s) (Int.toNat 0) 0).toNat : Int)
  simp only [hb, Br.run]
  cases b
  · exact ⟨_, rfl⟩
  obtain ⟨z, hz, hzs⟩ := nameF_w0_tot s hle 0 (by omega) (by omega)
  simp only [Bool.not_true, Bool.false_eq_true, ↓reduceIte, hz, Br.run]
  cases z with
  | inl u => exact ⟨_, rfl⟩
  | inr y =>
    obtain ⟨s', ⟨⟩⟩ := y
    obtain rfl : s' = s := hzs _ rfl
    have hw : IntKind.wrap .i64 (44 - (s'.size : Int)) = 44 - (s'.size : Int) := wrap_small (by omega) (by omega)
    have hw2 : IntKind.wrap .i64 (44 - (s'.size : Int) - 1) = 44 - (s'.size : Int) - 1 := wrap_small (by omega) (by omega)
    obtain ⟨z, hz, -⟩ := nameF_w1_tot s' hle 0 (by omega)
    simp only [hw, hw2, hz, Br.run]
    cases z <;> exact ⟨_, rfl⟩

theorem mayV_tot (v : Val) : ∃ b, mayV (v, ()) = some (b, ()) := by
  unfold mayV mayV_B numV numV_B textV textV_B truthV truthV_B
  simp only [Br.run, cond_eq_ite]
  repeat' split
  all_goals exact ⟨_, rfl⟩

theorem nodeM_tot (n : Nd) : ∃ b, nodeM (n, ()) = some (b, ()) := by
  unfold nodeM nodeM_B
  obtain ⟨b1, h1⟩ := mayV_tot n.2.1
  obtain ⟨b2, h2⟩ := nameF_tot n.2.2.1
  obtain ⟨b3, h3⟩ := nameF_tot n.2.2.2
  simp only [Br.run, cond_eq_ite, h1, h2, h3]
  repeat' split
  all_goals exact ⟨_, rfl⟩

/-- May a node be? -/
noncomputable def nodeOk (n : Nd) : Bool := match nodeM (n, ()) with
  | some (b, ()) => b
  | none => false
theorem nodeM_at (n : Nd) : nodeM (n, ()) = some (nodeOk n, ()) := by
  obtain ⟨b, h⟩ := nodeM_tot n
  simp only [nodeOk, h]

/-- How deep it gets. -/
noncomputable def runD : Int → List Nd → Option Int
  | d, [] => some d
  | d, n :: r => if pt n.1 < 0 then none else if nodeOk n = false then none else if d < pt n.1 then none else runD (d + 1 - pt n.1) r

theorem pt_le (op : Int) : pt op ≤ 2 ∧ -1 ≤ pt op := by
  unfold pt
  repeat' split
  all_goals omega

theorem drop_get {α : Type} (l : List α) (i : Int) (d : α) (h0 : 0 ≤ i) (h1 : i < (l.length : Int)) : l.drop i.toNat = l.getD i.toNat d :: l.drop (i + 1).toNat := by
  have h : i.toNat < l.length := by omega
  have e : (i + 1).toNat = i.toNat + 1 := by omega
  rw [e, List.drop_eq_getElem_cons h]
  simp [List.getD, h]

theorem mayT_w0_at (l : List Nd) (hl : l.length ≤ 64) (d i : Int) (h0 : 0 ≤ i) (h1 : i ≤ l.length) (h2 : 0 ≤ d) (h3 : d ≤ i) :
    mayT_w0 (d, l, (l.length : Int), i, ()) = some (match runD d (l.drop i.toNat) with | none => .inl () | some d' => .inr (d', ())) := by
  suffices h : ∃ z, mayT_w0 (d, l, (l.length : Int), i, ()) = some z ∧ z = (match runD d (l.drop i.toNat) with | none => .inl () | some d' => .inr (d', ())) by
    obtain ⟨z, h, rfl⟩ := h
    exact h
  refine iterO_rec (step := fun x => (mayT_l0 x).run) (Q := fun x z => z = (match runD x.1 (l.drop x.2.2.2.1.toNat) with | none => .inl () | some d' => .inr (d', ()))) (fun x => x.2.1 = l ∧ x.2.2.1 = (l.length : Int) ∧ 0 ≤ x.2.2.2.1 ∧ x.2.2.2.1 ≤ l.length ∧ 0 ≤ x.1 ∧ x.1 ≤ x.2.2.2.1) (fun x => ((l.length : Int) - x.2.2.2.1).toNat) ?_ _ ⟨rfl, rfl, h0, h1, h2, h3⟩
  rintro ⟨d, l', n, i, ⟨⟩⟩ hx
  dsimp only at hx ⊢
  obtain ⟨rfl, rfl, h0, h1, h2, h3⟩ := hx
  unfold mayT_l0
  by_cases hi : i < (l'.length : Int)
  · have hw : IntKind.wrap .i64 (i + 1) = i + 1 := wrap_small (by omega) (by omega)
    rw [drop_get l' i (0, (0, 0, ByteArray.empty, false), ByteArray.empty, ByteArray.empty) h0 hi]
    simp only [Br.run, decide_eq_true hi, decide_eq_true h0, Bool.and_self, cond_true, hw, partsT_at, nodeM_at, runD, cond_eq_ite, decide_eq_true_eq]
    generalize l'.getD i.toNat (0, (0, 0, ByteArray.empty, false), ByteArray.empty, ByteArray.empty) = nd
    obtain ⟨hp2, hp1⟩ := pt_le nd.1
    have hw1 : IntKind.wrap .i64 (1 - pt nd.1) = 1 - pt nd.1 := wrap_small (by omega) (by omega)
    have hw2 : IntKind.wrap .i64 (d + (1 - pt nd.1)) = d + 1 - pt nd.1 := by rw [wrap_small (by omega) (by omega)]; omega
    simp only [hw1, hw2]
    by_cases hp : pt nd.1 < 0
    · simp only [hp, if_true]
      exact .inr ⟨_, rfl, rfl⟩
    · simp only [hp, if_false]
      cases nodeOk nd
      · simp only [Bool.not_false, if_true]
        exact .inr ⟨_, rfl, rfl⟩
      · simp only [Bool.not_true, Bool.false_eq_true, Bool.true_eq_false, if_false]
        by_cases hd : d < pt nd.1
        · simp only [hd, if_true]
          exact .inr ⟨_, rfl, rfl⟩
        · simp only [hd, if_false]
          exact .inl ⟨_, rfl, ⟨rfl, rfl, by dsimp only; omega, by dsimp only; omega, by dsimp only; omega, by dsimp only; omega⟩, by dsimp only; omega, fun z hz => hz⟩
  · simp only [Br.run, decide_eq_false hi, cond_false]
    have : l'.drop i.toNat = [] := List.drop_eq_nil_of_le (by omega)
    rw [this]
    exact .inr ⟨_, rfl, rfl⟩

theorem mayT_at (l : List Nd) : mayT (l, ()) = some (decide (l.length ≤ 64) && (runD 0 l == some 1), ()) := by
  unfold mayT mayT_B
  by_cases h : l.length ≤ 64
  · have h' : ¬ ((l.length : Int) > 64) := by omega
    simp only [Br.run, decide_eq_false h', cond_false, decide_eq_true h, Bool.true_and]
    rw [mayT_w0_at l h 0 0 (by omega) (by omega) (by omega) (by omega)]
    simp only [Int.toNat_zero, List.drop_zero]
    cases runD 0 l with
    | none => rfl
    | some d => rfl
  · have h' : ((l.length : Int) > 64) := by omega
    simp only [Br.run, decide_eq_true h', cond_true, decide_eq_false h, Bool.false_and]
end Go.Proofs.Ytnhiplibodkciaa
