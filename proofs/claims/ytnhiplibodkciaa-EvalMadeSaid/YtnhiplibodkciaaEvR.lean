/- Parts of two values: whatever comes in, the statement comes to true. -/
import Derived.Test.YtnhiplibodkciaaEvQ
namespace Go.Proofs.Ytnhiplibodkciaa
open Go.PI Go

def nC (v : Val) : Nd := (1, v, ByteArray.empty, ByteArray.empty)
def nO (op : Int) : Nd := (op, (0, 0, ByteArray.empty, false), ByteArray.empty, ByteArray.empty)
/-- A constant that may be. -/
def VC (v : Val) : Prop := VN v ∧ v.2.1 ≠ -9223372036854775808 ∧ v.2.2.1.size ≤ 64

theorem nodeOk_of {n : Nd} (h : nodeM (n, ()) = some (true, ())) : nodeOk n = true := by simp only [nodeOk, h]
theorem nodeOk_C {v : Val} (h : VC v) : nodeOk (nC v) = true := by
  obtain ⟨h1, h2, h3⟩ := h
  apply nodeOk_of
  unfold nodeM nodeM_B mayV mayV_B numV numV_B textV textV_B truthV truthV_B
  cases h1 with
  | i m hm =>
    have h2' : ¬ m = -9223372036854775808 := h2
    have hb : (m != -9223372036854775808) = true := by rw [bne_iff_ne]; exact h2'
    simp only [Br.run, nC, beq_self_eq_true, cond_true, decide_true, Bool.and_self, hb]
    rfl
  | s x =>
    have h3' : x.size ≤ 64 := h3
    have h3'' : ((x.size : Nat) : Int) ≤ 64 := by omega
    have e2 : ((2 : Int) == 1) = false := rfl
    simp only [Br.run, nC, e2, beq_self_eq_true, cond_true, cond_false, decide_true, Bool.and_self]
    show (bif decide ((x.size : Int) ≤ 64) then some (true, ()) else some (false, ())) = some (true, ())
    rw [decide_eq_true h3'']
    rfl
  | b t => simp [Br.run, nC]; rfl
theorem nodeOk_O {op : Int} (h1 : op ≠ 1) (h2 : op ≠ 2) : nodeOk (nO op) = true := by
  apply nodeOk_of
  unfold nodeM nodeM_B
  have b1 : (op == 1) = false := by rw [beq_eq_false_iff_ne]; exact h1
  have b2 : (op == 2) = false := by rw [beq_eq_false_iff_ne]; exact h2
  simp [Br.run, nO, b1, b2]
def LC (n : Nd) : Val × Bool := (n.2.1, true)
theorem leaf_C {s : Sch} {env : List Bnd} {v : Val} (h : VC v) : LeafOk s env LC (nC v) :=
  { ok := nodeOk_C h, op := .inl rfl, vn := fun _ => h.1, c := fun _ => rfl, f := fun h => by simp [nC] at h, r := fun h => by simp [nC] at h }

theorem tmod13 (x : Int) (h : 0 ≤ x) : 0 ≤ Int.tmod x 13 ∧ Int.tmod x 13 < 13 := ⟨Int.tmod_nonneg 13 h, Int.tmod_lt_of_pos x (by decide)⟩

theorem valueL_at {v : Val} (hv : In64 v.2.1) : ∃ u, valueL (v, ()) = some (u, ()) ∧ VC u := by
  obtain ⟨k, i, x, b⟩ := v
  unfold valueL valueL_B
  have hM := mask_in i 3 (by decide) (by decide)
  simp only [Br.run]
  generalize IntKind.wrap IntKind.i64 (↑(BitVec.toNat (BitVec.ofInt (IntKind.bits IntKind.i64) i &&& BitVec.ofInt (IntKind.bits IntKind.i64) 3)) : Int) = M at hM ⊢
  have hm : (if 4 < (↑(ByteArray.size x) : Int) then 4 else (↑(ByteArray.size x) : Int)) = ((min x.size 4 : Nat) : Int) := by split <;> omega
  rw [hm]
  by_cases m0 : (M == 0) = true
  · have h1 : (0 : Int) ≤ ((min x.size 4 : Nat) : Int) := by omega
    have h2 : ((min x.size 4 : Nat) : Int) ≤ (x.size : Int) := by omega
    simp only [m0, cond_true, decide_eq_true h1, decide_eq_true h2, decide_eq_true (Nat.le_refl 0), decide_eq_true (Int.le_refl 0), decide_true, Bool.and_self]
    refine ⟨_, rfl, .s _, (by decide : (0 : Int) ≠ -9223372036854775808), ?_⟩
    show ((bl x).take (Int.toNat ((min x.size 4 : Nat) : Int)) |>.drop (Int.toNat 0)).length ≤ 64
    rw [List.length_drop, List.length_take]
    omega
  · have m0' : (M == 0) = false := by simpa using m0
    simp only [m0', cond_false]
    by_cases m1 : (M == 1) = true
    · simp only [m1, cond_true]
      exact ⟨_, rfl, .b _, (by decide : (0 : Int) ≠ -9223372036854775808), (by decide : (0 : Nat) ≤ 64)⟩
    · have m1' : (M == 1) = false := by simpa using m1
      simp only [m1', cond_false]
      by_cases c : (i == -9223372036854775808) = true
      · simp only [c, cond_true]
        exact ⟨_, rfl, .i 5 (by decide), (by decide : (5 : Int) ≠ -9223372036854775808), (by decide : (0 : Nat) ≤ 64)⟩
      · have c' : (i == -9223372036854775808) = false := by simpa using c
        simp only [c', cond_false]
        exact ⟨_, rfl, .i i hv, (by simpa using c : i ≠ -9223372036854775808), (by decide : (0 : Nat) ≤ 64)⟩

/-- Alike values, as a statement compares them. -/
theorem eq_self_V (v : Val) : (decide (v.1 = v.1) && (decide (v.2.1 = v.2.1) && (bl v.2.2.1 == bl v.2.2.1 && v.2.2.2 == v.2.2.2))) = true := by simp

theorem evalParts_at (op : Int) {a b : Val} (ha : In64 a.2.1) (hb : In64 b.2.1) : evalParts (op, a, b, ()) = some (true, ()) := by
  unfold evalParts evalParts_B
  obtain ⟨x, hx, hxc⟩ := valueL_at ha
  obtain ⟨y, hy, hyc⟩ := valueL_at hb
  have hM := mask_in op 255 (by decide) (by decide)
  have hT := tmod13 _ hM.1
  dsimp only
  generalize Int.tmod (IntKind.wrap IntKind.i64 (↑(BitVec.toNat (BitVec.ofInt (IntKind.bits IntKind.i64) op &&& BitVec.ofInt (IntKind.bits IntKind.i64) 255)) : Int)) 13 = T at hT ⊢
  have hw : IntKind.wrap .i64 (T + 3) = T + 3 := wrap_small (by omega) (by omega)
  rw [hw]
  generalize hK : T + 3 = K
  have hF : FvTot sch3 ([] : List Bnd) := fv_tot [] (by simp)
  simp only [Br.run, typesR_at, newS_T3, cond_false, hx, hy, partsR_at, awake14_at, cond_true]
  by_cases h1 : K = 3 ∨ K = 13
  · have b1 : (pt K == 1) = true := by rw [pt_un h1]; rfl
    have hok : TmOk sch3 [] LC (.un (nO K) (.leaf (nC x))) := ⟨nodeOk_O (by omega) (by omega), h1, leaf_C hxc⟩
    have e1 := eval_tree hF hok (show (2 : Nat) ≤ 64 by decide)
    obtain ⟨w, e2, hw2⟩ := evalRF_tree hok (show (2 : Nat) ≤ 64 by decide)
    have f : (Tm.un (nO K) (.leaf (nC x))).flat = [(1, x, ByteArray.empty, ByteArray.empty), (K, (0, 0, ByteArray.empty, false), ByteArray.empty, ByteArray.empty)] := rfl
    rw [f] at e1 e2
    simp only [b1, cond_true, e1, e2, Br.run]
    by_cases c : (evT LC (.un (nO K) (.leaf (nC x)))).2 = true
    · obtain rfl := hw2 c
      simp only [c, ↓reduceIte, beq_self_eq_true, cond_true, Bool.not_true, cond_false, decide_true, Bool.and_self]
    · have c' : (evT LC (.un (nO K) (.leaf (nC x)))).2 = false := by simpa using c
      simp only [c', Bool.false_eq_true, ↓reduceIte, beq_self_eq_true, cond_true, Bool.not_false]
  · have h2 : 4 ≤ K ∧ K ≤ 15 ∧ K ≠ 13 := by omega
    have b1 : (pt K == 1) = false := by rw [pt_bin h2]; rfl
    have hok : TmOk sch3 [] LC (.bin (nO K) (.leaf (nC x)) (.leaf (nC y))) := ⟨nodeOk_O (by omega) (by omega), h2, leaf_C hxc, leaf_C hyc⟩
    have e1 := eval_tree hF hok (show (3 : Nat) ≤ 64 by decide)
    obtain ⟨w, e2, hw2⟩ := evalRF_tree hok (show (3 : Nat) ≤ 64 by decide)
    have f : (Tm.bin (nO K) (.leaf (nC x)) (.leaf (nC y))).flat = [(1, x, ByteArray.empty, ByteArray.empty), (1, y, ByteArray.empty, ByteArray.empty), (K, (0, 0, ByteArray.empty, false), ByteArray.empty, ByteArray.empty)] := rfl
    rw [f] at e1 e2
    simp only [b1, cond_false, e1, e2, Br.run]
    by_cases c : (evT LC (.bin (nO K) (.leaf (nC x)) (.leaf (nC y)))).2 = true
    · obtain rfl := hw2 c
      simp only [c, ↓reduceIte, beq_self_eq_true, cond_true, Bool.not_true, cond_false, decide_true, Bool.and_self]
    · have c' : (evT LC (.bin (nO K) (.leaf (nC x)) (.leaf (nC y)))).2 = false := by simpa using c
      simp only [c', Bool.false_eq_true, ↓reduceIte, beq_self_eq_true, cond_true, Bool.not_false]
end Go.Proofs.Ytnhiplibodkciaa
