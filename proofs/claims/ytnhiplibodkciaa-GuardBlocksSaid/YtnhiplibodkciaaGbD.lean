/- GuardBlocks: the statement comes to true, where queries are made. -/
import Derived.Test.YtnhiplibodkciaaGbC
import Derived.Test.YtnhiplibodkciaaW4
namespace Go.Proofs.Ytnhiplibodkciaa
open Go.PI Go

theorem awake23_at : awake23 () = some (true, ()) := awake23_le 100 _ _ (by kernel_rfl)

theorem blocksG_at {q : Qry} (h : QOk q) (hq : q.1.length ≤ 100) (k : Int) (hk0 : 0 ≤ k) (hk : k < q.1.length) (r : RunT) (hr : r.2.2.1.length ≤ 60) (sq : Int) (hm : r.2.1 = [(k, sq)]) (e : Evt) :
    blocksG (sch3, q, r, e, ()) = some ((negsF (k + 1) (q.1.drop (k + 1).toNat)).any (fitP q r e), ()) := by
  unfold blocksG blocksG_B runLen runLen_B runElem runElem_B newestP newestP_B
  have hn := negsF_len (q.1.drop (k + 1).toNat) (k + 1)
  rw [List.length_drop] at hn
  have e1 : (((([(k, sq)] : List (Int × Int)).length : Nat) : Int) == 0) = false := rfl
  have e2 : List.isEmpty [(k, sq)] = false := rfl
  have e3 : List.headD [(k, sq)] (0, 0) = (k, sq) := rfl
  simp only [Br.run, lenP_at, hm, e1, e2, e3, cond_false, Bool.not_false, cond_true, Bool.not_true, betwQ_at q hq k hk hk0]
  rw [blocksG_w0_at h r hr e _ (by omega) 0 (by omega) (by omega)]
  rw [Int.toNat_zero, List.drop_zero]
  cases (negsF (k + 1) (q.1.drop (k + 1).toNat)).any (fitP q r e) <;> rfl
theorem blocksG_0 (q : Qry) (e : Evt) : blocksG (sch3, q, run0, e, ()) = some (false, ()) := by
  unfold blocksG blocksG_B runLen runLen_B
  simp only [Br.run, lenP_at]
  rfl

theorem guardBlocks_of (p : List Int) (l : List Evt) (n : Int) {q : Qry} (hq : queryQ (p, ()) = some (q, ())) (h : QOk q) (h1 : 1 ≤ q.1.length) (h4 : q.1.length ≤ 4) : guardBlocks (p, l, n, ()) = some (true, ()) := by
  unfold guardBlocks guardBlocks_B
  obtain ⟨x, hx, hxl⟩ := eventsR_tot l
  have hM := mask_in n 255 (by decide) (by decide)
  dsimp only
  generalize IntKind.wrap IntKind.i64 (↑(BitVec.toNat (BitVec.ofInt (IntKind.bits IntKind.i64) n &&& BitVec.ofInt (IntKind.bits IntKind.i64) 255)) : Int) = M at hM ⊢
  have hT0 : 0 ≤ Int.tmod M (q.1.length : Int) := Int.tmod_nonneg _ hM.1
  have hT1 : Int.tmod M (q.1.length : Int) < q.1.length := Int.tmod_lt_of_pos M (by omega)
  simp only [Br.run, typesR_at, newS_T3, hq, hx, awake23_at]
  by_cases h2 : ((x.length : Int) < 2)
  · simp only [decide_eq_true h2, cond_true]
  · have hl0 : ¬ ((q.1.length : Int) = 0) := by omega
    have hx0 : (0 : Int) < (x.length : Int) := by omega
    have hx1 : (1 : Int) < (x.length : Int) := by omega
    generalize hK : Int.tmod M (q.1.length : Int) = k at hT0 hT1 ⊢
    have hw : IntKind.wrap .i64 (k + 1) = k + 1 := Go.PI.wrap_small (by omega) (by omega)
    have he : (x.getD (Int.toNat 0) evZ).2.2.2.2.length ≤ 1000 := by
      have hlt : 0 < x.length := by omega
      have : x.getD (Int.toNat 0) evZ = x[0] := by simp [List.getD, hlt]
      rw [this]
      have := hxl _ (List.getElem_mem hlt)
      omega
    obtain ⟨r, hr, hr6, hrm⟩ := runWith0 q k hT0 hT1 (x.getD (Int.toNat 0) evZ) he
    have hr' : runWith ((0, [], [], 0, (0, 0, 0), false), q, 1, k, List.getD x (Int.toNat 0) (ByteArray.empty, ByteArray.empty, 0, 0, []), ()) = some (r, ()) := hr
    simp only [decide_eq_false h2, decide_eq_false hl0, decide_eq_true hx0, decide_eq_true (Nat.le_refl 0), decide_eq_true (Int.le_refl 0), cond_false, cond_true, Bool.and_self, decide_true, hr', Br.run, hw]
    rw [guard_w0_at h (by omega) r hr6 x (by omega) false (k + 1) (by omega) (by omega)]
    have e1 : Int.toNat 1 = 1 := rfl
    simp only [Br.run, decide_eq_true hx1, e1, Bool.false_or, blocksG_at h (by omega) k hT0 hT1 r hr6 _ hrm, blocksG_0, cond_true, beq_self_eq_true, Bool.not_false, Int.reduceLE, Nat.reduceLeDiff, decide_true, Bool.and_self]
end Go.Proofs.Ytnhiplibodkciaa
