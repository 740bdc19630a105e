/- Twins of functions that the kernel reckons. Printed by twin.py. -/
import Derived.Test.YtnhiplibodkciaaGe
import Derived.Test.YtnhiplibodkciaaHa
import Derived.Test.YtnhiplibodkciaaH1a
namespace Go.Proofs.Ytnhiplibodkciaa
open Go.PI Go
noncomputable def idxH_w0_n (k : Nat) : (zH3 × ((zH1 × Unit) × (Int × (Int × Unit)))) → Option ((Int × Unit) ⊕ Unit) := iterN (fun x => (idxH_l0 x).run) k
theorem idxH_w0_le (k : Nat) (x : _) : OLe (idxH_w0_n k x) (idxH_w0 x) := iterN_le (fun x => OLe.rfl' _) k x
noncomputable def idxH_B_n (k : Nat) : (zH3 × (zH1 × Unit)) → Br (Int × Unit) := fun (p0, p1, ()) =>
 (.opt ((idxH_w0_n k) (p0, (p1, ()), (↑(List.length p0) : Int), 0, ())) fun z31 =>
 (.sum z31 (fun u32 =>
 (.ret (u32.1, ()))) (fun z33 =>
 (.ret (-1, ())))))
theorem idxH_B_le (k : Nat) (x : _) : BLe (idxH_B_n k x) (idxH_B x) := by
  obtain ⟨p0, p1, ⟨⟩⟩ := x
  show BLe (idxH_B_n k _) (idxH_B _)
  unfold idxH_B_n idxH_B
  repeat' (first | with_reducible exact BLe.rfl' _ | with_reducible exact OLe.rfl' _ | with_reducible apply BLe.cond | (with_reducible refine BLe.opt ?_ fun _ => ?_) | (with_reducible refine BLe.sum (fun _ => ?_) fun _ => ?_) | exact idxH_w0_le k _)
noncomputable def idxH_n (k : Nat) : (zH3 × (zH1 × Unit)) → Option (Int × Unit) := fun x => (idxH_B_n k x).run
theorem idxH_le (k : Nat) (x : _) : OLe (idxH_n k x) (idxH x) := idxH_B_le k x
noncomputable def atH_B_n (k : Nat) : (zH3 × (zH1 × Unit)) → Br (Int × Unit) := fun (p0, p1, ()) =>
 (.opt ((idxH_n k) (p0, p1, ())) fun y3 =>
 (.ret (y3.1, ())))
theorem atH_B_le (k : Nat) (x : _) : BLe (atH_B_n k x) (atH_B x) := by
  obtain ⟨p0, p1, ⟨⟩⟩ := x
  show BLe (atH_B_n k _) (atH_B _)
  unfold atH_B_n atH_B
  repeat' (first | with_reducible exact BLe.rfl' _ | with_reducible exact OLe.rfl' _ | with_reducible apply BLe.cond | (with_reducible refine BLe.opt ?_ fun _ => ?_) | (with_reducible refine BLe.sum (fun _ => ?_) fun _ => ?_) | exact idxH_le k _)
noncomputable def atH_n (k : Nat) : (zH3 × (zH1 × Unit)) → Option (Int × Unit) := fun x => (atH_B_n k x).run
theorem atH_le (k : Nat) (x : _) : OLe (atH_n k x) (atH x) := atH_B_le k x
noncomputable def endedH_B_n (k : Nat) : (zH3 × (Int × (Int × Unit))) → Br (Bool × Unit) := fun (p0, p1, p2, ()) =>
 (.opt ((atH_n k) (p0, (0, p1, p2, 0, 0, [0, 0, 0, 0, 0, 0]), ())) fun y4 =>
 (.cond (decide (y4.1 ≥ 0))
 (.cond (decide (0 ≤ y4.1) && decide (y4.1 < (↑(List.length p0) : Int)))
 (.ret (decide (Prod.fst (Prod.snd (Prod.snd (Prod.snd (Prod.snd (List.getD p0 (Int.toNat y4.1) (0, 0, 0, 0, 0, 0, 0, List.replicate 6 0)))))) ≥ 0), ()))
 (.no))
 (.ret (false, ()))))
theorem endedH_B_le (k : Nat) (x : _) : BLe (endedH_B_n k x) (endedH_B x) := by
  obtain ⟨p0, p1, p2, ⟨⟩⟩ := x
  show BLe (endedH_B_n k _) (endedH_B _)
  unfold endedH_B_n endedH_B
  repeat' (first | with_reducible exact BLe.rfl' _ | with_reducible exact OLe.rfl' _ | with_reducible apply BLe.cond | (with_reducible refine BLe.opt ?_ fun _ => ?_) | (with_reducible refine BLe.sum (fun _ => ?_) fun _ => ?_) | exact atH_le k _)
noncomputable def endedH_n (k : Nat) : (zH3 × (Int × (Int × Unit))) → Option (Bool × Unit) := fun x => (endedH_B_n k x).run
theorem endedH_le (k : Nat) (x : _) : OLe (endedH_n k x) (endedH x) := endedH_B_le k x
noncomputable def spansH_l0_n (k : Nat) : ((List zH1) × (Int × (Int × (zH3 × Unit)))) → Br (((List zH1) × (Int × (Int × (zH3 × Unit)))) ⊕ (Unit ⊕ (zH3 × Unit))) := fun (s8_32, s9_33, s10_34, r1724_35, ()) =>
 (.cond (decide (s10_34 < s9_33))
 (.cond (decide (0 ≤ s10_34) && decide (s10_34 < (↑(List.length s8_32) : Int)))
 (.opt ((atH_n k) (r1724_35, List.getD s8_32 (Int.toNat s10_34) (0, 0, 0, 0, 0, List.replicate 6 0), ())) fun y36 =>
 (.cond (Prod.fst (List.getD s8_32 (Int.toNat s10_34) (0, 0, 0, 0, 0, List.replicate 6 0)) == 1)
 (.cond (decide (y36.1 ≥ 0))
 (.ret (.inr (.inl (()))))
 (.cond (decide (Prod.fst (Prod.snd (Prod.snd (List.getD s8_32 (Int.toNat s10_34) (0, 0, 0, 0, 0, List.replicate 6 0)))) > 0))
 (.opt ((endedH_n k) (r1724_35, Prod.fst (Prod.snd (List.getD s8_32 (Int.toNat s10_34) (0, 0, 0, 0, 0, List.replicate 6 0))), IntKind.wrap .i64 (Prod.fst (Prod.snd (Prod.snd (List.getD s8_32 (Int.toNat s10_34) (0, 0, 0, 0, 0, List.replicate 6 0)))) - 1), ())) fun y37 =>
 (.cond (!y37.1)
 (.ret (.inr (.inl (()))))
 (.cond (decide (Prod.fst (Prod.snd (Prod.snd (List.getD s8_32 (Int.toNat s10_34) (0, 0, 0, 0, 0, List.replicate 6 0)))) < 0))
 (.ret (.inr (.inl (()))))
 (.cond (decide ((List.length r1724_35 + List.length (List.set (List.replicate 1 (0, 0, 0, 0, 0, 0, 0, List.replicate 6 0)) 0 (Prod.fst (Prod.snd (List.getD s8_32 (Int.toNat s10_34) (0, 0, 0, 0, 0, List.replicate 6 0))), Prod.fst (Prod.snd (Prod.snd (List.getD s8_32 (Int.toNat s10_34) (0, 0, 0, 0, 0, List.replicate 6 0)))), s10_34, -1, -1, 0, 0, List.replicate 6 0))) * 104 ≤ 140737488355328))
 (.ret (.inl (s8_32, s9_33, IntKind.wrap .i64 (s10_34 + 1), r1724_35 ++ List.set (List.replicate 1 (0, 0, 0, 0, 0, 0, 0, List.replicate 6 0)) 0 (Prod.fst (Prod.snd (List.getD s8_32 (Int.toNat s10_34) (0, 0, 0, 0, 0, List.replicate 6 0))), Prod.fst (Prod.snd (Prod.snd (List.getD s8_32 (Int.toNat s10_34) (0, 0, 0, 0, 0, List.replicate 6 0)))), s10_34, -1, -1, 0, 0, List.replicate 6 0), ())))
 (.no)))))
 (.cond (decide (Prod.fst (Prod.snd (Prod.snd (List.getD s8_32 (Int.toNat s10_34) (0, 0, 0, 0, 0, List.replicate 6 0)))) < 0))
 (.ret (.inr (.inl (()))))
 (.cond (decide ((List.length r1724_35 + List.length (List.set (List.replicate 1 (0, 0, 0, 0, 0, 0, 0, List.replicate 6 0)) 0 (Prod.fst (Prod.snd (List.getD s8_32 (Int.toNat s10_34) (0, 0, 0, 0, 0, List.replicate 6 0))), Prod.fst (Prod.snd (Prod.snd (List.getD s8_32 (Int.toNat s10_34) (0, 0, 0, 0, 0, List.replicate 6 0)))), s10_34, -1, -1, 0, 0, List.replicate 6 0))) * 104 ≤ 140737488355328))
 (.ret (.inl (s8_32, s9_33, IntKind.wrap .i64 (s10_34 + 1), r1724_35 ++ List.set (List.replicate 1 (0, 0, 0, 0, 0, 0, 0, List.replicate 6 0)) 0 (Prod.fst (Prod.snd (List.getD s8_32 (Int.toNat s10_34) (0, 0, 0, 0, 0, List.replicate 6 0))), Prod.fst (Prod.snd (Prod.snd (List.getD s8_32 (Int.toNat s10_34) (0, 0, 0, 0, 0, List.replicate 6 0)))), s10_34, -1, -1, 0, 0, List.replicate 6 0), ())))
 (.no)))))
 (.cond (Prod.fst (List.getD s8_32 (Int.toNat s10_34) (0, 0, 0, 0, 0, List.replicate 6 0)) == 2)
 (.cond (decide (y36.1 < 0))
 (.ret (.inr (.inl (()))))
 (.cond (decide (0 ≤ y36.1) && decide (y36.1 < (↑(List.length r1724_35) : Int)))
 (.cond (decide (Prod.fst (Prod.snd (Prod.snd (Prod.snd (List.getD r1724_35 (Int.toNat y36.1) (0, 0, 0, 0, 0, 0, 0, List.replicate 6 0))))) ≥ 0))
 (.ret (.inr (.inl (()))))
 (.cond (decide (0 ≤ y36.1) && decide (y36.1 < (↑(List.length r1724_35) : Int)))
 (.cond (decide (Prod.fst (Prod.snd (Prod.snd (Prod.snd (Prod.snd (List.getD r1724_35 (Int.toNat y36.1) (0, 0, 0, 0, 0, 0, 0, List.replicate 6 0)))))) ≥ 0))
 (.ret (.inr (.inl (()))))
 (.cond (decide (0 ≤ y36.1) && decide (y36.1 < (↑(List.length r1724_35) : Int)))
 (.cond (decide (0 ≤ y36.1) && decide (y36.1 < (↑(List.length (List.set r1724_35 (Int.toNat y36.1) (Prod.fst (List.getD r1724_35 (Int.toNat y36.1) (0, 0, 0, 0, 0, 0, 0, List.replicate 6 0)), Prod.fst (Prod.snd (List.getD r1724_35 (Int.toNat y36.1) (0, 0, 0, 0, 0, 0, 0, List.replicate 6 0))), Prod.fst (Prod.snd (Prod.snd (List.getD r1724_35 (Int.toNat y36.1) (0, 0, 0, 0, 0, 0, 0, List.replicate 6 0)))), s10_34, Prod.snd (Prod.snd (Prod.snd (Prod.snd (List.getD r1724_35 (Int.toNat y36.1) (0, 0, 0, 0, 0, 0, 0, List.replicate 6 0)))))))) : Int)))
 (.ret (.inl (s8_32, s9_33, IntKind.wrap .i64 (s10_34 + 1), List.set (List.set r1724_35 (Int.toNat y36.1) (Prod.fst (List.getD r1724_35 (Int.toNat y36.1) (0, 0, 0, 0, 0, 0, 0, List.replicate 6 0)), Prod.fst (Prod.snd (List.getD r1724_35 (Int.toNat y36.1) (0, 0, 0, 0, 0, 0, 0, List.replicate 6 0))), Prod.fst (Prod.snd (Prod.snd (List.getD r1724_35 (Int.toNat y36.1) (0, 0, 0, 0, 0, 0, 0, List.replicate 6 0)))), s10_34, Prod.snd (Prod.snd (Prod.snd (Prod.snd (List.getD r1724_35 (Int.toNat y36.1) (0, 0, 0, 0, 0, 0, 0, List.replicate 6 0))))))) (Int.toNat y36.1) (Prod.fst (List.getD (List.set r1724_35 (Int.toNat y36.1) (Prod.fst (List.getD r1724_35 (Int.toNat y36.1) (0, 0, 0, 0, 0, 0, 0, List.replicate 6 0)), Prod.fst (Prod.snd (List.getD r1724_35 (Int.toNat y36.1) (0, 0, 0, 0, 0, 0, 0, List.replicate 6 0))), Prod.fst (Prod.snd (Prod.snd (List.getD r1724_35 (Int.toNat y36.1) (0, 0, 0, 0, 0, 0, 0, List.replicate 6 0)))), s10_34, Prod.snd (Prod.snd (Prod.snd (Prod.snd (List.getD r1724_35 (Int.toNat y36.1) (0, 0, 0, 0, 0, 0, 0, List.replicate 6 0))))))) (Int.toNat y36.1) (0, 0, 0, 0, 0, 0, 0, List.replicate 6 0)), Prod.fst (Prod.snd (List.getD (List.set r1724_35 (Int.toNat y36.1) (Prod.fst (List.getD r1724_35 (Int.toNat y36.1) (0, 0, 0, 0, 0, 0, 0, List.replicate 6 0)), Prod.fst (Prod.snd (List.getD r1724_35 (Int.toNat y36.1) (0, 0, 0, 0, 0, 0, 0, List.replicate 6 0))), Prod.fst (Prod.snd (Prod.snd (List.getD r1724_35 (Int.toNat y36.1) (0, 0, 0, 0, 0, 0, 0, List.replicate 6 0)))), s10_34, Prod.snd (Prod.snd (Prod.snd (Prod.snd (List.getD r1724_35 (Int.toNat y36.1) (0, 0, 0, 0, 0, 0, 0, List.replicate 6 0))))))) (Int.toNat y36.1) (0, 0, 0, 0, 0, 0, 0, List.replicate 6 0))), Prod.fst (Prod.snd (Prod.snd (List.getD (List.set r1724_35 (Int.toNat y36.1) (Prod.fst (List.getD r1724_35 (Int.toNat y36.1) (0, 0, 0, 0, 0, 0, 0, List.replicate 6 0)), Prod.fst (Prod.snd (List.getD r1724_35 (Int.toNat y36.1) (0, 0, 0, 0, 0, 0, 0, List.replicate 6 0))), Prod.fst (Prod.snd (Prod.snd (List.getD r1724_35 (Int.toNat y36.1) (0, 0, 0, 0, 0, 0, 0, List.replicate 6 0)))), s10_34, Prod.snd (Prod.snd (Prod.snd (Prod.snd (List.getD r1724_35 (Int.toNat y36.1) (0, 0, 0, 0, 0, 0, 0, List.replicate 6 0))))))) (Int.toNat y36.1) (0, 0, 0, 0, 0, 0, 0, List.replicate 6 0)))), Prod.fst (Prod.snd (Prod.snd (Prod.snd (List.getD (List.set r1724_35 (Int.toNat y36.1) (Prod.fst (List.getD r1724_35 (Int.toNat y36.1) (0, 0, 0, 0, 0, 0, 0, List.replicate 6 0)), Prod.fst (Prod.snd (List.getD r1724_35 (Int.toNat y36.1) (0, 0, 0, 0, 0, 0, 0, List.replicate 6 0))), Prod.fst (Prod.snd (Prod.snd (List.getD r1724_35 (Int.toNat y36.1) (0, 0, 0, 0, 0, 0, 0, List.replicate 6 0)))), s10_34, Prod.snd (Prod.snd (Prod.snd (Prod.snd (List.getD r1724_35 (Int.toNat y36.1) (0, 0, 0, 0, 0, 0, 0, List.replicate 6 0))))))) (Int.toNat y36.1) (0, 0, 0, 0, 0, 0, 0, List.replicate 6 0))))), Prod.fst (Prod.snd (Prod.snd (Prod.snd (Prod.snd (List.getD (List.set r1724_35 (Int.toNat y36.1) (Prod.fst (List.getD r1724_35 (Int.toNat y36.1) (0, 0, 0, 0, 0, 0, 0, List.replicate 6 0)), Prod.fst (Prod.snd (List.getD r1724_35 (Int.toNat y36.1) (0, 0, 0, 0, 0, 0, 0, List.replicate 6 0))), Prod.fst (Prod.snd (Prod.snd (List.getD r1724_35 (Int.toNat y36.1) (0, 0, 0, 0, 0, 0, 0, List.replicate 6 0)))), s10_34, Prod.snd (Prod.snd (Prod.snd (Prod.snd (List.getD r1724_35 (Int.toNat y36.1) (0, 0, 0, 0, 0, 0, 0, List.replicate 6 0))))))) (Int.toNat y36.1) (0, 0, 0, 0, 0, 0, 0, List.replicate 6 0)))))), Prod.snd (Prod.snd (Prod.snd (List.getD s8_32 (Int.toNat s10_34) (0, 0, 0, 0, 0, List.replicate 6 0))))), ())))
 (.no))
 (.no)))
 (.no)))
 (.no)))
 (.cond (Prod.fst (List.getD s8_32 (Int.toNat s10_34) (0, 0, 0, 0, 0, List.replicate 6 0)) == 3)
 (.cond (decide (y36.1 < 0))
 (.ret (.inr (.inl (()))))
 (.cond (decide (0 ≤ y36.1) && decide (y36.1 < (↑(List.length r1724_35) : Int)))
 (.cond (decide (Prod.fst (Prod.snd (Prod.snd (Prod.snd (Prod.snd (List.getD r1724_35 (Int.toNat y36.1) (0, 0, 0, 0, 0, 0, 0, List.replicate 6 0)))))) ≥ 0))
 (.ret (.inr (.inl (()))))
 (.cond (decide (0 ≤ y36.1) && decide (y36.1 < (↑(List.length r1724_35) : Int)))
 (.cond (decide (Prod.fst (Prod.snd (Prod.snd (Prod.snd (List.getD r1724_35 (Int.toNat y36.1) (0, 0, 0, 0, 0, 0, 0, List.replicate 6 0))))) ≥ 0))
 (.cond (decide (0 ≤ y36.1) && decide (y36.1 < (↑(List.length r1724_35) : Int)))
 (.cond (!(decide (Prod.fst (Prod.snd (Prod.snd (Prod.snd (Prod.snd (Prod.snd (List.getD r1724_35 (Int.toNat y36.1) (0, 0, 0, 0, 0, 0, 0, List.replicate 6 0))))))) = Prod.fst (Prod.snd (Prod.snd (Prod.snd (List.getD s8_32 (Int.toNat s10_34) (0, 0, 0, 0, 0, List.replicate 6 0)))))) && (decide (Prod.fst (Prod.snd (Prod.snd (Prod.snd (Prod.snd (Prod.snd (Prod.snd (List.getD r1724_35 (Int.toNat y36.1) (0, 0, 0, 0, 0, 0, 0, List.replicate 6 0)))))))) = Prod.fst (Prod.snd (Prod.snd (Prod.snd (Prod.snd (List.getD s8_32 (Int.toNat s10_34) (0, 0, 0, 0, 0, List.replicate 6 0))))))) && decide (Prod.snd (Prod.snd (Prod.snd (Prod.snd (Prod.snd (Prod.snd (Prod.snd (List.getD r1724_35 (Int.toNat y36.1) (0, 0, 0, 0, 0, 0, 0, List.replicate 6 0)))))))) = Prod.snd (Prod.snd (Prod.snd (Prod.snd (Prod.snd (List.getD s8_32 (Int.toNat s10_34) (0, 0, 0, 0, 0, List.replicate 6 0))))))))))
 (.ret (.inr (.inl (()))))
 (.cond (decide (0 ≤ y36.1) && decide (y36.1 < (↑(List.length r1724_35) : Int)))
 (.cond (decide (0 ≤ y36.1) && decide (y36.1 < (↑(List.length (List.set r1724_35 (Int.toNat y36.1) (Prod.fst (List.getD r1724_35 (Int.toNat y36.1) (0, 0, 0, 0, 0, 0, 0, List.replicate 6 0)), Prod.fst (Prod.snd (List.getD r1724_35 (Int.toNat y36.1) (0, 0, 0, 0, 0, 0, 0, List.replicate 6 0))), Prod.fst (Prod.snd (Prod.snd (List.getD r1724_35 (Int.toNat y36.1) (0, 0, 0, 0, 0, 0, 0, List.replicate 6 0)))), Prod.fst (Prod.snd (Prod.snd (Prod.snd (List.getD r1724_35 (Int.toNat y36.1) (0, 0, 0, 0, 0, 0, 0, List.replicate 6 0))))), s10_34, Prod.snd (Prod.snd (Prod.snd (Prod.snd (Prod.snd (List.getD r1724_35 (Int.toNat y36.1) (0, 0, 0, 0, 0, 0, 0, List.replicate 6 0))))))))) : Int)))
 (.ret (.inl (s8_32, s9_33, IntKind.wrap .i64 (s10_34 + 1), List.set (List.set r1724_35 (Int.toNat y36.1) (Prod.fst (List.getD r1724_35 (Int.toNat y36.1) (0, 0, 0, 0, 0, 0, 0, List.replicate 6 0)), Prod.fst (Prod.snd (List.getD r1724_35 (Int.toNat y36.1) (0, 0, 0, 0, 0, 0, 0, List.replicate 6 0))), Prod.fst (Prod.snd (Prod.snd (List.getD r1724_35 (Int.toNat y36.1) (0, 0, 0, 0, 0, 0, 0, List.replicate 6 0)))), Prod.fst (Prod.snd (Prod.snd (Prod.snd (List.getD r1724_35 (Int.toNat y36.1) (0, 0, 0, 0, 0, 0, 0, List.replicate 6 0))))), s10_34, Prod.snd (Prod.snd (Prod.snd (Prod.snd (Prod.snd (List.getD r1724_35 (Int.toNat y36.1) (0, 0, 0, 0, 0, 0, 0, List.replicate 6 0)))))))) (Int.toNat y36.1) (Prod.fst (List.getD (List.set r1724_35 (Int.toNat y36.1) (Prod.fst (List.getD r1724_35 (Int.toNat y36.1) (0, 0, 0, 0, 0, 0, 0, List.replicate 6 0)), Prod.fst (Prod.snd (List.getD r1724_35 (Int.toNat y36.1) (0, 0, 0, 0, 0, 0, 0, List.replicate 6 0))), Prod.fst (Prod.snd (Prod.snd (List.getD r1724_35 (Int.toNat y36.1) (0, 0, 0, 0, 0, 0, 0, List.replicate 6 0)))), Prod.fst (Prod.snd (Prod.snd (Prod.snd (List.getD r1724_35 (Int.toNat y36.1) (0, 0, 0, 0, 0, 0, 0, List.replicate 6 0))))), s10_34, Prod.snd (Prod.snd (Prod.snd (Prod.snd (Prod.snd (List.getD r1724_35 (Int.toNat y36.1) (0, 0, 0, 0, 0, 0, 0, List.replicate 6 0)))))))) (Int.toNat y36.1) (0, 0, 0, 0, 0, 0, 0, List.replicate 6 0)), Prod.fst (Prod.snd (List.getD (List.set r1724_35 (Int.toNat y36.1) (Prod.fst (List.getD r1724_35 (Int.toNat y36.1) (0, 0, 0, 0, 0, 0, 0, List.replicate 6 0)), Prod.fst (Prod.snd (List.getD r1724_35 (Int.toNat y36.1) (0, 0, 0, 0, 0, 0, 0, List.replicate 6 0))), Prod.fst (Prod.snd (Prod.snd (List.getD r1724_35 (Int.toNat y36.1) (0, 0, 0, 0, 0, 0, 0, List.replicate 6 0)))), Prod.fst (Prod.snd (Prod.snd (Prod.snd (List.getD r1724_35 (Int.toNat y36.1) (0, 0, 0, 0, 0, 0, 0, List.replicate 6 0))))), s10_34, Prod.snd (Prod.snd (Prod.snd (Prod.snd (Prod.snd (List.getD r1724_35 (Int.toNat y36.1) (0, 0, 0, 0, 0, 0, 0, List.replicate 6 0)))))))) (Int.toNat y36.1) (0, 0, 0, 0, 0, 0, 0, List.replicate 6 0))), Prod.fst (Prod.snd (Prod.snd (List.getD (List.set r1724_35 (Int.toNat y36.1) (Prod.fst (List.getD r1724_35 (Int.toNat y36.1) (0, 0, 0, 0, 0, 0, 0, List.replicate 6 0)), Prod.fst (Prod.snd (List.getD r1724_35 (Int.toNat y36.1) (0, 0, 0, 0, 0, 0, 0, List.replicate 6 0))), Prod.fst (Prod.snd (Prod.snd (List.getD r1724_35 (Int.toNat y36.1) (0, 0, 0, 0, 0, 0, 0, List.replicate 6 0)))), Prod.fst (Prod.snd (Prod.snd (Prod.snd (List.getD r1724_35 (Int.toNat y36.1) (0, 0, 0, 0, 0, 0, 0, List.replicate 6 0))))), s10_34, Prod.snd (Prod.snd (Prod.snd (Prod.snd (Prod.snd (List.getD r1724_35 (Int.toNat y36.1) (0, 0, 0, 0, 0, 0, 0, List.replicate 6 0)))))))) (Int.toNat y36.1) (0, 0, 0, 0, 0, 0, 0, List.replicate 6 0)))), Prod.fst (Prod.snd (Prod.snd (Prod.snd (List.getD (List.set r1724_35 (Int.toNat y36.1) (Prod.fst (List.getD r1724_35 (Int.toNat y36.1) (0, 0, 0, 0, 0, 0, 0, List.replicate 6 0)), Prod.fst (Prod.snd (List.getD r1724_35 (Int.toNat y36.1) (0, 0, 0, 0, 0, 0, 0, List.replicate 6 0))), Prod.fst (Prod.snd (Prod.snd (List.getD r1724_35 (Int.toNat y36.1) (0, 0, 0, 0, 0, 0, 0, List.replicate 6 0)))), Prod.fst (Prod.snd (Prod.snd (Prod.snd (List.getD r1724_35 (Int.toNat y36.1) (0, 0, 0, 0, 0, 0, 0, List.replicate 6 0))))), s10_34, Prod.snd (Prod.snd (Prod.snd (Prod.snd (Prod.snd (List.getD r1724_35 (Int.toNat y36.1) (0, 0, 0, 0, 0, 0, 0, List.replicate 6 0)))))))) (Int.toNat y36.1) (0, 0, 0, 0, 0, 0, 0, List.replicate 6 0))))), Prod.fst (Prod.snd (Prod.snd (Prod.snd (Prod.snd (List.getD (List.set r1724_35 (Int.toNat y36.1) (Prod.fst (List.getD r1724_35 (Int.toNat y36.1) (0, 0, 0, 0, 0, 0, 0, List.replicate 6 0)), Prod.fst (Prod.snd (List.getD r1724_35 (Int.toNat y36.1) (0, 0, 0, 0, 0, 0, 0, List.replicate 6 0))), Prod.fst (Prod.snd (Prod.snd (List.getD r1724_35 (Int.toNat y36.1) (0, 0, 0, 0, 0, 0, 0, List.replicate 6 0)))), Prod.fst (Prod.snd (Prod.snd (Prod.snd (List.getD r1724_35 (Int.toNat y36.1) (0, 0, 0, 0, 0, 0, 0, List.replicate 6 0))))), s10_34, Prod.snd (Prod.snd (Prod.snd (Prod.snd (Prod.snd (List.getD r1724_35 (Int.toNat y36.1) (0, 0, 0, 0, 0, 0, 0, List.replicate 6 0)))))))) (Int.toNat y36.1) (0, 0, 0, 0, 0, 0, 0, List.replicate 6 0)))))), Prod.snd (Prod.snd (Prod.snd (List.getD s8_32 (Int.toNat s10_34) (0, 0, 0, 0, 0, List.replicate 6 0))))), ())))
 (.no))
 (.no)))
 (.no))
 (.cond (decide (0 ≤ y36.1) && decide (y36.1 < (↑(List.length r1724_35) : Int)))
 (.cond (decide (0 ≤ y36.1) && decide (y36.1 < (↑(List.length (List.set r1724_35 (Int.toNat y36.1) (Prod.fst (List.getD r1724_35 (Int.toNat y36.1) (0, 0, 0, 0, 0, 0, 0, List.replicate 6 0)), Prod.fst (Prod.snd (List.getD r1724_35 (Int.toNat y36.1) (0, 0, 0, 0, 0, 0, 0, List.replicate 6 0))), Prod.fst (Prod.snd (Prod.snd (List.getD r1724_35 (Int.toNat y36.1) (0, 0, 0, 0, 0, 0, 0, List.replicate 6 0)))), Prod.fst (Prod.snd (Prod.snd (Prod.snd (List.getD r1724_35 (Int.toNat y36.1) (0, 0, 0, 0, 0, 0, 0, List.replicate 6 0))))), s10_34, Prod.snd (Prod.snd (Prod.snd (Prod.snd (Prod.snd (List.getD r1724_35 (Int.toNat y36.1) (0, 0, 0, 0, 0, 0, 0, List.replicate 6 0))))))))) : Int)))
 (.ret (.inl (s8_32, s9_33, IntKind.wrap .i64 (s10_34 + 1), List.set (List.set r1724_35 (Int.toNat y36.1) (Prod.fst (List.getD r1724_35 (Int.toNat y36.1) (0, 0, 0, 0, 0, 0, 0, List.replicate 6 0)), Prod.fst (Prod.snd (List.getD r1724_35 (Int.toNat y36.1) (0, 0, 0, 0, 0, 0, 0, List.replicate 6 0))), Prod.fst (Prod.snd (Prod.snd (List.getD r1724_35 (Int.toNat y36.1) (0, 0, 0, 0, 0, 0, 0, List.replicate 6 0)))), Prod.fst (Prod.snd (Prod.snd (Prod.snd (List.getD r1724_35 (Int.toNat y36.1) (0, 0, 0, 0, 0, 0, 0, List.replicate 6 0))))), s10_34, Prod.snd (Prod.snd (Prod.snd (Prod.snd (Prod.snd (List.getD r1724_35 (Int.toNat y36.1) (0, 0, 0, 0, 0, 0, 0, List.replicate 6 0)))))))) (Int.toNat y36.1) (Prod.fst (List.getD (List.set r1724_35 (Int.toNat y36.1) (Prod.fst (List.getD r1724_35 (Int.toNat y36.1) (0, 0, 0, 0, 0, 0, 0, List.replicate 6 0)), Prod.fst (Prod.snd (List.getD r1724_35 (Int.toNat y36.1) (0, 0, 0, 0, 0, 0, 0, List.replicate 6 0))), Prod.fst (Prod.snd (Prod.snd (List.getD r1724_35 (Int.toNat y36.1) (0, 0, 0, 0, 0, 0, 0, List.replicate 6 0)))), Prod.fst (Prod.snd (Prod.snd (Prod.snd (List.getD r1724_35 (Int.toNat y36.1) (0, 0, 0, 0, 0, 0, 0, List.replicate 6 0))))), s10_34, Prod.snd (Prod.snd (Prod.snd (Prod.snd (Prod.snd (List.getD r1724_35 (Int.toNat y36.1) (0, 0, 0, 0, 0, 0, 0, List.replicate 6 0)))))))) (Int.toNat y36.1) (0, 0, 0, 0, 0, 0, 0, List.replicate 6 0)), Prod.fst (Prod.snd (List.getD (List.set r1724_35 (Int.toNat y36.1) (Prod.fst (List.getD r1724_35 (Int.toNat y36.1) (0, 0, 0, 0, 0, 0, 0, List.replicate 6 0)), Prod.fst (Prod.snd (List.getD r1724_35 (Int.toNat y36.1) (0, 0, 0, 0, 0, 0, 0, List.replicate 6 0))), Prod.fst (Prod.snd (Prod.snd (List.getD r1724_35 (Int.toNat y36.1) (0, 0, 0, 0, 0, 0, 0, List.replicate 6 0)))), Prod.fst (Prod.snd (Prod.snd (Prod.snd (List.getD r1724_35 (Int.toNat y36.1) (0, 0, 0, 0, 0, 0, 0, List.replicate 6 0))))), s10_34, Prod.snd (Prod.snd (Prod.snd (Prod.snd (Prod.snd (List.getD r1724_35 (Int.toNat y36.1) (0, 0, 0, 0, 0, 0, 0, List.replicate 6 0)))))))) (Int.toNat y36.1) (0, 0, 0, 0, 0, 0, 0, List.replicate 6 0))), Prod.fst (Prod.snd (Prod.snd (List.getD (List.set r1724_35 (Int.toNat y36.1) (Prod.fst (List.getD r1724_35 (Int.toNat y36.1) (0, 0, 0, 0, 0, 0, 0, List.replicate 6 0)), Prod.fst (Prod.snd (List.getD r1724_35 (Int.toNat y36.1) (0, 0, 0, 0, 0, 0, 0, List.replicate 6 0))), Prod.fst (Prod.snd (Prod.snd (List.getD r1724_35 (Int.toNat y36.1) (0, 0, 0, 0, 0, 0, 0, List.replicate 6 0)))), Prod.fst (Prod.snd (Prod.snd (Prod.snd (List.getD r1724_35 (Int.toNat y36.1) (0, 0, 0, 0, 0, 0, 0, List.replicate 6 0))))), s10_34, Prod.snd (Prod.snd (Prod.snd (Prod.snd (Prod.snd (List.getD r1724_35 (Int.toNat y36.1) (0, 0, 0, 0, 0, 0, 0, List.replicate 6 0)))))))) (Int.toNat y36.1) (0, 0, 0, 0, 0, 0, 0, List.replicate 6 0)))), Prod.fst (Prod.snd (Prod.snd (Prod.snd (List.getD (List.set r1724_35 (Int.toNat y36.1) (Prod.fst (List.getD r1724_35 (Int.toNat y36.1) (0, 0, 0, 0, 0, 0, 0, List.replicate 6 0)), Prod.fst (Prod.snd (List.getD r1724_35 (Int.toNat y36.1) (0, 0, 0, 0, 0, 0, 0, List.replicate 6 0))), Prod.fst (Prod.snd (Prod.snd (List.getD r1724_35 (Int.toNat y36.1) (0, 0, 0, 0, 0, 0, 0, List.replicate 6 0)))), Prod.fst (Prod.snd (Prod.snd (Prod.snd (List.getD r1724_35 (Int.toNat y36.1) (0, 0, 0, 0, 0, 0, 0, List.replicate 6 0))))), s10_34, Prod.snd (Prod.snd (Prod.snd (Prod.snd (Prod.snd (List.getD r1724_35 (Int.toNat y36.1) (0, 0, 0, 0, 0, 0, 0, List.replicate 6 0)))))))) (Int.toNat y36.1) (0, 0, 0, 0, 0, 0, 0, List.replicate 6 0))))), Prod.fst (Prod.snd (Prod.snd (Prod.snd (Prod.snd (List.getD (List.set r1724_35 (Int.toNat y36.1) (Prod.fst (List.getD r1724_35 (Int.toNat y36.1) (0, 0, 0, 0, 0, 0, 0, List.replicate 6 0)), Prod.fst (Prod.snd (List.getD r1724_35 (Int.toNat y36.1) (0, 0, 0, 0, 0, 0, 0, List.replicate 6 0))), Prod.fst (Prod.snd (Prod.snd (List.getD r1724_35 (Int.toNat y36.1) (0, 0, 0, 0, 0, 0, 0, List.replicate 6 0)))), Prod.fst (Prod.snd (Prod.snd (Prod.snd (List.getD r1724_35 (Int.toNat y36.1) (0, 0, 0, 0, 0, 0, 0, List.replicate 6 0))))), s10_34, Prod.snd (Prod.snd (Prod.snd (Prod.snd (Prod.snd (List.getD r1724_35 (Int.toNat y36.1) (0, 0, 0, 0, 0, 0, 0, List.replicate 6 0)))))))) (Int.toNat y36.1) (0, 0, 0, 0, 0, 0, 0, List.replicate 6 0)))))), Prod.snd (Prod.snd (Prod.snd (List.getD s8_32 (Int.toNat s10_34) (0, 0, 0, 0, 0, List.replicate 6 0))))), ())))
 (.no))
 (.no)))
 (.no)))
 (.no)))
 (.ret (.inr (.inl (()))))))))
 (.no))
 (.ret (.inr (.inr (r1724_35, ())))))
theorem spansH_l0_le (k : Nat) (x : _) : BLe (spansH_l0_n k x) (spansH_l0 x) := by
  obtain ⟨s8_32, s9_33, s10_34, r1724_35, ⟨⟩⟩ := x
  show BLe (spansH_l0_n k _) (spansH_l0 _)
  unfold spansH_l0_n spansH_l0
  repeat' (first | with_reducible exact BLe.rfl' _ | with_reducible exact OLe.rfl' _ | with_reducible apply BLe.cond | (with_reducible refine BLe.opt ?_ fun _ => ?_) | (with_reducible refine BLe.sum (fun _ => ?_) fun _ => ?_) | exact atH_le k _ | exact endedH_le k _)
noncomputable def spansH_w0_n (k : Nat) : ((List zH1) × (Int × (Int × (zH3 × Unit)))) → Option (Unit ⊕ (zH3 × Unit)) := iterN (fun x => (spansH_l0_n k x).run) k
theorem spansH_w0_le (k : Nat) (x : _) : OLe (spansH_w0_n k x) (spansH_w0 x) := iterN_le (fun x => spansH_l0_le k x) k x
noncomputable def spansH_B_n (k : Nat) : ((List zH1) × Unit) → Br ((zH3 × Bool) × Unit) := fun (p0, ()) =>
 (.opt ((spansH_w0_n k) (p0, (↑(List.length p0) : Int), 0, [], ())) fun z39 =>
 (.sum z39 (fun u40 =>
 (.ret (([], false), ()))) (fun z41 =>
 (.ret ((z41.1, true), ())))))
theorem spansH_B_le (k : Nat) (x : _) : BLe (spansH_B_n k x) (spansH_B x) := by
  obtain ⟨p0, ⟨⟩⟩ := x
  show BLe (spansH_B_n k _) (spansH_B _)
  unfold spansH_B_n spansH_B
  repeat' (first | with_reducible exact BLe.rfl' _ | with_reducible exact OLe.rfl' _ | with_reducible apply BLe.cond | (with_reducible refine BLe.opt ?_ fun _ => ?_) | (with_reducible refine BLe.sum (fun _ => ?_) fun _ => ?_) | exact spansH_w0_le k _)
noncomputable def spansH_n (k : Nat) : ((List zH1) × Unit) → Option ((zH3 × Bool) × Unit) := fun x => (spansH_B_n k x).run
theorem spansH_le (k : Nat) (x : _) : OLe (spansH_n k x) (spansH x) := spansH_B_le k x
noncomputable def awake47_B_n (k : Nat) : Unit → Br (Bool × Unit) := fun (()) =>
 (.opt ((spansH_n k) ([(1, 0, 0, 0, 0, [0, 0, 0, 0, 0, 0]), (2, 0, 0, 0, 1, [0, 0, 0, 0, 0, 0]), (3, 0, 0, 0, 1, [0, 0, 0, 0, 0, 0])], ())) fun y2 =>
 (.opt ((spansH_n k) ([(3, 0, 0, 0, 0, [0, 0, 0, 0, 0, 0])], ())) fun y3 =>
 (.cond y2.1.2
 (.cond ((↑(List.length y2.1.1) : Int) == 1)
 (.cond (decide (0 ≤ 0) && decide (0 < (↑(List.length y2.1.1) : Int)))
 (.cond (Prod.fst (Prod.snd (Prod.snd (Prod.snd (List.getD y2.1.1 (Int.toNat 0) (0, 0, 0, 0, 0, 0, 0, List.replicate 6 0))))) == 1)
 (.cond (decide (0 ≤ 0) && decide (0 < (↑(List.length y2.1.1) : Int)))
 (.cond (Prod.fst (Prod.snd (Prod.snd (Prod.snd (Prod.snd (List.getD y2.1.1 (Int.toNat 0) (0, 0, 0, 0, 0, 0, 0, List.replicate 6 0)))))) == 2)
 (.ret (!y3.1.2, ()))
 (.ret (false, ())))
 (.no))
 (.ret (false, ())))
 (.no))
 (.ret (false, ())))
 (.ret (false, ())))))
theorem awake47_B_le (k : Nat) (x : _) : BLe (awake47_B_n k x) (awake47_B x) := by
  obtain ⟨⟩ := x
  show BLe (awake47_B_n k _) (awake47_B _)
  unfold awake47_B_n awake47_B
  repeat' (first | with_reducible exact BLe.rfl' _ | with_reducible exact OLe.rfl' _ | with_reducible apply BLe.cond | (with_reducible refine BLe.opt ?_ fun _ => ?_) | (with_reducible refine BLe.sum (fun _ => ?_) fun _ => ?_) | exact spansH_le k _)
noncomputable def awake47_n (k : Nat) : Unit → Option (Bool × Unit) := fun x => (awake47_B_n k x).run
theorem awake47_le (k : Nat) (x : _) : OLe (awake47_n k x) (awake47 x) := awake47_B_le k x
end Go.Proofs.Ytnhiplibodkciaa
