/- Twins of functions that the kernel reckons. Printed by twin.py. -/
import Derived.Test.YtnhiplibodkciaaW1
import Derived.Test.YtnhiplibodkciaaR6
import Derived.Test.YtnhiplibodkciaaR6w
import Derived.Test.YtnhiplibodkciaaR7c
import Derived.Test.YtnhiplibodkciaaR8
import Derived.Test.YtnhiplibodkciaaS1a
import Derived.Test.YtnhiplibodkciaaS2a
import Derived.Test.YtnhiplibodkciaaS3a
namespace Go.Proofs.Ytnhiplibodkciaa
open Go.PI Go
noncomputable def idxStr_w0_n (k : Nat) : ((List ByteArray) × (ByteArray × (Int × (Int × Unit)))) → Option ((Int × Unit) ⊕ Unit) := iterN (fun x => (idxStr_l0 x).run) k
theorem idxStr_w0_le (k : Nat) (x : _) : OLe (idxStr_w0_n k x) (idxStr_w0 x) := iterN_le (fun x => OLe.rfl' _) k x
noncomputable def idxStr_B_n (k : Nat) : ((List ByteArray) × (ByteArray × Unit)) → Br (Int × Unit) := fun (p0, p1, ()) =>
 (.opt ((idxStr_w0_n k) (p0, p1, (↑(List.length p0) : Int), 0, ())) fun z27 =>
 (.sum z27 (fun u28 =>
 (.ret (u28.1, ()))) (fun z29 =>
 (.ret (-1, ())))))
theorem idxStr_B_le (k : Nat) (x : _) : BLe (idxStr_B_n k x) (idxStr_B x) := by
  obtain ⟨p0, p1, ⟨⟩⟩ := x
  show BLe (idxStr_B_n k _) (idxStr_B _)
  unfold idxStr_B_n idxStr_B
  repeat' (first | with_reducible exact BLe.rfl' _ | with_reducible exact OLe.rfl' _ | with_reducible apply BLe.cond | (with_reducible refine BLe.opt ?_ fun _ => ?_) | (with_reducible refine BLe.sum (fun _ => ?_) fun _ => ?_) | exact idxStr_w0_le k _)
noncomputable def idxStr_n (k : Nat) : ((List ByteArray) × (ByteArray × Unit)) → Option (Int × Unit) := fun x => (idxStr_B_n k x).run
theorem idxStr_le (k : Nat) (x : _) : OLe (idxStr_n k x) (idxStr x) := idxStr_B_le k x
noncomputable def hasStr_B_n (k : Nat) : ((List ByteArray) × (ByteArray × Unit)) → Br (Bool × Unit) := fun (p0, p1, ()) =>
 (.opt ((idxStr_n k) (p0, p1, ())) fun y3 =>
 (.ret (decide (y3.1 ≥ 0), ())))
theorem hasStr_B_le (k : Nat) (x : _) : BLe (hasStr_B_n k x) (hasStr_B x) := by
  obtain ⟨p0, p1, ⟨⟩⟩ := x
  show BLe (hasStr_B_n k _) (hasStr_B _)
  unfold hasStr_B_n hasStr_B
  repeat' (first | with_reducible exact BLe.rfl' _ | with_reducible exact OLe.rfl' _ | with_reducible apply BLe.cond | (with_reducible refine BLe.opt ?_ fun _ => ?_) | (with_reducible refine BLe.sum (fun _ => ?_) fun _ => ?_) | exact idxStr_le k _)
noncomputable def hasStr_n (k : Nat) : ((List ByteArray) × (ByteArray × Unit)) → Option (Bool × Unit) := fun x => (hasStr_B_n k x).run
theorem hasStr_le (k : Nat) (x : _) : OLe (hasStr_n k x) (hasStr x) := hasStr_B_le k x
noncomputable def fitsG_B_n (k : Nat) : ((Option zA11) × (zA10 × (zA6 × (Int × (zA2 × Unit))))) → Br (Bool × Unit) := fun (p0, p1, p2, p3, p4, ()) =>
 (.cond (decide (p3 < 0))
 (.ret (false, ()))
 (.cond (decide (p3 ≥ (↑(List.length p1.1) : Int)))
 (.ret (false, ()))
 (.cond (decide (0 ≤ p3) && decide (p3 < (↑(List.length p1.1) : Int)))
 (.opt ((hasStr_n k) (Prod.fst (Prod.snd (List.getD p1.1 (Int.toNat p3) (ByteArray.empty, [], false, 0, 0, []))), p4.1, ())) fun y8 =>
 (.cond (!y8.1)
 (.ret (false, ()))
 (.cond (decide (0 ≤ p3) && decide (p3 < (↑(List.length p1.1) : Int)))
 (.opt (envR (p2, ())) fun y9 =>
 (.cond (decide ((List.length y9.1 + List.length (List.set (List.replicate 1 (ByteArray.empty, ByteArray.empty, ByteArray.empty, 0, 0, [])) 0 (Prod.fst (List.getD p1.1 (Int.toNat p3) (ByteArray.empty, [], false, 0, 0, [])), p4))) * 88 ≤ 140737488355328))
 (.opt ((holdsF_n k) (p0, Prod.snd (Prod.snd (Prod.snd (Prod.snd (Prod.snd (List.getD p1.1 (Int.toNat p3) (ByteArray.empty, [], false, 0, 0, [])))))), y9.1 ++ List.set (List.replicate 1 (ByteArray.empty, ByteArray.empty, ByteArray.empty, 0, 0, [])) 0 (Prod.fst (List.getD p1.1 (Int.toNat p3) (ByteArray.empty, [], false, 0, 0, [])), p4), ())) fun y10 =>
 (.ret (y10.1, ())))
 (.no)))
 (.no))))
 (.no))))
theorem fitsG_B_le (k : Nat) (x : _) : BLe (fitsG_B_n k x) (fitsG_B x) := by
  obtain ⟨p0, p1, p2, p3, p4, ⟨⟩⟩ := x
  show BLe (fitsG_B_n k _) (fitsG_B _)
  unfold fitsG_B_n fitsG_B
  repeat' (first | with_reducible exact BLe.rfl' _ | with_reducible exact OLe.rfl' _ | with_reducible apply BLe.cond | (with_reducible refine BLe.opt ?_ fun _ => ?_) | (with_reducible refine BLe.sum (fun _ => ?_) fun _ => ?_) | exact hasStr_le k _ | exact holdsF_le k _)
noncomputable def fitsG_n (k : Nat) : ((Option zA11) × (zA10 × (zA6 × (Int × (zA2 × Unit))))) → Option (Bool × Unit) := fun x => (fitsG_B_n k x).run
theorem fitsG_le (k : Nat) (x : _) : OLe (fitsG_n k x) (fitsG x) := fitsG_B_le k x
noncomputable def nextQ_w0_n (k : Nat) : (Int × (Int × (zA10 × Unit))) → Option ((Int × Unit) ⊕ Unit) := iterN (fun x => (nextQ_l0 x).run) k
theorem nextQ_w0_le (k : Nat) (x : _) : OLe (nextQ_w0_n k x) (nextQ_w0 x) := iterN_le (fun x => OLe.rfl' _) k x
noncomputable def nextQ_B_n (k : Nat) : (zA10 × (Int × Unit)) → Br (Int × Unit) := fun (p0, p1, ()) =>
 (.opt ((nextQ_w0_n k) (p1, if IntKind.wrap .i64 (p1 + 1) < 0 then 0 else IntKind.wrap .i64 (p1 + 1), p0, ())) fun z23 =>
 (.sum z23 (fun u24 =>
 (.ret (u24.1, ()))) (fun z25 =>
 (.ret (-1, ())))))
theorem nextQ_B_le (k : Nat) (x : _) : BLe (nextQ_B_n k x) (nextQ_B x) := by
  obtain ⟨p0, p1, ⟨⟩⟩ := x
  show BLe (nextQ_B_n k _) (nextQ_B _)
  unfold nextQ_B_n nextQ_B
  repeat' (first | with_reducible exact BLe.rfl' _ | with_reducible exact OLe.rfl' _ | with_reducible apply BLe.cond | (with_reducible refine BLe.opt ?_ fun _ => ?_) | (with_reducible refine BLe.sum (fun _ => ?_) fun _ => ?_) | exact nextQ_w0_le k _)
noncomputable def nextQ_n (k : Nat) : (zA10 × (Int × Unit)) → Option (Int × Unit) := fun x => (nextQ_B_n k x).run
theorem nextQ_le (k : Nat) (x : _) : OLe (nextQ_n k x) (nextQ x) := nextQ_B_le k x
noncomputable def lastQ_w0_n (k : Nat) : (Int × (zA10 × Unit)) → Option ((Int × Unit) ⊕ Unit) := iterN (fun x => (lastQ_l0 x).run) k
theorem lastQ_w0_le (k : Nat) (x : _) : OLe (lastQ_w0_n k x) (lastQ_w0 x) := iterN_le (fun x => OLe.rfl' _) k x
noncomputable def lastQ_B_n (k : Nat) : (zA10 × Unit) → Br (Int × Unit) := fun (p0, ()) =>
 (.opt ((lastQ_w0_n k) (IntKind.wrap .i64 ((↑(List.length p0.1) : Int) - 1), p0, ())) fun z18 =>
 (.sum z18 (fun u19 =>
 (.ret (u19.1, ()))) (fun z20 =>
 (.ret (-1, ())))))
theorem lastQ_B_le (k : Nat) (x : _) : BLe (lastQ_B_n k x) (lastQ_B x) := by
  obtain ⟨p0, ⟨⟩⟩ := x
  show BLe (lastQ_B_n k _) (lastQ_B _)
  unfold lastQ_B_n lastQ_B
  repeat' (first | with_reducible exact BLe.rfl' _ | with_reducible exact OLe.rfl' _ | with_reducible apply BLe.cond | (with_reducible refine BLe.opt ?_ fun _ => ?_) | (with_reducible refine BLe.sum (fun _ => ?_) fun _ => ?_) | exact lastQ_w0_le k _)
noncomputable def lastQ_n (k : Nat) : (zA10 × Unit) → Option (Int × Unit) := fun x => (lastQ_B_n k x).run
theorem lastQ_le (k : Nat) (x : _) : OLe (lastQ_n k x) (lastQ x) := lastQ_B_le k x
noncomputable def copyQ_w0_n (k : Nat) : (Int × (Int × zA30)) → Option zA30 := iterN (fun x => (copyQ_l0 x).run) k
theorem copyQ_w0_le (k : Nat) (x : _) : OLe (copyQ_w0_n k x) (copyQ_w0 x) := iterN_le (fun x => OLe.rfl' _) k x
noncomputable def copyQ_B_n (k : Nat) : (zA10 × Unit) → Br (zA10 × Unit) := fun (p0, ()) =>
 (.opt (cloneElem (p0.1, ())) fun y34 =>
 (.opt ((copyQ_w0_n k) ((↑(List.length y34.1) : Int), 0, p0.2.1, p0.2.2, 0, 0, y34.1, ())) fun z45 =>
 (.ret ((z45.2.2.2.2.1, z45.1, z45.2.1), ()))))
theorem copyQ_B_le (k : Nat) (x : _) : BLe (copyQ_B_n k x) (copyQ_B x) := by
  obtain ⟨p0, ⟨⟩⟩ := x
  show BLe (copyQ_B_n k _) (copyQ_B _)
  unfold copyQ_B_n copyQ_B
  repeat' (first | with_reducible exact BLe.rfl' _ | with_reducible exact OLe.rfl' _ | with_reducible apply BLe.cond | (with_reducible refine BLe.opt ?_ fun _ => ?_) | (with_reducible refine BLe.sum (fun _ => ?_) fun _ => ?_) | exact copyQ_w0_le k _)
noncomputable def copyQ_n (k : Nat) : (zA10 × Unit) → Option (zA10 × Unit) := fun x => (copyQ_B_n k x).run
theorem copyQ_le (k : Nat) (x : _) : OLe (copyQ_n k x) (copyQ x) := copyQ_B_le k x
noncomputable def newN_w1_n (k : Nat) : (Int × zA24) → Option zA24 := iterN (fun x => (newN_l1 x).run) k
theorem newN_w1_le (k : Nat) (x : _) : OLe (newN_w1_n k x) (newN_w1 x) := iterN_le (fun x => OLe.rfl' _) k x
noncomputable def newN_l0_n (k : Nat) : zA24 → Br (zA24 ⊕ ((List zA1) × (Int × (Int × zA31)))) := fun (s4_89, c1035_0_90, c1035_1_91, c1035_2_92, v1025_93, r1726_94, ()) =>
 (.cond (decide (s4_89 ≥ 0))
 (.opt ((newN_w1_n k) (s4_89, 1, c1035_0_90, c1035_1_91, c1035_2_92, v1025_93, r1726_94, ())) fun z103 =>
 (.opt ((nextQ_n k) (z103.2.2.2.2.1, z103.1, ())) fun y104 =>
 (.ret (.inl (y104.1, z103.2.1, z103.2.2.1, z103.2.2.2.1, z103.2.2.2.2.1, z103.2.2.2.2.2.1, ())))))
 (.ret (.inr (c1035_0_90, c1035_1_91, c1035_2_92, r1726_94, ()))))
theorem newN_l0_le (k : Nat) (x : _) : BLe (newN_l0_n k x) (newN_l0 x) := by
  obtain ⟨s4_89, c1035_0_90, c1035_1_91, c1035_2_92, v1025_93, r1726_94, ⟨⟩⟩ := x
  show BLe (newN_l0_n k _) (newN_l0 _)
  unfold newN_l0_n newN_l0
  repeat' (first | with_reducible exact BLe.rfl' _ | with_reducible exact OLe.rfl' _ | with_reducible apply BLe.cond | (with_reducible refine BLe.opt ?_ fun _ => ?_) | (with_reducible refine BLe.sum (fun _ => ?_) fun _ => ?_) | exact newN_w1_le k _ | exact nextQ_le k _)
noncomputable def newN_w0_n (k : Nat) : zA24 → Option ((List zA1) × (Int × (Int × zA31))) := iterN (fun x => (newN_l0_n k x).run) k
theorem newN_w0_le (k : Nat) (x : _) : OLe (newN_w0_n k x) (newN_w0 x) := iterN_le (fun x => newN_l0_le k x) k x
noncomputable def newN_B_n (k : Nat) : (zA10 × Unit) → Br (zA22 × Unit) := fun (p0, ()) =>
 (.opt ((copyQ_n k) (p0, ())) fun y87 =>
 (.opt ((nextQ_n k) (p0, -1, ())) fun y88 =>
 (.opt ((newN_w0_n k) (y88.1, y87.1.1, y87.1.2.1, y87.1.2.2, p0, [(-1, 0)], ())) fun z106 =>
 (.ret (some ((z106.1, z106.2.1, z106.2.2.1), z106.2.2.2.1), ())))))
theorem newN_B_le (k : Nat) (x : _) : BLe (newN_B_n k x) (newN_B x) := by
  obtain ⟨p0, ⟨⟩⟩ := x
  show BLe (newN_B_n k _) (newN_B _)
  unfold newN_B_n newN_B
  repeat' (first | with_reducible exact BLe.rfl' _ | with_reducible exact OLe.rfl' _ | with_reducible apply BLe.cond | (with_reducible refine BLe.opt ?_ fun _ => ?_) | (with_reducible refine BLe.sum (fun _ => ?_) fun _ => ?_) | exact copyQ_le k _ | exact newN_w0_le k _ | exact nextQ_le k _)
noncomputable def newN_n (k : Nat) : (zA10 × Unit) → Option (zA22 × Unit) := fun x => (newN_B_n k x).run
theorem newN_le (k : Nat) (x : _) : OLe (newN_n k x) (newN x) := newN_B_le k x
noncomputable def idxState_w0_n (k : Nat) : ((List (Int × Int)) × (Int × (Int × ((Int × Int) × Unit)))) → Option ((Int × Unit) ⊕ Unit) := iterN (fun x => (idxState_l0 x).run) k
theorem idxState_w0_le (k : Nat) (x : _) : OLe (idxState_w0_n k x) (idxState_w0 x) := iterN_le (fun x => OLe.rfl' _) k x
noncomputable def idxState_B_n (k : Nat) : ((List (Int × Int)) × ((Int × Int) × Unit)) → Br (Int × Unit) := fun (p0, p1, ()) =>
 (.opt ((idxState_w0_n k) (p0, (↑(List.length p0) : Int), 0, p1, ())) fun z27 =>
 (.sum z27 (fun u28 =>
 (.ret (u28.1, ()))) (fun z29 =>
 (.ret (-1, ())))))
theorem idxState_B_le (k : Nat) (x : _) : BLe (idxState_B_n k x) (idxState_B x) := by
  obtain ⟨p0, p1, ⟨⟩⟩ := x
  show BLe (idxState_B_n k _) (idxState_B _)
  unfold idxState_B_n idxState_B
  repeat' (first | with_reducible exact BLe.rfl' _ | with_reducible exact OLe.rfl' _ | with_reducible apply BLe.cond | (with_reducible refine BLe.opt ?_ fun _ => ?_) | (with_reducible refine BLe.sum (fun _ => ?_) fun _ => ?_) | exact idxState_w0_le k _)
noncomputable def idxState_n (k : Nat) : ((List (Int × Int)) × ((Int × Int) × Unit)) → Option (Int × Unit) := fun x => (idxState_B_n k x).run
theorem idxState_le (k : Nat) (x : _) : OLe (idxState_n k x) (idxState x) := idxState_B_le k x
noncomputable def findN_B_n (k : Nat) : (zA22 × ((Int × Int) × Unit)) → Br (Int × Unit) := fun (p0, p1, ()) =>
 (.cond (Option.isNone p0)
 (.ret (-1, ()))
 (.cond (Option.isSome p0)
 (.opt ((idxState_n k) (Prod.snd (Option.rec (([], 0, 0), []) (fun (val : Ty.T (Ty.st (Ty.pair zA3 zA14))) => val) p0), p1, ())) fun y3 =>
 (.ret (y3.1, ())))
 (.no)))
theorem findN_B_le (k : Nat) (x : _) : BLe (findN_B_n k x) (findN_B x) := by
  obtain ⟨p0, p1, ⟨⟩⟩ := x
  show BLe (findN_B_n k _) (findN_B _)
  unfold findN_B_n findN_B
  repeat' (first | with_reducible exact BLe.rfl' _ | with_reducible exact OLe.rfl' _ | with_reducible apply BLe.cond | (with_reducible refine BLe.opt ?_ fun _ => ?_) | (with_reducible refine BLe.sum (fun _ => ?_) fun _ => ?_) | exact idxState_le k _)
noncomputable def findN_n (k : Nat) : (zA22 × ((Int × Int) × Unit)) → Option (Int × Unit) := fun x => (findN_B_n k x).run
theorem findN_le (k : Nat) (x : _) : OLe (findN_n k x) (findN x) := findN_B_le k x
noncomputable def movesN_B_n (k : Nat) : (zA22 × (Int × Unit)) → Br ((List Int) × Unit) := fun (p0, p1, ()) =>
 (.opt (atN (p0, p1, ())) fun y16 =>
 (.cond (!y16.1.2)
 (.ret ([], ()))
 (.opt ((findN_n k) (p0, (y16.1.1.1, IntKind.wrap .i64 (y16.1.1.2 + 1)), ())) fun y17 =>
 (.cond (decide (y16.1.1.1 ≥ 0))
 (.cond (decide (y17.1 ≥ 0))
 (.cond (decide (List.length (List.set (List.replicate 1 0) 0 y17.1) * 8 ≤ 140737488355328))
 (.cond (decide (y16.1.1.1 ≥ 0))
 (.cond (Option.isSome p0)
 (.cond (decide (0 ≤ y16.1.1.1) && decide (y16.1.1.1 < (↑(List.length (Prod.fst (Prod.fst (Option.rec (([], 0, 0), []) (fun (val : Ty.T (Ty.st (Ty.pair zA3 zA14))) => val) p0)))) : Int)))
 (.cond (decide (y16.1.1.2 < Prod.fst (Prod.snd (Prod.snd (Prod.snd (List.getD (Prod.fst (Prod.fst (Option.rec (([], 0, 0), []) (fun (val : Ty.T (Ty.st (Ty.pair zA3 zA14))) => val) p0))) (Int.toNat y16.1.1.1) (ByteArray.empty, [], false, 0, 0, [])))))))
 (.ret ([y17.1], ()))
 (.cond (Option.isSome p0)
 (.opt ((nextQ_n k) (Prod.fst (Option.rec (([], 0, 0), []) (fun (val : Ty.T (Ty.st (Ty.pair zA3 zA14))) => val) p0), y16.1.1.1, ())) fun y18 =>
 (.opt ((findN_n k) (p0, (y18.1, 1), ())) fun y19 =>
 (.cond (decide (y19.1 > 0))
 (.cond (decide ((List.length [y17.1] + List.length (List.set (List.replicate 1 0) 0 y19.1)) * 8 ≤ 140737488355328))
 (.ret ([y17.1, y19.1], ()))
 (.no))
 (.ret ([y17.1], ())))))
 (.no)))
 (.no))
 (.no))
 (.cond (Option.isSome p0)
 (.opt ((nextQ_n k) (Prod.fst (Option.rec (([], 0, 0), []) (fun (val : Ty.T (Ty.st (Ty.pair zA3 zA14))) => val) p0), y16.1.1.1, ())) fun y20 =>
 (.opt ((findN_n k) (p0, (y20.1, 1), ())) fun y21 =>
 (.cond (decide (y21.1 > 0))
 (.cond (decide ((List.length [y17.1] + List.length (List.set (List.replicate 1 0) 0 y21.1)) * 8 ≤ 140737488355328))
 (.ret ([y17.1, y21.1], ()))
 (.no))
 (.ret ([y17.1], ())))))
 (.no)))
 (.no))
 (.cond (decide (y16.1.1.1 ≥ 0))
 (.cond (Option.isSome p0)
 (.cond (decide (0 ≤ y16.1.1.1) && decide (y16.1.1.1 < (↑(List.length (Prod.fst (Prod.fst (Option.rec (([], 0, 0), []) (fun (val : Ty.T (Ty.st (Ty.pair zA3 zA14))) => val) p0)))) : Int)))
 (.cond (decide (y16.1.1.2 < Prod.fst (Prod.snd (Prod.snd (Prod.snd (List.getD (Prod.fst (Prod.fst (Option.rec (([], 0, 0), []) (fun (val : Ty.T (Ty.st (Ty.pair zA3 zA14))) => val) p0))) (Int.toNat y16.1.1.1) (ByteArray.empty, [], false, 0, 0, [])))))))
 (.ret ([], ()))
 (.cond (Option.isSome p0)
 (.opt ((nextQ_n k) (Prod.fst (Option.rec (([], 0, 0), []) (fun (val : Ty.T (Ty.st (Ty.pair zA3 zA14))) => val) p0), y16.1.1.1, ())) fun y22 =>
 (.opt ((findN_n k) (p0, (y22.1, 1), ())) fun y23 =>
 (.cond (decide (y23.1 > 0))
 (.cond (decide (List.length (List.set (List.replicate 1 0) 0 y23.1) * 8 ≤ 140737488355328))
 (.ret ([y23.1], ()))
 (.no))
 (.ret ([], ())))))
 (.no)))
 (.no))
 (.no))
 (.cond (Option.isSome p0)
 (.opt ((nextQ_n k) (Prod.fst (Option.rec (([], 0, 0), []) (fun (val : Ty.T (Ty.st (Ty.pair zA3 zA14))) => val) p0), y16.1.1.1, ())) fun y24 =>
 (.opt ((findN_n k) (p0, (y24.1, 1), ())) fun y25 =>
 (.cond (decide (y25.1 > 0))
 (.cond (decide (List.length (List.set (List.replicate 1 0) 0 y25.1) * 8 ≤ 140737488355328))
 (.ret ([y25.1], ()))
 (.no))
 (.ret ([], ())))))
 (.no))))
 (.cond (decide (y16.1.1.1 ≥ 0))
 (.cond (Option.isSome p0)
 (.cond (decide (0 ≤ y16.1.1.1) && decide (y16.1.1.1 < (↑(List.length (Prod.fst (Prod.fst (Option.rec (([], 0, 0), []) (fun (val : Ty.T (Ty.st (Ty.pair zA3 zA14))) => val) p0)))) : Int)))
 (.cond (decide (y16.1.1.2 < Prod.fst (Prod.snd (Prod.snd (Prod.snd (List.getD (Prod.fst (Prod.fst (Option.rec (([], 0, 0), []) (fun (val : Ty.T (Ty.st (Ty.pair zA3 zA14))) => val) p0))) (Int.toNat y16.1.1.1) (ByteArray.empty, [], false, 0, 0, [])))))))
 (.ret ([], ()))
 (.cond (Option.isSome p0)
 (.opt ((nextQ_n k) (Prod.fst (Option.rec (([], 0, 0), []) (fun (val : Ty.T (Ty.st (Ty.pair zA3 zA14))) => val) p0), y16.1.1.1, ())) fun y26 =>
 (.opt ((findN_n k) (p0, (y26.1, 1), ())) fun y27 =>
 (.cond (decide (y27.1 > 0))
 (.cond (decide (List.length (List.set (List.replicate 1 0) 0 y27.1) * 8 ≤ 140737488355328))
 (.ret ([y27.1], ()))
 (.no))
 (.ret ([], ())))))
 (.no)))
 (.no))
 (.no))
 (.cond (Option.isSome p0)
 (.opt ((nextQ_n k) (Prod.fst (Option.rec (([], 0, 0), []) (fun (val : Ty.T (Ty.st (Ty.pair zA3 zA14))) => val) p0), y16.1.1.1, ())) fun y28 =>
 (.opt ((findN_n k) (p0, (y28.1, 1), ())) fun y29 =>
 (.cond (decide (y29.1 > 0))
 (.cond (decide (List.length (List.set (List.replicate 1 0) 0 y29.1) * 8 ≤ 140737488355328))
 (.ret ([y29.1], ()))
 (.no))
 (.ret ([], ())))))
 (.no)))))))
theorem movesN_B_le (k : Nat) (x : _) : BLe (movesN_B_n k x) (movesN_B x) := by
  obtain ⟨p0, p1, ⟨⟩⟩ := x
  show BLe (movesN_B_n k _) (movesN_B _)
  unfold movesN_B_n movesN_B
  repeat' (first | with_reducible exact BLe.rfl' _ | with_reducible exact OLe.rfl' _ | with_reducible apply BLe.cond | (with_reducible refine BLe.opt ?_ fun _ => ?_) | (with_reducible refine BLe.sum (fun _ => ?_) fun _ => ?_) | exact findN_le k _ | exact nextQ_le k _)
noncomputable def movesN_n (k : Nat) : (zA22 × (Int × Unit)) → Option ((List Int) × Unit) := fun x => (movesN_B_n k x).run
theorem movesN_le (k : Nat) (x : _) : OLe (movesN_n k x) (movesN x) := movesN_B_le k x
noncomputable def endsN_B_n (k : Nat) : (zA22 × (Int × Unit)) → Br (Bool × Unit) := fun (p0, p1, ()) =>
 (.opt (atN (p0, p1, ())) fun y4 =>
 (.cond y4.1.2
 (.cond (decide (y4.1.1.1 ≥ 0))
 (.cond (Option.isSome p0)
 (.opt ((lastQ_n k) (Prod.fst (Option.rec (([], 0, 0), []) (fun (val : Ty.T (Ty.st (Ty.pair zA3 zA14))) => val) p0), ())) fun y5 =>
 (.cond (y4.1.1.1 == y5.1)
 (.cond (Option.isSome p0)
 (.cond (decide (0 ≤ y4.1.1.1) && decide (y4.1.1.1 < (↑(List.length (Prod.fst (Prod.fst (Option.rec (([], 0, 0), []) (fun (val : Ty.T (Ty.st (Ty.pair zA3 zA14))) => val) p0)))) : Int)))
 (.ret (decide (y4.1.1.2 ≥ Prod.fst (Prod.snd (Prod.snd (Prod.snd (List.getD (Prod.fst (Prod.fst (Option.rec (([], 0, 0), []) (fun (val : Ty.T (Ty.st (Ty.pair zA3 zA14))) => val) p0))) (Int.toNat y4.1.1.1) (ByteArray.empty, [], false, 0, 0, [])))))), ()))
 (.no))
 (.no))
 (.ret (false, ()))))
 (.no))
 (.ret (false, ())))
 (.ret (false, ()))))
theorem endsN_B_le (k : Nat) (x : _) : BLe (endsN_B_n k x) (endsN_B x) := by
  obtain ⟨p0, p1, ⟨⟩⟩ := x
  show BLe (endsN_B_n k _) (endsN_B _)
  unfold endsN_B_n endsN_B
  repeat' (first | with_reducible exact BLe.rfl' _ | with_reducible exact OLe.rfl' _ | with_reducible apply BLe.cond | (with_reducible refine BLe.opt ?_ fun _ => ?_) | (with_reducible refine BLe.sum (fun _ => ?_) fun _ => ?_) | exact lastQ_le k _)
noncomputable def endsN_n (k : Nat) : (zA22 × (Int × Unit)) → Option (Bool × Unit) := fun x => (endsN_B_n k x).run
theorem endsN_le (k : Nat) (x : _) : OLe (endsN_n k x) (endsN x) := endsN_B_le k x
noncomputable def queryN_B_n (k : Nat) : (zA22 × Unit) → Br (zA10 × Unit) := fun (p0, ()) =>
 (.cond (Option.isNone p0)
 (.ret (([], 0, 0), ()))
 (.cond (Option.isSome p0)
 (.opt ((copyQ_n k) (Prod.fst (Option.rec (([], 0, 0), []) (fun (val : Ty.T (Ty.st (Ty.pair zA3 zA14))) => val) p0), ())) fun y2 =>
 (.ret (y2.1, ())))
 (.no)))
theorem queryN_B_le (k : Nat) (x : _) : BLe (queryN_B_n k x) (queryN_B x) := by
  obtain ⟨p0, ⟨⟩⟩ := x
  show BLe (queryN_B_n k _) (queryN_B _)
  unfold queryN_B_n queryN_B
  repeat' (first | with_reducible exact BLe.rfl' _ | with_reducible exact OLe.rfl' _ | with_reducible apply BLe.cond | (with_reducible refine BLe.opt ?_ fun _ => ?_) | (with_reducible refine BLe.sum (fun _ => ?_) fun _ => ?_) | exact copyQ_le k _)
noncomputable def queryN_n (k : Nat) : (zA22 × Unit) → Option (zA10 × Unit) := fun x => (queryN_B_n k x).run
theorem queryN_le (k : Nat) (x : _) : OLe (queryN_n k x) (queryN x) := queryN_B_le k x
noncomputable def runDead_B_n (k : Nat) : (zA6 × (zA10 × (Int × Unit))) → Br (Bool × Unit) := fun (p0, p1, p2, ()) =>
 (.opt (runElem (p0, ())) fun y5 =>
 (.cond (decide (y5.1 < 0))
 (.ret (false, ()))
 (.cond (decide (y5.1 ≥ (↑(List.length p1.1) : Int)))
 (.ret (false, ()))
 (.cond (decide (0 ≤ y5.1) && decide (y5.1 < (↑(List.length p1.1) : Int)))
 (.cond (decide (p2 < Prod.fst (Prod.snd (Prod.snd (Prod.snd (Prod.snd (List.getD p1.1 (Int.toNat y5.1) (ByteArray.empty, [], false, 0, 0, []))))))))
 (.ret (false, ()))
 (.cond p0.2.2.2.2.2
 (.ret (true, ()))
 (.opt ((nextQ_n k) (p1, y5.1, ())) fun y6 =>
 (.ret (decide (y6.1 < 0), ())))))
 (.no)))))
theorem runDead_B_le (k : Nat) (x : _) : BLe (runDead_B_n k x) (runDead_B x) := by
  obtain ⟨p0, p1, p2, ⟨⟩⟩ := x
  show BLe (runDead_B_n k _) (runDead_B _)
  unfold runDead_B_n runDead_B
  repeat' (first | with_reducible exact BLe.rfl' _ | with_reducible exact OLe.rfl' _ | with_reducible apply BLe.cond | (with_reducible refine BLe.opt ?_ fun _ => ?_) | (with_reducible refine BLe.sum (fun _ => ?_) fun _ => ?_) | exact nextQ_le k _)
noncomputable def runDead_n (k : Nat) : (zA6 × (zA10 × (Int × Unit))) → Option (Bool × Unit) := fun x => (runDead_B_n k x).run
theorem runDead_le (k : Nat) (x : _) : OLe (runDead_n k x) (runDead x) := runDead_B_le k x
noncomputable def newM_B_n (k : Nat) : ((Option zA11) × (zA10 × Unit)) → Br (zA15 × Unit) := fun (p0, p1, ()) =>
 (.opt ((newN_n k) (p1, ())) fun y4 =>
 (.opt ((queryN_n k) (y4.1, ())) fun y5 =>
 (.ret (some (p0, y5.1, y4.1), ()))))
theorem newM_B_le (k : Nat) (x : _) : BLe (newM_B_n k x) (newM_B x) := by
  obtain ⟨p0, p1, ⟨⟩⟩ := x
  show BLe (newM_B_n k _) (newM_B _)
  unfold newM_B_n newM_B
  repeat' (first | with_reducible exact BLe.rfl' _ | with_reducible exact OLe.rfl' _ | with_reducible apply BLe.cond | (with_reducible refine BLe.opt ?_ fun _ => ?_) | (with_reducible refine BLe.sum (fun _ => ?_) fun _ => ?_) | exact newN_le k _ | exact queryN_le k _)
noncomputable def newM_n (k : Nat) : ((Option zA11) × (zA10 × Unit)) → Option (zA15 × Unit) := fun x => (newM_B_n k x).run
theorem newM_le (k : Nat) (x : _) : OLe (newM_n k x) (newM x) := newM_B_le k x
noncomputable def moreM_l0_n (k : Nat) : (zA15 × ((List Int) × (Int × (Int × (zA6 × (zA2 × ((List zA6) × Unit))))))) → Br ((zA15 × ((List Int) × (Int × (Int × (zA6 × (zA2 × ((List zA6) × Unit))))))) ⊕ ((List zA6) × Unit)) := fun (s0_68, s20_69, s21_70, s22_71, v1028_72, v1029_73, r1724_74, ()) =>
 (.cond (decide (s22_71 < s21_70))
 (.cond (decide (0 ≤ s22_71) && decide (s22_71 < (↑(List.length s20_69) : Int)))
 (.cond (Option.isSome s0_68)
 (.opt (atN (Prod.snd (Prod.snd (Option.rec (none, ([], 0, 0), none) (fun (val : Ty.T (Ty.st (Ty.pair (Ty.ptr zA18) (Ty.pair zA3 (Ty.ptr (Ty.st (Ty.pair zA3 zA14))))))) => val) s0_68)), List.getD s20_69 (Int.toNat s22_71) 0, ())) fun y75 =>
 (.opt (runElem (v1028_72, ())) fun y76 =>
 (.cond (y75.1.1.1 != y76.1)
 (.opt (runBlkd (v1028_72, ())) fun y77 =>
 (.cond y77.1
 (.ret (.inl (s0_68, s20_69, s21_70, IntKind.wrap .i64 (s22_71 + 1), v1028_72, v1029_73, r1724_74, ())))
 (.cond (Option.isSome s0_68)
 (.cond (Option.isSome s0_68)
 (.opt ((fitsG_n k) (Prod.fst (Option.rec (none, ([], 0, 0), none) (fun (val : Ty.T (Ty.st (Ty.pair (Ty.ptr zA18) (Ty.pair zA3 (Ty.ptr (Ty.st (Ty.pair zA3 zA14))))))) => val) s0_68), Prod.fst (Prod.snd (Option.rec (none, ([], 0, 0), none) (fun (val : Ty.T (Ty.st (Ty.pair (Ty.ptr zA18) (Ty.pair zA3 (Ty.ptr (Ty.st (Ty.pair zA3 zA14))))))) => val) s0_68)), v1028_72, y75.1.1.1, v1029_73, ())) fun y78 =>
 (.cond (!y78.1)
 (.ret (.inl (s0_68, s20_69, s21_70, IntKind.wrap .i64 (s22_71 + 1), v1028_72, v1029_73, r1724_74, ())))
 (.cond (Option.isSome s0_68)
 (.opt (runWith (v1028_72, Prod.fst (Prod.snd (Option.rec (none, ([], 0, 0), none) (fun (val : Ty.T (Ty.st (Ty.pair (Ty.ptr zA18) (Ty.pair zA3 (Ty.ptr (Ty.st (Ty.pair zA3 zA14))))))) => val) s0_68)), List.getD s20_69 (Int.toNat s22_71) 0, y75.1.1.1, v1029_73, ())) fun y80 =>
 (.cond (decide ((List.length r1724_74 + List.length (List.set (List.replicate 1 (0, [], [], 0, (0, 0, 0), false)) 0 y80.1)) * 64 ≤ 140737488355328))
 (.ret (.inl (s0_68, s20_69, s21_70, IntKind.wrap .i64 (s22_71 + 1), v1028_72, v1029_73, r1724_74 ++ List.set (List.replicate 1 (0, [], [], 0, (0, 0, 0), false)) 0 y80.1, ())))
 (.no)))
 (.no))))
 (.no))
 (.no))))
 (.cond (Option.isSome s0_68)
 (.cond (Option.isSome s0_68)
 (.opt ((fitsG_n k) (Prod.fst (Option.rec (none, ([], 0, 0), none) (fun (val : Ty.T (Ty.st (Ty.pair (Ty.ptr zA18) (Ty.pair zA3 (Ty.ptr (Ty.st (Ty.pair zA3 zA14))))))) => val) s0_68), Prod.fst (Prod.snd (Option.rec (none, ([], 0, 0), none) (fun (val : Ty.T (Ty.st (Ty.pair (Ty.ptr zA18) (Ty.pair zA3 (Ty.ptr (Ty.st (Ty.pair zA3 zA14))))))) => val) s0_68)), v1028_72, y75.1.1.1, v1029_73, ())) fun y79 =>
 (.cond (!y79.1)
 (.ret (.inl (s0_68, s20_69, s21_70, IntKind.wrap .i64 (s22_71 + 1), v1028_72, v1029_73, r1724_74, ())))
 (.cond (Option.isSome s0_68)
 (.opt (runWith (v1028_72, Prod.fst (Prod.snd (Option.rec (none, ([], 0, 0), none) (fun (val : Ty.T (Ty.st (Ty.pair (Ty.ptr zA18) (Ty.pair zA3 (Ty.ptr (Ty.st (Ty.pair zA3 zA14))))))) => val) s0_68)), List.getD s20_69 (Int.toNat s22_71) 0, y75.1.1.1, v1029_73, ())) fun y81 =>
 (.cond (decide ((List.length r1724_74 + List.length (List.set (List.replicate 1 (0, [], [], 0, (0, 0, 0), false)) 0 y81.1)) * 64 ≤ 140737488355328))
 (.ret (.inl (s0_68, s20_69, s21_70, IntKind.wrap .i64 (s22_71 + 1), v1028_72, v1029_73, r1724_74 ++ List.set (List.replicate 1 (0, [], [], 0, (0, 0, 0), false)) 0 y81.1, ())))
 (.no)))
 (.no))))
 (.no))
 (.no)))))
 (.no))
 (.no))
 (.ret (.inr (r1724_74, ()))))
theorem moreM_l0_le (k : Nat) (x : _) : BLe (moreM_l0_n k x) (moreM_l0 x) := by
  obtain ⟨s0_68, s20_69, s21_70, s22_71, v1028_72, v1029_73, r1724_74, ⟨⟩⟩ := x
  show BLe (moreM_l0_n k _) (moreM_l0 _)
  unfold moreM_l0_n moreM_l0
  repeat' (first | with_reducible exact BLe.rfl' _ | with_reducible exact OLe.rfl' _ | with_reducible apply BLe.cond | (with_reducible refine BLe.opt ?_ fun _ => ?_) | (with_reducible refine BLe.sum (fun _ => ?_) fun _ => ?_) | exact fitsG_le k _)
noncomputable def moreM_w0_n (k : Nat) : (zA15 × ((List Int) × (Int × (Int × (zA6 × (zA2 × ((List zA6) × Unit))))))) → Option ((List zA6) × Unit) := iterN (fun x => (moreM_l0_n k x).run) k
theorem moreM_w0_le (k : Nat) (x : _) : OLe (moreM_w0_n k x) (moreM_w0 x) := iterN_le (fun x => moreM_l0_le k x) k x
noncomputable def moreM_B_n (k : Nat) : (zA15 × (zA6 × (zA2 × Unit))) → Br ((List zA6) × Unit) := fun (p0, p1, p2, ()) =>
 (.cond (Option.isNone p0)
 (.ret ([], ()))
 (.cond (Option.isSome p0)
 (.opt (runState (p1, ())) fun y66 =>
 (.opt ((movesN_n k) (Prod.snd (Prod.snd (Option.rec (none, ([], 0, 0), none) (fun (val : Ty.T (Ty.st (Ty.pair (Ty.ptr zA18) (Ty.pair zA3 (Ty.ptr (Ty.st (Ty.pair zA3 zA14))))))) => val) p0)), y66.1, ())) fun y67 =>
 (.opt ((moreM_w0_n k) (p0, y67.1, (↑(List.length y67.1) : Int), 0, p1, p2, [], ())) fun z83 =>
 (.ret (z83.1, ())))))
 (.no)))
theorem moreM_B_le (k : Nat) (x : _) : BLe (moreM_B_n k x) (moreM_B x) := by
  obtain ⟨p0, p1, p2, ⟨⟩⟩ := x
  show BLe (moreM_B_n k _) (moreM_B _)
  unfold moreM_B_n moreM_B
  repeat' (first | with_reducible exact BLe.rfl' _ | with_reducible exact OLe.rfl' _ | with_reducible apply BLe.cond | (with_reducible refine BLe.opt ?_ fun _ => ?_) | (with_reducible refine BLe.sum (fun _ => ?_) fun _ => ?_) | exact moreM_w0_le k _ | exact movesN_le k _)
noncomputable def moreM_n (k : Nat) : (zA15 × (zA6 × (zA2 × Unit))) → Option ((List zA6) × Unit) := fun x => (moreM_B_n k x).run
theorem moreM_le (k : Nat) (x : _) : OLe (moreM_n k x) (moreM x) := moreM_B_le k x
noncomputable def endsM_B_n (k : Nat) : (zA15 × (zA6 × Unit)) → Br (Bool × Unit) := fun (p0, p1, ()) =>
 (.cond (!Option.isNone p0)
 (.cond (Option.isSome p0)
 (.opt (runState (p1, ())) fun y4 =>
 (.opt ((endsN_n k) (Prod.snd (Prod.snd (Option.rec (none, ([], 0, 0), none) (fun (val : Ty.T (Ty.st (Ty.pair (Ty.ptr zA18) (Ty.pair zA3 (Ty.ptr (Ty.st (Ty.pair zA3 zA14))))))) => val) p0)), y4.1, ())) fun y5 =>
 (.ret (y5.1, ()))))
 (.no))
 (.ret (false, ())))
theorem endsM_B_le (k : Nat) (x : _) : BLe (endsM_B_n k x) (endsM_B x) := by
  obtain ⟨p0, p1, ⟨⟩⟩ := x
  show BLe (endsM_B_n k _) (endsM_B _)
  unfold endsM_B_n endsM_B
  repeat' (first | with_reducible exact BLe.rfl' _ | with_reducible exact OLe.rfl' _ | with_reducible apply BLe.cond | (with_reducible refine BLe.opt ?_ fun _ => ?_) | (with_reducible refine BLe.sum (fun _ => ?_) fun _ => ?_) | exact endsN_le k _)
noncomputable def endsM_n (k : Nat) : (zA15 × (zA6 × Unit)) → Option (Bool × Unit) := fun x => (endsM_B_n k x).run
theorem endsM_le (k : Nat) (x : _) : OLe (endsM_n k x) (endsM x) := endsM_B_le k x
noncomputable def deadM_B_n (k : Nat) : (zA15 × (zA6 × Unit)) → Br (Bool × Unit) := fun (p0, p1, ()) =>
 (.cond (Option.isNone p0)
 (.ret (true, ()))
 (.cond (Option.isSome p0)
 (.opt (runState (p1, ())) fun y5 =>
 (.opt (atN (Prod.snd (Prod.snd (Option.rec (none, ([], 0, 0), none) (fun (val : Ty.T (Ty.st (Ty.pair (Ty.ptr zA18) (Ty.pair zA3 (Ty.ptr (Ty.st (Ty.pair zA3 zA14))))))) => val) p0)), y5.1, ())) fun y6 =>
 (.cond (!y6.1.2)
 (.ret (true, ()))
 (.cond (Option.isSome p0)
 (.opt ((runDead_n k) (p1, Prod.fst (Prod.snd (Option.rec (none, ([], 0, 0), none) (fun (val : Ty.T (Ty.st (Ty.pair (Ty.ptr zA18) (Ty.pair zA3 (Ty.ptr (Ty.st (Ty.pair zA3 zA14))))))) => val) p0)), y6.1.1.2, ())) fun y7 =>
 (.ret (y7.1, ())))
 (.no)))))
 (.no)))
theorem deadM_B_le (k : Nat) (x : _) : BLe (deadM_B_n k x) (deadM_B x) := by
  obtain ⟨p0, p1, ⟨⟩⟩ := x
  show BLe (deadM_B_n k _) (deadM_B _)
  unfold deadM_B_n deadM_B
  repeat' (first | with_reducible exact BLe.rfl' _ | with_reducible exact OLe.rfl' _ | with_reducible apply BLe.cond | (with_reducible refine BLe.opt ?_ fun _ => ?_) | (with_reducible refine BLe.sum (fun _ => ?_) fun _ => ?_) | exact runDead_le k _)
noncomputable def deadM_n (k : Nat) : (zA15 × (zA6 × Unit)) → Option (Bool × Unit) := fun x => (deadM_B_n k x).run
theorem deadM_le (k : Nat) (x : _) : OLe (deadM_n k x) (deadM x) := deadM_B_le k x
noncomputable def awake24_B_n (k : Nat) : Unit → Br (Bool × Unit) := fun (()) =>
 (.opt ((newS_n k) ([({ data := #[65] }, [])], ())) fun y6 =>
 (.opt ((newM_n k) (y6.1.1, ([({ data := #[97] }, [{ data := #[65] }], false, 1, 1, [])], 5, 5), ())) fun y7 =>
 (.opt ((moreM_n k) (y7.1, (0, [], [], 0, (0, 0, 0), false), ({ data := #[65] }, ByteArray.empty, 0, 4, []), ())) fun y8 =>
 (.cond ((↑(List.length y8.1) : Int) == 1)
 (.cond (decide (0 ≤ 0) && decide (0 < (↑(List.length y8.1) : Int)))
 (.opt (runLen (List.getD y8.1 (Int.toNat 0) (0, [], [], 0, (0, 0, 0), false), ())) fun y9 =>
 (.cond (y9.1 == 1)
 (.cond (decide (0 ≤ 0) && decide (0 < (↑(List.length y8.1) : Int)))
 (.opt ((endsM_n k) (y7.1, List.getD y8.1 (Int.toNat 0) (0, [], [], 0, (0, 0, 0), false), ())) fun y10 =>
 (.cond y10.1
 (.cond (decide (0 ≤ 0) && decide (0 < (↑(List.length y8.1) : Int)))
 (.opt ((deadM_n k) (y7.1, List.getD y8.1 (Int.toNat 0) (0, [], [], 0, (0, 0, 0), false), ())) fun y11 =>
 (.ret (y11.1, ())))
 (.no))
 (.ret (false, ()))))
 (.no))
 (.ret (false, ()))))
 (.no))
 (.ret (false, ()))))))
theorem awake24_B_le (k : Nat) (x : _) : BLe (awake24_B_n k x) (awake24_B x) := by
  obtain ⟨⟩ := x
  show BLe (awake24_B_n k _) (awake24_B _)
  unfold awake24_B_n awake24_B
  repeat' (first | with_reducible exact BLe.rfl' _ | with_reducible exact OLe.rfl' _ | with_reducible apply BLe.cond | (with_reducible refine BLe.opt ?_ fun _ => ?_) | (with_reducible refine BLe.sum (fun _ => ?_) fun _ => ?_) | exact deadM_le k _ | exact endsM_le k _ | exact moreM_le k _ | exact newM_le k _ | exact newS_le k _)
noncomputable def awake24_n (k : Nat) : Unit → Option (Bool × Unit) := fun x => (awake24_B_n k x).run
theorem awake24_le (k : Nat) (x : _) : OLe (awake24_n k x) (awake24 x) := awake24_B_le k x
end Go.Proofs.Ytnhiplibodkciaa
