/- Twins of functions that the kernel reckons. Printed by twin.py. -/
import Derived.Test.YtnhiplibodkciaaW1
import Derived.Test.YtnhiplibodkciaaR6
import Derived.Test.YtnhiplibodkciaaR7c
import Derived.Test.YtnhiplibodkciaaR8
import Derived.Test.YtnhiplibodkciaaR9
namespace Go.Proofs.Ytnhiplibodkciaa
open Go.PI Go
noncomputable def idxStr_w0_n (k : Nat) : ((List ByteArray) × (ByteArray × (Int × (Int × Unit)))) → Option ((Int × Unit) ⊕ Unit) := iterN (fun x => (idxStr_l0 x).run) k
theorem idxStr_w0_le (k : Nat) (x : _) : OLe (idxStr_w0_n k x) (idxStr_w0 x) := iterN_le (fun x => OLe.rfl' _) k x
noncomputable def idxStr_B_n (k : Nat) : ((List ByteArray) × (ByteArray × Unit)) → Br (Int × Unit) := fun (p0, p1, ()) =>
 (.opt ((idxStr_w0_n k) (p0, p1, (↑(List.length p0) : Int), 0, ())) fun z27 =>
 (.sum z27 (fun u28 =>
 (.ret (Prod.fst u28, ()))) (fun z29 =>
 (.ret (-1, ())))))
theorem idxStr_B_le (k : Nat) (x : _) : BLe (idxStr_B_n k x) (idxStr_B x) := by
  obtain ⟨p0, p1, ⟨⟩⟩ := x
  show BLe (idxStr_B_n k _) (idxStr_B _)
  unfold idxStr_B_n idxStr_B
  repeat' (first | with_reducible exact BLe.rfl' _ | with_reducible exact OLe.rfl' _ | with_reducible apply BLe.cond | (with_reducible refine BLe.opt ?_ fun _ => ?_) | (with_reducible refine BLe.sum (fun _ => ?_) fun _ => ?_) | exact idxStr_w0_le k _)
noncomputable def idxStr_n (k : Nat) : ((List ByteArray) × (ByteArray × Unit)) → Option (Int × Unit) := fun x => (idxStr_B_n k x).run
theorem idxStr_le (k : Nat) (x : _) : OLe (idxStr_n k x) (idxStr x) := idxStr_B_le k x
noncomputable def hasStr_B_n (k : Nat) : ((List ByteArray) × (ByteArray × Unit)) → Br (Bool × Unit) := fun (p0, p1, ()) =>
 (.opt ((idxStr_n k) (p0, p1, ())) fun y3 =>
 (.ret (decide (Prod.fst y3 ≥ 0), ())))
theorem hasStr_B_le (k : Nat) (x : _) : BLe (hasStr_B_n k x) (hasStr_B x) := by
  obtain ⟨p0, p1, ⟨⟩⟩ := x
  show BLe (hasStr_B_n k _) (hasStr_B _)
  unfold hasStr_B_n hasStr_B
  repeat' (first | with_reducible exact BLe.rfl' _ | with_reducible exact OLe.rfl' _ | with_reducible apply BLe.cond | (with_reducible refine BLe.opt ?_ fun _ => ?_) | (with_reducible refine BLe.sum (fun _ => ?_) fun _ => ?_) | exact idxStr_le k _)
noncomputable def hasStr_n (k : Nat) : ((List ByteArray) × (ByteArray × Unit)) → Option (Bool × Unit) := fun x => (hasStr_B_n k x).run
theorem hasStr_le (k : Nat) (x : _) : OLe (hasStr_n k x) (hasStr x) := hasStr_B_le k x
noncomputable def betwQ_w0_n (k : Nat) : (Int × (Int × (((List (ByteArray × ((List ByteArray) × (Bool × (Int × (Int × (List (Int × ((Int × (Int × (ByteArray × Bool))) × (ByteArray × ByteArray)))))))))) × (Int × Int)) × ((List Int) × Unit)))) → Option ((List Int) × Unit) := iterN (fun x => (betwQ_l0 x).run) k
theorem betwQ_w0_le (k : Nat) (x : _) : OLe (betwQ_w0_n k x) (betwQ_w0 x) := iterN_le (fun x => OLe.rfl' _) k x
noncomputable def betwQ_B_n (k : Nat) : (((List (ByteArray × ((List ByteArray) × (Bool × (Int × (Int × (List (Int × ((Int × (Int × (ByteArray × Bool))) × (ByteArray × ByteArray)))))))))) × (Int × Int)) × (Int × Unit)) → Br ((List Int) × Unit) := fun (p0, p1, ()) =>
 (.opt ((betwQ_w0_n k) (p1, if IntKind.wrap IntKind.i64 (p1 + 1) < 0 then 0 else IntKind.wrap IntKind.i64 (p1 + 1), p0, [], ())) fun z26 =>
 (.ret (Prod.fst z26, ())))
theorem betwQ_B_le (k : Nat) (x : _) : BLe (betwQ_B_n k x) (betwQ_B x) := by
  obtain ⟨p0, p1, ⟨⟩⟩ := x
  show BLe (betwQ_B_n k _) (betwQ_B _)
  unfold betwQ_B_n betwQ_B
  repeat' (first | with_reducible exact BLe.rfl' _ | with_reducible exact OLe.rfl' _ | with_reducible apply BLe.cond | (with_reducible refine BLe.opt ?_ fun _ => ?_) | (with_reducible refine BLe.sum (fun _ => ?_) fun _ => ?_) | exact betwQ_w0_le k _)
noncomputable def betwQ_n (k : Nat) : (((List (ByteArray × ((List ByteArray) × (Bool × (Int × (Int × (List (Int × ((Int × (Int × (ByteArray × Bool))) × (ByteArray × ByteArray)))))))))) × (Int × Int)) × (Int × Unit)) → Option ((List Int) × Unit) := fun x => (betwQ_B_n k x).run
theorem betwQ_le (k : Nat) (x : _) : OLe (betwQ_n k x) (betwQ x) := betwQ_B_le k x
noncomputable def fitsG_B_n (k : Nat) : ((Option (List (ByteArray × (List (ByteArray × Int))))) × (((List (ByteArray × ((List ByteArray) × (Bool × (Int × (Int × (List (Int × ((Int × (Int × (ByteArray × Bool))) × (ByteArray × ByteArray)))))))))) × (Int × Int)) × ((Int × ((List (Int × Int)) × ((List (ByteArray × (ByteArray × (ByteArray × (Int × (Int × (List (Int × (Int × (ByteArray × Bool)))))))))) × (Int × ((Int × (Int × Int)) × Bool))))) × (Int × ((ByteArray × (ByteArray × (Int × (Int × (List (Int × (Int × (ByteArray × Bool)))))))) × Unit))))) → Br (Bool × Unit) := fun (p0, p1, p2, p3, p4, ()) =>
 (.cond (decide (p3 < 0))
 (.ret (false, ()))
 (.cond (decide (p3 ≥ (↑(List.length (Prod.fst p1)) : Int)))
 (.ret (false, ()))
 (.cond (decide (0 ≤ p3) && decide (p3 < (↑(List.length (Prod.fst p1)) : Int)))
 (.opt ((hasStr_n k) (Prod.fst (Prod.snd (List.getD (Prod.fst p1) (Int.toNat p3) (ByteArray.empty, [], false, 0, 0, []))), Prod.fst p4, ())) fun y8 =>
 (.cond (!Prod.fst y8)
 (.ret (false, ()))
 (.cond (decide (0 ≤ p3) && decide (p3 < (↑(List.length (Prod.fst p1)) : Int)))
 (.opt (envR (p2, ())) fun y9 =>
 (.cond (decide ((List.length (Prod.fst y9) + List.length (List.set (List.replicate 1 (ByteArray.empty, ByteArray.empty, ByteArray.empty, 0, 0, [])) 0 (Prod.fst (List.getD (Prod.fst p1) (Int.toNat p3) (ByteArray.empty, [], false, 0, 0, [])), p4))) * 88 ≤ 140737488355328))
 (.opt ((holdsF_n k) (p0, Prod.snd (Prod.snd (Prod.snd (Prod.snd (Prod.snd (List.getD (Prod.fst p1) (Int.toNat p3) (ByteArray.empty, [], false, 0, 0, [])))))), Prod.fst y9 ++ List.set (List.replicate 1 (ByteArray.empty, ByteArray.empty, ByteArray.empty, 0, 0, [])) 0 (Prod.fst (List.getD (Prod.fst p1) (Int.toNat p3) (ByteArray.empty, [], false, 0, 0, [])), p4), ())) fun y10 =>
 (.ret (Prod.fst y10, ())))
 (.no)))
 (.no))))
 (.no))))
theorem fitsG_B_le (k : Nat) (x : _) : BLe (fitsG_B_n k x) (fitsG_B x) := by
  obtain ⟨p0, p1, p2, p3, p4, ⟨⟩⟩ := x
  show BLe (fitsG_B_n k _) (fitsG_B _)
  unfold fitsG_B_n fitsG_B
  repeat' (first | with_reducible exact BLe.rfl' _ | with_reducible exact OLe.rfl' _ | with_reducible apply BLe.cond | (with_reducible refine BLe.opt ?_ fun _ => ?_) | (with_reducible refine BLe.sum (fun _ => ?_) fun _ => ?_) | exact hasStr_le k _ | exact holdsF_le k _)
noncomputable def fitsG_n (k : Nat) : ((Option (List (ByteArray × (List (ByteArray × Int))))) × (((List (ByteArray × ((List ByteArray) × (Bool × (Int × (Int × (List (Int × ((Int × (Int × (ByteArray × Bool))) × (ByteArray × ByteArray)))))))))) × (Int × Int)) × ((Int × ((List (Int × Int)) × ((List (ByteArray × (ByteArray × (ByteArray × (Int × (Int × (List (Int × (Int × (ByteArray × Bool)))))))))) × (Int × ((Int × (Int × Int)) × Bool))))) × (Int × ((ByteArray × (ByteArray × (Int × (Int × (List (Int × (Int × (ByteArray × Bool)))))))) × Unit))))) → Option (Bool × Unit) := fun x => (fitsG_B_n k x).run
theorem fitsG_le (k : Nat) (x : _) : OLe (fitsG_n k x) (fitsG x) := fitsG_B_le k x
noncomputable def blocksG_l0_n (k : Nat) : ((Option (List (ByteArray × (List (ByteArray × Int))))) × ((List Int) × (Int × (Int × (((List (ByteArray × ((List ByteArray) × (Bool × (Int × (Int × (List (Int × ((Int × (Int × (ByteArray × Bool))) × (ByteArray × ByteArray)))))))))) × (Int × Int)) × ((Int × ((List (Int × Int)) × ((List (ByteArray × (ByteArray × (ByteArray × (Int × (Int × (List (Int × (Int × (ByteArray × Bool)))))))))) × (Int × ((Int × (Int × Int)) × Bool))))) × ((ByteArray × (ByteArray × (Int × (Int × (List (Int × (Int × (ByteArray × Bool)))))))) × Unit))))))) → Br (((Option (List (ByteArray × (List (ByteArray × Int))))) × ((List Int) × (Int × (Int × (((List (ByteArray × ((List ByteArray) × (Bool × (Int × (Int × (List (Int × ((Int × (Int × (ByteArray × Bool))) × (ByteArray × ByteArray)))))))))) × (Int × Int)) × ((Int × ((List (Int × Int)) × ((List (ByteArray × (ByteArray × (ByteArray × (Int × (Int × (List (Int × (Int × (ByteArray × Bool)))))))))) × (Int × ((Int × (Int × Int)) × Bool))))) × ((ByteArray × (ByteArray × (Int × (Int × (List (Int × (Int × (ByteArray × Bool)))))))) × Unit))))))) ⊕ (Unit ⊕ Unit)) := fun (s0_45, s17_46, s18_47, s19_48, v1029_49, v1030_50, v1031_51, ()) =>
 (.cond (decide (s19_48 < s18_47))
 (.cond (decide (0 ≤ s19_48) && decide (s19_48 < (↑(List.length s17_46) : Int)))
 (.opt ((fitsG_n k) (s0_45, v1029_49, v1030_50, List.getD s17_46 (Int.toNat s19_48) 0, v1031_51, ())) fun y52 =>
 (.cond (Prod.fst y52)
 (.ret (.inr (.inl (()))))
 (.ret (.inl (s0_45, s17_46, s18_47, IntKind.wrap IntKind.i64 (s19_48 + 1), v1029_49, v1030_50, v1031_51, ())))))
 (.no))
 (.ret (.inr (.inr (())))))
theorem blocksG_l0_le (k : Nat) (x : _) : BLe (blocksG_l0_n k x) (blocksG_l0 x) := by
  obtain ⟨s0_45, s17_46, s18_47, s19_48, v1029_49, v1030_50, v1031_51, ⟨⟩⟩ := x
  show BLe (blocksG_l0_n k _) (blocksG_l0 _)
  unfold blocksG_l0_n blocksG_l0
  repeat' (first | with_reducible exact BLe.rfl' _ | with_reducible exact OLe.rfl' _ | with_reducible apply BLe.cond | (with_reducible refine BLe.opt ?_ fun _ => ?_) | (with_reducible refine BLe.sum (fun _ => ?_) fun _ => ?_) | exact fitsG_le k _)
noncomputable def blocksG_w0_n (k : Nat) : ((Option (List (ByteArray × (List (ByteArray × Int))))) × ((List Int) × (Int × (Int × (((List (ByteArray × ((List ByteArray) × (Bool × (Int × (Int × (List (Int × ((Int × (Int × (ByteArray × Bool))) × (ByteArray × ByteArray)))))))))) × (Int × Int)) × ((Int × ((List (Int × Int)) × ((List (ByteArray × (ByteArray × (ByteArray × (Int × (Int × (List (Int × (Int × (ByteArray × Bool)))))))))) × (Int × ((Int × (Int × Int)) × Bool))))) × ((ByteArray × (ByteArray × (Int × (Int × (List (Int × (Int × (ByteArray × Bool)))))))) × Unit))))))) → Option (Unit ⊕ Unit) := iterN (fun x => (blocksG_l0_n k x).run) k
theorem blocksG_w0_le (k : Nat) (x : _) : OLe (blocksG_w0_n k x) (blocksG_w0 x) := iterN_le (fun x => blocksG_l0_le k x) k x
noncomputable def blocksG_B_n (k : Nat) : ((Option (List (ByteArray × (List (ByteArray × Int))))) × (((List (ByteArray × ((List ByteArray) × (Bool × (Int × (Int × (List (Int × ((Int × (Int × (ByteArray × Bool))) × (ByteArray × ByteArray)))))))))) × (Int × Int)) × ((Int × ((List (Int × Int)) × ((List (ByteArray × (ByteArray × (ByteArray × (Int × (Int × (List (Int × (Int × (ByteArray × Bool)))))))))) × (Int × ((Int × (Int × Int)) × Bool))))) × ((ByteArray × (ByteArray × (Int × (Int × (List (Int × (Int × (ByteArray × Bool)))))))) × Unit)))) → Br (Bool × Unit) := fun (p0, p1, p2, p3, ()) =>
 (.opt (runLen (p2, ())) fun y42 =>
 (.cond (Prod.fst y42 == 0)
 (.ret (false, ()))
 (.opt (runElem (p2, ())) fun y43 =>
 (.opt ((betwQ_n k) (p1, Prod.fst y43, ())) fun y44 =>
 (.opt ((blocksG_w0_n k) (p0, Prod.fst y44, (↑(List.length (Prod.fst y44)) : Int), 0, p1, p2, p3, ())) fun z54 =>
 (.sum z54 (fun u55 =>
 (.ret (true, ()))) (fun z56 =>
 (.ret (false, ())))))))))
theorem blocksG_B_le (k : Nat) (x : _) : BLe (blocksG_B_n k x) (blocksG_B x) := by
  obtain ⟨p0, p1, p2, p3, ⟨⟩⟩ := x
  show BLe (blocksG_B_n k _) (blocksG_B _)
  unfold blocksG_B_n blocksG_B
  repeat' (first | with_reducible exact BLe.rfl' _ | with_reducible exact OLe.rfl' _ | with_reducible apply BLe.cond | (with_reducible refine BLe.opt ?_ fun _ => ?_) | (with_reducible refine BLe.sum (fun _ => ?_) fun _ => ?_) | exact betwQ_le k _ | exact blocksG_w0_le k _)
noncomputable def blocksG_n (k : Nat) : ((Option (List (ByteArray × (List (ByteArray × Int))))) × (((List (ByteArray × ((List ByteArray) × (Bool × (Int × (Int × (List (Int × ((Int × (Int × (ByteArray × Bool))) × (ByteArray × ByteArray)))))))))) × (Int × Int)) × ((Int × ((List (Int × Int)) × ((List (ByteArray × (ByteArray × (ByteArray × (Int × (Int × (List (Int × (Int × (ByteArray × Bool)))))))))) × (Int × ((Int × (Int × Int)) × Bool))))) × ((ByteArray × (ByteArray × (Int × (Int × (List (Int × (Int × (ByteArray × Bool)))))))) × Unit)))) → Option (Bool × Unit) := fun x => (blocksG_B_n k x).run
theorem blocksG_le (k : Nat) (x : _) : OLe (blocksG_n k x) (blocksG x) := blocksG_B_le k x
noncomputable def awake23_B_n (k : Nat) : Unit → Br (Bool × Unit) := fun (()) =>
 (.opt ((newS_n k) ([({ data := #[65] }, []), ({ data := #[66] }, [])], ())) fun y5 =>
 (.opt (runWith ((0, [], [], 0, (0, 0, 0), false), ([({ data := #[97] }, [{ data := #[65] }], false, 1, 1, []), ({ data := #[98] }, [{ data := #[66] }], true, 1, 1, []), ({ data := #[99] }, [{ data := #[65] }], false, 1, 1, [])], 0, 0), 1, 0, ({ data := #[65] }, ByteArray.empty, 0, 1, []), ())) fun y6 =>
 (.opt ((blocksG_n k) (Prod.fst (Prod.fst y5), ([({ data := #[97] }, [{ data := #[65] }], false, 1, 1, []), ({ data := #[98] }, [{ data := #[66] }], true, 1, 1, []), ({ data := #[99] }, [{ data := #[65] }], false, 1, 1, [])], 0, 0), Prod.fst y6, ({ data := #[66] }, ByteArray.empty, 0, 2, []), ())) fun y7 =>
 (.cond (Prod.fst y7)
 (.opt ((blocksG_n k) (Prod.fst (Prod.fst y5), ([({ data := #[97] }, [{ data := #[65] }], false, 1, 1, []), ({ data := #[98] }, [{ data := #[66] }], true, 1, 1, []), ({ data := #[99] }, [{ data := #[65] }], false, 1, 1, [])], 0, 0), Prod.fst y6, ({ data := #[65] }, ByteArray.empty, 0, 2, []), ())) fun y8 =>
 (.cond (!Prod.fst y8)
 (.opt ((blocksG_n k) (Prod.fst (Prod.fst y5), ([({ data := #[97] }, [{ data := #[65] }], false, 1, 1, []), ({ data := #[98] }, [{ data := #[66] }], true, 1, 1, []), ({ data := #[99] }, [{ data := #[65] }], false, 1, 1, [])], 0, 0), (0, [], [], 0, (0, 0, 0), false), ({ data := #[66] }, ByteArray.empty, 0, 0, []), ())) fun y9 =>
 (.ret (!Prod.fst y9, ())))
 (.ret (false, ()))))
 (.ret (false, ()))))))
theorem awake23_B_le (k : Nat) (x : _) : BLe (awake23_B_n k x) (awake23_B x) := by
  obtain ⟨⟩ := x
  show BLe (awake23_B_n k _) (awake23_B _)
  unfold awake23_B_n awake23_B
  repeat' (first | with_reducible exact BLe.rfl' _ | with_reducible exact OLe.rfl' _ | with_reducible apply BLe.cond | (with_reducible refine BLe.opt ?_ fun _ => ?_) | (with_reducible refine BLe.sum (fun _ => ?_) fun _ => ?_) | exact blocksG_le k _ | exact newS_le k _)
noncomputable def awake23_n (k : Nat) : Unit → Option (Bool × Unit) := fun x => (awake23_B_n k x).run
theorem awake23_le (k : Nat) (x : _) : OLe (awake23_n k x) (awake23 x) := awake23_B_le k x
noncomputable def guardBlocks_l0_n (k : Nat) : ((Option (List (ByteArray × (List (ByteArray × Int))))) × ((List (ByteArray × (ByteArray × (Int × (Int × (List (Int × (Int × (ByteArray × Bool))))))))) × (Bool × (Int × (((List (ByteArray × ((List ByteArray) × (Bool × (Int × (Int × (List (Int × ((Int × (Int × (ByteArray × Bool))) × (ByteArray × ByteArray)))))))))) × (Int × Int)) × ((Int × ((List (Int × Int)) × ((List (ByteArray × (ByteArray × (ByteArray × (Int × (Int × (List (Int × (Int × (ByteArray × Bool)))))))))) × (Int × ((Int × (Int × Int)) × Bool))))) × Unit)))))) → Br (((Option (List (ByteArray × (List (ByteArray × Int))))) × ((List (ByteArray × (ByteArray × (Int × (Int × (List (Int × (Int × (ByteArray × Bool))))))))) × (Bool × (Int × (((List (ByteArray × ((List ByteArray) × (Bool × (Int × (Int × (List (Int × ((Int × (Int × (ByteArray × Bool))) × (ByteArray × ByteArray)))))))))) × (Int × Int)) × ((Int × ((List (Int × Int)) × ((List (ByteArray × (ByteArray × (ByteArray × (Int × (Int × (List (Int × (Int × (ByteArray × Bool)))))))))) × (Int × ((Int × (Int × Int)) × Bool))))) × Unit)))))) ⊕ ((Option (List (ByteArray × (List (ByteArray × Int))))) × ((List (ByteArray × (ByteArray × (Int × (Int × (List (Int × (Int × (ByteArray × Bool))))))))) × (Bool × (((List (ByteArray × ((List ByteArray) × (Bool × (Int × (Int × (List (Int × ((Int × (Int × (ByteArray × Bool))) × (ByteArray × ByteArray)))))))))) × (Int × Int)) × ((Int × ((List (Int × Int)) × ((List (ByteArray × (ByteArray × (ByteArray × (Int × (Int × (List (Int × (Int × (ByteArray × Bool)))))))))) × (Int × ((Int × (Int × Int)) × Bool))))) × Unit)))))) := fun (s7_58, s10_59, s13_60, s14_61, v1033_62, v1036_63, ()) =>
 (.cond (decide (s14_61 < (↑(List.length (Prod.fst v1033_62)) : Int)))
 (.cond (decide (0 ≤ s14_61) && decide (s14_61 < (↑(List.length (Prod.fst v1033_62)) : Int)))
 (.cond (Prod.fst (Prod.snd (Prod.snd (List.getD (Prod.fst v1033_62) (Int.toNat s14_61) (ByteArray.empty, [], false, 0, 0, [])))))
 (.cond (s13_60)
 (.ret (.inl (s7_58, s10_59, true, IntKind.wrap IntKind.i64 (s14_61 + 1), v1033_62, v1036_63, ())))
 (.cond (decide (0 ≤ 1) && decide (1 < (↑(List.length s10_59) : Int)))
 (.opt ((fitsG_n k) (s7_58, v1033_62, v1036_63, s14_61, List.getD s10_59 (Int.toNat 1) (ByteArray.empty, ByteArray.empty, 0, 0, []), ())) fun y64 =>
 (.ret (.inl (s7_58, s10_59, Prod.fst y64, IntKind.wrap IntKind.i64 (s14_61 + 1), v1033_62, v1036_63, ()))))
 (.no)))
 (.ret (.inr (s7_58, s10_59, s13_60, v1033_62, v1036_63, ()))))
 (.no))
 (.ret (.inr (s7_58, s10_59, s13_60, v1033_62, v1036_63, ()))))
theorem guardBlocks_l0_le (k : Nat) (x : _) : BLe (guardBlocks_l0_n k x) (guardBlocks_l0 x) := by
  obtain ⟨s7_58, s10_59, s13_60, s14_61, v1033_62, v1036_63, ⟨⟩⟩ := x
  show BLe (guardBlocks_l0_n k _) (guardBlocks_l0 _)
  unfold guardBlocks_l0_n guardBlocks_l0
  repeat' (first | with_reducible exact BLe.rfl' _ | with_reducible exact OLe.rfl' _ | with_reducible apply BLe.cond | (with_reducible refine BLe.opt ?_ fun _ => ?_) | (with_reducible refine BLe.sum (fun _ => ?_) fun _ => ?_) | exact fitsG_le k _)
noncomputable def guardBlocks_w0_n (k : Nat) : ((Option (List (ByteArray × (List (ByteArray × Int))))) × ((List (ByteArray × (ByteArray × (Int × (Int × (List (Int × (Int × (ByteArray × Bool))))))))) × (Bool × (Int × (((List (ByteArray × ((List ByteArray) × (Bool × (Int × (Int × (List (Int × ((Int × (Int × (ByteArray × Bool))) × (ByteArray × ByteArray)))))))))) × (Int × Int)) × ((Int × ((List (Int × Int)) × ((List (ByteArray × (ByteArray × (ByteArray × (Int × (Int × (List (Int × (Int × (ByteArray × Bool)))))))))) × (Int × ((Int × (Int × Int)) × Bool))))) × Unit)))))) → Option ((Option (List (ByteArray × (List (ByteArray × Int))))) × ((List (ByteArray × (ByteArray × (Int × (Int × (List (Int × (Int × (ByteArray × Bool))))))))) × (Bool × (((List (ByteArray × ((List ByteArray) × (Bool × (Int × (Int × (List (Int × ((Int × (Int × (ByteArray × Bool))) × (ByteArray × ByteArray)))))))))) × (Int × Int)) × ((Int × ((List (Int × Int)) × ((List (ByteArray × (ByteArray × (ByteArray × (Int × (Int × (List (Int × (Int × (ByteArray × Bool)))))))))) × (Int × ((Int × (Int × Int)) × Bool))))) × Unit))))) := iterN (fun x => (guardBlocks_l0_n k x).run) k
theorem guardBlocks_w0_le (k : Nat) (x : _) : OLe (guardBlocks_w0_n k x) (guardBlocks_w0 x) := iterN_le (fun x => guardBlocks_l0_le k x) k x
noncomputable def guardBlocks_B_n (k : Nat) : ((List Int) × ((List (ByteArray × (ByteArray × (Int × (Int × (List (Int × (Int × (ByteArray × Bool))))))))) × (Int × Unit))) → Br (Bool × Unit) := fun (p0, p1, p2, ()) =>
 (.opt (typesR ()) fun y52 =>
 (.opt ((newS_n k) (Prod.fst y52, ())) fun y53 =>
 (.opt (queryQ (p0, ())) fun y54 =>
 (.opt (eventsR (p1, 5, ())) fun y55 =>
 (.cond (decide ((↑(List.length (Prod.fst y55)) : Int) < 2))
 (.opt ((awake23_n k) ()) fun y56 =>
 (.ret (Prod.fst y56, ())))
 (.cond (decide ((↑(List.length (Prod.fst (Prod.fst y54))) : Int) = 0))
 (.no)
 (.cond (decide (0 ≤ 0) && decide (0 < (↑(List.length (Prod.fst y55)) : Int)))
 (.opt (runWith ((0, [], [], 0, (0, 0, 0), false), Prod.fst y54, 1, Int.tmod (IntKind.wrap IntKind.i64 (↑(BitVec.toNat (BitVec.ofInt (IntKind.bits IntKind.i64) p2 &&& BitVec.ofInt (IntKind.bits IntKind.i64) 255)) : Int)) (↑(List.length (Prod.fst (Prod.fst y54))) : Int), List.getD (Prod.fst y55) (Int.toNat 0) (ByteArray.empty, ByteArray.empty, 0, 0, []), ())) fun y57 =>
 (.opt ((guardBlocks_w0_n k) (Prod.fst (Prod.fst y53), Prod.fst y55, false, IntKind.wrap IntKind.i64 (Int.tmod (IntKind.wrap IntKind.i64 (↑(BitVec.toNat (BitVec.ofInt (IntKind.bits IntKind.i64) p2 &&& BitVec.ofInt (IntKind.bits IntKind.i64) 255)) : Int)) (↑(List.length (Prod.fst (Prod.fst y54))) : Int) + 1), Prod.fst y54, Prod.fst y57, ())) fun z66 =>
 (.opt ((awake23_n k) ()) fun y67 =>
 (.cond (Prod.fst y67)
 (.cond (decide (0 ≤ 1) && decide (1 < (↑(List.length (Prod.fst (Prod.snd z66))) : Int)))
 (.opt ((blocksG_n k) (Prod.fst z66, Prod.fst (Prod.snd (Prod.snd (Prod.snd z66))), Prod.fst (Prod.snd (Prod.snd (Prod.snd (Prod.snd z66)))), List.getD (Prod.fst (Prod.snd z66)) (Int.toNat 1) (ByteArray.empty, ByteArray.empty, 0, 0, []), ())) fun y68 =>
 (.cond (Prod.fst y68 == Prod.fst (Prod.snd (Prod.snd z66)))
 (.cond (decide (0 ≤ 1) && decide (1 < (↑(List.length (Prod.fst (Prod.snd z66))) : Int)))
 (.opt ((blocksG_n k) (Prod.fst z66, Prod.fst (Prod.snd (Prod.snd (Prod.snd z66))), (0, [], [], 0, (0, 0, 0), false), List.getD (Prod.fst (Prod.snd z66)) (Int.toNat 1) (ByteArray.empty, ByteArray.empty, 0, 0, []), ())) fun y69 =>
 (.ret (!Prod.fst y69, ())))
 (.no))
 (.ret (false, ()))))
 (.no))
 (.ret (false, ()))))))
 (.no))))))))
theorem guardBlocks_B_le (k : Nat) (x : _) : BLe (guardBlocks_B_n k x) (guardBlocks_B x) := by
  obtain ⟨p0, p1, p2, ⟨⟩⟩ := x
  show BLe (guardBlocks_B_n k _) (guardBlocks_B _)
  unfold guardBlocks_B_n guardBlocks_B
  repeat' (first | with_reducible exact BLe.rfl' _ | with_reducible exact OLe.rfl' _ | with_reducible apply BLe.cond | (with_reducible refine BLe.opt ?_ fun _ => ?_) | (with_reducible refine BLe.sum (fun _ => ?_) fun _ => ?_) | exact awake23_le k _ | exact blocksG_le k _ | exact guardBlocks_w0_le k _ | exact newS_le k _)
noncomputable def guardBlocks_n (k : Nat) : ((List Int) × ((List (ByteArray × (ByteArray × (Int × (Int × (List (Int × (Int × (ByteArray × Bool))))))))) × (Int × Unit))) → Option (Bool × Unit) := fun x => (guardBlocks_B_n k x).run
theorem guardBlocks_le (k : Nat) (x : _) : OLe (guardBlocks_n k x) (guardBlocks x) := guardBlocks_B_le k x
end Go.Proofs.Ytnhiplibodkciaa
