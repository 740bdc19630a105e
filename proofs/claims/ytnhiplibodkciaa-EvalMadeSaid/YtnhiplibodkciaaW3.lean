/- Twins of functions that the kernel reckons. Printed by twin.py. -/
import Derived.Test.YtnhiplibodkciaaW1
import Derived.Test.YtnhiplibodkciaaR5
namespace Go.Proofs.Ytnhiplibodkciaa
open Go.PI Go
noncomputable def awake14_B_n (k : Nat) : Unit → Br (Bool × Unit) := fun (()) =>
 (.opt (typesR ()) fun y5 =>
 (.opt ((newS_n k) (Prod.fst y5, ())) fun y6 =>
 (.opt ((holdsF_n k) (Prod.fst (Prod.fst y6), [(2, (0, 0, ByteArray.empty, false), { data := #[97] }, { data := #[120] }), (1, (1, 3, ByteArray.empty, false), ByteArray.empty, ByteArray.empty), (11, (0, 0, ByteArray.empty, false), ByteArray.empty, ByteArray.empty)], [({ data := #[97] }, { data := #[65] }, { data := #[107] }, 0, 0, [(1, 4, ByteArray.empty, false), (2, 0, ByteArray.empty, false)])], ())) fun y7 =>
 (.cond (Prod.fst y7)
 (.opt ((holdsF_n k) (Prod.fst (Prod.fst y6), [(2, (0, 0, ByteArray.empty, false), { data := #[97] }, { data := #[120] }), (1, (1, 3, ByteArray.empty, false), ByteArray.empty, ByteArray.empty), (11, (0, 0, ByteArray.empty, false), ByteArray.empty, ByteArray.empty)], [], ())) fun y8 =>
 (.cond (!Prod.fst y8)
 (.opt ((holdsF_n k) (Prod.fst (Prod.fst y6), [], [], ())) fun y9 =>
 (.ret (Prod.fst y9, ())))
 (.ret (false, ()))))
 (.ret (false, ()))))))
theorem awake14_B_le (k : Nat) (x : _) : BLe (awake14_B_n k x) (awake14_B x) := by
  obtain ⟨⟩ := x
  show BLe (awake14_B_n k _) (awake14_B _)
  unfold awake14_B_n awake14_B
  repeat' (first | with_reducible exact BLe.rfl' _ | with_reducible exact OLe.rfl' _ | with_reducible apply BLe.cond | (with_reducible refine BLe.opt ?_ fun _ => ?_) | (with_reducible refine BLe.sum (fun _ => ?_) fun _ => ?_) | exact holdsF_le k _ | exact newS_le k _)
noncomputable def awake14_n (k : Nat) : Unit → Option (Bool × Unit) := fun x => (awake14_B_n k x).run
theorem awake14_le (k : Nat) (x : _) : OLe (awake14_n k x) (awake14 x) := awake14_B_le k x
noncomputable def evalParts_B_n (k : Nat) : (Int × ((Int × (Int × (ByteArray × Bool))) × ((Int × (Int × (ByteArray × Bool))) × Unit))) → Br (Bool × Unit) := fun (p0, p1, p2, ()) =>
 (.opt (typesR ()) fun y14 =>
 (.opt ((newS_n k) (Prod.fst y14, ())) fun y15 =>
 (.cond (false)
 (.no)
 (.opt (valueL (p1, ())) fun y16 =>
 (.opt (valueL (p2, ())) fun y17 =>
 (.opt (partsR (IntKind.wrap IntKind.i64 (Int.tmod (IntKind.wrap IntKind.i64 (↑(BitVec.toNat (BitVec.ofInt (IntKind.bits IntKind.i64) p0 &&& BitVec.ofInt (IntKind.bits IntKind.i64) 255)) : Int)) 13 + 3), ())) fun y18 =>
 (.cond (Prod.fst y18 == 1)
 (.opt ((evalE_n k) (Prod.fst (Prod.fst y15), [(1, Prod.fst y16, ByteArray.empty, ByteArray.empty), (IntKind.wrap IntKind.i64 (Int.tmod (IntKind.wrap IntKind.i64 (↑(BitVec.toNat (BitVec.ofInt (IntKind.bits IntKind.i64) p0 &&& BitVec.ofInt (IntKind.bits IntKind.i64) 255)) : Int)) 13 + 3), (0, 0, ByteArray.empty, false), ByteArray.empty, ByteArray.empty)], [], ())) fun y19 =>
 (.opt (evalRF ([(1, Prod.fst y16, ByteArray.empty, ByteArray.empty), (IntKind.wrap IntKind.i64 (Int.tmod (IntKind.wrap IntKind.i64 (↑(BitVec.toNat (BitVec.ofInt (IntKind.bits IntKind.i64) p0 &&& BitVec.ofInt (IntKind.bits IntKind.i64) 255)) : Int)) 13 + 3), (0, 0, ByteArray.empty, false), ByteArray.empty, ByteArray.empty)], [], IntKind.wrap IntKind.i64 ((↑(List.length [(1, Prod.fst y16, ByteArray.empty, ByteArray.empty), (IntKind.wrap IntKind.i64 (Int.tmod (IntKind.wrap IntKind.i64 (↑(BitVec.toNat (BitVec.ofInt (IntKind.bits IntKind.i64) p0 &&& BitVec.ofInt (IntKind.bits IntKind.i64) 255)) : Int)) 13 + 3), (0, 0, ByteArray.empty, false), ByteArray.empty, ByteArray.empty)]) : Int) - 1), ())) fun y20 =>
 (.opt ((awake14_n k) ()) fun y21 =>
 (.cond (Prod.fst y21)
 (.cond (Prod.snd (Prod.fst y19) == Prod.fst (Prod.snd (Prod.fst y20)))
 (.cond (!Prod.snd (Prod.fst y19))
 (.ret (true, ()))
 (.ret (decide (Prod.fst (Prod.fst (Prod.fst y19)) = Prod.fst (Prod.fst (Prod.fst y20))) && (decide (Prod.fst (Prod.snd (Prod.fst (Prod.fst y19))) = Prod.fst (Prod.snd (Prod.fst (Prod.fst y20)))) && (bl (Prod.fst (Prod.snd (Prod.snd (Prod.fst (Prod.fst y19))))) == bl (Prod.fst (Prod.snd (Prod.snd (Prod.fst (Prod.fst y20))))) && Prod.snd (Prod.snd (Prod.snd (Prod.fst (Prod.fst y19)))) == Prod.snd (Prod.snd (Prod.snd (Prod.fst (Prod.fst y20)))))), ())))
 (.ret (false, ())))
 (.ret (false, ()))))))
 (.opt ((evalE_n k) (Prod.fst (Prod.fst y15), [(1, Prod.fst y16, ByteArray.empty, ByteArray.empty), (1, Prod.fst y17, ByteArray.empty, ByteArray.empty), (IntKind.wrap IntKind.i64 (Int.tmod (IntKind.wrap IntKind.i64 (↑(BitVec.toNat (BitVec.ofInt (IntKind.bits IntKind.i64) p0 &&& BitVec.ofInt (IntKind.bits IntKind.i64) 255)) : Int)) 13 + 3), (0, 0, ByteArray.empty, false), ByteArray.empty, ByteArray.empty)], [], ())) fun y22 =>
 (.opt (evalRF ([(1, Prod.fst y16, ByteArray.empty, ByteArray.empty), (1, Prod.fst y17, ByteArray.empty, ByteArray.empty), (IntKind.wrap IntKind.i64 (Int.tmod (IntKind.wrap IntKind.i64 (↑(BitVec.toNat (BitVec.ofInt (IntKind.bits IntKind.i64) p0 &&& BitVec.ofInt (IntKind.bits IntKind.i64) 255)) : Int)) 13 + 3), (0, 0, ByteArray.empty, false), ByteArray.empty, ByteArray.empty)], [], IntKind.wrap IntKind.i64 ((↑(List.length [(1, Prod.fst y16, ByteArray.empty, ByteArray.empty), (1, Prod.fst y17, ByteArray.empty, ByteArray.empty), (IntKind.wrap IntKind.i64 (Int.tmod (IntKind.wrap IntKind.i64 (↑(BitVec.toNat (BitVec.ofInt (IntKind.bits IntKind.i64) p0 &&& BitVec.ofInt (IntKind.bits IntKind.i64) 255)) : Int)) 13 + 3), (0, 0, ByteArray.empty, false), ByteArray.empty, ByteArray.empty)]) : Int) - 1), ())) fun y23 =>
 (.opt ((awake14_n k) ()) fun y24 =>
 (.cond (Prod.fst y24)
 (.cond (Prod.snd (Prod.fst y22) == Prod.fst (Prod.snd (Prod.fst y23)))
 (.cond (!Prod.snd (Prod.fst y22))
 (.ret (true, ()))
 (.ret (decide (Prod.fst (Prod.fst (Prod.fst y22)) = Prod.fst (Prod.fst (Prod.fst y23))) && (decide (Prod.fst (Prod.snd (Prod.fst (Prod.fst y22))) = Prod.fst (Prod.snd (Prod.fst (Prod.fst y23)))) && (bl (Prod.fst (Prod.snd (Prod.snd (Prod.fst (Prod.fst y22))))) == bl (Prod.fst (Prod.snd (Prod.snd (Prod.fst (Prod.fst y23))))) && Prod.snd (Prod.snd (Prod.snd (Prod.fst (Prod.fst y22)))) == Prod.snd (Prod.snd (Prod.snd (Prod.fst (Prod.fst y23)))))), ())))
 (.ret (false, ())))
 (.ret (false, ())))))))))))))
theorem evalParts_B_le (k : Nat) (x : _) : BLe (evalParts_B_n k x) (evalParts_B x) := by
  obtain ⟨p0, p1, p2, ⟨⟩⟩ := x
  show BLe (evalParts_B_n k _) (evalParts_B _)
  unfold evalParts_B_n evalParts_B
  repeat' (first | with_reducible exact BLe.rfl' _ | with_reducible exact OLe.rfl' _ | with_reducible apply BLe.cond | (with_reducible refine BLe.opt ?_ fun _ => ?_) | (with_reducible refine BLe.sum (fun _ => ?_) fun _ => ?_) | exact awake14_le k _ | exact evalE_le k _ | exact newS_le k _)
noncomputable def evalParts_n (k : Nat) : (Int × ((Int × (Int × (ByteArray × Bool))) × ((Int × (Int × (ByteArray × Bool))) × Unit))) → Option (Bool × Unit) := fun x => (evalParts_B_n k x).run
theorem evalParts_le (k : Nat) (x : _) : OLe (evalParts_n k x) (evalParts x) := evalParts_B_le k x
noncomputable def evalNone_B_n (k : Nat) : ((ByteArray × (ByteArray × (Int × (Int × (List (Int × (Int × (ByteArray × Bool)))))))) × ((List (Int × ((Int × (Int × (ByteArray × Bool))) × (ByteArray × ByteArray)))) × Unit)) → Br (Bool × Unit) := fun (p0, p1, ()) =>
 (.opt (typesR ()) fun y13 =>
 (.opt ((newS_n k) (Prod.fst y13, ())) fun y14 =>
 (.opt (eventR (p0, ())) fun y15 =>
 (.opt (fieldL ({ data := #[97] }, { data := #[110, 111, 110, 101] }, ())) fun y16 =>
 (.opt (fieldL ({ data := #[119] }, { data := #[120] }, ())) fun y17 =>
 (.opt ((evalE_n k) (Prod.fst (Prod.fst y14), [Prod.fst y16, Prod.fst y16, (7, (0, 0, ByteArray.empty, false), ByteArray.empty, ByteArray.empty)], [({ data := #[97] }, Prod.fst y15)], ())) fun y18 =>
 (.opt ((evalE_n k) (Prod.fst (Prod.fst y14), [Prod.fst y17, Prod.fst y17, (7, (0, 0, ByteArray.empty, false), ByteArray.empty, ByteArray.empty)], [({ data := #[97] }, Prod.fst y15)], ())) fun y19 =>
 (.opt (fieldL ({ data := #[97] }, { data := #[120] }, ())) fun y20 =>
 (.cond (decide (0 ≤ 0) && decide (0 ≤ if 10 < (↑(List.length p1) : Int) then 10 else (↑(List.length p1) : Int)) && decide ((if 10 < (↑(List.length p1) : Int) then 10 else (↑(List.length p1) : Int)) ≤ (↑(List.length p1) : Int)))
 (.opt ((evalE_n k) (Prod.fst (Prod.fst y14), List.drop (Int.toNat 0) (List.take (Int.toNat (if 10 < (↑(List.length p1) : Int) then 10 else (↑(List.length p1) : Int))) p1), [({ data := #[97] }, Prod.fst y15)], ())) fun y21 =>
 (.opt ((awake14_n k) ()) fun y22 =>
 (.cond (Prod.fst y22)
 (.cond (!Prod.snd (Prod.fst y18))
 (.cond (!Prod.snd (Prod.fst y19))
 (.opt ((holdsF_n k) (Prod.fst (Prod.fst y14), [Prod.fst y20, Prod.fst y20, (7, (0, 0, ByteArray.empty, false), ByteArray.empty, ByteArray.empty)], [({ data := #[97] }, Prod.fst y15)], ())) fun y23 =>
 (.cond (Prod.fst y23)
 (.cond (!Prod.snd (Prod.fst y21))
 (.ret (true, ()))
 (.ret (decide ((↑(List.length (List.drop (Int.toNat 0) (List.take (Int.toNat (if 10 < (↑(List.length p1) : Int) then 10 else (↑(List.length p1) : Int))) p1))) : Int) > 0), ())))
 (.ret (false, ()))))
 (.ret (false, ())))
 (.ret (false, ())))
 (.ret (false, ())))))
 (.no))))))))))
theorem evalNone_B_le (k : Nat) (x : _) : BLe (evalNone_B_n k x) (evalNone_B x) := by
  obtain ⟨p0, p1, ⟨⟩⟩ := x
  show BLe (evalNone_B_n k _) (evalNone_B _)
  unfold evalNone_B_n evalNone_B
  repeat' (first | with_reducible exact BLe.rfl' _ | with_reducible exact OLe.rfl' _ | with_reducible apply BLe.cond | (with_reducible refine BLe.opt ?_ fun _ => ?_) | (with_reducible refine BLe.sum (fun _ => ?_) fun _ => ?_) | exact awake14_le k _ | exact evalE_le k _ | exact holdsF_le k _ | exact newS_le k _)
noncomputable def evalNone_n (k : Nat) : ((ByteArray × (ByteArray × (Int × (Int × (List (Int × (Int × (ByteArray × Bool)))))))) × ((List (Int × ((Int × (Int × (ByteArray × Bool))) × (ByteArray × ByteArray)))) × Unit)) → Option (Bool × Unit) := fun x => (evalNone_B_n k x).run
theorem evalNone_le (k : Nat) (x : _) : OLe (evalNone_n k x) (evalNone x) := evalNone_B_le k x
noncomputable def evalMade_B_n (k : Nat) : ((List Int) × ((ByteArray × (ByteArray × (Int × (Int × (List (Int × (Int × (ByteArray × Bool)))))))) × ((ByteArray × (ByteArray × (Int × (Int × (List (Int × (Int × (ByteArray × Bool)))))))) × Unit))) → Br (Bool × Unit) := fun (p0, p1, p2, ()) =>
 (.opt (typesR ()) fun y24 =>
 (.opt ((newS_n k) (Prod.fst y24, ())) fun y25 =>
 (.opt (eventR (p1, ())) fun y26 =>
 (.opt (eventR (p2, ())) fun y27 =>
 (.opt (truthRF (p0, 0, 2, ())) fun y28 =>
 (.opt (numberRF (p0, 0, 3, ())) fun y29 =>
 (.cond (decide ((↑(List.length (Prod.fst (Prod.fst y28))) : Int) > 64))
 (.opt ((awake14_n k) ()) fun y30 =>
 (.ret (Prod.fst y30, ())))
 (.cond (decide ((↑(List.length (Prod.fst (Prod.fst y29))) : Int) > 64))
 (.opt ((awake14_n k) ()) fun y31 =>
 (.ret (Prod.fst y31, ())))
 (.opt ((evalE_n k) (Prod.fst (Prod.fst y25), Prod.fst (Prod.fst y28), [({ data := #[97] }, Prod.fst y26), ({ data := #[98] }, Prod.fst y27)], ())) fun y32 =>
 (.opt (evalRF (Prod.fst (Prod.fst y28), [({ data := #[97] }, Prod.fst y26), ({ data := #[98] }, Prod.fst y27)], IntKind.wrap IntKind.i64 ((↑(List.length (Prod.fst (Prod.fst y28))) : Int) - 1), ())) fun y33 =>
 (.opt ((evalE_n k) (Prod.fst (Prod.fst y25), Prod.fst (Prod.fst y29), [({ data := #[97] }, Prod.fst y26), ({ data := #[98] }, Prod.fst y27)], ())) fun y34 =>
 (.opt (evalRF (Prod.fst (Prod.fst y29), [({ data := #[97] }, Prod.fst y26), ({ data := #[98] }, Prod.fst y27)], IntKind.wrap IntKind.i64 ((↑(List.length (Prod.fst (Prod.fst y29))) : Int) - 1), ())) fun y35 =>
 (.opt ((awake14_n k) ()) fun y36 =>
 (.cond (Prod.fst y36)
 (.cond (Prod.snd (Prod.fst y32) == Prod.fst (Prod.snd (Prod.fst y33)))
 (.cond (!Prod.snd (Prod.fst y32))
 (.cond (Prod.snd (Prod.fst y34) == Prod.fst (Prod.snd (Prod.fst y35)))
 (.cond (!Prod.snd (Prod.fst y34))
 (.opt ((holdsF_n k) (Prod.fst (Prod.fst y25), Prod.fst (Prod.fst y28), [({ data := #[97] }, Prod.fst y26), ({ data := #[98] }, Prod.fst y27)], ())) fun y37 =>
 (.opt (holdsR (Prod.fst (Prod.fst y28), [({ data := #[97] }, Prod.fst y26), ({ data := #[98] }, Prod.fst y27)], ())) fun y38 =>
 (.cond (Prod.fst y37 == Prod.fst y38)
 (.cond (Prod.snd (Prod.fst y32))
 (.ret (true, ()))
 (.ret (decide (Prod.fst (Prod.fst (Prod.fst y32)) = 0) && (decide (Prod.fst (Prod.snd (Prod.fst (Prod.fst y32))) = 0) && (bl (Prod.fst (Prod.snd (Prod.snd (Prod.fst (Prod.fst y32))))) == bl ByteArray.empty && Prod.snd (Prod.snd (Prod.snd (Prod.fst (Prod.fst y32)))) == false)), ())))
 (.ret (false, ())))))
 (.cond (decide (Prod.fst (Prod.fst (Prod.fst y34)) = Prod.fst (Prod.fst (Prod.fst y35))) && (decide (Prod.fst (Prod.snd (Prod.fst (Prod.fst y34))) = Prod.fst (Prod.snd (Prod.fst (Prod.fst y35)))) && (bl (Prod.fst (Prod.snd (Prod.snd (Prod.fst (Prod.fst y34))))) == bl (Prod.fst (Prod.snd (Prod.snd (Prod.fst (Prod.fst y35))))) && Prod.snd (Prod.snd (Prod.snd (Prod.fst (Prod.fst y34)))) == Prod.snd (Prod.snd (Prod.snd (Prod.fst (Prod.fst y35)))))))
 (.opt ((holdsF_n k) (Prod.fst (Prod.fst y25), Prod.fst (Prod.fst y28), [({ data := #[97] }, Prod.fst y26), ({ data := #[98] }, Prod.fst y27)], ())) fun y39 =>
 (.opt (holdsR (Prod.fst (Prod.fst y28), [({ data := #[97] }, Prod.fst y26), ({ data := #[98] }, Prod.fst y27)], ())) fun y40 =>
 (.cond (Prod.fst y39 == Prod.fst y40)
 (.cond (Prod.snd (Prod.fst y32))
 (.ret (true, ()))
 (.ret (decide (Prod.fst (Prod.fst (Prod.fst y32)) = 0) && (decide (Prod.fst (Prod.snd (Prod.fst (Prod.fst y32))) = 0) && (bl (Prod.fst (Prod.snd (Prod.snd (Prod.fst (Prod.fst y32))))) == bl ByteArray.empty && Prod.snd (Prod.snd (Prod.snd (Prod.fst (Prod.fst y32)))) == false)), ())))
 (.ret (false, ())))))
 (.ret (false, ()))))
 (.ret (false, ())))
 (.cond (decide (Prod.fst (Prod.fst (Prod.fst y32)) = Prod.fst (Prod.fst (Prod.fst y33))) && (decide (Prod.fst (Prod.snd (Prod.fst (Prod.fst y32))) = Prod.fst (Prod.snd (Prod.fst (Prod.fst y33)))) && (bl (Prod.fst (Prod.snd (Prod.snd (Prod.fst (Prod.fst y32))))) == bl (Prod.fst (Prod.snd (Prod.snd (Prod.fst (Prod.fst y33))))) && Prod.snd (Prod.snd (Prod.snd (Prod.fst (Prod.fst y32)))) == Prod.snd (Prod.snd (Prod.snd (Prod.fst (Prod.fst y33)))))))
 (.cond (Prod.snd (Prod.fst y34) == Prod.fst (Prod.snd (Prod.fst y35)))
 (.cond (!Prod.snd (Prod.fst y34))
 (.opt ((holdsF_n k) (Prod.fst (Prod.fst y25), Prod.fst (Prod.fst y28), [({ data := #[97] }, Prod.fst y26), ({ data := #[98] }, Prod.fst y27)], ())) fun y41 =>
 (.opt (holdsR (Prod.fst (Prod.fst y28), [({ data := #[97] }, Prod.fst y26), ({ data := #[98] }, Prod.fst y27)], ())) fun y42 =>
 (.cond (Prod.fst y41 == Prod.fst y42)
 (.cond (Prod.snd (Prod.fst y32))
 (.ret (true, ()))
 (.ret (decide (Prod.fst (Prod.fst (Prod.fst y32)) = 0) && (decide (Prod.fst (Prod.snd (Prod.fst (Prod.fst y32))) = 0) && (bl (Prod.fst (Prod.snd (Prod.snd (Prod.fst (Prod.fst y32))))) == bl ByteArray.empty && Prod.snd (Prod.snd (Prod.snd (Prod.fst (Prod.fst y32)))) == false)), ())))
 (.ret (false, ())))))
 (.cond (decide (Prod.fst (Prod.fst (Prod.fst y34)) = Prod.fst (Prod.fst (Prod.fst y35))) && (decide (Prod.fst (Prod.snd (Prod.fst (Prod.fst y34))) = Prod.fst (Prod.snd (Prod.fst (Prod.fst y35)))) && (bl (Prod.fst (Prod.snd (Prod.snd (Prod.fst (Prod.fst y34))))) == bl (Prod.fst (Prod.snd (Prod.snd (Prod.fst (Prod.fst y35))))) && Prod.snd (Prod.snd (Prod.snd (Prod.fst (Prod.fst y34)))) == Prod.snd (Prod.snd (Prod.snd (Prod.fst (Prod.fst y35)))))))
 (.opt ((holdsF_n k) (Prod.fst (Prod.fst y25), Prod.fst (Prod.fst y28), [({ data := #[97] }, Prod.fst y26), ({ data := #[98] }, Prod.fst y27)], ())) fun y43 =>
 (.opt (holdsR (Prod.fst (Prod.fst y28), [({ data := #[97] }, Prod.fst y26), ({ data := #[98] }, Prod.fst y27)], ())) fun y44 =>
 (.cond (Prod.fst y43 == Prod.fst y44)
 (.cond (Prod.snd (Prod.fst y32))
 (.ret (true, ()))
 (.ret (decide (Prod.fst (Prod.fst (Prod.fst y32)) = 0) && (decide (Prod.fst (Prod.snd (Prod.fst (Prod.fst y32))) = 0) && (bl (Prod.fst (Prod.snd (Prod.snd (Prod.fst (Prod.fst y32))))) == bl ByteArray.empty && Prod.snd (Prod.snd (Prod.snd (Prod.fst (Prod.fst y32)))) == false)), ())))
 (.ret (false, ())))))
 (.ret (false, ()))))
 (.ret (false, ())))
 (.ret (false, ()))))
 (.ret (false, ())))
 (.ret (false, ()))))))))))))))))
theorem evalMade_B_le (k : Nat) (x : _) : BLe (evalMade_B_n k x) (evalMade_B x) := by
  obtain ⟨p0, p1, p2, ⟨⟩⟩ := x
  show BLe (evalMade_B_n k _) (evalMade_B _)
  unfold evalMade_B_n evalMade_B
  repeat' (first | with_reducible exact BLe.rfl' _ | with_reducible exact OLe.rfl' _ | with_reducible apply BLe.cond | (with_reducible refine BLe.opt ?_ fun _ => ?_) | (with_reducible refine BLe.sum (fun _ => ?_) fun _ => ?_) | exact awake14_le k _ | exact evalE_le k _ | exact holdsF_le k _ | exact newS_le k _)
noncomputable def evalMade_n (k : Nat) : ((List Int) × ((ByteArray × (ByteArray × (Int × (Int × (List (Int × (Int × (ByteArray × Bool)))))))) × ((ByteArray × (ByteArray × (Int × (Int × (List (Int × (Int × (ByteArray × Bool)))))))) × Unit))) → Option (Bool × Unit) := fun x => (evalMade_B_n k x).run
theorem evalMade_le (k : Nat) (x : _) : OLe (evalMade_n k x) (evalMade x) := evalMade_B_le k x
end Go.Proofs.Ytnhiplibodkciaa
