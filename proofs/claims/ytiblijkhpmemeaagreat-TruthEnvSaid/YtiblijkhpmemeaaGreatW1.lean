/- Twins of functions that the kernel reckons. Printed by twin.py. -/
import Derived.Test.YtiblijkhpmemeaaGreatGe
import Derived.Test.YtiblijkhpmemeaaGreatHa
import Derived.Test.YtiblijkhpmemeaaGreatRa
import Derived.Test.YtiblijkhpmemeaaGreatRb
import Derived.Test.YtiblijkhpmemeaaGreatHb
import Derived.Test.YtiblijkhpmemeaaGreatHc
namespace Go.Proofs.YtiblijkhpmemeaaGreat
open Go.PI Go
noncomputable def nameF_w0_n (k : Nat) : (ByteArray × (Int × (Int × Unit))) → Option (Unit ⊕ (ByteArray × Unit)) := iterN (fun x => (nameF_l0 x).run) k
theorem nameF_w0_le (k : Nat) (x : _) : OLe (nameF_w0_n k x) (nameF_w0 x) := iterN_le (fun x => OLe.rfl' _) k x
noncomputable def nameF_w1_n (k : Nat) : (ByteArray × (Int × (Int × Unit))) → Option (Unit ⊕ Unit) := iterN (fun x => (nameF_l1 x).run) k
theorem nameF_w1_le (k : Nat) (x : _) : OLe (nameF_w1_n k x) (nameF_w1 x) := iterN_le (fun x => OLe.rfl' _) k x
noncomputable def nameF_B_n (k : Nat) : (ByteArray × Unit) → Br (Bool × Unit) := fun (p0, ()) =>
 (.cond (bl p0 == bl { data := #[] })
 (.ret (false, ()))
 (.cond (decide ((↑(ByteArray.size p0) : Int) > 16))
 (.ret (false, ()))
 (.cond (decide (0 ≤ 0) && decide (0 < (↑(ByteArray.size p0) : Int)))
 (.opt (letter ((↑(UInt8.toNat (List.getD (bl p0) (Int.toNat 0) 0)) : Int), ())) fun a =>
 (.cond (!a.1)
 (.ret (false, ()))
 (.opt ((nameF_w0_n k) (p0, (↑(ByteArray.size p0) : Int), 0, ())) fun b =>
 (.sum b (fun c =>
 (.ret (false, ()))) (fun d =>
 (.opt ((nameF_w1_n k) (d.1, IntKind.wrap .i64 (IntKind.wrap .i64 (44 - (↑(ByteArray.size d.1) : Int)) - 1), 0, ())) fun e =>
 (.sum e (fun f =>
 (.ret (false, ()))) (fun g =>
 (.ret (true, ()))))))))))
 (.no))))
theorem nameF_B_le (k : Nat) (x : _) : BLe (nameF_B_n k x) (nameF_B x) := by
 obtain ⟨p0, ⟨⟩⟩ := x
 show BLe (nameF_B_n k _) (nameF_B _)
 unfold nameF_B_n nameF_B
 repeat' (first | with_reducible exact BLe.rfl' _ | with_reducible exact OLe.rfl' _ | with_reducible apply BLe.cond | (with_reducible refine BLe.opt ?_ fun _ => ?_) | (with_reducible refine BLe.sum (fun _ => ?_) fun _ => ?_) | exact nameF_w0_le k _ | exact nameF_w1_le k _)
noncomputable def nameF_n (k : Nat) : (ByteArray × Unit) → Option (Bool × Unit) := fun x => (nameF_B_n k x).run
theorem nameF_le (k : Nat) (x : _) : OLe (nameF_n k x) (nameF x) := nameF_B_le k x
noncomputable def idxField_w0_n (k : Nat) : (zA25 × (((ByteArray × Int) × Unit) × (Int × (Int × Unit)))) → Option ((Int × Unit) ⊕ Unit) := iterN (fun x => (idxField_l0 x).run) k
theorem idxField_w0_le (k : Nat) (x : _) : OLe (idxField_w0_n k x) (idxField_w0 x) := iterN_le (fun x => OLe.rfl' _) k x
noncomputable def idxField_B_n (k : Nat) : (zA25 × ((ByteArray × Int) × Unit)) → Br (Int × Unit) := fun (p0, p1, ()) =>
 (.opt ((idxField_w0_n k) (p0, (p1, ()), (↑(List.length p0) : Int), 0, ())) fun a =>
 (.sum a (fun b =>
 (.ret (b.1, ()))) (fun c =>
 (.ret (-1, ())))))
theorem idxField_B_le (k : Nat) (x : _) : BLe (idxField_B_n k x) (idxField_B x) := by
 obtain ⟨p0, p1, ⟨⟩⟩ := x
 show BLe (idxField_B_n k _) (idxField_B _)
 unfold idxField_B_n idxField_B
 repeat' (first | with_reducible exact BLe.rfl' _ | with_reducible exact OLe.rfl' _ | with_reducible apply BLe.cond | (with_reducible refine BLe.opt ?_ fun _ => ?_) | (with_reducible refine BLe.sum (fun _ => ?_) fun _ => ?_) | exact idxField_w0_le k _)
noncomputable def idxField_n (k : Nat) : (zA25 × ((ByteArray × Int) × Unit)) → Option (Int × Unit) := fun x => (idxField_B_n k x).run
theorem idxField_le (k : Nat) (x : _) : OLe (idxField_n k x) (idxField x) := idxField_B_le k x
noncomputable def hasField_B_n (k : Nat) : (zA25 × ((ByteArray × Int) × Unit)) → Br (Bool × Unit) := fun (p0, p1, ()) =>
 (.opt ((idxField_n k) (p0, p1, ())) fun y3 =>
 (.ret (decide (y3.1 ≥ 0), ())))
theorem hasField_B_le (k : Nat) (x : _) : BLe (hasField_B_n k x) (hasField_B x) := by
 obtain ⟨p0, p1, ⟨⟩⟩ := x
 show BLe (hasField_B_n k _) (hasField_B _)
 unfold hasField_B_n hasField_B
 repeat' (first | with_reducible exact BLe.rfl' _ | with_reducible exact OLe.rfl' _ | with_reducible apply BLe.cond | (with_reducible refine BLe.opt ?_ fun _ => ?_) | (with_reducible refine BLe.sum (fun _ => ?_) fun _ => ?_) | exact idxField_le k _)
noncomputable def hasField_n (k : Nat) : (zA25 × ((ByteArray × Int) × Unit)) → Option (Bool × Unit) := fun x => (hasField_B_n k x).run
theorem hasField_le (k : Nat) (x : _) : OLe (hasField_n k x) (hasField x) := hasField_B_le k x
noncomputable def fieldsF_l0_n (k : Nat) : (zA25 × (zA25 × (Int × (Int × Unit)))) → Br ((zA25 × (zA25 × (Int × (Int × Unit)))) ⊕ (Unit ⊕ Unit)) := fun (a, b, c, d, ()) =>
 (.cond (decide (d < c))
 (.cond (decide (0 ≤ d) && decide (d < (↑(List.length b) : Int)))
 (.opt ((nameF_n k) (Prod.fst (List.getD b (Int.toNat d) (ByteArray.empty, 0)), ())) fun e =>
 (.cond (!e.1)
 (.ret (.inr (.inl (()))))
 (.cond (decide (Prod.snd (List.getD b (Int.toNat d) (ByteArray.empty, 0)) < 1))
 (.ret (.inr (.inl (()))))
 (.cond (decide (Prod.snd (List.getD b (Int.toNat d) (ByteArray.empty, 0)) > 3))
 (.ret (.inr (.inl (()))))
 (.cond (decide (0 ≤ 0) && decide (0 ≤ d) && decide (d ≤ (↑(List.length a) : Int)))
 (.opt ((hasField_n k) (List.drop (Int.toNat 0) (List.take (Int.toNat d) a), List.getD b (Int.toNat d) (ByteArray.empty, 0), ())) fun f =>
 (.cond f.1
 (.ret (.inr (.inl (()))))
 (.ret (.inl (a, b, c, IntKind.wrap .i64 (d + 1), ())))))
 (.no))))))
 (.no))
 (.ret (.inr (.inr (())))))
theorem fieldsF_l0_le (k : Nat) (x : _) : BLe (fieldsF_l0_n k x) (fieldsF_l0 x) := by
 obtain ⟨a, b, c, d, ⟨⟩⟩ := x
 show BLe (fieldsF_l0_n k _) (fieldsF_l0 _)
 unfold fieldsF_l0_n fieldsF_l0
 repeat' (first | with_reducible exact BLe.rfl' _ | with_reducible exact OLe.rfl' _ | with_reducible apply BLe.cond | (with_reducible refine BLe.opt ?_ fun _ => ?_) | (with_reducible refine BLe.sum (fun _ => ?_) fun _ => ?_) | exact hasField_le k _ | exact nameF_le k _)
noncomputable def fieldsF_w0_n (k : Nat) : (zA25 × (zA25 × (Int × (Int × Unit)))) → Option (Unit ⊕ Unit) := iterN (fun x => (fieldsF_l0_n k x).run) k
theorem fieldsF_w0_le (k : Nat) (x : _) : OLe (fieldsF_w0_n k x) (fieldsF_w0 x) := iterN_le (fun x => fieldsF_l0_le k x) k x
noncomputable def fieldsF_B_n (k : Nat) : (zA25 × Unit) → Br (Bool × Unit) := fun (p0, ()) =>
 (.cond (decide ((↑(List.length p0) : Int) > 8))
 (.ret (false, ()))
 (.opt ((fieldsF_w0_n k) (p0, p0, (↑(List.length p0) : Int), 0, ())) fun a =>
 (.sum a (fun b =>
 (.ret (false, ()))) (fun c =>
 (.ret (true, ()))))))
theorem fieldsF_B_le (k : Nat) (x : _) : BLe (fieldsF_B_n k x) (fieldsF_B x) := by
 obtain ⟨p0, ⟨⟩⟩ := x
 show BLe (fieldsF_B_n k _) (fieldsF_B _)
 unfold fieldsF_B_n fieldsF_B
 repeat' (first | with_reducible exact BLe.rfl' _ | with_reducible exact OLe.rfl' _ | with_reducible apply BLe.cond | (with_reducible refine BLe.opt ?_ fun _ => ?_) | (with_reducible refine BLe.sum (fun _ => ?_) fun _ => ?_) | exact fieldsF_w0_le k _)
noncomputable def fieldsF_n (k : Nat) : (zA25 × Unit) → Option (Bool × Unit) := fun x => (fieldsF_B_n k x).run
theorem fieldsF_le (k : Nat) (x : _) : OLe (fieldsF_n k x) (fieldsF x) := fieldsF_B_le k x
noncomputable def findF_w0_n (k : Nat) : (ByteArray × (zA11 × (Int × (Int × (ByteArray × Unit))))) → Option (((ByteArray × zA25) × Unit) ⊕ (ByteArray × Unit)) := iterN (fun x => (findF_l0 x).run) k
theorem findF_w0_le (k : Nat) (x : _) : OLe (findF_w0_n k x) (findF_w0 x) := iterN_le (fun x => OLe.rfl' _) k x
noncomputable def findF_B_n (k : Nat) : ((Option zA11) × (ByteArray × Unit)) → Br (((ByteArray × zA25) × Bool) × Unit) := fun (p0, p1, ()) =>
 (.cond (Option.isNone p0)
 (.ret (((ByteArray.empty, []), false), ()))
 (.cond (Option.isSome p0)
 (.opt ((findF_w0_n k) (p1, List.getD [Option.rec [] (fun (val : Ty.T zA18) => val) p0] 0 [], (↑(List.length (List.getD [Option.rec [] (fun (val : Ty.T zA18) => val) p0] 0 [])) : Int), 0, ByteArray.empty, ())) fun a =>
 (.sum a (fun b =>
 (.ret ((b.1, true), ()))) (fun c =>
 (.ret (((ByteArray.empty, []), false), ())))))
 (.no)))
theorem findF_B_le (k : Nat) (x : _) : BLe (findF_B_n k x) (findF_B x) := by
 obtain ⟨p0, p1, ⟨⟩⟩ := x
 show BLe (findF_B_n k _) (findF_B _)
 unfold findF_B_n findF_B
 repeat' (first | with_reducible exact BLe.rfl' _ | with_reducible exact OLe.rfl' _ | with_reducible apply BLe.cond | (with_reducible refine BLe.opt ?_ fun _ => ?_) | (with_reducible refine BLe.sum (fun _ => ?_) fun _ => ?_) | exact findF_w0_le k _)
noncomputable def findF_n (k : Nat) : ((Option zA11) × (ByteArray × Unit)) → Option (((ByteArray × zA25) × Bool) × Unit) := fun x => (findF_B_n k x).run
theorem findF_le (k : Nat) (x : _) : OLe (findF_n k x) (findF x) := findF_B_le k x
noncomputable def fieldF_w0_n (k : Nat) : (ByteArray × (zA25 × (Int × (Int × Unit)))) → Option ((Int × (Int × Unit)) ⊕ Unit) := iterN (fun x => (fieldF_l0 x).run) k
theorem fieldF_w0_le (k : Nat) (x : _) : OLe (fieldF_w0_n k x) (fieldF_w0 x) := iterN_le (fun x => OLe.rfl' _) k x
noncomputable def fieldF_B_n (k : Nat) : ((Option zA11) × (ByteArray × (ByteArray × Unit))) → Br ((Int × Int) × Unit) := fun (p0, p1, p2, ()) =>
 (.opt ((findF_n k) (p0, p1, ())) fun a =>
 (.opt ((fieldF_w0_n k) (p2, a.1.1.2, (↑(List.length a.1.1.2) : Int), 0, ())) fun b =>
 (.sum b (fun c =>
 (.ret ((c.1, c.2.1), ()))) (fun d =>
 (.ret ((-1, 0), ()))))))
theorem fieldF_B_le (k : Nat) (x : _) : BLe (fieldF_B_n k x) (fieldF_B x) := by
 obtain ⟨p0, p1, p2, ⟨⟩⟩ := x
 show BLe (fieldF_B_n k _) (fieldF_B _)
 unfold fieldF_B_n fieldF_B
 repeat' (first | with_reducible exact BLe.rfl' _ | with_reducible exact OLe.rfl' _ | with_reducible apply BLe.cond | (with_reducible refine BLe.opt ?_ fun _ => ?_) | (with_reducible refine BLe.sum (fun _ => ?_) fun _ => ?_) | exact fieldF_w0_le k _ | exact findF_le k _)
noncomputable def fieldF_n (k : Nat) : ((Option zA11) × (ByteArray × (ByteArray × Unit))) → Option ((Int × Int) × Unit) := fun x => (fieldF_B_n k x).run
theorem fieldF_le (k : Nat) (x : _) : OLe (fieldF_n k x) (fieldF x) := fieldF_B_le k x
noncomputable def getF_B_n (k : Nat) : ((Option zA11) × (zA2 × (ByteArray × Unit))) → Br ((zA8 × Bool) × Unit) := fun (p0, p1, p2, ()) =>
 (.opt ((fieldF_n k) (p0, p1.1, p2, ())) fun y4 =>
 (.cond (decide (y4.1.1 < 0))
 (.ret (((0, 0, ByteArray.empty, false), false), ()))
 (.cond (decide (y4.1.1 ≥ (↑(List.length p1.2.2.2.2) : Int)))
 (.ret (((0, 0, ByteArray.empty, false), false), ()))
 (.cond (decide (0 ≤ y4.1.1) && decide (y4.1.1 < (↑(List.length p1.2.2.2.2) : Int)))
 (.ret ((List.getD p1.2.2.2.2 (Int.toNat y4.1.1) (0, 0, ByteArray.empty, false), true), ()))
 (.no)))))
theorem getF_B_le (k : Nat) (x : _) : BLe (getF_B_n k x) (getF_B x) := by
 obtain ⟨p0, p1, p2, ⟨⟩⟩ := x
 show BLe (getF_B_n k _) (getF_B _)
 unfold getF_B_n getF_B
 repeat' (first | with_reducible exact BLe.rfl' _ | with_reducible exact OLe.rfl' _ | with_reducible apply BLe.cond | (with_reducible refine BLe.opt ?_ fun _ => ?_) | (with_reducible refine BLe.sum (fun _ => ?_) fun _ => ?_) | exact fieldF_le k _)
noncomputable def getF_n (k : Nat) : ((Option zA11) × (zA2 × (ByteArray × Unit))) → Option ((zA8 × Bool) × Unit) := fun x => (getF_B_n k x).run
theorem getF_le (k : Nat) (x : _) : OLe (getF_n k x) (getF x) := getF_B_le k x
noncomputable def idxBnd_w0_n (k : Nat) : (zA21 × ((zA12 × Unit) × (Int × (Int × Unit)))) → Option ((Int × Unit) ⊕ Unit) := iterN (fun x => (idxBnd_l0 x).run) k
theorem idxBnd_w0_le (k : Nat) (x : _) : OLe (idxBnd_w0_n k x) (idxBnd_w0 x) := iterN_le (fun x => OLe.rfl' _) k x
noncomputable def idxBnd_B_n (k : Nat) : (zA21 × (zA12 × Unit)) → Br (Int × Unit) := fun (p0, p1, ()) =>
 (.opt ((idxBnd_w0_n k) (p0, (p1, ()), (↑(List.length p0) : Int), 0, ())) fun a =>
 (.sum a (fun b =>
 (.ret (b.1, ()))) (fun c =>
 (.ret (-1, ())))))
theorem idxBnd_B_le (k : Nat) (x : _) : BLe (idxBnd_B_n k x) (idxBnd_B x) := by
 obtain ⟨p0, p1, ⟨⟩⟩ := x
 show BLe (idxBnd_B_n k _) (idxBnd_B _)
 unfold idxBnd_B_n idxBnd_B
 repeat' (first | with_reducible exact BLe.rfl' _ | with_reducible exact OLe.rfl' _ | with_reducible apply BLe.cond | (with_reducible refine BLe.opt ?_ fun _ => ?_) | (with_reducible refine BLe.sum (fun _ => ?_) fun _ => ?_) | exact idxBnd_w0_le k _)
noncomputable def idxBnd_n (k : Nat) : (zA21 × (zA12 × Unit)) → Option (Int × Unit) := fun x => (idxBnd_B_n k x).run
theorem idxBnd_le (k : Nat) (x : _) : OLe (idxBnd_n k x) (idxBnd x) := idxBnd_B_le k x
noncomputable def fieldV_B_n (k : Nat) : ((Option zA11) × (zA21 × (zA12 × Unit))) → Br ((zA8 × Bool) × Unit) := fun (p0, p1, p2, ()) =>
 (.opt ((idxBnd_n k) (p1, p2, ())) fun y5 =>
 (.cond (decide (y5.1 < 0))
 (.ret (((0, 0, ByteArray.empty, false), false), ()))
 (.cond (decide (0 ≤ y5.1) && decide (y5.1 < (↑(List.length p1) : Int)))
 (.opt ((getF_n k) (p0, Prod.snd (List.getD p1 (Int.toNat y5.1) (ByteArray.empty, ByteArray.empty, ByteArray.empty, 0, 0, [])), p2.2.2.2, ())) fun y6 =>
 (.ret ((y6.1.1, y6.1.2), ())))
 (.no))))
theorem fieldV_B_le (k : Nat) (x : _) : BLe (fieldV_B_n k x) (fieldV_B x) := by
 obtain ⟨p0, p1, p2, ⟨⟩⟩ := x
 show BLe (fieldV_B_n k _) (fieldV_B _)
 unfold fieldV_B_n fieldV_B
 repeat' (first | with_reducible exact BLe.rfl' _ | with_reducible exact OLe.rfl' _ | with_reducible apply BLe.cond | (with_reducible refine BLe.opt ?_ fun _ => ?_) | (with_reducible refine BLe.sum (fun _ => ?_) fun _ => ?_) | exact getF_le k _ | exact idxBnd_le k _)
noncomputable def fieldV_n (k : Nat) : ((Option zA11) × (zA21 × (zA12 × Unit))) → Option ((zA8 × Bool) × Unit) := fun x => (fieldV_B_n k x).run
theorem fieldV_le (k : Nat) (x : _) : OLe (fieldV_n k x) (fieldV x) := fieldV_B_le k x
noncomputable def nodeM_B_n (k : Nat) : (zA12 × Unit) → Br (Bool × Unit) := fun (p0, ()) =>
 (.cond (p0.1 == 1)
 (.opt (mayV (p0.2.1, ())) fun y4 =>
 (.cond y4.1
 (.cond (p0.2.1.2.1 != -9223372036854775808)
 (.cond (bl p0.2.2.1 == bl { data := #[] })
 (.ret (bl p0.2.2.2 == bl { data := #[] }, ()))
 (.ret (false, ())))
 (.ret (false, ())))
 (.ret (false, ()))))
 (.cond (p0.1 == 2)
 (.cond (decide (p0.2.1.1 = 0) && (decide (p0.2.1.2.1 = 0) && (bl p0.2.1.2.2.1 == bl ByteArray.empty && p0.2.1.2.2.2 == false)))
 (.opt ((nameF_n k) (p0.2.2.1, ())) fun y5 =>
 (.cond y5.1
 (.opt ((nameF_n k) (p0.2.2.2, ())) fun y6 =>
 (.ret (y6.1, ())))
 (.ret (false, ()))))
 (.ret (false, ())))
 (.ret (decide (p0.1 = p0.1) && (decide (p0.2.1.1 = 0) && (decide (p0.2.1.2.1 = 0) && (bl p0.2.1.2.2.1 == bl ByteArray.empty && p0.2.1.2.2.2 == false)) && (bl p0.2.2.1 == bl ByteArray.empty && bl p0.2.2.2 == bl ByteArray.empty)), ()))))
theorem nodeM_B_le (k : Nat) (x : _) : BLe (nodeM_B_n k x) (nodeM_B x) := by
 obtain ⟨p0, ⟨⟩⟩ := x
 show BLe (nodeM_B_n k _) (nodeM_B _)
 unfold nodeM_B_n nodeM_B
 repeat' (first | with_reducible exact BLe.rfl' _ | with_reducible exact OLe.rfl' _ | with_reducible apply BLe.cond | (with_reducible refine BLe.opt ?_ fun _ => ?_) | (with_reducible refine BLe.sum (fun _ => ?_) fun _ => ?_) | exact nameF_le k _)
noncomputable def nodeM_n (k : Nat) : (zA12 × Unit) → Option (Bool × Unit) := fun x => (nodeM_B_n k x).run
theorem nodeM_le (k : Nat) (x : _) : OLe (nodeM_n k x) (nodeM x) := nodeM_B_le k x
noncomputable def mayT_l0_n (k : Nat) : (Int × ((List zA12) × (Int × (Int × Unit)))) → Br ((Int × ((List zA12) × (Int × (Int × Unit)))) ⊕ (Unit ⊕ (Int × Unit))) := fun (a, b, c, d, ()) =>
 (.cond (decide (d < c))
 (.cond (decide (0 ≤ d) && decide (d < (↑(List.length b) : Int)))
 (.opt (partsT (Prod.fst (List.getD b (Int.toNat d) (0, (0, 0, ByteArray.empty, false), ByteArray.empty, ByteArray.empty)), ())) fun e =>
 (.cond (decide (e.1 < 0))
 (.ret (.inr (.inl (()))))
 (.opt ((nodeM_n k) (List.getD b (Int.toNat d) (0, (0, 0, ByteArray.empty, false), ByteArray.empty, ByteArray.empty), ())) fun f =>
 (.cond (!f.1)
 (.ret (.inr (.inl (()))))
 (.cond (decide (a < e.1))
 (.ret (.inr (.inl (()))))
 (.ret (.inl (IntKind.wrap .i64 (a + IntKind.wrap .i64 (1 - e.1)), b, c, IntKind.wrap .i64 (d + 1), ()))))))))
 (.no))
 (.ret (.inr (.inr (a, ())))))
theorem mayT_l0_le (k : Nat) (x : _) : BLe (mayT_l0_n k x) (mayT_l0 x) := by
 obtain ⟨a, b, c, d, ⟨⟩⟩ := x
 show BLe (mayT_l0_n k _) (mayT_l0 _)
 unfold mayT_l0_n mayT_l0
 repeat' (first | with_reducible exact BLe.rfl' _ | with_reducible exact OLe.rfl' _ | with_reducible apply BLe.cond | (with_reducible refine BLe.opt ?_ fun _ => ?_) | (with_reducible refine BLe.sum (fun _ => ?_) fun _ => ?_) | exact nodeM_le k _)
noncomputable def mayT_w0_n (k : Nat) : (Int × ((List zA12) × (Int × (Int × Unit)))) → Option (Unit ⊕ (Int × Unit)) := iterN (fun x => (mayT_l0_n k x).run) k
theorem mayT_w0_le (k : Nat) (x : _) : OLe (mayT_w0_n k x) (mayT_w0 x) := iterN_le (fun x => mayT_l0_le k x) k x
noncomputable def mayT_B_n (k : Nat) : ((List zA12) × Unit) → Br (Bool × Unit) := fun (p0, ()) =>
 (.cond (decide ((↑(List.length p0) : Int) > 64))
 (.ret (false, ()))
 (.opt ((mayT_w0_n k) (0, p0, (↑(List.length p0) : Int), 0, ())) fun a =>
 (.sum a (fun b =>
 (.ret (false, ()))) (fun c =>
 (.ret (c.1 == 1, ()))))))
theorem mayT_B_le (k : Nat) (x : _) : BLe (mayT_B_n k x) (mayT_B x) := by
 obtain ⟨p0, ⟨⟩⟩ := x
 show BLe (mayT_B_n k _) (mayT_B _)
 unfold mayT_B_n mayT_B
 repeat' (first | with_reducible exact BLe.rfl' _ | with_reducible exact OLe.rfl' _ | with_reducible apply BLe.cond | (with_reducible refine BLe.opt ?_ fun _ => ?_) | (with_reducible refine BLe.sum (fun _ => ?_) fun _ => ?_) | exact mayT_w0_le k _)
noncomputable def mayT_n (k : Nat) : ((List zA12) × Unit) → Option (Bool × Unit) := fun x => (mayT_B_n k x).run
theorem mayT_le (k : Nat) (x : _) : OLe (mayT_n k x) (mayT x) := mayT_B_le k x
noncomputable def numbersE_w0_n (k : Nat) : zA33 → Option ((zA8 × Unit) ⊕ (Int × ((List zA8) × (zA8 × Unit)))) := iterN (fun x => (numbersE_l0 x).run) k
theorem numbersE_w0_le (k : Nat) (x : _) : OLe (numbersE_w0_n k x) (numbersE_w0 x) := iterN_le (fun x => OLe.rfl' _) k x
noncomputable def numbersE_B_n (k : Nat) : (Int × ((List zA8) × Unit)) → Br ((zA8 × Bool) × Unit) := fun (p0, p1, ()) =>
 (.opt ((numbersE_w0_n k) (p0, p1, p1, (↑(List.length p1) : Int), 0, (0, 0, ByteArray.empty, false), ())) fun a =>
 (.sum a (fun b =>
 (.ret ((b.1, false), ()))) (fun c =>
 (.cond (c.1 == 3)
 (.cond (decide (0 ≤ 0) && decide (0 < (↑(List.length c.2.1) : Int)))
 (.opt (negN (Prod.fst (Prod.snd (List.getD c.2.1 (Int.toNat 0) (0, 0, ByteArray.empty, false))), ())) fun d =>
 (.cond (!d.1.2)
 (.ret (((0, 0, ByteArray.empty, false), false), ()))
 (.opt (numV (d.1.1, ())) fun e =>
 (.ret ((e.1, true), ())))))
 (.no))
 (.cond (c.1 == 4)
 (.cond (decide (0 ≤ 0) && decide (0 < (↑(List.length c.2.1) : Int)))
 (.cond (decide (0 ≤ 1) && decide (1 < (↑(List.length c.2.1) : Int)))
 (.opt (addN (Prod.fst (Prod.snd (List.getD c.2.1 (Int.toNat 0) (0, 0, ByteArray.empty, false))), Prod.fst (Prod.snd (List.getD c.2.1 (Int.toNat 1) (0, 0, ByteArray.empty, false))), ())) fun f =>
 (.cond (!f.1.2)
 (.ret (((0, 0, ByteArray.empty, false), false), ()))
 (.opt (numV (f.1.1, ())) fun g =>
 (.ret ((g.1, true), ())))))
 (.no))
 (.no))
 (.cond (c.1 == 5)
 (.cond (decide (0 ≤ 0) && decide (0 < (↑(List.length c.2.1) : Int)))
 (.cond (decide (0 ≤ 1) && decide (1 < (↑(List.length c.2.1) : Int)))
 (.opt (subN (Prod.fst (Prod.snd (List.getD c.2.1 (Int.toNat 0) (0, 0, ByteArray.empty, false))), Prod.fst (Prod.snd (List.getD c.2.1 (Int.toNat 1) (0, 0, ByteArray.empty, false))), ())) fun h =>
 (.cond (!h.1.2)
 (.ret (((0, 0, ByteArray.empty, false), false), ()))
 (.opt (numV (h.1.1, ())) fun i =>
 (.ret ((i.1, true), ())))))
 (.no))
 (.no))
 (.cond (c.1 == 6)
 (.cond (decide (0 ≤ 0) && decide (0 < (↑(List.length c.2.1) : Int)))
 (.cond (decide (0 ≤ 1) && decide (1 < (↑(List.length c.2.1) : Int)))
 (.opt (mulN (Prod.fst (Prod.snd (List.getD c.2.1 (Int.toNat 0) (0, 0, ByteArray.empty, false))), Prod.fst (Prod.snd (List.getD c.2.1 (Int.toNat 1) (0, 0, ByteArray.empty, false))), ())) fun j =>
 (.cond (!j.1.2)
 (.ret (((0, 0, ByteArray.empty, false), false), ()))
 (.opt (numV (j.1.1, ())) fun l =>
 (.ret ((l.1, true), ())))))
 (.no))
 (.no))
 (.ret (((0, 0, ByteArray.empty, false), false), ())))))))))
theorem numbersE_B_le (k : Nat) (x : _) : BLe (numbersE_B_n k x) (numbersE_B x) := by
 obtain ⟨p0, p1, ⟨⟩⟩ := x
 show BLe (numbersE_B_n k _) (numbersE_B _)
 unfold numbersE_B_n numbersE_B
 repeat' (first | with_reducible exact BLe.rfl' _ | with_reducible exact OLe.rfl' _ | with_reducible apply BLe.cond | (with_reducible refine BLe.opt ?_ fun _ => ?_) | (with_reducible refine BLe.sum (fun _ => ?_) fun _ => ?_) | exact numbersE_w0_le k _)
noncomputable def numbersE_n (k : Nat) : (Int × ((List zA8) × Unit)) → Option ((zA8 × Bool) × Unit) := fun x => (numbersE_B_n k x).run
theorem numbersE_le (k : Nat) (x : _) : OLe (numbersE_n k x) (numbersE x) := numbersE_B_le k x
noncomputable def truthsE_w0_n (k : Nat) : zA33 → Option ((zA8 × Unit) ⊕ (Int × ((List zA8) × (zA8 × Unit)))) := iterN (fun x => (truthsE_l0 x).run) k
theorem truthsE_w0_le (k : Nat) (x : _) : OLe (truthsE_w0_n k x) (truthsE_w0 x) := iterN_le (fun x => OLe.rfl' _) k x
noncomputable def truthsE_B_n (k : Nat) : (Int × ((List zA8) × Unit)) → Br ((zA8 × Bool) × Unit) := fun (p0, p1, ()) =>
 (.opt ((truthsE_w0_n k) (p0, p1, p1, (↑(List.length p1) : Int), 0, (0, 0, ByteArray.empty, false), ())) fun a =>
 (.sum a (fun b =>
 (.ret ((b.1, false), ()))) (fun c =>
 (.cond (c.1 == 13)
 (.cond (decide (0 ≤ 0) && decide (0 < (↑(List.length c.2.1) : Int)))
 (.opt (truthV (!Prod.snd (Prod.snd (Prod.snd (List.getD c.2.1 (Int.toNat 0) (0, 0, ByteArray.empty, false)))), ())) fun d =>
 (.ret ((d.1, true), ())))
 (.no))
 (.cond (c.1 == 14)
 (.cond (decide (0 ≤ 0) && decide (0 < (↑(List.length c.2.1) : Int)))
 (.cond (Prod.snd (Prod.snd (Prod.snd (List.getD c.2.1 (Int.toNat 0) (0, 0, ByteArray.empty, false)))))
 (.cond (decide (0 ≤ 1) && decide (1 < (↑(List.length c.2.1) : Int)))
 (.opt (truthV (Prod.snd (Prod.snd (Prod.snd (List.getD c.2.1 (Int.toNat 1) (0, 0, ByteArray.empty, false)))), ())) fun e =>
 (.ret ((e.1, true), ())))
 (.no))
 (.opt (truthV (false, ())) fun f =>
 (.ret ((f.1, true), ()))))
 (.no))
 (.cond (decide (0 ≤ 0) && decide (0 < (↑(List.length c.2.1) : Int)))
 (.cond (Prod.snd (Prod.snd (Prod.snd (List.getD c.2.1 (Int.toNat 0) (0, 0, ByteArray.empty, false)))))
 (.opt (truthV (true, ())) fun g =>
 (.ret ((g.1, true), ())))
 (.cond (decide (0 ≤ 1) && decide (1 < (↑(List.length c.2.1) : Int)))
 (.opt (truthV (Prod.snd (Prod.snd (Prod.snd (List.getD c.2.1 (Int.toNat 1) (0, 0, ByteArray.empty, false)))), ())) fun h =>
 (.ret ((h.1, true), ())))
 (.no)))
 (.no)))))))
theorem truthsE_B_le (k : Nat) (x : _) : BLe (truthsE_B_n k x) (truthsE_B x) := by
 obtain ⟨p0, p1, ⟨⟩⟩ := x
 show BLe (truthsE_B_n k _) (truthsE_B _)
 unfold truthsE_B_n truthsE_B
 repeat' (first | with_reducible exact BLe.rfl' _ | with_reducible exact OLe.rfl' _ | with_reducible apply BLe.cond | (with_reducible refine BLe.opt ?_ fun _ => ?_) | (with_reducible refine BLe.sum (fun _ => ?_) fun _ => ?_) | exact truthsE_w0_le k _)
noncomputable def truthsE_n (k : Nat) : (Int × ((List zA8) × Unit)) → Option ((zA8 × Bool) × Unit) := fun x => (truthsE_B_n k x).run
theorem truthsE_le (k : Nat) (x : _) : OLe (truthsE_n k x) (truthsE x) := truthsE_B_le k x
noncomputable def applyE_B_n (k : Nat) : (Int × ((List zA8) × Unit)) → Br ((zA8 × Bool) × Unit) := fun (p0, p1, ()) =>
 (.cond (decide (p0 ≤ 6))
 (.opt ((numbersE_n k) (p0, p1, ())) fun y7 =>
 (.ret ((y7.1.1, y7.1.2), ())))
 (.cond (decide (p0 ≤ 12))
 (.cond (decide (0 ≤ 0) && decide (0 < (↑(List.length p1) : Int)))
 (.cond (decide (0 ≤ 1) && decide (1 < (↑(List.length p1) : Int)))
 (.opt (compareV (List.getD p1 (Int.toNat 0) (0, 0, ByteArray.empty, false), List.getD p1 (Int.toNat 1) (0, 0, ByteArray.empty, false), ())) fun y8 =>
 (.cond (!y8.1.2)
 (.ret (((0, 0, ByteArray.empty, false), false), ()))
 (.opt (holdsE (p0, y8.1.1, ())) fun y9 =>
 (.opt (truthV (y9.1, ())) fun a =>
 (.ret ((a.1, true), ()))))))
 (.no))
 (.no))
 (.opt ((truthsE_n k) (p0, p1, ())) fun b =>
 (.ret ((b.1.1, b.1.2), ())))))
theorem applyE_B_le (k : Nat) (x : _) : BLe (applyE_B_n k x) (applyE_B x) := by
 obtain ⟨p0, p1, ⟨⟩⟩ := x
 show BLe (applyE_B_n k _) (applyE_B _)
 unfold applyE_B_n applyE_B
 repeat' (first | with_reducible exact BLe.rfl' _ | with_reducible exact OLe.rfl' _ | with_reducible apply BLe.cond | (with_reducible refine BLe.opt ?_ fun _ => ?_) | (with_reducible refine BLe.sum (fun _ => ?_) fun _ => ?_) | exact numbersE_le k _ | exact truthsE_le k _)
noncomputable def applyE_n (k : Nat) : (Int × ((List zA8) × Unit)) → Option ((zA8 × Bool) × Unit) := fun x => (applyE_B_n k x).run
theorem applyE_le (k : Nat) (x : _) : OLe (applyE_n k x) (applyE x) := applyE_B_le k x
noncomputable def evalE_l0_n (k : Nat) : zA34 → Br (zA34 ⊕ ((zA8 × Unit) ⊕ (zA8 × ((List zA8) × Unit)))) := fun (a, b, c, d, e, f, g, ()) =>
 (.cond (decide (e < d))
 (.cond (decide (0 ≤ e) && decide (e < (↑(List.length c) : Int)))
 (.opt (partsT (Prod.fst (List.getD c (Int.toNat e) (0, (0, 0, ByteArray.empty, false), ByteArray.empty, ByteArray.empty)), ())) fun h =>
 (.cond (Prod.fst (List.getD c (Int.toNat e) (0, (0, 0, ByteArray.empty, false), ByteArray.empty, ByteArray.empty)) == 1)
 (.cond (decide (0 ≤ 0) && decide (0 ≤ IntKind.wrap .i64 ((↑(List.length g) : Int) - h.1)) && decide (IntKind.wrap .i64 ((↑(List.length g) : Int) - h.1) ≤ (↑(List.length g) : Int)) && decide (IntKind.wrap .i64 ((↑(List.length g) : Int) - h.1) = IntKind.wrap .i64 ((↑(List.length g) : Int) - h.1)))
 (.cond (decide ((List.length (List.take (Int.toNat (IntKind.wrap .i64 ((↑(List.length g) : Int) - h.1)) - Int.toNat 0) (List.drop (0 + Int.toNat 0) g)) + List.length (List.set (List.replicate 1 (0, 0, ByteArray.empty, false)) 0 (Prod.fst (Prod.snd (List.getD c (Int.toNat e) (0, (0, 0, ByteArray.empty, false), ByteArray.empty, ByteArray.empty)))))) * 40 ≤ 140737488355328) && decide (0 < List.length (List.set (List.replicate 1 (0, 0, ByteArray.empty, false)) 0 (Prod.fst (Prod.snd (List.getD c (Int.toNat e) (0, (0, 0, ByteArray.empty, false), ByteArray.empty, ByteArray.empty)))))))
 (.ret (.inl (a, b, c, d, IntKind.wrap .i64 (e + 1), f, List.take (Int.toNat (IntKind.wrap .i64 ((↑(List.length g) : Int) - h.1)) - Int.toNat 0) (List.drop (0 + Int.toNat 0) g) ++ List.set (List.replicate 1 (0, 0, ByteArray.empty, false)) 0 (Prod.fst (Prod.snd (List.getD c (Int.toNat e) (0, (0, 0, ByteArray.empty, false), ByteArray.empty, ByteArray.empty)))), ())))
 (.no))
 (.no))
 (.cond (Prod.fst (List.getD c (Int.toNat e) (0, (0, 0, ByteArray.empty, false), ByteArray.empty, ByteArray.empty)) == 2)
 (.opt ((fieldV_n k) (a, b, List.getD c (Int.toNat e) (0, (0, 0, ByteArray.empty, false), ByteArray.empty, ByteArray.empty), ())) fun i =>
 (.cond (!i.1.2)
 (.ret (.inr (.inl ((0, 0, ByteArray.empty, false), ()))))
 (.cond (decide (0 ≤ 0) && decide (0 ≤ IntKind.wrap .i64 ((↑(List.length g) : Int) - h.1)) && decide (IntKind.wrap .i64 ((↑(List.length g) : Int) - h.1) ≤ (↑(List.length g) : Int)) && decide (IntKind.wrap .i64 ((↑(List.length g) : Int) - h.1) = IntKind.wrap .i64 ((↑(List.length g) : Int) - h.1)))
 (.cond (decide ((List.length (List.take (Int.toNat (IntKind.wrap .i64 ((↑(List.length g) : Int) - h.1)) - Int.toNat 0) (List.drop (0 + Int.toNat 0) g)) + List.length (List.set (List.replicate 1 (0, 0, ByteArray.empty, false)) 0 i.1.1)) * 40 ≤ 140737488355328) && decide (0 < List.length (List.set (List.replicate 1 (0, 0, ByteArray.empty, false)) 0 i.1.1)))
 (.ret (.inl (a, b, c, d, IntKind.wrap .i64 (e + 1), f, List.take (Int.toNat (IntKind.wrap .i64 ((↑(List.length g) : Int) - h.1)) - Int.toNat 0) (List.drop (0 + Int.toNat 0) g) ++ List.set (List.replicate 1 (0, 0, ByteArray.empty, false)) 0 i.1.1, ())))
 (.no))
 (.no))))
 (.cond (decide (0 ≤ IntKind.wrap .i64 ((↑(List.length g) : Int) - h.1)) && decide (IntKind.wrap .i64 ((↑(List.length g) : Int) - h.1) ≤ (↑(List.length g) : Int)) && decide ((↑(List.length g) : Int) ≤ (↑(List.length g) : Int)))
 (.opt ((applyE_n k) (Prod.fst (List.getD c (Int.toNat e) (0, (0, 0, ByteArray.empty, false), ByteArray.empty, ByteArray.empty)), List.take (Int.toNat (↑(List.length g) : Int) - Int.toNat (IntKind.wrap .i64 ((↑(List.length g) : Int) - h.1))) (List.drop (0 + Int.toNat (IntKind.wrap .i64 ((↑(List.length g) : Int) - h.1))) g), ())) fun j =>
 (.cond (!j.1.2)
 (.ret (.inr (.inl ((0, 0, ByteArray.empty, false), ()))))
 (.cond (decide (0 ≤ 0) && decide (0 ≤ IntKind.wrap .i64 ((↑(List.length g) : Int) - h.1)) && decide (IntKind.wrap .i64 ((↑(List.length g) : Int) - h.1) ≤ (↑(List.length g) : Int)) && decide (IntKind.wrap .i64 ((↑(List.length g) : Int) - h.1) = IntKind.wrap .i64 ((↑(List.length g) : Int) - h.1)))
 (.cond (decide ((List.length (List.take (Int.toNat (IntKind.wrap .i64 ((↑(List.length g) : Int) - h.1)) - Int.toNat 0) (List.drop (0 + Int.toNat 0) g)) + List.length (List.set (List.replicate 1 (0, 0, ByteArray.empty, false)) 0 j.1.1)) * 40 ≤ 140737488355328) && decide (0 < List.length (List.set (List.replicate 1 (0, 0, ByteArray.empty, false)) 0 j.1.1)))
 (.ret (.inl (a, b, c, d, IntKind.wrap .i64 (e + 1), f, List.take (Int.toNat (IntKind.wrap .i64 ((↑(List.length g) : Int) - h.1)) - Int.toNat 0) (List.drop (0 + Int.toNat 0) g) ++ List.set (List.replicate 1 (0, 0, ByteArray.empty, false)) 0 j.1.1, ())))
 (.no))
 (.no))))
 (.no)))))
 (.no))
 (.ret (.inr (.inr (f, g, ())))))
theorem evalE_l0_le (k : Nat) (x : _) : BLe (evalE_l0_n k x) (evalE_l0 x) := by
 obtain ⟨a, b, c, d, e, f, g, ⟨⟩⟩ := x
 show BLe (evalE_l0_n k _) (evalE_l0 _)
 unfold evalE_l0_n evalE_l0
 repeat' (first | with_reducible exact BLe.rfl' _ | with_reducible exact OLe.rfl' _ | with_reducible apply BLe.cond | (with_reducible refine BLe.opt ?_ fun _ => ?_) | (with_reducible refine BLe.sum (fun _ => ?_) fun _ => ?_) | exact applyE_le k _ | exact fieldV_le k _)
noncomputable def evalE_w0_n (k : Nat) : zA34 → Option ((zA8 × Unit) ⊕ (zA8 × ((List zA8) × Unit))) := iterN (fun x => (evalE_l0_n k x).run) k
theorem evalE_w0_le (k : Nat) (x : _) : OLe (evalE_w0_n k x) (evalE_w0 x) := iterN_le (fun x => evalE_l0_le k x) k x
noncomputable def evalE_B_n (k : Nat) : ((Option zA11) × ((List zA12) × (zA21 × Unit))) → Br ((zA8 × Bool) × Unit) := fun (p0, p1, p2, ()) =>
 (.opt ((mayT_n k) (p1, ())) fun a =>
 (.cond (!a.1)
 (.ret (((0, 0, ByteArray.empty, false), false), ()))
 (.opt ((evalE_w0_n k) (p0, p2, p1, (↑(List.length p1) : Int), 0, (0, 0, ByteArray.empty, false), [], ())) fun b =>
 (.sum b (fun c =>
 (.ret ((c.1, false), ()))) (fun d =>
 (.cond (decide (0 ≤ 0) && decide (0 < (↑(List.length d.2.1) : Int)))
 (.ret ((List.getD d.2.1 (Int.toNat 0) (0, 0, ByteArray.empty, false), true), ()))
 (.no)))))))
theorem evalE_B_le (k : Nat) (x : _) : BLe (evalE_B_n k x) (evalE_B x) := by
 obtain ⟨p0, p1, p2, ⟨⟩⟩ := x
 show BLe (evalE_B_n k _) (evalE_B _)
 unfold evalE_B_n evalE_B
 repeat' (first | with_reducible exact BLe.rfl' _ | with_reducible exact OLe.rfl' _ | with_reducible apply BLe.cond | (with_reducible refine BLe.opt ?_ fun _ => ?_) | (with_reducible refine BLe.sum (fun _ => ?_) fun _ => ?_) | exact evalE_w0_le k _ | exact mayT_le k _)
noncomputable def evalE_n (k : Nat) : ((Option zA11) × ((List zA12) × (zA21 × Unit))) → Option ((zA8 × Bool) × Unit) := fun x => (evalE_B_n k x).run
theorem evalE_le (k : Nat) (x : _) : OLe (evalE_n k x) (evalE x) := evalE_B_le k x
noncomputable def holdsF_B_n (k : Nat) : ((Option zA11) × ((List zA12) × (zA21 × Unit))) → Br (Bool × Unit) := fun (p0, p1, p2, ()) =>
 (.cond ((↑(List.length p1) : Int) == 0)
 (.ret (true, ()))
 (.opt ((evalE_n k) (p0, p1, p2, ())) fun y5 =>
 (.cond y5.1.2
 (.opt (truthV (true, ())) fun y6 =>
 (.ret (decide (y5.1.1.1 = y6.1.1) && (decide (y5.1.1.2.1 = y6.1.2.1) && (bl y5.1.1.2.2.1 == bl y6.1.2.2.1 && y5.1.1.2.2.2 == y6.1.2.2.2)), ())))
 (.ret (false, ())))))
theorem holdsF_B_le (k : Nat) (x : _) : BLe (holdsF_B_n k x) (holdsF_B x) := by
 obtain ⟨p0, p1, p2, ⟨⟩⟩ := x
 show BLe (holdsF_B_n k _) (holdsF_B _)
 unfold holdsF_B_n holdsF_B
 repeat' (first | with_reducible exact BLe.rfl' _ | with_reducible exact OLe.rfl' _ | with_reducible apply BLe.cond | (with_reducible refine BLe.opt ?_ fun _ => ?_) | (with_reducible refine BLe.sum (fun _ => ?_) fun _ => ?_) | exact evalE_le k _)
noncomputable def holdsF_n (k : Nat) : ((Option zA11) × ((List zA12) × (zA21 × Unit))) → Option (Bool × Unit) := fun x => (holdsF_B_n k x).run
theorem holdsF_le (k : Nat) (x : _) : OLe (holdsF_n k x) (holdsF x) := holdsF_B_le k x
noncomputable def newS_l0_n (k : Nat) : (zA11 × (Int × (Int × (zA11 × Unit)))) → Br ((zA11 × (Int × (Int × (zA11 × Unit)))) ⊕ ((Int × Unit) ⊕ (zA11 × Unit))) := fun (a, b, c, d, ()) =>
 (.cond (decide (c < b))
 (.cond (decide (0 ≤ c) && decide (c < (↑(List.length a) : Int)))
 (.opt ((nameF_n k) (Prod.fst (List.getD a (Int.toNat c) (ByteArray.empty, [])), ())) fun e =>
 (.cond (!e.1)
 (.ret (.inr (.inl (1, ()))))
 (.opt ((fieldsF_n k) (Prod.snd (List.getD a (Int.toNat c) (ByteArray.empty, [])), ())) fun f =>
 (.cond (!f.1)
 (.ret (.inr (.inl (1, ()))))
 (.opt ((findF_n k) (some d, Prod.fst (List.getD a (Int.toNat c) (ByteArray.empty, [])), ())) fun g =>
 (.cond g.1.2
 (.ret (.inr (.inl (4, ()))))
 (.opt (cloneField (Prod.snd (List.getD a (Int.toNat c) (ByteArray.empty, [])), ())) fun h =>
 (.cond (decide ((List.length d + List.length (List.set (List.replicate 1 (ByteArray.empty, [])) 0 (Prod.fst (List.getD a (Int.toNat c) (ByteArray.empty, [])), h.1))) * 40 ≤ 140737488355328))
 (.ret (.inl (a, b, IntKind.wrap .i64 (c + 1), d ++ List.set (List.replicate 1 (ByteArray.empty, [])) 0 (Prod.fst (List.getD a (Int.toNat c) (ByteArray.empty, [])), h.1), ())))
 (.no)))))))))
 (.no))
 (.ret (.inr (.inr (d, ())))))
theorem newS_l0_le (k : Nat) (x : _) : BLe (newS_l0_n k x) (newS_l0 x) := by
 obtain ⟨a, b, c, d, ⟨⟩⟩ := x
 show BLe (newS_l0_n k _) (newS_l0 _)
 unfold newS_l0_n newS_l0
 repeat' (first | with_reducible exact BLe.rfl' _ | with_reducible exact OLe.rfl' _ | with_reducible apply BLe.cond | (with_reducible refine BLe.opt ?_ fun _ => ?_) | (with_reducible refine BLe.sum (fun _ => ?_) fun _ => ?_) | exact fieldsF_le k _ | exact findF_le k _ | exact nameF_le k _)
noncomputable def newS_w0_n (k : Nat) : (zA11 × (Int × (Int × (zA11 × Unit)))) → Option ((Int × Unit) ⊕ (zA11 × Unit)) := iterN (fun x => (newS_l0_n k x).run) k
theorem newS_w0_le (k : Nat) (x : _) : OLe (newS_w0_n k x) (newS_w0 x) := iterN_le (fun x => newS_l0_le k x) k x
noncomputable def newS_B_n (k : Nat) : (zA11 × Unit) → Br (((Option zA11) × Int) × Unit) := fun (p0, ()) =>
 (.cond (decide ((↑(List.length p0) : Int) > 16))
 (.ret ((none, 5), ()))
 (.opt ((newS_w0_n k) (p0, (↑(List.length p0) : Int), 0, [], ())) fun a =>
 (.sum a (fun b =>
 (.ret ((none, b.1), ()))) (fun c =>
 (.ret ((some c.1, 0), ()))))))
theorem newS_B_le (k : Nat) (x : _) : BLe (newS_B_n k x) (newS_B x) := by
 obtain ⟨p0, ⟨⟩⟩ := x
 show BLe (newS_B_n k _) (newS_B _)
 unfold newS_B_n newS_B
 repeat' (first | with_reducible exact BLe.rfl' _ | with_reducible exact OLe.rfl' _ | with_reducible apply BLe.cond | (with_reducible refine BLe.opt ?_ fun _ => ?_) | (with_reducible refine BLe.sum (fun _ => ?_) fun _ => ?_) | exact newS_w0_le k _)
noncomputable def newS_n (k : Nat) : (zA11 × Unit) → Option (((Option zA11) × Int) × Unit) := fun x => (newS_B_n k x).run
theorem newS_le (k : Nat) (x : _) : OLe (newS_n k x) (newS x) := newS_B_le k x
end Go.Proofs.YtiblijkhpmemeaaGreat
