/- Twins of functions that the kernel reckons. Printed by twin3.py. -/
import Derived.Test.YtiblijkhpmemeaaGreatHf
import Derived.Test.YtiblijkhpmemeaaGreatHk
import Derived.Test.YtiblijkhpmemeaaGreatT1
namespace Go.Proofs.YtiblijkhpmemeaaGreat
open Go.PI Go
noncomputable def idxStr_w0_n (k : Nat) : ((List ByteArray) × (ByteArray × (Int × (Int × Unit)))) → Option ((Int × Unit) ⊕ Unit) := iterN (fun x => (idxStr_l0 x).run) k
theorem idxStr_w0_le (k : Nat) (x : _) : OLe (idxStr_w0_n k x) (idxStr_w0 x) := iterN_le (fun x => OLe.rfl' _) k x
noncomputable def idxStr_B_n (k : Nat) : ((List ByteArray) × (ByteArray × Unit)) → Br (Int × Unit) := fun (p0, p1, ()) =>
 (.opt ((idxStr_w0_n k) (p0, p1, (↑(List.length p0) : Int), 0, ())) fun a =>
 (.sum a (fun b =>
 (.ret (b.1, ()))) (fun c =>
 (.ret (-1, ())))))
theorem idxStr_B_le (k : Nat) (x : _) : BLe (idxStr_B_n k x) (idxStr_B x) := by
 obtain ⟨p0, p1, ⟨⟩⟩ := x
 show BLe (idxStr_B_n k _) (idxStr_B _)
 unfold idxStr_B_n idxStr_B
 repeat' (first | with_reducible exact BLe.rfl' _ | with_reducible exact OLe.rfl' _ | with_reducible apply BLe.cond | (with_reducible refine BLe.opt ?_ fun _ => ?_) | (with_reducible refine BLe.sum (fun _ => ?_) fun _ => ?_) | exact idxStr_w0_le k _)
noncomputable def idxStr_n (k : Nat) : ((List ByteArray) × (ByteArray × Unit)) → Option (Int × Unit) := fun x => (idxStr_B_n k x).run
theorem idxStr_le (k : Nat) (x : _) : OLe (idxStr_n k x) (idxStr x) := idxStr_B_le k x
noncomputable def hasStr_B_n (k : Nat) : ((List ByteArray) × (ByteArray × Unit)) → Br (Bool × Unit) := fun (p0, p1, ()) =>
 (.opt ((idxStr_n k) (p0, p1, ())) fun y3 =>
 (.ret (decide (y3.1 ≥ 0), ())))
theorem hasStr_B_le (k : Nat) (x : _) : BLe (hasStr_B_n k x) (hasStr_B x) := by
 obtain ⟨p0, p1, ⟨⟩⟩ := x
 show BLe (hasStr_B_n k _) (hasStr_B _)
 unfold hasStr_B_n hasStr_B
 repeat' (first | with_reducible exact BLe.rfl' _ | with_reducible exact OLe.rfl' _ | with_reducible apply BLe.cond | (with_reducible refine BLe.opt ?_ fun _ => ?_) | (with_reducible refine BLe.sum (fun _ => ?_) fun _ => ?_) | exact idxStr_le k _)
noncomputable def hasStr_n (k : Nat) : ((List ByteArray) × (ByteArray × Unit)) → Option (Bool × Unit) := fun x => (hasStr_B_n k x).run
theorem hasStr_le (k : Nat) (x : _) : OLe (hasStr_n k x) (hasStr x) := hasStr_B_le k x
noncomputable def idxEvT_w0_n (k : Nat) : ((List zA2) × ((Int × Unit) × (Int × (Int × Unit)))) → Option ((Int × Unit) ⊕ Unit) := iterN (fun x => (idxEvT_l0 x).run) k
theorem idxEvT_w0_le (k : Nat) (x : _) : OLe (idxEvT_w0_n k x) (idxEvT_w0 x) := iterN_le (fun x => OLe.rfl' _) k x
noncomputable def idxEvT_B_n (k : Nat) : ((List zA2) × (Int × Unit)) → Br (Int × Unit) := fun (p0, p1, ()) =>
 (.opt ((idxEvT_w0_n k) (p0, (p1, ()), (↑(List.length p0) : Int), 0, ())) fun a =>
 (.sum a (fun b =>
 (.ret (b.1, ()))) (fun c =>
 (.ret (-1, ())))))
theorem idxEvT_B_le (k : Nat) (x : _) : BLe (idxEvT_B_n k x) (idxEvT_B x) := by
 obtain ⟨p0, p1, ⟨⟩⟩ := x
 show BLe (idxEvT_B_n k _) (idxEvT_B _)
 unfold idxEvT_B_n idxEvT_B
 repeat' (first | with_reducible exact BLe.rfl' _ | with_reducible exact OLe.rfl' _ | with_reducible apply BLe.cond | (with_reducible refine BLe.opt ?_ fun _ => ?_) | (with_reducible refine BLe.sum (fun _ => ?_) fun _ => ?_) | exact idxEvT_w0_le k _)
noncomputable def idxEvT_n (k : Nat) : ((List zA2) × (Int × Unit)) → Option (Int × Unit) := fun x => (idxEvT_B_n k x).run
theorem idxEvT_le (k : Nat) (x : _) : OLe (idxEvT_n k x) (idxEvT x) := idxEvT_B_le k x
noncomputable def findT_B_n (k : Nat) : ((List zA2) × (Int × Unit)) → Br ((zA2 × Int) × Unit) := fun (p0, p1, ()) =>
 (.opt ((idxEvT_n k) (p0, p1, ())) fun y3 =>
 (.cond (decide (y3.1 < 0))
 (.ret (((ByteArray.empty, ByteArray.empty, 0, 0, []), -1), ()))
 (.cond (decide (0 ≤ y3.1) && decide (y3.1 < (↑(List.length p0) : Int)))
 (.ret ((List.getD p0 (Int.toNat y3.1) (ByteArray.empty, ByteArray.empty, 0, 0, []), y3.1), ()))
 (.no))))
theorem findT_B_le (k : Nat) (x : _) : BLe (findT_B_n k x) (findT_B x) := by
 obtain ⟨p0, p1, ⟨⟩⟩ := x
 show BLe (findT_B_n k _) (findT_B _)
 unfold findT_B_n findT_B
 repeat' (first | with_reducible exact BLe.rfl' _ | with_reducible exact OLe.rfl' _ | with_reducible apply BLe.cond | (with_reducible refine BLe.opt ?_ fun _ => ?_) | (with_reducible refine BLe.sum (fun _ => ?_) fun _ => ?_) | exact idxEvT_le k _)
noncomputable def findT_n (k : Nat) : ((List zA2) × (Int × Unit)) → Option ((zA2 × Int) × Unit) := fun x => (findT_B_n k x).run
theorem findT_le (k : Nat) (x : _) : OLe (findT_n k x) (findT x) := findT_B_le k x
noncomputable def envT_l0_n (k : Nat) : zT12 → Br (zT12 ⊕ (zA21 × Unit)) := fun (a, b, c, d, e, f, g, ()) =>
 (.cond (decide (e < d))
 (.cond (decide (0 ≤ e) && decide (e < (↑(List.length c) : Int)))
 (.cond (decide (Prod.fst (List.getD c (Int.toNat e) (0, 0)) < 0))
 (.ret (.inl (a, b, c, d, IntKind.wrap .i64 (e + 1), f, g, ())))
 (.cond (decide (Prod.fst (List.getD c (Int.toNat e) (0, 0)) ≥ (↑(List.length f.1) : Int)))
 (.ret (.inl (a, b, c, d, IntKind.wrap .i64 (e + 1), f, g, ())))
 (.cond (decide (Prod.fst (List.getD c (Int.toNat e) (0, 0)) ≥ b))
 (.ret (.inl (a, b, c, d, IntKind.wrap .i64 (e + 1), f, g, ())))
 (.cond (decide (0 ≤ Prod.fst (List.getD c (Int.toNat e) (0, 0))) && decide (Prod.fst (List.getD c (Int.toNat e) (0, 0)) < (↑(List.length f.1) : Int)))
 (.cond (Prod.fst (Prod.snd (Prod.snd (Prod.snd (Prod.snd (List.getD f.1 (Int.toNat (Prod.fst (List.getD c (Int.toNat e) (0, 0)))) (ByteArray.empty, [], false, 0, 0, [])))))) != 1)
 (.ret (.inl (a, b, c, d, IntKind.wrap .i64 (e + 1), f, g, ())))
 (.opt ((findT_n k) (a, Prod.snd (List.getD c (Int.toNat e) (0, 0)), ())) fun h =>
 (.cond (decide (h.1.2 ≥ 0))
 (.cond (decide (0 ≤ Prod.fst (List.getD c (Int.toNat e) (0, 0))) && decide (Prod.fst (List.getD c (Int.toNat e) (0, 0)) < (↑(List.length f.1) : Int)))
 (.cond (decide ((List.length g + List.length (List.set (List.replicate 1 (ByteArray.empty, ByteArray.empty, ByteArray.empty, 0, 0, [])) 0 (Prod.fst (List.getD f.1 (Int.toNat (Prod.fst (List.getD c (Int.toNat e) (0, 0)))) (ByteArray.empty, [], false, 0, 0, [])), h.1.1))) * 88 ≤ 140737488355328))
 (.ret (.inl (a, b, c, d, IntKind.wrap .i64 (e + 1), f, g ++ List.set (List.replicate 1 (ByteArray.empty, ByteArray.empty, ByteArray.empty, 0, 0, [])) 0 (Prod.fst (List.getD f.1 (Int.toNat (Prod.fst (List.getD c (Int.toNat e) (0, 0)))) (ByteArray.empty, [], false, 0, 0, [])), h.1.1), ())))
 (.no))
 (.no))
 (.ret (.inl (a, b, c, d, IntKind.wrap .i64 (e + 1), f, g, ()))))))
 (.no)))))
 (.no))
 (.ret (.inr (g, ()))))
theorem envT_l0_le (k : Nat) (x : _) : BLe (envT_l0_n k x) (envT_l0 x) := by
 obtain ⟨a, b, c, d, e, f, g, ⟨⟩⟩ := x
 show BLe (envT_l0_n k _) (envT_l0 _)
 unfold envT_l0_n envT_l0
 repeat' (first | with_reducible exact BLe.rfl' _ | with_reducible exact OLe.rfl' _ | with_reducible apply BLe.cond | (with_reducible refine BLe.opt ?_ fun _ => ?_) | (with_reducible refine BLe.sum (fun _ => ?_) fun _ => ?_) | exact findT_le k _)
noncomputable def envT_w0_n (k : Nat) : zT12 → Option (zA21 × Unit) := iterN (fun x => (envT_l0_n k x).run) k
theorem envT_w0_le (k : Nat) (x : _) : OLe (envT_w0_n k x) (envT_w0 x) := iterN_le (fun x => envT_l0_le k x) k x
noncomputable def envT_B_n (k : Nat) : (zA10 × ((List zA2) × zT2)) → Br (zA21 × Unit) := fun (p0, p1, p2, p3, ()) =>
 (.opt ((envT_w0_n k) (p1, p3, p2, (↑(List.length p2) : Int), 0, p0, [], ())) fun a =>
 (.ret (a.1, ())))
theorem envT_B_le (k : Nat) (x : _) : BLe (envT_B_n k x) (envT_B x) := by
 obtain ⟨p0, p1, p2, p3, ⟨⟩⟩ := x
 show BLe (envT_B_n k _) (envT_B _)
 unfold envT_B_n envT_B
 repeat' (first | with_reducible exact BLe.rfl' _ | with_reducible exact OLe.rfl' _ | with_reducible apply BLe.cond | (with_reducible refine BLe.opt ?_ fun _ => ?_) | (with_reducible refine BLe.sum (fun _ => ?_) fun _ => ?_) | exact envT_w0_le k _)
noncomputable def envT_n (k : Nat) : (zA10 × ((List zA2) × zT2)) → Option (zA21 × Unit) := fun x => (envT_B_n k x).run
theorem envT_le (k : Nat) (x : _) : OLe (envT_n k x) (envT x) := envT_B_le k x
noncomputable def fitsT_B_n (k : Nat) : ((Option zA11) × (zA10 × ((List zA2) × ((List (Int × Int)) × (Int × (zA2 × Unit)))))) → Br (Bool × Unit) := fun (p0, p1, p2, p3, p4, p5, ()) =>
 (.cond (decide (0 ≤ p4) && decide (p4 < (↑(List.length p1.1) : Int)))
 (.opt ((hasStr_n k) (Prod.fst (Prod.snd (List.getD p1.1 (Int.toNat p4) (ByteArray.empty, [], false, 0, 0, []))), p5.1, ())) fun y9 =>
 (.cond (!y9.1)
 (.ret (false, ()))
 (.opt ((envT_n k) (p1, p2, p3, p4, ())) fun a =>
 (.cond (decide ((List.length a.1 + List.length (List.set (List.replicate 1 (ByteArray.empty, ByteArray.empty, ByteArray.empty, 0, 0, [])) 0 (Prod.fst (List.getD p1.1 (Int.toNat p4) (ByteArray.empty, [], false, 0, 0, [])), p5))) * 88 ≤ 140737488355328))
 (.opt ((holdsF_n k) (p0, Prod.snd (Prod.snd (Prod.snd (Prod.snd (Prod.snd (List.getD p1.1 (Int.toNat p4) (ByteArray.empty, [], false, 0, 0, [])))))), a.1 ++ List.set (List.replicate 1 (ByteArray.empty, ByteArray.empty, ByteArray.empty, 0, 0, [])) 0 (Prod.fst (List.getD p1.1 (Int.toNat p4) (ByteArray.empty, [], false, 0, 0, [])), p5), ())) fun b =>
 (.ret (b.1, ())))
 (.no)))))
 (.no))
theorem fitsT_B_le (k : Nat) (x : _) : BLe (fitsT_B_n k x) (fitsT_B x) := by
 obtain ⟨p0, p1, p2, p3, p4, p5, ⟨⟩⟩ := x
 show BLe (fitsT_B_n k _) (fitsT_B _)
 unfold fitsT_B_n fitsT_B
 repeat' (first | with_reducible exact BLe.rfl' _ | with_reducible exact OLe.rfl' _ | with_reducible apply BLe.cond | (with_reducible refine BLe.opt ?_ fun _ => ?_) | (with_reducible refine BLe.sum (fun _ => ?_) fun _ => ?_) | exact envT_le k _ | exact hasStr_le k _ | exact holdsF_le k _)
noncomputable def fitsT_n (k : Nat) : ((Option zA11) × (zA10 × ((List zA2) × ((List (Int × Int)) × (Int × (zA2 × Unit)))))) → Option (Bool × Unit) := fun x => (fitsT_B_n k x).run
theorem fitsT_le (k : Nat) (x : _) : OLe (fitsT_n k x) (fitsT x) := fitsT_B_le k x
noncomputable def nextT_w0_n (k : Nat) : zT6 → Option ((Int × Unit) ⊕ Unit) := iterN (fun x => (nextT_l0 x).run) k
theorem nextT_w0_le (k : Nat) (x : _) : OLe (nextT_w0_n k x) (nextT_w0 x) := iterN_le (fun x => OLe.rfl' _) k x
noncomputable def nextT_B_n (k : Nat) : (zA10 × (Int × Unit)) → Br (Int × Unit) := fun (p0, p1, ()) =>
 (.opt ((nextT_w0_n k) (p1, if IntKind.wrap .i64 (p1 + 1) < 0 then 0 else IntKind.wrap .i64 (p1 + 1), p0, ())) fun a =>
 (.sum a (fun b =>
 (.ret (b.1, ()))) (fun c =>
 (.ret (-1, ())))))
theorem nextT_B_le (k : Nat) (x : _) : BLe (nextT_B_n k x) (nextT_B x) := by
 obtain ⟨p0, p1, ⟨⟩⟩ := x
 show BLe (nextT_B_n k _) (nextT_B _)
 unfold nextT_B_n nextT_B
 repeat' (first | with_reducible exact BLe.rfl' _ | with_reducible exact OLe.rfl' _ | with_reducible apply BLe.cond | (with_reducible refine BLe.opt ?_ fun _ => ?_) | (with_reducible refine BLe.sum (fun _ => ?_) fun _ => ?_) | exact nextT_w0_le k _)
noncomputable def nextT_n (k : Nat) : (zA10 × (Int × Unit)) → Option (Int × Unit) := fun x => (nextT_B_n k x).run
theorem nextT_le (k : Nat) (x : _) : OLe (nextT_n k x) (nextT x) := nextT_B_le k x
noncomputable def betwT_w0_n (k : Nat) : (Int × (Int × (zA10 × ((List Int) × Unit)))) → Option ((List Int) × Unit) := iterN (fun x => (betwT_l0 x).run) k
theorem betwT_w0_le (k : Nat) (x : _) : OLe (betwT_w0_n k x) (betwT_w0 x) := iterN_le (fun x => OLe.rfl' _) k x
noncomputable def betwT_B_n (k : Nat) : (zA10 × (Int × Unit)) → Br ((List Int) × Unit) := fun (p0, p1, ()) =>
 (.opt ((betwT_w0_n k) (p1, if IntKind.wrap .i64 (p1 + 1) < 0 then 0 else IntKind.wrap .i64 (p1 + 1), p0, [], ())) fun a =>
 (.ret (a.1, ())))
theorem betwT_B_le (k : Nat) (x : _) : BLe (betwT_B_n k x) (betwT_B x) := by
 obtain ⟨p0, p1, ⟨⟩⟩ := x
 show BLe (betwT_B_n k _) (betwT_B _)
 unfold betwT_B_n betwT_B
 repeat' (first | with_reducible exact BLe.rfl' _ | with_reducible exact OLe.rfl' _ | with_reducible apply BLe.cond | (with_reducible refine BLe.opt ?_ fun _ => ?_) | (with_reducible refine BLe.sum (fun _ => ?_) fun _ => ?_) | exact betwT_w0_le k _)
noncomputable def betwT_n (k : Nat) : (zA10 × (Int × Unit)) → Option ((List Int) × Unit) := fun x => (betwT_B_n k x).run
theorem betwT_le (k : Nat) (x : _) : OLe (betwT_n k x) (betwT x) := betwT_B_le k x
noncomputable def orderT_l1_n (k : Nat) : zT10 → Br (zT10 ⊕ (Unit ⊕ zT10)) := fun (a, b, c, d, e, f, g, ()) =>
 (.cond (decide (d < (↑(List.length b) : Int)))
 (.cond (decide (0 ≤ d) && decide (d < (↑(List.length b) : Int)))
 (.cond (Prod.fst (List.getD b (Int.toNat d) (0, 0)) == c)
 (.cond (decide (0 ≤ d) && decide (d < (↑(List.length b) : Int)))
 (.opt ((findT_n k) (a, Prod.snd (List.getD b (Int.toNat d) (0, 0)), ())) fun h =>
 (.cond (decide (h.1.2 ≤ e))
 (.ret (.inr (.inl (()))))
 (.ret (.inl (a, b, c, IntKind.wrap .i64 (d + 1), h.1.2, IntKind.wrap .i64 (f + 1), g, ())))))
 (.no))
 (.ret (.inr (.inr (a, b, c, d, e, f, g, ())))))
 (.no))
 (.ret (.inr (.inr (a, b, c, d, e, f, g, ())))))
theorem orderT_l1_le (k : Nat) (x : _) : BLe (orderT_l1_n k x) (orderT_l1 x) := by
 obtain ⟨a, b, c, d, e, f, g, ⟨⟩⟩ := x
 show BLe (orderT_l1_n k _) (orderT_l1 _)
 unfold orderT_l1_n orderT_l1
 repeat' (first | with_reducible exact BLe.rfl' _ | with_reducible exact OLe.rfl' _ | with_reducible apply BLe.cond | (with_reducible refine BLe.opt ?_ fun _ => ?_) | (with_reducible refine BLe.sum (fun _ => ?_) fun _ => ?_) | exact findT_le k _)
noncomputable def orderT_w1_n (k : Nat) : zT10 → Option (Unit ⊕ zT10) := iterN (fun x => (orderT_l1_n k x).run) k
theorem orderT_w1_le (k : Nat) (x : _) : OLe (orderT_w1_n k x) (orderT_w1 x) := iterN_le (fun x => orderT_l1_le k x) k x
noncomputable def orderT_l0_n (k : Nat) : ((List zA2) × ((List (Int × Int)) × (Int × zT6))) → Br (((List zA2) × ((List (Int × Int)) × (Int × zT6))) ⊕ (Unit ⊕ zT2)) := fun (a, b, c, d, e, f, ()) =>
 (.cond (decide (c ≥ 0))
 (.opt ((orderT_w1_n k) (a, b, c, d, e, 0, f, ())) fun g =>
 (.sum g (fun h =>
 (.ret (.inr (.inl (()))))) (fun i =>
 (.cond (decide (0 ≤ i.2.2.1) && decide (i.2.2.1 < (↑(List.length i.2.2.2.2.2.2.1.1) : Int)))
 (.cond (decide (i.2.2.2.2.2.1 < Prod.fst (Prod.snd (Prod.snd (Prod.snd (List.getD i.2.2.2.2.2.2.1.1 (Int.toNat i.2.2.1) (ByteArray.empty, [], false, 0, 0, [])))))))
 (.ret (.inr (.inl (()))))
 (.cond (decide (0 ≤ i.2.2.1) && decide (i.2.2.1 < (↑(List.length i.2.2.2.2.2.2.1.1) : Int)))
 (.cond (decide (i.2.2.2.2.2.1 > Prod.fst (Prod.snd (Prod.snd (Prod.snd (Prod.snd (List.getD i.2.2.2.2.2.2.1.1 (Int.toNat i.2.2.1) (ByteArray.empty, [], false, 0, 0, []))))))))
 (.ret (.inr (.inl (()))))
 (.opt ((nextT_n k) (i.2.2.2.2.2.2.1, i.2.2.1, ())) fun j =>
 (.ret (.inl (i.1, i.2.1, j.1, i.2.2.2.1, i.2.2.2.2.1, i.2.2.2.2.2.2.1, ())))))
 (.no)))
 (.no)))))
 (.ret (.inr (.inr (b, d, ())))))
theorem orderT_l0_le (k : Nat) (x : _) : BLe (orderT_l0_n k x) (orderT_l0 x) := by
 obtain ⟨a, b, c, d, e, f, ⟨⟩⟩ := x
 show BLe (orderT_l0_n k _) (orderT_l0 _)
 unfold orderT_l0_n orderT_l0
 repeat' (first | with_reducible exact BLe.rfl' _ | with_reducible exact OLe.rfl' _ | with_reducible apply BLe.cond | (with_reducible refine BLe.opt ?_ fun _ => ?_) | (with_reducible refine BLe.sum (fun _ => ?_) fun _ => ?_) | exact nextT_le k _ | exact orderT_w1_le k _)
noncomputable def orderT_w0_n (k : Nat) : ((List zA2) × ((List (Int × Int)) × (Int × zT6))) → Option (Unit ⊕ zT2) := iterN (fun x => (orderT_l0_n k x).run) k
theorem orderT_w0_le (k : Nat) (x : _) : OLe (orderT_w0_n k x) (orderT_w0 x) := iterN_le (fun x => orderT_l0_le k x) k x
noncomputable def orderT_B_n (k : Nat) : (zA10 × ((List zA2) × zA31)) → Br (Bool × Unit) := fun (p0, p1, p2, ()) =>
 (.opt ((nextT_n k) (p0, -1, ())) fun a =>
 (.opt ((orderT_w0_n k) (p1, p2, a.1, 0, -1, p0, ())) fun b =>
 (.sum b (fun c =>
 (.ret (false, ()))) (fun d =>
 (.ret (d.2.1 == (↑(List.length d.1) : Int), ()))))))
theorem orderT_B_le (k : Nat) (x : _) : BLe (orderT_B_n k x) (orderT_B x) := by
 obtain ⟨p0, p1, p2, ⟨⟩⟩ := x
 show BLe (orderT_B_n k _) (orderT_B _)
 unfold orderT_B_n orderT_B
 repeat' (first | with_reducible exact BLe.rfl' _ | with_reducible exact OLe.rfl' _ | with_reducible apply BLe.cond | (with_reducible refine BLe.opt ?_ fun _ => ?_) | (with_reducible refine BLe.sum (fun _ => ?_) fun _ => ?_) | exact nextT_le k _ | exact orderT_w0_le k _)
noncomputable def orderT_n (k : Nat) : (zA10 × ((List zA2) × zA31)) → Option (Bool × Unit) := fun x => (orderT_B_n k x).run
theorem orderT_le (k : Nat) (x : _) : OLe (orderT_n k x) (orderT x) := orderT_B_le k x
noncomputable def freeT_l1_n (k : Nat) : zT11 → Br (zT11 ⊕ (Unit ⊕ zT5)) := fun (a, b, c, d, e, f, g, h, i, j, l, m, ()) =>
 (.cond (decide (h < f))
 (.cond (decide (0 ≤ 0) && decide (0 ≤ d) && decide (d ≤ (↑(List.length c) : Int)))
 (.cond (decide (0 ≤ h) && decide (h < (↑(List.length b) : Int)))
 (.opt ((fitsT_n k) (a, m, b, List.drop (Int.toNat 0) (List.take (Int.toNat d) c), g, List.getD b (Int.toNat h) (ByteArray.empty, ByteArray.empty, 0, 0, []), ())) fun n =>
 (.cond n.1
 (.ret (.inr (.inl (()))))
 (.ret (.inl (a, b, c, d, e, f, g, IntKind.wrap .i64 (h + 1), i, j, l, m, ())))))
 (.no))
 (.no))
 (.ret (.inr (.inr (a, b, c, d, e, f, i, j, l, m, ())))))
theorem freeT_l1_le (k : Nat) (x : _) : BLe (freeT_l1_n k x) (freeT_l1 x) := by
 obtain ⟨a, b, c, d, e, f, g, h, i, j, l, m, ⟨⟩⟩ := x
 show BLe (freeT_l1_n k _) (freeT_l1 _)
 unfold freeT_l1_n freeT_l1
 repeat' (first | with_reducible exact BLe.rfl' _ | with_reducible exact OLe.rfl' _ | with_reducible apply BLe.cond | (with_reducible refine BLe.opt ?_ fun _ => ?_) | (with_reducible refine BLe.sum (fun _ => ?_) fun _ => ?_) | exact fitsT_le k _)
noncomputable def freeT_w1_n (k : Nat) : zT11 → Option (Unit ⊕ zT5) := iterN (fun x => (freeT_l1_n k x).run) k
theorem freeT_w1_le (k : Nat) (x : _) : OLe (freeT_w1_n k x) (freeT_w1 x) := iterN_le (fun x => freeT_l1_le k x) k x
noncomputable def freeT_l0_n (k : Nat) : zT5 → Br (zT5 ⊕ (Unit ⊕ Unit)) := fun (a, b, c, d, e, f, g, h, i, j, ()) =>
 (.cond (decide (i < h))
 (.cond (decide (0 ≤ i) && decide (i < (↑(List.length g) : Int)))
 (.opt ((freeT_w1_n k) (a, b, c, d, e, f, List.getD g (Int.toNat i) 0, IntKind.wrap .i64 (e + 1), g, h, i, j, ())) fun l =>
 (.sum l (fun m =>
 (.ret (.inr (.inl (()))))) (fun n =>
 (.ret (.inl (n.1, n.2.1, n.2.2.1, n.2.2.2.1, n.2.2.2.2.1, n.2.2.2.2.2.1, n.2.2.2.2.2.2.1, n.2.2.2.2.2.2.2.1, IntKind.wrap .i64 (n.2.2.2.2.2.2.2.2.1 + 1), n.2.2.2.2.2.2.2.2.2.1, ()))))))
 (.no))
 (.ret (.inr (.inr (())))))
theorem freeT_l0_le (k : Nat) (x : _) : BLe (freeT_l0_n k x) (freeT_l0 x) := by
 obtain ⟨a, b, c, d, e, f, g, h, i, j, ⟨⟩⟩ := x
 show BLe (freeT_l0_n k _) (freeT_l0 _)
 unfold freeT_l0_n freeT_l0
 repeat' (first | with_reducible exact BLe.rfl' _ | with_reducible exact OLe.rfl' _ | with_reducible apply BLe.cond | (with_reducible refine BLe.opt ?_ fun _ => ?_) | (with_reducible refine BLe.sum (fun _ => ?_) fun _ => ?_) | exact freeT_w1_le k _)
noncomputable def freeT_w0_n (k : Nat) : zT5 → Option (Unit ⊕ Unit) := iterN (fun x => (freeT_l0_n k x).run) k
theorem freeT_w0_le (k : Nat) (x : _) : OLe (freeT_w0_n k x) (freeT_w0 x) := iterN_le (fun x => freeT_l0_le k x) k x
noncomputable def freeT_B_n (k : Nat) : ((Option zA11) × (zA10 × ((List zA2) × zT2))) → Br (Bool × Unit) := fun (p0, p1, p2, p3, p4, ()) =>
 (.cond (decide (0 ≤ p4) && decide (p4 < (↑(List.length p3) : Int)))
 (.cond (decide (0 ≤ IntKind.wrap .i64 (p4 - 1)) && decide (IntKind.wrap .i64 (p4 - 1) < (↑(List.length p3) : Int)))
 (.cond (Prod.fst (List.getD p3 (Int.toNat p4) (0, 0)) == Prod.fst (List.getD p3 (Int.toNat (IntKind.wrap .i64 (p4 - 1))) (0, 0)))
 (.ret (true, ()))
 (.cond (decide (0 ≤ IntKind.wrap .i64 (p4 - 1)) && decide (IntKind.wrap .i64 (p4 - 1) < (↑(List.length p3) : Int)))
 (.opt ((findT_n k) (p2, Prod.snd (List.getD p3 (Int.toNat (IntKind.wrap .i64 (p4 - 1))) (0, 0)), ())) fun a =>
 (.cond (decide (0 ≤ p4) && decide (p4 < (↑(List.length p3) : Int)))
 (.opt ((findT_n k) (p2, Prod.snd (List.getD p3 (Int.toNat p4) (0, 0)), ())) fun b =>
 (.cond (decide (0 ≤ IntKind.wrap .i64 (p4 - 1)) && decide (IntKind.wrap .i64 (p4 - 1) < (↑(List.length p3) : Int)))
 (.opt ((betwT_n k) (p1, Prod.fst (List.getD p3 (Int.toNat (IntKind.wrap .i64 (p4 - 1))) (0, 0)), ())) fun c =>
 (.opt ((freeT_w0_n k) (p0, p2, p3, p4, a.1.2, b.1.2, c.1, (↑(List.length c.1) : Int), 0, p1, ())) fun d =>
 (.sum d (fun e =>
 (.ret (false, ()))) (fun f =>
 (.ret (true, ()))))))
 (.no)))
 (.no)))
 (.no)))
 (.no))
 (.no))
theorem freeT_B_le (k : Nat) (x : _) : BLe (freeT_B_n k x) (freeT_B x) := by
 obtain ⟨p0, p1, p2, p3, p4, ⟨⟩⟩ := x
 show BLe (freeT_B_n k _) (freeT_B _)
 unfold freeT_B_n freeT_B
 repeat' (first | with_reducible exact BLe.rfl' _ | with_reducible exact OLe.rfl' _ | with_reducible apply BLe.cond | (with_reducible refine BLe.opt ?_ fun _ => ?_) | (with_reducible refine BLe.sum (fun _ => ?_) fun _ => ?_) | exact betwT_le k _ | exact findT_le k _ | exact freeT_w0_le k _)
noncomputable def freeT_n (k : Nat) : ((Option zA11) × (zA10 × ((List zA2) × zT2))) → Option (Bool × Unit) := fun x => (freeT_B_n k x).run
theorem freeT_le (k : Nat) (x : _) : OLe (freeT_n k x) (freeT x) := freeT_B_le k x
noncomputable def matchT_l0_n (k : Nat) : zT8 → Br (zT8 ⊕ (Unit ⊕ zT9)) := fun (a, b, c, d, e, f, g, ()) =>
 (.cond (decide (f < e))
 (.cond (decide (0 ≤ f) && decide (f < (↑(List.length d) : Int)))
 (.opt ((findT_n k) (b, Prod.snd (List.getD d (Int.toNat f) (0, 0)), ())) fun h =>
 (.cond (decide (0 ≤ 0) && decide (0 ≤ f) && decide (f ≤ (↑(List.length c) : Int)))
 (.opt ((fitsT_n k) (a, g, b, List.drop (Int.toNat 0) (List.take (Int.toNat f) c), Prod.fst (List.getD d (Int.toNat f) (0, 0)), h.1.1, ())) fun i =>
 (.cond (!i.1)
 (.ret (.inr (.inl (()))))
 (.cond (decide (f > 0))
 (.opt ((freeT_n k) (a, g, b, c, f, ())) fun j =>
 (.cond (!j.1)
 (.ret (.inr (.inl (()))))
 (.ret (.inl (a, b, c, d, e, IntKind.wrap .i64 (f + 1), g, ())))))
 (.ret (.inl (a, b, c, d, e, IntKind.wrap .i64 (f + 1), g, ()))))))
 (.no)))
 (.no))
 (.ret (.inr (.inr (b, c, g, ())))))
theorem matchT_l0_le (k : Nat) (x : _) : BLe (matchT_l0_n k x) (matchT_l0 x) := by
 obtain ⟨a, b, c, d, e, f, g, ⟨⟩⟩ := x
 show BLe (matchT_l0_n k _) (matchT_l0 _)
 unfold matchT_l0_n matchT_l0
 repeat' (first | with_reducible exact BLe.rfl' _ | with_reducible exact OLe.rfl' _ | with_reducible apply BLe.cond | (with_reducible refine BLe.opt ?_ fun _ => ?_) | (with_reducible refine BLe.sum (fun _ => ?_) fun _ => ?_) | exact findT_le k _ | exact fitsT_le k _ | exact freeT_le k _)
noncomputable def matchT_w0_n (k : Nat) : zT8 → Option (Unit ⊕ zT9) := iterN (fun x => (matchT_l0_n k x).run) k
theorem matchT_w0_le (k : Nat) (x : _) : OLe (matchT_w0_n k x) (matchT_w0 x) := iterN_le (fun x => matchT_l0_le k x) k x
noncomputable def matchT_B_n (k : Nat) : ((Option zA11) × (zA10 × ((List zA2) × zA31))) → Br (Bool × Unit) := fun (p0, p1, p2, p3, ()) =>
 (.cond ((↑(List.length p3) : Int) == 0)
 (.ret (false, ()))
 (.opt ((orderT_n k) (p1, p2, p3, ())) fun a =>
 (.cond (!a.1)
 (.ret (false, ()))
 (.opt ((matchT_w0_n k) (p0, p2, p3, p3, (↑(List.length p3) : Int), 0, p1, ())) fun b =>
 (.sum b (fun c =>
 (.ret (false, ()))) (fun d =>
 (.cond (decide (0 ≤ 0) && decide (0 < (↑(List.length d.2.1) : Int)))
 (.opt ((findT_n k) (d.1, Prod.snd (List.getD d.2.1 (Int.toNat 0) (0, 0)), ())) fun e =>
 (.cond (decide (0 ≤ IntKind.wrap .i64 ((↑(List.length d.2.1) : Int) - 1)) && decide (IntKind.wrap .i64 ((↑(List.length d.2.1) : Int) - 1) < (↑(List.length d.2.1) : Int)))
 (.opt ((findT_n k) (d.1, Prod.snd (List.getD d.2.1 (Int.toNat (IntKind.wrap .i64 ((↑(List.length d.2.1) : Int) - 1))) (0, 0)), ())) fun f =>
 (.opt (withinT (e.1.1.2.2.1, f.1.1.2.2.1, d.2.2.1.2.1, ())) fun g =>
 (.ret (g.1, ()))))
 (.no)))
 (.no))))))))
theorem matchT_B_le (k : Nat) (x : _) : BLe (matchT_B_n k x) (matchT_B x) := by
 obtain ⟨p0, p1, p2, p3, ⟨⟩⟩ := x
 show BLe (matchT_B_n k _) (matchT_B _)
 unfold matchT_B_n matchT_B
 repeat' (first | with_reducible exact BLe.rfl' _ | with_reducible exact OLe.rfl' _ | with_reducible apply BLe.cond | (with_reducible refine BLe.opt ?_ fun _ => ?_) | (with_reducible refine BLe.sum (fun _ => ?_) fun _ => ?_) | exact findT_le k _ | exact matchT_w0_le k _ | exact orderT_le k _)
noncomputable def matchT_n (k : Nat) : ((Option zA11) × (zA10 × ((List zA2) × zA31))) → Option (Bool × Unit) := fun x => (matchT_B_n k x).run
theorem matchT_le (k : Nat) (x : _) : OLe (matchT_n k x) (matchT x) := matchT_B_le k x
end Go.Proofs.YtiblijkhpmemeaaGreat
