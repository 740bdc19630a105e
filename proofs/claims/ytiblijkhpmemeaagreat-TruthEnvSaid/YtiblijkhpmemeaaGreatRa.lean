/- Contracts of functions. Printed by auto.py. -/
import Derived.Test.YtiblijkhpmemeaaGreatHa
namespace Go.Proofs.YtiblijkhpmemeaaGreat
set_option maxRecDepth 100000
open Go.PI Go
noncomputable def letter_B : (Int × Unit) → Br (Bool × Unit) := fun (p0, ()) =>
 (.cond (decide (p0 ≥ 97))
 (.cond (decide (p0 ≤ 122))
 (.ret (true, ()))
 (.cond (decide (p0 ≥ 65))
 (.cond (decide (p0 ≤ 90))
 (.ret (true, ()))
 (.ret (p0 == 95, ())))
 (.ret (p0 == 95, ()))))
 (.cond (decide (p0 ≥ 65))
 (.cond (decide (p0 ≤ 90))
 (.ret (true, ()))
 (.ret (p0 == 95, ())))
 (.ret (p0 == 95, ()))))
noncomputable def letter : (Int × Unit) → Option (Bool × Unit) := fun x => (letter_B x).run
abbrev letter_ins : List (Bool × Pat) := [(false, .ty false (.int .u8))]
abbrev letter_outs : List Pat := [.ty false .bool]
noncomputable abbrev letter_f : Func := Tryz.f41
noncomputable abbrev letter_P : Program := Tryz.prog
noncomputable def letter_c : Ctx := { cx0 with base := 1024 }
theorem letter_env : EnvFull letter_P letter_c := env_base (en0) 1024
noncomputable def letter_p : Par := { sh := fun _ => none, k := 0, lo := fun _ => none }
theorem letter_eq (p0 : Int) : ocRun letter_c letter_p letter_f letter_ins letter_outs (p0, ()) = letter_B (p0, ()) := by kernel_rfl
theorem letter_oc : OC letter_P 41 letter_ins letter_outs letter := OC.of_tree letter_env Tryz.func41 (by kernel_rfl) (by kernel_rfl) (p := letter_p) (fun g hg => LoOk.of (l := []) (by kernel_rfl) .nil) (fun (p0, ()) => letter_eq p0)
noncomputable def cx_letter : Ctx := addO cx0 41 (ocOrc letter_ins letter_outs letter)
theorem en_letter : EnvFull Tryz.prog cx_letter := env_add (en0) letter_oc.callOk
noncomputable def nameF_l0 : (ByteArray × (Int × (Int × Unit))) → Br ((ByteArray × (Int × (Int × Unit))) ⊕ (Unit ⊕ (ByteArray × Unit))) := fun (a, b, c, ()) =>
 (.cond (decide (c < b))
 (.cond (decide (0 ≤ c) && decide (c < (↑(ByteArray.size a) : Int)))
 (.opt (letter ((↑(UInt8.toNat (List.getD (bl a) (Int.toNat c) 0)) : Int), ())) fun d =>
 (.cond (!d.1)
 (.cond (decide ((↑(UInt8.toNat (List.getD (bl a) (Int.toNat c) 0)) : Int) < 48))
 (.ret (.inr (.inl (()))))
 (.cond (decide ((↑(UInt8.toNat (List.getD (bl a) (Int.toNat c) 0)) : Int) > 57))
 (.ret (.inr (.inl (()))))
 (.ret (.inl (a, b, IntKind.wrap .i64 (c + 1), ())))))
 (.ret (.inl (a, b, IntKind.wrap .i64 (c + 1), ())))))
 (.no))
 (.ret (.inr (.inr (a, ())))))
noncomputable def nameF_w0 : (ByteArray × (Int × (Int × Unit))) → Option (Unit ⊕ (ByteArray × Unit)) := iterO fun x => (nameF_l0 x).run
noncomputable def nameF_l1 : (ByteArray × (Int × (Int × Unit))) → Br ((ByteArray × (Int × (Int × Unit))) ⊕ (Unit ⊕ Unit)) := fun (a, b, c, ()) =>
 (.cond (decide (c < b))
 (.cond (decide (0 ≤ c) && decide (c ≤ IntKind.wrap .i64 (IntKind.wrap .i64 (c + (↑(ByteArray.size a) : Int)) + 2)) && decide (IntKind.wrap .i64 (IntKind.wrap .i64 (c + (↑(ByteArray.size a) : Int)) + 2) ≤ (↑(ByteArray.size { data := #[32, 83, 69, 81, 32, 87, 72, 69, 82, 69, 32, 87, 73, 84, 72, 73, 78, 32, 67, 65, 80, 32, 97, 110, 100, 32, 111, 114, 32, 110, 111, 116, 32, 116, 114, 117, 101, 32, 102, 97, 108, 115, 101, 32] }) : Int)))
 (.cond (decide (ByteArray.size { data := #[32] } + ByteArray.size a ≤ 9223372036854775807))
 (.cond (decide (ByteArray.size (bcat { data := #[32] } a) + ByteArray.size { data := #[32] } ≤ 9223372036854775807))
 (.cond (bl (bsub { data := #[32, 83, 69, 81, 32, 87, 72, 69, 82, 69, 32, 87, 73, 84, 72, 73, 78, 32, 67, 65, 80, 32, 97, 110, 100, 32, 111, 114, 32, 110, 111, 116, 32, 116, 114, 117, 101, 32, 102, 97, 108, 115, 101, 32] } (Int.toNat c) (Int.toNat (IntKind.wrap .i64 (IntKind.wrap .i64 (c + (↑(ByteArray.size a) : Int)) + 2)))) == bl (bcat (bcat { data := #[32] } a) { data := #[32] }))
 (.ret (.inr (.inl (()))))
 (.ret (.inl (a, b, IntKind.wrap .i64 (c + 1), ()))))
 (.no))
 (.no))
 (.no))
 (.ret (.inr (.inr (())))))
noncomputable def nameF_w1 : (ByteArray × (Int × (Int × Unit))) → Option (Unit ⊕ Unit) := iterO fun x => (nameF_l1 x).run
noncomputable def nameF_B : (ByteArray × Unit) → Br (Bool × Unit) := fun (p0, ()) =>
 (.cond (bl p0 == bl { data := #[] })
 (.ret (false, ()))
 (.cond (decide ((↑(ByteArray.size p0) : Int) > 16))
 (.ret (false, ()))
 (.cond (decide (0 ≤ 0) && decide (0 < (↑(ByteArray.size p0) : Int)))
 (.opt (letter ((↑(UInt8.toNat (List.getD (bl p0) (Int.toNat 0) 0)) : Int), ())) fun a =>
 (.cond (!a.1)
 (.ret (false, ()))
 (.opt (nameF_w0 (p0, (↑(ByteArray.size p0) : Int), 0, ())) fun b =>
 (.sum b (fun c =>
 (.ret (false, ()))) (fun d =>
 (.opt (nameF_w1 (d.1, IntKind.wrap .i64 (IntKind.wrap .i64 (44 - (↑(ByteArray.size d.1) : Int)) - 1), 0, ())) fun e =>
 (.sum e (fun f =>
 (.ret (false, ()))) (fun g =>
 (.ret (true, ()))))))))))
 (.no))))
noncomputable def nameF : (ByteArray × Unit) → Option (Bool × Unit) := fun x => (nameF_B x).run
abbrev nameF_ins : List (Bool × Pat) := [(false, .ty false .str)]
abbrev nameF_outs : List Pat := [.ty false .bool]
noncomputable abbrev nameF_f : Func := Tryz.f19
noncomputable abbrev nameF_P : Program := Tryz.prog
abbrev nameF_kp : List Nat := kpOf nameF_ins
abbrev nameF_kf : List Nat := kfOf nameF_ins
noncomputable def nameF_c : Ctx := { cx_letter with base := 1024 }
theorem nameF_env : EnvFull nameF_P nameF_c := env_base (en_letter) 1024
abbrev nameF_H0 : List Hole := [.slot 0 false .str, .slot 20 false (.int .i64), .slot 21 false (.int .i64)]
def nameF_S0 : Skel := ⟨58, [], []⟩
abbrev nameF_H0e0 : List Hole := []
def nameF_S0e0 : Skel := ⟨58, [(2, D.c C.ff)], []⟩
abbrev nameF_H0e1 : List Hole := [.slot 0 false .str]
def nameF_S0e1 : Skel := ⟨58, [], []⟩
def nameF_h0 : Exit → Shape
 | .normal => ⟨[(0, .as false .str), (20, .as false (.int .i64)), (21, .as false (.int .i64))], [], []⟩
 | .ret => ⟨[(2, .keep)], [], []⟩
 | .exit 0 => ⟨[(0, .as false .str)], [], []⟩
 | _ => ⟨[], [], []⟩
def nameF_e0 : (Unit ⊕ (ByteArray × Unit)) → Exit × St
 | (.inl u) => (.ret, nameF_S0e0.fillK nameF_kf nameF_H0e0 u)
 | (.inr u) => (.exit 0, nameF_S0e1.fillK nameF_kf nameF_H0e1 u)
def nameF_t0 : (Unit ⊕ (ByteArray × Unit)) → Br (Exit × St) := fun z => .sum z (fun u => .ret (.ret, nameF_S0e0.fillK nameF_kf nameF_H0e0 u)) (fun u => .ret (.exit 0, nameF_S0e1.fillK nameF_kf nameF_H0e1 u))
noncomputable def nameF_C0 : Code := loopAt 0 (bodyOf nameF_f)
noncomputable def nameF_o0 : St → Br (Exit × St) := loopF nameF_kp nameF_kf 1024 (nameF_h0 .normal) (nameF_S0.parseK nameF_kf nameF_H0) fun x => .opt (nameF_w0 x) nameF_t0
abbrev nameF_H1 : List Hole := [.slot 0 false .str, .slot 42 false (.int .i64), .slot 43 false (.int .i64)]
def nameF_S1 : Skel := ⟨58, [], []⟩
abbrev nameF_H1e0 : List Hole := []
def nameF_S1e0 : Skel := ⟨58, [(2, D.c C.ff)], []⟩
abbrev nameF_H1e1 : List Hole := []
def nameF_S1e1 : Skel := ⟨58, [], []⟩
def nameF_h1 : Exit → Shape
 | .normal => ⟨[(0, .as false .str), (42, .as false (.int .i64)), (43, .as false (.int .i64))], [], []⟩
 | .ret => ⟨[(2, .keep)], [], []⟩
 | .exit 2 => ⟨[], [], []⟩
 | _ => ⟨[], [], []⟩
def nameF_e1 : (Unit ⊕ Unit) → Exit × St
 | (.inl u) => (.ret, nameF_S1e0.fillK nameF_kf nameF_H1e0 u)
 | (.inr u) => (.exit 2, nameF_S1e1.fillK nameF_kf nameF_H1e1 u)
def nameF_t1 : (Unit ⊕ Unit) → Br (Exit × St) := fun z => .sum z (fun u => .ret (.ret, nameF_S1e0.fillK nameF_kf nameF_H1e0 u)) (fun u => .ret (.exit 2, nameF_S1e1.fillK nameF_kf nameF_H1e1 u))
noncomputable def nameF_C1 : Code := loopAt 1 (bodyOf nameF_f)
noncomputable def nameF_o1 : St → Br (Exit × St) := loopF nameF_kp nameF_kf 1024 (nameF_h1 .normal) (nameF_S1.parseK nameF_kf nameF_H1) fun x => .opt (nameF_w1 x) nameF_t1
noncomputable def nameF_p : Par := { sh := fun _ => none, k := 0, lo := fun i => bif Nat.beq i 4 then some nameF_o0 else bif Nat.beq i 11 then some nameF_o1 else none }
theorem nameF_r0 (a : ByteArray) (b : Int) (c : Int) : roundF nameF_kp nameF_kf nameF_c nameF_p nameF_h0 nameF_C0 (nameF_S0.fillK nameF_kf nameF_H0 (a, b, c, ())) = (nameF_l0 (a, b, c, ())).bind (loopLeaf (fun x => nameF_S0.fillK nameF_kf nameF_H0 x) nameF_e0) := by kernel_rfl
theorem nameF_ok0 (g : Cfg) (hg : ∀ n, Go.PI.look n g.m0 ≠ Option.none → n ∈ nameF_kp) : LoopOk nameF_P g nameF_o0 nameF_C0 := LoopOk.auto nameF_env hg nameF_p (LoOk.of (l := []) (by kernel_rfl) .nil) nameF_h0 (fun x => nameF_S0.fillK nameF_kf nameF_H0 x) (fun s x h => Skel.parseK_ok s x h) nameF_l0 nameF_e0 (fun z h => by rcases z with z | z <;> cases h) nameF_t0 (fun z => by rcases z with z | z <;> rfl) (fun (a, b, c, ()) => nameF_r0 a b c)
theorem nameF_r1 (a : ByteArray) (b : Int) (c : Int) : roundF nameF_kp nameF_kf nameF_c nameF_p nameF_h1 nameF_C1 (nameF_S1.fillK nameF_kf nameF_H1 (a, b, c, ())) = (nameF_l1 (a, b, c, ())).bind (loopLeaf (fun x => nameF_S1.fillK nameF_kf nameF_H1 x) nameF_e1) := by kernel_rfl
theorem nameF_ok1 (g : Cfg) (hg : ∀ n, Go.PI.look n g.m0 ≠ Option.none → n ∈ nameF_kp) : LoopOk nameF_P g nameF_o1 nameF_C1 := LoopOk.auto nameF_env hg nameF_p (LoOk.of (l := []) (by kernel_rfl) .nil) nameF_h1 (fun x => nameF_S1.fillK nameF_kf nameF_H1 x) (fun s x h => Skel.parseK_ok s x h) nameF_l1 nameF_e1 (fun z h => by rcases z with z | z <;> cases h) nameF_t1 (fun z => by rcases z with z | z <;> rfl) (fun (a, b, c, ()) => nameF_r1 a b c)
theorem nameF_eq (p0 : ByteArray) : ocRun nameF_c nameF_p nameF_f nameF_ins nameF_outs (p0, ()) = nameF_B (p0, ()) := by kernel_rfl
theorem nameF_oc : OC nameF_P 19 nameF_ins nameF_outs nameF := OC.of_tree nameF_env Tryz.func19 (by kernel_rfl) (by kernel_rfl) (p := nameF_p) (fun g hg => LoOk.of (l := [nameF_C0, nameF_C1]) (by kernel_rfl) (.cons (nameF_ok0 g hg) (by kernel_rfl) (.cons (nameF_ok1 g hg) (by kernel_rfl) .nil))) (fun (p0, ()) => nameF_eq p0)
noncomputable def cx_nameF : Ctx := addO cx_letter 19 (ocOrc nameF_ins nameF_outs nameF)
theorem en_nameF : EnvFull Tryz.prog cx_nameF := env_add (en_letter) nameF_oc.callOk
noncomputable def fieldEq_B : ((ByteArray × Int) × ((ByteArray × Int) × Unit)) → Br (Bool × Unit) := fun (p0, p1, ()) =>
 (.ret (bl p0.1 == bl (List.getD [p1] 0 (ByteArray.empty, 0)).1, ()))
noncomputable def fieldEq : ((ByteArray × Int) × ((ByteArray × Int) × Unit)) → Option (Bool × Unit) := fun x => (fieldEq_B x).run
abbrev fieldEq_ins : List (Bool × Pat) := [(false, .ty false (.st (.pair .str (.int .i64)))), (false, .rf (.st (.pair .str (.int .i64))))]
abbrev fieldEq_outs : List Pat := [.ty false .bool]
noncomputable abbrev fieldEq_f : Func := Tryz.f43
noncomputable abbrev fieldEq_P : Program := Tryz.prog
noncomputable def fieldEq_c : Ctx := { cx_nameF with base := 1024 }
theorem fieldEq_env : EnvFull fieldEq_P fieldEq_c := env_base (en_nameF) 1024
noncomputable def fieldEq_p : Par := { sh := fun _ => none, k := 0, lo := fun _ => none }
theorem fieldEq_eq (p0 : (ByteArray × Int)) (p1 : (ByteArray × Int)) : ocRun fieldEq_c fieldEq_p fieldEq_f fieldEq_ins fieldEq_outs (p0, p1, ()) = fieldEq_B (p0, p1, ()) := by kernel_rfl
theorem fieldEq_oc : OC fieldEq_P 43 fieldEq_ins fieldEq_outs fieldEq := OC.of_tree fieldEq_env Tryz.func43 (by kernel_rfl) (by kernel_rfl) (p := fieldEq_p) (fun g hg => LoOk.of (l := []) (by kernel_rfl) .nil) (fun (p0, p1, ()) => fieldEq_eq p0 p1)
noncomputable def cx_fieldEq : Ctx := addO cx_nameF 43 (ocOrc fieldEq_ins fieldEq_outs fieldEq)
theorem en_fieldEq : EnvFull Tryz.prog cx_fieldEq := env_add (en_nameF) fieldEq_oc.callOk
noncomputable def idxField_l0 : (zA25 × (((ByteArray × Int) × Unit) × (Int × (Int × Unit)))) → Br ((zA25 × (((ByteArray × Int) × Unit) × (Int × (Int × Unit)))) ⊕ ((Int × Unit) ⊕ Unit)) := fun (a, b, c, d, ()) =>
 (.cond (decide (d < c))
 (.cond (decide (0 ≤ d) && decide (d < (↑(List.length a) : Int)))
 (.opt (fieldEq (List.getD a (Int.toNat d) (ByteArray.empty, 0), b.1, ())) fun e =>
 (.cond e.1
 (.ret (.inr (.inl (d, ()))))
 (.ret (.inl (a, (b.1, ()), c, IntKind.wrap .i64 (d + 1), ())))))
 (.no))
 (.ret (.inr (.inr (())))))
noncomputable def idxField_w0 : (zA25 × (((ByteArray × Int) × Unit) × (Int × (Int × Unit)))) → Option ((Int × Unit) ⊕ Unit) := iterO fun x => (idxField_l0 x).run
noncomputable def idxField_B : (zA25 × ((ByteArray × Int) × Unit)) → Br (Int × Unit) := fun (p0, p1, ()) =>
 (.opt (idxField_w0 (p0, (p1, ()), (↑(List.length p0) : Int), 0, ())) fun a =>
 (.sum a (fun b =>
 (.ret (b.1, ()))) (fun c =>
 (.ret (-1, ())))))
noncomputable def idxField : (zA25 × ((ByteArray × Int) × Unit)) → Option (Int × Unit) := fun x => (idxField_B x).run
abbrev idxField_ins : List (Bool × Pat) := [(false, .ty true zA27), (false, .fn 43 (.rf (.st (.pair .str (.int .i64)))))]
abbrev idxField_outs : List Pat := [.ty false (.int .i64)]
noncomputable abbrev idxField_f : Func := Tryz.f73
noncomputable abbrev idxField_P : Program := Tryz.prog
abbrev idxField_kp : List Nat := kpOf idxField_ins
abbrev idxField_kf : List Nat := kfOf idxField_ins
noncomputable def idxField_c : Ctx := { cx_fieldEq with base := 1024 }
theorem idxField_env : EnvFull idxField_P idxField_c := env_base (en_fieldEq) 1024
abbrev idxField_H0 : List Hole := [.slot 0 true zA27, .cap 1 43 [(.st (.pair .str (.int .i64)))], .slot 7 false (.int .i64), .slot 8 false (.int .i64)]
def idxField_S0 : Skel := ⟨19, [], []⟩
abbrev idxField_H0e0 : List Hole := [.slot 4 false (.int .i64)]
def idxField_S0e0 : Skel := ⟨19, [], []⟩
abbrev idxField_H0e1 : List Hole := []
def idxField_S0e1 : Skel := ⟨19, [], []⟩
def idxField_h0 : Exit → Shape
 | .normal => ⟨[(0, .as true zA27), (1, .keep), (7, .as false (.int .i64)), (8, .as false (.int .i64))], [], []⟩
 | .ret => ⟨[(4, .as false (.int .i64))], [], []⟩
 | .exit 0 => ⟨[], [], []⟩
 | _ => ⟨[], [], []⟩
def idxField_e0 : ((Int × Unit) ⊕ Unit) → Exit × St
 | (.inl u) => (.ret, idxField_S0e0.fillK idxField_kf idxField_H0e0 u)
 | (.inr u) => (.exit 0, idxField_S0e1.fillK idxField_kf idxField_H0e1 u)
def idxField_t0 : ((Int × Unit) ⊕ Unit) → Br (Exit × St) := fun z => .sum z (fun u => .ret (.ret, idxField_S0e0.fillK idxField_kf idxField_H0e0 u)) (fun u => .ret (.exit 0, idxField_S0e1.fillK idxField_kf idxField_H0e1 u))
noncomputable def idxField_C0 : Code := loopAt 0 (bodyOf idxField_f)
noncomputable def idxField_o0 : St → Br (Exit × St) := loopF idxField_kp idxField_kf 1024 (idxField_h0 .normal) (idxField_S0.parseK idxField_kf idxField_H0) fun x => .opt (idxField_w0 x) idxField_t0
noncomputable def idxField_p : Par := { sh := fun _ => none, k := 0, lo := fun i => bif Nat.beq i 2 then some idxField_o0 else none }
theorem idxField_r0 (a : zA25) (b : ((ByteArray × Int) × Unit)) (c : Int) (d : Int) : roundF idxField_kp idxField_kf idxField_c idxField_p idxField_h0 idxField_C0 (idxField_S0.fillK idxField_kf idxField_H0 (a, b, c, d, ())) = (idxField_l0 (a, b, c, d, ())).bind (loopLeaf (fun x => idxField_S0.fillK idxField_kf idxField_H0 x) idxField_e0) := by kernel_rfl
theorem idxField_ok0 (g : Cfg) (hg : ∀ n, Go.PI.look n g.m0 ≠ Option.none → n ∈ idxField_kp) : LoopOk idxField_P g idxField_o0 idxField_C0 := LoopOk.auto idxField_env hg idxField_p (LoOk.of (l := []) (by kernel_rfl) .nil) idxField_h0 (fun x => idxField_S0.fillK idxField_kf idxField_H0 x) (fun s x h => Skel.parseK_ok s x h) idxField_l0 idxField_e0 (fun z h => by rcases z with z | z <;> cases h) idxField_t0 (fun z => by rcases z with z | z <;> rfl) (fun (a, b, c, d, ()) => idxField_r0 a b c d)
theorem idxField_eq (p0 : zA25) (p1 : (ByteArray × Int)) : ocRun idxField_c idxField_p idxField_f idxField_ins idxField_outs (p0, p1, ()) = idxField_B (p0, p1, ()) := by kernel_rfl
theorem idxField_oc : OC idxField_P 73 idxField_ins idxField_outs idxField := OC.of_tree idxField_env Tryz.func73 (by kernel_rfl) (by kernel_rfl) (p := idxField_p) (fun g hg => LoOk.of (l := [idxField_C0]) (by kernel_rfl) (.cons (idxField_ok0 g hg) (by kernel_rfl) .nil)) (fun (p0, p1, ()) => idxField_eq p0 p1)
noncomputable def cx_idxField : Ctx := addO cx_fieldEq 73 (ocOrc idxField_ins idxField_outs idxField)
theorem en_idxField : EnvFull Tryz.prog cx_idxField := env_add (en_fieldEq) idxField_oc.callOk
noncomputable def hasField_B : (zA25 × ((ByteArray × Int) × Unit)) → Br (Bool × Unit) := fun (p0, p1, ()) =>
 (.opt (idxField (p0, p1, ())) fun y3 =>
 (.ret (decide (y3.1 ≥ 0), ())))
noncomputable def hasField : (zA25 × ((ByteArray × Int) × Unit)) → Option (Bool × Unit) := fun x => (hasField_B x).run
abbrev hasField_ins : List (Bool × Pat) := [(false, .ty true zA27), (false, .fn 43 (.rf (.st (.pair .str (.int .i64)))))]
abbrev hasField_outs : List Pat := [.ty false .bool]
noncomputable abbrev hasField_f : Func := Tryz.f42
noncomputable abbrev hasField_P : Program := Tryz.prog
noncomputable def hasField_c : Ctx := { cx_idxField with base := 1024 }
theorem hasField_env : EnvFull hasField_P hasField_c := env_base (en_idxField) 1024
noncomputable def hasField_p : Par := { sh := fun _ => none, k := 0, lo := fun _ => none }
theorem hasField_eq (p0 : zA25) (p1 : (ByteArray × Int)) : ocRun hasField_c hasField_p hasField_f hasField_ins hasField_outs (p0, p1, ()) = hasField_B (p0, p1, ()) := by kernel_rfl
theorem hasField_oc : OC hasField_P 42 hasField_ins hasField_outs hasField := OC.of_tree hasField_env Tryz.func42 (by kernel_rfl) (by kernel_rfl) (p := hasField_p) (fun g hg => LoOk.of (l := []) (by kernel_rfl) .nil) (fun (p0, p1, ()) => hasField_eq p0 p1)
noncomputable def cx_hasField : Ctx := addO cx_idxField 42 (ocOrc hasField_ins hasField_outs hasField)
theorem en_hasField : EnvFull Tryz.prog cx_hasField := env_add (en_idxField) hasField_oc.callOk
noncomputable def fieldsF_l0 : (zA25 × (zA25 × (Int × (Int × Unit)))) → Br ((zA25 × (zA25 × (Int × (Int × Unit)))) ⊕ (Unit ⊕ Unit)) := fun (a, b, c, d, ()) =>
 (.cond (decide (d < c))
 (.cond (decide (0 ≤ d) && decide (d < (↑(List.length b) : Int)))
 (.opt (nameF ((List.getD b (Int.toNat d) (ByteArray.empty, 0)).1, ())) fun e =>
 (.cond (!e.1)
 (.ret (.inr (.inl (()))))
 (.cond (decide ((List.getD b (Int.toNat d) (ByteArray.empty, 0)).2 < 1))
 (.ret (.inr (.inl (()))))
 (.cond (decide ((List.getD b (Int.toNat d) (ByteArray.empty, 0)).2 > 3))
 (.ret (.inr (.inl (()))))
 (.cond (decide (0 ≤ 0) && decide (0 ≤ d) && decide (d ≤ (↑(List.length a) : Int)))
 (.opt (hasField (List.drop (Int.toNat 0) (List.take (Int.toNat d) a), List.getD b (Int.toNat d) (ByteArray.empty, 0), ())) fun f =>
 (.cond f.1
 (.ret (.inr (.inl (()))))
 (.ret (.inl (a, b, c, IntKind.wrap .i64 (d + 1), ())))))
 (.no))))))
 (.no))
 (.ret (.inr (.inr (())))))
noncomputable def fieldsF_w0 : (zA25 × (zA25 × (Int × (Int × Unit)))) → Option (Unit ⊕ Unit) := iterO fun x => (fieldsF_l0 x).run
noncomputable def fieldsF_B : (zA25 × Unit) → Br (Bool × Unit) := fun (p0, ()) =>
 (.cond (decide ((↑(List.length p0) : Int) > 8))
 (.ret (false, ()))
 (.opt (fieldsF_w0 (p0, p0, (↑(List.length p0) : Int), 0, ())) fun a =>
 (.sum a (fun b =>
 (.ret (false, ()))) (fun c =>
 (.ret (true, ()))))))
noncomputable def fieldsF : (zA25 × Unit) → Option (Bool × Unit) := fun x => (fieldsF_B x).run
abbrev fieldsF_ins : List (Bool × Pat) := [(false, .ty true zA27)]
abbrev fieldsF_outs : List Pat := [.ty false .bool]
noncomputable abbrev fieldsF_f : Func := Tryz.f20
noncomputable abbrev fieldsF_P : Program := Tryz.prog
abbrev fieldsF_kp : List Nat := kpOf fieldsF_ins
abbrev fieldsF_kf : List Nat := kfOf fieldsF_ins
noncomputable def fieldsF_c : Ctx := { cx_hasField with base := 1024 }
theorem fieldsF_env : EnvFull fieldsF_P fieldsF_c := env_base (en_hasField) 1024
abbrev fieldsF_H0 : List Hole := [.slot 0 true zA27, .slot 8 true zA27, .slot 9 false (.int .i64), .slot 10 false (.int .i64)]
def fieldsF_S0 : Skel := ⟨35, [], []⟩
abbrev fieldsF_H0e0 : List Hole := []
def fieldsF_S0e0 : Skel := ⟨35, [(2, D.c C.ff)], []⟩
abbrev fieldsF_H0e1 : List Hole := []
def fieldsF_S0e1 : Skel := ⟨35, [], []⟩
def fieldsF_h0 : Exit → Shape
 | .normal => ⟨[(0, .as true zA27), (8, .as true zA27), (9, .as false (.int .i64)), (10, .as false (.int .i64))], [], []⟩
 | .ret => ⟨[(2, .keep)], [], []⟩
 | .exit 0 => ⟨[], [], []⟩
 | _ => ⟨[], [], []⟩
def fieldsF_e0 : (Unit ⊕ Unit) → Exit × St
 | (.inl u) => (.ret, fieldsF_S0e0.fillK fieldsF_kf fieldsF_H0e0 u)
 | (.inr u) => (.exit 0, fieldsF_S0e1.fillK fieldsF_kf fieldsF_H0e1 u)
def fieldsF_t0 : (Unit ⊕ Unit) → Br (Exit × St) := fun z => .sum z (fun u => .ret (.ret, fieldsF_S0e0.fillK fieldsF_kf fieldsF_H0e0 u)) (fun u => .ret (.exit 0, fieldsF_S0e1.fillK fieldsF_kf fieldsF_H0e1 u))
noncomputable def fieldsF_C0 : Code := loopAt 0 (bodyOf fieldsF_f)
noncomputable def fieldsF_o0 : St → Br (Exit × St) := loopF fieldsF_kp fieldsF_kf 1024 (fieldsF_h0 .normal) (fieldsF_S0.parseK fieldsF_kf fieldsF_H0) fun x => .opt (fieldsF_w0 x) fieldsF_t0
noncomputable def fieldsF_p : Par := { sh := fun _ => none, k := 0, lo := fun i => bif Nat.beq i 4 then some fieldsF_o0 else none }
theorem fieldsF_r0 (a : zA25) (b : zA25) (c : Int) (d : Int) : roundF fieldsF_kp fieldsF_kf fieldsF_c fieldsF_p fieldsF_h0 fieldsF_C0 (fieldsF_S0.fillK fieldsF_kf fieldsF_H0 (a, b, c, d, ())) = (fieldsF_l0 (a, b, c, d, ())).bind (loopLeaf (fun x => fieldsF_S0.fillK fieldsF_kf fieldsF_H0 x) fieldsF_e0) := by kernel_rfl
theorem fieldsF_ok0 (g : Cfg) (hg : ∀ n, Go.PI.look n g.m0 ≠ Option.none → n ∈ fieldsF_kp) : LoopOk fieldsF_P g fieldsF_o0 fieldsF_C0 := LoopOk.auto fieldsF_env hg fieldsF_p (LoOk.of (l := []) (by kernel_rfl) .nil) fieldsF_h0 (fun x => fieldsF_S0.fillK fieldsF_kf fieldsF_H0 x) (fun s x h => Skel.parseK_ok s x h) fieldsF_l0 fieldsF_e0 (fun z h => by rcases z with z | z <;> cases h) fieldsF_t0 (fun z => by rcases z with z | z <;> rfl) (fun (a, b, c, d, ()) => fieldsF_r0 a b c d)
theorem fieldsF_eq (p0 : zA25) : ocRun fieldsF_c fieldsF_p fieldsF_f fieldsF_ins fieldsF_outs (p0, ()) = fieldsF_B (p0, ()) := by kernel_rfl
theorem fieldsF_oc : OC fieldsF_P 20 fieldsF_ins fieldsF_outs fieldsF := OC.of_tree fieldsF_env Tryz.func20 (by kernel_rfl) (by kernel_rfl) (p := fieldsF_p) (fun g hg => LoOk.of (l := [fieldsF_C0]) (by kernel_rfl) (.cons (fieldsF_ok0 g hg) (by kernel_rfl) .nil)) (fun (p0, ()) => fieldsF_eq p0)
noncomputable def cx_fieldsF : Ctx := addO cx_hasField 20 (ocOrc fieldsF_ins fieldsF_outs fieldsF)
theorem en_fieldsF : EnvFull Tryz.prog cx_fieldsF := env_add (en_hasField) fieldsF_oc.callOk
noncomputable def cloneField : (zA25 × Unit) → Option (zA25 × Unit) := fun x => bif bound (0 + List.length x.1) 24 then some (x.1, ()) else none
theorem cloneField_oc : OC Tryz.prog 22 [(false, .ty true zA27)] [.ty false zA27] cloneField := OC.clone (k := false) (clone_specB (t := 63) (e := 72) (by_ := 24) (b2 := 24) (en_fieldsF) Tryz.func22 (by kernel_rfl) (by kernel_rfl) (by kernel_rfl) (by kernel_rfl) (by kernel_rfl) true rfl fun l => ⟨.c .bad, [1031, 1029, 1029], by kernel_rfl⟩)
noncomputable def cx_cloneField : Ctx := addO cx_fieldsF 22 (ocOrc [(false, .ty true zA27)] [.ty false zA27] cloneField)
theorem en_cloneField : EnvFull Tryz.prog cx_cloneField := env_add (en_fieldsF) cloneField_oc.callOk
noncomputable def findF_l0 : (ByteArray × (zA11 × (Int × (Int × (ByteArray × Unit))))) → Br ((ByteArray × (zA11 × (Int × (Int × (ByteArray × Unit))))) ⊕ (((ByteArray × zA25) × Unit) ⊕ (ByteArray × Unit))) := fun (a, b, c, d, e, ()) =>
 (.cond (decide (d < c))
 (.cond (decide (0 ≤ d) && decide (d < (↑(List.length b) : Int)))
 (.cond (bl (List.getD b (Int.toNat d) (ByteArray.empty, [])).1 == bl a)
 (.opt (cloneField ((List.getD b (Int.toNat d) (ByteArray.empty, [])).2, ())) fun f =>
 (.ret (.inr (.inl (((List.getD b (Int.toNat d) (ByteArray.empty, [])).1, f.1), ())))))
 (.ret (.inl (a, b, c, IntKind.wrap .i64 (d + 1), e, ()))))
 (.no))
 (.ret (.inr (.inr (e, ())))))
noncomputable def findF_w0 : (ByteArray × (zA11 × (Int × (Int × (ByteArray × Unit))))) → Option (((ByteArray × zA25) × Unit) ⊕ (ByteArray × Unit)) := iterO fun x => (findF_l0 x).run
noncomputable def findF_B : ((Option zA11) × (ByteArray × Unit)) → Br (((ByteArray × zA25) × Bool) × Unit) := fun (p0, p1, ()) =>
 (.cond (Option.isNone p0)
 (.ret (((ByteArray.empty, []), false), ()))
 (.cond (Option.isSome p0)
 (.opt (findF_w0 (p1, List.getD [Option.rec [] (fun (val : Ty.T zA18) => val) p0] 0 [], (↑(List.length (List.getD [Option.rec [] (fun (val : Ty.T zA18) => val) p0] 0 [])) : Int), 0, ByteArray.empty, ())) fun a =>
 (.sum a (fun b =>
 (.ret ((b.1, true), ()))) (fun c =>
 (.ret (((ByteArray.empty, []), false), ())))))
 (.no)))
noncomputable def findF : ((Option zA11) × (ByteArray × Unit)) → Option (((ByteArray × zA25) × Bool) × Unit) := fun x => (findF_B x).run
abbrev findF_ins : List (Bool × Pat) := [(false, .ty true zA17), (false, .ty false .str)]
abbrev findF_outs : List Pat := [.ty false (.st (.pair .str zA27)), .ty false .bool]
noncomputable abbrev findF_f : Func := Tryz.f21
noncomputable abbrev findF_P : Program := Tryz.prog
abbrev findF_kp : List Nat := kpOf findF_ins
abbrev findF_kf : List Nat := kfOf findF_ins
noncomputable def findF_c : Ctx := { cx_cloneField with base := 1024 }
theorem findF_env : EnvFull findF_P findF_c := env_base (en_cloneField) 1024
abbrev findF_H0 : List Hole := [.slot 1 false .str, .slot 14 true (.sl (.st (.pair .str zA27))), .slot 15 false (.int .i64), .slot 16 false (.int .i64), .cell 1028 0 false .str]
def findF_S0 : Skel := ⟨32, [(4, D.c (C.ref 1028 0 0))], [(1028, [.bad, C.nils])]⟩
abbrev findF_H0e0 : List Hole := [.tv 1028 false (.st (.pair .str zA27))]
def findF_S0e0 : Skel := ⟨32, [(4, D.c (C.ref 1028 0 0)), (5, D.c C.tt)], [(1028, [])]⟩
abbrev findF_H0e1 : List Hole := [.cell 1028 0 false .str]
def findF_S0e1 : Skel := ⟨32, [(4, D.c (C.ref 1028 0 0))], [(1028, [.bad, C.nils])]⟩
def findF_h0 : Exit → Shape
 | .normal => ⟨[(1, .as false .str), (4, .keep), (14, .as true (.sl (.st (.pair .str zA27)))), (15, .as false (.int .i64)), (16, .as false (.int .i64))], [(4, 0, .as false .str)], [(4, false)]⟩
 | .ret => ⟨[(4, .keep), (5, .keep)], [], [(4, false)]⟩
 | .exit 0 => ⟨[(4, .keep)], [(4, 0, .as false .str)], [(4, false)]⟩
 | _ => ⟨[], [], []⟩
def findF_e0 : (((ByteArray × zA25) × Unit) ⊕ (ByteArray × Unit)) → Exit × St
 | (.inl u) => (.ret, findF_S0e0.fillK findF_kf findF_H0e0 u)
 | (.inr u) => (.exit 0, findF_S0e1.fillK findF_kf findF_H0e1 u)
def findF_t0 : (((ByteArray × zA25) × Unit) ⊕ (ByteArray × Unit)) → Br (Exit × St) := fun z => .sum z (fun u => .ret (.ret, findF_S0e0.fillK findF_kf findF_H0e0 u)) (fun u => .ret (.exit 0, findF_S0e1.fillK findF_kf findF_H0e1 u))
noncomputable def findF_C0 : Code := loopAt 0 (bodyOf findF_f)
noncomputable def findF_o0 : St → Br (Exit × St) := loopF findF_kp findF_kf 1024 (findF_h0 .normal) (findF_S0.parseK findF_kf findF_H0) fun x => .opt (findF_w0 x) findF_t0
noncomputable def findF_p : Par := { sh := fun _ => none, k := 0, lo := fun i => bif Nat.beq i 4 then some findF_o0 else none }
theorem findF_r0 (a : ByteArray) (b : zA11) (c : Int) (d : Int) (e : ByteArray) : roundF findF_kp findF_kf findF_c findF_p findF_h0 findF_C0 (findF_S0.fillK findF_kf findF_H0 (a, b, c, d, e, ())) = (findF_l0 (a, b, c, d, e, ())).bind (loopLeaf (fun x => findF_S0.fillK findF_kf findF_H0 x) findF_e0) := by kernel_rfl
theorem findF_ok0 (g : Cfg) (hg : ∀ n, Go.PI.look n g.m0 ≠ Option.none → n ∈ findF_kp) : LoopOk findF_P g findF_o0 findF_C0 := LoopOk.auto findF_env hg findF_p (LoOk.of (l := []) (by kernel_rfl) .nil) findF_h0 (fun x => findF_S0.fillK findF_kf findF_H0 x) (fun s x h => Skel.parseK_ok s x h) findF_l0 findF_e0 (fun z h => by rcases z with z | z <;> cases h) findF_t0 (fun z => by rcases z with z | z <;> rfl) (fun (a, b, c, d, e, ()) => findF_r0 a b c d e)
theorem findF_eq (p0 : (Option zA11)) (p1 : ByteArray) : ocRun findF_c findF_p findF_f findF_ins findF_outs (p0, p1, ()) = findF_B (p0, p1, ()) := by kernel_rfl
theorem findF_oc : OC findF_P 21 findF_ins findF_outs findF := OC.of_tree findF_env Tryz.func21 (by kernel_rfl) (by kernel_rfl) (p := findF_p) (fun g hg => LoOk.of (l := [findF_C0]) (by kernel_rfl) (.cons (findF_ok0 g hg) (by kernel_rfl) .nil)) (fun (p0, p1, ()) => findF_eq p0 p1)
noncomputable def cx_findF : Ctx := addO cx_cloneField 21 (ocOrc findF_ins findF_outs findF)
theorem en_findF : EnvFull Tryz.prog cx_findF := env_add (en_cloneField) findF_oc.callOk
noncomputable def fieldF_l0 : (ByteArray × (zA25 × (Int × (Int × Unit)))) → Br ((ByteArray × (zA25 × (Int × (Int × Unit)))) ⊕ ((Int × (Int × Unit)) ⊕ Unit)) := fun (a, b, c, d, ()) =>
 (.cond (decide (d < c))
 (.cond (decide (0 ≤ d) && decide (d < (↑(List.length b) : Int)))
 (.cond (bl (List.getD b (Int.toNat d) (ByteArray.empty, 0)).1 == bl a)
 (.ret (.inr (.inl (d, (List.getD b (Int.toNat d) (ByteArray.empty, 0)).2, ()))))
 (.ret (.inl (a, b, c, IntKind.wrap .i64 (d + 1), ()))))
 (.no))
 (.ret (.inr (.inr (())))))
noncomputable def fieldF_w0 : (ByteArray × (zA25 × (Int × (Int × Unit)))) → Option ((Int × (Int × Unit)) ⊕ Unit) := iterO fun x => (fieldF_l0 x).run
noncomputable def fieldF_B : ((Option zA11) × (ByteArray × (ByteArray × Unit))) → Br ((Int × Int) × Unit) := fun (p0, p1, p2, ()) =>
 (.opt (findF (p0, p1, ())) fun a =>
 (.opt (fieldF_w0 (p2, a.1.1.2, (↑(List.length a.1.1.2) : Int), 0, ())) fun b =>
 (.sum b (fun c =>
 (.ret ((c.1, c.2.1), ()))) (fun d =>
 (.ret ((-1, 0), ()))))))
noncomputable def fieldF : ((Option zA11) × (ByteArray × (ByteArray × Unit))) → Option ((Int × Int) × Unit) := fun x => (fieldF_B x).run
abbrev fieldF_ins : List (Bool × Pat) := [(false, .ty true zA17), (false, .ty false .str), (false, .ty false .str)]
abbrev fieldF_outs : List Pat := [.ty false (.int .i64), .ty false (.int .i64)]
noncomputable abbrev fieldF_f : Func := Tryz.f117
noncomputable abbrev fieldF_P : Program := Tryz.prog
abbrev fieldF_kp : List Nat := kpOf fieldF_ins
abbrev fieldF_kf : List Nat := kfOf fieldF_ins
noncomputable def fieldF_c : Ctx := { cx_findF with base := 1024 }
theorem fieldF_env : EnvFull fieldF_P fieldF_c := env_base (en_findF) 1024
abbrev fieldF_H0 : List Hole := [.slot 2 false .str, .slot 19 false zA27, .slot 20 false (.int .i64), .slot 21 false (.int .i64)]
def fieldF_S0 : Skel := ⟨34, [], []⟩
abbrev fieldF_H0e0 : List Hole := [.slot 6 false (.int .i64), .slot 7 false (.int .i64)]
def fieldF_S0e0 : Skel := ⟨34, [], []⟩
abbrev fieldF_H0e1 : List Hole := []
def fieldF_S0e1 : Skel := ⟨34, [], []⟩
def fieldF_h0 : Exit → Shape
 | .normal => ⟨[(2, .as false .str), (19, .as false zA27), (20, .as false (.int .i64)), (21, .as false (.int .i64))], [], []⟩
 | .ret => ⟨[(6, .as false (.int .i64)), (7, .as false (.int .i64))], [], []⟩
 | .exit 0 => ⟨[], [], []⟩
 | _ => ⟨[], [], []⟩
def fieldF_e0 : ((Int × (Int × Unit)) ⊕ Unit) → Exit × St
 | (.inl u) => (.ret, fieldF_S0e0.fillK fieldF_kf fieldF_H0e0 u)
 | (.inr u) => (.exit 0, fieldF_S0e1.fillK fieldF_kf fieldF_H0e1 u)
def fieldF_t0 : ((Int × (Int × Unit)) ⊕ Unit) → Br (Exit × St) := fun z => .sum z (fun u => .ret (.ret, fieldF_S0e0.fillK fieldF_kf fieldF_H0e0 u)) (fun u => .ret (.exit 0, fieldF_S0e1.fillK fieldF_kf fieldF_H0e1 u))
noncomputable def fieldF_C0 : Code := loopAt 0 (bodyOf fieldF_f)
noncomputable def fieldF_o0 : St → Br (Exit × St) := loopF fieldF_kp fieldF_kf 1024 (fieldF_h0 .normal) (fieldF_S0.parseK fieldF_kf fieldF_H0) fun x => .opt (fieldF_w0 x) fieldF_t0
noncomputable def fieldF_p : Par := { sh := fun _ => none, k := 0, lo := fun i => bif Nat.beq i 3 then some fieldF_o0 else none }
theorem fieldF_r0 (a : ByteArray) (b : zA25) (c : Int) (d : Int) : roundF fieldF_kp fieldF_kf fieldF_c fieldF_p fieldF_h0 fieldF_C0 (fieldF_S0.fillK fieldF_kf fieldF_H0 (a, b, c, d, ())) = (fieldF_l0 (a, b, c, d, ())).bind (loopLeaf (fun x => fieldF_S0.fillK fieldF_kf fieldF_H0 x) fieldF_e0) := by kernel_rfl
theorem fieldF_ok0 (g : Cfg) (hg : ∀ n, Go.PI.look n g.m0 ≠ Option.none → n ∈ fieldF_kp) : LoopOk fieldF_P g fieldF_o0 fieldF_C0 := LoopOk.auto fieldF_env hg fieldF_p (LoOk.of (l := []) (by kernel_rfl) .nil) fieldF_h0 (fun x => fieldF_S0.fillK fieldF_kf fieldF_H0 x) (fun s x h => Skel.parseK_ok s x h) fieldF_l0 fieldF_e0 (fun z h => by rcases z with z | z <;> cases h) fieldF_t0 (fun z => by rcases z with z | z <;> rfl) (fun (a, b, c, d, ()) => fieldF_r0 a b c d)
theorem fieldF_eq (p0 : (Option zA11)) (p1 : ByteArray) (p2 : ByteArray) : ocRun fieldF_c fieldF_p fieldF_f fieldF_ins fieldF_outs (p0, p1, p2, ()) = fieldF_B (p0, p1, p2, ()) := by kernel_rfl
theorem fieldF_oc : OC fieldF_P 117 fieldF_ins fieldF_outs fieldF := OC.of_tree fieldF_env Tryz.func117 (by kernel_rfl) (by kernel_rfl) (p := fieldF_p) (fun g hg => LoOk.of (l := [fieldF_C0]) (by kernel_rfl) (.cons (fieldF_ok0 g hg) (by kernel_rfl) .nil)) (fun (p0, p1, p2, ()) => fieldF_eq p0 p1 p2)
noncomputable def cx_fieldF : Ctx := addO cx_findF 117 (ocOrc fieldF_ins fieldF_outs fieldF)
theorem en_fieldF : EnvFull Tryz.prog cx_fieldF := env_add (en_findF) fieldF_oc.callOk
noncomputable def getF_B : ((Option zA11) × (zA2 × (ByteArray × Unit))) → Br ((zA8 × Bool) × Unit) := fun (p0, p1, p2, ()) =>
 (.opt (fieldF (p0, p1.1, p2, ())) fun y4 =>
 (.cond (decide (y4.1.1 < 0))
 (.ret ((zV0, false), ()))
 (.cond (decide (y4.1.1 ≥ (↑(List.length p1.2.2.2.2) : Int)))
 (.ret ((zV0, false), ()))
 (.cond (decide (0 ≤ y4.1.1) && decide (y4.1.1 < (↑(List.length p1.2.2.2.2) : Int)))
 (.ret ((List.getD p1.2.2.2.2 (Int.toNat y4.1.1) zV0, true), ()))
 (.no)))))
noncomputable def getF : ((Option zA11) × (zA2 × (ByteArray × Unit))) → Option ((zA8 × Bool) × Unit) := fun x => (getF_B x).run
abbrev getF_ins : List (Bool × Pat) := [(false, .ty true zA17), (false, .ty true zA9), (false, .ty false .str)]
abbrev getF_outs : List Pat := [.ty false zA4, .ty false .bool]
noncomputable abbrev getF_f : Func := Tryz.f107
noncomputable abbrev getF_P : Program := Tryz.prog
noncomputable def getF_c : Ctx := { cx_fieldF with base := 1024 }
theorem getF_env : EnvFull getF_P getF_c := env_base (en_fieldF) 1024
noncomputable def getF_p : Par := { sh := fun _ => none, k := 0, lo := fun _ => none }
theorem getF_eq (p0 : (Option zA11)) (p1 : zA2) (p2 : ByteArray) : ocRun getF_c getF_p getF_f getF_ins getF_outs (p0, p1, p2, ()) = getF_B (p0, p1, p2, ()) := by kernel_rfl
theorem getF_oc : OC getF_P 107 getF_ins getF_outs getF := OC.of_tree getF_env Tryz.func107 (by kernel_rfl) (by kernel_rfl) (p := getF_p) (fun g hg => LoOk.of (l := []) (by kernel_rfl) .nil) (fun (p0, p1, p2, ()) => getF_eq p0 p1 p2)
noncomputable def cx_getF : Ctx := addO cx_fieldF 107 (ocOrc getF_ins getF_outs getF)
theorem en_getF : EnvFull Tryz.prog cx_getF := env_add (en_fieldF) getF_oc.callOk
end Go.Proofs.YtiblijkhpmemeaaGreat
