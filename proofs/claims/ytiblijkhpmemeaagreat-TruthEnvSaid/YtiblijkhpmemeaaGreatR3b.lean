/- Contracts of functions. Printed by auto.py. -/
import Derived.Test.YtiblijkhpmemeaaGreatHa
import Derived.Test.YtiblijkhpmemeaaGreatHb
namespace Go.Proofs.YtiblijkhpmemeaaGreat
set_option maxRecDepth 100000
open Go.PI Go
abbrev zIR3b1 : List (Bool × Pat) := [(false, .ty true (.sl zA13)), (false, .ty true zA35), (false, .ty false (.int .i64))]
noncomputable def partsR_B : (Int × Unit) → Br (Int × Unit) := fun (p0, ()) =>
 (.cond (p0 == 1)
 (.cond (p0 == 1)
 (.ret (0, ()))
 (.cond (p0 == 3)
 (.cond (p0 == 3)
 (.ret (1, ()))
 (.cond (decide (p0 ≥ 4))
 (.cond (decide (p0 ≤ 15))
 (.ret (2, ()))
 (.ret (-1, ())))
 (.ret (-1, ()))))
 (.cond (p0 == 13)
 (.ret (1, ()))
 (.cond (decide (p0 ≥ 4))
 (.cond (decide (p0 ≤ 15))
 (.ret (2, ()))
 (.ret (-1, ())))
 (.ret (-1, ()))))))
 (.cond (p0 == 2)
 (.ret (0, ()))
 (.cond (p0 == 3)
 (.cond (p0 == 3)
 (.ret (1, ()))
 (.cond (decide (p0 ≥ 4))
 (.cond (decide (p0 ≤ 15))
 (.ret (2, ()))
 (.ret (-1, ())))
 (.ret (-1, ()))))
 (.cond (p0 == 13)
 (.ret (1, ()))
 (.cond (decide (p0 ≥ 4))
 (.cond (decide (p0 ≤ 15))
 (.ret (2, ()))
 (.ret (-1, ())))
 (.ret (-1, ())))))))
noncomputable def partsR : (Int × Unit) → Option (Int × Unit) := fun x => (partsR_B x).run
abbrev partsR_ins : List (Bool × Pat) := [(false, .ty false (.int .i64))]
abbrev partsR_outs : List Pat := [.ty false (.int .i64)]
noncomputable abbrev partsR_f : Func := Tryz.f101
noncomputable abbrev partsR_P : Program := Tryz.prog
noncomputable def partsR_c : Ctx := { cx_cmpStr with base := 1024 }
theorem partsR_env : EnvFull partsR_P partsR_c := env_base (en_cmpStr) 1024
noncomputable def partsR_p : Par := { sh := fun _ => none, k := 0, lo := fun _ => none }
theorem partsR_eq (p0 : Int) : ocRun partsR_c partsR_p partsR_f partsR_ins partsR_outs (p0, ()) = partsR_B (p0, ()) := by kernel_rfl
theorem partsR_oc : OC partsR_P 101 partsR_ins partsR_outs partsR := OC.of_tree partsR_env Tryz.func101 (by kernel_rfl) (by kernel_rfl) (p := partsR_p) (fun g hg => LoOk.of (l := []) (by kernel_rfl) .nil) (fun (p0, ()) => partsR_eq p0)
noncomputable def cx_partsR : Ctx := addO cx_cmpStr 101 (ocOrc partsR_ins partsR_outs partsR)
theorem en_partsR : EnvFull Tryz.prog cx_partsR := env_add (en_cmpStr) partsR_oc.callOk
noncomputable def halfR_B : (Int × Unit) → Br ((Int × Int) × Unit) := fun (p0, ()) =>
 (.cond (false)
 (.no)
 (.cond (decide (Int.tmod p0 4294967296 < 0))
 (.cond (false)
 (.no)
 (.ret ((IntKind.wrap .i64 (Int.tdiv (IntKind.wrap .i64 (p0 - IntKind.wrap .i64 (Int.tmod p0 4294967296 + 4294967296))) 4294967296), IntKind.wrap .i64 (Int.tmod p0 4294967296 + 4294967296)), ())))
 (.cond (false)
 (.no)
 (.ret ((IntKind.wrap .i64 (Int.tdiv (IntKind.wrap .i64 (p0 - Int.tmod p0 4294967296)) 4294967296), Int.tmod p0 4294967296), ())))))
noncomputable def halfR : (Int × Unit) → Option ((Int × Int) × Unit) := fun x => (halfR_B x).run
abbrev halfR_ins : List (Bool × Pat) := [(false, .ty false (.int .i64))]
abbrev halfR_outs : List Pat := [.ty false (.int .i64), .ty false (.int .i64)]
noncomputable abbrev halfR_f : Func := Tryz.f127
noncomputable abbrev halfR_P : Program := Tryz.prog
noncomputable def halfR_c : Ctx := { cx_partsR with base := 1024 }
theorem halfR_env : EnvFull halfR_P halfR_c := env_base (en_partsR) 1024
noncomputable def halfR_p : Par := { sh := fun _ => none, k := 0, lo := fun _ => none }
theorem halfR_eq (p0 : Int) : ocRun halfR_c halfR_p halfR_f halfR_ins halfR_outs (p0, ()) = halfR_B (p0, ()) := by kernel_rfl
theorem halfR_oc : OC halfR_P 127 halfR_ins halfR_outs halfR := OC.of_tree halfR_env Tryz.func127 (by kernel_rfl) (by kernel_rfl) (p := halfR_p) (fun g hg => LoOk.of (l := []) (by kernel_rfl) .nil) (fun (p0, ()) => halfR_eq p0)
noncomputable def cx_halfR : Ctx := addO cx_partsR 127 (ocOrc halfR_ins halfR_outs halfR)
theorem en_halfR : EnvFull Tryz.prog cx_halfR := env_add (en_partsR) halfR_oc.callOk
noncomputable def fitsR_l0 : (Int × (Int × Unit)) → Br ((Int × (Int × Unit)) ⊕ (Int × (Int × Unit))) := fun (a, b, ()) =>
 (.cond (decide (a ≥ 4294967296))
 (.ret (.inl (IntKind.wrap .i64 (a - 4294967296), IntKind.wrap .i64 (b + 1), ())))
 (.ret (.inr (a, b, ()))))
noncomputable def fitsR_w0 : (Int × (Int × Unit)) → Option (Int × (Int × Unit)) := iterO fun x => (fitsR_l0 x).run
noncomputable def fitsR_l1 : (Int × (Int × Unit)) → Br ((Int × (Int × Unit)) ⊕ (Int × Unit)) := fun (a, b, ()) =>
 (.cond (decide (a < 0))
 (.ret (.inl (IntKind.wrap .i64 (a + 4294967296), IntKind.wrap .i64 (b - 1), ())))
 (.ret (.inr (b, ()))))
noncomputable def fitsR_w1 : (Int × (Int × Unit)) → Option (Int × Unit) := iterO fun x => (fitsR_l1 x).run
noncomputable def fitsR_B : (Int × (Int × (Bool × Unit))) → Br (Bool × Unit) := fun (p0, p1, p2, ()) =>
 (.opt (halfR (p0, ())) fun a =>
 (.opt (halfR (p1, ())) fun b =>
 (.cond (p2)
 (.opt (fitsR_w0 (IntKind.wrap .i64 (a.1.2 + IntKind.wrap .i64 (0 - b.1.2)), IntKind.wrap .i64 (a.1.1 + IntKind.wrap .i64 (0 - b.1.1)), ())) fun c =>
 (.opt (fitsR_w1 (c.1, c.2.1, ())) fun d =>
 (.cond (decide (d.1 ≥ -2147483648))
 (.ret (decide (d.1 ≤ 2147483647), ()))
 (.ret (false, ())))))
 (.opt (fitsR_w0 (IntKind.wrap .i64 (a.1.2 + b.1.2), IntKind.wrap .i64 (a.1.1 + b.1.1), ())) fun e =>
 (.opt (fitsR_w1 (e.1, e.2.1, ())) fun f =>
 (.cond (decide (f.1 ≥ -2147483648))
 (.ret (decide (f.1 ≤ 2147483647), ()))
 (.ret (false, ()))))))))
noncomputable def fitsR : (Int × (Int × (Bool × Unit))) → Option (Bool × Unit) := fun x => (fitsR_B x).run
abbrev fitsR_ins : List (Bool × Pat) := [(false, .ty false (.int .i64)), (false, .ty false (.int .i64)), (false, .ty false .bool)]
abbrev fitsR_outs : List Pat := [.ty false .bool]
noncomputable abbrev fitsR_f : Func := Tryz.f114
noncomputable abbrev fitsR_P : Program := Tryz.prog
abbrev fitsR_kp : List Nat := kpOf fitsR_ins
abbrev fitsR_kf : List Nat := kfOf fitsR_ins
noncomputable def fitsR_c : Ctx := { cx_halfR with base := 1024 }
theorem fitsR_env : EnvFull fitsR_P fitsR_c := env_base (en_halfR) 1024
abbrev fitsR_H0 : List Hole := [.slot 11 false (.int .i64), .slot 12 false (.int .i64)]
def fitsR_S0 : Skel := ⟨52, [], []⟩
abbrev fitsR_H0e0 : List Hole := [.slot 11 false (.int .i64), .slot 12 false (.int .i64)]
def fitsR_S0e0 : Skel := ⟨52, [], []⟩
def fitsR_h0 : Exit → Shape
 | .normal => ⟨[(11, .as false (.int .i64)), (12, .as false (.int .i64))], [], []⟩
 | .exit 0 => ⟨[(11, .as false (.int .i64)), (12, .as false (.int .i64))], [], []⟩
 | _ => ⟨[], [], []⟩
def fitsR_e0 : (Int × (Int × Unit)) → Exit × St
 | u => (.exit 0, fitsR_S0e0.fillK fitsR_kf fitsR_H0e0 u)
def fitsR_t0 : (Int × (Int × Unit)) → Br (Exit × St) := fun u => .ret (.exit 0, fitsR_S0e0.fillK fitsR_kf fitsR_H0e0 u)
noncomputable def fitsR_C0 : Code := loopAt 0 (bodyOf fitsR_f)
noncomputable def fitsR_o0 : St → Br (Exit × St) := loopF fitsR_kp fitsR_kf 1024 (fitsR_h0 .normal) (fitsR_S0.parseK fitsR_kf fitsR_H0) fun x => .opt (fitsR_w0 x) fitsR_t0
abbrev fitsR_H1 : List Hole := [.slot 11 false (.int .i64), .slot 12 false (.int .i64)]
def fitsR_S1 : Skel := ⟨52, [], []⟩
abbrev fitsR_H1e0 : List Hole := [.slot 12 false (.int .i64)]
def fitsR_S1e0 : Skel := ⟨52, [], []⟩
def fitsR_h1 : Exit → Shape
 | .normal => ⟨[(11, .as false (.int .i64)), (12, .as false (.int .i64))], [], []⟩
 | .exit 2 => ⟨[(12, .as false (.int .i64))], [], []⟩
 | _ => ⟨[], [], []⟩
def fitsR_e1 : (Int × Unit) → Exit × St
 | u => (.exit 2, fitsR_S1e0.fillK fitsR_kf fitsR_H1e0 u)
def fitsR_t1 : (Int × Unit) → Br (Exit × St) := fun u => .ret (.exit 2, fitsR_S1e0.fillK fitsR_kf fitsR_H1e0 u)
noncomputable def fitsR_C1 : Code := loopAt 1 (bodyOf fitsR_f)
noncomputable def fitsR_o1 : St → Br (Exit × St) := loopF fitsR_kp fitsR_kf 1024 (fitsR_h1 .normal) (fitsR_S1.parseK fitsR_kf fitsR_H1) fun x => .opt (fitsR_w1 x) fitsR_t1
noncomputable def fitsR_p : Par := { sh := fun _ => none, k := 0, lo := fun i => bif Nat.beq i 7 then some fitsR_o0 else bif Nat.beq i 10 then some fitsR_o1 else none }
theorem fitsR_r0 (a : Int) (b : Int) : roundF fitsR_kp fitsR_kf fitsR_c fitsR_p fitsR_h0 fitsR_C0 (fitsR_S0.fillK fitsR_kf fitsR_H0 (a, b, ())) = (fitsR_l0 (a, b, ())).bind (loopLeaf (fun x => fitsR_S0.fillK fitsR_kf fitsR_H0 x) fitsR_e0) := by kernel_rfl
theorem fitsR_ok0 (g : Cfg) (hg : ∀ n, Go.PI.look n g.m0 ≠ Option.none → n ∈ fitsR_kp) : LoopOk fitsR_P g fitsR_o0 fitsR_C0 := LoopOk.auto fitsR_env hg fitsR_p (LoOk.of (l := []) (by kernel_rfl) .nil) fitsR_h0 (fun x => fitsR_S0.fillK fitsR_kf fitsR_H0 x) (fun s x h => Skel.parseK_ok s x h) fitsR_l0 fitsR_e0 (fun _ h => by cases h) fitsR_t0 (fun _ => rfl) (fun (a, b, ()) => fitsR_r0 a b)
theorem fitsR_r1 (a : Int) (b : Int) : roundF fitsR_kp fitsR_kf fitsR_c fitsR_p fitsR_h1 fitsR_C1 (fitsR_S1.fillK fitsR_kf fitsR_H1 (a, b, ())) = (fitsR_l1 (a, b, ())).bind (loopLeaf (fun x => fitsR_S1.fillK fitsR_kf fitsR_H1 x) fitsR_e1) := by kernel_rfl
theorem fitsR_ok1 (g : Cfg) (hg : ∀ n, Go.PI.look n g.m0 ≠ Option.none → n ∈ fitsR_kp) : LoopOk fitsR_P g fitsR_o1 fitsR_C1 := LoopOk.auto fitsR_env hg fitsR_p (LoOk.of (l := []) (by kernel_rfl) .nil) fitsR_h1 (fun x => fitsR_S1.fillK fitsR_kf fitsR_H1 x) (fun s x h => Skel.parseK_ok s x h) fitsR_l1 fitsR_e1 (fun _ h => by cases h) fitsR_t1 (fun _ => rfl) (fun (a, b, ()) => fitsR_r1 a b)
theorem fitsR_eq (p0 : Int) (p1 : Int) (p2 : Bool) : ocRun fitsR_c fitsR_p fitsR_f fitsR_ins fitsR_outs (p0, p1, p2, ()) = fitsR_B (p0, p1, p2, ()) := by kernel_rfl
theorem fitsR_oc : OC fitsR_P 114 fitsR_ins fitsR_outs fitsR := OC.of_tree fitsR_env Tryz.func114 (by kernel_rfl) (by kernel_rfl) (p := fitsR_p) (fun g hg => LoOk.of (l := [fitsR_C0, fitsR_C1]) (by kernel_rfl) (.cons (fitsR_ok0 g hg) (by kernel_rfl) (.cons (fitsR_ok1 g hg) (by kernel_rfl) .nil))) (fun (p0, p1, p2, ()) => fitsR_eq p0 p1 p2)
noncomputable def cx_fitsR : Ctx := addO cx_halfR 114 (ocOrc fitsR_ins fitsR_outs fitsR)
theorem en_fitsR : EnvFull Tryz.prog cx_fitsR := env_add (en_halfR) fitsR_oc.callOk
noncomputable def productR_B : (Int × (Int × Unit)) → Br (Bool × Unit) := fun (p0, p1, ()) =>
 (.cond (p0 == 0)
 (.ret (true, ()))
 (.cond (p1 == 0)
 (.ret (true, ()))
 (.cond (decide (p0 > 0))
 (.cond (decide (p1 > 0))
 (.cond (decide (p1 = 0))
 (.no)
 (.ret (decide (p0 ≤ IntKind.wrap .i64 (Int.tdiv 9223372036854775807 p1)), ())))
 (.cond (decide (p0 < 0))
 (.cond (decide (p1 < 0))
 (.cond (p1 != -9223372036854775808)
 (.cond (p0 != -9223372036854775808)
 (.cond (decide (IntKind.wrap .i64 (0 - p1) = 0))
 (.no)
 (.cond (decide (IntKind.wrap .i64 (0 - p0) ≤ IntKind.wrap .i64 (Int.tdiv 9223372036854775807 (IntKind.wrap .i64 (0 - p1)))))
 (.ret (true, ()))
 (.cond (p0 == -1)
 (.cond (p1 != -9223372036854775808)
 (.ret (true, ()))
 (.cond (p1 == -1)
 (.ret (p0 != -9223372036854775808, ()))
 (.ret (false, ()))))
 (.cond (p1 == -1)
 (.ret (p0 != -9223372036854775808, ()))
 (.ret (false, ()))))))
 (.cond (p0 == -1)
 (.cond (p1 != -9223372036854775808)
 (.ret (true, ()))
 (.cond (p1 == -1)
 (.ret (p0 != -9223372036854775808, ()))
 (.ret (false, ()))))
 (.cond (p1 == -1)
 (.ret (p0 != -9223372036854775808, ()))
 (.ret (false, ())))))
 (.cond (p0 == -1)
 (.cond (p1 != -9223372036854775808)
 (.ret (true, ()))
 (.cond (p1 == -1)
 (.ret (p0 != -9223372036854775808, ()))
 (.ret (false, ()))))
 (.cond (p1 == -1)
 (.ret (p0 != -9223372036854775808, ()))
 (.ret (false, ())))))
 (.cond (decide (p0 > 0))
 (.cond (decide (p0 = 0))
 (.no)
 (.ret (decide (p1 ≥ IntKind.wrap .i64 (Int.tdiv (-9223372036854775808) p0)), ())))
 (.cond (decide (p1 = 0))
 (.no)
 (.ret (decide (p0 ≥ IntKind.wrap .i64 (Int.tdiv (-9223372036854775808) p1)), ())))))
 (.cond (decide (p0 > 0))
 (.cond (decide (p0 = 0))
 (.no)
 (.ret (decide (p1 ≥ IntKind.wrap .i64 (Int.tdiv (-9223372036854775808) p0)), ())))
 (.cond (decide (p1 = 0))
 (.no)
 (.ret (decide (p0 ≥ IntKind.wrap .i64 (Int.tdiv (-9223372036854775808) p1)), ()))))))
 (.cond (decide (p0 < 0))
 (.cond (decide (p1 < 0))
 (.cond (p1 != -9223372036854775808)
 (.cond (p0 != -9223372036854775808)
 (.cond (decide (IntKind.wrap .i64 (0 - p1) = 0))
 (.no)
 (.cond (decide (IntKind.wrap .i64 (0 - p0) ≤ IntKind.wrap .i64 (Int.tdiv 9223372036854775807 (IntKind.wrap .i64 (0 - p1)))))
 (.ret (true, ()))
 (.cond (p0 == -1)
 (.cond (p1 != -9223372036854775808)
 (.ret (true, ()))
 (.cond (p1 == -1)
 (.ret (p0 != -9223372036854775808, ()))
 (.ret (false, ()))))
 (.cond (p1 == -1)
 (.ret (p0 != -9223372036854775808, ()))
 (.ret (false, ()))))))
 (.cond (p0 == -1)
 (.cond (p1 != -9223372036854775808)
 (.ret (true, ()))
 (.cond (p1 == -1)
 (.ret (p0 != -9223372036854775808, ()))
 (.ret (false, ()))))
 (.cond (p1 == -1)
 (.ret (p0 != -9223372036854775808, ()))
 (.ret (false, ())))))
 (.cond (p0 == -1)
 (.cond (p1 != -9223372036854775808)
 (.ret (true, ()))
 (.cond (p1 == -1)
 (.ret (p0 != -9223372036854775808, ()))
 (.ret (false, ()))))
 (.cond (p1 == -1)
 (.ret (p0 != -9223372036854775808, ()))
 (.ret (false, ())))))
 (.cond (decide (p0 > 0))
 (.cond (decide (p0 = 0))
 (.no)
 (.ret (decide (p1 ≥ IntKind.wrap .i64 (Int.tdiv (-9223372036854775808) p0)), ())))
 (.cond (decide (p1 = 0))
 (.no)
 (.ret (decide (p0 ≥ IntKind.wrap .i64 (Int.tdiv (-9223372036854775808) p1)), ())))))
 (.cond (decide (p0 > 0))
 (.cond (decide (p0 = 0))
 (.no)
 (.ret (decide (p1 ≥ IntKind.wrap .i64 (Int.tdiv (-9223372036854775808) p0)), ())))
 (.cond (decide (p1 = 0))
 (.no)
 (.ret (decide (p0 ≥ IntKind.wrap .i64 (Int.tdiv (-9223372036854775808) p1)), ()))))))))
noncomputable def productR : (Int × (Int × Unit)) → Option (Bool × Unit) := fun x => (productR_B x).run
abbrev productR_ins : List (Bool × Pat) := [(false, .ty false (.int .i64)), (false, .ty false (.int .i64))]
abbrev productR_outs : List Pat := [.ty false .bool]
noncomputable abbrev productR_f : Func := Tryz.f115
noncomputable abbrev productR_P : Program := Tryz.prog
noncomputable def productR_c : Ctx := { cx_fitsR with base := 1024 }
theorem productR_env : EnvFull productR_P productR_c := env_base (en_fitsR) 1024
noncomputable def productR_p : Par := { sh := fun _ => none, k := 0, lo := fun _ => none }
theorem productR_eq (p0 : Int) (p1 : Int) : ocRun productR_c productR_p productR_f productR_ins productR_outs (p0, p1, ()) = productR_B (p0, p1, ()) := by kernel_rfl
theorem productR_oc : OC productR_P 115 productR_ins productR_outs productR := OC.of_tree productR_env Tryz.func115 (by kernel_rfl) (by kernel_rfl) (p := productR_p) (fun g hg => LoOk.of (l := []) (by kernel_rfl) .nil) (fun (p0, p1, ()) => productR_eq p0 p1)
noncomputable def cx_productR : Ctx := addO cx_fitsR 115 (ocOrc productR_ins productR_outs productR)
theorem en_productR : EnvFull Tryz.prog cx_productR := env_add (en_fitsR) productR_oc.callOk
noncomputable def placeR_l0 : (ByteArray × (Int × (zA2 × ((List ByteArray) × Unit)))) → Br ((ByteArray × (Int × (zA2 × ((List ByteArray) × Unit)))) ⊕ ((Int × Unit) ⊕ Unit)) := fun (a, b, c, d, ()) =>
 (.cond (decide (b < (↑(List.length d) : Int)))
 (.cond (decide (b < (↑(List.length c.2.2.2.2) : Int)))
 (.cond (decide (0 ≤ b) && decide (b < (↑(List.length d) : Int)))
 (.cond (bl (List.getD d (Int.toNat b) ByteArray.empty) == bl a)
 (.ret (.inr (.inl (b, ()))))
 (.ret (.inl (a, IntKind.wrap .i64 (b + 1), c, d, ()))))
 (.no))
 (.ret (.inr (.inr (())))))
 (.ret (.inr (.inr (())))))
noncomputable def placeR_w0 : (ByteArray × (Int × (zA2 × ((List ByteArray) × Unit)))) → Option ((Int × Unit) ⊕ Unit) := iterO fun x => (placeR_l0 x).run
noncomputable def placeR_B : (zA2 × (ByteArray × Unit)) → Br (Int × Unit) := fun (p0, p1, ()) =>
 (.cond (bl p0.1 == bl { data := #[67] })
 (.opt (placeR_w0 (p1, 0, p0, [{ data := #[115] }, { data := #[120] }, { data := #[98] }], ())) fun a =>
 (.sum a (fun b =>
 (.ret (b.1, ()))) (fun c =>
 (.ret (-1, ())))))
 (.opt (placeR_w0 (p1, 0, p0, [{ data := #[120] }, { data := #[115] }], ())) fun d =>
 (.sum d (fun e =>
 (.ret (e.1, ()))) (fun f =>
 (.ret (-1, ()))))))
noncomputable def placeR : (zA2 × (ByteArray × Unit)) → Option (Int × Unit) := fun x => (placeR_B x).run
abbrev placeR_ins : List (Bool × Pat) := [(false, .ty true zA9), (false, .ty false .str)]
abbrev placeR_outs : List Pat := [.ty false (.int .i64)]
noncomputable abbrev placeR_f : Func := Tryz.f102
noncomputable abbrev placeR_P : Program := Tryz.prog
abbrev placeR_kp : List Nat := kpOf placeR_ins
abbrev placeR_kf : List Nat := kfOf placeR_ins
noncomputable def placeR_c : Ctx := { cx_productR with base := 1024 }
theorem placeR_env : EnvFull placeR_P placeR_c := env_base (en_productR) 1024
abbrev placeR_H0 : List Hole := [.slot 1 false .str, .slot 6 false (.int .i64), .tv 1026 true zA9, .ar 1724 false 9 .str]
def placeR_S0 : Skel := ⟨32, [(2, D.c (C.ref 1026 0 0)), (5, .c (.mfull 1724))], [(1026, []), (1724, [])]⟩
abbrev placeR_H0e0 : List Hole := [.slot 4 false (.int .i64)]
def placeR_S0e0 : Skel := ⟨32, [], []⟩
abbrev placeR_H0e1 : List Hole := []
def placeR_S0e1 : Skel := ⟨32, [], []⟩
def placeR_h0 : Exit → Shape
 | .normal => ⟨[(1, .as false .str), (2, .keep), (5, .row 700 false 9 .str), (6, .as false (.int .i64))], [], [(2, true), (700, false)]⟩
 | .ret => ⟨[(4, .as false (.int .i64))], [], []⟩
 | .exit 0 => ⟨[], [], []⟩
 | _ => ⟨[], [], []⟩
def placeR_e0 : ((Int × Unit) ⊕ Unit) → Exit × St
 | (.inl u) => (.ret, placeR_S0e0.fillK placeR_kf placeR_H0e0 u)
 | (.inr u) => (.exit 0, placeR_S0e1.fillK placeR_kf placeR_H0e1 u)
def placeR_t0 : ((Int × Unit) ⊕ Unit) → Br (Exit × St) := fun z => .sum z (fun u => .ret (.ret, placeR_S0e0.fillK placeR_kf placeR_H0e0 u)) (fun u => .ret (.exit 0, placeR_S0e1.fillK placeR_kf placeR_H0e1 u))
noncomputable def placeR_C0 : Code := loopAt 0 (bodyOf placeR_f)
noncomputable def placeR_o0 : St → Br (Exit × St) := loopF placeR_kp placeR_kf 1024 (placeR_h0 .normal) (placeR_S0.parseK placeR_kf placeR_H0) fun x => .opt (placeR_w0 x) placeR_t0
noncomputable def placeR_p : Par := { sh := fun _ => none, k := 0, lo := fun i => bif Nat.beq i 5 then some placeR_o0 else none }
theorem placeR_r0 (a : ByteArray) (b : Int) (c : zA2) (d : (List ByteArray)) : roundF placeR_kp placeR_kf placeR_c placeR_p placeR_h0 placeR_C0 (placeR_S0.fillK placeR_kf placeR_H0 (a, b, c, d, ())) = (placeR_l0 (a, b, c, d, ())).bind (loopLeaf (fun x => placeR_S0.fillK placeR_kf placeR_H0 x) placeR_e0) := by kernel_rfl
theorem placeR_ok0 (g : Cfg) (hg : ∀ n, Go.PI.look n g.m0 ≠ Option.none → n ∈ placeR_kp) : LoopOk placeR_P g placeR_o0 placeR_C0 := LoopOk.auto placeR_env hg placeR_p (LoOk.of (l := []) (by kernel_rfl) .nil) placeR_h0 (fun x => placeR_S0.fillK placeR_kf placeR_H0 x) (fun s x h => Skel.parseK_ok s x h) placeR_l0 placeR_e0 (fun z h => by rcases z with z | z <;> cases h) placeR_t0 (fun z => by rcases z with z | z <;> rfl) (fun (a, b, c, d, ()) => placeR_r0 a b c d)
theorem placeR_eq (p0 : zA2) (p1 : ByteArray) : ocRun placeR_c placeR_p placeR_f placeR_ins placeR_outs (p0, p1, ()) = placeR_B (p0, p1, ()) := by kernel_rfl
theorem placeR_oc : OC placeR_P 102 placeR_ins placeR_outs placeR := OC.of_tree placeR_env Tryz.func102 (by kernel_rfl) (by kernel_rfl) (p := placeR_p) (fun g hg => LoOk.of (l := [placeR_C0]) (by kernel_rfl) (.cons (placeR_ok0 g hg) (by kernel_rfl) .nil)) (fun (p0, p1, ()) => placeR_eq p0 p1)
noncomputable def cx_placeR : Ctx := addO cx_productR 102 (ocOrc placeR_ins placeR_outs placeR)
theorem en_placeR : EnvFull Tryz.prog cx_placeR := env_add (en_productR) placeR_oc.callOk
noncomputable def bothR_B : (Int × (zA8 × (zA8 × Unit))) → Br ((zA8 × Bool) × Unit) := fun (p0, p1, p2, ()) =>
 (.cond (p0 == 4)
 (.cond (p1.1 == 1)
 (.opt (fitsR (p1.2.1, p2.2.1, false, ())) fun y6 =>
 (.ret (((1, IntKind.wrap .i64 (p1.2.1 + p2.2.1), ByteArray.empty, false), y6.1), ())))
 (.ret (((1, IntKind.wrap .i64 (p1.2.1 + p2.2.1), ByteArray.empty, false), false), ())))
 (.cond (p0 == 5)
 (.cond (p1.1 == 1)
 (.opt (fitsR (p1.2.1, p2.2.1, true, ())) fun y7 =>
 (.ret (((1, IntKind.wrap .i64 (p1.2.1 - p2.2.1), ByteArray.empty, false), y7.1), ())))
 (.ret (((1, IntKind.wrap .i64 (p1.2.1 - p2.2.1), ByteArray.empty, false), false), ())))
 (.cond (p0 == 6)
 (.cond (p1.1 == 1)
 (.opt (productR (p1.2.1, p2.2.1, ())) fun y8 =>
 (.ret (((1, IntKind.wrap .i64 (p1.2.1 * p2.2.1), ByteArray.empty, false), y8.1), ())))
 (.ret (((1, IntKind.wrap .i64 (p1.2.1 * p2.2.1), ByteArray.empty, false), false), ())))
 (.cond (p0 == 14)
 (.cond p1.2.2.2
 (.ret (((3, 0, ByteArray.empty, p2.2.2.2), p1.1 == 3), ()))
 (.ret (((3, 0, ByteArray.empty, false), p1.1 == 3), ())))
 (.cond (p0 == 15)
 (.cond p1.2.2.2
 (.ret (((3, 0, ByteArray.empty, true), p1.1 == 3), ()))
 (.ret (((3, 0, ByteArray.empty, p2.2.2.2), p1.1 == 3), ())))
 (.cond (p1.1 == 1)
 (.cond (decide (p1.2.1 < p2.2.1))
 (.cond (p0 == 7)
 (.ret (((3, 0, ByteArray.empty, decide (p1.1 = p2.1) && (decide (p1.2.1 = p2.2.1) && (bl p1.2.2.1 == bl p2.2.2.1 && p1.2.2.2 == p2.2.2.2))), true), ()))
 (.cond (p0 == 8)
 (.ret (((3, 0, ByteArray.empty, !(decide (p1.1 = p2.1) && (decide (p1.2.1 = p2.2.1) && (bl p1.2.2.1 == bl p2.2.2.1 && p1.2.2.2 == p2.2.2.2)))), true), ()))
 (.cond (p0 == 9)
 (.ret (((3, 0, ByteArray.empty, true), true), ()))
 (.cond (p0 == 10)
 (.ret (((3, 0, ByteArray.empty, true), true), ()))
 (.cond (p0 == 11)
 (.ret (((3, 0, ByteArray.empty, false), true), ()))
 (.ret (((3, 0, ByteArray.empty, false), true), ())))))))
 (.cond (p1.1 == 2)
 (.cond (Op.bytesLess (bl p1.2.2.1) (bl p2.2.2.1))
 (.cond (p0 == 7)
 (.ret (((3, 0, ByteArray.empty, decide (p1.1 = p2.1) && (decide (p1.2.1 = p2.2.1) && (bl p1.2.2.1 == bl p2.2.2.1 && p1.2.2.2 == p2.2.2.2))), true), ()))
 (.cond (p0 == 8)
 (.ret (((3, 0, ByteArray.empty, !(decide (p1.1 = p2.1) && (decide (p1.2.1 = p2.2.1) && (bl p1.2.2.1 == bl p2.2.2.1 && p1.2.2.2 == p2.2.2.2)))), true), ()))
 (.cond (p0 == 9)
 (.ret (((3, 0, ByteArray.empty, true), true), ()))
 (.cond (p0 == 10)
 (.ret (((3, 0, ByteArray.empty, true), true), ()))
 (.cond (p0 == 11)
 (.ret (((3, 0, ByteArray.empty, false), true), ()))
 (.ret (((3, 0, ByteArray.empty, false), true), ())))))))
 (.cond (p1.1 == 3)
 (.cond (!p1.2.2.2)
 (.cond (p0 == 7)
 (.ret (((3, 0, ByteArray.empty, decide (p1.1 = p2.1) && (decide (p1.2.1 = p2.2.1) && (bl p1.2.2.1 == bl p2.2.2.1 && p1.2.2.2 == p2.2.2.2))), true), ()))
 (.cond (p0 == 8)
 (.ret (((3, 0, ByteArray.empty, !(decide (p1.1 = p2.1) && (decide (p1.2.1 = p2.2.1) && (bl p1.2.2.1 == bl p2.2.2.1 && p1.2.2.2 == p2.2.2.2)))), true), ()))
 (.cond (p0 == 9)
 (.ret (((3, 0, ByteArray.empty, p2.2.2.2), true), ()))
 (.cond (p0 == 10)
 (.cond p2.2.2.2
 (.ret (((3, 0, ByteArray.empty, true), true), ()))
 (.ret (((3, 0, ByteArray.empty, decide (p1.1 = p2.1) && (decide (p1.2.1 = p2.2.1) && (bl p1.2.2.1 == bl p2.2.2.1 && p1.2.2.2 == p2.2.2.2))), true), ())))
 (.cond (p0 == 11)
 (.cond (!p2.2.2.2)
 (.ret (((3, 0, ByteArray.empty, !(decide (p1.1 = p2.1) && (decide (p1.2.1 = p2.2.1) && (bl p1.2.2.1 == bl p2.2.2.1 && p1.2.2.2 == p2.2.2.2)))), true), ()))
 (.ret (((3, 0, ByteArray.empty, false), true), ())))
 (.ret (((3, 0, ByteArray.empty, !p2.2.2.2), true), ())))))))
 (.cond (p0 == 7)
 (.ret (((3, 0, ByteArray.empty, decide (p1.1 = p2.1) && (decide (p1.2.1 = p2.2.1) && (bl p1.2.2.1 == bl p2.2.2.1 && p1.2.2.2 == p2.2.2.2))), true), ()))
 (.cond (p0 == 8)
 (.ret (((3, 0, ByteArray.empty, !(decide (p1.1 = p2.1) && (decide (p1.2.1 = p2.2.1) && (bl p1.2.2.1 == bl p2.2.2.1 && p1.2.2.2 == p2.2.2.2)))), true), ()))
 (.cond (p0 == 9)
 (.ret (((3, 0, ByteArray.empty, false), true), ()))
 (.cond (p0 == 10)
 (.ret (((3, 0, ByteArray.empty, decide (p1.1 = p2.1) && (decide (p1.2.1 = p2.2.1) && (bl p1.2.2.1 == bl p2.2.2.1 && p1.2.2.2 == p2.2.2.2))), true), ()))
 (.cond (p0 == 11)
 (.ret (((3, 0, ByteArray.empty, !(decide (p1.1 = p2.1) && (decide (p1.2.1 = p2.2.1) && (bl p1.2.2.1 == bl p2.2.2.1 && p1.2.2.2 == p2.2.2.2)))), true), ()))
 (.ret (((3, 0, ByteArray.empty, true), true), ()))))))))
 (.cond (p0 == 7)
 (.ret (((3, 0, ByteArray.empty, decide (p1.1 = p2.1) && (decide (p1.2.1 = p2.2.1) && (bl p1.2.2.1 == bl p2.2.2.1 && p1.2.2.2 == p2.2.2.2))), true), ()))
 (.cond (p0 == 8)
 (.ret (((3, 0, ByteArray.empty, !(decide (p1.1 = p2.1) && (decide (p1.2.1 = p2.2.1) && (bl p1.2.2.1 == bl p2.2.2.1 && p1.2.2.2 == p2.2.2.2)))), true), ()))
 (.cond (p0 == 9)
 (.ret (((3, 0, ByteArray.empty, false), true), ()))
 (.cond (p0 == 10)
 (.ret (((3, 0, ByteArray.empty, decide (p1.1 = p2.1) && (decide (p1.2.1 = p2.2.1) && (bl p1.2.2.1 == bl p2.2.2.1 && p1.2.2.2 == p2.2.2.2))), true), ()))
 (.cond (p0 == 11)
 (.ret (((3, 0, ByteArray.empty, !(decide (p1.1 = p2.1) && (decide (p1.2.1 = p2.2.1) && (bl p1.2.2.1 == bl p2.2.2.1 && p1.2.2.2 == p2.2.2.2)))), true), ()))
 (.ret (((3, 0, ByteArray.empty, true), true), ())))))))))
 (.cond (p1.1 == 3)
 (.cond (!p1.2.2.2)
 (.cond (p0 == 7)
 (.ret (((3, 0, ByteArray.empty, decide (p1.1 = p2.1) && (decide (p1.2.1 = p2.2.1) && (bl p1.2.2.1 == bl p2.2.2.1 && p1.2.2.2 == p2.2.2.2))), true), ()))
 (.cond (p0 == 8)
 (.ret (((3, 0, ByteArray.empty, !(decide (p1.1 = p2.1) && (decide (p1.2.1 = p2.2.1) && (bl p1.2.2.1 == bl p2.2.2.1 && p1.2.2.2 == p2.2.2.2)))), true), ()))
 (.cond (p0 == 9)
 (.ret (((3, 0, ByteArray.empty, p2.2.2.2), true), ()))
 (.cond (p0 == 10)
 (.cond p2.2.2.2
 (.ret (((3, 0, ByteArray.empty, true), true), ()))
 (.ret (((3, 0, ByteArray.empty, decide (p1.1 = p2.1) && (decide (p1.2.1 = p2.2.1) && (bl p1.2.2.1 == bl p2.2.2.1 && p1.2.2.2 == p2.2.2.2))), true), ())))
 (.cond (p0 == 11)
 (.cond (!p2.2.2.2)
 (.ret (((3, 0, ByteArray.empty, !(decide (p1.1 = p2.1) && (decide (p1.2.1 = p2.2.1) && (bl p1.2.2.1 == bl p2.2.2.1 && p1.2.2.2 == p2.2.2.2)))), true), ()))
 (.ret (((3, 0, ByteArray.empty, false), true), ())))
 (.ret (((3, 0, ByteArray.empty, !p2.2.2.2), true), ())))))))
 (.cond (p0 == 7)
 (.ret (((3, 0, ByteArray.empty, decide (p1.1 = p2.1) && (decide (p1.2.1 = p2.2.1) && (bl p1.2.2.1 == bl p2.2.2.1 && p1.2.2.2 == p2.2.2.2))), true), ()))
 (.cond (p0 == 8)
 (.ret (((3, 0, ByteArray.empty, !(decide (p1.1 = p2.1) && (decide (p1.2.1 = p2.2.1) && (bl p1.2.2.1 == bl p2.2.2.1 && p1.2.2.2 == p2.2.2.2)))), true), ()))
 (.cond (p0 == 9)
 (.ret (((3, 0, ByteArray.empty, false), true), ()))
 (.cond (p0 == 10)
 (.ret (((3, 0, ByteArray.empty, decide (p1.1 = p2.1) && (decide (p1.2.1 = p2.2.1) && (bl p1.2.2.1 == bl p2.2.2.1 && p1.2.2.2 == p2.2.2.2))), true), ()))
 (.cond (p0 == 11)
 (.ret (((3, 0, ByteArray.empty, !(decide (p1.1 = p2.1) && (decide (p1.2.1 = p2.2.1) && (bl p1.2.2.1 == bl p2.2.2.1 && p1.2.2.2 == p2.2.2.2)))), true), ()))
 (.ret (((3, 0, ByteArray.empty, true), true), ()))))))))
 (.cond (p0 == 7)
 (.ret (((3, 0, ByteArray.empty, decide (p1.1 = p2.1) && (decide (p1.2.1 = p2.2.1) && (bl p1.2.2.1 == bl p2.2.2.1 && p1.2.2.2 == p2.2.2.2))), true), ()))
 (.cond (p0 == 8)
 (.ret (((3, 0, ByteArray.empty, !(decide (p1.1 = p2.1) && (decide (p1.2.1 = p2.2.1) && (bl p1.2.2.1 == bl p2.2.2.1 && p1.2.2.2 == p2.2.2.2)))), true), ()))
 (.cond (p0 == 9)
 (.ret (((3, 0, ByteArray.empty, false), true), ()))
 (.cond (p0 == 10)
 (.ret (((3, 0, ByteArray.empty, decide (p1.1 = p2.1) && (decide (p1.2.1 = p2.2.1) && (bl p1.2.2.1 == bl p2.2.2.1 && p1.2.2.2 == p2.2.2.2))), true), ()))
 (.cond (p0 == 11)
 (.ret (((3, 0, ByteArray.empty, !(decide (p1.1 = p2.1) && (decide (p1.2.1 = p2.2.1) && (bl p1.2.2.1 == bl p2.2.2.1 && p1.2.2.2 == p2.2.2.2)))), true), ()))
 (.ret (((3, 0, ByteArray.empty, true), true), ()))))))))))
 (.cond (p1.1 == 2)
 (.cond (Op.bytesLess (bl p1.2.2.1) (bl p2.2.2.1))
 (.cond (p0 == 7)
 (.ret (((3, 0, ByteArray.empty, decide (p1.1 = p2.1) && (decide (p1.2.1 = p2.2.1) && (bl p1.2.2.1 == bl p2.2.2.1 && p1.2.2.2 == p2.2.2.2))), true), ()))
 (.cond (p0 == 8)
 (.ret (((3, 0, ByteArray.empty, !(decide (p1.1 = p2.1) && (decide (p1.2.1 = p2.2.1) && (bl p1.2.2.1 == bl p2.2.2.1 && p1.2.2.2 == p2.2.2.2)))), true), ()))
 (.cond (p0 == 9)
 (.ret (((3, 0, ByteArray.empty, true), true), ()))
 (.cond (p0 == 10)
 (.ret (((3, 0, ByteArray.empty, true), true), ()))
 (.cond (p0 == 11)
 (.ret (((3, 0, ByteArray.empty, false), true), ()))
 (.ret (((3, 0, ByteArray.empty, false), true), ())))))))
 (.cond (p1.1 == 3)
 (.cond (!p1.2.2.2)
 (.cond (p0 == 7)
 (.ret (((3, 0, ByteArray.empty, decide (p1.1 = p2.1) && (decide (p1.2.1 = p2.2.1) && (bl p1.2.2.1 == bl p2.2.2.1 && p1.2.2.2 == p2.2.2.2))), true), ()))
 (.cond (p0 == 8)
 (.ret (((3, 0, ByteArray.empty, !(decide (p1.1 = p2.1) && (decide (p1.2.1 = p2.2.1) && (bl p1.2.2.1 == bl p2.2.2.1 && p1.2.2.2 == p2.2.2.2)))), true), ()))
 (.cond (p0 == 9)
 (.ret (((3, 0, ByteArray.empty, p2.2.2.2), true), ()))
 (.cond (p0 == 10)
 (.cond p2.2.2.2
 (.ret (((3, 0, ByteArray.empty, true), true), ()))
 (.ret (((3, 0, ByteArray.empty, decide (p1.1 = p2.1) && (decide (p1.2.1 = p2.2.1) && (bl p1.2.2.1 == bl p2.2.2.1 && p1.2.2.2 == p2.2.2.2))), true), ())))
 (.cond (p0 == 11)
 (.cond (!p2.2.2.2)
 (.ret (((3, 0, ByteArray.empty, !(decide (p1.1 = p2.1) && (decide (p1.2.1 = p2.2.1) && (bl p1.2.2.1 == bl p2.2.2.1 && p1.2.2.2 == p2.2.2.2)))), true), ()))
 (.ret (((3, 0, ByteArray.empty, false), true), ())))
 (.ret (((3, 0, ByteArray.empty, !p2.2.2.2), true), ())))))))
 (.cond (p0 == 7)
 (.ret (((3, 0, ByteArray.empty, decide (p1.1 = p2.1) && (decide (p1.2.1 = p2.2.1) && (bl p1.2.2.1 == bl p2.2.2.1 && p1.2.2.2 == p2.2.2.2))), true), ()))
 (.cond (p0 == 8)
 (.ret (((3, 0, ByteArray.empty, !(decide (p1.1 = p2.1) && (decide (p1.2.1 = p2.2.1) && (bl p1.2.2.1 == bl p2.2.2.1 && p1.2.2.2 == p2.2.2.2)))), true), ()))
 (.cond (p0 == 9)
 (.ret (((3, 0, ByteArray.empty, false), true), ()))
 (.cond (p0 == 10)
 (.ret (((3, 0, ByteArray.empty, decide (p1.1 = p2.1) && (decide (p1.2.1 = p2.2.1) && (bl p1.2.2.1 == bl p2.2.2.1 && p1.2.2.2 == p2.2.2.2))), true), ()))
 (.cond (p0 == 11)
 (.ret (((3, 0, ByteArray.empty, !(decide (p1.1 = p2.1) && (decide (p1.2.1 = p2.2.1) && (bl p1.2.2.1 == bl p2.2.2.1 && p1.2.2.2 == p2.2.2.2)))), true), ()))
 (.ret (((3, 0, ByteArray.empty, true), true), ()))))))))
 (.cond (p0 == 7)
 (.ret (((3, 0, ByteArray.empty, decide (p1.1 = p2.1) && (decide (p1.2.1 = p2.2.1) && (bl p1.2.2.1 == bl p2.2.2.1 && p1.2.2.2 == p2.2.2.2))), true), ()))
 (.cond (p0 == 8)
 (.ret (((3, 0, ByteArray.empty, !(decide (p1.1 = p2.1) && (decide (p1.2.1 = p2.2.1) && (bl p1.2.2.1 == bl p2.2.2.1 && p1.2.2.2 == p2.2.2.2)))), true), ()))
 (.cond (p0 == 9)
 (.ret (((3, 0, ByteArray.empty, false), true), ()))
 (.cond (p0 == 10)
 (.ret (((3, 0, ByteArray.empty, decide (p1.1 = p2.1) && (decide (p1.2.1 = p2.2.1) && (bl p1.2.2.1 == bl p2.2.2.1 && p1.2.2.2 == p2.2.2.2))), true), ()))
 (.cond (p0 == 11)
 (.ret (((3, 0, ByteArray.empty, !(decide (p1.1 = p2.1) && (decide (p1.2.1 = p2.2.1) && (bl p1.2.2.1 == bl p2.2.2.1 && p1.2.2.2 == p2.2.2.2)))), true), ()))
 (.ret (((3, 0, ByteArray.empty, true), true), ())))))))))
 (.cond (p1.1 == 3)
 (.cond (!p1.2.2.2)
 (.cond (p0 == 7)
 (.ret (((3, 0, ByteArray.empty, decide (p1.1 = p2.1) && (decide (p1.2.1 = p2.2.1) && (bl p1.2.2.1 == bl p2.2.2.1 && p1.2.2.2 == p2.2.2.2))), true), ()))
 (.cond (p0 == 8)
 (.ret (((3, 0, ByteArray.empty, !(decide (p1.1 = p2.1) && (decide (p1.2.1 = p2.2.1) && (bl p1.2.2.1 == bl p2.2.2.1 && p1.2.2.2 == p2.2.2.2)))), true), ()))
 (.cond (p0 == 9)
 (.ret (((3, 0, ByteArray.empty, p2.2.2.2), true), ()))
 (.cond (p0 == 10)
 (.cond p2.2.2.2
 (.ret (((3, 0, ByteArray.empty, true), true), ()))
 (.ret (((3, 0, ByteArray.empty, decide (p1.1 = p2.1) && (decide (p1.2.1 = p2.2.1) && (bl p1.2.2.1 == bl p2.2.2.1 && p1.2.2.2 == p2.2.2.2))), true), ())))
 (.cond (p0 == 11)
 (.cond (!p2.2.2.2)
 (.ret (((3, 0, ByteArray.empty, !(decide (p1.1 = p2.1) && (decide (p1.2.1 = p2.2.1) && (bl p1.2.2.1 == bl p2.2.2.1 && p1.2.2.2 == p2.2.2.2)))), true), ()))
 (.ret (((3, 0, ByteArray.empty, false), true), ())))
 (.ret (((3, 0, ByteArray.empty, !p2.2.2.2), true), ())))))))
 (.cond (p0 == 7)
 (.ret (((3, 0, ByteArray.empty, decide (p1.1 = p2.1) && (decide (p1.2.1 = p2.2.1) && (bl p1.2.2.1 == bl p2.2.2.1 && p1.2.2.2 == p2.2.2.2))), true), ()))
 (.cond (p0 == 8)
 (.ret (((3, 0, ByteArray.empty, !(decide (p1.1 = p2.1) && (decide (p1.2.1 = p2.2.1) && (bl p1.2.2.1 == bl p2.2.2.1 && p1.2.2.2 == p2.2.2.2)))), true), ()))
 (.cond (p0 == 9)
 (.ret (((3, 0, ByteArray.empty, false), true), ()))
 (.cond (p0 == 10)
 (.ret (((3, 0, ByteArray.empty, decide (p1.1 = p2.1) && (decide (p1.2.1 = p2.2.1) && (bl p1.2.2.1 == bl p2.2.2.1 && p1.2.2.2 == p2.2.2.2))), true), ()))
 (.cond (p0 == 11)
 (.ret (((3, 0, ByteArray.empty, !(decide (p1.1 = p2.1) && (decide (p1.2.1 = p2.2.1) && (bl p1.2.2.1 == bl p2.2.2.1 && p1.2.2.2 == p2.2.2.2)))), true), ()))
 (.ret (((3, 0, ByteArray.empty, true), true), ()))))))))
 (.cond (p0 == 7)
 (.ret (((3, 0, ByteArray.empty, decide (p1.1 = p2.1) && (decide (p1.2.1 = p2.2.1) && (bl p1.2.2.1 == bl p2.2.2.1 && p1.2.2.2 == p2.2.2.2))), true), ()))
 (.cond (p0 == 8)
 (.ret (((3, 0, ByteArray.empty, !(decide (p1.1 = p2.1) && (decide (p1.2.1 = p2.2.1) && (bl p1.2.2.1 == bl p2.2.2.1 && p1.2.2.2 == p2.2.2.2)))), true), ()))
 (.cond (p0 == 9)
 (.ret (((3, 0, ByteArray.empty, false), true), ()))
 (.cond (p0 == 10)
 (.ret (((3, 0, ByteArray.empty, decide (p1.1 = p2.1) && (decide (p1.2.1 = p2.2.1) && (bl p1.2.2.1 == bl p2.2.2.1 && p1.2.2.2 == p2.2.2.2))), true), ()))
 (.cond (p0 == 11)
 (.ret (((3, 0, ByteArray.empty, !(decide (p1.1 = p2.1) && (decide (p1.2.1 = p2.2.1) && (bl p1.2.2.1 == bl p2.2.2.1 && p1.2.2.2 == p2.2.2.2)))), true), ()))
 (.ret (((3, 0, ByteArray.empty, true), true), ())))))))))))))))
noncomputable def bothR : (Int × (zA8 × (zA8 × Unit))) → Option ((zA8 × Bool) × Unit) := fun x => (bothR_B x).run
abbrev bothR_ins : List (Bool × Pat) := [(false, .ty false (.int .i64)), (false, .ty false zA4), (false, .ty false zA4)]
abbrev bothR_outs : List Pat := [.ty false zA4, .ty false .bool]
noncomputable abbrev bothR_f : Func := Tryz.f103
noncomputable abbrev bothR_P : Program := Tryz.prog
noncomputable def bothR_c : Ctx := { cx_placeR with base := 1024 }
theorem bothR_env : EnvFull bothR_P bothR_c := env_base (en_placeR) 1024
noncomputable def bothR_p : Par := { sh := fun _ => none, k := 0, lo := fun _ => none }
theorem bothR_eq (p0 : Int) (p1 : zA8) (p2 : zA8) : ocRun bothR_c bothR_p bothR_f bothR_ins bothR_outs (p0, p1, p2, ()) = bothR_B (p0, p1, p2, ()) := by kernel_rfl
theorem bothR_oc : OC bothR_P 103 bothR_ins bothR_outs bothR := OC.of_tree bothR_env Tryz.func103 (by kernel_rfl) (by kernel_rfl) (p := bothR_p) (fun g hg => LoOk.of (l := []) (by kernel_rfl) .nil) (fun (p0, p1, p2, ()) => bothR_eq p0 p1 p2)
noncomputable def cx_bothR : Ctx := addO cx_placeR 103 (ocOrc bothR_ins bothR_outs bothR)
theorem en_bothR : EnvFull Tryz.prog cx_bothR := env_add (en_placeR) bothR_oc.callOk
noncomputable def evalR_l0 : (zA21 × (Int × (Int × (zA8 × (zA12 × Unit))))) → Br ((zA21 × (Int × (Int × (zA8 × (zA12 × Unit))))) ⊕ ((Bool × (Int × (zA8 × Unit))) ⊕ (Int × (zA8 × Unit)))) := fun (a, b, c, d, e, ()) =>
 (.cond (decide (c < (↑(List.length a) : Int)))
 (.cond (decide (0 ≤ c) && decide (c < (↑(List.length a) : Int)))
 (.cond (bl (List.getD a (Int.toNat c) zV3).1 == bl e.2.2.1)
 (.cond (decide (0 ≤ c) && decide (c < (↑(List.length a) : Int)))
 (.opt (placeR ((List.getD a (Int.toNat c) zV3).2, e.2.2.2, ())) fun f =>
 (.cond (decide (f.1 < 0))
 (.ret (.inr (.inl (false, b, zV0, ()))))
 (.cond (decide (0 ≤ c) && decide (c < (↑(List.length a) : Int)))
 (.cond (decide (0 ≤ f.1) && decide (f.1 < (↑(List.length (List.getD a (Int.toNat c) zV3).2.2.2.2.2) : Int)))
 (.ret (.inr (.inl (true, b, List.getD (List.getD a (Int.toNat c) zV3).2.2.2.2.2 (Int.toNat f.1) zV0, ()))))
 (.no))
 (.no))))
 (.no))
 (.ret (.inl (a, b, IntKind.wrap .i64 (c + 1), d, e, ()))))
 (.no))
 (.ret (.inr (.inr (b, d, ())))))
noncomputable def evalR_w0 : (zA21 × (Int × (Int × (zA8 × (zA12 × Unit))))) → Option ((Bool × (Int × (zA8 × Unit))) ⊕ (Int × (zA8 × Unit))) := iterO fun x => (evalR_l0 x).run
noncomputable def evalR_B (G_evalR : ((List zA12) × (zA21 × (Int × Unit))) → Option ((zA8 × (Bool × Int)) × Unit)) : ((List zA12) × (zA21 × (Int × Unit))) → Br ((zA8 × (Bool × Int)) × Unit) := fun (p0, p1, p2, ()) =>
 (.cond (decide (p2 < 0))
 (.ret ((zV0, false, 0), ()))
 (.cond (decide (0 ≤ p2) && decide (p2 < (↑(List.length p0) : Int)))
 (.opt (partsR ((List.getD p0 (Int.toNat p2) (0, zV0, ByteArray.empty, ByteArray.empty)).1, ())) fun a =>
 (.cond (a.1 == 0)
 (.cond ((List.getD p0 (Int.toNat p2) (0, zV0, ByteArray.empty, ByteArray.empty)).1 == 1)
 (.ret (((List.getD p0 (Int.toNat p2) (0, zV0, ByteArray.empty, ByteArray.empty)).2.1, true, p2), ()))
 (.opt (evalR_w0 (p1, p2, 0, zV0, List.getD p0 (Int.toNat p2) (0, zV0, ByteArray.empty, ByteArray.empty), ())) fun b =>
 (.sum b (fun c =>
 (.ret ((c.2.2.1, c.1, c.2.1), ()))) (fun d =>
 (.ret ((zV0, false, d.1), ()))))))
 (.cond (a.1 == 1)
 (.opt (G_evalR (p0, p1, IntKind.wrap .i64 (p2 - 1), ())) fun e =>
 (.cond ((List.getD p0 (Int.toNat p2) (0, zV0, ByteArray.empty, ByteArray.empty)).1 == 13)
 (.cond e.1.2.1
 (.ret (((3, 0, ByteArray.empty, !e.1.1.2.2.2), e.1.1.1 == 3, e.1.2.2), ()))
 (.ret (((3, 0, ByteArray.empty, !e.1.1.2.2.2), false, e.1.2.2), ())))
 (.cond e.1.2.1
 (.cond (e.1.1.1 == 1)
 (.ret (((1, IntKind.wrap .i64 (0 - e.1.1.2.1), ByteArray.empty, false), e.1.1.2.1 != -9223372036854775808, e.1.2.2), ()))
 (.ret (((1, IntKind.wrap .i64 (0 - e.1.1.2.1), ByteArray.empty, false), false, e.1.2.2), ())))
 (.ret (((1, IntKind.wrap .i64 (0 - e.1.1.2.1), ByteArray.empty, false), false, e.1.2.2), ())))))
 (.opt (G_evalR (p0, p1, IntKind.wrap .i64 (p2 - 1), ())) fun f =>
 (.opt (G_evalR (p0, p1, IntKind.wrap .i64 (f.1.2.2 - 1), ())) fun g =>
 (.cond (!g.1.2.1)
 (.ret ((zV0, false, g.1.2.2), ()))
 (.cond (!f.1.2.1)
 (.ret ((zV0, false, g.1.2.2), ()))
 (.cond (g.1.1.1 != f.1.1.1)
 (.ret ((zV0, false, g.1.2.2), ()))
 (.opt (bothR ((List.getD p0 (Int.toNat p2) (0, zV0, ByteArray.empty, ByteArray.empty)).1, g.1.1, f.1.1, ())) fun h =>
 (.ret ((h.1.1, h.1.2, g.1.2.2), ())))))))))))
 (.no)))
noncomputable def evalR (G_evalR : ((List zA12) × (zA21 × (Int × Unit))) → Option ((zA8 × (Bool × Int)) × Unit)) : ((List zA12) × (zA21 × (Int × Unit))) → Option ((zA8 × (Bool × Int)) × Unit) := fun x => ((evalR_B G_evalR) x).run
abbrev evalR_ins : List (Bool × Pat) := zIR3b1
abbrev evalR_outs : List Pat := [.ty false zA4, .ty false .bool, .ty false (.int .i64)]
noncomputable abbrev evalR_f : Func := Tryz.f89
noncomputable abbrev evalR_P : Program := Tryz.prog
abbrev evalR_kp : List Nat := kpOf evalR_ins
abbrev evalR_kf : List Nat := kfOf evalR_ins
noncomputable def evalR_c (G_evalR : ((List zA12) × (zA21 × (Int × Unit))) → Option ((zA8 × (Bool × Int)) × Unit)) : Ctx := { (addO cx_bothR 89 (ocOrc zIR3b1 [.ty false zA4, .ty false .bool, .ty false (.int .i64)] G_evalR)) with base := 1024 }
theorem evalR_env (G_evalR : ((List zA12) × (zA21 × (Int × Unit))) → Option ((zA8 × (Bool × Int)) × Unit)) (H_evalR : OC Tryz.prog 89 zIR3b1 [.ty false zA4, .ty false .bool, .ty false (.int .i64)] G_evalR) : EnvFull evalR_P (evalR_c G_evalR) := env_base ((env_add en_bothR (OC.callOk H_evalR))) 1024
abbrev evalR_H0 : List Hole := [.slot 1 true zA35, .slot 2 false (.int .i64), .slot 10 false (.int .i64), .tv 1030 false zA4, .tv 1033 false zA13]
def evalR_S0 : Skel := ⟨164, [(6, D.c (C.ref 1030 0 0)), (9, D.c (C.ref 1033 0 0))], [(1030, []), (1033, [])]⟩
abbrev evalR_H0e0 : List Hole := [.slot 7 false .bool, .slot 8 false (.int .i64), .tv 1030 false zA4]
def evalR_S0e0 : Skel := ⟨164, [(6, D.c (C.ref 1030 0 0))], [(1030, [])]⟩
abbrev evalR_H0e1 : List Hole := [.slot 2 false (.int .i64), .tv 1030 false zA4]
def evalR_S0e1 : Skel := ⟨164, [(6, D.c (C.ref 1030 0 0))], [(1030, [])]⟩
def evalR_h0 : Exit → Shape
 | .normal => ⟨[(1, .as true zA35), (2, .as false (.int .i64)), (6, .keep), (9, .keep), (10, .as false (.int .i64))], [], [(6, false), (9, false)]⟩
 | .ret => ⟨[(6, .keep), (7, .as false .bool), (8, .as false (.int .i64))], [], [(6, false)]⟩
 | .exit 1 => ⟨[(2, .as false (.int .i64)), (6, .keep)], [], [(6, false)]⟩
 | _ => ⟨[], [], []⟩
def evalR_e0 : ((Bool × (Int × (zA8 × Unit))) ⊕ (Int × (zA8 × Unit))) → Exit × St
 | (.inl u) => (.ret, evalR_S0e0.fillK evalR_kf evalR_H0e0 u)
 | (.inr u) => (.exit 1, evalR_S0e1.fillK evalR_kf evalR_H0e1 u)
def evalR_t0 : ((Bool × (Int × (zA8 × Unit))) ⊕ (Int × (zA8 × Unit))) → Br (Exit × St) := fun z => .sum z (fun u => .ret (.ret, evalR_S0e0.fillK evalR_kf evalR_H0e0 u)) (fun u => .ret (.exit 1, evalR_S0e1.fillK evalR_kf evalR_H0e1 u))
noncomputable def evalR_C0 : Code := loopAt 0 (bodyOf evalR_f)
noncomputable def evalR_o0 : St → Br (Exit × St) := loopF evalR_kp evalR_kf 1024 (evalR_h0 .normal) (evalR_S0.parseK evalR_kf evalR_H0) fun x => .opt (evalR_w0 x) evalR_t0
noncomputable def evalR_p : Par := { sh := fun _ => none, k := 0, lo := fun i => bif Nat.beq i 9 then some evalR_o0 else none }
theorem evalR_r0 (G_evalR : ((List zA12) × (zA21 × (Int × Unit))) → Option ((zA8 × (Bool × Int)) × Unit)) (a : zA21) (b : Int) (c : Int) (d : zA8) (e : zA12) : roundF evalR_kp evalR_kf (evalR_c G_evalR) evalR_p evalR_h0 evalR_C0 (evalR_S0.fillK evalR_kf evalR_H0 (a, b, c, d, e, ())) = (evalR_l0 (a, b, c, d, e, ())).bind (loopLeaf (fun x => evalR_S0.fillK evalR_kf evalR_H0 x) evalR_e0) := by kernel_rfl
theorem evalR_ok0 (G_evalR : ((List zA12) × (zA21 × (Int × Unit))) → Option ((zA8 × (Bool × Int)) × Unit)) (H_evalR : OC Tryz.prog 89 zIR3b1 [.ty false zA4, .ty false .bool, .ty false (.int .i64)] G_evalR) (g : Cfg) (hg : ∀ n, Go.PI.look n g.m0 ≠ Option.none → n ∈ evalR_kp) : LoopOk evalR_P g evalR_o0 evalR_C0 := LoopOk.auto (evalR_env G_evalR H_evalR) hg evalR_p (LoOk.of (l := []) (by kernel_rfl) .nil) evalR_h0 (fun x => evalR_S0.fillK evalR_kf evalR_H0 x) (fun s x h => Skel.parseK_ok s x h) evalR_l0 evalR_e0 (fun z h => by rcases z with z | z <;> cases h) evalR_t0 (fun z => by rcases z with z | z <;> rfl) (fun (a, b, c, d, e, ()) => (evalR_r0 G_evalR) a b c d e)
theorem evalR_eq (G_evalR : ((List zA12) × (zA21 × (Int × Unit))) → Option ((zA8 × (Bool × Int)) × Unit)) (p0 : (List zA12)) (p1 : zA21) (p2 : Int) : ocRun (evalR_c G_evalR) evalR_p evalR_f evalR_ins evalR_outs (p0, p1, p2, ()) = (evalR_B G_evalR) (p0, p1, p2, ()) := by kernel_rfl
theorem evalR_oc (G_evalR : ((List zA12) × (zA21 × (Int × Unit))) → Option ((zA8 × (Bool × Int)) × Unit)) (H_evalR : OC Tryz.prog 89 zIR3b1 [.ty false zA4, .ty false .bool, .ty false (.int .i64)] G_evalR) : OC evalR_P 89 evalR_ins evalR_outs (evalR G_evalR) := OC.of_tree (evalR_env G_evalR H_evalR) Tryz.func89 (by kernel_rfl) (by kernel_rfl) (p := evalR_p) (fun g hg => LoOk.of (l := [evalR_C0]) (by kernel_rfl) (.cons ((evalR_ok0 G_evalR H_evalR) g hg) (by kernel_rfl) .nil)) (fun (p0, p1, p2, ()) => (evalR_eq G_evalR) p0 p1 p2)
noncomputable def evalR_k : Nat → ((List zA12) × (zA21 × (Int × Unit))) → Option ((zA8 × (Bool × Int)) × Unit)
 | 0 => fun _ => none
 | k + 1 => evalR (evalR_k k)
theorem evalR_kok : ∀ k, OC Tryz.prog 89 zIR3b1 [.ty false zA4, .ty false .bool, .ty false (.int .i64)] (evalR_k k)
 | 0 => OC.zero Tryz.func89 (by kernel_rfl)
 | k + 1 => evalR_oc _ (evalR_kok k)
noncomputable def evalRF : ((List zA12) × (zA21 × (Int × Unit))) → Option ((zA8 × (Bool × Int)) × Unit) := fun x => evalR_k ((fun x => x.2.2.1.toNat + 3) x) x
theorem evalRF_oc : OC Tryz.prog 89 zIR3b1 [.ty false zA4, .ty false .bool, .ty false (.int .i64)] evalRF := OC.deep evalR_kok (fun x => x.2.2.1.toNat + 3)
noncomputable def cx_evalR : Ctx := addO cx_bothR 89 (ocOrc zIR3b1 [.ty false zA4, .ty false .bool, .ty false (.int .i64)] evalRF)
theorem en_evalR : EnvFull Tryz.prog cx_evalR := env_add (en_bothR) evalRF_oc.callOk
noncomputable def holdsR_B : ((List zA12) × (zA21 × Unit)) → Br (Bool × Unit) := fun (p0, p1, ()) =>
 (.cond ((↑(List.length p0) : Int) == 0)
 (.ret (true, ()))
 (.opt (evalRF (p0, p1, IntKind.wrap .i64 ((↑(List.length p0) : Int) - 1), ())) fun y3 =>
 (.cond y3.1.2.1
 (.cond (y3.1.1.1 == 3)
 (.ret (y3.1.1.2.2.2, ()))
 (.ret (false, ())))
 (.ret (false, ())))))
noncomputable def holdsR : ((List zA12) × (zA21 × Unit)) → Option (Bool × Unit) := fun x => (holdsR_B x).run
abbrev holdsR_ins : List (Bool × Pat) := [(false, .ty true (.sl zA13)), (false, .ty true zA35)]
abbrev holdsR_outs : List Pat := [.ty false .bool]
noncomputable abbrev holdsR_f : Func := Tryz.f62
noncomputable abbrev holdsR_P : Program := Tryz.prog
noncomputable def holdsR_c : Ctx := { cx_evalR with base := 1024 }
theorem holdsR_env : EnvFull holdsR_P holdsR_c := env_base (en_evalR) 1024
noncomputable def holdsR_p : Par := { sh := fun _ => none, k := 0, lo := fun _ => none }
theorem holdsR_eq (p0 : (List zA12)) (p1 : zA21) : ocRun holdsR_c holdsR_p holdsR_f holdsR_ins holdsR_outs (p0, p1, ()) = holdsR_B (p0, p1, ()) := by kernel_rfl
theorem holdsR_oc : OC holdsR_P 62 holdsR_ins holdsR_outs holdsR := OC.of_tree holdsR_env Tryz.func62 (by kernel_rfl) (by kernel_rfl) (p := holdsR_p) (fun g hg => LoOk.of (l := []) (by kernel_rfl) .nil) (fun (p0, p1, ()) => holdsR_eq p0 p1)
end Go.Proofs.YtiblijkhpmemeaaGreat
