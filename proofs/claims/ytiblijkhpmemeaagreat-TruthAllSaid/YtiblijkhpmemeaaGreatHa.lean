/- A statement's row from a contract, at the very arguments that came in. Abbreviations of types, for the printed texts. The types that the functions use, as the pure interpreter has them; the functions that are gone through in place. Printed by gentb2.py. The context in which all functions are reckoned: types, and which may be compared. Contracts of functions. Printed by auto.py. -/
import Derived.Test.YtiblijkhpmemeaaGreatGe
import Derived.Test.YtiblijkhpmemeaaGreatGa
import Derived.Test.YtiblijkhpmemeaaGreatGd
import Derived.KernelRfl
import Derived.Test.YtiblijkhpmemeaaGreatProg
namespace Go.PI
open Go.RowKit
variable {P : Program}
theorem OC.rowG {f : Nat} {ins : List (Bool × Pat)} {F : PArgs ins → Option (POuts [Pat.ty false .bool] × PBack ins)} (h : OC P f ins [Pat.ty false .bool] F) {W : World} {xs : PArgs ins} {vs : List Value} (hp : PAK (fun _ b => b < W.heap.size) W ins xs vs []) {z : PBack ins} (hF : F xs = some (true, z)) :
  Calls P f vs.toArray W fun e W' => e = .returned (.bool true) ∧ Below W.heap.size W W' := by
 refine (h.ok W (fun _ b => b < W.heap.size) (fun _ h => h) (fun _ h => h) _ vs [] hp List.nodup_nil (fun b hb => by simp at hb) _ hF).mono ?_
 rintro e W' ⟨v, J', B1, B2, rfl, r1, _, _, _, _, _, r7, r8, r9, r10, r11⟩
 obtain ⟨_, hv⟩ : PV (fun _ => J') W' (.ty false .bool) true v B1 := r1
 have hv := hv.2 rfl
 have hv : v = .bool true := by simpa [K] using hv
 subst hv
 exact ⟨rfl, r7, r8.1, r9, r10, fun b hb => r11 b hb (by simp)⟩
end Go.PI

namespace Go.Proofs.YtiblijkhpmemeaaGreat
open Go.PI Go
abbrev zA4 : Ty := .st (.pair (.int .i64) (.pair (.int .i64) (.pair .str .bool)))
abbrev zA8 : Type := Int × (Int × (ByteArray × Bool))
abbrev zA2 : Type := ByteArray × (ByteArray × (Int × (Int × (List zA8))))
abbrev zA9 : Ty := .st (.pair .str (.pair .str (.pair (.int .i64) (.pair (.int .i64) (.sl zA4)))))
abbrev zA12 : Type := Int × (zA8 × (ByteArray × ByteArray))
abbrev zA1 : Type := ByteArray × ((List ByteArray) × (Bool × (Int × (Int × (List zA12)))))
abbrev zA10 : Type := (List zA1) × (Int × Int)
abbrev zA13 : Ty := .st (.pair (.int .i64) (.pair zA4 (.pair .str .str)))
abbrev zA16 : Ty := .st (.pair (.int .i64) (.int .i64))
abbrev zA18 : Ty := Ty.st (Ty.sl (Ty.st (Ty.pair Ty.str (Ty.sl (Ty.st (Ty.pair Ty.str (Ty.int IntKind.i64)))))))
abbrev zA19 : Ty := .st (.pair .str (.pair (.sl .str) (.pair .bool (.pair (.int .i64) (.pair (.int .i64) (.sl zA13))))))
abbrev zA5 : Ty := .st (.pair (.sl zA19) (.pair (.int .i64) (.int .i64)))
abbrev zA21 : Type := List (ByteArray × zA2)
abbrev zA23 : Type := List (List (Int × Int))
abbrev zA25 : Type := List (ByteArray × Int)
abbrev zA11 : Type := List (ByteArray × zA25)
abbrev zA27 : Ty := .sl (.st (.pair .str (.int .i64)))
abbrev zA17 : Ty := .ptr (.st (.sl (.st (.pair .str zA27))))
abbrev zA28 : Type := (List zA2) × (Int × (Int × ((List zA2) × Unit)))
abbrev zA30 : Type := Int × (Int × (Int × (Int × ((List zA1) × Unit))))
abbrev zA31 : Type := (List (Int × Int)) × Unit
abbrev zA33 : Type := Int × ((List zA8) × ((List zA8) × (Int × (Int × (zA8 × Unit)))))
abbrev zA34 : Type := (Option zA11) × (zA21 × ((List zA12) × (Int × (Int × (zA8 × ((List zA8) × Unit))))))
abbrev zA35 : Ty := .sl (.st (.pair .str zA9))
abbrev zAn (x k : Int) : Int := IntKind.wrap .i64 (↑(BitVec.toNat (BitVec.ofInt (IntKind.bits .i64) x &&& BitVec.ofInt (IntKind.bits .i64) k)) : Int)
abbrev zSh (x k : Int) : Int := Int.fdiv x (2 ^ min (Int.toNat k) (IntKind.bits .i64))
abbrev zV0 : zA8 := (0, 0, ByteArray.empty, false)
abbrev zV1 : zA2 := (ByteArray.empty, ByteArray.empty, 0, 0, [])
abbrev zV2 : zA1 := (ByteArray.empty, [], false, 0, 0, [])
abbrev zV3 : ByteArray × zA2 := (ByteArray.empty, ByteArray.empty, ByteArray.empty, 0, 0, [])
end Go.Proofs.YtiblijkhpmemeaaGreat

namespace Go.Proofs.YtiblijkhpmemeaaGreat
set_option maxRecDepth 100000
open Go.PI
def tblA : List (Nat × TI) := [
 (2, ⟨(.int .i64), 8, .oth⟩),
 (3, ⟨(.int .i64), 8, .oth⟩),
 (4, ⟨.bool, 1, .oth⟩),
 (5, ⟨(.int .u8), 1, .oth⟩),
 (6, ⟨(.int .u8), 1, .oth⟩),
 (7, ⟨(.st (.pair (.int .i64) (.pair (.int .i64) (.pair .bool (.int .u8))))), 24, (.st [(0, 2), (1, 3), (2, 4), (3, 6)])⟩),
 (8, ⟨(.st (.pair (.int .i64) (.pair (.int .i64) (.pair .bool (.int .u8))))), 24, (.st [(0, 2), (1, 3), (2, 4), (3, 6)])⟩),
 (9, ⟨.str, 16, .oth⟩),
 (10, ⟨.str, 16, .oth⟩),
 (11, ⟨.str, 16, .oth⟩),
 (12, ⟨(.int .u64), 8, .oth⟩),
 (13, ⟨(.st (.pair .str (.int .u64))), 24, (.st [(0, 9), (1, 12)])⟩),
 (14, ⟨(.st (.pair .str (.int .u64))), 24, (.st [(0, 9), (1, 12)])⟩),
 (21, ⟨(.int .i32), 4, .oth⟩),
 (22, ⟨(.sl (.int .i64)), 24, (.sl 3)⟩),
 (23, ⟨(.sl (.st (.pair .str (.pair .str (.pair (.int .i64) (.pair (.int .i64) (.sl (.st (.pair (.int .i64) (.pair (.int .i64) (.pair .str .bool))))))))))), 24, (.sl 52)⟩),
 (24, ⟨(.ptr (.st (.sl (.st (.pair .str (.sl (.st (.pair .str (.int .i64))))))))), 8, (.pt 62)⟩),
 (25, ⟨(.int .i64), 8, .oth⟩),
 (28, ⟨(.sl (.st (.pair .str (.sl (.st (.pair .str (.int .i64))))))), 24, (.sl 65)⟩),
 (30, ⟨(.sl (.st (.pair .str (.pair (.sl .str) (.pair .bool (.pair (.int .i64) (.pair (.int .i64) (.sl (.st (.pair (.int .i64) (.pair (.st (.pair (.int .i64) (.pair (.int .i64) (.pair .str .bool)))) (.pair .str .str)))))))))))), 24, (.sl 49)⟩),
 (31, ⟨(.st (.pair (.sl (.st (.pair .str (.pair (.sl .str) (.pair .bool (.pair (.int .i64) (.pair (.int .i64) (.sl (.st (.pair (.int .i64) (.pair (.st (.pair (.int .i64) (.pair (.int .i64) (.pair .str .bool)))) (.pair .str .str)))))))))))) (.pair (.int .i64) (.int .i64)))), 40, (.st [(0, 30), (1, 2), (2, 3)])⟩),
 (32, ⟨(.st (.pair (.sl (.st (.pair .str (.pair (.sl .str) (.pair .bool (.pair (.int .i64) (.pair (.int .i64) (.sl (.st (.pair (.int .i64) (.pair (.st (.pair (.int .i64) (.pair (.int .i64) (.pair .str .bool)))) (.pair .str .str)))))))))))) (.pair (.int .i64) (.int .i64)))), 40, (.st [(0, 30), (1, 2), (2, 3)])⟩),
 (37, ⟨(.sl (.sl (.st (.pair (.int .i64) (.int .i64))))), 24, (.sl 41)⟩),
 (41, ⟨(.sl (.st (.pair (.int .i64) (.int .i64)))), 24, (.sl 45)⟩),
 (42, ⟨(.sl (.st (.pair .str (.st (.pair .str (.pair .str (.pair (.int .i64) (.pair (.int .i64) (.sl (.st (.pair (.int .i64) (.pair (.int .i64) (.pair .str .bool))))))))))))), 24, (.sl 54)⟩),
 (44, ⟨(.st (.pair (.int .i64) (.int .i64))), 16, (.st [(0, 3), (1, 2)])⟩),
 (45, ⟨(.st (.pair (.int .i64) (.int .i64))), 16, (.st [(0, 3), (1, 2)])⟩),
 (46, ⟨(.sl .str), 24, (.sl 9)⟩),
 (47, ⟨(.sl (.st (.pair (.int .i64) (.pair (.st (.pair (.int .i64) (.pair (.int .i64) (.pair .str .bool)))) (.pair .str .str))))), 24, (.sl 102)⟩),
 (48, ⟨(.st (.pair .str (.pair (.sl .str) (.pair .bool (.pair (.int .i64) (.pair (.int .i64) (.sl (.st (.pair (.int .i64) (.pair (.st (.pair (.int .i64) (.pair (.int .i64) (.pair .str .bool)))) (.pair .str .str))))))))))), 88, (.st [(0, 9), (1, 46), (2, 4), (3, 3), (4, 3), (5, 47)])⟩),
 (49, ⟨(.st (.pair .str (.pair (.sl .str) (.pair .bool (.pair (.int .i64) (.pair (.int .i64) (.sl (.st (.pair (.int .i64) (.pair (.st (.pair (.int .i64) (.pair (.int .i64) (.pair .str .bool)))) (.pair .str .str))))))))))), 88, (.st [(0, 9), (1, 46), (2, 4), (3, 3), (4, 3), (5, 47)])⟩),
 (50, ⟨(.sl (.st (.pair (.int .i64) (.pair (.int .i64) (.pair .str .bool))))), 24, (.sl 100)⟩),
 (51, ⟨(.st (.pair .str (.pair .str (.pair (.int .i64) (.pair (.int .i64) (.sl (.st (.pair (.int .i64) (.pair (.int .i64) (.pair .str .bool)))))))))), 72, (.st [(0, 9), (1, 9), (2, 2), (3, 2), (4, 50)])⟩),
 (52, ⟨(.st (.pair .str (.pair .str (.pair (.int .i64) (.pair (.int .i64) (.sl (.st (.pair (.int .i64) (.pair (.int .i64) (.pair .str .bool)))))))))), 72, (.st [(0, 9), (1, 9), (2, 2), (3, 2), (4, 50)])⟩),
 (53, ⟨(.st (.pair .str (.st (.pair .str (.pair .str (.pair (.int .i64) (.pair (.int .i64) (.sl (.st (.pair (.int .i64) (.pair (.int .i64) (.pair .str .bool)))))))))))), 88, (.st [(0, 9), (1, 52)])⟩),
 (54, ⟨(.st (.pair .str (.st (.pair .str (.pair .str (.pair (.int .i64) (.pair (.int .i64) (.sl (.st (.pair (.int .i64) (.pair (.int .i64) (.pair .str .bool)))))))))))), 88, (.st [(0, 9), (1, 52)])⟩),
 (56, ⟨(.int .u64), 8, .oth⟩),
 (61, ⟨(.st (.sl (.st (.pair .str (.sl (.st (.pair .str (.int .i64)))))))), 24, (.st [(0, 28)])⟩),
 (62, ⟨(.st (.sl (.st (.pair .str (.sl (.st (.pair .str (.int .i64)))))))), 24, (.st [(0, 28)])⟩),
 (63, ⟨(.sl (.st (.pair .str (.int .i64)))), 24, (.sl 72)⟩),
 (64, ⟨(.st (.pair .str (.sl (.st (.pair .str (.int .i64)))))), 40, (.st [(0, 9), (1, 63)])⟩),
 (65, ⟨(.st (.pair .str (.sl (.st (.pair .str (.int .i64)))))), 40, (.st [(0, 9), (1, 63)])⟩),
 (71, ⟨(.st (.pair .str (.int .i64))), 24, (.st [(0, 9), (1, 3)])⟩),
 (72, ⟨(.st (.pair .str (.int .i64))), 24, (.st [(0, 9), (1, 3)])⟩),
 (77, ⟨(.ptr (.st (.pair (.ptr (.st (.sl (.st (.pair .str (.sl (.st (.pair .str (.int .i64))))))))) (.pair (.st (.pair (.sl (.st (.pair .str (.pair (.sl .str) (.pair .bool (.pair (.int .i64) (.pair (.int .i64) (.sl (.st (.pair (.int .i64) (.pair (.st (.pair (.int .i64) (.pair (.int .i64) (.pair .str .bool)))) (.pair .str .str)))))))))))) (.pair (.int .i64) (.int .i64)))) (.pair (.sl (.st (.pair .str (.pair .str (.pair (.int .i64) (.pair (.int .i64) (.sl (.st (.pair (.int .i64) (.pair (.int .i64) (.pair .str .bool))))))))))) (.sl (.sl (.st (.pair (.int .i64) (.int .i64)))))))))), 8, (.pt 79)⟩),
 (78, ⟨(.st (.pair (.ptr (.st (.sl (.st (.pair .str (.sl (.st (.pair .str (.int .i64))))))))) (.pair (.st (.pair (.sl (.st (.pair .str (.pair (.sl .str) (.pair .bool (.pair (.int .i64) (.pair (.int .i64) (.sl (.st (.pair (.int .i64) (.pair (.st (.pair (.int .i64) (.pair (.int .i64) (.pair .str .bool)))) (.pair .str .str)))))))))))) (.pair (.int .i64) (.int .i64)))) (.pair (.sl (.st (.pair .str (.pair .str (.pair (.int .i64) (.pair (.int .i64) (.sl (.st (.pair (.int .i64) (.pair (.int .i64) (.pair .str .bool))))))))))) (.sl (.sl (.st (.pair (.int .i64) (.int .i64))))))))), 96, (.st [(0, 24), (1, 32), (4, 23), (5, 37)])⟩),
 (79, ⟨(.st (.pair (.ptr (.st (.sl (.st (.pair .str (.sl (.st (.pair .str (.int .i64))))))))) (.pair (.st (.pair (.sl (.st (.pair .str (.pair (.sl .str) (.pair .bool (.pair (.int .i64) (.pair (.int .i64) (.sl (.st (.pair (.int .i64) (.pair (.st (.pair (.int .i64) (.pair (.int .i64) (.pair .str .bool)))) (.pair .str .str)))))))))))) (.pair (.int .i64) (.int .i64)))) (.pair (.sl (.st (.pair .str (.pair .str (.pair (.int .i64) (.pair (.int .i64) (.sl (.st (.pair (.int .i64) (.pair (.int .i64) (.pair .str .bool))))))))))) (.sl (.sl (.st (.pair (.int .i64) (.int .i64))))))))), 96, (.st [(0, 24), (1, 32), (4, 23), (5, 37)])⟩),
 (83, ⟨(.st (.pair (.st (.pair (.sl (.st (.pair .str (.pair (.sl .str) (.pair .bool (.pair (.int .i64) (.pair (.int .i64) (.sl (.st (.pair (.int .i64) (.pair (.st (.pair (.int .i64) (.pair (.int .i64) (.pair .str .bool)))) (.pair .str .str)))))))))))) (.pair (.int .i64) (.int .i64)))) (.pair (.sl (.st (.pair .str (.pair .str (.pair (.int .i64) (.pair (.int .i64) (.sl (.st (.pair (.int .i64) (.pair (.int .i64) (.pair .str .bool))))))))))) (.sl (.sl (.st (.pair (.int .i64) (.int .i64)))))))), 88, (.st [(0, 32), (3, 23), (4, 37)])⟩),
 (84, ⟨(.st (.pair (.st (.pair (.sl (.st (.pair .str (.pair (.sl .str) (.pair .bool (.pair (.int .i64) (.pair (.int .i64) (.sl (.st (.pair (.int .i64) (.pair (.st (.pair (.int .i64) (.pair (.int .i64) (.pair .str .bool)))) (.pair .str .str)))))))))))) (.pair (.int .i64) (.int .i64)))) (.pair (.sl (.st (.pair .str (.pair .str (.pair (.int .i64) (.pair (.int .i64) (.sl (.st (.pair (.int .i64) (.pair (.int .i64) (.pair .str .bool))))))))))) (.sl (.sl (.st (.pair (.int .i64) (.int .i64)))))))), 88, (.st [(0, 32), (3, 23), (4, 37)])⟩),
 (98, ⟨(.sl (.sl .str)), 24, (.sl 46)⟩),
 (99, ⟨(.st (.pair (.int .i64) (.pair (.int .i64) (.pair .str .bool)))), 40, (.st [(0, 3), (1, 2), (2, 9), (3, 4)])⟩),
 (100, ⟨(.st (.pair (.int .i64) (.pair (.int .i64) (.pair .str .bool)))), 40, (.st [(0, 3), (1, 2), (2, 9), (3, 4)])⟩),
 (101, ⟨(.st (.pair (.int .i64) (.pair (.st (.pair (.int .i64) (.pair (.int .i64) (.pair .str .bool)))) (.pair .str .str)))), 80, (.st [(0, 3), (1, 100), (5, 9), (6, 9)])⟩),
 (102, ⟨(.st (.pair (.int .i64) (.pair (.st (.pair (.int .i64) (.pair (.int .i64) (.pair .str .bool)))) (.pair .str .str)))), 80, (.st [(0, 3), (1, 100), (5, 9), (6, 9)])⟩),
 (112, ⟨(.arr 2 (.int .i64)), 16, (.ar 2 3)⟩),
 (133, ⟨(.st (.pair (.int .i64) (.pair (.int .i64) (.int .i64)))), 24, (.st [(0, 2), (1, 2), (2, 3)])⟩),
 (134, ⟨(.st (.pair (.int .i64) (.pair (.int .i64) (.int .i64)))), 24, (.st [(0, 2), (1, 2), (2, 3)])⟩),
 (138, ⟨(.int .i64), 8, .oth⟩),
 (146, ⟨(.int .u32), 4, .oth⟩),
 (148, ⟨(.int .u64), 8, .oth⟩),
 (158, ⟨(.int .u64), 8, .oth⟩),
 (162, ⟨(.ptr (.int .i64)), 8, (.pt 3)⟩),
 (172, ⟨(.ptr (.int .u64)), 8, (.pt 158)⟩),
 (195, ⟨(.int .u8), 1, .oth⟩),
 (196, ⟨(.int .u8), 1, .oth⟩),
 (198, ⟨(.ptr (.int .u8)), 8, (.pt 5)⟩),
 (199, ⟨(.int .i32), 4, .oth⟩),
 (200, ⟨(.int .i32), 4, .oth⟩)]
noncomputable def tbA (n : Nat) : Option TI := lookT n tblA
theorem tbAOk : TbOk Tryz.prog tbA := tblB_ok (by kernel_rfl)
end Go.Proofs.YtiblijkhpmemeaaGreat

namespace Go.Proofs.YtiblijkhpmemeaaGreat
open Go.PI
noncomputable def cx0 : Ctx := withE (mkC tbA []) [100, 102, 134, 45]
theorem en0 : EnvFull Tryz.prog cx0 := env_E (env_nil (by kernel_rfl) tbAOk) (by kernel_rfl)
end Go.Proofs.YtiblijkhpmemeaaGreat

namespace Go.Proofs.YtiblijkhpmemeaaGreat
set_option maxRecDepth 100000
open Go.PI Go
noncomputable def letter_B : (Int × Unit) → Br (Bool × Unit) := fun (p0, ()) =>
 (.cond (decide (p0 ≥ 97))
 (.cond (decide (p0 ≤ 122))
 (.ret (true, ()))
 (.cond (decide (p0 ≥ 65))
 (.cond (decide (p0 ≤ 90))
 (.ret (true, ()))
 (.ret (p0 == 95, ())))
 (.ret (p0 == 95, ()))))
 (.cond (decide (p0 ≥ 65))
 (.cond (decide (p0 ≤ 90))
 (.ret (true, ()))
 (.ret (p0 == 95, ())))
 (.ret (p0 == 95, ()))))
noncomputable def letter := fun x => (letter_B x).run
theorem letter_oc : OC Tryz.prog 41 [(false, .ty false (.int .u8))] [.ty false .bool] letter := OC.lp en0 1024 Tryz.func41 [] (by kernel_rfl) trivial (fun _ => by kernel_rfl)
noncomputable def cx_letter : Ctx := ocx cx0 letter_oc
theorem en_letter : EnvFull Tryz.prog cx_letter := ocn en0 letter_oc
noncomputable def nameF_l0 : (ByteArray × (Int × (Int × Unit))) → Br ((ByteArray × (Int × (Int × Unit))) ⊕ (Unit ⊕ (ByteArray × Unit))) := fun (a, b, c, ()) =>
 (.cond (decide (c < b))
 (.cond (decide (0 ≤ c) && decide (c < (↑(ByteArray.size a) : Int)))
 (.opt (letter ((↑(UInt8.toNat (List.getD (bl a) (Int.toNat c) 0)) : Int), ())) fun d =>
 (.cond (!d.1)
 (.cond (decide ((↑(UInt8.toNat (List.getD (bl a) (Int.toNat c) 0)) : Int) < 48))
 (.ret (.inr (.inl (()))))
 (.cond (decide ((↑(UInt8.toNat (List.getD (bl a) (Int.toNat c) 0)) : Int) > 57))
 (.ret (.inr (.inl (()))))
 (.ret (.inl (a, b, IntKind.wrap .i64 (c + 1), ())))))
 (.ret (.inl (a, b, IntKind.wrap .i64 (c + 1), ())))))
 (.no))
 (.ret (.inr (.inr (a, ())))))
noncomputable def nameF_w0 := iterO fun x => (nameF_l0 x).run
noncomputable def nameF_l1 : (ByteArray × (Int × (Int × Unit))) → Br ((ByteArray × (Int × (Int × Unit))) ⊕ (Unit ⊕ Unit)) := fun (a, b, c, ()) =>
 (.cond (decide (c < b))
 (.cond (decide (0 ≤ c) && decide (c ≤ IntKind.wrap .i64 (IntKind.wrap .i64 (c + (↑(ByteArray.size a) : Int)) + 2)) && decide (IntKind.wrap .i64 (IntKind.wrap .i64 (c + (↑(ByteArray.size a) : Int)) + 2) ≤ (↑(ByteArray.size { data := #[32, 83, 69, 81, 32, 87, 72, 69, 82, 69, 32, 87, 73, 84, 72, 73, 78, 32, 67, 65, 80, 32, 97, 110, 100, 32, 111, 114, 32, 110, 111, 116, 32, 116, 114, 117, 101, 32, 102, 97, 108, 115, 101, 32] }) : Int)))
 (.cond (decide (ByteArray.size { data := #[32] } + ByteArray.size a ≤ 9223372036854775807))
 (.cond (decide (ByteArray.size (bcat { data := #[32] } a) + ByteArray.size { data := #[32] } ≤ 9223372036854775807))
 (.cond (bl (bsub { data := #[32, 83, 69, 81, 32, 87, 72, 69, 82, 69, 32, 87, 73, 84, 72, 73, 78, 32, 67, 65, 80, 32, 97, 110, 100, 32, 111, 114, 32, 110, 111, 116, 32, 116, 114, 117, 101, 32, 102, 97, 108, 115, 101, 32] } (Int.toNat c) (Int.toNat (IntKind.wrap .i64 (IntKind.wrap .i64 (c + (↑(ByteArray.size a) : Int)) + 2)))) == bl (bcat (bcat { data := #[32] } a) { data := #[32] }))
 (.ret (.inr (.inl (()))))
 (.ret (.inl (a, b, IntKind.wrap .i64 (c + 1), ()))))
 (.no))
 (.no))
 (.no))
 (.ret (.inr (.inr (())))))
noncomputable def nameF_w1 := iterO fun x => (nameF_l1 x).run
noncomputable def nameF_B : (ByteArray × Unit) → Br (Bool × Unit) := fun (p0, ()) =>
 (.cond (bl p0 == bl { data := #[] })
 (.ret (false, ()))
 (.cond (decide ((↑(ByteArray.size p0) : Int) > 16))
 (.ret (false, ()))
 (.cond (decide (0 ≤ 0) && decide (0 < (↑(ByteArray.size p0) : Int)))
 (.opt (letter ((↑(UInt8.toNat (List.getD (bl p0) (Int.toNat 0) 0)) : Int), ())) fun a =>
 (.cond (!a.1)
 (.ret (false, ()))
 (.opt (nameF_w0 (p0, (↑(ByteArray.size p0) : Int), 0, ())) fun b =>
 (.sum b (fun c =>
 (.ret (false, ()))) (fun d =>
 (.opt (nameF_w1 (d.1, IntKind.wrap .i64 (IntKind.wrap .i64 (44 - (↑(ByteArray.size d.1) : Int)) - 1), 0, ())) fun e =>
 (.sum e (fun f =>
 (.ret (false, ()))) (fun g =>
 (.ret (true, ()))))))))))
 (.no))))
noncomputable def nameF := fun x => (nameF_B x).run
noncomputable def nameF_L : List Lp := [
 .mk 4 (shO 58 [] [] [.slot 0 false .str, sI 20, sI 21] []) ([exO .ret 58 [(2, D.c C.ff)] [] [] [], exO (.exit 0) 58 [] [] [.slot 0 false .str] []]) nameF_l0,
 .mk 11 (shO 58 [] [] [.slot 0 false .str, sI 42, sI 43] []) ([exO .ret 58 [(2, D.c C.ff)] [] [] [], exO (.exit 2) 58 [] [] [] []]) nameF_l1]
theorem nameF_oc : OC Tryz.prog 19 [(false, .ty false .str)] [.ty false .bool] nameF := OC.lp en_letter 1024 Tryz.func19 nameF_L (by kernel_rfl) ⟨fun _ => by kernel_rfl, fun _ => by kernel_rfl, trivial⟩ (fun _ => by kernel_rfl)
noncomputable def cx_nameF : Ctx := ocx cx_letter nameF_oc
theorem en_nameF : EnvFull Tryz.prog cx_nameF := ocn en_letter nameF_oc
noncomputable def fieldEq_B : ((ByteArray × Int) × ((ByteArray × Int) × Unit)) → Br (Bool × Unit) := fun (p0, p1, ()) =>
 (.ret (bl p0.1 == bl (List.getD [p1] 0 (ByteArray.empty, 0)).1, ()))
noncomputable def fieldEq := fun x => (fieldEq_B x).run
theorem fieldEq_oc : OC Tryz.prog 43 [(false, .ty false (.st (.pair .str (.int .i64)))), (false, .rf (.st (.pair .str (.int .i64))))] [.ty false .bool] fieldEq := OC.lp en_nameF 1024 Tryz.func43 [] (by kernel_rfl) trivial (fun _ => by kernel_rfl)
noncomputable def cx_fieldEq : Ctx := ocx cx_nameF fieldEq_oc
theorem en_fieldEq : EnvFull Tryz.prog cx_fieldEq := ocn en_nameF fieldEq_oc
noncomputable def idxField_l0 : (zA25 × (((ByteArray × Int) × Unit) × (Int × (Int × Unit)))) → Br ((zA25 × (((ByteArray × Int) × Unit) × (Int × (Int × Unit)))) ⊕ ((Int × Unit) ⊕ Unit)) := fun (a, b, c, d, ()) =>
 (.cond (decide (d < c))
 (.cond (decide (0 ≤ d) && decide (d < (↑(List.length a) : Int)))
 (.opt (fieldEq (List.getD a (Int.toNat d) (ByteArray.empty, 0), b.1, ())) fun e =>
 (.cond e.1
 (.ret (.inr (.inl (d, ()))))
 (.ret (.inl (a, (b.1, ()), c, IntKind.wrap .i64 (d + 1), ())))))
 (.no))
 (.ret (.inr (.inr (())))))
noncomputable def idxField_w0 := iterO fun x => (idxField_l0 x).run
noncomputable def idxField_B : (zA25 × ((ByteArray × Int) × Unit)) → Br (Int × Unit) := fun (p0, p1, ()) =>
 (.opt (idxField_w0 (p0, (p1, ()), (↑(List.length p0) : Int), 0, ())) fun a =>
 (.sum a (fun b =>
 (.ret (b.1, ()))) (fun c =>
 (.ret (-1, ())))))
noncomputable def idxField := fun x => (idxField_B x).run
noncomputable def idxField_L : List Lp := [
 .mk 2 (shO 19 [] [] [.slot 0 true zA27, .cap 1 43 [(.st (.pair .str (.int .i64)))], sI 7, sI 8] []) ([exO .ret 19 [] [] [sI 4] [], exO (.exit 0) 19 [] [] [] []]) idxField_l0]
theorem idxField_oc : OC Tryz.prog 73 [(false, .ty true zA27), (false, .fn 43 (.rf (.st (.pair .str (.int .i64)))))] [.ty false (.int .i64)] idxField := OC.lp en_fieldEq 1024 Tryz.func73 idxField_L (by kernel_rfl) ⟨fun _ => by kernel_rfl, trivial⟩ (fun _ => by kernel_rfl)
noncomputable def cx_idxField : Ctx := ocx cx_fieldEq idxField_oc
theorem en_idxField : EnvFull Tryz.prog cx_idxField := ocn en_fieldEq idxField_oc
noncomputable def hasField_B : (zA25 × ((ByteArray × Int) × Unit)) → Br (Bool × Unit) := fun (p0, p1, ()) =>
 (.opt (idxField (p0, p1, ())) fun y3 =>
 (.ret (decide (y3.1 ≥ 0), ())))
noncomputable def hasField := fun x => (hasField_B x).run
theorem hasField_oc : OC Tryz.prog 42 [(false, .ty true zA27), (false, .fn 43 (.rf (.st (.pair .str (.int .i64)))))] [.ty false .bool] hasField := OC.lp en_idxField 1024 Tryz.func42 [] (by kernel_rfl) trivial (fun _ => by kernel_rfl)
noncomputable def cx_hasField : Ctx := ocx cx_idxField hasField_oc
theorem en_hasField : EnvFull Tryz.prog cx_hasField := ocn en_idxField hasField_oc
noncomputable def fieldsF_l0 : (zA25 × (zA25 × (Int × (Int × Unit)))) → Br ((zA25 × (zA25 × (Int × (Int × Unit)))) ⊕ (Unit ⊕ Unit)) := fun (a, b, c, d, ()) =>
 (.cond (decide (d < c))
 (.cond (decide (0 ≤ d) && decide (d < (↑(List.length b) : Int)))
 (.opt (nameF ((List.getD b (Int.toNat d) (ByteArray.empty, 0)).1, ())) fun e =>
 (.cond (!e.1)
 (.ret (.inr (.inl (()))))
 (.cond (decide ((List.getD b (Int.toNat d) (ByteArray.empty, 0)).2 < 1))
 (.ret (.inr (.inl (()))))
 (.cond (decide ((List.getD b (Int.toNat d) (ByteArray.empty, 0)).2 > 3))
 (.ret (.inr (.inl (()))))
 (.cond (decide (0 ≤ 0) && decide (0 ≤ d) && decide (d ≤ (↑(List.length a) : Int)))
 (.opt (hasField (List.drop (Int.toNat 0) (List.take (Int.toNat d) a), List.getD b (Int.toNat d) (ByteArray.empty, 0), ())) fun f =>
 (.cond f.1
 (.ret (.inr (.inl (()))))
 (.ret (.inl (a, b, c, IntKind.wrap .i64 (d + 1), ())))))
 (.no))))))
 (.no))
 (.ret (.inr (.inr (())))))
noncomputable def fieldsF_w0 := iterO fun x => (fieldsF_l0 x).run
noncomputable def fieldsF_B : (zA25 × Unit) → Br (Bool × Unit) := fun (p0, ()) =>
 (.cond (decide ((↑(List.length p0) : Int) > 8))
 (.ret (false, ()))
 (.opt (fieldsF_w0 (p0, p0, (↑(List.length p0) : Int), 0, ())) fun a =>
 (.sum a (fun b =>
 (.ret (false, ()))) (fun c =>
 (.ret (true, ()))))))
noncomputable def fieldsF := fun x => (fieldsF_B x).run
noncomputable def fieldsF_L : List Lp := [
 .mk 4 (shO 35 [] [] [.slot 0 true zA27, .slot 8 true zA27, sI 9, sI 10] []) ([exO .ret 35 [(2, D.c C.ff)] [] [] [], exO (.exit 0) 35 [] [] [] []]) fieldsF_l0]
theorem fieldsF_oc : OC Tryz.prog 20 [(false, .ty true zA27)] [.ty false .bool] fieldsF := OC.lp en_hasField 1024 Tryz.func20 fieldsF_L (by kernel_rfl) ⟨fun _ => by kernel_rfl, trivial⟩ (fun _ => by kernel_rfl)
noncomputable def cx_fieldsF : Ctx := ocx cx_hasField fieldsF_oc
theorem en_fieldsF : EnvFull Tryz.prog cx_fieldsF := ocn en_hasField fieldsF_oc
noncomputable def cloneField : (zA25 × Unit) → Option (zA25 × Unit) := fun x => bif bound (0 + List.length x.1) 24 then some (x.1, ()) else none
theorem cloneField_oc : OC Tryz.prog 22 [(false, .ty true zA27)] [.ty false zA27] cloneField := OC.clone (k := false) (clone_specB (t := 63) (e := 72) (by_ := 24) (b2 := 24) (en_fieldsF) Tryz.func22 (by kernel_rfl) (by kernel_rfl) (by kernel_rfl) (by kernel_rfl) (by kernel_rfl) true rfl fun l => ⟨.c .bad, [1031, 1029, 1029], by kernel_rfl⟩)
noncomputable def cx_cloneField : Ctx := addO cx_fieldsF 22 (ocOrc [(false, .ty true zA27)] [.ty false zA27] cloneField)
theorem en_cloneField : EnvFull Tryz.prog cx_cloneField := env_add (en_fieldsF) cloneField_oc.callOk
noncomputable def findF_l0 : (ByteArray × (zA11 × (Int × (Int × (ByteArray × Unit))))) → Br ((ByteArray × (zA11 × (Int × (Int × (ByteArray × Unit))))) ⊕ (((ByteArray × zA25) × Unit) ⊕ (ByteArray × Unit))) := fun (a, b, c, d, e, ()) =>
 (.cond (decide (d < c))
 (.cond (decide (0 ≤ d) && decide (d < (↑(List.length b) : Int)))
 (.cond (bl (List.getD b (Int.toNat d) (ByteArray.empty, [])).1 == bl a)
 (.opt (cloneField ((List.getD b (Int.toNat d) (ByteArray.empty, [])).2, ())) fun f =>
 (.ret (.inr (.inl (((List.getD b (Int.toNat d) (ByteArray.empty, [])).1, f.1), ())))))
 (.ret (.inl (a, b, c, IntKind.wrap .i64 (d + 1), e, ()))))
 (.no))
 (.ret (.inr (.inr (e, ())))))
noncomputable def findF_w0 := iterO fun x => (findF_l0 x).run
noncomputable def findF_B : ((Option zA11) × (ByteArray × Unit)) → Br (((ByteArray × zA25) × Bool) × Unit) := fun (p0, p1, ()) =>
 (.cond (Option.isNone p0)
 (.ret (((ByteArray.empty, []), false), ()))
 (.cond (Option.isSome p0)
 (.opt (findF_w0 (p1, List.getD [Option.rec [] (fun (val : Ty.T zA18) => val) p0] 0 [], (↑(List.length (List.getD [Option.rec [] (fun (val : Ty.T zA18) => val) p0] 0 [])) : Int), 0, ByteArray.empty, ())) fun a =>
 (.sum a (fun b =>
 (.ret ((b.1, true), ()))) (fun c =>
 (.ret (((ByteArray.empty, []), false), ())))))
 (.no)))
noncomputable def findF := fun x => (findF_B x).run
noncomputable def findF_L : List Lp := [
 .mk 4 (shO 32 [(4, .c (.ref 1028 0 0))] [(1028, [.bad, .nils])] [.slot 1 false .str, .slot 14 true (.sl (.st (.pair .str zA27))), sI 15, sI 16, .cell 1028 0 false .str] []) ([exO .ret 32 [(4, .c (.ref 1028 0 0)), (5, D.c C.tt)] [(1028, [])] [.tv 1028 false (.st (.pair .str zA27))] [], exO (.exit 0) 32 [(4, .c (.ref 1028 0 0))] [(1028, [.bad, .nils])] [.cell 1028 0 false .str] []]) findF_l0]
theorem findF_oc : OC Tryz.prog 21 [(false, .ty true zA17), (false, .ty false .str)] [.ty false (.st (.pair .str zA27)), .ty false .bool] findF := OC.lp en_cloneField 1024 Tryz.func21 findF_L (by kernel_rfl) ⟨fun _ => by kernel_rfl, trivial⟩ (fun _ => by kernel_rfl)
noncomputable def cx_findF : Ctx := ocx cx_cloneField findF_oc
theorem en_findF : EnvFull Tryz.prog cx_findF := ocn en_cloneField findF_oc
noncomputable def fieldF_l0 : (ByteArray × (zA25 × (Int × (Int × Unit)))) → Br ((ByteArray × (zA25 × (Int × (Int × Unit)))) ⊕ ((Int × (Int × Unit)) ⊕ Unit)) := fun (a, b, c, d, ()) =>
 (.cond (decide (d < c))
 (.cond (decide (0 ≤ d) && decide (d < (↑(List.length b) : Int)))
 (.cond (bl (List.getD b (Int.toNat d) (ByteArray.empty, 0)).1 == bl a)
 (.ret (.inr (.inl (d, (List.getD b (Int.toNat d) (ByteArray.empty, 0)).2, ()))))
 (.ret (.inl (a, b, c, IntKind.wrap .i64 (d + 1), ()))))
 (.no))
 (.ret (.inr (.inr (())))))
noncomputable def fieldF_w0 := iterO fun x => (fieldF_l0 x).run
noncomputable def fieldF_B : ((Option zA11) × (ByteArray × (ByteArray × Unit))) → Br ((Int × Int) × Unit) := fun (p0, p1, p2, ()) =>
 (.opt (findF (p0, p1, ())) fun a =>
 (.opt (fieldF_w0 (p2, a.1.1.2, (↑(List.length a.1.1.2) : Int), 0, ())) fun b =>
 (.sum b (fun c =>
 (.ret ((c.1, c.2.1), ()))) (fun d =>
 (.ret ((-1, 0), ()))))))
noncomputable def fieldF := fun x => (fieldF_B x).run
noncomputable def fieldF_L : List Lp := [
 .mk 3 (shO 34 [] [] [.slot 2 false .str, .slot 19 false zA27, sI 20, sI 21] []) ([exO .ret 34 [] [] [sI 6, sI 7] [], exO (.exit 0) 34 [] [] [] []]) fieldF_l0]
theorem fieldF_oc : OC Tryz.prog 117 [(false, .ty true zA17), (false, .ty false .str), (false, .ty false .str)] [.ty false (.int .i64), .ty false (.int .i64)] fieldF := OC.lp en_findF 1024 Tryz.func117 fieldF_L (by kernel_rfl) ⟨fun _ => by kernel_rfl, trivial⟩ (fun _ => by kernel_rfl)
noncomputable def cx_fieldF : Ctx := ocx cx_findF fieldF_oc
theorem en_fieldF : EnvFull Tryz.prog cx_fieldF := ocn en_findF fieldF_oc
noncomputable def getF_B : ((Option zA11) × (zA2 × (ByteArray × Unit))) → Br ((zA8 × Bool) × Unit) := fun (p0, p1, p2, ()) =>
 (.opt (fieldF (p0, p1.1, p2, ())) fun y4 =>
 (.cond (decide (y4.1.1 < 0))
 (.ret ((zV0, false), ()))
 (.cond (decide (y4.1.1 ≥ (↑(List.length p1.2.2.2.2) : Int)))
 (.ret ((zV0, false), ()))
 (.cond (decide (0 ≤ y4.1.1) && decide (y4.1.1 < (↑(List.length p1.2.2.2.2) : Int)))
 (.ret ((List.getD p1.2.2.2.2 (Int.toNat y4.1.1) zV0, true), ()))
 (.no)))))
noncomputable def getF := fun x => (getF_B x).run
theorem getF_oc : OC Tryz.prog 107 [(false, .ty true zA17), (false, .ty true zA9), (false, .ty false .str)] [.ty false zA4, .ty false .bool] getF := OC.lp en_fieldF 1024 Tryz.func107 [] (by kernel_rfl) trivial (fun _ => by kernel_rfl)
noncomputable def cx_getF : Ctx := ocx cx_fieldF getF_oc
theorem en_getF : EnvFull Tryz.prog cx_getF := ocn en_fieldF getF_oc
end Go.Proofs.YtiblijkhpmemeaaGreat
