/- A statement's row from a contract, at the very arguments that came in. Abbreviations of types, for the printed texts. The types that the functions use, as the pure interpreter has them; the functions that are gone through in place. Printed by gentb2.py. The context in which all functions are reckoned: types, and which may be compared. Contracts of functions. Printed by auto.py. -/
import Derived.Test.YtkbdofnbagmlfaaGreatGe
import Derived.Test.YtkbdofnbagmlfaaGreatGa
import Derived.Test.YtkbdofnbagmlfaaGreatGd
import Derived.KernelRfl
import Derived.Test.YtkbdofnbagmlfaaGreatProg
namespace Go.PI
open Go.RowKit
variable {P : Program}
theorem OC.rowG {f : Nat} {ins : List (Bool × Pat)} {F : PArgs ins -> Option (POuts [Pat.ty false .bool] × PBack ins)} (h : OC P f ins [Pat.ty false .bool] F) {W : World} {xs : PArgs ins} {vs : List Value} (hp : PAK (fun _ b => b < W.heap.size) W ins xs vs []) {z : PBack ins} (hF : F xs = some (true, z)) :
  Calls P f vs.toArray W fun e W' => e = .returned (.bool true) /\ Below W.heap.size W W' := by
 refine (h.ok W (fun _ b => b < W.heap.size) (fun _ h => h) (fun _ h => h) _ vs [] hp List.nodup_nil (fun b hb => by simp at hb) _ hF).mono ?_
 rintro e W' ⟨v, J', B1, B2, rfl, r1, _, _, _, _, _, r7, r8, r9, r10, r11⟩
 obtain ⟨_, hv⟩ : PV (fun _ => J') W' (.ty false .bool) true v B1 := r1
 have hv := hv.2 rfl
 have hv : v = .bool true := by simpa [K] using hv
 subst hv
 exact ⟨rfl, r7, r8.1, r9, r10, fun b hb => r11 b hb (by simp)⟩
end Go.PI

namespace Go.Proofs.YtkbdofnbagmlfaaGreat
open Go.PI Go
abbrev zA4 : Ty := .st (.pair (.int .i64) (.pair (.int .i64) (.pair .str .bool)))
abbrev zA8 : Type := Int × (Int × (ByteArray × Bool))
abbrev zA2 : Type := ByteArray × (ByteArray × (Int × (Int × (List zA8))))
abbrev zA9 : Ty := .st (.pair .str (.pair .str (.pair (.int .i64) (.pair (.int .i64) (.sl zA4)))))
abbrev ZaX : Type := Int × (zA8 × (ByteArray × ByteArray))
abbrev zA1 : Type := ByteArray × ((List ByteArray) × (Bool × (Int × (Int × (List ZaX)))))
abbrev Za5 : Type := (List zA1) × (Int × Int)
abbrev Zca : Ty := .st (.pair (.int .i64) (.pair zA4 (.pair .str .str)))
abbrev Zad : Ty := .st (.pair (.int .i64) (.int .i64))
abbrev zA7 : Ty := .st (.pair (.int .i64) (.pair (.chain Zad) (.pair (.chain (.st (.pair .str zA9))) (.pair (.int .i64) (.pair (.st (.pair (.int .i64) (.pair (.int .i64) (.int .i64)))) .bool)))))
abbrev zA18 : Ty := Ty.st (Ty.sl (Ty.st (Ty.pair Ty.str (Ty.sl (Ty.st (Ty.pair Ty.str (Ty.int IntKind.i64)))))))
abbrev ZaU : Ty := .st (.pair .str (.pair (.sl .str) (.pair .bool (.pair (.int .i64) (.pair (.int .i64) (.sl Zca))))))
abbrev zA5 : Ty := .st (.pair (.sl ZaU) (.pair (.int .i64) (.int .i64)))
abbrev ZaK : Type := List (ByteArray × zA2)
abbrev zA6 : Type := Int × ((List (Int × Int)) × (ZaK × (Int × ((Int × (Int × Int)) × Bool))))
abbrev zA23 : Type := List (List (Int × Int))
abbrev Zc4 : Type := List (ByteArray × Int)
abbrev Zcc : Type := List (ByteArray × Zc4)
abbrev ZbP : Ty := .sl (.st (.pair .str (.int .i64)))
abbrev Zfj : Ty := .ptr (.st (.sl (.st (.pair .str ZbP))))
abbrev zA28 : Type := (List zA2) × (Int × (Int × ((List zA2) × Unit)))
abbrev zA30 : Type := Int × (Int × (Int × (Int × ((List zA1) × Unit))))
abbrev zA31 : Type := (List (Int × Int)) × Unit
abbrev zA33 : Type := Int × ((List zA8) × ((List zA8) × (Int × (Int × (zA8 × Unit)))))
abbrev zA34 : Type := (Option Zcc) × (ZaK × ((List ZaX) × (Int × (Int × (zA8 × ((List zA8) × Unit))))))
abbrev Zb9 : Ty := .sl (.st (.pair .str zA9))
abbrev zAn (x k : Int) : Int := IntKind.wrap .i64 (↑(BitVec.toNat (BitVec.ofInt (IntKind.bits .i64) x &&& BitVec.ofInt (IntKind.bits .i64) k)) : Int)
abbrev zSh (x k : Int) : Int := Int.fdiv x (2 ^ min (Int.toNat k) (IntKind.bits .i64))
abbrev zV0 : zA8 := (0, 0, ByteArray.empty, false)
abbrev zV1 : zA2 := (ByteArray.empty, ByteArray.empty, 0, 0, [])
abbrev zV2 : zA1 := (ByteArray.empty, [], false, 0, 0, [])
abbrev zV3 : ByteArray × zA2 := (ByteArray.empty, ByteArray.empty, ByteArray.empty, 0, 0, [])
end Go.Proofs.YtkbdofnbagmlfaaGreat

namespace Go.Proofs.YtkbdofnbagmlfaaGreat
set_option maxRecDepth 100000
open Go.PI
abbrev zK3 : Ty := .pair (.int .i64) (.int .i64)
abbrev zK7 : Ty := .st (.pair (.int .i64) (.pair (.int .i64) (.pair .str .bool)))
abbrev zK2 : Ty := .st (.pair .str (.pair .str (.pair (.int .i64) (.pair (.int .i64) (.sl zK7)))))
abbrev zK8 : Ty := .st (.pair .str (.sl (.st (.pair .str (.int .i64)))))
abbrev zK10 : Ty := .st (.pair .str zK2)
abbrev zK5 : Ty := .st (.pair (.int .i64) (.pair (.chain (.st zK3)) (.pair (.chain zK10) (.pair (.int .i64) (.pair (.st (.pair (.int .i64) zK3)) .bool)))))
abbrev zK9 : Ty := .st (.pair (.int .i64) (.pair (.sl (.st zK3)) (.pair (.sl zK10) (.pair (.int .i64) (.pair (.st (.pair (.int .i64) zK3)) .bool)))))
abbrev zK11 : Ty := .st (.pair (.int .i64) (.pair zK7 (.pair .str .str)))
abbrev zK4 : Ty := .st (.pair .str (.pair (.sl .str) (.pair .bool (.pair (.int .i64) (.pair (.int .i64) (.sl zK11))))))
abbrev zK1 : Ty := .st (.pair (.sl zK4) zK3)
abbrev zK6 : Ty := .st (.pair (.ptr (.st (.sl zK8))) (.pair zK1 (.ptr (.st (.pair zK1 (.sl (.st zK3)))))))
def tblA : List (Nat × TI) := [
 (2, ⟨(.int .i64), 8, .oth⟩),
 (3, ⟨(.int .i64), 8, .oth⟩),
 (4, ⟨.bool, 1, .oth⟩),
 (5, ⟨(.int .u8), 1, .oth⟩),
 (6, ⟨(.int .u8), 1, .oth⟩),
 (7, ⟨(.st (.pair (.int .i64) (.pair (.int .i64) (.pair .bool (.int .u8))))), 24, (.st [(0, 2), (1, 3), (2, 4), (3, 6)])⟩),
 (8, ⟨(.st (.pair (.int .i64) (.pair (.int .i64) (.pair .bool (.int .u8))))), 24, (.st [(0, 2), (1, 3), (2, 4), (3, 6)])⟩),
 (9, ⟨.str, 16, .oth⟩),
 (10, ⟨.str, 16, .oth⟩),
 (11, ⟨.str, 16, .oth⟩),
 (12, ⟨(.int .u64), 8, .oth⟩),
 (13, ⟨(.st (.pair .str (.int .u64))), 24, (.st [(0, 9), (1, 12)])⟩),
 (14, ⟨(.st (.pair .str (.int .u64))), 24, (.st [(0, 9), (1, 12)])⟩),
 (21, ⟨(.int .i32), 4, .oth⟩),
 (22, ⟨(.sl (.int .i64)), 24, (.sl 3)⟩),
 (23, ⟨(.sl zK2), 24, (.sl 43)⟩),
 (24, ⟨(.ptr (.st (.sl zK8))), 8, (.pt 58)⟩),
 (25, ⟨(.int .i64), 8, .oth⟩),
 (28, ⟨(.sl zK8), 24, (.sl 61)⟩),
 (30, ⟨(.sl zK4), 24, (.sl 76)⟩),
 (31, ⟨zK1, 40, (.st [(0, 30), (1, 2), (2, 3)])⟩),
 (32, ⟨zK1, 40, (.st [(0, 30), (1, 2), (2, 3)])⟩),
 (35, ⟨(.sl (.sl (.st zK3))), 24, (.sl 49)⟩),
 (37, ⟨(.ptr (.st (.pair (.ptr zK6) (.pair zK1 (.sl zK5))))), 8, (.pt 90)⟩),
 (41, ⟨(.sl zK7), 24, (.sl 150)⟩),
 (42, ⟨zK2, 72, (.st [(0, 9), (1, 9), (2, 2), (3, 2), (4, 41)])⟩),
 (43, ⟨zK2, 72, (.st [(0, 9), (1, 9), (2, 2), (3, 2), (4, 41)])⟩),
 (49, ⟨(.sl (.st zK3)), 24, (.sl 83)⟩),
 (53, ⟨(.int .u64), 8, .oth⟩),
 (55, ⟨(.sl zK9), 24, (.sl 105)⟩),
 (57, ⟨(.st (.sl zK8)), 24, (.st [(0, 28)])⟩),
 (58, ⟨(.st (.sl zK8)), 24, (.st [(0, 28)])⟩),
 (59, ⟨(.sl (.st (.pair .str (.int .i64)))), 24, (.sl 68)⟩),
 (60, ⟨zK8, 40, (.st [(0, 9), (1, 59)])⟩),
 (61, ⟨zK8, 40, (.st [(0, 9), (1, 59)])⟩),
 (67, ⟨(.st (.pair .str (.int .i64))), 24, (.st [(0, 9), (1, 3)])⟩),
 (68, ⟨(.st (.pair .str (.int .i64))), 24, (.st [(0, 9), (1, 3)])⟩),
 (71, ⟨(.st (.pair zK1 (.pair (.sl zK2) (.sl (.sl (.st zK3)))))), 88, (.st [(0, 32), (3, 23), (4, 35)])⟩),
 (72, ⟨(.st (.pair zK1 (.pair (.sl zK2) (.sl (.sl (.st zK3)))))), 88, (.st [(0, 32), (3, 23), (4, 35)])⟩),
 (73, ⟨(.sl .str), 24, (.sl 9)⟩),
 (74, ⟨(.sl zK11), 24, (.sl 152)⟩),
 (75, ⟨zK4, 88, (.st [(0, 9), (1, 73), (2, 4), (3, 3), (4, 3), (5, 74)])⟩),
 (76, ⟨zK4, 88, (.st [(0, 9), (1, 73), (2, 4), (3, 3), (4, 3), (5, 74)])⟩),
 (78, ⟨(.sl zK10), 24, (.sl 80)⟩),
 (79, ⟨zK10, 88, (.st [(0, 9), (1, 43)])⟩),
 (80, ⟨zK10, 88, (.st [(0, 9), (1, 43)])⟩),
 (82, ⟨(.st zK3), 16, (.st [(0, 3), (1, 2)])⟩),
 (83, ⟨(.st zK3), 16, (.st [(0, 3), (1, 2)])⟩),
 (85, ⟨(.ptr zK6), 8, (.pt 124)⟩),
 (88, ⟨(.sl zK5), 24, (.sl 97)⟩),
 (89, ⟨(.st (.pair (.ptr zK6) (.pair zK1 (.sl zK5)))), 72, (.st [(0, 85), (1, 32), (4, 88)])⟩),
 (90, ⟨(.st (.pair (.ptr zK6) (.pair zK1 (.sl zK5)))), 72, (.st [(0, 85), (1, 32), (4, 88)])⟩),
 (92, ⟨(.chain (.st zK3)), 8, (.pt 198)⟩),
 (93, ⟨(.chain zK10), 8, (.pt 203)⟩),
 (94, ⟨(.st (.pair (.int .i64) zK3)), 24, (.st [(0, 2), (1, 2), (2, 3)])⟩),
 (95, ⟨(.st (.pair (.int .i64) zK3)), 24, (.st [(0, 2), (1, 2), (2, 3)])⟩),
 (96, ⟨zK5, 64, (.st [(0, 3), (1, 92), (2, 93), (3, 2), (4, 95), (7, 4)])⟩),
 (97, ⟨zK5, 64, (.st [(0, 3), (1, 92), (2, 93), (3, 2), (4, 95), (7, 4)])⟩),
 (104, ⟨zK9, 96, (.st [(0, 3), (1, 49), (2, 78), (3, 2), (4, 95), (7, 4)])⟩),
 (105, ⟨zK9, 96, (.st [(0, 3), (1, 49), (2, 78), (3, 2), (4, 95), (7, 4)])⟩),
 (121, ⟨(.ptr (.st (.pair zK1 (.sl (.st zK3))))), 8, (.pt 160)⟩),
 (123, ⟨zK6, 56, (.st [(0, 24), (1, 32), (4, 121)])⟩),
 (124, ⟨zK6, 56, (.st [(0, 24), (1, 32), (4, 121)])⟩),
 (128, ⟨(.st zK3), 16, (.st [(0, 3), (1, 3)])⟩),
 (129, ⟨(.st zK3), 16, (.st [(0, 3), (1, 3)])⟩),
 (148, ⟨(.sl (.sl .str)), 24, (.sl 73)⟩),
 (149, ⟨zK7, 40, (.st [(0, 3), (1, 2), (2, 9), (3, 4)])⟩),
 (150, ⟨zK7, 40, (.st [(0, 3), (1, 2), (2, 9), (3, 4)])⟩),
 (151, ⟨zK11, 80, (.st [(0, 3), (1, 150), (5, 9), (6, 9)])⟩),
 (152, ⟨zK11, 80, (.st [(0, 3), (1, 150), (5, 9), (6, 9)])⟩),
 (158, ⟨(.sl (.st zK3)), 24, (.sl 129)⟩),
 (159, ⟨(.st (.pair zK1 (.sl (.st zK3)))), 64, (.st [(0, 32), (3, 158)])⟩),
 (160, ⟨(.st (.pair zK1 (.sl (.st zK3)))), 64, (.st [(0, 32), (3, 158)])⟩),
 (176, ⟨(.int .i64), 8, .oth⟩),
 (184, ⟨(.int .u32), 4, .oth⟩),
 (186, ⟨(.int .u64), 8, .oth⟩),
 (193, ⟨(.ptr zK4), 8, (.pt 76)⟩),
 (197, ⟨(.st (.pair (.st zK3) (.pair (.chain (.st zK3)) (.int .i64)))), 32, (.st [(0, 83), (2, 92), (3, 3)])⟩),
 (198, ⟨(.st (.pair (.st zK3) (.pair (.chain (.st zK3)) (.int .i64)))), 32, (.st [(0, 83), (2, 92), (3, 3)])⟩),
 (202, ⟨(.st (.pair zK10 (.pair (.chain zK10) (.int .i64)))), 104, (.st [(0, 80), (6, 93), (7, 3)])⟩),
 (203, ⟨(.st (.pair zK10 (.pair (.chain zK10) (.int .i64)))), 104, (.st [(0, 80), (6, 93), (7, 3)])⟩),
 (206, ⟨(.int .u64), 8, .oth⟩),
 (210, ⟨(.ptr (.int .i64)), 8, (.pt 3)⟩),
 (220, ⟨(.ptr (.int .u64)), 8, (.pt 206)⟩),
 (246, ⟨(.int .u8), 1, .oth⟩),
 (247, ⟨(.int .u8), 1, .oth⟩),
 (249, ⟨(.ptr (.int .u8)), 8, (.pt 5)⟩),
 (250, ⟨(.int .i32), 4, .oth⟩),
 (251, ⟨(.int .i32), 4, .oth⟩)]
noncomputable def tbA (n : Nat) : Option TI := lookT n tblA
theorem tbAOk : TbOk Tryz.prog tbA := ZrG (by kernel_rfl)
end Go.Proofs.YtkbdofnbagmlfaaGreat

namespace Go.Proofs.YtkbdofnbagmlfaaGreat
open Go.PI
noncomputable def cx0 : Ctx := withE (mkC tbA []) [150, 152, 95, 83, 129]
theorem en0 : EnvFull Tryz.prog cx0 := env_E (Zsq (by kernel_rfl) tbAOk) (by kernel_rfl)
end Go.Proofs.YtkbdofnbagmlfaaGreat

namespace Go.Proofs.YtkbdofnbagmlfaaGreat
set_option maxRecDepth 100000
open Go.PI Go
noncomputable section
def Zoz : (Int × Unit) -> Br (Bool × Unit) := fun (p0, ()) =>
 (.cond (decide (p0 >= 97))
 (.cond (decide (p0 <= 122))
 (.ret (true, ()))
 (.cond (decide (p0 >= 65))
 (.cond (decide (p0 <= 90))
 (.ret (true, ()))
 (.ret (p0 == 95, ())))
 (.ret (p0 == 95, ()))))
 (.cond (decide (p0 >= 65))
 (.cond (decide (p0 <= 90))
 (.ret (true, ()))
 (.ret (p0 == 95, ())))
 (.ret (p0 == 95, ()))))
def letter := fun x => (Zoz x).run
theorem ZnB : OC Tryz.prog 43 [(false, .ty false (.int .u8))] [.ty false .bool] letter := OC.lp en0 1024 Tryz.func43 [] (by kernel_rfl) trivial (fun _ => by kernel_rfl)
def cx_letter : Ctx := ocx cx0 ZnB
theorem Zl5 : EnvFull Tryz.prog cx_letter := ocn en0 ZnB
def Zg8 : (ByteArray × (Int × (Int × Unit))) -> Br ((ByteArray × (Int × (Int × Unit))) ⊕ (Unit ⊕ (ByteArray × Unit))) := fun (a, b, c, ()) =>
 (.cond (decide (c < b))
 (.cond (decide (0 <= c) && decide (c < (↑(ByteArray.size a) : Int)))
 (.opt (letter ((↑(UInt8.toNat (List.getD (bl a) c.toNat 0)) : Int), ())) fun d =>
 (.cond (!d.1)
 (.cond (decide ((↑(UInt8.toNat (List.getD (bl a) c.toNat 0)) : Int) < 48))
 (.ret (.inr (.inl (()))))
 (.cond (decide ((↑(UInt8.toNat (List.getD (bl a) c.toNat 0)) : Int) > 57))
 (.ret (.inr (.inl (()))))
 (.ret (.inl (a, b, IntKind.wrap .i64 (c + 1), ())))))
 (.ret (.inl (a, b, IntKind.wrap .i64 (c + 1), ())))))
 (.no))
 (.ret (.inr (.inr (a, ())))))
def nameF_w0 := Zag fun x => (Zg8 x).run
def ZgP : (ByteArray × (Int × (Int × Unit))) -> Br ((ByteArray × (Int × (Int × Unit))) ⊕ (Unit ⊕ Unit)) := fun (a, b, c, ()) =>
 (.cond (decide (c < b))
 (.cond (decide (0 <= c) && decide (c <= IntKind.wrap .i64 (IntKind.wrap .i64 (c + (↑(ByteArray.size a) : Int)) + 2)) && decide (IntKind.wrap .i64 (IntKind.wrap .i64 (c + (↑(ByteArray.size a) : Int)) + 2) <= (↑(ByteArray.size { data := #[32, 83, 69, 81, 32, 87, 72, 69, 82, 69, 32, 87, 73, 84, 72, 73, 78, 32, 67, 65, 80, 32, 97, 110, 100, 32, 111, 114, 32, 110, 111, 116, 32, 116, 114, 117, 101, 32, 102, 97, 108, 115, 101, 32] }) : Int)))
 (.cond (decide (ByteArray.size { data := #[32] } + ByteArray.size a <= 9223372036854775807))
 (.cond (decide (ByteArray.size (bcat { data := #[32] } a) + ByteArray.size { data := #[32] } <= 9223372036854775807))
 (.cond (bl (bsub { data := #[32, 83, 69, 81, 32, 87, 72, 69, 82, 69, 32, 87, 73, 84, 72, 73, 78, 32, 67, 65, 80, 32, 97, 110, 100, 32, 111, 114, 32, 110, 111, 116, 32, 116, 114, 117, 101, 32, 102, 97, 108, 115, 101, 32] } c.toNat (Int.toNat (IntKind.wrap .i64 (IntKind.wrap .i64 (c + (↑(ByteArray.size a) : Int)) + 2)))) == bl (bcat (bcat { data := #[32] } a) { data := #[32] }))
 (.ret (.inr (.inl (()))))
 (.ret (.inl (a, b, IntKind.wrap .i64 (c + 1), ()))))
 (.no))
 (.no))
 (.no))
 (.ret (.inr (.inr (())))))
def nameF_w1 := Zag fun x => (ZgP x).run
def Zrt : (ByteArray × Unit) -> Br (Bool × Unit) := fun (p0, ()) =>
 (.cond (bl p0 == bl { data := #[] })
 (.ret (false, ()))
 (.cond (decide ((↑(ByteArray.size p0) : Int) > 16))
 (.ret (false, ()))
 (.cond (decide (0 <= 0) && decide (0 < (↑(ByteArray.size p0) : Int)))
 (.opt (letter ((↑(UInt8.toNat (List.getD (bl p0) (Int.toNat 0) 0)) : Int), ())) fun a =>
 (.cond (!a.1)
 (.ret (false, ()))
 (.opt (nameF_w0 (p0, (↑(ByteArray.size p0) : Int), 0, ())) fun b =>
 (.sum b (fun c =>
 (.ret (false, ()))) (fun d =>
 (.opt (nameF_w1 (d.1, IntKind.wrap .i64 (IntKind.wrap .i64 (44 - (↑(ByteArray.size d.1) : Int)) - 1), 0, ())) fun e =>
 (.sum e (fun f =>
 (.ret (false, ()))) (fun g =>
 (.ret (true, ()))))))))))
 (.no))))
def nameF := fun x => (Zrt x).run
def nameF_L : List Lp := [
 .mk 4 (shO 58 [] [] [.slot 0 false .str, sI 20, sI 21] []) ([exO .ret 58 [(2, D.c C.ff)] [] [] [], exO (.exit 0) 58 [] [] [.slot 0 false .str] []]) Zg8,
 .mk 11 (shO 58 [] [] [.slot 0 false .str, sI 42, sI 43] []) ([exO .ret 58 [(2, D.c C.ff)] [] [] [], exO (.exit 2) 58 [] [] [] []]) ZgP]
theorem ZoJ : OC Tryz.prog 21 [(false, .ty false .str)] [.ty false .bool] nameF := OC.lp Zl5 1024 Tryz.func21 nameF_L (by kernel_rfl) ⟨fun _ => by kernel_rfl, fun _ => by kernel_rfl, trivial⟩ (fun _ => by kernel_rfl)
def cx_nameF : Ctx := ocx cx_letter ZoJ
theorem ZoA : EnvFull Tryz.prog cx_nameF := ocn Zl5 ZoJ
def ZuU : ((ByteArray × Int) × ((ByteArray × Int) × Unit)) -> Br (Bool × Unit) := fun (p0, p1, ()) =>
 (.ret (bl p0.1 == bl (List.getD [p1] 0 (ByteArray.empty, 0)).1, ()))
def fieldEq := fun x => (ZuU x).run
theorem Zj7 : OC Tryz.prog 45 [(false, .ty false (.st (.pair .str (.int .i64)))), (false, .rf (.st (.pair .str (.int .i64))))] [.ty false .bool] fieldEq := OC.lp ZoA 1024 Tryz.func45 [] (by kernel_rfl) trivial (fun _ => by kernel_rfl)
def cx_fieldEq : Ctx := ocx cx_nameF Zj7
theorem Zk6 : EnvFull Tryz.prog cx_fieldEq := ocn ZoA Zj7
def ZiY : (Zc4 × (((ByteArray × Int) × Unit) × (Int × (Int × Unit)))) -> Br ((Zc4 × (((ByteArray × Int) × Unit) × (Int × (Int × Unit)))) ⊕ ((Int × Unit) ⊕ Unit)) := fun (a, b, c, d, ()) =>
 (.cond (decide (d < c))
 (.cond (decide (0 <= d) && decide (d < (a.length : Int)))
 (.opt (fieldEq (a.getD d.toNat (ByteArray.empty, 0), b.1, ())) fun e =>
 (.cond e.1
 (.ret (.inr (.inl (d, ()))))
 (.ret (.inl (a, (b.1, ()), c, IntKind.wrap .i64 (d + 1), ())))))
 (.no))
 (.ret (.inr (.inr (())))))
def idxField_w0 := Zag fun x => (ZiY x).run
def Zte : (Zc4 × ((ByteArray × Int) × Unit)) -> Br (Int × Unit) := fun (p0, p1, ()) =>
 (.opt (idxField_w0 (p0, (p1, ()), (p0.length : Int), 0, ())) fun a =>
 (.sum a (fun b =>
 (.ret (b.1, ()))) (fun c =>
 (.ret (-1, ())))))
def idxField := fun x => (Zte x).run
def Zth : List Lp := [
 .mk 2 (shO 19 [] [] [.slot 0 true ZbP, .cap 1 45 [(.st (.pair .str (.int .i64)))], sI 7, sI 8] []) ([exO .ret 19 [] [] [sI 4] [], exO (.exit 0) 19 [] [] [] []]) ZiY]
theorem ZiQ : OC Tryz.prog 82 [(false, .ty true ZbP), (false, .fn 45 (.rf (.st (.pair .str (.int .i64)))))] [.ty false (.int .i64)] idxField := OC.lp Zk6 1024 Tryz.func82 Zth (by kernel_rfl) ⟨fun _ => by kernel_rfl, trivial⟩ (fun _ => by kernel_rfl)
def cx_idxField : Ctx := ocx cx_fieldEq ZiQ
theorem ZiG : EnvFull Tryz.prog cx_idxField := ocn Zk6 ZiQ
def ZtP : (Zc4 × ((ByteArray × Int) × Unit)) -> Br (Bool × Unit) := fun (p0, p1, ()) =>
 (.opt (idxField (p0, p1, ())) fun y3 =>
 (.ret (decide (y3.1 >= 0), ())))
def hasField := fun x => (ZtP x).run
theorem ZiF : OC Tryz.prog 44 [(false, .ty true ZbP), (false, .fn 45 (.rf (.st (.pair .str (.int .i64)))))] [.ty false .bool] hasField := OC.lp ZiG 1024 Tryz.func44 [] (by kernel_rfl) trivial (fun _ => by kernel_rfl)
def cx_hasField : Ctx := ocx cx_idxField ZiF
theorem Zjh : EnvFull Tryz.prog cx_hasField := ocn ZiG ZiF
def Zkp : (Zc4 × (Zc4 × (Int × (Int × Unit)))) -> Br ((Zc4 × (Zc4 × (Int × (Int × Unit)))) ⊕ (Unit ⊕ Unit)) := fun (a, b, c, d, ()) =>
 (.cond (decide (d < c))
 (.cond (decide (0 <= d) && decide (d < (b.length : Int)))
 (.opt (nameF ((b.getD d.toNat (ByteArray.empty, 0)).1, ())) fun e =>
 (.cond (!e.1)
 (.ret (.inr (.inl (()))))
 (.cond (decide ((b.getD d.toNat (ByteArray.empty, 0)).2 < 1))
 (.ret (.inr (.inl (()))))
 (.cond (decide ((b.getD d.toNat (ByteArray.empty, 0)).2 > 3))
 (.ret (.inr (.inl (()))))
 (.cond (decide (0 <= 0) && decide (0 <= d) && decide (d <= (a.length : Int)))
 (.opt (hasField (List.drop (Int.toNat 0) (List.take d.toNat a), b.getD d.toNat (ByteArray.empty, 0), ())) fun f =>
 (.cond f.1
 (.ret (.inr (.inl (()))))
 (.ret (.inl (a, b, c, IntKind.wrap .i64 (d + 1), ())))))
 (.no))))))
 (.no))
 (.ret (.inr (.inr (())))))
def fieldsF_w0 := Zag fun x => (Zkp x).run
def Zvc : (Zc4 × Unit) -> Br (Bool × Unit) := fun (p0, ()) =>
 (.cond (decide ((p0.length : Int) > 8))
 (.ret (false, ()))
 (.opt (fieldsF_w0 (p0, p0, (p0.length : Int), 0, ())) fun a =>
 (.sum a (fun b =>
 (.ret (false, ()))) (fun c =>
 (.ret (true, ()))))))
def fieldsF := fun x => (Zvc x).run
def ZuL : List Lp := [
 .mk 4 (shO 35 [] [] [.slot 0 true ZbP, .slot 8 true ZbP, sI 9, sI 10] []) ([exO .ret 35 [(2, D.c C.ff)] [] [] [], exO (.exit 0) 35 [] [] [] []]) Zkp]
theorem Zlp : OC Tryz.prog 22 [(false, .ty true ZbP)] [.ty false .bool] fieldsF := OC.lp Zjh 1024 Tryz.func22 ZuL (by kernel_rfl) ⟨fun _ => by kernel_rfl, trivial⟩ (fun _ => by kernel_rfl)
def cx_fieldsF : Ctx := ocx cx_hasField Zlp
theorem ZkB : EnvFull Tryz.prog cx_fieldsF := ocn Zjh Zlp
def cloneField : (Zc4 × Unit) -> Option (Zc4 × Unit) := fun x => bif bound (0 + List.length x.1) 24 then some (x.1, ()) else none
theorem ZnV : OC Tryz.prog 24 [(false, .ty true ZbP)] [.ty false ZbP] cloneField := OC.clone (k := false) (Zeg (t := 59) (e := 68) (by_ := 24) (b2 := 24) (ZkB) Tryz.func24 (by kernel_rfl) (by kernel_rfl) (by kernel_rfl) (by kernel_rfl) (by kernel_rfl) true rfl fun l => ⟨.c .bad, [1031, 1029, 1029], by kernel_rfl⟩)
def cx_cloneField : Ctx := Zba cx_fieldsF 24 (ZaV [(false, .ty true ZbP)] [.ty false ZbP] cloneField)
theorem Zhq : EnvFull Tryz.prog cx_cloneField := Zas (ZkB) ZnV.callOk
def Zg1 : (ByteArray × (Zcc × (Int × (Int × (ByteArray × Unit))))) -> Br ((ByteArray × (Zcc × (Int × (Int × (ByteArray × Unit))))) ⊕ (((ByteArray × Zc4) × Unit) ⊕ (ByteArray × Unit))) := fun (a, b, c, d, e, ()) =>
 (.cond (decide (d < c))
 (.cond (decide (0 <= d) && decide (d < (b.length : Int)))
 (.cond (bl (b.getD d.toNat (ByteArray.empty, [])).1 == bl a)
 (.opt (cloneField ((b.getD d.toNat (ByteArray.empty, [])).2, ())) fun f =>
 (.ret (.inr (.inl (((b.getD d.toNat (ByteArray.empty, [])).1, f.1), ())))))
 (.ret (.inl (a, b, c, IntKind.wrap .i64 (d + 1), e, ()))))
 (.no))
 (.ret (.inr (.inr (e, ())))))
def findF_w0 := Zag fun x => (Zg1 x).run
def Zrz : ((Option Zcc) × (ByteArray × Unit)) -> Br (((ByteArray × Zc4) × Bool) × Unit) := fun (p0, p1, ()) =>
 (.cond (Option.isNone p0)
 (.ret (((ByteArray.empty, []), false), ()))
 (.cond (Option.isSome p0)
 (.opt (findF_w0 (p1, List.getD [Option.rec [] (fun (val : Ty.T zA18) => val) p0] 0 [], (↑(List.length (List.getD [Option.rec [] (fun (val : Ty.T zA18) => val) p0] 0 [])) : Int), 0, ByteArray.empty, ())) fun a =>
 (.sum a (fun b =>
 (.ret ((b.1, true), ()))) (fun c =>
 (.ret (((ByteArray.empty, []), false), ())))))
 (.no)))
def findF := fun x => (Zrz x).run
def findF_L : List Lp := [
 .mk 4 (shO 32 [(4, .c (.ref 1028 0 0))] [(1028, [.bad, .nils])] [.slot 1 false .str, .slot 14 true (.sl (.st (.pair .str ZbP))), sI 15, sI 16, .cell 1028 0 false .str] []) ([exO .ret 32 [(4, .c (.ref 1028 0 0)), (5, D.c C.tt)] [(1028, [])] [.tv 1028 false (.st (.pair .str ZbP))] [], exO (.exit 0) 32 [(4, .c (.ref 1028 0 0))] [(1028, [.bad, .nils])] [.cell 1028 0 false .str] []]) Zg1]
theorem Zoh : OC Tryz.prog 23 [(false, .ty true Zfj), (false, .ty false .str)] [.ty false (.st (.pair .str ZbP)), .ty false .bool] findF := OC.lp Zhq 1024 Tryz.func23 findF_L (by kernel_rfl) ⟨fun _ => by kernel_rfl, trivial⟩ (fun _ => by kernel_rfl)
def cx_findF : Ctx := ocx cx_cloneField Zoh
theorem ZoN : EnvFull Tryz.prog cx_findF := ocn Zhq Zoh
def ZfJ : (ByteArray × (Zc4 × (Int × (Int × Unit)))) -> Br ((ByteArray × (Zc4 × (Int × (Int × Unit)))) ⊕ ((Int × (Int × Unit)) ⊕ Unit)) := fun (a, b, c, d, ()) =>
 (.cond (decide (d < c))
 (.cond (decide (0 <= d) && decide (d < (b.length : Int)))
 (.cond (bl (b.getD d.toNat (ByteArray.empty, 0)).1 == bl a)
 (.ret (.inr (.inl (d, (b.getD d.toNat (ByteArray.empty, 0)).2, ()))))
 (.ret (.inl (a, b, c, IntKind.wrap .i64 (d + 1), ()))))
 (.no))
 (.ret (.inr (.inr (())))))
def fieldF_w0 := Zag fun x => (ZfJ x).run
def Zn9 : ((Option Zcc) × (ByteArray × (ByteArray × Unit))) -> Br ((Int × Int) × Unit) := fun (p0, p1, p2, ()) =>
 (.opt (findF (p0, p1, ())) fun a =>
 (.opt (fieldF_w0 (p2, a.1.1.2, (a.1.1.2.length : Int), 0, ())) fun b =>
 (.sum b (fun c =>
 (.ret ((c.1, c.2.1), ()))) (fun d =>
 (.ret ((-1, 0), ()))))))
def fieldF := fun x => (Zn9 x).run
def fieldF_L : List Lp := [
 .mk 3 (shO 34 [] [] [.slot 2 false .str, .slot 19 false ZbP, sI 20, sI 21] []) ([exO .ret 34 [] [] [sI 6, sI 7] [], exO (.exit 0) 34 [] [] [] []]) ZfJ]
theorem Zm0 : OC Tryz.prog 153 [(false, .ty true Zfj), (false, .ty false .str), (false, .ty false .str)] [.ty false (.int .i64), .ty false (.int .i64)] fieldF := OC.lp ZoN 1024 Tryz.func153 fieldF_L (by kernel_rfl) ⟨fun _ => by kernel_rfl, trivial⟩ (fun _ => by kernel_rfl)
def cx_fieldF : Ctx := ocx cx_findF Zm0
theorem Zna : EnvFull Tryz.prog cx_fieldF := ocn ZoN Zm0
def getF_B : ((Option Zcc) × (zA2 × (ByteArray × Unit))) -> Br ((zA8 × Bool) × Unit) := fun (p0, p1, p2, ()) =>
 (.opt (fieldF (p0, p1.1, p2, ())) fun y4 =>
 (.cond (decide (y4.1.1 < 0))
 (.ret ((zV0, false), ()))
 (.cond (decide (y4.1.1 >= (p1.2.2.2.2.length : Int)))
 (.ret ((zV0, false), ()))
 (.cond (decide (0 <= y4.1.1) && decide (y4.1.1 < (p1.2.2.2.2.length : Int)))
 (.ret ((p1.2.2.2.2.getD y4.1.1.toNat zV0, true), ()))
 (.no)))))
def getF := fun x => (getF_B x).run
theorem Zsz : OC Tryz.prog 147 [(false, .ty true Zfj), (false, .ty true zA9), (false, .ty false .str)] [.ty false zA4, .ty false .bool] getF := OC.lp Zna 1024 Tryz.func147 [] (by kernel_rfl) trivial (fun _ => by kernel_rfl)
def cx_getF : Ctx := ocx cx_fieldF Zsz
theorem ZrC : EnvFull Tryz.prog cx_getF := ocn Zna Zsz
end
end Go.Proofs.YtkbdofnbagmlfaaGreat
