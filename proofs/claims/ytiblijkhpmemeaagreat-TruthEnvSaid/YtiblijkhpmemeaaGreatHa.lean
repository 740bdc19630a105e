/- A statement's row from a contract, at the very arguments that came in. Abbreviations of types, for the printed texts. The types that the functions use, as the pure interpreter has them; the functions that are gone through in place. Printed by gentb2.py. The context in which all functions are reckoned: types, and which may be compared. -/
import Derived.Test.YtiblijkhpmemeaaGreatGe
import Derived.Test.YtiblijkhpmemeaaGreatGa
import Derived.Test.YtiblijkhpmemeaaGreatGd
import Derived.KernelRfl
import Derived.Test.YtiblijkhpmemeaaGreatProg
namespace Go.PI
open Go.RowKit
variable {P : Program}
theorem OC.rowG {f : Nat} {ins : List (Bool × Pat)} {F : PArgs ins → Option (POuts [Pat.ty false .bool] × PBack ins)} (h : OC P f ins [Pat.ty false .bool] F) {W : World} {xs : PArgs ins} {vs : List Value} (hp : PAK (fun _ b => b < W.heap.size) W ins xs vs []) {z : PBack ins} (hF : F xs = some (true, z)) :
  Calls P f vs.toArray W fun e W' => e = .returned (.bool true) ∧ Below W.heap.size W W' := by
 refine (h.ok W (fun _ b => b < W.heap.size) (fun _ h => h) (fun _ h => h) _ vs [] hp List.nodup_nil (fun b hb => by simp at hb) _ hF).mono ?_
 rintro e W' ⟨v, J', B1, B2, rfl, r1, _, _, _, _, _, r7, r8, r9, r10, r11⟩
 obtain ⟨_, hv⟩ : PV (fun _ => J') W' (.ty false .bool) true v B1 := r1
 have hv := hv.2 rfl
 have hv : v = .bool true := by simpa [K] using hv
 subst hv
 exact ⟨rfl, r7, r8, r9, r10, fun b hb => r11 b hb (by simp)⟩
end Go.PI

namespace Go.Proofs.YtiblijkhpmemeaaGreat
open Go.PI Go
abbrev zA4 : Ty := .st (.pair (.int .i64) (.pair (.int .i64) (.pair .str .bool)))
abbrev zA8 : Type := Int × (Int × (ByteArray × Bool))
abbrev zA2 : Type := ByteArray × (ByteArray × (Int × (Int × (List zA8))))
abbrev zA9 : Ty := .st (.pair .str (.pair .str (.pair (.int .i64) (.pair (.int .i64) (.sl zA4)))))
abbrev zA12 : Type := Int × (zA8 × (ByteArray × ByteArray))
abbrev zA1 : Type := ByteArray × ((List ByteArray) × (Bool × (Int × (Int × (List zA12)))))
abbrev zA10 : Type := (List zA1) × (Int × Int)
abbrev zA13 : Ty := .st (.pair (.int .i64) (.pair zA4 (.pair .str .str)))
abbrev zA16 : Ty := .st (.pair (.int .i64) (.int .i64))
abbrev zA18 : Ty := Ty.st (Ty.sl (Ty.st (Ty.pair Ty.str (Ty.sl (Ty.st (Ty.pair Ty.str (Ty.int IntKind.i64)))))))
abbrev zA19 : Ty := .st (.pair .str (.pair (.sl .str) (.pair .bool (.pair (.int .i64) (.pair (.int .i64) (.sl zA13))))))
abbrev zA5 : Ty := .st (.pair (.sl zA19) (.pair (.int .i64) (.int .i64)))
abbrev zA21 : Type := List (ByteArray × zA2)
abbrev zA23 : Type := List (List (Int × Int))
abbrev zA25 : Type := List (ByteArray × Int)
abbrev zA11 : Type := List (ByteArray × zA25)
abbrev zA27 : Ty := .sl (.st (.pair .str (.int .i64)))
abbrev zA17 : Ty := .ptr (.st (.sl (.st (.pair .str zA27))))
abbrev zA28 : Type := (List zA2) × (Int × (Int × ((List zA2) × Unit)))
abbrev zA30 : Type := Int × (Int × (Int × (Int × ((List zA1) × Unit))))
abbrev zA31 : Type := (List (Int × Int)) × Unit
abbrev zA33 : Type := Int × ((List zA8) × ((List zA8) × (Int × (Int × (zA8 × Unit)))))
abbrev zA34 : Type := (Option zA11) × (zA21 × ((List zA12) × (Int × (Int × (zA8 × ((List zA8) × Unit))))))
abbrev zA35 : Ty := .sl (.st (.pair .str zA9))
abbrev zAn (x k : Int) : Int := IntKind.wrap .i64 (↑(BitVec.toNat (BitVec.ofInt (IntKind.bits .i64) x &&& BitVec.ofInt (IntKind.bits .i64) k)) : Int)
abbrev zSh (x k : Int) : Int := Int.fdiv x (2 ^ min (Int.toNat k) (IntKind.bits .i64))
abbrev zV0 : zA8 := (0, 0, ByteArray.empty, false)
abbrev zV1 : zA2 := (ByteArray.empty, ByteArray.empty, 0, 0, [])
abbrev zV2 : zA1 := (ByteArray.empty, [], false, 0, 0, [])
abbrev zV3 : ByteArray × zA2 := (ByteArray.empty, ByteArray.empty, ByteArray.empty, 0, 0, [])
end Go.Proofs.YtiblijkhpmemeaaGreat

namespace Go.Proofs.YtiblijkhpmemeaaGreat
set_option maxRecDepth 100000
open Go.PI
def tblA : List (Nat × TI) := [
 (2, ⟨(.int .i64), 8, .oth⟩),
 (3, ⟨(.int .i64), 8, .oth⟩),
 (4, ⟨.bool, 1, .oth⟩),
 (5, ⟨(.int .u8), 1, .oth⟩),
 (6, ⟨(.int .u8), 1, .oth⟩),
 (7, ⟨(.st (.pair (.int .i64) (.pair (.int .i64) (.pair .bool (.int .u8))))), 24, (.st [(0, 2), (1, 3), (2, 4), (3, 6)])⟩),
 (8, ⟨(.st (.pair (.int .i64) (.pair (.int .i64) (.pair .bool (.int .u8))))), 24, (.st [(0, 2), (1, 3), (2, 4), (3, 6)])⟩),
 (9, ⟨.str, 16, .oth⟩),
 (10, ⟨.str, 16, .oth⟩),
 (11, ⟨.str, 16, .oth⟩),
 (12, ⟨(.int .u64), 8, .oth⟩),
 (13, ⟨(.st (.pair .str (.int .u64))), 24, (.st [(0, 9), (1, 12)])⟩),
 (14, ⟨(.st (.pair .str (.int .u64))), 24, (.st [(0, 9), (1, 12)])⟩),
 (21, ⟨(.int .i32), 4, .oth⟩),
 (22, ⟨(.sl (.int .i64)), 24, (.sl 3)⟩),
 (23, ⟨(.sl (.st (.pair .str (.pair .str (.pair (.int .i64) (.pair (.int .i64) (.sl (.st (.pair (.int .i64) (.pair (.int .i64) (.pair .str .bool))))))))))), 24, (.sl 52)⟩),
 (24, ⟨(.ptr (.st (.sl (.st (.pair .str (.sl (.st (.pair .str (.int .i64))))))))), 8, (.pt 62)⟩),
 (25, ⟨(.int .i64), 8, .oth⟩),
 (28, ⟨(.sl (.st (.pair .str (.sl (.st (.pair .str (.int .i64))))))), 24, (.sl 65)⟩),
 (30, ⟨(.sl (.st (.pair .str (.pair (.sl .str) (.pair .bool (.pair (.int .i64) (.pair (.int .i64) (.sl (.st (.pair (.int .i64) (.pair (.st (.pair (.int .i64) (.pair (.int .i64) (.pair .str .bool)))) (.pair .str .str)))))))))))), 24, (.sl 49)⟩),
 (31, ⟨(.st (.pair (.sl (.st (.pair .str (.pair (.sl .str) (.pair .bool (.pair (.int .i64) (.pair (.int .i64) (.sl (.st (.pair (.int .i64) (.pair (.st (.pair (.int .i64) (.pair (.int .i64) (.pair .str .bool)))) (.pair .str .str)))))))))))) (.pair (.int .i64) (.int .i64)))), 40, (.st [(0, 30), (1, 2), (2, 3)])⟩),
 (32, ⟨(.st (.pair (.sl (.st (.pair .str (.pair (.sl .str) (.pair .bool (.pair (.int .i64) (.pair (.int .i64) (.sl (.st (.pair (.int .i64) (.pair (.st (.pair (.int .i64) (.pair (.int .i64) (.pair .str .bool)))) (.pair .str .str)))))))))))) (.pair (.int .i64) (.int .i64)))), 40, (.st [(0, 30), (1, 2), (2, 3)])⟩),
 (37, ⟨(.sl (.sl (.st (.pair (.int .i64) (.int .i64))))), 24, (.sl 41)⟩),
 (41, ⟨(.sl (.st (.pair (.int .i64) (.int .i64)))), 24, (.sl 45)⟩),
 (42, ⟨(.sl (.st (.pair .str (.st (.pair .str (.pair .str (.pair (.int .i64) (.pair (.int .i64) (.sl (.st (.pair (.int .i64) (.pair (.int .i64) (.pair .str .bool))))))))))))), 24, (.sl 54)⟩),
 (44, ⟨(.st (.pair (.int .i64) (.int .i64))), 16, (.st [(0, 3), (1, 2)])⟩),
 (45, ⟨(.st (.pair (.int .i64) (.int .i64))), 16, (.st [(0, 3), (1, 2)])⟩),
 (46, ⟨(.sl .str), 24, (.sl 9)⟩),
 (47, ⟨(.sl (.st (.pair (.int .i64) (.pair (.st (.pair (.int .i64) (.pair (.int .i64) (.pair .str .bool)))) (.pair .str .str))))), 24, (.sl 102)⟩),
 (48, ⟨(.st (.pair .str (.pair (.sl .str) (.pair .bool (.pair (.int .i64) (.pair (.int .i64) (.sl (.st (.pair (.int .i64) (.pair (.st (.pair (.int .i64) (.pair (.int .i64) (.pair .str .bool)))) (.pair .str .str))))))))))), 88, (.st [(0, 9), (1, 46), (2, 4), (3, 3), (4, 3), (5, 47)])⟩),
 (49, ⟨(.st (.pair .str (.pair (.sl .str) (.pair .bool (.pair (.int .i64) (.pair (.int .i64) (.sl (.st (.pair (.int .i64) (.pair (.st (.pair (.int .i64) (.pair (.int .i64) (.pair .str .bool)))) (.pair .str .str))))))))))), 88, (.st [(0, 9), (1, 46), (2, 4), (3, 3), (4, 3), (5, 47)])⟩),
 (50, ⟨(.sl (.st (.pair (.int .i64) (.pair (.int .i64) (.pair .str .bool))))), 24, (.sl 100)⟩),
 (51, ⟨(.st (.pair .str (.pair .str (.pair (.int .i64) (.pair (.int .i64) (.sl (.st (.pair (.int .i64) (.pair (.int .i64) (.pair .str .bool)))))))))), 72, (.st [(0, 9), (1, 9), (2, 2), (3, 2), (4, 50)])⟩),
 (52, ⟨(.st (.pair .str (.pair .str (.pair (.int .i64) (.pair (.int .i64) (.sl (.st (.pair (.int .i64) (.pair (.int .i64) (.pair .str .bool)))))))))), 72, (.st [(0, 9), (1, 9), (2, 2), (3, 2), (4, 50)])⟩),
 (53, ⟨(.st (.pair .str (.st (.pair .str (.pair .str (.pair (.int .i64) (.pair (.int .i64) (.sl (.st (.pair (.int .i64) (.pair (.int .i64) (.pair .str .bool)))))))))))), 88, (.st [(0, 9), (1, 52)])⟩),
 (54, ⟨(.st (.pair .str (.st (.pair .str (.pair .str (.pair (.int .i64) (.pair (.int .i64) (.sl (.st (.pair (.int .i64) (.pair (.int .i64) (.pair .str .bool)))))))))))), 88, (.st [(0, 9), (1, 52)])⟩),
 (56, ⟨(.int .u64), 8, .oth⟩),
 (61, ⟨(.st (.sl (.st (.pair .str (.sl (.st (.pair .str (.int .i64)))))))), 24, (.st [(0, 28)])⟩),
 (62, ⟨(.st (.sl (.st (.pair .str (.sl (.st (.pair .str (.int .i64)))))))), 24, (.st [(0, 28)])⟩),
 (63, ⟨(.sl (.st (.pair .str (.int .i64)))), 24, (.sl 72)⟩),
 (64, ⟨(.st (.pair .str (.sl (.st (.pair .str (.int .i64)))))), 40, (.st [(0, 9), (1, 63)])⟩),
 (65, ⟨(.st (.pair .str (.sl (.st (.pair .str (.int .i64)))))), 40, (.st [(0, 9), (1, 63)])⟩),
 (71, ⟨(.st (.pair .str (.int .i64))), 24, (.st [(0, 9), (1, 3)])⟩),
 (72, ⟨(.st (.pair .str (.int .i64))), 24, (.st [(0, 9), (1, 3)])⟩),
 (77, ⟨(.ptr (.st (.pair (.ptr (.st (.sl (.st (.pair .str (.sl (.st (.pair .str (.int .i64))))))))) (.pair (.st (.pair (.sl (.st (.pair .str (.pair (.sl .str) (.pair .bool (.pair (.int .i64) (.pair (.int .i64) (.sl (.st (.pair (.int .i64) (.pair (.st (.pair (.int .i64) (.pair (.int .i64) (.pair .str .bool)))) (.pair .str .str)))))))))))) (.pair (.int .i64) (.int .i64)))) (.pair (.sl (.st (.pair .str (.pair .str (.pair (.int .i64) (.pair (.int .i64) (.sl (.st (.pair (.int .i64) (.pair (.int .i64) (.pair .str .bool))))))))))) (.sl (.sl (.st (.pair (.int .i64) (.int .i64)))))))))), 8, (.pt 79)⟩),
 (78, ⟨(.st (.pair (.ptr (.st (.sl (.st (.pair .str (.sl (.st (.pair .str (.int .i64))))))))) (.pair (.st (.pair (.sl (.st (.pair .str (.pair (.sl .str) (.pair .bool (.pair (.int .i64) (.pair (.int .i64) (.sl (.st (.pair (.int .i64) (.pair (.st (.pair (.int .i64) (.pair (.int .i64) (.pair .str .bool)))) (.pair .str .str)))))))))))) (.pair (.int .i64) (.int .i64)))) (.pair (.sl (.st (.pair .str (.pair .str (.pair (.int .i64) (.pair (.int .i64) (.sl (.st (.pair (.int .i64) (.pair (.int .i64) (.pair .str .bool))))))))))) (.sl (.sl (.st (.pair (.int .i64) (.int .i64))))))))), 96, (.st [(0, 24), (1, 32), (4, 23), (5, 37)])⟩),
 (79, ⟨(.st (.pair (.ptr (.st (.sl (.st (.pair .str (.sl (.st (.pair .str (.int .i64))))))))) (.pair (.st (.pair (.sl (.st (.pair .str (.pair (.sl .str) (.pair .bool (.pair (.int .i64) (.pair (.int .i64) (.sl (.st (.pair (.int .i64) (.pair (.st (.pair (.int .i64) (.pair (.int .i64) (.pair .str .bool)))) (.pair .str .str)))))))))))) (.pair (.int .i64) (.int .i64)))) (.pair (.sl (.st (.pair .str (.pair .str (.pair (.int .i64) (.pair (.int .i64) (.sl (.st (.pair (.int .i64) (.pair (.int .i64) (.pair .str .bool))))))))))) (.sl (.sl (.st (.pair (.int .i64) (.int .i64))))))))), 96, (.st [(0, 24), (1, 32), (4, 23), (5, 37)])⟩),
 (83, ⟨(.st (.pair (.st (.pair (.sl (.st (.pair .str (.pair (.sl .str) (.pair .bool (.pair (.int .i64) (.pair (.int .i64) (.sl (.st (.pair (.int .i64) (.pair (.st (.pair (.int .i64) (.pair (.int .i64) (.pair .str .bool)))) (.pair .str .str)))))))))))) (.pair (.int .i64) (.int .i64)))) (.pair (.sl (.st (.pair .str (.pair .str (.pair (.int .i64) (.pair (.int .i64) (.sl (.st (.pair (.int .i64) (.pair (.int .i64) (.pair .str .bool))))))))))) (.sl (.sl (.st (.pair (.int .i64) (.int .i64)))))))), 88, (.st [(0, 32), (3, 23), (4, 37)])⟩),
 (84, ⟨(.st (.pair (.st (.pair (.sl (.st (.pair .str (.pair (.sl .str) (.pair .bool (.pair (.int .i64) (.pair (.int .i64) (.sl (.st (.pair (.int .i64) (.pair (.st (.pair (.int .i64) (.pair (.int .i64) (.pair .str .bool)))) (.pair .str .str)))))))))))) (.pair (.int .i64) (.int .i64)))) (.pair (.sl (.st (.pair .str (.pair .str (.pair (.int .i64) (.pair (.int .i64) (.sl (.st (.pair (.int .i64) (.pair (.int .i64) (.pair .str .bool))))))))))) (.sl (.sl (.st (.pair (.int .i64) (.int .i64)))))))), 88, (.st [(0, 32), (3, 23), (4, 37)])⟩),
 (98, ⟨(.sl (.sl .str)), 24, (.sl 46)⟩),
 (99, ⟨(.st (.pair (.int .i64) (.pair (.int .i64) (.pair .str .bool)))), 40, (.st [(0, 3), (1, 2), (2, 9), (3, 4)])⟩),
 (100, ⟨(.st (.pair (.int .i64) (.pair (.int .i64) (.pair .str .bool)))), 40, (.st [(0, 3), (1, 2), (2, 9), (3, 4)])⟩),
 (101, ⟨(.st (.pair (.int .i64) (.pair (.st (.pair (.int .i64) (.pair (.int .i64) (.pair .str .bool)))) (.pair .str .str)))), 80, (.st [(0, 3), (1, 100), (5, 9), (6, 9)])⟩),
 (102, ⟨(.st (.pair (.int .i64) (.pair (.st (.pair (.int .i64) (.pair (.int .i64) (.pair .str .bool)))) (.pair .str .str)))), 80, (.st [(0, 3), (1, 100), (5, 9), (6, 9)])⟩),
 (112, ⟨(.arr 2 (.int .i64)), 16, (.ar 2 3)⟩),
 (133, ⟨(.st (.pair (.int .i64) (.pair (.int .i64) (.int .i64)))), 24, (.st [(0, 2), (1, 2), (2, 3)])⟩),
 (134, ⟨(.st (.pair (.int .i64) (.pair (.int .i64) (.int .i64)))), 24, (.st [(0, 2), (1, 2), (2, 3)])⟩),
 (138, ⟨(.int .i64), 8, .oth⟩),
 (146, ⟨(.int .u32), 4, .oth⟩),
 (148, ⟨(.int .u64), 8, .oth⟩),
 (158, ⟨(.int .u64), 8, .oth⟩),
 (162, ⟨(.ptr (.int .i64)), 8, (.pt 3)⟩),
 (172, ⟨(.ptr (.int .u64)), 8, (.pt 158)⟩),
 (195, ⟨(.int .u8), 1, .oth⟩),
 (196, ⟨(.int .u8), 1, .oth⟩),
 (198, ⟨(.ptr (.int .u8)), 8, (.pt 5)⟩),
 (199, ⟨(.int .i32), 4, .oth⟩),
 (200, ⟨(.int .i32), 4, .oth⟩)]
noncomputable def tbA (n : Nat) : Option TI := lookT n tblA
theorem tbAOk : TbOk Tryz.prog tbA := tblB_ok (by kernel_rfl)
end Go.Proofs.YtiblijkhpmemeaaGreat

namespace Go.Proofs.YtiblijkhpmemeaaGreat
open Go.PI
noncomputable def cx0 : Ctx := withE (mkC tbA []) [100, 102, 134, 45]
theorem en0 : EnvFull Tryz.prog cx0 := env_E (env_nil (by kernel_rfl) tbAOk) (by kernel_rfl)
end Go.Proofs.YtiblijkhpmemeaaGreat
