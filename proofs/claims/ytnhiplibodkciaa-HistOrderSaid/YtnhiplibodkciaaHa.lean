/- A statement's row from a contract, at the very arguments that came in. Abbreviations of types, for the printed texts. The types that the functions use, as the pure interpreter has them; the functions that are gone through in place. Printed by gentb2.py. The context in which all functions are reckoned: types, and which may be compared. -/
import Derived.Test.YtnhiplibodkciaaGe
import Derived.Test.YtnhiplibodkciaaGa
import Derived.Test.YtnhiplibodkciaaGd
import Derived.KernelRfl
import Derived.Test.YtnhiplibodkciaaProg
namespace Go.PI
open Go.RowKit
variable {P : Program}

theorem OC.rowG {f : Nat} {ins : List (Bool × Pat)} {F : PArgs ins → Option (POuts [Pat.ty false .bool] × PBack ins)} (h : OC P f ins [Pat.ty false .bool] F) {W : World} {xs : PArgs ins} {vs : List Value} (hp : PAK (fun _ b => b < W.heap.size) W ins xs vs []) {z : PBack ins} (hF : F xs = some (true, z)) :
    Calls P f vs.toArray W fun e W' => e = .returned (.bool true) ∧ Below W.heap.size W W' := by
  refine (h.ok W (fun _ b => b < W.heap.size) (fun _ h => h) (fun _ h => h) _ vs [] hp List.nodup_nil (fun b hb => by simp at hb) _ hF).mono ?_
  rintro e W' ⟨v, J', B1, B2, rfl, r1, _, _, _, _, _, r7, r8, r9, r10, r11⟩
  obtain ⟨_, hv⟩ : PV (fun _ => J') W' (.ty false .bool) true v B1 := r1
  have hv := hv.2 rfl
  have hv : v = .bool true := by simpa [K] using hv
  subst hv
  exact ⟨rfl, r7, r8, r9, r10, fun b hb => r11 b hb (by simp)⟩

end Go.PI

namespace Go.Proofs.Ytnhiplibodkciaa
open Go.PI Go
abbrev zH1 : Type := Int × (Int × (Int × (Int × (Int × (List Int)))))
abbrev zH2 : Ty := .pair (.int .i64) (.pair (.int .i64) (.pair (.int .i64) (.st (.pair (.int .i64) (.pair (.int .i64) (.arr 6 (.int .i64)))))))
abbrev zH3 : Type := List (Int × (Int × zH1))
abbrev zH4 : Ty := .st (.pair (.int .i64) (.pair (.int .i64) zH2))
end Go.Proofs.Ytnhiplibodkciaa

namespace Go.Proofs.Ytnhiplibodkciaa
open Go.PI
def tblA : List (Nat × TI) := [
  (2, ⟨(.int .i64), 8, .oth⟩),
  (3, ⟨(.int .i64), 8, .oth⟩),
  (4, ⟨.bool, 1, .oth⟩),
  (5, ⟨(.int .u8), 1, .oth⟩),
  (6, ⟨(.int .u8), 1, .oth⟩),
  (7, ⟨(.st (.pair (.int .i64) (.pair (.int .i64) (.pair .bool (.int .u8))))), 24, (.st [(0, 2), (1, 3), (2, 4), (3, 6)])⟩),
  (8, ⟨(.st (.pair (.int .i64) (.pair (.int .i64) (.pair .bool (.int .u8))))), 24, (.st [(0, 2), (1, 3), (2, 4), (3, 6)])⟩),
  (9, ⟨.str, 16, .oth⟩),
  (10, ⟨.str, 16, .oth⟩),
  (11, ⟨.str, 16, .oth⟩),
  (12, ⟨(.int .u64), 8, .oth⟩),
  (13, ⟨(.st (.pair .str (.int .u64))), 24, (.st [(0, 9), (1, 12)])⟩),
  (14, ⟨(.st (.pair .str (.int .u64))), 24, (.st [(0, 9), (1, 12)])⟩),
  (21, ⟨(.int .i32), 4, .oth⟩),
  (22, ⟨(.sl (.int .i64)), 24, (.sl 3)⟩),
  (23, ⟨(.sl (.st (.pair (.int .i64) (.pair (.int .i64) (.pair (.int .i64) (.st (.pair (.int .i64) (.pair (.int .i64) (.arr 6 (.int .i64)))))))))), 24, (.sl 31)⟩),
  (25, ⟨(.sl (.st (.pair (.int .i64) (.pair (.int .i64) (.pair (.int .i64) (.pair (.int .i64) (.pair (.int .i64) (.st (.pair (.int .i64) (.pair (.int .i64) (.arr 6 (.int .i64)))))))))))), 24, (.sl 33)⟩),
  (26, ⟨(.int .i64), 8, .oth⟩),
  (27, ⟨(.arr 6 (.int .i64)), 48, (.ar 6 2)⟩),
  (28, ⟨(.st (.pair (.int .i64) (.pair (.int .i64) (.arr 6 (.int .i64))))), 64, (.st [(0, 26), (1, 2), (2, 27)])⟩),
  (29, ⟨(.st (.pair (.int .i64) (.pair (.int .i64) (.arr 6 (.int .i64))))), 64, (.st [(0, 26), (1, 2), (2, 27)])⟩),
  (30, ⟨(.st (.pair (.int .i64) (.pair (.int .i64) (.pair (.int .i64) (.st (.pair (.int .i64) (.pair (.int .i64) (.arr 6 (.int .i64))))))))), 88, (.st [(0, 3), (1, 3), (2, 3), (3, 29)])⟩),
  (31, ⟨(.st (.pair (.int .i64) (.pair (.int .i64) (.pair (.int .i64) (.st (.pair (.int .i64) (.pair (.int .i64) (.arr 6 (.int .i64))))))))), 88, (.st [(0, 3), (1, 3), (2, 3), (3, 29)])⟩),
  (32, ⟨(.st (.pair (.int .i64) (.pair (.int .i64) (.pair (.int .i64) (.pair (.int .i64) (.pair (.int .i64) (.st (.pair (.int .i64) (.pair (.int .i64) (.arr 6 (.int .i64))))))))))), 104, (.st [(0, 3), (1, 3), (2, 3), (3, 3), (4, 3), (5, 29)])⟩),
  (33, ⟨(.st (.pair (.int .i64) (.pair (.int .i64) (.pair (.int .i64) (.pair (.int .i64) (.pair (.int .i64) (.st (.pair (.int .i64) (.pair (.int .i64) (.arr 6 (.int .i64))))))))))), 104, (.st [(0, 3), (1, 3), (2, 3), (3, 3), (4, 3), (5, 29)])⟩),
  (38, ⟨(.ptr (.st (.pair (.int .i64) (.pair (.sl (.int .i64)) (.int .i64))))), 8, (.pt 127)⟩),
  (45, ⟨(.sl (.int .i64)), 24, (.sl 2)⟩),
  (48, ⟨(.sl (.st (.pair (.int .i64) (.pair (.int .i64) (.pair .str .bool))))), 24, (.sl 64)⟩),
  (49, ⟨(.st (.pair .str (.pair .str (.pair (.int .i64) (.pair (.int .i64) (.sl (.st (.pair (.int .i64) (.pair (.int .i64) (.pair .str .bool)))))))))), 72, (.st [(0, 9), (1, 9), (2, 2), (3, 2), (4, 48)])⟩),
  (50, ⟨(.st (.pair .str (.pair .str (.pair (.int .i64) (.pair (.int .i64) (.sl (.st (.pair (.int .i64) (.pair (.int .i64) (.pair .str .bool)))))))))), 72, (.st [(0, 9), (1, 9), (2, 2), (3, 2), (4, 48)])⟩),
  (51, ⟨(.ptr (.st (.sl (.st (.pair .str (.sl (.st (.pair .str (.int .i64))))))))), 8, (.pt 129)⟩),
  (54, ⟨(.sl (.st (.pair .str (.sl (.st (.pair .str (.int .i64))))))), 24, (.sl 132)⟩),
  (57, ⟨(.st (.pair .str (.st (.pair .str (.pair .str (.pair (.int .i64) (.pair (.int .i64) (.sl (.st (.pair (.int .i64) (.pair (.int .i64) (.pair .str .bool)))))))))))), 88, (.st [(0, 9), (1, 50)])⟩),
  (58, ⟨(.st (.pair .str (.st (.pair .str (.pair .str (.pair (.int .i64) (.pair (.int .i64) (.sl (.st (.pair (.int .i64) (.pair (.int .i64) (.pair .str .bool)))))))))))), 88, (.st [(0, 9), (1, 50)])⟩),
  (59, ⟨(.sl (.st (.pair .str (.st (.pair .str (.pair .str (.pair (.int .i64) (.pair (.int .i64) (.sl (.st (.pair (.int .i64) (.pair (.int .i64) (.pair .str .bool))))))))))))), 24, (.sl 58)⟩),
  (60, ⟨(.sl (.st (.pair (.int .i64) (.pair (.st (.pair (.int .i64) (.pair (.int .i64) (.pair .str .bool)))) (.pair .str .str))))), 24, (.sl 74)⟩),
  (63, ⟨(.st (.pair (.int .i64) (.pair (.int .i64) (.pair .str .bool)))), 40, (.st [(0, 3), (1, 2), (2, 9), (3, 4)])⟩),
  (64, ⟨(.st (.pair (.int .i64) (.pair (.int .i64) (.pair .str .bool)))), 40, (.st [(0, 3), (1, 2), (2, 9), (3, 4)])⟩),
  (73, ⟨(.st (.pair (.int .i64) (.pair (.st (.pair (.int .i64) (.pair (.int .i64) (.pair .str .bool)))) (.pair .str .str)))), 80, (.st [(0, 3), (1, 64), (5, 9), (6, 9)])⟩),
  (74, ⟨(.st (.pair (.int .i64) (.pair (.st (.pair (.int .i64) (.pair (.int .i64) (.pair .str .bool)))) (.pair .str .str)))), 80, (.st [(0, 3), (1, 64), (5, 9), (6, 9)])⟩),
  (82, ⟨(.int .u64), 8, .oth⟩),
  (83, ⟨(.sl (.st (.pair .str (.pair .str (.pair (.int .i64) (.pair (.int .i64) (.sl (.st (.pair (.int .i64) (.pair (.int .i64) (.pair .str .bool))))))))))), 24, (.sl 50)⟩),
  (84, ⟨(.sl (.st (.pair .str (.pair (.sl .str) (.pair .bool (.pair (.int .i64) (.pair (.int .i64) (.sl (.st (.pair (.int .i64) (.pair (.st (.pair (.int .i64) (.pair (.int .i64) (.pair .str .bool)))) (.pair .str .str)))))))))))), 24, (.sl 98)⟩),
  (85, ⟨(.st (.pair (.sl (.st (.pair .str (.pair (.sl .str) (.pair .bool (.pair (.int .i64) (.pair (.int .i64) (.sl (.st (.pair (.int .i64) (.pair (.st (.pair (.int .i64) (.pair (.int .i64) (.pair .str .bool)))) (.pair .str .str)))))))))))) (.pair (.int .i64) (.int .i64)))), 40, (.st [(0, 84), (1, 2), (2, 3)])⟩),
  (86, ⟨(.st (.pair (.sl (.st (.pair .str (.pair (.sl .str) (.pair .bool (.pair (.int .i64) (.pair (.int .i64) (.sl (.st (.pair (.int .i64) (.pair (.st (.pair (.int .i64) (.pair (.int .i64) (.pair .str .bool)))) (.pair .str .str)))))))))))) (.pair (.int .i64) (.int .i64)))), 40, (.st [(0, 84), (1, 2), (2, 3)])⟩),
  (89, ⟨(.chain (.st (.pair (.int .i64) (.int .i64)))), 8, (.pt 201)⟩),
  (90, ⟨(.chain (.st (.pair .str (.st (.pair .str (.pair .str (.pair (.int .i64) (.pair (.int .i64) (.sl (.st (.pair (.int .i64) (.pair (.int .i64) (.pair .str .bool))))))))))))), 8, (.pt 203)⟩),
  (91, ⟨(.st (.pair (.int .i64) (.pair (.int .i64) (.int .i64)))), 24, (.st [(0, 2), (1, 2), (2, 3)])⟩),
  (92, ⟨(.st (.pair (.int .i64) (.pair (.int .i64) (.int .i64)))), 24, (.st [(0, 2), (1, 2), (2, 3)])⟩),
  (93, ⟨(.st (.pair (.int .i64) (.pair (.chain (.st (.pair (.int .i64) (.int .i64)))) (.pair (.chain (.st (.pair .str (.st (.pair .str (.pair .str (.pair (.int .i64) (.pair (.int .i64) (.sl (.st (.pair (.int .i64) (.pair (.int .i64) (.pair .str .bool))))))))))))) (.pair (.int .i64) (.pair (.st (.pair (.int .i64) (.pair (.int .i64) (.int .i64)))) .bool)))))), 64, (.st [(0, 3), (1, 89), (2, 90), (3, 2), (4, 92), (7, 4)])⟩),
  (94, ⟨(.st (.pair (.int .i64) (.pair (.chain (.st (.pair (.int .i64) (.int .i64)))) (.pair (.chain (.st (.pair .str (.st (.pair .str (.pair .str (.pair (.int .i64) (.pair (.int .i64) (.sl (.st (.pair (.int .i64) (.pair (.int .i64) (.pair .str .bool))))))))))))) (.pair (.int .i64) (.pair (.st (.pair (.int .i64) (.pair (.int .i64) (.int .i64)))) .bool)))))), 64, (.st [(0, 3), (1, 89), (2, 90), (3, 2), (4, 92), (7, 4)])⟩),
  (96, ⟨(.sl .str), 24, (.sl 9)⟩),
  (97, ⟨(.st (.pair .str (.pair (.sl .str) (.pair .bool (.pair (.int .i64) (.pair (.int .i64) (.sl (.st (.pair (.int .i64) (.pair (.st (.pair (.int .i64) (.pair (.int .i64) (.pair .str .bool)))) (.pair .str .str))))))))))), 88, (.st [(0, 9), (1, 96), (2, 4), (3, 3), (4, 3), (5, 60)])⟩),
  (98, ⟨(.st (.pair .str (.pair (.sl .str) (.pair .bool (.pair (.int .i64) (.pair (.int .i64) (.sl (.st (.pair (.int .i64) (.pair (.st (.pair (.int .i64) (.pair (.int .i64) (.pair .str .bool)))) (.pair .str .str))))))))))), 88, (.st [(0, 9), (1, 96), (2, 4), (3, 3), (4, 3), (5, 60)])⟩),
  (102, ⟨(.sl (.sl (.st (.pair (.int .i64) (.int .i64))))), 24, (.sl 104)⟩),
  (104, ⟨(.sl (.st (.pair (.int .i64) (.int .i64)))), 24, (.sl 153)⟩),
  (107, ⟨(.ptr (.st (.pair (.st (.pair (.sl (.st (.pair .str (.pair (.sl .str) (.pair .bool (.pair (.int .i64) (.pair (.int .i64) (.sl (.st (.pair (.int .i64) (.pair (.st (.pair (.int .i64) (.pair (.int .i64) (.pair .str .bool)))) (.pair .str .str)))))))))))) (.pair (.int .i64) (.int .i64)))) (.sl (.st (.pair (.int .i64) (.int .i64))))))), 8, (.pt 173)⟩),
  (109, ⟨(.ptr (.st (.pair (.ptr (.st (.sl (.st (.pair .str (.sl (.st (.pair .str (.int .i64))))))))) (.pair (.st (.pair (.sl (.st (.pair .str (.pair (.sl .str) (.pair .bool (.pair (.int .i64) (.pair (.int .i64) (.sl (.st (.pair (.int .i64) (.pair (.st (.pair (.int .i64) (.pair (.int .i64) (.pair .str .bool)))) (.pair .str .str)))))))))))) (.pair (.int .i64) (.int .i64)))) (.ptr (.st (.pair (.st (.pair (.sl (.st (.pair .str (.pair (.sl .str) (.pair .bool (.pair (.int .i64) (.pair (.int .i64) (.sl (.st (.pair (.int .i64) (.pair (.st (.pair (.int .i64) (.pair (.int .i64) (.pair .str .bool)))) (.pair .str .str)))))))))))) (.pair (.int .i64) (.int .i64)))) (.sl (.st (.pair (.int .i64) (.int .i64))))))))))), 8, (.pt 176)⟩),
  (113, ⟨(.sl (.st (.pair (.int .i64) (.pair (.chain (.st (.pair (.int .i64) (.int .i64)))) (.pair (.chain (.st (.pair .str (.st (.pair .str (.pair .str (.pair (.int .i64) (.pair (.int .i64) (.sl (.st (.pair (.int .i64) (.pair (.int .i64) (.pair .str .bool))))))))))))) (.pair (.int .i64) (.pair (.st (.pair (.int .i64) (.pair (.int .i64) (.int .i64)))) .bool))))))), 24, (.sl 94)⟩),
  (115, ⟨(.st (.pair (.int .i64) (.int .i64))), 16, (.st [(0, 3), (1, 3)])⟩),
  (116, ⟨(.st (.pair (.int .i64) (.int .i64))), 16, (.st [(0, 3), (1, 3)])⟩),
  (123, ⟨(.arr 3 (.int .i64)), 24, (.ar 3 3)⟩),
  (126, ⟨(.st (.pair (.int .i64) (.pair (.sl (.int .i64)) (.int .i64)))), 40, (.st [(0, 3), (1, 22), (2, 3)])⟩),
  (127, ⟨(.st (.pair (.int .i64) (.pair (.sl (.int .i64)) (.int .i64)))), 40, (.st [(0, 3), (1, 22), (2, 3)])⟩),
  (128, ⟨(.st (.sl (.st (.pair .str (.sl (.st (.pair .str (.int .i64)))))))), 24, (.st [(0, 54)])⟩),
  (129, ⟨(.st (.sl (.st (.pair .str (.sl (.st (.pair .str (.int .i64)))))))), 24, (.st [(0, 54)])⟩),
  (130, ⟨(.sl (.st (.pair .str (.int .i64)))), 24, (.sl 139)⟩),
  (131, ⟨(.st (.pair .str (.sl (.st (.pair .str (.int .i64)))))), 40, (.st [(0, 9), (1, 130)])⟩),
  (132, ⟨(.st (.pair .str (.sl (.st (.pair .str (.int .i64)))))), 40, (.st [(0, 9), (1, 130)])⟩),
  (138, ⟨(.st (.pair .str (.int .i64))), 24, (.st [(0, 9), (1, 3)])⟩),
  (139, ⟨(.st (.pair .str (.int .i64))), 24, (.st [(0, 9), (1, 3)])⟩),
  (152, ⟨(.st (.pair (.int .i64) (.int .i64))), 16, (.st [(0, 3), (1, 2)])⟩),
  (153, ⟨(.st (.pair (.int .i64) (.int .i64))), 16, (.st [(0, 3), (1, 2)])⟩),
  (160, ⟨(.st (.pair (.st (.pair (.sl (.st (.pair .str (.pair (.sl .str) (.pair .bool (.pair (.int .i64) (.pair (.int .i64) (.sl (.st (.pair (.int .i64) (.pair (.st (.pair (.int .i64) (.pair (.int .i64) (.pair .str .bool)))) (.pair .str .str)))))))))))) (.pair (.int .i64) (.int .i64)))) (.pair (.sl (.st (.pair .str (.pair .str (.pair (.int .i64) (.pair (.int .i64) (.sl (.st (.pair (.int .i64) (.pair (.int .i64) (.pair .str .bool))))))))))) (.sl (.sl (.st (.pair (.int .i64) (.int .i64)))))))), 88, (.st [(0, 86), (3, 83), (4, 102)])⟩),
  (161, ⟨(.st (.pair (.st (.pair (.sl (.st (.pair .str (.pair (.sl .str) (.pair .bool (.pair (.int .i64) (.pair (.int .i64) (.sl (.st (.pair (.int .i64) (.pair (.st (.pair (.int .i64) (.pair (.int .i64) (.pair .str .bool)))) (.pair .str .str)))))))))))) (.pair (.int .i64) (.int .i64)))) (.pair (.sl (.st (.pair .str (.pair .str (.pair (.int .i64) (.pair (.int .i64) (.sl (.st (.pair (.int .i64) (.pair (.int .i64) (.pair .str .bool))))))))))) (.sl (.sl (.st (.pair (.int .i64) (.int .i64)))))))), 88, (.st [(0, 86), (3, 83), (4, 102)])⟩),
  (171, ⟨(.sl (.st (.pair (.int .i64) (.int .i64)))), 24, (.sl 116)⟩),
  (172, ⟨(.st (.pair (.st (.pair (.sl (.st (.pair .str (.pair (.sl .str) (.pair .bool (.pair (.int .i64) (.pair (.int .i64) (.sl (.st (.pair (.int .i64) (.pair (.st (.pair (.int .i64) (.pair (.int .i64) (.pair .str .bool)))) (.pair .str .str)))))))))))) (.pair (.int .i64) (.int .i64)))) (.sl (.st (.pair (.int .i64) (.int .i64)))))), 64, (.st [(0, 86), (3, 171)])⟩),
  (173, ⟨(.st (.pair (.st (.pair (.sl (.st (.pair .str (.pair (.sl .str) (.pair .bool (.pair (.int .i64) (.pair (.int .i64) (.sl (.st (.pair (.int .i64) (.pair (.st (.pair (.int .i64) (.pair (.int .i64) (.pair .str .bool)))) (.pair .str .str)))))))))))) (.pair (.int .i64) (.int .i64)))) (.sl (.st (.pair (.int .i64) (.int .i64)))))), 64, (.st [(0, 86), (3, 171)])⟩),
  (175, ⟨(.st (.pair (.ptr (.st (.sl (.st (.pair .str (.sl (.st (.pair .str (.int .i64))))))))) (.pair (.st (.pair (.sl (.st (.pair .str (.pair (.sl .str) (.pair .bool (.pair (.int .i64) (.pair (.int .i64) (.sl (.st (.pair (.int .i64) (.pair (.st (.pair (.int .i64) (.pair (.int .i64) (.pair .str .bool)))) (.pair .str .str)))))))))))) (.pair (.int .i64) (.int .i64)))) (.ptr (.st (.pair (.st (.pair (.sl (.st (.pair .str (.pair (.sl .str) (.pair .bool (.pair (.int .i64) (.pair (.int .i64) (.sl (.st (.pair (.int .i64) (.pair (.st (.pair (.int .i64) (.pair (.int .i64) (.pair .str .bool)))) (.pair .str .str)))))))))))) (.pair (.int .i64) (.int .i64)))) (.sl (.st (.pair (.int .i64) (.int .i64)))))))))), 56, (.st [(0, 51), (1, 86), (4, 107)])⟩),
  (176, ⟨(.st (.pair (.ptr (.st (.sl (.st (.pair .str (.sl (.st (.pair .str (.int .i64))))))))) (.pair (.st (.pair (.sl (.st (.pair .str (.pair (.sl .str) (.pair .bool (.pair (.int .i64) (.pair (.int .i64) (.sl (.st (.pair (.int .i64) (.pair (.st (.pair (.int .i64) (.pair (.int .i64) (.pair .str .bool)))) (.pair .str .str)))))))))))) (.pair (.int .i64) (.int .i64)))) (.ptr (.st (.pair (.st (.pair (.sl (.st (.pair .str (.pair (.sl .str) (.pair .bool (.pair (.int .i64) (.pair (.int .i64) (.sl (.st (.pair (.int .i64) (.pair (.st (.pair (.int .i64) (.pair (.int .i64) (.pair .str .bool)))) (.pair .str .str)))))))))))) (.pair (.int .i64) (.int .i64)))) (.sl (.st (.pair (.int .i64) (.int .i64)))))))))), 56, (.st [(0, 51), (1, 86), (4, 107)])⟩),
  (198, ⟨(.sl (.sl .str)), 24, (.sl 96)⟩),
  (200, ⟨(.st (.pair (.st (.pair (.int .i64) (.int .i64))) (.pair (.chain (.st (.pair (.int .i64) (.int .i64)))) (.int .i64)))), 32, (.st [(0, 153), (2, 89), (3, 3)])⟩),
  (201, ⟨(.st (.pair (.st (.pair (.int .i64) (.int .i64))) (.pair (.chain (.st (.pair (.int .i64) (.int .i64)))) (.int .i64)))), 32, (.st [(0, 153), (2, 89), (3, 3)])⟩),
  (202, ⟨(.st (.pair (.st (.pair .str (.st (.pair .str (.pair .str (.pair (.int .i64) (.pair (.int .i64) (.sl (.st (.pair (.int .i64) (.pair (.int .i64) (.pair .str .bool)))))))))))) (.pair (.chain (.st (.pair .str (.st (.pair .str (.pair .str (.pair (.int .i64) (.pair (.int .i64) (.sl (.st (.pair (.int .i64) (.pair (.int .i64) (.pair .str .bool))))))))))))) (.int .i64)))), 104, (.st [(0, 58), (6, 90), (7, 3)])⟩),
  (203, ⟨(.st (.pair (.st (.pair .str (.st (.pair .str (.pair .str (.pair (.int .i64) (.pair (.int .i64) (.sl (.st (.pair (.int .i64) (.pair (.int .i64) (.pair .str .bool)))))))))))) (.pair (.chain (.st (.pair .str (.st (.pair .str (.pair .str (.pair (.int .i64) (.pair (.int .i64) (.sl (.st (.pair (.int .i64) (.pair (.int .i64) (.pair .str .bool))))))))))))) (.int .i64)))), 104, (.st [(0, 58), (6, 90), (7, 3)])⟩),
  (213, ⟨(.ptr (.st (.pair .str (.pair (.sl .str) (.pair .bool (.pair (.int .i64) (.pair (.int .i64) (.sl (.st (.pair (.int .i64) (.pair (.st (.pair (.int .i64) (.pair (.int .i64) (.pair .str .bool)))) (.pair .str .str)))))))))))), 8, (.pt 98)⟩),
  (231, ⟨(.int .i64), 8, .oth⟩),
  (238, ⟨(.int .u32), 4, .oth⟩),
  (240, ⟨(.int .u64), 8, .oth⟩),
  (249, ⟨(.int .u64), 8, .oth⟩),
  (253, ⟨(.ptr (.int .i64)), 8, (.pt 3)⟩),
  (256, ⟨(.ptr (.int .u64)), 8, (.pt 249)⟩),
  (264, ⟨(.int .u8), 1, .oth⟩),
  (265, ⟨(.int .u8), 1, .oth⟩),
  (267, ⟨(.ptr (.int .u8)), 8, (.pt 5)⟩),
  (268, ⟨(.int .i32), 4, .oth⟩),
  (269, ⟨(.int .i32), 4, .oth⟩)]
noncomputable def tbA (n : Nat) : Option TI := lookT n tblA
set_option maxRecDepth 100000 in
theorem tbAOk : TbOk Try.prog tbA := tblB_ok (by kernel_rfl)
end Go.Proofs.Ytnhiplibodkciaa

namespace Go.Proofs.Ytnhiplibodkciaa
open Go.PI
noncomputable def cx0 : Ctx := withE (mkC tbA []) [28, 29, 30, 31, 32, 33, 64, 74, 92, 116, 153]
theorem en0 : EnvFull Try.prog cx0 := env_E (env_nil (by kernel_rfl) tbAOk) (by kernel_rfl)
end Go.Proofs.Ytnhiplibodkciaa
