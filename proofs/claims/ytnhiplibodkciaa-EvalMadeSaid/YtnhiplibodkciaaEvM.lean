/- Predicates made by picks are trees. -/
import Derived.Test.YtnhiplibodkciaaEvR
namespace Go.Proofs.Ytnhiplibodkciaa
open Go.PI Go

/-- What leaves come to, of two events. -/
def LM (n1 n2 : Int) (s1 s2 : ByteArray) (n : Nd) : Val × Bool :=
  if n.1 = 1 then (n.2.1, true)
  else if bl n.2.2.1 = [97] then (if bl n.2.2.2 = [120] then (iV n1, true) else (sV s1, true))
  else if bl n.2.2.1 = [98] then (if bl n.2.2.2 = [120] then (iV n2, true) else (sV s2, true))
  else (zV, false)
abbrev nmA : ByteArray := { data := #[97] }
abbrev nmB : ByteArray := { data := #[98] }
abbrev nmC : ByteArray := { data := #[99] }
abbrev nmX : ByteArray := { data := #[120] }
abbrev nmS : ByteArray := { data := #[115] }
abbrev nFd (v f : ByteArray) : Nd := (2, (0, 0, ByteArray.empty, false), v, f)
abbrev env2 (k1 : Int) (y1 : ByteArray) (t1 n1 : Int) (s1 : ByteArray) (b1 : Bool) (k2 : Int) (y2 : ByteArray) (t2 n2 : Int) (s2 : ByteArray) (b2 : Bool) : List Bnd := [(nmA, mkE k1 y1 t1 n1 s1 b1), (nmB, mkE k2 y2 t2 n2 s2 b2)]

section
variable (k1 : Int) (y1 : ByteArray) (t1 n1 : Int) (s1 : ByteArray) (b1 : Bool) (k2 : Int) (y2 : ByteArray) (t2 n2 : Int) (s2 : ByteArray) (b2 : Bool)

theorem fA_x (h : k1 = 0 ∨ k1 = 1 ∨ k1 = 2) : fieldV (sch3, env2 k1 y1 t1 n1 s1 b1 k2 y2 t2 n2 s2 b2, nFd nmA nmX, ()) = some ((iV n1, true), ()) := by
  rcases h with rfl | rfl | rfl <;> exact fieldV_le 20 _ _ (by kernel_rfl)
theorem fA_s (h : k1 = 0 ∨ k1 = 1 ∨ k1 = 2) : fieldV (sch3, env2 k1 y1 t1 n1 s1 b1 k2 y2 t2 n2 s2 b2, nFd nmA nmS, ()) = some ((sV s1, true), ()) := by
  rcases h with rfl | rfl | rfl <;> exact fieldV_le 20 _ _ (by kernel_rfl)
theorem fB_x (h : k2 = 0 ∨ k2 = 1 ∨ k2 = 2) : fieldV (sch3, env2 k1 y1 t1 n1 s1 b1 k2 y2 t2 n2 s2 b2, nFd nmB nmX, ()) = some ((iV n2, true), ()) := by
  rcases h with rfl | rfl | rfl <;> exact fieldV_le 20 _ _ (by kernel_rfl)
theorem fB_s (h : k2 = 0 ∨ k2 = 1 ∨ k2 = 2) : fieldV (sch3, env2 k1 y1 t1 n1 s1 b1 k2 y2 t2 n2 s2 b2, nFd nmB nmS, ()) = some ((sV s2, true), ()) := by
  rcases h with rfl | rfl | rfl <;> exact fieldV_le 20 _ _ (by kernel_rfl)
theorem fC_x : fieldV (sch3, env2 k1 y1 t1 n1 s1 b1 k2 y2 t2 n2 s2 b2, nFd nmC nmX, ()) = some ((zV, false), ()) := fieldV_le 20 _ _ (by kernel_rfl)
theorem fC_s : fieldV (sch3, env2 k1 y1 t1 n1 s1 b1 k2 y2 t2 n2 s2 b2, nFd nmC nmS, ()) = some ((zV, false), ()) := fieldV_le 20 _ _ (by kernel_rfl)

theorem rA_x (h : k1 = 0 ∨ k1 = 1 ∨ k1 = 2) (at' : Int) : evalR_w0 (env2 k1 y1 t1 n1 s1 b1 k2 y2 t2 n2 s2 b2, at', 0, zV, nFd nmA nmX, ()) = some (.inl (true, at', iV n1, ())) := by
  rcases h with rfl | rfl | rfl <;> exact evalR_w0_le 20 _ _ (by kernel_rfl)
theorem rA_s (h : k1 = 0 ∨ k1 = 1 ∨ k1 = 2) (at' : Int) : evalR_w0 (env2 k1 y1 t1 n1 s1 b1 k2 y2 t2 n2 s2 b2, at', 0, zV, nFd nmA nmS, ()) = some (.inl (true, at', sV s1, ())) := by
  rcases h with rfl | rfl | rfl <;> exact evalR_w0_le 20 _ _ (by kernel_rfl)
theorem rB_x (h : k2 = 0 ∨ k2 = 1 ∨ k2 = 2) (at' : Int) : evalR_w0 (env2 k1 y1 t1 n1 s1 b1 k2 y2 t2 n2 s2 b2, at', 0, zV, nFd nmB nmX, ()) = some (.inl (true, at', iV n2, ())) := by
  rcases h with rfl | rfl | rfl <;> exact evalR_w0_le 20 _ _ (by kernel_rfl)
theorem rB_s (h : k2 = 0 ∨ k2 = 1 ∨ k2 = 2) (at' : Int) : evalR_w0 (env2 k1 y1 t1 n1 s1 b1 k2 y2 t2 n2 s2 b2, at', 0, zV, nFd nmB nmS, ()) = some (.inl (true, at', sV s2, ())) := by
  rcases h with rfl | rfl | rfl <;> exact evalR_w0_le 20 _ _ (by kernel_rfl)
theorem rC_x (at' : Int) : evalR_w0 (env2 k1 y1 t1 n1 s1 b1 k2 y2 t2 n2 s2 b2, at', 0, zV, nFd nmC nmX, ()) = some (.inr (at', zV, ())) := evalR_w0_le 20 _ _ (by kernel_rfl)
theorem rC_s (at' : Int) : evalR_w0 (env2 k1 y1 t1 n1 s1 b1 k2 y2 t2 n2 s2 b2, at', 0, zV, nFd nmC nmS, ()) = some (.inr (at', zV, ())) := evalR_w0_le 20 _ _ (by kernel_rfl)
end

theorem ok_Ax : nodeOk (nFd nmA nmX) = true := nodeOk_of (nodeM_le 60 _ _ (by kernel_rfl))
theorem ok_Bx : nodeOk (nFd nmB nmX) = true := nodeOk_of (nodeM_le 60 _ _ (by kernel_rfl))
theorem ok_Cx : nodeOk (nFd nmC nmX) = true := nodeOk_of (nodeM_le 60 _ _ (by kernel_rfl))
theorem ok_As : nodeOk (nFd nmA nmS) = true := nodeOk_of (nodeM_le 60 _ _ (by kernel_rfl))
theorem ok_Bs : nodeOk (nFd nmB nmS) = true := nodeOk_of (nodeM_le 60 _ _ (by kernel_rfl))
theorem ok_Cs : nodeOk (nFd nmC nmS) = true := nodeOk_of (nodeM_le 60 _ _ (by kernel_rfl))

/-- Two events that may be. -/
structure E2 (env : List Bnd) (L : Nd → Val × Bool) : Prop where
  c : ∀ v : Val, VC v → LeafOk sch3 env L (nC v)
  x : ∀ k : Int, (k = 0 ∨ k = 1 ∨ k = 2) → LeafOk sch3 env L (nFd (List.getD (List.set (List.set (List.set (List.replicate 3 ByteArray.empty) 0 { data := #[97] }) 1 { data := #[98] }) 2 { data := #[99] }) (Int.toNat k) ByteArray.empty) nmX)
  s : ∀ k : Int, (k = 0 ∨ k = 1 ∨ k = 2) → LeafOk sch3 env L (nFd (List.getD (List.set (List.set (List.set (List.replicate 3 ByteArray.empty) 0 { data := #[97] }) 1 { data := #[98] }) 2 { data := #[99] }) (Int.toNat k) ByteArray.empty) nmS)

theorem e2_ok {k1 : Int} {y1 : ByteArray} {t1 n1 : Int} {s1 : ByteArray} {b1 : Bool} {k2 : Int} {y2 : ByteArray} {t2 n2 : Int} {s2 : ByteArray} {b2 : Bool} (h1 : k1 = 0 ∨ k1 = 1 ∨ k1 = 2) (h2 : k2 = 0 ∨ k2 = 1 ∨ k2 = 2) (hn1 : In64 n1) (hn2 : In64 n2) :
    E2 (env2 k1 y1 t1 n1 s1 b1 k2 y2 t2 n2 s2 b2) (LM n1 n2 s1 s2) where
  c v h := { ok := nodeOk_C h, op := .inl rfl, vn := fun _ => h.1, c := fun _ => rfl, f := fun h => by simp [nC] at h, r := fun h => by simp [nC] at h }
  x k h := by
    rcases h with rfl | rfl | rfl
    · exact { ok := ok_Ax, op := .inr rfl, vn := fun _ => .i _ hn1, c := fun h => (by cases h), f := fun _ => ⟨_, fA_x k1 y1 t1 n1 s1 b1 k2 y2 t2 n2 s2 b2 h1, fun _ => rfl⟩, r := fun _ at' => ⟨_, rA_x k1 y1 t1 n1 s1 b1 k2 y2 t2 n2 s2 b2 h1 at', .inl ⟨_, rfl, fun _ => rfl⟩⟩ }
    · exact { ok := ok_Bx, op := .inr rfl, vn := fun _ => .i _ hn2, c := fun h => (by cases h), f := fun _ => ⟨_, fB_x k1 y1 t1 n1 s1 b1 k2 y2 t2 n2 s2 b2 h2, fun _ => rfl⟩, r := fun _ at' => ⟨_, rB_x k1 y1 t1 n1 s1 b1 k2 y2 t2 n2 s2 b2 h2 at', .inl ⟨_, rfl, fun _ => rfl⟩⟩ }
    · exact { ok := ok_Cx, op := .inr rfl, vn := fun h => (by cases h), c := fun h => (by cases h), f := fun _ => ⟨_, fC_x k1 y1 t1 n1 s1 b1 k2 y2 t2 n2 s2 b2, fun h => (by cases h)⟩, r := fun _ at' => ⟨_, rC_x k1 y1 t1 n1 s1 b1 k2 y2 t2 n2 s2 b2 at', .inr ⟨_, rfl, rfl⟩⟩ }
  s k h := by
    rcases h with rfl | rfl | rfl
    · exact { ok := ok_As, op := .inr rfl, vn := fun _ => .s _, c := fun h => (by cases h), f := fun _ => ⟨_, fA_s k1 y1 t1 n1 s1 b1 k2 y2 t2 n2 s2 b2 h1, fun _ => rfl⟩, r := fun _ at' => ⟨_, rA_s k1 y1 t1 n1 s1 b1 k2 y2 t2 n2 s2 b2 h1 at', .inl ⟨_, rfl, fun _ => rfl⟩⟩ }
    · exact { ok := ok_Bs, op := .inr rfl, vn := fun _ => .s _, c := fun h => (by cases h), f := fun _ => ⟨_, fB_s k1 y1 t1 n1 s1 b1 k2 y2 t2 n2 s2 b2 h2, fun _ => rfl⟩, r := fun _ at' => ⟨_, rB_s k1 y1 t1 n1 s1 b1 k2 y2 t2 n2 s2 b2 h2 at', .inl ⟨_, rfl, fun _ => rfl⟩⟩ }
    · exact { ok := ok_Cs, op := .inr rfl, vn := fun h => (by cases h), c := fun h => (by cases h), f := fun _ => ⟨_, fC_s k1 y1 t1 n1 s1 b1 k2 y2 t2 n2 s2 b2, fun h => (by cases h)⟩, r := fun _ at' => ⟨_, rC_s k1 y1 t1 n1 s1 b1 k2 y2 t2 n2 s2 b2 at', .inr ⟨_, rfl, rfl⟩⟩ }
end Go.Proofs.Ytnhiplibodkciaa
