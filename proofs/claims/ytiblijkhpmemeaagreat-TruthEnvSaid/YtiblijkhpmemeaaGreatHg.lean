/- Contracts of functions. Printed by auto.py. What guards come to: whatever is asked, an answer. Blocks: whether one of the elements that must not be there fits; the statement's own loop comes to the same. -/
import Derived.Test.YtiblijkhpmemeaaGreatHa
import Derived.Test.YtiblijkhpmemeaaGreatHf
import Derived.Test.YtiblijkhpmemeaaGreatHd
namespace Go.Proofs.YtiblijkhpmemeaaGreat
open Go.PI Go
noncomputable def cx_envR : Ctx := cxN2
theorem en_envR : EnvFull Tryz.prog cx_envR := (enN2)
noncomputable def cx_fitsG : Ctx := cx_envR
theorem en_fitsG : EnvFull Tryz.prog cx_fitsG := (en_envR)
noncomputable def cx_blocksG : Ctx := cx_fitsG
theorem en_blocksG : EnvFull Tryz.prog cx_blocksG := (en_fitsG)
end Go.Proofs.YtiblijkhpmemeaaGreat

namespace Go.Proofs.YtiblijkhpmemeaaGreat
open Go.PI Go
abbrev Elm := ByteArray × (List ByteArray × (Bool × (Int × (Int × List Nd))))
abbrev Qry := List Elm × (Int × Int)
abbrev Prs := Int × Int
abbrev eZ : Elm := (ByteArray.empty, [], false, 0, 0, [])
theorem idxStr_tot (l : List ByteArray) (hl : l.length ≤ 1000) (s : ByteArray) : ∃ r, idxStr (l, s, ()) = some (r, ()) := by
 unfold idxStr idxStr_B
 obtain ⟨z, hz, -⟩ : ∃ z, idxStr_w0 (l, s, (↑(List.length l) : Int), 0, ()) = some z ∧ True := by
  refine iterO_rec (step := fun x => (idxStr_l0 x).run) (Q := fun _ _ => True) (fun x => x.1 = l ∧ x.2.1 = s ∧ x.2.2.1 = (l.length : Int) ∧ 0 ≤ x.2.2.2.1 ∧ x.2.2.2.1 ≤ (l.length : Int)) (fun x => ((l.length : Int) - x.2.2.2.1).toNat) ?_ _ ⟨rfl, rfl, rfl, by dsimp only; omega, by dsimp only; omega⟩
  rintro ⟨l', s', m, i, ⟨⟩⟩ hx
  dsimp only at hx ⊢
  obtain ⟨rfl, rfl, rfl, h0, h1⟩ := hx
  unfold idxStr_l0
  by_cases hi : i < (l'.length : Int)
  ·have hw : IntKind.wrap .i64 (i + 1) = i + 1 := Go.PI.wrap_small (by omega) (by omega)
   simp only [Br.run, decide_eq_true hi, decide_eq_true h0, Bool.and_self, cond_true, hw, cond_eq_ite]
   by_cases hc : (bl s' == bl (l'.getD i.toNat ByteArray.empty)) = true <;> simp only [hc, ↓reduceIte, Bool.false_eq_true]
   ·exact .inr ⟨_, rfl, trivial⟩
   ·refine .inl ⟨_, rfl, ?_, ?_, fun z hz => hz⟩
    ·exact ⟨rfl, rfl, rfl, by dsimp only; omega, by dsimp only; omega⟩
    ·dsimp only; omega
  ·simp only [Br.run, decide_eq_false hi, cond_false]
   exact .inr ⟨_, rfl, trivial⟩
 simp only [Br.run, hz]
 cases z <;> exact ⟨_, rfl⟩
theorem hasStr_tot (l : List ByteArray) (hl : l.length ≤ 1000) (s : ByteArray) : ∃ b, hasStr (l, s, ()) = some (b, ()) := by
 unfold hasStr hasStr_B
 obtain ⟨r, h⟩ := idxStr_tot l hl s
 simp only [Br.run, h]
 exact ⟨_, rfl⟩
theorem holdsF_tot (l : List Nd) (env : List Bnd) (he : env.length ≤ 64) : ∃ b, holdsF (sch3, l, env, ()) = some (b, ()) := by
 unfold holdsF holdsF_B truthV truthV_B
 simp only [Br.run, evalE_at (fv_tot env he), cond_eq_ite]
 split
 ·exact ⟨_, rfl⟩
 ·split
  all_goals (split <;> exact ⟨_, rfl⟩)
def QOk (q : Qry) : Prop := ∀ e ∈ q.1, e.2.1.length ≤ 1000
theorem qok_get {q : Qry} (h : QOk q) (i : Nat) : (q.1.getD i eZ).2.1.length ≤ 1000 := by
 by_cases hi : i < q.1.length
 ·have : q.1.getD i eZ = q.1[i] := by simp [List.getD, hi]
  rw [this]
  exact h _ (List.getElem_mem hi)
 ·have : q.1.getD i eZ = eZ := by simp [List.getD, Nat.le_of_not_lt hi]
  rw [this]; decide
end Go.Proofs.YtiblijkhpmemeaaGreat

namespace Go.Proofs.YtiblijkhpmemeaaGreat
open Go.PI Go
end Go.Proofs.YtiblijkhpmemeaaGreat
