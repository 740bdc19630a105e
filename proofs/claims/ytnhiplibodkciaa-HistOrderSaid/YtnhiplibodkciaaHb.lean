/- The context of law 47's order. Spans in the order of their turns: sorted in place, nothing lost. Abbreviations of types, for the printed texts. Contracts of functions. Printed by auto.py. Contracts of functions. Printed by auto.py. strings.Compare's contract, whose entry has no body. Contracts of functions. Printed by auto.py. What the parts of predicates come to: whatever the parts, an answer. What parts of values come to: loops, and how two stand. What Eval comes to: part by part. What Eval comes to: part by part, on a stack. Contracts of functions. Printed by auto.py. Twins of functions that the kernel reckons. Printed by twin.py. The schema of the three types, by the kernel. Contracts of functions. Printed by auto.py. The schema of three types; events that are made; fields of variables: whatever is asked, an answer. Contracts of functions. Printed by auto.py. Chains of pairs and of bound events: one more. A context: events made, beside the chains. Contracts of functions. Printed by auto.py. Contracts of functions. Printed by auto.py. Chains of bound events, told by their cells: Len; what Back's function yields. Blocks of cells: stores. Chains of bound events: Back. List's contract, of a chain of bound events. A context: chains' lists, events, runs. Contracts of functions. Printed by auto.py. What guards come to: whatever is asked, an answer. Blocks: whether one of the elements that must not be there fits; the statement's own loop comes to the same. Contracts of functions. Printed by auto.py. Parts that the statements of guards and of steps share: trees, queries' parts, events. Histories that are made: what comes, event by event; their spans. -/
import Derived.Test.YtnhiplibodkciaaH1a
import Derived.Test.YtnhiplibodkciaaH2a
import Derived.Test.YtnhiplibodkciaaGa
import Derived.Test.YtnhiplibodkciaaHa
import Derived.Lib.Bytealg
import Derived.ProofKit
import Derived.Test.YtnhiplibodkciaaGe
import Derived.KernelRfl
import Derived.RangeFuncNested
import Derived.RangeFuncBound
import Derived.RangeFuncCalls
import Derived.RangeFuncLeaves
import Derived.Shelf.Abstract
import Derived.Shelf.RegionOpen
import Derived.WalkKit
import Derived.OwnWalkIn
import Derived.TacticsInMore
import Derived.LoopNIn
import Derived.LoopIn
import Derived.Test.YtnhiplibodkciaaProg
import Derived.Laws.MakeOwn
namespace Go.Proofs.Ytnhiplibodkciaa
open Go.PI Go
abbrev spanT : Ty := .st (.pair (.int .i64) (.pair (.int .i64) (.pair (.int .i64) (.pair (.int .i64) (.pair (.int .i64) (.st (.pair (.int .i64) (.pair (.int .i64) (.arr 6 (.int .i64))))))))))
noncomputable def cxH3 : Ctx := addO cx_awake47 83 (rowOrc 33 spanT sortSp_R sortSp)
theorem enH3 : EnvFull Try.prog cxH3 := env_add en_awake47 sortSp_oc.callOk
end Go.Proofs.Ytnhiplibodkciaa

namespace Go.Proofs.Ytnhiplibodkciaa
open Go.PI Go

abbrev RetT := Int × (Int × List Int)
abbrev SpT := Int × (Int × (Int × (Int × (Int × RetT))))
abbrev spZ : SpT := (0, 0, 0, 0, 0, 0, 0, List.replicate 6 0)
abbrev turn (s : SpT) : Int := s.2.2.2.1

theorem at_lt {α : Type} (l : List α) (i : Nat) (d : α) (h : i < l.length) : l.getD i d = l[i] := by simp [List.getD, h]
theorem iterO_b {X Z : Type} {step : X → Br (X ⊕ Z)} (Inv : X → Prop) (μ : X → Nat) (Q : Z → Prop) (h : ∀ x, Inv x → ∃ s, (step x).run = some s ∧ ((∃ y, s = .inl y ∧ Inv y ∧ μ y < μ x) ∨ ∃ z, s = .inr z ∧ Q z)) (x : X) (hx : Inv x) :
    ∃ z, iterO (fun x => (step x).run) x = some z ∧ Q z := by
  refine iterO_rec (step := fun x => (step x).run) (Q := fun _ z => Q z) Inv μ (fun x hx => ?_) x hx
  obtain ⟨s, hs, ⟨y, rfl, h1, h2⟩ | ⟨z, rfl, h1⟩⟩ := h x hx
  · exact .inl ⟨y, hs, h1, h2, fun z hz => hz⟩
  · exact .inr ⟨z, hs, h1⟩

def swp (r : List SpT) (j : Nat) : List SpT := (r.set j (r.getD (j - 1) spZ)).set (j - 1) (r.getD j spZ)
theorem swp_len (r : List SpT) (j : Nat) : (swp r j).length = r.length := by simp [swp]
theorem swp_perm (r : List SpT) (j : Nat) (h : j < r.length) : (swp r j).Perm r := by
  unfold swp
  rw [at_lt _ _ _ h, at_lt _ (j - 1) _ (by omega)]
  exact List.set_set_perm h (by omega)
theorem swp_get (r : List SpT) (j : Nat) (h0 : 0 < j) (h : j < r.length) (k : Nat) (hk : k < r.length) : (swp r j).getD k spZ = if k = j - 1 then r.getD j spZ else if k = j then r.getD (j - 1) spZ else r.getD k spZ := by
  rw [at_lt _ _ _ (by rw [swp_len]; exact hk)]
  unfold swp
  by_cases h1 : k = j - 1
  · subst h1
    rw [if_pos rfl, List.getElem_set_self]
  · rw [if_neg h1, List.getElem_set_ne (Ne.symm h1)]
    by_cases h2 : k = j
    · subst h2
      rw [if_pos rfl, List.getElem_set_self]
    · rw [if_neg h2, List.getElem_set_ne (Ne.symm h2), at_lt _ _ _ hk]

def Srt (r : List SpT) (i j : Int) : Prop := ∀ x y : Nat, x < y → (y : Int) ≤ i → (y : Int) ≠ j → turn (r.getD x spZ) ≤ turn (r.getD y spZ)
def TOk (r : List SpT) : Prop := ∀ s ∈ r, -1 ≤ turn s ∧ turn s ≤ 1000

theorem insSort_w1_at (a b i : Int) (r : List SpT) (ht : TOk r) (ha : a = 0) (hl : r.length ≤ 1000) (i0 : 0 ≤ i) (i1 : i < r.length) (hs : ∀ x y : Nat, x < y → (y : Int) < i → turn (r.getD x spZ) ≤ turn (r.getD y spZ)) :
    ∃ r', insSort_w1 (a, b, i, i, r, ()) = some (a, b, i, r', ()) ∧ r'.Perm r ∧ ∀ x y : Nat, x < y → (y : Int) ≤ i → turn (r'.getD x spZ) ≤ turn (r'.getD y spZ) := by
  subst ha
  suffices hh : ∃ z, insSort_w1 (0, b, i, i, r, ()) = some z ∧ ∃ r', z = (0, b, i, r', ()) ∧ r'.Perm r ∧ ∀ x y : Nat, x < y → (y : Int) ≤ i → turn (r'.getD x spZ) ≤ turn (r'.getD y spZ) by
    obtain ⟨z, hz, r', rfl, h⟩ := hh
    exact ⟨r', hz, h⟩
  refine iterO_b (step := insSort_l1) (fun y => ∃ (j : Int) (r' : List SpT), y = (0, b, i, j, r', ()) ∧ 0 ≤ j ∧ j ≤ i ∧ r'.Perm r ∧ Srt r' i j) (fun y => y.2.2.2.1.toNat) _ ?_ _ ⟨i, r, rfl, i0, Int.le_refl i, .refl r, fun x y h1 h2 h3 => hs x y h1 (by omega)⟩
  rintro y ⟨j, r', rfl, j0, j1, hp, hS⟩
  have hl' : r'.length = r.length := hp.length_eq
  unfold insSort_l1
  by_cases hj : j > 0
  · have hw : IntKind.wrap .i64 (j - 1) = j - 1 := Go.PI.wrap_small (by omega) (by omega)
    have b0 : (decide (0 ≤ j) && decide (j < (r'.length : Int))) = true := by simp; omega
    have b1 : (decide (0 ≤ j - 1) && decide (j - 1 < (r'.length : Int))) = true := by simp; omega
    have b2 : ∀ v : SpT, (decide (0 ≤ j - 1) && decide (j - 1 < ((r'.set j.toNat v).length : Int))) = true := fun v => by rw [List.length_set]; exact b1
    have jl : j.toNat < r'.length := by omega
    have tj := ht (r'.getD j.toNat spZ) (hp.subset (by rw [at_lt _ _ _ jl]; exact List.getElem_mem jl))
    have jl1 : (j - 1).toNat < r'.length := by omega
    have tj1 := ht (r'.getD (j - 1).toNat spZ) (hp.subset (by rw [at_lt _ _ _ jl1]; exact List.getElem_mem jl1))
    have ej : (j - 1).toNat = j.toNat - 1 := by omega
    have hc : cmpSp (r'.getD j.toNat spZ, r'.getD (j - 1).toNat spZ, ()) = some (turn (r'.getD j.toNat spZ) - turn (r'.getD (j - 1).toNat spZ), ()) := by
      have hwt : IntKind.wrap .i64 (turn (r'.getD j.toNat spZ) - turn (r'.getD (j - 1).toNat spZ)) = turn (r'.getD j.toNat spZ) - turn (r'.getD (j - 1).toNat spZ) := Go.PI.wrap_small (by omega) (by omega)
      show some (IntKind.wrap .i64 (turn (r'.getD j.toNat spZ) - turn (r'.getD (j - 1).toNat spZ)), ()) = _
      rw [hwt]
    have hg := swp_get r' j.toNat (by omega) jl
    by_cases hlt : turn (r'.getD j.toNat spZ) - turn (r'.getD (j - 1).toNat spZ) < 0
    · refine ⟨.inl (0, b, i, j - 1, swp r' j.toNat, ()), ?_, .inl ⟨_, rfl, ⟨j - 1, _, rfl, by omega, by omega, (swp_perm r' _ jl).trans hp, fun x y h1 h2 h3 => ?_⟩, by dsimp only; omega⟩⟩
      · simp only [Br.run, decide_eq_true hj, hw, b0, b1, b2, cond_true, hc, decide_eq_true hlt]
        unfold swp
        rw [ej]
      · rw [ej] at hlt
        have hx : x < r'.length := by omega
        have hy : y < r'.length := by omega
        have gy : (swp r' j.toNat).getD y spZ = if y = j.toNat then r'.getD (j.toNat - 1) spZ else r'.getD y spZ := by rw [hg y hy, if_neg (by omega)]
        have gx := hg x hx
        by_cases y1 : y = j.toNat
        · rw [if_pos y1] at gy
          rw [gy]
          by_cases x1 : x = j.toNat - 1
          · rw [gx, if_pos x1]; omega
          · rw [gx, if_neg x1, if_neg (by omega)]
            exact hS x (j.toNat - 1) (by omega) (by omega) (by omega)
        · rw [if_neg y1] at gy
          rw [gy]
          by_cases x1 : x = j.toNat - 1
          · rw [gx, if_pos x1]
            exact hS j.toNat y (by omega) h2 (by omega)
          · rw [if_neg x1] at gx
            by_cases x2 : x = j.toNat
            · rw [gx, if_pos x2]
              exact hS (j.toNat - 1) y (by omega) h2 (by omega)
            · rw [gx, if_neg x2]
              exact hS x y h1 h2 (by omega)
    · refine ⟨.inr (0, b, i, r', ()), ?_, .inr ⟨_, rfl, r', rfl, hp, fun x y h1 h2 => ?_⟩⟩
      · simp only [Br.run, decide_eq_true hj, hw, b0, b1, cond_true, hc, decide_eq_false hlt, cond_false]
      · rw [ej] at hlt
        by_cases y1 : (y : Int) = j
        · have e : j.toNat = y := by omega
          rw [e] at hlt
          by_cases x1 : x = y - 1
          · subst x1; omega
          · have := hS x (y - 1) (by omega) (by omega) (by omega)
            omega
        · exact hS x y h1 h2 y1
  · refine ⟨.inr (0, b, i, r', ()), ?_, .inr ⟨_, rfl, r', rfl, hp, fun x y h1 h2 => hS x y h1 h2 (by omega)⟩⟩
    simp only [Br.run, decide_eq_false hj, cond_false]

theorem insSort_at (r : List SpT) (ht : TOk r) (hl : r.length ≤ 1000) : ∃ r', insSort r (0, (r.length : Int), (), ()) = some r' ∧ r'.Perm r ∧ ∀ x y : Nat, x < y → y < r.length → turn (r'.getD x spZ) ≤ turn (r'.getD y spZ) := by
  have hw0 : IntKind.wrap .i64 (0 + 1) = 1 := rfl
  obtain ⟨z, hz, r', rfl, h1, h2⟩ : ∃ z, insSort_w0 (0, (r.length : Int), 1, r, ()) = some z ∧ ∃ r', z = (r', ()) ∧ r'.Perm r ∧ ∀ x y : Nat, x < y → y < r.length → turn (r'.getD x spZ) ≤ turn (r'.getD y spZ) := by
    refine iterO_b (step := insSort_l0) (fun y => ∃ (i : Int) (r' : List SpT), y = (0, (r.length : Int), i, r', ()) ∧ 1 ≤ i ∧ i ≤ r.length + 1 ∧ r'.Perm r ∧ ∀ x y : Nat, x < y → (y : Int) < i → turn (r'.getD x spZ) ≤ turn (r'.getD y spZ)) (fun y => ((r.length : Int) + 1 - y.2.2.1).toNat) _ ?_ _ ⟨1, r, rfl, Int.le_refl 1, by omega, .refl r, fun x y a b => by omega⟩
    rintro y ⟨i, r', rfl, g0, g1, hp, hs⟩
    have hl' : r'.length = r.length := hp.length_eq
    unfold insSort_l0
    by_cases hi : i < (r.length : Int)
    · have hw : IntKind.wrap .i64 (i + 1) = i + 1 := Go.PI.wrap_small (by omega) (by omega)
      obtain ⟨r2, e1, e2, e3⟩ := insSort_w1_at 0 (r.length : Int) i r' (fun s hs => ht s (hp.subset hs)) rfl (by omega) (by omega) (by omega) hs
      refine ⟨.inl (0, (r.length : Int), i + 1, r2, ()), ?_, .inl ⟨_, rfl, ⟨i + 1, r2, rfl, by omega, by omega, e2.trans hp, fun x y a b => e3 x y a (by omega)⟩, by dsimp only; omega⟩⟩
      simp only [Br.run, decide_eq_true hi, cond_true, e1, hw]
    · refine ⟨.inr (r', ()), ?_, .inr ⟨_, rfl, r', rfl, hp, fun x y a b => hs x y a (by omega)⟩⟩
      simp only [Br.run, decide_eq_false hi, cond_false]
  refine ⟨r', ?_, h1, h2⟩
  unfold insSort insSort_B
  simp only [Br.run, hw0, hz]

theorem sortSp_at (r : List SpT) (ht : TOk r) (hl : r.length ≤ 12) : ∃ r', sortSp r ((), ()) = some r' ∧ r'.Perm r ∧ ∀ x y : Nat, x < y → y < r.length → turn (r'.getD x spZ) ≤ turn (r'.getD y spZ) := by
  obtain ⟨r', e1, e2, e3⟩ := insSort_at r ht (by omega)
  refine ⟨r', ?_, e2, e3⟩
  have hwu : ∃ u, lenU (IntKind.wrap .u64 (r.length : Int), ()) = some (u, ()) := by
    have h : r.length = 0 ∨ r.length = 1 ∨ r.length = 2 ∨ r.length = 3 ∨ r.length = 4 ∨ r.length = 5 ∨ r.length = 6 ∨ r.length = 7 ∨ r.length = 8 ∨ r.length = 9 ∨ r.length = 10 ∨ r.length = 11 ∨ r.length = 12 := by omega
    rcases h with h | h | h | h | h | h | h | h | h | h | h | h | h
    · rw [h]; exact ⟨0, by kernel_rfl⟩
    · rw [h]; exact ⟨1, by kernel_rfl⟩
    · rw [h]; exact ⟨2, by kernel_rfl⟩
    · rw [h]; exact ⟨2, by kernel_rfl⟩
    · rw [h]; exact ⟨3, by kernel_rfl⟩
    · rw [h]; exact ⟨3, by kernel_rfl⟩
    · rw [h]; exact ⟨3, by kernel_rfl⟩
    · rw [h]; exact ⟨3, by kernel_rfl⟩
    · rw [h]; exact ⟨4, by kernel_rfl⟩
    · rw [h]; exact ⟨4, by kernel_rfl⟩
    · rw [h]; exact ⟨4, by kernel_rfl⟩
    · rw [h]; exact ⟨4, by kernel_rfl⟩
    · rw [h]; exact ⟨4, by kernel_rfl⟩
  obtain ⟨u, hu⟩ := hwu
  have hp : pdq r (0, (r.length : Int), u, (), ()) = some r' := by
    obtain ⟨z, hz, rfl⟩ : ∃ z, pdq_w0 (0, (r.length : Int), u, r, ()) = some z ∧ z = (r', ()) := by
      refine iterO_b (step := pdq_l0) (fun y => y = (0, (r.length : Int), u, r, ())) (fun _ => 0) _ ?_ _ rfl
      rintro y rfl
      refine ⟨.inr (r', ()), ?_, .inr ⟨_, rfl, rfl⟩⟩
      unfold pdq_l0
      have hw : IntKind.wrap .i64 ((r.length : Int) - 0) = (r.length : Int) := by rw [Go.PI.wrap_small (by omega) (by omega)]; omega
      have h12 : (r.length : Int) ≤ 12 := by omega
      simp only [Br.run, hw, decide_eq_true h12, cond_true, e1]
    unfold pdq pdq_B
    simp only [Br.run, hz]
  unfold sortSp sortSp_B
  simp only [Br.run, hu, hp]
end Go.Proofs.Ytnhiplibodkciaa

namespace Go.Proofs.Ytnhiplibodkciaa
open Go.PI Go
end Go.Proofs.Ytnhiplibodkciaa

namespace Go.Proofs.Ytnhiplibodkciaa
open Go.PI Go
end Go.Proofs.Ytnhiplibodkciaa

namespace Go.Proofs.Ytnhiplibodkciaa
open Go.PI Go
end Go.Proofs.Ytnhiplibodkciaa

namespace Go.PI
open Go.RowKit
variable {P : Program} {c : Ctx} {g : Cfg} {s st : St} {a : Act} {w : World} {μ : Nm} {I : Bool → Nat → Prop}

end Go.PI
namespace Go.Proofs.Ytnhiplibodkciaa
open Go.PI Go Go.RowKit
end Go.Proofs.Ytnhiplibodkciaa

namespace Go.Proofs.Ytnhiplibodkciaa
open Go.PI Go
end Go.Proofs.Ytnhiplibodkciaa

namespace Go.Proofs.Ytnhiplibodkciaa
open Go.PI Go

abbrev Val := Int × (Int × (ByteArray × Bool))
abbrev Evt := ByteArray × (ByteArray × (Int × (Int × List Val)))
abbrev Bnd := ByteArray × Evt
def pt (op : Int) : Int := if op = 1 then 0 else if op = 2 then 0 else if op = 3 then 1 else if op = 13 then 1 else if 4 ≤ op then (if op ≤ 15 then 2 else -1) else -1

theorem drop_get {α : Type} (l : List α) (i : Int) (d : α) (h0 : 0 ≤ i) (h1 : i < (l.length : Int)) : l.drop i.toNat = l.getD i.toNat d :: l.drop (i + 1).toNat := by
  have h : i.toNat < l.length := by omega
  have e : (i + 1).toNat = i.toNat + 1 := by omega
  rw [e, List.drop_eq_getElem_cons h]
  simp [List.getD, h]

end Go.Proofs.Ytnhiplibodkciaa

namespace Go.Proofs.Ytnhiplibodkciaa
open Go.PI Go

end Go.Proofs.Ytnhiplibodkciaa

namespace Go.Proofs.Ytnhiplibodkciaa
open Go.PI Go

end Go.Proofs.Ytnhiplibodkciaa

namespace Go.Proofs.Ytnhiplibodkciaa
open Go.PI Go

end Go.Proofs.Ytnhiplibodkciaa

namespace Go.Proofs.Ytnhiplibodkciaa
open Go.PI Go
end Go.Proofs.Ytnhiplibodkciaa

namespace Go.Proofs.Ytnhiplibodkciaa
open Go.PI Go
end Go.Proofs.Ytnhiplibodkciaa

namespace Go.Proofs.Ytnhiplibodkciaa
open Go.PI Go
end Go.Proofs.Ytnhiplibodkciaa

namespace Go.Proofs.Ytnhiplibodkciaa
open Go.PI Go
end Go.Proofs.Ytnhiplibodkciaa

namespace Go.Proofs.Ytnhiplibodkciaa
open Go.PI Go

theorem mask_in (x m : Int) (hm : 0 ≤ m) (hm2 : m < 9223372036854775808) : 0 ≤ IntKind.wrap .i64 (↑(BitVec.toNat (BitVec.ofInt (IntKind.bits .i64) x &&& BitVec.ofInt (IntKind.bits .i64) m)) : Int) ∧ IntKind.wrap .i64 (↑(BitVec.toNat (BitVec.ofInt (IntKind.bits .i64) x &&& BitVec.ofInt (IntKind.bits .i64) m)) : Int) ≤ m := by
  have h1 : BitVec.toNat (BitVec.ofInt (IntKind.bits .i64) x &&& BitVec.ofInt (IntKind.bits .i64) m) ≤ m.toNat := by
    rw [BitVec.toNat_and]
    refine Nat.le_trans Nat.and_le_right ?_
    rw [BitVec.toNat_ofInt]
    have : (m % ((2 ^ IntKind.bits .i64 : Nat) : Int)) = m := Int.emod_eq_of_lt hm (by
      have : ((2 ^ IntKind.bits .i64 : Nat) : Int) = 18446744073709551616 := by decide
      rw [this]; omega)
    rw [this]
    exact Nat.le_refl _
  rw [Go.PI.wrap_small (by omega) (by omega)]
  omega

end Go.Proofs.Ytnhiplibodkciaa

namespace Go.Proofs.Ytnhiplibodkciaa
open Go.PI Go
end Go.Proofs.Ytnhiplibodkciaa

namespace Go.Proofs.Ytnhiplibodkciaa
open Go.PI Go

end Go.Proofs.Ytnhiplibodkciaa

namespace Go.Proofs.Ytnhiplibodkciaa
open Go.PI Go
end Go.Proofs.Ytnhiplibodkciaa

namespace Go.Proofs.Ytnhiplibodkciaa
open Go.PI Go
end Go.Proofs.Ytnhiplibodkciaa

namespace Go.Proofs.Ytnhiplibodkciaa
open Go.PI Go
end Go.Proofs.Ytnhiplibodkciaa

namespace Go.Proofs.Ytnhiplibodkciaa
open Go.RowKit Go.Shelf Go

attribute [local go_sem] Oper.semAt_some

structure C6 where
  c0 : Value
  c1 : Value
  c2 : Value
  c3 : Value
  c4 : Value
  c5 : Value
  ok : ∀ u ∈ [c0, c1, c2, c3, c4, c5], u.oneCell' = true
def C6.cells (x : C6) : List Value := [x.c0, x.c1, x.c2, x.c3, x.c4, x.c5]
def C6.enc (x : C6) : Value := .agg #[x.c0, x.c1, x.c2, x.c3, x.c4, x.c5]

end Go.Proofs.Ytnhiplibodkciaa

namespace Go.Proofs.Ytnhiplibodkciaa
open Go.RowKit Go.Shelf Go
variable {P : Program}

def Blk (W : World) (B : Nat) (t : TypeId) (cur : Array Value) : Prop := W.heap[B]? = some (.cells cur t (0, 0))
theorem Blk.lt {W : World} {B : Nat} {t : TypeId} {cur : Array Value} (h : Blk W B t cur) : B < W.heap.size := (Array.getElem?_eq_some_iff.1 h).1
theorem Blk.kept {W W' : World} {row : Option Nat} {B : Nat} {t : TypeId} {cur : Array Value} (h : Blk W B t cur) (hg : W.grownBy W' row) (hne : some B ≠ row) : Blk W' B t cur := (hg.block B h.lt hne).trans h
theorem Blk.alloc {W : World} {B : Nat} {t : TypeId} {cur : Array Value} (h : Blk W B t cur) (o : Obj) : Blk (W.alloc o) B t cur := h.kept (World.grownBy_alloc W o none) (by simp)
theorem Blk.cell {W : World} {B : Nat} {t : TypeId} {cur : Array Value} (h : Blk W B t cur) (j : Nat) : W.cell? ⟨B, j, none⟩ = cur[j]? := by simp [World.cell?, show W.heap[B]? = _ from h]
theorem Blk.frozen {W : World} {B : Nat} {t : TypeId} {cur : Array Value} (h : Blk W B t cur) (j : Nat) : W.frozen? ⟨B, j, none⟩ = false := by simp [World.frozen?, show W.heap[B]? = _ from h]
theorem Blk.own {β : Type} (B : Nat) (t : TypeId) (p : β → Array Value → Prop) : Own (fun s W => ∃ cur, Blk W B t cur ∧ p s cur) := fun s X Y row ⟨cur, hs, hp⟩ hg hrow =>
  ⟨cur, hs.kept hg (fun e => by
    obtain ⟨o, ho, hc⟩ := hrow B e.symm
    rw [show X.heap[B]? = _ from hs] at ho
    cases ho
    cases hc), hp⟩
theorem Blk.set {W : World} {B : Nat} {t : TypeId} {cur : Array Value} (h : Blk W B t cur) (o : Nat) (v : Value) : Blk (W.setCell ⟨B, o, none⟩ v) B t (cur.setIfInBounds o v) := by
  obtain ⟨hlt, hk⟩ := Array.getElem?_eq_some_iff.1 h
  show (W.heap.modify B _)[B]? = _
  rw [Array.getElem?_eq_getElem (by rw [Array.size_modify]; exact hlt), Array.getElem_modify_self, hk]
  rfl
theorem Blk.store {W : World} {B : Nat} {t : TypeId} {cur : Array Value} (h : Blk W B t cur) {o : Nat} (ho : o < cur.size) {v : Value} (hv : v.oneCell' = true) : (store ⟨B, o, none⟩ v).run P W = .ok () (W.setCell ⟨B, o, none⟩ v) := by
  rw [run_store P W _ v _ hv]
  have h1 := h.cell o
  rw [Array.getElem?_eq_getElem ho] at h1
  have h2 := h.frozen o
  simp only [stored, h1, h2]
  rfl

end Go.Proofs.Ytnhiplibodkciaa

namespace Go.Proofs.Ytnhiplibodkciaa
open Go.RowKit Go.Shelf Go

attribute [local go_sem] Oper.semAt_some

@[reducible] def listTmps (A N : Nat) (p0 : Option Addr) (Bx : Nat) (x : C6) : Array Value := #[.pointer p0, undef, .slice none 0 0, .pointer (some ⟨A + 1, 0, none⟩), .pointer (some ⟨A + 1 + 1, 0, none⟩), .pointer (some ⟨Bx, 0, none⟩), .pointer p0, .int .i64 N, .slice (some ⟨A, 0, none⟩) N N, .slice (some ⟨A, 0, none⟩) N N, .int .i64 N, .pointer p0, .func (.func 182) #[] #[.pointer (some ⟨A + 1 + 1 + 1, 0, none⟩)], .agg #[x.c0, x.c1, x.c2, x.c3, x.c4, x.c5], undef, undef, undef, undef, undef, undef, undef]

end Go.Proofs.Ytnhiplibodkciaa

namespace Go.Proofs.Ytnhiplibodkciaa
open Go.RowKit Go.PI Go

end Go.Proofs.Ytnhiplibodkciaa

namespace Go.Proofs.Ytnhiplibodkciaa
open Go.PI Go
end Go.Proofs.Ytnhiplibodkciaa

namespace Go.Proofs.Ytnhiplibodkciaa
open Go.PI Go
end Go.Proofs.Ytnhiplibodkciaa

namespace Go.Proofs.Ytnhiplibodkciaa
open Go.PI Go

end Go.Proofs.Ytnhiplibodkciaa

namespace Go.Proofs.Ytnhiplibodkciaa
open Go.PI Go

end Go.Proofs.Ytnhiplibodkciaa

namespace Go.Proofs.Ytnhiplibodkciaa
open Go.PI Go
end Go.Proofs.Ytnhiplibodkciaa

namespace Go.Proofs.Ytnhiplibodkciaa
open Go.PI Go

def BT {α : Type} (P : α → Prop) (b : Br α) : Prop := ∃ y, b.run = some y ∧ P y
theorem BT.ret {α : Type} {P : α → Prop} {y : α} (h : P y) : BT P (.ret y) := ⟨y, rfl, h⟩
theorem BT.cond {α : Type} {P : α → Prop} {c : Bool} {a b : Br α} (h : c = true → BT P a) (k : c = false → BT P b) : BT P (.cond c a b) := by
  cases c
  · exact k rfl
  · exact h rfl
theorem BT.opt {α β : Type} {P : α → Prop} {o : Option β} {k : β → Br α} (h : ∃ v, o = some v ∧ BT P (k v)) : BT P (.opt o k) := by
  obtain ⟨v, rfl, h⟩ := h
  exact h

theorem BT.inl {α β : Type} {b : Br (α ⊕ β)} {P : α → Prop} (h : BT (fun y => ∃ x, y = .inl x ∧ P x) b) : ∃ x, b.run = some (.inl x) ∧ P x := by
  obtain ⟨y, hy, x, rfl, h⟩ := h
  exact ⟨x, hy, h⟩
theorem BT.inr {α β : Type} {b : Br (α ⊕ β)} {P : β → Prop} (h : BT (fun y => ∃ x, y = .inr x ∧ P x) b) : ∃ x, b.run = some (.inr x) ∧ P x := by
  obtain ⟨y, hy, x, rfl, h⟩ := h
  exact ⟨x, hy, h⟩
theorem BT.sumr {α β γ : Type} {P : α → Prop} {c : γ} {k : β → Br α} {l : γ → Br α} (h : BT P (l c)) : BT P (.sum (.inr c) k l) := h
end Go.Proofs.Ytnhiplibodkciaa

namespace Go.Proofs.Ytnhiplibodkciaa
open Go.PI Go

abbrev EvH := Int × (Int × (Int × RetT))
abbrev ehZ : EvH := (0, 0, 0, 0, 0, List.replicate 6 0)
abbrev z6 : List Int := [0, 0, 0, 0, 0, 0]
noncomputable def errn (n : Int) : Int := IntKind.wrap .i64 (↑(BitVec.toNat (BitVec.ofInt (IntKind.bits .i64) n &&& BitVec.ofInt (IntKind.bits .i64) 3)) : Int)
noncomputable def genE (A N : List Int) (k : Int) (t : Bool) : EvH × (List Int × List Int) :=
  if A.getD k.toNat 0 = 0 then ((1, k, N.getD k.toNat 0, 0, 0, z6), A.set k.toNat 1, N)
  else if A.getD k.toNat 0 = 1 ∧ t = true then ((2, k, N.getD k.toNat 0, errn (N.getD k.toNat 0), k, z6), A.set k.toNat 2, N)
  else ((3, k, N.getD k.toNat 0, errn (N.getD k.toNat 0), k, z6), A.set k.toNat 0, N.set k.toNat (IntKind.wrap .i64 (N.getD k.toNat 0 + 1)))
inductive Hg : List Int → List Int → List EvH → Prop
  | nil (A N : List Int) : Hg A N []
  | cons (A N : List Int) (k : Int) (t : Bool) (l : List EvH) (h0 : 0 ≤ k) (h1 : k < 3) (h : Hg (genE A N k t).2.1 (genE A N k t).2.2 l) : Hg A N ((genE A N k t).1 :: l)

structure StH (A N : List Int) (i : Int) : Prop where
  la : A.length = 3
  ln : N.length = 3
  a : ∀ c : Int, 0 ≤ A.getD c.toNat 0 ∧ A.getD c.toNat 0 ≤ 2
  n : ∀ c : Int, 0 ≤ N.getD c.toNat 0 ∧ N.getD c.toNat 0 ≤ i

theorem set_get (A : List Int) (k c v : Int) (h0 : 0 ≤ k) (h1 : k < A.length) (hc : 0 ≤ c) : (A.set k.toNat v).getD c.toNat 0 = if c = k then v else A.getD c.toNat 0 := by
  by_cases h : c = k
  · subst h
    rw [if_pos rfl, at_lt _ _ _ (by rw [List.length_set]; omega), List.getElem_set_self]
  · rw [if_neg h]
    simp only [List.getD]
    rw [List.getElem?_set_ne (by omega)]
theorem genE_st {A N : List Int} {i : Int} (h : StH A N i) (hi : i ≤ 1000) {k : Int} (t : Bool) (h0 : 0 ≤ k) (h1 : k < 3) : StH (genE A N k t).2.1 (genE A N k t).2.2 (i + 1) := by
  have hn := h.n k
  have hw : IntKind.wrap .i64 (N.getD k.toNat 0 + 1) = N.getD k.toNat 0 + 1 := Go.PI.wrap_small (by omega) (by omega)
  have sA : ∀ v : Int, 0 ≤ v → v ≤ 2 → ∀ c : Int, 0 ≤ (A.set k.toNat v).getD c.toNat 0 ∧ (A.set k.toNat v).getD c.toNat 0 ≤ 2 := fun v v0 v1 c => by
    by_cases hc : 0 ≤ c
    · rw [set_get A k c v h0 (by rw [h.la]; omega) hc]
      split
      · exact ⟨v0, v1⟩
      · exact h.a c
    · have e : c.toNat = (0 : Int).toNat := by omega
      rw [e, set_get A k 0 v h0 (by rw [h.la]; omega) (Int.le_refl 0)]
      split
      · exact ⟨v0, v1⟩
      · exact h.a 0
  have sN : ∀ c : Int, 0 ≤ N.getD c.toNat 0 ∧ N.getD c.toNat 0 ≤ i + 1 := fun c => by have := h.n c; omega
  unfold genE
  split
  · exact ⟨by simp [h.la], h.ln, sA 1 (by decide) (by decide), sN⟩
  · split
    · exact ⟨by simp [h.la], h.ln, sA 2 (by decide) (by decide), sN⟩
    · refine ⟨by simp [h.la], by simp [h.ln], sA 0 (by decide) (by decide), fun c => ?_⟩
      dsimp only
      rw [hw]
      by_cases hc : 0 ≤ c
      · rw [set_get N k c _ h0 (by rw [h.ln]; omega) hc]
        split
        · omega
        · exact sN c
      · have e : c.toNat = (0 : Int).toNat := by omega
        rw [e, set_get N k 0 _ h0 (by rw [h.ln]; omega) (Int.le_refl 0)]
        split
        · omega
        · exact sN 0

set_option maxHeartbeats 4000000 in
set_option maxRecDepth 10000 in
theorem madeH_step (p : List Int) (i : Int) (i0 : 0 ≤ i) (i1 : i < p.length) (i2 : i < 30) {A N : List Int} (h : StH A N i) (acc : List EvH) (ha : (acc.length : Int) = i) :
    ∃ (k : Int) (t : Bool), 0 ≤ k ∧ k < 3 ∧ BT (fun y => y = .inl (p, 15, i + 1, (genE A N k t).2.1, (genE A N k t).2.2, acc ++ [(genE A N k t).1], ())) (madeH_l0 (p, 15, i, A, N, acc, ())) := by
  have hM := mask_in (List.getD p (Int.toNat i) 0) 255 (by decide) (by decide)
  have o4 : IntKind.wrap .i64 (↑(BitVec.toNat (BitVec.ofInt (IntKind.bits .i64) (Int.fdiv 15 (2 ^ min (Int.toNat 4) (IntKind.bits .i64))) &&& BitVec.ofInt (IntKind.bits .i64) 31)) : Int) = 0 := by decide
  have o7 : IntKind.wrap .i64 (↑(BitVec.toNat (BitVec.ofInt (IntKind.bits .i64) 15 &&& BitVec.ofInt (IntKind.bits .i64) 7)) : Int) = 7 := by decide
  have hw : IntKind.wrap .i64 (i + 1) = i + 1 := Go.PI.wrap_small (by omega) (by omega)
  unfold madeH_l0
  dsimp only
  rw [hw, o4, o7]
  generalize IntKind.wrap IntKind.i64 (↑(BitVec.toNat (BitVec.ofInt (IntKind.bits IntKind.i64) (List.getD p (Int.toNat i) 0) &&& BitVec.ofInt (IntKind.bits IntKind.i64) 255)) : Int) = M at hM ⊢
  have k0 : 0 ≤ Int.tmod M 3 := Int.tmod_nonneg _ hM.1
  have k1 : Int.tmod M 3 < 3 := Int.tmod_lt_of_pos M (by decide)
  generalize Int.tmod M 3 = k at k0 k1 ⊢
  generalize ht : decide (IntKind.wrap IntKind.i64 (↑(BitVec.toNat (BitVec.ofInt (IntKind.bits IntKind.i64) (Int.fdiv (List.getD p (Int.toNat i) 0) (2 ^ min (Int.toNat 8) (IntKind.bits .i64))) &&& BitVec.ofInt (IntKind.bits IntKind.i64) 3)) : Int) > 0) = t
  refine ⟨k, t, k0, k1, ?_⟩
  have hA := h.a k
  have r1 : (decide (i < (p.length : Int))) = true := decide_eq_true i1
  have r2 : (decide (i < 30)) = true := decide_eq_true i2
  have r3 : (decide (0 ≤ i) && decide (i < (p.length : Int))) = true := by simp; omega
  have r4 : (decide (0 ≤ k) && decide (k < (3 : Int)) && decide (k < (N.length : Int))) = true := by rw [h.ln]; simp; omega
  have r5 : (decide (0 ≤ k) && decide (k < (3 : Int)) && decide (k < (A.length : Int))) = true := by rw [h.la]; simp; omega
  have bnd : (acc.length + 1) * 88 ≤ 140737488355328 := by omega
  have hd := h.a k
  have dlt : ∀ b : Bool, b = true → ∀ {P : _ → Prop} {a c : Br ((List Int × (Int × (Int × (List Int × (List Int × (List EvH × Unit)))))) ⊕ (List EvH × Unit))}, BT P a → BT P (.cond b a c) := fun b hb {P a c} hP => by subst hb; exact hP
  have dge : ∀ b : Bool, b = false → ∀ {P : _ → Prop} {a c : Br ((List Int × (Int × (Int × (List Int × (List Int × (List EvH × Unit)))))) ⊕ (List EvH × Unit))}, BT P c → BT P (.cond b a c) := fun b hb {P a c} hP => by subst hb; exact hP
  obtain c | c | c : A.getD k.toNat 0 = 0 ∨ A.getD k.toNat 0 = 1 ∨ A.getD k.toNat 0 = 2 := by omega
  · have g : genE A N k t = ((1, k, N.getD k.toNat 0, 0, 0, z6), A.set k.toNat 1, N) := if_pos c
    have q1 : decide (A.getD k.toNat 0 > 0) = false := by rw [c]; rfl
    have q2 : (A.getD k.toNat 0 == 0) = true := by rw [c]; rfl
    rw [g]
    refine dlt _ r1 (dlt _ r2 (dlt _ r3 (dge _ rfl (dlt _ r4 (dlt _ r5 (dge _ q1 ?_))))))
    repeat' first
      | (refine BT.ret ?_; rfl)
      | with_reducible exact dlt _ q2 ‹_›
      | (refine dge _ rfl ?_)
      | (refine dlt _ r5 ?_)
      | (refine dlt _ r4 ?_)
      | (refine dlt _ q2 ?_)
      | (refine dlt _ (decide_eq_true bnd) ?_)
      | (refine BT.cond (fun _ => ?_) (fun _ => ?_))
  · have q1 : decide (A.getD k.toNat 0 > 0) = true := by rw [c]; rfl
    have q2 : (A.getD k.toNat 0 == 0) = false := by rw [c]; rfl
    have q3 : (A.getD k.toNat 0 == 1) = true := by rw [c]; rfl
    have n0 : ¬ A.getD k.toNat 0 = 0 := by omega
    cases t
    · have g : genE A N k false = ((3, k, N.getD k.toNat 0, errn (N.getD k.toNat 0), k, z6), A.set k.toNat 0, N.set k.toNat (IntKind.wrap .i64 (N.getD k.toNat 0 + 1))) := by
        unfold genE
        rw [if_neg n0, if_neg (by simp)]
      rw [g]
      refine dlt _ r1 (dlt _ r2 (dlt _ r3 (dge _ rfl (dlt _ r4 (dlt _ r5 (dlt _ q1 ?_))))))
      repeat' first
        | (refine BT.ret ?_; rfl)
        | (refine dge _ rfl ?_)
        | (refine dlt _ r5 ?_)
        | (refine dlt _ r4 ?_)
        | (refine dlt _ r3 ?_)
        | (refine dge _ q2 ?_)
        | (refine dlt _ q3 ?_)
        | (refine dge _ rfl ?_)
        | (refine dlt _ (decide_eq_true bnd) ?_)
        | (refine BT.cond (fun _ => ?_) (fun _ => ?_))
    · have g : genE A N k true = ((2, k, N.getD k.toNat 0, errn (N.getD k.toNat 0), k, z6), A.set k.toNat 2, N) := by
        unfold genE
        rw [if_neg n0, if_pos ⟨c, rfl⟩]
      rw [g]
      refine dlt _ r1 (dlt _ r2 (dlt _ r3 (dge _ rfl (dlt _ r4 (dlt _ r5 (dlt _ q1 ?_))))))
      repeat' first
        | (refine BT.ret ?_; rfl)
        | (refine dge _ rfl ?_)
        | (refine dlt _ r5 ?_)
        | (refine dlt _ r4 ?_)
        | (refine dlt _ r3 ?_)
        | (refine dge _ q2 ?_)
        | (refine dlt _ q3 ?_)
        | (refine dlt _ rfl ?_)
        | (refine dlt _ (decide_eq_true bnd) ?_)
        | (refine BT.cond (fun _ => ?_) (fun _ => ?_))
  · have q1 : decide (A.getD k.toNat 0 > 0) = true := by rw [c]; rfl
    have q2 : (A.getD k.toNat 0 == 0) = false := by rw [c]; rfl
    have q3 : (A.getD k.toNat 0 == 1) = false := by rw [c]; rfl
    have n0 : ¬ A.getD k.toNat 0 = 0 := by omega
    have g : genE A N k t = ((3, k, N.getD k.toNat 0, errn (N.getD k.toNat 0), k, z6), A.set k.toNat 0, N.set k.toNat (IntKind.wrap .i64 (N.getD k.toNat 0 + 1))) := by
      unfold genE
      rw [if_neg n0, if_neg (by omega)]
    rw [g]
    refine dlt _ r1 (dlt _ r2 (dlt _ r3 (dge _ rfl (dlt _ r4 (dlt _ r5 (dlt _ q1 ?_))))))
    repeat' first
      | (refine BT.ret ?_; rfl)
      | (refine dge _ rfl ?_)
      | (refine dlt _ r5 ?_)
      | (refine dlt _ r4 ?_)
      | (refine dlt _ r3 ?_)
      | (refine dge _ q2 ?_)
      | (refine dge _ q3 ?_)
      | (refine dge _ q3 ?_)
      | (refine dlt _ (decide_eq_true bnd) ?_)
      | (refine BT.cond (fun _ => ?_) (fun _ => ?_))

theorem madeH_at (p : List Int) : ∃ h, madeH (p, 15, ()) = some (h, ()) ∧ h.length ≤ 30 ∧ Hg [0, 0, 0] [0, 0, 0] h := by
  have s0 : StH [0, 0, 0] [0, 0, 0] 0 := by
    have key : ∀ c : Int, ([0, 0, 0] : List Int).getD c.toNat 0 = 0 := fun c => by
      rcases c.toNat with _ | _ | _ | n <;> simp [List.getD]
    exact ⟨rfl, rfl, fun c => by rw [key]; decide, fun c => by rw [key]; decide⟩
  obtain ⟨z, hz, h, rfl, h1, h2⟩ : ∃ z, madeH_w0 (p, 15, 0, [0, 0, 0], [0, 0, 0], [], ()) = some z ∧ ∃ h, z = (h, ()) ∧ h.length ≤ 30 ∧ Hg [0, 0, 0] [0, 0, 0] h := by
    refine iterO_b (step := madeH_l0) (fun y => ∃ (i : Int) (A N : List Int) (acc : List EvH), y = (p, 15, i, A, N, acc, ()) ∧ 0 ≤ i ∧ i ≤ 30 ∧ StH A N i ∧ (acc.length : Int) = i ∧ ∀ l, Hg A N l → Hg [0, 0, 0] [0, 0, 0] (acc ++ l)) (fun y => (30 - y.2.2.1).toNat) _ ?_ _ ⟨0, _, _, [], rfl, Int.le_refl 0, by decide, s0, rfl, fun l h => h⟩
    rintro y ⟨i, A, N, acc, rfl, i0, i3, hS, ha, hl⟩
    by_cases i1 : i < (p.length : Int)
    · by_cases i2 : i < 30
      · obtain ⟨k, t, k0, k1, s, hs, rfl⟩ := madeH_step p i i0 i1 i2 hS acc ha
        refine ⟨_, hs, .inl ⟨_, rfl, ⟨i + 1, _, _, _, rfl, by omega, by omega, genE_st hS (by omega) t k0 k1, ?_, fun l h => ?_⟩, by dsimp only; omega⟩⟩
        · rw [List.length_append, List.length_singleton]; omega
        · rw [List.append_assoc]
          exact hl _ (.cons A N k t l k0 k1 h)
      · refine ⟨.inr (acc, ()), ?_, .inr ⟨_, rfl, acc, rfl, by omega, by have := hl [] (.nil A N); rwa [List.append_nil] at this⟩⟩
        unfold madeH_l0
        simp only [Br.run, decide_eq_true i1, decide_eq_false i2, cond_true, cond_false]
    · refine ⟨.inr (acc, ()), ?_, .inr ⟨_, rfl, acc, rfl, by omega, by have := hl [] (.nil A N); rwa [List.append_nil] at this⟩⟩
      unfold madeH_l0
      simp only [Br.run, decide_eq_false i1, cond_false]
  refine ⟨h, ?_, h1, h2⟩
  unfold madeH madeH_B
  simp only [Br.run, hz]
end Go.Proofs.Ytnhiplibodkciaa
