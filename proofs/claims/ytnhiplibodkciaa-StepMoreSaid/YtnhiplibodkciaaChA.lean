/- Chains of bound events, told by their cells: Len; what Back's function yields. -/
import Derived.RangeFuncNested
import Derived.RangeFuncBound
import Derived.RangeFuncCalls
import Derived.RangeFuncLeaves
import Derived.Shelf.Abstract
import Derived.Shelf.RegionOpen
import Derived.WalkKit
import Derived.OwnWalkIn
import Derived.TacticsInMore
import Derived.LoopNIn
import Derived.LoopIn
import Derived.Test.YtnhiplibodkciaaProg
namespace Go.Proofs.Ytnhiplibodkciaa
open Go.RowKit Go.Shelf Go

attribute [local go_sem] Oper.semAt_some

/-- A thing's cells. -/
structure C6 where
  c0 : Value
  c1 : Value
  c2 : Value
  c3 : Value
  c4 : Value
  c5 : Value
  ok : ∀ u ∈ [c0, c1, c2, c3, c4, c5], u.oneCell' = true
def C6.cells (x : C6) : List Value := [x.c0, x.c1, x.c2, x.c3, x.c4, x.c5]
def C6.enc (x : C6) : Value := .agg #[x.c0, x.c1, x.c2, x.c3, x.c4, x.c5]

/-- A chain's cells, in blocks below n₀: a thing's; the next link; how many there are. -/
def IsC6 (n₀ : Nat) (W : World) : Option Addr → List C6 → Prop
  | p, [] => p = none
  | p, x :: l => ∃ (b o : Nat) (q : Option Addr), p = some ⟨b, o, none⟩ ∧ b < n₀ ∧ (W.cell? ⟨b, o, none⟩ = some x.c0 ∧ W.cell? ⟨b, o + 1, none⟩ = some x.c1 ∧ W.cell? ⟨b, o + 2, none⟩ = some x.c2 ∧ W.cell? ⟨b, o + 3, none⟩ = some x.c3 ∧ W.cell? ⟨b, o + 4, none⟩ = some x.c4 ∧ W.cell? ⟨b, o + 5, none⟩ = some x.c5) ∧
      W.cell? ⟨b, o + 6, none⟩ = some (.pointer q) ∧ W.cell? ⟨b, o + 7, none⟩ = some (.int .i64 ((l.length + 1 : Nat) : Int)) ∧ l.length < 9223372036854775807 ∧ IsC6 n₀ W q l

theorem IsC6.below {n₀ : Nat} {A B : World} (h : Below n₀ A B) : ∀ {p : Option Addr} {xs : List C6}, IsC6 n₀ A p xs → IsC6 n₀ B p xs
  | _, [], hl => hl
  | _, _ :: _, ⟨b, o, q, hp, hb, ⟨h0, h1, h2, h3, h4, h5⟩, hq, hn, hlt, hr⟩ => ⟨b, o, q, hp, hb, ⟨(h.cell (p := ⟨b, o, none⟩) hb).trans h0, (h.cell (p := ⟨b, o + 1, none⟩) hb).trans h1, (h.cell (p := ⟨b, o + 2, none⟩) hb).trans h2, (h.cell (p := ⟨b, o + 3, none⟩) hb).trans h3, (h.cell (p := ⟨b, o + 4, none⟩) hb).trans h4, (h.cell (p := ⟨b, o + 5, none⟩) hb).trans h5⟩, (h.cell (p := ⟨b, o + 6, none⟩) hb).trans hq, (h.cell (p := ⟨b, o + 7, none⟩) hb).trans hn, hlt, IsC6.below h hr⟩

/-- How many are still to come. -/
def left6 (W : World) : Value → Nat
  | .pointer (some ad) => match W.cell? ⟨ad.block, ad.off + 7, none⟩ with
    | some (.int _ n) => n.toNat
    | _ => 0
  | _ => 0
theorem left6_eq {n₀ : Nat} {W : World} {q : Option Addr} : ∀ {xs : List C6}, IsC6 n₀ W q xs → left6 W (.pointer q) = xs.length
  | [], h => by
    obtain rfl : q = none := h
    rfl
  | _ :: _, ⟨b, o, q', hp, hb, _, _, hn, _⟩ => by
    subst hp
    simp only [left6, hn]
    rfl

set_option maxRecDepth 100000 in
set_option maxHeartbeats 1000000 in
theorem lenB_in (F : Fence) (n : Nat) (h : F.fn 132) (hro : F.round = none) (n₀ : Nat) (p : Option Addr) (l : List C6) (w : World) (hL : IsC6 n₀ w p l) :
    CallsIn F n Try.prog 132 #[.pointer p] w fun e w' => e = .returned (.int .i64 (l.length : Int)) ∧ w' = w := by
  refine callsIn_of_wp Try.func132 rfl h ?_ hro
  simp only [Try.ntmps132, List.size_toArray, List.length_cons, List.length_nil, Nat.reduceAdd, Nat.reduceSub, Array.replicate_succ, Array.replicate_zero, List.push_toArray, List.append_toArray, List.nil_append, List.cons_append]
  cases l with
  | nil =>
    obtain rfl : p = none := hL
    gi_wp2
    go_ret
    exact ⟨rfl, rfl⟩
  | cons c l =>
    obtain ⟨b, o, q, rfl, hb, hc, hq, hn, _, hr⟩ := hL
    gi_wp2
    go_ret
    exact ⟨rfl, rfl⟩

set_option maxRecDepth 100000 in
set_option maxHeartbeats 2000000 in
theorem backB1_in (F : Fence) (n : Nat) (hF : F.fn 182) (h132 : F.fn 132) (hro : F.round = none) (hn : 2 ≤ n) (l Bn n₀ : Nat) (p0 : Option Addr) (xs : List C6) (J Jx : List C6 → World → Prop)
    (hY : ∀ pre x W, J pre W → pre.length < xs.length → YieldAt F (n - 1) Try.prog l #[C6.enc x] W fun e W' =>
      (e = .returned (.bool true) ∧ J (pre ++ [x]) W' ∧ Below n₀ W W') ∨ (e = .returned (.bool false) ∧ Jx (pre ++ [x]) W'))
    (W : World) (hBn : W.cell? ⟨Bn, 0, none⟩ = some (.pointer p0)) (hL : IsC6 n₀ W p0 xs) (h0 : J [] W) :
    CallsIn F n Try.prog 182 #[.func (.yield l) #[] #[], .pointer (some ⟨Bn, 0, none⟩)] W fun e W' => (∃ v, e = .returned v) ∧
      ((∃ ys, ys = xs ∧ J ys W') ∨ (∃ pre, pre <+: xs ∧ Jx pre W')) := by
  have h1 : 1 ≤ n := by omega
  refine callsIn_of_wp Try.func182 rfl hF ?_ hro
  simp only [Try.ntmps182, List.size_toArray, List.length_cons, List.length_nil, Nat.reduceAdd, Nat.reduceSub, Array.replicate_succ, Array.replicate_zero, List.push_toArray, List.append_toArray, List.nil_append, List.cons_append]
  gi_wp2
  gi_loopw [3] (fun p wr => ∃ (pre rest : List C6) (q : Option Addr), p = .pointer q ∧ xs = pre ++ rest ∧ IsC6 n₀ wr q rest ∧ J pre wr)
    (fun p wr => left6 wr p)
  case atStart =>
    exact ⟨[], xs, p0, rfl, rfl, hL, h0⟩
  case round =>
    obtain ⟨pre, rest, q, rfl, hx, hl, hJs⟩ := hrel
    cases rest with
    | nil =>
      obtain rfl : q = none := hl
      gi_wp2_with (gi_at_call 132; refine (lenB_in F (n - 1) h132 hro n₀ none [] _ rfl).mono ?_; rintro e w' ⟨rfl, rfl⟩)
      go_end0
      exact ⟨⟨_, rfl⟩, .inl ⟨pre, by simp [hx], hJs⟩⟩
    | cons x rest =>
      have hl' := hl
      obtain ⟨b, o, q', rfl, hb, hc, hq, hlen, hlt, hr⟩ := hl
      obtain ⟨fn, tmps, assign, body, hy, hR⟩ := hY pre x wr hJs (by rw [hx]; simp)
      obtain ⟨hc0, hc1, hc2, hc3, hc4, hc5⟩ := hc
      dsimp only [C6.enc] at hy
      gi_wp2_with (gi_at_call 132; refine (lenB_in F (n - 1) h132 hro n₀ _ _ _ hl').mono ?_; rintro e w' ⟨rfl, rfl⟩)
      refine hR.mono ?_
      rintro e W3 (⟨rfl, hJ3, hk3⟩ | ⟨rfl, hJx3⟩)
      · have hq3 : W3.cell? ⟨b, o + 6, none⟩ = some (.pointer q') := (hk3.cell (p := ⟨b, o + 6, none⟩) hb).trans hq
        gi_wp2
        go_roundw
        case rel => exact ⟨pre ++ [x], rest, q', rfl, by simp [hx], hr.below hk3, hJ3⟩
        case measure => rw [left6_eq (hr.below hk3), left6_eq hl']; simp
      · gi_wp2
        refine bodyPost_ret (results_none rfl _ _ _) rfl ?_
        exact ⟨⟨_, rfl⟩, .inr ⟨pre ++ [x], ⟨rest, by simp [hx]⟩, hJx3⟩⟩
end Go.Proofs.Ytnhiplibodkciaa
