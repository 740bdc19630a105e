/- Chains of pairs, told by their cells: Len; what Back's function yields. -/
import Derived.Test.YtnhiplibodkciaaChA
namespace Go.Proofs.Ytnhiplibodkciaa
open Go.RowKit Go.Shelf Go

attribute [local go_sem] Oper.semAt_some

/-- A thing's cells. -/
structure C2 where
  c0 : Value
  c1 : Value
  ok : ∀ u ∈ [c0, c1], u.oneCell' = true
def C2.cells (x : C2) : List Value := [x.c0, x.c1]
def C2.enc (x : C2) : Value := .agg #[x.c0, x.c1]

/-- A chain's cells, in blocks below n₀: a thing's; the next link; how many there are. -/
def IsC2 (n₀ : Nat) (W : World) : Option Addr → List C2 → Prop
  | p, [] => p = none
  | p, x :: l => ∃ (b o : Nat) (q : Option Addr), p = some ⟨b, o, none⟩ ∧ b < n₀ ∧ (W.cell? ⟨b, o, none⟩ = some x.c0 ∧ W.cell? ⟨b, o + 1, none⟩ = some x.c1) ∧
      W.cell? ⟨b, o + 2, none⟩ = some (.pointer q) ∧ W.cell? ⟨b, o + 3, none⟩ = some (.int .i64 ((l.length + 1 : Nat) : Int)) ∧ l.length < 9223372036854775807 ∧ IsC2 n₀ W q l

theorem IsC2.below {n₀ : Nat} {A B : World} (h : Below n₀ A B) : ∀ {p : Option Addr} {xs : List C2}, IsC2 n₀ A p xs → IsC2 n₀ B p xs
  | _, [], hl => hl
  | _, _ :: _, ⟨b, o, q, hp, hb, ⟨h0, h1⟩, hq, hn, hlt, hr⟩ => ⟨b, o, q, hp, hb, ⟨(h.cell (p := ⟨b, o, none⟩) hb).trans h0, (h.cell (p := ⟨b, o + 1, none⟩) hb).trans h1⟩, (h.cell (p := ⟨b, o + 2, none⟩) hb).trans hq, (h.cell (p := ⟨b, o + 3, none⟩) hb).trans hn, hlt, IsC2.below h hr⟩

/-- How many are still to come. -/
def left2 (W : World) : Value → Nat
  | .pointer (some ad) => match W.cell? ⟨ad.block, ad.off + 3, none⟩ with
    | some (.int _ n) => n.toNat
    | _ => 0
  | _ => 0
theorem left2_eq {n₀ : Nat} {W : World} {q : Option Addr} : ∀ {xs : List C2}, IsC2 n₀ W q xs → left2 W (.pointer q) = xs.length
  | [], h => by
    obtain rfl : q = none := h
    rfl
  | _ :: _, ⟨b, o, q', hp, hb, _, _, hn, _⟩ => by
    subst hp
    simp only [left2, hn]
    rfl

set_option maxRecDepth 100000 in
set_option maxHeartbeats 1000000 in
theorem lenP_in (F : Fence) (n : Nat) (h : F.fn 108) (hro : F.round = none) (n₀ : Nat) (p : Option Addr) (l : List C2) (w : World) (hL : IsC2 n₀ w p l) :
    CallsIn F n Try.prog 108 #[.pointer p] w fun e w' => e = .returned (.int .i64 (l.length : Int)) ∧ w' = w := by
  refine callsIn_of_wp Try.func108 rfl h ?_ hro
  simp only [Try.ntmps108, List.size_toArray, List.length_cons, List.length_nil, Nat.reduceAdd, Nat.reduceSub, Array.replicate_succ, Array.replicate_zero, List.push_toArray, List.append_toArray, List.nil_append, List.cons_append]
  cases l with
  | nil =>
    obtain rfl : p = none := hL
    gi_wp2
    go_ret
    exact ⟨rfl, rfl⟩
  | cons c l =>
    obtain ⟨b, o, q, rfl, hb, hc, hq, hn, _, hr⟩ := hL
    gi_wp2
    go_ret
    exact ⟨rfl, rfl⟩

set_option maxRecDepth 100000 in
set_option maxHeartbeats 2000000 in
theorem backP1_in (F : Fence) (n : Nat) (hF : F.fn 183) (h108 : F.fn 108) (hro : F.round = none) (hn : 2 ≤ n) (l Bn n₀ : Nat) (p0 : Option Addr) (xs : List C2) (J Jx : List C2 → World → Prop)
    (hY : ∀ pre x W, J pre W → pre.length < xs.length → YieldAt F (n - 1) Try.prog l #[C2.enc x] W fun e W' =>
      (e = .returned (.bool true) ∧ J (pre ++ [x]) W' ∧ Below n₀ W W') ∨ (e = .returned (.bool false) ∧ Jx (pre ++ [x]) W'))
    (W : World) (hBn : W.cell? ⟨Bn, 0, none⟩ = some (.pointer p0)) (hL : IsC2 n₀ W p0 xs) (h0 : J [] W) :
    CallsIn F n Try.prog 183 #[.func (.yield l) #[] #[], .pointer (some ⟨Bn, 0, none⟩)] W fun e W' => (∃ v, e = .returned v) ∧
      ((∃ ys, ys = xs ∧ J ys W') ∨ (∃ pre, pre <+: xs ∧ Jx pre W')) := by
  have h1 : 1 ≤ n := by omega
  refine callsIn_of_wp Try.func183 rfl hF ?_ hro
  simp only [Try.ntmps183, List.size_toArray, List.length_cons, List.length_nil, Nat.reduceAdd, Nat.reduceSub, Array.replicate_succ, Array.replicate_zero, List.push_toArray, List.append_toArray, List.nil_append, List.cons_append]
  gi_wp2
  gi_loopw [3] (fun p wr => ∃ (pre rest : List C2) (q : Option Addr), p = .pointer q ∧ xs = pre ++ rest ∧ IsC2 n₀ wr q rest ∧ J pre wr)
    (fun p wr => left2 wr p)
  case atStart =>
    exact ⟨[], xs, p0, rfl, rfl, hL, h0⟩
  case round =>
    obtain ⟨pre, rest, q, rfl, hx, hl, hJs⟩ := hrel
    cases rest with
    | nil =>
      obtain rfl : q = none := hl
      gi_wp2_with (gi_at_call 108; refine (lenP_in F (n - 1) h108 hro n₀ none [] _ rfl).mono ?_; rintro e w' ⟨rfl, rfl⟩)
      go_end0
      exact ⟨⟨_, rfl⟩, .inl ⟨pre, by simp [hx], hJs⟩⟩
    | cons x rest =>
      have hl' := hl
      obtain ⟨b, o, q', rfl, hb, hc, hq, hlen, hlt, hr⟩ := hl
      obtain ⟨fn, tmps, assign, body, hy, hR⟩ := hY pre x wr hJs (by rw [hx]; simp)
      obtain ⟨hc0, hc1⟩ := hc
      dsimp only [C2.enc] at hy
      gi_wp2_with (gi_at_call 108; refine (lenP_in F (n - 1) h108 hro n₀ _ _ _ hl').mono ?_; rintro e w' ⟨rfl, rfl⟩)
      refine hR.mono ?_
      rintro e W3 (⟨rfl, hJ3, hk3⟩ | ⟨rfl, hJx3⟩)
      · have hq3 : W3.cell? ⟨b, o + 2, none⟩ = some (.pointer q') := (hk3.cell (p := ⟨b, o + 2, none⟩) hb).trans hq
        gi_wp2
        go_roundw
        case rel => exact ⟨pre ++ [x], rest, q', rfl, by simp [hx], hr.below hk3, hJ3⟩
        case measure => rw [left2_eq (hr.below hk3), left2_eq hl']; simp
      · gi_wp2
        refine bodyPost_ret (results_none rfl _ _ _) rfl ?_
        exact ⟨⟨_, rfl⟩, .inr ⟨pre ++ [x], ⟨rest, by simp [hx]⟩, hJx3⟩⟩
end Go.Proofs.Ytnhiplibodkciaa
