/- Chains of bound events, told by their cells: Len; what Back's function yields. Blocks of cells: stores. Chains of bound events: Back. List's contract, of a chain of bound events. Chains of pairs, told by their cells: Len; what Back's function yields. Blocks of cells: two stores at once. -/
import Derived.RangeFuncNested
import Derived.RangeFuncBound
import Derived.RangeFuncCalls
import Derived.RangeFuncLeaves
import Derived.Shelf.Abstract
import Derived.Shelf.RegionOpen
import Derived.WalkKit
import Derived.OwnWalkIn
import Derived.TacticsInMore
import Derived.LoopNIn
import Derived.LoopIn
import Derived.Test.YtkbdofnbagmlfaaGreatProg
import Derived.Laws.MakeOwn
import Derived.KernelRfl
import Derived.Test.YtkbdofnbagmlfaaGreatHd
namespace Go.Proofs.YtkbdofnbagmlfaaGreat
set_option maxRecDepth 100000
open Go.RowKit Go.Shelf Go
attribute [local go_sem] Oper.semAt_some
structure C6 where
 c0 : Value
 c1 : Value
 c2 : Value
 c3 : Value
 c4 : Value
 c5 : Value
 ok : ∀ u ∈ [c0, c1, c2, c3, c4, c5], u.oneCell' = true
def C6.cells (x : C6) : List Value := [x.c0, x.c1, x.c2, x.c3, x.c4, x.c5]
def C6.enc (x : C6) : Value := .agg #[x.c0, x.c1, x.c2, x.c3, x.c4, x.c5]
def Zey (n₀ : Nat) (W : World) : Option Addr -> List C6 -> Prop
 | p, [] => p = none
 | p, x :: l => ∃ (b o : Nat) (q : Option Addr), p = some ⟨b, o, none⟩ /\ b < n₀ /\ (W.cell? ⟨b, o, none⟩ = some x.c0 /\ W.cell? ⟨b, o + 1, none⟩ = some x.c1 /\ W.cell? ⟨b, o + 2, none⟩ = some x.c2 /\ W.cell? ⟨b, o + 3, none⟩ = some x.c3 /\ W.cell? ⟨b, o + 4, none⟩ = some x.c4 /\ W.cell? ⟨b, o + 5, none⟩ = some x.c5) /\
   W.cell? ⟨b, o + 6, none⟩ = some (.pointer q) /\ W.cell? ⟨b, o + 7, none⟩ = some (.int .i64 ((l.length + 1 : Nat) : Int)) /\ l.length < 9223372036854775807 /\ Zey n₀ W q l
theorem Zey.below {n₀ : Nat} {A B : World} (h : Below n₀ A B) : ∀ {p : Option Addr} {xs : List C6}, Zey n₀ A p xs -> Zey n₀ B p xs
 | _, [], hl => hl
 | _, _ :: _, ⟨b, o, q, hp, hb, ⟨h0, h1, h2, h3, h4, h5⟩, hq, hn, hlt, hr⟩ => ⟨b, o, q, hp, hb, ⟨(h.cell (p := ⟨b, o, none⟩) hb).trans h0, (h.cell (p := ⟨b, o + 1, none⟩) hb).trans h1, (h.cell (p := ⟨b, o + 2, none⟩) hb).trans h2, (h.cell (p := ⟨b, o + 3, none⟩) hb).trans h3, (h.cell (p := ⟨b, o + 4, none⟩) hb).trans h4, (h.cell (p := ⟨b, o + 5, none⟩) hb).trans h5⟩, (h.cell (p := ⟨b, o + 6, none⟩) hb).trans hq, (h.cell (p := ⟨b, o + 7, none⟩) hb).trans hn, hlt, Zey.below h hr⟩
def left6 (W : World) : Value -> Nat
 | .pointer (some ad) => match W.cell? ⟨ad.block, ad.off + 7, none⟩ with
  | some (.int _ n) => n.toNat
  | _ => 0
 | _ => 0
theorem Zob {n₀ : Nat} {W : World} {q : Option Addr} : ∀ {xs : List C6}, Zey n₀ W q xs -> left6 W (.pointer q) = xs.length
 | [], h => by
  obtain rfl : q = none := h
  rfl
 | _ :: _, ⟨b, o, q', hp, hb, _, _, hn, _⟩ => by
  subst hp
  simp only [left6, hn]
  rfl
set_option maxHeartbeats 1000000 in
theorem ZlP (F : Fence) (n : Nat) (h : F.fn 126) (hro : F.round = none) (n₀ : Nat) (p : Option Addr) (l : List C6) (w : World) (hL : Zey n₀ w p l) :
  CallsIn F n Tryz.prog 126 #[.pointer p] w fun e w' => e = .returned (.int .i64 (l.length : Int)) /\ w' = w := by
 refine callsIn_of_wp Tryz.func126 rfl h ?_ hro
 simp only [Tryz.ntmps126, List.size_toArray, List.length_cons, List.length_nil, Nat.reduceAdd, Nat.reduceSub, Array.replicate_succ, Array.replicate_zero, List.push_toArray, List.append_toArray, List.nil_append, List.cons_append]
 cases l with
 | nil =>
  obtain rfl : p = none := hL
  gi_wp2
  go_ret
  exact ⟨rfl, rfl⟩
 | cons c l =>
  obtain ⟨b, o, q, rfl, hb, hc, hq, hn, _, hr⟩ := hL
  gi_wp2
  go_ret
  exact ⟨rfl, rfl⟩
set_option maxHeartbeats 2000000 in
theorem Zun (F : Fence) (n : Nat) (hF : F.fn 142) (h132 : F.fn 126) (hro : F.round = none) (hn : 2 <= n) (l Bn n₀ : Nat) (p0 : Option Addr) (xs : List C6) (J Jx : List C6 -> World -> Prop)
  (hY : ∀ pre x W, J pre W -> pre.length < xs.length -> YieldAt F (n - 1) Tryz.prog l #[C6.enc x] W fun e W' =>
   (e = .returned (.bool true) /\ J (pre ++ [x]) W' /\ Below n₀ W W') \/ (e = .returned (.bool false) /\ Jx (pre ++ [x]) W'))
  (W : World) (hBn : W.cell? ⟨Bn, 0, none⟩ = some (.pointer p0)) (hL : Zey n₀ W p0 xs) (h0 : J [] W) :
  CallsIn F n Tryz.prog 142 #[.func (.yield l) #[] #[], .pointer (some ⟨Bn, 0, none⟩)] W fun e W' => (∃ v, e = .returned v) /\
   ((∃ ys, ys = xs /\ J ys W') \/ (∃ pre, pre <+: xs /\ Jx pre W')) := by
 have h1 : 1 <= n := by omega
 refine callsIn_of_wp Tryz.func142 rfl hF ?_ hro
 simp only [Tryz.ntmps142, List.size_toArray, List.length_cons, List.length_nil, Nat.reduceAdd, Nat.reduceSub, Array.replicate_succ, Array.replicate_zero, List.push_toArray, List.append_toArray, List.nil_append, List.cons_append]
 gi_wp2
 gi_loopw [3] (fun p wr => ∃ (pre rest : List C6) (q : Option Addr), p = .pointer q /\ xs = pre ++ rest /\ Zey n₀ wr q rest /\ J pre wr)
  (fun p wr => left6 wr p)
 case atStart =>
  exact ⟨[], xs, p0, rfl, rfl, hL, h0⟩
 case round =>
  obtain ⟨pre, rest, q, rfl, hx, hl, hJs⟩ := hrel
  cases rest with
  | nil =>
   obtain rfl : q = none := hl
   gi_wp2_with (gi_at_call 126; refine (ZlP F (n - 1) h132 hro n₀ none [] _ rfl).mono ?_; rintro e w' ⟨rfl, rfl⟩)
   go_end0
   exact ⟨⟨_, rfl⟩, .inl ⟨pre, by simp [hx], hJs⟩⟩
  | cons x rest =>
   have hl' := hl
   obtain ⟨b, o, q', rfl, hb, hc, hq, hlen, hlt, hr⟩ := hl
   obtain ⟨fn, tmps, assign, body, hy, hR⟩ := hY pre x wr hJs (by rw [hx]; simp)
   obtain ⟨hc0, hc1, hc2, hc3, hc4, hc5⟩ := hc
   dsimp only [C6.enc] at hy
   gi_wp2_with (gi_at_call 126; refine (ZlP F (n - 1) h132 hro n₀ _ _ _ hl').mono ?_; rintro e w' ⟨rfl, rfl⟩)
   refine hR.mono ?_
   rintro e W3 (⟨rfl, hJ3, hk3⟩ | ⟨rfl, hJx3⟩)
   ·have hq3 : W3.cell? ⟨b, o + 6, none⟩ = some (.pointer q') := (hk3.cell (p := ⟨b, o + 6, none⟩) hb).trans hq
    gi_wp2
    go_roundw
    case rel => exact ⟨pre ++ [x], rest, q', rfl, by simp [hx], hr.below hk3, hJ3⟩
    case measure => rw [Zob (hr.below hk3), Zob hl']; simp
   ·gi_wp2
    refine bodyPost_ret (results_none rfl _ _ _) rfl ?_
    exact ⟨⟨_, rfl⟩, .inr ⟨pre ++ [x], ⟨rest, by simp [hx]⟩, hJx3⟩⟩
end Go.Proofs.YtkbdofnbagmlfaaGreat

namespace Go.Proofs.YtkbdofnbagmlfaaGreat
open Go.RowKit Go.Shelf Go
variable {P : Program}
def Blk (W : World) (B : Nat) (t : TypeId) (cur : Array Value) : Prop := W.heap[B]? = some (.cells cur t (0, 0))
theorem Blk.lt {W : World} {B : Nat} {t : TypeId} {cur : Array Value} (h : Blk W B t cur) : B < W.heap.size := (Array.getElem?_eq_some_iff.1 h).1
theorem Blk.kept {W W' : World} {row : Option Nat} {B : Nat} {t : TypeId} {cur : Array Value} (h : Blk W B t cur) (hg : W.grownBy W' row) (hne : some B ≠ row) : Blk W' B t cur := (hg.block B h.lt hne).trans h
theorem Blk.alloc {W : World} {B : Nat} {t : TypeId} {cur : Array Value} (h : Blk W B t cur) (o : Obj) : Blk (W.alloc o) B t cur := h.kept (World.grownBy_alloc W o none) (by simp)
theorem Blk.new (W : World) (t : TypeId) (cur : Array Value) : Blk (W.alloc (.cells cur t)) W.heap.size t cur := World.alloc_heap_new W _
theorem Blk.cell {W : World} {B : Nat} {t : TypeId} {cur : Array Value} (h : Blk W B t cur) (j : Nat) : W.cell? ⟨B, j, none⟩ = cur[j]? := by simp [World.cell?, show W.heap[B]? = _ from h]
theorem Blk.frozen {W : World} {B : Nat} {t : TypeId} {cur : Array Value} (h : Blk W B t cur) (j : Nat) : W.frozen? ⟨B, j, none⟩ = false := by simp [World.frozen?, show W.heap[B]? = _ from h]
theorem Blk.own {β : Type} (B : Nat) (t : TypeId) (p : β -> Array Value -> Prop) : Own (fun s W => ∃ cur, Blk W B t cur /\ p s cur) := fun s X Y row ⟨cur, hs, hp⟩ hg hrow =>
 ⟨cur, hs.kept hg (fun e => by
  obtain ⟨o, ho, hc⟩ := hrow B e.symm
  rw [show X.heap[B]? = _ from hs] at ho
  cases ho
  cases hc), hp⟩
theorem Blk.set {W : World} {B : Nat} {t : TypeId} {cur : Array Value} (h : Blk W B t cur) (o : Nat) (v : Value) : Blk (W.setCell ⟨B, o, none⟩ v) B t (cur.setIfInBounds o v) := by
 obtain ⟨hlt, hk⟩ := Array.getElem?_eq_some_iff.1 h
 show (W.heap.modify B _)[B]? = _
 rw [Array.getElem?_eq_getElem (by rw [Array.size_modify]; exact hlt), Array.getElem_modify_self, hk]
 rfl
theorem ZaI (W : World) (b o : Nat) (v : Value) : W.grownBy (W.setCell ⟨b, o, none⟩ v) (some b) :=
 ⟨rfl, rfl, rfl, (KeepsWalks.setCell W _ v).size, fun k _ hk => Below.heap_setCell _ _ _ k (fun e => hk (by rw [e]))⟩
theorem Blk.store {W : World} {B : Nat} {t : TypeId} {cur : Array Value} (h : Blk W B t cur) {o : Nat} (ho : o < cur.size) {v : Value} (hv : v.oneCell' = true) : (store ⟨B, o, none⟩ v).run P W = .ok () (W.setCell ⟨B, o, none⟩ v) := by
 rw [run_store P W _ v _ hv]
 have h1 := h.cell o
 rw [Array.getElem?_eq_getElem ho] at h1
 have h2 := h.frozen o
 simp only [stored, h1, h2]
 rfl
theorem ZcE {A B C : World} {row : Option Nat} (h : A.grownBy B row) (k : B.grownBy C row) : A.grownBy C row :=
 ⟨k.os.trans h.os, k.tape.trans h.tape, k.output.trans h.output, Nat.le_trans h.size k.size, fun i hi hr => (k.block i (Nat.lt_of_lt_of_le hi h.size) hr).trans (h.block i hi hr)⟩
def set6 (cur : Array Value) (o : Nat) (c0 c1 c2 c3 c4 c5 : Value) : Array Value := (((((cur.setIfInBounds o c0).setIfInBounds (o + 1) c1).setIfInBounds (o + 2) c2).setIfInBounds (o + 3) c3).setIfInBounds (o + 4) c4).setIfInBounds (o + 5) c5
theorem Zt4 (cur : Array Value) (o : Nat) (c0 c1 c2 c3 c4 c5 : Value) : (set6 cur o c0 c1 c2 c3 c4 c5).size = cur.size := by simp [set6]
theorem set6_get (cur : Array Value) (o : Nat) (c0 c1 c2 c3 c4 c5 : Value) (h : o + 5 < cur.size) (j : Nat) : (set6 cur o c0 c1 c2 c3 c4 c5)[j]? = if j < o then cur[j]? else if j < o + 6 then [c0, c1, c2, c3, c4, c5][j - o]? else cur[j]? := by
 unfold set6
 simp only [Array.getElem?_setIfInBounds, Array.size_setIfInBounds]
 by_cases h1 : j < o
 ·rw [if_pos h1, if_neg (by omega), if_neg (by omega), if_neg (by omega), if_neg (by omega), if_neg (by omega), if_neg (by omega)]
 rw [if_neg h1]
 by_cases h2 : j < o + 6
 ·rw [if_pos h2]
  obtain ⟨d, rfl⟩ : ∃ d, j = o + d := ⟨j - o, by omega⟩
  have hd : d = 0 \/ d = 1 \/ d = 2 \/ d = 3 \/ d = 4 \/ d = 5 := by omega
  have e : o + d - o = d := by omega
  rw [e]
  rcases hd with rfl | rfl | rfl | rfl | rfl | rfl <;> simp <;> omega
 ·rw [if_neg h2, if_neg (by omega), if_neg (by omega), if_neg (by omega), if_neg (by omega), if_neg (by omega), if_neg (by omega)]
theorem Blk.store6 {W : World} {B : Nat} {t : TypeId} {cur : Array Value} (h : Blk W B t cur) {o : Nat} (ho : o + 5 < cur.size) {c0 c1 c2 c3 c4 c5 : Value} (ok : ∀ u ∈ [c0, c1, c2, c3, c4, c5], u.oneCell' = true) :
  ∃ W', ((Go.store ⟨B, o, none⟩ c0).run P W).andThen (fun _ w' => ((Go.store ⟨B, o + 1, none⟩ c1).run P w').andThen fun _ w' => ((Go.store ⟨B, o + 2, none⟩ c2).run P w').andThen fun _ w' => ((Go.store ⟨B, o + 3, none⟩ c3).run P w').andThen fun _ w' => ((Go.store ⟨B, o + 4, none⟩ c4).run P w').andThen fun _ w' => (Go.store ⟨B, o + 5, none⟩ c5).run P w') = Result.ok () W' /\
   Blk W' B t (set6 cur o c0 c1 c2 c3 c4 c5) /\ W.grownBy W' (some B) /\ KeepsOthers W W' /\ (∀ n₀, n₀ <= B -> Below n₀ W W') := by
 have s1 := h.set o c0
 have s2 := s1.set (o + 1) c1
 have s3 := s2.set (o + 2) c2
 have s4 := s3.set (o + 3) c3
 have s5 := s4.set (o + 4) c4
 have s6 := s5.set (o + 5) c5
 refine ⟨_, ?_, s6, ?_, ?_, ?_⟩
 ·rw [h.store (by omega) (ok _ (by simp))]
  simp only [Result.andThen_ok]
  rw [s1.store (by simp; omega) (ok _ (by simp))]
  simp only [Result.andThen_ok]
  rw [s2.store (by simp; omega) (ok _ (by simp))]
  simp only [Result.andThen_ok]
  rw [s3.store (by simp; omega) (ok _ (by simp))]
  simp only [Result.andThen_ok]
  rw [s4.store (by simp; omega) (ok _ (by simp))]
  simp only [Result.andThen_ok]
  rw [s5.store (by simp; omega) (ok _ (by simp))]
 ·exact ZcE (ZcE (ZcE (ZcE (ZcE (ZaI _ _ _ _) (ZaI _ _ _ _)) (ZaI _ _ _ _)) (ZaI _ _ _ _)) (ZaI _ _ _ _)) (ZaI _ _ _ _)
 ·exact (((((KeepsOthers.setCell _ _ _).trans (KeepsOthers.setCell _ _ _)).trans (KeepsOthers.setCell _ _ _)).trans (KeepsOthers.setCell _ _ _)).trans (KeepsOthers.setCell _ _ _)).trans (KeepsOthers.setCell _ _ _)
 ·intro n₀ hn
  exact ((((((Below.refl n₀ W).setCell (p := ⟨B, o, none⟩) hn _).setCell (p := ⟨B, o + 1, none⟩) hn _).setCell (p := ⟨B, o + 2, none⟩) hn _).setCell (p := ⟨B, o + 3, none⟩) hn _).setCell (p := ⟨B, o + 4, none⟩) hn _).setCell (p := ⟨B, o + 5, none⟩) hn _
end Go.Proofs.YtkbdofnbagmlfaaGreat

namespace Go.Proofs.YtkbdofnbagmlfaaGreat
set_option maxRecDepth 100000
open Go.RowKit Go.Shelf Go
attribute [local go_sem] Oper.semAt_some
set_option maxHeartbeats 1000000 in
theorem backB_in (F : Fence) (n : Nat) (h : F.fn 134) (hro : F.round = none) (p0 : Option Addr) (w : World) :
  CallsIn F n Tryz.prog 134 #[.pointer p0] w fun e w' => e = .returned (.func (.func 142) #[] #[.pointer (some ⟨w.heap.size, 0, none⟩)]) /\ w' = w.alloc (.cells #[.pointer p0] 93) := by
 refine callsIn_of_wp Tryz.func134 rfl h ?_ hro
 simp only [Tryz.ntmps134, List.size_toArray, List.length_cons, List.length_nil, Nat.reduceAdd, Nat.reduceSub, Array.replicate_succ, Array.replicate_zero, List.push_toArray, List.append_toArray, List.nil_append, List.cons_append]
 gi_wp2
 go_ret
 exact ⟨rfl, rfl⟩
theorem Zrg (F : Fence) (n : Nat) (hF : F.fn 142) (h132 : F.fn 126) (hro : F.round = none) (hn : 2 <= n) (Bn n₀ : Nat) (p0 : Option Addr) (xs : List C6) (w : World) (hBn : Bn < w.heap.size) (hn₀ : n₀ <= w.heap.size)
  (hc : w.cell? ⟨Bn, 0, none⟩ = some (.pointer p0)) (hL : Zey n₀ w p0 xs) :
  SeqStopsK F n Tryz.prog 142 #[.pointer (some ⟨Bn, 0, none⟩)] (fun x : C6 => #[C6.enc x]) (Below n₀) (fun ys => ys = xs) (fun pre => pre <+: xs) xs.length w := fun l J Jx W hW _ _ hY h0 =>
 Zun F n hF h132 hro hn l Bn n₀ p0 xs J Jx hY W ((hW.cell (p := ⟨Bn, 0, none⟩) hBn).trans hc) (hL.below (hW.mono hn₀)) h0
abbrev zB : Value := .agg #[.string ByteArray.empty, .string ByteArray.empty, .string ByteArray.empty, .int .i64 0, .int .i64 0, .slice none 0 0]
theorem infoB : ∃ i, Tryz.prog.info? 80 = some i /\ i.zero = some zB /\ i.size = 6 /\ i.bytes = 88 := by
 have h : (Tryz.prog.info? 80).map (fun i => (i.zero, i.size, i.bytes)) = some (some zB, 6, 88) := by kernel_rfl
 cases hi : Tryz.prog.info? 80 with
 | none => rw [hi] at h; cases h
 | some i =>
  rw [hi] at h
  simp only [Option.map_some, Option.some.injEq, Prod.mk.injEq] at h
  exact ⟨i, rfl, h.1, h.2.1, h.2.2⟩
theorem makeB (w : World) (n : Nat) (hb : n * 88 <= 140737488355328) : (Instr.makeSlice 78 (.int .i64 (n : Int)) (.int .i64 (n : Int))).run Tryz.prog w = .ok (.slice (some ⟨w.heap.size, 0, none⟩) n n) (w.alloc (.cells (madeCells zB.cells (n * 6)) 80)) := by
 obtain ⟨i, h1, h2, h3, h4⟩ := infoB
 have h := run_make (P := Tryz.prog) w 78 80 i zB Tryz.underlying78 h1 h2 .i64 .i64 (n : Int) (n : Int) (by omega) (Int.le_refl _) (by rw [h4]; omega) (by omega)
 rw [h, h3]
 rfl
@[reducible] def listTmps (A N : Nat) (p0 : Option Addr) (Bx : Nat) (x : C6) : Array Value := #[.pointer p0, undef, .slice none 0 0, .pointer (some ⟨A + 1, 0, none⟩), .pointer (some ⟨A + 1 + 1, 0, none⟩), .pointer (some ⟨Bx, 0, none⟩), .pointer p0, .int .i64 N, .slice (some ⟨A, 0, none⟩) N N, .slice (some ⟨A, 0, none⟩) N N, .int .i64 N, .pointer p0, .func (.func 142) #[] #[.pointer (some ⟨A + 1 + 1 + 1, 0, none⟩)], .agg #[x.c0, x.c1, x.c2, x.c3, x.c4, x.c5], undef, undef, undef, undef, undef, undef, undef]
set_option maxHeartbeats 2000000 in
theorem listB_in (F : Fence) (n : Nat) (h135 : F.fn 115) (h171 : F.fn 134) (hF : F.fn 142) (h132 : F.fn 126) (hro : F.round = none) (hn : 4 <= n) (p0 : Option Addr) (xs : List C6) (w : World) (hL : Zey w.heap.size w p0 xs) (hb : xs.length * 88 <= 140737488355328) :
  CallsIn F n Tryz.prog 115 #[.pointer p0] w fun e W' => e = .returned (.slice (some ⟨w.heap.size, 0, none⟩) xs.length xs.length) /\ Below w.heap.size w W' /\ ∃ cur, Blk W' w.heap.size 80 cur /\ (cur.size = xs.length * 6 /\ ∀ k x, xs[k]? = some x -> ∀ j u, x.cells[j]? = some u -> cur[(xs.length - 1 - k) * 6 + j]? = some u) := by
 have h1 : 1 <= n := by omega
 have hmk := makeB w xs.length hb
 refine callsIn_of_wp_marks Tryz.func115 rfl h135 ?_ hro
 simp only [Tryz.ntmps115, List.size_toArray, List.length_cons, List.length_nil, Nat.reduceAdd, Nat.reduceSub, Array.replicate_succ, Array.replicate_zero, List.push_toArray, List.append_toArray, List.nil_append, List.cons_append]
 gi_wp2_with (first | (gi_at_call 126; refine (ZlP F (n - 1) h132 hro w.heap.size _ _ _ hL).mono ?_; rintro e w' ⟨rfl, hw⟩; obtain rfl : w = w' := hw.symm) | (gi_at_call 134; refine (backB_in F (n - 1) h171 hro _ _).mono ?_; rintro e w' ⟨rfl, rfl⟩))
 obtain ⟨W0, hW0⟩ : ∃ W0, ((((w.alloc (Obj.cells (madeCells zB.cells (xs.length * 6)) 80)).alloc (Obj.cells #[Value.slice (some { block := w.heap.size, off := 0 }) xs.length xs.length] 78)).alloc (Obj.cells #[Value.int IntKind.i64 ↑xs.length] 3)).alloc (Obj.cells #[Value.pointer p0] 93)) = W0 := ⟨_, rfl⟩
 have hsz : W0.heap.size = w.heap.size + 4 := by rw [<- hW0]; simp
 have b0 : Blk W0 w.heap.size 80 (madeCells zB.cells (xs.length * 6)) := by rw [<- hW0]; exact (((Blk.new w 80 _).alloc _).alloc _).alloc _
 have b1 : Boxed W0 (w.heap.size + 1) 78 (.slice (some ⟨w.heap.size, 0, none⟩) xs.length xs.length) := by rw [<- hW0]; exact ((by have := Boxed.new (w.alloc (Obj.cells (madeCells zB.cells (xs.length * 6)) 80)) 78 (.slice (some ⟨w.heap.size, 0, none⟩) xs.length xs.length); rwa [World.size_alloc] at this : Boxed _ _ _ _).alloc _).alloc _
 have b2 : Boxed W0 (w.heap.size + 2) 3 (.int .i64 xs.length) := by
  rw [<- hW0]
  exact (by have := Boxed.new ((w.alloc (Obj.cells (madeCells zB.cells (xs.length * 6)) 80)).alloc (Obj.cells #[Value.slice (some { block := w.heap.size, off := 0 }) xs.length xs.length] 78)) 3 (.int .i64 xs.length); rwa [World.size_alloc, World.size_alloc] at this : Boxed _ _ _ _).alloc _
 have b3 : Boxed W0 (w.heap.size + 3) 93 (.pointer p0) := by
  rw [<- hW0]
  have := Boxed.new (((w.alloc (Obj.cells (madeCells zB.cells (xs.length * 6)) 80)).alloc (Obj.cells #[Value.slice (some { block := w.heap.size, off := 0 }) xs.length xs.length] 78)).alloc (Obj.cells #[Value.int IntKind.i64 ↑xs.length] 3)) 93 (.pointer p0)
  rwa [World.size_alloc, World.size_alloc, World.size_alloc] at this
 have hB0 : Below w.heap.size w W0 := by rw [<- hW0]; exact ((((Below.refl _ w).alloc (Nat.le_refl _) _).alloc (by simp) _).alloc (by simp; omega) _).alloc (by simp; omega) _
 show Code.wpIn F n Tryz.prog _ _ _ (((((w.alloc (Obj.cells (madeCells zB.cells (xs.length * 6)) 80)).alloc (Obj.cells #[Value.slice (some { block := w.heap.size, off := 0 }) xs.length xs.length] 78)).alloc (Obj.cells #[Value.int IntKind.i64 ↑xs.length] 3)).alloc (Obj.cells #[Value.pointer p0] 93)))
 rw [hW0]
 refine wpIn_rangeFunc_ownH hro h1 (gf := 142) (lb := #[.pointer (some ⟨w.heap.size + 3, 0, none⟩)]) rfl hF (enters_of Tryz.func142 (by kernel_rfl) rfl)
  (Zrg F (n - 1) hF h132 hro (by omega) (w.heap.size + 3) w.heap.size p0 xs W0 (by omega) (by omega) b3.cell (hL.below hB0)) belowK_t (belowK_b (by omega)) (Below.refl _ _) (fun _ => rfl)
  (fun pre W => ((Boxed W (w.heap.size + 1) 78 (.slice (some ⟨w.heap.size, 0, none⟩) xs.length xs.length) /\ Boxed W (w.heap.size + 2) 3 (.int .i64 ((xs.length : Int) - pre.length))) /\ (∃ cur, Blk W w.heap.size 80 cur /\ (cur.size = xs.length * 6 /\ ∀ k x, pre[k]? = some x -> ∀ j u, x.cells[j]? = some u -> cur[(xs.length - 1 - k) * 6 + j]? = some u))) /\ Below w.heap.size w W)
  (fun _ _ _ => False)
  (OwnFrom.and (OwnFrom.and (OwnFrom.and (Own.from (boxed_own _ _ _) _) (Own.from (boxed_own _ _ _) _)) (Own.from (Blk.own _ _ _) _)) (ownFrom_below (Nat.le_refl _) (by omega)))
  (fun _ _ _ _ _ hs _ _ => hs)
  ⟨⟨⟨b1, by simpa using b2⟩, _, b0, by simp [size_madeCells], fun k x h => by simp at h⟩, hB0⟩
  (fun x a' W => ∃ Bx, w.heap.size + 2 < Bx /\ Blk W Bx 80 x.cells.toArray /\ a' = (⟨listTmps w.heap.size xs.length p0 Bx x, []⟩ : Act))
  ?hAx ?assign ?body ?done ?stop
 case hAx =>
  intro x a'
  rintro u X Y row ⟨Bx, h1, h2, h3⟩ hg hrow
  refine ⟨Bx, h1, h2.kept hg (fun e => ?_), h3⟩
  obtain ⟨_, o, ho, hc⟩ := hrow Bx e.symm
  rw [show X.heap[Bx]? = _ from h2] at ho
  cases ho
  cases hc
 case assign =>
  rintro l pre ⟨c0, c1, c2, c3, c4, c5, ok⟩ W K ⟨⟨⟨i1, i2⟩, cur, i3, i4, i5⟩, i6⟩ hK
  obtain ⟨W', hs, hs1, hs2, hs3, hs4⟩ := (Blk.new W 80 #[.string ⟨#[]⟩, .string ⟨#[]⟩, .string ⟨#[]⟩, .int .i64 0, .int .i64 0, .slice none 0 0]).store6 (P := Tryz.prog) (o := 0) (by simp) ok
  simp only [Nat.zero_add] at hs
  dsimp only [C6.enc]
  gi_wp2
  have l1 := i1.lt
  have l2 := i2.lt
  have l3 := i3.lt
  have hbel := ((Below.refl w.heap.size W).alloc i6.size _).trans (hs4 _ i6.size)
  exact hK _ _ (((KeepsOthers.alloc _ _).trans hs3).from _) hbel
   ⟨⟨⟨(i1.alloc _).kept hs2 (by simp; omega), (i2.alloc _).kept hs2 (by simp; omega)⟩, cur, (i3.alloc _).kept hs2 (by simp; omega), i4, i5⟩, i6.trans hbel⟩
   ⟨W.heap.size, l2, hs1, rfl⟩
 case body =>
  rintro l pre ⟨c0, c1, c2, c3, c4, c5, ok⟩ a' W hl ⟨r, hr⟩ ⟨⟨⟨i1, i2⟩, cur, i3, i4, i5⟩, i6⟩ ⟨Bx, hBx, bX, rfl⟩ hlt
  have x0 := bX.cell 0
  have x1 := bX.cell 1
  have x2 := bX.cell 2
  have x3 := bX.cell 3
  have x4 := bX.cell 4
  have x5 := bX.cell 5
  have e1 := i1.cell
  have e2 := i2.cell
  have f2 := i2.frozen
  dsimp only [C6.cells] at x0 x1 x2 x3 x4 x5
  simp only [List.getElem?_toArray, List.getElem?_cons_zero, List.getElem?_cons_succ] at x0 x1 x2 x3 x4 x5
  have hpre : pre.length < xs.length := hlt
  have hblk : Blk (W.setCell ⟨w.heap.size + 1 + 1, 0, none⟩ (.int .i64 ((xs.length : Int) - pre.length - 1))) w.heap.size 80 cur := i3.kept (ZaI _ _ _ _) (by simp; omega)
  obtain ⟨W', hs, hs1, hs2, hs3, hs4⟩ := hblk.store6 (P := Tryz.prog) (o := (xs.length - pre.length - 1) * 6) (by rw [i4]; omega) ok
  gi_wp2
  have hbel := ((Below.refl w.heap.size W).setCell (p := ⟨w.heap.size + 1 + 1, 0, none⟩) (by simp; omega) (.int .i64 ((xs.length : Int) - pre.length - 1))).trans (hs4 _ (Nat.le_refl _))
  refine ⟨((KeepsOthers.setCell _ _ _).trans hs3).from _, hbel, ⟨⟨(i1.other (by omega) _).kept hs2 (by simp), ?_⟩, _, hs1, by rw [Zt4]; exact i4, ?_⟩, i6.trans hbel⟩
  ·have e : ((xs.length : Int) - ((pre ++ [(⟨c0, c1, c2, c3, c4, c5, ok⟩ : C6)]).length : Nat)) = (xs.length : Int) - pre.length - 1 := by rw [List.length_append, List.length_singleton]; omega
   rw [e]
   exact (i2.set _).kept hs2 (by simp)
  ·intro k x hk j u hu
   have hj : j < 6 := (List.getElem?_eq_some_iff.1 hu).1
   rw [set6_get _ _ _ _ _ _ _ _ (by rw [i4]; omega)]
   rcases Nat.lt_trichotomy k pre.length with h | h | h
   ·rw [List.getElem?_append_left h] at hk
    rw [if_neg (by omega), if_neg (by omega)]
    exact i5 k x hk j u hu
   ·subst h
    rw [List.getElem?_append_right (Nat.le_refl _), Nat.sub_self] at hk
    obtain rfl : _ = x := by simpa using hk
    rw [if_neg (by omega), if_pos (by omega)]
    have e : (xs.length - 1 - pre.length) * 6 + j - (xs.length - pre.length - 1) * 6 = j := by omega
    rw [e]
    exact hu
   ·rw [List.getElem?_append_right (by omega)] at hk
    have := (List.getElem?_eq_some_iff.1 hk).1
    simp at this
    omega
 case done =>
  rintro D ys W hD rfl ⟨⟨⟨i1, i2⟩, cur, i3, i4, i5⟩, i6⟩ hK
  have e1 := i1.cell
  gi_wp2
  refine ⟨by simp, .inl ⟨_, _, rfl, run_takeDeferred hK, ?_⟩⟩
  exact ⟨_, results_tmp rfl _ _ _, rfl, i6.trans (belowK_b (w := w) (Nat.le_refl _) W D _ _ (by omega) hK rfl rfl), cur, i3.kept (grownBy_putObj' W D _) (by simp; omega), i4, i5⟩
 case stop =>
  rintro D c pre W _ _ h _
  exact h.elim
end Go.Proofs.YtkbdofnbagmlfaaGreat

namespace Go.Proofs.YtkbdofnbagmlfaaGreat
open Go.RowKit Go.PI Go
theorem six_of {cs : List Value} (h : cs.length = 6) (ok : ∀ u ∈ cs, u.oneCell' = true) : ∃ c : C6, c.cells = cs := by
 match cs, h with
 | [a, b, c, d, e, f], _ => exact ⟨⟨a, b, c, d, e, f, ok⟩, rfl⟩
theorem ZoR {I : Nat -> Prop} {w : World} {n₀ : Nat} (hI : ∀ b, I b -> b < n₀) : ∀ (l : List Zcm.T) (v : Value), ZdV I w (K I w Zcm) Zcm.sz l v ->
  ∃ (p : Option Addr) (xs : List C6), v = .pointer p /\ Zey n₀ w p xs /\ xs.length = l.length /\ ∀ (k : Nat) (x : Zcm.T), l[k]? = some x -> ∃ c : C6, xs[k]? = some c /\ K I w Zcm x c.cells
 | [], v, h => ⟨none, [], h, rfl, rfl, fun k x h => by simp at h⟩
 | x :: l, v, h => by
  obtain ⟨ad, cx, r, rfl, hi, hz, hk, hc, hlt, hr⟩ := h
  obtain ⟨p, xs, rfl, h1, h2, h3⟩ := ZoR hI l r hr
  obtain ⟨c, rfl⟩ := six_of hz hk.one
  obtain ⟨b, o, sp⟩ := ad
  obtain rfl : sp = none := hc.1
  have hcell := hc.2
  refine ⟨_, c :: xs, rfl, ⟨b, o, p, rfl, hI b hi, ⟨hcell 0 _ rfl, hcell 1 _ rfl, hcell 2 _ rfl, hcell 3 _ rfl, hcell 4 _ rfl, hcell 5 _ rfl⟩, hcell 6 _ rfl, ?_, by omega, h1⟩, by simp [h2], ?_⟩
  ·rw [h2]
   exact hcell 7 _ rfl
  ·intro k y hk2
   cases k with
   | zero =>
    obtain rfl : x = y := by simpa using hk2
    exact ⟨c, rfl, hk⟩
   | succ k => exact h3 k y hk2
abbrev ZmI : List (Bool × Pat) := [(false, .ty false (.chain Zcm))]
abbrev Zj2 : List Pat := [.row 80 Zcm]
noncomputable def listB : List Zcm.T × Unit -> Option (List Zcm.T × Unit) := fun x => bif decide (x.1.length * 88 <= 140737488355328) then some (x.1.reverse, ()) else none
theorem listB_oc : OC Tryz.prog 115 ZmI Zj2 listB := by
 refine ⟨⟨_, Tryz.func115, by kernel_rfl, by kernel_rfl⟩, ?_⟩
 rintro w J hJ hlt ⟨l, ⟨⟩⟩ vs B hx hnd hB y hy
 obtain ⟨v, k, B1, B2, rfl, rfl, ⟨rfl, hv⟩, rfl, rfl⟩ := hx
 unfold listB at hy
 by_cases hb : l.length * 88 <= 140737488355328
 ·simp only [hb, decide_true, cond_true, Option.some.injEq] at hy
  subst hy
  have hI : ∀ b, J false b -> b < w.heap.size := fun b h => hlt b (hJ b h)
  obtain ⟨v', e, hch⟩ : K (J false) w (.chain Zcm) l [v] := hv.2 rfl
  obtain rfl : v = v' := by simpa using e
  obtain ⟨p, xs, rfl, h1, h2, h3⟩ := ZoR hI l v hch
  have hc := callsIn_wide.1 (listB_in Fence.wide 4 trivial trivial trivial trivial rfl (by omega) p xs w h1 (by rw [h2]; exact hb))
  refine hc.mono ?_
  rintro e W ⟨rfl, hbel, cur, hblk, hsz, hcur⟩
  refine ⟨_, fun b => J false b \/ (w.heap.size < b /\ b < W.heap.size), [w.heap.size], [], rfl, ?_, rfl, by simp, ?_, fun b h => .inl h, ?_, hbel.os, ⟨hbel.tape, fun k => Bool.noConfusion (show false = true from k)⟩, hbel.output, hbel.size, fun b hb _ => hbel.block b hb⟩
  ·show PV (fun _ b => J false b \/ (w.heap.size < b /\ b < W.heap.size)) W (.row 80 Zcm) l.reverse (.slice (some ⟨w.heap.size, 0, none⟩) xs.length xs.length) [w.heap.size]
   show PK (fun _ b => J false b \/ (w.heap.size < b /\ b < W.heap.size)) W (.row 80 Zcm) l.reverse [.slice (some ⟨w.heap.size, 0, none⟩) xs.length xs.length] [w.heap.size]
   refine ⟨some ⟨w.heap.size, 0, none⟩, xs.length, by simp [h2], by simp [h2], by rw [h2]; show l.length <= 9223372036854775807; omega, .inr ⟨w.heap.size, cur, rfl, rfl, hblk, ?_, ?_⟩⟩
   ·exact hsz
   ·have hall : cur.toList.take (l.reverse.length * Zcm.sz) = cur.toList := by
     refine List.take_of_length_le ?_
     rw [Array.length_toList, hsz, List.length_reverse, h2]
     exact Nat.le_refl _
    rw [hall]
    refine ⟨by rw [Array.length_toList, hsz, List.length_reverse, h2]; rfl, fun i x hx => ?_⟩
    have hi : i < l.length := by have := (List.getElem?_eq_some_iff.1 hx).1; simpa using this
    rw [List.getElem?_reverse hi] at hx
    obtain ⟨c, hc1, hc2⟩ := h3 _ x hx
    have e6 : piece Zcm.sz cur.toList i = c.cells := by
     show List.take 6 (List.drop (i * 6) cur.toList) = c.cells
     refine List.ext_getElem? fun j => ?_
     by_cases hj : j < 6
     ·have h4 := hcur _ c hc1 j (c.cells[j]'hj) (List.getElem?_eq_getElem hj)
      rw [List.getElem?_take_of_lt hj, List.getElem?_drop]
      have e7 : (xs.length - 1 - (l.length - 1 - i)) * 6 + j = i * 6 + j := by
       have : xs.length - 1 - (l.length - 1 - i) = i := by omega
       rw [this]
      rw [e7] at h4
      rw [Array.getElem?_toList, h4]
      exact (List.getElem?_eq_getElem (l := c.cells) hj).symm
     ·rw [List.getElem?_eq_none (by rw [List.length_take]; omega), List.getElem?_eq_none (by show 6 <= j; omega)]
    rw [e6]
    refine K.mono (I := J false) (fun b h => .inl h) (fun b h => ?_) hc2
    exact hbel.block b (hI b h)
  ·intro b hb
   simp only [List.append_nil, List.mem_singleton] at hb
   subst hb
   refine ⟨.inr (Nat.le_refl _), ?_⟩
   rintro (h | h)
   ·exact absurd (hI _ h) (by omega)
   ·omega
  ·rintro b (h | h)
   ·exact ⟨.inl h, Nat.lt_of_lt_of_le (hI b h) hbel.size⟩
   ·exact ⟨.inr (.inr (by omega)), h.2⟩
 ·simp only [hb, decide_false, cond_false] at hy
  cases hy
end Go.Proofs.YtkbdofnbagmlfaaGreat

namespace Go.Proofs.YtkbdofnbagmlfaaGreat
set_option maxRecDepth 100000
open Go.RowKit Go.Shelf Go
attribute [local go_sem] Oper.semAt_some
structure C2 where
 c0 : Value
 c1 : Value
 ok : ∀ u ∈ [c0, c1], u.oneCell' = true
def C2.cells (x : C2) : List Value := [x.c0, x.c1]
def C2.enc (x : C2) : Value := .agg #[x.c0, x.c1]
def ZeC (n₀ : Nat) (W : World) : Option Addr -> List C2 -> Prop
 | p, [] => p = none
 | p, x :: l => ∃ (b o : Nat) (q : Option Addr), p = some ⟨b, o, none⟩ /\ b < n₀ /\ (W.cell? ⟨b, o, none⟩ = some x.c0 /\ W.cell? ⟨b, o + 1, none⟩ = some x.c1) /\
   W.cell? ⟨b, o + 2, none⟩ = some (.pointer q) /\ W.cell? ⟨b, o + 3, none⟩ = some (.int .i64 ((l.length + 1 : Nat) : Int)) /\ l.length < 9223372036854775807 /\ ZeC n₀ W q l
theorem ZeC.below {n₀ : Nat} {A B : World} (h : Below n₀ A B) : ∀ {p : Option Addr} {xs : List C2}, ZeC n₀ A p xs -> ZeC n₀ B p xs
 | _, [], hl => hl
 | _, _ :: _, ⟨b, o, q, hp, hb, ⟨h0, h1⟩, hq, hn, hlt, hr⟩ => ⟨b, o, q, hp, hb, ⟨(h.cell (p := ⟨b, o, none⟩) hb).trans h0, (h.cell (p := ⟨b, o + 1, none⟩) hb).trans h1⟩, (h.cell (p := ⟨b, o + 2, none⟩) hb).trans hq, (h.cell (p := ⟨b, o + 3, none⟩) hb).trans hn, hlt, ZeC.below h hr⟩
def left2 (W : World) : Value -> Nat
 | .pointer (some ad) => match W.cell? ⟨ad.block, ad.off + 3, none⟩ with
  | some (.int _ n) => n.toNat
  | _ => 0
 | _ => 0
theorem ZqA {n₀ : Nat} {W : World} {q : Option Addr} : ∀ {xs : List C2}, ZeC n₀ W q xs -> left2 W (.pointer q) = xs.length
 | [], h => by
  obtain rfl : q = none := h
  rfl
 | _ :: _, ⟨b, o, q', hp, hb, _, _, hn, _⟩ => by
  subst hp
  simp only [left2, hn]
  rfl
set_option maxHeartbeats 1000000 in
theorem ZlT (F : Fence) (n : Nat) (h : F.fn 101) (hro : F.round = none) (n₀ : Nat) (p : Option Addr) (l : List C2) (w : World) (hL : ZeC n₀ w p l) :
  CallsIn F n Tryz.prog 101 #[.pointer p] w fun e w' => e = .returned (.int .i64 (l.length : Int)) /\ w' = w := by
 refine callsIn_of_wp Tryz.func101 rfl h ?_ hro
 simp only [Tryz.ntmps101, List.size_toArray, List.length_cons, List.length_nil, Nat.reduceAdd, Nat.reduceSub, Array.replicate_succ, Array.replicate_zero, List.push_toArray, List.append_toArray, List.nil_append, List.cons_append]
 cases l with
 | nil =>
  obtain rfl : p = none := hL
  gi_wp2
  go_ret
  exact ⟨rfl, rfl⟩
 | cons c l =>
  obtain ⟨b, o, q, rfl, hb, hc, hq, hn, _, hr⟩ := hL
  gi_wp2
  go_ret
  exact ⟨rfl, rfl⟩
set_option maxHeartbeats 2000000 in
theorem Zu1 (F : Fence) (n : Nat) (hF : F.fn 128) (h108 : F.fn 101) (hro : F.round = none) (hn : 2 <= n) (l Bn n₀ : Nat) (p0 : Option Addr) (xs : List C2) (J Jx : List C2 -> World -> Prop)
  (hY : ∀ pre x W, J pre W -> pre.length < xs.length -> YieldAt F (n - 1) Tryz.prog l #[C2.enc x] W fun e W' =>
   (e = .returned (.bool true) /\ J (pre ++ [x]) W' /\ Below n₀ W W') \/ (e = .returned (.bool false) /\ Jx (pre ++ [x]) W'))
  (W : World) (hBn : W.cell? ⟨Bn, 0, none⟩ = some (.pointer p0)) (hL : ZeC n₀ W p0 xs) (h0 : J [] W) :
  CallsIn F n Tryz.prog 128 #[.func (.yield l) #[] #[], .pointer (some ⟨Bn, 0, none⟩)] W fun e W' => (∃ v, e = .returned v) /\
   ((∃ ys, ys = xs /\ J ys W') \/ (∃ pre, pre <+: xs /\ Jx pre W')) := by
 have h1 : 1 <= n := by omega
 refine callsIn_of_wp Tryz.func128 rfl hF ?_ hro
 simp only [Tryz.ntmps128, List.size_toArray, List.length_cons, List.length_nil, Nat.reduceAdd, Nat.reduceSub, Array.replicate_succ, Array.replicate_zero, List.push_toArray, List.append_toArray, List.nil_append, List.cons_append]
 gi_wp2
 gi_loopw [3] (fun p wr => ∃ (pre rest : List C2) (q : Option Addr), p = .pointer q /\ xs = pre ++ rest /\ ZeC n₀ wr q rest /\ J pre wr)
  (fun p wr => left2 wr p)
 case atStart =>
  exact ⟨[], xs, p0, rfl, rfl, hL, h0⟩
 case round =>
  obtain ⟨pre, rest, q, rfl, hx, hl, hJs⟩ := hrel
  cases rest with
  | nil =>
   obtain rfl : q = none := hl
   gi_wp2_with (gi_at_call 101; refine (ZlT F (n - 1) h108 hro n₀ none [] _ rfl).mono ?_; rintro e w' ⟨rfl, rfl⟩)
   go_end0
   exact ⟨⟨_, rfl⟩, .inl ⟨pre, by simp [hx], hJs⟩⟩
  | cons x rest =>
   have hl' := hl
   obtain ⟨b, o, q', rfl, hb, hc, hq, hlen, hlt, hr⟩ := hl
   obtain ⟨fn, tmps, assign, body, hy, hR⟩ := hY pre x wr hJs (by rw [hx]; simp)
   obtain ⟨hc0, hc1⟩ := hc
   dsimp only [C2.enc] at hy
   gi_wp2_with (gi_at_call 101; refine (ZlT F (n - 1) h108 hro n₀ _ _ _ hl').mono ?_; rintro e w' ⟨rfl, rfl⟩)
   refine hR.mono ?_
   rintro e W3 (⟨rfl, hJ3, hk3⟩ | ⟨rfl, hJx3⟩)
   ·have hq3 : W3.cell? ⟨b, o + 2, none⟩ = some (.pointer q') := (hk3.cell (p := ⟨b, o + 2, none⟩) hb).trans hq
    gi_wp2
    go_roundw
    case rel => exact ⟨pre ++ [x], rest, q', rfl, by simp [hx], hr.below hk3, hJ3⟩
    case measure => rw [ZqA (hr.below hk3), ZqA hl']; simp
   ·gi_wp2
    refine bodyPost_ret (results_none rfl _ _ _) rfl ?_
    exact ⟨⟨_, rfl⟩, .inr ⟨pre ++ [x], ⟨rest, by simp [hx]⟩, hJx3⟩⟩
end Go.Proofs.YtkbdofnbagmlfaaGreat

namespace Go.Proofs.YtkbdofnbagmlfaaGreat
open Go.RowKit Go.Shelf Go
variable {P : Program}
def set2 (cur : Array Value) (o : Nat) (c0 c1 : Value) : Array Value := (cur.setIfInBounds o c0).setIfInBounds (o + 1) c1
theorem ZuS (cur : Array Value) (o : Nat) (c0 c1 : Value) : (set2 cur o c0 c1).size = cur.size := by simp [set2]
theorem set2_get (cur : Array Value) (o : Nat) (c0 c1 : Value) (h : o + 1 < cur.size) (j : Nat) : (set2 cur o c0 c1)[j]? = if j < o then cur[j]? else if j < o + 2 then [c0, c1][j - o]? else cur[j]? := by
 unfold set2
 simp only [Array.getElem?_setIfInBounds, Array.size_setIfInBounds]
 by_cases h1 : j < o
 ·rw [if_pos h1, if_neg (by omega), if_neg (by omega)]
 rw [if_neg h1]
 by_cases h2 : j < o + 2
 ·rw [if_pos h2]
  obtain ⟨d, rfl⟩ : ∃ d, j = o + d := ⟨j - o, by omega⟩
  have hd : d = 0 \/ d = 1 := by omega
  have e : o + d - o = d := by omega
  rw [e]
  rcases hd with rfl | rfl <;> simp <;> omega
 ·rw [if_neg h2, if_neg (by omega), if_neg (by omega)]
theorem Blk.store2 {W : World} {B : Nat} {t : TypeId} {cur : Array Value} (h : Blk W B t cur) {o : Nat} (ho : o + 1 < cur.size) {c0 c1 : Value} (ok : ∀ u ∈ [c0, c1], u.oneCell' = true) :
  ∃ W', ((Go.store ⟨B, o, none⟩ c0).run P W).andThen (fun _ w' => (Go.store ⟨B, o + 1, none⟩ c1).run P w') = Result.ok () W' /\
   Blk W' B t (set2 cur o c0 c1) /\ W.grownBy W' (some B) /\ KeepsOthers W W' /\ (∀ n₀, n₀ <= B -> Below n₀ W W') := by
 have s1 := h.set o c0
 have s2 := s1.set (o + 1) c1
 refine ⟨_, ?_, s2, ?_, ?_, ?_⟩
 ·rw [h.store (by omega) (ok _ (by simp))]
  simp only [Result.andThen_ok]
  rw [s1.store (by simp; omega) (ok _ (by simp))]
 ·exact ZcE (ZaI _ _ _ _) (ZaI _ _ _ _)
 ·exact (KeepsOthers.setCell _ _ _).trans (KeepsOthers.setCell _ _ _)
 ·intro n₀ hn
  exact ((Below.refl n₀ W).setCell (p := ⟨B, o, none⟩) hn _).setCell (p := ⟨B, o + 1, none⟩) hn _
end Go.Proofs.YtkbdofnbagmlfaaGreat
