/- Chains of pairs: Back. List's contract, of a chain of pairs. A context: chains' lists, events, runs. Contracts of functions. Printed by auto.py. What guards come to: whatever is asked, an answer. Blocks: whether one of the elements that must not be there fits; the statement's own loop comes to the same. -/
import Derived.Test.YtkbdofnbagmlfaaGreatHe
import Derived.Laws.MakeOwn
import Derived.KernelRfl
import Derived.Test.YtkbdofnbagmlfaaGreatHd
import Derived.Test.YtkbdofnbagmlfaaGreatGe
import Derived.Test.YtkbdofnbagmlfaaGreatHa
namespace Go.Proofs.YtkbdofnbagmlfaaGreat
set_option maxRecDepth 100000
open Go.RowKit Go.Shelf Go
attribute [local go_sem] Oper.semAt_some
set_option maxHeartbeats 1000000 in
theorem backP_in (F : Fence) (n : Nat) (h : F.fn 102) (hro : F.round = none) (p0 : Option Addr) (w : World) :
  CallsIn F n Tryz.prog 102 #[.pointer p0] w fun e w' => e = .returned (.func (.func 128) #[] #[.pointer (some ⟨w.heap.size, 0, none⟩)]) /\ w' = w.alloc (.cells #[.pointer p0] 92) := by
 refine callsIn_of_wp Tryz.func102 rfl h ?_ hro
 simp only [Tryz.ntmps102, List.size_toArray, List.length_cons, List.length_nil, Nat.reduceAdd, Nat.reduceSub, Array.replicate_succ, Array.replicate_zero, List.push_toArray, List.append_toArray, List.nil_append, List.cons_append]
 gi_wp2
 go_ret
 exact ⟨rfl, rfl⟩
theorem Zrf (F : Fence) (n : Nat) (hF : F.fn 128) (h108 : F.fn 101) (hro : F.round = none) (hn : 2 <= n) (Bn n₀ : Nat) (p0 : Option Addr) (xs : List C2) (w : World) (hBn : Bn < w.heap.size) (hn₀ : n₀ <= w.heap.size)
  (hc : w.cell? ⟨Bn, 0, none⟩ = some (.pointer p0)) (hL : ZeC n₀ w p0 xs) :
  SeqStopsK F n Tryz.prog 128 #[.pointer (some ⟨Bn, 0, none⟩)] (fun x : C2 => #[C2.enc x]) (Below n₀) (fun ys => ys = xs) (fun pre => pre <+: xs) xs.length w := fun l J Jx W hW _ _ hY h0 =>
 Zu1 F n hF h108 hro hn l Bn n₀ p0 xs J Jx hY W ((hW.cell (p := ⟨Bn, 0, none⟩) hBn).trans hc) (hL.below (hW.mono hn₀)) h0
abbrev zP : Value := .agg #[.int .i64 0, .int .i64 0]
theorem infoP : ∃ i, Tryz.prog.info? 83 = some i /\ i.zero = some zP /\ i.size = 2 /\ i.bytes = 16 := by
 have h : (Tryz.prog.info? 83).map (fun i => (i.zero, i.size, i.bytes)) = some (some zP, 2, 16) := by kernel_rfl
 cases hi : Tryz.prog.info? 83 with
 | none => rw [hi] at h; cases h
 | some i =>
  rw [hi] at h
  simp only [Option.map_some, Option.some.injEq, Prod.mk.injEq] at h
  exact ⟨i, rfl, h.1, h.2.1, h.2.2⟩
theorem makeP (w : World) (n : Nat) (hb : n * 16 <= 140737488355328) : (Instr.makeSlice 49 (.int .i64 (n : Int)) (.int .i64 (n : Int))).run Tryz.prog w = .ok (.slice (some ⟨w.heap.size, 0, none⟩) n n) (w.alloc (.cells (madeCells zP.cells (n * 2)) 83)) := by
 obtain ⟨i, h1, h2, h3, h4⟩ := infoP
 have h := run_make (P := Tryz.prog) w 49 83 i zP Tryz.underlying49 h1 h2 .i64 .i64 (n : Int) (n : Int) (by omega) (Int.le_refl _) (by rw [h4]; omega) (by omega)
 rw [h, h3]
 rfl
@[reducible] def listTmpsP (A N : Nat) (p0 : Option Addr) (Bx : Nat) (x : C2) : Array Value := #[.pointer p0, undef, .slice none 0 0, .pointer (some ⟨A + 1, 0, none⟩), .pointer (some ⟨A + 1 + 1, 0, none⟩), .pointer (some ⟨Bx, 0, none⟩), .pointer p0, .int .i64 N, .slice (some ⟨A, 0, none⟩) N N, .slice (some ⟨A, 0, none⟩) N N, .int .i64 N, .pointer p0, .func (.func 128) #[] #[.pointer (some ⟨A + 1 + 1 + 1, 0, none⟩)], .agg #[x.c0, x.c1], undef, undef, undef, undef, undef, undef, undef]
set_option maxHeartbeats 2000000 in
theorem listP_in (F : Fence) (n : Nat) (h148 : F.fn 71) (h174 : F.fn 102) (hF : F.fn 128) (h108 : F.fn 101) (hro : F.round = none) (hn : 4 <= n) (p0 : Option Addr) (xs : List C2) (w : World) (hL : ZeC w.heap.size w p0 xs) (hb : xs.length * 16 <= 140737488355328) :
  CallsIn F n Tryz.prog 71 #[.pointer p0] w fun e W' => e = .returned (.slice (some ⟨w.heap.size, 0, none⟩) xs.length xs.length) /\ Below w.heap.size w W' /\ ∃ cur, Blk W' w.heap.size 83 cur /\ (cur.size = xs.length * 2 /\ ∀ k x, xs[k]? = some x -> ∀ j u, x.cells[j]? = some u -> cur[(xs.length - 1 - k) * 2 + j]? = some u) := by
 have h1 : 1 <= n := by omega
 have hmk := makeP w xs.length hb
 refine callsIn_of_wp_marks Tryz.func71 rfl h148 ?_ hro
 simp only [Tryz.ntmps71, List.size_toArray, List.length_cons, List.length_nil, Nat.reduceAdd, Nat.reduceSub, Array.replicate_succ, Array.replicate_zero, List.push_toArray, List.append_toArray, List.nil_append, List.cons_append]
 gi_wp2_with (first | (gi_at_call 101; refine (ZlT F (n - 1) h108 hro w.heap.size _ _ _ hL).mono ?_; rintro e w' ⟨rfl, hw⟩; obtain rfl : w = w' := hw.symm) | (gi_at_call 102; refine (backP_in F (n - 1) h174 hro _ _).mono ?_; rintro e w' ⟨rfl, rfl⟩))
 obtain ⟨W0, hW0⟩ : ∃ W0, ((((w.alloc (Obj.cells (madeCells zP.cells (xs.length * 2)) 83)).alloc (Obj.cells #[Value.slice (some { block := w.heap.size, off := 0 }) xs.length xs.length] 49)).alloc (Obj.cells #[Value.int IntKind.i64 ↑xs.length] 3)).alloc (Obj.cells #[Value.pointer p0] 92)) = W0 := ⟨_, rfl⟩
 have hsz : W0.heap.size = w.heap.size + 4 := by rw [<- hW0]; simp
 have b0 : Blk W0 w.heap.size 83 (madeCells zP.cells (xs.length * 2)) := by rw [<- hW0]; exact (((Blk.new w 83 _).alloc _).alloc _).alloc _
 have b1 : Boxed W0 (w.heap.size + 1) 49 (.slice (some ⟨w.heap.size, 0, none⟩) xs.length xs.length) := by rw [<- hW0]; exact ((by have := Boxed.new (w.alloc (Obj.cells (madeCells zP.cells (xs.length * 2)) 83)) 49 (.slice (some ⟨w.heap.size, 0, none⟩) xs.length xs.length); rwa [World.size_alloc] at this : Boxed _ _ _ _).alloc _).alloc _
 have b2 : Boxed W0 (w.heap.size + 2) 3 (.int .i64 xs.length) := by
  rw [<- hW0]
  exact (by have := Boxed.new ((w.alloc (Obj.cells (madeCells zP.cells (xs.length * 2)) 83)).alloc (Obj.cells #[Value.slice (some { block := w.heap.size, off := 0 }) xs.length xs.length] 49)) 3 (.int .i64 xs.length); rwa [World.size_alloc, World.size_alloc] at this : Boxed _ _ _ _).alloc _
 have b3 : Boxed W0 (w.heap.size + 3) 92 (.pointer p0) := by
  rw [<- hW0]
  have := Boxed.new (((w.alloc (Obj.cells (madeCells zP.cells (xs.length * 2)) 83)).alloc (Obj.cells #[Value.slice (some { block := w.heap.size, off := 0 }) xs.length xs.length] 49)).alloc (Obj.cells #[Value.int IntKind.i64 ↑xs.length] 3)) 92 (.pointer p0)
  rwa [World.size_alloc, World.size_alloc, World.size_alloc] at this
 have hB0 : Below w.heap.size w W0 := by rw [<- hW0]; exact ((((Below.refl _ w).alloc (Nat.le_refl _) _).alloc (by simp) _).alloc (by simp; omega) _).alloc (by simp; omega) _
 show Code.wpIn F n Tryz.prog _ _ _ (((((w.alloc (Obj.cells (madeCells zP.cells (xs.length * 2)) 83)).alloc (Obj.cells #[Value.slice (some { block := w.heap.size, off := 0 }) xs.length xs.length] 49)).alloc (Obj.cells #[Value.int IntKind.i64 ↑xs.length] 3)).alloc (Obj.cells #[Value.pointer p0] 92)))
 rw [hW0]
 refine wpIn_rangeFunc_ownH hro h1 (gf := 128) (lb := #[.pointer (some ⟨w.heap.size + 3, 0, none⟩)]) rfl hF (enters_of Tryz.func128 (by kernel_rfl) rfl)
  (Zrf F (n - 1) hF h108 hro (by omega) (w.heap.size + 3) w.heap.size p0 xs W0 (by omega) (by omega) b3.cell (hL.below hB0)) belowK_t (belowK_b (by omega)) (Below.refl _ _) (fun _ => rfl)
  (fun pre W => ((Boxed W (w.heap.size + 1) 49 (.slice (some ⟨w.heap.size, 0, none⟩) xs.length xs.length) /\ Boxed W (w.heap.size + 2) 3 (.int .i64 ((xs.length : Int) - pre.length))) /\ (∃ cur, Blk W w.heap.size 83 cur /\ (cur.size = xs.length * 2 /\ ∀ k x, pre[k]? = some x -> ∀ j u, x.cells[j]? = some u -> cur[(xs.length - 1 - k) * 2 + j]? = some u))) /\ Below w.heap.size w W)
  (fun _ _ _ => False)
  (OwnFrom.and (OwnFrom.and (OwnFrom.and (Own.from (boxed_own _ _ _) _) (Own.from (boxed_own _ _ _) _)) (Own.from (Blk.own _ _ _) _)) (ownFrom_below (Nat.le_refl _) (by omega)))
  (fun _ _ _ _ _ hs _ _ => hs)
  ⟨⟨⟨b1, by simpa using b2⟩, _, b0, by simp [size_madeCells], fun k x h => by simp at h⟩, hB0⟩
  (fun x a' W => ∃ Bx, w.heap.size + 2 < Bx /\ Blk W Bx 83 x.cells.toArray /\ a' = (⟨listTmpsP w.heap.size xs.length p0 Bx x, []⟩ : Act))
  ?hAx ?assign ?body ?done ?stop
 case hAx =>
  intro x a'
  rintro u X Y row ⟨Bx, h1, h2, h3⟩ hg hrow
  refine ⟨Bx, h1, h2.kept hg (fun e => ?_), h3⟩
  obtain ⟨_, o, ho, hc⟩ := hrow Bx e.symm
  rw [show X.heap[Bx]? = _ from h2] at ho
  cases ho
  cases hc
 case assign =>
  rintro l pre ⟨c0, c1, ok⟩ W K ⟨⟨⟨i1, i2⟩, cur, i3, i4, i5⟩, i6⟩ hK
  obtain ⟨W', hs, hs1, hs2, hs3, hs4⟩ := (Blk.new W 83 #[.int .i64 0, .int .i64 0]).store2 (P := Tryz.prog) (o := 0) (by simp) ok
  simp only [Nat.zero_add] at hs
  dsimp only [C2.enc]
  gi_wp2
  have l1 := i1.lt
  have l2 := i2.lt
  have l3 := i3.lt
  have hbel := ((Below.refl w.heap.size W).alloc i6.size _).trans (hs4 _ i6.size)
  exact hK _ _ (((KeepsOthers.alloc _ _).trans hs3).from _) hbel
   ⟨⟨⟨(i1.alloc _).kept hs2 (by simp; omega), (i2.alloc _).kept hs2 (by simp; omega)⟩, cur, (i3.alloc _).kept hs2 (by simp; omega), i4, i5⟩, i6.trans hbel⟩
   ⟨W.heap.size, l2, hs1, rfl⟩
 case body =>
  rintro l pre ⟨c0, c1, ok⟩ a' W hl ⟨r, hr⟩ ⟨⟨⟨i1, i2⟩, cur, i3, i4, i5⟩, i6⟩ ⟨Bx, hBx, bX, rfl⟩ hlt
  have x0 := bX.cell 0
  have x1 := bX.cell 1
  have e1 := i1.cell
  have e2 := i2.cell
  have f2 := i2.frozen
  dsimp only [C2.cells] at x0 x1
  simp only [List.getElem?_toArray, List.getElem?_cons_zero, List.getElem?_cons_succ] at x0 x1
  have hpre : pre.length < xs.length := hlt
  have hblk : Blk (W.setCell ⟨w.heap.size + 1 + 1, 0, none⟩ (.int .i64 ((xs.length : Int) - pre.length - 1))) w.heap.size 83 cur := i3.kept (ZaI _ _ _ _) (by simp; omega)
  obtain ⟨W', hs, hs1, hs2, hs3, hs4⟩ := hblk.store2 (P := Tryz.prog) (o := (xs.length - pre.length - 1) * 2) (by rw [i4]; omega) ok
  gi_wp2
  have hbel := ((Below.refl w.heap.size W).setCell (p := ⟨w.heap.size + 1 + 1, 0, none⟩) (by simp; omega) (.int .i64 ((xs.length : Int) - pre.length - 1))).trans (hs4 _ (Nat.le_refl _))
  refine ⟨((KeepsOthers.setCell _ _ _).trans hs3).from _, hbel, ⟨⟨(i1.other (by omega) _).kept hs2 (by simp), ?_⟩, _, hs1, by rw [ZuS]; exact i4, ?_⟩, i6.trans hbel⟩
  ·have e : ((xs.length : Int) - ((pre ++ [(⟨c0, c1, ok⟩ : C2)]).length : Nat)) = (xs.length : Int) - pre.length - 1 := by rw [List.length_append, List.length_singleton]; omega
   rw [e]
   exact (i2.set _).kept hs2 (by simp)
  ·intro k x hk j u hu
   have hj : j < 2 := (List.getElem?_eq_some_iff.1 hu).1
   rw [set2_get _ _ _ _ (by rw [i4]; omega)]
   rcases Nat.lt_trichotomy k pre.length with h | h | h
   ·rw [List.getElem?_append_left h] at hk
    rw [if_neg (by omega), if_neg (by omega)]
    exact i5 k x hk j u hu
   ·subst h
    rw [List.getElem?_append_right (Nat.le_refl _), Nat.sub_self] at hk
    obtain rfl : _ = x := by simpa using hk
    rw [if_neg (by omega), if_pos (by omega)]
    have e : (xs.length - 1 - pre.length) * 2 + j - (xs.length - pre.length - 1) * 2 = j := by omega
    rw [e]
    exact hu
   ·rw [List.getElem?_append_right (by omega)] at hk
    have := (List.getElem?_eq_some_iff.1 hk).1
    simp at this
    omega
 case done =>
  rintro D ys W hD rfl ⟨⟨⟨i1, i2⟩, cur, i3, i4, i5⟩, i6⟩ hK
  have e1 := i1.cell
  gi_wp2
  refine ⟨by simp, .inl ⟨_, _, rfl, run_takeDeferred hK, ?_⟩⟩
  exact ⟨_, results_tmp rfl _ _ _, rfl, i6.trans (belowK_b (w := w) (Nat.le_refl _) W D _ _ (by omega) hK rfl rfl), cur, i3.kept (grownBy_putObj' W D _) (by simp; omega), i4, i5⟩
 case stop =>
  rintro D c pre W _ _ h _
  exact h.elim
end Go.Proofs.YtkbdofnbagmlfaaGreat

namespace Go.Proofs.YtkbdofnbagmlfaaGreat
open Go.RowKit Go.PI Go
theorem two_of {cs : List Value} (h : cs.length = 2) (ok : ∀ u ∈ cs, u.oneCell' = true) : ∃ c : C2, c.cells = cs := by
 match cs, h with
 | [a, b], _ => exact ⟨⟨a, b, ok⟩, rfl⟩
theorem Zp5 {I : Nat -> Prop} {w : World} {n₀ : Nat} (hI : ∀ b, I b -> b < n₀) : ∀ (l : List Zch.T) (v : Value), ZdV I w (K I w Zch) Zch.sz l v ->
  ∃ (p : Option Addr) (xs : List C2), v = .pointer p /\ ZeC n₀ w p xs /\ xs.length = l.length /\ ∀ (k : Nat) (x : Zch.T), l[k]? = some x -> ∃ c : C2, xs[k]? = some c /\ K I w Zch x c.cells
 | [], v, h => ⟨none, [], h, rfl, rfl, fun k x h => by simp at h⟩
 | x :: l, v, h => by
  obtain ⟨ad, cx, r, rfl, hi, hz, hk, hc, hlt, hr⟩ := h
  obtain ⟨p, xs, rfl, h1, h2, h3⟩ := Zp5 hI l r hr
  obtain ⟨c, rfl⟩ := two_of hz hk.one
  obtain ⟨b, o, sp⟩ := ad
  obtain rfl : sp = none := hc.1
  have hcell := hc.2
  refine ⟨_, c :: xs, rfl, ⟨b, o, p, rfl, hI b hi, ⟨hcell 0 _ rfl, hcell 1 _ rfl⟩, hcell 2 _ rfl, ?_, by omega, h1⟩, by simp [h2], ?_⟩
  ·rw [h2]
   exact hcell 3 _ rfl
  ·intro k y hk2
   cases k with
   | zero =>
    obtain rfl : x = y := by simpa using hk2
    exact ⟨c, rfl, hk⟩
   | succ k => exact h3 k y hk2
abbrev Zmf : List (Bool × Pat) := [(false, .ty false (.chain Zch))]
abbrev ZkW : List Pat := [.row 83 Zch]
noncomputable def listP : List Zch.T × Unit -> Option (List Zch.T × Unit) := fun x => bif decide (x.1.length * 16 <= 140737488355328) then some (x.1.reverse, ()) else none
theorem listP_oc : OC Tryz.prog 71 Zmf ZkW listP := by
 refine ⟨⟨_, Tryz.func71, by kernel_rfl, by kernel_rfl⟩, ?_⟩
 rintro w J hJ hlt ⟨l, ⟨⟩⟩ vs B hx hnd hB y hy
 obtain ⟨v, k, B1, B2, rfl, rfl, ⟨rfl, hv⟩, rfl, rfl⟩ := hx
 unfold listP at hy
 by_cases hb : l.length * 16 <= 140737488355328
 ·simp only [hb, decide_true, cond_true, Option.some.injEq] at hy
  subst hy
  have hI : ∀ b, J false b -> b < w.heap.size := fun b h => hlt b (hJ b h)
  obtain ⟨v', e, hch⟩ : K (J false) w (.chain Zch) l [v] := hv.2 rfl
  obtain rfl : v = v' := by simpa using e
  obtain ⟨p, xs, rfl, h1, h2, h3⟩ := Zp5 hI l v hch
  have hc := callsIn_wide.1 (listP_in Fence.wide 4 trivial trivial trivial trivial rfl (by omega) p xs w h1 (by rw [h2]; exact hb))
  refine hc.mono ?_
  rintro e W ⟨rfl, hbel, cur, hblk, hsz, hcur⟩
  refine ⟨_, fun b => J false b \/ (w.heap.size < b /\ b < W.heap.size), [w.heap.size], [], rfl, ?_, rfl, by simp, ?_, fun b h => .inl h, ?_, hbel.os, ⟨hbel.tape, fun k => Bool.noConfusion (show false = true from k)⟩, hbel.output, hbel.size, fun b hb _ => hbel.block b hb⟩
  ·show PV (fun _ b => J false b \/ (w.heap.size < b /\ b < W.heap.size)) W (.row 83 Zch) l.reverse (.slice (some ⟨w.heap.size, 0, none⟩) xs.length xs.length) [w.heap.size]
   show PK (fun _ b => J false b \/ (w.heap.size < b /\ b < W.heap.size)) W (.row 83 Zch) l.reverse [.slice (some ⟨w.heap.size, 0, none⟩) xs.length xs.length] [w.heap.size]
   refine ⟨some ⟨w.heap.size, 0, none⟩, xs.length, by simp [h2], by simp [h2], by rw [h2]; show l.length <= 9223372036854775807; omega, .inr ⟨w.heap.size, cur, rfl, rfl, hblk, ?_, ?_⟩⟩
   ·exact hsz
   ·have hall : cur.toList.take (l.reverse.length * Zch.sz) = cur.toList := by
     refine List.take_of_length_le ?_
     rw [Array.length_toList, hsz, List.length_reverse, h2]
     exact Nat.le_refl _
    rw [hall]
    refine ⟨by rw [Array.length_toList, hsz, List.length_reverse, h2]; rfl, fun i x hx => ?_⟩
    have hi : i < l.length := by have := (List.getElem?_eq_some_iff.1 hx).1; simpa using this
    rw [List.getElem?_reverse hi] at hx
    obtain ⟨c, hc1, hc2⟩ := h3 _ x hx
    have e6 : piece Zch.sz cur.toList i = c.cells := by
     show List.take 2 (List.drop (i * 2) cur.toList) = c.cells
     refine List.ext_getElem? fun j => ?_
     by_cases hj : j < 2
     ·have h4 := hcur _ c hc1 j (c.cells[j]'hj) (List.getElem?_eq_getElem hj)
      rw [List.getElem?_take_of_lt hj, List.getElem?_drop]
      have e7 : (xs.length - 1 - (l.length - 1 - i)) * 2 + j = i * 2 + j := by
       have : xs.length - 1 - (l.length - 1 - i) = i := by omega
       rw [this]
      rw [e7] at h4
      rw [Array.getElem?_toList, h4]
      exact (List.getElem?_eq_getElem (l := c.cells) hj).symm
     ·rw [List.getElem?_eq_none (by rw [List.length_take]; omega), List.getElem?_eq_none (by show 2 <= j; omega)]
    rw [e6]
    refine K.mono (I := J false) (fun b h => .inl h) (fun b h => ?_) hc2
    exact hbel.block b (hI b h)
  ·intro b hb
   simp only [List.append_nil, List.mem_singleton] at hb
   subst hb
   refine ⟨.inr (Nat.le_refl _), ?_⟩
   rintro (h | h)
   ·exact absurd (hI _ h) (by omega)
   ·omega
  ·rintro b (h | h)
   ·exact ⟨.inl h, Nat.lt_of_lt_of_le (hI b h) hbel.size⟩
   ·exact ⟨.inr (.inr (by omega)), h.2⟩
 ·simp only [hb, decide_false, cond_false] at hy
  cases hy
end Go.Proofs.YtkbdofnbagmlfaaGreat

namespace Go.Proofs.YtkbdofnbagmlfaaGreat
open Go.PI Go
noncomputable def cxN1 : Ctx := Zba (Zba cx_betwQ 115 (ZaV ZmI Zj2 listB)) 71 (ZaV Zmf ZkW listP)
theorem enN1 : EnvFull Tryz.prog cxN1 := Zas (Zas en_betwQ listB_oc.callOk) listP_oc.callOk
noncomputable def cxN2 : Ctx := Zba cxN1 27 (ZaV ZiM ZhJ eventsR)
theorem enN2 : EnvFull Tryz.prog cxN2 := Zas enN1 Ztw.callOk
end Go.Proofs.YtkbdofnbagmlfaaGreat

namespace Go.Proofs.YtkbdofnbagmlfaaGreat
set_option maxRecDepth 100000
open Go.PI Go
noncomputable section
def Zp7 : (zA6 × Unit) -> Br (ZaK × Unit) := fun (p0, ()) =>
 (.opt (listB (p0.2.2.1, ())) fun y2 =>
 (.ret (y2.1, ())))
def envR := fun x => (Zp7 x).run
theorem Zs0 : OC Tryz.prog 81 [(false, .ty false zA7)] [.row 80 (.st (.pair .str zA9))] envR := OC.lp enN2 1024 Tryz.func81 [] (by kernel_rfl) trivial (fun _ => by kernel_rfl)
def cx_envR : Ctx := ocx cxN2 Zs0
theorem ZsS : EnvFull Tryz.prog cx_envR := ocn enN2 Zs0
def Zl0 : ((Option Zcc) × (Za5 × (zA6 × (Int × (zA2 × Unit))))) -> Br (Bool × Unit) := fun (p0, p1, p2, p3, p4, ()) =>
 (.cond (decide (p3 < 0))
 (.ret (false, ()))
 (.cond (decide (p3 >= (p1.1.length : Int)))
 (.ret (false, ()))
 (.cond (decide (0 <= p3) && decide (p3 < (p1.1.length : Int)))
 (.opt (hasStr ((p1.1.getD p3.toNat zV2).2.1, p4.1, ())) fun y8 =>
 (.cond (!y8.1)
 (.ret (false, ()))
 (.cond (decide (0 <= p3) && decide (p3 < (p1.1.length : Int)))
 (.opt (envR (p2, ())) fun y9 =>
 (.cond (decide ((List.length y9.1 + List.length (List.set (List.replicate 1 zV3) 0 ((p1.1.getD p3.toNat zV2).1, p4))) * 88 <= 140737488355328))
 (.opt (holdsF (p0, (p1.1.getD p3.toNat zV2).2.2.2.2.2, y9.1 ++ List.set (List.replicate 1 zV3) 0 ((p1.1.getD p3.toNat zV2).1, p4), ())) fun a =>
 (.ret (a.1, ())))
 (.no)))
 (.no))))
 (.no))))
def fitsG := fun x => (Zl0 x).run
theorem ZpQ : OC Tryz.prog 66 [(false, .ty true Zfj), (false, .ty true zA5), (false, .ty false zA7), (false, .ty false (.int .i64)), (false, .ty true zA9)] [.ty false .bool] fitsG := OC.lp ZsS 1024 Tryz.func66 [] (by kernel_rfl) trivial (fun _ => by kernel_rfl)
def cx_fitsG : Ctx := ocx cx_envR ZpQ
theorem Zqo : EnvFull Tryz.prog cx_fitsG := ocn ZsS ZpQ
def ZeX : ((Option Zcc) × ((List Int) × (Int × (Int × (Za5 × (zA6 × (zA2 × Unit))))))) -> Br (((Option Zcc) × ((List Int) × (Int × (Int × (Za5 × (zA6 × (zA2 × Unit))))))) ⊕ (Unit ⊕ Unit)) := fun (a, b, c, d, e, f, g, ()) =>
 (.cond (decide (d < c))
 (.cond (decide (0 <= d) && decide (d < (b.length : Int)))
 (.opt (fitsG (a, e, f, b.getD d.toNat 0, g, ())) fun h =>
 (.cond h.1
 (.ret (.inr (.inl (()))))
 (.ret (.inl (a, b, c, IntKind.wrap .i64 (d + 1), e, f, g, ())))))
 (.no))
 (.ret (.inr (.inr (())))))
def blocksG_w0 := Zag fun x => (ZeX x).run
def Zmi : ((Option Zcc) × (Za5 × (zA6 × (zA2 × Unit)))) -> Br (Bool × Unit) := fun (p0, p1, p2, p3, ()) =>
 (.opt (runLen (p2, ())) fun a =>
 (.cond (a.1 == 0)
 (.ret (false, ()))
 (.opt (runElem (p2, ())) fun b =>
 (.opt (betwQ (p1, b.1, ())) fun c =>
 (.opt (blocksG_w0 (p0, c.1, (c.1.length : Int), 0, p1, p2, p3, ())) fun d =>
 (.sum d (fun e =>
 (.ret (true, ()))) (fun f =>
 (.ret (false, ())))))))))
def blocksG := fun x => (Zmi x).run
def ZuQ : List Lp := [
 .mk 4 (shO 30 [(5, .c (.ref 1029 0 0)), (6, .c (.ref 1030 0 0)), (7, .c (.ref 1031 0 0))] [(1029, []), (1030, []), (1031, [])] [.slot 0 true Zfj, .slot 17 false (.sl (.int .i64)), sI 18, sI 19, .tv 1029 true zA5, .tv 1030 false zA7, .tv 1031 true zA9] []) ([exO .ret 30 [(8, D.c C.tt)] [] [] [], exO (.exit 0) 30 [] [] [] []]) ZeX]
theorem Zlt : OC Tryz.prog 68 [(false, .ty true Zfj), (false, .ty true zA5), (false, .ty false zA7), (false, .ty true zA9)] [.ty false .bool] blocksG := OC.lp Zqo 1024 Tryz.func68 ZuQ (by kernel_rfl) ⟨fun _ => by kernel_rfl, trivial⟩ (fun _ => by kernel_rfl)
def cx_blocksG : Ctx := ocx cx_fitsG Zlt
theorem Ztk : EnvFull Tryz.prog cx_blocksG := ocn Zqo Zlt
end
end Go.Proofs.YtkbdofnbagmlfaaGreat

namespace Go.Proofs.YtkbdofnbagmlfaaGreat
open Go.PI Go
abbrev Elm := ByteArray × (List ByteArray × (Bool × (Int × (Int × List Nd))))
abbrev Qry := List Elm × (Int × Int)
abbrev Prs := Int × Int
abbrev Stp := Int × (Int × Int)
abbrev RunT := Int × (List Prs × (List Bnd × (Int × (Stp × Bool))))
abbrev eZ : Elm := (ByteArray.empty, [], false, 0, 0, [])
theorem ZtL (l : List ByteArray) (hl : l.length <= 1000) (s : ByteArray) : ∃ r, idxStr (l, s, ()) = some (r, ()) := by
 unfold idxStr Zjt
 obtain ⟨z, hz, -⟩ : ∃ z, idxStr_w0 (l, s, (↑(List.length l) : Int), 0, ()) = some z /\ True := by
  refine Zao (step := fun x => (Zdt x).run) (Q := fun _ _ => True) (fun x => x.1 = l /\ x.2.1 = s /\ x.2.2.1 = (l.length : Int) /\ 0 <= x.2.2.2.1 /\ x.2.2.2.1 <= (l.length : Int)) (fun x => ((l.length : Int) - x.2.2.2.1).toNat) ?_ _ ⟨rfl, rfl, rfl, by dsimp only; omega, by dsimp only; omega⟩
  rintro ⟨l', s', m, i, ⟨⟩⟩ hx
  dsimp only at hx ⊢
  obtain ⟨rfl, rfl, rfl, h0, h1⟩ := hx
  unfold Zdt
  by_cases hi : i < (l'.length : Int)
  ·have hw : IntKind.wrap .i64 (i + 1) = i + 1 := Go.PI.wrap_small (by omega) (by omega)
   simp only [Br.run, decide_eq_true hi, decide_eq_true h0, Bool.and_self, cond_true, hw, cond_eq_ite]
   by_cases hc : (bl s' == bl (l'.getD i.toNat ByteArray.empty)) = true <;> simp only [hc, ↓reduceIte, Bool.false_eq_true]
   ·exact .inr ⟨_, rfl, trivial⟩
   ·refine .inl ⟨_, rfl, ?_, ?_, fun z hz => hz⟩
    ·exact ⟨rfl, rfl, rfl, by dsimp only; omega, by dsimp only; omega⟩
    ·dsimp only; omega
  ·simp only [Br.run, decide_eq_false hi, cond_false]
   exact .inr ⟨_, rfl, trivial⟩
 simp only [Br.run, hz]
 cases z <;> exact ⟨_, rfl⟩
theorem ZkF (l : List ByteArray) (hl : l.length <= 1000) (s : ByteArray) : ∃ b, hasStr (l, s, ()) = some (b, ()) := by
 unfold hasStr ZjT
 obtain ⟨r, h⟩ := ZtL l hl s
 simp only [Br.run, h]
 exact ⟨_, rfl⟩
theorem Zll (l : List Nd) (env : List Bnd) (he : env.length <= 64) : ∃ b, holdsF (ZaJ, l, env, ()) = some (b, ()) := by
 unfold holdsF ZjQ truthV ZcR
 simp only [Br.run, ZoC (fv_tot env he), cond_eq_ite]
 split
 ·exact ⟨_, rfl⟩
 ·split
  all_goals (split <;> exact ⟨_, rfl⟩)
def QOk (q : Qry) : Prop := ∀ e ∈ q.1, e.2.1.length <= 1000
theorem Zr8 {q : Qry} (h : QOk q) (i : Nat) : (q.1.getD i eZ).2.1.length <= 1000 := by
 by_cases hi : i < q.1.length
 ·have : q.1.getD i eZ = q.1[i] := by simp [List.getD, hi]
  rw [this]
  exact h _ (List.getElem_mem hi)
 ·have : q.1.getD i eZ = eZ := by simp [List.getD, Nat.le_of_not_lt hi]
  rw [this]; decide
theorem ZuV {q : Qry} (h : QOk q) (r : RunT) (hr : r.2.2.1.length <= 60) (at' : Int) (e : Evt) : ∃ b, fitsG (ZaJ, q, r, at', e, ()) = some (b, ()) := by
 unfold fitsG Zl0 envR Zp7 listB
 by_cases h0 : at' < 0
 ·simp only [Br.run, decide_eq_true h0, cond_true]
  exact ⟨_, rfl⟩
 by_cases h1 : at' >= (↑(List.length q.1) : Int)
 ·simp only [Br.run, decide_eq_false h0, decide_eq_true h1, cond_true, cond_false]
  exact ⟨_, rfl⟩
 obtain ⟨b, hb⟩ := ZkF _ (Zr8 h at'.toNat) e.1
 have g0 : 0 <= at' := by omega
 have g1 : at' < (↑(List.length q.1) : Int) := by omega
 have g2 : r.2.2.1.length * 88 <= 140737488355328 := by omega
 have hb' : hasStr ((q.1.getD at'.toNat (ByteArray.empty, [], false, 0, 0, [])).2.1, e.1, ()) = some (b, ()) := hb
 simp only [Br.run, decide_eq_false h0, decide_eq_false h1, decide_eq_true g0, decide_eq_true g1, Bool.and_self, cond_true, cond_false, hb', decide_eq_true g2]
 cases b
 ·exact ⟨_, rfl⟩
 ·obtain ⟨v, hv⟩ := Zll (q.1.getD at'.toNat (ByteArray.empty, [], false, 0, 0, [])).2.2.2.2.2 (r.2.2.1.reverse ++ List.set (List.replicate 1 (ByteArray.empty, ByteArray.empty, ByteArray.empty, 0, 0, [])) 0 ((q.1.getD at'.toNat (ByteArray.empty, [], false, 0, 0, [])).1, e)) (by
   rw [List.length_append, List.length_reverse]
   show _ + 1 <= 64
   omega)
  simp only [Bool.not_true, cond_false, Bool.cond_decide]
  rw [if_pos (by
   show (r.2.2.1.reverse.length + 1) * 88 <= 140737488355328
   rw [List.length_reverse]
   omega)]
  simp only [hv, Br.run]
  exact ⟨_, rfl⟩
end Go.Proofs.YtkbdofnbagmlfaaGreat

namespace Go.Proofs.YtkbdofnbagmlfaaGreat
open Go.PI Go
def ZcX : Int -> List Elm -> List Int
 | _, [] => []
 | i, e :: r => if e.2.2.1 = true then i :: ZcX (i + 1) r else []
theorem Znn : ∀ (l : List Elm) (i : Int), (ZcX i l).length <= l.length
 | [], _ => Nat.le_refl _
 | e :: r, i => by
  unfold ZcX
  split
  ·simp only [List.length_cons]; have := Znn r (i + 1); omega
  ·simp
theorem Zrh (q : Qry) (hq : q.1.length <= 100) (k : Int) (hk : k < q.1.length) (i : Int) (acc : List Int) (h0 : 0 <= i) (h1 : i <= q.1.length) (h2 : (acc.length : Int) <= i) :
  betwQ_w0 (k, i, q, acc, ()) = some (acc ++ ZcX i (q.1.drop i.toNat), ()) := by
 suffices h : ∃ z, betwQ_w0 (k, i, q, acc, ()) = some z /\ z = (acc ++ ZcX i (q.1.drop i.toNat), ()) by
  obtain ⟨z, h, rfl⟩ := h
  exact h
 refine Zao (step := fun x => (Zhk x).run) (Q := fun x z => z = (x.2.2.2.1 ++ ZcX x.2.1 (q.1.drop x.2.1.toNat), ())) (fun x => x.1 = k /\ x.2.2.1 = q /\ 0 <= x.2.1 /\ x.2.1 <= q.1.length /\ (x.2.2.2.1.length : Int) <= x.2.1) (fun x => ((q.1.length : Int) - x.2.1).toNat) ?_ _ ⟨rfl, rfl, h0, h1, h2⟩
 rintro ⟨k', i, q', acc, ⟨⟩⟩ hx
 dsimp only at hx ⊢
 obtain ⟨rfl, rfl, h0, h1, h2⟩ := hx
 unfold Zhk
 by_cases hi : i < (q'.1.length : Int)
 ·have hw : IntKind.wrap .i64 (i + 1) = i + 1 := Go.PI.wrap_small (by omega) (by omega)
  rw [ZbO q'.1 i (ByteArray.empty, [], false, 0, 0, []) h0 hi]
  simp only [Br.run, decide_eq_true hi, decide_eq_true hk, decide_eq_true h0, Bool.and_self, cond_true, hw, cond_eq_ite, ZcX]
  by_cases hc : (q'.1.getD i.toNat (ByteArray.empty, [], false, 0, 0, [])).2.2.1 = true
  ·simp only [hc, ↓reduceIte, decide_eq_true_eq]
   refine .inl ⟨_, if_pos ?_, ?_, ?_, fun z hz => ?_⟩
   ·show (acc.length + 1) * 8 <= 140737488355328
    omega
   ·refine ⟨rfl, rfl, by dsimp only; omega, by dsimp only; omega, ?_⟩
    show (((acc ++ [i]).length : Nat) : Int) <= i + 1
    rw [List.length_append, List.length_singleton]; omega
   ·dsimp only; omega
   ·rw [hz]
    show ((acc ++ [i]) ++ _, ()) = _
    rw [List.append_assoc]
    rfl
  ·simp only [hc, ↓reduceIte, Bool.false_eq_true, List.append_nil]
   exact .inr ⟨_, rfl, rfl⟩
 ·simp only [Br.run, decide_eq_false hi, cond_false]
  have : q'.1.drop i.toNat = [] := List.drop_eq_nil_of_le (by omega)
  rw [this]
  exact .inr ⟨_, rfl, by simp [ZcX]⟩
theorem Zot (q : Qry) (hq : q.1.length <= 100) (k : Int) (hk : k < q.1.length) (hk0 : 0 <= k) : betwQ (q, k, ()) = some (ZcX (k + 1) (q.1.drop (k + 1).toNat), ()) := by
 unfold betwQ ZrX
 have hw : IntKind.wrap .i64 (k + 1) = k + 1 := Go.PI.wrap_small (by omega) (by omega)
 have hn : ¬ (k + 1 < 0) := by omega
 simp only [Br.run, hw, if_neg hn]
 rw [Zrh q hq k hk (k + 1) [] (by omega) (by omega) (by simp; omega)]
 rfl
noncomputable def ZcF (q : Qry) (r : RunT) (e : Evt) (i : Int) : Bool := match fitsG (ZaJ, q, r, i, e, ()) with
 | some (b, ()) => b
 | none => false
theorem Zp6 {q : Qry} (h : QOk q) (r : RunT) (hr : r.2.2.1.length <= 60) (e : Evt) (i : Int) : fitsG (ZaJ, q, r, i, e, ()) = some (ZcF q r e i, ()) := by
 obtain ⟨b, hb⟩ := ZuV h r hr i e
 simp only [ZcF, hb]
theorem ZnU {q : Qry} (h : QOk q) (r : RunT) (hr : r.2.2.1.length <= 60) (e : Evt) (L : List Int) (hL : L.length <= 100) (j : Int) (h0 : 0 <= j) (h1 : j <= L.length) :
  blocksG_w0 (ZaJ, L, (L.length : Int), j, q, r, e, ()) = some (if (L.drop j.toNat).any (ZcF q r e) = true then .inl () else .inr ()) := by
 suffices hh : ∃ z, blocksG_w0 (ZaJ, L, (L.length : Int), j, q, r, e, ()) = some z /\ z = (if (L.drop j.toNat).any (ZcF q r e) = true then .inl () else .inr ()) by
  obtain ⟨z, hh, rfl⟩ := hh
  exact hh
 refine Zao (step := fun x => (ZeX x).run) (Q := fun x z => z = (if (L.drop x.2.2.2.1.toNat).any (ZcF q r e) = true then .inl () else .inr ())) (fun x => x.1 = ZaJ /\ x.2.1 = L /\ x.2.2.1 = (L.length : Int) /\ 0 <= x.2.2.2.1 /\ x.2.2.2.1 <= L.length /\ x.2.2.2.2.1 = q /\ x.2.2.2.2.2.1 = r /\ x.2.2.2.2.2.2.1 = e) (fun x => ((L.length : Int) - x.2.2.2.1).toNat) ?_ _ ⟨rfl, rfl, rfl, h0, h1, rfl, rfl, rfl⟩
 rintro ⟨s', L', n, j, q', r', e', ⟨⟩⟩ hx
 dsimp only at hx ⊢
 obtain ⟨rfl, rfl, rfl, h0, h1, rfl, rfl, rfl⟩ := hx
 unfold ZeX
 by_cases hi : j < (L'.length : Int)
 ·have hw : IntKind.wrap .i64 (j + 1) = j + 1 := Go.PI.wrap_small (by omega) (by omega)
  rw [ZbO L' j 0 h0 hi]
  simp only [Br.run, decide_eq_true hi, decide_eq_true h0, Bool.and_self, cond_true, hw, Zp6 h r' hr, cond_eq_ite, List.any_cons]
  by_cases hc : ZcF q' r' e' (L'.getD j.toNat 0) = true
  ·simp only [hc, ↓reduceIte, Bool.true_or]
   exact .inr ⟨_, rfl, rfl⟩
  ·simp only [hc, ↓reduceIte, Bool.false_eq_true, Bool.false_or]
   refine .inl ⟨_, rfl, ?_, ?_, fun z hz => ?_⟩
   ·exact ⟨rfl, rfl, rfl, by dsimp only; omega, by dsimp only; omega, rfl, rfl, rfl⟩
   ·dsimp only; omega
   ·rw [hz]
 ·simp only [Br.run, decide_eq_false hi, cond_false]
  have : L'.drop j.toNat = [] := List.drop_eq_nil_of_le (by omega)
  rw [this]
  exact .inr ⟨_, rfl, rfl⟩
end Go.Proofs.YtkbdofnbagmlfaaGreat
