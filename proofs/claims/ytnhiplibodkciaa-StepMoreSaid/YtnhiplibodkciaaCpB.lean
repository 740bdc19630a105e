/- Chains of pairs: Back. -/
import Derived.Test.YtnhiplibodkciaaCpC
import Derived.Test.YtnhiplibodkciaaChB
import Derived.Laws.MakeOwn
import Derived.KernelRfl
namespace Go.Proofs.Ytnhiplibodkciaa
open Go.RowKit Go.Shelf Go

attribute [local go_sem] Oper.semAt_some

set_option maxRecDepth 100000 in
set_option maxHeartbeats 1000000 in
theorem backP_in (F : Fence) (n : Nat) (h : F.fn 174) (hro : F.round = none) (p0 : Option Addr) (w : World) :
    CallsIn F n Try.prog 174 #[.pointer p0] w fun e w' => e = .returned (.func (.func 183) #[] #[.pointer (some ⟨w.heap.size, 0, none⟩)]) ∧ w' = w.alloc (.cells #[.pointer p0] 89) := by
  refine callsIn_of_wp Try.func174 rfl h ?_ hro
  simp only [Try.ntmps174, List.size_toArray, List.length_cons, List.length_nil, Nat.reduceAdd, Nat.reduceSub, Array.replicate_succ, Array.replicate_zero, List.push_toArray, List.append_toArray, List.nil_append, List.cons_append]
  gi_wp2
  go_ret
  exact ⟨rfl, rfl⟩

theorem backP_stops (F : Fence) (n : Nat) (hF : F.fn 183) (h108 : F.fn 108) (hro : F.round = none) (hn : 2 ≤ n) (Bn n₀ : Nat) (p0 : Option Addr) (xs : List C2) (w : World) (hBn : Bn < w.heap.size) (hn₀ : n₀ ≤ w.heap.size)
    (hc : w.cell? ⟨Bn, 0, none⟩ = some (.pointer p0)) (hL : IsC2 n₀ w p0 xs) :
    SeqStopsK F n Try.prog 183 #[.pointer (some ⟨Bn, 0, none⟩)] (fun x : C2 => #[C2.enc x]) (Below n₀) (fun ys => ys = xs) (fun pre => pre <+: xs) xs.length w := fun l J Jx W hW _ _ hY h0 =>
  backP1_in F n hF h108 hro hn l Bn n₀ p0 xs J Jx hY W ((hW.cell (p := ⟨Bn, 0, none⟩) hBn).trans hc) (hL.below (hW.mono hn₀)) h0

abbrev zP : Value := .agg #[.int .i64 0, .int .i64 0]
theorem infoP : ∃ i, Try.prog.info? 153 = some i ∧ i.zero = some zP ∧ i.size = 2 ∧ i.bytes = 16 := by
  have h : (Try.prog.info? 153).map (fun i => (i.zero, i.size, i.bytes)) = some (some zP, 2, 16) := by kernel_rfl
  cases hi : Try.prog.info? 153 with
  | none => rw [hi] at h; cases h
  | some i =>
    rw [hi] at h
    simp only [Option.map_some, Option.some.injEq, Prod.mk.injEq] at h
    exact ⟨i, rfl, h.1, h.2.1, h.2.2⟩
theorem makeP (w : World) (n : Nat) (hb : n * 16 ≤ 140737488355328) : (Instr.makeSlice 104 (.int .i64 (n : Int)) (.int .i64 (n : Int))).run Try.prog w = .ok (.slice (some ⟨w.heap.size, 0, none⟩) n n) (w.alloc (.cells (madeCells zP.cells (n * 2)) 153)) := by
  obtain ⟨i, h1, h2, h3, h4⟩ := infoP
  have h := run_make (P := Try.prog) w 104 153 i zP Try.underlying104 h1 h2 .i64 .i64 (n : Int) (n : Int) (by omega) (Int.le_refl _) (by rw [h4]; omega) (by omega)
  rw [h, h3]
  rfl

@[reducible] def listTmpsP (A N : Nat) (p0 : Option Addr) (Bx : Nat) (x : C2) : Array Value := #[.pointer p0, undef, .slice none 0 0, .pointer (some ⟨A + 1, 0, none⟩), .pointer (some ⟨A + 1 + 1, 0, none⟩), .pointer (some ⟨Bx, 0, none⟩), .pointer p0, .int .i64 N, .slice (some ⟨A, 0, none⟩) N N, .slice (some ⟨A, 0, none⟩) N N, .int .i64 N, .pointer p0, .func (.func 183) #[] #[.pointer (some ⟨A + 1 + 1 + 1, 0, none⟩)], .agg #[x.c0, x.c1], undef, undef, undef, undef, undef, undef, undef]

set_option maxRecDepth 100000 in
set_option maxHeartbeats 2000000 in
theorem listP_in (F : Fence) (n : Nat) (h148 : F.fn 148) (h174 : F.fn 174) (hF : F.fn 183) (h108 : F.fn 108) (hro : F.round = none) (hn : 4 ≤ n) (p0 : Option Addr) (xs : List C2) (w : World) (hL : IsC2 w.heap.size w p0 xs) (hb : xs.length * 16 ≤ 140737488355328) :
    CallsIn F n Try.prog 148 #[.pointer p0] w fun e W' => e = .returned (.slice (some ⟨w.heap.size, 0, none⟩) xs.length xs.length) ∧ Below w.heap.size w W' ∧ ∃ cur, Blk W' w.heap.size 153 cur ∧ (cur.size = xs.length * 2 ∧ ∀ k x, xs[k]? = some x → ∀ j u, x.cells[j]? = some u → cur[(xs.length - 1 - k) * 2 + j]? = some u) := by
  have h1 : 1 ≤ n := by omega
  have hmk := makeP w xs.length hb
  refine callsIn_of_wp_marks Try.func148 rfl h148 ?_ hro
  simp only [Try.ntmps148, List.size_toArray, List.length_cons, List.length_nil, Nat.reduceAdd, Nat.reduceSub, Array.replicate_succ, Array.replicate_zero, List.push_toArray, List.append_toArray, List.nil_append, List.cons_append]
  gi_wp2_with (first | (gi_at_call 108; refine (lenP_in F (n - 1) h108 hro w.heap.size _ _ _ hL).mono ?_; rintro e w' ⟨rfl, hw⟩; obtain rfl : w = w' := hw.symm) | (gi_at_call 174; refine (backP_in F (n - 1) h174 hro _ _).mono ?_; rintro e w' ⟨rfl, rfl⟩))
  obtain ⟨W0, hW0⟩ : ∃ W0, ((((w.alloc (Obj.cells (madeCells zP.cells (xs.length * 2)) 153)).alloc (Obj.cells #[Value.slice (some { block := w.heap.size, off := 0 }) xs.length xs.length] 104)).alloc (Obj.cells #[Value.int IntKind.i64 ↑xs.length] 3)).alloc (Obj.cells #[Value.pointer p0] 89)) = W0 := ⟨_, rfl⟩
  have hsz : W0.heap.size = w.heap.size + 4 := by rw [← hW0]; simp
  have b0 : Blk W0 w.heap.size 153 (madeCells zP.cells (xs.length * 2)) := by rw [← hW0]; exact (((Blk.new w 153 _).alloc _).alloc _).alloc _
  have b1 : Boxed W0 (w.heap.size + 1) 104 (.slice (some ⟨w.heap.size, 0, none⟩) xs.length xs.length) := by rw [← hW0]; exact ((by have := Boxed.new (w.alloc (Obj.cells (madeCells zP.cells (xs.length * 2)) 153)) 104 (.slice (some ⟨w.heap.size, 0, none⟩) xs.length xs.length); rwa [World.size_alloc] at this : Boxed _ _ _ _).alloc _).alloc _
  have b2 : Boxed W0 (w.heap.size + 2) 3 (.int .i64 xs.length) := by
    rw [← hW0]
    exact (by have := Boxed.new ((w.alloc (Obj.cells (madeCells zP.cells (xs.length * 2)) 153)).alloc (Obj.cells #[Value.slice (some { block := w.heap.size, off := 0 }) xs.length xs.length] 104)) 3 (.int .i64 xs.length); rwa [World.size_alloc, World.size_alloc] at this : Boxed _ _ _ _).alloc _
  have b3 : Boxed W0 (w.heap.size + 3) 89 (.pointer p0) := by
    rw [← hW0]
    have := Boxed.new (((w.alloc (Obj.cells (madeCells zP.cells (xs.length * 2)) 153)).alloc (Obj.cells #[Value.slice (some { block := w.heap.size, off := 0 }) xs.length xs.length] 104)).alloc (Obj.cells #[Value.int IntKind.i64 ↑xs.length] 3)) 89 (.pointer p0)
    rwa [World.size_alloc, World.size_alloc, World.size_alloc] at this
  have hB0 : Below w.heap.size w W0 := by rw [← hW0]; exact ((((Below.refl _ w).alloc (Nat.le_refl _) _).alloc (by simp) _).alloc (by simp; omega) _).alloc (by simp; omega) _
  show Code.wpIn F n Try.prog _ _ _ (((((w.alloc (Obj.cells (madeCells zP.cells (xs.length * 2)) 153)).alloc (Obj.cells #[Value.slice (some { block := w.heap.size, off := 0 }) xs.length xs.length] 104)).alloc (Obj.cells #[Value.int IntKind.i64 ↑xs.length] 3)).alloc (Obj.cells #[Value.pointer p0] 89)))
  rw [hW0]
  refine wpIn_rangeFunc_ownH hro h1 (gf := 183) (lb := #[.pointer (some ⟨w.heap.size + 3, 0, none⟩)]) rfl hF (enters_of Try.func183 (by kernel_rfl) rfl)
    (backP_stops F (n - 1) hF h108 hro (by omega) (w.heap.size + 3) w.heap.size p0 xs W0 (by omega) (by omega) b3.cell (hL.below hB0)) belowK_t (belowK_b (by omega)) (Below.refl _ _) (fun _ => rfl)
    (fun pre W => ((Boxed W (w.heap.size + 1) 104 (.slice (some ⟨w.heap.size, 0, none⟩) xs.length xs.length) ∧ Boxed W (w.heap.size + 2) 3 (.int .i64 ((xs.length : Int) - pre.length))) ∧ (∃ cur, Blk W w.heap.size 153 cur ∧ (cur.size = xs.length * 2 ∧ ∀ k x, pre[k]? = some x → ∀ j u, x.cells[j]? = some u → cur[(xs.length - 1 - k) * 2 + j]? = some u))) ∧ Below w.heap.size w W)
    (fun _ _ _ => False)
    (OwnFrom.and (OwnFrom.and (OwnFrom.and (Own.from (boxed_own _ _ _) _) (Own.from (boxed_own _ _ _) _)) (Own.from (Blk.own _ _ _) _)) (ownFrom_below (Nat.le_refl _) (by omega)))
    (fun _ _ _ _ _ hs _ _ => hs)
    ⟨⟨⟨b1, by simpa using b2⟩, _, b0, by simp [size_madeCells], fun k x h => by simp at h⟩, hB0⟩
    (fun x a' W => ∃ Bx, w.heap.size + 2 < Bx ∧ Blk W Bx 153 x.cells.toArray ∧ a' = (⟨listTmpsP w.heap.size xs.length p0 Bx x, []⟩ : Act))
    ?hAx ?assign ?body ?done ?stop
  case hAx =>
    intro x a'
    rintro u X Y row ⟨Bx, h1, h2, h3⟩ hg hrow
    refine ⟨Bx, h1, h2.kept hg (fun e => ?_), h3⟩
    obtain ⟨_, o, ho, hc⟩ := hrow Bx e.symm
    rw [show X.heap[Bx]? = _ from h2] at ho
    cases ho
    cases hc
  case assign =>
    rintro l pre ⟨c0, c1, ok⟩ W K ⟨⟨⟨i1, i2⟩, cur, i3, i4, i5⟩, i6⟩ hK
    obtain ⟨W', hs, hs1, hs2, hs3, hs4⟩ := (Blk.new W 153 #[.int .i64 0, .int .i64 0]).store2 (P := Try.prog) (o := 0) (by simp) ok
    simp only [Nat.zero_add] at hs
    dsimp only [C2.enc]
    gi_wp2
    have l1 := i1.lt
    have l2 := i2.lt
    have l3 := i3.lt
    have hbel := ((Below.refl w.heap.size W).alloc i6.size _).trans (hs4 _ i6.size)
    exact hK _ _ (((KeepsOthers.alloc _ _).trans hs3).from _) hbel
      ⟨⟨⟨(i1.alloc _).kept hs2 (by simp; omega), (i2.alloc _).kept hs2 (by simp; omega)⟩, cur, (i3.alloc _).kept hs2 (by simp; omega), i4, i5⟩, i6.trans hbel⟩
      ⟨W.heap.size, l2, hs1, rfl⟩
  case body =>
    rintro l pre ⟨c0, c1, ok⟩ a' W hl ⟨r, hr⟩ ⟨⟨⟨i1, i2⟩, cur, i3, i4, i5⟩, i6⟩ ⟨Bx, hBx, bX, rfl⟩ hlt
    have x0 := bX.cell 0
    have x1 := bX.cell 1
    have e1 := i1.cell
    have e2 := i2.cell
    have f2 := i2.frozen
    dsimp only [C2.cells] at x0 x1
    simp only [List.getElem?_toArray, List.getElem?_cons_zero, List.getElem?_cons_succ] at x0 x1
    have hpre : pre.length < xs.length := hlt
    have hblk : Blk (W.setCell ⟨w.heap.size + 1 + 1, 0, none⟩ (.int .i64 ((xs.length : Int) - pre.length - 1))) w.heap.size 153 cur := i3.kept (grownBy_setCell2 _ _ _ _) (by simp; omega)
    obtain ⟨W', hs, hs1, hs2, hs3, hs4⟩ := hblk.store2 (P := Try.prog) (o := (xs.length - pre.length - 1) * 2) (by rw [i4]; omega) ok
    gi_wp2
    have hbel := ((Below.refl w.heap.size W).setCell (p := ⟨w.heap.size + 1 + 1, 0, none⟩) (by simp; omega) (.int .i64 ((xs.length : Int) - pre.length - 1))).trans (hs4 _ (Nat.le_refl _))
    refine ⟨((KeepsOthers.setCell _ _ _).trans hs3).from _, hbel, ⟨⟨(i1.other (by omega) _).kept hs2 (by simp), ?_⟩, _, hs1, by rw [set2_size]; exact i4, ?_⟩, i6.trans hbel⟩
    · have e : ((xs.length : Int) - ((pre ++ [(⟨c0, c1, ok⟩ : C2)]).length : Nat)) = (xs.length : Int) - pre.length - 1 := by rw [List.length_append, List.length_singleton]; omega
      rw [e]
      exact (i2.set _).kept hs2 (by simp)
    · intro k x hk j u hu
      have hj : j < 2 := (List.getElem?_eq_some_iff.1 hu).1
      rw [set2_get _ _ _ _ (by rw [i4]; omega)]
      rcases Nat.lt_trichotomy k pre.length with h | h | h
      · rw [List.getElem?_append_left h] at hk
        rw [if_neg (by omega), if_neg (by omega)]
        exact i5 k x hk j u hu
      · subst h
        rw [List.getElem?_append_right (Nat.le_refl _), Nat.sub_self] at hk
        obtain rfl : _ = x := by simpa using hk
        rw [if_neg (by omega), if_pos (by omega)]
        have e : (xs.length - 1 - pre.length) * 2 + j - (xs.length - pre.length - 1) * 2 = j := by omega
        rw [e]
        exact hu
      · rw [List.getElem?_append_right (by omega)] at hk
        have := (List.getElem?_eq_some_iff.1 hk).1
        simp at this
        omega
  case done =>
    rintro D ys W hD rfl ⟨⟨⟨i1, i2⟩, cur, i3, i4, i5⟩, i6⟩ hK
    have e1 := i1.cell
    gi_wp2
    refine ⟨by simp, .inl ⟨_, _, rfl, run_takeDeferred hK, ?_⟩⟩
    exact ⟨_, results_tmp rfl _ _ _, rfl, i6.trans (belowK_b (w := w) (Nat.le_refl _) W D _ _ (by omega) hK rfl rfl), cur, i3.kept (grownBy_putObj' W D _) (by simp; omega), i4, i5⟩
  case stop =>
    rintro D c pre W _ _ h _
    exact h.elim
end Go.Proofs.Ytnhiplibodkciaa
