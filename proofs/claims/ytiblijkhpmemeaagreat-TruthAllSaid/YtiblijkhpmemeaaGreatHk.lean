/- slices.SortFunc at elements of one cell, at whatever length: as a function that puts a row in another order, in place. Contracts of functions. Printed by auto.py. Contracts of functions. Printed by auto.py. -/
import Derived.Test.YtiblijkhpmemeaaGreatGe
import Derived.Shelf.SlSortCmp.NoneTotal
import Derived.Test.YtiblijkhpmemeaaGreatHf
import Derived.Test.YtiblijkhpmemeaaGreatHa
import Derived.Test.YtiblijkhpmemeaaGreatT1
namespace Go.PI
open Go.RowKit Go.Sort Go.Proofs Go.Shelf
variable {P : Program}
theorem heap_sortWorld {α : Type} [Inhabited α] (enc : α → Value) (w : World) (blk off m : Nat) (dk : Array α) (os : Array Obj) :
  (sortWorld enc w blk off m dk os).heap = w.heap.modify blk (onCells (putCells enc off dk)) ++ os := rfl
theorem sortWorld_other {α : Type} [Inhabited α] {enc : α → Value} {w : World} {blk off m : Nat} {dk : Array α} {os : Array Obj} {b : Nat} (hb : b < w.heap.size) (hne : b ≠ blk) :
  (sortWorld enc w blk off m dk os).heap[b]? = w.heap[b]? := by
 rw [heap_sortWorld, Array.getElem?_append_left (by simpa using hb), Array.getElem?_modify, if_neg (fun e => hne e.symm)]
theorem sortWorld_row {α : Type} [Inhabited α] {enc : α → Value} {w : World} {blk off m : Nat} {dk : Array α} {os : Array Obj} {cur : Array Value} {e : Nat} {fr : Nat × Nat} (h : w.heap[blk]? = some (.cells cur e fr)) :
  (sortWorld enc w blk off m dk os).heap[blk]? = some (.cells (putCells enc off dk cur) e fr) := by
 have hb : blk < w.heap.size := (Array.getElem?_eq_some_iff.1 h).1
 rw [heap_sortWorld, Array.getElem?_append_left (by simpa using hb), Array.getElem?_modify, if_pos rfl, h]
 rfl
theorem grow_of {W w' : World} (h1 : w'.os = W.os) (h2 : TP W w') (h3 : w'.output = W.output) (h4 : W.heap.size ≤ w'.heap.size) (h5 : ∀ b, b < W.heap.size → w'.heap[b]? = W.heap[b]?) :
  ∃ q os', w' = grow (W.drewN q) os' := by
 refine ⟨w'.drawn - W.drawn, w'.heap.extract W.heap.size w'.heap.size, ?_⟩
 obtain ⟨hp, tp, dr, oo, ou⟩ := w'
 obtain ⟨hp0, tp0, dr0, oo0, ou0⟩ := W
 obtain ⟨h2, h2'⟩ := h2
 simp only at h1 h2 h2' h3 h4 h5
 subst h1 h2 h3
 unfold grow World.drewN
 simp only [World.mk.injEq, and_true, true_and]
 refine ⟨?_, by omega⟩
 apply Array.ext_getElem?
 intro i
 rcases Nat.lt_or_ge i hp0.size with h | h
 ·rw [Array.getElem?_append_left h, h5 i h]
 ·rw [Array.getElem?_append_right h, Array.getElem?_extract]
  split
  ·congr 1; omega
  ·rw [Array.getElem?_eq_none (by omega)]
def insL {τ : Type} (c : τ → τ → Int) (x : τ) : List τ → List τ
 | [] => [x]
 | y :: l => bif decide (c y x < 0) then y :: insL c x l else x :: y :: l
def sorted {τ : Type} (c : τ → τ → Int) (xs : List τ) : List τ := xs.foldr (insL c) []
theorem insL_perm {τ : Type} (c : τ → τ → Int) (x : τ) : ∀ l : List τ, (insL c x l).Perm (x :: l)
 | [] => .refl _
 | y :: l => by
  unfold insL
  cases decide (c y x < 0) with
  | false => exact .refl _
  | true => exact ((insL_perm c x l).cons y).trans (.swap ..)
theorem sorted_perm {τ : Type} (c : τ → τ → Int) : ∀ xs : List τ, (sorted c xs).Perm xs
 | [] => .refl _
 | x :: l => (insL_perm c x _).trans ((sorted_perm c l).cons x)
theorem sorted_length {τ : Type} (c : τ → τ → Int) (xs : List τ) : (sorted c xs).length = xs.length := (sorted_perm c xs).length_eq
theorem insL_sorted {τ : Type} {c : τ → τ → Int} (hO : SWO (ltOf c)) (x : τ) : ∀ l : List τ, l.Pairwise (fun a b => ltOf c b a = false) → (insL c x l).Pairwise fun a b => ltOf c b a = false
 | [], _ => List.pairwise_singleton _ _
 | y :: l, h => by
  rw [List.pairwise_cons] at h
  unfold insL
  cases e : decide (c y x < 0) with
  | false =>
   refine List.pairwise_cons.2 ⟨fun z hz => ?_, List.pairwise_cons.2 h⟩
   rcases List.mem_cons.1 hz with rfl | hz
   ·exact e
   ·exact hO.ntrans _ _ _ (h.1 z hz) e
  | true =>
   refine List.pairwise_cons.2 ⟨fun z hz => ?_, insL_sorted hO x l h.2⟩
   rcases List.mem_cons.1 ((insL_perm c x l).mem_iff.1 hz) with rfl | hz
   ·cases e2 : ltOf c z y with
    | false => rfl
    | true =>
     have := hO.trans _ _ _ e2 e
     rw [hO.irrefl] at this
     cases this
   ·exact h.1 z hz
theorem sorted_sorted {τ : Type} {c : τ → τ → Int} (hO : SWO (ltOf c)) : ∀ xs : List τ, (sorted c xs).Pairwise fun a b => ltOf c b a = false
 | [] => .nil
 | x :: l => insL_sorted hO x _ (sorted_sorted hO l)
theorem sorted_uniq {τ : Type} {c : τ → τ → Int} (hO : SWO (ltOf c)) (hT : ∀ x y, ltOf c x y = false → ltOf c y x = false → x = y) {xs ys : List τ} (hp : ys.Perm xs) (hs : ys.Pairwise fun a b => ltOf c b a = false) : ys = sorted c xs :=
 List.Perm.eq_of_pairwise (le := fun a b => ltOf c b a = false) (fun a b _ _ q1 q2 => hT a b q2 q1) hs (sorted_sorted hO xs) (hp.trans (sorted_perm c xs).symm)
theorem sorted_of {α β : Type} [Inhabited α] (f : α → β) (c : β → β → Int) (hO : SWO (ltOf c)) (hT : ∀ x y, ltOf c x y = false → ltOf c y x = false → x = y) {d d' : Array α}
  (hp : PermIn 0 d.size d d') (hs : SortedIn (ltOf fun x y => c (f x) (f y)) 0 d.size d') : d'.toList.map f = sorted c (d.toList.map f) := by
 obtain ⟨h1, -, h2⟩ := hp
 have e1 : d'.extract 0 d.size = d' := by rw [← h1]; exact Array.extract_size
 rw [e1, Array.extract_size] at h2
 refine sorted_uniq hO hT (h2.map f) ?_
 rw [List.pairwise_map, List.pairwise_iff_getElem]
 intro i j hi hj hij
 have := hs i j (Nat.zero_le _) hij (by simpa [h1] using hj)
 rw [getElem!_pos _ i (by simpa using hi), getElem!_pos _ j (by simpa using hj)] at this
 exact this
def Borne (τ : Ty) (x : τ.T) : Prop := ∃ J w cs, K J w τ x cs
theorem OCR.sortFunc {ρ : Ren} (L : SlLaysF.n6 P ρ) {g e : Nat} {τ : Ty} {b1 b2 : Bool} {F : PArgs [(false, .ty b1 τ), (false, .ty b2 τ)] → Option (Int × Unit)}
  (hg : OC P g [(false, .ty b1 τ), (false, .ty b2 τ)] [.ty false (.int .i64)] F) (hsz : τ.sz = 1) (ha : τ.isAgg = false) (h1c : ∀ (J : Nat → Prop) (w : World) (x : τ.T) (v : Value), K J w τ x [v] → v.oneCell' = true)
  (c : τ.T → τ.T → Int) (hc : ∀ x y, Borne τ x → Borne τ y → F (x, y, ()) = some (c x y, ())) (hO : SWO (ltOf c)) (hT : ∀ x y, ltOf c x y = false → ltOf c y x = false → x = y) {f : Nat} (hf : ρ.f 6 = f)
  (hfn : ∃ fn, P.funcs[f]? = some fn ∧ (fn.name == "runtime.NumGoroutine") = false ∧ fn.body.isNone = false) : OCR P f e τ [(false, .fn g .nil)] fun xs _ => bif decide (xs.length < 4611686018427387904) then some (sorted c xs) else none := by
 subst hf
 refine ⟨hfn, fun w J hJ hlt xs xr v vr B hx hxr hBJ ys hy => ?_⟩
 have hy : (bif decide (xs.length < 4611686018427387904) then some (sorted c xs) else none) = some ys := hy
 have h62 : xs.length < 4611686018427387904 := Decidable.byContradiction fun h => by rw [decide_eq_false h] at hy; cases hy
 rw [decide_eq_true h62] at hy
 obtain rfl := Option.some.inj hy
 obtain ⟨vf, l, B1, B2, rfl, hB12, ⟨cs, rfl, hcs, -⟩, hl, -⟩ := hxr
 subst hl hcs
 obtain ⟨A, cap, hv, hlc, hcM, hA⟩ := hx
 obtain rfl : v = .slice A xs.length cap := by simpa using hv
 by_cases hx0 : xs = []
 ·subst hx0
  refine (AnyF.slices_SortFunc_none (P := P) (ρ := ρ) { L with } A cap (.func (.func g) #[] #[]) w).mono ?_
  rintro en w' ⟨rfl, rfl⟩
  refine ⟨_, J false, rfl, fun μ I sh => ⟨[], rfl, rfl, fun j c v h => by simp at h⟩, ⟨A, cap, by rw [show sorted c [] = [] from rfl], by rw [show sorted c [] = [] from rfl]; exact hlc, hcM, ?_⟩, fun _ h => h, fun b h => ⟨.inl h, hlt b (hJ b h)⟩, rfl, TP.refl _, rfl, Nat.le_refl _, fun _ _ _ => rfl⟩
  rw [show sorted c [] = [] from rfl]
  exact hA
 ·rcases hA with ⟨-, h0, -⟩ | ⟨b, cur, rfl, rfl, hh, hcs, hrow⟩
  ·have : xs.length = 0 := by omega
   exact absurd (List.eq_nil_of_length_eq_zero this) hx0
  ·rw [hsz, Nat.mul_one] at hcs hrow
   have hb : b < w.heap.size := (Array.getElem?_eq_some_iff.1 hh).1
   have hnb : ∀ b', J false b' → b' ≠ b := fun b' h e => hBJ b (List.mem_singleton.2 rfl) (e ▸ hJ _ h)
   have hK : ∀ i (hi : i < xs.length), K (J false) w τ (xs[i]) [cur[i]'(by omega)] := by
    intro i hi
    have := hrow.2 i _ (List.getElem?_eq_getElem hi)
    unfold piece at this
    rw [Nat.mul_one] at this
    rwa [show ((cur.toList.take xs.length).drop i).take 1 = [cur[i]'(by omega)] from by
     rw [List.take_one, List.head?_drop, List.getElem?_take_of_lt hi]
     simp [show i < cur.size by omega]] at this
   have hlen : 0 < xs.length := List.length_pos_iff.2 hx0
   let α : Type := { p : Value × τ.T // K (J false) w τ p.2 [p.1] }
   letI : Inhabited α := ⟨⟨(cur[0]'(by omega), xs[0]), hK 0 hlen⟩⟩
   let enc : α → Value := fun x => x.1.1
   let d : Array α := Array.ofFn (n := xs.length) fun i => ⟨(cur[i.1]'(by omega), xs[i.1]), hK i.1 i.2⟩
   have hd : d.size = xs.length := Array.size_ofFn
   have hdx : d.toList.map (fun x : α => x.1.2) = xs := by
    apply List.ext_getElem
    ·simp [hd]
    ·intro i h1 h2
     simp [d]
   have h1 : OneCell enc := fun x => h1c _ _ _ _ x.2
   have hH : Holds enc w b 0 d := by
    intro j hj
    rw [hd] at hj
    rw [getElem!_pos d j (by rw [hd]; exact hj)]
    refine ⟨?_, ?_⟩
    ·simp [World.cell?, hh, d, enc, show j < cur.size by omega]
    ·simp [World.frozen?, hh]
   have hcmp : CmpLays1 P g #[] enc (fun x y => c x.1.2 y.1.2) b 0 d.size w := by
    intro m os dk hdk x y
    have hst : Stays (J false) w (sortWorld enc w b 0 m dk os) := fun b' h' => sortWorld_other (hlt b' (hJ b' h')) (hnb b' h')
    have hle : w.heap.size ≤ (sortWorld enc w b 0 m dk os).heap.size := by rw [heap_sortWorld]; simp
    have hV : ∀ z : α, VK (J false) (sortWorld enc w b 0 m dk os) τ z.1.2 (enc z) := fun z => ⟨fun h => (by rw [ha] at h; cases h), fun _ => z.2.mono (fun _ h => h) hst⟩
    have hPA : PAK (fun _ => J false) (sortWorld enc w b 0 m dk os) [(false, .ty b1 τ), (false, .ty b2 τ)] (x.1.2, y.1.2, ()) [enc x, enc y] [] :=
     ⟨enc x, [enc y], [], [], rfl, rfl, ⟨rfl, hV x⟩, enc y, [], [], [], rfl, rfl, ⟨rfl, hV y⟩, rfl, rfl⟩
    refine (hg.ok (sortWorld enc w b 0 m dk os) (fun _ => J false) (fun _ h => h) (fun b' h' => Nat.lt_of_lt_of_le (hlt b' (hJ b' h')) hle) (x.1.2, y.1.2, ()) [enc x, enc y] [] hPA
     List.nodup_nil (fun b' h' => by simp at h') (c x.1.2 y.1.2, ()) (hc _ _ ⟨_, _, _, x.2⟩ ⟨_, _, _, y.2⟩)).mono ?_
    rintro en w' ⟨u, J', B1, B2, rfl, hu, -, -, -, -, -, k1, k2, k3, k4, k5⟩
    refine ⟨?_, grow_of k1 k2 k3 k4 fun b' h' => k5 b' h' (by simp)⟩
    have : K J' w' (.int .i64) (c x.1.2 y.1.2) [u] := hu.2.2 rfl
    have := this.1
    simp only [List.cons.injEq, and_true] at this
    rw [this]
   have heg : ∀ args w, (callFunc g args).run P w = .ok (.enter g args) w := by
    obtain ⟨fn, e1, e2, e3⟩ := hg.fn
    obtain ⟨code, e4⟩ := Option.isSome_iff_exists.1 (by rw [← Option.not_isNone, e3]; rfl : fn.body.isSome = true)
    exact enters_of e1 e2 e4
   have hcon := Any.slices_SortFunc L enc h1 (fun x y : α => c x.1.2 y.1.2) ⟨fun x => hO.irrefl _, fun x y z => hO.trans _ _ _, fun x y z => hO.ntrans _ _ _⟩ g #[] b 0 cap d w heg hcmp hH hb (by rw [hd]; exact h62)
   rw [hd] at hcon
   refine hcon.mono ?_
   rintro en w' ⟨rfl, d', n, os, hp, hs, rfl⟩
   rw [← hd] at hp hs
   have hys := sorted_of (fun x : α => x.1.2) c hO hT hp hs
   rw [hdx] at hys
   have hd' : d'.size = xs.length := hp.1.trans hd
   have hst : Stays (J false) w (sortWorld enc w b 0 n d' os) := fun b' h' => sortWorld_other (hlt b' (hJ b' h')) (hnb b' h')
   have hyl : (sorted c xs).length = xs.length := sorted_length c xs
   refine ⟨_, J false, rfl, fun μ I sh => ⟨[], rfl, rfl, fun j c v h => by simp at h⟩, ⟨_, cap, by rw [hyl], by rw [hyl]; exact hlc, hcM, .inr ⟨b, _, rfl, rfl, sortWorld_row hh, by simp [putCells, hcs, hsz], ?_⟩⟩, fun _ h => h, fun b' h' => ⟨.inl h', Nat.lt_of_lt_of_le (hlt b' (hJ b' h')) (by rw [heap_sortWorld]; simp)⟩, rfl, ⟨rfl, Nat.le_add_right _ _⟩, rfl, by rw [heap_sortWorld]; simp, fun b' h' hn => sortWorld_other h' (by simpa using hn)⟩
   rw [hsz, Nat.mul_one, hyl]
   refine ⟨by simp [putCells, hyl, hsz]; omega, fun i x hi => ?_⟩
   have hin : i < xs.length := by rw [← hyl]; exact (List.getElem?_eq_some_iff.1 hi).1
   have hxi : x = (d'[i]!).1.2 := by
    rw [← hys, List.getElem?_map, Array.getElem?_toList, Array.getElem?_eq_getElem (by omega)] at hi
    rw [getElem!_pos d' i (by omega)]
    exact (Option.some.inj hi).symm
   have hcell : piece 1 ((putCells enc 0 d' cur).toList.take xs.length) i = [enc d'[i]!] := by
    unfold piece
    rw [Nat.mul_one, List.take_one, List.head?_drop, List.getElem?_take_of_lt hin]
    simp [putCells, show i < cur.size by omega, show i < d'.size by omega]
   rw [hcell, hxi]
   exact (d'[i]!).2.mono (fun _ h => h) hst
end Go.PI

namespace Go.Proofs.YtiblijkhpmemeaaGreat
set_option maxRecDepth 100000
open Go.PI Go
noncomputable def stampV_B : (zA2 × (Int × Unit)) → Br ((Int × (Int × Int)) × Unit) := fun (p0, p1, ()) =>
 (.ret ((p0.2.2.1, p0.2.2.2.1, p1), ()))
noncomputable def stampV := fun x => (stampV_B x).run
theorem stampV_oc : OC Tryz.prog 75 [(false, .ty true zA9), (false, .ty false (.int .i64))] [.ty false (.st (.pair (.int .i64) (.pair (.int .i64) (.int .i64))))] stampV := OC.lp en_whyT 1024 Tryz.func75 [] (by kernel_rfl) trivial (fun _ => by kernel_rfl)
noncomputable def cx_stampV : Ctx := ocx cx_whyT stampV_oc
theorem en_stampV : EnvFull Tryz.prog cx_stampV := ocn en_whyT stampV_oc
noncomputable def lessSt_B : ((Int × (Int × Int)) × ((Int × (Int × Int)) × Unit)) → Br (Bool × Unit) := fun (p0, p1, ()) =>
 (.cond (p0.1 != p1.1)
 (.ret (decide (p0.1 < p1.1), ()))
 (.cond (p0.2.1 != p1.2.1)
 (.ret (decide (p0.2.1 < p1.2.1), ()))
 (.ret (decide (p0.2.2 < p1.2.2), ()))))
noncomputable def lessSt := fun x => (lessSt_B x).run
theorem lessSt_oc : OC Tryz.prog 76 [(false, .ty false (.st (.pair (.int .i64) (.pair (.int .i64) (.int .i64))))), (false, .ty false (.st (.pair (.int .i64) (.pair (.int .i64) (.int .i64)))))] [.ty false .bool] lessSt := OC.lp en_stampV 1024 Tryz.func76 [] (by kernel_rfl) trivial (fun _ => by kernel_rfl)
noncomputable def cx_lessSt : Ctx := ocx cx_stampV lessSt_oc
theorem en_lessSt : EnvFull Tryz.prog cx_lessSt := ocn en_stampV lessSt_oc
noncomputable def beforeV_B : (zA2 × (zA2 × Unit)) → Br (Bool × Unit) := fun (p0, p1, ()) =>
 (.opt (stampV (p0, 0, ())) fun y5 =>
 (.opt (stampV (p1, 0, ())) fun y6 =>
 (.opt (lessSt (y5.1, y6.1, ())) fun y7 =>
 (.ret (y7.1, ())))))
noncomputable def beforeV := fun x => (beforeV_B x).run
theorem beforeV_oc : OC Tryz.prog 51 [(false, .ty true zA9), (false, .ty true zA9)] [.ty false .bool] beforeV := OC.lp en_lessSt 1024 Tryz.func51 [] (by kernel_rfl) trivial (fun _ => by kernel_rfl)
noncomputable def cx_beforeV : Ctx := ocx cx_lessSt beforeV_oc
theorem en_beforeV : EnvFull Tryz.prog cx_beforeV := ocn en_lessSt beforeV_oc
noncomputable def cmpEv_B : (zA2 × (zA2 × Unit)) → Br (Int × Unit) := fun (p0, p1, ()) =>
 (.opt (beforeV (p0, p1, ())) fun y4 =>
 (.cond y4.1
 (.ret (-1, ()))
 (.opt (beforeV (p1, p0, ())) fun y5 =>
 (.cond y5.1
 (.ret (1, ()))
 (.ret (0, ()))))))
noncomputable def cmpEv := fun x => (cmpEv_B x).run
theorem cmpEv_oc : OC Tryz.prog 50 [(false, .ty true zA9), (false, .ty true zA9)] [.ty false (.int .i64)] cmpEv := OC.lp en_beforeV 1024 Tryz.func50 [] (by kernel_rfl) trivial (fun _ => by kernel_rfl)
noncomputable def cx_cmpEv : Ctx := ocx cx_beforeV cmpEv_oc
theorem en_cmpEv : EnvFull Tryz.prog cx_cmpEv := ocn en_beforeV cmpEv_oc
noncomputable def cloneEv : ((List zA2) × Unit) → Option ((List zA2) × Unit) := fun x => bif bound (0 + List.length x.1) 72 then some (x.1, ()) else none
theorem cloneEv_oc : OC Tryz.prog 48 [(false, .ty false (.sl zA9))] [.row 52 zA9] cloneEv := clone_rowB (t := 23) (e := 52) (by_ := 24) (b2 := 72) (en_cmpEv) Tryz.func48 (by kernel_rfl) (by kernel_rfl) (by kernel_rfl) (by kernel_rfl) (by kernel_rfl) false rfl fun l => ⟨.c .bad, [1031, 1029, 1029], by kernel_rfl⟩
noncomputable def cx_cloneEv : Ctx := addO cx_cmpEv 48 (ocOrc [(false, .ty false (.sl zA9))] [.row 52 zA9] cloneEv)
theorem en_cloneEv : EnvFull Tryz.prog cx_cloneEv := env_add (en_cmpEv) cloneEv_oc.callOk
noncomputable def insEv_l1 : (Int × zT4) → Br ((Int × zT4) ⊕ zT4) := fun (a, b, c, d, e, ()) =>
 (.cond (decide (d > a))
 (.cond (decide (0 ≤ d) && decide (d < (↑(List.length e) : Int)))
 (.cond (decide (0 ≤ IntKind.wrap .i64 (d - 1)) && decide (IntKind.wrap .i64 (d - 1) < (↑(List.length e) : Int)))
 (.opt (cmpEv (List.getD e (Int.toNat d) zV1, List.getD e (Int.toNat (IntKind.wrap .i64 (d - 1))) zV1, ())) fun f =>
 (.cond (decide (f.1 < 0))
 (.cond (decide (0 ≤ IntKind.wrap .i64 (d - 1)) && decide (IntKind.wrap .i64 (d - 1) < (↑(List.length e) : Int)))
 (.cond (decide (0 ≤ d) && decide (d < (↑(List.length e) : Int)))
 (.cond (decide (0 ≤ d) && decide (d < (↑(List.length e) : Int)))
 (.cond (decide (0 ≤ IntKind.wrap .i64 (d - 1)) && decide (IntKind.wrap .i64 (d - 1) < (↑(List.length (List.set e (Int.toNat d) (List.getD e (Int.toNat (IntKind.wrap .i64 (d - 1))) zV1))) : Int)))
 (.ret (.inl (a, b, c, IntKind.wrap .i64 (d - 1), List.set (List.set e (Int.toNat d) (List.getD e (Int.toNat (IntKind.wrap .i64 (d - 1))) zV1)) (Int.toNat (IntKind.wrap .i64 (d - 1))) (List.getD e (Int.toNat d) zV1), ())))
 (.no))
 (.no))
 (.no))
 (.no))
 (.ret (.inr (a, b, c, e, ())))))
 (.no))
 (.no))
 (.ret (.inr (a, b, c, e, ()))))
noncomputable def insEv_w1 := iterO fun x => (insEv_l1 x).run
noncomputable def insEv_l0 : zT4 → Br (zT4 ⊕ ((List zA2) × Unit)) := fun (a, b, c, d, ()) =>
 (.cond (decide (c < b))
 (.opt (insEv_w1 (a, b, c, c, d, ())) fun e =>
 (.ret (.inl (e.1, e.2.1, IntKind.wrap .i64 (e.2.2.1 + 1), e.2.2.2.1, ()))))
 (.ret (.inr (d, ()))))
noncomputable def insEv_w0 := iterO fun x => (insEv_l0 x).run
noncomputable def insEv_B : (List zA2) → (Int × (Int × (Unit × Unit))) → Br (List zA2) := fun p0 (p1, p2, p3, ()) =>
 (.opt (insEv_w0 (p1, p2, IntKind.wrap .i64 (p1 + 1), p0, ())) fun a =>
 (.ret a.1))
noncomputable def insEv : (List zA2) → (Int × (Int × (Unit × Unit))) → Option (List zA2) := fun x y => (insEv_B x y).run
noncomputable def insEv_L : List Lp := [
 .mk 1 (shO 53 [(0, .c (.mfull 1954)), (3, .fn 50 [])] [(1954, [])] [sI 1, sI 2, sI 8, .ar 1954 false 52 zA9] []) ([exO (.exit 0) 53 [] [(1954, [])] [.ar 1954 false 52 zA9] []]) insEv_l0,
 .mk 4 (shO 53 [(0, .c (.mfull 1954)), (3, .fn 50 [])] [(1954, [])] [sI 1, sI 2, sI 8, sI 9, .ar 1954 false 52 zA9] []) ([exO (.exit 2) 53 [(0, .c (.mfull 1954)), (3, .fn 50 [])] [(1954, [])] [sI 1, sI 2, sI 8, .ar 1954 false 52 zA9] []]) insEv_l1]
theorem insEv_oc : OCR Tryz.prog 94 52 zA9 [(false, .ty false (.int .i64)), (false, .ty false (.int .i64)), (false, .fn 50 .nil)] insEv := OCR.lp en_cloneEv 1024 Tryz.func94 insEv_L (by kernel_rfl) ⟨fun _ => by kernel_rfl, fun _ => by kernel_rfl, trivial⟩ (fun _ _ => by kernel_rfl)
noncomputable def cx_insEv : Ctx := ocxR cx_cloneEv insEv_oc
theorem en_insEv : EnvFull Tryz.prog cx_insEv := ocnR en_cloneEv insEv_oc
noncomputable def stableEv_l0 : (Int × zT4) → Br ((Int × zT4) ⊕ zT4) := fun (a, b, c, d, e, ()) =>
 (.cond (decide (d ≤ a))
 (.opt (insEv e (c, d, (), ())) fun f =>
 (.ret (.inl (a, b, d, IntKind.wrap .i64 (d + b), f, ()))))
 (.ret (.inr (a, b, c, e, ()))))
noncomputable def stableEv_w0 := iterO fun x => (stableEv_l0 x).run
noncomputable def stableEv_l2 : (Int × zT4) → Br ((Int × zT4) ⊕ zT4) := fun (a, b, c, d, e, ()) =>
 (.cond (decide (d ≤ a))
 (.no)
 (.ret (.inr (a, b, c, e, ()))))
noncomputable def stableEv_w2 := iterO fun x => (stableEv_l2 x).run
noncomputable def stableEv_l1 : (Int × (Int × ((List zA2) × Unit))) → Br ((Int × (Int × ((List zA2) × Unit))) ⊕ ((List zA2) × Unit)) := fun (a, b, c, ()) =>
 (.cond (decide (b < a))
 (.opt (stableEv_w2 (a, b, 0, IntKind.wrap .i64 (2 * b), c, ())) fun d =>
 (.cond (decide (IntKind.wrap .i64 (d.2.2.1 + d.2.1) < d.1))
 (.no)
 (.ret (.inl (d.1, IntKind.wrap .i64 (d.2.1 * 2), d.2.2.2.1, ())))))
 (.ret (.inr (c, ()))))
noncomputable def stableEv_w1 := iterO fun x => (stableEv_l1 x).run
noncomputable def stableEv_B : (List zA2) → (Int × (Unit × Unit)) → Br (List zA2) := fun p0 (p1, p2, ()) =>
 (.opt (stableEv_w0 (p1, 20, 0, 20, p0, ())) fun a =>
 (.opt (insEv a.2.2.2.1 (a.2.2.1, a.1, (), ())) fun b =>
 (.opt (stableEv_w1 (a.1, a.2.1, b, ())) fun c =>
 (.ret c.1))))
noncomputable def stableEv : (List zA2) → (Int × (Unit × Unit)) → Option (List zA2) := fun x y => (stableEv_B x y).run
noncomputable def stableEv_L : List Lp := [
 .mk 2 (shO 63 [(0, .c (.mfull 1954)), (2, .fn 50 [])] [(1954, [])] [sI 1, sI 6, sI 7, sI 8, .ar 1954 false 52 zA9] []) ([exO (.exit 0) 63 [(0, .c (.mfull 1954)), (2, .fn 50 [])] [(1954, [])] [sI 1, sI 6, sI 7, .ar 1954 false 52 zA9] []]) stableEv_l0,
 .mk 7 (shO 63 [(0, .c (.mfull 1954)), (2, .fn 50 [])] [(1954, [])] [sI 1, sI 6, .ar 1954 false 52 zA9] []) ([exO (.exit 2) 63 [] [(1954, [])] [.ar 1954 false 52 zA9] []]) stableEv_l1,
 .mk 9 (shO 63 [(0, .c (.mfull 1954)), (2, .fn 50 [])] [(1954, [])] [sI 1, sI 6, sI 7, sI 8, .ar 1954 false 52 zA9] []) ([exO (.exit 4) 63 [(0, .c (.mfull 1954)), (2, .fn 50 [])] [(1954, [])] [sI 1, sI 6, sI 7, .ar 1954 false 52 zA9] []]) stableEv_l2]
theorem stableEv_oc : OCR Tryz.prog 74 52 zA9 [(false, .ty false (.int .i64)), (false, .fn 50 .nil)] stableEv := OCR.lp en_insEv 1024 Tryz.func74 stableEv_L (by kernel_rfl) ⟨fun _ => by kernel_rfl, fun _ => by kernel_rfl, fun _ => by kernel_rfl, trivial⟩ (fun _ _ => by kernel_rfl)
noncomputable def cx_stableEv : Ctx := ocxR cx_insEv stableEv_oc
theorem en_stableEv : EnvFull Tryz.prog cx_stableEv := ocnR en_insEv stableEv_oc
noncomputable def sortStEv_B : (List zA2) → (Unit × Unit) → Br (List zA2) := fun p0 (p1, ()) =>
 (.opt (stableEv p0 ((↑(List.length p0) : Int), (), ())) fun y3 =>
 (.ret y3))
noncomputable def sortStEv : (List zA2) → (Unit × Unit) → Option (List zA2) := fun x y => (sortStEv_B x y).run
theorem sortStEv_oc : OCR Tryz.prog 49 52 zA9 [(false, .fn 50 .nil)] sortStEv := OCR.lp en_stableEv 1024 Tryz.func49 [] (by kernel_rfl) trivial (fun _ _ => by kernel_rfl)
noncomputable def cx_sortStEv : Ctx := ocxR cx_stableEv sortStEv_oc
theorem en_sortStEv : EnvFull Tryz.prog cx_sortStEv := ocnR en_stableEv sortStEv_oc
noncomputable def sortEv_B : ((List zA2) × Unit) → Br ((List zA2) × Unit) := fun (p0, ()) =>
 (.opt (cloneEv (p0, ())) fun y3 =>
 (.opt (sortStEv y3.1 ((), ())) fun y4 =>
 (.ret (y4, ()))))
noncomputable def sortEv := fun x => (sortEv_B x).run
theorem sortEv_oc : OC Tryz.prog 28 [(false, .ty false (.sl zA9))] [.ty false (.sl zA9)] sortEv := OC.lp en_sortStEv 1024 Tryz.func28 [] (by kernel_rfl) trivial (fun _ => by kernel_rfl)
noncomputable def cx_sortEv : Ctx := ocx cx_sortStEv sortEv_oc
theorem en_sortEv : EnvFull Tryz.prog cx_sortEv := ocn en_sortStEv sortEv_oc
end Go.Proofs.YtiblijkhpmemeaaGreat

namespace Go.Proofs.YtiblijkhpmemeaaGreat
set_option maxRecDepth 100000
open Go.PI Go
noncomputable def nanI_B : (Int × Unit) → Br (Bool × Unit) := fun (p0, ()) =>
 (.ret (p0 != p0, ()))
noncomputable def nanI := fun x => (nanI_B x).run
theorem nanI_oc : OC Tryz.prog 87 [(false, .ty false (.int .i64))] [.ty false .bool] nanI := OC.lp en_sortEv 1024 Tryz.func87 [] (by kernel_rfl) trivial (fun _ => by kernel_rfl)
noncomputable def cx_nanI : Ctx := ocx cx_sortEv nanI_oc
theorem en_nanI : EnvFull Tryz.prog cx_nanI := ocn en_sortEv nanI_oc
noncomputable def nanL_B : (Int × Unit) → Br (Bool × Unit) := fun (p0, ()) =>
 (.ret (p0 != p0, ()))
noncomputable def nanL := fun x => (nanL_B x).run
theorem nanL_oc : OC Tryz.prog 88 [(false, .ty false (.int .i64))] [.ty false .bool] nanL := OC.lp en_nanI 1024 Tryz.func88 [] (by kernel_rfl) trivial (fun _ => by kernel_rfl)
noncomputable def cx_nanL : Ctx := ocx cx_nanI nanL_oc
theorem en_nanL : EnvFull Tryz.prog cx_nanL := ocn en_nanI nanL_oc
noncomputable def cmpI_B : (Int × (Int × Unit)) → Br (Int × Unit) := fun (p0, p1, ()) =>
 (.opt (nanI (p0, ())) fun y4 =>
 (.opt (nanI (p1, ())) fun y5 =>
 (.cond y4.1
 (.cond y5.1
 (.ret (0, ()))
 (.ret (-1, ())))
 (.cond y5.1
 (.ret (1, ()))
 (.cond (decide (p0 < p1))
 (.ret (-1, ()))
 (.cond (decide (p0 > p1))
 (.ret (1, ()))
 (.ret (0, ()))))))))
noncomputable def cmpI := fun x => (cmpI_B x).run
theorem cmpI_oc : OC Tryz.prog 59 [(false, .ty false (.int .i64)), (false, .ty false (.int .i64))] [.ty false (.int .i64)] cmpI := OC.lp en_nanL 1024 Tryz.func59 [] (by kernel_rfl) trivial (fun _ => by kernel_rfl)
noncomputable def cx_cmpI : Ctx := ocx cx_nanL cmpI_oc
theorem en_cmpI : EnvFull Tryz.prog cx_cmpI := ocn en_nanL cmpI_oc
noncomputable def cmpL_B : (Int × (Int × Unit)) → Br (Int × Unit) := fun (p0, p1, ()) =>
 (.opt (nanL (p0, ())) fun y4 =>
 (.opt (nanL (p1, ())) fun y5 =>
 (.cond y4.1
 (.cond y5.1
 (.ret (0, ()))
 (.ret (-1, ())))
 (.cond y5.1
 (.ret (1, ()))
 (.cond (decide (p0 < p1))
 (.ret (-1, ()))
 (.cond (decide (p0 > p1))
 (.ret (1, ()))
 (.ret (0, ()))))))))
noncomputable def cmpL := fun x => (cmpL_B x).run
theorem cmpL_oc : OC Tryz.prog 60 [(false, .ty false (.int .i64)), (false, .ty false (.int .i64))] [.ty false (.int .i64)] cmpL := OC.lp en_cmpI 1024 Tryz.func60 [] (by kernel_rfl) trivial (fun _ => by kernel_rfl)
noncomputable def cx_cmpL : Ctx := ocx cx_cmpI cmpL_oc
theorem en_cmpL : EnvFull Tryz.prog cx_cmpL := ocn en_cmpI cmpL_oc
noncomputable def cmpPr_B : ((Int × Int) × ((Int × Int) × Unit)) → Br (Int × Unit) := fun (p0, p1, ()) =>
 (.opt (cmpI (p0.1, p1.1, ())) fun y4 =>
 (.cond (y4.1 != 0)
 (.ret (y4.1, ()))
 (.opt (cmpL (p0.2, p1.2, ())) fun y5 =>
 (.ret (y5.1, ())))))
noncomputable def cmpPr := fun x => (cmpPr_B x).run
theorem cmpPr_oc : OC Tryz.prog 58 [(false, .ty false zA16), (false, .ty false zA16)] [.ty false (.int .i64)] cmpPr := OC.lp en_cmpL 1024 Tryz.func58 [] (by kernel_rfl) trivial (fun _ => by kernel_rfl)
noncomputable def cx_cmpPr : Ctx := ocx cx_cmpL cmpPr_oc
theorem en_cmpPr : EnvFull Tryz.prog cx_cmpPr := ocn en_cmpL cmpPr_oc
noncomputable def cmpFn_l0 : ((List (Int × Int)) × ((List (Int × Int)) × ((List (Int × Int)) × (Int × (Int × Unit))))) → Br (((List (Int × Int)) × ((List (Int × Int)) × ((List (Int × Int)) × (Int × (Int × Unit))))) ⊕ ((Int × Unit) ⊕ ((List (Int × Int)) × zA31))) := fun (a, b, c, d, e, ()) =>
 (.cond (decide (e < d))
 (.cond (decide (0 ≤ e) && decide (e < (↑(List.length c) : Int)))
 (.cond (decide (e ≥ (↑(List.length b) : Int)))
 (.ret (.inr (.inl (1, ()))))
 (.cond (decide (0 ≤ e) && decide (e < (↑(List.length b) : Int)))
 (.opt (cmpPr (List.getD c (Int.toNat e) (0, 0), List.getD b (Int.toNat e) (0, 0), ())) fun f =>
 (.cond (f.1 != 0)
 (.ret (.inr (.inl (f.1, ()))))
 (.ret (.inl (a, b, c, d, IntKind.wrap .i64 (e + 1), ())))))
 (.no)))
 (.no))
 (.ret (.inr (.inr (a, b, ())))))
noncomputable def cmpFn_w0 := iterO fun x => (cmpFn_l0 x).run
noncomputable def cmpFn_B : ((List (Int × Int)) × ((List (Int × Int)) × (Unit × Unit))) → Br (Int × Unit) := fun (p0, p1, p2, ()) =>
 (.opt (cmpFn_w0 (p0, p1, p0, (↑(List.length p0) : Int), 0, ())) fun a =>
 (.sum a (fun b =>
 (.ret (b.1, ()))) (fun c =>
 (.cond (decide ((↑(List.length c.1) : Int) < (↑(List.length c.2.1) : Int)))
 (.ret (-1, ()))
 (.ret (0, ()))))))
noncomputable def cmpFn := fun x => (cmpFn_B x).run
noncomputable def cmpFn_L : List Lp := [
 .mk 2 (shO 39 [(2, .fn 58 [])] [] [.slot 0 true (.sl zA16), .slot 1 true (.sl zA16), .slot 11 true (.sl zA16), sI 12, sI 13] []) ([exO .ret 39 [] [] [sI 6] [], exO (.exit 0) 39 [] [] [.slot 0 true (.sl zA16), .slot 1 true (.sl zA16)] []]) cmpFn_l0]
theorem cmpFn_oc : OC Tryz.prog 57 [(false, .ty true (.sl zA16)), (false, .ty true (.sl zA16)), (false, .fn 58 .nil)] [.ty false (.int .i64)] cmpFn := OC.lp en_cmpPr 1024 Tryz.func57 cmpFn_L (by kernel_rfl) ⟨fun _ => by kernel_rfl, trivial⟩ (fun _ => by kernel_rfl)
noncomputable def cx_cmpFn : Ctx := ocx cx_cmpPr cmpFn_oc
theorem en_cmpFn : EnvFull Tryz.prog cx_cmpFn := ocn en_cmpPr cmpFn_oc
noncomputable def cmpPs_B : ((List (Int × Int)) × zA31) → Br (Int × Unit) := fun (p0, p1, ()) =>
 (.opt (cmpFn (p0, p1, (), ())) fun y3 =>
 (.ret (y3.1, ())))
noncomputable def cmpPs := fun x => (cmpPs_B x).run
theorem cmpPs_oc : OC Tryz.prog 31 [(false, .ty true (.sl zA16)), (false, .ty true (.sl zA16))] [.ty false (.int .i64)] cmpPs := OC.lp en_cmpFn 1024 Tryz.func31 [] (by kernel_rfl) trivial (fun _ => by kernel_rfl)
noncomputable def cx_cmpPs : Ctx := ocx cx_cmpFn cmpPs_oc
theorem en_cmpPs : EnvFull Tryz.prog cx_cmpPs := ocn en_cmpFn cmpPs_oc
end Go.Proofs.YtiblijkhpmemeaaGreat
