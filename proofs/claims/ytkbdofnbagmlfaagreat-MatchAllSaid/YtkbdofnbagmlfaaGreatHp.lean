/- slices.SortFunc at elements of one cell, at whatever length: as a function that puts a row in another order, in place. Contracts of functions. Printed by auto.py. slices.SortFunc of lists of pairs, at whatever length. -/
import Derived.Test.YtkbdofnbagmlfaaGreatGe
import Derived.Shelf.SlSortCmp.NoneTotal
import Derived.Test.YtkbdofnbagmlfaaGreatHg
import Derived.Test.YtkbdofnbagmlfaaGreatHa
import Derived.Shelf.SlGeneric
import Derived.Shelf.SlLaysF
import Derived.Ground.SlsfProg
import Derived.Test.YtkbdofnbagmlfaaGreatHj
import Derived.Test.YtkbdofnbagmlfaaGreatHo
namespace Go.PI
open Go.RowKit Go.Sort Go.Proofs Go.Shelf
variable {P : Program}
theorem Zck {α : Type} [Inhabited α] (enc : α -> Value) (w : World) (blk off m : Nat) (dk : Array α) (os : Array Obj) :
  (sortWorld enc w blk off m dk os).heap = w.heap.modify blk (onCells (putCells enc off dk)) ++ os := rfl
theorem Zdy {α : Type} [Inhabited α] {enc : α -> Value} {w : World} {blk off m : Nat} {dk : Array α} {os : Array Obj} {b : Nat} (hb : b < w.heap.size) (hne : b ≠ blk) :
  (sortWorld enc w blk off m dk os).heap[b]? = w.heap[b]? := by
 rw [Zck, Array.getElem?_append_left (by simpa using hb), Array.getElem?_modify, if_neg (fun e => hne e.symm)]
theorem ZnX {α : Type} [Inhabited α] {enc : α -> Value} {w : World} {blk off m : Nat} {dk : Array α} {os : Array Obj} {cur : Array Value} {e : Nat} {fr : Nat × Nat} (h : w.heap[blk]? = some (.cells cur e fr)) :
  (sortWorld enc w blk off m dk os).heap[blk]? = some (.cells (putCells enc off dk cur) e fr) := by
 have hb : blk < w.heap.size := (Array.getElem?_eq_some_iff.1 h).1
 rw [Zck, Array.getElem?_append_left (by simpa using hb), Array.getElem?_modify, if_pos rfl, h]
 rfl
theorem grow_of {W w' : World} (h1 : w'.os = W.os) (h2 : @TP DR.strict W w') (h3 : w'.output = W.output) (h4 : W.heap.size <= w'.heap.size) (h5 : ∀ b, b < W.heap.size -> w'.heap[b]? = W.heap[b]?) :
  ∃ q os', w' = grow (W.drewN q) os' := by
 refine ⟨w'.drawn - W.drawn, w'.heap.extract W.heap.size w'.heap.size, ?_⟩
 obtain ⟨hp, tp, dr, oo, ou⟩ := w'
 obtain ⟨hp0, tp0, dr0, oo0, ou0⟩ := W
 obtain ⟨h2, h2'⟩ := h2
 have h2' := h2' rfl
 simp only at h1 h2 h2' h3 h4 h5
 subst h1 h2 h3
 unfold grow World.drewN
 simp only [World.mk.injEq, and_true, true_and]
 refine ⟨?_, by omega⟩
 apply Array.ext_getElem?
 intro i
 rcases Nat.lt_or_ge i hp0.size with h | h
 ·rw [Array.getElem?_append_left h, h5 i h]
 ·rw [Array.getElem?_append_right h, Array.getElem?_extract]
  split
  ·congr 1; omega
  ·rw [Array.getElem?_eq_none (by omega)]
def insL {τ : Type} (c : τ -> τ -> Int) (x : τ) : List τ -> List τ
 | [] => [x]
 | y :: l => bif decide (c y x < 0) then y :: insL c x l else x :: y :: l
def sorted {τ : Type} (c : τ -> τ -> Int) (xs : List τ) : List τ := xs.foldr (insL c) []
theorem ZhB {τ : Type} (c : τ -> τ -> Int) (x : τ) : ∀ l : List τ, (insL c x l).Perm (x :: l)
 | [] => .refl _
 | y :: l => by
  unfold insL
  cases decide (c y x < 0) with
  | false => exact .refl _
  | true => exact ((ZhB c x l).cons y).trans (.swap ..)
theorem Zgh {τ : Type} (c : τ -> τ -> Int) : ∀ xs : List τ, (sorted c xs).Perm xs
 | [] => .refl _
 | x :: l => (ZhB c x _).trans ((Zgh c l).cons x)
theorem ZnY {τ : Type} (c : τ -> τ -> Int) (xs : List τ) : (sorted c xs).length = xs.length := (Zgh c xs).length_eq
theorem ZiR {τ : Type} {c : τ -> τ -> Int} (hO : SWO (ltOf c)) (x : τ) : ∀ l : List τ, l.Pairwise (fun a b => ltOf c b a = false) -> (insL c x l).Pairwise fun a b => ltOf c b a = false
 | [], _ => List.pairwise_singleton _ _
 | y :: l, h => by
  rw [List.pairwise_cons] at h
  unfold insL
  cases e : decide (c y x < 0) with
  | false =>
   refine List.pairwise_cons.2 ⟨fun z hz => ?_, List.pairwise_cons.2 h⟩
   rcases List.mem_cons.1 hz with rfl | hz
   ·exact e
   ·exact hO.ntrans _ _ _ (h.1 z hz) e
  | true =>
   refine List.pairwise_cons.2 ⟨fun z hz => ?_, ZiR hO x l h.2⟩
   rcases List.mem_cons.1 ((ZhB c x l).mem_iff.1 hz) with rfl | hz
   ·cases e2 : ltOf c z y with
    | false => rfl
    | true =>
     have := hO.trans _ _ _ e2 e
     rw [hO.irrefl] at this
     cases this
   ·exact h.1 z hz
theorem Zhu {τ : Type} {c : τ -> τ -> Int} (hO : SWO (ltOf c)) : ∀ xs : List τ, (sorted c xs).Pairwise fun a b => ltOf c b a = false
 | [] => .nil
 | x :: l => ZiR hO x _ (Zhu hO l)
theorem Zjk {τ : Type} {c : τ -> τ -> Int} (hO : SWO (ltOf c)) (hT : ∀ x y, ltOf c x y = false -> ltOf c y x = false -> x = y) {xs ys : List τ} (hp : ys.Perm xs) (hs : ys.Pairwise fun a b => ltOf c b a = false) : ys = sorted c xs :=
 List.Perm.eq_of_pairwise (le := fun a b => ltOf c b a = false) (fun a b _ _ q1 q2 => hT a b q2 q1) hs (Zhu hO xs) (hp.trans (Zgh c xs).symm)
theorem Zu4 {α β : Type} [Inhabited α] (f : α -> β) (c : β -> β -> Int) (hO : SWO (ltOf c)) (hT : ∀ x y, ltOf c x y = false -> ltOf c y x = false -> x = y) {d d' : Array α}
  (hp : PermIn 0 d.size d d') (hs : SortedIn (ltOf fun x y => c (f x) (f y)) 0 d.size d') : d'.toList.map f = sorted c (d.toList.map f) := by
 obtain ⟨h1, -, h2⟩ := hp
 have e1 : d'.extract 0 d.size = d' := by rw [<- h1]; exact Array.extract_size
 rw [e1, Array.extract_size] at h2
 refine Zjk hO hT (h2.map f) ?_
 rw [List.pairwise_map, List.pairwise_iff_getElem]
 intro i j hi hj hij
 have := hs i j (Nat.zero_le _) hij (by simpa [h1] using hj)
 rw [getElem!_pos _ i (by simpa using hi), getElem!_pos _ j (by simpa using hj)] at this
 exact this
def Borne (τ : Ty) (x : τ.T) : Prop := ∃ J w cs, K J w τ x cs
theorem OCR.sortFunc [DR] {ρ : Ren} (L : SlLaysF.n6 P ρ) {g e : Nat} {τ : Ty} {b1 b2 : Bool} {F : PArgs [(false, .ty b1 τ), (false, .ty b2 τ)] -> Option (Int × Unit)}
  (hg : @OC DR.strict P g [(false, .ty b1 τ), (false, .ty b2 τ)] [.ty false (.int .i64)] F) (hsz : τ.sz = 1) (ha : τ.isAgg = false) (h1c : ∀ (J : Nat -> Prop) (w : World) (x : τ.T) (v : Value), K J w τ x [v] -> v.oneCell' = true)
  (c : τ.T -> τ.T -> Int) (hc : ∀ x y, Borne τ x -> Borne τ y -> F (x, y, ()) = some (c x y, ())) (hO : SWO (ltOf c)) (hT : ∀ x y, ltOf c x y = false -> ltOf c y x = false -> x = y) {f : Nat} (hf : ρ.f 6 = f)
  (hfn : ∃ fn, P.funcs[f]? = some fn /\ (fn.name == "runtime.NumGoroutine") = false /\ fn.body.isNone = false) : OCR P f e τ [(false, .fn g .nil)] fun xs _ => bif decide (xs.length < 4611686018427387904) then some (sorted c xs) else none := by
 subst hf
 refine ⟨hfn, fun w J hJ hlt xs xr v vr B hx hxr hBJ ys hy => ?_⟩
 have hy : (bif decide (xs.length < 4611686018427387904) then some (sorted c xs) else none) = some ys := hy
 have h62 : xs.length < 4611686018427387904 := Decidable.byContradiction fun h => by rw [decide_eq_false h] at hy; cases hy
 rw [decide_eq_true h62] at hy
 obtain rfl := Option.some.inj hy
 obtain ⟨vf, l, B1, B2, rfl, hB12, ⟨cs, rfl, hcs, -⟩, hl, -⟩ := hxr
 subst hl hcs
 obtain ⟨A, cap, hv, hlc, hcM, hA⟩ := hx
 obtain rfl : v = .slice A xs.length cap := by simpa using hv
 by_cases hx0 : xs = []
 ·subst hx0
  refine (AnyF.slices_SortFunc_none (P := P) (ρ := ρ) { L with } A cap (.func (.func g) #[] #[]) w).mono ?_
  rintro en w' ⟨rfl, rfl⟩
  refine ⟨_, J false, rfl, fun μ I sh => ⟨[], rfl, rfl, fun j c v h => by simp at h⟩, ⟨A, cap, by rw [show sorted c [] = [] from rfl], by rw [show sorted c [] = [] from rfl]; exact hlc, hcM, ?_⟩, fun _ h => h, fun b h => ⟨.inl h, hlt b (hJ b h)⟩, rfl, TP.refl _, rfl, Nat.le_refl _, fun _ _ _ => rfl⟩
  rw [show sorted c [] = [] from rfl]
  exact hA
 ·rcases hA with ⟨-, h0, -⟩ | ⟨b, cur, rfl, rfl, hh, hcs, hrow⟩
  ·have : xs.length = 0 := by omega
   exact absurd (List.eq_nil_of_length_eq_zero this) hx0
  ·rw [hsz, Nat.mul_one] at hcs hrow
   have hb : b < w.heap.size := (Array.getElem?_eq_some_iff.1 hh).1
   have hnb : ∀ b', J false b' -> b' ≠ b := fun b' h e => hBJ b (List.mem_singleton.2 rfl) (e ▸ hJ _ h)
   have hK : ∀ i (hi : i < xs.length), K (J false) w τ (xs[i]) [cur[i]'(by omega)] := by
    intro i hi
    have := hrow.2 i _ (List.getElem?_eq_getElem hi)
    unfold piece at this
    rw [Nat.mul_one] at this
    rwa [show ((cur.toList.take xs.length).drop i).take 1 = [cur[i]'(by omega)] from by
     rw [List.take_one, List.head?_drop, List.getElem?_take_of_lt hi]
     simp [show i < cur.size by omega]] at this
   have hlen : 0 < xs.length := List.length_pos_iff.2 hx0
   let α : Type := { p : Value × τ.T // K (J false) w τ p.2 [p.1] }
   letI : Inhabited α := ⟨⟨(cur[0]'(by omega), xs[0]), hK 0 hlen⟩⟩
   let enc : α -> Value := fun x => x.1.1
   let d : Array α := Array.ofFn (n := xs.length) fun i => ⟨(cur[i.1]'(by omega), xs[i.1]), hK i.1 i.2⟩
   have hd : d.size = xs.length := Array.size_ofFn
   have hdx : d.toList.map (fun x : α => x.1.2) = xs := by
    apply List.ext_getElem
    ·simp [hd]
    ·intro i h1 h2
     simp [d]
   have h1 : OneCell enc := fun x => h1c _ _ _ _ x.2
   have hH : Holds enc w b 0 d := by
    intro j hj
    rw [hd] at hj
    rw [getElem!_pos d j (by rw [hd]; exact hj)]
    refine ⟨?_, ?_⟩
    ·simp [World.cell?, hh, d, enc, show j < cur.size by omega]
    ·simp [World.frozen?, hh]
   have hcmp : CmpLays1 P g #[] enc (fun x y => c x.1.2 y.1.2) b 0 d.size w := by
    intro m os dk hdk x y
    have hst : Za3 (J false) w (sortWorld enc w b 0 m dk os) := fun b' h' => Zdy (hlt b' (hJ b' h')) (hnb b' h')
    have hle : w.heap.size <= (sortWorld enc w b 0 m dk os).heap.size := by rw [Zck]; simp
    have hV : ∀ z : α, VK (J false) (sortWorld enc w b 0 m dk os) τ z.1.2 (enc z) := fun z => ⟨fun h => (by rw [ha] at h; cases h), fun _ => z.2.mono (fun _ h => h) hst⟩
    have hPA : PAK (fun _ => J false) (sortWorld enc w b 0 m dk os) [(false, .ty b1 τ), (false, .ty b2 τ)] (x.1.2, y.1.2, ()) [enc x, enc y] [] :=
     ⟨enc x, [enc y], [], [], rfl, rfl, ⟨rfl, hV x⟩, enc y, [], [], [], rfl, rfl, ⟨rfl, hV y⟩, rfl, rfl⟩
    refine (@OC.ok DR.strict _ _ _ _ _ hg (sortWorld enc w b 0 m dk os) (fun _ => J false) (fun _ h => h) (fun b' h' => Nat.lt_of_lt_of_le (hlt b' (hJ b' h')) hle) (x.1.2, y.1.2, ()) [enc x, enc y] [] hPA
     List.nodup_nil (fun b' h' => by simp at h') (c x.1.2 y.1.2, ()) (hc _ _ ⟨_, _, _, x.2⟩ ⟨_, _, _, y.2⟩)).mono ?_
    rintro en w' ⟨u, J', B1, B2, rfl, hu, -, -, -, -, -, k1, k2, k3, k4, k5⟩
    refine ⟨?_, grow_of k1 k2 k3 k4 fun b' h' => k5 b' h' (by simp)⟩
    have : K J' w' (.int .i64) (c x.1.2 y.1.2) [u] := hu.2.2 rfl
    have := this.1
    simp only [List.cons.injEq, and_true] at this
    rw [this]
   have heg : ∀ args w, (callFunc g args).run P w = .ok (.enter g args) w := by
    obtain ⟨fn, e1, e2, e3⟩ := @OC.fn DR.strict _ _ _ _ _ hg
    obtain ⟨code, e4⟩ := Option.isSome_iff_exists.1 (by rw [<- Option.not_isNone, e3]; rfl : fn.body.isSome = true)
    exact enters_of e1 e2 e4
   have hcon := Any.slices_SortFunc L enc h1 (fun x y : α => c x.1.2 y.1.2) ⟨fun x => hO.irrefl _, fun x y z => hO.trans _ _ _, fun x y z => hO.ntrans _ _ _⟩ g #[] b 0 cap d w heg hcmp hH hb (by rw [hd]; exact h62)
   rw [hd] at hcon
   refine hcon.mono ?_
   rintro en w' ⟨rfl, d', n, os, hp, hs, rfl⟩
   rw [<- hd] at hp hs
   have hys := Zu4 (fun x : α => x.1.2) c hO hT hp hs
   rw [hdx] at hys
   have hd' : d'.size = xs.length := hp.1.trans hd
   have hst : Za3 (J false) w (sortWorld enc w b 0 n d' os) := fun b' h' => Zdy (hlt b' (hJ b' h')) (hnb b' h')
   have hyl : (sorted c xs).length = xs.length := ZnY c xs
   refine ⟨_, J false, rfl, fun μ I sh => ⟨[], rfl, rfl, fun j c v h => by simp at h⟩, ⟨_, cap, by rw [hyl], by rw [hyl]; exact hlc, hcM, .inr ⟨b, _, rfl, rfl, ZnX hh, by simp [putCells, hcs, hsz], ?_⟩⟩, fun _ h => h, fun b' h' => ⟨.inl h', Nat.lt_of_lt_of_le (hlt b' (hJ b' h')) (by rw [Zck]; simp)⟩, rfl, ⟨rfl, fun _ => Nat.le_add_right _ _⟩, rfl, by rw [Zck]; simp, fun b' h' hn => Zdy h' (by simpa using hn)⟩
   rw [hsz, Nat.mul_one, hyl]
   refine ⟨by simp [putCells, hyl, hsz]; omega, fun i x hi => ?_⟩
   have hin : i < xs.length := by rw [<- hyl]; exact (List.getElem?_eq_some_iff.1 hi).1
   have hxi : x = (d'[i]!).1.2 := by
    rw [<- hys, List.getElem?_map, Array.getElem?_toList, Array.getElem?_eq_getElem (by omega)] at hi
    rw [getElem!_pos d' i (by omega)]
    exact (Option.some.inj hi).symm
   have hcell : piece 1 ((putCells enc 0 d' cur).toList.take xs.length) i = [enc d'[i]!] := by
    unfold piece
    rw [Nat.mul_one, List.take_one, List.head?_drop, List.getElem?_take_of_lt hin]
    simp [putCells, show i < cur.size by omega, show i < d'.size by omega]
   rw [hcell, hxi]
   exact (d'[i]!).2.mono (fun _ h => h) hst
end Go.PI

namespace Go.Proofs.YtkbdofnbagmlfaaGreat
set_option maxRecDepth 100000
open Go.PI Go
noncomputable section
attribute [local instance] DR.strict
theorem enD : EnvFull Tryz.prog cx0 := env_E (Zsq (by kernel_rfl) tbAOk) (by kernel_rfl)
def nanI_B : (Int × Unit) -> Br (Bool × Unit) := fun (p0, ()) =>
 (.ret (p0 != p0, ()))
def nanI := fun x => (nanI_B x).run
theorem Zsm : OC Tryz.prog 113 [(false, .ty false (.int .i64))] [.ty false .bool] nanI := OC.lp enD 1024 Tryz.func113 [] (by kernel_rfl) trivial (fun _ => by kernel_rfl)
def cx_nanI : Ctx := ocx cx0 Zsm
theorem ZrO : EnvFull Tryz.prog cx_nanI := ocn enD Zsm
def nanL_B : (Int × Unit) -> Br (Bool × Unit) := fun (p0, ()) =>
 (.ret (p0 != p0, ()))
def nanL := fun x => (nanL_B x).run
theorem Zsh : OC Tryz.prog 114 [(false, .ty false (.int .i64))] [.ty false .bool] nanL := OC.lp ZrO 1024 Tryz.func114 [] (by kernel_rfl) trivial (fun _ => by kernel_rfl)
def cx_nanL : Ctx := ocx cx_nanI Zsh
theorem Zsf : EnvFull Tryz.prog cx_nanL := ocn ZrO Zsh
def cmpI_B : (Int × (Int × Unit)) -> Br (Int × Unit) := fun (p0, p1, ()) =>
 (.opt (nanI (p0, ())) fun y4 =>
 (.opt (nanI (p1, ())) fun y5 =>
 (.cond y4.1
 (.cond y5.1
 (.ret (0, ()))
 (.ret (-1, ())))
 (.cond y5.1
 (.ret (1, ()))
 (.cond (decide (p0 < p1))
 (.ret (-1, ()))
 (.cond (decide (p0 > p1))
 (.ret (1, ()))
 (.ret (0, ()))))))))
def cmpI := fun x => (cmpI_B x).run
theorem Zsa : OC Tryz.prog 77 [(false, .ty false (.int .i64)), (false, .ty false (.int .i64))] [.ty false (.int .i64)] cmpI := OC.lp Zsf 1024 Tryz.func77 [] (by kernel_rfl) trivial (fun _ => by kernel_rfl)
def cx_cmpI : Ctx := ocx cx_nanL Zsa
theorem Zrs : EnvFull Tryz.prog cx_cmpI := ocn Zsf Zsa
def cmpL_B : (Int × (Int × Unit)) -> Br (Int × Unit) := fun (p0, p1, ()) =>
 (.opt (nanL (p0, ())) fun y4 =>
 (.opt (nanL (p1, ())) fun y5 =>
 (.cond y4.1
 (.cond y5.1
 (.ret (0, ()))
 (.ret (-1, ())))
 (.cond y5.1
 (.ret (1, ()))
 (.cond (decide (p0 < p1))
 (.ret (-1, ()))
 (.cond (decide (p0 > p1))
 (.ret (1, ()))
 (.ret (0, ()))))))))
def cmpL := fun x => (cmpL_B x).run
theorem ZrW : OC Tryz.prog 78 [(false, .ty false (.int .i64)), (false, .ty false (.int .i64))] [.ty false (.int .i64)] cmpL := OC.lp Zrs 1024 Tryz.func78 [] (by kernel_rfl) trivial (fun _ => by kernel_rfl)
def cx_cmpL : Ctx := ocx cx_cmpI ZrW
theorem ZsI : EnvFull Tryz.prog cx_cmpL := ocn Zrs ZrW
def ZrJ : ((Int × Int) × ((Int × Int) × Unit)) -> Br (Int × Unit) := fun (p0, p1, ()) =>
 (.opt (cmpI (p0.1, p1.1, ())) fun y4 =>
 (.cond (y4.1 != 0)
 (.ret (y4.1, ()))
 (.opt (cmpL (p0.2, p1.2, ())) fun y5 =>
 (.ret (y5.1, ())))))
def cmpPr := fun x => (ZrJ x).run
theorem Zqq : OC Tryz.prog 76 [(false, .ty false Zad), (false, .ty false Zad)] [.ty false (.int .i64)] cmpPr := OC.lp ZsI 1024 Tryz.func76 [] (by kernel_rfl) trivial (fun _ => by kernel_rfl)
def cx_cmpPr : Ctx := ocx cx_cmpL Zqq
theorem Zp9 : EnvFull Tryz.prog cx_cmpPr := ocn ZsI Zqq
def Zgx : ((List (Int × Int)) × ((List (Int × Int)) × ((List (Int × Int)) × (Int × (Int × Unit))))) -> Br (((List (Int × Int)) × ((List (Int × Int)) × ((List (Int × Int)) × (Int × (Int × Unit))))) ⊕ ((Int × Unit) ⊕ ((List (Int × Int)) × zA31))) := fun (a, b, c, d, e, ()) =>
 (.cond (decide (e < d))
 (.cond (decide (0 <= e) && decide (e < (c.length : Int)))
 (.cond (decide (e >= (b.length : Int)))
 (.ret (.inr (.inl (1, ()))))
 (.cond (decide (0 <= e) && decide (e < (b.length : Int)))
 (.opt (cmpPr (c.getD e.toNat (0, 0), b.getD e.toNat (0, 0), ())) fun f =>
 (.cond (f.1 != 0)
 (.ret (.inr (.inl (f.1, ()))))
 (.ret (.inl (a, b, c, d, IntKind.wrap .i64 (e + 1), ())))))
 (.no)))
 (.no))
 (.ret (.inr (.inr (a, b, ())))))
def cmpFn_w0 := Zag fun x => (Zgx x).run
def ZrE : ((List (Int × Int)) × ((List (Int × Int)) × (Unit × Unit))) -> Br (Int × Unit) := fun (p0, p1, p2, ()) =>
 (.opt (cmpFn_w0 (p0, p1, p0, (p0.length : Int), 0, ())) fun a =>
 (.sum a (fun b =>
 (.ret (b.1, ()))) (fun c =>
 (.cond (decide ((c.1.length : Int) < (c.2.1.length : Int)))
 (.ret (-1, ()))
 (.ret (0, ()))))))
def cmpFn := fun x => (ZrE x).run
def cmpFn_L : List Lp := [
 .mk 2 (shO 39 [(2, .fn 76 [])] [] [.slot 0 true (.sl Zad), .slot 1 true (.sl Zad), .slot 11 true (.sl Zad), sI 12, sI 13] []) ([exO .ret 39 [] [] [sI 6] [], exO (.exit 0) 39 [] [] [.slot 0 true (.sl Zad), .slot 1 true (.sl Zad)] []]) Zgx]
theorem Zpj : OC Tryz.prog 75 [(false, .ty true (.sl Zad)), (false, .ty true (.sl Zad)), (false, .fn 76 .nil)] [.ty false (.int .i64)] cmpFn := OC.lp Zp9 1024 Tryz.func75 cmpFn_L (by kernel_rfl) ⟨fun _ => by kernel_rfl, trivial⟩ (fun _ => by kernel_rfl)
def cx_cmpFn : Ctx := ocx cx_cmpPr Zpj
theorem en_cmpFn : EnvFull Tryz.prog cx_cmpFn := ocn Zp9 Zpj
def Zrp : ((List (Int × Int)) × zA31) -> Br (Int × Unit) := fun (p0, p1, ()) =>
 (.opt (cmpFn (p0, p1, (), ())) fun y3 =>
 (.ret (y3.1, ())))
def cmpPs := fun x => (Zrp x).run
theorem cmpPs_oc : OC Tryz.prog 40 [(false, .ty true (.sl Zad)), (false, .ty true (.sl Zad))] [.ty false (.int .i64)] cmpPs := OC.lp en_cmpFn 1024 Tryz.func40 [] (by kernel_rfl) trivial (fun _ => by kernel_rfl)
end
end Go.Proofs.YtkbdofnbagmlfaaGreat

namespace Go.Proofs.YtkbdofnbagmlfaaGreat
open Go.PI Go Go.Shelf
def Tryz.sortL_ren : Go.Shelf.Ren := ⟨fun | 6 => 39 | 15 => 74 | 14 => 73 | 28 => 111 | 29 => 112 | 20 => 103 | 21 => 104 | 22 => 105 | 23 => 106 | 24 => 107 | 25 => 108 | 26 => 109 | 27 => 110 | 46 => 129 | 47 => 130 | 48 => 131 | 49 => 132 | 50 => 133 | 57 => 141 | n => n, fun | 22 => 35 | 24 => 49 | 25 => 103 | 3 => 3 | 39 => 53 | 0 => 0 | 53 => 184 | 55 => 186 | 4 => 4 | 46 => 177 | 45 => 176 | 50 => 181 | 5 => 5 | 9 => 9 | 66 => 206 | 70 => 210 | 76 => 220 | 77 => 221 | n => n, fun | n => n⟩
theorem Tryz.sortL : Go.Proofs.SlLaysF.n6 Tryz.prog Tryz.sortL_ren := {
 mixed := by kernel_rfl
 f6 := ⟨Tryz.f39.name, by decide, Tryz.func39.trans (congrArg some (by kernel_rfl))⟩
 f14 := ⟨Tryz.f73.name, by decide, Tryz.func73.trans (congrArg some (by kernel_rfl))⟩
 f15 := Tryz.func74.trans (congrArg some (by kernel_rfl))
 f20 := ⟨Tryz.f103.name, by decide, Tryz.func103.trans (congrArg some (by kernel_rfl))⟩
 f21 := ⟨Tryz.f104.name, by decide, Tryz.func104.trans (congrArg some (by kernel_rfl))⟩
 f22 := ⟨Tryz.f105.name, by decide, Tryz.func105.trans (congrArg some (by kernel_rfl))⟩
 f23 := ⟨Tryz.f106.name, by decide, Tryz.func106.trans (congrArg some (by kernel_rfl))⟩
 f24 := ⟨Tryz.f107.name, by decide, Tryz.func107.trans (congrArg some (by kernel_rfl))⟩
 f25 := ⟨Tryz.f108.name, by decide, Tryz.func108.trans (congrArg some (by kernel_rfl))⟩
 f26 := ⟨Tryz.f109.name, by decide, Tryz.func109.trans (congrArg some (by kernel_rfl))⟩
 f27 := ⟨Tryz.f110.name, by decide, Tryz.func110.trans (congrArg some (by kernel_rfl))⟩
 f28 := Tryz.func111.trans (congrArg some (by kernel_rfl))
 f29 := Tryz.func112.trans (congrArg some (by kernel_rfl))
 f46 := ⟨Tryz.f129.name, by decide, Tryz.func129.trans (congrArg some (by kernel_rfl))⟩
 f47 := Tryz.func130.trans (congrArg some (by kernel_rfl))
 f48 := Tryz.func131.trans (congrArg some (by kernel_rfl))
 f49 := ⟨Tryz.f132.name, by decide, Tryz.func132.trans (congrArg some (by kernel_rfl))⟩
 f50 := ⟨Tryz.f133.name, by decide, Tryz.func133.trans (congrArg some (by kernel_rfl))⟩
 f57 := ⟨Tryz.f141.name, by decide, Tryz.func141.trans (congrArg some (by kernel_rfl))⟩
 t0 := Tryz.underlying0
 a0 := Tryz.isAgg0
 z0 := Tryz.sizeOf0
 v0 := Tryz.zeroValue0
 t3 := Tryz.underlying3
 a3 := Tryz.isAgg3
 z3 := Tryz.sizeOf3
 v3 := Tryz.zeroValue3
 t4 := Tryz.underlying4
 a4 := Tryz.isAgg4
 z4 := Tryz.sizeOf4
 v4 := Tryz.zeroValue4
 t5 := Tryz.underlying5
 a5 := Tryz.isAgg5
 z5 := Tryz.sizeOf5
 v5 := Tryz.zeroValue5
 t9 := Tryz.underlying9
 a9 := Tryz.isAgg9
 z9 := Tryz.sizeOf9
 v9 := Tryz.zeroValue9
 t22 := Tryz.underlying35
 a22 := Tryz.isAgg35
 z22 := Tryz.sizeOf35
 v22 := Tryz.zeroValue35
 a24 := Tryz.isAgg49
 z24 := Tryz.sizeOf49
 t25 := Tryz.underlying103
 a25 := Tryz.isAgg103
 z25 := Tryz.sizeOf103
 v25 := Tryz.zeroValue103
 t39 := Tryz.underlying53
 a39 := Tryz.isAgg53
 z39 := Tryz.sizeOf53
 v39 := Tryz.zeroValue53
 t45 := Tryz.underlying176
 a45 := Tryz.isAgg176
 z45 := Tryz.sizeOf176
 v45 := Tryz.zeroValue176
 t46 := Tryz.underlying177
 a46 := Tryz.isAgg177
 z46 := Tryz.sizeOf177
 v46 := Tryz.zeroValue177
 t50 := Tryz.underlying181
 a50 := Tryz.isAgg181
 z50 := Tryz.sizeOf181
 v50 := Tryz.zeroValue181
 t53 := Tryz.underlying184
 a53 := Tryz.isAgg184
 z53 := Tryz.sizeOf184
 v53 := Tryz.zeroValue184
 t55 := Tryz.underlying186
 a55 := Tryz.isAgg186
 z55 := Tryz.sizeOf186
 v55 := Tryz.zeroValue186
 t66 := Tryz.underlying206
 a66 := Tryz.isAgg206
 z66 := Tryz.sizeOf206
 v66 := Tryz.zeroValue206
 t70 := Tryz.underlying210
 a70 := Tryz.isAgg210
 z70 := Tryz.sizeOf210
 v70 := Tryz.zeroValue210
 t76 := Tryz.underlying220
 a76 := Tryz.isAgg220
 z76 := Tryz.sizeOf220
 v76 := Tryz.zeroValue220
 t77 := Tryz.underlying221
 a77 := Tryz.isAgg221
 z77 := Tryz.sizeOf221
 v77 := Tryz.zeroValue221 }
def Zbj (x y : (Int × Int)) : Int := if x.1 < y.1 then -1 else if y.1 < x.1 then 1 else if x.2 < y.2 then -1 else if y.2 < x.2 then 1 else 0
def Zat : List (Int × Int) -> List (Int × Int) -> Int
 | [], [] => 0
 | [], _ :: _ => -1
 | _ :: _, [] => 1
 | x :: a, y :: b => if Zbj x y = 0 then Zat a b else Zbj x y
theorem Zir (x y : (Int × Int)) : Zbj x y = 0 ↔ x = y := by
 unfold Zbj
 constructor
 ·intro h
  refine Prod.ext ?_ ?_ <;> (split at h <;> try split at h) <;> (try split at h) <;> (try split at h) <;> omega
 ·rintro rfl
  simp
theorem Zu3 (x y : (Int × Int)) : Zbj y x = - Zbj x y := by
 unfold Zbj
 split <;> (try split) <;> (try split) <;> (try split) <;> (try split) <;> (try split) <;> (try split) <;> omega
theorem ZfK : ∀ a b, Zat b a = - Zat a b
 | [], [] => rfl
 | [], _ :: _ => rfl
 | _ :: _, [] => rfl
 | x :: a, y :: b => by
  have h := Zu3 x y
  simp only [Zat]
  by_cases c : Zbj x y = 0
  ·rw [if_pos c, if_pos (by omega)]
   exact ZfK a b
  ·rw [if_neg c, if_neg (by omega)]
   exact h
theorem ZlA : ∀ a b, Zat a b = 0 ↔ a = b
 | [], [] => by simp [Zat]
 | [], _ :: _ => by simp [Zat]
 | _ :: _, [] => by simp [Zat]
 | x :: a, y :: b => by
  have h := Zir x y
  simp only [Zat]
  by_cases c : Zbj x y = 0
  ·rw [if_pos c, ZlA a b]
   simp [h.1 c]
  ·rw [if_neg c]
   constructor
   ·intro e; exact absurd e c
   ·intro e; exact absurd (h.2 (List.cons.inj e).1) c
theorem nanI_at (x : Int) : nanI (x, ()) = some (false, ()) := by
 unfold nanI nanI_B
 simp [Br.run]
theorem nanL_at (x : Int) : nanL (x, ()) = some (false, ()) := by
 unfold nanL nanL_B
 simp [Br.run]
theorem cmpI_at (x y : Int) : cmpI (x, y, ()) = some (if x < y then -1 else if y < x then 1 else 0, ()) := by
 unfold cmpI cmpI_B
 simp only [Br.run, nanI_at, cond_false]
 by_cases h : x < y
 ·rw [if_pos h]; simp [h]
 ·by_cases h2 : y < x
  ·rw [if_neg h, if_pos h2]; simp [h, h2]
  ·rw [if_neg h, if_neg h2]; simp [h, h2]
theorem cmpL_at (x y : Int) : cmpL (x, y, ()) = some (if x < y then -1 else if y < x then 1 else 0, ()) := by
 unfold cmpL cmpL_B
 simp only [Br.run, nanL_at, cond_false]
 by_cases h : x < y
 ·rw [if_pos h]; simp [h]
 ·by_cases h2 : y < x
  ·rw [if_neg h, if_pos h2]; simp [h, h2]
  ·rw [if_neg h, if_neg h2]; simp [h, h2]
theorem cmpPr_at (x y : (Int × Int)) : cmpPr (x, y, ()) = some (Zbj x y, ()) := by
 unfold cmpPr ZrJ Zbj
 simp only [Br.run, cmpI_at, cmpL_at]
 by_cases h : x.1 < y.1
 ·simp [h]
 ·by_cases h2 : y.1 < x.1
  ·simp [h, h2]
  ·simp [h, h2]
theorem Zdq {α : Type} (m : List α) (i : Int) (d : α) (h0 : 0 <= i) (h1 : i < m.length) : m.drop i.toNat = m.getD i.toNat d :: m.drop (i + 1).toNat := by
 have hlt : i.toNat < m.length := by omega
 rw [Zaf _ _ _ hlt, show (i + 1).toNat = i.toNat + 1 by omega, List.drop_eq_getElem_cons hlt]
theorem cmpPs_at (a b : List (Int × Int)) (hb : a.length <= 9223372036854775807) : cmpPs (a, b, ()) = some (Zat a b, ()) := by
 obtain ⟨z, hz, h⟩ : ∃ z, cmpFn_w0 (a, b, a, (a.length : Int), 0, ()) = some z /\ ((∃ c, z = .inl (c, ()) /\ c = Zat a b) \/ (z = .inr (a, b, ()) /\ Zat a b = if (a.length : Int) < (b.length : Int) then -1 else 0)) := by
  refine Zaw (step := Zgx) (fun y => ∃ i : Int, y = (a, b, a, (a.length : Int), i, ()) /\ 0 <= i /\ i <= a.length /\ i <= b.length /\ Zat a b = Zat (a.drop i.toNat) (b.drop i.toNat)) (fun y => ((a.length : Int) - y.2.2.2.2.1).toNat) _ ?_ _ ⟨0, rfl, Int.le_refl _, by omega, by omega, rfl⟩
  rintro y ⟨i, rfl, g0, g1, g3, g2⟩
  unfold Zgx
  by_cases hi : i < (a.length : Int)
  ·have hw : IntKind.wrap .i64 (i + 1) = i + 1 := Go.PI.wrap_small (by omega) (by omega)
   rw [Zdq a i (0, 0) g0 hi] at g2
   refine BT.lt (decide_eq_true hi) (BT.yes (in2 g0 hi) (BT.cond (fun hc => BT.ends (.inl ⟨_, rfl, ?_⟩)) (fun hc => ?_)))
   ·have hc : i >= (b.length : Int) := of_decide_eq_true hc
    rw [g2, List.drop_eq_nil_of_le (show b.length <= i.toNat by omega)]
    rfl
   ·have hc : ¬ i >= (b.length : Int) := of_decide_eq_false hc
    rw [Zdq b i (0, 0) g0 (by omega)] at g2
    simp only [Zat] at g2
    refine BT.yes (in2 g0 (by omega)) (BT.opt ⟨_, cmpPr_at _ _, BT.cond (fun hn => BT.ends (.inl ⟨_, rfl, ?_⟩)) (fun hn => BT.goes ⟨⟨i + 1, by rw [hw], by omega, by omega, by omega, ?_⟩, ?_⟩)⟩)
    ·rw [g2, if_neg (by simpa using hn)]
    ·rw [g2, if_pos (by simpa using hn)]
    ·dsimp only
     rw [hw]
     omega
  ·refine BT.ge (decide_eq_false hi) (BT.ends (.inr ⟨rfl, ?_⟩))
   rw [g2, List.drop_eq_nil_of_le (show a.length <= i.toNat by omega)]
   by_cases hl : (a.length : Int) < (b.length : Int)
   ·rw [if_pos hl, Zdq b i (0, 0) g0 (by omega)]
    rfl
   ·rw [if_neg hl, List.drop_eq_nil_of_le (by omega)]
    rfl
 unfold cmpPs Zrp cmpFn ZrE
 simp only [Br.run, hz]
 rcases h with ⟨c, rfl, rfl⟩ | ⟨rfl, h⟩
 ·rfl
 ·rw [h]
  by_cases hl : (a.length : Int) < (b.length : Int)
  ·simp only [Br.run, decide_eq_true hl, cond_true, if_pos hl]
  ·simp only [Br.run, decide_eq_false hl, cond_false, if_neg hl]
theorem Ztf {x y z : Int × Int} (h : Zbj x y <= 0) (k : Zbj y z <= 0) : Zbj x z <= 0 /\ (Zbj x z = 0 -> Zbj x y = 0 /\ Zbj y z = 0) := by
 unfold Zbj at *
 repeat' split at h
 all_goals (repeat' split at k)
 all_goals (repeat' split)
 all_goals omega
theorem ZkD : ∀ a b c, Zat a b <= 0 -> Zat b c <= 0 -> Zat a c <= 0
 | [], _, [], _, _ => by decide
 | [], _, _ :: _, _, _ => by simp [Zat]
 | _ :: _, [], _, h, _ => by simp [Zat] at h
 | _ :: _, _ :: _, [], _, k => by simp [Zat] at k
 | x :: a, y :: b, z :: c, h, k => by
  simp only [Zat] at h k ⊢
  by_cases e1 : Zbj x y = 0
  ·obtain rfl := (Zir _ _).1 e1
   rw [if_pos e1] at h
   by_cases e2 : Zbj x z = 0
   ·rw [if_pos e2] at k ⊢
    exact ZkD a b c h k
   ·rw [if_neg e2] at k ⊢
    exact k
  ·rw [if_neg e1] at h
   by_cases e2 : Zbj y z = 0
   ·obtain rfl := (Zir _ _).1 e2
    rw [if_neg e1]
    exact h
   ·rw [if_neg e2] at k
    have := Ztf h k
    rw [if_neg fun e => e1 (this.2 e).1]
    exact this.1
theorem ZjG : Go.Sort.SWO (Go.Proofs.ltOf Zat) := by
 have le : ∀ a b, Go.Proofs.ltOf Zat a b = false ↔ Zat b a <= 0 := fun a b => by
  have := ZfK a b
  unfold Go.Proofs.ltOf
  rw [decide_eq_false_iff_not]
  omega
 have nt : ∀ x y z, Go.Proofs.ltOf Zat x y = false -> Go.Proofs.ltOf Zat y z = false -> Go.Proofs.ltOf Zat x z = false := fun x y z h k => by
  rw [le] at *
  exact ZkD _ _ _ k h
 refine ⟨fun x => by rw [le, (ZlA x x).2 rfl]; exact Int.le_refl _, fun x y z h k => ?_, nt⟩
 cases e : Go.Proofs.ltOf Zat x z with
 | true => rfl
 | false =>
  have h' : Zat x y < 0 := of_decide_eq_true h
  have e2 : Go.Proofs.ltOf Zat z y = false := by
   rw [le]
   have := (of_decide_eq_true k : Zat y z < 0)
   omega
  have := nt _ _ _ e e2
  rw [h] at this
  cases this
theorem Zo1 (x y : List (Int × Int)) (h : Go.Proofs.ltOf Zat x y = false) (k : Go.Proofs.ltOf Zat y x = false) : x = y := by
 have h := of_decide_eq_false h
 have k := of_decide_eq_false k
 have := ZfK x y
 exact (ZlA x y).1 (by omega)
noncomputable def ZhS : zA23 -> (Unit × Unit) -> Option zA23 := fun xs _ => bif decide (xs.length < 4611686018427387904) then some (sorted Zat xs) else none
abbrev ZoD : List (Bool × Pat) := [(false, .fn 40 .nil)]
theorem ZuF : OCR Tryz.prog 39 49 (.sl Zad) ZoD ZhS :=
 OCR.sortFunc Tryz.sortL cmpPs_oc rfl rfl (fun _ _ _ _ h => by obtain ⟨A, cap, h, -⟩ := h; rw [(List.cons.inj h).1]; rfl) Zat (fun x y hx _ => by
  obtain ⟨J, w, cs, A, cap, -, h1, h2, -⟩ := hx
  exact cmpPs_at x y (Nat.le_trans h1 h2)) ZjG Zo1 rfl ⟨_, Tryz.func39, by kernel_rfl, by kernel_rfl⟩
noncomputable def cx_sortPs : Ctx := Zba cx_expireM 39 (ZpT 49 (.sl Zad) ZoD ZhS)
theorem Zno : EnvFull Tryz.prog cx_sortPs := Zas (Zs9) ZuF.callOk
end Go.Proofs.YtkbdofnbagmlfaaGreat
