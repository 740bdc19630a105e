/- slices.SortFunc of lists of pairs, at whatever length. Contracts of functions. Printed by auto.py. All matches, as the program seeks them: each list of pairs is looked at once. -/
import Derived.Shelf.SlGeneric
import Derived.Shelf.SlLaysF
import Derived.Ground.SlsfProg
import Derived.Test.YtiblijkhpmemeaaGreatHk
import Derived.Test.YtiblijkhpmemeaaGreatHg
import Derived.Test.YtiblijkhpmemeaaGreatGe
import Derived.Test.YtiblijkhpmemeaaGreatHj
namespace Go.Proofs.YtiblijkhpmemeaaGreat
open Go.PI Go Go.Shelf
def Tryz.sortL_ren : Go.Shelf.Ren := ⟨fun | 6 => 30 | 15 => 56 | 14 => 55 | 28 => 85 | 29 => 86 | 20 => 77 | 21 => 78 | 22 => 79 | 23 => 80 | 24 => 81 | 25 => 82 | 26 => 83 | 27 => 84 | 46 => 96 | 47 => 97 | 48 => 98 | 49 => 99 | 50 => 100 | 57 => 113 | n => n, fun | 22 => 37 | 24 => 41 | 25 => 82 | 3 => 3 | 39 => 56 | 0 => 0 | 53 => 146 | 55 => 148 | 4 => 4 | 46 => 139 | 45 => 138 | 50 => 143 | 5 => 5 | 9 => 9 | 66 => 158 | 70 => 162 | 76 => 172 | 77 => 173 | n => n, fun | n => n⟩
theorem Tryz.sortL : Go.Proofs.SlLaysF.n6 Tryz.prog Tryz.sortL_ren := {
 mixed := by kernel_rfl
 f6 := ⟨Tryz.f30.name, by decide, Tryz.func30.trans (congrArg some (by kernel_rfl))⟩
 f14 := ⟨Tryz.f55.name, by decide, Tryz.func55.trans (congrArg some (by kernel_rfl))⟩
 f15 := Tryz.func56.trans (congrArg some (by kernel_rfl))
 f20 := ⟨Tryz.f77.name, by decide, Tryz.func77.trans (congrArg some (by kernel_rfl))⟩
 f21 := ⟨Tryz.f78.name, by decide, Tryz.func78.trans (congrArg some (by kernel_rfl))⟩
 f22 := ⟨Tryz.f79.name, by decide, Tryz.func79.trans (congrArg some (by kernel_rfl))⟩
 f23 := ⟨Tryz.f80.name, by decide, Tryz.func80.trans (congrArg some (by kernel_rfl))⟩
 f24 := ⟨Tryz.f81.name, by decide, Tryz.func81.trans (congrArg some (by kernel_rfl))⟩
 f25 := ⟨Tryz.f82.name, by decide, Tryz.func82.trans (congrArg some (by kernel_rfl))⟩
 f26 := ⟨Tryz.f83.name, by decide, Tryz.func83.trans (congrArg some (by kernel_rfl))⟩
 f27 := ⟨Tryz.f84.name, by decide, Tryz.func84.trans (congrArg some (by kernel_rfl))⟩
 f28 := Tryz.func85.trans (congrArg some (by kernel_rfl))
 f29 := Tryz.func86.trans (congrArg some (by kernel_rfl))
 f46 := ⟨Tryz.f96.name, by decide, Tryz.func96.trans (congrArg some (by kernel_rfl))⟩
 f47 := Tryz.func97.trans (congrArg some (by kernel_rfl))
 f48 := Tryz.func98.trans (congrArg some (by kernel_rfl))
 f49 := ⟨Tryz.f99.name, by decide, Tryz.func99.trans (congrArg some (by kernel_rfl))⟩
 f50 := ⟨Tryz.f100.name, by decide, Tryz.func100.trans (congrArg some (by kernel_rfl))⟩
 f57 := ⟨Tryz.f113.name, by decide, Tryz.func113.trans (congrArg some (by kernel_rfl))⟩
 t0 := Tryz.underlying0
 a0 := Tryz.isAgg0
 z0 := Tryz.sizeOf0
 v0 := Tryz.zeroValue0
 t3 := Tryz.underlying3
 a3 := Tryz.isAgg3
 z3 := Tryz.sizeOf3
 v3 := Tryz.zeroValue3
 t4 := Tryz.underlying4
 a4 := Tryz.isAgg4
 z4 := Tryz.sizeOf4
 v4 := Tryz.zeroValue4
 t5 := Tryz.underlying5
 a5 := Tryz.isAgg5
 z5 := Tryz.sizeOf5
 v5 := Tryz.zeroValue5
 t9 := Tryz.underlying9
 a9 := Tryz.isAgg9
 z9 := Tryz.sizeOf9
 v9 := Tryz.zeroValue9
 t22 := Tryz.underlying37
 a22 := Tryz.isAgg37
 z22 := Tryz.sizeOf37
 v22 := Tryz.zeroValue37
 a24 := Tryz.isAgg41
 z24 := Tryz.sizeOf41
 t25 := Tryz.underlying82
 a25 := Tryz.isAgg82
 z25 := Tryz.sizeOf82
 v25 := Tryz.zeroValue82
 t39 := Tryz.underlying56
 a39 := Tryz.isAgg56
 z39 := Tryz.sizeOf56
 v39 := Tryz.zeroValue56
 t45 := Tryz.underlying138
 a45 := Tryz.isAgg138
 z45 := Tryz.sizeOf138
 v45 := Tryz.zeroValue138
 t46 := Tryz.underlying139
 a46 := Tryz.isAgg139
 z46 := Tryz.sizeOf139
 v46 := Tryz.zeroValue139
 t50 := Tryz.underlying143
 a50 := Tryz.isAgg143
 z50 := Tryz.sizeOf143
 v50 := Tryz.zeroValue143
 t53 := Tryz.underlying146
 a53 := Tryz.isAgg146
 z53 := Tryz.sizeOf146
 v53 := Tryz.zeroValue146
 t55 := Tryz.underlying148
 a55 := Tryz.isAgg148
 z55 := Tryz.sizeOf148
 v55 := Tryz.zeroValue148
 t66 := Tryz.underlying158
 a66 := Tryz.isAgg158
 z66 := Tryz.sizeOf158
 v66 := Tryz.zeroValue158
 t70 := Tryz.underlying162
 a70 := Tryz.isAgg162
 z70 := Tryz.sizeOf162
 v70 := Tryz.zeroValue162
 t76 := Tryz.underlying172
 a76 := Tryz.isAgg172
 z76 := Tryz.sizeOf172
 v76 := Tryz.zeroValue172
 t77 := Tryz.underlying173
 a77 := Tryz.isAgg173
 z77 := Tryz.sizeOf173
 v77 := Tryz.zeroValue173 }
def cmp2 (x y : (Int × Int)) : Int := if x.1 < y.1 then -1 else if y.1 < x.1 then 1 else if x.2 < y.2 then -1 else if y.2 < x.2 then 1 else 0
def cmpS : List (Int × Int) → List (Int × Int) → Int
 | [], [] => 0
 | [], _ :: _ => -1
 | _ :: _, [] => 1
 | x :: a, y :: b => if cmp2 x y = 0 then cmpS a b else cmp2 x y
theorem cmp2_eq (x y : (Int × Int)) : cmp2 x y = 0 ↔ x = y := by
 unfold cmp2
 constructor
 ·intro h
  refine Prod.ext ?_ ?_ <;> (split at h <;> try split at h) <;> (try split at h) <;> (try split at h) <;> omega
 ·rintro rfl
  simp
theorem cmp2_swap (x y : (Int × Int)) : cmp2 y x = - cmp2 x y := by
 unfold cmp2
 split <;> (try split) <;> (try split) <;> (try split) <;> (try split) <;> (try split) <;> (try split) <;> omega
theorem cmpS_swap : ∀ a b, cmpS b a = - cmpS a b
 | [], [] => rfl
 | [], _ :: _ => rfl
 | _ :: _, [] => rfl
 | x :: a, y :: b => by
  have h := cmp2_swap x y
  simp only [cmpS]
  by_cases c : cmp2 x y = 0
  ·rw [if_pos c, if_pos (by omega)]
   exact cmpS_swap a b
  ·rw [if_neg c, if_neg (by omega)]
   exact h
theorem cmpS_eq : ∀ a b, cmpS a b = 0 ↔ a = b
 | [], [] => by simp [cmpS]
 | [], _ :: _ => by simp [cmpS]
 | _ :: _, [] => by simp [cmpS]
 | x :: a, y :: b => by
  have h := cmp2_eq x y
  simp only [cmpS]
  by_cases c : cmp2 x y = 0
  ·rw [if_pos c, cmpS_eq a b]
   simp [h.1 c]
  ·rw [if_neg c]
   constructor
   ·intro e; exact absurd e c
   ·intro e; exact absurd (h.2 (List.cons.inj e).1) c
theorem nanI_at (x : Int) : nanI (x, ()) = some (false, ()) := by
 unfold nanI nanI_B
 simp [Br.run]
theorem nanL_at (x : Int) : nanL (x, ()) = some (false, ()) := by
 unfold nanL nanL_B
 simp [Br.run]
theorem cmpI_at (x y : Int) : cmpI (x, y, ()) = some (if x < y then -1 else if y < x then 1 else 0, ()) := by
 unfold cmpI cmpI_B
 simp only [Br.run, nanI_at, cond_false]
 by_cases h : x < y
 ·rw [if_pos h]; simp [h]
 ·by_cases h2 : y < x
  ·rw [if_neg h, if_pos h2]; simp [h, h2]
  ·rw [if_neg h, if_neg h2]; simp [h, h2]
theorem cmpL_at (x y : Int) : cmpL (x, y, ()) = some (if x < y then -1 else if y < x then 1 else 0, ()) := by
 unfold cmpL cmpL_B
 simp only [Br.run, nanL_at, cond_false]
 by_cases h : x < y
 ·rw [if_pos h]; simp [h]
 ·by_cases h2 : y < x
  ·rw [if_neg h, if_pos h2]; simp [h, h2]
  ·rw [if_neg h, if_neg h2]; simp [h, h2]
theorem cmpPr_at (x y : (Int × Int)) : cmpPr (x, y, ()) = some (cmp2 x y, ()) := by
 unfold cmpPr cmpPr_B cmp2
 simp only [Br.run, cmpI_at, cmpL_at]
 by_cases h : x.1 < y.1
 ·simp [h]
 ·by_cases h2 : y.1 < x.1
  ·simp [h, h2]
  ·simp [h, h2]
theorem drop_consS {α : Type} (m : List α) (i : Int) (d : α) (h0 : 0 ≤ i) (h1 : i < m.length) : m.drop i.toNat = m.getD i.toNat d :: m.drop (i + 1).toNat := by
 have hlt : i.toNat < m.length := by omega
 rw [getD_in _ _ _ hlt, show (i + 1).toNat = i.toNat + 1 by omega, List.drop_eq_getElem_cons hlt]
theorem cmpPs_at (a b : List (Int × Int)) (hb : a.length ≤ 9223372036854775807) : cmpPs (a, b, ()) = some (cmpS a b, ()) := by
 obtain ⟨z, hz, h⟩ : ∃ z, cmpFn_w0 (a, b, a, (a.length : Int), 0, ()) = some z ∧ ((∃ c, z = .inl (c, ()) ∧ c = cmpS a b) ∨ (z = .inr (a, b, ()) ∧ cmpS a b = if (a.length : Int) < (b.length : Int) then -1 else 0)) := by
  refine iterO_bt (step := cmpFn_l0) (fun y => ∃ i : Int, y = (a, b, a, (a.length : Int), i, ()) ∧ 0 ≤ i ∧ i ≤ a.length ∧ i ≤ b.length ∧ cmpS a b = cmpS (a.drop i.toNat) (b.drop i.toNat)) (fun y => ((a.length : Int) - y.2.2.2.2.1).toNat) _ ?_ _ ⟨0, rfl, Int.le_refl _, by omega, by omega, rfl⟩
  rintro y ⟨i, rfl, g0, g1, g3, g2⟩
  unfold cmpFn_l0
  by_cases hi : i < (a.length : Int)
  ·have hw : IntKind.wrap .i64 (i + 1) = i + 1 := Go.PI.wrap_small (by omega) (by omega)
   rw [drop_consS a i (0, 0) g0 hi] at g2
   refine BT.lt (decide_eq_true hi) (BT.yes (in2 g0 hi) (BT.cond (fun hc => BT.ends (.inl ⟨_, rfl, ?_⟩)) (fun hc => ?_)))
   ·have hc : i ≥ (b.length : Int) := of_decide_eq_true hc
    rw [g2, List.drop_eq_nil_of_le (show b.length ≤ i.toNat by omega)]
    rfl
   ·have hc : ¬ i ≥ (b.length : Int) := of_decide_eq_false hc
    rw [drop_consS b i (0, 0) g0 (by omega)] at g2
    simp only [cmpS] at g2
    refine BT.yes (in2 g0 (by omega)) (BT.opt ⟨_, cmpPr_at _ _, BT.cond (fun hn => BT.ends (.inl ⟨_, rfl, ?_⟩)) (fun hn => BT.goes ⟨⟨i + 1, by rw [hw], by omega, by omega, by omega, ?_⟩, ?_⟩)⟩)
    ·rw [g2, if_neg (by simpa using hn)]
    ·rw [g2, if_pos (by simpa using hn)]
    ·dsimp only
     rw [hw]
     omega
  ·refine BT.ge (decide_eq_false hi) (BT.ends (.inr ⟨rfl, ?_⟩))
   rw [g2, List.drop_eq_nil_of_le (show a.length ≤ i.toNat by omega)]
   by_cases hl : (a.length : Int) < (b.length : Int)
   ·rw [if_pos hl, drop_consS b i (0, 0) g0 (by omega)]
    rfl
   ·rw [if_neg hl, List.drop_eq_nil_of_le (by omega)]
    rfl
 unfold cmpPs cmpPs_B cmpFn cmpFn_B
 simp only [Br.run, hz]
 rcases h with ⟨c, rfl, rfl⟩ | ⟨rfl, h⟩
 ·rfl
 ·rw [h]
  by_cases hl : (a.length : Int) < (b.length : Int)
  ·simp only [Br.run, decide_eq_true hl, cond_true, if_pos hl]
  ·simp only [Br.run, decide_eq_false hl, cond_false, if_neg hl]
theorem cmp2_trans {x y z : Int × Int} (h : cmp2 x y ≤ 0) (k : cmp2 y z ≤ 0) : cmp2 x z ≤ 0 ∧ (cmp2 x z = 0 → cmp2 x y = 0 ∧ cmp2 y z = 0) := by
 unfold cmp2 at *
 repeat' split at h
 all_goals (repeat' split at k)
 all_goals (repeat' split)
 all_goals omega
theorem cmpS_trans : ∀ a b c, cmpS a b ≤ 0 → cmpS b c ≤ 0 → cmpS a c ≤ 0
 | [], _, [], _, _ => by decide
 | [], _, _ :: _, _, _ => by simp [cmpS]
 | _ :: _, [], _, h, _ => by simp [cmpS] at h
 | _ :: _, _ :: _, [], _, k => by simp [cmpS] at k
 | x :: a, y :: b, z :: c, h, k => by
  simp only [cmpS] at h k ⊢
  by_cases e1 : cmp2 x y = 0
  ·obtain rfl := (cmp2_eq _ _).1 e1
   rw [if_pos e1] at h
   by_cases e2 : cmp2 x z = 0
   ·rw [if_pos e2] at k ⊢
    exact cmpS_trans a b c h k
   ·rw [if_neg e2] at k ⊢
    exact k
  ·rw [if_neg e1] at h
   by_cases e2 : cmp2 y z = 0
   ·obtain rfl := (cmp2_eq _ _).1 e2
    rw [if_neg e1]
    exact h
   ·rw [if_neg e2] at k
    have := cmp2_trans h k
    rw [if_neg fun e => e1 (this.2 e).1]
    exact this.1
theorem cmpS_swo : Go.Sort.SWO (Go.Proofs.ltOf cmpS) := by
 have le : ∀ a b, Go.Proofs.ltOf cmpS a b = false ↔ cmpS b a ≤ 0 := fun a b => by
  have := cmpS_swap a b
  unfold Go.Proofs.ltOf
  rw [decide_eq_false_iff_not]
  omega
 have nt : ∀ x y z, Go.Proofs.ltOf cmpS x y = false → Go.Proofs.ltOf cmpS y z = false → Go.Proofs.ltOf cmpS x z = false := fun x y z h k => by
  rw [le] at *
  exact cmpS_trans _ _ _ k h
 refine ⟨fun x => by rw [le, (cmpS_eq x x).2 rfl]; exact Int.le_refl _, fun x y z h k => ?_, nt⟩
 cases e : Go.Proofs.ltOf cmpS x z with
 | true => rfl
 | false =>
  have h' : cmpS x y < 0 := of_decide_eq_true h
  have e2 : Go.Proofs.ltOf cmpS z y = false := by
   rw [le]
   have := (of_decide_eq_true k : cmpS y z < 0)
   omega
  have := nt _ _ _ e e2
  rw [h] at this
  cases this
theorem cmpS_tot (x y : List (Int × Int)) (h : Go.Proofs.ltOf cmpS x y = false) (k : Go.Proofs.ltOf cmpS y x = false) : x = y := by
 have h := of_decide_eq_false h
 have k := of_decide_eq_false k
 have := cmpS_swap x y
 exact (cmpS_eq x y).1 (by omega)
noncomputable def sortPs : zA23 → (Unit × Unit) → Option zA23 := fun xs _ => bif decide (xs.length < 4611686018427387904) then some (sorted cmpS xs) else none
abbrev sortPs_R : List (Bool × Pat) := [(false, .fn 31 .nil)]
theorem sortPs_oc : OCR Tryz.prog 30 41 (.sl zA16) sortPs_R sortPs :=
 OCR.sortFunc Tryz.sortL cmpPs_oc rfl rfl (fun _ _ _ _ h => by obtain ⟨A, cap, h, -⟩ := h; rw [(List.cons.inj h).1]; rfl) cmpS (fun x y hx _ => by
  obtain ⟨J, w, cs, A, cap, -, h1, h2, -⟩ := hx
  exact cmpPs_at x y (Nat.le_trans h1 h2)) cmpS_swo cmpS_tot rfl ⟨_, Tryz.func30, by kernel_rfl, by kernel_rfl⟩
noncomputable def cx_sortPs : Ctx := addO cx_cmpPs 30 (rowOrc 41 (.sl zA16) sortPs_R sortPs)
theorem en_sortPs : EnvFull Tryz.prog cx_sortPs := env_add (en_cmpPs) sortPs_oc.callOk
end Go.Proofs.YtiblijkhpmemeaaGreat

namespace Go.Proofs.YtiblijkhpmemeaaGreat
set_option maxRecDepth 100000
open Go.PI Go
abbrev zIT31 : List (Bool × Pat) := [(true, (.obj (.two (.ty false zA17) (.two (.ty false zA5) (.two (.ty false (.sl zA9)) (.row 41 (.sl zA16))))))), (false, .row 45 zA16), (false, .ty false (.int .i64))]
noncomputable def mostQ_l0 : (Int × ((List zA1) × (Int × (Int × Unit)))) → Br ((Int × ((List zA1) × (Int × (Int × Unit)))) ⊕ (Int × Unit)) := fun (a, b, c, d, ()) =>
 (.cond (decide (d < c))
 (.cond (decide (0 ≤ d) && decide (d < (↑(List.length b) : Int)))
 (.cond (!(List.getD b (Int.toNat d) (ByteArray.empty, [], false, 0, 0, [])).2.2.1)
 (.ret (.inl (IntKind.wrap .i64 (a + if 4 < if (List.getD b (Int.toNat d) (ByteArray.empty, [], false, 0, 0, [])).2.2.2.2.1 < 0 then 0 else (List.getD b (Int.toNat d) (ByteArray.empty, [], false, 0, 0, [])).2.2.2.2.1 then 4 else if (List.getD b (Int.toNat d) (ByteArray.empty, [], false, 0, 0, [])).2.2.2.2.1 < 0 then 0 else (List.getD b (Int.toNat d) (ByteArray.empty, [], false, 0, 0, [])).2.2.2.2.1), b, c, IntKind.wrap .i64 (d + 1), ())))
 (.ret (.inl (a, b, c, IntKind.wrap .i64 (d + 1), ()))))
 (.no))
 (.ret (.inr (a, ()))))
noncomputable def mostQ_w0 := iterO fun x => (mostQ_l0 x).run
noncomputable def mostQ_B : (zA10 × Unit) → Br (Int × Unit) := fun (p0, ()) =>
 (.opt (mostQ_w0 (0, p0.1, (↑(List.length p0.1) : Int), 0, ())) fun a =>
 (.ret (a.1, ())))
noncomputable def mostQ := fun x => (mostQ_B x).run
noncomputable def mostQ_L : List Lp := [
 .mk 3 (shO 24 [] [] [sI 3, .slot 7 true (.sl zA19), sI 8, sI 9] []) ([exO (.exit 0) 24 [] [] [sI 3] []]) mostQ_l0]
theorem mostQ_oc : OC Tryz.prog 53 [(false, .ty true zA5)] [.ty false (.int .i64)] mostQ := OC.lp en_sortPs 1024 Tryz.func53 mostQ_L (by kernel_rfl) ⟨fun _ => by kernel_rfl, trivial⟩ (fun _ => by kernel_rfl)
noncomputable def cx_mostQ : Ctx := ocx cx_sortPs mostQ_oc
theorem en_mostQ : EnvFull Tryz.prog cx_mostQ := ocn en_sortPs mostQ_oc
noncomputable def clonePs : zA31 → Option zA31 := fun x => bif bound (0 + List.length x.1) 16 then some (x.1, ()) else none
theorem clonePs_oc : OC Tryz.prog 52 [(false, .ty true (.sl zA16))] [.ty false (.sl zA16)] clonePs := OC.clone (k := false) (clone_specB (t := 41) (e := 45) (by_ := 24) (b2 := 16) (en_mostQ) Tryz.func52 (by kernel_rfl) (by kernel_rfl) (by kernel_rfl) (by kernel_rfl) (by kernel_rfl) true rfl fun l => ⟨.c .bad, [1031, 1029, 1029], by kernel_rfl⟩)
noncomputable def cx_clonePs : Ctx := addO cx_mostQ 52 (ocOrc [(false, .ty true (.sl zA16))] [.ty false (.sl zA16)] clonePs)
theorem en_clonePs : EnvFull Tryz.prog cx_clonePs := env_add (en_mostQ) clonePs_oc.callOk
noncomputable def moreT_l1 (G_moreT : (zT1 × zT2) → Option (Unit × (zT1 × Unit))) : (Int × (Int × ((List Int) × zT3))) → Br ((Int × (Int × ((List Int) × zT3))) ⊕ (Int × zT3)) := fun (a, b, c, d, e, f, g, h, i, j, k, ()) =>
 (.cond (decide (d < 2))
 (.cond (decide (0 ≤ d) && decide (d < (↑2 : Int)))
 (.cond (decide (List.getD c (Int.toNat d) 0 ≥ 0))
 (.cond (decide (0 ≤ 0) && decide (0 ≤ (↑(List.length j) : Int)) && decide ((↑(List.length j) : Int) ≤ (↑(List.length j) : Int)) && decide ((↑(List.length j) : Int) = (↑(List.length j) : Int)))
 (.cond (decide (0 ≤ b) && decide (b < (↑(List.length i) : Int)))
 (.cond (decide ((List.length (List.take (Int.toNat (↑(List.length j) : Int) - Int.toNat 0) (List.drop (0 + Int.toNat 0) j)) + List.length (List.set (List.replicate 1 (0, 0)) 0 (List.getD c (Int.toNat d) 0, (List.getD i (Int.toNat b) (ByteArray.empty, ByteArray.empty, 0, 0, [])).2.2.2.1))) * 16 ≤ 140737488355328) && decide (0 < List.length (List.set (List.replicate 1 (0, 0)) 0 (List.getD c (Int.toNat d) 0, (List.getD i (Int.toNat b) (ByteArray.empty, ByteArray.empty, 0, 0, [])).2.2.2.1))))
 (.opt (G_moreT ((e, (f, g, h), i, k), List.take (Int.toNat (↑(List.length j) : Int) - Int.toNat 0) (List.drop (0 + Int.toNat 0) j) ++ List.set (List.replicate 1 (0, 0)) 0 (List.getD c (Int.toNat d) 0, (List.getD i (Int.toNat b) (ByteArray.empty, ByteArray.empty, 0, 0, [])).2.2.2.1), IntKind.wrap .i64 (b + 1), ())) fun l =>
 (.ret (.inl (a, b, c, IntKind.wrap .i64 (d + 1), l.2.1.1, l.2.1.2.1.1, l.2.1.2.1.2.1, l.2.1.2.1.2.2, l.2.1.2.2.1, j, l.2.1.2.2.2, ()))))
 (.no))
 (.no))
 (.no))
 (.ret (.inl (a, b, c, IntKind.wrap .i64 (d + 1), e, f, g, h, i, j, k, ()))))
 (.no))
 (.ret (.inr (a, b, e, f, g, h, i, j, k, ()))))
noncomputable def moreT_w1 (G_moreT : (zT1 × zT2) → Option (Unit × (zT1 × Unit))) : (Int × (Int × ((List Int) × zT3))) → Option (Int × zT3) := iterO fun x => ((moreT_l1 G_moreT) x).run
noncomputable def moreT_l0 (G_moreT : (zT1 × zT2) → Option (Unit × (zT1 × Unit))) : (Int × zT3) → Br ((Int × zT3) ⊕ ((Option zA11) × ((List zA1) × (Int × (Int × ((List zA2) × (zA23 × Unit))))))) := fun (a, b, c, d, e, f, g, h, i, ()) =>
 (.cond (decide (b < (↑(List.length g) : Int)))
 (.opt (nextT ((d, e, f), a, ())) fun j =>
 (.opt ((moreT_w1 G_moreT) (a, b, [a, j.1], 0, c, d, e, f, g, h, i, ())) fun k =>
 (.ret (.inl (k.1, IntKind.wrap .i64 (k.2.1 + 1), k.2.2.1, k.2.2.2.1, k.2.2.2.2.1, k.2.2.2.2.2.1, k.2.2.2.2.2.2.1, k.2.2.2.2.2.2.2.1, k.2.2.2.2.2.2.2.2.1, ())))))
 (.ret (.inr (c, d, e, f, g, i, ()))))
noncomputable def moreT_w0 (G_moreT : (zT1 × zT2) → Option (Unit × (zT1 × Unit))) : (Int × zT3) → Option ((Option zA11) × ((List zA1) × (Int × (Int × ((List zA2) × (zA23 × Unit)))))) := iterO fun x => ((moreT_l0 G_moreT) x).run
noncomputable def moreT_B (G_moreT : (zT1 × zT2) → Option (Unit × (zT1 × Unit))) : (zT1 × zT2) → Br (Unit × (zT1 × Unit)) := fun (p0, p1, p2, ()) =>
 (.opt (matchT (p0.1, (p0.2.1.1, p0.2.1.2.1, p0.2.1.2.2), p0.2.2.1, p1, ())) fun a =>
 (.cond a.1
 (.opt (clonePs (p1, ())) fun b =>
 (.cond (decide ((List.length p0.2.2.2 + List.length (List.set (List.replicate 1 []) 0 b.1)) * 24 ≤ 140737488355328))
 (.opt (mostQ ((p0.2.1.1, p0.2.1.2.1, p0.2.1.2.2), ())) fun c =>
 (.cond (decide ((↑(List.length p1) : Int) ≥ c.1))
 (.ret ((), (p0.1, (p0.2.1.1, p0.2.1.2.1, p0.2.1.2.2), p0.2.2.1, p0.2.2.2 ++ List.set (List.replicate 1 []) 0 b.1), ()))
 (.cond (decide ((↑(List.length p1) : Int) > 0))
 (.cond (decide (0 ≤ IntKind.wrap .i64 ((↑(List.length p1) : Int) - 1)) && decide (IntKind.wrap .i64 ((↑(List.length p1) : Int) - 1) < (↑(List.length p1) : Int)))
 (.opt ((moreT_w0 G_moreT) ((List.getD p1 (Int.toNat (IntKind.wrap .i64 ((↑(List.length p1) : Int) - 1))) (0, 0)).1, p2, p0.1, p0.2.1.1, p0.2.1.2.1, p0.2.1.2.2, p0.2.2.1, p1, p0.2.2.2 ++ List.set (List.replicate 1 []) 0 b.1, ())) fun d =>
 (.ret ((), (d.1, (d.2.1, d.2.2.1, d.2.2.2.1), d.2.2.2.2.1, d.2.2.2.2.2.1), ())))
 (.no))
 (.opt ((moreT_w0 G_moreT) (-1, p2, p0.1, p0.2.1.1, p0.2.1.2.1, p0.2.1.2.2, p0.2.2.1, p1, p0.2.2.2 ++ List.set (List.replicate 1 []) 0 b.1, ())) fun e =>
 (.ret ((), (e.1, (e.2.1, e.2.2.1, e.2.2.2.1), e.2.2.2.2.1, e.2.2.2.2.2.1), ()))))))
 (.no)))
 (.opt (mostQ ((p0.2.1.1, p0.2.1.2.1, p0.2.1.2.2), ())) fun f =>
 (.cond (decide ((↑(List.length p1) : Int) ≥ f.1))
 (.ret ((), (p0.1, (p0.2.1.1, p0.2.1.2.1, p0.2.1.2.2), p0.2.2.1, p0.2.2.2), ()))
 (.cond (decide ((↑(List.length p1) : Int) > 0))
 (.cond (decide (0 ≤ IntKind.wrap .i64 ((↑(List.length p1) : Int) - 1)) && decide (IntKind.wrap .i64 ((↑(List.length p1) : Int) - 1) < (↑(List.length p1) : Int)))
 (.opt ((moreT_w0 G_moreT) ((List.getD p1 (Int.toNat (IntKind.wrap .i64 ((↑(List.length p1) : Int) - 1))) (0, 0)).1, p2, p0.1, p0.2.1.1, p0.2.1.2.1, p0.2.1.2.2, p0.2.2.1, p1, p0.2.2.2, ())) fun g =>
 (.ret ((), (g.1, (g.2.1, g.2.2.1, g.2.2.2.1), g.2.2.2.2.1, g.2.2.2.2.2.1), ())))
 (.no))
 (.opt ((moreT_w0 G_moreT) (-1, p2, p0.1, p0.2.1.1, p0.2.1.2.1, p0.2.1.2.2, p0.2.2.1, p1, p0.2.2.2, ())) fun h =>
 (.ret ((), (h.1, (h.2.1, h.2.2.1, h.2.2.2.1), h.2.2.2.2.1, h.2.2.2.2.2.1), ()))))))))
noncomputable def moreT (G_moreT : (zT1 × zT2) → Option (Unit × (zT1 × Unit))) : (zT1 × zT2) → Option (Unit × (zT1 × Unit)) := fun x => ((moreT_B G_moreT) x).run
abbrev moreT_ins : List (Bool × Pat) := zIT31
abbrev moreT_outs : List Pat := []
noncomputable abbrev moreT_f : Func := Tryz.f29
noncomputable abbrev moreT_P : Program := Tryz.prog
abbrev moreT_kp : List Nat := kpOf moreT_ins
abbrev moreT_kf : List Nat := kfOf moreT_ins
noncomputable def moreT_c (G_moreT : (zT1 × zT2) → Option (Unit × (zT1 × Unit))) : Ctx := { (addO cx_clonePs 29 (ocOrc zIT31 [] G_moreT)) with base := 1024 }
theorem moreT_env (G_moreT : (zT1 × zT2) → Option (Unit × (zT1 × Unit))) (H_moreT : OC Tryz.prog 29 zIT31 [] G_moreT) : EnvFull moreT_P (moreT_c G_moreT) := env_base ((env_add en_clonePs (OC.callOk H_moreT))) 1024
abbrev moreT_H1 : List Hole := [.slot 6 false (.int .i64), .slot 7 false (.int .i64), .slot 70 false (.arr 2 (.int .i64)), .slot 71 false (.int .i64), .cell 1954 0 false zA17, .cell 1954 1 false (.sl zA19), .cell 1954 2 false (.int .i64), .cell 1954 3 false (.int .i64), .cell 1954 4 false (.sl zA9), .ar 1956 false 45 zA16, .ar 1724 false 41 (.sl zA16)]
def moreT_S1 : Skel := ⟨99, [(0, D.c (C.ref 1954 0 0)), (1, D.c (C.mfull 1956))], [(1954, [.bad, .bad, .bad, .bad, .bad, (.mfull 1724)]), (1956, []), (1724, [])]⟩
abbrev moreT_H1e0 : List Hole := [.slot 6 false (.int .i64), .slot 7 false (.int .i64), .cell 1954 0 false zA17, .cell 1954 1 false (.sl zA19), .cell 1954 2 false (.int .i64), .cell 1954 3 false (.int .i64), .cell 1954 4 false (.sl zA9), .ar 1956 false 45 zA16, .ar 1725 false 41 (.sl zA16)]
def moreT_S1e0 : Skel := ⟨99, [(0, D.c (C.ref 1954 0 0)), (1, D.c (C.mfull 1956))], [(1954, [.bad, .bad, .bad, .bad, .bad, (.mfull 1725)]), (1956, []), (1725, [])]⟩
def moreT_h1 : Exit → Shape
 | .normal => ⟨[(0, .keep), (1, .keep), (6, .as false (.int .i64)), (7, .as false (.int .i64)), (70, .as false (.arr 2 (.int .i64))), (71, .as false (.int .i64))], [(930, 0, .as false zA17), (930, 1, .as false (.sl zA19)), (930, 2, .as false (.int .i64)), (930, 3, .as false (.int .i64)), (930, 4, .as false (.sl zA9)), (930, 5, .row 700 false 41 (.sl zA16))], [(930, false), (932, false), (700, false)]⟩
 | .exit 2 => ⟨[(0, .keep), (1, .keep), (6, .as false (.int .i64)), (7, .as false (.int .i64))], [(930, 0, .as false zA17), (930, 1, .as false (.sl zA19)), (930, 2, .as false (.int .i64)), (930, 3, .as false (.int .i64)), (930, 4, .as false (.sl zA9)), (930, 5, .row 701 false 41 (.sl zA16))], [(930, false), (932, false), (701, false)]⟩
 | _ => ⟨[], [], []⟩
def moreT_e1 : (Int × zT3) → Exit × St
 | u => (.exit 2, moreT_S1e0.fillK moreT_kf moreT_H1e0 u)
def moreT_t1 : (Int × zT3) → Br (Exit × St) := fun u => .ret (.exit 2, moreT_S1e0.fillK moreT_kf moreT_H1e0 u)
noncomputable def moreT_C1 : Code := loopAt 1 (bodyOf moreT_f)
noncomputable def moreT_o1 (G_moreT : (zT1 × zT2) → Option (Unit × (zT1 × Unit))) : St → Br (Exit × St) := loopF moreT_kp moreT_kf 1024 (moreT_h1 .normal) (moreT_S1.parseK moreT_kf moreT_H1) fun x => .opt ((moreT_w1 G_moreT) x) moreT_t1
abbrev moreT_H0 : List Hole := [.slot 6 false (.int .i64), .slot 7 false (.int .i64), .cell 1954 0 false zA17, .cell 1954 1 false (.sl zA19), .cell 1954 2 false (.int .i64), .cell 1954 3 false (.int .i64), .cell 1954 4 false (.sl zA9), .ar 1956 false 45 zA16, .ar 1726 false 41 (.sl zA16)]
def moreT_S0 : Skel := ⟨99, [(0, D.c (C.ref 1954 0 0)), (1, D.c (C.mfull 1956))], [(1954, [.bad, .bad, .bad, .bad, .bad, (.mfull 1726)]), (1956, []), (1726, [])]⟩
abbrev moreT_H0e0 : List Hole := [.cell 1954 0 false zA17, .cell 1954 1 false (.sl zA19), .cell 1954 2 false (.int .i64), .cell 1954 3 false (.int .i64), .cell 1954 4 false (.sl zA9), .ar 1727 false 41 (.sl zA16)]
def moreT_S0e0 : Skel := ⟨99, [], [(1954, [.bad, .bad, .bad, .bad, .bad, (.mfull 1727)]), (1727, [])]⟩
def moreT_h0 : Exit → Shape
 | .normal => ⟨[(0, .keep), (1, .keep), (6, .as false (.int .i64)), (7, .as false (.int .i64))], [(930, 0, .as false zA17), (930, 1, .as false (.sl zA19)), (930, 2, .as false (.int .i64)), (930, 3, .as false (.int .i64)), (930, 4, .as false (.sl zA9)), (930, 5, .row 702 false 41 (.sl zA16))], [(930, false), (932, false), (702, false)]⟩
 | .exit 0 => ⟨[], [(930, 0, .as false zA17), (930, 1, .as false (.sl zA19)), (930, 2, .as false (.int .i64)), (930, 3, .as false (.int .i64)), (930, 4, .as false (.sl zA9)), (930, 5, .row 703 false 41 (.sl zA16))], [(930, false), (703, false)]⟩
 | _ => ⟨[], [], []⟩
def moreT_e0 : ((Option zA11) × ((List zA1) × (Int × (Int × ((List zA2) × (zA23 × Unit)))))) → Exit × St
 | u => (.exit 0, moreT_S0e0.fillK moreT_kf moreT_H0e0 u)
def moreT_t0 : ((Option zA11) × ((List zA1) × (Int × (Int × ((List zA2) × (zA23 × Unit)))))) → Br (Exit × St) := fun u => .ret (.exit 0, moreT_S0e0.fillK moreT_kf moreT_H0e0 u)
noncomputable def moreT_C0 : Code := loopAt 0 (bodyOf moreT_f)
noncomputable def moreT_o0 (G_moreT : (zT1 × zT2) → Option (Unit × (zT1 × Unit))) : St → Br (Exit × St) := loopF moreT_kp moreT_kf 1024 (moreT_h0 .normal) (moreT_S0.parseK moreT_kf moreT_H0) fun x => .opt ((moreT_w0 G_moreT) x) moreT_t0
noncomputable def moreT_p (G_moreT : (zT1 × zT2) → Option (Unit × (zT1 × Unit))) : Par := { sh := fun _ => none, k := 0, lo := fun i => bif Nat.beq i 7 then some (moreT_o0 G_moreT) else bif Nat.beq i 10 then some (moreT_o1 G_moreT) else none }
theorem moreT_r1 (G_moreT : (zT1 × zT2) → Option (Unit × (zT1 × Unit))) (a : Int) (b : Int) (c : (List Int)) (d : Int) (e : (Option zA11)) (f : (List zA1)) (g : Int) (h : Int) (i : (List zA2)) (j : (List (Int × Int))) (k : zA23) : roundF moreT_kp moreT_kf (moreT_c G_moreT) (moreT_p G_moreT) moreT_h1 moreT_C1 (moreT_S1.fillK moreT_kf moreT_H1 (a, b, c, d, e, f, g, h, i, j, k, ())) = ((moreT_l1 G_moreT) (a, b, c, d, e, f, g, h, i, j, k, ())).bind (loopLeaf (fun x => moreT_S1.fillK moreT_kf moreT_H1 x) moreT_e1) := by kernel_rfl
theorem moreT_ok1 (G_moreT : (zT1 × zT2) → Option (Unit × (zT1 × Unit))) (H_moreT : OC Tryz.prog 29 zIT31 [] G_moreT) (g : Cfg) (hg : ∀ n, Go.PI.look n g.m0 ≠ Option.none → n ∈ moreT_kp) : LoopOk moreT_P g (moreT_o1 G_moreT) moreT_C1 := LoopOk.auto (moreT_env G_moreT H_moreT) hg (moreT_p G_moreT) (LoOk.of (l := []) (by kernel_rfl) .nil) moreT_h1 (fun x => moreT_S1.fillK moreT_kf moreT_H1 x) (fun s x h => Skel.parseK_ok s x h) (moreT_l1 G_moreT) moreT_e1 (fun _ h => by cases h) moreT_t1 (fun _ => rfl) (fun (a, b, c, d, e, f, i, j, k, m, o, ()) => (moreT_r1 G_moreT) a b c d e f i j k m o)
theorem moreT_r0 (G_moreT : (zT1 × zT2) → Option (Unit × (zT1 × Unit))) (a : Int) (b : Int) (c : (Option zA11)) (d : (List zA1)) (e : Int) (f : Int) (g : (List zA2)) (h : (List (Int × Int))) (i : zA23) : roundF moreT_kp moreT_kf (moreT_c G_moreT) (moreT_p G_moreT) moreT_h0 moreT_C0 (moreT_S0.fillK moreT_kf moreT_H0 (a, b, c, d, e, f, g, h, i, ())) = ((moreT_l0 G_moreT) (a, b, c, d, e, f, g, h, i, ())).bind (loopLeaf (fun x => moreT_S0.fillK moreT_kf moreT_H0 x) moreT_e0) := by kernel_rfl
theorem moreT_ok0 (G_moreT : (zT1 × zT2) → Option (Unit × (zT1 × Unit))) (H_moreT : OC Tryz.prog 29 zIT31 [] G_moreT) (g : Cfg) (hg : ∀ n, Go.PI.look n g.m0 ≠ Option.none → n ∈ moreT_kp) : LoopOk moreT_P g (moreT_o0 G_moreT) moreT_C0 := LoopOk.auto (moreT_env G_moreT H_moreT) hg (moreT_p G_moreT) (LoOk.of (l := [moreT_C1]) (by kernel_rfl) (.cons ((moreT_ok1 G_moreT H_moreT) g hg) (by kernel_rfl) .nil)) moreT_h0 (fun x => moreT_S0.fillK moreT_kf moreT_H0 x) (fun s x h => Skel.parseK_ok s x h) (moreT_l0 G_moreT) moreT_e0 (fun _ h => by cases h) moreT_t0 (fun _ => rfl) (fun (a, b, c, d, e, f, i, j, k, ()) => (moreT_r0 G_moreT) a b c d e f i j k)
theorem moreT_eq (G_moreT : (zT1 × zT2) → Option (Unit × (zT1 × Unit))) (p0 : zT1) (p1 : (List (Int × Int))) (p2 : Int) : ocRun (moreT_c G_moreT) (moreT_p G_moreT) moreT_f moreT_ins moreT_outs (p0, p1, p2, ()) = (moreT_B G_moreT) (p0, p1, p2, ()) := by kernel_rfl
theorem moreT_oc (G_moreT : (zT1 × zT2) → Option (Unit × (zT1 × Unit))) (H_moreT : OC Tryz.prog 29 zIT31 [] G_moreT) : OC moreT_P 29 moreT_ins moreT_outs (moreT G_moreT) := OC.of_tree (moreT_env G_moreT H_moreT) Tryz.func29 (by kernel_rfl) (by kernel_rfl) (p := (moreT_p G_moreT)) (fun g hg => LoOk.of (l := [moreT_C0, moreT_C1]) (by kernel_rfl) (.cons ((moreT_ok0 G_moreT H_moreT) g hg) (by kernel_rfl) (.cons ((moreT_ok1 G_moreT H_moreT) g hg) (by kernel_rfl) .nil))) (fun (p0, p1, p2, ()) => (moreT_eq G_moreT) p0 p1 p2)
noncomputable def moreT_k : Nat → (zT1 × zT2) → Option (Unit × (zT1 × Unit))
 | 0 => fun _ => none
 | k + 1 => moreT (moreT_k k)
theorem moreT_kok : ∀ k, OC Tryz.prog 29 zIT31 [] (moreT_k k)
 | 0 => OC.zero Tryz.func29 (by kernel_rfl)
 | k + 1 => moreT_oc _ (moreT_kok k)
noncomputable def moreTF : (zT1 × zT2) → Option (Unit × (zT1 × Unit)) := fun x => moreT_k ((fun x => x.1.2.2.1.length + 2) x) x
theorem moreTF_oc : OC Tryz.prog 29 zIT31 [] moreTF := OC.deep moreT_kok (fun x => x.1.2.2.1.length + 2)
noncomputable def cx_moreT : Ctx := addO cx_clonePs 29 (ocOrc zIT31 [] moreTF)
theorem en_moreT : EnvFull Tryz.prog cx_moreT := env_add (en_clonePs) moreTF_oc.callOk
noncomputable def allT_B : ((Option zA11) × (zA10 × ((List zA2) × Unit))) → Br (zA23 × Unit) := fun (p0, p1, p2, ()) =>
 (.opt (sortEv (p2, ())) fun y6 =>
 (.cond (decide (0 ≤ 0) && decide (0 ≤ if 16 < (↑(List.length y6.1) : Int) then 16 else (↑(List.length y6.1) : Int)) && decide ((if 16 < (↑(List.length y6.1) : Int) then 16 else (↑(List.length y6.1) : Int)) ≤ (↑(List.length y6.1) : Int)))
 (.opt (moreTF ((p0, (p1.1, p1.2.1, p1.2.2), List.drop (Int.toNat 0) (List.take (Int.toNat (if 16 < (↑(List.length y6.1) : Int) then 16 else (↑(List.length y6.1) : Int))) y6.1), []), [], 0, ())) fun y7 =>
 (.opt (sortPs y7.2.1.2.2.2 ((), ())) fun y8 =>
 (.ret (y8, ()))))
 (.no)))
noncomputable def allT := fun x => (allT_B x).run
theorem allT_oc : OC Tryz.prog 12 [(false, .ty false zA17), (false, .ty false zA5), (false, .ty false (.sl zA9))] [.ty false (.sl (.sl zA16))] allT := OC.lp en_moreT 1024 Tryz.func12 [] (by kernel_rfl) trivial (fun _ => by kernel_rfl)
noncomputable def cx_allT : Ctx := ocx cx_moreT allT_oc
theorem en_allT : EnvFull Tryz.prog cx_allT := ocn en_moreT allT_oc
end Go.Proofs.YtiblijkhpmemeaaGreat

namespace Go.Proofs.YtiblijkhpmemeaaGreat
open Go.PI Go
def mx (e : Elm) : Int := if e.2.2.1 = true then 0 else e.2.2.2.2.1
def mxs (es : List Elm) : Int := (es.map mx).sum
theorem mxs_cons (e : Elm) (es : List Elm) : mxs (e :: es) = mx e + mxs es := by simp [mxs]
theorem mxs_append (a b : List Elm) : mxs (a ++ b) = mxs a + mxs b := by simp [mxs]
section
variable {q : Qry} {l : List Evt} (hq : QMk q) (hx : XMk l)
include hq in
theorem mx_at (a : Nat) (ha : a < q.1.length) : 0 ≤ mx (q.1[a]) ∧ mx (q.1[a]) ≤ 3 ∧ ((q.1[a]).2.2.1 = false → mx (q.1[a]) = maxI q a) := by
 have hE := (hq.get (a : Int) (by omega) (by omega)).1
 have e : q.1.getD ((a : Int)).toNat elmZ = q.1[a] := by rw [Int.toNat_natCast, getD_in _ _ _ ha]
 unfold EOk at hE
 rw [e] at hE
 unfold mx
 refine ⟨by split <;> omega, by split <;> omega, fun h => ?_⟩
 rw [h]
 show _ = (q.1.getD ((a : Int)).toNat elmZ).2.2.2.2.1
 rw [e]
 rfl
include hq in
theorem mxs_drop (a : Nat) : 0 ≤ mxs (q.1.drop a) ∧ (∀ h : a < q.1.length, mxs (q.1.drop a) = mx q.1[a] + mxs (q.1.drop (a + 1))) := by
 refine ⟨?_, fun h => by rw [List.drop_eq_getElem_cons h, mxs_cons]⟩
 unfold mxs
 have : ∀ x ∈ (q.1.drop a).map mx, (0 : Int) ≤ x := by
  intro x hx
  obtain ⟨e, he, rfl⟩ := List.mem_map.1 hx
  obtain ⟨k, hk, rfl⟩ := List.getElem_of_mem (List.mem_of_mem_drop he)
  exact (mx_at hq k hk).1
 generalize (q.1.drop a).map mx = L at this
 induction L with
 | nil => exact Int.le_refl _
 | cons x L ih =>
  rw [List.sum_cons]
  have h1 := this x List.mem_cons_self
  have h2 := ih fun y hy => this y (List.mem_cons_of_mem _ hy)
  omega
include hq in
theorem mxs_mono (a : Nat) : ∀ d : Nat, a + d ≤ q.1.length → mxs (q.1.drop (a + d)) ≤ mxs (q.1.drop a)
 | 0, _ => Int.le_refl _
 | d + 1, h => by
  have h1 := mxs_mono a d (by omega)
  have h2 := (mxs_drop hq (a + d)).2 (by omega)
  have h3 := (mx_at hq (a + d) (by omega)).1
  rw [show a + (d + 1) = a + d + 1 from rfl]
  omega
include hq in
theorem SegO.short : ∀ {r : List Prs} {a h fr : Int}, SegO q l a h fr r → 0 ≤ a → a < q.1.length → (r.length : Int) + h ≤ maxI q a + mxs (q.1.drop (a.toNat + 1))
 | [], a, h, fr, hs, a0, a1 => by
  have := (mxs_drop hq (a.toNat + 1)).1
  have := hs.2.1
  simp only [List.length_nil]
  omega
 | (p, s) :: r, a, h, fr, hs, a0, a1 => by
  rw [List.length_cons]
  obtain ⟨-, ⟨rfl, hs⟩ | ⟨-, -, h1, hn, hs⟩⟩ := hs
  ·have := hs.short a0 a1
   omega
  ·obtain ⟨n1, n2, n3, -⟩ := hn
   have h2 := hs.short (by omega) n2
   have h3 := (mxs_drop hq p.toNat).2 (by omega)
   have h4 := (mx_at hq p.toNat (by omega)).2.2 (by rw [getD_in _ _ _ (by omega)] at n3; exact n3)
   rw [show ((p.toNat : Nat) : Int) = p by omega] at h4
   have h5 := mxs_mono hq (a.toNat + 1) (p.toNat - (a.toNat + 1)) (by omega)
   rw [show a.toNat + 1 + (p.toNat - (a.toNat + 1)) = p.toNat by omega] at h5
   omega
include hq in
theorem SegO.most {r : List Prs} (hs : SegO q l 0 0 0 r) : (r.length : Int) ≤ mxs q.1 := by
 have hlo := hq.lo
 have h1 := hs.short hq (Int.le_refl 0) (by omega)
 have h2 := (mxs_drop hq 0).2 (by omega)
 have hE := (hq.get 0 (Int.le_refl 0) (by omega)).1
 have h3 := (mx_at hq 0 (by omega)).2.2 (by
  rw [show (0 : Int).toNat = 0 from rfl, getD_in _ _ _ (by omega)] at hE
  cases e : (q.1[0]).2.2.1 with
  | false => rfl
  | true => have := hE.2.2.2.2.1 e; omega)
 rw [List.drop_zero] at h2
 rw [show (0 : Int).toNat = 0 from rfl] at h1
 have h3 : mx q.1[0] = maxI q 0 := h3
 omega
include hq in
theorem mostQ_at : mostQ (q, ()) = some (mxs q.1, ()) := by
 have hlo := hq.lo
 have hhi := hq.hi
 have bnd : ∀ a : Nat, a ≤ q.1.length → 0 ≤ mxs (q.1.take a) ∧ mxs (q.1.take a) ≤ 3 * a := by
  intro a
  induction a with
  | zero => intro _; simp [mxs]
  | succ a ih =>
   intro h
   rw [List.take_succ_eq_append_getElem (by omega), mxs_append]
   have h1 := ih (by omega)
   have h2 := mx_at hq a (by omega)
   have : mxs [q.1[a]] = mx q.1[a] := by simp [mxs]
   omega
 obtain ⟨z, hz, rfl⟩ : ∃ z, mostQ_w0 (0, q.1, (q.1.length : Int), 0, ()) = some z ∧ z = (mxs q.1, ()) := by
  refine iterO_bt (step := mostQ_l0) (fun y => ∃ j : Nat, y = (mxs (q.1.take j), q.1, (q.1.length : Int), (j : Int), ()) ∧ j ≤ q.1.length) (fun y => ((q.1.length : Int) - y.2.2.2.1).toNat) _ ?_ _ ⟨0, by simp [mxs], Nat.zero_le _⟩
  rintro y ⟨j, rfl, g0⟩
  unfold mostQ_l0
  by_cases hj : j < q.1.length
  ·have hji : ((j : Int)).toNat = j := by omega
   have hw : IntKind.wrap .i64 ((j : Int) + 1) = ((j + 1 : Nat) : Int) := by rw [Go.PI.wrap_small (by omega) (by omega)]; omega
   have hg : q.1.getD j elmZ = q.1[j] := getD_in _ _ _ hj
   have hb := bnd j (by omega)
   have hm := mx_at hq j hj
   have ht : mxs (q.1.take (j + 1)) = mxs (q.1.take j) + mx q.1[j] := by
    rw [List.take_succ_eq_append_getElem hj, mxs_append]
    simp [mxs]
   have hE := (hq.get (j : Int) (by omega) (by omega)).1
   unfold EOk at hE
   rw [hji, hg] at hE
   refine BT.lt (decide_eq_true (by omega)) (BT.yes (in2 (by omega) (by omega)) (BT.cond (fun hn => ?_) (fun hn => ?_)))
   ·rw [hji] at hn ⊢
    have hn' : (q.1[j]).2.2.1 = false := by rw [← hg]; simpa using hn
    have he : mx q.1[j] = (q.1[j]).2.2.2.2.1 := by unfold mx; rw [hn']; rfl
    have h5 : ¬ (q.1.getD j elmZ).2.2.2.2.1 < 0 := by rw [hg]; omega
    have h6 : ¬ 4 < (q.1.getD j elmZ).2.2.2.2.1 := by rw [hg]; omega
    refine BT.goes ⟨⟨j + 1, ?_, by omega⟩, ?_⟩
    ·rw [hw, ht, he, ← hg]
     congr 1
     rw [if_neg h5, if_neg h6, Go.PI.wrap_small] <;> rw [hg] <;> omega
    ·dsimp only
     rw [hw]
     omega
   ·rw [hji] at hn
    have hn' : (q.1[j]).2.2.1 = true := by rw [← hg]; simpa using hn
    have he : mx q.1[j] = 0 := by unfold mx; rw [hn']; rfl
    refine BT.goes ⟨⟨j + 1, ?_, by omega⟩, ?_⟩
    ·rw [hw, ht, he, Int.add_zero]
    ·dsimp only
     rw [hw]
     omega
  ·have : j = q.1.length := by omega
   subst this
   refine BT.ge (decide_eq_false (by omega)) (BT.ends ?_)
   rw [List.take_length]
 unfold mostQ mostQ_B
 simp only [Br.run, hz]
end
end Go.Proofs.YtiblijkhpmemeaaGreat
