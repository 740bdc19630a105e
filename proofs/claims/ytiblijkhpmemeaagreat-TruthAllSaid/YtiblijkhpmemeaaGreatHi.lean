/- Contracts of functions. Printed by auto.py. The run of pairs, and what variables stand for by pairs: the same. Matches, by what is still to come: elements and events in order, what fits, what must not be there, the window. Contracts of functions. Printed by auto.py. The context of law 23's other statement. Contracts of functions. Printed by auto.py. GuardFits: the statement comes to true. Whether an element can stand for an event: the same on both sides. List's contract, of a chain of pairs. A context: law 23's, and lists of chains of pairs. Contracts of functions. Printed by auto.py. -/
import Derived.Test.YtiblijkhpmemeaaGreatGe
import Derived.Test.YtiblijkhpmemeaaGreatHf
import Derived.Test.YtiblijkhpmemeaaGreatHa
import Derived.Test.YtiblijkhpmemeaaGreatHh
import Derived.Test.YtiblijkhpmemeaaGreatTmB
import Derived.Test.YtiblijkhpmemeaaGreatF2a
import Derived.Test.YtiblijkhpmemeaaGreatHe
namespace Go.Proofs.YtiblijkhpmemeaaGreat
set_option maxRecDepth 100000
open Go.PI Go
noncomputable def find1_B : (zA2 × (Int × Unit)) → Br (Bool × Unit) := fun (p0, p1, ()) =>
 (.ret (p0.2.2.2.1 == p1, ()))
noncomputable def find1 := fun x => (find1_B x).run
theorem find1_oc : OC Tryz.prog 67 [(false, .ty true zA9), (false, .rf (.int .i64))] [.ty false .bool] find1 := OC.lp en_againR 1024 Tryz.func67 [] (by kernel_rfl) trivial (fun _ => by kernel_rfl)
noncomputable def cx_find1 : Ctx := ocx cx_againR find1_oc
theorem en_find1 : EnvFull Tryz.prog cx_find1 := ocn en_againR find1_oc
noncomputable def idxEvT_l0 : ((List zA2) × ((Int × Unit) × (Int × (Int × Unit)))) → Br (((List zA2) × ((Int × Unit) × (Int × (Int × Unit)))) ⊕ ((Int × Unit) ⊕ Unit)) := fun (a, b, c, d, ()) =>
 (.cond (decide (d < c))
 (.cond (decide (0 ≤ d) && decide (d < (↑(List.length a) : Int)))
 (.opt (find1 (List.getD a (Int.toNat d) zV1, b.1, ())) fun e =>
 (.cond e.1
 (.ret (.inr (.inl (d, ()))))
 (.ret (.inl (a, (b.1, ()), c, IntKind.wrap .i64 (d + 1), ())))))
 (.no))
 (.ret (.inr (.inr (())))))
noncomputable def idxEvT_w0 := iterO fun x => (idxEvT_l0 x).run
noncomputable def idxEvT_B : ((List zA2) × (Int × Unit)) → Br (Int × Unit) := fun (p0, p1, ()) =>
 (.opt (idxEvT_w0 (p0, (p1, ()), (↑(List.length p0) : Int), 0, ())) fun a =>
 (.sum a (fun b =>
 (.ret (b.1, ()))) (fun c =>
 (.ret (-1, ())))))
noncomputable def idxEvT := fun x => (idxEvT_B x).run
noncomputable def idxEvT_L : List Lp := [
 .mk 2 (shO 19 [] [] [.slot 0 true (.sl zA9), .cap 1 67 [(.int .i64)], sI 7, sI 8] []) ([exO .ret 19 [] [] [sI 4] [], exO (.exit 0) 19 [] [] [] []]) idxEvT_l0]
theorem idxEvT_oc : OC Tryz.prog 66 [(false, .ty true (.sl zA9)), (false, .fn 67 (.rf (.int .i64)))] [.ty false (.int .i64)] idxEvT := OC.lp en_find1 1024 Tryz.func66 idxEvT_L (by kernel_rfl) ⟨fun _ => by kernel_rfl, trivial⟩ (fun _ => by kernel_rfl)
noncomputable def cx_idxEvT : Ctx := ocx cx_find1 idxEvT_oc
theorem en_idxEvT : EnvFull Tryz.prog cx_idxEvT := ocn en_find1 idxEvT_oc
noncomputable def findT_B : ((List zA2) × (Int × Unit)) → Br ((zA2 × Int) × Unit) := fun (p0, p1, ()) =>
 (.opt (idxEvT (p0, p1, ())) fun y3 =>
 (.cond (decide (y3.1 < 0))
 (.ret ((zV1, -1), ()))
 (.cond (decide (0 ≤ y3.1) && decide (y3.1 < (↑(List.length p0) : Int)))
 (.ret ((List.getD p0 (Int.toNat y3.1) zV1, y3.1), ()))
 (.no))))
noncomputable def findT := fun x => (findT_B x).run
theorem findT_oc : OC Tryz.prog 35 [(false, .ty false (.sl zA9)), (false, .ty false (.int .i64))] [.ty false zA9, .ty false (.int .i64)] findT := OC.lp en_idxEvT 1024 Tryz.func35 [] (by kernel_rfl) trivial (fun _ => by kernel_rfl)
noncomputable def cx_findT : Ctx := ocx cx_idxEvT findT_oc
theorem en_findT : EnvFull Tryz.prog cx_findT := ocn en_idxEvT findT_oc
noncomputable def envT_l0 : zT12 → Br (zT12 ⊕ (zA21 × Unit)) := fun (a, b, c, d, e, f, g, ()) =>
 (.cond (decide (e < d))
 (.cond (decide (0 ≤ e) && decide (e < (↑(List.length c) : Int)))
 (.cond (decide ((List.getD c (Int.toNat e) (0, 0)).1 < 0))
 (.ret (.inl (a, b, c, d, IntKind.wrap .i64 (e + 1), f, g, ())))
 (.cond (decide ((List.getD c (Int.toNat e) (0, 0)).1 ≥ (↑(List.length f.1) : Int)))
 (.ret (.inl (a, b, c, d, IntKind.wrap .i64 (e + 1), f, g, ())))
 (.cond (decide ((List.getD c (Int.toNat e) (0, 0)).1 ≥ b))
 (.ret (.inl (a, b, c, d, IntKind.wrap .i64 (e + 1), f, g, ())))
 (.cond (decide (0 ≤ (List.getD c (Int.toNat e) (0, 0)).1) && decide ((List.getD c (Int.toNat e) (0, 0)).1 < (↑(List.length f.1) : Int)))
 (.cond ((List.getD f.1 (Int.toNat (List.getD c (Int.toNat e) (0, 0)).1) zV2).2.2.2.2.1 != 1)
 (.ret (.inl (a, b, c, d, IntKind.wrap .i64 (e + 1), f, g, ())))
 (.opt (findT (a, (List.getD c (Int.toNat e) (0, 0)).2, ())) fun h =>
 (.cond (decide (h.1.2 ≥ 0))
 (.cond (decide (0 ≤ (List.getD c (Int.toNat e) (0, 0)).1) && decide ((List.getD c (Int.toNat e) (0, 0)).1 < (↑(List.length f.1) : Int)))
 (.cond (decide ((List.length g + List.length (List.set (List.replicate 1 zV3) 0 ((List.getD f.1 (Int.toNat (List.getD c (Int.toNat e) (0, 0)).1) zV2).1, h.1.1))) * 88 ≤ 140737488355328))
 (.ret (.inl (a, b, c, d, IntKind.wrap .i64 (e + 1), f, g ++ List.set (List.replicate 1 zV3) 0 ((List.getD f.1 (Int.toNat (List.getD c (Int.toNat e) (0, 0)).1) zV2).1, h.1.1), ())))
 (.no))
 (.no))
 (.ret (.inl (a, b, c, d, IntKind.wrap .i64 (e + 1), f, g, ()))))))
 (.no)))))
 (.no))
 (.ret (.inr (g, ()))))
noncomputable def envT_w0 := iterO fun x => (envT_l0 x).run
noncomputable def envT_B : (zA10 × ((List zA2) × zT2)) → Br (zA21 × Unit) := fun (p0, p1, p2, p3, ()) =>
 (.opt (envT_w0 (p1, p3, p2, (↑(List.length p2) : Int), 0, p0, [], ())) fun a =>
 (.ret (a.1, ())))
noncomputable def envT := fun x => (envT_B x).run
noncomputable def envT_L : List Lp := [
 .mk 3 (shO 70 [(4, .c (.ref 1028 0 0)), (9, .c (.mfull 1724))] [(1028, []), (1724, [])] [.slot 1 false (.sl zA9), sI 3, .slot 14 true (.sl zA16), sI 15, sI 16, .tv 1028 true zA5, .ar 1724 false 54 (.st (.pair .str zA9))] [9]) ([exO (.exit 0) 70 [(9, .c (.mfull 1725))] [(1725, [])] [.ar 1725 false 54 (.st (.pair .str zA9))] [9]]) envT_l0]
theorem envT_oc : OC Tryz.prog 14 [(false, .ty true zA5), (false, .ty false (.sl zA9)), (false, .ty true (.sl zA16)), (false, .ty false (.int .i64))] [.row 54 (.st (.pair .str zA9))] envT := OC.lp en_findT 1024 Tryz.func14 envT_L (by kernel_rfl) ⟨fun _ => by kernel_rfl, trivial⟩ (fun _ => by kernel_rfl)
noncomputable def cx_envT : Ctx := ocx cx_findT envT_oc
theorem en_envT : EnvFull Tryz.prog cx_envT := ocn en_findT envT_oc
noncomputable def fitsT_B : ((Option zA11) × (zA10 × ((List zA2) × ((List (Int × Int)) × (Int × (zA2 × Unit)))))) → Br (Bool × Unit) := fun (p0, p1, p2, p3, p4, p5, ()) =>
 (.cond (decide (0 ≤ p4) && decide (p4 < (↑(List.length p1.1) : Int)))
 (.opt (hasStr ((List.getD p1.1 (Int.toNat p4) zV2).2.1, p5.1, ())) fun y9 =>
 (.cond (!y9.1)
 (.ret (false, ()))
 (.opt (envT (p1, p2, p3, p4, ())) fun a =>
 (.cond (decide ((List.length a.1 + List.length (List.set (List.replicate 1 zV3) 0 ((List.getD p1.1 (Int.toNat p4) zV2).1, p5))) * 88 ≤ 140737488355328))
 (.opt (holdsF (p0, (List.getD p1.1 (Int.toNat p4) zV2).2.2.2.2.2, a.1 ++ List.set (List.replicate 1 zV3) 0 ((List.getD p1.1 (Int.toNat p4) zV2).1, p5), ())) fun b =>
 (.ret (b.1, ())))
 (.no)))))
 (.no))
noncomputable def fitsT := fun x => (fitsT_B x).run
theorem fitsT_oc : OC Tryz.prog 15 [(false, .ty true zA17), (false, .ty true zA5), (false, .ty false (.sl zA9)), (false, .ty true (.sl zA16)), (false, .ty false (.int .i64)), (false, .ty false zA9)] [.ty false .bool] fitsT := OC.lp en_envT 1024 Tryz.func15 [] (by kernel_rfl) trivial (fun _ => by kernel_rfl)
noncomputable def cx_fitsT : Ctx := ocx cx_envT fitsT_oc
theorem en_fitsT : EnvFull Tryz.prog cx_fitsT := ocn en_envT fitsT_oc
end Go.Proofs.YtiblijkhpmemeaaGreat

namespace Go.Proofs.YtiblijkhpmemeaaGreat
open Go.PI Go
def evOf (x : List Evt) (s : Int) : Option Evt := x.find? fun e => e.2.2.2.1 == s
theorem idxEvT_at (x : List Evt) (hx : x.length ≤ 1000) (s : Int) : ∃ i : Int, idxEvT (x, s, ()) = some (i, ()) ∧ ((i = -1 ∧ evOf x s = none) ∨ (0 ≤ i ∧ i < x.length ∧ evOf x s = some (x.getD i.toNat evZ))) := by
 unfold idxEvT idxEvT_B
 obtain ⟨z, hz, hq⟩ : ∃ z, idxEvT_w0 (x, (s, ()), (x.length : Int), 0, ()) = some z ∧ ((∃ i : Int, z = .inl (i, ()) ∧ 0 ≤ i ∧ i < x.length ∧ evOf x s = some (x.getD i.toNat evZ)) ∨ (z = .inr () ∧ evOf x s = none)) := by
  refine iterO_bt (step := idxEvT_l0) (fun y => ∃ i : Int, y = (x, (s, ()), (x.length : Int), i, ()) ∧ 0 ≤ i ∧ i ≤ x.length ∧ evOf x s = evOf (x.drop i.toNat) s) (fun y => ((x.length : Int) - y.2.2.2.1).toNat) _ ?_ _ ⟨0, rfl, Int.le_refl 0, by omega, rfl⟩
  rintro y ⟨i, rfl, h0, h1, h2⟩
  unfold idxEvT_l0
  by_cases hi : i < (x.length : Int)
  ·have hw : IntKind.wrap .i64 (i + 1) = i + 1 := Go.PI.wrap_small (by omega) (by omega)
   rw [drop_get x i evZ h0 hi] at h2
   refine BT.lt (decide_eq_true hi) (BT.yes (in2 h0 hi) (BT.opt ⟨_, rfl, BT.cond (fun hb => BT.ends (.inl ⟨i, rfl, h0, hi, ?_⟩)) (fun hb => BT.goes ⟨⟨i + 1, by rw [hw], by omega, by omega, ?_⟩, ?_⟩)⟩))
   ·rw [h2]
    show List.find? _ _ = _
    rw [List.find?_cons, show ((x.getD i.toNat evZ).2.2.2.1 == s) = true from hb]
   ·rw [h2]
    show List.find? _ _ = _
    rw [List.find?_cons, show ((x.getD i.toNat evZ).2.2.2.1 == s) = false from hb]
    rfl
   ·dsimp only
    rw [hw]
    omega
  ·refine BT.ge (decide_eq_false hi) (BT.ends (.inr ⟨rfl, ?_⟩))
   rw [h2, List.drop_eq_nil_of_le (by omega)]
   rfl
 simp only [Br.run, hz]
 rcases hq with ⟨i, rfl, k⟩ | ⟨rfl, k⟩
 ·exact ⟨i, rfl, .inr k⟩
 ·exact ⟨-1, rfl, .inl ⟨rfl, k⟩⟩
def pick (q : Qry) (x : List Evt) (p : Prs) : Option Bnd := match evOf x p.2 with
 | some e => if 0 ≤ p.1 ∧ p.1 < q.1.length ∧ (q.1.getD p.1.toNat elmZ).2.2.2.2.1 = 1 then some ((q.1.getD p.1.toNat elmZ).1, e) else none
 | none => none
def pickT (q : Qry) (x : List Evt) (a : Int) (p : Prs) : Option Bnd := if p.1 < a then pick q x p else none
theorem findT_at (x : List Evt) (hx : x.length ≤ 1000) (s : Int) : ∃ (e : Evt) (i : Int), findT (x, s, ()) = some ((e, i), ()) ∧ ((i = -1 ∧ evOf x s = none) ∨ (0 ≤ i ∧ i < x.length ∧ e = x.getD i.toNat evZ ∧ evOf x s = some e)) := by
 unfold findT findT_B
 obtain ⟨i, h1, h2⟩ := idxEvT_at x hx s
 rcases h2 with ⟨rfl, h2⟩ | ⟨i0, i1, h2⟩
 ·simp only [Br.run, h1, show decide ((-1 : Int) < 0) = true from rfl, cond_true]
  exact ⟨_, _, rfl, .inl ⟨rfl, h2⟩⟩
 ·have hn : ¬ i < 0 := by omega
  simp only [Br.run, h1, decide_eq_false hn, cond_false, decide_eq_true i0, decide_eq_true i1, Bool.and_self, cond_true]
  exact ⟨_, _, rfl, .inr ⟨i0, i1, rfl, h2⟩⟩
theorem envT_at (q : Qry) (x : List Evt) (hx : x.length ≤ 1000) (m : List Prs) (hm : m.length ≤ 1000) (a : Int) : envT (q, x, m, a, ()) = some (m.filterMap (pickT q x a), ()) := by
 unfold envT envT_B
 obtain ⟨z, hz, rfl⟩ : ∃ z, envT_w0 (x, a, m, (m.length : Int), 0, q, [], ()) = some z ∧ z = (m.filterMap (pickT q x a), ()) := by
  refine iterO_bt (step := envT_l0) (fun y => ∃ (i : Int) (acc : List Bnd), y = (x, a, m, (m.length : Int), i, q, acc, ()) ∧ 0 ≤ i ∧ i ≤ m.length ∧ (acc.length : Int) ≤ i ∧ m.filterMap (pickT q x a) = acc ++ (m.drop i.toNat).filterMap (pickT q x a)) (fun y => ((m.length : Int) - y.2.2.2.2.1).toNat) _ ?_ _ ⟨0, [], rfl, Int.le_refl 0, by omega, by simp, rfl⟩
  rintro y ⟨i, acc, rfl, h0, h1, h2, h3⟩
  unfold envT_l0
  by_cases hi : i < (m.length : Int)
  ·have hw : IntKind.wrap .i64 (i + 1) = i + 1 := Go.PI.wrap_small (by omega) (by omega)
   rw [drop_get m i (0, 0) h0 hi, List.filterMap_cons] at h3
   refine BT.lt (decide_eq_true hi) (BT.yes (in2 h0 hi) ?_)
   generalize m.getD i.toNat (0, 0) = p at h3 ⊢
   have go : ∀ acc' : List Bnd, (acc'.length : Int) ≤ i + 1 → m.filterMap (pickT q x a) = acc' ++ (m.drop (i + 1).toNat).filterMap (pickT q x a) →
     BT (fun s : _ ⊕ _ => (∃ y, s = .inl y ∧ (∃ (i : Int) (acc : List Bnd), y = (x, a, m, (m.length : Int), i, q, acc, ()) ∧ 0 ≤ i ∧ i ≤ m.length ∧ (acc.length : Int) ≤ i ∧ m.filterMap (pickT q x a) = acc ++ (m.drop i.toNat).filterMap (pickT q x a)) ∧ ((m.length : Int) - y.2.2.2.2.1).toNat < ((m.length : Int) - i).toNat) ∨ ∃ z : List Bnd × Unit, s = .inr z ∧ z = (m.filterMap (pickT q x a), ()))
      (.ret (.inl (x, a, m, (m.length : Int), IntKind.wrap .i64 (i + 1), q, acc', ()))) := by
    intro acc' k1 k2
    refine BT.goes ⟨⟨i + 1, acc', by rw [hw], by omega, by omega, k1, k2⟩, ?_⟩
    dsimp only
    rw [hw]
    omega
   have skip : pickT q x a p = none → _ := fun h => go acc (by omega) (by rw [h3, h])
   refine BT.cond (fun c => skip ?_) (fun c1 => BT.cond (fun c => skip ?_) (fun c2 => BT.cond (fun c => skip ?_) (fun c3 => ?_)))
   ·have c := of_decide_eq_true c
    unfold pickT pick
    split
    ·split
     ·exact if_neg (by omega)
     ·rfl
    ·rfl
   ·have c := of_decide_eq_true c
    unfold pickT pick
    split
    ·split
     ·exact if_neg (by omega)
     ·rfl
    ·rfl
   ·have c := of_decide_eq_true c
    unfold pickT
    exact if_neg (by omega)
   ·have c1 := of_decide_eq_false c1
    have c2 := of_decide_eq_false c2
    have c3 := of_decide_eq_false c3
    have p0 : 0 ≤ p.1 := by omega
    have p1 : p.1 < (q.1.length : Int) := by omega
    refine BT.yes (in2 p0 p1) (BT.cond (fun c => skip ?_) (fun c4 => ?_))
    ·have c : ¬ (q.1.getD p.1.toNat elmZ).2.2.2.2.1 = 1 := bne_iff_ne.1 c
     unfold pickT pick
     split
     ·split
      ·exact if_neg (by omega)
      ·rfl
     ·rfl
    ·have c4 : (q.1.getD p.1.toNat elmZ).2.2.2.2.1 = 1 := by simpa using c4
     obtain ⟨e, j, f1, f2⟩ := findT_at x hx p.2
     refine BT.opt ⟨_, f1, ?_⟩
     rcases f2 with ⟨rfl, f2⟩ | ⟨j0, j1, -, f2⟩
     ·refine BT.ge (decide_eq_false (show ¬ (-1 : Int) ≥ 0 by decide)) (skip ?_)
      unfold pickT pick
      rw [f2, ite_self]
     ·refine BT.lt (decide_eq_true (show j ≥ 0 from j0)) (BT.yes (in2 p0 p1) (BT.yes (decide_eq_true ?_) (go _ ?_ ?_)))
      ·show (acc.length + 1) * 88 ≤ 140737488355328
       omega
      ·show (((acc ++ [_]).length : Nat) : Int) ≤ i + 1
       rw [List.length_append, List.length_singleton]; omega
      ·have hp : pickT q x a p = some ((q.1.getD p.1.toNat elmZ).1, e) := by
        unfold pickT pick
        rw [f2, if_pos (by omega)]
        exact if_pos ⟨p0, p1, c4⟩
       rw [h3, hp]
       show acc ++ ((q.1.getD p.1.toNat elmZ).1, e) :: _ = (acc ++ [((q.1.getD p.1.toNat elmZ).1, e)]) ++ _
       rw [List.append_assoc]
       rfl
  ·refine BT.ge (decide_eq_false hi) (BT.ends ?_)
   rw [List.drop_eq_nil_of_le (by omega)] at h3
   rw [h3]
   simp
 simp only [Br.run, hz]
end Go.Proofs.YtiblijkhpmemeaaGreat

namespace Go.Proofs.YtiblijkhpmemeaaGreat
open Go.PI Go
def Suf (q : Qry) (l : List Evt) (f0 : Int) : Int → Int → List Bnd → Int → List Prs → Prop
 | a, h, _, _, [] => minI q a ≤ h ∧ NoNxt q a
 | a, h, env, fr, (p, s) :: r => ∃ i : Int, fr ≤ i ∧ i < l.length ∧ seqI l i = s ∧ timI l i - f0 ≤ q.2.1 ∧ FitsI q l p i env ∧
   ((p = a ∧ h < maxI q a ∧ Suf q l f0 a (h + 1) (envNext (q.1.getD a.toNat elmZ) env (l.getD i.toNat evZ)) (i + 1) r) ∨
    (minI q a ≤ h ∧ Nxt q a p ∧ (∀ j, fr ≤ j → j < i → ∀ u, a < u → u < p → ¬ FitsI q l u j env) ∧ Suf q l f0 p 1 (envNext (q.1.getD p.toNat elmZ) env (l.getD i.toNat evZ)) (i + 1) r))
section
variable {q : Qry} {l : List Evt} {f0 : Int}
theorem FE.suf {a h : Int} {m : List Prs} {env : List Bnd} {fr : Int} {mm : List Prs} (hf : FE q l a h m env f0 fr mm) : ∃ r, mm = m ++ r ∧ Suf q l f0 a h env fr r := by
 induction hf with
 | stop h1 h2 => exact ⟨[], by simp, h1, h2⟩
 | cross k i h1 h2 h3 h4 h5 h6 h7 h8 ih =>
  obtain ⟨r, e, hs⟩ := ih
  exact ⟨(k, seqI l i) :: r, by rw [e]; simp, i, h3, h4, rfl, h5, h6, .inr ⟨h1, h2, h7, hs⟩⟩
 | @more a h m env f0 fr mm i h1 h3 h4 h5 h6 h8 ih =>
  obtain ⟨r, e, hs⟩ := ih
  exact ⟨(a, seqI l i) :: r, by rw [e]; simp, i, h3, h4, rfl, h5, h6, .inl ⟨rfl, h1, hs⟩⟩
theorem Suf.fe : ∀ (r : List Prs) {a h : Int} {m : List Prs} {env : List Bnd} {fr : Int}, Suf q l f0 a h env fr r → FE q l a h m env f0 fr (m ++ r)
 | [], a, h, m, env, fr, hs => by rw [List.append_nil]; exact .stop hs.1 hs.2
 | (p, s) :: r, a, h, m, env, fr, hs => by
  obtain ⟨i, i0, i1, rfl, w, f, ⟨rfl, h1, hs⟩ | ⟨h1, h2, h3, hs⟩⟩ := hs
  ·have := Suf.fe r (m := m ++ [(p, seqI l i)]) hs
   rw [List.append_assoc] at this
   exact .more i h1 i0 i1 w f this
  ·have := Suf.fe r (m := m ++ [(p, seqI l i)]) hs
   rw [List.append_assoc] at this
   exact .cross p i h1 h2 i0 i1 w f h3 this
def At (l : List Evt) (s i : Int) : Prop := 0 ≤ i ∧ i < l.length ∧ seqI l i = s
open Classical in
noncomputable def idx (l : List Evt) (s : Int) : Int := if h : ∃ i, At l s i then h.choose else -1
theorem idx_some {s : Int} (h : 0 ≤ idx l s) : At l s (idx l s) := by
 unfold idx at h ⊢
 split at h
 ·rename_i h1
  rw [dif_pos h1]
  exact h1.choose_spec
 ·omega
theorem At.uniq (hx : l.Pairwise (fun a b => a.2.2.2.1 ≠ b.2.2.2.1)) {s i j : Int} (hi : At l s i) (hj : At l s j) : i = j := by
 obtain ⟨i0, i1, i2⟩ := hi
 obtain ⟨j0, j1, j2⟩ := hj
 have key : ∀ (a b : Nat) (ha : a < l.length) (hb : b < l.length), a < b → (l.getD a evZ).2.2.2.1 ≠ (l.getD b evZ).2.2.2.1 := fun a b ha hb hab => by
  rw [getD_in _ _ _ ha, getD_in _ _ _ hb]
  exact List.pairwise_iff_getElem.1 hx a b ha hb hab
 have e : seqI l i = seqI l j := i2.trans j2.symm
 rcases Int.lt_trichotomy i j with c | c | c
 ·exact absurd e (key i.toNat j.toNat (by omega) (by omega) (by omega))
 ·exact c
 ·exact absurd e.symm (key j.toNat i.toNat (by omega) (by omega) (by omega))
theorem At.idx (hx : l.Pairwise (fun a b => a.2.2.2.1 ≠ b.2.2.2.1)) {s i : Int} (hi : At l s i) : idx l s = i := by
 have h : ∃ i, At l s i := ⟨i, hi⟩
 unfold Go.Proofs.YtiblijkhpmemeaaGreat.idx
 rw [dif_pos h]
 exact At.uniq hx h.choose_spec hi
theorem idx_none {s : Int} (h : ¬ ∃ i, At l s i) : idx l s = -1 := by unfold idx; rw [dif_neg h]
theorem evOf_some {s : Int} {e : Evt} (h : evOf l s = some e) : e ∈ l ∧ e.2.2.2.1 = s := ⟨List.mem_of_find?_eq_some h, by have := List.find?_some h; simpa using this⟩
theorem At.ev (hx : l.Pairwise (fun a b => a.2.2.2.1 ≠ b.2.2.2.1)) {s i : Int} (hi : At l s i) : evOf l s = some (l.getD i.toNat evZ) := by
 obtain ⟨i0, i1, i2⟩ := id hi
 cases he : evOf l s with
 | none =>
  have hlt : i.toNat < l.length := by omega
  have := List.find?_eq_none.1 he (l.getD i.toNat evZ) (by rw [getD_in _ _ _ hlt]; exact List.getElem_mem hlt)
  exact absurd (show ((l.getD i.toNat evZ).2.2.2.1 == s) = true by rw [beq_iff_eq]; exact i2) this
 | some e =>
  obtain ⟨h1, h2⟩ := evOf_some he
  obtain ⟨j, hj, rfl⟩ := List.getElem_of_mem h1
  have hA : At l s j := ⟨by omega, by omega, by show (l.getD (j : Int).toNat evZ).2.2.2.1 = s; rw [show ((j : Int)).toNat = j by omega, getD_in _ _ _ hj]; exact h2⟩
  have := At.uniq hx hi hA
  subst this
  rw [show ((j : Int)).toNat = j by omega, getD_in _ _ _ hj]
def SegO (q : Qry) (l : List Evt) : Int → Int → Int → List Prs → Prop
 | a, h, _, [] => minI q a ≤ h ∧ h ≤ maxI q a ∧ NoNxt q a
 | a, h, fr, (p, s) :: r => fr ≤ idx l s ∧ ((p = a ∧ SegO q l a (h + 1) (idx l s + 1) r) ∨ (p ≠ a ∧ minI q a ≤ h ∧ h ≤ maxI q a ∧ Nxt q a p ∧ SegO q l p 1 (idx l s + 1) r))
theorem SegO.le : ∀ {r : List Prs} {a h fr : Int}, SegO q l a h fr r → h ≤ maxI q a
 | [], _, _, _, hs => hs.2.1
 | (p, s) :: r, a, h, fr, hs => by
  obtain ⟨-, ⟨-, hs⟩ | ⟨-, -, h1, -⟩⟩ := hs
  ·have := hs.le; omega
  ·exact h1
theorem SegO.ge : ∀ {r : List Prs} {a h fr : Int}, SegO q l a h fr r → ∀ x ∈ r, fr ≤ idx l x.2 ∧ a ≤ x.1 ∧ (0 ≤ a → a < q.1.length → x.1 < q.1.length)
 | (p, s) :: r, a, h, fr, hs, x, hx => by
  obtain ⟨h0, hs⟩ := hs
  rcases List.mem_cons.1 hx with rfl | hx
  ·refine ⟨h0, ?_⟩
   rcases hs with ⟨rfl, -⟩ | ⟨-, -, -, hn, -⟩
   ·exact ⟨Int.le_refl _, fun _ h => h⟩
   ·exact ⟨Int.le_of_lt hn.1, fun _ _ => hn.2.1⟩
  ·rcases hs with ⟨rfl, hs⟩ | ⟨-, -, -, hn, hs⟩
   ·have := hs.ge x hx
    exact ⟨by omega, this.2⟩
   ·have := hs.ge x hx
    have h1 := hn.1
    have h2 := hn.2.1
    exact ⟨by omega, by omega, fun _ _ => this.2.2 (by omega) h2⟩
theorem SegO.last : ∀ {r : List Prs} {a h fr : Int} {z : Prs}, SegO q l a h fr r → r.getLast? = some z → ∀ x ∈ r, idx l x.2 ≤ idx l z.2
 | [(p, s)], a, h, fr, z, _, hz, x, hx => by
  obtain rfl : (p, s) = z := by simpa using hz
  obtain rfl := List.mem_singleton.1 hx
  exact Int.le_refl _
 | (p, s) :: y :: r, a, h, fr, z, hs, hz, x, hx => by
  have hz' : (y :: r).getLast? = some z := by simpa using hz
  have hzm : z ∈ y :: r := List.mem_of_getLast? hz'
  obtain ⟨-, hs⟩ := hs
  rcases hs with ⟨rfl, hs⟩ | ⟨-, -, -, -, hs⟩
  ·rcases List.mem_cons.1 hx with rfl | hx
   ·have := (hs.ge z hzm).1; dsimp only; omega
   ·exact hs.last hz' x hx
  ·rcases List.mem_cons.1 hx with rfl | hx
   ·have := (hs.ge z hzm).1; dsimp only; omega
   ·exact hs.last hz' x hx
def Pos (q : Qry) (l : List Evt) (pre : List Prs) (p s : Int) : Prop := FitsI q l p (idx l s) (pre.filterMap (pick q l)) ∧ ∀ a s0, pre.getLast? = some (a, s0) → a ≠ p → ∀ j, idx l s0 < j → j < idx l s → ∀ u, a < u → u < p → ¬ FitsI q l u j (pre.filterMap (pick q l))
def AllPos (q : Qry) (l : List Evt) : List Prs → List Prs → Prop
 | _, [] => True
 | pre, (p, s) :: r => Pos q l pre p s ∧ AllPos q l (pre ++ [(p, s)]) r
theorem envNext_pick (hx : l.Pairwise (fun a b => a.2.2.2.1 ≠ b.2.2.2.1)) {s i : Int} (hi : At l s i) (pre : List Prs) (p : Int) (h0 : 0 ≤ p) (h1 : p < q.1.length) : envNext (q.1.getD p.toNat elmZ) (pre.filterMap (pick q l)) (l.getD i.toNat evZ) = (pre ++ [(p, s)]).filterMap (pick q l) := by
 rw [List.filterMap_append]
 have e := hi.ev hx
 unfold envNext
 by_cases c : (q.1.getD p.toNat elmZ).2.2.2.2.1 = 1
 ·rw [if_pos c]
  congr 1
  simp only [List.filterMap_cons, List.filterMap_nil, pick, e, if_pos (And.intro h0 (And.intro h1 c))]
 ·rw [if_neg c]
  have : [(p, s)].filterMap (pick q l) = [] := by
   simp only [List.filterMap_cons, List.filterMap_nil, pick, e]
   rw [if_neg (fun h => c h.2.2)]
  rw [this, List.append_nil]
theorem suf_iff (hq : QGood q) (hx : l.Pairwise (fun a b => a.2.2.2.1 ≠ b.2.2.2.1)) : ∀ (r pre : List Prs) (a s0 h : Int), pre.getLast? = some (a, s0) → 0 ≤ idx l s0 → 0 ≤ a → a < q.1.length → h ≤ maxI q a →
  (Suf q l f0 a h (pre.filterMap (pick q l)) (idx l s0 + 1) r ↔ SegO q l a h (idx l s0 + 1) r ∧ AllPos q l pre r ∧ ∀ x ∈ r, timI l (idx l x.2) - f0 ≤ q.2.1) := by
 intro r
 induction r with
 | nil => exact fun pre a s0 h _ _ _ _ hm => ⟨fun ⟨h1, h2⟩ => ⟨⟨h1, hm, h2⟩, trivial, fun x hx => by simp at hx⟩, fun ⟨⟨h1, _, h2⟩, _⟩ => ⟨h1, h2⟩⟩
 | cons y r ih =>
  obtain ⟨p, s⟩ := y
  intro pre a s0 h hl hs0 a0 a1 hm
  have hlast : (pre ++ [(p, s)]).getLast? = some (p, s) := by simp
  constructor
  ·rintro ⟨i, i0, i1, es, w, f, hc⟩
   have hA : At l s i := ⟨by omega, i1, es⟩
   have hid := hA.idx hx
   subst hid
   have hi0 : 0 ≤ idx l s := by omega
   rcases hc with ⟨rfl, h1, hs⟩ | ⟨h1, h2, h3, hs⟩
   ·rw [envNext_pick hx hA pre p a0 a1] at hs
    obtain ⟨k1, k2, k3⟩ := (ih (pre ++ [(p, s)]) p s (h + 1) hlast hi0 a0 a1 (by omega)).1 hs
    refine ⟨⟨i0, .inl ⟨rfl, k1⟩⟩, ⟨⟨f, fun a' s' h' hne => ?_⟩, k2⟩, fun x hx' => ?_⟩
    ·rw [hl] at h'
     cases h'
     exact absurd rfl hne
    ·rcases List.mem_cons.1 hx' with rfl | hx'
     ·exact w
     ·exact k3 x hx'
   ·have hp0 := h2.1
    have hp1 := h2.2.1
    rw [envNext_pick hx hA pre p (by omega) hp1] at hs
    have hE := hq.get p (by omega) hp1
    obtain ⟨k1, k2, k3⟩ := (ih (pre ++ [(p, s)]) p s 1 hlast hi0 (by omega) hp1 (by show 1 ≤ (q.1.getD p.toNat elmZ).2.2.2.2.1; have := hE.2.1; have := hE.2.2.1; omega)).1 hs
    refine ⟨⟨i0, .inr ⟨by omega, h1, hm, h2, k1⟩⟩, ⟨⟨f, fun a' s' h' hne j j0 j1 => ?_⟩, k2⟩, fun x hx' => ?_⟩
    ·rw [hl] at h'
     cases h'
     exact h3 j (by omega) j1
    ·rcases List.mem_cons.1 hx' with rfl | hx'
     ·exact w
     ·exact k3 x hx'
  ·rintro ⟨⟨i0, hc⟩, ⟨⟨f, g⟩, k2⟩, k3⟩
   have hi0 : 0 ≤ idx l s := by omega
   have hA := idx_some hi0
   refine ⟨idx l s, i0, hA.2.1, hA.2.2, k3 (p, s) (List.mem_cons_self ..), f, ?_⟩
   have k3' : ∀ x ∈ r, timI l (idx l x.2) - f0 ≤ q.2.1 := fun x hx' => k3 x (List.mem_cons_of_mem _ hx')
   rcases hc with ⟨rfl, hs⟩ | ⟨hne, h1, h2, hn, hs⟩
   ·have hle := hs.le
    refine .inl ⟨rfl, hle, ?_⟩
    rw [envNext_pick hx hA pre p a0 a1]
    exact (ih (pre ++ [(p, s)]) p s (h + 1) hlast hi0 a0 a1 hle).2 ⟨hs, k2, k3'⟩
   ·have hp0 := hn.1
    have hp1 := hn.2.1
    refine .inr ⟨h1, hn, fun j j0 j1 => g a s0 hl (by omega) j (by omega) j1, ?_⟩
    rw [envNext_pick hx hA pre p (by omega) hp1]
    exact (ih (pre ++ [(p, s)]) p s 1 hlast hi0 (by omega) hp1 hs.le).2 ⟨hs, k2, k3'⟩
theorem fa_iff (hq : QGood q) (hw : 0 ≤ q.2.1) (hx : l.Pairwise (fun a b => a.2.2.2.1 ≠ b.2.2.2.1)) (mm : List Prs) :
  FA q l mm ↔ ∃ p s r, mm = (p, s) :: r ∧ SegO q l 0 0 0 mm ∧ AllPos q l [] mm ∧ ∀ x ∈ mm, timI l (idx l x.2) - timI l (idx l s) ≤ q.2.1 := by
 have hlo := hq.lo
 have hE := hq.get 0 (Int.le_refl 0) (by omega)
 have h1m : 1 ≤ maxI q 0 := by show 1 ≤ (q.1.getD (0 : Int).toNat elmZ).2.2.2.2.1; have := hE.2.1; have := hE.2.2.1; omega
 have hm1 : 1 ≤ minI q 0 := hE.2.1
 constructor
 ·rintro ⟨i, i0, i1, f, hf⟩
  obtain ⟨r, rfl, hs⟩ := hf.suf
  have hA : At l (seqI l i) i := ⟨i0, i1, rfl⟩
  have hid := hA.idx hx
  have e := envNext_pick hx hA [] 0 (Int.le_refl 0) (by omega : (0 : Int) < q.1.length)
  rw [show envNext (q.1.getD 0 elmZ) [] (l.getD i.toNat evZ) = _ from e] at hs
  have hs' : Suf q l (timI l i) 0 1 (([] ++ [((0 : Int), seqI l i)]).filterMap (pick q l)) (idx l (seqI l i) + 1) r := by rw [hid]; exact hs
  obtain ⟨k1, k2, k3⟩ := (suf_iff hq hx r ([] ++ [(0, seqI l i)]) 0 (seqI l i) 1 (by simp) (by omega) (Int.le_refl 0) (by omega) h1m).1 hs'
  refine ⟨0, seqI l i, r, rfl, ⟨by omega, .inl ⟨rfl, k1⟩⟩, ⟨⟨by rw [hid]; exact f, fun a s h => by simp at h⟩, k2⟩, fun x hx' => ?_⟩
  rw [hid]
  rcases List.mem_cons.1 hx' with rfl | hx'
  ·show timI l (idx l (seqI l i)) - timI l i ≤ q.2.1
   rw [hid]; omega
  ·exact k3 x hx'
 ·rintro ⟨p, s, r, rfl, ⟨i0, hc⟩, ⟨⟨f, -⟩, k2⟩, k3⟩
  have hA := idx_some i0
  rcases hc with ⟨rfl, hs⟩ | ⟨-, h1, -⟩
  ·refine ⟨idx l s, i0, hA.2.1, f, ?_⟩
   have e := envNext_pick hx hA [] 0 (Int.le_refl 0) (by omega : (0 : Int) < q.1.length)
   rw [show envNext (q.1.getD 0 elmZ) [] (l.getD (idx l s).toNat evZ) = _ from e]
   have := (suf_iff (f0 := timI l (idx l s)) hq hx r ([] ++ [(0, s)]) 0 s 1 (by simp) i0 (Int.le_refl 0) (by omega) h1m).2 ⟨hs, k2, fun x hx' => k3 x (List.mem_cons_of_mem _ hx')⟩
   rw [hA.2.2]
   exact Suf.fe r (m := [(0, s)]) this
  ·omega
end
end Go.Proofs.YtiblijkhpmemeaaGreat

namespace Go.Proofs.YtiblijkhpmemeaaGreat
open Go.PI Go
end Go.Proofs.YtiblijkhpmemeaaGreat

namespace Go.Proofs.YtiblijkhpmemeaaGreat
open Go.PI Go
noncomputable def cxF3 : Ctx := addO cx_fitsT 13 (ocOrc allM_ins allM_outs allM)
theorem enF3 : EnvFull Tryz.prog cxF3 := env_add en_fitsT allM_oc.callOk
noncomputable def cxF4 : Ctx := cxF3
theorem enF4 : EnvFull Tryz.prog cxF4 := enF3
end Go.Proofs.YtiblijkhpmemeaaGreat

namespace Go.Proofs.YtiblijkhpmemeaaGreat
open Go.PI Go
end Go.Proofs.YtiblijkhpmemeaaGreat

namespace Go.Proofs.YtiblijkhpmemeaaGreat
open Go.PI Go
noncomputable def fitD (q : Qry) (a : Int) (e : Evt) (env : List Bnd) : Option (Bool × Unit) := match hasStr ((q.1.getD a.toNat elmZ).2.1, e.1, ()) with
 | some (true, _) => holdsF (sch3, (q.1.getD a.toNat elmZ).2.2.2.2.2, env ++ [((q.1.getD a.toNat elmZ).1, e)], ())
 | some (false, _) => some (false, ())
 | none => none
theorem fitsT_d {q : Qry} (h : QOk q) (x : List Evt) (hx : x.length ≤ 1000) (m : List Prs) (hm : m.length ≤ 50) (a : Int) (h0 : 0 ≤ a) (h1 : a < q.1.length) (e : Evt) : fitsT (sch3, q, x, m, a, e, ()) = fitD q a e (m.filterMap (pickT q x a)) := by
 have hl : (m.filterMap (pickT q x a)).length ≤ m.length := List.length_filterMap_le ..
 unfold fitsT fitsT_B fitD
 obtain ⟨b, hb⟩ := hasStr_tot _ (qok_get h a.toNat) e.1
 have hb' : hasStr ((q.1.getD a.toNat (ByteArray.empty, [], false, 0, 0, [])).2.1, e.1, ()) = some (b, ()) := hb
 simp only [Br.run, decide_eq_true h0, decide_eq_true h1, Bool.and_self, cond_true, hb', envT_at q x hx m (by omega) a]
 cases b
 ·rfl
 ·obtain ⟨v, hv⟩ := holdsF_tot (q.1.getD a.toNat (ByteArray.empty, [], false, 0, 0, [])).2.2.2.2.2 (m.filterMap (pickT q x a) ++ [((q.1.getD a.toNat (ByteArray.empty, [], false, 0, 0, [])).1, e)]) (by
   rw [List.length_append, List.length_singleton]
   omega)
  have hv' : holdsF (sch3, (q.1.getD a.toNat (ByteArray.empty, [], false, 0, 0, [])).2.2.2.2.2, m.filterMap (pickT q x a) ++ List.set (List.replicate 1 (ByteArray.empty, ByteArray.empty, ByteArray.empty, 0, 0, [])) 0 ((q.1.getD a.toNat (ByteArray.empty, [], false, 0, 0, [])).1, e), ()) = some (v, ()) := hv
  simp only [Bool.not_true, cond_false, Bool.cond_decide]
  rw [if_pos (by
   show ((m.filterMap (pickT q x a)).length + 1) * 88 ≤ 140737488355328
   omega)]
  simp only [hv', Br.run]
  exact hv.symm
theorem filterMap_same {α β : Type} {f g : α → Option β} : ∀ {l : List α}, (∀ a ∈ l, f a = g a) → l.filterMap f = l.filterMap g
 | [], _ => rfl
 | a :: l, h => by
  rw [List.filterMap_cons, List.filterMap_cons, h a (List.mem_cons_self ..), filterMap_same fun b hb => h b (List.mem_cons_of_mem _ hb)]
structure XGood (x : List Evt) : Prop where
 len : x.length ≤ 8
 good : ∀ e ∈ x, EvGood e
end Go.Proofs.YtiblijkhpmemeaaGreat

namespace Go.Proofs.YtiblijkhpmemeaaGreat
open Go.PI Go
theorem ofS_at (l : List ByteArray) (hl : l.length ≤ 1000) (t : ByteArray) : ofS (l, t, ()) = some (l.any (fun x => bl x == bl t), ()) := by
 unfold ofS ofS_B
 obtain ⟨z, hz, h⟩ : ∃ z, ofS_w0 (l, t, 0, ()) = some z ∧ ((z = .inl () ∧ l.any (fun x => bl x == bl t) = true) ∨ (z = .inr () ∧ l.any (fun x => bl x == bl t) = false)) := by
  refine iterO_bt (step := ofS_l0) (fun y => ∃ i : Int, y = (l, t, i, ()) ∧ 0 ≤ i ∧ i ≤ l.length ∧ l.any (fun x => bl x == bl t) = (l.drop i.toNat).any (fun x => bl x == bl t)) (fun y => ((l.length : Int) - y.2.2.1).toNat) _ ?_ _ ⟨0, rfl, Int.le_refl 0, by omega, rfl⟩
  rintro y ⟨i, rfl, h0, h1, h2⟩
  unfold ofS_l0
  by_cases hi : i < (l.length : Int)
  ·have hw : IntKind.wrap .i64 (i + 1) = i + 1 := Go.PI.wrap_small (by omega) (by omega)
   rw [drop_get l i ByteArray.empty h0 hi, List.any_cons] at h2
   refine BT.lt (decide_eq_true hi) (BT.yes (in2 h0 hi) (BT.cond (fun hc => BT.ends (.inl ⟨rfl, ?_⟩)) (fun hc => BT.goes ⟨⟨i + 1, by rw [hw], by omega, by omega, ?_⟩, ?_⟩)))
   ·rw [h2, show (bl (l.getD i.toNat ByteArray.empty) == bl t) = true from hc, Bool.true_or]
   ·rw [h2, show (bl (l.getD i.toNat ByteArray.empty) == bl t) = false from hc, Bool.false_or]
   ·dsimp only
    rw [hw]
    omega
  ·refine BT.ge (decide_eq_false hi) (BT.ends (.inr ⟨rfl, ?_⟩))
   rw [h2, List.drop_eq_nil_of_le (by omega)]
   rfl
 simp only [Br.run, hz]
 rcases h with ⟨rfl, h⟩ | ⟨rfl, h⟩ <;> (rw [h]; rfl)
theorem hasStr_at (l : List ByteArray) (hl : l.length ≤ 1000) (t : ByteArray) : hasStr (l, t, ()) = some (l.any (fun x => bl x == bl t), ()) := by
 unfold hasStr hasStr_B idxStr idxStr_B
 obtain ⟨z, hz, h⟩ : ∃ z, idxStr_w0 (l, t, (l.length : Int), 0, ()) = some z ∧ ((∃ i : Int, z = .inl (i, ()) ∧ 0 ≤ i ∧ l.any (fun x => bl x == bl t) = true) ∨ (z = .inr () ∧ l.any (fun x => bl x == bl t) = false)) := by
  refine iterO_bt (step := idxStr_l0) (fun y => ∃ i : Int, y = (l, t, (l.length : Int), i, ()) ∧ 0 ≤ i ∧ i ≤ l.length ∧ l.any (fun x => bl x == bl t) = (l.drop i.toNat).any (fun x => bl x == bl t)) (fun y => ((l.length : Int) - y.2.2.2.1).toNat) _ ?_ _ ⟨0, rfl, Int.le_refl 0, by omega, rfl⟩
  rintro y ⟨i, rfl, h0, h1, h2⟩
  unfold idxStr_l0
  by_cases hi : i < (l.length : Int)
  ·have hw : IntKind.wrap .i64 (i + 1) = i + 1 := Go.PI.wrap_small (by omega) (by omega)
   rw [drop_get l i ByteArray.empty h0 hi, List.any_cons] at h2
   refine BT.lt (decide_eq_true hi) (BT.yes (in2 h0 hi) (BT.cond (fun hc => BT.ends (.inl ⟨i, rfl, h0, ?_⟩)) (fun hc => BT.goes ⟨⟨i + 1, by rw [hw], by omega, by omega, ?_⟩, ?_⟩)))
   ·have hc : (bl t == bl (l.getD i.toNat ByteArray.empty)) = true := hc
    rw [h2, show (bl (l.getD i.toNat ByteArray.empty) == bl t) = true by rw [beq_iff_eq] at hc ⊢; exact hc.symm, Bool.true_or]
   ·have hc : (bl t == bl (l.getD i.toNat ByteArray.empty)) = false := hc
    rw [h2, show (bl (l.getD i.toNat ByteArray.empty) == bl t) = false by rw [beq_eq_false_iff_ne] at hc ⊢; exact hc.symm, Bool.false_or]
   ·dsimp only
    rw [hw]
    omega
  ·refine BT.ge (decide_eq_false hi) (BT.ends (.inr ⟨rfl, ?_⟩))
   rw [h2, List.drop_eq_nil_of_le (by omega)]
   rfl
 simp only [Br.run, hz]
 rcases h with ⟨i, rfl, h0, h⟩ | ⟨rfl, h⟩
 ·rw [h]
  show some (decide (i ≥ 0), ()) = _
  rw [decide_eq_true (show i ≥ 0 from h0)]
 ·rw [h]
  rfl
theorem QMk.get {q : Qry} (h : QMk q) (i : Int) (h0 : 0 ≤ i) (h1 : i < q.1.length) : EOk3 (q.1.length : Int) i (q.1.getD i.toNat elmZ) := by
 have hlt : i.toNat < q.1.length := by omega
 have := h.es i.toNat (q.1.getD i.toNat elmZ) (by rw [getD_in _ _ _ hlt]; exact List.getElem?_eq_getElem hlt)
 have e : ((i.toNat : Nat) : Int) = i := by omega
 rw [e] at this
 exact this
theorem QMk.good {q : Qry} (h : QMk q) : QGood q := ⟨fun k e he => (h.es k e he).1, h.lo, h.hi⟩
theorem QMk.qok {q : Qry} (h : QMk q) : QOk q := h.good.es.qok
theorem fitD_ref {q : Qry} (hq : QMk q) (a : Int) (h0 : 0 ≤ a) (h1 : a < q.1.length) (e : Evt) (he : EvMk e) (env : List Bnd) (hl : env.length ≤ 50) (hm : EnvMk env) : fitD q a e env = fits20 (q.1.getD a.toNat elmZ, e, env, ()) := by
 have hE := hq.get a h0 h1
 unfold fitD fits20 fits20_B
 rw [hasStr_at _ hE.1.1]
 obtain ⟨b, b1, b2⟩ := hE.2.1 (env ++ [((q.1.getD a.toNat elmZ).1, e)]) (by rw [List.length_append, List.length_singleton]; omega) (fun u hu => by
  rcases List.mem_append.1 hu with h | h
  ·exact hm u h
  ·obtain rfl := List.mem_singleton.1 h
   exact he)
 have hofs := ofS_at (q.1.getD a.toNat elmZ).2.1 hE.1.1 e.1
 cases hany : (q.1.getD a.toNat elmZ).2.1.any (fun x => bl x == bl e.1) with
 | false =>
  rw [hany] at hofs
  simp only [Br.run, hofs, cond_false]
 | true =>
  rw [hany] at hofs
  have g1 : decide ((@List.length (ByteArray × ByteArray × ByteArray × Int × Int × List (Int × Int × ByteArray × Bool)) (List.replicate 0 (ByteArray.empty, ByteArray.empty, ByteArray.empty, 0, 0, [])) + List.length env) * 88 ≤ 140737488355328) = true := decide_eq_true (by show (0 + env.length) * 88 ≤ _; omega)
  have b2' : holdsR ((q.1.getD a.toNat elmZ).2.2.2.2.2, List.replicate 0 (ByteArray.empty, ByteArray.empty, ByteArray.empty, 0, 0, []) ++ env ++ List.set (List.replicate 1 (ByteArray.empty, ByteArray.empty, ByteArray.empty, 0, 0, [])) 0 ((q.1.getD a.toNat elmZ).1, e), ()) = some (b, ()) := b2
  show holdsF _ = _
  rw [b1]
  suffices h : BT (fun y => y = (b, ())) _ by
   obtain ⟨y, hy, rfl⟩ := h
   exact hy.symm
  refine BT.opt ⟨_, hofs, BT.lt rfl (BT.yes g1 (BT.yes (decide_eq_true ?_) (BT.opt ⟨_, b2', BT.ret rfl⟩)))⟩
  show (env.length + 1) * 88 ≤ _
  omega
theorem env_mk {q : Qry} {l : List Evt} (hx : XMk l) (pre : List Prs) : EnvMk (pre.filterMap (pick q l)) := by
 intro b hb
 obtain ⟨x, -, hx'⟩ := List.mem_filterMap.1 hb
 unfold pick at hx'
 split at hx'
 ·rename_i e he
  split at hx'
  ·obtain rfl : _ = b := by simpa using hx'
   exact hx.ev _ (evOf_some he).1
  ·cases hx'
 ·cases hx'
theorem fitsT_ref {q : Qry} (hq : QMk q) {l : List Evt} (hx : XMk l) (pre : List Prs) (hpre : pre.length ≤ 50) (p : Int) (p0 : 0 ≤ p) (p1 : p < q.1.length) (e : Evt) (he : EvMk e) (hp : ∀ x ∈ pre, x.1 < p ∨ pick q l x = none) :
  fitsT (sch3, q, l, pre, p, e, ()) = fits20 (q.1.getD p.toNat elmZ, e, pre.filterMap (pick q l), ()) := by
 have hl := hx.len
 rw [fitsT_d hq.qok l (by omega) pre hpre p p0 p1 e]
 have e1 : pre.filterMap (pickT q l p) = pre.filterMap (pick q l) := filterMap_same fun x hx' => by
  unfold pickT
  rcases hp x hx' with h | h
  ·rw [if_pos h]
  ·rw [h]; split <;> rfl
 rw [e1]
 refine fitD_ref hq p p0 p1 e he _ (Nat.le_trans (List.length_filterMap_le ..) hpre) (env_mk hx pre)
end Go.Proofs.YtiblijkhpmemeaaGreat

namespace Go.Proofs.YtiblijkhpmemeaaGreat
open Go.PI Go
end Go.Proofs.YtiblijkhpmemeaaGreat

namespace Go.Proofs.YtiblijkhpmemeaaGreat
open Go.PI Go
end Go.Proofs.YtiblijkhpmemeaaGreat

namespace Go.Proofs.YtiblijkhpmemeaaGreat
open Go.PI Go
end Go.Proofs.YtiblijkhpmemeaaGreat
