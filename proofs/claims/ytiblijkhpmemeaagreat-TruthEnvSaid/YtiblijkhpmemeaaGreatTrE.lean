/- What variables stand for ahead of an element, and whether it can stand for an event. -/
import Derived.Test.YtiblijkhpmemeaaGreatHm
import Derived.Test.YtiblijkhpmemeaaGreatT4b
namespace Go.Proofs.YtiblijkhpmemeaaGreat
open Go.PI Go
section
variable {q : Qry} {l : List Evt} (hq : QMk q) (hx : XMk l)
include hq hx
def envP (q : Qry) (l : List Evt) (m : List Prs) (k : Nat) : List Bnd := (m.take k).filterMap (pickT q l (m.getD k (0, 0)).1)
def gives (q : Qry) (a : Int) (x : Prs) : Bool := (q.1.getD x.1.toNat elmZ).2.2.2.2.1 == 1 && decide (x.1 < a)
theorem pick_gives {m : List Prs} (hs : SegO q l 0 0 0 m) (j : Nat) (hj : j < m.length) (a : Int) : pickT q l a (m.getD j (0, 0)) = if gives q a (m.getD j (0, 0)) = true then some ((q.1.getD (m.getD j (0, 0)).1.toNat elmZ).1, l.getD (idx l (m.getD j (0, 0)).2).toNat evZ) else none := by
 obtain ⟨p0, p1, i0, i1, -⟩ := ord_at hq hs j hj
 have hA := idx_some i0
 have he := hA.ev hx.ne
 unfold pickT pick gives
 rw [he]
 by_cases h1 : (m.getD j (0, 0)).1 < a
 ·by_cases h2 : (q.1.getD (m.getD j (0, 0)).1.toNat elmZ).2.2.2.2.1 = 1
  ·rw [if_pos h1]
   dsimp only
   rw [if_pos ⟨p0, p1, h2⟩, if_pos (by rw [Bool.and_eq_true, beq_iff_eq, decide_eq_true_iff]; exact ⟨h2, h1⟩)]
  ·rw [if_pos h1]
   dsimp only
   rw [if_neg (fun h => h2 h.2.2), if_neg (fun h => h2 (by rw [Bool.and_eq_true, beq_iff_eq] at h; exact h.1))]
 ·rw [if_neg h1, if_neg (fun h => h1 (by rw [Bool.and_eq_true, decide_eq_true_iff] at h; exact h.2))]
theorem truthEnv_w2_at {m : List Prs} (hm : m.length ≤ 40) (hs : SegO q l 0 0 0 m) (k : Nat) (hk : k < m.length) (ms : List (List Prs)) (x1 x2 : Int) (b : Bool) :
  truthEnv_w2 (sch3, l, ms, x1, m, (k : Int), 0, 0, x2, b, q, envP q l m k, ()) = some (.inr (sch3, l, ms, x1, m, (k : Int), ((envP q l m k).length : Int), x2, b, q, envP q l m k, ())) := by
 have key : ∀ j : Nat, j ≤ k → (m.take j).filterMap (pickT q l (m.getD k (0, 0)).1) <+: envP q l m k := fun j hj => by
  unfold envP
  have e : m.take j = (m.take k).take j := by rw [List.take_take, Nat.min_eq_left hj]
  rw [e]
  exact (List.take_prefix j (m.take k)).filterMap _
 have hlen : (envP q l m k).length ≤ 40 := Nat.le_trans (List.length_filterMap_le ..) (by rw [List.length_take]; omega)
 obtain ⟨z, hz, rfl⟩ : ∃ z, truthEnv_w2 (sch3, l, ms, x1, m, (k : Int), 0, 0, x2, b, q, envP q l m k, ()) = some z ∧ z = .inr (sch3, l, ms, x1, m, (k : Int), ((envP q l m k).length : Int), x2, b, q, envP q l m k, ()) := by
  refine iterO_bt (step := truthEnv_l2) (fun y => ∃ j : Nat, y = (sch3, l, ms, x1, m, (k : Int), (((m.take j).filterMap (pickT q l (m.getD k (0, 0)).1)).length : Int), (j : Int), x2, b, q, envP q l m k, ()) ∧ j ≤ k) (fun y => ((k : Int) - y.2.2.2.2.2.2.2.1).toNat) _ ?_ _ ⟨0, rfl, by omega⟩
  rintro y ⟨j, rfl, g0⟩
  unfold truthEnv_l2
  by_cases hj : j < k
  ·have hjl : j < m.length := by omega
   obtain ⟨p0, p1, i0, i1, -⟩ := ord_at hq hs j hjl
   have hji : ((j : Int)).toNat = j := by omega
   have hki : ((k : Int)).toNat = k := by omega
   have hw : IntKind.wrap .i64 ((j : Int) + 1) = ((j + 1 : Nat) : Int) := by rw [Go.PI.wrap_small (by omega) (by omega)]; omega
   have ht : m.take (j + 1) = m.take j ++ [m.getD j (0, 0)] := by rw [List.take_add_one, getD_opt (d := ((0, 0) : Prs)) hjl]
   have hpk := pick_gives hq hx hs j hjl (m.getD k (0, 0)).1
   have jin := in2 (i := (j : Int)) (n := (m.length : Int)) (by omega) (by omega)
   have kin := in2 (i := (k : Int)) (n := (m.length : Int)) (by omega) (by omega)
   have skip : gives q (m.getD k (0, 0)).1 (m.getD j (0, 0)) = false → (m.take (j + 1)).filterMap (pickT q l (m.getD k (0, 0)).1) = (m.take j).filterMap (pickT q l (m.getD k (0, 0)).1) := fun h => by
    rw [ht, List.filterMap_append, List.filterMap_cons, hpk, h]
    simp
   refine BT.lt (decide_eq_true (by omega)) (BT.yes jin ?_)
   simp only [hji, hki]
   refine BT.yes (in2 p0 p1) (BT.cond (fun h1 => BT.yes jin (BT.yes kin (BT.cond (fun h2 => ?_) (fun h2 => BT.goes ⟨⟨j + 1, ?_, by omega⟩, ?_⟩)))) (fun h1 => BT.goes ⟨⟨j + 1, ?_, by omega⟩, ?_⟩))
   ·have hg : gives q (m.getD k (0, 0)).1 (m.getD j (0, 0)) = true := by
     unfold gives
     rw [h2, Bool.and_true]
     exact h1
    rw [if_pos hg] at hpk
    have hnext : (m.take (j + 1)).filterMap (pickT q l (m.getD k (0, 0)).1) = (m.take j).filterMap (pickT q l (m.getD k (0, 0)).1) ++ [((q.1.getD (m.getD j (0, 0)).1.toNat elmZ).1, l.getD (idx l (m.getD j (0, 0)).2).toNat evZ)] := by
     rw [ht, List.filterMap_append, List.filterMap_cons, hpk]
     simp
    have hpre := key (j + 1) (by omega)
    rw [hnext] at hpre
    generalize hF : (m.take j).filterMap (pickT q l (m.getD k (0, 0)).1) = F at *
    obtain ⟨rest, hrest⟩ := hpre
    have hnl : F.length < (envP q l m k).length := by rw [← hrest]; simp
    have hget : (envP q l m k).getD F.length bZ = ((q.1.getD (m.getD j (0, 0)).1.toNat elmZ).1, l.getD (idx l (m.getD j (0, 0)).2).toNat evZ) := by
     rw [← hrest]
     simp [List.getD]
    have hFi : ((F.length : Int)).toNat = F.length := by omega
    have hwn : IntKind.wrap .i64 ((F.length : Int) + 1) = ((F.length + 1 : Nat) : Int) := by rw [Go.PI.wrap_small (by omega) (by omega)]; omega
    have nin := in2 (i := (F.length : Int)) (n := ((envP q l m k).length : Int)) (by omega) (by omega)
    have hsq : (l.getD (idx l (m.getD j (0, 0)).2).toNat evZ).2.2.2.1 = (m.getD j (0, 0)).2 := (idx_some i0).2.2
    refine BT.ge (decide_eq_false (by omega)) (BT.yes nin (BT.yes jin (BT.yes (in2 p0 p1) (BT.ge ?_ (BT.yes nin (BT.yes jin (BT.ge ?_ (BT.goes ⟨⟨j + 1, ?_, by omega⟩, ?_⟩))))))))
    ·simp only [hFi]
     rw [hget]
     simp
    ·simp only [hFi]
     rw [hget]
     show ((l.getD (idx l (m.getD j (0, 0)).2).toNat evZ).2.2.2.1 != (m.getD j (0, 0)).2) = false
     rw [hsq]
     exact bne_self_eq_false _
    ·rw [hw, hwn, hnext, List.length_append, List.length_singleton]
    ·dsimp only
     rw [hw]
     omega
   ·rw [hw, skip (by unfold gives; rw [h2, Bool.and_false])]
   ·dsimp only
    rw [hw]
    omega
   ·rw [hw, skip (by unfold gives; rw [show ((q.1.getD (m.getD j (0, 0)).1.toNat elmZ).2.2.2.2.1 == 1) = false from h1, Bool.false_and])]
   ·dsimp only
    rw [hw]
    omega
  ·have : j = k := by omega
   subst this
   exact BT.ge (decide_eq_false (by omega)) (BT.ends rfl)
 exact hz
omit hq in
theorem truthEnv_w3_at {m : List Prs} (k : Nat) (hk : k < m.length) (i0 : 0 ≤ idx l (m.getD k (0, 0)).2) (ms : List (List Prs)) (x1 x2 n : Int) (b : Bool) (env : List Bnd) :
  truthEnv_w3 (sch3, l, ms, x1, m, (k : Int), n, 0, x2, b, q, (ByteArray.empty, ByteArray.empty, 0, 0, []), env, ()) = some (sch3, l, ms, x1, m, (k : Int), n, x2, b, q, l.getD (idx l (m.getD k (0, 0)).2).toNat evZ, env, ()) := by
 have hlx := hx.len
 have hA := idx_some i0
 have hAt := hA.2.1
 obtain ⟨z, hz, rfl⟩ : ∃ z, truthEnv_w3 (sch3, l, ms, x1, m, (k : Int), n, 0, x2, b, q, (ByteArray.empty, ByteArray.empty, 0, 0, []), env, ()) = some z ∧ z = (sch3, l, ms, x1, m, (k : Int), n, x2, b, q, l.getD (idx l (m.getD k (0, 0)).2).toNat evZ, env, ()) := by
  refine iterO_bt (step := truthEnv_l3) (fun y => ∃ (i : Int) (e : Evt), y = (sch3, l, ms, x1, m, (k : Int), n, i, x2, b, q, e, env, ()) ∧ 0 ≤ i ∧ i ≤ l.length ∧ (idx l (m.getD k (0, 0)).2 < i → e = l.getD (idx l (m.getD k (0, 0)).2).toNat evZ)) (fun y => ((l.length : Int) - y.2.2.2.2.2.2.2.1).toNat) _ ?_ _ ⟨0, _, rfl, Int.le_refl _, by omega, fun h => by omega⟩
  rintro y ⟨i, e, rfl, g0, g1, g2⟩
  unfold truthEnv_l3
  have hki : ((k : Int)).toNat = k := by omega
  by_cases hi : i < (l.length : Int)
  ·have hw : IntKind.wrap .i64 (i + 1) = i + 1 := Go.PI.wrap_small (by omega) (by omega)
   refine BT.lt (decide_eq_true hi) (BT.yes (in2 g0 hi) (BT.yes (in2 (by omega) (by omega)) ?_))
   simp only [hki]
   refine BT.cond (fun hc => BT.yes (in2 g0 hi) (BT.goes ⟨⟨i + 1, l.getD i.toNat evZ, by rw [hw], by omega, by omega, fun _ => ?_⟩, ?_⟩)) (fun hc => BT.goes ⟨⟨i + 1, e, by rw [hw], by omega, by omega, fun h => ?_⟩, ?_⟩)
   ·have hc : (l.getD i.toNat evZ).2.2.2.1 = (m.getD k (0, 0)).2 := beq_iff_eq.1 hc
    have : i = idx l (m.getD k (0, 0)).2 := At.uniq hx.ne ⟨g0, hi, hc⟩ hA
    rw [this]
   ·dsimp only
    rw [hw]
    omega
   ·by_cases hii : i = idx l (m.getD k (0, 0)).2
    ·have h3 : seqI l (idx l (m.getD k (0, 0)).2) = (m.getD k (0, 0)).2 := hA.2.2
     rw [← hii] at h3
     have hc : ((l.getD i.toNat evZ).2.2.2.1 == (m.getD k (0, 0)).2) = false := hc
     rw [show (l.getD i.toNat evZ).2.2.2.1 = (m.getD k (0, 0)).2 from h3] at hc
     simp at hc
    ·exact g2 (by omega)
   ·dsimp only
    rw [hw]
    omega
  ·refine BT.ge (decide_eq_false hi) (BT.ends ?_)
   rw [g2 (by omega)]
 exact hz
theorem truthEnv_w1_at {m : List Prs} (hm : m.length ≤ 40) (hs : SegO q l 0 0 0 m) (hP : AllPos q l [] m) (ms : List (List Prs)) (x1 x2 : Int) (b : Bool) :
  ∃ y1 y2 b', truthEnv_w1 (sch3, l, ms, x1, m, 0, x2, b, q, ()) = some (.inr (sch3, l, ms, y1, y2, b', q, ())) ∧ y1 = x1 := by
 have hhi := hq.hi
 obtain ⟨z, hz, rfl⟩ : ∃ z, truthEnv_w1 (sch3, l, ms, x1, m, 0, x2, b, q, ()) = some z ∧ z = .inr (sch3, l, ms, x1, x2, b, q, ()) := by
  refine iterO_bt (step := truthEnv_l1) (fun y => ∃ k : Nat, y = (sch3, l, ms, x1, m, (k : Int), x2, b, q, ()) ∧ k ≤ m.length) (fun y => ((m.length : Int) - y.2.2.2.2.2.1).toNat) _ ?_ _ ⟨0, rfl, by omega⟩
  rintro y ⟨k, rfl, g0⟩
  unfold truthEnv_l1
  have hki : ((k : Int)).toNat = k := by omega
  by_cases hk : k < m.length
  ·have hw : IntKind.wrap .i64 ((k : Int) + 1) = ((k + 1 : Nat) : Int) := by rw [Go.PI.wrap_small (by omega) (by omega)]; omega
   obtain ⟨p0, p1, i0, i1, hpre⟩ := ord_at hq hs k hk
   have kin := in2 (i := (k : Int)) (n := (m.length : Int)) (by omega) (by omega)
   have hkk : (decide ((0 : Int) ≤ 0) && decide (0 ≤ (k : Int)) && decide ((k : Int) ≤ (m.length : Int))) = true := by simp; omega
   have hlx := hx.len
   have he1 : envT (q, l, List.drop (Int.toNat 0) (List.take (Int.toNat (k : Int)) m), (m.getD (Int.toNat (k : Int)) (0, 0)).1, ()) = some (envP q l m k, ()) := by
    rw [hki]
    exact envT_at q l (by omega) (m.take k) (by rw [List.length_take]; omega) _
   obtain ⟨e, c, f1, f2, f3⟩ := fit_at hq hx hm hs k hk
   obtain ⟨e', f1', -, -, f4⟩ := find_idx hx (m.getD k (0, 0)).2
   rw [f1] at f1'
   have hee : e = e' := by injection f1' with h; injection h with h; injection h
   subst hee
   have hpos := (allPos_iff m []).1 hP k hk
   have hc : c = true := f3.2 hpos.1
   subst hc
   rw [f4 i0] at f2
   have f2' : fitsT (sch3, q, l, List.drop (Int.toNat 0) (List.take (Int.toNat (k : Int)) m), (m.getD (Int.toNat (k : Int)) (0, 0)).1, l.getD (idx l (m.getD k (0, 0)).2).toNat evZ, ()) = some (true, ()) := by
    rw [hki]
    exact f2
   refine BT.lt (decide_eq_true (by omega)) (BT.yes hkk (BT.yes kin (BT.opt ⟨_, he1, BT.opt ⟨_, truthEnv_w2_at hq hx hm hs k hk ms x1 x2 b, BT.sumr (BT.opt ⟨_, truthEnv_w3_at hx k hk i0 ms x1 x2 _ b _, BT.ge ?_ (BT.yes hkk (BT.yes kin (BT.opt ⟨_, f2', BT.ge rfl (BT.goes ⟨⟨k + 1, by rw [hw], by omega⟩, ?_⟩)⟩)))⟩)⟩⟩)))
   ·exact bne_self_eq_false _
   ·dsimp only
    rw [hw]
    omega
  ·exact BT.ge (decide_eq_false (by omega)) (BT.ends rfl)
 exact ⟨_, _, _, hz, rfl⟩
end
theorem truthEnv_at (p : List Int) (l : List Evt) : truthEnv (p, l, ()) = some (true, ()) := by
 obtain ⟨q, e1, hq⟩ := queryQ_at3 p
 obtain ⟨x, e2, hx, hx6⟩ := events20_at2 l 6 (by decide) (by decide)
 obtain ⟨ms, e3, hms, hl⟩ := allM_t hq.good hx.len (fun e he => (hx.ev e he).good) hx.tm
 have hx8 := hx.len
 have hle : ∀ a ∈ ms, a.length ≤ 40 ∧ SegO q x 0 0 0 a ∧ AllPos q x [] a := fun a ha => by
  have hF := (hms a).1 ha
  obtain ⟨i, i0, i1, f, hf⟩ := id hF
  obtain ⟨p, s, r, -, h1, h2, -⟩ := (fa_iff hq.good (by have := hq.w0; omega) hx.ne a).1 hF
  exact ⟨by have := hf.len (by simp; omega) (by omega); omega, h1, h2⟩
 obtain ⟨z, e4, rfl⟩ : ∃ z, truthEnv_w0 (sch3, x, ms, 0, q, ()) = some z ∧ z = .inr () := by
  refine iterO_bt (step := truthEnv_l0) (fun y => ∃ i : Int, y = (sch3, x, ms, i, q, ()) ∧ 0 ≤ i) (fun y => ((ms.length : Int) - y.2.2.2.1).toNat) _ ?_ _ ⟨0, rfl, Int.le_refl _⟩
  rintro y ⟨i, rfl, g0⟩
  unfold truthEnv_l0
  by_cases hi : i < (ms.length : Int)
  ·by_cases h10 : i < 10
   ·have hw : IntKind.wrap .i64 (i + 1) = i + 1 := Go.PI.wrap_small (by omega) (by omega)
    have hlt : i.toNat < ms.length := by omega
    obtain ⟨h1, h2, h3⟩ := hle (ms.getD i.toNat []) (by rw [getD_in _ _ _ hlt]; exact List.getElem_mem hlt)
    obtain ⟨y1, y2, b', hz, rfl⟩ := truthEnv_w1_at hq hx h1 h2 h3 ms i i (decide (i < 10))
    refine BT.lt (decide_eq_true hi) (BT.lt (decide_eq_true h10) (BT.yes (in2 g0 hi) (BT.opt ⟨_, hz, BT.sumr (BT.goes ⟨⟨y1 + 1, by rw [hw], by omega⟩, ?_⟩)⟩)))
    dsimp only
    rw [hw]
    omega
   ·exact BT.lt (decide_eq_true hi) (BT.ge (decide_eq_false h10) (BT.ends rfl))
  ·exact BT.ge (decide_eq_false hi) (BT.ends rfl)
 unfold truthEnv truthEnv_B
 simp only [Br.run, typesR_at, newS_T3, e1, e2, e3, e4, awake20_at]
end Go.Proofs.YtiblijkhpmemeaaGreat
