/- What a beginning moves to; where a match may end. Beginnings of matches: what they come to by an event, whether it ends them, or lets them go. Contracts of functions. Printed by auto.py. Contracts of functions. Printed by auto.py. -/
import Derived.Test.YtkbdofnbagmlfaaGreatHm
import Derived.Test.YtkbdofnbagmlfaaGreatHl
import Derived.Test.YtkbdofnbagmlfaaGreatHg
import Derived.Test.YtkbdofnbagmlfaaGreatS2
namespace Go.Proofs.YtkbdofnbagmlfaaGreat
open Go.PI Go
theorem lenN_at (q : Qry) (L : List Stt) : lenN (some (q, L), ()) = some ((L.length : Int), ()) := rfl
theorem Zky (q : Qry) (L : List Stt) (k : Int) (h0 : 0 <= k) (h1 : k < L.length) : atN (some (q, L), k, ()) = some ((L.getD k.toNat (0, 0), true), ()) := by
 unfold atN atN_B
 have n0 : ¬ k < 0 := by omega
 have n1 : ¬ k >= (L.length : Int) := by omega
 simp only [Br.run, lenN_at, decide_eq_false n0, decide_eq_false n1, cond_false, Option.isSome_some, decide_eq_true h0, decide_eq_true h1, Bool.and_self, cond_true]
theorem ZqR (L : List Stt) (hL : L.length <= 1000) (s : Stt) : ∃ j : Int, idxState (L, s, ()) = some (j, ()) /\ ((j = -1 /\ s ∉ L) \/ (0 <= j /\ j < L.length /\ L.getD j.toNat (0, 0) = s)) := by
 unfold idxState Zk1
 obtain ⟨z, hz, hq⟩ : ∃ z, idxState_w0 (L, (L.length : Int), 0, s, ()) = some z /\ ((∃ j : Int, z = .inl (j, ()) /\ 0 <= j /\ j < L.length /\ L.getD j.toNat (0, 0) = s) \/ (z = .inr () /\ s ∉ L)) := by
  refine Zao (step := fun x => (Zea x).run) (Q := fun _ z => (∃ j : Int, z = .inl (j, ()) /\ 0 <= j /\ j < L.length /\ L.getD j.toNat (0, 0) = s) \/ (z = .inr () /\ s ∉ L)) (fun y => ∃ i : Int, y = (L, (L.length : Int), i, s, ()) /\ 0 <= i /\ i <= L.length /\ ∀ k : Nat, (k : Int) < i -> L.getD k (0, 0) ≠ s) (fun y => ((L.length : Int) - y.2.2.1).toNat) ?_ _ ⟨0, rfl, Int.le_refl 0, by omega, fun k hk => by omega⟩
  rintro y ⟨i, rfl, h0, h1, h2⟩
  unfold Zea
  by_cases hi : i < (L.length : Int)
  ·have hw : IntKind.wrap .i64 (i + 1) = i + 1 := Go.PI.wrap_small (by omega) (by omega)
   simp only [Br.run, decide_eq_true hi, decide_eq_true h0, Bool.and_self, cond_true, hw, cond_eq_ite]
   by_cases hc : L.getD i.toNat (0, 0) = s
   ·subst hc
    simp only [decide_true, Bool.and_self, if_true]
    exact .inr ⟨_, rfl, .inl ⟨i, rfl, h0, hi, rfl⟩⟩
   ·have hc' : (decide (s.1 = (L.getD i.toNat (0, 0)).1) && decide (s.2 = (L.getD i.toNat (0, 0)).2)) = false := by
     cases hb : (decide (s.1 = (L.getD i.toNat (0, 0)).1) && decide (s.2 = (L.getD i.toNat (0, 0)).2)) with
     | false => rfl
     | true =>
      simp only [Bool.and_eq_true, decide_eq_true_eq] at hb
      exact absurd (Prod.ext hb.1.symm hb.2.symm) hc
    simp only [hc', Bool.false_eq_true, if_false]
    refine .inl ⟨_, rfl, ⟨i + 1, rfl, by omega, by omega, fun k hk => ?_⟩, by dsimp only; omega, fun z hz => hz⟩
    by_cases e : (k : Int) = i
    ·rw [<- e, Int.toNat_natCast] at hc; exact hc
    ·exact h2 k (by omega)
  ·simp only [Br.run, decide_eq_false hi, cond_false]
   refine .inr ⟨_, rfl, .inr ⟨rfl, fun hm => ?_⟩⟩
   obtain ⟨k, hk, e⟩ := List.mem_iff_getElem.1 hm
   refine h2 k (by omega) ?_
   rw [Za1 _ _ _ hk]
   exact e
 simp only [Br.run, hz]
 rcases hq with ⟨j, rfl, k⟩ | ⟨rfl, k⟩
 ·exact ⟨j, rfl, .inr k⟩
 ·exact ⟨-1, rfl, .inl ⟨rfl, k⟩⟩
theorem Zpx (q : Qry) (L : List Stt) (hL : L.length <= 1000) (s : Stt) : ∃ j : Int, findN (some (q, L), s, ()) = some (j, ()) /\ ((j = -1 /\ s ∉ L) \/ (0 <= j /\ j < L.length /\ L.getD j.toNat (0, 0) = s)) := by
 obtain ⟨j, h, k⟩ := ZqR L hL s
 unfold findN ZrY
 simp only [Br.run, Option.isNone_some, cond_false, Option.isSome_some, cond_true, h]
 exact ⟨j, rfl, k⟩
def MvTo (q : Qry) (st s : Stt) : Prop := (0 <= st.1 /\ s = (st.1, st.2 + 1) /\ s.2 <= Zbt q st.1) \/ ((st.1 < 0 \/ Zbl q st.1 <= st.2) /\ Nxt q st.1 s.1 /\ s.2 = 1)
def MvOk (q : Qry) (L : List Stt) (st : Stt) (v : List Int) : Prop := v.length <= 2 /\ (∀ j ∈ v, 0 <= j /\ j < L.length) /\ (v.map fun j : Int => L.getD j.toNat (0, 0)).Nodup /\ ∀ s, s ∈ (v.map fun j : Int => L.getD j.toNat (0, 0)) ↔ MvTo q st s
theorem Zdm {q : Qry} {L : List Stt} {st : Stt} {n : Int} {v : List Int} {c1 c2 : Prop} [Decidable c1] [Decidable c2] (hv : v.length <= 2) (hr : ∀ j ∈ v, 0 <= j /\ j < L.length)
  (hm : (v.map fun j : Int => L.getD j.toNat (0, 0)) = (if c1 then [(st.1, st.2 + 1)] else []) ++ (if c2 then [(n, 1)] else [])) (h1 : c1 ↔ 0 <= st.1 /\ st.2 + 1 <= Zbt q st.1) (h2 : c2 -> (st.1 < 0 \/ Zbl q st.1 <= st.2) /\ Nxt q st.1 n)
  (h3 : (st.1 < 0 \/ Zbl q st.1 <= st.2) -> ∀ k, Nxt q st.1 k -> c2 /\ k = n) : MvOk q L st v := by
 refine ⟨hv, hr, ?_, fun s => ?_⟩
 ·rw [hm]
  by_cases k1 : c1
  ·by_cases k2 : c2
   ·rw [if_pos k1, if_pos k2]
    have := (h2 k2).2.1
    refine List.nodup_cons.2 ⟨fun h => ?_, (by simp)⟩
    have := congrArg Prod.fst (List.mem_singleton.1 h)
    dsimp only at this
    omega
   ·rw [if_pos k1, if_neg k2]; exact (by simp)
  ·rw [if_neg k1]
   split
   ·exact (by simp)
   ·exact List.nodup_nil
 ·rw [hm, List.mem_append]
  constructor
  ·rintro (h | h)
   ·split at h
    ·rename_i k
     obtain rfl := List.mem_singleton.1 h
     exact .inl ⟨(h1.1 k).1, rfl, (h1.1 k).2⟩
    ·cases h
   ·split at h
    ·rename_i k
     obtain rfl := List.mem_singleton.1 h
     exact .inr ⟨(h2 k).1, (h2 k).2, rfl⟩
    ·cases h
  ·rintro (⟨k1, rfl, k2⟩ | ⟨k1, k2, k3⟩)
   ·exact .inl (by rw [if_pos (h1.2 ⟨k1, k2⟩)]; exact List.mem_singleton.2 rfl)
   ·obtain ⟨k4, k5⟩ := h3 k1 _ k2
    exact .inr (by rw [if_pos k4]; obtain ⟨s1, s2⟩ := s; dsimp only at k5 k3; rw [k5, k3]; exact List.mem_singleton.2 rfl)
theorem ZuN {q : Qry} (h : QMk q) {L : List Stt} (hL : SOk q L) (k : Int) (h0 : 0 <= k) (h1 : k < L.length) : ∃ v : List Int, movesN (some (q, L), k, ()) = some (v, ()) /\ MvOk q L (L.getD k.toNat (0, 0)) v := by
 obtain ⟨l1, l2, l3, l4⟩ := hL
 have hlt : k.toNat < L.length := by omega
 have hst := (l4 (L.getD k.toNat (0, 0))).1 (by rw [Za1 _ _ _ hlt]; exact List.getElem_mem hlt)
 have hq4 := h.hi
 unfold movesN ZpY
 simp only [Br.run, Zky q L k h0 h1]
 generalize L.getD k.toNat (0, 0) = st at hst ⊢
 have hb : -1 <= st.1 /\ st.1 < q.1.length /\ 0 <= st.2 /\ st.2 <= 3 := by
  rcases hst with rfl | ⟨a, b, _, c, d⟩
  ·exact ⟨by decide, by dsimp only; omega, by decide, by decide⟩
  ·have := h.max3 st.1 a b; exact ⟨by omega, b, by omega, by omega⟩
 have hw : IntKind.wrap .i64 (st.2 + 1) = st.2 + 1 := Go.PI.wrap_small (by omega) (by omega)
 obtain ⟨j, e1, e2⟩ := Zpx q L (by omega) (st.1, st.2 + 1)
 obtain ⟨n, f1, f2⟩ := ZgY q (by omega) st.1 hb.1 hb.2.1
 obtain ⟨m, g1, g2⟩ := Zpx q L (by omega) (n, 1)
 simp only [Br.run, Bool.not_true, cond_false, hw, e1]
 have hn0 : ∀ x : Stt, 0 <= x.1 -> (x ∈ L ↔ SAt q x) := fun x hx => by
  rw [l4]
  refine ⟨fun h => h.resolve_left fun e => ?_, .inr⟩
  rw [e] at hx
  exact absurd hx (by decide)
 have hm1 : (m > 0 -> L.getD m.toNat (0, 0) = (n, 1) /\ m < L.length /\ Nxt q st.1 n) /\ (¬ m > 0 -> ∀ k, ¬ Nxt q st.1 k) := by
  refine ⟨fun hg => ?_, fun hg k hk => ?_⟩
  ·rcases g2 with ⟨rfl, _⟩ | ⟨a, b, c⟩
   ·omega
   ·refine ⟨c, b, ?_⟩
    rcases f2 with ⟨rfl, _⟩ | ⟨f, _⟩
    ·exfalso
     have hml : m.toNat < L.length := by omega
     have := (l4 (-1, 1)).1 (by rw [<- c, Za1 _ _ _ hml]; exact List.getElem_mem hml)
     rcases this with e | e
     ·exact absurd (congrArg Prod.snd e) (by decide)
     ·exact absurd e.1 (by decide)
    ·exact f
  ·rcases f2 with ⟨_, f⟩ | ⟨f, f0⟩
   ·exact hk.no f
   ·obtain rfl := f.uniq hk
    have hin : (n, 1) ∈ L := (hn0 (n, 1) f0).2 ⟨f0, f.2.1, f.2.2.1, Int.le_refl 1, by have := h.max3 n f0 f.2.1; dsimp only; omega⟩
    rcases g2 with ⟨_, g⟩ | ⟨a, b, c⟩
    ·exact g hin
    ·obtain rfl : m = 0 := by omega
     rw [show Int.toNat 0 = 0 from rfl, l2] at c
     exact absurd (congrArg Prod.snd c) (show (0 : Int) ≠ 1 by decide)
 have h3 : m > 0 -> (st.1 < 0 \/ Zbl q st.1 <= st.2) -> ∀ k, Nxt q st.1 k -> True /\ k = n := fun hm _ k hk => ⟨trivial, hk.uniq (hm1.1 hm).2.2⟩
 have b2 : (1 + List.length (List.set (List.replicate 1 (0 : Int)) 0 m)) * 8 <= 140737488355328 := by show (1 + 1) * 8 <= _; omega
 have b1 : ∀ x : Int, List.length (List.set (List.replicate 1 (0 : Int)) 0 x) * 8 <= 140737488355328 := fun x => by show 1 * 8 <= _; omega
 by_cases hs : st.1 >= 0
 ·have hsat : SAt q st := by
   rcases hst with rfl | k
   ·exact absurd hs (by decide)
   ·exact k
  have hidx : (decide (0 <= st.1) && decide (st.1 < (q.1.length : Int))) = true := by rw [decide_eq_true hs, decide_eq_true hsat.2.1]; rfl
  have hj : (j >= 0 -> L.getD j.toNat (0, 0) = (st.1, st.2 + 1) /\ j < L.length /\ st.2 + 1 <= Zbt q st.1) /\ (¬ j >= 0 -> ¬ st.2 + 1 <= Zbt q st.1) := by
   refine ⟨fun h => ?_, fun h hk => ?_⟩
   ·rcases e2 with ⟨rfl, _⟩ | ⟨a, b, c⟩
    ·omega
    ·have hml : j.toNat < L.length := by omega
     have := (hn0 (st.1, st.2 + 1) hs).1 (by rw [<- c, Za1 _ _ _ hml]; exact List.getElem_mem hml)
     exact ⟨c, b, this.2.2.2.2⟩
   ·rcases e2 with ⟨_, g⟩ | ⟨a, b, c⟩
    ·exact g ((hn0 (st.1, st.2 + 1) hs).2 ⟨hs, hsat.2.1, hsat.2.2.1, by dsimp only; omega, hk⟩)
    ·omega
  by_cases hjj : j >= 0
  ·obtain ⟨j1, j2, j3⟩ := hj.1 hjj
   by_cases hmin : st.2 < Zbl q st.1
   ·have hmin' : st.2 < (q.1.getD st.1.toNat Zac).2.2.2.1 := hmin
    simp only [Br.run, decide_eq_true hs, cond_true, decide_eq_true hjj, decide_eq_true (b1 j), Option.isSome_some, decide_eq_true hsat.2.1, Bool.and_self, decide_eq_true hmin']
    exact ⟨[j], rfl, Zdm (n := n) (c1 := True) (c2 := False) (by simp) (fun i hi => by obtain rfl := List.mem_singleton.1 hi; omega) (by show [L.getD j.toNat (0, 0)] = _; rw [j1]; rfl) ⟨fun _ => ⟨hs, j3⟩, fun _ => trivial⟩ (fun h => h.elim) fun k => by omega⟩
   ·have hmin' : ¬ st.2 < (q.1.getD st.1.toNat Zac).2.2.2.1 := hmin
    by_cases hm : m > 0
    ·obtain ⟨m1, m2, m3⟩ := hm1.1 hm
     simp only [Br.run, decide_eq_true hs, cond_true, decide_eq_true hjj, decide_eq_true (b1 j), Option.isSome_some, decide_eq_true hsat.2.1, Bool.and_self, decide_eq_false hmin', cond_false, f1, g1, decide_eq_true hm, List.length_singleton, decide_eq_true b2]
     exact ⟨[j, m], rfl, Zdm (n := n) (c1 := True) (c2 := True) (by simp) (fun i hi => by simp at hi; omega) (by show [L.getD j.toNat (0, 0), L.getD m.toNat (0, 0)] = _; rw [j1, m1]; rfl) ⟨fun _ => ⟨hs, j3⟩, fun _ => trivial⟩ (fun _ => ⟨.inr (by omega), m3⟩) (h3 hm)⟩
    ·simp only [Br.run, decide_eq_true hs, cond_true, decide_eq_true hjj, decide_eq_true (b1 j), Option.isSome_some, decide_eq_true hsat.2.1, Bool.and_self, decide_eq_false hmin', cond_false, f1, g1, decide_eq_false hm]
     exact ⟨[j], rfl, Zdm (n := n) (c1 := True) (c2 := False) (by simp) (fun i hi => by obtain rfl := List.mem_singleton.1 hi; omega) (by show [L.getD j.toNat (0, 0)] = _; rw [j1]; rfl) ⟨fun _ => ⟨hs, j3⟩, fun _ => trivial⟩ (fun h => h.elim) fun _ k hk => (hm1.2 hm k hk).elim⟩
  ·have j3 := hj.2 hjj
   by_cases hmin : st.2 < Zbl q st.1
   ·have hmin' : st.2 < (q.1.getD st.1.toNat Zac).2.2.2.1 := hmin
    simp only [Br.run, decide_eq_true hs, cond_true, decide_eq_false hjj, cond_false, Option.isSome_some, decide_eq_true hsat.2.1, Bool.and_self, decide_eq_true hmin']
    exact ⟨[], rfl, Zdm (n := n) (c1 := False) (c2 := False) (by simp) (fun i hi => by simp at hi) (by simp) ⟨fun h => h.elim, fun h => j3 h.2⟩ (fun h => h.elim) fun k => by omega⟩
   ·have hmin' : ¬ st.2 < (q.1.getD st.1.toNat Zac).2.2.2.1 := hmin
    by_cases hm : m > 0
    ·obtain ⟨m1, m2, m3⟩ := hm1.1 hm
     simp only [Br.run, decide_eq_true hs, cond_true, decide_eq_false hjj, cond_false, Option.isSome_some, decide_eq_true hsat.2.1, Bool.and_self, decide_eq_false hmin', f1, g1, decide_eq_true hm, decide_eq_true (b1 m)]
     exact ⟨[m], rfl, Zdm (n := n) (c1 := False) (c2 := True) (by simp) (fun i hi => by obtain rfl := List.mem_singleton.1 hi; omega) (by show [L.getD m.toNat (0, 0)] = _; rw [m1]; rfl) ⟨fun h => h.elim, fun h => j3 h.2⟩ (fun _ => ⟨.inr (by omega), m3⟩) (h3 hm)⟩
    ·simp only [Br.run, decide_eq_true hs, cond_true, decide_eq_false hjj, cond_false, Option.isSome_some, decide_eq_true hsat.2.1, Bool.and_self, decide_eq_false hmin', f1, g1, decide_eq_false hm]
     exact ⟨[], rfl, Zdm (n := n) (c1 := False) (c2 := False) (by simp) (fun i hi => by simp at hi) (by simp) ⟨fun h => h.elim, fun h => j3 h.2⟩ (fun h => h.elim) fun _ k hk => (hm1.2 hm k hk).elim⟩
 ·by_cases hm : m > 0
  ·obtain ⟨m1, m2, m3⟩ := hm1.1 hm
   simp only [Br.run, decide_eq_false hs, cond_false, Option.isSome_some, cond_true, f1, g1, decide_eq_true hm, decide_eq_true (b1 m)]
   exact ⟨[m], rfl, Zdm (n := n) (c1 := False) (c2 := True) (by simp) (fun i hi => by obtain rfl := List.mem_singleton.1 hi; omega) (by show [L.getD m.toNat (0, 0)] = _; rw [m1]; rfl) ⟨fun h => h.elim, fun h => absurd h.1 hs⟩ (fun _ => ⟨.inl (by omega), m3⟩) (h3 hm)⟩
  ·simp only [Br.run, decide_eq_false hs, cond_false, Option.isSome_some, cond_true, f1, g1, decide_eq_false hm]
   exact ⟨[], rfl, Zdm (n := n) (c1 := False) (c2 := False) (by simp) (fun i hi => by simp at hi) (by simp) ⟨fun h => h.elim, fun h => absurd h.1 hs⟩ (fun h => h.elim) fun _ k hk => (hm1.2 hm k hk).elim⟩
end Go.Proofs.YtkbdofnbagmlfaaGreat

namespace Go.Proofs.YtkbdofnbagmlfaaGreat
open Go.PI Go
theorem Zgd (r : RunT) : runState (r, ()) = some (r.1, ()) := rfl
theorem ZeM (r : RunT) : runBlkd (r, ()) = some (r.2.2.2.2.2, ()) := rfl
theorem ZqS (r : RunT) : runBlock (r, ()) = some ((r.1, r.2.1, r.2.2.1, r.2.2.2.1, r.2.2.2.2.1, true), ()) := rfl
noncomputable def ZaP (q : Qry) (L : List Stt) (r : RunT) (e : Evt) : List Int -> List RunT
 | [] => []
 | k :: v => if (ZcF q r e (L.getD k.toNat (0, 0)).1 && (!r.2.2.2.2.2 || (L.getD k.toNat (0, 0)).1 == ZcV r)) = true then Za0 r q k (L.getD k.toNat (0, 0)).1 e :: ZaP q L r e v else ZaP q L r e v
theorem Zm4 (q : Qry) (L : List Stt) (r : RunT) (e : Evt) : ∀ v, (ZaP q L r e v).length <= v.length
 | [] => Nat.le_refl _
 | k :: v => by
  unfold ZaP
  have := Zm4 q L r e v
  split <;> simp <;> omega
theorem Zq1 {q : Qry} (h : QMk q) {L : List Stt} (r : RunT) (hm : r.2.1.length <= 100) (hr : r.2.2.1.length <= 60) (e : Evt) (he : e.2.2.2.2.length <= 3) (v : List Int) (hv : v.length <= 2) (hv2 : ∀ j ∈ v, 0 <= j /\ j < L.length) :
  moreM_w0 (some (ZaJ, q, some (q, L)), v, (v.length : Int), 0, r, e, [], ()) = some (ZaP q L r e v, ()) := by
 suffices hh : ∃ z, moreM_w0 (some (ZaJ, q, some (q, L)), v, (v.length : Int), 0, r, e, [], ()) = some z /\ z = ([] ++ ZaP q L r e (v.drop (Int.toNat 0)), ()) by
  obtain ⟨z, hz, rfl⟩ := hh
  exact hz
 refine Zao (step := fun x => (Zg3 x).run) (Q := fun y z => z = (y.2.2.2.2.2.2.1 ++ ZaP q L r e (v.drop y.2.2.2.1.toNat), ()))
  (fun y => ∃ (i : Int) (acc : List RunT), y = (some (ZaJ, q, some (q, L)), v, (v.length : Int), i, r, e, acc, ()) /\ 0 <= i /\ i <= v.length /\ (acc.length : Int) <= i) (fun y => ((v.length : Int) - y.2.2.2.1).toNat) ?_ _ ⟨0, [], rfl, Int.le_refl 0, by omega, by simp⟩
 rintro y ⟨i, acc, rfl, h0, h1, h2⟩
 unfold Zg3
 dsimp only
 by_cases hi : i < (v.length : Int)
 ·have hw : IntKind.wrap .i64 (i + 1) = i + 1 := Go.PI.wrap_small (by omega) (by omega)
  have hlt : i.toNat < v.length := by omega
  obtain ⟨k0, k1⟩ := hv2 (v.getD i.toNat 0) (by rw [Za1 _ _ _ hlt]; exact List.getElem_mem hlt)
  rw [ZbO v i 0 h0 hi]
  generalize v.getD i.toNat 0 = k at k0 k1 ⊢
  have ha := Zky q L k k0 k1
  have hf := Zp6 h.qok r hr e (L.getD k.toNat (0, 0)).1
  have hwi := ZtX r q k (L.getD k.toNat (0, 0)).1 e (by omega) (by omega) (by omega)
  have hb : (acc.length + List.length (List.set (List.replicate 1 ((0, [], [], 0, (0, 0, 0), false) : RunT)) 0 (Za0 r q k (L.getD k.toNat (0, 0)).1 e))) * 64 <= 140737488355328 := by
   show (acc.length + 1) * 64 <= _
   omega
  have eA : ∀ x : RunT, acc ++ List.set (List.replicate 1 ((0, [], [], 0, (0, 0, 0), false) : RunT)) 0 x = acc ++ [x] := fun x => rfl
  have step : ∀ acc' : List RunT, (acc'.length : Int) <= i + 1 -> acc' ++ ZaP q L r e (v.drop (i + 1).toNat) = acc ++ ZaP q L r e (k :: v.drop (i + 1).toNat) ->
    (∃ x', (some (Sum.inl (some (ZaJ, q, some (q, L)), v, (v.length : Int), i + 1, r, e, acc', ())) : Option (_ ⊕ (List RunT × Unit))) = some (.inl x') /\ (∃ (i : Int) (acc : List RunT), x' = (some (ZaJ, q, some (q, L)), v, (v.length : Int), i, r, e, acc, ()) /\ 0 <= i /\ i <= v.length /\ (acc.length : Int) <= i) /\ ((v.length : Int) - x'.2.2.2.1).toNat < ((v.length : Int) - i).toNat /\
     ∀ z, z = (x'.2.2.2.2.2.2.1 ++ ZaP q L r e (v.drop x'.2.2.2.1.toNat), ()) -> z = (acc ++ ZaP q L r e (k :: v.drop (i + 1).toNat), ())) := by
   intro acc' a1 a2
   refine ⟨_, rfl, ⟨i + 1, acc', rfl, by omega, by omega, a1⟩, by dsimp only; omega, fun z hz => ?_⟩
   rw [hz, <- a2]
  have hnil : acc ++ ZaP q L r e (v.drop (i + 1).toNat) = acc ++ ZaP q L r e (v.drop (i + 1).toNat) := rfl
  by_cases c1 : (L.getD k.toNat (0, 0)).1 = ZcV r
  ·have c1' : ((L.getD k.toNat (0, 0)).1 != ZcV r) = false := by rw [c1]; exact bne_self_eq_false _
   have c1b : ((L.getD k.toNat (0, 0)).1 == ZcV r) = true := beq_iff_eq.2 c1
   cases c2 : ZcF q r e (L.getD k.toNat (0, 0)).1
   ·rw [c2] at hf
    simp only [Br.run, decide_eq_true hi, decide_eq_true h0, Bool.and_self, cond_true, cond_false, hw, Option.isSome_some, ha, Zcv, c1', hf, Bool.not_false]
    refine .inl (step acc (by omega) ?_)
    simp only [ZaP, c2, Bool.false_and, Bool.false_eq_true, ↓reduceIte]
   ·rw [c2] at hf
    simp only [Br.run, decide_eq_true hi, decide_eq_true h0, Bool.and_self, cond_true, cond_false, hw, Option.isSome_some, ha, Zcv, c1', hf, Bool.not_true, hwi, decide_eq_true hb, eA]
    refine .inl (step _ (by rw [List.length_append, List.length_singleton]; omega) ?_)
    simp only [ZaP, c2, c1b, Bool.or_true, Bool.and_self, ↓reduceIte, List.append_assoc, List.singleton_append]
  ·have c1' : ((L.getD k.toNat (0, 0)).1 != ZcV r) = true := bne_iff_ne.2 c1
   have c1'' : ((L.getD k.toNat (0, 0)).1 == ZcV r) = false := beq_eq_false_iff_ne.2 c1
   cases c3 : r.2.2.2.2.2
   ·cases c2 : ZcF q r e (L.getD k.toNat (0, 0)).1
    ·rw [c2] at hf
     simp only [Br.run, decide_eq_true hi, decide_eq_true h0, Bool.and_self, cond_true, cond_false, hw, Option.isSome_some, ha, Zcv, ZeM, c3, c1', hf, Bool.not_false]
     refine .inl (step acc (by omega) ?_)
     simp only [ZaP, c2, Bool.false_and, Bool.false_eq_true, ↓reduceIte]
    ·rw [c2] at hf
     simp only [Br.run, decide_eq_true hi, decide_eq_true h0, Bool.and_self, cond_true, cond_false, hw, Option.isSome_some, ha, Zcv, ZeM, c3, c1', hf, Bool.not_true, hwi, decide_eq_true hb, eA]
     refine .inl (step _ (by rw [List.length_append, List.length_singleton]; omega) ?_)
     simp only [ZaP, c2, c3, Bool.not_false, Bool.true_or, Bool.and_self, ↓reduceIte, List.append_assoc, List.singleton_append]
   ·simp only [Br.run, decide_eq_true hi, decide_eq_true h0, Bool.and_self, cond_true, cond_false, hw, Option.isSome_some, ha, Zcv, ZeM, c3, c1']
    refine .inl (step acc (by omega) ?_)
    simp only [ZaP, c3, c1'', Bool.not_true, Bool.or_self, Bool.and_false, Bool.false_eq_true, ↓reduceIte]
 ·simp only [Br.run, decide_eq_false hi, cond_false]
  have : v.drop i.toNat = [] := List.drop_eq_nil_of_le (by omega)
  rw [this]
  exact .inr ⟨_, rfl, by simp [ZaP]⟩
theorem Zmb {q : Qry} (h : QFew q) (L : List Stt) : queryN (some (q, L), ()) = some (q, ()) := by
 unfold queryN ZpH
 simp only [Br.run, Option.isNone_some, cond_false, Option.isSome_some, cond_true, Zol h]
theorem newM_at {q : Qry} (h : QFew q) {L : List Stt} (hn : newN (q, ()) = some (some (q, L), ())) : newM (ZaJ, q, ()) = some (some (ZaJ, q, some (q, L)), ()) := by
 unfold newM newM_B
 simp only [Br.run, hn, Zmb h]
theorem Zt2 {q : Qry} (h : QFew q) (L : List Stt) : queryM (some (ZaJ, q, some (q, L)), ()) = some (q, ()) := by
 unfold queryM Zoc
 simp only [Br.run, Option.isNone_some, cond_false, Option.isSome_some, cond_true, Zmb h]
section
variable {q : Qry} (h : QMk q) {L : List Stt} (hL : SOk q L)
include h hL
theorem moreM_at (r : RunT) (k0 : 0 <= r.1) (k1 : r.1 < L.length) (hm : r.2.1.length <= 100) (hr : r.2.2.1.length <= 60) (e : Evt) (he : e.2.2.2.2.length <= 3) :
  ∃ v, MvOk q L (L.getD r.1.toNat (0, 0)) v /\ moreM (some (ZaJ, q, some (q, L)), r, e, ()) = some (ZaP q L r e v, ()) := by
 obtain ⟨v, h1, h2⟩ := ZuN h hL r.1 k0 k1
 refine ⟨v, h2, ?_⟩
 unfold moreM Zsg
 simp only [Br.run, Option.isNone_some, cond_false, Option.isSome_some, cond_true, Zgd, h1, Zq1 h r hm hr e he v h2.1 h2.2.1]
omit hL in
theorem deadM_at (r : RunT) (k0 : 0 <= r.1) (k1 : r.1 < L.length) (hs : SAt q (L.getD r.1.toNat (0, 0))) (he : ZcV r = (L.getD r.1.toNat (0, 0)).1) :
  ∃ b, deadM (some (ZaJ, q, some (q, L)), r, ()) = some (b, ()) /\ (b = true -> Zbt q (L.getD r.1.toNat (0, 0)).1 <= (L.getD r.1.toNat (0, 0)).2 /\ (r.2.2.2.2.2 = true \/ Zbi q (L.getD r.1.toNat (0, 0)).1)) := by
 unfold deadM Zr5
 simp only [Br.run, Option.isNone_some, cond_false, Option.isSome_some, cond_true, Zgd, Zky q L r.1 k0 k1, Bool.not_true]
 generalize L.getD r.1.toNat (0, 0) = st at hs he ⊢
 obtain ⟨g0, g1, _, _, _⟩ := hs
 have hq4 := h.hi
 obtain ⟨n, f1, f2⟩ := ZgY q (by omega) st.1 (by omega) g1
 unfold runDead Znv
 have n0 : ¬ st.1 < 0 := by omega
 have n1 : ¬ st.1 >= (q.1.length : Int) := by omega
 simp only [Br.run, Zcv, he, decide_eq_false n0, decide_eq_false n1, cond_false, decide_eq_true g0, decide_eq_true g1, Bool.and_self, cond_true, f1]
 by_cases hc : st.2 < Zbt q st.1
 ·have hc' : st.2 < (q.1.getD st.1.toNat Zac).2.2.2.2.1 := hc
  simp only [decide_eq_true hc', cond_true]
  exact ⟨false, rfl, fun h => by cases h⟩
 ·have hc' : ¬ st.2 < (q.1.getD st.1.toNat Zac).2.2.2.2.1 := hc
  simp only [decide_eq_false hc', cond_false]
  cases hb : r.2.2.2.2.2
  ·simp only [cond_false]
   refine ⟨_, rfl, fun hd => ⟨by omega, .inr ?_⟩⟩
   have hd := of_decide_eq_true hd
   rcases f2 with ⟨_, f⟩ | ⟨_, f⟩
   ·exact f
   ·omega
  ·simp only [cond_true]
   exact ⟨true, rfl, fun _ => ⟨by omega, by simp⟩⟩
end
theorem lastQ_at {q : Qry} (h : QMk q) : ∃ j : Int, lastQ (q, ()) = some (j, ()) /\ ∀ a : Int, 0 <= a -> a < q.1.length -> (q.1.getD a.toNat Zac).2.2.1 = false -> (a = j ↔ Zbi q a) := by
 have hq4 := h.hi
 have hq1 := h.lo
 unfold lastQ Zr0
 have hw : IntKind.wrap .i64 ((q.1.length : Int) - 1) = (q.1.length : Int) - 1 := Go.PI.wrap_small (by omega) (by omega)
 dsimp only
 rw [hw]
 obtain ⟨z, hz, hq⟩ : ∃ z, lastQ_w0 ((q.1.length : Int) - 1, q, ()) = some z /\ ∃ j : Int, z = .inl (j, ()) /\ 0 <= j /\ j < q.1.length /\ (q.1.getD j.toNat Zac).2.2.1 = false /\ ∀ u, j < u -> u < q.1.length -> (q.1.getD u.toNat Zac).2.2.1 = true := by
  refine Zao (step := fun x => (Zgy x).run) (Q := fun _ z => ∃ j : Int, z = .inl (j, ()) /\ 0 <= j /\ j < q.1.length /\ (q.1.getD j.toNat Zac).2.2.1 = false /\ ∀ u, j < u -> u < q.1.length -> (q.1.getD u.toNat Zac).2.2.1 = true)
   (fun y => ∃ i : Int, y = (i, q, ()) /\ -1 <= i /\ i < q.1.length /\ ∀ u, i < u -> u < q.1.length -> (q.1.getD u.toNat Zac).2.2.1 = true) (fun y => (y.1 + 1).toNat) ?_ _ ⟨_, rfl, by omega, by omega, fun u a b => by omega⟩
  rintro y ⟨i, rfl, h0, h1, h2⟩
  dsimp only
  have hi : i >= 0 := Int.not_lt.1 fun hn => by
   have := h2 0 hn (by omega)
   rw [show Int.toNat 0 = 0 from rfl, h.first] at this
   cases this
  unfold Zgy
  have hw : IntKind.wrap .i64 (i - 1) = i - 1 := Go.PI.wrap_small (by omega) (by omega)
  have h0' : (0 : Int) <= i := hi
  simp only [Br.run, decide_eq_true hi, decide_eq_true h0', decide_eq_true h1, Bool.and_self, cond_true, hw, cond_eq_ite]
  cases hc : (q.1.getD i.toNat (ByteArray.empty, [], false, 0, 0, [])).2.2.1
  ·simp only [Bool.not_false, ↓reduceIte]
   exact .inr ⟨_, rfl, i, rfl, h0', h1, hc, h2⟩
  ·simp only [Bool.not_true, Bool.false_eq_true, ↓reduceIte]
   refine .inl ⟨_, rfl, ⟨i - 1, rfl, by omega, by omega, fun u a b => ?_⟩, by dsimp only; omega, fun z hz => hz⟩
   by_cases e : u = i
   ·rw [e]; exact hc
   ·exact h2 u (by omega) b
 obtain ⟨j, rfl, h0, h1, h2, h3⟩ := hq
 simp only [Br.run, hz]
 refine ⟨j, rfl, fun a a0 a1 a2 => ⟨fun e => by rw [e]; exact fun u => h3 u, fun hn => ?_⟩⟩
 rcases Int.lt_trichotomy a j with c | c | c
 ·have := hn j c h1; rw [h2] at this; cases this
 ·exact c
 ·have := h3 a c a1; rw [a2] at this; cases this
theorem endsM_at {q : Qry} (h : QMk q) {L : List Stt} (r : RunT) (k0 : 0 <= r.1) (k1 : r.1 < L.length) (hs : SAt q (L.getD r.1.toNat (0, 0))) :
  ∃ b, endsM (some (ZaJ, q, some (q, L)), r, ()) = some (b, ()) /\ (b = true ↔ Zbl q (L.getD r.1.toNat (0, 0)).1 <= (L.getD r.1.toNat (0, 0)).2 /\ Zbi q (L.getD r.1.toNat (0, 0)).1) := by
 unfold endsM ZsM endsN ZsH
 obtain ⟨j, e1, e2⟩ := lastQ_at h
 simp only [Br.run, Option.isNone_some, Bool.not_false, Option.isSome_some, cond_true, Zgd, Zky q L r.1 k0 k1]
 generalize L.getD r.1.toNat (0, 0) = st at hs ⊢
 obtain ⟨g0, g1, g2, _, _⟩ := hs
 have g0' : st.1 >= 0 := g0
 have hE := e2 st.1 g0 g1 g2
 simp only [decide_eq_true g0', cond_true, e1, Br.run, decide_eq_true g0, decide_eq_true g1, Bool.and_self, cond_eq_ite]
 by_cases hc : st.1 = j
 ·have hc' : (st.1 == j) = true := beq_iff_eq.2 hc
  simp only [hc', if_true]
  refine ⟨_, rfl, ?_⟩
  rw [decide_eq_true_eq]
  exact ⟨fun h => ⟨h, hE.1 hc⟩, fun h => h.1⟩
 ·have hc' : (st.1 == j) = false := beq_eq_false_iff_ne.2 hc
  simp only [hc', Bool.false_eq_true, if_false]
  refine ⟨_, rfl, ?_⟩
  constructor
  ·intro h; simp at h
  ·intro h; exact (hc (hE.2 h.2)).elim
theorem Zs7 {q : Qry} (h : QMk q) (r : RunT) (t : Int) (t0 : 0 <= t) (t1 : t <= 15) (f0 : 0 <= r.2.2.2.1) (f1 : r.2.2.2.1 <= 15) : runOver (r, q, t, ()) = some (decide (r.2.1 ≠ [] /\ q.2.1 < t - r.2.2.2.1), ()) := by
 unfold runOver Zmr
 have hw : IntKind.wrap .i64 (t - r.2.2.2.1) = t - r.2.2.2.1 := Go.PI.wrap_small (by omega) (by omega)
 simp only [Br.run, ZmZ, hw]
 cases hm : r.2.1 with
 | nil => simp
 | cons a m =>
  have hp : ((a :: m).length : Int) > 0 := by simp only [List.length_cons]; omega
  simp only [decide_eq_true hp, cond_true]
  simp
theorem Zuo : betwQ = betwT := by kernel_rfl
theorem ZtK {q : Qry} (h : QMk q) (r : RunT) (hr : r.2.2.1.length <= 60) (k s : Int) (m : List Prs) (hm : r.2.1 = (k, s) :: m) (k0 : 0 <= k) (k1 : k < q.1.length) (e : Evt) :
  ∃ b, blocksG (ZaJ, q, r, e, ()) = some (b, ()) /\ ∀ p, Nxt q k p -> (b = true ↔ ∃ u, k < u /\ u < p /\ ZcF q r e u = true) := by
 have hq4 := h.hi
 unfold blocksG Zmi
 have e1 : ((r.2.1.length : Int) == 0) = false := by rw [hm]; simp; omega
 have e2 : ZcV r = k := by unfold ZcV; rw [hm]
 have hn := Znn (q.1.drop (k + 1).toNat) (k + 1)
 rw [List.length_drop] at hn
 have hw0 := ZnU h.qok r hr e (ZcX (k + 1) (q.1.drop (k + 1).toNat)) (by omega) 0 (by omega) (by omega)
 simp only [Br.run, ZmZ, e1, cond_false, Zcv, e2, Zot q (by omega) k k1 k0, hw0, Int.toNat_zero, List.drop_zero]
 have key : ∀ p, Nxt q k p -> ((ZcX (k + 1) (q.1.drop (k + 1).toNat)).any (ZcF q r e) = true ↔ ∃ u, k < u /\ u < p /\ ZcF q r e u = true) := fun p hp => by
  obtain ⟨l, a1, a2, _⟩ := betwT_at q (by omega) k p k0 k1 hp
  have : l = ZcX (k + 1) (q.1.drop (k + 1).toNat) := by
   have b := Zot q (by omega) k k1 k0
   rw [Zuo, a1] at b
   exact congrArg Prod.fst (Option.some.inj b)
  rw [<- this, List.any_eq_true]
  exact ⟨fun ⟨u, k1, k2⟩ => ⟨u, ((a2 u).1 k1).1, ((a2 u).1 k1).2, k2⟩, fun ⟨u, k1, k2, k3⟩ => ⟨u, (a2 u).2 ⟨k1, k2⟩, k3⟩⟩
 cases hc : (ZcX (k + 1) (q.1.drop (k + 1).toNat)).any (ZcF q r e) with
 | true => exact ⟨true, rfl, fun p hp => by rw [<- key p hp, hc]⟩
 | false => exact ⟨false, rfl, fun p hp => by rw [<- key p hp, hc]⟩
end Go.Proofs.YtkbdofnbagmlfaaGreat

namespace Go.Proofs.YtkbdofnbagmlfaaGreat
set_option maxRecDepth 100000
open Go.PI Go
noncomputable section
def exc_p : Par := { sh := fun _ => none, k := 0, lo := fun _ => none }
def cx_exc : Ctx := Zba cx_deadM 59 (inl cx_deadM exc_p Tryz.f59 (Za9 Tryz.f59))
theorem en_exc : EnvFull Tryz.prog cx_exc := Zas Zoo (Zbp.inl Zoo exc_p (fun _ => rfl) Tryz.func59 (by kernel_rfl) (Zdw (by kernel_rfl)))
def Zim : (Int × (Int × ZeE)) -> Br ((Int × (Int × ZeE)) ⊕ ((Int × ZeE) ⊕ ZeE)) := fun (a, b, c, d, e, f, g, h, ()) =>
 (.cond (decide (b < a))
 (.cond (decide (0 <= b) && decide (b < (h.length : Int)))
 (.opt (runOver (h.getD b.toNat (0, [], [], 0, (0, 0, 0), false), (d, e, f), g, ())) fun i =>
 (.cond (Prod.fst i)
 (.ret (.inr (.inl (b, c, d, e, f, g, h, ()))))
 (.opt (deadM (c, h.getD b.toNat (0, [], [], 0, (0, 0, 0), false), ())) fun j =>
 (.cond (Prod.fst j)
 (.ret (.inr (.inl (b, c, d, e, f, g, h, ()))))
 (.ret (.inl (a, IntKind.wrap IntKind.i64 (b + 1), c, d, e, f, g, h, ())))))))
 (.no))
 (.ret (.inr (.inr (c, d, e, f, g, h, ())))))
def Zrn : (Int × (Int × ZeE)) -> Option ((Int × ZeE) ⊕ ZeE) := Zag fun x => (Zim x).run
def idxR_L : List Lp := [
 .mk 2 (shX 19 [(0, .c (.mfull 1955)), (1, .fn 59 [C.ref 1026 0 0, C.ref 1027 0 0])] [(1027, []), (1026, [C.ref 1954 0 0]), (1954, [.bad, .bad, .bad, .bad, .mfull 1955]), (1955, [])] [sI 7, sI 8, .cell 1954 0 false zM6, .cell 1954 1 false zM1, .cell 1954 2 false (.int .i64), .cell 1954 3 false (.int .i64), .tv 1027 false (.int .i64), .ar 1955 false 97 zM4] ⟨[(0, .keep), (1, .keep), (7, .as false (.int .i64)), (8, .as false (.int .i64))], [], []⟩) ([exX .ret 19 [] [(1027, []), (1026, [C.ref 1954 0 0]), (1954, [.bad, .bad, .bad, .bad, .mfull 1955]), (1955, [])] [sI 4, .cell 1954 0 false zM6, .cell 1954 1 false zM1, .cell 1954 2 false (.int .i64), .cell 1954 3 false (.int .i64), .tv 1027 false (.int .i64), .ar 1955 false 97 zM4] ⟨[(4, .as false (.int .i64))], [], []⟩, exX (.exit 0) 19 [] [(1027, []), (1026, [C.ref 1954 0 0]), (1954, [.bad, .bad, .bad, .bad, .mfull 1955]), (1955, [])] [.cell 1954 0 false zM6, .cell 1954 1 false zM1, .cell 1954 2 false (.int .i64), .cell 1954 3 false (.int .i64), .tv 1027 false (.int .i64), .ar 1955 false 97 zM4] ⟨[], [], []⟩]) Zim]
def idxR_orc : Orc := inlL [1954, 1955, 1026, 1027] cx_exc (Zfh [1954, 1955, 1026, 1027] [] 1085287424 idxR_L) Tryz.f88
theorem ZuJ : Zbp Tryz.prog 88 idxR_orc := Zbp.lp en_exc 1085287424 [1954, 1955, 1026, 1027] Tryz.func88 idxR_L (by kernel_rfl) ⟨fun _ => by kernel_rfl, trivial⟩
def cx_idxR : Ctx := Zba cx_exc 88 idxR_orc
theorem ZrI : EnvFull Tryz.prog cx_idxR := Zas en_exc ZuJ
end
end Go.Proofs.YtkbdofnbagmlfaaGreat

namespace Go.Proofs.YtkbdofnbagmlfaaGreat
set_option maxRecDepth 100000
open Go.PI Go
noncomputable section
def Zij : (Int × (Int × ZeE)) -> Br ((Int × (Int × ZeE)) ⊕ (Int × ZeE)) := fun (a, b, c, d, e, f, g, h, ()) =>
 (.cond (decide (b < (h.length : Int)))
 (.cond (decide (0 <= b) && decide (b < (h.length : Int)))
 (.opt (runOver (h.getD b.toNat (0, [], [], 0, (0, 0, 0), false), (d, e, f), g, ())) fun i =>
 (.cond (Prod.fst i)
 (.ret (.inl (a, IntKind.wrap IntKind.i64 (b + 1), c, d, e, f, g, h, ())))
 (.opt (deadM (c, h.getD b.toNat (0, [], [], 0, (0, 0, 0), false), ())) fun j =>
 (.cond (!Prod.fst j)
 (.cond (decide (0 <= a) && decide (a < (h.length : Int)))
 (.ret (.inl (IntKind.wrap IntKind.i64 (a + 1), IntKind.wrap IntKind.i64 (b + 1), c, d, e, f, g, List.set h a.toNat (h.getD b.toNat (0, [], [], 0, (0, 0, 0), false)), ())))
 (.no))
 (.ret (.inl (a, IntKind.wrap IntKind.i64 (b + 1), c, d, e, f, g, h, ())))))))
 (.no))
 (.ret (.inr (a, c, d, e, f, g, h, ()))))
def Zil : (Int × (Int × ZeE)) -> Option (Int × ZeE) := Zag fun x => (Zij x).run
def delR_L : List Lp := [
 .mk 5 (shX 42 [(0, .c (.mfull 1955)), (1, .fn 59 [C.ref 1026 0 0, C.ref 1027 0 0])] [(1027, []), (1026, [C.ref 1954 0 0]), (1954, [.bad, .bad, .bad, .bad, .mfull 1955]), (1955, [])] [sI 5, sI 6, .cell 1954 0 false zM6, .cell 1954 1 false zM1, .cell 1954 2 false (.int .i64), .cell 1954 3 false (.int .i64), .tv 1027 false (.int .i64), .ar 1955 false 97 zM4] ⟨[(0, .keep), (1, .keep), (5, .as false (.int .i64)), (6, .as false (.int .i64))], [], []⟩) ([exX (.exit 0) 42 [(0, .c (.mfull 1955))] [(1027, []), (1026, [C.ref 1954 0 0]), (1954, [.bad, .bad, .bad, .bad, .mfull 1955]), (1955, [])] [sI 5, .cell 1954 0 false zM6, .cell 1954 1 false zM1, .cell 1954 2 false (.int .i64), .cell 1954 3 false (.int .i64), .tv 1027 false (.int .i64), .ar 1955 false 97 zM4] ⟨[(0, .keep), (5, .as false (.int .i64))], [], []⟩]) Zij]
def delR_orc : Orc := inlL [1954, 1955, 1026, 1027] cx_idxR (Zfh [1954, 1955, 1026, 1027] [] 1059840 delR_L) Tryz.f58
theorem Zui : Zbp Tryz.prog 58 delR_orc := Zbp.lp ZrI 1059840 [1954, 1955, 1026, 1027] Tryz.func58 delR_L (by kernel_rfl) ⟨fun _ => by kernel_rfl, trivial⟩
def cx_delR : Ctx := Zba cx_idxR 58 delR_orc
theorem ZrH : EnvFull Tryz.prog cx_delR := Zas ZrI Zui
end
end Go.Proofs.YtkbdofnbagmlfaaGreat
