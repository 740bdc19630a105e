/- What the matcher knows behind each event; what it told. Lists of matches: which comes first, whether two are the same. Contracts of functions. Printed by auto.py. All matches, event by event: the matcher tells what the document's answer says. -/
import Derived.Test.YtkbdofnbagmlfaaGreatHr
import Derived.Test.YtkbdofnbagmlfaaGreatHl
import Derived.Test.YtkbdofnbagmlfaaGreatTmB
import Derived.Test.YtkbdofnbagmlfaaGreatHh
import Derived.Test.YtkbdofnbagmlfaaGreatHp
import Derived.Test.YtkbdofnbagmlfaaGreatGe
import Derived.Test.YtkbdofnbagmlfaaGreatHg
import Derived.Test.YtkbdofnbagmlfaaGreatHq
import Derived.KernelRfl
namespace Go.Proofs.YtkbdofnbagmlfaaGreat
open Go.PI Go
noncomputable def goR (q : Qry) (L : List Stt) (e : Evt) (l : List RunT) : List RunT := l.filter fun r => !(Zec q e r || Zb5 q L r)
noncomputable def Zct (q : Qry) (L : List Stt) (e : Evt) (l : List RunT) : List RunT := ZdO (Zcx q L e) (goR q L e l)
noncomputable def Ze2 (q : Qry) (L : List Stt) (e : Evt) (l : List RunT) : List (List Prs) := ((Zct q L e l).filter (ZgX q L)).map prR
noncomputable def Zcg (q : Qry) (L : List Stt) (e : Evt) (l : List RunT) : List RunT := ZfD (Zec q e) (Zb5 q L) (ZcG q L e) l ++ (Zct q L e l).filter fun r => !Zb5 q L r
section
variable {q : Qry} (hq : QMk q) {x : List Evt} (hx : XMk x) {L : List Stt} (hL : SOk q L)
include hq hx
theorem ZlO {n : Nat} {i i' : Int} (i0 : 0 <= i) (hi : i <= i') {r : RunT} (hr : RunW q L n r) (h : (Zec q (x.getD i.toNat evZ) r || Zb5 q L r) = true) (mm : List Prs) : ¬ Zcl q x L i' r mm := by
 refine gone_fut (by omega) (Zbn x i) (fun j j0 j1 => (Zp0 hx i0 (by omega) j1).1) ?_ hr mm
 rw [Bool.or_eq_true] at h
 rcases h with h | h
 ·exact .inl (of_decide_eq_true h).2
 ·exact .inr ((Zpt hq hr).2 h)
omit hq hx in
theorem live_at {n : Nat} {i : Int} {r : RunT} (hr : RunW q L n r) (h : (!(Zec q (x.getD i.toNat evZ) r || Zb5 q L r)) = true) : Zbn x i - r.2.2.2.1 <= q.2.1 := by
 obtain ⟨s, m, hm⟩ := hr.ms
 rw [Bool.not_eq_true', Bool.or_eq_false_iff] at h
 have h1 := of_decide_eq_false h.1
 have hne : r.2.1 ≠ [] := by rw [hm]; exact List.cons_ne_nil _ _
 have h2 : ¬ q.2.1 < Zbn x i - r.2.2.2.1 := fun k => h1 ⟨hne, k⟩
 omega
include hL
theorem dStep {n : Nat} (hn : n <= 40) {i : Int} (i0 : 0 <= i) (i1 : i < x.length) {l : List RunT} (hl : ∀ r ∈ l, RunW q L n r) (mm : List Prs) :
  ((∃ r ∈ l, Zcl q x L i r mm) \/ FutA q x i mm) ↔ mm ∈ Ze2 q L (x.getD i.toNat evZ) l \/ (∃ r ∈ Zcg q L (x.getD i.toNat evZ) l, Zcl q x L (i + 1) r mm) \/ FutA q x (i + 1) mm := by
 have F := feeds hq hx hL hn i0 i1
 have he := (Zic hx i0 i1).good.1
 have hz : stR L ((0, [], [], 0, (0, 0, 0), false) : RunT) = (-1, 0) := hL.2.1
 obtain ⟨vz, hz1, -, hz2⟩ := ZcP (n := n) hq hL (by omega) (.inr rfl) (x.getD i.toNat evZ) he
 rw [hz] at hz1
 have hA := Zut hq hx i0 i1 hz1 hL mm
 have hgo : ∀ r ∈ goR q L (x.getD i.toNat evZ) l, r ∈ l /\ RunW q L n r /\ Zbn x i - r.2.2.2.1 <= q.2.1 := fun r hr => by
  have h := List.mem_filter.1 hr
  exact ⟨h.1, hl r h.1, live_at (hl r h.1) h.2⟩
 have hR : ∀ r ∈ goR q L (x.getD i.toNat evZ) l, (Zcl q x L i r mm ↔ (∃ f ∈ Zcx q L (x.getD i.toNat evZ) r, (mm = prR f /\ Zbl q (stR L f).1 <= (stR L f).2 /\ Zbi q (stR L f).1) \/ Zcl q x L (i + 1) f mm) \/ Zcl q x L (i + 1) (ZcG q L (x.getD i.toNat evZ) r) mm) := fun r hr => by
  obtain ⟨h1, h2, h3⟩ := hgo r hr
  obtain ⟨v, v1, -, v2⟩ := ZcP hq hL (by omega) (.inl h2) (x.getD i.toNat evZ) he
  obtain ⟨b, b1, -, b2⟩ := Ze6 hq (by omega) h2 (x.getD i.toNat evZ)
  rw [v2, b2]
  exact Zt6 hq hx (by omega) i0 i1 h2 h3 v1 b b1 hL mm
 have hnew : ∀ f, f ∈ Zct q L (x.getD i.toNat evZ) l ↔ (∃ r ∈ goR q L (x.getD i.toNat evZ) l, f ∈ Zcx q L (x.getD i.toNat evZ) r) \/ f ∈ Zcx q L (x.getD i.toNat evZ) ((0, [], [], 0, (0, 0, 0), false) : RunT) := fun f => by
  unfold Zct ZdO
  rw [List.mem_append, List.mem_flatMap]
 have hnw : ∀ f ∈ Zct q L (x.getD i.toNat evZ) l, RunW q L (n + 1) f := fun f hf => by
  rcases (hnew f).1 hf with ⟨r, hr, hf⟩ | hf
  ·exact F.keep r (.inl (hgo r hr).2.1) f hf
  ·exact F.keep _ (.inr rfl) f hf
 have fwd : ∀ f ∈ Zct q L (x.getD i.toNat evZ) l, ((mm = prR f /\ Zbl q (stR L f).1 <= (stR L f).2 /\ Zbi q (stR L f).1) \/ Zcl q x L (i + 1) f mm) -> mm ∈ Ze2 q L (x.getD i.toNat evZ) l \/ (∃ r ∈ Zcg q L (x.getD i.toNat evZ) l, Zcl q x L (i + 1) r mm) := fun f hf h => by
  rcases h with ⟨h1, h2⟩ | h
  ·exact .inl (List.mem_map.2 ⟨f, List.mem_filter.2 ⟨hf, (Zjy hq (hnw f hf)).2.2 h2⟩, h1.symm⟩)
  ·refine .inr ⟨f, List.mem_append.2 (.inr (List.mem_filter.2 ⟨hf, ?_⟩)), h⟩
   cases c : Zb5 q L f with
   | false => rfl
   | true => exact (ZlO hq hx i0 (by omega) (hnw f hf) (by rw [c, Bool.or_true]) mm h).elim
 constructor
 ·rintro (⟨r, hr, h⟩ | h)
  ·have hk : r ∈ goR q L (x.getD i.toNat evZ) l := by
    refine List.mem_filter.2 ⟨hr, ?_⟩
    cases c : (Zec q (x.getD i.toNat evZ) r || Zb5 q L r) with
    | false => rfl
    | true => exact (ZlO hq hx i0 (Int.le_refl i) (hl r hr) c mm h).elim
   rcases (hR r hk).1 h with ⟨f, hf, h⟩ | h
   ·rcases fwd f ((hnew f).2 (.inl ⟨r, hk, hf⟩)) h with k | k
    ·exact .inl k
    ·exact .inr (.inl k)
   ·refine .inr (.inl ⟨ZcG q L (x.getD i.toNat evZ) r, List.mem_append.2 (.inl (List.mem_filter.2 ⟨List.mem_map.2 ⟨r, hk, rfl⟩, ?_⟩)), h⟩)
    cases c : (Zec q (x.getD i.toNat evZ) (ZcG q L (x.getD i.toNat evZ) r) || Zb5 q L (ZcG q L (x.getD i.toNat evZ) r)) with
    | false => rfl
    | true => exact (ZlO hq hx i0 (by omega) (F.behP r (hl r hr)) c mm h).elim
  ·rcases hA.1 h with ⟨f, hf, h⟩ | h
   ·rw [<- hz2] at hf
    rcases fwd f ((hnew f).2 (.inr hf)) h with k | k
    ·exact .inl k
    ·exact .inr (.inl k)
   ·exact .inr (.inr h)
 ·have bwd : ∀ f ∈ Zct q L (x.getD i.toNat evZ) l, ((mm = prR f /\ Zbl q (stR L f).1 <= (stR L f).2 /\ Zbi q (stR L f).1) \/ Zcl q x L (i + 1) f mm) -> (∃ r ∈ l, Zcl q x L i r mm) \/ FutA q x i mm := fun f hf h => by
   rcases (hnew f).1 hf with ⟨r, hr, hf⟩ | hf
   ·exact .inl ⟨r, (hgo r hr).1, (hR r hr).2 (.inl ⟨f, hf, h⟩)⟩
   ·rw [hz2] at hf
    exact .inr (hA.2 (.inl ⟨f, hf, h⟩))
  rintro (h | ⟨r, hr, h⟩ | h)
  ·obtain ⟨f, hf, rfl⟩ := List.mem_map.1 h
   have hf := List.mem_filter.1 hf
   exact bwd f hf.1 (.inl ⟨rfl, (Zjy hq (hnw f hf.1)).2.1 hf.2⟩)
  ·rcases List.mem_append.1 hr with hr | hr
   ·obtain ⟨r0, hr0, rfl⟩ := List.mem_map.1 (List.mem_filter.1 hr).1
    exact .inl ⟨r0, (hgo r0 hr0).1, (hR r0 hr0).2 (.inr h)⟩
   ·exact bwd r (List.mem_filter.1 hr).1 (.inr h)
  ·exact .inr (hA.2 (.inr h))
theorem Zkd {n : Nat} (hn : n <= 40) {i : Int} (i0 : 0 <= i) (i1 : i < x.length) {r : RunT} (hr : RunW q L n r \/ r = ((0, [], [], 0, (0, 0, 0), false) : RunT)) : ((Zcx q L (x.getD i.toNat evZ) r).map fun f => f.2.1).Nodup /\ ∀ f ∈ Zcx q L (x.getD i.toNat evZ) r, ∃ a, f.2.1 = (a, ZaN x i) :: r.2.1 := by
 have he := (Zic hx i0 i1).good.1
 obtain ⟨v, v1, -, v2⟩ := ZcP hq hL (by omega) hr (x.getD i.toNat evZ) he
 rw [v2]
 refine ⟨Zn1 (st := stR L r) (q := q) r _ v v1.2.2.1 fun j hj => (v1.2.2.2 _).1 (List.mem_map.2 ⟨j, hj, rfl⟩), fun f hf => ?_⟩
 obtain ⟨k, _, _, rfl⟩ := (Zco ..).1 hf
 exact ⟨_, rfl⟩
theorem Zvf {n : Nat} (hn : n <= 40) {i : Int} (i0 : 0 <= i) (i1 : i < x.length) {l : List RunT} (hl : ∀ r ∈ l, RunW q L n r) : ∀ f ∈ Zct q L (x.getD i.toNat evZ) l, ∃ a m, f.2.1 = (a, ZaN x i) :: m := fun f hf => by
 unfold Zct ZdO at hf
 rcases List.mem_append.1 hf with hf | hf
 ·obtain ⟨r, hr, hf⟩ := List.mem_flatMap.1 hf
  obtain ⟨a, ha⟩ := (Zkd hq hx hL hn i0 i1 (.inl (hl r (List.mem_filter.1 hr).1))).2 f hf
  exact ⟨a, _, ha⟩
 ·obtain ⟨a, ha⟩ := (Zkd (n := n) hq hx hL hn i0 i1 (.inr rfl)).2 f hf
  exact ⟨a, _, ha⟩
theorem new_nd {n : Nat} (hn : n <= 40) {i : Int} (i0 : 0 <= i) (i1 : i < x.length) {l : List RunT} (hl : ∀ r ∈ l, RunW q L n r) (nd : (l.map fun r => r.2.1).Nodup) : ((Zct q L (x.getD i.toNat evZ) l).map fun f => f.2.1).Nodup := by
 have e : Zct q L (x.getD i.toNat evZ) l = (goR q L (x.getD i.toNat evZ) l ++ [((0, [], [], 0, (0, 0, 0), false) : RunT)]).flatMap (Zcx q L (x.getD i.toNat evZ)) := by
  unfold Zct ZdO
  rw [List.flatMap_append]
  simp
 have hw : ∀ r ∈ goR q L (x.getD i.toNat evZ) l, RunW q L n r := fun r hr => hl r (List.mem_filter.1 hr).1
 rw [e]
 refine ZsJ (s := ZaN x i) _ ?_ fun r hr => ?_
 ·rw [List.map_append, List.nodup_append]
  refine ⟨(List.Sublist.map _ List.filter_sublist).nodup nd, by simp, fun u hu w hw' e => ?_⟩
  obtain ⟨r, hr, rfl⟩ := List.mem_map.1 hu
  obtain ⟨s, m, hm⟩ := (hw r hr).ms
  simp at hw'
  rw [hm, hw'] at e
  cases e
 ·rcases List.mem_append.1 hr with hr | hr
  ·exact Zkd hq hx hL hn i0 i1 (.inl (hw r hr))
  ·exact Zkd (n := n) hq hx hL hn i0 i1 (.inr (List.mem_singleton.1 hr))
omit hx hL in
theorem kept_ms {n : Nat} (hn : n <= 40) {i : Int} {l : List RunT} (hl : ∀ r ∈ l, RunW q L n r) : ((ZfD (Zec q (x.getD i.toNat evZ)) (Zb5 q L) (ZcG q L (x.getD i.toNat evZ)) l).map fun r => r.2.1).Sublist (l.map fun r => r.2.1) := by
 unfold ZfD
 refine List.Sublist.trans (List.Sublist.map _ List.filter_sublist) ?_
 rw [List.map_map]
 have e : ∀ A : List RunT, (∀ r ∈ A, RunW q L n r) -> A.map ((fun r => r.2.1) ∘ ZcG q L (x.getD i.toNat evZ)) = A.map fun r => r.2.1 := fun A hA => List.map_congr_left fun r hr => by
  obtain ⟨b, _, _, b2⟩ := Ze6 hq (by omega) (hA r hr) (x.getD i.toNat evZ)
  show (ZcG q L (x.getD i.toNat evZ) r).2.1 = r.2.1
  rw [b2]
 rw [e _ fun r hr => hl r (List.mem_filter.1 hr).1]
 exact List.Sublist.map _ List.filter_sublist
theorem allR_sum {n : Nat} (hn : n <= 40) {i : Int} (i0 : 0 <= i) (i1 : i < x.length) {l : List RunT} (hl : ∀ r ∈ l, RunW q L n r) (k : Nat) : Za6 L k (Zcg q L (x.getD i.toNat evZ) l) + wt k (-1, 0) <= Za6 L (k + 1) l + wt (k + 1) (-1, 0) := by
 have he := (Zic hx i0 i1).good.1
 have hz : stR L ((0, [], [], 0, (0, 0, 0), false) : RunT) = (-1, 0) := hL.2.1
 have one : ∀ r, (RunW q L n r \/ r = ((0, [], [], 0, (0, 0, 0), false) : RunT)) -> wt k (stR L r) + Za6 L k (Zcx q L (x.getD i.toNat evZ) r) <= wt (k + 1) (stR L r) := fun r hr => by
  obtain ⟨v, v1, -, v2⟩ := ZcP hq hL (by omega) hr (x.getD i.toNat evZ) he
  have h1 := ZmJ q L k r (x.getD i.toNat evZ) v
  have h2 := wt_mv hq (by rcases hr with hr | rfl; exact .inl hr.st; exact .inr hz) v1 k
  rw [v2]
  omega
 have h1 : Za6 L k ((Zct q L (x.getD i.toNat evZ) l).filter fun r => !Zb5 q L r) <= Za6 L k (Zct q L (x.getD i.toNat evZ) l) := Zd9 ..
 have h2 : Za6 L k (ZfD (Zec q (x.getD i.toNat evZ)) (Zb5 q L) (ZcG q L (x.getD i.toNat evZ)) l) <= Za6 L k ((goR q L (x.getD i.toNat evZ) l).map (ZcG q L (x.getD i.toNat evZ))) := Zd9 ..
 have h3 : ∀ A : List RunT, (∀ r ∈ A, RunW q L n r) -> Za6 L k (A.map (ZcG q L (x.getD i.toNat evZ))) + Za6 L k (A.flatMap (Zcx q L (x.getD i.toNat evZ))) <= Za6 L (k + 1) A := by
  intro A
  induction A with
  | nil => intro _; exact Nat.le_refl _
  | cons r A ih =>
   intro hA
   have ih := ih fun r' h' => hA r' (List.mem_cons_of_mem _ h')
   have hr := one r (.inl (hA r List.mem_cons_self))
   obtain ⟨b, _, _, b2⟩ := Ze6 hq (by omega) (hA r List.mem_cons_self) (x.getD i.toNat evZ)
   have e1 : stR L (ZcG q L (x.getD i.toNat evZ) r) = stR L r := by rw [b2]
   rw [List.flatMap_cons, Zgc]
   simp only [Za6, List.map_cons, List.sum_cons, e1] at ih hr ⊢
   omega
 have h4 := h3 (goR q L (x.getD i.toNat evZ) l) fun r hr => hl r (List.mem_filter.1 hr).1
 have h5 : Za6 L (k + 1) (goR q L (x.getD i.toNat evZ) l) <= Za6 L (k + 1) l := Zd9 ..
 have h6 := one _ (.inr rfl)
 rw [hz] at h6
 have h7 : Za6 L k (Zct q L (x.getD i.toNat evZ) l) = Za6 L k ((goR q L (x.getD i.toNat evZ) l).flatMap (Zcx q L (x.getD i.toNat evZ))) + Za6 L k (Zcx q L (x.getD i.toNat evZ) ((0, [], [], 0, (0, 0, 0), false) : RunT)) := Zgc ..
 have h8 : Za6 L k (Zcg q L (x.getD i.toNat evZ) l) = Za6 L k (ZfD (Zec q (x.getD i.toNat evZ)) (Zb5 q L) (ZcG q L (x.getD i.toNat evZ)) l) + Za6 L k ((Zct q L (x.getD i.toNat evZ) l).filter fun r => !Zb5 q L r) := Zgc ..
 omega
structure Inv (q : Qry) (x : List Evt) (L : List Stt) (C n : Nat) (lo : Bool) (l : List RunT) : Prop where
 wf : ∀ r ∈ l, RunW q L n r
 la : ∀ r ∈ l, ∃ j : Int, 0 <= j /\ j < n /\ ∃ a m, r.2.1 = (a, ZaN x j) :: m
 nd : (l.map fun r => r.2.1).Nodup
 sd : ∀ r ∈ l, ∀ mm, Zcl q x L n r mm -> FA q x mm
 cm : lo = false -> ∀ mm, FA q x mm -> ZdA x n mm -> (∃ r ∈ l, Zcl q x L n r mm) \/ FutA q x n mm
 le : l.length <= C
omit hq hx hL in
theorem Inv.zero (C : Nat) : Inv q x L C 0 false [] := ⟨fun r h => by simp at h, fun r h => by simp at h, List.nodup_nil, fun r h => by simp at h, fun _ mm h _ => .inr ((Zo7 mm).1 h), Nat.zero_le _⟩
omit hq hL in
theorem ZlN {i : Int} (i0 : 0 <= i) (i1 : i < x.length) {mm : List Prs} (h : Zbf mm = ZaN x i) (k : ZdA x (i + 1) mm) : False := by
 obtain ⟨j, j0, j1, e⟩ := k
 have := Ze8 hx.ne i0 i1 (by omega) j1 (h.symm.trans e)
 omega
theorem Inv.step {C n : Nat} (hn : n <= 40) (hi : n < x.length) {lo : Bool} {l : List RunT} (h : Inv q x L C n lo l) :
  Inv q x L C (n + 1) (lo || decide (C < (Zcg q L (x.getD n evZ) l).length)) ((Zcg q L (x.getD n evZ) l).take C) /\
  (Ze2 q L (x.getD n evZ) l).Nodup /\ (∀ mm ∈ Ze2 q L (x.getD n evZ) l, FA q x mm /\ Zbf mm = ZaN x n) /\ (lo = false -> ∀ mm, FA q x mm -> Zbf mm = ZaN x n -> mm ∈ Ze2 q L (x.getD n evZ) l) := by
 have i0 : (0 : Int) <= n := Int.natCast_nonneg n
 have i1 : (n : Int) < x.length := by omega
 have D := dStep hq hx hL hn i0 i1 h.wf
 have F := feeds hq hx hL hn i0 i1
 have hnw := Zvf hq hx hL hn i0 i1 h.wf
 have hnd := new_nd hq hx hL hn i0 i1 h.wf h.nd
 have hkm := kept_ms (x := x) (i := n) hq hn h.wf
 rw [Int.toNat_natCast] at D F hnw hnd hkm
 have sound : ∀ mm, ((∃ r ∈ l, Zcl q x L n r mm) \/ FutA q x n mm) -> FA q x mm := fun mm k => by
  rcases k with ⟨r, hr, k⟩ | ⟨j, w, j0, k⟩
  ·exact h.sd r hr mm k
  ·exact (Zo7 mm).2 ⟨j, w, by omega, k⟩
 have tl : ∀ mm ∈ Ze2 q L (x.getD n evZ) l, Zbf mm = ZaN x n := fun mm hm => by
  obtain ⟨f, hf, rfl⟩ := List.mem_map.1 hm
  obtain ⟨a, m, e⟩ := hnw f (List.mem_filter.1 hf).1
  unfold prR
  rw [e, List.reverse_cons]
  exact Zux _ _ _
 have hTw : ∀ r ∈ Zcg q L (x.getD n evZ) l, RunW q L (n + 1) r /\ ∃ j : Int, 0 <= j /\ j < (n + 1 : Nat) /\ ∃ a m, r.2.1 = (a, ZaN x j) :: m := fun r hr => by
  rcases List.mem_append.1 hr with hr | hr
  ·obtain ⟨r0, hr0, rfl⟩ := List.mem_map.1 (List.mem_filter.1 hr).1
   have h0 := (List.mem_filter.1 hr0).1
   refine ⟨F.up _ (F.behP r0 (h.wf r0 h0)), ?_⟩
   obtain ⟨j, j0, j1, a, m, e⟩ := h.la r0 h0
   obtain ⟨b, _, _, b2⟩ := Ze6 hq (by omega) (h.wf r0 h0) (x.getD n evZ)
   exact ⟨j, j0, by omega, a, m, by rw [b2]; exact e⟩
  ·have hr := (List.mem_filter.1 hr).1
   refine ⟨?_, n, i0, by omega, hnw r hr⟩
   unfold Zct ZdO at hr
   rcases List.mem_append.1 hr with hr | hr
   ·obtain ⟨r0, hr0, hr⟩ := List.mem_flatMap.1 hr
    exact F.keep r0 (.inl (h.wf r0 (List.mem_filter.1 hr0).1)) r hr
   ·exact F.keep _ (.inr rfl) r hr
 have hsub : ∀ r ∈ (Zcg q L (x.getD n evZ) l).take C, r ∈ Zcg q L (x.getD n evZ) l := fun r hr => List.mem_of_mem_take hr
 refine ⟨⟨fun r hr => (hTw r (hsub r hr)).1, fun r hr => (hTw r (hsub r hr)).2, ?_, fun r hr mm k => ?_, fun hlo mm hf hlast => ?_, by rw [List.length_take]; omega⟩, ?_, fun mm hm => ⟨sound mm ((D mm).2 (.inl hm)), tl mm hm⟩, fun hlo mm hf hlast => ?_⟩
 ·rw [List.map_take]
  refine (List.take_sublist _ _).nodup ?_
  unfold Zcg
  rw [List.map_append, List.nodup_append]
  refine ⟨hkm.nodup h.nd, (List.Sublist.map _ List.filter_sublist).nodup hnd, fun u hu w hw e => ?_⟩
  have hu := hkm.subset hu
  obtain ⟨r, hr, rfl⟩ := List.mem_map.1 hu
  obtain ⟨f, hf, rfl⟩ := List.mem_map.1 hw
  obtain ⟨j, j0, j1, a, m, e1⟩ := h.la r hr
  obtain ⟨a', m', e2⟩ := hnw f (List.mem_filter.1 hf).1
  rw [e1, e2] at e
  have e3 := congrArg Prod.snd (List.cons.inj e).1
  have := Ze8 hx.ne j0 (by omega) i0 i1 e3
  omega
 ·exact sound mm ((D mm).2 (.inr (.inl ⟨r, hsub r hr, k⟩)))
 ·rw [Bool.or_eq_false_iff] at hlo
  have hle := of_decide_eq_false hlo.2
  rw [List.take_of_length_le (by omega)]
  obtain ⟨j, j0, j1, e⟩ := hlast
  have hge : ZdA x ((n : Int) + 1) mm := ⟨j, j0, j1, e⟩
  rcases (D mm).1 (h.cm hlo.1 mm hf ⟨j, by omega, j1, e⟩) with k | k
  ·exact (ZlN hx i0 i1 (tl mm k) hge).elim
  ·exact k
 ·unfold Ze2
  have e : ((Zct q L (x.getD n evZ) l).filter (ZgX q L)).map prR = (((Zct q L (x.getD n evZ) l).filter (ZgX q L)).map fun f => f.2.1).map List.reverse := by rw [List.map_map]; rfl
  rw [e]
  exact List.Pairwise.map _ (fun a b hab e => hab (List.reverse_inj.1 e)) ((List.Sublist.map _ List.filter_sublist).nodup hnd)
 ·rcases (D mm).1 (h.cm hlo mm hf ⟨n, Int.le_refl _, i1, hlast⟩) with k | ⟨r, _, k⟩ | k
  ·exact k
  ·exact (ZlN hx i0 i1 hlast (Zuw k)).elim
  ·exact (ZlN hx i0 i1 hlast (ZuO k)).elim
end
end Go.Proofs.YtkbdofnbagmlfaaGreat

namespace Go.Proofs.YtkbdofnbagmlfaaGreat
open Go.PI Go
theorem lessP_at (a b : List Prs) (hb : a.length <= 1000000) : lessP (a, b, ()) = some (decide (Zat a b < 0), ()) := by
 obtain ⟨z, hz, h⟩ : ∃ z, lessP_w0 (a, b, 0, ()) = some z /\ ((∃ c, z = .inl (c, ()) /\ c = decide (Zat a b < 0)) \/ (z = .inr (a, b, ()) /\ decide (Zat a b < 0) = decide ((a.length : Int) < (b.length : Int)))) := by
  refine Zaw (step := Zhh) (fun y => ∃ i : Int, y = (a, b, i, ()) /\ 0 <= i /\ i <= a.length /\ i <= b.length /\ Zat a b = Zat (a.drop i.toNat) (b.drop i.toNat)) (fun y => ((a.length : Int) - y.2.2.1).toNat) _ ?_ _ ⟨0, rfl, Int.le_refl _, by omega, by omega, rfl⟩
  rintro y ⟨i, rfl, g0, g1, g3, g2⟩
  unfold Zhh
  by_cases hi : i < (a.length : Int)
  ·have hw : IntKind.wrap .i64 (i + 1) = i + 1 := Go.PI.wrap_small (by omega) (by omega)
   rw [Zdq a i (0, 0) g0 hi] at g2
   by_cases hj : i < (b.length : Int)
   ·rw [Zdq b i (0, 0) g0 hj] at g2
    simp only [Zat] at g2
    have ai := in2 g0 hi
    have bi := in2 g0 hj
    have d2 : Zbj (a.getD i.toNat (0, 0)) (b.getD i.toNat (0, 0)) = _ := rfl
    unfold Zbj at d2
    refine BT.lt (decide_eq_true hi) (BT.lt (decide_eq_true hj) (BT.yes ai (BT.yes bi (BT.cond (fun h1 => BT.yes ai (BT.yes bi (BT.ends (.inl ⟨_, rfl, ?_⟩)))) (fun h1 => BT.yes ai (BT.yes bi (BT.cond (fun h2 => BT.yes ai (BT.yes bi (BT.ends (.inl ⟨_, rfl, ?_⟩)))) (fun h2 => BT.goes ⟨⟨i + 1, by rw [hw], by omega, by omega, by omega, ?_⟩, ?_⟩))))))))
    ·have h1 : (a.getD i.toNat (0, 0)).1 ≠ (b.getD i.toNat (0, 0)).1 := by simpa using h1
     rw [g2]
     unfold Zbj
     generalize a.getD i.toNat (0, 0) = u at *
     generalize b.getD i.toNat (0, 0) = v at *
     rcases Int.lt_or_gt_of_ne h1 with h | h
     ·simp [h]
     ·have h' : ¬ u.1 < v.1 := by omega
      simp [h, h']
    ·have h1 : (a.getD i.toNat (0, 0)).1 = (b.getD i.toNat (0, 0)).1 := by simpa using h1
     have h2 : (a.getD i.toNat (0, 0)).2 ≠ (b.getD i.toNat (0, 0)).2 := by simpa using h2
     rw [g2]
     unfold Zbj
     generalize a.getD i.toNat (0, 0) = u at *
     generalize b.getD i.toNat (0, 0) = v at *
     rcases Int.lt_or_gt_of_ne h2 with h | h
     ·simp [h, h1]
     ·have h' : ¬ u.2 < v.2 := by omega
      simp [h, h', h1]
    ·have h1 : (a.getD i.toNat (0, 0)).1 = (b.getD i.toNat (0, 0)).1 := by simpa using h1
     have h2 : (a.getD i.toNat (0, 0)).2 = (b.getD i.toNat (0, 0)).2 := by simpa using h2
     rw [g2, if_pos ((Zir _ _).2 (Prod.ext h1 h2))]
    ·dsimp only
     rw [hw]
     omega
   ·refine BT.lt (decide_eq_true hi) (BT.ge (decide_eq_false hj) (BT.ends (.inr ⟨rfl, ?_⟩)))
    rw [g2, List.drop_eq_nil_of_le (show b.length <= i.toNat by omega), decide_eq_false (show ¬ (a.length : Int) < (b.length : Int) by omega)]
    rfl
  ·refine BT.ge (decide_eq_false hi) (BT.ends (.inr ⟨rfl, ?_⟩))
   rw [g2, List.drop_eq_nil_of_le (show a.length <= i.toNat by omega)]
   by_cases hl : (a.length : Int) < (b.length : Int)
   ·rw [decide_eq_true hl, Zdq b i (0, 0) g0 (by omega)]
    rfl
   ·rw [decide_eq_false hl, List.drop_eq_nil_of_le (by omega)]
    rfl
 unfold lessP Zs3
 simp only [Br.run, hz]
 rcases h with ⟨c, rfl, rfl⟩ | ⟨rfl, h⟩
 ·rfl
 ·rw [h]
  rfl
theorem Zuc (a b : List Prs) (ha : a.length <= 1000000) : ∃ c, samePs (a, b, ()) = some (c, ()) /\ (c = true ↔ a = b) := by
 by_cases hl : a.length = b.length
 ·obtain ⟨z, hz, h⟩ : ∃ z, samePs_w0 (a, b, 0, ()) = some z /\ ((z = .inl () /\ a ≠ b) \/ (z = .inr () /\ a = b)) := by
   refine Zaw (step := Zfy) (fun y => ∃ i : Int, y = (a, b, i, ()) /\ 0 <= i /\ i <= a.length /\ ∀ k : Nat, (k : Int) < i -> a.getD k (0, 0) = b.getD k (0, 0)) (fun y => ((a.length : Int) - y.2.2.1).toNat) _ ?_ _ ⟨0, rfl, Int.le_refl _, by omega, fun k h => by omega⟩
   rintro y ⟨i, rfl, g0, g1, g2⟩
   unfold Zfy
   by_cases hi : i < (a.length : Int)
   ·have hw : IntKind.wrap .i64 (i + 1) = i + 1 := Go.PI.wrap_small (by omega) (by omega)
    refine BT.lt (decide_eq_true hi) (BT.yes (in2 g0 hi) (BT.yes (in2 g0 (by omega)) (BT.cond (fun hc => BT.ends (.inl ⟨rfl, fun e => ?_⟩)) (fun hc => BT.goes ⟨⟨i + 1, by rw [hw], by omega, by omega, fun k hk => ?_⟩, ?_⟩))))
    ·subst e
     simp at hc
    ·by_cases hki : (k : Int) = i
     ·obtain rfl : k = i.toNat := by omega
      simp at hc
      exact Prod.ext hc.1 hc.2
     ·exact g2 k (by omega)
    ·dsimp only
     rw [hw]
     omega
   ·exact BT.ge (decide_eq_false hi) (BT.ends (.inr ⟨rfl, ZjM (0, 0) hl fun k hk => g2 k (by omega)⟩))
  have hne : (((a.length : Nat) : Int) != ((b.length : Nat) : Int)) = false := by rw [hl]; simp
  unfold samePs ZjB
  simp only [Br.run, hne, cond_false, hz]
  rcases h with ⟨rfl, h⟩ | ⟨rfl, h⟩
  ·exact ⟨false, rfl, ⟨fun e => (by cases e), fun e => absurd e h⟩⟩
  ·exact ⟨true, rfl, ⟨fun _ => h, fun _ => rfl⟩⟩
 ·have hne : (((a.length : Nat) : Int) != ((b.length : Nat) : Int)) = true := by simp; omega
  refine ⟨false, ?_, ⟨fun e => (by cases e), fun e => absurd (congrArg List.length e) hl⟩⟩
  unfold samePs ZjB
  simp only [Br.run, hne, cond_true]
theorem ZuM (ms : List (List Prs)) (hl : ms.length <= 1000000) (hm : ∀ m ∈ ms, m.length <= 1000000) : sameMs (ms, ms, ()) = some (true, ()) := by
 obtain ⟨z, hz, rfl⟩ : ∃ z, sameMs_w0 (ms, ms, 0, ()) = some z /\ z = .inr () := by
  refine Zaw (step := ZfQ) (fun y => ∃ i : Int, y = (ms, ms, i, ()) /\ 0 <= i) (fun y => ((ms.length : Int) - y.2.2.1).toNat) _ ?_ _ ⟨0, rfl, Int.le_refl _⟩
  rintro y ⟨i, rfl, g0⟩
  unfold ZfQ
  by_cases hi : i < (ms.length : Int)
  ·have hw : IntKind.wrap .i64 (i + 1) = i + 1 := Go.PI.wrap_small (by omega) (by omega)
   have hlt : i.toNat < ms.length := by omega
   obtain ⟨c, hc, hc2⟩ := Zuc (ms.getD i.toNat []) (ms.getD i.toNat []) (hm _ (by rw [Zaf _ _ _ hlt]; exact List.getElem_mem hlt))
   obtain rfl := hc2.2 rfl
   refine BT.lt (decide_eq_true hi) (BT.yes (in2 g0 hi) (BT.yes (in2 g0 hi) (BT.opt ⟨_, hc, BT.ge rfl (BT.goes ⟨⟨i + 1, by rw [hw], by omega⟩, ?_⟩)⟩)))
   dsimp only
   rw [hw]
   omega
  ·exact BT.ge (decide_eq_false hi) (BT.ends rfl)
 unfold sameMs Zp3
 simp only [Br.run, bne_self_eq_false, cond_false, hz]
end Go.Proofs.YtkbdofnbagmlfaaGreat

namespace Go.Proofs.YtkbdofnbagmlfaaGreat
open Go.PI Go
noncomputable section
def Zed : ((List Zez) × (ZcN × (Int × (zM7 × (zM2 × (Int × (Int × ((List zM5) × Unit)))))))) -> Br (((List Zez) × (ZcN × (Int × (zM7 × (zM2 × (Int × (Int × ((List zM5) × Unit)))))))) ⊕ (Unit ⊕ Unit)) := fun (a, b, c, d, e, f, g, h, ()) =>
 (.cond (decide (c < (a.length : Int)))
 (.cond (decide (0 <= c) && decide (c < (a.length : Int)))
 (.opt (feedM ((d, (e, f, g), h), a.getD c.toNat (ByteArray.empty, ByteArray.empty, 0, 0, []), ())) fun i =>
 (.cond (Prod.snd (Prod.fst i))
 (.ret (.inr (.inl (()))))
 (.cond (decide (0 <= c) && decide (c < (a.length : Int)))
 (.opt (endsA (b, (a.getD c.toNat (ByteArray.empty, ByteArray.empty, 0, 0, [])).2.2.2.1, ())) fun j =>
 (.opt (sameMs (Prod.fst (Prod.fst i), Prod.fst j, ())) fun k =>
 (.cond (!Prod.fst k)
 (.ret (.inr (.inl (()))))
 (.ret (.inl (a, b, IntKind.wrap IntKind.i64 (c + 1), Prod.fst (Prod.fst (Prod.snd i)), Prod.fst (Prod.fst (Prod.snd (Prod.fst (Prod.snd i)))), Prod.fst (Prod.snd (Prod.fst (Prod.snd (Prod.fst (Prod.snd i))))), Prod.snd (Prod.snd (Prod.fst (Prod.snd (Prod.fst (Prod.snd i))))), Prod.snd (Prod.snd (Prod.fst (Prod.snd i))), ()))))))
 (.no))))
 (.no))
 (.ret (.inr (.inr (())))))
def matchAll_w0 := Zag fun x => (Zed x).run
def Zj0 : ((List Int) × ((List Zez) × Unit)) -> Br (Bool × Unit) := fun (p0, p1, ()) =>
 (.opt (typesR ()) fun a =>
 (.opt (newS (Prod.fst a, ())) fun b =>
 (.opt (smallQ (p0, 1000, ())) fun c =>
 (.opt (events20 (p1, 7, ())) fun d =>
 (.opt (allM (Prod.fst c, Prod.fst d, ())) fun e =>
 (.opt (newMt (Prod.fst (Prod.fst b), Prod.fst c, ())) fun f =>
 (.opt (matchAll_w0 (Prod.fst d, Prod.fst e, 0, Prod.fst (Prod.fst f), Prod.fst (Prod.fst (Prod.snd (Prod.fst f))), Prod.fst (Prod.snd (Prod.fst (Prod.snd (Prod.fst f)))), Prod.snd (Prod.snd (Prod.fst (Prod.snd (Prod.fst f)))), Prod.snd (Prod.snd (Prod.fst f)), ())) fun g =>
 (.sum g (fun h =>
 (.ret (false, ()))) (fun i =>
 (.opt (awake25 ()) fun j =>
 (.ret (Prod.fst j, ()))))))))))))
def matchAll := fun x => (Zj0 x).run
def ZtQ : List Lp := [
 .mk 7 (shX 58 [(10, .c (.ref 1079172 0 0))] [(1079172, [.bad, .bad, .bad, .bad, (.mfull 1724)]), (1724, [])] [.slot 8 false (.sl zM8), .slot 9 false (.sl (.sl (.st zM9))), sI 11, .cell 1079172 0 false zM6, .cell 1079172 1 false zM1, .cell 1079172 2 false (.int .i64), .cell 1079172 3 false (.int .i64), .ar 1724 false 97 zM4] ⟨[(8, .as false (.sl zM8)), (9, .as false (.sl (.sl (.st zM9)))), (10, .keep), (11, .as false (.int .i64))], [(1078148, 0, .as false zM6), (1078148, 1, .as false zM1), (1078148, 2, .as false (.int .i64)), (1078148, 3, .as false (.int .i64)), (1078148, 4, .row 700 false 97 zM4)], [(1078148, false), (700, false)]⟩) ([exO .ret 58 [(4, D.c C.ff)] [] [] [], exO (.exit 0) 58 [] [] [] []]) Zed]
theorem Zri : OC Tryz.prog 3 [(false, .ty true (.sl (.int .i64))), (false, .ty true (.sl zM8))] [.ty false .bool] matchAll := OC.lp Ztn 1024 Tryz.func3 ZtQ (by kernel_rfl) ⟨fun _ => by kernel_rfl, trivial⟩ (fun _ => by kernel_rfl)
end
end Go.Proofs.YtkbdofnbagmlfaaGreat

namespace Go.Proofs.YtkbdofnbagmlfaaGreat
open Go.PI Go
theorem ZtT : awake25 () = some (true, ()) := by kernel_rfl
theorem Zve (p : List Int) (c : Int) : ∃ q : Qry, smallQ (p, c, ()) = some (q, ()) /\ QMk q /\ q.2.2 = c := by
 obtain ⟨q, h, hq⟩ := Ztq p
 refine ⟨(q.1, q.2.1, c), ?_, ⟨hq.es, hq.lo, hq.hi, hq.w0, hq.w1⟩, rfl⟩
 unfold smallQ Zqa
 simp only [Br.run, h]
theorem newMt_at {q : Qry} (hq : QMk q) : ∃ L, SOk q L /\ newMt (ZaJ, q, ()) = some ((mM q L, q, []), ()) := by
 obtain ⟨L, h1, h2⟩ := newN_at2 hq
 refine ⟨L, h2, ?_⟩
 unfold newMt Zsk
 simp only [Br.run, newM_at hq.few h1, Zt2 hq.few L]
theorem endsA_at (ms : List (List Prs)) (hl : ms.length <= 1000000) (hm : ∀ m ∈ ms, 1 <= m.length /\ m.length <= 1000000) (s : Int) : endsA (ms, s, ()) = some (ms.filter (fun m => Zbf m == s), ()) := by
 obtain ⟨z, hz, rfl⟩ : ∃ z, endsA_w0 (ms, s, 0, [], ()) = some z /\ z = (ms.filter (fun m => Zbf m == s), ()) := by
  refine Zaw (step := ZgG) (fun y => ∃ i : Int, y = (ms, s, i, (ms.take i.toNat).filter (fun m => Zbf m == s), ()) /\ 0 <= i /\ i <= ms.length) (fun y => ((ms.length : Int) - y.2.2.1).toNat) _ ?_ _ ⟨0, rfl, Int.le_refl _, by omega⟩
  rintro y ⟨i, rfl, g0, g1⟩
  unfold ZgG
  by_cases hi : i < (ms.length : Int)
  ·have hw : IntKind.wrap .i64 (i + 1) = i + 1 := Go.PI.wrap_small (by omega) (by omega)
   have hlt : i.toNat < ms.length := by omega
   have hmem : ms.getD i.toNat [] ∈ ms := by rw [Zaf _ _ _ hlt]; exact List.getElem_mem hlt
   obtain ⟨m1, m2⟩ := hm _ hmem
   have kn := Zew (fun m : List Prs => Zbf m == s) ms [] i.toNat hlt
   have e1 : (i + 1).toNat = i.toNat + 1 := by omega
   have n1 : ((ms.take i.toNat).filter (fun m => Zbf m == s)).length <= 1000000 := Nat.le_trans (List.length_filter_le ..) (by rw [List.length_take]; omega)
   have hw2 : IntKind.wrap .i64 (((ms.getD i.toNat []).length : Int) - 1) = ((ms.getD i.toNat []).length : Int) - 1 := Go.PI.wrap_small (by omega) (by omega)
   have e2 : (((ms.getD i.toNat []).length : Int) - 1).toNat = (ms.getD i.toNat []).length - 1 := by omega
   dsimp only
   rw [hw, hw2, e2]
   refine BT.lt (decide_eq_true hi) (BT.yes (in2 g0 hi) (BT.yes (in2 g0 hi) (BT.yes (in2 (by omega) (by omega)) (BT.cond (fun hc => BT.yes (in2 g0 hi) (BT.yes (decide_eq_true ?_) (BT.goes ⟨⟨i + 1, ?_, by omega, by omega⟩, ?_⟩))) (fun hc => BT.goes ⟨⟨i + 1, ?_, by omega, by omega⟩, ?_⟩)))))
   ·show (((ms.take i.toNat).filter (fun m => Zbf m == s)).length + 1) * 24 <= _
    omega
   ·rw [e1, kn, if_pos (show (Zbf (ms.getD i.toNat []) == s) = true from hc)]
    rfl
   ·dsimp only; omega
   ·have hc' : (Zbf (ms.getD i.toNat []) == s) = false := hc
    rw [e1, kn, if_neg (by rw [hc']; exact Bool.false_ne_true), List.append_nil]
   ·dsimp only; omega
  ·refine BT.ge (decide_eq_false hi) (BT.ends ?_)
   rw [List.take_of_length_le (by omega)]
 unfold endsA ZrV
 simp only [Br.run, hz]
theorem Zq0 {ms told : List (List Prs)} (h1 : told.Nodup) (h2 : ms.Nodup) (h3 : ms.Pairwise fun a b => Go.Proofs.ltOf Zat b a = false) (s : Int) (h4 : ∀ m, m ∈ told ↔ m ∈ ms /\ Zbf m = s) : sorted Zat told = ms.filter (fun m => Zbf m == s) := by
 refine (Zjk ZjG Zo1 ?_ (h3.sublist List.filter_sublist)).symm
 refine (List.perm_ext_iff_of_nodup (List.filter_sublist.nodup h2) h1).2 fun m => ?_
 rw [List.mem_filter, h4, beq_iff_eq]
theorem Zq8 (p : List Int) (l : List Evt) : matchAll (p, l, ()) = some (true, ()) := by
 obtain ⟨q, e1, hq, hC⟩ := Zve p 1000
 obtain ⟨x, e2, hx, hx7⟩ := Zn8 l 7 (by decide) (by decide)
 have hql := hq.lo
 obtain ⟨L, hL, e6⟩ := newMt_at hq
 obtain ⟨out, f1, f2, f3, f4, f5⟩ := allM_o hq.good hx.len (fun e he => (hx.ev e he).good) hx.ne hx.tm
 obtain ⟨ms, e3, e4, e5⟩ := sortP_at (fun m => m.length <= 1000000) (fun a b => decide (Zat a b < 0)) (fun a b => Go.Proofs.ltOf Zat b a = false) (fun a b ha _ => lessP_at a b ha)
  (fun a b h => by
   cases e : Go.Proofs.ltOf Zat b a with
   | false => rfl
   | true =>
    have h1 := of_decide_eq_true h
    have h2 : Zat b a < 0 := of_decide_eq_true e
    have := ZfK a b
    omega) (fun a b h => h) (fun a b c h k => ZjG.ntrans _ _ _ k h) out f3 f5
 have hms : ∀ m, m ∈ ms ↔ FA q x m := fun m => (e4.mem_iff).trans (f2 m)
 have hnd : ms.Nodup := e4.nodup_iff.2 f4
 have hml : ms.length <= 100000 := by rw [e4.length_eq]; exact f3
 have hm1 : ∀ m ∈ ms, 1 <= m.length /\ m.length <= 1000000 := fun m hm => by
  refine ⟨?_, f5 m (e4.mem_iff.1 hm)⟩
  obtain ⟨j, w, _, _, rfl, _⟩ := (Zo7 m).1 ((hms m).1 hm)
  rw [List.length_cons]; omega
 obtain ⟨z, hz, rfl⟩ : ∃ z, matchAll_w0 (x, ms, 0, mM q L, q.1, q.2.1, q.2.2, [], ()) = some z /\ z = .inr () := by
  refine Zaw (step := Zed) (fun y => ∃ (n : Nat) (k : List RunT), y = (x, ms, (n : Int), mM q L, q.1, q.2.1, q.2.2, k, ()) /\ n <= x.length /\ Inv q x L 1000 n false k /\ Za6 L (7 - n) k + wt (7 - n) (-1, 0) <= 1000)
   (fun y => ((x.length : Int) - y.2.2.1).toNat) _ ?_ _ ⟨0, [], rfl, Nat.zero_le _, Inv.zero 1000, ?_⟩
  ·rintro y ⟨n, k, rfl, g1, hI, hW⟩
   unfold Zed
   by_cases hi : (n : Int) < (x.length : Int)
   ·have hw : IntKind.wrap .i64 ((n : Int) + 1) = ((n + 1 : Nat) : Int) := by rw [Go.PI.wrap_small (by omega) (by omega)]; rfl
    have i0 : (0 : Int) <= n := Int.natCast_nonneg n
    have hn : n < x.length := by omega
    have F := feeds hq hx hL (n := n) (by omega) i0 hi
    have hF : feedM ((mM q L, (q.1, q.2.1, q.2.2), k), x.getD (n : Int).toNat evZ, ()) = some ((sorted Zat (Ze2 q L (x.getD (n : Int).toNat evZ) k), decide (1000 < (Zcg q L (x.getD (n : Int).toNat evZ) k).length)), (mM q L, q, (Zcg q L (x.getD (n : Int).toNat evZ) k).take 1000), ()) :=
     feedM_at F rfl 1000 hC (by decide) k hI.wf hI.le
    have hS := allR_sum hq hx hL (n := n) (by omega) i0 hi hI.wf (7 - (n + 1))
    have hlen := Zou L (7 - (n + 1)) (Zcg q L (x.getD (n : Int).toNat evZ) k)
    have e7 : 7 - (n + 1) + 1 = 7 - n := by omega
    rw [e7] at hS
    have hlo : decide (1000 < (Zcg q L (x.getD (n : Int).toNat evZ) k).length) = false := decide_eq_false (by omega)
    have htk : (Zcg q L (x.getD (n : Int).toNat evZ) k).take 1000 = Zcg q L (x.getD (n : Int).toNat evZ) k := List.take_of_length_le (by omega)
    obtain ⟨j1, j2, j3, j4⟩ := hI.step hq hx hL (by omega) hn
    have hlo' : decide (1000 < (Zcg q L (x.getD n evZ) k).length) = false := hlo
    have htk' : (Zcg q L (x.getD n evZ) k).take 1000 = Zcg q L (x.getD n evZ) k := htk
    rw [hlo', Bool.or_false, htk'] at j1
    have hso : sorted Zat (Ze2 q L (x.getD (n : Int).toNat evZ) k) = ms.filter (fun m => Zbf m == ZaN x n) := Zq0 j2 hnd e5 _ fun m => ⟨fun h => ⟨(hms m).2 (j3 m h).1, (j3 m h).2⟩, fun h => j4 rfl m ((hms m).1 h.1) h.2⟩
    have hE : endsA (ms, (x.getD (n : Int).toNat evZ).2.2.2.1, ()) = some (ms.filter (fun m => Zbf m == ZaN x n), ()) := endsA_at ms (by omega) hm1 _
    have hsm := ZuM (ms.filter (fun m => Zbf m == ZaN x n)) (Nat.le_trans (List.length_filter_le ..) (by omega)) fun m h => (hm1 m (List.mem_filter.1 h).1).2
    rw [hso, hlo, htk] at hF
    refine BT.lt (decide_eq_true hi) (BT.yes (in2 i0 hi) (BT.opt ⟨_, hF, BT.ge rfl (BT.yes (in2 i0 hi) (BT.opt ⟨_, hE, BT.opt ⟨_, hsm, BT.ge rfl (BT.goes ⟨⟨n + 1, _, by dsimp only; rw [hw]; rfl, by omega, j1, ?_⟩, ?_⟩)⟩⟩))⟩))
    ·have : Zcg q L (x.getD n evZ) k = Zcg q L (x.getD (n : Int).toNat evZ) k := rfl
     rw [this]
     omega
    ·dsimp only
     rw [hw]
     omega
   ·exact BT.ge (decide_eq_false hi) (BT.ends rfl)
  ·exact Nat.le_trans (Nat.le_of_eq (Nat.zero_add _)) wOf7
 unfold matchAll Zj0
 simp only [Br.run, Br.sum, Zua, newS_T3, e1, e2, f1 _ e3, e6, hz, ZtT]
end Go.Proofs.YtkbdofnbagmlfaaGreat
