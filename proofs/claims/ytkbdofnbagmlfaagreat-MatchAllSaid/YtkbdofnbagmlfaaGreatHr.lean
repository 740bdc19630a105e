/- Runs: what is still to come of them, and what an event makes of it. How many runs there can be at most; that no two have the same pairs. The matcher: what it keeps and what it tells, event by event. -/
import Derived.Test.YtkbdofnbagmlfaaGreatHq
import Derived.Test.YtkbdofnbagmlfaaGreatHm
namespace Go.Proofs.YtkbdofnbagmlfaaGreat
open Go.PI Go
def SufB (q : Qry) (l : List Evt) (f0 a h : Int) (env : List Bnd) (b : Bool) (i : Int) : List Prs -> Prop
 | [] => False
 | (p, s) :: r => ∃ j : Int, i <= j /\ j < l.length /\ ZaN l j = s /\ Zbn l j - f0 <= q.2.1 /\ ZaO q l p j env /\
   ((p = a /\ h < Zbt q a /\ Suf q l f0 a (h + 1) (Zan (q.1.getD a.toNat Zac) env (l.getD j.toNat evZ)) (j + 1) r) \/
    (b = false /\ Zbl q a <= h /\ Nxt q a p /\ (∀ j', i <= j' -> j' < j -> ∀ u, a < u -> u < p -> ¬ ZaO q l u j' env) /\ Suf q l f0 p 1 (Zan (q.1.getD p.toNat Zac) env (l.getD j.toNat evZ)) (j + 1) r))
section
variable {q : Qry} {x : List Evt}
theorem Zh9 {f0 a h : Int} {env : List Bnd} {i : Int} : ∀ r, Suf q x f0 a h env i r ↔ (r = [] /\ Zbl q a <= h /\ Zbi q a) \/ SufB q x f0 a h env false i r
 | [] => ⟨fun h => .inl ⟨rfl, h⟩, fun h => h.elim (fun h => h.2) (fun h => h.elim)⟩
 | (p, s) :: r => by
  constructor
  ·rintro ⟨j, j0, j1, e, w, f, h⟩
   refine .inr ⟨j, j0, j1, e, w, f, ?_⟩
   rcases h with h | h
   ·exact .inl h
   ·exact .inr ⟨rfl, h⟩
  ·rintro (⟨h, -⟩ | ⟨j, j0, j1, e, w, f, h⟩)
   ·cases h
   ·refine ⟨j, j0, j1, e, w, f, ?_⟩
    rcases h with h | h
    ·exact .inl h
    ·exact .inr h.2
theorem ZhU {f0 a h : Int} {env : List Bnd} {b : Bool} {i : Int} (hi : i < x.length) (a0 : 0 <= a) (b' : Bool) (hB : ∀ p, Nxt q a p -> (b' = true ↔ b = true \/ ∃ u, a < u /\ u < p /\ ZaO q x u i env)) (w : List Prs) :
  SufB q x f0 a h env b i w ↔ (∃ p h' w', w = (p, ZaN x i) :: w' /\ MvTo q (a, h) (p, h') /\ (b = false \/ p = a) /\ Zbn x i - f0 <= q.2.1 /\ ZaO q x p i env /\ Suf q x f0 p h' (Zan (q.1.getD p.toNat Zac) env (x.getD i.toNat evZ)) (i + 1) w') \/ SufB q x f0 a h env b' (i + 1) w := by
 cases w with
 | nil => exact ⟨fun h => h.elim, fun h => h.elim (fun ⟨_, _, _, h, _⟩ => by cases h) (fun h => h.elim)⟩
 | cons z w =>
  obtain ⟨p, s⟩ := z
  constructor
  ·rintro ⟨j, j0, j1, rfl, ww, f, hh⟩
   by_cases e : j = i
   ·subst e
    refine .inl ?_
    rcases hh with ⟨rfl, h1, h2⟩ | ⟨hb, h1, h2, h3, h4⟩
    ·exact ⟨p, h + 1, w, rfl, .inl ⟨a0, rfl, by show h + 1 <= Zbt q p; omega⟩, .inr rfl, ww, f, h2⟩
    ·exact ⟨p, 1, w, rfl, .inr ⟨.inr h1, h2, rfl⟩, .inl hb, ww, f, h4⟩
   ·refine .inr ⟨j, by omega, j1, rfl, ww, f, ?_⟩
    rcases hh with hh | ⟨hb, h1, h2, h3, h4⟩
    ·exact .inl hh
    ·refine .inr ⟨?_, h1, h2, fun j' k1 k2 => h3 j' (by omega) k2, h4⟩
     cases hb' : b' with
     | false => rfl
     | true =>
      rcases (hB p h2).1 hb' with k | ⟨u, u1, u2, u3⟩
      ·rw [hb] at k; cases k
      ·exact (h3 i (Int.le_refl i) (by omega) u u1 u2 u3).elim
  ·rintro (⟨p', h', w', e, hm, hb, ww, f, hs⟩ | ⟨j, j0, j1, rfl, ww, f, hh⟩)
   ·obtain ⟨e1, rfl⟩ := List.cons.inj e
    obtain ⟨rfl, rfl⟩ := Prod.mk.inj e1
    refine ⟨i, Int.le_refl i, hi, rfl, ww, f, ?_⟩
    rcases hm with ⟨_, k1, k2⟩ | ⟨k1, k2, k3⟩
    ·obtain ⟨rfl, rfl⟩ := Prod.mk.inj k1
     exact .inl ⟨rfl, by have k2' : h + 1 <= Zbt q p := k2; omega, hs⟩
    ·dsimp only at k1 k2 k3
     subst k3
     have hn := k2.1
     refine .inr ⟨?_, by rcases k1 with k | k; omega; exact k, k2, fun j' m1 m2 => by omega, hs⟩
     rcases hb with hb | hb
     ·exact hb
     ·omega
   ·refine ⟨j, by omega, j1, rfl, ww, f, ?_⟩
    rcases hh with hh | ⟨hb, h1, h2, h3, h4⟩
    ·exact .inl hh
    ·have hno : ¬ (b = true \/ ∃ u, a < u /\ u < p /\ ZaO q x u i env) := fun k => by
      have := (hB p h2).2 k
      rw [hb] at this; cases this
     refine .inr ⟨?_, h1, h2, fun j' m1 m2 u u1 u2 u3 => ?_, h4⟩
     ·cases hbb : b with
      | false => rfl
      | true => exact (hno (.inl hbb)).elim
     ·by_cases e : j' = i
      ·subst e; exact hno (.inr ⟨u, u1, u2, u3⟩)
      ·exact h3 j' (by omega) m2 u u1 u2 u3
end
abbrev stR (L : List Stt) (r : RunT) : Stt := L.getD r.1.toNat (0, 0)
def Zcl (q : Qry) (x : List Evt) (L : List Stt) (i : Int) (r : RunT) (mm : List Prs) : Prop := ∃ w, mm = prR r ++ w /\ SufB q x r.2.2.2.1 (stR L r).1 (stR L r).2 r.2.2.1.reverse r.2.2.2.2.2 i w
def FutA (q : Qry) (x : List Evt) (i : Int) (mm : List Prs) : Prop := ∃ (j : Int) (w : List Prs), i <= j /\ j < x.length /\ mm = (0, ZaN x j) :: w /\ ZaO q x 0 j [] /\ Suf q x (Zbn x j) 0 1 (Zan (q.1.getD 0 Zac) [] (x.getD j.toNat evZ)) (j + 1) w
theorem Zo7 {q : Qry} {x : List Evt} (mm : List Prs) : FA q x mm ↔ FutA q x 0 mm := by
 constructor
 ·rintro ⟨i, i0, i1, f, hf⟩
  obtain ⟨r, e, hs⟩ := hf.suf
  exact ⟨i, r, i0, i1, e, f, hs⟩
 ·rintro ⟨i, r, i0, i1, rfl, f, hs⟩
  exact ⟨i, i0, i1, f, Suf.fe r (m := [(0, ZaN x i)]) hs⟩
structure RunW (q : Qry) (L : List Stt) (n : Nat) (r : RunT) : Prop where
 k0 : 0 <= r.1
 k1 : r.1 < L.length
 st : SAt q (stR L r)
 ms : ∃ s m, r.2.1 = ((stR L r).1, s) :: m
 lm : r.2.1.length <= n
 le : r.2.2.1.length <= n
 en : Zdc r.2.2.1.reverse
 f0 : 0 <= r.2.2.2.1
 f1 : r.2.2.2.1 <= 15
theorem RunW.up {q : Qry} {L : List Stt} {n m : Nat} {r : RunT} (h : RunW q L n r) (hnm : n <= m) : RunW q L m r := ⟨h.k0, h.k1, h.st, h.ms, by have := h.lm; omega, by have := h.le; omega, h.en, h.f0, h.f1⟩
theorem RunW.elem {q : Qry} {L : List Stt} {n : Nat} {r : RunT} (h : RunW q L n r) : ZcV r = (stR L r).1 := by
 obtain ⟨s, m, e⟩ := h.ms
 unfold ZcV
 rw [e]
theorem Zco (q : Qry) (L : List Stt) (r : RunT) (e : Evt) (f : RunT) : ∀ v, f ∈ ZaP q L r e v ↔ ∃ k ∈ v, (ZcF q r e (L.getD k.toNat (0, 0)).1 && (!r.2.2.2.2.2 || (L.getD k.toNat (0, 0)).1 == ZcV r)) = true /\ f = Za0 r q k (L.getD k.toNat (0, 0)).1 e
 | [] => by simp [ZaP]
 | k :: v => by
  have ih := Zco q L r e f v
  unfold ZaP
  split
  ·rename_i h
   rw [List.mem_cons, ih]
   constructor
   ·rintro (rfl | ⟨k', h1, h2, h3⟩)
    ·exact ⟨k, List.mem_cons_self, h, rfl⟩
    ·exact ⟨k', List.mem_cons_of_mem _ h1, h2, h3⟩
   ·rintro ⟨k', h1, h2, h3⟩
    rcases List.mem_cons.1 h1 with rfl | h1
    ·exact .inl h3
    ·exact .inr ⟨k', h1, h2, h3⟩
  ·rename_i h
   rw [ih]
   constructor
   ·rintro ⟨k', h1, h2, h3⟩
    exact ⟨k', List.mem_cons_of_mem _ h1, h2, h3⟩
   ·rintro ⟨k', h1, h2, h3⟩
    rcases List.mem_cons.1 h1 with rfl | h1
    ·exact (h h2).elim
    ·exact ⟨k', h1, h2, h3⟩
theorem ZgR (r : RunT) (q : Qry) (k el : Int) (e : Evt) : prR (Za0 r q k el e) = prR r ++ [(el, e.2.2.2.1)] := by
 unfold prR Za0
 simp
theorem Zfn (r : RunT) (q : Qry) (k el : Int) (e : Evt) (h0 : 0 <= el) (h1 : el < q.1.length) : (Za0 r q k el e).2.2.1.reverse = Zan (q.1.getD el.toNat Zac) r.2.2.1.reverse e := by
 unfold Za0 Zan
 dsimp only
 by_cases c : (q.1.getD el.toNat (ByteArray.empty, [], false, 0, 0, [])).2.2.2.2.1 = 1
 ·rw [if_pos ⟨h0, h1, c⟩, if_pos c, List.reverse_cons]
 ·rw [if_neg (fun h => c h.2.2), if_neg c]
section
variable {q : Qry} (hq : QMk q) {x : List Evt} (hx : XMk x) {L : List Stt}
include hq hx
omit hq in
theorem Zic {i : Int} (i0 : 0 <= i) (i1 : i < x.length) : Zbw (x.getD i.toNat evZ) := by
 have hlt : i.toNat < x.length := by omega
 rw [Za1 _ _ _ hlt]
 exact hx.ev _ (List.getElem_mem hlt)
theorem Zfa {i : Int} (i0 : 0 <= i) (i1 : i < x.length) (r : RunT) (hr : r.2.2.1.length <= 50) (hen : Zdc r.2.2.1.reverse) (u : Int) (u0 : 0 <= u) (u1 : u < q.1.length) : ZcF q r (x.getD i.toNat evZ) u = true ↔ ZaO q x u i r.2.2.1.reverse := by
 unfold ZcF ZaO
 rw [fitsG_d hq.qok r (by omega) u u0 u1, fitD_ref hq u u0 u1 _ (Zic hx i0 i1) _ (by rw [List.length_reverse]; exact hr) hen]
 generalize fits20 _ = o
 cases o with
 | none => simp
 | some y => obtain ⟨b, ⟨⟩⟩ := y; simp
omit hq in
theorem env_mk2 {i : Int} (i0 : 0 <= i) (i1 : i < x.length) {env : List Bnd} (h : Zdc env) (e : Elm) : Zdc (Zan e env (x.getD i.toNat evZ)) := by
 unfold Zan
 split
 ·intro b hb
  rcases List.mem_append.1 hb with hb | hb
  ·exact h b hb
  ·obtain rfl := List.mem_singleton.1 hb
   exact Zic hx i0 i1
 ·exact h
omit hq in
theorem with_w {n : Nat} {i : Int} (i0 : 0 <= i) (i1 : i < x.length) {r : RunT} (hr : RunW q L n r \/ r = ((0, [], [], 0, (0, 0, 0), false) : RunT)) (k : Int) (k0 : 0 <= k) (k1 : k < L.length) (hs : SAt q (L.getD k.toNat (0, 0))) :
  RunW q L (n + 1) (Za0 r q k (L.getD k.toNat (0, 0)).1 (x.getD i.toNat evZ)) := by
 have hlt : i.toNat < x.length := by omega
 have ht := hx.tm _ (List.getElem_mem hlt)
 have hT : x.getD i.toNat evZ = x[i.toNat] := Za1 _ _ _ hlt
 have h1 : r.2.1.length <= n /\ r.2.2.1.length <= n /\ Zdc r.2.2.1.reverse /\ (r.2.1 ≠ [] -> 0 <= r.2.2.2.1 /\ r.2.2.2.1 <= 15) := by
  rcases hr with hr | rfl
  ·exact ⟨hr.lm, hr.le, hr.en, fun _ => ⟨hr.f0, hr.f1⟩⟩
  ·exact ⟨Nat.zero_le _, Nat.zero_le _, fun b hb => by simp at hb, fun h => (h rfl).elim⟩
 refine ⟨k0, k1, hs, ⟨_, _, rfl⟩, ?_, ?_, ?_, ?_, ?_⟩
 ·show (_ :: r.2.1).length <= n + 1
  rw [List.length_cons]; omega
 ·unfold Za0
  dsimp only
  split
  ·rw [List.length_cons]; omega
  ·omega
 ·rw [Zfn r q k _ _ hs.1 hs.2.1]
  exact env_mk2 hx i0 i1 h1.2.2.1 _
 ·unfold Za0
  dsimp only
  split
  ·rw [hT]; exact ht.1
  ·rename_i h; exact (h1.2.2.2 h).1
 ·unfold Za0
  dsimp only
  split
  ·rw [hT]; exact ht.2
  ·rename_i h; exact (h1.2.2.2 h).2
theorem Zt6 {n : Nat} (hn : n <= 50) {i : Int} (i0 : 0 <= i) (i1 : i < x.length) {r : RunT} (hr : RunW q L n r) (ht : Zbn x i - r.2.2.2.1 <= q.2.1) {v : List Int} (hv : MvOk q L (stR L r) v) (b : Bool)
  (hb : r.2.2.2.2.2 = false -> ∀ p, Nxt q (stR L r).1 p -> (b = true ↔ ∃ u, (stR L r).1 < u /\ u < p /\ ZcF q r (x.getD i.toNat evZ) u = true)) (hL : SOk q L) (mm : List Prs) :
  Zcl q x L i r mm ↔ (∃ f ∈ ZaP q L r (x.getD i.toNat evZ) v, (mm = prR f /\ Zbl q (stR L f).1 <= (stR L f).2 /\ Zbi q (stR L f).1) \/ Zcl q x L (i + 1) f mm) \/ Zcl q x L (i + 1) (r.1, r.2.1, r.2.2.1, r.2.2.2.1, r.2.2.2.2.1, r.2.2.2.2.2 || b) mm := by
 have hle := hr.le
 have hB : ∀ p, Nxt q (stR L r).1 p -> ((r.2.2.2.2.2 || b) = true ↔ r.2.2.2.2.2 = true \/ ∃ u, (stR L r).1 < u /\ u < p /\ ZaO q x u i r.2.2.1.reverse) := fun p hp => by
  cases c : r.2.2.2.2.2 with
  | true => simp
  | false =>
   rw [Bool.false_or, hb c p hp]
   have h0 := hr.st.1
   have hp2 := hp.2.1
   constructor
   ·rintro ⟨u, u1, u2, u3⟩
    exact .inr ⟨u, u1, u2, (Zfa hq hx i0 i1 r (by omega) hr.en u (by omega) (by omega)).1 u3⟩
   ·rintro (k | ⟨u, u1, u2, u3⟩)
    ·cases k
    ·exact ⟨u, u1, u2, (Zfa hq hx i0 i1 r (by omega) hr.en u (by omega) (by omega)).2 u3⟩
 have hne : r.2.1 ≠ [] := by obtain ⟨s, m, e⟩ := hr.ms; rw [e]; exact List.cons_ne_nil _ _
 have hwf : ∀ (k el : Int), (Za0 r q k el (x.getD i.toNat evZ)).2.2.2.1 = r.2.2.2.1 := fun k el => by
  show (if r.2.1 = [] then _ else _) = _
  rw [if_neg hne]
 have hS : ∀ k ∈ v, SAt q (L.getD k.toNat (0, 0)) := fun k hk => by
  have hm := (hv.2.2.2 (L.getD k.toNat (0, 0))).1 (List.mem_map.2 ⟨k, hk, rfl⟩)
  have hk2 := hv.2.1 k hk
  have hin : L.getD k.toNat (0, 0) ∈ L := by rw [Za1 _ _ _ (by omega)]; exact List.getElem_mem _
  rcases (hL.2.2.2 _).1 hin with h | h
  ·rcases hm with ⟨m1, m2, _⟩ | ⟨_, _, m3⟩
   ·rw [h] at m2
    have := congrArg Prod.fst m2
    dsimp only at this
    have := hr.st.1
    omega
   ·rw [h] at m3; cases m3
  ·exact h
 unfold Zcl
 constructor
 ·rintro ⟨w, rfl, hw⟩
  rcases (ZhU i1 hr.st.1 _ hB w).1 hw with ⟨p, h', w', rfl, hm, hbp, _, hf, hs⟩ | hw
  ·obtain ⟨k, hk, e⟩ := List.mem_map.1 ((hv.2.2.2 (p, h')).2 hm)
   have hSk := hS k hk
   refine .inl ⟨Za0 r q k (L.getD k.toNat (0, 0)).1 (x.getD i.toNat evZ), (Zco ..).2 ⟨k, hk, ?_, rfl⟩, ?_⟩
   ·rw [Bool.and_eq_true]
    constructor
    ·rw [Zfa hq hx i0 i1 r (by omega) hr.en _ hSk.1 hSk.2.1, e]; exact hf
    ·rw [e, hr.elem]
     rcases hbp with hbp | hbp
     ·rw [hbp]; rfl
     ·rw [hbp]; simp
   ·rw [ZgR, e]
    rcases (Zh9 w').1 hs with ⟨rfl, h1, h2⟩ | hs
    ·refine .inl ⟨rfl, ?_⟩
     show Zbl q (L.getD k.toNat (0, 0)).1 <= (L.getD k.toNat (0, 0)).2 /\ Zbi q (L.getD k.toNat (0, 0)).1
     rw [e]; exact ⟨h1, h2⟩
    ·refine .inr ⟨w', by rw [List.append_assoc]; rfl, ?_⟩
     have e2 := Zfn r q k p (x.getD i.toNat evZ) (by rw [e] at hSk; exact hSk.1) (by rw [e] at hSk; exact hSk.2.1)
     rw [e2, hwf]
     show SufB q x r.2.2.2.1 (L.getD k.toNat (0, 0)).1 (L.getD k.toNat (0, 0)).2 _ false (i + 1) w'
     rw [e]; exact hs
  ·exact .inr ⟨w, rfl, hw⟩
 ·rintro (⟨f, hf, h⟩ | ⟨w, hw, h⟩)
  ·obtain ⟨k, hk, hc, rfl⟩ := (Zco ..).1 hf
   have hSk := hS k hk
   have hm := (hv.2.2.2 (L.getD k.toNat (0, 0))).1 (List.mem_map.2 ⟨k, hk, rfl⟩)
   rw [Bool.and_eq_true, Zfa hq hx i0 i1 r (by omega) hr.en _ hSk.1 hSk.2.1, hr.elem] at hc
   have e2 := Zfn r q k (L.getD k.toNat (0, 0)).1 (x.getD i.toNat evZ) hSk.1 hSk.2.1
   have key : ∃ w', mm = prR (Za0 r q k (L.getD k.toNat (0, 0)).1 (x.getD i.toNat evZ)) ++ w' /\ Suf q x r.2.2.2.1 (L.getD k.toNat (0, 0)).1 (L.getD k.toNat (0, 0)).2 (Zan (q.1.getD (L.getD k.toNat (0, 0)).1.toNat Zac) r.2.2.1.reverse (x.getD i.toNat evZ)) (i + 1) w' := by
    rcases h with ⟨h1, h2⟩ | ⟨w', h1, h2⟩
    ·exact ⟨[], by rw [List.append_nil]; exact h1, (Zh9 []).2 (.inl ⟨rfl, h2⟩)⟩
    ·refine ⟨w', h1, (Zh9 w').2 (.inr ?_)⟩
     rw [e2, hwf] at h2
     exact h2
   obtain ⟨w', rfl, hs⟩ := key
   refine ⟨((L.getD k.toNat (0, 0)).1, ZaN x i) :: w', by rw [ZgR, List.append_assoc]; rfl, (ZhU i1 hr.st.1 _ hB _).2 (.inl ⟨_, (L.getD k.toNat (0, 0)).2, w', rfl, hm, ?_, ht, hc.1, hs⟩)⟩
   have hc2 := hc.2
   rw [Bool.or_eq_true] at hc2
   rcases hc2 with h | h
   ·exact .inl (by simpa using h)
   ·exact .inr (beq_iff_eq.1 h)
  ·exact ⟨w, hw, (ZhU i1 hr.st.1 _ hB _).2 (.inr h)⟩
theorem Zut {i : Int} (i0 : 0 <= i) (i1 : i < x.length) {v : List Int} (hv : MvOk q L (-1, 0) v) (hL : SOk q L) (mm : List Prs) :
  FutA q x i mm ↔ (∃ f ∈ ZaP q L ((0, [], [], 0, (0, 0, 0), false) : RunT) (x.getD i.toNat evZ) v, (mm = prR f /\ Zbl q (stR L f).1 <= (stR L f).2 /\ Zbi q (stR L f).1) \/ Zcl q x L (i + 1) f mm) \/ FutA q x (i + 1) mm := by
 have hlo := hq.lo
 have hn0 : ∀ p, Nxt q (-1) p ↔ p = 0 := fun p => by
  have h0 : Nxt q (-1) 0 := ⟨by omega, by omega, by rw [show Int.toNat 0 = 0 from rfl]; exact hq.first, fun u u1 u2 => by omega⟩
  exact ⟨fun h => h.uniq h0, fun h => by rw [h]; exact h0⟩
 have hmv : ∀ s, MvTo q (-1, 0) s ↔ s = (0, 1) := fun s => by
  constructor
  ·rintro (⟨h, _⟩ | ⟨_, h, h2⟩)
   ·have : (0 : Int) <= -1 := h; omega
   ·exact Prod.ext ((hn0 _).1 h) h2
  ·rintro rfl
   exact .inr ⟨.inl (by show (-1 : Int) < 0; omega), (hn0 0).2 rfl, rfl⟩
 have e0 : ∀ env : List Bnd, env = [] -> ((0, [], [], 0, (0, 0, 0), false) : RunT).2.2.1.reverse = env := fun env h => by rw [h]; rfl
 have hz : Zdc (((0, [], [], 0, (0, 0, 0), false) : RunT).2.2.1.reverse) := fun b hb => by simp at hb
 have hfit := Zfa hq hx i0 i1 ((0, [], [], 0, (0, 0, 0), false) : RunT) (Nat.zero_le _) hz 0 (Int.le_refl 0) (by omega)
 constructor
 ·rintro ⟨j, w, j0, j1, rfl, f, hs⟩
  by_cases e : j = i
  ·subst e
   obtain ⟨k, hk, e⟩ := List.mem_map.1 ((hv.2.2.2 (0, 1)).2 ((hmv _).2 rfl))
   refine .inl ⟨Za0 ((0, [], [], 0, (0, 0, 0), false) : RunT) q k (L.getD k.toNat (0, 0)).1 (x.getD j.toNat evZ), (Zco ..).2 ⟨k, hk, ?_, rfl⟩, ?_⟩
   ·rw [e, Bool.and_eq_true, hfit]
    exact ⟨f, rfl⟩
   ·rw [ZgR, e]
    rcases (Zh9 w).1 hs with ⟨rfl, h1, h2⟩ | hs
    ·refine .inl ⟨rfl, ?_⟩
     show Zbl q (L.getD k.toNat (0, 0)).1 <= (L.getD k.toNat (0, 0)).2 /\ Zbi q (L.getD k.toNat (0, 0)).1
     rw [e]; exact ⟨h1, h2⟩
    ·refine .inr ⟨w, rfl, ?_⟩
     have e2 := Zfn ((0, [], [], 0, (0, 0, 0), false) : RunT) q k 0 (x.getD j.toNat evZ) (Int.le_refl 0) (by omega)
     rw [e2]
     show SufB q x (Zbn x j) (L.getD k.toNat (0, 0)).1 (L.getD k.toNat (0, 0)).2 _ false (j + 1) w
     rw [e]; exact hs
  ·exact .inr ⟨j, w, by omega, j1, rfl, f, hs⟩
 ·rintro (⟨f, hf, h⟩ | ⟨j, w, j0, h⟩)
  ·obtain ⟨k, hk, hc, rfl⟩ := (Zco ..).1 hf
   have e := (hmv _).1 ((hv.2.2.2 (L.getD k.toNat (0, 0))).1 (List.mem_map.2 ⟨k, hk, rfl⟩))
   rw [e, Bool.and_eq_true, hfit] at hc
   have e2 := Zfn ((0, [], [], 0, (0, 0, 0), false) : RunT) q k 0 (x.getD i.toNat evZ) (Int.le_refl 0) (by omega)
   have key : ∃ w', mm = prR (Za0 ((0, [], [], 0, (0, 0, 0), false) : RunT) q k (L.getD k.toNat (0, 0)).1 (x.getD i.toNat evZ)) ++ w' /\ Suf q x (Zbn x i) (L.getD k.toNat (0, 0)).1 (L.getD k.toNat (0, 0)).2 (Zan (q.1.getD 0 Zac) [] (x.getD i.toNat evZ)) (i + 1) w' := by
    rcases h with ⟨h1, h2⟩ | ⟨w', h1, h2⟩
    ·exact ⟨[], by rw [List.append_nil]; exact h1, (Zh9 []).2 (.inl ⟨rfl, h2⟩)⟩
    ·refine ⟨w', h1, (Zh9 w').2 (.inr ?_)⟩
     have h2' : SufB q x (Zbn x i) (L.getD k.toNat (0, 0)).1 (L.getD k.toNat (0, 0)).2 (Za0 ((0, [], [], 0, (0, 0, 0), false) : RunT) q k (L.getD k.toNat (0, 0)).1 (x.getD i.toNat evZ)).2.2.1.reverse false (i + 1) w' := h2
     rw [e] at h2' ⊢
     rw [e2] at h2'
     exact h2'
   obtain ⟨w', rfl, hs⟩ := key
   rw [e] at hs
   refine ⟨i, w', Int.le_refl i, i1, by rw [ZgR, e]; rfl, hc.1, hs⟩
  ·exact ⟨j, w, by omega, h⟩
omit hq hx in
theorem gone_fut {n : Nat} {i : Int} (i0 : 0 <= i) {r : RunT} (t : Int) (ht : ∀ j, i <= j -> j < x.length -> t <= Zbn x j) (h : q.2.1 < t - r.2.2.2.1 \/ (Zbt q (stR L r).1 <= (stR L r).2 /\ (r.2.2.2.2.2 = true \/ Zbi q (stR L r).1))) (hr : RunW q L n r) (mm : List Prs) : ¬ Zcl q x L i r mm := by
 rintro ⟨w, -, hw⟩
 cases w with
 | nil => exact hw
 | cons z w =>
  obtain ⟨p, s⟩ := z
  obtain ⟨j, j0, j1, rfl, ww, f, hh⟩ := hw
  rcases h with h | ⟨h1, h2⟩
  ·have := ht j j0 j1
   omega
  ·rcases hh with ⟨rfl, k1, -⟩ | ⟨k1, k2, k3, -, -⟩
   ·omega
   ·rcases h2 with h2 | h2
    ·rw [k1] at h2; cases h2
    ·exact k3.no h2
end
end Go.Proofs.YtkbdofnbagmlfaaGreat

namespace Go.Proofs.YtkbdofnbagmlfaaGreat
open Go.PI Go
def wOf : Nat -> Nat -> Nat -> Nat
 | 0, _, _ => 1
 | k + 1, m, h => wOf k m h + (if h < 3 then wOf k m (h + 1) else 0) + (match m with
  | 0 => 0
  | m' + 1 => wOf k m' 1)
theorem Zd6 : ∀ k m h, wOf k m h <= wOf k (m + 1) h
 | 0, _, _ => Nat.le_refl _
 | k + 1, 0, h => by
  have h1 : wOf k 0 h <= wOf k 1 h := Zd6 k 0 h
  have h2 : wOf k 0 (h + 1) <= wOf k 1 (h + 1) := Zd6 k 0 (h + 1)
  show wOf k 0 h + (if h < 3 then wOf k 0 (h + 1) else 0) + 0 <= wOf k 1 h + (if h < 3 then wOf k 1 (h + 1) else 0) + wOf k 0 1
  split <;> omega
 | k + 1, m + 1, h => by
  have h1 : wOf k (m + 1) h <= wOf k (m + 2) h := Zd6 k (m + 1) h
  have h2 : wOf k (m + 1) (h + 1) <= wOf k (m + 2) (h + 1) := Zd6 k (m + 1) (h + 1)
  have h3 := Zd6 k m 1
  show wOf k (m + 1) h + (if h < 3 then wOf k (m + 1) (h + 1) else 0) + wOf k m 1 <= wOf k (m + 2) h + (if h < 3 then wOf k (m + 2) (h + 1) else 0) + wOf k (m + 1) 1
  split <;> omega
theorem wOf_le {k m m' h : Nat} (hm : m <= m') : wOf k m h <= wOf k m' h := by
 induction hm with
 | refl => exact Nat.le_refl _
 | step _ ih => exact Nat.le_trans ih (Zd6 _ _ _)
theorem ZsP : ∀ k m h, 1 <= wOf k m h
 | 0, _, _ => Nat.le_refl _
 | k + 1, m, h => by
  unfold wOf
  have := ZsP k m h
  omega
theorem wOf7 : wOf 7 4 3 <= 1000 := by decide
def wt (k : Nat) (st : Stt) : Nat := if st.1 < 0 then wOf k 4 3 else wOf k (3 - st.1).toNat st.2.toNat
theorem wt_pos (k : Nat) (st : Stt) : 1 <= wt k st := by
 unfold wt
 split <;> exact ZsP _ _ _
theorem ZlX {q : Qry} {st s s' : Stt} (h : MvTo q st s) (h' : MvTo q st s') (e : s.1 = s'.1) : s = s' := by
 rcases h with ⟨h0, rfl, h1⟩ | ⟨h0, h1, h2⟩
 ·rcases h' with ⟨_, rfl, _⟩ | ⟨k0, k1, k2⟩
  ·rfl
  ·have := k1.1
   dsimp only at e
   omega
 ·rcases h' with ⟨_, rfl, _⟩ | ⟨k0, k1, k2⟩
  ·have := h1.1
   dsimp only at e
   omega
  ·exact Prod.ext e (by rw [h2, k2])
theorem wt_mv {q : Qry} (hq : QMk q) {L : List Stt} {st : Stt} (hst : SAt q st \/ st = (-1, 0)) {v : List Int} (hv : MvOk q L st v) (k : Nat) : wt k st + (v.map fun j : Int => wt k (L.getD j.toNat (0, 0))).sum <= wt (k + 1) st := by
 have hq4 := hq.hi
 have stay : ∀ s, MvTo q st s -> s.1 = st.1 -> 0 <= st.1 /\ st.2.toNat < 3 /\ wt k s = wOf k (3 - st.1).toNat (st.2.toNat + 1) := fun s h e => by
  rcases h with ⟨h0, rfl, h1⟩ | ⟨h0, h1, h2⟩
  ·rcases hst with hs | rfl
   ·have hm := hq.max3 st.1 hs.1 hs.2.1
    have h4 := hs.2.2.2.1
    dsimp only at h1
    have e2 : (st.2 + 1).toNat = st.2.toNat + 1 := by omega
    refine ⟨h0, by omega, ?_⟩
    unfold wt
    rw [if_neg (by dsimp only; omega)]
    dsimp only
    rw [e2]
   ·have h0' : (0 : Int) <= -1 := h0
    omega
  ·have := h1.1
   omega
 have cross : ∀ s, MvTo q st s -> s.1 ≠ st.1 -> ∃ m, (if st.1 < 0 then 4 else (3 - st.1).toNat) = m + 1 /\ wt k s <= wOf k m 1 := fun s h e => by
  rcases h with ⟨h0, rfl, h1⟩ | ⟨h0, h1, h2⟩
  ·exact (e rfl).elim
  ·have a1 := h1.1
   have a2 := h1.2.1
   have a3 : 0 <= s.1 := by
    rcases hst with hs | rfl
    ·have := hs.1; omega
    ·have a1' : (-1 : Int) < s.1 := a1; omega
   have e1 : wt k s = wOf k (3 - s.1).toNat 1 := by
    unfold wt
    rw [if_neg (by omega), h2]
    rfl
   rw [e1]
   by_cases c : st.1 < 0
   ·rw [if_pos c]
    exact ⟨3, rfl, wOf_le (by omega)⟩
   ·rw [if_neg c]
    exact ⟨(3 - st.1).toNat - 1, by omega, wOf_le (by omega)⟩
 have up : wt (k + 1) st = wt k st + (if (if st.1 < 0 then 3 else st.2.toNat) < 3 then wOf k (if st.1 < 0 then 4 else (3 - st.1).toNat) ((if st.1 < 0 then 3 else st.2.toNat) + 1) else 0) + (match (if st.1 < 0 then 4 else (3 - st.1).toNat) with
  | 0 => 0
  | m' + 1 => wOf k m' 1) := by
  unfold wt
  split <;> rfl
 obtain ⟨v1, v2, v3, v4⟩ := hv
 have mv : ∀ j ∈ v, MvTo q st (L.getD j.toNat (0, 0)) := fun j hj => (v4 _).1 (List.mem_map.2 ⟨j, hj, rfl⟩)
 rw [up]
 have one : ∀ j ∈ v, (((L.getD j.toNat (0, 0)).1 = st.1 /\ wt k (L.getD j.toNat (0, 0)) <= (if (if st.1 < 0 then 3 else st.2.toNat) < 3 then wOf k (if st.1 < 0 then 4 else (3 - st.1).toNat) ((if st.1 < 0 then 3 else st.2.toNat) + 1) else 0)) \/ ((L.getD j.toNat (0, 0)).1 ≠ st.1 /\ wt k (L.getD j.toNat (0, 0)) <= (match (if st.1 < 0 then 4 else (3 - st.1).toNat) with
  | 0 => 0
  | m' + 1 => wOf k m' 1))) := fun j hj => by
  by_cases c : (L.getD j.toNat (0, 0)).1 = st.1
  ·obtain ⟨a0, a1, a2⟩ := stay _ (mv j hj) c
   refine .inl ⟨c, ?_⟩
   rw [a2, if_neg (show ¬ st.1 < 0 by omega), if_neg (show ¬ st.1 < 0 by omega), if_pos a1]
   exact Nat.le_refl _
  ·obtain ⟨m, a1, a2⟩ := cross _ (mv j hj) c
   refine .inr ⟨c, ?_⟩
   rw [a1]
   exact a2
 generalize (if (if st.1 < 0 then 3 else st.2.toNat) < 3 then wOf k (if st.1 < 0 then 4 else (3 - st.1).toNat) ((if st.1 < 0 then 3 else st.2.toNat) + 1) else 0) = A at one ⊢
 generalize (match (if st.1 < 0 then 4 else (3 - st.1).toNat) with
  | 0 => 0
  | m' + 1 => wOf k m' 1) = B at one ⊢
 match v, v1, v3, mv, one with
 | [], _, _, _, _ => simp; omega
 | [j], _, _, _, one =>
  have := one j List.mem_cons_self
  simp only [List.map_cons, List.map_nil, List.sum_cons, List.sum_nil]
  rcases this with h | h <;> omega
 | [j, j'], _, nd, mv, one =>
  have h1 := one j List.mem_cons_self
  have h2 := one j' (List.mem_cons_of_mem _ List.mem_cons_self)
  have m1 := mv j List.mem_cons_self
  have m2 := mv j' (List.mem_cons_of_mem _ List.mem_cons_self)
  have hne : L.getD j.toNat (0, 0) ≠ L.getD j'.toNat (0, 0) := fun e => by
   simp only [List.map_cons, List.map_nil] at nd
   exact (List.nodup_cons.1 nd).1 (by rw [e]; exact List.mem_cons_self)
  simp only [List.map_cons, List.map_nil, List.sum_cons, List.sum_nil]
  rcases h1 with ⟨c1, h1⟩ | ⟨c1, h1⟩ <;> rcases h2 with ⟨c2, h2⟩ | ⟨c2, h2⟩
  ·exact (hne (ZlX m1 m2 (by rw [c1, c2]))).elim
  ·omega
  ·omega
  ·refine (hne (ZlX m1 m2 ?_)).elim
   rcases m1 with ⟨_, e, _⟩ | ⟨_, m1, _⟩
   ·exact (c1 (by rw [e])).elim
   ·rcases m2 with ⟨_, e, _⟩ | ⟨_, m2, _⟩
    ·exact (c2 (by rw [e])).elim
    ·exact m1.uniq m2
 | _ :: _ :: _ :: _, h, _, _, _ => simp at h
abbrev Za6 (L : List Stt) (k : Nat) (l : List RunT) : Nat := (l.map fun r => wt k (stR L r)).sum
theorem Zd9 (L : List Stt) (k : Nat) (p : RunT -> Bool) : ∀ l : List RunT, Za6 L k (l.filter p) <= Za6 L k l
 | [] => Nat.le_refl _
 | r :: l => by
  have ih := Zd9 L k p l
  by_cases c : p r = true
  ·rw [List.filter_cons_of_pos c]
   simp only [Za6, List.map_cons, List.sum_cons] at ih ⊢
   omega
  ·rw [List.filter_cons_of_neg c]
   simp only [Za6, List.map_cons, List.sum_cons] at ih ⊢
   omega
theorem Zgc (L : List Stt) (k : Nat) (a b : List RunT) : Za6 L k (a ++ b) = Za6 L k a + Za6 L k b := by
 simp only [Za6, List.map_append, List.sum_append]
theorem Zou (L : List Stt) (k : Nat) : ∀ l : List RunT, l.length <= Za6 L k l
 | [] => Nat.zero_le _
 | r :: l => by
  have := Zou L k l
  have := wt_pos k (stR L r)
  simp only [Za6, List.map_cons, List.sum_cons, List.length_cons] at *
  omega
theorem ZmJ (q : Qry) (L : List Stt) (k : Nat) (r : RunT) (e : Evt) : ∀ v, Za6 L k (ZaP q L r e v) <= (v.map fun j : Int => wt k (L.getD j.toNat (0, 0))).sum
 | [] => Nat.le_refl _
 | j :: v => by
  have ih := ZmJ q L k r e v
  unfold ZaP
  split
  ·simp only [Za6, List.map_cons, List.sum_cons] at ih ⊢
   have : wt k (stR L (Za0 r q j (L.getD j.toNat (0, 0)).1 e)) = wt k (L.getD j.toNat (0, 0)) := rfl
   omega
  ·simp only [Za6, List.map_cons, List.sum_cons] at ih ⊢
   omega
theorem Zn1 {q : Qry} {L : List Stt} {st : Stt} (r : RunT) (e : Evt) : ∀ v : List Int, (v.map fun j : Int => L.getD j.toNat (0, 0)).Nodup -> (∀ j ∈ v, MvTo q st (L.getD j.toNat (0, 0))) -> ((ZaP q L r e v).map fun f => f.2.1).Nodup
 | [], _, _ => List.nodup_nil
 | j :: v, nd, mv => by
  rw [List.map_cons, List.nodup_cons] at nd
  have ih := Zn1 r e v nd.2 fun j' h => mv j' (List.mem_cons_of_mem _ h)
  unfold ZaP
  split
  ·rw [List.map_cons, List.nodup_cons]
   refine ⟨fun h => ?_, ih⟩
   obtain ⟨f, hf, e1⟩ := List.mem_map.1 h
   obtain ⟨j', hj', _, rfl⟩ := (Zco ..).1 hf
   have e2 : ((L.getD j'.toNat (0, 0)).1, e.2.2.2.1) :: r.2.1 = ((L.getD j.toNat (0, 0)).1, e.2.2.2.1) :: r.2.1 := e1
   have e3 := congrArg Prod.fst (List.cons.inj e2).1
   have := ZlX (mv j' (List.mem_cons_of_mem _ hj')) (mv j List.mem_cons_self) e3
   exact nd.1 (by rw [<- this]; exact List.mem_map.2 ⟨j', hj', rfl⟩)
  ·exact ih
theorem ZsJ {mo : RunT -> List RunT} {s : Int} : ∀ A : List RunT, (A.map fun r => r.2.1).Nodup -> (∀ r ∈ A, ((mo r).map fun f => f.2.1).Nodup /\ ∀ f ∈ mo r, ∃ a, f.2.1 = (a, s) :: r.2.1) -> ((A.flatMap mo).map fun f => f.2.1).Nodup
 | [], _, _ => List.nodup_nil
 | r :: A, nd, h => by
  rw [List.map_cons, List.nodup_cons] at nd
  have ih := ZsJ A nd.2 fun r' h' => h r' (List.mem_cons_of_mem _ h')
  have hr := h r List.mem_cons_self
  rw [List.flatMap_cons, List.map_append, List.nodup_append]
  refine ⟨hr.1, ih, fun u hu w hw e => ?_⟩
  obtain ⟨f, hf, rfl⟩ := List.mem_map.1 hu
  obtain ⟨f', hf', rfl⟩ := List.mem_map.1 hw
  obtain ⟨r', hr', hf'⟩ := List.mem_flatMap.1 hf'
  obtain ⟨a, ha⟩ := hr.2 f hf
  obtain ⟨b, hb⟩ := (h r' (List.mem_cons_of_mem _ hr')).2 f' hf'
  rw [ha, hb] at e
  exact nd.1 (by rw [(List.cons.inj e).2]; exact List.mem_map.2 ⟨r', hr', rfl⟩)
end Go.Proofs.YtkbdofnbagmlfaaGreat

namespace Go.Proofs.YtkbdofnbagmlfaaGreat
open Go.PI Go
noncomputable section
abbrev mM (q : Qry) (L : List Stt) : MkT := some (ZaJ, q, some (q, L))
def Zec (q : Qry) (e : Evt) (r : RunT) : Bool := decide (r.2.1 ≠ [] /\ q.2.1 < e.2.2.1 - r.2.2.2.1)
def Zb5 (q : Qry) (L : List Stt) (r : RunT) : Bool := ((deadM (mM q L, r, ())).getD (false, ())).1
def ZgX (q : Qry) (L : List Stt) (r : RunT) : Bool := ((endsM (mM q L, r, ())).getD (false, ())).1
def Zcx (q : Qry) (L : List Stt) (e : Evt) (r : RunT) : List RunT := ((moreM (mM q L, r, e, ())).getD ([], ())).1
def ZcG (q : Qry) (L : List Stt) (e : Evt) (r : RunT) : RunT := ((behindM (mM q L, r, e, ())).getD (r, ())).1
def Zbf (m : List Prs) : Int := (m.getD (m.length - 1) (0, 0)).2
theorem Zfs (a : List Prs) : ∀ w : List Prs, w ≠ [] -> Zbf (a ++ w) = Zbf w
 | [], h => (h rfl).elim
 | z :: w, _ => by
  unfold Zbf
  have e : (a ++ z :: w).length - 1 = a.length + ((z :: w).length - 1) := by rw [List.length_append, List.length_cons]; omega
  simp only [List.getD_eq_getElem?_getD]
  rw [e, List.getElem?_append_right (by omega), Nat.add_sub_cancel_left]
theorem Zux (a : List Prs) (p s : Int) : Zbf (a ++ [(p, s)]) = s := by
 rw [Zfs _ _ (List.cons_ne_nil _ _)]
 rfl
theorem Zg2 (p s : Int) (w : List Prs) (h : w ≠ []) : Zbf ((p, s) :: w) = Zbf w := Zfs [(p, s)] w h
section
variable {q : Qry} {x : List Evt}
def ZdA (x : List Evt) (i : Int) (m : List Prs) : Prop := ∃ j, i <= j /\ j < x.length /\ Zbf m = ZaN x j
theorem Zfl {f0 : Int} : ∀ (w : List Prs) {a h : Int} {env : List Bnd} {i : Int}, Suf q x f0 a h env i w -> w = [] \/ ZdA x i w
 | [], _, _, _, _, _ => .inl rfl
 | (p, s) :: w, a, h, env, i, hs => by
  obtain ⟨j, j0, j1, rfl, _, _, hh⟩ := hs
  have key : w = [] \/ ZdA x (j + 1) w := by
   rcases hh with ⟨_, _, k⟩ | ⟨_, _, _, k⟩
   ·exact Zfl w k
   ·exact Zfl w k
  rcases key with rfl | ⟨k, k0, k1, k2⟩
  ·exact .inr ⟨j, j0, j1, rfl⟩
  ·by_cases e : w = []
   ·subst e
    exact .inr ⟨j, j0, j1, rfl⟩
   ·exact .inr ⟨k, by omega, k1, by rw [Zg2 _ _ _ e]; exact k2⟩
theorem Zu5 {f0 a h : Int} {env : List Bnd} {b : Bool} {i : Int} : ∀ w : List Prs, SufB q x f0 a h env b i w -> w ≠ [] /\ ZdA x i w
 | [], hs => hs.elim
 | (p, s) :: w, hs => by
  refine ⟨List.cons_ne_nil _ _, ?_⟩
  obtain ⟨j, j0, j1, rfl, _, _, hh⟩ := hs
  have key : w = [] \/ ZdA x (j + 1) w := by
   rcases hh with ⟨_, _, k⟩ | ⟨_, _, _, _, k⟩
   ·exact Zfl w k
   ·exact Zfl w k
  by_cases e : w = []
  ·subst e
   exact ⟨j, j0, j1, rfl⟩
  ·rcases key with k | ⟨k, k0, k1, k2⟩
   ·exact (e k).elim
   ·exact ⟨k, by omega, k1, by rw [Zg2 _ _ _ e]; exact k2⟩
theorem Zuw {L : List Stt} {i : Int} {r : RunT} {mm : List Prs} (h : Zcl q x L i r mm) : ZdA x i mm := by
 obtain ⟨w, rfl, h⟩ := h
 obtain ⟨h1, j, h2, h3, h4⟩ := Zu5 w h
 exact ⟨j, h2, h3, by rw [Zfs _ _ h1]; exact h4⟩
theorem ZuO {i : Int} {mm : List Prs} (h : FutA q x i mm) : ZdA x i mm := by
 obtain ⟨j, w, j0, j1, rfl, _, hs⟩ := h
 rcases Zfl w hs with rfl | ⟨k, k0, k1, k2⟩
 ·exact ⟨j, j0, j1, rfl⟩
 ·by_cases e : w = []
  ·subst e
   exact ⟨j, j0, j1, rfl⟩
  ·exact ⟨k, by omega, k1, by rw [Zg2 _ _ _ e]; exact k2⟩
end
section
variable {q : Qry} (hq : QMk q) {x : List Evt} (hx : XMk x) {L : List Stt} (hL : SOk q L)
include hx
theorem Zp0 {i j : Int} (i0 : 0 <= i) (hij : i <= j) (hj : j < x.length) : Zbn x i <= Zbn x j /\ 0 <= Zbn x i /\ Zbn x i <= 15 := by
 have hi : i.toNat < x.length := by omega
 have hj' : j.toNat < x.length := by omega
 have h1 := hx.tm (x.getD i.toNat evZ) (by rw [Zaf _ _ _ hi]; exact List.getElem_mem hi)
 refine ⟨?_, h1.1, h1.2⟩
 rcases Int.lt_or_le i j with h | h
 ·have := List.pairwise_iff_getElem.1 hx.so i.toNat j.toNat hi hj' (by omega)
  show (x.getD i.toNat evZ).2.2.1 <= (x.getD j.toNat evZ).2.2.1
  rw [Zaf _ _ _ hi, Zaf _ _ _ hj']
  unfold leE at this
  omega
 ·have : i = j := by omega
  subst this
  exact Int.le_refl _
omit hx
include hq
theorem Zpt {n : Nat} {r : RunT} (hr : RunW q L n r) : deadM (mM q L, r, ()) = some (Zb5 q L r, ()) /\ (Zb5 q L r = true -> Zbt q (stR L r).1 <= (stR L r).2 /\ (r.2.2.2.2.2 = true \/ Zbi q (stR L r).1)) := by
 obtain ⟨b, h1, h2⟩ := deadM_at hq r hr.k0 hr.k1 hr.st hr.elem
 unfold Zb5
 rw [h1]
 exact ⟨rfl, h2⟩
theorem Zjy {n : Nat} {r : RunT} (hr : RunW q L n r) : endsM (mM q L, r, ()) = some (ZgX q L r, ()) /\ (ZgX q L r = true ↔ Zbl q (stR L r).1 <= (stR L r).2 /\ Zbi q (stR L r).1) := by
 obtain ⟨b, h1, h2⟩ := endsM_at hq r hr.k0 hr.k1 hr.st
 unfold ZgX
 rw [h1]
 exact ⟨rfl, h2⟩
include hL
theorem ZcP {n : Nat} (hn : n <= 50) {r : RunT} (hr : RunW q L n r \/ r = ((0, [], [], 0, (0, 0, 0), false) : RunT)) (e : Evt) (he : e.2.2.2.2.length <= 3) : ∃ v, MvOk q L (stR L r) v /\ moreM (mM q L, r, e, ()) = some (Zcx q L e r, ()) /\ Zcx q L e r = ZaP q L r e v := by
 have h : 0 <= r.1 /\ r.1 < L.length /\ r.2.1.length <= 100 /\ r.2.2.1.length <= 60 := by
  rcases hr with hr | rfl
  ·have := hr.lm
   have := hr.le
   exact ⟨hr.k0, hr.k1, by omega, by omega⟩
  ·have := hL.2.2.1
   refine ⟨Int.le_refl 0, ?_, Nat.zero_le _, Nat.zero_le _⟩
   show (0 : Int) < L.length
   omega
 obtain ⟨v, h1, h2⟩ := moreM_at hq hL r h.1 h.2.1 h.2.2.1 h.2.2.2 e he
 refine ⟨v, h1, ?_⟩
 unfold Zcx
 rw [h2]
 exact ⟨rfl, rfl⟩
omit hL
theorem Ze6 {n : Nat} (hn : n <= 50) {r : RunT} (hr : RunW q L n r) (e : Evt) : ∃ b, (r.2.2.2.2.2 = false -> ∀ p, Nxt q (stR L r).1 p -> (b = true ↔ ∃ u, (stR L r).1 < u /\ u < p /\ ZcF q r e u = true)) /\ behindM (mM q L, r, e, ()) = some (ZcG q L e r, ()) /\ ZcG q L e r = (r.1, r.2.1, r.2.2.1, r.2.2.2.1, r.2.2.2.2.1, r.2.2.2.2.2 || b) := by
 obtain ⟨s, m, hm⟩ := hr.ms
 have hle := hr.le
 obtain ⟨b, h1, h2⟩ := ZtK hq r (by omega) _ s m hm hr.st.1 hr.st.2.1 e
 have h3 := ZtG (L := L) r e b fun _ => h1
 refine ⟨b, fun _ => h2, ?_⟩
 unfold ZcG
 rw [h3]
 exact ⟨rfl, rfl⟩
include hx hL
theorem feeds {n : Nat} (hn : n <= 40) {i : Int} (i0 : 0 <= i) (i1 : i < x.length) : Feeds (mM q L) q (x.getD i.toNat evZ) (RunW q L n) (RunW q L (n + 1)) (Zec q (x.getD i.toNat evZ)) (Zb5 q L) (ZgX q L) (Zcx q L (x.getD i.toNat evZ)) (ZcG q L (x.getD i.toNat evZ)) := by
 have ht := Zp0 hx i0 (Int.le_refl i) i1
 have he := (Zic hx i0 i1).good.1
 have hS : ∀ (r : RunT), (RunW q L n r \/ r = ((0, [], [], 0, (0, 0, 0), false) : RunT)) -> ∀ v, MvOk q L (stR L r) v -> ∀ k ∈ v, SAt q (L.getD k.toNat (0, 0)) := fun r hr v hv k hk => by
  have hm := (hv.2.2.2 (L.getD k.toNat (0, 0))).1 (List.mem_map.2 ⟨k, hk, rfl⟩)
  have hk2 := hv.2.1 k hk
  have hin : L.getD k.toNat (0, 0) ∈ L := by rw [Za1 _ _ _ (by omega)]; exact List.getElem_mem _
  rcases (hL.2.2.2 _).1 hin with h | h
  ·rcases hm with ⟨m1, m2, _⟩ | ⟨_, _, m3⟩
   ·rw [h] at m2
    have := congrArg Prod.fst m2
    dsimp only at this
    omega
   ·rw [h] at m3; cases m3
  ·exact h
 exact {
  up := fun r hr => hr.up (Nat.le_succ n)
  over := fun r hr => Zs7 hq r _ ht.2.1 ht.2.2 hr.f0 hr.f1
  dead := fun r hr => (Zpt hq hr).1
  ends := fun r hr => (Zjy hq hr).1
  more := fun r hr => by obtain ⟨v, _, h, _⟩ := ZcP hq hL (by omega) (.inl hr) _ he; exact h
  two := fun r hr => by
   obtain ⟨v, h1, _, h2⟩ := ZcP hq hL (by omega) hr _ he
   rw [h2]
   exact Nat.le_trans (Zm4 ..) h1.1
  keep := fun r hr f hf => by
   obtain ⟨v, h1, _, h2⟩ := ZcP hq hL (by omega) hr _ he
   rw [h2] at hf
   obtain ⟨k, hk, _, rfl⟩ := (Zco ..).1 hf
   exact with_w hx i0 i1 hr k (h1.2.1 k hk).1 (h1.2.1 k hk).2 (hS r hr v h1 k hk)
  zero := by obtain ⟨v, _, h, _⟩ := ZcP (n := n) hq hL (by omega) (.inr rfl) _ he; exact h
  beh := fun r hr => by obtain ⟨b, _, h, _⟩ := Ze6 hq (by omega) hr (x.getD i.toNat evZ); exact h
  behP := fun r hr => by
   obtain ⟨b, _, _, h⟩ := Ze6 hq (by omega) hr (x.getD i.toNat evZ)
   rw [h]
   exact ⟨hr.k0, hr.k1, hr.st, hr.ms, hr.lm, hr.le, hr.en, hr.f0, hr.f1⟩
  len := fun r hr => by have := hr.lm; omega }
end
end
end Go.Proofs.YtkbdofnbagmlfaaGreat
