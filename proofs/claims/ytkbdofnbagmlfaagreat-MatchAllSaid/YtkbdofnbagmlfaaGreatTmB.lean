/- All matches: the recursion, both ways. -/
import Derived.Test.YtkbdofnbagmlfaaGreatHl
namespace Go.Proofs.YtkbdofnbagmlfaaGreat
open Go.PI Go
section
variable {q : Qry} {l : List Evt}
theorem Zrk (hq : QGood q) {kk : Int} {L : List Int} (hL : ∀ j ∈ L, 0 <= j /\ j < (q.1.length : Int)) (hL2 : L.length <= 1000) (m : List Prs) (env : List Bnd) (he : env.length <= 800) (hi : ZeS env) (f0 i : Int) (e : Elm) (x : Evt) (hx : Zb2 x) (out : List (List Prs)) :
  ∃ z, crossF_w1 (kk, L, m, env, f0, i, 0, q.1, q.2.1, q.2.2, l, 0, 0, e, x, out, ()) = some z /\ ((z = .inl (q.1, q.2.1, q.2.2, l, out, ()) /\ ∃ u ∈ L, fits20 (q.1.getD u.toNat Zac, x, env, ()) = some (true, ())) \/ (z = .inr (kk, L, m, env, f0, i, q.1, q.2.1, q.2.2, l, 0, 0, e, out, ()) /\ ∀ u ∈ L, fits20 (q.1.getD u.toNat Zac, x, env, ()) = some (false, ()))) := by
 refine Zaw (step := Zet) (fun y => ∃ j : Int, y = (kk, L, m, env, f0, i, j, q.1, q.2.1, q.2.2, l, 0, 0, e, x, out, ()) /\ 0 <= j /\ j <= L.length /\ ∀ t : Nat, (t : Int) < j -> fits20 (q.1.getD (L.getD t 0).toNat Zac, x, env, ()) = some (false, ())) (fun y => ((L.length : Int) - y.2.2.2.2.2.2.1).toNat) _ ?_ _ ⟨0, rfl, Int.le_refl 0, by omega, fun t h => by omega⟩
 rintro y ⟨j, rfl, h0, h1, h2⟩
 unfold Zet
 by_cases hj : j < (L.length : Int)
 ·have hw : IntKind.wrap .i64 (j + 1) = j + 1 := Go.PI.wrap_small (by omega) (by omega)
  have hlt : j.toNat < L.length := by omega
  have hmem : L.getD j.toNat 0 ∈ L := by rw [Zaf _ _ _ hlt]; exact List.getElem_mem hlt
  obtain ⟨a0, a1⟩ := hL _ hmem
  have hEl := hq.get _ a0 a1
  obtain ⟨b, hb⟩ := ZeK (q.1.getD (L.getD j.toNat 0).toNat Zac) hEl.1 hEl.2.2.2.2.2.1 hEl.2.2.2.2.2.2 x hx env (by omega) hi
  refine BT.lt (decide_eq_true hj) (BT.yes (in2 h0 hj) (BT.yes (in2 a0 a1) (BT.opt ⟨_, hb, BT.cond (fun hbt => BT.ends (.inl ⟨rfl, _, hmem, ?_⟩)) (fun hbf => BT.goes ⟨⟨j + 1, by rw [hw], by omega, by omega, fun t ht => ?_⟩, ?_⟩)⟩)))
  ·have hbt : b = true := hbt
   rw [hb, hbt]
  ·by_cases e : t = j.toNat
   ·subst e
    have hbf : b = false := hbf
    rw [hb, hbf]
   ·exact h2 t (by omega)
  ·dsimp only
   rw [hw]
   omega
 ·refine BT.ge (decide_eq_false hj) (BT.ends (.inr ⟨rfl, fun u hu => ?_⟩))
  obtain ⟨t, ht, rfl⟩ := List.getElem_of_mem hu
  have := h2 t (by omega)
  rw [Zaf L _ _ ht] at this
  exact this
theorem ZqT (hq : QGood q) (hl : l.length <= 8) (hE : ∀ x ∈ l, Zb2 x) (hN : l.Pairwise fun a b => a.2.2.2.1 ≠ b.2.2.2.1) (hT : ∀ x ∈ l, 0 <= x.2.2.1 /\ x.2.2.1 <= 15) {k : Nat} (ihE : ElemT q l k) {a h : Int} {m : List Prs} {env : List Bnd} {f0 fr : Int} (hR : Rg q l a h m env f0 fr) {kk : Int} (hkk : a < kk) (hkk2 : kk < q.1.length) {L : List Int} (hL : ∀ u : Int, u ∈ L ↔ a < u /\ u < kk) (hL2 : L.length <= 1000)
  (hk : 2 * ((l.length : Int) - fr) <= k) (out : List (List Prs)) (hb : out.length + 2 * 3 ^ ((l.length : Int) - fr).toNat <= 1000000) :
  ∃ z, Zhw (ZbK k) (ZbS k) (kk, L, m, env, f0, fr, q.1, q.2.1, q.2.2, l, 0, 0, q.1.getD kk.toNat Zac, out, ()) = some z /\ ∃ out', (z = .inl (q.1, q.2.1, q.2.2, l, out ++ out', ()) \/ z = .inr (q.1, q.2.1, q.2.2, l, 0, 0, out ++ out', ())) /\ (∀ mm, mm ∈ out' ↔ FC q l a kk m env f0 fr mm) /\ wN out' + 1 <= 3 ^ ((l.length : Int) - fr).toNat := by
 obtain ⟨r1, r2, r3, r4, r5, r6, r7, r8, r9, r10, r11⟩ := id hR
 have hEl := hq.get kk (by omega) hkk2
 let G (j : Int) (mm : List Prs) : Prop := Zbn l j - f0 <= q.2.1 /\ ZaO q l kk j env /\ FE q l kk 1 (m ++ [(kk, ZaN l j)]) (Zan (q.1.getD kk.toNat Zac) env (l.getD j.toNat evZ)) f0 (j + 1) mm
 let N (j : Int) : Prop := ∀ u, a < u -> u < kk -> ¬ ZaO q l u j env
 refine Zaw (step := Zeo (ZbK k) (ZbS k))
  (fun y => ∃ (i : Int) (out' : List (List Prs)), y = (kk, L, m, env, f0, i, q.1, q.2.1, q.2.2, l, 0, 0, q.1.getD kk.toNat Zac, out ++ out', ()) /\ fr <= i /\ i <= l.length /\ (∀ j, fr <= j -> j < i -> N j) /\ (∀ mm, mm ∈ out' ↔ ∃ j, fr <= j /\ j < i /\ G j mm) /\ wN out' + 3 ^ ((l.length : Int) - i).toNat <= 3 ^ ((l.length : Int) - fr).toNat)
  (fun y => ((l.length : Int) - y.2.2.2.2.2.1).toNat) _ ?_ _ ⟨fr, [], by rw [List.append_nil], Int.le_refl _, r9, fun j h h' => by omega, fun mm => ⟨fun h => by simp at h, fun ⟨j, h1, h2, _⟩ => by omega⟩, by simp [wN]⟩
 rintro y ⟨i, out', rfl, g0, g1, gN, g2, g3⟩
 have gl := wN_le out'
 unfold Zeo
 by_cases hi : i < (l.length : Int)
 ·have hw : IntKind.wrap .i64 (i + 1) = i + 1 := Go.PI.wrap_small (by omega) (by omega)
  have hi0 : 0 <= i := by omega
  have hlt : i.toNat < l.length := by omega
  have hmem : l.getD i.toNat evZ ∈ l := by rw [Zaf _ _ _ hlt]; exact List.getElem_mem hlt
  have hxe : Zb2 (l.getD i.toNat evZ) := hE _ hmem
  have htm := hT _ hmem
  have hwt : IntKind.wrap .i64 ((l.getD i.toNat evZ).2.2.1 - f0) = (l.getD i.toNat evZ).2.2.1 - f0 := Go.PI.wrap_small (by omega) (by omega)
  have hp := p3s l.length i hi
  have hp2 := p3le l.length fr i g0
  have hp1 := p3 ((l.length : Int) - (i + 1)).toNat
  obtain ⟨b, hb20⟩ := ZeK (q.1.getD kk.toNat Zac) hEl.1 hEl.2.2.2.2.2.1 hEl.2.2.2.2.2.2 (l.getD i.toNat evZ) hxe env (by omega) r7
  have nxt : ∀ o3 : List (List Prs), (∀ mm, mm ∈ o3 ↔ mm ∈ out' \/ G i mm) -> ∀ mm, mm ∈ o3 ↔ ∃ j, fr <= j /\ j < i + 1 /\ G j mm := by
   intro o3 h3 mm
   rw [h3, g2]
   constructor
   ·rintro (⟨j, j1, j2, j3⟩ | h)
    ·exact ⟨j, j1, by omega, j3⟩
    ·exact ⟨i, g0, by omega, h⟩
   ·rintro ⟨j, j1, j2, j3⟩
    by_cases e : j = i
    ·subst e; exact .inr j3
    ·exact .inl ⟨j, j1, by omega, j3⟩
  have fin : ∀ (n : Int), n <= l.length -> (n = l.length \/ ∃ u, a < u /\ u < kk /\ ZaO q l u (n - 1) env /\ fr <= n - 1) -> (∀ j, fr <= j -> j < n - 1 -> N j) -> (n = l.length -> N (n - 1) \/ ∃ u, a < u /\ u < kk /\ ZaO q l u (n - 1) env) -> ∀ o3 : List (List Prs), (∀ mm, mm ∈ o3 ↔ ∃ j, fr <= j /\ j < n /\ G j mm) -> ∀ mm, mm ∈ o3 ↔ FC q l a kk m env f0 fr mm := by
   intro n hn hend hN _ o3 h3 mm
   rw [h3]
   constructor
   ·rintro ⟨j, j1, j2, j3, j4, j5⟩
    exact ⟨j, j1, by omega, j3, j4, fun j' a1 a2 => hN j' a1 (by omega), j5⟩
   ·rintro ⟨j, j1, j2, j3, j4, j5, j6⟩
    refine ⟨j, j1, ?_, j3, j4, j6⟩
    rcases hend with rfl | ⟨u, u1, u2, u3, u4⟩
    ·exact j2
    ·by_cases c : j < n
     ·exact c
     ·exact absurd u3 (j5 (n - 1) u4 (by omega) u u1 u2)
  have tail : ∀ (o2 : List (List Prs)), (∀ mm, mm ∈ o2 ↔ ∃ j, fr <= j /\ j < i + 1 /\ G j mm) -> wN o2 + 3 ^ ((l.length : Int) - (i + 1)).toNat <= 3 ^ ((l.length : Int) - fr).toNat -> ∀ oo, oo = out ++ o2 ->
    BT (fun s : _ ⊕ _ => (∃ y, s = .inl y /\ (∃ (j : Int) (out' : List (List Prs)), y = (kk, L, m, env, f0, j, q.1, q.2.1, q.2.2, l, (0 : Int), (0 : Int), q.1.getD kk.toNat Zac, out ++ out', ()) /\ fr <= j /\ j <= l.length /\ (∀ j', fr <= j' -> j' < j -> N j') /\ (∀ mm, mm ∈ out' ↔ ∃ j', fr <= j' /\ j' < j /\ G j' mm) /\ wN out' + 3 ^ ((l.length : Int) - j).toNat <= 3 ^ ((l.length : Int) - fr).toNat) /\ ((l.length : Int) - y.2.2.2.2.2.1).toNat < ((l.length : Int) - i).toNat) \/
      ∃ z : zB5 ⊕ zB6, s = .inr z /\ ∃ out' : List (List Prs), (z = .inl (q.1, q.2.1, q.2.2, l, out ++ out', ()) \/ z = .inr (q.1, q.2.1, q.2.2, l, (0 : Int), (0 : Int), out ++ out', ())) /\ (∀ mm, mm ∈ out' ↔ FC q l a kk m env f0 fr mm) /\ wN out' + 1 <= 3 ^ ((l.length : Int) - fr).toNat)
     (.opt (crossF_w1 (kk, L, m, env, f0, i, 0, q.1, q.2.1, q.2.2, l, 0, 0, q.1.getD kk.toNat Zac, l.getD i.toNat evZ, oo, ())) fun z => .sum z (fun u => .ret (.inr (.inl (u.1, u.2.1, u.2.2.1, u.2.2.2.1, u.2.2.2.2.1, ())))) (fun z => .ret (.inl (z.1, z.2.1, z.2.2.1, z.2.2.2.1, z.2.2.2.2.1, IntKind.wrap .i64 (z.2.2.2.2.2.1 + 1), z.2.2.2.2.2.2.1, z.2.2.2.2.2.2.2.1, z.2.2.2.2.2.2.2.2.1, z.2.2.2.2.2.2.2.2.2.1, z.2.2.2.2.2.2.2.2.2.2.1, z.2.2.2.2.2.2.2.2.2.2.2.1, z.2.2.2.2.2.2.2.2.2.2.2.2.1, z.2.2.2.2.2.2.2.2.2.2.2.2.2.1, ())))) := by
   rintro o2 h1 h2 oo rfl
   obtain ⟨z, hz, ⟨h, u, hu, hf⟩ | ⟨h, hn⟩⟩ := Zrk (l := l) hq (kk := kk) (fun j hj => by have := (hL j).1 hj; omega) hL2 m env (by omega) r7 f0 i (q.1.getD kk.toNat Zac) (l.getD i.toNat evZ) hxe (out ++ o2)
   ·subst h
    have hu' := (hL u).1 hu
    have hff : ZaO q l u (i + 1 - 1) env := by rw [show i + 1 - 1 = i by omega]; exact hf
    exact BT.opt ⟨_, hz, BT.suml (BT.ends ⟨o2, .inl rfl, fin (i + 1) (by omega) (.inr ⟨u, hu'.1, hu'.2, hff, by omega⟩) (fun j a1 a2 => gN j a1 (by omega)) (fun _ => .inr ⟨u, hu'.1, hu'.2, hff⟩) o2 h1, by omega⟩)⟩
   ·subst h
    refine BT.opt ⟨_, hz, BT.sumr (BT.goes ⟨⟨i + 1, o2, by rw [hw], by omega, by omega, fun j a1 a2 => ?_, h1, h2⟩, ?_⟩)⟩
    ·by_cases e : j = i
     ·subst e
      intro u u1 u2 hf
      have := hn u ((hL u).2 ⟨u1, u2⟩)
      unfold ZaO at hf
      rw [this] at hf
      cases hf
     ·exact gN j a1 (by omega)
    ·dsimp only
     rw [hw]
     omega
  have gin : ∀ env', env' = Zan (q.1.getD kk.toNat Zac) env (l.getD i.toNat evZ) -> Zbn l i - f0 <= q.2.1 -> ZaO q l kk i env -> ∃ o2, ZbK k ((q, l, out ++ out'), kk, 1, m ++ [(kk, (l.getD i.toNat evZ).2.2.2.1)], env', f0, i + 1, ()) = some ((q, l, out ++ (out' ++ o2)), ()) /\ (∀ mm, mm ∈ out' ++ o2 ↔ ∃ j, fr <= j /\ j < i + 1 /\ G j mm) /\ wN (out' ++ o2) + 3 ^ ((l.length : Int) - (i + 1)).toNat <= 3 ^ ((l.length : Int) - fr).toNat := by
   rintro env' rfl hwin hfit
   obtain ⟨o2, e1, e2, e3⟩ := ihE kk 1 _ _ f0 (i + 1) (out ++ out') (hR.more hE g0 hi kk 1 (by omega) hkk2 (by omega) (by omega) _) (by omega) (by rw [List.length_append]; omega)
   refine ⟨o2, by rw [e1, List.append_assoc], nxt _ fun mm => ?_, ?_⟩
   ·rw [List.mem_append, e2]
    exact ⟨fun h => h.imp id fun h => ⟨hwin, hfit, h⟩, fun h => h.imp id fun h => h.2.2⟩
   ·have := Zhz (a := out') (b := o2) fun mm hm hm2 => by
     have h2 := (e2 mm).1 hm2
     obtain ⟨j, j0, j1, -, -, hm⟩ := (g2 mm).1 hm
     have := Ze8 hN (by omega) (by omega) (by omega) hi (Prod.mk.inj (hm.apart h2)).2
     omega
    omega
  refine BT.lt (decide_eq_true hi) (BT.yes (in2 hi0 hi) (BT.cond (fun hc => BT.opt ⟨_, hb20, BT.cond (fun hbt => ?_) (fun hbf => tail out' (nxt _ fun mm => ⟨.inl, fun h => h.elim id fun h => ?_⟩) (by omega) _ rfl)⟩) (fun hc => tail out' (nxt _ fun mm => ⟨.inl, fun h => h.elim id fun h => ?_⟩) (by omega) _ rfl)))
  rotate_left
  ·have hbf : b = false := hbf
   have := h.2.1
   unfold ZaO at this
   rw [hb20, hbf] at this
   cases this
  ·have := of_decide_eq_false hc
   rw [hwt] at this
   have h5 : (l.getD i.toNat evZ).2.2.1 - f0 <= q.2.1 := h.1
   omega
  have hwin : Zbn l i - f0 <= q.2.1 := by
   have := of_decide_eq_true hc
   rw [hwt] at this
   exact this
  have hbt : b = true := hbt
  subst hbt
  refine BT.cond (fun hm1 => ?_) (fun hm1 => ?_)
  ·have hm1 : (q.1.getD kk.toNat Zac).2.2.2.2.1 = 1 := by simpa using hm1
   have e : Zan (q.1.getD kk.toNat Zac) env (l.getD i.toNat evZ) = env ++ [((q.1.getD kk.toNat Zac).1, l.getD i.toNat evZ)] := if_pos hm1
   obtain ⟨o2, e1, e2, e3⟩ := gin _ e.symm hwin hb20
   refine BT.yes (decide_eq_true ?_) (BT.yes (decide_eq_true ?_) (BT.yes (decide_eq_true ?_) (BT.yes (decide_eq_true ?_) (BT.opt ⟨_, by rw [hw]; exact e1, tail _ e2 e3 _ rfl⟩))))
   ·show (0 + env.length) * 88 <= 140737488355328
    omega
   ·show (env.length + 1) * 88 <= 140737488355328
    omega
   ·show (0 + m.length) * 16 <= 140737488355328
    omega
   ·show (m.length + 1) * 16 <= 140737488355328
    omega
  ·have hm1 : ¬ (q.1.getD kk.toNat Zac).2.2.2.2.1 = 1 := by simpa using hm1
   have e : Zan (q.1.getD kk.toNat Zac) env (l.getD i.toNat evZ) = env := if_neg hm1
   obtain ⟨o2, e1, e2, e3⟩ := gin _ e.symm hwin hb20
   refine BT.yes (decide_eq_true ?_) (BT.yes (decide_eq_true ?_) (BT.opt ⟨_, by rw [hw]; exact e1, tail _ e2 e3 _ rfl⟩))
   ·show (0 + m.length) * 16 <= 140737488355328
    omega
   ·show (m.length + 1) * 16 <= 140737488355328
    omega
 ·have hp := p3 ((l.length : Int) - i).toNat
  obtain rfl : i = l.length := by omega
  refine BT.ge (decide_eq_false hi) (BT.ends ⟨out', .inr rfl, fun mm => ?_, by omega⟩)
  rw [g2]
  constructor
  ·rintro ⟨j, j1, j2, j3, j4, j5⟩
   exact ⟨j, j1, j2, j3, j4, fun j' a1 a2 => gN j' a1 (by omega), j5⟩
  ·rintro ⟨j, j1, j2, j3, j4, j5, j6⟩
   exact ⟨j, j1, j2, j3, j4, j6⟩
theorem Tel.of_bt {P : List Prs -> Prop} {out : List (List Prs)} {B : Nat} {b : Br ((Qry × (List Evt × List (List Prs))) × Unit)} (h : BT (fun y => ∃ out', y = ((q, l, out ++ out'), ()) /\ (∀ m, m ∈ out' ↔ P m) /\ wN out' <= B) b) : Tel q l P out B b.run := by
 obtain ⟨y, hy, out', rfl, h1, h2⟩ := h
 exact ⟨out', hy, h1, h2⟩
theorem Zje (hq : QGood q) (hl : l.length <= 8) (hE : ∀ x ∈ l, Zb2 x) (hN : l.Pairwise fun a b => a.2.2.2.1 ≠ b.2.2.2.1) (hT : ∀ x ∈ l, 0 <= x.2.2.1 /\ x.2.2.1 <= 15) : ∀ k, ElemT q l k /\ CrossT q l k
 | 0 => by
  refine ⟨fun a h m env f0 fr out hR hk _ => ?_, fun a h m env f0 fr out kk L hR _ _ _ hk _ => ?_⟩
  ·obtain ⟨r1, r2, r3, r4, r5, r6, r7, r8, r9, r10, r11⟩ := hR; omega
  ·obtain ⟨r1, r2, r3, r4, r5, r6, r7, r8, r9, r10, r11⟩ := hR; omega
 | k + 1 => by
  obtain ⟨ihE, ihC⟩ := Zje hq hl hE hN hT k
  have hq4 := hq.hi
  refine ⟨fun a h m env f0 fr out hR hk hb => ?_, fun a h m env f0 fr out kk L hR hkk hL hL2 hk hb => ?_⟩
  ·obtain ⟨r1, r2, r3, r4, r5, r6, r7, r8, r9, r10, r11⟩ := id hR
   have hp := p3 ((l.length : Int) - fr).toNat
   show Tel q l _ out _ (Zh6 (ZbK k) (ZbS k) ((q, l, out), a, h, m, env, f0, fr, ())).run
   refine Tel.of_bt ?_
   unfold Zh6
   have loop : ∀ c0 : List (List Prs), (∀ mm, mm ∈ c0 ↔ (Zbl q a <= h /\ ((Zbi q a /\ mm = m) \/ ∃ k, Nxt q a k /\ FC q l a k m env f0 fr mm))) -> (wN c0 <= 2 \/ wN c0 + 1 <= 3 ^ ((l.length : Int) - fr).toNat) -> ∀ oo, oo = out ++ c0 ->
     BT (fun y => ∃ out', y = ((q, l, out ++ out'), ()) /\ (∀ m', m' ∈ out' ↔ FE q l a h m env f0 fr m') /\ wN out' <= 2 * 3 ^ ((l.length : Int) - fr).toNat)
      (.cond (decide (h >= (q.1.getD a.toNat Zac).2.2.2.2.1)) (.ret (((q.1, q.2.1, q.2.2), l, oo), ())) (.opt (Zdh (ZbK k) (ZbS k) (a, h, m, env, f0, fr, q.1, q.2.1, q.2.2, l, 0, 0, q.1.getD a.toNat Zac, oo, ())) fun z => .ret (((z.1, z.2.1, z.2.2.1), z.2.2.2.1, z.2.2.2.2.2.2.1), ()))) := by
    rintro c0 h1 h2 oo rfl
    refine BT.cond (fun hc => BT.ret ⟨c0, rfl, fun mm => ?_, by omega⟩) (fun hc => ?_)
    ·have hc := of_decide_eq_true hc
     rw [h1, FE.iff]
     exact ⟨.inl, fun hh => hh.elim id fun ⟨h3, _⟩ => absurd h3 (by show ¬ h < (q.1.getD a.toNat Zac).2.2.2.2.1; omega)⟩
    ·have hc := of_decide_eq_false hc
     have hdis : ∀ mm ∈ c0, ∀ i, fr <= i -> i < (l.length : Int) -> ¬ FM q l a h m env f0 i mm := by
      intro mm hm i i0 i1 hF
      rcases ((h1 mm).1 hm).2 with ⟨-, rfl⟩ | ⟨kk, hn, j, -, -, -, -, -, hf⟩
      ·obtain ⟨r, hr⟩ := hF.2.2.pre
       have := congrArg List.length hr
       simp at this
      ·have := (Prod.mk.inj (hf.apart hF.2.2)).1
       have := hn.1
       omega
     obtain ⟨out', e1, e2, e3⟩ := Ztb hq hl hE hN hT ihE hR (by omega) out c0 (by omega) hdis hb
     refine BT.opt ⟨_, e1, BT.ret ⟨out', rfl, fun mm => ?_, by omega⟩⟩
     rw [e2, h1, FE.iff]
     exact ⟨fun hh => hh.imp id fun hh => ⟨by show _ < (q.1.getD a.toNat Zac).2.2.2.2.1; omega, hh⟩, fun hh => hh.imp id fun hh => hh.2⟩
   refine BT.yes (in2 r1 r2) (BT.cond (fun hc => ?_) (fun hc => loop [] (fun mm => ⟨fun hh => by simp at hh, fun hh => ?_⟩) (.inl (by simp [wN])) _ (by rw [List.append_nil])))
   rotate_left
   ·have hc : ¬ h >= (q.1.getD a.toNat Zac).2.2.2.1 := of_decide_eq_false hc
    exact absurd hh.1 hc
   have hc : (q.1.getD a.toNat Zac).2.2.2.1 <= h := of_decide_eq_true hc
   obtain ⟨kk, L, e1, e2, hLl⟩ := Zur q (by omega) l out a r1 r2
   refine BT.opt ⟨_, e1, ?_⟩
   rcases e2 with ⟨rfl, hno⟩ | ⟨e2, e3, e4, e5, e6⟩
   ·refine BT.lt rfl (BT.yes (decide_eq_true ?_) (BT.yes (decide_eq_true ?_) (loop [m] (fun mm => ?_) (.inl (by simp [wN])) _ rfl)))
    ·show (0 + m.length) * 16 <= 140737488355328
     omega
    ·show (out.length + 1) * 24 <= 140737488355328
     omega
    ·rw [List.mem_singleton]
     exact ⟨fun h => ⟨hc, .inl ⟨hno, h⟩⟩, fun h => h.2.elim (fun h => h.2) fun ⟨k, h3, _⟩ => (h3.no hno).elim⟩
   ·refine BT.ge (decide_eq_false (show ¬ kk < 0 by omega)) ?_
    have hN : Nxt q a kk := ⟨e2, e3, e4, e5⟩
    obtain ⟨c0, c1, c2, c3⟩ := ihC a h m env f0 fr out kk L hR hN e6 hLl (by omega) hb
    refine BT.opt ⟨_, c1, loop c0 (fun mm => ?_) (.inr (by omega)) _ rfl⟩
    rw [c2]
    exact ⟨fun h => ⟨hc, .inr ⟨kk, hN, h⟩⟩, fun h => h.2.elim (fun h => (hN.no h.1).elim) fun ⟨k, h3, h4⟩ => by rw [hN.uniq h3]; exact h4⟩
  ·obtain ⟨r1, r2, r3, r4, r5, r6, r7, r8, r9, r10, r11⟩ := id hR
   show Tel q l _ out _ (ZgV (ZbK k) (ZbS k) ((q, l, out), kk, L, m, env, f0, fr, ())).run
   refine Tel.of_bt ?_
   unfold ZgV
   have hk1 := hkk.1
   have hk2 := hkk.2.1
   refine BT.yes (in2 (by omega) hk2) ?_
   obtain ⟨z, hz, out', h | h, h1, h2⟩ := ZqT hq hl hE hN hT ihE hR hk1 hk2 hL hL2 (by omega) out hb
   ·subst h
    exact BT.opt ⟨_, hz, BT.suml (BT.ret ⟨out', rfl, h1, by omega⟩)⟩
   ·subst h
    exact BT.opt ⟨_, hz, BT.sumr (BT.ret ⟨out', rfl, h1, by omega⟩)⟩
theorem FE.len {a h : Int} {m : List Prs} {env : List Bnd} {f0 fr : Int} {mm : List Prs} (hf : FE q l a h m env f0 fr mm) (h0 : (m.length : Int) <= fr) (h1 : fr <= l.length) : mm.length <= l.length := by
 induction hf with
 | stop h1 h2 => omega
 | cross k i h1 h2 h3 h4 h5 h6 h7 h8 ih => exact ih (by rw [List.length_append, List.length_singleton]; omega) (by omega)
 | more i h1 h3 h4 h5 h6 h8 ih => exact ih (by rw [List.length_append, List.length_singleton]; omega) (by omega)
def FA (q : Qry) (l : List Evt) (mm : List Prs) : Prop := ∃ i : Int, 0 <= i /\ i < l.length /\ ZaO q l 0 i [] /\ FE q l 0 1 [(0, ZaN l i)] (Zan (q.1.getD 0 Zac) [] (l.getD i.toNat evZ)) (Zbn l i) (i + 1) mm
theorem allM_o (hq : QGood q) (hl : l.length <= 8) (hE : ∀ x ∈ l, Zb2 x) (hN : l.Pairwise fun a b => a.2.2.2.1 ≠ b.2.2.2.1) (hT : ∀ x ∈ l, 0 <= x.2.2.1 /\ x.2.2.1 <= 15) : ∃ out, (∀ y, sortP (out, ()) = some y -> allM (q, l, ()) = some y) /\ (∀ mm, mm ∈ out ↔ FA q l mm) /\ out.length <= 100000 /\ out.Nodup /\ ∀ m ∈ out, m.length <= 1000000 := by
 have hlo := hq.lo
 have hEl := hq.get 0 (Int.le_refl 0) (by omega)
 have p8 : 3 ^ l.length <= 6561 := Nat.le_trans (Nat.pow_le_pow_right (by decide) hl) (by decide)
 have hz : ((q.1.length : Int) == 0) = false := beq_eq_false_iff_ne.2 (by omega)
 let G (i : Int) (mm : List Prs) : Prop := ZaO q l 0 i [] /\ FE q l 0 1 [(0, ZaN l i)] (Zan (q.1.getD 0 Zac) [] (l.getD i.toNat evZ)) (Zbn l i) (i + 1) mm
 obtain ⟨z, hz1, out, rfl, h1, h2⟩ : ∃ z, allM_w0 (l, 0, q.1, q.2.1, q.2.2, l, q, [], ()) = some z /\ ∃ out : List (List Prs), z = (q.1, q.2.1, q.2.2, l, out, ()) /\ (∀ mm, mm ∈ out ↔ ∃ i : Int, 0 <= i /\ i < l.length /\ G i mm) /\ wN out <= 6561 := by
  refine Zaw (step := Zih) (fun y => ∃ (i : Int) (out : List (List Prs)), y = (l, i, q.1, q.2.1, q.2.2, l, q, out, ()) /\ 0 <= i /\ i <= l.length /\ (∀ mm, mm ∈ out ↔ ∃ j : Int, 0 <= j /\ j < i /\ G j mm) /\ wN out + 3 ^ ((l.length : Int) - i).toNat <= 3 ^ l.length) (fun y => ((l.length : Int) - y.2.1).toNat) _ ?_ _ ⟨0, [], rfl, Int.le_refl 0, by omega, fun mm => ⟨fun h => by simp at h, fun ⟨j, h1, h2, _⟩ => by omega⟩, by simp [wN]⟩
  rintro y ⟨i, out, rfl, g0, g1, g2, g3⟩
  have gl := wN_le out
  unfold Zih
  by_cases hi : i < (l.length : Int)
  ·have hw : IntKind.wrap .i64 (i + 1) = i + 1 := Go.PI.wrap_small (by omega) (by omega)
   have hlt : i.toNat < l.length := by omega
   have hmem : l.getD i.toNat evZ ∈ l := by rw [Zaf _ _ _ hlt]; exact List.getElem_mem hlt
   have hxe : Zb2 (l.getD i.toNat evZ) := hE _ hmem
   have htm := hT _ hmem
   have hp := p3s l.length i hi
   have hp1 := p3 ((l.length : Int) - (i + 1)).toNat
   obtain ⟨b, hb20⟩ := ZeK (q.1.getD 0 Zac) hEl.1 hEl.2.2.2.2.2.1 hEl.2.2.2.2.2.2 (l.getD i.toNat evZ) hxe [] (by simp) (fun b h => by simp at h)
   have nxt : ∀ o3 : List (List Prs), (∀ mm, mm ∈ o3 ↔ mm ∈ out \/ G i mm) -> ∀ mm, mm ∈ o3 ↔ ∃ j : Int, 0 <= j /\ j < i + 1 /\ G j mm := by
    intro o3 h3 mm
    rw [h3, g2]
    constructor
    ·rintro (⟨j, j1, j2, j3⟩ | h)
     ·exact ⟨j, j1, by omega, j3⟩
     ·exact ⟨i, g0, by omega, h⟩
    ·rintro ⟨j, j1, j2, j3⟩
     by_cases e : j = i
     ·subst e; exact .inr j3
     ·exact .inl ⟨j, j1, by omega, j3⟩
   have gin : ∀ env', env' = Zan (q.1.getD 0 Zac) [] (l.getD i.toNat evZ) -> ZaO q l 0 i [] -> ∃ o2, elemFF ((q, l, out), 0, 1, [(0, (l.getD i.toNat evZ).2.2.2.1)], env', (l.getD i.toNat evZ).2.2.1, i + 1, ()) = some ((q, l, out ++ o2), ()) /\ (∀ mm, mm ∈ out ++ o2 ↔ ∃ j : Int, 0 <= j /\ j < i + 1 /\ G j mm) /\ wN (out ++ o2) + 3 ^ ((l.length : Int) - (i + 1)).toNat <= 3 ^ l.length := by
    rintro env' rfl hfit
    have hlen := ZiA (q.1.getD 0 Zac) [] (l.getD i.toNat evZ)
    simp only [List.length_nil] at hlen
    obtain ⟨o2, e1, e2, e3⟩ := (Zje hq hl hE hN hT (2 * l.length + 8)).1 0 1 [(0, (l.getD i.toNat evZ).2.2.2.1)] (Zan (q.1.getD 0 Zac) [] (l.getD i.toNat evZ)) (l.getD i.toNat evZ).2.2.1 (i + 1) out
     ⟨Int.le_refl 0, by omega, by omega, by omega, by rw [List.length_singleton]; omega, by omega, Zkx (fun b h => by simp at h) hxe, by omega, by omega, htm.1, htm.2⟩ (by omega) (by omega)
    refine ⟨o2, e1, nxt _ fun mm => ?_, ?_⟩
    ·rw [List.mem_append, e2]
     exact ⟨fun h => h.imp id fun h => ⟨hfit, h⟩, fun h => h.imp id fun h => h.2⟩
    ·have := Zhz (a := out) (b := o2) fun mm hm hm2 => by
      have h2 := (e2 mm).1 hm2
      obtain ⟨j, j0, j1, -, hm⟩ := (g2 mm).1 hm
      have := Ze8 hN (by omega) (by omega) (by omega) hi (Prod.mk.inj (FE.apart (m := []) hm h2)).2
      omega
     omega
   refine BT.lt (decide_eq_true hi) (BT.yes (in2 g0 hi) (BT.yes (in2 (Int.le_refl 0) (by omega)) (BT.opt ⟨_, hb20, BT.cond (fun hbf => BT.goes ⟨⟨i + 1, out, by rw [hw], by omega, by omega, nxt _ fun mm => ⟨.inl, fun h => h.elim id fun h => ?_⟩, by omega⟩, ?_⟩) (fun hbt => ?_)⟩)))
   ·have hbf : b = false := by simpa using hbf
    have := h.1
    unfold ZaO at this
    rw [show (0 : Int).toNat = 0 from rfl, hb20, hbf] at this
    cases this
   ·dsimp only
    rw [hw]
    omega
   ·have hbt : b = true := by simpa using hbt
    subst hbt
    refine BT.cond (fun hm1 => ?_) (fun hm1 => ?_)
    ·have hm1 : (q.1.getD 0 Zac).2.2.2.2.1 = 1 := by simpa using hm1
     have e : Zan (q.1.getD 0 Zac) [] (l.getD i.toNat evZ) = [((q.1.getD 0 Zac).1, l.getD i.toNat evZ)] := if_pos hm1
     obtain ⟨o2, e1, e2, e3⟩ := gin _ e.symm hb20
     refine BT.yes (decide_eq_true (show (0 + 1) * 88 <= 140737488355328 by decide)) (BT.opt ⟨_, by rw [hw]; exact e1, BT.goes ⟨⟨i + 1, out ++ o2, by rw [hw], by omega, by omega, e2, e3⟩, ?_⟩⟩)
     dsimp only
     rw [hw]
     omega
    ·have hm1 : ¬ (q.1.getD 0 Zac).2.2.2.2.1 = 1 := by simpa using hm1
     have e : Zan (q.1.getD 0 Zac) [] (l.getD i.toNat evZ) = [] := if_neg hm1
     obtain ⟨o2, e1, e2, e3⟩ := gin _ e.symm hb20
     refine BT.opt ⟨_, by rw [hw]; exact e1, BT.goes ⟨⟨i + 1, out ++ o2, by rw [hw], by omega, by omega, e2, e3⟩, ?_⟩⟩
     dsimp only
     rw [hw]
     omega
  ·obtain rfl : i = l.length := by omega
   exact BT.ge (decide_eq_false hi) (BT.ends ⟨out, rfl, g2, Nat.le_trans (Nat.le_add_right _ _) (Nat.le_trans g3 p8)⟩)
 have hwl := wN_le out
 refine ⟨out, fun y hy => ?_, h1, by omega, wN_nd (by omega), fun m hm => ?_⟩
 ·unfold allM allM_B
  simp only [Br.run, hz, cond_false, hz1, hy]
 ·obtain ⟨i, i0, i1, -, hf⟩ := (h1 m).1 hm
  have := hf.len (by rw [List.length_singleton]; omega) (by omega)
  omega
end
end Go.Proofs.YtkbdofnbagmlfaaGreat
