/- Runs: one more event; events that are made. Events that are made: in order, each with a number of its own. All matches: the recursion, both ways; in order. All matches: what is told of events; their pairs stand in the elements' order. All matches: just those that are found element by element. -/
import Derived.Test.YtkbdofnbagmlfaaGreatHg
import Derived.Test.YtkbdofnbagmlfaaGreatHk
import Derived.Test.YtkbdofnbagmlfaaGreatLfC
import Derived.Test.YtkbdofnbagmlfaaGreatHj
namespace Go.Proofs.YtkbdofnbagmlfaaGreat
open Go.PI Go
def Za0 (r : RunT) (q : Qry) (st el : Int) (e : Evt) : RunT :=
 (st, (el, e.2.2.2.1) :: r.2.1, (if 0 <= el /\ el < q.1.length /\ (q.1.getD el.toNat eZ').2.2.2.2.1 = 1 then ((q.1.getD el.toNat eZ').1, e) :: r.2.2.1 else r.2.2.1), (if r.2.1 = [] then e.2.2.1 else r.2.2.2.1), (e.2.2.1, e.2.2.2.1, 0), false)
theorem ZtX (r : RunT) (q : Qry) (st el : Int) (e : Evt) (hm : r.2.1.length <= 1000000) (he : r.2.2.1.length <= 1000000) (hv : e.2.2.2.2.length <= 1000) : runWith (r, q, st, el, e, ()) = some (Za0 r q st el e, ()) := by
 unfold runWith ZmG withP withB stampE Zoe runLen ZjO copyE ZrN cloneVal
 have hb : bound (0 + e.2.2.2.2.length) 40 = true := by unfold bound; exact decide_eq_true (by omega)
 have hm' : r.2.1.length < 9223372036854775807 := by omega
 have he' : r.2.2.1.length < 9223372036854775807 := by omega
 obtain ⟨r1, rm, re, rf, rs, rb⟩ := r
 obtain ⟨e1, e2, e3, e4, e5⟩ := e
 dsimp only at hm he hv hb hm' he' ⊢
 by_cases h0 : 0 <= el
 ·have h0' : el >= 0 := h0
  by_cases h1 : el < q.1.length
  ·by_cases h2 : (q.1.getD el.toNat eZ').2.2.2.2.1 = 1
   ·have h2' : ((q.1.getD el.toNat eZ').2.2.2.2.1 == 1) = true := by rw [h2]; rfl
    cases rm with
    | nil => simp only [Br.run, ZbW, List.length_nil, decide_eq_true hm', decide_eq_true he', cond_true, decide_eq_true h0, decide_eq_true h0', decide_eq_true h1, Bool.and_self, h2', hb, Za0, h0, h1, h2, and_self, if_true]; rfl
    | cons a m =>
     have hl : (((a :: m).length : Int) == 0) = false := by simp; omega
     have hl' : (a :: m).length < 9223372036854775807 := hm'
     simp only [Br.run, ZbW, hl, decide_eq_true hl', decide_eq_true he', cond_true, cond_false, decide_eq_true h0, decide_eq_true h0', decide_eq_true h1, Bool.and_self, h2', hb, Za0, h0, h1, h2, and_self, if_true]; rfl
   ·have h2' : ((q.1.getD el.toNat eZ').2.2.2.2.1 == 1) = false := by simpa using h2
    cases rm with
    | nil => simp only [Br.run, ZbW, List.length_nil, decide_eq_true hm', decide_eq_true he', cond_true, cond_false, decide_eq_true h0, decide_eq_true h0', decide_eq_true h1, Bool.and_self, h2', hb, Za0, h2, and_false, if_false]; rfl
    | cons a m =>
     have hl : (((a :: m).length : Int) == 0) = false := by simp; omega
     have hl' : (a :: m).length < 9223372036854775807 := hm'
     simp only [Br.run, ZbW, hl, decide_eq_true hl', decide_eq_true he', cond_true, cond_false, decide_eq_true h0, decide_eq_true h0', decide_eq_true h1, Bool.and_self, h2', hb, Za0, h2, and_false, if_false]; rfl
  ·cases rm with
   | nil => simp only [Br.run, ZbW, List.length_nil, decide_eq_true hm', cond_true, cond_false, decide_eq_true h0', decide_eq_false h1, Za0, h1, false_and, and_false, if_false]; rfl
   | cons a m =>
    have hl : (((a :: m).length : Int) == 0) = false := by simp; omega
    have hl' : (a :: m).length < 9223372036854775807 := hm'
    simp only [Br.run, ZbW, hl, decide_eq_true hl', cond_true, cond_false, decide_eq_true h0', decide_eq_false h1, Za0, h1, false_and, and_false, if_false]; rfl
 ·have h0' : ¬ el >= 0 := h0
  cases rm with
  | nil => simp only [Br.run, ZbW, List.length_nil, decide_eq_true hm', cond_true, cond_false, decide_eq_false h0', Za0, h0, false_and, if_false]; rfl
  | cons a m =>
   have hl : (((a :: m).length : Int) == 0) = false := by simp; omega
   have hl' : (a :: m).length < 9223372036854775807 := hm'
   simp only [Br.run, ZbW, hl, decide_eq_true hl', cond_true, cond_false, decide_eq_false h0', Za0, h0, false_and, if_false]; rfl
def ZcV (r : RunT) : Int := match r.2.1 with
 | [] => -1
 | x :: _ => x.1
theorem Zcv (r : RunT) : runElem (r, ()) = some (ZcV r, ()) := by
 unfold runElem Zmz newestP ZmD
 obtain ⟨r1, rm, rest⟩ := r
 cases rm with
 | nil => simp only [Br.run, ZbW]; rfl
 | cons a m =>
  have hl : (((a :: m).length : Int) == 0) = false := by simp; omega
  simp only [Br.run, ZbW, hl, cond_false]; rfl
theorem ZmZ (r : RunT) : runLen (r, ()) = some ((r.2.1.length : Int), ()) := by
 unfold runLen ZjO
 simp only [Br.run, ZbW]
def ZpD (e : Evt) : Prop := ∀ v ∈ e.2.2.2.2, -9223372036854775808 <= v.2.1 /\ v.2.1 <= 9223372036854775807
def Zli (l : List Evt) : Prop := ∀ (k : Nat) e, l[k]? = some e -> e.2.2.2.2.length <= 3 /\ e.2.2.2.1 = (k : Int) + 1 /\ ZpD e
theorem Zli.snoc {l : List Evt} (h : Zli l) {e : Evt} (h1 : e.2.2.2.2.length <= 3) (h2 : e.2.2.2.1 = (l.length : Int) + 1) (h3 : ZpD e) : Zli (l ++ [e]) := by
 intro k u hu
 rcases Nat.lt_or_ge k l.length with hk | hk
 ·rw [List.getElem?_append_left hk] at hu
  exact h k u hu
 ·rw [List.getElem?_append_right hk] at hu
  have : k = l.length := by
   have := (List.getElem?_eq_some_iff.1 hu).1
   simp at this
   omega
  subst this
  rw [Nat.sub_self] at hu
  obtain rfl : e = u := by simpa using hu
  exact ⟨h1, h2, h3⟩
theorem Zli.get {l : List Evt} (h : Zli l) {i : Nat} (hi : i < l.length) : (l.getD i evZ).2.2.2.2.length <= 3 /\ (l.getD i evZ).2.2.2.1 = (i : Int) + 1 /\ ZpD (l.getD i evZ) := by
 rw [Za1 _ _ _ hi]
 exact h i _ (List.getElem?_eq_getElem hi)
end Go.Proofs.YtkbdofnbagmlfaaGreat

namespace Go.Proofs.YtkbdofnbagmlfaaGreat
open Go.PI Go
theorem Ztr (e : Evt) : ∃ k key t n s b, (k = 0 \/ k = 1 \/ k = 2) /\ (0 <= t /\ t <= 15) /\ (n = 0 \/ n = 1 \/ n = 2 \/ n = 3) /\ eventR (e, ()) = some (mkE k key t n s b, ()) := by
 obtain ⟨ty, key, tm, sq, vals⟩ := e
 unfold eventR Zpp
 dsimp only
 have hK := tmod3 _ (ZbM sq 255 (by decide) (by decide)).1
 have hY := tmod3 (↑(ByteArray.size key) : Int) (by omega)
 have hN := ZbM (Prod.fst (Prod.snd (List.getD vals (Int.toNat 0) (0, 0, ByteArray.empty, false)))) 3 (by decide) (by decide)
 have hM := ZbM tm 15 (by decide) (by decide)
 generalize Int.tmod (IntKind.wrap IntKind.i64 (↑(BitVec.toNat (BitVec.ofInt (IntKind.bits IntKind.i64) sq &&& BitVec.ofInt (IntKind.bits IntKind.i64) 255)) : Int)) 3 = K at hK ⊢
 generalize Int.tmod (↑(ByteArray.size key) : Int) 3 = Y at hY ⊢
 generalize IntKind.wrap IntKind.i64 (↑(BitVec.toNat (BitVec.ofInt (IntKind.bits IntKind.i64) (Prod.fst (Prod.snd (List.getD vals (Int.toNat 0) (0, 0, ByteArray.empty, false)))) &&& BitVec.ofInt (IntKind.bits IntKind.i64) 3)) : Int) = N at hN ⊢
 generalize IntKind.wrap IntKind.i64 (↑(BitVec.toNat (BitVec.ofInt (IntKind.bits IntKind.i64) tm &&& BitVec.ofInt (IntKind.bits IntKind.i64) 15)) : Int) = M at hM ⊢
 generalize decide (IntKind.wrap IntKind.i64 (↑(BitVec.toNat (BitVec.ofInt (IntKind.bits IntKind.i64) tm &&& BitVec.ofInt (IntKind.bits IntKind.i64) 64)) : Int) > 0) = B
 have hN' : N = 0 \/ N = 1 \/ N = 2 \/ N = 3 := by omega
 cases vals with
 | nil =>
  refine ⟨K, keyK Y, M, 0, sU, B, hK, hM, .inl rfl, ?_⟩
  rcases hK with rfl | rfl | rfl <;> rcases hY with rfl | rfl | rfl <;> rfl
 | cons v r =>
  have e1 : (decide ((↑(List.length (v :: r)) : Int) > 0)) = true := by simp
  rw [e1]
  obtain ⟨v1, v2, v3, vb⟩ := v
  cases vb
  ·refine ⟨K, keyK Y, M, N, sU, B, hK, hM, hN', ?_⟩
   rcases hK with rfl | rfl | rfl <;> rcases hY with rfl | rfl | rfl <;> rfl
  ·refine ⟨K, keyK Y, M, N, sVv, B, hK, hM, hN', ?_⟩
   rcases hK with rfl | rfl | rfl <;> rcases hY with rfl | rfl | rfl <;> rfl
def Zhg (l : List Evt) : Prop := ∀ (k : Nat) e, l[k]? = some e -> Zbw e /\ e.2.2.2.1 = (k : Int) + 1 /\ 0 <= e.2.2.1 /\ e.2.2.1 <= 15
theorem Zhg.snoc {l : List Evt} (h : Zhg l) {e : Evt} (h1 : Zbw e) (h2 : e.2.2.2.1 = (l.length : Int) + 1) (h3 : 0 <= e.2.2.1 /\ e.2.2.1 <= 15) : Zhg (l ++ [e]) := by
 intro k u hu
 rcases Nat.lt_or_ge k l.length with hk | hk
 ·rw [List.getElem?_append_left hk] at hu
  exact h k u hu
 ·rw [List.getElem?_append_right hk] at hu
  have : k = l.length := by
   have := (List.getElem?_eq_some_iff.1 hu).1
   simp at this
   omega
  subst this
  rw [Nat.sub_self] at hu
  obtain rfl : e = u := by simpa using hu
  exact ⟨h1, h2, h3⟩
theorem ZqY (l : List Evt) (m : Int) (h0 : 0 <= m) (hm : m <= 100) : ∃ x, eventsR (l, m, ()) = some (x, ()) /\ Zhg x /\ (x.length : Int) <= m := by
 unfold eventsR ZmF
 obtain ⟨z, hz, hq⟩ : ∃ z, eventsR_w0 (l, m, 0, [], ()) = some z /\ Zhg z.1 /\ (z.1.length : Int) <= m := by
  refine Zao (step := fun x => (ZeU x).run) (Q := fun _ z => Zhg z.1 /\ (z.1.length : Int) <= m) (fun y => y.1 = l /\ y.2.1 = m /\ 0 <= y.2.2.1 /\ y.2.2.1 <= m /\ (y.2.2.2.1.length : Int) = y.2.2.1 /\ Zhg y.2.2.2.1) (fun y => (m - y.2.2.1).toNat) ?_ _ ⟨rfl, rfl, Int.le_refl 0, h0, rfl, fun k e h => by simp at h⟩
  rintro ⟨l', m', i, acc, ⟨⟩⟩ hx
  dsimp only at hx ⊢
  obtain ⟨rfl, rfl, h0, h1, h2, h3⟩ := hx
  unfold ZeU
  by_cases hi : i < (l'.length : Int)
  ·by_cases hi5 : i < m'
   ·have hw : IntKind.wrap .i64 (i + 1) = i + 1 := Go.PI.wrap_small (by omega) (by omega)
    obtain ⟨k, key, t, n, s, b, hk, ht, hn, he⟩ := Ztr (List.getD l' (Int.toNat i) (ByteArray.empty, ByteArray.empty, 0, 0, []))
    simp only [Br.run, decide_eq_true hi, decide_eq_true hi5, decide_eq_true h0, Bool.and_self, cond_true, hw, he, Bool.cond_decide]
    refine .inl ⟨_, if_pos ?_, ?_, ?_, fun z hz => hz⟩
    ·show (acc.length + 1) * 72 <= 140737488355328
     omega
    ·refine ⟨rfl, rfl, by dsimp only; omega, by dsimp only; omega, ?_, h3.snoc ⟨k, _, t, _, n, s, b, hk, ⟨by omega, by omega⟩, rfl⟩ (show i + 1 = (acc.length : Int) + 1 by omega) ht⟩
     show (((acc ++ [_]).length : Nat) : Int) = i + 1
     rw [List.length_append, List.length_singleton]; omega
    ·dsimp only; omega
   ·simp only [Br.run, decide_eq_true hi, decide_eq_false hi5, cond_true, cond_false]
    exact .inr ⟨_, rfl, h3, by dsimp only; omega⟩
  ·simp only [Br.run, decide_eq_false hi, cond_false]
   exact .inr ⟨_, rfl, h3, by dsimp only; omega⟩
 simp only [Br.run, hz]
 exact ⟨_, rfl, hq⟩
def leE (a b : Evt) : Prop := a.2.2.1 < b.2.2.1 \/ (a.2.2.1 = b.2.2.1 /\ a.2.2.2.1 <= b.2.2.2.1)
def ltE (a b : Evt) : Bool := decide (a.2.2.1 < b.2.2.1) || (decide (a.2.2.1 = b.2.2.1) && decide (a.2.2.2.1 < b.2.2.2.1))
theorem Ztp (a b : Evt) : beforeE (a, b, ()) = some (ltE a b, ()) := by
 unfold beforeE Znc ltE
 by_cases h1 : a.2.2.1 < b.2.2.1
 ·simp only [Br.run, decide_eq_true h1, cond_true, Bool.true_or]
 ·by_cases h2 : a.2.2.1 = b.2.2.1
  ·simp only [Br.run, h2, Int.lt_irrefl, decide_false, cond_false, beq_self_eq_true, cond_true, decide_true, Bool.true_and, Bool.false_or]
  ·simp only [Br.run, decide_eq_false h1, cond_false, decide_eq_false h2, beq_eq_false_iff_ne.2 h2, Bool.false_and, Bool.or_self]
structure XMk (x : List Evt) : Prop where
 len : x.length <= 8
 ev : ∀ e ∈ x, Zbw e
 tm : ∀ e ∈ x, 0 <= e.2.2.1 /\ e.2.2.1 <= 15
 sq : ∀ e ∈ x, 1 <= e.2.2.2.1 /\ e.2.2.2.1 <= 8
 ne : x.Pairwise (fun a b => a.2.2.2.1 ≠ b.2.2.2.1)
 so : x.Pairwise leE
theorem Zn8 (l : List Evt) (n : Int) (h0 : 0 <= n) (h8 : n <= 8) : ∃ x, events20 (l, n, ()) = some (x, ()) /\ XMk x /\ (x.length : Int) <= n := by
 obtain ⟨x, hx, h1, h2⟩ := ZqY l n h0 (by omega)
 obtain ⟨out, e1, e2, e3⟩ := sortE_at (fun _ => True) ltE leE (fun a b _ _ => Ztp a b) (fun a b h => by unfold ltE at h; unfold leE; simp at h; omega) (fun a b h => by unfold ltE at h; unfold leE; simp at h; omega)
  (fun a b c h k => by unfold leE at *; omega) x (by omega) (fun _ _ => trivial)
 have hm : ∀ e ∈ out, ∃ k : Nat, k < x.length /\ Zbw e /\ e.2.2.2.1 = (k : Int) + 1 /\ 0 <= e.2.2.1 /\ e.2.2.1 <= 15 := fun e he => by
  obtain ⟨k, hk⟩ := List.getElem?_of_mem (e2.mem_iff.1 he)
  exact ⟨k, (List.getElem?_eq_some_iff.1 hk).1, h1 k e hk⟩
 unfold events20 Zj9
 simp only [Br.run, hx, e1]
 refine ⟨out, rfl, ⟨by have := e2.length_eq; omega, fun e he => ?_, fun e he => ?_, fun e he => ?_, ?_, e3⟩, by have := e2.length_eq; omega⟩
 ·obtain ⟨k, -, h, -⟩ := hm e he; exact h
 ·obtain ⟨k, -, -, -, h⟩ := hm e he; exact h
 ·obtain ⟨k, hk, -, h, -⟩ := hm e he; omega
 ·refine (e2.pairwise_iff (fun {a b} h => Ne.symm h)).2 ?_
  rw [List.pairwise_iff_getElem]
  intro i j hi hj hij
  have a1 := (h1 i _ (List.getElem?_eq_getElem hi)).2.1
  have a2 := (h1 j _ (List.getElem?_eq_getElem hj)).2.1
  omega
theorem ZlW : Zab 0 := ⟨by decide, by decide⟩
theorem Zbw.good {e : Evt} (h : Zbw e) : Zb2 e := by
 obtain ⟨k, key, t, sq, n, s, b, rfl | rfl | rfl, hn, rfl⟩ := h
 ·exact ⟨Nat.le_of_ble_eq_true rfl, fun v hv => by simp at hv; rcases hv with rfl | rfl <;> first | exact hn | exact ZlW⟩
 ·exact ⟨Nat.le_of_ble_eq_true rfl, fun v hv => by simp at hv; rcases hv with rfl | rfl <;> first | exact hn | exact ZlW⟩
 ·exact ⟨Nat.le_of_ble_eq_true rfl, fun v hv => by simp at hv; rcases hv with rfl | rfl | rfl <;> first | exact hn | exact ZlW⟩
end Go.Proofs.YtkbdofnbagmlfaaGreat

namespace Go.Proofs.YtkbdofnbagmlfaaGreat
open Go.PI Go
section
variable {q : Qry} {l : List Evt} {R : Int -> Int -> List Prs -> List Bnd -> Int -> Int -> Prop} {O : List Prs -> Prop}
theorem Tells.of_bt {out : List (List Prs)} {B : Nat} {b : Br ((Qry × (List Evt × List (List Prs))) × Unit)} (h : BT (fun y => ∃ out', y = ((q, l, out ++ out'), ()) /\ (∀ m ∈ out', O m) /\ 2 * out'.length <= B) b) : Tells q l O out B b.run := by
 obtain ⟨y, hy, out', rfl, h1, h2⟩ := h
 exact ⟨out', hy, h1, h2⟩
end
end Go.Proofs.YtkbdofnbagmlfaaGreat

namespace Go.Proofs.YtkbdofnbagmlfaaGreat
open Go.PI Go
section
variable {q : Qry} {l : List Evt} {R : Int -> Int -> List Prs -> List Bnd -> Int -> Int -> Prop} {O : List Prs -> Prop}
end
theorem Zkx {e : Elm} {env : List Bnd} {x : Evt} (h : ZeS env) (hx : Zb2 x) : ZeS (Zan e env x) := by
 unfold Zan
 split
 ·intro b hb
  rcases List.mem_append.1 hb with k | k
  ·exact h b k
  ·obtain rfl := List.mem_singleton.1 k
   exact hx.2
 ·exact h
theorem ZiA (e : Elm) (env : List Bnd) (x : Evt) : (Zan e env x).length <= env.length + 1 := by
 unfold Zan
 split
 ·rw [List.length_append, List.length_singleton]; omega
 ·omega
end Go.Proofs.YtkbdofnbagmlfaaGreat

namespace Go.Proofs.YtkbdofnbagmlfaaGreat
open Go.PI Go
theorem Zur (q : Qry) (hq : q.1.length <= 100) (l : List Evt) (out : List (List Prs)) (a : Int) (h0 : 0 <= a) (h1 : a < q.1.length) :
  ∃ (k : Int) (L : List Int), nextF ((q, l, out), a, ()) = some ((k, L), ()) /\ ((k = -1 /\ ∀ u : Int, a < u -> u < q.1.length -> (q.1.getD u.toNat Zac).2.2.1 = true) \/ (a < k /\ k < q.1.length /\ (q.1.getD k.toNat Zac).2.2.1 = false /\ (∀ u : Int, a < u -> u < k -> (q.1.getD u.toNat Zac).2.2.1 = true) /\ ∀ u : Int, u ∈ L ↔ a < u /\ u < k)) /\ L.length <= 1000 := by
 unfold nextF Zso
 have hw1 : IntKind.wrap .i64 (a + 1) = a + 1 := Go.PI.wrap_small (by omega) (by omega)
 dsimp only
 rw [hw1]
 obtain ⟨z, hz, hq2⟩ : ∃ z, nextF_w0 (a + 1, (q, l, out), [], ()) = some z /\ ((∃ k L, z = .inl (k, L, ()) /\ (a < k /\ k < q.1.length /\ (q.1.getD k.toNat Zac).2.2.1 = false /\ (∀ u : Int, a < u -> u < k -> (q.1.getD u.toNat Zac).2.2.1 = true) /\ ∀ u : Int, u ∈ L ↔ a < u /\ u < k) /\ L.length <= 1000) \/ ∃ L, z = .inr (L, ()) /\ (∀ u : Int, a < u -> u < q.1.length -> (q.1.getD u.toNat Zac).2.2.1 = true) /\ L.length <= 1000) := by
  refine Zaw (step := Zg4) (fun y => ∃ (i : Int) (L : List Int), y = (i, (q, l, out), L, ()) /\ a < i /\ i <= q.1.length /\ (L.length : Int) <= i /\ (∀ u : Int, a < u -> u < i -> (q.1.getD u.toNat Zac).2.2.1 = true) /\ ∀ u : Int, u ∈ L ↔ a < u /\ u < i) (fun y => ((q.1.length : Int) - y.1).toNat) _ ?_ _ ⟨a + 1, [], rfl, by omega, by omega, by simp; omega, fun u h h' => by omega, fun u => ⟨fun h => by simp at h, fun h => by omega⟩⟩
  rintro y ⟨i, L, rfl, g0, g1, g2, g3, g4⟩
  unfold Zg4
  by_cases hi : i < (q.1.length : Int)
  ·have hw : IntKind.wrap .i64 (i + 1) = i + 1 := Go.PI.wrap_small (by omega) (by omega)
   have hi0 : 0 <= i := by omega
   refine BT.lt (decide_eq_true hi) (BT.yes (in2 hi0 hi) (BT.cond (fun hc => BT.ends (.inl ⟨i, L, rfl, ⟨g0, hi, ?_, g3, g4⟩, by omega⟩)) (fun hc => BT.yes (decide_eq_true ?_) (BT.goes ⟨⟨i + 1, L ++ [i], by rw [hw]; rfl, by omega, by omega, ?_, fun u hu hu' => ?_, fun u => ?_⟩, ?_⟩))))
   ·have : (!(q.1.getD i.toNat Zac).2.2.1) = true := hc
    simpa using this
   ·show (L.length + 1) * 8 <= 140737488355328
    omega
   ·rw [List.length_append, List.length_singleton]; omega
   ·by_cases e : u = i
    ·subst e
     have : (!(q.1.getD u.toNat Zac).2.2.1) = false := hc
     simpa using this
    ·exact g3 u hu (by omega)
   ·rw [List.mem_append, g4, List.mem_singleton]; omega
   ·dsimp only
    rw [hw]
    omega
  ·exact BT.ge (decide_eq_false hi) (BT.ends (.inr ⟨L, rfl, fun u h h' => g3 u h (by omega), by omega⟩))
 simp only [Br.run, hz]
 rcases hq2 with ⟨k, L, rfl, a1, a2⟩ | ⟨L, rfl, a1, a2⟩
 ·exact ⟨k, L, rfl, .inr a1, a2⟩
 ·exact ⟨-1, L, rfl, .inl ⟨rfl, a1⟩, a2⟩
def ZaO (q : Qry) (l : List Evt) (u i : Int) (env : List Bnd) : Prop := fits20 (q.1.getD u.toNat Zac, l.getD i.toNat evZ, env, ()) = some (true, ())
def Nxt (q : Qry) (a k : Int) : Prop := a < k /\ k < q.1.length /\ (q.1.getD k.toNat Zac).2.2.1 = false /\ ∀ u : Int, a < u -> u < k -> (q.1.getD u.toNat Zac).2.2.1 = true
def Zbi (q : Qry) (a : Int) : Prop := ∀ u : Int, a < u -> u < q.1.length -> (q.1.getD u.toNat Zac).2.2.1 = true
theorem Nxt.uniq {q : Qry} {a k k' : Int} (h : Nxt q a k) (h' : Nxt q a k') : k = k' := by
 obtain ⟨h1, h2, h3, h4⟩ := h
 obtain ⟨k1, k2, k3, k4⟩ := h'
 rcases Int.lt_trichotomy k k' with c | c | c
 ·have := k4 k h1 c; rw [h3] at this; cases this
 ·exact c
 ·have := h4 k' k1 c; rw [k3] at this; cases this
theorem Nxt.no {q : Qry} {a k : Int} (h : Nxt q a k) (n : Zbi q a) : False := by
 obtain ⟨h1, h2, h3, h4⟩ := h
 have := n k h1 h2
 rw [h3] at this; cases this
abbrev ZaN (l : List Evt) (i : Int) : Int := (l.getD i.toNat evZ).2.2.2.1
abbrev Zbn (l : List Evt) (i : Int) : Int := (l.getD i.toNat evZ).2.2.1
abbrev Zbl (q : Qry) (a : Int) : Int := (q.1.getD a.toNat Zac).2.2.2.1
abbrev Zbt (q : Qry) (a : Int) : Int := (q.1.getD a.toNat Zac).2.2.2.2.1
inductive FE (q : Qry) (l : List Evt) : Int -> Int -> List Prs -> List Bnd -> Int -> Int -> List Prs -> Prop
 | stop {a h m env f0 fr} (h1 : Zbl q a <= h) (h2 : Zbi q a) : FE q l a h m env f0 fr m
 | cross {a h m env f0 fr mm} (k i : Int) (h1 : Zbl q a <= h) (h2 : Nxt q a k) (h3 : fr <= i) (h4 : i < l.length) (h5 : Zbn l i - f0 <= q.2.1) (h6 : ZaO q l k i env) (h7 : ∀ j, fr <= j -> j < i -> ∀ u, a < u -> u < k -> ¬ ZaO q l u j env)
   (h8 : FE q l k 1 (m ++ [(k, ZaN l i)]) (Zan (q.1.getD k.toNat Zac) env (l.getD i.toNat evZ)) f0 (i + 1) mm) : FE q l a h m env f0 fr mm
 | more {a h m env f0 fr mm} (i : Int) (h1 : h < Zbt q a) (h3 : fr <= i) (h4 : i < l.length) (h5 : Zbn l i - f0 <= q.2.1) (h6 : ZaO q l a i env)
   (h8 : FE q l a (h + 1) (m ++ [(a, ZaN l i)]) (Zan (q.1.getD a.toNat Zac) env (l.getD i.toNat evZ)) f0 (i + 1) mm) : FE q l a h m env f0 fr mm
def FC (q : Qry) (l : List Evt) (a k : Int) (m : List Prs) (env : List Bnd) (f0 fr : Int) (mm : List Prs) : Prop :=
 ∃ i : Int, fr <= i /\ i < l.length /\ Zbn l i - f0 <= q.2.1 /\ ZaO q l k i env /\ (∀ j, fr <= j -> j < i -> ∀ u, a < u -> u < k -> ¬ ZaO q l u j env) /\ FE q l k 1 (m ++ [(k, ZaN l i)]) (Zan (q.1.getD k.toNat Zac) env (l.getD i.toNat evZ)) f0 (i + 1) mm
def FM (q : Qry) (l : List Evt) (a h : Int) (m : List Prs) (env : List Bnd) (f0 i : Int) (mm : List Prs) : Prop :=
 Zbn l i - f0 <= q.2.1 /\ ZaO q l a i env /\ FE q l a (h + 1) (m ++ [(a, ZaN l i)]) (Zan (q.1.getD a.toNat Zac) env (l.getD i.toNat evZ)) f0 (i + 1) mm
theorem FE.iff {q : Qry} {l : List Evt} {a h : Int} {m : List Prs} {env : List Bnd} {f0 fr : Int} {mm : List Prs} : FE q l a h m env f0 fr mm ↔ ((Zbl q a <= h /\ ((Zbi q a /\ mm = m) \/ ∃ k, Nxt q a k /\ FC q l a k m env f0 fr mm)) \/ (h < Zbt q a /\ ∃ i, fr <= i /\ i < l.length /\ FM q l a h m env f0 i mm)) := by
 constructor
 ·intro hf
  cases hf with
  | stop h1 h2 => exact .inl ⟨h1, .inl ⟨h2, rfl⟩⟩
  | cross k i h1 h2 h3 h4 h5 h6 h7 h8 => exact .inl ⟨h1, .inr ⟨k, h2, i, h3, h4, h5, h6, h7, h8⟩⟩
  | more i h1 h3 h4 h5 h6 h8 => exact .inr ⟨h1, i, h3, h4, h5, h6, h8⟩
 ·rintro (⟨h1, ⟨h2, rfl⟩ | ⟨k, h2, i, h3, h4, h5, h6, h7, h8⟩⟩ | ⟨h1, i, h3, h4, h5, h6, h8⟩)
  ·exact .stop h1 h2
  ·exact .cross k i h1 h2 h3 h4 h5 h6 h7 h8
  ·exact .more i h1 h3 h4 h5 h6 h8
section
variable {q : Qry} {l : List Evt}
def Rg (q : Qry) (l : List Evt) (a h : Int) (m : List Prs) (env : List Bnd) (f0 fr : Int) : Prop :=
 0 <= a /\ a < q.1.length /\ 0 <= h /\ h <= fr /\ (m.length : Int) <= fr /\ (env.length : Int) <= fr /\ ZeS env /\ 0 <= fr /\ fr <= l.length /\ 0 <= f0 /\ f0 <= 15
theorem Rg.more {a h : Int} {m : List Prs} {env : List Bnd} {f0 fr : Int} (hR : Rg q l a h m env f0 fr) (hx : ∀ x ∈ l, Zb2 x) {i : Int} (h0 : fr <= i) (h1 : i < l.length) (k h' : Int) (hk : 0 <= k) (hk2 : k < q.1.length) (hh : 0 <= h') (hh2 : h' <= i + 1) (s : Int) : Rg q l k h' (m ++ [(k, s)]) (Zan (q.1.getD k.toNat Zac) env (l.getD i.toNat evZ)) f0 (i + 1) := by
 obtain ⟨r1, r2, r3, r4, r5, r6, r7, r8, r9, r10, r11⟩ := hR
 have hlt : i.toNat < l.length := by omega
 have hxe : Zb2 (l.getD i.toNat evZ) := by rw [Zaf _ _ _ hlt]; exact hx _ (List.getElem_mem hlt)
 have := ZiA (q.1.getD k.toNat Zac) env (l.getD i.toNat evZ)
 refine ⟨hk, hk2, hh, hh2, ?_, by omega, Zkx r7 hxe, by omega, by omega, r10, r11⟩
 rw [List.length_append, List.length_singleton]; omega
noncomputable def wN (o : List (List Prs)) : Nat := 2 * o.length + if o.Nodup then 0 else 1000000000
theorem wN_le (o : List (List Prs)) : 2 * o.length <= wN o := Nat.le_add_right _ _
theorem wN_nd {o : List (List Prs)} (h : wN o < 1000000000) : o.Nodup := by
 apply Decidable.byContradiction
 intro k
 unfold wN at h
 rw [if_neg k] at h
 omega
theorem wN_of {o : List (List Prs)} (h : o.Nodup) : wN o = 2 * o.length := by unfold wN; rw [if_pos h, Nat.add_zero]
theorem Zhz {a b : List (List Prs)} (h : ∀ m ∈ a, m ∉ b) : wN (a ++ b) <= wN a + wN b := by
 by_cases ha : a.Nodup
 ·by_cases hb : b.Nodup
  ·rw [wN_of ha, wN_of hb, wN_of (List.nodup_append.2 ⟨ha, hb, fun x hx y hy e => h x hx (e ▸ hy)⟩), List.length_append]
   omega
  ·unfold wN
   rw [if_neg hb, List.length_append]
   split <;> omega
 ·unfold wN
  rw [if_neg ha, List.length_append]
  split <;> omega
theorem FE.pre {a h : Int} {m : List Prs} {env : List Bnd} {f0 fr : Int} {mm : List Prs} (hf : FE q l a h m env f0 fr mm) : ∃ r, mm = m ++ r := by
 induction hf with
 | stop => exact ⟨[], (List.append_nil _).symm⟩
 | cross k i _ _ _ _ _ _ _ _ ih => obtain ⟨r, rfl⟩ := ih; exact ⟨_ :: r, by rw [List.append_assoc]; rfl⟩
 | more i _ _ _ _ _ _ ih => obtain ⟨r, rfl⟩ := ih; exact ⟨_ :: r, by rw [List.append_assoc]; rfl⟩
theorem FE.apart {a h a' h' : Int} {m : List Prs} {x y : Prs} {env env' : List Bnd} {f0 fr f0' fr' : Int} {mm : List Prs} (h1 : FE q l a h (m ++ [x]) env f0 fr mm) (h2 : FE q l a' h' (m ++ [y]) env' f0' fr' mm) : x = y := by
 obtain ⟨r, rfl⟩ := h1.pre
 obtain ⟨r', h⟩ := h2.pre
 rw [List.append_assoc, List.append_assoc] at h
 exact (List.cons.inj (List.append_cancel_left h)).1
theorem Ze8 (hN : l.Pairwise fun a b => a.2.2.2.1 ≠ b.2.2.2.1) {i j : Int} (i0 : 0 <= i) (i1 : i < l.length) (j0 : 0 <= j) (j1 : j < l.length) (h : ZaN l i = ZaN l j) : i = j := by
 have k1 : ZaN l i = (l[i.toNat]'(by omega)).2.2.2.1 := by unfold ZaN; rw [Zaf _ _ _ (by omega)]
 have k2 : ZaN l j = (l[j.toNat]'(by omega)).2.2.2.1 := by unfold ZaN; rw [Zaf _ _ _ (by omega)]
 rw [k1, k2] at h
 rcases Int.lt_trichotomy i j with c | c | c
 ·exact absurd h (List.pairwise_iff_getElem.1 hN _ _ (by omega) (by omega) (by omega))
 ·exact c
 ·exact absurd h.symm (List.pairwise_iff_getElem.1 hN _ _ (by omega) (by omega) (by omega))
def Tel (q : Qry) (l : List Evt) (P : List Prs -> Prop) (out : List (List Prs)) (B : Nat) (y : Option ((Qry × (List Evt × List (List Prs))) × Unit)) : Prop :=
 ∃ out', y = some ((q, l, out ++ out'), ()) /\ (∀ m, m ∈ out' ↔ P m) /\ wN out' <= B
def ElemT (q : Qry) (l : List Evt) (k : Nat) : Prop :=
 ∀ a h m env f0 fr out, Rg q l a h m env f0 fr -> 2 * ((l.length : Int) - fr) + 2 <= k -> out.length + 2 * 3 ^ ((l.length : Int) - fr).toNat <= 1000000 -> Tel q l (FE q l a h m env f0 fr) out (2 * 3 ^ ((l.length : Int) - fr).toNat) (ZbK k ((q, l, out), a, h, m, env, f0, fr, ()))
def CrossT (q : Qry) (l : List Evt) (k : Nat) : Prop :=
 ∀ a h m env f0 fr out kk L, Rg q l a h m env f0 fr -> Nxt q a kk -> (∀ u : Int, u ∈ L ↔ a < u /\ u < kk) -> L.length <= 1000 -> 2 * ((l.length : Int) - fr) + 1 <= k -> out.length + 2 * 3 ^ ((l.length : Int) - fr).toNat <= 1000000 -> Tel q l (FC q l a kk m env f0 fr) out (3 ^ ((l.length : Int) - fr).toNat - 1) (ZbS k ((q, l, out), kk, L, m, env, f0, fr, ()))
theorem Ztb (hq : QGood q) (hl : l.length <= 8) (hE : ∀ x ∈ l, Zb2 x) (hN : l.Pairwise fun a b => a.2.2.2.1 ≠ b.2.2.2.1) (hT : ∀ x ∈ l, 0 <= x.2.2.1 /\ x.2.2.1 <= 15) {k : Nat} (ihE : ElemT q l k) {a h : Int} {m : List Prs} {env : List Bnd} {f0 fr : Int} (hR : Rg q l a h m env f0 fr) (hk : 2 * ((l.length : Int) - fr) <= k) (out c0 : List (List Prs))
  (hcl : wN c0 <= 2 * 3 ^ ((l.length : Int) - fr).toNat) (hc0 : ∀ mm ∈ c0, ∀ i, fr <= i -> i < l.length -> ¬ FM q l a h m env f0 i mm) (hb : out.length + 2 * 3 ^ ((l.length : Int) - fr).toNat <= 1000000) :
  ∃ out', Zdh (ZbK k) (ZbS k) (a, h, m, env, f0, fr, q.1, q.2.1, q.2.2, l, 0, 0, q.1.getD a.toNat Zac, out ++ c0, ()) = some (q.1, q.2.1, q.2.2, l, 0, 0, out ++ out', ()) /\ (∀ mm, mm ∈ out' ↔ (mm ∈ c0 \/ ∃ i, fr <= i /\ i < l.length /\ FM q l a h m env f0 i mm)) /\ wN out' + 1 <= wN c0 + 3 ^ ((l.length : Int) - fr).toNat := by
 obtain ⟨r1, r2, r3, r4, r5, r6, r7, r8, r9, r10, r11⟩ := id hR
 have hEl := hq.get a r1 r2
 suffices hh : ∃ z, Zdh (ZbK k) (ZbS k) (a, h, m, env, f0, fr, q.1, q.2.1, q.2.2, l, 0, 0, q.1.getD a.toNat Zac, out ++ c0, ()) = some z /\ ∃ out', z = (q.1, q.2.1, q.2.2, l, 0, 0, out ++ out', ()) /\ (∀ mm, mm ∈ out' ↔ (mm ∈ c0 \/ ∃ i, fr <= i /\ i < l.length /\ FM q l a h m env f0 i mm)) /\ wN out' + 1 <= wN c0 + 3 ^ ((l.length : Int) - fr).toNat by
  obtain ⟨z, hz, out', rfl, h⟩ := hh
  exact ⟨out', hz, h⟩
 refine Zaw (step := Zfk (ZbK k) (ZbS k))
  (fun y => ∃ (i : Int) (out' : List (List Prs)), y = (a, h, m, env, f0, i, q.1, q.2.1, q.2.2, l, 0, 0, q.1.getD a.toNat Zac, out ++ out', ()) /\ fr <= i /\ i <= l.length /\ (∀ mm, mm ∈ out' ↔ (mm ∈ c0 \/ ∃ j, fr <= j /\ j < i /\ FM q l a h m env f0 j mm)) /\ wN out' + 3 ^ ((l.length : Int) - i).toNat <= wN c0 + 3 ^ ((l.length : Int) - fr).toNat)
  (fun y => ((l.length : Int) - y.2.2.2.2.2.1).toNat) _ ?_ _ ⟨fr, c0, rfl, Int.le_refl _, r9, fun mm => ⟨.inl, fun h => h.elim id fun ⟨j, h1, h2, _⟩ => by omega⟩, Nat.le_refl _⟩
 rintro y ⟨i, out', rfl, g0, g1, g2, g3⟩
 have gl := wN_le out'
 unfold Zfk
 by_cases hi : i < (l.length : Int)
 ·have hw : IntKind.wrap .i64 (i + 1) = i + 1 := Go.PI.wrap_small (by omega) (by omega)
  have hwh : IntKind.wrap .i64 (h + 1) = h + 1 := Go.PI.wrap_small (by omega) (by omega)
  have hi0 : 0 <= i := by omega
  have hlt : i.toNat < l.length := by omega
  have hmem : l.getD i.toNat evZ ∈ l := by rw [Zaf _ _ _ hlt]; exact List.getElem_mem hlt
  have hxe : Zb2 (l.getD i.toNat evZ) := hE _ hmem
  have htm := hT _ hmem
  have hwt : IntKind.wrap .i64 ((l.getD i.toNat evZ).2.2.1 - f0) = (l.getD i.toNat evZ).2.2.1 - f0 := Go.PI.wrap_small (by omega) (by omega)
  have hp := p3s l.length i hi
  have hp2 := p3le l.length fr i g0
  have hp1 := p3 ((l.length : Int) - (i + 1)).toNat
  obtain ⟨b, hb20⟩ := ZeK (q.1.getD a.toNat Zac) hEl.1 hEl.2.2.2.2.2.1 hEl.2.2.2.2.2.2 (l.getD i.toNat evZ) hxe env (by omega) r7
  have nxt : ∀ o3 : List (List Prs), (∀ mm, mm ∈ o3 ↔ mm ∈ out' \/ FM q l a h m env f0 i mm) -> ∀ mm, mm ∈ o3 ↔ (mm ∈ c0 \/ ∃ j, fr <= j /\ j < i + 1 /\ FM q l a h m env f0 j mm) := by
   intro o3 h3 mm
   rw [h3, g2]
   constructor
   ·rintro ((h | ⟨j, j1, j2, j3⟩) | h)
    ·exact .inl h
    ·exact .inr ⟨j, j1, by omega, j3⟩
    ·exact .inr ⟨i, g0, by omega, h⟩
   ·rintro (h | ⟨j, j1, j2, j3⟩)
    ·exact .inl (.inl h)
    ·by_cases e : j = i
     ·subst e; exact .inr j3
     ·exact .inl (.inr ⟨j, j1, by omega, j3⟩)
  have gskip : (∀ mm, ¬ FM q l a h m env f0 i mm) -> BT (fun s : _ ⊕ _ => (∃ y, s = .inl y /\ (∃ (j : Int) (out' : List (List Prs)), y = (a, h, m, env, f0, j, q.1, q.2.1, q.2.2, l, (0 : Int), (0 : Int), q.1.getD a.toNat Zac, out ++ out', ()) /\ fr <= j /\ j <= l.length /\ (∀ mm, mm ∈ out' ↔ (mm ∈ c0 \/ ∃ j', fr <= j' /\ j' < j /\ FM q l a h m env f0 j' mm)) /\ wN out' + 3 ^ ((l.length : Int) - j).toNat <= wN c0 + 3 ^ ((l.length : Int) - fr).toNat) /\ ((l.length : Int) - y.2.2.2.2.2.1).toNat < ((l.length : Int) - i).toNat) \/ ∃ z, s = .inr z /\ ∃ out', z = (q.1, q.2.1, q.2.2, l, (0 : Int), (0 : Int), out ++ out', ()) /\ (∀ mm, mm ∈ out' ↔ (mm ∈ c0 \/ ∃ i, fr <= i /\ i < l.length /\ FM q l a h m env f0 i mm)) /\ wN out' + 1 <= wN c0 + 3 ^ ((l.length : Int) - fr).toNat)
    (.ret (.inl (a, h, m, env, f0, IntKind.wrap .i64 (i + 1), q.1, q.2.1, q.2.2, l, (0 : Int), (0 : Int), q.1.getD a.toNat Zac, out ++ out', ()))) := by
   intro hno
   refine BT.goes ⟨⟨i + 1, out', by rw [hw], by omega, by omega, nxt out' fun mm => ⟨.inl, fun h => h.elim id fun h => (hno mm h).elim⟩, by omega⟩, ?_⟩
   dsimp only
   rw [hw]
   omega
  have gin : ∀ env', env' = Zan (q.1.getD a.toNat Zac) env (l.getD i.toNat evZ) -> Zbn l i - f0 <= q.2.1 -> ZaO q l a i env -> ∃ o2, ZbK k ((q, l, out ++ out'), a, h + 1, m ++ [(a, (l.getD i.toNat evZ).2.2.2.1)], env', f0, i + 1, ()) = some ((q, l, out ++ (out' ++ o2)), ()) /\ (∀ mm, mm ∈ out' ++ o2 ↔ (mm ∈ c0 \/ ∃ j, fr <= j /\ j < i + 1 /\ FM q l a h m env f0 j mm)) /\ wN (out' ++ o2) + 3 ^ ((l.length : Int) - (i + 1)).toNat <= wN c0 + 3 ^ ((l.length : Int) - fr).toNat := by
   rintro env' rfl hwin hfit
   obtain ⟨o2, e1, e2, e3⟩ := ihE a (h + 1) _ _ f0 (i + 1) (out ++ out') (hR.more hE g0 hi a (h + 1) r1 r2 (by omega) (by omega) _) (by omega) (by rw [List.length_append]; omega)
   refine ⟨o2, by rw [e1, List.append_assoc], nxt _ fun mm => ?_, ?_⟩
   ·rw [List.mem_append, e2]
    exact ⟨fun h => h.imp id fun h => ⟨hwin, hfit, h⟩, fun h => h.imp id fun h => h.2.2⟩
   ·have := Zhz (a := out') (b := o2) fun mm hm hm2 => by
     have h2 := (e2 mm).1 hm2
     rcases (g2 mm).1 hm with hm | ⟨j, j0, j1, -, -, hm⟩
     ·exact hc0 mm hm i g0 hi ⟨hwin, hfit, h2⟩
     ·have := Ze8 hN (by omega) (by omega) (by omega) hi (Prod.mk.inj (hm.apart h2)).2
      omega
    omega
  refine BT.lt (decide_eq_true hi) (BT.yes (in2 hi0 hi) (BT.cond (fun hc => gskip ?_) (fun hc => BT.opt ⟨_, hb20, BT.cond (fun hbf => gskip ?_) (fun hbt => ?_)⟩)))
  ·intro mm hm
   have := of_decide_eq_true hc
   rw [hwt] at this
   have h5 : (l.getD i.toNat evZ).2.2.1 - f0 <= q.2.1 := hm.1
   omega
  ·intro mm hm
   have hbf : b = false := by simpa using hbf
   have := hm.2.1
   unfold ZaO at this
   rw [hb20, hbf] at this
   cases this
  have hwin : Zbn l i - f0 <= q.2.1 := by
   have := of_decide_eq_false hc
   rw [hwt] at this
   show (l.getD i.toNat evZ).2.2.1 - f0 <= q.2.1
   omega
  have hbt : b = true := by simpa using hbt
  subst hbt
  refine BT.cond (fun hm1 => ?_) (fun hm1 => ?_)
  ·have hm1 : (q.1.getD a.toNat Zac).2.2.2.2.1 = 1 := by simpa using hm1
   have e : Zan (q.1.getD a.toNat Zac) env (l.getD i.toNat evZ) = env ++ [((q.1.getD a.toNat Zac).1, l.getD i.toNat evZ)] := if_pos hm1
   obtain ⟨o2, e1, e2, e3⟩ := gin _ e.symm hwin hb20
   refine BT.yes (decide_eq_true ?_) (BT.yes (decide_eq_true ?_) (BT.yes (decide_eq_true ?_) (BT.yes (decide_eq_true ?_) (BT.opt ⟨_, by rw [hw, hwh]; exact e1, ?_⟩))))
   ·show (0 + env.length) * 88 <= 140737488355328
    omega
   ·show (env.length + 1) * 88 <= 140737488355328
    omega
   ·show (0 + m.length) * 16 <= 140737488355328
    omega
   ·show (m.length + 1) * 16 <= 140737488355328
    omega
   ·refine BT.goes ⟨⟨i + 1, out' ++ o2, by rw [hw], by omega, by omega, e2, e3⟩, ?_⟩
    dsimp only
    rw [hw]
    omega
  ·have hm1 : ¬ (q.1.getD a.toNat Zac).2.2.2.2.1 = 1 := by simpa using hm1
   have e : Zan (q.1.getD a.toNat Zac) env (l.getD i.toNat evZ) = env := if_neg hm1
   obtain ⟨o2, e1, e2, e3⟩ := gin _ e.symm hwin hb20
   refine BT.yes (decide_eq_true ?_) (BT.yes (decide_eq_true ?_) (BT.opt ⟨_, by rw [hw, hwh]; exact e1, ?_⟩))
   ·show (0 + m.length) * 16 <= 140737488355328
    omega
   ·show (m.length + 1) * 16 <= 140737488355328
    omega
   ·refine BT.goes ⟨⟨i + 1, out' ++ o2, by rw [hw], by omega, by omega, e2, e3⟩, ?_⟩
    dsimp only
    rw [hw]
    omega
 ·have hp := p3 ((l.length : Int) - i).toNat
  obtain rfl : i = l.length := by omega
  exact BT.ge (decide_eq_false hi) (BT.ends ⟨out', rfl, g2, by omega⟩)
end
end Go.Proofs.YtkbdofnbagmlfaaGreat
