/- Predicates of queries come to the same on both sides, whatever variables stand for. Queries that are made: their predicates come to the same on both sides; where elements must not be there. Lists in order: whatever they hold is kept. -/
import Derived.Test.YtkbdofnbagmlfaaGreatHj
import Derived.Test.YtkbdofnbagmlfaaGreatR3b
import Derived.Test.YtkbdofnbagmlfaaGreatHd
namespace Go.Proofs.YtkbdofnbagmlfaaGreat
open Go.PI Go
abbrev lX : ByteArray := { data := #[120] }
abbrev lS : ByteArray := { data := #[115] }
abbrev fdN (v f : ByteArray) : Nd := (2, (0, 0, ByteArray.empty, false), v, f)
def ZeQ (v : ByteArray) : Prop := v = { data := #[97] } \/ v = { data := #[98] } \/ v = { data := #[99] } \/ v = { data := #[101] }
theorem ZuX {v : ByteArray} (h : ZeQ v) : ZbE (fdN v lX) = true := by
 rcases h with rfl | rfl | rfl | rfl <;> exact Zf2 (by kernel_rfl)
theorem Zuf {v : ByteArray} (h : ZeQ v) : ZbE (fdN v lS) = true := by
 rcases h with rfl | rfl | rfl | rfl <;> exact Zf2 (by kernel_rfl)
def Zbw (e : Evt) : Prop := ∃ (k : Int) (key : ByteArray) (t sq n : Int) (s : ByteArray) (b : Bool), (k = 0 \/ k = 1 \/ k = 2) /\ Zab n /\ e = (typK k, key, t, sq, if k = 2 then [sV s, iV n, bV b] else [iV n, sV s])
def xOf (e : Evt) : Val := if bl e.1 = [67] then e.2.2.2.2.getD 1 zV else e.2.2.2.2.getD 0 zV
def sOf (e : Evt) : Val := if bl e.1 = [67] then e.2.2.2.2.getD 0 zV else e.2.2.2.2.getD 1 zV
theorem Zbw.x {e : Evt} (h : Zbw e) : getF (ZaJ, e, lX, ()) = some ((xOf e, true), ()) := by
 obtain ⟨k, key, t, sq, n, s, b, rfl | rfl | rfl, hn, rfl⟩ := h <;> kernel_rfl
theorem Zbw.s {e : Evt} (h : Zbw e) : getF (ZaJ, e, lS, ()) = some ((sOf e, true), ()) := by
 obtain ⟨k, key, t, sq, n, s, b, rfl | rfl | rfl, hn, rfl⟩ := h <;> kernel_rfl
theorem Zbw.xn {e : Evt} (h : Zbw e) : VN (xOf e) := by
 obtain ⟨k, key, t, sq, n, s, b, rfl | rfl | rfl, hn, rfl⟩ := h <;> exact .i n hn
theorem Zbw.sn {e : Evt} (h : Zbw e) : VN (sOf e) := by
 obtain ⟨k, key, t, sq, n, s, b, rfl | rfl | rfl, hn, rfl⟩ := h <;> exact .s s
theorem Zbw.px {e : Evt} (h : Zbw e) : ∃ i : Int, placeR (e, lX, ()) = some (i, ()) /\ 0 <= i /\ i < e.2.2.2.2.length /\ e.2.2.2.2.getD i.toNat zV = xOf e := by
 obtain ⟨k, key, t, sq, n, s, b, rfl | rfl | rfl, hn, rfl⟩ := h
 ·exact ⟨0, by kernel_rfl, by decide, by show (0 : Int) < ((2 : Nat) : Int); decide, rfl⟩
 ·exact ⟨0, by kernel_rfl, by decide, by show (0 : Int) < ((2 : Nat) : Int); decide, rfl⟩
 ·exact ⟨1, by kernel_rfl, by decide, by show (1 : Int) < ((3 : Nat) : Int); decide, rfl⟩
theorem Zbw.ps {e : Evt} (h : Zbw e) : ∃ i : Int, placeR (e, lS, ()) = some (i, ()) /\ 0 <= i /\ i < e.2.2.2.2.length /\ e.2.2.2.2.getD i.toNat zV = sOf e := by
 obtain ⟨k, key, t, sq, n, s, b, rfl | rfl | rfl, hn, rfl⟩ := h
 ·exact ⟨1, by kernel_rfl, by decide, by show (1 : Int) < ((2 : Nat) : Int); decide, rfl⟩
 ·exact ⟨1, by kernel_rfl, by decide, by show (1 : Int) < ((2 : Nat) : Int); decide, rfl⟩
 ·exact ⟨0, by kernel_rfl, by decide, by show (0 : Int) < ((3 : Nat) : Int); decide, rfl⟩
theorem ne2 : ¬ ((2 : Int) = 1) := by decide
def ZdT (env : List Bnd) (v : ByteArray) : Option Bnd := env.find? fun b => bl b.1 == bl v
def fOf (f : ByteArray) (e : Evt) : Val := if bl f = [120] then xOf e else sOf e
def LQ (env : List Bnd) (n : Nd) : Val × Bool := if n.1 = 1 then (n.2.1, true) else match ZdT env n.2.2.1 with
 | some b => (fOf n.2.2.2 b.2, true)
 | none => (zV, false)
abbrev bdZ : Bnd := (ByteArray.empty, ByteArray.empty, ByteArray.empty, 0, 0, [])
def Zdc (env : List Bnd) : Prop := ∀ b ∈ env, Zbw b.2
theorem ZuD (env : List Bnd) (hx : env.length <= 1000) (n : Nd) : ∃ i : Int, idxBnd (env, n, ()) = some (i, ()) /\ ((i = -1 /\ ZdT env n.2.2.1 = none) \/ (0 <= i /\ i < env.length /\ ZdT env n.2.2.1 = some (env.getD i.toNat bdZ))) := by
 unfold idxBnd ZjH
 obtain ⟨z, hz, hq⟩ : ∃ z, idxBnd_w0 (env, (n, ()), (env.length : Int), 0, ()) = some z /\ ((∃ i : Int, z = .inl (i, ()) /\ 0 <= i /\ i < env.length /\ ZdT env n.2.2.1 = some (env.getD i.toNat bdZ)) \/ (z = .inr () /\ ZdT env n.2.2.1 = none)) := by
  refine Zaw (step := Zdj) (fun y => ∃ i : Int, y = (env, (n, ()), (env.length : Int), i, ()) /\ 0 <= i /\ i <= env.length /\ ZdT env n.2.2.1 = ZdT (env.drop i.toNat) n.2.2.1) (fun y => ((env.length : Int) - y.2.2.2.1).toNat) _ ?_ _ ⟨0, rfl, Int.le_refl 0, by omega, rfl⟩
  rintro y ⟨i, rfl, h0, h1, h2⟩
  unfold Zdj
  by_cases hi : i < (env.length : Int)
  ·have hw : IntKind.wrap .i64 (i + 1) = i + 1 := Go.PI.wrap_small (by omega) (by omega)
   rw [ZbO env i bdZ h0 hi] at h2
   refine BT.lt (decide_eq_true hi) (BT.yes (in2 h0 hi) (BT.opt ⟨_, rfl, BT.cond (fun hb => BT.ends (.inl ⟨i, rfl, h0, hi, ?_⟩)) (fun hb => BT.goes ⟨⟨i + 1, by rw [hw], by omega, by omega, ?_⟩, ?_⟩)⟩))
   ·rw [h2]
    show List.find? _ _ = _
    rw [List.find?_cons, show (bl (env.getD i.toNat bdZ).1 == bl n.2.2.1) = true from hb]
   ·rw [h2]
    show List.find? _ _ = _
    rw [List.find?_cons, show (bl (env.getD i.toNat bdZ).1 == bl n.2.2.1) = false from hb]
    rfl
   ·dsimp only
    rw [hw]
    omega
  ·refine BT.ge (decide_eq_false hi) (BT.ends (.inr ⟨rfl, ?_⟩))
   rw [h2, List.drop_eq_nil_of_le (by omega)]
   rfl
 simp only [Br.run, hz]
 rcases hq with ⟨i, rfl, k⟩ | ⟨rfl, k⟩
 ·exact ⟨i, rfl, .inr k⟩
 ·exact ⟨-1, rfl, .inl ⟨rfl, k⟩⟩
theorem Zbw.f {e : Evt} (h : Zbw e) {f : ByteArray} (hf : f = lX \/ f = lS) : getF (ZaJ, e, f, ()) = some ((fOf f e, true), ()) := by
 rcases hf with rfl | rfl
 ·exact h.x
 ·exact h.s
theorem Zbw.p {e : Evt} (h : Zbw e) {f : ByteArray} (hf : f = lX \/ f = lS) : ∃ i : Int, placeR (e, f, ()) = some (i, ()) /\ 0 <= i /\ i < e.2.2.2.2.length /\ e.2.2.2.2.getD i.toNat zV = fOf f e := by
 rcases hf with rfl | rfl
 ·exact h.px
 ·exact h.ps
theorem Zbw.n {e : Evt} (h : Zbw e) {f : ByteArray} (hf : f = lX \/ f = lS) : VN (fOf f e) := by
 rcases hf with rfl | rfl
 ·exact h.xn
 ·exact h.sn
theorem Zjw {env : List Bnd} {v : ByteArray} {b : Bnd} (h : ZdT env v = some b) : b ∈ env := List.mem_of_find?_eq_some h
theorem ZuK {env : List Bnd} (he : env.length <= 1000) (hE : Zdc env) {v f : ByteArray} (hf : f = lX \/ f = lS) : fieldV (ZaJ, env, fdN v f, ()) = some (LQ env (fdN v f), ()) := by
 obtain ⟨i, hi, ⟨rfl, hn⟩ | ⟨h0, h1, hs⟩⟩ := ZuD env he (fdN v f)
 ·unfold fieldV Zhf
  have hL : LQ env (fdN v f) = (zV, false) := by
   unfold LQ
   rw [if_neg ne2, hn]
  simp only [Br.run, hi, hL]
  rfl
 ·have hm := hE _ (Zjw hs)
  have hL : LQ env (fdN v f) = (fOf f (env.getD i.toNat bdZ).2, true) := by
   unfold LQ
   rw [if_neg ne2, hs]
  rw [hL]
  unfold fieldV Zhf
  have hg := hm.f hf
  have hd : decide (i < 0) = false := decide_eq_false (by omega)
  simp only [Br.run, hi, hd, cond_false, in2 h0 h1, cond_true]
  show (Br.opt (getF (ZaJ, (env.getD i.toNat bdZ).snd, f, ())) fun y6 => Br.ret ((y6.fst.fst, y6.fst.snd), ())).run = _
  simp only [Br.run, hg]
theorem ZqU {env : List Bnd} (he : env.length <= 1000) (hE : Zdc env) {v f : ByteArray} (hf : f = lX \/ f = lS) (a : Int) :
  ∃ z, evalR_w0 (env, a, 0, zV, fdN v f, ()) = some z /\ ((z = .inl (true, a, (LQ env (fdN v f)).1, ()) /\ (LQ env (fdN v f)).2 = true) \/ (z = .inr (a, zV, ()) /\ (LQ env (fdN v f)).2 = false)) := by
 refine Zaw (step := Zdf) (fun y => ∃ i : Int, y = (env, a, i, zV, fdN v f, ()) /\ 0 <= i /\ i <= env.length /\ ZdT env v = ZdT (env.drop i.toNat) v) (fun y => ((env.length : Int) - y.2.2.1).toNat) _ ?_ _ ⟨0, rfl, Int.le_refl 0, by omega, rfl⟩
 rintro y ⟨i, rfl, h0, h1, h2⟩
 unfold Zdf
 by_cases hi : i < (env.length : Int)
 ·have hw : IntKind.wrap .i64 (i + 1) = i + 1 := Go.PI.wrap_small (by omega) (by omega)
  rw [ZbO env i bdZ h0 hi] at h2
  refine BT.lt (decide_eq_true hi) (BT.yes (in2 h0 hi) (BT.cond (fun hb => ?_) (fun hb => BT.goes ⟨⟨i + 1, by rw [hw], by omega, by omega, ?_⟩, ?_⟩)))
  ·have hs : ZdT env v = some (env.getD i.toNat bdZ) := by
    rw [h2]
    show List.find? _ _ = _
    rw [List.find?_cons, show (bl (env.getD i.toNat bdZ).1 == bl v) = true from hb]
   have hm := hE _ (Zjw hs)
   have hL : LQ env (fdN v f) = (fOf f (env.getD i.toNat bdZ).2, true) := by
    unfold LQ
    rw [if_neg ne2, show ZdT env (fdN v f).2.2.1 = _ from hs]
   obtain ⟨j, p1, p2, p3, p4⟩ := hm.p hf
   refine BT.yes (in2 h0 hi) (BT.opt ⟨_, p1, BT.ge (decide_eq_false (by show ¬ j < 0; omega)) (BT.yes (in2 h0 hi) (BT.yes (in2 p2 p3) (BT.ends (.inl ⟨?_, by rw [hL]⟩))))⟩)
   rw [hL]
   show Sum.inl (true, a, List.getD _ _ _, ()) = _
   rw [show List.getD (Prod.snd (Prod.snd (Prod.snd (Prod.snd (Prod.snd (env.getD i.toNat bdZ)))))) j.toNat zV = _ from p4]
  ·rw [h2]
   show List.find? _ _ = _
   rw [List.find?_cons, show (bl (env.getD i.toNat bdZ).1 == bl v) = false from hb]
   rfl
  ·dsimp only
   rw [hw]
   omega
 ·refine BT.ge (decide_eq_false hi) (BT.ends (.inr ⟨rfl, ?_⟩))
  rw [List.drop_eq_nil_of_le (by omega)] at h2
  unfold LQ
  rw [if_neg ne2, show ZdT env (fdN v f).2.2.1 = none from h2]
theorem ZcQ {env : List Bnd} (he : env.length <= 1000) (hE : Zdc env) {v f : ByteArray} (hv : ZeQ v) (hf : f = lX \/ f = lS) : LeafOk ZaJ env (LQ env) (fdN v f) where
 ok := by
  rcases hf with rfl | rfl
  ·exact ZuX hv
  ·exact Zuf hv
 op := .inr rfl
 vn h := by
  unfold LQ at h ⊢
  rw [if_neg ne2] at h ⊢
  cases hb : ZdT env (fdN v f).2.2.1 with
  | none => rw [hb] at h; cases h
  | some b => exact (hE b (Zjw hb)).n hf
 c h := by cases h
 f _ := ⟨_, ZuK he hE hf, fun _ => rfl⟩
 r _ a := by
  obtain ⟨z, hz, ⟨rfl, h2⟩ | ⟨rfl, h2⟩⟩ := ZqU he hE (v := v) hf a
  ·exact ⟨_, hz, .inl ⟨_, by rw [h2], fun _ => rfl⟩⟩
  ·exact ⟨_, hz, .inr ⟨_, rfl, h2⟩⟩
theorem Zgk {env : List Bnd} {v : Val} (h : VC v) : LeafOk ZaJ env (LQ env) (nC v) :=
 { ok := nodeOk_C h, op := .inl rfl, vn := fun _ => h.1, c := fun _ => rfl, f := fun h => by simp [nC] at h, r := fun h => by simp [nC] at h }
def Zda (p : List Nd) : Prop := ∀ env : List Bnd, env.length <= 60 -> Zdc env -> ∃ b, holdsF (ZaJ, p, env, ()) = some (b, ()) /\ holdsR (p, env, ()) = some (b, ())
theorem Zt7 : Zda [] := fun _ _ _ => ⟨true, rfl, rfl⟩
theorem Zc3 (t : Tm) (h64 : t.flat.length <= 64) (h : ∀ env : List Bnd, env.length <= 60 -> Zdc env -> TmOk ZaJ env (LQ env) t) : Zda t.flat := by
 intro env he hE
 have ht := h env he hE
 have h1 := Zup (fv_tot env (by omega)) ht h64
 obtain ⟨v, h2, h3⟩ := ZqX ht h64
 have hne : ((t.flat.length : Int) == 0) = false := by
  have := Zfp t
  rw [beq_eq_false_iff_ne]; omega
 unfold holdsF ZjQ holdsR Zjx truthV ZcR
 simp only [Br.run, hne, cond_false, h1, h2]
 by_cases c : (evT (LQ env) t).2 = true
 ·have hv := h3 c
  subst hv
  have hn := Zer ht c
  generalize hx : (evT (LQ env) t).1 = x at hn ⊢
  simp only [c, ↓reduceIte, cond_true]
  cases hn with
  | i n _ => exact ⟨false, rfl, rfl⟩
  | s s => exact ⟨false, rfl, rfl⟩
  | b b => cases b <;> exact ⟨_, rfl, rfl⟩
 ·have c' : (evT (LQ env) t).2 = false := by simpa using c
  simp only [c', ↓reduceIte, Bool.false_eq_true, cond_false]
  exact ⟨false, rfl, rfl⟩
theorem vc_i {n : Int} (h : 0 <= n) (h2 : n <= 1000) : VC (iV n) := ⟨.i n ⟨by omega, by omega⟩, by show n ≠ _; omega, by show 0 <= 64; omega⟩
theorem vc_s (s : ByteArray) (h : s.size <= 64) : VC (sV s) := ⟨.s s, by show (0 : Int) ≠ _; decide, h⟩
def OpC (op : Int) : Prop := 7 <= op /\ op <= 12
theorem OpC.bin {op : Int} (h : OpC op) : 4 <= op /\ op <= 15 /\ op ≠ 13 := by unfold OpC at h; omega
theorem OpC.node {op : Int} (h : OpC op) : ZbE (nO op) = true := by unfold OpC at h; exact Zdg (by omega) (by omega)
section
variable {v o : ByteArray} (hv : ZeQ v) (ho : ZeQ o) {n op : Int} (hn : 0 <= n /\ n <= 3) (hop : OpC op)
include hv hop hn
theorem hs1 : Zda [fdN v lX, nC (iV n), nO op] := Zc3 (.bin (nO op) (.leaf (fdN v lX)) (.leaf (nC (iV n)))) (of_decide_eq_true rfl) fun env he hE =>
 ⟨hop.node, hop.bin, ZcQ (by omega) hE hv (.inl rfl), Zgk (vc_i hn.1 (by omega))⟩
theorem hs3 : Zda [fdN v lX, nC (iV n), nO op, nO 13] := Zc3 (.un (nO 13) (.bin (nO op) (.leaf (fdN v lX)) (.leaf (nC (iV n))))) (of_decide_eq_true rfl) fun env he hE =>
 ⟨Zdg (by decide) (by decide), .inr rfl, hop.node, hop.bin, ZcQ (by omega) hE hv (.inl rfl), Zgk (vc_i hn.1 (by omega))⟩
include ho
theorem hs5 : Zda [fdN v lS, fdN o lS, nO 7, fdN v lX, nC (iV n), nO op, nO 15] := Zc3 (.bin (nO 15) (.bin (nO 7) (.leaf (fdN v lS)) (.leaf (fdN o lS))) (.bin (nO op) (.leaf (fdN v lX)) (.leaf (nC (iV n))))) (of_decide_eq_true rfl) fun env he hE =>
 ⟨Zdg (by decide) (by decide), by decide, ⟨Zdg (by decide) (by decide), by decide, ZcQ (by omega) hE hv (.inr rfl), ZcQ (by omega) hE ho (.inr rfl)⟩, hop.node, hop.bin, ZcQ (by omega) hE hv (.inl rfl), Zgk (vc_i hn.1 (by omega))⟩
omit hn
theorem hs4 : Zda [fdN v lX, nC (iV 1), nO 4, fdN o lX, nO op] := Zc3 (.bin (nO op) (.bin (nO 4) (.leaf (fdN v lX)) (.leaf (nC (iV 1)))) (.leaf (fdN o lX))) (of_decide_eq_true rfl) fun env he hE =>
 ⟨hop.node, hop.bin, ⟨Zdg (by decide) (by decide), by decide, ZcQ (by omega) hE hv (.inl rfl), Zgk (vc_i (by decide) (by decide))⟩, ZcQ (by omega) hE ho (.inl rfl)⟩
theorem hs6 : Zda [fdN v lX, fdN o lX, nO op, fdN o lS, nC (sV { data := #[118] }), nO 8, nO 14] := Zc3 (.bin (nO 14) (.bin (nO op) (.leaf (fdN v lX)) (.leaf (fdN o lX))) (.bin (nO 8) (.leaf (fdN o lS)) (.leaf (nC (sV { data := #[118] }))))) (of_decide_eq_true rfl) fun env he hE =>
 ⟨Zdg (by decide) (by decide), by decide, ⟨hop.node, hop.bin, ZcQ (by omega) hE hv (.inl rfl), ZcQ (by omega) hE ho (.inl rfl)⟩, Zdg (by decide) (by decide), by decide, ZcQ (by omega) hE ho (.inr rfl), Zgk (vc_s _ (by decide))⟩
omit ho
theorem hs2 : Zda [fdN v lS, nC (sV { data := #[117] }), nO op] := Zc3 (.bin (nO op) (.leaf (fdN v lS)) (.leaf (nC (sV { data := #[117] })))) (of_decide_eq_true rfl) fun env he hE =>
 ⟨hop.node, hop.bin, ZcQ (by omega) hE hv (.inr rfl), Zgk (vc_s _ (by decide))⟩
end
end Go.Proofs.YtkbdofnbagmlfaaGreat

namespace Go.Proofs.YtkbdofnbagmlfaaGreat
open Go.PI Go
theorem Zg6 (y : Int) (k : Nat) (h : 0 <= y) : 0 <= Int.fdiv y (2 ^ k) := by
 rw [Int.fdiv_eq_ediv_of_nonneg _ (Int.le_of_lt (Int.pow_pos (by decide)))]
 exact Int.ediv_nonneg h (Int.le_of_lt (Int.pow_pos (by decide)))
theorem Zpv {z : Int} (h0 : 0 <= z) (h1 : z < 6) : OpC (IntKind.wrap .i64 (7 + z)) := by
 rw [Go.PI.wrap_small (by omega) (by omega)]
 unfold OpC; omega
theorem Zls (x : Int) (v o : ByteArray) (hx : 0 <= x) (hv : ZeQ v) (ho : ZeQ o) : ∃ l, predQ (x, v, o, ()) = some (l, ()) /\ l.length <= 1000 /\ ZfU l /\ Zda l := by
 obtain ⟨l, h1, h2, h3⟩ := Ztz x v o
 refine ⟨l, h1, h2, h3, ?_⟩
 unfold predQ ZlZ fieldQ Zjs numQ Zqc at h1
 try unfold zAn at h1
 try unfold zSh at h1
 simp only [Br.run, cond_false, cond_eq_ite, Bool.false_eq_true, ↓reduceIte] at h1
 have hm := ZbM (Int.fdiv x (2 ^ min (Int.toNat 4) (IntKind.bits IntKind.i64))) 3 (by decide) (by decide)
 generalize IntKind.wrap IntKind.i64 (↑(BitVec.toNat (BitVec.ofInt (IntKind.bits IntKind.i64) (Int.fdiv x (2 ^ min (Int.toNat 4) (IntKind.bits IntKind.i64))) &&& BitVec.ofInt (IntKind.bits IntKind.i64) 3)) : Int) = m at hm h1
 have hs := ZbM (Int.fdiv x (2 ^ min (Int.toNat 6) (IntKind.bits IntKind.i64))) 1 (by decide) (by decide)
 generalize IntKind.wrap IntKind.i64 (↑(BitVec.toNat (BitVec.ofInt (IntKind.bits IntKind.i64) (Int.fdiv x (2 ^ min (Int.toNat 6) (IntKind.bits IntKind.i64))) &&& BitVec.ofInt (IntKind.bits IntKind.i64) 1)) : Int) = s at hs h1
 have ht0 : 0 <= Int.tmod (Int.fdiv x (2 ^ min (Int.toNat 6) (IntKind.bits IntKind.i64))) 6 := Int.tmod_nonneg 6 (Zg6 _ _ hx)
 have ht1 : Int.tmod (Int.fdiv x (2 ^ min (Int.toNat 6) (IntKind.bits IntKind.i64))) 6 < 6 := Int.tmod_lt_of_pos _ (by decide)
 generalize Int.tmod (Int.fdiv x (2 ^ min (Int.toNat 6) (IntKind.bits IntKind.i64))) 6 = t at ht0 ht1 h1
 have hop := Zpv ht0 ht1
 have hop2 : OpC (IntKind.wrap .i64 (7 + s)) := Zpv hs.1 (by omega)
 generalize IntKind.wrap .i64 (7 + t) = op at hop h1
 generalize IntKind.wrap .i64 (7 + s) = op2 at hop2 h1
 have hm' : 0 <= m /\ m <= 3 := by omega
 split at h1
 ·cases h1; exact Zt7
 split at h1
 ·cases h1; exact hs1 hv hm' hop
 split at h1
 ·cases h1; exact hs2 hv hop2
 split at h1
 ·cases h1; exact hs3 hv hm' hop
 split at h1
 ·cases h1; exact hs4 hv ho hop
 split at h1
 ·cases h1; exact hs5 hv ho hm' hop
 ·cases h1; exact hs6 hv ho hop
def EOk3 (n i : Int) (e : Elm) : Prop := EOk i e /\ Zda e.2.2.2.2.2 /\ (e.2.2.1 = true -> e.2.2.2.1 = 1 /\ e.2.2.2.2.1 = 1 /\ i + 1 < n)
theorem ZgA (n i : Int) (v : ByteArray) (ts : List ByteArray) (neg : Bool) (p : List Nd) (ht : ts.length <= 1000) (hp : p.length <= 1000 /\ ZfU p /\ Zda p) (hn : neg = true -> 0 < i /\ i + 1 < n) : EOk3 n i (v, ts, neg, 1, 1, p) :=
 ⟨eok_one i v ts neg p ht ⟨hp.1, hp.2.1⟩ fun h => (hn h).1, hp.2.2, fun h => ⟨rfl, rfl, (hn h).2⟩⟩
theorem ZfX (n i : Int) (v : ByteArray) (ts : List ByteArray) (neg : Bool) (p : List Nd) (a b : Int) (ht : ts.length <= 1000) (hp : p.length <= 1000 /\ ZfU p /\ Zda p) (hn : neg = true -> False) :
  EOk3 n i (v, ts, neg, IntKind.wrap .i64 (IntKind.wrap .i64 (↑(BitVec.toNat (BitVec.ofInt (IntKind.bits .i64) a &&& BitVec.ofInt (IntKind.bits .i64) 1)) : Int) + 1), IntKind.wrap .i64 (IntKind.wrap .i64 (IntKind.wrap .i64 (↑(BitVec.toNat (BitVec.ofInt (IntKind.bits .i64) a &&& BitVec.ofInt (IntKind.bits .i64) 1)) : Int) + 1) + IntKind.wrap .i64 (↑(BitVec.toNat (BitVec.ofInt (IntKind.bits .i64) b &&& BitVec.ofInt (IntKind.bits .i64) 1)) : Int)), p) :=
 ⟨eok_some i v ts neg p a b ht ⟨hp.1, hp.2.1⟩ fun h => (hn h).elim, hp.2.2, fun h => (hn h).elim⟩
theorem Zkq {x : Bool} (h : x = true) (k : (!x) = true) : False := by subst h; cases k
theorem nmGet {i : Int} (h0 : 0 <= i) (h4 : i < 4) : ZeQ (List.getD [({ data := #[97] } : ByteArray), { data := #[98] }, { data := #[99] }, { data := #[101] }] (Int.toNat i) ByteArray.empty) := by
 have : i = 0 \/ i = 1 \/ i = 2 \/ i = 3 := by omega
 rcases this with rfl | rfl | rfl | rfl
 ·exact .inl rfl
 ·exact .inr (.inl rfl)
 ·exact .inr (.inr (.inl rfl))
 ·exact .inr (.inr (.inr rfl))
theorem ZrT {i n : Int} (h : decide (i < n - 1) = true) : i + 1 < n := by
 have := of_decide_eq_true h
 omega
set_option maxHeartbeats 4000000 in
set_option maxRecDepth 10000 in
theorem ZpN (p : List Int) (n i c1 c2 : Int) (acc : List Elm) (h0 : 0 <= i) (h1 : i < n) (hn : n <= 4) (ha : (acc.length : Int) = i) :
  BT (fun y => ∃ e : Elm, y = .inl (p, n, i + 1, c1, c2, acc ++ [e], ()) /\ EOk3 n i e) (Zdu (p, n, i, c1, c2, acc, ())) := by
 have hw : IntKind.wrap .i64 (i + 1) = i + 1 := Go.PI.wrap_small (by omega) (by omega)
 have hwn : IntKind.wrap .i64 (n - 1) = n - 1 := Go.PI.wrap_small (by omega) (by omega)
 have hw37 : IntKind.wrap .i64 (i * 37) = i * 37 := Go.PI.wrap_small (by omega) (by omega)
 have hx := ZbM (List.getD p (Int.toNat (i + 1)) 0) 16777215 (by decide) (by decide)
 unfold Zdu
 try unfold zAn
 try unfold zSh
 dsimp only
 rw [hw, hw37, hwn]
 generalize IntKind.wrap IntKind.i64 (↑(BitVec.toNat (BitVec.ofInt (IntKind.bits IntKind.i64) (List.getD p (Int.toNat (i + 1)) 0) &&& BitVec.ofInt (IntKind.bits IntKind.i64) 16777215)) : Int) = x at hx ⊢
 obtain ⟨tx, htx, ltx⟩ := Zk4 x hx.1
 obtain ⟨ty, hty, lty⟩ := Zk4 (i * 37) (by omega)
 have bnd : (acc.length + 1) * 88 <= 140737488355328 := by omega
 have hv4 : (decide (0 <= i) && decide (i < (4 : Int))) = true := by simp; omega
 have h4 : i < 4 := by omega
 have hna : ZeQ { data := #[97] } := .inl rfl
 have hpx := fun o ho => Zls (Int.fdiv x (2 ^ min (Int.toNat 10) (IntKind.bits .i64))) (List.getD [({ data := #[97] } : ByteArray), { data := #[98] }, { data := #[99] }, { data := #[101] }] (Int.toNat i) ByteArray.empty) o (Zg6 _ _ hx.1) (nmGet h0 h4) ho
 have hpi := fun o ho => Zls (Int.fdiv (i * 37) (2 ^ min (Int.toNat 10) (IntKind.bits .i64))) (List.getD [({ data := #[97] } : ByteArray), { data := #[98] }, { data := #[99] }, { data := #[101] }] (Int.toNat i) ByteArray.empty) o (Zg6 _ _ (by omega)) (nmGet h0 h4) ho
 rw [show (decide (i < n)) = true from decide_eq_true h1]
 refine BT.cond (fun _ => ?_) (fun h => by cases h)
 refine BT.cond (fun hlt => ?_) (fun _ => ?_)
 ·refine BT.yes (by simp only [decide_eq_true_eq] at hlt; simp; omega) (BT.opt ⟨_, Zqf, ?_⟩)
  refine BT.yes hv4 (BT.opt ⟨_, htx, ?_⟩)
  repeat' first
   | exact BT.ret ⟨_, rfl, ZgA _ _ _ _ _ _ ltx (by assumption) (fun h => by cases h)⟩
   | exact BT.ret ⟨_, rfl, ZgA _ _ _ _ _ _ ltx (by assumption) (fun _ => ⟨of_decide_eq_true ‹decide (i > 0) = true›, ZrT ‹decide (i < n - 1) = true›⟩)⟩
   | exact BT.ret ⟨_, rfl, ZfX _ _ _ _ _ _ _ _ ltx (by assumption) (fun h => by cases h)⟩
   | exact BT.ret ⟨_, rfl, ZfX _ _ _ _ _ _ _ _ ltx (by assumption) (fun h => Zkq h (by assumption))⟩
   | with_reducible refine BT.fls ?_
   | (with_reducible refine BT.yes ?_ ?_; exact decide_eq_true bnd)
   | (with_reducible refine BT.yes ?_ ?_; (simp only [beq_eq_false_iff_ne] at *; simp; omega))
   | (with_reducible refine BT.opt ?_; refine (hpx _ (nmGet h0 h4)).elim fun l hl => ⟨_, hl.1, ?_⟩; have hll := hl.2; dsimp only)
   | (with_reducible refine BT.opt ?_; refine (hpx { data := #[97] } hna).elim fun l hl => ⟨_, hl.1, ?_⟩; have hll := hl.2; dsimp only)
   | (with_reducible refine BT.cond (fun _ => ?_) (fun _ => ?_))
 ·refine BT.opt ⟨_, Zqf, ?_⟩
  refine BT.yes hv4 (BT.opt ⟨_, hty, ?_⟩)
  repeat' first
   | exact BT.ret ⟨_, rfl, ZgA _ _ _ _ _ _ lty (by assumption) (fun h => by cases h)⟩
   | exact BT.ret ⟨_, rfl, ZgA _ _ _ _ _ _ lty (by assumption) (fun _ => ⟨of_decide_eq_true ‹decide (i > 0) = true›, ZrT ‹decide (i < n - 1) = true›⟩)⟩
   | exact BT.ret ⟨_, rfl, ZfX _ _ _ _ _ _ _ _ lty (by assumption) (fun h => by cases h)⟩
   | exact BT.ret ⟨_, rfl, ZfX _ _ _ _ _ _ _ _ lty (by assumption) (fun h => Zkq h (by assumption))⟩
   | with_reducible refine BT.fls ?_
   | (with_reducible refine BT.yes ?_ ?_; exact decide_eq_true bnd)
   | (with_reducible refine BT.yes ?_ ?_; (simp only [beq_eq_false_iff_ne] at *; simp; omega))
   | (with_reducible refine BT.opt ?_; refine (hpi _ (nmGet h0 h4)).elim fun l hl => ⟨_, hl.1, ?_⟩; have hll := hl.2; dsimp only)
   | (with_reducible refine BT.opt ?_; refine (hpi { data := #[97] } hna).elim fun l hl => ⟨_, hl.1, ?_⟩; have hll := hl.2; dsimp only)
   | (with_reducible refine BT.cond (fun _ => ?_) (fun _ => ?_))
def ZfA (n : Int) (l : List Elm) : Prop := ∀ (k : Nat) e, l[k]? = some e -> EOk3 n k e
theorem ZfA.snoc {n : Int} {l : List Elm} (h : ZfA n l) {e : Elm} (he : EOk3 n (l.length : Int) e) : ZfA n (l ++ [e]) := by
 intro k u hu
 rcases Nat.lt_or_ge k l.length with hk | hk
 ·rw [List.getElem?_append_left hk] at hu
  exact h k u hu
 ·rw [List.getElem?_append_right hk] at hu
  have : k = l.length := by
   have := (List.getElem?_eq_some_iff.1 hu).1
   simp at this
   omega
  subst this
  rw [Nat.sub_self] at hu
  obtain rfl : e = u := by simpa using hu
  exact he
theorem Zhs (p : List Int) (n c1 c2 : Int) (hn : n <= 4) (hn1 : 1 <= n) : ∃ l : List Elm, queryQ_w0 (p, n, 0, c1, c2, [], ()) = some (c1, c2, l, ()) /\ (l.length : Int) = n /\ ZfA n l := by
 obtain ⟨z, hz, l, rfl, h1, h2⟩ : ∃ z, queryQ_w0 (p, n, 0, c1, c2, [], ()) = some z /\ ∃ l : List Elm, z = (c1, c2, l, ()) /\ (l.length : Int) = n /\ ZfA n l := by
  refine Zao (step := fun x => (Zdu x).run) (Q := fun _ z => ∃ l : List Elm, z = (c1, c2, l, ()) /\ (l.length : Int) = n /\ ZfA n l)
   (fun y => y.1 = p /\ y.2.1 = n /\ 0 <= y.2.2.1 /\ y.2.2.1 <= n /\ y.2.2.2.1 = c1 /\ y.2.2.2.2.1 = c2 /\ (y.2.2.2.2.2.1.length : Int) = y.2.2.1 /\ ZfA n y.2.2.2.2.2.1) (fun y => (n - y.2.2.1).toNat) ?_ _ ⟨rfl, rfl, by dsimp only; omega, by dsimp only; omega, rfl, rfl, by simp, fun k e h => by simp at h⟩
  rintro ⟨p', n', i, d1, d2, acc, ⟨⟩⟩ hx
  dsimp only at hx ⊢
  obtain ⟨rfl, rfl, h0, h1, rfl, rfl, h2, h3⟩ := hx
  by_cases hi : i < n'
  ·obtain ⟨y, hy, e, rfl, he⟩ := ZpN p' n' i d1 d2 acc h0 hi hn h2
   refine .inl ⟨_, hy, ?_, ?_, fun z hz => hz⟩
   ·refine ⟨rfl, rfl, by dsimp only; omega, by dsimp only; omega, rfl, rfl, ?_, h3.snoc (by rw [h2]; exact he)⟩
    show (((acc ++ [e]).length : Nat) : Int) = i + 1
    rw [List.length_append, List.length_singleton]; omega
   ·dsimp only; omega
  ·refine .inr ⟨(d1, d2, acc, ()), ?_, acc, rfl, by omega, h3⟩
   unfold Zdu
   try unfold zAn
   try unfold zSh
   dsimp only
   rw [show decide (i < n') = false from decide_eq_false hi]
   rfl
 exact ⟨l, hz, h1, h2⟩
structure QMk (q : Qry) : Prop where
 es : ZfA (q.1.length : Int) q.1
 lo : 1 <= q.1.length
 hi : q.1.length <= 4
 w0 : 1 <= q.2.1
 w1 : q.2.1 <= 16
theorem Ztq (p : List Int) : ∃ q : Qry, queryQ (p, ()) = some (q, ()) /\ QMk q := by
 unfold queryQ Zpb
 try unfold zAn
 try unfold zSh
 dsimp only
 have hx := ZbM (List.getD p (Int.toNat 0) 0) 16777215 (by decide) (by decide)
 generalize IntKind.wrap IntKind.i64 (↑(BitVec.toNat (BitVec.ofInt (IntKind.bits IntKind.i64) (List.getD p (Int.toNat 0) 0) &&& BitVec.ofInt (IntKind.bits IntKind.i64) 16777215)) : Int) = x at hx ⊢
 have h3 := ZbM x 3 (by decide) (by decide)
 generalize IntKind.wrap IntKind.i64 (↑(BitVec.toNat (BitVec.ofInt (IntKind.bits IntKind.i64) x &&& BitVec.ofInt (IntKind.bits IntKind.i64) 3)) : Int) = m at h3 ⊢
 have h6 := ZbM (Int.fdiv x (2 ^ min (Int.toNat 6) (IntKind.bits IntKind.i64))) 3 (by decide) (by decide)
 generalize IntKind.wrap IntKind.i64 (↑(BitVec.toNat (BitVec.ofInt (IntKind.bits IntKind.i64) (Int.fdiv x (2 ^ min (Int.toNat 6) (IntKind.bits IntKind.i64))) &&& BitVec.ofInt (IntKind.bits IntKind.i64) 3)) : Int) = c at h6 ⊢
 have hwi := ZbM (Int.fdiv x (2 ^ min (Int.toNat 2) (IntKind.bits IntKind.i64))) 15 (by decide) (by decide)
 generalize IntKind.wrap IntKind.i64 (↑(BitVec.toNat (BitVec.ofInt (IntKind.bits IntKind.i64) (Int.fdiv x (2 ^ min (Int.toNat 2) (IntKind.bits IntKind.i64))) &&& BitVec.ofInt (IntKind.bits IntKind.i64) 15)) : Int) = w at hwi ⊢
 have hw : IntKind.wrap .i64 (m + 1) = m + 1 := Go.PI.wrap_small (by omega) (by omega)
 have hww : IntKind.wrap .i64 (w + 1) = w + 1 := Go.PI.wrap_small (by omega) (by omega)
 rw [hw]
 try rw [hww]
 suffices h : BT (fun y : Qry × Unit => QMk y.1) _ by
  obtain ⟨⟨q, ⟨⟩⟩, hq, h1⟩ := h
  exact ⟨q, hq, h1⟩
 refine BT.cond (fun hp => ?_) (fun _ => ?_)
 ·refine BT.yes (by simp only [decide_eq_true_eq] at hp; simp; omega) ?_
  refine BT.fls (BT.fls (BT.yes ?_ (BT.opt ?_)))
  ·show (decide (0 <= c) && decide (c < (4 : Int))) = true
   simp; omega
  ·obtain ⟨l, hl, l1, l2⟩ := Zhs p (m + 1) _ _ (by omega) (by omega)
   exact ⟨_, hl, BT.ret ⟨by rw [<- l1] at l2; exact l2, by dsimp only; omega, by dsimp only; omega, by dsimp only; omega, by dsimp only; omega⟩⟩
 ·refine BT.fls (BT.fls (BT.yes rfl (BT.opt ?_)))
  obtain ⟨l, hl, l1, l2⟩ := Zhs p 1 1 100 (by omega) (by omega)
  exact ⟨_, hl, BT.ret ⟨by rw [<- l1] at l2; exact l2, by dsimp only; omega, by dsimp only; omega, by dsimp only; omega, by dsimp only; omega⟩⟩
end Go.Proofs.YtkbdofnbagmlfaaGreat

namespace Go.Proofs.YtkbdofnbagmlfaaGreat
open Go.PI Go
end Go.Proofs.YtkbdofnbagmlfaaGreat
