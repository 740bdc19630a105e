/- All matches, element by element: whatever is asked, an answer; what is told is what each step keeps. Predicates of queries come to the same on both sides, whatever variables stand for. Queries that are made: their predicates come to the same on both sides; where elements must not be there. Lists in order: whatever they hold is kept. -/
import Derived.Test.YtiblijkhpmemeaaGreatHf
import Derived.Test.YtiblijkhpmemeaaGreatF2a
import Derived.Test.YtiblijkhpmemeaaGreatHe
import Derived.Test.YtiblijkhpmemeaaGreatR3b
import Derived.Test.YtiblijkhpmemeaaGreatHc
namespace Go.Proofs.YtiblijkhpmemeaaGreat
open Go.PI Go
theorem iterO_bt {X Z : Type} {step : X → Br (X ⊕ Z)} (Inv : X → Prop) (μ : X → Nat) (Q : Z → Prop) (h : ∀ x, Inv x → BT (fun s => (∃ y, s = .inl y ∧ Inv y ∧ μ y < μ x) ∨ ∃ z, s = .inr z ∧ Q z) (step x)) (x : X) (hx : Inv x) :
  ∃ z, iterO (fun x => (step x).run) x = some z ∧ Q z := by
 refine iterO_rec (step := fun x => (step x).run) (Q := fun _ z => Q z) Inv μ (fun x hx => ?_) x hx
 obtain ⟨s, hs, ⟨y, rfl, h1, h2⟩ | ⟨z, rfl, h1⟩⟩ := h x hx
 ·exact .inl ⟨y, hs, h1, h2, fun z hz => hz⟩
 ·exact .inr ⟨z, hs, h1⟩
theorem BT.lt {α : Type} {P : α → Prop} {c : Bool} {a b : Br α} (hc : c = true) (h : BT P a) : BT P (.cond c a b) := by subst hc; exact h
theorem BT.ge {α : Type} {P : α → Prop} {c : Bool} {a b : Br α} (hc : c = false) (h : BT P b) : BT P (.cond c a b) := by subst hc; exact h
theorem BT.goes {X Z : Type} {I : X → Prop} {Q : Z → Prop} {y : X} (h : I y) : BT (fun s : X ⊕ Z => (∃ y, s = .inl y ∧ I y) ∨ ∃ z, s = .inr z ∧ Q z) (.ret (.inl y)) := ⟨_, rfl, .inl ⟨y, rfl, h⟩⟩
theorem BT.ends {X Z : Type} {I : X → Prop} {Q : Z → Prop} {z : Z} (h : Q z) : BT (fun s : X ⊕ Z => (∃ y, s = .inl y ∧ I y) ∨ ∃ z, s = .inr z ∧ Q z) (.ret (.inr z)) := ⟨_, rfl, .inr ⟨z, rfl, h⟩⟩
theorem in2 {i n : Int} (h0 : 0 ≤ i) (h1 : i < n) : (decide (0 ≤ i) && decide (i < n)) = true := by simp [h0, h1]
structure QGood (q : Qry) : Prop where
 es : EsOk q.1
 lo : 1 ≤ q.1.length
 hi : q.1.length ≤ 4
abbrev elmZ : Elm := (ByteArray.empty, [], false, 0, 0, [])
theorem QGood.get {q : Qry} (h : QGood q) (i : Int) (h0 : 0 ≤ i) (h1 : i < q.1.length) : EOk i (q.1.getD i.toNat elmZ) := by
 have hlt : i.toNat < q.1.length := by omega
 have := h.es i.toNat (q.1.getD i.toNat elmZ) (by rw [getD_in _ _ _ hlt]; exact List.getElem?_eq_getElem hlt)
 have e : ((i.toNat : Nat) : Int) = i := by omega
 rw [e] at this
 exact this
theorem ofS_tot (l : List ByteArray) (hl : l.length ≤ 1000) (t : ByteArray) : ∃ b, ofS (l, t, ()) = some (b, ()) := by
 unfold ofS ofS_B
 obtain ⟨z, hz, -⟩ : ∃ z, ofS_w0 (l, t, 0, ()) = some z ∧ True := by
  refine iterO_bt (step := ofS_l0) (fun y => ∃ i : Int, y = (l, t, i, ()) ∧ 0 ≤ i ∧ i ≤ l.length) (fun y => ((l.length : Int) - y.2.2.1).toNat) (fun _ => True) ?_ _ ⟨0, rfl, Int.le_refl 0, by omega⟩
  rintro y ⟨i, rfl, h0, h1⟩
  unfold ofS_l0
  by_cases hi : i < (l.length : Int)
  ·have hw : IntKind.wrap .i64 (i + 1) = i + 1 := Go.PI.wrap_small (by omega) (by omega)
   refine BT.lt (decide_eq_true hi) (BT.yes (in2 h0 hi) (BT.cond (fun _ => BT.ends trivial) (fun _ => BT.goes ⟨⟨i + 1, by rw [hw], by omega, by omega⟩, ?_⟩)))
   dsimp only
   rw [hw]
   omega
  ·exact BT.ge (decide_eq_false hi) (BT.ends trivial)
 simp only [Br.run, hz]
 cases z <;> exact ⟨_, rfl⟩
def EvGood (e : Evt) : Prop := e.2.2.2.2.length ≤ 3 ∧ ∀ v ∈ e.2.2.2.2, In64 v.2.1
theorem fits20_tot (e : Elm) (h1 : e.2.1.length ≤ 1000) (h2 : e.2.2.2.2.2.length ≤ 1000) (h3 : NdsIn e.2.2.2.2.2) (x : Evt) (hx : EvGood x) (env : List Bnd) (he : env.length ≤ 900) (hi : EnvIn env) : ∃ b, fits20 (e, x, env, ()) = some (b, ()) := by
 suffices h : BT (fun _ : Bool × Unit => True) (fits20_B (e, x, env, ())) by
  obtain ⟨⟨b, ⟨⟩⟩, h, -⟩ := h
  exact ⟨b, h⟩
 obtain ⟨b, hb⟩ := ofS_tot e.2.1 h1 x.1
 obtain ⟨c, hc⟩ := holdsR_tot e.2.2.2.2.2 h2 h3 (env ++ [(e.1, x)]) (by rw [List.length_append, List.length_singleton]; omega) (fun u hu v hv => by
  rcases List.mem_append.1 hu with h | h
  ·exact hi u h v hv
  ·obtain rfl := List.mem_singleton.1 h
   exact hx.2 v hv)
 unfold fits20_B
 refine BT.opt ⟨_, hb, BT.cond (fun _ => ?_) (fun _ => BT.ret trivial)⟩
 refine BT.yes (decide_eq_true ?_) (BT.yes (decide_eq_true ?_) (BT.opt ⟨_, hc, BT.ret trivial⟩))
 ·show (0 + env.length) * 88 ≤ 140737488355328
  omega
 ·show (env.length + 1) * 88 ≤ 140737488355328
  omega
def envNext (e : Elm) (env : List Bnd) (x : Evt) : List Bnd := if e.2.2.2.2.1 = 1 then env ++ [(e.1, x)] else env
structure Steps (q : Qry) (l : List Evt) (R : Int → Int → List Prs → List Bnd → Int → Int → Prop) (O : List Prs → Prop) : Prop where
 rng : ∀ {a h m env f0 fr}, R a h m env f0 fr → 0 ≤ a ∧ a < q.1.length ∧ 0 ≤ h ∧ h ≤ 1000 ∧ m.length ≤ 800 ∧ env.length ≤ 800 ∧ EnvIn env ∧ 0 ≤ fr ∧ fr ≤ l.length
 more : ∀ {a h m env f0 fr} (i : Int), R a h m env f0 fr → fr ≤ i → i < l.length → fits20 (q.1.getD a.toNat elmZ, l.getD i.toNat evZ, env, ()) = some (true, ()) → R a (h + 1) (m ++ [(a, (l.getD i.toNat evZ).2.2.2.1)]) (envNext (q.1.getD a.toNat elmZ) env (l.getD i.toNat evZ)) f0 (i + 1)
 next : ∀ {a h m env f0 fr} (k i : Int), R a h m env f0 fr → a < k → k < q.1.length → fr ≤ i → i < l.length → fits20 (q.1.getD k.toNat elmZ, l.getD i.toNat evZ, env, ()) = some (true, ()) → R k 1 (m ++ [(k, (l.getD i.toNat evZ).2.2.2.1)]) (envNext (q.1.getD k.toNat elmZ) env (l.getD i.toNat evZ)) f0 (i + 1)
 out : ∀ {a h m env f0 fr}, R a h m env f0 fr → O m
theorem p3 (n : Nat) : 1 ≤ 3 ^ n := Nat.one_le_pow _ _ (by decide)
theorem p3s (n i : Int) (h : i < n) : 3 ^ (n - i).toNat = 3 * 3 ^ (n - (i + 1)).toNat := by
 have : (n - i).toNat = (n - (i + 1)).toNat + 1 := by omega
 rw [this, Nat.pow_succ, Nat.mul_comm]
theorem p3le (n i j : Int) (h : i ≤ j) : 3 ^ (n - j).toNat ≤ 3 ^ (n - i).toNat := Nat.pow_le_pow_right (by decide) (by omega)
section
variable {q : Qry} {l : List Evt} {R : Int → Int → List Prs → List Bnd → Int → Int → Prop} {O : List Prs → Prop}
def Tells (q : Qry) (l : List Evt) (O : List Prs → Prop) (out : List (List Prs)) (B : Nat) (y : Option ((Qry × (List Evt × List (List Prs))) × Unit)) : Prop :=
 ∃ out', y = some ((q, l, out ++ out'), ()) ∧ (∀ m ∈ out', O m) ∧ 2 * out'.length ≤ B
end
end Go.Proofs.YtiblijkhpmemeaaGreat

namespace Go.Proofs.YtiblijkhpmemeaaGreat
open Go.PI Go
abbrev lX : ByteArray := { data := #[120] }
abbrev lS : ByteArray := { data := #[115] }
abbrev fdN (v f : ByteArray) : Nd := (2, (0, 0, ByteArray.empty, false), v, f)
def NameV (v : ByteArray) : Prop := v = { data := #[97] } ∨ v = { data := #[98] } ∨ v = { data := #[99] } ∨ v = { data := #[101] }
theorem nodeOk_fx {v : ByteArray} (h : NameV v) : nodeOk (fdN v lX) = true := by
 rcases h with rfl | rfl | rfl | rfl <;> exact nodeOk_of (by kernel_rfl)
theorem nodeOk_fs {v : ByteArray} (h : NameV v) : nodeOk (fdN v lS) = true := by
 rcases h with rfl | rfl | rfl | rfl <;> exact nodeOk_of (by kernel_rfl)
def EvMk (e : Evt) : Prop := ∃ (k : Int) (key : ByteArray) (t sq n : Int) (s : ByteArray) (b : Bool), (k = 0 ∨ k = 1 ∨ k = 2) ∧ In64 n ∧ e = (typK k, key, t, sq, if k = 2 then [sV s, iV n, bV b] else [iV n, sV s])
def xOf (e : Evt) : Val := if bl e.1 = [67] then e.2.2.2.2.getD 1 zV else e.2.2.2.2.getD 0 zV
def sOf (e : Evt) : Val := if bl e.1 = [67] then e.2.2.2.2.getD 0 zV else e.2.2.2.2.getD 1 zV
theorem EvMk.x {e : Evt} (h : EvMk e) : getF (sch3, e, lX, ()) = some ((xOf e, true), ()) := by
 obtain ⟨k, key, t, sq, n, s, b, rfl | rfl | rfl, hn, rfl⟩ := h <;> kernel_rfl
theorem EvMk.s {e : Evt} (h : EvMk e) : getF (sch3, e, lS, ()) = some ((sOf e, true), ()) := by
 obtain ⟨k, key, t, sq, n, s, b, rfl | rfl | rfl, hn, rfl⟩ := h <;> kernel_rfl
theorem EvMk.xn {e : Evt} (h : EvMk e) : VN (xOf e) := by
 obtain ⟨k, key, t, sq, n, s, b, rfl | rfl | rfl, hn, rfl⟩ := h <;> exact .i n hn
theorem EvMk.sn {e : Evt} (h : EvMk e) : VN (sOf e) := by
 obtain ⟨k, key, t, sq, n, s, b, rfl | rfl | rfl, hn, rfl⟩ := h <;> exact .s s
theorem EvMk.px {e : Evt} (h : EvMk e) : ∃ i : Int, placeR (e, lX, ()) = some (i, ()) ∧ 0 ≤ i ∧ i < e.2.2.2.2.length ∧ e.2.2.2.2.getD i.toNat zV = xOf e := by
 obtain ⟨k, key, t, sq, n, s, b, rfl | rfl | rfl, hn, rfl⟩ := h
 ·exact ⟨0, by kernel_rfl, by decide, by show (0 : Int) < ((2 : Nat) : Int); decide, rfl⟩
 ·exact ⟨0, by kernel_rfl, by decide, by show (0 : Int) < ((2 : Nat) : Int); decide, rfl⟩
 ·exact ⟨1, by kernel_rfl, by decide, by show (1 : Int) < ((3 : Nat) : Int); decide, rfl⟩
theorem EvMk.ps {e : Evt} (h : EvMk e) : ∃ i : Int, placeR (e, lS, ()) = some (i, ()) ∧ 0 ≤ i ∧ i < e.2.2.2.2.length ∧ e.2.2.2.2.getD i.toNat zV = sOf e := by
 obtain ⟨k, key, t, sq, n, s, b, rfl | rfl | rfl, hn, rfl⟩ := h
 ·exact ⟨1, by kernel_rfl, by decide, by show (1 : Int) < ((2 : Nat) : Int); decide, rfl⟩
 ·exact ⟨1, by kernel_rfl, by decide, by show (1 : Int) < ((2 : Nat) : Int); decide, rfl⟩
 ·exact ⟨0, by kernel_rfl, by decide, by show (0 : Int) < ((3 : Nat) : Int); decide, rfl⟩
theorem ne2 : ¬ ((2 : Int) = 1) := by decide
def bnOf (env : List Bnd) (v : ByteArray) : Option Bnd := env.find? fun b => bl b.1 == bl v
def fOf (f : ByteArray) (e : Evt) : Val := if bl f = [120] then xOf e else sOf e
def LQ (env : List Bnd) (n : Nd) : Val × Bool := if n.1 = 1 then (n.2.1, true) else match bnOf env n.2.2.1 with
 | some b => (fOf n.2.2.2 b.2, true)
 | none => (zV, false)
abbrev bdZ : Bnd := (ByteArray.empty, ByteArray.empty, ByteArray.empty, 0, 0, [])
def EnvMk (env : List Bnd) : Prop := ∀ b ∈ env, EvMk b.2
theorem idxBnd_at (env : List Bnd) (hx : env.length ≤ 1000) (n : Nd) : ∃ i : Int, idxBnd (env, n, ()) = some (i, ()) ∧ ((i = -1 ∧ bnOf env n.2.2.1 = none) ∨ (0 ≤ i ∧ i < env.length ∧ bnOf env n.2.2.1 = some (env.getD i.toNat bdZ))) := by
 unfold idxBnd idxBnd_B
 obtain ⟨z, hz, hq⟩ : ∃ z, idxBnd_w0 (env, (n, ()), (env.length : Int), 0, ()) = some z ∧ ((∃ i : Int, z = .inl (i, ()) ∧ 0 ≤ i ∧ i < env.length ∧ bnOf env n.2.2.1 = some (env.getD i.toNat bdZ)) ∨ (z = .inr () ∧ bnOf env n.2.2.1 = none)) := by
  refine iterO_bt (step := idxBnd_l0) (fun y => ∃ i : Int, y = (env, (n, ()), (env.length : Int), i, ()) ∧ 0 ≤ i ∧ i ≤ env.length ∧ bnOf env n.2.2.1 = bnOf (env.drop i.toNat) n.2.2.1) (fun y => ((env.length : Int) - y.2.2.2.1).toNat) _ ?_ _ ⟨0, rfl, Int.le_refl 0, by omega, rfl⟩
  rintro y ⟨i, rfl, h0, h1, h2⟩
  unfold idxBnd_l0
  by_cases hi : i < (env.length : Int)
  ·have hw : IntKind.wrap .i64 (i + 1) = i + 1 := Go.PI.wrap_small (by omega) (by omega)
   rw [drop_get env i bdZ h0 hi] at h2
   refine BT.lt (decide_eq_true hi) (BT.yes (in2 h0 hi) (BT.opt ⟨_, rfl, BT.cond (fun hb => BT.ends (.inl ⟨i, rfl, h0, hi, ?_⟩)) (fun hb => BT.goes ⟨⟨i + 1, by rw [hw], by omega, by omega, ?_⟩, ?_⟩)⟩))
   ·rw [h2]
    show List.find? _ _ = _
    rw [List.find?_cons, show (bl (env.getD i.toNat bdZ).1 == bl n.2.2.1) = true from hb]
   ·rw [h2]
    show List.find? _ _ = _
    rw [List.find?_cons, show (bl (env.getD i.toNat bdZ).1 == bl n.2.2.1) = false from hb]
    rfl
   ·dsimp only
    rw [hw]
    omega
  ·refine BT.ge (decide_eq_false hi) (BT.ends (.inr ⟨rfl, ?_⟩))
   rw [h2, List.drop_eq_nil_of_le (by omega)]
   rfl
 simp only [Br.run, hz]
 rcases hq with ⟨i, rfl, k⟩ | ⟨rfl, k⟩
 ·exact ⟨i, rfl, .inr k⟩
 ·exact ⟨-1, rfl, .inl ⟨rfl, k⟩⟩
theorem EvMk.f {e : Evt} (h : EvMk e) {f : ByteArray} (hf : f = lX ∨ f = lS) : getF (sch3, e, f, ()) = some ((fOf f e, true), ()) := by
 rcases hf with rfl | rfl
 ·exact h.x
 ·exact h.s
theorem EvMk.p {e : Evt} (h : EvMk e) {f : ByteArray} (hf : f = lX ∨ f = lS) : ∃ i : Int, placeR (e, f, ()) = some (i, ()) ∧ 0 ≤ i ∧ i < e.2.2.2.2.length ∧ e.2.2.2.2.getD i.toNat zV = fOf f e := by
 rcases hf with rfl | rfl
 ·exact h.px
 ·exact h.ps
theorem EvMk.n {e : Evt} (h : EvMk e) {f : ByteArray} (hf : f = lX ∨ f = lS) : VN (fOf f e) := by
 rcases hf with rfl | rfl
 ·exact h.xn
 ·exact h.sn
theorem bnOf_mem {env : List Bnd} {v : ByteArray} {b : Bnd} (h : bnOf env v = some b) : b ∈ env := List.mem_of_find?_eq_some h
theorem fieldV_at {env : List Bnd} (he : env.length ≤ 1000) (hE : EnvMk env) {v f : ByteArray} (hf : f = lX ∨ f = lS) : fieldV (sch3, env, fdN v f, ()) = some (LQ env (fdN v f), ()) := by
 obtain ⟨i, hi, ⟨rfl, hn⟩ | ⟨h0, h1, hs⟩⟩ := idxBnd_at env he (fdN v f)
 ·unfold fieldV fieldV_B
  have hL : LQ env (fdN v f) = (zV, false) := by
   unfold LQ
   rw [if_neg ne2, hn]
  simp only [Br.run, hi, hL]
  rfl
 ·have hm := hE _ (bnOf_mem hs)
  have hL : LQ env (fdN v f) = (fOf f (env.getD i.toNat bdZ).2, true) := by
   unfold LQ
   rw [if_neg ne2, hs]
  rw [hL]
  unfold fieldV fieldV_B
  have hg := hm.f hf
  have hd : decide (i < 0) = false := decide_eq_false (by omega)
  simp only [Br.run, hi, hd, cond_false, in2 h0 h1, cond_true]
  show (Br.opt (getF (sch3, (env.getD i.toNat bdZ).snd, f, ())) fun y6 => Br.ret ((y6.fst.fst, y6.fst.snd), ())).run = _
  simp only [Br.run, hg]
theorem evalR_w0_at {env : List Bnd} (he : env.length ≤ 1000) (hE : EnvMk env) {v f : ByteArray} (hf : f = lX ∨ f = lS) (a : Int) :
  ∃ z, evalR_w0 (env, a, 0, zV, fdN v f, ()) = some z ∧ ((z = .inl (true, a, (LQ env (fdN v f)).1, ()) ∧ (LQ env (fdN v f)).2 = true) ∨ (z = .inr (a, zV, ()) ∧ (LQ env (fdN v f)).2 = false)) := by
 refine iterO_bt (step := evalR_l0) (fun y => ∃ i : Int, y = (env, a, i, zV, fdN v f, ()) ∧ 0 ≤ i ∧ i ≤ env.length ∧ bnOf env v = bnOf (env.drop i.toNat) v) (fun y => ((env.length : Int) - y.2.2.1).toNat) _ ?_ _ ⟨0, rfl, Int.le_refl 0, by omega, rfl⟩
 rintro y ⟨i, rfl, h0, h1, h2⟩
 unfold evalR_l0
 by_cases hi : i < (env.length : Int)
 ·have hw : IntKind.wrap .i64 (i + 1) = i + 1 := Go.PI.wrap_small (by omega) (by omega)
  rw [drop_get env i bdZ h0 hi] at h2
  refine BT.lt (decide_eq_true hi) (BT.yes (in2 h0 hi) (BT.cond (fun hb => ?_) (fun hb => BT.goes ⟨⟨i + 1, by rw [hw], by omega, by omega, ?_⟩, ?_⟩)))
  ·have hs : bnOf env v = some (env.getD i.toNat bdZ) := by
    rw [h2]
    show List.find? _ _ = _
    rw [List.find?_cons, show (bl (env.getD i.toNat bdZ).1 == bl v) = true from hb]
   have hm := hE _ (bnOf_mem hs)
   have hL : LQ env (fdN v f) = (fOf f (env.getD i.toNat bdZ).2, true) := by
    unfold LQ
    rw [if_neg ne2, show bnOf env (fdN v f).2.2.1 = _ from hs]
   obtain ⟨j, p1, p2, p3, p4⟩ := hm.p hf
   refine BT.yes (in2 h0 hi) (BT.opt ⟨_, p1, BT.ge (decide_eq_false (by show ¬ j < 0; omega)) (BT.yes (in2 h0 hi) (BT.yes (in2 p2 p3) (BT.ends (.inl ⟨?_, by rw [hL]⟩))))⟩)
   rw [hL]
   show Sum.inl (true, a, List.getD _ _ _, ()) = _
   rw [show List.getD (Prod.snd (Prod.snd (Prod.snd (Prod.snd (Prod.snd (env.getD i.toNat bdZ)))))) j.toNat zV = _ from p4]
  ·rw [h2]
   show List.find? _ _ = _
   rw [List.find?_cons, show (bl (env.getD i.toNat bdZ).1 == bl v) = false from hb]
   rfl
  ·dsimp only
   rw [hw]
   omega
 ·refine BT.ge (decide_eq_false hi) (BT.ends (.inr ⟨rfl, ?_⟩))
  rw [List.drop_eq_nil_of_le (by omega)] at h2
  unfold LQ
  rw [if_neg ne2, show bnOf env (fdN v f).2.2.1 = none from h2]
theorem leaf_F {env : List Bnd} (he : env.length ≤ 1000) (hE : EnvMk env) {v f : ByteArray} (hv : NameV v) (hf : f = lX ∨ f = lS) : LeafOk sch3 env (LQ env) (fdN v f) where
 ok := by
  rcases hf with rfl | rfl
  ·exact nodeOk_fx hv
  ·exact nodeOk_fs hv
 op := .inr rfl
 vn h := by
  unfold LQ at h ⊢
  rw [if_neg ne2] at h ⊢
  cases hb : bnOf env (fdN v f).2.2.1 with
  | none => rw [hb] at h; cases h
  | some b => exact (hE b (bnOf_mem hb)).n hf
 c h := by cases h
 f _ := ⟨_, fieldV_at he hE hf, fun _ => rfl⟩
 r _ a := by
  obtain ⟨z, hz, ⟨rfl, h2⟩ | ⟨rfl, h2⟩⟩ := evalR_w0_at he hE (v := v) hf a
  ·exact ⟨_, hz, .inl ⟨_, by rw [h2], fun _ => rfl⟩⟩
  ·exact ⟨_, hz, .inr ⟨_, rfl, h2⟩⟩
theorem leaf_K {env : List Bnd} {v : Val} (h : VC v) : LeafOk sch3 env (LQ env) (nC v) :=
 { ok := nodeOk_C h, op := .inl rfl, vn := fun _ => h.1, c := fun _ => rfl, f := fun h => by simp [nC] at h, r := fun h => by simp [nC] at h }
def HSame (p : List Nd) : Prop := ∀ env : List Bnd, env.length ≤ 60 → EnvMk env → ∃ b, holdsF (sch3, p, env, ()) = some (b, ()) ∧ holdsR (p, env, ()) = some (b, ())
theorem hsame_nil : HSame [] := fun _ _ _ => ⟨true, rfl, rfl⟩
theorem hsame_tree (t : Tm) (h64 : t.flat.length ≤ 64) (h : ∀ env : List Bnd, env.length ≤ 60 → EnvMk env → TmOk sch3 env (LQ env) t) : HSame t.flat := by
 intro env he hE
 have ht := h env he hE
 have h1 := eval_tree (fv_tot env (by omega)) ht h64
 obtain ⟨v, h2, h3⟩ := evalRF_tree ht h64
 have hne : ((t.flat.length : Int) == 0) = false := by
  have := flat_pos t
  rw [beq_eq_false_iff_ne]; omega
 unfold holdsF holdsF_B holdsR holdsR_B truthV truthV_B
 simp only [Br.run, hne, cond_false, h1, h2]
 by_cases c : (evT (LQ env) t).2 = true
 ·have hv := h3 c
  subst hv
  have hn := evT_VN ht c
  generalize hx : (evT (LQ env) t).1 = x at hn ⊢
  simp only [c, ↓reduceIte, cond_true]
  cases hn with
  | i n _ => exact ⟨false, rfl, rfl⟩
  | s s => exact ⟨false, rfl, rfl⟩
  | b b => cases b <;> exact ⟨_, rfl, rfl⟩
 ·have c' : (evT (LQ env) t).2 = false := by simpa using c
  simp only [c', ↓reduceIte, Bool.false_eq_true, cond_false]
  exact ⟨false, rfl, rfl⟩
theorem vc_i {n : Int} (h : 0 ≤ n) (h2 : n ≤ 1000) : VC (iV n) := ⟨.i n ⟨by omega, by omega⟩, by show n ≠ _; omega, by show 0 ≤ 64; omega⟩
theorem vc_s (s : ByteArray) (h : s.size ≤ 64) : VC (sV s) := ⟨.s s, by show (0 : Int) ≠ _; decide, h⟩
def OpC (op : Int) : Prop := 7 ≤ op ∧ op ≤ 12
theorem OpC.bin {op : Int} (h : OpC op) : 4 ≤ op ∧ op ≤ 15 ∧ op ≠ 13 := by unfold OpC at h; omega
theorem OpC.node {op : Int} (h : OpC op) : nodeOk (nO op) = true := by unfold OpC at h; exact nodeOk_O (by omega) (by omega)
section
variable {v o : ByteArray} (hv : NameV v) (ho : NameV o) {n op : Int} (hn : 0 ≤ n ∧ n ≤ 3) (hop : OpC op)
include hv hop hn
theorem hs1 : HSame [fdN v lX, nC (iV n), nO op] := hsame_tree (.bin (nO op) (.leaf (fdN v lX)) (.leaf (nC (iV n)))) (of_decide_eq_true rfl) fun env he hE =>
 ⟨hop.node, hop.bin, leaf_F (by omega) hE hv (.inl rfl), leaf_K (vc_i hn.1 (by omega))⟩
theorem hs3 : HSame [fdN v lX, nC (iV n), nO op, nO 13] := hsame_tree (.un (nO 13) (.bin (nO op) (.leaf (fdN v lX)) (.leaf (nC (iV n))))) (of_decide_eq_true rfl) fun env he hE =>
 ⟨nodeOk_O (by decide) (by decide), .inr rfl, hop.node, hop.bin, leaf_F (by omega) hE hv (.inl rfl), leaf_K (vc_i hn.1 (by omega))⟩
include ho
theorem hs5 : HSame [fdN v lS, fdN o lS, nO 7, fdN v lX, nC (iV n), nO op, nO 15] := hsame_tree (.bin (nO 15) (.bin (nO 7) (.leaf (fdN v lS)) (.leaf (fdN o lS))) (.bin (nO op) (.leaf (fdN v lX)) (.leaf (nC (iV n))))) (of_decide_eq_true rfl) fun env he hE =>
 ⟨nodeOk_O (by decide) (by decide), by decide, ⟨nodeOk_O (by decide) (by decide), by decide, leaf_F (by omega) hE hv (.inr rfl), leaf_F (by omega) hE ho (.inr rfl)⟩, hop.node, hop.bin, leaf_F (by omega) hE hv (.inl rfl), leaf_K (vc_i hn.1 (by omega))⟩
omit hn
theorem hs4 : HSame [fdN v lX, nC (iV 1), nO 4, fdN o lX, nO op] := hsame_tree (.bin (nO op) (.bin (nO 4) (.leaf (fdN v lX)) (.leaf (nC (iV 1)))) (.leaf (fdN o lX))) (of_decide_eq_true rfl) fun env he hE =>
 ⟨hop.node, hop.bin, ⟨nodeOk_O (by decide) (by decide), by decide, leaf_F (by omega) hE hv (.inl rfl), leaf_K (vc_i (by decide) (by decide))⟩, leaf_F (by omega) hE ho (.inl rfl)⟩
theorem hs6 : HSame [fdN v lX, fdN o lX, nO op, fdN o lS, nC (sV { data := #[118] }), nO 8, nO 14] := hsame_tree (.bin (nO 14) (.bin (nO op) (.leaf (fdN v lX)) (.leaf (fdN o lX))) (.bin (nO 8) (.leaf (fdN o lS)) (.leaf (nC (sV { data := #[118] }))))) (of_decide_eq_true rfl) fun env he hE =>
 ⟨nodeOk_O (by decide) (by decide), by decide, ⟨hop.node, hop.bin, leaf_F (by omega) hE hv (.inl rfl), leaf_F (by omega) hE ho (.inl rfl)⟩, nodeOk_O (by decide) (by decide), by decide, leaf_F (by omega) hE ho (.inr rfl), leaf_K (vc_s _ (by decide))⟩
omit ho
theorem hs2 : HSame [fdN v lS, nC (sV { data := #[117] }), nO op] := hsame_tree (.bin (nO op) (.leaf (fdN v lS)) (.leaf (nC (sV { data := #[117] })))) (of_decide_eq_true rfl) fun env he hE =>
 ⟨hop.node, hop.bin, leaf_F (by omega) hE hv (.inr rfl), leaf_K (vc_s _ (by decide))⟩
end
end Go.Proofs.YtiblijkhpmemeaaGreat

namespace Go.Proofs.YtiblijkhpmemeaaGreat
open Go.PI Go
theorem fdN_nonneg (y : Int) (k : Nat) (h : 0 ≤ y) : 0 ≤ Int.fdiv y (2 ^ k) := by
 rw [Int.fdiv_eq_ediv_of_nonneg _ (Int.le_of_lt (Int.pow_pos (by decide)))]
 exact Int.ediv_nonneg h (Int.le_of_lt (Int.pow_pos (by decide)))
theorem opc_wrap {z : Int} (h0 : 0 ≤ z) (h1 : z < 6) : OpC (IntKind.wrap .i64 (7 + z)) := by
 rw [Go.PI.wrap_small (by omega) (by omega)]
 unfold OpC; omega
theorem predQ_tot3 (x : Int) (v o : ByteArray) (hx : 0 ≤ x) (hv : NameV v) (ho : NameV o) : ∃ l, predQ (x, v, o, ()) = some (l, ()) ∧ l.length ≤ 1000 ∧ NdsIn l ∧ HSame l := by
 obtain ⟨l, h1, h2, h3⟩ := predQ_tot2 x v o
 refine ⟨l, h1, h2, h3, ?_⟩
 unfold predQ predQ_B fieldQ fieldQ_B numQ numQ_B at h1
 try unfold zAn at h1
 try unfold zSh at h1
 simp only [Br.run, cond_false, cond_eq_ite, Bool.false_eq_true, ↓reduceIte] at h1
 have hm := mask_in (Int.fdiv x (2 ^ min (Int.toNat 4) (IntKind.bits IntKind.i64))) 3 (by decide) (by decide)
 generalize IntKind.wrap IntKind.i64 (↑(BitVec.toNat (BitVec.ofInt (IntKind.bits IntKind.i64) (Int.fdiv x (2 ^ min (Int.toNat 4) (IntKind.bits IntKind.i64))) &&& BitVec.ofInt (IntKind.bits IntKind.i64) 3)) : Int) = m at hm h1
 have hs := mask_in (Int.fdiv x (2 ^ min (Int.toNat 6) (IntKind.bits IntKind.i64))) 1 (by decide) (by decide)
 generalize IntKind.wrap IntKind.i64 (↑(BitVec.toNat (BitVec.ofInt (IntKind.bits IntKind.i64) (Int.fdiv x (2 ^ min (Int.toNat 6) (IntKind.bits IntKind.i64))) &&& BitVec.ofInt (IntKind.bits IntKind.i64) 1)) : Int) = s at hs h1
 have ht0 : 0 ≤ Int.tmod (Int.fdiv x (2 ^ min (Int.toNat 6) (IntKind.bits IntKind.i64))) 6 := Int.tmod_nonneg 6 (fdN_nonneg _ _ hx)
 have ht1 : Int.tmod (Int.fdiv x (2 ^ min (Int.toNat 6) (IntKind.bits IntKind.i64))) 6 < 6 := Int.tmod_lt_of_pos _ (by decide)
 generalize Int.tmod (Int.fdiv x (2 ^ min (Int.toNat 6) (IntKind.bits IntKind.i64))) 6 = t at ht0 ht1 h1
 have hop := opc_wrap ht0 ht1
 have hop2 : OpC (IntKind.wrap .i64 (7 + s)) := opc_wrap hs.1 (by omega)
 generalize IntKind.wrap .i64 (7 + t) = op at hop h1
 generalize IntKind.wrap .i64 (7 + s) = op2 at hop2 h1
 have hm' : 0 ≤ m ∧ m ≤ 3 := by omega
 split at h1
 ·cases h1; exact hsame_nil
 split at h1
 ·cases h1; exact hs1 hv hm' hop
 split at h1
 ·cases h1; exact hs2 hv hop2
 split at h1
 ·cases h1; exact hs3 hv hm' hop
 split at h1
 ·cases h1; exact hs4 hv ho hop
 split at h1
 ·cases h1; exact hs5 hv ho hm' hop
 ·cases h1; exact hs6 hv ho hop
def EOk3 (n i : Int) (e : Elm) : Prop := EOk i e ∧ HSame e.2.2.2.2.2 ∧ (e.2.2.1 = true → e.2.2.2.1 = 1 ∧ e.2.2.2.2.1 = 1 ∧ i + 1 < n)
theorem eok3_one (n i : Int) (v : ByteArray) (ts : List ByteArray) (neg : Bool) (p : List Nd) (ht : ts.length ≤ 1000) (hp : p.length ≤ 1000 ∧ NdsIn p ∧ HSame p) (hn : neg = true → 0 < i ∧ i + 1 < n) : EOk3 n i (v, ts, neg, 1, 1, p) :=
 ⟨eok_one i v ts neg p ht ⟨hp.1, hp.2.1⟩ fun h => (hn h).1, hp.2.2, fun h => ⟨rfl, rfl, (hn h).2⟩⟩
theorem eok3_some (n i : Int) (v : ByteArray) (ts : List ByteArray) (neg : Bool) (p : List Nd) (a b : Int) (ht : ts.length ≤ 1000) (hp : p.length ≤ 1000 ∧ NdsIn p ∧ HSame p) (hn : neg = true → False) :
  EOk3 n i (v, ts, neg, IntKind.wrap .i64 (IntKind.wrap .i64 (↑(BitVec.toNat (BitVec.ofInt (IntKind.bits .i64) a &&& BitVec.ofInt (IntKind.bits .i64) 1)) : Int) + 1), IntKind.wrap .i64 (IntKind.wrap .i64 (IntKind.wrap .i64 (↑(BitVec.toNat (BitVec.ofInt (IntKind.bits .i64) a &&& BitVec.ofInt (IntKind.bits .i64) 1)) : Int) + 1) + IntKind.wrap .i64 (↑(BitVec.toNat (BitVec.ofInt (IntKind.bits .i64) b &&& BitVec.ofInt (IntKind.bits .i64) 1)) : Int)), p) :=
 ⟨eok_some i v ts neg p a b ht ⟨hp.1, hp.2.1⟩ fun h => (hn h).elim, hp.2.2, fun h => (hn h).elim⟩
theorem neg_absurd {x : Bool} (h : x = true) (k : (!x) = true) : False := by subst h; cases k
theorem nmGet {i : Int} (h0 : 0 ≤ i) (h4 : i < 4) : NameV (List.getD [({ data := #[97] } : ByteArray), { data := #[98] }, { data := #[99] }, { data := #[101] }] (Int.toNat i) ByteArray.empty) := by
 have : i = 0 ∨ i = 1 ∨ i = 2 ∨ i = 3 := by omega
 rcases this with rfl | rfl | rfl | rfl
 ·exact .inl rfl
 ·exact .inr (.inl rfl)
 ·exact .inr (.inr (.inl rfl))
 ·exact .inr (.inr (.inr rfl))
theorem lt_pred {i n : Int} (h : decide (i < n - 1) = true) : i + 1 < n := by
 have := of_decide_eq_true h
 omega
set_option maxHeartbeats 4000000 in
set_option maxRecDepth 10000 in
theorem queryQ_step3 (p : List Int) (n i c1 c2 : Int) (acc : List Elm) (h0 : 0 ≤ i) (h1 : i < n) (hn : n ≤ 4) (ha : (acc.length : Int) = i) :
  BT (fun y => ∃ e : Elm, y = .inl (p, n, i + 1, c1, c2, acc ++ [e], ()) ∧ EOk3 n i e) (queryQ_l0 (p, n, i, c1, c2, acc, ())) := by
 have hw : IntKind.wrap .i64 (i + 1) = i + 1 := Go.PI.wrap_small (by omega) (by omega)
 have hwn : IntKind.wrap .i64 (n - 1) = n - 1 := Go.PI.wrap_small (by omega) (by omega)
 have hw37 : IntKind.wrap .i64 (i * 37) = i * 37 := Go.PI.wrap_small (by omega) (by omega)
 have hx := mask_in (List.getD p (Int.toNat (i + 1)) 0) 16777215 (by decide) (by decide)
 unfold queryQ_l0
 try unfold zAn
 try unfold zSh
 dsimp only
 rw [hw, hw37, hwn]
 generalize IntKind.wrap IntKind.i64 (↑(BitVec.toNat (BitVec.ofInt (IntKind.bits IntKind.i64) (List.getD p (Int.toNat (i + 1)) 0) &&& BitVec.ofInt (IntKind.bits IntKind.i64) 16777215)) : Int) = x at hx ⊢
 obtain ⟨tx, htx, ltx⟩ := typesQ_tot x hx.1
 obtain ⟨ty, hty, lty⟩ := typesQ_tot (i * 37) (by omega)
 have bnd : (acc.length + 1) * 88 ≤ 140737488355328 := by omega
 have hv4 : (decide (0 ≤ i) && decide (i < (4 : Int))) = true := by simp; omega
 have h4 : i < 4 := by omega
 have hna : NameV { data := #[97] } := .inl rfl
 have hpx := fun o ho => predQ_tot3 (Int.fdiv x (2 ^ min (Int.toNat 10) (IntKind.bits .i64))) (List.getD [({ data := #[97] } : ByteArray), { data := #[98] }, { data := #[99] }, { data := #[101] }] (Int.toNat i) ByteArray.empty) o (fdN_nonneg _ _ hx.1) (nmGet h0 h4) ho
 have hpi := fun o ho => predQ_tot3 (Int.fdiv (i * 37) (2 ^ min (Int.toNat 10) (IntKind.bits .i64))) (List.getD [({ data := #[97] } : ByteArray), { data := #[98] }, { data := #[99] }, { data := #[101] }] (Int.toNat i) ByteArray.empty) o (fdN_nonneg _ _ (by omega)) (nmGet h0 h4) ho
 rw [show (decide (i < n)) = true from decide_eq_true h1]
 refine BT.cond (fun _ => ?_) (fun h => by cases h)
 refine BT.cond (fun hlt => ?_) (fun _ => ?_)
 ·refine BT.yes (by simp only [decide_eq_true_eq] at hlt; simp; omega) (BT.opt ⟨_, varsQ_at, ?_⟩)
  refine BT.yes hv4 (BT.opt ⟨_, htx, ?_⟩)
  repeat' first
   | exact BT.ret ⟨_, rfl, eok3_one _ _ _ _ _ _ ltx (by assumption) (fun h => by cases h)⟩
   | exact BT.ret ⟨_, rfl, eok3_one _ _ _ _ _ _ ltx (by assumption) (fun _ => ⟨of_decide_eq_true ‹decide (i > 0) = true›, lt_pred ‹decide (i < n - 1) = true›⟩)⟩
   | exact BT.ret ⟨_, rfl, eok3_some _ _ _ _ _ _ _ _ ltx (by assumption) (fun h => by cases h)⟩
   | exact BT.ret ⟨_, rfl, eok3_some _ _ _ _ _ _ _ _ ltx (by assumption) (fun h => neg_absurd h (by assumption))⟩
   | with_reducible refine BT.fls ?_
   | (with_reducible refine BT.yes ?_ ?_; exact decide_eq_true bnd)
   | (with_reducible refine BT.yes ?_ ?_; (simp only [beq_eq_false_iff_ne] at *; simp; omega))
   | (with_reducible refine BT.opt ?_; refine (hpx _ (nmGet h0 h4)).elim fun l hl => ⟨_, hl.1, ?_⟩; have hll := hl.2; dsimp only)
   | (with_reducible refine BT.opt ?_; refine (hpx { data := #[97] } hna).elim fun l hl => ⟨_, hl.1, ?_⟩; have hll := hl.2; dsimp only)
   | (with_reducible refine BT.cond (fun _ => ?_) (fun _ => ?_))
 ·refine BT.opt ⟨_, varsQ_at, ?_⟩
  refine BT.yes hv4 (BT.opt ⟨_, hty, ?_⟩)
  repeat' first
   | exact BT.ret ⟨_, rfl, eok3_one _ _ _ _ _ _ lty (by assumption) (fun h => by cases h)⟩
   | exact BT.ret ⟨_, rfl, eok3_one _ _ _ _ _ _ lty (by assumption) (fun _ => ⟨of_decide_eq_true ‹decide (i > 0) = true›, lt_pred ‹decide (i < n - 1) = true›⟩)⟩
   | exact BT.ret ⟨_, rfl, eok3_some _ _ _ _ _ _ _ _ lty (by assumption) (fun h => by cases h)⟩
   | exact BT.ret ⟨_, rfl, eok3_some _ _ _ _ _ _ _ _ lty (by assumption) (fun h => neg_absurd h (by assumption))⟩
   | with_reducible refine BT.fls ?_
   | (with_reducible refine BT.yes ?_ ?_; exact decide_eq_true bnd)
   | (with_reducible refine BT.yes ?_ ?_; (simp only [beq_eq_false_iff_ne] at *; simp; omega))
   | (with_reducible refine BT.opt ?_; refine (hpi _ (nmGet h0 h4)).elim fun l hl => ⟨_, hl.1, ?_⟩; have hll := hl.2; dsimp only)
   | (with_reducible refine BT.opt ?_; refine (hpi { data := #[97] } hna).elim fun l hl => ⟨_, hl.1, ?_⟩; have hll := hl.2; dsimp only)
   | (with_reducible refine BT.cond (fun _ => ?_) (fun _ => ?_))
def EsOk3 (n : Int) (l : List Elm) : Prop := ∀ (k : Nat) e, l[k]? = some e → EOk3 n k e
theorem EsOk3.snoc {n : Int} {l : List Elm} (h : EsOk3 n l) {e : Elm} (he : EOk3 n (l.length : Int) e) : EsOk3 n (l ++ [e]) := by
 intro k u hu
 rcases Nat.lt_or_ge k l.length with hk | hk
 ·rw [List.getElem?_append_left hk] at hu
  exact h k u hu
 ·rw [List.getElem?_append_right hk] at hu
  have : k = l.length := by
   have := (List.getElem?_eq_some_iff.1 hu).1
   simp at this
   omega
  subst this
  rw [Nat.sub_self] at hu
  obtain rfl : e = u := by simpa using hu
  exact he
theorem queryQ_w0_at3 (p : List Int) (n c1 c2 : Int) (hn : n ≤ 4) (hn1 : 1 ≤ n) : ∃ l : List Elm, queryQ_w0 (p, n, 0, c1, c2, [], ()) = some (c1, c2, l, ()) ∧ (l.length : Int) = n ∧ EsOk3 n l := by
 obtain ⟨z, hz, l, rfl, h1, h2⟩ : ∃ z, queryQ_w0 (p, n, 0, c1, c2, [], ()) = some z ∧ ∃ l : List Elm, z = (c1, c2, l, ()) ∧ (l.length : Int) = n ∧ EsOk3 n l := by
  refine iterO_rec (step := fun x => (queryQ_l0 x).run) (Q := fun _ z => ∃ l : List Elm, z = (c1, c2, l, ()) ∧ (l.length : Int) = n ∧ EsOk3 n l)
   (fun y => y.1 = p ∧ y.2.1 = n ∧ 0 ≤ y.2.2.1 ∧ y.2.2.1 ≤ n ∧ y.2.2.2.1 = c1 ∧ y.2.2.2.2.1 = c2 ∧ (y.2.2.2.2.2.1.length : Int) = y.2.2.1 ∧ EsOk3 n y.2.2.2.2.2.1) (fun y => (n - y.2.2.1).toNat) ?_ _ ⟨rfl, rfl, by dsimp only; omega, by dsimp only; omega, rfl, rfl, by simp, fun k e h => by simp at h⟩
  rintro ⟨p', n', i, d1, d2, acc, ⟨⟩⟩ hx
  dsimp only at hx ⊢
  obtain ⟨rfl, rfl, h0, h1, rfl, rfl, h2, h3⟩ := hx
  by_cases hi : i < n'
  ·obtain ⟨y, hy, e, rfl, he⟩ := queryQ_step3 p' n' i d1 d2 acc h0 hi hn h2
   refine .inl ⟨_, hy, ?_, ?_, fun z hz => hz⟩
   ·refine ⟨rfl, rfl, by dsimp only; omega, by dsimp only; omega, rfl, rfl, ?_, h3.snoc (by rw [h2]; exact he)⟩
    show (((acc ++ [e]).length : Nat) : Int) = i + 1
    rw [List.length_append, List.length_singleton]; omega
   ·dsimp only; omega
  ·refine .inr ⟨(d1, d2, acc, ()), ?_, acc, rfl, by omega, h3⟩
   unfold queryQ_l0
   try unfold zAn
   try unfold zSh
   dsimp only
   rw [show decide (i < n') = false from decide_eq_false hi]
   rfl
 exact ⟨l, hz, h1, h2⟩
structure QMk (q : Qry) : Prop where
 es : EsOk3 (q.1.length : Int) q.1
 lo : 1 ≤ q.1.length
 hi : q.1.length ≤ 4
 w0 : 1 ≤ q.2.1
 w1 : q.2.1 ≤ 16
theorem queryQ_at3 (p : List Int) : ∃ q : Qry, queryQ (p, ()) = some (q, ()) ∧ QMk q := by
 unfold queryQ queryQ_B
 try unfold zAn
 try unfold zSh
 dsimp only
 have hx := mask_in (List.getD p (Int.toNat 0) 0) 16777215 (by decide) (by decide)
 generalize IntKind.wrap IntKind.i64 (↑(BitVec.toNat (BitVec.ofInt (IntKind.bits IntKind.i64) (List.getD p (Int.toNat 0) 0) &&& BitVec.ofInt (IntKind.bits IntKind.i64) 16777215)) : Int) = x at hx ⊢
 have h3 := mask_in x 3 (by decide) (by decide)
 generalize IntKind.wrap IntKind.i64 (↑(BitVec.toNat (BitVec.ofInt (IntKind.bits IntKind.i64) x &&& BitVec.ofInt (IntKind.bits IntKind.i64) 3)) : Int) = m at h3 ⊢
 have h6 := mask_in (Int.fdiv x (2 ^ min (Int.toNat 6) (IntKind.bits IntKind.i64))) 3 (by decide) (by decide)
 generalize IntKind.wrap IntKind.i64 (↑(BitVec.toNat (BitVec.ofInt (IntKind.bits IntKind.i64) (Int.fdiv x (2 ^ min (Int.toNat 6) (IntKind.bits IntKind.i64))) &&& BitVec.ofInt (IntKind.bits IntKind.i64) 3)) : Int) = c at h6 ⊢
 have hwi := mask_in (Int.fdiv x (2 ^ min (Int.toNat 2) (IntKind.bits IntKind.i64))) 15 (by decide) (by decide)
 generalize IntKind.wrap IntKind.i64 (↑(BitVec.toNat (BitVec.ofInt (IntKind.bits IntKind.i64) (Int.fdiv x (2 ^ min (Int.toNat 2) (IntKind.bits IntKind.i64))) &&& BitVec.ofInt (IntKind.bits IntKind.i64) 15)) : Int) = w at hwi ⊢
 have hw : IntKind.wrap .i64 (m + 1) = m + 1 := Go.PI.wrap_small (by omega) (by omega)
 have hww : IntKind.wrap .i64 (w + 1) = w + 1 := Go.PI.wrap_small (by omega) (by omega)
 rw [hw]
 try rw [hww]
 suffices h : BT (fun y : Qry × Unit => QMk y.1) _ by
  obtain ⟨⟨q, ⟨⟩⟩, hq, h1⟩ := h
  exact ⟨q, hq, h1⟩
 refine BT.cond (fun hp => ?_) (fun _ => ?_)
 ·refine BT.yes (by simp only [decide_eq_true_eq] at hp; simp; omega) ?_
  refine BT.fls (BT.fls (BT.yes ?_ (BT.opt ?_)))
  ·show (decide (0 ≤ c) && decide (c < (4 : Int))) = true
   simp; omega
  ·obtain ⟨l, hl, l1, l2⟩ := queryQ_w0_at3 p (m + 1) _ _ (by omega) (by omega)
   exact ⟨_, hl, BT.ret ⟨by rw [← l1] at l2; exact l2, by dsimp only; omega, by dsimp only; omega, by dsimp only; omega, by dsimp only; omega⟩⟩
 ·refine BT.fls (BT.fls (BT.yes rfl (BT.opt ?_)))
  obtain ⟨l, hl, l1, l2⟩ := queryQ_w0_at3 p 1 1 100 (by omega) (by omega)
  exact ⟨_, hl, BT.ret ⟨by rw [← l1] at l2; exact l2, by dsimp only; omega, by dsimp only; omega, by dsimp only; omega, by dsimp only; omega⟩⟩
end Go.Proofs.YtiblijkhpmemeaaGreat

namespace Go.Proofs.YtiblijkhpmemeaaGreat
open Go.PI Go
end Go.Proofs.YtiblijkhpmemeaaGreat
