/- Parts that the statements of guards and of steps share: trees, queries' parts, events. Queries that are made: how often their elements must be there, and may; the first one must. The context of law 23's first statement. A context: law 23's, and lists of chains of pairs. Contracts of functions. Printed by auto.py. Queries with few elements: the next one; the last one; copies. Abbreviations of types, for the printed texts. Abbreviations of types, for the printed texts. Abbreviations of types, for the printed texts. -/
import Derived.Test.YtkbdofnbagmlfaaGreatHf
import Derived.Test.YtkbdofnbagmlfaaGreatR7a
import Derived.Test.YtkbdofnbagmlfaaGreatHc
import Derived.Test.YtkbdofnbagmlfaaGreatGe
import Derived.Test.YtkbdofnbagmlfaaGreatHa
import Derived.Test.YtkbdofnbagmlfaaGreatGa
namespace Go.Proofs.YtkbdofnbagmlfaaGreat
open Go.PI Go
abbrev eZ' : Elm := (ByteArray.empty, [], false, 0, 0, [])
theorem Za1 {α : Type} (l : List α) (i : Nat) (d : α) (h : i < l.length) : l.getD i d = l[i] := by simp [List.getD, h]
abbrev evZ : Evt := (ByteArray.empty, ByteArray.empty, 0, 0, [])
def BT {α : Type} (P : α -> Prop) (b : Br α) : Prop := ∃ y, b.run = some y /\ P y
theorem BT.ret {α : Type} {P : α -> Prop} {y : α} (h : P y) : BT P (.ret y) := ⟨y, rfl, h⟩
theorem BT.fls {α : Type} {P : α -> Prop} {a b : Br α} (h : BT P b) : BT P (.cond false a b) := h
theorem BT.yes {α : Type} {P : α -> Prop} {c : Bool} {a : Br α} (hc : c = true) (h : BT P a) : BT P (.cond c a .no) := by subst hc; exact h
theorem BT.cond {α : Type} {P : α -> Prop} {c : Bool} {a b : Br α} (h : c = true -> BT P a) (k : c = false -> BT P b) : BT P (.cond c a b) := by
 cases c
 ·exact k rfl
 ·exact h rfl
theorem BT.opt {α β : Type} {P : α -> Prop} {o : Option β} {k : β -> Br α} (h : ∃ v, o = some v /\ BT P (k v)) : BT P (.opt o k) := by
 obtain ⟨v, rfl, h⟩ := h
 exact h
theorem BT.inl {α β : Type} {b : Br (α ⊕ β)} {P : α -> Prop} (h : BT (fun y => ∃ x, y = .inl x /\ P x) b) : ∃ x, b.run = some (.inl x) /\ P x := by
 obtain ⟨y, hy, x, rfl, h⟩ := h
 exact ⟨x, hy, h⟩
theorem BT.inr {α β : Type} {b : Br (α ⊕ β)} {P : β -> Prop} (h : BT (fun y => ∃ x, y = .inr x /\ P x) b) : ∃ x, b.run = some (.inr x) /\ P x := by
 obtain ⟨y, hy, x, rfl, h⟩ := h
 exact ⟨x, hy, h⟩
theorem BT.suml {α β γ : Type} {P : α -> Prop} {c : β} {k : β -> Br α} {l : γ -> Br α} (h : BT P (k c)) : BT P (.sum (.inl c) k l) := h
theorem BT.sumr {α β γ : Type} {P : α -> Prop} {c : γ} {k : β -> Br α} {l : γ -> Br α} (h : BT P (l c)) : BT P (.sum (.inr c) k l) := h
theorem Zk4 (m : Int) (h : 0 <= m) : ∃ l, typesQ (m, ()) = some (l, ()) /\ l.length <= 1000 := by
 have h1 := Int.tmod_nonneg 6 h
 have h2 := Int.tmod_lt_of_pos m (show (0 : Int) < 6 by decide)
 unfold typesQ ZqD
 try unfold zAn
 try unfold zSh
 simp only [Br.run, cond_false]
 generalize Int.tmod m 6 = k at h1 h2
 obtain rfl | rfl | rfl | rfl | rfl | rfl : k = 0 \/ k = 1 \/ k = 2 \/ k = 3 \/ k = 4 \/ k = 5 := by omega
 all_goals exact ⟨_, rfl, by decide⟩
theorem Zqf : varsQ () = some ([{ data := #[97] }, { data := #[98] }, { data := #[99] }, { data := #[101] }], ()) := rfl
end Go.Proofs.YtkbdofnbagmlfaaGreat

namespace Go.Proofs.YtkbdofnbagmlfaaGreat
open Go.PI Go
def ZfU (l : List Nd) : Prop := ∀ n ∈ l, -9223372036854775808 <= n.2.1.2.1 /\ n.2.1.2.1 <= 9223372036854775807
def EOk (i : Int) (e : Elm) : Prop := e.2.1.length <= 1000 /\ 1 <= e.2.2.2.1 /\ e.2.2.2.1 <= e.2.2.2.2.1 /\ e.2.2.2.2.1 <= 3 /\ (e.2.2.1 = true -> 0 < i) /\ e.2.2.2.2.2.length <= 1000 /\ ZfU e.2.2.2.2.2
theorem eok_one (i : Int) (v : ByteArray) (ts : List ByteArray) (neg : Bool) (p : List Nd) (ht : ts.length <= 1000) (hp : p.length <= 1000 /\ ZfU p) (hn : neg = true -> 0 < i) : EOk i (v, ts, neg, 1, 1, p) := ⟨ht, Int.le_refl _, Int.le_refl _, by dsimp only; omega, hn, hp⟩
theorem eok_some (i : Int) (v : ByteArray) (ts : List ByteArray) (neg : Bool) (p : List Nd) (a b : Int) (ht : ts.length <= 1000) (hp : p.length <= 1000 /\ ZfU p) (hn : neg = true -> 0 < i) :
  EOk i (v, ts, neg, IntKind.wrap .i64 (IntKind.wrap .i64 (↑(BitVec.toNat (BitVec.ofInt (IntKind.bits .i64) a &&& BitVec.ofInt (IntKind.bits .i64) 1)) : Int) + 1),
   IntKind.wrap .i64 (IntKind.wrap .i64 (IntKind.wrap .i64 (↑(BitVec.toNat (BitVec.ofInt (IntKind.bits .i64) a &&& BitVec.ofInt (IntKind.bits .i64) 1)) : Int) + 1) + IntKind.wrap .i64 (↑(BitVec.toNat (BitVec.ofInt (IntKind.bits .i64) b &&& BitVec.ofInt (IntKind.bits .i64) 1)) : Int)), p) := by
 have h1 := ZbM a 1 (by decide) (by decide)
 have h2 := ZbM b 1 (by decide) (by decide)
 generalize IntKind.wrap IntKind.i64 (↑(BitVec.toNat (BitVec.ofInt (IntKind.bits IntKind.i64) a &&& BitVec.ofInt (IntKind.bits IntKind.i64) 1)) : Int) = x at h1 ⊢
 generalize IntKind.wrap IntKind.i64 (↑(BitVec.toNat (BitVec.ofInt (IntKind.bits IntKind.i64) b &&& BitVec.ofInt (IntKind.bits IntKind.i64) 1)) : Int) = y at h2 ⊢
 have e1 : IntKind.wrap .i64 (x + 1) = x + 1 := Go.PI.wrap_small (by omega) (by omega)
 rw [e1]
 have e2 : IntKind.wrap .i64 (x + 1 + y) = x + 1 + y := Go.PI.wrap_small (by omega) (by omega)
 rw [e2]
 refine ⟨ht, ?_, ?_, ?_, hn, hp⟩ <;> dsimp only <;> omega
theorem Ztz (x : Int) (v o : ByteArray) : ∃ l, predQ (x, v, o, ()) = some (l, ()) /\ l.length <= 1000 /\ ZfU l := by
 unfold predQ ZlZ fieldQ Zjs numQ Zqc
 try unfold zAn
 try unfold zSh
 simp only [Br.run, cond_false, cond_eq_ite, Bool.false_eq_true, ↓reduceIte]
 have hm := ZbM (Int.fdiv x (2 ^ min (Int.toNat 4) (IntKind.bits IntKind.i64))) 3 (by decide) (by decide)
 generalize IntKind.wrap IntKind.i64 (↑(BitVec.toNat (BitVec.ofInt (IntKind.bits IntKind.i64) (Int.fdiv x (2 ^ min (Int.toNat 4) (IntKind.bits IntKind.i64))) &&& BitVec.ofInt (IntKind.bits IntKind.i64) 3)) : Int) = m at hm ⊢
 repeat' split
 all_goals refine ⟨_, rfl, of_decide_eq_true rfl, fun n hn => ?_⟩
 all_goals simp at hn
 all_goals (rcases hn with rfl | rfl | rfl | rfl | rfl | rfl | rfl | rfl <;> (dsimp only; omega))
def EsOk (l : List Elm) : Prop := ∀ (k : Nat) e, l[k]? = some e -> EOk k e
theorem EsOk.snoc {l : List Elm} (h : EsOk l) {e : Elm} (he : EOk (l.length : Int) e) : EsOk (l ++ [e]) := by
 intro k u hu
 rcases Nat.lt_or_ge k l.length with hk | hk
 ·rw [List.getElem?_append_left hk] at hu
  exact h k u hu
 ·rw [List.getElem?_append_right hk] at hu
  have : k = l.length := by
   have := (List.getElem?_eq_some_iff.1 hu).1
   simp at this
   omega
  subst this
  rw [Nat.sub_self] at hu
  obtain rfl : e = u := by simpa using hu
  exact he
theorem EsOk.qok {q : Qry} (h : EsOk q.1) : QOk q := by
 intro e he
 obtain ⟨k, hk⟩ := List.getElem?_of_mem he
 exact (h k e hk).1
end Go.Proofs.YtkbdofnbagmlfaaGreat

namespace Go.Proofs.YtkbdofnbagmlfaaGreat
open Go.PI Go
noncomputable def cxP1 : Ctx := Zba cx_blocksG 6 (ZaV ZqK Zmq newS)
theorem enP1 : EnvFull Tryz.prog cxP1 := Zas Ztk newS_oc.callOk
noncomputable def cxP2 : Ctx := Zba cxP1 7 (ZaV Zlv Zjm typesR)
theorem enP2 : EnvFull Tryz.prog cxP2 := Zas enP1 Zh1.callOk
noncomputable def cxP3 : Ctx := Zba cxP2 25 (ZaV Zk5 Zi4 queryQ)
theorem enP3 : EnvFull Tryz.prog cxP3 := Zas enP2 Zu7.callOk
end Go.Proofs.YtkbdofnbagmlfaaGreat

namespace Go.Proofs.YtkbdofnbagmlfaaGreat
open Go.PI Go
noncomputable def cxS1 : Ctx := cxP3
theorem enS1 : EnvFull Tryz.prog cxS1 := enP3
end Go.Proofs.YtkbdofnbagmlfaaGreat

namespace Go.Proofs.YtkbdofnbagmlfaaGreat
set_option maxRecDepth 100000
open Go.PI Go
noncomputable section
def cloneElem : ((List zA1) × Unit) -> Option ((List zA1) × Unit) := fun x => bif bound (0 + List.length x.1) 88 then some (x.1, ()) else none
theorem ZpX : OC Tryz.prog 119 [(false, .ty false (.sl ZaU))] [.row 76 ZaU] cloneElem := Zta (t := 30) (e := 76) (by_ := 24) (b2 := 88) (enS1) Tryz.func119 (by kernel_rfl) (by kernel_rfl) (by kernel_rfl) (by kernel_rfl) (by kernel_rfl) false rfl fun l => ⟨.c .bad, [1031, 1029, 1029], by kernel_rfl⟩
def cx_cloneElem : Ctx := Zba cxS1 119 (ZaV [(false, .ty false (.sl ZaU))] [.row 76 ZaU] cloneElem)
theorem ZhD : EnvFull Tryz.prog cx_cloneElem := Zas (enS1) ZpX.callOk
def cloneStrs : ((List ByteArray) × Unit) -> Option ((List ByteArray) × Unit) := fun x => bif bound (0 + List.length x.1) 16 then some (x.1, ()) else none
theorem Zqi : OC Tryz.prog 120 [(false, .ty false (.sl .str))] [.ty false (.sl .str)] cloneStrs := OC.clone (k := true) (Zeg (t := 73) (e := 9) (by_ := 24) (b2 := 16) (ZhD) Tryz.func120 (by kernel_rfl) (by kernel_rfl) (by kernel_rfl) (by kernel_rfl) (by kernel_rfl) false rfl fun l => ⟨.c .bad, [1031, 1029, 1029], by kernel_rfl⟩)
def cx_cloneStrs : Ctx := Zba cx_cloneElem 120 (ZaV [(false, .ty false (.sl .str))] [.ty false (.sl .str)] cloneStrs)
theorem ZhZ : EnvFull Tryz.prog cx_cloneStrs := Zas (ZhD) Zqi.callOk
def cloneNodes : ((List ZaX) × Unit) -> Option ((List ZaX) × Unit) := fun x => bif bound (0 + List.length x.1) 80 then some (x.1, ()) else none
theorem ZnW : OC Tryz.prog 121 [(false, .ty false (.sl Zca))] [.ty false (.sl Zca)] cloneNodes := OC.clone (k := true) (Zeg (t := 74) (e := 152) (by_ := 24) (b2 := 80) (ZhZ) Tryz.func121 (by kernel_rfl) (by kernel_rfl) (by kernel_rfl) (by kernel_rfl) (by kernel_rfl) false rfl fun l => ⟨.c .bad, [1031, 1029, 1029], by kernel_rfl⟩)
def cx_cloneNodes : Ctx := Zba cx_cloneStrs 121 (ZaV [(false, .ty false (.sl Zca))] [.ty false (.sl Zca)] cloneNodes)
theorem Zht : EnvFull Tryz.prog cx_cloneNodes := Zas (ZhZ) ZnW.callOk
def ZqB : (Int × (Int × (Za5 × Unit))) -> Br ((Int × (Int × (Za5 × Unit))) ⊕ ((Int × Unit) ⊕ Unit)) := fun (a, b, c, ()) =>
 (.cond (decide (b < (c.1.length : Int)))
 (.cond (decide (a < (c.1.length : Int)))
 (.cond (decide (0 <= b) && decide (b < (c.1.length : Int)))
 (.cond (!(c.1.getD b.toNat zV2).2.2.1)
 (.ret (.inr (.inl (b, ()))))
 (.ret (.inl (a, IntKind.wrap .i64 (b + 1), c, ()))))
 (.no))
 (.ret (.inr (.inr (())))))
 (.ret (.inr (.inr (())))))
def nextQ_w0 := Zag fun x => (ZqB x).run
def nextQ_B : (Za5 × (Int × Unit)) -> Br (Int × Unit) := fun (p0, p1, ()) =>
 (.opt (nextQ_w0 (p1, if IntKind.wrap .i64 (p1 + 1) < 0 then 0 else IntKind.wrap .i64 (p1 + 1), p0, ())) fun a =>
 (.sum a (fun b =>
 (.ret (b.1, ()))) (fun c =>
 (.ret (-1, ())))))
def nextQ := fun x => (nextQ_B x).run
def nextQ_L : List Lp := [
 .mk 2 (shO 31 [(2, .c (.ref 1026 0 0))] [(1026, [])] [sI 1, sI 5, .tv 1026 true zA5] []) ([exO .ret 31 [] [] [sI 4] [], exO (.exit 0) 31 [] [] [] []]) ZqB]
theorem Zop : OC Tryz.prog 87 [(false, .ty true zA5), (false, .ty false (.int .i64))] [.ty false (.int .i64)] nextQ := OC.lp Zht 1024 Tryz.func87 nextQ_L (by kernel_rfl) ⟨fun _ => by kernel_rfl, trivial⟩ (fun _ => by kernel_rfl)
def cx_nextQ : Ctx := ocx cx_cloneNodes Zop
theorem ZoL : EnvFull Tryz.prog cx_nextQ := ocn Zht Zop
def Zgy : (Int × (Za5 × Unit)) -> Br ((Int × (Za5 × Unit)) ⊕ ((Int × Unit) ⊕ Unit)) := fun (a, b, ()) =>
 (.cond (decide (a >= 0))
 (.cond (decide (0 <= a) && decide (a < (b.1.length : Int)))
 (.cond (!(b.1.getD a.toNat zV2).2.2.1)
 (.ret (.inr (.inl (a, ()))))
 (.ret (.inl (IntKind.wrap .i64 (a - 1), b, ()))))
 (.no))
 (.ret (.inr (.inr (())))))
def lastQ_w0 := Zag fun x => (Zgy x).run
def Zr0 : (Za5 × Unit) -> Br (Int × Unit) := fun (p0, ()) =>
 (.opt (lastQ_w0 (IntKind.wrap .i64 ((p0.1.length : Int) - 1), p0, ())) fun a =>
 (.sum a (fun b =>
 (.ret (b.1, ()))) (fun c =>
 (.ret (-1, ())))))
def lastQ := fun x => (Zr0 x).run
def lastQ_L : List Lp := [
 .mk 2 (shO 20 [(1, .c (.ref 1025 0 0))] [(1025, [])] [sI 3, .tv 1025 true zA5] []) ([exO .ret 20 [] [] [sI 2] [], exO (.exit 0) 20 [] [] [] []]) Zgy]
theorem ZgI : OC Tryz.prog 100 [(false, .ty true zA5)] [.ty false (.int .i64)] lastQ := OC.lp ZoL 1024 Tryz.func100 lastQ_L (by kernel_rfl) ⟨fun _ => by kernel_rfl, trivial⟩ (fun _ => by kernel_rfl)
def cx_lastQ : Ctx := ocx cx_nextQ ZgI
theorem en_lastQ : EnvFull Tryz.prog cx_lastQ := ocn ZoL ZgI
def Zhp : (Int × (Int × zA30)) -> Br ((Int × (Int × zA30)) ⊕ zA30) := fun (a, b, c, d, e, f, g, ()) =>
 (.cond (decide (b < a))
 (.cond (decide (0 <= b) && decide (b < (g.length : Int)))
 (.opt (cloneStrs ((g.getD b.toNat zV2).2.1, ())) fun h =>
 (.opt (cloneNodes ((g.getD b.toNat zV2).2.2.2.2.2, ())) fun i =>
 (.ret (.inl (a, IntKind.wrap .i64 (b + 1), c, d, e, f, List.set (List.set g b.toNat ((g.getD b.toNat zV2).1, h.1, (g.getD b.toNat zV2).2.2)) b.toNat ((List.getD (List.set g b.toNat ((g.getD b.toNat zV2).1, h.1, (g.getD b.toNat zV2).2.2)) b.toNat zV2).1, (List.getD (List.set g b.toNat ((g.getD b.toNat zV2).1, h.1, (g.getD b.toNat zV2).2.2)) b.toNat zV2).2.1, (List.getD (List.set g b.toNat ((g.getD b.toNat zV2).1, h.1, (g.getD b.toNat zV2).2.2)) b.toNat zV2).2.2.1, (List.getD (List.set g b.toNat ((g.getD b.toNat zV2).1, h.1, (g.getD b.toNat zV2).2.2)) b.toNat zV2).2.2.2.1, (List.getD (List.set g b.toNat ((g.getD b.toNat zV2).1, h.1, (g.getD b.toNat zV2).2.2)) b.toNat zV2).2.2.2.2.1, i.1), ())))))
 (.no))
 (.ret (.inr (c, d, e, f, g, ()))))
def copyQ_w0 := Zag fun x => (Zhp x).run
def Zro : (Za5 × Unit) -> Br (Za5 × Unit) := fun (p0, ()) =>
 (.opt (cloneElem (p0.1, ())) fun a =>
 (.opt (copyQ_w0 ((a.1.length : Int), 0, p0.2.1, p0.2.2, 0, 0, a.1, ())) fun b =>
 (.ret ((b.2.2.2.2.1, b.1, b.2.1), ()))))
def copyQ := fun x => (Zro x).run
def copyQ_L : List Lp := [
 .mk 3 (shO 37 [(1, .c (.ref 1025 0 0)), (2, .c (.ref 1026 0 0))] [(1025, [.mfull 1057668, .bad, .bad]), (1026, [.nils, .bad, .bad]), (1057668, [])] [sI 11, sI 12, .cell 1025 1 false (.int .i64), .cell 1025 2 false (.int .i64), .cell 1026 1 false (.int .i64), .cell 1026 2 false (.int .i64), .ar 1057668 false 76 ZaU] []) ([exO (.exit 0) 37 [(1, .c (.ref 1025 0 0)), (2, .c (.ref 1026 0 0))] [(1025, [.mfull 1057668, .bad, .bad]), (1026, [.nils, .bad, .bad]), (1057668, [])] [.cell 1025 1 false (.int .i64), .cell 1025 2 false (.int .i64), .cell 1026 1 false (.int .i64), .cell 1026 2 false (.int .i64), .ar 1057668 false 76 ZaU] []]) Zhp]
theorem Zqr : OC Tryz.prog 86 [(false, .ty false zA5)] [.ty false zA5] copyQ := OC.lp en_lastQ 1024 Tryz.func86 copyQ_L (by kernel_rfl) ⟨fun _ => by kernel_rfl, trivial⟩ (fun _ => by kernel_rfl)
end
end Go.Proofs.YtkbdofnbagmlfaaGreat

namespace Go.Proofs.YtkbdofnbagmlfaaGreat
open Go.PI Go
def QFew (q : Qry) : Prop := q.1.length <= 100 /\ ∀ e ∈ q.1, e.2.1.length <= 1000 /\ e.2.2.2.2.2.length <= 1000
theorem ZpI {α : Type} (l : List α) (i : Nat) (d x : α) (h : i < l.length) (hx : x = l.getD i d) : l.set i x = l := by
 subst hx
 rw [Za1 l i d h, List.set_getElem_self]
theorem Zq4 (l : List Elm) (hl : l.length <= 100) (hf : ∀ e ∈ l, e.2.1.length <= 1000 /\ e.2.2.2.2.2.length <= 1000) (a b c d i : Int) (h0 : 0 <= i) (h1 : i <= l.length) :
  copyQ_w0 ((l.length : Int), i, a, b, c, d, l, ()) = some (a, b, c, d, l, ()) \/ ∃ c' d', copyQ_w0 ((l.length : Int), i, a, b, c, d, l, ()) = some (a, b, c', d', l, ()) := by
 suffices h : ∃ z, copyQ_w0 ((l.length : Int), i, a, b, c, d, l, ()) = some z /\ ∃ c' d', z = (a, b, c', d', l, ()) by
  obtain ⟨z, h, c', d', rfl⟩ := h
  exact .inr ⟨c', d', h⟩
 refine Zao (step := fun x => (Zhp x).run) (Q := fun y z => ∃ c' d', z = (a, b, c', d', l, ())) (fun y => y.1 = (l.length : Int) /\ 0 <= y.2.1 /\ y.2.1 <= l.length /\ y.2.2.1 = a /\ y.2.2.2.1 = b /\ y.2.2.2.2.2.2.1 = l) (fun y => ((l.length : Int) - y.2.1).toNat) ?_ _ ⟨rfl, h0, h1, rfl, rfl, rfl⟩
 rintro ⟨n, i, a', b', c', d', l', ⟨⟩⟩ hx
 dsimp only at hx ⊢
 obtain ⟨rfl, h0, h1, rfl, rfl, rfl⟩ := hx
 unfold Zhp
 by_cases hi : i < (l'.length : Int)
 ·have hw : IntKind.wrap .i64 (i + 1) = i + 1 := Go.PI.wrap_small (by omega) (by omega)
  have hlt : i.toNat < l'.length := by omega
  have hm : l'.getD i.toNat eZ' ∈ l' := by rw [Za1 l' _ _ hlt]; exact List.getElem_mem hlt
  have hb1 : bound (0 + (l'.getD i.toNat eZ').2.1.length) 16 = true := by have := (hf _ hm).1; unfold bound; exact decide_eq_true (by omega)
  have hb2 : bound (0 + (l'.getD i.toNat eZ').2.2.2.2.2.length) 80 = true := by have := (hf _ hm).2; unfold bound; exact decide_eq_true (by omega)
  simp only [Br.run, decide_eq_true hi, decide_eq_true h0, Bool.and_self, cond_true, hw, cloneStrs, cloneNodes, hb1, hb2]
  have e1 : l'.set i.toNat ((l'.getD i.toNat eZ').1, (l'.getD i.toNat eZ').2.1, (l'.getD i.toNat eZ').2.2) = l' := ZpI _ _ eZ' _ hlt rfl
  refine .inl ⟨_, rfl, ⟨rfl, by dsimp only; omega, by dsimp only; omega, rfl, rfl, ?_⟩, by dsimp only; omega, fun z hz => hz⟩
  dsimp only
  rw [e1]
  exact ZpI _ _ eZ' _ hlt rfl
 ·simp only [Br.run, decide_eq_false hi, cond_false]
  exact .inr ⟨_, rfl, _, _, rfl⟩
theorem Zol {q : Qry} (h : QFew q) : copyQ (q, ()) = some (q, ()) := by
 unfold copyQ Zro cloneElem
 have hb : bound (0 + q.1.length) 88 = true := by have := h.1; unfold bound; exact decide_eq_true (by omega)
 obtain ⟨c', d', hz⟩ : ∃ c' d', copyQ_w0 ((q.1.length : Int), 0, q.2.1, q.2.2, 0, 0, q.1, ()) = some (q.2.1, q.2.2, c', d', q.1, ()) := by
  rcases Zq4 q.1 h.1 h.2 q.2.1 q.2.2 0 0 0 (by omega) (by omega) with h | h
  ·exact ⟨_, _, h⟩
  ·exact h
 simp only [Br.run, hb, cond_true, hz]
end Go.Proofs.YtkbdofnbagmlfaaGreat

namespace Go.Proofs.YtkbdofnbagmlfaaGreat
open Go.PI Go
abbrev zM1 : Ty := .sl (.st (.pair .str (.pair (.sl .str) (.pair .bool (.pair (.int .i64) (.pair (.int .i64) (.sl (.st (.pair (.int .i64) (.pair (.st (.pair (.int .i64) (.pair (.int .i64) (.pair .str .bool)))) (.pair .str .str)))))))))))
abbrev zM2 : Type := List (ByteArray × ((List ByteArray) × (Bool × (Int × (Int × (List (Int × ((Int × (Int × (ByteArray × Bool))) × (ByteArray × ByteArray)))))))))
abbrev zM3 : Ty := Ty.st (Ty.pair (Ty.sl (Ty.st (Ty.pair Ty.str (Ty.pair (Ty.sl Ty.str) (Ty.pair Ty.bool (Ty.pair (Ty.int IntKind.i64) (Ty.pair (Ty.int IntKind.i64) (Ty.sl (Ty.st (Ty.pair (Ty.int IntKind.i64) (Ty.pair (Ty.st (Ty.pair (Ty.int IntKind.i64) (Ty.pair (Ty.int IntKind.i64) (Ty.pair Ty.str Ty.bool)))) (Ty.pair Ty.str Ty.str)))))))))))) (Ty.pair (Ty.int IntKind.i64) (Ty.int IntKind.i64)))
abbrev zM7 : Type := Option ((Option (List (ByteArray × (List (ByteArray × Int))))) × ((zM2 × (Int × Int)) × (Option ((zM2 × (Int × Int)) × (List (Int × Int))))))
abbrev zM8 : Ty := .st (.pair .str (.pair .str (.pair (.int .i64) (.pair (.int .i64) (.sl (.st (.pair (.int .i64) (.pair (.int .i64) (.pair .str .bool)))))))))
abbrev zM9 : Ty := .pair (.int .i64) (.int .i64)
abbrev zM4 : Ty := .st (.pair (.int .i64) (.pair (.chain (.st zM9)) (.pair (.chain (.st (.pair .str zM8))) (.pair (.int .i64) (.pair (.st (.pair (.int .i64) zM9)) .bool)))))
abbrev zM6 : Ty := .ptr (.st (.pair (.ptr (.st (.sl (.st (.pair .str (.sl (.st (.pair .str (.int .i64))))))))) (.pair (.st (.pair zM1 zM9)) (.ptr (.st (.pair (.st (.pair zM1 zM9)) (.sl (.st zM9))))))))
abbrev ZaY : Ty := Ty.sl (Ty.st (Ty.pair (Ty.int IntKind.i64) (Ty.int IntKind.i64)))
abbrev Zez : Type := ByteArray × (ByteArray × (Int × (Int × (List (Int × (Int × (ByteArray × Bool)))))))
abbrev zM5 : Type := Int × ((List (Int × Int)) × ((List (ByteArray × Zez)) × (Int × ((Int × (Int × Int)) × Bool))))
abbrev ZdC : Ty := Ty.ptr (Ty.st (Ty.sl (Ty.st (Ty.pair Ty.str (Ty.sl (Ty.st (Ty.pair Ty.str (Ty.int IntKind.i64))))))))
abbrev ZeE : Type := zM7 × (zM2 × (Int × (Int × (Int × ((List zM5) × Unit)))))
abbrev ZcN : Type := List (List (Int × Int))
end Go.Proofs.YtkbdofnbagmlfaaGreat

namespace Go.Proofs.YtkbdofnbagmlfaaGreat
open Go.PI Go
abbrev zT2 : Type := (List (Int × Int)) × (Int × Unit)
abbrev zT4 : Type := Int × (Int × (Int × ((List zA2) × Unit)))
abbrev zT6 : Type := Int × (Int × (Za5 × Unit))
abbrev zT7 : Type := Int × (Int × (zA23 × Unit))
end Go.Proofs.YtkbdofnbagmlfaaGreat

namespace Go.Proofs.YtkbdofnbagmlfaaGreat
open Go.PI Go
abbrev zB1 : Type := (Za5 × ((List zA2) × zA23)) × (Int × ((List Int) × ((List (Int × Int)) × (ZaK × (Int × (Int × Unit))))))
abbrev zB2 : Type := (Za5 × ((List zA2) × zA23)) × (Int × (Int × ((List (Int × Int)) × (ZaK × (Int × (Int × Unit))))))
abbrev zB3 : Type := (Za5 × ((List zA2) × zA23)) × Unit
abbrev zB4 : Type := (List (Int × Int)) × (ZaK × (Int × (Int × ((List zA1) × (Int × (Int × ((List zA2) × (Int × (Int × (zA1 × (zA23 × Unit)))))))))))
abbrev zB5 : Type := (List zA1) × (Int × (Int × ((List zA2) × (zA23 × Unit))))
abbrev zB6 : Type := (List zA1) × (Int × (Int × ((List zA2) × (Int × (Int × (zA23 × Unit))))))
end Go.Proofs.YtkbdofnbagmlfaaGreat
