/- Loops by what a round comes to, where nothing need be known of how they end: what a loop comes to, if it ends. Data with blocks of their own: what is handed over for good, or to be changed; told by a pattern. Patterns and memory: data of one's own are told by names; what names tell are data. What names tell are data: patterns read. What a function comes to, by data that lie so: what comes in, what comes back changed, what is told. A contract out of a run: what is there behind it is read. A contract serves callers: what is handed over goes, what comes back lies where it lay. Contracts out of a reckoning; functions that call themselves; statements. What a tree comes to by another one that may come to less: twins that the kernel reckons. A new link of a chain: from a block of one's own to a datum. Contracts out of triples with more ends than one; copies of lists that are one's own. Functions that put a row of one's own in another order, in place. A row put in another order, in place: as a callee. Walked functions in a short form: of each loop its head, its exits and what a round comes to. Callees that are gone through in place, with their loops told. Regions that draw their order, by the states that any order comes by. -/
import Derived.Test.YtkbdofnbagmlfaaGreatGd
namespace Go.PI
open Go.RowKit
section
variable {X Z : Type}
def Zb3 (step : X -> Option (X ⊕ Z)) : Nat -> X -> Option Z
 | 0, _ => none
 | k + 1, x => match step x with
  | some (.inl x') => Zb3 step k x'
  | some (.inr z) => some z
  | none => none
theorem ZgS {step : X -> Option (X ⊕ Z)} : ∀ (k : Nat) {x : X} {z : Z}, Zb3 step k x = some z -> ∀ j, k <= j -> Zb3 step j x = some z
 | 0, _, _, h, _, _ => by cases h
 | k + 1, x, z, h, j, hj => by
  obtain ⟨j, rfl⟩ : ∃ i, j = i + 1 := ⟨j - 1, by omega⟩
  simp only [Zb3] at h ⊢
  split at h
  ·exact ZgS k h j (by omega)
  ·exact h
  ·cases h
open Classical in
noncomputable def Zag (step : X -> Option (X ⊕ Z)) (x : X) : Option Z := match Zb3 step 200 x with
 | some z => some z
 | none => if h : ∃ z k, Zb3 step k x = some z then some (Classical.choose h) else none
theorem ZjR {step : X -> Option (X ⊕ Z)} {k : Nat} {x : X} {z : Z} (h : Zb3 step k x = some z) : Zag step x = some z := by
 have two : ∀ {i j : Nat} {y : Z}, Zb3 step i x = some z -> Zb3 step j x = some y -> some y = some z := fun {i j y} hi hj => by
  rw [<- ZgS i hi (max i j) (by omega), <- ZgS j hj (max i j) (by omega)]
 unfold Zag
 split
 ·rename_i y hy
  exact two h hy
 ·have hx : ∃ z k, Zb3 step k x = some z := ⟨z, k, h⟩
  rw [dif_pos hx]
  obtain ⟨j, hj⟩ := Classical.choose_spec hx
  exact two h hj
theorem ZeJ {step : X -> Option (X ⊕ Z)} {x : X} {z : Z} (h : Zag step x = some z) : ∃ k, Zb3 step k x = some z := by
 unfold Zag at h
 split at h
 ·rename_i y hy
  obtain rfl := Option.some.inj h
  exact ⟨200, hy⟩
 ·split at h
  ·rename_i hx
   obtain ⟨j, hj⟩ := Classical.choose_spec hx
   obtain rfl := Option.some.inj h
   exact ⟨j, hj⟩
  ·cases h
attribute [irreducible] Zag
theorem Zo9 (step : X -> Option (X ⊕ Z)) (x : X) : Zag step x = (step x).bind fun
  | .inl x' => Zag step x'
  | .inr z => some z := by
 cases hs : step x with
 | none =>
  show _ = none
  cases h : Zag step x with
  | none => rfl
  | some z =>
   obtain ⟨k, hk⟩ := ZeJ h
   cases k with
   | zero => cases hk
   | succ k => simp only [Zb3, hs] at hk; cases hk
 | some r =>
  cases r with
  | inr z =>
   exact ZjR (k := 1) (by simp [Zb3, hs])
  | inl x' =>
   show _ = Zag step x'
   cases h : Zag step x' with
   | some z =>
    obtain ⟨k, hk⟩ := ZeJ h
    exact ZjR (k := k + 1) (by simp only [Zb3, hs]; exact hk)
   | none =>
    cases h2 : Zag step x with
    | none => rfl
    | some z =>
     obtain ⟨k, hk⟩ := ZeJ h2
     cases k with
     | zero => cases hk
     | succ k =>
      simp only [Zb3, hs] at hk
      rw [ZjR hk] at h
      cases h
theorem ZhY {step : X -> Option (X ⊕ Z)} {x x' : X} (h : step x = some (.inl x')) : Zag step x = Zag step x' := by rw [Zo9, h]; rfl
theorem Zdn {step : X -> Option (X ⊕ Z)} {x : X} {z : Z} (h : step x = some (.inr z)) : Zag step x = some z := by rw [Zo9, h]; rfl
theorem Zao {step : X -> Option (X ⊕ Z)} {Q : X -> Z -> Prop} (Inv : X -> Prop) (m : X -> Nat) (h : ∀ x, Inv x -> (∃ x', step x = some (.inl x') /\ Inv x' /\ m x' < m x /\ ∀ z, Q x' z -> Q x z) \/ (∃ z, step x = some (.inr z) /\ Q x z)) : ∀ x, Inv x -> ∃ z, Zag step x = some z /\ Q x z := by
 have key : ∀ n x, m x <= n -> Inv x -> ∃ z, Zag step x = some z /\ Q x z := by
  intro n
  induction n with
  | zero =>
   intro x hn hi
   rcases h x hi with ⟨x', _, _, h3, _⟩ | ⟨z, h1, h2⟩
   ·omega
   ·exact ⟨z, Zdn h1, h2⟩
  | succ n ih =>
   intro x hn hi
   rcases h x hi with ⟨x', h1, h2, h3, h4⟩ | ⟨z, h1, h2⟩
   ·obtain ⟨z, h5, h6⟩ := ih x' (by omega) h2
    exact ⟨z, (ZhY h1).trans h5, h4 z h6⟩
   ·exact ⟨z, Zdn h1, h2⟩
 exact fun x hi => key (m x) x (Nat.le_refl _) hi
end
variable {P : Program} {c : Ctx} {g : Cfg} {s st : St} {a : Act} {w : World} {kp kf : List Nat} {X Z : Type}
def goneK (kp kf ks : List Nat) : List Nat := bif (ks.filter fun n => memb n kp).all (fun n => memb n kf) then kf else (ks.filter fun n => memb n kp) ++ kf
def normF (kp kf : List Nat) (base : Nat) (h : Shape) (s : St) : St := ⟨(s.shape base h).t, (s.shape base h).m, goneK kp kf (s.shape base h).k⟩
theorem Ok.normF [DR] (hg : ∀ n, look n g.m0 ≠ none -> n ∈ kp) (hok : Ok g s a w) (base : Nat) (h : Shape) : Ok g (Go.PI.normF kp kf base h s) a w := by
 obtain ⟨μ, I, hr⟩ := ZjN hok base h
 refine ⟨μ, I, { toMRel := hr.toMRel, tm := hr.tm, len := hr.len, dfr := hr.dfr, kept := fun n hn hk => hr.kept n hn fun hm => hk ?_ }⟩
 have hm' : n ∈ (List.filter (fun n => memb n kp) (s.shape base h).k) := List.mem_filter.2 ⟨hm, Zah.2 (hg n hn)⟩
 show n ∈ goneK kp kf _
 unfold goneK
 cases hc : ((List.filter (fun n => memb n kp) (s.shape base h).k).all fun n => memb n kf) with
 | true => exact Zah.1 (List.all_eq_true.1 hc n hm')
 | false => exact List.mem_append.2 (.inl hm')
def Zek (kp kf : List Nat) (c : Ctx) (p : Par) (h : Exit -> Shape) (a : Code) (s : St) : Br (Exit × St) := (ev c p a s).bind fun r => .ret (r.1, normF kp kf c.base (h r.1) r.2)
theorem Tri.normF [DR] {code : Code} {Q : Exit -> St -> Prop} (hg : ∀ n, look n g.m0 ≠ none -> n ∈ kp) {base : Nat} {h : Exit -> Shape} (ht : Tri P g code s fun e st => Q e (Go.PI.normF kp kf base (h e) st)) : Tri P g code s Q := by
 intro a w hok
 refine wp_mono (ht a w hok) ?_
 rintro e a' w' ⟨st, h1, h2⟩
 exact ⟨_, h1, h2.normF hg base (h e)⟩
def ZgH {X : Type} (kp kf : List Nat) (base : Nat) (h : Shape) (parse : St -> Option X) (F : X -> Br (Exit × St)) : St -> Br (Exit × St) := fun s => match parse (normF kp kf base h s) with
 | some x => F x
 | none => .no
def Skel.fillK (kf : List Nat) (f : Skel) (l : List Hole) (x : Holes l) : St := ⟨(f.fill l x).t, (f.fill l x).m, kf⟩
def Zkz : List Nat -> List Nat -> Bool
 | [], [] => true
 | a :: l, b :: r => Nat.beq a b && Zkz l r
 | _, _ => false
theorem Zpz : ∀ {l r : List Nat}, Zkz l r = true -> l = r
 | [], [], _ => rfl
 | a :: l, b :: r, h => by
  simp only [Zkz, Bool.and_eq_true] at h
  rw [Nat.eq_of_beq_eq_true h.1, Zpz h.2]
 | [], _ :: _, h => by cases h
 | _ :: _, [], h => by cases h
def Skel.parseK (kf : List Nat) (f : Skel) (l : List Hole) (s : St) : Option (Holes l) := bif Zkz s.k kf then f.parse l ⟨s.t, s.m, []⟩ else none
theorem Skel.parseK_ok {f : Skel} {l : List Hole} (s : St) (x : Holes l) (h : f.parseK kf l s = some x) : s = f.fillK kf l x := by
 unfold Skel.parseK at h
 cases hk : Zkz s.k kf with
 | false => rw [hk] at h; cases h
 | true =>
  rw [hk] at h
  have := Skel.parse_ok h
  have hk := Zpz hk
  unfold Skel.fillK
  rw [<- this, <- hk]
def ZcJ (S : X -> St) (leaf : Z -> Exit × St) : X ⊕ Z -> Br (Exit × St)
 | .inl x' => .ret (.normal, S x')
 | .inr z => .ret (leaf z)
theorem ZaL.auto [DR] (he : EnvFull P c) (hg : ∀ n, look n g.m0 ≠ Option.none -> n ∈ kp) (p : Par) {b : Code} (hlo : ZaB P g p b) (h : Exit -> Shape) (S : X -> St) {parse : St -> Option X} (hparse : ∀ s x, parse s = some x -> s = S x)
  (step : X -> Br (X ⊕ Z)) (leaf : Z -> Exit × St) (hl : ∀ z, (leaf z).1 ≠ .normal) (tail : Z -> Br (Exit × St)) (ht : ∀ z, (tail z).run = some (leaf z))
  (hr : ∀ x, Zek kp kf c p h b (S x) = (step x).bind (ZcJ S leaf)) : ZaL P g (ZgH kp kf c.base (h .normal) parse fun x => .opt (Zag (fun x => (step x).run) x) tail) b := by
 intro s y st hs
 unfold ZgH at hs
 split at hs
 ·rename_i x hx
  obtain ⟨z, h1, h2⟩ := Br.opt_some hs
  rw [ht z] at h2
  have h2 := Option.some.inj h2
  obtain ⟨k, hk⟩ := ZeJ h1
  refine Tri.weaken (fun a w hok => hok.normF (kf := kf) hg c.base (h .normal)) ?_
  refine Tri.loop (fun n s => ∃ x, s = S x /\ Zb3 (fun x => (step x).run) n x = some z) (n := k) ⟨x, hparse _ _ hx, hk⟩ ?_
  rintro n s ⟨x, rfl, hn⟩
  refine Tri.normF (kf := kf) hg (base := c.base) (h := h) ?_
  cases n with
  | zero => cases hn
  | succ n =>
   simp only [Zb3] at hn
   have hround : (Zek kp kf c p h b (S x)).run = ((step x).run).bind fun r => (ZcJ S leaf r).run := by rw [hr x, Br.run_bind]
   split at hn
   ·rename_i x' hs'
    rw [hs'] at hround
    obtain ⟨⟨e, s1⟩, k1, k2⟩ := Br.bind_some hround
    obtain ⟨rfl, k3⟩ := Prod.mk.inj (Option.some.inj k2)
    refine (Tri.ev_ok he p b hlo k1).mono ?_
    rintro e s' ⟨rfl, rfl⟩
    exact ⟨n, by omega, x', k3, hn⟩
   ·rename_i z' hs'
    obtain rfl := Option.some.inj hn
    rw [hs'] at hround
    obtain ⟨⟨e, s1⟩, k1, k2⟩ := Br.bind_some hround
    obtain ⟨k0, k3⟩ := Prod.mk.inj (Option.some.inj k2)
    refine (Tri.ev_ok he p b hlo k1).mono ?_
    rintro e' s' ⟨rfl, rfl⟩
    have hne := hl z'
    have hE : e' = y := k0.trans (congrArg Prod.fst h2)
    have hS : Go.PI.normF kp kf c.base (h e') s' = st := k3.trans (congrArg Prod.snd h2)
    have hy : y ≠ .normal := by rw [h2] at hne; exact hne
    cases e' with
    | normal => exact absurd hE.symm hy
    | _ => exact ⟨hE, hS⟩
   ·cases hn
 ·cases hs
end Go.PI

namespace Go.PI
open Go.RowKit
inductive Pat
 | nil | ty (b : Bool) (τ : Ty) | row (e : Nat) (τ : Ty) | obj (p : Pat) | two (p q : Pat) | fn (g : Nat) (p : Pat) | rf (τ : Ty)
@[reducible] def Pat.T : Pat -> Type
 | .nil => Unit
 | .ty _ τ => τ.T
 | .row _ τ => List τ.T
 | .obj p => p.T
 | .two p q => p.T × q.T
 | .fn _ p => p.T
 | .rf τ => τ.T
def Pat.sz : Pat -> Nat
 | .nil => 0
 | .ty _ τ => τ.sz
 | .row _ _ => 1
 | .obj _ => 1
 | .two p q => p.sz + q.sz
 | .fn _ _ => 1
 | .rf _ => 1
def Pat.cnt : Pat -> Nat
 | .nil => 0
 | .ty _ _ => 0
 | .row _ _ => 1
 | .obj p => p.cnt + 1
 | .two p q => p.cnt + q.cnt
 | .fn _ p => p.cnt
 | .rf _ => 0
def PK (J : Bool -> Nat -> Prop) (w : World) : (p : Pat) -> p.T -> List Value -> List Nat -> Prop
 | .nil, _, cs, B => cs = [] /\ B = []
 | .ty b τ, x, cs, B => B = [] /\ K (J b) w τ x cs
 | .row e τ, xs, cs, B => ∃ A cap, cs = [.slice A (List.length xs) cap] /\ List.length xs <= cap /\ cap <= Mx /\
   ((A = none /\ cap = 0 /\ B = []) \/ ∃ b cur, A = some ⟨b, 0, none⟩ /\ B = [b] /\ w.heap[b]? = some (.cells cur e (0, 0)) /\ cur.size = cap * τ.sz /\ Row (K (J false) w τ) τ.sz xs (cur.toList.take (List.length xs * τ.sz)))
 | .obj p, x, cs, B => ∃ b cur e B', cs = [.pointer (some ⟨b, 0, none⟩)] /\ B = b :: B' /\ w.heap[b]? = some (.cells cur e (0, 0)) /\ (∀ u ∈ cur.toList, u.oneCell' = true) /\ PK J w p x cur.toList B'
 | .two p q, x, cs, B => ∃ c1 c2 B1 B2, cs = c1 ++ c2 /\ B = B1 ++ B2 /\ PK J w p x.1 c1 B1 /\ PK J w q x.2 c2 B2
 | .fn _ _, _, _, _ => False
 | .rf τ, x, cs, B => B = [] /\ K (J true) w (.ptr τ) (some x) cs
theorem PK.len {J : Bool -> Nat -> Prop} {w : World} : ∀ {p : Pat} {x : p.T} {cs : List Value} {B : List Nat}, PK J w p x cs B -> cs.length = p.sz
 | .nil, _, _, _, h => by rw [h.1]; rfl
 | .ty _ _, _, _, _, h => h.2.length
 | .row _ _, _, _, _, ⟨_, _, h, _⟩ => by rw [h]; rfl
 | .obj _, _, _, _, ⟨_, _, _, _, h, _⟩ => by rw [h]; rfl
 | .two p q, _, _, _, ⟨_, _, _, _, h, _, h1, h2⟩ => by rw [h, List.length_append, PK.len h1, PK.len h2]; rfl
 | .fn _ _, _, _, _, h => h.elim
 | .rf _, _, _, _, h => h.2.length
def PV (J : Bool -> Nat -> Prop) (w : World) : (p : Pat) -> p.T -> Value -> List Nat -> Prop
 | .ty b τ, x, v, B => B = [] /\ VK (J b) w τ x v
 | .row e τ, x, v, B => PK J w (.row e τ) x [v] B
 | .obj p, x, v, B => PK J w (.obj p) x [v] B
 | .two p q, x, v, B => ∃ cs : List Value, v = .agg cs.toArray /\ (∀ u ∈ cs, u.oneCell' = true) /\ PK J w (.two p q) x cs B
 | .nil, _, _, _ => False
 | .rf τ, x, v, B => PK J w (.rf τ) x [v] B
 | .fn g p, x, v, B => ∃ cs : List Value, v = .func (.func g) #[] cs.toArray /\ PK J w p x cs B
def tyC (b : Bool) (τ : Ty) (x : τ.T) : List C := bif τ.isAgg then Zbk b τ x else [.ty b τ x]
def Pat.encB : (p : Pat) -> p.T -> List C -> MB
 | .ty b τ, x, _ => .tv b τ x
 | .nil, _, l => .dv l
 | .row _ _, _, l => .dv l
 | .obj _, _, l => .dv l
 | .two _ _, _, l => .dv l
 | .fn _ _, _, l => .dv l
 | .rf _, _, l => .dv l
def Pat.enc : (p : Pat) -> p.T -> Nat -> List C × Mem
 | .nil, _, _ => ([], [])
 | .ty b τ, x, _ => (tyC b τ x, [])
 | .row e τ, xs, n => ([.mfull n], [(n, .ar false e τ xs)])
 | .obj p, x, n => ([.ref n 0 0], (n, p.encB x (p.enc x (n + 1)).1) :: (p.enc x (n + 1)).2)
 | .two p q, x, n => ((p.enc x.1 n).1 ++ (q.enc x.2 (n + p.cnt)).1, (q.enc x.2 (n + p.cnt)).2 ++ (p.enc x.1 n).2)
 | .fn _ _, _, _ => ([], [])
 | .rf τ, x, _ => ([.eref true τ [x] 0 0], [])
def Pat.encD : (p : Pat) -> p.T -> Nat -> D × Mem
 | .ty b τ, x, _ => (.c (.ty b τ x), [])
 | .row e τ, x, n => (.c (.mfull n), ((Pat.row e τ).enc x n).2)
 | .obj p, x, n => (.c (.ref n 0 0), ((Pat.obj p).enc x n).2)
 | .two p q, x, n => (.agg ((Pat.two p q).enc x n).1, ((Pat.two p q).enc x n).2)
 | .nil, _, _ => (.agg [], [])
 | .rf τ, x, _ => (.c (.eref true τ [x] 0 0), [])
 | .fn g p, x, n => (.fn g (p.enc x n).1, (p.enc x n).2)
def killM : List Nat -> Mem -> Mem
 | [], m => m
 | n :: r, m => killM r ((delm n m).map fun p => (p.1, p.2.kill n))
def Zgr : List Nat -> C -> C
 | [], c => c
 | n :: r, c => Zgr r (c.kill n)
def killDs (ns : List Nat) (d : D) : D := d.map (Zgr ns)
def MB.cellsB : MB -> Option (List C)
 | .dv l => some l
 | .tv t τ x => some (tyC t τ x)
 | .ar .. => none
def Pat.nms (m : Mem) : Pat -> List C -> Option (List Nat × List C)
 | .nil, l => some ([], l)
 | .ty _ τ, l => bif Nat.ble τ.sz l.length then some ([], l.drop τ.sz) else none
 | .row _ _, c :: r => match c with
  | .mfull n => some ([n], r)
  | .msl n 0 _ false => some ([n], r)
  | .nils => some ([], r)
  | _ => none
 | .obj p, c :: r => match c with
  | .ref n 0 0 => match look n m with
   | some mb => match mb.cellsB with
    | some l => match p.nms m l with
     | some (ns, []) => some (n :: ns, r)
     | _ => none
    | none => none
   | none => none
  | _ => none
 | .two p q, l => match p.nms m l with
  | some (ns, l) => match q.nms m l with
   | some (ks, l) => some (ns ++ ks, l)
   | none => none
  | none => none
 | .row _ _, [] => none
 | .obj _, [] => none
 | .fn _ _, _ => none
 | .rf _, _ :: r => some ([], r)
 | .rf _, [] => none
def Pat.kept (m : Mem) : Pat -> List C -> List Nat
 | .ty false τ, l => (l.take τ.sz).flatMap C.name
 | .obj p, c :: _ => match c with
  | .ref n 0 0 => match look n m with
   | some mb => match mb.cellsB with
    | some l => p.kept m l
    | none => []
   | none => []
  | _ => []
 | .two p q, l => p.kept m l ++ q.kept m (l.drop p.sz)
 | _, _ => []
def Pat.dec (ex : Bool) (ns : List Nat) (m mk : Mem) : (p : Pat) -> List C -> Option (p.T × List Nat × List C)
 | .nil, l => some ((), [], l)
 | .ty b τ, l => match (bif ex || b then ZbC mk τ ((l.take τ.sz).map (Zgr ns)) else retype τ (l.take τ.sz)) with
  | some ((t, x), []) => bif (b && !ex) || !t || !τ.hasP then some (x, [], l.drop τ.sz) else none
  | _ => none
 | .row e τ, c :: r => match c with
  | .mfull n => match look n m with
   | some (.ar t e' σ xs) => if h : σ = τ then (bif Nat.beq e' e && (!t || !τ.hasP) then some (cast (congrArg (fun s => List (Ty.T s)) h) xs, [n], r) else none) else none
   | _ => none
  | .msl n 0 l false => match look n m with
   | some (.ar t e' σ xs) => if h : σ = τ then (bif Nat.beq e' e && (!t || !τ.hasP) then some (List.take l (cast (congrArg (fun s => List (Ty.T s)) h) xs), [n], r) else none) else none
   | _ => none
  | .nils => some ([], [], r)
  | _ => none
 | .obj p, c :: r => match c with
  | .ref n 0 0 => match look n m with
   | some mb => match mb.cellsB with
    | some l => match p.dec ex ns m mk l with
     | some (x, ks, []) => some (x, n :: ks, r)
     | _ => none
    | none => none
   | none => none
  | _ => none
 | .two p q, l => match p.dec ex ns m mk l with
  | some (x, ks, l) => match q.dec ex ns m mk l with
   | some (y, js, l) => some ((x, y), ks ++ js, l)
   | none => none
  | none => none
 | .row _ _, [] => none
 | .obj _, [] => none
 | .fn _ _, _ => none
 | .rf τ, c :: r => bif ex then none else (match ZbC mk (.ptr τ) [Zgr ns c] with
  | some ((_, some x), []) => some (x, [], r)
  | _ => none)
 | .rf _, [] => none
def Pat.decD (ex : Bool) (ns : List Nat) (m mk : Mem) : (p : Pat) -> D -> Option (p.T × List Nat)
 | .ty b τ, d => match (bif ex || b then (killDs ns d).outp mk τ else d.asTy τ) with
  | some (t, x) => bif (b && !ex) || !t || !τ.hasP then some (x, []) else none
  | none => none
 | .row e τ, .c x => match (Pat.row e τ).dec ex ns m mk [x] with
  | some (y, ks, []) => some (y, ks)
  | _ => none
 | .obj p, .c x => match (Pat.obj p).dec ex ns m mk [x] with
  | some (y, ks, []) => some (y, ks)
  | _ => none
 | .two p q, .agg l => match (Pat.two p q).dec ex ns m mk l with
  | some (y, ks, []) => some (y, ks)
  | _ => none
 | .rf τ, .c x => match (Pat.rf τ).dec ex ns m mk [x] with
  | some (y, ks, []) => some (y, ks)
  | _ => none
 | .fn g p, .fn g' l => bif Nat.beq g' g then (match p.dec ex ns m mk l with
  | some (y, ks, []) => some (y, ks)
  | _ => none) else none
 | _, _ => none
def Pat.nmsD (m : Mem) : Pat -> D -> Option (List Nat)
 | .ty _ _, _ => some []
 | .two p q, .agg l => match (Pat.two p q).nms m l with
  | some (ns, []) => some ns
  | _ => none
 | .fn _ p, .fn _ l => match p.nms m l with
  | some (ns, []) => some ns
  | _ => none
 | p, .c x => match p.nms m [x] with
  | some (ns, []) => some ns
  | _ => none
 | _, _ => none
def Pat.keptD (m : Mem) : Pat -> D -> List Nat
 | .ty false _, d => d.names
 | .ty true _, _ => []
 | .fn _ p, .fn _ l => p.kept m l
 | p, .c x => p.kept m [x]
 | p, .agg l => p.kept m l
 | _, _ => []
end Go.PI

namespace Go.PI
open Go.RowKit
variable {g : Cfg} {w : World} {μ : Nm} {I : Bool -> Nat -> Prop}
structure MC (m : Mem) (w : World) (μ : Nm) (I : Bool -> Nat -> Prop) : Prop where
 mem : ∀ n mb, look n m = some mb -> (∃ b q, μ n = some (b, q) /\ BR μ I w (shp m) mb b q) \/ (μ n = none /\ ∃ t e τ, mb = .ar t e τ [])
 inj : ∀ n n' b q q', μ n = some (b, q) -> μ n' = some (b, q') -> look n m ≠ none -> look n' m ≠ none -> n = n'
 sep : ∀ n b q, look n m ≠ none -> μ n = some (b, q) -> ¬ I true b
theorem MRel.mc [DR] {m : Mem} (h : MRel g m w μ I) : MC m w μ I := ⟨h.mem, h.inj, h.sep⟩
theorem RC.there {m : Mem} {c : C} {v : Value} (h : RC μ I w (shp m) c v) {k : Nat} (hk : c.has k = true) : look k m ≠ none := by
 intro hl
 cases c with
 | ref n i o => simp only [C.has] at hk; obtain rfl := Nat.eq_of_beq_eq_true hk; obtain ⟨_, _, _, _, _, k2, _⟩ := h; simp [shp, hl] at k2
 | mfull n => simp only [C.has] at hk; obtain rfl := Nat.eq_of_beq_eq_true hk; obtain ⟨_, _, _, _, k2, _⟩ := h; simp [shp, hl] at k2
 | msl n s l cp => simp only [C.has] at hk; obtain rfl := Nat.eq_of_beq_eq_true hk; obtain ⟨_, _, _, _, _, _, ⟨_, _, k2, _⟩, _⟩ := h; simp [shp, hl] at k2
 | _ => simp [C.has] at hk
theorem MB.mapC_id (mb : MB) : mb.mapC id = mb := by cases mb <;> simp [MB.mapC]
theorem RC.lift {m m' : Mem} {μ' : Nm} (h : ∀ k, look k m ≠ none -> μ' k = μ k /\ shp m' k = shp m k) {c : C} {v : Value} (hc : RC μ I w (shp m) c v) : RC μ' I w (shp m') c v :=
 hc.same (fun _ _ k => k) (fun _ => Zaa _ _) fun k hk => h k (hc.there hk)
theorem RL.lift {m m' : Mem} {μ' : Nm} (h : ∀ k, look k m ≠ none -> μ' k = μ k /\ shp m' k = shp m k) {l : List C} {vs : List Value} (hl : RL μ I w (shp m) l vs) : RL μ' I w (shp m') l vs :=
 hl.imp fun _ _ _ hc => hc.lift h
theorem RD.lift {m m' : Mem} {μ' : Nm} (h : ∀ k, look k m ≠ none -> μ' k = μ k /\ shp m' k = shp m k) {d : D} {v : Value} (hd : RD μ I w (shp m) d v) : RD μ' I w (shp m') d v :=
 hd.imp fun _ _ hc => hc.lift h
theorem BR.lift {m m' : Mem} {μ' : Nm} (h : ∀ k, look k m ≠ none -> μ' k = μ k /\ shp m' k = shp m k) {mb : MB} {b q : Nat} (hb : BR μ I w (shp m) mb b q) : BR μ' I w (shp m') mb b q := by
 have := hb.map (φ := id) (fun c v hc => hc.lift h) (fun _ _ k => k) (fun _ => Zaa _ _) rfl
 rwa [MB.mapC_id] at this
theorem Zav (n : Nat) (mb : MB) (m : Mem) (k : Nat) : look k ((n, mb) :: m) = if k = n then some mb else look k m := by
 simp only [look]
 by_cases e : k = n
 ·subst e; rw [Zay, if_pos rfl]; rfl
 ·rw [Za4 (Ne.symm e), if_neg e]; rfl
def ZaR (μ : Nm) (n : Nat) (y : Option (Nat × Nat)) : Nm := fun k => if k = n then y else μ k
theorem MC.add {m : Mem} (h : MC m w μ I) {n : Nat} (hn : look n m = none) {mb : MB} {b q : Nat} (hb : BR μ I w (shp m) mb b q) (hL : ¬ Zai m μ b) (hI : ¬ I true b) :
  MC ((n, mb) :: m) w (ZaR μ n (some (b, q))) I /\ (∀ k, look k m ≠ none -> ZaR μ n (some (b, q)) k = μ k /\ shp ((n, mb) :: m) k = shp m k) := by
 have up : ∀ k, look k m ≠ none -> ZaR μ n (some (b, q)) k = μ k /\ shp ((n, mb) :: m) k = shp m k := by
  intro k hk
  have hne : k ≠ n := fun e => by subst e; exact hk hn
  refine ⟨by simp [ZaR, hne], ?_⟩
  unfold shp
  rw [Zav, if_neg hne]
 refine ⟨⟨?_, ?_, ?_⟩, up⟩
 ·intro k mb' hk
  rw [Zav] at hk
  by_cases e : k = n
  ·subst e
   rw [if_pos rfl] at hk
   obtain rfl := Option.some.inj hk
   exact .inl ⟨b, q, by simp [ZaR], hb.lift up⟩
  ·rw [if_neg e] at hk
   rcases h.mem k mb' hk with ⟨b', q', e1, h1⟩ | ⟨e1, h1⟩
   ·exact .inl ⟨b', q', by simp [ZaR, e, e1], h1.lift up⟩
   ·exact .inr ⟨by simp [ZaR, e, e1], h1⟩
 ·intro n1 n2 b' q1 q2 e1 e2 h1 h2
  rw [Zav] at h1 h2
  by_cases k1 : n1 = n
  ·by_cases k2 : n2 = n
   ·rw [k1, k2]
   ·rw [if_neg k2] at h2
    simp only [ZaR, k1, if_true] at e1
    simp only [ZaR, k2, if_false] at e2
    obtain ⟨rfl, rfl⟩ := Prod.mk.inj (Option.some.inj e1)
    exact absurd ⟨n2, q2, h2, e2⟩ hL
  ·rw [if_neg k1] at h1
   simp only [ZaR, k1, if_false] at e1
   by_cases k2 : n2 = n
   ·simp only [ZaR, k2, if_true] at e2
    obtain ⟨rfl, rfl⟩ := Prod.mk.inj (Option.some.inj e2)
    exact absurd ⟨n1, q1, h1, e1⟩ hL
   ·rw [if_neg k2] at h2
    simp only [ZaR, k2, if_false] at e2
    exact h.inj n1 n2 b' q1 q2 e1 e2 h1 h2
 ·intro k b' q' hk e
  rw [Zav] at hk
  by_cases k1 : k = n
  ·simp only [ZaR, k1, if_true] at e
   obtain ⟨rfl, rfl⟩ := Prod.mk.inj (Option.some.inj e)
   exact hI
  ·rw [if_neg k1] at hk
   simp only [ZaR, k1, if_false] at e
   exact h.sep k b' q' hk e
theorem MC.add0 {m : Mem} (h : MC m w μ I) {n : Nat} (hn : look n m = none) {t : Bool} {e : Nat} {τ : Ty} :
  MC ((n, .ar t e τ []) :: m) w (ZaR μ n none) I /\ (∀ k, look k m ≠ none -> ZaR μ n none k = μ k /\ shp ((n, MB.ar t e τ []) :: m) k = shp m k) := by
 have up : ∀ k, look k m ≠ none -> ZaR μ n none k = μ k /\ shp ((n, MB.ar t e τ []) :: m) k = shp m k := by
  intro k hk
  have hne : k ≠ n := fun e => by subst e; exact hk hn
  refine ⟨by simp [ZaR, hne], ?_⟩
  unfold shp
  rw [Zav, if_neg hne]
 refine ⟨⟨?_, ?_, ?_⟩, up⟩
 ·intro k mb' hk
  rw [Zav] at hk
  by_cases e1 : k = n
  ·subst e1
   rw [if_pos rfl] at hk
   obtain rfl := Option.some.inj hk
   exact .inr ⟨by simp [ZaR], t, e, τ, rfl⟩
  ·rw [if_neg e1] at hk
   rcases h.mem k mb' hk with ⟨b', q', e2, h1⟩ | ⟨e2, h1⟩
   ·exact .inl ⟨b', q', by simp [ZaR, e1, e2], h1.lift up⟩
   ·exact .inr ⟨by simp [ZaR, e1, e2], h1⟩
 ·intro n1 n2 b' q1 q2 e1 e2 h1 h2
  rw [Zav] at h1 h2
  by_cases k1 : n1 = n
  ·simp [ZaR, k1] at e1
  ·by_cases k2 : n2 = n
   ·simp [ZaR, k2] at e2
   ·rw [if_neg k1] at h1
    rw [if_neg k2] at h2
    simp only [ZaR, k1, k2, if_false] at e1 e2
    exact h.inj n1 n2 b' q1 q2 e1 e2 h1 h2
 ·intro k b' q' hk e1
  rw [Zav] at hk
  by_cases k1 : k = n
  ·simp [ZaR, k1] at e1
  ·rw [if_neg k1] at hk
   simp only [ZaR, k1, if_false] at e1
   exact h.sep k b' q' hk e1
theorem tyC_ok {b : Bool} {τ : Ty} {x : τ.T} {cs : List Value} {sh : Sh} (h : K (I b) w τ x cs) : RL μ I w sh (tyC b τ x) cs := by
 unfold tyC
 cases ha : τ.isAgg with
 | true => exact Zcp h
 | false =>
  have hl := h.length
  rw [Zfo ha] at hl
  obtain ⟨v, rfl⟩ := List.length_eq_one_iff.1 hl
  exact RL.mk_cons (v := v) ⟨fun e => by rw [ha] at e; exact absurd e (by decide), fun _ => h⟩ RL.nil
theorem Zkt (p : Pat) (x : p.T) (l : List C) (h : l.length = p.sz) : (p.encB x l).shape = (1, p.sz) := by
 cases p <;> simp [Pat.encB, MB.shape, h] <;> rfl
theorem ZsW {J : Bool -> Nat -> Prop} {m : Mem} {p : Pat} {x : p.T} {l : List C} {cur : Array Value} {e b : Nat} {B : List Nat} (hIJ : I = J) (hh : w.heap[b]? = some (.cells cur e (0, 0))) (h1 : ∀ u ∈ cur.toList, u.oneCell' = true) (hp : PK J w p x cur.toList B)
  (hl : RL μ I w (shp m) l cur.toList) : BR μ I w (shp m) (p.encB x l) b cur.size := by
 subst hIJ
 refine ⟨cur, e, hh, rfl, ?_⟩
 cases p with
 | ty t τ => exact hp.2
 | nil => exact ⟨hl, h1⟩
 | row _ _ => exact ⟨hl, h1⟩
 | obj _ => exact ⟨hl, h1⟩
 | two _ _ => exact ⟨hl, h1⟩
 | fn _ _ => exact ⟨hl, h1⟩
 | rf _ => exact ⟨hl, h1⟩
structure Adds (m m' : Mem) (w : World) (μ μ' : Nm) (I : Bool -> Nat -> Prop) (n k : Nat) (B : List Nat) : Prop where
 mc : MC m' w μ' I
 same : ∀ j, ¬ (n <= j /\ j < n + k) -> μ' j = μ j /\ look j m' = look j m
 live : ∀ b, Zai m' μ' b -> Zai m μ b \/ b ∈ B
theorem Adds.up {m m' : Mem} {μ' : Nm} {n k : Nat} {B : List Nat} (h : Adds m m' w μ μ' I n k B) (hn : ∀ j, n <= j -> j < n + k -> look j m = none) : ∀ j, look j m ≠ none -> μ' j = μ j /\ shp m' j = shp m j := by
 intro j hj
 have : ¬ (n <= j /\ j < n + k) := fun ⟨a, b⟩ => hj (hn j a b)
 obtain ⟨h1, h2⟩ := h.same j this
 exact ⟨h1, by unfold shp; rw [h2]⟩
theorem ZdB : ∀ (p : Pat) {x : p.T} {cs : List Value} {B : List Nat} (n : Nat) {m : Mem} {μ : Nm}, MC m w μ I -> PK I w p x cs B -> (∀ k, n <= k -> k < n + p.cnt -> look k m = none) -> B.Nodup -> (∀ b ∈ B, ¬ Zai m μ b) -> (∀ b ∈ B, ¬ I true b) ->
  ∃ μ', Adds m ((p.enc x n).2 ++ m) w μ μ' I n p.cnt B /\ RL μ' I w (shp ((p.enc x n).2 ++ m)) (p.enc x n).1 cs
 | .nil, x, cs, B, n, m, μ, hm, hp, _, _, _, _ => by
  obtain ⟨rfl, rfl⟩ := hp
  exact ⟨μ, ⟨hm, fun _ _ => ⟨rfl, rfl⟩, fun b hb => .inl hb⟩, RL.nil⟩
 | .ty b τ, x, cs, B, n, m, μ, hm, hp, _, _, _, _ => by
  obtain ⟨rfl, hk⟩ := hp
  exact ⟨μ, ⟨hm, fun _ _ => ⟨rfl, rfl⟩, fun b hb => .inl hb⟩, tyC_ok hk⟩
 | .row e τ, xs, cs, B, n, m, μ, hm, hp, hn, hnd, hL, hI => by
  obtain ⟨A, cap, rfl, h1, h2, h3⟩ := hp
  have hn0 := hn n (Nat.le_refl _) (by simp [Pat.cnt])
  rcases h3 with ⟨rfl, rfl, rfl⟩ | ⟨b, cur, rfl, rfl, hh, hs, hr⟩
  ·have hx : xs = [] := List.eq_nil_of_length_eq_zero (by omega)
   subst hx
   obtain ⟨k1, k2⟩ := hm.add0 hn0 (t := false) (e := e) (τ := τ)
   refine ⟨_, ⟨k1, fun j hj => ?_, fun b ⟨j, q, hj, hμ⟩ => ?_⟩, RL.mk_cons ?_ RL.nil⟩
   ·have hne : j ≠ n := fun e => hj ⟨by omega, by simp [Pat.cnt]; omega⟩
    exact ⟨by simp [ZaR, hne], by show look j ((n, _) :: m) = _; rw [Zav, if_neg hne]⟩
   ·have hj : look j ((n, _) :: m) ≠ none := hj
    rw [Zav] at hj
    by_cases e1 : j = n
    ·simp [ZaR, e1] at hμ
    ·rw [if_neg e1] at hj
     simp only [ZaR, e1, if_false] at hμ
     exact .inl ⟨j, q, hj, hμ⟩
   ·exact ⟨0, τ.sz, none, 0, by show shp ((n, _) :: m) n = _; unfold shp; rw [Zav, if_pos rfl]; rfl, rfl, Nat.le_refl _, Nat.zero_le _, .inl ⟨rfl, rfl⟩⟩
  ·have hb : BR μ I w (shp m) (.ar false e τ xs) b (cap * τ.sz) := ⟨cur, e, hh, hs, rfl, cap, rfl, h1, h2, hr⟩
   obtain ⟨k1, k2⟩ := hm.add hn0 hb (hL b List.mem_cons_self) (hI b List.mem_cons_self)
   refine ⟨_, ⟨k1, fun j hj => ?_, fun b' ⟨j, q, hj, hμ⟩ => ?_⟩, RL.mk_cons ?_ RL.nil⟩
   ·have hne : j ≠ n := fun e => hj ⟨by omega, by simp [Pat.cnt]; omega⟩
    exact ⟨by simp [ZaR, hne], by show look j ((n, _) :: m) = _; rw [Zav, if_neg hne]⟩
   ·have hj : look j ((n, _) :: m) ≠ none := hj
    rw [Zav] at hj
    by_cases e1 : j = n
    ·simp only [ZaR, e1, if_true] at hμ
     obtain ⟨rfl, rfl⟩ := Prod.mk.inj (Option.some.inj hμ)
     exact .inr List.mem_cons_self
    ·rw [if_neg e1] at hj
     simp only [ZaR, e1, if_false] at hμ
     exact .inl ⟨j, q, hj, hμ⟩
   ·exact ⟨xs.length, τ.sz, some ⟨b, 0, none⟩, cap, by show shp ((n, _) :: m) n = _; unfold shp; rw [Zav, if_pos rfl]; rfl, rfl, h1, h2, .inr ⟨b, cap * τ.sz, xs.length, τ.sz, by simp [ZaR], by show shp ((n, _) :: m) n = _; unfold shp; rw [Zav, if_pos rfl]; rfl, rfl, rfl⟩⟩
 | .obj p, x, cs, B, n, m, μ, hm, hp, hn, hnd, hL, hI => by
  obtain ⟨b, cur, e, B', rfl, rfl, hh, h1, hpk⟩ := hp
  have hnd' := List.nodup_cons.1 hnd
  obtain ⟨μ1, hA, hR⟩ := ZdB p (n + 1) hm hpk (fun k a1 a2 => hn k (by omega) (by simp only [Pat.cnt]; omega)) hnd'.2 (fun b hb => hL b (List.mem_cons_of_mem _ hb)) (fun b hb => hI b (List.mem_cons_of_mem _ hb))
  have hup := hA.up fun k a1 a2 => hn k (by omega) (by simp only [Pat.cnt]; omega)
  have hn0 : look n ((p.enc x (n + 1)).2 ++ m) = none := by
   rw [(hA.same n (by omega)).2]
   exact hn n (Nat.le_refl _) (by simp only [Pat.cnt]; omega)
  have hb := ZsW (p := p) (x := x) rfl hh h1 hpk hR
  obtain ⟨k1, k2⟩ := hA.mc.add hn0 hb (fun hl => by
   rcases hA.live b hl with k | k
   ·exact hL b List.mem_cons_self k
   ·exact hnd'.1 k) (hI b List.mem_cons_self)
  refine ⟨_, ⟨k1, fun j hj => ?_, fun b' ⟨j, q, hj, hμ⟩ => ?_⟩, RL.mk_cons ?_ RL.nil⟩
  ·simp only [Pat.cnt] at hj
   have hne : j ≠ n := fun e => hj ⟨by omega, by omega⟩
   obtain ⟨a1, a2⟩ := hA.same j (by omega)
   exact ⟨by simp [ZaR, hne, a1], by show look j ((n, _) :: ((p.enc x (n + 1)).2 ++ m)) = _; rw [Zav, if_neg hne, a2]⟩
  ·have hj : look j ((n, p.encB x (p.enc x (n + 1)).1) :: ((p.enc x (n + 1)).2 ++ m)) ≠ none := hj
   rw [Zav] at hj
   by_cases e1 : j = n
   ·simp only [ZaR, e1, if_true] at hμ
    obtain ⟨rfl, rfl⟩ := Prod.mk.inj (Option.some.inj hμ)
    exact .inr List.mem_cons_self
   ·rw [if_neg e1] at hj
    simp only [ZaR, e1, if_false] at hμ
    exact (hA.live b' ⟨j, q, hj, hμ⟩).imp id (List.mem_cons_of_mem _)
  ·refine ⟨b, cur.size, 1, (p.encB x (p.enc x (n + 1)).1).shape.2, by simp [ZaR], ?_, by omega, by simp⟩
   show shp ((n, p.encB x (p.enc x (n + 1)).1) :: ((p.enc x (n + 1)).2 ++ m)) n = _
   unfold shp
   rw [Zav, if_pos rfl]
   have := Zkt p x (p.enc x (n + 1)).1 (by rw [hR.1, hpk.len])
   simp [this]
 | .two p q, x, cs, B, n, m, μ, hm, hp, hn, hnd, hL, hI => by
  obtain ⟨c1, c2, B1, B2, rfl, rfl, h1, h2⟩ := hp
  obtain ⟨d1, d2, d3⟩ := List.nodup_append.1 hnd
  have hn1 : ∀ k, n <= k -> k < n + p.cnt -> look k m = none := fun k a1 a2 => hn k a1 (by simp only [Pat.cnt]; omega)
  obtain ⟨μ1, hA, hR⟩ := ZdB p n hm h1 hn1 d1 (fun b hb => hL b (List.mem_append.2 (.inl hb))) (fun b hb => hI b (List.mem_append.2 (.inl hb)))
  have hn2 : ∀ k, n + p.cnt <= k -> k < n + p.cnt + q.cnt -> look k ((p.enc x.1 n).2 ++ m) = none := fun k a1 a2 => by
   rw [(hA.same k (by omega)).2]
   exact hn k (by omega) (by simp only [Pat.cnt]; omega)
  obtain ⟨μ2, hA2, hR2⟩ := ZdB q (n + p.cnt) hA.mc h2 hn2 d2 (fun b hb hl => by
   rcases hA.live b hl with k | k
   ·exact hL b (List.mem_append.2 (.inr hb)) k
   ·exact d3 b k b hb rfl) (fun b hb => hI b (List.mem_append.2 (.inr hb)))
  have e : ((Pat.two p q).enc x n).2 ++ m = (q.enc x.2 (n + p.cnt)).2 ++ ((p.enc x.1 n).2 ++ m) := by simp [Pat.enc]
  rw [e]
  refine ⟨μ2, ⟨hA2.mc, fun j hj => ?_, fun b hb => ?_⟩, ?_⟩
  ·simp only [Pat.cnt] at hj
   obtain ⟨a1, a2⟩ := hA2.same j (by omega)
   obtain ⟨a3, a4⟩ := hA.same j (by omega)
   exact ⟨a1.trans a3, a2.trans a4⟩
  ·rcases hA2.live b hb with k | k
   ·exact (hA.live b k).imp id fun k => List.mem_append.2 (.inl k)
   ·exact .inr (List.mem_append.2 (.inr k))
  ·exact (hR.lift (hA2.up hn2)).append hR2
 | .fn _ _, _, _, _, _, _, _, _, hp, _, _, _, _ => hp.elim
 | .rf τ, x, cs, B, n, m, μ, hm, hp, _, _, _, _ => by
  obtain ⟨rfl, ad, cells, rfl, k1, k2, k3⟩ := hp
  refine ⟨μ, ⟨hm, fun _ _ => ⟨rfl, rfl⟩, fun b hb => .inl hb⟩, RL.mk_cons (v := .pointer (some ad)) ?_ RL.nil⟩
  have hs : ad.spot = none := k2.1
  refine ⟨ad, cells, ?_, by simp, k1, k2, ?_⟩
  ·obtain ⟨b, o, sp⟩ := ad
   simp only at hs
   subst hs
   simp
  ·have := Row.cons (R := K (I true) w τ) (z := τ.sz) (c := cells) (r := []) k3.length k3 (Row.nil _ _)
   simpa using this
end Go.PI

namespace Go.PI
open Go.RowKit
variable {g : Cfg} {w : World} {μ : Nm} {I : Bool -> Nat -> Prop}
theorem MRel.killM [DR] : ∀ (ns : List Nat) {m : Mem}, MRel g m w μ I -> MRel g (killM ns m) w μ I
 | [], _, h => h
 | n :: r, _, h => MRel.killM r (h.kill n)
theorem MC.kill {m : Mem} (h : MC m w μ I) (n : Nat) : MC ((delm n m).map fun p => (p.1, p.2.kill n)) w μ I := by
 have hl : ∀ k, look k ((delm n m).map fun p => (p.1, p.2.kill n)) ≠ none -> k ≠ n /\ look k m ≠ none := by
  intro k hk
  rw [Zaz] at hk
  by_cases e : k = n
  ·subst e; rw [Zap] at hk; exact absurd rfl hk
  ·rw [Zaj e] at hk
   exact ⟨e, fun e' => hk (by rw [e']; rfl)⟩
 refine ⟨?_, ?_, ?_⟩
 ·intro k mb hk
  obtain ⟨hne, _⟩ := hl k (by rw [hk]; simp)
  rw [Zaz, Zaj hne] at hk
  obtain ⟨mb0, h0, rfl⟩ := Option.map_eq_some_iff.1 hk
  rcases h.mem k mb0 h0 with ⟨b, q, e, hb⟩ | ⟨e, t, el, τ, rfl⟩
  ·refine .inl ⟨b, q, e, ?_⟩
   rw [MB.kill_map]
   exact hb.map (fun c v hc => hc.kill fun j hj => ZaQ hj m) (fun _ _ k => k) (fun t => Zaa _ _) rfl
  ·exact .inr ⟨e, t, el, τ, rfl⟩
 ·exact fun n1 n2 b q q' e1 e2 h1 h2 => h.inj n1 n2 b q q' e1 e2 (hl _ h1).2 (hl _ h2).2
 ·exact fun n1 b q h1 e => h.sep n1 b q (hl _ h1).2 e
theorem ZtD {n k : Nat} {m : Mem} (h : look k ((delm n m).map fun p => (p.1, p.2.kill n)) ≠ none) : k ≠ n /\ look k m ≠ none := by
 rw [Zaz] at h
 by_cases e : k = n
 ·subst e; rw [Zap] at h; exact absurd rfl h
 ·rw [Zaj e] at h
  exact ⟨e, fun e' => h (by rw [e']; rfl)⟩
theorem Zcs : ∀ (ns : List Nat) {m : Mem} {k : Nat}, look k (killM ns m) ≠ none -> k ∉ ns /\ look k m ≠ none
 | [], _, _, h => ⟨by simp, h⟩
 | n :: r, m, k, h => by
  obtain ⟨h1, h2⟩ := Zcs r h
  obtain ⟨h3, h4⟩ := ZtD h2
  exact ⟨fun hm => by rcases List.mem_cons.1 hm with e | e; exact h3 e; exact h1 e, h4⟩
theorem ZfY : ∀ (ns : List Nat) {m : Mem} {k : Nat}, k ∉ ns -> shp (killM ns m) k = shp m k
 | [], _, _, _ => rfl
 | n :: r, m, k, h => by
  rw [show killM (n :: r) m = killM r ((delm n m).map fun p => (p.1, p.2.kill n)) from rfl, ZfY r fun hm => h (List.mem_cons_of_mem _ hm)]
  exact ZaQ (fun e => h (by rw [e]; exact List.mem_cons_self)) m
theorem ZkY : ∀ (ns : List Nat) {m : Mem} {k : Nat}, (k ∈ ns \/ look k m = none) -> look k (killM ns m) = none := by
 intro ns m k h
 cases e : look k (killM ns m) with
 | none => rfl
 | some mb =>
  obtain ⟨h1, h2⟩ := Zcs ns (by rw [e]; simp : look k (killM ns m) ≠ none)
  rcases h with h | h
  ·exact absurd h h1
  ·exact absurd h h2
theorem MC.killM : ∀ (ns : List Nat) {m : Mem}, MC m w μ I -> MC (killM ns m) w μ I
 | [], _, h => h
 | n :: r, _, h => MC.killM r (h.kill n)
theorem RC.killM : ∀ (ns : List Nat) {m : Mem} {c : C} {v : Value}, RC μ I w (shp m) c v -> RC μ I w (shp (killM ns m)) (Zgr ns c) v
 | [], _, _, _, h => h
 | n :: r, m, _, _, h => RC.killM r (h.kill fun j hj => ZaQ hj m)
theorem RL.killM (ns : List Nat) {m : Mem} {l : List C} {vs : List Value} (h : RL μ I w (shp m) l vs) : RL μ I w (shp (killM ns m)) (l.map (Zgr ns)) vs := h.map fun _ _ _ _ hc => hc.killM ns
theorem RD.killM (ns : List Nat) {m : Mem} {d : D} {v : Value} (h : RD μ I w (shp m) d v) : RD μ I w (shp (killM ns m)) (killDs ns d) v := RD.map h fun _ _ hc => hc.killM ns
theorem Zai.killM {ns : List Nat} {m : Mem} {b : Nat} (h : Zai (killM ns m) μ b) : ∃ n q, n ∉ ns /\ look n m ≠ none /\ μ n = some (b, q) := by
 obtain ⟨n, q, hn, hμ⟩ := h
 obtain ⟨h1, h2⟩ := Zcs ns hn
 exact ⟨n, q, h1, h2, hμ⟩
def blocks (μ : Nm) (ns : List Nat) : List Nat := ns.filterMap fun n => (μ n).map Prod.fst
theorem ZeP {ns : List Nat} {b : Nat} : b ∈ blocks μ ns ↔ ∃ n q, n ∈ ns /\ μ n = some (b, q) := by
 simp only [blocks, List.mem_filterMap, Option.map_eq_some_iff]
 constructor
 ·rintro ⟨n, hn, ⟨b', q⟩, h1, rfl⟩; exact ⟨n, q, hn, h1⟩
 ·rintro ⟨n, q, hn, h⟩; exact ⟨n, hn, ⟨b, q⟩, h, rfl⟩
theorem ZdG {m : Mem} (h : MC m w μ I) : ∀ {ns : List Nat}, ns.Nodup -> (∀ n ∈ ns, look n m ≠ none) -> (blocks μ ns).Nodup
 | [], _, _ => List.nodup_nil
 | n :: r, hnd, hl => by
  obtain ⟨h1, h2⟩ := List.nodup_cons.1 hnd
  have ih := ZdG h h2 fun k hk => hl k (List.mem_cons_of_mem _ hk)
  unfold blocks
  rw [List.filterMap_cons]
  split
  ·exact ih
  ·rename_i b hb
   obtain ⟨⟨b', q⟩, e1, rfl⟩ := Option.map_eq_some_iff.1 hb
   refine List.nodup_cons.2 ⟨fun hm => ?_, ih⟩
   obtain ⟨k, q', hk, e2⟩ := ZeP.1 (show b' ∈ blocks μ r from hm)
   obtain rfl := h.inj n k b' q q' e1 e2 (hl n List.mem_cons_self) (hl k (List.mem_cons_of_mem _ hk))
   exact h1 hk
theorem BR.q {sh : Sh} {mb : MB} {b q : Nat} (h : BR μ I w sh mb b q) {l : List C} (hl : mb.cellsB = some l) : ∃ cur e, w.heap[b]? = some (.cells cur e (0, 0)) /\ cur.size = q /\ RL μ I w sh l cur.toList /\ ∀ u ∈ cur.toList, u.oneCell' = true := by
 obtain ⟨cur, e, h1, h2, h3⟩ := h
 refine ⟨cur, e, h1, h2, ?_⟩
 cases mb with
 | tv t τ x =>
  obtain rfl := Option.some.inj hl
  exact ⟨tyC_ok h3, h3.one⟩
 | dv l' =>
  obtain rfl := Option.some.inj hl
  exact h3
 | ar t e' τ xs => cases hl
def Zcd (m : Mem) (ns : List Nat) : Prop := ∀ n ∈ ns, look n m ≠ none
theorem Zep [DR] {ex : Bool} {ns : List Nat} {m : Mem} (hm : MRel g m w μ I) {J : Bool -> Nat -> Prop} (hIJ : ∀ t b, I t b -> J t b) (hJ : ∀ b, J false b -> J true b) (hL : ∀ b, Zai (killM ns m) μ b -> J true b) (hLx : ex = true -> ∀ b, Zai (killM ns m) μ b -> J false b) :
  ∀ (p : Pat) {l rest : List C} {x : p.T} {ks : List Nat}, p.dec ex ns m (killM ns m) l = some (x, ks, rest) -> ∀ {vs : List Value}, RL μ I w (shp m) l vs ->
  ∃ v1 v2 B, vs = v1 ++ v2 /\ PK (fun b => J (b && !ex)) w p x v1 B /\ RL μ I w (shp m) rest v2 /\ B.Sublist (blocks μ ks) /\ Zcd m ks
 | .nil, l, rest, x, ks, h, vs, hl => by
  simp only [Pat.dec, Option.some.injEq, Prod.mk.injEq] at h
  obtain ⟨_, rfl, rfl⟩ := h
  exact ⟨[], vs, [], rfl, ⟨rfl, rfl⟩, hl, List.Sublist.refl _, fun n hn => by simp at hn⟩
 | .ty b τ, l, rest, x, ks, h, vs, hl => by
  simp only [Pat.dec] at h
  split at h
  ·rename_i t y hq
   cases hc : (b && !ex) || !t || !τ.hasP with
   | false => rw [hc] at h; cases h
   | true =>
    rw [hc, cond_true] at h
    simp only [Option.some.injEq, Prod.mk.injEq] at h
    obtain ⟨rfl, rfl, rfl⟩ := h
    have htake := hl.take τ.sz
    refine ⟨vs.take τ.sz, vs.drop τ.sz, [], (List.take_append_drop _ _).symm, ⟨rfl, ?_⟩, hl.drop τ.sz, List.nil_sublist _, fun n hn => by simp at hn⟩
    show K (J (b && !ex)) w τ y (vs.take τ.sz)
    cases he : ex || b with
    | true =>
     rw [he, cond_true] at hq
     obtain ⟨v1, v2, e1, k1, k2⟩ := Zc1 (hm.killM ns) (J := fun t b => J t b \/ Zai (Go.PI.killM ns m) μ b) (fun t b hb => .inl (hIJ t b hb)) (fun b hb => hb.imp (hJ b) id) (fun t b hb => .inr hb) hq (htake.killM ns)
     have : v2 = [] := List.length_eq_zero_iff.1 k2.1.symm
     rw [this, List.append_nil] at e1
     rw [e1]
     cases hp : τ.hasP with
     | false => exact k1.noP hp
     | true =>
      rw [hp] at hc
      cases ex with
      | true =>
       have ht : t = false := by cases t; rfl; simp at hc
       subst ht
       simp only [Bool.not_true, Bool.and_false]
       exact k1.mono (fun b hb => hb.elim id (hLx rfl b)) (Zaa _ _)
      | false =>
       have hb : b = true := by simpa using he
       subst hb
       exact k1.mono (fun b hb => hb.elim (fun k => by cases t; exact hJ b k; exact k) (hL b)) (Zaa _ _)
    | false =>
     rw [he, cond_false] at hq
     obtain ⟨v1, v2, e1, k1, k2⟩ := Zds hm.isub hq htake
     have : v2 = [] := List.length_eq_zero_iff.1 k2.1.symm
     rw [this, List.append_nil] at e1
     rw [e1]
     simp only [Bool.or_eq_false_iff] at he
     obtain ⟨rfl, rfl⟩ := he
     cases hp : τ.hasP with
     | false => exact k1.noP hp
     | true =>
      rw [hp] at hc
      have ht : t = false := by cases t; rfl; simp at hc
      subst ht
      exact k1.mono (hIJ false) (Zaa _ _)
  ·cases h
 | .row e τ, c :: r, rest, x, ks, h, vs, hl => by
  obtain ⟨v, vr, rfl, hc, hr⟩ := hl.cons
  simp only [Pat.dec] at h
  split at h
  ·rename_i n
   split at h
   ·rename_i t e' σ xs hlk
    split at h
    ·rename_i hσ
     subst hσ
     cases hq : Nat.beq e' e && (!t || !σ.hasP) with
     | false => rw [hq] at h; cases h
     | true =>
      rw [hq, cond_true] at h
      simp only [Option.some.injEq, Prod.mk.injEq] at h
      obtain ⟨hx, rfl, rfl⟩ := h
      have hx : xs = x := hx
      subst hx
      rw [Bool.and_eq_true] at hq
      obtain rfl := Nat.eq_of_beq_eq_true hq.1
      obtain ⟨len, z, A, cap, e1, rfl, h2, h3, h4⟩ := hc
      rw [Zal hlk] at e1
      obtain ⟨rfl, rfl⟩ := Prod.mk.inj (Option.some.inj e1)
      have hat : Zcd m [n] := fun k hk => by
       obtain rfl := List.mem_singleton.1 hk
       rw [hlk]; simp
      rcases h4 with ⟨rfl, rfl⟩ | ⟨b, q, len', z', e2, e3, rfl, rfl⟩
      ·exact ⟨[_], vr, [], rfl, ⟨none, 0, rfl, h2, h3, .inl ⟨rfl, rfl, rfl⟩⟩, hr, List.nil_sublist _, hat⟩
      ·rw [Zal hlk] at e3
       obtain ⟨rfl, rfl⟩ := Prod.mk.inj (Option.some.inj e3)
       rcases hm.mem n _ hlk with ⟨b', q', e4, cur, el, hheap, hcs, he', cap', hcap, _, _, hrow⟩ | ⟨e4, _⟩
       ·rw [e2] at e4
        obtain ⟨rfl, rfl⟩ := Prod.mk.inj (Option.some.inj e4)
        subst he'
        refine ⟨[_], vr, [b], rfl, ⟨some ⟨b, 0, none⟩, cap, rfl, h2, h3, .inr ⟨b, cur, rfl, rfl, hheap, hcs, ?_⟩⟩, hr, ?_, hat⟩
        ·refine hrow.imp fun _ _ k => ?_
         cases hp : σ.hasP with
         | false => exact K.noP (τ := σ) hp k
         | true =>
          have ht : t = false := by
           have := hq.2
           rw [hp] at this
           cases t; rfl; simp at this
          subst ht
          exact k.mono (fun b hb => by simpa using hIJ false b hb) (Zaa _ _)
        ·simp [blocks, e2]
       ·rw [e2] at e4; cases e4
    ·cases h
   ·cases h
  ·rename_i n l
   split at h
   ·rename_i t e' σ xs hlk
    split at h
    ·rename_i hσ
     subst hσ
     cases hq : Nat.beq e' e && (!t || !σ.hasP) with
     | false => rw [hq] at h; cases h
     | true =>
      rw [hq, cond_true] at h
      simp only [Option.some.injEq, Prod.mk.injEq] at h
      obtain ⟨hx, rfl, rfl⟩ := h
      have hx : List.take l xs = x := hx
      subst hx
      rw [Bool.and_eq_true] at hq
      obtain rfl := Nat.eq_of_beq_eq_true hq.1
      obtain ⟨A, cap, rfl, h2, h3, _, ⟨len, z, e1, hle, _⟩, h4⟩ := hc
      have h4 := h4 rfl rfl
      rw [Zal hlk] at e1
      obtain ⟨rfl, rfl⟩ := Prod.mk.inj (Option.some.inj e1)
      rw [Nat.zero_add] at hle
      have hxl : (List.take l xs).length = l := by rw [List.length_take]; exact Nat.min_eq_left hle
      have hat : Zcd m [n] := fun k hk => by
       obtain rfl := List.mem_singleton.1 hk
       rw [hlk]; simp
      rcases h4 with ⟨rfl, rfl⟩ | ⟨b, q, len', z', e2, e3, rfl, rfl⟩
      ·exact ⟨[_], vr, [], rfl, ⟨none, 0, by rw [hxl], by rw [hxl]; exact h2, h3, .inl ⟨rfl, rfl, rfl⟩⟩, hr, List.nil_sublist _, hat⟩
      ·rw [Zal hlk] at e3
       obtain ⟨rfl, rfl⟩ := Prod.mk.inj (Option.some.inj e3)
       rcases hm.mem n _ hlk with ⟨b', q', e4, cur, el, hheap, hcs, he', cap', hcap, _, _, hrow⟩ | ⟨e4, _⟩
       ·rw [e2] at e4
        obtain ⟨rfl, rfl⟩ := Prod.mk.inj (Option.some.inj e4)
        subst he'
        refine ⟨[_], vr, [b], rfl, ⟨some ⟨b, 0, none⟩, cap, by rw [hxl], by rw [hxl]; exact h2, h3, .inr ⟨b, cur, rfl, rfl, hheap, hcs, ?_⟩⟩, hr, ?_, hat⟩
        ·have hrow := hrow.takeR l hle
         rw [List.take_take, Nat.min_eq_left (Nat.mul_le_mul_right _ hle)] at hrow
         rw [hxl]
         refine hrow.imp fun _ _ k => ?_
         cases hp : σ.hasP with
         | false => exact K.noP (τ := σ) hp k
         | true =>
          have ht : t = false := by
           have := hq.2
           rw [hp] at this
           cases t; rfl; simp at this
          subst ht
          exact k.mono (fun b hb => by simpa using hIJ false b hb) (Zaa _ _)
        ·simp [blocks, e2]
       ·rw [e2] at e4; cases e4
    ·cases h
   ·cases h
  ·simp only [Option.some.injEq, Prod.mk.injEq] at h
   obtain ⟨rfl, rfl, rfl⟩ := h
   refine ⟨[v], vr, [], rfl, ⟨none, 0, ?_, Nat.le_refl _, Nat.zero_le _, .inl ⟨rfl, rfl, rfl⟩⟩, hr, List.Sublist.refl _, fun n hn => by simp at hn⟩
   rw [show v = _ from hc]
   rfl
  ·cases h
 | .obj p, c :: r, rest, x, ks, h, vs, hl => by
  obtain ⟨v, vr, rfl, hc, hr⟩ := hl.cons
  simp only [Pat.dec] at h
  split at h
  ·rename_i n
   split at h
   ·rename_i mb hlk
    split at h
    ·rename_i l hcl
     split at h
     ·rename_i y js hd
      simp only [Option.some.injEq, Prod.mk.injEq] at h
      obtain ⟨rfl, rfl, rfl⟩ := h
      obtain ⟨b, q, len, z, e1, e2, hi, rfl⟩ := hc
      rcases hm.mem n _ hlk with ⟨b', q', e4, hb⟩ | ⟨e4, _⟩
      ·rw [e1] at e4
       obtain ⟨rfl, rfl⟩ := Prod.mk.inj (Option.some.inj e4)
       obtain ⟨cur, e, hheap, hcs, hrl, hone⟩ := hb.q hcl
       obtain ⟨v1, v2, B, e5, k1, k2, k3, k4⟩ := Zep hm hIJ hJ hL hLx p hd hrl
       have hv2 : v2 = [] := List.length_eq_zero_iff.1 k2.1.symm
       rw [hv2, List.append_nil] at e5
       rw [<- e5] at k1
       refine ⟨[_], vr, b :: B, rfl, ⟨b, cur, e, B, by simp, rfl, hheap, hone, k1⟩, hr, ?_, fun k hk => ?_⟩
       ·unfold blocks
        rw [List.filterMap_cons, e1]
        exact k3.cons_cons b
       ·rcases List.mem_cons.1 hk with rfl | hk
        ·rw [hlk]; simp
        ·exact k4 k hk
      ·rw [e1] at e4; cases e4
     ·cases h
    ·cases h
   ·cases h
  ·cases h
 | .two p q, l, rest, x, ks, h, vs, hl => by
  simp only [Pat.dec] at h
  split at h
  ·rename_i y js l1 h1
   split at h
   ·rename_i z is l2 h2
    simp only [Option.some.injEq, Prod.mk.injEq] at h
    obtain ⟨rfl, rfl, rfl⟩ := h
    obtain ⟨v1, v2, B1, rfl, k1, k2, k3, k4⟩ := Zep hm hIJ hJ hL hLx p h1 hl
    obtain ⟨v3, v4, B2, rfl, k5, k6, k7, k8⟩ := Zep hm hIJ hJ hL hLx q h2 k2
    refine ⟨v1 ++ v3, v4, B1 ++ B2, by simp, ⟨v1, v3, B1, B2, rfl, rfl, k1, k5⟩, k6, ?_, fun n hn => ?_⟩
    ·unfold blocks
     rw [List.filterMap_append]
     exact k3.append k7
    ·rcases List.mem_append.1 hn with hn | hn
     ·exact k4 n hn
     ·exact k8 n hn
   ·cases h
  ·cases h
 | .row e τ, [], _, _, _, h, _, _ => by cases h
 | .obj p, [], _, _, _, h, _, _ => by cases h
 | .fn _ _, _, _, _, _, h, _, _ => by simp [Pat.dec] at h
 | .rf τ, [], _, _, _, h, _, _ => by simp [Pat.dec] at h
 | .rf τ, c :: r, rest, x, ks, h, vs, hl => by
  obtain ⟨v, vr, rfl, hc, hr⟩ := hl.cons
  simp only [Pat.dec] at h
  cases ex with
  | true => cases h
  | false =>
   simp only [cond_false] at h
   split at h
   ·rename_i t y hq
    simp only [Option.some.injEq, Prod.mk.injEq] at h
    obtain ⟨rfl, rfl, rfl⟩ := h
    obtain ⟨v1, v2, e1, k1, k2⟩ := Zc1 (hm.killM ns) (J := fun t b => J t b \/ Zai (Go.PI.killM ns m) μ b) (fun t b hb => .inl (hIJ t b hb)) (fun b hb => hb.imp (hJ b) id) (fun t b hb => .inr hb) hq (RL.mk_cons (hc.killM ns) RL.nil)
    have : v2 = [] := List.length_eq_zero_iff.1 k2.1.symm
    rw [this, List.append_nil] at e1
    rw [<- e1] at k1
    exact ⟨[v], vr, [], rfl, ⟨rfl, k1.mono (fun b hb => hb.elim (fun k => by cases t; exact hJ b k; exact k) (hL b)) (Zaa _ _)⟩, hr, List.Sublist.refl _, fun n hn => by simp at hn⟩
   ·cases h
theorem Zgp [DR] {ex : Bool} {ns : List Nat} {m : Mem} (hm : MRel g m w μ I) {J : Bool -> Nat -> Prop} (hIJ : ∀ t b, I t b -> J t b) (hJ : ∀ b, J false b -> J true b) (hL : ∀ b, Zai (killM ns m) μ b -> J true b) (hLx : ex = true -> ∀ b, Zai (killM ns m) μ b -> J false b) :
  ∀ (p : Pat) {d : D} {x : p.T} {ks : List Nat}, p.decD ex ns m (killM ns m) d = some (x, ks) -> ∀ {v : Value}, RD μ I w (shp m) d v ->
  ∃ B, PV (fun b => J (b && !ex)) w p x v B /\ B.Sublist (blocks μ ks) /\ Zcd m ks
 | .ty b τ, d, x, ks, h, v, hd => by
  simp only [Pat.decD] at h
  split at h
  ·rename_i t y hq
   cases hc : (b && !ex) || !t || !τ.hasP with
   | false => rw [hc] at h; cases h
   | true =>
    rw [hc, cond_true] at h
    obtain ⟨rfl, rfl⟩ := Prod.mk.inj (Option.some.inj h)
    refine ⟨[], ⟨rfl, ?_⟩, List.Sublist.refl _, fun n hn => by simp at hn⟩
    show VK (J (b && !ex)) w τ y v
    cases he : ex || b with
    | true =>
     rw [he, cond_true] at hq
     have k1 := Zgj (hm.killM ns) (J := fun t b => J t b \/ Zai (Go.PI.killM ns m) μ b) (fun t b hb => .inl (hIJ t b hb)) (fun b hb => hb.imp (hJ b) id) (fun t b hb => .inr hb) hq (hd.killM ns)
     cases hp : τ.hasP with
     | false => exact k1.noP hp
     | true =>
      rw [hp] at hc
      cases ex with
      | true =>
       have ht : t = false := by cases t; rfl; simp at hc
       subst ht
       simp only [Bool.not_true, Bool.and_false]
       exact k1.mono (fun b hb => hb.elim id (hLx rfl b)) (Zaa _ _)
      | false =>
       have hb : b = true := by simpa using he
       subst hb
       exact k1.mono (fun b hb => hb.elim (fun k => by cases t; exact hJ b k; exact k) (hL b)) (Zaa _ _)
    | false =>
     rw [he, cond_false] at hq
     have k1 := Zbv hm.isub hq hd
     simp only [Bool.or_eq_false_iff] at he
     obtain ⟨rfl, rfl⟩ := he
     cases hp : τ.hasP with
     | false => exact k1.noP hp
     | true =>
      rw [hp] at hc
      have ht : t = false := by cases t; rfl; simp at hc
      subst ht
      exact k1.mono (hIJ false) (Zaa _ _)
  ·cases h
 | .row e τ, .c c, x, ks, h, v, hd => by
  simp only [Pat.decD] at h
  split at h
  ·rename_i y js h1
   obtain ⟨rfl, rfl⟩ := Prod.mk.inj (Option.some.inj h)
   obtain ⟨v1, v2, B, e, k1, k2, k3, k4⟩ := Zep hm hIJ hJ hL hLx (.row e τ) h1 (RL.mk_cons (v := v) hd RL.nil)
   have hv2 : v2 = [] := List.length_eq_zero_iff.1 k2.1.symm
   rw [hv2, List.append_nil] at e
   rw [<- e] at k1
   exact ⟨B, k1, k3, k4⟩
  ·cases h
 | .obj p, .c c, x, ks, h, v, hd => by
  simp only [Pat.decD] at h
  split at h
  ·rename_i y js h1
   obtain ⟨rfl, rfl⟩ := Prod.mk.inj (Option.some.inj h)
   obtain ⟨v1, v2, B, e, k1, k2, k3, k4⟩ := Zep hm hIJ hJ hL hLx (.obj p) h1 (RL.mk_cons (v := v) hd RL.nil)
   have hv2 : v2 = [] := List.length_eq_zero_iff.1 k2.1.symm
   rw [hv2, List.append_nil] at e
   rw [<- e] at k1
   exact ⟨B, k1, k3, k4⟩
  ·cases h
 | .two p q, .agg l, x, ks, h, v, hd => by
  simp only [Pat.decD] at h
  split at h
  ·rename_i y js h1
   obtain ⟨rfl, rfl⟩ := Prod.mk.inj (Option.some.inj h)
   obtain ⟨vs, rfl, hl, hone⟩ := hd
   obtain ⟨v1, v2, B, e, k1, k2, k3, k4⟩ := Zep hm hIJ hJ hL hLx (.two p q) h1 hl
   have hv2 : v2 = [] := List.length_eq_zero_iff.1 k2.1.symm
   rw [hv2, List.append_nil] at e
   rw [<- e] at k1
   exact ⟨B, ⟨vs, rfl, hone, k1⟩, k3, k4⟩
  ·cases h
 | .rf τ, .c c, x, ks, h, v, hd => by
  simp only [Pat.decD] at h
  split at h
  ·rename_i y js h1
   obtain ⟨rfl, rfl⟩ := Prod.mk.inj (Option.some.inj h)
   obtain ⟨v1, v2, B, e, k1, k2, k3, k4⟩ := Zep hm hIJ hJ hL hLx (.rf τ) h1 (RL.mk_cons (v := v) hd RL.nil)
   have hv2 : v2 = [] := List.length_eq_zero_iff.1 k2.1.symm
   rw [hv2, List.append_nil] at e
   rw [<- e] at k1
   exact ⟨B, k1, k3, k4⟩
  ·cases h
 | .fn f p, .fn f' l, x, ks, h, v, hd => by
  simp only [Pat.decD] at h
  cases hf : Nat.beq f' f with
  | false => rw [hf] at h; cases h
  | true =>
   rw [hf, cond_true] at h
   have hf := Nat.eq_of_beq_eq_true hf
   subst hf
   split at h
   ·rename_i y js h1
    obtain ⟨rfl, rfl⟩ := Prod.mk.inj (Option.some.inj h)
    obtain ⟨vs, rfl, hl⟩ := hd
    obtain ⟨v1, v2, B, e, k1, k2, k3, k4⟩ := Zep hm hIJ hJ hL hLx p h1 hl
    have hv2 : v2 = [] := List.length_eq_zero_iff.1 k2.1.symm
    rw [hv2, List.append_nil] at e
    rw [<- e] at k1
    exact ⟨B, ⟨vs, rfl, k1⟩, k3, k4⟩
   ·cases h
 | .nil, _, _, _, h, _, _ => by simp [Pat.decD] at h
 | .fn _ _, .c _, _, _, h, _, _ => by simp [Pat.decD] at h
 | .rf _, .agg _, _, _, h, _, _ => by simp [Pat.decD] at h
 | .rf _, .tup _, _, _, h, _, _ => by simp [Pat.decD] at h
 | .rf _, .fn _ _, _, _, h, _, _ => by simp [Pat.decD] at h
 | .fn _ _, .agg _, _, _, h, _, _ => by simp [Pat.decD] at h
 | .fn _ _, .tup _, _, _, h, _, _ => by simp [Pat.decD] at h
 | .row _ _, .agg _, _, _, h, _, _ => by simp [Pat.decD] at h
 | .row _ _, .tup _, _, _, h, _, _ => by simp [Pat.decD] at h
 | .row _ _, .fn _ _, _, _, h, _, _ => by simp [Pat.decD] at h
 | .obj _, .agg _, _, _, h, _, _ => by simp [Pat.decD] at h
 | .obj _, .tup _, _, _, h, _, _ => by simp [Pat.decD] at h
 | .obj _, .fn _ _, _, _, h, _, _ => by simp [Pat.decD] at h
 | .two _ _, .c _, _, _, h, _, _ => by simp [Pat.decD] at h
 | .two _ _, .tup _, _, _, h, _, _ => by simp [Pat.decD] at h
 | .two _ _, .fn _ _, _, _, h, _, _ => by simp [Pat.decD] at h
end Go.PI

namespace Go.PI
open Go.RowKit
variable {P : Program} {c : Ctx} {g : Cfg} {w : World} {μ : Nm} {I : Bool -> Nat -> Prop}
@[reducible] def PArgs : List (Bool × Pat) -> Type
 | [] => Unit
 | p :: r => p.2.T × PArgs r
@[reducible] def PBack : List (Bool × Pat) -> Type
 | [] => Unit
 | (true, p) :: r => p.T × PBack r
 | (false, _) :: r => PBack r
@[reducible] def POuts : List Pat -> Type
 | [] => Unit
 | [p] => p.T
 | p :: q :: r => p.T × POuts (q :: r)
def PAK (J : Bool -> Nat -> Prop) (w : World) : (ins : List (Bool × Pat)) -> PArgs ins -> List Value -> List Nat -> Prop
 | [], _, vs, B => vs = [] /\ B = []
 | p :: r, x, vs, B => ∃ v l B1 B2, vs = v :: l /\ B = B1 ++ B2 /\ PV J w p.2 x.1 v B1 /\ PAK J w r x.2 l B2
def PBK (J : Bool -> Nat -> Prop) (w : World) : (ins : List (Bool × Pat)) -> PBack ins -> List Value -> List Nat -> Prop
 | [], _, _, B => B = []
 | (true, p) :: r, y, v :: vs, B => ∃ B1 B2, B = B1 ++ B2 /\ PV J w p y.1 v B1 /\ PBK J w r y.2 vs B2
 | (false, _) :: r, y, _ :: vs, B => PBK J w r y vs B
 | (true, _) :: _, _, [], _ => False
 | (false, _) :: _, _, [], _ => False
def POL (J : Bool -> Nat -> Prop) (w : World) : (outs : List Pat) -> POuts outs -> List Value -> List Nat -> Prop
 | [], _, vs, B => vs = [] /\ B = []
 | [p], x, vs, B => ∃ v, vs = [v] /\ PV J w p x v B
 | p :: q :: r, x, vs, B => ∃ v l B1 B2, vs = v :: l /\ B = B1 ++ B2 /\ PV J w p x.1 v B1 /\ POL J w (q :: r) x.2 l B2
def POK (J : Bool -> Nat -> Prop) (w : World) : (outs : List Pat) -> POuts outs -> Value -> List Nat -> Prop
 | [], _, v, B => v = .tuple #[] /\ B = []
 | [p], x, v, B => PV J w p x v B
 | p :: q :: r, x, v, B => ∃ vs : List Value, v = .tuple vs.toArray /\ POL J w (p :: q :: r) x vs B
theorem PK.mono {J J' : Bool -> Nat -> Prop} (h : ∀ t b, J t b -> J' t b) : ∀ {p : Pat} {x : p.T} {cs : List Value} {B : List Nat}, PK J w p x cs B -> PK J' w p x cs B
 | .nil, _, _, _, k => k
 | .ty b τ, _, _, _, k => ⟨k.1, k.2.mono (h b) (Zaa _ _)⟩
 | .row e τ, _, _, _, ⟨A, cap, h1, h2, h3, h4⟩ => ⟨A, cap, h1, h2, h3, h4.imp id fun ⟨b, cur, k1, k2, k3, k4, k5⟩ => ⟨b, cur, k1, k2, k3, k4, k5.imp fun _ _ k => k.mono (h false) (Zaa _ _)⟩⟩
 | .obj p, _, _, _, ⟨b, cur, e, B', h1, h2, h3, h4, h5⟩ => ⟨b, cur, e, B', h1, h2, h3, h4, PK.mono h h5⟩
 | .two p q, _, _, _, ⟨c1, c2, B1, B2, h1, h2, h3, h4⟩ => ⟨c1, c2, B1, B2, h1, h2, PK.mono h h3, PK.mono h h4⟩
 | .fn _ _, _, _, _, k => k.elim
 | .rf _, _, _, _, k => ⟨k.1, k.2.mono (h true) (Zaa _ _)⟩
theorem PV.mono {J J' : Bool -> Nat -> Prop} (h : ∀ t b, J t b -> J' t b) : ∀ {p : Pat} {x : p.T} {v : Value} {B : List Nat}, PV J w p x v B -> PV J' w p x v B
 | .nil, _, _, _, k => k
 | .ty b τ, _, _, _, k => ⟨k.1, k.2.mono (h b) (Zaa _ _)⟩
 | .row e τ, _, _, _, k => PK.mono (p := .row e τ) h k
 | .obj p, _, _, _, k => PK.mono (p := .obj p) h k
 | .two p q, _, _, _, ⟨cs, h1, h2, h3⟩ => ⟨cs, h1, h2, PK.mono (p := .two p q) h h3⟩
 | .fn g p, _, _, _, ⟨cs, h1, h2⟩ => ⟨cs, h1, PK.mono h h2⟩
 | .rf τ, _, _, _, k => PK.mono (p := .rf τ) h k
theorem PBK.mono {J J' : Bool -> Nat -> Prop} (h : ∀ t b, J t b -> J' t b) : ∀ {ins : List (Bool × Pat)} {y : PBack ins} {vs : List Value} {B : List Nat}, PBK J w ins y vs B -> PBK J' w ins y vs B
 | [], _, _, _, k => k
 | (true, p) :: r, y, v :: vs, B, ⟨B1, B2, e, h1, h2⟩ => ⟨B1, B2, e, h1.mono h, PBK.mono (ins := r) h h2⟩
 | (false, _) :: r, y, _ :: vs, B, k => PBK.mono (ins := r) h k
 | (true, _) :: _, _, [], _, k => k.elim
 | (false, _) :: _, _, [], _, k => k.elim
theorem POL.mono {J J' : Bool -> Nat -> Prop} (h : ∀ t b, J t b -> J' t b) : ∀ {outs : List Pat} {x : POuts outs} {vs : List Value} {B : List Nat}, POL J w outs x vs B -> POL J' w outs x vs B
 | [], _, _, _, k => k
 | [p], _, _, _, ⟨v, e, k⟩ => ⟨v, e, k.mono h⟩
 | p :: q :: r, _, _, _, ⟨v, l, B1, B2, e1, e2, k1, k2⟩ => ⟨v, l, B1, B2, e1, e2, k1.mono h, POL.mono (outs := q :: r) h k2⟩
theorem POK.mono {J J' : Bool -> Nat -> Prop} (h : ∀ t b, J t b -> J' t b) : ∀ {outs : List Pat} {x : POuts outs} {v : Value} {B : List Nat}, POK J w outs x v B -> POK J' w outs x v B
 | [], _, _, _, k => k
 | [p], _, _, _, k => PV.mono h k
 | p :: q :: r, _, _, _, ⟨vs, e, k⟩ => ⟨vs, e, POL.mono (outs := p :: q :: r) h k⟩
structure OC [DR] (P : Program) (f : Nat) (ins : List (Bool × Pat)) (outs : List Pat) (F : PArgs ins -> Option (POuts outs × PBack ins)) : Prop where
 fn : ∃ fn, P.funcs[f]? = some fn /\ (fn.name == "runtime.NumGoroutine") = false /\ fn.body.isNone = false
 ok : ∀ (w : World) (J : Bool -> Nat -> Prop), (∀ b, J false b -> J true b) -> (∀ b, J true b -> b < w.heap.size) -> ∀ (xs : PArgs ins) (vs : List Value) (B : List Nat), PAK J w ins xs vs B -> B.Nodup -> (∀ b ∈ B, ¬ J true b) -> ∀ y, F xs = some y ->
  Calls P f vs.toArray w fun e w' => ∃ v J' B1 B2, e = .returned v /\ POK (fun _ => J') w' outs y.1 v B1 /\ PBK (fun _ => J') w' ins y.2 vs B2 /\ (B1 ++ B2).Nodup /\ (∀ b ∈ B1 ++ B2, (b ∈ B \/ w.heap.size <= b) /\ ¬ J' b) /\
   (∀ b, J false b -> J' b) /\ (∀ b, J' b -> (J false b \/ b ∈ B \/ w.heap.size <= b) /\ b < w'.heap.size) /\
   w'.os = w.os /\ TP w w' /\ w'.output = w.output /\ w.heap.size <= w'.heap.size /\ ∀ b, b < w.heap.size -> b ∉ B -> w'.heap[b]? = w.heap[b]?
def ZaW : List (Bool × Pat) -> Nat
 | [] => 0
 | p :: r => p.2.cnt + ZaW r
def Zax : (ins : List (Bool × Pat)) -> PArgs ins -> Nat -> List D × Mem
 | [], _, _ => ([], [])
 | p :: r, x, n => ((p.2.encD x.1 n).1 :: (Zax r x.2 (n + p.2.cnt)).1, (Zax r x.2 (n + p.2.cnt)).2 ++ (p.2.encD x.1 n).2)
theorem Ziv {p : Pat} {x : p.T} {v : Value} {B : List Nat} (n : Nat) {m : Mem} (hm : MC m w μ I) (hp : PV I w p x v B) (hn : ∀ k, n <= k -> k < n + p.cnt -> look k m = none) (hnd : B.Nodup) (hL : ∀ b ∈ B, ¬ Zai m μ b) (hI : ∀ b ∈ B, ¬ I true b) :
  ∃ μ', Adds m ((p.encD x n).2 ++ m) w μ μ' I n p.cnt B /\ RD μ' I w (shp ((p.encD x n).2 ++ m)) (p.encD x n).1 v := by
 cases p with
 | nil => exact hp.elim
 | ty b τ =>
  obtain ⟨rfl, hk⟩ := hp
  exact ⟨μ, ⟨hm, fun _ _ => ⟨rfl, rfl⟩, fun b hb => .inl hb⟩, hk⟩
 | row e τ =>
  obtain ⟨μ', h1, h2⟩ := ZdB (.row e τ) n hm (show PK I w (.row e τ) x [v] B from hp) hn hnd hL hI
  exact ⟨μ', h1, h2.2 0 _ _ rfl rfl⟩
 | obj p =>
  obtain ⟨μ', h1, h2⟩ := ZdB (.obj p) n hm (show PK I w (.obj p) x [v] B from hp) hn hnd hL hI
  exact ⟨μ', h1, h2.2 0 _ _ rfl rfl⟩
 | two p q =>
  obtain ⟨cs, rfl, hone, hk⟩ := hp
  obtain ⟨μ', h1, h2⟩ := ZdB (.two p q) n hm hk hn hnd hL hI
  exact ⟨μ', h1, cs, rfl, h2, hone⟩
 | rf τ =>
  obtain ⟨μ', h1, h2⟩ := ZdB (.rf τ) n hm (show PK I w (.rf τ) x [v] B from hp) hn hnd hL hI
  exact ⟨μ', h1, h2.2 0 _ _ rfl rfl⟩
 | fn f p =>
  obtain ⟨cs, rfl, hk⟩ := hp
  obtain ⟨μ', h1, h2⟩ := ZdB p n hm hk hn hnd hL hI
  exact ⟨μ', h1, cs, rfl, h2⟩
theorem Adds.trans {m m1 m2 : Mem} {μ1 μ2 : Nm} {n k j : Nat} {B1 B2 : List Nat} (h1 : Adds m m1 w μ μ1 I n k B1) (h2 : Adds m1 m2 w μ1 μ2 I (n + k) j B2) : Adds m m2 w μ μ2 I n (k + j) (B1 ++ B2) := by
 refine ⟨h2.mc, fun i hi => ?_, fun b hb => ?_⟩
 ·obtain ⟨a1, a2⟩ := h2.same i (by omega)
  obtain ⟨a3, a4⟩ := h1.same i (by omega)
  exact ⟨a1.trans a3, a2.trans a4⟩
 ·rcases h2.live b hb with k | k
  ·exact (h1.live b k).imp id fun k => List.mem_append.2 (.inl k)
  ·exact .inr (List.mem_append.2 (.inr k))
theorem Zh3 : ∀ {ins : List (Bool × Pat)} {xs : PArgs ins} {vs : List Value} {B : List Nat} (n : Nat) {m : Mem} {μ : Nm}, MC m w μ I -> PAK I w ins xs vs B -> (∀ k, n <= k -> k < n + ZaW ins -> look k m = none) -> B.Nodup -> (∀ b ∈ B, ¬ Zai m μ b) -> (∀ b ∈ B, ¬ I true b) ->
  ∃ μ', Adds m ((Zax ins xs n).2 ++ m) w μ μ' I n (ZaW ins) B /\ RDs μ' I w (shp ((Zax ins xs n).2 ++ m)) (Zax ins xs n).1 vs
 | [], _, vs, B, n, m, μ, hm, h, _, _, _, _ => by
  obtain ⟨rfl, rfl⟩ := h
  exact ⟨μ, ⟨hm, fun _ _ => ⟨rfl, rfl⟩, fun b hb => .inl hb⟩, rfl, fun j d v hd => by simp [Zax] at hd⟩
 | p :: r, x, vs, B, n, m, μ, hm, ⟨v, l, B1, B2, e1, e2, h1, h2⟩, hn, hnd, hL, hI => by
  subst e1 e2
  obtain ⟨d1, d2, d3⟩ := List.nodup_append.1 hnd
  have hn1 : ∀ k, n <= k -> k < n + p.2.cnt -> look k m = none := fun k a1 a2 => hn k a1 (by simp only [ZaW]; omega)
  obtain ⟨μ1, hA, hR⟩ := Ziv n hm h1 hn1 d1 (fun b hb => hL b (List.mem_append.2 (.inl hb))) (fun b hb => hI b (List.mem_append.2 (.inl hb)))
  have hn2 : ∀ k, n + p.2.cnt <= k -> k < n + p.2.cnt + ZaW r -> look k ((p.2.encD x.1 n).2 ++ m) = none := fun k a1 a2 => by
   rw [(hA.same k (by omega)).2]
   exact hn k (by omega) (by simp only [ZaW]; omega)
  obtain ⟨μ2, hA2, hR2⟩ := Zh3 (n + p.2.cnt) hA.mc h2 hn2 d2 (fun b hb hl => by
   rcases hA.live b hl with k | k
   ·exact hL b (List.mem_append.2 (.inr hb)) k
   ·exact d3 b k b hb rfl) (fun b hb => hI b (List.mem_append.2 (.inr hb)))
  have e : (Zax (p :: r) x n).2 ++ m = (Zax r x.2 (n + p.2.cnt)).2 ++ ((p.2.encD x.1 n).2 ++ m) := by simp [Zax]
  rw [e]
  refine ⟨μ2, hA.trans hA2, by simp [Zax, hR2.1], fun j d u hd hu => ?_⟩
  cases j with
  | zero =>
   simp only [Zax, List.getElem?_cons_zero, Option.some.injEq] at hd hu
   subst hd hu
   exact hR.lift (hA2.up hn2)
  | succ j =>
   simp only [Zax, List.getElem?_cons_succ] at hd hu
   exact hR2.2 j d u hd hu
def Zci : List Pat -> Nat
 | [] => 0
 | p :: r => p.cnt + Zci r
def Pat.encC : (p : Pat) -> p.T -> Nat -> C
 | .ty b τ, x, _ => .ty b τ x
 | .row _ _, _, n => .mfull n
 | .obj _, _, n => .ref n 0 0
 | _, _, _ => .bad
def Zei : (outs : List Pat) -> POuts outs -> Nat -> List C × Mem
 | [], _, _ => ([], [])
 | [p], x, n => ([p.encC x n], (p.encD x n).2)
 | p :: q :: r, x, n => (p.encC x.1 n :: (Zei (q :: r) x.2 (n + p.cnt)).1, (Zei (q :: r) x.2 (n + p.cnt)).2 ++ (p.encD x.1 n).2)
def encO : (outs : List Pat) -> POuts outs -> Nat -> D × Mem
 | [], _, _ => (.tup [], [])
 | [p], x, n => p.encD x n
 | p :: q :: r, x, n => (.tup (Zei (p :: q :: r) x n).1, (Zei (p :: q :: r) x n).2)
theorem Zrq {p : Pat} {x : p.T} {n : Nat} {v : Value} {sh : Sh} (h : RD μ I w sh (p.encD x n).1 v) : RC μ I w sh (p.encC x n) v := by
 cases p with
 | nil => exact trivial
 | ty b τ => exact h
 | row e τ => exact h
 | obj p => exact h
 | two p q => exact trivial
 | fn f p => exact trivial
 | rf τ => exact trivial
theorem Zpq : ∀ {outs : List Pat} {xs : POuts outs} {vs : List Value} {B : List Nat} (n : Nat) {m : Mem} {μ : Nm}, MC m w μ I -> POL I w outs xs vs B -> (∀ k, n <= k -> k < n + Zci outs -> look k m = none) -> B.Nodup -> (∀ b ∈ B, ¬ Zai m μ b) -> (∀ b ∈ B, ¬ I true b) ->
  ∃ μ', Adds m ((Zei outs xs n).2 ++ m) w μ μ' I n (Zci outs) B /\ RL μ' I w (shp ((Zei outs xs n).2 ++ m)) (Zei outs xs n).1 vs
 | [], _, vs, B, n, m, μ, hm, h, _, _, _, _ => by
  obtain ⟨rfl, rfl⟩ := h
  exact ⟨μ, ⟨hm, fun _ _ => ⟨rfl, rfl⟩, fun b hb => .inl hb⟩, RL.nil⟩
 | [p], x, vs, B, n, m, μ, hm, h0, hn, hnd, hL, hI => by
  obtain ⟨v, rfl, h⟩ := h0
  obtain ⟨μ1, hA, hR⟩ := Ziv n hm h (fun k a1 a2 => hn k a1 (by simp only [Zci]; omega)) hnd hL hI
  exact ⟨μ1, hA, RL.mk_cons (Zrq hR) RL.nil⟩
 | p :: q :: r, x, vs, B, n, m, μ, hm, ⟨v, l, B1, B2, e1, e2, h1, h2⟩, hn, hnd, hL, hI => by
  subst e1 e2
  obtain ⟨d1, d2, d3⟩ := List.nodup_append.1 hnd
  have hn1 : ∀ k, n <= k -> k < n + p.cnt -> look k m = none := fun k a1 a2 => hn k a1 (by simp only [Zci]; omega)
  obtain ⟨μ1, hA, hR⟩ := Ziv n hm h1 hn1 d1 (fun b hb => hL b (List.mem_append.2 (.inl hb))) (fun b hb => hI b (List.mem_append.2 (.inl hb)))
  have hn2 : ∀ k, n + p.cnt <= k -> k < n + p.cnt + Zci (q :: r) -> look k ((p.encD x.1 n).2 ++ m) = none := fun k a1 a2 => by
   rw [(hA.same k (by omega)).2]
   exact hn k (by omega) (by simp only [Zci] at a2 ⊢; omega)
  obtain ⟨μ2, hA2, hR2⟩ := Zpq (outs := q :: r) (n + p.cnt) hA.mc h2 hn2 d2 (fun b hb hl => by
   rcases hA.live b hl with k | k
   ·exact hL b (List.mem_append.2 (.inr hb)) k
   ·exact d3 b k b hb rfl) (fun b hb => hI b (List.mem_append.2 (.inr hb)))
  have e : (Zei (p :: q :: r) x n).2 ++ m = (Zei (q :: r) x.2 (n + p.cnt)).2 ++ ((p.encD x.1 n).2 ++ m) := by simp [Zei]
  rw [e]
  exact ⟨μ2, hA.trans hA2, RL.mk_cons (Zrq (hR.lift (hA2.up hn2))) hR2⟩
theorem encO_ok {outs : List Pat} {xs : POuts outs} {v : Value} {B : List Nat} (n : Nat) {m : Mem} (hm : MC m w μ I) (hp : POK I w outs xs v B) (hn : ∀ k, n <= k -> k < n + Zci outs -> look k m = none) (hnd : B.Nodup) (hL : ∀ b ∈ B, ¬ Zai m μ b) (hI : ∀ b ∈ B, ¬ I true b) :
  ∃ μ', Adds m ((encO outs xs n).2 ++ m) w μ μ' I n (Zci outs) B /\ RD μ' I w (shp ((encO outs xs n).2 ++ m)) (encO outs xs n).1 v := by
 match outs, xs, hp with
 | [], _, h =>
  obtain ⟨rfl, rfl⟩ := h
  exact ⟨μ, ⟨hm, fun _ _ => ⟨rfl, rfl⟩, fun b hb => .inl hb⟩, [], rfl, RL.nil⟩
 | [p], x, h =>
  obtain ⟨μ1, hA, hR⟩ := Ziv n hm h (fun k a1 a2 => hn k a1 (by simp only [Zci]; omega)) hnd hL hI
  exact ⟨μ1, hA, hR⟩
 | p :: q :: r, x, h0 =>
  obtain ⟨vs, rfl, h⟩ := h0
  obtain ⟨μ1, hA, hR⟩ := Zpq (outs := p :: q :: r) n hm h hn hnd hL hI
  exact ⟨μ1, hA, vs, rfl, hR⟩
def ZdS : List Nat -> Bool
 | [] => true
 | n :: r => !memb n r && ZdS r
theorem ZfW : ∀ {l : List Nat}, ZdS l = true -> l.Nodup
 | [], _ => List.nodup_nil
 | n :: r, h => by
  simp only [ZdS, Bool.and_eq_true, Bool.not_eq_true'] at h
  exact List.nodup_cons.2 ⟨fun hm => (by have := h.1; rw [Zah.2 hm] at this; cases this), ZfW h.2⟩
def nmsA (m : Mem) : List (Bool × Pat) -> List D -> Option (List Nat)
 | [], [] => some []
 | p :: r, d :: l => match p.2.nmsD m d, nmsA m r l with
  | some ns, some ks => some (ns ++ ks)
  | _, _ => none
 | _, _ => none
def keptA (m : Mem) : List (Bool × Pat) -> List D -> List Nat
 | p :: r, d :: l => p.2.keptD m d ++ keptA m r l
 | _, _ => []
def decA (ex : Bool) (ns : List Nat) (m mk : Mem) : (ins : List (Bool × Pat)) -> List D -> Option (PArgs ins × List Nat)
 | [], [] => some ((), [])
 | p :: r, d :: l => match p.2.decD ex ns m mk d, decA ex ns m mk r l with
  | some (x, ks), some (xs, js) => some ((x, xs), ks ++ js)
  | _, _ => none
 | [], _ :: _ => none
 | _ :: _, [] => none
theorem Zlz [DR] {ex : Bool} {ns : List Nat} {m : Mem} (hm : MRel g m w μ I) {J : Bool -> Nat -> Prop} (hIJ : ∀ t b, I t b -> J t b) (hJ : ∀ b, J false b -> J true b) (hL : ∀ b, Zai (killM ns m) μ b -> J true b) (hLx : ex = true -> ∀ b, Zai (killM ns m) μ b -> J false b) :
  ∀ {ins : List (Bool × Pat)} {ds : List D} {xs : PArgs ins} {ks : List Nat}, decA ex ns m (killM ns m) ins ds = some (xs, ks) -> ∀ {vs : List Value}, RDs μ I w (shp m) ds vs ->
  ∃ B, PAK (fun b => J (b && !ex)) w ins xs vs B /\ B.Sublist (blocks μ ks) /\ Zcd m ks
 | [], [], xs, ks, h, vs, hd => by
  simp only [decA, Option.some.injEq, Prod.mk.injEq] at h
  obtain ⟨_, rfl⟩ := h
  exact ⟨[], ⟨List.length_eq_zero_iff.1 hd.1.symm, rfl⟩, List.Sublist.refl _, fun n hn => by simp at hn⟩
 | p :: r, d :: l, xs, ks, h, vs, hd => by
  simp only [decA] at h
  split at h
  ·rename_i x k1 ys k2 h1 h2
   simp only [Option.some.injEq, Prod.mk.injEq] at h
   obtain ⟨rfl, rfl⟩ := h
   cases vs with
   | nil => have := hd.1; simp at this
   | cons v vs =>
    obtain ⟨B1, a1, a2, a3⟩ := Zgp hm hIJ hJ hL hLx p.2 h1 (hd.2 0 d v rfl rfl)
    obtain ⟨B2, a4, a5, a6⟩ := Zlz hm hIJ hJ hL hLx h2 (vs := vs) ⟨by have := hd.1; simpa using this, fun j d' v' hd' hv' => hd.2 (j + 1) d' v' (by simpa using hd') (by simpa using hv')⟩
    refine ⟨B1 ++ B2, ⟨v, vs, B1, B2, rfl, rfl, a1, a4⟩, ?_, fun n hn => ?_⟩
    ·unfold blocks
     rw [List.filterMap_append]
     exact a2.append a5
    ·rcases List.mem_append.1 hn with hn | hn
     ·exact a3 n hn
     ·exact a6 n hn
  ·cases h
 | [], _ :: _, _, _, h, _, _ => by cases h
 | _ :: _, [], _, _, h, _, _ => by cases h
end Go.PI

namespace Go.PI
open Go.RowKit
variable {P : Program} {c : Ctx} {g : Cfg} {w : World} {μ : Nm} {I : Bool -> Nat -> Prop}
abbrev nE : Nat := 1954
def ZbA : List (Bool × Pat) -> Nat -> List Nat
 | [], _ => []
 | (true, p) :: r, n => n :: ZbA r (n + p.cnt)
 | (false, p) :: r, n => ZbA r (n + p.cnt)
def isObj : Pat -> Bool
 | .obj _ => true
 | _ => false
def ZcB : List (Bool × Pat) -> Bool
 | [] => true
 | (true, p) :: r => isObj p && ZcB r
 | (false, _) :: r => ZcB r
def nmsBk (m : Mem) : List (Bool × Pat) -> Nat -> Option (List Nat)
 | [], _ => some []
 | (true, p) :: r, n => match p.nmsD m (.c (.ref n 0 0)), nmsBk m r (n + p.cnt) with
  | some ns, some ks => some (ns ++ ks)
  | _, _ => none
 | (false, p) :: r, n => nmsBk m r (n + p.cnt)
def Zf0 (ns : List Nat) (m mk : Mem) : (ins : List (Bool × Pat)) -> Nat -> Option (PBack ins × List Nat)
 | [], _ => some ((), [])
 | (true, p) :: r, n => match p.decD true ns m mk (.c (.ref n 0 0)), Zf0 ns m mk r (n + p.cnt) with
  | some (x, ks), some (xs, js) => some ((x, xs), ks ++ js)
  | _, _ => none
 | (false, p) :: r, n => Zf0 ns m mk r (n + p.cnt)
def nmsOL (m : Mem) : List Pat -> List C -> Option (List Nat)
 | [], [] => some []
 | p :: r, x :: l => match p.nmsD m (.c x), nmsOL m r l with
  | some ns, some ks => some (ns ++ ks)
  | _, _ => none
 | _, _ => none
def nmsO (m : Mem) : List Pat -> D -> Option (List Nat)
 | [], .tup [] => some []
 | [p], d => p.nmsD m d
 | p :: q :: r, .tup l => nmsOL m (p :: q :: r) l
 | _, _ => none
def ZeZ (ns : List Nat) (m mk : Mem) : (outs : List Pat) -> List C -> Option (POuts outs × List Nat)
 | [], [] => some ((), [])
 | [p], [x] => p.decD true ns m mk (.c x)
 | p :: q :: r, x :: l => match p.decD true ns m mk (.c x), ZeZ ns m mk (q :: r) l with
  | some (y, ks), some (ys, js) => some ((y, ys), ks ++ js)
  | _, _ => none
 | _, _ => none
def decO (ns : List Nat) (m mk : Mem) : (outs : List Pat) -> D -> Option (POuts outs × List Nat)
 | [], .tup [] => some ((), [])
 | [p], d => p.decD true ns m mk d
 | p :: q :: r, .tup l => ZeZ ns m mk (p :: q :: r) l
 | _, _ => none
def finO (ins : List (Bool × Pat)) (outs : List Pat) (r : D × Mem × List Nat) : Option (POuts outs × PBack ins) :=
 match nmsO r.2.1 outs r.1, nmsBk r.2.1 ins nE with
 | some n1, some n2 => match decO (n1 ++ n2) r.2.1 (killM (n1 ++ n2) r.2.1) outs r.1, Zf0 (n1 ++ n2) r.2.1 (killM (n1 ++ n2) r.2.1) ins nE with
  | some (y, k1), some (z, k2) => bif Zbo (k1 ++ k2) (n1 ++ n2) && ZdS (k1 ++ k2) && (ZbA ins nE).all (fun n => !memb n r.2.2) then some (y, z) else none
  | _, _ => none
 | _, _ => none
theorem ZgE [DR] {ns : List Nat} {m : Mem} (hm : MRel g m w μ I) {J : Bool -> Nat -> Prop} (hIJ : ∀ t b, I t b -> J t b) (hJ : ∀ b, J false b -> J true b) (hL : ∀ b, Zai (killM ns m) μ b -> J true b) (hLx : ∀ b, Zai (killM ns m) μ b -> J false b) :
  ∀ {ins : List (Bool × Pat)} {n : Nat} {y : PBack ins} {ks : List Nat}, Zf0 ns m (killM ns m) ins n = some (y, ks) -> ∀ {ds : List D} {vs : List Value}, RDs μ I w (shp m) ds vs -> ds.length = ins.length -> (∀ (j : Nat) (q : Bool × Pat), ins[j]? = some q -> q.1 = true -> ds[j]? = some (.c (.ref (n + ZaW (ins.take j)) 0 0))) ->
  ∃ B, PBK (fun _ => J false) w ins y vs B /\ B.Sublist (blocks μ ks) /\ Zcd m ks
 | [], n, y, ks, h, ds, vs, _, _, _ => by
  simp only [Zf0, Option.some.injEq, Prod.mk.injEq] at h
  obtain ⟨_, rfl⟩ := h
  exact ⟨[], rfl, List.Sublist.refl _, fun n hn => by simp at hn⟩
 | (true, p) :: r, n, y, ks, h, [], vs, _, hlen, _ => by simp at hlen
 | (false, p) :: r, n, y, ks, h, [], vs, _, hlen, _ => by simp at hlen
 | (true, p) :: r, n, y, ks, h, d :: ds, vs, hd, hlen, hroot => by
  simp only [Zf0] at h
  split at h
  ·rename_i x k1 ys k2 h1 h2
   simp only [Option.some.injEq, Prod.mk.injEq] at h
   obtain ⟨rfl, rfl⟩ := h
   have hd0 := hroot 0 (true, p) rfl rfl
   simp only [List.getElem?_cons_zero, List.take_zero, ZaW, Nat.add_zero, Option.some.injEq] at hd0
   subst hd0
   cases vs with
   | nil => have := hd.1; simp at this
   | cons v vs =>
    obtain ⟨B1, a1, a2, a3⟩ := Zgp hm hIJ hJ hL (fun _ => hLx) p h1 (hd.2 0 _ v rfl rfl)
    obtain ⟨B2, a4, a5, a6⟩ := ZgE hm hIJ hJ hL hLx h2 (ds := ds) (vs := vs) ⟨by have := hd.1; simpa using this, fun j d' v' hd' hv' => hd.2 (j + 1) d' v' (by simpa using hd') (by simpa using hv')⟩ (by simpa using hlen) (fun j q hq ht => by
     have := hroot (j + 1) q (by simpa using hq) ht
     simpa [ZaW, Nat.add_assoc] using this)
    refine ⟨B1 ++ B2, ⟨B1, B2, rfl, a1.mono (fun t b hb => by simpa using hb), a4⟩, ?_, fun n hn => ?_⟩
    ·unfold blocks
     rw [List.filterMap_append]
     exact a2.append a5
    ·rcases List.mem_append.1 hn with hn | hn
     ·exact a3 n hn
     ·exact a6 n hn
  ·cases h
 | (false, p) :: r, n, y, ks, h, d :: ds, vs, hd, hlen, hroot => by
  simp only [Zf0] at h
  cases vs with
  | nil => have := hd.1; simp at this
  | cons v vs =>
   exact ZgE (ins := r) (n := n + p.cnt) hm hIJ hJ hL hLx h (ds := ds) (vs := vs) ⟨by have := hd.1; simpa using this, fun j d' v' hd' hv' => hd.2 (j + 1) d' v' (by simpa using hd') (by simpa using hv')⟩ (by simpa using hlen) (fun j q hq ht => by
    have := hroot (j + 1) q (by simpa using hq) ht
    simpa [ZaW, Nat.add_assoc] using this)
theorem ZpL [DR] {ns : List Nat} {m : Mem} (hm : MRel g m w μ I) {J : Bool -> Nat -> Prop} (hIJ : ∀ t b, I t b -> J t b) (hJ : ∀ b, J false b -> J true b) (hL : ∀ b, Zai (killM ns m) μ b -> J true b) (hLx : ∀ b, Zai (killM ns m) μ b -> J false b) :
  ∀ {outs : List Pat} {l : List C} {y : POuts outs} {ks : List Nat}, ZeZ ns m (killM ns m) outs l = some (y, ks) -> ∀ {vs : List Value}, RL μ I w (shp m) l vs ->
  ∃ B, POL (fun _ => J false) w outs y vs B /\ B.Sublist (blocks μ ks) /\ Zcd m ks
 | [], [], y, ks, h, vs, hl => by
  simp only [ZeZ, Option.some.injEq, Prod.mk.injEq] at h
  obtain ⟨_, rfl⟩ := h
  exact ⟨[], ⟨List.length_eq_zero_iff.1 hl.1.symm, rfl⟩, List.Sublist.refl _, fun n hn => by simp at hn⟩
 | [p], [x], y, ks, h, vs, hl => by
  obtain ⟨v, r, rfl, h1, h2⟩ := hl.cons
  have hr : r = [] := List.length_eq_zero_iff.1 h2.1.symm
  subst hr
  obtain ⟨B1, a1, a2, a3⟩ := Zgp hm hIJ hJ hL (fun _ => hLx) p (d := .c x) h h1
  exact ⟨B1, ⟨v, rfl, a1.mono (fun t b hb => by simpa using hb)⟩, a2, a3⟩
 | p :: q :: r, x :: l, y, ks, h, vs, hl => by
  simp only [ZeZ] at h
  split at h
  ·rename_i z k1 ys k2 h1 h2
   simp only [Option.some.injEq, Prod.mk.injEq] at h
   obtain ⟨rfl, rfl⟩ := h
   obtain ⟨v, vr, rfl, c1, c2⟩ := hl.cons
   obtain ⟨B1, a1, a2, a3⟩ := Zgp hm hIJ hJ hL (fun _ => hLx) p (d := .c x) h1 c1
   obtain ⟨B2, a4, a5, a6⟩ := ZpL (outs := q :: r) hm hIJ hJ hL hLx h2 c2
   refine ⟨B1 ++ B2, ⟨v, vr, B1, B2, rfl, rfl, a1.mono (fun t b hb => by simpa using hb), a4⟩, ?_, fun n hn => ?_⟩
   ·unfold blocks
    rw [List.filterMap_append]
    exact a2.append a5
   ·rcases List.mem_append.1 hn with hn | hn
    ·exact a3 n hn
    ·exact a6 n hn
  ·cases h
 | [], _ :: _, _, _, h, _, _ => by simp [ZeZ] at h
 | [_], [], _, _, h, _, _ => by simp [ZeZ] at h
 | [_], _ :: _ :: _, _, _, h, _, _ => by simp [ZeZ] at h
 | _ :: _ :: _, [], _, _, h, _, _ => by simp [ZeZ] at h
theorem Zrv [DR] {ns : List Nat} {m : Mem} (hm : MRel g m w μ I) {J : Bool -> Nat -> Prop} (hIJ : ∀ t b, I t b -> J t b) (hJ : ∀ b, J false b -> J true b) (hL : ∀ b, Zai (killM ns m) μ b -> J true b) (hLx : ∀ b, Zai (killM ns m) μ b -> J false b)
  {outs : List Pat} {d : D} {y : POuts outs} {ks : List Nat} (h : decO ns m (killM ns m) outs d = some (y, ks)) {v : Value} (hd : RD μ I w (shp m) d v) :
  ∃ B, POK (fun _ => J false) w outs y v B /\ B.Sublist (blocks μ ks) /\ Zcd m ks := by
 unfold decO at h
 split at h
 ·simp only [Option.some.injEq, Prod.mk.injEq] at h
  obtain ⟨_, rfl⟩ := h
  obtain ⟨vs, rfl, hl⟩ := hd
  have : vs = [] := List.length_eq_zero_iff.1 hl.1.symm
  subst this
  exact ⟨[], ⟨rfl, rfl⟩, List.Sublist.refl _, fun n hn => by simp at hn⟩
 ·obtain ⟨B1, a1, a2, a3⟩ := Zgp hm hIJ hJ hL (fun _ => hLx) _ h hd
  exact ⟨B1, a1.mono (fun t b hb => by simpa using hb), a2, a3⟩
 ·obtain ⟨vs, rfl, hl⟩ := hd
  obtain ⟨B, a1, a2, a3⟩ := ZpL hm hIJ hJ hL hLx h hl
  exact ⟨B, ⟨vs, rfl, a1⟩, a2, a3⟩
 ·cases h
theorem Zgf : ∀ (ins : List (Bool × Pat)) (xs : PArgs ins) (n : Nat), (Zax ins xs n).1.length = ins.length
 | [], _, _ => rfl
 | p :: r, x, n => by simp [Zax, Zgf r]
theorem ZhI : ∀ (ins : List (Bool × Pat)) (xs : PArgs ins) (n : Nat), ZcB ins = true -> ∀ (j : Nat) (q : Bool × Pat), ins[j]? = some q -> q.1 = true -> (Zax ins xs n).1[j]? = some (.c (.ref (n + ZaW (ins.take j)) 0 0))
 | [], _, _, _, j, q, hq, _ => by simp at hq
 | (f, p) :: r, x, n, hb, 0, q, hq, ht => by
  simp only [List.getElem?_cons_zero, Option.some.injEq] at hq
  subst hq
  have ht : f = true := ht
  subst ht
  simp only [ZcB, Bool.and_eq_true] at hb
  cases p with
  | obj p => simp [Zax, Pat.encD, ZaW]
  | _ => simp [isObj] at hb
 | (f, p) :: r, x, n, hb, j + 1, q, hq, ht => by
  have hb' : ZcB r = true := by
   cases f with
   | true => simp only [ZcB, Bool.and_eq_true] at hb; exact hb.2
   | false => exact hb
  have := ZhI r x.2 (n + p.cnt) hb' j q (by simpa using hq) ht
  simpa [Zax, ZaW, Nat.add_assoc] using this
theorem OC.of_run [DR] (he : EnvFull P c) {f : Nat} {fn : Func} (hf : P.funcs[f]? = some fn) (hn : (!(fn.name == "runtime.NumGoroutine") && fn.body.isSome) = true) {ins : List (Bool × Pat)} {outs : List Pat} (hbk : ZcB ins = true) {F : PArgs ins -> Option (POuts outs × PBack ins)} {kp : List Nat}
  (hkp : ∀ xs n, look n (Zax ins xs nE).2 ≠ none -> n ∈ kp)
  (h : ∀ xs y, F xs = some y -> ∃ p, (∀ g, (∀ n, look n g.m0 ≠ none -> n ∈ kp) -> ZaB P g p (Za9 fn)) /\ ((inl c p fn (Za9 fn) 0 (Zax ins xs nE).1 (Zax ins xs nE).2).bind fun r => .ofOpt (finO ins outs r)).run = some y) : OC P f ins outs F := by
 simp only [Bool.and_eq_true, Bool.not_eq_true'] at hn
 have hb := Zdw hn.2
 refine ⟨⟨fn, hf, hn.1, by rw [hb]; rfl⟩, fun w J hJ hlt xs vs B hx hnd hBJ y hy => ?_⟩
 obtain ⟨p, hlo, hrun⟩ := h xs y hy
 obtain ⟨⟨d, m', ks⟩, hr, hfin⟩ := Br.bind_some hrun
 have hfin := Zb4 hfin
 let μ0 : Nm := fun _ => none
 have hmc0 : MC ([] : Mem) w μ0 J := ⟨fun n mb h => by simp [look] at h, fun n n' b q q' h => (by cases h), fun n b q h => absurd rfl h⟩
 obtain ⟨μ1, hA, hR⟩ := Zh3 nE hmc0 hx (fun _ _ _ => rfl) hnd (fun b _ ⟨n, q, h, _⟩ => h rfl) hBJ
 rw [List.append_nil] at hA hR
 have hme : MRel (ZaZ w J (Zax ins xs nE).2 μ1) (Zax ins xs nE).2 w μ1 J := { mem := hA.mc.mem, inj := hA.mc.inj, sep := hA.mc.sep, isub := hJ, ilt := hlt, i0 := fun t b h => h, inew := fun t b h => .inl h, live := fun n b q h e => .inl ⟨n, q, h, e⟩, os := rfl, tape := TP.refl _, output := rfl, size := Nat.le_refl _, keep := fun _ _ _ => rfl }
 have hL0 : ∀ b, Zai (Zax ins xs nE).2 μ1 b -> b ∈ B := fun b hb => (hA.live b hb).elim (fun ⟨n, q, h, _⟩ => absurd rfl h) id
 refine (Zdr he hf hb hme hR (hlo _ fun n hn => hkp xs n hn) hr).mono ?_
 rintro e w' ⟨v, μ', I', rfl, h1, h2, h3, h4⟩
 unfold finO at hfin
 split at hfin
 ·rename_i n1 n2 e1 e2
  split at hfin
  ·rename_i yo k1 yb k2 d1 d2
   cases hc : Zbo (k1 ++ k2) (n1 ++ n2) && ZdS (k1 ++ k2) && (ZbA ins nE).all (fun n => !memb n ks) with
   | false => rw [hc] at hfin; cases hfin
   | true =>
    rw [hc] at hfin
    obtain rfl := Option.some.inj hfin
    simp only [Bool.and_eq_true] at hc
    obtain ⟨⟨hsub, hndk⟩, hroots⟩ := hc
    let JJ : Bool -> Nat -> Prop := fun t b => I' t b \/ Zai (killM (n1 ++ n2) m') μ' b
    have hlive : ∀ {ns : List Nat} {b : Nat}, Zai (killM ns m') μ' b -> Zai m' μ' b := fun h => by
     obtain ⟨n, q, _, h5, h6⟩ := Zai.killM h
     exact ⟨n, q, h5, h6⟩
    obtain ⟨B1, a1, a2, a3⟩ := Zrv h1 (J := JJ) (fun t b hb => .inl hb) (fun b hb => hb.imp (h1.isub b) id) (fun b hb => .inr hb) (fun b hb => .inr hb) d1 h4
    have hargs : RDs μ' I' w' (shp m') (((Zax ins xs nE).1).map fun d => match d with | .c (.ref n 0 0) => bif memb n (ZbA ins nE) then .c (.ref n 0 0) else .c .bad | _ => .c .bad) vs := by
     refine ⟨by simpa using hR.1, fun j d v hd hv => ?_⟩
     rw [List.getElem?_map] at hd
     obtain ⟨d0, hd0, rfl⟩ := Option.map_eq_some_iff.1 hd
     have hd1 := hR.2 j d0 v hd0 hv
     split
     ·rename_i n
      cases hm : memb n (ZbA ins nE) with
      | false => exact trivial
      | true =>
       obtain ⟨b, q, len, z, r1, r2, r3, r4⟩ := hd1
       have hnk : n ∉ ks := fun hk => by
        have := List.all_eq_true.1 hroots n (Zah.1 hm)
        rw [Zah.2 hk] at this
        cases this
       have hln : look n (Zax ins xs nE).2 ≠ none := fun e => by simp [shp, e] at r2
       obtain ⟨s1, s2⟩ := h3 n hln hnk
       exact ⟨b, q, len, z, s1.trans r1, s2.trans r2, r3, r4⟩
     ·exact trivial
    obtain ⟨B2, a4, a5, a6⟩ := ZgE h1 (J := JJ) (fun t b hb => .inl hb) (fun b hb => hb.imp (h1.isub b) id) (fun b hb => .inr hb) (fun b hb => .inr hb) d2 hargs (by simp [Zgf]) (fun j q hq ht => by
     rw [List.getElem?_map, ZhI ins xs nE hbk j q hq ht]
     have hmem : nE + ZaW (ins.take j) ∈ ZbA ins nE := by
      have key : ∀ (ins : List (Bool × Pat)) (n j : Nat) (q : Bool × Pat), ins[j]? = some q -> q.1 = true -> n + ZaW (ins.take j) ∈ ZbA ins n := by
       intro ins
       induction ins with
       | nil => intro n j q hq; simp at hq
       | cons a r ih =>
        intro n j q hq ht
        obtain ⟨f, pp⟩ := a
        cases j with
        | zero =>
         simp only [List.getElem?_cons_zero, Option.some.injEq] at hq
         subst hq
         have ht : f = true := ht
         subst ht
         simp [ZbA, ZaW]
        | succ j =>
         have := ih (n + pp.cnt) j q (by simpa using hq) ht
         have e : n + ZaW ((( f, pp) :: r).take (j + 1)) = n + pp.cnt + ZaW (r.take j) := by simp [ZaW, Nat.add_assoc]
         rw [e]
         cases f with
         | true => exact List.mem_cons_of_mem _ this
         | false => exact this
      exact key ins nE j q hq ht
     simp [Zah.2 hmem])
    have hkk : (k1 ++ k2).Nodup := ZfW hndk
    have hat : Zcd m' (k1 ++ k2) := fun n hn => (List.mem_append.1 hn).elim (a3 n) (a6 n)
    have hsubl : (B1 ++ B2).Sublist (blocks μ' (k1 ++ k2)) := by
     unfold blocks
     rw [List.filterMap_append]
     exact a2.append a5
    have hmem : ∀ b ∈ B1 ++ B2, ∃ n q, n ∈ k1 ++ k2 /\ look n m' ≠ none /\ μ' n = some (b, q) := fun b hb => by
     obtain ⟨n, q, hn, hμ⟩ := ZeP.1 (hsubl.subset hb)
     exact ⟨n, q, hn, hat n hn, hμ⟩
    refine ⟨v, JJ false, B1, B2, rfl, a1, a4, hsubl.nodup (ZdG h1.mc hkk hat), fun b hb => ?_, fun b hb => .inl (h2 false b hb), fun b hb => ?_, h1.os, h1.tape, h1.output, h1.size, fun b hb hbB => h1.keep b hb fun hl => hbB (hL0 b hl)⟩
    ·obtain ⟨n, q, hn, hl, hμ⟩ := hmem b hb
     refine ⟨?_, ?_⟩
     ·rcases h1.live n b q hl hμ with k | k
      ·exact .inl (hL0 b k)
      ·exact .inr k
     ·rintro (k | k)
      ·exact h1.sep n b q hl hμ (h1.isub b k)
      ·obtain ⟨n', q', hn', hl', hμ'⟩ := Zai.killM k
       obtain rfl := h1.inj n n' b q q' hμ hμ' hl hl'
       exact hn' (Zcu.1 hsub n hn)
    ·rcases hb with hb | hb
     ·refine ⟨?_, h1.ilt b (h1.isub b hb)⟩
      rcases h1.inew false b hb with k | k | k
      ·exact .inl k
      ·exact .inr (.inl (hL0 b k))
      ·exact .inr (.inr k)
     ·obtain ⟨n', q', hl', hμ'⟩ := hlive hb
      refine ⟨?_, h1.live_lt hl' hμ'⟩
      rcases h1.live n' b q' hl' hμ' with k | k
      ·exact .inr (.inl (hL0 b k))
      ·exact .inr (.inr k)
  ·cases hfin
 ·cases hfin
end Go.PI

namespace Go.PI
open Go.RowKit
variable {P : Program} {c : Ctx} {g : Cfg} {w : World} {μ : Nm} {I : Bool -> Nat -> Prop}
def rootOf : Pat -> D -> Option (Nat × Nat)
 | .obj p, .c (.ref n 0 0) => some (n, p.sz)
 | _, _ => none
def ZcU : List (Bool × Pat) -> List D -> Option (List (Nat × Nat))
 | [], [] => some []
 | (true, p) :: r, d :: l => match rootOf p d, ZcU r l with
  | some x, some rs => some (x :: rs)
  | _, _ => none
 | (false, _) :: r, _ :: l => ZcU r l
 | [], _ :: _ => none
 | _ :: _, [] => none
def rootB (m : Mem) (r : Nat × Nat) : Bool := match look r.1 m with
 | some mb => mb.cellsB.isSome && Nat.beq mb.shape.1 1 && Nat.beq mb.shape.2 r.2
 | none => false
def ZbG : List (Nat × Nat) -> Mem -> Mem
 | [], m => m
 | (n, z) :: r, m => ZbG r (setm n (.dv (List.replicate z .bad)) m)
structure Bk where
 p : Pat
 y : p.T
 k : Nat
def bkOne : (p : Pat) -> p.T -> D -> Option Bk
 | .obj p, y, .c (.ref n 0 0) => some ⟨p, y, n⟩
 | _, _, _ => none
def ZcA : (ins : List (Bool × Pat)) -> PBack ins -> List D -> List Bk
 | (true, p) :: r, y, d :: l => (bkOne p y.1 d).toList ++ ZcA r y.2 l
 | (false, _) :: r, y, _ :: l => ZcA r y l
 | _, _, _ => []
def ZgT : List Bk -> Nat
 | [] => 0
 | x :: r => x.p.cnt + ZgT r
def ZeB : List (Bool × Pat) -> Nat
 | [] => 0
 | (true, .obj p) :: r => p.cnt + ZeB r
 | _ :: r => ZeB r
def Zip : List Bk -> Nat -> Mem -> Mem
 | [], _, m => m
 | x :: r, n, m => Zip r (n + x.p.cnt) (setm x.k (x.p.encB x.y (x.p.enc x.y n).1) ((x.p.enc x.y n).2 ++ m))
def Zbg (N : Nat) (ins : List (Bool × Pat)) (outs : List Pat) (ns : List Nat) (rs : List (Nat × Nat)) : List Nat := List.range' N (ZeB ins + Zci outs) ++ ns.filter fun n => !memb n (rs.map (·.1))
def ocGo (ins : List (Bool × Pat)) (outs : List Pat) (N : Nat) (s : St) (kl : List Nat) (rs : List (Nat × Nat)) (y : POuts outs × PBack ins) : D × Mem × List Nat :=
 ((encO outs y.1 (N + ZeB ins)).1, (encO outs y.1 (N + ZeB ins)).2 ++ Zip (ZcA ins y.2 s.t) N (ZbG rs (killM kl s.m)), kl ++ s.k)
def ocOrc1 (ins : List (Bool × Pat)) (outs : List Pat) (F : PArgs ins -> Option (POuts outs × PBack ins)) (N : Nat) (s : St) : Br (D × Mem × List Nat) :=
 match nmsA s.m ins s.t, ZcU ins s.t with
 | some ns, some rs => match decA false ns s.m (killM ns s.m) ins s.t with
  | some (xs, ks) => bif Zbo ks ns && ZdS ks && (rs.all (fun r => rootB s.m r && memb r.1 ks && !memb r.1 (Zbg N ins outs ns rs))) then .opt (F xs) fun y => .ret (ocGo ins outs N s (Zbg N ins outs ns rs) rs y) else .no
  | none => .no
 | _, _ => .no
def ZaV (ins : List (Bool × Pat)) (outs : List Pat) (F : PArgs ins -> Option (POuts outs × PBack ins)) : Orc := fun nm args m =>
 ocOrc1 ins outs F ((nm + 1) * 1024 + 900) (ZaA (keptA m ins args) (⟨args, m, []⟩, .c .bad)).1
theorem MC.setRoot {m : Mem} (h : MC m w μ I) {k : Nat} {mb0 mb : MB} (h0 : look k m = some mb0) {b q : Nat} (hμ : μ k = some (b, q)) (hs : mb.shape = mb0.shape) (hb : BR μ I w (shp m) mb b q) : MC (setm k mb m) w μ I /\ shp (setm k mb m) = shp m := by
 have hsh : shp (setm k mb m) = shp m := ZoP h0 hs
 have hl : ∀ j, look j (setm k mb m) ≠ none -> look j m ≠ none := by
  intro j hj
  by_cases e : j = k
  ·subst e; rw [h0]; simp
  ·rwa [Zar mb e] at hj
 refine ⟨⟨?_, ?_, ?_⟩, hsh⟩
 ·intro j mb' hj
  rw [hsh]
  by_cases e : j = k
  ·subst e
   rw [ZaF] at hj
   obtain rfl := Option.some.inj hj
   exact .inl ⟨b, q, hμ, hb⟩
  ·rw [Zar mb e] at hj
   exact h.mem j mb' hj
 ·exact fun n1 n2 b q q' e1 e2 h1 h2 => h.inj n1 n2 b q q' e1 e2 (hl _ h1) (hl _ h2)
 ·exact fun n1 b q h1 e => h.sep n1 b q (hl _ h1) e
theorem ZeO : ∀ (rs : List (Nat × Nat)) (m : Mem) (k : Nat), k ∉ rs.map (·.1) -> look k (ZbG rs m) = look k m
 | [], _, _, _ => rfl
 | (n, z) :: r, m, k, h => by
  simp only [List.map_cons, List.mem_cons, not_or] at h
  rw [show ZbG ((n, z) :: r) m = ZbG r (setm n (.dv (List.replicate z .bad)) m) from rfl, ZeO r _ k h.2, Zar _ h.1]
theorem ZdJ : ∀ (rs : List (Nat × Nat)) (m : Mem) (k : Nat), k ∈ rs.map (·.1) -> ∃ z, (k, z) ∈ rs /\ look k (ZbG rs m) = some (.dv (List.replicate z .bad))
 | [], _, _, h => by simp at h
 | (n, z) :: r, m, k, h => by
  show ∃ z', (k, z') ∈ (n, z) :: r /\ look k (ZbG r (setm n (.dv (List.replicate z .bad)) m)) = _
  by_cases hk : k ∈ r.map (·.1)
  ·obtain ⟨z', h1, h2⟩ := ZdJ r (setm n (.dv (List.replicate z .bad)) m) k hk
   exact ⟨z', List.mem_cons_of_mem _ h1, h2⟩
  ·have e : k = n := by
    simp only [List.map_cons, List.mem_cons] at h
    exact h.resolve_right hk
   subst e
   exact ⟨z, List.mem_cons_self, by rw [ZeO r _ k hk, ZaF]⟩
theorem BR.qsh {sh : Sh} {mb : MB} {b q : Nat} (h : BR μ I w sh mb b q) {l : List C} (hl : mb.cellsB = some l) : q = mb.shape.2 := by
 obtain ⟨cur, e, h1, h2, h3⟩ := h
 cases mb with
 | tv t τ x =>
  have : cur.toList.length = τ.sz := h3.length
  simpa [MB.shape, <- h2] using this
 | dv l' =>
  have := h3.1.1
  simp [MB.shape, <- h2]
  simpa using this.symm
 | ar t e' τ xs => cases hl
def ZdL (w : World) (I : Bool -> Nat -> Prop) (μ : Nm) : List Bk -> List Nat -> Prop
 | [], B => B = []
 | x :: r, B => ∃ b B1 B2 cur e, B = (b :: B1) ++ B2 /\ μ x.k = some (b, x.p.sz) /\ w.heap[b]? = some (.cells cur e (0, 0)) /\ cur.size = x.p.sz /\ (∀ u ∈ cur.toList, u.oneCell' = true) /\ PK I w x.p x.y cur.toList B1 /\ ZdL w I μ r B2
theorem ZdL.mem : ∀ {l : List Bk} {B : List Nat}, ZdL w I μ l B -> ∀ x ∈ l, ∀ b q, μ x.k = some (b, q) -> b ∈ B
 | [], _, _, x, hx, _, _, _ => by simp at hx
 | y :: r, _, ⟨b, B1, B2, cur, e, h1, h2, _, _, _, _, h3⟩, x, hx, b', q, hb => by
  subst h1
  rcases List.mem_cons.1 hx with rfl | hx
  ·rw [h2] at hb
   obtain ⟨rfl, _⟩ := Prod.mk.inj (Option.some.inj hb)
   exact List.mem_append.2 (.inl List.mem_cons_self)
  ·exact List.mem_append.2 (.inr (ZdL.mem h3 x hx b' q hb))
theorem ZdL.congr {μ' : Nm} : ∀ {l : List Bk} {B : List Nat}, (∀ x ∈ l, μ' x.k = μ x.k) -> ZdL w I μ l B -> ZdL w I μ' l B
 | [], _, _, h => h
 | x :: r, _, hm, ⟨b, B1, B2, cur, e, h1, h2, h3, h4, h5, h6, h7⟩ => ⟨b, B1, B2, cur, e, h1, (hm x List.mem_cons_self).trans h2, h3, h4, h5, h6, ZdL.congr (fun y hy => hm y (List.mem_cons_of_mem _ hy)) h7⟩
structure Backs (m m' : Mem) (w : World) (μ μ' : Nm) (I : Bool -> Nat -> Prop) (n k : Nat) (B : List Nat) : Prop where
 mc : MC m' w μ' I
 same : ∀ j, ¬ (n <= j /\ j < n + k) -> μ' j = μ j /\ shp m' j = shp m j
 live : ∀ b, Zai m' μ' b -> Zai m μ b \/ b ∈ B
theorem Ze3 {m : Mem} {k : Nat} : shp m k = none ↔ look k m = none := by simp [shp]
theorem ZpS : ∀ {l : List Bk} {B : List Nat} {m : Mem} {μ : Nm} (n : Nat), MC m w μ I -> ZdL w I μ l B -> B.Nodup -> (∀ k, n <= k -> k < n + ZgT l -> look k m = none) -> (∀ b ∈ B, ¬ I true b) -> (∀ x ∈ l, shp m x.k = some (1, x.p.sz)) -> (∀ b ∈ B, Zai m μ b -> ∃ x ∈ l, ∃ q, μ x.k = some (b, q)) ->
  ∃ μ', Backs m (Zip l n m) w μ μ' I n (ZgT l) B
 | [], B, m, μ, n, hm, _, _, _, _, _, _ => ⟨μ, hm, fun _ _ => ⟨rfl, rfl⟩, fun b hb => .inl hb⟩
 | x :: r, _, m, μ, n, hm, ⟨b, B1, B2, cur, e, h1, hμ, hh, hcs, hone, hpk, hr⟩, hnd, hn, hI, hsh, hlv => by
  subst h1
  obtain ⟨d1, d2, d3⟩ := List.nodup_append.1 hnd
  obtain ⟨d4, d5⟩ := List.nodup_cons.1 d1
  have hcnt : ZgT (x :: r) = x.p.cnt + ZgT r := rfl
  have hinner : ∀ b' ∈ B1, ¬ Zai m μ b' := fun b' hb' hl => by
   obtain ⟨y, hy, q, hq⟩ := hlv b' (List.mem_append.2 (.inl (List.mem_cons_of_mem _ hb'))) hl
   rcases List.mem_cons.1 hy with rfl | hy
   ·rw [hμ] at hq
    obtain ⟨rfl, _⟩ := Prod.mk.inj (Option.some.inj hq)
    exact d4 hb'
   ·exact d3 b' (List.mem_cons_of_mem _ hb') b' (hr.mem y hy b' q hq) rfl
  obtain ⟨μ1, hA, hR⟩ := ZdB x.p n hm hpk (fun j a1 a2 => hn j a1 (by rw [hcnt]; omega)) d5 hinner (fun b' hb' => hI b' (List.mem_append.2 (.inl (List.mem_cons_of_mem _ hb'))))
  have hup := hA.up fun j a1 a2 => hn j a1 (by rw [hcnt]; omega)
  have hthere : ∀ y ∈ x :: r, look y.k m ≠ none := fun y hy e => by
   have := hsh y hy
   rw [Ze3.2 e] at this
   cases this
  obtain ⟨hk1, hk2⟩ := hup x.k (hthere x List.mem_cons_self)
  have hshk1 : shp ((x.p.enc x.y n).2 ++ m) x.k = some (1, x.p.sz) := hk2.trans (hsh x List.mem_cons_self)
  obtain ⟨mb0, hmb0⟩ : ∃ mb0, look x.k ((x.p.enc x.y n).2 ++ m) = some mb0 := by
   cases e : look x.k ((x.p.enc x.y n).2 ++ m) with
   | none => rw [Ze3.2 e] at hshk1; cases hshk1
   | some mb0 => exact ⟨mb0, rfl⟩
  have hs0 : mb0.shape = (1, x.p.sz) := by
   rw [Zal hmb0] at hshk1
   exact Option.some.inj hshk1
  have hbr := ZsW (p := x.p) (x := x.y) rfl hh hone hpk hR
  rw [hcs] at hbr
  obtain ⟨hmc2, hsh2⟩ := hA.mc.setRoot hmb0 (hk1.trans hμ) (by rw [hs0]; exact Zkt x.p x.y _ (by rw [hR.1, hpk.len])) hbr
  have hlook : ∀ j, look j (setm x.k (x.p.encB x.y (x.p.enc x.y n).1) ((x.p.enc x.y n).2 ++ m)) = none ↔ look j ((x.p.enc x.y n).2 ++ m) = none := fun j => by rw [<- Ze3, <- Ze3, hsh2]
  have hlive : ∀ b', Zai (setm x.k (x.p.encB x.y (x.p.enc x.y n).1) ((x.p.enc x.y n).2 ++ m)) μ1 b' -> Zai m μ b' \/ b' ∈ B1 := fun b' ⟨j, q, hj, hq⟩ => hA.live b' ⟨j, q, fun e => hj ((hlook j).2 e), hq⟩
  have hkeep : ∀ y ∈ r, μ1 y.k = μ y.k := fun y hy => (hup y.k (hthere y (List.mem_cons_of_mem _ hy))).1
  obtain ⟨μ2, hB⟩ := ZpS (l := r) (n + x.p.cnt) hmc2 (hr.congr hkeep) d2
   (fun j a1 a2 => by
    rw [hlook, (hA.same j (by omega)).2]
    exact hn j (by omega) (by rw [hcnt]; omega))
   (fun b' hb' => hI b' (List.mem_append.2 (.inr hb')))
   (fun y hy => by
    rw [hsh2, (hup y.k (hthere y (List.mem_cons_of_mem _ hy))).2]
    exact hsh y (List.mem_cons_of_mem _ hy))
   (fun b' hb' hl => by
    rcases hlive b' hl with k | k
    ·obtain ⟨y, hy, q, hq⟩ := hlv b' (List.mem_append.2 (.inr hb')) k
     rcases List.mem_cons.1 hy with rfl | hy
     ·rw [hμ] at hq
      obtain ⟨rfl, _⟩ := Prod.mk.inj (Option.some.inj hq)
      exact absurd rfl (d3 b List.mem_cons_self b hb')
     ·exact ⟨y, hy, q, (hkeep y hy).trans hq⟩
    ·exact absurd rfl (d3 b' (List.mem_cons_of_mem _ k) b' hb'))
  refine ⟨μ2, hB.mc, fun j hj => ?_, fun b' hb' => ?_⟩
  ·rw [hcnt] at hj
   obtain ⟨a1, a2⟩ := hB.same j (by omega)
   obtain ⟨a3, a4⟩ := hA.same j (by omega)
   exact ⟨a1.trans a3, a2.trans ((congrFun hsh2 j).trans (by unfold shp; rw [a4]))⟩
  ·rcases hB.live b' hb' with k | k
   ·rcases hlive b' k with k | k
    ·exact .inl k
    ·exact .inr (List.mem_append.2 (.inl (List.mem_cons_of_mem _ k)))
   ·exact .inr (List.mem_append.2 (.inr k))
theorem bk_of {w' : World} {J' : Bool -> Nat -> Prop} {m : Mem} (hm : MC m w μ I) : ∀ {ins : List (Bool × Pat)} {ds : List D} {vs : List Value} {rs : List (Nat × Nat)} {y : PBack ins} {B : List Nat}, RDs μ I w (shp m) ds vs -> ZcU ins ds = some rs -> PBK J' w' ins y vs B -> (∀ r ∈ rs, rootB m r = true) ->
  ZdL w' J' μ (ZcA ins y ds) B /\ (ZcA ins y ds).map (fun x => (x.k, x.p.sz)) = rs /\ ZgT (ZcA ins y ds) = ZeB ins /\ ∀ r ∈ rs, shp m r.1 = some (1, r.2)
 | [], [], vs, rs, y, B, _, h, hp, _ => by
  simp only [ZcU, Option.some.injEq] at h
  subst h
  exact ⟨hp, rfl, rfl, fun r hr => by simp at hr⟩
 | (true, p) :: r, d :: l, vs, rs, y, B, hd, h, hp, hb => by
  simp only [ZcU] at h
  split at h
  ·rename_i x rs' h1 h2
   obtain rfl := Option.some.inj h
   cases vs with
   | nil => have := hd.1; simp at this
   | cons v vs =>
    obtain ⟨B1, B2, rfl, hv, hr⟩ := hp
    obtain ⟨i1, i2, i3, i4⟩ := bk_of hm (ins := r) (ds := l) (vs := vs) (rs := rs') (y := y.2) (B := B2) ⟨by have := hd.1; simpa using this, fun j d' v' hd' hv' => hd.2 (j + 1) d' v' (by simpa using hd') (by simpa using hv')⟩ h2 hr (fun r hr => hb r (List.mem_cons_of_mem _ hr))
    unfold rootOf at h1
    split at h1
    ·rename_i p n
     obtain rfl := Option.some.inj h1
     obtain ⟨b, q, len, z, e1, e2, e3, rfl⟩ := hd.2 0 _ v rfl rfl
     obtain ⟨b', cur, e, B', hv1, rfl, hh, hone, hpk⟩ : PK J' w' (.obj p) y.1 [_] B1 := hv
     have hbb : b' = b := by
      simp at hv1
      exact hv1.symm
     subst hbb
     have hrb := hb (n, p.sz) List.mem_cons_self
     unfold rootB at hrb
     split at hrb
     ·rename_i mb hl
      simp only [Bool.and_eq_true] at hrb
      obtain ⟨⟨k1, k2⟩, k3⟩ := hrb
      obtain ⟨cl, hcl⟩ := Option.isSome_iff_exists.1 k1
      have hsh : mb.shape = (1, p.sz) := by
       rw [<- Nat.eq_of_beq_eq_true k2, <- Nat.eq_of_beq_eq_true k3]
      have hl : look n m = some mb := hl
      have hcs : cur.size = p.sz := by have := hpk.len; simpa using this
      refine ⟨⟨b', B', B2, cur, e, rfl, ?_, hh, hcs, hone, hpk, i1⟩, by simp [ZcA, bkOne, i2], by simp [ZcA, bkOne, ZgT, ZeB, i3], fun r hr => ?_⟩
      ·show μ n = some (b', p.sz)
       rcases hm.mem n _ hl with ⟨b2, q2, f1, f2⟩ | ⟨f1, _⟩
       ·rw [e1] at f1
        obtain ⟨rfl, rfl⟩ := Prod.mk.inj (Option.some.inj f1)
        have := f2.qsh hcl
        rw [hsh] at this
        rw [this] at e1
        exact e1
       ·rw [e1] at f1; cases f1
      ·rcases List.mem_cons.1 hr with rfl | hr
       ·show shp m n = _
        rw [Zal hl, hsh]
       ·exact i4 r hr
     ·cases hrb
    ·cases h1
  ·cases h
 | (false, p) :: r, d :: l, vs, rs, y, B, hd, h, hp, hb => by
  simp only [ZcU] at h
  cases vs with
  | nil => have := hd.1; simp at this
  | cons v vs =>
   obtain ⟨i1, i2, i3, i4⟩ := bk_of hm (ins := r) (ds := l) (vs := vs) (rs := rs) (y := y) (B := B) ⟨by have := hd.1; simpa using this, fun j d' v' hd' hv' => hd.2 (j + 1) d' v' (by simpa using hd') (by simpa using hv')⟩ h hp hb
   exact ⟨i1, i2, i3, i4⟩
 | [], _ :: _, _, _, _, _, _, h, _, _ => by cases h
 | (true, _) :: _, [], _, _, _, _, _, h, _, _ => by simp [ZcU] at h
 | (false, _) :: _, [], _, _, _, _, _, h, _, _ => by simp [ZcU] at h
theorem Ze7 {m m' : Mem} {k : Nat} (h : shp m' k = shp m k) : look k m' = none ↔ look k m = none := by rw [<- Ze3, <- Ze3, h]
theorem OC.callOk [DR] {f : Nat} {ins : List (Bool × Pat)} {outs : List Pat} {F : PArgs ins -> Option (POuts outs × PBack ins)} (h : OC P f ins outs F) : Zbp P f (ZaV ins outs F) := by
 refine ⟨h.fn, fun w μ I m nm args vs d m' ks hm ha hr => ?_⟩
 have h0 : Rel (ZaZ w I m μ) ⟨args, m, []⟩ { tmps := vs.toArray, defers := [] } w μ I := by
  have := Zfx hm ha 0
  simpa using this
 obtain ⟨I1, h1, _⟩ := ZbN (keptA m ins args) h0 (d := .c .bad) (v := undef) trivial
 unfold ZaV at hr
 generalize (ZaA (keptA m ins args) (⟨args, m, []⟩, .c .bad)).1 = s at hr h1
 generalize (nm + 1) * 1024 + 900 = N at hr
 unfold ocOrc1 at hr
 split at hr
 ·rename_i ns rs hns hrs
  split at hr
  ·rename_i xs kk hdec
   cases hc : Zbo kk ns && ZdS kk && (rs.all (fun r => rootB s.m r && memb r.1 kk && !memb r.1 (Zbg N ins outs ns rs))) with
   | false => rw [hc] at hr; cases hr
   | true =>
    rw [hc, cond_true] at hr
    obtain ⟨y, hy, hr⟩ := Br.opt_some hr
    have hr := Option.some.inj hr
    simp only [Bool.and_eq_true, List.all_eq_true] at hc
    obtain ⟨⟨hsub, hndk⟩, hroots⟩ := hc
    have hsub := Zcu.1 hsub
    have hndk := ZfW hndk
    have hM := h1.toMRel
    have hlen : s.t.length = vs.length := by have := h1.len; simpa using this
    have hargs : RDs μ I1 w (shp s.m) s.t vs := by
     refine ⟨hlen, fun j d v hd hv => ?_⟩
     have hj := h1.tm j
     have e1 : s.t.getD j (.c .bad) = d := by simp [List.getD, hd]
     have e2 : (vs.toArray).getD j undef = v := by simp [Array.getD_eq_getD_getElem?, hv]
     rw [e1] at hj
     have hj : RD μ I1 w (shp s.m) d ((vs.toArray).getD j undef) := hj
     rw [e2] at hj
     exact hj
    let J : Bool -> Nat -> Prop := fun t b => I1 t b \/ (t = true /\ Zai (killM ns s.m) μ b)
    obtain ⟨B, hB1, hB2, hB3⟩ := Zlz hM (J := J) (fun t b hb => .inl hb) (fun b hb => by
     rcases hb with hb | ⟨e, _⟩
     ·exact .inl (h1.isub b hb)
     ·cases e) (fun b hb => .inr ⟨rfl, hb⟩) (fun e => by cases e) hdec hargs
    have hmem : ∀ b ∈ B, ∃ n q, n ∈ kk /\ look n s.m ≠ none /\ μ n = some (b, q) := fun b hb => by
     obtain ⟨n, q, hn, hμ⟩ := ZeP.1 (hB2.subset hb)
     exact ⟨n, q, hn, hB3 n hn, hμ⟩
    have hnJ : ∀ b ∈ B, ¬ J true b := by
     intro b hb hj
     obtain ⟨n, q, hn, hl, hμ⟩ := hmem b hb
     rcases hj with hj | ⟨_, hj⟩
     ·exact h1.sep n b q hl hμ hj
     ·obtain ⟨n', q', hn', hl', hμ'⟩ := Zai.killM hj
      obtain rfl := h1.inj n n' b q q' hμ hμ' hl hl'
      exact hn' (hsub n hn)
    have hJlt : ∀ b, J true b -> b < w.heap.size := by
     rintro b (hb | ⟨_, hb⟩)
     ·exact hM.ilt b hb
     ·obtain ⟨n', q', _, hl', hμ'⟩ := Zai.killM hb
      exact hM.live_lt hl' hμ'
    have hBlive : ∀ b ∈ B, Zai m μ b \/ w.heap.size <= b := fun b hb => by
     obtain ⟨n, q, hn, hl, hμ⟩ := hmem b hb
     exact h1.live n b q hl hμ
    have hBlt : ∀ b ∈ B, b < w.heap.size := fun b hb => by
     obtain ⟨n, q, hn, hl, hμ⟩ := hmem b hb
     exact hM.live_lt hl hμ
    refine (h.ok w (fun b => J (b && !false)) (fun b hb => by
     rcases hb with hb | ⟨e, _⟩
     ·exact .inl (h1.isub b hb)
     ·cases e) hJlt xs vs B hB1 (hB2.nodup (ZdG hM.mc hndk hB3)) hnJ y hy).mono ?_
    rintro e w' ⟨v, J', C1, C2, rfl, r1, r2, r3, r4, r5, r6, r7, r8, r9, r10, r11⟩
    obtain ⟨d1, d2, d3⟩ := List.nodup_append.1 r3
    let I2 : Bool -> Nat -> Prop := fun t b => I1 t b \/ J' b
    have hJ2 : ∀ t b, (fun _ => J' : Bool -> Nat -> Prop) t b -> I2 t b := fun t b hb => .inr hb
    have hst : ∀ t, Za3 (I1 t) w w' := fun t b hb => by
     have hb' : I1 true b := by cases t; exact h1.isub b hb; exact hb
     exact r11 b (hM.ilt b hb') fun hB => hnJ b hB (.inl hb')
    obtain ⟨q1, q2, q3, q4⟩ := bk_of hM.mc hargs hrs r2 (fun r hr => (hroots r hr).1.1)
    have hgone : ∀ n, n ∉ Zbg N ins outs ns rs -> n ∈ ns -> n ∈ rs.map (·.1) := fun n hn hns => by
     cases hmm : memb n (rs.map (·.1)) with
     | true => exact Zah.1 hmm
     | false => exact absurd (List.mem_append.2 (.inr (List.mem_filter.2 ⟨hns, by simp [hmm]⟩))) hn
    have hrootgone : ∀ n ∈ rs.map (·.1), n ∉ Zbg N ins outs ns rs := fun n hn hg => by
     obtain ⟨r, hr, rfl⟩ := List.mem_map.1 hn
     have := (hroots r hr).2
     rw [Zah.2 hg] at this
     cases this
    have h3 : MC (killM (Zbg N ins outs ns rs) s.m) w μ I1 := hM.mc.killM _
    have hsh4 : shp (ZbG rs (killM (Zbg N ins outs ns rs) s.m)) = shp (killM (Zbg N ins outs ns rs) s.m) := by
     funext n
     by_cases hn : n ∈ rs.map (·.1)
     ·obtain ⟨z, hz, hl⟩ := ZdJ rs (killM (Zbg N ins outs ns rs) s.m) n hn
      rw [Zal hl, ZfY _ (hrootgone n hn), q4 (n, z) hz]
      simp [MB.shape]
     ·unfold shp
      rw [ZeO rs _ n hn]
    have hframe : ∀ n, look n (killM (Zbg N ins outs ns rs) s.m) ≠ none -> n ∉ rs.map (·.1) -> ∀ b q, μ n = some (b, q) -> b ∉ B := fun n hl hn b q hμ hb => by
     obtain ⟨k1, k2⟩ := Zcs _ hl
     obtain ⟨n', q', hn', hl', hμ'⟩ := hmem b hb
     obtain rfl := h1.inj n n' b q q' hμ hμ' k2 hl'
     exact hn (hgone n k1 (hsub n hn'))
    have hrk : ∀ n ∈ rs.map (·.1), ∃ b z, (n, z) ∈ rs /\ μ n = some (b, z) /\ b ∈ C2 /\ ∃ cur e, w'.heap[b]? = some (.cells cur e (0, 0)) /\ cur.size = z /\ ∀ u ∈ cur.toList, u.oneCell' = true := by
     intro n hn
     rw [<- q2] at hn
     obtain ⟨⟨n', z⟩, hz, rfl⟩ := List.mem_map.1 hn
     obtain ⟨x, hx, e⟩ := List.mem_map.1 hz
     obtain ⟨rfl, rfl⟩ := Prod.mk.inj e
     have key : ∀ {l : List Bk} {C : List Nat}, ZdL w' (fun _ => J') μ l C -> x ∈ l -> ∃ b, μ x.k = some (b, x.p.sz) /\ b ∈ C /\ ∃ cur e, w'.heap[b]? = some (.cells cur e (0, 0)) /\ cur.size = x.p.sz /\ ∀ u ∈ cur.toList, u.oneCell' = true := by
      intro l
      induction l with
      | nil => intro C _ hx; simp at hx
      | cons a r ih =>
       rintro C ⟨b, B1, B2, cur, e, rfl, k2, k3, k4, k5, _, k7⟩ hx
       rcases List.mem_cons.1 hx with rfl | hx
       ·exact ⟨b, k2, List.mem_append.2 (.inl List.mem_cons_self), cur, e, k3, k4, k5⟩
       ·obtain ⟨b', t1, t2, t3⟩ := ih k7 hx
        exact ⟨b', t1, List.mem_append.2 (.inr t2), t3⟩
     obtain ⟨b, t1, t2, t3⟩ := key q1 hx
     exact ⟨b, x.p.sz, by rw [<- q2]; exact hz, t1, t2, t3⟩
    have h4 : MC (ZbG rs (killM (Zbg N ins outs ns rs) s.m)) w' μ I2 := by
     have hlk : ∀ n, look n (ZbG rs (killM (Zbg N ins outs ns rs) s.m)) ≠ none -> look n (killM (Zbg N ins outs ns rs) s.m) ≠ none := fun n hn e => hn ((Ze7 (congrFun hsh4 n)).2 e)
     refine ⟨fun n mb hn => ?_, fun n1 n2 b q q' e1 e2 k1 k2 => h3.inj n1 n2 b q q' e1 e2 (hlk _ k1) (hlk _ k2), fun n b q hn hμ hi => ?_⟩
     ·by_cases hr : n ∈ rs.map (·.1)
      ·obtain ⟨z, hz, hl⟩ := ZdJ rs (killM (Zbg N ins outs ns rs) s.m) n hr
       rw [hl] at hn
       obtain rfl := Option.some.inj hn
       obtain ⟨b, z', hz', t1, t2, cur, e, t3, t4, t5⟩ := hrk n hr
       have hzz : z' = z := by
        have a1 := q4 (n, z) hz
        have a2 := q4 (n, z') hz'
        rw [a1] at a2
        exact (Prod.mk.inj (Option.some.inj a2)).2.symm
       subst hzz
       refine .inl ⟨b, z', t1, cur, e, t3, t4, ⟨by simp [t4], fun j c v hj _ => ?_⟩, t5⟩
       rw [List.getElem?_replicate] at hj
       split at hj
       ·obtain rfl := Option.some.inj hj; exact trivial
       ·cases hj
      ·rw [ZeO rs _ n hr] at hn
       rcases h3.mem n mb hn with ⟨b, q, t1, t2⟩ | t
       ·refine .inl ⟨b, q, t1, ?_⟩
        have hb : w'.heap[b]? = w.heap[b]? := r11 b t2.lt (hframe n (by rw [hn]; simp) hr b q t1)
        have := t2.map (φ := id) (μ' := μ) (I' := I2) (w' := w') (sh' := shp (ZbG rs (killM (Zbg N ins outs ns rs) s.m))) (fun c v hc => hc.same (fun t b hb => .inl hb) hst fun k _ => ⟨rfl, congrFun hsh4 k⟩) (fun t b hb => .inl hb) hst hb
        rwa [MB.mapC_id] at this
       ·exact .inr t
     ·have hn3 := hlk n hn
      rcases hi with hi | hi
      ·exact h3.sep n b q hn3 hμ hi
      ·by_cases hr : n ∈ rs.map (·.1)
       ·obtain ⟨b', z', _, t1, t2, _⟩ := hrk n hr
        rw [hμ] at t1
        obtain ⟨rfl, _⟩ := Prod.mk.inj (Option.some.inj t1)
        exact (r4 b (List.mem_append.2 (.inr t2))).2 hi
       ·obtain ⟨k1, k2⟩ := Zcs _ hn3
        rcases (r6 b hi).1 with k | k | k
        ·rcases k with k | ⟨e, _⟩
         ·exact h1.sep n b q k2 hμ (h1.isub b k)
         ·cases e
        ·exact hframe n hn3 hr b q hμ k
        ·have := hM.live_lt k2 hμ
         omega
    have hlive4 : ∀ b, Zai (ZbG rs (killM (Zbg N ins outs ns rs) s.m)) μ b -> (∃ n q, n ∈ rs.map (·.1) /\ μ n = some (b, q)) \/ (b ∉ B /\ b < w.heap.size) := by
     rintro b ⟨n, q, hn, hμ⟩
     have hn3 : look n (killM (Zbg N ins outs ns rs) s.m) ≠ none := fun e => hn ((Ze7 (congrFun hsh4 n)).2 e)
     by_cases hr : n ∈ rs.map (·.1)
     ·exact .inl ⟨n, q, hr, hμ⟩
     ·exact .inr ⟨hframe n hn3 hr b q hμ, hM.live_lt (Zcs _ hn3).2 hμ⟩
    have hfresh : ∀ k, N <= k -> k < N + (ZeB ins + Zci outs) -> look k (ZbG rs (killM (Zbg N ins outs ns rs) s.m)) = none := fun k a1 a2 => by
     have hk : k ∈ Zbg N ins outs ns rs := List.mem_append.2 (.inl (List.mem_range'_1.2 ⟨a1, a2⟩))
     exact (Ze7 (congrFun hsh4 k)).2 (ZkY _ (.inl hk))
    have hnotB : ∀ b ∈ C1 ++ C2, ¬ (b ∉ B /\ b < w.heap.size) := fun b hb ⟨t1, t2⟩ => by
     rcases (r4 b hb).1 with k | k
     ·exact t1 k
     ·omega
    have hnI2 : ∀ b ∈ C1 ++ C2, ¬ I2 true b := fun b hb hi => by
     rcases hi with hi | hi
     ·rcases (r4 b hb).1 with k | k
      ·exact hnJ b k (.inl hi)
      ·have := hM.ilt b hi
       omega
     ·exact (r4 b hb).2 hi
    have hq1 : ZdL w' I2 μ (ZcA ins y.2 s.t) C2 := by
     have key : ∀ {l : List Bk} {C : List Nat}, ZdL w' (fun _ => J') μ l C -> ZdL w' I2 μ l C := by
      intro l
      induction l with
      | nil => intro C h; exact h
      | cons a r ih =>
       rintro C ⟨b, B1, B2, cur, e, k1, k2, k3, k4, k5, k6, k7⟩
       exact ⟨b, B1, B2, cur, e, k1, k2, k3, k4, k5, k6.mono hJ2, ih k7⟩
     exact key q1
    obtain ⟨μ5, h5⟩ := ZpS N h4 hq1 d2 (fun k a1 a2 => hfresh k a1 (by rw [q3] at a2; omega)) (fun b hb => hnI2 b (List.mem_append.2 (.inr hb)))
     (fun x hx => by
      have hx' : (x.k, x.p.sz) ∈ rs := by rw [<- q2]; exact List.mem_map.2 ⟨x, hx, rfl⟩
      rw [hsh4, ZfY _ (hrootgone x.k (List.mem_map.2 ⟨_, hx', rfl⟩))]
      exact q4 _ hx')
     (fun b hb hl => by
      rcases hlive4 b hl with ⟨n, q, hn, hμ⟩ | k
      ·rw [<- q2] at hn
       obtain ⟨r', hr', rfl⟩ := List.mem_map.1 hn
       obtain ⟨x, hx, rfl⟩ := List.mem_map.1 hr'
       exact ⟨x, hx, q, hμ⟩
      ·exact absurd k (hnotB b (List.mem_append.2 (.inr hb))))
    rw [q3] at h5
    obtain ⟨μ6, h6, hrd⟩ := encO_ok (N + ZeB ins) h5.mc (r1.mono hJ2) (fun k a1 a2 => by
      refine (Ze7 (h5.same k (by omega)).2).2 (hfresh k (by omega) (by omega))) d1 (fun b hb hl => by
      rcases h5.live b hl with k | k
      ·rcases hlive4 b k with ⟨n, q, hn, hμ⟩ | k
       ·obtain ⟨b', z', _, t1, t2, _⟩ := hrk n hn
        rw [hμ] at t1
        obtain ⟨rfl, _⟩ := Prod.mk.inj (Option.some.inj t1)
        exact d3 b hb b t2 rfl
       ·exact hnotB b (List.mem_append.2 (.inl hb)) k
      ·exact d3 b hb b k rfl) (fun b hb => hnI2 b (List.mem_append.2 (.inl hb)))
    unfold ocGo at hr
    simp only [Prod.mk.injEq] at hr
    obtain ⟨rfl, rfl, rfl⟩ := hr
    have hlive6 : ∀ b, Zai ((encO outs y.1 (N + ZeB ins)).2 ++ Zip (ZcA ins y.2 s.t) N (ZbG rs (killM (Zbg N ins outs ns rs) s.m))) μ6 b -> Zai m μ b \/ w.heap.size <= b := by
     intro b hb
     have hC : b ∈ C1 ++ C2 -> Zai m μ b \/ w.heap.size <= b := fun hb => by
      rcases (r4 b hb).1 with k | k
      ·exact hBlive b k
      ·exact .inr k
     rcases h6.live b hb with k | k
     ·rcases h5.live b k with k | k
      ·obtain ⟨n, q, hn, hμ⟩ := k
       have hn3 : look n (killM (Zbg N ins outs ns rs) s.m) ≠ none := fun e => hn ((Ze7 (congrFun hsh4 n)).2 e)
       exact h1.live n b q (Zcs _ hn3).2 hμ
      ·exact hC (List.mem_append.2 (.inr k))
     ·exact hC (List.mem_append.2 (.inl k))
    refine ⟨v, μ6, I2, rfl, ?_, fun t b hb => .inl (h1.i0 t b hb), fun n hn hk => ?_, hrd⟩
    ·refine { mem := h6.mc.mem, inj := h6.mc.inj, sep := h6.mc.sep, isub := fun b hb => hb.imp (h1.isub b) id, ilt := ?_, i0 := fun t b hb => .inl (h1.i0 t b hb), inew := ?_, live := fun n b q hn hμ => hlive6 b ⟨n, q, hn, hμ⟩, os := r7, tape := r8, output := r9, size := r10, keep := fun b hb hL => r11 b hb fun hB => ?_ }
     ·rintro b (hb | hb)
      ·have := hM.ilt b hb
       omega
      ·exact (r6 b hb).2
     ·rintro t b (hb | hb)
      ·exact h1.inew t b hb
      ·rcases (r6 b hb).1 with k | k | k
       ·rcases k with k | ⟨e, _⟩
        ·exact (h1.inew false b k).imp (fun k => by
          cases t with
          | false => exact k
          | true => exact hm.isub b k) id
        ·cases e
       ·exact .inr (hBlive b k)
       ·exact .inr (.inr k)
     ·rcases hBlive b hB with k | k
      ·exact hL k
      ·have hb : b < w.heap.size := hb
       omega
    ·have hk1 : n ∉ Zbg N ins outs ns rs := fun h => hk (List.mem_append.2 (.inl h))
     have hk2 : n ∉ s.k := fun h => hk (List.mem_append.2 (.inr h))
     have hnr : ¬ (N <= n /\ n < N + (ZeB ins + Zci outs)) := fun h => hk1 (List.mem_append.2 (.inl (List.mem_range'_1.2 h)))
     obtain ⟨t1, t2⟩ := h6.same n (by omega)
     obtain ⟨t3, t4⟩ := h5.same n (by omega)
     obtain ⟨t5, t6⟩ := h1.kept n hn hk2
     refine ⟨t1.trans t3, ?_⟩
     have e1 : shp ((encO outs y.1 (N + ZeB ins)).2 ++ Zip (ZcA ins y.2 s.t) N (ZbG rs (killM (Zbg N ins outs ns rs) s.m))) n = shp (Zip (ZcA ins y.2 s.t) N (ZbG rs (killM (Zbg N ins outs ns rs) s.m))) n := by unfold shp; rw [t2]
     rw [e1, t4, hsh4, ZfY _ hk1]
     exact t6
  ·cases hr
 ·cases hr
end Go.PI

namespace Go.PI
open Go.RowKit
variable {P : Program} {c : Ctx} {g : Cfg} {w : World} {μ : Nm} {I : Bool -> Nat -> Prop}
theorem ZhG (k : Nat) : ∀ (m m' : Mem), look k (m ++ m') ≠ none -> look k m ≠ none \/ look k m' ≠ none
 | [], _, h => .inr h
 | (n, b) :: r, m', h => by
  rw [List.cons_append, Zav] at h
  rw [Zav]
  by_cases e : k = n
  ·rw [if_pos e]; exact .inl (by simp)
  ·rw [if_neg e] at h ⊢
   exact ZhG k r m' h
theorem ZcM : ∀ (p : Pat) (x : p.T) (n k : Nat), look k (p.enc x n).2 ≠ none -> n <= k /\ k < n + p.cnt
 | .nil, _, _, _, h => absurd rfl h
 | .ty _ _, _, _, _, h => absurd rfl h
 | .row e τ, x, n, k, h => by
  simp only [Pat.enc, Zav] at h
  by_cases e : k = n
  ·simp [Pat.cnt]; omega
  ·rw [if_neg e] at h; exact absurd rfl h
 | .obj p, x, n, k, h => by
  simp only [Pat.enc, Zav] at h
  simp only [Pat.cnt]
  by_cases e : k = n
  ·omega
  ·rw [if_neg e] at h
   have := ZcM p x (n + 1) k h
   omega
 | .two p q, x, n, k, h => by
  simp only [Pat.cnt]
  rcases ZhG k _ _ h with h | h
  ·have := ZcM q x.2 (n + p.cnt) k h
   omega
  ·have := ZcM p x.1 n k h
   omega
 | .fn _ _, _, _, _, h => absurd rfl h
 | .rf _, _, _, _, h => absurd rfl h
theorem ZtH (p : Pat) (x : p.T) (n k : Nat) (h : look k (p.encD x n).2 ≠ none) : n <= k /\ k < n + p.cnt := by
 cases p with
 | nil => exact absurd rfl h
 | ty b τ => exact absurd rfl h
 | row e τ => exact ZcM _ _ _ _ h
 | obj p => exact ZcM _ _ _ _ h
 | two p q => exact ZcM _ _ _ _ h
 | fn f p => exact ZcM p x n k h
 | rf τ => exact absurd rfl h
theorem Zdz : ∀ (ins : List (Bool × Pat)) (xs : PArgs ins) (n k : Nat), look k (Zax ins xs n).2 ≠ none -> n <= k /\ k < n + ZaW ins
 | [], _, _, _, h => absurd rfl h
 | p :: r, x, n, k, h => by
  simp only [ZaW]
  rcases ZhG k _ _ h with h | h
  ·have := Zdz r x.2 (n + p.2.cnt) k h
   omega
  ·have := ZtH p.2 x.1 n k h
   omega
def ZdN (ins : List (Bool × Pat)) : List Nat := List.range' nE (ZaW ins)
def kfOf (ins : List (Bool × Pat)) : List Nat := (ZdN ins).filter fun n => !memb n (ZbA ins nE)
def Zig (c : Ctx) (p : Par) (fn : Func) (ins : List (Bool × Pat)) (outs : List Pat) (xs : PArgs ins) : Br (POuts outs × PBack ins) :=
 (inl c p fn (Za9 fn) 0 (Zax ins xs nE).1 (Zax ins xs nE).2).bind fun r => .ofOpt (finO ins outs r)
theorem OC.of_tree [DR] (he : EnvFull P c) {f : Nat} {fn : Func} (hf : P.funcs[f]? = some fn) (hn : (!(fn.name == "runtime.NumGoroutine") && fn.body.isSome) = true) {ins : List (Bool × Pat)} {outs : List Pat} (hbk : ZcB ins = true) {p : Par}
  (hlo : ∀ g, (∀ n, look n g.m0 ≠ none -> n ∈ ZdN ins) -> ZaB P g p (Za9 fn)) {B : PArgs ins -> Br (POuts outs × PBack ins)} (h : ∀ xs, Zig c p fn ins outs xs = B xs) : OC P f ins outs fun xs => (B xs).run :=
 OC.of_run he hf hn hbk (kp := ZdN ins) (fun xs n hn => List.mem_range'_1.2 (Zdz ins xs nE n hn)) fun xs y hy => ⟨p, hlo, by
  have := h xs
  unfold Zig at this
  rw [this]
  exact hy⟩
theorem OC.weaken [DR] {f : Nat} {ins : List (Bool × Pat)} {outs : List Pat} {F G : PArgs ins -> Option (POuts outs × PBack ins)} (h : OC P f ins outs F) (hG : ∀ xs y, G xs = some y -> F xs = some y) : OC P f ins outs G :=
 ⟨h.fn, fun w J hJ hlt xs vs B hx hnd hB y hy => h.ok w J hJ hlt xs vs B hx hnd hB y (hG xs y hy)⟩
theorem OC.congr [DR] {f : Nat} {ins : List (Bool × Pat)} {outs : List Pat} {F G : PArgs ins -> Option (POuts outs × PBack ins)} (h : OC P f ins outs F) (hG : ∀ xs, G xs = F xs) : OC P f ins outs G :=
 h.weaken fun xs y hy => (hG xs).symm.trans hy
theorem OC.zero [DR] {f : Nat} {fn : Func} (hf : P.funcs[f]? = some fn) (hn : (!(fn.name == "runtime.NumGoroutine") && fn.body.isSome) = true) {ins : List (Bool × Pat)} {outs : List Pat} : OC P f ins outs fun _ => none := by
 simp only [Bool.and_eq_true, Bool.not_eq_true'] at hn
 exact ⟨⟨fn, hf, hn.1, by rw [Zdw hn.2]; rfl⟩, fun w J hJ hlt xs vs B hx hnd hB y hy => by cases hy⟩
theorem OC.deep [DR] {f : Nat} {ins : List (Bool × Pat)} {outs : List Pat} {F : Nat -> PArgs ins -> Option (POuts outs × PBack ins)} (h : ∀ k, OC P f ins outs (F k)) (d : PArgs ins -> Nat) : OC P f ins outs fun xs => F (d xs) xs :=
 ⟨(h 0).fn, fun w J hJ hlt xs vs B hx hnd hB y hy => (h (d xs)).ok w J hJ hlt xs vs B hx hnd hB y hy⟩
def ZdZ : List Ty -> List (Bool × Pat)
 | [] => []
 | τ :: r => (false, .ty true τ) :: ZdZ r
def Ze4 : List Ty -> List (Bool × Ty)
 | [] => []
 | τ :: r => (false, τ) :: Ze4 r
@[reducible] def toP : (l : List Ty) -> Args (Ze4 l) -> PArgs (ZdZ l)
 | [], _ => ()
 | _ :: r, x => (x.1, toP r x.2)
theorem Zrw {W : World} : ∀ (l : List Ty) {xs : Args (Ze4 l)} {vs : List Value}, Zh2 (fun _ b => b < W.heap.size) W (Ze4 l) xs vs -> PAK (fun _ b => b < W.heap.size) W (ZdZ l) (toP l xs) vs []
 | [], _, _, ha => ⟨ha, rfl⟩
 | _ :: r, _, _, ⟨v, k, e, h1, h2⟩ => ⟨v, k, [], [], e, rfl, ⟨rfl, h1⟩, Zrw r h2⟩
theorem OC.row [DR] {f : Nat} {l : List Ty} {F : PArgs (ZdZ l) -> Option (POuts [Pat.ty false .bool] × PBack (ZdZ l))} (h : OC P f (ZdZ l) [Pat.ty false .bool] F) {z : PBack (ZdZ l)} (hF : ∀ xs, F (toP l xs) = some (true, z)) {W : World} {xs : Args (Ze4 l)} {vs : List Value} (ha : Zh2 (fun _ b => b < W.heap.size) W (Ze4 l) xs vs) :
  Calls P f vs.toArray W fun e W' => e = .returned (.bool true) /\ Below W.heap.size W W' := by
 have hp := Zrw l ha
 refine (h.ok W (fun _ b => b < W.heap.size) (fun _ h => h) (fun _ h => h) _ vs [] hp List.nodup_nil (fun b hb => by simp at hb) _ (hF xs)).mono ?_
 rintro e W' ⟨v, J', B1, B2, rfl, r1, _, _, _, _, _, r7, r8, r9, r10, r11⟩
 obtain ⟨_, hv⟩ : PV (fun _ => J') W' (.ty false .bool) true v B1 := r1
 have hv := hv.2 rfl
 have hv : v = .bool true := by simpa [K] using hv
 subst hv
 exact ⟨rfl, r7, r8.1, r9, r10, fun b hb => r11 b hb (by simp)⟩
end Go.PI
namespace Go.PI
variable {P : Program} {g : Cfg} {p : Par}
def Zio [DR] (P : Program) (g : Cfg) (p : Par) (l : List Code) : Prop := ∀ a ∈ l, ∀ o, ZdP p a = some o -> ZaL P g o a
theorem Zio.nil [DR] : Zio P g p [] := fun a h => by simp at h
theorem Zio.cons [DR] {a : Code} {l : List Code} {o : St -> Br (Exit × St)} (h : ZaL P g o a) (e : ZdP p a = some o) (t : Zio P g p l) : Zio P g p (a :: l) := by
 intro b hb o' ho
 rcases List.mem_cons.1 hb with rfl | hb
 ·exact h.of e ho
 ·exact t b hb o' ho
theorem ZaB.of [DR] {code : Code} {l : List Code} (hb : Zbm code = l) (h : Zio P g p l) : ZaB P g p code := fun a ha o ho => h a (hb ▸ ha) o ho
end Go.PI
namespace Go.PI
variable {P : Program}
theorem OC.of_t1 [DR] {f : Nat} {k : Bool} {τ σ : Ty} {pre : Args [(k, τ)] -> Bool} {F : Args [(k, τ)] -> Res [σ]} (h : TSpec P f [(k, τ)] [σ] pre F) {G : PArgs [(false, .ty (!k) τ)] -> Option (POuts [.ty false σ] × PBack [(false, .ty (!k) τ)])}
  (hG : ∀ xs y, G xs = some y -> pre xs = true /\ y = (F xs, ())) : OC P f [(false, .ty (!k) τ)] [.ty false σ] G := by
 refine ⟨h.fn, fun w J hJ hlt xs vs B hx hnd hB y hy => ?_⟩
 obtain ⟨h1, rfl⟩ := hG xs y hy
 obtain ⟨v, l, B1, B2, rfl, rfl, ⟨rfl, h2⟩, rfl, rfl⟩ := hx
 refine (h.ok w J hJ hlt xs [v] ⟨v, [], rfl, h2, rfl⟩ h1).mono ?_
 rintro e w' ⟨u, rfl, r1, r2, r3, r4, r5, r6⟩
 refine ⟨u, fun b => J false b \/ (w.heap.size <= b /\ b < w'.heap.size), [], [], rfl, ⟨rfl, r1⟩, rfl, List.nodup_nil, fun b hb => by simp at hb, fun b hb => .inl hb, fun b hb => ?_, r2, r3, r4, r5, fun b hb _ => r6 b hb⟩
 rcases hb with hb | hb
 ·have := hlt b (hJ b hb)
  exact ⟨.inl hb, by omega⟩
 ·exact ⟨.inr (.inr hb.1), hb.2⟩
end Go.PI
namespace Go.PI
variable {P : Program}
theorem OC.clone [DR] {f : Nat} {k : Bool} {τ : Ty} {z : Nat} (h : TSpec P f [(k, .sl τ)] [.sl τ] (fun xs => bound (0 + List.length xs.1) z) (fun xs => xs.1)) : OC P f [(false, .ty (!k) (.sl τ))] [.ty false (.sl τ)] fun x => bif bound (0 + List.length x.1) z then some (x.1, ()) else none :=
 OC.of_t1 h fun xs y hy => by
  cases hb : bound (0 + List.length xs.1) z with
  | false => rw [hb] at hy; cases hy
  | true =>
   rw [hb] at hy
   exact ⟨rfl, (Option.some.inj hy).symm⟩
end Go.PI

namespace Go.PI
variable {α : Type}
def OLe (o o' : Option α) : Prop := ∀ v, o = some v -> o' = some v
def BLe (a b : Br α) : Prop := OLe a.run b.run
theorem BLe.cond {c : Bool} {a b a' b' : Br α} (h : BLe a a') (k : BLe b b') : BLe (.cond c a b) (.cond c a' b') := by
 cases c
 ·exact k
 ·exact h
theorem BLe.opt {β : Type} {o o' : Option β} {k k' : β -> Br α} (h : OLe o o') (hk : ∀ v, BLe (k v) (k' v)) : BLe (.opt o k) (.opt o' k') := by
 intro y hy
 cases e : o with
 | none => rw [e] at hy; simp [Br.run] at hy
 | some v =>
  rw [e] at hy
  rw [h v e]
  exact hk v y hy
theorem BLe.sum {β γ : Type} {z : β ⊕ γ} {k k' : β -> Br α} {l l' : γ -> Br α} (hk : ∀ v, BLe (k v) (k' v)) (hl : ∀ v, BLe (l v) (l' v)) : BLe (.sum z k l) (.sum z k' l') := by
 cases z with
 | inl v => exact hk v
 | inr v => exact hl v
end Go.PI

namespace Go.PI
open Go.RowKit
variable {P : Program}
abbrev node (τ : Ty) : Pat := .obj (.two (.ty false τ) (.two (.ty false (.chain τ)) (.ty false (.int .i64))))
theorem ZnP {w : World} {b : Nat} {cur : Array Value} {e : Nat} (h : w.heap[b]? = some (.cells cur e (0, 0))) : Za2 w ⟨b, 0, none⟩ cur.toList := by
 refine ⟨rfl, fun j u hj => ?_⟩
 show w.cell? ⟨b, 0 + j, none⟩ = some u
 unfold World.cell?
 rw [h, Nat.zero_add]
 simpa using hj
theorem OC.chain [DR] {f : Nat} {ins : List (Bool × Pat)} {τ : Ty} {F : PArgs ins -> Option (POuts [node τ] × PBack ins)} (h : OC P f ins [node τ] F) {G : PArgs ins -> Option (POuts [Pat.ty false (.chain τ)] × PBack ins)}
  (hG : ∀ xs y, G xs = some y -> ∃ x l, F xs = some ((x, l, ((l.length + 1 : Nat) : Int)), y.2) /\ y.1 = x :: l /\ l.length < 9223372036854775807) : OC P f ins [.ty false (.chain τ)] G := by
 refine ⟨h.fn, fun w J hJ hlt xs vs B hx hnd hB y hy => ?_⟩
 obtain ⟨x, l, hF, hy1, hl⟩ := hG xs y hy
 refine (h.ok w J hJ hlt xs vs B hx hnd hB _ hF).mono ?_
 rintro e w' ⟨v, J', B1, B2, rfl, r1, r2, r3, r4, r5, r6, r7, r8, r9, r10, r11⟩
 obtain ⟨b, cur, ee, B', hv, hB1, hh, _, c1, c2, Bx, By, e1, e2, ⟨eb, k1⟩, c3, c4, Bz, Bw, e3, e4, ⟨eb2, k2⟩, eb3, k3⟩ : PV (fun _ => J') w' (node τ) (x, l, ((l.length + 1 : Nat) : Int)) v B1 := r1
 subst eb eb2 eb3 e4 e2 hB1
 obtain rfl : v = .pointer (some ⟨b, 0, none⟩) := by simpa using hv
 have hmono : ∀ c, J' c -> (J' c \/ c = b) := fun c hc => .inl hc
 have st : Za3 J' w' w' := fun _ _ => rfl
 have hbw : b < w'.heap.size := (Array.getElem?_eq_some_iff.1 hh).1
 obtain ⟨k3a, _⟩ := k3
 obtain ⟨v0, e5, kc⟩ : K (fun c => J' c \/ c = b) w' (.chain τ) l c3 := K.mono hmono st k2
 subst k3a e5
 have e6 : cur.toList = c1 ++ [v0, .int .i64 ((l.length + 1 : Nat) : Int)] := by rw [e1, e3]; rfl
 have hch : ZdV (fun c => J' c \/ c = b) w' (K (fun c => J' c \/ c = b) w' τ) τ.sz (x :: l) (.pointer (some ⟨b, 0, none⟩)) :=
  ⟨⟨b, 0, none⟩, c1, v0, rfl, .inr rfl, k1.length, K.mono hmono st k1, e6 ▸ ZnP hh, hl, kc⟩
 have hb0 := r4 b (by simp)
 refine ⟨_, fun c => J' c \/ c = b, [], B2, rfl, ⟨rfl, ?_⟩, PBK.mono (fun _ c hc => .inl hc) r2, ?_, ?_, fun c hc => .inl (r5 c hc), ?_, r7, r8, r9, r10, r11⟩
 ·show VK _ w' (.chain τ) y.1 _
  rw [hy1]
  exact ⟨fun e => (by cases e), fun _ => ⟨_, rfl, hch⟩⟩
 ·rw [List.nil_append]
  exact (List.nodup_append.1 r3).2.1
 ·intro c hc
  rw [List.nil_append] at hc
  have h1 := r4 c (List.mem_append_right _ hc)
  refine ⟨h1.1, ?_⟩
  rintro (h2 | rfl)
  ·exact h1.2 h2
  ·exact (List.nodup_append.1 r3).2.2 c (by simp) c hc rfl
 ·rintro c (hc | rfl)
  ·exact r6 c hc
  ·refine ⟨?_, hbw⟩
   rcases hb0.1 with h1 | h1
   ·exact .inr (.inl h1)
   ·exact .inr (.inr h1)
end Go.PI

namespace Go.PI
open Go.RowKit
variable {P : Program} {c : Ctx} {g : Cfg} {w : World} {μ : Nm} {I : Bool -> Nat -> Prop}
theorem OC.of_tri [DR] (he : EnvFull P c) {f : Nat} {fn : Func} {code : Code} (hf : P.funcs[f]? = some fn) (hn : (fn.name == "runtime.NumGoroutine") = false) (hb : fn.body = some code) {ins : List (Bool × Pat)} {outs : List Pat} (hbk : ZcB ins = true) {F : PArgs ins -> Option (POuts outs × PBack ins)} {kp : List Nat}
  (hkp : ∀ xs n, look n (Zax ins xs nE).2 ≠ none -> n ∈ kp)
  (h : ∀ xs y, F xs = some y -> ∃ Q : Exit -> St -> Prop, (∀ g, (∀ n, look n g.m0 ≠ none -> n ∈ kp) -> Tri P g code ⟨(Zax ins xs nE).1 ++ List.replicate (fn.ntmps - (Zax ins xs nE).1.length) (.c .bad), (Zax ins xs nE).2, []⟩ Q) /\
   ∀ e st, Q e st -> (e = .normal \/ e = .ret) /\ ∃ d m ks, (ZbI { c with base := (0 + 1) * 1024 } fn st).run = some (d, m, ks) /\ finO ins outs (d, m, ks) = some y) : OC P f ins outs F := by
 refine ⟨⟨fn, hf, hn, by rw [hb]; rfl⟩, fun w J hJ hlt xs vs B hx hnd hBJ y hy => ?_⟩
 obtain ⟨Q, htri, hQ⟩ := h xs y hy
 let μ0 : Nm := fun _ => none
 have hmc0 : MC ([] : Mem) w μ0 J := ⟨fun n mb h => by simp [look] at h, fun n n' b q q' h => (by cases h), fun n b q h => absurd rfl h⟩
 obtain ⟨μ1, hA, hR⟩ := Zh3 nE hmc0 hx (fun _ _ _ => rfl) hnd (fun b _ ⟨n, q, h, _⟩ => h rfl) hBJ
 rw [List.append_nil] at hA hR
 have hme : MRel (ZaZ w J (Zax ins xs nE).2 μ1) (Zax ins xs nE).2 w μ1 J := { mem := hA.mc.mem, inj := hA.mc.inj, sep := hA.mc.sep, isub := hJ, ilt := hlt, i0 := fun t b h => h, inew := fun t b h => .inl h, live := fun n b q h e => .inl ⟨n, q, h, e⟩, os := rfl, tape := TP.refl _, output := rfl, size := Nat.le_refl _, keep := fun _ _ _ => rfl }
 have hL0 : ∀ b, Zai (Zax ins xs nE).2 μ1 b -> b ∈ B := fun b hb => (hA.live b hb).elim (fun ⟨n, q, h, _⟩ => absurd rfl h) id
 refine (Zko (nm := 0) (Q := Q) (R := fun d m ks => finO ins outs (d, m, ks) = some y) he hf hb hme hR (htri _ fun n hn => hkp xs n hn) hQ).mono ?_
 rintro e w' ⟨d, m', ks, hfin, v, μ', I', rfl, h1, h2, h3, h4⟩
 unfold finO at hfin
 split at hfin
 ·rename_i n1 n2 e1 e2
  split at hfin
  ·rename_i yo k1 yb k2 d1 d2
   cases hc : Zbo (k1 ++ k2) (n1 ++ n2) && ZdS (k1 ++ k2) && (ZbA ins nE).all (fun n => !memb n ks) with
   | false => rw [hc] at hfin; cases hfin
   | true =>
    rw [hc] at hfin
    obtain rfl := Option.some.inj hfin
    simp only [Bool.and_eq_true] at hc
    obtain ⟨⟨hsub, hndk⟩, hroots⟩ := hc
    let JJ : Bool -> Nat -> Prop := fun t b => I' t b \/ Zai (killM (n1 ++ n2) m') μ' b
    have hlive : ∀ {ns : List Nat} {b : Nat}, Zai (killM ns m') μ' b -> Zai m' μ' b := fun h => by
     obtain ⟨n, q, _, h5, h6⟩ := Zai.killM h
     exact ⟨n, q, h5, h6⟩
    obtain ⟨B1, a1, a2, a3⟩ := Zrv h1 (J := JJ) (fun t b hb => .inl hb) (fun b hb => hb.imp (h1.isub b) id) (fun b hb => .inr hb) (fun b hb => .inr hb) d1 h4
    have hargs : RDs μ' I' w' (shp m') (((Zax ins xs nE).1).map fun d => match d with | .c (.ref n 0 0) => bif memb n (ZbA ins nE) then .c (.ref n 0 0) else .c .bad | _ => .c .bad) vs := by
     refine ⟨by simpa using hR.1, fun j d v hd hv => ?_⟩
     rw [List.getElem?_map] at hd
     obtain ⟨d0, hd0, rfl⟩ := Option.map_eq_some_iff.1 hd
     have hd1 := hR.2 j d0 v hd0 hv
     split
     ·rename_i n
      cases hm : memb n (ZbA ins nE) with
      | false => exact trivial
      | true =>
       obtain ⟨b, q, len, z, r1, r2, r3, r4⟩ := hd1
       have hnk : n ∉ ks := fun hk => by
        have := List.all_eq_true.1 hroots n (Zah.1 hm)
        rw [Zah.2 hk] at this
        cases this
       have hln : look n (Zax ins xs nE).2 ≠ none := fun e => by simp [shp, e] at r2
       obtain ⟨s1, s2⟩ := h3 n hln hnk
       exact ⟨b, q, len, z, s1.trans r1, s2.trans r2, r3, r4⟩
     ·exact trivial
    obtain ⟨B2, a4, a5, a6⟩ := ZgE h1 (J := JJ) (fun t b hb => .inl hb) (fun b hb => hb.imp (h1.isub b) id) (fun b hb => .inr hb) (fun b hb => .inr hb) d2 hargs (by simp [Zgf]) (fun j q hq ht => by
     rw [List.getElem?_map, ZhI ins xs nE hbk j q hq ht]
     have hmem : nE + ZaW (ins.take j) ∈ ZbA ins nE := by
      have key : ∀ (ins : List (Bool × Pat)) (n j : Nat) (q : Bool × Pat), ins[j]? = some q -> q.1 = true -> n + ZaW (ins.take j) ∈ ZbA ins n := by
       intro ins
       induction ins with
       | nil => intro n j q hq; simp at hq
       | cons a r ih =>
        intro n j q hq ht
        obtain ⟨f, pp⟩ := a
        cases j with
        | zero =>
         simp only [List.getElem?_cons_zero, Option.some.injEq] at hq
         subst hq
         have ht : f = true := ht
         subst ht
         simp [ZbA, ZaW]
        | succ j =>
         have := ih (n + pp.cnt) j q (by simpa using hq) ht
         have e : n + ZaW ((( f, pp) :: r).take (j + 1)) = n + pp.cnt + ZaW (r.take j) := by simp [ZaW, Nat.add_assoc]
         rw [e]
         cases f with
         | true => exact List.mem_cons_of_mem _ this
         | false => exact this
      exact key ins nE j q hq ht
     simp [Zah.2 hmem])
    have hkk : (k1 ++ k2).Nodup := ZfW hndk
    have hat : Zcd m' (k1 ++ k2) := fun n hn => (List.mem_append.1 hn).elim (a3 n) (a6 n)
    have hsubl : (B1 ++ B2).Sublist (blocks μ' (k1 ++ k2)) := by
     unfold blocks
     rw [List.filterMap_append]
     exact a2.append a5
    have hmem : ∀ b ∈ B1 ++ B2, ∃ n q, n ∈ k1 ++ k2 /\ look n m' ≠ none /\ μ' n = some (b, q) := fun b hb => by
     obtain ⟨n, q, hn, hμ⟩ := ZeP.1 (hsubl.subset hb)
     exact ⟨n, q, hn, hat n hn, hμ⟩
    refine ⟨v, JJ false, B1, B2, rfl, a1, a4, hsubl.nodup (ZdG h1.mc hkk hat), fun b hb => ?_, fun b hb => .inl (h2 false b hb), fun b hb => ?_, h1.os, h1.tape, h1.output, h1.size, fun b hb hbB => h1.keep b hb fun hl => hbB (hL0 b hl)⟩
    ·obtain ⟨n, q, hn, hl, hμ⟩ := hmem b hb
     refine ⟨?_, ?_⟩
     ·rcases h1.live n b q hl hμ with k | k
      ·exact .inl (hL0 b k)
      ·exact .inr k
     ·rintro (k | k)
      ·exact h1.sep n b q hl hμ (h1.isub b k)
      ·obtain ⟨n', q', hn', hl', hμ'⟩ := Zai.killM k
       obtain rfl := h1.inj n n' b q q' hμ hμ' hl hl'
       exact hn' (Zcu.1 hsub n hn)
    ·rcases hb with hb | hb
     ·refine ⟨?_, h1.ilt b (h1.isub b hb)⟩
      rcases h1.inew false b hb with k | k | k
      ·exact .inl k
      ·exact .inr (.inl (hL0 b k))
      ·exact .inr (.inr k)
     ·obtain ⟨n', q', hl', hμ'⟩ := hlive hb
      refine ⟨?_, h1.live_lt hl' hμ'⟩
      rcases h1.live n' b q' hl' hμ' with k | k
      ·exact .inr (.inl (hL0 b k))
      ·exact .inr (.inr k)
  ·cases hfin
 ·cases hfin
theorem Zta [DR] (he : EnvFull P c) {f : Nat} {fn : Func} {t e by_ b2 : Nat} {τ : Ty} (hf : P.funcs[f]? = some fn) (hn : (fn.name == "runtime.NumGoroutine") = false) (hb : fn.body = some (Zdl t)) (hres : fn.results.toList = [.tmp 2]) (hnt : fn.ntmps = 8)
  (ht : c.tb t = some ⟨.sl τ, by_, .sl e⟩) (b : Bool) (hb0 : (b && τ.hasP) = false) (h3 : Clone3 c t e τ b2 b) : OC P f [(false, .ty b (.sl τ))] [.row e τ] (fun x => bif bound (0 + List.length x.1) b2 then some (x.1, ()) else none) := by
 refine OC.of_tri he hf hn hb (ins := [(false, .ty b (.sl τ))]) rfl (kp := []) (fun xs n h => absurd (by simp [Zax, Pat.encD, look]) h) ?_
 rintro ⟨l, ⟨⟩⟩ y hy
 have hl : bound (0 + l.length) b2 = true := by
  cases hb : bound (0 + l.length) b2 with
  | true => rfl
  | false => simp only [hb, cond_false] at hy; cases hy
 simp only [hl, cond_true, Option.some.injEq] at hy
 subst hy
 obtain ⟨d5, k, h3⟩ := h3 l
 rw [hl, cond_true] at h3
 let L : D := .c (.ty b (.sl τ) l)
 let sN : St := clS (.c .nils) L (.c .tt) (.c .bad) (.c .bad) (.c .bad) L [] []
 let sF : St := clS (.c .nils) L (.c .ff) (.c .bad) (.c .bad) (.c .bad) L [] []
 let sY : St := clS (.c (.mfull 1031)) L (.c .ff) d5 L (.c (.mfull 1031)) L [(1031, .ar b e τ l)] k
 refine ⟨fun e' st => e' = .ret /\ ((l = [] /\ st = sN) \/ st = sY), ?_, ?_⟩
 ·intro g hg
  let c' : Ctx := { c with base := (0 + 1) * 1024 }
  have he' : EnvFull P c' := { tb := he.tb, eqs := he.eqs, orc := he.orc, mixed := he.mixed }
  let p0 : Par := { sh := fun _ => none, k := 0 }
  have lo : ∀ code : Code, ZaB P g p0 code := fun code => ZaB.none fun _ => rfl
  rw [hnt]
  show Tri P g (Zdl t) ⟨[.c (.ty b (.sl τ) l), .c .bad, .c .bad, .c .bad, .c .bad, .c .bad, .c .bad, .c .bad], [], []⟩ _
  unfold Zdl
  refine Tri.seq (M := fun st => st = clS (.c .nils) (.c .bad) (.c .bad) (.c .bad) (.c .bad) (.c .bad) L [] []) (Tri.run he' p0 (lo _) (y := .normal) (st := clS (.c .nils) (.c .bad) (.c .bad) (.c .bad) (.c .bad) (.c .bad) L [] []) rfl rfl) ?_
  rintro st rfl
  refine Tri.seq (M := fun st => st = sF) ?_ ?_
  ·refine Tri.seq (M := fun st => (l = [] /\ st = sN) \/ st = sF) ?_ ?_
   ·intro a w hok
    refine wp_region ?_
    show wpOps P (cl1 t) _ [0, 1] a w
    unfold wpOps
    show if Region.wanted (⟨some 3, .move (.tmp 0), t, "slices.go:357", #[], none⟩ : Oper) (yielded (cl1 t) a.tmps) = true then _ else _
    rw [if_pos (show Region.wanted _ _ = true from rfl)]
    refine .inl (Zc0 he' _ g _ (clS (.c .nils) L (.c .bad) (.c .bad) (.c .bad) (.c .bad) L [] []) a w _ _ hok rfl fun a w hok => ?_)
    unfold wpOps
    show if Region.wanted (⟨some 4, .binOp .eql t (.tmp 3) (.const (.slice none 0 0)) t, 4, "slices.go:357", #[⟨0, .data⟩], none⟩ : Oper) (yielded (cl1 t) a.tmps) = true then _ else _
    rw [if_pos (show Region.wanted _ _ = true from rfl)]
    refine .inl ?_
    obtain ⟨μ, I, h⟩ := hok
    refine nil_wp he' h (x := .tmp 3) (xs := l) (b := b) rfl ht rfl (fun hl0 a w hok => ?_) (fun a w hok => ?_) _
    ·exact ⟨sN, .inl ⟨hl0, rfl⟩, hok⟩
    ·exact ⟨sF, .inr rfl, hok⟩
   ·rintro st (⟨hl0, rfl⟩ | rfl)
    ·refine Tri.run he' p0 (lo _) (y := .ret) (st := sN) rfl ?_
     exact ⟨rfl, .inl ⟨hl0, rfl⟩⟩
    ·exact Tri.run he' p0 (lo _) (y := .normal) (st := sF) rfl rfl
  ·rintro st rfl
   refine Tri.seq (M := fun st => st = sY) ?_ ?_
   ·refine (Tri.region he' (ops := cl3 t) (draw := false) (st := sY) (by exact h3)).mono ?_
    rintro y st ⟨rfl, rfl⟩
    rfl
   ·rintro st rfl
    exact Tri.ret ⟨rfl, .inr rfl⟩
 ·rintro e' st ⟨rfl, h⟩
  refine ⟨.inr rfl, ?_⟩
  unfold ZbI settle Zd2
  rw [hres]
  rcases h with ⟨hl0, rfl⟩ | rfl
  ·refine ⟨.c .nils, [], [], rfl, ?_⟩
   subst hl0
   rfl
  ·refine ⟨.c (.mfull 1031), [(1031, .ar b e τ l)], k, rfl, ?_⟩
   have hb1 : (!b || !τ.hasP) = true := by cases b <;> simp_all
   simp [finO, nmsO, nmsBk, Pat.nmsD, Pat.nms, decO, Pat.decD, Pat.dec, look, killM, Zf0, hb1, Zbo, ZdS, memb, ZbA]
end Go.PI

namespace Go.PI
open Go.RowKit
variable {P : Program} {c : Ctx} {w : World} {μ : Nm} {I : Bool -> Nat -> Prop}
structure OCR [DR] (P : Program) (f e : Nat) (τ : Ty) (R : List (Bool × Pat)) (F : List τ.T -> PArgs R -> Option (List τ.T)) : Prop where
 fn : ∃ fn, P.funcs[f]? = some fn /\ (fn.name == "runtime.NumGoroutine") = false /\ fn.body.isNone = false
 ok : ∀ (w : World) (J : Bool -> Nat -> Prop), (∀ b, J false b -> J true b) -> (∀ b, J true b -> b < w.heap.size) -> ∀ (xs : List τ.T) (xr : PArgs R) (v : Value) (vr : List Value) (B : List Nat), PK J w (.row e τ) xs [v] B -> PAK J w R xr vr [] -> (∀ b ∈ B, ¬ J true b) -> ∀ ys, F xs xr = some ys ->
  Calls P f (v :: vr).toArray w fun en w' => ∃ u J', en = .returned u /\ (∀ μ I sh, RD μ I w' sh (.tup []) u) /\ PK (fun _ => J') w' (.row e τ) ys [v] B /\ (∀ b, J false b -> J' b) /\ (∀ b, J' b -> (J false b \/ w.heap.size <= b) /\ b < w'.heap.size) /\
   w'.os = w.os /\ TP w w' /\ w'.output = w.output /\ w.heap.size <= w'.heap.size /\ ∀ b, b < w.heap.size -> b ∉ B -> w'.heap[b]? = w.heap[b]?
abbrev ZcT (e : Nat) (τ : Ty) (R : List (Bool × Pat)) : List (Bool × Pat) := (false, .row e τ) :: R
def finR (e : Nat) (τ : Ty) (r : D × Mem × List Nat) : Option (List τ.T) := match r.1 with
 | .tup [] => match look nE r.2.1 with
  | some (.ar false e' σ ys) => if h : σ = τ then (bif Nat.beq e' e && !memb nE r.2.2 then some (cast (congrArg (fun s => List (Ty.T s)) h) ys) else none) else none
  | _ => none
 | _ => none
def Zlu (c : Ctx) (p : Par) (fn : Func) (e : Nat) (τ : Ty) (R : List (Bool × Pat)) (xs : List τ.T) (xr : PArgs R) : Br (List τ.T) :=
 (inl c p fn (Za9 fn) 0 (Zax (ZcT e τ R) (xs, xr) nE).1 (Zax (ZcT e τ R) (xs, xr) nE).2).bind fun r => .ofOpt (finR e τ r)
theorem OCR.of_tree [DR] (he : EnvFull P c) {f : Nat} {fn : Func} (hf : P.funcs[f]? = some fn) (hn : (!(fn.name == "runtime.NumGoroutine") && fn.body.isSome) = true) {e : Nat} {τ : Ty} {R : List (Bool × Pat)} {p : Par}
  (hlo : ∀ g', (∀ n, look n g'.m0 ≠ none -> n ∈ ZdN (ZcT e τ R)) -> ZaB P g' p (Za9 fn)) {B : List τ.T -> PArgs R -> Br (List τ.T)} (h : ∀ xs xr, Zlu c p fn e τ R xs xr = B xs xr) : OCR P f e τ R fun xs xr => (B xs xr).run := by
 simp only [Bool.and_eq_true, Bool.not_eq_true'] at hn
 have hb := Zdw hn.2
 refine ⟨⟨fn, hf, hn.1, by rw [hb]; rfl⟩, fun w J hJ hlt xs xr v vr B' hx hxr hBJ ys hy => ?_⟩
 have hrun : (Zlu c p fn e τ R xs xr).run = some ys := by rw [h]; exact hy
 unfold Zlu at hrun
 obtain ⟨⟨d, m', ks⟩, hr, hfin⟩ := Br.bind_some hrun
 have hfin := Zb4 hfin
 let μ0 : Nm := fun _ => none
 have hmc0 : MC ([] : Mem) w μ0 J := ⟨fun n mb h => by simp [look] at h, fun n n' b q q' h => (by cases h), fun n b q h => absurd rfl h⟩
 have hPA : PAK J w (ZcT e τ R) (xs, xr) (v :: vr) B' := ⟨v, vr, B', [], rfl, by simp, hx, hxr⟩
 have hnd : B'.Nodup := by
  obtain ⟨A, cap, _, _, _, ⟨_, _, rfl⟩ | ⟨b, cur, _, rfl, _⟩⟩ := hx
  ·exact List.nodup_nil
  ·simp
 obtain ⟨μ1, hA, hR⟩ := Zh3 nE hmc0 hPA (fun _ _ _ => rfl) hnd (fun b _ ⟨n, q, h, _⟩ => h rfl) hBJ
 rw [List.append_nil] at hA hR
 have hme : MRel (ZaZ w J (Zax (ZcT e τ R) (xs, xr) nE).2 μ1) (Zax (ZcT e τ R) (xs, xr) nE).2 w μ1 J := { mem := hA.mc.mem, inj := hA.mc.inj, sep := hA.mc.sep, isub := hJ, ilt := hlt, i0 := fun t b h => h, inew := fun t b h => .inl h, live := fun n b q h e => .inl ⟨n, q, h, e⟩, os := rfl, tape := TP.refl _, output := rfl, size := Nat.le_refl _, keep := fun _ _ _ => rfl }
 have hL0 : ∀ b, Zai (Zax (ZcT e τ R) (xs, xr) nE).2 μ1 b -> b ∈ B' := fun b hb => (hA.live b hb).elim (fun ⟨n, q, h, _⟩ => absurd rfl h) id
 refine (Zdr he hf hb hme hR (hlo _ fun n hn => List.mem_range'_1.2 (Zdz _ _ nE n hn)) hr).mono ?_
 rintro en w' ⟨u, μ', I', rfl, h1, h2, h3, h4⟩
 unfold finR at hfin
 split at hfin
 ·rename_i e1
  split at hfin
  ·rename_i e' σ zs e2
   split at hfin
   ·rename_i hσ
    subst hσ
    cases hc : Nat.beq e' e && !memb nE ks with
    | false => rw [hc] at hfin; cases hfin
    | true =>
     rw [hc] at hfin
     obtain rfl : zs = ys := Option.some.inj hfin
     simp only [Bool.and_eq_true, Bool.not_eq_true'] at hc
     obtain ⟨hc1, hc2⟩ := hc
     obtain rfl := Nat.eq_of_beq_eq_true hc1
     have hks : nE ∉ ks := fun hk => by rw [Zah.2 hk] at hc2; cases hc2
     have hl1 : look nE (Zax (ZcT e' σ R) (xs, xr) nE).2 = some (.ar false e' σ xs) := by
      show look nE ((Zax R xr (nE + 1)).2 ++ [(nE, .ar false e' σ xs)]) = _
      rw [ZbH]
      cases hq : look nE (Zax R xr (nE + 1)).2 with
      | none => simp [look]
      | some mb =>
       have := Zdz R xr (nE + 1) nE (by rw [hq]; simp)
       omega
     obtain ⟨k1, k2⟩ := h3 nE (by rw [hl1]; simp) hks
     have hshl : zs.length = xs.length := by
      rw [Zal e2, Zal hl1] at k2
      simpa [MB.shape] using k2
     have hv0 := hR.2 0 (.c (.mfull nE)) v rfl rfl
     obtain ⟨len, z, A1, cap1, s1, s2, s3, s4, s5⟩ := hv0
     refine ⟨u, I' false, rfl, fun μ2 I2 sh2 => ?_, ?_, fun b hb => h2 false b hb, fun b hb => ⟨?_, h1.ilt b (h1.isub b hb)⟩, h1.os, h1.tape, h1.output, h1.size, fun b hb hbB => h1.keep b hb fun hl => hbB (hL0 b hl)⟩
     ·have h4' : RD μ' I' w' (shp m') (.tup []) u := by
       have : d = .tup [] := e1
       rw [<- this]; exact h4
      obtain ⟨vs, rfl, hl⟩ := h4'
      have : vs = [] := by
       have := hl.1
       simpa using this.symm
      subst this
      exact ⟨[], rfl, rfl, fun j c v h => by simp at h⟩
     ·obtain ⟨A, cap, t1, t2, t3, ⟨t4, t5, t6⟩ | ⟨b, cur, t4, t5, t6, t7, t8⟩⟩ := hx
      ·subst t4 t5 t6
       refine ⟨none, 0, by rw [t1, hshl], by rw [hshl]; exact t2, t3, .inl ⟨rfl, rfl, rfl⟩⟩
      ·subst t4 t5
       have hvv : v = .slice (some ⟨b, 0, none⟩) xs.length cap := by simpa using t1
       rw [s2] at hvv
       injection hvv with i1 i2 i3
       subst i1 i3
       rcases s5 with ⟨s5, _⟩ | ⟨b2, q, len2, z2, r1, r2, r3, r4⟩
       ·cases s5
       ·obtain rfl : b = b2 := by injection r3 with r3; injection r3
        rcases h1.mem nE _ e2 with ⟨b3, q3, u1, cur', e4, u2, u3, u4, cap2, u5, u6, u7, u8⟩ | ⟨u1, _⟩
        ·rw [k1, r1] at u1
         obtain ⟨rfl, rfl⟩ := Prod.mk.inj (Option.some.inj u1)
         subst u4
         have hz : z2 = σ.sz := by
          rw [Zal hl1] at r2
          exact (Prod.mk.inj (Option.some.inj r2)).2.symm
         refine ⟨some ⟨b, 0, none⟩, cap1, by rw [t1, hshl], by rw [hshl]; exact t2, t3, .inr ⟨b, cur', rfl, rfl, u2, by rw [u3, r4, hz], u8⟩⟩
        ·rw [k1, r1] at u1; cases u1
     ·rcases h1.inew false b hb with k | k | k
      ·exact .inl k
      ·exfalso
       obtain ⟨A, cap, t1, t2, t3, ⟨t4, t5, t6⟩ | ⟨b4, cur, t4, t5, t6, t7, t8⟩⟩ := hx
       ·have := hL0 b k
        rw [t6] at this
        simp at this
       ·have hbb := hL0 b k
        rw [t5] at hbb
        obtain rfl := List.mem_singleton.1 hbb
        have hvv : v = .slice A xs.length cap := by simpa using t1
        rw [s2, t4] at hvv
        injection hvv with i1 i2 i3
        rcases s5 with ⟨s5, _⟩ | ⟨b2, q, len2, z2, r1, r2, r3, r4⟩
        ·rw [i1] at s5; cases s5
        ·rw [i1] at r3
         obtain rfl : b = b2 := by injection r3 with r3; injection r3
         exact h1.sep nE b q (by rw [e2]; simp) (by rw [k1, r1]) (h1.isub b hb)
      ·exact .inr k
   ·cases hfin
  ·cases hfin
 ·cases hfin
end Go.PI

namespace Go.PI
open Go.RowKit
variable {P : Program} {c : Ctx} {w : World} {μ : Nm} {I : Bool -> Nat -> Prop}
def ZpT (e : Nat) (τ : Ty) (R : List (Bool × Pat)) (F : List τ.T -> PArgs R -> Option (List τ.T)) : Orc := fun _ args m => match args with
 | .c (.mfull n) :: rest => match look n m with
  | some (.ar false e' σ xs) => if h : σ = τ then (bif Nat.beq e' e then (match decA false [n] m (killM [n] m) R rest with
   | some (xr, []) => .opt (F (cast (congrArg (fun s => List (Ty.T s)) h) xs) xr) fun ys => .ret (.tup [], setm n (.ar false e τ ys) m, [])
   | _ => .no) else .no) else .no
  | _ => .no
 | _ => .no
theorem OCR.callOk [DR] {f e : Nat} {τ : Ty} {R : List (Bool × Pat)} {F : List τ.T -> PArgs R -> Option (List τ.T)} (h : OCR P f e τ R F) : Zbp P f (ZpT e τ R F) := by
 refine ⟨h.fn, fun w μ I m nm args vs d m' ks hm ha hr => ?_⟩
 unfold ZpT at hr
 split at hr
 ·rename_i n rest
  split at hr
  ·rename_i e' σ xs hl
   split at hr
   ·rename_i hσ
    subst hσ
    cases hc : Nat.beq e' e with
    | false => rw [hc] at hr; cases hr
    | true =>
     rw [hc, cond_true] at hr
     obtain rfl := Nat.eq_of_beq_eq_true hc
     split at hr
     next xr hdec =>
      obtain ⟨ys, hy, hr⟩ := Br.opt_some hr
      have hy : F xs xr = some ys := hy
      have hr := Option.some.inj hr
      simp only [Prod.mk.injEq] at hr
      obtain ⟨rfl, rfl, rfl⟩ := hr
      obtain ⟨v, vr, rfl⟩ : ∃ v vr, vs = v :: vr := by
       match vs, ha.1 with
       | v :: vr, _ => exact ⟨v, vr, rfl⟩
      have hv := ha.2 0 _ v rfl rfl
      have har : RDs μ I w (shp m) rest vr := ⟨by have := ha.1; simpa using this, fun j d' v' hd' hv' => ha.2 (j + 1) d' v' (by simpa using hd') (by simpa using hv')⟩
      obtain ⟨len, z, A, cap, s1, s2, s3, s4, s5⟩ := hv
      rw [Zal hl] at s1
      obtain ⟨rfl, rfl⟩ := Prod.mk.inj (Option.some.inj s1)
      subst s2
      have hpk : ∃ B, PK I w (.row e' σ) xs [.slice A xs.length cap] B /\ (∀ b ∈ B, ∃ q, μ n = some (b, q)) := by
       rcases s5 with ⟨rfl, rfl⟩ | ⟨b, q, len2, z2, r1, r2, rfl, r4⟩
       ·exact ⟨[], ⟨none, 0, rfl, s3, s4, .inl ⟨rfl, rfl, rfl⟩⟩, fun b hb => by simp at hb⟩
       ·rw [Zal hl] at r2
        obtain ⟨-, rfl⟩ := Prod.mk.inj (Option.some.inj r2)
        rcases hm.mem n _ hl with ⟨b3, q3, u1, cur', e4, u2, u3, u4, cap2, u5, u6, u7, u8⟩ | ⟨u1, _⟩
        ·rw [r1] at u1
         obtain ⟨rfl, rfl⟩ := Prod.mk.inj (Option.some.inj u1)
         subst u4
         exact ⟨[b], ⟨some ⟨b, 0, none⟩, cap, rfl, s3, s4, .inr ⟨b, cur', rfl, rfl, u2, by rw [u3, r4], u8⟩⟩, fun b' hb => by
          obtain rfl := List.mem_singleton.1 hb
          exact ⟨_, r1⟩⟩
        ·rw [r1] at u1; cases u1
      obtain ⟨B, hpk, hB⟩ := hpk
      have hln : look n m ≠ none := by rw [hl]; simp
      have hBI : ∀ b ∈ B, ¬ I true b := fun b hb => by
       obtain ⟨q, hq⟩ := hB b hb
       exact hm.sep n b q hln hq
      let J : Bool -> Nat -> Prop := fun t b => I t b \/ (t = true /\ Zai (killM [n] m) μ b)
      obtain ⟨B2, hB1, hB2, -⟩ := Zlz hm (J := J) (fun t b hb => .inl hb) (fun b hb => by
       rcases hb with hb | ⟨e, _⟩
       ·exact .inl (hm.isub b hb)
       ·cases e) (fun b hb => .inr ⟨rfl, hb⟩) (fun e => by cases e) hdec har
      obtain rfl : B2 = [] := by
       have : blocks μ ([] : List Nat) = [] := rfl
       rw [this] at hB2
       exact List.sublist_nil.1 hB2
      have hpk := hpk.mono (J' := fun b => J (b && !false)) (fun t b hb => by cases t <;> exact .inl hb)
      refine (h.ok w (fun b => J (b && !false)) (fun b hb => by
       rcases hb with hb | ⟨e, _⟩
       ·exact .inl (hm.isub b hb)
       ·cases e) (fun b hb => by
       rcases hb with hb | ⟨_, hb⟩
       ·exact hm.ilt b hb
       ·obtain ⟨n', q', _, hl', hμ'⟩ := Zai.killM hb
        exact hm.live_lt hl' hμ') xs xr _ vr B hpk hB1 (fun b hb hj => by
       rcases hj with hj | ⟨_, hj⟩
       ·exact hBI b hb hj
       ·obtain ⟨n', q', hn', hl', hμ'⟩ := Zai.killM hj
        obtain ⟨q, hq⟩ := hB b hb
        obtain rfl := hm.inj n n' b q q' hq hμ' hln hl'
        exact hn' (List.mem_singleton.2 rfl)) ys hy).mono ?_
      rintro en w' ⟨u, J', rfl, r1, r2, r3', r4', r5, r6, r7, r8, r9⟩
      have r4 : ∀ b, J' b -> (I false b \/ w.heap.size <= b) /\ b < w'.heap.size := fun b hb => by
       obtain ⟨k, k2⟩ := r4' b hb
       refine ⟨?_, k2⟩
       rcases k with (k | ⟨e, _⟩) | k
       ·exact .inl k
       ·cases e
       ·exact .inr k
      have hyl : ys.length = xs.length := by
       obtain ⟨A2, cap2, t1, _⟩ := r2
       have t1 : Value.slice A xs.length cap = Value.slice A2 ys.length cap2 := by simpa using t1
       injection t1 with _ t1 _
       exact t1.symm
      have hsh : shp (setm n (.ar false e' σ ys) m) = shp m := by
       funext k
       by_cases hk : k = n
       ·subst hk
        rw [Zal (ZaF _ _ _), Zal hl]
        simp [MB.shape, hyl]
       ·unfold shp
        rw [Zar _ hk]
      have hlk : ∀ k, look k (setm n (.ar false e' σ ys) m) ≠ none -> look k m ≠ none := fun k hk => by
       by_cases e : k = n
       ·subst e; exact hln
       ·rwa [Zar _ e] at hk
      have hst : ∀ t, Za3 (I t) w w' := fun t b hb => by
       have hb' : I true b := by cases t; exact hm.isub b hb; exact hb
       exact r9 b (hm.ilt b hb') fun hbB => hBI b hbB hb'
      have hother : ∀ k b q, k ≠ n -> look k m ≠ none -> μ k = some (b, q) -> b ∉ B := fun k b q hk hlk hμ hb => by
       obtain ⟨q', hq'⟩ := hB b hb
       exact hk (hm.inj k n b q q' hμ hq' hlk hln)
      refine ⟨u, μ, fun t b => I t b \/ J' b, rfl, ?_, fun t b hb => .inl hb, fun k _ _ => ⟨rfl, congrFun hsh k⟩, r1 _ _ _⟩
      refine { mem := fun k mb hk => ?_, inj := fun k1 k2 b q q' e1 e2 l1 l2 => hm.inj k1 k2 b q q' e1 e2 (hlk _ l1) (hlk _ l2), sep := fun k b q hk hμ hi => ?_, isub := fun b hb => hb.imp (hm.isub b) id, ilt := fun b hb => ?_, i0 := fun t b hb => .inl hb, inew := fun t b hb => ?_, live := fun k b q hk hμ => hm.live k b q (hlk _ hk) hμ, os := r5, tape := r6, output := r7, size := r8, keep := fun b hb hL => r9 b hb fun hbB => ?_ }
      ·by_cases e : k = n
       ·subst e
        rw [ZaF] at hk
        obtain rfl := Option.some.inj hk
        obtain ⟨A2, cap2, t1, t2, t3, t4⟩ := r2
        have t1 : Value.slice A xs.length cap = Value.slice A2 ys.length cap2 := by simpa using t1
        injection t1 with i1 i2 i3
        subst i1 i3
        rcases t4 with ⟨t4, t5, t6⟩ | ⟨b, cur, t4, t5, t6, t7, t8⟩
        ·have hy0 : ys = [] := List.length_eq_zero_iff.1 (by omega)
         rcases hm.mem k _ hl with ⟨b3, q3, u1, cur', e4, u2, u3, u4, cap3, u5, u6, u7, u8⟩ | ⟨u1, _⟩
         ·refine .inl ⟨b3, q3, u1, cur', e4, ?_, u3, u4, cap3, u5, by rw [hyl]; exact u6, u7, ?_⟩
          ·have : b3 < w.heap.size := by
            rcases Nat.lt_or_ge b3 w.heap.size with h | h
            ·exact h
            ·rw [Array.getElem?_eq_none h] at u2; cases u2
           rw [r9 b3 this (fun hb => by rw [t6] at hb; simp at hb)]
           exact u2
          ·subst hy0
           refine ⟨by simp, fun i x hx => by simp at hx⟩
         ·exact .inr ⟨u1, _, _, _, by rw [hy0]⟩
        ·obtain ⟨q, hq⟩ := hB b (by rw [t5]; simp)
         rcases hm.mem k _ hl with ⟨b3, q3, u1, cur', e4, u2, u3, u4, cap3, u5, u6, u7, u8⟩ | ⟨u1, _⟩
         ·rw [hq] at u1
          obtain ⟨rfl, rfl⟩ := Prod.mk.inj (Option.some.inj u1)
          have hqc : q = cap * σ.sz := by
           rcases s5 with ⟨s5, _⟩ | ⟨b2, q2, len2, z2, v1, v2, v3, v4⟩
           ·rw [s5] at t4; cases t4
           ·rw [v3] at t4
            obtain rfl : b2 = b := by injection t4 with t4; injection t4
            rw [hq] at v1
            obtain ⟨-, rfl⟩ := Prod.mk.inj (Option.some.inj v1)
            rw [Zal hl] at v2
            obtain ⟨-, rfl⟩ := Prod.mk.inj (Option.some.inj v2)
            exact v4
          refine .inl ⟨b, q, hq, cur, e', t6, by rw [t7, hqc], rfl, cap, hqc, by rw [hyl]; exact s3, s4, t8.imp fun _ _ k => ?_⟩
          exact K.mono (I := J') (fun b hb => .inr hb) (fun b _ => rfl) k
         ·rw [hq] at u1; cases u1
       ·rw [Zar _ e] at hk
        have hk0 : look k m ≠ none := by rw [hk]; simp
        rcases hm.mem k mb hk with ⟨b, q, t1, t2⟩ | t
        ·refine .inl ⟨b, q, t1, ?_⟩
         have hb : w'.heap[b]? = w.heap[b]? := r9 b t2.lt (hother k b q e hk0 t1)
         have := t2.map (φ := id) (μ' := μ) (I' := fun t b => I t b \/ J' b) (w' := w') (sh' := shp (setm n (.ar false e' σ ys) m)) (fun c v hc => hc.same (fun t b hb => .inl hb) hst fun k _ => ⟨rfl, congrFun hsh k⟩) (fun t b hb => .inl hb) hst hb
         rwa [MB.mapC_id] at this
        ·exact .inr t
      ·have hk0 := hlk k hk
       rcases hi with hi | hi
       ·exact hm.sep k b q hk0 hμ hi
       ·rcases (r4 b hi).1 with k2 | k2
        ·exact hm.sep k b q hk0 hμ (hm.isub b k2)
        ·have := hm.live_lt hk0 hμ
         omega
      ·rcases hb with hb | hb
       ·have := hm.ilt b hb
        omega
       ·exact (r4 b hb).2
      ·rcases hb with hb | hb
       ·exact .inl hb
       ·rcases (r4 b hb).1 with k2 | k2
        ·left
         cases t with
         | false => exact k2
         | true => exact hm.isub b k2
        ·exact .inr (.inr k2)
      ·obtain ⟨q, hq⟩ := hB b hbB
       exact hL ⟨n, q, hln, hq⟩
     ·cases hr
   ·cases hr
  ·cases hr
 ·cases hr
end Go.PI

namespace Go.PI
open Go.RowKit
variable {P : Program} {c : Ctx} {g : Cfg}
theorem ZaB.all [DR] {p : Par} (code : Code) : (∀ a ∈ Zbm code, ∀ o, ZdP p a = some o -> ZaB P g p a -> ZaL P g o a) -> ZaB P g p code := by
 induction code using Zbm.induct with
 | case1 a b iha ihb =>
  intro h x hx
  rcases List.mem_append.1 hx with hx | hx
  ·exact iha (fun y hy => h y (List.mem_append.2 (.inl hy))) x hx
  ·exact ihb (fun y hy => h y (List.mem_append.2 (.inr hy))) x hx
 | case2 _ a b iha ihb =>
  intro h x hx
  rcases List.mem_append.1 hx with hx | hx
  ·exact iha (fun y hy => h y (List.mem_append.2 (.inl hy))) x hx
  ·exact ihb (fun y hy => h y (List.mem_append.2 (.inr hy))) x hx
 | case3 _ a ih => exact fun h => ih h
 | case4 a ih =>
  intro h x hx
  have h' := ih fun y hy => h y (List.mem_cons_of_mem _ hy)
  rcases List.mem_cons.1 hx with rfl | hx
  ·exact fun o ho => h _ (List.mem_cons_self ..) o ho h'
  ·exact h' x hx
 | case5 t h1 h2 h3 h4 =>
  intro h x hx
  have : Zbm t = [] := by
   cases t <;> first | rfl | exact absurd rfl (h1 _ _) | exact absurd rfl (h2 _ _ _) | exact absurd rfl (h3 _ _) | exact absurd rfl (h4 _)
  rw [this] at hx
  cases hx
structure Hd where
 S : Skel
 H : List Hole
 h : Shape
structure Ext where
 y : Exit
 a : Hd
def insK (x : Nat × Kd) : List (Nat × Kd) -> List (Nat × Kd)
 | [] => [x]
 | y :: r => bif Nat.blt y.1 x.1 then y :: insK x r else x :: y :: r
def rowK (n : Nat) : List Hole -> Kd
 | [] => .keep
 | .ar m b e τ :: r => bif Nat.beq m n then .row (n - 1024) b e τ else rowK n r
 | _ :: r => rowK n r
def keepK (H : List Hole) (rows : List Nat) : List (Nat × D) -> List (Nat × Kd)
 | [] => []
 | (i, .c (.mfull n)) :: r => (i, bif memb i rows then rowK n H else .keep) :: keepK H rows r
 | (i, _) :: r => (i, .keep) :: keepK H rows r
def Zle : List Hole -> List (Nat × Kd) -> List (Nat × Kd)
 | [], l => l
 | .slot i b τ :: r, l => insK (i, .as b τ) (Zle r l)
 | .eref i _ :: r, l => insK (i, .keep) (Zle r l)
 | .cap i _ _ :: r, l => insK (i, .keep) (Zle r l)
 | _ :: r, l => Zle r l
def cellK : List Hole -> List (Nat × Nat × Kd)
 | [] => []
 | .cell n j b τ :: r => (n - 1024, j, .as b τ) :: cellK r
 | _ :: r => cellK r
def flagK (n : Nat) : List Hole -> Bool
 | [] => false
 | .tv m b _ :: r => bif Nat.beq m n then b else flagK n r
 | .ar m b _ _ :: r => bif Nat.beq m n then b else flagK n r
 | _ :: r => flagK n r
def shapeO (S : Skel) (H : List Hole) (rows : List Nat) : Shape := ⟨Zle H (keepK H rows S.t), cellK H, S.m.map fun p => (p.1 - 1024, flagK p.1 H)⟩
abbrev shX (n : Nat) (t : List (Nat × D)) (m : List (Nat × List C)) (H : List Hole) (h : Shape) : Hd := ⟨⟨n, t, m⟩, H, h⟩
abbrev shO (n : Nat) (t : List (Nat × D)) (m : List (Nat × List C)) (H : List Hole) (rows : List Nat) : Hd := ⟨⟨n, t, m⟩, H, shapeO ⟨n, t, m⟩ H rows⟩
abbrev exX (y : Exit) (n : Nat) (t : List (Nat × D)) (m : List (Nat × List C)) (H : List Hole) (h : Shape) : Ext := ⟨y, shX n t m H h⟩
abbrev exO (y : Exit) (n : Nat) (t : List (Nat × D)) (m : List (Nat × List C)) (H : List Hole) (rows : List Nat) : Ext := ⟨y, shO n t m H rows⟩
abbrev sI (i : Nat) : Hole := .slot i false (.int .i64)
@[reducible] def ZOf : List Ext -> Type
 | [] => Empty
 | [a] => Holes a.a.H
 | a :: b :: r => Holes a.a.H ⊕ ZOf (b :: r)
def Zgw (kf : List Nat) : (l : List Ext) -> ZOf l -> Exit × St
 | [], z => nomatch z
 | [a], u => (a.y, a.a.S.fillK kf a.a.H u)
 | a :: _ :: _, .inl u => (a.y, a.a.S.fillK kf a.a.H u)
 | _ :: b :: r, .inr z => Zgw kf (b :: r) z
def ZkI (kf : List Nat) : (l : List Ext) -> ZOf l -> Br (Exit × St)
 | [], z => nomatch z
 | [a], u => .ret (a.y, a.a.S.fillK kf a.a.H u)
 | a :: b :: r, z => .sum z (fun u => .ret (a.y, a.a.S.fillK kf a.a.H u)) fun z => ZkI kf (b :: r) z
theorem Znj (kf : List Nat) : ∀ (l : List Ext) (z : ZOf l), (ZkI kf l z).run = some (Zgw kf l z)
 | [], z => nomatch z
 | [_], _ => rfl
 | _ :: _ :: _, .inl _ => rfl
 | _ :: b :: r, .inr z => Znj kf (b :: r) z
def endsB : Exit -> Bool
 | .normal => false
 | _ => true
theorem ZsK (kf : List Nat) : ∀ (l : List Ext) (z : ZOf l), (l.all fun a => endsB a.y) = true -> (Zgw kf l z).1 ≠ .normal
 | [], z, _ => nomatch z
 | [a], _, h => fun e => by
  simp only [List.all_cons, Bool.and_eq_true] at h
  rw [show a.y = .normal from e] at h
  cases h.1
 | a :: _ :: _, .inl _, h => fun e => by
  simp only [List.all_cons, Bool.and_eq_true] at h
  rw [show a.y = .normal from e] at h
  cases h.1
 | _ :: b :: r, .inr z, h => by
  rw [List.all_cons, Bool.and_eq_true] at h
  exact ZsK kf (b :: r) z h.2
def exB : Exit -> Exit -> Bool
 | .ret, .ret => true
 | .exit a, .exit b => Nat.beq a b
 | _, _ => false
def exH (y : Exit) : List Ext -> Shape
 | [] => ⟨[], [], []⟩
 | a :: r => bif exB a.y y then a.a.h else exH y r
def hsOf (h : Shape) (l : List Ext) : Exit -> Shape
 | .normal => h
 | y => exH y l
structure Lp where
 key : Nat
 a : Hd
 x : List Ext
 step : Holes a.H -> Br (Holes a.H ⊕ ZOf x)
noncomputable def Lp.o (kp kf : List Nat) (b : Nat) (L : Lp) : St -> Br (Exit × St) := ZgH kp kf b L.a.h (L.a.S.parseK kf L.a.H) fun x => .opt (Zag (fun x => (L.step x).run) x) (ZkI kf L.x)
noncomputable def ZkJ (kp kf : List Nat) (b i : Nat) : List Lp -> Option (St -> Br (Exit × St))
 | [] => none
 | L :: r => bif Nat.beq i L.key then some (L.o kp kf b) else ZkJ kp kf b i r
noncomputable def Zfh (kp kf : List Nat) (b : Nat) (ls : List Lp) : Par := { sh := fun _ => none, k := 0, lo := fun i => ZkJ kp kf b i ls }
def Rnds (kp kf : List Nat) (c : Ctx) (p : Par) (body : Code) : Nat -> List Lp -> Prop
 | _, [] => True
 | n, L :: r => (∀ x, Zek kp kf c p (hsOf L.a.h L.x) (Zfm n body) (L.a.S.fillK kf L.a.H x) = (L.step x).bind (ZcJ (fun x => L.a.S.fillK kf L.a.H x) (Zgw kf L.x))) /\ Rnds kp kf c p body (n + 1) r
def keyB (k : Nat) : Option Nat -> Bool
 | some i => Nat.beq i k
 | none => false
def chkL : List Code -> List Lp -> Bool
 | [], [] => true
 | a :: as, L :: r => keyB L.key (key a) && (r.all fun M => !Nat.beq M.key L.key) && (L.x.all fun e => endsB e.y) && chkL as r
 | _, _ => false
theorem ZrD (kp kf : List Nat) (b : Nat) {c : Ctx} {p : Par} {body : Code} : ∀ (as : List Code) (ls : List Lp) (n : Nat), chkL as ls = true -> Rnds kp kf c p body n ls -> (∀ j a, as[j]? = some a -> Zfm (n + j) body = a) ->
  ∀ a ∈ as, ∃ i L, key a = some i /\ L ∈ ls /\ L.key = i /\ ZkJ kp kf b i ls = some (L.o kp kf b) /\ (L.x.all fun e => endsB e.y) = true /\
   ∀ x, Zek kp kf c p (hsOf L.a.h L.x) a (L.a.S.fillK kf L.a.H x) = (L.step x).bind (ZcJ (fun x => L.a.S.fillK kf L.a.H x) (Zgw kf L.x))
 | [], [], _, _, _, _, a, ha => by cases ha
 | [], _ :: _, _, h, _, _, _, _ => by cases h
 | _ :: _, [], _, h, _, _, _, _ => by cases h
 | a :: as, L :: r, n, h, hr, hb, x, hx => by
  simp only [chkL, Bool.and_eq_true] at h
  obtain ⟨⟨⟨h1, h2⟩, h3⟩, h4⟩ := h
  have hk : key a = some L.key := by
   revert h1
   cases key a with
   | none => intro h; cases h
   | some i => intro h; rw [Nat.eq_of_beq_eq_true h]
  rcases List.mem_cons.1 hx with rfl | hx
  ·refine ⟨L.key, L, hk, List.mem_cons_self .., rfl, ?_, h3, ?_⟩
   ·simp only [ZkJ, Nat.beq_refl, cond_true]
   ·have := hb 0 x rfl
    rw [Nat.add_zero] at this
    rw [<- this]
    exact hr.1
  ·obtain ⟨i, M, k1, k2, k3, k4, k5, k6⟩ := ZrD kp kf b as r (n + 1) h4 hr.2 (fun j a hj => by rw [Nat.add_assoc, Nat.add_comm 1 j]; exact hb (j + 1) a hj) x hx
   refine ⟨i, M, k1, List.mem_cons_of_mem _ k2, k3, ?_, k5, k6⟩
   have := List.all_eq_true.1 h2 M k2
   rw [Bool.not_eq_true', k3] at this
   simp only [ZkJ, this, cond_false]
   exact k4
theorem Rnds.ok [DR] (he : EnvFull P c) {kp kf : List Nat} {code : Code} {ls : List Lp} (hc : chkL (Zbm code) ls = true) (hr : Rnds kp kf c (Zfh kp kf c.base ls) code 0 ls) (g : Cfg) (hg : ∀ n, look n g.m0 ≠ none -> n ∈ kp) :
  ZaB P g (Zfh kp kf c.base ls) code := by
 refine ZaB.all code fun a ha o ho hl => ?_
 obtain ⟨i, L, h1, _, _, h4, h5, h6⟩ := ZrD kp kf c.base (Zbm code) ls 0 hc hr (fun j a hj => by
  unfold Zfm
  rw [Nat.zero_add, List.getD_eq_getElem?_getD, hj]
  rfl) a ha
 have : ZdP (Zfh kp kf c.base ls) a = some (L.o kp kf c.base) := by
  unfold ZdP
  rw [h1]
  exact h4
 rw [this] at ho
 obtain rfl := Option.some.inj ho
 exact ZaL.auto he hg _ hl (hsOf L.a.h L.x) (fun x => L.a.S.fillK kf L.a.H x) (fun s x h => Skel.parseK_ok s x h) L.step (Zgw kf L.x) (fun z => ZsK kf L.x z h5) (ZkI kf L.x) (fun z => Znj kf L.x z) h6
def fnL (fn : Func) (ls : List Lp) : Bool := !(fn.name == "runtime.NumGoroutine") && fn.body.isSome && chkL (Zbm (Za9 fn)) ls
theorem OC.lp [DR] {c0 : Ctx} (he : EnvFull P c0) (b : Nat) {f : Nat} {fn : Func} (hf : P.funcs[f]? = some fn) (ls : List Lp) {ins : List (Bool × Pat)} {outs : List Pat} (hc : (fnL fn ls && ZcB ins) = true)
  (hr : Rnds (ZdN ins) (kfOf ins) { c0 with base := b } (Zfh (ZdN ins) (kfOf ins) b ls) (Za9 fn) 0 ls) {B : PArgs ins -> Br (POuts outs × PBack ins)} (h : ∀ xs, Zig { c0 with base := b } (Zfh (ZdN ins) (kfOf ins) b ls) fn ins outs xs = B xs) :
  OC P f ins outs fun xs => (B xs).run := by
 unfold fnL at hc
 rw [Bool.and_eq_true, Bool.and_eq_true] at hc
 exact OC.of_tree (Zcy he b) hf hc.1.1 hc.2 (fun g hg => Rnds.ok (Zcy he b) hc.1.2 hr g hg) h
theorem OCR.lp [DR] {c0 : Ctx} (he : EnvFull P c0) (b : Nat) {f : Nat} {fn : Func} (hf : P.funcs[f]? = some fn) (ls : List Lp) {e : Nat} {τ : Ty} {R : List (Bool × Pat)} (hc : fnL fn ls = true)
  (hr : Rnds (ZdN (ZcT e τ R)) [] { c0 with base := b } (Zfh (ZdN (ZcT e τ R)) [] b ls) (Za9 fn) 0 ls) {B : List τ.T -> PArgs R -> Br (List τ.T)}
  (h : ∀ xs xr, Zlu { c0 with base := b } (Zfh (ZdN (ZcT e τ R)) [] b ls) fn e τ R xs xr = B xs xr) : OCR P f e τ R fun xs xr => (B xs xr).run := by
 unfold fnL at hc
 rw [Bool.and_eq_true] at hc
 exact OCR.of_tree (Zcy he b) hf hc.1 (fun g hg => Rnds.ok (Zcy he b) hc.2 hr g hg) h
def ocx [DR] {f : Nat} {ins : List (Bool × Pat)} {outs : List Pat} {F : PArgs ins -> Option (POuts outs × PBack ins)} (c : Ctx) (_ : OC P f ins outs F) : Ctx := Zba c f (ZaV ins outs F)
theorem ocn [DR] {f : Nat} {ins : List (Bool × Pat)} {outs : List Pat} {F : PArgs ins -> Option (POuts outs × PBack ins)} (he : EnvFull P c) (h : OC P f ins outs F) : EnvFull P (ocx c h) := Zas he h.callOk
end Go.PI

namespace Go.PI
open Go.RowKit
variable {P : Program} {c : Ctx}
theorem Zqp {n : Nat} : ∀ {m : Mem}, look n m ≠ none -> ∃ b, (n, b) ∈ m
 | [], h => absurd rfl h
 | (k, b) :: r, h => by
  simp only [look] at h
  cases hk : Nat.beq k n with
  | true => exact ⟨b, by rw [Nat.eq_of_beq_eq_true hk]; exact List.mem_cons_self ..⟩
  | false =>
   rw [hk, cond_false] at h
   obtain ⟨b, hb⟩ := Zqp h
   exact ⟨b, List.mem_cons_of_mem _ hb⟩
def inlL (kp : List Nat) (c : Ctx) (p : Par) (fn : Func) : Orc := fun nm args m => bif m.all fun x => memb x.1 kp then inl c p fn (Za9 fn) nm args m else .no
theorem Zbp.lp [DR] {c0 : Ctx} (he : EnvFull P c0) (B : Nat) (kp : List Nat) {f : Nat} {fn : Func} (hf : P.funcs[f]? = some fn) (ls : List Lp) (hc : fnL fn ls = true)
  (hr : Rnds kp [] { c0 with base := B } (Zfh kp [] B ls) (Za9 fn) 0 ls) : Zbp P f (inlL kp c0 (Zfh kp [] B ls) fn) := by
 unfold fnL at hc
 simp only [Bool.and_eq_true, Bool.not_eq_true'] at hc
 have hb := Zdw hc.1.2
 refine ⟨⟨fn, hf, hc.1.1, by rw [hb]; rfl⟩, fun w μ I m nm args vs d m' ks hm ha hrun => ?_⟩
 unfold inlL at hrun
 cases hk : m.all fun x => memb x.1 kp with
 | false => rw [hk] at hrun; cases hrun
 | true =>
  rw [hk] at hrun
  refine Zdr he hf hb hm ha (Rnds.ok (Zcy he B) hc.2 hr _ fun n hn => ?_) hrun
  obtain ⟨b, hb⟩ := Zqp hn
  exact Zah.1 (List.all_eq_true.1 hk _ hb)
end Go.PI

namespace Go.PI
open Go.RowKit
variable {P : Program} {c : Ctx} {g : Cfg}
theorem Zu0 [DR] (he : EnvFull P c) {ops : Array Oper} {N : Type} (L : N -> Array Bool) (S : N -> St) (cnt : N -> Nat) (V : N -> Prop) {fin : St -> Prop} (h0 : ∀ n, V n -> Region.ready .any ops (L n) = [] -> fin (S n)) (hz : ∀ n, V n -> cnt n = 0 -> Region.ready .any ops (L n) = [])
  (hs : ∀ n i, V n -> i ∈ Region.ready .any ops (L n) -> ∃ o n', V n' /\ ops[i]? = some o /\ o.guard = none /\ L n' = (L n).setIfInBounds i true /\ cnt n' < cnt n /\ (Zam c (S n) o).run = some (S n')) :
  ∀ (fuel : Nat) (n : N) (a : Act) (w : World), V n -> cnt n <= fuel -> Ok g (S n) a w -> wpAny P .any ops (fun y a' w' => y = .normal /\ ∃ st, fin st /\ Ok g st a' w') fuel (L n) a w := by
 intro fuel
 induction fuel with
 | zero =>
  intro n a w hv hc hok
  have h := hz n hv (Nat.le_zero.1 hc)
  exact ⟨h, rfl, _, h0 n hv h, hok⟩
 | succ fuel ih =>
  intro n a w hv hc hok
  refine ⟨fun h => ⟨rfl, _, h0 n hv h, hok⟩, fun i hi => ?_⟩
  obtain ⟨o, n', hv', ho, hg, hL, hlt, hr⟩ := hs n i hv hi
  unfold wpOp
  simp only [ho]
  rw [if_pos (by unfold Region.wanted; rw [hg])]
  refine .inl (Zc0 he o g _ _ a w _ _ hok hr fun a' w' hok' => ?_)
  rw [<- hL]
  exact ih n' a' w' hv' (by omega) hok'
theorem Tri.nodes [DR] (he : EnvFull P c) {id : Nat} {ops : Array Oper} {N : Type} (L : N -> Array Bool) (S : N -> St) (cnt : N -> Nat) (V : N -> Prop) {fin : St -> Prop} (n : N) (hv : V n) (hn : L n = Array.replicate ops.size false) (hc : cnt n <= ops.size)
  (h0 : ∀ n, V n -> Region.ready .any ops (L n) = [] -> fin (S n)) (hz : ∀ n, V n -> cnt n = 0 -> Region.ready .any ops (L n) = [])
  (hs : ∀ n i, V n -> i ∈ Region.ready .any ops (L n) -> ∃ o n', V n' /\ ops[i]? = some o /\ o.guard = none /\ L n' = (L n).setIfInBounds i true /\ cnt n' < cnt n /\ (Zam c (S n) o).run = some (S n')) :
  Tri P g (.region id ops true) (S n) fun y st => y = .normal /\ fin st := by
 intro a w hok
 refine wp_mono (wp_region_any he.mixed (hn ▸ Zu0 he L S cnt V h0 hz hs ops.size n a _ hv hc (hok.drawn _ (Nat.le_succ _)))) ?_
 rintro y a' w' ⟨rfl, st, h1, h2⟩
 exact ⟨st, ⟨rfl, h1⟩, h2⟩
def brSt : Br (Exit × St) -> St
 | .ret r => r.2
 | _ => ⟨[], [], []⟩
theorem ZjF {α β : Type} {x : Br α} {f : α -> Br β} {y : α} (h : x.run = some y) : (x.bind f).run = (f y).run := by rw [Br.run_bind, h]; rfl
end Go.PI
