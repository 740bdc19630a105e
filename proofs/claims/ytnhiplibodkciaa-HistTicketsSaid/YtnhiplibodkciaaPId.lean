/- The pure interpreter's steps: an operation, a region, code without loops (or with as many rounds as are given). -/
import Derived.Test.YtnhiplibodkciaaPIc
import Derived.Orders
namespace Go.PI
open Go.RowKit

def onB {α : Type} (d : D) (x y : Br α) : Br α :=
  match d with
  | .c .tt => x
  | .c .ff => y
  | .c (.ty _ .bool b) => .cond b x y
  | _ => .no

def intD : D → Option Int
  | .c (.ty _ (.int _) n) => some n
  | _ => none

/-- The part of a struct: its first cell, and its type. -/
def fieldOf (c : Ctx) (t i : Nat) : Option (Nat × Ty) :=
  match c.tb t with
  | some ⟨_, _, .st l⟩ => match l[i]? with
    | some (o, u) => match c.tb u with
      | some ti => some (o, ti.ty)
      | none => none
    | none => none
  | _ => none

/-- A struct out of typed parts. -/
def buildT (c : Ctx) (s : St) (t : Nat) (τ : Ty) : List (Nat × Operand) → Bool × τ.T → Option (Bool × τ.T)
  | [], p => some p
  | (i, x) :: r, (b, y) => match fieldOf c t i with
    | some (o, σ) => match (opd s x).asTy σ, put τ o σ with
      | some (b', z), some g => buildT c s t τ r (b || b', g y z)
      | _, _ => none
    | none => none

/-- .. or out of cells. -/
def buildC (c : Ctx) (s : St) (t : Nat) : List (Nat × Operand) → List C → Option (List C)
  | [], l => some l
  | (i, x) :: r, l => match fieldOf c t i with
    | some (o, σ) => match (opd s x).cells with
      | some k => bif decide (k.length = σ.sz) && decide (o + k.length ≤ l.length) then buildC c s t r (l.take o ++ k ++ l.drop (o + k.length)) else none
      | none => none
    | none => none

def buildD (c : Ctx) (s : St) (t : Nat) (parts : List (Nat × Operand)) : Option D :=
  match c.tb t with
  | some ⟨τ, _, .st l⟩ => bif !τ.hasP || decide (parts.length = l.length) then (match buildT c s t τ parts (false, τ.zero) with
    | some (b, x) => some (.c (.ty b τ x))
    | none => (buildC c s t parts (zeroC τ)).map .agg) else (buildC c s t parts (zeroC τ)).map .agg
  | _ => none

/-- The elements of a slice that is written out. -/
def rowD (s : St) (τ : Ty) : List (Nat × Operand) → Bool × List τ.T → Option (Bool × List τ.T)
  | [], p => some p
  | (i, x) :: r, (b, xs) => match (opd s x).asTy τ with
    | some (b', z) => bif decide (i < xs.length) then rowD s τ r (b || b', xs.set i z) else none
    | none => none

/-- What of one's own the operands hold is frozen. -/
def thaw (s : St) : List (Nat × Operand) → St
  | [] => s
  | (_, x) :: r => thaw (freezeAll (opd s x).names (s, .c .bad)).1 r

def argsC (s : St) : List Operand → Option (List C)
  | [] => some []
  | x :: r => match opd s x, argsC s r with
    | .c k, some l => some (k :: l)
    | _, _ => none

def bound (n : Nat) (bytes : Nat) : Bool := decide (n * bytes ≤ 140737488355328)

def appendD (c : Ctx) (nm : Nat) (s : St) (t : Nat) (x y : D) : Br (St × D) :=
  match c.tb t with
  | some ⟨.sl τ, _, .sl e⟩ => match c.tb e with
    | some ti => bif decide (ti.ty = τ) && decide (0 < τ.sz) && decide (0 < ti.bytes) then (match headOf x, sliceOf s.m τ x, sliceOf s.m τ y with
      | some .nil, some (_, _), some (b, ys) => .cond (bound ys.length ti.bytes) (.ret (s.lay nm (.ar b e τ ys), .c (.mfull nm))) .no
      | some (.own n), some (b1, xs), some (b, ys) => match look n s.m with
        | some (.ar _ e' _ _) => bif decide (e' = e) then .cond (bound (xs.length + ys.length) ti.bytes) (.ret ((s.kill n).lay nm (.ar (b1 || b) e τ (xs ++ ys)), .c (.mfull nm))) .no else .no
        | _ => .no
      | some .cap, some (b1, xs), some (b, ys) => .cond (bound (xs.length + ys.length) ti.bytes && decide (0 < ys.length)) (.ret (s.lay nm (.ar (b1 || b) e τ (xs ++ ys)), .c (.mfull nm))) .no
      | _, _, _ => .no) else .no
    | none => .no
  | _ => .no

def bndD (s : St) (dflt : Int) : Option Operand → Option Int
  | none => some dflt
  | some x => intD (opd s x)

/-- Is this the kind of a type? -/
def tyIs (c : Ctx) (e : Nat) (τ : Ty) : Bool := match c.tb e with
  | some ti => decide (ti.ty = τ)
  | none => false

def sliceStr (s : St) (b : Bool) (v : ByteArray) (lo hi mx : Option Operand) : Br D :=
  match mx, bndD s 0 lo, bndD s (v.size : Int) hi with
  | none, some l, some h => .cond (decide (0 ≤ l) && decide (l ≤ h) && decide (h ≤ (v.size : Int))) (.ret (.c (.ty b .str (v.extract l.toNat h.toNat)))) .no
  | _, _, _ => .no

def sliceOwn (s : St) (lo hi mx : Option Operand) (n o len : Nat) : Br D :=
  match bndD s 0 lo, bndD s (len : Int) hi with
  | some l, some h => match mx with
    | none => .cond (decide (0 ≤ l) && decide (l ≤ h) && decide (h ≤ (len : Int))) (.ret (.c (.msl n (o + l.toNat) (h.toNat - l.toNat) false))) .no
    | some m => match (bif hi.isSome then intD (opd s m) else none) with
      | some m => .cond (decide (0 ≤ l) && decide (l ≤ h) && decide (h ≤ (len : Int)) && decide (m = h)) (.ret (.c (.msl n (o + l.toNat) (h.toNat - l.toNat) true))) .no
      | none => .no
  | _, _ => .no

def sliceD (s : St) (τ : Ty) (x : D) (lo hi mx : Option Operand) : Br D :=
  match x with
  | .c (.ty b (.sl σ) xs) => match mx, bndD s 0 lo, bndD s (xs.length : Int) hi with
    | none, some l, some h => bif decide (σ = τ) then .cond (decide (0 ≤ l) && decide (l ≤ h) && decide (h ≤ (xs.length : Int))) (.ret (.c (.ty b (.sl σ) ((xs.take h.toNat).drop l.toNat)))) .no else .no
    | _, _, _ => .no
  | .c .nils => match bndD s 0 lo, bndD s 0 hi with
    | some l, some h => match mx with
      | none => .cond (decide (l = 0) && decide (h = 0)) (.ret (.c .nils)) .no
      | some m => match (bif hi.isSome then intD (opd s m) else none) with
        | some m => .cond (decide (l = 0) && decide (h = 0) && decide (m = h)) (.ret (.c .nils)) .no
        | none => .no
    | _, _ => .no
  | .c (.mfull n) => match look n s.m with
    | some (.ar _ _ σ xs) => bif decide (σ = τ) then sliceOwn s lo hi mx n 0 xs.length else .no
    | _ => .no
  | .c (.msl n o len false) => match look n s.m with
    | some (.ar _ _ σ _) => bif decide (σ = τ) then sliceOwn s lo hi mx n o len else .no
    | _ => .no
  | _ => .no

def indexD (m : Mem) (τ : Ty) (x : D) (i : Int) : Br D :=
  match x with
  | .c (.ty b (.sl σ) xs) => bif decide (σ = τ) then .cond (decide (0 ≤ i) && decide (i < (xs.length : Int))) (.ret (.c (.eref b σ xs i.toNat 0))) .no else .no
  | .c (.mfull n) => match look n m with
    | some (.ar _ _ σ xs) => bif decide (σ = τ) then .cond (decide (0 ≤ i) && decide (i < (xs.length : Int))) (.ret (.c (.ref n i.toNat 0))) .no else .no
    | _ => .no
  | .c (.msl n o len _) => match look n m with
    | some (.ar _ _ σ _) => bif decide (σ = τ) then .cond (decide (0 ≤ i) && decide (i < (len : Int))) (.ret (.c (.ref n (o + i.toNat) 0))) .no else .no
    | _ => .no
  | _ => .no

def indexA (m : Mem) (τ : Ty) (k : Nat) (x : D) (i : Int) : Br D :=
  match x with
  | .c (.ref n 0 0) => match look n m with
    | some (.ar _ _ σ xs) => bif decide (σ = τ) then .cond (decide (0 ≤ i) && decide (i < (k : Int)) && decide (i < (xs.length : Int))) (.ret (.c (.ref n i.toNat 0))) .no else .no
    | _ => .no
  | _ => .no

/-- What is stored among elements is frozen first. -/
def preStore (s : St) (n : Nat) (d : D) : St × D :=
  match look n s.m with
  | some (.ar _ _ _ _) => freezeAll d.names (s, d)
  | _ => (s, d)

def callD (c : Ctx) (nm : Nat) (s : St) (f : D) (args : List D) : Br (St × D) :=
  match f with
  | .fn g caps => match c.orc g with
    | some o => (o nm (args ++ caps.map .c) s.m).bind fun (d, m, ks) => .ret (⟨ks.foldl (fun t k => t.map (D.kill k)) s.t, m, ks ++ s.k⟩, d)
    | none => .no
  | _ => .no

def minC : List Int → Int → Int
  | [], x => x
  | y :: r, x => minC r (if y < x then y else x)
def maxC : List Int → Int → Int
  | [], x => x
  | y :: r, x => maxC r (if x < y then y else x)

def intsD (k : IntKind) (s : St) : List Operand → Option (List Int)
  | [] => some []
  | x :: r => match opd s x, intsD k s r with
    | .c (.ty _ (.int k') n), some l => bif decide (k' = k) then some (n :: l) else none
    | _, _ => none

def evOper (c : Ctx) (s : St) (o : Oper) : Br St :=
  let nm := c.base + o.dst.getD 0
  let put (d : D) : Br St := .ret (s.putd o.dst d)
  let putO (d : Option D) : Br St := match d with
    | some d => .ret (s.putd o.dst d)
    | none => .no
  match o.op with
  | .move x => put (opd s x)
  | .assign x => put (opd s x)
  | .pick k a b => onB (opd s k) (put (opd s a)) (put (opd s b))
  | .alloc t => match c.tb t with
    | some ⟨.arr n a, _, _⟩ => bif decide (n ≤ 1048576) && decide (0 < n) then .ret ((s.lay nm (.ar false t a (List.replicate n a.zero))).putd o.dst (.c (.ref nm 0 0))) else .no
    | some ti => .ret ((s.lay nm (bif ti.ty.hasP then .dv (zeroC ti.ty) else .tv false ti.ty ti.ty.zero)).putd o.dst (.c (.ref nm 0 0)))
    | none => .no
  | .box t x => match c.tb t with
    | some ti => match (opd s x).asTyS ti.ty with
      | some (b, y) => .ret ((s.lay nm (.tv b ti.ty y)).putd o.dst (.c (.ref nm 0 0)))
      | none => match ((opd s x).kill nm).cells with
        | some l => bif decide (l.length = ti.ty.sz) then .ret ((s.lay nm (.dv l)).putd o.dst (.c (.ref nm 0 0))) else .no
        | none => .no
    | none => .no
  | .build t parts => putO (buildD c s t parts.toList)
  | .buildSlice t len parts => match c.tb t with
    | some ⟨.sl τ, _, .sl e⟩ => match c.tb e with
      | some ti => bif decide (ti.ty = τ) && decide (len * τ.sz ≤ 16777216) && decide (0 < τ.sz) then (
        let s := thaw s parts.toList
        match rowD s τ parts.toList (false, List.replicate len τ.zero) with
        | some (b, xs) => .ret ((s.lay nm (.ar b e τ xs)).putd o.dst (.c (.mfull nm)))
        | none => .no) else .no
      | none => .no
    | _ => .no
  | .load t a => match c.tb t, opd s a with
    | some ti, .c p => putO (loadD s.m ti.ty p)
    | _, _ => .no
  | .store t a x => match c.tb t, opd s a with
    | some ti, .c (.ref n i off) => bif decide (0 < ti.ty.sz) then (
      match look n (preStore s n (opd s x)).1.m with
      | some mb => match storeB ti.ty (preStore s n (opd s x)).2 i off mb with
        | some mb' => .ret ((⟨(preStore s n (opd s x)).1.t, setm n mb' (preStore s n (opd s x)).1.m, (preStore s n (opd s x)).1.k⟩ : St).putd o.dst (.c .bad))
        | none => .no
      | none => .no) else .no
    | _, _ => .no
  | .nilCheck x => match opd s x with
    | .c (.ref n i k) => put (.c (.ref n i k))
    | .c (.eref b τ xs i k) => put (.c (.eref b τ xs i k))
    | .c (.ty b (.ptr τ) v) => .cond v.isSome (put (.c (.eref b τ [v.getD τ.zero] 0 0))) .no
    | _ => .no
  | .binOp op xt x y _ => (binD op (c.tb xt) (c.eqs xt) (opd s x) (opd s y)).bind put
  | .unOp op _ x => (unD op (opd s x)).bind put
  | .convert src dst x => match c.tb src, c.tb dst, opd s x with
    | some _, some ⟨.int k, _, _⟩, .c (.ty _ (.int _) n) => put (.c (.ty false (.int k) (k.wrap n)))
    | some _, some ⟨.str, _, _⟩, .c (.ty b .str v) => put (.c (.ty b .str v))
    | _, _, _ => .no
  | .makeFunc (.func f) first caps => bif decide (first.size = 0) then (match argsC s caps.toList with
    | some l => put (.fn f l)
    | none => .no) else .no
  | .makeSlice t l k => match c.tb t, intD (opd s l), intD (opd s k) with
    | some ⟨.sl τ, _, .sl e⟩, some l, some k => match c.tb e with
      | some ti => bif decide (ti.ty = τ) && decide (0 < τ.sz) && decide (0 < ti.bytes) then .cond (decide (0 ≤ l) && decide (l ≤ k) && bound k.toNat ti.bytes)
          (.ret ((s.lay nm (.ar false e τ (List.replicate l.toNat τ.zero))).putd o.dst (.c (.mfull nm)))) .no else .no
      | none => .no
    | _, _, _ => .no
  | .slice t x lo hi mx => match c.tb t with
    | some ⟨.str, _, _⟩ => match opd s x with
      | .c (.ty b .str v) => (sliceStr s b v lo hi mx).bind put
      | _ => .no
    | some ⟨.sl τ, _, .sl e⟩ => bif tyIs c e τ then (sliceD s τ (opd s x) lo hi mx).bind put else .no
    | _ => .no
  | .fieldAddr t x f => match fieldOf c t f, opd s x with
    | some (off, τ), .c p => bif decide (τ.sz = 0) then .no else putO ((addOff off p).map .c)
    | _, _ => .no
  | .indexAddr t x i => match intD (opd s i), c.tb t with
    | some i, some ⟨.sl τ, _, .sl e⟩ => bif tyIs c e τ then (indexD s.m τ (opd s x) i).bind put else .no
    | some i, some ⟨.arr _ τ, _, .ar k e⟩ => bif tyIs c e τ then (indexA s.m τ k (opd s x) i).bind put else .no
    | _, _ => .no
  | .index t x i => match c.tb t, opd s x, intD (opd s i) with
    | some ⟨.str, _, _⟩, .c (.ty _ .str v), some i => .cond (decide (0 ≤ i) && decide (i < (v.size : Int))) (put (.c (.ty false (.int .u8) ((v.data.getD i.toNat 0).toNat : Int)))) .no
    | _, _, _ => .no
  | .field t x f => match fieldOf c t f, opd s x with
    | some (off, τ), .c (.ty b σ v) => bif σ.isAgg then putO ((sub σ off τ).map fun g => .c (.ty b τ (g v))) else .no
    | _, _ => .no
  | .extract x i => match opd s x with
    | .tup l => putO ((l[i]?).map .c)
    | _ => .no
  | .call { callee := .builtin .len, args := args, argTypes := ts } => match args.toList, ts.toList with
    | [x], [t] => match c.tb t with
      | some ⟨.str, _, _⟩ => match opd s x with
        | .c (.ty _ .str v) => put (.c (.ty false (.int .i64) (v.size : Int)))
        | _ => .no
      | some ⟨_, _, .sl _⟩ => putO (lenD s.m (opd s x))
      | some ⟨_, _, .ar n _⟩ => bif decide (n ≤ 1048576) then put (.c (.ty false (.int .i64) (n : Int))) else .no
      | _ => .no
    | _, _ => .no
  | .call { callee := .builtin .append, args := args, argTypes := ts } => match args.toList, ts.toList with
    | [x, y], [t, u] => bif decide (t = u) then (appendD c nm s t (opd s x) (opd s y)).bind fun (s, d) => .ret (s.putd o.dst d) else .no
    | _, _ => .no
  | .call { callee := .builtin .min, args := args, .. } => match args.toList with
    | x :: r => match opd s x with
      | .c (.ty _ (.int k) n) => putO ((intsD k s r).map fun l => .c (.ty false (.int k) (minC l n)))
      | _ => .no
    | _ => .no
  | .call { callee := .builtin .max, args := args, .. } => match args.toList with
    | x :: r => match opd s x with
      | .c (.ty _ (.int k) n) => putO ((intsD k s r).map fun l => .c (.ty false (.int k) (maxC l n)))
      | _ => .no
    | _ => .no
  | .call { callee := .value f, args := args, .. } => (callD c nm s (opd s f) (args.toList.map (opd s))).bind fun (s, d) => .ret (s.putd o.dst d)
  | _ => .no

/-- The slot of the truth that an operation waits for. -/
def slotOf (ops : Array Oper) (j : Nat) : Option Nat := (ops[j]?).bind (·.dst)

def evOps (c : Ctx) (ops : Array Oper) : List Nat → St → Br St
  | [], s => .ret s
  | i :: r, s => match ops[i]? with
    | none => evOps c ops r s
    | some o => match o.guard with
      | none => (evOper c s o).bind (evOps c ops r)
      | some (j, want) => match slotOf ops j with
        | some k => match s.t.getD k (.c .bad) with
          | .c .tt => if want then (evOper c s o).bind (evOps c ops r) else evOps c ops r (s.putd o.dst (.tup []))
          | .c .ff => if want then evOps c ops r (s.putd o.dst (.tup [])) else (evOper c s o).bind (evOps c ops r)
          | .tup [] => evOps c ops r (s.putd o.dst (.tup []))
          | .c (.ty _ .bool b) =>
            let st : St := ⟨s.t.set k (.c .tt), s.m, s.k⟩
            let sf : St := ⟨s.t.set k (.c .ff), s.m, s.k⟩
            .cond b (if want then (evOper c st o).bind (evOps c ops r) else evOps c ops r (st.putd o.dst (.tup [])))
              (if want then evOps c ops r (sf.putd o.dst (.tup [])) else (evOper c sf o).bind (evOps c ops r))
          | _ => .no
        | none => .no

/-! ### how a state is told at a loop's head -/

/-- A slot, or a cell of a block by cells. -/
inductive Pl
  | slot (i : Nat) | cell (n j : Nat)

/-- How what lies there is told: as it is; as typed data; as a row of that name. -/
inductive Kd
  | keep
  | as (b : Bool) (τ : Ty)
  | row (N : Nat) (b : Bool) (e : Nat) (τ : Ty)

def C.tell (b : Bool) (τ : Ty) (x : C) : C := match x.asTy τ with
  | some (b', y) => bif b || !b' || !τ.hasP then .ty b τ y else .bad
  | none => .bad
def D.tell (b : Bool) (τ : Ty) (x : D) : D := match x.asTy τ with
  | some (b', y) => bif b || !b' || !τ.hasP then .c (.ty b τ y) else .c .bad
  | none => .c .bad

def findK (i : Nat) : List (Nat × Kd) → Option Kd
  | [] => none
  | (j, k) :: r => bif Nat.beq j i then some k else findK i r

def tellT (l : List (Nat × Kd)) : Nat → List D → List D
  | _, [] => []
  | i, d :: r => (match findK i l with
    | none => .c .bad
    | some (.as b τ) => d.tell b τ
    | _ => d) :: tellT l (i + 1) r

def St.at (s : St) : Pl → C
  | .slot i => match s.t.getD i (.c .bad) with
    | .c x => x
    | _ => .bad
  | .cell n j => match look n s.m with
    | some (.dv l) => l.getD j .bad
    | _ => .bad
def St.to (s : St) (x : C) : Pl → St
  | .slot i => ⟨s.t.set i (.c x), s.m, s.k⟩
  | .cell n j => match look n s.m with
    | some (.dv l) => ⟨s.t, setm n (.dv (l.set j x)) s.m, s.k⟩
    | _ => s

def C.ren (n N : Nat) : C → C
  | .ref k i o => bif Nat.beq k n then .ref N i o else .ref k i o
  | .mfull k => bif Nat.beq k n then .mfull N else .mfull k
  | .msl k s l cp => bif Nat.beq k n then .msl N s l cp else .msl k s l cp
  | c => c
def D.ren (n N : Nat) : D → D
  | .c x => .c (x.ren n N)
  | .agg l => .agg (l.map (C.ren n N))
  | .tup l => .tup (l.map (C.ren n N))
  | .fn f l => .fn f (l.map (C.ren n N))
def MB.ren (n N : Nat) : MB → MB
  | .dv l => .dv (l.map (C.ren n N))
  | mb => mb
def renN (n N k : Nat) : Nat := bif Nat.beq k n then N else k
/-- A name is another one, that is gone. -/
def St.ren (n N : Nat) (s : St) : St := let s := s.kill N; ⟨s.t.map (D.ren n N), s.m.map fun p => (renN n N p.1, p.2.ren n N), n :: s.k⟩

/-- An empty row of that name, in place of nil. -/
def St.row (N : Nat) (b : Bool) (e : Nat) (τ : Ty) (p : Pl) (s : St) : St :=
  let s := s.kill N
  let s : St := ⟨s.t, (N, .ar b e τ []) :: s.m, s.k⟩
  match s.at p with
  | .nils => s.to (.mfull N) p
  | _ => s

def St.rowAt (N : Nat) (b : Bool) (e : Nat) (τ : Ty) (p : Pl) (s : St) : St :=
  match s.at p with
  | .nils => s.row N b e τ p
  | .mfull n => bif Nat.beq n N then s else s.ren n N
  | _ => s

def St.tellAt (base : Nat) (s : St) (p : Pl) : Kd → St
  | .keep => s
  | .as b τ => s.to ((s.at p).tell b τ) p
  | .row N b e τ => s.rowAt (base + N) b e τ p

def MB.raise (b : Bool) : MB → MB
  | .tv b' τ x => .tv (b || (b' && τ.hasP)) τ x
  | .ar b' e τ xs => .ar (b || (b' && τ.hasP)) e τ xs
  | mb => mb

structure Shape where
  slots : List (Nat × Kd)
  cells : List (Nat × Nat × Kd)
  names : List (Nat × Bool)

def findN (n : Nat) : List (Nat × Bool) → Option Bool
  | [] => none
  | (k, b) :: r => bif Nat.beq k n then some b else findN n r

def rowsOf (base : Nat) : List (Nat × Kd) → St → St
  | [], s => s
  | (i, .row N b e τ) :: r, s => rowsOf base r (s.tellAt base (.slot i) (.row N b e τ))
  | _ :: r, s => rowsOf base r s
def cellsOf (base : Nat) : List (Nat × Nat × Kd) → St → St
  | [], s => s
  | (n, j, k) :: r, s => cellsOf base r (s.tellAt base (.cell (base + n) j) k)

/-- Names of one's own that are not wanted. -/
def dropsOf (base : Nat) (ns : List (Nat × Bool)) : Mem → List Nat
  | [] => []
  | (k, _) :: r => bif Nat.ble base k && (findN (k - base) ns).isNone then k :: dropsOf base ns r else dropsOf base ns r

def killAll : List Nat → St → St
  | [], s => s
  | n :: r, s => killAll r (s.kill n)

/-- Memory in an order that is given. -/
def front (base : Nat) (m : Mem) : List (Nat × Bool) → Mem
  | [] => []
  | (n, b) :: r => match look (base + n) m with
    | some mb => (base + n, mb.raise b) :: front base m r
    | none => front base m r
def back (base : Nat) (ns : List (Nat × Bool)) : Mem → Mem
  | [] => []
  | (k, mb) :: r => bif Nat.ble base k && (findN (k - base) ns).isSome then back base ns r else (k, mb) :: back base ns r

def St.shape (base : Nat) (h : Shape) (s : St) : St :=
  let s : St := ⟨tellT h.slots 0 s.t, s.m, s.k⟩
  let s := cellsOf base h.cells (rowsOf base h.slots s)
  let s := killAll (dropsOf base h.names s.m) s
  ⟨s.t, front base s.m h.names ++ back base h.names s.m, s.k⟩

/-- A piece of code's first region. -/
def key : Code → Option Nat
  | .region id _ _ => some id
  | .seq a b => match key a with
    | some i => some i
    | none => key b
  | .cond _ a b => match key a with
    | some i => some i
    | none => key b
  | .block _ a => key a
  | .loop a => key a
  | _ => none

/-- How loops are told, and how many rounds they have at most. -/
structure Par where
  sh : Nat → Option Shape
  k : Nat
  lo : Nat → Option (St → Br (Exit × St)) := fun _ => none

/-- What is said of a loop ahead. -/
def loOf (p : Par) (a : Code) : Option (St → Br (Exit × St)) := match key a with
  | some i => p.lo i
  | none => none

def shapeOf (base : Nat) (p : Par) (a : Code) (s : St) : St := match key a with
  | some i => match p.sh i with
    | some h => s.shape base h
    | none => s
  | none => s

def iter (f : St → Br (Exit × St)) : Nat → St → Br (Exit × St)
  | 0, _ => .no
  | k + 1, s => (f s).bind fun
    | (.normal, s) => iter f k s
    | p => .ret p

/-! ### regions that draw their order: an operation by what it looks at alone -/

def C.nm : C → List Nat
  | .ref n _ _ => [n]
  | .mfull n => [n]
  | .msl n _ _ _ => [n]
  | _ => []
def D.nms : D → List Nat
  | .c x => x.nm
  | .agg l => l.flatMap C.nm
  | .tup l => l.flatMap C.nm
  | .fn _ l => l.flatMap C.nm
def memb (n : Nat) : List Nat → Bool
  | [] => false
  | k :: r => Nat.beq k n || memb n r

/-- Slots that an operation looks at. -/
def slotsOf : List Operand → List Nat
  | [] => []
  | .tmp t :: r => t :: slotsOf r
  | _ :: r => slotsOf r

def nmsOf (t : List D) : List Nat → List Nat
  | [] => []
  | i :: r => (t.getD i (.c .bad)).nms ++ nmsOf t r
/-- Names that cells of the blocks of names speak of. -/
def cellNms (m : Mem) : List Nat → List Nat
  | [] => []
  | n :: r => (match look n m with
    | some (.dv l) => l.flatMap C.nm
    | _ => []) ++ cellNms m r

def subB (l ns : List Nat) : Bool := l.all fun n => memb n ns
def addAll : List Nat → List Nat → List Nat
  | [], ns => ns
  | n :: r, ns => bif memb n ns then addAll r ns else addAll r (n :: ns)
def closeN (m : Mem) : Nat → List Nat → List Nat
  | 0, ns => ns
  | f + 1, ns => closeN m f (addAll (cellNms m ns) ns)
/-- The names that an operation's slots speak of, and those that stand in their cells. -/
def namesAt (s : St) (l : List Nat) : List Nat := closeN s.m 3 (addAll (nmsOf s.t l) [])

def C.good : C → Bool
  | .bad => false
  | _ => true
def D.good : D → Bool
  | .c x => x.good
  | .agg l => l.all C.good
  | .tup l => l.all C.good
  | .fn _ l => l.all C.good
def MB.nms : MB → List Nat
  | .dv l => l.flatMap C.nm
  | _ => []
def MB.good : MB → Bool
  | .dv l => l.all C.good
  | _ => true

def maskT (l : List Nat) : Nat → List D → List D
  | _, [] => []
  | i, d :: r => (bif memb i l then d else .c .bad) :: maskT l (i + 1) r
def memAt (m : Mem) : List Nat → Mem
  | [] => []
  | n :: r => match look n m with
    | some b => (n, b) :: memAt m r
    | none => memAt m r
def memBut (ns : List Nat) : Mem → Mem
  | [] => []
  | (k, b) :: r => bif memb k ns then memBut ns r else (k, b) :: memBut ns r

def St.cut (l ns : List Nat) (s : St) : St := ⟨maskT l 0 s.t, memAt s.m ns, []⟩

/-- All that is looked at is known, and speaks of nothing else. -/
def goodAt (s : St) (l ns : List Nat) : Bool := (l.all fun i => (s.t.getD i (.c .bad)).good) && subB (nmsOf s.t l) ns &&
  ns.all fun n => match look n s.m with
    | some b => b.good && subB b.nms ns
    | none => false

/-- Names that are gone behind an operation: what it says, and what is new. -/
def goneOf (ns : List Nat) (s : St) : List Nat := s.k ++ (s.m.map (·.1)).filter fun n => !memb n ns

def dstD (dst : Option Tmp) (s : St) : D := match dst with
  | some k => s.t.getD k (.c .bad)
  | none => .c .bad
def St.mix (ns : List Nat) (s s' : St) : St :=
  let s := killAll (goneOf ns s') s
  ⟨s.t, s'.m ++ memBut ns s.m, s.k⟩
/-- What an operation does to the whole. -/
def St.join (ns : List Nat) (dst : Option Tmp) (s s' : St) : St := (s.mix ns s').putd dst (dstD dst s')
/-- .. where it leaves memory alone. -/
def St.whole (q : Bool) (ns : List Nat) (dst : Option Tmp) (s s' : St) : St := (bif q then s else s.mix ns s').putd dst (dstD dst s')

/-- Slots that an operation looks at: of a choice, the chosen one. -/
def lookSlots (s : St) (o : Op) : List Nat := match o with
  | .pick k a b => match opd s k with
    | .c .tt => slotsOf [k, a]
    | .c .ff => slotsOf [k, b]
    | _ => slotsOf [k, a, b]
  | o => slotsOf o.operands.toList

/-- Operations that leave memory alone. -/
def quietOp : Op → Bool
  | .move _ => true
  | .assign _ => true
  | .pick .. => true
  | .build .. => true
  | .load .. => true
  | .nilCheck _ => true
  | .binOp .. => true
  | .unOp .. => true
  | .convert .. => true
  | .slice .. => true
  | .fieldAddr .. => true
  | .indexAddr .. => true
  | .index .. => true
  | .field .. => true
  | .extract .. => true
  | .call { callee := .builtin .len, .. } => true
  | .call { callee := .builtin .min, .. } => true
  | .call { callee := .builtin .max, .. } => true
  | _ => false

/-- What an operation looked at, what is gone behind it, what it changed. -/
structure Rec where
  i : Nat
  F : List Nat
  G : List Nat
  X : List Nat
  W : List Nat
  M : List Nat

/-- Names that an operation may turn. -/
def wrOf (s : St) (F : List Nat) : Op → List Nat
  | .call { callee := .builtin .append, args := args, .. } => match args.toList with
    | x :: _ => (opd s x).nms
    | _ => F
  | _ => F
/-- .. and those that it only reads. -/
def roOf (W F : List Nat) : List Nat := F.filter fun n => !memb n W
def St.less (R : List Nat) (s : St) : St := ⟨s.t, memBut R s.m, s.k⟩
def roOk (s : St) (nm : Nat) (R G : List Nat) : Bool := R.all fun n => !Nat.beq n nm && !memb n G && (match look n s.m with
  | some b => b.nms.isEmpty
  | none => false)

def isGuard (ops : Array Oper) (i : Nat) : Bool := ops.toList.any fun o => match o.guard with
  | some (j, _) => Nat.beq j i
  | none => false

def evExecG (c : Ctx) (ops : Array Oper) (i : Nat) (s : St) (o : Oper) : Br (Rec × St) :=
  let l := lookSlots s o.op
  let F := namesAt s l
  let W := wrOf s F o.op
  let R := roOf W F
  bif goodAt s l F then (evOper c (s.cut l F) o).bind fun s0 =>
    let s' := s0.less R
    let G := goneOf W s'
    let d := dstD o.dst s'
    bif (subB W F && roOk s (c.base + o.dst.getD 0) R G) && (subB d.nms (F ++ G) && s'.m.all (fun p => subB p.2.nms (F ++ G))) then
      let x : Rec := ⟨i, F, G, bif quietOp o.op then [] else W ++ G, W, F⟩
      let s1 := s.whole (quietOp o.op) W o.dst s'
      bif isGuard ops i then (match d with
        | .c (.ty _ .bool b) => .cond b (.ret (x, s1.putd o.dst (.c .tt))) (.ret (x, s1.putd o.dst (.c .ff)))
        | _ => .ret (x, s1)) else .ret (x, s1)
    else .no
  else .no

/-- A value that is only handed on. -/
def mvOf : Op → Option Operand
  | .move x => some x
  | .assign x => some x
  | _ => none
def evMove (ops : Array Oper) (i : Nat) (s : St) (o : Oper) (x : Operand) : Br (Rec × St) :=
  let d := opd s x
  bif d.good then (
    let r : Rec := ⟨i, d.nms, [], [], [], []⟩
    let s1 := s.putd o.dst (d)
    bif isGuard ops i then (match d with
      | .c (.ty _ .bool b) => .cond b (.ret (r, s1.putd o.dst (.c .tt))) (.ret (r, s1.putd o.dst (.c .ff)))
      | _ => .ret (r, s1)) else .ret (r, s1)) else .no

def evExec (c : Ctx) (ops : Array Oper) (i : Nat) (s : St) (o : Oper) : Br (Rec × St) := match mvOf o.op with
  | some x => evMove ops i s o x
  | none => evExecG c ops i s o

/-- Is a truth that is waited for there? Is it known not to be? -/
def onD (want : Bool) : D → Bool
  | .c .tt => want
  | .c .ff => !want
  | _ => false
def offD (want : Bool) : D → Bool
  | .c .tt => !want
  | .c .ff => want
  | .tup [] => true
  | _ => false

def evStep (c : Ctx) (ops : Array Oper) (i : Nat) (s : St) : Br (Rec × St) := match ops[i]? with
  | none => .no
  | some o => match o.guard with
    | none => evExec c ops i s o
    | some (j, want) => match slotOf ops j with
      | some k => bif onD want (s.t.getD k (.c .bad)) then evExec c ops i s o
        else bif offD want (s.t.getD k (.c .bad)) then .ret (⟨i, [], [], [], [], []⟩, s.putd o.dst (.tup [])) else .no
      | none => .no

def evSteps (c : Ctx) (ops : Array Oper) : List Nat → St → Br (List Rec × St)
  | [], s => .ret ([], s)
  | i :: r, s => (evStep c ops i s).bind fun (x, s) => (evSteps c ops r s).bind fun (l, st) => .ret (x :: l, st)

/-- Behind what an operation stands, by the others' list. -/
def ancOf (tab : List (List Nat)) : List Edge → List Nat
  | [] => []
  | e :: r => bif Region.binds .any e then addAll (e.on :: tab.getD e.on []) (ancOf tab r) else ancOf tab r
def ancTab (tab : List (List Nat)) : List Oper → List (List Nat)
  | [] => tab
  | o :: r => ancTab (tab ++ [ancOf tab o.after.toList]) r

def disj (l r : List Nat) : Bool := l.all fun n => !memb n r
def indep (ops : Array Oper) (x y : Rec) : Bool := match ops[x.i]?, ops[y.i]? with
  | some p, some q => p.apart ops q && q.apart ops p && disj x.X (y.M ++ y.G) && disj y.X (x.M ++ x.G) && disj x.G (y.F ++ y.G) && disj y.G (x.F ++ x.G)
  | _, _ => false
def pairsB (ops : Array Oper) (tab : List (List Nat)) : List Rec → Bool
  | [] => true
  | x :: r => (r.all fun y => memb x.i (tab.getD y.i []) || indep ops x y) && pairsB ops tab r

/-- The text's order is let. -/
def textB : Nat → List Oper → Bool
  | _, [] => true
  | i, o :: r => (o.after.toList.all fun e => !Region.binds .any e || Nat.blt e.on i) && textB (i + 1) r
/-- A region that draws its order. -/
def evDraw (c : Ctx) (ops : Array Oper) (s : St) : Br St :=
  bif textB 0 ops.toList then (evSteps c ops (List.range ops.size) s).bind fun (l, st) => bif pairsB ops (ancTab [] ops.toList) l then .ret st else .no
  else .no

/-- Code: 'k' rounds of each loop at most. -/
def ev (c : Ctx) (p : Par) : Code → St → Br (Exit × St)
  | .skip, s => .ret (.normal, s)
  | .region _ ops draw, s => (bif draw then evDraw c ops s else evOps c ops (List.range ops.size) s).bind fun s => .ret (.normal, s)
  | .seq a b, s => (ev c p a s).bind fun
    | (.normal, s) => ev c p b s
    | p => .ret p
  | .cond x a b, s => onB (opd s x) (ev c p a s) (ev c p b s)
  | .block id a, s => (ev c p a s).bind fun
    | (.exit j, s) => .ret (if j = id then .normal else .exit j, s)
    | p => .ret p
  | .loop a, s => match loOf p a with
    | some o => o s
    | none => iter (fun s => ev c p a (shapeOf c.base p a s)) p.k s
  | .exit j, s => .ret (.exit j, s)
  | .ret, s => .ret (.ret, s)
  | _, _ => .no

/-- A call's results. -/
def resD (c : Ctx) (s : St) : ResultVar → Option D
  | .tmp t => some (s.t.getD t (.c .bad))
  | .cell a t => match c.tb t, s.t.getD a (.c .bad) with
    | some ti, .c p => loadD s.m ti.ty p
    | _, _ => none
def resC (c : Ctx) (s : St) : List ResultVar → Option (List C)
  | [] => some []
  | x :: r => match resD c s x, resC c s r with
    | some (.c y), some l => some (y :: l)
    | _, _ => none
def resultsD (c : Ctx) (s : St) : List ResultVar → Option D
  | [x] => resD c s x
  | l => (resC c s l).map .tup

/-- A callee that is gone through in place. -/
def inl (c : Ctx) (p : Par) (fn : Func) (code : Code) : Orc := fun nm args m =>
  (ev { c with base := (nm + 1) * 1024 } p code ⟨args ++ List.replicate (fn.ntmps - args.length) (.c .bad), m, []⟩).bind fun
    | (.ret, s) => .ofOpt ((resultsD c s fn.results.toList).map fun d => (d, s.m, s.k))
    | (.normal, s) => .ofOpt ((resultsD c s fn.results.toList).map fun d => (d, s.m, s.k))
    | _ => .no

end Go.PI
