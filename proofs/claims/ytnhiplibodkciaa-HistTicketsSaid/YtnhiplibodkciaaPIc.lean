/- The pure interpreter: what it keeps of values and memory, and what it does at each operation. It branches where a truth is not known: its answer is a tree. -/
import Derived.Test.YtnhiplibodkciaaPIb
import Derived.Calls
namespace Go.PI
open Go.RowKit

/-- A cell's worth: typed data; a truth that is known; pointers and slices into blocks of one's own (by name) or into what never turns; nil; nothing known. -/
inductive C
  | ty (b : Bool) (τ : Ty) (x : τ.T)
  | tt | ff
  | ref (n i o : Nat)
  | eref (b : Bool) (τ : Ty) (xs : List τ.T) (i o : Nat)
  | mfull (n : Nat)
  | msl (n s l : Nat) (cp : Bool)
  | nils | nilp
  | bad

inductive D
  | c (x : C) | agg (l : List C) | tup (l : List C) | fn (f : Nat) (l : List C)

/-- A block of one's own: a variable of typed data; a row of typed elements (e: their type's number); a variable by cells. -/
inductive MB
  | tv (b : Bool) (τ : Ty) (x : τ.T)
  | ar (b : Bool) (e : Nat) (τ : Ty) (xs : List τ.T)
  | dv (l : List C)

abbrev Mem := List (Nat × MB)

structure St where
  t : List D
  m : Mem
  k : List Nat   -- names that are gone

/-- A tree of answers. -/
inductive Br (α : Type) : Type
  | ret (a : α)
  | cond (b : Bool) (x y : Br α)
  | no

namespace Br
def bind {α β : Type} : Br α → (α → Br β) → Br β
  | ret a, k => k a
  | cond b x y, k => .cond b (x.bind k) (y.bind k)
  | no, _ => .no
def run {α : Type} : Br α → Option α
  | ret a => some a
  | cond b x y => bif b then x.run else y.run
  | no => none
def ofOpt {α : Type} : Option α → Br α
  | some a => .ret a
  | none => .no
theorem run_bind {α β : Type} : ∀ {x : Br α} {k : α → Br β}, (x.bind k).run = x.run.bind fun a => (k a).run
  | ret a, k => rfl
  | cond b x y, k => by cases b <;> simp [bind, run, run_bind]
  | no, _ => rfl
theorem bind_some {α β : Type} {x : Br α} {k : α → Br β} {r : β} (h : (x.bind k).run = some r) : ∃ a, x.run = some a ∧ (k a).run = some r := by
  rw [run_bind] at h
  exact Option.bind_eq_some_iff.1 h
theorem run_cond {α : Type} (b : Bool) (x y : Br α) : (Br.cond b x y).run = if b = true then x.run else y.run := by cases b <;> rfl
end Br

/-- What of a type's description is wanted. -/
inductive TD
  | sl (e : Nat) | st (l : List (Nat × Nat)) | ar (n e : Nat) | pt (e : Nat) | oth
structure TI where
  ty : Ty
  bytes : Nat
  d : TD

/-- What a call comes to: its result, memory behind it, and which names are gone. -/
abbrev Orc := Nat → List D → Mem → Br (D × Mem × List Nat)

structure Ctx where
  tb : Nat → Option TI
  orc : Nat → Option Orc
  eqs : Nat → Bool   -- struct types that may be compared
  base : Nat

def look (n : Nat) : Mem → Option MB
  | [] => none
  | (k, b) :: r => bif Nat.beq k n then some b else look n r

def setm (n : Nat) (mb : MB) : Mem → Mem
  | [] => [(n, mb)]
  | (k, b) :: r => bif Nat.beq k n then (k, mb) :: r else (k, b) :: setm n mb r

def delm (n : Nat) : Mem → Mem
  | [] => []
  | (k, b) :: r => bif Nat.beq k n then delm n r else (k, b) :: delm n r

def C.has (n : Nat) : C → Bool
  | .ref k _ _ => Nat.beq k n
  | .mfull k => Nat.beq k n
  | .msl k _ _ _ => Nat.beq k n
  | _ => false

def C.kill (n : Nat) (c : C) : C := bif c.has n then .bad else c
def D.kill (n : Nat) : D → D
  | .c x => .c (x.kill n)
  | .agg l => .agg (l.map (C.kill n))
  | .tup l => .tup (l.map (C.kill n))
  | .fn f l => .fn f (l.map (C.kill n))
def MB.kill (n : Nat) : MB → MB
  | .dv l => .dv (l.map (C.kill n))
  | mb => mb
/-- A name is gone. -/
def St.kill (n : Nat) (s : St) : St := ⟨s.t.map (D.kill n), (delm n s.m).map fun p => (p.1, p.2.kill n), n :: s.k⟩
/-- A block of that name is laid. -/
def St.lay (n : Nat) (mb : MB) (s : St) : St := let s := s.kill n; ⟨s.t, (n, mb) :: s.m, s.k⟩

def ofConst : Value → D
  | .bool true => .c .tt
  | .bool false => .c .ff
  | .int k n => bif decide (k.min ≤ n) && decide (n ≤ k.max) then .c (.ty false (.int k) n) else .c .bad
  | .string s => bif decide (s.size ≤ 9223372036854775807) then .c (.ty false .str s) else .c .bad
  | .slice none 0 0 => .c .nils
  | .pointer none => .c .nilp
  | _ => .c .bad

def opd (s : St) : Operand → D
  | .tmp t => s.t.getD t (.c .bad)
  | .const v => ofConst v
  | .func f => .fn f []
  | .global _ => .c .bad

def St.putd (dst : Option Tmp) (d : D) (s : St) : St :=
  match dst with
  | some k => ⟨s.t.set k d, s.m, s.k⟩
  | none => s

/-- The typed worth of a cell. -/
def C.asTy (σ : Ty) : C → Option (Bool × σ.T)
  | .ty b τ x => if h : τ = σ then some (b, cast (congrArg Ty.T h) x) else none
  | .tt => match σ with | .bool => some (false, true) | _ => none
  | .ff => match σ with | .bool => some (false, false) | _ => none
  | .nils => match σ with | .sl _ => some (false, []) | _ => none
  | .nilp => match σ with | .ptr _ => some (false, none) | .chain _ => some (false, []) | _ => none
  | _ => none

def manyRe {α : Type} (f : List C → Option ((Bool × α) × List C)) : Nat → List C → Option ((Bool × List α) × List C)
  | 0, l => some ((false, []), l)
  | n + 1, l => match f l with
    | some ((t, x), l) => match manyRe f n l with
      | some ((u, xs), l) => some ((t || u, x :: xs), l)
      | none => none
    | none => none

/-- Typed data out of the first cells of a row; what is left of it. -/
def retype : (σ : Ty) → List C → Option ((Bool × σ.T) × List C)
  | .unit, l => some ((false, ()), l)
  | .pair a b, l => match retype a l with
    | some ((t, x), l) => match retype b l with
      | some ((u, y), l) => some ((t || u, x, y), l)
      | none => none
    | none => none
  | .st a, l => retype a l
  | .arr n a, l => manyRe (retype a) n l
  | σ, c :: l => match c.asTy σ with
    | some q => some (q, l)
    | none => none
  | _, [] => none

def manyC {α : Type} (f : α → List C) : List α → List C
  | [] => []
  | x :: l => f x ++ manyC f l

/-- A typed value by its cells. -/
def cellsC (t : Bool) : (τ : Ty) → τ.T → List C
  | .unit, _ => []
  | .pair a b, x => cellsC t a x.1 ++ cellsC t b x.2
  | .st a, x => cellsC t a x
  | .arr _ a, xs => manyC (cellsC t a) xs
  | τ, x => [.ty t τ x]

/-- The zero value by its cells: nil is known as nil. -/
def zeroC : Ty → List C
  | .unit => []
  | .pair a b => zeroC a ++ zeroC b
  | .st a => zeroC a
  | .arr n a => manyC (fun _ : Unit => zeroC a) (List.replicate n ())
  | .sl _ => [.nils]
  | .ptr _ => [.nilp]
  | .chain _ => [.nilp]
  | τ => [.ty false τ τ.zero]

/-- Does it hold pointers? -/
def Ty.hasP : Ty → Bool
  | .pair a b => a.hasP || b.hasP
  | .st a => a.hasP
  | .arr _ a => a.hasP
  | .sl _ => true
  | .ptr _ => true
  | .chain _ => true
  | _ => false

def D.asTy (σ : Ty) : D → Option (Bool × σ.T)
  | .c x => x.asTy σ
  | .agg l => bif σ.isAgg then (match retype σ l with
    | some (q, []) => some q
    | _ => none) else none
  | _ => none

/-- The same, where nil is kept apart. -/
def D.asTyS (σ : Ty) (d : D) : Option (Bool × σ.T) :=
  match d with
  | .agg l => bif σ.hasP then none else (D.agg l).asTy σ
  | .c .nils => none
  | .c .nilp => none
  | d => d.asTy σ

/-- A value's cells. -/
def D.cells : D → Option (List C)
  | .c (.ty b τ x) => bif τ.isAgg then some (cellsC b τ x) else some [.ty b τ x]
  | .c .bad => none
  | .c x => some [x]
  | .agg l => some l
  | _ => none

/-- A name whose block never turns any more: what points into it holds its worth. -/
def C.freeze (n : Nat) (mb : MB) (c : C) : C :=
  bif c.has n then (match c, mb with
    | .mfull _, .ar b _ τ xs => .ty b (.sl τ) xs
    | .msl _ s l false, .ar b _ τ xs => bif decide (s + l ≤ xs.length) then .ty b (.sl τ) ((xs.drop s).take l) else .bad
    | _, _ => .bad) else c
def D.freeze (n : Nat) (mb : MB) : D → D
  | .c x => .c (x.freeze n mb)
  | .agg l => .agg (l.map (C.freeze n mb))
  | .tup l => .tup (l.map (C.freeze n mb))
  | .fn f l => .fn f (l.map (C.freeze n mb))
def MB.freeze (n : Nat) (mb : MB) : MB → MB
  | .dv l => .dv (l.map (C.freeze n mb))
  | x => x
def St.freeze (n : Nat) (s : St) : St :=
  match look n s.m with
  | some mb => ⟨s.t.map (D.freeze n mb), (delm n s.m).map fun p => (p.1, MB.freeze n mb p.2), n :: s.k⟩
  | none => s

/-- The worth of a cell for a callee that keeps nothing of it: typed; what is one's own is told as borrowed. -/
def C.lend (m : Mem) : C → C
  | .mfull n => match look n m with
    | some (.ar _ _ τ xs) => .ty true (.sl τ) xs
    | _ => .bad
  | .msl n s l _ => match look n m with
    | some (.ar _ _ τ xs) => .ty true (.sl τ) ((xs.drop s).take l)
    | _ => .bad
  | c => c

def seqOf {α : Type} : List (Option α) → Option (List α)
  | [] => some []
  | none :: _ => none
  | some a :: l => match seqOf l with
    | some r => some (a :: r)
    | none => none

def intC (op : BinOp) (k : IntKind) (x y : Int) : Br D :=
  match op with
  | .add => .ret (.c (.ty false (.int k) (k.wrap (x + y))))
  | .sub => .ret (.c (.ty false (.int k) (k.wrap (x - y))))
  | .mul => .ret (.c (.ty false (.int k) (k.wrap (x * y))))
  | .quo => .cond (decide (y = 0)) .no (.ret (.c (.ty false (.int k) (k.wrap (x.tdiv y)))))
  | .rem => .cond (decide (y = 0)) .no (.ret (.c (.ty false (.int k) (x.tmod y))))
  | .and => .ret (.c (.ty false (.int k) (k.wrap (BitVec.ofInt k.bits x &&& BitVec.ofInt k.bits y).toNat)))
  | .or => .ret (.c (.ty false (.int k) (k.wrap (BitVec.ofInt k.bits x ||| BitVec.ofInt k.bits y).toNat)))
  | .xor => .ret (.c (.ty false (.int k) (k.wrap (BitVec.ofInt k.bits x ^^^ BitVec.ofInt k.bits y).toNat)))
  | .andNot => .ret (.c (.ty false (.int k) (k.wrap (BitVec.ofInt k.bits x &&& ~~~(BitVec.ofInt k.bits y)).toNat)))
  | .eql => .ret (.c (.ty false .bool (x == y)))
  | .neq => .ret (.c (.ty false .bool (x != y)))
  | .lss => .ret (.c (.ty false .bool (decide (x < y))))
  | .leq => .ret (.c (.ty false .bool (decide (x ≤ y))))
  | .gtr => .ret (.c (.ty false .bool (decide (x > y))))
  | .geq => .ret (.c (.ty false .bool (decide (x ≥ y))))
  | _ => .no

def shiftC (op : BinOp) (k : IntKind) (x y : Int) : Br D :=
  match op with
  | .shl => .cond (decide (y < 0)) .no (.ret (.c (.ty false (.int k) (k.wrap (x * 2 ^ (min y.toNat k.bits))))))
  | .shr => .cond (decide (y < 0)) .no (.ret (.c (.ty false (.int k) (x.fdiv (2 ^ (min y.toNat k.bits))))))
  | _ => .no

def strC (op : BinOp) (x y : ByteArray) : Br D :=
  match op with
  | .add => .cond (decide (x.size + y.size ≤ 9223372036854775807)) (.ret (.c (.ty false .str (x ++ y)))) .no
  | .eql => .ret (.c (.ty false .bool (x.toList == y.toList)))
  | .neq => .ret (.c (.ty false .bool !(x.toList == y.toList)))
  | .lss => .ret (.c (.ty false .bool (Op.bytesLess x.toList y.toList)))
  | .leq => .ret (.c (.ty false .bool (Op.bytesLess x.toList y.toList || x.toList == y.toList)))
  | .gtr => .ret (.c (.ty false .bool !(Op.bytesLess x.toList y.toList || x.toList == y.toList)))
  | .geq => .ret (.c (.ty false .bool !(Op.bytesLess x.toList y.toList)))
  | _ => .no

/-- Is a pointer nil? -/
def C.isNil : C → Option D
  | .nilp => some (.c .tt)
  | .ref _ _ _ => some (.c .ff)
  | .eref _ _ _ _ _ => some (.c .ff)
  | .ty _ (.ptr _) o => some (.c (.ty false .bool o.isNone))
  | .ty _ (.chain _) l => some (.c (.ty false .bool l.isEmpty))
  | _ => none

def notD : D → Option D
  | .c .tt => some (.c .ff)
  | .c .ff => some (.c .tt)
  | .c (.ty _ .bool b) => some (.c (.ty false .bool !b))
  | _ => none

/-- Are two values of a kind that can be compared alike? -/
def beqT : (τ : Ty) → τ.T → τ.T → Option Bool
  | .unit, _, _ => some true
  | .bool, x, y => some (x == y)
  | .int _, x, y => some (decide ((x : Int) = y))
  | .str, x, y => some (x.toList == y.toList)
  | .pair a b, x, y => match beqT a x.1 y.1, beqT b x.2 y.2 with
    | some p, some q => some (p && q)
    | _, _ => none
  | .st a, x, y => beqT a x y
  | .arr _ (.int _), x, y => some (decide ((x : List Int) = y))
  | _, _, _ => none

def boolC (a : C) : Option Bool := match a with
  | .tt => some true
  | .ff => some false
  | .ty _ .bool b => some b
  | _ => none

/-- '==' beyond numbers and texts. -/
def eqD (xt : Option TI) (eq : Bool) (a b : D) : Br D :=
  match xt with
  | some ⟨_, _, .pt _⟩ => match a, b with
    | .c x, .c .nilp => .ofOpt x.isNil
    | _, _ => .no
  | some ⟨.bool, _, _⟩ => match a, b with
    | .c x, .c y => match boolC x, boolC y with
      | some p, some q => .ret (.c (.ty false .bool (p == q)))
      | _, _ => .no
    | _, _ => .no
  | some ⟨.st τ, _, _⟩ => bif eq then (match a.asTy (.st τ), b.asTy (.st τ) with
    | some p, some q => .ofOpt ((beqT (.st τ) p.2 q.2).map fun r => .c (.ty false .bool r))
    | _, _ => .no) else .no
  | _ => .no

def binD (op : BinOp) (xt : Option TI) (eq : Bool) (a b : D) : Br D :=
  match a, b with
  | .c (.ty _ (.int k) x), .c (.ty _ (.int k') y) =>
    match op with
    | .shl => shiftC .shl k x y
    | .shr => shiftC .shr k x y
    | op => bif decide (k = k') then intC op k x y else .no
  | .c (.ty _ .str x), .c (.ty _ .str y) => strC op x y
  | a, b =>
    match op with
    | .eql => eqD xt eq a b
    | .neq => (eqD xt eq a b).bind fun d => .ofOpt (notD d)
    | _ => .no

def unD (op : UnOp) (a : D) : Br D :=
  match op, a with
  | .not, a => .ofOpt (notD a)
  | .neg, .c (.ty _ (.int k) n) => .ret (.c (.ty false (.int k) (k.wrap (0 - n))))
  | .xor, .c (.ty _ (.int k) n) => .ret (.c (.ty false (.int k) (k.wrap (BitVec.ofInt k.bits (if k.signed then -1 else k.max) ^^^ BitVec.ofInt k.bits n).toNat)))
  | _, _ => .no

/-- A load. -/
def loadD (m : Mem) (τ : Ty) : C → Option D
  | .ref n i o => match look n m with
    | some (.tv b σ x) => (sub σ o τ).map fun f => .c (.ty b τ (f x))
    | some (.ar b _ σ xs) => (sub σ o τ).map fun f => .c (.ty b τ (f (xs.getD i σ.zero)))
    | some (.dv l) => bif τ.isAgg then (bif decide (o + τ.sz ≤ l.length) then some (.agg ((l.drop o).take τ.sz)) else none) else (l[o]?).map .c
    | none => none
  | .eref b σ xs i o => (sub σ o τ).map fun f => .c (.ty b τ (f (xs.getD i σ.zero)))
  | .ty b (.ptr σ) (some x) => (sub σ 0 τ).map fun f => .c (.ty b τ (f x))
  | _ => none

/-- Cells in place of others. -/
def spliceC (τ : Ty) (o : Nat) (l : List C) (d : D) : Option MB :=
  match d.cells with
  | some c => bif decide (o + c.length ≤ l.length) && decide (c.length = τ.sz) then some (.dv (l.take o ++ c ++ l.drop (o + c.length))) else none
  | none => none

/-- A store: the block behind it. -/
def storeB (τ : Ty) (d : D) (i o : Nat) : MB → Option MB
  | .tv b σ x => match d.asTyS τ, put σ o τ with
    | some (b', y), some g => some (.tv (b || b') σ (g x y))
    | _, _ => spliceC τ o (cellsC b σ x) d
  | .ar b e σ xs => match d.asTy τ, put σ o τ with
    | some (b', y), some g => some (.ar (b || b') e σ (xs.set i (g (xs.getD i σ.zero) y)))
    | _, _ => none
  | .dv l => bif Nat.beq o 0 && Nat.beq l.length τ.sz then (match d with
      | .c (.ty b σ y) => bif decide (σ = τ) then some (.tv b σ y) else spliceC τ o l d
      | d => spliceC τ o l d) else spliceC τ o l d

def addOff (f : Nat) : C → Option C
  | .ref n i o => some (.ref n i (o + f))
  | .eref b τ xs i o => some (.eref b τ xs i (o + f))
  | .ty b (.ptr σ) (some x) => some (.eref b σ [x] 0 f)
  | _ => none

/-- A slice as a list of typed elements, its name if it is one's own and whole, and whether what is appended goes elsewhere. -/
def sliceOf (m : Mem) (τ : Ty) : D → Option (Bool × List τ.T)
  | .c .nils => some (false, [])
  | .c (.ty b (.sl σ) xs) => if h : σ = τ then some (b, cast (congrArg (fun s => List (Ty.T s)) h) xs) else none
  | .c (.mfull n) => match look n m with
    | some (.ar b _ σ xs) => if h : σ = τ then some (b, cast (congrArg (fun s => List (Ty.T s)) h) xs) else none
    | _ => none
  | .c (.msl n s l _) => match look n m with
    | some (.ar b _ σ xs) => if h : σ = τ then some (b, ((cast (congrArg (fun s => List (Ty.T s)) h) xs).drop s).take l) else none
    | _ => none
  | _ => none

/-- The first argument of an append: nil; a whole row of one's own; a front part of it; a capped one. -/
inductive Head
  | nil | own (n : Nat) | cap
def headOf : D → Option Head
  | .c .nils => some .nil
  | .c (.mfull n) => some (.own n)
  | .c (.msl n 0 _ false) => some (.own n)
  | .c (.msl _ _ _ true) => some .cap
  | _ => none

def lenD (m : Mem) : D → Option D
  | .c .nils => some (.c (.ty false (.int .i64) 0))
  | .c (.ty _ (.sl _) xs) => some (.c (.ty false (.int .i64) (xs.length : Int)))
  | .c (.mfull n) => match look n m with
    | some (.ar _ _ _ xs) => some (.c (.ty false (.int .i64) (xs.length : Int)))
    | _ => none
  | .c (.msl _ _ l _) => some (.c (.ty false (.int .i64) (l : Int)))
  | _ => none

/-- Names that are frozen, and what that makes of a value. -/
def freezeAll : List Nat → St × D → St × D
  | [], p => p
  | n :: r, (s, d) => match look n s.m with
    | some mb => freezeAll r (s.freeze n, d.freeze n mb)
    | none => freezeAll r (s, d)

def C.name : C → List Nat
  | .mfull n => [n]
  | .msl n _ _ _ => [n]
  | _ => []
def D.names : D → List Nat
  | .c x => x.name
  | .agg l => l.flatMap C.name
  | _ => []

end Go.PI
