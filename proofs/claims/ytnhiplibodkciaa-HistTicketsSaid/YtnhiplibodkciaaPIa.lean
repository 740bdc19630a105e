/- The kinds of data that the pure interpreter knows, how cells of memory read as them, and that such a reading lives on while its blocks stay. -/
import Derived.RowKit3
import Derived.Below
namespace Go.PI
open Go.RowKit

/-- Kinds of data. 'st' wraps a struct's fields (in line by 'pair'); 'ptr' is a pointer to what never turns; 'chain' a linked list of {x, rest, n}. -/
inductive Ty
  | unit | bool | int (k : IntKind) | str
  | pair (a b : Ty) | st (a : Ty) | arr (n : Nat) (a : Ty)
  | sl (a : Ty) | ptr (a : Ty) | chain (a : Ty)
  deriving DecidableEq

@[reducible] def Ty.T : Ty → Type
  | .unit => Unit
  | .bool => Bool
  | .int _ => Int
  | .str => ByteArray
  | .pair a b => a.T × b.T
  | .st a => a.T
  | .arr _ a => List a.T
  | .sl a => List a.T
  | .ptr a => Option a.T
  | .chain a => List a.T

/-- How many cells a value takes. -/
def Ty.sz : Ty → Nat
  | .unit => 0
  | .pair a b => a.sz + b.sz
  | .st a => a.sz
  | .arr n a => n * a.sz
  | _ => 1

/-- Is a value of it a row of cells ('.agg')? -/
def Ty.isAgg : Ty → Bool
  | .unit => true
  | .pair _ _ => true
  | .st _ => true
  | .arr _ _ => true
  | _ => false

def Ty.zero : (τ : Ty) → τ.T
  | .unit => ()
  | .bool => false
  | .int _ => (0 : Int)
  | .str => ByteArray.empty
  | .pair a b => (a.zero, b.zero)
  | .st a => a.zero
  | .arr n a => List.replicate n a.zero
  | .sl _ => []
  | .ptr _ => none
  | .chain _ => []

/-- The i-th piece of z cells. -/
def piece (z : Nat) (cells : List Value) (i : Nat) : List Value := (cells.drop (i * z)).take z

/-- A row of cells reads as a list of things, each by R. -/
def Row {α : Type} (R : α → List Value → Prop) (z : Nat) (xs : List α) (cells : List Value) : Prop :=
  cells.length = xs.length * z ∧ ∀ i x, xs[i]? = some x → R x (piece z cells i)

/-- Cells in memory from an address on. -/
def CellsAt (w : World) (ad : Addr) (cells : List Value) : Prop :=
  ad.spot = none ∧ ∀ j u, cells[j]? = some u → w.cell? ⟨ad.block, ad.off + j, none⟩ = some u

/-- A number that its kind can hold. -/
def InK (k : IntKind) (n : Int) : Prop := k.min ≤ n ∧ n ≤ k.max

theorem inK_wrap (k : IntKind) (e : Int) : InK k (k.wrap e) := by
  unfold InK
  cases k <;> simp [IntKind.wrap, IntKind.min, IntKind.max, IntKind.signed, IntKind.bits] <;> (try split) <;> omega

/-- A linked list's pointer. -/
def ChainK {α : Type} (I : Nat → Prop) (w : World) (R : α → List Value → Prop) (z : Nat) : List α → Value → Prop
  | [], v => v = .pointer none
  | x :: l, v => ∃ ad cx r, v = .pointer (some ad) ∧ I ad.block ∧ cx.length = z ∧ R x cx ∧ CellsAt w ad (cx ++ [r, .int .i64 (l.length + 1 : Nat)]) ∧ l.length < 9223372036854775807 ∧ ChainK I w R z l r

/-- Cells read as a value of a kind; whatever lies behind pointers lies in blocks of I. -/
def K (I : Nat → Prop) (w : World) : (τ : Ty) → τ.T → List Value → Prop
  | .unit, _, cs => cs = []
  | .bool, b, cs => cs = [.bool b]
  | .int k, n, cs => cs = [.int k n] ∧ InK k n
  | .str, s, cs => cs = [.string s] ∧ s.size ≤ 9223372036854775807
  | .pair a b, x, cs => ∃ c1 c2, cs = c1 ++ c2 ∧ K I w a x.1 c1 ∧ K I w b x.2 c2
  | .st a, x, cs => K I w a x cs
  | .arr n a, xs, cs => xs.length = n ∧ Row (K I w a) a.sz xs cs
  | .sl a, xs, cs => ∃ A cap, cs = [.slice A xs.length cap] ∧ xs.length ≤ cap ∧ cap ≤ 9223372036854775807 ∧
      (xs ≠ [] → ∃ ad cells, A = some ad ∧ I ad.block ∧ CellsAt w ad cells ∧ Row (K I w a) a.sz xs cells)
  | .ptr a, o, cs => match o with
    | none => cs = [.pointer none]
    | some x => ∃ ad cells, cs = [.pointer (some ad)] ∧ I ad.block ∧ CellsAt w ad cells ∧ K I w a x cells
  | .chain a, l, cs => ∃ v, cs = [v] ∧ ChainK I w (K I w a) a.sz l v

theorem piece_length {z : Nat} {cells : List Value} {i n : Nat} (h : cells.length = n * z) (hi : i < n) : (piece z cells i).length = z := by
  unfold piece
  rw [List.length_take, List.length_drop, h]
  have : (i + 1) * z ≤ n * z := Nat.mul_le_mul_right _ hi
  rw [Nat.add_mul] at this
  omega

theorem Row.imp {α : Type} {R R' : α → List Value → Prop} {z : Nat} {xs : List α} {cells : List Value} (h : Row R z xs cells) (hR : ∀ x c, R x c → R' x c) : Row R' z xs cells :=
  ⟨h.1, fun i x hx => hR _ _ (h.2 i x hx)⟩

theorem K.length {I : Nat → Prop} {w : World} : ∀ {τ : Ty} {x : τ.T} {cs : List Value}, K I w τ x cs → cs.length = τ.sz
  | .unit, _, _, h => by rw [show _ = [] from h]; rfl
  | .bool, _, _, h => by rw [show _ = [_] from h]; rfl
  | .int _, _, _, h => by rw [show _ = [_] from h.1]; rfl
  | .str, _, _, h => by rw [show _ = [_] from h.1]; rfl
  | .pair a b, _, _, h => by
    obtain ⟨c1, c2, rfl, h1, h2⟩ := h
    rw [List.length_append, K.length h1, K.length h2]; rfl
  | .st a, _, _, h => K.length (τ := a) h
  | .arr n a, _, _, h => by
    obtain ⟨h1, h2⟩ := h
    rw [h2.1, h1]; rfl
  | .sl a, _, _, h => by obtain ⟨_, _, rfl, _⟩ := h; rfl
  | .ptr a, none, _, h => by rw [show _ = [_] from h]; rfl
  | .ptr a, some x, _, h => by obtain ⟨_, _, rfl, _⟩ := h; rfl
  | .chain a, _, _, h => by obtain ⟨_, rfl, _⟩ := h; rfl

/-- Blocks of I hold in w' what they held in w. -/
def Stays (I : Nat → Prop) (w w' : World) : Prop := ∀ b, I b → w'.heap[b]? = w.heap[b]?

theorem CellsAt.stays {I : Nat → Prop} {w w' : World} (hs : Stays I w w') {ad : Addr} {cells : List Value} (h : CellsAt w ad cells) (hI : I ad.block) : CellsAt w' ad cells := by
  refine ⟨h.1, fun j u hu => ?_⟩
  have := h.2 j u hu
  rw [← this]
  exact World.cell?_of_block (w := w) (hs _ hI)

theorem ChainK.mono {α : Type} {I I' : Nat → Prop} {w w' : World} {R R' : α → List Value → Prop} {z : Nat} (hI : ∀ b, I b → I' b) (hs : Stays I w w') (hR : ∀ x c, R x c → R' x c) :
    ∀ {l : List α} {v : Value}, ChainK I w R z l v → ChainK I' w' R' z l v
  | [], _, h => h
  | x :: l, v, ⟨ad, cx, r, h1, h2, h3, h4, h5, h6, h7⟩ => ⟨ad, cx, r, h1, hI _ h2, h3, hR _ _ h4, h5.stays hs h2, h6, ChainK.mono hI hs hR h7⟩

theorem K.mono {I I' : Nat → Prop} {w w' : World} (hI : ∀ b, I b → I' b) (hs : Stays I w w') : ∀ {τ : Ty} {x : τ.T} {cs : List Value}, K I w τ x cs → K I' w' τ x cs
  | .unit, _, _, h => h
  | .bool, _, _, h => h
  | .int _, _, _, h => h
  | .str, _, _, h => h
  | .pair a b, _, _, ⟨c1, c2, h0, h1, h2⟩ => ⟨c1, c2, h0, K.mono hI hs h1, K.mono hI hs h2⟩
  | .st a, _, _, h => K.mono (τ := a) hI hs h
  | .arr n a, _, _, ⟨h1, h2⟩ => ⟨h1, h2.imp fun _ _ h => K.mono hI hs h⟩
  | .sl a, _, _, ⟨A, cap, h1, h2, h3, h4⟩ => ⟨A, cap, h1, h2, h3, fun hn => by
      obtain ⟨ad, cells, e, hi, hc, hr⟩ := h4 hn
      exact ⟨ad, cells, e, hI _ hi, hc.stays hs hi, hr.imp fun _ _ h => K.mono hI hs h⟩⟩
  | .ptr a, none, _, h => h
  | .ptr a, some x, _, ⟨ad, cells, h1, h2, h3, h4⟩ => ⟨ad, cells, h1, hI _ h2, h3.stays hs h2, K.mono hI hs h4⟩
  | .chain a, _, _, ⟨v, h1, h2⟩ => ⟨v, h1, h2.mono hI hs fun _ _ h => K.mono hI hs h⟩

/-- Each cell holds what one cell may hold. -/
theorem K.one {I : Nat → Prop} {w : World} : ∀ {τ : Ty} {x : τ.T} {cs : List Value}, K I w τ x cs → ∀ u ∈ cs, u.oneCell' = true
  | .unit, _, _, h => by rw [show _ = [] from h]; simp
  | .bool, _, _, h => by rw [show _ = [_] from h]; simp [Value.oneCell']
  | .int _, _, _, h => by rw [show _ = [_] from h.1]; simp [Value.oneCell']
  | .str, _, _, h => by rw [show _ = [_] from h.1]; simp [Value.oneCell']
  | .pair a b, _, _, h => by
    obtain ⟨c1, c2, rfl, h1, h2⟩ := h
    intro u hu
    rcases List.mem_append.1 hu with hu | hu
    · exact K.one h1 u hu
    · exact K.one h2 u hu
  | .st a, _, _, h => K.one (τ := a) h
  | .arr n a, xs, cs, h => by
    obtain ⟨h1, h2⟩ := h
    intro u hu
    obtain ⟨j, hj, rfl⟩ := List.mem_iff_getElem.1 hu
    have hz : 0 < a.sz := by
      rcases Nat.eq_zero_or_pos a.sz with hz | hz
      · rw [h2.1, hz] at hj; simp at hj
      · exact hz
    have hlt : j / a.sz < xs.length := by
      rw [Nat.div_lt_iff_lt_mul hz]; rw [h2.1] at hj; exact hj
    have hk := h2.2 (j / a.sz) _ (List.getElem?_eq_getElem hlt)
    refine K.one hk _ ?_
    unfold piece
    rw [List.mem_iff_getElem?]
    refine ⟨j % a.sz, ?_⟩
    rw [List.getElem?_take, if_pos (Nat.mod_lt _ hz), List.getElem?_drop, Nat.mul_comm, Nat.div_add_mod, List.getElem?_eq_getElem hj]
  | .sl a, _, _, h => by obtain ⟨_, _, rfl, _⟩ := h; simp [Value.oneCell']
  | .ptr a, none, _, h => by rw [show _ = [_] from h]; simp [Value.oneCell']
  | .ptr a, some x, _, h => by obtain ⟨_, _, rfl, _⟩ := h; simp [Value.oneCell']
  | .chain a, l, _, h => by
    obtain ⟨v, rfl, h⟩ := h
    cases l with
    | nil => rw [show v = _ from h]; simp [Value.oneCell']
    | cons x l => obtain ⟨_, _, _, rfl, _⟩ := h; simp [Value.oneCell']

end Go.PI
