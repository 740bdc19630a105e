/- The types' table, and the operations that only read. -/
import Derived.Test.YtnhiplibodkciaaPIf
import Derived.Laws.StructEq
import Derived.Maps.AppendAt
namespace Go.PI
open Go.RowKit

/-- The zero value's cells. -/
def zeroV : Ty → List Value
  | .unit => []
  | .bool => [.bool false]
  | .int k => [.int k 0]
  | .str => [.string ByteArray.empty]
  | .pair a b => zeroV a ++ zeroV b
  | .st a => zeroV a
  | .arr n a => (List.replicate n (zeroV a)).flatten
  | .sl _ => [.slice none 0 0]
  | .ptr _ => [.pointer none]
  | .chain _ => [.pointer none]

def valOf (τ : Ty) (cs : List Value) : Value := bif τ.isAgg then .agg cs.toArray else cs.getD 0 undef

def aggD : TypeDesc → Bool
  | .struct _ => true
  | .array _ _ => true
  | _ => false

/-- What a row of the table says is so. -/
def TOk (P : Program) (t : Nat) (ti : TI) : Prop := ∃ info d, P.info? t = some info ∧ P.underlying t = some d ∧ info.size = ti.ty.sz ∧ info.bytes = ti.bytes ∧ info.zero = some (valOf ti.ty (zeroV ti.ty)) ∧ aggD d = ti.ty.isAgg ∧
  (match ti.ty with
  | .bool => d = .bool
  | .int k => d = .int k
  | .str => d = .string
  | _ => True) ∧
  match ti.d with
  | .sl e => d = .slice e
  | .st l => ∃ fs : Array Field, d = .struct fs ∧ fs.toList.map (fun f => (f.offset, f.type)) = l ∧ (fs.toList.mapM (fun f => (P.info? f.type).map fun i => (f.offset, i.size))).isSome = true
  | .ar n e => d = .array n e
  | .pt e => d = .pointer e
  | .oth => True

def TbOk (P : Program) (tb : Nat → Option TI) : Prop := ∀ t ti, tb t = some ti → TOk P t ti

theorem sz_one {τ : Ty} (h : τ.isAgg = false) : τ.sz = 1 := by cases τ <;> first | rfl | (simp [Ty.isAgg] at h)

theorem K.vk {I : Nat → Prop} {w : World} {τ : Ty} {x : τ.T} {cs : List Value} (h : K I w τ x cs) : VK I w τ x (valOf τ cs) := by
  unfold valOf
  refine ⟨fun e => ⟨cs, by rw [e]; rfl, h⟩, fun e => ?_⟩
  have hl := h.length
  rw [sz_one e] at hl
  match cs, hl with
  | [v], _ => rw [e]; exact h

theorem VK.cells {I : Nat → Prop} {w : World} {τ : Ty} {x : τ.T} {v : Value} (h : VK I w τ x v) : K I w τ x v.cells.toList := by
  cases e : τ.isAgg with
  | true => obtain ⟨cs, rfl, hk⟩ := h.1 e; simpa [Value.cells] using hk
  | false =>
    have hk := h.2 e
    have h1 := hk.one v (by simp)
    have : v.cells = #[v] := by cases v <;> first | rfl | (simp [Value.oneCell'] at h1)
    rw [this]
    exact hk

theorem VK.val {I : Nat → Prop} {w : World} {τ : Ty} {x : τ.T} {v : Value} (h : VK I w τ x v) : v = valOf τ v.cells.toList := by
  unfold valOf
  cases e : τ.isAgg with
  | true => obtain ⟨cs, rfl, hk⟩ := h.1 e; simp [Value.cells]
  | false =>
    have h1 := (h.2 e).one v (by simp)
    have : v.cells = #[v] := by cases v <;> first | rfl | (simp [Value.oneCell'] at h1)
    rw [this]; rfl

variable {P : Program} {tb : Nat → Option TI}

theorem run_sizeOf' {t : Nat} {ti : TI} (h : TOk P t ti) (w : World) : (sizeOf t).run P w = .ok ti.ty.sz w := by
  obtain ⟨info, d, h1, _, h3, _⟩ := h
  simp [sizeOf, typeInfo, h1, h3]

theorem run_isAgg' {t : Nat} {ti : TI} (h : TOk P t ti) (w : World) : (isAgg t).run P w = .ok ti.ty.isAgg w := by
  obtain ⟨info, d, _, h2, _, _, _, h6, _⟩ := h
  rw [← h6]
  cases d <;> simp [isAgg, run_underlying h2, aggD]

theorem run_zero' {t : Nat} {ti : TI} (h : TOk P t ti) (w : World) : (zeroValue t).run P w = .ok (valOf ti.ty (zeroV ti.ty)) w := by
  obtain ⟨info, d, h1, _, _, _, h5, _⟩ := h
  simp [zeroValue, typeInfo, h1, h5]

theorem run_loadVar' {t : Nat} {ti : TI} (h : TOk P t ti) (w : World) (b o : Nat) (cs : List Value) (hl : cs.length = ti.ty.sz) (hc : ∀ j u, cs[j]? = some u → w.cell? ⟨b, o + j, none⟩ = some u) :
    (loadVar t ⟨b, o, none⟩).run P w = .ok (valOf ti.ty cs) w := by
  unfold loadVar valOf
  simp only [Sem.run_bind, run_isAgg' h, Result.andThen_ok]
  cases e : ti.ty.isAgg with
  | true =>
    simp only [if_true, Sem.run_bind, run_sizeOf' h, Result.andThen_ok]
    have := run_loadCells_list (P := P) w ⟨b, o, none⟩ cs (fun j v hv => by rw [Addr.add_lit]; exact hc j v hv)
    rw [hl] at this
    rw [this]
    rfl
  | false =>
    rw [sz_one e] at hl
    match cs, hl with
    | [v], _ =>
      have := hc 0 v rfl
      simp only [Nat.add_zero] at this
      simp [this]

/-- An operation that comes to a value. -/
theorem wp_value {o : Oper} {a : Act} {w w' : World} {v : Value} {K : Act → World → Prop} {Q : Exit → Act → World → Prop} (h : (execOp a.eval o).run P w = .ok (.value v) w') (hk : K (a.put o.dst v) w') : o.wp P a w K Q := by
  unfold Oper.wp
  rw [h]
  exact hk

theorem onB_run {α : Type} {μ : Nm} {I : Bool → Nat → Prop} {w : World} {sh : Sh} {d : D} {v : Value} (h : RD μ I w sh d v) {x y : Br α} {r : α} (hr : (onB d x y).run = some r) : ∃ b : Bool, v = .bool b ∧ (if b = true then x else y).run = some r := by
  unfold onB at hr
  split at hr
  · exact ⟨true, h, hr⟩
  · exact ⟨false, h, hr⟩
  · rename_i t b
    have hv : v = .bool b := by
      have := h.2 rfl
      simpa [K] using this
    refine ⟨b, hv, ?_⟩
    cases b <;> exact hr
  · cases hr

theorem CellsAt.get {w : World} {ad : Addr} {cells : List Value} (h : CellsAt w ad cells) (o n : Nat) : ∀ j u, ((cells.drop o).take n)[j]? = some u → w.cell? ⟨ad.block, ad.off + o + j, none⟩ = some u := by
  intro j u hu
  rw [List.getElem?_take] at hu
  split at hu
  · rw [List.getElem?_drop] at hu
    have := h.2 _ _ hu
    rwa [← Nat.add_assoc] at this
  · cases hu

theorem cell_cur {w : World} {b : Nat} {cur : Array Value} {e : TypeId} {f : Nat × Nat} (h : w.heap[b]? = some (.cells cur e f)) (j : Nat) : w.cell? ⟨b, j, none⟩ = cur.toList[j]? := by
  rw [cell_of_row w b j cur e f h]
  simp

theorem row_piece {α : Type} {R : α → List Value → Prop} {z : Nat} {xs : List α} {cells : List Value} (h : Row R z xs cells) (d : α) {i : Nat} (hi : i < xs.length) : R (xs.getD i d) (piece z cells i) := by
  have := h.2 i _ (List.getElem?_eq_getElem hi)
  simpa [List.getD, hi] using this

theorem drop_take_piece (cells : List Value) (z i o n : Nat) (h : o + n ≤ z) : ((piece z cells i).drop o).take n = (cells.drop (i * z + o)).take n := by
  unfold piece
  rw [List.drop_take, List.take_take, List.drop_drop, Nat.min_eq_left (by omega)]

theorem drop_take_take (l : List Value) (o n m : Nat) (h : o + n ≤ m) : ((l.take m).drop o).take n = (l.drop o).take n := by
  rw [List.drop_take, List.take_take, Nat.min_eq_left (by omega)]

variable {g : Cfg} {s : St} {a : Act} {w : World} {μ : Nm} {I : Bool → Nat → Prop}

theorem shp_look {m : Mem} {n : Nat} {mb : MB} (h : look n m = some mb) : shp m n = some mb.shape := by simp [shp, h]

/-- A load. -/
theorem load_ok {m : Mem} (h : MRel g m w μ I) {t : Nat} {ti : TI} (ht : TOk P t ti) {p : C} {v : Value} (hp : RC μ I w (shp m) p v) {d : D} (hd : loadD m ti.ty p = some d) :
    ∃ v', (Instr.loadAt t v).run P w = .ok v' w ∧ RD μ I w (shp m) d v' := by
  unfold loadD at hd
  split at hd
  · rename_i n i o
    obtain ⟨b, q, len, z, e1, e2, hi, rfl⟩ := hp
    split at hd
    · rename_i tt σ x hl
      obtain ⟨f, hf, rfl⟩ := Option.map_eq_some_iff.1 hd
      rcases h.mem n _ hl with ⟨b', q', e3, cur, el, hh, hq, hk⟩ | ⟨_, _, _, _, e3⟩
      · rw [e1] at e3
        obtain ⟨rfl, rfl⟩ := Prod.mk.inj (Option.some.inj e3)
        rw [shp_look hl] at e2
        obtain ⟨rfl, rfl⟩ := Prod.mk.inj (Option.some.inj e2)
        obtain rfl : i = 0 := by omega
        obtain ⟨r1, r2⟩ := sub_K hf hk
        refine ⟨_, ?_, r2.vk⟩
        simp only [Instr.loadAt, Instr.sureAddr, Sem.run_bind, Sem.run_pure, Result.andThen_ok, Nat.zero_mul, Nat.zero_add]
        exact run_loadVar' ht w b o _ r2.length (fun j u hu => by
          rw [cell_cur hh]
          rw [List.getElem?_take] at hu
          split at hu
          · rwa [List.getElem?_drop] at hu
          · cases hu)
      · cases e3
    · rename_i tt e' σ xs hl
      obtain ⟨f, hf, rfl⟩ := Option.map_eq_some_iff.1 hd
      rcases h.mem n _ hl with ⟨b', q', e3, cur, el, hh, hq, _, cap, hcap, _, _, hk⟩ | ⟨e3, _⟩
      · rw [e1] at e3
        obtain ⟨rfl, rfl⟩ := Prod.mk.inj (Option.some.inj e3)
        rw [shp_look hl] at e2
        obtain ⟨rfl, rfl⟩ := Prod.mk.inj (Option.some.inj e2)
        have hpc := row_piece hk σ.zero hi
        obtain ⟨r1, r2⟩ := sub_K hf hpc
        refine ⟨_, ?_, r2.vk⟩
        have hle : (i + 1) * σ.sz ≤ xs.length * σ.sz := Nat.mul_le_mul_right _ hi
        rw [Nat.add_mul] at hle
        rw [drop_take_piece _ _ _ _ _ r1, drop_take_take _ _ _ _ (by omega)] at r2 ⊢
        simp only [Instr.loadAt, Instr.sureAddr, Sem.run_bind, Sem.run_pure, Result.andThen_ok]
        exact run_loadVar' ht w b _ _ r2.length (fun j u hu => by
          rw [cell_cur hh]
          rw [List.getElem?_take] at hu
          split at hu
          · rwa [List.getElem?_drop] at hu
          · cases hu)
      · rw [e1] at e3; cases e3
    · rename_i l hl
      rcases h.mem n _ hl with ⟨b', q', e3, cur, el, hh, hq, hk, h1⟩ | ⟨_, _, _, _, e3⟩
      · rw [e1] at e3
        obtain ⟨rfl, rfl⟩ := Prod.mk.inj (Option.some.inj e3)
        rw [shp_look hl] at e2
        obtain ⟨rfl, rfl⟩ := Prod.mk.inj (Option.some.inj e2)
        obtain rfl : i = 0 := by omega
        have hlen := hk.1
        have hget : ∀ (cs : List Value), cs = (cur.toList.drop o).take ti.ty.sz → cs.length = ti.ty.sz → (Instr.loadAt t (.pointer (some ⟨b, 0 * l.length + o, none⟩))).run P w = .ok (valOf ti.ty cs) w := by
          intro cs hcs hcl
          simp only [Instr.loadAt, Instr.sureAddr, Sem.run_bind, Sem.run_pure, Result.andThen_ok, Nat.zero_mul, Nat.zero_add]
          exact run_loadVar' ht w b o cs hcl (fun j u hu => by
            rw [cell_cur hh]
            rw [hcs, List.getElem?_take] at hu
            split at hu
            · rwa [List.getElem?_drop] at hu
            · cases hu)
        cases ea : ti.ty.isAgg with
        | true =>
          simp only [ea, cond_true] at hd
          cases ed : decide (o + ti.ty.sz ≤ l.length) with
          | false => simp only [ed, cond_false] at hd; cases hd
          | true =>
            simp only [ed, cond_true] at hd
            obtain rfl := Option.some.inj hd
            have hle := of_decide_eq_true ed
            refine ⟨_, hget _ rfl (by rw [List.length_take, List.length_drop]; omega), ?_⟩
            unfold valOf
            rw [ea]
            refine ⟨_, rfl, ⟨by simp only [List.length_take, List.length_drop]; omega, ?_⟩, fun u hu => h1 u (List.mem_of_mem_drop (List.mem_of_mem_take hu))⟩
            intro j c v hc hv
            rw [List.getElem?_take] at hc hv
            split at hc
            · rename_i hj
              rw [if_pos hj] at hv
              rw [List.getElem?_drop] at hc hv
              exact hk.2 _ _ _ hc hv
            · cases hc
        | false =>
          simp only [ea, cond_false] at hd
          obtain ⟨c, hc, rfl⟩ := Option.map_eq_some_iff.1 hd
          have hol : o < l.length := (List.getElem?_eq_some_iff.1 hc).1
          have hz := sz_one ea
          have hcur : cur.toList[o]? = some cur.toList[o] := List.getElem?_eq_getElem (by omega)
          refine ⟨_, hget [cur.toList[o]] ?_ (by rw [hz]; rfl), ?_⟩
          · rw [hz]
            rw [List.drop_eq_getElem_cons (by omega : o < cur.toList.length)]; rfl
          · unfold valOf
            rw [ea]
            exact hk.2 o c _ hc hcur
      · cases e3
    · cases hd
  · rename_i tt σ xs i o
    obtain ⟨f, hf, rfl⟩ := Option.map_eq_some_iff.1 hd
    obtain ⟨ad, cells, rfl, hi, hI, hc, hr⟩ := hp
    have hpc := row_piece hr σ.zero hi
    obtain ⟨r1, r2⟩ := sub_K hf hpc
    refine ⟨_, ?_, r2.vk⟩
    rw [drop_take_piece _ _ _ _ _ r1] at r2 ⊢
    simp only [Instr.loadAt, Instr.sureAddr, Sem.run_bind, Sem.run_pure, Result.andThen_ok]
    exact run_loadVar' ht w _ _ _ r2.length (hc.get _ _)
  · rename_i tt σ x
    obtain ⟨f, hf, rfl⟩ := Option.map_eq_some_iff.1 hd
    obtain ⟨ad, cells, hv, hI, hc, hk⟩ := hp.2 rfl
    obtain rfl : v = .pointer (some ad) := by simpa using hv
    obtain ⟨r1, r2⟩ := sub_K hf hk
    refine ⟨_, ?_, r2.vk⟩
    obtain ⟨b, o, sp⟩ := ad
    obtain rfl : sp = none := hc.1
    simp only [Instr.loadAt, Instr.sureAddr, Sem.run_bind, Sem.run_pure, Result.andThen_ok]
    exact run_loadVar' ht w b o _ r2.length (hc.get 0 _)
  · cases hd

end Go.PI
