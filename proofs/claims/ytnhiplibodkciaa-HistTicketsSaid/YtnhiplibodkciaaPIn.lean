/- Structs and slices that are written out, made, appended to. -/
import Derived.Test.YtnhiplibodkciaaPIm
namespace Go.PI
open Go.RowKit

variable {P : Program} {c : Ctx} {g : Cfg} {s st : St} {a : Act} {w : World} {μ : Nm} {I : Bool → Nat → Prop}

theorem mapM_get {α β : Type} {f : α → Option β} : ∀ {l : List α} {r : List β}, l.mapM f = some r → ∀ (i : Nat) (x : α), l[i]? = some x → ∃ y, f x = some y ∧ r[i]? = some y
  | [], r, h, i, x, hx => by simp at hx
  | z :: l, r, h, i, x, hx => by
    simp only [List.mapM_cons, Option.bind_eq_bind, Option.bind_eq_some_iff, Option.pure_def] at h
    obtain ⟨y, hy, r', hr', e⟩ := h
    obtain rfl := Option.some.inj e
    cases i with
    | zero => obtain rfl : z = x := by simpa using hx
              exact ⟨y, hy, rfl⟩
    | succ i => simpa using mapM_get hr' i x (by simpa using hx)

theorem foldSet (off : Nat) : ∀ (vs : List Value) (k : Nat) (cells : Array Value), off + k + vs.length ≤ cells.size →
    ((vs.zipIdx k).foldl (fun cs (c, j) => cs.setIfInBounds (off + j) c) cells).toList = splice cells.toList (off + k) vs
  | [], k, cells, h => by simp [splice]
  | v :: r, k, cells, h => by
    simp only [List.zipIdx_cons, List.foldl_cons]
    simp only [List.length_cons] at h
    rw [foldSet off r (k + 1) (cells.setIfInBounds (off + k) v) (by rw [Array.size_setIfInBounds]; omega)]
    apply List.ext_getElem?
    intro j
    simp only [splice, Array.toList_setIfInBounds, List.getElem?_append, List.getElem?_take, List.getElem?_drop, List.getElem?_set, List.length_append, List.length_take, List.length_drop, List.length_set, List.length_cons, Array.length_toList]
    have m1 : min (off + (k + 1)) cells.size = off + k + 1 := by omega
    have m2 : min (off + k) cells.size = off + k := by omega
    rw [m1, m2]
    by_cases h1 : j < off + k
    · rw [if_pos (by omega), if_pos (by omega), if_pos (by omega), if_neg (by omega), if_pos (by omega), if_pos (by omega), if_pos (by omega)]
    · by_cases h2 : j = off + k
      · subst h2
        rw [if_pos (by omega), if_pos (by omega), if_pos (by omega), if_pos rfl, if_pos (by omega), if_pos (by omega), if_neg (by omega), Nat.sub_self]
        rfl
      · by_cases h3 : j < off + k + 1 + r.length
        · rw [if_pos (by omega), if_neg (by omega), if_pos (by omega), if_neg (by omega)]
          have : j - (off + k) = (j - (off + k + 1)) + 1 := by omega
          rw [this, List.getElem?_cons_succ]
        · rw [if_neg (by omega), if_neg (by omega), if_neg (by omega)]
          congr 1
          omega

theorem fill_step {place : Nat → Option (Nat × Nat)} {cells : Array Value} {i off size : Nat} {v : Value} {rest : List (Nat × Value)} (hp : place i = some (off, size)) (hs : v.cells.size = size) (hle : off + size ≤ cells.size) :
    ∃ cells' : Array Value, cells'.toList = splice cells.toList off v.cells.toList ∧ Instr.fill place cells ((i, v) :: rest) = Instr.fill place cells' rest := by
  have hf := foldSet off v.cells.toList 0 cells (by rw [Array.length_toList]; omega)
  refine ⟨v.cells.zipIdx.foldl (fun cs (c, j) => cs.setIfInBounds (off + j) c) cells, ?_, ?_⟩
  · rw [← Array.foldl_toList, Array.toList_zipIdx]
    exact hf
  · simp only [Instr.fill, hp]
    rw [if_neg]
    simp only [Bool.or_eq_true, decide_eq_true_eq, not_or]
    exact ⟨by simp [hs], by omega⟩

theorem place_ok (htb : TbOk P c.tb) {t i o : Nat} {σ : Ty} (hf : fieldOf c t i = some (o, σ)) :
    ∃ fs : Array Field, P.underlying t = some (.struct fs) ∧ ∃ places, fs.toList.mapM (fun f => (P.info? f.type).map fun i => (f.offset, i.size)) = some places ∧ places.toArray[i]? = some (o, σ.sz) ∧ ∃ f u, fs.toList[i]? = some f ∧ f.offset = o ∧ f.type = u ∧ ∃ ti, c.tb u = some ti ∧ ti.ty = σ := by
  unfold fieldOf at hf
  split at hf
  · rename_i τ by_ l ht
    split at hf
    · rename_i o' u hl
      split at hf
      · rename_i ti hu
        obtain ⟨rfl, rfl⟩ := Prod.mk.inj (Option.some.inj hf)
        obtain ⟨info, d, _, h2, _, _, _, _, _, fs, rfl, hmap, hsome⟩ := htb _ _ ht
        obtain ⟨places, hp⟩ := Option.isSome_iff_exists.1 hsome
        refine ⟨fs, h2, places, hp, ?_⟩
        rw [← hmap, List.getElem?_map] at hl
        obtain ⟨f, hfi, e⟩ := Option.map_eq_some_iff.1 hl
        obtain ⟨rfl, rfl⟩ := Prod.mk.inj e
        obtain ⟨y, hy, hpi⟩ := mapM_get hp i f hfi
        obtain ⟨info', d', k1, _, k3, _⟩ := htb _ _ hu
        rw [k1] at hy
        obtain rfl := Option.some.inj hy
        refine ⟨by rw [← k3]; simpa using hpi, f, _, hfi, rfl, rfl, ti, hu, rfl⟩
      · cases hf
    · cases hf
  · cases hf

theorem buildT_ok (htb : TbOk P c.tb) (h : Rel g s a w μ I) {t : Nat} {τ : Ty} {fs : Array Field} (hu : P.underlying t = some (.struct fs)) {places : List (Nat × Nat)} (hpl : fs.toList.mapM (fun f => (P.info? f.type).map fun i => (f.offset, i.size)) = some places) :
    ∀ (ps : List (Nat × Operand)) {b b' : Bool} {y y' : τ.T} {cells : Array Value}, K (I b) w τ y cells.toList → buildT c s t τ ps (b, y) = some (b', y') →
      ∃ cells', Instr.fill (places.toArray[·]?) cells (ps.map fun (i, x) => (i, a.eval x)) = some cells' ∧ K (I b') w τ y' cells'.toList
  | [], b, b', y, y', cells, hk, hb => by
    simp only [buildT] at hb
    obtain ⟨rfl, rfl⟩ := Prod.mk.inj (Option.some.inj hb)
    exact ⟨cells, rfl, hk⟩
  | (i, x) :: r, b, b', y, y', cells, hk, hb => by
    simp only [buildT] at hb
    split at hb
    · rename_i o σ hf
      split at hb
      · rename_i b1 z gput hz hput
        obtain ⟨fs', hu', places', hpl', hpi, _⟩ := place_ok htb hf
        rw [hu] at hu'
        obtain rfl : fs = fs' := by injection hu' with e; injection e
        rw [hpl] at hpl'
        obtain rfl := Option.some.inj hpl'
        have vk := (asTy_ok h.isub hz (eval_opd h x)).cells
        have om := or_mono h.isub b b1
        obtain ⟨r1, r2⟩ := put_K hput (hk.up om.1) (vk.up om.2)
        have hvs : (a.eval x).cells.size = σ.sz := by have := vk.length; rwa [Array.length_toList] at this
        have hcs : cells.size = τ.sz := Array.length_toList.symm.trans hk.length
        obtain ⟨cells', e1, e2⟩ := fill_step (place := fun j => places.toArray[j]?) (cells := cells) (rest := r.map fun (i, x) => (i, a.eval x)) hpi hvs (by omega)
        obtain ⟨cells'', e3, e4⟩ := buildT_ok htb h hu hpl r (cells := cells') (by rw [e1]; exact r2) hb
        exact ⟨cells'', by rw [List.map_cons, e2]; exact e3, e4⟩
      · cases hb
    · cases hb

theorem buildC_ok (htb : TbOk P c.tb) (h : Rel g s a w μ I) {t : Nat} {fs : Array Field} (hu : P.underlying t = some (.struct fs)) {places : List (Nat × Nat)} (hpl : fs.toList.mapM (fun f => (P.info? f.type).map fun i => (f.offset, i.size)) = some places) :
    ∀ (ps : List (Nat × Operand)) {l l' : List C} {cells : Array Value}, RL μ I w (shp s.m) l cells.toList → (∀ u ∈ cells.toList, u.oneCell' = true) → buildC c s t ps l = some l' →
      ∃ cells', Instr.fill (places.toArray[·]?) cells (ps.map fun (i, x) => (i, a.eval x)) = some cells' ∧ RL μ I w (shp s.m) l' cells'.toList ∧ ∀ u ∈ cells'.toList, u.oneCell' = true
  | [], l, l', cells, hk, h1, hb => by
    simp only [buildC] at hb
    obtain rfl := Option.some.inj hb
    exact ⟨cells, rfl, hk, h1⟩
  | (i, x) :: r, l, l', cells, hk, h1, hb => by
    simp only [buildC] at hb
    split at hb
    · rename_i o σ hf
      split at hb
      · rename_i k hkc
        cases hd : (decide (k.length = σ.sz) && decide (o + k.length ≤ l.length)) with
        | false => simp only [hd, cond_false] at hb; cases hb
        | true =>
          simp only [hd, cond_true] at hb
          simp only [Bool.and_eq_true, decide_eq_true_eq] at hd
          obtain ⟨fs', hu', places', hpl', hpi, _⟩ := place_ok htb hf
          rw [hu] at hu'
          obtain rfl : fs = fs' := by injection hu' with e; injection e
          rw [hpl] at hpl'
          obtain rfl := Option.some.inj hpl'
          obtain ⟨q1, q2⟩ := cells_ok hkc (eval_opd h x)
          have hvs : (a.eval x).cells.size = σ.sz := (Array.length_toList.symm.trans q1.1.symm).trans hd.1
          have hcs : cells.size = l.length := Array.length_toList.symm.trans hk.1.symm
          obtain ⟨cells', e1, e2⟩ := fill_step (place := fun j => places.toArray[j]?) (cells := cells) (rest := r.map fun (i, x) => (i, a.eval x)) hpi hvs (by omega)
          obtain ⟨cells'', e3, e4⟩ := buildC_ok htb h hu hpl r (cells := cells') (by rw [e1]; exact hk.splice q1 o) (by rw [e1]; exact splice_one h1 q2) hb
          exact ⟨cells'', by rw [List.map_cons, e2]; exact e3, e4⟩
      · cases hb
    · cases hb

theorem build_ok (htb : TbOk P c.tb) (h : Rel g s a w μ I) {t : Nat} {parts : Array (Nat × Operand)} {d : D} (hd : buildD c s t parts.toList = some d) :
    ∃ r, (Instr.build t (parts.map fun (i, x) => (i, a.eval x))).run P w = .ok r w ∧ RD μ I w (shp s.m) d r := by
  unfold buildD at hd
  split at hd
  · rename_i τ by_ l ht
    obtain ⟨info, dd, i1, hu, _, _, hz, ha, _, fs, rfl, hmap, hsome⟩ := htb _ _ ht
    obtain ⟨places, hpl⟩ := Option.isSome_iff_exists.1 hsome
    have hagg : τ.isAgg = true := ha.symm
    have hzc : (valOf τ (zeroV τ)).cells.toList = zeroV τ := zero_cells τ
    have fin' : ∀ cells', Instr.fill (places.toArray[·]?) (valOf τ (zeroV τ)).cells (parts.toList.map fun (i, x) => (i, a.eval x)) = some cells' → (Instr.build t (parts.map fun (i, x) => (i, a.eval x))).run P w = .ok (.agg cells') w := by
      intro cells' hf
      apply run_build
      unfold Program.built
      rw [i1, hu]
      simp only [hz, hpl, Array.toList_map]
      exact hf
    have typed : ∀ b x, buildT c s t τ parts.toList (false, τ.zero) = some (b, x) → ∃ r, (Instr.build t (parts.map fun (i, x) => (i, a.eval x))).run P w = .ok r w ∧ RD μ I w (shp s.m) (.c (.ty b τ x)) r := by
      intro b x hb
      obtain ⟨cells', e1, e2⟩ := buildT_ok htb h hu hpl parts.toList (cells := (valOf τ (zeroV τ)).cells) (by rw [hzc]; exact zero_K _ _ _) hb
      refine ⟨_, fin' _ e1, ⟨fun _ => ⟨cells'.toList, rfl, e2⟩, fun e => by rw [hagg] at e; cases e⟩⟩
    have celled : (buildC c s t parts.toList (zeroC τ)).map D.agg = some d → ∃ r, (Instr.build t (parts.map fun (i, x) => (i, a.eval x))).run P w = .ok r w ∧ RD μ I w (shp s.m) d r := by
      intro hb
      obtain ⟨l', hb', rfl⟩ := Option.map_eq_some_iff.1 hb
      obtain ⟨cells', e1, e2, e3⟩ := buildC_ok htb h hu hpl parts.toList (cells := (valOf τ (zeroV τ)).cells) (by rw [hzc]; exact zeroC_ok _) (by rw [hzc]; exact (zero_K (fun _ => True) w τ).one) hb'
      exact ⟨_, fin' _ e1, cells'.toList, rfl, e2, e3⟩
    cases hc : (!τ.hasP || decide (parts.toList.length = l.length)) with
    | true =>
      simp only [hc, cond_true] at hd
      split at hd
      · rename_i b x hb
        obtain rfl := Option.some.inj hd
        exact typed b x hb
      · exact celled hd
    | false =>
      simp only [hc, cond_false] at hd
      exact celled hd
  · cases hd

/-! ### rows -/
theorem Row.setR {α : Type} {R : α → List Value → Prop} {z : Nat} {xs : List α} {cells : List Value} (h : Row R z xs cells) {i : Nat} {y : α} {k : List Value} (hi : i < xs.length) (hy : R y k) (hk : k.length = z) (hz : 0 < z) : Row R z (xs.set i y) (splice cells (i * z) k) := by
  have hle : (i + 1) * z ≤ xs.length * z := Nat.mul_le_mul_right _ hi
  rw [Nat.add_mul] at hle
  have hdiv : i * z / z = i := Nat.mul_div_cancel _ hz
  have hmod : i * z % z = 0 := Nat.mul_mod_left _ _
  refine ⟨by rw [splice_length _ _ _ (by rw [hk, h.1]; omega), List.length_set, h.1], fun j x hx => ?_⟩
  rw [List.getElem?_set] at hx
  by_cases hj : i = j
  · subst hj
    rw [if_pos rfl, if_pos hi] at hx
    obtain rfl := Option.some.inj hx
    rw [piece_splice_same z _ _ _ i _ h.1 hi hdiv hz (by rw [hmod, hk]; omega), hmod]
    have hp := piece_length h.1 hi
    have : splice (piece z cells i) 0 k = k := by
      unfold splice
      rw [List.take_zero, List.nil_append, List.drop_eq_nil_of_le (by omega), List.append_nil]
    rw [this]
    exact hy
  · rw [if_neg hj] at hx
    have hjl := (List.getElem?_eq_some_iff.1 hx).1
    rw [piece_splice_other z _ _ _ j _ h.1 hjl (by rw [hdiv]; exact hj) hz (by rw [hmod, hk]; omega) (by rw [hdiv]; exact hi)]
    exact h.2 j x hx

theorem rowD_ok (h : Rel g s a w μ I) {τ : Ty} (hz : 0 < τ.sz) : ∀ (ps : List (Nat × Operand)) {b b' : Bool} {xs xs' : List τ.T} {cells : Array Value}, Row (K (I b) w τ) τ.sz xs cells.toList → rowD s τ ps (b, xs) = some (b', xs') →
    ∃ cells', Instr.fill (fun i => some (i * τ.sz, τ.sz)) cells (ps.map fun (i, x) => (i, a.eval x)) = some cells' ∧ Row (K (I b') w τ) τ.sz xs' cells'.toList ∧ xs'.length = xs.length
  | [], b, b', xs, xs', cells, hk, hb => by
    simp only [rowD] at hb
    obtain ⟨rfl, rfl⟩ := Prod.mk.inj (Option.some.inj hb)
    exact ⟨cells, rfl, hk, rfl⟩
  | (i, x) :: r, b, b', xs, xs', cells, hk, hb => by
    simp only [rowD] at hb
    split at hb
    · rename_i b1 y hy
      cases hd : decide (i < xs.length) with
      | false => simp only [hd, cond_false] at hb; cases hb
      | true =>
        simp only [hd, cond_true] at hb
        have hi := of_decide_eq_true hd
        have vk := (asTy_ok h.isub hy (eval_opd h x)).cells
        have om := or_mono h.isub b b1
        have hvl := vk.length
        have hvs : (a.eval x).cells.size = τ.sz := Array.length_toList.symm.trans hvl
        have hle : (i + 1) * τ.sz ≤ xs.length * τ.sz := Nat.mul_le_mul_right _ hi
        rw [Nat.add_mul] at hle
        have hcs : cells.size = xs.length * τ.sz := Array.length_toList.symm.trans hk.1
        obtain ⟨cells', e1, e2⟩ := fill_step (place := fun i => some (i * τ.sz, τ.sz)) (cells := cells) (rest := r.map fun (i, x) => (i, a.eval x)) (i := i) rfl hvs (by omega)
        have hrow := (hk.imp fun _ _ k => k.up om.1).setR (i := i) (y := y) hi (vk.up om.2) hvl hz
        obtain ⟨cells'', e3, e4, e5⟩ := rowD_ok h hz r (cells := cells') (by rw [e1]; exact hrow) hb
        exact ⟨cells'', by rw [List.map_cons, e2]; exact e3, e4, by rw [e5, List.length_set]⟩
    · cases hb

end Go.PI
