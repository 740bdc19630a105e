/- What makes new blocks: variables, structs, slices, appends. -/
import Derived.Test.YtnhiplibodkciaaPIl
import Derived.Laws.MakeOwn
import Derived.Laws.NewFold
namespace Go.PI
open Go.RowKit

variable {P : Program} {c : Ctx} {g : Cfg} {s st : St} {a : Act} {w : World} {μ : Nm} {I : Bool → Nat → Prop}

/-! ### rows of zeros -/
theorem zeroV_len (τ : Ty) : (zeroV τ).length = τ.sz := (zero_K (fun _ => True) default τ).length

theorem made_row (J : Nat → Prop) (w : World) (τ : Ty) (n : Nat) (hz : 0 < τ.sz) : Row (K J w τ) τ.sz (List.replicate n τ.zero) (madeCells (zeroV τ).toArray (n * τ.sz)).toList := by
  have hl := zeroV_len τ
  have hget : ∀ j, j < n * τ.sz → (madeCells (zeroV τ).toArray (n * τ.sz)).toList[j]? = (zeroV τ)[j % τ.sz]? := by
    intro j hj
    have hm : j % τ.sz < (zeroV τ).length := by rw [hl]; exact Nat.mod_lt _ hz
    simp only [madeCells, Array.toList_map, List.getElem?_map, Array.toList_range, List.getElem?_range hj, Option.map_some, List.size_toArray, hl]
    rw [List.getElem?_eq_getElem hm]
    congr 1
    simp [hm]
  refine ⟨by simp [size_madeCells], fun i x hx => ?_⟩
  have hi : i < n := by
    have := (List.getElem?_eq_some_iff.1 hx).1
    simpa using this
  have hle : (i + 1) * τ.sz ≤ n * τ.sz := Nat.mul_le_mul_right _ hi
  rw [Nat.add_mul] at hle
  obtain rfl : τ.zero = x := by
    rw [List.getElem?_replicate, if_pos hi] at hx
    exact Option.some.inj hx
  have : piece τ.sz (madeCells (zeroV τ).toArray (n * τ.sz)).toList i = zeroV τ := by
    apply List.ext_getElem?
    intro j
    unfold piece
    rw [List.getElem?_take]
    split
    · rename_i hj
      rw [List.getElem?_drop, hget _ (by omega)]
      congr 1
      rw [Nat.mul_comm, Nat.mul_add_mod, Nat.mod_eq_of_lt hj]
    · rw [List.getElem?_eq_none (by omega)]
  rw [this]
  exact zero_K J w τ

/-! ### a variable -/
theorem C.kill_has (n : Nat) (x : C) : (x.kill n).has n = false := by
  unfold C.kill
  cases h : x.has n with
  | true => rfl
  | false => exact h

theorem RD.kill {sh sh' : Sh} {n : Nat} (hsh : ∀ k, k ≠ n → sh' k = sh k) {d : D} {v : Value} (h : RD μ I w sh d v) : RD μ I w sh' (d.kill n) v := by
  rw [D.kill_map]
  exact h.map fun c v hc => hc.kill hsh

theorem cells_kill {n : Nat} {d : D} {l : List C} (h : (d.kill n).cells = some l) : ∀ x ∈ l, x.has n = false := by
  intro x hx
  cases d with
  | c y =>
    have hy := C.kill_has n y
    simp only [D.kill] at h
    generalize y.kill n = z at h hy
    unfold D.cells at h
    split at h
    · rename_i b τ u e
      injection e with e
      subst e
      cases ha : τ.isAgg with
      | true =>
        simp only [ha, cond_true] at h
        obtain rfl := Option.some.inj h
        exact cellsC_has n x hx
      | false =>
        simp only [ha, cond_false] at h
        obtain rfl := Option.some.inj h
        obtain rfl : x = .ty b τ u := by simpa using hx
        rfl
    · cases h
    · rename_i x' _ _ e
      injection e with e
      subst e
      obtain rfl := Option.some.inj h
      obtain rfl : x = z := by simpa using hx
      exact hy
    · rename_i e; cases e
    · cases h
  | agg l0 =>
    simp only [D.kill, D.cells] at h
    obtain rfl := Option.some.inj h
    obtain ⟨y, _, rfl⟩ := List.mem_map.1 hx
    exact C.kill_has n y
  | tup l0 => simp [D.kill, D.cells] at h
  | fn f l0 => simp [D.kill, D.cells] at h
  where
  cellsC_has (n : Nat) {t : Bool} : ∀ {τ : Ty} {u : τ.T} (x : C), x ∈ cellsC t τ u → x.has n = false
    | .unit, u, x, h => by simp [cellsC] at h
    | .pair a b, u, x, h => by
      simp only [cellsC, List.mem_append] at h
      rcases h with h | h
      · exact cellsC_has n x h
      · exact cellsC_has n x h
    | .st a, u, x, h => cellsC_has n (τ := a) x h
    | .arr k a, u, x, h => by
      have main : ∀ (xs : List a.T), x ∈ manyC (cellsC t a) xs → x.has n = false := by
        intro xs
        induction xs with
        | nil => intro h; simp [manyC] at h
        | cons y ys ih =>
          intro h
          simp only [manyC, List.mem_append] at h
          rcases h with h | h
          · exact cellsC_has n x h
          · exact ih h
      exact main u h
    | .bool, u, x, h => by obtain rfl : x = _ := by simpa [cellsC] using h
                           rfl
    | .int k, u, x, h => by obtain rfl : x = _ := by simpa [cellsC] using h
                            rfl
    | .str, u, x, h => by obtain rfl : x = _ := by simpa [cellsC] using h
                          rfl
    | .sl p, u, x, h => by obtain rfl : x = _ := by simpa [cellsC] using h
                           rfl
    | .ptr p, u, x, h => by obtain rfl : x = _ := by simpa [cellsC] using h
                            rfl
    | .chain p, u, x, h => by obtain rfl : x = _ := by simpa [cellsC] using h
                              rfl

theorem zeroC_has (n : Nat) : ∀ {τ : Ty} (x : C), x ∈ zeroC τ → x.has n = false
  | .unit, x, h => by simp [zeroC] at h
  | .pair a b, x, h => by
    simp only [zeroC, List.mem_append] at h
    rcases h with h | h
    · exact zeroC_has n x h
    · exact zeroC_has n x h
  | .st a, x, h => zeroC_has n (τ := a) x h
  | .arr k a, x, h => by
    have main : ∀ (xs : List Unit), x ∈ manyC (fun _ => zeroC a) xs → x.has n = false := by
      intro xs
      induction xs with
      | nil => intro h; simp [manyC] at h
      | cons y ys ih =>
        intro h
        simp only [manyC, List.mem_append] at h
        rcases h with h | h
        · exact zeroC_has n x h
        · exact ih h
    exact main _ h
  | .bool, x, h => by obtain rfl : x = _ := by simpa [zeroC] using h
                      rfl
  | .int k, x, h => by obtain rfl : x = _ := by simpa [zeroC] using h
                       rfl
  | .str, x, h => by obtain rfl : x = _ := by simpa [zeroC] using h
                     rfl
  | .sl p, x, h => by obtain rfl : x = _ := by simpa [zeroC] using h
                      rfl
  | .ptr p, x, h => by obtain rfl : x = _ := by simpa [zeroC] using h
                       rfl
  | .chain p, x, h => by obtain rfl : x = _ := by simpa [zeroC] using h
                         rfl

/-- A new block, and a pointer to its first element. -/
theorem lay_ref (h : Rel g s a w μ I) (nm : Nat) (mb : MB) (cur : Array Value) (e : TypeId) (hp : 0 < mb.shape.1)
    (hb : ∀ μ' w' sh', μ' nm = some (w.heap.size, cur.size) → (∀ k, k ≠ nm → μ' k = μ k) → sh' nm = some mb.shape → (∀ k, k ≠ nm → sh' k = shp s.m k) → (∀ t, Stays (I t) w w') → w'.heap[w.heap.size]? = some (.cells cur e (0, 0)) → BR μ' I w' sh' mb w.heap.size cur.size) (dst : Option Tmp) :
    Ok g ((s.lay nm mb).putd dst (.c (.ref nm 0 0))) (a.put dst (.pointer (some ⟨w.heap.size, 0, none⟩))) (w.alloc (.cells cur e)) := by
  obtain ⟨μ', h1, h2, h3⟩ := h.lay nm mb cur e hb
  refine ⟨μ', I, h1.putd ?_⟩
  exact ⟨_, _, mb.shape.1, mb.shape.2, h2, h3, hp, by simp⟩

theorem br_tv {μ' : Nm} {w' : World} {sh' : Sh} {t : Bool} {τ : Ty} {x : τ.T} {cur : Array Value} {e : TypeId} (hk : K (I t) w τ x cur.toList) (hst : ∀ t, Stays (I t) w w') {b : Nat} (hh : w'.heap[b]? = some (.cells cur e (0, 0))) : BR μ' I w' sh' (.tv t τ x) b cur.size :=
  ⟨cur, e, hh, rfl, hk.mono (fun _ k => k) (hst t)⟩

theorem br_ar {μ' : Nm} {w' : World} {sh' : Sh} {t : Bool} {τ : Ty} {xs : List τ.T} {cur : Array Value} {e : TypeId} {b : Nat} (hh : w'.heap[b]? = some (.cells cur e (0, 0))) (cap : Nat) (hq : cur.size = cap * τ.sz) (hl : xs.length ≤ cap) (hc : cap ≤ Mx) (hr : Row (K (I t) w' τ) τ.sz xs (cur.toList.take (xs.length * τ.sz))) : BR μ' I w' sh' (.ar t e τ xs) b cur.size :=
  ⟨cur, e, hh, rfl, rfl, cap, hq, hl, hc, hr⟩

theorem br_dv {μ' : Nm} {w' : World} {sh sh' : Sh} {l : List C} {cur : Array Value} {e : TypeId} {nm : Nat} (hl : RL μ I w sh l cur.toList) (h1 : ∀ u ∈ cur.toList, u.oneCell' = true) (hn : ∀ x ∈ l, x.has nm = false) (hμ : ∀ k, k ≠ nm → μ' k = μ k) (hsh : ∀ k, k ≠ nm → sh' k = sh k) (hst : ∀ t, Stays (I t) w w') {b : Nat} (hh : w'.heap[b]? = some (.cells cur e (0, 0))) : BR μ' I w' sh' (.dv l) b cur.size :=
  ⟨cur, e, hh, rfl, hl.imp fun x v hx hr => hr.same (fun _ _ k => k) hst (fun k hk => ⟨hμ k (has_beq hk (hn x hx)), hsh k (has_beq hk (hn x hx))⟩), h1⟩

theorem box_ok (h : Rel g s a w μ I) {t : Nat} {ti : TI} (ht : TOk P t ti) {d : D} {v : Value} (hd : RD μ I w (shp s.m) d v) (nm : Nat) (dst : Option Tmp) {s' : St}
    (hs : (match d.asTyS ti.ty with
      | some (b, y) => .ret ((s.lay nm (.tv b ti.ty y)).putd dst (.c (.ref nm 0 0)))
      | none => match (d.kill nm).cells with
        | some l => bif decide (l.length = ti.ty.sz) then .ret ((s.lay nm (.dv l)).putd dst (.c (.ref nm 0 0))) else .no
        | none => .no : Br St).run = some s') :
    ∃ r w', (Instr.box t v).run P w = .ok r w' ∧ Ok g s' (a.put dst r) w' := by
  have hrun : (Instr.box t v).run P w = .ok (.pointer (some ⟨w.heap.size, 0, none⟩)) (w.alloc (.cells v.cells t)) := by
    simp only [Instr.box, newVar, newRow, Sem.run_bind, run_newObj_alloc, Result.andThen_ok, Sem.run_pure]
  refine ⟨_, _, hrun, ?_⟩
  split at hs
  · rename_i b y hy
    obtain rfl := Option.some.inj hs
    have vk := (asTyS_ok h.isub hy hd).cells
    exact lay_ref h nm _ _ t (by simp [MB.shape]) (fun μ' w' sh' _ _ _ _ hst hh => br_tv vk hst hh) dst
  · split at hs
    · rename_i l hl
      cases hc : decide (l.length = ti.ty.sz) with
      | false => simp only [hc, cond_false] at hs; cases hs
      | true =>
        simp only [hc, cond_true] at hs
        obtain rfl := Option.some.inj hs
        have hk : RD μ I w (shp (s.kill nm).m) (d.kill nm) v := hd.kill fun k hk => shp_kill_other hk s.m
        obtain ⟨r1, r2⟩ := cells_ok hl hk
        exact lay_ref h nm _ _ t (by simp [MB.shape]) (fun μ' w' sh' _ e2 _ e4 hst hh => br_dv r1 r2 (cells_kill hl) e2 (fun k hk => (e4 k hk).trans (shp_kill_other hk s.m).symm) hst hh) dst
    · cases hs

theorem valOf_cells {τ : Ty} {cs : List Value} (hl : cs.length = τ.sz) (h1 : ∀ u ∈ cs, u.oneCell' = true) : (valOf τ cs).cells.toList = cs := by
  unfold valOf
  cases e : τ.isAgg with
  | true => simp [Value.cells]
  | false =>
    rw [sz_one e] at hl
    match cs, hl with
    | [v], _ =>
      have := h1 v (by simp)
      cases v <;> first | rfl | (simp [Value.oneCell'] at this)

theorem alloc_run {t : Nat} {ti : TI} (ht : TOk P t ti) (w : World) : (Instr.alloc t true (.tuple #[])).run P w = .ok (.pointer (some ⟨w.heap.size, 0, none⟩)) (w.alloc (.cells (valOf ti.ty (zeroV ti.ty)).cells t)) := by
  simp only [Instr.alloc, newVar, newRow, Sem.run_bind, run_zero' ht, run_newObj_alloc, Result.andThen_ok, Sem.run_pure]

theorem zero_cells (τ : Ty) : (valOf τ (zeroV τ)).cells.toList = zeroV τ :=
  valOf_cells (zeroV_len τ) (zero_K (fun _ => True) default τ).one

theorem alloc_ok (h : Rel g s a w μ I) {t : Nat} {ti : TI} (ht : TOk P t ti) (nm : Nat) (dst : Option Tmp) :
    Ok g ((s.lay nm (bif ti.ty.hasP then .dv (zeroC ti.ty) else .tv false ti.ty ti.ty.zero)).putd dst (.c (.ref nm 0 0))) (a.put dst (.pointer (some ⟨w.heap.size, 0, none⟩))) (w.alloc (.cells (valOf ti.ty (zeroV ti.ty)).cells t)) := by
  have hz := zero_cells ti.ty
  cases hp : ti.ty.hasP with
  | true =>
    exact lay_ref h nm _ _ t (by simp [MB.shape]) (fun μ' w' sh' _ e2 _ e4 hst hh => br_dv (μ := μ) (sh := shp s.m) (by rw [hz]; exact zeroC_ok _) (by rw [hz]; exact (zero_K (fun _ => True) w ti.ty).one) (fun x hx => zeroC_has nm x hx) e2 e4 hst hh) dst
  | false =>
    exact lay_ref h nm _ _ t (by simp [MB.shape]) (fun μ' w' sh' _ _ _ _ hst hh => br_tv (w := w) (by rw [hz]; exact zero_K _ _ _) hst hh) dst

theorem allocA_ok (h : Rel g s a w μ I) {t n : Nat} {τ : Ty} {by_ : Nat} {td : TD} (ht : TOk P t ⟨.arr n τ, by_, td⟩) (nm : Nat) (dst : Option Tmp) (h1 : n ≤ 1048576) (h0 : 0 < n) :
    Ok g ((s.lay nm (.ar false t τ (List.replicate n τ.zero))).putd dst (.c (.ref nm 0 0))) (a.put dst (.pointer (some ⟨w.heap.size, 0, none⟩))) (w.alloc (.cells (valOf (.arr n τ) (zeroV (.arr n τ))).cells t)) := by
  have hz := zero_cells (.arr n τ)
  have hsz : (valOf (.arr n τ) (zeroV (.arr n τ))).cells.size = n * τ.sz := by
    have := congrArg List.length hz
    rw [zeroV_len, Array.length_toList] at this
    exact this
  refine lay_ref h nm _ _ t (by simpa [MB.shape] using h0) (fun μ' w' sh' _ e2 _ e4 hst hh => ?_) dst
  refine br_ar hh n hsz (by simp) (by unfold Mx; omega) ?_
  obtain ⟨_, hr⟩ := zero_K (I false) w' (.arr n τ)
  rw [List.length_replicate, hz, List.take_of_length_le (by rw [zeroV_len]; exact Nat.le_refl _)]
  exact hr

end Go.PI
