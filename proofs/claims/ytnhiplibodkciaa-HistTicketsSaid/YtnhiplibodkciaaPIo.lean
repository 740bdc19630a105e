/- A name for a row that an append, a make or a literal has left. -/
import Derived.Test.YtnhiplibodkciaaPIn
namespace Go.PI
open Go.RowKit

variable {P : Program} {c : Ctx} {g : Cfg} {s st : St} {a : Act} {w : World} {μ : Nm} {I : Bool → Nat → Prop}

/-- A row is named: wherever it lies, so that no other name's block has turned. -/
theorem Rel.lay2 (h : Rel g s a w μ I) (nm : Nat) (mb : MB) (w' : World) (hos : w'.os = w.os) (htape : w'.tape = w.tape) (hout : w'.output = w.output) (hsize : w.heap.size ≤ w'.heap.size)
    (hold : ∀ k b q, k ≠ nm → look k s.m ≠ none → μ k = some (b, q) → w'.heap[b]? = w.heap[b]?) (hst : ∀ t, Stays (I t) w w') (hkeep : ∀ b, b < g.w0.heap.size → ¬ g.L0 b → w'.heap[b]? = w.heap[b]?)
    (p : Option (Nat × Nat)) (hnone : p = none → ∃ t e τ, mb = .ar t e τ [])
    (hp : ∀ b q, p = some (b, q) → (∀ k q', k ≠ nm → look k s.m ≠ none → μ k ≠ some (b, q')) ∧ ¬ I true b ∧ (g.L0 b ∨ g.w0.heap.size ≤ b) ∧
      ∀ μ' sh', μ' nm = p → sh' nm = some mb.shape → BR μ' I w' sh' mb b q) :
    ∃ μ', Rel g (s.lay nm mb) a w' μ' I ∧ μ' nm = p ∧ shp (s.lay nm mb).m nm = some mb.shape := by
  have hk := h.kill nm
  let μ' : Nm := fun k => if k = nm then p else μ k
  have e1 : μ' nm = p := if_pos rfl
  have e2 : ∀ k, k ≠ nm → μ' k = μ k := fun k hne => if_neg hne
  have s1 : shp (s.lay nm mb).m nm = some mb.shape := by
    show (look nm ((nm, mb) :: _)).map _ = _
    simp [look, beq_same]
  have s2 : ∀ k, k ≠ nm → shp (s.lay nm mb).m k = shp (s.kill nm).m k := by
    intro k hne
    show (look k ((nm, mb) :: _)).map _ = _
    simp [look, beq_ne (Ne.symm hne)]; rfl
  have s4 : shp (s.kill nm).m nm = none := by
    show (look nm _).map _ = _
    simp only [St.kill, look_map, look_delm_same]; rfl
  have hRC : ∀ c v, RC μ I w (shp (s.kill nm).m) c v → RC μ' I w' (shp (s.lay nm mb).m) c v := by
    intro c v hc
    cases hh : c.has nm with
    | true =>
      cases c with
      | ref n i o => simp only [C.has] at hh; obtain rfl := Nat.eq_of_beq_eq_true hh; obtain ⟨_, _, _, _, _, k, _⟩ := hc; rw [s4] at k; cases k
      | mfull n => simp only [C.has] at hh; obtain rfl := Nat.eq_of_beq_eq_true hh; obtain ⟨_, _, _, _, k, _⟩ := hc; rw [s4] at k; cases k
      | msl n s l cp => simp only [C.has] at hh; obtain rfl := Nat.eq_of_beq_eq_true hh; obtain ⟨_, _, _, _, _, _, ⟨_, _, k, _⟩, _⟩ := hc; rw [s4] at k; cases k
      | _ => simp [C.has] at hh
    | false => exact hc.same (fun _ _ k => k) hst (fun k hk => ⟨e2 k (has_beq hk hh), s2 k (has_beq hk hh)⟩)
  have hlook : ∀ k, k ≠ nm → look k (s.lay nm mb).m = look k (s.kill nm).m := by
    intro k hne
    show look k ((nm, mb) :: _) = _
    simp [look, beq_ne (Ne.symm hne)]
  have holdk : ∀ k, k ≠ nm → look k (s.lay nm mb).m ≠ none → look k s.m ≠ none := by
    intro k hne hl
    rw [hlook k hne] at hl
    simp only [St.kill, look_map, look_delm_other hne] at hl
    exact fun e' => hl (by rw [e']; rfl)
  refine ⟨μ', ?_, e1, s1⟩
  have hkept : ∀ k, look k g.m0 ≠ none → k ∉ (s.lay nm mb).k → μ' k = g.μ0 k ∧ shp (s.lay nm mb).m k = shp g.m0 k := fun k hm hn => by
    have hne : k ≠ nm := fun e => hn (by subst e; exact List.mem_cons_self)
    obtain ⟨k1, k2⟩ := hk.kept k hm hn
    exact ⟨(e2 k hne).trans k1, (s2 k hne).trans k2⟩
  refine { mem := ?_, inj := ?_, sep := ?_, isub := h.isub, ilt := ?_, i0 := h.i0, inew := h.inew, live := ?_, os := hos.trans h.os, tape := htape.trans h.tape, output := hout.trans h.output, size := Nat.le_trans h.size hsize, keep := ?_, tm := ?_, len := hk.len, dfr := h.dfr, kept := hkept }
  · intro k mb' hl
    by_cases hne : k = nm
    · subst hne
      have : look k (s.lay k mb).m = some mb := by show look k ((k, mb) :: _) = _; simp [look, beq_same]
      rw [this] at hl
      obtain rfl := Option.some.inj hl
      cases hpp : p with
      | none => exact .inr ⟨e1.trans hpp, hnone hpp⟩
      | some bq =>
        obtain ⟨b, q⟩ := bq
        exact .inl ⟨b, q, e1.trans hpp, (hp b q hpp).2.2.2 μ' _ e1 s1⟩
    · rw [hlook k hne] at hl
      rcases hk.mem k mb' hl with ⟨b, q, eq, hbr⟩ | ⟨eq, r⟩
      · refine .inl ⟨b, q, (e2 k hne).trans eq, ?_⟩
        have hl0 : look k s.m ≠ none := holdk k hne (by rw [hlook k hne, hl]; simp)
        have := hbr.map (φ := id) (μ' := μ') (I' := I) (w' := w') (sh' := shp (s.lay nm mb).m) hRC (fun _ _ k => k) hst (hold k b q hne hl0 eq)
        have eid : mb'.mapC id = mb' := by cases mb' <;> simp [MB.mapC]
        rwa [eid] at this
      · exact .inr ⟨(e2 k hne).trans eq, r⟩
  · intro n1 n2 b q q' h1 h2 l1 l2
    by_cases a1 : n1 = nm
    · by_cases a2 : n2 = nm
      · rw [a1, a2]
      · subst a1
        rw [e1] at h1
        rw [e2 n2 a2] at h2
        exact absurd h2 ((hp b q h1).1 n2 q' a2 (holdk n2 a2 l2))
    · by_cases a2 : n2 = nm
      · subst a2
        rw [e1] at h2
        rw [e2 n1 a1] at h1
        exact absurd h1 ((hp b q' h2).1 n1 q a1 (holdk n1 a1 l1))
      · rw [e2 n1 a1] at h1
        rw [e2 n2 a2] at h2
        exact h.inj n1 n2 b q q' h1 h2 (holdk n1 a1 l1) (holdk n2 a2 l2)
  · intro n1 b q l1 h1 hi
    by_cases a1 : n1 = nm
    · subst a1
      rw [e1] at h1
      exact (hp b q h1).2.1 hi
    · rw [e2 n1 a1] at h1
      exact h.sep n1 b q (holdk n1 a1 l1) h1 hi
  · exact fun b hb => Nat.lt_of_lt_of_le (h.ilt b hb) hsize
  · intro n1 b q l1 h1
    by_cases a1 : n1 = nm
    · subst a1
      rw [e1] at h1
      exact (hp b q h1).2.2.1
    · rw [e2 n1 a1] at h1
      exact h.live n1 b q (holdk n1 a1 l1) h1
  · exact fun b hlt hL => (hkeep b hlt hL).trans (h.keep b hlt hL)
  · exact fun i => (hk.tm i).imp hRC

/-- A row in a new block. -/
theorem lay_new (h : Rel g s a w μ I) (nm : Nat) (dst : Option Tmp) {b : Bool} {e : Nat} {τ : Ty} {xs : List τ.T} {w' : World} {cur : Array Value} {cap : Nat} (hos : w'.os = w.os) (htape : w'.tape = w.tape) (hout : w'.output = w.output)
    (hold : ∀ k, k < w.heap.size → w'.heap[k]? = w.heap[k]?) (hnew : w'.heap[w.heap.size]? = some (.cells cur e (0, 0))) (hq : cur.size = cap * τ.sz) (hl : xs.length ≤ cap) (hc : cap ≤ Mx) (hr : Row (K (I b) w τ) τ.sz xs (cur.toList.take (xs.length * τ.sz))) :
    Ok g ((s.lay nm (.ar b e τ xs)).putd dst (.c (.mfull nm))) (a.put dst (.slice (some ⟨w.heap.size, 0, none⟩) xs.length cap)) w' := by
  have hsz : w.heap.size < w'.heap.size := (Array.getElem?_eq_some_iff.1 hnew).1
  have hst : ∀ t, Stays (I t) w w' := fun t b hb => hold b (by cases t; exact h.ilt b (h.isub b hb); exact h.ilt b hb)
  obtain ⟨μ', h1, h2, h3⟩ := h.lay2 nm (.ar b e τ xs) w' hos htape hout (by omega) (fun k b q _ hk hμ => hold b (h.toMRel.live_lt hk hμ)) hst (fun b hb _ => hold b (Nat.lt_of_lt_of_le hb h.size))
    (some (w.heap.size, cur.size)) (fun e => by cases e) (fun b' q' e' => by
      obtain ⟨rfl, rfl⟩ := Prod.mk.inj (Option.some.inj e')
      refine ⟨fun k q' _ hk hμ => by have := h.toMRel.live_lt hk hμ; omega, fun hi => by have := h.ilt _ hi; omega, .inr h.size, fun μ' sh' _ _ => ?_⟩
      exact br_ar hnew cap hq hl hc (hr.imp fun _ _ k => k.mono (fun _ k => k) (hst b)))
  refine ⟨μ', I, h1.putd ?_⟩
  exact ⟨xs.length, τ.sz, _, cap, h3, rfl, hl, hc, .inr ⟨_, _, _, _, h2, h3, rfl, hq⟩⟩

theorem zero_arr (τ : Ty) : (valOf τ (zeroV τ)).cells = (zeroV τ).toArray := by
  apply Array.ext'
  rw [zero_cells]

theorem range_none (f : Nat → Value) : (Array.range 0).map f = #[] := by
  apply Array.ext'
  simp

theorem buildSlice_ok (htb : TbOk P c.tb) (h : Rel g s a w μ I) {t e len : Nat} {τ : Ty} {by_ : Nat} (ht : TOk P t ⟨.sl τ, by_, .sl e⟩) {ti : TI} (hte : TOk P e ti) (hτ : ti.ty = τ) (hlen : len * τ.sz ≤ 16777216) (hz : 0 < τ.sz) {parts : Array (Nat × Operand)} {b : Bool} {xs : List τ.T}
    (hrow : rowD s τ parts.toList (false, List.replicate len τ.zero) = some (b, xs)) (nm : Nat) (dst : Option Tmp) :
    ∃ r w', (Instr.buildSlice t len (parts.map fun (i, x) => (i, a.eval x))).run P w = .ok r w' ∧ Ok g ((s.lay nm (.ar b e τ xs)).putd dst (.c (.mfull nm))) (a.put dst r) w' := by
  subst hτ
  obtain ⟨info, d, _, hu, _, _, _, _, _, hd⟩ := ht
  simp only at hd
  subst hd
  have hmade := made_row (I false) w ti.ty len hz
  obtain ⟨cells', e1, e2, e3⟩ := rowD_ok h hz parts.toList hmade hrow
  have hxl : xs.length = len := by rw [e3, List.length_replicate]
  have hrun : (Instr.buildSlice t len (parts.map fun (i, x) => (i, a.eval x))).run P w = .ok (.slice (some ⟨w.heap.size, 0, none⟩) len len) (w.alloc (.cells cells' e)) := by
    have hzz := zero_arr ti.ty
    have hfill : Instr.fill (fun i => some (i * ti.ty.sz, ti.ty.sz)) ((Array.range (len * ti.ty.sz)).map ((zeroV ti.ty).toArray[· % (zeroV ti.ty).toArray.size]!)) (parts.map fun (i, x) => (i, a.eval x)).toList = some cells' := by
      rw [Array.toList_map]; exact e1
    simp only [Instr.buildSlice, Sem.run_bind, run_underlying hu, Result.andThen_ok, run_sizeOf' hte]
    rw [if_neg (by omega)]
    by_cases hl0 : len * ti.ty.sz = 0
    · rw [if_pos hl0]
      simp only [Sem.run_bind, Sem.run_pure, Result.andThen_ok]
      have hf2 : Instr.fill (fun i => some (i * ti.ty.sz, ti.ty.sz)) ((Array.range (len * ti.ty.sz)).map ((#[] : Array Value)[· % (#[] : Array Value).size]!)) (parts.map fun (i, x) => (i, a.eval x)).toList = some cells' := by
        rw [hl0, range_none] at hfill ⊢
        exact hfill
      rw [hf2]
      simp only [newRow, Sem.run_bind, run_newObj_alloc, Result.andThen_ok, Sem.run_pure]
    · rw [if_neg hl0]
      simp only [Sem.run_bind, run_zero' hte, Sem.run_pure, Result.andThen_ok, hzz]
      rw [hfill]
      simp only [newRow, Sem.run_bind, run_newObj_alloc, Result.andThen_ok, Sem.run_pure]
  refine ⟨_, _, hrun, ?_⟩
  have hcl : cells'.size = len * ti.ty.sz := by
    have := e2.1
    rw [hxl] at this
    exact Array.length_toList.symm.trans this
  have := lay_new h nm dst (b := b) (e := e) (xs := xs) (w' := w.alloc (.cells cells' e)) (cur := cells') (cap := len) rfl rfl rfl (fun k hk => heap_alloc_old w _ k hk) (heap_alloc_new w _) hcl (by omega) (by
    have h2 : len * 1 ≤ len * ti.ty.sz := Nat.mul_le_mul_left _ hz
    unfold Mx; omega) (by rw [List.take_of_length_le (by rw [e2.1]; exact Nat.le_refl _)]; exact e2)
  rw [hxl] at this
  exact this

theorem makeSlice_ok (h : Rel g s a w μ I) {t e : Nat} {τ : Ty} {by_ : Nat} (ht : TOk P t ⟨.sl τ, by_, .sl e⟩) {ti : TI} (hte : TOk P e ti) (hτ : ti.ty = τ) (hz : 0 < τ.sz) {l k : Int} {kl kc : IntKind} (h0 : 0 ≤ l) (h1 : l ≤ k) (hb : bound k.toNat ti.bytes = true) (hk : InK kc k) (hk64 : k ≤ 9223372036854775807) (nm : Nat) (dst : Option Tmp) :
    ∃ r w', (Instr.makeSlice t (.int kl l) (.int kc k)).run P w = .ok r w' ∧ Ok g ((s.lay nm (.ar false e τ (List.replicate l.toNat τ.zero))).putd dst (.c (.mfull nm))) (a.put dst r) w' := by
  subst hτ
  obtain ⟨info, d, _, hu, _, _, _, _, _, hd⟩ := ht
  simp only at hd
  subst hd
  obtain ⟨info', d', i1, i2, i3, i4, i5, _⟩ := hte
  have hbb : k.toNat * ti.bytes ≤ 140737488355328 := of_decide_eq_true hb
  have hrun := run_make (P := P) w t e info' _ hu i1 i5 kl kc l k h0 h1 (by
    rw [i4]
    have : (k.toNat : Int) = k := by omega
    rw [← this, Int.mul_comm]
    have h2 : ((k.toNat * ti.bytes : Nat) : Int) ≤ 140737488355328 := by omega
    rw [Int.natCast_mul] at h2
    omega) hk64
  refine ⟨_, _, hrun, ?_⟩
  have hzz := zero_arr ti.ty
  rw [hzz, i3]
  have hmade := made_row (I false) w ti.ty k.toNat hz
  have := lay_new h nm dst (b := false) (e := e) (τ := ti.ty) (xs := List.replicate l.toNat ti.ty.zero) (w' := w.alloc (.cells (madeCells (zeroV ti.ty).toArray (k.toNat * ti.ty.sz)) e)) (cur := madeCells (zeroV ti.ty).toArray (k.toNat * ti.ty.sz)) (cap := k.toNat) rfl rfl rfl (fun k hk => heap_alloc_old w _ k hk) (heap_alloc_new w _) (by simp [size_madeCells]) (by simp; omega) (by unfold Mx; omega) (by
    have h3 := hmade.takeR l.toNat (by simp; omega)
    rw [List.take_replicate, Nat.min_eq_left (by omega)] at h3
    rw [List.length_replicate]
    exact h3)
  rw [List.length_replicate] at this
  exact this

end Go.PI
