/- What writes: blocks frozen, cells stored. -/
import Derived.Test.YtnhiplibodkciaaPIk
namespace Go.PI
open Go.RowKit

variable {P : Program} {c : Ctx} {g : Cfg} {s st : St} {a : Act} {w : World} {μ : Nm} {I : Bool → Nat → Prop}

/-! ### a block is frozen -/
def Iplus (I : Bool → Nat → Prop) (μ : Nm) (n : Nat) : Bool → Nat → Prop := fun t b => I t b ∨ ∃ q, μ n = some (b, q)

theorem freeze_C {m : Mem} (h : MRel g m w μ I) {n : Nat} {mb : MB} (hl : look n m = some mb) {sh' : Sh} (hsh : ∀ k, k ≠ n → sh' k = shp m k) {x : C} {v : Value} (hx : RC μ I w (shp m) x v) : RC μ (Iplus I μ n) w sh' (x.freeze n mb) v := by
  unfold C.freeze
  cases hh : x.has n with
  | false => exact hx.same (fun t b k => .inl k) (fun t => stays_refl _ _) (fun k hk => ⟨rfl, hsh k (has_beq hk hh)⟩)
  | true =>
    simp only [cond_true]
    split
    · rename_i n' b e τ xs
      simp only [C.has] at hh
      obtain rfl := Nat.eq_of_beq_eq_true hh
      obtain ⟨len, z, A, cap, e1, rfl, h2, h3, h4⟩ := hx
      rw [shp_look hl] at e1
      obtain ⟨rfl, rfl⟩ := Prod.mk.inj (Option.some.inj e1)
      refine ⟨fun e => by simp [Ty.isAgg] at e, fun _ => ⟨A, cap, rfl, h2, h3, fun hne => ?_⟩⟩
      rcases h4 with ⟨rfl, rfl⟩ | ⟨bb, q, len', z', e2, e3, rfl, rfl⟩
      · exact absurd (List.eq_nil_of_length_eq_zero (by omega)) hne
      · rcases h.mem _ _ hl with ⟨b', q', e4, cur, el, hheap, hq, _, cap', hcap, _, _, hrow⟩ | ⟨e4, _⟩
        · rw [e2] at e4
          obtain ⟨rfl, rfl⟩ := Prod.mk.inj (Option.some.inj e4)
          refine ⟨⟨bb, 0, none⟩, cur.toList.take (xs.length * τ.sz), rfl, .inr ⟨_, e2⟩, ⟨rfl, fun j u hu => ?_⟩, hrow.imp fun _ _ k => k.mono (fun b k => .inl k) (stays_refl _ _)⟩
          rw [List.getElem?_take] at hu
          split at hu
          · rw [Nat.zero_add, cell_cur hheap]; exact hu
          · cases hu
        · rw [e2] at e4; cases e4
    · rename_i n' sx l b e τ xs
      simp only [C.has] at hh
      obtain rfl := Nat.eq_of_beq_eq_true hh
      cases hd : decide (sx + l ≤ xs.length) with
      | false => exact trivial
      | true =>
        simp only [cond_true]
        have hle := of_decide_eq_true hd
        obtain ⟨A, cap, rfl, h2, h3, h4, ⟨len', z', e1, h5, h6⟩, h7⟩ := hx
        rw [shp_look hl] at e1
        obtain ⟨rfl, rfl⟩ := Prod.mk.inj (Option.some.inj e1)
        have hlen : ((xs.drop sx).take l).length = l := by rw [List.length_take, List.length_drop]; omega
        refine ⟨fun e => by simp [Ty.isAgg] at e, fun _ => ⟨A, cap, by rw [hlen], by rw [hlen]; exact h2, h3, fun hne => ?_⟩⟩
        have hpos : 0 < l := by
          rcases Nat.eq_zero_or_pos l with q | q
          · exact absurd (List.eq_nil_of_length_eq_zero (by omega)) hne
          · exact q
        obtain ⟨bb, q, e2, rfl⟩ := h6 hpos
        rcases h.mem _ _ hl with ⟨b', q', e4, cur, el, hheap, hq, _, cap', hcap, _, _, hrow⟩ | ⟨e4, _⟩
        · rw [e2] at e4
          obtain ⟨rfl, rfl⟩ := Prod.mk.inj (Option.some.inj e4)
          refine ⟨⟨bb, sx * τ.sz, none⟩, ((cur.toList.take (xs.length * τ.sz)).drop (sx * τ.sz)).take (l * τ.sz), rfl, .inr ⟨_, e2⟩, ⟨rfl, fun j u hu => ?_⟩, ((hrow.dropR sx).takeR l (by rw [List.length_drop]; omega)).imp fun _ _ k => k.mono (fun b k => .inl k) (stays_refl _ _)⟩
          rw [List.getElem?_take] at hu
          split at hu
          · rw [List.getElem?_drop, List.getElem?_take] at hu
            split at hu
            · rw [cell_cur hheap]; exact hu
            · cases hu
          · cases hu
        · rw [e2] at e4; cases e4
    · exact trivial

theorem Rel.freeze (h : Rel g s a w μ I) {n : Nat} {mb : MB} (hl : look n s.m = some mb) : Rel g (s.freeze n) a w μ (Iplus I μ n) := by
  have e0 : s.freeze n = ⟨s.t.map (D.freeze n mb), (delm n s.m).map fun p => (p.1, MB.freeze n mb p.2), n :: s.k⟩ := by unfold St.freeze; rw [hl]
  rw [e0]
  have hm := h.toMRel
  have hsh : ∀ k, k ≠ n → shp ((delm n s.m).map fun p => (p.1, MB.freeze n mb p.2)) k = shp s.m k := by
    intro k hk
    unfold shp
    rw [look_map, look_delm_other hk, Option.map_map]
    congr 1
    funext mb'
    rw [MB.freeze_map]
    exact MB.shape_map _ _
  have hlk : ∀ k, look k ((delm n s.m).map fun p => (p.1, MB.freeze n mb p.2)) ≠ none → k ≠ n ∧ look k s.m ≠ none := by
    intro k hk
    rw [look_map] at hk
    by_cases e : k = n
    · subst e; rw [look_delm_same] at hk; exact absurd rfl hk
    · rw [look_delm_other e] at hk
      exact ⟨e, fun e' => hk (by rw [e']; rfl)⟩
  have hn : look n s.m ≠ none := by rw [hl]; simp
  have hphi : ∀ x v, RC μ I w (shp s.m) x v → RC μ (Iplus I μ n) w (shp ((delm n s.m).map fun p => (p.1, MB.freeze n mb p.2))) (x.freeze n mb) v := fun x v hx => freeze_C hm hl hsh hx
  have hkept : ∀ k, look k g.m0 ≠ none → k ∉ ((⟨s.t.map (D.freeze n mb), (delm n s.m).map fun p => (p.1, MB.freeze n mb p.2), n :: s.k⟩ : St)).k → μ k = g.μ0 k ∧ shp ((⟨s.t.map (D.freeze n mb), (delm n s.m).map fun p => (p.1, MB.freeze n mb p.2), n :: s.k⟩ : St)).m k = shp g.m0 k := fun k hm hn' => by
    have hne : k ≠ n := fun e => hn' (by subst e; exact List.mem_cons_self)
    obtain ⟨k1, k2⟩ := h.kept k hm (fun hmm => hn' (List.mem_cons_of_mem _ hmm))
    exact ⟨k1, (hsh k hne).trans k2⟩
  refine { mem := ?_, inj := ?_, sep := ?_, isub := ?_, ilt := ?_, i0 := ?_, inew := ?_, live := ?_, os := h.os, tape := h.tape, output := h.output, size := h.size, keep := h.keep, tm := ?_, len := ?_, dfr := h.dfr, kept := hkept }
  · intro k mb' hk
    obtain ⟨hne, _⟩ := hlk k (by rw [hk]; simp)
    rw [look_map, look_delm_other hne] at hk
    obtain ⟨mb0, h0, rfl⟩ := Option.map_eq_some_iff.1 hk
    rcases h.mem k mb0 h0 with ⟨b, q, e, hb⟩ | ⟨e, t, el, τ, rfl⟩
    · refine .inl ⟨b, q, e, ?_⟩
      rw [MB.freeze_map]
      exact hb.map hphi (fun t b k => .inl k) (fun t => stays_refl _ _) rfl
    · exact .inr ⟨e, t, el, τ, rfl⟩
  · exact fun n1 n2 b q q' e1 e2 h1 h2 => h.inj n1 n2 b q q' e1 e2 (hlk _ h1).2 (hlk _ h2).2
  · intro n1 b q h1 e1 hi
    rcases hi with hi | ⟨q', e2⟩
    · exact h.sep n1 b q (hlk _ h1).2 e1 hi
    · exact (hlk _ h1).1 (h.inj n1 n b q q' e1 e2 (hlk _ h1).2 hn)
  · intro b hb
    exact hb.imp (h.isub b) id
  · intro b hb
    rcases hb with hb | ⟨q, e⟩
    · exact h.ilt b hb
    · exact hm.live_lt hn e
  · exact fun t b hb => .inl (h.i0 t b hb)
  · intro t b hb
    rcases hb with hb | ⟨q, e⟩
    · exact h.inew t b hb
    · exact .inr (h.live n b q hn e)
  · exact fun n1 b q h1 e => h.live n1 b q (hlk _ h1).2 e
  · intro i
    show RD _ _ _ _ ((s.t.map (D.freeze n mb)).getD i (.c .bad)) _
    rw [D.freeze_map, getD_map (by simp [C.freeze, C.has])]
    exact (h.tm i).map hphi
  · show (s.t.map _).length = _
    rw [List.length_map]; exact h.len

theorem freezeAll_ok : ∀ (ns : List Nat) {s : St} {d : D} {I : Bool → Nat → Prop}, Rel g s a w μ I → ∀ {v : Value}, RD μ I w (shp s.m) d v → ∃ I', Rel g (freezeAll ns (s, d)).1 a w μ I' ∧ RD μ I' w (shp (freezeAll ns (s, d)).1.m) (freezeAll ns (s, d)).2 v
  | [], s, d, I, h, v, hd => ⟨I, h, hd⟩
  | n :: r, s, d, I, h, v, hd => by
    unfold freezeAll
    split
    · rename_i mb hl
      have hf := h.freeze hl
      have hsh : ∀ k, k ≠ n → shp (s.freeze n).m k = shp s.m k := by
        intro k hk
        unfold St.freeze
        simp only [hl]
        unfold shp
        rw [look_map, look_delm_other hk, Option.map_map]
        congr 1
        funext mb'
        rw [MB.freeze_map]
        exact MB.shape_map _ _
      refine freezeAll_ok r hf ?_
      rw [D.freeze_map]
      exact hd.map fun x v hx => freeze_C h.toMRel hl hsh hx
    · exact freezeAll_ok r h hd

theorem thaw_ok : ∀ (ps : List (Nat × Operand)) {s : St} {I : Bool → Nat → Prop}, Rel g s a w μ I → ∃ I', Rel g (thaw s ps) a w μ I'
  | [], s, I, h => ⟨I, h⟩
  | (_, x) :: r, s, I, h => by
    unfold thaw
    obtain ⟨I', h', _⟩ := freezeAll_ok (opd s x).names h (d := .c .bad) (v := undef) trivial
    exact thaw_ok r h'

/-! ### cells are stored -/
theorem shp_setm {m : Mem} {n : Nat} {mb mb' : MB} (hl : look n m = some mb) (hs : mb'.shape = mb.shape) : shp (setm n mb' m) = shp m := by
  funext k
  unfold shp
  by_cases e : k = n
  · subst e; rw [look_setm_same, hl]; simp [hs]
  · rw [look_setm_other mb' e]

theorem Rel.store (h : Rel g s a w μ I) {n : Nat} {mb mb' : MB} {b q : Nat} (hl : look n s.m = some mb) (hμ : μ n = some (b, q)) (hs : mb'.shape = mb.shape) {cur cur' : Array Value} {e : TypeId} (hh : w.heap[b]? = some (.cells cur e (0, 0)))
    (hb : ∀ w', w'.heap[b]? = some (.cells cur' e (0, 0)) → (∀ t, Stays (I t) w w') → BR μ I w' (shp s.m) mb' b q) : Rel g ⟨s.t, setm n mb' s.m, s.k⟩ a (w.setRow b cur') μ I := by
  have hn : look n s.m ≠ none := by rw [hl]; simp
  have hsh := shp_setm hl hs
  have hlk : ∀ k, look k (setm n mb' s.m) ≠ none → look k s.m ≠ none := by
    intro k hk
    by_cases e : k = n
    · subst e; exact hn
    · rwa [look_setm_other mb' e] at hk
  have hst : ∀ t, Stays (I t) w (w.setRow b cur') := fun t b' hb' => setRow_other w b b' cur' (fun e' => h.sep n b q hn hμ (by subst e'; cases t; exact h.isub _ hb'; exact hb'))
  have hheap := setRow_heap w b cur cur' e (0, 0) hh
  have hRC : ∀ x v, RC μ I w (shp s.m) x v → RC μ I (w.setRow b cur') (shp (setm n mb' s.m)) x v := fun x v hx => hx.same (fun _ _ k => k) hst (fun k _ => ⟨rfl, by rw [hsh]⟩)
  have hsz : (w.setRow b cur').heap.size = w.heap.size := by simp [World.setRow]
  have hkept : ∀ k, look k g.m0 ≠ none → k ∉ ((⟨s.t, setm n mb' s.m, s.k⟩ : St)).k → μ k = g.μ0 k ∧ shp ((⟨s.t, setm n mb' s.m, s.k⟩ : St)).m k = shp g.m0 k := fun k hm hn => by
    obtain ⟨k1, k2⟩ := h.kept k hm hn
    exact ⟨k1, (congrFun hsh k).trans k2⟩
  refine { mem := ?_, inj := ?_, sep := ?_, isub := h.isub, ilt := ?_, i0 := h.i0, inew := h.inew, live := ?_, os := h.os, tape := h.tape, output := h.output, size := ?_, keep := ?_, tm := fun i => (h.tm i).imp hRC, len := h.len, dfr := h.dfr, kept := hkept }
  · intro k mb1 hk
    show (∃ b q, _ ∧ BR μ I _ (shp (setm n mb' s.m)) mb1 b q) ∨ _
    rw [hsh]
    by_cases ek : k = n
    · subst ek
      rw [look_setm_same] at hk
      obtain rfl := Option.some.inj hk
      exact .inl ⟨b, q, hμ, hb _ hheap hst⟩
    · rw [look_setm_other mb' ek] at hk
      rcases h.mem k mb1 hk with ⟨b1, q1, e1, hb1⟩ | r
      · refine .inl ⟨b1, q1, e1, ?_⟩
        have hne : b1 ≠ b := fun e2 => ek (h.inj k n b q1 q (e2 ▸ e1) hμ (by rw [hk]; simp) hn)
        have := hb1.map (φ := id) (μ' := μ) (I' := I) (w' := w.setRow b cur') (sh' := shp s.m) (fun x v hx => by have := hRC x v hx; rwa [hsh] at this) (fun _ _ k => k) hst (setRow_other w b b1 cur' hne)
        have eid : mb1.mapC id = mb1 := by cases mb1 <;> simp [MB.mapC]
        rwa [eid] at this
      · exact .inr r
  · exact fun n1 n2 b q q' e1 e2 h1 h2 => h.inj n1 n2 b q q' e1 e2 (hlk _ h1) (hlk _ h2)
  · exact fun n1 b q h1 e => h.sep n1 b q (hlk _ h1) e
  · intro b' hb'; rw [hsz]; exact h.ilt b' hb'
  · exact fun n1 b q h1 e => h.live n1 b q (hlk _ h1) e
  · rw [hsz]; exact h.size
  · intro b' hlt hL
    have hne : b' ≠ b := fun e2 => by
      subst e2
      rcases h.live n b' q hn hμ with k | k
      · exact hL k
      · omega
    rw [setRow_other w b b' cur' hne]
    exact h.keep b' hlt hL

theorem take_splice (cs c : List Value) (o m : Nat) (h : o + c.length ≤ m) (hm : m ≤ cs.length) : (splice cs o c).take m = splice (cs.take m) o c := by
  apply List.ext_getElem?
  intro j
  simp only [splice, List.getElem?_take, List.getElem?_append, List.getElem?_drop, List.length_append, List.length_take]
  by_cases hj : j < m
  · simp only [hj, if_true]
    by_cases h1 : j < o
    · rw [if_pos (by omega), if_pos (by omega), if_pos (by omega), if_pos (show j < min o (min m cs.length) + c.length by omega), if_pos (show j < min o (min m cs.length) by omega)]
    · by_cases h2 : j < o + c.length
      · rw [if_pos (by omega), if_neg (by omega), if_pos (by omega), if_neg (by omega)]
        congr 1
        omega
      · rw [if_neg (by omega), if_neg (by omega)]
        have e1 : o + c.length + (j - (min o cs.length + c.length)) = j := by omega
        have e2 : o + c.length + (j - (min o (min m cs.length) + c.length)) = j := by omega
        rw [e1, e2, if_pos hj]
  · simp only [hj, if_false]
    rw [if_neg (by omega)]
    by_cases h2 : o + c.length + (j - (min o (min m cs.length) + c.length)) < m
    · omega
    · rw [if_neg h2]

theorem RL.splice {sh : Sh} {l k : List C} {cs c : List Value} (h : RL μ I w sh l cs) (hk : RL μ I w sh k c) (o : Nat) : RL μ I w sh (l.take o ++ k ++ l.drop (o + k.length)) (splice cs o c) := by
  unfold Go.PI.splice
  rw [hk.1]
  exact ((h.take o).append hk).append (h.drop _)

theorem splice_one {cs c : List Value} {o : Nat} (h1 : ∀ u ∈ cs, u.oneCell' = true) (h2 : ∀ u ∈ c, u.oneCell' = true) : ∀ u ∈ splice cs o c, u.oneCell' = true := by
  intro u hu
  unfold splice at hu
  rcases List.mem_append.1 hu with hu | hu
  · rcases List.mem_append.1 hu with hu | hu
    · exact h1 u (List.mem_of_mem_take hu)
    · exact h2 u hu
  · exact h1 u (List.mem_of_mem_drop hu)

/-- A store. -/
theorem store_ok (h : Rel g s a w μ I) {t : Nat} {ti : TI} (ht : TOk P t ti) {n i o : Nat} {mb mb' : MB} (hl : look n s.m = some mb) {d : D} {u v : Value} (hu : RC μ I w (shp s.m) (.ref n i o) u) (hd : RD μ I w (shp s.m) d v) (hz : 0 < ti.ty.sz) (hs : storeB ti.ty d i o mb = some mb') :
    ∃ w', (Instr.storeAt t u v).run P w = .ok () w' ∧ Rel g ⟨s.t, setm n mb' s.m, s.k⟩ a w' μ I := by
  obtain ⟨b, q, len, z, e1, e2, hi, rfl⟩ := hu
  have e2' := e2
  rw [shp_look hl] at e2'
  rcases h.mem n _ hl with ⟨b', q', e3, hbr⟩ | ⟨e3, _⟩
  case inr => rw [e1] at e3; cases e3
  rw [e1] at e3
  obtain ⟨rfl, rfl⟩ := Prod.mk.inj (Option.some.inj e3)
  -- the machine's store
  have mach : ∀ (cur : Array Value) (el : TypeId), w.heap[b]? = some (.cells cur el (0, 0)) → v.cells.size = ti.ty.sz → (∀ u ∈ v.cells.toList, u.oneCell' = true) → i * z + o + v.cells.size ≤ cur.size →
      (Instr.storeAt t (.pointer (some ⟨b, i * z + o, none⟩)) v).run P w = .ok () (w.setRow b (splice cur.toList (i * z + o) v.cells.toList).toArray) := by
    intro cur el hh hsz hone hle
    have := run_storeCells_at P b (i * z + o) el v.cells.toList 0 cur w hh (by simpa using hle) hone
    simp only [Nat.add_zero] at this
    simp only [Instr.storeAt, Instr.sureAddr, storeVar, Sem.run_bind, Sem.run_pure, Result.andThen_ok, run_sizeOf' ht]
    rw [if_neg (by simp [hsz])]
    exact this
  -- by cells
  have byCells : ∀ (l : List C) (cur : Array Value) (el : TypeId), w.heap[b]? = some (.cells cur el (0, 0)) → cur.size = q → RL μ I w (shp s.m) l cur.toList → (∀ u ∈ cur.toList, u.oneCell' = true) → i = 0 → mb.shape = (1, l.length) → spliceC ti.ty o l d = some mb' →
      ∃ w', (Instr.storeAt t (.pointer (some ⟨b, i * z + o, none⟩)) v).run P w = .ok () w' ∧ Rel g ⟨s.t, setm n mb' s.m, s.k⟩ a w' μ I := by
    intro l cur el hh hq hrl hone hi0 hshape hsp
    subst hi0
    unfold spliceC at hsp
    split at hsp
    · rename_i k hk
      cases hc : (decide (o + k.length ≤ l.length) && decide (k.length = ti.ty.sz)) with
      | false => simp only [hc, cond_false] at hsp; cases hsp
      | true =>
        simp only [hc, cond_true] at hsp
        obtain rfl := Option.some.inj hsp
        simp only [Bool.and_eq_true, decide_eq_true_eq] at hc
        obtain ⟨r1, r2⟩ := cells_ok hk hd
        have hl1 := hrl.1
        have hl2 := r1.1
        have hvs : v.cells.size = k.length := by rw [hl2, Array.length_toList]
        have hcs : cur.size = l.length := by rw [hl1, Array.length_toList]
        have hm := mach cur el hh (by rw [hvs]; exact hc.2) r2 (by rw [hvs, hcs]; omega)
        refine ⟨_, hm, h.store hl e1 ?_ hh (cur' := (splice cur.toList (0 * z + o) v.cells.toList).toArray) ?_⟩
        · rw [hshape]
          simp only [MB.shape, List.length_append, List.length_take, List.length_drop]
          congr 1
          omega
        · intro w' hw' hst
          refine ⟨_, el, hw', ?_, ?_, ?_⟩
          · simp only [List.size_toArray]
            rw [splice_length _ _ _ (by simp only [Array.length_toList]; rw [hvs, hcs]; omega), Array.length_toList, hq]
          · have := (hrl.splice r1 (0 * z + o)).imp (μ' := μ) (I' := I) (w' := w') (sh' := shp s.m) fun x v _ hx => hx.same (fun _ _ k => k) hst (fun _ _ => ⟨rfl, rfl⟩)
            simpa using this
          · simpa using splice_one hone r2
    · cases hsp
  unfold storeB at hs
  split at hs
  · rename_i bt σ x
    obtain ⟨cur, el, hh, hq, hk⟩ := hbr
    obtain ⟨rfl, rfl⟩ := Prod.mk.inj (Option.some.inj e2')
    obtain rfl : i = 0 := by omega
    split at hs
    · rename_i b' y gput hy hput
      obtain rfl := Option.some.inj hs
      have vk := (asTyS_ok h.isub hy hd).cells
      have om := or_mono h.isub bt b'
      obtain ⟨r1, r2⟩ := put_K hput (hk.up om.1) (vk.up om.2)
      have hvs : v.cells.size = ti.ty.sz := by have := vk.length; rwa [Array.length_toList] at this
      have hcl := hk.length
      rw [Array.length_toList] at hcl
      have hm := mach cur el hh hvs vk.one (by rw [hvs, hcl]; omega)
      refine ⟨_, hm, h.store (mb' := .tv (bt || b') σ (gput x y)) hl e1 rfl hh (cur' := (splice cur.toList (0 * σ.sz + o) v.cells.toList).toArray) ?_⟩
      intro w' hw' hst
      refine ⟨_, el, hw', ?_, ?_⟩
      · simp only [List.size_toArray]
        rw [splice_length _ _ _ (by simp only [Array.length_toList]; rw [hvs, hcl]; omega), Array.length_toList, hq]
      · have := r2.mono (fun b k => k) (hst (bt || b'))
        simpa using this
    · exact byCells _ cur el hh hq (cellsC_ok hk) hk.one rfl (by
        have h1 := (cellsC_ok (μ := μ) (I := I) (w := w) (sh := shp s.m) hk).1
        have h2 := hk.length
        simp only [MB.shape]
        rw [h1, h2]) hs
  · rename_i bt el' σ xs
    obtain ⟨cur, el, hh, hq, hel, cap, hcap, hlc, hcm, hrow⟩ := hbr
    obtain ⟨rfl, rfl⟩ := Prod.mk.inj (Option.some.inj e2')
    split at hs
    · rename_i b' y gput hy hput
      obtain rfl := Option.some.inj hs
      have vk := (asTy_ok h.isub hy hd).cells
      have om := or_mono h.isub bt b'
      have hpc := row_piece hrow σ.zero hi
      obtain ⟨r1, r2⟩ := put_K hput (hpc.up om.1) (vk.up om.2)
      have hvl := vk.length
      have hvs : v.cells.size = ti.ty.sz := by rwa [Array.length_toList] at hvl
      have hzz : 0 < σ.sz := by omega
      have hle1 : (i + 1) * σ.sz ≤ xs.length * σ.sz := Nat.mul_le_mul_right _ hi
      have hle2 : xs.length * σ.sz ≤ cap * σ.sz := Nat.mul_le_mul_right _ hlc
      rw [Nat.add_mul] at hle1
      have hcsz : cur.size = cap * σ.sz := hq.trans hcap
      have hcll : cur.toList.length = cap * σ.sz := by rw [Array.length_toList]; exact hcsz
      have hm := mach cur el hh hvs vk.one (by rw [hvs, hcsz]; omega)
      refine ⟨_, hm, h.store hl e1 (by simp [MB.shape]) hh (cur' := (splice cur.toList (i * σ.sz + o) v.cells.toList).toArray) ?_⟩
      intro w' hw' hst
      have hsp : (splice cur.toList (i * σ.sz + o) v.cells.toList).length = cur.toList.length := splice_length _ _ _ (by rw [hvl, Array.length_toList, hcsz]; omega)
      refine ⟨_, el, hw', ?_, hel, cap, hcap, by simpa using hlc, hcm, ?_⟩
      · simp only [List.size_toArray]
        rw [hsp, Array.length_toList, hq]
      · rw [List.toList_toArray, List.length_set, take_splice _ _ _ _ (by rw [hvl]; omega) (by rw [hcll]; exact hle2)]
        have hdiv : (i * σ.sz + o) / σ.sz = i := by
          rw [Nat.mul_comm, Nat.mul_add_div hzz, Nat.div_eq_of_lt (by omega)]; omega
        have hmod : (i * σ.sz + o) % σ.sz = o := by
          rw [Nat.mul_comm, Nat.mul_add_mod, Nat.mod_eq_of_lt (by omega)]
        have hrl := hrow.1
        refine ⟨?_, fun j x hx => ?_⟩
        · rw [splice_length _ _ _ (by rw [hvl, hrl]; omega), hrl, List.length_set]
        · rw [List.getElem?_set] at hx
          by_cases hj : i = j
          · subst hj
            rw [if_pos rfl, if_pos hi] at hx
            obtain rfl := Option.some.inj hx
            rw [piece_splice_same σ.sz _ _ _ i _ hrl hi hdiv hzz (by rw [hmod, hvl]; exact r1), hmod]
            exact r2.mono (fun b k => k) (hst _)
          · rw [if_neg hj] at hx
            have hjl : j < xs.length := (List.getElem?_eq_some_iff.1 hx).1
            rw [piece_splice_other σ.sz _ _ _ j _ hrl hjl (by rw [hdiv]; exact hj) hzz (by rw [hmod, hvl]; exact r1) (by rw [hdiv]; exact hi)]
            exact ((hrow.2 j x hx).up om.1).mono (fun b k => k) (hst _)
    · cases hs
  · rename_i l
    obtain ⟨cur, el, hh, hq, hrl, hone⟩ := hbr
    obtain ⟨rfl, rfl⟩ := Prod.mk.inj (Option.some.inj e2')
    obtain rfl : i = 0 := by omega
    have other : spliceC ti.ty o l d = some mb' → _ := byCells l cur el hh hq hrl hone rfl rfl
    cases hc : (Nat.beq o 0 && Nat.beq l.length ti.ty.sz) with
    | false => simp only [hc, cond_false] at hs; exact other hs
    | true =>
      simp only [hc, cond_true] at hs
      split at hs
      · rename_i bt σ y
        cases hq' : decide (σ = ti.ty) with
        | false => simp only [hq', cond_false] at hs; exact other hs
        | true =>
          simp only [hq', cond_true] at hs
          obtain rfl := Option.some.inj hs
          have hσ := of_decide_eq_true hq'
          rw [Bool.and_eq_true] at hc
          obtain rfl : o = 0 := Nat.eq_of_beq_eq_true hc.1
          have hll : l.length = ti.ty.sz := Nat.eq_of_beq_eq_true hc.2
          have vk := VK.cells hd
          have hvl : v.cells.size = σ.sz := Array.length_toList.symm.trans vk.length
          have hcl : l.length = cur.size := hrl.1.trans Array.length_toList
          rw [hσ] at hvl
          have hm := mach cur el hh hvl vk.one (by rw [hvl]; omega)
          refine ⟨_, hm, h.store hl e1 (by simp only [MB.shape]; rw [hσ, hll]) hh (cur' := (splice cur.toList (0 * l.length + 0) v.cells.toList).toArray) ?_⟩
          intro w' hw' hst
          have hsp : splice cur.toList (0 * l.length + 0) v.cells.toList = v.cells.toList := by
            unfold splice
            rw [Nat.zero_mul, Nat.zero_add, List.take_zero, List.nil_append, List.drop_eq_nil_of_le (by rw [Array.length_toList, Array.length_toList]; omega), List.append_nil]
          refine ⟨_, el, hw', ?_, ?_⟩
          · simp only [List.size_toArray]
            rw [hsp, Array.length_toList]; omega
          · rw [List.toList_toArray, hsp]
            exact vk.mono (fun b k => k) (hst _)
      · exact other hs

end Go.PI
