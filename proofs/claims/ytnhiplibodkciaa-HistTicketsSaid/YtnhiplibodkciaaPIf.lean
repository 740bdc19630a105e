/- What keeps the relation: names that go, blocks that are laid, frozen, written. -/
import Derived.Test.YtnhiplibodkciaaPIe
namespace Go.PI
open Go.RowKit

def MB.mapC (φ : C → C) : MB → MB
  | .dv l => .dv (l.map φ)
  | mb => mb
theorem MB.kill_map (n : Nat) : MB.kill n = MB.mapC (C.kill n) := by funext d; cases d <;> rfl
theorem MB.freeze_map (n : Nat) (mb : MB) : MB.freeze n mb = MB.mapC (C.freeze n mb) := by funext d; cases d <;> rfl
theorem MB.shape_map (φ : C → C) (mb : MB) : (mb.mapC φ).shape = mb.shape := by cases mb <;> simp [MB.mapC, MB.shape]

variable {g : Cfg} {s : St} {a : Act} {w : World} {μ : Nm} {I : Bool → Nat → Prop}

theorem BR.map {μ' : Nm} {I' : Bool → Nat → Prop} {w' : World} {sh sh' : Sh} {φ : C → C} {mb : MB} {b q : Nat} (h : BR μ I w sh mb b q) (hφ : ∀ c v, RC μ I w sh c v → RC μ' I' w' sh' (φ c) v)
    (hI : ∀ t b, I t b → I' t b) (hs : ∀ t, Stays (I t) w w') (hb : w'.heap[b]? = w.heap[b]?) : BR μ' I' w' sh' (mb.mapC φ) b q := by
  obtain ⟨cur, e, h1, h2, h3⟩ := h
  refine ⟨cur, e, hb.trans h1, h2, ?_⟩
  cases mb with
  | tv t τ x => exact K.mono (hI t) (hs t) h3
  | ar t e' τ xs =>
    obtain ⟨h4, cap, h5, h6, h7, h8⟩ := h3
    exact ⟨h4, cap, h5, h6, h7, h8.imp fun _ _ k => k.mono (hI t) (hs t)⟩
  | dv l => exact ⟨h3.1.map fun c v _ _ => hφ c v, h3.2⟩

theorem BR.lt {sh : Sh} {mb : MB} {b q : Nat} (h : BR μ I w sh mb b q) : b < w.heap.size := by
  obtain ⟨cur, e, h1, _⟩ := h
  exact (Array.getElem?_eq_some_iff.1 h1).1

theorem MRel.live_lt {m : Mem} (h : MRel g m w μ I) {n b q : Nat} (hn : look n m ≠ none) (hμ : μ n = some (b, q)) : b < w.heap.size := by
  cases hl : look n m with
  | none => exact absurd hl hn
  | some mb =>
    rcases h.mem n mb hl with ⟨b', q', e, hb⟩ | ⟨e, _⟩
    · rw [hμ] at e
      obtain ⟨rfl, rfl⟩ := Prod.mk.inj (Option.some.inj e)
      exact hb.lt
    · rw [hμ] at e; cases e

theorem stays_refl (I : Nat → Prop) (w : World) : Stays I w w := fun _ _ => rfl

/-! ### a name goes -/
theorem shp_kill_other {n k : Nat} (hk : k ≠ n) (m : Mem) : shp ((delm n m).map fun p => (p.1, p.2.kill n)) k = shp m k := by
  unfold shp
  rw [look_map, look_delm_other hk, Option.map_map]
  congr 1
  funext mb
  rw [MB.kill_map]
  exact MB.shape_map _ _

theorem RC.kill {sh sh' : Sh} {n : Nat} (hsh : ∀ k, k ≠ n → sh' k = sh k) {c : C} {v : Value} (h : RC μ I w sh c v) : RC μ I w sh' (c.kill n) v := by
  unfold C.kill
  cases hc : c.has n with
  | true => exact trivial
  | false => exact h.same (fun _ _ k => k) (fun t => stays_refl _ _) (fun k hk => ⟨rfl, hsh k (has_beq hk hc)⟩)

theorem MRel.kill {m : Mem} (h : MRel g m w μ I) (n : Nat) : MRel g ((delm n m).map fun p => (p.1, p.2.kill n)) w μ I := by
  have hl : ∀ k, look k ((delm n m).map fun p => (p.1, p.2.kill n)) ≠ none → k ≠ n ∧ look k m ≠ none := by
    intro k hk
    rw [look_map] at hk
    by_cases e : k = n
    · subst e; rw [look_delm_same] at hk; exact absurd rfl hk
    · rw [look_delm_other e] at hk
      exact ⟨e, fun e' => hk (by rw [e']; rfl)⟩
  refine { h with mem := ?_, inj := ?_, sep := ?_, live := ?_ }
  · intro k mb hk
    obtain ⟨hne, _⟩ := hl k (by rw [hk]; simp)
    rw [look_map, look_delm_other hne] at hk
    obtain ⟨mb0, h0, rfl⟩ := Option.map_eq_some_iff.1 hk
    rcases h.mem k mb0 h0 with ⟨b, q, e, hb⟩ | ⟨e, t, el, τ, rfl⟩
    · refine .inl ⟨b, q, e, ?_⟩
      rw [MB.kill_map]
      exact hb.map (fun c v hc => hc.kill fun j hj => shp_kill_other hj m) (fun _ _ k => k) (fun t => stays_refl _ _) rfl
    · exact .inr ⟨e, t, el, τ, rfl⟩
  · exact fun n1 n2 b q q' e1 e2 h1 h2 => h.inj n1 n2 b q q' e1 e2 (hl _ h1).2 (hl _ h2).2
  · exact fun n1 b q h1 e => h.sep n1 b q (hl _ h1).2 e
  · exact fun n1 b q h1 e => h.live n1 b q (hl _ h1).2 e

theorem getD_map {φ : C → C} (hb : φ .bad = .bad) (l : List D) (i : Nat) : (l.map (D.map φ)).getD i (.c .bad) = (l.getD i (.c .bad)).map φ := by
  simp only [List.getD, List.getElem?_map]
  cases l[i]? with
  | none => simp [D.map, hb]
  | some d => rfl

theorem Rel.kill (h : Rel g s a w μ I) (n : Nat) : Rel g (s.kill n) a w μ I := by
  have hkept : ∀ k, look k g.m0 ≠ none → k ∉ (s.kill n).k → μ k = g.μ0 k ∧ shp (s.kill n).m k = shp g.m0 k := fun k hk hn => by
    have hne : k ≠ n := fun e => hn (by subst e; exact List.mem_cons_self)
    obtain ⟨k1, k2⟩ := h.kept k hk (fun hm => hn (List.mem_cons_of_mem _ hm))
    exact ⟨k1, (shp_kill_other hne s.m).trans k2⟩
  refine { toMRel := h.toMRel.kill n, tm := ?_, len := ?_, dfr := h.dfr, kept := hkept }
  · intro i
    show RD _ _ _ _ ((s.t.map (D.kill n)).getD i (.c .bad)) _
    rw [D.kill_map, getD_map (by simp [C.kill, C.has])]
    exact (h.tm i).map fun c v hc => hc.kill fun j hj => shp_kill_other hj s.m
  · show (s.t.map _).length = _
    rw [List.length_map]; exact h.len

/-! ### a slot is written -/
theorem Rel.putd (h : Rel g s a w μ I) {dst : Option Tmp} {d : D} {v : Value} (hd : RD μ I w (shp s.m) d v) : Rel g (s.putd dst d) (a.put dst v) w μ I := by
  cases dst with
  | none => exact h
  | some k =>
    refine { toMRel := h.toMRel, tm := ?_, len := ?_, dfr := h.dfr, kept := h.kept }
    · intro i
      show RD μ I w (shp s.m) ((s.t.set k d).getD i (.c .bad)) ((a.tmps.setIfInBounds k v).getD i undef)
      have hi := h.tm i
      have hlen := h.len
      simp only [List.getD, List.getElem?_set, Array.getD_eq_getD_getElem?, Array.getElem?_setIfInBounds] at hi ⊢
      by_cases e : k = i
      · subst e
        by_cases hk : k < s.t.length
        · rw [if_pos rfl, if_pos hk, if_pos rfl, if_pos (by rw [← hlen]; exact hk)]
          exact hd
        · rw [if_pos rfl, if_neg hk, if_pos rfl, if_neg (by rw [← hlen]; exact hk)]
          simp [RD, RC]
      · rw [if_neg e, if_neg e]
        exact hi
    · show (s.t.set k d).length = (a.tmps.setIfInBounds k v).size
      rw [List.length_set, Array.size_setIfInBounds]; exact h.len

/-- A slot's worth is told anew. -/
theorem Rel.retell (h : Rel g s a w μ I) {k : Nat} {d : D} (hd : RD μ I w (shp s.m) d (a.tmps.getD k undef)) : Rel g ⟨s.t.set k d, s.m, s.k⟩ a w μ I := by
  refine { toMRel := h.toMRel, tm := ?_, len := ?_, dfr := h.dfr, kept := h.kept }
  · intro i
    show RD μ I w (shp s.m) ((s.t.set k d).getD i (.c .bad)) _
    have hi := h.tm i
    simp only [List.getD, List.getElem?_set] at hi ⊢
    by_cases e : k = i
    · subst e
      by_cases hk : k < s.t.length
      · rw [if_pos rfl, if_pos hk]; exact hd
      · rw [if_pos rfl, if_neg hk]; simp [RD, RC]
    · rw [if_neg e]; exact hi
  · show (s.t.set k d).length = _
    rw [List.length_set]; exact h.len

theorem eval_opd (h : Rel g s a w μ I) (x : Operand) : RD μ I w (shp s.m) (opd s x) (a.eval x) := by
  cases x with
  | tmp t => exact h.tm t
  | const v =>
    show RD _ _ _ _ (ofConst v) v
    unfold ofConst
    split
    · exact rfl
    · exact rfl
    · rename_i k n
      cases hk : (decide (k.min ≤ n) && decide (n ≤ k.max)) with
      | true =>
        rw [Bool.and_eq_true, decide_eq_true_iff, decide_eq_true_iff] at hk
        exact ⟨fun e => by simp [Ty.isAgg] at e, fun _ => ⟨rfl, hk⟩⟩
      | false => exact trivial
    · rename_i b
      cases hk : decide (b.size ≤ 9223372036854775807) with
      | true => exact ⟨fun e => by simp [Ty.isAgg] at e, fun _ => ⟨rfl, of_decide_eq_true hk⟩⟩
      | false => exact trivial
    · exact rfl
    · exact rfl
    · exact trivial
  | func f => exact ⟨[], rfl, rfl, fun j c v hc => by simp at hc⟩
  | global n => exact trivial

/-! ### a new block is laid -/
theorem Rel.lay (h : Rel g s a w μ I) (nm : Nat) (mb : MB) (cur : Array Value) (e : TypeId)
    (hb : ∀ μ' w' sh', μ' nm = some (w.heap.size, cur.size) → (∀ k, k ≠ nm → μ' k = μ k) → sh' nm = some mb.shape → (∀ k, k ≠ nm → sh' k = shp s.m k) → (∀ t, Stays (I t) w w') → w'.heap[w.heap.size]? = some (.cells cur e (0, 0)) → BR μ' I w' sh' mb w.heap.size cur.size) :
    ∃ μ', Rel g (s.lay nm mb) a (w.alloc (.cells cur e)) μ' I ∧ μ' nm = some (w.heap.size, cur.size) ∧ shp (s.lay nm mb).m nm = some mb.shape := by
  have hk := h.kill nm
  let μ' : Nm := fun k => if k = nm then some (w.heap.size, cur.size) else μ k
  have e1 : μ' nm = some (w.heap.size, cur.size) := if_pos rfl
  have e2 : ∀ k, k ≠ nm → μ' k = μ k := fun k hne => if_neg hne
  have s1 : shp (s.lay nm mb).m nm = some mb.shape := by
    show (look nm ((nm, mb) :: _)).map _ = _
    simp [look, beq_same]
  have s2 : ∀ k, k ≠ nm → shp (s.lay nm mb).m k = shp (s.kill nm).m k := by
    intro k hne
    show (look k ((nm, mb) :: _)).map _ = _
    simp [look, beq_ne (Ne.symm hne)]; rfl
  have s3 : ∀ k, k ≠ nm → shp (s.kill nm).m k = shp s.m k := fun k hne => shp_kill_other hne s.m
  have s4 : shp (s.kill nm).m nm = none := by
    show (look nm _).map _ = _
    simp only [St.kill, look_map, look_delm_same]; rfl
  have hst : ∀ t, Stays (I t) w (w.alloc (.cells cur e)) := fun t b hb => heap_alloc_old w _ b (by cases t; exact h.ilt b (h.isub b hb); exact h.ilt b hb)
  have hnew := heap_alloc_new w (.cells cur e)
  have hRC : ∀ c v, RC μ I w (shp (s.kill nm).m) c v → RC μ' I (w.alloc (.cells cur e)) (shp (s.lay nm mb).m) c v := by
    intro c v hc
    cases hh : c.has nm with
    | true =>
      cases c with
      | ref n i o => simp only [C.has] at hh; obtain rfl := Nat.eq_of_beq_eq_true hh; obtain ⟨_, _, _, _, _, k, _⟩ := hc; rw [s4] at k; cases k
      | mfull n => simp only [C.has] at hh; obtain rfl := Nat.eq_of_beq_eq_true hh; obtain ⟨_, _, _, _, k, _⟩ := hc; rw [s4] at k; cases k
      | msl n s l cp => simp only [C.has] at hh; obtain rfl := Nat.eq_of_beq_eq_true hh; obtain ⟨_, _, _, _, _, _, ⟨_, _, k, _⟩, _⟩ := hc; rw [s4] at k; cases k
      | _ => simp [C.has] at hh
    | false => exact hc.same (fun _ _ k => k) hst (fun k hk => ⟨e2 k (has_beq hk hh), s2 k (has_beq hk hh)⟩)
  have hlook : ∀ k, k ≠ nm → look k (s.lay nm mb).m = look k (s.kill nm).m := by
    intro k hne
    show look k ((nm, mb) :: _) = _
    simp [look, beq_ne (Ne.symm hne)]
  have hold : ∀ k, k ≠ nm → look k (s.lay nm mb).m ≠ none → look k s.m ≠ none := by
    intro k hne hl
    rw [hlook k hne] at hl
    simp only [St.kill, look_map, look_delm_other hne] at hl
    exact fun e' => hl (by rw [e']; rfl)
  refine ⟨μ', ?_, e1, s1⟩
  have hkept : ∀ k, look k g.m0 ≠ none → k ∉ (s.lay nm mb).k → μ' k = g.μ0 k ∧ shp (s.lay nm mb).m k = shp g.m0 k := fun k hm hn => by
    have hne : k ≠ nm := fun e => hn (by subst e; exact List.mem_cons_self)
    obtain ⟨k1, k2⟩ := hk.kept k hm hn
    exact ⟨(e2 k hne).trans k1, (s2 k hne).trans k2⟩
  refine { mem := ?_, inj := ?_, sep := ?_, isub := h.isub, ilt := ?_, i0 := h.i0, inew := h.inew, live := ?_, os := h.os, tape := h.tape, output := h.output, size := ?_, keep := ?_, tm := ?_, len := hk.len, dfr := h.dfr, kept := hkept }
  · intro k mb' hl
    by_cases hne : k = nm
    · subst hne
      have : look k (s.lay k mb).m = some mb := by show look k ((k, mb) :: _) = _; simp [look, beq_same]
      rw [this] at hl
      obtain rfl := Option.some.inj hl
      exact .inl ⟨_, _, e1, hb μ' _ _ e1 e2 s1 (fun j hj => (s2 j hj).trans (s3 j hj)) hst hnew⟩
    · rw [hlook k hne] at hl
      rcases hk.mem k mb' hl with ⟨b, q, eq, hbr⟩ | ⟨eq, r⟩
      · refine .inl ⟨b, q, (e2 k hne).trans eq, ?_⟩
        have := hbr.map (φ := id) (μ' := μ') (I' := I) (w' := w.alloc (.cells cur e)) (sh' := shp (s.lay nm mb).m) hRC (fun _ _ k => k) hst (heap_alloc_old w _ b hbr.lt)
        have eid : mb'.mapC id = mb' := by cases mb' <;> simp [MB.mapC]
        rwa [eid] at this
      · exact .inr ⟨(e2 k hne).trans eq, r⟩
  · intro n1 n2 b q q' h1 h2 l1 l2
    by_cases a1 : n1 = nm
    · by_cases a2 : n2 = nm
      · rw [a1, a2]
      · subst a1
        rw [e1] at h1
        rw [e2 n2 a2] at h2
        have := h.toMRel.live_lt (hold n2 a2 l2) h2
        obtain ⟨rfl, _⟩ := Prod.mk.inj (Option.some.inj h1)
        omega
    · by_cases a2 : n2 = nm
      · subst a2
        rw [e1] at h2
        rw [e2 n1 a1] at h1
        have := h.toMRel.live_lt (hold n1 a1 l1) h1
        obtain ⟨rfl, _⟩ := Prod.mk.inj (Option.some.inj h2)
        omega
      · rw [e2 n1 a1] at h1
        rw [e2 n2 a2] at h2
        exact h.inj n1 n2 b q q' h1 h2 (hold n1 a1 l1) (hold n2 a2 l2)
  · intro n1 b q l1 h1 hi
    by_cases a1 : n1 = nm
    · subst a1
      rw [e1] at h1
      obtain ⟨rfl, _⟩ := Prod.mk.inj (Option.some.inj h1)
      have := h.ilt _ hi
      omega
    · rw [e2 n1 a1] at h1
      exact h.sep n1 b q (hold n1 a1 l1) h1 hi
  · intro b hb
    have := h.ilt b hb
    simp
    omega
  · intro n1 b q l1 h1
    by_cases a1 : n1 = nm
    · subst a1
      rw [e1] at h1
      obtain ⟨rfl, _⟩ := Prod.mk.inj (Option.some.inj h1)
      exact .inr h.size
    · rw [e2 n1 a1] at h1
      exact h.live n1 b q (hold n1 a1 l1) h1
  · have := h.size
    simp
    omega
  · intro b hlt hL
    have := h.size
    rw [heap_alloc_old w _ b (by omega)]
    exact h.keep b hlt hL
  · intro i
    exact (hk.tm i).imp hRC

end Go.PI
