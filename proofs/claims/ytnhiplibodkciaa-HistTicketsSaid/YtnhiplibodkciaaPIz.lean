/- An operation by what it looks at alone does what it does to the whole. -/
import Derived.Test.YtnhiplibodkciaaPIv
import Derived.Orders
namespace Go.PI
open Go.RowKit

variable {P : Program} {c : Ctx} {g : Cfg} {s st : St} {a : Act} {w : World} {μ : Nm} {I : Bool → Nat → Prop}

theorem wp_put {o : Oper} {K : Act → World → Prop} {Q : Exit → Act → World → Prop} (h : o.wp P a w K Q) (hk : ∀ a w, K a w → a.defers = []) : o.wp P a w (fun a' w' => K a' w' ∧ ∃ v, a' = a.put o.dst v) Q := by
  unfold Oper.wp at *
  generalize (execOp a.eval o).run P w = r at *
  cases r with
  | ok n w' =>
    cases n <;> simp only [Oper.upon] at h ⊢ <;> first
      | exact ⟨h, _, rfl⟩
      | exact Calls.mono h (fun e w'' he => by cases e <;> first | exact ⟨he, _, rfl⟩ | exact he)
      | exact Rows.mono h (fun _ _ he => ⟨he, _, rfl⟩)
      | (exfalso; have := hk _ _ h; rw [Act.put_defers] at this; simp [Act.put] at this; done)
      | (exfalso; have := hk _ _ h; cases hd : o.dst <;> simp [Act.put, hd] at this; done)
      | exact h
  | halt x w' => cases x <;> simp only [Oper.upon] at h ⊢ <;> exact h

theorem memb_iff {n : Nat} : ∀ {l : List Nat}, memb n l = true ↔ n ∈ l
  | [] => by simp [memb]
  | k :: r => by
    simp only [memb, Bool.or_eq_true, List.mem_cons, memb_iff (l := r)]
    constructor
    · rintro (h | h)
      · exact .inl (Nat.eq_of_beq_eq_true h).symm
      · exact .inr h
    · rintro (h | h)
      · exact .inl (by rw [h]; exact beq_same _)
      · exact .inr h

theorem has_nm {n : Nat} {x : C} : x.has n = true ↔ n ∈ x.nm := by
  cases x with
  | ref k i o => simp only [C.has, C.nm, List.mem_singleton]; exact ⟨fun h => (Nat.eq_of_beq_eq_true h).symm, fun h => by rw [h]; exact beq_same _⟩
  | mfull k => simp only [C.has, C.nm, List.mem_singleton]; exact ⟨fun h => (Nat.eq_of_beq_eq_true h).symm, fun h => by rw [h]; exact beq_same _⟩
  | msl k s l cp => simp only [C.has, C.nm, List.mem_singleton]; exact ⟨fun h => (Nat.eq_of_beq_eq_true h).symm, fun h => by rw [h]; exact beq_same _⟩
  | _ => simp [C.has, C.nm]

theorem look_memAt (m : Mem) (n : Nat) : ∀ ns : List Nat, look n (memAt m ns) = if n ∈ ns then look n m else none
  | [] => by simp [memAt, look]
  | k :: r => by
    have ih := look_memAt m n r
    simp only [memAt]
    by_cases e : k = n
    · subst e
      rw [if_pos List.mem_cons_self]
      split
      · rename_i b hb; simp [look, beq_same, hb]
      · rename_i hb; rw [ih, hb]; simp
    · have : n ∈ k :: r ↔ n ∈ r := by simp [Ne.symm e]
      rw [show (if n ∈ k :: r then look n m else none) = if n ∈ r then look n m else none by simp only [this]]
      split
      · simp only [look, beq_ne e, cond_false]; exact ih
      · exact ih

theorem look_memBut (ns : List Nat) (n : Nat) : ∀ m : Mem, look n (memBut ns m) = if n ∈ ns then none else look n m
  | [] => by simp [memBut, look]
  | (k, b) :: r => by
    have ih := look_memBut ns n r
    simp only [memBut]
    cases hk : memb k ns with
    | true =>
      simp only [cond_true, look, ih]
      by_cases e : k = n
      · subst e; rw [if_pos (memb_iff.1 hk), if_pos (memb_iff.1 hk)]
      · rw [beq_ne e]; rfl
    | false =>
      simp only [cond_false, look, ih]
      by_cases e : k = n
      · subst e
        have : k ∉ ns := fun hm => by rw [memb_iff.2 hm] at hk; cases hk
        simp [this]
      · rw [beq_ne e]; rfl

theorem maskT_get (l : List Nat) : ∀ (i : Nat) (t : List D) (j : Nat), (maskT l i t)[j]? = t[j]?.map fun d => bif memb (i + j) l then d else .c .bad
  | _, [], j => by simp [maskT]
  | i, d :: r, 0 => by simp [maskT]
  | i, d :: r, j + 1 => by
    simp only [maskT, List.getElem?_cons_succ, maskT_get l (i + 1) r j]
    rw [show i + 1 + j = i + (j + 1) by omega]

theorem maskT_len (l : List Nat) : ∀ (i : Nat) (t : List D), (maskT l i t).length = t.length
  | _, [] => rfl
  | i, d :: r => by simp [maskT, maskT_len l (i + 1) r]

theorem shp_memAt (ns : List Nat) (m : Mem) {n : Nat} (h : n ∈ ns) : shp (memAt m ns) n = shp m n := by
  unfold shp
  rw [look_memAt, if_pos h]

theorem subB_iff {l ns : List Nat} : subB l ns = true ↔ ∀ n ∈ l, n ∈ ns := by
  unfold subB
  rw [List.all_eq_true]
  exact ⟨fun h n hn => memb_iff.1 (h n hn), fun h n hn => memb_iff.2 (h n hn)⟩

theorem mem_nmsOf {t : List D} {n i : Nat} : ∀ {l : List Nat}, i ∈ l → n ∈ (t.getD i (.c .bad)).nms → n ∈ nmsOf t l
  | k :: r, hi, hn => by
    simp only [nmsOf]
    rcases List.mem_cons.1 hi with rfl | hi
    · exact List.mem_append.2 (.inl hn)
    · exact List.mem_append.2 (.inr (mem_nmsOf hi hn))

structure GoodAt (s : St) (l ns : List Nat) : Prop where
  slot : ∀ i ∈ l, (s.t.getD i (.c .bad)).good = true
  nms : ∀ i ∈ l, ∀ n ∈ (s.t.getD i (.c .bad)).nms, n ∈ ns
  mem : ∀ n ∈ ns, ∃ b, look n s.m = some b ∧ b.good = true ∧ ∀ k ∈ b.nms, k ∈ ns

theorem goodAt_ok {s : St} {l ns : List Nat} (h : goodAt s l ns = true) : GoodAt s l ns := by
  unfold goodAt at h
  simp only [Bool.and_eq_true, List.all_eq_true] at h
  obtain ⟨⟨h1, h2⟩, h3⟩ := h
  refine ⟨h1, fun i hi n hn => subB_iff.1 h2 n (mem_nmsOf hi hn), fun n hn => ?_⟩
  have := h3 n hn
  split at this
  · rename_i b hb
    simp only [Bool.and_eq_true] at this
    exact ⟨b, hb, this.1, fun k hk => subB_iff.1 this.2 k hk⟩
  · cases this

theorem RD.key {sh sh' : Sh} {d : D} {v : Value} (hd : RD μ I w sh d v) (h : ∀ n ∈ d.nms, sh' n = sh n) : RD μ I w sh' d v := by
  have key : ∀ x v, (∀ n ∈ x.nm, sh' n = sh n) → RC μ I w sh x v → RC μ I w sh' x v := fun x v hx hr =>
    hr.same (fun _ _ k => k) (fun t => stays_refl _ _) (fun k hk => ⟨rfl, hx k (has_nm.1 hk)⟩)
  cases d with
  | c x => exact key x _ h hd
  | agg xs =>
    obtain ⟨vs, e, h1, h2⟩ := hd
    exact ⟨vs, e, h1.imp fun x v hx hr => key x v (fun n hn => h n (List.mem_flatMap.2 ⟨x, hx, hn⟩)) hr, h2⟩
  | tup xs =>
    obtain ⟨vs, e, h1⟩ := hd
    exact ⟨vs, e, h1.imp fun x v hx hr => key x v (fun n hn => h n (List.mem_flatMap.2 ⟨x, hx, hn⟩)) hr⟩
  | fn f xs =>
    obtain ⟨vs, e, h1⟩ := hd
    exact ⟨vs, e, h1.imp fun x v hx hr => key x v (fun n hn => h n (List.mem_flatMap.2 ⟨x, hx, hn⟩)) hr⟩

theorem BR.key {sh sh' : Sh} {mb : MB} {b q : Nat} (hb : BR μ I w sh mb b q) (h : ∀ n ∈ mb.nms, sh' n = sh n) : BR μ I w sh' mb b q := by
  obtain ⟨cur, e, h1, h2, h3⟩ := hb
  refine ⟨cur, e, h1, h2, ?_⟩
  cases mb with
  | tv t τ x => exact h3
  | ar t e' τ xs => exact h3
  | dv l => exact ⟨h3.1.imp fun x v hx hr => hr.same (fun _ _ k => k) (fun t => stays_refl _ _) (fun k hk => ⟨rfl, h k (List.mem_flatMap.2 ⟨x, hx, has_nm.1 hk⟩)⟩), h3.2⟩

/-- What an operation looks at, on its own. -/
theorem Rel.cut (h : Rel g s a w μ I) {l ns : List Nat} (hns : GoodAt s l ns) : Rel (cfgOf w I (memAt s.m ns) μ) (s.cut l ns) a w μ I := by
  have hl : ∀ k, look k (memAt s.m ns) ≠ none → k ∈ ns ∧ look k s.m ≠ none := by
    intro k hk
    rw [look_memAt] at hk
    split at hk
    · rename_i hm; exact ⟨hm, hk⟩
    · exact absurd rfl hk
  refine { mem := ?_, inj := ?_, sep := ?_, isub := h.isub, ilt := h.ilt, i0 := fun t b hb => hb, inew := fun t b hb => .inl hb, live := ?_, os := rfl, tape := rfl, output := rfl, size := Nat.le_refl _, keep := fun _ _ _ => rfl, tm := ?_, len := ?_, dfr := h.dfr, kept := fun n _ _ => ⟨rfl, rfl⟩ }
  · intro n mb hn
    obtain ⟨hm, _⟩ := hl n (by rw [show look n (memAt s.m ns) = _ from hn]; simp)
    have hn : look n (memAt s.m ns) = some mb := hn
    rw [look_memAt, if_pos hm] at hn
    obtain ⟨b', hb', _, hsub⟩ := hns.mem n hm
    rw [hb'] at hn
    obtain rfl := Option.some.inj hn
    rcases h.mem n b' hb' with ⟨b, q, e, hb⟩ | x
    · exact .inl ⟨b, q, e, hb.key fun k hk => shp_memAt ns s.m (hsub k hk)⟩
    · exact .inr x
  · exact fun n1 n2 b q q' e1 e2 h1 h2 => h.inj n1 n2 b q q' e1 e2 (hl _ h1).2 (hl _ h2).2
  · exact fun n1 b q h1 e => h.sep n1 b q (hl _ h1).2 e
  · exact fun n1 b q h1 e => .inl ⟨n1, q, h1, e⟩
  · intro i
    show RD μ I w (shp (memAt s.m ns)) ((maskT l 0 s.t).getD i (.c .bad)) _
    have hi := h.tm i
    have hd := hns.nms i
    simp only [List.getD, maskT_get, Nat.zero_add] at hi hd ⊢
    cases ht : s.t[i]? with
    | none => exact trivial
    | some d =>
      rw [ht] at hi hd
      simp only [Option.map_some, Option.getD_some] at hi hd ⊢
      cases hm : memb i l with
      | false => exact trivial
      | true => exact hi.key fun n hn => shp_memAt ns s.m (hd (memb_iff.1 hm) n hn)
  · show (maskT l 0 s.t).length = _
    rw [maskT_len]; exact h.len

theorem killAll_rel : ∀ (l : List Nat) {s : St}, Rel g s a w μ I → Rel g (killAll l s) a w μ I ∧ (∀ n, n ∈ l → look n (killAll l s).m = none) ∧ (∀ n, look n (killAll l s).m ≠ none → look n s.m ≠ none) ∧ (∀ n, n ∈ (killAll l s).k ↔ n ∈ l ∨ n ∈ s.k)
  | [], s, h => ⟨h, fun n hn => by simp at hn, fun n hn => hn, fun n => by simp [killAll]⟩
  | k :: r, s, h => by
    obtain ⟨h1, h2, h3, h4⟩ := killAll_rel r (h.kill k)
    have hk : ∀ n, look n (s.kill k).m ≠ none → n ≠ k ∧ look n s.m ≠ none := by
      intro n hn
      simp only [St.kill, look_map] at hn
      by_cases e : n = k
      · subst e; rw [look_delm_same] at hn; exact absurd rfl hn
      · rw [look_delm_other e] at hn
        exact ⟨e, fun e' => hn (by rw [e']; rfl)⟩
    refine ⟨h1, fun n hn => ?_, fun n hn => (hk n (h3 n hn)).2, fun n => ?_⟩
    · rcases List.mem_cons.1 hn with rfl | hn
      · cases hl : look n (killAll r (s.kill n)).m with
        | none => exact hl
        | some mb => exact absurd rfl (hk n (h3 n (by rw [hl]; simp))).1
      · exact h2 n hn
    · rw [show killAll (k :: r) s = killAll r (s.kill k) from rfl, h4]
      show n ∈ r ∨ n ∈ k :: s.k ↔ _
      simp only [List.mem_cons]
      constructor
      · rintro (h | h | h)
        · exact .inl (.inr h)
        · exact .inl (.inl h)
        · exact .inr h
      · rintro ((h | h) | h)
        · exact .inr (.inl h)
        · exact .inl h
        · exact .inr (.inr h)

theorem mem_names {n : Nat} : ∀ {m : Mem}, look n m ≠ none → n ∈ m.map (·.1)
  | [], h => absurd rfl h
  | (k, b) :: r, h => by
    simp only [look] at h
    by_cases e : k = n
    · subst e; simp
    · rw [beq_ne e] at h
      exact List.mem_cons_of_mem _ (mem_names h)

theorem RC.named {sh : Sh} {x : C} {v : Value} (h : RC μ I w sh x v) {n : Nat} (hn : x.has n = true) : sh n ≠ none := by
  cases x with
  | ref k i o => simp only [C.has] at hn; obtain rfl := Nat.eq_of_beq_eq_true hn; obtain ⟨_, _, _, _, _, k2, _⟩ := h; rw [k2]; simp
  | mfull k => simp only [C.has] at hn; obtain rfl := Nat.eq_of_beq_eq_true hn; obtain ⟨_, _, _, _, k2, _⟩ := h; rw [k2]; simp
  | msl k s l cp => simp only [C.has] at hn; obtain rfl := Nat.eq_of_beq_eq_true hn; obtain ⟨_, _, _, _, _, _, ⟨_, _, k2, _⟩, _⟩ := h; rw [k2]; simp
  | _ => simp [C.has] at hn

theorem shp_none {m : Mem} {n : Nat} : shp m n = none ↔ look n m = none := by simp [shp]

/-- What it does to the whole. -/
theorem join_ok (h0 : Rel g s a w μ I) (ns : List Nat) {s' : St} {dst : Option Tmp} {v : Value} {w' : World} (hs : Ok (cfgOf w I (memAt s.m ns) μ) s' (a.put dst v) w') : Ok g (s.join ns dst s') (a.put dst v) w' := by
  obtain ⟨μ1, I1, r⟩ := hs
  obtain ⟨h, hgone, hsub, hk⟩ := killAll_rel (goneOf ns s') h0
  unfold St.join St.mix
  simp only
  have hin : ∀ n, look n s'.m ≠ none → n ∈ ns ∨ n ∈ goneOf ns s' := by
    intro n hn
    by_cases hm : n ∈ ns
    · exact .inl hm
    · refine .inr (List.mem_append.2 (.inr (List.mem_filter.2 ⟨mem_names hn, ?_⟩)))
      cases hb : memb n ns with
      | true => exact absurd (memb_iff.1 hb) hm
      | false => rfl
  have hsk : ∀ n, n ∉ goneOf ns s' → n ∉ s'.k := fun n hn hm => hn (List.mem_append.2 (.inl hm))
  have hshape1 : ∀ n, look n (killAll (goneOf ns s') s).m ≠ none → shp (killAll (goneOf ns s') s).m n = shp s.m n := by
    have gen : ∀ (l : List Nat) (s : St) (n : Nat), look n (killAll l s).m ≠ none → shp (killAll l s).m n = shp s.m n := by
      intro l
      induction l with
      | nil => intro s n _; rfl
      | cons k l ih =>
        intro s n hn
        have e1 := ih (s.kill k) n hn
        refine e1.trans ?_
        have : look n (s.kill k).m ≠ none := fun e => hn (shp_none.1 (e1.trans (shp_none.2 e)))
        by_cases e : n = k
        · subst e; exact absurd (by simp [St.kill, look_map, look_delm_same]) this
        · exact shp_kill_other e s.m
    exact fun n hn => gen _ s n hn
  generalize killAll (goneOf ns s') s = s1 at h hgone hsub hk hshape1 ⊢
  let μ' : Nm := fun n => if (look n s'.m).isSome then μ1 n else μ n
  let m' : Mem := s'.m ++ memBut ns s1.m
  have hlook : ∀ n, look n m' = match look n s'.m with | some x => some x | none => if n ∈ ns then none else look n s1.m := by
    intro n
    show look n (s'.m ++ memBut ns s1.m) = _
    rw [look_append]
    cases look n s'.m with
    | some x => rfl
    | none => simp only; rw [look_memBut]
  have in1 : ∀ n, look n s'.m ≠ none → μ' n = μ1 n ∧ look n m' = look n s'.m := by
    intro n hn
    cases hl : look n s'.m with
    | none => exact absurd hl hn
    | some x => exact ⟨by show (if (look n s'.m).isSome then _ else _) = _; rw [hl]; rfl, by rw [hlook, hl]⟩
  have out1 : ∀ n, look n s'.m = none → μ' n = μ n ∧ look n m' = if n ∈ ns then none else look n s1.m := by
    intro n hl
    exact ⟨by show (if (look n s'.m).isSome then _ else _) = _; rw [hl]; rfl, by rw [hlook, hl]⟩
  -- names that are still there
  have stay : ∀ n, look n s1.m ≠ none → μ' n = μ n ∧ shp m' n = shp s1.m n := by
    intro n hn
    have hng : n ∉ goneOf ns s' := fun hm => hn (hgone n hm)
    by_cases hm : n ∈ ns
    · have hl0 : look n (memAt s.m ns) ≠ none := by
        rw [look_memAt, if_pos hm]
        intro e
        exact hsub n hn (by simpa using e)
      obtain ⟨k1, k2⟩ := r.kept n hl0 (hsk n hng)
      have k2 : shp s'.m n = shp (memAt s.m ns) n := k2
      have hl' : look n s'.m ≠ none := fun e => hl0 (shp_none.1 (k2.symm.trans (shp_none.2 e)))
      obtain ⟨j1, j2⟩ := in1 n hl'
      refine ⟨j1.trans k1, ?_⟩
      show (look n m').map _ = _
      rw [j2]
      exact k2.trans ((shp_memAt ns s.m hm).trans (hshape1 n hn).symm)
    · have hl' : look n s'.m = none := by
        cases hl : look n s'.m with
        | none => rfl
        | some x => rcases hin n (by rw [hl]; simp) with k | k; exact absurd k hm; exact absurd k hng
      obtain ⟨j1, j2⟩ := out1 n hl'
      refine ⟨j1, ?_⟩
      show (look n m').map _ = _
      rw [j2, if_neg hm]; rfl
  have hlive : ∀ b, Live (memAt s.m ns) μ b → ∃ n q, n ∈ ns ∧ look n s.m ≠ none ∧ μ n = some (b, q) := by
    rintro b ⟨n, q, hn, hμ⟩
    rw [look_memAt] at hn
    split at hn
    · rename_i hm; exact ⟨n, q, hm, hn, hμ⟩
    · exact absurd rfl hn
  have hst : ∀ t, Stays (I t) w w' := fun t b hb => by
    have hb' : I true b := by cases t; exact h.isub b hb; exact hb
    refine r.keep b (h.ilt b hb') (fun hl => ?_)
    obtain ⟨n, q, _, hn, hμ⟩ := hlive b hl
    exact h0.sep n b q hn hμ hb'
  have hI : ∀ t b, I t b → I1 t b := r.i0
  have hRC : ∀ x u, RC μ I w (shp s1.m) x u → RC μ' I1 w' (shp m') x u := fun x u hx => hx.same hI hst (fun k hk => stay k (fun e => hx.named hk (shp_none.2 e)))
  have hRC1 : ∀ x u, RC μ1 I1 w' (shp s'.m) x u → RC μ' I1 w' (shp m') x u := fun x u hx => hx.same (fun _ _ k => k) (fun t => stays_refl _ _) (fun k hk => by
    have hl : look k s'.m ≠ none := fun e => hx.named hk (shp_none.2 e)
    obtain ⟨j1, j2⟩ := in1 k hl
    refine ⟨j1, ?_⟩
    show (look k m').map _ = _
    rw [j2]; rfl)
  -- a name of m' is of s'.m, or of s1.m and not of ns
  have cases' : ∀ n, look n m' ≠ none → (look n s'.m ≠ none ∧ μ' n = μ1 n) ∨ (look n s'.m = none ∧ n ∉ ns ∧ look n s1.m ≠ none ∧ μ' n = μ n) := by
    intro n hn
    cases hl : look n s'.m with
    | some x => exact .inl ⟨by simp, (in1 n (by rw [hl]; simp)).1⟩
    | none =>
      obtain ⟨j1, j2⟩ := out1 n hl
      rw [j2] at hn
      split at hn
      · exact absurd rfl hn
      · rename_i hm; exact .inr ⟨rfl, hm, hn, j1⟩
  have apart : ∀ n b q, n ∉ ns → look n s1.m ≠ none → μ n = some (b, q) → ¬ Live (memAt s.m ns) μ b := by
    intro n b q hm hn hμ hl
    obtain ⟨n', q', hm', hn', hμ'⟩ := hlive b hl
    have := h0.inj n n' b q q' hμ hμ' (hsub n hn) hn'
    exact hm (this ▸ hm')
  have hM : Rel g ⟨s1.t, m', s1.k⟩ a w' μ' I1 := by
    refine { mem := ?_, inj := ?_, sep := ?_, isub := r.isub, ilt := r.ilt, i0 := fun t b hb => hI t b (h.i0 t b hb), inew := ?_, live := ?_, os := r.os.trans h.os, tape := r.tape.trans h.tape, output := r.output.trans h.output, size := Nat.le_trans h.size r.size, keep := ?_, tm := fun i => (h.tm i).imp hRC, len := h.len, dfr := h.dfr, kept := ?_ }
    · intro n mb hn
      rcases cases' n (by rw [show look n m' = _ from hn]; simp) with ⟨hl, hμ⟩ | ⟨hl, hm, hn1, hμ⟩
      · have hn : look n m' = some mb := hn
        rw [(in1 n hl).2] at hn
        rcases r.mem n mb hn with ⟨b, q, e, hb⟩ | ⟨e, x⟩
        · refine .inl ⟨b, q, hμ.trans e, ?_⟩
          have := hb.map (φ := id) (μ' := μ') (I' := I1) (w' := w') (sh' := shp m') hRC1 (fun _ _ k => k) (fun t => stays_refl _ _) rfl
          have eid : mb.mapC id = mb := by cases mb <;> simp [MB.mapC]
          rwa [eid] at this
        · exact .inr ⟨hμ.trans e, x⟩
      · have hn : look n m' = some mb := hn
        rw [(out1 n hl).2, if_neg hm] at hn
        rcases h.mem n mb hn with ⟨b, q, e, hb⟩ | ⟨e, x⟩
        · refine .inl ⟨b, q, hμ.trans e, ?_⟩
          have := hb.map (φ := id) (μ' := μ') (I' := I1) (w' := w') (sh' := shp m') hRC hI hst (r.keep b hb.lt (apart n b q hm hn1 e))
          have eid : mb.mapC id = mb := by cases mb <;> simp [MB.mapC]
          rwa [eid] at this
        · exact .inr ⟨hμ.trans e, x⟩
    · intro n1 n2 b q q' e1 e2 h1 h2
      rcases cases' n1 h1 with ⟨l1, m1⟩ | ⟨l1, k1, j1, m1⟩ <;> rcases cases' n2 h2 with ⟨l2, m2⟩ | ⟨l2, k2, j2, m2⟩
      · exact r.inj n1 n2 b q q' (m1 ▸ e1) (m2 ▸ e2) l1 l2
      · rw [m2] at e2
        rcases r.live n1 b q l1 (m1 ▸ e1) with k | k
        · exact absurd k (apart n2 b q' k2 j2 e2)
        · have := h.live_lt j2 e2
          have k : w.heap.size ≤ b := k
          omega
      · rw [m1] at e1
        rcases r.live n2 b q' l2 (m2 ▸ e2) with k | k
        · exact absurd k (apart n1 b q k1 j1 e1)
        · have := h.live_lt j1 e1
          have k : w.heap.size ≤ b := k
          omega
      · exact h.inj n1 n2 b q q' (m1 ▸ e1) (m2 ▸ e2) j1 j2
    · intro n b q hn e hi
      rcases cases' n hn with ⟨l1, m1⟩ | ⟨l1, k1, j1, m1⟩
      · exact r.sep n b q l1 (m1 ▸ e) hi
      · rw [m1] at e
        rcases r.inew true b hi with k | k | k
        · exact h.sep n b q j1 e k
        · exact apart n b q k1 j1 e k
        · have := h.live_lt j1 e
          have k : w.heap.size ≤ b := k
          omega
    · intro t b hb
      rcases r.inew t b hb with k | k | k
      · exact h.inew t b k
      · obtain ⟨n, q, _, hn, hμ⟩ := hlive b k
        exact .inr (h0.live n b q hn hμ)
      · exact .inr (.inr (Nat.le_trans h.size k))
    · intro n b q hn e
      rcases cases' n hn with ⟨l1, m1⟩ | ⟨l1, k1, j1, m1⟩
      · rcases r.live n b q l1 (m1 ▸ e) with k | k
        · obtain ⟨n', q', _, hn', hμ'⟩ := hlive b k
          exact h0.live n' b q' hn' hμ'
        · exact .inr (Nat.le_trans h.size k)
      · exact h.live n b q j1 (m1 ▸ e)
    · intro b hlt hL
      rw [r.keep b (Nat.lt_of_lt_of_le hlt h.size) (fun hl => ?_)]
      · exact h.keep b hlt hL
      · obtain ⟨n, q, _, hn, hμ⟩ := hlive b hl
        rcases h0.live n b q hn hμ with k | k
        · exact hL k
        · omega
    · intro n hn hnk
      obtain ⟨k1, k2⟩ := h.kept n hn hnk
      have k2 : shp s1.m n = shp g.m0 n := k2
      have hl : look n s1.m ≠ none := fun e => hn (shp_none.1 (k2.symm.trans (shp_none.2 e)))
      obtain ⟨j1, j2⟩ := stay n hl
      exact ⟨j1.trans k1, j2.trans k2⟩
  refine ⟨μ', I1, ?_⟩
  cases dst with
  | none => exact hM
  | some k =>
    refine hM.putd (dst := some k) (d := s'.t.getD k (.c .bad)) (v := v) ?_
    have ht := r.tm k
    have hlen : s'.t.length = a.tmps.size := by
      have := r.len
      simpa [Act.put] using this
    by_cases hk : k < a.tmps.size
    · have e : (a.put (some k) v).tmps.getD k undef = v := by simp [Act.put, hk]
      rw [e] at ht
      exact ht.imp hRC1
    · have e : s'.t.getD k (.c .bad) = .c .bad := by
        simp only [List.getD]
        have hle : s'.t.length ≤ k := by rw [hlen]; exact Nat.not_lt.1 hk
        rw [List.getElem?_eq_none hle]; rfl
      rw [e]
      exact trivial

end Go.PI
