/- How a state is told at a loop's head is right. -/
import Derived.Test.YtnhiplibodkciaaPIr
namespace Go.PI
open Go.RowKit

variable {P : Program} {c : Ctx} {g : Cfg} {s st : St} {a : Act} {w : World} {μ : Nm} {I : Bool → Nat → Prop}

/-- Memory is told anew. -/
theorem Rel.remem (h : Rel g s a w μ I) {m' : Mem} (hn : ∀ k, look k m' = none ↔ look k s.m = none)
    (hm : ∀ k mb mb', look k s.m = some mb → look k m' = some mb' → mb'.shape = mb.shape ∧ (∀ b q, BR μ I w (shp s.m) mb b q → BR μ I w (shp s.m) mb' b q) ∧ (∀ t e τ, mb = .ar t e τ [] → ∃ t', mb' = .ar t' e τ [])) : Rel g ⟨s.t, m', s.k⟩ a w μ I := by
  have hsh : shp m' = shp s.m := by
    funext k
    unfold shp
    cases h1 : look k s.m with
    | none => rw [(hn k).2 h1]
    | some mb =>
      cases h2 : look k m' with
      | none => rw [(hn k).1 h2] at h1; cases h1
      | some mb' => simp [(hm k mb mb' h1 h2).1]
  have hl : ∀ k, look k m' ≠ none → look k s.m ≠ none := fun k hk e => hk ((hn k).2 e)
  refine { mem := ?_, inj := ?_, sep := ?_, isub := h.isub, ilt := h.ilt, i0 := h.i0, inew := h.inew, live := ?_, os := h.os, tape := h.tape, output := h.output, size := h.size, keep := h.keep, tm := ?_, len := h.len, dfr := h.dfr, kept := ?_ }
  · intro k mb' hk
    show (∃ b q, _ ∧ BR μ I w (shp m') mb' b q) ∨ _
    rw [hsh]
    cases h1 : look k s.m with
    | none => exact absurd h1 (hl k (by rw [hk]; simp))
    | some mb =>
      obtain ⟨_, h2, h3⟩ := hm k mb mb' h1 hk
      rcases h.mem k mb h1 with ⟨b, q, e, hb⟩ | ⟨e, t, el, τ, rfl⟩
      · exact .inl ⟨b, q, e, h2 b q hb⟩
      · obtain ⟨t', e'⟩ := h3 _ _ _ rfl
        exact .inr ⟨e, t', _, _, e'⟩
  · exact fun n1 n2 b q q' e1 e2 h1 h2 => h.inj n1 n2 b q q' e1 e2 (hl _ h1) (hl _ h2)
  · exact fun n1 b q h1 e => h.sep n1 b q (hl _ h1) e
  · exact fun n1 b q h1 e => h.live n1 b q (hl _ h1) e
  · intro i
    show RD μ I w (shp m') _ _
    rw [hsh]
    exact h.tm i
  · intro n h1 h2
    have := h.kept n h1 h2
    exact ⟨this.1, (congrFun hsh n).trans this.2⟩

theorem Rel.remem_k (h : Rel g s a w μ I) : Rel g ⟨s.t, s.m, s.k⟩ a w μ I := h

theorem tellC_ok {sh : Sh} (hs : ∀ b, I false b → I true b) {x : C} {v : Value} (hx : RC μ I w sh x v) (b : Bool) (τ : Ty) : RC μ I w sh (x.tell b τ) v := by
  unfold C.tell
  split
  · rename_i b' y hy
    cases hb : b || !b' || !τ.hasP with
    | false => exact trivial
    | true =>
      cases hp : τ.hasP with
      | false => exact VK.noP hp (asTyC_ok hx hy)
      | true =>
      rw [hp] at hb
      refine VK.up (t := b') (u := b) (fun n hn => ?_) (asTyC_ok hx hy)
      cases b with
      | true => cases b'; exact hs n hn; exact hn
      | false => cases b'; exact hn; simp at hb
  · exact trivial

theorem tellD_ok {sh : Sh} (hs : ∀ b, I false b → I true b) {x : D} {v : Value} (hx : RD μ I w sh x v) (b : Bool) (τ : Ty) : RD μ I w sh (x.tell b τ) v := by
  unfold D.tell
  split
  · rename_i b' y hy
    cases hb : b || !b' || !τ.hasP with
    | false => exact trivial
    | true =>
      cases hp : τ.hasP with
      | false => exact VK.noP hp (asTy_ok hs hy hx)
      | true =>
      rw [hp] at hb
      refine VK.up (t := b') (u := b) (fun n hn => ?_) (asTy_ok hs hy hx)
      cases b with
      | true => cases b'; exact hs n hn; exact hn
      | false => cases b'; exact hn; simp at hb
  · exact trivial

theorem tellT_len (l : List (Nat × Kd)) : ∀ (i : Nat) (t : List D), (tellT l i t).length = t.length
  | _, [] => rfl
  | i, d :: r => by simp [tellT, tellT_len l (i + 1) r]

theorem tellT_get (l : List (Nat × Kd)) : ∀ (i : Nat) (t : List D) (j : Nat), (tellT l i t)[j]? = t[j]?.map fun d => match findK (i + j) l with
    | none => .c .bad
    | some (.as b τ) => d.tell b τ
    | _ => d
  | _, [], j => by simp [tellT]
  | i, d :: r, 0 => by simp [tellT]; rfl
  | i, d :: r, j + 1 => by
    simp only [tellT, List.getElem?_cons_succ, tellT_get l (i + 1) r j]
    rw [show i + 1 + j = i + (j + 1) by omega]

theorem Rel.tellT (h : Rel g s a w μ I) (l : List (Nat × Kd)) : Rel g ⟨tellT l 0 s.t, s.m, s.k⟩ a w μ I := by
  refine { toMRel := h.toMRel, tm := ?_, len := by rw [← h.len]; exact tellT_len l 0 s.t, dfr := h.dfr, kept := h.kept }
  intro i
  have hi := h.tm i
  show RD μ I w (shp s.m) ((Go.PI.tellT l 0 s.t).getD i (.c .bad)) _
  simp only [List.getD, tellT_get] at hi ⊢
  cases hd : s.t[i]? with
  | none => exact trivial
  | some d =>
    rw [hd] at hi
    simp only [Option.map_some, Option.getD_some] at hi ⊢
    split
    · exact trivial
    · exact tellD_ok h.isub hi _ _
    · exact hi

/-- The value that lies at a place. -/
theorem at_ok (h : Rel g s a w μ I) (p : Pl) {x' : C} (hx : ∀ v, RC μ I w (shp s.m) (s.at p) v → RC μ I w (shp s.m) x' v) : Rel g (s.to x' p) a w μ I := by
  cases p with
  | slot i =>
    refine h.retell (d := .c x') ?_
    refine hx _ ?_
    have hi := h.tm i
    unfold St.at
    simp only
    cases hd : s.t.getD i (.c .bad) with
    | c x => rw [hd] at hi; exact hi
    | agg l => exact trivial
    | tup l => exact trivial
    | fn f l => exact trivial
  | cell n j =>
    unfold St.to
    simp only
    split
    · rename_i l hl
      have hat : s.at (.cell n j) = l.getD j .bad := by unfold St.at; simp only [hl]
      rw [hat] at hx
      refine h.remem (m' := setm n (.dv (l.set j x')) s.m) (fun k => ?_) (fun k mb mb' h1 h2 => ?_)
      · by_cases e : k = n
        · subst e; rw [look_setm_same, hl]; simp
        · rw [look_setm_other _ e]
      · by_cases e : k = n
        · subst e
          rw [look_setm_same] at h2
          rw [hl] at h1
          obtain rfl := Option.some.inj h1
          obtain rfl := Option.some.inj h2
          refine ⟨by simp [MB.shape], fun b q ⟨cur, el, hh, hq, hk, h1⟩ => ⟨cur, el, hh, hq, ⟨by rw [List.length_set]; exact hk.1, fun i c v hc hv => ?_⟩, h1⟩, fun t e τ h3 => by cases h3⟩
          rw [List.getElem?_set] at hc
          split at hc
          · rename_i hij
            subst hij
            split at hc
            · rename_i hlt
              obtain rfl := Option.some.inj hc
              refine hx v ?_
              have := hk.2 j _ v (List.getElem?_eq_getElem hlt) hv
              rwa [List.getD_eq_getElem?_getD, List.getElem?_eq_getElem hlt]
            · cases hc
          · exact hk.2 i c v hc hv
        · rw [look_setm_other _ e] at h2
          rw [h1] at h2
          obtain rfl := Option.some.inj h2
          exact ⟨rfl, fun _ _ k => k, fun t e τ k => ⟨t, k⟩⟩
    · exact h

theorem ren_C {μ' : Nm} {sh sh' : Sh} {n N : Nat} (e1 : μ' N = μ n) (e2 : sh' N = sh n) (h1 : ∀ k, k ≠ n → k ≠ N → μ' k = μ k) (h2 : ∀ k, k ≠ n → k ≠ N → sh' k = sh k) (hN : sh N = none) {x : C} {v : Value} (hx : RC μ I w sh x v) : RC μ' I w sh' (x.ren n N) v := by
  have key : ∀ k, (∃ z, sh k = some z) → μ' (renN n N k) = μ k ∧ sh' (renN n N k) = sh k := by
    intro k ⟨z, hz⟩
    unfold renN
    cases hk : Nat.beq k n with
    | true => obtain rfl := Nat.eq_of_beq_eq_true hk; exact ⟨e1, e2⟩
    | false =>
      have a1 : k ≠ n := fun e => by subst e; rw [beq_same] at hk; cases hk
      have a2 : k ≠ N := fun e => by subst e; rw [hN] at hz; cases hz
      exact ⟨h1 k a1 a2, h2 k a1 a2⟩
  cases x with
  | ref k i o =>
    obtain ⟨b, q, len, z, k1, k2, k3, k4⟩ := hx
    obtain ⟨a1, a2⟩ := key k ⟨_, k2⟩
    have : C.ren n N (.ref k i o) = .ref (renN n N k) i o := by unfold C.ren renN; simp only; cases Nat.beq k n <;> rfl
    rw [this]
    exact ⟨b, q, len, z, a1.trans k1, a2.trans k2, k3, k4⟩
  | mfull k =>
    obtain ⟨len, z, A, cap, k1, k2, k3, k4, k5⟩ := hx
    obtain ⟨a1, a2⟩ := key k ⟨_, k1⟩
    have : C.ren n N (.mfull k) = .mfull (renN n N k) := by unfold C.ren renN; simp only; cases Nat.beq k n <;> rfl
    rw [this]
    refine ⟨len, z, A, cap, a2.trans k1, k2, k3, k4, ?_⟩
    unfold OwnAt at *
    rw [a1, a2]
    exact k5
  | msl k s l cp =>
    obtain ⟨A, cap, k1, k2, k3, k4, ⟨len, z, k5, k6, k7⟩, k8⟩ := hx
    obtain ⟨a1, a2⟩ := key k ⟨_, k5⟩
    have : C.ren n N (.msl k s l cp) = .msl (renN n N k) s l cp := by unfold C.ren renN; simp only; cases Nat.beq k n <;> rfl
    rw [this]
    refine ⟨A, cap, k1, k2, k3, k4, ⟨len, z, a2.trans k5, k6, fun hl => by rw [a1]; exact k7 hl⟩, fun p1 p2 => ?_⟩
    have := k8 p1 p2
    unfold OwnAt at *
    rw [a1, a2]
    exact this
  | ty b τ y => exact hx
  | tt => exact hx
  | ff => exact hx
  | eref t τ xs i o => exact hx
  | nils => exact hx
  | nilp => exact hx
  | bad => exact hx

theorem D.ren_map (n N : Nat) : D.ren n N = D.map (C.ren n N) := by funext d; cases d <;> rfl
theorem MB.ren_map (n N : Nat) (mb : MB) : MB.ren n N mb = MB.mapC (C.ren n N) mb := by cases mb <;> rfl

theorem look_ren {n N : Nat} : ∀ {m : Mem}, look N m = none → ∀ k, look k (m.map fun p => (renN n N p.1, p.2.ren n N)) = if k = N then (look n m).map (MB.ren n N) else if k = n then none else (look k m).map (MB.ren n N)
  | [], _, k => by simp [look]
  | (j, b) :: r, h, k => by
    simp only [look] at h
    have hj : j ≠ N := fun e => by subst e; rw [beq_same] at h; cases h
    have hr : look N r = none := by rw [beq_ne hj] at h; exact h
    have ih := look_ren (n := n) hr k
    simp only [List.map_cons, look, ih]
    unfold renN
    cases hjn : Nat.beq j n with
    | true =>
      obtain rfl := Nat.eq_of_beq_eq_true hjn
      simp only [cond_true]
      by_cases hk : k = N
      · subst hk; rw [beq_same]; simp
      · rw [beq_ne (Ne.symm hk), if_neg hk]
        by_cases hk2 : k = j
        · subst hk2; rw [if_pos rfl, if_neg hk, if_pos rfl]; rfl
        · rw [if_neg hk2, if_neg hk, if_neg hk2, beq_ne (Ne.symm hk2)]; rfl
    | false =>
      simp only [cond_false]
      have hjn' : j ≠ n := fun e => by subst e; rw [beq_same] at hjn; cases hjn
      by_cases hk : k = N
      · subst hk; rw [beq_ne hj]; simp
      · rw [if_neg hk]
        by_cases hk2 : k = n
        · subst hk2; rw [if_neg hk, if_pos rfl, if_pos rfl, hjn]; rfl
        · rw [if_neg hk, if_neg hk2, if_neg hk2]
          cases Nat.beq j k <;> rfl

theorem Rel.ren (h : Rel g s a w μ I) (n N : Nat) (hne : n ≠ N) : Ok g (s.ren n N) a w := by
  have h := h.kill N
  have e0 : s.ren n N = ⟨(s.kill N).t.map (D.ren n N), (s.kill N).m.map fun p => (renN n N p.1, p.2.ren n N), n :: (s.kill N).k⟩ := rfl
  have hN : look N (s.kill N).m = none := by simp [St.kill, look_map, look_delm_same]
  have hkN : N ∈ (s.kill N).k := List.mem_cons_self
  rw [e0]
  generalize s.kill N = s at h hN hkN
  let μ' : Nm := fun k => if k = N then μ n else if k = n then none else μ k
  have m1 : μ' N = μ n := if_pos rfl
  have m2 : ∀ k, k ≠ n → k ≠ N → μ' k = μ k := fun k h1 h2 => by show (if k = N then _ else if k = n then _ else _) = _; rw [if_neg h2, if_neg h1]
  have hlk := look_ren (n := n) hN
  have hshape : ∀ mb : MB, (MB.ren n N mb).shape = mb.shape := fun mb => by rw [MB.ren_map]; exact MB.shape_map _ _
  have s1 : shp (s.m.map fun p => (renN n N p.1, p.2.ren n N)) N = shp s.m n := by
    unfold shp; rw [hlk, if_pos rfl, Option.map_map]; congr 1; funext mb; exact hshape mb
  have s2 : ∀ k, k ≠ n → k ≠ N → shp (s.m.map fun p => (renN n N p.1, p.2.ren n N)) k = shp s.m k := fun k h1 h2 => by
    unfold shp; rw [hlk, if_neg h2, if_neg h1, Option.map_map]; congr 1; funext mb; exact hshape mb
  have s3 : shp s.m N = none := by simp [shp, hN]
  have hRC : ∀ x v, RC μ I w (shp s.m) x v → RC μ' I w (shp (s.m.map fun p => (renN n N p.1, p.2.ren n N))) (x.ren n N) v := fun x v hx => ren_C m1 s1 m2 s2 s3 hx
  -- what lies under a name behind it lay under one ahead of it
  have src : ∀ k mb', look k (s.m.map fun p => (renN n N p.1, p.2.ren n N)) = some mb' → ∃ j mb, look j s.m = some mb ∧ mb' = mb.ren n N ∧ μ' k = μ j ∧ k = renN n N j := by
    intro k mb' hk
    rw [hlk] at hk
    by_cases e1 : k = N
    · rw [if_pos e1] at hk
      obtain ⟨mb, h1, rfl⟩ := Option.map_eq_some_iff.1 hk
      exact ⟨n, mb, h1, rfl, by rw [e1]; exact m1, by rw [e1]; unfold renN; rw [beq_same]; rfl⟩
    · rw [if_neg e1] at hk
      by_cases e2 : k = n
      · rw [if_pos e2] at hk; cases hk
      · rw [if_neg e2] at hk
        obtain ⟨mb, h1, rfl⟩ := Option.map_eq_some_iff.1 hk
        exact ⟨k, mb, h1, rfl, m2 k e2 e1, by unfold renN; rw [beq_ne e2]; rfl⟩
  have srcn : ∀ k, look k (s.m.map fun p => (renN n N p.1, p.2.ren n N)) ≠ none → ∃ j, look j s.m ≠ none ∧ μ' k = μ j ∧ k = renN n N j := by
    intro k hk
    cases hl : look k (s.m.map fun p => (renN n N p.1, p.2.ren n N)) with
    | none => exact absurd hl hk
    | some mb' =>
      obtain ⟨j, mb, h1, _, h2, h3⟩ := src k mb' hl
      exact ⟨j, by rw [h1]; simp, h2, h3⟩
  refine ⟨μ', I, { mem := ?_, inj := ?_, sep := ?_, isub := h.isub, ilt := h.ilt, i0 := h.i0, inew := h.inew, live := ?_, os := h.os, tape := h.tape, output := h.output, size := h.size, keep := h.keep, tm := ?_, len := ?_, dfr := h.dfr, kept := ?_ }⟩
  · intro k mb' hk
    obtain ⟨j, mb, h1, rfl, h2, _⟩ := src k mb' hk
    rcases h.mem j mb h1 with ⟨b, q, e, hb⟩ | ⟨e, t, el, τ, rfl⟩
    · refine .inl ⟨b, q, h2.trans e, ?_⟩
      rw [MB.ren_map]
      exact hb.map hRC (fun _ _ k => k) (fun t => stays_refl _ _) rfl
    · exact .inr ⟨h2.trans e, t, el, τ, rfl⟩
  · intro n1 n2 b q q' e1 e2 h1 h2
    obtain ⟨j1, a1, a2, a3⟩ := srcn n1 h1
    obtain ⟨j2, b1, b2, b3⟩ := srcn n2 h2
    have := h.inj j1 j2 b q q' (a2 ▸ e1) (b2 ▸ e2) a1 b1
    rw [a3, b3, this]
  · intro n1 b q h1 e1
    obtain ⟨j1, a1, a2, a3⟩ := srcn n1 h1
    exact h.sep j1 b q a1 (a2 ▸ e1)
  · intro n1 b q h1 e1
    obtain ⟨j1, a1, a2, a3⟩ := srcn n1 h1
    exact h.live j1 b q a1 (a2 ▸ e1)
  · intro i
    show RD _ _ _ _ ((s.t.map (D.ren n N)).getD i (.c .bad)) _
    rw [D.ren_map, getD_map (by simp [C.ren])]
    exact (h.tm i).map hRC
  · show (s.t.map _).length = _
    rw [List.length_map]; exact h.len
  · intro k h1 h2
    have a1 : k ≠ n := fun e => h2 (by subst e; exact List.mem_cons_self)
    have a2 : k ≠ N := fun e => h2 (by subst e; exact List.mem_cons_of_mem _ hkN)
    obtain ⟨k1, k2⟩ := h.kept k h1 (fun hm => h2 (List.mem_cons_of_mem _ hm))
    exact ⟨(m2 k a1 a2).trans k1, (s2 k a1 a2).trans k2⟩

/-- An empty row has a name. -/
theorem Rel.row0 (h : Rel g s a w μ I) (N : Nat) (b : Bool) (e : Nat) (τ : Ty) : ∃ μ', Rel g ⟨(s.kill N).t, (N, .ar b e τ []) :: (s.kill N).m, (s.kill N).k⟩ a w μ' I ∧ μ' N = none ∧ ∀ sh, (∃ z, sh N = some (0, z)) → RC μ' I w sh (.mfull N) (.slice none 0 0) := by
  have h := h.kill N
  have hN : look N (s.kill N).m = none := by simp [St.kill, look_map, look_delm_same]
  have hkN : N ∈ (s.kill N).k := List.mem_cons_self
  generalize s.kill N = s at h hN hkN
  let μ' : Nm := fun k => if k = N then none else μ k
  have m1 : μ' N = none := if_pos rfl
  have m2 : ∀ k, k ≠ N → μ' k = μ k := fun k h2 => if_neg h2
  have hl : ∀ k, k ≠ N → look k ((N, MB.ar b e τ []) :: s.m) = look k s.m := fun k hk => by simp [look, beq_ne (Ne.symm hk)]
  have s2 : ∀ k, k ≠ N → shp ((N, MB.ar b e τ []) :: s.m) k = shp s.m k := fun k hk => by unfold shp; rw [hl k hk]
  have s3 : shp s.m N = none := by simp [shp, hN]
  have hRC : ∀ x v, RC μ I w (shp s.m) x v → RC μ' I w (shp ((N, MB.ar b e τ []) :: s.m)) x v := by
    intro x v hx
    cases hh : x.has N with
    | true =>
      cases x with
      | ref n i o => simp only [C.has] at hh; obtain rfl := Nat.eq_of_beq_eq_true hh; obtain ⟨_, _, _, _, _, k, _⟩ := hx; rw [s3] at k; cases k
      | mfull n => simp only [C.has] at hh; obtain rfl := Nat.eq_of_beq_eq_true hh; obtain ⟨_, _, _, _, k, _⟩ := hx; rw [s3] at k; cases k
      | msl n s l cp => simp only [C.has] at hh; obtain rfl := Nat.eq_of_beq_eq_true hh; obtain ⟨_, _, _, _, _, _, ⟨_, _, k, _⟩, _⟩ := hx; rw [s3] at k; cases k
      | _ => simp [C.has] at hh
    | false => exact hx.same (fun _ _ k => k) (fun t => stays_refl _ _) (fun k hk => ⟨m2 k (has_beq hk hh), s2 k (has_beq hk hh)⟩)
  have hne : ∀ k b q, μ' k = some (b, q) → k ≠ N := fun k b q hk e => by rw [e, m1] at hk; cases hk
  refine ⟨μ', { mem := ?_, inj := ?_, sep := ?_, isub := h.isub, ilt := h.ilt, i0 := h.i0, inew := h.inew, live := ?_, os := h.os, tape := h.tape, output := h.output, size := h.size, keep := h.keep, tm := fun i => (h.tm i).imp hRC, len := h.len, dfr := h.dfr, kept := ?_ }, m1, ?_⟩
  · intro k mb' hk
    by_cases ek : k = N
    · subst ek
      simp only [look, beq_same, cond_true] at hk
      obtain rfl := Option.some.inj hk
      exact .inr ⟨m1, _, _, _, rfl⟩
    · rw [hl k ek] at hk
      rcases h.mem k mb' hk with ⟨b1, q1, e1, hb1⟩ | ⟨e1, r⟩
      · refine .inl ⟨b1, q1, (m2 k ek).trans e1, ?_⟩
        have := hb1.map (φ := id) (μ' := μ') (I' := I) (w' := w) (sh' := shp ((N, MB.ar b e τ []) :: s.m)) hRC (fun _ _ k => k) (fun t => stays_refl _ _) rfl
        have eid : mb'.mapC id = mb' := by cases mb' <;> simp [MB.mapC]
        rwa [eid] at this
      · exact .inr ⟨(m2 k ek).trans e1, r⟩
  · intro n1 n2 b q q' e1 e2 h1 h2
    have a1 := hne _ _ _ e1
    have a2 := hne _ _ _ e2
    rw [m2 _ a1] at e1
    rw [m2 _ a2] at e2
    exact h.inj n1 n2 b q q' e1 e2 (by rwa [hl _ a1] at h1) (by rwa [hl _ a2] at h2)
  · intro n1 b q h1 e1
    have a1 := hne _ _ _ e1
    rw [m2 _ a1] at e1
    exact h.sep n1 b q (by rwa [hl _ a1] at h1) e1
  · intro n1 b q h1 e1
    have a1 := hne _ _ _ e1
    rw [m2 _ a1] at e1
    exact h.live n1 b q (by rwa [hl _ a1] at h1) e1
  · intro k h1 h2
    have a2 : k ≠ N := fun e => h2 (by subst e; exact hkN)
    obtain ⟨k1, k2⟩ := h.kept k h1 h2
    exact ⟨(m2 k a2).trans k1, (s2 k a2).trans k2⟩
  · rintro sh ⟨z, hz⟩
    exact ⟨0, z, none, 0, hz, rfl, Nat.le_refl _, by simp, .inl ⟨rfl, rfl⟩⟩

theorem row_ok (h : Rel g s a w μ I) (N : Nat) (b : Bool) (e : Nat) (τ : Ty) (p : Pl) : Ok g (s.row N b e τ p) a w := by
  obtain ⟨μ', h', _, hm⟩ := h.row0 N b e τ
  unfold St.row
  simp only
  split
  · rename_i hat
    refine ⟨μ', I, at_ok h' p fun v hv => ?_⟩
    rw [hat] at hv
    obtain rfl : v = .slice none 0 0 := hv
    exact hm _ ⟨τ.sz, by simp [shp, look, beq_same, MB.shape]⟩
  · exact ⟨μ', I, h'⟩

theorem rowAt_ok (h : Rel g s a w μ I) (N : Nat) (b : Bool) (e : Nat) (τ : Ty) (p : Pl) : Ok g (s.rowAt N b e τ p) a w := by
  unfold St.rowAt
  split
  · exact row_ok h N b e τ p
  · rename_i n hn
    cases hh : Nat.beq n N with
    | true => exact ⟨μ, I, h⟩
    | false => exact h.ren n N (fun e => by subst e; rw [beq_same] at hh; cases hh)
  · exact ⟨μ, I, h⟩

theorem tellAt_ok (h : Ok g s a w) (base : Nat) (p : Pl) (k : Kd) : Ok g (s.tellAt base p k) a w := by
  obtain ⟨μ, I, h⟩ := h
  cases k with
  | keep => exact ⟨μ, I, h⟩
  | as b τ => exact ⟨μ, I, at_ok h p fun v hv => tellC_ok h.isub hv b τ⟩
  | row N b e τ => exact rowAt_ok h _ b e τ p

theorem rowsOf_ok (base : Nat) : ∀ (l : List (Nat × Kd)) {s : St}, Ok g s a w → Ok g (rowsOf base l s) a w
  | [], _, h => h
  | (i, .row N b e τ) :: r, _, h => rowsOf_ok base r (tellAt_ok h base _ _)
  | (i, .keep) :: r, _, h => rowsOf_ok base r h
  | (i, .as b τ) :: r, _, h => rowsOf_ok base r h

theorem cellsOf_ok (base : Nat) : ∀ (l : List (Nat × Nat × Kd)) {s : St}, Ok g s a w → Ok g (cellsOf base l s) a w
  | [], _, h => h
  | (n, j, k) :: r, _, h => cellsOf_ok base r (tellAt_ok h base _ _)

theorem killAll_ok : ∀ (l : List Nat) {s : St}, Ok g s a w → Ok g (killAll l s) a w
  | [], _, h => h
  | n :: r, _, ⟨μ, I, h⟩ => killAll_ok r ⟨μ, I, h.kill n⟩

theorem look_append (n : Nat) : ∀ (m m' : Mem), look n (m ++ m') = match look n m with | some x => some x | none => look n m'
  | [], m' => rfl
  | (k, b) :: r, m' => by
    simp only [List.cons_append, look]
    cases Nat.beq k n with
    | true => rfl
    | false => exact look_append n r m'

theorem look_front (base : Nat) (m : Mem) (n : Nat) : ∀ ns : List (Nat × Bool), look n (front base m ns) = if base ≤ n then (findN (n - base) ns).bind fun b => (look n m).map (MB.raise b) else none
  | [] => by simp [front, look, findN]
  | (k, b) :: r => by
    have ih := look_front base m n r
    simp only [front, findN]
    by_cases hb : base ≤ n
    · rw [if_pos hb] at ih ⊢
      cases hk : Nat.beq k (n - base) with
      | true =>
        have hk := Nat.eq_of_beq_eq_true hk
        obtain rfl : base + k = n := by omega
        split
        · rename_i mb hmb
          simp [look, beq_same, hmb]
        · rename_i hmb
          rw [ih]
          simp [hmb]
      | false =>
        have hne : base + k ≠ n := fun e => by
          rw [show n - base = k by omega, beq_same] at hk; cases hk
        simp only [cond_false]
        split
        · simp only [look, beq_ne hne, cond_false]
          exact ih
        · exact ih
    · rw [if_neg hb] at ih ⊢
      split
      · have hne : base + k ≠ n := by omega
        simp only [look, beq_ne hne, cond_false]
        exact ih
      · exact ih

theorem look_back (base : Nat) (ns : List (Nat × Bool)) (n : Nat) : ∀ m : Mem, look n (back base ns m) = if base ≤ n ∧ (findN (n - base) ns).isSome then none else look n m
  | [] => by simp [back, look]
  | (k, mb) :: r => by
    have ih := look_back base ns n r
    simp only [back]
    cases hc : Nat.ble base k && (findN (k - base) ns).isSome with
    | true =>
      simp only [cond_true, ih, look]
      simp only [Bool.and_eq_true, Nat.ble_eq] at hc
      by_cases hk : k = n
      · subst hk; rw [if_pos hc, if_pos hc]
      · rw [beq_ne hk]; rfl
    | false =>
      simp only [cond_false, look, ih]
      by_cases hk : k = n
      · subst hk
        rw [beq_same]
        have : ¬ (base ≤ k ∧ (findN (k - base) ns).isSome) := fun ⟨h1, h2⟩ => by
          rw [show Nat.ble base k = true from by rw [Nat.ble_eq]; exact h1, h2] at hc; cases hc
        simp [this]
      · rw [beq_ne hk]; rfl

theorem raise_ok {sh : Sh} (hs : ∀ b, I false b → I true b) {mb : MB} (t : Bool) {b q : Nat} (h : BR μ I w sh mb b q) : BR μ I w sh (mb.raise t) b q := by
  obtain ⟨cur, e, h1, h2, h3⟩ := h
  refine ⟨cur, e, h1, h2, ?_⟩
  cases mb with
  | tv t' τ x =>
    cases hp : τ.hasP with
    | false => exact K.noP hp h3
    | true =>
      show K (I (t || (t' && τ.hasP))) w τ x _
      rw [hp, Bool.and_true]
      exact K.up (or_mono hs t t').2 h3
  | ar t' e' τ xs =>
    obtain ⟨h4, cap, h5, h6, h7, h8⟩ := h3
    refine ⟨h4, cap, h5, h6, h7, h8.imp fun _ _ k => ?_⟩
    cases hp : τ.hasP with
    | false => exact K.noP hp k
    | true =>
      rw [Bool.and_true]
      exact k.up (or_mono hs t t').2
  | dv l => exact h3

theorem order_ok (h : Rel g s a w μ I) (base : Nat) (ns : List (Nat × Bool)) : Rel g ⟨s.t, front base s.m ns ++ back base ns s.m, s.k⟩ a w μ I := by
  have hl : ∀ k, look k (front base s.m ns ++ back base ns s.m) = if base ≤ k then (match findN (k - base) ns with | some b => (look k s.m).map (MB.raise b) | none => look k s.m) else look k s.m := by
    intro k
    rw [look_append, look_front, look_back]
    by_cases hb : base ≤ k
    · simp only [if_pos hb, hb, true_and]
      cases hf : findN (k - base) ns with
      | none => simp
      | some b =>
        simp only [Option.bind_some, Option.isSome_some, if_true]
        cases look k s.m <;> rfl
    · simp [hb]
  have hsh : ∀ (b : Bool) (mb : MB), (mb.raise b).shape = mb.shape := fun b mb => by cases mb <;> rfl
  refine h.remem (fun k => ?_) (fun k mb mb' h1 h2 => ?_)
  · rw [hl]
    split
    · split
      · simp
      · exact Iff.rfl
    · exact Iff.rfl
  · rw [hl, h1] at h2
    have fin : mb' = mb ∨ ∃ b, mb' = mb.raise b := by
      split at h2
      · split at h2
        · rename_i b hb; exact .inr ⟨b, (Option.some.inj h2).symm⟩
        · exact .inl (Option.some.inj h2).symm
      · exact .inl (Option.some.inj h2).symm
    rcases fin with rfl | ⟨b, rfl⟩
    · exact ⟨rfl, fun _ _ k => k, fun t e τ k => ⟨t, k⟩⟩
    · exact ⟨hsh b mb, fun b' q k => raise_ok h.isub b k, fun t e τ k => ⟨b || (t && τ.hasP), by rw [k]; rfl⟩⟩

theorem shape_ok (h : Ok g s a w) (base : Nat) (x : Shape) : Ok g (s.shape base x) a w := by
  obtain ⟨μ, I, h⟩ := h
  have h1 : Ok g (cellsOf base x.cells (rowsOf base x.slots ⟨tellT x.slots 0 s.t, s.m, s.k⟩)) a w := cellsOf_ok base _ (rowsOf_ok base _ ⟨μ, I, h.tellT _⟩)
  obtain ⟨μ, I, h⟩ := killAll_ok (dropsOf base x.names (cellsOf base x.cells (rowsOf base x.slots ⟨tellT x.slots 0 s.t, s.m, s.k⟩)).m) h1
  exact ⟨μ, I, order_ok h base x.names⟩

theorem shapeOf_ok (h : Ok g s a w) (base : Nat) (p : Par) (x : Code) : Ok g (shapeOf base p x s) a w := by
  unfold shapeOf
  split
  · split
    · exact shape_ok h base _
    · exact h
  · exact h

end Go.PI
