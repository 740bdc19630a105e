/- An operation by what it looks at alone does what it does to the whole. One operation of a region that draws its order. Steps of a region that draws its order: each is right; two that are independent may change places. What a step looks at decides what it does. Independent steps may change places. States that say the same step alike. What a step leaves alone. A step's effect, and what it leaves alone. Independent effects may change places. Independent effects come to the same in either order. Independent steps may change places. Steps in any order that is let. Regions that draw their order. What is left of a region that draws its order. A region that draws its order comes to what its text's order comes to. -/
import Derived.Test.YtkbdofnbagmlfaaGreatGb
import Derived.Orders
namespace Go.PI
open Go.RowKit
variable {P : Program} {c : Ctx} {g : Cfg} {s st : St} {a : Act} {w : World} {μ : Nm} {I : Bool -> Nat -> Prop}
theorem wp_put {o : Oper} {K : Act -> World -> Prop} {Q : Exit -> Act -> World -> Prop} (h : o.wp P a w K Q) (hk : ∀ a w, K a w -> a.defers = []) : o.wp P a w (fun a' w' => K a' w' /\ ∃ v, a' = a.put o.dst v) Q := by
 unfold Oper.wp at *
 generalize (execOp a.eval o).run P w = r at *
 cases r with
 | ok n w' =>
  cases n <;> simp only [Oper.upon] at h ⊢ <;> first
   | exact ⟨h, _, rfl⟩
   | exact Calls.mono h (fun e w'' he => by cases e <;> first | exact ⟨he, _, rfl⟩ | exact he)
   | exact Rows.mono h (fun _ _ he => ⟨he, _, rfl⟩)
   | (exfalso; have := hk _ _ h; rw [Act.put_defers] at this; simp [Act.put] at this; done)
   | (exfalso; have := hk _ _ h; cases hd : o.dst <;> simp [Act.put, hd] at this; done)
   | exact h
 | halt x w' => cases x <;> simp only [Oper.upon] at h ⊢ <;> exact h
theorem Zah {n : Nat} : ∀ {l : List Nat}, memb n l = true ↔ n ∈ l
 | [] => by simp [memb]
 | k :: r => by
  simp only [memb, Bool.or_eq_true, List.mem_cons, Zah (l := r)]
  constructor
  ·rintro (h | h)
   ·exact .inl (Nat.eq_of_beq_eq_true h).symm
   ·exact .inr h
  ·rintro (h | h)
   ·exact .inl (by rw [h]; exact Zay _)
   ·exact .inr h
theorem ZkG {n : Nat} {x : C} : x.has n = true ↔ n ∈ x.nm := by
 cases x with
 | ref k i o => simp only [C.has, C.nm, List.mem_singleton]; exact ⟨fun h => (Nat.eq_of_beq_eq_true h).symm, fun h => by rw [h]; exact Zay _⟩
 | mfull k => simp only [C.has, C.nm, List.mem_singleton]; exact ⟨fun h => (Nat.eq_of_beq_eq_true h).symm, fun h => by rw [h]; exact Zay _⟩
 | msl k s l cp => simp only [C.has, C.nm, List.mem_singleton]; exact ⟨fun h => (Nat.eq_of_beq_eq_true h).symm, fun h => by rw [h]; exact Zay _⟩
 | _ => simp [C.has, C.nm]
theorem Zb7 (m : Mem) (n : Nat) : ∀ ns : List Nat, look n (Za7 m ns) = if n ∈ ns then look n m else none
 | [] => by simp [Za7, look]
 | k :: r => by
  have ih := Zb7 m n r
  simp only [Za7]
  by_cases e : k = n
  ·subst e
   rw [if_pos List.mem_cons_self]
   split
   ·rename_i b hb; simp [look, Zay, hb]
   ·rename_i hb; rw [ih, hb]; simp
  ·have : n ∈ k :: r ↔ n ∈ r := by simp [Ne.symm e]
   rw [show (if n ∈ k :: r then look n m else none) = if n ∈ r then look n m else none by simp only [this]]
   split
   ·simp only [look, Za4 e, cond_false]; exact ih
   ·exact ih
theorem Zce (ns : List Nat) (n : Nat) : ∀ m : Mem, look n (Zbb ns m) = if n ∈ ns then none else look n m
 | [] => by simp [Zbb, look]
 | (k, b) :: r => by
  have ih := Zce ns n r
  simp only [Zbb]
  cases hk : memb k ns with
  | true =>
   simp only [cond_true, look, ih]
   by_cases e : k = n
   ·subst e; rw [if_pos (Zah.1 hk), if_pos (Zah.1 hk)]
   ·rw [Za4 e]; rfl
  | false =>
   simp only [cond_false, look, ih]
   by_cases e : k = n
   ·subst e
    have : k ∉ ns := fun hm => by rw [Zah.2 hm] at hk; cases hk
    simp [this]
   ·rw [Za4 e]; rfl
theorem Zev (l : List Nat) : ∀ (i : Nat) (t : List D) (j : Nat), (ZcY l i t)[j]? = t[j]?.map fun d => bif memb (i + j) l then d else .c .bad
 | _, [], j => by simp [ZcY]
 | i, d :: r, 0 => by simp [ZcY]
 | i, d :: r, j + 1 => by
  simp only [ZcY, List.getElem?_cons_succ, Zev l (i + 1) r j]
  rw [show i + 1 + j = i + (j + 1) by omega]
theorem ZmB (l : List Nat) : ∀ (i : Nat) (t : List D), (ZcY l i t).length = t.length
 | _, [] => rfl
 | i, d :: r => by simp [ZcY, ZmB l (i + 1) r]
theorem ZhM (ns : List Nat) (m : Mem) {n : Nat} (h : n ∈ ns) : shp (Za7 m ns) n = shp m n := by
 unfold shp
 rw [Zb7, if_pos h]
theorem Zcu {l ns : List Nat} : Zbo l ns = true ↔ ∀ n ∈ l, n ∈ ns := by
 unfold Zbo
 rw [List.all_eq_true]
 exact ⟨fun h n hn => Zah.1 (h n hn), fun h n hn => Zah.2 (h n hn)⟩
theorem Znd {t : List D} {n i : Nat} : ∀ {l : List Nat}, i ∈ l -> n ∈ (t.getD i (.c .bad)).nms -> n ∈ ZfL t l
 | k :: r, hi, hn => by
  simp only [ZfL]
  rcases List.mem_cons.1 hi with rfl | hi
  ·exact List.mem_append.2 (.inl hn)
  ·exact List.mem_append.2 (.inr (Znd hi hn))
structure GoodAt (s : St) (l ns : List Nat) : Prop where
 slot : ∀ i ∈ l, (s.t.getD i (.c .bad)).good = true
 nms : ∀ i ∈ l, ∀ n ∈ (s.t.getD i (.c .bad)).nms, n ∈ ns
 mem : ∀ n ∈ ns, ∃ b, look n s.m = some b /\ ∀ k ∈ b.nms, k ∈ ns
theorem ZmT {s : St} {l ns : List Nat} (h : ZdM s l ns = true) : GoodAt s l ns := by
 unfold ZdM at h
 simp only [Bool.and_eq_true, List.all_eq_true] at h
 obtain ⟨⟨h1, h2⟩, h3⟩ := h
 refine ⟨h1, fun i hi n hn => Zcu.1 h2 n (Znd hi hn), fun n hn => ?_⟩
 have := h3 n hn
 split at this
 ·rename_i b hb
  exact ⟨b, hb, fun k hk => Zcu.1 this k hk⟩
 ·cases this
theorem RD.key {sh sh' : Sh} {d : D} {v : Value} (hd : RD μ I w sh d v) (h : ∀ n ∈ d.nms, sh' n = sh n) : RD μ I w sh' d v := by
 have key : ∀ x v, (∀ n ∈ x.nm, sh' n = sh n) -> RC μ I w sh x v -> RC μ I w sh' x v := fun x v hx hr =>
  hr.same (fun _ _ k => k) (fun t => Zaa _ _) (fun k hk => ⟨rfl, hx k (ZkG.1 hk)⟩)
 cases d with
 | c x => exact key x _ h hd
 | agg xs =>
  obtain ⟨vs, e, h1, h2⟩ := hd
  exact ⟨vs, e, h1.imp fun x v hx hr => key x v (fun n hn => h n (List.mem_flatMap.2 ⟨x, hx, hn⟩)) hr, h2⟩
 | tup xs =>
  obtain ⟨vs, e, h1⟩ := hd
  exact ⟨vs, e, h1.imp fun x v hx hr => key x v (fun n hn => h n (List.mem_flatMap.2 ⟨x, hx, hn⟩)) hr⟩
 | fn f xs =>
  obtain ⟨vs, e, h1⟩ := hd
  exact ⟨vs, e, h1.imp fun x v hx hr => key x v (fun n hn => h n (List.mem_flatMap.2 ⟨x, hx, hn⟩)) hr⟩
theorem BR.key {sh sh' : Sh} {mb : MB} {b q : Nat} (hb : BR μ I w sh mb b q) (h : ∀ n ∈ mb.nms, sh' n = sh n) : BR μ I w sh' mb b q := by
 obtain ⟨cur, e, h1, h2, h3⟩ := hb
 refine ⟨cur, e, h1, h2, ?_⟩
 cases mb with
 | tv t τ x => exact h3
 | ar t e' τ xs => exact h3
 | dv l => exact ⟨h3.1.imp fun x v hx hr => hr.same (fun _ _ k => k) (fun t => Zaa _ _) (fun k hk => ⟨rfl, h k (List.mem_flatMap.2 ⟨x, hx, ZkG.1 hk⟩)⟩), h3.2⟩
theorem Rel.cut [DR] (h : Rel g s a w μ I) {l ns : List Nat} (hns : GoodAt s l ns) : Rel (ZaZ w I (Za7 s.m ns) μ) (s.cut l ns) a w μ I := by
 have hl : ∀ k, look k (Za7 s.m ns) ≠ none -> k ∈ ns /\ look k s.m ≠ none := by
  intro k hk
  rw [Zb7] at hk
  split at hk
  ·rename_i hm; exact ⟨hm, hk⟩
  ·exact absurd rfl hk
 refine { mem := ?_, inj := ?_, sep := ?_, isub := h.isub, ilt := h.ilt, i0 := fun t b hb => hb, inew := fun t b hb => .inl hb, live := ?_, os := rfl, tape := TP.refl _, output := rfl, size := Nat.le_refl _, keep := fun _ _ _ => rfl, tm := ?_, len := ?_, dfr := h.dfr, kept := fun n _ _ => ⟨rfl, rfl⟩ }
 ·intro n mb hn
  obtain ⟨hm, _⟩ := hl n (by rw [show look n (Za7 s.m ns) = _ from hn]; simp)
  have hn : look n (Za7 s.m ns) = some mb := hn
  rw [Zb7, if_pos hm] at hn
  obtain ⟨b', hb', hsub⟩ := hns.mem n hm
  rw [hb'] at hn
  obtain rfl := Option.some.inj hn
  rcases h.mem n b' hb' with ⟨b, q, e, hb⟩ | x
  ·exact .inl ⟨b, q, e, hb.key fun k hk => ZhM ns s.m (hsub k hk)⟩
  ·exact .inr x
 ·exact fun n1 n2 b q q' e1 e2 h1 h2 => h.inj n1 n2 b q q' e1 e2 (hl _ h1).2 (hl _ h2).2
 ·exact fun n1 b q h1 e => h.sep n1 b q (hl _ h1).2 e
 ·exact fun n1 b q h1 e => .inl ⟨n1, q, h1, e⟩
 ·intro i
  show RD μ I w (shp (Za7 s.m ns)) ((ZcY l 0 s.t).getD i (.c .bad)) _
  have hi := h.tm i
  have hd := hns.nms i
  simp only [List.getD, Zev, Nat.zero_add] at hi hd ⊢
  cases ht : s.t[i]? with
  | none => exact trivial
  | some d =>
   rw [ht] at hi hd
   simp only [Option.map_some, Option.getD_some] at hi hd ⊢
   cases hm : memb i l with
   | false => exact trivial
   | true => exact hi.key fun n hn => ZhM ns s.m (hd (Zah.1 hm) n hn)
 ·show (ZcY l 0 s.t).length = _
  rw [ZmB]; exact h.len
theorem ZiO [DR] : ∀ (l : List Nat) {s : St}, Rel g s a w μ I -> Rel g (killAll l s) a w μ I /\ (∀ n, n ∈ l -> look n (killAll l s).m = none) /\ (∀ n, look n (killAll l s).m ≠ none -> look n s.m ≠ none) /\ (∀ n, n ∈ (killAll l s).k ↔ n ∈ l \/ n ∈ s.k)
 | [], s, h => ⟨h, fun n hn => by simp at hn, fun n hn => hn, fun n => by simp [killAll]⟩
 | k :: r, s, h => by
  obtain ⟨h1, h2, h3, h4⟩ := ZiO r (h.kill k)
  have hk : ∀ n, look n (s.kill k).m ≠ none -> n ≠ k /\ look n s.m ≠ none := by
   intro n hn
   simp only [St.kill, Zaz] at hn
   by_cases e : n = k
   ·subst e; rw [Zap] at hn; exact absurd rfl hn
   ·rw [Zaj e] at hn
    exact ⟨e, fun e' => hn (by rw [e']; rfl)⟩
  refine ⟨h1, fun n hn => ?_, fun n hn => (hk n (h3 n hn)).2, fun n => ?_⟩
  ·rcases List.mem_cons.1 hn with rfl | hn
   ·cases hl : look n (killAll r (s.kill n)).m with
    | none => exact hl
    | some mb => exact absurd rfl (hk n (h3 n (by rw [hl]; simp))).1
   ·exact h2 n hn
  ·rw [show killAll (k :: r) s = killAll r (s.kill k) from rfl, h4]
   show n ∈ r \/ n ∈ k :: s.k ↔ _
   simp only [List.mem_cons]
   constructor
   ·rintro (h | h | h)
    ·exact .inl (.inr h)
    ·exact .inl (.inl h)
    ·exact .inr h
   ·rintro ((h | h) | h)
    ·exact .inr (.inl h)
    ·exact .inl h
    ·exact .inr (.inr h)
theorem Zfz {n : Nat} : ∀ {m : Mem}, look n m ≠ none -> n ∈ m.map (·.1)
 | [], h => absurd rfl h
 | (k, b) :: r, h => by
  simp only [look] at h
  by_cases e : k = n
  ·subst e; simp
  ·rw [Za4 e] at h
   exact List.mem_cons_of_mem _ (Zfz h)
theorem RC.named {sh : Sh} {x : C} {v : Value} (h : RC μ I w sh x v) {n : Nat} (hn : x.has n = true) : sh n ≠ none := by
 cases x with
 | ref k i o => simp only [C.has] at hn; obtain rfl := Nat.eq_of_beq_eq_true hn; obtain ⟨_, _, _, _, _, k2, _⟩ := h; rw [k2]; simp
 | mfull k => simp only [C.has] at hn; obtain rfl := Nat.eq_of_beq_eq_true hn; obtain ⟨_, _, _, _, k2, _⟩ := h; rw [k2]; simp
 | msl k s l cp => simp only [C.has] at hn; obtain rfl := Nat.eq_of_beq_eq_true hn; obtain ⟨_, _, _, _, _, _, ⟨_, _, k2, _⟩, _⟩ := h; rw [k2]; simp
 | _ => simp [C.has] at hn
theorem ZcK {m : Mem} {n : Nat} : shp m n = none ↔ look n m = none := by simp [shp]
theorem join_ok [DR] (h0 : Rel g s a w μ I) (ns : List Nat) {s' : St} {dst : Option Tmp} {v : Value} {w' : World} (hs : Ok (ZaZ w I (Za7 s.m ns) μ) s' (a.put dst v) w') : Ok g (s.join ns dst s') (a.put dst v) w' := by
 obtain ⟨μ1, I1, r⟩ := hs
 obtain ⟨h, hgone, hsub, hk⟩ := ZiO (Zau ns s') h0
 unfold St.join St.mix
 simp only
 have hin : ∀ n, look n s'.m ≠ none -> n ∈ ns \/ n ∈ Zau ns s' := by
  intro n hn
  by_cases hm : n ∈ ns
  ·exact .inl hm
  ·refine .inr (List.mem_append.2 (.inr (List.mem_filter.2 ⟨Zfz hn, ?_⟩)))
   cases hb : memb n ns with
   | true => exact absurd (Zah.1 hb) hm
   | false => rfl
 have hsk : ∀ n, n ∉ Zau ns s' -> n ∉ s'.k := fun n hn hm => hn (List.mem_append.2 (.inl hm))
 have hshape1 : ∀ n, look n (killAll (Zau ns s') s).m ≠ none -> shp (killAll (Zau ns s') s).m n = shp s.m n := by
  have gen : ∀ (l : List Nat) (s : St) (n : Nat), look n (killAll l s).m ≠ none -> shp (killAll l s).m n = shp s.m n := by
   intro l
   induction l with
   | nil => intro s n _; rfl
   | cons k l ih =>
    intro s n hn
    have e1 := ih (s.kill k) n hn
    refine e1.trans ?_
    have : look n (s.kill k).m ≠ none := fun e => hn (ZcK.1 (e1.trans (ZcK.2 e)))
    by_cases e : n = k
    ·subst e; exact absurd (by simp [St.kill, Zaz, Zap]) this
    ·exact ZaQ e s.m
  exact fun n hn => gen _ s n hn
 generalize killAll (Zau ns s') s = s1 at h hgone hsub hk hshape1 ⊢
 let μ' : Nm := fun n => if (look n s'.m).isSome then μ1 n else μ n
 let m' : Mem := s'.m ++ Zbb ns s1.m
 have hlook : ∀ n, look n m' = match look n s'.m with | some x => some x | none => if n ∈ ns then none else look n s1.m := by
  intro n
  show look n (s'.m ++ Zbb ns s1.m) = _
  rw [ZbH]
  cases look n s'.m with
  | some x => rfl
  | none => simp only; rw [Zce]
 have in1 : ∀ n, look n s'.m ≠ none -> μ' n = μ1 n /\ look n m' = look n s'.m := by
  intro n hn
  cases hl : look n s'.m with
  | none => exact absurd hl hn
  | some x => exact ⟨by show (if (look n s'.m).isSome then _ else _) = _; rw [hl]; rfl, by rw [hlook, hl]⟩
 have out1 : ∀ n, look n s'.m = none -> μ' n = μ n /\ look n m' = if n ∈ ns then none else look n s1.m := by
  intro n hl
  exact ⟨by show (if (look n s'.m).isSome then _ else _) = _; rw [hl]; rfl, by rw [hlook, hl]⟩
 have stay : ∀ n, look n s1.m ≠ none -> μ' n = μ n /\ shp m' n = shp s1.m n := by
  intro n hn
  have hng : n ∉ Zau ns s' := fun hm => hn (hgone n hm)
  by_cases hm : n ∈ ns
  ·have hl0 : look n (Za7 s.m ns) ≠ none := by
    rw [Zb7, if_pos hm]
    intro e
    exact hsub n hn (by simpa using e)
   obtain ⟨k1, k2⟩ := r.kept n hl0 (hsk n hng)
   have k2 : shp s'.m n = shp (Za7 s.m ns) n := k2
   have hl' : look n s'.m ≠ none := fun e => hl0 (ZcK.1 (k2.symm.trans (ZcK.2 e)))
   obtain ⟨j1, j2⟩ := in1 n hl'
   refine ⟨j1.trans k1, ?_⟩
   show (look n m').map _ = _
   rw [j2]
   exact k2.trans ((ZhM ns s.m hm).trans (hshape1 n hn).symm)
  ·have hl' : look n s'.m = none := by
    cases hl : look n s'.m with
    | none => rfl
    | some x => rcases hin n (by rw [hl]; simp) with k | k; exact absurd k hm; exact absurd k hng
   obtain ⟨j1, j2⟩ := out1 n hl'
   refine ⟨j1, ?_⟩
   show (look n m').map _ = _
   rw [j2, if_neg hm]; rfl
 have hlive : ∀ b, Zai (Za7 s.m ns) μ b -> ∃ n q, n ∈ ns /\ look n s.m ≠ none /\ μ n = some (b, q) := by
  rintro b ⟨n, q, hn, hμ⟩
  rw [Zb7] at hn
  split at hn
  ·rename_i hm; exact ⟨n, q, hm, hn, hμ⟩
  ·exact absurd rfl hn
 have hst : ∀ t, Za3 (I t) w w' := fun t b hb => by
  have hb' : I true b := by cases t; exact h.isub b hb; exact hb
  refine r.keep b (h.ilt b hb') (fun hl => ?_)
  obtain ⟨n, q, _, hn, hμ⟩ := hlive b hl
  exact h0.sep n b q hn hμ hb'
 have hI : ∀ t b, I t b -> I1 t b := r.i0
 have hRC : ∀ x u, RC μ I w (shp s1.m) x u -> RC μ' I1 w' (shp m') x u := fun x u hx => hx.same hI hst (fun k hk => stay k (fun e => hx.named hk (ZcK.2 e)))
 have hRC1 : ∀ x u, RC μ1 I1 w' (shp s'.m) x u -> RC μ' I1 w' (shp m') x u := fun x u hx => hx.same (fun _ _ k => k) (fun t => Zaa _ _) (fun k hk => by
  have hl : look k s'.m ≠ none := fun e => hx.named hk (ZcK.2 e)
  obtain ⟨j1, j2⟩ := in1 k hl
  refine ⟨j1, ?_⟩
  show (look k m').map _ = _
  rw [j2]; rfl)
 have cases' : ∀ n, look n m' ≠ none -> (look n s'.m ≠ none /\ μ' n = μ1 n) \/ (look n s'.m = none /\ n ∉ ns /\ look n s1.m ≠ none /\ μ' n = μ n) := by
  intro n hn
  cases hl : look n s'.m with
  | some x => exact .inl ⟨by simp, (in1 n (by rw [hl]; simp)).1⟩
  | none =>
   obtain ⟨j1, j2⟩ := out1 n hl
   rw [j2] at hn
   split at hn
   ·exact absurd rfl hn
   ·rename_i hm; exact .inr ⟨rfl, hm, hn, j1⟩
 have apart : ∀ n b q, n ∉ ns -> look n s1.m ≠ none -> μ n = some (b, q) -> ¬ Zai (Za7 s.m ns) μ b := by
  intro n b q hm hn hμ hl
  obtain ⟨n', q', hm', hn', hμ'⟩ := hlive b hl
  have := h0.inj n n' b q q' hμ hμ' (hsub n hn) hn'
  exact hm (this ▸ hm')
 have hM : Rel g ⟨s1.t, m', s1.k⟩ a w' μ' I1 := by
  refine { mem := ?_, inj := ?_, sep := ?_, isub := r.isub, ilt := r.ilt, i0 := fun t b hb => hI t b (h.i0 t b hb), inew := ?_, live := ?_, os := r.os.trans h.os, tape := r.tape.trans h.tape, output := r.output.trans h.output, size := Nat.le_trans h.size r.size, keep := ?_, tm := fun i => (h.tm i).imp hRC, len := h.len, dfr := h.dfr, kept := ?_ }
  ·intro n mb hn
   rcases cases' n (by rw [show look n m' = _ from hn]; simp) with ⟨hl, hμ⟩ | ⟨hl, hm, hn1, hμ⟩
   ·have hn : look n m' = some mb := hn
    rw [(in1 n hl).2] at hn
    rcases r.mem n mb hn with ⟨b, q, e, hb⟩ | ⟨e, x⟩
    ·refine .inl ⟨b, q, hμ.trans e, ?_⟩
     have := hb.map (φ := id) (μ' := μ') (I' := I1) (w' := w') (sh' := shp m') hRC1 (fun _ _ k => k) (fun t => Zaa _ _) rfl
     have eid : mb.mapC id = mb := by cases mb <;> simp [MB.mapC]
     rwa [eid] at this
    ·exact .inr ⟨hμ.trans e, x⟩
   ·have hn : look n m' = some mb := hn
    rw [(out1 n hl).2, if_neg hm] at hn
    rcases h.mem n mb hn with ⟨b, q, e, hb⟩ | ⟨e, x⟩
    ·refine .inl ⟨b, q, hμ.trans e, ?_⟩
     have := hb.map (φ := id) (μ' := μ') (I' := I1) (w' := w') (sh' := shp m') hRC hI hst (r.keep b hb.lt (apart n b q hm hn1 e))
     have eid : mb.mapC id = mb := by cases mb <;> simp [MB.mapC]
     rwa [eid] at this
    ·exact .inr ⟨hμ.trans e, x⟩
  ·intro n1 n2 b q q' e1 e2 h1 h2
   rcases cases' n1 h1 with ⟨l1, m1⟩ | ⟨l1, k1, j1, m1⟩ <;> rcases cases' n2 h2 with ⟨l2, m2⟩ | ⟨l2, k2, j2, m2⟩
   ·exact r.inj n1 n2 b q q' (m1 ▸ e1) (m2 ▸ e2) l1 l2
   ·rw [m2] at e2
    rcases r.live n1 b q l1 (m1 ▸ e1) with k | k
    ·exact absurd k (apart n2 b q' k2 j2 e2)
    ·have := h.live_lt j2 e2
     have k : w.heap.size <= b := k
     omega
   ·rw [m1] at e1
    rcases r.live n2 b q' l2 (m2 ▸ e2) with k | k
    ·exact absurd k (apart n1 b q k1 j1 e1)
    ·have := h.live_lt j1 e1
     have k : w.heap.size <= b := k
     omega
   ·exact h.inj n1 n2 b q q' (m1 ▸ e1) (m2 ▸ e2) j1 j2
  ·intro n b q hn e hi
   rcases cases' n hn with ⟨l1, m1⟩ | ⟨l1, k1, j1, m1⟩
   ·exact r.sep n b q l1 (m1 ▸ e) hi
   ·rw [m1] at e
    rcases r.inew true b hi with k | k | k
    ·exact h.sep n b q j1 e k
    ·exact apart n b q k1 j1 e k
    ·have := h.live_lt j1 e
     have k : w.heap.size <= b := k
     omega
  ·intro t b hb
   rcases r.inew t b hb with k | k | k
   ·exact h.inew t b k
   ·obtain ⟨n, q, _, hn, hμ⟩ := hlive b k
    exact .inr (h0.live n b q hn hμ)
   ·exact .inr (.inr (Nat.le_trans h.size k))
  ·intro n b q hn e
   rcases cases' n hn with ⟨l1, m1⟩ | ⟨l1, k1, j1, m1⟩
   ·rcases r.live n b q l1 (m1 ▸ e) with k | k
    ·obtain ⟨n', q', _, hn', hμ'⟩ := hlive b k
     exact h0.live n' b q' hn' hμ'
    ·exact .inr (Nat.le_trans h.size k)
   ·exact h.live n b q j1 (m1 ▸ e)
  ·intro b hlt hL
   rw [r.keep b (Nat.lt_of_lt_of_le hlt h.size) (fun hl => ?_)]
   ·exact h.keep b hlt hL
   ·obtain ⟨n, q, _, hn, hμ⟩ := hlive b hl
    rcases h0.live n b q hn hμ with k | k
    ·exact hL k
    ·omega
  ·intro n hn hnk
   obtain ⟨k1, k2⟩ := h.kept n hn hnk
   have k2 : shp s1.m n = shp g.m0 n := k2
   have hl : look n s1.m ≠ none := fun e => hn (ZcK.1 (k2.symm.trans (ZcK.2 e)))
   obtain ⟨j1, j2⟩ := stay n hl
   exact ⟨j1.trans k1, j2.trans k2⟩
 refine ⟨μ', I1, ?_⟩
 cases dst with
 | none => exact hM
 | some k =>
  refine hM.putd (dst := some k) (d := s'.t.getD k (.c .bad)) (v := v) ?_
  have ht := r.tm k
  have hlen : s'.t.length = a.tmps.size := by
   have := r.len
   simpa [Act.put] using this
  by_cases hk : k < a.tmps.size
  ·have e : (a.put (some k) v).tmps.getD k undef = v := by simp [Act.put, hk]
   rw [e] at ht
   exact ht.imp hRC1
  ·have e : s'.t.getD k (.c .bad) = .c .bad := by
    simp only [List.getD]
    have hle : s'.t.length <= k := by rw [hlen]; exact Nat.not_lt.1 hk
    rw [List.getElem?_eq_none hle]; rfl
   rw [e]
   exact trivial
end Go.PI

namespace Go.PI
open Go.RowKit
variable {P : Program} {c : Ctx} {g : Cfg} {s st : St} {a : Act} {w : World} {μ : Nm} {I : Bool -> Nat -> Prop}
structure SEq (s s' : St) : Prop where
 t : s.t = s'.t
 m : ∀ n, look n s.m = look n s'.m
 k : ∀ n, n ∈ s.k ↔ n ∈ s'.k
theorem SEq.refl (s : St) : SEq s s := ⟨rfl, fun _ => rfl, fun _ => Iff.rfl⟩
theorem SEq.symm {s s' : St} (h : SEq s s') : SEq s' s := ⟨h.t.symm, fun n => (h.m n).symm, fun n => (h.k n).symm⟩
theorem SEq.trans {s s' s'' : St} (h : SEq s s') (h' : SEq s' s'') : SEq s s'' := ⟨h.t.trans h'.t, fun n => (h.m n).trans (h'.m n), fun n => (h.k n).trans (h'.k n)⟩
theorem SEq.ok [DR] {s s' : St} (h : SEq s s') (hok : Ok g s a w) : Ok g s' a w := by
 obtain ⟨μ, I, r⟩ := hok
 have h1 : Rel g ⟨s.t, s'.m, s.k⟩ a w μ I := r.remem (fun k => by rw [h.m k]) (fun k mb mb' e1 e2 => by
  rw [h.m k, e2] at e1
  obtain rfl := Option.some.inj e1
  exact ⟨rfl, fun _ _ k => k, fun t e τ k => ⟨t, k⟩⟩)
 refine ⟨μ, I, { toMRel := h1.toMRel, tm := ?_, len := ?_, dfr := h1.dfr, kept := fun n hn hk => h1.kept n hn (fun hm => hk ((h.k n).1 hm)) }⟩
 ·rw [<- h.t]; exact h1.tm
 ·rw [<- h.t]; exact h1.len
theorem ZtN {o : Option D} {dst : Option Tmp} (hs : (match o with | some d => .ret (s.putd dst d) | none => .no : Br St).run = some st) : st.m = s.m /\ st.k = s.k := by
 cases o with
 | none => cases hs
 | some d => obtain rfl := Option.some.inj hs; cases dst <;> exact ⟨rfl, rfl⟩
theorem Zsb (s : St) (dst : Option Tmp) (d : D) : (s.putd dst d).m = s.m /\ (s.putd dst d).k = s.k := by cases dst <;> exact ⟨rfl, rfl⟩
theorem Zf4 {dst : Option Tmp} {d : D} (hs : (Br.ret (s.putd dst d)).run = some st) : st.m = s.m /\ st.k = s.k := by
 obtain rfl := Option.some.inj hs
 exact Zsb s dst d
theorem Ztd {x : Br D} {dst : Option Tmp} (hs : (x.bind fun d => Br.ret (s.putd dst d)).run = some st) : st.m = s.m /\ st.k = s.k := by
 obtain ⟨d, _, h⟩ := Br.bind_some hs
 exact Zf4 h
theorem ZtZ {d : D} {x y : Br St} (hs : (onB d x y).run = some st) (hx : x.run = some st -> st.m = s.m /\ st.k = s.k) (hy : y.run = some st -> st.m = s.m /\ st.k = s.k) : st.m = s.m /\ st.k = s.k := by
 unfold onB at hs
 split at hs
 ·exact hx hs
 ·exact hy hs
 ·rw [Br.run_cond] at hs
  split at hs
  ·exact hx hs
  ·exact hy hs
 ·cases hs
theorem ZtI {b : Bool} {x y : Br St} (hs : (bif b then x else y).run = some st) (hx : x.run = some st -> st.m = s.m /\ st.k = s.k) (hy : y.run = some st -> st.m = s.m /\ st.k = s.k) : st.m = s.m /\ st.k = s.k := by
 cases b with
 | true => exact hx hs
 | false => exact hy hs
theorem Zug {b : Bool} {x y : Br St} (hs : (Br.cond b x y).run = some st) (hx : x.run = some st -> st.m = s.m /\ st.k = s.k) (hy : y.run = some st -> st.m = s.m /\ st.k = s.k) : st.m = s.m /\ st.k = s.k := by
 cases b with
 | true => exact hx hs
 | false => exact hy hs
theorem no_quiet (hs : (Br.no : Br St).run = some st) : st.m = s.m /\ st.k = s.k := by cases hs
theorem ZoM {o : Oper} (hq : Zby o.op = true) (hs : (Zam c s o).run = some st) : st.m = s.m /\ st.k = s.k := by
 unfold Zam at hs
 unfold Zby at hq
 split at hq <;> rename_i heq <;> (try rw [heq] at hs) <;> (try simp only at hs)
 all_goals repeat' first
  | exact Zf4 hs
  | exact ZtN hs
  | exact Ztd hs
  | exact no_quiet hs
  | exact ZtZ hs (fun h => Zf4 h) (fun h => Zf4 h)
  | (exact absurd hq (by decide))
  | (refine ZtI hs (fun hs => ?_) (fun hs => ?_))
  | (refine Zug hs (fun hs => ?_) (fun hs => ?_))
  | split at hs
theorem Zgb {m : Mem} : ∀ {ns : List Nat} {n : Nat}, n ∈ (Za7 m ns).map (·.1) -> n ∈ ns
 | [], n, h => by simp [Za7] at h
 | k :: r, n, h => by
  simp only [Za7] at h
  split at h
  ·rcases List.mem_cons.1 h with e | h
   ·rw [e]; exact List.mem_cons_self
   ·exact List.mem_cons_of_mem _ (Zgb h)
  ·exact List.mem_cons_of_mem _ (Zgb h)
theorem Zlf {l F : List Nat} {s' : St} (hm : s'.m = (s.cut l F).m) (hk : s'.k = (s.cut l F).k) : Zau F s' = [] := by
 unfold Zau
 rw [hm, hk]
 show [] ++ _ = _
 rw [List.nil_append, List.filter_eq_nil_iff]
 intro n hn
 simp [Zah.2 (Zgb hn)]
theorem Ztj {l F : List Nat} {s' : St} {dst : Option Tmp} (hF : GoodAt s l F) (hm : s'.m = (s.cut l F).m) (hk : s'.k = (s.cut l F).k) : SEq (s.join F dst s') (s.putd dst (ZeF dst s')) := by
 unfold St.join St.mix
 simp only [Zlf hm hk, killAll]
 have h : SEq ⟨s.t, s'.m ++ Zbb F s.m, s.k⟩ s := ⟨rfl, fun n => by
  show look n (s'.m ++ Zbb F s.m) = _
  rw [ZbH, hm]
  show (match look n (Za7 s.m F) with | some x => some x | none => look n (Zbb F s.m)) = _
  rw [Zb7, Zce]
  by_cases hn : n ∈ F
  ·rw [if_pos hn, if_pos hn]
   obtain ⟨b, hb, _⟩ := hF.mem n hn
   rw [hb]
  ·rw [if_neg hn, if_neg hn], fun _ => Iff.rfl⟩
 cases dst with
 | none => exact h
 | some k => exact ⟨rfl, h.m, h.k⟩
theorem Zf8 [DR] {dst : Option Tmp} {d d' : D} (hok : Ok g (s.putd dst d) a w) (h : ∀ (μ : Nm) (I : Bool -> Nat -> Prop) (w : World) (sh : Sh) (v : Value), RD μ I w sh d v -> RD μ I w sh d' v) : Ok g ((s.putd dst d).putd dst d') a w := by
 cases dst with
 | none => exact hok
 | some k =>
  obtain ⟨μ, I, r⟩ := hok
  by_cases hk : k < s.t.length
  ·refine ⟨μ, I, r.retell (k := k) (d := d') ?_⟩
   have ht := r.tm k
   have e : (s.putd (some k) d).t.getD k (.c .bad) = d := by
    show (s.t.set k d).getD k (.c .bad) = d
    simp [List.getD, hk]
   rw [e] at ht
   exact h _ _ _ _ _ ht
  ·have e : (s.putd (some k) d).putd (some k) d' = s.putd (some k) d := by
    show (⟨(s.t.set k d).set k d', s.m, s.k⟩ : St) = ⟨s.t.set k d, s.m, s.k⟩
    have hle : (s.t.set k d).length <= k := by rw [List.length_set]; exact Nat.not_lt.1 hk
    rw [List.set_eq_of_length_le hle]
   rw [e]
   exact ⟨μ, I, r⟩
theorem Zkc : ∀ m : Mem, Zbb [] m = m
 | [] => rfl
 | (k, b) :: r => by simp only [Zbb, memb, cond_false]; rw [Zkc r]
theorem Zpr (s : St) : s.less [] = s := by unfold St.less; rw [Zkc]
theorem Znx (F : List Nat) : Zbx F F = [] := by
 unfold Zbx
 rw [List.filter_eq_nil_iff]
 intro n hn
 simp [Zah.2 hn]
theorem Zfv (R : List Nat) : ∀ m : Mem, (Zbb R m).map (·.1) = (m.map (·.1)).filter fun n => !memb n R
 | [] => rfl
 | (k, b) :: r => by
  simp only [Zbb, List.map_cons, List.filter_cons]
  cases memb k R with
  | true => simp [Zfv R r]
  | false => simp [Zfv R r]
theorem Zd8 {W F : List Nat} {n : Nat} : n ∈ Zbx W F ↔ n ∈ F /\ n ∉ W := by
 unfold Zbx
 rw [List.mem_filter]
 constructor
 ·rintro ⟨h1, h2⟩
  exact ⟨h1, fun h => by rw [Zah.2 h] at h2; cases h2⟩
 ·rintro ⟨h1, h2⟩
  refine ⟨h1, ?_⟩
  cases h : memb n W with
  | true => exact absurd (Zah.1 h) h2
  | false => rfl
theorem ZfF {W F : List Nat} (hW : ∀ n ∈ W, n ∈ F) (s : St) : Zau W (s.less (Zbx W F)) = Zau F s := by
 unfold Zau St.less
 simp only
 rw [Zfv, List.filter_filter]
 congr 1
 apply List.filter_congr
 intro n _
 cases h1 : memb n W with
 | true => simp [Zah.2 (hW n (Zah.1 h1))]
 | false =>
  cases h2 : memb n F with
  | true =>
   have : n ∈ Zbx W F := Zd8.2 ⟨Zah.1 h2, fun h => by rw [Zah.2 h] at h1; cases h1⟩
   simp [Zah.2 this]
  | false =>
   have : memb n (Zbx W F) = false := by
    cases h : memb n (Zbx W F) with
    | true => have := (Zd8.1 (Zah.1 h)).1; rw [Zah.2 this] at h2; cases h2
    | false => rfl
   simp [this]
theorem look_kill' (s : St) (n k : Nat) : look k (s.kill n).m = if k = n then none else (look k s.m).map (MB.kill n) := by
 simp only [St.kill, Zaz]
 by_cases e : k = n
 ·subst e; rw [if_pos rfl, Zap]; rfl
 ·rw [if_neg e, Zaj e]
theorem Zm2 {b : MB} {n : Nat} (h : b.nms = []) : b.kill n = b := by
 cases b with
 | dv l =>
  show MB.dv (l.map (C.kill n)) = _
  have : l.map (C.kill n) = l := by
   have hk : ∀ x ∈ l, C.kill n x = x := by
    intro x hx
    unfold C.kill
    cases hh : x.has n with
    | true =>
     have : n ∈ MB.nms (.dv l) := List.mem_flatMap.2 ⟨x, hx, ZkG.1 hh⟩
     rw [h] at this
     cases this
    | false => rfl
   rw [List.map_congr_left hk, List.map_id']
  rw [this]
 | _ => rfl
theorem ZjL {s : St} {k nm : Nat} {b mb : MB} (h : look k s.m = some b) (hb : b.nms = []) (hk : k ≠ nm) : look k (s.lay nm mb).m = some b := by
 show look k ((nm, mb) :: (s.kill nm).m) = _
 simp only [look]
 rw [Za4 (Ne.symm hk), cond_false, look_kill', if_neg hk, h]
 show some (b.kill nm) = _
 rw [Zm2 hb]
theorem Znm {s : St} {k n : Nat} {b : MB} (h : look k s.m = some b) (hb : b.nms = []) (hk : k ≠ n) : look k (s.kill n).m = some b := by
 rw [look_kill', if_neg hk, h]
 show some (b.kill n) = _
 rw [Zm2 hb]
theorem ZnT {nm t : Nat} {x y : D} {s1 : St} {d : D} (h : (Zgn c nm s t x y).run = some (s1, d)) {k : Nat} {b : MB} (hl : look k s.m = some b) (hb : b.nms = []) (hk : k ≠ nm) (hx : k ∉ x.nms) : look k s1.m = some b := by
 unfold Zgn at h
 split at h
 ·split at h
  ·rename_i τ _ e _ _ ti _
   cases hc : decide (ti.ty = τ) && decide (0 < τ.sz) && decide (0 < ti.bytes) with
   | false => rw [hc] at h; cases h
   | true =>
    rw [hc] at h
    simp only [cond_true] at h
    split at h
    ·rw [Br.run_cond] at h
     split at h
     ·obtain ⟨rfl, _⟩ := Prod.mk.inj (Option.some.inj h)
      exact ZjL hl hb hk
     ·cases h
    ·rename_i n b1 xs b2 ys hh _ _
     have hkn : k ≠ n := by
      rintro rfl
      apply hx
      unfold Zgl at hh
      split at hh <;> first | (cases hh; done) | skip
      all_goals (try (simp only [Option.some.injEq, Head.own.injEq] at hh; subst hh; simp [D.nms, C.nm]; done))
      all_goals (split at hh <;> first | (cases hh; done) | (simp only [Option.some.injEq, Head.own.injEq] at hh; subst hh; simp [D.nms, C.nm]; done))
     split at h
     ·rename_i e' _ _ _
      cases hc2 : decide (e' = e) with
      | false => rw [hc2] at h; cases h
      | true =>
       rw [hc2] at h
       simp only [cond_true] at h
       rw [Br.run_cond] at h
       split at h
       ·obtain ⟨rfl, _⟩ := Prod.mk.inj (Option.some.inj h)
        exact ZjL (Znm hl hb hkn) hb hk
       ·cases h
     ·cases h
    ·rw [Br.run_cond] at h
     split at h
     ·obtain ⟨rfl, _⟩ := Prod.mk.inj (Option.some.inj h)
      exact ZjL hl hb hk
     ·cases h
    ·cases h
  ·cases h
 ·cases h
theorem Zub {o : Oper} {F l : List Nat} {s0 : St} (h : (Zam c (s.cut l F) o).run = some s0) (hl : ∀ x, (opd (s.cut l F) x).nms.all (fun n => memb n (opd s x).nms) = true) {k : Nat} {b : MB} (hb : look k (s.cut l F).m = some b) (hn : b.nms = []) (hk : k ≠ c.base + o.dst.getD 0) (hW : k ∈ F /\ k ∉ Zft s F o.op) : look k s0.m = some b := by
 unfold Zft at hW
 split at hW
 ·rename_i args ts _ heq
  split at hW
  ·rename_i x r hx
   unfold Zam at h
   rw [heq] at h
   simp only [hx] at h
   split at h
   ·rename_i hx' _
    cases hx'
    rename_i t u _
    cases htu : decide (t = u) with
    | true =>
     rw [htu] at h
     simp only [cond_true] at h
     obtain ⟨⟨s1, d⟩, h1, h2⟩ := Br.bind_some h
     obtain rfl := Option.some.inj h2
     rw [(Zsb _ _ _).1]
     refine ZnT h1 hb hn hk (fun hm => hW.2 ?_)
     have := List.all_eq_true.1 (hl x) k hm
     exact Zah.1 this
    | false => rw [htu] at h; cases h
   ·cases h
  ·exact absurd hW.1 hW.2
 ·exact absurd hW.1 hW.2
theorem cut_opd {l F : List Nat} (s : St) (x : Operand) : (opd (s.cut l F) x).nms.all (fun n => memb n (opd s x).nms) = true := by
 rw [List.all_eq_true]
 intro n hn
 rw [Zah]
 cases x with
 | tmp t =>
  have e : opd (s.cut l F) (.tmp t) = (ZcY l 0 s.t).getD t (.c .bad) := rfl
  rw [e, List.getD, Zev, Nat.zero_add] at hn
  show n ∈ (s.t.getD t (.c .bad)).nms
  rw [List.getD]
  cases ht : s.t[t]? with
  | none => rw [ht] at hn; simp [D.nms, C.nm] at hn
  | some d =>
   rw [ht] at hn
   simp only [Option.map_some, Option.getD_some] at hn ⊢
   cases hm : memb t l with
   | true => rw [hm] at hn; exact hn
   | false => rw [hm] at hn; simp [D.nms, C.nm] at hn
 | _ => exact hn
theorem whole_ro {W F : List Nat} {s0 : St} {dst : Option Tmp} (hW : ∀ n ∈ W, n ∈ F) (hR : ∀ n ∈ Zbx W F, ∃ b, look n s.m = some b /\ b.nms = [] /\ look n s0.m = some b /\ n ∉ Zau F s0) : SEq (s.join F dst s0) (s.join W dst (s0.less (Zbx W F))) := by
 have key : SEq (s.mix F s0) (s.mix W (s0.less (Zbx W F))) := by
  refine ⟨?_, fun n => ?_, fun n => ?_⟩
  ·show (killAll (Zau F s0) s).t = (killAll (Zau W _) s).t
   rw [ZfF hW]
  ·show look n (s0.m ++ Zbb F (killAll (Zau F s0) s).m) = look n (Zbb (Zbx W F) s0.m ++ Zbb W (killAll (Zau W (s0.less (Zbx W F))) s).m)
   rw [ZfF hW, ZbH, ZbH, Zce, Zce, Zce]
   by_cases hr : n ∈ Zbx W F
   ·obtain ⟨b, h1, h2, h3, h4⟩ := hR n hr
    have hm := Zd8.1 hr
    rw [if_pos hr, h3]
    simp only
    rw [if_neg hm.2]
    have gen : ∀ (r : List Nat) (s : St), look n s.m = some b -> n ∉ r -> look n (killAll r s).m = some b := by
     intro r
     induction r with
     | nil => intro s h _; exact h
     | cons k r ih =>
      intro s h hn
      refine ih (s.kill k) (Znm h h2 (fun e => hn (by rw [e]; exact List.mem_cons_self))) (fun hm => hn (List.mem_cons_of_mem _ hm))
    exact (gen _ _ h1 h4).symm
   ·rw [if_neg hr]
    cases look n s0.m with
    | some b => rfl
    | none =>
     simp only
     have : n ∈ F ↔ n ∈ W := ⟨fun h => Classical.byContradiction fun hw => hr (Zd8.2 ⟨h, hw⟩), hW n⟩
     by_cases hf : n ∈ F
     ·rw [if_pos hf, if_pos (this.1 hf)]
     ·rw [if_neg hf, if_neg (fun h => hf (this.2 h))]
  ·show n ∈ (killAll (Zau F s0) s).k ↔ n ∈ (killAll (Zau W _) s).k
   rw [ZfF hW]
 unfold St.join
 cases dst with
 | none => exact key
 | some k => exact ⟨by show (s.mix F s0).t.set k _ = (s.mix W _).t.set k _; rw [key.t]; rfl, key.m, key.k⟩
theorem ZqJ {s : St} {F : List Nat} {o : Op} (h : Zby o = true) : Zft s F o = F := by
 unfold Zft
 split
 ·simp [Zby] at h
 ·rfl
theorem execG_ok [DR] (he : EnvFull P c) {ops : Array Oper} {i : Nat} {o : Oper} {x : Rec} (hok : Ok g s a w) (hr : (ZcZ c ops i s o).run = some (x, st)) {K : Act -> World -> Prop} {Q : Exit -> Act -> World -> Prop} (hK : ∀ a' w', Ok g st a' w' -> K a' w') : o.wp P a w K Q := by
 unfold ZcZ at hr
 simp only at hr
 cases hg : ZdM s (Zaq s o.op) (ZbV s (Zaq s o.op)) with
 | false => rw [hg] at hr; cases hr
 | true =>
  rw [hg] at hr
  simp only [cond_true] at hr
  obtain ⟨s0, h1, hr⟩ := Br.bind_some hr
  generalize hl : Zaq s o.op = l at hg h1 hr
  generalize hF : ZbV s l = F at hg h1 hr
  have hF' := ZmT hg
  generalize hWe : Zft s F o.op = W at hr
  generalize hchk : ((Zbo W F && roOk s (c.base + o.dst.getD 0) (Zbx W F) (Zau W (s0.less (Zbx W F)))) && (Zbo (ZeF o.dst (s0.less (Zbx W F))).nms (F ++ Zau W (s0.less (Zbx W F))) && (s0.less (Zbx W F)).m.all (fun p => Zbo p.2.nms (F ++ Zau W (s0.less (Zbx W F)))))) = chk at hr
  cases chk with
  | false => cases hr
  | true =>
   simp only [Bool.and_eq_true] at hchk
   obtain ⟨⟨hsub, hro⟩, _⟩ := hchk
   have hWF : ∀ n ∈ W, n ∈ F := fun n hn => Zcu.1 hsub n hn
   simp only [cond_true] at hr
   obtain ⟨μ, I, h⟩ := hok
   have hc := h.cut hF'
   have hwp := Zc0 he o _ _ _ _ _ (fun a' w' => Ok (ZaZ w I (Za7 s.m F) μ) s0 a' w') Q ⟨μ, I, hc⟩ h1 (fun a' w' k => k)
   have hwhole : o.wp P a w (fun a' w' => Ok g (s.whole (Zby o.op) W o.dst (s0.less (Zbx W F))) a' w') Q := by
    refine Oper.wp_mono ?_ (wp_put hwp (fun a w ⟨_, _, k⟩ => k.dfr))
    rintro a' w' ⟨k1, v, rfl⟩
    have hj := join_ok h F k1
    unfold St.whole
    cases hq : Zby o.op with
    | false =>
     refine (whole_ro (dst := o.dst) hWF fun n hn => ?_).ok hj
     unfold roOk at hro
     rw [List.all_eq_true] at hro
     have hn' := hro n hn
     simp only [Bool.and_eq_true, Bool.not_eq_true'] at hn'
     obtain ⟨⟨n1, n2⟩, n3⟩ := hn'
     cases hlk : look n s.m with
     | none => rw [hlk] at n3; cases n3
     | some b =>
      rw [hlk] at n3
      have hb : b.nms = [] := List.isEmpty_iff.1 n3
      have hmem := Zd8.1 hn
      refine ⟨b, rfl, hb, ?_, ?_⟩
      ·refine Zub h1 (cut_opd s) ?_ hb (fun e => ?_) ⟨hmem.1, by rw [hWe]; exact hmem.2⟩
       ·show look n (Za7 s.m F) = _
        rw [Zb7, if_pos hmem.1, hlk]
       ·rw [e, Zay] at n1; cases n1
      ·rw [<- ZfF hWF]
       intro hm
       rw [Zah.2 hm] at n2
       cases n2
    | true =>
     rw [ZqJ hq] at hWe
     subst hWe
     rw [Znx, Zpr]
     obtain ⟨q1, q2⟩ := ZoM hq h1
     exact (Ztj (dst := o.dst) hF' q1 q2).ok hj
   generalize s0.less (Zbx W F) = s' at hwhole hr
   cases hig : Zbu ops i with
   | false =>
    rw [hig] at hr
    obtain ⟨_, rfl⟩ := Prod.mk.inj (Option.some.inj hr)
    exact Oper.wp_mono (fun a' w' k => hK a' w' k) hwhole
   | true =>
    rw [hig] at hr
    simp only [cond_true] at hr
    unfold St.whole at hwhole hr
    generalize ZeF o.dst s' = d at hwhole hr
    generalize (bif Zby o.op then s else s.mix W s') = s0 at hwhole hr
    split at hr
    ·rename_i t b
     cases b with
     | true =>
      obtain ⟨_, rfl⟩ := Prod.mk.inj (Option.some.inj hr)
      exact Oper.wp_mono (fun a' w' k => hK a' w' (Zf8 k fun _ _ _ _ v hv => by rw [RD.bool hv]; exact rfl)) hwhole
     | false =>
      obtain ⟨_, rfl⟩ := Prod.mk.inj (Option.some.inj hr)
      exact Oper.wp_mono (fun a' w' k => hK a' w' (Zf8 k fun _ _ _ _ v hv => by rw [RD.bool hv]; exact rfl)) hwhole
    ·obtain ⟨_, rfl⟩ := Prod.mk.inj (Option.some.inj hr)
     exact Oper.wp_mono (fun a' w' k => hK a' w' k) hwhole
theorem mvD_run {o : Oper} {x : Operand} {d : D} (h : mvD c o.op s = some (x, d)) : (Zam c s o).run = some (s.putd o.dst d) := by
 unfold Zam
 unfold mvD at h
 split at h
 ·rename_i h1; rw [h1]; obtain ⟨rfl, rfl⟩ := Prod.mk.inj (Option.some.inj h); rfl
 ·rename_i h1; rw [h1]; obtain ⟨rfl, rfl⟩ := Prod.mk.inj (Option.some.inj h); rfl
 ·rename_i h1
  rw [h1]
  split at h
  ·rename_i h2
   obtain ⟨rfl, rfl⟩ := Prod.mk.inj (Option.some.inj h)
   simp only [h2]
   rfl
  ·cases h
 ·rename_i h1
  rw [h1]
  split at h
  ·rename_i off τ n i k h2 h3
   cases hz : decide (τ.sz = 0) with
   | true => rw [hz] at h; cases h
   | false =>
    rw [hz] at h
    obtain ⟨rfl, rfl⟩ := Prod.mk.inj (Option.some.inj h)
    simp only [h2, h3, hz, cond_false]
    rfl
  ·cases h
 ·cases h
theorem ZhH {o : Op} {s2 : St} (h : ∀ x ∈ o.operands.toList, opd s2 x = opd s x) : mvD c o s2 = mvD c o s := by
 unfold mvD
 split
 ·rw [h _ (by simp [Op.operands])]
 ·rw [h _ (by simp [Op.operands])]
 ·rw [h _ (by simp [Op.operands])]
 ·rw [h _ (by simp [Op.operands])]
 ·rfl
theorem mvD_mem {o : Op} {x : Operand} {d : D} (h : mvD c o s = some (x, d)) : x ∈ o.operands.toList := by
 unfold mvD at h
 split at h
 ·obtain ⟨rfl, _⟩ := Prod.mk.inj (Option.some.inj h); simp [Op.operands]
 ·obtain ⟨rfl, _⟩ := Prod.mk.inj (Option.some.inj h); simp [Op.operands]
 ·split at h
  ·obtain ⟨rfl, _⟩ := Prod.mk.inj (Option.some.inj h); simp [Op.operands]
  ·cases h
 ·split at h
  ·rename_i off τ n i k h2 h3
   cases hz : decide (τ.sz = 0) with
   | true => rw [hz] at h; cases h
   | false =>
    rw [hz] at h
    obtain ⟨rfl, _⟩ := Prod.mk.inj (Option.some.inj h); simp [Op.operands]
  ·cases h
 ·cases h
theorem mvD_all {o : Op} {x : Operand} {d : D} (h : mvD c o s = some (x, d)) : ∀ y ∈ o.operands.toList, y = x := by
 unfold mvD at h
 split at h
 ·obtain ⟨rfl, _⟩ := Prod.mk.inj (Option.some.inj h); simp [Op.operands]
 ·obtain ⟨rfl, _⟩ := Prod.mk.inj (Option.some.inj h); simp [Op.operands]
 ·split at h
  ·obtain ⟨rfl, _⟩ := Prod.mk.inj (Option.some.inj h); simp [Op.operands]
  ·cases h
 ·split at h
  ·rename_i off τ n i k h2 h3
   cases hz : decide (τ.sz = 0) with
   | true => rw [hz] at h; cases h
   | false =>
    rw [hz] at h
    obtain ⟨rfl, _⟩ := Prod.mk.inj (Option.some.inj h); simp [Op.operands]
  ·cases h
 ·cases h
theorem move_ok [DR] (he : EnvFull P c) {ops : Array Oper} {i : Nat} {o : Oper} {y : Operand} {d : D} {x : Rec} (hm : mvD c o.op s = some (y, d)) (hok : Ok g s a w) (hr : (ZdI ops i s o y d).run = some (x, st)) {K : Act -> World -> Prop} {Q : Exit -> Act -> World -> Prop} (hK : ∀ a' w', Ok g st a' w' -> K a' w') : o.wp P a w K Q := by
 have hwhole : o.wp P a w (fun a' w' => Ok g (s.putd o.dst d) a' w') Q := Zc0 he o g s _ a w _ Q hok (mvD_run hm) (fun a' w' k => k)
 unfold ZdI at hr
 simp only at hr
 cases hg : (opd s y).good && (d.good && Zbo d.nms (opd s y).nms) with
 | false => rw [hg] at hr; cases hr
 | true =>
  rw [hg] at hr
  simp only [cond_true] at hr
  cases hig : Zbu ops i with
  | false =>
   rw [hig] at hr
   obtain ⟨_, rfl⟩ := Prod.mk.inj (Option.some.inj hr)
   exact Oper.wp_mono (fun a' w' k => hK a' w' k) hwhole
  | true =>
   rw [hig] at hr
   simp only [cond_true] at hr
   split at hr
   ·rename_i t b
    cases b with
    | true =>
     obtain ⟨_, rfl⟩ := Prod.mk.inj (Option.some.inj hr)
     exact Oper.wp_mono (fun a' w' k => hK a' w' (Zf8 k fun _ _ _ _ v hv => by rw [RD.bool hv]; exact rfl)) hwhole
    | false =>
     obtain ⟨_, rfl⟩ := Prod.mk.inj (Option.some.inj hr)
     exact Oper.wp_mono (fun a' w' k => hK a' w' (Zf8 k fun _ _ _ _ v hv => by rw [RD.bool hv]; exact rfl)) hwhole
   ·obtain ⟨_, rfl⟩ := Prod.mk.inj (Option.some.inj hr)
    exact Oper.wp_mono (fun a' w' k => hK a' w' k) hwhole
theorem Zr9 [DR] (he : EnvFull P c) {ops : Array Oper} {i : Nat} {o : Oper} {x : Rec} (hok : Ok g s a w) (hr : (Zb1 c ops i s o).run = some (x, st)) {K : Act -> World -> Prop} {Q : Exit -> Act -> World -> Prop} (hK : ∀ a' w', Ok g st a' w' -> K a' w') : o.wp P a w K Q := by
 unfold Zb1 at hr
 split at hr
 ·rename_i y d hy
  exact move_ok he hy hok hr hK
 ·exact execG_ok he hok hr hK
end Go.PI

namespace Go.PI
open Go.RowKit
variable {P : Program} {c : Ctx} {g : Cfg} {s st : St} {a : Act} {w : World} {μ : Nm} {I : Bool -> Nat -> Prop}
theorem Zt5 {t : Array Value} {k : Nat} {b : Bool} (h : t.getD k undef = .bool b) : t[k]? = some (.bool b) := by
 rw [Array.getD_eq_getD_getElem?] at h
 cases hk : t[k]? with
 | none => rw [hk] at h; simp [undef] at h
 | some v => rw [hk] at h; simpa using h
theorem Zfe {ops : Array Oper} {j k : Nat} (hs : Zc9 ops j = some k) {b : Bool} (hb : a.tmps.getD k undef = .bool b) : yielded ops a.tmps j = some b := by
 unfold yielded
 unfold Zc9 at hs
 rw [hs]
 simp only [Option.bind_some]
 rw [Zt5 hb]
theorem ZiE {ops : Array Oper} {j k : Nat} (hs : Zc9 ops j = some k) (hb : a.tmps.getD k undef = .tuple #[]) : yielded ops a.tmps j = none := by
 unfold yielded
 unfold Zc9 at hs
 rw [hs]
 simp only [Option.bind_some]
 rw [Array.getD_eq_getD_getElem?] at hb
 cases hk : a.tmps[k]? with
 | none => rfl
 | some v =>
  rw [hk] at hb
  simp only [Option.getD_some] at hb
  subst hb
  rfl
theorem undefD {sh : Sh} : RD μ I w sh (.tup []) undef := ⟨[], rfl, rfl, fun j c v hc => by simp at hc⟩
theorem Zoi {want : Bool} {d : D} (h : onD want d = true) : d = .c (bif want then .tt else .ff) := by
 unfold onD at h
 split at h
 ·rw [h]; rfl
 ·cases want
  ·rfl
  ·cases h
 ·cases h
theorem ZsD {want : Bool} {d : D} (h : offD want d = true) : d = .c (bif want then .ff else .tt) \/ d = .tup [] := by
 unfold offD at h
 split at h
 ·cases want
  ·exact .inl rfl
  ·cases h
 ·rw [h]; exact .inl rfl
 ·exact .inr rfl
 ·cases h
theorem step_ok [DR] (he : EnvFull P c) {ops : Array Oper} {i : Nat} {x : Rec} (hok : Ok g s a w) (hr : (Ze9 c ops i s).run = some (x, st)) {K : Act -> World -> Prop} {Q : Exit -> Act -> World -> Prop} (hK : ∀ a' w', Ok g st a' w' -> K a' w') : wpOp P ops Q i K a w := by
 unfold wpOp
 unfold Ze9 at hr
 cases ho : ops[i]? with
 | none => simp only [ho] at hr; cases hr
 | some o =>
  simp only [ho] at hr ⊢
  have skips : ∀ {x : Rec}, (Br.ret (x, s.putd o.dst (.tup []))).run = some (x, st) -> K (a.put o.dst undef) w := by
   intro x hr
   obtain ⟨_, rfl⟩ := Prod.mk.inj (Option.some.inj hr)
   obtain ⟨μ, I, h⟩ := hok
   exact hK _ _ ⟨μ, I, h.putd (d := .tup []) (v := undef) undefD⟩
  cases hg : o.guard with
  | none =>
   simp only [hg] at hr
   rw [if_pos (by simp [Region.wanted, hg])]
   exact .inl (Zr9 he hok hr hK)
  | some jw =>
   obtain ⟨j, want⟩ := jw
   simp only [hg] at hr
   split at hr
   ·rename_i k hk
    have htm : RD _ _ _ _ (s.t.getD k (.c .bad)) (a.tmps.getD k undef) := hok.choose_spec.choose_spec.tm k
    cases hon : onD want (s.t.getD k (.c .bad)) with
    | true =>
     rw [hon] at hr
     rw [Zoi hon] at htm
     have hy := Zfe (a := a) hk (b := want) (by cases want <;> exact htm)
     rw [if_pos (by simp [Region.wanted, hg, hy])]
     exact .inl (Zr9 he hok hr hK)
    | false =>
     rw [hon] at hr
     simp only [cond_false] at hr
     cases hoff : offD want (s.t.getD k (.c .bad)) with
     | false => rw [hoff] at hr; cases hr
     | true =>
      rw [hoff] at hr
      simp only [cond_true] at hr
      obtain ⟨rfl, _⟩ := Prod.mk.inj (Option.some.inj hr)
      rcases ZsD hoff with e | e
      ·rw [e] at htm
       have hy := Zfe (a := a) hk (b := !want) (by cases want <;> exact htm)
       rw [if_neg (by simp [Region.wanted, hg, hy])]
       exact skips hr
      ·rw [e] at htm
       obtain ⟨vs, hv, hl⟩ := htm
       have : vs = [] := List.length_eq_zero_iff.1 hl.1.symm
       subst this
       have hy := ZiE (a := a) hk hv
       rw [if_neg (by simp [Region.wanted, hg, hy])]
       exact skips hr
   ·cases hr
end Go.PI

namespace Go.PI
open Go.RowKit
theorem Zj5 {m m' : Mem} : ∀ {ns : List Nat}, (∀ n ∈ ns, look n m = look n m') -> ZdY m ns = ZdY m' ns
 | [], _ => rfl
 | n :: r, h => by
  simp only [ZdY]
  rw [h n List.mem_cons_self, Zj5 (ns := r) fun k hk => h k (List.mem_cons_of_mem _ hk)]
theorem ZdU {n : Nat} : ∀ {l ns : List Nat}, n ∈ Zex l ns ↔ n ∈ l \/ n ∈ ns
 | [], ns => by simp [Zex]
 | k :: r, ns => by
  simp only [Zex]
  cases hk : memb k ns with
  | true =>
   simp only [cond_true, ZdU (l := r), List.mem_cons]
   constructor
   ·rintro (h | h)
    ·exact .inl (.inr h)
    ·exact .inr h
   ·rintro ((rfl | h) | h)
    ·exact .inr (Zah.1 hk)
    ·exact .inl h
    ·exact .inr h
  | false =>
   simp only [cond_false, ZdU (l := r), List.mem_cons]
   constructor
   ·rintro (h | h | h)
    ·exact .inl (.inr h)
    ·exact .inl (.inl h)
    ·exact .inr h
   ·rintro ((h | h) | h)
    ·exact .inr (.inl h)
    ·exact .inl h
    ·exact .inr (.inr h)
theorem Zlw {m : Mem} : ∀ (f : Nat) {ns : List Nat} {n : Nat}, n ∈ ns -> n ∈ Zfi m f ns
 | 0, _, _, h => h
 | f + 1, _, _, h => Zlw f (ZdU.2 (.inr h))
theorem Zm8 {m m' : Mem} : ∀ (f : Nat) {ns : List Nat}, (∀ n ∈ Zfi m f ns, look n m = look n m') -> Zfi m f ns = Zfi m' f ns
 | 0, _, _ => rfl
 | f + 1, ns, h => by
  simp only [Zfi] at h ⊢
  have e : ZdY m ns = ZdY m' ns := Zj5 fun n hn => h n (Zlw f (ZdU.2 (.inr hn)))
  rw [<- e]
  exact Zm8 f h
theorem Zjr {t t' : List D} : ∀ {l : List Nat}, (∀ i ∈ l, t.getD i (.c .bad) = t'.getD i (.c .bad)) -> ZfL t l = ZfL t' l
 | [], _ => rfl
 | i :: r, h => by
  simp only [ZfL]
  rw [h i List.mem_cons_self, Zjr (l := r) fun k hk => h k (List.mem_cons_of_mem _ hk)]
structure Same (l F : List Nat) (s s' : St) : Prop where
 len : s.t.length = s'.t.length
 t : ∀ i ∈ l, s.t.getD i (.c .bad) = s'.t.getD i (.c .bad)
 m : ∀ n ∈ F, look n s.m = look n s'.m
theorem Same.names {l : List Nat} {s s' : St} (h : Same l (ZbV s l) s s') : ZbV s' l = ZbV s l := by
 unfold ZbV at *
 rw [<- Zjr h.t]
 exact (Zm8 3 h.m).symm
theorem Zow {m m' : Mem} : ∀ {ns : List Nat}, (∀ n ∈ ns, look n m = look n m') -> Za7 m ns = Za7 m' ns
 | [], _ => rfl
 | n :: r, h => by
  simp only [Za7]
  rw [h n List.mem_cons_self, Zow (ns := r) fun k hk => h k (List.mem_cons_of_mem _ hk)]
theorem maskT_eq {l : List Nat} {t t' : List D} (hlen : t.length = t'.length) (h : ∀ i ∈ l, t.getD i (.c .bad) = t'.getD i (.c .bad)) : ZcY l 0 t = ZcY l 0 t' := by
 apply List.ext_getElem?
 intro i
 rw [Zev, Zev, Nat.zero_add]
 cases hm : memb i l with
 | true =>
  have := h i (Zah.1 hm)
  by_cases hi : i < t.length
  ·have hi' : i < t'.length := hlen ▸ hi
   simp only [List.getD, List.getElem?_eq_getElem hi, List.getElem?_eq_getElem hi', Option.getD_some] at this
   rw [List.getElem?_eq_getElem hi, List.getElem?_eq_getElem hi', this]
  ·rw [List.getElem?_eq_none (Nat.not_lt.1 hi), List.getElem?_eq_none (hlen ▸ Nat.not_lt.1 hi)]
 | false =>
  by_cases hi : i < t.length
  ·have hi' : i < t'.length := hlen ▸ hi
   rw [List.getElem?_eq_getElem hi, List.getElem?_eq_getElem hi']; rfl
  ·rw [List.getElem?_eq_none (Nat.not_lt.1 hi), List.getElem?_eq_none (hlen ▸ Nat.not_lt.1 hi)]
theorem Same.cut {l F : List Nat} {s s' : St} (h : Same l F s s') : s.cut l F = s'.cut l F := by
 unfold St.cut
 rw [maskT_eq h.len h.t, Zow h.m]
theorem Same.good {l F : List Nat} {s s' : St} (h : Same l F s s') : ZdM s l F = ZdM s' l F := by
 unfold ZdM
 rw [Zjr h.t]
 congr 1
 ·congr 1
  rw [Bool.eq_iff_iff, List.all_eq_true, List.all_eq_true]
  exact ⟨fun k i hi => by rw [<- h.t i hi]; exact k i hi, fun k i hi => by rw [h.t i hi]; exact k i hi⟩
 ·rw [Bool.eq_iff_iff, List.all_eq_true, List.all_eq_true]
  exact ⟨fun k i hi => by rw [<- h.m i hi]; exact k i hi, fun k i hi => by rw [h.m i hi]; exact k i hi⟩
theorem Same.look {o : Op} {F : List Nat} {s s' : St} (h : Same (Zaq s o) F s s') : Zaq s' o = Zaq s o := by
 unfold Zaq at *
 split at h
 ·rename_i k a b
  have e : opd s' k = opd s k := by
   cases k with
   | tmp t =>
    have : t ∈ (match opd s (.tmp t) with
     | .c .tt => Zbd [.tmp t, a]
     | .c .ff => Zbd [.tmp t, b]
     | _ => Zbd [.tmp t, a, b]) := by split <;> simp [Zbd]
    exact (h.t t this).symm
   | _ => rfl
  simp only [e]
 ·rfl
end Go.PI

namespace Go.PI
open Go.RowKit
variable {c : Ctx} {s st : St}
def Zfc (gd : Bool) (d : D) : D := bif gd then (match d with
 | .c (.ty _ .bool b) => bif b then .c .tt else .c .ff
 | d => d) else d
theorem Zcr (s : St) (dst : Option Tmp) (d d' : D) : (s.putd dst d).putd dst d' = s.putd dst d' := by
 cases dst with
 | none => rfl
 | some k => show (⟨(s.t.set k d).set k d', s.m, s.k⟩ : St) = ⟨s.t.set k d', s.m, s.k⟩; rw [List.set_set]
structure Did (c : Ctx) (ops : Array Oper) (i : Nat) (o : Oper) (s : St) (x : Rec) (s' : St) : Prop where
 good : ZdM s (Zaq s o.op) x.F = true
 F : ZbV s (Zaq s o.op) = x.F
 run : ∃ s0, (Zam c (s.cut (Zaq s o.op) x.F) o).run = some s0 /\ s' = s0.less (Zbx x.W x.F)
 i : x.i = i
 W : Zft s x.F o.op = x.W
 wf : Zbo x.W x.F = true
 ro : roOk s (c.base + o.dst.getD 0) (Zbx x.W x.F) x.G = true
 G : x.G = Zau x.W s'
 X : x.X = bif Zby o.op then [] else x.W ++ x.G
 M : x.M = x.F
 d : Zbo (ZeF o.dst s').nms (x.F ++ x.G) = true
 m : (s'.m.all fun p => Zbo p.2.nms (x.F ++ x.G)) = true
 Z : x.Z = Ze5 s x.F
def ZdF (q : Bool) (F : List Nat) (s s' : St) : St := bif q then s else s.mix F s'
theorem ZoQ {ops : Array Oper} {i : Nat} {o : Oper} {x : Rec} (hr : (ZcZ c ops i s o).run = some (x, st)) : ∃ s', Did c ops i o s x s' /\ st = (ZdF (Zby o.op) x.W s s').putd o.dst (Zfc (Zbu ops i) (ZeF o.dst s')) := by
 unfold ZcZ at hr
 simp only at hr
 cases hg : ZdM s (Zaq s o.op) (ZbV s (Zaq s o.op)) with
 | false => rw [hg] at hr; cases hr
 | true =>
  rw [hg] at hr
  simp only [cond_true] at hr
  obtain ⟨s0, h1, hr⟩ := Br.bind_some hr
  generalize hF : ZbV s (Zaq s o.op) = F at hg h1 hr
  generalize hW : Zft s F o.op = W at hr
  generalize hs' : s0.less (Zbx W F) = s' at hr
  generalize hchk : ((Zbo W F && roOk s (c.base + o.dst.getD 0) (Zbx W F) (Zau W s')) && (Zbo (ZeF o.dst s').nms (F ++ Zau W s') && s'.m.all (fun p => Zbo p.2.nms (F ++ Zau W s')))) = chk at hr
  cases chk with
  | false => cases hr
  | true =>
   simp only [cond_true] at hr
   simp only [Bool.and_eq_true] at hchk
   have fin : ∀ {y : Rec}, y = ⟨i, F, Zau W s', bif Zby o.op then [] else W ++ Zau W s', W, F, Ze5 s F⟩ -> Did c ops i o s y s' := by
    rintro y rfl
    exact ⟨hg, hF, ⟨s0, h1, hs'.symm⟩, rfl, hW, hchk.1.1, hchk.1.2, rfl, rfl, rfl, hchk.2.1, hchk.2.2, rfl⟩
   unfold St.whole at hr
   cases hig : Zbu ops i with
   | false =>
    rw [hig] at hr
    obtain ⟨rfl, rfl⟩ := Prod.mk.inj (Option.some.inj hr)
    exact ⟨s', fin rfl, rfl⟩
   | true =>
    rw [hig] at hr
    simp only [cond_true] at hr
    split at hr
    ·rename_i t b hd
     cases b with
     | true =>
      obtain ⟨rfl, rfl⟩ := Prod.mk.inj (Option.some.inj hr)
      exact ⟨s', fin rfl, by rw [Zcr, hd]; rfl⟩
     | false =>
      obtain ⟨rfl, rfl⟩ := Prod.mk.inj (Option.some.inj hr)
      exact ⟨s', fin rfl, by rw [Zcr, hd]; rfl⟩
    ·rename_i hd
     obtain ⟨rfl, rfl⟩ := Prod.mk.inj (Option.some.inj hr)
     refine ⟨s', fin rfl, ?_⟩
     show (ZdF _ _ _ _).putd _ _ = _
     congr 1
     unfold Zfc
     simp only [cond_true]
theorem ZsB {ops : Array Oper} {i : Nat} {o : Oper} {x : Rec} {s' : St} (h : Did c ops i o s x s') : (ZcZ c ops i s o).run = some (x, (ZdF (Zby o.op) x.W s s').putd o.dst (Zfc (Zbu ops i) (ZeF o.dst s'))) := by
 obtain ⟨xi, xF, xG, xX, xW, xM, xZ⟩ := x
 obtain ⟨h1, h2, ⟨s0, h3, h9⟩, h4, hW, hwf, hro, h5, h6, hMM, h7, h8, hZ⟩ := h
 simp only at h1 h2 h3 h4 h5 h6 h7 h8 h9 hW hwf hro hMM hZ
 subst h4 h6 h5 hMM hZ
 unfold ZcZ
 simp only [h2, h1, hW, cond_true, Br.run_bind, h3, Option.bind_some, <- h9]
 rw [hwf, hro, h7, h8]
 simp only [Bool.and_self, cond_true]
 unfold St.whole
 cases hig : Zbu ops xi with
 | false => rfl
 | true =>
  simp only [cond_true]
  cases hd : ZeF o.dst s' with
  | c y =>
   cases y with
   | ty t τ b =>
    cases τ with
    | bool =>
     cases b with
     | true => simp only [Br.run, cond_true, Zcr]; rfl
     | false => simp only [Br.run, cond_false, Zcr]; rfl
    | _ => rfl
   | _ => rfl
  | _ => rfl
theorem wr_same {o : Op} {F F' : List Nat} {s s2 : St} (hs : Same (Zaq s o) F' s s2) : Zft s2 F o = Zft s F o := by
 unfold Zft
 split
 ·rename_i _ args ts
  split
  ·rename_i x r hx
   cases x with
   | tmp t =>
    have hm : t ∈ Zaq s (.call { callee := .builtin .append, args := args, argTypes := ts }) := by
     unfold Zaq
     simp only [Op.operands, Call.operands]
     simp [hx, Zbd]
    have e := hs.t t hm
    show (s2.t.getD t (.c .bad)).nms = (s.t.getD t (.c .bad)).nms
    rw [e]
   | _ => rfl
  ·rfl
 ·rfl
theorem Zqx {F : List Nat} {s s2 : St} (h : ∀ n ∈ F, look n s.m = look n s2.m) : Ze5 s F = Ze5 s2 F := by
 unfold Ze5
 induction F with
 | nil => rfl
 | cons n r ih =>
  simp only [List.all_cons]
  rw [h n List.mem_cons_self, ih fun k hk => h k (List.mem_cons_of_mem _ hk)]
theorem Did.same {ops : Array Oper} {i : Nat} {o : Oper} {x : Rec} {s s2 s' : St} (h : Did c ops i o s x s') (hs : Same (Zaq s o.op) x.F s s2) : Did c ops i o s2 x s' := by
 have e1 := hs.look
 have e2 : ZbV s2 (Zaq s o.op) = ZbV s (Zaq s o.op) := Same.names (h.F.symm ▸ hs)
 refine ⟨?_, ?_, ?_, h.i, ?_, h.wf, ?_, h.G, h.X, h.M, h.d, h.m, h.Z.trans (Zqx hs.m)⟩
 ·rw [e1, <- hs.good]; exact h.good
 ·rw [e1, e2]; exact h.F
 ·rw [e1, <- hs.cut]; exact h.run
 ·rw [wr_same hs]; exact h.W
 ·have hro := h.ro
  unfold roOk at hro ⊢
  rw [List.all_eq_true] at hro ⊢
  intro n hn
  have := hro n hn
  rw [hs.m n (Zd8.1 hn).1] at this
  exact this
theorem Zor {ops : Array Oper} {i : Nat} {o : Oper} {y : Operand} {d : D} {x : Rec} (hr : (ZdI ops i s o y d).run = some (x, st)) : ((opd s y).good && (d.good && Zbo d.nms (opd s y).nms)) = true /\ x = ⟨i, (opd s y).nms, [], [], [], [], true⟩ /\ st = s.putd o.dst (Zfc (Zbu ops i) d) := by
 unfold ZdI at hr
 simp only at hr
 cases hg : (opd s y).good && (d.good && Zbo d.nms (opd s y).nms) with
 | false => rw [hg] at hr; cases hr
 | true =>
  rw [hg] at hr
  simp only [cond_true] at hr
  refine ⟨rfl, ?_⟩
  cases hig : Zbu ops i with
  | false =>
   rw [hig] at hr
   obtain ⟨rfl, rfl⟩ := Prod.mk.inj (Option.some.inj hr)
   exact ⟨rfl, rfl⟩
  | true =>
   rw [hig] at hr
   simp only [cond_true] at hr
   split at hr
   ·rename_i t b
    cases b with
    | true =>
     obtain ⟨rfl, rfl⟩ := Prod.mk.inj (Option.some.inj hr)
     exact ⟨rfl, by rw [Zcr]; rfl⟩
    | false =>
     obtain ⟨rfl, rfl⟩ := Prod.mk.inj (Option.some.inj hr)
     exact ⟨rfl, by rw [Zcr]; rfl⟩
   ·rename_i hd
    obtain ⟨rfl, rfl⟩ := Prod.mk.inj (Option.some.inj hr)
    refine ⟨rfl, ?_⟩
    congr 1
    unfold Zfc
    simp only [cond_true]
theorem ZsY {ops : Array Oper} {i : Nat} {o : Oper} {y : Operand} {d : D} (hg : ((opd s y).good && (d.good && Zbo d.nms (opd s y).nms)) = true) : (ZdI ops i s o y d).run = some (⟨i, (opd s y).nms, [], [], [], [], true⟩, s.putd o.dst (Zfc (Zbu ops i) d)) := by
 unfold ZdI
 simp only
 rw [hg]
 simp only [cond_true]
 cases hig : Zbu ops i with
 | false => rfl
 | true =>
  simp only [cond_true]
  cases d with
  | c y =>
   cases y with
   | ty t τ b =>
    cases τ with
    | bool =>
     cases b with
     | true => simp only [Br.run, cond_true, Zcr]; rfl
     | false => simp only [Br.run, cond_false, Zcr]; rfl
    | _ => rfl
   | _ => rfl
  | _ => rfl
end Go.PI

namespace Go.PI
open Go.RowKit
variable {c : Ctx} {s st : St}
theorem Zen (s : St) (n k : Nat) : look k (s.kill n).m = if k = n then none else (look k s.m).map (MB.kill n) := by
 simp only [St.kill, Zaz]
 by_cases e : k = n
 ·subst e; rw [if_pos rfl, Zap]; rfl
 ·rw [if_neg e, Zaj e]
theorem SEq.kill {s s' : St} (h : SEq s s') (n : Nat) : SEq (s.kill n) (s'.kill n) :=
 ⟨by show s.t.map _ = s'.t.map _; rw [h.t], fun k => by rw [Zen, Zen, h.m k], fun k => by
  show k ∈ n :: s.k ↔ k ∈ n :: s'.k
  simp only [List.mem_cons, h.k k]⟩
theorem SEq.killAll : ∀ (l : List Nat) {s s' : St}, SEq s s' -> SEq (killAll l s) (killAll l s')
 | [], _, _, h => h
 | n :: r, _, _, h => SEq.killAll r (h.kill n)
theorem SEq.putd {s s' : St} (h : SEq s s') (dst : Option Tmp) (d : D) : SEq (s.putd dst d) (s'.putd dst d) := by
 cases dst with
 | none => exact h
 | some k => exact ⟨by show s.t.set k d = s'.t.set k d; rw [h.t], h.m, h.k⟩
theorem Zg9 (ns : List Nat) (s s' : St) (n : Nat) : look n (s.mix ns s').m = match look n s'.m with
  | some b => some b
  | none => if n ∈ ns then none else look n (killAll (Zau ns s') s).m := by
 show look n (s'.m ++ Zbb ns _) = _
 rw [ZbH, Zce]
 cases look n s'.m <;> rfl
theorem SEq.mix {s s2 : St} (h : SEq s s2) (ns : List Nat) (s' : St) : SEq (s.mix ns s') (s2.mix ns s') := by
 have hk := h.killAll (Zau ns s')
 exact ⟨hk.t, fun n => by rw [Zg9, Zg9, hk.m n], hk.k⟩
theorem SEq.base {s s2 : St} (h : SEq s s2) (q : Bool) (ns : List Nat) (s' : St) : SEq (ZdF q ns s s') (ZdF q ns s2 s') := by
 cases q with
 | true => exact h
 | false => exact h.mix ns s'
theorem SEq.same {s s2 : St} (h : SEq s s2) (l F : List Nat) : Same l F s s2 := ⟨by rw [h.t], fun i _ => by rw [h.t], fun n _ => h.m n⟩
def ZbU (c : Ctx) (ops : Array Oper) (i : Nat) (s : St) (x : Rec) (st : St) : Prop := (Ze9 c ops i s).run = some (x, st)
def Zid (ops : Array Oper) (o : Oper) (s : St) : Prop := o.guard = none \/ ∃ j want k, o.guard = some (j, want) /\ Zc9 ops j = some k /\ onD want (s.t.getD k (.c .bad)) = true
def Zqm (ops : Array Oper) (o : Oper) (s : St) : Prop := ∃ j want k, o.guard = some (j, want) /\ Zc9 ops j = some k /\ onD want (s.t.getD k (.c .bad)) = false /\ offD want (s.t.getD k (.c .bad)) = true
theorem Zj6 {ops : Array Oper} {i : Nat} {x : Rec} (h : ZbU c ops i s x st) : ∃ o, ops[i]? = some o /\
  ((Zid ops o s /\ (Zb1 c ops i s o).run = some (x, st)) \/
   (Zqm ops o s /\ x = ⟨i, [], [], [], [], [], true⟩ /\ st = s.putd o.dst (.tup []))) := by
 unfold ZbU Ze9 at h
 cases ho : ops[i]? with
 | none => simp only [ho] at h; cases h
 | some o =>
  simp only [ho] at h
  refine ⟨o, rfl, ?_⟩
  cases hg : o.guard with
  | none => simp only [hg] at h; exact .inl ⟨.inl hg, h⟩
  | some jw =>
   obtain ⟨j, want⟩ := jw
   simp only [hg] at h
   split at h
   ·rename_i k hk
    cases hon : onD want (s.t.getD k (.c .bad)) with
    | true => rw [hon] at h; exact .inl ⟨.inr ⟨j, want, k, hg, hk, hon⟩, h⟩
    | false =>
     rw [hon] at h
     simp only [cond_false] at h
     cases hoff : offD want (s.t.getD k (.c .bad)) with
     | false => rw [hoff] at h; cases h
     | true =>
      rw [hoff] at h
      obtain ⟨rfl, rfl⟩ := Prod.mk.inj (Option.some.inj h)
      exact .inr ⟨⟨j, want, k, hg, hk, hon, hoff⟩, rfl, rfl⟩
   ·cases h
theorem ZfR {ops : Array Oper} {i : Nat} {o : Oper} {x : Rec} (ho : ops[i]? = some o) (hg : Zid ops o s) (h : (Zb1 c ops i s o).run = some (x, st)) : ZbU c ops i s x st := by
 unfold ZbU Ze9
 simp only [ho]
 rcases hg with hg | ⟨j, want, k, hg, hk, hd⟩
 ·simp only [hg]; exact h
 ·simp only [hg, hk, hd, cond_true]
  exact h
theorem Zl4 {ops : Array Oper} {i : Nat} {o : Oper} (ho : ops[i]? = some o) (hg : Zqm ops o s) : ZbU c ops i s ⟨i, [], [], [], [], [], true⟩ (s.putd o.dst (.tup [])) := by
 unfold ZbU Ze9
 obtain ⟨j, want, k, hg, hk, hd, he⟩ := hg
 simp only [ho, hg, hk, hd, he, cond_true, cond_false]
 rfl
theorem Ztg {ops : Array Oper} {i : Nat} {x : Rec} {s2 : St} (h : ZbU c ops i s x st) (hs : SEq s s2) : ∃ st2, ZbU c ops i s2 x st2 /\ SEq st st2 := by
 obtain ⟨o, ho, h⟩ := Zj6 h
 rcases h with ⟨hg, h⟩ | ⟨hg, rfl, rfl⟩
 ·have hg2 : Zid ops o s2 := by
   rcases hg with hg | ⟨j, want, k, hg, hk, e⟩
   ·exact .inl hg
   ·exact .inr ⟨j, want, k, hg, hk, by rw [<- hs.t]; exact e⟩
  have hcg : mvD c o.op s2 = mvD c o.op s := ZhH fun x _ => by
   cases x with
   | tmp t => show s2.t.getD t (.c .bad) = s.t.getD t (.c .bad); rw [hs.t]
   | _ => rfl
  cases hm : mvD c o.op s with
  | none =>
   have h : (ZcZ c ops i s o).run = some (x, st) := by unfold Zb1 at h; rw [hm] at h; exact h
   obtain ⟨s', hd, rfl⟩ := ZoQ h
   have hd2 := hd.same (hs.same _ _)
   refine ⟨_, ZfR ho hg2 ?_, (hs.base _ _ _).putd _ _⟩
   unfold Zb1
   rw [hcg, hm]
   exact ZsB hd2
  | some yd =>
   obtain ⟨y, d⟩ := yd
   have h : (ZdI ops i s o y d).run = some (x, st) := by unfold Zb1 at h; rw [hm] at h; exact h
   obtain ⟨h1, rfl, rfl⟩ := Zor h
   have e : opd s2 y = opd s y := by
    cases y with
    | tmp t => show s2.t.getD t (.c .bad) = s.t.getD t (.c .bad); rw [hs.t]
    | _ => rfl
   refine ⟨s2.putd o.dst (Zfc (Zbu ops i) d), ZfR ho hg2 ?_, hs.putd _ _⟩
   unfold Zb1
   rw [hcg, hm]
   have := ZsY (ops := ops) (i := i) (o := o) (s := s2) (y := y) (d := d) (by rw [e]; exact h1)
   rw [e] at this
   exact this
 ·refine ⟨_, Zl4 ho ?_, hs.putd _ _⟩
  obtain ⟨j, want, k, hg, hk, e⟩ := hg
  exact ⟨j, want, k, hg, hk, by rw [<- hs.t]; exact e⟩
end Go.PI

namespace Go.PI
open Go.RowKit
variable {c : Ctx} {s st : St}
theorem C.kill_good {n : Nat} {x : C} (h : (x.kill n).good = true) : x.kill n = x := by
 unfold C.kill at *
 cases hn : x.has n with
 | true => rw [hn] at h; cases h
 | false => rfl
theorem C.kill_apart {n : Nat} {x : C} (h : n ∉ x.nm) : x.kill n = x := by
 unfold C.kill
 cases hn : x.has n with
 | true => exact absurd (ZkG.1 hn) h
 | false => rfl
theorem Zfu {n : Nat} : ∀ {l : List C}, (l.map (C.kill n)).all C.good = true -> l.map (C.kill n) = l
 | [], _ => rfl
 | x :: l, h => by
  simp only [List.map_cons, List.all_cons, Bool.and_eq_true] at h ⊢
  rw [C.kill_good h.1, Zfu h.2]
theorem Zeu {n : Nat} : ∀ {l : List C}, n ∉ l.flatMap C.nm -> l.map (C.kill n) = l
 | [], _ => rfl
 | x :: l, h => by
  simp only [List.flatMap_cons, List.mem_append, not_or] at h
  rw [List.map_cons, C.kill_apart h.1, Zeu h.2]
theorem D.kill_good {n : Nat} {d : D} (h : (d.kill n).good = true) : d.kill n = d := by
 cases d with
 | c x => simp only [D.kill, D.good] at *; rw [C.kill_good h]
 | agg l => simp only [D.kill, D.good] at *; rw [Zfu h]
 | tup l => simp only [D.kill, D.good] at *; rw [Zfu h]
 | fn f l => simp only [D.kill, D.good] at *; rw [Zfu h]
theorem D.kill_apart {n : Nat} {d : D} (h : n ∉ d.nms) : d.kill n = d := by
 cases d with
 | c x => simp only [D.kill]; rw [C.kill_apart h]
 | agg l => simp only [D.kill]; rw [Zeu h]
 | tup l => simp only [D.kill]; rw [Zeu h]
 | fn f l => simp only [D.kill]; rw [Zeu h]
theorem MB.kill_good {n : Nat} {b : MB} (h : (b.kill n).good = true) : b.kill n = b := by
 cases b with
 | dv l => simp only [MB.kill, MB.good] at *; rw [Zfu h]
 | _ => rfl
theorem MB.kill_apart {n : Nat} {b : MB} (h : n ∉ b.nms) : b.kill n = b := by
 cases b with
 | dv l => simp only [MB.kill]; rw [Zeu h]
 | _ => rfl
theorem ZjY (s : St) (n i : Nat) : (s.kill n).t.getD i (.c .bad) = (s.t.getD i (.c .bad)).kill n := by
 show (s.t.map (D.kill n)).getD i (.c .bad) = _
 simp only [List.getD, List.getElem?_map]
 cases s.t[i]? with
 | none => rfl
 | some d => rfl
theorem Zeb : ∀ (l : List Nat) (s : St), (killAll l s).t.length = s.t.length
 | [], _ => rfl
 | n :: r, s => by
  show (killAll r (s.kill n)).t.length = _
  rw [Zeb r]
  show (s.t.map _).length = _
  rw [List.length_map]
theorem ZhF : ∀ (l : List Nat) (s : St) {i : Nat}, ((killAll l s).t.getD i (.c .bad)).good = true -> (killAll l s).t.getD i (.c .bad) = s.t.getD i (.c .bad)
 | [], _, _, _ => rfl
 | n :: r, s, i, h => by
  have e := ZhF r (s.kill n) h
  have e0 : (killAll (n :: r) s).t.getD i (.c .bad) = (killAll r (s.kill n)).t.getD i (.c .bad) := rfl
  rw [e0, e, ZjY]
  rw [e0, e, ZjY] at h
  exact D.kill_good h
theorem Zhr : ∀ (l : List Nat) (s : St) {i : Nat}, (∀ n ∈ l, n ∉ (s.t.getD i (.c .bad)).nms) -> (killAll l s).t.getD i (.c .bad) = s.t.getD i (.c .bad)
 | [], _, _, _ => rfl
 | n :: r, s, i, h => by
  have e1 : (s.kill n).t.getD i (.c .bad) = s.t.getD i (.c .bad) := by rw [ZjY, D.kill_apart (h n List.mem_cons_self)]
  have := Zhr r (s.kill n) (i := i) (by rw [e1]; exact fun k hk => h k (List.mem_cons_of_mem _ hk))
  exact this.trans e1
theorem ZeI : ∀ (l : List Nat) (s : St) {n : Nat} {b : MB}, look n (killAll l s).m = some b -> b.good = true -> look n s.m = some b
 | [], _, _, _, h, _ => h
 | k :: r, s, n, b, h, hb => by
  have := ZeI r (s.kill k) h hb
  rw [Zen] at this
  split at this
  ·cases this
  ·obtain ⟨b0, h0, e⟩ := Option.map_eq_some_iff.1 this
   rw [<- e] at hb
   rw [h0, <- e, MB.kill_good hb]
theorem Zes : ∀ (l : List Nat) (s : St) {n : Nat} {b : MB}, look n s.m = some b -> n ∉ l -> (∀ k ∈ l, k ∉ b.nms) -> look n (killAll l s).m = some b
 | [], _, _, _, h, _, _ => h
 | k :: r, s, n, b, h, hn, hb => by
  refine Zes r (s.kill k) ?_ (fun hm => hn (List.mem_cons_of_mem _ hm)) (fun j hj => hb j (List.mem_cons_of_mem _ hj))
  rw [Zen, if_neg (fun e => hn (by rw [e]; exact List.mem_cons_self)), h]
  show some (b.kill k) = _
  rw [MB.kill_apart (hb k List.mem_cons_self)]
end Go.PI

namespace Go.PI
open Go.RowKit
variable {c : Ctx} {s st : St}
structure Eff (x : Rec) (q : Bool) (s' : St) (v : D) : Prop where
 mf : ∀ n ∈ x.M, n ∈ x.F
 wf : ∀ n ∈ x.W, n ∈ x.M
 G : x.G = Zau x.W s'
 g0 : q = true -> x.G = []
 X : q = false -> ∀ n, n ∈ x.X ↔ n ∈ x.W \/ n ∈ x.G
 vn : ∀ n ∈ v.nms, n ∈ x.F \/ n ∈ x.G
 m : q = false -> ∀ n b, look n s'.m = some b -> ∀ k ∈ b.nms, k ∈ x.F \/ k ∈ x.G
def ZaS (x : Rec) (q : Bool) (s' : St) (v : D) (dst : Option Tmp) (s : St) : St := (ZdF q x.W s s').putd dst v
theorem mem_look {m : Mem} {f : Nat × MB -> Bool} (h : m.all f = true) : ∀ {n : Nat} {b : MB}, look n m = some b -> f (n, b) = true := by
 induction m with
 | nil => intro n b hl; cases hl
 | cons p r ih =>
  obtain ⟨k, mb⟩ := p
  intro n b hl
  simp only [List.all_cons, Bool.and_eq_true] at h
  simp only [look] at hl
  cases hk : Nat.beq k n with
  | true =>
   rw [hk] at hl
   obtain rfl := Option.some.inj hl
   rw [<- Nat.eq_of_beq_eq_true hk]
   exact h.1
  | false => rw [hk] at hl; exact ih h.2 hl
theorem Zos {gd : Bool} {d : D} {n : Nat} (h : n ∈ (Zfc gd d).nms) : n ∈ d.nms := by
 unfold Zfc at h
 cases gd with
 | false => exact h
 | true =>
  simp only [cond_true] at h
  split at h
  ·rename_i b
   cases b <;> simp [D.nms, C.nm] at h
  ·exact h
theorem did_eff {ops : Array Oper} {i : Nat} {o : Oper} {x : Rec} {s' : St} (h : Did c ops i o s x s') : Eff x (Zby o.op) s' (Zfc (Zbu ops i) (ZeF o.dst s')) := by
 refine ⟨fun n hn => (by rw [h.M] at hn; exact hn), fun n hn => (by rw [h.M]; exact Zcu.1 h.wf n hn), h.G, fun hq => ?_, fun hq n => ?_, fun n hn => ?_, fun _ n b hb k hk => ?_⟩
 ·obtain ⟨s0, h1, h2⟩ := h.run
  have hW := h.W
  rw [ZqJ hq] at hW
  obtain ⟨q1, q2⟩ := ZoM hq h1
  rw [h.G, h2, <- hW, Znx, Zpr]
  exact Zlf q1 q2
 ·rw [h.X, hq]
  exact List.mem_append
 ·exact List.mem_append.1 (Zcu.1 h.d n (Zos hn))
 ·exact List.mem_append.1 (Zcu.1 (mem_look h.m hb) k hk)
theorem skip_eff (i : Nat) : Eff ⟨i, [], [], [], [], [], true⟩ true ⟨[], [], []⟩ (.tup []) :=
 ⟨fun n hn => (by cases hn), fun n hn => (by cases hn), rfl, fun _ => rfl, fun e => (by cases e), fun n hn => (by simp [D.nms] at hn), fun e => (by cases e)⟩
theorem move_eff (i : Nat) (d : D) (F : List Nat) (hF : Zbo d.nms F = true) (gd : Bool) : Eff ⟨i, F, [], [], [], [], true⟩ true ⟨[], [], []⟩ (Zfc gd d) :=
 ⟨fun n hn => (by cases hn), fun n hn => (by cases hn), rfl, fun _ => rfl, fun e => (by cases e), fun n hn => .inl (Zah.1 (List.all_eq_true.1 hF n (Zos hn))), fun e => (by cases e)⟩
section
variable {x : Rec} {q : Bool} {s' : St} {v : D} {dst : Option Tmp}
theorem ZhN (h : Eff x q s' v) (s : St) : (ZdF q x.W s s').t = (killAll x.G s).t := by
 cases q with
 | true => rw [h.g0 rfl]; rfl
 | false => rw [h.G]; rfl
theorem base_k (h : Eff x q s' v) (s : St) : (ZdF q x.W s s').k = (killAll x.G s).k := by
 cases q with
 | true => rw [h.g0 rfl]; rfl
 | false => rw [h.G]; rfl
theorem Zpd (s : St) (dst : Option Tmp) (v : D) {r : Nat} (hr : dst ≠ some r) : (s.putd dst v).t.getD r (.c .bad) = s.t.getD r (.c .bad) := by
 cases dst with
 | none => rfl
 | some k =>
  show (s.t.set k v).getD r (.c .bad) = _
  simp only [List.getD]
  rw [List.getElem?_set_ne (fun e => hr (by rw [e]))]
theorem Zpa (s : St) (dst : Option Tmp) (v : D) : (s.putd dst v).m = s.m /\ (s.putd dst v).k = s.k := by cases dst <;> exact ⟨rfl, rfl⟩
theorem putd_len (s : St) (dst : Option Tmp) (v : D) : (s.putd dst v).t.length = s.t.length := by
 cases dst with
 | none => rfl
 | some k => exact List.length_set
theorem Zdv (h : Eff x q s' v) (s : St) : (ZaS x q s' v dst s).t.length = s.t.length := by
 unfold ZaS
 rw [putd_len, ZhN h, Zeb]
theorem eff_good (h : Eff x q s' v) (s : St) {r : Nat} (hr : dst ≠ some r) (hg : ((ZaS x q s' v dst s).t.getD r (.c .bad)).good = true) : (ZaS x q s' v dst s).t.getD r (.c .bad) = s.t.getD r (.c .bad) := by
 unfold ZaS at *
 rw [Zpd _ _ _ hr, ZhN h] at *
 exact ZhF _ _ hg
theorem Zuv (h : Eff x q s' v) (s : St) {r : Nat} (hr : dst ≠ some r) (hg : ∀ n ∈ x.G, n ∉ (s.t.getD r (.c .bad)).nms) : (ZaS x q s' v dst s).t.getD r (.c .bad) = s.t.getD r (.c .bad) := by
 unfold ZaS
 rw [Zpd _ _ _ hr, ZhN h]
 exact Zhr _ _ hg
theorem Zqu (h : Eff x q s' v) (s : St) {n : Nat} (hn : q = true \/ (n ∉ x.W /\ n ∉ x.G)) : look n (ZaS x q s' v dst s).m = look n (killAll x.G s).m := by
 unfold ZaS
 rw [(Zpa _ _ _).1]
 cases q with
 | true => rw [h.g0 rfl]; rfl
 | false =>
  obtain ⟨h1, h2⟩ := hn.resolve_left (by decide)
  show look n (s.mix x.W s').m = _
  rw [Zg9, <- h.G]
  cases hl : look n s'.m with
  | none => simp only; rw [if_neg h1]
  | some b =>
   exfalso
   have : n ∈ Zau x.W s' := List.mem_append.2 (.inr (List.mem_filter.2 ⟨Zfz (by rw [hl]; simp), by
    cases hm : memb n x.W with
    | true => exact absurd (Zah.1 hm) h1
    | false => rfl⟩))
   exact h2 (h.G ▸ this)
end
end Go.PI

namespace Go.PI
open Go.RowKit
variable {c : Ctx} {s st : St}
theorem C.kill_comm (n m : Nat) (x : C) : (x.kill n).kill m = (x.kill m).kill n := by
 have hb : ∀ k, C.has k .bad = false := fun _ => rfl
 unfold C.kill
 cases h1 : x.has n <;> cases h2 : x.has m <;> simp only [h1, h2, hb, cond_true, cond_false]
theorem D.kill_comm (n m : Nat) (d : D) : (d.kill n).kill m = (d.kill m).kill n := by
 cases d <;> simp [D.kill, C.kill_comm n m]
theorem MB.kill_comm (n m : Nat) (b : MB) : (b.kill n).kill m = (b.kill m).kill n := by
 cases b <;> simp [MB.kill, C.kill_comm n m]
def ZdQ (l : List Nat) (d : D) : D := l.foldl (fun d n => d.kill n) d
def Zcw (l : List Nat) (b : MB) : MB := l.foldl (fun b n => b.kill n) b
def killO (l : List Nat) (n : Nat) (o : Option MB) : Option MB := if n ∈ l then none else o.map (Zcw l)
theorem ZdE (n : Nat) (l : List Nat) (d : D) : ZdQ (n :: l) d = ZdQ l (d.kill n) := rfl
theorem Zkf (n : Nat) : ∀ (l : List Nat) (d : D), ZdQ l (d.kill n) = (ZdQ l d).kill n
 | [], _ => rfl
 | m :: l, d => by rw [ZdE, ZdE, D.kill_comm n m, Zkf n l]
theorem ZkK : ∀ (l r : List Nat) (d : D), ZdQ l (ZdQ r d) = ZdQ r (ZdQ l d)
 | [], _, _ => rfl
 | n :: l, r, d => by rw [ZdE, ZdE, <- Zkf n r, ZkK l r]
theorem ZkU (n : Nat) : ∀ (l : List Nat) (b : MB), Zcw l (b.kill n) = (Zcw l b).kill n
 | [], _ => rfl
 | m :: l, b => by
  show Zcw l ((b.kill n).kill m) = (Zcw l (b.kill m)).kill n
  rw [MB.kill_comm n m, ZkU n l]
theorem Zki : ∀ (l r : List Nat) (b : MB), Zcw l (Zcw r b) = Zcw r (Zcw l b)
 | [], _, _ => rfl
 | n :: l, r, b => by
  show Zcw l ((Zcw r b).kill n) = Zcw r (Zcw l (b.kill n))
  rw [<- ZkU n r, Zki l r]
theorem Zf9 : ∀ (l : List Nat) {d : D}, (∀ n ∈ l, n ∉ d.nms) -> ZdQ l d = d
 | [], _, _ => rfl
 | n :: l, d, h => by rw [ZdE, D.kill_apart (h n List.mem_cons_self)]; exact Zf9 l fun k hk => h k (List.mem_cons_of_mem _ hk)
theorem Zge : ∀ (l : List Nat) {b : MB}, (∀ n ∈ l, n ∉ b.nms) -> Zcw l b = b
 | [], _, _ => rfl
 | n :: l, b, h => by
  show Zcw l (b.kill n) = b
  rw [MB.kill_apart (h n List.mem_cons_self)]; exact Zge l fun k hk => h k (List.mem_cons_of_mem _ hk)
theorem ZhK : ∀ (l : List Nat) (s : St) (r : Nat), (killAll l s).t.getD r (.c .bad) = ZdQ l (s.t.getD r (.c .bad))
 | [], _, _ => rfl
 | n :: l, s, r => by
  show (killAll l (s.kill n)).t.getD r (.c .bad) = _
  rw [ZhK l, ZjY]; rfl
theorem ZnJ : ∀ (l : List Nat) (s : St) (n : Nat), look n (killAll l s).m = killO l n (look n s.m)
 | [], s, n => by
  show look n s.m = killO [] n (look n s.m)
  unfold killO
  rw [if_neg (by simp)]
  cases look n s.m <;> rfl
 | k :: l, s, n => by
  show look n (killAll l (s.kill k)).m = _
  rw [ZnJ l, Zen]
  unfold killO
  by_cases h1 : n ∈ l
  ·rw [if_pos h1, if_pos (List.mem_cons_of_mem _ h1)]
  ·rw [if_neg h1]
   by_cases h2 : n = k
   ·rw [if_pos h2, if_pos (by rw [h2]; exact List.mem_cons_self)]; rfl
   ·rw [if_neg h2, if_neg (by simp [h1, h2]), Option.map_map]
    cases look n s.m <;> rfl
theorem ZmW : ∀ (l : List Nat) (s : St) (n : Nat), n ∈ (killAll l s).k ↔ n ∈ l \/ n ∈ s.k
 | [], s, n => by simp [killAll]
 | k :: l, s, n => by
  show n ∈ (killAll l (s.kill k)).k ↔ _
  rw [ZmW l]
  show n ∈ l \/ n ∈ k :: s.k ↔ _
  simp only [List.mem_cons]
  constructor
  ·rintro (h | h | h)
   ·exact .inl (.inr h)
   ·exact .inl (.inl h)
   ·exact .inr h
  ·rintro ((h | h) | h)
   ·exact .inr (.inl h)
   ·exact .inl h
   ·exact .inr (.inr h)
end Go.PI

namespace Go.PI
open Go.RowKit
variable {c : Ctx} {s st : St}
def effM (x : Rec) (q : Bool) (s' : St) (n : Nat) (o : Option MB) : Option MB := bif q then o else (match look n s'.m with
 | some b => some b
 | none => if n ∈ x.W then none else killO x.G n o)
theorem eff_m {x : Rec} {q : Bool} {s' : St} {v : D} (h : Eff x q s' v) (dst : Option Tmp) (s : St) (n : Nat) : look n (ZaS x q s' v dst s).m = effM x q s' n (look n s.m) := by
 unfold ZaS effM
 rw [(Zpa _ _ _).1]
 cases q with
 | true => rfl
 | false =>
  show look n (s.mix x.W s').m = _
  rw [Zg9, <- h.G, ZnJ]
  rfl
theorem eff_k {x : Rec} {q : Bool} {s' : St} {v : D} (h : Eff x q s' v) (dst : Option Tmp) (s : St) (n : Nat) : n ∈ (ZaS x q s' v dst s).k ↔ n ∈ x.G \/ n ∈ s.k := by
 unfold ZaS
 rw [(Zpa _ _ _).2, base_k h, ZmW]
theorem eff_t {x : Rec} {q : Bool} {s' : St} {v : D} (h : Eff x q s' v) (dst : Option Tmp) (s : St) (r : Nat) : (ZaS x q s' v dst s).t.getD r (.c .bad) = if dst = some r /\ r < s.t.length then v else ZdQ x.G (s.t.getD r (.c .bad)) := by
 unfold ZaS
 by_cases hr : dst = some r
 ·subst hr
  show ((ZdF q x.W s s').t.set r v).getD r (.c .bad) = _
  rw [ZhN h]
  by_cases hl : r < s.t.length
  ·rw [if_pos ⟨rfl, hl⟩]
   have hl' : r < (killAll x.G s).t.length := by rw [Zeb]; exact hl
   simp [List.getD, hl']
  ·rw [if_neg (fun e => hl e.2)]
   have hl' : (killAll x.G s).t.length <= r := by rw [Zeb]; exact Nat.not_lt.1 hl
   rw [List.set_eq_of_length_le hl', ZhK]
 ·rw [if_neg (fun e => hr e.1), Zpd _ _ _ hr, ZhN h, ZhK]
theorem Zit {x : Rec} {q : Bool} {s' : St} {v : D} (h : Eff x q s' v) {n : Nat} {b : MB} (hl : look n s'.m = some b) : n ∈ x.W \/ n ∈ x.G := by
 by_cases hm : n ∈ x.W
 ·exact .inl hm
 ·right
  rw [h.G]
  refine List.mem_append.2 (.inr (List.mem_filter.2 ⟨Zfz (by rw [hl]; simp), ?_⟩))
  cases hb : memb n x.W with
  | true => exact absurd (Zah.1 hb) hm
  | false => rfl
structure Apart (x y : Rec) : Prop where
 xg : ∀ n ∈ x.G, n ∉ y.F /\ n ∉ y.G
 yg : ∀ n ∈ y.G, n ∉ x.F /\ n ∉ x.G
 xx : ∀ n ∈ x.X, n ∉ y.M /\ n ∉ y.G
 yx : ∀ n ∈ y.X, n ∉ x.M /\ n ∉ x.G
theorem Apart.symm {x y : Rec} (h : Apart x y) : Apart y x := ⟨h.yg, h.xg, h.yx, h.xx⟩
theorem Ztl (l r : List Nat) (n : Nat) (o : Option MB) : killO l n (killO r n o) = killO r n (killO l n o) := by
 unfold killO
 by_cases h1 : n ∈ l <;> by_cases h2 : n ∈ r <;> simp only [h1, h2, if_true, if_false, Option.map_none]
 rw [Option.map_map, Option.map_map]
 congr 1
 funext b
 exact Zki l r b
theorem Zu8 {x y : Rec} {qx qy : Bool} {sx sy : St} {vx vy : D} (hx : Eff x qx sx vx) (hy : Eff y qy sy vy) (ha : Apart x y) (n : Nat) (o : Option MB) : effM y qy sy n (effM x qx sx n o) = effM x qx sx n (effM y qy sy n o) := by
 cases qx with
 | true => rfl
 | false =>
  cases qy with
  | true => rfl
  | false =>
   have keepx : ∀ b, look n sx.m = some b -> look n sy.m = none /\ n ∉ y.W /\ killO y.G n (some b) = some b := by
    intro b hb
    have hn := Zit hx hb
    have hX : n ∈ x.X := (hx.X rfl n).2 hn
    obtain ⟨k1, k2⟩ := ha.xx n hX
    refine ⟨?_, fun h => k1 (hy.wf n h), ?_⟩
    ·cases hl : look n sy.m with
     | none => rfl
     | some b' => rcases Zit hy hl with k | k; exact absurd (hy.wf n k) k1; exact absurd k k2
    ·unfold killO
     rw [if_neg k2]
     show some _ = _
     rw [Zge y.G fun k hk hkb => by
      rcases hx.m rfl n b hb k hkb with e | e
      ·exact (ha.yg k hk).1 e
      ·exact (ha.yg k hk).2 e]
   have keepy : ∀ b, look n sy.m = some b -> look n sx.m = none /\ n ∉ x.W /\ killO x.G n (some b) = some b := by
    intro b hb
    have hn := Zit hy hb
    have hX : n ∈ y.X := (hy.X rfl n).2 hn
    obtain ⟨k1, k2⟩ := ha.yx n hX
    refine ⟨?_, fun h => k1 (hx.wf n h), ?_⟩
    ·cases hl : look n sx.m with
     | none => rfl
     | some b' => rcases Zit hx hl with k | k; exact absurd (hx.wf n k) k1; exact absurd k k2
    ·unfold killO
     rw [if_neg k2]
     show some _ = _
     rw [Zge x.G fun k hk hkb => by
      rcases hy.m rfl n b hb k hkb with e | e
      ·exact (ha.xg k hk).1 e
      ·exact (ha.xg k hk).2 e]
   unfold effM
   simp only [cond_false]
   have kn : ∀ l, killO l n none = none := fun l => by unfold killO; split <;> rfl
   cases h1 : look n sx.m with
   | some b =>
    obtain ⟨k1, k2, k3⟩ := keepx b h1
    simp only [k1, if_neg k2, k3]
   | none =>
    cases h2 : look n sy.m with
    | some b =>
     obtain ⟨_, k2, k3⟩ := keepy b h2
     simp only [if_neg k2, k3]
    | none =>
     simp only
     by_cases e1 : n ∈ x.W <;> by_cases e2 : n ∈ y.W <;> simp only [e1, e2, if_true, if_false, kn]
     exact Ztl _ _ _ _
theorem eff_comm {x y : Rec} {qx qy : Bool} {sx sy : St} {vx vy : D} {dx dy : Option Tmp} (hx : Eff x qx sx vx) (hy : Eff y qy sy vy) (ha : Apart x y) (hd : ∀ d, dx = some d -> dy ≠ some d) (s : St) :
  SEq (ZaS y qy sy vy dy (ZaS x qx sx vx dx s)) (ZaS x qx sx vx dx (ZaS y qy sy vy dy s)) := by
 refine ⟨?_, fun n => ?_, fun n => ?_⟩
 ·have hlen : (ZaS y qy sy vy dy (ZaS x qx sx vx dx s)).t.length = (ZaS x qx sx vx dx (ZaS y qy sy vy dy s)).t.length := by rw [Zdv hy, Zdv hx, Zdv hx, Zdv hy]
  have key : ∀ r, (ZaS y qy sy vy dy (ZaS x qx sx vx dx s)).t.getD r (.c .bad) = (ZaS x qx sx vx dx (ZaS y qy sy vy dy s)).t.getD r (.c .bad) := by
   intro r
   rw [eff_t hy, eff_t hx, eff_t hx, eff_t hy, Zdv hx, Zdv hy]
   by_cases h1 : dx = some r /\ r < s.t.length
   ·have h2 : ¬ (dy = some r /\ r < s.t.length) := fun e => hd r h1.1 e.1
    rw [if_neg h2, if_pos h1, if_pos h1]
    exact Zf9 _ fun n hn hv => by
     rcases hx.vn n hv with e | e
     ·exact (ha.yg n hn).1 e
     ·exact (ha.yg n hn).2 e
   ·by_cases h2 : dy = some r /\ r < s.t.length
    ·rw [if_pos h2, if_neg h1, if_pos h2]
     exact (Zf9 _ fun n hn hv => by
      rcases hy.vn n hv with e | e
      ·exact (ha.xg n hn).1 e
      ·exact (ha.xg n hn).2 e).symm
    ·rw [if_neg h2, if_neg h1, if_neg h1, if_neg h2]
     exact ZkK _ _ _
  apply List.ext_getElem hlen
  intro r h1 h2
  have := key r
  simpa [List.getD, List.getElem?_eq_getElem h1, List.getElem?_eq_getElem h2] using this
 ·rw [eff_m hy, eff_m hx, eff_m hx, eff_m hy]
  exact Zu8 hx hy ha n _
 ·rw [eff_k hy, eff_k hx, eff_k hx, eff_k hy]
  constructor
  ·rintro (h | h | h)
   ·exact .inr (.inl h)
   ·exact .inl h
   ·exact .inr (.inr h)
  ·rintro (h | h | h)
   ·exact .inr (.inl h)
   ·exact .inl h
   ·exact .inr (.inr h)
end Go.PI

namespace Go.PI
open Go.RowKit
variable {c : Ctx} {s st : St}
theorem Zcb {r : Nat} : ∀ {l : List Operand}, r ∈ Zbd l ↔ Operand.tmp r ∈ l
 | [] => by simp [Zbd]
 | .tmp t :: l => by simp [Zbd, Zcb (l := l)]
 | .const v :: l => by simp [Zbd, Zcb (l := l)]
 | .func f :: l => by simp [Zbd, Zcb (l := l)]
 | .global n :: l => by simp [Zbd, Zcb (l := l)]
theorem Zts {ops : Array Oper} {o : Oper} {r : Nat} (h : r ∈ Zaq s o.op) : r ∈ o.looksAt ops := by
 have h1 : Operand.tmp r ∈ o.op.operands.toList := by
  unfold Zaq at h
  split at h
  ·rename_i k a b hop
   rw [hop]
   split at h <;> rw [Zcb] at h <;> simp [Op.operands] at h ⊢
   ·rcases h with h | h
    ·exact .inl h
    ·exact .inr (.inl h)
   ·rcases h with h | h
    ·exact .inl h
    ·exact .inr (.inr h)
   ·exact h
  ·exact Zcb.1 h
 unfold Oper.looksAt
 refine List.mem_append.2 (.inl (List.mem_filterMap.2 ⟨_, h1, rfl⟩))
theorem mvD_none {o : Oper} {F : List Nat} {s2 : St} (h : mvD c o.op s = none) (hs : Same (Zaq s o.op) F s s2) : mvD c o.op s2 = none := by
 by_cases hp : ∃ k a b, o.op = .pick k a b
 ·obtain ⟨k, a, b, e⟩ := hp
  rw [e]; rfl
 ·rw [ZhH (s := s)]
  ·exact h
  ·intro x hx
   cases x with
   | tmp t =>
    refine (hs.t t ?_).symm
    unfold Zaq
    split
    ·rename_i k a b e; exact absurd ⟨k, a, b, e⟩ hp
    ·exact Zcb.2 hx
   | _ => rfl
theorem Zjg {ops : Array Oper} {o : Oper} {j k : Nat} {want : Bool} (hg : o.guard = some (j, want)) (hk : Zc9 ops j = some k) : k ∈ o.looksAt ops := by
 unfold Oper.looksAt
 unfold Zc9 at hk
 simp [hg, hk]
structure Carry (ops : Array Oper) (o : Oper) (x : Rec) (s s2 : St) : Prop where
 len : s.t.length = s2.t.length
 t : ∀ r ∈ o.looksAt ops, (s.t.getD r (.c .bad)).good = true -> (∀ n ∈ (s.t.getD r (.c .bad)).nms, n ∈ x.F) -> s2.t.getD r (.c .bad) = s.t.getD r (.c .bad)
 m : ∀ n ∈ x.M, ∀ b, look n s.m = some b -> (x.Z = true -> b.good = true) -> (∀ k ∈ b.nms, k ∈ x.F) -> look n s2.m = some b
theorem Zjz {ops : Array Oper} {i : Nat} {x : Rec} (h : ZbU c ops i s x st) : ∃ o q s' v, ops[i]? = some o /\ x.i = i /\ Eff x q s' v /\ st = ZaS x q s' v o.dst s /\ ∀ s2, Carry ops o x s s2 -> ZbU c ops i s2 x (ZaS x q s' v o.dst s2) := by
 obtain ⟨o, ho, h⟩ := Zj6 h
 rcases h with ⟨hg, h⟩ | ⟨hg, rfl, rfl⟩
 ·have hgg : ∀ s2, Carry ops o x s s2 -> Zid ops o s2 := by
   intro s2 hc
   rcases hg with hg | ⟨j, want, k, hg, hk, e⟩
   ·exact .inl hg
   ·refine .inr ⟨j, want, k, hg, hk, ?_⟩
    rw [hc.t k (Zjg hg hk) (by rw [Zoi e]; cases want <;> rfl) (by rw [Zoi e]; cases want <;> simp [D.nms, C.nm])]
    exact e
  cases hm : mvD c o.op s with
  | some yd =>
   obtain ⟨y, d⟩ := yd
   have h : (ZdI ops i s o y d).run = some (x, st) := by unfold Zb1 at h; rw [hm] at h; exact h
   obtain ⟨h1, rfl, rfl⟩ := Zor h
   have h1' := h1
   simp only [Bool.and_eq_true] at h1'
   refine ⟨o, true, ⟨[], [], []⟩, _, ho, rfl, move_eff i d _ h1'.2.2 (Zbu ops i), rfl, fun s2 hc => ?_⟩
   have e : opd s2 y = opd s y := by
    cases y with
    | tmp t =>
     refine hc.t t ?_ h1'.1 (fun n hn => hn)
     unfold Oper.looksAt
     exact List.mem_append.2 (.inl (List.mem_filterMap.2 ⟨.tmp t, mvD_mem hm, rfl⟩))
    | _ => rfl
   refine ZfR ho (hgg s2 hc) ?_
   unfold Zb1
   rw [ZhH (c := c) (s := s) (s2 := s2) (o := o.op) (fun z hz => by rw [mvD_all hm z hz]; exact e), hm]
   have := ZsY (ops := ops) (i := i) (o := o) (s := s2) (y := y) (d := d) (by rw [e]; exact h1)
   rw [e] at this
   exact this
  | none =>
  have h : (ZcZ c ops i s o).run = some (x, st) := by unfold Zb1 at h; rw [hm] at h; exact h
  obtain ⟨s', hd, rfl⟩ := ZoQ h
  refine ⟨o, Zby o.op, s', _, ho, hd.i, did_eff hd, rfl, fun s2 hc => ?_⟩
  have hG := ZmT hd.good
  have hsame : Same (Zaq s o.op) x.F s s2 := ⟨hc.len, fun r hr => (hc.t r (Zts hr) (hG.slot r hr) (hG.nms r hr)).symm, fun n hn => by
   obtain ⟨b, hb, k2⟩ := hG.mem n hn
   rw [hb, hc.m n (by rw [hd.M]; exact hn) b hb (fun hz => by
    rw [hd.Z] at hz
    have := List.all_eq_true.1 hz n hn
    rw [hb] at this
    exact this) k2]⟩
  refine ZfR ho (hgg s2 hc) ?_
  unfold Zb1
  rw [mvD_none hm hsame]
  exact ZsB (hd.same hsame)
 ·refine ⟨o, true, ⟨[], [], []⟩, .tup [], ho, rfl, skip_eff i, rfl, fun s2 hc => ?_⟩
  refine Zl4 ho ?_
  obtain ⟨j, want, k, hg, hk, e, e2⟩ := hg
  have hgd : (s.t.getD k (.c .bad)).good = true /\ ∀ n ∈ (s.t.getD k (.c .bad)).nms, n ∈ ([] : List Nat) := by
   rcases ZsD e2 with h | h <;> rw [h]
   ·cases want <;> exact ⟨rfl, fun n hn => (by simp [D.nms, C.nm] at hn)⟩
   ·exact ⟨rfl, fun n hn => (by simp [D.nms] at hn)⟩
  have e3 := hc.t k (Zjg hg hk) hgd.1 hgd.2
  exact ⟨j, want, k, hg, hk, by rw [e3]; exact e, by rw [e3]; exact e2⟩
theorem disj_ok {l r : List Nat} (h : disj l r = true) : ∀ n ∈ l, n ∉ r := by
 intro n hn hm
 unfold disj at h
 rw [List.all_eq_true] at h
 have := h n hn
 rw [Zah.2 hm] at this
 cases this
theorem indep_ok {ops : Array Oper} {x y : Rec} {p q : Oper} (hp : ops[x.i]? = some p) (hq : ops[y.i]? = some q) (h : indep ops x y = true) : p.apart ops q = true /\ Apart x y /\ (y.Z = false -> x.G = []) := by
 unfold indep at h
 simp only [hp, hq, Bool.and_eq_true] at h
 obtain ⟨⟨⟨⟨⟨⟨h1, _⟩, hz⟩, h3⟩, h4⟩, h5⟩, h6⟩ := h
 have two : ∀ {l a b : List Nat}, disj l (a ++ b) = true -> ∀ n ∈ l, n ∉ a /\ n ∉ b := fun h n hn => by
  have := disj_ok h n hn
  simp only [List.mem_append, not_or] at this
  exact this
 exact ⟨h1, ⟨two h5, two h6, two h3, two h4⟩, fun e => by rw [e, Bool.false_or, List.isEmpty_iff] at hz; exact hz⟩
theorem swap {ops : Array Oper} {i j : Nat} {x y : Rec} {s1 s2 : St} (hj : ZbU c ops j s x s1) (hi : ZbU c ops i s1 y s2) (hind : indep ops x y = true) : ∃ t1 t2, ZbU c ops i s y t1 /\ ZbU c ops j t1 x t2 /\ SEq s2 t2 := by
 obtain ⟨oj, qj, sj, vj, hoj, hxi, ej, rfl, hcj⟩ := Zjz hj
 obtain ⟨oi, qi, si, vi, hoi, hyi, ei, rfl, hci⟩ := Zjz hi
 obtain ⟨hap, ha, hz⟩ := indep_ok (by rw [hxi]; exact hoj) (by rw [hyi]; exact hoi) hind
 obtain ⟨a1, a2, a3⟩ := Oper.apart_spec hap
 have hQ : ∀ n ∈ y.M, qj = true \/ (n ∉ x.W /\ n ∉ x.G) := by
  intro n hn
  cases hq : qj with
  | true => exact .inl rfl
  | false =>
   right
   subst hq
   exact ⟨fun hm => (ha.xx n ((ej.X rfl n).2 (.inl hm))).1 hn, fun hm => (ha.xx n ((ej.X rfl n).2 (.inr hm))).1 hn⟩
 have hQ' : ∀ n ∈ x.M, qi = true \/ (n ∉ y.W /\ n ∉ y.G) := by
  intro n hn
  cases hq : qi with
  | true => exact .inl rfl
  | false =>
   right
   subst hq
   exact ⟨fun hm => (ha.yx n ((ei.X rfl n).2 (.inl hm))).1 hn, fun hm => (ha.yx n ((ei.X rfl n).2 (.inr hm))).1 hn⟩
 refine ⟨_, _, hci s ⟨Zdv ej s, fun r hr hg _ => ?_, fun n hn b hb hg _ => ?_⟩, hcj _ ⟨(Zdv ei s).symm, fun r hr _ hn => ?_, fun n hn b hb _ hk => ?_⟩, eff_comm ej ei ha (fun d hd => a2 d hd) s⟩
 ·exact (eff_good ej s (fun e => a1 r e hr) hg).symm
 ·rw [Zqu ej s (hQ n hn)] at hb
  cases hy : y.Z with
  | true => exact ZeI _ _ hb (hg hy)
  | false => rw [hz hy] at hb; exact hb
 ·exact Zuv ei s (fun e => a3 r e hr) (fun n hm hv => (ha.yg n hm).1 (hn n hv))
 ·rw [Zqu ei s (hQ' n hn)]
  exact Zes _ _ hb (fun hm => (ha.yg n hm).1 (ej.mf n hn)) (fun k hm hv => (ha.yg k hm).1 (hk k hv))
end Go.PI

namespace Go.PI
open Go.RowKit
variable {c : Ctx} {s st : St}
def Zcn (c : Ctx) (ops : Array Oper) (R : List Nat) (s : St) (l : List Rec) (st : St) : Prop := (Zgu c ops R s).run = some (l, st)
theorem Ze1 {ops : Array Oper} {i : Nat} {R : List Nat} {l : List Rec} (h : Zcn c ops (i :: R) s l st) : ∃ x s1 l', ZbU c ops i s x s1 /\ Zcn c ops R s1 l' st /\ l = x :: l' := by
 unfold Zcn at h
 simp only [Zgu] at h
 obtain ⟨⟨x, s1⟩, h1, h2⟩ := Br.bind_some h
 obtain ⟨⟨l', st'⟩, h3, h4⟩ := Br.bind_some h2
 obtain ⟨rfl, rfl⟩ := Prod.mk.inj (Option.some.inj h4)
 exact ⟨x, s1, l', h1, h3, rfl⟩
theorem Zqv {ops : Array Oper} {i : Nat} {R : List Nat} {x : Rec} {s1 : St} {l : List Rec} (h1 : ZbU c ops i s x s1) (h2 : Zcn c ops R s1 l st) : Zcn c ops (i :: R) s (x :: l) st := by
 unfold Zcn ZbU at *
 simp only [Zgu, Br.run_bind, h1, h2, Option.bind_some]
 rfl
theorem ZiV {ops : Array Oper} : ∀ {R : List Nat} {s s2 st : St} {l : List Rec}, Zcn c ops R s l st -> SEq s s2 -> ∃ st2, Zcn c ops R s2 l st2 /\ SEq st st2
 | [], s, s2, st, l, h, hs => by
  obtain ⟨rfl, rfl⟩ := Prod.mk.inj (Option.some.inj h)
  exact ⟨s2, rfl, hs⟩
 | i :: R, s, s2, st, l, h, hs => by
  obtain ⟨x, s1, l', h1, h2, rfl⟩ := Ze1 h
  obtain ⟨t1, k1, k2⟩ := Ztg h1 hs
  obtain ⟨st2, k3, k4⟩ := ZiV h2 k2
  exact ⟨st2, Zqv k1 k3, k4⟩
theorem bubble {ops : Array Oper} {i : Nat} {post : List Nat} : ∀ {pre : List Nat} {s st : St} {l : List Rec}, Zcn c ops (pre ++ i :: post) s l st -> ∃ lp y lq, l = lp ++ y :: lq /\ lp.length = pre.length /\
  ((∀ x ∈ lp, indep ops x y = true) -> ∃ t1 st2, ZbU c ops i s y t1 /\ Zcn c ops (pre ++ post) t1 (lp ++ lq) st2 /\ SEq st st2)
 | [], s, st, l, h => by
  obtain ⟨y, s1, lq, h1, h2, rfl⟩ := Ze1 h
  exact ⟨[], y, lq, rfl, rfl, fun _ => ⟨s1, st, h1, h2, SEq.refl _⟩⟩
 | j :: pre, s, st, l, h => by
  obtain ⟨x, s1, l', h1, h2, rfl⟩ := Ze1 h
  obtain ⟨lp, y, lq, rfl, hl, ih⟩ := bubble (pre := pre) h2
  refine ⟨x :: lp, y, lq, rfl, by simp [hl], fun hind => ?_⟩
  obtain ⟨t1, st2, k1, k2, k3⟩ := ih fun z hz => hind z (List.mem_cons_of_mem _ hz)
  obtain ⟨u1, u2, m1, m2, m3⟩ := swap h1 k1 (hind x List.mem_cons_self)
  obtain ⟨st3, k4, k5⟩ := ZiV k2 m3
  exact ⟨u1, st3, m1, Zqv m2 k4, k3.trans k5⟩
end Go.PI

namespace Go.PI
open Go.RowKit
variable {P : Program} {c : Ctx} {g : Cfg} {s st : St} {a : Act} {w : World}
theorem Zhx {tab : List (List Nat)} {k : Nat} : ∀ {l : List Edge}, k ∈ Zf5 tab l -> ∃ e ∈ l, Region.binds .any e = true /\ (k = e.on \/ k ∈ tab.getD e.on [])
 | [], h => by simp [Zf5] at h
 | e :: r, h => by
  simp only [Zf5] at h
  cases hb : Region.binds .any e with
  | true =>
   rw [hb] at h
   simp only [cond_true] at h
   rcases ZdU.1 h with h | h
   ·rcases List.mem_cons.1 h with h | h
    ·exact ⟨e, List.mem_cons_self, hb, .inl h⟩
    ·exact ⟨e, List.mem_cons_self, hb, .inr h⟩
   ·obtain ⟨e', h1, h2⟩ := Zhx h
    exact ⟨e', List.mem_cons_of_mem _ h1, h2⟩
  | false =>
   rw [hb] at h
   obtain ⟨e', h1, h2⟩ := Zhx (l := r) h
   exact ⟨e', List.mem_cons_of_mem _ h1, h2⟩
def TabOk (ops : List Oper) (L : Nat -> Prop) (t : List (List Nat)) : Prop :=
 ∀ i o, i < t.length -> ops[i]? = some o -> (∀ e ∈ o.after.toList, Region.binds .any e = true -> L e.on) -> ∀ k ∈ t.getD i [], L k
theorem Zma {all : List Oper} {L : Nat -> Prop} (hL : ∀ i o, all[i]? = some o -> L i -> ∀ e ∈ o.after.toList, Region.binds .any e = true -> L e.on) (hin : ∀ i, L i -> i < all.length) : ∀ {r : List Oper} {t : List (List Nat)}, (∀ j, r[j]? = all[t.length + j]?) -> TabOk all L t -> TabOk all L (Zgt t r)
 | [], t, _, ht => ht
 | o :: r, t, hr, ht => by
  refine Zma hL hin (r := r) (t := t ++ [Zf5 t o.after.toList]) (fun j => ?_) ?_
  ·have := hr (j + 1)
   simp only [List.getElem?_cons_succ] at this
   rw [this, List.length_append]
   show all[t.length + (j + 1)]? = all[t.length + 1 + j]?
   rw [show t.length + (j + 1) = t.length + 1 + j by omega]
  ·intro i o' hi ho' he k hk
   rw [List.length_append] at hi
   have hi : i < t.length + 1 := hi
   by_cases hlt : i < t.length
   ·refine ht i o' hlt ho' he k ?_
    simpa [List.getD, List.getElem?_append_left hlt] using hk
   ·have e : i = t.length := by omega
    subst e
    have h0 := hr 0
    simp only [List.getElem?_cons_zero, Nat.add_zero] at h0
    rw [<- h0] at ho'
    obtain rfl := Option.some.inj ho'
    have hk : k ∈ Zf5 t o.after.toList := by simpa [List.getD] using hk
    obtain ⟨e, h1, h2, h3⟩ := Zhx hk
    have hl := he e h1 h2
    rcases h3 with rfl | h3
    ·exact hl
    ·have hlt := hin _ hl
     have hsome := List.getElem?_eq_getElem hlt
     by_cases htl : e.on < t.length
     ·exact ht e.on _ htl hsome (hL _ _ hsome hl) k h3
     ·simp [List.getD, List.getElem?_eq_none (Nat.not_lt.1 htl)] at h3
theorem Zms {ops : Array Oper} {tab : List (List Nat)} {y : Rec} {lq : List Rec} : ∀ {lp : List Rec}, ZdR ops tab (lp ++ y :: lq) = true -> (∀ x ∈ lp, memb x.i (tab.getD y.i []) = true \/ indep ops x y = true) /\ ZdR ops tab (lp ++ lq) = true
 | [], h => by
  simp only [List.nil_append, ZdR, Bool.and_eq_true] at h
  exact ⟨fun x hx => by simp at hx, h.2⟩
 | z :: lp, h => by
  simp only [List.cons_append, ZdR, Bool.and_eq_true, List.all_eq_true] at h
  obtain ⟨h1, h2⟩ := Zms (lp := lp) h.2
  refine ⟨fun x hx => ?_, ?_⟩
  ·rcases List.mem_cons.1 hx with rfl | hx
   ·have := h.1 y (by simp)
    simpa [Bool.or_eq_true] using this
   ·exact h1 x hx
  ·simp only [List.cons_append, ZdR, Bool.and_eq_true, List.all_eq_true]
   exact ⟨fun v hv => h.1 v (by
    rcases List.mem_append.1 hv with hv | hv
    ·exact List.mem_append.2 (.inl hv)
    ·exact List.mem_append.2 (.inr (List.mem_cons_of_mem _ hv))), h2⟩
end Go.PI

namespace Go.PI
open Go.RowKit
def Za8 (n : Nat) (listed : Array Bool) : List Nat := (List.range n).filter fun i => !listed.getD i true
theorem ZdH {n : Nat} {listed : Array Bool} (hs : listed.size = n) {i : Nat} : i ∈ Za8 n listed ↔ i < n /\ listed.getD i false = false := by
 unfold Za8
 rw [List.mem_filter, List.mem_range]
 constructor
 ·rintro ⟨h1, h2⟩
  refine ⟨h1, ?_⟩
  have : i < listed.size := by omega
  simpa [Array.getD, this] using h2
 ·rintro ⟨h1, h2⟩
  refine ⟨h1, ?_⟩
  have : i < listed.size := by omega
  simpa [Array.getD, this] using h2
theorem Zqs : ∀ {l : List Oper} {k : Nat}, ZgJ k l = true -> ∀ j o, l[j]? = some o -> ∀ e ∈ o.after.toList, Region.binds .any e = true -> e.on < k + j
 | [], k, _, j, o, h, _, _, _ => by simp at h
 | o' :: l, k, hb, j, o, h, e, he, hbe => by
  simp only [ZgJ, Bool.and_eq_true, List.all_eq_true] at hb
  cases j with
  | zero =>
   simp only [List.getElem?_cons_zero, Option.some.injEq] at h
   subst h
   have := hb.1 e he
   rw [hbe] at this
   simp only [Bool.not_true, Bool.false_or] at this
   have := Nat.le_of_ble_eq_true this
   omega
  | succ j =>
   simp only [List.getElem?_cons_succ] at h
   have := Zqs hb.2 j o h e he hbe
   omega
theorem Zn3 {listed : Array Bool} {i k : Nat} (hi : i < listed.size) : (listed.setIfInBounds i true).getD k false = (decide (k = i) || listed.getD k false) := by
 rw [Array.getD_eq_getD_getElem?, Array.getD_eq_getD_getElem?, Array.getElem?_setIfInBounds]
 by_cases h : i = k
 ·subst h; simp [hi]
 ·rw [if_neg h]; simp [Ne.symm h]
theorem left_set {n : Nat} {listed : Array Bool} (hs : listed.size = n) {i : Nat} (hi : i ∈ Za8 n listed) : ∃ pre post, Za8 n listed = pre ++ i :: post /\ Za8 n (listed.setIfInBounds i true) = pre ++ post := by
 have hin := (ZdH hs).1 hi
 obtain ⟨pre, post, e⟩ := List.append_of_mem hi
 refine ⟨pre, post, e, ?_⟩
 have hnd : (Za8 n listed).Nodup := List.Pairwise.filter _ List.nodup_range
 have e2 : Za8 n (listed.setIfInBounds i true) = (Za8 n listed).filter fun k => decide (k ≠ i) := by
  unfold Za8
  rw [List.filter_filter]
  apply List.filter_congr
  intro k hk
  rw [List.mem_range] at hk
  have hk' : k < listed.size := by omega
  have h1 := Zn3 (k := k) (listed := listed) (i := i) (by omega)
  have h2 : (listed.setIfInBounds i true).getD k true = (listed.setIfInBounds i true).getD k false := by simp [Array.getD, hk']
  have h3 : listed.getD k true = listed.getD k false := by simp [Array.getD, hk']
  rw [h2, h1, h3]
  by_cases h : k = i <;> simp [h]
 rw [e2, e, List.filter_append, List.filter_cons_of_neg (by simp)]
 rw [e] at hnd
 have hnd' := List.nodup_append.1 hnd
 have h1 : ∀ k ∈ pre, k ≠ i := fun k hk => hnd'.2.2 k hk i (by simp)
 have h2 : ∀ k ∈ post, k ≠ i := fun k hk e => (List.nodup_cons.1 hnd'.2.1).1 (e ▸ hk)
 rw [List.filter_eq_self.2 (by simpa using h1), List.filter_eq_self.2 (by simpa using h2)]
end Go.PI

namespace Go.PI
open Go.RowKit
variable {P : Program} {c : Ctx} {g : Cfg} {s st : St} {a : Act} {w : World}
theorem Zrr {ops : Array Oper} : ∀ {R : List Nat} {s st : St} {l : List Rec}, Zcn c ops R s l st -> l.map (·.i) = R
 | [], s, st, l, h => by
  obtain ⟨rfl, rfl⟩ := Prod.mk.inj (Option.some.inj h)
  rfl
 | i :: R, s, st, l, h => by
  obtain ⟨x, s1, l', h1, h2, rfl⟩ := Ze1 h
  obtain ⟨_, _, _, _, _, hx, _⟩ := Zjz h1
  rw [List.map_cons, hx, Zrr h2]
structure Listed (ops : Array Oper) (listed : Array Bool) : Prop where
 size : listed.size = ops.size
 closed : ∀ i o, ops[i]? = some o -> listed.getD i false = true -> ∀ e ∈ o.after.toList, Region.binds .any e = true -> listed.getD e.on false = true
theorem Zf1 {ops : Array Oper} {listed : Array Bool} {i : Nat} (hL : Listed ops listed) : i ∈ Region.ready .any ops listed ↔ i ∈ Za8 ops.size listed /\ ∃ o, ops[i]? = some o /\ ∀ e ∈ o.after.toList, Region.binds .any e = true -> listed.getD e.on false = true := by
 unfold Region.ready Za8
 rw [List.mem_filter, List.mem_filter, Bool.and_eq_true, and_assoc]
 constructor
 ·rintro ⟨h1, h2, h3⟩
  refine ⟨h1, h2, ?_⟩
  cases ho : ops[i]? with
  | none => rw [ho] at h3; cases h3
  | some o =>
   refine ⟨o, rfl, fun e he hb => ?_⟩
   rw [ho] at h3
   simp only [Option.map_some, Option.getD_some] at h3
   rw [<- Array.all_toList, List.all_eq_true] at h3
   have := h3 e he
   rw [hb] at this
   simpa using this
 ·rintro ⟨h1, h2, o, ho, h3⟩
  refine ⟨h1, h2, ?_⟩
  rw [ho]
  simp only [Option.map_some, Option.getD_some]
  rw [<- Array.all_toList, List.all_eq_true]
  intro e he
  cases hb : Region.binds .any e with
  | false => rfl
  | true => rw [h3 e he hb]; rfl
theorem ZtC {ops : Array Oper} {listed : Array Bool} (hL : Listed ops listed) (ht : ZgJ 0 ops.toList = true) : ∀ i, i ∈ Za8 ops.size listed -> ∃ j, j ∈ Region.ready .any ops listed := by
 intro i
 induction i using Nat.strongRecOn with
 | _ i ih =>
  intro hi
  have hlt := ((ZdH hL.size).1 hi).1
  have ho : ops[i]? = some ops[i] := Array.getElem?_eq_getElem hlt
  by_cases hall : ∀ e ∈ ops[i].after.toList, Region.binds .any e = true -> listed.getD e.on false = true
  ·exact ⟨i, (Zf1 hL).2 ⟨hi, _, ho, hall⟩⟩
  ·simp only [Classical.not_forall] at hall
   obtain ⟨e, he, hb, hn⟩ := hall
   have hlt2 := Zqs ht i ops[i] (by rw [Array.getElem?_toList]; exact ho) e he hb
   refine ih e.on (by omega) ((ZdH hL.size).2 ⟨by omega, by simpa using hn⟩)
theorem ZtJ {ops : Array Oper} {listed : Array Bool} {i : Nat} (hL : Listed ops listed) (hi : i ∈ Region.ready .any ops listed) : Listed ops (listed.setIfInBounds i true) := by
 obtain ⟨h1, o, ho, h2⟩ := (Zf1 hL).1 hi
 have hlt := ((ZdH hL.size).1 h1).1
 have hsz := hL.size
 refine ⟨by simp [hsz], fun k o' hk hl e he hb => ?_⟩
 rw [Zn3 (by omega)] at hl ⊢
 rw [Bool.or_eq_true] at hl ⊢
 rcases hl with hl | hl
 ·obtain rfl := of_decide_eq_true hl
  rw [ho] at hk
  obtain rfl := Option.some.inj hk
  exact .inr (h2 e he hb)
 ·exact .inr (hL.closed k o' hk hl e he hb)
theorem any_ok [DR] (he : EnvFull P c) {ops : Array Oper} (ht : ZgJ 0 ops.toList = true) {stF : St} : ∀ (fuel : Nat) (listed : Array Bool) (a : Act) (w : World) (s : St) (l : List Rec) (st : St), Listed ops listed -> (Za8 ops.size listed).length <= fuel -> Ok g s a w -> Zcn c ops (Za8 ops.size listed) s l st -> ZdR ops (Zgt [] ops.toList) l = true -> SEq stF st ->
  wpAny P .any ops (fun y a' w' => y = .normal /\ Ok g stF a' w') fuel listed a w := by
 have done : ∀ (listed : Array Bool) (a : Act) (w : World) (s : St) (l : List Rec) (st : St), Za8 ops.size listed = [] -> Ok g s a w -> Zcn c ops (Za8 ops.size listed) s l st -> SEq stF st -> Ok g stF a w := by
  intro listed a w s l st h0 hok hst hq
  rw [h0] at hst
  obtain ⟨_, e⟩ := Prod.mk.inj (Option.some.inj hst)
  subst e
  exact hq.symm.ok hok
 intro fuel
 induction fuel with
 | zero =>
  intro listed a w s l st hL hlen hok hst hp hq
  have h0 : Za8 ops.size listed = [] := List.length_eq_zero_iff.1 (Nat.le_zero.1 hlen)
  refine ⟨?_, rfl, done listed a w s l st h0 hok hst hq⟩
  apply List.eq_nil_iff_forall_not_mem.2
  intro i hi
  have := ((Zf1 hL).1 hi).1
  rw [h0] at this
  cases this
 | succ fuel ih =>
  intro listed a w s l st hL hlen hok hst hp hq
  refine ⟨fun hr => ?_, fun i hi => ?_⟩
  ·have h0 : Za8 ops.size listed = [] := by
    apply List.eq_nil_iff_forall_not_mem.2
    intro i hi
    obtain ⟨j, hj⟩ := ZtC hL ht i hi
    rw [hr] at hj
    cases hj
   exact ⟨rfl, done listed a w s l st h0 hok hst hq⟩
  ·obtain ⟨h1, o, ho, h2⟩ := (Zf1 hL).1 hi
   obtain ⟨pre, post, e1, e2⟩ := left_set hL.size h1
   have hii := Zrr hst
   rw [e1] at hst hii
   obtain ⟨lp, y, lq, rfl, hl, hb⟩ := bubble hst
   obtain ⟨p1, p2⟩ := Zms hp
   rw [List.map_append, List.map_cons] at hii
   obtain ⟨q1, q2⟩ := List.append_inj hii (by simpa using hl)
   have hyi : y.i = i := (List.cons.inj q2).1
   have hind : ∀ x ∈ lp, indep ops x y = true := by
    intro x hx
    rcases p1 x hx with hm | hm
    ·exfalso
     rw [hyi] at hm
     have hm := Zah.1 hm
     have hxl : x.i ∈ Za8 ops.size listed := by
      rw [e1]
      exact List.mem_append.2 (.inl (q1 ▸ List.mem_map.2 ⟨x, hx, rfl⟩))
     have hun := ((ZdH hL.size).1 hxl).2
     have tab := Zma (all := ops.toList) (L := fun k => listed.getD k false = true) (fun i o hi hl e he hb => hL.closed i o (by rw [<- Array.getElem?_toList]; exact hi) hl e he hb) (fun k hk => by
      have hsz := hL.size
      by_cases hlt : k < listed.size
      ·simpa [<- hsz] using hlt
      ·simp [Array.getD, hlt] at hk) (r := ops.toList) (t := []) (fun j => by simp) (fun i o hi => by simp at hi)
     by_cases hlt : i < (Zgt [] ops.toList).length
     ·have := tab i o hlt (by rw [Array.getElem?_toList]; exact ho) h2 x.i hm
      simp only at this
      rw [hun] at this
      cases this
     ·rw [List.getD, List.getElem?_eq_none (Nat.not_lt.1 hlt)] at hm
      cases hm
    ·exact hm
   obtain ⟨t1, st2, k1, k2, k3⟩ := hb hind
   refine step_ok he hok k1 fun a' w' hok' => ?_
   refine ih _ a' w' t1 (lp ++ lq) st2 (ZtJ hL hi) ?_ hok' ?_ p2 (hq.trans k3)
   ·rw [e2]; rw [e1] at hlen; simp only [List.length_append, List.length_cons] at hlen ⊢; omega
   ·rw [e2]; exact k2
theorem BR.drawn {μ : Nm} {I : Bool -> Nat -> Prop} {sh : Sh} {mb : MB} {b q : Nat} (k : Nat) (h : BR μ I w sh mb b q) : BR μ I { w with drawn := k } sh mb b q := by
 have hs : ∀ t, Za3 (I t) w { w with drawn := k } := fun _ _ _ => rfl
 obtain ⟨cur, e, h1, h2, h3⟩ := h
 refine ⟨cur, e, h1, h2, ?_⟩
 cases mb with
 | tv t τ x => exact K.mono (fun _ h => h) (hs t) h3
 | ar t e' τ xs =>
  obtain ⟨k1, cap, k2, k3, k4, k5⟩ := h3
  exact ⟨k1, cap, k2, k3, k4, k5.imp fun _ _ k => k.mono (fun _ h => h) (hs t)⟩
 | dv l => exact ⟨h3.1.imp fun _ _ _ k => k.same (fun _ _ h => h) hs fun _ _ => ⟨rfl, rfl⟩, h3.2⟩
theorem Ok.drawn [DR] (h : Ok g s a w) (k : Nat) (hk : w.drawn <= k) : Ok g s a { w with drawn := k } := by
 have hs : ∀ (I : Bool -> Nat -> Prop) t, Za3 (I t) w { w with drawn := k } := fun _ _ _ _ => rfl
 obtain ⟨μ, I, h⟩ := h
 refine ⟨μ, I, { mem := fun n mb hn => ?_, inj := h.inj, sep := h.sep, isub := h.isub, ilt := h.ilt, i0 := h.i0, inew := h.inew, live := h.live, os := h.os, tape := ⟨h.tape.1, fun z => Nat.le_trans (h.tape.2 z) hk⟩, output := h.output, size := h.size, keep := h.keep, tm := fun i => ?_, len := h.len, dfr := h.dfr, kept := h.kept }⟩
 ·rcases h.mem n mb hn with ⟨b, q, h1, h2⟩ | h1
  ·exact .inl ⟨b, q, h1, h2.drawn k⟩
  ·exact .inr h1
 ·exact (h.tm i).imp fun _ _ kk => kk.same (fun _ _ h => h) (hs I) fun _ _ => ⟨rfl, rfl⟩
theorem draw_ok [DR] (he : EnvFull P c) (hm : P.follows .mixedOrders = true) {ops : Array Oper} {id : Nat} (hok : Ok g s a w) (hr : (Zlk c ops s).run = some st) : (Code.region id ops true).wp P (fun y a' w' => y = .normal /\ Ok g st a' w') a w := by
 unfold Zlk at hr
 cases ht : ZgJ 0 ops.toList with
 | false => rw [ht] at hr; cases hr
 | true =>
  rw [ht] at hr
  obtain ⟨⟨l, st'⟩, h1, h2⟩ := Br.bind_some hr
  simp only at h2
  cases hp : ZdR ops (Zgt [] ops.toList) l with
  | false => rw [hp] at h2; cases h2
  | true =>
   rw [hp] at h2
   obtain rfl := Option.some.inj h2
   have e0 : Za8 ops.size (Array.replicate ops.size false) = List.range ops.size := by
    unfold Za8
    rw [List.filter_eq_self]
    intro k hk
    rw [List.mem_range] at hk
    simp [Array.getD, hk]
   refine wp_region_any hm (any_ok he ht ops.size _ a _ s l st' ⟨by simp, fun i o ho h => ?_⟩ ?_ (hok.drawn _ (Nat.le_succ _)) ?_ hp (SEq.refl _))
   ·exfalso
    revert h
    by_cases hk : i < ops.size <;> simp [Array.getD, hk]
   ·rw [e0]; simp
   ·rw [e0]; exact h1
end Go.PI
