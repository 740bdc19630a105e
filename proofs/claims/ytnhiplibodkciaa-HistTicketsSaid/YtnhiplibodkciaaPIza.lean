/- One operation of a region that draws its order. -/
import Derived.Test.YtnhiplibodkciaaPIz
namespace Go.PI
open Go.RowKit

variable {P : Program} {c : Ctx} {g : Cfg} {s st : St} {a : Act} {w : World} {μ : Nm} {I : Bool → Nat → Prop}

/-- Two states that say the same. -/
structure SEq (s s' : St) : Prop where
  t : s.t = s'.t
  m : ∀ n, look n s.m = look n s'.m
  k : ∀ n, n ∈ s.k ↔ n ∈ s'.k

theorem SEq.refl (s : St) : SEq s s := ⟨rfl, fun _ => rfl, fun _ => Iff.rfl⟩
theorem SEq.symm {s s' : St} (h : SEq s s') : SEq s' s := ⟨h.t.symm, fun n => (h.m n).symm, fun n => (h.k n).symm⟩
theorem SEq.trans {s s' s'' : St} (h : SEq s s') (h' : SEq s' s'') : SEq s s'' := ⟨h.t.trans h'.t, fun n => (h.m n).trans (h'.m n), fun n => (h.k n).trans (h'.k n)⟩

theorem SEq.ok {s s' : St} (h : SEq s s') (hok : Ok g s a w) : Ok g s' a w := by
  obtain ⟨μ, I, r⟩ := hok
  have h1 : Rel g ⟨s.t, s'.m, s.k⟩ a w μ I := r.remem (fun k => by rw [h.m k]) (fun k mb mb' e1 e2 => by
    rw [h.m k, e2] at e1
    obtain rfl := Option.some.inj e1
    exact ⟨rfl, fun _ _ k => k, fun t e τ k => ⟨t, k⟩⟩)
  refine ⟨μ, I, { toMRel := h1.toMRel, tm := ?_, len := ?_, dfr := h1.dfr, kept := fun n hn hk => h1.kept n hn (fun hm => hk ((h.k n).1 hm)) }⟩
  · rw [← h.t]; exact h1.tm
  · rw [← h.t]; exact h1.len

theorem putO_quiet {o : Option D} {dst : Option Tmp} (hs : (match o with | some d => .ret (s.putd dst d) | none => .no : Br St).run = some st) : st.m = s.m ∧ st.k = s.k := by
  cases o with
  | none => cases hs
  | some d => obtain rfl := Option.some.inj hs; cases dst <;> exact ⟨rfl, rfl⟩

theorem putd_mk (s : St) (dst : Option Tmp) (d : D) : (s.putd dst d).m = s.m ∧ (s.putd dst d).k = s.k := by cases dst <;> exact ⟨rfl, rfl⟩

theorem ret_quiet {dst : Option Tmp} {d : D} (hs : (Br.ret (s.putd dst d)).run = some st) : st.m = s.m ∧ st.k = s.k := by
  obtain rfl := Option.some.inj hs
  exact putd_mk s dst d

theorem bind_quiet {x : Br D} {dst : Option Tmp} (hs : (x.bind fun d => Br.ret (s.putd dst d)).run = some st) : st.m = s.m ∧ st.k = s.k := by
  obtain ⟨d, _, h⟩ := Br.bind_some hs
  exact ret_quiet h

theorem onB_quiet {d : D} {x y : Br St} (hs : (onB d x y).run = some st) (hx : x.run = some st → st.m = s.m ∧ st.k = s.k) (hy : y.run = some st → st.m = s.m ∧ st.k = s.k) : st.m = s.m ∧ st.k = s.k := by
  unfold onB at hs
  split at hs
  · exact hx hs
  · exact hy hs
  · rw [Br.run_cond] at hs
    split at hs
    · exact hx hs
    · exact hy hs
  · cases hs

theorem cond_quiet {b : Bool} {x y : Br St} (hs : (bif b then x else y).run = some st) (hx : x.run = some st → st.m = s.m ∧ st.k = s.k) (hy : y.run = some st → st.m = s.m ∧ st.k = s.k) : st.m = s.m ∧ st.k = s.k := by
  cases b with
  | true => exact hx hs
  | false => exact hy hs
theorem brc_quiet {b : Bool} {x y : Br St} (hs : (Br.cond b x y).run = some st) (hx : x.run = some st → st.m = s.m ∧ st.k = s.k) (hy : y.run = some st → st.m = s.m ∧ st.k = s.k) : st.m = s.m ∧ st.k = s.k := by
  cases b with
  | true => exact hx hs
  | false => exact hy hs
theorem no_quiet (hs : (Br.no : Br St).run = some st) : st.m = s.m ∧ st.k = s.k := by cases hs

/-- Operations that leave memory alone. -/
theorem quiet_ok {o : Oper} (hq : quietOp o.op = true) (hs : (evOper c s o).run = some st) : st.m = s.m ∧ st.k = s.k := by
  unfold evOper at hs
  unfold quietOp at hq
  split at hq <;> rename_i heq <;> (try rw [heq] at hs) <;> (try simp only at hs)
  all_goals repeat' first
    | exact ret_quiet hs
    | exact putO_quiet hs
    | exact bind_quiet hs
    | exact no_quiet hs
    | exact onB_quiet hs (fun h => ret_quiet h) (fun h => ret_quiet h)
    | (exact absurd hq (by decide))
    | (refine cond_quiet hs (fun hs => ?_) (fun hs => ?_))
    | (refine brc_quiet hs (fun hs => ?_) (fun hs => ?_))
    | split at hs


theorem names_memAt {m : Mem} : ∀ {ns : List Nat} {n : Nat}, n ∈ (memAt m ns).map (·.1) → n ∈ ns
  | [], n, h => by simp [memAt] at h
  | k :: r, n, h => by
    simp only [memAt] at h
    split at h
    · rcases List.mem_cons.1 h with e | h
      · rw [e]; exact List.mem_cons_self
      · exact List.mem_cons_of_mem _ (names_memAt h)
    · exact List.mem_cons_of_mem _ (names_memAt h)

theorem gone_quiet {l F : List Nat} {s' : St} (hm : s'.m = (s.cut l F).m) (hk : s'.k = (s.cut l F).k) : goneOf F s' = [] := by
  unfold goneOf
  rw [hm, hk]
  show [] ++ _ = _
  rw [List.nil_append, List.filter_eq_nil_iff]
  intro n hn
  simp [memb_iff.2 (names_memAt hn)]

/-- A quiet operation leaves memory as it was. -/
theorem join_quiet {l F : List Nat} {s' : St} {dst : Option Tmp} (hF : GoodAt s l F) (hm : s'.m = (s.cut l F).m) (hk : s'.k = (s.cut l F).k) : SEq (s.join F dst s') (s.putd dst (dstD dst s')) := by
  unfold St.join St.mix
  simp only [gone_quiet hm hk, killAll]
  have h : SEq ⟨s.t, s'.m ++ memBut F s.m, s.k⟩ s := ⟨rfl, fun n => by
    show look n (s'.m ++ memBut F s.m) = _
    rw [look_append, hm]
    show (match look n (memAt s.m F) with | some x => some x | none => look n (memBut F s.m)) = _
    rw [look_memAt, look_memBut]
    by_cases hn : n ∈ F
    · rw [if_pos hn, if_pos hn]
      obtain ⟨b, hb, _⟩ := hF.mem n hn
      rw [hb]
    · rw [if_neg hn, if_neg hn], fun _ => Iff.rfl⟩
  cases dst with
  | none => exact h
  | some k => exact ⟨rfl, h.m, h.k⟩

theorem refine_ok {dst : Option Tmp} {d d' : D} (hok : Ok g (s.putd dst d) a w) (h : ∀ (μ : Nm) (I : Bool → Nat → Prop) (w : World) (sh : Sh) (v : Value), RD μ I w sh d v → RD μ I w sh d' v) : Ok g ((s.putd dst d).putd dst d') a w := by
  cases dst with
  | none => exact hok
  | some k =>
    obtain ⟨μ, I, r⟩ := hok
    by_cases hk : k < s.t.length
    · refine ⟨μ, I, r.retell (k := k) (d := d') ?_⟩
      have ht := r.tm k
      have e : (s.putd (some k) d).t.getD k (.c .bad) = d := by
        show (s.t.set k d).getD k (.c .bad) = d
        simp [List.getD, hk]
      rw [e] at ht
      exact h _ _ _ _ _ ht
    · have e : (s.putd (some k) d).putd (some k) d' = s.putd (some k) d := by
        show (⟨(s.t.set k d).set k d', s.m, s.k⟩ : St) = ⟨s.t.set k d, s.m, s.k⟩
        have hle : (s.t.set k d).length ≤ k := by rw [List.length_set]; exact Nat.not_lt.1 hk
        rw [List.set_eq_of_length_le hle]
      rw [e]
      exact ⟨μ, I, r⟩

theorem memBut_nil : ∀ m : Mem, memBut [] m = m
  | [] => rfl
  | (k, b) :: r => by simp only [memBut, memb, cond_false]; rw [memBut_nil r]
theorem less_nil (s : St) : s.less [] = s := by unfold St.less; rw [memBut_nil]
theorem roOf_self (F : List Nat) : roOf F F = [] := by
  unfold roOf
  rw [List.filter_eq_nil_iff]
  intro n hn
  simp [memb_iff.2 hn]

theorem names_memBut (R : List Nat) : ∀ m : Mem, (memBut R m).map (·.1) = (m.map (·.1)).filter fun n => !memb n R
  | [] => rfl
  | (k, b) :: r => by
    simp only [memBut, List.map_cons, List.filter_cons]
    cases memb k R with
    | true => simp [names_memBut R r]
    | false => simp [names_memBut R r]

theorem roOf_mem {W F : List Nat} {n : Nat} : n ∈ roOf W F ↔ n ∈ F ∧ n ∉ W := by
  unfold roOf
  rw [List.mem_filter]
  constructor
  · rintro ⟨h1, h2⟩
    exact ⟨h1, fun h => by rw [memb_iff.2 h] at h2; cases h2⟩
  · rintro ⟨h1, h2⟩
    refine ⟨h1, ?_⟩
    cases h : memb n W with
    | true => exact absurd (memb_iff.1 h) h2
    | false => rfl

theorem gone_less {W F : List Nat} (hW : ∀ n ∈ W, n ∈ F) (s : St) : goneOf W (s.less (roOf W F)) = goneOf F s := by
  unfold goneOf St.less
  simp only
  rw [names_memBut, List.filter_filter]
  congr 1
  apply List.filter_congr
  intro n _
  cases h1 : memb n W with
  | true => simp [memb_iff.2 (hW n (memb_iff.1 h1))]
  | false =>
    cases h2 : memb n F with
    | true =>
      have : n ∈ roOf W F := roOf_mem.2 ⟨memb_iff.1 h2, fun h => by rw [memb_iff.2 h] at h1; cases h1⟩
      simp [memb_iff.2 this]
    | false =>
      have : memb n (roOf W F) = false := by
        cases h : memb n (roOf W F) with
        | true => have := (roOf_mem.1 (memb_iff.1 h)).1; rw [memb_iff.2 this] at h2; cases h2
        | false => rfl
      simp [this]

theorem look_kill' (s : St) (n k : Nat) : look k (s.kill n).m = if k = n then none else (look k s.m).map (MB.kill n) := by
  simp only [St.kill, look_map]
  by_cases e : k = n
  · subst e; rw [if_pos rfl, look_delm_same]; rfl
  · rw [if_neg e, look_delm_other e]

theorem kill_none {b : MB} {n : Nat} (h : b.nms = []) : b.kill n = b := by
  cases b with
  | dv l =>
    show MB.dv (l.map (C.kill n)) = _
    have : l.map (C.kill n) = l := by
      have hk : ∀ x ∈ l, C.kill n x = x := by
        intro x hx
        unfold C.kill
        cases hh : x.has n with
        | true =>
          have : n ∈ MB.nms (.dv l) := List.mem_flatMap.2 ⟨x, hx, has_nm.1 hh⟩
          rw [h] at this
          cases this
        | false => rfl
      rw [List.map_congr_left hk, List.map_id']
    rw [this]
  | _ => rfl

theorem lay_look {s : St} {k nm : Nat} {b mb : MB} (h : look k s.m = some b) (hb : b.nms = []) (hk : k ≠ nm) : look k (s.lay nm mb).m = some b := by
  show look k ((nm, mb) :: (s.kill nm).m) = _
  simp only [look]
  rw [beq_ne (Ne.symm hk), cond_false, look_kill', if_neg hk, h]
  show some (b.kill nm) = _
  rw [kill_none hb]
theorem kill_look {s : St} {k n : Nat} {b : MB} (h : look k s.m = some b) (hb : b.nms = []) (hk : k ≠ n) : look k (s.kill n).m = some b := by
  rw [look_kill', if_neg hk, h]
  show some (b.kill n) = _
  rw [kill_none hb]

/-- What it only reads stays. -/
theorem append_leaves {nm t : Nat} {x y : D} {s1 : St} {d : D} (h : (appendD c nm s t x y).run = some (s1, d)) {k : Nat} {b : MB} (hl : look k s.m = some b) (hb : b.nms = []) (hk : k ≠ nm) (hx : k ∉ x.nms) : look k s1.m = some b := by
  unfold appendD at h
  split at h
  · split at h
    · rename_i τ _ e _ _ ti _
      cases hc : decide (ti.ty = τ) && decide (0 < τ.sz) && decide (0 < ti.bytes) with
      | false => rw [hc] at h; cases h
      | true =>
        rw [hc] at h
        simp only [cond_true] at h
        split at h
        · rw [Br.run_cond] at h
          split at h
          · obtain ⟨rfl, _⟩ := Prod.mk.inj (Option.some.inj h)
            exact lay_look hl hb hk
          · cases h
        · rename_i n b1 xs b2 ys hh _ _
          have hkn : k ≠ n := by
            rintro rfl
            apply hx
            unfold headOf at hh
            split at hh <;> first | (cases hh; done) | skip
            all_goals (try (simp only [Option.some.injEq, Head.own.injEq] at hh; subst hh; simp [D.nms, C.nm]; done))
            all_goals (split at hh <;> first | (cases hh; done) | (simp only [Option.some.injEq, Head.own.injEq] at hh; subst hh; simp [D.nms, C.nm]; done))
          split at h
          · rename_i e' _ _ _
            cases hc2 : decide (e' = e) with
            | false => rw [hc2] at h; cases h
            | true =>
              rw [hc2] at h
              simp only [cond_true] at h
              rw [Br.run_cond] at h
              split at h
              · obtain ⟨rfl, _⟩ := Prod.mk.inj (Option.some.inj h)
                exact lay_look (kill_look hl hb hkn) hb hk
              · cases h
          · cases h
        · rw [Br.run_cond] at h
          split at h
          · obtain ⟨rfl, _⟩ := Prod.mk.inj (Option.some.inj h)
            exact lay_look hl hb hk
          · cases h
        · cases h
    · cases h
  · cases h

/-- An operation that only reads some names leaves those as they were. -/
theorem ro_leaves {o : Oper} {F l : List Nat} {s0 : St} (h : (evOper c (s.cut l F) o).run = some s0) (hl : ∀ x, (opd (s.cut l F) x).nms.all (fun n => memb n (opd s x).nms) = true) {k : Nat} {b : MB} (hb : look k (s.cut l F).m = some b) (hn : b.nms = []) (hk : k ≠ c.base + o.dst.getD 0) (hW : k ∈ F ∧ k ∉ wrOf s F o.op) : look k s0.m = some b := by
  unfold wrOf at hW
  split at hW
  · rename_i args ts _ heq
    split at hW
    · rename_i x r hx
      unfold evOper at h
      rw [heq] at h
      simp only [hx] at h
      split at h
      · rename_i hx' _
        cases hx'
        rename_i t u _
        cases htu : decide (t = u) with
        | true =>
          rw [htu] at h
          simp only [cond_true] at h
          obtain ⟨⟨s1, d⟩, h1, h2⟩ := Br.bind_some h
          obtain rfl := Option.some.inj h2
          rw [(putd_mk _ _ _).1]
          refine append_leaves h1 hb hn hk (fun hm => hW.2 ?_)
          have := List.all_eq_true.1 (hl x) k hm
          exact memb_iff.1 this
        | false => rw [htu] at h; cases h
      · cases h
    · exact absurd hW.1 hW.2
  · exact absurd hW.1 hW.2

theorem cut_opd {l F : List Nat} (s : St) (x : Operand) : (opd (s.cut l F) x).nms.all (fun n => memb n (opd s x).nms) = true := by
  rw [List.all_eq_true]
  intro n hn
  rw [memb_iff]
  cases x with
  | tmp t =>
    have e : opd (s.cut l F) (.tmp t) = (maskT l 0 s.t).getD t (.c .bad) := rfl
    rw [e, List.getD, maskT_get, Nat.zero_add] at hn
    show n ∈ (s.t.getD t (.c .bad)).nms
    rw [List.getD]
    cases ht : s.t[t]? with
    | none => rw [ht] at hn; simp [D.nms, C.nm] at hn
    | some d =>
      rw [ht] at hn
      simp only [Option.map_some, Option.getD_some] at hn ⊢
      cases hm : memb t l with
      | true => rw [hm] at hn; exact hn
      | false => rw [hm] at hn; simp [D.nms, C.nm] at hn
  | _ => exact hn

theorem whole_ro {W F : List Nat} {s0 : St} {dst : Option Tmp} (hW : ∀ n ∈ W, n ∈ F) (hR : ∀ n ∈ roOf W F, ∃ b, look n s.m = some b ∧ b.nms = [] ∧ look n s0.m = some b ∧ n ∉ goneOf F s0) : SEq (s.join F dst s0) (s.join W dst (s0.less (roOf W F))) := by
  have key : SEq (s.mix F s0) (s.mix W (s0.less (roOf W F))) := by
    refine ⟨?_, fun n => ?_, fun n => ?_⟩
    · show (killAll (goneOf F s0) s).t = (killAll (goneOf W _) s).t
      rw [gone_less hW]
    · show look n (s0.m ++ memBut F (killAll (goneOf F s0) s).m) = look n (memBut (roOf W F) s0.m ++ memBut W (killAll (goneOf W (s0.less (roOf W F))) s).m)
      rw [gone_less hW, look_append, look_append, look_memBut, look_memBut, look_memBut]
      by_cases hr : n ∈ roOf W F
      · obtain ⟨b, h1, h2, h3, h4⟩ := hR n hr
        have hm := roOf_mem.1 hr
        rw [if_pos hr, h3]
        simp only
        rw [if_neg hm.2]
        have gen : ∀ (r : List Nat) (s : St), look n s.m = some b → n ∉ r → look n (killAll r s).m = some b := by
          intro r
          induction r with
          | nil => intro s h _; exact h
          | cons k r ih =>
            intro s h hn
            refine ih (s.kill k) (kill_look h h2 (fun e => hn (by rw [e]; exact List.mem_cons_self))) (fun hm => hn (List.mem_cons_of_mem _ hm))
        exact (gen _ _ h1 h4).symm
      · rw [if_neg hr]
        cases look n s0.m with
        | some b => rfl
        | none =>
          simp only
          have : n ∈ F ↔ n ∈ W := ⟨fun h => Classical.byContradiction fun hw => hr (roOf_mem.2 ⟨h, hw⟩), hW n⟩
          by_cases hf : n ∈ F
          · rw [if_pos hf, if_pos (this.1 hf)]
          · rw [if_neg hf, if_neg (fun h => hf (this.2 h))]
    · show n ∈ (killAll (goneOf F s0) s).k ↔ n ∈ (killAll (goneOf W _) s).k
      rw [gone_less hW]
  unfold St.join
  cases dst with
  | none => exact key
  | some k => exact ⟨by show (s.mix F s0).t.set k _ = (s.mix W _).t.set k _; rw [key.t]; rfl, key.m, key.k⟩

theorem quiet_wr {s : St} {F : List Nat} {o : Op} (h : quietOp o = true) : wrOf s F o = F := by
  unfold wrOf
  split
  · simp [quietOp] at h
  · rfl

theorem execG_ok (he : EnvFull P c) {ops : Array Oper} {i : Nat} {o : Oper} {x : Rec} (hok : Ok g s a w) (hr : (evExecG c ops i s o).run = some (x, st)) {K : Act → World → Prop} {Q : Exit → Act → World → Prop} (hK : ∀ a' w', Ok g st a' w' → K a' w') : o.wp P a w K Q := by
  unfold evExecG at hr
  simp only at hr
  cases hg : goodAt s (lookSlots s o.op) (namesAt s (lookSlots s o.op)) with
  | false => rw [hg] at hr; cases hr
  | true =>
    rw [hg] at hr
    simp only [cond_true] at hr
    obtain ⟨s0, h1, hr⟩ := Br.bind_some hr
    generalize hl : lookSlots s o.op = l at hg h1 hr
    generalize hF : namesAt s l = F at hg h1 hr
    have hF' := goodAt_ok hg
    generalize hWe : wrOf s F o.op = W at hr
    generalize hchk : ((subB W F && roOk s (c.base + o.dst.getD 0) (roOf W F) (goneOf W (s0.less (roOf W F)))) && (subB (dstD o.dst (s0.less (roOf W F))).nms (F ++ goneOf W (s0.less (roOf W F))) && (s0.less (roOf W F)).m.all (fun p => subB p.2.nms (F ++ goneOf W (s0.less (roOf W F)))))) = chk at hr
    cases chk with
    | false => cases hr
    | true =>
      simp only [Bool.and_eq_true] at hchk
      obtain ⟨⟨hsub, hro⟩, _⟩ := hchk
      have hWF : ∀ n ∈ W, n ∈ F := fun n hn => subB_iff.1 hsub n hn
      simp only [cond_true] at hr
      obtain ⟨μ, I, h⟩ := hok
      have hc := h.cut hF'
      have hwp := oper_ok he o _ _ _ _ _ (fun a' w' => Ok (cfgOf w I (memAt s.m F) μ) s0 a' w') Q ⟨μ, I, hc⟩ h1 (fun a' w' k => k)
      -- the whole behind the operation
      have hwhole : o.wp P a w (fun a' w' => Ok g (s.whole (quietOp o.op) W o.dst (s0.less (roOf W F))) a' w') Q := by
        refine Oper.wp_mono ?_ (wp_put hwp (fun a w ⟨_, _, k⟩ => k.dfr))
        rintro a' w' ⟨k1, v, rfl⟩
        have hj := join_ok h F k1
        unfold St.whole
        cases hq : quietOp o.op with
        | false =>
          refine (whole_ro (dst := o.dst) hWF fun n hn => ?_).ok hj
          unfold roOk at hro
          rw [List.all_eq_true] at hro
          have hn' := hro n hn
          simp only [Bool.and_eq_true, Bool.not_eq_true'] at hn'
          obtain ⟨⟨n1, n2⟩, n3⟩ := hn'
          cases hlk : look n s.m with
          | none => rw [hlk] at n3; cases n3
          | some b =>
            rw [hlk] at n3
            have hb : b.nms = [] := List.isEmpty_iff.1 n3
            have hmem := roOf_mem.1 hn
            refine ⟨b, rfl, hb, ?_, ?_⟩
            · refine ro_leaves h1 (cut_opd s) ?_ hb (fun e => ?_) ⟨hmem.1, by rw [hWe]; exact hmem.2⟩
              · show look n (memAt s.m F) = _
                rw [look_memAt, if_pos hmem.1, hlk]
              · rw [e, beq_same] at n1; cases n1
            · rw [← gone_less hWF]
              intro hm
              rw [memb_iff.2 hm] at n2
              cases n2
        | true =>
          rw [quiet_wr hq] at hWe
          subst hWe
          rw [roOf_self, less_nil]
          obtain ⟨q1, q2⟩ := quiet_ok hq h1
          exact (join_quiet (dst := o.dst) hF' q1 q2).ok hj
      generalize s0.less (roOf W F) = s' at hwhole hr
      cases hig : isGuard ops i with
      | false =>
        rw [hig] at hr
        obtain ⟨_, rfl⟩ := Prod.mk.inj (Option.some.inj hr)
        exact Oper.wp_mono (fun a' w' k => hK a' w' k) hwhole
      | true =>
        rw [hig] at hr
        simp only [cond_true] at hr
        unfold St.whole at hwhole hr
        generalize dstD o.dst s' = d at hwhole hr
        generalize (bif quietOp o.op then s else s.mix W s') = s0 at hwhole hr
        split at hr
        · rename_i t b
          cases b with
          | true =>
            obtain ⟨_, rfl⟩ := Prod.mk.inj (Option.some.inj hr)
            exact Oper.wp_mono (fun a' w' k => hK a' w' (refine_ok k fun _ _ _ _ v hv => by rw [RD.bool hv]; exact rfl)) hwhole
          | false =>
            obtain ⟨_, rfl⟩ := Prod.mk.inj (Option.some.inj hr)
            exact Oper.wp_mono (fun a' w' k => hK a' w' (refine_ok k fun _ _ _ _ v hv => by rw [RD.bool hv]; exact rfl)) hwhole
        · obtain ⟨_, rfl⟩ := Prod.mk.inj (Option.some.inj hr)
          exact Oper.wp_mono (fun a' w' k => hK a' w' k) hwhole

theorem move_eq {o : Oper} {x : Operand} (h : mvOf o.op = some x) : evOper c s o = .ret (s.putd o.dst (opd s x)) := by
  unfold evOper
  unfold mvOf at h
  split at h
  · rename_i h1; rw [h1]; obtain rfl := Option.some.inj h; rfl
  · rename_i h1; rw [h1]; obtain rfl := Option.some.inj h; rfl
  · cases h

theorem move_ok (he : EnvFull P c) {ops : Array Oper} {i : Nat} {o : Oper} {y : Operand} {x : Rec} (hm : mvOf o.op = some y) (hok : Ok g s a w) (hr : (evMove ops i s o y).run = some (x, st)) {K : Act → World → Prop} {Q : Exit → Act → World → Prop} (hK : ∀ a' w', Ok g st a' w' → K a' w') : o.wp P a w K Q := by
  have hwhole : o.wp P a w (fun a' w' => Ok g (s.putd o.dst (opd s y)) a' w') Q := oper_ok he o g s _ a w _ Q hok (by rw [move_eq hm]; rfl) (fun a' w' k => k)
  unfold evMove at hr
  simp only at hr
  generalize opd s y = d at hr hwhole
  cases hg : d.good with
  | false => rw [hg] at hr; cases hr
  | true =>
    rw [hg] at hr
    simp only [cond_true] at hr
    cases hig : isGuard ops i with
    | false =>
      rw [hig] at hr
      obtain ⟨_, rfl⟩ := Prod.mk.inj (Option.some.inj hr)
      exact Oper.wp_mono (fun a' w' k => hK a' w' k) hwhole
    | true =>
      rw [hig] at hr
      simp only [cond_true] at hr
      split at hr
      · rename_i t b
        cases b with
        | true =>
          obtain ⟨_, rfl⟩ := Prod.mk.inj (Option.some.inj hr)
          exact Oper.wp_mono (fun a' w' k => hK a' w' (refine_ok k fun _ _ _ _ v hv => by rw [RD.bool hv]; exact rfl)) hwhole
        | false =>
          obtain ⟨_, rfl⟩ := Prod.mk.inj (Option.some.inj hr)
          exact Oper.wp_mono (fun a' w' k => hK a' w' (refine_ok k fun _ _ _ _ v hv => by rw [RD.bool hv]; exact rfl)) hwhole
      · obtain ⟨_, rfl⟩ := Prod.mk.inj (Option.some.inj hr)
        exact Oper.wp_mono (fun a' w' k => hK a' w' k) hwhole

theorem exec_ok (he : EnvFull P c) {ops : Array Oper} {i : Nat} {o : Oper} {x : Rec} (hok : Ok g s a w) (hr : (evExec c ops i s o).run = some (x, st)) {K : Act → World → Prop} {Q : Exit → Act → World → Prop} (hK : ∀ a' w', Ok g st a' w' → K a' w') : o.wp P a w K Q := by
  unfold evExec at hr
  split at hr
  · rename_i y hy
    exact move_ok he hy hok hr hK
  · exact execG_ok he hok hr hK

end Go.PI
