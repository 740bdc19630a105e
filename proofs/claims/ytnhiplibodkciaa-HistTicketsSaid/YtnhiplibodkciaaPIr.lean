/- Each operation does what the interpreter says. -/
import Derived.Test.YtnhiplibodkciaaPIq
namespace Go.PI
open Go.RowKit

variable {P : Program} {c : Ctx} {g : Cfg} {s st : St} {a : Act} {w : World} {μ : Nm} {I : Bool → Nat → Prop}

theorem val_wp (h : Rel g s a w μ I) {o : Oper} {d : D} {v : Value} (hrun : (execOp a.eval o).run P w = .ok (.value v) w) (hd : RD μ I w (shp s.m) d v) (hs : (Br.ret (s.putd o.dst d)).run = some st) {Kc : Act → World → Prop} (hK : ∀ a' w', Ok g st a' w' → Kc a' w') (Q : Exit → Act → World → Prop) : o.wp P a w Kc Q := by
  obtain rfl := Option.some.inj hs
  exact wp_value hrun (hK _ _ ⟨μ, I, h.putd hd⟩)

theorem putO_some {o : Option D} {dst : Option Tmp} (hs : (match o with | some d => .ret (s.putd dst d) | none => .no : Br St).run = some st) : ∃ d, o = some d ∧ (Br.ret (s.putd dst d)).run = some st := by
  cases o with
  | none => cases hs
  | some d => exact ⟨d, rfl, hs⟩

theorem ints_ok (h : Rel g s a w μ I) {k : IntKind} : ∀ {l : List Operand} {r : List Int}, intsD k s l = some r → ∀ n, InK k n →
    ((l.map a.eval).foldlM Builtin.min2 (.int k n)).run P w = .ok (.int k (minC r n)) w ∧ ((l.map a.eval).foldlM Builtin.max2 (.int k n)).run P w = .ok (.int k (maxC r n)) w ∧ InK k (minC r n) ∧ InK k (maxC r n)
  | [], r, hr, n, hn => by
    obtain rfl := Option.some.inj hr
    exact ⟨rfl, rfl, hn, hn⟩
  | x :: l, r, hr, n, hn => by
    simp only [intsD] at hr
    split at hr
    · rename_i t k' m r' hx hl
      cases hk : decide (k' = k) with
      | false => simp only [hk, cond_false] at hr; cases hr
      | true =>
        simp only [hk, cond_true] at hr
        obtain rfl := Option.some.inj hr
        obtain rfl := of_decide_eq_true hk
        have hv := eval_opd h x
        rw [hx] at hv
        obtain ⟨e, hm⟩ := hv.int
        have h1 := ints_ok h hl (if m < n then m else n) (by split <;> assumption)
        have h2 := ints_ok h hl (if n < m then m else n) (by split <;> assumption)
        refine ⟨?_, ?_, h1.2.2.1, h2.2.2.2⟩
        · simp only [List.map_cons, List.foldlM_cons, e, Builtin.min2, Sem.run_bind, Sem.run_pure, Result.andThen_ok]
          exact h1.1
        · simp only [List.map_cons, List.foldlM_cons, e, Builtin.max2, Sem.run_bind, Sem.run_pure, Result.andThen_ok]
          exact h2.2.1
    · cases hr

theorem args_ok (h : Rel g s a w μ I) : ∀ {l : List Operand} {r : List C}, argsC s l = some r → RL μ I w (shp s.m) r (l.map a.eval)
  | [], r, hr => by
    obtain rfl := Option.some.inj hr
    exact RL.nil
  | x :: l, r, hr => by
    simp only [argsC] at hr
    split at hr
    · rename_i k r' hx hl
      obtain rfl := Option.some.inj hr
      have hv := eval_opd h x
      rw [hx] at hv
      exact RL.mk_cons hv (args_ok h hl)
    · cases hr

theorem freeze_shp {n : Nat} {s : St} {mb : MB} (hl : look n s.m = some mb) {k : Nat} (hk : look k (s.freeze n).m ≠ none) : shp (s.freeze n).m k = shp s.m k := by
  have e0 : s.freeze n = ⟨s.t.map (D.freeze n mb), (delm n s.m).map fun p => (p.1, MB.freeze n mb p.2), n :: s.k⟩ := by unfold St.freeze; rw [hl]
  rw [e0] at hk ⊢
  by_cases e : k = n
  · subst e
    rw [look_map, look_delm_same] at hk
    exact absurd rfl hk
  · unfold shp
    rw [look_map, look_delm_other e, Option.map_map]
    congr 1
    funext mb'
    rw [MB.freeze_map]
    exact MB.shape_map _ _

theorem freezeAll_shp : ∀ (ns : List Nat) (s : St) (d : D) (k : Nat), look k (freezeAll ns (s, d)).1.m ≠ none → shp (freezeAll ns (s, d)).1.m k = shp s.m k
  | [], s, d, k, h => rfl
  | n :: r, s, d, k, h => by
    cases hl : look n s.m with
    | none =>
      have e : freezeAll (n :: r) (s, d) = freezeAll r (s, d) := by simp [freezeAll, hl]
      rw [e] at h ⊢
      exact freezeAll_shp r s d k h
    | some mb =>
      have e : freezeAll (n :: r) (s, d) = freezeAll r (s.freeze n, d.freeze n mb) := by simp [freezeAll, hl]
      rw [e] at h ⊢
      have ih := freezeAll_shp r (s.freeze n) (d.freeze n mb) k h
      rw [ih]
      refine freeze_shp hl (fun e2 => ?_)
      have : shp (s.freeze n).m k = none := by simp [shp, e2]
      rw [this] at ih
      simp only [shp, Option.map_eq_none_iff] at ih
      exact h ih

theorem preStore_ok (n : Nat) (h : Rel g s a w μ I) {d : D} {v : Value} (hd : RD μ I w (shp s.m) d v) : ∃ I', Rel g (preStore s n d).1 a w μ I' ∧ RD μ I' w (shp (preStore s n d).1.m) (preStore s n d).2 v ∧ ∀ k, look k (preStore s n d).1.m ≠ none → shp (preStore s n d).1.m k = shp s.m k := by
  unfold preStore
  split
  · obtain ⟨I', h1, h2⟩ := freezeAll_ok d.names h hd
    exact ⟨I', h1, h2, fun k hk => freezeAll_shp _ _ _ k hk⟩
  · exact ⟨I, h, hd, fun _ _ => rfl⟩

theorem run_part {t : Nat} {ti : TI} (ht : TOk P t ti) (w : World) (cs : List Value) (off : Nat) (h : off + ti.ty.sz ≤ cs.length) : (part t cs.toArray off).run P w = .ok (valOf ti.ty ((cs.drop off).take ti.ty.sz)) w := by
  unfold part valOf
  simp only [Sem.run_bind, run_isAgg' ht, Result.andThen_ok]
  cases e : ti.ty.isAgg with
  | true =>
    simp only [if_true, Sem.run_bind, run_sizeOf' ht, Result.andThen_ok, Sem.run_pure, cond_true]
    congr 2
    apply Array.ext'
    simp [List.extract_eq_take_drop]
  | false =>
    rw [sz_one e] at h ⊢
    have hlt : off < cs.length := by omega
    have e2 : (cs.drop off).take 1 = [cs[off]] := by rw [List.drop_eq_getElem_cons hlt]; rfl
    rw [e2]
    simp [hlt]

theorem oper_ok (he : EnvFull P c) (o : Oper) : Good P c o := by
  intro g s st a w Kc Q hok hs hK
  obtain ⟨μ, I, h⟩ := hok
  unfold evOper at hs
  have hm := h.toMRel
  cases ho : o.op with
  | move x =>
    simp only [ho] at hs
    exact val_wp h (by simp [execOp, ho]) (eval_opd h x) hs hK Q
  | assign x =>
    simp only [ho] at hs
    exact val_wp h (by simp [execOp, ho]) (eval_opd h x) hs hK Q
  | pick k x y =>
    simp only [ho] at hs
    obtain ⟨b, hb, hs⟩ := onB_run (eval_opd h k) hs
    cases b with
    | true => exact val_wp h (by simp [execOp, ho, hb, asBool]) (eval_opd h x) hs hK Q
    | false => exact val_wp h (by simp [execOp, ho, hb, asBool]) (eval_opd h y) hs hK Q
  | alloc t =>
    simp only [ho] at hs
    split at hs
    · rename_i n τ by_ td ht
      cases hc : (decide (n ≤ 1048576) && decide (0 < n)) with
      | false => simp only [hc, cond_false] at hs; cases hs
      | true =>
        simp only [hc, cond_true] at hs
        obtain rfl := Option.some.inj hs
        simp only [Bool.and_eq_true, decide_eq_true_eq] at hc
        have hT := he.tb _ _ ht
        exact wp_value (by simp [execOp, ho, alloc_run hT]) (hK _ _ (allocA_ok h hT _ _ hc.1 hc.2))
    · rename_i ti hn ht
      obtain rfl := Option.some.inj hs
      have hT := he.tb _ _ ht
      exact wp_value (by simp [execOp, ho, alloc_run hT]) (hK _ _ (alloc_ok h hT _ _))
    · cases hs
  | box t x =>
    simp only [ho] at hs
    split at hs
    · rename_i ti ht
      obtain ⟨r, w', h1, h2⟩ := box_ok h (he.tb _ _ ht) (eval_opd h x) _ o.dst hs
      exact wp_value (by simp [execOp, ho, h1]) (hK _ _ h2)
    · cases hs
  | build t parts =>
    simp only [ho] at hs
    obtain ⟨d, hd, hs⟩ := putO_some hs
    obtain ⟨r, h1, h2⟩ := build_ok he.tb h hd
    exact val_wp h (by simp only [execOp, ho, Sem.run_bind, h1, Result.andThen_ok, Sem.run_pure]) h2 hs hK Q
  | buildSlice t len parts =>
    simp only [ho] at hs
    split at hs
    · rename_i τ by_ e ht
      split at hs
      · rename_i ti hte
        cases hc : (decide (ti.ty = τ) && decide (len * τ.sz ≤ 16777216) && decide (0 < τ.sz)) with
        | false => simp only [hc, cond_false] at hs; cases hs
        | true =>
          simp only [hc, cond_true] at hs
          simp only [Bool.and_eq_true, decide_eq_true_eq] at hc
          obtain ⟨I', h'⟩ := thaw_ok parts.toList h
          split at hs
          · rename_i b xs hrow
            obtain rfl := Option.some.inj hs
            obtain ⟨r, w', h1, h2⟩ := buildSlice_ok he.tb h' (he.tb _ _ ht) (he.tb _ _ hte) hc.1.1 hc.1.2 hc.2 hrow (c.base + o.dst.getD 0) o.dst
            exact wp_value (by simp only [execOp, ho, Sem.run_bind, h1, Result.andThen_ok, Sem.run_pure]) (hK _ _ h2)
          · cases hs
      · cases hs
    · cases hs
  | load t x =>
    simp only [ho] at hs
    split at hs
    · rename_i ti p ht hp
      obtain ⟨d, hd, hs⟩ := putO_some hs
      have hv := eval_opd h x
      rw [hp] at hv
      obtain ⟨v', h1, h2⟩ := load_ok hm (he.tb _ _ ht) hv hd
      exact val_wp h (by simp only [execOp, ho, Sem.run_bind, h1, Result.andThen_ok, Sem.run_pure]) h2 hs hK Q
    · cases hs
  | store t x y =>
    simp only [ho] at hs
    split at hs
    · rename_i ti n i off ht hp
      cases hz : decide (0 < ti.ty.sz) with
      | false => simp only [hz, cond_false] at hs; cases hs
      | true =>
        simp only [hz, cond_true] at hs
        have hz := of_decide_eq_true hz
        have hv := eval_opd h x
        rw [hp] at hv
        have hy := eval_opd h y
        obtain ⟨I', hr, hd, hsh⟩ := preStore_ok n h (eval_opd h y)
        generalize preStore s n (opd s y) = p at hs hr hd hsh
        split at hs
        · rename_i mb hl
          split at hs
          · rename_i mb' hst
            obtain rfl := Option.some.inj hs
            obtain ⟨b, q, len, z, e1, e2, e3, e4⟩ := hv
            have hv3 : RC μ I' w (shp p.1.m) (.ref n i off) (a.eval x) := ⟨b, q, len, z, e1, (hsh n (by rw [hl]; simp)).trans e2, e3, e4⟩
            obtain ⟨w', h1, h2⟩ := store_ok hr (he.tb _ _ ht) hl hv3 hd hz hst
            unfold Oper.wp
            simp only [execOp, ho, Sem.run_bind, h1, Result.andThen_ok, Sem.run_pure]
            exact hK _ _ ⟨μ, I', h2.putd trivial⟩
          · cases hs
        · cases hs
    · cases hs
  | nilCheck x =>
    simp only [ho] at hs
    have hv := eval_opd h x
    split at hs
    · rename_i n i k hx
      rw [hx] at hv
      have hv' := hv
      obtain ⟨b, q, len, z, _, _, _, e⟩ := hv
      exact val_wp h (by simp [execOp, ho, e]) (e ▸ hv') hs hK Q
    · rename_i b τ xs i k hx
      rw [hx] at hv
      have hv' := hv
      obtain ⟨ad, cells, e, _⟩ := hv
      exact val_wp h (by simp [execOp, ho, e]) (e ▸ hv') hs hK Q
    · rename_i b τ v hx
      rw [hx] at hv
      obtain ⟨hsome, hs⟩ := cond_yes hs
      cases v with
      | none => cases hsome
      | some y =>
        obtain ⟨ad, cells, e, hI, hc, hk⟩ := nil_ptr (hv.2 rfl)
        refine val_wp h (v := .pointer (some ad)) (by simp [execOp, ho, e]) ?_ hs hK Q
        obtain ⟨bb, oo, sp⟩ := ad
        obtain rfl : sp = none := hc.1
        refine ⟨⟨bb, oo, none⟩, cells, by simp, by simp, hI, hc, ?_⟩
        have := Row.cons hk.length hk (Row.nil (K (I b) w τ) τ.sz)
        rwa [List.append_nil] at this
    · cases hs
  | binOp op xt x y yt =>
    simp only [ho] at hs
    obtain ⟨d, hd, hs⟩ := Br.bind_some hs
    obtain ⟨r, h1, h2⟩ := bin_ok he.toEnvOk h.isub (eval_opd h x) (eval_opd h y) hd x y
    exact val_wp h (by simp only [execOp, ho]; rw [Sem.run_bind, h1]; rfl) h2 hs hK Q
  | unOp op t x =>
    simp only [ho] at hs
    obtain ⟨d, hd, hs⟩ := Br.bind_some hs
    obtain ⟨r, h1, h2⟩ := un_ok (P := P) (eval_opd h x) hd
    exact val_wp h (by simp only [execOp, ho, Sem.run_bind, h1, Result.andThen_ok, Sem.run_pure]) h2 hs hK Q
  | convert src dst x =>
    simp only [ho] at hs
    split at hs
    · rename_i ts k _ _ t k' n hsrc hdst hx
      have hv := eval_opd h x
      rw [hx] at hv
      obtain ⟨e, hn⟩ := hv.int
      obtain ⟨_, _, _, us, _⟩ := he.tb _ _ hsrc
      obtain ⟨_, d, _, ud, _, _, _, _, hb, _⟩ := he.tb _ _ hdst
      simp only at hb
      subst hb
      exact val_wp h (by simp [execOp, ho, e, convert, run_underlying us, run_underlying ud, Conv.intToInt]) (RD.ofInt (inK_wrap _ _) _) hs hK Q
    · rename_i ts _ _ b v hsrc hdst hx
      have hv := eval_opd h x
      rw [hx] at hv
      have hv' := hv
      obtain ⟨e, hn⟩ := hv.str
      obtain ⟨_, _, _, us, _⟩ := he.tb _ _ hsrc
      obtain ⟨_, d, _, ud, _, _, _, _, hb, _⟩ := he.tb _ _ hdst
      simp only at hb
      subst hb
      exact val_wp h (by simp [execOp, ho, e, convert, run_underlying us, run_underlying ud]) (e ▸ hv') hs hK Q
    · cases hs
  | makeFunc fn first caps =>
    cases fn with
    | func f =>
      simp only [ho] at hs
      cases hc : decide (first.size = 0) with
      | false => simp only [hc, cond_false] at hs; cases hs
      | true =>
        simp only [hc, cond_true] at hs
        split at hs
        · rename_i l hl
          have hf : first = #[] := Array.eq_empty_of_size_eq_zero (of_decide_eq_true hc)
          have hd : RD μ I w (shp s.m) (.fn f l) (.func (.func f) #[] (caps.map a.eval)) := ⟨caps.toList.map a.eval, by congr 1; apply Array.ext'; simp, args_ok h hl⟩
          exact val_wp h (by simp [execOp, ho, Instr.makeFunc, hf]) hd hs hK Q
        · cases hs
    | _ => simp only [ho] at hs; cases hs
  | makeSlice t l k =>
    simp only [ho] at hs
    split at hs
    · rename_i τ by_ e lv kv ht hl hk
      split at hs
      · rename_i ti hte
        cases hc : (decide (ti.ty = τ) && decide (0 < τ.sz) && decide (0 < ti.bytes)) with
        | false => simp only [hc, cond_false] at hs; cases hs
        | true =>
          simp only [hc, cond_true] at hs
          simp only [Bool.and_eq_true, decide_eq_true_eq] at hc
          obtain ⟨h1, hs⟩ := cond_yes hs
          obtain rfl := Option.some.inj hs
          simp only [Bool.and_eq_true, decide_eq_true_eq] at h1
          obtain ⟨kl, el⟩ := intD_ok (eval_opd h l) hl
          have hkv := eval_opd h k
          have hkk : ∃ kc, a.eval k = .int kc kv ∧ InK kc kv := by
            unfold intD at hk
            split at hk
            · rename_i t' k' n' hx
              obtain rfl := Option.some.inj hk
              rw [hx] at hkv
              exact ⟨_, hkv.int⟩
            · cases hk
          obtain ⟨kc, ek, hkin⟩ := hkk
          have hk64 : kv ≤ 9223372036854775807 := by
            have hb : kv.toNat * ti.bytes ≤ 140737488355328 := of_decide_eq_true h1.2
            have : kv.toNat * 1 ≤ kv.toNat * ti.bytes := Nat.mul_le_mul_left _ hc.2
            omega
          obtain ⟨r, w', h2, h3⟩ := makeSlice_ok h (he.tb _ _ ht) (he.tb _ _ hte) hc.1.1 hc.1.2 (kl := kl) (kc := kc) h1.1.1 h1.1.2 h1.2 hkin hk64 (c.base + o.dst.getD 0) o.dst
          exact wp_value (by simp only [execOp, ho, Sem.run_bind, el, ek, h2, Result.andThen_ok, Sem.run_pure]) (hK _ _ h3)
      · cases hs
    · cases hs
  | slice t x lo hi mx =>
    simp only [ho] at hs
    split at hs
    · rename_i _ _ ht
      obtain ⟨_, d, _, ud, _, _, _, _, hb, _⟩ := he.tb _ _ ht
      simp only at hb
      subst hb
      split at hs
      · rename_i b v hx
        obtain ⟨d, hd, hs⟩ := Br.bind_some hs
        have hv := eval_opd h x
        rw [hx] at hv
        obtain ⟨r, h1, h2⟩ := sliceStr_ok h ud hv hd
        exact val_wp h (by simp only [execOp, ho, Sem.run_bind, h1, Result.andThen_ok, Sem.run_pure]) h2 hs hK Q
      · cases hs
    · rename_i τ by_ e ht
      obtain ⟨_, d, _, ud, _, _, _, _, _, hd⟩ := he.tb _ _ ht
      simp only at hd
      subst hd
      cases hc : tyIs c e τ with
      | false => simp only [hc, cond_false] at hs; cases hs
      | true =>
        simp only [hc, cond_true] at hs
        obtain ⟨d, hd, hs⟩ := Br.bind_some hs
        obtain ⟨r, h1, h2⟩ := slice_ok h ud (tyIs_ok he.toEnvOk hc w) (eval_opd h x) hd
        exact val_wp h (by simp only [execOp, ho, Sem.run_bind, h1, Result.andThen_ok, Sem.run_pure]) h2 hs hK Q
    · cases hs
  | fieldAddr t x f =>
    simp only [ho] at hs
    split at hs
    · rename_i off τ p hf hp
      cases hz : decide (τ.sz = 0) with
      | true => simp only [hz, cond_true] at hs; cases hs
      | false =>
        simp only [hz, cond_false] at hs
        obtain ⟨d, hd, hs⟩ := putO_some hs
        obtain ⟨q, hq, rfl⟩ := Option.map_eq_some_iff.1 hd
        have hv := eval_opd h x
        rw [hp] at hv
        obtain ⟨b, oo, e, hr⟩ := addOff_ok hv hq
        obtain ⟨fs, hu, places, _, _, fld, u, hfi, hfo, hft, ti, hti, hty⟩ := place_ok he.tb hf
        have hfi' : fs[f]? = some fld := by simpa using hfi
        refine val_wp h (d := .c q) (v := .pointer (some ⟨b, oo + off, none⟩)) ?_ hr hs hK Q
        have hsz := run_sizeOf' (he.tb _ _ hti) w
        rw [hty] at hsz
        simp only [execOp, ho, Instr.fieldAt, Sem.run_bind, run_underlying hu, Result.andThen_ok, hfi', e, Instr.sureAddr, Sem.run_pure, fieldPlace, hft, hsz]
        rw [if_neg (of_decide_eq_false hz)]
        simp [hfo, Addr.add_lit]
    · cases hs
  | indexAddr t x i =>
    simp only [ho] at hs
    split at hs
    · rename_i iv τ by_ e hi ht
      obtain ⟨_, d, _, ud, _, _, _, _, _, hd⟩ := he.tb _ _ ht
      simp only at hd
      subst hd
      cases hc : tyIs c e τ with
      | false => simp only [hc, cond_false] at hs; cases hs
      | true =>
        simp only [hc, cond_true] at hs
        obtain ⟨d, hd, hs⟩ := Br.bind_some hs
        obtain ⟨k, ei⟩ := intD_ok (eval_opd h i) hi
        obtain ⟨r, h1, h2⟩ := index_ok hm ud (tyIs_ok he.toEnvOk hc w) (k := k) (eval_opd h x) hd
        exact val_wp h (by simp only [execOp, ho, Sem.run_bind, ei, h1, Result.andThen_ok, Sem.run_pure]) h2 hs hK Q
    · rename_i iv n τ by_ k e hi ht
      obtain ⟨_, d, _, ud, _, _, _, _, _, hd⟩ := he.tb _ _ ht
      simp only at hd
      subst hd
      cases hc : tyIs c e τ with
      | false => simp only [hc, cond_false] at hs; cases hs
      | true =>
        simp only [hc, cond_true] at hs
        obtain ⟨d, hd, hs⟩ := Br.bind_some hs
        obtain ⟨k, ei⟩ := intD_ok (eval_opd h i) hi
        obtain ⟨r, h1, h2⟩ := indexA_ok hm ud (tyIs_ok he.toEnvOk hc w) (k := k) (eval_opd h x) hd
        exact val_wp h (by simp only [execOp, ho, Sem.run_bind, ei, h1, Result.andThen_ok, Sem.run_pure]) h2 hs hK Q
    · cases hs
  | index t x i =>
    simp only [ho] at hs
    split at hs
    · rename_i _ _ b v iv ht hx hi
      obtain ⟨_, d, _, ud, _, _, _, _, hb, _⟩ := he.tb _ _ ht
      simp only at hb
      subst hb
      obtain ⟨h1, hs⟩ := cond_yes hs
      simp only [Bool.and_eq_true, decide_eq_true_eq] at h1
      have hv := eval_opd h x
      rw [hx] at hv
      obtain ⟨e, _⟩ := hv.str
      obtain ⟨k, ei⟩ := intD_ok (eval_opd h i) hi
      have hlt : iv.toNat < v.size := by omega
      have hlt' : iv.toNat < v.data.size := hlt
      have hg : v[iv.toNat]? = some (v.data.getD iv.toNat 0) := by
        rw [getElem?_pos v iv.toNat hlt]
        unfold Array.getD
        rw [dif_pos hlt']
        rfl
      refine val_wp h (v := .int .u8 ((v.data.getD iv.toNat 0).toNat : Int)) ?_ (RD.ofInt ?_ _) hs hK Q
      · simp only [execOp, ho, Instr.index, e, ei, asIntOf, Sem.run_bind, Sem.run_pure, Result.andThen_ok, run_underlying ud, h1.1, if_true, hg]
      · have := (v.data.getD iv.toNat 0).toNat_lt
        generalize (v.data.getD iv.toNat 0).toNat = qq at *
        unfold InK
        simp [IntKind.min, IntKind.max, IntKind.signed, IntKind.bits]
        omega
    · cases hs
  | field t x f =>
    simp only [ho] at hs
    split at hs
    · rename_i off τ b σ v hf hx
      cases hag : σ.isAgg with
      | false => simp only [hag, cond_false] at hs; cases hs
      | true =>
        simp only [hag, cond_true] at hs
        obtain ⟨d, hd, hs⟩ := putO_some hs
        obtain ⟨gf, hg, rfl⟩ := Option.map_eq_some_iff.1 hd
        have hv := eval_opd h x
        rw [hx] at hv
        obtain ⟨cs, e, hk⟩ := hv.1 hag
        obtain ⟨r1, r2⟩ := sub_K hg hk
        obtain ⟨fs, hu, places, _, _, fld, u, hfi, hfo, hft, ti, hti, hty⟩ := place_ok he.tb hf
        have hfi' : fs[f]? = some fld := by simpa using hfi
        subst hty
        have hp := run_part (he.tb _ _ hti) w cs off (by rw [hk.length]; exact r1)
        refine val_wp h (d := .c (.ty b ti.ty (gf v))) ?_ r2.vk hs hK Q
        simp only [execOp, ho, Instr.field, Sem.run_bind, run_underlying hu, Result.andThen_ok, hfi', e, asAgg, Sem.run_pure, hfo, hft, hp]
    · cases hs
  | extract x i =>
    simp only [ho] at hs
    split at hs
    · rename_i l hx
      obtain ⟨d, hd, hs⟩ := putO_some hs
      obtain ⟨q, hq, rfl⟩ := Option.map_eq_some_iff.1 hd
      have hv := eval_opd h x
      rw [hx] at hv
      obtain ⟨vs, e, hl⟩ := hv
      have hlt : i < vs.length := by rw [← hl.1]; exact (List.getElem?_eq_some_iff.1 hq).1
      have hvi : vs[i]? = some vs[i] := List.getElem?_eq_getElem hlt
      exact val_wp h (d := .c q) (v := vs[i]) (by simp [execOp, ho, e, Instr.extract, hlt]) (hl.2 i q _ hq hvi) hs hK Q
    · cases hs
  | call cl =>
    obtain ⟨callee, args, ts⟩ := cl
    cases callee with
    | value f =>
      simp only [ho] at hs
      exact call_wp he h ho hs hK Q
    | invoke r mth => simp only [ho] at hs; cases hs
    | builtin bi =>
      have toArr : ∀ {α : Type} {x : Array α} {l : List α}, x.toList = l → x = l.toArray := fun {α x l} e => by rw [← e]
      cases bi with
      | len =>
        simp only [ho] at hs
        split at hs
        · rename_i x t hx ht
          have hx := toArr hx
          have ht := toArr ht
          subst hx ht
          split at hs
          · rename_i _ _ htb
            obtain ⟨_, d, _, ud, _, _, _, _, hb, _⟩ := he.tb _ _ htb
            simp only at hb
            subst hb
            split at hs
            · rename_i bb v hxd
              have hv := eval_opd h x
              rw [hxd] at hv
              obtain ⟨e, hsz⟩ := hv.str
              exact val_wp h (d := .c (.ty false (.int .i64) (v.size : Int))) (v := goInt v.size) (by simp [execOp, ho, resolve, invoke, builtin, Builtin.len_, run_underlying ud, e]) (RD.ofInt (inK_nat hsz) _) hs hK Q
            · cases hs
          · rename_i _ _ el hne htb
            obtain ⟨_, d, _, ud, _, _, _, _, _, hd⟩ := he.tb _ _ htb
            simp only at hd
            subst hd
            obtain ⟨d, hd, hs⟩ := putO_some hs
            obtain ⟨n, A, cap, e, hr⟩ := len_ok (eval_opd h x) hd
            exact val_wp h (by simp [execOp, ho, resolve, invoke, builtin, Builtin.len_, run_underlying ud, e]) hr hs hK Q
          · rename_i _ _ n el hne htb
            obtain ⟨_, d, _, ud, _, _, _, _, _, hd⟩ := he.tb _ _ htb
            simp only at hd
            subst hd
            cases hc : decide (n ≤ 1048576) with
            | false => simp only [hc, cond_false] at hs; cases hs
            | true =>
              simp only [hc, cond_true] at hs
              have hn := of_decide_eq_true hc
              exact val_wp h (d := .c (.ty false (.int .i64) (n : Int))) (v := goInt n) (by simp [execOp, ho, resolve, invoke, builtin, Builtin.len_, run_underlying ud]) (RD.ofInt (inK_nat (by unfold Mx; omega)) _) hs hK Q
          · cases hs
        · cases hs
      | append =>
        simp only [ho] at hs
        split at hs
        · rename_i x y t u hx ht
          have hx := toArr hx
          have ht := toArr ht
          subst hx ht
          cases hc : decide (t = u) with
          | false => simp only [hc, cond_false] at hs; cases hs
          | true =>
            simp only [hc, cond_true] at hs
            obtain rfl := of_decide_eq_true hc
            obtain ⟨⟨s1, d⟩, h1, h2⟩ := Br.bind_some hs
            obtain rfl := Option.some.inj h2
            obtain ⟨r, w', h3, h4⟩ := append_ok he.tb h _ (eval_opd h x) (eval_opd h y) h1 o.type o.dst
            exact wp_value (by simp only [execOp, ho, resolve, invoke, builtin, Sem.run_bind, Sem.run_pure, Result.andThen_ok, List.map_toArray, List.map_cons, List.map_nil, h3]) (hK _ _ h4)
        · cases hs
      | min =>
        simp only [ho] at hs
        split at hs
        · rename_i x r hx
          have hx := toArr hx
          subst hx
          split at hs
          · rename_i tt k n hxd
            obtain ⟨d, hd, hs⟩ := putO_some hs
            obtain ⟨l, hl, rfl⟩ := Option.map_eq_some_iff.1 hd
            have hv := eval_opd h x
            rw [hxd] at hv
            obtain ⟨e, hn⟩ := hv.int
            have := ints_ok (P := P) h hl n hn
            exact val_wp h (d := .c (.ty false (.int k) (minC l n))) (by simp only [execOp, ho, resolve, invoke, builtin, Builtin.min_, Sem.run_bind, Sem.run_pure, Result.andThen_ok, List.map_toArray, List.map_cons, e, this.1]) (RD.ofInt this.2.2.1 _) hs hK Q
          · cases hs
        · cases hs
      | max =>
        simp only [ho] at hs
        split at hs
        · rename_i x r hx
          have hx := toArr hx
          subst hx
          split at hs
          · rename_i tt k n hxd
            obtain ⟨d, hd, hs⟩ := putO_some hs
            obtain ⟨l, hl, rfl⟩ := Option.map_eq_some_iff.1 hd
            have hv := eval_opd h x
            rw [hxd] at hv
            obtain ⟨e, hn⟩ := hv.int
            have := ints_ok (P := P) h hl n hn
            exact val_wp h (d := .c (.ty false (.int k) (maxC l n))) (by simp only [execOp, ho, resolve, invoke, builtin, Builtin.max_, Sem.run_bind, Sem.run_pure, Result.andThen_ok, List.map_toArray, List.map_cons, e, this.2.1]) (RD.ofInt this.2.2.2 _) hs hK Q
          · cases hs
        · cases hs
      | _ => simp only [ho] at hs; cases hs
  | _ => simp only [ho] at hs; cases hs

end Go.PI
