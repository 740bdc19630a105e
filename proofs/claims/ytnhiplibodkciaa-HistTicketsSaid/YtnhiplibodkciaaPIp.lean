/- append. -/
import Derived.Test.YtnhiplibodkciaaPIo
namespace Go.PI
open Go.RowKit

variable {P : Program} {c : Ctx} {g : Cfg} {s st : St} {a : Act} {w : World} {μ : Nm} {I : Bool → Nat → Prop}

theorem Row.appendR {α : Type} {R : α → List Value → Prop} {z : Nat} {xs ys : List α} {c d : List Value} (h : Row R z xs c) (k : Row R z ys d) : Row R z (xs ++ ys) (c ++ d) := by
  induction xs generalizing c with
  | nil =>
    have := h.1
    simp only [List.length_nil, Nat.zero_mul] at this
    rw [List.eq_nil_of_length_eq_zero this]
    exact k
  | cons x xs ih =>
    obtain ⟨c1, r, rfl, h1, h2, h3⟩ := h.uncons
    rw [List.cons_append, List.append_assoc]
    exact Row.cons h1 h2 (ih h3)

/-- What is appended. -/
theorem src_ok {m : Mem} (hm : MRel g m w μ I) {τ : Ty} {y : D} {v : Value} (hy : RD μ I w (shp m) y v) {b : Bool} {ys : List τ.T} (h : sliceOf m τ y = some (b, ys)) :
    ∃ A cap, v = .slice A ys.length cap ∧ (ys = [] ∨ ∃ b' o cells, A = some ⟨b', o, none⟩ ∧ (∀ j u, cells[j]? = some u → w.cell? ⟨b', o + j, none⟩ = some u) ∧ Row (K (I b) w τ) τ.sz ys cells) := by
  unfold sliceOf at h
  split at h
  · obtain ⟨rfl, rfl⟩ := Prod.mk.inj (Option.some.inj h)
    exact ⟨none, 0, hy, .inl rfl⟩
  · rename_i bb σ xs
    split at h
    · rename_i hs
      subst hs
      obtain ⟨rfl, hxy⟩ := Prod.mk.inj (Option.some.inj h)
      have hxy : xs = ys := hxy
      subst hxy
      obtain ⟨A, cap, rfl, _, _, h2⟩ := K.sl_len (hy.2 rfl)
      refine ⟨A, cap, rfl, ?_⟩
      by_cases hne : xs = []
      · exact .inl hne
      · obtain ⟨ad, cells, rfl, hI, hc, hr⟩ := h2 hne
        obtain ⟨bb, o, sp⟩ := ad
        obtain rfl : sp = none := hc.1
        exact .inr ⟨bb, o, cells, rfl, hc.2, hr⟩
    · cases h
  · rename_i n
    split at h
    · rename_i tt e' σ xs hl
      split at h
      · rename_i hs
        subst hs
        obtain ⟨rfl, hxy⟩ := Prod.mk.inj (Option.some.inj h)
        have hxy : xs = ys := hxy
        subst hxy
        obtain ⟨len, z, A, cap, e1, rfl, h2, h3, h4⟩ := hy
        rw [shp_look hl] at e1
        obtain ⟨rfl, rfl⟩ := Prod.mk.inj (Option.some.inj e1)
        refine ⟨A, cap, rfl, ?_⟩
        rcases h4 with ⟨rfl, rfl⟩ | ⟨bb, q, len', z', e2, e3, rfl, rfl⟩
        · exact .inl (List.eq_nil_of_length_eq_zero (by omega))
        · rcases hm.mem _ _ hl with ⟨b', q', e4, cur, el, hheap, hq, _, cap', hcap, _, _, hrow⟩ | ⟨e4, _⟩
          · rw [e2] at e4
            obtain ⟨rfl, rfl⟩ := Prod.mk.inj (Option.some.inj e4)
            refine .inr ⟨bb, 0, cur.toList.take (xs.length * σ.sz), rfl, fun j u hu => ?_, hrow⟩
            rw [List.getElem?_take] at hu
            split at hu
            · rw [Nat.zero_add, cell_cur hheap]; exact hu
            · cases hu
          · rw [e2] at e4; cases e4
      · cases h
    · cases h
  · rename_i n sx l cp
    split at h
    · rename_i tt e' σ xs hl
      split at h
      · rename_i hs
        subst hs
        obtain ⟨rfl, hxy⟩ := Prod.mk.inj (Option.some.inj h)
        have hxy : (xs.drop sx).take l = ys := hxy
        subst hxy
        obtain ⟨A, cap, rfl, h2, h3, h4, ⟨len', z', e1, h5, h6⟩, h7⟩ := hy
        rw [shp_look hl] at e1
        obtain ⟨rfl, rfl⟩ := Prod.mk.inj (Option.some.inj e1)
        have hlen : ((xs.drop sx).take l).length = l := by rw [List.length_take, List.length_drop]; omega
        refine ⟨A, cap, by rw [hlen], ?_⟩
        rcases Nat.eq_zero_or_pos l with hl0 | hpos
        · exact .inl (List.eq_nil_of_length_eq_zero (by rw [hlen]; exact hl0))
        · obtain ⟨bb, q, e2, rfl⟩ := h6 hpos
          rcases hm.mem _ _ hl with ⟨b', q', e4, cur, el, hheap, hq, _, cap', hcap, _, _, hrow⟩ | ⟨e4, _⟩
          · rw [e2] at e4
            obtain ⟨rfl, rfl⟩ := Prod.mk.inj (Option.some.inj e4)
            refine .inr ⟨bb, sx * σ.sz, ((cur.toList.take (xs.length * σ.sz)).drop (sx * σ.sz)).take (l * σ.sz), rfl, fun j u hu => ?_, (hrow.dropR sx).takeR l (by rw [List.length_drop]; omega)⟩
            rw [List.getElem?_take] at hu
            split at hu
            · rw [List.getElem?_drop, List.getElem?_take] at hu
              split at hu
              · rw [cell_cur hheap]; exact hu
              · cases hu
            · cases hu
          · rw [e2] at e4; cases e4
      · cases h
    · cases h
  · cases h

theorem run_append_none {t ty e : Nat} {z : Nat} (ht : P.underlying t = some (.slice e)) (hz : (sizeOf e).run P w = .ok z w) (A : Option Addr) (n cap c' : Nat) (hn : n ≤ cap) :
    (Builtin.append_ #[t, t] ty #[.slice A n cap, .slice none 0 c']).run P w = .ok (.slice A n cap) w := by
  cases A <;> simp [Builtin.append_, run_underlying ht, hz, Builtin.lenOf, Builtin.firstCells, hn, storeCells]

def _root_.Go.PI.St.killO (n : Option Nat) (s : St) : St := match n with
  | some k => s.kill k
  | none => s

/-- Behind an append onto a row of one's own, or nil. -/
theorem append_fin (h : Rel g s a w μ I) (nm : Nat) (dst : Option Tmp) {n : Option Nat} {bt : Bool} {e : Nat} {τ : Ty} {zs : List τ.T} {u v' : Value} {w' : World} {cells : List Value}
    (hrow : Row (K (I bt) w τ) τ.sz zs cells) (hown : w'.ownsRow 0 e τ.sz v' zs.length cells) (hg : w.grownBy w' u.ownBlock) (hat : v'.ownBlock = u.ownBlock ∨ v'.ownBlock = some w.heap.size)
    (hu : ∀ b, u.ownBlock = some b → ∃ k q, n = some k ∧ look k s.m ≠ none ∧ μ k = some (b, q)) :
    Ok g (((s.killO n).lay nm (.ar bt e τ zs)).putd dst (.c (.mfull nm))) (a.put dst v') w' := by
  -- the state without the old name
  have hs0 : Rel g (s.killO n) a w μ I := by
    cases n with
    | none => exact h
    | some k => exact h.kill k
  have hlive : ∀ j, look j (s.killO n).m ≠ none → look j s.m ≠ none ∧ n ≠ some j := by
    intro j hj
    cases n with
    | none => exact ⟨hj, by simp⟩
    | some k =>
      simp only [St.killO, St.kill, look_map] at hj
      by_cases ejk : j = k
      · subst ejk; rw [look_delm_same] at hj; exact absurd rfl hj
      · rw [look_delm_other ejk] at hj
        exact ⟨fun e' => hj (by rw [e']; rfl), fun e' => ejk (Option.some.inj e').symm⟩
  generalize (s.killO n) = s0 at hs0 hlive
  have hne : ∀ j b q, look j s0.m ≠ none → μ j = some (b, q) → some b ≠ u.ownBlock := by
    intro j b q hj hμ e'
    obtain ⟨k, q', hn, hk, hμk⟩ := hu b e'.symm
    obtain ⟨h1, h2⟩ := hlive j hj
    exact h2 (by rw [hn, h.inj j k b q q' hμ hμk h1 hk])
  have hold : ∀ j b q, look j s0.m ≠ none → μ j = some (b, q) → w'.heap[b]? = w.heap[b]? := fun j b q hj hμ => hg.block b (hs0.toMRel.live_lt hj hμ) (hne j b q hj hμ)
  have hst : ∀ t, Stays (I t) w w' := fun t b hb => by
    have hb' : I true b := by cases t; exact h.isub b hb; exact hb
    refine hg.block b (h.ilt b hb') (fun e' => ?_)
    obtain ⟨k, q', hn, hk, hμk⟩ := hu b e'.symm
    exact h.sep k b q' hk hμk hb'
  have hkeep : ∀ b, b < g.w0.heap.size → ¬ g.L0 b → w'.heap[b]? = w.heap[b]? := fun b hlt hL => by
    refine hg.block b (Nat.lt_of_lt_of_le hlt h.size) (fun e' => ?_)
    obtain ⟨k, q', hn, hk, hμk⟩ := hu b e'.symm
    rcases h.live k b q' hk hμk with hh | hh
    · exact hL hh
    · omega
  rcases hown.2 with ⟨rfl, h0⟩ | ⟨gb, cap, cur, rfl, _, hheap, hnc, hcm, hcs, htake⟩
  · have hz0 : zs = [] := List.eq_nil_of_length_eq_zero h0
    subst hz0
    obtain ⟨μ', r1, r2, r3⟩ := hs0.lay2 nm (.ar bt e τ []) w' hg.os hg.tape hg.output hg.size (fun k b q _ hk hμ => hold k b q hk hμ) hst hkeep none (fun _ => ⟨bt, e, τ, rfl⟩) (fun b q e' => by cases e')
    refine ⟨μ', I, r1.putd ?_⟩
    exact ⟨0, τ.sz, none, 0, r3, rfl, Nat.le_refl _, by simp, .inl ⟨rfl, rfl⟩⟩
  · have hgcase : u.ownBlock = some gb ∨ gb = w.heap.size := by
      rcases hat with hat | hat
      · exact .inl (by rw [← hat]; rfl)
      · exact .inr (by simpa [Value.ownBlock] using hat)
    obtain ⟨μ', r1, r2, r3⟩ := hs0.lay2 nm (.ar bt e τ zs) w' hg.os hg.tape hg.output hg.size (fun k b q _ hk hμ => hold k b q hk hμ) hst hkeep (some (gb, cur.size)) (fun e' => by cases e') (fun b q e' => by
      obtain ⟨rfl, rfl⟩ := Prod.mk.inj (Option.some.inj e')
      have hbr : ∀ μ' sh', μ' nm = some (gb, cur.size) → sh' nm = some (MB.ar bt e τ zs).shape → BR μ' I w' sh' (.ar bt e τ zs) gb cur.size := fun μ' sh' _ _ =>
        br_ar hheap cap hcs hnc hcm (by rw [htake]; exact hrow.imp fun _ _ k => k.mono (fun _ k => k) (hst bt))
      rcases hgcase with hgc | rfl
      · obtain ⟨k, q', hn, hk, hμk⟩ := hu gb hgc
        exact ⟨fun j q' _ hj hμ => hne j gb q' hj hμ hgc.symm, h.sep k gb q' hk hμk, h.live k gb q' hk hμk, hbr⟩
      · exact ⟨fun j q' _ hj hμ => by have := hs0.toMRel.live_lt hj hμ; omega, fun hi => by have := h.ilt _ hi; omega, .inr h.size, hbr⟩)
    refine ⟨μ', I, r1.putd ?_⟩
    exact ⟨zs.length, τ.sz, _, cap, r3, rfl, hnc, hcm, .inr ⟨_, _, _, _, r2, r3, rfl, hcs⟩⟩

theorem append_own (h : Rel g s a w μ I) {t ty e : Nat} {τ : Ty} {by_ : Nat} (ht : TOk P t ⟨.sl τ, by_, .sl e⟩) {ti : TI} (hte : TOk P e ti) (hτ : ti.ty = τ) (hz : 0 < τ.sz) (nm : Nat) (dst : Option Tmp) {n : Option Nat} {b1 b : Bool} {xs ys : List τ.T} {u v : Value} {cells : List Value}
    (hrow : Row (K (I b1) w τ) τ.sz xs cells) (hown : w.ownsRow 0 e τ.sz u xs.length cells) (hu : ∀ b, u.ownBlock = some b → ∃ k q, n = some k ∧ look k s.m ≠ none ∧ μ k = some (b, q))
    {A : Option Addr} {cap : Nat} (hv : v = .slice A ys.length cap) (hy : ys = [] ∨ ∃ b' o cells, A = some ⟨b', o, none⟩ ∧ (∀ j u, cells[j]? = some u → w.cell? ⟨b', o + j, none⟩ = some u) ∧ Row (K (I b) w τ) τ.sz ys cells)
    (hb : bound (xs.length + ys.length) ti.bytes = true) (h63 : xs.length + ys.length ≤ Mx) :
    ∃ r w', (Builtin.append_ #[t, t] ty #[u, v]).run P w = .ok r w' ∧ Ok g (((s.killO n).lay nm (.ar (b1 || b) e τ (xs ++ ys))).putd dst (.c (.mfull nm))) (a.put dst r) w' := by
  subst hτ
  have hte' := hte
  obtain ⟨info, d, _, hu', _, _, _, _, _, hd⟩ := ht
  simp only at hd
  subst hd
  obtain ⟨info', d', i1, i2, i3, i4, i5, _⟩ := hte
  have om := or_mono h.isub b1 b
  have hbb : (xs.length + ys.length) * ti.bytes ≤ 140737488355328 := of_decide_eq_true hb
  -- nothing that lies anywhere is appended
  have none_case : ys = [] → A = none → ∃ r w', (Builtin.append_ #[t, t] ty #[u, v]).run P w = .ok r w' ∧ Ok g (((s.killO n).lay nm (.ar (b1 || b) e ti.ty (xs ++ ys))).putd dst (.c (.mfull nm))) (a.put dst r) w' := by
    intro hys hA
    subst hys hA hv
    have hform : ∃ A' cap', u = .slice A' xs.length cap' ∧ xs.length ≤ cap' := by
      rcases hown.2 with ⟨rfl, h0⟩ | ⟨gb, cap', cur, rfl, _, _, hnc, _⟩
      · exact ⟨none, 0, by rw [h0], by omega⟩
      · exact ⟨_, _, rfl, hnc⟩
    obtain ⟨A', cap', rfl, hle⟩ := hform
    refine ⟨_, _, run_append_none hu' (run_sizeOf' hte' w) A' _ cap' cap hle, ?_⟩
    rw [List.append_nil]
    exact append_fin h nm dst (hrow.imp fun _ _ k => k.up om.1) hown ⟨rfl, rfl, rfl, Nat.le_refl _, fun _ _ _ => rfl⟩ (.inl rfl) hu
  -- something, or a place
  have some_case : ∀ ad news, A = some ad → news.length = ys.length * ti.ty.sz → (∀ j u, news[j]? = some u → w.cell? (ad.add j) = some u) → Row (K (I b) w ti.ty) ti.ty.sz ys news → ∃ r w', (Builtin.append_ #[t, t] ty #[u, v]).run P w = .ok r w' ∧ Ok g (((s.killO n).lay nm (.ar (b1 || b) e ti.ty (xs ++ ys))).putd dst (.c (.mfull nm))) (a.put dst r) w' := by
    intro ad news hA hl hc hr
    subst hA hv
    have h1 : ∀ u ∈ news, u.oneCell' = true := by
      intro u hu
      have hk : K (I b) w (.arr ys.length ti.ty) ys news := ⟨rfl, hr⟩
      exact hk.one u hu
    obtain ⟨v', w', hrun, h2, h3, h4, h5⟩ := run_append_own_at (P := P) w 0 t ty e info' _ ti.ty.sz ti.bytes hu' i1 i5 i3 i4 (by rw [zero_arr]; simp [zeroV_len]) hz u xs.length cells hown ad ys.length cap news hl hc h1 (by unfold Mx at h63; unfold maxLen; omega) hbb (Nat.zero_le _)
    refine ⟨v', w', hrun, ?_⟩
    exact append_fin h nm dst ((hrow.imp fun _ _ k => k.up om.1).appendR (hr.imp fun _ _ k => k.up om.2)) (by rw [List.length_append]; exact h2) h3 h5 hu
  rcases hy with hy | ⟨b', o, news, hA, hc, hr⟩
  · cases A with
    | none => exact none_case hy rfl
    | some ad => exact some_case ad [] rfl (by rw [hy]; simp) (fun j u hu => by simp at hu) (by rw [hy]; exact Row.nil _ _)
  · exact some_case _ news hA hr.1 (fun j u hu => by rw [Addr.add_lit]; exact hc j u hu) hr

theorem src_len {m : Mem} (hm : MRel g m w μ I) {τ : Ty} {y : D} {v : Value} (hy : RD μ I w (shp m) y v) {b : Bool} {ys : List τ.T} (h : sliceOf m τ y = some (b, ys)) : ys.length ≤ Mx := by
  unfold sliceOf at h
  split at h
  · obtain ⟨rfl, rfl⟩ := Prod.mk.inj (Option.some.inj h)
    simp
  · rename_i bb σ xs
    split at h
    · rename_i hs
      subst hs
      obtain ⟨rfl, hxy⟩ := Prod.mk.inj (Option.some.inj h)
      have hxy : xs = ys := hxy
      subst hxy
      obtain ⟨A, cap, rfl, h1, h2, _⟩ := K.sl_len (hy.2 rfl)
      exact Nat.le_trans h1 h2
    · cases h
  · rename_i n
    split at h
    · rename_i tt e' σ xs hl
      split at h
      · rename_i hs
        subst hs
        obtain ⟨rfl, hxy⟩ := Prod.mk.inj (Option.some.inj h)
        have hxy : xs = ys := hxy
        subst hxy
        obtain ⟨len, z, A, cap, e1, rfl, h2, h3, h4⟩ := hy
        rw [shp_look hl] at e1
        obtain ⟨rfl, rfl⟩ := Prod.mk.inj (Option.some.inj e1)
        exact Nat.le_trans h2 h3
      · cases h
    · cases h
  · rename_i n sx l cp
    split at h
    · rename_i tt e' σ xs hl
      split at h
      · rename_i hs
        subst hs
        obtain ⟨rfl, hxy⟩ := Prod.mk.inj (Option.some.inj h)
        have hxy : (xs.drop sx).take l = ys := hxy
        subst hxy
        obtain ⟨A, cap, rfl, h2, h3, _⟩ := hy
        have : ((xs.drop sx).take l).length ≤ l := by rw [List.length_take]; omega
        omega
      · cases h
    · cases h
  · cases h

theorem head_ok {m : Mem} (hm : MRel g m w μ I) {τ : Ty} {x : D} {u : Value} (hx : RD μ I w (shp m) x u) {n : Nat} (hh : headOf x = some (.own n)) {b1 : Bool} {xs : List τ.T} (hs : sliceOf m τ x = some (b1, xs)) {bt : Bool} {e : Nat} {σ : Ty} {xs' : List σ.T} (hl : look n m = some (.ar bt e σ xs')) :
    ∃ cells, Row (K (I b1) w τ) τ.sz xs cells ∧ w.ownsRow 0 e τ.sz u xs.length cells ∧ ∀ b, u.ownBlock = some b → ∃ q, μ n = some (b, q) := by
  unfold headOf at hh
  split at hh
  · cases hh
  · injection hh with hh
    injection hh with hh
    subst hh
    simp only [sliceOf, hl] at hs
    split at hs
    · rename_i hst
      subst hst
      obtain ⟨rfl, hxy⟩ := Prod.mk.inj (Option.some.inj hs)
      have hxy : xs' = xs := hxy
      subst hxy
      obtain ⟨len, z, A, cap, e1, rfl, h2, h3, h4⟩ := hx
      rw [shp_look hl] at e1
      obtain ⟨rfl, rfl⟩ := Prod.mk.inj (Option.some.inj e1)
      rcases h4 with ⟨rfl, rfl⟩ | ⟨bb, q, len', z', e2, e3, rfl, rfl⟩
      · have h0 : xs'.length = 0 := by omega
        obtain rfl := List.eq_nil_of_length_eq_zero h0
        exact ⟨[], Row.nil _ _, World.ownsRow_nil w 0 e σ.sz, fun b hb => by simp [Value.ownBlock] at hb⟩
      · rw [shp_look hl] at e3
        obtain ⟨rfl, rfl⟩ := Prod.mk.inj (Option.some.inj e3)
        rcases hm.mem _ _ hl with ⟨b', q', e4, cur, el, hheap, hq, hel, cap', hcap, _, hcm, hrow⟩ | ⟨e4, _⟩
        · rw [e2] at e4
          obtain ⟨rfl, rfl⟩ := Prod.mk.inj (Option.some.inj e4)
          subst hel
          exact ⟨_, hrow, ⟨hrow.1, .inr ⟨bb, cap, cur, rfl, Nat.zero_le _, hheap, h2, h3, hq, rfl⟩⟩, fun b hb => by obtain rfl : bb = b := by simpa [Value.ownBlock] using hb
                                                                                                                    exact ⟨_, e2⟩⟩
        · rw [e2] at e4; cases e4
    · cases hs
  · rename_i n' l
    injection hh with hh
    injection hh with hh
    subst hh
    simp only [sliceOf, hl] at hs
    split at hs
    · rename_i hst
      subst hst
      obtain ⟨rfl, hxy⟩ := Prod.mk.inj (Option.some.inj hs)
      have hxy : (xs'.drop 0).take l = xs := hxy
      rw [List.drop_zero] at hxy
      subst hxy
      obtain ⟨A, cap, rfl, h2, h3, _, ⟨len', z', e1, h5, h6⟩, h7⟩ := hx
      rw [shp_look hl] at e1
      obtain ⟨rfl, rfl⟩ := Prod.mk.inj (Option.some.inj e1)
      have hll : (xs'.take l).length = l := by rw [List.length_take]; omega
      rcases h7 rfl rfl with ⟨rfl, rfl⟩ | ⟨bb, q, len', z', e2, e3, rfl, rfl⟩
      · obtain rfl : l = 0 := by omega
        rw [List.take_zero]
        exact ⟨[], Row.nil _ _, World.ownsRow_nil w 0 e σ.sz, fun b hb => by simp [Value.ownBlock] at hb⟩
      · rw [shp_look hl] at e3
        obtain ⟨rfl, rfl⟩ := Prod.mk.inj (Option.some.inj e3)
        rcases hm.mem _ _ hl with ⟨b', q', e4, cur, el, hheap, hq, hel, cap', hcap, _, hcm, hrow⟩ | ⟨e4, _⟩
        · rw [e2] at e4
          obtain ⟨rfl, rfl⟩ := Prod.mk.inj (Option.some.inj e4)
          subst hel
          have hr2 := hrow.takeR l (by omega)
          have hle : l * σ.sz ≤ xs'.length * σ.sz := Nat.mul_le_mul_right _ (by omega)
          rw [List.take_take, Nat.min_eq_left hle] at hr2
          refine ⟨_, hr2, ⟨hr2.1, .inr ⟨bb, cap, cur, by rw [hll], Nat.zero_le _, hheap, by omega, h3, hq, by rw [hll]⟩⟩, fun b hb => by obtain rfl : bb = b := by simpa [Value.ownBlock] using hb
                                                                                                                                         exact ⟨_, e2⟩⟩
        · rw [e2] at e4; cases e4
    · cases hs
  · cases hh
  · cases hh

theorem cap_ok (h : Rel g s a w μ I) {t ty e : Nat} {τ : Ty} {by_ : Nat} (ht : TOk P t ⟨.sl τ, by_, .sl e⟩) {ti : TI} (hte : TOk P e ti) (hτ : ti.ty = τ) (hz : 0 < τ.sz) (nm : Nat) (dst : Option Tmp) {b1 b : Bool} {xs ys : List τ.T} {u v : Value} {A0 : Option Addr}
    (hu : u = .slice A0 xs.length xs.length) (hx : (xs = [] ∧ (A0 = none ∨ ∃ ad, A0 = some ad)) ∨ ∃ b' o cells, A0 = some ⟨b', o, none⟩ ∧ (∀ j u, cells[j]? = some u → w.cell? ⟨b', o + j, none⟩ = some u) ∧ Row (K (I b1) w τ) τ.sz xs cells)
    {A : Option Addr} {cap : Nat} (hv : v = .slice A ys.length cap) (hy : ys = [] ∨ ∃ b' o cells, A = some ⟨b', o, none⟩ ∧ (∀ j u, cells[j]? = some u → w.cell? ⟨b', o + j, none⟩ = some u) ∧ Row (K (I b) w τ) τ.sz ys cells)
    (hb : bound (xs.length + ys.length) ti.bytes = true) (h63 : xs.length + ys.length ≤ Mx) (hy0 : 0 < ys.length) :
    ∃ r w', (Builtin.append_ #[t, t] ty #[u, v]).run P w = .ok r w' ∧ Ok g ((s.lay nm (.ar (b1 || b) e τ (xs ++ ys))).putd dst (.c (.mfull nm))) (a.put dst r) w' := by
  subst hτ hu hv
  obtain ⟨info, d, _, hu', _, _, _, _, _, hd⟩ := ht
  simp only at hd
  subst hd
  obtain ⟨info', d', i1, i2, i3, i4, i5, _⟩ := hte
  have om := or_mono h.isub b1 b
  have hbb : (xs.length + ys.length) * ti.bytes ≤ 140737488355328 := of_decide_eq_true hb
  rcases hy with hy | ⟨by', oy, news, rfl, hcy, hry⟩
  · subst hy; simp at hy0
  have hzs : (valOf ti.ty (zeroV ti.ty)).cells.size = ti.ty.sz := by rw [zero_arr]; simp [zeroV_len]
  have main : ∀ (olds : List Value) (old : Nat), Row (K (I b1) w ti.ty) ti.ty.sz xs olds → old < xs.length + ys.length →
      (Builtin.append_ #[t, t] ty #[.slice A0 xs.length xs.length, .slice (some ⟨by', oy, none⟩) ys.length cap]).run P w = .ok (.slice (some ⟨w.heap.size, 0, none⟩) (xs.length + ys.length) (grownCap w (xs.length + ys.length) old e))
        (w.drew.alloc (.cells (olds.toArray ++ news.toArray ++ Builtin.zeroCells (valOf ti.ty (zeroV ti.ty)).cells (grownCap w (xs.length + ys.length) old e - (xs.length + ys.length))) e)) →
      ∃ r w', (Builtin.append_ #[t, t] ty #[.slice A0 xs.length xs.length, .slice (some ⟨by', oy, none⟩) ys.length cap]).run P w = .ok r w' ∧ Ok g ((s.lay nm (.ar (b1 || b) e ti.ty (xs ++ ys))).putd dst (.c (.mfull nm))) (a.put dst r) w' := by
    intro olds old hro hlt hrun
    refine ⟨_, _, hrun, ?_⟩
    have hge := grownCap_ge w (xs.length + ys.length) old e
    have hcm := grownCap_le_maxLen w (xs.length + ys.length) old e (by unfold maxLen; unfold Mx at h63; omega)
    have hrow := (hro.imp fun _ _ k => k.up om.1).appendR (hry.imp fun _ _ k => k.up om.2)
    have hlen : (olds ++ news).length = (xs.length + ys.length) * ti.ty.sz := by rw [hrow.1, List.length_append]
    have := lay_new h nm dst (b := b1 || b) (e := e) (xs := xs ++ ys) (w' := w.drew.alloc (.cells (olds.toArray ++ news.toArray ++ Builtin.zeroCells (valOf ti.ty (zeroV ti.ty)).cells (grownCap w (xs.length + ys.length) old e - (xs.length + ys.length))) e)) (cap := grownCap w (xs.length + ys.length) old e) rfl rfl rfl
      (fun k hk => heap_alloc_old w.drew _ k hk) (heap_alloc_new w.drew _) (by
        simp only [Array.size_append, List.size_toArray, size_zeroCells, hzs]
        rw [List.length_append] at hlen
        rw [hlen, ← Nat.add_mul]
        congr 1
        omega) (by rw [List.length_append]; exact hge) hcm (by
        rw [List.length_append, ← hlen]
        simp only [Array.toList_append, List.append_assoc]
        rw [← List.append_assoc, List.take_left]
        exact hrow)
    rw [List.length_append] at this
    exact this
  rcases hx with ⟨hxe, hA0⟩ | ⟨bx, ox, olds, rfl, hcx, hrx⟩
  · subst hxe
    rcases hA0 with rfl | ⟨ad, rfl⟩
    · refine main [] 0 (Row.nil _ _) (by simpa using hy0) ?_
      have := run_append_nil (P := P) w t ty e info' _ hu' i1 i5 ⟨by', oy, none⟩ ys.length cap news (by rw [i3]; exact hry.1) (fun j u hu => by rw [Addr.add_lit]; exact hcy j u hu) hy0 (by unfold Mx at h63; simp at h63; omega) (by rw [i4]; simp at hbb; omega)
      simpa using this
    · refine main [] 0 (Row.nil _ _) (by simpa using hy0) ?_
      have := run_append_grow (P := P) w t ty e info' _ hu' i1 i5 ad 0 0 [] (by simp) (fun j u hu => by simp at hu) ⟨by', oy, none⟩ ys.length cap news (by rw [i3]; exact hry.1) (fun j u hu => by rw [Addr.add_lit]; exact hcy j u hu) (by simpa using hy0) (by unfold Mx at h63; simp at h63; omega) (growslice_fits (by simpa using hy0) (by rw [i4]; simpa using hbb))
      simpa using this
  · refine main olds xs.length hrx (by omega) ?_
    exact run_append_grow (P := P) w t ty e info' _ hu' i1 i5 ⟨bx, ox, none⟩ xs.length xs.length olds (by rw [i3]; exact hrx.1) (fun j u hu => by rw [Addr.add_lit]; exact hcx j u hu) ⟨by', oy, none⟩ ys.length cap news (by rw [i3]; exact hry.1) (fun j u hu => by rw [Addr.add_lit]; exact hcy j u hu) (by omega) (by unfold Mx at h63; omega) (growslice_fits (by omega) (by rw [i4]; exact hbb))

theorem append_ok (htb : TbOk P c.tb) (h : Rel g s a w μ I) {t : Nat} (nm : Nat) {x y : D} {u v : Value} (hx : RD μ I w (shp s.m) x u) (hy : RD μ I w (shp s.m) y v) {s' : St} {d : D} (hd : (appendD c nm s t x y).run = some (s', d)) (ty : Nat) (dst : Option Tmp) :
    ∃ r w', (Builtin.append_ #[t, t] ty #[u, v]).run P w = .ok r w' ∧ Ok g (s'.putd dst d) (a.put dst r) w' := by
  unfold appendD at hd
  split at hd
  case h_2 => cases hd
  rename_i τ by_ e ht
  split at hd
  case h_2 => cases hd
  rename_i ti hte
  cases hq : (decide (ti.ty = τ) && decide (0 < τ.sz) && decide (0 < ti.bytes)) with
  | false => simp only [hq, cond_false] at hd; cases hd
  | true =>
    simp only [hq, cond_true] at hd
    simp only [Bool.and_eq_true, decide_eq_true_eq] at hq
    obtain ⟨⟨hτ, hz⟩, hby⟩ := hq
    have hT := htb _ _ ht
    have hE := htb _ _ hte
    have hMx : ∀ n, bound n ti.bytes = true → n ≤ Mx := by
      intro n hb
      have hb : n * ti.bytes ≤ 140737488355328 := of_decide_eq_true hb
      have : n * 1 ≤ n * ti.bytes := Nat.mul_le_mul_left _ hby
      unfold Mx
      omega
    split at hd
    · rename_i q b ys hh hsx hsy
      obtain ⟨hb, hd⟩ := cond_yes hd
      obtain ⟨rfl, rfl⟩ := Prod.mk.inj (Option.some.inj hd)
      obtain rfl : u = .slice none 0 0 := by
        unfold headOf at hh
        split at hh <;> first | (cases hh; done) | exact hx
      obtain ⟨A, cap, hv, hys⟩ := src_ok h.toMRel hy hsy
      have := append_own h (ty := ty) hT hE hτ hz nm dst (n := none) (b1 := false) (b := b) (xs := []) (ys := ys) (u := .slice none 0 0) (cells := []) (Row.nil _ _) (World.ownsRow_nil w 0 e τ.sz) (fun b hb => by simp [Value.ownBlock] at hb) hv hys (by simpa using hb) (by simpa using hMx _ hb)
      simpa [St.killO] using this
    · rename_i n b1 xs b ys hh hsx hsy
      split at hd
      case h_2 => cases hd
      rename_i bt e' σ xs' hl
      cases he : decide (e' = e) with
      | false => simp only [he, cond_false] at hd; cases hd
      | true =>
        simp only [he, cond_true] at hd
        obtain rfl := of_decide_eq_true he
        obtain ⟨hb, hd⟩ := cond_yes hd
        obtain ⟨rfl, rfl⟩ := Prod.mk.inj (Option.some.inj hd)
        obtain ⟨A, cap, hv, hys⟩ := src_ok h.toMRel hy hsy
        obtain ⟨cells, hrow, hown, hu⟩ := head_ok h.toMRel hx hh hsx hl
        exact append_own h (ty := ty) hT hE hτ hz nm dst (n := some n) hrow hown (fun b hb => by obtain ⟨q, e1⟩ := hu b hb; exact ⟨n, q, rfl, by rw [hl]; simp, e1⟩) hv hys hb (hMx _ hb)
    · rename_i b1 xs b ys hh hsx hsy
      obtain ⟨hb, hd⟩ := cond_yes hd
      obtain ⟨rfl, rfl⟩ := Prod.mk.inj (Option.some.inj hd)
      rw [Bool.and_eq_true, decide_eq_true_eq] at hb
      obtain ⟨A, cap, hv, hys⟩ := src_ok h.toMRel hy hsy
      obtain ⟨A0, cap0, hu, hxs⟩ := src_ok h.toMRel hx hsx
      have hcap : cap0 = xs.length := by
        unfold headOf at hh
        split at hh <;> first | (cases hh; done) | skip
        obtain ⟨A1, cap1, e1, _, _, e2, _⟩ := hx
        rw [hu] at e1
        injection e1 with _ e3 e4
        rw [e4, e3]
        exact e2 rfl
      subst hcap
      refine cap_ok h (ty := ty) hT hE hτ hz nm dst hu ?_ hv hys hb.1 (hMx _ hb.1) hb.2
      rcases hxs with hxs | r
      · refine .inl ⟨hxs, ?_⟩
        cases A0 with
        | none => exact .inl rfl
        | some ad => exact .inr ⟨ad, rfl⟩
      · exact .inr r
    · cases hd

end Go.PI
