/- A name for a row that an append, a make or a literal has left. append. The interpreter is right: an operation, a region, code; calls by what they are said to come to. Each operation does what the interpreter says. How a state is told at a loop's head is right. -/
import Derived.Test.YtkbdofnbagmlfaaGreatGa
namespace Go.PI
open Go.RowKit
variable {P : Program} {c : Ctx} {g : Cfg} {s st : St} {a : Act} {w : World} {μ : Nm} {I : Bool -> Nat -> Prop}
theorem Rel.lay2 [DR] (h : Rel g s a w μ I) (nm : Nat) (mb : MB) (w' : World) (hos : w'.os = w.os) (htape : TP w w') (hout : w'.output = w.output) (hsize : w.heap.size <= w'.heap.size)
  (hold : ∀ k b q, k ≠ nm -> look k s.m ≠ none -> μ k = some (b, q) -> w'.heap[b]? = w.heap[b]?) (hst : ∀ t, Za3 (I t) w w') (hkeep : ∀ b, b < g.w0.heap.size -> ¬ g.L0 b -> w'.heap[b]? = w.heap[b]?)
  (p : Option (Nat × Nat)) (hnone : p = none -> ∃ t e τ, mb = .ar t e τ [])
  (hp : ∀ b q, p = some (b, q) -> (∀ k q', k ≠ nm -> look k s.m ≠ none -> μ k ≠ some (b, q')) /\ ¬ I true b /\ (g.L0 b \/ g.w0.heap.size <= b) /\
   ∀ μ' sh', μ' nm = p -> sh' nm = some mb.shape -> BR μ' I w' sh' mb b q) :
  ∃ μ', Rel g (s.lay nm mb) a w' μ' I /\ μ' nm = p /\ shp (s.lay nm mb).m nm = some mb.shape := by
 have hk := h.kill nm
 let μ' : Nm := fun k => if k = nm then p else μ k
 have e1 : μ' nm = p := if_pos rfl
 have e2 : ∀ k, k ≠ nm -> μ' k = μ k := fun k hne => if_neg hne
 have s1 : shp (s.lay nm mb).m nm = some mb.shape := by
  show (look nm ((nm, mb) :: _)).map _ = _
  simp [look, Zay]
 have s2 : ∀ k, k ≠ nm -> shp (s.lay nm mb).m k = shp (s.kill nm).m k := by
  intro k hne
  show (look k ((nm, mb) :: _)).map _ = _
  simp [look, Za4 (Ne.symm hne)]; rfl
 have s4 : shp (s.kill nm).m nm = none := by
  show (look nm _).map _ = _
  simp only [St.kill, Zaz, Zap]; rfl
 have hRC : ∀ c v, RC μ I w (shp (s.kill nm).m) c v -> RC μ' I w' (shp (s.lay nm mb).m) c v := by
  intro c v hc
  cases hh : c.has nm with
  | true =>
   cases c with
   | ref n i o => simp only [C.has] at hh; obtain rfl := Nat.eq_of_beq_eq_true hh; obtain ⟨_, _, _, _, _, k, _⟩ := hc; rw [s4] at k; cases k
   | mfull n => simp only [C.has] at hh; obtain rfl := Nat.eq_of_beq_eq_true hh; obtain ⟨_, _, _, _, k, _⟩ := hc; rw [s4] at k; cases k
   | msl n s l cp => simp only [C.has] at hh; obtain rfl := Nat.eq_of_beq_eq_true hh; obtain ⟨_, _, _, _, _, _, ⟨_, _, k, _⟩, _⟩ := hc; rw [s4] at k; cases k
   | _ => simp [C.has] at hh
  | false => exact hc.same (fun _ _ k => k) hst (fun k hk => ⟨e2 k (ZcD hk hh), s2 k (ZcD hk hh)⟩)
 have hlook : ∀ k, k ≠ nm -> look k (s.lay nm mb).m = look k (s.kill nm).m := by
  intro k hne
  show look k ((nm, mb) :: _) = _
  simp [look, Za4 (Ne.symm hne)]
 have holdk : ∀ k, k ≠ nm -> look k (s.lay nm mb).m ≠ none -> look k s.m ≠ none := by
  intro k hne hl
  rw [hlook k hne] at hl
  simp only [St.kill, Zaz, Zaj hne] at hl
  exact fun e' => hl (by rw [e']; rfl)
 refine ⟨μ', ?_, e1, s1⟩
 have hkept : ∀ k, look k g.m0 ≠ none -> k ∉ (s.lay nm mb).k -> μ' k = g.μ0 k /\ shp (s.lay nm mb).m k = shp g.m0 k := fun k hm hn => by
  have hne : k ≠ nm := fun e => hn (by subst e; exact List.mem_cons_self)
  obtain ⟨k1, k2⟩ := hk.kept k hm hn
  exact ⟨(e2 k hne).trans k1, (s2 k hne).trans k2⟩
 refine { mem := ?_, inj := ?_, sep := ?_, isub := h.isub, ilt := ?_, i0 := h.i0, inew := h.inew, live := ?_, os := hos.trans h.os, tape := htape.trans h.tape, output := hout.trans h.output, size := Nat.le_trans h.size hsize, keep := ?_, tm := ?_, len := hk.len, dfr := h.dfr, kept := hkept }
 ·intro k mb' hl
  by_cases hne : k = nm
  ·subst hne
   have : look k (s.lay k mb).m = some mb := by show look k ((k, mb) :: _) = _; simp [look, Zay]
   rw [this] at hl
   obtain rfl := Option.some.inj hl
   cases hpp : p with
   | none => exact .inr ⟨e1.trans hpp, hnone hpp⟩
   | some bq =>
    obtain ⟨b, q⟩ := bq
    exact .inl ⟨b, q, e1.trans hpp, (hp b q hpp).2.2.2 μ' _ e1 s1⟩
  ·rw [hlook k hne] at hl
   rcases hk.mem k mb' hl with ⟨b, q, eq, hbr⟩ | ⟨eq, r⟩
   ·refine .inl ⟨b, q, (e2 k hne).trans eq, ?_⟩
    have hl0 : look k s.m ≠ none := holdk k hne (by rw [hlook k hne, hl]; simp)
    have := hbr.map (φ := id) (μ' := μ') (I' := I) (w' := w') (sh' := shp (s.lay nm mb).m) hRC (fun _ _ k => k) hst (hold k b q hne hl0 eq)
    have eid : mb'.mapC id = mb' := by cases mb' <;> simp [MB.mapC]
    rwa [eid] at this
   ·exact .inr ⟨(e2 k hne).trans eq, r⟩
 ·intro n1 n2 b q q' h1 h2 l1 l2
  by_cases a1 : n1 = nm
  ·by_cases a2 : n2 = nm
   ·rw [a1, a2]
   ·subst a1
    rw [e1] at h1
    rw [e2 n2 a2] at h2
    exact absurd h2 ((hp b q h1).1 n2 q' a2 (holdk n2 a2 l2))
  ·by_cases a2 : n2 = nm
   ·subst a2
    rw [e1] at h2
    rw [e2 n1 a1] at h1
    exact absurd h1 ((hp b q' h2).1 n1 q a1 (holdk n1 a1 l1))
   ·rw [e2 n1 a1] at h1
    rw [e2 n2 a2] at h2
    exact h.inj n1 n2 b q q' h1 h2 (holdk n1 a1 l1) (holdk n2 a2 l2)
 ·intro n1 b q l1 h1 hi
  by_cases a1 : n1 = nm
  ·subst a1
   rw [e1] at h1
   exact (hp b q h1).2.1 hi
  ·rw [e2 n1 a1] at h1
   exact h.sep n1 b q (holdk n1 a1 l1) h1 hi
 ·exact fun b hb => Nat.lt_of_lt_of_le (h.ilt b hb) hsize
 ·intro n1 b q l1 h1
  by_cases a1 : n1 = nm
  ·subst a1
   rw [e1] at h1
   exact (hp b q h1).2.2.1
  ·rw [e2 n1 a1] at h1
   exact h.live n1 b q (holdk n1 a1 l1) h1
 ·exact fun b hlt hL => (hkeep b hlt hL).trans (h.keep b hlt hL)
 ·exact fun i => (hk.tm i).imp hRC
theorem ZlK [DR] (h : Rel g s a w μ I) (nm : Nat) (dst : Option Tmp) {b : Bool} {e : Nat} {τ : Ty} {xs : List τ.T} {w' : World} {cur : Array Value} {cap : Nat} (hos : w'.os = w.os) (htape : TP w w') (hout : w'.output = w.output)
  (hold : ∀ k, k < w.heap.size -> w'.heap[k]? = w.heap[k]?) (hnew : w'.heap[w.heap.size]? = some (.cells cur e (0, 0))) (hq : cur.size = cap * τ.sz) (hl : xs.length <= cap) (hc : cap <= Mx) (hr : Row (K (I b) w τ) τ.sz xs (cur.toList.take (xs.length * τ.sz))) :
  Ok g ((s.lay nm (.ar b e τ xs)).putd dst (.c (.mfull nm))) (a.put dst (.slice (some ⟨w.heap.size, 0, none⟩) xs.length cap)) w' := by
 have hsz : w.heap.size < w'.heap.size := (Array.getElem?_eq_some_iff.1 hnew).1
 have hst : ∀ t, Za3 (I t) w w' := fun t b hb => hold b (by cases t; exact h.ilt b (h.isub b hb); exact h.ilt b hb)
 obtain ⟨μ', h1, h2, h3⟩ := h.lay2 nm (.ar b e τ xs) w' hos htape hout (by omega) (fun k b q _ hk hμ => hold b (h.toMRel.live_lt hk hμ)) hst (fun b hb _ => hold b (Nat.lt_of_lt_of_le hb h.size))
  (some (w.heap.size, cur.size)) (fun e => by cases e) (fun b' q' e' => by
   obtain ⟨rfl, rfl⟩ := Prod.mk.inj (Option.some.inj e')
   refine ⟨fun k q' _ hk hμ => by have := h.toMRel.live_lt hk hμ; omega, fun hi => by have := h.ilt _ hi; omega, .inr h.size, fun μ' sh' _ _ => ?_⟩
   exact br_ar hnew cap hq hl hc (hr.imp fun _ _ k => k.mono (fun _ k => k) (hst b)))
 refine ⟨μ', I, h1.putd ?_⟩
 exact ⟨xs.length, τ.sz, _, cap, h3, rfl, hl, hc, .inr ⟨_, _, _, _, h2, h3, rfl, hq⟩⟩
theorem Zfq (τ : Ty) : (ZaE τ (Zak τ)).cells = (Zak τ).toArray := by
 apply Array.ext'
 rw [Zdx]
theorem Zti (f : Nat -> Value) : (Array.range 0).map f = #[] := by
 apply Array.ext'
 simp
theorem ZnZ [DR] (htb : TbOk P c.tb) (h : Rel g s a w μ I) {t e len : Nat} {τ : Ty} {by_ : Nat} (ht : TOk P t ⟨.sl τ, by_, .sl e⟩) {ti : TI} (hte : TOk P e ti) (hτ : ti.ty = τ) (hlen : len * τ.sz <= 16777216) (hz : 0 < τ.sz) {parts : Array (Nat × Operand)} {b : Bool} {xs : List τ.T}
  (hrow : rowD s τ parts.toList (false, List.replicate len τ.zero) = some (b, xs)) (nm : Nat) (dst : Option Tmp) :
  ∃ r w', (Instr.buildSlice t len (parts.map fun (i, x) => (i, a.eval x))).run P w = .ok r w' /\ Ok g ((s.lay nm (.ar b e τ xs)).putd dst (.c (.mfull nm))) (a.put dst r) w' := by
 subst hτ
 obtain ⟨info, d, _, hu, _, _, _, _, _, hd⟩ := ht
 simp only at hd
 subst hd
 have hmade := ZjI (I false) w ti.ty len hz
 obtain ⟨cells', e1, e2, e3⟩ := ZlB h hz parts.toList hmade hrow
 have hxl : xs.length = len := by rw [e3, List.length_replicate]
 have hrun : (Instr.buildSlice t len (parts.map fun (i, x) => (i, a.eval x))).run P w = .ok (.slice (some ⟨w.heap.size, 0, none⟩) len len) (w.alloc (.cells cells' e)) := by
  have hzz := Zfq ti.ty
  have hfill : Instr.fill (fun i => some (i * ti.ty.sz, ti.ty.sz)) ((Array.range (len * ti.ty.sz)).map ((Zak ti.ty).toArray[· % (Zak ti.ty).toArray.size]!)) (parts.map fun (i, x) => (i, a.eval x)).toList = some cells' := by
   rw [Array.toList_map]; exact e1
  simp only [Instr.buildSlice, Sem.run_bind, run_underlying hu, Result.andThen_ok, run_sizeOf' hte]
  rw [if_neg (by omega)]
  by_cases hl0 : len * ti.ty.sz = 0
  ·rw [if_pos hl0]
   simp only [Sem.run_bind, Sem.run_pure, Result.andThen_ok]
   have hf2 : Instr.fill (fun i => some (i * ti.ty.sz, ti.ty.sz)) ((Array.range (len * ti.ty.sz)).map ((#[] : Array Value)[· % (#[] : Array Value).size]!)) (parts.map fun (i, x) => (i, a.eval x)).toList = some cells' := by
    rw [hl0, Zti] at hfill ⊢
    exact hfill
   rw [hf2]
   simp only [newRow, Sem.run_bind, run_newObj_alloc, Result.andThen_ok, Sem.run_pure]
  ·rw [if_neg hl0]
   simp only [Sem.run_bind, run_zero' hte, Sem.run_pure, Result.andThen_ok, hzz]
   rw [hfill]
   simp only [newRow, Sem.run_bind, run_newObj_alloc, Result.andThen_ok, Sem.run_pure]
 refine ⟨_, _, hrun, ?_⟩
 have hcl : cells'.size = len * ti.ty.sz := by
  have := e2.1
  rw [hxl] at this
  exact Array.length_toList.symm.trans this
 have := ZlK h nm dst (b := b) (e := e) (xs := xs) (w' := w.alloc (.cells cells' e)) (cur := cells') (cap := len) rfl (TP.refl _) rfl (fun k hk => heap_alloc_old w _ k hk) (heap_alloc_new w _) hcl (by omega) (by
  have h2 : len * 1 <= len * ti.ty.sz := Nat.mul_le_mul_left _ hz
  unfold Mx; omega) (by rw [List.take_of_length_le (by rw [e2.1]; exact Nat.le_refl _)]; exact e2)
 rw [hxl] at this
 exact this
theorem Zpe [DR] (h : Rel g s a w μ I) {t e : Nat} {τ : Ty} {by_ : Nat} (ht : TOk P t ⟨.sl τ, by_, .sl e⟩) {ti : TI} (hte : TOk P e ti) (hτ : ti.ty = τ) (hz : 0 < τ.sz) {l k : Int} {kl kc : IntKind} (h0 : 0 <= l) (h1 : l <= k) (hb : bound k.toNat ti.bytes = true) (hk : InK kc k) (hk64 : k <= 9223372036854775807) (nm : Nat) (dst : Option Tmp) :
  ∃ r w', (Instr.makeSlice t (.int kl l) (.int kc k)).run P w = .ok r w' /\ Ok g ((s.lay nm (.ar false e τ (List.replicate l.toNat τ.zero))).putd dst (.c (.mfull nm))) (a.put dst r) w' := by
 subst hτ
 obtain ⟨info, d, _, hu, _, _, _, _, _, hd⟩ := ht
 simp only at hd
 subst hd
 obtain ⟨info', d', i1, i2, i3, i4, i5, _⟩ := hte
 have hbb : k.toNat * ti.bytes <= 140737488355328 := of_decide_eq_true hb
 have hrun := run_make (P := P) w t e info' _ hu i1 i5 kl kc l k h0 h1 (by
  rw [i4]
  have : (k.toNat : Int) = k := by omega
  rw [<- this, Int.mul_comm]
  have h2 : ((k.toNat * ti.bytes : Nat) : Int) <= 140737488355328 := by omega
  rw [Int.natCast_mul] at h2
  omega) hk64
 refine ⟨_, _, hrun, ?_⟩
 have hzz := Zfq ti.ty
 rw [hzz, i3]
 have hmade := ZjI (I false) w ti.ty k.toNat hz
 have := ZlK h nm dst (b := false) (e := e) (τ := ti.ty) (xs := List.replicate l.toNat ti.ty.zero) (w' := w.alloc (.cells (madeCells (Zak ti.ty).toArray (k.toNat * ti.ty.sz)) e)) (cur := madeCells (Zak ti.ty).toArray (k.toNat * ti.ty.sz)) (cap := k.toNat) rfl (TP.refl _) rfl (fun k hk => heap_alloc_old w _ k hk) (heap_alloc_new w _) (by simp [size_madeCells]) (by simp; omega) (by unfold Mx; omega) (by
  have h3 := hmade.takeR l.toNat (by simp; omega)
  rw [List.take_replicate, Nat.min_eq_left (by omega)] at h3
  rw [List.length_replicate]
  exact h3)
 rw [List.length_replicate] at this
 exact this
end Go.PI

namespace Go.PI
open Go.RowKit
theorem ZhL {α : Type} : ∀ (x : Ask α) (w : World), w.drawn <= (w.ask x).2.drawn
 | .done _, _ => Nat.le_refl _
 | .ask what range k, w => by
  simp only [World.ask]
  split
  ·exact ZhL _ w
  ·exact Nat.le_trans (Nat.le_succ _) (ZhL (k _) { w with drawn := w.drawn + 1 })
theorem Zu6 (w : World) (c : Sys) : w.drawn <= (w.sys c).2.drawn := by
 have h := ZhL (Kernel.perform c w.os) w
 unfold World.sys
 split
 ·exact Nat.le_refl _
 ·rename_i e
  rw [e] at h
  exact h
theorem ZlC {p : Program} {w w' : World} {a : Addr} {v : Value} {b : Bool} {l : List Addr} (h : w.farStore p a v b = .ok (w', l)) : w'.drawn = w.drawn := by
 unfold World.farStore at h
 split at h
 ·split at h
  ·rename_i e
   injection h with h
   subst h
   simp only [World.viewStore, bind, Except.bind, pure, Except.pure] at e
   repeat' (first | (split at e) | cases e)
   all_goals rfl
  ·cases h
 ·cases h
theorem Zt3 {α : Type} {P : Program} : ∀ (x : Sem α) {w w' : World} {v : α}, x.run P w = .ok v w' -> w.drawn <= w'.drawn := by
 intro x
 induction x with
 | pure a => intro w w' v h; simp only [Sem.run] at h; injection h with _ h; subst h; exact Nat.le_refl _
 | load m a k ih =>
  intro w w' v h; simp only [Sem.run] at h
  split at h
  ·exact ih _ h
  ·split at h
   ·exact ih _ h
   ·cases h
 | store m a u k ih =>
  intro w w' v h
  cases u <;> simp only [Sem.run] at h <;> first | cases h | skip
  all_goals
   split at h
   ·split at h
    ·cases h
    ·exact ih (w := w.setCell a _) h
   ·split at h
    ·rename_i e
     have := ih h
     rwa [ZlC e] at this
    ·cases h
 | new o k ih => intro w w' v h; simp only [Sem.run] at h; exact ih _ (w := { w with heap := w.heap.push o }) h
 | shape r k ih => intro w w' v h; simp only [Sem.run] at h; exact ih _ h
 | freeze a n k ih => intro w w' v h; simp only [Sem.run] at h; have := ih h; unfold World.freeze at this; split at this <;> exact this
 | frozen a k ih => intro w w' v h; simp only [Sem.run] at h; exact ih _ h
 | getObj r k ih =>
  intro w w' v h; simp only [Sem.run] at h
  split at h
  ·cases h
  ·exact ih _ h
  ·cases h
 | setObj r o k ih =>
  intro w w' v h; simp only [Sem.run] at h
  split at h
  ·cases h
  ·exact ih (w := { w with heap := w.heap.setIfInBounds r o }) h
  ·cases h
 | choose q k ih =>
  intro w w' v h; simp only [Sem.run] at h
  split at h
  ·exact ih _ h
  ·exact Nat.le_trans (Nat.le_succ _) (ih _ h)
 | sys c k ih => intro w w' v h; simp only [Sem.run] at h; exact Nat.le_trans (Zu6 w c) (ih _ h)
 | program k ih => intro w w' v h; simp only [Sem.run] at h; exact ih _ h
 | mark m k ih => intro w w' v h; simp only [Sem.run] at h; exact ih h
 | halt e => intro w w' v h; simp only [Sem.run] at h; cases h
variable {P : Program} {c : Ctx} {g : Cfg} {s st : St} {a : Act} {w : World} {μ : Nm} {I : Bool -> Nat -> Prop}
theorem Row.appendR {α : Type} {R : α -> List Value -> Prop} {z : Nat} {xs ys : List α} {c d : List Value} (h : Row R z xs c) (k : Row R z ys d) : Row R z (xs ++ ys) (c ++ d) := by
 induction xs generalizing c with
 | nil =>
  have := h.1
  simp only [List.length_nil, Nat.zero_mul] at this
  rw [List.eq_nil_of_length_eq_zero this]
  exact k
 | cons x xs ih =>
  obtain ⟨c1, r, rfl, h1, h2, h3⟩ := h.uncons
  rw [List.cons_append, List.append_assoc]
  exact Row.cons h1 h2 (ih h3)
theorem ZhQ [DR] {m : Mem} (hm : MRel g m w μ I) {τ : Ty} {y : D} {v : Value} (hy : RD μ I w (shp m) y v) {b : Bool} {ys : List τ.T} (h : ZbX m τ y = some (b, ys)) :
  ∃ A cap, v = .slice A ys.length cap /\ (ys = [] \/ ∃ b' o cells, A = some ⟨b', o, none⟩ /\ (∀ j u, cells[j]? = some u -> w.cell? ⟨b', o + j, none⟩ = some u) /\ Row (K (I b) w τ) τ.sz ys cells) := by
 unfold ZbX at h
 split at h
 ·obtain ⟨rfl, rfl⟩ := Prod.mk.inj (Option.some.inj h)
  exact ⟨none, 0, hy, .inl rfl⟩
 ·rename_i bb σ xs
  split at h
  ·rename_i hs
   subst hs
   obtain ⟨rfl, hxy⟩ := Prod.mk.inj (Option.some.inj h)
   have hxy : xs = ys := hxy
   subst hxy
   obtain ⟨A, cap, rfl, _, _, h2⟩ := K.sl_len (hy.2 rfl)
   refine ⟨A, cap, rfl, ?_⟩
   by_cases hne : xs = []
   ·exact .inl hne
   ·obtain ⟨ad, cells, rfl, hI, hc, hr⟩ := h2 hne
    obtain ⟨bb, o, sp⟩ := ad
    obtain rfl : sp = none := hc.1
    exact .inr ⟨bb, o, cells, rfl, hc.2, hr⟩
  ·cases h
 ·rename_i n
  split at h
  ·rename_i tt e' σ xs hl
   split at h
   ·rename_i hs
    subst hs
    obtain ⟨rfl, hxy⟩ := Prod.mk.inj (Option.some.inj h)
    have hxy : xs = ys := hxy
    subst hxy
    obtain ⟨len, z, A, cap, e1, rfl, h2, h3, h4⟩ := hy
    rw [Zal hl] at e1
    obtain ⟨rfl, rfl⟩ := Prod.mk.inj (Option.some.inj e1)
    refine ⟨A, cap, rfl, ?_⟩
    rcases h4 with ⟨rfl, rfl⟩ | ⟨bb, q, len', z', e2, e3, rfl, rfl⟩
    ·exact .inl (List.eq_nil_of_length_eq_zero (by omega))
    ·rcases hm.mem _ _ hl with ⟨b', q', e4, cur, el, hheap, hq, _, cap', hcap, _, _, hrow⟩ | ⟨e4, _⟩
     ·rw [e2] at e4
      obtain ⟨rfl, rfl⟩ := Prod.mk.inj (Option.some.inj e4)
      refine .inr ⟨bb, 0, cur.toList.take (xs.length * σ.sz), rfl, fun j u hu => ?_, hrow⟩
      rw [List.getElem?_take] at hu
      split at hu
      ·rw [Nat.zero_add, Zcz hheap]; exact hu
      ·cases hu
     ·rw [e2] at e4; cases e4
   ·cases h
  ·cases h
 ·rename_i n sx l cp
  split at h
  ·rename_i tt e' σ xs hl
   split at h
   ·rename_i hs
    subst hs
    obtain ⟨rfl, hxy⟩ := Prod.mk.inj (Option.some.inj h)
    have hxy : (xs.drop sx).take l = ys := hxy
    subst hxy
    obtain ⟨A, cap, rfl, h2, h3, h4, ⟨len', z', e1, h5, h6⟩, h7⟩ := hy
    rw [Zal hl] at e1
    obtain ⟨rfl, rfl⟩ := Prod.mk.inj (Option.some.inj e1)
    have hlen : ((xs.drop sx).take l).length = l := by rw [List.length_take, List.length_drop]; omega
    refine ⟨A, cap, by rw [hlen], ?_⟩
    rcases Nat.eq_zero_or_pos l with hl0 | hpos
    ·exact .inl (List.eq_nil_of_length_eq_zero (by rw [hlen]; exact hl0))
    ·obtain ⟨bb, q, e2, rfl⟩ := h6 hpos
     rcases hm.mem _ _ hl with ⟨b', q', e4, cur, el, hheap, hq, _, cap', hcap, _, _, hrow⟩ | ⟨e4, _⟩
     ·rw [e2] at e4
      obtain ⟨rfl, rfl⟩ := Prod.mk.inj (Option.some.inj e4)
      refine .inr ⟨bb, sx * σ.sz, ((cur.toList.take (xs.length * σ.sz)).drop (sx * σ.sz)).take (l * σ.sz), rfl, fun j u hu => ?_, (hrow.dropR sx).takeR l (by rw [List.length_drop]; omega)⟩
      rw [List.getElem?_take] at hu
      split at hu
      ·rw [List.getElem?_drop, List.getElem?_take] at hu
       split at hu
       ·rw [Zcz hheap]; exact hu
       ·cases hu
      ·cases hu
     ·rw [e2] at e4; cases e4
   ·cases h
  ·cases h
 ·cases h
theorem Zk8 {t ty e : Nat} {z : Nat} (ht : P.underlying t = some (.slice e)) (hz : (sizeOf e).run P w = .ok z w) (A : Option Addr) (n cap c' : Nat) (hn : n <= cap) :
  (Builtin.append_ #[t, t] ty #[.slice A n cap, .slice none 0 c']).run P w = .ok (.slice A n cap) w := by
 cases A <;> simp [Builtin.append_, run_underlying ht, hz, Builtin.lenOf, Builtin.firstCells, hn, storeCells]
def _root_.Go.PI.St.killO (n : Option Nat) (s : St) : St := match n with
 | some k => s.kill k
 | none => s
theorem Zj4 [DR] (h : Rel g s a w μ I) (nm : Nat) (dst : Option Tmp) {n : Option Nat} {bt : Bool} {e : Nat} {τ : Ty} {zs : List τ.T} {u v' : Value} {w' : World} {cells : List Value}
  (hrow : Row (K (I bt) w τ) τ.sz zs cells) (hown : w'.ownsRow 0 e τ.sz v' zs.length cells) (hg : w.grownBy w' u.ownBlock) (hat : v'.ownBlock = u.ownBlock \/ v'.ownBlock = some w.heap.size)
  (hdr : w.drawn <= w'.drawn) (hu : ∀ b, u.ownBlock = some b -> ∃ k q, n = some k /\ look k s.m ≠ none /\ μ k = some (b, q)) :
  Ok g (((s.killO n).lay nm (.ar bt e τ zs)).putd dst (.c (.mfull nm))) (a.put dst v') w' := by
 have hs0 : Rel g (s.killO n) a w μ I := by
  cases n with
  | none => exact h
  | some k => exact h.kill k
 have hlive : ∀ j, look j (s.killO n).m ≠ none -> look j s.m ≠ none /\ n ≠ some j := by
  intro j hj
  cases n with
  | none => exact ⟨hj, by simp⟩
  | some k =>
   simp only [St.killO, St.kill, Zaz] at hj
   by_cases ejk : j = k
   ·subst ejk; rw [Zap] at hj; exact absurd rfl hj
   ·rw [Zaj ejk] at hj
    exact ⟨fun e' => hj (by rw [e']; rfl), fun e' => ejk (Option.some.inj e').symm⟩
 generalize (s.killO n) = s0 at hs0 hlive
 have hne : ∀ j b q, look j s0.m ≠ none -> μ j = some (b, q) -> some b ≠ u.ownBlock := by
  intro j b q hj hμ e'
  obtain ⟨k, q', hn, hk, hμk⟩ := hu b e'.symm
  obtain ⟨h1, h2⟩ := hlive j hj
  exact h2 (by rw [hn, h.inj j k b q q' hμ hμk h1 hk])
 have hold : ∀ j b q, look j s0.m ≠ none -> μ j = some (b, q) -> w'.heap[b]? = w.heap[b]? := fun j b q hj hμ => hg.block b (hs0.toMRel.live_lt hj hμ) (hne j b q hj hμ)
 have hst : ∀ t, Za3 (I t) w w' := fun t b hb => by
  have hb' : I true b := by cases t; exact h.isub b hb; exact hb
  refine hg.block b (h.ilt b hb') (fun e' => ?_)
  obtain ⟨k, q', hn, hk, hμk⟩ := hu b e'.symm
  exact h.sep k b q' hk hμk hb'
 have hkeep : ∀ b, b < g.w0.heap.size -> ¬ g.L0 b -> w'.heap[b]? = w.heap[b]? := fun b hlt hL => by
  refine hg.block b (Nat.lt_of_lt_of_le hlt h.size) (fun e' => ?_)
  obtain ⟨k, q', hn, hk, hμk⟩ := hu b e'.symm
  rcases h.live k b q' hk hμk with hh | hh
  ·exact hL hh
  ·omega
 rcases hown.2 with ⟨rfl, h0⟩ | ⟨gb, cap, cur, rfl, _, hheap, hnc, hcm, hcs, htake⟩
 ·have hz0 : zs = [] := List.eq_nil_of_length_eq_zero h0
  subst hz0
  obtain ⟨μ', r1, r2, r3⟩ := hs0.lay2 nm (.ar bt e τ []) w' hg.os ⟨hg.tape, fun _ => hdr⟩ hg.output hg.size (fun k b q _ hk hμ => hold k b q hk hμ) hst hkeep none (fun _ => ⟨bt, e, τ, rfl⟩) (fun b q e' => by cases e')
  refine ⟨μ', I, r1.putd ?_⟩
  exact ⟨0, τ.sz, none, 0, r3, rfl, Nat.le_refl _, by simp, .inl ⟨rfl, rfl⟩⟩
 ·have hgcase : u.ownBlock = some gb \/ gb = w.heap.size := by
   rcases hat with hat | hat
   ·exact .inl (by rw [<- hat]; rfl)
   ·exact .inr (by simpa [Value.ownBlock] using hat)
  obtain ⟨μ', r1, r2, r3⟩ := hs0.lay2 nm (.ar bt e τ zs) w' hg.os ⟨hg.tape, fun _ => hdr⟩ hg.output hg.size (fun k b q _ hk hμ => hold k b q hk hμ) hst hkeep (some (gb, cur.size)) (fun e' => by cases e') (fun b q e' => by
   obtain ⟨rfl, rfl⟩ := Prod.mk.inj (Option.some.inj e')
   have hbr : ∀ μ' sh', μ' nm = some (gb, cur.size) -> sh' nm = some (MB.ar bt e τ zs).shape -> BR μ' I w' sh' (.ar bt e τ zs) gb cur.size := fun μ' sh' _ _ =>
    br_ar hheap cap hcs hnc hcm (by rw [htake]; exact hrow.imp fun _ _ k => k.mono (fun _ k => k) (hst bt))
   rcases hgcase with hgc | rfl
   ·obtain ⟨k, q', hn, hk, hμk⟩ := hu gb hgc
    exact ⟨fun j q' _ hj hμ => hne j gb q' hj hμ hgc.symm, h.sep k gb q' hk hμk, h.live k gb q' hk hμk, hbr⟩
   ·exact ⟨fun j q' _ hj hμ => by have := hs0.toMRel.live_lt hj hμ; omega, fun hi => by have := h.ilt _ hi; omega, .inr h.size, hbr⟩)
  refine ⟨μ', I, r1.putd ?_⟩
  exact ⟨zs.length, τ.sz, _, cap, r3, rfl, hnc, hcm, .inr ⟨_, _, _, _, r2, r3, rfl, hcs⟩⟩
theorem ZkZ [DR] (h : Rel g s a w μ I) {t ty e : Nat} {τ : Ty} {by_ : Nat} (ht : TOk P t ⟨.sl τ, by_, .sl e⟩) {ti : TI} (hte : TOk P e ti) (hτ : ti.ty = τ) (hz : 0 < τ.sz) (nm : Nat) (dst : Option Tmp) {n : Option Nat} {b1 b : Bool} {xs ys : List τ.T} {u v : Value} {cells : List Value}
  (hrow : Row (K (I b1) w τ) τ.sz xs cells) (hown : w.ownsRow 0 e τ.sz u xs.length cells) (hu : ∀ b, u.ownBlock = some b -> ∃ k q, n = some k /\ look k s.m ≠ none /\ μ k = some (b, q))
  {A : Option Addr} {cap : Nat} (hv : v = .slice A ys.length cap) (hy : ys = [] \/ ∃ b' o cells, A = some ⟨b', o, none⟩ /\ (∀ j u, cells[j]? = some u -> w.cell? ⟨b', o + j, none⟩ = some u) /\ Row (K (I b) w τ) τ.sz ys cells)
  (hb : bound (xs.length + ys.length) ti.bytes = true) (h63 : xs.length + ys.length <= Mx) :
  ∃ r w', (Builtin.append_ #[t, t] ty #[u, v]).run P w = .ok r w' /\ Ok g (((s.killO n).lay nm (.ar (b1 || b) e τ (xs ++ ys))).putd dst (.c (.mfull nm))) (a.put dst r) w' := by
 subst hτ
 have hte' := hte
 obtain ⟨info, d, _, hu', _, _, _, _, _, hd⟩ := ht
 simp only at hd
 subst hd
 obtain ⟨info', d', i1, i2, i3, i4, i5, _⟩ := hte
 have om := Zbe h.isub b1 b
 have hbb : (xs.length + ys.length) * ti.bytes <= 140737488355328 := of_decide_eq_true hb
 have none_case : ys = [] -> A = none -> ∃ r w', (Builtin.append_ #[t, t] ty #[u, v]).run P w = .ok r w' /\ Ok g (((s.killO n).lay nm (.ar (b1 || b) e ti.ty (xs ++ ys))).putd dst (.c (.mfull nm))) (a.put dst r) w' := by
  intro hys hA
  subst hys hA hv
  have hform : ∃ A' cap', u = .slice A' xs.length cap' /\ xs.length <= cap' := by
   rcases hown.2 with ⟨rfl, h0⟩ | ⟨gb, cap', cur, rfl, _, _, hnc, _⟩
   ·exact ⟨none, 0, by rw [h0], by omega⟩
   ·exact ⟨_, _, rfl, hnc⟩
  obtain ⟨A', cap', rfl, hle⟩ := hform
  refine ⟨_, _, Zk8 hu' (run_sizeOf' hte' w) A' _ cap' cap hle, ?_⟩
  rw [List.append_nil]
  exact Zj4 h nm dst (hrow.imp fun _ _ k => k.up om.1) hown ⟨rfl, rfl, rfl, Nat.le_refl _, fun _ _ _ => rfl⟩ (.inl rfl) (Nat.le_refl _) hu
 have some_case : ∀ ad news, A = some ad -> news.length = ys.length * ti.ty.sz -> (∀ j u, news[j]? = some u -> w.cell? (ad.add j) = some u) -> Row (K (I b) w ti.ty) ti.ty.sz ys news -> ∃ r w', (Builtin.append_ #[t, t] ty #[u, v]).run P w = .ok r w' /\ Ok g (((s.killO n).lay nm (.ar (b1 || b) e ti.ty (xs ++ ys))).putd dst (.c (.mfull nm))) (a.put dst r) w' := by
  intro ad news hA hl hc hr
  subst hA hv
  have h1 : ∀ u ∈ news, u.oneCell' = true := by
   intro u hu
   have hk : K (I b) w (.arr ys.length ti.ty) ys news := ⟨rfl, hr⟩
   exact hk.one u hu
  obtain ⟨v', w', hrun, h2, h3, h4, h5⟩ := run_append_own_at (P := P) w 0 t ty e info' _ ti.ty.sz ti.bytes hu' i1 i5 i3 i4 (by rw [Zfq]; simp [ZbZ]) hz u xs.length cells hown ad ys.length cap news hl hc h1 (by unfold Mx at h63; unfold maxLen; omega) hbb (Nat.zero_le _)
  refine ⟨v', w', hrun, ?_⟩
  exact Zj4 h nm dst ((hrow.imp fun _ _ k => k.up om.1).appendR (hr.imp fun _ _ k => k.up om.2)) (by rw [List.length_append]; exact h2) h3 h5 (Zt3 _ hrun) hu
 rcases hy with hy | ⟨b', o, news, hA, hc, hr⟩
 ·cases A with
  | none => exact none_case hy rfl
  | some ad => exact some_case ad [] rfl (by rw [hy]; simp) (fun j u hu => by simp at hu) (by rw [hy]; exact Row.nil _ _)
 ·exact some_case _ news hA hr.1 (fun j u hu => by rw [Addr.add_lit]; exact hc j u hu) hr
theorem head_ok [DR] {m : Mem} (hm : MRel g m w μ I) {τ : Ty} {x : D} {u : Value} (hx : RD μ I w (shp m) x u) {n : Nat} (hh : Zgl x = some (.own n)) {b1 : Bool} {xs : List τ.T} (hs : ZbX m τ x = some (b1, xs)) {bt : Bool} {e : Nat} {σ : Ty} {xs' : List σ.T} (hl : look n m = some (.ar bt e σ xs')) :
  ∃ cells, Row (K (I b1) w τ) τ.sz xs cells /\ w.ownsRow 0 e τ.sz u xs.length cells /\ ∀ b, u.ownBlock = some b -> ∃ q, μ n = some (b, q) := by
 unfold Zgl at hh
 split at hh
 ·cases hh
 ·injection hh with hh
  injection hh with hh
  subst hh
  simp only [ZbX, hl] at hs
  split at hs
  ·rename_i hst
   subst hst
   obtain ⟨rfl, hxy⟩ := Prod.mk.inj (Option.some.inj hs)
   have hxy : xs' = xs := hxy
   subst hxy
   obtain ⟨len, z, A, cap, e1, rfl, h2, h3, h4⟩ := hx
   rw [Zal hl] at e1
   obtain ⟨rfl, rfl⟩ := Prod.mk.inj (Option.some.inj e1)
   rcases h4 with ⟨rfl, rfl⟩ | ⟨bb, q, len', z', e2, e3, rfl, rfl⟩
   ·have h0 : xs'.length = 0 := by omega
    obtain rfl := List.eq_nil_of_length_eq_zero h0
    exact ⟨[], Row.nil _ _, World.ownsRow_nil w 0 e σ.sz, fun b hb => by simp [Value.ownBlock] at hb⟩
   ·rw [Zal hl] at e3
    obtain ⟨rfl, rfl⟩ := Prod.mk.inj (Option.some.inj e3)
    rcases hm.mem _ _ hl with ⟨b', q', e4, cur, el, hheap, hq, hel, cap', hcap, _, hcm, hrow⟩ | ⟨e4, _⟩
    ·rw [e2] at e4
     obtain ⟨rfl, rfl⟩ := Prod.mk.inj (Option.some.inj e4)
     subst hel
     exact ⟨_, hrow, ⟨hrow.1, .inr ⟨bb, cap, cur, rfl, Nat.zero_le _, hheap, h2, h3, hq, rfl⟩⟩, fun b hb => by obtain rfl : bb = b := by simpa [Value.ownBlock] using hb
                                                                                                               exact ⟨_, e2⟩⟩
    ·rw [e2] at e4; cases e4
  ·cases hs
 ·rename_i n' l
  injection hh with hh
  injection hh with hh
  subst hh
  simp only [ZbX, hl] at hs
  split at hs
  ·rename_i hst
   subst hst
   obtain ⟨rfl, hxy⟩ := Prod.mk.inj (Option.some.inj hs)
   have hxy : (xs'.drop 0).take l = xs := hxy
   rw [List.drop_zero] at hxy
   subst hxy
   obtain ⟨A, cap, rfl, h2, h3, _, ⟨len', z', e1, h5, h6⟩, h7⟩ := hx
   rw [Zal hl] at e1
   obtain ⟨rfl, rfl⟩ := Prod.mk.inj (Option.some.inj e1)
   have hll : (xs'.take l).length = l := by rw [List.length_take]; omega
   rcases h7 rfl rfl with ⟨rfl, rfl⟩ | ⟨bb, q, len', z', e2, e3, rfl, rfl⟩
   ·obtain rfl : l = 0 := by omega
    rw [List.take_zero]
    exact ⟨[], Row.nil _ _, World.ownsRow_nil w 0 e σ.sz, fun b hb => by simp [Value.ownBlock] at hb⟩
   ·rw [Zal hl] at e3
    obtain ⟨rfl, rfl⟩ := Prod.mk.inj (Option.some.inj e3)
    rcases hm.mem _ _ hl with ⟨b', q', e4, cur, el, hheap, hq, hel, cap', hcap, _, hcm, hrow⟩ | ⟨e4, _⟩
    ·rw [e2] at e4
     obtain ⟨rfl, rfl⟩ := Prod.mk.inj (Option.some.inj e4)
     subst hel
     have hr2 := hrow.takeR l (by omega)
     have hle : l * σ.sz <= xs'.length * σ.sz := Nat.mul_le_mul_right _ (by omega)
     rw [List.take_take, Nat.min_eq_left hle] at hr2
     refine ⟨_, hr2, ⟨hr2.1, .inr ⟨bb, cap, cur, by rw [hll], Nat.zero_le _, hheap, by omega, h3, hq, by rw [hll]⟩⟩, fun b hb => by obtain rfl : bb = b := by simpa [Value.ownBlock] using hb
                                                                                                                                    exact ⟨_, e2⟩⟩
    ·rw [e2] at e4; cases e4
  ·cases hs
 ·cases hh
 ·cases hh
theorem cap_ok [DR] (h : Rel g s a w μ I) {t ty e : Nat} {τ : Ty} {by_ : Nat} (ht : TOk P t ⟨.sl τ, by_, .sl e⟩) {ti : TI} (hte : TOk P e ti) (hτ : ti.ty = τ) (hz : 0 < τ.sz) (nm : Nat) (dst : Option Tmp) {b1 b : Bool} {xs ys : List τ.T} {u v : Value} {A0 : Option Addr}
  (hu : u = .slice A0 xs.length xs.length) (hx : (xs = [] /\ (A0 = none \/ ∃ ad, A0 = some ad)) \/ ∃ b' o cells, A0 = some ⟨b', o, none⟩ /\ (∀ j u, cells[j]? = some u -> w.cell? ⟨b', o + j, none⟩ = some u) /\ Row (K (I b1) w τ) τ.sz xs cells)
  {A : Option Addr} {cap : Nat} (hv : v = .slice A ys.length cap) (hy : ys = [] \/ ∃ b' o cells, A = some ⟨b', o, none⟩ /\ (∀ j u, cells[j]? = some u -> w.cell? ⟨b', o + j, none⟩ = some u) /\ Row (K (I b) w τ) τ.sz ys cells)
  (hb : bound (xs.length + ys.length) ti.bytes = true) (h63 : xs.length + ys.length <= Mx) (hy0 : 0 < ys.length) :
  ∃ r w', (Builtin.append_ #[t, t] ty #[u, v]).run P w = .ok r w' /\ Ok g ((s.lay nm (.ar (b1 || b) e τ (xs ++ ys))).putd dst (.c (.mfull nm))) (a.put dst r) w' := by
 subst hτ hu hv
 obtain ⟨info, d, _, hu', _, _, _, _, _, hd⟩ := ht
 simp only at hd
 subst hd
 obtain ⟨info', d', i1, i2, i3, i4, i5, _⟩ := hte
 have om := Zbe h.isub b1 b
 have hbb : (xs.length + ys.length) * ti.bytes <= 140737488355328 := of_decide_eq_true hb
 rcases hy with hy | ⟨by', oy, news, rfl, hcy, hry⟩
 ·subst hy; simp at hy0
 have hzs : (ZaE ti.ty (Zak ti.ty)).cells.size = ti.ty.sz := by rw [Zfq]; simp [ZbZ]
 have main : ∀ (olds : List Value) (old : Nat), Row (K (I b1) w ti.ty) ti.ty.sz xs olds -> old < xs.length + ys.length ->
   (Builtin.append_ #[t, t] ty #[.slice A0 xs.length xs.length, .slice (some ⟨by', oy, none⟩) ys.length cap]).run P w = .ok (.slice (some ⟨w.heap.size, 0, none⟩) (xs.length + ys.length) (grownCap w (xs.length + ys.length) old e))
    (w.drew.alloc (.cells (olds.toArray ++ news.toArray ++ Builtin.zeroCells (ZaE ti.ty (Zak ti.ty)).cells (grownCap w (xs.length + ys.length) old e - (xs.length + ys.length))) e)) ->
   ∃ r w', (Builtin.append_ #[t, t] ty #[.slice A0 xs.length xs.length, .slice (some ⟨by', oy, none⟩) ys.length cap]).run P w = .ok r w' /\ Ok g ((s.lay nm (.ar (b1 || b) e ti.ty (xs ++ ys))).putd dst (.c (.mfull nm))) (a.put dst r) w' := by
  intro olds old hro hlt hrun
  refine ⟨_, _, hrun, ?_⟩
  have hge := grownCap_ge w (xs.length + ys.length) old e
  have hcm := grownCap_le_maxLen w (xs.length + ys.length) old e (by unfold maxLen; unfold Mx at h63; omega)
  have hrow := (hro.imp fun _ _ k => k.up om.1).appendR (hry.imp fun _ _ k => k.up om.2)
  have hlen : (olds ++ news).length = (xs.length + ys.length) * ti.ty.sz := by rw [hrow.1, List.length_append]
  have := ZlK h nm dst (b := b1 || b) (e := e) (xs := xs ++ ys) (w' := w.drew.alloc (.cells (olds.toArray ++ news.toArray ++ Builtin.zeroCells (ZaE ti.ty (Zak ti.ty)).cells (grownCap w (xs.length + ys.length) old e - (xs.length + ys.length))) e)) (cap := grownCap w (xs.length + ys.length) old e) rfl ⟨rfl, fun _ => Nat.le_succ _⟩ rfl
   (fun k hk => heap_alloc_old w.drew _ k hk) (heap_alloc_new w.drew _) (by
    simp only [Array.size_append, List.size_toArray, size_zeroCells, hzs]
    rw [List.length_append] at hlen
    rw [hlen, <- Nat.add_mul]
    congr 1
    omega) (by rw [List.length_append]; exact hge) hcm (by
    rw [List.length_append, <- hlen]
    simp only [Array.toList_append, List.append_assoc]
    rw [<- List.append_assoc, List.take_left]
    exact hrow)
  rw [List.length_append] at this
  exact this
 rcases hx with ⟨hxe, hA0⟩ | ⟨bx, ox, olds, rfl, hcx, hrx⟩
 ·subst hxe
  rcases hA0 with rfl | ⟨ad, rfl⟩
  ·refine main [] 0 (Row.nil _ _) (by simpa using hy0) ?_
   have := run_append_nil (P := P) w t ty e info' _ hu' i1 i5 ⟨by', oy, none⟩ ys.length cap news (by rw [i3]; exact hry.1) (fun j u hu => by rw [Addr.add_lit]; exact hcy j u hu) hy0 (by unfold Mx at h63; simp at h63; omega) (by rw [i4]; simp at hbb; omega)
   simpa using this
  ·refine main [] 0 (Row.nil _ _) (by simpa using hy0) ?_
   have := run_append_grow (P := P) w t ty e info' _ hu' i1 i5 ad 0 0 [] (by simp) (fun j u hu => by simp at hu) ⟨by', oy, none⟩ ys.length cap news (by rw [i3]; exact hry.1) (fun j u hu => by rw [Addr.add_lit]; exact hcy j u hu) (by simpa using hy0) (by unfold Mx at h63; simp at h63; omega) (growslice_fits (by simpa using hy0) (by rw [i4]; simpa using hbb))
   simpa using this
 ·refine main olds xs.length hrx (by omega) ?_
  exact run_append_grow (P := P) w t ty e info' _ hu' i1 i5 ⟨bx, ox, none⟩ xs.length xs.length olds (by rw [i3]; exact hrx.1) (fun j u hu => by rw [Addr.add_lit]; exact hcx j u hu) ⟨by', oy, none⟩ ys.length cap news (by rw [i3]; exact hry.1) (fun j u hu => by rw [Addr.add_lit]; exact hcy j u hu) (by omega) (by unfold Mx at h63; omega) (growslice_fits (by omega) (by rw [i4]; exact hbb))
theorem Zuq [DR] (htb : TbOk P c.tb) (h : Rel g s a w μ I) {t : Nat} (nm : Nat) {x y : D} {u v : Value} (hx : RD μ I w (shp s.m) x u) (hy : RD μ I w (shp s.m) y v) {s' : St} {d : D} (hd : (Zgn c nm s t x y).run = some (s', d)) (ty : Nat) (dst : Option Tmp) :
  ∃ r w', (Builtin.append_ #[t, t] ty #[u, v]).run P w = .ok r w' /\ Ok g (s'.putd dst d) (a.put dst r) w' := by
 unfold Zgn at hd
 split at hd
 case h_2 => cases hd
 rename_i τ by_ e ht
 split at hd
 case h_2 => cases hd
 rename_i ti hte
 cases hq : (decide (ti.ty = τ) && decide (0 < τ.sz) && decide (0 < ti.bytes)) with
 | false => simp only [hq, cond_false] at hd; cases hd
 | true =>
  simp only [hq, cond_true] at hd
  simp only [Bool.and_eq_true, decide_eq_true_eq] at hq
  obtain ⟨⟨hτ, hz⟩, hby⟩ := hq
  have hT := htb _ _ ht
  have hE := htb _ _ hte
  have hMx : ∀ n, bound n ti.bytes = true -> n <= Mx := by
   intro n hb
   have hb : n * ti.bytes <= 140737488355328 := of_decide_eq_true hb
   have : n * 1 <= n * ti.bytes := Nat.mul_le_mul_left _ hby
   unfold Mx
   omega
  split at hd
  ·rename_i q b ys hh hsx hsy
   obtain ⟨hb, hd⟩ := ZaM hd
   obtain ⟨rfl, rfl⟩ := Prod.mk.inj (Option.some.inj hd)
   obtain rfl : u = .slice none 0 0 := by
    unfold Zgl at hh
    split at hh <;> first | (cases hh; done) | exact hx
   obtain ⟨A, cap, hv, hys⟩ := ZhQ h.toMRel hy hsy
   have := ZkZ h (ty := ty) hT hE hτ hz nm dst (n := none) (b1 := false) (b := b) (xs := []) (ys := ys) (u := .slice none 0 0) (cells := []) (Row.nil _ _) (World.ownsRow_nil w 0 e τ.sz) (fun b hb => by simp [Value.ownBlock] at hb) hv hys (by simpa using hb) (by simpa using hMx _ hb)
   simpa [St.killO] using this
  ·rename_i n b1 xs b ys hh hsx hsy
   split at hd
   case h_2 => cases hd
   rename_i bt e' σ xs' hl
   cases he : decide (e' = e) with
   | false => simp only [he, cond_false] at hd; cases hd
   | true =>
    simp only [he, cond_true] at hd
    obtain rfl := of_decide_eq_true he
    obtain ⟨hb, hd⟩ := ZaM hd
    obtain ⟨rfl, rfl⟩ := Prod.mk.inj (Option.some.inj hd)
    obtain ⟨A, cap, hv, hys⟩ := ZhQ h.toMRel hy hsy
    obtain ⟨cells, hrow, hown, hu⟩ := head_ok h.toMRel hx hh hsx hl
    exact ZkZ h (ty := ty) hT hE hτ hz nm dst (n := some n) hrow hown (fun b hb => by obtain ⟨q, e1⟩ := hu b hb; exact ⟨n, q, rfl, by rw [hl]; simp, e1⟩) hv hys hb (hMx _ hb)
  ·rename_i b1 xs b ys hh hsx hsy
   obtain ⟨hb, hd⟩ := ZaM hd
   obtain ⟨rfl, rfl⟩ := Prod.mk.inj (Option.some.inj hd)
   rw [Bool.and_eq_true, decide_eq_true_eq] at hb
   obtain ⟨A, cap, hv, hys⟩ := ZhQ h.toMRel hy hsy
   obtain ⟨A0, cap0, hu, hxs⟩ := ZhQ h.toMRel hx hsx
   have hcap : cap0 = xs.length := by
    unfold Zgl at hh
    split at hh <;> first | (cases hh; done) | skip
    obtain ⟨A1, cap1, e1, _, _, e2, _⟩ := hx
    rw [hu] at e1
    injection e1 with _ e3 e4
    rw [e4, e3]
    exact e2 rfl
   subst hcap
   refine cap_ok h (ty := ty) hT hE hτ hz nm dst hu ?_ hv hys hb.1 (hMx _ hb.1) hb.2
   rcases hxs with hxs | r
   ·refine .inl ⟨hxs, ?_⟩
    cases A0 with
    | none => exact .inl rfl
    | some ad => exact .inr ⟨ad, rfl⟩
   ·exact .inr r
  ·cases hd
end Go.PI

namespace Go.PI
open Go.RowKit
variable {P : Program} {c : Ctx} {g : Cfg} {s st : St} {a : Act} {w : World} {μ : Nm} {I : Bool -> Nat -> Prop}
def Zai (m : Mem) (μ : Nm) : Nat -> Prop := fun b => ∃ n q, look n m ≠ none /\ μ n = some (b, q)
def RDs (μ : Nm) (I : Bool -> Nat -> Prop) (w : World) (sh : Sh) (ds : List D) (vs : List Value) : Prop := ds.length = vs.length /\ ∀ (j : Nat) (d : D) (v : Value), ds[j]? = some d -> vs[j]? = some v -> RD μ I w sh d v
def ZaZ (w : World) (I : Bool -> Nat -> Prop) (m : Mem) (μ : Nm) : Cfg := ⟨w, I, Zai m μ, m, μ⟩
def Zbp [DR] (P : Program) (f : Nat) (o : Orc) : Prop :=
 (∃ fn, P.funcs[f]? = some fn /\ (fn.name == "runtime.NumGoroutine") = false /\ fn.body.isNone = false) /\
 ∀ (w : World) (μ : Nm) (I : Bool -> Nat -> Prop) (m : Mem) (nm : Nat) (args : List D) (vs : List Value) (d : D) (m' : Mem) (ks : List Nat), MRel (ZaZ w I m μ) m w μ I -> RDs μ I w (shp m) args vs -> (o nm args m).run = some (d, m', ks) ->
  Calls P f vs.toArray w fun e w' => ∃ v μ' I', e = .returned v /\ MRel (ZaZ w I m μ) m' w' μ' I' /\ (∀ t b, I t b -> I' t b) /\ (∀ n, look n m ≠ none -> n ∉ ks -> μ' n = μ n /\ shp m' n = shp m n) /\ RD μ' I' w' (shp m') d v
structure EnvFull [DR] (P : Program) (c : Ctx) : Prop extends EnvOk P c where
 orc : ∀ f o, c.orc f = some o -> Zbp P f o
theorem ZiL (ks : List Nat) : ∀ (t : List D), ks.foldl (fun t k => t.map (D.kill k)) t = t.map (D.map fun x => ks.foldl (fun x k => C.kill k x) x) := by
 induction ks with
 | nil =>
  intro t
  have : (D.map fun x : C => x) = id := by funext d; exact D.map_id d
  simp [this]
 | cons k ks ih =>
  intro t
  simp only [List.foldl_cons]
  rw [ih, List.map_map]
  congr 1
  funext d
  rw [D.kill_map]
  cases d <;> simp [D.map, List.map_map, Function.comp_def]
theorem ZfN : ∀ (ks : List Nat) (x : C), (ks.foldl (fun x k => C.kill k x) x = x /\ ∀ k ∈ ks, x.has k = false) \/ ks.foldl (fun x k => C.kill k x) x = .bad
 | [], x => .inl ⟨rfl, fun k hk => by simp at hk⟩
 | k :: ks, x => by
  simp only [List.foldl_cons]
  unfold C.kill
  cases h : x.has k with
  | true =>
   right
   simp only [cond_true]
   rcases ZfN ks .bad with ⟨e, _⟩ | e
   ·exact e
   ·exact e
  | false =>
   simp only [cond_false]
   rcases ZfN ks x with ⟨e, h2⟩ | e
   ·refine .inl ⟨e, fun j hj => ?_⟩
    rcases List.mem_cons.1 hj with rfl | hj
    ·exact h
    ·exact h2 j hj
   ·exact .inr e
theorem call_fin [DR] (h : Rel g s a w μ I) {d : D} {v : Value} {m' : Mem} {ks : List Nat} {w' : World} {μ' : Nm} {I' : Bool -> Nat -> Prop} (hm : MRel (ZaZ w I s.m μ) m' w' μ' I') (hI : ∀ t b, I t b -> I' t b)
  (hn : ∀ n, look n s.m ≠ none -> n ∉ ks -> μ' n = μ n /\ shp m' n = shp s.m n) (hd : RD μ' I' w' (shp m') d v) (dst : Option Tmp) :
  Ok g ((⟨ks.foldl (fun t k => t.map (D.kill k)) s.t, m', ks ++ s.k⟩ : St).putd dst d) (a.put dst v) w' := by
 have hlive : ∀ b, Zai s.m μ b -> g.L0 b \/ g.w0.heap.size <= b := fun b ⟨n, q, hk, hμ⟩ => h.live n b q hk hμ
 have hst : ∀ t, Za3 (I t) w w' := fun t b hb => by
  have hb' : I true b := by cases t; exact h.isub b hb; exact hb
  exact hm.keep b (h.ilt b hb') (fun ⟨n, q, hk, hμ⟩ => h.sep n b q hk hμ hb')
 have hM : MRel g m' w' μ' I' := { hm with
  i0 := fun t b hb => hI _ _ (h.i0 t b hb)
  inew := fun t b hb => by
   rcases hm.inew t b hb with k | k | k
   ·exact h.inew t b k
   ·exact .inr (hlive b k)
   ·exact .inr (.inr (Nat.le_trans h.size k))
  live := fun n b q hk hμ => by
   rcases hm.live n b q hk hμ with k | k
   ·exact hlive b k
   ·exact .inr (Nat.le_trans h.size k)
  os := hm.os.trans h.os
  tape := hm.tape.trans h.tape
  output := hm.output.trans h.output
  size := Nat.le_trans h.size hm.size
  keep := fun b hlt hL => by
   rw [hm.keep b (Nat.lt_of_lt_of_le hlt h.size) (fun hl => by
    rcases hlive b hl with k | k
    ·exact hL k
    ·omega)]
   exact h.keep b hlt hL }
 have hphi : ∀ x u, RC μ I w (shp s.m) x u -> RC μ' I' w' (shp m') (ks.foldl (fun x k => C.kill k x) x) u := by
  intro x u hx
  rcases ZfN ks x with ⟨e, h2⟩ | e
  ·rw [e]
   refine hx.same hI hst (fun k hk => ?_)
   refine hn k ?_ (fun hmem => by rw [h2 k hmem] at hk; cases hk)
   intro hl
   cases x with
   | ref n i o => simp only [C.has] at hk; obtain rfl := Nat.eq_of_beq_eq_true hk; obtain ⟨_, _, _, _, _, k2, _⟩ := hx; simp [shp, hl] at k2
   | mfull n => simp only [C.has] at hk; obtain rfl := Nat.eq_of_beq_eq_true hk; obtain ⟨_, _, _, _, k2, _⟩ := hx; simp [shp, hl] at k2
   | msl n s l cp => simp only [C.has] at hk; obtain rfl := Nat.eq_of_beq_eq_true hk; obtain ⟨_, _, _, _, _, _, ⟨_, _, k2, _⟩, _⟩ := hx; simp [shp, hl] at k2
   | _ => simp [C.has] at hk
  ·rw [e]; exact trivial
 have hR : Rel g ⟨ks.foldl (fun t k => t.map (D.kill k)) s.t, m', ks ++ s.k⟩ a w' μ' I' := by
  have hkept : ∀ k, look k g.m0 ≠ none -> k ∉ ((⟨ks.foldl (fun t k => t.map (D.kill k)) s.t, m', ks ++ s.k⟩ : St)).k -> μ' k = g.μ0 k /\ shp ((⟨ks.foldl (fun t k => t.map (D.kill k)) s.t, m', ks ++ s.k⟩ : St)).m k = shp g.m0 k := fun k hk hn' => by
   have h1 : k ∉ s.k := fun hmem => hn' (List.mem_append.2 (.inr hmem))
   have h2 : k ∉ ks := fun hmem => hn' (List.mem_append.2 (.inl hmem))
   obtain ⟨k1, k2⟩ := h.kept k hk h1
   have hl : look k s.m ≠ none := fun e => by
    have e1 : shp s.m k = none := by simp [shp, e]
    rw [e1] at k2
    exact hk (by simpa [shp] using k2.symm)
   obtain ⟨k3, k4⟩ := hn k hl h2
   exact ⟨k3.trans k1, k4.trans k2⟩
  refine { toMRel := hM, tm := ?_, len := ?_, dfr := h.dfr, kept := hkept }
  ·intro i
   show RD μ' I' w' (shp m') ((ks.foldl (fun t k => t.map (D.kill k)) s.t).getD i (.c .bad)) _
   have hb : ks.foldl (fun x k => C.kill k x) C.bad = .bad := by rcases ZfN ks .bad with ⟨e, _⟩ | e <;> exact e
   rw [ZiL, Zg7 hb]
   exact (h.tm i).map hphi
  ·show (ks.foldl _ s.t).length = _
   rw [ZiL, List.length_map]; exact h.len
 exact ⟨μ', I', hR.putd hd⟩
theorem call_wp [DR] (he : EnvFull P c) (h : Rel g s a w μ I) {o : Oper} {f : Operand} {args : Array Operand} {ts : Array TypeId} (ho : o.op = .call { callee := .value f, args := args, argTypes := ts }) {nm : Nat}
  (hr : ((callD c nm s (opd s f) (args.toList.map (opd s))).bind fun (s, d) => .ret (s.putd o.dst d)).run = some st) {Kc : Act -> World -> Prop} (hK : ∀ a' w', Ok g st a' w' -> Kc a' w') (Q : Exit -> Act -> World -> Prop) : o.wp P a w Kc Q := by
 obtain ⟨⟨s1, d⟩, h1, h2⟩ := Br.bind_some hr
 obtain rfl := Option.some.inj h2
 unfold callD at h1
 split at h1
 ·rename_i gf caps hf
  split at h1
  ·rename_i orc horc
   obtain ⟨⟨d', m', ks⟩, h3, h4⟩ := Br.bind_some h1
   obtain ⟨rfl, rfl⟩ := Prod.mk.inj (Option.some.inj h4)
   have hfv := Zae h f
   rw [hf] at hfv
   obtain ⟨cvs, hfe, hcv⟩ := hfv
   obtain ⟨⟨fn, e1, e2, e3⟩, hcall⟩ := he.orc gf orc horc
   have hargs : RDs μ I w (shp s.m) (args.toList.map (opd s) ++ caps.map .c) (args.toList.map a.eval ++ cvs) := by
    refine ⟨by simp [hcv.1], fun j d v hd hv => ?_⟩
    by_cases hj : j < (args.toList.map (opd s)).length
    ·rw [List.getElem?_append_left hj] at hd
     rw [List.getElem?_append_left (by simpa using hj)] at hv
     rw [List.getElem?_map] at hd hv
     obtain ⟨x, hx, rfl⟩ := Option.map_eq_some_iff.1 hd
     obtain ⟨y, hy, rfl⟩ := Option.map_eq_some_iff.1 hv
     rw [hx] at hy
     obtain rfl := Option.some.inj hy
     exact Zae h x
    ·rw [List.getElem?_append_right (by omega)] at hd
     rw [List.getElem?_append_right (by simpa using hj)] at hv
     rw [List.getElem?_map] at hd
     obtain ⟨x, hx, rfl⟩ := Option.map_eq_some_iff.1 hd
     have : (args.toList.map (opd s)).length = (args.toList.map a.eval).length := by simp
     rw [this] at hx
     exact hcv.2 _ x v hx hv
   have hM0 : MRel (ZaZ w I s.m μ) s.m w μ I := { h.toMRel with
    i0 := fun t b hb => hb
    inew := fun t b hb => .inl hb
    live := fun n b q hk hμ => .inl ⟨n, q, hk, hμ⟩
    os := rfl
    tape := TP.refl _
    output := rfl
    size := Nat.le_refl _
    keep := fun b _ _ => rfl }
   have hc := hcall w μ I s.m nm _ _ d' m' ks hM0 hargs h3
   unfold Oper.wp execOp
   simp only [ho, resolve, Deferred.ofValue, hfe, invoke, callFunc, Sem.run_bind, Sem.run_pure, Result.andThen_ok, run_program, e1]
   rw [if_neg (by rw [e2]; simp), if_neg (by rw [e3]; simp)]
   have eargs : (#[] ++ args.map a.eval ++ cvs.toArray : Array Value) = (args.toList.map a.eval ++ cvs).toArray := by
    apply Array.ext'
    simp
   simp only [Sem.run_pure, Oper.upon]
   rw [eargs]
   refine hc.mono ?_
   rintro e w' ⟨v, μ', I', rfl, r1, r2, r3, r4⟩
   exact hK _ _ (call_fin h r1 r2 r3 r4 o.dst)
  ·cases h1
 ·cases h1
end Go.PI

namespace Go.PI
open Go.RowKit
variable {P : Program} {c : Ctx} {g : Cfg} {s st : St} {a : Act} {w : World} {μ : Nm} {I : Bool -> Nat -> Prop}
theorem ZaG [DR] (h : Rel g s a w μ I) {o : Oper} {d : D} {v : Value} (hrun : (execOp a.eval o).run P w = .ok (.value v) w) (hd : RD μ I w (shp s.m) d v) (hs : (Br.ret (s.putd o.dst d)).run = some st) {Kc : Act -> World -> Prop} (hK : ∀ a' w', Ok g st a' w' -> Kc a' w') (Q : Exit -> Act -> World -> Prop) : o.wp P a w Kc Q := by
 obtain rfl := Option.some.inj hs
 exact ZbQ hrun (hK _ _ ⟨μ, I, h.putd hd⟩)
theorem Zcq {o : Option D} {dst : Option Tmp} (hs : (match o with | some d => .ret (s.putd dst d) | none => .no : Br St).run = some st) : ∃ d, o = some d /\ (Br.ret (s.putd dst d)).run = some st := by
 cases o with
 | none => cases hs
 | some d => exact ⟨d, rfl, hs⟩
theorem Zif [DR] (h : Rel g s a w μ I) {k : IntKind} : ∀ {l : List Operand} {r : List Int}, Zlq k s l = some r -> ∀ n, InK k n ->
  ((l.map a.eval).foldlM Builtin.min2 (.int k n)).run P w = .ok (.int k (minC r n)) w /\ ((l.map a.eval).foldlM Builtin.max2 (.int k n)).run P w = .ok (.int k (maxC r n)) w /\ InK k (minC r n) /\ InK k (maxC r n)
 | [], r, hr, n, hn => by
  obtain rfl := Option.some.inj hr
  exact ⟨rfl, rfl, hn, hn⟩
 | x :: l, r, hr, n, hn => by
  simp only [Zlq] at hr
  split at hr
  ·rename_i t k' m r' hx hl
   cases hk : decide (k' = k) with
   | false => simp only [hk, cond_false] at hr; cases hr
   | true =>
    simp only [hk, cond_true] at hr
    obtain rfl := Option.some.inj hr
    obtain rfl := of_decide_eq_true hk
    have hv := Zae h x
    rw [hx] at hv
    obtain ⟨e, hm⟩ := hv.int
    have h1 := Zif h hl (if m < n then m else n) (by split <;> assumption)
    have h2 := Zif h hl (if n < m then m else n) (by split <;> assumption)
    refine ⟨?_, ?_, h1.2.2.1, h2.2.2.2⟩
    ·simp only [List.map_cons, List.foldlM_cons, e, Builtin.min2, Sem.run_bind, Sem.run_pure, Result.andThen_ok]
     exact h1.1
    ·simp only [List.map_cons, List.foldlM_cons, e, Builtin.max2, Sem.run_bind, Sem.run_pure, Result.andThen_ok]
     exact h2.2.1
  ·cases hr
theorem Zr4 [DR] (h : Rel g s a w μ I) : ∀ {l : List Operand} {r : List C}, argsC s l = some r -> RL μ I w (shp s.m) r (l.map a.eval)
 | [], r, hr => by
  obtain rfl := Option.some.inj hr
  exact RL.nil
 | x :: l, r, hr => by
  simp only [argsC] at hr
  split at hr
  ·rename_i k r' hx hl
   obtain rfl := Option.some.inj hr
   have hv := Zae h x
   rw [hx] at hv
   exact RL.mk_cons hv (Zr4 h hl)
  ·cases hr
theorem ZtR {n : Nat} {s : St} {mb : MB} (hl : look n s.m = some mb) {k : Nat} (hk : look k (s.freeze n).m ≠ none) : shp (s.freeze n).m k = shp s.m k := by
 have e0 : s.freeze n = ⟨s.t.map (D.freeze n mb), (delm n s.m).map fun p => (p.1, MB.freeze n mb p.2), n :: s.k⟩ := by unfold St.freeze; rw [hl]
 rw [e0] at hk ⊢
 by_cases e : k = n
 ·subst e
  rw [Zaz, Zap] at hk
  exact absurd rfl hk
 ·unfold shp
  rw [Zaz, Zaj e, Option.map_map]
  congr 1
  funext mb'
  rw [MB.freeze_map]
  exact MB.shape_map _ _
theorem ZeA : ∀ (ns : List Nat) (s : St) (d : D) (k : Nat), look k (ZaA ns (s, d)).1.m ≠ none -> shp (ZaA ns (s, d)).1.m k = shp s.m k
 | [], s, d, k, h => rfl
 | n :: r, s, d, k, h => by
  cases hl : look n s.m with
  | none =>
   have e : ZaA (n :: r) (s, d) = ZaA r (s, d) := by simp [ZaA, hl]
   rw [e] at h ⊢
   exact ZeA r s d k h
  | some mb =>
   have e : ZaA (n :: r) (s, d) = ZaA r (s.freeze n, d.freeze n mb) := by simp [ZaA, hl]
   rw [e] at h ⊢
   have ih := ZeA r (s.freeze n) (d.freeze n mb) k h
   rw [ih]
   refine ZtR hl (fun e2 => ?_)
   have : shp (s.freeze n).m k = none := by simp [shp, e2]
   rw [this] at ih
   simp only [shp, Option.map_eq_none_iff] at ih
   exact h ih
theorem Zra [DR] (n : Nat) (h : Rel g s a w μ I) {d : D} {v : Value} (hd : RD μ I w (shp s.m) d v) : ∃ I', Rel g (ZbD s n d).1 a w μ I' /\ RD μ I' w (shp (ZbD s n d).1.m) (ZbD s n d).2 v /\ ∀ k, look k (ZbD s n d).1.m ≠ none -> shp (ZbD s n d).1.m k = shp s.m k := by
 unfold ZbD
 split
 ·obtain ⟨I', h1, h2⟩ := ZbN d.names h hd
  exact ⟨I', h1, h2, fun k hk => ZeA _ _ _ k hk⟩
 ·exact ⟨I, h, hd, fun _ _ => rfl⟩
theorem Ztu [DR] (h : Rel g s a w μ I) (f : Operand) (l : List Operand) : ∃ I', Rel g (ZlG c s f l) a w μ I' := by
 unfold ZlG
 split
 ·cases c.frz _ with
  | true => exact ZlV _ h
  | false => exact ⟨I, h⟩
 ·exact ⟨I, h⟩
theorem ZoH {t : Nat} {ti : TI} (ht : TOk P t ti) (w : World) (cs : List Value) (off : Nat) (h : off + ti.ty.sz <= cs.length) : (part t cs.toArray off).run P w = .ok (ZaE ti.ty ((cs.drop off).take ti.ty.sz)) w := by
 unfold part ZaE
 simp only [Sem.run_bind, run_isAgg' ht, Result.andThen_ok]
 cases e : ti.ty.isAgg with
 | true =>
  simp only [if_true, Sem.run_bind, run_sizeOf' ht, Result.andThen_ok, Sem.run_pure, cond_true]
  congr 2
  apply Array.ext'
  simp [List.extract_eq_take_drop]
 | false =>
  rw [Zfo e] at h ⊢
  have hlt : off < cs.length := by omega
  have e2 : (cs.drop off).take 1 = [cs[off]] := by rw [List.drop_eq_getElem_cons hlt]; rfl
  rw [e2]
  simp [hlt]
theorem ZmY {n : Nat} {mb : MB} : ∀ {m : Mem}, look n m = some mb -> setm n mb m = m
 | [], h => by cases h
 | (k, b) :: r, h => by
  simp only [look] at h
  simp only [setm]
  cases hk : Nat.beq k n with
  | true => rw [hk, cond_true] at h; rw [cond_true, Option.some.inj h]
  | false => rw [hk, cond_false] at h; rw [cond_false, ZmY h]
theorem clear_ok [DR] (h : Rel g s a w μ I) {t e : Nat} {τ : Ty} {by_ : Nat} (ht : TOk P t ⟨.sl τ, by_, .sl e⟩) {ti : TI} (hte : TOk P e ti) (hτ : ti.ty = τ) (hz : 0 < τ.sz) {n o l : Nat} {cp b : Bool} {e' : Nat} {xs : List τ.T} (hl : look n s.m = some (.ar b e' τ xs)) {v : Value}
  (hv : RC μ I w (shp s.m) (.msl n o l cp) v) (ty : TypeId) :
  ∃ w', (Builtin.clear_ #[t] ty #[v]).run P w = .ok (.tuple #[]) w' /\ Rel g ⟨s.t, setm n (.ar b e' τ (xs.take o ++ List.replicate l τ.zero ++ xs.drop (o + l))) s.m, s.k⟩ a w' μ I := by
 subst hτ
 obtain ⟨info, d, _, hu, _, _, _, _, _, hd⟩ := ht
 simp only at hd
 subst hd
 obtain ⟨A, cap, rfl, hlc, hcm, hcp, ⟨len, z, e2, hle, hA⟩, _⟩ := hv
 rw [Zal hl] at e2
 obtain ⟨rfl, rfl⟩ := Prod.mk.inj (Option.some.inj e2)
 rcases Nat.eq_zero_or_pos l with h0 | h0
 ·subst h0
  refine ⟨w, by cases A <;> simp [Builtin.clear_, run_underlying hu], ?_⟩
  have : xs.take o ++ List.replicate 0 ti.ty.zero ++ xs.drop (o + 0) = xs := by simp
  rw [this, ZmY hl]
  exact h
 ·obtain ⟨b0, q, e1, rfl⟩ := hA h0
  rcases h.mem n _ hl with ⟨b', q', e3, hbr⟩ | ⟨e3, _⟩
  case inr => rw [e1] at e3; cases e3
  rw [e1] at e3
  obtain ⟨rfl, rfl⟩ := Prod.mk.inj (Option.some.inj e3)
  obtain ⟨cur, el, hh, hq, hel, cap', hcap, hlc', hcm', hrow⟩ := hbr
  have hzc : (Builtin.zeroCells (ZaE ti.ty (Zak ti.ty)).cells l) = madeCells (Zak ti.ty).toArray (l * ti.ty.sz) := by
   rw [Zfq]
   unfold Builtin.zeroCells madeCells
   simp [ZbZ]
  have hmade := ZjI (I b) w ti.ty l hz
  have hzl : (madeCells (Zak ti.ty).toArray (l * ti.ty.sz)).toList.length = l * ti.ty.sz := by simp [size_madeCells]
  have hone : ∀ v ∈ (madeCells (Zak ti.ty).toArray (l * ti.ty.sz)).toList, v.oneCell' = true := by
   intro v hv
   simp only [madeCells, Array.toList_map, List.mem_map, Array.toList_range, List.mem_range] at hv
   obtain ⟨j, hj, rfl⟩ := hv
   have hm : j % ti.ty.sz < (Zak ti.ty).length := by rw [ZbZ]; exact Nat.mod_lt _ hz
   have : (Zak ti.ty).toArray[j % (Zak ti.ty).toArray.size]! ∈ Zak ti.ty := by
    simp only [List.size_toArray, ZbZ]
    simp [hm]
   exact (ZbF (I b) w ti.ty).one _ this
  have hcl : cur.toList.length = cap' * ti.ty.sz := by rw [Array.length_toList, hq, hcap]
  have hle1 : (o + l) * ti.ty.sz <= xs.length * ti.ty.sz := Nat.mul_le_mul_right _ hle
  have hle2 : xs.length * ti.ty.sz <= cap' * ti.ty.sz := Nat.mul_le_mul_right _ hlc'
  rw [Nat.add_mul] at hle1
  have hrun := run_storeCells_at P b0 (o * ti.ty.sz) el (madeCells (Zak ti.ty).toArray (l * ti.ty.sz)).toList 0 cur w hh (by rw [hzl, Nat.add_zero, <- Array.length_toList, hcl]; omega) hone
  simp only [Nat.add_zero, hzl] at hrun
  have hrow' := ((hrow.takeR o (by omega)).appendR hmade).appendR (hrow.dropR (o + l))
  have hxl : (xs.take o ++ List.replicate l ti.ty.zero ++ xs.drop (o + l)).length = xs.length := by
   simp only [List.length_append, List.length_take, List.length_replicate, List.length_drop]
   omega
  have hcells : ((cur.toList.take (o * ti.ty.sz) ++ (madeCells (Zak ti.ty).toArray (l * ti.ty.sz)).toList ++ cur.toList.drop (o * ti.ty.sz + l * ti.ty.sz))).take (xs.length * ti.ty.sz) =
    (cur.toList.take (xs.length * ti.ty.sz)).take (o * ti.ty.sz) ++ (madeCells (Zak ti.ty).toArray (l * ti.ty.sz)).toList ++ (cur.toList.take (xs.length * ti.ty.sz)).drop ((o + l) * ti.ty.sz) := by
   rw [List.take_take, Nat.min_eq_left (by omega), List.take_append, List.length_append, hzl, List.length_take, Nat.min_eq_left (by omega), List.take_of_length_le (by rw [List.length_append, hzl, List.length_take]; omega), List.drop_take, Nat.add_mul]
  refine ⟨_, ?_, h.store hl e1 ?_ hh (cur' := (cur.toList.take (o * ti.ty.sz) ++ (madeCells (Zak ti.ty).toArray (l * ti.ty.sz)).toList ++ cur.toList.drop (o * ti.ty.sz + l * ti.ty.sz)).toArray) ?_⟩
  ·obtain ⟨m, rfl⟩ : ∃ m, l = m + 1 := ⟨l - 1, by omega⟩
   simp [Builtin.clear_, run_underlying hu, run_zero' hte, hzc, hrun]
  ·simp only [MB.shape, hxl]
  ·intro w' hw' hst
   refine ⟨_, el, hw', ?_, hel, cap', hcap, by rw [hxl]; exact hlc', hcm', ?_⟩
   ·simp only [List.size_toArray, List.length_append, hzl, List.length_take, List.length_drop, hcl, hcap]
    omega
   ·rw [List.toList_toArray, hxl, hcells]
    exact hrow'.imp fun x k hk => hk.mono (fun b k => k) (hst _)
theorem Zc0 [DR] (he : EnvFull P c) (o : Oper) : Good P c o := by
 intro g s st a w Kc Q hok hs hK
 obtain ⟨μ, I, h⟩ := hok
 unfold Zam at hs
 have hm := h.toMRel
 cases ho : o.op with
 | move x =>
  simp only [ho] at hs
  exact ZaG h (by simp [execOp, ho]) (Zae h x) hs hK Q
 | assign x =>
  simp only [ho] at hs
  exact ZaG h (by simp [execOp, ho]) (Zae h x) hs hK Q
 | pick k x y =>
  simp only [ho] at hs
  obtain ⟨b, hb, hs⟩ := Zse (Zae h k) hs
  cases b with
  | true => exact ZaG h (by simp [execOp, ho, hb, asBool]) (Zae h x) hs hK Q
  | false => exact ZaG h (by simp [execOp, ho, hb, asBool]) (Zae h y) hs hK Q
 | alloc t =>
  simp only [ho] at hs
  split at hs
  ·rename_i n τ by_ td ht
   cases hc : (decide (n <= 1048576) && decide (0 < n)) with
   | false => simp only [hc, cond_false] at hs; cases hs
   | true =>
    simp only [hc, cond_true] at hs
    obtain rfl := Option.some.inj hs
    simp only [Bool.and_eq_true, decide_eq_true_eq] at hc
    have hT := he.tb _ _ ht
    exact ZbQ (by simp [execOp, ho, ZnL hT]) (hK _ _ (ZuH h hT _ _ hc.1 hc.2))
  ·rename_i ti hn ht
   obtain rfl := Option.some.inj hs
   have hT := he.tb _ _ ht
   exact ZbQ (by simp [execOp, ho, ZnL hT]) (hK _ _ (alloc_ok h hT _ _))
  ·cases hs
 | box t x =>
  simp only [ho] at hs
  split at hs
  ·rename_i ti ht
   obtain ⟨r, w', h1, h2⟩ := box_ok h (he.tb _ _ ht) (Zae h x) _ o.dst hs
   exact ZbQ (by simp [execOp, ho, h1]) (hK _ _ h2)
  ·cases hs
 | build t parts =>
  simp only [ho] at hs
  obtain ⟨d, hd, hs⟩ := Zcq hs
  obtain ⟨r, h1, h2⟩ := build_ok he.tb h hd
  exact ZaG h (by simp only [execOp, ho, Sem.run_bind, h1, Result.andThen_ok, Sem.run_pure]) h2 hs hK Q
 | buildSlice t len parts =>
  simp only [ho] at hs
  split at hs
  ·rename_i τ by_ e ht
   split at hs
   ·rename_i ti hte
    cases hc : (decide (ti.ty = τ) && decide (len * τ.sz <= 16777216) && decide (0 < τ.sz)) with
    | false => simp only [hc, cond_false] at hs; cases hs
    | true =>
     simp only [hc, cond_true] at hs
     simp only [Bool.and_eq_true, decide_eq_true_eq] at hc
     obtain ⟨I', h'⟩ := ZlV parts.toList h
     split at hs
     ·rename_i b xs hrow
      obtain rfl := Option.some.inj hs
      obtain ⟨r, w', h1, h2⟩ := ZnZ he.tb h' (he.tb _ _ ht) (he.tb _ _ hte) hc.1.1 hc.1.2 hc.2 hrow (c.base + o.dst.getD 0) o.dst
      exact ZbQ (by simp only [execOp, ho, Sem.run_bind, h1, Result.andThen_ok, Sem.run_pure]) (hK _ _ h2)
     ·cases hs
   ·cases hs
  ·cases hs
 | load t x =>
  simp only [ho] at hs
  split at hs
  ·rename_i ti p ht hp
   obtain ⟨d, hd, hs⟩ := Zcq hs
   have hv := Zae h x
   rw [hp] at hv
   obtain ⟨v', h1, h2⟩ := ZrL hm (he.tb _ _ ht) hv hd
   exact ZaG h (by simp only [execOp, ho, Sem.run_bind, h1, Result.andThen_ok, Sem.run_pure]) h2 hs hK Q
  ·cases hs
 | store t x y =>
  simp only [ho] at hs
  split at hs
  ·rename_i ti n i off ht hp
   cases hz : decide (0 < ti.ty.sz) with
   | false => simp only [hz, cond_false] at hs; cases hs
   | true =>
    simp only [hz, cond_true] at hs
    have hz := of_decide_eq_true hz
    have hv := Zae h x
    rw [hp] at hv
    have hy := Zae h y
    obtain ⟨I', hr, hd, hsh⟩ := Zra n h (Zae h y)
    generalize ZbD s n (opd s y) = p at hs hr hd hsh
    split at hs
    ·rename_i mb hl
     split at hs
     ·rename_i mb' hst
      obtain rfl := Option.some.inj hs
      obtain ⟨b, q, len, z, e1, e2, e3, e4⟩ := hv
      have hv3 : RC μ I' w (shp p.1.m) (.ref n i off) (a.eval x) := ⟨b, q, len, z, e1, (hsh n (by rw [hl]; simp)).trans e2, e3, e4⟩
      obtain ⟨w', h1, h2⟩ := store_ok hr (he.tb _ _ ht) hl hv3 hd hz hst
      unfold Oper.wp
      simp only [execOp, ho, Sem.run_bind, h1, Result.andThen_ok, Sem.run_pure]
      exact hK _ _ ⟨μ, I', h2.putd trivial⟩
     ·cases hs
    ·cases hs
  ·cases hs
 | nilCheck x =>
  simp only [ho] at hs
  have hv := Zae h x
  split at hs
  ·rename_i n i k hx
   rw [hx] at hv
   have hv' := hv
   obtain ⟨b, q, len, z, _, _, _, e⟩ := hv
   exact ZaG h (by simp [execOp, ho, e]) (e ▸ hv') hs hK Q
  ·rename_i b τ xs i k hx
   rw [hx] at hv
   have hv' := hv
   obtain ⟨ad, cells, e, _⟩ := hv
   exact ZaG h (by simp [execOp, ho, e]) (e ▸ hv') hs hK Q
  ·rename_i b τ v hx
   rw [hx] at hv
   obtain ⟨hsome, hs⟩ := ZaM hs
   cases v with
   | none => cases hsome
   | some y =>
    obtain ⟨ad, cells, e, hI, hc, hk⟩ := nil_ptr (hv.2 rfl)
    refine ZaG h (v := .pointer (some ad)) (by simp [execOp, ho, e]) ?_ hs hK Q
    obtain ⟨bb, oo, sp⟩ := ad
    obtain rfl : sp = none := hc.1
    refine ⟨⟨bb, oo, none⟩, cells, by simp, by simp, hI, hc, ?_⟩
    have := Row.cons hk.length hk (Row.nil (K (I b) w τ) τ.sz)
    rwa [List.append_nil] at this
  ·rename_i b τ l hx
   rw [hx] at hv
   obtain ⟨hne, hs⟩ := ZaM hs
   cases l with
   | nil => cases hne
   | cons y r =>
    obtain ⟨ad, cells, e, hI, hc, hk⟩ := Zuh (hv.2 rfl)
    refine ZaG h (v := .pointer (some ad)) (by simp [execOp, ho, e]) ?_ hs hK Q
    obtain ⟨bb, oo, sp⟩ := ad
    obtain rfl : sp = none := hc.1
    refine ⟨⟨bb, oo, none⟩, cells, by simp, by simp, hI, hc, ?_⟩
    have := Row.cons hk.length hk (Row.nil (K (I b) w (.st (.pair τ (.pair (.chain τ) (.int .i64))))) (Ty.st (.pair τ (.pair (.chain τ) (.int .i64)))).sz)
    rwa [List.append_nil] at this
  ·cases hs
 | binOp op xt x y yt =>
  simp only [ho] at hs
  obtain ⟨d, hd, hs⟩ := Br.bind_some hs
  obtain ⟨r, h1, h2⟩ := bin_ok he.toEnvOk h.isub (Zae h x) (Zae h y) hd x y
  exact ZaG h (by simp only [execOp, ho]; rw [Sem.run_bind, h1]; rfl) h2 hs hK Q
 | unOp op t x =>
  simp only [ho] at hs
  obtain ⟨d, hd, hs⟩ := Br.bind_some hs
  obtain ⟨r, h1, h2⟩ := un_ok (P := P) (Zae h x) hd
  exact ZaG h (by simp only [execOp, ho, Sem.run_bind, h1, Result.andThen_ok, Sem.run_pure]) h2 hs hK Q
 | convert src dst x =>
  simp only [ho] at hs
  split at hs
  ·rename_i ts k _ _ t k' n hsrc hdst hx
   have hv := Zae h x
   rw [hx] at hv
   obtain ⟨e, hn⟩ := hv.int
   obtain ⟨_, _, _, us, _⟩ := he.tb _ _ hsrc
   obtain ⟨_, d, _, ud, _, _, _, _, hb, _⟩ := he.tb _ _ hdst
   simp only at hb
   subst hb
   exact ZaG h (by simp [execOp, ho, e, convert, run_underlying us, run_underlying ud, Conv.intToInt]) (RD.ofInt (Zde _ _) _) hs hK Q
  ·rename_i ts _ _ b v hsrc hdst hx
   have hv := Zae h x
   rw [hx] at hv
   have hv' := hv
   obtain ⟨e, hn⟩ := hv.str
   obtain ⟨_, _, _, us, _⟩ := he.tb _ _ hsrc
   obtain ⟨_, d, _, ud, _, _, _, _, hb, _⟩ := he.tb _ _ hdst
   simp only at hb
   subst hb
   exact ZaG h (by simp [execOp, ho, e, convert, run_underlying us, run_underlying ud]) (e ▸ hv') hs hK Q
  ·cases hs
 | makeFunc fn first caps =>
  cases fn with
  | func f =>
   simp only [ho] at hs
   cases hc : decide (first.size = 0) with
   | false => simp only [hc, cond_false] at hs; cases hs
   | true =>
    simp only [hc, cond_true] at hs
    split at hs
    ·rename_i l hl
     have hf : first = #[] := Array.eq_empty_of_size_eq_zero (of_decide_eq_true hc)
     have hd : RD μ I w (shp s.m) (.fn f l) (.func (.func f) #[] (caps.map a.eval)) := ⟨caps.toList.map a.eval, by congr 1; apply Array.ext'; simp, Zr4 h hl⟩
     exact ZaG h (by simp [execOp, ho, Instr.makeFunc, hf]) hd hs hK Q
    ·cases hs
  | _ => simp only [ho] at hs; cases hs
 | makeSlice t l k =>
  simp only [ho] at hs
  split at hs
  ·rename_i τ by_ e lv kv ht hl hk
   split at hs
   ·rename_i ti hte
    cases hc : (decide (ti.ty = τ) && decide (0 < τ.sz) && decide (0 < ti.bytes)) with
    | false => simp only [hc, cond_false] at hs; cases hs
    | true =>
     simp only [hc, cond_true] at hs
     simp only [Bool.and_eq_true, decide_eq_true_eq] at hc
     obtain ⟨h1, hs⟩ := ZaM hs
     obtain rfl := Option.some.inj hs
     simp only [Bool.and_eq_true, decide_eq_true_eq] at h1
     obtain ⟨kl, el⟩ := Zdo (Zae h l) hl
     have hkv := Zae h k
     have hkk : ∃ kc, a.eval k = .int kc kv /\ InK kc kv := by
      unfold intD at hk
      split at hk
      ·rename_i t' k' n' hx
       obtain rfl := Option.some.inj hk
       rw [hx] at hkv
       exact ⟨_, hkv.int⟩
      ·cases hk
     obtain ⟨kc, ek, hkin⟩ := hkk
     have hk64 : kv <= 9223372036854775807 := by
      have hb : kv.toNat * ti.bytes <= 140737488355328 := of_decide_eq_true h1.2
      have : kv.toNat * 1 <= kv.toNat * ti.bytes := Nat.mul_le_mul_left _ hc.2
      omega
     obtain ⟨r, w', h2, h3⟩ := Zpe h (he.tb _ _ ht) (he.tb _ _ hte) hc.1.1 hc.1.2 (kl := kl) (kc := kc) h1.1.1 h1.1.2 h1.2 hkin hk64 (c.base + o.dst.getD 0) o.dst
     exact ZbQ (by simp only [execOp, ho, Sem.run_bind, el, ek, h2, Result.andThen_ok, Sem.run_pure]) (hK _ _ h3)
   ·cases hs
  ·cases hs
 | slice t x lo hi mx =>
  simp only [ho] at hs
  split at hs
  ·rename_i _ _ ht
   obtain ⟨_, d, _, ud, _, _, _, _, hb, _⟩ := he.tb _ _ ht
   simp only at hb
   subst hb
   split at hs
   ·rename_i b v hx
    obtain ⟨d, hd, hs⟩ := Br.bind_some hs
    have hv := Zae h x
    rw [hx] at hv
    obtain ⟨r, h1, h2⟩ := Zq6 h ud hv hd
    exact ZaG h (by simp only [execOp, ho, Sem.run_bind, h1, Result.andThen_ok, Sem.run_pure]) h2 hs hK Q
   ·cases hs
  ·rename_i τ by_ e ht
   obtain ⟨_, d, _, ud, _, _, _, _, _, hd⟩ := he.tb _ _ ht
   simp only at hd
   subst hd
   cases hc : ZdD c e τ with
   | false => simp only [hc, cond_false] at hs; cases hs
   | true =>
    simp only [hc, cond_true] at hs
    obtain ⟨d, hd, hs⟩ := Br.bind_some hs
    obtain ⟨r, h1, h2⟩ := slice_ok h ud (Ziu he.toEnvOk hc w) (Zae h x) hd
    exact ZaG h (by simp only [execOp, ho, Sem.run_bind, h1, Result.andThen_ok, Sem.run_pure]) h2 hs hK Q
  ·cases hs
 | fieldAddr t x f =>
  simp only [ho] at hs
  split at hs
  ·rename_i off τ p hf hp
   cases hz : decide (τ.sz = 0) with
   | true => simp only [hz, cond_true] at hs; cases hs
   | false =>
    simp only [hz, cond_false] at hs
    obtain ⟨d, hd, hs⟩ := Zcq hs
    obtain ⟨q, hq, rfl⟩ := Option.map_eq_some_iff.1 hd
    have hv := Zae h x
    rw [hp] at hv
    obtain ⟨b, oo, e, hr⟩ := ZuY hv hq
    obtain ⟨fs, hu, places, _, _, fld, u, hfi, hfo, hft, ti, hti, hty⟩ := ZgC he.tb hf
    have hfi' : fs[f]? = some fld := by simpa using hfi
    refine ZaG h (d := .c q) (v := .pointer (some ⟨b, oo + off, none⟩)) ?_ hr hs hK Q
    have hsz := run_sizeOf' (he.tb _ _ hti) w
    rw [hty] at hsz
    simp only [execOp, ho, Instr.fieldAt, Sem.run_bind, run_underlying hu, Result.andThen_ok, hfi', e, Instr.sureAddr, Sem.run_pure, fieldPlace, hft, hsz]
    rw [if_neg (of_decide_eq_false hz)]
    simp [hfo, Addr.add_lit]
  ·cases hs
 | indexAddr t x i =>
  simp only [ho] at hs
  split at hs
  ·rename_i iv τ by_ e hi ht
   obtain ⟨_, d, _, ud, _, _, _, _, _, hd⟩ := he.tb _ _ ht
   simp only at hd
   subst hd
   cases hc : ZdD c e τ with
   | false => simp only [hc, cond_false] at hs; cases hs
   | true =>
    simp only [hc, cond_true] at hs
    obtain ⟨d, hd, hs⟩ := Br.bind_some hs
    obtain ⟨k, ei⟩ := Zdo (Zae h i) hi
    obtain ⟨r, h1, h2⟩ := index_ok hm ud (Ziu he.toEnvOk hc w) (k := k) (Zae h x) hd
    exact ZaG h (by simp only [execOp, ho, Sem.run_bind, ei, h1, Result.andThen_ok, Sem.run_pure]) h2 hs hK Q
  ·rename_i iv n τ by_ k e hi ht
   obtain ⟨_, d, _, ud, _, _, _, _, _, hd⟩ := he.tb _ _ ht
   simp only at hd
   subst hd
   cases hc : ZdD c e τ with
   | false => simp only [hc, cond_false] at hs; cases hs
   | true =>
    simp only [hc, cond_true] at hs
    obtain ⟨d, hd, hs⟩ := Br.bind_some hs
    obtain ⟨k, ei⟩ := Zdo (Zae h i) hi
    obtain ⟨r, h1, h2⟩ := Zuj hm ud (Ziu he.toEnvOk hc w) (k := k) (Zae h x) hd
    exact ZaG h (by simp only [execOp, ho, Sem.run_bind, ei, h1, Result.andThen_ok, Sem.run_pure]) h2 hs hK Q
  ·cases hs
 | index t x i =>
  simp only [ho] at hs
  split at hs
  ·rename_i _ _ b v iv ht hx hi
   obtain ⟨_, d, _, ud, _, _, _, _, hb, _⟩ := he.tb _ _ ht
   simp only at hb
   subst hb
   obtain ⟨h1, hs⟩ := ZaM hs
   simp only [Bool.and_eq_true, decide_eq_true_eq] at h1
   have hv := Zae h x
   rw [hx] at hv
   obtain ⟨e, _⟩ := hv.str
   obtain ⟨k, ei⟩ := Zdo (Zae h i) hi
   have hlt : iv.toNat < v.size := by omega
   have hlt' : iv.toNat < v.data.size := hlt
   have hgb : (bl v).getD iv.toNat 0 = v.data.getD iv.toNat 0 := by
    unfold bl
    rw [List.getD, Array.getElem?_toList, Array.getD_eq_getD_getElem?]
   rw [hgb] at hs
   have hg : v[iv.toNat]? = some (v.data.getD iv.toNat 0) := by
    rw [getElem?_pos v iv.toNat hlt]
    unfold Array.getD
    rw [dif_pos hlt']
    rfl
   refine ZaG h (v := .int .u8 ((v.data.getD iv.toNat 0).toNat : Int)) ?_ (RD.ofInt ?_ _) hs hK Q
   ·simp only [execOp, ho, Instr.index, e, ei, asIntOf, Sem.run_bind, Sem.run_pure, Result.andThen_ok, run_underlying ud, h1.1, if_true, hg]
   ·have := (v.data.getD iv.toNat 0).toNat_lt
    generalize (v.data.getD iv.toNat 0).toNat = qq at *
    unfold InK
    simp [IntKind.min, IntKind.max, IntKind.signed, IntKind.bits]
    omega
  ·rename_i n τ by_ k e iv ht hi
   obtain ⟨_, d, _, ud, _, _, _, _, _, hd⟩ := he.tb _ _ ht
   simp only at hd
   subst hd
   split at hs
   ·rename_i b xs hx
    cases hc : (ZdD c e τ && decide (k = n)) with
    | false => simp only [hc, cond_false] at hs; cases hs
    | true =>
     simp only [hc, cond_true] at hs
     simp only [Bool.and_eq_true, decide_eq_true_eq] at hc
     obtain ⟨hty, rfl⟩ := hc
     obtain ⟨h1, hs⟩ := ZaM hs
     simp only [Bool.and_eq_true, decide_eq_true_eq] at h1
     obtain ⟨cs, ev, hk⟩ := (Zbv h.isub hx (Zae h x)).1 rfl
     obtain ⟨hn, hl, hr⟩ := hk
     have hn : List.length xs = k := hn
     obtain ⟨kk, ei⟩ := Zdo (Zae h i) hi
     have hil : iv.toNat < List.length xs := by omega
     have hle : (iv.toNat + 1) * τ.sz <= List.length xs * τ.sz := Nat.mul_le_mul_right _ hil
     rw [Nat.add_mul] at hle
     have hsz := Ziu he.toEnvOk hty w
     unfold ZdD at hty
     split at hty
     ·rename_i ti hti
      obtain rfl := of_decide_eq_true hty
      have hp := ZoH (he.tb _ _ hti) w cs (iv.toNat * ti.ty.sz) (by rw [hl]; omega)
      have hke := hr iv.toNat _ (List.getElem?_eq_getElem hil)
      have e0 : List.getD xs iv.toNat ti.ty.zero = xs[iv.toNat] := by simp [List.getD, hil]
      rw [e0] at hs
      refine ZaG h (d := .c (.ty (b && ti.ty.hasP) ti.ty xs[iv.toNat])) ?_ (RD.fl (d := .c (.ty b ti.ty xs[iv.toNat])) (K.vk hke)) hs hK Q
      simp only [execOp, ho, Instr.index, ev, ei, asIntOf, Sem.run_bind, Sem.run_pure, Result.andThen_ok, run_underlying ud, h1, and_self, if_true, hsz, hp]
      rfl
     ·cases hty
   ·cases hs
  ·cases hs
 | field t x f =>
  simp only [ho] at hs
  split at hs
  ·rename_i off τ b σ v hf hx
   cases hag : σ.isAgg with
   | false => simp only [hag, cond_false] at hs; cases hs
   | true =>
    simp only [hag, cond_true] at hs
    obtain ⟨d, hd, hs⟩ := Zcq hs
    obtain ⟨gf, hg, rfl⟩ := Option.map_eq_some_iff.1 hd
    have hv := Zae h x
    rw [hx] at hv
    obtain ⟨cs, e, hk⟩ := hv.1 hag
    obtain ⟨r1, r2⟩ := ZeR hg hk
    obtain ⟨fs, hu, places, _, _, fld, u, hfi, hfo, hft, ti, hti, hty⟩ := ZgC he.tb hf
    have hfi' : fs[f]? = some fld := by simpa using hfi
    subst hty
    have hp := ZoH (he.tb _ _ hti) w cs off (by rw [hk.length]; exact r1)
    refine ZaG h (d := .c (.ty (b && ti.ty.hasP) ti.ty (gf v))) ?_ (RD.fl (d := .c (.ty b ti.ty (gf v))) r2.vk) hs hK Q
    simp only [execOp, ho, Instr.field, Sem.run_bind, run_underlying hu, Result.andThen_ok, hfi', e, asAgg, Sem.run_pure, hfo, hft, hp]
  ·cases hs
 | extract x i =>
  simp only [ho] at hs
  split at hs
  ·rename_i l hx
   obtain ⟨d, hd, hs⟩ := Zcq hs
   obtain ⟨q, hq, rfl⟩ := Option.map_eq_some_iff.1 hd
   have hv := Zae h x
   rw [hx] at hv
   obtain ⟨vs, e, hl⟩ := hv
   have hlt : i < vs.length := by rw [<- hl.1]; exact (List.getElem?_eq_some_iff.1 hq).1
   have hvi : vs[i]? = some vs[i] := List.getElem?_eq_getElem hlt
   exact ZaG h (d := .c q) (v := vs[i]) (by simp [execOp, ho, e, Instr.extract, hlt]) (hl.2 i q _ hq hvi) hs hK Q
  ·cases hs
 | call cl =>
  obtain ⟨callee, args, ts⟩ := cl
  cases callee with
  | value f =>
   simp only [ho] at hs
   obtain ⟨I', h'⟩ := Ztu (c := c) h f args.toList
   exact call_wp he h' ho hs hK Q
  | invoke r mth => simp only [ho] at hs; cases hs
  | builtin bi =>
   have toArr : ∀ {α : Type} {x : Array α} {l : List α}, x.toList = l -> x = l.toArray := fun {α x l} e => by rw [<- e]
   cases bi with
   | len =>
    simp only [ho] at hs
    split at hs
    ·rename_i x t hx ht
     have hx := toArr hx
     have ht := toArr ht
     subst hx ht
     split at hs
     ·rename_i _ _ htb
      obtain ⟨_, d, _, ud, _, _, _, _, hb, _⟩ := he.tb _ _ htb
      simp only at hb
      subst hb
      split at hs
      ·rename_i bb v hxd
       have hv := Zae h x
       rw [hxd] at hv
       obtain ⟨e, hsz⟩ := hv.str
       exact ZaG h (d := .c (.ty false (.int .i64) (v.size : Int))) (v := goInt v.size) (by simp [execOp, ho, resolve, invoke, builtin, Builtin.len_, run_underlying ud, e]) (RD.ofInt (Zd3 hsz) _) hs hK Q
      ·cases hs
     ·rename_i _ _ el hne htb
      obtain ⟨_, d, _, ud, _, _, _, _, _, hd⟩ := he.tb _ _ htb
      simp only at hd
      subst hd
      obtain ⟨d, hd, hs⟩ := Zcq hs
      obtain ⟨n, A, cap, e, hr⟩ := len_ok (Zae h x) hd
      exact ZaG h (by simp [execOp, ho, resolve, invoke, builtin, Builtin.len_, run_underlying ud, e]) hr hs hK Q
     ·rename_i _ _ n el hne htb
      obtain ⟨_, d, _, ud, _, _, _, _, _, hd⟩ := he.tb _ _ htb
      simp only at hd
      subst hd
      cases hc : decide (n <= 1048576) with
      | false => simp only [hc, cond_false] at hs; cases hs
      | true =>
       simp only [hc, cond_true] at hs
       have hn := of_decide_eq_true hc
       exact ZaG h (d := .c (.ty false (.int .i64) (n : Int))) (v := goInt n) (by simp [execOp, ho, resolve, invoke, builtin, Builtin.len_, run_underlying ud]) (RD.ofInt (Zd3 (by unfold Mx; omega)) _) hs hK Q
     ·cases hs
    ·cases hs
   | append =>
    simp only [ho] at hs
    split at hs
    ·rename_i x y t u hx ht
     have hx := toArr hx
     have ht := toArr ht
     subst hx ht
     cases hc : decide (t = u) with
     | false => simp only [hc, cond_false] at hs; cases hs
     | true =>
      simp only [hc, cond_true] at hs
      obtain rfl := of_decide_eq_true hc
      obtain ⟨⟨s1, d⟩, h1, h2⟩ := Br.bind_some hs
      obtain rfl := Option.some.inj h2
      obtain ⟨r, w', h3, h4⟩ := Zuq he.tb h _ (Zae h x) (Zae h y) h1 o.type o.dst
      exact ZbQ (by simp only [execOp, ho, resolve, invoke, builtin, Sem.run_bind, Sem.run_pure, Result.andThen_ok, List.map_toArray, List.map_cons, List.map_nil, h3]) (hK _ _ h4)
    ·cases hs
   | min =>
    simp only [ho] at hs
    split at hs
    ·rename_i x r hx
     have hx := toArr hx
     subst hx
     split at hs
     ·rename_i tt k n hxd
      obtain ⟨d, hd, hs⟩ := Zcq hs
      obtain ⟨l, hl, rfl⟩ := Option.map_eq_some_iff.1 hd
      have hv := Zae h x
      rw [hxd] at hv
      obtain ⟨e, hn⟩ := hv.int
      have := Zif (P := P) h hl n hn
      exact ZaG h (d := .c (.ty false (.int k) (minC l n))) (by simp only [execOp, ho, resolve, invoke, builtin, Builtin.min_, Sem.run_bind, Sem.run_pure, Result.andThen_ok, List.map_toArray, List.map_cons, e, this.1]) (RD.ofInt this.2.2.1 _) hs hK Q
     ·cases hs
    ·cases hs
   | max =>
    simp only [ho] at hs
    split at hs
    ·rename_i x r hx
     have hx := toArr hx
     subst hx
     split at hs
     ·rename_i tt k n hxd
      obtain ⟨d, hd, hs⟩ := Zcq hs
      obtain ⟨l, hl, rfl⟩ := Option.map_eq_some_iff.1 hd
      have hv := Zae h x
      rw [hxd] at hv
      obtain ⟨e, hn⟩ := hv.int
      have := Zif (P := P) h hl n hn
      exact ZaG h (d := .c (.ty false (.int k) (maxC l n))) (by simp only [execOp, ho, resolve, invoke, builtin, Builtin.max_, Sem.run_bind, Sem.run_pure, Result.andThen_ok, List.map_toArray, List.map_cons, e, this.2.1]) (RD.ofInt this.2.2.2 _) hs hK Q
     ·cases hs
    ·cases hs
   | clear =>
    simp only [ho] at hs
    split at hs
    ·rename_i x t hx ht
     have hx := toArr hx
     have ht := toArr ht
     subst hx ht
     split at hs
     ·rename_i _ τ by_ e n i l cp htb hxd
      cases hc : (ZdD c e τ && decide (0 < τ.sz)) with
      | false => simp only [hc, cond_false] at hs; cases hs
      | true =>
       simp only [hc, cond_true] at hs
       rw [Bool.and_eq_true] at hc
       obtain ⟨ti, hte, hτ⟩ : ∃ ti, TOk P e ti /\ ti.ty = τ := by
        have h1 := hc.1
        unfold ZdD at h1
        split at h1
        ·rename_i ti he1
         exact ⟨ti, he.tb _ _ he1, of_decide_eq_true h1⟩
        ·cases h1
       have hz := of_decide_eq_true hc.2
       split at hs
       ·rename_i b e' σ xs hl
        cases hσ : decide (σ = τ) with
        | false => simp only [hσ, cond_false] at hs; cases hs
        | true =>
         simp only [hσ, cond_true] at hs
         obtain rfl := of_decide_eq_true hσ
         obtain rfl := Option.some.inj hs
         have hv := Zae h x
         rw [hxd] at hv
         obtain ⟨w', h3, h4⟩ := clear_ok h (he.tb _ _ htb) hte hτ hz hl hv o.type
         exact ZbQ (by simp only [execOp, ho, resolve, invoke, builtin, Sem.run_bind, Sem.run_pure, Result.andThen_ok, List.map_toArray, List.map_cons, List.map_nil, h3]) (hK _ _ ⟨μ, I, h4.putd ⟨[], rfl, rfl, fun j c v hj => by simp at hj⟩⟩)
       ·cases hs
     ·cases hs
    ·cases hs
   | _ => simp only [ho] at hs; cases hs
 | _ => simp only [ho] at hs; cases hs
end Go.PI

namespace Go.PI
open Go.RowKit
variable {P : Program} {c : Ctx} {g : Cfg} {s st : St} {a : Act} {w : World} {μ : Nm} {I : Bool -> Nat -> Prop}
theorem Rel.remem [DR] (h : Rel g s a w μ I) {m' : Mem} (hn : ∀ k, look k m' = none ↔ look k s.m = none)
  (hm : ∀ k mb mb', look k s.m = some mb -> look k m' = some mb' -> mb'.shape = mb.shape /\ (∀ b q, BR μ I w (shp s.m) mb b q -> BR μ I w (shp s.m) mb' b q) /\ (∀ t e τ, mb = .ar t e τ [] -> ∃ t', mb' = .ar t' e τ [])) : Rel g ⟨s.t, m', s.k⟩ a w μ I := by
 have hsh : shp m' = shp s.m := by
  funext k
  unfold shp
  cases h1 : look k s.m with
  | none => rw [(hn k).2 h1]
  | some mb =>
   cases h2 : look k m' with
   | none => rw [(hn k).1 h2] at h1; cases h1
   | some mb' => simp [(hm k mb mb' h1 h2).1]
 have hl : ∀ k, look k m' ≠ none -> look k s.m ≠ none := fun k hk e => hk ((hn k).2 e)
 refine { mem := ?_, inj := ?_, sep := ?_, isub := h.isub, ilt := h.ilt, i0 := h.i0, inew := h.inew, live := ?_, os := h.os, tape := h.tape, output := h.output, size := h.size, keep := h.keep, tm := ?_, len := h.len, dfr := h.dfr, kept := ?_ }
 ·intro k mb' hk
  show (∃ b q, _ /\ BR μ I w (shp m') mb' b q) \/ _
  rw [hsh]
  cases h1 : look k s.m with
  | none => exact absurd h1 (hl k (by rw [hk]; simp))
  | some mb =>
   obtain ⟨_, h2, h3⟩ := hm k mb mb' h1 hk
   rcases h.mem k mb h1 with ⟨b, q, e, hb⟩ | ⟨e, t, el, τ, rfl⟩
   ·exact .inl ⟨b, q, e, h2 b q hb⟩
   ·obtain ⟨t', e'⟩ := h3 _ _ _ rfl
    exact .inr ⟨e, t', _, _, e'⟩
 ·exact fun n1 n2 b q q' e1 e2 h1 h2 => h.inj n1 n2 b q q' e1 e2 (hl _ h1) (hl _ h2)
 ·exact fun n1 b q h1 e => h.sep n1 b q (hl _ h1) e
 ·exact fun n1 b q h1 e => h.live n1 b q (hl _ h1) e
 ·intro i
  show RD μ I w (shp m') _ _
  rw [hsh]
  exact h.tm i
 ·intro n h1 h2
  have := h.kept n h1 h2
  exact ⟨this.1, (congrFun hsh n).trans this.2⟩
theorem tellC_ok {sh : Sh} (hs : ∀ b, I false b -> I true b) {x : C} {v : Value} (hx : RC μ I w sh x v) (b : Bool) (τ : Ty) : RC μ I w sh (x.tell b τ) v := by
 unfold C.tell
 split
 ·rename_i b' y hy
  cases hb : b || !b' || !τ.hasP with
  | false => exact trivial
  | true =>
   cases hp : τ.hasP with
   | false => exact VK.noP hp (Zdi hx hy)
   | true =>
   rw [hp] at hb
   refine VK.up (t := b') (u := b) (fun n hn => ?_) (Zdi hx hy)
   cases b with
   | true => cases b'; exact hs n hn; exact hn
   | false => cases b'; exact hn; simp at hb
 ·exact trivial
theorem tellD_ok {sh : Sh} (hs : ∀ b, I false b -> I true b) {x : D} {v : Value} (hx : RD μ I w sh x v) (b : Bool) (τ : Ty) : RD μ I w sh (x.tell b τ) v := by
 unfold D.tell
 split
 ·rename_i b' y hy
  cases hb : b || !b' || !τ.hasP with
  | false => exact trivial
  | true =>
   cases hp : τ.hasP with
   | false => exact VK.noP hp (Zbv hs hy hx)
   | true =>
   rw [hp] at hb
   refine VK.up (t := b') (u := b) (fun n hn => ?_) (Zbv hs hy hx)
   cases b with
   | true => cases b'; exact hs n hn; exact hn
   | false => cases b'; exact hn; simp at hb
 ·exact trivial
theorem Zl3 (l : List (Nat × Kd)) : ∀ (i : Nat) (t : List D), (tellT l i t).length = t.length
 | _, [] => rfl
 | i, d :: r => by simp [tellT, Zl3 l (i + 1) r]
theorem Znt (l : List (Nat × Kd)) : ∀ (i : Nat) (t : List D) (j : Nat), (tellT l i t)[j]? = t[j]?.map fun d => match findK (i + j) l with
  | none => .c .bad
  | some (.as b τ) => d.tell b τ
  | _ => d
 | _, [], j => by simp [tellT]
 | i, d :: r, 0 => by simp [tellT]; rfl
 | i, d :: r, j + 1 => by
  simp only [tellT, List.getElem?_cons_succ, Znt l (i + 1) r j]
  rw [show i + 1 + j = i + (j + 1) by omega]
theorem Rel.tellT [DR] (h : Rel g s a w μ I) (l : List (Nat × Kd)) : Rel g ⟨tellT l 0 s.t, s.m, s.k⟩ a w μ I := by
 refine { toMRel := h.toMRel, tm := ?_, len := by rw [<- h.len]; exact Zl3 l 0 s.t, dfr := h.dfr, kept := h.kept }
 intro i
 have hi := h.tm i
 show RD μ I w (shp s.m) ((Go.PI.tellT l 0 s.t).getD i (.c .bad)) _
 simp only [List.getD, Znt] at hi ⊢
 cases hd : s.t[i]? with
 | none => exact trivial
 | some d =>
  rw [hd] at hi
  simp only [Option.map_some, Option.getD_some] at hi ⊢
  split
  ·exact trivial
  ·exact tellD_ok h.isub hi _ _
  ·exact hi
theorem at_ok [DR] (h : Rel g s a w μ I) (p : Pl) {x' : C} (hx : ∀ v, RC μ I w (shp s.m) (s.at p) v -> RC μ I w (shp s.m) x' v) : Rel g (s.to x' p) a w μ I := by
 cases p with
 | slot i =>
  refine h.retell (d := .c x') ?_
  refine hx _ ?_
  have hi := h.tm i
  unfold St.at
  simp only
  cases hd : s.t.getD i (.c .bad) with
  | c x => rw [hd] at hi; exact hi
  | agg l => exact trivial
  | tup l => exact trivial
  | fn f l => exact trivial
 | cell n j =>
  unfold St.to
  simp only
  split
  ·rename_i l hl
   have hat : s.at (.cell n j) = l.getD j .bad := by unfold St.at; simp only [hl]
   rw [hat] at hx
   refine h.remem (m' := setm n (.dv (l.set j x')) s.m) (fun k => ?_) (fun k mb mb' h1 h2 => ?_)
   ·by_cases e : k = n
    ·subst e; rw [ZaF, hl]; simp
    ·rw [Zar _ e]
   ·by_cases e : k = n
    ·subst e
     rw [ZaF] at h2
     rw [hl] at h1
     obtain rfl := Option.some.inj h1
     obtain rfl := Option.some.inj h2
     refine ⟨by simp [MB.shape], fun b q ⟨cur, el, hh, hq, hk, h1⟩ => ⟨cur, el, hh, hq, ⟨by rw [List.length_set]; exact hk.1, fun i c v hc hv => ?_⟩, h1⟩, fun t e τ h3 => by cases h3⟩
     rw [List.getElem?_set] at hc
     split at hc
     ·rename_i hij
      subst hij
      split at hc
      ·rename_i hlt
       obtain rfl := Option.some.inj hc
       refine hx v ?_
       have := hk.2 j _ v (List.getElem?_eq_getElem hlt) hv
       rwa [List.getD_eq_getElem?_getD, List.getElem?_eq_getElem hlt]
      ·cases hc
     ·exact hk.2 i c v hc hv
    ·rw [Zar _ e] at h2
     rw [h1] at h2
     obtain rfl := Option.some.inj h2
     exact ⟨rfl, fun _ _ k => k, fun t e τ k => ⟨t, k⟩⟩
  ·exact h
theorem ren_C {μ' : Nm} {sh sh' : Sh} {n N : Nat} (e1 : μ' N = μ n) (e2 : sh' N = sh n) (h1 : ∀ k, k ≠ n -> k ≠ N -> μ' k = μ k) (h2 : ∀ k, k ≠ n -> k ≠ N -> sh' k = sh k) (hN : sh N = none) {x : C} {v : Value} (hx : RC μ I w sh x v) : RC μ' I w sh' (x.ren n N) v := by
 have key : ∀ k, (∃ z, sh k = some z) -> μ' (ZbR n N k) = μ k /\ sh' (ZbR n N k) = sh k := by
  intro k ⟨z, hz⟩
  unfold ZbR
  cases hk : Nat.beq k n with
  | true => obtain rfl := Nat.eq_of_beq_eq_true hk; exact ⟨e1, e2⟩
  | false =>
   have a1 : k ≠ n := fun e => by subst e; rw [Zay] at hk; cases hk
   have a2 : k ≠ N := fun e => by subst e; rw [hN] at hz; cases hz
   exact ⟨h1 k a1 a2, h2 k a1 a2⟩
 cases x with
 | ref k i o =>
  obtain ⟨b, q, len, z, k1, k2, k3, k4⟩ := hx
  obtain ⟨a1, a2⟩ := key k ⟨_, k2⟩
  have : C.ren n N (.ref k i o) = .ref (ZbR n N k) i o := by unfold C.ren ZbR; simp only; cases Nat.beq k n <;> rfl
  rw [this]
  exact ⟨b, q, len, z, a1.trans k1, a2.trans k2, k3, k4⟩
 | mfull k =>
  obtain ⟨len, z, A, cap, k1, k2, k3, k4, k5⟩ := hx
  obtain ⟨a1, a2⟩ := key k ⟨_, k1⟩
  have : C.ren n N (.mfull k) = .mfull (ZbR n N k) := by unfold C.ren ZbR; simp only; cases Nat.beq k n <;> rfl
  rw [this]
  refine ⟨len, z, A, cap, a2.trans k1, k2, k3, k4, ?_⟩
  unfold ZeL at *
  rw [a1, a2]
  exact k5
 | msl k s l cp =>
  obtain ⟨A, cap, k1, k2, k3, k4, ⟨len, z, k5, k6, k7⟩, k8⟩ := hx
  obtain ⟨a1, a2⟩ := key k ⟨_, k5⟩
  have : C.ren n N (.msl k s l cp) = .msl (ZbR n N k) s l cp := by unfold C.ren ZbR; simp only; cases Nat.beq k n <;> rfl
  rw [this]
  refine ⟨A, cap, k1, k2, k3, k4, ⟨len, z, a2.trans k5, k6, fun hl => by rw [a1]; exact k7 hl⟩, fun p1 p2 => ?_⟩
  have := k8 p1 p2
  unfold ZeL at *
  rw [a1, a2]
  exact this
 | ty b τ y => exact hx
 | tt => exact hx
 | ff => exact hx
 | eref t τ xs i o => exact hx
 | nils => exact hx
 | nilp => exact hx
 | bad => exact hx
theorem D.ren_map (n N : Nat) : D.ren n N = D.map (C.ren n N) := by funext d; cases d <;> rfl
theorem MB.ren_map (n N : Nat) (mb : MB) : MB.ren n N mb = MB.mapC (C.ren n N) mb := by cases mb <;> rfl
theorem Zpg {n N : Nat} : ∀ {m : Mem}, look N m = none -> ∀ k, look k (m.map fun p => (ZbR n N p.1, p.2.ren n N)) = if k = N then (look n m).map (MB.ren n N) else if k = n then none else (look k m).map (MB.ren n N)
 | [], _, k => by simp [look]
 | (j, b) :: r, h, k => by
  simp only [look] at h
  have hj : j ≠ N := fun e => by subst e; rw [Zay] at h; cases h
  have hr : look N r = none := by rw [Za4 hj] at h; exact h
  have ih := Zpg (n := n) hr k
  simp only [List.map_cons, look, ih]
  unfold ZbR
  cases hjn : Nat.beq j n with
  | true =>
   obtain rfl := Nat.eq_of_beq_eq_true hjn
   simp only [cond_true]
   by_cases hk : k = N
   ·subst hk; rw [Zay]; simp
   ·rw [Za4 (Ne.symm hk), if_neg hk]
    by_cases hk2 : k = j
    ·subst hk2; rw [if_pos rfl, if_neg hk, if_pos rfl]; rfl
    ·rw [if_neg hk2, if_neg hk, if_neg hk2, Za4 (Ne.symm hk2)]; rfl
  | false =>
   simp only [cond_false]
   have hjn' : j ≠ n := fun e => by subst e; rw [Zay] at hjn; cases hjn
   by_cases hk : k = N
   ·subst hk; rw [Za4 hj]; simp
   ·rw [if_neg hk]
    by_cases hk2 : k = n
    ·subst hk2; rw [if_neg hk, if_pos rfl, if_pos rfl, hjn]; rfl
    ·rw [if_neg hk, if_neg hk2, if_neg hk2]
     cases Nat.beq j k <;> rfl
theorem Rel.ren [DR] (h : Rel g s a w μ I) (n N : Nat) (hne : n ≠ N) : Ok g (s.ren n N) a w := by
 have h := h.kill N
 have e0 : s.ren n N = ⟨(s.kill N).t.map (D.ren n N), (s.kill N).m.map fun p => (ZbR n N p.1, p.2.ren n N), n :: (s.kill N).k⟩ := rfl
 have hN : look N (s.kill N).m = none := by simp [St.kill, Zaz, Zap]
 have hkN : N ∈ (s.kill N).k := List.mem_cons_self
 rw [e0]
 generalize s.kill N = s at h hN hkN
 let μ' : Nm := fun k => if k = N then μ n else if k = n then none else μ k
 have m1 : μ' N = μ n := if_pos rfl
 have m2 : ∀ k, k ≠ n -> k ≠ N -> μ' k = μ k := fun k h1 h2 => by show (if k = N then _ else if k = n then _ else _) = _; rw [if_neg h2, if_neg h1]
 have hlk := Zpg (n := n) hN
 have hshape : ∀ mb : MB, (MB.ren n N mb).shape = mb.shape := fun mb => by rw [MB.ren_map]; exact MB.shape_map _ _
 have s1 : shp (s.m.map fun p => (ZbR n N p.1, p.2.ren n N)) N = shp s.m n := by
  unfold shp; rw [hlk, if_pos rfl, Option.map_map]; congr 1; funext mb; exact hshape mb
 have s2 : ∀ k, k ≠ n -> k ≠ N -> shp (s.m.map fun p => (ZbR n N p.1, p.2.ren n N)) k = shp s.m k := fun k h1 h2 => by
  unfold shp; rw [hlk, if_neg h2, if_neg h1, Option.map_map]; congr 1; funext mb; exact hshape mb
 have s3 : shp s.m N = none := by simp [shp, hN]
 have hRC : ∀ x v, RC μ I w (shp s.m) x v -> RC μ' I w (shp (s.m.map fun p => (ZbR n N p.1, p.2.ren n N))) (x.ren n N) v := fun x v hx => ren_C m1 s1 m2 s2 s3 hx
 have src : ∀ k mb', look k (s.m.map fun p => (ZbR n N p.1, p.2.ren n N)) = some mb' -> ∃ j mb, look j s.m = some mb /\ mb' = mb.ren n N /\ μ' k = μ j /\ k = ZbR n N j := by
  intro k mb' hk
  rw [hlk] at hk
  by_cases e1 : k = N
  ·rw [if_pos e1] at hk
   obtain ⟨mb, h1, rfl⟩ := Option.map_eq_some_iff.1 hk
   exact ⟨n, mb, h1, rfl, by rw [e1]; exact m1, by rw [e1]; unfold ZbR; rw [Zay]; rfl⟩
  ·rw [if_neg e1] at hk
   by_cases e2 : k = n
   ·rw [if_pos e2] at hk; cases hk
   ·rw [if_neg e2] at hk
    obtain ⟨mb, h1, rfl⟩ := Option.map_eq_some_iff.1 hk
    exact ⟨k, mb, h1, rfl, m2 k e2 e1, by unfold ZbR; rw [Za4 e2]; rfl⟩
 have srcn : ∀ k, look k (s.m.map fun p => (ZbR n N p.1, p.2.ren n N)) ≠ none -> ∃ j, look j s.m ≠ none /\ μ' k = μ j /\ k = ZbR n N j := by
  intro k hk
  cases hl : look k (s.m.map fun p => (ZbR n N p.1, p.2.ren n N)) with
  | none => exact absurd hl hk
  | some mb' =>
   obtain ⟨j, mb, h1, _, h2, h3⟩ := src k mb' hl
   exact ⟨j, by rw [h1]; simp, h2, h3⟩
 refine ⟨μ', I, { mem := ?_, inj := ?_, sep := ?_, isub := h.isub, ilt := h.ilt, i0 := h.i0, inew := h.inew, live := ?_, os := h.os, tape := h.tape, output := h.output, size := h.size, keep := h.keep, tm := ?_, len := ?_, dfr := h.dfr, kept := ?_ }⟩
 ·intro k mb' hk
  obtain ⟨j, mb, h1, rfl, h2, _⟩ := src k mb' hk
  rcases h.mem j mb h1 with ⟨b, q, e, hb⟩ | ⟨e, t, el, τ, rfl⟩
  ·refine .inl ⟨b, q, h2.trans e, ?_⟩
   rw [MB.ren_map]
   exact hb.map hRC (fun _ _ k => k) (fun t => Zaa _ _) rfl
  ·exact .inr ⟨h2.trans e, t, el, τ, rfl⟩
 ·intro n1 n2 b q q' e1 e2 h1 h2
  obtain ⟨j1, a1, a2, a3⟩ := srcn n1 h1
  obtain ⟨j2, b1, b2, b3⟩ := srcn n2 h2
  have := h.inj j1 j2 b q q' (a2 ▸ e1) (b2 ▸ e2) a1 b1
  rw [a3, b3, this]
 ·intro n1 b q h1 e1
  obtain ⟨j1, a1, a2, a3⟩ := srcn n1 h1
  exact h.sep j1 b q a1 (a2 ▸ e1)
 ·intro n1 b q h1 e1
  obtain ⟨j1, a1, a2, a3⟩ := srcn n1 h1
  exact h.live j1 b q a1 (a2 ▸ e1)
 ·intro i
  show RD _ _ _ _ ((s.t.map (D.ren n N)).getD i (.c .bad)) _
  rw [D.ren_map, Zg7 (by simp [C.ren])]
  exact (h.tm i).map hRC
 ·show (s.t.map _).length = _
  rw [List.length_map]; exact h.len
 ·intro k h1 h2
  have a1 : k ≠ n := fun e => h2 (by subst e; exact List.mem_cons_self)
  have a2 : k ≠ N := fun e => h2 (by subst e; exact List.mem_cons_of_mem _ hkN)
  obtain ⟨k1, k2⟩ := h.kept k h1 (fun hm => h2 (List.mem_cons_of_mem _ hm))
  exact ⟨(m2 k a1 a2).trans k1, (s2 k a1 a2).trans k2⟩
theorem Rel.row0 [DR] (h : Rel g s a w μ I) (N : Nat) (b : Bool) (e : Nat) (τ : Ty) : ∃ μ', Rel g ⟨(s.kill N).t, (N, .ar b e τ []) :: (s.kill N).m, (s.kill N).k⟩ a w μ' I /\ μ' N = none /\ ∀ sh, (∃ z, sh N = some (0, z)) -> RC μ' I w sh (.mfull N) (.slice none 0 0) := by
 have h := h.kill N
 have hN : look N (s.kill N).m = none := by simp [St.kill, Zaz, Zap]
 have hkN : N ∈ (s.kill N).k := List.mem_cons_self
 generalize s.kill N = s at h hN hkN
 let μ' : Nm := fun k => if k = N then none else μ k
 have m1 : μ' N = none := if_pos rfl
 have m2 : ∀ k, k ≠ N -> μ' k = μ k := fun k h2 => if_neg h2
 have hl : ∀ k, k ≠ N -> look k ((N, MB.ar b e τ []) :: s.m) = look k s.m := fun k hk => by simp [look, Za4 (Ne.symm hk)]
 have s2 : ∀ k, k ≠ N -> shp ((N, MB.ar b e τ []) :: s.m) k = shp s.m k := fun k hk => by unfold shp; rw [hl k hk]
 have s3 : shp s.m N = none := by simp [shp, hN]
 have hRC : ∀ x v, RC μ I w (shp s.m) x v -> RC μ' I w (shp ((N, MB.ar b e τ []) :: s.m)) x v := by
  intro x v hx
  cases hh : x.has N with
  | true =>
   cases x with
   | ref n i o => simp only [C.has] at hh; obtain rfl := Nat.eq_of_beq_eq_true hh; obtain ⟨_, _, _, _, _, k, _⟩ := hx; rw [s3] at k; cases k
   | mfull n => simp only [C.has] at hh; obtain rfl := Nat.eq_of_beq_eq_true hh; obtain ⟨_, _, _, _, k, _⟩ := hx; rw [s3] at k; cases k
   | msl n s l cp => simp only [C.has] at hh; obtain rfl := Nat.eq_of_beq_eq_true hh; obtain ⟨_, _, _, _, _, _, ⟨_, _, k, _⟩, _⟩ := hx; rw [s3] at k; cases k
   | _ => simp [C.has] at hh
  | false => exact hx.same (fun _ _ k => k) (fun t => Zaa _ _) (fun k hk => ⟨m2 k (ZcD hk hh), s2 k (ZcD hk hh)⟩)
 have hne : ∀ k b q, μ' k = some (b, q) -> k ≠ N := fun k b q hk e => by rw [e, m1] at hk; cases hk
 refine ⟨μ', { mem := ?_, inj := ?_, sep := ?_, isub := h.isub, ilt := h.ilt, i0 := h.i0, inew := h.inew, live := ?_, os := h.os, tape := h.tape, output := h.output, size := h.size, keep := h.keep, tm := fun i => (h.tm i).imp hRC, len := h.len, dfr := h.dfr, kept := ?_ }, m1, ?_⟩
 ·intro k mb' hk
  by_cases ek : k = N
  ·subst ek
   simp only [look, Zay, cond_true] at hk
   obtain rfl := Option.some.inj hk
   exact .inr ⟨m1, _, _, _, rfl⟩
  ·rw [hl k ek] at hk
   rcases h.mem k mb' hk with ⟨b1, q1, e1, hb1⟩ | ⟨e1, r⟩
   ·refine .inl ⟨b1, q1, (m2 k ek).trans e1, ?_⟩
    have := hb1.map (φ := id) (μ' := μ') (I' := I) (w' := w) (sh' := shp ((N, MB.ar b e τ []) :: s.m)) hRC (fun _ _ k => k) (fun t => Zaa _ _) rfl
    have eid : mb'.mapC id = mb' := by cases mb' <;> simp [MB.mapC]
    rwa [eid] at this
   ·exact .inr ⟨(m2 k ek).trans e1, r⟩
 ·intro n1 n2 b q q' e1 e2 h1 h2
  have a1 := hne _ _ _ e1
  have a2 := hne _ _ _ e2
  rw [m2 _ a1] at e1
  rw [m2 _ a2] at e2
  exact h.inj n1 n2 b q q' e1 e2 (by rwa [hl _ a1] at h1) (by rwa [hl _ a2] at h2)
 ·intro n1 b q h1 e1
  have a1 := hne _ _ _ e1
  rw [m2 _ a1] at e1
  exact h.sep n1 b q (by rwa [hl _ a1] at h1) e1
 ·intro n1 b q h1 e1
  have a1 := hne _ _ _ e1
  rw [m2 _ a1] at e1
  exact h.live n1 b q (by rwa [hl _ a1] at h1) e1
 ·intro k h1 h2
  have a2 : k ≠ N := fun e => h2 (by subst e; exact hkN)
  obtain ⟨k1, k2⟩ := h.kept k h1 h2
  exact ⟨(m2 k a2).trans k1, (s2 k a2).trans k2⟩
 ·rintro sh ⟨z, hz⟩
  exact ⟨0, z, none, 0, hz, rfl, Nat.le_refl _, by simp, .inl ⟨rfl, rfl⟩⟩
theorem row_ok [DR] (h : Rel g s a w μ I) (N : Nat) (b : Bool) (e : Nat) (τ : Ty) (p : Pl) : Ok g (s.row N b e τ p) a w := by
 obtain ⟨μ', h', _, hm⟩ := h.row0 N b e τ
 unfold St.row
 simp only
 split
 ·rename_i hat
  refine ⟨μ', I, at_ok h' p fun v hv => ?_⟩
  rw [hat] at hv
  obtain rfl : v = .slice none 0 0 := hv
  exact hm _ ⟨τ.sz, by simp [shp, look, Zay, MB.shape]⟩
 ·exact ⟨μ', I, h'⟩
theorem rowAt_ok [DR] (h : Rel g s a w μ I) (N : Nat) (b : Bool) (e : Nat) (τ : Ty) (p : Pl) : Ok g (s.rowAt N b e τ p) a w := by
 unfold St.rowAt
 split
 ·exact row_ok h N b e τ p
 ·rename_i n hn
  cases hh : Nat.beq n N with
  | true => exact ⟨μ, I, h⟩
  | false => exact h.ren n N (fun e => by subst e; rw [Zay] at hh; cases hh)
 ·exact ⟨μ, I, h⟩
theorem toVar_ok {sh : Sh} (hs : ∀ b, I false b -> I true b) {mb : MB} (τ : Ty) {b q : Nat} (h : BR μ I w sh mb b q) : (mb.toVar τ).shape = mb.shape /\ BR μ I w sh (mb.toVar τ) b q := by
 cases mb with
 | tv t σ x => exact ⟨rfl, h⟩
 | ar t e σ xs => exact ⟨rfl, h⟩
 | dv l =>
  cases hy : (D.agg l).asTy τ with
  | none => simp only [MB.toVar, hy]; exact ⟨trivial, h⟩
  | some z =>
   obtain ⟨t, x⟩ := z
   simp only [MB.toVar, hy]
   by_cases hl : l.length = τ.sz
   ·simp only [hl, decide_true, cond_true]
    refine ⟨by simp [MB.shape, hl], ?_⟩
    obtain ⟨cur, e, h1, h2, h3, h4⟩ := h
    have hv := Zbv hs hy (v := .agg cur.toList.toArray) ⟨cur.toList, rfl, h3, h4⟩
    have ha : τ.isAgg = true := by
     cases ha : τ.isAgg with
     | true => rfl
     | false => simp [D.asTy, ha] at hy
    obtain ⟨cs, e', hk⟩ := hv.1 ha
    refine ⟨cur, e, h1, h2, ?_⟩
    have : cur.toList = cs := by
     have e' : cur.toList.toArray = cs.toArray := by injection e'
     have := congrArg Array.toList e'
     simpa using this
    show K (I t) w τ x cur.toList
    rw [this]
    exact hk
   ·simp only [hl, decide_false, cond_false]
    exact ⟨trivial, h⟩
theorem varAt_ok [DR] (h : Rel g s a w μ I) (base : Nat) (τ : Ty) (p : Pl) : Rel g (s.varAt base τ p) a w μ I := by
 cases p with
 | slot i => exact h
 | cell n j =>
  unfold St.varAt
  simp only
  split
  ·rename_i mb hl
   refine h.remem (fun k => ?_) (fun k mb0 mb1 h1 h2 => ?_)
   ·by_cases hk : k = n
    ·subst hk
     rw [ZaF, hl]
     simp
    ·rw [Zar _ hk]
   ·by_cases hk : k = n
    ·subst hk
     rw [ZaF] at h2
     rw [hl] at h1
     obtain rfl := Option.some.inj h1
     obtain rfl := Option.some.inj h2
     refine ⟨?_, fun b q hb => (toVar_ok h.isub τ hb).2, fun t e σ e' => ⟨t, by subst e'; rfl⟩⟩
     cases mb with
     | tv t σ x => rfl
     | ar t e σ xs => rfl
     | dv l =>
      simp only [MB.toVar]
      split
      ·by_cases hz : l.length = τ.sz
       ·simp [MB.shape, hz]
       ·simp [MB.shape, hz]
      ·rfl
    ·rw [Zar _ hk] at h2
     rw [h1] at h2
     obtain rfl := Option.some.inj h2
     exact ⟨rfl, fun _ _ k => k, fun t e σ k => ⟨t, k⟩⟩
  ·exact h
theorem ZnI [DR] (h : Ok g s a w) (base : Nat) (p : Pl) (k : Kd) : Ok g (s.tellAt base p k) a w := by
 obtain ⟨μ, I, h⟩ := h
 cases k with
 | keep => exact ⟨μ, I, h⟩
 | as b τ => exact ⟨μ, I, at_ok h p fun v hv => tellC_ok h.isub hv b τ⟩
 | row N b e τ => exact rowAt_ok h _ b e τ p
 | var τ => exact ⟨μ, I, varAt_ok h base τ p⟩
theorem Zem [DR] (base : Nat) : ∀ (l : List (Nat × Kd)) {s : St}, Ok g s a w -> Ok g (Zgi base l s) a w
 | [], _, h => h
 | (i, .row N b e τ) :: r, _, h => Zem base r (ZnI h base _ _)
 | (i, .keep) :: r, _, h => Zem base r h
 | (i, .as b τ) :: r, _, h => Zem base r h
 | (i, .var τ) :: r, _, h => Zem base r h
theorem ZkR [DR] (base : Nat) : ∀ (l : List (Nat × Nat × Kd)) {s : St}, Ok g s a w -> Ok g (cellsOf base l s) a w
 | [], _, h => h
 | (n, j, k) :: r, _, h => ZkR base r (ZnI h base _ _)
theorem Zkn [DR] : ∀ (l : List Nat) {s : St}, Ok g s a w -> Ok g (killAll l s) a w
 | [], _, h => h
 | n :: r, _, ⟨μ, I, h⟩ => Zkn r ⟨μ, I, h.kill n⟩
theorem ZbH (n : Nat) : ∀ (m m' : Mem), look n (m ++ m') = match look n m with | some x => some x | none => look n m'
 | [], m' => rfl
 | (k, b) :: r, m' => by
  simp only [List.cons_append, look]
  cases Nat.beq k n with
  | true => rfl
  | false => exact ZbH n r m'
theorem ZkP (base : Nat) (m : Mem) (n : Nat) : ∀ ns : List (Nat × Bool), look n (front base m ns) = if base <= n then (findN (n - base) ns).bind fun b => (look n m).map (MB.raise b) else none
 | [] => by simp [front, look, findN]
 | (k, b) :: r => by
  have ih := ZkP base m n r
  simp only [front, findN]
  by_cases hb : base <= n
  ·rw [if_pos hb] at ih ⊢
   cases hk : Nat.beq k (n - base) with
   | true =>
    have hk := Nat.eq_of_beq_eq_true hk
    obtain rfl : base + k = n := by omega
    split
    ·rename_i mb hmb
     simp [look, Zay, hmb]
    ·rename_i hmb
     rw [ih]
     simp [hmb]
   | false =>
    have hne : base + k ≠ n := fun e => by
     rw [show n - base = k by omega, Zay] at hk; cases hk
    simp only [cond_false]
    split
    ·simp only [look, Za4 hne, cond_false]
     exact ih
    ·exact ih
  ·rw [if_neg hb] at ih ⊢
   split
   ·have hne : base + k ≠ n := by omega
    simp only [look, Za4 hne, cond_false]
    exact ih
   ·exact ih
theorem Zmd (base : Nat) (ns : List (Nat × Bool)) (n : Nat) : ∀ m : Mem, look n (back base ns m) = if base <= n /\ (findN (n - base) ns).isSome then none else look n m
 | [] => by simp [back, look]
 | (k, mb) :: r => by
  have ih := Zmd base ns n r
  simp only [back]
  cases hc : Nat.ble base k && (findN (k - base) ns).isSome with
  | true =>
   simp only [cond_true, ih, look]
   simp only [Bool.and_eq_true, Nat.ble_eq] at hc
   by_cases hk : k = n
   ·subst hk; rw [if_pos hc, if_pos hc]
   ·rw [Za4 hk]; rfl
  | false =>
   simp only [cond_false, look, ih]
   by_cases hk : k = n
   ·subst hk
    rw [Zay]
    have : ¬ (base <= k /\ (findN (k - base) ns).isSome) := fun ⟨h1, h2⟩ => by
     rw [show Nat.ble base k = true from by rw [Nat.ble_eq]; exact h1, h2] at hc; cases hc
    simp [this]
   ·rw [Za4 hk]; rfl
theorem raise_ok {sh : Sh} (hs : ∀ b, I false b -> I true b) {mb : MB} (t : Bool) {b q : Nat} (h : BR μ I w sh mb b q) : BR μ I w sh (mb.raise t) b q := by
 obtain ⟨cur, e, h1, h2, h3⟩ := h
 refine ⟨cur, e, h1, h2, ?_⟩
 cases mb with
 | tv t' τ x =>
  cases hp : τ.hasP with
  | false => exact K.noP hp h3
  | true =>
   show K (I (t || (t' && τ.hasP))) w τ x _
   rw [hp, Bool.and_true]
   exact K.up (Zbe hs t t').2 h3
 | ar t' e' τ xs =>
  obtain ⟨h4, cap, h5, h6, h7, h8⟩ := h3
  refine ⟨h4, cap, h5, h6, h7, h8.imp fun _ _ k => ?_⟩
  cases hp : τ.hasP with
  | false => exact K.noP hp k
  | true =>
   rw [Bool.and_true]
   exact k.up (Zbe hs t t').2
 | dv l => exact h3
theorem order_ok [DR] (h : Rel g s a w μ I) (base : Nat) (ns : List (Nat × Bool)) : Rel g ⟨s.t, front base s.m ns ++ back base ns s.m, s.k⟩ a w μ I := by
 have hl : ∀ k, look k (front base s.m ns ++ back base ns s.m) = if base <= k then (match findN (k - base) ns with | some b => (look k s.m).map (MB.raise b) | none => look k s.m) else look k s.m := by
  intro k
  rw [ZbH, ZkP, Zmd]
  by_cases hb : base <= k
  ·simp only [if_pos hb, hb, true_and]
   cases hf : findN (k - base) ns with
   | none => simp
   | some b =>
    simp only [Option.bind_some, Option.isSome_some, if_true]
    cases look k s.m <;> rfl
  ·simp [hb]
 have hsh : ∀ (b : Bool) (mb : MB), (mb.raise b).shape = mb.shape := fun b mb => by cases mb <;> rfl
 refine h.remem (fun k => ?_) (fun k mb mb' h1 h2 => ?_)
 ·rw [hl]
  split
  ·split
   ·simp
   ·exact Iff.rfl
  ·exact Iff.rfl
 ·rw [hl, h1] at h2
  have fin : mb' = mb \/ ∃ b, mb' = mb.raise b := by
   split at h2
   ·split at h2
    ·rename_i b hb; exact .inr ⟨b, (Option.some.inj h2).symm⟩
    ·exact .inl (Option.some.inj h2).symm
   ·exact .inl (Option.some.inj h2).symm
  rcases fin with rfl | ⟨b, rfl⟩
  ·exact ⟨rfl, fun _ _ k => k, fun t e τ k => ⟨t, k⟩⟩
  ·exact ⟨hsh b mb, fun b' q k => raise_ok h.isub b k, fun t e τ k => ⟨b || (t && τ.hasP), by rw [k]; rfl⟩⟩
theorem ZjN [DR] (h : Ok g s a w) (base : Nat) (x : Shape) : Ok g (s.shape base x) a w := by
 obtain ⟨μ, I, h⟩ := h
 have h1 : Ok g (cellsOf base x.cells (Zgi base x.slots ⟨tellT x.slots 0 s.t, s.m, s.k⟩)) a w := ZkR base _ (Zem base _ ⟨μ, I, h.tellT _⟩)
 obtain ⟨μ, I, h⟩ := Zkn (Zis base x.names (cellsOf base x.cells (Zgi base x.slots ⟨tellT x.slots 0 s.t, s.m, s.k⟩)).m) h1
 exact ⟨μ, I, order_ok h base x.names⟩
theorem Ztv [DR] (h : Ok g s a w) (base : Nat) (p : Par) (x : Code) : Ok g (Zik base p x s) a w := by
 unfold Zik
 split
 ·split
  ·exact ZjN h base _
  ·exact h
 ·exact h
end Go.PI
