/- Cuts of slices and texts. -/
import Derived.Test.YtnhiplibodkciaaPIj
namespace Go.PI
open Go.RowKit

variable {P : Program} {c : Ctx} {g : Cfg} {s st : St} {a : Act} {w : World} {μ : Nm} {I : Bool → Nat → Prop}

theorem Row.takeR {α : Type} {R : α → List Value → Prop} {z : Nat} {xs : List α} {cells : List Value} (h : Row R z xs cells) (k : Nat) (hk : k ≤ xs.length) : Row R z (xs.take k) (cells.take (k * z)) := by
  have hle : k * z ≤ xs.length * z := Nat.mul_le_mul_right _ hk
  refine ⟨by rw [List.length_take, List.length_take, h.1, Nat.min_eq_left hk, Nat.min_eq_left hle], fun i x hx => ?_⟩
  rw [List.getElem?_take] at hx
  split at hx
  · rename_i hi
    have h2 := h.2 i x hx
    have : piece z (cells.take (k * z)) i = piece z cells i := by
      unfold piece
      have hle2 : (i + 1) * z ≤ k * z := Nat.mul_le_mul_right _ hi
      rw [Nat.add_mul] at hle2
      rw [List.drop_take, List.take_take, Nat.min_eq_left (by omega)]
    rw [this]
    exact h2
  · cases hx

theorem Row.dropR {α : Type} {R : α → List Value → Prop} {z : Nat} {xs : List α} {cells : List Value} (h : Row R z xs cells) (k : Nat) : Row R z (xs.drop k) (cells.drop (k * z)) := by
  refine ⟨by rw [List.length_drop, List.length_drop, h.1, Nat.sub_mul], fun i x hx => ?_⟩
  rw [List.getElem?_drop] at hx
  have h2 := h.2 _ x hx
  unfold piece at *
  rw [List.drop_drop, ← Nat.add_mul]
  exact h2

theorem CellsAt.dropC {ad : Addr} {cells : List Value} (h : CellsAt w ad cells) (n : Nat) : CellsAt w ⟨ad.block, ad.off + n, none⟩ (cells.drop n) := by
  refine ⟨rfl, fun j u hu => ?_⟩
  rw [List.getElem?_drop] at hu
  have := h.2 _ u hu
  simpa [Nat.add_assoc] using this

theorem CellsAt.takeC {ad : Addr} {cells : List Value} (h : CellsAt w ad cells) (n : Nat) : CellsAt w ad (cells.take n) := by
  refine ⟨h.1, fun j u hu => ?_⟩
  rw [List.getElem?_take] at hu
  split at hu
  · exact h.2 _ u hu
  · cases hu

/-- Bounds as the machine has them. -/
def Bnd (x : Option Value) (dflt n : Int) : Prop := (x = none ∧ n = dflt) ∨ ∃ k, x = some (.int k n)

theorem bnd_ok' (h : Rel g s a w μ I) {x : Option Operand} {dflt n : Int} (hb : bndD s dflt x = some n) : Bnd (x.map a.eval) dflt n := by
  rcases bnd_ok h hb with ⟨rfl, rfl⟩ | ⟨y, k, rfl, e⟩
  · exact .inl ⟨rfl, rfl⟩
  · exact .inr ⟨k, by simp [e]⟩

theorem run_sliceBound {k : IntKind} {i : Int} {y : Nat} {code : BoundsCode} (h0 : 0 ≤ i) (h1 : i ≤ (y : Int)) : (Instr.sliceBound (.int k i) y code).run P w = .ok i.toNat w := by
  simp [Instr.sliceBound, asIntOf, h0, h1]

theorem run_bounds {isS : Bool} {len cap : Nat} {lo hi : Option Value} {l h : Int} (hl : Bnd lo 0 l) (hh : Bnd hi (len : Int) h) (h0 : 0 ≤ l) (h1 : l ≤ h) (h2 : h ≤ (len : Int)) (h3 : len ≤ cap) :
    (Instr.sliceBounds isS len cap lo hi none).run P w = .ok (l.toNat, h.toNat, cap) w := by
  rcases hh with ⟨rfl, rfl⟩ | ⟨k, rfl⟩ <;> rcases hl with ⟨rfl, rfl⟩ | ⟨k', rfl⟩
  · simp [Instr.sliceBounds]
  · simp [Instr.sliceBounds, run_sliceBound h0 h1]
  · simp [Instr.sliceBounds, run_sliceBound (P := P) (w := w) (k := k) (i := h) (y := cap) (by omega) (by omega)]
  · simp [Instr.sliceBounds, run_sliceBound (P := P) (w := w) (k := k) (i := h) (y := cap) (by omega) (by omega), run_sliceBound (P := P) (w := w) (k := k') (i := l) (y := h.toNat) h0 (by omega)]

theorem run_bounds3 {isS : Bool} {len cap : Nat} {lo hi : Option Value} {l h : Int} (hl : Bnd lo 0 l) {k3 k4 : IntKind} {m : Int} (hh : hi = some (.int k4 h)) (h0 : 0 ≤ l) (h1 : l ≤ h) (h2 : h ≤ (len : Int)) (h3 : len ≤ cap) (hm : m = h) :
    (Instr.sliceBounds isS len cap lo hi (some (.int k3 m))).run P w = .ok (l.toNat, h.toNat, h.toNat) w := by
  subst hm hh
  have e1 := fun code => run_sliceBound (P := P) (w := w) (k := k3) (i := m) (y := cap) (code := code) (by omega) (by omega)
  have e2 := fun code => run_sliceBound (P := P) (w := w) (k := k4) (i := m) (y := m.toNat) (code := code) (by omega) (by omega)
  rcases hl with ⟨rfl, rfl⟩ | ⟨k', rfl⟩
  · simp [Instr.sliceBounds, e1, e2]
  · have e3 := fun code => run_sliceBound (P := P) (w := w) (k := k') (i := l) (y := m.toNat) (code := code) h0 (by omega)
    simp [Instr.sliceBounds, e1, e2, e3]

theorem run_sliceAt {t e : Nat} (ht : P.underlying t = some (.slice e)) {z : Nat} (hz : (sizeOf e).run P w = .ok z w) {A : Option Addr} {len cap : Nat} {lo hi mx : Option Value} {l h m : Nat}
    (hb : (Instr.sliceBounds true len cap lo hi mx).run P w = .ok (l, h, m) w) :
    (Instr.sliceAt t (.slice A len cap) lo hi mx).run P w = .ok (.slice (if m = l then A else A.map (·.add (l * z))) (h - l) (m - l)) w := by
  simp [Instr.sliceAt, Instr.slice, run_underlying ht, hb, hz]

theorem sliceOwn_ok (hr : Rel g s a w μ I) {t e : Nat} {z : Nat} (ht : P.underlying t = some (.slice e)) (hz : (sizeOf e).run P w = .ok z w) {lo hi mx : Option Operand} {n o len tot : Nat} {d : D}
    (hd : (sliceOwn s lo hi mx n o len).run = some d) (hsh : shp s.m n = some (tot, z)) (htot : o + len ≤ tot) {A : Option Addr} {cap : Nat} (h1 : len ≤ cap) (h2 : cap ≤ Mx)
    (hA : 0 < len → ∃ b q, μ n = some (b, q) ∧ A = some ⟨b, o * z, none⟩) (hown : o = 0 → OwnAt μ (shp s.m) n A cap) :
    ∃ r, (Instr.sliceAt t (.slice A len cap) (lo.map a.eval) (hi.map a.eval) (mx.map a.eval)).run P w = .ok r w ∧ RD μ I w (shp s.m) d r := by
  unfold sliceOwn at hd
  split at hd
  · rename_i l h hl hh
    have bl := bnd_ok' hr hl
    have bh := bnd_ok' hr hh
    have main : ∀ (m : Nat) (cp : Bool), 0 ≤ l → l ≤ h → h ≤ (len : Int) → h.toNat ≤ m → m ≤ Mx → (cp = true → m = h.toNat) → (cp = false → m = cap) →
        RC μ I w (shp s.m) (.msl n (o + l.toNat) (h.toNat - l.toNat) cp) (.slice (if m = l.toNat then A else A.map (·.add (l.toNat * z))) (h.toNat - l.toNat) (m - l.toNat)) := by
      intro m cp e0 e1 e2 e3 e4 e5 e6
      refine ⟨_, _, rfl, by omega, by omega, fun hc => by rw [e5 hc], ⟨tot, z, hsh, by omega, fun hlt => ?_⟩, fun hz0 hc => ?_⟩
      · obtain ⟨b, q, e7, rfl⟩ := hA (by omega)
        refine ⟨b, q, e7, ?_⟩
        rw [if_neg (by omega)]
        simp [Addr.add_lit, Nat.add_mul]
      · have ho : o = 0 := by omega
        have hl0 : l.toNat = 0 := by omega
        have := hown ho
        rw [hl0, Nat.zero_mul, Nat.sub_zero, e6 hc]
        have e7 : (if cap = 0 then A else A.map (·.add 0)) = A := by
          split
          · rfl
          · cases A with
            | none => rfl
            | some ad => simp [Addr.add]
        rw [e7]
        exact this
    split at hd
    · obtain ⟨k1, hd⟩ := cond_yes hd
      obtain rfl := Option.some.inj hd
      simp only [Bool.and_eq_true, decide_eq_true_eq] at k1
      refine ⟨_, run_sliceAt ht hz (run_bounds bl bh k1.1.1 k1.1.2 k1.2 h1), main cap false k1.1.1 k1.1.2 k1.2 (by omega) h2 (fun e => by cases e) (fun _ => rfl)⟩
    · rename_i mo
      split at hd
      · rename_i m hm
        obtain ⟨k1, hd⟩ := cond_yes hd
        obtain rfl := Option.some.inj hd
        simp only [Bool.and_eq_true, decide_eq_true_eq] at k1
        cases hi with
        | none => simp at hm
        | some ho =>
          simp only [Option.isSome_some, cond_true] at hm
          obtain ⟨k3, e3⟩ := intD_ok (eval_opd hr mo) hm
          rcases bh with ⟨e, _⟩ | ⟨k4, e4⟩
          · simp at e
          · refine ⟨_, run_sliceAt ht hz (mx := some (a.eval mo)) (by rw [e3]; exact run_bounds3 bl e4 k1.1.1.1 k1.1.1.2 k1.1.2 h1 k1.2), main h.toNat true k1.1.1.1 k1.1.1.2 k1.1.2 (Nat.le_refl _) (by omega) (fun _ => rfl) (fun e => by cases e)⟩
      · cases hd
  · cases hd

theorem slice_ok (hr : Rel g s a w μ I) {t e : Nat} {τ : Ty} (ht : P.underlying t = some (.slice e)) (hz : (sizeOf e).run P w = .ok τ.sz w) {x d : D} {u : Value} {lo hi mx : Option Operand} (hx : RD μ I w (shp s.m) x u)
    (h : (sliceD s τ x lo hi mx).run = some d) : ∃ r, (Instr.sliceAt t u (lo.map a.eval) (hi.map a.eval) (mx.map a.eval)).run P w = .ok r w ∧ RD μ I w (shp s.m) d r := by
  unfold sliceD at h
  split at h
  · rename_i b σ xs
    split at h
    · rename_i l hh hl hhi
      cases hq : decide (σ = τ) with
      | false => simp only [hq, cond_false] at h; cases h
      | true =>
        simp only [hq, cond_true] at h
        obtain rfl := of_decide_eq_true hq
        obtain ⟨k1, h⟩ := cond_yes h
        obtain rfl := Option.some.inj h
        simp only [Bool.and_eq_true, decide_eq_true_eq] at k1
        obtain ⟨A, cap, rfl, h1, h2, h3⟩ := K.sl_len (hx.2 rfl)
        have bl := bnd_ok' hr hl
        have bh := bnd_ok' hr hhi
        refine ⟨_, run_sliceAt ht hz (run_bounds bl bh k1.1.1 k1.1.2 k1.2 h1), ⟨fun e => by simp [Ty.isAgg] at e, fun _ => ?_⟩⟩
        have hlen : ((xs.take hh.toNat).drop l.toNat).length = hh.toNat - l.toNat := by rw [List.length_drop, List.length_take]; omega
        refine ⟨_, _, by rw [hlen], by rw [hlen]; omega, (by unfold Mx at h2; omega), fun hne => ?_⟩
        have hlt : l.toNat < hh.toNat := by
          rcases Nat.lt_or_ge l.toNat hh.toNat with q | q
          · exact q
          · exact absurd (List.eq_nil_of_length_eq_zero (by rw [hlen]; omega)) hne
        obtain ⟨ad, cells, rfl, hI, hc, hrow⟩ := h3 (fun e => by subst e; simp at k1; omega)
        obtain ⟨bb, o, sp⟩ := ad
        obtain rfl : sp = none := hc.1
        refine ⟨⟨bb, o + l.toNat * σ.sz, none⟩, (cells.take (hh.toNat * σ.sz)).drop (l.toNat * σ.sz), ?_, hI, (hc.takeC _).dropC _, (hrow.takeR _ (by omega)).dropR _⟩
        rw [if_neg (by omega)]
        simp [Addr.add_lit]
    · cases h
  · split at h
    · rename_i l hh hl hhi
      obtain rfl : u = .slice none 0 0 := hx
      have bl := bnd_ok' hr hl
      have bh := bnd_ok' hr hhi
      split at h
      · obtain ⟨k1, h⟩ := cond_yes h
        obtain rfl := Option.some.inj h
        simp only [Bool.and_eq_true, decide_eq_true_eq] at k1
        obtain ⟨rfl, rfl⟩ := k1
        refine ⟨_, run_sliceAt ht hz (run_bounds (len := 0) bl bh (by omega) (by omega) (by omega) (Nat.le_refl _)), ?_⟩
        simp [RD, RC]
      · rename_i mo
        split at h
        · rename_i m hm
          obtain ⟨k1, h⟩ := cond_yes h
          obtain rfl := Option.some.inj h
          simp only [Bool.and_eq_true, decide_eq_true_eq] at k1
          obtain ⟨⟨rfl, rfl⟩, rfl⟩ := k1
          cases hi with
          | none => simp at hm
          | some ho =>
            simp only [Option.isSome_some, cond_true] at hm
            obtain ⟨k3, e3⟩ := intD_ok (eval_opd hr mo) hm
            rcases bh with ⟨e, _⟩ | ⟨k4, e4⟩
            · simp at e
            · refine ⟨_, run_sliceAt ht hz (mx := some (a.eval mo)) (by rw [e3]; exact run_bounds3 (len := 0) bl e4 (by omega) (by omega) (by omega) (Nat.le_refl _) rfl), ?_⟩
              simp [RD, RC]
        · cases h
    · cases h
  · rename_i n
    split at h
    · rename_i tt el σ xs hl
      cases hq : decide (σ = τ) with
      | false => simp only [hq, cond_false] at h; cases h
      | true =>
        simp only [hq, cond_true] at h
        obtain rfl := of_decide_eq_true hq
        obtain ⟨len, z, A, cap, e1, rfl, h2, h3, h4⟩ := hx
        have e1' := e1
        rw [shp_look hl] at e1'
        obtain ⟨rfl, rfl⟩ := Prod.mk.inj (Option.some.inj e1')
        refine sliceOwn_ok hr ht hz h e1 (by omega) h2 h3 (fun hlt => ?_) (fun _ => h4)
        rcases h4 with ⟨rfl, rfl⟩ | ⟨b, q, len', z', e2, e3, rfl, rfl⟩
        · omega
        · exact ⟨b, _, e2, by simp⟩
    · cases h
  · rename_i n o len
    split at h
    · rename_i tt el σ xs hl
      cases hq : decide (σ = τ) with
      | false => simp only [hq, cond_false] at h; cases h
      | true =>
        simp only [hq, cond_true] at h
        obtain rfl := of_decide_eq_true hq
        obtain ⟨A, cap, rfl, h2, h3, h4, ⟨len', z', e1, h5, h6⟩, h7⟩ := hx
        have e1' := e1
        rw [shp_look hl] at e1'
        obtain ⟨rfl, rfl⟩ := Prod.mk.inj (Option.some.inj e1')
        exact sliceOwn_ok hr ht hz h e1 h5 h2 h3 h6 (fun ho => h7 ho rfl)
    · cases h
  · cases h

theorem sliceStr_ok (hr : Rel g s a w μ I) {t : Nat} (ht : P.underlying t = some .string) {b : Bool} {v : ByteArray} {d : D} {u : Value} {lo hi mx : Option Operand} (hx : RD μ I w (shp s.m) (.c (.ty b .str v)) u)
    (h : (sliceStr s b v lo hi mx).run = some d) : ∃ r, (Instr.sliceAt t u (lo.map a.eval) (hi.map a.eval) (mx.map a.eval)).run P w = .ok r w ∧ RD μ I w (shp s.m) d r := by
  unfold sliceStr at h
  split at h
  · rename_i l hh hl hhi
    obtain ⟨k1, h⟩ := cond_yes h
    obtain rfl := Option.some.inj h
    simp only [Bool.and_eq_true, decide_eq_true_eq] at k1
    obtain ⟨rfl, h1⟩ := hx.str
    have bl := bnd_ok' hr hl
    have bh := bnd_ok' hr hhi
    have hb := run_bounds (P := P) (w := w) (isS := false) bl bh k1.1.1 k1.1.2 k1.2 (Nat.le_refl _)
    refine ⟨.string (v.extract l.toNat hh.toNat), ?_, RD.ofStr ?_ _⟩
    · simp [Instr.sliceAt, Instr.slice, run_underlying ht, hb]
    · rw [ByteArray.size_extract]
      omega
  · cases h

end Go.PI
