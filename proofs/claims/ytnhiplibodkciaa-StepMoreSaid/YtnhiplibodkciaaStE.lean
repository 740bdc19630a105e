/- StepMore: what comes of a run by an event, by the code and by the statement, is the same list. -/
import Derived.Test.YtnhiplibodkciaaStD
import Derived.Test.YtnhiplibodkciaaS4a
import Derived.Test.YtnhiplibodkciaaW6
namespace Go.Proofs.Ytnhiplibodkciaa
open Go.PI Go

/-- Data that are numbers of 64 bits. -/
def ValsIn (e : Evt) : Prop := ∀ v ∈ e.2.2.2.2, -9223372036854775808 ≤ v.2.1 ∧ v.2.1 ≤ 9223372036854775807
theorem mkE_in (k : Int) (key : ByteArray) (t n : Int) (s : ByteArray) (b : Bool) (hn : n = 0 ∨ n = 1 ∨ n = 2 ∨ n = 3) : ValsIn (mkE k key t n s b) := by
  intro v hv
  unfold mkE at hv
  dsimp only at hv
  split at hv <;> simp at hv <;> rcases hv with rfl | rfl | rfl <;> (dsimp only; omega)
/-- Events that were made: numbers 1, 2, ..; few data. -/
def EvsOk (l : List Evt) : Prop := ∀ (k : Nat) e, l[k]? = some e → e.2.2.2.2.length ≤ 3 ∧ e.2.2.2.1 = (k : Int) + 1 ∧ ValsIn e
theorem EvsOk.snoc {l : List Evt} (h : EvsOk l) {e : Evt} (h1 : e.2.2.2.2.length ≤ 3) (h2 : e.2.2.2.1 = (l.length : Int) + 1) (h3 : ValsIn e) : EvsOk (l ++ [e]) := by
  intro k u hu
  rcases Nat.lt_or_ge k l.length with hk | hk
  · rw [List.getElem?_append_left hk] at hu
    exact h k u hu
  · rw [List.getElem?_append_right hk] at hu
    have : k = l.length := by
      have := (List.getElem?_eq_some_iff.1 hu).1
      simp at this
      omega
    subst this
    rw [Nat.sub_self] at hu
    obtain rfl : e = u := by simpa using hu
    exact ⟨h1, h2, h3⟩
theorem EvsOk.get {l : List Evt} (h : EvsOk l) {i : Nat} (hi : i < l.length) : (l.getD i evZ).2.2.2.2.length ≤ 3 ∧ (l.getD i evZ).2.2.2.1 = (i : Int) + 1 ∧ ValsIn (l.getD i evZ) := by
  rw [getD_lt _ _ _ hi]
  exact h i _ (List.getElem?_eq_getElem hi)
theorem eventsR_at (l : List Evt) (m : Int) (h0 : 0 ≤ m) (hm : m ≤ 100) : ∃ x, eventsR (l, m, ()) = some (x, ()) ∧ EvsOk x ∧ (x.length : Int) ≤ m ∧ (x.length = 0 → l.length = 0 ∨ m = 0) := by
  unfold eventsR eventsR_B
  obtain ⟨z, hz, hq⟩ : ∃ z, eventsR_w0 (l, m, 0, [], ()) = some z ∧ EvsOk z.1 ∧ (z.1.length : Int) ≤ m ∧ (z.1.length = 0 → l.length = 0 ∨ m = 0) := by
    refine iterO_rec (step := fun x => (eventsR_l0 x).run) (Q := fun _ z => EvsOk z.1 ∧ (z.1.length : Int) ≤ m ∧ (z.1.length = 0 → l.length = 0 ∨ m = 0)) (fun y => y.1 = l ∧ y.2.1 = m ∧ 0 ≤ y.2.2.1 ∧ y.2.2.1 ≤ m ∧ (y.2.2.2.1.length : Int) = y.2.2.1 ∧ EvsOk y.2.2.2.1) (fun y => (m - y.2.2.1).toNat) ?_ _ ⟨rfl, rfl, Int.le_refl 0, h0, rfl, fun k e h => by simp at h⟩
    rintro ⟨l', m', i, acc, ⟨⟩⟩ hx
    dsimp only at hx ⊢
    obtain ⟨rfl, rfl, h0, h1, h2, h3⟩ := hx
    unfold eventsR_l0
    by_cases hi : i < (l'.length : Int)
    · by_cases hi5 : i < m'
      · have hw : IntKind.wrap .i64 (i + 1) = i + 1 := Go.PI.wrap_small (by omega) (by omega)
        obtain ⟨k, key, t, n, s, b, -, hn, -, he⟩ := eventR_at (List.getD l' (Int.toNat i) (ByteArray.empty, ByteArray.empty, 0, 0, []))
        simp only [Br.run, decide_eq_true hi, decide_eq_true hi5, decide_eq_true h0, Bool.and_self, cond_true, hw, he, Bool.cond_decide]
        refine .inl ⟨_, if_pos ?_, ?_, ?_, fun z hz => hz⟩
        · show (acc.length + 1) * 72 ≤ 140737488355328
          omega
        · refine ⟨rfl, rfl, by dsimp only; omega, by dsimp only; omega, ?_, h3.snoc (mkE_len k key t n s b) (show i + 1 = (acc.length : Int) + 1 by omega) (mkE_in k key t n s b hn)⟩
          show (((acc ++ [_]).length : Nat) : Int) = i + 1
          rw [List.length_append, List.length_singleton]; omega
        · dsimp only; omega
      · simp only [Br.run, decide_eq_true hi, decide_eq_false hi5, cond_true, cond_false]
        exact .inr ⟨_, rfl, h3, by dsimp only; omega, by dsimp only; omega⟩
    · simp only [Br.run, decide_eq_false hi, cond_false]
      exact .inr ⟨_, rfl, h3, by dsimp only; omega, by dsimp only; omega⟩
  simp only [Br.run, hz]
  exact ⟨_, rfl, hq⟩

theorem at24_w0_at (q : Qry) (x : List Evt) (hx : EvsOk x) (hx5 : x.length ≤ 50) (i : Int) (st : Stt) : ∃ r : RunT, at24_w0 (x, i, 0, 0, 0, 0, 0, 0, false, q, run0, st, ()) = some (x, 0, 0, 0, 0, 0, false, r, st, ()) ∧ (r.1 = 0 ∨ r.1 = i) ∧ r.2.1.length ≤ 50 ∧ r.2.2.1.length ≤ 50 := by
  suffices hh : ∃ z, at24_w0 (x, i, 0, 0, 0, 0, 0, 0, false, q, run0, st, ()) = some z ∧ ∃ r : RunT, z = (x, 0, 0, 0, 0, 0, false, r, st, ()) ∧ (r.1 = 0 ∨ r.1 = i) ∧ r.2.1.length ≤ 50 ∧ r.2.2.1.length ≤ 50 by
    obtain ⟨z, hz, r, rfl, h⟩ := hh
    exact ⟨r, hz, h⟩
  refine iterO_rec (step := fun x => (at24_l0 x).run) (Q := fun _ z => ∃ r : RunT, z = (x, 0, 0, 0, 0, 0, false, r, st, ()) ∧ (r.1 = 0 ∨ r.1 = i) ∧ r.2.1.length ≤ 50 ∧ r.2.2.1.length ≤ 50)
    (fun y => ∃ r : RunT, ∃ j : Int, y = (x, i, j, 0, 0, 0, 0, 0, false, q, r, st, ()) ∧ 0 ≤ j ∧ j ≤ x.length ∧ (r.1 = 0 ∨ r.1 = i) ∧ (r.2.1.length : Int) ≤ j ∧ (r.2.2.1.length : Int) ≤ j)
    (fun y => ((x.length : Int) - y.2.2.1).toNat) ?_ _ ⟨run0, 0, rfl, Int.le_refl 0, by omega, .inl rfl, by simp, by simp⟩
  rintro y ⟨r, j, rfl, h0, h1, h2, h3, h4⟩
  unfold at24_l0
  by_cases hc : j < st.2
  · by_cases hj : j < (x.length : Int)
    · have hw : IntKind.wrap .i64 (j + 1) = j + 1 := Go.PI.wrap_small (by omega) (by omega)
      have he := hx.get (i := j.toNat) (by omega)
      simp only [Br.run, decide_eq_true hc, decide_eq_true hj, decide_eq_true h0, Bool.and_self, cond_true, hw, runWith_at r q i st.1 (x.getD j.toNat evZ) (by omega) (by omega) (by omega)]
      refine .inl ⟨_, rfl, ⟨withR r q i st.1 (x.getD j.toNat evZ), j + 1, rfl, by omega, by omega, .inr rfl, ?_, ?_⟩, ?_, fun z hz => hz⟩
      · show ((r.2.1.length + 1 : Nat) : Int) ≤ j + 1
        omega
      · unfold withR
        dsimp only
        split
        · show ((r.2.2.1.length + 1 : Nat) : Int) ≤ j + 1
          omega
        · omega
      · dsimp only; omega
    · simp only [Br.run, decide_eq_true hc, decide_eq_false hj, cond_true, cond_false]
      exact .inr ⟨_, rfl, r, rfl, h2, by omega, by omega⟩
  · simp only [Br.run, decide_eq_false hc, cond_false]
    exact .inr ⟨_, rfl, r, rfl, h2, by omega, by omega⟩
theorem at24_at (q : Qry) (L : List Stt) (hL : 2 ≤ L.length) (hL2 : L.length ≤ 100) (x : List Evt) (hx : EvsOk x) (hx5 : x.length ≤ 50) (k : Int) :
    ∃ r : RunT, at24 (q, some (q, L), x, k, ()) = some (r, ()) ∧ 0 ≤ r.1 ∧ r.1 < L.length ∧ r.2.1.length ≤ 50 ∧ r.2.2.1.length ≤ 50 := by
  unfold at24 at24_B
  have hM := mask_in k 255 (by decide) (by decide)
  dsimp only
  generalize IntKind.wrap IntKind.i64 (↑(BitVec.toNat (BitVec.ofInt (IntKind.bits IntKind.i64) k &&& BitVec.ofInt (IntKind.bits IntKind.i64) 255)) : Int) = M at hM ⊢
  have hT0 : 0 ≤ Int.tmod M (L.length : Int) := Int.tmod_nonneg _ hM.1
  have hT1 : Int.tmod M (L.length : Int) < L.length := Int.tmod_lt_of_pos M (by omega)
  have hl0 : ¬ ((L.length : Int) = 0) := by omega
  obtain ⟨r, hr, h1, h2, h3⟩ := at24_w0_at q x hx hx5 (Int.tmod M (L.length : Int)) (L.getD (Int.tmod M (L.length : Int)).toNat (0, 0))
  have hr' : at24_w0 (x, Int.tmod M (L.length : Int), 0, 0, 0, 0, 0, 0, false, q, (0, [], [], 0, (0, 0, 0), false), L.getD (Int.tmod M (L.length : Int)).toNat (0, 0), ()) = _ := hr
  simp only [Br.run, lenN_at, decide_eq_false hl0, cond_false, atN_at q L _ hT0 hT1]
  rw [hr']
  simp only [Br.run, cond_eq_ite]
  split
  · exact ⟨run0, rfl, Int.le_refl 0, by show (0 : Int) < _; omega, by simp, by simp⟩
  · refine ⟨r, rfl, ?_, ?_, h2, h3⟩ <;> rcases h1 with h | h <;> omega

/-- What a run comes to by moves. -/
noncomputable def moreF (q : Qry) (L : List Stt) (r : RunT) (e : Evt) : List Int → List RunT
  | [] => []
  | k :: v => if (fitP q r e (L.getD k.toNat (0, 0)).1 && (!r.2.2.2.2.2 || (L.getD k.toNat (0, 0)).1 == elemR r)) = true then withR r q k (L.getD k.toNat (0, 0)).1 e :: moreF q L r e v else moreF q L r e v
theorem moreF_len (q : Qry) (L : List Stt) (r : RunT) (e : Evt) : ∀ v, (moreF q L r e v).length ≤ v.length
  | [] => Nat.le_refl _
  | k :: v => by
    unfold moreF
    have := moreF_len q L r e v
    split <;> simp <;> omega

theorem moreM_w0_at {q : Qry} (h : QMade q) {L : List Stt} (hL2 : L.length ≤ 100) (hs : ∀ s ∈ L, StOk q s) (r : RunT) (hm : r.2.1.length ≤ 100) (hr : r.2.2.1.length ≤ 60) (e : Evt) (he : e.2.2.2.2.length ≤ 3) (v : List Int) (hv : v.length ≤ 2) (hv2 : ∀ j ∈ v, 0 ≤ j ∧ j < L.length) :
    moreM_w0 (some (sch3, q, some (q, L)), v, (v.length : Int), 0, r, e, [], ()) = some (moreF q L r e v, ()) := by
  suffices hh : ∃ z, moreM_w0 (some (sch3, q, some (q, L)), v, (v.length : Int), 0, r, e, [], ()) = some z ∧ z = ([] ++ moreF q L r e (v.drop (Int.toNat 0)), ()) by
    obtain ⟨z, hz, rfl⟩ := hh
    exact hz
  refine iterO_rec (step := fun x => (moreM_l0 x).run) (Q := fun y z => z = (y.2.2.2.2.2.2.1 ++ moreF q L r e (v.drop y.2.2.2.1.toNat), ()))
    (fun y => ∃ (i : Int) (acc : List RunT), y = (some (sch3, q, some (q, L)), v, (v.length : Int), i, r, e, acc, ()) ∧ 0 ≤ i ∧ i ≤ v.length ∧ (acc.length : Int) ≤ i) (fun y => ((v.length : Int) - y.2.2.2.1).toNat) ?_ _ ⟨0, [], rfl, Int.le_refl 0, by omega, by simp⟩
  rintro y ⟨i, acc, rfl, h0, h1, h2⟩
  unfold moreM_l0
  dsimp only
  by_cases hi : i < (v.length : Int)
  · have hw : IntKind.wrap .i64 (i + 1) = i + 1 := Go.PI.wrap_small (by omega) (by omega)
    have hlt : i.toNat < v.length := by omega
    obtain ⟨k0, k1⟩ := hv2 (v.getD i.toNat 0) (by rw [getD_lt _ _ _ hlt]; exact List.getElem_mem hlt)
    rw [drop_get v i 0 h0 hi]
    generalize v.getD i.toNat 0 = k at k0 k1 ⊢
    have ha := atN_at q L k k0 k1
    have hf := fitsG_at h.qok r hr e (L.getD k.toNat (0, 0)).1
    have hwi := runWith_at r q k (L.getD k.toNat (0, 0)).1 e (by omega) (by omega) (by omega)
    have hb : (acc.length + List.length (List.set (List.replicate 1 ((0, [], [], 0, (0, 0, 0), false) : RunT)) 0 (withR r q k (L.getD k.toNat (0, 0)).1 e))) * 64 ≤ 140737488355328 := by
      show (acc.length + 1) * 64 ≤ _
      omega
    have eA : ∀ x : RunT, acc ++ List.set (List.replicate 1 ((0, [], [], 0, (0, 0, 0), false) : RunT)) 0 x = acc ++ [x] := fun x => rfl
    have step : ∀ acc' : List RunT, (acc'.length : Int) ≤ i + 1 → acc' ++ moreF q L r e (v.drop (i + 1).toNat) = acc ++ moreF q L r e (k :: v.drop (i + 1).toNat) →
        (∃ x', (some (Sum.inl (some (sch3, q, some (q, L)), v, (v.length : Int), i + 1, r, e, acc', ())) : Option (_ ⊕ (List RunT × Unit))) = some (.inl x') ∧ (∃ (i : Int) (acc : List RunT), x' = (some (sch3, q, some (q, L)), v, (v.length : Int), i, r, e, acc, ()) ∧ 0 ≤ i ∧ i ≤ v.length ∧ (acc.length : Int) ≤ i) ∧ ((v.length : Int) - x'.2.2.2.1).toNat < ((v.length : Int) - i).toNat ∧
          ∀ z, z = (x'.2.2.2.2.2.2.1 ++ moreF q L r e (v.drop x'.2.2.2.1.toNat), ()) → z = (acc ++ moreF q L r e (k :: v.drop (i + 1).toNat), ())) := by
      intro acc' a1 a2
      refine ⟨_, rfl, ⟨i + 1, acc', rfl, by omega, by omega, a1⟩, by dsimp only; omega, fun z hz => ?_⟩
      rw [hz, ← a2]
    have hnil : acc ++ moreF q L r e (v.drop (i + 1).toNat) = acc ++ moreF q L r e (v.drop (i + 1).toNat) := rfl
    by_cases c1 : (L.getD k.toNat (0, 0)).1 = elemR r
    · have c1' : ((L.getD k.toNat (0, 0)).1 != elemR r) = false := by rw [c1]; exact bne_self_eq_false _
      have c1b : ((L.getD k.toNat (0, 0)).1 == elemR r) = true := beq_iff_eq.2 c1
      cases c2 : fitP q r e (L.getD k.toNat (0, 0)).1
      · rw [c2] at hf
        simp only [Br.run, decide_eq_true hi, decide_eq_true h0, Bool.and_self, cond_true, cond_false, hw, Option.isSome_some, ha, runElem_at, c1', hf, Bool.not_false]
        refine .inl (step acc (by omega) ?_)
        simp only [moreF, c2, Bool.false_and, Bool.false_eq_true, ↓reduceIte]
      · rw [c2] at hf
        simp only [Br.run, decide_eq_true hi, decide_eq_true h0, Bool.and_self, cond_true, cond_false, hw, Option.isSome_some, ha, runElem_at, c1', hf, Bool.not_true, hwi, decide_eq_true hb, eA]
        refine .inl (step _ (by rw [List.length_append, List.length_singleton]; omega) ?_)
        simp only [moreF, c2, c1b, Bool.or_true, Bool.and_self, ↓reduceIte, List.append_assoc, List.singleton_append]
    · have c1' : ((L.getD k.toNat (0, 0)).1 != elemR r) = true := bne_iff_ne.2 c1
      have c1'' : ((L.getD k.toNat (0, 0)).1 == elemR r) = false := beq_eq_false_iff_ne.2 c1
      cases c3 : r.2.2.2.2.2
      · cases c2 : fitP q r e (L.getD k.toNat (0, 0)).1
        · rw [c2] at hf
          simp only [Br.run, decide_eq_true hi, decide_eq_true h0, Bool.and_self, cond_true, cond_false, hw, Option.isSome_some, ha, runElem_at, runBlkd_at, c3, c1', hf, Bool.not_false]
          refine .inl (step acc (by omega) ?_)
          simp only [moreF, c2, Bool.false_and, Bool.false_eq_true, ↓reduceIte]
        · rw [c2] at hf
          simp only [Br.run, decide_eq_true hi, decide_eq_true h0, Bool.and_self, cond_true, cond_false, hw, Option.isSome_some, ha, runElem_at, runBlkd_at, c3, c1', hf, Bool.not_true, hwi, decide_eq_true hb, eA]
          refine .inl (step _ (by rw [List.length_append, List.length_singleton]; omega) ?_)
          simp only [moreF, c2, c3, Bool.not_false, Bool.true_or, Bool.and_self, ↓reduceIte, List.append_assoc, List.singleton_append]
      · simp only [Br.run, decide_eq_true hi, decide_eq_true h0, Bool.and_self, cond_true, cond_false, hw, Option.isSome_some, ha, runElem_at, runBlkd_at, c3, c1']
        refine .inl (step acc (by omega) ?_)
        simp only [moreF, c3, c1'', Bool.not_true, Bool.or_self, Bool.and_false, Bool.false_eq_true, ↓reduceIte]
  · simp only [Br.run, decide_eq_false hi, cond_false]
    have : v.drop i.toNat = [] := List.drop_eq_nil_of_le (by omega)
    rw [this]
    exact .inr ⟨_, rfl, by simp [moreF]⟩
end Go.Proofs.Ytnhiplibodkciaa
