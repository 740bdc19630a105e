/- What a call is told and tells, as typed data. -/
import Derived.Test.YtnhiplibodkciaaPIs
namespace Go.PI
open Go.RowKit

/-- A cell's typed worth, one's own blocks being told by what they hold. -/
def outL (m : Mem) : (σ : Ty) → List C → Option ((Bool × σ.T) × List C)
  | .unit, l => some ((false, ()), l)
  | .pair a b, l => match outL m a l with
    | some ((t, x), l) => match outL m b l with
      | some ((u, y), l) => some ((t || u, x, y), l)
      | none => none
    | none => none
  | .st a, l => outL m a l
  | .arr n a, l => manyRe (outL m a) n l
  | .sl a, c :: l => match c.asTy (.sl a) with
    | some q => some (q, l)
    | none => match c with
      | .mfull n => match look n m with
        | some (.ar t _ τ xs) => if h : τ = a then some ((t, cast (congrArg (fun s => List (Ty.T s)) h) xs), l) else none
        | _ => none
      | .msl n s k _ => match look n m with
        | some (.ar t _ τ xs) => if h : τ = a then some ((t, ((cast (congrArg (fun s => List (Ty.T s)) h) xs).drop s).take k), l) else none
        | _ => none
      | _ => none
  | .ptr a, c :: l => match c.asTy (.ptr a) with
    | some q => some (q, l)
    | none => match c with
      | .ref n 0 0 => match look n m with
        | some (.tv t τ x) => if h : τ = a then some ((t, some (cast (congrArg Ty.T h) x)), l) else none
        | some (.dv l') => match outL m a l' with
          | some ((t, x), []) => some ((t, some x), l)
          | _ => none
        | _ => none
      | .eref t τ (x :: _) 0 0 => if h : τ = a then some ((t, some (cast (congrArg Ty.T h) x)), l) else none
      | _ => none
  | σ, c :: l => match c.asTy σ with
    | some q => some (q, l)
    | none => none
  | _, [] => none

def D.out (m : Mem) (σ : Ty) : D → Option (Bool × σ.T)
  | .c (.ty b τ x) => if h : τ = σ then some (b, cast (congrArg Ty.T h) x) else none
  | .c x => bif σ.isAgg then none else (match outL m σ [x] with
    | some (q, []) => some q
    | _ => none)
  | .agg l => bif σ.isAgg then (match outL m σ l with
    | some (q, []) => some q
    | _ => none) else none
  | _ => none

variable {P : Program} {c : Ctx} {g : Cfg} {s st : St} {a : Act} {w : World} {μ : Nm} {I : Bool → Nat → Prop}

theorem outL_ok {m : Mem} (hm : MRel g m w μ I) {J : Bool → Nat → Prop} (hIJ : ∀ t b, I t b → J t b) (hJ : ∀ b, J false b → J true b) (hL : ∀ t b, Live m μ b → J t b) :
    ∀ {σ : Ty} {l rest : List C} {t : Bool} {x : σ.T}, outL m σ l = some ((t, x), rest) → ∀ {vs : List Value}, RL μ I w (shp m) l vs → ∃ v1 v2, vs = v1 ++ v2 ∧ K (J t) w σ x v1 ∧ RL μ I w (shp m) rest v2
  | .unit, l, rest, b, x, h, vs, hl => by
    simp only [outL] at h
    obtain ⟨h1, rfl⟩ := Prod.mk.inj (Option.some.inj h)
    exact ⟨[], vs, rfl, rfl, hl⟩
  | .pair p q, l, rest, b, x, h, vs, hl => by
    simp only [outL] at h
    split at h
    · rename_i t y l1 h1
      split at h
      · rename_i u z l2 h2
        obtain ⟨h3, rfl⟩ := Prod.mk.inj (Option.some.inj h)
        obtain ⟨rfl, rfl⟩ := Prod.mk.inj h3
        obtain ⟨v1, v2, rfl, k1, r1⟩ := outL_ok hm hIJ hJ hL h1 hl
        obtain ⟨v3, v4, rfl, k2, r2⟩ := outL_ok hm hIJ hJ hL h2 r1
        exact ⟨v1 ++ v3, v4, by simp, ⟨v1, v3, rfl, k1.up (or_mono hJ t u).1, k2.up (or_mono hJ t u).2⟩, r2⟩
      · cases h
    · cases h
  | .st p, l, rest, b, x, h, vs, hl => outL_ok (σ := p) hm hIJ hJ hL h hl
  | .arr n p, l, rest, b, x, h, vs, hl => by
    simp only [outL] at h
    have main : ∀ (n : Nat) (l rest : List C) (b : Bool) (x : List p.T) (vs : List Value), manyRe (outL m p) n l = some ((b, x), rest) → RL μ I w (shp m) l vs → ∃ v1 v2, vs = v1 ++ v2 ∧ (x.length = n ∧ Row (K (J b) w p) p.sz x v1) ∧ RL μ I w (shp m) rest v2 := by
      intro n
      induction n with
      | zero =>
        intro l rest b x vs h hl
        simp only [manyRe] at h
        obtain ⟨h3, rfl⟩ := Prod.mk.inj (Option.some.inj h)
        obtain ⟨rfl, rfl⟩ := Prod.mk.inj h3
        exact ⟨[], vs, rfl, ⟨rfl, Row.nil _ _⟩, hl⟩
      | succ n ih =>
        intro l rest b x vs h hl
        simp only [manyRe] at h
        split at h
        · rename_i t y l1 h1
          split at h
          · rename_i u z l2 h2
            obtain ⟨h3, rfl⟩ := Prod.mk.inj (Option.some.inj h)
            obtain ⟨rfl, rfl⟩ := Prod.mk.inj h3
            obtain ⟨v1, v2, rfl, k1, r1⟩ := outL_ok hm hIJ hJ hL h1 hl
            obtain ⟨v3, v4, rfl, ⟨k2, k3⟩, r2⟩ := ih _ _ _ _ _ h2 r1
            refine ⟨v1 ++ v3, v4, by simp, ⟨by simp [k2], Row.cons k1.length (k1.up (or_mono hJ t u).1) (k3.imp fun _ _ k => k.up (or_mono hJ t u).2)⟩, r2⟩
          · cases h
        · cases h
    exact main n l rest b x vs h hl
  | .sl p, c :: l, rest, b, x, h, vs, hl => by
    obtain ⟨v, r, rfl, hc, hr⟩ := hl.cons
    simp only [outL] at h
    split at h
    · rename_i q hq
      obtain ⟨rfl, rfl⟩ := Prod.mk.inj (Option.some.inj h)
      exact ⟨[v], r, rfl, ((asTyC_ok hc hq).2 rfl).mono (hIJ b) (stays_refl _ _), hr⟩
    · split at h
      · rename_i n hno
        split at h
        · rename_i t el τ xs hlk
          split at h
          · rename_i hτ
            subst hτ
            obtain ⟨h3, rfl⟩ := Prod.mk.inj (Option.some.inj h)
            obtain ⟨rfl, hx⟩ := Prod.mk.inj h3
            have hx : xs = x := hx
            subst hx
            have hs : sliceOf m τ (.c (.mfull n)) = some (t, xs) := by simp [sliceOf, hlk]
            exact ⟨[v], r, rfl, own_K hm hIJ hL (y := .c (.mfull n)) hc hs (.inl ⟨n, rfl⟩), hr⟩
          · cases h
        · cases h
      · rename_i n sx k cp hno
        split at h
        · rename_i t el τ xs hlk
          split at h
          · rename_i hτ
            subst hτ
            obtain ⟨h3, rfl⟩ := Prod.mk.inj (Option.some.inj h)
            obtain ⟨rfl, hx⟩ := Prod.mk.inj h3
            have hx : (xs.drop sx).take k = x := hx
            subst hx
            have hs : sliceOf m τ (.c (.msl n sx k cp)) = some (t, (xs.drop sx).take k) := by simp [sliceOf, hlk]
            exact ⟨[v], r, rfl, own_K hm hIJ hL (y := .c (.msl n sx k cp)) hc hs (.inr ⟨n, sx, k, cp, rfl⟩), hr⟩
          · cases h
        · cases h
      · cases h
  | .ptr p, c :: l, rest, b, x, h, vs, hl => by
    obtain ⟨v, r, rfl, hc, hr⟩ := hl.cons
    simp only [outL] at h
    split at h
    · rename_i q hq
      obtain ⟨rfl, rfl⟩ := Prod.mk.inj (Option.some.inj h)
      exact ⟨[v], r, rfl, ((asTyC_ok hc hq).2 rfl).mono (hIJ b) (stays_refl _ _), hr⟩
    · split at h
      · rename_i n hno
        obtain ⟨bb, qq, len, z, e1, e2, hi, rfl⟩ := hc
        split at h
        · rename_i t τ y hlk
          split at h
          · rename_i hτ
            subst hτ
            obtain ⟨h3, rfl⟩ := Prod.mk.inj (Option.some.inj h)
            obtain ⟨rfl, hx⟩ := Prod.mk.inj h3
            have hx : some y = x := hx
            subst hx
            rcases hm.mem n _ hlk with ⟨b', q', e3, cur, el, hh, hq, hk⟩ | ⟨_, _, _, _, e3⟩
            · rw [e1] at e3
              obtain ⟨rfl, rfl⟩ := Prod.mk.inj (Option.some.inj e3)
              refine ⟨[_], r, rfl, ⟨⟨bb, 0, none⟩, cur.toList, by simp, hL _ _ ⟨n, _, by rw [hlk]; simp, e1⟩, ⟨rfl, fun j u hu => by rw [Nat.zero_add, cell_cur hh]; exact hu⟩, hk.mono (hIJ t) (stays_refl _ _)⟩, hr⟩
            · cases e3
          · cases h
        · rename_i l' hlk
          split at h
          · rename_i t y hy
            obtain ⟨h3, rfl⟩ := Prod.mk.inj (Option.some.inj h)
            obtain ⟨rfl, rfl⟩ := Prod.mk.inj h3
            rcases hm.mem n _ hlk with ⟨b', q', e3, cur, el, hh, hq, hk, _⟩ | ⟨_, _, _, _, e3⟩
            · rw [e1] at e3
              obtain ⟨rfl, rfl⟩ := Prod.mk.inj (Option.some.inj e3)
              obtain ⟨v1, v2, ev, k1, r1⟩ := outL_ok hm hIJ hJ hL hy hk
              have hv2 : v2 = [] := by have := r1.1; simpa using this.symm
              rw [hv2, List.append_nil] at ev
              rw [← ev] at k1
              refine ⟨[_], r, rfl, ⟨⟨bb, 0, none⟩, cur.toList, by simp, hL _ _ ⟨n, _, by rw [hlk]; simp, e1⟩, ⟨rfl, fun j u hu => by rw [Nat.zero_add, cell_cur hh]; exact hu⟩, k1⟩, hr⟩
            · cases e3
          · cases h
        · cases h
      · rename_i t τ y ys hno
        split at h
        · rename_i hτ
          subst hτ
          obtain ⟨h3, rfl⟩ := Prod.mk.inj (Option.some.inj h)
          obtain ⟨rfl, hx⟩ := Prod.mk.inj h3
          have hx : some y = x := hx
          subst hx
          obtain ⟨ad, cells, rfl, hi, hI, hcc, hrow⟩ := hc
          obtain ⟨ab, ao, asp⟩ := ad
          obtain rfl : asp = none := hcc.1
          have hp := row_piece hrow τ.zero hi
          refine ⟨[_], r, rfl, ⟨⟨ab, ao, none⟩, piece τ.sz cells 0, by simp, hIJ _ _ hI, ⟨rfl, fun j u hu => ?_⟩, hp.mono (hIJ t) (stays_refl _ _)⟩, hr⟩
          unfold piece at hu
          rw [List.getElem?_take] at hu
          split at hu
          · rw [Nat.zero_mul, List.drop_zero] at hu
            exact hcc.2 j u hu
          · cases hu
        · cases h
      · cases h
  | .bool, c :: l, rest, b, x, h, vs, hl => leaf .bool rfl rfl h hl
  | .int k, c :: l, rest, b, x, h, vs, hl => leaf (.int k) rfl rfl h hl
  | .str, c :: l, rest, b, x, h, vs, hl => leaf .str rfl rfl h hl
  | .chain p, c :: l, rest, b, x, h, vs, hl => leaf (.chain p) rfl rfl h hl
  | .bool, [], _, _, _, h, _, _ => by simp [outL] at h
  | .int _, [], _, _, _, h, _, _ => by simp [outL] at h
  | .str, [], _, _, _, h, _, _ => by simp [outL] at h
  | .sl _, [], _, _, _, h, _, _ => by simp [outL] at h
  | .ptr _, [], _, _, _, h, _, _ => by simp [outL] at h
  | .chain _, [], _, _, _, h, _, _ => by simp [outL] at h
  where
  leaf (σ : Ty) (ha : σ.isAgg = false) (hr : ∀ {c : C} {l : List C}, outL m σ (c :: l) = match c.asTy σ with | some q => some (q, l) | none => none) {c : C} {l rest : List C} {b : Bool} {x : σ.T} (h : outL m σ (c :: l) = some ((b, x), rest)) {vs : List Value} (hl : RL μ I w (shp m) (c :: l) vs) :
      ∃ v1 v2, vs = v1 ++ v2 ∧ K (J b) w σ x v1 ∧ RL μ I w (shp m) rest v2 := by
    rw [hr] at h
    split at h
    · rename_i q hq
      obtain ⟨rfl, rfl⟩ := Prod.mk.inj (Option.some.inj h)
      obtain ⟨v, r, rfl, hc, hr⟩ := hl.cons
      exact ⟨[v], r, rfl, ((asTyC_ok hc hq).2 ha).mono (hIJ b) (stays_refl _ _), hr⟩
    · cases h
  own_K {m : Mem} (hm : MRel g m w μ I) {J : Bool → Nat → Prop} (hIJ : ∀ t b, I t b → J t b) (hL : ∀ t b, Live m μ b → J t b) {τ : Ty} {y : D} {v : Value} (hy : RD μ I w (shp m) y v) {t : Bool} {ys : List τ.T} (h : sliceOf m τ y = some (t, ys)) (hf : (∃ n, y = .c (.mfull n)) ∨ (∃ n s k cp, y = .c (.msl n s k cp))) : K (J t) w (.sl τ) ys [v] := by
    obtain ⟨A, cap, rfl, hcells⟩ := src_ok hm hy h
    have hcap : ys.length ≤ cap ∧ cap ≤ Mx := by
      rcases hf with ⟨n, rfl⟩ | ⟨n, s, k, cp, rfl⟩
      · obtain ⟨len, z, A', cap', e1, e2, h2, h3, _⟩ := hy
        injection e2 with _ e3 e4
        subst e3 e4
        exact ⟨h2, h3⟩
      · obtain ⟨A', cap', e2, h2, h3, _⟩ := hy
        injection e2 with _ e3 e4
        subst e4
        exact ⟨by omega, h3⟩
    refine ⟨A, cap, rfl, hcap.1, hcap.2, fun hne => ?_⟩
    rcases hcells with e | ⟨b', o, cells, rfl, hc, hr⟩
    · exact absurd e hne
    · have hlive : Live m μ b' := by
        rcases hf with ⟨n, rfl⟩ | ⟨n, s, k, cp, rfl⟩
        · obtain ⟨len, z, A', cap', e1, e2, h2, h3, h4⟩ := hy
          injection e2 with e5 e3 e4
          subst e5
          rcases h4 with ⟨e6, _⟩ | ⟨b2, q, len', z', e7, _, e8, _⟩
          · cases e6
          · injection e8 with e8
            injection e8 with e8
            subst e8
            exact ⟨n, q, fun e => by simp [shp, e] at e1, e7⟩
        · obtain ⟨A', cap', e2, h2, h3, _, ⟨len, z, e1, _, h6⟩, _⟩ := hy
          injection e2 with e5 e3 e4
          subst e5
          have hpos : 0 < k := by
            rw [← e3]
            exact List.length_pos_iff.2 hne
          obtain ⟨b2, q, e7, e8⟩ := h6 hpos
          injection e8 with e8
          injection e8 with e8
          subst e8
          exact ⟨n, q, fun e => by simp [shp, e] at e1, e7⟩
      exact ⟨⟨b', o, none⟩, cells, rfl, hL _ _ hlive, ⟨rfl, hc⟩, hr.imp fun _ _ k => k.mono (hIJ t) (stays_refl _ _)⟩

theorem out_ok {m : Mem} (hm : MRel g m w μ I) {J : Bool → Nat → Prop} (hIJ : ∀ t b, I t b → J t b) (hJ : ∀ b, J false b → J true b) (hL : ∀ t b, Live m μ b → J t b) {σ : Ty} {d : D} {t : Bool} {x : σ.T} (h : d.out m σ = some (t, x)) {v : Value} (hd : RD μ I w (shp m) d v) : VK (J t) w σ x v := by
  unfold D.out at h
  split at h
  · split at h
    · rename_i hτ
      obtain ⟨rfl, rfl⟩ := Prod.mk.inj (Option.some.inj h)
      exact cast_VK hτ (VK.mono (hIJ _) (stays_refl _ _) hd)
    · cases h
  · rename_i y hy
    cases ha : σ.isAgg with
    | true => simp only [ha, cond_true] at h; cases h
    | false =>
      simp only [ha, cond_false] at h
      split at h
      · rename_i q hq
        obtain rfl := Option.some.inj h
        obtain ⟨v1, v2, ev, k1, r1⟩ := outL_ok hm hIJ hJ hL hq (RL.mk_cons (v := v) hd RL.nil)
        have hv2 : v2 = [] := by have := r1.1; simpa using this.symm
        rw [hv2, List.append_nil] at ev
        rw [← ev] at k1
        exact ⟨(fun e => by rw [ha] at e; exact absurd e (by decide)), fun _ => k1⟩
      · cases h
  · rename_i l
    cases ha : σ.isAgg with
    | false => simp only [ha, cond_false] at h; cases h
    | true =>
      simp only [ha, cond_true] at h
      split at h
      · rename_i q hq
        obtain rfl := Option.some.inj h
        obtain ⟨vs, rfl, hl, _⟩ := hd
        obtain ⟨v1, v2, ev, k1, r1⟩ := outL_ok hm hIJ hJ hL hq hl
        have hv2 : v2 = [] := by have := r1.1; simpa using this.symm
        rw [hv2, List.append_nil] at ev
        rw [← ev] at k1
        exact ⟨fun _ => ⟨vs, rfl, k1⟩, fun e => (by rw [ha] at e; exact absurd e (by decide))⟩
      · cases h
  · cases h

end Go.PI
