/- Each operation that only reads comes to what the pure interpreter says. -/
import Derived.Test.YtnhiplibodkciaaPIi
namespace Go.PI
open Go.RowKit

/-- '==' of a struct type is what it is of its data. -/
def EqHyp (P : Program) (t : Nat) (τ : Ty) : Prop := ∀ (J J' : Nat → Prop) (w : World) (x y : τ.T) (cs ds : List Value) (r : Bool), K J w τ x cs → K J' w τ y ds → beqT τ x y = some r →
  (Op.equal t (.agg cs.toArray) (.agg ds.toArray)).run P w = .ok r w ∧ P.eqGuardType P.depth t = false

structure EnvOk (P : Program) (c : Ctx) : Prop where
  tb : TbOk P c.tb
  eqs : ∀ t ti, c.eqs t = true → c.tb t = some ti → EqHyp P t ti.ty
  mixed : P.follows .mixedOrders = true

/-- An operation does what the interpreter does. -/
def Good (P : Program) (c : Ctx) (o : Oper) : Prop :=
  ∀ (g : Cfg) (s st : St) (a : Act) (w : World) (Kc : Act → World → Prop) (Q : Exit → Act → World → Prop), Ok g s a w → (evOper c s o).run = some st → (∀ a' w', Ok g st a' w' → Kc a' w') → o.wp P a w Kc Q

variable {P : Program} {c : Ctx} {g : Cfg} {s st : St} {a : Act} {w : World} {μ : Nm} {I : Bool → Nat → Prop}

theorem fin {dst : Option Tmp} (h : Rel g s a w μ I) {d : D} {v : Value} (hd : RD μ I w (shp s.m) d v) {Kc : Act → World → Prop} (hK : ∀ a' w', Ok g (s.putd dst d) a' w' → Kc a' w') : Kc (a.put dst v) w := hK _ _ ⟨μ, I, h.putd hd⟩

theorem eqG (op : BinOp) (t : Nat) (x y : Operand) (u v : Value) (h : (∀ l, u ≠ .agg l) ∧ u ≠ .nilIface) : (eqGuard op t x y u v).run P w = .ok () w := by
  unfold eqGuard
  cases u <;> first
    | (exact absurd rfl h.2)
    | (exact absurd rfl (h.1 _))
    | (split <;> rfl)

theorem eqG_agg (op : BinOp) (t : Nat) (x y : Operand) (u v : Array Value) (h : P.eqGuardType P.depth t = false) : (eqGuard op t x y (.agg u) (.agg v)).run P w = .ok () w := by
  cases op <;> first | rfl | (simp [eqGuard, h])

theorem equalIn_nil (d : Nat) {t e : Nat} (hu : P.underlying t = some (.pointer e)) (o : Option Addr) : (Op.equalIn (d + 1) t (.pointer o) (.pointer none)).run P w = .ok o.isNone w := by
  cases o <;> simp [Op.equalIn, run_underlying hu]

theorem eqD_ok (he : EnvOk P c) (hs : ∀ b, I false b → I true b) {t : Nat} {x y : D} {d : D} {u v : Value} {sh : Sh} (hx : RD μ I w sh x u) (hy : RD μ I w sh y v) (h : (eqD (c.tb t) (c.eqs t) x y).run = some d) (op : BinOp) (xo yo : Operand) :
    ∃ r : Bool, (Op.equal t u v).run P w = .ok r w ∧ RD μ I w sh d (.bool r) ∧ (eqGuard op t xo yo u v).run P w = .ok () w ∧ ((∃ a b, u = .pointer a ∧ v = .pointer b) ∨ (∃ a b, u = .bool a ∧ v = .bool b) ∨ (∃ a b, u = .agg a ∧ v = .agg b)) := by
  unfold eqD at h
  split at h
  · rename_i τ by_ e ht
    obtain ⟨info, dd, _, hu, _, _, _, _, _, hd⟩ := he.tb _ _ ht
    simp only at hd
    subst hd
    split at h
    · rename_i x1
      obtain ⟨o, rfl, hr⟩ := isNil_ok hx (ofOpt_run h)
      obtain rfl : v = .pointer none := hy
      refine ⟨o.isNone, ?_, hr, eqG _ _ _ _ _ _ ⟨fun l => by simp, by simp⟩, .inl ⟨_, _, rfl, rfl⟩⟩
      exact equalIn_nil 9999 hu o
    · cases h
  · rename_i by_ dd_ hn ht
    obtain ⟨info, dd, _, hu, _, _, _, ha, hb, hd⟩ := he.tb _ _ ht
    simp only at hb
    subst hb
    split at h
    · rename_i x1 y1
      split at h
      · rename_i p q hp hq
        obtain rfl := Option.some.inj h
        obtain rfl := boolC_ok hx hp
        obtain rfl := boolC_ok hy hq
        refine ⟨p == q, ?_, RD.ofBool _ _, eqG _ _ _ _ _ _ ⟨fun l => by simp, by simp⟩, .inr (.inl ⟨_, _, rfl, rfl⟩)⟩
        exact run_equalIn_bool' w 9999 t p q hu
      · cases h
    · cases h
  · rename_i τ by_ dd_ hn ht
    cases hq : c.eqs t with
    | false => simp only [hq, cond_false] at h; cases h
    | true =>
      simp only [hq, cond_true] at h
      split at h
      · rename_i p q hp hq'
        obtain ⟨r, hr, rfl⟩ := Option.map_eq_some_iff.1 (ofOpt_run h)
        obtain ⟨cs, rfl, k1⟩ := (asTy_ok hs hp hx).1 rfl
        obtain ⟨ds, rfl, k2⟩ := (asTy_ok hs hq' hy).1 rfl
        obtain ⟨h1, h2⟩ := he.eqs _ _ hq ht _ _ w _ _ _ _ _ k1 k2 hr
        exact ⟨r, h1, RD.ofBool _ _, eqG_agg _ _ _ _ _ _ h2, .inr (.inr ⟨_, _, rfl, rfl⟩)⟩
      · cases h
  · cases h

theorem bin_ok (he : EnvOk P c) (hs : ∀ b, I false b → I true b) {t : Nat} {x y : D} {d : D} {u v : Value} {sh : Sh} {op : BinOp} (hx : RD μ I w sh x u) (hy : RD μ I w sh y v) (h : (binD op (c.tb t) (c.eqs t) x y).run = some d) (xo yo : Operand) :
    ∃ r, (do eqGuard op t xo yo u v; binOp op t u v : Sem Value).run P w = .ok r w ∧ RD μ I w sh d r := by
  unfold binD at h
  split at h
  · rename_i t1 k n1 t2 k' n2
    obtain ⟨rfl, h1⟩ := hx.int
    obtain ⟨rfl, h2⟩ := hy.int
    simp only [Sem.run_bind, eqG op t xo yo (.int k n1) (.int k' n2) ⟨fun l => by simp, by simp⟩, Result.andThen_ok]
    split at h
    · exact shift_ok h1 h t
    · exact shift_ok h1 h t
    · cases hk : decide (k = k') with
      | false => simp only [hk, cond_false] at h; cases h
      | true =>
        simp only [hk, cond_true] at h
        obtain rfl := of_decide_eq_true hk
        exact int_ok h1 h t
  · rename_i t1 n1 t2 n2
    obtain ⟨rfl, h1⟩ := hx.str
    obtain ⟨rfl, h2⟩ := hy.str
    simp only [Sem.run_bind, eqG op t xo yo (.string n1) (.string n2) ⟨fun l => by simp, by simp⟩, Result.andThen_ok]
    exact str_ok h t
  · split at h
    · obtain ⟨r, h1, h2, h3, h4⟩ := eqD_ok he hs hx hy h .eql xo yo
      refine ⟨.bool r, ?_, h2⟩
      simp only [Sem.run_bind, h3, Result.andThen_ok]
      rcases h4 with ⟨a, b, rfl, rfl⟩ | ⟨a, b, rfl, rfl⟩ | ⟨a, b, rfl, rfl⟩ <;> simp [binOp, h1]
    · obtain ⟨d1, hd1, h⟩ := Br.bind_some h
      obtain ⟨r, h1, h2, h3, h4⟩ := eqD_ok he hs hx hy hd1 .neq xo yo
      obtain ⟨b, e, h5⟩ := notD_ok h2 (ofOpt_run h)
      obtain rfl : r = b := by simpa using e
      refine ⟨.bool (!r), ?_, h5⟩
      simp only [Sem.run_bind, h3, Result.andThen_ok]
      rcases h4 with ⟨a, b, rfl, rfl⟩ | ⟨a, b, rfl, rfl⟩ | ⟨a, b, rfl, rfl⟩ <;> simp [binOp, h1]
    · cases h

theorem un_ok {x : D} {d : D} {u : Value} {sh : Sh} {op : UnOp} (hx : RD μ I w sh x u) (h : (unD op x).run = some d) : ∃ r, (Op.unary op u).run P w = .ok r w ∧ RD μ I w sh d r := by
  unfold unD at h
  split at h
  · obtain ⟨b, rfl, h1⟩ := notD_ok hx (ofOpt_run h)
    exact ⟨_, rfl, h1⟩
  · obtain ⟨rfl, h1⟩ := hx.int
    obtain rfl := Option.some.inj h
    exact ⟨_, rfl, RD.ofInt (inK_wrap _ _) _⟩
  · obtain ⟨rfl, h1⟩ := hx.int
    obtain rfl := Option.some.inj h
    exact ⟨_, rfl, RD.ofInt (inK_wrap _ _) _⟩
  · cases h

theorem K.sl_len {J : Nat → Prop} {τ : Ty} {xs : List τ.T} {v : Value} (h : K J w (.sl τ) xs [v]) : ∃ A cap, v = .slice A xs.length cap ∧ xs.length ≤ cap ∧ cap ≤ Mx ∧ (xs ≠ [] → ∃ ad cells, A = some ad ∧ J ad.block ∧ CellsAt w ad cells ∧ Row (K J w τ) τ.sz xs cells) := by
  obtain ⟨A, cap, e, h⟩ := h
  exact ⟨A, cap, by simpa using e, h⟩

theorem inK_nat {n : Nat} (h : n ≤ Mx) : InK .i64 (n : Int) := by
  unfold InK
  simp [IntKind.min, IntKind.max, IntKind.signed, IntKind.bits]
  unfold Mx at h
  omega

theorem len_ok {m : Mem} {x d : D} {u : Value} (hx : RD μ I w (shp m) x u) (h : lenD m x = some d) : ∃ (n : Nat) (A : Option Addr) (cap : Nat), u = .slice A n cap ∧ RD μ I w (shp m) d (goInt n) := by
  unfold lenD at h
  split at h
  · obtain rfl := Option.some.inj h
    obtain rfl : u = .slice none 0 0 := hx
    exact ⟨0, _, _, rfl, RD.ofInt (inK_nat (n := 0) (by simp)) _⟩
  · obtain rfl := Option.some.inj h
    obtain ⟨A, cap, rfl, h1, h2, _⟩ := K.sl_len (hx.2 rfl)
    exact ⟨_, _, _, rfl, RD.ofInt (inK_nat (Nat.le_trans h1 h2)) _⟩
  · split at h
    · rename_i hl
      obtain rfl := Option.some.inj h
      obtain ⟨len, z, A, cap, e, rfl, h1, h2, _⟩ := hx
      rw [shp_look hl] at e
      obtain ⟨rfl, rfl⟩ := Prod.mk.inj (Option.some.inj e)
      exact ⟨_, _, _, rfl, RD.ofInt (inK_nat (Nat.le_trans h1 h2)) _⟩
    · cases h
  · obtain rfl := Option.some.inj h
    obtain ⟨A, cap, rfl, h1, h2, _⟩ := hx
    exact ⟨_, _, _, rfl, RD.ofInt (inK_nat (Nat.le_trans h1 h2)) _⟩
  · cases h

theorem intD_ok {x : D} {n : Int} {u : Value} {sh : Sh} (hx : RD μ I w sh x u) (h : intD x = some n) : ∃ k, u = .int k n := by
  unfold intD at h
  split at h
  · obtain rfl := Option.some.inj h
    exact ⟨_, hx.int.1⟩
  · cases h

theorem tyIs_ok (he : EnvOk P c) {e : Nat} {τ : Ty} (h : tyIs c e τ = true) (w : World) : (sizeOf e).run P w = .ok τ.sz w := by
  unfold tyIs at h
  split at h
  · rename_i ti ht
    obtain rfl := of_decide_eq_true h
    exact run_sizeOf' (he.tb _ _ ht) w
  · cases h

theorem run_indexAt {t e : Nat} (ht : P.underlying t = some (.slice e)) {z : Nat} (hz : (sizeOf e).run P w = .ok z w) (b o n cap : Nat) (k : IntKind) (i : Int) (h0 : 0 ≤ i) (h1 : i < (n : Int)) :
    (Instr.indexAt t (.slice (some ⟨b, o, none⟩) n cap) (.int k i)).run P w = .ok (.pointer (some ⟨b, o + i.toNat * z, none⟩)) w := by
  simp [Instr.indexAt, run_underlying ht, asIntOf, h0, h1, hz, Addr.add_lit]

/-- The address of an element. -/
theorem index_ok {m : Mem} (hm : MRel g m w μ I) {t e : Nat} {τ : Ty} (ht : P.underlying t = some (.slice e)) (hz : (sizeOf e).run P w = .ok τ.sz w) {x d : D} {u : Value} {k : IntKind} {i : Int} (hx : RD μ I w (shp m) x u) (h : (indexD m τ x i).run = some d) :
    ∃ r, (Instr.indexAt t u (.int k i)).run P w = .ok r w ∧ RD μ I w (shp m) d r := by
  unfold indexD at h
  split at h
  · rename_i tt σ xs
    cases hq : decide (σ = τ) with
    | false => simp only [hq, cond_false] at h; cases h
    | true =>
      simp only [hq, cond_true] at h
      obtain rfl := of_decide_eq_true hq
      obtain ⟨h1, h⟩ := cond_yes h
      obtain rfl := Option.some.inj h
      simp only [Bool.and_eq_true, decide_eq_true_eq] at h1
      obtain ⟨A, cap, rfl, _, _, h2⟩ := K.sl_len (hx.2 rfl)
      obtain ⟨ad, cells, rfl, hI, hc, hr⟩ := h2 (fun e => by subst e; simp at h1; omega)
      obtain ⟨b, o, sp⟩ := ad
      obtain rfl : sp = none := hc.1
      refine ⟨_, run_indexAt ht hz b o _ cap k i h1.1 h1.2, ⟨b, o, none⟩, cells, rfl, by omega, hI, hc, hr⟩
  · rename_i n
    split at h
    · rename_i tt el σ xs hl
      cases hq : decide (σ = τ) with
      | false => simp only [hq, cond_false] at h; cases h
      | true =>
        simp only [hq, cond_true] at h
        obtain rfl := of_decide_eq_true hq
        obtain ⟨h1, h⟩ := cond_yes h
        obtain rfl := Option.some.inj h
        simp only [Bool.and_eq_true, decide_eq_true_eq] at h1
        obtain ⟨len, z, A, cap, e1, rfl, h2, h3, h4⟩ := hx
        have e1' := e1
        rw [shp_look hl] at e1'
        obtain ⟨rfl, rfl⟩ := Prod.mk.inj (Option.some.inj e1')
        rcases h4 with ⟨rfl, rfl⟩ | ⟨b, q, len', z', e2, e3, rfl, rfl⟩
        · omega
        · refine ⟨_, run_indexAt ht hz b 0 _ cap k i h1.1 h1.2, b, _, _, _, e2, e1, by omega, ?_⟩
          rw [Nat.zero_add, Nat.add_zero]
    · cases h
  · rename_i n o len cp
    split at h
    · rename_i tt el σ xs hl
      cases hq : decide (σ = τ) with
      | false => simp only [hq, cond_false] at h; cases h
      | true =>
        simp only [hq, cond_true] at h
        obtain rfl := of_decide_eq_true hq
        obtain ⟨h1, h⟩ := cond_yes h
        obtain rfl := Option.some.inj h
        simp only [Bool.and_eq_true, decide_eq_true_eq] at h1
        obtain ⟨A, cap, rfl, h2, h3, h4, ⟨len', z', e1, h5, h6⟩, h7⟩ := hx
        have e1' := e1
        rw [shp_look hl] at e1'
        obtain ⟨rfl, rfl⟩ := Prod.mk.inj (Option.some.inj e1')
        obtain ⟨b, q, e2, rfl⟩ := h6 (by omega)
        refine ⟨_, run_indexAt ht hz b (o * σ.sz) _ cap k i h1.1 h1.2, b, q, _, _, e2, e1, by omega, ?_⟩
        rw [Nat.add_mul, Nat.add_zero]
    · cases h
  · cases h

theorem indexA_ok {m : Mem} (hm : MRel g m w μ I) {t e n : Nat} {τ : Ty} (ht : P.underlying t = some (.array n e)) (hz : (sizeOf e).run P w = .ok τ.sz w) {x d : D} {u : Value} {k : IntKind} {i : Int} (hx : RD μ I w (shp m) x u) (h : (indexA m τ n x i).run = some d) :
    ∃ r, (Instr.indexAt t u (.int k i)).run P w = .ok r w ∧ RD μ I w (shp m) d r := by
  unfold indexA at h
  split at h
  · rename_i n'
    split at h
    · rename_i tt el σ xs hl
      cases hq : decide (σ = τ) with
      | false => simp only [hq, cond_false] at h; cases h
      | true =>
        simp only [hq, cond_true] at h
        obtain rfl := of_decide_eq_true hq
        obtain ⟨h1, h⟩ := cond_yes h
        obtain rfl := Option.some.inj h
        simp only [Bool.and_eq_true, decide_eq_true_eq] at h1
        obtain ⟨b, q, len, z, e1, e2, _, rfl⟩ := hx
        have e2' := e2
        rw [shp_look hl] at e2'
        obtain ⟨rfl, rfl⟩ := Prod.mk.inj (Option.some.inj e2')
        refine ⟨.pointer (some ⟨b, i.toNat * σ.sz + 0, none⟩), ?_, b, q, _, _, e1, e2, by omega, rfl⟩
        simp [Instr.indexAt, run_underlying ht, asIntOf, Instr.sureAddr, h1.1.1, h1.1.2, hz, Addr.add_lit]
    · cases h
  · cases h

theorem addOff_ok {sh : Sh} {f : Nat} {x d : C} {u : Value} (hx : RC μ I w sh x u) (h : addOff f x = some d) : ∃ b o, u = .pointer (some ⟨b, o, none⟩) ∧ RC μ I w sh d (.pointer (some ⟨b, o + f, none⟩)) := by
  unfold addOff at h
  split at h
  · obtain rfl := Option.some.inj h
    obtain ⟨b, q, len, z, e1, e2, h1, rfl⟩ := hx
    exact ⟨_, _, rfl, b, q, len, z, e1, e2, h1, by rw [Nat.add_assoc]⟩
  · obtain rfl := Option.some.inj h
    obtain ⟨ad, cells, rfl, h1, h2, h3, h4⟩ := hx
    exact ⟨_, _, rfl, ad, cells, by rw [Nat.add_assoc, Nat.add_assoc], h1, h2, h3, h4⟩
  · rename_i b σ x
    obtain rfl := Option.some.inj h
    obtain ⟨ad, cells, hv, hI, hc, hk⟩ := hx.2 rfl
    obtain rfl : u = .pointer (some ad) := by simpa using hv
    obtain ⟨bb, o, sp⟩ := ad
    obtain rfl : sp = none := hc.1
    refine ⟨bb, o, rfl, ⟨bb, o, none⟩, cells, by simp, by simp, hI, hc, ?_⟩
    have := Row.cons hk.length hk (Row.nil (K (I b) w σ) σ.sz)
    rwa [List.append_nil] at this
  · cases h

theorem nil_ptr {J : Nat → Prop} {τ : Ty} {x : τ.T} {v : Value} (h : K J w (.ptr τ) (some x) [v]) : ∃ ad cells, v = .pointer (some ad) ∧ J ad.block ∧ CellsAt w ad cells ∧ K J w τ x cells := by
  obtain ⟨ad, cells, e, h⟩ := h
  exact ⟨ad, cells, by simpa using e, h⟩

/-- Bounds of a cut. -/
theorem bnd_ok (h : Rel g s a w μ I) {x : Option Operand} {dflt n : Int} (hb : bndD s dflt x = some n) : (x = none ∧ n = dflt) ∨ ∃ y k, x = some y ∧ a.eval y = .int k n := by
  cases x with
  | none => exact .inl ⟨rfl, (Option.some.inj hb).symm⟩
  | some y =>
    obtain ⟨k, e⟩ := intD_ok (eval_opd h y) hb
    exact .inr ⟨y, k, rfl, e⟩

end Go.PI
