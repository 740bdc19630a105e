/- All matches, element by element: whatever is asked, an answer; what is told is what each step keeps. All matches: the recursion, both ways; in order. -/
import Derived.Test.YtnhiplibodkciaaHg
import Derived.Test.YtnhiplibodkciaaF2a
namespace Go.Proofs.Ytnhiplibodkciaa
open Go.PI Go

theorem iterO_bt {X Z : Type} {step : X → Br (X ⊕ Z)} (Inv : X → Prop) (μ : X → Nat) (Q : Z → Prop) (h : ∀ x, Inv x → BT (fun s => (∃ y, s = .inl y ∧ Inv y ∧ μ y < μ x) ∨ ∃ z, s = .inr z ∧ Q z) (step x)) (x : X) (hx : Inv x) :
    ∃ z, iterO (fun x => (step x).run) x = some z ∧ Q z := by
  refine iterO_rec (step := fun x => (step x).run) (Q := fun _ z => Q z) Inv μ (fun x hx => ?_) x hx
  obtain ⟨s, hs, ⟨y, rfl, h1, h2⟩ | ⟨z, rfl, h1⟩⟩ := h x hx
  · exact .inl ⟨y, hs, h1, h2, fun z hz => hz⟩
  · exact .inr ⟨z, hs, h1⟩
theorem BT.lt {α : Type} {P : α → Prop} {c : Bool} {a b : Br α} (hc : c = true) (h : BT P a) : BT P (.cond c a b) := by subst hc; exact h
theorem BT.ge {α : Type} {P : α → Prop} {c : Bool} {a b : Br α} (hc : c = false) (h : BT P b) : BT P (.cond c a b) := by subst hc; exact h
theorem BT.goes {X Z : Type} {I : X → Prop} {Q : Z → Prop} {y : X} (h : I y) : BT (fun s : X ⊕ Z => (∃ y, s = .inl y ∧ I y) ∨ ∃ z, s = .inr z ∧ Q z) (.ret (.inl y)) := ⟨_, rfl, .inl ⟨y, rfl, h⟩⟩
theorem BT.ends {X Z : Type} {I : X → Prop} {Q : Z → Prop} {z : Z} (h : Q z) : BT (fun s : X ⊕ Z => (∃ y, s = .inl y ∧ I y) ∨ ∃ z, s = .inr z ∧ Q z) (.ret (.inr z)) := ⟨_, rfl, .inr ⟨z, rfl, h⟩⟩
theorem in2 {i n : Int} (h0 : 0 ≤ i) (h1 : i < n) : (decide (0 ≤ i) && decide (i < n)) = true := by simp [h0, h1]

structure QGood (q : Qry) : Prop where
  es : EsOk q.1
  lo : 1 ≤ q.1.length
  hi : q.1.length ≤ 4
abbrev elmZ : Elm := (ByteArray.empty, [], false, 0, 0, [])
theorem QGood.get {q : Qry} (h : QGood q) (i : Int) (h0 : 0 ≤ i) (h1 : i < q.1.length) : EOk i (q.1.getD i.toNat elmZ) := by
  have hlt : i.toNat < q.1.length := by omega
  have := h.es i.toNat (q.1.getD i.toNat elmZ) (by rw [getD_in _ _ _ hlt]; exact List.getElem?_eq_getElem hlt)
  have e : ((i.toNat : Nat) : Int) = i := by omega
  rw [e] at this
  exact this

theorem ofS_tot (l : List ByteArray) (hl : l.length ≤ 1000) (t : ByteArray) : ∃ b, ofS (l, t, ()) = some (b, ()) := by
  unfold ofS ofS_B
  obtain ⟨z, hz, -⟩ : ∃ z, ofS_w0 (l, t, 0, ()) = some z ∧ True := by
    refine iterO_bt (step := ofS_l0) (fun y => ∃ i : Int, y = (l, t, i, ()) ∧ 0 ≤ i ∧ i ≤ l.length) (fun y => ((l.length : Int) - y.2.2.1).toNat) (fun _ => True) ?_ _ ⟨0, rfl, Int.le_refl 0, by omega⟩
    rintro y ⟨i, rfl, h0, h1⟩
    unfold ofS_l0
    by_cases hi : i < (l.length : Int)
    · have hw : IntKind.wrap .i64 (i + 1) = i + 1 := Go.PI.wrap_small (by omega) (by omega)
      refine BT.lt (decide_eq_true hi) (BT.yes (in2 h0 hi) (BT.cond (fun _ => BT.ends trivial) (fun _ => BT.goes ⟨⟨i + 1, by rw [hw], by omega, by omega⟩, ?_⟩)))
      dsimp only
      rw [hw]
      omega
    · exact BT.ge (decide_eq_false hi) (BT.ends trivial)
  simp only [Br.run, hz]
  cases z <;> exact ⟨_, rfl⟩

def EvGood (e : Evt) : Prop := e.2.2.2.2.length ≤ 3 ∧ ∀ v ∈ e.2.2.2.2, In64 v.2.1
theorem fits20_tot (e : Elm) (h1 : e.2.1.length ≤ 1000) (h2 : e.2.2.2.2.2.length ≤ 1000) (h3 : NdsIn e.2.2.2.2.2) (x : Evt) (hx : EvGood x) (env : List Bnd) (he : env.length ≤ 900) (hi : EnvIn env) : ∃ b, fits20 (e, x, env, ()) = some (b, ()) := by
  suffices h : BT (fun _ : Bool × Unit => True) (fits20_B (e, x, env, ())) by
    obtain ⟨⟨b, ⟨⟩⟩, h, -⟩ := h
    exact ⟨b, h⟩
  obtain ⟨b, hb⟩ := ofS_tot e.2.1 h1 x.1
  obtain ⟨c, hc⟩ := holdsR_tot e.2.2.2.2.2 h2 h3 (env ++ [(e.1, x)]) (by rw [List.length_append, List.length_singleton]; omega) (fun u hu v hv => by
    rcases List.mem_append.1 hu with h | h
    · exact hi u h v hv
    · obtain rfl := List.mem_singleton.1 h
      exact hx.2 v hv)
  unfold fits20_B
  refine BT.opt ⟨_, hb, BT.cond (fun _ => ?_) (fun _ => BT.ret trivial)⟩
  refine BT.yes (decide_eq_true ?_) (BT.yes (decide_eq_true ?_) (BT.opt ⟨_, hc, BT.ret trivial⟩))
  · show (0 + env.length) * 88 ≤ 140737488355328
    omega
  · show (env.length + 1) * 88 ≤ 140737488355328
    omega

theorem nextF_at (q : Qry) (hq : q.1.length ≤ 100) (l : List Evt) (out : List (List Prs)) (a : Int) (h0 : 0 ≤ a) (h1 : a < q.1.length) :
    ∃ (k : Int) (L : List Int), nextF ((q, l, out), a, ()) = some ((k, L), ()) ∧ (k = -1 ∨ a < k ∧ k < q.1.length) ∧ (∀ j ∈ L, 0 ≤ j ∧ j < q.1.length) ∧ L.length ≤ 1000 := by
  unfold nextF nextF_B
  have hw1 : IntKind.wrap .i64 (a + 1) = a + 1 := Go.PI.wrap_small (by omega) (by omega)
  dsimp only
  rw [hw1]
  obtain ⟨z, hz, hq2⟩ : ∃ z, nextF_w0 (a + 1, (q, l, out), [], ()) = some z ∧ ((∃ k L, z = .inl (k, L, ()) ∧ a < k ∧ k < q.1.length ∧ (∀ j ∈ L, 0 ≤ j ∧ j < q.1.length) ∧ L.length ≤ 1000) ∨ ∃ L, z = .inr (L, ()) ∧ (∀ j ∈ L, 0 ≤ j ∧ j < q.1.length) ∧ L.length ≤ 1000) := by
    refine iterO_bt (step := nextF_l0) (fun y => ∃ (i : Int) (L : List Int), y = (i, (q, l, out), L, ()) ∧ a < i ∧ i ≤ q.1.length ∧ (L.length : Int) ≤ i ∧ ∀ j ∈ L, 0 ≤ j ∧ j < q.1.length) (fun y => ((q.1.length : Int) - y.1).toNat) _ ?_ _ ⟨a + 1, [], rfl, by omega, by omega, by simp; omega, fun j h => by simp at h⟩
    rintro y ⟨i, L, rfl, g0, g1, g2, g3⟩
    unfold nextF_l0
    by_cases hi : i < (q.1.length : Int)
    · have hw : IntKind.wrap .i64 (i + 1) = i + 1 := Go.PI.wrap_small (by omega) (by omega)
      have hi0 : 0 ≤ i := by omega
      refine BT.lt (decide_eq_true hi) (BT.yes (in2 hi0 hi) (BT.cond (fun _ => BT.ends (.inl ⟨i, L, rfl, g0, hi, g3, by omega⟩)) (fun _ => BT.yes (decide_eq_true ?_) (BT.goes ⟨⟨i + 1, L ++ [i], by rw [hw]; rfl, by omega, by omega, ?_, fun j hj => ?_⟩, ?_⟩))))
      · show (L.length + 1) * 8 ≤ 140737488355328
        omega
      · rw [List.length_append, List.length_singleton]; omega
      · rcases List.mem_append.1 hj with h | h
        · exact g3 j h
        · obtain rfl := List.mem_singleton.1 h
          exact ⟨hi0, hi⟩
      · dsimp only
        rw [hw]
        omega
    · exact BT.ge (decide_eq_false hi) (BT.ends (.inr ⟨L, rfl, g3, by omega⟩))
  simp only [Br.run, hz]
  rcases hq2 with ⟨k, L, rfl, a1, a2, a3⟩ | ⟨L, rfl, a3⟩
  · exact ⟨k, L, rfl, .inr ⟨a1, a2⟩, a3⟩
  · exact ⟨-1, L, rfl, .inl rfl, a3⟩

def envNext (e : Elm) (env : List Bnd) (x : Evt) : List Bnd := if e.2.2.2.2.1 = 1 then env ++ [(e.1, x)] else env
structure Steps (q : Qry) (l : List Evt) (R : Int → Int → List Prs → List Bnd → Int → Int → Prop) (O : List Prs → Prop) : Prop where
  rng : ∀ {a h m env f0 fr}, R a h m env f0 fr → 0 ≤ a ∧ a < q.1.length ∧ 0 ≤ h ∧ h ≤ 1000 ∧ m.length ≤ 800 ∧ env.length ≤ 800 ∧ EnvIn env ∧ 0 ≤ fr ∧ fr ≤ l.length
  more : ∀ {a h m env f0 fr} (i : Int), R a h m env f0 fr → fr ≤ i → i < l.length → fits20 (q.1.getD a.toNat elmZ, l.getD i.toNat evZ, env, ()) = some (true, ()) → R a (h + 1) (m ++ [(a, (l.getD i.toNat evZ).2.2.2.1)]) (envNext (q.1.getD a.toNat elmZ) env (l.getD i.toNat evZ)) f0 (i + 1)
  next : ∀ {a h m env f0 fr} (k i : Int), R a h m env f0 fr → a < k → k < q.1.length → fr ≤ i → i < l.length → fits20 (q.1.getD k.toNat elmZ, l.getD i.toNat evZ, env, ()) = some (true, ()) → R k 1 (m ++ [(k, (l.getD i.toNat evZ).2.2.2.1)]) (envNext (q.1.getD k.toNat elmZ) env (l.getD i.toNat evZ)) f0 (i + 1)
  out : ∀ {a h m env f0 fr}, R a h m env f0 fr → O m

theorem p3 (n : Nat) : 1 ≤ 3 ^ n := Nat.one_le_pow _ _ (by decide)
theorem p3s (n i : Int) (h : i < n) : 3 ^ (n - i).toNat = 3 * 3 ^ (n - (i + 1)).toNat := by
  have : (n - i).toNat = (n - (i + 1)).toNat + 1 := by omega
  rw [this, Nat.pow_succ, Nat.mul_comm]
theorem p3le (n i j : Int) (h : i ≤ j) : 3 ^ (n - j).toNat ≤ 3 ^ (n - i).toNat := Nat.pow_le_pow_right (by decide) (by omega)

section
variable {q : Qry} {l : List Evt} {R : Int → Int → List Prs → List Bnd → Int → Int → Prop} {O : List Prs → Prop}

def Tells (q : Qry) (l : List Evt) (O : List Prs → Prop) (out : List (List Prs)) (B : Nat) (y : Option ((Qry × (List Evt × List (List Prs))) × Unit)) : Prop :=
  ∃ out', y = some ((q, l, out ++ out'), ()) ∧ (∀ m ∈ out', O m) ∧ 2 * out'.length ≤ B

def ElemOk (q : Qry) (l : List Evt) (R : Int → Int → List Prs → List Bnd → Int → Int → Prop) (O : List Prs → Prop) (k : Nat) : Prop :=
  ∀ a h m env f0 fr out, R a h m env f0 fr → 2 * ((l.length : Int) - fr) + 2 ≤ k → out.length + 2 * 3 ^ ((l.length : Int) - fr).toNat ≤ 1000000 → Tells q l O out (2 * 3 ^ ((l.length : Int) - fr).toNat) (elemF_k k ((q, l, out), a, h, m, env, f0, fr, ()))
def CrossOk (q : Qry) (l : List Evt) (R : Int → Int → List Prs → List Bnd → Int → Int → Prop) (O : List Prs → Prop) (k : Nat) : Prop :=
  ∀ a h m env f0 fr out kk L, R a h m env f0 fr → a < kk → kk < q.1.length → (∀ j ∈ L, 0 ≤ j ∧ j < (q.1.length : Int)) → L.length ≤ 1000 → 2 * ((l.length : Int) - fr) + 1 ≤ k → out.length + 2 * 3 ^ ((l.length : Int) - fr).toNat ≤ 1000000 → Tells q l O out (3 ^ ((l.length : Int) - fr).toNat - 1) (crossF_k k ((q, l, out), kk, L, m, env, f0, fr, ()))

theorem elemF_w0_at (hS : Steps q l R O) (hq : QGood q) (hl : l.length ≤ 100) (hE : ∀ x ∈ l, EvGood x) {k : Nat} (ihE : ElemOk q l R O k) {a h : Int} {m : List Prs} {env : List Bnd} {f0 fr : Int} (hR : R a h m env f0 fr) (hk : 2 * ((l.length : Int) - fr) ≤ k) (out c0 : List (List Prs)) (hc : ∀ m ∈ c0, O m)
    (hcl : c0.length ≤ 3 ^ ((l.length : Int) - fr).toNat) (hb : out.length + 2 * 3 ^ ((l.length : Int) - fr).toNat ≤ 1000000) :
    ∃ out', elemF_w0 (elemF_k k) (crossF_k k) (a, h, m, env, f0, fr, q.1, q.2.1, q.2.2, l, 0, 0, q.1.getD a.toNat elmZ, out ++ c0, ()) = some (q.1, q.2.1, q.2.2, l, 0, 0, out ++ out', ()) ∧ (∀ m ∈ out', O m) ∧ 2 * out'.length + 1 ≤ 2 * c0.length + 3 ^ ((l.length : Int) - fr).toNat := by
  obtain ⟨r1, r2, r3, r4, r5, r6, r7, r8, r9⟩ := hS.rng hR
  have hEl := hq.get a r1 r2
  suffices hh : ∃ z, elemF_w0 (elemF_k k) (crossF_k k) (a, h, m, env, f0, fr, q.1, q.2.1, q.2.2, l, 0, 0, q.1.getD a.toNat elmZ, out ++ c0, ()) = some z ∧ ∃ out', z = (q.1, q.2.1, q.2.2, l, 0, 0, out ++ out', ()) ∧ (∀ m ∈ out', O m) ∧ 2 * out'.length + 1 ≤ 2 * c0.length + 3 ^ ((l.length : Int) - fr).toNat by
    obtain ⟨z, hz, out', rfl, h⟩ := hh
    exact ⟨out', hz, h⟩
  refine iterO_bt (step := elemF_l0 (elemF_k k) (crossF_k k))
    (fun y => ∃ (i : Int) (out' : List (List Prs)), y = (a, h, m, env, f0, i, q.1, q.2.1, q.2.2, l, 0, 0, q.1.getD a.toNat elmZ, out ++ out', ()) ∧ fr ≤ i ∧ i ≤ l.length ∧ (∀ m ∈ out', O m) ∧ 2 * out'.length + 3 ^ ((l.length : Int) - i).toNat ≤ 2 * c0.length + 3 ^ ((l.length : Int) - fr).toNat)
    (fun y => ((l.length : Int) - y.2.2.2.2.2.1).toNat) _ ?_ _ ⟨fr, c0, rfl, Int.le_refl _, r9, hc, Nat.le_refl _⟩
  rintro y ⟨i, out', rfl, g0, g1, g2, g3⟩
  unfold elemF_l0
  by_cases hi : i < (l.length : Int)
  · have hw : IntKind.wrap .i64 (i + 1) = i + 1 := Go.PI.wrap_small (by omega) (by omega)
    have hwh : IntKind.wrap .i64 (h + 1) = h + 1 := Go.PI.wrap_small (by omega) (by omega)
    have hi0 : 0 ≤ i := by omega
    have hlt : i.toNat < l.length := by omega
    have hxe : EvGood (l.getD i.toNat evZ) := by rw [getD_in _ _ _ hlt]; exact hE _ (List.getElem_mem hlt)
    have hp := p3s l.length i hi
    have hp2 := p3le l.length fr i g0
    have hp1 := p3 ((l.length : Int) - (i + 1)).toNat
    have hn := hS.more i hR g0 hi
    obtain ⟨b, hb20⟩ := fits20_tot (q.1.getD a.toNat elmZ) hEl.1 hEl.2.2.2.2.2.1 hEl.2.2.2.2.2.2 (l.getD i.toNat evZ) hxe env (by omega) r7
    have skip : ∀ t : Nat, t = 3 ^ ((l.length : Int) - (i + 1)).toNat → 2 * out'.length + t ≤ 2 * c0.length + 3 ^ ((l.length : Int) - fr).toNat := fun t ht => by omega
    have gskip : BT (fun s : _ ⊕ _ => (∃ y, s = .inl y ∧ (∃ (j : Int) (out' : List (List Prs)), y = (a, h, m, env, f0, j, q.1, q.2.1, q.2.2, l, (0 : Int), (0 : Int), q.1.getD a.toNat elmZ, out ++ out', ()) ∧ fr ≤ j ∧ j ≤ l.length ∧ (∀ m ∈ out', O m) ∧ 2 * out'.length + 3 ^ ((l.length : Int) - j).toNat ≤ 2 * c0.length + 3 ^ ((l.length : Int) - fr).toNat) ∧ ((l.length : Int) - y.2.2.2.2.2.1).toNat < ((l.length : Int) - i).toNat) ∨ ∃ z, s = .inr z ∧ ∃ out', z = (q.1, q.2.1, q.2.2, l, (0 : Int), (0 : Int), out ++ out', ()) ∧ (∀ m ∈ out', O m) ∧ 2 * out'.length + 1 ≤ 2 * c0.length + 3 ^ ((l.length : Int) - fr).toNat)
        (.ret (.inl (a, h, m, env, f0, IntKind.wrap .i64 (i + 1), q.1, q.2.1, q.2.2, l, (0 : Int), (0 : Int), q.1.getD a.toNat elmZ, out ++ out', ()))) := by
      refine BT.goes ⟨⟨i + 1, out', by rw [hw], by omega, by omega, g2, skip _ rfl⟩, ?_⟩
      dsimp only
      rw [hw]
      omega
    have gin : ∀ env' : List Bnd, R a (h + 1) (m ++ [(a, (l.getD i.toNat evZ).2.2.2.1)]) env' f0 (i + 1) → ∃ o2, elemF_k k ((q, l, out ++ out'), a, h + 1, m ++ [(a, (l.getD i.toNat evZ).2.2.2.1)], env', f0, i + 1, ()) = some ((q, l, out ++ (out' ++ o2)), ()) ∧ (∀ m ∈ out' ++ o2, O m) ∧ 2 * (out' ++ o2).length + 3 ^ ((l.length : Int) - (i + 1)).toNat ≤ 2 * c0.length + 3 ^ ((l.length : Int) - fr).toNat := by
      intro env' hR'
      obtain ⟨o2, e1, e2, e3⟩ := ihE a (h + 1) _ env' f0 (i + 1) (out ++ out') hR' (by omega) (by rw [List.length_append]; omega)
      refine ⟨o2, by rw [e1, List.append_assoc], fun m hm => ?_, ?_⟩
      · rcases List.mem_append.1 hm with k | k
        · exact g2 m k
        · exact e2 m k
      · rw [List.length_append]; omega
    refine BT.lt (decide_eq_true hi) (BT.yes (in2 hi0 hi) (BT.cond (fun _ => gskip) (fun _ => BT.opt ⟨_, hb20, BT.cond (fun _ => gskip) (fun hbt => ?_)⟩)))
    have hbt : b = true := by simpa using hbt
    subst hbt
    have hn := hn hb20
    refine BT.cond (fun hm1 => ?_) (fun hm1 => ?_)
    · have hm1 : (q.1.getD a.toNat elmZ).2.2.2.2.1 = 1 := by simpa using hm1
      have e : envNext (q.1.getD a.toNat elmZ) env (l.getD i.toNat evZ) = env ++ [((q.1.getD a.toNat elmZ).1, l.getD i.toNat evZ)] := if_pos hm1
      rw [e] at hn
      obtain ⟨o2, e1, e2, e3⟩ := gin _ hn
      refine BT.yes (decide_eq_true ?_) (BT.yes (decide_eq_true ?_) (BT.yes (decide_eq_true ?_) (BT.yes (decide_eq_true ?_) (BT.opt ⟨_, by rw [hw, hwh]; exact e1, ?_⟩))))
      · show (0 + env.length) * 88 ≤ 140737488355328
        omega
      · show (env.length + 1) * 88 ≤ 140737488355328
        omega
      · show (0 + m.length) * 16 ≤ 140737488355328
        omega
      · show (m.length + 1) * 16 ≤ 140737488355328
        omega
      · refine BT.goes ⟨⟨i + 1, out' ++ o2, by rw [hw], by omega, by omega, e2, e3⟩, ?_⟩
        dsimp only
        rw [hw]
        omega
    · have hm1 : ¬ (q.1.getD a.toNat elmZ).2.2.2.2.1 = 1 := by simpa using hm1
      have e : envNext (q.1.getD a.toNat elmZ) env (l.getD i.toNat evZ) = env := if_neg hm1
      rw [e] at hn
      obtain ⟨o2, e1, e2, e3⟩ := gin _ hn
      refine BT.yes (decide_eq_true ?_) (BT.yes (decide_eq_true ?_) (BT.opt ⟨_, by rw [hw, hwh]; exact e1, ?_⟩))
      · show (0 + m.length) * 16 ≤ 140737488355328
        omega
      · show (m.length + 1) * 16 ≤ 140737488355328
        omega
      · refine BT.goes ⟨⟨i + 1, out' ++ o2, by rw [hw], by omega, by omega, e2, e3⟩, ?_⟩
        dsimp only
        rw [hw]
        omega
  · have hp := p3 ((l.length : Int) - i).toNat
    exact BT.ge (decide_eq_false hi) (BT.ends ⟨out', rfl, g2, by omega⟩)
end
end Go.Proofs.Ytnhiplibodkciaa

namespace Go.Proofs.Ytnhiplibodkciaa
open Go.PI Go

section
variable {q : Qry} {l : List Evt} {R : Int → Int → List Prs → List Bnd → Int → Int → Prop} {O : List Prs → Prop}

theorem crossF_w1_at (hq : QGood q) (hE : ∀ x ∈ l, EvGood x) {kk : Int} {L : List Int} (hL : ∀ j ∈ L, 0 ≤ j ∧ j < (q.1.length : Int)) (hL2 : L.length ≤ 1000) (m : List Prs) (env : List Bnd) (he : env.length ≤ 800) (hi : EnvIn env) (f0 i : Int) (e : Elm) (x : Evt) (hx : EvGood x) (out : List (List Prs)) :
    ∃ z, crossF_w1 (kk, L, m, env, f0, i, 0, q.1, q.2.1, q.2.2, l, 0, 0, e, x, out, ()) = some z ∧ (z = .inl (q.1, q.2.1, q.2.2, l, out, ()) ∨ z = .inr (kk, L, m, env, f0, i, q.1, q.2.1, q.2.2, l, 0, 0, e, out, ())) := by
  refine iterO_bt (step := crossF_l1) (fun y => ∃ j : Int, y = (kk, L, m, env, f0, i, j, q.1, q.2.1, q.2.2, l, 0, 0, e, x, out, ()) ∧ 0 ≤ j ∧ j ≤ L.length) (fun y => ((L.length : Int) - y.2.2.2.2.2.2.1).toNat) _ ?_ _ ⟨0, rfl, Int.le_refl 0, by omega⟩
  rintro y ⟨j, rfl, h0, h1⟩
  unfold crossF_l1
  by_cases hj : j < (L.length : Int)
  · have hw : IntKind.wrap .i64 (j + 1) = j + 1 := Go.PI.wrap_small (by omega) (by omega)
    have hlt : j.toNat < L.length := by omega
    obtain ⟨a0, a1⟩ := hL (L.getD j.toNat 0) (by rw [getD_in _ _ _ hlt]; exact List.getElem_mem hlt)
    have hEl := hq.get _ a0 a1
    obtain ⟨b, hb⟩ := fits20_tot (q.1.getD (L.getD j.toNat 0).toNat elmZ) hEl.1 hEl.2.2.2.2.2.1 hEl.2.2.2.2.2.2 x hx env (by omega) hi
    refine BT.lt (decide_eq_true hj) (BT.yes (in2 h0 hj) (BT.yes (in2 a0 a1) (BT.opt ⟨_, hb, BT.cond (fun _ => BT.ends (.inl rfl)) (fun _ => BT.goes ⟨⟨j + 1, by rw [hw], by omega, by omega⟩, ?_⟩)⟩)))
    dsimp only
    rw [hw]
    omega
  · exact BT.ge (decide_eq_false hj) (BT.ends (.inr rfl))

theorem crossF_w0_at (hS : Steps q l R O) (hq : QGood q) (hl : l.length ≤ 100) (hE : ∀ x ∈ l, EvGood x) {k : Nat} (ihE : ElemOk q l R O k) {a h : Int} {m : List Prs} {env : List Bnd} {f0 fr : Int} (hR : R a h m env f0 fr) {kk : Int} (hkk : a < kk) (hkk2 : kk < q.1.length) {L : List Int} (hL : ∀ j ∈ L, 0 ≤ j ∧ j < (q.1.length : Int)) (hL2 : L.length ≤ 1000)
    (hk : 2 * ((l.length : Int) - fr) ≤ k) (out : List (List Prs)) (hb : out.length + 2 * 3 ^ ((l.length : Int) - fr).toNat ≤ 1000000) :
    ∃ z, crossF_w0 (elemF_k k) (crossF_k k) (kk, L, m, env, f0, fr, q.1, q.2.1, q.2.2, l, 0, 0, q.1.getD kk.toNat elmZ, out, ()) = some z ∧ ∃ out', (z = .inl (q.1, q.2.1, q.2.2, l, out ++ out', ()) ∨ z = .inr (q.1, q.2.1, q.2.2, l, 0, 0, out ++ out', ())) ∧ (∀ m ∈ out', O m) ∧ 2 * out'.length + 1 ≤ 3 ^ ((l.length : Int) - fr).toNat := by
  obtain ⟨r1, r2, r3, r4, r5, r6, r7, r8, r9⟩ := hS.rng hR
  have hEl := hq.get kk (by omega) hkk2
  refine iterO_bt (step := crossF_l0 (elemF_k k) (crossF_k k))
    (fun y => ∃ (i : Int) (out' : List (List Prs)), y = (kk, L, m, env, f0, i, q.1, q.2.1, q.2.2, l, 0, 0, q.1.getD kk.toNat elmZ, out ++ out', ()) ∧ fr ≤ i ∧ i ≤ l.length ∧ (∀ m ∈ out', O m) ∧ 2 * out'.length + 3 ^ ((l.length : Int) - i).toNat ≤ 3 ^ ((l.length : Int) - fr).toNat)
    (fun y => ((l.length : Int) - y.2.2.2.2.2.1).toNat) _ ?_ _ ⟨fr, [], by rw [List.append_nil], Int.le_refl _, r9, fun m h => by simp at h, by simp⟩
  rintro y ⟨i, out', rfl, g0, g1, g2, g3⟩
  unfold crossF_l0
  by_cases hi : i < (l.length : Int)
  · have hw : IntKind.wrap .i64 (i + 1) = i + 1 := Go.PI.wrap_small (by omega) (by omega)
    have hi0 : 0 ≤ i := by omega
    have hlt : i.toNat < l.length := by omega
    have hxe : EvGood (l.getD i.toNat evZ) := by rw [getD_in _ _ _ hlt]; exact hE _ (List.getElem_mem hlt)
    have hp := p3s l.length i hi
    have hp2 := p3le l.length fr i g0
    have hp1 := p3 ((l.length : Int) - (i + 1)).toNat
    have hn := hS.next kk i hR hkk hkk2 g0 hi
    obtain ⟨b, hb20⟩ := fits20_tot (q.1.getD kk.toNat elmZ) hEl.1 hEl.2.2.2.2.2.1 hEl.2.2.2.2.2.2 (l.getD i.toNat evZ) hxe env (by omega) r7
    -- behind what was tried: what must not be there
    have tail : ∀ (o2 : List (List Prs)), (∀ m ∈ o2, O m) → 2 * o2.length + 3 ^ ((l.length : Int) - (i + 1)).toNat ≤ 3 ^ ((l.length : Int) - fr).toNat → ∀ oo, oo = out ++ o2 →
        BT (fun s : _ ⊕ _ => (∃ y, s = .inl y ∧ (∃ (j : Int) (out' : List (List Prs)), y = (kk, L, m, env, f0, j, q.1, q.2.1, q.2.2, l, (0 : Int), (0 : Int), q.1.getD kk.toNat elmZ, out ++ out', ()) ∧ fr ≤ j ∧ j ≤ l.length ∧ (∀ m ∈ out', O m) ∧ 2 * out'.length + 3 ^ ((l.length : Int) - j).toNat ≤ 3 ^ ((l.length : Int) - fr).toNat) ∧ ((l.length : Int) - y.2.2.2.2.2.1).toNat < ((l.length : Int) - i).toNat) ∨
            ∃ z : zB5 ⊕ zB6, s = .inr z ∧ ∃ out' : List (List Prs), (z = .inl (q.1, q.2.1, q.2.2, l, out ++ out', ()) ∨ z = .inr (q.1, q.2.1, q.2.2, l, (0 : Int), (0 : Int), out ++ out', ())) ∧ (∀ m ∈ out', O m) ∧ 2 * out'.length + 1 ≤ 3 ^ ((l.length : Int) - fr).toNat)
          (.opt (crossF_w1 (kk, L, m, env, f0, i, 0, q.1, q.2.1, q.2.2, l, 0, 0, q.1.getD kk.toNat elmZ, l.getD i.toNat evZ, oo, ())) fun z => .sum z (fun u => .ret (.inr (.inl (u.1, u.2.1, u.2.2.1, u.2.2.2.1, u.2.2.2.2.1, ())))) (fun z => .ret (.inl (z.1, z.2.1, z.2.2.1, z.2.2.2.1, z.2.2.2.2.1, IntKind.wrap .i64 (z.2.2.2.2.2.1 + 1), z.2.2.2.2.2.2.1, z.2.2.2.2.2.2.2.1, z.2.2.2.2.2.2.2.2.1, z.2.2.2.2.2.2.2.2.2.1, z.2.2.2.2.2.2.2.2.2.2.1, z.2.2.2.2.2.2.2.2.2.2.2.1, z.2.2.2.2.2.2.2.2.2.2.2.2.1, z.2.2.2.2.2.2.2.2.2.2.2.2.2.1, ())))) := by
      rintro o2 h1 h2 oo rfl
      obtain ⟨z, hz, h | h⟩ := crossF_w1_at (l := l) hq hE (kk := kk) hL hL2 m env r6 r7 f0 i (q.1.getD kk.toNat elmZ) (l.getD i.toNat evZ) hxe (out ++ o2)
      · subst h
        exact BT.opt ⟨_, hz, BT.suml (BT.ends ⟨o2, .inl rfl, h1, by omega⟩)⟩
      · subst h
        refine BT.opt ⟨_, hz, BT.sumr (BT.goes ⟨⟨i + 1, o2, by rw [hw], by omega, by omega, h1, h2⟩, ?_⟩)⟩
        dsimp only
        rw [hw]
        omega
    have gin : ∀ env' : List Bnd, R kk 1 (m ++ [(kk, (l.getD i.toNat evZ).2.2.2.1)]) env' f0 (i + 1) → ∃ o2, elemF_k k ((q, l, out ++ out'), kk, 1, m ++ [(kk, (l.getD i.toNat evZ).2.2.2.1)], env', f0, i + 1, ()) = some ((q, l, out ++ (out' ++ o2)), ()) ∧ (∀ m ∈ out' ++ o2, O m) ∧ 2 * (out' ++ o2).length + 3 ^ ((l.length : Int) - (i + 1)).toNat ≤ 3 ^ ((l.length : Int) - fr).toNat := by
      intro env' hR'
      obtain ⟨o2, e1, e2, e3⟩ := ihE kk 1 _ env' f0 (i + 1) (out ++ out') hR' (by omega) (by rw [List.length_append]; omega)
      refine ⟨o2, by rw [e1, List.append_assoc], fun m hm => ?_, ?_⟩
      · rcases List.mem_append.1 hm with k | k
        · exact g2 m k
        · exact e2 m k
      · rw [List.length_append]; omega
    refine BT.lt (decide_eq_true hi) (BT.yes (in2 hi0 hi) (BT.cond (fun _ => BT.opt ⟨_, hb20, BT.cond (fun hbt => ?_) (fun _ => tail out' g2 (by omega) _ rfl)⟩) (fun _ => tail out' g2 (by omega) _ rfl)))
    have hbt : b = true := hbt
    subst hbt
    have hn := hn hb20
    refine BT.cond (fun hm1 => ?_) (fun hm1 => ?_)
    · have hm1 : (q.1.getD kk.toNat elmZ).2.2.2.2.1 = 1 := by simpa using hm1
      have e : envNext (q.1.getD kk.toNat elmZ) env (l.getD i.toNat evZ) = env ++ [((q.1.getD kk.toNat elmZ).1, l.getD i.toNat evZ)] := if_pos hm1
      rw [e] at hn
      obtain ⟨o2, e1, e2, e3⟩ := gin _ hn
      refine BT.yes (decide_eq_true ?_) (BT.yes (decide_eq_true ?_) (BT.yes (decide_eq_true ?_) (BT.yes (decide_eq_true ?_) (BT.opt ⟨_, by rw [hw]; exact e1, tail _ e2 e3 _ rfl⟩))))
      · show (0 + env.length) * 88 ≤ 140737488355328
        omega
      · show (env.length + 1) * 88 ≤ 140737488355328
        omega
      · show (0 + m.length) * 16 ≤ 140737488355328
        omega
      · show (m.length + 1) * 16 ≤ 140737488355328
        omega
    · have hm1 : ¬ (q.1.getD kk.toNat elmZ).2.2.2.2.1 = 1 := by simpa using hm1
      have e : envNext (q.1.getD kk.toNat elmZ) env (l.getD i.toNat evZ) = env := if_neg hm1
      rw [e] at hn
      obtain ⟨o2, e1, e2, e3⟩ := gin _ hn
      refine BT.yes (decide_eq_true ?_) (BT.yes (decide_eq_true ?_) (BT.opt ⟨_, by rw [hw]; exact e1, tail _ e2 e3 _ rfl⟩))
      · show (0 + m.length) * 16 ≤ 140737488355328
        omega
      · show (m.length + 1) * 16 ≤ 140737488355328
        omega
  · have hp := p3 ((l.length : Int) - i).toNat
    exact BT.ge (decide_eq_false hi) (BT.ends ⟨out', .inr rfl, g2, by omega⟩)

theorem Tells.of_bt {out : List (List Prs)} {B : Nat} {b : Br ((Qry × (List Evt × List (List Prs))) × Unit)} (h : BT (fun y => ∃ out', y = ((q, l, out ++ out'), ()) ∧ (∀ m ∈ out', O m) ∧ 2 * out'.length ≤ B) b) : Tells q l O out B b.run := by
  obtain ⟨y, hy, out', rfl, h1, h2⟩ := h
  exact ⟨out', hy, h1, h2⟩

theorem elem_cross (hS : Steps q l R O) (hq : QGood q) (hl : l.length ≤ 100) (hE : ∀ x ∈ l, EvGood x) : ∀ k, ElemOk q l R O k ∧ CrossOk q l R O k
  | 0 => by
    refine ⟨fun a h m env f0 fr out hR hk _ => ?_, fun a h m env f0 fr out kk L hR _ _ _ _ hk _ => ?_⟩
    · have := hS.rng hR; omega
    · have := hS.rng hR; omega
  | k + 1 => by
    obtain ⟨ihE, ihC⟩ := elem_cross hS hq hl hE k
    have hq4 := hq.hi
    refine ⟨fun a h m env f0 fr out hR hk hb => ?_, fun a h m env f0 fr out kk L hR hkk hkk2 hL hL2 hk hb => ?_⟩
    · obtain ⟨r1, r2, r3, r4, r5, r6, r7, r8, r9⟩ := hS.rng hR
      have hp := p3 ((l.length : Int) - fr).toNat
      show Tells q l O out _ (elemF_B (elemF_k k) (crossF_k k) ((q, l, out), a, h, m, env, f0, fr, ())).run
      refine Tells.of_bt ?_
      unfold elemF_B
      have loop : ∀ c0 : List (List Prs), (∀ m ∈ c0, O m) → (c0.length ≤ 1 ∨ 2 * c0.length + 1 ≤ 3 ^ ((l.length : Int) - fr).toNat) → ∀ oo, oo = out ++ c0 → ∀ c : Bool,
          BT (fun y => ∃ out', y = ((q, l, out ++ out'), ()) ∧ (∀ m ∈ out', O m) ∧ 2 * out'.length ≤ 2 * 3 ^ ((l.length : Int) - fr).toNat)
            (.cond c (.ret (((q.1, q.2.1, q.2.2), l, oo), ())) (.opt (elemF_w0 (elemF_k k) (crossF_k k) (a, h, m, env, f0, fr, q.1, q.2.1, q.2.2, l, 0, 0, q.1.getD a.toNat elmZ, oo, ())) fun z => .ret (((z.1, z.2.1, z.2.2.1), z.2.2.2.1, z.2.2.2.2.2.2.1), ()))) := by
        rintro c0 h1 h2 oo rfl c
        refine BT.cond (fun _ => BT.ret ⟨c0, rfl, h1, by omega⟩) (fun _ => ?_)
        obtain ⟨out', e1, e2, e3⟩ := elemF_w0_at hS hq hl hE ihE hR (by omega) out c0 h1 (by omega) hb
        exact BT.opt ⟨_, e1, BT.ret ⟨out', rfl, e2, by omega⟩⟩
      refine BT.yes (in2 r1 r2) (BT.cond (fun _ => ?_) (fun _ => loop [] (fun m h => by simp at h) (.inl (by simp)) _ (by rw [List.append_nil]) _))
      obtain ⟨kk, L, e1, e2, e3, hLl⟩ := nextF_at q (by omega) l out a r1 r2
      refine BT.opt ⟨_, e1, ?_⟩
      rcases e2 with rfl | ⟨e2, e2'⟩
      · refine BT.lt rfl (BT.yes (decide_eq_true ?_) (BT.yes (decide_eq_true ?_) (loop [m] (fun x hx => ?_) (.inl (by simp)) _ rfl _)))
        · show (0 + m.length) * 16 ≤ 140737488355328
          omega
        · show (out.length + 1) * 24 ≤ 140737488355328
          omega
        · obtain rfl := List.mem_singleton.1 hx
          exact hS.out hR
      · refine BT.ge (decide_eq_false (show ¬ kk < 0 by omega)) ?_
        obtain ⟨c0, c1, c2, c3⟩ := ihC a h m env f0 fr out kk L hR e2 e2' e3 hLl (by omega) hb
        exact BT.opt ⟨_, c1, loop c0 c2 (.inr (by omega)) _ rfl _⟩
    · obtain ⟨r1, r2, r3, r4, r5, r6, r7, r8, r9⟩ := hS.rng hR
      show Tells q l O out _ (crossF_B (elemF_k k) (crossF_k k) ((q, l, out), kk, L, m, env, f0, fr, ())).run
      refine Tells.of_bt ?_
      unfold crossF_B
      refine BT.yes (in2 (by omega) hkk2) ?_
      obtain ⟨z, hz, out', h | h, h1, h2⟩ := crossF_w0_at hS hq hl hE ihE hR hkk hkk2 hL hL2 (by omega) out hb
      · subst h
        exact BT.opt ⟨_, hz, BT.suml (BT.ret ⟨out', rfl, h1, by omega⟩)⟩
      · subst h
        exact BT.opt ⟨_, hz, BT.sumr (BT.ret ⟨out', rfl, h1, by omega⟩)⟩
end
end Go.Proofs.Ytnhiplibodkciaa
