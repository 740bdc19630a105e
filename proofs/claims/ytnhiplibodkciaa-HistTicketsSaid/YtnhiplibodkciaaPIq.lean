/- The interpreter is right: an operation, a region, code; calls by what they are said to come to. -/
import Derived.Test.YtnhiplibodkciaaPIp
namespace Go.PI
open Go.RowKit

variable {P : Program} {c : Ctx} {g : Cfg} {s st : St} {a : Act} {w : World} {μ : Nm} {I : Bool → Nat → Prop}

/-- What one's own names stand for. -/
def Live (m : Mem) (μ : Nm) : Nat → Prop := fun b => ∃ n q, look n m ≠ none ∧ μ n = some (b, q)

def RDs (μ : Nm) (I : Bool → Nat → Prop) (w : World) (sh : Sh) (ds : List D) (vs : List Value) : Prop := ds.length = vs.length ∧ ∀ (j : Nat) (d : D) (v : Value), ds[j]? = some d → vs[j]? = some v → RD μ I w sh d v

/-- A call's own stretch of steps. -/
def cfgOf (w : World) (I : Bool → Nat → Prop) (m : Mem) (μ : Nm) : Cfg := ⟨w, I, Live m μ, m, μ⟩

/-- A call comes to what is said of it. -/
def CallOk (P : Program) (f : Nat) (o : Orc) : Prop :=
  (∃ fn, P.funcs[f]? = some fn ∧ (fn.name == "runtime.NumGoroutine") = false ∧ fn.body.isNone = false) ∧
  ∀ (w : World) (μ : Nm) (I : Bool → Nat → Prop) (m : Mem) (nm : Nat) (args : List D) (vs : List Value) (d : D) (m' : Mem) (ks : List Nat), MRel (cfgOf w I m μ) m w μ I → RDs μ I w (shp m) args vs → (o nm args m).run = some (d, m', ks) →
    Calls P f vs.toArray w fun e w' => ∃ v μ' I', e = .returned v ∧ MRel (cfgOf w I m μ) m' w' μ' I' ∧ (∀ t b, I t b → I' t b) ∧ (∀ n, look n m ≠ none → n ∉ ks → μ' n = μ n ∧ shp m' n = shp m n) ∧ RD μ' I' w' (shp m') d v

structure EnvFull (P : Program) (c : Ctx) : Prop extends EnvOk P c where
  orc : ∀ f o, c.orc f = some o → CallOk P f o

theorem killAll_map (ks : List Nat) : ∀ (t : List D), ks.foldl (fun t k => t.map (D.kill k)) t = t.map (D.map fun x => ks.foldl (fun x k => C.kill k x) x) := by
  induction ks with
  | nil =>
    intro t
    have : (D.map fun x : C => x) = id := by funext d; exact D.map_id d
    simp [this]
  | cons k ks ih =>
    intro t
    simp only [List.foldl_cons]
    rw [ih, List.map_map]
    congr 1
    funext d
    rw [D.kill_map]
    cases d <;> simp [D.map, List.map_map, Function.comp_def]

theorem killAll_C : ∀ (ks : List Nat) (x : C), (ks.foldl (fun x k => C.kill k x) x = x ∧ ∀ k ∈ ks, x.has k = false) ∨ ks.foldl (fun x k => C.kill k x) x = .bad
  | [], x => .inl ⟨rfl, fun k hk => by simp at hk⟩
  | k :: ks, x => by
    simp only [List.foldl_cons]
    unfold C.kill
    cases h : x.has k with
    | true =>
      right
      simp only [cond_true]
      rcases killAll_C ks .bad with ⟨e, _⟩ | e
      · exact e
      · exact e
    | false =>
      simp only [cond_false]
      rcases killAll_C ks x with ⟨e, h2⟩ | e
      · refine .inl ⟨e, fun j hj => ?_⟩
        rcases List.mem_cons.1 hj with rfl | hj
        · exact h
        · exact h2 j hj
      · exact .inr e

/-- Behind a call. -/
theorem call_fin (h : Rel g s a w μ I) {d : D} {v : Value} {m' : Mem} {ks : List Nat} {w' : World} {μ' : Nm} {I' : Bool → Nat → Prop} (hm : MRel (cfgOf w I s.m μ) m' w' μ' I') (hI : ∀ t b, I t b → I' t b)
    (hn : ∀ n, look n s.m ≠ none → n ∉ ks → μ' n = μ n ∧ shp m' n = shp s.m n) (hd : RD μ' I' w' (shp m') d v) (dst : Option Tmp) :
    Ok g ((⟨ks.foldl (fun t k => t.map (D.kill k)) s.t, m', ks ++ s.k⟩ : St).putd dst d) (a.put dst v) w' := by
  have hlive : ∀ b, Live s.m μ b → g.L0 b ∨ g.w0.heap.size ≤ b := fun b ⟨n, q, hk, hμ⟩ => h.live n b q hk hμ
  have hst : ∀ t, Stays (I t) w w' := fun t b hb => by
    have hb' : I true b := by cases t; exact h.isub b hb; exact hb
    exact hm.keep b (h.ilt b hb') (fun ⟨n, q, hk, hμ⟩ => h.sep n b q hk hμ hb')
  have hM : MRel g m' w' μ' I' := { hm with
    i0 := fun t b hb => hI _ _ (h.i0 t b hb)
    inew := fun t b hb => by
      rcases hm.inew t b hb with k | k | k
      · exact h.inew t b k
      · exact .inr (hlive b k)
      · exact .inr (.inr (Nat.le_trans h.size k))
    live := fun n b q hk hμ => by
      rcases hm.live n b q hk hμ with k | k
      · exact hlive b k
      · exact .inr (Nat.le_trans h.size k)
    os := hm.os.trans h.os
    tape := hm.tape.trans h.tape
    output := hm.output.trans h.output
    size := Nat.le_trans h.size hm.size
    keep := fun b hlt hL => by
      rw [hm.keep b (Nat.lt_of_lt_of_le hlt h.size) (fun hl => by
        rcases hlive b hl with k | k
        · exact hL k
        · omega)]
      exact h.keep b hlt hL }
  have hphi : ∀ x u, RC μ I w (shp s.m) x u → RC μ' I' w' (shp m') (ks.foldl (fun x k => C.kill k x) x) u := by
    intro x u hx
    rcases killAll_C ks x with ⟨e, h2⟩ | e
    · rw [e]
      refine hx.same hI hst (fun k hk => ?_)
      refine hn k ?_ (fun hmem => by rw [h2 k hmem] at hk; cases hk)
      -- a name that is spoken of is there
      intro hl
      cases x with
      | ref n i o => simp only [C.has] at hk; obtain rfl := Nat.eq_of_beq_eq_true hk; obtain ⟨_, _, _, _, _, k2, _⟩ := hx; simp [shp, hl] at k2
      | mfull n => simp only [C.has] at hk; obtain rfl := Nat.eq_of_beq_eq_true hk; obtain ⟨_, _, _, _, k2, _⟩ := hx; simp [shp, hl] at k2
      | msl n s l cp => simp only [C.has] at hk; obtain rfl := Nat.eq_of_beq_eq_true hk; obtain ⟨_, _, _, _, _, _, ⟨_, _, k2, _⟩, _⟩ := hx; simp [shp, hl] at k2
      | _ => simp [C.has] at hk
    · rw [e]; exact trivial
  have hR : Rel g ⟨ks.foldl (fun t k => t.map (D.kill k)) s.t, m', ks ++ s.k⟩ a w' μ' I' := by
    have hkept : ∀ k, look k g.m0 ≠ none → k ∉ ((⟨ks.foldl (fun t k => t.map (D.kill k)) s.t, m', ks ++ s.k⟩ : St)).k → μ' k = g.μ0 k ∧ shp ((⟨ks.foldl (fun t k => t.map (D.kill k)) s.t, m', ks ++ s.k⟩ : St)).m k = shp g.m0 k := fun k hk hn' => by
      have h1 : k ∉ s.k := fun hmem => hn' (List.mem_append.2 (.inr hmem))
      have h2 : k ∉ ks := fun hmem => hn' (List.mem_append.2 (.inl hmem))
      obtain ⟨k1, k2⟩ := h.kept k hk h1
      have hl : look k s.m ≠ none := fun e => by
        have e1 : shp s.m k = none := by simp [shp, e]
        rw [e1] at k2
        exact hk (by simpa [shp] using k2.symm)
      obtain ⟨k3, k4⟩ := hn k hl h2
      exact ⟨k3.trans k1, k4.trans k2⟩
    refine { toMRel := hM, tm := ?_, len := ?_, dfr := h.dfr, kept := hkept }
    · intro i
      show RD μ' I' w' (shp m') ((ks.foldl (fun t k => t.map (D.kill k)) s.t).getD i (.c .bad)) _
      have hb : ks.foldl (fun x k => C.kill k x) C.bad = .bad := by rcases killAll_C ks .bad with ⟨e, _⟩ | e <;> exact e
      rw [killAll_map, getD_map hb]
      exact (h.tm i).map hphi
    · show (ks.foldl _ s.t).length = _
      rw [killAll_map, List.length_map]; exact h.len
  exact ⟨μ', I', hR.putd hd⟩

theorem call_wp (he : EnvFull P c) (h : Rel g s a w μ I) {o : Oper} {f : Operand} {args : Array Operand} {ts : Array TypeId} (ho : o.op = .call { callee := .value f, args := args, argTypes := ts }) {nm : Nat}
    (hr : ((callD c nm s (opd s f) (args.toList.map (opd s))).bind fun (s, d) => .ret (s.putd o.dst d)).run = some st) {Kc : Act → World → Prop} (hK : ∀ a' w', Ok g st a' w' → Kc a' w') (Q : Exit → Act → World → Prop) : o.wp P a w Kc Q := by
  obtain ⟨⟨s1, d⟩, h1, h2⟩ := Br.bind_some hr
  obtain rfl := Option.some.inj h2
  unfold callD at h1
  split at h1
  · rename_i gf caps hf
    split at h1
    · rename_i orc horc
      obtain ⟨⟨d', m', ks⟩, h3, h4⟩ := Br.bind_some h1
      obtain ⟨rfl, rfl⟩ := Prod.mk.inj (Option.some.inj h4)
      have hfv := eval_opd h f
      rw [hf] at hfv
      obtain ⟨cvs, hfe, hcv⟩ := hfv
      obtain ⟨⟨fn, e1, e2, e3⟩, hcall⟩ := he.orc gf orc horc
      have hargs : RDs μ I w (shp s.m) (args.toList.map (opd s) ++ caps.map .c) (args.toList.map a.eval ++ cvs) := by
        refine ⟨by simp [hcv.1], fun j d v hd hv => ?_⟩
        by_cases hj : j < (args.toList.map (opd s)).length
        · rw [List.getElem?_append_left hj] at hd
          rw [List.getElem?_append_left (by simpa using hj)] at hv
          rw [List.getElem?_map] at hd hv
          obtain ⟨x, hx, rfl⟩ := Option.map_eq_some_iff.1 hd
          obtain ⟨y, hy, rfl⟩ := Option.map_eq_some_iff.1 hv
          rw [hx] at hy
          obtain rfl := Option.some.inj hy
          exact eval_opd h x
        · rw [List.getElem?_append_right (by omega)] at hd
          rw [List.getElem?_append_right (by simpa using hj)] at hv
          rw [List.getElem?_map] at hd
          obtain ⟨x, hx, rfl⟩ := Option.map_eq_some_iff.1 hd
          have : (args.toList.map (opd s)).length = (args.toList.map a.eval).length := by simp
          rw [this] at hx
          exact hcv.2 _ x v hx hv
      have hM0 : MRel (cfgOf w I s.m μ) s.m w μ I := { h.toMRel with
        i0 := fun t b hb => hb
        inew := fun t b hb => .inl hb
        live := fun n b q hk hμ => .inl ⟨n, q, hk, hμ⟩
        os := rfl
        tape := rfl
        output := rfl
        size := Nat.le_refl _
        keep := fun b _ _ => rfl }
      have hc := hcall w μ I s.m nm _ _ d' m' ks hM0 hargs h3
      unfold Oper.wp execOp
      simp only [ho, resolve, Deferred.ofValue, hfe, invoke, callFunc, Sem.run_bind, Sem.run_pure, Result.andThen_ok, run_program, e1]
      rw [if_neg (by rw [e2]; simp), if_neg (by rw [e3]; simp)]
      have eargs : (#[] ++ args.map a.eval ++ cvs.toArray : Array Value) = (args.toList.map a.eval ++ cvs).toArray := by
        apply Array.ext'
        simp
      simp only [Sem.run_pure, Oper.upon]
      rw [eargs]
      refine hc.mono ?_
      rintro e w' ⟨v, μ', I', rfl, r1, r2, r3, r4⟩
      exact hK _ _ (call_fin h r1 r2 r3 r4 o.dst)
    · cases h1
  · cases h1

end Go.PI
