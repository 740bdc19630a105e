/- A contract out of a run: what is there behind it is read. A contract serves callers: what is handed over goes, what comes back lies where it lay. Contracts out of a reckoning; functions that call themselves; statements. What a tree comes to by another one that may come to less: twins that the kernel reckons. A new link of a chain: from a block of one's own to a datum. -/
import Derived.Test.YtnhiplibodkciaaGg
namespace Go.PI
open Go.RowKit

variable {P : Program} {c : Ctx} {g : Cfg} {w : World} {μ : Nm} {I : Bool → Nat → Prop}

/-! ### behind a run -/
/-- Names of what comes in, from here on. -/
abbrev nE : Nat := 1954
/-- Names of what comes back: each root stays. -/
def rootsN : List (Bool × Pat) → Nat → List Nat
  | [], _ => []
  | (true, p) :: r, n => n :: rootsN r (n + p.cnt)
  | (false, p) :: r, n => rootsN r (n + p.cnt)
def isObj : Pat → Bool
  | .obj _ => true
  | _ => false
def backsOk : List (Bool × Pat) → Bool
  | [] => true
  | (true, p) :: r => isObj p && backsOk r
  | (false, _) :: r => backsOk r

def nmsBk (m : Mem) : List (Bool × Pat) → Nat → Option (List Nat)
  | [], _ => some []
  | (true, p) :: r, n => match p.nmsD m (.c (.ref n 0 0)), nmsBk m r (n + p.cnt) with
    | some ns, some ks => some (ns ++ ks)
    | _, _ => none
  | (false, p) :: r, n => nmsBk m r (n + p.cnt)
def decBk (ns : List Nat) (m mk : Mem) : (ins : List (Bool × Pat)) → Nat → Option (PBack ins × List Nat)
  | [], _ => some ((), [])
  | (true, p) :: r, n => match p.decD true ns m mk (.c (.ref n 0 0)), decBk ns m mk r (n + p.cnt) with
    | some (x, ks), some (xs, js) => some ((x, xs), ks ++ js)
    | _, _ => none
  | (false, p) :: r, n => decBk ns m mk r (n + p.cnt)

def nmsOL (m : Mem) : List Pat → List C → Option (List Nat)
  | [], [] => some []
  | p :: r, x :: l => match p.nmsD m (.c x), nmsOL m r l with
    | some ns, some ks => some (ns ++ ks)
    | _, _ => none
  | _, _ => none
def nmsO (m : Mem) : List Pat → D → Option (List Nat)
  | [], .tup [] => some []
  | [p], d => p.nmsD m d
  | p :: q :: r, .tup l => nmsOL m (p :: q :: r) l
  | _, _ => none
def decOL (ns : List Nat) (m mk : Mem) : (outs : List Pat) → List C → Option (POuts outs × List Nat)
  | [], [] => some ((), [])
  | [p], [x] => p.decD true ns m mk (.c x)
  | p :: q :: r, x :: l => match p.decD true ns m mk (.c x), decOL ns m mk (q :: r) l with
    | some (y, ks), some (ys, js) => some ((y, ys), ks ++ js)
    | _, _ => none
  | _, _ => none
def decO (ns : List Nat) (m mk : Mem) : (outs : List Pat) → D → Option (POuts outs × List Nat)
  | [], .tup [] => some ((), [])
  | [p], d => p.decD true ns m mk d
  | p :: q :: r, .tup l => decOL ns m mk (p :: q :: r) l
  | _, _ => none

/-- What a run leaves, read as it is told. -/
def finO (ins : List (Bool × Pat)) (outs : List Pat) (r : D × Mem × List Nat) : Option (POuts outs × PBack ins) :=
  match nmsO r.2.1 outs r.1, nmsBk r.2.1 ins nE with
  | some n1, some n2 => match decO (n1 ++ n2) r.2.1 (killM (n1 ++ n2) r.2.1) outs r.1, decBk (n1 ++ n2) r.2.1 (killM (n1 ++ n2) r.2.1) ins nE with
    | some (y, k1), some (z, k2) => bif subB (k1 ++ k2) (n1 ++ n2) && nodupB (k1 ++ k2) && (rootsN ins nE).all (fun n => !memb n r.2.2) then some (y, z) else none
    | _, _ => none
  | _, _ => none

theorem decBk_ok {ns : List Nat} {m : Mem} (hm : MRel g m w μ I) {J : Bool → Nat → Prop} (hIJ : ∀ t b, I t b → J t b) (hJ : ∀ b, J false b → J true b) (hL : ∀ b, Live (killM ns m) μ b → J true b) (hLx : ∀ b, Live (killM ns m) μ b → J false b) :
    ∀ {ins : List (Bool × Pat)} {n : Nat} {y : PBack ins} {ks : List Nat}, decBk ns m (killM ns m) ins n = some (y, ks) → ∀ {ds : List D} {vs : List Value}, RDs μ I w (shp m) ds vs → ds.length = ins.length → (∀ (j : Nat) (q : Bool × Pat), ins[j]? = some q → q.1 = true → ds[j]? = some (.c (.ref (n + inCnt (ins.take j)) 0 0))) →
    ∃ B, PBK (fun _ => J false) w ins y vs B ∧ B.Sublist (blocks μ ks) ∧ AllThere m ks
  | [], n, y, ks, h, ds, vs, _, _, _ => by
    simp only [decBk, Option.some.injEq, Prod.mk.injEq] at h
    obtain ⟨_, rfl⟩ := h
    exact ⟨[], rfl, List.Sublist.refl _, fun n hn => by simp at hn⟩
  | (true, p) :: r, n, y, ks, h, [], vs, _, hlen, _ => by simp at hlen
  | (false, p) :: r, n, y, ks, h, [], vs, _, hlen, _ => by simp at hlen
  | (true, p) :: r, n, y, ks, h, d :: ds, vs, hd, hlen, hroot => by
    simp only [decBk] at h
    split at h
    · rename_i x k1 ys k2 h1 h2
      simp only [Option.some.injEq, Prod.mk.injEq] at h
      obtain ⟨rfl, rfl⟩ := h
      have hd0 := hroot 0 (true, p) rfl rfl
      simp only [List.getElem?_cons_zero, List.take_zero, inCnt, Nat.add_zero, Option.some.injEq] at hd0
      subst hd0
      cases vs with
      | nil => have := hd.1; simp at this
      | cons v vs =>
        obtain ⟨B1, a1, a2, a3⟩ := decD_ok hm hIJ hJ hL (fun _ => hLx) p h1 (hd.2 0 _ v rfl rfl)
        obtain ⟨B2, a4, a5, a6⟩ := decBk_ok hm hIJ hJ hL hLx h2 (ds := ds) (vs := vs) ⟨by have := hd.1; simpa using this, fun j d' v' hd' hv' => hd.2 (j + 1) d' v' (by simpa using hd') (by simpa using hv')⟩ (by simpa using hlen) (fun j q hq ht => by
          have := hroot (j + 1) q (by simpa using hq) ht
          simpa [inCnt, Nat.add_assoc] using this)
        refine ⟨B1 ++ B2, ⟨B1, B2, rfl, a1.mono (fun t b hb => by simpa using hb), a4⟩, ?_, fun n hn => ?_⟩
        · unfold blocks
          rw [List.filterMap_append]
          exact a2.append a5
        · rcases List.mem_append.1 hn with hn | hn
          · exact a3 n hn
          · exact a6 n hn
    · cases h
  | (false, p) :: r, n, y, ks, h, d :: ds, vs, hd, hlen, hroot => by
    simp only [decBk] at h
    cases vs with
    | nil => have := hd.1; simp at this
    | cons v vs =>
      exact decBk_ok (ins := r) (n := n + p.cnt) hm hIJ hJ hL hLx h (ds := ds) (vs := vs) ⟨by have := hd.1; simpa using this, fun j d' v' hd' hv' => hd.2 (j + 1) d' v' (by simpa using hd') (by simpa using hv')⟩ (by simpa using hlen) (fun j q hq ht => by
        have := hroot (j + 1) q (by simpa using hq) ht
        simpa [inCnt, Nat.add_assoc] using this)

theorem decOL_ok {ns : List Nat} {m : Mem} (hm : MRel g m w μ I) {J : Bool → Nat → Prop} (hIJ : ∀ t b, I t b → J t b) (hJ : ∀ b, J false b → J true b) (hL : ∀ b, Live (killM ns m) μ b → J true b) (hLx : ∀ b, Live (killM ns m) μ b → J false b) :
    ∀ {outs : List Pat} {l : List C} {y : POuts outs} {ks : List Nat}, decOL ns m (killM ns m) outs l = some (y, ks) → ∀ {vs : List Value}, RL μ I w (shp m) l vs →
    ∃ B, POL (fun _ => J false) w outs y vs B ∧ B.Sublist (blocks μ ks) ∧ AllThere m ks
  | [], [], y, ks, h, vs, hl => by
    simp only [decOL, Option.some.injEq, Prod.mk.injEq] at h
    obtain ⟨_, rfl⟩ := h
    exact ⟨[], ⟨List.length_eq_zero_iff.1 hl.1.symm, rfl⟩, List.Sublist.refl _, fun n hn => by simp at hn⟩
  | [p], [x], y, ks, h, vs, hl => by
    obtain ⟨v, r, rfl, h1, h2⟩ := hl.cons
    have hr : r = [] := List.length_eq_zero_iff.1 h2.1.symm
    subst hr
    obtain ⟨B1, a1, a2, a3⟩ := decD_ok hm hIJ hJ hL (fun _ => hLx) p (d := .c x) h h1
    exact ⟨B1, ⟨v, rfl, a1.mono (fun t b hb => by simpa using hb)⟩, a2, a3⟩
  | p :: q :: r, x :: l, y, ks, h, vs, hl => by
    simp only [decOL] at h
    split at h
    · rename_i z k1 ys k2 h1 h2
      simp only [Option.some.injEq, Prod.mk.injEq] at h
      obtain ⟨rfl, rfl⟩ := h
      obtain ⟨v, vr, rfl, c1, c2⟩ := hl.cons
      obtain ⟨B1, a1, a2, a3⟩ := decD_ok hm hIJ hJ hL (fun _ => hLx) p (d := .c x) h1 c1
      obtain ⟨B2, a4, a5, a6⟩ := decOL_ok (outs := q :: r) hm hIJ hJ hL hLx h2 c2
      refine ⟨B1 ++ B2, ⟨v, vr, B1, B2, rfl, rfl, a1.mono (fun t b hb => by simpa using hb), a4⟩, ?_, fun n hn => ?_⟩
      · unfold blocks
        rw [List.filterMap_append]
        exact a2.append a5
      · rcases List.mem_append.1 hn with hn | hn
        · exact a3 n hn
        · exact a6 n hn
    · cases h
  | [], _ :: _, _, _, h, _, _ => by simp [decOL] at h
  | [_], [], _, _, h, _, _ => by simp [decOL] at h
  | [_], _ :: _ :: _, _, _, h, _, _ => by simp [decOL] at h
  | _ :: _ :: _, [], _, _, h, _, _ => by simp [decOL] at h

theorem decO_ok {ns : List Nat} {m : Mem} (hm : MRel g m w μ I) {J : Bool → Nat → Prop} (hIJ : ∀ t b, I t b → J t b) (hJ : ∀ b, J false b → J true b) (hL : ∀ b, Live (killM ns m) μ b → J true b) (hLx : ∀ b, Live (killM ns m) μ b → J false b)
    {outs : List Pat} {d : D} {y : POuts outs} {ks : List Nat} (h : decO ns m (killM ns m) outs d = some (y, ks)) {v : Value} (hd : RD μ I w (shp m) d v) :
    ∃ B, POK (fun _ => J false) w outs y v B ∧ B.Sublist (blocks μ ks) ∧ AllThere m ks := by
  unfold decO at h
  split at h
  · simp only [Option.some.injEq, Prod.mk.injEq] at h
    obtain ⟨_, rfl⟩ := h
    obtain ⟨vs, rfl, hl⟩ := hd
    have : vs = [] := List.length_eq_zero_iff.1 hl.1.symm
    subst this
    exact ⟨[], ⟨rfl, rfl⟩, List.Sublist.refl _, fun n hn => by simp at hn⟩
  · obtain ⟨B1, a1, a2, a3⟩ := decD_ok hm hIJ hJ hL (fun _ => hLx) _ h hd
    exact ⟨B1, a1.mono (fun t b hb => by simpa using hb), a2, a3⟩
  · obtain ⟨vs, rfl, hl⟩ := hd
    obtain ⟨B, a1, a2, a3⟩ := decOL_ok hm hIJ hJ hL hLx h hl
    exact ⟨B, ⟨vs, rfl, a1⟩, a2, a3⟩
  · cases h

theorem encA_length : ∀ (ins : List (Bool × Pat)) (xs : PArgs ins) (n : Nat), (encA ins xs n).1.length = ins.length
  | [], _, _ => rfl
  | p :: r, x, n => by simp [encA, encA_length r]
theorem encA_root : ∀ (ins : List (Bool × Pat)) (xs : PArgs ins) (n : Nat), backsOk ins = true → ∀ (j : Nat) (q : Bool × Pat), ins[j]? = some q → q.1 = true → (encA ins xs n).1[j]? = some (.c (.ref (n + inCnt (ins.take j)) 0 0))
  | [], _, _, _, j, q, hq, _ => by simp at hq
  | (f, p) :: r, x, n, hb, 0, q, hq, ht => by
    simp only [List.getElem?_cons_zero, Option.some.injEq] at hq
    subst hq
    have ht : f = true := ht
    subst ht
    simp only [backsOk, Bool.and_eq_true] at hb
    cases p with
    | obj p => simp [encA, Pat.encD, inCnt]
    | _ => simp [isObj] at hb
  | (f, p) :: r, x, n, hb, j + 1, q, hq, ht => by
    have hb' : backsOk r = true := by
      cases f with
      | true => simp only [backsOk, Bool.and_eq_true] at hb; exact hb.2
      | false => exact hb
    have := encA_root r x.2 (n + p.cnt) hb' j q (by simpa using hq) ht
    simpa [encA, inCnt, Nat.add_assoc] using this

theorem OC.of_run (he : EnvFull P c) {f : Nat} {fn : Func} (hf : P.funcs[f]? = some fn) (hn : (!(fn.name == "runtime.NumGoroutine") && fn.body.isSome) = true) {ins : List (Bool × Pat)} {outs : List Pat} (hbk : backsOk ins = true) {F : PArgs ins → Option (POuts outs × PBack ins)} {kp : List Nat}
    (hkp : ∀ xs n, look n (encA ins xs nE).2 ≠ none → n ∈ kp)
    (h : ∀ xs y, F xs = some y → ∃ p, (∀ g, (∀ n, look n g.m0 ≠ none → n ∈ kp) → LoOk P g p (bodyOf fn)) ∧ ((inl c p fn (bodyOf fn) 0 (encA ins xs nE).1 (encA ins xs nE).2).bind fun r => .ofOpt (finO ins outs r)).run = some y) : OC P f ins outs F := by
  simp only [Bool.and_eq_true, Bool.not_eq_true'] at hn
  have hb := bodyOf_ok hn.2
  refine ⟨⟨fn, hf, hn.1, by rw [hb]; rfl⟩, fun w J hJ hlt xs vs B hx hnd hBJ y hy => ?_⟩
  obtain ⟨p, hlo, hrun⟩ := h xs y hy
  obtain ⟨⟨d, m', ks⟩, hr, hfin⟩ := Br.bind_some hrun
  have hfin := ofOpt_run hfin
  let μ0 : Nm := fun _ => none
  have hmc0 : MC ([] : Mem) w μ0 J := ⟨fun n mb h => by simp [look] at h, fun n n' b q q' h => (by cases h), fun n b q h => absurd rfl h⟩
  obtain ⟨μ1, hA, hR⟩ := encA_ok nE hmc0 hx (fun _ _ _ => rfl) hnd (fun b _ ⟨n, q, h, _⟩ => h rfl) hBJ
  rw [List.append_nil] at hA hR
  have hme : MRel (cfgOf w J (encA ins xs nE).2 μ1) (encA ins xs nE).2 w μ1 J := { mem := hA.mc.mem, inj := hA.mc.inj, sep := hA.mc.sep, isub := hJ, ilt := hlt, i0 := fun t b h => h, inew := fun t b h => .inl h, live := fun n b q h e => .inl ⟨n, q, h, e⟩, os := rfl, tape := rfl, output := rfl, size := Nat.le_refl _, keep := fun _ _ _ => rfl }
  have hL0 : ∀ b, Live (encA ins xs nE).2 μ1 b → b ∈ B := fun b hb => (hA.live b hb).elim (fun ⟨n, q, h, _⟩ => absurd rfl h) id
  refine (inl_calls he hf hb hme hR (hlo _ fun n hn => hkp xs n hn) hr).mono ?_
  rintro e w' ⟨v, μ', I', rfl, h1, h2, h3, h4⟩
  unfold finO at hfin
  split at hfin
  · rename_i n1 n2 e1 e2
    split at hfin
    · rename_i yo k1 yb k2 d1 d2
      cases hc : subB (k1 ++ k2) (n1 ++ n2) && nodupB (k1 ++ k2) && (rootsN ins nE).all (fun n => !memb n ks) with
      | false => rw [hc] at hfin; cases hfin
      | true =>
        rw [hc] at hfin
        obtain rfl := Option.some.inj hfin
        simp only [Bool.and_eq_true] at hc
        obtain ⟨⟨hsub, hndk⟩, hroots⟩ := hc
        let JJ : Bool → Nat → Prop := fun t b => I' t b ∨ Live (killM (n1 ++ n2) m') μ' b
        have hlive : ∀ {ns : List Nat} {b : Nat}, Live (killM ns m') μ' b → Live m' μ' b := fun h => by
          obtain ⟨n, q, _, h5, h6⟩ := Live.killM h
          exact ⟨n, q, h5, h6⟩
        obtain ⟨B1, a1, a2, a3⟩ := decO_ok h1 (J := JJ) (fun t b hb => .inl hb) (fun b hb => hb.imp (h1.isub b) id) (fun b hb => .inr hb) (fun b hb => .inr hb) d1 h4
        -- what comes back
        have hargs : RDs μ' I' w' (shp m') (((encA ins xs nE).1).map fun d => match d with | .c (.ref n 0 0) => bif memb n (rootsN ins nE) then .c (.ref n 0 0) else .c .bad | _ => .c .bad) vs := by
          refine ⟨by simpa using hR.1, fun j d v hd hv => ?_⟩
          rw [List.getElem?_map] at hd
          obtain ⟨d0, hd0, rfl⟩ := Option.map_eq_some_iff.1 hd
          have hd1 := hR.2 j d0 v hd0 hv
          split
          · rename_i n
            cases hm : memb n (rootsN ins nE) with
            | false => exact trivial
            | true =>
              obtain ⟨b, q, len, z, r1, r2, r3, r4⟩ := hd1
              have hnk : n ∉ ks := fun hk => by
                have := List.all_eq_true.1 hroots n (memb_iff.1 hm)
                rw [memb_iff.2 hk] at this
                cases this
              have hln : look n (encA ins xs nE).2 ≠ none := fun e => by simp [shp, e] at r2
              obtain ⟨s1, s2⟩ := h3 n hln hnk
              exact ⟨b, q, len, z, s1.trans r1, s2.trans r2, r3, r4⟩
          · exact trivial
        obtain ⟨B2, a4, a5, a6⟩ := decBk_ok h1 (J := JJ) (fun t b hb => .inl hb) (fun b hb => hb.imp (h1.isub b) id) (fun b hb => .inr hb) (fun b hb => .inr hb) d2 hargs (by simp [encA_length]) (fun j q hq ht => by
          rw [List.getElem?_map, encA_root ins xs nE hbk j q hq ht]
          have hmem : nE + inCnt (ins.take j) ∈ rootsN ins nE := by
            have key : ∀ (ins : List (Bool × Pat)) (n j : Nat) (q : Bool × Pat), ins[j]? = some q → q.1 = true → n + inCnt (ins.take j) ∈ rootsN ins n := by
              intro ins
              induction ins with
              | nil => intro n j q hq; simp at hq
              | cons a r ih =>
                intro n j q hq ht
                obtain ⟨f, pp⟩ := a
                cases j with
                | zero =>
                  simp only [List.getElem?_cons_zero, Option.some.injEq] at hq
                  subst hq
                  have ht : f = true := ht
                  subst ht
                  simp [rootsN, inCnt]
                | succ j =>
                  have := ih (n + pp.cnt) j q (by simpa using hq) ht
                  have e : n + inCnt ((( f, pp) :: r).take (j + 1)) = n + pp.cnt + inCnt (r.take j) := by simp [inCnt, Nat.add_assoc]
                  rw [e]
                  cases f with
                  | true => exact List.mem_cons_of_mem _ this
                  | false => exact this
            exact key ins nE j q hq ht
          simp [memb_iff.2 hmem])
        have hkk : (k1 ++ k2).Nodup := nodupB_ok hndk
        have hat : AllThere m' (k1 ++ k2) := fun n hn => (List.mem_append.1 hn).elim (a3 n) (a6 n)
        have hsubl : (B1 ++ B2).Sublist (blocks μ' (k1 ++ k2)) := by
          unfold blocks
          rw [List.filterMap_append]
          exact a2.append a5
        have hmem : ∀ b ∈ B1 ++ B2, ∃ n q, n ∈ k1 ++ k2 ∧ look n m' ≠ none ∧ μ' n = some (b, q) := fun b hb => by
          obtain ⟨n, q, hn, hμ⟩ := mem_blocks.1 (hsubl.subset hb)
          exact ⟨n, q, hn, hat n hn, hμ⟩
        refine ⟨v, JJ false, B1, B2, rfl, a1, a4, hsubl.nodup (blocks_nodup h1.mc hkk hat), fun b hb => ?_, fun b hb => .inl (h2 false b hb), fun b hb => ?_, h1.os, h1.tape, h1.output, h1.size, fun b hb hbB => h1.keep b hb fun hl => hbB (hL0 b hl)⟩
        · obtain ⟨n, q, hn, hl, hμ⟩ := hmem b hb
          refine ⟨?_, ?_⟩
          · rcases h1.live n b q hl hμ with k | k
            · exact .inl (hL0 b k)
            · exact .inr k
          · rintro (k | k)
            · exact h1.sep n b q hl hμ (h1.isub b k)
            · obtain ⟨n', q', hn', hl', hμ'⟩ := Live.killM k
              obtain rfl := h1.inj n n' b q q' hμ hμ' hl hl'
              exact hn' (subB_iff.1 hsub n hn)
        · rcases hb with hb | hb
          · refine ⟨?_, h1.ilt b (h1.isub b hb)⟩
            rcases h1.inew false b hb with k | k | k
            · exact .inl k
            · exact .inr (.inl (hL0 b k))
            · exact .inr (.inr k)
          · obtain ⟨n', q', hl', hμ'⟩ := hlive hb
            refine ⟨?_, h1.live_lt hl' hμ'⟩
            rcases h1.live n' b q' hl' hμ' with k | k
            · exact .inr (.inl (hL0 b k))
            · exact .inr (.inr k)
    · cases hfin
  · cases hfin

end Go.PI

namespace Go.PI
open Go.RowKit

variable {P : Program} {c : Ctx} {g : Cfg} {w : World} {μ : Nm} {I : Bool → Nat → Prop}

/-- The roots of what comes back: their names, and how many cells they have. -/
def rootOf : Pat → D → Option (Nat × Nat)
  | .obj p, .c (.ref n 0 0) => some (n, p.sz)
  | _, _ => none
def rootsOf : List (Bool × Pat) → List D → Option (List (Nat × Nat))
  | [], [] => some []
  | (true, p) :: r, d :: l => match rootOf p d, rootsOf r l with
    | some x, some rs => some (x :: rs)
    | _, _ => none
  | (false, _) :: r, _ :: l => rootsOf r l
  | [], _ :: _ => none
  | _ :: _, [] => none
def rootB (m : Mem) (r : Nat × Nat) : Bool := match look r.1 m with
  | some mb => mb.cellsB.isSome && Nat.beq mb.shape.1 1 && Nat.beq mb.shape.2 r.2
  | none => false
def blankM : List (Nat × Nat) → Mem → Mem
  | [], m => m
  | (n, z) :: r, m => blankM r (setm n (.dv (List.replicate z .bad)) m)
/-- What comes back, and where. -/
structure Bk where
  p : Pat
  y : p.T
  k : Nat
def bkOne : (p : Pat) → p.T → D → Option Bk
  | .obj p, y, .c (.ref n 0 0) => some ⟨p, y, n⟩
  | _, _, _ => none
def bkList : (ins : List (Bool × Pat)) → PBack ins → List D → List Bk
  | (true, p) :: r, y, d :: l => (bkOne p y.1 d).toList ++ bkList r y.2 l
  | (false, _) :: r, y, _ :: l => bkList r y l
  | _, _, _ => []
def bkCnt : List Bk → Nat
  | [] => 0
  | x :: r => x.p.cnt + bkCnt r
def inBk : List (Bool × Pat) → Nat
  | [] => 0
  | (true, .obj p) :: r => p.cnt + inBk r
  | _ :: r => inBk r
/-- It is laid where it lay. -/
def encBk : List Bk → Nat → Mem → Mem
  | [], _, m => m
  | x :: r, n, m => encBk r (n + x.p.cnt) (setm x.k (x.p.encB x.y (x.p.enc x.y n).1) ((x.p.enc x.y n).2 ++ m))

def goneN (N : Nat) (ins : List (Bool × Pat)) (outs : List Pat) (ns : List Nat) (rs : List (Nat × Nat)) : List Nat := List.range' N (inBk ins + outCnt outs) ++ ns.filter fun n => !memb n (rs.map (·.1))

def ocGo (ins : List (Bool × Pat)) (outs : List Pat) (N : Nat) (s : St) (kl : List Nat) (rs : List (Nat × Nat)) (y : POuts outs × PBack ins) : D × Mem × List Nat :=
  ((encO outs y.1 (N + inBk ins)).1, (encO outs y.1 (N + inBk ins)).2 ++ encBk (bkList ins y.2 s.t) N (blankM rs (killM kl s.m)), kl ++ s.k)

/-- A contract as a callee. -/
def ocOrc1 (ins : List (Bool × Pat)) (outs : List Pat) (F : PArgs ins → Option (POuts outs × PBack ins)) (N : Nat) (s : St) : Br (D × Mem × List Nat) :=
  match nmsA s.m ins s.t, rootsOf ins s.t with
  | some ns, some rs => match decA false ns s.m (killM ns s.m) ins s.t with
    | some (xs, ks) => bif subB ks ns && nodupB ks && (rs.all (fun r => rootB s.m r && memb r.1 ks && !memb r.1 (goneN N ins outs ns rs))) then .opt (F xs) fun y => .ret (ocGo ins outs N s (goneN N ins outs ns rs) rs y) else .no
    | none => .no
  | _, _ => .no
def ocOrc (ins : List (Bool × Pat)) (outs : List Pat) (F : PArgs ins → Option (POuts outs × PBack ins)) : Orc := fun nm args m =>
  ocOrc1 ins outs F ((nm + 1) * 1024 + 900) (freezeAll (keptA m ins args) (⟨args, m, []⟩, .c .bad)).1

theorem MC.setRoot {m : Mem} (h : MC m w μ I) {k : Nat} {mb0 mb : MB} (h0 : look k m = some mb0) {b q : Nat} (hμ : μ k = some (b, q)) (hs : mb.shape = mb0.shape) (hb : BR μ I w (shp m) mb b q) : MC (setm k mb m) w μ I ∧ shp (setm k mb m) = shp m := by
  have hsh : shp (setm k mb m) = shp m := shp_setm h0 hs
  have hl : ∀ j, look j (setm k mb m) ≠ none → look j m ≠ none := by
    intro j hj
    by_cases e : j = k
    · subst e; rw [h0]; simp
    · rwa [look_setm_other mb e] at hj
  refine ⟨⟨?_, ?_, ?_⟩, hsh⟩
  · intro j mb' hj
    rw [hsh]
    by_cases e : j = k
    · subst e
      rw [look_setm_same] at hj
      obtain rfl := Option.some.inj hj
      exact .inl ⟨b, q, hμ, hb⟩
    · rw [look_setm_other mb e] at hj
      exact h.mem j mb' hj
  · exact fun n1 n2 b q q' e1 e2 h1 h2 => h.inj n1 n2 b q q' e1 e2 (hl _ h1) (hl _ h2)
  · exact fun n1 b q h1 e => h.sep n1 b q (hl _ h1) e

theorem look_blank : ∀ (rs : List (Nat × Nat)) (m : Mem) (k : Nat), k ∉ rs.map (·.1) → look k (blankM rs m) = look k m
  | [], _, _, _ => rfl
  | (n, z) :: r, m, k, h => by
    simp only [List.map_cons, List.mem_cons, not_or] at h
    rw [show blankM ((n, z) :: r) m = blankM r (setm n (.dv (List.replicate z .bad)) m) from rfl, look_blank r _ k h.2, look_setm_other _ h.1]
theorem look_blank_root : ∀ (rs : List (Nat × Nat)) (m : Mem) (k : Nat), k ∈ rs.map (·.1) → ∃ z, (k, z) ∈ rs ∧ look k (blankM rs m) = some (.dv (List.replicate z .bad))
  | [], _, _, h => by simp at h
  | (n, z) :: r, m, k, h => by
    show ∃ z', (k, z') ∈ (n, z) :: r ∧ look k (blankM r (setm n (.dv (List.replicate z .bad)) m)) = _
    by_cases hk : k ∈ r.map (·.1)
    · obtain ⟨z', h1, h2⟩ := look_blank_root r (setm n (.dv (List.replicate z .bad)) m) k hk
      exact ⟨z', List.mem_cons_of_mem _ h1, h2⟩
    · have e : k = n := by
        simp only [List.map_cons, List.mem_cons] at h
        exact h.resolve_right hk
      subst e
      exact ⟨z, List.mem_cons_self, by rw [look_blank r _ k hk, look_setm_same]⟩

theorem BR.qsh {sh : Sh} {mb : MB} {b q : Nat} (h : BR μ I w sh mb b q) {l : List C} (hl : mb.cellsB = some l) : q = mb.shape.2 := by
  obtain ⟨cur, e, h1, h2, h3⟩ := h
  cases mb with
  | tv t τ x =>
    have : cur.toList.length = τ.sz := h3.length
    simpa [MB.shape, ← h2] using this
  | dv l' =>
    have := h3.1.1
    simp [MB.shape, ← h2]
    simpa using this.symm
  | ar t e' τ xs => cases hl


/-- What comes back lies in blocks of its own. -/
def BkOk (w : World) (I : Bool → Nat → Prop) (μ : Nm) : List Bk → List Nat → Prop
  | [], B => B = []
  | x :: r, B => ∃ b B1 B2 cur e, B = (b :: B1) ++ B2 ∧ μ x.k = some (b, x.p.sz) ∧ w.heap[b]? = some (.cells cur e (0, 0)) ∧ cur.size = x.p.sz ∧ (∀ u ∈ cur.toList, u.oneCell' = true) ∧ PK I w x.p x.y cur.toList B1 ∧ BkOk w I μ r B2

theorem BkOk.mem : ∀ {l : List Bk} {B : List Nat}, BkOk w I μ l B → ∀ x ∈ l, ∀ b q, μ x.k = some (b, q) → b ∈ B
  | [], _, _, x, hx, _, _, _ => by simp at hx
  | y :: r, _, ⟨b, B1, B2, cur, e, h1, h2, _, _, _, _, h3⟩, x, hx, b', q, hb => by
    subst h1
    rcases List.mem_cons.1 hx with rfl | hx
    · rw [h2] at hb
      obtain ⟨rfl, _⟩ := Prod.mk.inj (Option.some.inj hb)
      exact List.mem_append.2 (.inl List.mem_cons_self)
    · exact List.mem_append.2 (.inr (BkOk.mem h3 x hx b' q hb))
theorem BkOk.congr {μ' : Nm} : ∀ {l : List Bk} {B : List Nat}, (∀ x ∈ l, μ' x.k = μ x.k) → BkOk w I μ l B → BkOk w I μ' l B
  | [], _, _, h => h
  | x :: r, _, hm, ⟨b, B1, B2, cur, e, h1, h2, h3, h4, h5, h6, h7⟩ => ⟨b, B1, B2, cur, e, h1, (hm x List.mem_cons_self).trans h2, h3, h4, h5, h6, BkOk.congr (fun y hy => hm y (List.mem_cons_of_mem _ hy)) h7⟩

/-- What is there behind the backs are laid. -/
structure Backs (m m' : Mem) (w : World) (μ μ' : Nm) (I : Bool → Nat → Prop) (n k : Nat) (B : List Nat) : Prop where
  mc : MC m' w μ' I
  same : ∀ j, ¬ (n ≤ j ∧ j < n + k) → μ' j = μ j ∧ shp m' j = shp m j
  live : ∀ b, Live m' μ' b → Live m μ b ∨ b ∈ B
theorem shp_nil {m : Mem} {k : Nat} : shp m k = none ↔ look k m = none := by simp [shp]

theorem encBk_ok : ∀ {l : List Bk} {B : List Nat} {m : Mem} {μ : Nm} (n : Nat), MC m w μ I → BkOk w I μ l B → B.Nodup → (∀ k, n ≤ k → k < n + bkCnt l → look k m = none) → (∀ b ∈ B, ¬ I true b) → (∀ x ∈ l, shp m x.k = some (1, x.p.sz)) → (∀ b ∈ B, Live m μ b → ∃ x ∈ l, ∃ q, μ x.k = some (b, q)) →
    ∃ μ', Backs m (encBk l n m) w μ μ' I n (bkCnt l) B
  | [], B, m, μ, n, hm, _, _, _, _, _, _ => ⟨μ, hm, fun _ _ => ⟨rfl, rfl⟩, fun b hb => .inl hb⟩
  | x :: r, _, m, μ, n, hm, ⟨b, B1, B2, cur, e, h1, hμ, hh, hcs, hone, hpk, hr⟩, hnd, hn, hI, hsh, hlv => by
    subst h1
    obtain ⟨d1, d2, d3⟩ := List.nodup_append.1 hnd
    obtain ⟨d4, d5⟩ := List.nodup_cons.1 d1
    have hcnt : bkCnt (x :: r) = x.p.cnt + bkCnt r := rfl
    have hinner : ∀ b' ∈ B1, ¬ Live m μ b' := fun b' hb' hl => by
      obtain ⟨y, hy, q, hq⟩ := hlv b' (List.mem_append.2 (.inl (List.mem_cons_of_mem _ hb'))) hl
      rcases List.mem_cons.1 hy with rfl | hy
      · rw [hμ] at hq
        obtain ⟨rfl, _⟩ := Prod.mk.inj (Option.some.inj hq)
        exact d4 hb'
      · exact d3 b' (List.mem_cons_of_mem _ hb') b' (hr.mem y hy b' q hq) rfl
    obtain ⟨μ1, hA, hR⟩ := enc_ok x.p n hm hpk (fun j a1 a2 => hn j a1 (by rw [hcnt]; omega)) d5 hinner (fun b' hb' => hI b' (List.mem_append.2 (.inl (List.mem_cons_of_mem _ hb'))))
    have hup := hA.up fun j a1 a2 => hn j a1 (by rw [hcnt]; omega)
    have hthere : ∀ y ∈ x :: r, look y.k m ≠ none := fun y hy e => by
      have := hsh y hy
      rw [shp_nil.2 e] at this
      cases this
    obtain ⟨hk1, hk2⟩ := hup x.k (hthere x List.mem_cons_self)
    have hshk1 : shp ((x.p.enc x.y n).2 ++ m) x.k = some (1, x.p.sz) := hk2.trans (hsh x List.mem_cons_self)
    obtain ⟨mb0, hmb0⟩ : ∃ mb0, look x.k ((x.p.enc x.y n).2 ++ m) = some mb0 := by
      cases e : look x.k ((x.p.enc x.y n).2 ++ m) with
      | none => rw [shp_nil.2 e] at hshk1; cases hshk1
      | some mb0 => exact ⟨mb0, rfl⟩
    have hs0 : mb0.shape = (1, x.p.sz) := by
      rw [shp_look hmb0] at hshk1
      exact Option.some.inj hshk1
    have hbr := encB_ok (p := x.p) (x := x.y) rfl hh hone hpk hR
    rw [hcs] at hbr
    obtain ⟨hmc2, hsh2⟩ := hA.mc.setRoot hmb0 (hk1.trans hμ) (by rw [hs0]; exact encB_shape x.p x.y _ (by rw [hR.1, hpk.len])) hbr
    have hlook : ∀ j, look j (setm x.k (x.p.encB x.y (x.p.enc x.y n).1) ((x.p.enc x.y n).2 ++ m)) = none ↔ look j ((x.p.enc x.y n).2 ++ m) = none := fun j => by rw [← shp_nil, ← shp_nil, hsh2]
    have hlive : ∀ b', Live (setm x.k (x.p.encB x.y (x.p.enc x.y n).1) ((x.p.enc x.y n).2 ++ m)) μ1 b' → Live m μ b' ∨ b' ∈ B1 := fun b' ⟨j, q, hj, hq⟩ => hA.live b' ⟨j, q, fun e => hj ((hlook j).2 e), hq⟩
    have hkeep : ∀ y ∈ r, μ1 y.k = μ y.k := fun y hy => (hup y.k (hthere y (List.mem_cons_of_mem _ hy))).1
    obtain ⟨μ2, hB⟩ := encBk_ok (l := r) (n + x.p.cnt) hmc2 (hr.congr hkeep) d2
      (fun j a1 a2 => by
        rw [hlook, (hA.same j (by omega)).2]
        exact hn j (by omega) (by rw [hcnt]; omega))
      (fun b' hb' => hI b' (List.mem_append.2 (.inr hb')))
      (fun y hy => by
        rw [hsh2, (hup y.k (hthere y (List.mem_cons_of_mem _ hy))).2]
        exact hsh y (List.mem_cons_of_mem _ hy))
      (fun b' hb' hl => by
        rcases hlive b' hl with k | k
        · obtain ⟨y, hy, q, hq⟩ := hlv b' (List.mem_append.2 (.inr hb')) k
          rcases List.mem_cons.1 hy with rfl | hy
          · rw [hμ] at hq
            obtain ⟨rfl, _⟩ := Prod.mk.inj (Option.some.inj hq)
            exact absurd rfl (d3 b List.mem_cons_self b hb')
          · exact ⟨y, hy, q, (hkeep y hy).trans hq⟩
        · exact absurd rfl (d3 b' (List.mem_cons_of_mem _ k) b' hb'))
    refine ⟨μ2, hB.mc, fun j hj => ?_, fun b' hb' => ?_⟩
    · rw [hcnt] at hj
      obtain ⟨a1, a2⟩ := hB.same j (by omega)
      obtain ⟨a3, a4⟩ := hA.same j (by omega)
      exact ⟨a1.trans a3, a2.trans ((congrFun hsh2 j).trans (by unfold shp; rw [a4]))⟩
    · rcases hB.live b' hb' with k | k
      · rcases hlive b' k with k | k
        · exact .inl k
        · exact .inr (List.mem_append.2 (.inl (List.mem_cons_of_mem _ k)))
      · exact .inr (List.mem_append.2 (.inr k))

theorem bk_of {w' : World} {J' : Bool → Nat → Prop} {m : Mem} (hm : MC m w μ I) : ∀ {ins : List (Bool × Pat)} {ds : List D} {vs : List Value} {rs : List (Nat × Nat)} {y : PBack ins} {B : List Nat}, RDs μ I w (shp m) ds vs → rootsOf ins ds = some rs → PBK J' w' ins y vs B → (∀ r ∈ rs, rootB m r = true) →
    BkOk w' J' μ (bkList ins y ds) B ∧ (bkList ins y ds).map (fun x => (x.k, x.p.sz)) = rs ∧ bkCnt (bkList ins y ds) = inBk ins ∧ ∀ r ∈ rs, shp m r.1 = some (1, r.2)
  | [], [], vs, rs, y, B, _, h, hp, _ => by
    simp only [rootsOf, Option.some.injEq] at h
    subst h
    exact ⟨hp, rfl, rfl, fun r hr => by simp at hr⟩
  | (true, p) :: r, d :: l, vs, rs, y, B, hd, h, hp, hb => by
    simp only [rootsOf] at h
    split at h
    · rename_i x rs' h1 h2
      obtain rfl := Option.some.inj h
      cases vs with
      | nil => have := hd.1; simp at this
      | cons v vs =>
        obtain ⟨B1, B2, rfl, hv, hr⟩ := hp
        obtain ⟨i1, i2, i3, i4⟩ := bk_of hm (ins := r) (ds := l) (vs := vs) (rs := rs') (y := y.2) (B := B2) ⟨by have := hd.1; simpa using this, fun j d' v' hd' hv' => hd.2 (j + 1) d' v' (by simpa using hd') (by simpa using hv')⟩ h2 hr (fun r hr => hb r (List.mem_cons_of_mem _ hr))
        unfold rootOf at h1
        split at h1
        · rename_i p n
          obtain rfl := Option.some.inj h1
          obtain ⟨b, q, len, z, e1, e2, e3, rfl⟩ := hd.2 0 _ v rfl rfl
          obtain ⟨b', cur, e, B', hv1, rfl, hh, hone, hpk⟩ : PK J' w' (.obj p) y.1 [_] B1 := hv
          have hbb : b' = b := by
            simp at hv1
            exact hv1.symm
          subst hbb
          have hrb := hb (n, p.sz) List.mem_cons_self
          unfold rootB at hrb
          split at hrb
          · rename_i mb hl
            simp only [Bool.and_eq_true] at hrb
            obtain ⟨⟨k1, k2⟩, k3⟩ := hrb
            obtain ⟨cl, hcl⟩ := Option.isSome_iff_exists.1 k1
            have hsh : mb.shape = (1, p.sz) := by
              rw [← Nat.eq_of_beq_eq_true k2, ← Nat.eq_of_beq_eq_true k3]
            have hl : look n m = some mb := hl
            have hcs : cur.size = p.sz := by have := hpk.len; simpa using this
            refine ⟨⟨b', B', B2, cur, e, rfl, ?_, hh, hcs, hone, hpk, i1⟩, by simp [bkList, bkOne, i2], by simp [bkList, bkOne, bkCnt, inBk, i3], fun r hr => ?_⟩
            · show μ n = some (b', p.sz)
              rcases hm.mem n _ hl with ⟨b2, q2, f1, f2⟩ | ⟨f1, _⟩
              · rw [e1] at f1
                obtain ⟨rfl, rfl⟩ := Prod.mk.inj (Option.some.inj f1)
                have := f2.qsh hcl
                rw [hsh] at this
                rw [this] at e1
                exact e1
              · rw [e1] at f1; cases f1
            · rcases List.mem_cons.1 hr with rfl | hr
              · show shp m n = _
                rw [shp_look hl, hsh]
              · exact i4 r hr
          · cases hrb
        · cases h1
    · cases h
  | (false, p) :: r, d :: l, vs, rs, y, B, hd, h, hp, hb => by
    simp only [rootsOf] at h
    cases vs with
    | nil => have := hd.1; simp at this
    | cons v vs =>
      obtain ⟨i1, i2, i3, i4⟩ := bk_of hm (ins := r) (ds := l) (vs := vs) (rs := rs) (y := y) (B := B) ⟨by have := hd.1; simpa using this, fun j d' v' hd' hv' => hd.2 (j + 1) d' v' (by simpa using hd') (by simpa using hv')⟩ h hp hb
      exact ⟨i1, i2, i3, i4⟩
  | [], _ :: _, _, _, _, _, _, h, _, _ => by cases h
  | (true, _) :: _, [], _, _, _, _, _, h, _, _ => by simp [rootsOf] at h
  | (false, _) :: _, [], _, _, _, _, _, h, _, _ => by simp [rootsOf] at h

theorem look_shp {m m' : Mem} {k : Nat} (h : shp m' k = shp m k) : look k m' = none ↔ look k m = none := by rw [← shp_nil, ← shp_nil, h]

theorem OC.callOk {f : Nat} {ins : List (Bool × Pat)} {outs : List Pat} {F : PArgs ins → Option (POuts outs × PBack ins)} (h : OC P f ins outs F) : CallOk P f (ocOrc ins outs F) := by
  refine ⟨h.fn, fun w μ I m nm args vs d m' ks hm ha hr => ?_⟩
  have h0 : Rel (cfgOf w I m μ) ⟨args, m, []⟩ { tmps := vs.toArray, defers := [] } w μ I := by
    have := entry_rel hm ha 0
    simpa using this
  obtain ⟨I1, h1, _⟩ := freezeAll_ok (keptA m ins args) h0 (d := .c .bad) (v := undef) trivial
  unfold ocOrc at hr
  generalize (freezeAll (keptA m ins args) (⟨args, m, []⟩, .c .bad)).1 = s at hr h1
  generalize (nm + 1) * 1024 + 900 = N at hr
  unfold ocOrc1 at hr
  split at hr
  · rename_i ns rs hns hrs
    split at hr
    · rename_i xs kk hdec
      cases hc : subB kk ns && nodupB kk && (rs.all (fun r => rootB s.m r && memb r.1 kk && !memb r.1 (goneN N ins outs ns rs))) with
      | false => rw [hc] at hr; cases hr
      | true =>
        rw [hc, cond_true] at hr
        obtain ⟨y, hy, hr⟩ := Br.opt_some hr
        have hr := Option.some.inj hr
        simp only [Bool.and_eq_true, List.all_eq_true] at hc
        obtain ⟨⟨hsub, hndk⟩, hroots⟩ := hc
        have hsub := subB_iff.1 hsub
        have hndk := nodupB_ok hndk
        have hM := h1.toMRel
        have hlen : s.t.length = vs.length := by have := h1.len; simpa using this
        have hargs : RDs μ I1 w (shp s.m) s.t vs := by
          refine ⟨hlen, fun j d v hd hv => ?_⟩
          have hj := h1.tm j
          have e1 : s.t.getD j (.c .bad) = d := by simp [List.getD, hd]
          have e2 : (vs.toArray).getD j undef = v := by simp [Array.getD_eq_getD_getElem?, hv]
          rw [e1] at hj
          have hj : RD μ I1 w (shp s.m) d ((vs.toArray).getD j undef) := hj
          rw [e2] at hj
          exact hj
        let J : Bool → Nat → Prop := fun t b => I1 t b ∨ (t = true ∧ Live (killM ns s.m) μ b)
        obtain ⟨B, hB1, hB2, hB3⟩ := decA_ok hM (J := J) (fun t b hb => .inl hb) (fun b hb => by
          rcases hb with hb | ⟨e, _⟩
          · exact .inl (h1.isub b hb)
          · cases e) (fun b hb => .inr ⟨rfl, hb⟩) (fun e => by cases e) hdec hargs
        have hmem : ∀ b ∈ B, ∃ n q, n ∈ kk ∧ look n s.m ≠ none ∧ μ n = some (b, q) := fun b hb => by
          obtain ⟨n, q, hn, hμ⟩ := mem_blocks.1 (hB2.subset hb)
          exact ⟨n, q, hn, hB3 n hn, hμ⟩
        have hnJ : ∀ b ∈ B, ¬ J true b := by
          intro b hb hj
          obtain ⟨n, q, hn, hl, hμ⟩ := hmem b hb
          rcases hj with hj | ⟨_, hj⟩
          · exact h1.sep n b q hl hμ hj
          · obtain ⟨n', q', hn', hl', hμ'⟩ := Live.killM hj
            obtain rfl := h1.inj n n' b q q' hμ hμ' hl hl'
            exact hn' (hsub n hn)
        have hJlt : ∀ b, J true b → b < w.heap.size := by
          rintro b (hb | ⟨_, hb⟩)
          · exact hM.ilt b hb
          · obtain ⟨n', q', _, hl', hμ'⟩ := Live.killM hb
            exact hM.live_lt hl' hμ'
        have hBlive : ∀ b ∈ B, Live m μ b ∨ w.heap.size ≤ b := fun b hb => by
          obtain ⟨n, q, hn, hl, hμ⟩ := hmem b hb
          exact h1.live n b q hl hμ
        have hBlt : ∀ b ∈ B, b < w.heap.size := fun b hb => by
          obtain ⟨n, q, hn, hl, hμ⟩ := hmem b hb
          exact hM.live_lt hl hμ
        refine (h.ok w (fun b => J (b && !false)) (fun b hb => by
          rcases hb with hb | ⟨e, _⟩
          · exact .inl (h1.isub b hb)
          · cases e) hJlt xs vs B hB1 (hB2.nodup (blocks_nodup hM.mc hndk hB3)) hnJ y hy).mono ?_
        rintro e w' ⟨v, J', C1, C2, rfl, r1, r2, r3, r4, r5, r6, r7, r8, r9, r10, r11⟩
        obtain ⟨d1, d2, d3⟩ := List.nodup_append.1 r3
        let I2 : Bool → Nat → Prop := fun t b => I1 t b ∨ J' b
        have hJ2 : ∀ t b, (fun _ => J' : Bool → Nat → Prop) t b → I2 t b := fun t b hb => .inr hb
        have hst : ∀ t, Stays (I1 t) w w' := fun t b hb => by
          have hb' : I1 true b := by cases t; exact h1.isub b hb; exact hb
          exact r11 b (hM.ilt b hb') fun hB => hnJ b hB (.inl hb')
        obtain ⟨q1, q2, q3, q4⟩ := bk_of hM.mc hargs hrs r2 (fun r hr => (hroots r hr).1.1)
        -- the rest of memory behind the call
        have hgone : ∀ n, n ∉ goneN N ins outs ns rs → n ∈ ns → n ∈ rs.map (·.1) := fun n hn hns => by
          cases hmm : memb n (rs.map (·.1)) with
          | true => exact memb_iff.1 hmm
          | false => exact absurd (List.mem_append.2 (.inr (List.mem_filter.2 ⟨hns, by simp [hmm]⟩))) hn
        have hrootgone : ∀ n ∈ rs.map (·.1), n ∉ goneN N ins outs ns rs := fun n hn hg => by
          obtain ⟨r, hr, rfl⟩ := List.mem_map.1 hn
          have := (hroots r hr).2
          rw [memb_iff.2 hg] at this
          cases this
        have h3 : MC (killM (goneN N ins outs ns rs) s.m) w μ I1 := hM.mc.killM _
        have hsh4 : shp (blankM rs (killM (goneN N ins outs ns rs) s.m)) = shp (killM (goneN N ins outs ns rs) s.m) := by
          funext n
          by_cases hn : n ∈ rs.map (·.1)
          · obtain ⟨z, hz, hl⟩ := look_blank_root rs (killM (goneN N ins outs ns rs) s.m) n hn
            rw [shp_look hl, shp_killM _ (hrootgone n hn), q4 (n, z) hz]
            simp [MB.shape]
          · unfold shp
            rw [look_blank rs _ n hn]
        have hframe : ∀ n, look n (killM (goneN N ins outs ns rs) s.m) ≠ none → n ∉ rs.map (·.1) → ∀ b q, μ n = some (b, q) → b ∉ B := fun n hl hn b q hμ hb => by
          obtain ⟨k1, k2⟩ := look_killM _ hl
          obtain ⟨n', q', hn', hl', hμ'⟩ := hmem b hb
          obtain rfl := h1.inj n n' b q q' hμ hμ' k2 hl'
          exact hn (hgone n k1 (hsub n hn'))
        have hrk : ∀ n ∈ rs.map (·.1), ∃ b z, (n, z) ∈ rs ∧ μ n = some (b, z) ∧ b ∈ C2 ∧ ∃ cur e, w'.heap[b]? = some (.cells cur e (0, 0)) ∧ cur.size = z ∧ ∀ u ∈ cur.toList, u.oneCell' = true := by
          intro n hn
          rw [← q2] at hn
          obtain ⟨⟨n', z⟩, hz, rfl⟩ := List.mem_map.1 hn
          obtain ⟨x, hx, e⟩ := List.mem_map.1 hz
          obtain ⟨rfl, rfl⟩ := Prod.mk.inj e
          have key : ∀ {l : List Bk} {C : List Nat}, BkOk w' (fun _ => J') μ l C → x ∈ l → ∃ b, μ x.k = some (b, x.p.sz) ∧ b ∈ C ∧ ∃ cur e, w'.heap[b]? = some (.cells cur e (0, 0)) ∧ cur.size = x.p.sz ∧ ∀ u ∈ cur.toList, u.oneCell' = true := by
            intro l
            induction l with
            | nil => intro C _ hx; simp at hx
            | cons a r ih =>
              rintro C ⟨b, B1, B2, cur, e, rfl, k2, k3, k4, k5, _, k7⟩ hx
              rcases List.mem_cons.1 hx with rfl | hx
              · exact ⟨b, k2, List.mem_append.2 (.inl List.mem_cons_self), cur, e, k3, k4, k5⟩
              · obtain ⟨b', t1, t2, t3⟩ := ih k7 hx
                exact ⟨b', t1, List.mem_append.2 (.inr t2), t3⟩
          obtain ⟨b, t1, t2, t3⟩ := key q1 hx
          exact ⟨b, x.p.sz, by rw [← q2]; exact hz, t1, t2, t3⟩
        have h4 : MC (blankM rs (killM (goneN N ins outs ns rs) s.m)) w' μ I2 := by
          have hlk : ∀ n, look n (blankM rs (killM (goneN N ins outs ns rs) s.m)) ≠ none → look n (killM (goneN N ins outs ns rs) s.m) ≠ none := fun n hn e => hn ((look_shp (congrFun hsh4 n)).2 e)
          refine ⟨fun n mb hn => ?_, fun n1 n2 b q q' e1 e2 k1 k2 => h3.inj n1 n2 b q q' e1 e2 (hlk _ k1) (hlk _ k2), fun n b q hn hμ hi => ?_⟩
          · by_cases hr : n ∈ rs.map (·.1)
            · obtain ⟨z, hz, hl⟩ := look_blank_root rs (killM (goneN N ins outs ns rs) s.m) n hr
              rw [hl] at hn
              obtain rfl := Option.some.inj hn
              obtain ⟨b, z', hz', t1, t2, cur, e, t3, t4, t5⟩ := hrk n hr
              have hzz : z' = z := by
                have a1 := q4 (n, z) hz
                have a2 := q4 (n, z') hz'
                rw [a1] at a2
                exact (Prod.mk.inj (Option.some.inj a2)).2.symm
              subst hzz
              refine .inl ⟨b, z', t1, cur, e, t3, t4, ⟨by simp [t4], fun j c v hj _ => ?_⟩, t5⟩
              rw [List.getElem?_replicate] at hj
              split at hj
              · obtain rfl := Option.some.inj hj; exact trivial
              · cases hj
            · rw [look_blank rs _ n hr] at hn
              rcases h3.mem n mb hn with ⟨b, q, t1, t2⟩ | t
              · refine .inl ⟨b, q, t1, ?_⟩
                have hb : w'.heap[b]? = w.heap[b]? := r11 b t2.lt (hframe n (by rw [hn]; simp) hr b q t1)
                have := t2.map (φ := id) (μ' := μ) (I' := I2) (w' := w') (sh' := shp (blankM rs (killM (goneN N ins outs ns rs) s.m))) (fun c v hc => hc.same (fun t b hb => .inl hb) hst fun k _ => ⟨rfl, congrFun hsh4 k⟩) (fun t b hb => .inl hb) hst hb
                rwa [MB.mapC_id] at this
              · exact .inr t
          · have hn3 := hlk n hn
            rcases hi with hi | hi
            · exact h3.sep n b q hn3 hμ hi
            · by_cases hr : n ∈ rs.map (·.1)
              · obtain ⟨b', z', _, t1, t2, _⟩ := hrk n hr
                rw [hμ] at t1
                obtain ⟨rfl, _⟩ := Prod.mk.inj (Option.some.inj t1)
                exact (r4 b (List.mem_append.2 (.inr t2))).2 hi
              · obtain ⟨k1, k2⟩ := look_killM _ hn3
                rcases (r6 b hi).1 with k | k | k
                · rcases k with k | ⟨e, _⟩
                  · exact h1.sep n b q k2 hμ (h1.isub b k)
                  · cases e
                · exact hframe n hn3 hr b q hμ k
                · have := hM.live_lt k2 hμ
                  omega
        have hlive4 : ∀ b, Live (blankM rs (killM (goneN N ins outs ns rs) s.m)) μ b → (∃ n q, n ∈ rs.map (·.1) ∧ μ n = some (b, q)) ∨ (b ∉ B ∧ b < w.heap.size) := by
          rintro b ⟨n, q, hn, hμ⟩
          have hn3 : look n (killM (goneN N ins outs ns rs) s.m) ≠ none := fun e => hn ((look_shp (congrFun hsh4 n)).2 e)
          by_cases hr : n ∈ rs.map (·.1)
          · exact .inl ⟨n, q, hr, hμ⟩
          · exact .inr ⟨hframe n hn3 hr b q hμ, hM.live_lt (look_killM _ hn3).2 hμ⟩
        have hfresh : ∀ k, N ≤ k → k < N + (inBk ins + outCnt outs) → look k (blankM rs (killM (goneN N ins outs ns rs) s.m)) = none := fun k a1 a2 => by
          have hk : k ∈ goneN N ins outs ns rs := List.mem_append.2 (.inl (List.mem_range'_1.2 ⟨a1, a2⟩))
          exact (look_shp (congrFun hsh4 k)).2 (look_killM_none _ (.inl hk))
        have hnotB : ∀ b ∈ C1 ++ C2, ¬ (b ∉ B ∧ b < w.heap.size) := fun b hb ⟨t1, t2⟩ => by
          rcases (r4 b hb).1 with k | k
          · exact t1 k
          · omega
        have hnI2 : ∀ b ∈ C1 ++ C2, ¬ I2 true b := fun b hb hi => by
          rcases hi with hi | hi
          · rcases (r4 b hb).1 with k | k
            · exact hnJ b k (.inl hi)
            · have := hM.ilt b hi
              omega
          · exact (r4 b hb).2 hi
        have hq1 : BkOk w' I2 μ (bkList ins y.2 s.t) C2 := by
          have key : ∀ {l : List Bk} {C : List Nat}, BkOk w' (fun _ => J') μ l C → BkOk w' I2 μ l C := by
            intro l
            induction l with
            | nil => intro C h; exact h
            | cons a r ih =>
              rintro C ⟨b, B1, B2, cur, e, k1, k2, k3, k4, k5, k6, k7⟩
              exact ⟨b, B1, B2, cur, e, k1, k2, k3, k4, k5, k6.mono hJ2, ih k7⟩
          exact key q1
        obtain ⟨μ5, h5⟩ := encBk_ok N h4 hq1 d2 (fun k a1 a2 => hfresh k a1 (by rw [q3] at a2; omega)) (fun b hb => hnI2 b (List.mem_append.2 (.inr hb)))
          (fun x hx => by
            have hx' : (x.k, x.p.sz) ∈ rs := by rw [← q2]; exact List.mem_map.2 ⟨x, hx, rfl⟩
            rw [hsh4, shp_killM _ (hrootgone x.k (List.mem_map.2 ⟨_, hx', rfl⟩))]
            exact q4 _ hx')
          (fun b hb hl => by
            rcases hlive4 b hl with ⟨n, q, hn, hμ⟩ | k
            · rw [← q2] at hn
              obtain ⟨r', hr', rfl⟩ := List.mem_map.1 hn
              obtain ⟨x, hx, rfl⟩ := List.mem_map.1 hr'
              exact ⟨x, hx, q, hμ⟩
            · exact absurd k (hnotB b (List.mem_append.2 (.inr hb))))
        rw [q3] at h5
        obtain ⟨μ6, h6, hrd⟩ := encO_ok (N + inBk ins) h5.mc (r1.mono hJ2) (fun k a1 a2 => by
            refine (look_shp (h5.same k (by omega)).2).2 (hfresh k (by omega) (by omega))) d1 (fun b hb hl => by
            rcases h5.live b hl with k | k
            · rcases hlive4 b k with ⟨n, q, hn, hμ⟩ | k
              · obtain ⟨b', z', _, t1, t2, _⟩ := hrk n hn
                rw [hμ] at t1
                obtain ⟨rfl, _⟩ := Prod.mk.inj (Option.some.inj t1)
                exact d3 b hb b t2 rfl
              · exact hnotB b (List.mem_append.2 (.inl hb)) k
            · exact d3 b hb b k rfl) (fun b hb => hnI2 b (List.mem_append.2 (.inl hb)))
        unfold ocGo at hr
        simp only [Prod.mk.injEq] at hr
        obtain ⟨rfl, rfl, rfl⟩ := hr
        have hlive6 : ∀ b, Live ((encO outs y.1 (N + inBk ins)).2 ++ encBk (bkList ins y.2 s.t) N (blankM rs (killM (goneN N ins outs ns rs) s.m))) μ6 b → Live m μ b ∨ w.heap.size ≤ b := by
          intro b hb
          have hC : b ∈ C1 ++ C2 → Live m μ b ∨ w.heap.size ≤ b := fun hb => by
            rcases (r4 b hb).1 with k | k
            · exact hBlive b k
            · exact .inr k
          rcases h6.live b hb with k | k
          · rcases h5.live b k with k | k
            · obtain ⟨n, q, hn, hμ⟩ := k
              have hn3 : look n (killM (goneN N ins outs ns rs) s.m) ≠ none := fun e => hn ((look_shp (congrFun hsh4 n)).2 e)
              exact h1.live n b q (look_killM _ hn3).2 hμ
            · exact hC (List.mem_append.2 (.inr k))
          · exact hC (List.mem_append.2 (.inl k))
        refine ⟨v, μ6, I2, rfl, ?_, fun t b hb => .inl (h1.i0 t b hb), fun n hn hk => ?_, hrd⟩
        · refine { mem := h6.mc.mem, inj := h6.mc.inj, sep := h6.mc.sep, isub := fun b hb => hb.imp (h1.isub b) id, ilt := ?_, i0 := fun t b hb => .inl (h1.i0 t b hb), inew := ?_, live := fun n b q hn hμ => hlive6 b ⟨n, q, hn, hμ⟩, os := r7, tape := r8, output := r9, size := r10, keep := fun b hb hL => r11 b hb fun hB => ?_ }
          · rintro b (hb | hb)
            · have := hM.ilt b hb
              omega
            · exact (r6 b hb).2
          · rintro t b (hb | hb)
            · exact h1.inew t b hb
            · rcases (r6 b hb).1 with k | k | k
              · rcases k with k | ⟨e, _⟩
                · exact (h1.inew false b k).imp (fun k => by
                    cases t with
                    | false => exact k
                    | true => exact hm.isub b k) id
                · cases e
              · exact .inr (hBlive b k)
              · exact .inr (.inr k)
          · rcases hBlive b hB with k | k
            · exact hL k
            · have hb : b < w.heap.size := hb
              omega
        · have hk1 : n ∉ goneN N ins outs ns rs := fun h => hk (List.mem_append.2 (.inl h))
          have hk2 : n ∉ s.k := fun h => hk (List.mem_append.2 (.inr h))
          have hnr : ¬ (N ≤ n ∧ n < N + (inBk ins + outCnt outs)) := fun h => hk1 (List.mem_append.2 (.inl (List.mem_range'_1.2 h)))
          obtain ⟨t1, t2⟩ := h6.same n (by omega)
          obtain ⟨t3, t4⟩ := h5.same n (by omega)
          obtain ⟨t5, t6⟩ := h1.kept n hn hk2
          refine ⟨t1.trans t3, ?_⟩
          have e1 : shp ((encO outs y.1 (N + inBk ins)).2 ++ encBk (bkList ins y.2 s.t) N (blankM rs (killM (goneN N ins outs ns rs) s.m))) n = shp (encBk (bkList ins y.2 s.t) N (blankM rs (killM (goneN N ins outs ns rs) s.m))) n := by unfold shp; rw [t2]
          rw [e1, t4, hsh4, shp_killM _ hk1]
          exact t6
    · cases hr
  · cases hr

end Go.PI

namespace Go.PI
open Go.RowKit

variable {P : Program} {c : Ctx} {g : Cfg} {w : World} {μ : Nm} {I : Bool → Nat → Prop}

theorem look_appP (k : Nat) : ∀ (m m' : Mem), look k (m ++ m') ≠ none → look k m ≠ none ∨ look k m' ≠ none
  | [], _, h => .inr h
  | (n, b) :: r, m', h => by
    rw [List.cons_append, look_cons] at h
    rw [look_cons]
    by_cases e : k = n
    · rw [if_pos e]; exact .inl (by simp)
    · rw [if_neg e] at h ⊢
      exact look_appP k r m' h
theorem enc_range : ∀ (p : Pat) (x : p.T) (n k : Nat), look k (p.enc x n).2 ≠ none → n ≤ k ∧ k < n + p.cnt
  | .nil, _, _, _, h => absurd rfl h
  | .ty _ _, _, _, _, h => absurd rfl h
  | .row e τ, x, n, k, h => by
    simp only [Pat.enc, look_cons] at h
    by_cases e : k = n
    · simp [Pat.cnt]; omega
    · rw [if_neg e] at h; exact absurd rfl h
  | .obj p, x, n, k, h => by
    simp only [Pat.enc, look_cons] at h
    simp only [Pat.cnt]
    by_cases e : k = n
    · omega
    · rw [if_neg e] at h
      have := enc_range p x (n + 1) k h
      omega
  | .two p q, x, n, k, h => by
    simp only [Pat.cnt]
    rcases look_appP k _ _ h with h | h
    · have := enc_range q x.2 (n + p.cnt) k h
      omega
    · have := enc_range p x.1 n k h
      omega
  | .fn _ _, _, _, _, h => absurd rfl h
  | .rf _, _, _, _, h => absurd rfl h
theorem encD_range (p : Pat) (x : p.T) (n k : Nat) (h : look k (p.encD x n).2 ≠ none) : n ≤ k ∧ k < n + p.cnt := by
  cases p with
  | nil => exact absurd rfl h
  | ty b τ => exact absurd rfl h
  | row e τ => exact enc_range _ _ _ _ h
  | obj p => exact enc_range _ _ _ _ h
  | two p q => exact enc_range _ _ _ _ h
  | fn f p => exact enc_range p x n k h
  | rf τ => exact absurd rfl h
theorem encA_range : ∀ (ins : List (Bool × Pat)) (xs : PArgs ins) (n k : Nat), look k (encA ins xs n).2 ≠ none → n ≤ k ∧ k < n + inCnt ins
  | [], _, _, _, h => absurd rfl h
  | p :: r, x, n, k, h => by
    simp only [inCnt]
    rcases look_appP k _ _ h with h | h
    · have := encA_range r x.2 (n + p.2.cnt) k h
      omega
    · have := encD_range p.2 x.1 n k h
      omega

/-- All names of what comes in; those that may go. -/
def kpOf (ins : List (Bool × Pat)) : List Nat := List.range' nE (inCnt ins)
def kfOf (ins : List (Bool × Pat)) : List Nat := (kpOf ins).filter fun n => !memb n (rootsN ins nE)

/-- A function, as it is reckoned. -/
def ocRun (c : Ctx) (p : Par) (fn : Func) (ins : List (Bool × Pat)) (outs : List Pat) (xs : PArgs ins) : Br (POuts outs × PBack ins) :=
  (inl c p fn (bodyOf fn) 0 (encA ins xs nE).1 (encA ins xs nE).2).bind fun r => .ofOpt (finO ins outs r)

theorem OC.of_tree (he : EnvFull P c) {f : Nat} {fn : Func} (hf : P.funcs[f]? = some fn) (hn : (!(fn.name == "runtime.NumGoroutine") && fn.body.isSome) = true) {ins : List (Bool × Pat)} {outs : List Pat} (hbk : backsOk ins = true) {p : Par}
    (hlo : ∀ g, (∀ n, look n g.m0 ≠ none → n ∈ kpOf ins) → LoOk P g p (bodyOf fn)) {B : PArgs ins → Br (POuts outs × PBack ins)} (h : ∀ xs, ocRun c p fn ins outs xs = B xs) : OC P f ins outs fun xs => (B xs).run :=
  OC.of_run he hf hn hbk (kp := kpOf ins) (fun xs n hn => List.mem_range'_1.2 (encA_range ins xs nE n hn)) fun xs y hy => ⟨p, hlo, by
    have := h xs
    unfold ocRun at this
    rw [this]
    exact hy⟩

theorem OC.weaken {f : Nat} {ins : List (Bool × Pat)} {outs : List Pat} {F G : PArgs ins → Option (POuts outs × PBack ins)} (h : OC P f ins outs F) (hG : ∀ xs y, G xs = some y → F xs = some y) : OC P f ins outs G :=
  ⟨h.fn, fun w J hJ hlt xs vs B hx hnd hB y hy => h.ok w J hJ hlt xs vs B hx hnd hB y (hG xs y hy)⟩
theorem OC.congr {f : Nat} {ins : List (Bool × Pat)} {outs : List Pat} {F G : PArgs ins → Option (POuts outs × PBack ins)} (h : OC P f ins outs F) (hG : ∀ xs, G xs = F xs) : OC P f ins outs G :=
  h.weaken fun xs y hy => (hG xs).symm.trans hy

/-- Nothing is said. -/
theorem OC.zero {f : Nat} {fn : Func} (hf : P.funcs[f]? = some fn) (hn : (!(fn.name == "runtime.NumGoroutine") && fn.body.isSome) = true) {ins : List (Bool × Pat)} {outs : List Pat} : OC P f ins outs fun _ => none := by
  simp only [Bool.and_eq_true, Bool.not_eq_true'] at hn
  exact ⟨⟨fn, hf, hn.1, by rw [bodyOf_ok hn.2]; rfl⟩, fun w J hJ hlt xs vs B hx hnd hB y hy => by cases hy⟩
/-- A function that calls itself: so deep as is told. -/
theorem OC.deep {f : Nat} {ins : List (Bool × Pat)} {outs : List Pat} {F : Nat → PArgs ins → Option (POuts outs × PBack ins)} (h : ∀ k, OC P f ins outs (F k)) (d : PArgs ins → Nat) : OC P f ins outs fun xs => F (d xs) xs :=
  ⟨(h 0).fn, fun w J hJ hlt xs vs B hx hnd hB y hy => (h (d xs)).ok w J hJ hlt xs vs B hx hnd hB y hy⟩

def lentIns : List Ty → List (Bool × Pat)
  | [] => []
  | τ :: r => (false, .ty true τ) :: lentIns r
def keepIns : List Ty → List (Bool × Ty)
  | [] => []
  | τ :: r => (false, τ) :: keepIns r
@[reducible] def toP : (l : List Ty) → Args (keepIns l) → PArgs (lentIns l)
  | [], _ => ()
  | _ :: r, x => (x.1, toP r x.2)

theorem pak_row {W : World} : ∀ (l : List Ty) {xs : Args (keepIns l)} {vs : List Value}, ArgsK (fun _ b => b < W.heap.size) W (keepIns l) xs vs → PAK (fun _ b => b < W.heap.size) W (lentIns l) (toP l xs) vs []
  | [], _, _, ha => ⟨ha, rfl⟩
  | _ :: r, _, _, ⟨v, k, e, h1, h2⟩ => ⟨v, k, [], [], e, rfl, ⟨rfl, h1⟩, pak_row r h2⟩

theorem OC.row {f : Nat} {l : List Ty} {F : PArgs (lentIns l) → Option (POuts [Pat.ty false .bool] × PBack (lentIns l))} (h : OC P f (lentIns l) [Pat.ty false .bool] F) {z : PBack (lentIns l)} (hF : ∀ xs, F (toP l xs) = some (true, z)) {W : World} {xs : Args (keepIns l)} {vs : List Value} (ha : ArgsK (fun _ b => b < W.heap.size) W (keepIns l) xs vs) :
    Calls P f vs.toArray W fun e W' => e = .returned (.bool true) ∧ Below W.heap.size W W' := by
  have hp := pak_row l ha
  refine (h.ok W (fun _ b => b < W.heap.size) (fun _ h => h) (fun _ h => h) _ vs [] hp List.nodup_nil (fun b hb => by simp at hb) _ (hF xs)).mono ?_
  rintro e W' ⟨v, J', B1, B2, rfl, r1, _, _, _, _, _, r7, r8, r9, r10, r11⟩
  obtain ⟨_, hv⟩ : PV (fun _ => J') W' (.ty false .bool) true v B1 := r1
  have hv := hv.2 rfl
  have hv : v = .bool true := by simpa [K] using hv
  subst hv
  exact ⟨rfl, r7, r8, r9, r10, fun b hb => r11 b hb (by simp)⟩

end Go.PI
namespace Go.PI
variable {P : Program} {g : Cfg} {p : Par}

/-- What is said of some loops is so. -/
def AllLo (P : Program) (g : Cfg) (p : Par) (l : List Code) : Prop := ∀ a ∈ l, ∀ o, loOf p a = some o → LoopOk P g o a
theorem AllLo.nil : AllLo P g p [] := fun a h => by simp at h
theorem AllLo.cons {a : Code} {l : List Code} {o : St → Br (Exit × St)} (h : LoopOk P g o a) (e : loOf p a = some o) (t : AllLo P g p l) : AllLo P g p (a :: l) := by
  intro b hb o' ho
  rcases List.mem_cons.1 hb with rfl | hb
  · exact h.of e ho
  · exact t b hb o' ho
theorem LoOk.of {code : Code} {l : List Code} (hb : loopsOf code = l) (h : AllLo P g p l) : LoOk P g p code := fun a ha o ho => h a (hb ▸ ha) o ho
end Go.PI
namespace Go.PI
variable {P : Program}
/-- A contract by typed data, of one that comes in and one that is told. -/
theorem OC.of_t1 {f : Nat} {k : Bool} {τ σ : Ty} {pre : Args [(k, τ)] → Bool} {F : Args [(k, τ)] → Res [σ]} (h : TSpec P f [(k, τ)] [σ] pre F) {G : PArgs [(false, .ty (!k) τ)] → Option (POuts [.ty false σ] × PBack [(false, .ty (!k) τ)])}
    (hG : ∀ xs y, G xs = some y → pre xs = true ∧ y = (F xs, ())) : OC P f [(false, .ty (!k) τ)] [.ty false σ] G := by
  refine ⟨h.fn, fun w J hJ hlt xs vs B hx hnd hB y hy => ?_⟩
  obtain ⟨h1, rfl⟩ := hG xs y hy
  obtain ⟨v, l, B1, B2, rfl, rfl, ⟨rfl, h2⟩, rfl, rfl⟩ := hx
  refine (h.ok w J hJ hlt xs [v] ⟨v, [], rfl, h2, rfl⟩ h1).mono ?_
  rintro e w' ⟨u, rfl, r1, r2, r3, r4, r5, r6⟩
  refine ⟨u, fun b => J false b ∨ (w.heap.size ≤ b ∧ b < w'.heap.size), [], [], rfl, ⟨rfl, r1⟩, rfl, List.nodup_nil, fun b hb => by simp at hb, fun b hb => .inl hb, fun b hb => ?_, r2, r3, r4, r5, fun b hb _ => r6 b hb⟩
  rcases hb with hb | hb
  · have := hlt b (hJ b hb)
    exact ⟨.inl hb, by omega⟩
  · exact ⟨.inr (.inr hb.1), hb.2⟩
end Go.PI
namespace Go.PI
variable {P : Program}
theorem OC.clone {f : Nat} {k : Bool} {τ : Ty} {z : Nat} (h : TSpec P f [(k, .sl τ)] [.sl τ] (fun xs => bound (0 + List.length xs.1) z) (fun xs => xs.1)) : OC P f [(false, .ty (!k) (.sl τ))] [.ty false (.sl τ)] fun x => bif bound (0 + List.length x.1) z then some (x.1, ()) else none :=
  OC.of_t1 h fun xs y hy => by
    cases hb : bound (0 + List.length xs.1) z with
    | false => rw [hb] at hy; cases hy
    | true =>
      rw [hb] at hy
      exact ⟨rfl, (Option.some.inj hy).symm⟩
end Go.PI

namespace Go.PI
variable {α : Type}

def OLe (o o' : Option α) : Prop := ∀ v, o = some v → o' = some v
def BLe (a b : Br α) : Prop := OLe a.run b.run

theorem OLe.rfl' (o : Option α) : OLe o o := fun _ h => h
theorem BLe.rfl' (a : Br α) : BLe a a := fun _ h => h
theorem BLe.cond {c : Bool} {a b a' b' : Br α} (h : BLe a a') (k : BLe b b') : BLe (.cond c a b) (.cond c a' b') := by
  cases c
  · exact k
  · exact h
theorem BLe.opt {β : Type} {o o' : Option β} {k k' : β → Br α} (h : OLe o o') (hk : ∀ v, BLe (k v) (k' v)) : BLe (.opt o k) (.opt o' k') := by
  intro y hy
  cases e : o with
  | none => rw [e] at hy; simp [Br.run] at hy
  | some v =>
    rw [e] at hy
    rw [h v e]
    exact hk v y hy
theorem BLe.sum {β γ : Type} {z : β ⊕ γ} {k k' : β → Br α} {l l' : γ → Br α} (hk : ∀ v, BLe (k v) (k' v)) (hl : ∀ v, BLe (l v) (l' v)) : BLe (.sum z k l) (.sum z k' l') := by
  cases z with
  | inl v => exact hk v
  | inr v => exact hl v
theorem iterN_le {X Z : Type} {f g : X → Option (X ⊕ Z)} (h : ∀ x, OLe (f x) (g x)) : ∀ (k : Nat) (x : X), OLe (iterN f k x) (iterO g x)
  | 0, _ => fun _ hv => by cases hv
  | k + 1, x => fun v hv => by
    simp only [iterN] at hv
    cases e : f x with
    | none => rw [e] at hv; cases hv
    | some r =>
      rw [e] at hv
      cases r with
      | inl x' => rw [iterO_inl (h x _ e)]; exact iterN_le h k x' v hv
      | inr z => obtain rfl := Option.some.inj hv; exact iterO_inr (h x _ e)
end Go.PI

namespace Go.PI
open Go.RowKit
variable {P : Program}

/-- A link. -/
abbrev node (τ : Ty) : Pat := .obj (.two (.ty false τ) (.two (.ty false (.chain τ)) (.ty false (.int .i64))))

theorem cellsAt_block {w : World} {b : Nat} {cur : Array Value} {e : Nat} (h : w.heap[b]? = some (.cells cur e (0, 0))) : CellsAt w ⟨b, 0, none⟩ cur.toList := by
  refine ⟨rfl, fun j u hj => ?_⟩
  show w.cell? ⟨b, 0 + j, none⟩ = some u
  unfold World.cell?
  rw [h, Nat.zero_add]
  simpa using hj

theorem OC.chain {f : Nat} {ins : List (Bool × Pat)} {τ : Ty} {F : PArgs ins → Option (POuts [node τ] × PBack ins)} (h : OC P f ins [node τ] F) {G : PArgs ins → Option (POuts [Pat.ty false (.chain τ)] × PBack ins)}
    (hG : ∀ xs y, G xs = some y → ∃ x l, F xs = some ((x, l, ((l.length + 1 : Nat) : Int)), y.2) ∧ y.1 = x :: l ∧ l.length < 9223372036854775807) : OC P f ins [.ty false (.chain τ)] G := by
  refine ⟨h.fn, fun w J hJ hlt xs vs B hx hnd hB y hy => ?_⟩
  obtain ⟨x, l, hF, hy1, hl⟩ := hG xs y hy
  refine (h.ok w J hJ hlt xs vs B hx hnd hB _ hF).mono ?_
  rintro e w' ⟨v, J', B1, B2, rfl, r1, r2, r3, r4, r5, r6, r7, r8, r9, r10, r11⟩
  obtain ⟨b, cur, ee, B', hv, hB1, hh, _, c1, c2, Bx, By, e1, e2, ⟨eb, k1⟩, c3, c4, Bz, Bw, e3, e4, ⟨eb2, k2⟩, eb3, k3⟩ : PV (fun _ => J') w' (node τ) (x, l, ((l.length + 1 : Nat) : Int)) v B1 := r1
  subst eb eb2 eb3 e4 e2 hB1
  obtain rfl : v = .pointer (some ⟨b, 0, none⟩) := by simpa using hv
  have hmono : ∀ c, J' c → (J' c ∨ c = b) := fun c hc => .inl hc
  have st : Stays J' w' w' := fun _ _ => rfl
  have hbw : b < w'.heap.size := (Array.getElem?_eq_some_iff.1 hh).1
  obtain ⟨k3a, _⟩ := k3
  obtain ⟨v0, e5, kc⟩ : K (fun c => J' c ∨ c = b) w' (.chain τ) l c3 := K.mono hmono st k2
  subst k3a e5
  have e6 : cur.toList = c1 ++ [v0, .int .i64 ((l.length + 1 : Nat) : Int)] := by rw [e1, e3]; rfl
  have hch : ChainK (fun c => J' c ∨ c = b) w' (K (fun c => J' c ∨ c = b) w' τ) τ.sz (x :: l) (.pointer (some ⟨b, 0, none⟩)) :=
    ⟨⟨b, 0, none⟩, c1, v0, rfl, .inr rfl, k1.length, K.mono hmono st k1, e6 ▸ cellsAt_block hh, hl, kc⟩
  have hb0 := r4 b (by simp)
  refine ⟨_, fun c => J' c ∨ c = b, [], B2, rfl, ⟨rfl, ?_⟩, PBK.mono (fun _ c hc => .inl hc) r2, ?_, ?_, fun c hc => .inl (r5 c hc), ?_, r7, r8, r9, r10, r11⟩
  · show VK _ w' (.chain τ) y.1 _
    rw [hy1]
    exact ⟨fun e => (by cases e), fun _ => ⟨_, rfl, hch⟩⟩
  · rw [List.nil_append]
    exact (List.nodup_append.1 r3).2.1
  · intro c hc
    rw [List.nil_append] at hc
    have h1 := r4 c (List.mem_append_right _ hc)
    refine ⟨h1.1, ?_⟩
    rintro (h2 | rfl)
    · exact h1.2 h2
    · exact (List.nodup_append.1 r3).2.2 c (by simp) c hc rfl
  · rintro c (hc | rfl)
    · exact r6 c hc
    · refine ⟨?_, hbw⟩
      rcases hb0.1 with h1 | h1
      · exact .inr (.inl h1)
      · exact .inr (.inr h1)
end Go.PI
