/- What a step leaves alone. -/
import Derived.Test.YtnhiplibodkciaaPIze
namespace Go.PI
open Go.RowKit

variable {c : Ctx} {s st : St}

theorem C.kill_good {n : Nat} {x : C} (h : (x.kill n).good = true) : x.kill n = x := by
  unfold C.kill at *
  cases hn : x.has n with
  | true => rw [hn] at h; cases h
  | false => rfl
theorem C.kill_apart {n : Nat} {x : C} (h : n ∉ x.nm) : x.kill n = x := by
  unfold C.kill
  cases hn : x.has n with
  | true => exact absurd (has_nm.1 hn) h
  | false => rfl
theorem map_good {n : Nat} : ∀ {l : List C}, (l.map (C.kill n)).all C.good = true → l.map (C.kill n) = l
  | [], _ => rfl
  | x :: l, h => by
    simp only [List.map_cons, List.all_cons, Bool.and_eq_true] at h ⊢
    rw [C.kill_good h.1, map_good h.2]
theorem map_apart {n : Nat} : ∀ {l : List C}, n ∉ l.flatMap C.nm → l.map (C.kill n) = l
  | [], _ => rfl
  | x :: l, h => by
    simp only [List.flatMap_cons, List.mem_append, not_or] at h
    rw [List.map_cons, C.kill_apart h.1, map_apart h.2]
theorem D.kill_good {n : Nat} {d : D} (h : (d.kill n).good = true) : d.kill n = d := by
  cases d with
  | c x => simp only [D.kill, D.good] at *; rw [C.kill_good h]
  | agg l => simp only [D.kill, D.good] at *; rw [map_good h]
  | tup l => simp only [D.kill, D.good] at *; rw [map_good h]
  | fn f l => simp only [D.kill, D.good] at *; rw [map_good h]
theorem D.kill_apart {n : Nat} {d : D} (h : n ∉ d.nms) : d.kill n = d := by
  cases d with
  | c x => simp only [D.kill]; rw [C.kill_apart h]
  | agg l => simp only [D.kill]; rw [map_apart h]
  | tup l => simp only [D.kill]; rw [map_apart h]
  | fn f l => simp only [D.kill]; rw [map_apart h]
theorem MB.kill_good {n : Nat} {b : MB} (h : (b.kill n).good = true) : b.kill n = b := by
  cases b with
  | dv l => simp only [MB.kill, MB.good] at *; rw [map_good h]
  | _ => rfl
theorem MB.kill_apart {n : Nat} {b : MB} (h : n ∉ b.nms) : b.kill n = b := by
  cases b with
  | dv l => simp only [MB.kill]; rw [map_apart h]
  | _ => rfl

theorem kill_t (s : St) (n i : Nat) : (s.kill n).t.getD i (.c .bad) = (s.t.getD i (.c .bad)).kill n := by
  show (s.t.map (D.kill n)).getD i (.c .bad) = _
  simp only [List.getD, List.getElem?_map]
  cases s.t[i]? with
  | none => rfl
  | some d => rfl

theorem killAll_len : ∀ (l : List Nat) (s : St), (killAll l s).t.length = s.t.length
  | [], _ => rfl
  | n :: r, s => by
    show (killAll r (s.kill n)).t.length = _
    rw [killAll_len r]
    show (s.t.map _).length = _
    rw [List.length_map]

theorem killAll_good : ∀ (l : List Nat) (s : St) {i : Nat}, ((killAll l s).t.getD i (.c .bad)).good = true → (killAll l s).t.getD i (.c .bad) = s.t.getD i (.c .bad)
  | [], _, _, _ => rfl
  | n :: r, s, i, h => by
    have e := killAll_good r (s.kill n) h
    have e0 : (killAll (n :: r) s).t.getD i (.c .bad) = (killAll r (s.kill n)).t.getD i (.c .bad) := rfl
    rw [e0, e, kill_t]
    rw [e0, e, kill_t] at h
    exact D.kill_good h
theorem killAll_apart : ∀ (l : List Nat) (s : St) {i : Nat}, (∀ n ∈ l, n ∉ (s.t.getD i (.c .bad)).nms) → (killAll l s).t.getD i (.c .bad) = s.t.getD i (.c .bad)
  | [], _, _, _ => rfl
  | n :: r, s, i, h => by
    have e1 : (s.kill n).t.getD i (.c .bad) = s.t.getD i (.c .bad) := by rw [kill_t, D.kill_apart (h n List.mem_cons_self)]
    have := killAll_apart r (s.kill n) (i := i) (by rw [e1]; exact fun k hk => h k (List.mem_cons_of_mem _ hk))
    exact this.trans e1

theorem killAll_look_good : ∀ (l : List Nat) (s : St) {n : Nat} {b : MB}, look n (killAll l s).m = some b → b.good = true → look n s.m = some b
  | [], _, _, _, h, _ => h
  | k :: r, s, n, b, h, hb => by
    have := killAll_look_good r (s.kill k) h hb
    rw [look_kill] at this
    split at this
    · cases this
    · obtain ⟨b0, h0, e⟩ := Option.map_eq_some_iff.1 this
      rw [← e] at hb
      rw [h0, ← e, MB.kill_good hb]
theorem killAll_look_apart : ∀ (l : List Nat) (s : St) {n : Nat} {b : MB}, look n s.m = some b → n ∉ l → (∀ k ∈ l, k ∉ b.nms) → look n (killAll l s).m = some b
  | [], _, _, _, h, _, _ => h
  | k :: r, s, n, b, h, hn, hb => by
    refine killAll_look_apart r (s.kill k) ?_ (fun hm => hn (List.mem_cons_of_mem _ hm)) (fun j hj => hb j (List.mem_cons_of_mem _ hj))
    rw [look_kill, if_neg (fun e => hn (by rw [e]; exact List.mem_cons_self)), h]
    show some (b.kill k) = _
    rw [MB.kill_apart (hb k List.mem_cons_self)]

end Go.PI
