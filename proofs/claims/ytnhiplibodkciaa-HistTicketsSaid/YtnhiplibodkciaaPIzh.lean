/- Independent effects may change places. -/
import Derived.Test.YtnhiplibodkciaaPIzg
namespace Go.PI
open Go.RowKit

variable {c : Ctx} {s st : St}

theorem C.kill_comm (n m : Nat) (x : C) : (x.kill n).kill m = (x.kill m).kill n := by
  have hb : ∀ k, C.has k .bad = false := fun _ => rfl
  unfold C.kill
  cases h1 : x.has n <;> cases h2 : x.has m <;> simp only [h1, h2, hb, cond_true, cond_false]
theorem D.kill_comm (n m : Nat) (d : D) : (d.kill n).kill m = (d.kill m).kill n := by
  cases d <;> simp [D.kill, C.kill_comm n m]
theorem MB.kill_comm (n m : Nat) (b : MB) : (b.kill n).kill m = (b.kill m).kill n := by
  cases b <;> simp [MB.kill, C.kill_comm n m]

def killD (l : List Nat) (d : D) : D := l.foldl (fun d n => d.kill n) d
def killB (l : List Nat) (b : MB) : MB := l.foldl (fun b n => b.kill n) b
def killO (l : List Nat) (n : Nat) (o : Option MB) : Option MB := if n ∈ l then none else o.map (killB l)

theorem killD_cons (n : Nat) (l : List Nat) (d : D) : killD (n :: l) d = killD l (d.kill n) := rfl
theorem killD_kill (n : Nat) : ∀ (l : List Nat) (d : D), killD l (d.kill n) = (killD l d).kill n
  | [], _ => rfl
  | m :: l, d => by rw [killD_cons, killD_cons, D.kill_comm n m, killD_kill n l]
theorem killD_comm : ∀ (l r : List Nat) (d : D), killD l (killD r d) = killD r (killD l d)
  | [], _, _ => rfl
  | n :: l, r, d => by rw [killD_cons, killD_cons, ← killD_kill n r, killD_comm l r]
theorem killB_kill (n : Nat) : ∀ (l : List Nat) (b : MB), killB l (b.kill n) = (killB l b).kill n
  | [], _ => rfl
  | m :: l, b => by
    show killB l ((b.kill n).kill m) = (killB l (b.kill m)).kill n
    rw [MB.kill_comm n m, killB_kill n l]
theorem killB_comm : ∀ (l r : List Nat) (b : MB), killB l (killB r b) = killB r (killB l b)
  | [], _, _ => rfl
  | n :: l, r, b => by
    show killB l ((killB r b).kill n) = killB r (killB l (b.kill n))
    rw [← killB_kill n r, killB_comm l r]
theorem killD_apart : ∀ (l : List Nat) {d : D}, (∀ n ∈ l, n ∉ d.nms) → killD l d = d
  | [], _, _ => rfl
  | n :: l, d, h => by rw [killD_cons, D.kill_apart (h n List.mem_cons_self)]; exact killD_apart l fun k hk => h k (List.mem_cons_of_mem _ hk)
theorem killB_apart : ∀ (l : List Nat) {b : MB}, (∀ n ∈ l, n ∉ b.nms) → killB l b = b
  | [], _, _ => rfl
  | n :: l, b, h => by
    show killB l (b.kill n) = b
    rw [MB.kill_apart (h n List.mem_cons_self)]; exact killB_apart l fun k hk => h k (List.mem_cons_of_mem _ hk)

theorem killAll_t : ∀ (l : List Nat) (s : St) (r : Nat), (killAll l s).t.getD r (.c .bad) = killD l (s.t.getD r (.c .bad))
  | [], _, _ => rfl
  | n :: l, s, r => by
    show (killAll l (s.kill n)).t.getD r (.c .bad) = _
    rw [killAll_t l, kill_t]; rfl
theorem killAll_m : ∀ (l : List Nat) (s : St) (n : Nat), look n (killAll l s).m = killO l n (look n s.m)
  | [], s, n => by
    show look n s.m = killO [] n (look n s.m)
    unfold killO
    rw [if_neg (by simp)]
    cases look n s.m <;> rfl
  | k :: l, s, n => by
    show look n (killAll l (s.kill k)).m = _
    rw [killAll_m l, look_kill]
    unfold killO
    by_cases h1 : n ∈ l
    · rw [if_pos h1, if_pos (List.mem_cons_of_mem _ h1)]
    · rw [if_neg h1]
      by_cases h2 : n = k
      · rw [if_pos h2, if_pos (by rw [h2]; exact List.mem_cons_self)]; rfl
      · rw [if_neg h2, if_neg (by simp [h1, h2]), Option.map_map]
        cases look n s.m <;> rfl
theorem killAll_k : ∀ (l : List Nat) (s : St) (n : Nat), n ∈ (killAll l s).k ↔ n ∈ l ∨ n ∈ s.k
  | [], s, n => by simp [killAll]
  | k :: l, s, n => by
    show n ∈ (killAll l (s.kill k)).k ↔ _
    rw [killAll_k l]
    show n ∈ l ∨ n ∈ k :: s.k ↔ _
    simp only [List.mem_cons]
    constructor
    · rintro (h | h | h)
      · exact .inl (.inr h)
      · exact .inl (.inl h)
      · exact .inr h
    · rintro ((h | h) | h)
      · exact .inr (.inl h)
      · exact .inl h
      · exact .inr (.inr h)

end Go.PI
