/- List's contract, of a chain of bound events. -/
import Derived.Test.YtnhiplibodkciaaChB
import Derived.Test.YtnhiplibodkciaaR6w
namespace Go.Proofs.Ytnhiplibodkciaa
open Go.RowKit Go.PI Go

theorem six_of {cs : List Value} (h : cs.length = 6) (ok : ∀ u ∈ cs, u.oneCell' = true) : ∃ c : C6, c.cells = cs := by
  match cs, h with
  | [a, b, c, d, e, f], _ => exact ⟨⟨a, b, c, d, e, f, ok⟩, rfl⟩

theorem chain_c6 {I : Nat → Prop} {w : World} {n₀ : Nat} (hI : ∀ b, I b → b < n₀) : ∀ (l : List bndT.T) (v : Value), ChainK I w (K I w bndT) bndT.sz l v →
    ∃ (p : Option Addr) (xs : List C6), v = .pointer p ∧ IsC6 n₀ w p xs ∧ xs.length = l.length ∧ ∀ (k : Nat) (x : bndT.T), l[k]? = some x → ∃ c : C6, xs[k]? = some c ∧ K I w bndT x c.cells
  | [], v, h => ⟨none, [], h, rfl, rfl, fun k x h => by simp at h⟩
  | x :: l, v, h => by
    obtain ⟨ad, cx, r, rfl, hi, hz, hk, hc, hlt, hr⟩ := h
    obtain ⟨p, xs, rfl, h1, h2, h3⟩ := chain_c6 hI l r hr
    obtain ⟨c, rfl⟩ := six_of hz hk.one
    obtain ⟨b, o, sp⟩ := ad
    obtain rfl : sp = none := hc.1
    have hcell := hc.2
    refine ⟨_, c :: xs, rfl, ⟨b, o, p, rfl, hI b hi, ⟨hcell 0 _ rfl, hcell 1 _ rfl, hcell 2 _ rfl, hcell 3 _ rfl, hcell 4 _ rfl, hcell 5 _ rfl⟩, hcell 6 _ rfl, ?_, by omega, h1⟩, by simp [h2], ?_⟩
    · rw [h2]
      exact hcell 7 _ rfl
    · intro k y hk2
      cases k with
      | zero =>
        obtain rfl : x = y := by simpa using hk2
        exact ⟨c, rfl, hk⟩
      | succ k => exact h3 k y hk2

abbrev listB_ins : List (Bool × Pat) := [(false, .ty false (.chain bndT))]
abbrev listB_outs : List Pat := [.row 58 bndT]
noncomputable def listB : List bndT.T × Unit → Option (List bndT.T × Unit) := fun x => bif decide (x.1.length * 88 ≤ 140737488355328) then some (x.1.reverse, ()) else none

theorem listB_oc : OC Try.prog 135 listB_ins listB_outs listB := by
  refine ⟨⟨_, Try.func135, by kernel_rfl, by kernel_rfl⟩, ?_⟩
  rintro w J hJ hlt ⟨l, ⟨⟩⟩ vs B hx hnd hB y hy
  obtain ⟨v, k, B1, B2, rfl, rfl, ⟨rfl, hv⟩, rfl, rfl⟩ := hx
  unfold listB at hy
  by_cases hb : l.length * 88 ≤ 140737488355328
  · simp only [hb, decide_true, cond_true, Option.some.injEq] at hy
    subst hy
    have hI : ∀ b, J false b → b < w.heap.size := fun b h => hlt b (hJ b h)
    obtain ⟨v', e, hch⟩ : K (J false) w (.chain bndT) l [v] := hv.2 rfl
    obtain rfl : v = v' := by simpa using e
    obtain ⟨p, xs, rfl, h1, h2, h3⟩ := chain_c6 hI l v hch
    have hc := callsIn_wide.1 (listB_in Fence.wide 4 trivial trivial trivial trivial rfl (by omega) p xs w h1 (by rw [h2]; exact hb))
    refine hc.mono ?_
    rintro e W ⟨rfl, hbel, cur, hblk, hsz, hcur⟩
    refine ⟨_, fun b => J false b ∨ (w.heap.size < b ∧ b < W.heap.size), [w.heap.size], [], rfl, ?_, rfl, by simp, ?_, fun b h => .inl h, ?_, hbel.os, hbel.tape, hbel.output, hbel.size, fun b hb _ => hbel.block b hb⟩
    · show PV (fun _ b => J false b ∨ (w.heap.size < b ∧ b < W.heap.size)) W (.row 58 bndT) l.reverse (.slice (some ⟨w.heap.size, 0, none⟩) xs.length xs.length) [w.heap.size]
      show PK (fun _ b => J false b ∨ (w.heap.size < b ∧ b < W.heap.size)) W (.row 58 bndT) l.reverse [.slice (some ⟨w.heap.size, 0, none⟩) xs.length xs.length] [w.heap.size]
      refine ⟨some ⟨w.heap.size, 0, none⟩, xs.length, by simp [h2], by simp [h2], by rw [h2]; show l.length ≤ 9223372036854775807; omega, .inr ⟨w.heap.size, cur, rfl, rfl, hblk, ?_, ?_⟩⟩
      · exact hsz
      · have hall : cur.toList.take (l.reverse.length * bndT.sz) = cur.toList := by
          refine List.take_of_length_le ?_
          rw [Array.length_toList, hsz, List.length_reverse, h2]
          exact Nat.le_refl _
        rw [hall]
        refine ⟨by rw [Array.length_toList, hsz, List.length_reverse, h2]; rfl, fun i x hx => ?_⟩
        have hi : i < l.length := by have := (List.getElem?_eq_some_iff.1 hx).1; simpa using this
        rw [List.getElem?_reverse hi] at hx
        obtain ⟨c, hc1, hc2⟩ := h3 _ x hx
        have e6 : piece bndT.sz cur.toList i = c.cells := by
          show List.take 6 (List.drop (i * 6) cur.toList) = c.cells
          refine List.ext_getElem? fun j => ?_
          by_cases hj : j < 6
          · have h4 := hcur _ c hc1 j (c.cells[j]'hj) (List.getElem?_eq_getElem hj)
            rw [List.getElem?_take_of_lt hj, List.getElem?_drop]
            have e7 : (xs.length - 1 - (l.length - 1 - i)) * 6 + j = i * 6 + j := by
              have : xs.length - 1 - (l.length - 1 - i) = i := by omega
              rw [this]
            rw [e7] at h4
            rw [Array.getElem?_toList, h4]
            exact (List.getElem?_eq_getElem (l := c.cells) hj).symm
          · rw [List.getElem?_eq_none (by rw [List.length_take]; omega), List.getElem?_eq_none (by show 6 ≤ j; omega)]
        rw [e6]
        refine K.mono (I := J false) (fun b h => .inl h) (fun b h => ?_) hc2
        exact hbel.block b (hI b h)
    · intro b hb
      simp only [List.append_nil, List.mem_singleton] at hb
      subst hb
      refine ⟨.inr (Nat.le_refl _), ?_⟩
      rintro (h | h)
      · exact absurd (hI _ h) (by omega)
      · omega
    · rintro b (h | h)
      · exact ⟨.inl h, Nat.lt_of_lt_of_le (hI b h) hbel.size⟩
      · exact ⟨.inr (.inr (by omega)), h.2⟩
  · simp only [hb, decide_false, cond_false] at hy
    cases hy
end Go.Proofs.Ytnhiplibodkciaa
