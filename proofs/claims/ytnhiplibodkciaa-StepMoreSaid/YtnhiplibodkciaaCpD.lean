/- List's contract, of a chain of pairs. -/
import Derived.Test.YtnhiplibodkciaaCpB
import Derived.Test.YtnhiplibodkciaaChD
namespace Go.Proofs.Ytnhiplibodkciaa
open Go.RowKit Go.PI Go

theorem two_of {cs : List Value} (h : cs.length = 2) (ok : ∀ u ∈ cs, u.oneCell' = true) : ∃ c : C2, c.cells = cs := by
  match cs, h with
  | [a, b], _ => exact ⟨⟨a, b, ok⟩, rfl⟩

theorem chain_c2 {I : Nat → Prop} {w : World} {n₀ : Nat} (hI : ∀ b, I b → b < n₀) : ∀ (l : List pairT.T) (v : Value), ChainK I w (K I w pairT) pairT.sz l v →
    ∃ (p : Option Addr) (xs : List C2), v = .pointer p ∧ IsC2 n₀ w p xs ∧ xs.length = l.length ∧ ∀ (k : Nat) (x : pairT.T), l[k]? = some x → ∃ c : C2, xs[k]? = some c ∧ K I w pairT x c.cells
  | [], v, h => ⟨none, [], h, rfl, rfl, fun k x h => by simp at h⟩
  | x :: l, v, h => by
    obtain ⟨ad, cx, r, rfl, hi, hz, hk, hc, hlt, hr⟩ := h
    obtain ⟨p, xs, rfl, h1, h2, h3⟩ := chain_c2 hI l r hr
    obtain ⟨c, rfl⟩ := two_of hz hk.one
    obtain ⟨b, o, sp⟩ := ad
    obtain rfl : sp = none := hc.1
    have hcell := hc.2
    refine ⟨_, c :: xs, rfl, ⟨b, o, p, rfl, hI b hi, ⟨hcell 0 _ rfl, hcell 1 _ rfl⟩, hcell 2 _ rfl, ?_, by omega, h1⟩, by simp [h2], ?_⟩
    · rw [h2]
      exact hcell 3 _ rfl
    · intro k y hk2
      cases k with
      | zero =>
        obtain rfl : x = y := by simpa using hk2
        exact ⟨c, rfl, hk⟩
      | succ k => exact h3 k y hk2

abbrev listP_ins : List (Bool × Pat) := [(false, .ty false (.chain pairT))]
abbrev listP_outs : List Pat := [.row 153 pairT]
noncomputable def listP : List pairT.T × Unit → Option (List pairT.T × Unit) := fun x => bif decide (x.1.length * 16 ≤ 140737488355328) then some (x.1.reverse, ()) else none

theorem listP_oc : OC Try.prog 148 listP_ins listP_outs listP := by
  refine ⟨⟨_, Try.func148, by kernel_rfl, by kernel_rfl⟩, ?_⟩
  rintro w J hJ hlt ⟨l, ⟨⟩⟩ vs B hx hnd hB y hy
  obtain ⟨v, k, B1, B2, rfl, rfl, ⟨rfl, hv⟩, rfl, rfl⟩ := hx
  unfold listP at hy
  by_cases hb : l.length * 16 ≤ 140737488355328
  · simp only [hb, decide_true, cond_true, Option.some.injEq] at hy
    subst hy
    have hI : ∀ b, J false b → b < w.heap.size := fun b h => hlt b (hJ b h)
    obtain ⟨v', e, hch⟩ : K (J false) w (.chain pairT) l [v] := hv.2 rfl
    obtain rfl : v = v' := by simpa using e
    obtain ⟨p, xs, rfl, h1, h2, h3⟩ := chain_c2 hI l v hch
    have hc := callsIn_wide.1 (listP_in Fence.wide 4 trivial trivial trivial trivial rfl (by omega) p xs w h1 (by rw [h2]; exact hb))
    refine hc.mono ?_
    rintro e W ⟨rfl, hbel, cur, hblk, hsz, hcur⟩
    refine ⟨_, fun b => J false b ∨ (w.heap.size < b ∧ b < W.heap.size), [w.heap.size], [], rfl, ?_, rfl, by simp, ?_, fun b h => .inl h, ?_, hbel.os, hbel.tape, hbel.output, hbel.size, fun b hb _ => hbel.block b hb⟩
    · show PV (fun _ b => J false b ∨ (w.heap.size < b ∧ b < W.heap.size)) W (.row 153 pairT) l.reverse (.slice (some ⟨w.heap.size, 0, none⟩) xs.length xs.length) [w.heap.size]
      show PK (fun _ b => J false b ∨ (w.heap.size < b ∧ b < W.heap.size)) W (.row 153 pairT) l.reverse [.slice (some ⟨w.heap.size, 0, none⟩) xs.length xs.length] [w.heap.size]
      refine ⟨some ⟨w.heap.size, 0, none⟩, xs.length, by simp [h2], by simp [h2], by rw [h2]; show l.length ≤ 9223372036854775807; omega, .inr ⟨w.heap.size, cur, rfl, rfl, hblk, ?_, ?_⟩⟩
      · exact hsz
      · have hall : cur.toList.take (l.reverse.length * pairT.sz) = cur.toList := by
          refine List.take_of_length_le ?_
          rw [Array.length_toList, hsz, List.length_reverse, h2]
          exact Nat.le_refl _
        rw [hall]
        refine ⟨by rw [Array.length_toList, hsz, List.length_reverse, h2]; rfl, fun i x hx => ?_⟩
        have hi : i < l.length := by have := (List.getElem?_eq_some_iff.1 hx).1; simpa using this
        rw [List.getElem?_reverse hi] at hx
        obtain ⟨c, hc1, hc2⟩ := h3 _ x hx
        have e6 : piece pairT.sz cur.toList i = c.cells := by
          show List.take 2 (List.drop (i * 2) cur.toList) = c.cells
          refine List.ext_getElem? fun j => ?_
          by_cases hj : j < 2
          · have h4 := hcur _ c hc1 j (c.cells[j]'hj) (List.getElem?_eq_getElem hj)
            rw [List.getElem?_take_of_lt hj, List.getElem?_drop]
            have e7 : (xs.length - 1 - (l.length - 1 - i)) * 2 + j = i * 2 + j := by
              have : xs.length - 1 - (l.length - 1 - i) = i := by omega
              rw [this]
            rw [e7] at h4
            rw [Array.getElem?_toList, h4]
            exact (List.getElem?_eq_getElem (l := c.cells) hj).symm
          · rw [List.getElem?_eq_none (by rw [List.length_take]; omega), List.getElem?_eq_none (by show 2 ≤ j; omega)]
        rw [e6]
        refine K.mono (I := J false) (fun b h => .inl h) (fun b h => ?_) hc2
        exact hbel.block b (hI b h)
    · intro b hb
      simp only [List.append_nil, List.mem_singleton] at hb
      subst hb
      refine ⟨.inr (Nat.le_refl _), ?_⟩
      rintro (h | h)
      · exact absurd (hI _ h) (by omega)
      · omega
    · rintro b (h | h)
      · exact ⟨.inl h, Nat.lt_of_lt_of_le (hI b h) hbel.size⟩
      · exact ⟨.inr (.inr (by omega)), h.2⟩
  · simp only [hb, decide_false, cond_false] at hy
    cases hy
end Go.Proofs.Ytnhiplibodkciaa
