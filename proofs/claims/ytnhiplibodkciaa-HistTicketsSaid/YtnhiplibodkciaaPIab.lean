/- Slices of numbers that are handed in, as typed data. -/
import Derived.Test.YtnhiplibodkciaaPIy
namespace Go.PI
open Go.ChangeShapes Go.WideShapes Go.ChangeAt Go.RowKit

theorem add_plain' (b o i : Nat) : (⟨b, o, none⟩ : Addr).add i = ⟨b, o + i, none⟩ := by simp [Addr.add]

theorem cell_lt {w : World} {a : Addr} {v : Value} (h : w.cell? a = some v) : a.block < w.heap.size := by
  unfold World.cell? at h
  split at h
  · rename_i hb
    obtain ⟨h1, _⟩ := Array.getElem?_eq_some_iff.1 hb
    exact h1
  · cases h

/-- A slice of numbers that came in. -/
theorem vk_ints {H : Type} {enc : TypeId × Value → H} {P : Program} {W : World} {r : Reach} {b0 : Nat} {t e : TypeId} {k : IntKind} {v : Value} {d : DataW H} {p : List MemPlace} (ht : P.underlying t = some (.slice e)) (he : P.underlying e = some (.int k)) (hc : P.cellsOf e = 1)
    (hval : Value.okWide P W r b0 t v) (h : DataW.Trod enc P W 0 (fun _ => true) true t v d p) : ∃ xs : List Int, VK (fun b => b < W.heap.size) W (.sl (.int k)) xs v := by
  obtain ⟨a0, len, cap, rfl⟩ := okWide_slice ht hval
  obtain ⟨fuel, hf⟩ := h
  rcases open_ints ht he hc hf with ⟨hcs, hx⟩ | ⟨a, len', cap', zs, hcs, _, hl, hm, hz, hx, hcell, hwz⟩
  · simp [Value.cells] at hcs
    obtain ⟨rfl, rfl, rfl⟩ := hcs
    exact ⟨[], fun h => (by cases h), fun _ => ⟨none, 0, rfl, Nat.le_refl _, Nat.zero_le _, fun h => absurd rfl h⟩⟩
  · simp [Value.cells] at hcs
    obtain ⟨rfl, rfl, rfl⟩ := hcs
    simp only [if_true] at hz
    have hlen : (zs.take len).length = len := by rw [List.length_take]; omega
    refine ⟨zs.take len, fun h => (by cases h), fun _ => ⟨some a, cap, by rw [hlen], by rw [hlen]; exact hl, hm, fun hne => ?_⟩⟩
    obtain ⟨b, off, spot⟩ := a
    have hpos : 0 < zs.length := by
      rcases Nat.eq_zero_or_pos zs.length with h0 | h0
      · exact absurd (by rw [List.length_eq_zero_iff.1 h0, List.take_nil]) hne
      · exact h0
    have hspot : spot = none := by simpa [Addr.add] using World.cell?_spot (hcell 0 hpos)
    subst hspot
    have hlt : b < W.heap.size := by
      have := cell_lt (hcell 0 hpos)
      rwa [add_plain'] at this
    refine ⟨⟨b, off, none⟩, (zs.take len).map (.int k), rfl, hlt, ⟨rfl, fun j u hu => ?_⟩, ?_, fun i x hx => ?_⟩
    · rw [List.getElem?_map] at hu
      obtain ⟨z, hz1, rfl⟩ := Option.map_eq_some_iff.1 hu
      have hj := (List.getElem?_eq_some_iff.1 hz1).1
      rw [hlen] at hj
      rw [List.getElem?_take_of_lt hj] at hz1
      have := hcell j (by omega)
      rw [add_plain'] at this
      rw [this, List.getD, hz1]
      rfl
    · simp [Ty.sz]
    · have hi := (List.getElem?_eq_some_iff.1 hx).1
      have e : piece 1 ((zs.take len).map (Value.int k)) i = [.int k x] := by
        unfold piece
        rw [Nat.mul_one, List.drop_eq_getElem_cons (by simpa using hi)]
        simp only [List.take_succ_cons, List.take_zero, List.getElem_map]
        rw [List.getElem?_eq_getElem hi] at hx
        rw [Option.some.inj hx]
      have hw := hwz x (List.mem_of_mem_take (List.mem_of_getElem? hx))
      exact ⟨e, by simpa [Lit.wf, InK] using hw⟩

end Go.PI
