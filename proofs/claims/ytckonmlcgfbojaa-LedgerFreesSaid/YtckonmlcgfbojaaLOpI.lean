/- How slices of numbers are opened. -/
import Derived.Test.YtckonmlcgfbojaaLOpen
namespace Go.Proofs.Ytckonmlcgfbojaa
open Go.ChangeShapes Go.WideShapes Go.ChangeAt Go.RowKit

theorem slI_none (w : World) : SlI w (.slice none 0 0) [] ∧ I64 [] := ⟨Sl.nil w 1, fun a h => by simp at h⟩

theorem slI_row {w : World} {x : Addr} {len cap : Nat} {zs : List Int} (hl : len ≤ cap) (hm : cap ≤ maxLen) (hz : zs.length = cap)
    (hc : ∀ i, i < zs.length → w.cell? (x.add i) = some (.int .i64 (zs.getD i 0))) (hw : ∀ n ∈ zs, (Lit.int .i64 n).wf = true) :
    SlI w (.slice (some x) len cap) (zs.take len) ∧ I64 (zs.take len) := by
  have hlen : (zs.take len).length = len := by rw [List.length_take]; omega
  refine ⟨?_, fun a ha => i64_of_wf (hw a (List.mem_of_mem_take ha))⟩
  unfold SlI
  rw [hlen]
  refine ⟨by simp only [cellsI, List.length_map, hlen, Nat.mul_one], some x, cap, rfl, hl, hm, (fun h => by cases h), fun j u hu => ?_⟩
  simp only [cellsI, List.getElem?_map, Option.map_eq_some_iff] at hu
  obtain ⟨n, hn, rfl⟩ := hu
  have hj : j < len := by
    have := (List.getElem?_eq_some_iff.1 hn).1
    omega
  have h0 := hc 0 (by omega)
  have hj' := hc j (by omega)
  have hspot : x.spot = none := by
    cases hs : x.spot with
    | none => rfl
    | some q =>
      exfalso
      simp only [Addr.add, if_true, World.cell?] at h0
      split at h0
      · simp [hs] at h0
      · cases h0
  obtain ⟨b, off, spot⟩ := x
  simp only at hspot; subst hspot
  rw [Addr.add_lit] at hj'
  refine ⟨b, off, rfl, World.block_lt_of_cell? w _ hj', ?_⟩
  rw [hj']
  have hn2 : zs[j]? = some n := by rw [List.getElem?_take, if_pos hj] at hn; exact hn
  rw [List.getD, hn2]
  rfl

end Go.Proofs.Ytckonmlcgfbojaa
