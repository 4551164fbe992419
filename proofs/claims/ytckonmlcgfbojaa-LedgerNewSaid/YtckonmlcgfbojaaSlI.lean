/- Slices of numbers in memory. -/
import Derived.Test.YtckonmlcgfbojaaLib2
namespace Go.Proofs.Ytckonmlcgfbojaa
open Go.RowKit

def cellsI (ns : List Int) : List Value := ns.map (Value.int .i64)
/-- v reads as the list of numbers ns. -/
def SlI (w : World) (v : Value) (ns : List Int) : Prop := Sl w 1 v ns.length (cellsI ns)

theorem SlI.cell {w wr : World} {ns : List Int} {ao : Option Addr} {cap B : Nat} (h : SlI w (.slice ao ns.length cap) ns) (hb : Below B w wr) (hB : w.heap.size ≤ B) (k : Nat) (hk : k < ns.length) :
    ∃ b off, ao = some ⟨b, off, none⟩ ∧ b < w.heap.size ∧ wr.cell? ⟨b, off + k, none⟩ = some (.int .i64 ns[k]) := by
  obtain ⟨b, off, h1, h2, h3⟩ := Sl.at h (by simp [cellsI]; omega)
  refine ⟨b, off, h1, h2, ?_⟩
  rw [hb.cell (p := ⟨b, off + k, none⟩) (Nat.lt_of_lt_of_le h2 hB)]
  exact h3 k _ (by simp [cellsI, hk])
theorem SlI.keep {w w' : World} {v : Value} {l : List Int} {B : Nat} (h : SlI w v l) (hb : Below B w w') (hB : w.heap.size ≤ B) : SlI w' v l := Sl.keep h hb hB

def I64 (ns : List Int) : Prop := ∀ a ∈ ns, -9223372036854775808 ≤ a ∧ a ≤ 9223372036854775807

theorem tmod_wrap (a n : Int) (hn : 0 < n) (h : a < 0) : (if a.tmod n < 0 then a.tmod n + n else a.tmod n) = a % n := by
  have h1 := Int.tmod_eq_emod (a := a) (b := n)
  have h2 := Int.emod_nonneg a (show n ≠ 0 by omega)
  have h3 := Int.emod_lt_of_pos a hn
  by_cases hd : n ∣ a
  · have h4 : a % n = 0 := Int.emod_eq_zero_of_dvd hd
    simp [hd] at h1
    rw [h1, h4]; simp
  · have h5 : ¬ 0 ≤ a := by omega
    simp [hd, h5] at h1
    have h6 : (n.natAbs : Int) = n := by omega
    have h7 : a % n ≠ 0 := fun e => hd (Int.dvd_of_emod_eq_zero e)
    rw [h1, h6]
    split <;> omega


end Go.Proofs.Ytckonmlcgfbojaa
