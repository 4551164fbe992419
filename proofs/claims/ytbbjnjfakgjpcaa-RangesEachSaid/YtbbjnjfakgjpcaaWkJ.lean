/- The walk of Of. -/
import Derived.Test.YtbbjnjfakgjpcaaWkI
namespace Go.Proofs.Ytbbjnjfakgjpcaa
open Go.RowKit

def cellsI (ns : List Int) : List Value := ns.map (Value.int .i64)
/-- v reads as the list of numbers ns. -/
def SlI (w : World) (v : Value) (ns : List Int) : Prop := Sl w 1 v ns.length (cellsI ns)

theorem SlI.cell {w wr : World} {ns : List Int} {ao : Option Addr} {cap B : Nat} (h : SlI w (.slice ao ns.length cap) ns) (hb : Below B w wr) (hB : w.heap.size ≤ B) (k : Nat) (hk : k < ns.length) :
    ∃ b off, ao = some ⟨b, off, none⟩ ∧ b < w.heap.size ∧ wr.cell? ⟨b, off + k, none⟩ = some (.int .i64 ns[k]) := by
  obtain ⟨b, off, h1, h2, h3⟩ := Sl.at h (by simp [cellsI]; omega)
  refine ⟨b, off, h1, h2, ?_⟩
  rw [hb.cell (p := ⟨b, off + k, none⟩) (Nat.lt_of_lt_of_le h2 hB)]
  exact h3 k _ (by simp [cellsI, hk])

/-- v lies in a block from B on. -/
def Fresh (B : Nat) (v : Value) : Prop := ∀ g, v.ownBlock = some g → B ≤ g

theorem SlR.setCell {w : World} {v : Value} {l : List Rg} {B : Nat} (h : SlR w v l) (hf : Fresh B v) (p : Addr) (hp : p.block < B) (u : Value) : SlR (w.setCell p u) v l := by
  obtain ⟨h0, ao, cap, rfl, h2, h3, h4, h5⟩ := h
  refine ⟨h0, ao, cap, rfl, h2, h3, h4, fun j x hx => ?_⟩
  obtain ⟨b, off, rfl, g2, g3⟩ := h5 j x hx
  have hB := hf b rfl
  refine ⟨b, off, rfl, by simpa [World.setCell] using g2, ?_⟩
  rw [World.cell?_of_block (w := w) (a := ⟨b, off + j, none⟩) (Below.heap_setCell w p u b (by omega))]
  exact g3

def I64 (ns : List Int) : Prop := ∀ a ∈ ns, -9223372036854775808 ≤ a ∧ a ≤ 9223372036854775807

def ofStep (l : List Rg) (a : Int) : List Rg := addR l (a % 60, a % 60 + 1 + (a.tdiv 60) % 6)
def ofS (ns : List Int) : List Rg := (ns.take 20).foldl ofStep []

theorem ofS_ok (a : Int) : Ok (a % 60, a % 60 + 1 + (a.tdiv 60) % 6) := by unfold Ok; simp only; omega

theorem fold_row (ns : List Int) (l : List Rg) (h : RowP l) : RowP (ns.foldl ofStep l) := by
  induction ns generalizing l with
  | nil => exact h
  | cons a ns ih => exact ih _ (by unfold ofStep; rw [addR_eq h (ofS_ok a).2.1]; exact rowP_addT h (ofS_ok a))
theorem length_addT (l : List Rg) (r : Rg) : (addT l r).length ≤ l.length + 1 := by
  have hm : ∀ (l : List Rg) (r : Rg), (mergeS l r).length ≤ l.length + 1 := by
    intro l
    induction l with
    | nil => intro r; simp [mergeS]
    | cons x t ih =>
      intro r
      unfold mergeS
      split
      · have := ih (min r.1 x.1, max r.2 x.2); simp; omega
      · simp
  induction l with
  | nil => simp [addT]
  | cons x t ih =>
    unfold addT
    split
    · simp; omega
    · exact hm _ _
theorem fold_length (ns : List Int) (l : List Rg) (h : RowP l) : (ns.foldl ofStep l).length ≤ l.length + ns.length := by
  induction ns generalizing l with
  | nil => simp
  | cons a ns ih =>
    have h1 : ofStep l a = addT l (a % 60, a % 60 + 1 + (a.tdiv 60) % 6) := by unfold ofStep; exact addR_eq h (ofS_ok a).2.1
    have h2 := ih (ofStep l a) (by rw [h1]; exact rowP_addT h (ofS_ok a))
    rw [List.foldl_cons, List.length_cons]
    have h3 := length_addT l (a % 60, a % 60 + 1 + (a.tdiv 60) % 6)
    rw [← h1] at h3
    omega
theorem rowP_ofS (ns : List Int) : RowP (ofS ns) := fold_row _ _ rowP_nil
theorem length_ofS (ns : List Int) : (ofS ns).length ≤ 20 := by
  have h := fold_length (ns.take 20) [] rowP_nil
  have h2 := List.length_take_le 20 ns
  unfold ofS; simp at h; omega

set_option maxHeartbeats 2000000 in
theorem of_fresh (v : Value) (ns : List Int) (w : World) (h : SlI w v ns) (hI : I64 ns) :
    Calls Try.prog 9 #[v] w fun e w' => ∃ v', e = .returned v' ∧ SlR w' v' (ofS ns) ∧ Fresh w.heap.size v' ∧ Below w.heap.size w w' := by
  obtain ⟨ao, cap, rfl, hcap, hm⟩ := Sl.shape h
  go_enter Try.func9, Try.ntmps9
  go_wp2
  go_loopw [3, 4] (fun lv ix wr => ∃ k : Nat, k ≤ ns.length ∧ k ≤ 20 ∧ ix = .int .i64 k ∧ SlR wr lv ((ns.take k).foldl ofStep []) ∧ Fresh w.heap.size lv ∧ Below w.heap.size w wr) (fun _ ix _ => 20 - (intOf ix).toNat)
  case atStart => exact ⟨0, Nat.zero_le _, Nat.zero_le _, rfl, SlR.nil w, fun g hg => by simp [Value.ownBlock] at hg, Below.refl _ _⟩
  case round =>
    obtain ⟨k, hk, hk20, rfl, hs, hf, hb⟩ := hrel
    have hz := hb.size
    have hrow := fold_row (ns.take k) [] rowP_nil
    have hlen := fold_length (ns.take k) [] rowP_nil
    have hlt := List.length_take_le k ns
    simp only [List.length_nil, Nat.zero_add] at hlen
    by_cases hgo : k < ns.length ∧ k < 20
    · obtain ⟨hkn, hk2⟩ := hgo
      obtain ⟨b, off, rfl, hbl, hc⟩ := h.cell hb (Nat.le_refl _) k hkn
      have hbd := hI ns[k] (List.getElem_mem _)
      have HS : Hid ((ns.take (k + 1)).foldl ofStep [] = ofStep ((ns.take k).foldl ofStep []) ns[k]) := by show _ = _; rw [take_snoc ns k hkn, List.foldl_append]; rfl
      generalize ns[k] = a at *
      generalize (ns.take k).foldl ofStep [] = L at *
      obtain ⟨hb1, hb2⟩ := hbd
      have q1 := Int.emod_nonneg a (show (60 : Int) ≠ 0 by omega)
      have q2 := Int.emod_lt_of_pos a (show (0 : Int) < 60 by omega)
      have q3 := Int.emod_nonneg (a.tdiv 60) (show (6 : Int) ≠ 0 by omega)
      have q4 := Int.emod_lt_of_pos (a.tdiv 60) (show (0 : Int) < 6 by omega)
      go_wp2_with fail
      refine (within_any _ 60 _ (by omega) (by omega)).mono ?_
      rintro e w1 ⟨rfl, rfl⟩
      have HO : Hid (ofStep L a = addR L (a % 60, a % 60 + 1 + (a.tdiv 60) % 6)) := rfl
      have hL : L.length < 1000000 := by omega
      go_wp2_with fail
      refine (within_any _ 6 _ (by omega) (by omega)).mono ?_
      rintro e w1 ⟨rfl, rfl⟩
      go_wp2_with fail
      refine (radd_yes _ L _ _ _ hs hL (by omega) (by omega) (by omega)).mono ?_
      rintro e w5 ⟨v5, rfl, ho5, hb5⟩
      have hs5 : SlR w5 v5 (addR L (a % 60, a % 60 + 1 + (a.tdiv 60) % 6)) := sl_of_owns ho5
      have hb6 := hb.trans (hb5.mono hz)
      have hf5 : Fresh w.heap.size v5 := fun g hg => Nat.le_trans hz (owns_ge ho5 g hg)
      clear ho5 hb5
      go_wp2
      go_roundw
      case rel => exact ⟨k + 1, by omega, by omega, by go_num, by rw [HS.out, HO.out]; exact hs5, hf5, hb6⟩
      case measure => simp [intOf]; omega
    · have HT : Hid (ofS ns = (ns.take k).foldl ofStep []) := by
        show _ = _
        unfold ofS
        rcases Nat.lt_or_ge k 20 with h1 | h1
        · have h2 : ns.length ≤ k := by omega
          rw [List.take_of_length_le h2, List.take_of_length_le (by omega)]
        · have h2 : k = 20 := by omega
          rw [h2]
      rcases Nat.lt_or_ge k ns.length with h1 | h1
      · have d1 : decide ((k : Int) < 20) = false := by simp; omega
        clear hgo
        go_wp2
        go_ret
        exact ⟨_, rfl, by rw [HT.out]; exact hs, hf, hb⟩
      · have d1 : decide (k < ns.length) = false := by simp; omega
        clear hgo
        go_wp2
        go_ret
        exact ⟨_, rfl, by rw [HT.out]; exact hs, hf, hb⟩

theorem of_any (v : Value) (ns : List Int) (w : World) (h : SlI w v ns) (hI : I64 ns) :
    Calls Try.prog 9 #[v] w fun e w' => ∃ v', e = .returned v' ∧ SlR w' v' (ofS ns) ∧ Below w.heap.size w w' :=
  (of_fresh v ns w h hI).mono fun _ _ ⟨v', h1, h2, _, h4⟩ => ⟨v', h1, h2, h4⟩

end Go.Proofs.Ytbbjnjfakgjpcaa
