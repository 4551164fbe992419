/- The walk of LedgerWants. -/
import Derived.Test.YtckonmlcgfbojaaLBg
import Derived.Test.YtckonmlcgfbojaaLCl
namespace Go.Proofs.Ytckonmlcgfbojaa
open Go.RowKit

abbrev keyA : ByteArray := ⟨#[97]⟩
abbrev keyNo : ByteArray := ⟨#[110, 111, 98, 111, 100, 121]⟩
abbrev keyE : ByteArray := ⟨#[]⟩
def wantsOk (ws : List Wn) (dev ep un en : Int) : Prop := grantS begBk dev ep un ws = (begBk, zLs, en)
theorem wants0 (n : Int) (h0 : 0 ≤ n) (h9 : n < 9) : wantsOk [⟨keyA, -1 - n, 1, 2⟩] 1 1 5 1 := by
  have : n = 0 ∨ n = 1 ∨ n = 2 ∨ n = 3 ∨ n = 4 ∨ n = 5 ∨ n = 6 ∨ n = 7 ∨ n = 8 := by omega
  unfold wantsOk
  rcases this with rfl | rfl | rfl | rfl | rfl | rfl | rfl | rfl | rfl <;> decide +kernel
theorem wants1 (n : Int) (h0 : 0 ≤ n) (h9 : n < 9) : wantsOk [⟨keyA, 1, 2199023255553 + n, 2⟩] 1 1 5 1 := by
  have : n = 0 ∨ n = 1 ∨ n = 2 ∨ n = 3 ∨ n = 4 ∨ n = 5 ∨ n = 6 ∨ n = 7 ∨ n = 8 := by omega
  unfold wantsOk
  rcases this with rfl | rfl | rfl | rfl | rfl | rfl | rfl | rfl | rfl <;> decide +kernel
theorem wants2 (n : Int) (h0 : 0 ≤ n) (h9 : n < 9) : wantsOk [⟨keyA, 1, 1, 51 + n⟩] 1 1 5 1 := by
  have : n = 0 ∨ n = 1 ∨ n = 2 ∨ n = 3 ∨ n = 4 ∨ n = 5 ∨ n = 6 ∨ n = 7 ∨ n = 8 := by omega
  unfold wantsOk
  rcases this with rfl | rfl | rfl | rfl | rfl | rfl | rfl | rfl | rfl <;> decide +kernel
theorem wants3 : wantsOk [⟨keyA, 1, 1, 2⟩, ⟨keyA, 1, 1, 2⟩] 1 1 5 7 := by unfold wantsOk; decide +kernel
theorem wants4 : wantsOk [⟨keyNo, 1, 1, 2⟩] 1 1 5 2 := by unfold wantsOk; decide +kernel
theorem wants5 : wantsOk [⟨keyE, 1, 1, 2⟩] 1 1 5 1 := by unfold wantsOk; decide +kernel
theorem wants6 (n : Int) (h0 : 0 ≤ n) (h9 : n < 9) : wantsOk [⟨keyA, 11 + n, 1, 2⟩] 1 1 5 14 := by
  have : n = 0 ∨ n = 1 ∨ n = 2 ∨ n = 3 ∨ n = 4 ∨ n = 5 ∨ n = 6 ∨ n = 7 ∨ n = 8 := by omega
  unfold wantsOk
  rcases this with rfl | rfl | rfl | rfl | rfl | rfl | rfl | rfl | rfl <;> decide +kernel
theorem wants7 (n : Int) (h0 : 0 ≤ n) (h9 : n < 9) : wantsOk [⟨keyA, 1, 1, 2⟩, ⟨keyE, 0, 0, 39 + n⟩] 1 1 5 14 := by
  have : n = 0 ∨ n = 1 ∨ n = 2 ∨ n = 3 ∨ n = 4 ∨ n = 5 ∨ n = 6 ∨ n = 7 ∨ n = 8 := by omega
  unfold wantsOk
  rcases this with rfl | rfl | rfl | rfl | rfl | rfl | rfl | rfl | rfl <;> decide +kernel
theorem wants8 (n : Int) (h0 : 0 ≤ n) (h9 : n < 9) : wantsOk [⟨keyA, 1, 1, 2⟩] (6 + n) 1 5 1 := by
  have : n = 0 ∨ n = 1 ∨ n = 2 ∨ n = 3 ∨ n = 4 ∨ n = 5 ∨ n = 6 ∨ n = 7 ∨ n = 8 := by omega
  unfold wantsOk
  rcases this with rfl | rfl | rfl | rfl | rfl | rfl | rfl | rfl | rfl <;> decide +kernel
theorem wants9 (n : Int) (h0 : 0 ≤ n) (h9 : n < 9) : wantsOk [⟨keyA, 1, 1, 2⟩] 1 (-n) 5 1 := by
  have : n = 0 ∨ n = 1 ∨ n = 2 ∨ n = 3 ∨ n = 4 ∨ n = 5 ∨ n = 6 ∨ n = 7 ∨ n = 8 := by omega
  unfold wantsOk
  rcases this with rfl | rfl | rfl | rfl | rfl | rfl | rfl | rfl | rfl <;> decide +kernel
theorem wants10 (n : Int) (h0 : 0 ≤ n) (h9 : n < 9) : wantsOk [⟨keyA, 1, 1, 2⟩] 1 1 (-1 - n) 1 := by
  have : n = 0 ∨ n = 1 ∨ n = 2 ∨ n = 3 ∨ n = 4 ∨ n = 5 ∨ n = 6 ∨ n = 7 ∨ n = 8 := by omega
  unfold wantsOk
  rcases this with rfl | rfl | rfl | rfl | rfl | rfl | rfl | rfl | rfl <;> decide +kernel
theorem wants11 (ws : List Wn) (h : 5 < ws.length) : wantsOk ws 1 1 5 1 := by
  unfold wantsOk
  refine grantS_arg ?_
  unfold argOk
  have : decide (ws.length ≤ 5) = false := by simpa using h
  rw [this]
  simp
theorem wants12 (n : Int) (h0 : 0 ≤ n) (h9 : n < 9) : wantsOk [⟨keyA, 1, 11 + n, 2⟩] 1 1 5 14 := by
  have : n = 0 ∨ n = 1 ∨ n = 2 ∨ n = 3 ∨ n = 4 ∨ n = 5 ∨ n = 6 ∨ n = 7 ∨ n = 8 := by omega
  unfold wantsOk
  rcases this with rfl | rfl | rfl | rfl | rfl | rfl | rfl | rfl | rfl <;> decide +kernel

theorem Try.infoWn : (Try.prog.info? 49).map (fun i => (i.zero, i.size, i.bytes)) = some (some (.agg #[.string ⟨#[]⟩, .int .i64 0, .int .i64 0, .int .i64 0]), 4, 40) := by kernel_rfl
theorem slWn_one {w : World} {g : Nat} {k : ByteArray} {u d i : Int} (h : w.heap[g]? = some (.cells #[.string k, .int .i64 u, .int .i64 d, .int .i64 i] 49 (0, 0))) : SlWn w (.slice (some ⟨g, 0, none⟩) 1 1) [⟨k, u, d, i⟩] := by
  refine ⟨rfl, some ⟨g, 0, none⟩, 1, rfl, Nat.le_refl _, by unfold maxLen; omega, fun h => (by cases h), fun j u hu => ⟨g, 0, rfl, (Array.getElem?_eq_some_iff.1 h).1, ?_⟩⟩
  simp only [World.cell?, h, Nat.zero_add]
  simpa [cellsT, cWn] using hu
theorem own_one {w : World} {g B : Nat} {k : ByteArray} {u d i : Int} (h : w.heap[g]? = some (.cells #[.string k, .int .i64 u, .int .i64 d, .int .i64 i] 49 (0, 0))) (hB : B ≤ g) : w.ownsRow B 49 4 (.slice (some ⟨g, 0, none⟩) 1 1) 1 (cWn ⟨k, u, d, i⟩) :=
  ⟨rfl, .inr ⟨g, 1, _, rfl, hB, h, Nat.le_refl _, by unfold maxLen; omega, rfl, rfl⟩⟩

theorem made_wn (n : Int) (h0 : 0 ≤ n) (h9 : n < 9) : ∃ ws : List Wn, ws.length = (6 + n).toNat ∧ madeCells (Value.agg #[.string ⟨#[]⟩, .int .i64 0, .int .i64 0, .int .i64 0]).cells ((6 + n).toNat * 4) = (cellsT cWn ws).toArray := by
  have : n = 0 ∨ n = 1 ∨ n = 2 ∨ n = 3 ∨ n = 4 ∨ n = 5 ∨ n = 6 ∨ n = 7 ∨ n = 8 := by omega
  rcases this with rfl | rfl | rfl | rfl | rfl | rfl | rfl | rfl | rfl
  all_goals exact ⟨List.replicate _ ⟨⟨#[]⟩, 0, 0, 0⟩, List.length_replicate, by kernel_rfl⟩
theorem slWn_row {w : World} {g n : Nat} {ws : List Wn} (h : w.heap[g]? = some (.cells (cellsT cWn ws).toArray 49 (0, 0))) (hn : n = ws.length) (hm : n ≤ 100) : SlWn w (.slice (some ⟨g, 0, none⟩) n n) ws := by
  subst hn
  refine ⟨cellsT_len cWn_len _, some ⟨g, 0, none⟩, ws.length, rfl, Nat.le_refl _, by unfold maxLen; omega, fun h => (by cases h), fun j u hu => ⟨g, 0, rfl, (Array.getElem?_eq_some_iff.1 h).1, ?_⟩⟩
  simp only [World.cell?, h, Nat.zero_add]
  simpa using hu

def WR (w : World) (v5 v6 v7 v8 v9 : Value) (wx : World) : Prop := ∃ (ws : List Wn) (dev ep un en : Int), SlWn wx v5 ws ∧ v6 = .int .i64 en ∧ v7 = .int .i64 dev ∧ v8 = .int .i64 ep ∧ v9 = .int .i64 un ∧ wantsOk ws dev ep un en ∧ Below w.heap.size w wx

set_option maxRecDepth 100000 in
set_option maxHeartbeats 4000000 in
theorem wants_walk (which n : Int) (w : World) : Calls Try.prog 5 #[.int .i64 which, .int .i64 n] w fun e w' => e = .returned (.bool true) ∧ Below w.heap.size w w' := by
  go_enter Try.func5, Try.ntmps5
  go_wp2_with fail
  refine (known_any _).mono ?_
  rintro e w1 ⟨rfl, hb1⟩
  go_wp2_with fail
  refine (wi_any n 9 _ (by omega) (by omega)).mono ?_
  rintro e w2 ⟨rfl, rfl⟩
  have hn0 := Int.emod_nonneg n (show (9 : Int) ≠ 0 by omega)
  have hn9 := Int.emod_lt_of_pos n (show (0 : Int) < 9 by omega)
  generalize n % 9 = n' at *
  go_wp2_with fail
  refine (wi_any which 13 _ (by omega) (by omega)).mono ?_
  rintro e w3 ⟨rfl, rfl⟩
  have hm0 := Int.emod_nonneg which (show (13 : Int) ≠ 0 by omega)
  have hm9 := Int.emod_lt_of_pos which (show (0 : Int) < 13 by omega)
  generalize which % 13 = m at *
  go_upto_block 0 with fail
  have hb4 : Below w.heap.size w (w1.alloc (.cells #[.string ⟨#[97]⟩, .int .i64 1, .int .i64 1, .int .i64 2] 49)) := hb1.alloc hb1.size _
  have hk4 : (w1.alloc (.cells #[.string ⟨#[97]⟩, .int .i64 1, .int .i64 1, .int .i64 2] 49)).heap[w1.heap.size]? = some (.cells #[.string ⟨#[97]⟩, .int .i64 1, .int .i64 1, .int .i64 2] 49 (0, 0)) := heap_alloc_new _ _
  have hg0 := hb1.size
  clear hb1
  generalize w1.alloc (.cells #[.string ⟨#[97]⟩, .int .i64 1, .int .i64 1, .int .i64 2] 49) = W4 at *
  generalize w1.heap.size = g at *
  have HK := Lib.hid hk4
  have HB := Lib.hid hb4
  obtain ⟨c0, c1, c2, c3, _⟩ := four_cells hk4
  have f0 := four_free hk4 0
  have f1 := four_free hk4 1
  have f2 := four_free hk4 2
  have f3 := four_free hk4 3
  clear hk4 hb4
  go_cut [5, 6, 7, 8, 9] (fun v5 v6 v7 v8 v9 wx => WR w v5 v6 v7 v8 v9 wx)
  case first =>
    have hm : m = 0 ∨ m = 1 ∨ m = 2 ∨ m = 3 ∨ m = 4 ∨ m = 5 ∨ m = 6 ∨ m = 7 ∨ m = 8 ∨ m = 9 ∨ m = 10 ∨ m = 11 ∨ m = 12 := by omega
    rcases hm with rfl | rfl | rfl | rfl | rfl | rfl | rfl | rfl | rfl | rfl | rfl | rfl | rfl
    · go_wp2
      go_meet
      exact ⟨_, _, _, _, _, slWn_one (by simp [World.setCell, Array.getElem?_modify, HK.out]), rfl, rfl, rfl, rfl, wants0 n' hn0 hn9, HB.out.setCell hg0 _⟩
    · go_wp2
      go_meet
      exact ⟨_, _, _, _, _, slWn_one (by simp [World.setCell, Array.getElem?_modify, HK.out]), rfl, rfl, rfl, rfl, wants1 n' hn0 hn9, HB.out.setCell hg0 _⟩
    · go_wp2
      go_meet
      exact ⟨_, _, _, _, _, slWn_one (by simp [World.setCell, Array.getElem?_modify, HK.out]), rfl, rfl, rfl, rfl, wants2 n' hn0 hn9, HB.out.setCell hg0 _⟩
    · obtain ⟨inf, hinf, hz0, hz1, hz2⟩ := info_parts Try.infoWn
      have hbA : Below W4.heap.size W4 (W4.alloc (.cells #[.string ⟨#[97]⟩, .int .i64 1, .int .i64 1, .int .i64 2] 49)) := (Below.refl _ _).alloc (Nat.le_refl _) _
      have hoA := owns_keep (own_one HK.out (B := w.heap.size) hg0) hbA (Nat.le_refl _)
      have hcn := cells_new W4 W4.heap.size rfl [.string ⟨#[97]⟩, .int .i64 1, .int .i64 1, .int .i64 2] 49
      have hbs := (HB.out.alloc HB.out.size (.cells #[.string ⟨#[97]⟩, .int .i64 1, .int .i64 1, .int .i64 2] 49)).size
      go_wp2_with ((with_reducible refine at_slot 50 ?_); refine wpList_append_own _ rfl _ _ 40 rfl w.heap.size 49 inf _ 4 40 Try.underlying40 hinf hz0 hz1 hz2 rfl (by decide) _ 1 (cWn ⟨⟨#[97]⟩, 1, 1, 2⟩) rfl hoA ⟨W4.heap.size, 0, none⟩ 1 1 [.string ⟨#[97]⟩, .int .i64 1, .int .i64 1, .int .i64 2] rfl rfl hcn (cWn_one ⟨⟨#[97]⟩, 1, 1, 2⟩) (by unfold maxLen; omega) (by omega) hbs ?_; intro v5 w5 ho5 hg5 _)
      go_meet
      exact ⟨[⟨⟨#[97]⟩, 1, 1, 2⟩, ⟨⟨#[97]⟩, 1, 1, 2⟩], _, _, _, _, sl_of_owns ho5, rfl, rfl, rfl, rfl, wants3, (HB.out.alloc HB.out.size _).grown hg5 hbs (fun k hk => by injection hk with hk; subst hk; exact hg0)⟩
    · go_wp2
      go_meet
      exact ⟨_, _, _, _, _, slWn_one (by simp [World.setCell, Array.getElem?_modify, HK.out]), rfl, rfl, rfl, rfl, wants4, HB.out.setCell hg0 _⟩
    · go_wp2
      go_meet
      exact ⟨_, _, _, _, _, slWn_one (by simp [World.setCell, Array.getElem?_modify, HK.out]), rfl, rfl, rfl, rfl, wants5, HB.out.setCell hg0 _⟩
    · go_wp2
      go_meet
      exact ⟨_, _, _, _, _, slWn_one (by simp [World.setCell, Array.getElem?_modify, HK.out]), rfl, rfl, rfl, rfl, wants6 n' hn0 hn9, HB.out.setCell hg0 _⟩
    · obtain ⟨inf, hinf, hz0, hz1, hz2⟩ := info_parts Try.infoWn
      have hbA : Below W4.heap.size W4 (W4.alloc (.cells #[.string ⟨#[]⟩, .int .i64 0, .int .i64 0, .int .i64 (39 + n')] 49)) := (Below.refl _ _).alloc (Nat.le_refl _) _
      have hoA := owns_keep (own_one HK.out (B := w.heap.size) hg0) hbA (Nat.le_refl _)
      have hcn := cells_new W4 W4.heap.size rfl [.string ⟨#[]⟩, .int .i64 0, .int .i64 0, .int .i64 (39 + n')] 49
      have hbs := (HB.out.alloc HB.out.size (.cells #[.string ⟨#[]⟩, .int .i64 0, .int .i64 0, .int .i64 (39 + n')] 49)).size
      go_wp2_with ((with_reducible refine at_slot 75 ?_); refine wpList_append_own _ rfl _ _ 40 rfl w.heap.size 49 inf _ 4 40 Try.underlying40 hinf hz0 hz1 hz2 rfl (by decide) _ 1 (cWn ⟨⟨#[97]⟩, 1, 1, 2⟩) rfl hoA ⟨W4.heap.size, 0, none⟩ 1 1 [.string ⟨#[]⟩, .int .i64 0, .int .i64 0, .int .i64 (39 + n')] rfl rfl hcn (cWn_one ⟨⟨#[]⟩, 0, 0, 39 + n'⟩) (by unfold maxLen; omega) (by omega) hbs ?_; intro v5 w5 ho5 hg5 _)
      go_meet
      exact ⟨[⟨⟨#[97]⟩, 1, 1, 2⟩, ⟨⟨#[]⟩, 0, 0, 39 + n'⟩], _, _, _, _, sl_of_owns ho5, rfl, rfl, rfl, rfl, wants7 n' hn0 hn9, (HB.out.alloc HB.out.size _).grown hg5 hbs (fun k hk => by injection hk with hk; subst hk; exact hg0)⟩
    · go_wp2
      go_meet
      exact ⟨_, _, _, _, _, slWn_one HK.out, rfl, rfl, rfl, rfl, wants8 n' hn0 hn9, HB.out⟩
    · go_wp2
      go_meet
      exact ⟨_, _, _, _, _, slWn_one HK.out, rfl, rfl, rfl, rfl, wants9 n' hn0 hn9, HB.out⟩
    · go_wp2
      go_meet
      exact ⟨_, _, _, _, _, slWn_one HK.out, rfl, rfl, rfl, rfl, wants10 n' hn0 hn9, HB.out⟩
    · obtain ⟨inf, hinf, hz0, hz1, hz2⟩ := info_parts Try.infoWn
      obtain ⟨ws, hws, hmc⟩ := made_wn n' hn0 hn9
      have hmake := run_makeSlice (P := Try.prog) (w := W4) 40 49 inf _ Try.underlying40 hinf hz0 .i64 .i64 (6 + n') (6 + n') (by omega) (Int.le_refl _) (by rw [hz1]; omega) (by rw [hz2]; omega) (by omega)
      rw [hz1, hmc] at hmake
      have hk5 : (W4.alloc (.cells (cellsT cWn ws).toArray 49)).heap[W4.heap.size]? = some (.cells (cellsT cWn ws).toArray 49 (0, 0)) := heap_alloc_new _ _
      have HW5 := Lib.hid (slWn_row hk5 hws.symm (by omega))
      have HWS : Hid (5 < ws.length) := Lib.hid (by omega)
      clear hws hmc hinf hz0 hz1 hz2 hk5
      go_wp2
      go_meet
      exact ⟨ws, _, _, _, _, HW5.out, rfl, rfl, rfl, rfl, wants11 ws HWS.out, HB.out.alloc HB.out.size _⟩
    · go_wp2
      go_meet
      exact ⟨_, _, _, _, _, slWn_one (by simp [World.setCell, Array.getElem?_modify, HK.out]), rfl, rfl, rfl, rfl, wants12 n' hn0 hn9, HB.out.setCell hg0 _⟩
  case rest =>
  obtain ⟨ws, dev, ep, un, en, hws, rfl, rfl, rfl, rfl, hok, hb5⟩ := hcut
  obtain ⟨W5, hW5⟩ : ∃ W5, W5 = wc := ⟨_, rfl⟩
  subst hW5
  have HWS := Lib.hid hws
  have HOK := Lib.hid hok
  have HB5 := Lib.hid hb5
  clear hws hok hb5 c0 c1 c2 c3 f0 f1 f2 f3 HK HB hg0
  go_wp2_with fail
  refine (begin_any _).mono ?_
  rintro e W6 ⟨⟨⟨ca, cn, cc⟩, ⟨fa, fn, fc⟩, ⟨la, ln, lc⟩, ⟨ba, bn, bc⟩⟩, rfl, hm6, hb6⟩
  have hbA : Below W6.heap.size W6 (W6.alloc (.cells #[.slice ca cn cc, .slice fa fn fc, .slice la ln lc, .slice ba bn bc] 32)) := (Below.refl _ _).alloc (Nat.le_refl _) _
  have hkA : (W6.alloc (.cells #[.slice ca cn cc, .slice fa fn fc, .slice la ln lc, .slice ba bn bc] 32)).heap[W6.heap.size]? = some (.cells #[.slice ca cn cc, .slice fa fn fc, .slice la ln lc, .slice ba bn bc] 32 (0, 0)) := heap_alloc_new _ _
  have hb56 := hb6.trans (hbA.mono hb6.size)
  have HM := Lib.hid (hm6.keep hbA (Nat.le_refl _))
  have HV := Lib.hid (HWS.out.keep hb56 (Nat.le_refl _))
  have HB6 := Lib.hid (HB5.out.trans (hb56.mono HB5.out.size))
  have hzA : W6.heap.size < (W6.alloc (.cells #[.slice ca cn cc, .slice fa fn fc, .slice la ln lc, .slice ba bn bc] 32)).heap.size := by simp
  have HKA := Lib.hid hkA
  clear hm6 hb6 hbA hb56 hkA
  go_wp2_with fail
  generalize W6.alloc (.cells #[.slice ca cn cc, .slice fa fn fc, .slice la ln lc, .slice ba bn bc] 32) = W7 at *
  generalize W6.heap.size = p at *
  refine (grant_any ⟨⟨ca, cn, cc⟩, ⟨fa, fn, fc⟩, ⟨la, ln, lc⟩, ⟨ba, bn, bc⟩⟩ begBk dev ep un _ ws _ HM.out begGrB HV.out).mono ?_
  rw [show grantS begBk dev ep un ws = (begBk, zLs, en) from HOK.out]
  rintro e W8 ⟨⟨⟨da, dn, dc⟩, ⟨ea, en', ec⟩, ⟨ma, mn, mc⟩, ⟨na, nn, nc⟩⟩, ⟨y1, y2, y3, y4, ⟨y5, y6, y7⟩, ⟨y8, y9, y10⟩, ⟨y11, y12, y13⟩⟩, rfl, hm8, hl8, hb8⟩
  have hy2 : y2 = 0 := hl8.epoch
  have hy6 : y6 = 0 := (Sl.lens (s := ⟨y5, y6, y7⟩) hl8.s).1
  subst hy2 hy6
  have hk8 := block_below HKA.out hb8 hzA
  obtain ⟨d0, d1, d2, d3, hz8⟩ := four_cells hk8
  have hbB : Below W8.heap.size W8 ((W8.alloc (.cells #[.slice da dn dc, .slice ea en' ec, .slice ma mn mc, .slice na nn nc] 32)).alloc (.cells #[.int .i64 y1, .int .i64 0, .int .i64 y3, .int .i64 y4, .slice y5 0 y7, .slice y8 y9 y10, .slice y11 y12 y13] 45)) := ((Below.refl _ _).alloc (Nat.le_refl _) _).alloc (by simp) _
  have HM8 := Lib.hid (hm8.keep hbB (Nat.le_refl _))
  have HM7 := Lib.hid (HM.out.keep (hb8.trans (hbB.mono hb8.size)) (Nat.le_refl _))
  have HB8 := Lib.hid (HB6.out.trans ((hb8.trans (hbB.mono hb8.size)).mono HB6.out.size))
  have e1 : (en == en) = true := by simp
  have HKB := Lib.hid (alloc_second W8 (.cells #[.slice da dn dc, .slice ea en' ec, .slice ma mn mc, .slice na nn nc] 32) (.cells #[.int .i64 y1, .int .i64 0, .int .i64 y3, .int .i64 y4, .slice y5 0 y7, .slice y8 y9 y10, .slice y11 y12 y13] 45))
  clear hm8 hl8 hb8 hbB hk8
  go_wp2_with fail
  refine (lsame_any ⟨⟨ca, cn, cc⟩, ⟨fa, fn, fc⟩, ⟨la, ln, lc⟩, ⟨ba, bn, bc⟩⟩ ⟨⟨da, dn, dc⟩, ⟨ea, en', ec⟩, ⟨ma, mn, mc⟩, ⟨na, nn, nc⟩⟩ begBk begBk _ HM7.out HM8.out).mono ?_
  rintro e W9 ⟨rfl, hb9⟩
  obtain ⟨n0, n1, n2, n3, n4, n5, n6, _⟩ := seven_cells (block_below HKB.out hb9 (by simp))
  have HB9 := Lib.hid (HB8.out.trans (hb9.mono HB8.out.size))
  rw [show decide (begBk = begBk) = true by simp]
  clear hb9 d0 d1 d2 d3
  go_wp2
  go_ret
  exact ⟨rfl, HB9.out⟩

end Go.Proofs.Ytckonmlcgfbojaa
