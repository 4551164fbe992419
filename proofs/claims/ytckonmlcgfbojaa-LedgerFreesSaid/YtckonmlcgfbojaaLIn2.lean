/- slices.Insert of one thing into a row of the call's own (int). -/
import Derived.Test.YtckonmlcgfbojaaLIn
namespace Go.Proofs.Ytckonmlcgfbojaa
open Go.RowKit

set_option maxRecDepth 100000 in
set_option maxHeartbeats 4000000 in
theorem insertIn_end (v : Value) (n : Nat) (xs ys : List Value) (w : World) (B yb : Nat) (hown : w.ownsRow B 3 1 v n xs) (h1y : ∀ u ∈ ys, u.oneCell' = true) (hyl : ys.length = 1) (hn : n < 100000) (hB : B ≤ w.heap.size)
    (hy : w.heap[yb]? = some (.cells ys.toArray 3 (0, 0))) :
    Calls Try.prog 55 #[v, .int .i64 n, .slice (some ⟨yb, 0, none⟩) 1 1] w (RetIns w B v 1 3 (n + 1) (xs ++ ys)) := by
  obtain ⟨inf, hinf, hz0, hz1, hz2⟩ := info_parts Try.infoIn
  have HRD := Lib.hid (rd_block hy)
  obtain ⟨ao, cap, rfl, hnc, hcm⟩ := owns_shape hown
  have HY := Lib.hid hy
  clear hy
  by_cases hc : cap = n
  all_goals
    go_enter Try.func55, Try.ntmps55
    go_wp2_with ((with_reducible refine at_slot 25 ?_); refine wpList_append_rd_at rfl _ _ 30 rfl B 3 inf _ 1 8 Try.underlying30 hinf hz0 hz1 hz2 rfl (by decide) _ n xs rfl hown (some ⟨yb, 0, none⟩) 1 1 ys rfl (by omega) HRD.out h1y (by unfold maxLen; omega) (by omega) hB ?_; intro v3 w3 ho3 hg3 hat3)
    go_ret
    exact ⟨v3, rfl, ho3, hg3, hat3.imp id (fun h => ⟨_, h, Nat.le_refl _⟩)⟩

set_option maxRecDepth 100000 in
set_option maxHeartbeats 8000000 in
theorem insertIn_grow (n i : Nat) (xs ys : List Value) (w : World) (B yb g c : Nat) (hown : w.ownsRow B 3 1 (.slice (some ⟨g, 0, none⟩) n c) n xs) (hroom : c < n + 1) (h1x : ∀ u ∈ xs, u.oneCell' = true) (h1y : ∀ u ∈ ys, u.oneCell' = true) (hyl : ys.length = 1) (hn : n < 100000) (hB : B ≤ w.heap.size) (hi : i < n)
    (hy : w.heap[yb]? = some (.cells ys.toArray 3 (0, 0))) :
    Calls Try.prog 55 #[.slice (some ⟨g, 0, none⟩) n c, .int .i64 i, .slice (some ⟨yb, 0, none⟩) 1 1] w (RetIns w B (.slice (some ⟨g, 0, none⟩) n c) 1 3 (n + 1) (xs.take (i * 1) ++ ys ++ xs.drop (i * 1))) := by
  obtain ⟨inf, hinf, hz0, hz1, hz2⟩ := info_parts Try.infoIn
  obtain ⟨p1, p2, p3, p4, p5, p6, p7⟩ := owns_block hown
  have hol : (xs.take (i * 1)).length = i * 1 := by rw [List.length_take]; omega
  obtain ⟨C, w1, zs, hr, hzl, ho1, hb1⟩ := run_append_make (P := Try.prog) w 30 3 30 3 inf _ 1 8 Try.underlying30 Try.underlying3 hinf hz0 hz1 hz2 rfl (by decide) ⟨g, 0, none⟩ i c (n + 1 - i) (xs.take (i * 1)) hol
    (fun j u hu => by
      rw [Addr.add_lit, Nat.zero_add]
      rw [List.getElem?_take] at hu
      split at hu
      · exact p7 j u hu
      · cases hu) (by omega) (by omega) (by omega) (by omega) (by omega)
  rw [show i + (n + 1 - i) = n + 1 by omega] at hr ho1
  rw [show ((n + 1 - i : Nat) : Int) = (n : Int) + 1 - i by omega] at hr
  have hC := (owns_block ho1).2.2.1
  have hC2 := (owns_block ho1).2.2.2.1
  have hy1 := block_below hy hb1 (Array.getElem?_eq_some_iff.1 hy).1
  have HRX : Hid (Rd w1 (some ⟨g, i * 1, none⟩) (xs.drop (i * 1))) := by
    refine Lib.hid ?_
    have h0 : Rd w1 (some ⟨g, 0, none⟩) xs := fun j u hu => ⟨_, rfl, by rw [Addr.add_lit, Nat.zero_add, hb1.cell (p := ⟨g, j, none⟩) p2]; exact p7 j u hu⟩
    have := h0.at_drop (i * 1)
    rw [Nat.zero_add] at this
    exact this
  have hl1 := (owns_block ho1).2.2.2.2.1
  obtain ⟨w2, hr2, ho2, hg2⟩ := run_copy_own (P := Try.prog) w1 30 30 3 3 inf 1 Try.underlying30 hinf hz1 _ _ _ _ _ ho1 i 1 (n + 1 - i) (C - i) 1 1 (some ⟨yb, 0, none⟩) ys (Nat.min_eq_left (by omega)) (by omega) (by omega) (rd_block hy1) h1y
  have hgl : g < w2.heap.size := Nat.lt_of_lt_of_le p2 (Nat.le_trans hb1.size hg2.size)
  have HRX2 : Hid (Rd w2.drew (some ⟨g, i * 1, none⟩) (xs.drop (i * 1))) := Lib.hid (fun j u hu => by
    obtain ⟨a, ha, hc⟩ := HRX.out j u hu
    refine ⟨a, ha, ?_⟩
    injection ha with ha
    subst ha
    rw [Addr.add_lit] at hc ⊢
    have := hg2.block g (Nat.lt_of_lt_of_le p2 hb1.size) (fun e => by injection e with e; omega)
    show w2.cell? _ = _
    rw [World.cell?, this]
    exact hc)
  have ho2' : w2.drew.ownsRow w.heap.size 3 1 (.slice (some ⟨w.heap.size, 0, none⟩) (n + 1) C) (n + 1) ((xs.take (i * 1) ++ zs).take (i * 1) ++ ys ++ (xs.take (i * 1) ++ zs).drop (i * 1 + 1 * 1)) := ho2
  obtain ⟨w3, hr3, ho3, hg3⟩ := run_copy_own (P := Try.prog) w2.drew 30 30 3 3 inf 1 Try.underlying30 hinf hz1 _ _ _ _ _ ho2' (i + 1) (n - i) (n - i) (C - (i + 1)) (n - i) (c - i) (some ⟨g, i * 1, none⟩) (xs.drop (i * 1)) (Nat.min_self _) (by omega) (by rw [List.length_drop, p5, ← Nat.sub_mul]) HRX2.out (fun u hu => h1x u (List.mem_of_mem_drop hu))
  have hres : ((xs.take (i * 1) ++ zs).take (i * 1) ++ ys ++ (xs.take (i * 1) ++ zs).drop (i * 1 + 1 * 1)).take ((i + 1) * 1) ++ xs.drop (i * 1) ++ ((xs.take (i * 1) ++ zs).take (i * 1) ++ ys ++ (xs.take (i * 1) ++ zs).drop (i * 1 + 1 * 1)).drop ((i + 1) * 1 + (n - i) * 1) = xs.take (i * 1) ++ ys ++ xs.drop (i * 1) := by
    have e1 : (xs.take (i * 1) ++ zs).take (i * 1) = xs.take (i * 1) := List.take_left' hol
    have e2 : (xs.take (i * 1) ++ ys).length = (i + 1) * 1 := by rw [List.length_append, hol, hyl, Nat.add_mul]
    have e3 : ((i + 1) * 1 + (n - i) * 1) = (n + 1) * 1 := by rw [← Nat.add_mul]; congr 1; omega
    have e4 : (xs.take (i * 1) ++ ys ++ (xs.take (i * 1) ++ zs).drop (i * 1 + 1 * 1)).drop ((n + 1) * 1) = [] := List.drop_of_length_le (by
      rw [List.length_append, e2, List.length_drop, List.length_append, hol, hzl]
      have h9 : (n + 1 - i) * 1 + i * 1 = (n + 1) * 1 := by rw [← Nat.add_mul]; congr 1; omega
      have h8 : (i + 1) * 1 = i * 1 + 1 * 1 := Nat.add_mul _ _ _
      omega)
    rw [e1, List.take_left' e2, e3, e4, List.append_nil]
  rw [hres] at ho3
  have HO3 := Lib.hid ho3
  have HGB : Hid (w.grownBy w3 (some g)) := Lib.hid (by
    have a1 : w.grownBy w1 (some g) := ⟨hb1.os, hb1.tape, hb1.output, hb1.size, fun k hk _ => hb1.block k hk⟩
    have a2 : w.grownBy w2 (some g) := ⟨hg2.os.trans a1.os, hg2.tape.trans a1.tape, hg2.output.trans a1.output, Nat.le_trans a1.size hg2.size, fun k hk hne => (hg2.block k (Nat.lt_of_lt_of_le hk hb1.size) (fun e => by injection e with e; omega)).trans (a1.block k hk hne)⟩
    exact ⟨hg3.os.trans a2.os, hg3.tape.trans a2.tape, hg3.output.trans a2.output, Nat.le_trans a2.size hg3.size, fun k hk hne => (hg3.block k (Nat.lt_of_lt_of_le hk (Nat.le_trans hb1.size hg2.size)) (fun e => by injection e with e; omega)).trans (a2.block k hk hne)⟩)
  have q1 : ¬ (c = i) := by omega
  have qz2 : ((i : Int) == (n : Int)) = false := by rw [beq_eq_false_iff_ne]; omega
  have qz3 : (c : Int) < (n : Int) + 1 := by omega
  have q2 : ¬ (C = i) := by omega
  have q3 : ¬ (C = i + 1) := by omega
  have q4 : (i : Int) < n := by omega
  have q5 : (n : Int) < 100000 := by omega
  obtain ⟨ao50, hao50, hrun50⟩ := run_slice_from (P := Try.prog) 30 3 inf 1 Try.underlying30 hinf hz1 w.heap.size 0 (n + 1) C (i + 1) ((i : Int) + 1) (by omega) (by omega) hC
  obtain ⟨ao53, hao53, hrun53⟩ := run_slice_from (P := Try.prog) 30 3 inf 1 Try.underlying30 hinf hz1 g 0 n c i (i : Int) rfl (by omega) p3
  have e50 := hao50 (by omega)
  have e53 := hao53 (by omega)
  subst e50 e53
  rw [Nat.zero_add] at hrun50 hrun53
  rw [show n + 1 - (i + 1) = n - i by omega] at hrun50
  simp only [Nat.mul_one] at hrun50 hrun53 hr2 hr3
  have HRUN50 := Lib.hid hrun50
  have HRUN53 := Lib.hid hrun53
  clear hrun50 hrun53 hao50 hao53
  have HR1 := Lib.hid hr
  have HR2 := Lib.hid hr2
  have HR3 := Lib.hid hr3
  clear hown ho1 ho2 ho2' ho3 hg2 hg3 hb1 hy hy1 HRX HRX2 hres hol hl1 hzl p5 p6 p7 hr hr2 hr3 h1x h1y hinf hz0 hz1 hz2
  go_enter Try.func55, Try.ntmps55
  go_wp2_with (first
    | ((with_reducible refine at_slot 40 ?_); refine wpList_run_append rfl _ _ 30 3 rfl _ _ rfl rfl HR1.out ?_)
    | ((with_reducible refine at_slot 45 ?_); refine wpList_run_copy rfl _ _ 30 30 rfl _ _ rfl rfl HR2.out ?_))
  have hw1 : IntKind.i64.wrap ((i : Int) + 1) = (i : Int) + 1 := IntWalk.i64_in _ (by omega)
  have hw2 : (0 : Int) ≤ (i : Int) + 1 := by omega
  have hw3 : ((i : Int) + 1).toNat = i + 1 := by omega
  have hw4 : (i : Int) + 1 ≤ (n : Int) + 1 := by omega
  have hw5 : n + 1 - (i + 1) = n - i := by omega
  have hrun50 := HRUN50.out
  have hrun53 := HRUN53.out
  go_still_tail 8, (by kernel_rfl)
  clear hw1 hw2 hw3 hw4 hrun50 hrun53
  refine wpList_run_copy rfl _ _ 30 30 rfl _ _ rfl rfl HR3.out ?_
  go_wp2
  go_ret
  exact ⟨_, rfl, by first | exact owns_base HO3.out hB | (have := owns_base HO3.out hB; simpa using this), HGB.out, .inr ⟨_, rfl, Nat.le_refl _⟩⟩

theorem Try.ovIn (w : World) (yb g o lb cb c : Nat) (ys cur : List Value) (hne : yb ≠ g) (hy : w.heap[yb]? = some (.cells ys.toArray 3 (0, 0))) (hg : w.heap[g]? = some (.cells cur.toArray 3 (0, 0))) (hc : cur ≠ []) :
    (callFunc 89 #[.slice (some ⟨yb, 0, none⟩) 1 c, .slice (some ⟨g, o, none⟩) lb cb]).run Try.prog w = .ok (.value (.bool false)) w := by
  obtain ⟨inf, hinf, hz0, hz1, hz2⟩ := info_parts Try.infoIn
  rw [run_callFunc_extern Try.func89 (by kernel_rfl) (by kernel_rfl) (by kernel_rfl) (e := Extern.SlicesOverlaps.overlaps #[30, 30] #[4]) (by kernel_rfl),
    Lib.run_overlaps_apart w 30 4 3 Try.underlying30 1 (fun W => by simp [sizeOf, typeInfo, hinf, hz1]) ⟨yb, 0, none⟩ ⟨g, o, none⟩ 1 c lb cb hne 3 3 ys.toArray.size cur.toArray.size (by simp [World.shape?, hy]) (by simp [World.shape?, hg]) (by simpa using hc) (by simp [World.frozen?, hy]) (by simp [World.frozen?, hy])]
  rfl

set_option maxRecDepth 100000 in
set_option maxHeartbeats 8000000 in
theorem insertIn_shift (n i : Nat) (xs ys : List Value) (w : World) (B yb g c : Nat) (hown : w.ownsRow B 3 1 (.slice (some ⟨g, 0, none⟩) n c) n xs) (hroom : n + 1 ≤ c) (h1x : ∀ u ∈ xs, u.oneCell' = true) (h1y : ∀ u ∈ ys, u.oneCell' = true) (hyl : ys.length = 1) (hn : n < 100000) (hi : i < n)
    (hy : w.heap[yb]? = some (.cells ys.toArray 3 (0, 0))) (hne : yb ≠ g) :
    Calls Try.prog 55 #[.slice (some ⟨g, 0, none⟩) n c, .int .i64 i, .slice (some ⟨yb, 0, none⟩) 1 1] w (RetIns w B (.slice (some ⟨g, 0, none⟩) n c) 1 3 (n + 1) (xs.take (i * 1) ++ ys ++ xs.drop (i * 1))) := by
  obtain ⟨inf, hinf, hz0, hz1, hz2⟩ := info_parts Try.infoIn
  obtain ⟨p1, p2, p3, p4, p5, p6, p7⟩ := owns_block hown
  obtain ⟨cur, hgc⟩ := owns_cur hown
  have hcurne : cur ≠ [] := (by
    intro e
    subst e
    have := p7 0 (xs[0]'(by omega)) (List.getElem?_eq_getElem _)
    simp [World.cell?, hgc] at this)
  obtain ⟨junk, hjl, hst⟩ := owns_stretch hown hroom
  have hst2 : w.drew.ownsRow B 3 1 (.slice (some ⟨g, 0, none⟩) (n + 1) c) (n + 1) (xs ++ junk) := hst
  have hdl : (xs.drop (i * 1)).length = (n - i) * 1 := by rw [List.length_drop, p5, ← Nat.sub_mul]
  have HRX : Rd w.drew (some ⟨g, i * 1, none⟩) (xs.drop (i * 1)) := by
    have h0 : Rd w.drew (some ⟨g, 0, none⟩) xs := fun j u hu => ⟨_, rfl, by rw [Addr.add_lit, Nat.zero_add]; exact p7 j u hu⟩
    have := h0.at_drop (i * 1)
    rw [Nat.zero_add] at this
    exact this
  obtain ⟨w1, hr1, ho1, hg1⟩ := run_copy_own (P := Try.prog) w.drew 30 30 3 3 inf 1 Try.underlying30 hinf hz1 _ _ _ _ _ hst2 (i + 1) (n - i) (n - i) (c - (i + 1)) (n + 1 - i) (c - i) (some ⟨g, i * 1, none⟩) (xs.drop (i * 1)) (Nat.min_eq_right (by omega)) (by omega) hdl HRX (fun u hu => h1x u (List.mem_of_mem_drop hu))
  have e3 : (i + 1) * 1 + (n - i) * 1 = (n + 1) * 1 := by rw [← Nat.add_mul]; congr 1; omega
  have e5 : (i + 1) * 1 = i * 1 + 1 * 1 := Nat.add_mul _ _ _
  have e6 : (n + 1) * 1 = n * 1 + 1 * 1 := Nat.add_mul _ _ _
  have hle : (i + 1) * 1 ≤ n * 1 := Nat.mul_le_mul_right _ hi
  have hxl : (xs ++ junk).length = (n + 1) * 1 := by rw [List.length_append, p5, hjl]; omega
  have e7 : (xs ++ junk).drop ((i + 1) * 1 + (n - i) * 1) = [] := List.drop_of_length_le (by rw [hxl, e3]; exact Nat.le_refl _)
  have e8 : (xs ++ junk).take ((i + 1) * 1) = xs.take ((i + 1) * 1) := List.take_append_of_le_length (by omega)
  rw [e7, e8, List.append_nil] at ho1
  have hy1 : w1.heap[yb]? = some (.cells ys.toArray 3 (0, 0)) := (hg1.block yb (Array.getElem?_eq_some_iff.1 hy).1 (fun e => by injection e with e; exact hne e)).trans hy
  obtain ⟨w2, hr2, ho2, hg2⟩ := run_copy_own (P := Try.prog) w1 30 30 3 3 inf 1 Try.underlying30 hinf hz1 _ _ _ _ _ ho1 i 1 (n + 1 - i) (c - i) 1 1 (some ⟨yb, 0, none⟩) ys (Nat.min_eq_left (by omega)) (by omega) (by omega) (rd_block hy1) h1y
  have htl : (xs.take ((i + 1) * 1)).length = (i + 1) * 1 := by rw [List.length_take]; omega
  have hres : (xs.take ((i + 1) * 1) ++ xs.drop (i * 1)).take (i * 1) ++ ys ++ (xs.take ((i + 1) * 1) ++ xs.drop (i * 1)).drop (i * 1 + 1 * 1) = xs.take (i * 1) ++ ys ++ xs.drop (i * 1) := by
    rw [← e5, List.drop_left' htl, List.take_append_of_le_length (by omega), List.take_take, Nat.min_eq_left (by omega)]
  rw [hres] at ho2
  have HO2 := Lib.hid ho2
  have HGB : Hid (w.grownBy w2 (some g)) := Lib.hid ⟨hg2.os.trans hg1.os, hg2.tape.trans hg1.tape, hg2.output.trans hg1.output, Nat.le_trans hg1.size hg2.size, fun k hk hne => (hg2.block k (Nat.lt_of_lt_of_le hk hg1.size) hne).trans (hg1.block k hk hne)⟩
  obtain ⟨ao73, hao73, hrun73⟩ := run_slice_from (P := Try.prog) 30 3 inf 1 Try.underlying30 hinf hz1 g 0 (n + 1) c (i + 1) ((i : Int) + 1) (by omega) (by omega) hroom
  obtain ⟨ao76, hao76, hrun76⟩ := run_slice_from (P := Try.prog) 30 3 inf 1 Try.underlying30 hinf hz1 g 0 (n + 1) c i (i : Int) rfl (by omega) hroom
  have e73 := hao73 (by omega)
  have e76 := hao76 (by omega)
  subst e73 e76
  rw [Nat.zero_add] at hrun73 hrun76
  rw [show n + 1 - (i + 1) = n - i by omega] at hrun73
  simp only [Nat.mul_one] at hrun73 hrun76 hr1 hr2
  have HRUN73 := Lib.hid hrun73
  have HRUN76 := Lib.hid hrun76
  have HR1 := Lib.hid hr1
  have HR2 := Lib.hid hr2
  have HOV := Lib.hid (fun lb cb => Try.ovIn w yb g (i + 1) lb cb 1 ys cur hne hy hgc hcurne)
  have q1 : ¬ (c = i) := by omega
  have q2 : ¬ (c = i + 1) := by omega
  have qz2 : ((i : Int) == (n : Int)) = false := by rw [beq_eq_false_iff_ne]; omega
  have qz3 : ¬ (c : Int) < (n : Int) + 1 := by omega
  have q4 : (i : Int) < n := by omega
  have q5 : (n : Int) < 100000 := by omega
  clear hown ho1 ho2 hst hst2 HRX hg1 hg2 hy hy1 hres htl e3 e5 e6 e7 e8 hle hxl hdl p5 p6 p7 hr1 hr2 h1x h1y hinf hz0 hz1 hz2 hrun73 hrun76 hao73 hao76 hgc hcurne hjl hne
  have hov := HOV.out
  have hw1 : IntKind.i64.wrap ((i : Int) + 1) = (i : Int) + 1 := IntWalk.i64_in _ (by omega)
  have hw2 : (0 : Int) ≤ (i : Int) + 1 := by omega
  have hw3 : ((i : Int) + 1).toNat = i + 1 := by omega
  have hw4 : (i : Int) + 1 ≤ (n : Int) + 1 := by omega
  go_enter Try.func55, Try.ntmps55
  go_upto_region 15 with fail
  clear hov
  have hrun73 := HRUN73.out
  have hrun76 := HRUN76.out
  go_still_tail 8, (by kernel_rfl)
  clear hw1 hw2 hw3 hw4 hrun73 hrun76
  refine wpList_run_copy rfl _ _ 30 30 rfl _ _ rfl rfl HR1.out ?_
  go_wp2_with ((with_reducible refine at_slot 82 ?_); refine wpList_run_copy rfl _ _ 30 30 rfl _ _ rfl rfl HR2.out ?_)
  go_ret
  exact ⟨_, rfl, by first | exact HO2.out | (rw [← List.append_assoc]; exact HO2.out) | (have := HO2.out; simpa using this), HGB.out, .inl rfl⟩

theorem insertIn_any (v : Value) (n i : Nat) (xs ys : List Value) (w : World) (B yb : Nat) (hown : w.ownsRow B 3 1 v n xs) (h1x : ∀ u ∈ xs, u.oneCell' = true) (h1y : ∀ u ∈ ys, u.oneCell' = true) (hyl : ys.length = 1) (hn : n < 100000) (hi : i ≤ n) (hB : B ≤ w.heap.size)
    (hy : w.heap[yb]? = some (.cells ys.toArray 3 (0, 0))) (hne : v.ownBlock ≠ some yb) :
    Calls Try.prog 55 #[v, .int .i64 i, .slice (some ⟨yb, 0, none⟩) 1 1] w (RetIns w B v 1 3 (n + 1) (xs.take (i * 1) ++ ys ++ xs.drop (i * 1))) := by
  have hl := hown.1
  rcases Nat.lt_or_ge i n with hlt | hge
  · obtain ⟨g, c, rfl⟩ := owns_some hown (by omega)
    rcases Nat.lt_or_ge c (n + 1) with hc | hc
    · exact insertIn_grow n i xs ys w B yb g c hown hc h1x h1y hyl hn hB hlt hy
    · exact insertIn_shift n i xs ys w B yb g c hown hc h1x h1y hyl hn hlt hy (fun e => hne (by rw [e]; rfl))
  · have e : i = n := by omega
    subst e
    rw [← hl, List.take_length, List.drop_length, List.append_nil]
    exact insertIn_end v i xs ys w B yb hown h1y hyl hn hB hy

end Go.Proofs.Ytckonmlcgfbojaa
