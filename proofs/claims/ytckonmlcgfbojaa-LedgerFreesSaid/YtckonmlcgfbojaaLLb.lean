/- The walk of the law LedgerNew. -/
import Derived.Test.YtckonmlcgfbojaaLLa
import Derived.Test.YtckonmlcgfbojaaLWkF
import Derived.Test.YtckonmlcgfbojaaHeld
import Derived.StillTailTactics
import Derived.IntWalk
import Derived.Laws.BytesArg
namespace Go.Proofs.Ytckonmlcgfbojaa
open Go.RowKit

def I64n (n : Int) : Prop := -9223372036854775808 ≤ n ∧ n ≤ 9223372036854775807
theorem Try.oneByte (w : World) (b : Nat) (n : Int) (h : w.cell? ⟨b, 0, none⟩ = some (.int .u8 n)) : (convert 26 9 (.slice (some ⟨b, 0, none⟩) 1 1)).run Try.prog w = .ok (.string (strOfNums [n])) w :=
  run_convert_bytes_arg w _ 5 Try.underlying26 Try.underlying5 b 0 1 1 [n] rfl (fun i hi => match i, hi with | 0, _ => h) _ Try.underlying9

theorem set_ends2 {w : World} {b : Nat} {a0 a1 a2 a3 a4 a5 a6 : Value} {t : TypeId} (h : w.heap[b]? = some (.cells #[a0, a1, a2, a3, a4, a5, a6] t (0, 0))) (x y : Value) :
    ((w.setCell ⟨b, 0, none⟩ x).setCell ⟨b, 1, none⟩ y).heap[b]? = some (.cells #[x, y, a2, a3, a4, a5, a6] t (0, 0)) := by
  simp [World.setCell, Array.getElem?_modify, h]
theorem set7f2 {w : World} {b : Nat} {a0 a1 a2 a3 a4 a5 a6 : Value} {t : TypeId} (h : w.heap[b]? = some (.cells #[a0, a1, a2, a3, a4, a5, a6] t (0, 0))) (x : Value) :
    (w.setCell ⟨b, 2, none⟩ x).heap[b]? = some (.cells #[a0, a1, x, a3, a4, a5, a6] t (0, 0)) := by
  simp [World.setCell, Array.getElem?_modify, h]
theorem set7f4 {w : World} {b : Nat} {a0 a1 a2 a3 a4 a5 a6 : Value} {t : TypeId} (h : w.heap[b]? = some (.cells #[a0, a1, a2, a3, a4, a5, a6] t (0, 0))) (x : Value) :
    (w.setCell ⟨b, 4, none⟩ x).heap[b]? = some (.cells #[a0, a1, a2, a3, x, a5, a6] t (0, 0)) := by
  simp [World.setCell, Array.getElem?_modify, h]
theorem set7f3 {w : World} {b : Nat} {a0 a1 a2 a3 a4 a5 a6 : Value} {t : TypeId} (h : w.heap[b]? = some (.cells #[a0, a1, a2, a3, a4, a5, a6] t (0, 0))) (x : Value) :
    (w.setCell ⟨b, 3, none⟩ x).heap[b]? = some (.cells #[a0, a1, a2, x, a4, a5, a6] t (0, 0)) := by
  simp [World.setCell, Array.getElem?_modify, h]
/-- A counter as it comes in. -/
structure CtI (c : Ct) : Prop where
  key : c.key.size ≤ maxLen
  coll : I64n c.coll
  lo : I64n c.lo
  hi : I64n c.hi
  start : I64n c.start

/-- Behind k counters of the law's own. -/
structure LN (w : World) (l : List Ct) (k : Nat) (X : List Ct) (v : Value) (wr : World) : Prop where
  le : k ≤ l.length
  len : X.length = k
  row : wr.ownsRow w.heap.size 25 7 v X.length (cellsT cCt X)
  key : ∀ c ∈ X, c.key.size ≤ 1000
  bel : Below w.heap.size w wr

set_option maxRecDepth 100000 in
set_option maxHeartbeats 8000000 in
theorem lnew_walk (v : Value) (l : List Ct) (ids : Int) (sm : Bool) (w : World) (h : SlCt w v l) (hI : ∀ c ∈ l, CtI c) (hid : I64n ids) :
    Calls Try.prog 3 #[v, .int .i64 ids, .bool sm] w fun e w' => e = .returned (.bool true) ∧ Below w.heap.size w w' := by
  obtain ⟨ao, cap, rfl, hcap, hm⟩ := Sl.shape h
  have HI := Lib.hid hI
  clear hI
  go_enter Try.func3, Try.ntmps3
  go_wp2_with fail
  refine (known_any _).mono ?_
  rintro e w0 ⟨rfl, hb0⟩
  by_cases h8 : 8 < l.length
  · have g8 : (8 : Int) < l.length := by omega
    go_wp2
    go_ret
    exact ⟨rfl, hb0⟩
  have g8 : decide (8 < (l.length : Int)) = false := by simp; omega
  have g8' : decide (8 < l.length) = false := by simp; omega
  go_upto_block 0 with fail
  have hst : LN w l 0 [] (.slice none 0 0) w0 := ⟨Nat.zero_le _, rfl, World.ownsRow_nil _ _ _ _, by simp, hb0⟩
  go_cut [7] (fun v7 wx => ∃ X, LN w l l.length X v7 wx)
  case first =>
    go_wp2
    go_loopw [7, 8] (fun v7 v8 wr => ∃ (k : Nat) (X : List Ct), v8 = .int .i64 k ∧ LN w l k X v7 wr) (fun _ v8 _ => l.length - (intOf v8).toNat)
    case atStart => exact ⟨0, [], rfl, hst⟩
    case round =>
      clear hst g8 g8' hb0
      obtain ⟨k, X, rfl, hN⟩ := hrel
      rcases Nat.lt_or_ge k l.length with hlt | hge
      · obtain ⟨b, off, rfl, hbl, c0, c1, c2, c3, c4, c5, c6⟩ := h.ct hN.bel (Nat.le_refl _) k hlt
        have HC := Lib.hid (HI.out l[k] (List.getElem_mem hlt))
        have klt : (k : Int) < l.length := by omega
        have kl8 : (k : Int) < 8 := by omega
        have hz := hN.bel.size
        have HN := Lib.hid hN
        obtain ⟨aov, capv, rfl, _, _⟩ := owns_shape hN.row
        clear hN
        generalize l[k] = c at *
        obtain ⟨r1, r2, r3, r4, r5, r6, r7⟩ := c
        obtain ⟨hc1, hc2, hc3, hc4, hc5⟩ := HC.out
        simp only at c0 c1 c2 c3 c4 c5 c6 hc1 hc2 hc3 hc4 hc5
        unfold maxLen at hc1
        by_cases hk60 : 60 < r1.size
        · have g60 : (60 : Int) < r1.size := by omega
          go_wp2
          go_ret
          exact ⟨rfl, HN.out.bel.alloc hz _⟩
        · have g60 : decide (60 < (r1.size : Int)) = false := by simp; omega
          have g60' : decide (60 < r1.size) = false := by simp; omega
          have HNEW := Lib.hid (heap_alloc_new wr (.cells #[.string r1, .int .i64 r2, .int .i64 r3, .int .i64 r4, .int .i64 r5, .int .i64 r6, .int .i64 r7] 25))
          have hzG : wr.heap.size < (wr.alloc (.cells #[.string r1, .int .i64 r2, .int .i64 r3, .int .i64 r4, .int .i64 r5, .int .i64 r6, .int .i64 r7] 25)).heap.size := by simp
          have HBA := Lib.hid (HN.out.bel.alloc hz (.cells #[.string r1, .int .i64 r2, .int .i64 r3, .int .i64 r4, .int .i64 r5, .int .i64 r6, .int .i64 r7] 25))
          have HRA := Lib.hid (HN.out.row.alloc (.cells #[.string r1, .int .i64 r2, .int .i64 r3, .int .i64 r4, .int .i64 r5, .int .i64 r6, .int .i64 r7] 25))
          go_upto_if 37 with fail
          generalize wr.alloc (.cells #[.string r1, .int .i64 r2, .int .i64 r3, .int .i64 r4, .int .i64 r5, .int .i64 r6, .int .i64 r7] 25) = w7 at *
          clear c0 c1 c2 c3 c4 c5 c6
          go_cut [] (fun wx => ∃ c : Ct, wx.heap[wr.heap.size]? = some (.cells #[.string c.key, .int .i64 c.coll, .int .i64 c.lo, .int .i64 c.hi, .int .i64 c.start, .int .i64 c.up, .int .i64 c.down] 25 (0, 0)) ∧ c.key.size ≤ 1000 ∧ wx.ownsRow w.heap.size 25 7 (.slice aov X.length capv) X.length (cellsT cCt X) ∧ Below w.heap.size w wx)
          case first =>
            cases sm with
            | false =>
              go_wp2
              go_meet
              exact ⟨⟨r1, r2, r3, r4, r5, r6, r7⟩, HNEW.out, by show r1.size ≤ 1000; omega, HRA.out, HBA.out⟩
            | true =>
              go_upto_region 13 with fail
              go_cut [] (fun wx => ∃ (s' : ByteArray) (q : Int), wx.heap[wr.heap.size]? = some (.cells #[.string s', .int .i64 q, .int .i64 r3, .int .i64 r4, .int .i64 r5, .int .i64 r6, .int .i64 r7] 25 (0, 0)) ∧ s'.size ≤ 1000 ∧ wx.ownsRow w.heap.size 25 7 (.slice aov X.length capv) X.length (cellsT cCt X) ∧ Below w.heap.size w wx)
              case first =>
                have hS0 : Below w7.heap.size w7 w7.drew := (Below.refl _ _).drew
                have HW3 : r1.size + (strOfNums [97 + (k : Int)]).size ≤ 9223372036854775807 := by rw [strOfNums_size]; simp; omega
                have HW1 : IntKind.i64.wrap (97 + (k : Int)) = 97 + (k : Int) := IntWalk.i64_in _ (by omega)
                have HW2 : IntKind.u8.wrap (97 + (k : Int)) = 97 + (k : Int) := IntWalk.u8_in _ (by omega)
                refine wp_region_T 12 (fun w' => Below w7.heap.size w7 w') (by kernel_rfl) ?_
                refine anyT_take (i := 0) (v := .pointer (some ⟨wr.heap.size, 0, none⟩)) rfl rfl (by kernel_rfl) (by kernel_rfl) (by kernel_rfl) (by kernel_rfl) (by kernel_rfl) (by decide) (fun _ _ _ h => h) (.inl ⟨rfl, fun w' hw => ?_⟩) hS0 ?_
                · go_simp
                refine anyT_take (i := 2) (v := .int .i64 k) rfl rfl (by kernel_rfl) (by kernel_rfl) (by kernel_rfl) (by kernel_rfl) (by kernel_rfl) (by decide) (fun _ _ _ h => h) (.inl ⟨rfl, fun w' hw => ?_⟩) hS0 ?_
                · go_simp
                refine anyT_take (i := 8) (v := .pointer (some ⟨wr.heap.size, 1, none⟩)) rfl rfl (by kernel_rfl) (by kernel_rfl) (by kernel_rfl) (by kernel_rfl) (by kernel_rfl) (by decide) (fun _ _ _ h => h) (.inl ⟨rfl, fun w' hw => ?_⟩) hS0 ?_
                · go_simp
                refine anyT_take (i := 1) (v := .string r1) rfl rfl (by kernel_rfl) (by kernel_rfl) (by kernel_rfl) (by kernel_rfl) (by kernel_rfl) (by decide) (fun _ _ _ h => h) (.inl ⟨rfl, fun w' hw => ?_⟩) hS0 ?_
                · obtain ⟨n0, n1, n2, n3, n4, n5, n6, _⟩ := seven_cells (block_below HNEW.out hw hzG)
                  go_simp
                refine anyT_take (i := 3) (v := .int .i64 (97 + k)) rfl rfl (by kernel_rfl) (by kernel_rfl) (by kernel_rfl) (by kernel_rfl) (by kernel_rfl) (by decide) (fun _ _ _ h => h) (.inl ⟨rfl, fun w' hw => ?_⟩) hS0 ?_
                · first | (go_simp; done) | (go_simp; exact HW1)
                refine anyT_take (i := 9) (v := .int .i64 r2) rfl rfl (by kernel_rfl) (by kernel_rfl) (by kernel_rfl) (by kernel_rfl) (by kernel_rfl) (by decide) (fun _ _ _ h => h) (.inl ⟨rfl, fun w' hw => ?_⟩) hS0 ?_
                · obtain ⟨n0, n1, n2, n3, n4, n5, n6, _⟩ := seven_cells (block_below HNEW.out hw hzG)
                  go_simp
                refine anyT_take (i := 4) (v := .int .u8 (97 + k)) rfl rfl (by kernel_rfl) (by kernel_rfl) (by kernel_rfl) (by kernel_rfl) (by kernel_rfl) (by decide) (fun _ _ _ h => h) (.inl ⟨rfl, fun w' hw => ?_⟩) hS0 ?_
                · first | (go_simp; done) | (go_simp; exact HW2)
                refine anyT_two (i := 5) (j := 10) (by kernel_rfl) rfl rfl rfl rfl ?_ ?_
                · go_simp
                  have hb8 : Below w7.heap.size w7 (w7.alloc (.cells #[.int .u8 (97 + k)] 5)).drew := ((Below.refl _ _).alloc (Nat.le_refl _) _).drew
                  have hn8 : (w7.alloc (.cells #[.int .u8 (97 + k)] 5)).drew.heap[w7.heap.size]? = some (.cells #[.int .u8 (97 + k)] 5 (0, 0)) := heap_alloc_new w7 _
                  have hz8 : w7.heap.size < (w7.alloc (.cells #[.int .u8 (97 + k)] 5)).drew.heap.size := by simp [World.drew]
                  refine ⟨hb8, ?_⟩
                  have HN8 := Lib.hid hn8
                  clear hn8
                  generalize (w7.alloc (.cells #[.int .u8 (97 + k)] 5)).drew = w8 at *
                  refine anyT_more (S' := fun w' => Below w7.heap.size w7 w' ∧ Below w8.heap.size w8 w') (fun _ h => h.1) _ _ _ _ ?_
                  refine anyT_take (i := 6) (v := .string (strOfNums [97 + k])) rfl rfl (by kernel_rfl) (by kernel_rfl) (by kernel_rfl) (by kernel_rfl) (by kernel_rfl) (by decide) (fun _ _ _ h => h) (.inl ⟨rfl, fun w' hw => ?_⟩) ⟨hb8, Below.refl _ _⟩ ?_
                  · obtain ⟨m0, _, _⟩ := one_cell (block_below HN8.out hw.2 hz8)
                    have hcv := Try.oneByte _ _ _ m0
                    go_simp
                  refine anyT_take (i := 7) (v := .string (r1 ++ strOfNums [97 + k])) rfl rfl (by kernel_rfl) (by kernel_rfl) (by kernel_rfl) (by kernel_rfl) (by kernel_rfl) (by decide) (fun _ _ _ h => h) (.inl ⟨rfl, fun w' hw => ?_⟩) ⟨hb8, Below.refl _ _⟩ ?_
                  · go_simp
                  refine anyT_take (i := 11) (v := .pointer (some ⟨wr.heap.size, 0, none⟩)) rfl rfl (by kernel_rfl) (by kernel_rfl) (by kernel_rfl) (by kernel_rfl) (by kernel_rfl) (by decide) (fun _ _ _ h => h) (.inl ⟨rfl, fun w' hw => ?_⟩) ⟨hb8, Below.refl _ _⟩ ?_
                  · go_simp
                  refine anyT_one (i := 10) (by kernel_rfl) rfl rfl ?_
                  go_simp
                  refine (wi_any r2 3 _ (by omega) (by omega)).mono ?_
                  rintro e w9 ⟨rfl, rfl⟩
                  refine ⟨⟨hb8, Below.refl _ _⟩, ?_⟩
                  have hbX := hb8
                  have hk9 := block_below HNEW.out hbX hzG
                  obtain ⟨n0, n1, n2, n3, n4, n5, n6, _⟩ := seven_cells hk9
                  have f0 := seven_free hk9 0
                  have f1 := seven_free hk9 1
                  have HK9 := Lib.hid hk9
                  have HRX := Lib.hid (owns_keep HRA.out hbX (Nat.le_refl _))
                  have HBX := Lib.hid (HBA.out.trans (hbX.mono HBA.out.size))
                  clear hk9
                  refine anyT_one (i := 12) (by kernel_rfl) rfl rfl ?_
                  go_simp
                  refine anyT_one (i := 13) (by kernel_rfl) rfl rfl ?_
                  go_simp
                  refine anyT_one (i := 14) (by kernel_rfl) rfl rfl ?_
                  go_simp
                  refine anyT_done (by kernel_rfl) ?_
                  go_wp2
                  go_meet
                  refine ⟨_, _, set_ends2 HK9.out _ _, ?_, owns_ne HRX.out (fun c hc => set_ne2 _ _ c hc 0 1 _ _) (fun e => by have := (HN.out.row.lt _ e).2; omega), (HBX.out.setCell hz _).setCell hz _⟩
                  rw [ByteArray.size_append, strOfNums_size]
                  simp; omega
                · go_simp
                  refine (wi_any r2 3 _ (by omega) (by omega)).mono ?_
                  rintro e w9 ⟨rfl, rfl⟩
                  refine ⟨hS0, ?_⟩
                  refine anyT_one (i := 5) (by kernel_rfl) rfl rfl ?_
                  go_simp
                  have hb8 : Below w7.heap.size w7 (w7.alloc (.cells #[.int .u8 (97 + k)] 5)).drew := ((Below.refl _ _).alloc (Nat.le_refl _) _).drew
                  have hn8 : (w7.alloc (.cells #[.int .u8 (97 + k)] 5)).drew.heap[w7.heap.size]? = some (.cells #[.int .u8 (97 + k)] 5 (0, 0)) := heap_alloc_new w7 _
                  have hz8 : w7.heap.size < (w7.alloc (.cells #[.int .u8 (97 + k)] 5)).drew.heap.size := by simp [World.drew]
                  refine ⟨hb8, ?_⟩
                  have HN8 := Lib.hid hn8
                  clear hn8
                  generalize (w7.alloc (.cells #[.int .u8 (97 + k)] 5)).drew = w8 at *
                  have hcv := Try.oneByte _ _ _ (one_cell HN8.out).1
                  refine anyT_one (i := 6) (by kernel_rfl) rfl rfl ?_
                  go_simp
                  try refine ⟨hb8, ?_⟩
                  refine anyT_take (i := 7) (v := .string (r1 ++ strOfNums [97 + k])) rfl rfl (by kernel_rfl) (by kernel_rfl) (by kernel_rfl) (by kernel_rfl) (by kernel_rfl) (by decide) (fun _ _ _ h => h) (.inl ⟨rfl, fun w' hw => ?_⟩) hb8 ?_
                  · go_simp
                  refine anyT_one (i := 11) (by kernel_rfl) rfl rfl ?_
                  go_simp
                  try refine ⟨hb8, ?_⟩
                  have hbX := hb8
                  have hk9 := block_below HNEW.out hbX hzG
                  obtain ⟨n0, n1, n2, n3, n4, n5, n6, _⟩ := seven_cells hk9
                  have f0 := seven_free hk9 0
                  have f1 := seven_free hk9 1
                  have HK9 := Lib.hid hk9
                  have HRX := Lib.hid (owns_keep HRA.out hbX (Nat.le_refl _))
                  have HBX := Lib.hid (HBA.out.trans (hbX.mono HBA.out.size))
                  clear hk9
                  refine anyT_one (i := 12) (by kernel_rfl) rfl rfl ?_
                  go_simp
                  refine anyT_one (i := 13) (by kernel_rfl) rfl rfl ?_
                  go_simp
                  refine anyT_one (i := 14) (by kernel_rfl) rfl rfl ?_
                  go_simp
                  refine anyT_done (by kernel_rfl) ?_
                  go_wp2
                  go_meet
                  refine ⟨_, _, set_ends2 HK9.out _ _, ?_, owns_ne HRX.out (fun c hc => set_ne2 _ _ c hc 0 1 _ _) (fun e => by have := (HN.out.row.lt _ e).2; omega), (HBX.out.setCell hz _).setCell hz _⟩
                  rw [ByteArray.size_append, strOfNums_size]
                  simp; omega
              case rest =>
              obtain ⟨s', q, hk, hs', hrow, hbel⟩ := hcut
              obtain ⟨n0, n1, n2, n3, n4, n5, n6, _⟩ := seven_cells hk
              have f2 := seven_free hk 2
              have q1 := Int.emod_nonneg r3 (show (50 : Int) ≠ 0 by omega)
              have q2 := Int.emod_lt_of_pos r3 (show (0 : Int) < 50 by omega)
              have q3 := Int.emod_nonneg r5 (show (20 : Int) ≠ 0 by omega)
              have q4 := Int.emod_lt_of_pos r5 (show (0 : Int) < 20 by omega)
              have q5 := Int.emod_nonneg r4 (show (20 : Int) ≠ 0 by omega)
              have q6 := Int.emod_lt_of_pos r4 (show (0 : Int) < 20 by omega)
              have HK := Lib.hid hk
              have HRX := Lib.hid hrow
              have HBX := Lib.hid hbel
              have hGlt : ∀ e, (Value.slice aov X.length capv).ownBlock = some e → e < wr.heap.size := fun e he => (HN.out.row.lt _ he).2
              have HGL := Lib.hid hGlt
              clear hk hrow hbel hGlt HNEW HBA HRA
              go_wp2_with ((go_at_call 11; refine (wi_any _ _ _ (by omega) (by omega)).mono ?_); rintro e w9 ⟨rfl, rfl⟩)
              have hk2 := set7f2 HK.out (.int .i64 (r3 % 50 - 25))
              have hr2 := owns_ne HRX.out (fun c hc => set_ne wc ⟨wr.heap.size, 2, none⟩ c (fun e => hc e.symm) (.int .i64 (r3 % 50 - 25))) (fun e => absurd (HGL.out _ e) (Nat.lt_irrefl _))
              have hb2 := HBX.out.setCell (p := ⟨wr.heap.size, 2, none⟩) hz (.int .i64 (r3 % 50 - 25))
              have q7 : -25 ≤ r3 % 50 - 25 ∧ r3 % 50 - 25 ≤ 24 := by omega
              obtain ⟨q8, q9⟩ := q7
              clear n0 n1 n2 n3 n4 n5 n6 f2 q1 q2
              generalize r3 % 50 - 25 = lo at *
              generalize wc.setCell ⟨wr.heap.size, 2, none⟩ (.int .i64 lo) = w2 at *
              obtain ⟨n0, n1, n2, n3, n4, n5, n6, _⟩ := seven_cells hk2
              have i1 : IntKind.i64.wrap (lo + r5 % 20) = lo + r5 % 20 := IntWalk.i64_in _ (by omega)
              have HK2 := Lib.hid hk2
              clear hk2
              refine wp_region_still_tail 7 (by kernel_rfl) (by kernel_rfl) ?_
              simp only [List.take_succ_cons, List.take_zero, List.drop_succ_cons, List.drop_zero]
              repeat (first | still_call (wi_still _ _ _ (by decide) (by decide)) | still_step)
              refine wpStill_nil ?_
              change wpList _ _ _ _ _ w2.drew
              have hk3 : w2.drew.heap[wr.heap.size]? = some (.cells #[.string s', .int .i64 q, .int .i64 lo, .int .i64 r4, .int .i64 r5, .int .i64 r6, .int .i64 r7] 25 (0, 0)) := HK2.out
              have hr3 : w2.drew.ownsRow w.heap.size 25 7 (.slice aov X.length capv) X.length (cellsT cCt X) := hr2
              have hb3 : Below w.heap.size w w2.drew := hb2.drew
              clear n0 n1 n2 n3 n4 n5 n6 hr2 hb2 HK2 i1
              generalize w2.drew = w3 at *
              have hk4 := set7f4 hk3 (.int .i64 (lo + r5 % 20))
              have hr4 := owns_ne hr3 (fun c hc => set_ne w3 ⟨wr.heap.size, 4, none⟩ c (fun e => hc e.symm) (.int .i64 (lo + r5 % 20))) (fun e => absurd (HGL.out _ e) (Nat.lt_irrefl _))
              have hb4 := hb3.setCell (p := ⟨wr.heap.size, 4, none⟩) hz (.int .i64 (lo + r5 % 20))
              obtain ⟨n0, n1, n2, n3, n4, n5, n6, _⟩ := seven_cells hk3
              have f4 := seven_free hk3 4
              have HK4 := Lib.hid hk4
              clear hk3 hr3 hb3 hk4
              go_wp2
              have hst : -25 ≤ lo + r5 % 20 ∧ lo + r5 % 20 ≤ 43 := by omega
              generalize lo + r5 % 20 = st at *
              generalize w3.setCell ⟨wr.heap.size, 4, none⟩ (.int .i64 st) = w4 at *
              clear n0 n1 n2 n3 n4 n5 n6 f4
              obtain ⟨n0, n1, n2, n3, n4, n5, n6, _⟩ := seven_cells HK4.out
              have q10 : -25 ≤ st ∧ st ≤ 43 := hst
              obtain ⟨q11, q12⟩ := q10
              clear hst
              have i1 : IntKind.i64.wrap (st + r4 % 20) = st + r4 % 20 := IntWalk.i64_in _ (by omega)
              refine wp_region_still_tail 7 (by kernel_rfl) (by kernel_rfl) ?_
              simp only [List.take_succ_cons, List.take_zero, List.drop_succ_cons, List.drop_zero]
              repeat (first | still_call (wi_still _ _ _ (by decide) (by decide)) | still_step)
              refine wpStill_nil ?_
              change wpList _ _ _ _ _ w4.drew
              have hk5 : w4.drew.heap[wr.heap.size]? = some (.cells #[.string s', .int .i64 q, .int .i64 lo, .int .i64 r4, .int .i64 st, .int .i64 r6, .int .i64 r7] 25 (0, 0)) := HK4.out
              have hr5 : w4.drew.ownsRow w.heap.size 25 7 (.slice aov X.length capv) X.length (cellsT cCt X) := hr4
              have hb5 : Below w.heap.size w w4.drew := hb4.drew
              clear n0 n1 n2 n3 n4 n5 n6 hr4 hb4 HK4 i1
              generalize w4.drew = w5 at *
              have hk6 := set7f3 hk5 (.int .i64 (st + r4 % 20))
              have hr6 := owns_ne hr5 (fun c hc => set_ne w5 ⟨wr.heap.size, 3, none⟩ c (fun e => hc e.symm) (.int .i64 (st + r4 % 20))) (fun e => absurd (HGL.out _ e) (Nat.lt_irrefl _))
              have hb6 := hb5.setCell (p := ⟨wr.heap.size, 3, none⟩) hz (.int .i64 (st + r4 % 20))
              obtain ⟨n0, n1, n2, n3, n4, n5, n6, _⟩ := seven_cells hk5
              have f3 := seven_free hk5 3
              have HK6 := Lib.hid hk6
              clear hk5 hr5 hb5 hk6
              go_wp2
              go_meet
              exact ⟨⟨s', q, lo, st + r4 % 20, st, r6, r7⟩, HK6.out, hs', hr6, hb6⟩
          case rest =>
          obtain ⟨c, hk, hck, hrow, hbel⟩ := hcut
          obtain ⟨x1, x2, x3, x4, x5, x6, x7⟩ := c
          simp only at hk hck
          obtain ⟨n0, n1, n2, n3, n4, n5, n6, _⟩ := seven_cells hk
          have HRX := Lib.hid hrow
          have HRD : Hid (∀ (W : World) (B : Nat), W.heap.size = B → Rd (W.alloc (.cells #[.string x1, .int .i64 x2, .int .i64 x3, .int .i64 x4, .int .i64 x5, .int .i64 x6, .int .i64 x7] 25)) (some ⟨B, 0, none⟩) (cellsT cCt [⟨x1, x2, x3, x4, x5, x6, x7⟩])) := fun W B hW => rd_new W _ hW [.string x1, .int .i64 x2, .int .i64 x3, .int .i64 x4, .int .i64 x5, .int .i64 x6, .int .i64 x7] _
          have hxl : X.length < 8 := by have := HN.out.len; omega
          have hz2 := hbel.size
          clear hk hrow HNEW HBA HRA
          go_wp2_with ((with_reducible refine at_slot 73 ?_); refine append_Ct rfl _ _ rfl w.heap.size _ X.length X rfl (HRX.out.alloc _) _ 1 1 [⟨x1, x2, x3, x4, x5, x6, x7⟩] rfl rfl (HRD.out _ _ rfl) (by omega) (by simp; omega) ?_; intro v6 w6 ho6 hg6 hat6)
          have hb6 : Below w.heap.size w w6 := (hbel.alloc hz2 _).grown hg6 (by simp; omega) (fun g hg => by have := owns_ge HRX.out g hg; omega)
          go_roundw
          case rel =>
            refine ⟨k + 1, X ++ [⟨x1, x2, x3, x4, x5, x6, x7⟩], by go_num, ⟨by omega, by rw [List.length_append, HN.out.len]; rfl, by rw [List.length_append]; exact ho6, fun c hc => ?_, hb6⟩⟩
            rcases List.mem_append.1 hc with hc | hc
            · exact HN.out.key c hc
            · rw [List.mem_singleton.1 hc]; exact hck
          case measure => simp [intOf]; omega
      · have hk : k = l.length := by have := hN.le; omega
        subst hk
        have HN := Lib.hid hN
        clear hN
        go_wp2
        go_meet
        exact ⟨X, HN.out⟩
  case rest =>
  obtain ⟨X, hN⟩ := hcut
  have hxs := sl_of_owns hN.row
  have HX : Hid (SlCt wc _ X) := Lib.hid hxs
  have HK : Hid (∀ c ∈ X, c.key.size ≤ maxLen) := Lib.hid (fun c hc => Nat.le_trans (hN.key c hc) (by unfold maxLen; omega))
  have HB := Lib.hid hN.bel
  obtain ⟨hid1, hid2⟩ := hid
  have j1 := Int.emod_nonneg ids (show (1001 : Int) ≠ 0 by omega)
  have j2 := Int.emod_lt_of_pos ids (show (0 : Int) < 1001 by omega)
  obtain ⟨A, e1, hA⟩ : ∃ A e1, newS X ids = (A, e1) := ⟨(newS X ids).1, (newS X ids).2, rfl⟩
  obtain ⟨B, e2, hB⟩ : ∃ B e2, newS X (ids % 1001) = (B, e2) := ⟨(newS X (ids % 1001)).1, (newS X (ids % 1001)).2, rfl⟩
  have HA := Lib.hid hA
  have HBB := Lib.hid hB
  have hz0 := hN.bel.size
  obtain ⟨xao, xcap, rfl, _, _⟩ := owns_shape hN.row
  clear hN hxs hA hB hst hb0 g8 g8'
  go_wp2_with fail
  refine (new_any _ X ids _ (SlT.keep HX.out (Below.refl _ _) (Nat.le_refl _)) HK.out).mono ?_
  rw [HA.out]
  rintro e w1 ⟨⟨⟨c1a, c1n, c1c⟩, ⟨f1a, f1n, f1c⟩, ⟨l1a, l1n, l1c⟩, ⟨b1a, b1n, b1c⟩⟩, rfl, hm1, hb1⟩
  have hbv1 : Below wc.heap.size wc w1 := hb1
  have hbw1 : Below wc.heap.size wc (w1.alloc (.cells #[.slice c1a c1n c1c, .slice f1a f1n f1c, .slice l1a l1n l1c, .slice b1a b1n b1c] 32)) := hbv1.alloc hbv1.size _
  have hr1 : Below w1.heap.size w1 (w1.alloc (.cells #[.slice c1a c1n c1c, .slice f1a f1n f1c, .slice l1a l1n l1c, .slice b1a b1n b1c] 32)) := (Below.refl _ _).alloc (Nat.le_refl _) _
  have HM1 := Lib.hid (hm1.keep hr1 (Nat.le_refl _))
  have HN1 := Lib.hid (heap_alloc_new w1 (.cells #[.slice c1a c1n c1c, .slice f1a f1n f1c, .slice l1a l1n l1c, .slice b1a b1n b1c] 32))
  have hzn1 : w1.heap.size < (w1.alloc (.cells #[.slice c1a c1n c1c, .slice f1a f1n f1c, .slice l1a l1n l1c, .slice b1a b1n b1c] 32)).heap.size := by simp
  have HR1 := Lib.hid hr1
  have HQ1 := Lib.hid hb1
  clear hm1 hr1 hb1
  go_wp2_with fail
  generalize w1.alloc (.cells #[.slice c1a c1n c1c, .slice f1a f1n f1c, .slice l1a l1n l1c, .slice b1a b1n b1c] 32) = u1 at *
  refine (rnew_any _ X ids _ (SlT.keep HX.out hbw1 (Nat.le_refl _)) HK.out).mono ?_
  rw [HA.out]
  rintro e w2 ⟨⟨⟨c2a, c2n, c2c⟩, ⟨f2a, f2n, f2c⟩, ⟨l2a, l2n, l2c⟩, ⟨b2a, b2n, b2c⟩⟩, rfl, hm2, hb2⟩
  have hbv2 : Below wc.heap.size wc w2 := hbw1.trans (hb2.mono hbw1.size)
  have hbw2 : Below wc.heap.size wc (w2.alloc (.cells #[.slice c2a c2n c2c, .slice f2a f2n f2c, .slice l2a l2n l2c, .slice b2a b2n b2c] 32)) := hbv2.alloc hbv2.size _
  have hr2 : Below w2.heap.size w2 (w2.alloc (.cells #[.slice c2a c2n c2c, .slice f2a f2n f2c, .slice l2a l2n l2c, .slice b2a b2n b2c] 32)) := (Below.refl _ _).alloc (Nat.le_refl _) _
  have HM2 := Lib.hid (hm2.keep hr2 (Nat.le_refl _))
  have HN2 := Lib.hid (heap_alloc_new w2 (.cells #[.slice c2a c2n c2c, .slice f2a f2n f2c, .slice l2a l2n l2c, .slice b2a b2n b2c] 32))
  have hzn2 : w2.heap.size < (w2.alloc (.cells #[.slice c2a c2n c2c, .slice f2a f2n f2c, .slice l2a l2n l2c, .slice b2a b2n b2c] 32)).heap.size := by simp
  have HR2 := Lib.hid hr2
  have HQ2 := Lib.hid hb2
  clear hm2 hr2 hb2
  go_wp2_with ((go_at_call 11; refine (wi_any _ _ _ (by omega) (by omega)).mono ?_); rintro e w9 ⟨rfl, rfl⟩)
  generalize w2.alloc (.cells #[.slice c2a c2n c2c, .slice f2a f2n f2c, .slice l2a l2n l2c, .slice b2a b2n b2c] 32) = u2 at *
  refine (new_any _ X (ids % 1001) _ (SlT.keep HX.out hbw2 (Nat.le_refl _)) HK.out).mono ?_
  rw [HBB.out]
  rintro e w3 ⟨⟨⟨c3a, c3n, c3c⟩, ⟨f3a, f3n, f3c⟩, ⟨l3a, l3n, l3c⟩, ⟨b3a, b3n, b3c⟩⟩, rfl, hm3, hb3⟩
  have hbv3 : Below wc.heap.size wc w3 := hbw2.trans (hb3.mono hbw2.size)
  have hbw3 : Below wc.heap.size wc (w3.alloc (.cells #[.slice c3a c3n c3c, .slice f3a f3n f3c, .slice l3a l3n l3c, .slice b3a b3n b3c] 32)) := hbv3.alloc hbv3.size _
  have hr3 : Below w3.heap.size w3 (w3.alloc (.cells #[.slice c3a c3n c3c, .slice f3a f3n f3c, .slice l3a l3n l3c, .slice b3a b3n b3c] 32)) := (Below.refl _ _).alloc (Nat.le_refl _) _
  have HM3 := Lib.hid (hm3.keep hr3 (Nat.le_refl _))
  have HN3 := Lib.hid (heap_alloc_new w3 (.cells #[.slice c3a c3n c3c, .slice f3a f3n f3c, .slice l3a l3n l3c, .slice b3a b3n b3c] 32))
  have hzn3 : w3.heap.size < (w3.alloc (.cells #[.slice c3a c3n c3c, .slice f3a f3n f3c, .slice l3a l3n l3c, .slice b3a b3n b3c] 32)).heap.size := by simp
  have HR3 := Lib.hid hr3
  have HQ3 := Lib.hid hb3
  clear hm3 hr3 hb3
  go_wp2_with ((go_at_call 11; refine (wi_any _ _ _ (by omega) (by omega)).mono ?_); rintro e w9 ⟨rfl, rfl⟩)
  generalize w3.alloc (.cells #[.slice c3a c3n c3c, .slice f3a f3n f3c, .slice l3a l3n l3c, .slice b3a b3n b3c] 32) = u3 at *
  refine (rnew_any _ X (ids % 1001) _ (SlT.keep HX.out hbw3 (Nat.le_refl _)) HK.out).mono ?_
  rw [HBB.out]
  rintro e w4 ⟨⟨⟨c4a, c4n, c4c⟩, ⟨f4a, f4n, f4c⟩, ⟨l4a, l4n, l4c⟩, ⟨b4a, b4n, b4c⟩⟩, rfl, hm4, hb4⟩
  have hbv4 : Below wc.heap.size wc w4 := hbw3.trans (hb4.mono hbw3.size)
  have hbw4 : Below wc.heap.size wc (w4.alloc (.cells #[.slice c4a c4n c4c, .slice f4a f4n f4c, .slice l4a l4n l4c, .slice b4a b4n b4c] 32)) := hbv4.alloc hbv4.size _
  have hr4 : Below w4.heap.size w4 (w4.alloc (.cells #[.slice c4a c4n c4c, .slice f4a f4n f4c, .slice l4a l4n l4c, .slice b4a b4n b4c] 32)) := (Below.refl _ _).alloc (Nat.le_refl _) _
  have HM4 := Lib.hid (hm4.keep hr4 (Nat.le_refl _))
  have HN4 := Lib.hid (heap_alloc_new w4 (.cells #[.slice c4a c4n c4c, .slice f4a f4n f4c, .slice l4a l4n l4c, .slice b4a b4n b4c] 32))
  have hzn4 : w4.heap.size < (w4.alloc (.cells #[.slice c4a c4n c4c, .slice f4a f4n f4c, .slice l4a l4n l4c, .slice b4a b4n b4c] 32)).heap.size := by simp
  have HR4 := Lib.hid hr4
  have HQ4 := Lib.hid hb4
  clear hm4 hr4 hb4
  generalize hu4 : w4.alloc (.cells #[.slice c4a c4n c4c, .slice f4a f4n f4c, .slice l4a l4n l4c, .slice b4a b4n b4c] 32) = u4 at *
  have HU4 := Lib.hid hu4
  clear hu4
  have d34 : Below u3.heap.size u3 u4 := HQ4.out.trans (HR4.out.mono HQ4.out.size)
  have d24 : Below u2.heap.size u2 u4 := (HQ3.out.trans (HR3.out.mono HQ3.out.size)).trans (d34.mono (Nat.le_trans HQ3.out.size HR3.out.size))
  have d14 : Below u1.heap.size u1 u4 := (HQ2.out.trans (HR2.out.mono HQ2.out.size)).trans (d24.mono (Nat.le_trans HQ2.out.size HR2.out.size))
  have HM14 := Lib.hid (HM1.out.keep d14 (Nat.le_refl _))
  have HM24 := Lib.hid (HM2.out.keep d24 (Nat.le_refl _))
  have HM34 := Lib.hid (HM3.out.keep d34 (Nat.le_refl _))
  have HB14 := Lib.hid (block_below HN1.out d14 hzn1)
  have HB24 := Lib.hid (block_below HN2.out d24 hzn2)
  have HB34 := Lib.hid (block_below HN3.out d34 hzn3)
  have hz4 : w1.heap.size < u4.heap.size ∧ w2.heap.size < u4.heap.size ∧ w3.heap.size < u4.heap.size := ⟨Nat.lt_of_lt_of_le hzn1 d14.size, Nat.lt_of_lt_of_le hzn2 d24.size, Nat.lt_of_lt_of_le hzn3 d34.size⟩
  obtain ⟨z1, z2, z3⟩ := hz4
  clear d34 d24 d14
  obtain ⟨p0, p1, p2, p3, _⟩ := four_cells HB14.out
  obtain ⟨p4, p5, p6, p7, _⟩ := four_cells HB24.out
  go_upto_region 22 with fail
  rw [HU4.out]
  have eA : decide (A = A) = true := by simp
  go_wp2_with (first
    | ((go_at_call 14; (with_reducible refine (rsame_any ⟨⟨c1a, c1n, c1c⟩, ⟨f1a, f1n, f1c⟩, ⟨l1a, l1n, l1c⟩, ⟨b1a, b1n, b1c⟩⟩ ⟨⟨c2a, c2n, c2c⟩, ⟨f2a, f2n, f2c⟩, ⟨l2a, l2n, l2c⟩, ⟨b2a, b2n, b2c⟩⟩ A A _ HM14.out HM24.out).mono ?_)); rw [eA]; rintro e w8 ⟨rfl, hb8⟩; obtain ⟨p0, p1, p2, p3, _⟩ := four_cells (block_below HB34.out hb8 z3); obtain ⟨p4, p5, p6, p7, _⟩ := four_cells (block_below HN4.out hb8 hzn4); have HM38 := Lib.hid (HM34.out.keep hb8 (Nat.le_refl _)); have HM48 := Lib.hid (HM4.out.keep hb8 (Nat.le_refl _)); have hbe := hbw4.trans (hb8.mono hbw4.size); clear hb8)
    | fail)
  refine (rsame_any ⟨⟨c3a, c3n, c3c⟩, ⟨f3a, f3n, f3c⟩, ⟨l3a, l3n, l3c⟩, ⟨b3a, b3n, b3c⟩⟩ ⟨⟨c4a, c4n, c4c⟩, ⟨f4a, f4n, f4c⟩, ⟨l4a, l4n, l4c⟩, ⟨b4a, b4n, b4c⟩⟩ B B _ HM38.out HM48.out).mono ?_
  rw [show decide (B = B) = true from by simp]
  rintro e w9 ⟨rfl, hb9⟩
  go_wp2
  go_ret
  exact ⟨rfl, HB.out.trans ((hbe.trans (hb9.mono hbe.size)).mono hz0)⟩

end Go.Proofs.Ytckonmlcgfbojaa
