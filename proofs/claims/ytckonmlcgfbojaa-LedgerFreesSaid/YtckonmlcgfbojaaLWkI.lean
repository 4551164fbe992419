/- The walk of New. -/
import Derived.Test.YtckonmlcgfbojaaLWkH
import Derived.Test.YtckonmlcgfbojaaLNw
import Derived.Test.YtckonmlcgfbojaaPl
namespace Go.Proofs.Ytckonmlcgfbojaa
open Go.RowKit

theorem set_field0 {w : World} {b : Nat} {a0 a1 a2 a3 : Value} {t : TypeId} (h : w.heap[b]? = some (.cells #[a0, a1, a2, a3] t (0, 0))) (x : Value) : (w.setCell ⟨b, 0, none⟩ x).heap[b]? = some (.cells #[x, a1, a2, a3] t (0, 0)) := by
  simp [World.setCell, Array.getElem?_modify, h]
theorem set_field1 {w : World} {b : Nat} {a0 a1 a2 a3 : Value} {t : TypeId} (h : w.heap[b]? = some (.cells #[a0, a1, a2, a3] t (0, 0))) (x : Value) : (w.setCell ⟨b, 1, none⟩ x).heap[b]? = some (.cells #[a0, x, a2, a3] t (0, 0)) := by
  simp [World.setCell, Array.getElem?_modify, h]
theorem set_ne (w : World) (p : Addr) (b : Nat) (h : p.block ≠ b) (x : Value) : (w.setCell p x).heap[b]? = w.heap[b]? := by
  simp [World.setCell, Array.getElem?_modify, h]

theorem set_ne2 (w : World) (b c : Nat) (h : c ≠ b) (i j : Nat) (x y : Value) : ((w.setCell ⟨b, i, none⟩ x).setCell ⟨b, j, none⟩ y).heap[c]? = w.heap[c]? := by
  have h' : ¬ b = c := fun e => h e.symm
  simp [World.setCell, Array.getElem?_modify, h']
/-- A block that was just laid reads as its cells. -/
theorem rd_new (w : World) (b : Nat) (hb : w.heap.size = b) (cs : List Value) (t : TypeId) : Rd (w.alloc (.cells cs.toArray t)) (some ⟨b, 0, none⟩) cs := by
  subst hb
  intro j u hu
  refine ⟨_, rfl, ?_⟩
  rw [Addr.add_lit, World.cell?, show (w.alloc (.cells cs.toArray t)).heap[(⟨w.heap.size, 0 + j, none⟩ : Addr).block]? = _ from heap_alloc_new w _]
  simpa using hu
theorem LsO.put {w : World} {C : Nat} {x : LsC} {l : Ls} (h : LsO w C x l) (p : Addr) (hp : p.block < C) (u : Value) : LsO (w.setCell p u) C x l :=
  ⟨h.dev, h.epoch, h.unt, h.last, owns_put h.s p hp u, owns_put h.i p hp u, owns_put h.u p hp u⟩
theorem BkO.put {w : World} {B C : Nat} {x : BkC} {b : Bk} {xs : List LsC} (h : BkO w B C x b xs) (hBC : B ≤ C) (p : Addr) (hp : p.block < B) (u : Value) : BkO (w.setCell p u) B C x b xs :=
  ⟨owns_put h.rc p hp u, owns_put h.rf p hp u, owns_put h.rl p hp u, owns_put h.rb p hp u, h.cl, h.fl, h.ll, h.bl, h.each.imp (fun _ _ r => r.put p (Nat.lt_of_lt_of_le hp hBC) u)⟩

/-- New's answer: a book of the call's own; an error. -/
def RetNew (w : World) (r : Bk × Int) (e : Ending) (w' : World) : Prop := ∃ (x' : BkC), e = .returned (.tuple #[aBk x', .int .i64 r.2]) ∧ BkM w' x' r.1 ∧ Below w.heap.size w w'

theorem bkM_empty (w : World) : BkM w ⟨⟨none, 0, 0⟩, ⟨none, 0, 0⟩, ⟨none, 0, 0⟩, ⟨none, 0, 0⟩⟩ ⟨[], [], [], []⟩ :=
  ⟨SlT.nil _ _ _, SlR.nil _, ⟨[], SlT.nil _ _ _, trivial⟩, Sl.nil _ _⟩

set_option maxRecDepth 100000 in
set_option maxHeartbeats 8000000 in
theorem new_many (v : Value) (l : List Ct) (ids : Int) (w : World) (h : SlCt w v l) (h4 : 4 < l.length) :
    Calls Try.prog 12 #[v, .int .i64 ids] w (RetNew w (newS l ids)) := by
  have HS : Hid (newS l ids = (⟨[], [], [], []⟩, 4)) := by show _ = _; unfold newS; rw [if_pos h4]
  obtain ⟨ao, cap, rfl, hcap, hm⟩ := Sl.shape h
  have g4 : (4 : Int) < l.length := by omega
  clear h
  go_enter Try.func12, Try.ntmps12
  go_wp2
  refine bodyPost_ret (v := .tuple #[.agg #[.slice none 0 0, .slice none 0 0, .slice none 0 0, .slice none 0 0], .int .i64 4]) (by simp [results, Try.results12, go_sem]) rfl ⟨⟨⟨none, 0, 0⟩, ⟨none, 0, 0⟩, ⟨none, 0, 0⟩, ⟨none, 0, 0⟩⟩, by rw [HS.out], by rw [HS.out]; exact bkM_empty _, (Below.refl _ _).alloc (Nat.le_refl _) _⟩

/-- Behind k counters. -/
structure NewL (w : World) (l : List Ct) (k : Nat) (acc : List Ct) (vc : Value) (wr : World) : Prop where
  le : k ≤ l.length
  go : newGo [] l = newGo acc (l.drop k)
  len : acc.length = k
  row : wr.ownsRow (w.heap.size + 2) 25 7 vc acc.length (cellsT cCt acc)
  k1 : wr.heap[w.heap.size]? = some (.cells #[.slice none 0 0, .slice none 0 0, .slice none 0 0, .slice none 0 0] 32 (0, 0))
  k2 : wr.heap[w.heap.size + 1]? = some (.cells #[vc, .slice none 0 0, .slice none 0 0, .slice none 0 0] 32 (0, 0))
  bel : Below w.heap.size w wr

theorem mayS_bd {c : Ct} (h : mayS c = true) : -1099511627776 ≤ c.lo ∧ c.lo ≤ c.start ∧ c.start ≤ c.hi ∧ c.hi ≤ 1099511627776 := by
  unfold mayS at h
  simp only [Bool.and_eq_true, decide_eq_true_iff] at h
  omega

set_option maxRecDepth 100000 in
set_option maxHeartbeats 8000000 in
theorem new_few (v : Value) (l : List Ct) (ids : Int) (w : World) (h : SlCt w v l) (h4 : l.length ≤ 4) (hkey : ∀ c ∈ l, c.key.size ≤ maxLen) :
    Calls Try.prog 12 #[v, .int .i64 ids] w (RetNew w (newS l ids)) := by
  obtain ⟨ao, cap, rfl, hcap, hm⟩ := Sl.shape h
  have g4 : decide (4 < (l.length : Int)) = false := by simp; omega
  have g4' : decide (4 < l.length) = false := by simp; omega
  have HERR : Hid (∀ n, (newGo [] l).1 = n → n ≠ 0 → newS l ids = (⟨[], [], [], []⟩, n)) := fun n hn h0 => by
    unfold newS; rw [if_neg (by omega), if_pos (by rw [hn]; exact h0), hn]
  have HKEY := Lib.hid hkey
  clear hkey
  go_enter Try.func12, Try.ntmps12
  go_upto_block 0 with fail
  have hst : NewL w l 0 [] (.slice none 0 0) ((w.alloc (.cells #[.slice none 0 0, .slice none 0 0, .slice none 0 0, .slice none 0 0] 32)).alloc (.cells #[.slice none 0 0, .slice none 0 0, .slice none 0 0, .slice none 0 0] 32)) :=
    ⟨Nat.zero_le _, rfl, rfl, World.ownsRow_nil _ _ _ _, alloc_first _ _ _, alloc_second _ _ _, ((Below.refl _ _).alloc (Nat.le_refl _) _).alloc (by simp) _⟩
  go_cut [15] (fun _ wx => ∃ acc vc, NewL w l l.length acc vc wx)
  case first =>
    go_wp2
    go_loopw [15] (fun vk wr => ∃ (k : Nat) (acc : List Ct) (vc : Value), vk = .int .i64 k ∧ NewL w l k acc vc wr) (fun vk _ => l.length - (intOf vk).toNat)
    case atStart => exact ⟨0, [], _, rfl, hst⟩
    case round =>
      clear hst
      obtain ⟨k, acc, vc, rfl, hN⟩ := hrel
      rcases Nat.lt_or_ge k l.length with hlt | hge
      · obtain ⟨b, off, rfl, hbl, c0, c1, c2, c3, c4, c5, c6⟩ := h.ct hN.bel (Nat.le_refl _) k hlt
        have HM := Lib.hid (HKEY.out l[k] (List.getElem_mem hlt))
        have HARG := Lib.hid (newGo_arg acc l k hlt)
        have HIS := Lib.hid (newGo_is acc l k hlt)
        have HSTEP := Lib.hid (newGo_step acc l k hlt)
        have HBD := Lib.hid (mayS_bd (c := l[k]))
        have klt : (k : Int) < l.length := by omega
        have hz := hN.bel.size
        have hzr : w.heap.size + 1 < wr.heap.size := (Array.getElem?_eq_some_iff.1 hN.k2).1
        have HN := Lib.hid hN
        obtain ⟨d0, d1, d2, d3, _⟩ := four_cells hN.k1
        have f0 := four_free hN.k1 0
        have f1 := four_free hN.k1 1
        have f2 := four_free hN.k1 2
        have f3 := four_free hN.k1 3
        clear hN
        generalize l[k] = c at *
        have HMAY := Lib.hid (fun W => may_any c W HM.out)
        obtain ⟨r1, r2, r3, r4, r5, r6, r7⟩ := c
        simp only at c0 c1 c2 c3 c4 c5 c6
        clear d0 d1 d2 d3 f0 f1 f2 f3
        have hbA : Below wr.heap.size wr (wr.alloc (.cells #[.string r1, .int .i64 r2, .int .i64 r3, .int .i64 r4, .int .i64 r5, .int .i64 r6, .int .i64 r7] 25)) := (Below.refl _ _).alloc (Nat.le_refl _) _
        have hnew := heap_alloc_new wr (.cells #[.string r1, .int .i64 r2, .int .i64 r3, .int .i64 r4, .int .i64 r5, .int .i64 r6, .int .i64 r7] 25)
        have hzA : wr.heap.size < (wr.alloc (.cells #[.string r1, .int .i64 r2, .int .i64 r3, .int .i64 r4, .int .i64 r5, .int .i64 r6, .int .i64 r7] 25)).heap.size := by simp
        have HNEW := Lib.hid hnew
        clear hnew
        go_wp2_with fail
        generalize wr.alloc (.cells #[.string r1, .int .i64 r2, .int .i64 r3, .int .i64 r4, .int .i64 r5, .int .i64 r6, .int .i64 r7] 25) = w7 at *
        obtain ⟨mb, hmb⟩ : ∃ mb, mayS ⟨r1, r2, r3, r4, r5, r6, r7⟩ = mb := ⟨_, rfl⟩
        have hmay := HMAY.out w7
        rw [hmb] at hmay HARG HIS HSTEP HBD
        refine hmay.mono ?_
        rintro e w3 ⟨rfl, hb3⟩
        have HB3 := Lib.hid (hbA.trans (hb3.mono hbA.size))
        have HB7 := Lib.hid hb3
        clear hmay hmb HMAY hb3
        cases mb with
        | false =>
          have HS : Hid (newS l ids = (⟨[], [], [], []⟩, 1)) := HERR.out 1 (by rw [HN.out.go, HARG.out (by first | rfl | trivial)]) (by omega)
          obtain ⟨d0, d1, d2, d3, _⟩ := four_cells (block_below HN.out.k1 HB3.out (by omega))
          have f0 := four_free (block_below HN.out.k1 HB3.out (by omega)) 0
          have f1 := four_free (block_below HN.out.k1 HB3.out (by omega)) 1
          have f2 := four_free (block_below HN.out.k1 HB3.out (by omega)) 2
          have f3 := four_free (block_below HN.out.k1 HB3.out (by omega)) 3
          have hbw := HN.out.bel.trans (HB3.out.mono HN.out.bel.size)
          go_wp2
          refine bodyPost_ret (v := .tuple #[.agg #[.slice none 0 0, .slice none 0 0, .slice none 0 0, .slice none 0 0], .int .i64 1]) (by simp [results, Try.results12, go_sem, *]) rfl ⟨⟨⟨none, 0, 0⟩, ⟨none, 0, 0⟩, ⟨none, 0, 0⟩, ⟨none, 0, 0⟩⟩, by rw [HS.out], by rw [HS.out]; exact bkM_empty _, ?_⟩
          exact (((hbw.setCell (Nat.le_refl _) _).setCell (Nat.le_refl _) _).setCell (Nat.le_refl _) _).setCell (Nat.le_refl _) _
        | true =>
          obtain ⟨b1, b2, b3, b4⟩ := HBD.out (by first | rfl | trivial)
          obtain ⟨aov, capv, rfl, _, _⟩ := owns_shape HN.out.row
          obtain ⟨e0, e1, e2, e3, _⟩ := four_cells (block_below HN.out.k2 HB3.out hzr)
          obtain ⟨n0, n1, n2, n3, n4, n5, n6, _⟩ := seven_cells (block_below HNEW.out HB7.out hzA)
          have hrow3 := owns_keep HN.out.row HB3.out (Nat.le_refl _)
          have HCT := Lib.hid (counter_any ⟨⟨aov, acc.length, capv⟩, ⟨none, 0, 0⟩, ⟨none, 0, 0⟩, ⟨none, 0, 0⟩⟩ acc r1 w3 (sl_of_owns hrow3))
          clear hrow3
          go_wp2_with fail
          refine HCT.out.mono ?_
          rintro e w4 ⟨rfl, hb4⟩
          clear HCT
          have HB4 := Lib.hid hb4
          have HB34 := Lib.hid (HB3.out.trans (hb4.mono HB3.out.size))
          have HB74 := Lib.hid (HB7.out.trans (hb4.mono HB7.out.size))
          have hz4 := HB34.out.size
          clear e0 e1 e2 e3 n0 n1 n2 n3 n4 n5 n6
          by_cases hix : 0 ≤ ctIx acc r1
          · have HS : Hid (newS l ids = (⟨[], [], [], []⟩, 7)) := HERR.out 7 (by rw [HN.out.go, HIS.out (by first | rfl | trivial) hix]) (by omega)
            obtain ⟨d0, d1, d2, d3, _⟩ := four_cells (block_below HN.out.k1 HB34.out (by omega))
            have f0 := four_free (block_below HN.out.k1 HB34.out (by omega)) 0
            have f1 := four_free (block_below HN.out.k1 HB34.out (by omega)) 1
            have f2 := four_free (block_below HN.out.k1 HB34.out (by omega)) 2
            have f3 := four_free (block_below HN.out.k1 HB34.out (by omega)) 3
            have hbw := HN.out.bel.trans (HB34.out.mono HN.out.bel.size)
            clear hb4
            go_wp2
            refine bodyPost_ret (v := .tuple #[.agg #[.slice none 0 0, .slice none 0 0, .slice none 0 0, .slice none 0 0], .int .i64 7]) (by simp [results, Try.results12, go_sem, *]) rfl ⟨⟨⟨none, 0, 0⟩, ⟨none, 0, 0⟩, ⟨none, 0, 0⟩, ⟨none, 0, 0⟩⟩, by rw [HS.out], by rw [HS.out]; exact bkM_empty _, ?_⟩
            exact (((hbw.setCell (Nat.le_refl _) _).setCell (Nat.le_refl _) _).setCell (Nat.le_refl _) _).setCell (Nat.le_refl _) _
          · have dix : decide (0 ≤ ctIx acc r1) = false := by simpa using hix
            have HSTEP2 := Lib.hid (HSTEP.out (by first | rfl | trivial) (by omega))
            have hk4 := block_below HNEW.out HB74.out hzA
            obtain ⟨n0, n1, n2, n3, n4, n5, n6, _⟩ := seven_cells hk4
            have n5f := seven_free hk4 5
            have n6f := seven_free hk4 6
            have HK4 := Lib.hid hk4
            obtain ⟨e0, e1, e2, e3, _⟩ := four_cells (block_below HN.out.k2 HB34.out hzr)
            clear hk4 hb4
            have hrow5 := owns_ne (owns_keep HN.out.row HB34.out (Nat.le_refl _)) (fun c hc => set_ne2 w4 wr.heap.size c hc 5 6 (.int .i64 (r4 - r5)) (.int .i64 (r5 - r3))) (fun e => by have := (HN.out.row.lt _ e).2; omega)
            have HRD : Hid (∀ W : World, W.heap.size = w4.heap.size → Rd (W.alloc (.cells #[.string r1, .int .i64 r2, .int .i64 r3, .int .i64 r4, .int .i64 r5, .int .i64 (r4 - r5), .int .i64 (r5 - r3)] 25)) (some ⟨w4.heap.size, 0, none⟩) (cellsT cCt [fill ⟨r1, r2, r3, r4, r5, r6, r7⟩])) := fun W hW => rd_new W _ hW [.string r1, .int .i64 r2, .int .i64 r3, .int .i64 r4, .int .i64 r5, .int .i64 (r4 - r5), .int .i64 (r5 - r3)] _
            have hk3 : acc.length < 4 := by have := HN.out.len; omega
            have HROW5 := Lib.hid hrow5
            clear hrow5 HSTEP HIS HARG hix
            go_wp2_with ((with_reducible refine at_slot 47 ?_); refine append_Ct rfl _ _ rfl (w.heap.size + 2) _ acc.length acc rfl (HROW5.out.alloc _) _ 1 1 [fill ⟨r1, r2, r3, r4, r5, r6, r7⟩] rfl rfl (HRD.out _ (by simp)) (by omega) (by simp; omega) ?_)
            intro v6 w6 ho6 hg6 hat6
            have hbW : Below w.heap.size w (((w4.setCell ⟨wr.heap.size, 5, none⟩ (.int .i64 (r4 - r5))).setCell ⟨wr.heap.size, 6, none⟩ (.int .i64 (r5 - r3))).alloc (.cells #[.string r1, .int .i64 r2, .int .i64 r3, .int .i64 r4, .int .i64 r5, .int .i64 (r4 - r5), .int .i64 (r5 - r3)] 25)) :=
              (((HN.out.bel.trans (HB34.out.mono HN.out.bel.size)).setCell hz _).setCell hz _).alloc (by simp; omega) _
            have hb6 : Below w.heap.size w w6 := hbW.grown hg6 (by simp; omega) (fun g hg => by have := owns_ge HN.out.row g hg; omega)
            have hk1 := (grown_block hg6 (b := w.heap.size) (B := w.heap.size + 2) (by simp; omega) (by omega) (owns_ge HN.out.row)).trans ((Below.heap_alloc _ _ _ (by simp; omega)).trans ((set_ne2 w4 wr.heap.size w.heap.size (by omega) 5 6 _ _).trans (block_below HN.out.k1 HB34.out (by omega))))
            have hk2 := (grown_block hg6 (b := w.heap.size + 1) (B := w.heap.size + 2) (by simp; omega) (by omega) (owns_ge HN.out.row)).trans ((Below.heap_alloc _ _ _ (by simp; omega)).trans ((set_ne2 w4 wr.heap.size (w.heap.size + 1) (by omega) 5 6 _ _).trans (block_below HN.out.k2 HB34.out hzr)))
            obtain ⟨ao6, cap6, rfl, _, _⟩ := owns_shape ho6
            obtain ⟨g0, g1, g2, g3, _⟩ := four_cells hk2
            have g0f := four_free hk2 0
            have HK1 := Lib.hid hk1
            have HK2 := Lib.hid hk2
            have HO6 := Lib.hid ho6
            clear hk1 hk2 ho6 hg6 hat6 hbW n0 n1 n2 n3 n4 n5 n6 e0 e1 e2 e3 n5f n6f
            go_wp2
            go_roundw
            case rel =>
              refine ⟨k + 1, acc ++ [fill ⟨r1, r2, r3, r4, r5, r6, r7⟩], .slice ao6 (acc.length + 1) cap6, by go_num, ⟨by omega, by rw [HN.out.go, HSTEP2.out], by rw [List.length_append, HN.out.len]; rfl, ?_, ?_, ?_, ?_⟩⟩
              · rw [List.length_append]; exact owns_put HO6.out _ (by simp) _
              · rw [set_ne _ _ _ (by simp)]; exact HK1.out
              · exact set_field0 HK2.out _
              · exact hb6.setCell (by simp) _
            case measure => simp [intOf]; omega
      · have hk : k = l.length := by have := hN.le; omega
        subst hk
        have HN := Lib.hid hN
        clear hN
        go_wp2
        go_meet
        exact ⟨acc, vc, HN.out⟩
  case rest =>
  obtain ⟨acc, vc, hN⟩ := hcut
  have HGO : Hid (newGo [] l = (0, acc)) := by show _ = _; rw [hN.go, newGo_end _ _ _ (Nat.le_refl _)]
  have hlen : acc.length ≤ 4 := by rw [hN.len]; exact h4
  have hz := hN.bel.size
  have hzr : w.heap.size + 1 < wc.heap.size := (Array.getElem?_eq_some_iff.1 hN.k2).1
  have HN := Lib.hid hN
  clear hN hst g4 g4'
  by_cases hi : 0 ≤ ids ∧ ids ≤ 1000
  · obtain ⟨hi0, hi1⟩ := hi
    have HS : Hid (newS l ids = (⟨acc, addS [] (0, ids), [], []⟩, 0)) := by show _ = _; unfold newS; rw [if_neg (by omega), HGO.out, if_neg (by simp), if_pos ⟨hi0, hi1⟩]
    obtain ⟨aov, capv, rfl, _, _⟩ := owns_shape HN.out.row
    obtain ⟨e0, e1, e2, e3, _⟩ := four_cells HN.out.k2
    have e1f := four_free HN.out.k2 1
    go_wp2_with (go_at_call 29; refine (lwithin_any _ _ _ _).mono ?_; rintro e w1 ⟨rfl, rfl⟩)
    have hla := length_addS [] (0, ids)
    refine (add_any _ [] 0 ids _ (SlR.nil _) (by simp)).mono ?_
    rintro e w1 ⟨v1, rfl, ho1, hb1⟩
    have hz1 := hb1.size
    have hk1 := block_below HN.out.k1 hb1 (by omega)
    have hk2 := block_below HN.out.k2 hb1 hzr
    have hrow := owns_keep HN.out.row hb1 (Nat.le_refl _)
    have hbw := HN.out.bel.trans (hb1.mono HN.out.bel.size)
    obtain ⟨ao1, cap1, rfl, _, _⟩ := owns_shape ho1
    clear e0 e1 e2 e3 e1f
    obtain ⟨e0, e1, e2, e3, _⟩ := four_cells hk2
    have e1f := four_free hk2 1
    have HB : Hid (BkM (w1.setCell ⟨w.heap.size + 1, 1, none⟩ (.slice ao1 (addS [] (0, ids)).length cap1)) ⟨⟨aov, acc.length, capv⟩, ⟨ao1, (addS [] (0, ids)).length, cap1⟩, ⟨none, 0, 0⟩, ⟨none, 0, 0⟩⟩ ⟨acc, addS [] (0, ids), [], []⟩) :=
      Lib.hid ⟨sl_of_owns (owns_put hrow _ (by simp) _), sl_of_owns (owns_put ho1 _ (by show w.heap.size + 1 < _; omega) _), ⟨[], SlT.nil _ _ _, trivial⟩, Sl.nil _ _⟩
    have HBB : Hid (BkB ⟨acc, addS [] (0, ids), [], []⟩) := Lib.hid ⟨by show acc.length < _; omega, by show (addS [] (0, ids)).length < _; simp at hla; omega, by simp, by simp, by simp⟩
    have HK1 := Lib.hid ((set_ne w1 ⟨w.heap.size + 1, 1, none⟩ w.heap.size (by simp) (.slice ao1 (addS [] (0, ids)).length cap1)).trans hk1)
    have HBW := Lib.hid (hbw.setCell (p := ⟨w.heap.size + 1, 1, none⟩) (by simp) (.slice ao1 (addS [] (0, ids)).length cap1))
    have hzs : w.heap.size < (w1.setCell ⟨w.heap.size + 1, 1, none⟩ (.slice ao1 (addS [] (0, ids)).length cap1)).heap.size := by simp; omega
    clear hk1 hk2 hrow hbw ho1 hb1 hla
    go_wp2_with fail
    generalize w1.setCell ⟨w.heap.size + 1, 1, none⟩ (.slice ao1 (addS [] (0, ids)).length cap1) = w2 at *
    refine (ownBk_any ⟨⟨aov, acc.length, capv⟩, ⟨ao1, (addS [] (0, ids)).length, cap1⟩, ⟨none, 0, 0⟩, ⟨none, 0, 0⟩⟩ _ w2 HB.out HBB.out).mono ?_
    rintro e w3 ⟨⟨⟨ca, cn, cc⟩, ⟨fa, fn, fc⟩, ⟨la, ln, lc⟩, ⟨ba, bn, bc⟩⟩, xs', C, rfl, ho3, hC, hb3⟩
    obtain ⟨d0, d1, d2, d3, _⟩ := four_cells (block_below HK1.out hb3 hzs)
    have f0 := four_free (block_below HK1.out hb3 hzs) 0
    have f1 := four_free (block_below HK1.out hb3 hzs) 1
    have f2 := four_free (block_below HK1.out hb3 hzs) 2
    have f3 := four_free (block_below HK1.out hb3 hzs) 3
    have hbw := HBW.out.trans (hb3.mono HBW.out.size)
    have HO := Lib.hid ((((ho3.put hC ⟨w.heap.size, 0, none⟩ hzs (.slice ca cn cc)).put hC ⟨w.heap.size, 1, none⟩ hzs (.slice fa fn fc)).put hC ⟨w.heap.size, 2, none⟩ hzs (.slice la ln lc)).put hC ⟨w.heap.size, 3, none⟩ hzs (.slice ba bn bc))
    clear ho3 hb3
    go_wp2
    refine bodyPost_ret (v := .tuple #[.agg #[.slice ca cn cc, .slice fa fn fc, .slice la ln lc, .slice ba bn bc], .int .i64 0]) (by simp [results, Try.results12, go_sem, *]) rfl ⟨⟨⟨ca, cn, cc⟩, ⟨fa, fn, fc⟩, ⟨la, ln, lc⟩, ⟨ba, bn, bc⟩⟩, by rw [HS.out], by rw [HS.out]; exact HO.out.m, ?_⟩
    exact (((hbw.setCell (Nat.le_refl _) _).setCell (Nat.le_refl _) _).setCell (Nat.le_refl _) _).setCell (Nat.le_refl _) _
  · have HS : Hid (newS l ids = (⟨[], [], [], []⟩, 1)) := by show _ = _; unfold newS; rw [if_neg (by omega), HGO.out, if_neg (by simp), if_neg hi]
    have hd : (decide (0 ≤ ids) && decide (ids ≤ 1000)) = false := by simp; omega
    obtain ⟨d0, d1, d2, d3, _⟩ := four_cells HN.out.k1
    have f0 := four_free HN.out.k1 0
    have f1 := four_free HN.out.k1 1
    have f2 := four_free HN.out.k1 2
    have f3 := four_free HN.out.k1 3
    have hbw := HN.out.bel
    clear hi
    go_wp2_with (go_at_call 29; refine (lwithin_any _ _ _ _).mono ?_; rintro e w1 ⟨rfl, rfl⟩)
    refine bodyPost_ret (v := .tuple #[.agg #[.slice none 0 0, .slice none 0 0, .slice none 0 0, .slice none 0 0], .int .i64 1]) (by simp [results, Try.results12, go_sem, *]) rfl ⟨⟨⟨none, 0, 0⟩, ⟨none, 0, 0⟩, ⟨none, 0, 0⟩, ⟨none, 0, 0⟩⟩, by rw [HS.out], by rw [HS.out]; exact bkM_empty _, ?_⟩
    exact (((hbw.setCell (Nat.le_refl _) _).setCell (Nat.le_refl _) _).setCell (Nat.le_refl _) _).setCell (Nat.le_refl _) _

end Go.Proofs.Ytckonmlcgfbojaa
