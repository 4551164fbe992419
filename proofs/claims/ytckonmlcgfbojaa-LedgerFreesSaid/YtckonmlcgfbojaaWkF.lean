/- The walk of ranges.Take. -/
import Derived.Test.YtckonmlcgfbojaaWkA
import Derived.Test.YtckonmlcgfbojaaLib
namespace Go.Proofs.Ytckonmlcgfbojaa
open Go.RowKit

/-- The n smallest numbers, and the others. -/
def takeS : List Rg → Int → List Rg × List Rg
  | [], _ => ([], [])
  | r :: l, n => if n ≤ 0 then ([], r :: l) else if n < r.2 - r.1 then ([(r.1, r.1 + n)], (r.1 + n, r.2) :: l)
    else ((r.1, r.2) :: (takeS l (n - (r.2 - r.1))).1, (takeS l (n - (r.2 - r.1))).2)

theorem takeS_zero (l : List Rg) (n : Int) (h : n ≤ 0) : takeS l n = ([], l) := by cases l <;> simp [takeS, h]

/-- What is still to be taken, and where. -/
def TakeAt (l : List Rg) (n : Int) (k : Nat) (m : Int) (A B : List Rg) : Prop := takeS l n = (A ++ (takeS (l.drop k) m).1, B ++ (takeS (l.drop k) m).2)

theorem TakeAt.a {l : List Rg} {n m : Int} {k : Nat} {A B : List Rg} (h : TakeAt l n k m A B) (hk : k < l.length) (hm : m ≤ 0) : TakeAt l n (k + 1) m A (B ++ [l[k]]) := by
  unfold TakeAt at *
  rw [h, takeS_zero _ m hm, takeS_zero _ m hm, List.drop_eq_getElem_cons hk]
  simp
theorem TakeAt.b {l : List Rg} {n m : Int} {k : Nat} {A B : List Rg} (h : TakeAt l n k m A B) (hk : k < l.length) (hm : 0 < m) (hd : m < l[k].2 - l[k].1) :
    TakeAt l n (k + 1) 0 (A ++ [(l[k].1, l[k].1 + m)]) (B ++ [(l[k].1 + m, l[k].2)]) := by
  unfold TakeAt at *
  rw [h, takeS_zero _ 0 (Int.le_refl _), List.drop_eq_getElem_cons hk, takeS, if_neg (by omega), if_pos hd]
  simp
theorem TakeAt.c {l : List Rg} {n m : Int} {k : Nat} {A B : List Rg} (h : TakeAt l n k m A B) (hk : k < l.length) (hm : 0 < m) (hd : l[k].2 - l[k].1 ≤ m) :
    TakeAt l n (k + 1) (m - (l[k].2 - l[k].1)) (A ++ [(l[k].1, l[k].2)]) B := by
  unfold TakeAt at *
  rw [h, List.drop_eq_getElem_cons hk, takeS, if_neg (by omega), if_neg (by omega)]
  simp

/-- Two rows of the call's own, and a number. -/
def RetTwo (w : World) (E e : Nat) (A B : List Value) (na nb : Nat) (x : Int) (en : Ending) (w' : World) : Prop :=
  ∃ v1 v2, en = .returned (.tuple #[v1, v2, .int .i64 x]) ∧ w'.ownsRow w.heap.size e E v1 na A ∧ w'.ownsRow w.heap.size e E v2 nb B ∧ Apart v1 v2 ∧ Below w.heap.size w w'

set_option maxHeartbeats 4000000 in
theorem take_ok (v : Value) (l : List Rg) (n : Int) (w : World) (h : SlR w v l) (hs : Small l) (hl : l.length < 1000000) (h0 : 0 ≤ n) (h1 : n ≤ lenR l) :
    Calls Try.prog 81 #[v, .int .i64 n] w (RetTwo w 2 78 (cellsR (takeS l n).1) (cellsR (takeS l n).2) (takeS l n).1.length (takeS l n).2.length 0) := by
  obtain ⟨ao, cap, rfl, hcap, hm⟩ := Sl.shape h
  have hlen := (lenR_bounds l hs).2
  have d0 : decide (n < 0) = false := by simpa using h0
  have d1 : decide (lenR l < n) = false := by simpa using h1
  go_enter Try.func81, Try.ntmps81
  go_wp2_with fail
  refine (len_any _ _ _ h hs hl).mono ?_
  rintro e w0 ⟨rfl, hb0⟩
  go_wp2
  go_loopw [1, 4, 5, 20] (fun nv v4 v5 ix wr => ∃ (k : Nat) (m : Int) (A B : List Rg), k ≤ l.length ∧ ix = .int .i64 k ∧ nv = .int .i64 m ∧ 0 ≤ m ∧ m ≤ n ∧ A.length ≤ k ∧ B.length ≤ k ∧ TakeAt l n k m A B ∧
    wr.ownsRow w.heap.size 78 2 v4 A.length (cellsR A) ∧ wr.ownsRow w.heap.size 78 2 v5 B.length (cellsR B) ∧ Apart v4 v5 ∧ Below w.heap.size w wr) (fun _ _ _ ix _ => l.length - (intOf ix).toNat)
  case atStart => exact ⟨0, n, [], [], Nat.zero_le _, rfl, rfl, h0, Int.le_refl _, Nat.le_refl _, Nat.le_refl _, rfl, World.ownsRow_nil _ _ _ _, World.ownsRow_nil _ _ _ _, apart_nil _, hb0⟩
  case round =>
    obtain ⟨k, m, A, B, hk, rfl, rfl, hm0, hmn, hA, hB, hT, ho4, ho5, hap, hb⟩ := hrel
    have hz := hb.size
    have HT := Lib.hid hT
    clear hT
    rcases Nat.lt_or_ge k l.length with hlt | hge
    · obtain ⟨b, off, rfl, hbl, hc1, hc2⟩ := h.pair hb (Nat.le_refl _) k hlt
      have hr := hs l[k] (List.getElem_mem _)
      rcases Int.lt_or_le 0 m with hmp | hmz
      · rcases Int.lt_or_le m (l[k].2 - l[k].1) with hd | hd
        · have HN := Lib.hid (HT.out.b hlt hmp hd)
          generalize l[k] = r at *
          obtain ⟨x, y⟩ := r
          simp only at hc1 hc2 hr hd
          obtain ⟨hr1, hr2, hr3⟩ := hr
          go_upto_region 11 with fail
          go_wp2_with (((with_reducible refine at_slot 45 ?_); refine append_R_at (o := ⟨some 45, _, _, _, _, _⟩) rfl _ _ rfl w.heap.size _ A.length A rfl ((ho4.alloc _).alloc _) _ _ x (x + m) rfl (cells_two_at _ _ _ _ _ (by simp)) (by omega) (by simp; omega) ?_))
          intro v4 w1 ho4' hg4 hat4
          have hb1 : Below w.heap.size w w1 := ((hb.alloc hz _).alloc (by simp; omega) _).grown hg4 (by simp; omega) (owns_ge ho4)
          have ho5' := hap.kept ((ho5.alloc _).alloc _) hg4
          have hap' := hap.step2 ho5 hat4 (by first | omega | (simp; omega))
          obtain ⟨e0, e1, f0, f1, hbs⟩ := two_cells (kept_new ho4 hg4)
          have hs1 := hb1.size
          clear hg4 hat4 ho4 ho5 hap
          go_wp2_with (((with_reducible refine at_slot 62 ?_); refine append_R_at (o := ⟨some 62, _, _, _, _, _⟩) rfl _ _ rfl w.heap.size _ B.length B rfl (ho5'.alloc _) _ _ (x + m) y rfl (cells_two_at _ _ _ _ _ (by simp)) (by omega) (by simp; omega) ?_))
          intro v5 w2 ho5'' hg5 hat5
          have hb2 : Below w.heap.size w w2 := (hb1.alloc hs1 _).grown hg5 (by simp; omega) (owns_ge ho5')
          have ho4'' := hap'.symm.kept (ho4'.alloc _) hg5
          have hap2 := hap'.symm.step2 ho4' hat5 (by first | omega | (simp; omega))
          clear hg5 hat5
          go_wp2
          go_roundw
          case rel => exact ⟨k + 1, 0, A ++ [(x, x + m)], B ++ [(x + m, y)], by omega, by go_num, rfl, by omega, by omega, by simp; omega, by simp; omega, HN.out, by simpa using ho4'', by simpa using ho5'', hap2.symm, hb2⟩
          case measure => simp [intOf]; omega
        · have HN := Lib.hid (HT.out.c hlt hmp hd)
          generalize l[k] = r at *
          obtain ⟨x, y⟩ := r
          simp only at hc1 hc2 hr hd
          obtain ⟨hr1, hr2, hr3⟩ := hr
          rcases Int.lt_or_le (y - x) m with hd2 | hd2
          · go_upto_region 11 with fail
            go_wp2_with (((with_reducible refine at_slot 45 ?_); refine append_R_at (o := ⟨some 45, _, _, _, _, _⟩) rfl _ _ rfl w.heap.size _ A.length A rfl ((ho4.alloc _).alloc _) _ _ _ _ rfl (cells_two_at _ _ _ _ _ (by first | rfl | simp)) (by omega) (by simp; omega) ?_))
            intro v4 w1 ho4' hg4 hat4
            have hb1 : Below w.heap.size w w1 := ((hb.alloc hz _).alloc (by simp; omega) _).grown hg4 (by simp; omega) (owns_ge ho4)
            have ho5' := hap.kept ((ho5.alloc _).alloc _) hg4
            have hap' := hap.step2 ho5 hat4 (by first | omega | (simp; omega))
            obtain ⟨e0, e1, f0, f1, hbs⟩ := two_cells (kept_new ho4 hg4)
            have hs1 := hb1.size
            clear hg4 hat4 ho4 ho5 hap
            go_wp2
            go_roundw
            case rel => exact ⟨k + 1, m - (y - x), A ++ [(x, y)], B, by omega, by go_num, rfl, by omega, by omega, by simp; omega, by omega, HN.out, by first | simpa using ho4' | (rw [show x + (y - x) = y from by omega] at ho4'; simpa using ho4'), ho5', hap', hb1⟩
            case measure => simp [intOf]; omega
          · have hxy : Hid (x + m = y) := by show _ = _; omega
            have hm0 : Hid (m - (y - x) = 0) := by show _ = _; omega
            go_wp2_with (((with_reducible refine at_slot 45 ?_); refine append_R_at (o := ⟨some 45, _, _, _, _, _⟩) rfl _ _ rfl w.heap.size _ A.length A rfl ((ho4.alloc _).alloc _) _ _ x (x + m) rfl (cells_two_at _ _ _ _ _ (by first | rfl | simp)) (by omega) (by simp; omega) ?_))
            intro v4 w1 ho4' hg4 hat4
            have hb1 : Below w.heap.size w w1 := ((hb.alloc hz _).alloc (by simp; omega) _).grown hg4 (by simp; omega) (owns_ge ho4)
            have ho5' := hap.kept ((ho5.alloc _).alloc _) hg4
            have hap' := hap.step2 ho5 hat4 (by first | omega | (simp; omega))
            obtain ⟨e0, e1, f0, f1, hbs⟩ := two_cells (kept_new ho4 hg4)
            have hs1 := hb1.size
            clear hg4 hat4 ho4 ho5 hap
            go_wp2
            go_roundw
            case rel => exact ⟨k + 1, m - (y - x), A ++ [(x, y)], B, by omega, by go_num, by rw [hm0.out], by omega, by omega, by simp; omega, by omega, HN.out, by rw [hxy.out] at ho4'; simpa using ho4', ho5', hap', hb1⟩
            case measure => simp [intOf]; omega
      · have HN := Lib.hid (HT.out.a hlt hmz)
        generalize l[k] = r at *
        obtain ⟨x, y⟩ := r
        simp only at hc1 hc2 hr
        obtain ⟨hr1, hr2, hr3⟩ := hr
        obtain rfl : m = 0 := by omega
        go_wp2_with (((with_reducible refine at_slot 62 ?_); refine append_R_at (o := ⟨some 62, _, _, _, _, _⟩) rfl _ _ rfl w.heap.size _ B.length B rfl ((ho5.alloc _).alloc _) _ _ x y rfl (cells_two_at _ _ _ _ _ (by simp)) (by omega) (by simp; omega) ?_))
        intro v5 w2 ho5'' hg5 hat5
        have hb2 : Below w.heap.size w w2 := ((hb.alloc hz _).alloc (by simp; omega) _).grown hg5 (by simp; omega) (owns_ge ho5)
        have ho4'' := hap.symm.kept ((ho4.alloc _).alloc _) hg5
        have hap2 := hap.symm.step2 ho4 hat5 (by first | omega | (simp; omega))
        clear hg5 hat5
        go_wp2
        go_roundw
        case rel => exact ⟨k + 1, 0, A, B ++ [(x, y)], by omega, by go_num, rfl, by omega, by omega, by omega, by simp; omega, HN.out, ho4'', by simpa using ho5'', hap2.symm, hb2⟩
        case measure => simp [intOf]; omega
    · have hE : takeS l n = (A, B) := by
        have := HT.out
        unfold TakeAt at this
        rw [List.drop_eq_nil_of_le hge] at this
        simpa [takeS] using this
      have HE := Lib.hid hE
      have hA' : A.length < 1000000000 := by omega
      have hB' : B.length < 1000000000 := by omega
      have s4 : SlR wr u4 A := sl_of_owns ho4
      have s5 : SlR wr u5 B := sl_of_owns ho5
      clear hE HT ho4 ho5 hap
      go_wp2_with fail
      refine (own_any _ _ _ s4 hA').mono ?_
      rintro e w1 ⟨v1, rfl, ho1, hb1⟩
      have s5' := s5.keep hb1 (Nat.le_refl _)
      go_wp2_with fail
      refine (own_any _ _ _ s5' hB').mono ?_
      rintro e w2 ⟨v2, rfl, ho2, hb2⟩
      go_wp2
      go_ret3
      have hz1 := hb1.size
      refine ⟨v1, v2, rfl, by rw [HE.out]; exact owns_keep (owns_base ho1 hz) hb2 (Nat.le_refl _), by rw [HE.out]; exact owns_base ho2 (Nat.le_trans hz hz1), fun g hg1 hg2 => ?_, (hb.trans (hb1.mono hz)).trans (hb2.mono (Nat.le_trans hz hz1))⟩
      have q1 := (ho1.lt g hg1).2
      have q2 := (ho2.lt g hg2).1
      omega

set_option maxHeartbeats 400000 in
theorem take_arg (v : Value) (n : Int) (w : World) (h0 : n < 0) :
    Calls Try.prog 81 #[v, .int .i64 n] w fun e w' => e = .returned (.tuple #[.slice none 0 0, .slice none 0 0, .int .i64 1]) ∧ w = w' := by
  go_enter Try.func81, Try.ntmps81
  go_wp2
  go_ret3
  exact ⟨rfl, rfl⟩

set_option maxHeartbeats 400000 in
theorem take_rights (v : Value) (l : List Rg) (n : Int) (w : World) (h : SlR w v l) (hs : Small l) (hl : l.length < 1000000) (h1 : lenR l < n) :
    Calls Try.prog 81 #[v, .int .i64 n] w fun e w' => e = .returned (.tuple #[.slice none 0 0, .slice none 0 0, .int .i64 14]) ∧ Below w.heap.size w w' := by
  have h0 := (lenR_bounds l hs).1
  have d0 : decide (n < 0) = false := by simp; omega
  go_enter Try.func81, Try.ntmps81
  go_wp2_with fail
  refine (len_any _ _ _ h hs hl).mono ?_
  rintro e w0 ⟨rfl, hb0⟩
  go_wp2
  go_ret3
  exact ⟨rfl, hb0⟩

end Go.Proofs.Ytckonmlcgfbojaa
