/- The walk of ranges.Less. -/
import Derived.Test.YtckonmlcgfbojaaWkA
import Derived.Test.YtckonmlcgfbojaaLib
namespace Go.Proofs.Ytckonmlcgfbojaa
open Go.RowKit

/-- What one range leaves without n. -/
def cutS (n : Int) (r : Rg) : List Rg := if r.1 ≤ n ∧ n < r.2 then (if r.1 < n then [(r.1, n)] else []) ++ (if n + 1 < r.2 then [(n + 1, r.2)] else []) else [r]
/-- A row without a number. -/
def lessS (l : List Rg) (n : Int) : List Rg := l.flatMap (cutS n)

theorem lessS_snoc (l : List Rg) (r : Rg) (n : Int) : lessS (l ++ [r]) n = lessS l n ++ cutS n r := by simp [lessS]
theorem length_cutS (n : Int) (r : Rg) : (cutS n r).length ≤ 2 := by
  unfold cutS
  split
  · split <;> split <;> simp
  · simp
theorem length_lessS (l : List Rg) (n : Int) : (lessS l n).length ≤ 2 * l.length := by
  induction l with
  | nil => simp [lessS]
  | cons r l ih =>
    have h : lessS (r :: l) n = cutS n r ++ lessS l n := by simp [lessS]
    rw [h, List.length_append, List.length_cons]
    have := length_cutS n r
    omega

def ltR (r : Rg) : Bool := decide (r.1 < r.2)

theorem cutS_one (n x y : Int) (h : x < y) (hn : ¬ (x ≤ n ∧ n < y)) : [(x, y)].filter ltR = cutS n (x, y) := by
  simp [cutS, ltR, h, hn]
theorem cutS_two (n x y : Int) (h1 : x ≤ n) (h2 : n < y) : [(x, n), (n + 1, y)].filter ltR = cutS n (x, y) := by
  unfold cutS
  rw [if_pos ⟨h1, h2⟩]
  by_cases a : x < n <;> by_cases b : n + 1 < y <;> simp [ltR, a, b]

theorem filter_snoc (l : List Rg) (a b : Int) : (l ++ [(a, b)]).filter ltR = l.filter ltR ++ (if a < b then [(a, b)] else []) := by
  rw [List.filter_append]
  by_cases h : a < b <;> simp [ltR, h]

/-- A row of the call's own, and true. -/
def RetYes (w : World) (E e n : Nat) (cs : List Value) (en : Ending) (w' : World) : Prop :=
  ∃ v', en = .returned (.tuple #[v', .bool true]) ∧ w'.ownsRow w.heap.size e E v' n cs ∧ Below w.heap.size w w'

set_option maxHeartbeats 400000 in
theorem less_no (v : Value) (l : List Rg) (n : Int) (w : World) (h : SlR w v l) (hl : l.length < 1000000) (hn : hasR l n = false) :
    Calls Try.prog 57 #[v, .int .i64 n] w fun e w' => e = .returned (.tuple #[.slice none 0 0, .bool false]) ∧ Below w.heap.size w w' := by
  have HC := Lib.hid (has_any v l n w h hl)
  rw [hn] at HC
  clear hn
  go_enter Try.func57, Try.ntmps57
  go_wp2_with fail
  refine HC.out.mono ?_
  rintro e w0 ⟨rfl, hb0⟩
  go_wp2
  go_ret2
  exact ⟨rfl, hb0⟩

set_option maxHeartbeats 4000000 in
theorem less_yes (v : Value) (l : List Rg) (n : Int) (w : World) (h : SlR w v l) (hs : Small l) (hl : l.length < 1000000) (hn : hasR l n = true) (hn0 : -1000000000000 < n) (hn1 : n < 1000000000000) :
    Calls Try.prog 57 #[v, .int .i64 n] w (RetYes w 2 78 (lessS l n).length (cellsR (lessS l n))) := by
  have HC := Lib.hid (has_any v l n w h hl)
  rw [hn] at HC
  clear hn
  obtain ⟨ao, cap, rfl, hcap, hm⟩ := Sl.shape h
  go_enter Try.func57, Try.ntmps57
  go_wp2_with fail
  refine HC.out.mono ?_
  rintro e w0 ⟨rfl, hb0⟩
  clear HC
  go_wp2
  go_loopw [6, 18] (fun v6 ix wr => ∃ k : Nat, k ≤ l.length ∧ ix = .int .i64 k ∧ wr.ownsRow w.heap.size 78 2 v6 (lessS (l.take k) n).length (cellsR (lessS (l.take k) n)) ∧ Below w.heap.size w wr) (fun _ ix _ => l.length - (intOf ix).toNat)
  case atStart => exact ⟨0, Nat.zero_le _, rfl, World.ownsRow_nil _ _ _ _, hb0⟩
  case round =>
    obtain ⟨k, hk, rfl, ho, hb⟩ := hrel
    have hz := hb.size
    have hLk := length_lessS (l.take k) n
    have hLk2 : (l.take k).length ≤ k := List.length_take_le _ _
    rcases Nat.lt_or_ge k l.length with hlt | hge
    · obtain ⟨b, off, rfl, hbl, hc1, hc2⟩ := h.pair hb (Nat.le_refl _) k hlt
      have hr := hs l[k] (List.getElem_mem _)
      have HS := Lib.hid (take_snoc l k hlt)
      generalize l[k] = r at *
      obtain ⟨x, y⟩ := r
      simp only at hc1 hc2 hr
      obtain ⟨hr1, hr2, hr3⟩ := hr
      have HL : Hid (lessS (l.take (k + 1)) n = lessS (l.take k) n ++ cutS n (x, y)) := by show _ = _; rw [HS.out, lessS_snoc]
      generalize lessS (l.take k) n = L at *
      clear HS
      obtain ⟨bo, hbo⟩ : ∃ bo : Bool, bo = decide (x ≤ n ∧ n < y) := ⟨_, rfl⟩
      have HB := Lib.hid hbo
      clear hbo
      go_upto_region 8 with fail
      go_cut [33] (fun s33 wx => s33 = .bool bo ∧ wx = (wr.alloc (.cells #[.int .i64 x, .int .i64 y] 78)).alloc (.cells #[.int .i64 x, .int .i64 y] 78))
      case first =>
        by_cases hx : x ≤ n
        · by_cases hy : n < y
          · have hh : bo = true := by rw [HB.out]; simp [hx, hy]
            subst hh
            go_wp2
            go_meet
            exact ⟨rfl, rfl⟩
          · have hh : bo = false := by rw [HB.out]; simp [hy]
            subst hh
            have dy : decide (n < y) = false := by simpa using hy
            go_wp2
            go_meet
            exact ⟨rfl, rfl⟩
        · have hh : bo = false := by rw [HB.out]; simp [hx]
          subst hh
          have dx : decide (x ≤ n) = false := by simpa using hx
          go_wp2
          go_meet
          exact ⟨rfl, rfl⟩
      case rest =>
      obtain ⟨rfl, rfl⟩ := hcut
      go_upto_if 33 with fail
      go_cut [9] (fun s9 wx => ∃ ps : List Rg, wx.ownsRow w.heap.size 78 2 s9 ps.length (cellsR ps) ∧ wx.ownsRow w.heap.size 78 2 u6 L.length (cellsR L) ∧ Apart u6 s9 ∧ ps.length ≤ 2 ∧ ps.filter ltR = cutS n (x, y) ∧ Below w.heap.size w wx)
      case first =>
        cases bo with
        | true =>
          have HH := HB.out
          have HX : Hid (x ≤ n ∧ n < y) := by show _ ∧ _; simpa using HH.symm
          clear HH HB
          go_wp2
          go_meet
          refine ⟨[(x, n), (n + 1, y)], ?_, ((ho.alloc _).alloc _).alloc _, ?_, by simp, cutS_two n x y HX.out.1 HX.out.2, ((hb.alloc hz _).alloc (by simp; omega) _).alloc (by simp; omega) _⟩
          · exact owns_lit _ _ _ _ 2 _ 2 (by simp) (by omega) (by omega) rfl
          · intro g hg1 hg2
            simp [Value.ownBlock] at hg2
            have := (ho.lt g hg1).2
            omega
        | false =>
          have HH := HB.out
          have HX : Hid (¬ (x ≤ n ∧ n < y)) := by show ¬ _; simpa using HH.symm
          clear HH HB
          go_wp2
          go_meet
          refine ⟨[(x, y)], ?_, (ho.alloc _).alloc _, ?_, by simp, cutS_one n x y hr2 HX.out, (hb.alloc hz _).alloc (by simp; omega) _⟩
          · exact owns_lit _ _ _ _ 2 _ 1 (by simp) (by omega) (by omega) rfl
          · intro g hg1 hg2
            simp [Value.ownBlock] at hg2
            have := (ho.lt g hg1).2
            omega
      case rest =>
      obtain ⟨ps, hops, ho2, hap, hps, hf, hb2⟩ := hcut
      have HF := Lib.hid hf
      obtain ⟨ao9, cap9, rfl, hcap9, hm9⟩ := Sl.shape (sl_of_owns hops)
      have hs2 := hb2.size
      clear hf HB ho hb hc1 hc2
      go_wp2
      go_loopw [6, 46] (fun v6 jx w3 => ∃ j : Nat, j ≤ ps.length ∧ jx = .int .i64 j ∧ w3.ownsRow w.heap.size 78 2 v6 (L ++ (ps.take j).filter ltR).length (cellsR (L ++ (ps.take j).filter ltR)) ∧
        w3.ownsRow w.heap.size 78 2 (.slice ao9 ps.length cap9) ps.length (cellsR ps) ∧ Apart v6 (.slice ao9 ps.length cap9) ∧ Below w.heap.size w w3) (fun _ jx _ => ps.length - (intOf jx).toNat)
      case atStart => exact ⟨0, Nat.zero_le _, rfl, by simpa using ho2, hops, hap, hb2⟩
      case round =>
        obtain ⟨j, hj, rfl, ho3, hops3, hap3, hb3⟩ := hrel
        have hs3 := hb3.size
        clear ho2 hops hap hb2
        rcases Nat.lt_or_ge j ps.length with hltj | hgej
        · have hsl : SlR wr (.slice ao9 ps.length cap9) ps := sl_of_owns hops3
          obtain ⟨b9, off9, rfl, hb9, he1, he2⟩ := hsl.pair (Below.refl wr.heap.size wr) (Nat.le_refl _) j hltj
          have HS := Lib.hid (take_snoc ps j hltj)
          generalize ps[j] = r at *
          obtain ⟨x2, y2⟩ := r
          simp only at he1 he2
          have hlA : (L ++ (ps.take j).filter ltR).length < 100000000 := by
            have h1 := List.length_filter_le ltR (ps.take j)
            have h2 := List.length_take_le j ps
            simp only [List.length_append]; omega
          have HA : Hid (L ++ (ps.take (j + 1)).filter ltR = (L ++ (ps.take j).filter ltR) ++ (if x2 < y2 then [(x2, y2)] else [])) := by
            show _ = _; rw [HS.out, filter_snoc, List.append_assoc]
          generalize L ++ (ps.take j).filter ltR = A at *
          clear HS HL HF
          by_cases hxy : x2 < y2
          · have HA2 : Hid (L ++ (ps.take (j + 1)).filter ltR = A ++ [(x2, y2)]) := by show _ = _; rw [HA.out, if_pos hxy]
            clear HA
            go_upto_region 14 with fail
            go_wp2_with ((with_reducible refine at_slot 58 ?_); refine append_R_at (o := ⟨some 58, _, _, _, _, _⟩) rfl _ _ rfl w.heap.size _ A.length A rfl ((ho3.alloc _).alloc _) _ _ x2 y2 rfl (cells_two_at _ _ _ _ _ (by first | rfl | simp)) (by omega) (by simp; omega) ?_)
            intro v6' w4 ho4 hg4 hat4
            have hb4 : Below w.heap.size w w4 := ((hb3.alloc hs3 _).alloc (by simp; omega) _).grown hg4 (by simp; omega) (owns_ge ho3)
            have hops4 := hap3.kept ((hops3.alloc _).alloc _) hg4
            have hap4 := hap3.step2 hops3 hat4 (by first | omega | (simp; omega))
            clear hg4 hat4
            go_wp2
            go_roundw
            case rel => exact ⟨j + 1, by omega, by go_num, by rw [HA2.out]; simpa using ho4, hops4, hap4, hb4⟩
            case measure => simp [intOf]; omega
          · have HA2 : Hid (L ++ (ps.take (j + 1)).filter ltR = A) := by show _ = _; rw [HA.out, if_neg hxy, List.append_nil]
            clear HA
            go_wp2
            go_roundw
            case rel => exact ⟨j + 1, by omega, by go_num, by rw [HA2.out]; exact ho3.alloc _, hops3.alloc _, hap3, hb3.alloc hs3 _⟩
            case measure => simp [intOf]; omega
        · have HT : Hid (ps.take j = ps) := List.take_of_length_le hgej
          rw [HT.out] at ho3
          rw [HF.out, ← HL.out] at ho3
          clear HF HL
          go_wp2
          go_roundw
          case rel => exact ⟨k + 1, by omega, by go_num, ho3, hb3⟩
          case measure => simp [intOf]; omega
    · have HT : Hid (l.take k = l) := List.take_of_length_le hge
      rw [HT.out] at ho hLk
      have hsl : SlR wr u6 (lessS l n) := sl_of_owns ho
      have hlen2 : (lessS l n).length < 1000000000 := by omega
      clear HT
      go_wp2_with fail
      refine (own_any _ _ _ hsl hlen2).mono ?_
      rintro e w5 ⟨v5, rfl, ho5, hb5⟩
      go_wp2
      go_ret2
      exact ⟨v5, rfl, owns_base ho5 hz, hb.trans (hb5.mono hz)⟩

end Go.Proofs.Ytckonmlcgfbojaa
