/- The timers' contracts told of one object behind a world; known, within, ints. -/
import Derived.Test.YtoiegjfpoamcbaaTWkF
namespace Go.Proofs.Ytoiegjfpoamcbaa
open Go.RowKit

/-- Behind w0 one object, at T, holds M. -/
structure St (w0 w : World) (T : Nat) (v : Value) (M : List Rw) : Prop where
  rep : TmR w w0.heap.size T v M
  srt : Srt M
  len : M.length ≤ 100
  bel : Below w0.heap.size w0 w

theorem TmR.base {w : World} {B B' T : Nat} {v : Value} {M : List Rw} (h : TmR w B T v M) (hB : B' ≤ B) : TmR w B' T v M := by
  obtain ⟨L, ⟨a, b, c, d⟩, h2, h3⟩ := h
  exact ⟨L, ⟨a, owns_base b hB, Nat.le_trans hB c, d⟩, h2, h3⟩
theorem St.lt {w0 w : World} {T : Nat} {v : Value} {M : List Rw} (h : St w0 w T v M) : T < w.heap.size := by obtain ⟨L, ht, _⟩ := h.rep; exact ht.lt
theorem St.ge {w0 w : World} {T : Nat} {v : Value} {M : List Rw} (h : St w0 w T v M) : w0.heap.size ≤ T := by obtain ⟨L, ht, _⟩ := h.rep; exact ht.base
theorem St.blt {w0 w : World} {T : Nat} {v : Value} {M : List Rw} (h : St w0 w T v M) : ∀ g, v.ownBlock = some g → w0.heap.size ≤ g ∧ g < w.heap.size := by obtain ⟨L, ht, _⟩ := h.rep; exact fun g hg => ⟨ht.ge g hg, ht.blt g hg⟩
theorem St.keep {w0 w w' : World} {T : Nat} {v : Value} {M : List Rw} (h : St w0 w T v M) (hb : Below w.heap.size w w') : St w0 w' T v M :=
  ⟨h.rep.keep hb, h.srt, h.len, h.bel.trans (hb.mono h.bel.size)⟩
theorem St.moved {w0 w w' : World} {T : Nat} {v v' : Value} {M M' : List Rw} (h : St w0 w T v M) (m : Mv T w v w' v') (hr : TmR w' w0.heap.size T v' M') (hs : Srt M') (hl : M'.length ≤ 100) : St w0 w' T v' M' :=
  ⟨hr, hs, hl, h.bel.trans (m.below h.ge (fun g hg => (h.blt g hg).1) h.bel.size)⟩

theorem new_st (w0 w : World) (hb : Below w0.heap.size w0 w) : Calls Try.prog 5 #[] w fun e w' => e = .returned (.pointer (some ⟨w.heap.size, 0, none⟩)) ∧ St w0 w' w.heap.size (.slice none 0 0) [] ∧ Below w.heap.size w w' := by
  refine (new_any w).mono ?_
  rintro e w' ⟨h1, h2, h3, h4⟩
  exact ⟨h1, ⟨TmR.base ⟨[], h2, List.Perm.refl _, fun k _ h => by simp at h⟩ hb.size, srt_nil, by simp, hb.trans (h3.mono hb.size)⟩, h3⟩

theorem set_st {w0 w : World} {T : Nat} {v : Value} {M : List Rw} (h : St w0 w T v M) (id tm : Int) :
    Calls Try.prog 8 #[.pointer (some ⟨T, 0, none⟩), .int .i64 id, .int .i64 tm] w fun e w' => e = .returned (.int .i64 (setW M id tm).2) ∧ ∃ v', St w0 w' T v' (setW M id tm).1 ∧ Mv T w v w' v' := by
  refine (set_any w w0.heap.size T v M id tm h.rep h.srt (by have := h.len; omega)).mono ?_
  rintro e w' ⟨h1, v', h2, h3⟩
  exact ⟨h1, v', h.moved h3 h2 (srt_setW h.srt _ _) (length_setW h.srt _ _ h.len), h3⟩
theorem cancel_st {w0 w : World} {T : Nat} {v : Value} {M : List Rw} (h : St w0 w T v M) (id : Int) :
    Calls Try.prog 10 #[.pointer (some ⟨T, 0, none⟩), .int .i64 id] w fun e w' => e = .returned (.bool (hasW M id)) ∧ ∃ v', St w0 w' T v' (remW M id) ∧ Mv T w v w' v' := by
  refine (cancel_any w w0.heap.size T v M id h.rep h.srt (by have := h.len; omega)).mono ?_
  rintro e w' ⟨h1, v', h2, h3⟩
  exact ⟨h1, v', h.moved h3 h2 (srt_remW h.srt _) (by rw [length_remW h.srt]; have := h.len; omega), h3⟩
theorem due_st {w0 w : World} {T : Nat} {v : Value} {M : List Rw} (h : St w0 w T v M) (now : Int) :
    Calls Try.prog 13 #[.pointer (some ⟨T, 0, none⟩), .int .i64 now] w fun e w' => ∃ vo v', e = .returned vo ∧ w'.ownsRow w.heap.size 3 1 vo (dueW M now).1.length (cellsI (dueW M now).1) ∧ St w0 w' T v' (dueW M now).2 ∧ Mv T w v w' v' ∧ ∀ g, vo.ownBlock = some g → v'.ownBlock ≠ some g := by
  refine (due_any w w0.heap.size T v M now h.rep h.srt (by have := h.len; omega)).mono ?_
  rintro e w' ⟨vo, v', h1, h2, h3, h4, h5⟩
  exact ⟨vo, v', h1, h2, h.moved h4 h3 (dueW_srt h.srt _) (by have := dueW_len M now; have := h.len; omega), h4, h5⟩
theorem next_st {w0 w : World} {T : Nat} {v : Value} {M : List Rw} (h : St w0 w T v M) :
    Calls Try.prog 15 #[.pointer (some ⟨T, 0, none⟩)] w fun e w' => e = .returned (.tuple #[.int .i64 (rw_ M 0).2, .bool (decide (M ≠ []))]) ∧ w = w' := by
  obtain ⟨L, ht, hp, hh⟩ := h.rep
  refine (next_any w w0.heap.size T v L ht).mono ?_
  rintro e w' ⟨rfl, rfl⟩
  refine ⟨?_, rfl⟩
  cases M with
  | nil =>
    have hL : L = [] := List.perm_nil.1 hp
    subst hL; rfl
  | cons r M =>
    have h1 := head_eq hp hh h.srt
    have h2 : L ≠ [] := fun e => by rw [e] at hp; have := hp.length_eq; simp at this
    have h3 : rw_ (r :: M) 0 = r := rfl
    rw [h1, h3]
    simp [h2]
theorem len_st {w0 w : World} {T : Nat} {v : Value} {M : List Rw} (h : St w0 w T v M) :
    Calls Try.prog 17 #[.pointer (some ⟨T, 0, none⟩)] w fun e w' => e = .returned (.int .i64 M.length) ∧ w = w' := by
  obtain ⟨L, ht, hp, hh⟩ := h.rep
  refine (len_any w w0.heap.size T v L ht).mono ?_
  rintro e w' ⟨rfl, rfl⟩
  exact ⟨by rw [hp.length_eq], rfl⟩

set_option maxHeartbeats 400000 in
theorem within_any (a n : Int) (w : World) (hn : 0 < n) (hn2 : n ≤ 4611686018427387904) :
    Calls Try.prog 7 #[.int .i64 a, .int .i64 n] w fun e w' => e = .returned (.int .i64 (a % n)) ∧ w = w' := by
  have h2 := Int.emod_nonneg a (show n ≠ 0 by omega)
  have h3 := Int.emod_lt_of_pos a hn
  by_cases h : 0 ≤ a
  · go_enter Try.func7, Try.ntmps7
    go_wp2
    go_ret
    exact ⟨rfl, rfl⟩
  · have h4 := Lib.hid (tmod_wrap a n hn (by omega))
    have h5 : a.tmod n ≤ 0 := by rw [← Int.neg_neg a, Int.neg_tmod]; have := Int.tmod_nonneg n (show 0 ≤ -a by omega); omega
    have h6 : -n < a.tmod n := by rw [← Int.neg_neg a, Int.neg_tmod]; have := Int.tmod_lt_of_pos (-a) hn; omega
    go_enter Try.func7, Try.ntmps7
    go_wp2
    all_goals go_ret
    all_goals refine ⟨ret_int ?_, rfl⟩
    · rw [← h4.out, if_pos (by assumption)]
    · rw [← h4.out, if_neg (by omega)]

theorem tdiv_bd (a n : Int) (hn : 0 < n) (h : -9223372036854775808 ≤ a ∧ a ≤ 9223372036854775807) : -9223372036854775808 ≤ a.tdiv n ∧ a.tdiv n ≤ 9223372036854775807 := by
  rcases Int.le_total 0 a with h0 | h0
  · rw [Int.tdiv_eq_ediv_of_nonneg h0]
    have h1 := Int.ediv_nonneg h0 (Int.le_of_lt hn)
    have h2 := Int.ediv_le_self n h0
    omega
  · have e : a.tdiv n = -((-a).tdiv n) := by rw [Int.neg_tdiv, Int.neg_neg]
    rw [e, Int.tdiv_eq_ediv_of_nonneg (by omega)]
    have h1 := Int.ediv_nonneg (show 0 ≤ -a by omega) (Int.le_of_lt hn)
    have h2 := Int.ediv_le_self n (show 0 ≤ -a by omega)
    omega

set_option maxHeartbeats 1000000 in
theorem ints_any (v v' : Value) (l m : List Int) (w : World) (h : SlI w v l) (h' : SlI w v' m) :
    Calls Try.prog 12 #[v, v'] w fun e w' => e = .returned (.bool (decide (l = m))) ∧ Below w.heap.size w w' := by
  obtain ⟨ao, cap, rfl, hcap, hm⟩ := Sl.shape h
  obtain ⟨ao', cap', rfl, hcap', hm'⟩ := Sl.shape h'
  by_cases hlen : l.length = m.length
  · rw [← hlen] at h' ⊢ hcap'
    have HL := Lib.hid hlen
    clear hlen
    go_enter Try.func12, Try.ntmps12
    go_wp2
    go_loopw [5] (fun i wr => ∃ k : Nat, k ≤ l.length ∧ i = .int .i64 k ∧ l.take k = m.take k ∧ Below w.heap.size w wr) (fun i _ => l.length - (intOf i).toNat)
    case atStart => exact ⟨0, Nat.zero_le _, rfl, rfl, Below.refl _ _⟩
    case round =>
      obtain ⟨k, hk, rfl, hh, hb⟩ := hrel
      have HH := Lib.hid hh
      clear hh
      by_cases hlt : k < l.length
      · have hltm : k < m.length := by rw [← HL.out]; exact hlt
        obtain ⟨b, off, rfl, hbl, hc1⟩ := h.cell hb (Nat.le_refl _) k hlt
        have hS' : SlI w (.slice ao' m.length cap') m := by rw [← HL.out]; exact h'
        obtain ⟨b', off', rfl, hbl', hc1'⟩ := hS'.cell hb (Nat.le_refl _) k hltm
        clear hS'
        have HS : Hid (l[k] = m[k] → l.take (k + 1) = m.take (k + 1)) := fun hh => by rw [take_snoc l k hlt, take_snoc m k hltm, HH.out, hh]
        have HNE : Hid (l[k] ≠ m[k] → decide (l = m) = false) := fun hh => by
          rw [decide_eq_false_iff_not]; rintro rfl; exact hh rfl
        generalize l[k] = r at *
        generalize m[k] = r' at *
        clear hltm
        by_cases h1 : r = r'
        · subst h1
          go_wp2
          go_quiet (fail)
          go_wp2
          go_roundw
          case rel => exact ⟨k + 1, by omega, by go_num, HS.out (by first | rfl | trivial), below_drewN hb _⟩
          case measure => simp [intOf]; omega
        · have HF : Hid (decide (l = m) = false) := HNE.out h1
          have s1 : (r == r') = false := by simpa using h1
          have s2 : (r != r') = true := by simpa using h1
          clear h1 HS HNE
          go_wp2
          go_quiet (fail)
          go_wp2
          go_ret
          exact ⟨ret_bool HF.out.symm, below_drewN hb _⟩
      · have HK := Lib.hid hlt
        go_wp2
        go_ret
        exact ⟨ret_bool (by symm; rw [decide_eq_true_iff]; have := HH.out; rw [List.take_of_length_le (by omega), List.take_of_length_le (by have := HL.out; omega)] at this; exact this), hb⟩
  · have hne : ((l.length : Int) == m.length) = false := by rw [beq_eq_false_iff_ne]; omega
    have hne2 : ((l.length : Int) != m.length) = true := by rw [bne_iff_ne]; omega
    go_enter Try.func12, Try.ntmps12
    go_wp2
    go_ret
    exact ⟨ret_bool (by symm; rw [decide_eq_false_iff_not]; intro e; exact hlen (by rw [e])), Below.refl _ _⟩

set_option maxHeartbeats 1000000 in
theorem known_any (w : World) : Calls Try.prog 4 #[] w fun e w' => e = .returned (.bool true) ∧ Below w.heap.size w w' := by
  have H1 := Lib.hid (show setW [] 1 5 = ([(1, 5)], 0) by decide)
  have H2 := Lib.hid (show setW [(1, 5)] 2 3 = ([(2, 3), (1, 5)], 0) by decide)
  have H3 := Lib.hid (show dueW [(2, 3), (1, 5)] 9 = ([2, 1], []) by decide)
  go_enter Try.func4, Try.ntmps4
  go_wp2_with fail
  refine (new_st w w (Below.refl _ _)).mono ?_
  rintro e w1 ⟨rfl, hs1, _⟩
  go_wp2_with fail
  refine (set_st hs1 1 5).mono ?_
  rw [H1.out]
  rintro e w2 ⟨rfl, v2, hs2, _⟩
  go_wp2_with fail
  refine (set_st hs2 2 3).mono ?_
  rw [H2.out]
  rintro e w3 ⟨rfl, v3, hs3, _⟩
  go_wp2_with fail
  refine (due_st hs3 9).mono ?_
  rw [H3.out]
  rintro e w4 ⟨vo, v4, rfl, ho, hs4, _⟩
  obtain ⟨g, cap, rfl⟩ := owns_some ho (by simp)
  obtain ⟨_, _, hn, hc, _, _, hcell⟩ := owns_block ho
  have c0 := hcell 0 (.int .i64 2) rfl
  have c1 := hcell 1 (.int .i64 1) rfl
  have hb := hs4.bel
  clear hcell ho hs4 hs3 hs2 hs1 H1 H2 H3
  simp only [List.length_cons, List.length_nil, Nat.zero_add] at hn
  go_wp2
  go_ret
  exact ⟨rfl, hb⟩

end Go.Proofs.Ytoiegjfpoamcbaa
