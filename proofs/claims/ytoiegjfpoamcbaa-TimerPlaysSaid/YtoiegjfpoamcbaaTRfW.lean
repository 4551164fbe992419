/- The walks of the reference's New, Next, Cancel. -/
import Derived.Test.YtoiegjfpoamcbaaTRf
namespace Go.Proofs.Ytoiegjfpoamcbaa
open Go.RowKit

theorem Try.infoW2 : (Try.prog.info? 55).map (fun i => (i.zero, i.size, i.bytes)) = some (some (.agg #[.int .i64 0, .int .i64 0]), 2, 16) := by kernel_rfl

/-! ### Plain -/
theorem remW_snoc (M : List Rw) (k : Nat) (hk : k < M.length) (id : Int) : remW (M.take (k + 1)) id = remW (M.take k) id ++ (if M[k].1 ≠ id then [M[k]] else []) := by
  unfold remW
  rw [take_snoc M k hk, List.filter_append]
  congr 1
  by_cases h : M[k].1 = id <;> simp [h]
theorem remW_lt {M : List Rw} (h : Srt M) (id : Int) : decide ((remW M id).length < M.length) = hasW M id := by
  rw [length_remW h]
  cases hh : hasW M id with
  | false => simp
  | true =>
    have : 0 < M.length := by
      cases M with
      | nil => simp [hasW] at hh
      | cons => simp
    simp; omega
theorem insW_at (M : List Rw) (r : Rw) (k : Nat) (hk : k ≤ M.length) (h1 : ∀ j (hj : j < k), ltW (M[j]'(by omega)) r) (h2 : ∀ (hl : k < M.length), ¬ ltW M[k] r) : insW M r = M.take k ++ r :: M.drop k := by
  induction M generalizing k with
  | nil =>
    have : k = 0 := by simpa using hk
    subst this; rfl
  | cons x t ih =>
    cases k with
    | zero =>
      have := h2 (by simp)
      rw [insW, if_neg (by simpa using this)]; rfl
    | succ k =>
      have hx := h1 0 (by omega)
      rw [insW, if_pos (by simpa using hx), ih k (by simpa using hk) (fun j hj => by have := h1 (j + 1) (by omega); simpa using this) (fun hl => by have := h2 (by simpa using hl); simpa using this)]
      rfl

/-! ### Walks -/
set_option maxHeartbeats 2000000 in
theorem rnew_any (w : World) : Calls Try.prog 6 #[] w fun e w' => e = .returned (.pointer (some ⟨w.heap.size, 0, none⟩)) ∧ Rf w' w.heap.size w.heap.size (.slice none 0 0) [] ∧ Below w.heap.size w w' := by
  go_enter Try.func6, Try.ntmps6
  go_wp2
  go_ret
  exact ⟨rfl, ⟨heap_alloc_new w _, Sl.nil _ _, Nat.le_refl _, fun g hg => by cases hg⟩, (Below.refl _ _).alloc (Nat.le_refl _) _⟩

theorem rnext_any (w : World) (B T : Nat) (v : Value) (M : List Rw) (h : Rf w B T v M) :
    Calls Try.prog 16 #[.pointer (some ⟨T, 0, none⟩)] w fun e w' => e = .returned (.tuple #[.int .i64 (rw_ M 0).2, .bool (decide (M ≠ []))]) ∧ w = w' := by
  obtain ⟨c, _⟩ := h.cell
  cases M with
  | nil =>
    obtain ⟨ao, cap, rfl, _, _⟩ := h.row.shape
    simp only [List.length_nil] at c
    go_enter Try.func16, Try.ntmps16
    go_wp2
    go_ret2
    exact ⟨by simp [rw_], rfl⟩
  | cons r M =>
    obtain ⟨g, off, cap, rfl, hcap, hm, hg, hgT, a1, a2⟩ := h.two 0 (by simp)
    simp only [Nat.zero_mul, List.getElem_cons_zero] at a1 a2
    have hl : ((M.length : Int) + 1 == 0) = false := by rw [beq_eq_false_iff_ne]; omega
    have hl2 : (0 : Int) < (M.length : Int) + 1 := by omega
    have hl3 : 0 < M.length + 1 := by omega
    simp only [List.length_cons] at c hcap
    go_enter Try.func16, Try.ntmps16
    go_wp2
    go_ret2
    exact ⟨by simp [rw_], rfl⟩

theorem append_W2 {w : World} {ops : Array Oper} {rest : List Oper} {o : Oper} {a : Act} {Q : Exit → Act → World → Prop} (hgd : o.guard = none) (s x : Operand)
    (ho : o.op = .call { callee := .builtin .append, args := #[s, x], argTypes := #[42, 42] })
    (base : Nat) (v : Value) (n : Nat) (l : List Rw) (hs : a.eval s = v) (hown : w.ownsRow base 55 2 v n (cellsW l))
    (ao : Option Addr) (m c : Nat) (p : List Rw) (hx : a.eval x = .slice ao m c) (hm : p.length = m) (hnews : Rd w ao (cellsW p))
    (hn : n + m < 1000000000) (hbase : base ≤ w.heap.size)
    (h : ∀ v' w', w'.ownsRow base 55 2 v' (n + m) (cellsW (l ++ p)) → w.grownBy w' v.ownBlock → (v'.ownBlock = v.ownBlock ∨ v'.ownBlock = some w.heap.size) → wpList Try.prog ops Q rest (a.put o.dst v') w') : wpList Try.prog ops Q (o :: rest) a w := by
  obtain ⟨i, hi, hz0, hz1, hz2⟩ := info_parts Try.infoW2
  refine wpList_append_rd_at hgd s x 42 ho base 55 i _ 2 16 Try.underlying42 hi hz0 hz1 hz2 rfl (by decide) v n _ hs hown ao m c (cellsW p) hx (by rw [length_cellsW, hm]) hnews (cellsW_one p) (by unfold maxLen; omega) (by omega) hbase ?_
  intro v' w' h1 h2 h3
  exact h v' w' (by rw [cellsW_append]; exact h1) h2 h3

theorem rd_two_at (w : World) (b : Nat) (x y : Int) (t : TypeId) (hb : w.heap.size = b) : Rd (w.alloc (.cells #[.int .i64 x, .int .i64 y] t)) (some ⟨b, 0, none⟩) (cellsW [(x, y)]) :=
  fun j u hu => ⟨_, rfl, cells_two_at w b _ _ t hb j u hu⟩

set_option maxHeartbeats 4000000 in
theorem rcancel_any (w : World) (B T : Nat) (v : Value) (M : List Rw) (id : Int) (h : Rf w B T v M) (hl : M.length < 1000) :
    Calls Try.prog 11 #[.pointer (some ⟨T, 0, none⟩), .int .i64 id] w (RfPost w B T v (remW M id) (.bool (decide ((remW M id).length < M.length)))) := by
  obtain ⟨c, cf⟩ := h.cell
  have hT := h.lt
  have HH := Lib.hid h
  obtain ⟨ao, cap, rfl, hcap, hm⟩ := h.row.shape
  go_enter Try.func11, Try.ntmps11
  go_wp2
  go_loopw [5, 6] (fun vl vi wr => ∃ (k : Nat) (done : List Rw), k ≤ M.length ∧ vi = .int .i64 k ∧ done = remW (M.take k) id ∧ done.length ≤ k ∧ wr.ownsRow w.heap.size 55 2 vl done.length (cellsW done) ∧ Below w.heap.size w wr) (fun _ vi _ => M.length - (intOf vi).toNat)
  case atStart => exact ⟨0, [], Nat.zero_le _, rfl, rfl, Nat.zero_le _, World.ownsRow_nil _ _ _ _, Below.refl _ _⟩
  case round =>
    obtain ⟨k, done, hk, rfl, hd, hdl, ho, hb⟩ := hrel
    have HD := Lib.hid hd
    clear hd
    have hz := hb.size
    have c9 := held_below c hb hT
    clear c
    rcases Nat.lt_or_ge k M.length with hlt | hge
    · obtain ⟨g, off, cap', he, _, _, hg, _, a1, a2⟩ := h.two k hlt
      injection he with he _ _
      subst he
      have b1 := held_below a1 hb hg
      have b2 := held_below a2 hb hg
      have HSN := Lib.hid (remW_snoc M k hlt id)
      have klt : (k : Int) < M.length := by omega
      clear a1 a2 h
      generalize M[k] = r at *
      obtain ⟨r1, r2⟩ := r
      simp only at b1 b2
      by_cases hid : r1 = id
      · have e1 : (r1 != id) = false := by simp [hid]
        have HSN2 : Hid (remW (M.take (k + 1)) id = remW (M.take k) id) := by show _ = _; rw [HSN.out]; simp [hid]
        clear hid HSN
        go_wp2
        go_roundw
        case rel => exact ⟨k + 1, done, by omega, by go_num, by rw [HSN2.out]; exact HD.out, by omega, ho, hb⟩
        case measure => simp [intOf]; omega
      · have e1 : (r1 != id) = true := by simpa using hid
        have HSN2 : Hid (remW (M.take (k + 1)) id = remW (M.take k) id ++ [(r1, r2)]) := by show _ = _; rw [HSN.out]; simp [hid]
        clear hid HSN
        go_wp2_with ((with_reducible refine at_slot 36 ?_); refine append_W2 (o := ⟨some 36, _, _, _, _, _⟩) rfl _ _ rfl w.heap.size _ done.length done rfl (ho.alloc _) _ 1 1 [(r1, r2)] rfl rfl (rd_two_at _ _ _ _ _ (by first | rfl | simp)) (by omega) (by simp; omega) ?_; intro v3 w3 ho3 hg3 hat3)
        have hb3 : Below w.heap.size w w3 := (hb.alloc hz _).grown hg3 (by simp; omega) (owns_ge ho)
        go_roundw
        case rel => exact ⟨k + 1, done ++ [(r1, r2)], by omega, by go_num, by rw [HSN2.out, HD.out], by simp; omega, by simpa using ho3, hb3⟩
        case measure => simp [intOf]; omega
    · have hk2 : k = M.length := by omega
      subst hk2
      rw [List.take_length] at HD
      have HD2 := HD.out
      obtain ⟨ao2, cap2, rfl, _, _⟩ := owns_shape ho
      obtain ⟨p1, p2⟩ := h.put (M' := done) hb (sl_of_owns ho) (fun g hg => .inr (ho.lt g hg))
      have f9 : wr.frozen? ⟨T, 0, none⟩ = false := by rw [hb.frozen (p := ⟨T, 0, none⟩) hT]; exact cf
      have HDD := Lib.hid HD2
      have HP1 := Lib.hid p1
      have HP2 := Lib.hid p2
      clear p1 p2 h HD HD2 cf
      go_wp2
      go_ret
      exact ⟨ret_bool (by rw [← HDD.out]), _, by rw [← HDD.out]; exact HP1.out, by exact HP2.out⟩

end Go.Proofs.Ytoiegjfpoamcbaa
