/- The walks of package ranges. The walks of same, own. -/
import Derived.Test.YtckonmlcgfbojaaRows
import Derived.Test.YtckonmlcgfbojaaLib

namespace Go.Proofs.Ytckonmlcgfbojaa
open Go.RowKit

set_option maxHeartbeats 400000 in
theorem len_any (v : Value) (l : List Rg) (w : World) (h : SlR w v l) (hs : Small l) (hl : l.length < 1000000) :
    Calls Try.prog 98 #[v] w fun e w' => e = .returned (.int .i64 (lenR l)) ∧ Below w.heap.size w w' := by
  obtain ⟨ao, cap, rfl, hcap, hm⟩ := Sl.shape h
  go_enter Try.func98, Try.ntmps98
  go_wp2
  go_loopw [3, 8] (fun n i wr => ∃ k : Nat, k ≤ l.length ∧ i = .int .i64 k ∧ n = .int .i64 (lenR (l.take k)) ∧ Below w.heap.size w wr) (fun _ i _ => l.length - (intOf i).toNat)
  case atStart => exact ⟨0, Nat.zero_le _, rfl, rfl, Below.refl _ _⟩
  case round =>
    obtain ⟨k, hk, rfl, rfl, hb⟩ := hrel
    by_cases hlt : k < l.length
    · obtain ⟨b, off, rfl, hbl, hc1, hc2⟩ := h.pair hb (Nat.le_refl _) k hlt
      have hz := hb.size
      have hbd := lenR_bounds _ (hs.take k)
      have hr := hs l[k] (List.getElem_mem _)
      have hln : (l.take k).length ≤ k := List.length_take_le _ _
      have HT := Lib.hid (lenR_append (l.take k) [l[k]])
      have HS := Lib.hid (take_snoc l k hlt)
      generalize l[k] = r at *
      obtain ⟨p, q⟩ := r
      simp only at hc1 hc2 hr
      obtain ⟨hr1, hr2, hr3⟩ := hr
      obtain ⟨hbd1, hbd2⟩ := hbd
      go_wp2
      go_roundw
      case rel => exact ⟨k + 1, by omega, by go_num, by rw [HS.out, HT.out]; simp [lenR], hb.alloc hz _⟩
      case measure => simp [intOf]; omega
    · go_wp2
      go_ret
      exact ⟨ret_int (by rw [List.take_of_length_le (by omega)]), hb⟩

theorem hasR_snoc (l : List Rg) (p q n : Int) : hasR (l ++ [(p, q)]) n = (hasR l n || (decide (p ≤ n) && decide (n < q))) := by
  simp [hasR]

set_option maxHeartbeats 400000 in
theorem has_any (v : Value) (l : List Rg) (n : Int) (w : World) (h : SlR w v l) (_hl : l.length < 1000000) :
    Calls Try.prog 53 #[v, .int .i64 n] w fun e w' => e = .returned (.bool (hasR l n)) ∧ Below w.heap.size w w' := by
  obtain ⟨ao, cap, rfl, hcap, hm⟩ := Sl.shape h
  go_enter Try.func53, Try.ntmps53
  go_wp2
  go_loopw [9] (fun i wr => ∃ k : Nat, k ≤ l.length ∧ i = .int .i64 k ∧ hasR (l.take k) n = false ∧ Below w.heap.size w wr) (fun i _ => l.length - (intOf i).toNat)
  case atStart => exact ⟨0, Nat.zero_le _, rfl, rfl, Below.refl _ _⟩
  case round =>
    obtain ⟨k, hk, rfl, hh, hb⟩ := hrel
    by_cases hlt : k < l.length
    · obtain ⟨b, off, rfl, hbl, hc1, hc2⟩ := h.pair hb (Nat.le_refl _) k hlt
      have hz := hb.size
      have HS := Lib.hid (take_snoc l k hlt)
      have HD := Lib.hid (List.take_append_drop (k + 1) l)
      have HH := Lib.hid hh
      clear hh
      generalize l[k] = r at *
      obtain ⟨p, q⟩ := r
      simp only at hc1 hc2
      by_cases h1 : p ≤ n
      · by_cases h2 : n < q
        · go_wp2
          go_ret
          refine ⟨ret_bool ?_, hb.alloc hz _⟩
          have e : hasR (l.take (k + 1) ++ l.drop (k + 1)) n = true := by
            rw [HS.out]; simp [hasR, h1, h2]
          rw [HD.out] at e
          exact e.symm
        · go_wp2
          go_roundw
          case rel => exact ⟨k + 1, by omega, by go_num, by rw [HS.out, hasR_snoc, HH.out]; simp [h2], hb.alloc hz _⟩
          case measure => simp [intOf]; omega
      · go_wp2
        go_roundw
        case rel => exact ⟨k + 1, by omega, by go_num, by rw [HS.out, hasR_snoc, HH.out]; simp [h1], hb.alloc hz _⟩
        case measure => simp [intOf]; omega
    · have HH := Lib.hid hh
      clear hh
      go_wp2
      go_ret
      refine ⟨ret_bool ?_, hb⟩
      have := HH.out
      rw [List.take_of_length_le (by omega)] at this
      exact this.symm

end Go.Proofs.Ytckonmlcgfbojaa

namespace Go.Proofs.Ytckonmlcgfbojaa
open Go.RowKit

theorem Try.infoR : (Try.prog.info? 78).map (fun i => (i.zero, i.size, i.bytes)) = some (some (.agg #[.int .i64 0, .int .i64 0]), 2, 16) := by kernel_rfl

/-- 'append(out, r)', r a range that was just laid. -/
theorem append_R {w : World} {ops : Array Oper} {rest : List Oper} {o : Oper} {a : Act} {Q : Exit → Act → World → Prop} (hgd : o.guard = none) (s x : Operand)
    (ho : o.op = .call { callee := .builtin .append, args := #[s, x], argTypes := #[28, 28] })
    (base : Nat) (v : Value) (n : Nat) (l : List Rg) (hs : a.eval s = v) (hown : w.ownsRow base 78 2 v n (cellsR l))
    (ad : Addr) (c : Nat) (p q : Int) (hx : a.eval x = .slice (some ad) 1 c) (hnews : ∀ j u, [Value.int .i64 p, .int .i64 q][j]? = some u → w.cell? (ad.add j) = some u)
    (hn : n < 1000000000) (hbase : base ≤ w.heap.size)
    (h : ∀ v' w', w'.ownsRow base 78 2 v' (n + 1) (cellsR (l ++ [(p, q)])) → w.grownBy w' v.ownBlock → wpList Try.prog ops Q rest (a.put o.dst v') w') : wpList Try.prog ops Q (o :: rest) a w := by
  obtain ⟨i, hi, hz0, hz1, hz2⟩ := info_parts Try.infoR
  refine wpList_append_own _ hgd s x 28 ho base 78 i _ 2 16 Try.underlying28 hi hz0 hz1 hz2 rfl (by decide) v n _ hs hown ad 1 c [.int .i64 p, .int .i64 q] hx rfl hnews (by simp [Value.oneCell']) (by unfold maxLen; omega) (by omega) hbase ?_
  intro v' w' h1 h2 _
  exact h v' w' (by rw [cellsR_snoc]; exact h1) h2

theorem append_R_at {w : World} {ops : Array Oper} {rest : List Oper} {o : Oper} {a : Act} {Q : Exit → Act → World → Prop} (hgd : o.guard = none) (s x : Operand)
    (ho : o.op = .call { callee := .builtin .append, args := #[s, x], argTypes := #[28, 28] })
    (base : Nat) (v : Value) (n : Nat) (l : List Rg) (hs : a.eval s = v) (hown : w.ownsRow base 78 2 v n (cellsR l))
    (ad : Addr) (c : Nat) (p q : Int) (hx : a.eval x = .slice (some ad) 1 c) (hnews : ∀ j u, [Value.int .i64 p, .int .i64 q][j]? = some u → w.cell? (ad.add j) = some u)
    (hn : n < 1000000000) (hbase : base ≤ w.heap.size)
    (h : ∀ v' w', w'.ownsRow base 78 2 v' (n + 1) (cellsR (l ++ [(p, q)])) → w.grownBy w' v.ownBlock → (v'.ownBlock = v.ownBlock ∨ v'.ownBlock = some w.heap.size) → wpList Try.prog ops Q rest (a.put o.dst v') w') : wpList Try.prog ops Q (o :: rest) a w := by
  obtain ⟨i, hi, hz0, hz1, hz2⟩ := info_parts Try.infoR
  refine wpList_append_own_at _ hgd s x 28 ho base 78 i _ 2 16 Try.underlying28 hi hz0 hz1 hz2 rfl (by decide) v n _ hs hown ad 1 c [.int .i64 p, .int .i64 q] hx rfl hnews (by simp [Value.oneCell']) (by unfold maxLen; omega) (by omega) hbase ?_
  intro v' w' h1 h2 _ h3
  exact h v' w' (by rw [cellsR_snoc]; exact h1) h2 h3

/-- 'append(out[:k:k], r)' as a step of a region that draws its order: it always grows. -/
theorem stepR_grows {ops : Array Oper} {o : Oper} {a : Act} {w : World} {K : Act → World → Prop} {Q : Exit → Act → World → Prop} {E : Prop}
    (hg : o.guard = none) (s x : Operand) (hop : o.op = Op.call { callee := Callee.builtin Builtin.append, args := #[s, x], argTypes := #[28, 28] })
    (ao : Option Addr) (k : Nat) (l : List Rg) (hs : a.eval s = .slice ao k k) (hrd : Rd w ao (cellsR l)) (hk : l.length = k)
    (ad : Addr) (c : Nat) (p q : Int) (hx : a.eval x = .slice (some ad) 1 c) (hc : ∀ j u, [Value.int .i64 p, .int .i64 q][j]? = some u → w.cell? (ad.add j) = some u) (hn : k < 1000000000)
    (hK : ∀ v' w', w'.ownsRow w.heap.size 78 2 v' (k + 1) (cellsR (l ++ [(p, q)])) → w.grownBy w' none → K (a.put o.dst v') w') :
    if Region.wanted o (yielded ops a.tmps) = true then Oper.wp Try.prog o a w K Q else E := by
  obtain ⟨i, hi, hz0, hz1, hz2⟩ := info_parts Try.infoR
  refine step_append_grows hg s x 28 hop 78 i _ 2 16 Try.underlying28 hi hz0 hz1 hz2 rfl (by decide) ao k k (cellsR l) hs ?_ (by rw [length_cellsR, hk]) ?_
    ad 1 c [.int .i64 p, .int .i64 q] hx rfl hc (by simp [Value.oneCell']) (by omega) (by unfold maxLen; omega) (by omega) ?_
  · rintro rfl
    cases l with
    | nil => simp at hk; omega
    | cons r l => obtain ⟨a, ha, _⟩ := hrd 0 _ rfl; cases ha
  · rintro b rfl j u hu
    obtain ⟨a', ha, h⟩ := hrd j u hu
    have e := Option.some.inj ha
    subst e; exact h
  · intro v' w' h1 h2
    exact hK v' w' (by rw [cellsR_snoc]; exact h1) h2

/-- 'append(out, l...)'. -/
theorem append_Rs {w : World} {ops : Array Oper} {rest : List Oper} {o : Oper} {a : Act} {Q : Exit → Act → World → Prop} (hgd : o.guard = none) (s x : Operand)
    (ho : o.op = .call { callee := .builtin .append, args := #[s, x], argTypes := #[28, 28] })
    (base : Nat) (v : Value) (n : Nat) (l : List Rg) (hs : a.eval s = v) (hown : w.ownsRow base 78 2 v n (cellsR l))
    (ao : Option Addr) (m c : Nat) (l' : List Rg) (hx : a.eval x = .slice ao m c) (hm : l'.length = m) (hnews : Rd w ao (cellsR l'))
    (hn : n + m < 1000000000) (hbase : base ≤ w.heap.size)
    (h : ∀ v' w', w'.ownsRow base 78 2 v' (n + m) (cellsR (l ++ l')) → w.grownBy w' v.ownBlock → wpList Try.prog ops Q rest (a.put o.dst v') w') : wpList Try.prog ops Q (o :: rest) a w := by
  obtain ⟨i, hi, hz0, hz1, hz2⟩ := info_parts Try.infoR
  refine wpList_append_rd hgd s x 28 ho base 78 i _ 2 16 Try.underlying28 hi hz0 hz1 hz2 rfl (by decide) v n _ hs hown ao m c (cellsR l') hx (by rw [length_cellsR, hm]) hnews (cellsR_one _) (by unfold maxLen; omega) (by omega) hbase ?_
  intro v' w' h1 h2
  exact h v' w' (by rw [cellsR_append]; exact h1) h2

/-- A row of the call's own is handed back. -/
def RetRow (w : World) (E e n : Nat) (cs : List Value) (en : Ending) (w' : World) : Prop :=
  ∃ v', en = .returned v' ∧ w'.ownsRow w.heap.size e E v' n cs ∧ Below w.heap.size w w'

set_option maxHeartbeats 400000 in
theorem own_any (v : Value) (l : List Rg) (w : World) (h : SlR w v l) (hl : l.length < 1000000000) :
    Calls Try.prog 73 #[v] w (RetRow w 2 78 l.length (cellsR l)) := by
  obtain ⟨ao, cap, rfl, hcap, hm⟩ := Sl.shape h
  obtain ⟨i, hi, hz0, hz1, hz2⟩ := info_parts Try.infoR
  go_enter Try.func73, Try.ntmps73
  go_wp2_with (at_make; refine wpList_make_full _ rfl _ _ 28 rfl w.heap.size 78 i _ 2 Try.underlying28 hi hz0 hz1 _ _ _ _ l.length rfl rfl rfl rfl ?b1 ?b2 ?b3 ?_)
  case b1 => rw [hz2]; omega
  case b2 => unfold maxLen; omega
  case b3 => exact Nat.le_refl _
  intro w1 ho hg
  go_wp2_with (((with_reducible refine at_slot 9 ?_); refine wpList_copy_all (o := ⟨some 9, _, _, _, _, _⟩) rfl _ _ _ _ rfl w.heap.size 78 i 2 Try.underlying28 hi hz1 _ _ _ _ rfl ho _ _ _ rfl (h.keep ((Below.refl _ _).grown hg (Nat.le_refl _) (by simp)) (Nat.le_refl _)) (cellsR_one _) ?_))
  intro w2 ho2 hg2
  go_wp2
  go_ret
  exact ⟨_, rfl, ho2, ((Below.refl _ _).grown hg (Nat.le_refl _) (by simp)).grown hg2 hg.size (by intro k hk; injection hk with hk; omega)⟩

end Go.Proofs.Ytckonmlcgfbojaa
