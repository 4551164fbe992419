/- The walk of ref.put. -/
import Derived.Test.YtlejcnobicbeoaaVWkC
import Derived.Test.YtlejcnobicbeoaaLib3
import Derived.Test.YtlejcnobicbeoaaLib2
namespace Go.Proofs.Ytlejcnobicbeoaa
open Go.RowKit

theorem Try.infoE : (Try.prog.info? 27).map (fun i => (i.zero, i.size, i.bytes)) = some (some (.agg #[.int .i64 0, .int .i64 0, .int .i64 0]), 3, 24) := by kernel_rfl

theorem cells_three_at (w : World) (b : Nat) (x y z : Value) (t : TypeId) (hb : w.heap.size = b) : ∀ j u, [x, y, z][j]? = some u → (w.alloc (.cells #[x, y, z] t)).cell? ((⟨b, 0, none⟩ : Addr).add j) = some u := by
  subst hb
  intro j u hu
  rw [Addr.add_lit, World.cell?, show (w.alloc (.cells #[x, y, z] t)).heap[(⟨w.heap.size, 0 + j, none⟩ : Addr).block]? = _ from heap_alloc_new w _]
  simpa using hu

theorem three_cells {w : World} {b : Nat} {x y z : Value} {t : TypeId} (h : w.heap[b]? = some (.cells #[x, y, z] t (0, 0))) :
    w.cell? ⟨b, 0, none⟩ = some x ∧ w.cell? ⟨b, 1, none⟩ = some y ∧ w.cell? ⟨b, 2, none⟩ = some z ∧ b < w.heap.size := by
  refine ⟨?_, ?_, ?_, (Array.getElem?_eq_some_iff.1 h).1⟩ <;> simp [World.cell?, h]
theorem three_below {w w' : World} {b B : Nat} {x y z : Value} {t : TypeId} (h : w.heap[b]? = some (.cells #[x, y, z] t (0, 0))) (hb : Below B w w') (hB : b < B) : w'.heap[b]? = some (.cells #[x, y, z] t (0, 0)) := by
  rw [hb.block b hB]; exact h

theorem append_E {w : World} {ops : Array Oper} {rest : List Oper} {o : Oper} {a : Act} {Q : Exit → Act → World → Prop} (hgd : o.guard = none) (s x : Operand)
    (ho : o.op = .call { callee := .builtin .append, args := #[s, x], argTypes := #[24, 24] })
    (base : Nat) (v : Value) (n : Nat) (l : List En) (hs : a.eval s = v) (hown : w.ownsRow base 27 3 v n (cellsE l))
    (ad : Addr) (c : Nat) (p q r : Int) (hx : a.eval x = .slice (some ad) 1 c) (hnews : ∀ j u, [Value.int .i64 p, .int .i64 q, .int .i64 r][j]? = some u → w.cell? (ad.add j) = some u)
    (hn : n < 1000000000) (hbase : base ≤ w.heap.size)
    (h : ∀ v' w', w'.ownsRow base 27 3 v' (n + 1) (cellsE (l ++ [(p, q, r)])) → w.grownBy w' v.ownBlock → (v'.ownBlock = v.ownBlock ∨ v'.ownBlock = some w.heap.size) → wpList Try.prog ops Q rest (a.put o.dst v') w') : wpList Try.prog ops Q (o :: rest) a w := by
  obtain ⟨i, hi, hz0, hz1, hz2⟩ := info_parts Try.infoE
  refine wpList_append_own_at _ hgd s x 24 ho base 27 i _ 3 24 Try.underlying24 hi hz0 hz1 hz2 rfl (by decide) v n _ hs hown ad 1 c [.int .i64 p, .int .i64 q, .int .i64 r] hx rfl hnews (by simp [Value.oneCell']) (by unfold maxLen; omega) (by omega) hbase ?_
  intro v' w' h1 h2 _ h3
  exact h v' w' (by rw [cellsE_append]; exact h1) h2 h3

theorem append_Es {w : World} {ops : Array Oper} {rest : List Oper} {o : Oper} {a : Act} {Q : Exit → Act → World → Prop} (hgd : o.guard = none) (s x : Operand)
    (ho : o.op = .call { callee := .builtin .append, args := #[s, x], argTypes := #[24, 24] })
    (base : Nat) (v : Value) (n : Nat) (l : List En) (hs : a.eval s = v) (hown : w.ownsRow base 27 3 v n (cellsE l))
    (ao : Option Addr) (m c : Nat) (l' : List En) (hx : a.eval x = .slice ao m c) (hm : l'.length = m) (hnews : Rd w ao (cellsE l'))
    (hn : n + m < 1000000000) (hbase : base ≤ w.heap.size)
    (h : ∀ v' w', w'.ownsRow base 27 3 v' (n + m) (cellsE (l ++ l')) → w.grownBy w' v.ownBlock → wpList Try.prog ops Q rest (a.put o.dst v') w') : wpList Try.prog ops Q (o :: rest) a w := by
  obtain ⟨i, hi, hz0, hz1, hz2⟩ := info_parts Try.infoE
  refine wpList_append_rd hgd s x 24 ho base 27 i _ 3 24 Try.underlying24 hi hz0 hz1 hz2 rfl (by decide) v n _ hs hown ao m c (cellsE l') hx (by rw [length_cellsE, hm]) hnews (cellsE_one _) (by unfold maxLen; omega) (by omega) hbase ?_
  intro v' w' h1 h2
  exact h v' w' (by rw [cellsE_append]; exact h1) h2

theorem cellsE_drop (l : List En) (k : Nat) : (cellsE l).drop (k * 3) = cellsE (l.drop k) := by
  induction l generalizing k with
  | nil => simp [cellsE]
  | cons r l ih =>
    cases k with
    | zero => simp
    | succ k => rw [cellsE_cons, show (k + 1) * 3 = k * 3 + 1 + 1 + 1 from by omega, List.drop_succ_cons, List.drop_succ_cons, List.drop_succ_cons, ih]; rfl
theorem cellsE_take (l : List En) (k : Nat) : (cellsE l).take (k * 3) = cellsE (l.take k) := by
  induction l generalizing k with
  | nil => simp [cellsE]
  | cons r l ih =>
    cases k with
    | zero => simp [cellsE]
    | succ k => rw [cellsE_cons, show (k + 1) * 3 = k * 3 + 1 + 1 + 1 from by omega, List.take_succ_cons, List.take_succ_cons, List.take_succ_cons, ih]; rfl

/-- A row of the call's own is handed back. -/
def RetRow (w : World) (E e n : Nat) (cs : List Value) (en : Ending) (w' : World) : Prop :=
  ∃ v', en = .returned v' ∧ w'.ownsRow w.heap.size e E v' n cs ∧ Below w.heap.size w w'

theorem held_drew {w w' : World} {a : Addr} {x : Value} (h : w.cell? a = some x) (hb : Below w.drew.heap.size w.drew w') (hB : a.block < w.heap.size) : w'.cell? a = some x := by
  rw [hb.cell (p := a) hB]; exact h

theorem putR_go (l : List En) (e : En) (k : Nat) (hk : k < l.length) (h : ltP l[k] e) : l.take k ++ putR (l.drop k) e = l.take (k + 1) ++ putR (l.drop (k + 1)) e := by
  rw [take_snocE l k hk, List.drop_eq_getElem_cons hk, putR, if_pos h, List.append_assoc]; rfl
theorem putR_stop (l : List En) (e : En) (k : Nat) (hk : k < l.length) (h : ¬ ltP l[k] e) : putR (l.drop k) e = e :: (if ¬ ltP e l[k] then l.drop (k + 1) else l.drop k) := by
  rw [List.drop_eq_getElem_cons hk, putR, if_neg h]
  split <;> rfl

set_option maxHeartbeats 4000000 in
theorem put_any (v : Value) (l : List En) (e : En) (w : World) (h : SlE w v l) (hl : l.length < 1000000) :
    Calls Try.prog 25 #[v, .agg #[.int .i64 e.1, .int .i64 e.2.1, .int .i64 e.2.2]] w (RetRow w 3 27 (putR l e).length (cellsE (putR l e))) := by
  obtain ⟨ao, cap, rfl, hcap, hm⟩ := Sl.shape h
  obtain ⟨iE, hiE, iz0, iz1, iz2⟩ := info_parts Try.infoE
  obtain ⟨e1, e2, e3⟩ := e
  go_enter Try.func25, Try.ntmps25
  go_upto_block 0 with fail
  go_cut [5] (fun ix wr => ∃ k : Nat, k ≤ l.length ∧ ix = .int .i64 k ∧ putR l (e1, e2, e3) = l.take k ++ putR (l.drop k) (e1, e2, e3) ∧ (∀ hk : k < l.length, ¬ ltP l[k] (e1, e2, e3)) ∧
    wr.heap[w.heap.size]? = some (.cells #[.int .i64 e1, .int .i64 e2, .int .i64 e3] 27 (0, 0)) ∧ Below w.heap.size w wr)
  case first =>
    go_wp2
    go_loopw [5] (fun ix wr => ∃ k : Nat, k ≤ l.length ∧ ix = .int .i64 k ∧ putR l (e1, e2, e3) = l.take k ++ putR (l.drop k) (e1, e2, e3) ∧
      wr.heap[w.heap.size]? = some (.cells #[.int .i64 e1, .int .i64 e2, .int .i64 e3] 27 (0, 0)) ∧ Below w.heap.size w wr) (fun ix _ => l.length - (intOf ix).toNat)
    case atStart => exact ⟨0, Nat.zero_le _, rfl, rfl, heap_alloc_new w _, (Below.refl _ _).alloc (Nat.le_refl _) _⟩
    case round =>
      obtain ⟨k, hk, rfl, ha, hrb, hb⟩ := hrel
      have HA := Lib.hid ha
      clear ha
      have hz := hb.size
      obtain ⟨c0, c1, c2, hbs⟩ := three_cells hrb
      have HB := Lib.hid hrb
      clear hrb
      rcases Nat.lt_or_ge k l.length with hlt | hge
      · obtain ⟨b, off, rfl, hbl, hd1, hd2, hd3⟩ := h.three hb (Nat.le_refl _) k hlt
        have hbl2 : b < wr.heap.size := by omega
        have HG := Lib.hid (putR_go l (e1, e2, e3) k hlt)
        have HR : Hid (∀ hk : k < l.length, l[k] = l[k]'hlt) := fun _ => rfl
        generalize l[k]'hlt = r at *
        obtain ⟨x, y, z⟩ := r
        simp only at hd1 hd2 hd3
        have HC : Hid (∀ W, Calls Try.prog 30 #[.agg #[.int .i64 x, .int .i64 y, .int .i64 z], .agg #[.int .i64 e1, .int .i64 e2, .int .i64 e3]] W fun en w' => en = .returned (.bool (decide (ltP (x, y, z) (e1, e2, e3)))) ∧ Below W.heap.size W w') := fun W => less_any (x, y, z) (e1, e2, e3) W
        obtain ⟨bo, hbo⟩ : ∃ bo : Bool, decide (ltP (x, y, z) (e1, e2, e3)) = bo := ⟨_, rfl⟩
        rw [hbo] at HC
        have HBO := Lib.hid hbo
        clear hbo
        cases bo with
        | true =>
          go_wp2
          go_region_held3 (fun w' => w'.cell? ⟨w.heap.size, 0, none⟩ = some (.int .i64 e1) ∧ w'.cell? ⟨w.heap.size, 1, none⟩ = some (.int .i64 e2) ∧ w'.cell? ⟨w.heap.size, 2, none⟩ = some (.int .i64 e3) ∧ w'.cell? ⟨b, off + k * 3, none⟩ = some (.int .i64 x) ∧ w'.cell? ⟨b, off + k * 3 + 1, none⟩ = some (.int .i64 y) ∧ w'.cell? ⟨b, off + k * 3 + 2, none⟩ = some (.int .i64 z)) (go_keep)
            (first
              | (go_at_call 30; refine (HC.out _).mono ?_; rintro en w1 ⟨rfl, hb1⟩; have k0 := held_drew c0 hb1 hbs; have k1 := held_drew c1 hb1 hbs; have k2 := held_drew c2 hb1 hbs; have k3 := held_drew hd1 hb1 hbl2; have k4 := held_drew hd2 hb1 hbl2; have k5 := held_drew hd3 hb1 hbl2))
          have hb2 : Below w.heap.size w w1 := hb.drew.trans (hb1.mono (by simpa using hz))
          have HB2 := Lib.hid (three_below (three_below HB.out (Below.refl wr.heap.size wr).drew hbs) hb1 (by simpa using hbs))
          go_wp2
          go_roundw
          case rel => exact ⟨k + 1, by omega, by go_num, by rw [HA.out]; exact HG.out (by simpa using HBO.out), HB2.out, hb2⟩
          case measure => simp [intOf]; omega
        | false =>
          go_wp2
          go_region_held3 (fun w' => w'.cell? ⟨w.heap.size, 0, none⟩ = some (.int .i64 e1) ∧ w'.cell? ⟨w.heap.size, 1, none⟩ = some (.int .i64 e2) ∧ w'.cell? ⟨w.heap.size, 2, none⟩ = some (.int .i64 e3) ∧ w'.cell? ⟨b, off + k * 3, none⟩ = some (.int .i64 x) ∧ w'.cell? ⟨b, off + k * 3 + 1, none⟩ = some (.int .i64 y) ∧ w'.cell? ⟨b, off + k * 3 + 2, none⟩ = some (.int .i64 z)) (go_keep)
            (first
              | (go_at_call 30; refine (HC.out _).mono ?_; rintro en w1 ⟨rfl, hb1⟩; have k0 := held_drew c0 hb1 hbs; have k1 := held_drew c1 hb1 hbs; have k2 := held_drew c2 hb1 hbs; have k3 := held_drew hd1 hb1 hbl2; have k4 := held_drew hd2 hb1 hbl2; have k5 := held_drew hd3 hb1 hbl2))
          have hb2 : Below w.heap.size w w1 := hb.drew.trans (hb1.mono (by simpa using hz))
          have HB2 := Lib.hid (three_below (three_below HB.out (Below.refl wr.heap.size wr).drew hbs) hb1 (by simpa using hbs))
          go_wp2
          go_meet
          exact ⟨k, hk, rfl, HA.out, fun hk2 => by rw [HR.out hk2]; simpa using HBO.out, HB2.out, hb2⟩
      · have dk : decide (k < l.length) = false := by simpa using hge
        go_wp2
        go_quiet (fail)
        go_wp2
        go_meet
        exact ⟨k, hk, rfl, HA.out, fun hk2 => by omega, HB.out, below_drewN hb _⟩
  case rest =>
  obtain ⟨k, hk, rfl, ha, hst, hrb, hb⟩ := hcut
  have HA := Lib.hid ha
  have HST := Lib.hid hst
  have hz := hb.size
  obtain ⟨c0, c1, c2, hbs⟩ := three_cells hrb
  have HB := Lib.hid hrb
  clear ha hst hrb
  have hrd := ((Sl.rd h).keep hb (Nat.le_refl _)).alloc (.cells #[] 27)
  have ho := owns_lit wc wc.heap.size (w.heap.size + 1) 27 3 #[] 0 rfl (by omega) (by omega) rfl
  go_upto_region 4 with fail
  go_wp2_with (refine wpList_slice_to (o := ⟨some 24, _, _, _, _, _⟩) rfl _ _ _ rfl 27 iE 3 Try.underlying24 hiE iz1 ao l.length cap k (cellsE l) rfl rfl (by omega) hrd ?_)
  intro ao9 hrd9
  rw [cellsE_take] at hrd9
  go_wp2_with (refine append_Es (o := ⟨some 25, _, _, _, _, _⟩) rfl _ _ rfl (w.heap.size + 1) _ 0 [] rfl ho _ _ _ (l.take k) rfl (by simp; omega) hrd9 (by omega) (by first | omega | (simp; omega)) ?_)
  intro v1 w1 ho1 hg1
  have hb1 : Below w.heap.size w w1 := (hb.alloc hz _).grown hg1 (by simp; omega) (fun g hg => by simp [Value.ownBlock] at hg; omega)
  have HB1 := Lib.hid ((grown_block hg1 (b := w.heap.size) (B := w.heap.size + 1) (by simp; omega) (by omega) (fun g hg => by simp [Value.ownBlock] at hg; omega)).trans ((Below.heap_alloc _ _ _ (by omega)).trans HB.out))
  have hz1 := hb1.size
  obtain ⟨d0, d1, d2, hbs1⟩ := three_cells HB1.out
  try simp only [Nat.zero_add, List.nil_append] at ho1
  clear hg1 ho hrd hrd9 hb hz c0 c1 c2 hbs HB
  go_wp2_with (refine append_E (o := ⟨some 29, _, _, _, _, _⟩) rfl _ _ rfl (w.heap.size + 1) _ k (l.take k) rfl (ho1.alloc _) _ _ e1 e2 e3 rfl (cells_three_at _ _ _ _ _ _ (by first | rfl | simp)) (by omega) (by simp; omega) ?_)
  intro v2 w2 ho2 hg2 _
  have hb2 : Below w.heap.size w w2 := (hb1.alloc hz1 _).grown hg2 (by simp; omega) (fun g hg => by have := owns_ge ho1 g hg; omega)
  have HB2 := Lib.hid ((grown_block hg2 (b := w.heap.size) (B := w.heap.size + 1) (by simp; omega) (by omega) (owns_ge ho1)).trans ((Below.heap_alloc _ _ _ (by omega)).trans HB1.out))
  have hz2 := hb2.size
  obtain ⟨c0, c1, c2, hbs2⟩ := three_cells HB2.out
  clear hg2 ho1 hb1 hz1 d0 d1 d2 hbs1 HB1
  go_upto_region 6 with fail
  go_cut [42] (fun s42 wx => ∃ bo : Bool, s42 = .bool bo ∧ putR l (e1, e2, e3) = l.take k ++ [(e1, e2, e3)] ++ l.drop (if bo then k + 1 else k) ∧ (bo = true → k < l.length) ∧ wx.ownsRow (w.heap.size + 1) 27 3 v2 (k + 1) (cellsE (l.take k ++ [(e1, e2, e3)])) ∧ w.heap.size < wx.heap.size ∧ Below w.heap.size w wx)
  case first =>
    rcases Nat.lt_or_ge k l.length with hlt | hge
    · obtain ⟨b, off, rfl, hbl, hd1, hd2, hd3⟩ := h.three hb2 (Nat.le_refl _) k hlt
      have hbl2 : b < w2.heap.size := by omega
      have HS := Lib.hid (putR_stop l (e1, e2, e3) k hlt (HST.out hlt))
      generalize l[k]'hlt = r at *
      obtain ⟨x, y, z⟩ := r
      simp only at hd1 hd2 hd3
      have HC : Hid (∀ W, Calls Try.prog 30 #[.agg #[.int .i64 e1, .int .i64 e2, .int .i64 e3], .agg #[.int .i64 x, .int .i64 y, .int .i64 z]] W fun en w' => en = .returned (.bool (decide (ltP (e1, e2, e3) (x, y, z)))) ∧ Below W.heap.size W w') := fun W => less_any (e1, e2, e3) (x, y, z) W
      obtain ⟨bo, hbo⟩ : ∃ bo : Bool, decide (ltP (e1, e2, e3) (x, y, z)) = bo := ⟨_, rfl⟩
      rw [hbo] at HC
      have HBO := Lib.hid hbo
      clear hbo
      go_wp2
      go_region_held3 (fun w' => w'.cell? ⟨w.heap.size, 0, none⟩ = some (.int .i64 e1) ∧ w'.cell? ⟨w.heap.size, 1, none⟩ = some (.int .i64 e2) ∧ w'.cell? ⟨w.heap.size, 2, none⟩ = some (.int .i64 e3) ∧ w'.cell? ⟨b, off + k * 3, none⟩ = some (.int .i64 x) ∧ w'.cell? ⟨b, off + k * 3 + 1, none⟩ = some (.int .i64 y) ∧ w'.cell? ⟨b, off + k * 3 + 2, none⟩ = some (.int .i64 z)) (go_keep)
        (first
          | (go_at_call 30; refine (HC.out _).mono ?_; rintro en w9 ⟨rfl, hb9⟩; have k0 := held_drew c0 hb9 hbs2; have k1 := held_drew c1 hb9 hbs2; have k2 := held_drew c2 hb9 hbs2; have k3 := held_drew hd1 hb9 hbl2; have k4 := held_drew hd2 hb9 hbl2; have k5 := held_drew hd3 hb9 hbl2))
      have hb3 : Below w.heap.size w w9 := hb2.drew.trans (hb9.mono (by simpa using hz2))
      have ho3 := owns_keep (owns_drewN ho2 1) hb9 (Nat.le_refl _)
      go_wp2
      go_meet
      refine ⟨!bo, rfl, ?_, fun _ => hlt, ho3, Nat.lt_of_lt_of_le hbs2 hb9.size, hb3⟩
      rw [HA.out, HS.out, ← HBO.out]
      by_cases hq : ltP (e1, e2, e3) (x, y, z) <;> simp [hq]
    · have dk : decide (k < l.length) = false := by simpa using hge
      go_wp2
      go_quiet (fail)
      go_wp2
      go_meet
      refine ⟨false, rfl, ?_, ?_, ?_, hbs2, ?_⟩
      · rw [HA.out, List.drop_eq_nil_of_le hge]; simp [putR, hge]
      · intro hh; cases hh
      · exact owns_drewN ho2 _
      · exact below_drewN hb2 _
  case rest =>
  obtain ⟨bo, rfl, hp, hbk, ho3, hlt3, hb3⟩ := hcut
  have hz3 := hb3.size
  have hrd := (Sl.rd h).keep hb3 (Nat.le_refl _)
  cases bo with
  | true =>
    have hkl : k < l.length := hbk rfl
    simp only [if_true] at hp
    have HP := Lib.hid hp
    clear hp hbk
    go_wp2_with (refine wpList_slice_from (o := ⟨some 48, _, _, _, _, _⟩) rfl _ _ _ rfl 27 iE 3 Try.underlying24 hiE iz1 ao l.length cap (k + 1) (cellsE l) rfl (by first | rfl | go_num) (by omega) hcap hrd (length_cellsE l) ?_)
    intro ao9 hrd9
    rw [cellsE_drop] at hrd9
    go_wp2_with (refine append_Es (o := ⟨some 49, _, _, _, _, _⟩) rfl _ _ rfl (w.heap.size + 1) _ (k + 1) _ rfl ho3 _ _ _ (l.drop (k + 1)) rfl (by simp) hrd9 (by omega) (by first | omega | (simp; omega)) ?_)
    intro v4 w4 ho4 hg4
    have hb4 : Below w.heap.size w w4 := hb3.grown hg4 (by first | omega | (simp; omega)) (fun g hg => by have := owns_ge ho3 g hg; omega)
    go_wp2
    go_ret
    refine ⟨v4, rfl, ?_, hb4⟩
    have hlen : (putR l (e1, e2, e3)).length = k + 1 + (l.length - ((k + 1))) := by rw [HP.out]; simp; omega
    rw [hlen, HP.out]
    exact owns_base (by simpa using ho4) (Nat.le_succ _)
  | false =>
    simp only [Bool.false_eq_true, if_false] at hp
    have HP := Lib.hid hp
    clear hp hbk
    go_wp2_with (refine wpList_slice_from (o := ⟨some 48, _, _, _, _, _⟩) rfl _ _ _ rfl 27 iE 3 Try.underlying24 hiE iz1 ao l.length cap k (cellsE l) rfl (by first | rfl | go_num) (by omega) hcap hrd (length_cellsE l) ?_)
    intro ao9 hrd9
    rw [cellsE_drop] at hrd9
    go_wp2_with (refine append_Es (o := ⟨some 49, _, _, _, _, _⟩) rfl _ _ rfl (w.heap.size + 1) _ (k + 1) _ rfl ho3 _ _ _ (l.drop k) rfl (by simp) hrd9 (by omega) (by first | omega | (simp; omega)) ?_)
    intro v4 w4 ho4 hg4
    have hb4 : Below w.heap.size w w4 := hb3.grown hg4 (by first | omega | (simp; omega)) (fun g hg => by have := owns_ge ho3 g hg; omega)
    go_wp2
    go_ret
    refine ⟨v4, rfl, ?_, hb4⟩
    have hlen : (putR l (e1, e2, e3)).length = k + 1 + (l.length - (k)) := by rw [HP.out]; simp; omega
    rw [hlen, HP.out]
    exact owns_base (by simpa using ho4) (Nat.le_succ _)

end Go.Proofs.Ytlejcnobicbeoaa
