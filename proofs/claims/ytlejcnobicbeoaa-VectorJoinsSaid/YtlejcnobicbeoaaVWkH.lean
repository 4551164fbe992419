/- The walks of ref.Join, within, Of, known. -/
import Derived.Test.YtlejcnobicbeoaaVWkG
namespace Go.Proofs.Ytlejcnobicbeoaa
open Go.RowKit

def joinR1 (o : List En) (x : En) : List En := if getV o x.1 x.2.1 < x.2.2 then putR o x else o
def joinR (a b : List En) : List En := b.foldl joinR1 a
theorem putR_len (l : List En) (e : En) : (putR l e).length ≤ l.length + 1 := by
  induction l with
  | nil => simp [putR]
  | cons x t ih =>
    unfold putR
    split
    · simp only [List.length_cons]; omega
    · split <;> simp only [List.length_cons] <;> omega
theorem joinR_len (a b : List En) : (joinR a b).length ≤ a.length + b.length := by
  induction b generalizing a with
  | nil => exact Nat.le_refl _
  | cons x t ih =>
    have h1 := ih (joinR1 a x)
    have h2 : (joinR1 a x).length ≤ a.length + 1 := by
      unfold joinR1
      split
      · exact putR_len _ _
      · omega
    show (joinR (joinR1 a x) t).length ≤ _
    simp only [List.length_cons]; omega

set_option maxHeartbeats 2000000 in
theorem rjoin_any (v v' : Value) (a b : List En) (w : World) (h : SlE w v a) (h' : SlE w v' b) (hl : a.length + b.length < 1000000) :
    Calls Try.prog 21 #[v, v'] w (RetE w (joinR a b)) := by
  obtain ⟨ao, cap, rfl, hcap, hm⟩ := Sl.shape h
  obtain ⟨ao', cap', rfl, hcap', hm'⟩ := Sl.shape h'
  go_enter Try.func21, Try.ntmps21
  have hrd := (Sl.rd h).alloc (.cells #[] 27)
  have ho := owns_lit w w.heap.size w.heap.size 27 3 #[] 0 rfl (by omega) (by omega) rfl
  go_wp2_with (refine append_Es (o := ⟨some 9, _, _, _, _, _⟩) rfl _ _ rfl w.heap.size _ 0 [] rfl ho _ _ _ a rfl rfl hrd (by omega) (by simp) ?_; intro v1 w1 ho1 hg1)
  have hb1 : Below w.heap.size w w1 := ((Below.refl _ _).alloc (Nat.le_refl _) _).grown hg1 (by simp) (owns_ge ho)
  have hs1 : SlE w1 v1 a := by have := sl_of_owns ho1; simpa [SlE] using this
  clear hg1 ho1 ho hrd
  go_loopw [5, 6] (fun v ix wr => ∃ k : Nat, k ≤ b.length ∧ ix = .int .i64 k ∧ SlE wr v (joinR a (b.take k)) ∧ Below w.heap.size w wr) (fun _ ix _ => b.length - (intOf ix).toNat)
  case atStart => exact ⟨0, Nat.zero_le _, rfl, hs1, hb1⟩
  case round =>
    obtain ⟨k, hk, rfl, hs, hb⟩ := hrel
    have hz := hb.size
    clear hs1 hb1
    rcases Nat.lt_or_ge k b.length with hlt | hge
    · obtain ⟨bb, off, rfl, hbl, hc1, hc2, hc3⟩ := h'.three hb (Nat.le_refl _) k hlt
      have hjl : (joinR a (b.take k)).length < 999999 := by have := joinR_len a (b.take k); simp only [List.length_take] at this; omega
      have HJ : Hid (joinR a (b.take (k + 1)) = joinR1 (joinR a (b.take k)) b[k]) := by show _ = _; rw [take_snocE b k hlt, joinR, List.foldl_append]; rfl
      generalize joinR a (b.take k) = O at *
      generalize b[k] = r at *
      obtain ⟨x, y, z⟩ := r
      simp only at hc1 hc2 hc3
      obtain ⟨gg, hgg⟩ : ∃ gg, getV O x y = gg := ⟨_, rfl⟩
      have HG := Lib.hid hgg
      clear hgg
      have HC : Hid (∀ n, Calls Try.prog 19 #[u5, .int .i64 x, .int .i64 y] (wr.drewN n) fun e w'' => e = .returned (.int .i64 gg) ∧ ∃ m, w'' = wr.drewN m) := fun n => by
        rw [← HG.out]; exact quiet_left' (rget_any u5 O x y _ (hs.keep (below_drewN (Below.refl wr.heap.size wr) n) (Nat.le_refl _)) (by omega))
      by_cases hlt2 : gg < z
      · have HS2 : Hid (joinR a (b.take (k + 1)) = putR O (x, y, z)) := by show _ = _; rw [HJ.out, joinR1, if_pos (by rw [HG.out]; exact hlt2)]
        go_wp2
        go_quiet ((go_at_call 19; exact HC.out _))
        go_wp2_with fail
        refine ((put_any u5 O (x, y, z) _ (hs.keep (below_drewN (Below.refl wr.heap.size wr) _) (Nat.le_refl _)) (by omega)).mono fun _ _ hh => RetRow.e hh).mono ?_
        rintro en w4 ⟨v4, rfl, hs4, hb4⟩
        go_wp2
        go_roundw
        case rel => exact ⟨k + 1, by omega, by go_num, by rw [HS2.out]; exact hs4, (below_drewN hb _).trans (hb4.mono hz)⟩
        case measure => simp [intOf]; omega
      · have HS2 : Hid (joinR a (b.take (k + 1)) = O) := by show _ = _; rw [HJ.out, joinR1, if_neg (by rw [HG.out]; exact hlt2)]
        have d1 : decide (gg < z) = false := by simpa using hlt2
        clear hlt2
        go_wp2
        go_quiet ((go_at_call 19; exact HC.out _))
        go_wp2
        go_roundw
        case rel => exact ⟨k + 1, by omega, by go_num, by rw [HS2.out]; exact hs.keep (below_drewN (Below.refl wr.heap.size wr) _) (Nat.le_refl _), below_drewN hb _⟩
        case measure => simp [intOf]; omega
    · have hjf : b.take k = b := List.take_of_length_le hge
      rw [hjf] at hs
      have HS := Lib.hid hs
      clear hs hjf
      go_wp2
      go_ret
      exact ⟨_, rfl, HS.out, hb⟩

set_option maxHeartbeats 400000 in
theorem within_any (a n : Int) (w : World) (hn : 0 < n) (hn2 : n ≤ 4611686018427387904) :
    Calls Try.prog 14 #[.int .i64 a, .int .i64 n] w fun e w' => e = .returned (.int .i64 (a % n)) ∧ w = w' := by
  have h2 := Int.emod_nonneg a (show n ≠ 0 by omega)
  have h3 := Int.emod_lt_of_pos a hn
  by_cases h : 0 ≤ a
  · go_enter Try.func14, Try.ntmps14
    go_wp2
    go_ret
    exact ⟨rfl, rfl⟩
  · have h4 := Lib.hid (tmod_wrap a n hn (by omega))
    have h5 : a.tmod n ≤ 0 := by rw [← Int.neg_neg a, Int.neg_tmod]; have := Int.tmod_nonneg n (show 0 ≤ -a by omega); omega
    have h6 : -n < a.tmod n := by rw [← Int.neg_neg a, Int.neg_tmod]; have := Int.tmod_lt_of_pos (-a) hn; omega
    go_enter Try.func14, Try.ntmps14
    go_wp2
    all_goals go_ret
    all_goals refine ⟨ret_int ?_, rfl⟩
    · rw [← h4.out, if_pos (by assumption)]
    · rw [← h4.out, if_neg (by omega)]

/-- A dot of a number. -/
def dotD (a : Int) : Int := a % 3
def dotE (a : Int) : Int := 1 + a.tdiv 3 % 2
def dotS (a : Int) : Int := 1 + a.tdiv 6 % 5
def ofStep (v : List En) (a : Int) : List En := if (stepV v (dotD a) (dotE a) (dotS a)).2 = 0 then (stepV v (dotD a) (dotE a) (dotS a)).1 else v
def ofS (ns : List Int) : List En := (ns.take 12).foldl ofStep []

theorem stepV_len (l : List En) (d e s : Int) : (stepV l d e s).1.length ≤ l.length + 1 := by
  unfold stepV
  split
  · simp
  · split
    · simp
    · exact putR_len _ _
theorem ofStep_len (l : List En) (a : Int) : (ofStep l a).length ≤ l.length + 1 := by
  unfold ofStep
  split
  · exact stepV_len _ _ _ _
  · omega
theorem foldOf_len (ns : List Int) (l : List En) : (ns.foldl ofStep l).length ≤ l.length + ns.length := by
  induction ns generalizing l with
  | nil => exact Nat.le_refl _
  | cons x t ih =>
    have h1 := ih (ofStep l x)
    have h2 := ofStep_len l x
    simp only [List.foldl_cons, List.length_cons]; omega
theorem ofS_len (ns : List Int) : (ofS ns).length ≤ 12 := by
  have := foldOf_len (ns.take 12) []
  have h := List.length_take_le 12 ns
  unfold ofS; simp only [List.length_nil] at this; omega

theorem tdiv_bd (a n : Int) (hn : 0 < n) (h : -9223372036854775808 ≤ a ∧ a ≤ 9223372036854775807) : -9223372036854775808 ≤ a.tdiv n ∧ a.tdiv n ≤ 9223372036854775807 := by
  rcases Int.le_total 0 a with h0 | h0
  · rw [Int.tdiv_eq_ediv_of_nonneg h0]
    have h1 := Int.ediv_nonneg h0 (Int.le_of_lt hn)
    have h2 := Int.ediv_le_self n h0
    omega
  · have e : a.tdiv n = -((-a).tdiv n) := by rw [Int.neg_tdiv, Int.neg_neg]
    rw [e, Int.tdiv_eq_ediv_of_nonneg (by omega)]
    have h1 := Int.ediv_nonneg (show 0 ≤ -a by omega) (Int.le_of_lt hn)
    have h2 := Int.ediv_le_self n (show 0 ≤ -a by omega)
    omega

set_option maxHeartbeats 2000000 in
theorem of_fresh (v : Value) (ns : List Int) (w : World) (h : SlI w v ns) (hI : I64 ns) :
    Calls Try.prog 10 #[v] w (RetF w (ofS ns)) := by
  obtain ⟨ao, cap, rfl, hcap, hm⟩ := Sl.shape h
  go_enter Try.func10, Try.ntmps10
  go_wp2
  go_loopw [3, 4] (fun lv ix wr => ∃ k : Nat, k ≤ ns.length ∧ k ≤ 12 ∧ ix = .int .i64 k ∧ SlE wr lv ((ns.take k).foldl ofStep []) ∧ Fresh w.heap.size lv ∧ Below w.heap.size w wr) (fun _ ix _ => 12 - (intOf ix).toNat)
  case atStart => exact ⟨0, Nat.zero_le _, Nat.zero_le _, rfl, SlE.nil w, fresh_nil _, Below.refl _ _⟩
  case round =>
    obtain ⟨k, hk, hk12, rfl, hs, hf, hb⟩ := hrel
    have hz := hb.size
    have hlen := foldOf_len (ns.take k) []
    have hlt := List.length_take_le k ns
    simp only [List.length_nil, Nat.zero_add] at hlen
    by_cases hgo : k < ns.length ∧ k < 12
    · obtain ⟨hkn, hk2⟩ := hgo
      obtain ⟨b, off, rfl, hbl, hc⟩ := h.cell hb (Nat.le_refl _) k hkn
      have hbd := hI ns[k] (List.getElem_mem _)
      have HS : Hid ((ns.take (k + 1)).foldl ofStep [] = ofStep ((ns.take k).foldl ofStep []) ns[k]) := by show _ = _; rw [take_snoc ns k hkn, List.foldl_append]; rfl
      generalize ns[k] = a at *
      generalize (ns.take k).foldl ofStep [] = L at *
      obtain ⟨hb1, hb2⟩ := hbd
      have hL : L.length < 999999 := by omega
      clear hlen
      have e7 := tdiv_bd a 3 (by omega) ⟨hb1, hb2⟩
      have e8 := tdiv_bd a 6 (by omega) ⟨hb1, hb2⟩
      have w3 : IntKind.i64.wrap (a.tdiv 3) = a.tdiv 3 := IntWalk.i64_in _ e7
      have w4 : IntKind.i64.wrap (a.tdiv 6) = a.tdiv 6 := IntWalk.i64_in _ e8
      have e3 := Int.emod_nonneg (a.tdiv 3) (show (2 : Int) ≠ 0 by omega)
      have e4 := Int.emod_lt_of_pos (a.tdiv 3) (show (0 : Int) < 2 by omega)
      have e5 := Int.emod_nonneg (a.tdiv 6) (show (5 : Int) ≠ 0 by omega)
      have e6 := Int.emod_lt_of_pos (a.tdiv 6) (show (0 : Int) < 5 by omega)
      have w1 : IntKind.i64.wrap (1 + a.tdiv 3 % 2) = 1 + a.tdiv 3 % 2 := IntWalk.i64_in _ (by clear w3 w4; omega)
      have w2 : IntKind.i64.wrap (1 + a.tdiv 6 % 5) = 1 + a.tdiv 6 % 5 := IntWalk.i64_in _ (by clear w3 w4 w1; omega)
      go_upto_region 5 with fail
      go_cut [5] (fun v5 wx => v5 = .pointer (some ⟨wr.heap.size, 0, none⟩) ∧ wx.heap[wr.heap.size]? = some (.cells #[.int .i64 (dotD a), .int .i64 (dotE a), .int .i64 (dotS a)] 30 (0, 0)) ∧ Below wr.heap.size wr wx)
      case first =>
        go_region_held3 (fun w' => w'.cell? ⟨b, off + k, none⟩ = some (.int .i64 a)) (go_keep)
          (first
            | (go_at_call 14; refine (within_any _ _ _ (by decide) (by decide)).mono ?_; rintro en w1 ⟨rfl, rfl⟩))
        all_goals
          go_wp2
          go_meet
          exact ⟨rfl, heap_alloc_new wr _, ((Below.refl _ _).alloc (Nat.le_refl _) _).drew⟩
      case rest =>
      clear w1 w2 w3 w4 e3 e4 e5 e6 e7 e8
      obtain ⟨rfl, hn, hb3⟩ := hcut
      obtain ⟨c0, c1, c2, hz1⟩ := three_cells hn
      have hb4 := hb.trans (hb3.mono hz)
      have hs4 := hs.keep hb3 (Nat.le_refl _)
      have HOS : Hid (ofStep L a = if (stepV L (dotD a) (dotE a) (dotS a)).2 = 0 then (stepV L (dotD a) (dotE a) (dotS a)).1 else L) := rfl
      clear hn hb3 hb hs
      generalize dotD a = d0 at *
      generalize dotE a = d1 at *
      generalize dotS a = d2 at *
      go_wp2_with fail
      refine (rstep_fresh u3 L d0 d1 d2 _ hs4 hL).mono ?_
      rintro en w5 ⟨v5, rfl, hs5, hf5, hb5⟩
      have hb6 := hb4.trans (hb5.mono hb4.size)
      have hs6 := hs4.keep hb5 (Nat.le_refl _)
      have hb4z := hb4.size
      clear hb5 hb4 hs4 c0 c1 c2 hc
      generalize stepV L d0 d1 d2 = r at *
      obtain ⟨r1, r2⟩ := r
      by_cases hr : r2 = 0
      · subst hr
        go_wp2
        go_roundw
        case rel => exact ⟨k + 1, by omega, by omega, by go_num, by rw [HS.out, HOS.out]; simpa using hs5, fun g hg => Nat.le_trans hb4z (hf5 g hg), hb6⟩
        case measure => simp [intOf]; omega
      · have hr2 : (r2 == 0) = false := by simpa using hr
        have HR := Lib.hid hr
        clear hr
        go_wp2
        go_roundw
        case rel => exact ⟨k + 1, by omega, by omega, by go_num, by rw [HS.out, HOS.out, if_neg HR.out]; exact hs6, hf, hb6⟩
        case measure => simp [intOf]; omega
    · have HT : Hid (ofS ns = (ns.take k).foldl ofStep []) := by
        show _ = _
        unfold ofS
        rcases Nat.lt_or_ge k 12 with h1 | h1
        · have h2 : ns.length ≤ k := by omega
          rw [List.take_of_length_le h2, List.take_of_length_le (by omega)]
        · have h2 : k = 12 := by omega
          rw [h2]
      rcases Nat.lt_or_ge k ns.length with h1 | h1
      · have d1 : decide ((k : Int) < 12) = false := by simp; omega
        clear hgo
        go_wp2
        go_ret
        exact ⟨_, rfl, by rw [HT.out]; exact hs, hf, hb⟩
      · have d1 : decide (k < ns.length) = false := by simp; omega
        clear hgo
        go_wp2
        go_ret
        exact ⟨_, rfl, by rw [HT.out]; exact hs, hf, hb⟩

theorem of_any (v : Value) (ns : List Int) (w : World) (h : SlI w v ns) (hI : I64 ns) :
    Calls Try.prog 10 #[v] w (RetE w (ofS ns)) :=
  (of_fresh v ns w h hI).mono fun _ _ ⟨v', h1, h2, _, h4⟩ => ⟨v', h1, h2, h4⟩

/-- A cell of an elder block written. -/
theorem SlE.setCell {w : World} {v : Value} {l : List En} {B : Nat} (h : SlE w v l) (hf : Fresh B v) (p : Addr) (hp : p.block < B) (u : Value) : SlE (w.setCell p u) v l := by
  obtain ⟨h0, ao, cap, rfl, h2, h3, h4, h5⟩ := h
  refine ⟨h0, ao, cap, rfl, h2, h3, h4, fun j x hx => ?_⟩
  obtain ⟨b, off, rfl, g2, g3⟩ := h5 j x hx
  have hB := hf b rfl
  refine ⟨b, off, rfl, by simpa [World.setCell] using g2, ?_⟩
  rw [World.cell?_of_block (w := w) (a := ⟨b, off + j, none⟩) (Below.heap_setCell w p u b (by omega))]
  exact g3

end Go.Proofs.Ytlejcnobicbeoaa
