/- The walk of the law TimerPlays. -/
import Derived.Test.YtoiegjfpoamcbaaTRfX
import Derived.Test.YtoiegjfpoamcbaaTRfY
namespace Go.Proofs.Ytoiegjfpoamcbaa
open Go.RowKit

/-- Both objects, in one state. -/
structure Ps (w0 w : World) (T1 T2 : Nat) (M : List Rw) : Prop where
  ex : ∃ v1 v2, Pair w0 w T1 v1 M T2 v2 M

theorem ps_set1 {w0 w : World} {T1 T2 : Nat} {v1 v2 : Value} {M : List Rw} (h : Pair w0 w T1 v1 M T2 v2 M) (id tm : Int) :
    Calls Try.prog 8 #[.pointer (some ⟨T1, 0, none⟩), .int .i64 id, .int .i64 tm] w fun e w' => e = .returned (.int .i64 (setW M id tm).2) ∧ Below w0.heap.size w0 w' ∧ ∃ v', Pair w0 w' T1 v' (setW M id tm).1 T2 v2 M := by
  refine (set_st h.one id tm).mono ?_
  rintro e w' ⟨h1, v', h2, h3⟩
  exact ⟨h1, h2.bel, v', h.left h3 h2⟩
theorem Ps.set2 {w0 w : World} {T1 T2 : Nat} {v1 v2 : Value} {M M1 : List Rw} (h : Pair w0 w T1 v1 M1 T2 v2 M) (hs : Srt M) (hl : M.length ≤ 100) (id tm : Int) (hM1 : M1 = (setW M id tm).1) :
    Calls Try.prog 9 #[.pointer (some ⟨T2, 0, none⟩), .int .i64 id, .int .i64 tm] w fun e w' => e = .returned (.int .i64 (setW M id tm).2) ∧ Below w0.heap.size w0 w' ∧ Ps w0 w' T1 T2 (setW M id tm).1 := by
  subst hM1
  refine (rset_any w w0.heap.size T2 v2 M id tm h.two hs (by omega)).mono ?_
  rintro e w' ⟨h1, v', h2, h3⟩
  have h4 := h.right h3 h2
  exact ⟨h1, h4.one.bel, v1, v', h4⟩
theorem ps_cancel1 {w0 w : World} {T1 T2 : Nat} {v1 v2 : Value} {M : List Rw} (h : Pair w0 w T1 v1 M T2 v2 M) (id : Int) :
    Calls Try.prog 10 #[.pointer (some ⟨T1, 0, none⟩), .int .i64 id] w fun e w' => e = .returned (.bool (hasW M id)) ∧ Below w0.heap.size w0 w' ∧ ∃ v', Pair w0 w' T1 v' (remW M id) T2 v2 M := by
  refine (cancel_st h.one id).mono ?_
  rintro e w' ⟨h1, v', h2, h3⟩
  exact ⟨h1, h2.bel, v', h.left h3 h2⟩
theorem ps_cancel2 {w0 w : World} {T1 T2 : Nat} {v1 v2 : Value} {M : List Rw} (id : Int) (h : Pair w0 w T1 v1 (remW M id) T2 v2 M) (hs : Srt M) (hl : M.length ≤ 100) :
    Calls Try.prog 11 #[.pointer (some ⟨T2, 0, none⟩), .int .i64 id] w fun e w' => e = .returned (.bool (hasW M id)) ∧ Below w0.heap.size w0 w' ∧ Ps w0 w' T1 T2 (remW M id) := by
  refine (rcancel_any w w0.heap.size T2 v2 M id h.two (by omega)).mono ?_
  rintro e w' ⟨h1, v', h2, h3⟩
  have h4 := h.right h3 h2
  rw [remW_lt hs id] at h1
  exact ⟨h1, h4.one.bel, v1, v', h4⟩
/-- Due of the timer, then of the reference: what the first told reads still. -/
theorem ps_due1 {w0 w : World} {T1 T2 : Nat} {v1 v2 : Value} {M : List Rw} (h : Pair w0 w T1 v1 M T2 v2 M) (now : Int) :
    Calls Try.prog 13 #[.pointer (some ⟨T1, 0, none⟩), .int .i64 now] w fun e w' => ∃ vo, e = .returned vo ∧ Below w0.heap.size w0 w' ∧ (∃ v', Pair w0 w' T1 v' (dueW M now).2 T2 v2 M) ∧ w'.ownsRow w.heap.size 3 1 vo (dueW M now).1.length (cellsI (dueW M now).1) ∧ w.heap.size ≤ w'.heap.size := by
  refine (due_st h.one now).mono ?_
  rintro e w' ⟨vo, v', h1, h2, h3, h4, h5⟩
  exact ⟨vo, h1, h3.bel, ⟨v', h.left h4 h3⟩, h2, h4.size⟩
theorem ps_due2 {w0 w : World} {T1 T2 B : Nat} {v1 v2 vo : Value} {M : List Rw} (now : Int) (h : Pair w0 w T1 v1 (dueW M now).2 T2 v2 M) (hl : M.length ≤ 100) (ho : w.ownsRow B 3 1 vo (dueW M now).1.length (cellsI (dueW M now).1)) (hT2 : T2 < B) (hv2 : ∀ g, v2.ownBlock = some g → g < B) :
    Calls Try.prog 14 #[.pointer (some ⟨T2, 0, none⟩), .int .i64 now] w fun e w' => ∃ vx, e = .returned vx ∧ Below w0.heap.size w0 w' ∧ Ps w0 w' T1 T2 (dueW M now).2 ∧ SlI w' vo (dueW M now).1 ∧ SlI w' vx (dueW M now).1 := by
  refine (rdue_any w w0.heap.size T2 v2 M now h.two (by omega)).mono ?_
  rintro e w' ⟨vx, v', h1, h2, h3, h4⟩
  have h5 := h.right h4 h3
  have ho2 := owns_mv ho h4 (fun e => by have := owns_ge ho _ e; omega) (fun g hg e => by have := owns_ge ho g hg; have := hv2 g e; omega)
  exact ⟨vx, h1, h5.one.bel, ⟨v1, v', h5⟩, sl_of_owns ho2, sl_of_owns h2⟩

theorem Ps.srt {w0 w : World} {T1 T2 : Nat} {M : List Rw} (h : Ps w0 w T1 T2 M) : Srt M ∧ M.length ≤ 100 ∧ Below w0.heap.size w0 w := by
  obtain ⟨v1, v2, hp⟩ := h.ex
  exact ⟨hp.one.srt, hp.one.len, hp.one.bel⟩
theorem Ps.keep {w0 w w' : World} {T1 T2 : Nat} {M : List Rw} (h : Ps w0 w T1 T2 M) (hb : Below w.heap.size w w') : Ps w0 w' T1 T2 M := by
  obtain ⟨v1, v2, hp⟩ := h.ex
  exact ⟨v1, v2, hp.keep hb⟩

set_option maxRecDepth 100000 in
set_option maxHeartbeats 8000000 in
theorem plays_walk (u0 u1 u2 : Value) (kinds ids at_ : List Int) (w : World) (h0 : SlI w u0 kinds) (h1 : SlI w u1 ids) (h2 : SlI w u2 at_) :
    Calls Try.prog 3 #[u0, u1, u2] w fun e w' => e = .returned (.bool true) ∧ Below w.heap.size w w' := by
  obtain ⟨ao0, cap0, rfl, hcap0, hm0⟩ := Sl.shape h0
  obtain ⟨ao1, cap1, rfl, hcap1, hm1⟩ := Sl.shape h1
  obtain ⟨ao2, cap2, rfl, hcap2, hm2⟩ := Sl.shape h2
  go_enter Try.func3, Try.ntmps3
  go_wp2_with fail
  refine (known_any _).mono ?_
  rintro e w0 ⟨rfl, hb0⟩
  go_wp2_with fail
  refine (new_st w w0 hb0).mono ?_
  rintro e w1 ⟨rfl, hs1, hb1⟩
  have hT1 := hs1.lt
  go_wp2_with fail
  refine (rnew_any w1).mono ?_
  rintro e w2 ⟨rfl, hr2, hb2⟩
  have hz1 := hs1.bel.size
  have hp2 : Ps w w2 w0.heap.size w1.heap.size [] := by
    refine ⟨_, _, hs1.keep hb2, ⟨hr2.obj, hr2.row, by omega, fun g hg => by cases hg⟩, by omega, (fun e => by cases e), (fun e => by cases e), fun g e => by cases e⟩
  clear hs1 hb1 hr2 hb2 hb0 hz1
  generalize w0.heap.size = T1 at *
  generalize w1.heap.size = T2 at *
  go_upto_block 0 with fail
  go_cut [] (fun wx => Below w.heap.size w wx)
  case first =>
    go_wp2
    go_loopw [9] (fun vk wr => ∃ (k : Nat) (M : List Rw), k ≤ 300 ∧ vk = .int .i64 k ∧ Ps w wr T1 T2 M) (fun vk _ => 300 - (intOf vk).toNat)
    case atStart => exact ⟨0, [], Nat.zero_le _, rfl, hp2⟩
    case round =>
      clear hp2
      obtain ⟨k, M, hk, rfl, hP⟩ := hrel
      obtain ⟨hsrt, hlen, hbel⟩ := hP.srt
      by_cases hgo : k < kinds.length ∧ k < ids.length ∧ k < at_.length ∧ k < 300
      · obtain ⟨hl0, hl1, hl2, h300⟩ := hgo
        obtain ⟨b, off, rfl, hbl, hc⟩ := h0.cell hbel (Nat.le_refl _) k hl0
        obtain ⟨b1, off1, rfl, hbl1, hc1⟩ := h1.cell hbel (Nat.le_refl _) k hl1
        obtain ⟨b2, off2, rfl, hbl2, hc2⟩ := h2.cell hbel (Nat.le_refl _) k hl2
        generalize kinds[k] = x at *
        generalize ids[k] = y at *
        generalize at_[k] = z at *
        have q1 := Int.emod_nonneg x (show (5 : Int) ≠ 0 by omega)
        have q2 := Int.emod_lt_of_pos x (show (0 : Int) < 5 by omega)
        have KS : Hid (∀ W, Below w.heap.size w W → (Below w.heap.size w W ∧ W.cell? ⟨b1, off1 + k, none⟩ = some (.int .i64 y) ∧ W.cell? ⟨b2, off2 + k, none⟩ = some (.int .i64 z))) := fun W hW => by
          refine ⟨hW, ?_, ?_⟩
          · rw [hW.cell (p := ⟨b1, off1 + k, none⟩) hbl1, ← hbel.cell (p := ⟨b1, off1 + k, none⟩) hbl1]; exact hc1
          · rw [hW.cell (p := ⟨b2, off2 + k, none⟩) hbl2, ← hbel.cell (p := ⟨b2, off2 + k, none⟩) hbl2]; exact hc2
        have i1 : (k : Int) < ids.length := by omega
        have i2 : (k : Int) < at_.length := by omega
        have i0 : (0 : Int) ≤ (k : Int) := by omega
        go_upto_block 2 with (refine (within_any x 5 _ (by omega) (by omega)).mono ?_; rintro e w6 ⟨rfl, rfl⟩)
        generalize x % 5 = d at *
        have hPd := hP.keep (Below.refl wr.heap.size wr).drew
        obtain ⟨v1, v2, hpair⟩ := hPd.ex
        go_cut [] (fun wx => ∃ M', Ps w wx T1 T2 M')
        case first =>
          have hd : d = 0 ∨ d = 1 ∨ d = 2 ∨ d = 3 ∨ d = 4 := by omega
          have hbd : Below w.heap.size w wr.drew := hbel.drew
          have hT2 := hpair.two.lt
          have hv2 := fun g hg => (hpair.two.at_ g hg).2.1
          have HV2 := Lib.hid hv2
          clear q1 q2 hP hv2
          have HC1 := Lib.hid (ps_set1 hpair y z)
          have HC2 := Lib.hid (ps_cancel1 hpair y)
          have HC3 := Lib.hid (ps_due1 hpair z)
          have HS2 := Lib.hid hsrt
          clear hpair hsrt hPd
          rcases hd with rfl | rfl | rfl | rfl | rfl
          iterate 3
            · go_upto_region 11 with fail
              go_cut [69] (fun v69 wx => v69 = .bool false ∧ Ps w wx T1 T2 (setW M y z).1)
              case first =>
                first
                  | (go_region_held3 (fun w' => Below w.heap.size w w' ∧ w'.cell? ⟨b1, off1 + k, none⟩ = some (.int .i64 y) ∧ w'.cell? ⟨b2, off2 + k, none⟩ = some (.int .i64 z)) (first | assumption | exact KS.out _ (by assumption))
                      (first
                        | (go_at_call 8; (with_reducible refine HC1.out.mono ?_); rintro e w7 ⟨rfl, hb7, v7, hp7⟩)
                        | (go_at_call 9; (with_reducible refine (Ps.set2 hp7 HS2.out hlen y z rfl).mono ?_); rintro e w8 ⟨rfl, hb8, hp8⟩)))
                  | fail
                all_goals
                  go_wp2
                  go_meet
                  exact ⟨by simp, hp8⟩
              case rest =>
              obtain ⟨rfl, hp9⟩ := hcut
              go_wp2
              go_meet
              exact ⟨_, hp9⟩
          · go_upto_region 14 with fail
            go_cut [84] (fun v84 wx => v84 = .bool false ∧ Ps w wx T1 T2 (remW M y))
            case first =>
              first
                | (go_region_held3 (fun w' => Below w.heap.size w w' ∧ w'.cell? ⟨b1, off1 + k, none⟩ = some (.int .i64 y) ∧ w'.cell? ⟨b2, off2 + k, none⟩ = some (.int .i64 z)) (first | assumption | exact KS.out _ (by assumption))
                    (first
                      | (go_at_call 10; (with_reducible refine HC2.out.mono ?_); rintro e w7 ⟨rfl, hb7, v7, hp7⟩)
                      | (go_at_call 11; (with_reducible refine (ps_cancel2 y hp7 HS2.out hlen).mono ?_); rintro e w8 ⟨rfl, hb8, hp8⟩)))
                | fail
              all_goals
                go_wp2
                go_meet
                exact ⟨by simp, hp8⟩
            case rest =>
            obtain ⟨rfl, hp9⟩ := hcut
            go_wp2
            go_meet
            exact ⟨_, hp9⟩
          · go_upto_region 17 with fail
            go_cut [100] (fun v100 wx => v100 = .bool false ∧ Ps w wx T1 T2 (dueW M z).2)
            case first =>
              first
                | (go_region_held3 (fun w' => Below w.heap.size w w' ∧ w'.cell? ⟨b1, off1 + k, none⟩ = some (.int .i64 y) ∧ w'.cell? ⟨b2, off2 + k, none⟩ = some (.int .i64 z)) (first | assumption | exact KS.out _ (by assumption))
                    (first
                      | (go_at_call 13; (with_reducible refine HC3.out.mono ?_); rintro e w7 ⟨vo, rfl, hb7, ⟨v7, hp7⟩, ho7, hz7⟩)
                      | (go_at_call 14; (with_reducible refine (ps_due2 z hp7 hlen ho7 hT2 HV2.out).mono ?_); rintro e w8 ⟨vx, rfl, hb8, hp8, ho8, hx8⟩)
                      | (go_at_call 12; (with_reducible refine (ints_any _ _ _ _ _ ho8 hx8).mono ?_); rintro e w9 ⟨rfl, hb9⟩; have hb99 := hb8.trans (hb9.mono hb8.size); have hp9 := hp8.keep hb9)))
                | fail
              all_goals
                go_wp2
                go_meet
                exact ⟨by simp, hp9⟩
            case rest =>
            obtain ⟨rfl, hp9⟩ := hcut
            go_wp2
            go_meet
            exact ⟨_, hp9⟩
        case rest =>
        obtain ⟨M', v3, v4, hp3⟩ := hcut
        have HP := Lib.hid hp3
        have hpd := hp3.keep (Below.refl wc.heap.size wc).drew
        have HPD := Lib.hid hpd
        obtain ⟨c4, _⟩ := hpd.two.cell
        obtain ⟨ao4, cap4, rfl, _, _⟩ := hpd.two.row.shape
        have hml := hp3.one.len
        clear hpd hP hpair hPd hsrt KS
        go_wp2_with fail
        refine (next_st hp3.one).mono ?_
        rintro e w6 ⟨rfl, rfl⟩
        go_wp2_with fail
        refine (rnext_any _ _ _ _ _ hp3.two).mono ?_
        rintro e w6 ⟨rfl, rfl⟩
        clear hp3
        go_upto_region 21 with fail
        go_cut [130] (fun v130 wx => v130 = .bool false ∧ Ps w wx T1 T2 M')
        case first =>
          first
            | (go_region_held3 (fun w' => w'.cell? ⟨T2, 0, none⟩ = some (.slice ao4 M'.length cap4)) (first | assumption)
                (first
                  | (go_at_call 17; (with_reducible refine (len_st HPD.out.one).mono ?_); rintro e w7 ⟨rfl, rfl⟩)))
            | fail
          all_goals
            go_wp2
            go_meet
            exact ⟨by simp, _, _, HPD.out⟩
        case rest =>
        obtain ⟨rfl, hp9⟩ := hcut
        go_wp2
        go_roundw
        case rel => exact ⟨k + 1, M', by omega, by go_num, hp9⟩
        case measure => simp [intOf]; omega
      · rcases Nat.lt_or_ge k kinds.length with g1 | g1
        · rcases Nat.lt_or_ge k ids.length with g2 | g2
          · rcases Nat.lt_or_ge k at_.length with g3 | g3
            · have d1 : decide ((k : Int) < 300) = false := by simp; omega
              have d2 : decide (k < 300) = false := by simp; omega
              clear hgo
              go_wp2
              go_meet
              exact hbel
            · have d1 : decide (k < at_.length) = false := by simp; omega
              clear hgo
              go_wp2
              go_meet
              exact hbel
          · have d1 : decide (k < ids.length) = false := by simp; omega
            clear hgo
            go_wp2
            go_meet
            exact hbel
        · have d1 : decide (k < kinds.length) = false := by simp; omega
          clear hgo
          go_wp2
          go_meet
          exact hbel
  case rest =>
  go_wp2
  go_ret
  exact ⟨rfl, hcut⟩

end Go.Proofs.Ytoiegjfpoamcbaa
