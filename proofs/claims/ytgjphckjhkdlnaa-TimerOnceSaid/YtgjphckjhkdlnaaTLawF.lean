/- The walk of the law TimerOnce. -/
import Derived.Test.YtgjphckjhkdlnaaTPl3
namespace Go.Proofs.Ytgjphckjhkdlnaa
open Go.RowKit

/-- The object, the array of times. -/
structure OnceS (w0 w : World) (T A : Nat) (v : Value) (M : List Rw) (la : Nat → Int) : Prop where
  st : St w0 w T v M
  aw : ArrF w A 26 50 (fun j => .int .i64 (la j))
  nAT : A ≠ T
  gA : w0.heap.size ≤ A
  vA : v.ownBlock ≠ some A
  p : OnceP M la

theorem OnceS.mv {w0 w w' : World} {T A : Nat} {v v' : Value} {M : List Rw} {la : Nat → Int} (h : OnceS w0 w T A v M la) (m : Mv T w v w' v') :
    ArrF w' A 26 50 (fun j => .int .i64 (la j)) ∧ v'.ownBlock ≠ some A := by
  have hA := h.aw.lt
  refine ⟨h.aw.mv m h.nAT h.vA, fun e => ?_⟩
  rcases m.stay _ e with h1 | h1
  · exact h.vA h1
  · omega
theorem OnceS.keep {w0 w w' : World} {T A : Nat} {v : Value} {M : List Rw} {la : Nat → Int} (h : OnceS w0 w T A v M la) (hb : Below w.heap.size w w') : OnceS w0 w' T A v M la :=
  ⟨h.st.keep hb, h.aw.below hb (Nat.le_refl _), h.nAT, h.gA, h.vA, h.p⟩
theorem upd_int (ws : Nat → Int) (k : Nat) (t : Int) : (upd (fun j => Value.int .i64 (ws j)) k (.int .i64 t)) = fun j => .int .i64 (upd ws k t j) := by
  funext j; unfold upd; split <;> rfl
theorem OnceS.set {w0 w w' : World} {T A : Nat} {v v' : Value} {M : List Rw} {la : Nat → Int} (h : OnceS w0 w T A v M la) (k : Nat) (hk : k < 50) (t : Int) (h0 : 0 ≤ t) (h1 : t < 40) (m : Mv T w v w' v') (s : St w0 w' T v' (setW M k t).1) :
    OnceS w0 (w'.setCell ⟨A, k, none⟩ (.int .i64 t)) T A v' (setW M k t).1 (upd la k t) := by
  obtain ⟨a1, a3⟩ := h.mv m
  have s1 := s.setOther ⟨A, k, none⟩ (.int .i64 t) h.nAT a3 h.gA
  have b1 := a1.set k hk (.int .i64 t)
  rw [upd_int] at b1
  exact ⟨s1, b1, h.nAT, h.gA, a3, (once_set h.p h.st.srt k hk t h0 h1).2⟩

theorem ArrF.congr {w : World} {A n : Nat} {ty : TypeId} {g g' : Nat → Value} (h : ArrF w A ty n g) (he : ∀ j, j < n → g j = g' j) : ArrF w A ty n g' := by
  refine ⟨?_⟩
  rw [h.obj]
  have : (List.range n).map g = (List.range n).map g' := List.map_congr_left (fun j hj => he j (List.mem_range.1 hj))
  rw [this]

theorem arr_new_50 (w : World) : ArrF (w.alloc (.cells #[.int .i64 0, .int .i64 0, .int .i64 0, .int .i64 0, .int .i64 0, .int .i64 0, .int .i64 0, .int .i64 0, .int .i64 0, .int .i64 0, .int .i64 0, .int .i64 0, .int .i64 0, .int .i64 0, .int .i64 0, .int .i64 0, .int .i64 0, .int .i64 0, .int .i64 0, .int .i64 0, .int .i64 0, .int .i64 0, .int .i64 0, .int .i64 0, .int .i64 0, .int .i64 0, .int .i64 0, .int .i64 0, .int .i64 0, .int .i64 0, .int .i64 0, .int .i64 0, .int .i64 0, .int .i64 0, .int .i64 0, .int .i64 0, .int .i64 0, .int .i64 0, .int .i64 0, .int .i64 0, .int .i64 0, .int .i64 0, .int .i64 0, .int .i64 0, .int .i64 0, .int .i64 0, .int .i64 0, .int .i64 0, .int .i64 0, .int .i64 0] 26)) w.heap.size 26 50 (fun _ => .int .i64 0) :=
  ⟨heap_alloc_new w _⟩

theorem once_pack {M : List Rw} {la : Nat → Int} (h : OnceP M la) (hs : Srt M) (nw : Int) : ∃ l M4, dueW M nw = (l, M4) ∧ OnceP M4 (clrS la l) ∧ (∀ j, j < 50 → 0 ≤ clrS la l j → nw < clrS la l j) ∧
    (∀ (k : Nat) (hk : k < l.length), ∃ j : Nat, j < 50 ∧ l[k] = j ∧ 0 ≤ la j ∧ la j ≤ nw) ∧ (∀ (k : Nat) (hk : k + 1 < l.length) (j j' : Nat), l[k]'(by omega) = j → l[k + 1] = j' → la j < la j' ∨ (la j = la j' ∧ j < j')) ∧ (nw = 100 → M4 = []) ∧ l.length ≤ 50 := by
  obtain ⟨hD1, hD2⟩ := once_due h hs nw
  refine ⟨(dueW M nw).1, (dueW M nw).2, rfl, hD1, hD2, once_pair h hs nw, once_next h hs nw, fun hh => ?_, ?_⟩
  · subst hh
    rw [dueW_all (fun r hr => by obtain ⟨_, _, _, _, _, h6⟩ := h.mem r hr; omega)]
  · have := once_len h hs
    have := dueW_len M nw
    omega

theorem owns_other {w : World} {base n E : Nat} {e : TypeId} {vo : Value} {xs : List Value} (h : w.ownsRow base e E vo n xs) (p : Addr) (u : Value) (hp : vo.ownBlock ≠ some p.block) : (w.setCell p u).ownsRow base e E vo n xs := by
  refine h.kept (row := some p.block) ⟨rfl, rfl, rfl, by simp [World.setCell], fun k _ hk => setCell_block_other _ _ _ _ (fun e => hk (by rw [e]))⟩ ?_
  cases hv : vo.ownBlock with
  | none => exact .inl rfl
  | some g => exact .inr (fun e => hp (by rw [hv]; exact e))

def fillS (k : Nat) (j : Nat) : Int := if j < k then -1 else 0
theorem fill_step (k : Nat) : upd (fillS k) k (-1) = fillS (k + 1) := by
  funext j; unfold upd fillS; split
  · rw [if_pos (by omega)]
  · by_cases h : j < k
    · rw [if_pos h, if_pos (by omega)]
    · rw [if_neg h, if_neg (by omega)]

set_option maxRecDepth 100000 in
set_option maxHeartbeats 8000000 in
theorem once_walk (u0 u1 u2 : Value) (ids at_ cuts : List Int) (w : World) (h0 : SlI w u0 ids) (h1 : SlI w u1 at_) (h2 : SlI w u2 cuts) :
    Calls Try.prog 3 #[u0, u1, u2] w fun e w' => e = .returned (.bool true) ∧ Below w.heap.size w w' := by
  obtain ⟨ao0, cap0, rfl, hcap0, hm0⟩ := Sl.shape h0
  obtain ⟨ao1, cap1, rfl, hcap1, hm1⟩ := Sl.shape h1
  obtain ⟨ao2, cap2, rfl, hcap2, hm2⟩ := Sl.shape h2
  go_enter Try.func3, Try.ntmps3
  go_wp2_with fail
  refine (known_any _).mono ?_
  rintro e w0 ⟨rfl, hb0⟩
  go_wp2_with fail
  refine (new_st w w0 hb0).mono ?_
  rintro e w1 ⟨rfl, hs1, _⟩
  have hT := hs1.lt
  have hz1 := hs1.bel.size
  generalize w0.heap.size = T at *
  go_upto_block 0 with fail
  go_cut [] (fun wx => OnceS w wx T w1.heap.size (.slice none 0 0) [] (fun _ => -1))
  case first =>
    go_wp2
    go_loopw [9] (fun vk wr => ∃ k : Nat, k ≤ 50 ∧ vk = .int .i64 k ∧ St w wr T (.slice none 0 0) [] ∧ ArrF wr w1.heap.size 26 50 (fun j => .int .i64 (fillS k j))) (fun vk _ => 50 - (intOf vk).toNat)
    case atStart =>
      exact ⟨0, Nat.zero_le _, rfl, hs1.keep ((Below.refl _ _).alloc (Nat.le_refl _) _), (arr_new_50 w1).congr (fun j _ => by simp [fillS])⟩
    case round =>
      clear hs1
      obtain ⟨k, hk, rfl, hs, ha⟩ := hrel
      rcases Nat.lt_or_ge k 50 with hlt | hge
      · obtain ⟨ca, fa⟩ := ha.cell k hlt
        have i1 : (k : Int) < 50 := by omega
        have hs9 := hs.setOther ⟨w1.heap.size, k, none⟩ (.int .i64 (-1)) (by simp only; omega) (fun e => by cases e) hz1
        have ha9 := ha.set k hlt (.int .i64 (-1))
        rw [upd_int, fill_step] at ha9
        have HA := Lib.hid ha9
        clear ha9 ha
        go_wp2
        go_roundw
        case rel => exact ⟨k + 1, by omega, by go_num, hs9, HA.out⟩
        case measure => simp [intOf]; omega
      · have hk5 : k = 50 := by omega
        subst hk5
        go_wp2
        go_meet
        exact ⟨hs, ha.congr (fun j hj => by simp [fillS, hj]), by omega, hz1, (fun e => by cases e), once_start⟩
  case rest =>
  clear hs1
  rename_i hcut
  have hS0 := hcut
  clear hcut
  go_upto_block 2 with fail
  go_cut [] (fun wx => ∃ v M la, OnceS w wx T w1.heap.size v M la)
  case first =>
    go_wp2
    go_loopw [10] (fun vk wr => ∃ (k : Nat) (v : Value) (M : List Rw) (la : Nat → Int), k ≤ 100 ∧ vk = .int .i64 k ∧ OnceS w wr T w1.heap.size v M la) (fun vk _ => 100 - (intOf vk).toNat)
    case atStart => exact ⟨0, _, _, _, Nat.zero_le _, rfl, hS0⟩
    case round =>
      clear hS0
      obtain ⟨k, v, M, la, hk, rfl, hN⟩ := hrel
      by_cases hgo : k < ids.length ∧ k < at_.length ∧ k < 100
      · obtain ⟨hl0, hl1, h60⟩ := hgo
        obtain ⟨b, off, rfl, hbl, hc⟩ := h0.cell hN.st.bel (Nat.le_refl _) k hl0
        obtain ⟨b', off', rfl, hbl', hc'⟩ := h1.cell hN.st.bel (Nat.le_refl _) k hl1
        obtain ⟨x, hx⟩ : ∃ x, ids[k] = x := ⟨_, rfl⟩
        obtain ⟨y, hy⟩ : ∃ y, at_[k] = y := ⟨_, rfl⟩
        rw [hx] at hc
        rw [hy] at hc'
        have HY := Lib.hid hy
        clear hx hy
        have q1 := Int.emod_nonneg x (show (50 : Int) ≠ 0 by omega)
        have q2 := Int.emod_lt_of_pos x (show (0 : Int) < 50 by omega)
        have q3 := Int.emod_nonneg y (show (40 : Int) ≠ 0 by omega)
        have q4 := Int.emod_lt_of_pos y (show (0 : Int) < 40 by omega)
        obtain ⟨kk, hkk⟩ : ∃ kk : Nat, x % 50 = kk := ⟨(x % 50).toNat, by omega⟩
        have hk20 : kk < 50 := by omega
        have HS0 := Lib.hid (set_st hN.st kk (y % 40))
        rw [(once_set hN.p hN.st.srt kk hk20 (y % 40) q3 q4).1] at HS0
        have HWX := Lib.hid (within_any x 50 wr (by omega) (by omega))
        rw [hkk] at HWX
        have i1 : (kk : Int) < 50 := by omega
        have i0 : (0 : Int) ≤ kk := by omega
        clear hkk q1 q2
        go_wp2_with fail
        refine HWX.out.mono ?_
        rintro e w4 ⟨rfl, rfl⟩
        go_wp2_with fail
        refine (within_any y 40 _ (by omega) (by omega)).mono ?_
        rintro e w4 ⟨rfl, rfl⟩
        go_wp2_with fail
        refine HS0.out.mono ?_
        rintro e w4 ⟨rfl, v4, hs4, hm4⟩
        obtain ⟨a1, a3⟩ := hN.mv hm4
        obtain ⟨ca, fa⟩ := a1.cell kk hk20
        have HNS := Lib.hid (hN.set kk hk20 (y % 40) q3 q4 hm4 hs4)
        obtain ⟨b3, off3, hbe', _, hc''⟩ := h1.cell hs4.bel (Nat.le_refl _) k hl1
        injection hbe' with hbe'
        injection hbe' with e1 e2 _
        subst e1 e2
        rw [HY.out] at hc''
        clear hc hc' a1 a3 hs4 hm4 hN HS0 HWX
        go_wp2_with fail
        refine (within_any y 40 _ (by omega) (by omega)).mono ?_
        rintro e w5 ⟨rfl, rfl⟩
        generalize y % 40 = t at *
        go_wp2
        go_roundw
        case rel => exact ⟨k + 1, _, _, _, by omega, by go_num, HNS.out⟩
        case measure => simp [intOf]; omega
      · rcases Nat.lt_or_ge k ids.length with g1 | g1
        · rcases Nat.lt_or_ge k at_.length with g2 | g2
          · have d1 : decide ((k : Int) < 100) = false := by simp; omega
            have d2 : decide (k < 100) = false := by simp; omega
            clear hgo
            go_wp2
            go_meet
            exact ⟨v, M, la, hN⟩
          · have d1 : decide (k < at_.length) = false := by simp; omega
            clear hgo
            go_wp2
            go_meet
            exact ⟨v, M, la, hN⟩
        · have d1 : decide (k < ids.length) = false := by simp; omega
          clear hgo
          go_wp2
          go_meet
          exact ⟨v, M, la, hN⟩
  case rest =>
  clear hS0
  obtain ⟨v, M, la, hN⟩ := hcut
  go_upto_block 4 with fail
  go_cut [] (fun wx => ∃ v la, OnceS w wx T w1.heap.size v [] la)
  case first =>
    go_wp2
    go_loopw [12, 13] (fun vn vi wr => ∃ (k : Nat) (now : Int) (v : Value) (M : List Rw) (la : Nat → Int), k ≤ 31 ∧ vi = .int .i64 k ∧ vn = .int .i64 now ∧ 0 ≤ now ∧ now ≤ 100 + 9 * k ∧ OnceS w wr T w1.heap.size v M la ∧ ((cuts.length < k ∨ 30 < k) → M = [])) (fun _ vi _ => 31 - (intOf vi).toNat)
    case atStart => exact ⟨0, 0, _, _, _, Nat.zero_le _, rfl, rfl, by omega, by omega, hN, fun hh => by omega⟩
    case round =>
      clear hN
      obtain ⟨k, now, v, M, la, hk, rfl, rfl, hn0, hn1, hN, hE⟩ := hrel
      have HE := Lib.hid hE
      clear hE
      by_cases hgo : k ≤ cuts.length ∧ k ≤ 30
      · obtain ⟨hkl, hk30⟩ := hgo
        have hk30i : (k : Int) ≤ 30 := by omega
        go_upto_region 20 with fail
        go_cut [83] (fun vb wx => ∃ b : Bool, vb = .bool b ∧ (b = true → k < cuts.length ∧ k < 30) ∧ (b = false → cuts.length ≤ k ∨ 30 ≤ k) ∧ wx = wr)
        case first =>
          by_cases hc : k < cuts.length ∧ k < 30
          · obtain ⟨hlt, h30⟩ := hc
            have h30i : (k : Int) < 30 := by omega
            go_wp2
            go_meet
            exact ⟨true, rfl, fun _ => ⟨hlt, h30⟩, (fun hh => by cases hh), rfl⟩
          · rcases Nat.lt_or_ge k cuts.length with g1 | g1
            · have d1 : decide ((k : Int) < 30) = false := by simp; omega
              have d2 : decide (k < 30) = false := by simp; omega
              clear hc
              go_wp2
              go_meet
              exact ⟨false, by first | rfl | simp, (fun hh => by cases hh), fun _ => by simp at d2; omega, rfl⟩
            · have d1 : decide (k < cuts.length) = false := by simp; omega
              clear hc
              go_wp2
              go_meet
              exact ⟨false, by first | rfl | simp, (fun hh => by cases hh), fun _ => .inl g1, rfl⟩
        case rest =>
        obtain ⟨bc, rfl, hbt, hbf, rfl⟩ := hcut
        have HBT := Lib.hid hbt
        have HBF := Lib.hid hbf
        clear hbt hbf
        go_upto_if 83 with fail
        go_cut [12] (fun vn wx => ∃ now' : Int, vn = .int .i64 now' ∧ 0 ≤ now' ∧ now' ≤ 109 + 9 * k ∧ ((cuts.length ≤ k ∨ 30 ≤ k) → now' = 100) ∧ wx = wc)
        case first =>
          cases bc with
          | true =>
            obtain ⟨hlt, h30⟩ := HBT.out rfl
            obtain ⟨b2, off2, rfl, hbl2, hc2⟩ := h2.cell hN.st.bel (Nat.le_refl _) k hlt
            generalize cuts[k] = z at *
            have q1 := Int.emod_nonneg z (show (9 : Int) ≠ 0 by omega)
            have q2 := Int.emod_lt_of_pos z (show (0 : Int) < 9 by omega)
            go_wp2_with fail
            refine (within_any z 9 _ (by omega) (by omega)).mono ?_
            rintro e w4 ⟨rfl, rfl⟩
            go_wp2
            go_meet
            exact ⟨now + z % 9, rfl, by omega, by omega, fun hh => by omega, rfl⟩
          | false =>
            go_wp2
            go_meet
            exact ⟨100, rfl, by omega, by omega, fun _ => rfl, rfl⟩
        case rest =>
        obtain ⟨nw, rfl, hw0, hw1, hw2, rfl⟩ := hcut
        have HW2 := Lib.hid hw2
        clear hw2 HE
        obtain ⟨l, M4, hdl, hD1, hD2, hPair, hNext, hMM, hl50⟩ := once_pack hN.p hN.st.srt nw
        have HDL := Lib.hid hdl
        have HPair := Lib.hid hPair
        have HNext := Lib.hid hNext
        have HM := Lib.hid hMM
        have HD1 := Lib.hid hD1
        have HD2 := Lib.hid hD2
        clear hdl hD1 hD2 hPair hNext hMM
        go_wp2_with fail
        refine (due_st hN.st nw).mono ?_
        rw [HDL.out]
        rintro e w4 ⟨vo, v4, rfl, ho, hs4, hm4, _⟩
        simp only at ho hs4
        obtain ⟨ha4, hv4⟩ := hN.mv hm4
        have hA := hN.aw.lt
        have hgo4 := owns_ge ho
        obtain ⟨bo, hbo⟩ : ∃ bo : Nat, wc.heap.size = bo := ⟨_, rfl⟩
        rw [hbo] at ho hgo4 hA
        clear hbo
        have hnAT := hN.nAT
        have hgA := hN.gA
        clear hN hm4 HDL
        obtain ⟨aol, capl, rfl, hcapl, hml⟩ := owns_shape ho
        have hsl : SlI w4 (.slice aol l.length capl) l := sl_of_owns ho
        have hw4 := hs4.bel
        have HO := Lib.hid ho
        have HA4 := Lib.hid ha4
        clear ho ha4
        go_upto_block 6 with fail
        go_cut [] (fun wx => Below w4.heap.size w4 wx)
        case first =>
          go_wp2
          go_loopw [15] (fun vj wr2 => ∃ j : Nat, j ≤ l.length ∧ vj = .int .i64 j ∧ Below w4.heap.size w4 wr2) (fun vj _ => l.length - (intOf vj).toNat)
          case atStart => exact ⟨0, Nat.zero_le _, rfl, Below.refl _ _⟩
          case round =>
            obtain ⟨j, hj, rfl, hb⟩ := hrel
            rcases Nat.lt_or_ge j l.length with hlt | hge
            · obtain ⟨i, hi50, e1, p1, p2⟩ := HPair.out j hlt
              obtain ⟨b, off, rfl, hbl, a1⟩ := hsl.cell hb (Nat.le_refl _) j hlt
              obtain ⟨x1, _⟩ := (HA4.out.below hb (Nat.le_refl _)).cell i hi50
              rw [e1] at a1
              have i1 : (i : Int) < 50 := by omega
              have d1 : decide (la i < 0) = false := by simpa using p1
              have d2 : decide (nw < la i) = false := by simpa using p2
              cases j with
              | zero =>
                simp only [Nat.add_zero] at a1
                go_wp2
                go_quiet (fail)
                go_wp2
                go_roundw
                case rel => exact ⟨1, by omega, by go_num, below_drewN hb _⟩
                case measure => simp [intOf]; omega
              | succ j0 =>
                obtain ⟨i', hi50', e1', p1', p2'⟩ := HPair.out j0 (by omega)
                have hS := HNext.out j0 hlt i' i e1' e1
                obtain ⟨b9, off9, hbe, _, a2⟩ := hsl.cell hb (Nat.le_refl _) j0 (by omega)
                injection hbe with hbe
                injection hbe with q1 q2 _
                subst q1 q2
                rw [e1'] at a2
                obtain ⟨x2, _⟩ := (HA4.out.below hb (Nat.le_refl _)).cell i' hi50'
                have i2 : (i' : Int) < 50 := by omega
                have i3 : (j0 : Int) + 1 < l.length := by omega
                have i4 : IntKind.i64.wrap ((j0 : Int) + 1 - 1) = (j0 : Int) := by rw [show (j0 : Int) + 1 - 1 = j0 by omega]; exact IntWalk.i64_in _ (by omega)
                have i5 : (j0 : Int) < l.length := by omega
                have i6 : IntKind.i64.wrap ((j0 : Int) + 1 + 1) = (j0 : Int) + 1 + 1 := IntWalk.i64_in _ (by omega)
                have i7 : IntKind.i64.wrap (j0 : Int) = (j0 : Int) := IntWalk.i64_in _ (by omega)
                have i8 : (0 : Int) < (j0 : Int) + 1 := by omega
                have i9 : ((j0 : Int) + 1).toNat = j0 + 1 := by omega
                generalize la i = y at *
                generalize la i' = x at *
                clear e1 e1'
                have g1 : decide (y < x) = false := by simp; omega
                by_cases hx : x = y
                · subst hx
                  have g2 : decide ((i : Int) ≤ (i' : Int)) = false := by simp; omega
                  have g3 : decide (i ≤ i') = false := by simp; omega
                  clear hS
                  go_wp2
                  go_quiet (fail)
                  go_wp2
                  go_roundw
                  case rel => exact ⟨j0 + 1 + 1, by omega, by go_num, below_drewN hb _⟩
                  case measure => simp [intOf]; omega
                · have g2 : (x == y) = false := by simpa using hx
                  clear hS hx
                  go_wp2
                  go_quiet (fail)
                  go_wp2
                  go_roundw
                  case rel => exact ⟨j0 + 1 + 1, by omega, by go_num, below_drewN hb _⟩
                  case measure => simp [intOf]; omega
            · have d1 : decide (j < l.length) = false := by simpa using hge
              go_wp2
              go_meet
              exact hb
        case rest =>
        have hcut9 := hcut
        clear hcut
        have hs9 := hs4.keep hcut9
        have HA9 := Lib.hid (HA4.out.below hcut9 (Nat.le_refl _))
        have HO9 := Lib.hid (owns_keep HO.out hcut9 (Nat.le_refl _))
        clear hs4 hsl hcut9 HA4 HO hw4
        go_upto_block 8 with fail
        go_cut [] (fun wx => St w wx T v4 M4 ∧ ArrF wx w1.heap.size 26 50 (fun q => .int .i64 (clrS la l q)))
        case first =>
          go_wp2
          go_loopw [16] (fun vj wr3 => ∃ j : Nat, j ≤ l.length ∧ vj = .int .i64 j ∧ St w wr3 T v4 M4 ∧ ArrF wr3 w1.heap.size 26 50 (fun q => .int .i64 (clrS la (l.take j) q)) ∧ wr3.ownsRow bo 3 1 (.slice aol l.length capl) l.length (cellsI l)) (fun vj _ => l.length - (intOf vj).toNat)
          case atStart => exact ⟨0, Nat.zero_le _, rfl, hs9, HA9.out, HO9.out⟩
          case round =>
            clear hs9
            obtain ⟨j, hj, rfl, hs, ha, ho⟩ := hrel
            rcases Nat.lt_or_ge j l.length with hlt | hge
            · obtain ⟨i, hi50, e1, p1, p2⟩ := HPair.out j hlt
              have hsl : SlI _ (.slice aol l.length capl) l := sl_of_owns ho
              obtain ⟨b, off, rfl, hbl, a1⟩ := hsl.cell (Below.refl _ _) (Nat.le_refl _) j hlt
              obtain ⟨x1, f1⟩ := ha.cell i hi50
              have HA1 := Lib.hid (ha.set i hi50 (.int .i64 (-1)))
              have HC := Lib.hid (clr_take la l j hlt)
              rw [e1] at a1 HC
              have i1 : (i : Int) < 50 := by omega
              have hbA : b ≠ w1.heap.size := by have := hgo4 b rfl; omega
              have hs1 := hs.setOther ⟨w1.heap.size, i, none⟩ (.int .i64 (-1)) (by simp only; omega) hv4 hgA
              have HO1 := Lib.hid (owns_other ho ⟨w1.heap.size, i, none⟩ (.int .i64 (-1)) (fun e => by injection e with e; exact hbA e))
              clear ha ho hsl hs e1
              go_wp2
              go_roundw
              case rel =>
                refine ⟨j + 1, by omega, by go_num, hs1, ?_, HO1.out⟩
                have hh := HA1.out
                rw [upd_int] at hh
                rw [HC.out]
                simpa using hh
              case measure => simp [intOf]; omega
            · have d1 : decide (j < l.length) = false := by simpa using hge
              rw [List.take_of_length_le hge] at ha
              have HAF := Lib.hid ha
              clear ha
              go_wp2
              go_meet
              exact ⟨hs, HAF.out⟩
        case rest =>
        clear hs9 HA9 HO9
        obtain ⟨hs9, ha9⟩ := hcut
        have HA9 := Lib.hid ha9
        have hb9 := hs9.bel
        clear ha9
        go_wp2
        go_loop [17] (fun vj => ∃ j : Nat, j ≤ 50 ∧ vj = .int .i64 j) (fun vj => 50 - (intOf vj).toNat)
        case atStart => exact ⟨0, Nat.zero_le _, rfl⟩
        case round =>
          obtain ⟨j, hj, rfl⟩ := hrel
          rcases Nat.lt_or_ge j 50 with hlt | hge
          · obtain ⟨x1, f1⟩ := HA9.out.cell j hlt
            have hq := HD2.out j hlt
            have i1 : (j : Int) < 50 := by omega
            generalize clrS la l j = c at x1 hq
            by_cases h0c : 0 ≤ c
            · have d2 : decide (c ≤ nw) = false := by have := hq h0c; simp; omega
              clear hq
              go_wp2
              go_round
              case rel => exact ⟨j + 1, by omega, by go_num⟩
              case measure => simp [intOf]; omega
            · have d2 : decide (0 ≤ c) = false := by simpa using h0c
              clear hq h0c
              go_wp2
              go_round
              case rel => exact ⟨j + 1, by omega, by go_num⟩
              case measure => simp [intOf]; omega
          · have hj50 : j = 50 := by omega
            subst hj50
            go_wp2
            go_roundw
            case rel => exact ⟨k + 1, nw, v4, M4, clrS la l, by omega, by go_num, rfl, hw0, by omega, ⟨hs9, HA9.out, hnAT, hgA, hv4, HD1.out⟩, fun hh => HM.out (HW2.out (by omega))⟩
            case measure => simp [intOf]; omega
      · have hM : M = [] := HE.out (by omega)
        subst hM
        rcases Nat.lt_or_ge cuts.length k with g1 | g1
        · have d1 : decide (k ≤ cuts.length) = false := by simp; omega
          clear hgo
          go_wp2
          go_meet
          exact ⟨v, la, hN⟩
        · have d1 : decide ((k : Int) ≤ 30) = false := by simp; omega
          have d2 : decide (k ≤ 30) = false := by simp; omega
          clear hgo
          go_wp2
          go_meet
          exact ⟨v, la, hN⟩
  case rest =>
  clear hN
  obtain ⟨v9, la9, hN⟩ := hcut
  go_wp2_with fail
  refine (next_st hN.st).mono ?_
  rintro e w4 ⟨rfl, rfl⟩
  go_wp2_with fail
  refine (len_st hN.st).mono ?_
  rintro e w4 ⟨rfl, rfl⟩
  have hb := hN.st.bel
  clear hN
  go_wp2
  go_ret
  exact ⟨rfl, hb⟩

end Go.Proofs.Ytgjphckjhkdlnaa
