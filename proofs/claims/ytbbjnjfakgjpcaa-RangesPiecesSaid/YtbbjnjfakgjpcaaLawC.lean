/- The walk of the law RangesPieces. -/
import Derived.Test.YtbbjnjfakgjpcaaLawA
import Derived.Test.YtbbjnjfakgjpcaaPl4
namespace Go.Proofs.Ytbbjnjfakgjpcaa
open Go.RowKit

theorem RowP.small {l : List Rg} (h : RowP l) : Small l := h.1

set_option maxRecDepth 100000 in
set_option maxHeartbeats 8000000 in
theorem pieces_walk (v v' : Value) (ns sizes : List Int) (w : World) (h : SlI w v ns) (h' : SlI w v' sizes) (hI : I64 ns) (_hI' : I64 sizes) :
    Calls Try.prog 5 #[v, v'] w fun e w' => e = .returned (.bool true) ∧ Below w.heap.size w w' := by
  have rl := rowP_ofS ns
  have hbd := bd_ofS ns
  have HBD := Lib.hid hbd
  obtain ⟨hl66, hln66⟩ := hbd.len rl (by omega)
  have hl0 := (lenR_bounds _ rl.small).1
  clear hbd
  obtain ⟨az, capz, rfl, hcapz, hmz⟩ := Sl.shape h'
  go_enter Try.func5, Try.ntmps5
  go_wp2_with fail
  refine (known_any _).mono ?_
  rintro e w0 ⟨rfl, hb0⟩
  go_wp2_with fail
  refine (of_any _ _ _ (Sl.keep h hb0 (Nat.le_refl _)) hI).mono ?_
  rintro e w1 ⟨va, rfl, hsa, hb1⟩
  have hbw := hb0.trans (hb1.mono hb0.size)
  clear hb0 hb1 h
  generalize ofS ns = l at *
  have HRL := Lib.hid rl
  clear rl
  go_upto_block 0 with fail
  go_cut [6, 7, 8] (fun v6 v7 s8 wx => ∃ (rest back : List Rg) (N : Int), SlR wx v6 rest ∧ SlR wx v7 back ∧ s8 = .int .i64 N ∧ PInv l rest back N ∧ Below w1.heap.size w1 wx)
  case first =>
    go_wp2
    go_loopw [6, 7, 8, 9] (fun v6 v7 s8 ix wr => ∃ (k : Nat) (rest back : List Rg) (N : Int), k ≤ sizes.length ∧ k ≤ 20 ∧ ix = .int .i64 k ∧ SlR wr v6 rest ∧ SlR wr v7 back ∧ s8 = .int .i64 N ∧ PInv l rest back N ∧ Below w1.heap.size w1 wr) (fun _ _ _ ix _ => 20 - (intOf ix).toNat)
    case atStart => exact ⟨0, l, [], 0, Nat.zero_le _, Nat.zero_le _, rfl, hsa, SlR.nil _, rfl, PInv.start HRL.out, Below.refl _ _⟩
    case round =>
      obtain ⟨k, rest, back, N, hk, hk20, rfl, hs6, hs7, rfl, hP, hb⟩ := hrel
      by_cases hgo : k < sizes.length ∧ k < 20
      · obtain ⟨hkn, hk2⟩ := hgo
        obtain ⟨b, off, rfl, hbl, hc⟩ := h'.cell (hbw.trans (hb.mono hbw.size)) (Nat.le_refl _) k hkn
        generalize sizes[k] = a at *
        have q1 := Int.emod_nonneg a (show (9 : Int) ≠ 0 by omega)
        have q2 := Int.emod_lt_of_pos a (show (0 : Int) < 9 by omega)
        obtain ⟨hbr, hbb⟩ := hP.bd HBD.out
        obtain ⟨hr66, hrn66⟩ := hbr.len hP.rr (by omega)
        have hr0 := (lenR_bounds _ hP.rr.small).1
        have hlen := hP.len
        have hN0 := hP.n0
        have hN1 : N ≤ 66 := by omega
        have HP := Lib.hid hP
        have HBR := Lib.hid hbr
        clear hP hlen hbr hbb
        go_wp2_with fail
        refine (within_any _ 9 _ (by omega) (by omega)).mono ?_
        rintro e w2 ⟨rfl, rfl⟩
        generalize a % 9 = s at *
        by_cases hle : s ≤ lenR rest
        · have HS := Lib.hid (HP.out.step q1 hle)
          have HQ := Lib.hid (HP.out.behind q1 hle)
          have HT := Lib.hid (takeS_spec rest s q1 hle HP.out.rr).1
          go_wp2_with fail
          refine (take_ok _ rest s _ hs6 HP.out.rr.small (by omega) q1 hle).mono ?_
          rintro e w3 ⟨v1, v2, rfl, ho1, ho2, _, hb3⟩
          have hs1 : SlR w3 v1 (takeS rest s).1 := sl_of_owns ho1
          have hs2 : SlR w3 v2 (takeS rest s).2 := sl_of_owns ho2
          have hs63 := hs6.keep hb3 (Nat.le_refl _)
          have hs73 := hs7.keep hb3 (Nat.le_refl _)
          have hb13 := hb.trans (hb3.mono hb.size)
          clear ho1 ho2 hb3 hs6 hs7 hb
          generalize (takeS rest s).1 = T at *
          generalize (takeS rest s).2 = R at *
          go_wp2_with fail
          refine (len_any _ rest _ hs63 HP.out.rr.small (by omega)).mono ?_
          rintro e w4 ⟨rfl, hb4⟩
          have hs14 := hs1.keep hb4 (Nat.le_refl _)
          have hs24 := hs2.keep hb4 (Nat.le_refl _)
          have hs74 := hs73.keep hb4 (Nat.le_refl _)
          have hb14 := hb13.trans (hb4.mono hb13.size)
          clear hs1 hs2 hs63 hs73 hb13 hb4
          obtain ⟨aT, capT, rfl, hcapT, hmT⟩ := Sl.shape hs14
          have hlT := HT.out
          have hde : decide (s ≤ lenR rest) = true := by simpa using hle
          go_wp2
          go_loopw [7, 14] (fun v7 jx wr => ∃ j : Nat, j ≤ T.length ∧ jx = .int .i64 j ∧ SlR wr v7 (addAll back (T.take j)) ∧ Below w4.heap.size w4 wr) (fun _ jx _ => T.length - (intOf jx).toNat)
          case atStart => exact ⟨0, Nat.zero_le _, rfl, hs74, Below.refl _ _⟩
          case round =>
            obtain ⟨j, hj, rfl, hs7, hb5⟩ := hrel
            have hPs := HS.out
            have hbB : Bd 66 (addAll back (T.take j)) := fun n hn => by
              rw [memR_addAll HP.out.rb (fun r hr => HT.out.ok r (List.mem_of_mem_take hr))] at hn
              refine (hPs.bd HBD.out).2 n ?_
              rw [memR_addAll HP.out.rb HT.out.ok]
              rcases hn with hn | ⟨r, hr, h1, h2⟩
              · exact .inl hn
              · exact .inr ⟨r, List.mem_of_mem_take hr, h1, h2⟩
            have hrB : RowP (addAll back (T.take j)) := rowP_addAll HP.out.rb (fun r hr => HT.out.ok r (List.mem_of_mem_take hr))
            obtain ⟨_, hlB⟩ := hbB.len hrB (by omega)
            clear hPs hbB
            rcases Nat.lt_or_ge j T.length with hltj | hgej
            · obtain ⟨b1, off1, rfl, hbl1, hc1, hc2⟩ := hs14.pair hb5 (Nat.le_refl _) j hltj
              have HQj : Hid (∀ r ∈ addAll back (T.take j), r.2 ≤ T[j].1) := fun r hr => last_le hrB _ (HQ.out j hltj) hr
              have HA : Hid (addAll back (T.take (j + 1)) = addS (addAll back (T.take j)) T[j]) := by show _ = _; rw [take_snoc T j hltj, addAll_snoc]
              generalize T[j] = r at *
              obtain ⟨x, y⟩ := r
              simp only at hc1 hc2
              clear hrB
              generalize addAll back (T.take j) = B at *
              obtain ⟨aB, capB, rfl, hcapB, hmB⟩ := Sl.shape hs7
              obtain ⟨nB, hnB⟩ : ∃ n, B.length = n := ⟨_, rfl⟩
              have HnB := Lib.hid hnB
              rw [hnB] at hs7 hcapB hlB ⊢
              clear hnB
              cases nB with
              | zero =>
                have hs7' : SlR wr (.slice aB 0 capB) B := hs7
                go_wp2
                go_quiet (fail)
                go_wp2_with fail
                refine (add_any _ B x y _ (hs7'.keep (below_drewN (Below.refl wr.heap.size wr) _) (Nat.le_refl _)) (by rw [HnB.out]; omega)).mono ?_
                rintro e w6 ⟨v6, rfl, ho6, hb6⟩
                have hs66 : SlR w6 v6 (addS B (x, y)) := sl_of_owns ho6
                have hb56 := (below_drewN hb5 _).trans (hb6.mono (by simpa using hb5.size))
                clear ho6 hb6
                go_wp2
                go_roundw
                case rel => exact ⟨j + 1, by omega, by go_num, by rw [HA.out]; exact hs66, hb56⟩
                case measure => simp [intOf]; omega
              | succ c =>
                have hs7' : SlR wr (.slice aB B.length capB) B := by rw [HnB.out]; exact hs7
                obtain ⟨b2, off2, rfl, hbl2, hd1, hd2⟩ := hs7'.pair (Below.refl wr.heap.size wr) (Nat.le_refl _) c (by rw [HnB.out]; omega)
                have hlast : B[c]'(by rw [HnB.out]; omega) ∈ B := List.getElem_mem _
                have hq2 := HQj.out _ hlast
                generalize B[c]'(by rw [HnB.out]; omega) = r2 at *
                obtain ⟨x2, y2⟩ := r2
                simp only at hd1 hd2 hq2
                have dq : decide (x < y2) = false := by simpa using hq2
                clear hlast hs7'
                go_wp2
                go_quiet (fail)
                go_wp2_with fail
                refine (add_any _ B x y _ (hs7.keep (below_drewN (Below.refl wr.heap.size wr) _) (Nat.le_refl _)) (by rw [HnB.out]; omega)).mono ?_
                rintro e w6 ⟨v6, rfl, ho6, hb6⟩
                have hs66 : SlR w6 v6 (addS B (x, y)) := sl_of_owns ho6
                have hb56 := (below_drewN hb5 _).trans (hb6.mono (by simpa using hb5.size))
                clear ho6 hb6
                go_wp2
                go_roundw
                case rel => exact ⟨j + 1, by omega, by go_num, by rw [HA.out]; exact hs66, hb56⟩
                case measure => simp [intOf]; omega
            · rw [List.take_of_length_le hgej] at hs7
              have hs25 := hs24.keep hb5 (Nat.le_refl _)
              have hb15 := hb14.trans (hb5.mono hb14.size)
              go_wp2
              go_roundw
              case rel => exact ⟨k + 1, R, addAll back T, N + s, by omega, by omega, by go_num, hs25, hs7, rfl, HS.out, hb15⟩
              case measure => simp [intOf]; omega
        · have hgt : lenR rest < s := by omega
          go_wp2_with fail
          refine (take_rights _ rest s _ hs6 HP.out.rr.small (by omega) hgt).mono ?_
          rintro e w3 ⟨rfl, hb3⟩
          have hs63 := hs6.keep hb3 (Nat.le_refl _)
          have hs73 := hs7.keep hb3 (Nat.le_refl _)
          have hb13 := hb.trans (hb3.mono hb.size)
          clear hb3 hs6 hs7 hb
          go_wp2_with fail
          refine (len_any _ rest _ hs63 HP.out.rr.small (by omega)).mono ?_
          rintro e w4 ⟨rfl, hb4⟩
          have hs64 := hs63.keep hb4 (Nat.le_refl _)
          have hs74 := hs73.keep hb4 (Nat.le_refl _)
          have hb14 := hb13.trans (hb4.mono hb13.size)
          clear hs63 hs73 hb13 hb4 hle
          have hde : decide (s ≤ lenR rest) = false := by simpa using hgt
          go_wp2
          go_roundw
          case rel => exact ⟨k + 1, rest, back, N, by omega, by omega, by go_num, hs64, hs74, rfl, HP.out, hb14⟩
          case measure => simp [intOf]; omega
      · rcases Nat.lt_or_ge k sizes.length with h1 | h1
        · have d1 : decide ((k : Int) < 20) = false := by simp; omega
          clear hgo
          go_wp2
          go_meet
          exact ⟨rest, back, N, hs6, hs7, rfl, hP, hb⟩
        · have d1 : decide (k < sizes.length) = false := by simp; omega
          clear hgo
          go_wp2
          go_meet
          exact ⟨rest, back, N, hs6, hs7, rfl, hP, hb⟩
  case rest =>
  obtain ⟨rest, back, N, hs6, hs7, rfl, hP, hb⟩ := hcut
  obtain ⟨hbr, hbb⟩ := hP.bd HBD.out
  obtain ⟨hr66, hrn66⟩ := hbr.len hP.rr (by omega)
  obtain ⟨_, hbn66⟩ := hbb.len hP.rb (by omega)
  have hr0 := (lenR_bounds _ hP.rr.small).1
  have hlen := hP.len
  have hN0 := hP.n0
  have HP := Lib.hid hP
  have HLN := Lib.hid hlen
  have hN1 : N ≤ 66 := by omega
  have HAll := Lib.hid (hP.all HRL.out)
  have hsac := hsa.keep hb (Nat.le_refl _)
  have hbwc := hbw.trans (hb.mono hbw.size)
  clear hP hlen hbr hbb hsa hb hbw h'
  obtain ⟨ar, capr, rfl, hcapr, hmr⟩ := Sl.shape hs6
  go_upto_block 4 with fail
  go_cut [7, 15] (fun v7 _ wx => SlR wx v7 l ∧ Below wc.heap.size wc wx)
  case first =>
    go_wp2
    go_loopw [7, 15] (fun v7 jx wr => ∃ j : Nat, j ≤ rest.length ∧ jx = .int .i64 j ∧ SlR wr v7 (addAll back (rest.take j)) ∧ Below wc.heap.size wc wr) (fun _ jx _ => rest.length - (intOf jx).toNat)
    case atStart => exact ⟨0, Nat.zero_le _, rfl, hs7, Below.refl _ _⟩
    case round =>
      obtain ⟨j, hj, rfl, hs8, hb5⟩ := hrel
      have hll := length_addAll (rest.take j) back
      have hlt := List.length_take_le j rest
      rcases Nat.lt_or_ge j rest.length with hltj | hgej
      · obtain ⟨b1, off1, hao, hbl1, hc1, hc2⟩ := hs6.pair hb5 (Nat.le_refl _) j hltj
        cases hao
        have HA : Hid (addAll back (rest.take (j + 1)) = addS (addAll back (rest.take j)) rest[j]) := by show _ = _; rw [take_snoc rest j hltj, addAll_snoc]
        generalize rest[j] = r at *
        obtain ⟨x, y⟩ := r
        simp only at hc1 hc2
        generalize addAll back (rest.take j) = B at *
        have hB : B.length < 1000000 := by omega
        go_wp2_with fail
        refine (add_any _ B x y _ hs8 hB).mono ?_
        rintro e w6 ⟨v6, rfl, ho6, hb6⟩
        have hs66 : SlR w6 v6 (addS B (x, y)) := sl_of_owns ho6
        have hb56 := hb5.trans (hb6.mono hb5.size)
        clear ho6 hb6
        go_wp2
        go_roundw
        case rel => exact ⟨j + 1, by omega, by go_num, by rw [HA.out]; exact hs66, hb56⟩
        case measure => simp [intOf]; omega
      · rw [List.take_of_length_le hgej, HAll.out] at hs8
        go_wp2
        go_meet
        exact ⟨hs8, hb5⟩
  case rest =>
  obtain ⟨hs8, hb8⟩ := hcut
  have hs68 := hs6.keep hb8 (Nat.le_refl _)
  have hsa8 := hsac.keep hb8 (Nat.le_refl _)
  have hb9 := hbwc.trans (hb8.mono hbwc.size)
  clear hs6 hs7 hsac hb8 hbwc
  go_wp2_with fail
  refine (same_yes _ _ _ _ _ hs8 hsa8 rfl).mono ?_
  rintro e w5 ⟨rfl, hb5⟩
  have hs69 := hs68.keep hb5 (Nat.le_refl _)
  have hsa9 := hsa8.keep hb5 (Nat.le_refl _)
  have hb10 := hb9.trans (hb5.mono hb9.size)
  clear hs68 hsa8 hb9 hb5 hs8
  go_wp2_with fail
  refine (len_any _ rest _ hs69 HP.out.rr.small (by omega)).mono ?_
  rintro e w6 ⟨rfl, hb6⟩
  have hsa10 := hsa9.keep hb6 (Nat.le_refl _)
  have hb11 := hb10.trans (hb6.mono hb10.size)
  clear hs69 hsa9 hb10 hb6
  go_wp2_with fail
  refine (len_any _ l _ hsa10 HRL.out.small (by omega)).mono ?_
  rintro e w7 ⟨rfl, hb7⟩
  have hb12 := hb11.trans (hb7.mono hb11.size)
  have hq : (lenR rest == lenR l - N) = true := by rw [beq_iff_eq]; exact HLN.out
  clear hsa10 hb11 hb7
  go_wp2
  go_ret
  exact ⟨rfl, hb12⟩

end Go.Proofs.Ytbbjnjfakgjpcaa
