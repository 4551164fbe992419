/- The walk of the law RangesEach. -/
import Derived.Test.YtbbjnjfakgjpcaaLawA
import Derived.Test.YtbbjnjfakgjpcaaPl5
namespace Go.Proofs.Ytbbjnjfakgjpcaa
open Go.RowKit

set_option maxRecDepth 100000 in
set_option maxHeartbeats 8000000 in
theorem each_walk (v : Value) (ns : List Int) (w : World) (h : SlI w v ns) (hI : I64 ns) :
    Calls Try.prog 7 #[v] w fun e w' => e = .returned (.bool true) ∧ Below w.heap.size w w' := by
  have rl := rowP_ofS ns
  have hbd := bd_ofS ns
  obtain ⟨hl66, hln66⟩ := hbd.len rl (by omega)
  have hl0 := (lenR_bounds _ rl.1).1
  have HBD := Lib.hid hbd
  clear hbd
  go_enter Try.func7, Try.ntmps7
  go_wp2_with fail
  refine (known_any _).mono ?_
  rintro e w0 ⟨rfl, hb0⟩
  go_wp2_with fail
  refine (of_any _ _ _ (Sl.keep h hb0 (Nat.le_refl _)) hI).mono ?_
  rintro e w1 ⟨va, rfl, hsa, hb1⟩
  have hbw := hb0.trans (hb1.mono hb0.size)
  clear hb0 hb1 h
  generalize ofS ns = l at *
  have HRL := Lib.hid rl
  go_wp2_with fail
  refine (len_any _ l _ hsa rl.1 (by omega)).mono ?_
  rintro e w2 ⟨rfl, hb2⟩
  have hsa2 := hsa.keep hb2 (Nat.le_refl _)
  have hbw2 := hbw.trans (hb2.mono hbw.size)
  clear hb2 hbw hsa rl
  obtain ⟨n, hn⟩ : ∃ n : Nat, lenR l = n := ⟨(lenR l).toNat, by omega⟩
  rw [hn]
  have HN := Lib.hid hn
  have hn66 : n ≤ 66 := by omega
  clear hn hl66 hl0
  go_upto_block 0 with fail
  go_cut [5, 6] (fun v5 v6 wx => SlR wx v5 [] ∧ SlR wx v6 [] ∧ Below w2.heap.size w2 wx)
  case first =>
    go_wp2
    go_loopw [5, 6, 7, 8] (fun v5 v6 s7 ix wr => ∃ (k : Nat) (A : List Rg) (last : Int), k ≤ n ∧ ix = .int .i64 k ∧ SlR wr v5 A ∧ SlR wr v6 A ∧ s7 = .int .i64 last ∧ -1 ≤ last ∧ last ≤ 1000 ∧ RowP A ∧ Bd 66 A ∧ lenR A = (n : Int) - k ∧ (∀ x, memR A x → last < x) ∧ Below w2.heap.size w2 wr) (fun _ _ _ ix _ => n - (intOf ix).toNat)
    case atStart => exact ⟨0, l, -1, Nat.zero_le _, rfl, hsa2, hsa2, rfl, by omega, by omega, HRL.out, HBD.out, by rw [HN.out]; simp, fun x hx => by obtain ⟨r, hr, h1, _⟩ := hx; have := (HRL.out.1 r hr).1; omega, Below.refl _ _⟩
    case round =>
      obtain ⟨k, A, last, hk, rfl, hs5, hs6, rfl, hl1, hl2, hrow, hbA, hlen, hgt, hb⟩ := hrel
      rcases Nat.lt_or_ge k n with hlt | hge
      · cases A with
        | nil => simp only [lenR] at hlen; omega
        | cons r A =>
          have HT := Lib.hid (take_one r A hrow)
          have HH := Lib.hid (has_first r A hrow)
          have HL := Lib.hid (len_rest r A hrow)
          have HG := Lib.hid (rest_gt r A hrow)
          have HS := Lib.hid (lessS_spec (r :: A) r.1 hrow)
          obtain ⟨h66, hl66⟩ := hbA.len hrow (by omega)
          have hr := ((rowP_cons r A).1 hrow).1
          have hlr := hgt r.1 ((memR_cons r A r.1).2 (.inl ⟨Int.le_refl _, hr.2.1⟩))
          have hr66 : r.1 < 66 := hbA r.1 ((memR_cons r A r.1).2 (.inl ⟨Int.le_refl _, hr.2.1⟩))
          have HR := Lib.hid hrow
          have HB := Lib.hid hbA
          have HLE := Lib.hid hlen
          have h1le : 1 ≤ lenR (r :: A) := by omega
          have hsml := Lib.hid hrow.1
          clear hgt hrow hbA hlen
          obtain ⟨p, q⟩ := r
          simp only at hr hlr hr66
          obtain ⟨hr1, hr2, hr3⟩ := hr
          have d1 : decide (p ≤ last) = false := by simp; omega
          go_wp2_with fail
          refine (take_ok _ _ 1 _ hs5 hsml.out (by omega) (by omega) h1le).mono ?_
          rintro e w3 ⟨v1, v2, rfl, ho1, ho2, _, hb3⟩
          rw [HT.out] at ho1 ho2
          have hs1 : SlR w3 v1 [(p, p + 1)] := sl_of_owns ho1
          have hs2 : SlR w3 v2 (lessS ((p, q) :: A) p) := sl_of_owns ho2
          have hs63 := hs6.keep hb3 (Nat.le_refl _)
          have hb13 := hb.trans (hb3.mono hb.size)
          clear ho1 ho2 hb3 hs5 hs6 hb
          obtain ⟨aT, capT, rfl, hcapT, hmT⟩ := Sl.shape hs1
          obtain ⟨b9, off9, rfl, hb9, hc1, hc2⟩ := hs1.pair (Below.refl w3.heap.size w3) (Nat.le_refl _) 0 (by simp)
          simp only [List.getElem_cons_zero, Nat.zero_mul, Nat.add_zero] at hc1 hc2
          simp only [List.length_cons, List.length_nil, Nat.zero_add] at hcapT ⊢
          clear hs1
          go_wp2
          go_quiet (fail)
          go_wp2_with fail
          refine (less_yes _ _ p _ (hs63.keep (below_drewN (Below.refl w3.heap.size w3) _) (Nat.le_refl _)) hsml.out (by omega) HH.out (by omega) (by omega)).mono ?_
          rintro e w4 ⟨v4, rfl, ho4, hb4⟩
          have hs4 : SlR w4 v4 (lessS ((p, q) :: A) p) := sl_of_owns ho4
          have hs24 := (hs2.keep (below_drewN (Below.refl w3.heap.size w3) _) (Nat.le_refl _)).keep hb4 (Nat.le_refl _)
          have hb14 := (below_drewN hb13 _).trans (hb4.mono (by simpa using hb13.size))
          clear ho4 hb4 hb13 hs2 hs63 hc1 hc2
          go_wp2_with fail
          refine (same_yes _ _ _ _ _ hs4 hs24 rfl).mono ?_
          rintro e w5 ⟨rfl, hb5⟩
          have hs45 := hs4.keep hb5 (Nat.le_refl _)
          have hs25 := hs24.keep hb5 (Nat.le_refl _)
          have hb15 := hb14.trans (hb5.mono hb14.size)
          clear hb5 hs4 hs24 hb14
          go_wp2
          go_roundw
          case rel => exact ⟨k + 1, _, p, by omega, by go_num, hs25, hs45, rfl, by omega, by omega, HS.out.1, fun x hx => HB.out x (((HS.out.2.1 x).1 hx).1), by rw [HL.out, HLE.out]; omega, HG.out, hb15⟩
          case measure => simp [intOf]; omega
      · have hA : A = [] := rowP_len_zero hrow (by omega)
        subst hA
        clear hgt hrow hbA hlen
        go_wp2
        go_meet
        exact ⟨hs5, hs6, hb⟩
  case rest =>
  obtain ⟨hs5, hs6, hb⟩ := hcut
  go_wp2_with fail
  refine (take_rights _ [] 1 _ hs5 (by simp [Small]) (by simp) (by simp [lenR])).mono ?_
  rintro e w6 ⟨rfl, hb6⟩
  have hs56 := hs5.keep hb6 (Nat.le_refl _)
  have hs66 := hs6.keep hb6 (Nat.le_refl _)
  have hb7 := hbw2.trans ((hb.trans (hb6.mono hb.size)).mono hbw2.size)
  obtain ⟨a5, cap5, rfl, _, _⟩ := Sl.shape hs56
  obtain ⟨a6, cap6, rfl, _, _⟩ := Sl.shape hs66
  clear hs5 hs6 hb hb6 hbw2 hs56 hs66
  go_wp2
  go_ret
  exact ⟨rfl, hb7⟩

end Go.Proofs.Ytbbjnjfakgjpcaa
