/- The walk of apart. -/
import Derived.Test.YtckonmlcgfbojaaLSc
import Derived.Test.YtckonmlcgfbojaaLCl
namespace Go.Proofs.Ytckonmlcgfbojaa
open Go.RowKit

def hits (acc : List Rg) (r : Rg) : Bool := acc.any (fun x => decide (x.1 < r.2) && decide (r.1 < x.2))
/-- Is no number in two rows? -/
def apGo : List Rg → List (List Rg) → Bool
  | _, [] => true
  | acc, l :: t => if l.any (hits acc) then false else apGo (acc ++ l) t

theorem apGo_hit {acc : List Rg} {rows : List (List Rg)} {k j : Nat} (hk : k < rows.length) (hj : j < rows[k].length) (h : hits acc rows[k][j] = true) : apGo acc (rows.drop k) = false := by
  rw [List.drop_eq_getElem_cons hk, apGo, if_pos]
  rw [List.any_eq_true]; exact ⟨_, List.getElem_mem hj, h⟩
theorem apGo_step {acc : List Rg} {rows : List (List Rg)} {k : Nat} (hk : k < rows.length) (h : AllTo (fun _ r => !hits acc r) rows[k] rows[k].length) : apGo acc (rows.drop k) = apGo (acc ++ rows[k]) (rows.drop (k + 1)) := by
  rw [List.drop_eq_getElem_cons hk, apGo, if_neg]
  rw [List.any_eq_true]
  rintro ⟨r, hr, hh⟩
  obtain ⟨j, hj, rfl⟩ := List.getElem_of_mem hr
  have : (!hits acc rows[k][j]) = true := h j hj hj
  rw [hh] at this
  cases this
theorem apGo_end {acc : List Rg} {rows : List (List Rg)} {k : Nat} (hk : rows.length ≤ k) : apGo acc (rows.drop k) = true := by
  rw [List.drop_of_length_le hk, apGo]

theorem flat_le (rows : List (List Rg)) (k : Nat) : (rows.take k).flatten.length ≤ rows.flatten.length := by
  conv => rhs; rw [← List.take_append_drop k rows, List.flatten_append, List.length_append]
  omega
theorem flat_snoc (rows : List (List Rg)) (k : Nat) (hk : k < rows.length) : (rows.take (k + 1)).flatten = (rows.take k).flatten ++ rows[k] := by
  rw [take_snoc rows k hk, List.flatten_append]; simp

/-- v reads as rows of rows. -/
def SlRs (w : World) (v : Value) (rows : List (List Rg)) : Prop := ∃ ss : List Sv, SlT cSv 1 w v ss ∧ All2 (fun s l => SlR w s.v l) ss rows
theorem SlRs.keep {w w' : World} {v : Value} {l : List (List Rg)} {B : Nat} (h : SlRs w v l) (hb : Below B w w') (hB : w.heap.size ≤ B) : SlRs w' v l := by
  obtain ⟨ss, h1, h2⟩ := h
  exact ⟨ss, SlT.keep h1 hb hB, h2.imp (fun _ _ r => SlR.keep r hb hB)⟩

set_option maxRecDepth 100000 in
set_option maxHeartbeats 4000000 in
theorem apart_any (v : Value) (rows : List (List Rg)) (w : World) (h : SlRs w v rows) (hlen : rows.flatten.length < 1000000) :
    Calls Try.prog 65 #[v] w fun e w' => e = .returned (.bool (apGo [] rows)) ∧ Below w.heap.size w w' := by
  obtain ⟨ss, hs, hss⟩ := h
  obtain ⟨ao, cap, rfl, hcap, hm⟩ := Sl.shape hs
  have HLEN := Lib.hid hss.len
  have HSS := Lib.hid hss
  clear hss
  go_enter Try.func65, Try.ntmps65
  go_wp2
  go_loopw [3, 10] (fun v3 v10 wr => ∃ (k : Nat) (acc : List Rg), k ≤ ss.length ∧ v10 = .int .i64 k ∧ acc = (rows.take k).flatten ∧ apGo [] rows = apGo acc (rows.drop k) ∧ wr.ownsRow w.heap.size 78 2 v3 acc.length (cellsR acc) ∧ Below w.heap.size w wr) (fun _ v10 _ => ss.length - (intOf v10).toNat)
  case atStart => exact ⟨0, [], Nat.zero_le _, rfl, by simp, rfl, World.ownsRow_nil _ _ _ _, Below.refl _ _⟩
  case round =>
    obtain ⟨k, acc, hk, rfl, hacc, hgo, hrow, hb⟩ := hrel
    have hal : acc.length < 1000000 := by rw [hacc]; exact Nat.lt_of_le_of_lt (flat_le _ _) hlen
    have HACC := Lib.hid hacc
    have HGO := Lib.hid hgo
    clear hacc hgo
    rcases Nat.lt_or_ge k ss.length with hlt | hge
    · have hlt2 : k < rows.length := by rw [← HLEN.out]; exact hlt
      obtain ⟨b, off, rfl, hbl, c0⟩ := SlT.sv hs hb (Nat.le_refl _) k hlt
      have klt : (k : Int) < ss.length := by omega
      have hrk := SlR.keep (All2.at HSS.out k hlt hlt2) hb (Nat.le_refl _)
      have HHIT := Lib.hid (fun j hj => apGo_hit (acc := acc) (k := k) (j := j) hlt2 hj)
      have HSTEP := Lib.hid (apGo_step (acc := acc) hlt2)
      have HFL := Lib.hid (flat_snoc rows k hlt2)
      have hrl : rows[k].length < 1000000 := by
        have := flat_le rows (k + 1); rw [flat_snoc rows k hlt2, List.length_append] at this; omega
      generalize rows[k] = l at *
      generalize ss[k] = s at *
      obtain ⟨s1, s2, s3⟩ := s
      simp only [Sv.v] at c0 hrk
      obtain ⟨hsn, hscap, hsmax⟩ := Sl.lens (s := ⟨s1, s2, s3⟩) hrk
      simp only at hsn hscap hsmax
      subst hsn
      obtain ⟨ao3, cap3, rfl, _, _⟩ := owns_shape hrow
      obtain ⟨W, hW⟩ : ∃ W, W = wr := ⟨_, rfl⟩
      subst hW
      have HROW := Lib.hid hrow
      have HB := Lib.hid hb
      have HRK := Lib.hid hrk
      go_wp2
      go_loopw [16] (fun v16 wr => ∃ (j : Nat), j ≤ l.length ∧ v16 = .int .i64 j ∧ AllTo (fun _ r => !hits acc r) l j ∧ Below W.heap.size W wr) (fun v16 _ => l.length - (intOf v16).toNat)
      case atStart => exact ⟨0, Nat.zero_le _, rfl, allTo_zero _ _, Below.refl _ _⟩
      case round =>
        obtain ⟨j, hj, rfl, hA, hb2⟩ := hrel
        have HA := Lib.hid hA
        clear hA c0 hrow hb
        have hz2 := hb2.size
        have hz1 := HB.out.size
        rcases Nat.lt_or_ge j l.length with hjl | hjg
        · obtain ⟨b2, off2, rfl, hbl2, e0, e1⟩ := SlR.pair hrk hb2 (Nat.le_refl _) j hjl
          have jlt : (j : Int) < l.length := by omega
          have HYES : Hid (hits acc l[j] = false → AllTo (fun _ r => !hits acc r) l (j + 1)) := Lib.hid (fun h => AllTo.step HA.out hjl (by show (!hits acc l[j]) = true; rw [h]; rfl))
          have HNO := Lib.hid (HHIT.out j hjl)
          have HOK : Hid (hits acc l[j] = acc.any (fun x => decide (x.1 < l[j].2) && decide (l[j].1 < x.2))) := rfl
          generalize hits acc l[j] = q at *
          generalize l[j] = r at *
          obtain ⟨p1, p2⟩ := r
          simp only at e0 e1
          have hbA : Below W.heap.size W (wr.alloc (.cells #[.int .i64 p1, .int .i64 p2] 78)) := hb2.alloc hz2 _
          have hn := heap_alloc_new wr (.cells #[.int .i64 p1, .int .i64 p2] 78)
          have HRA := Lib.hid (sl_of_owns (owns_keep HROW.out hbA (Nat.le_refl _)))
          obtain ⟨n0, n1, _⟩ := two_cells hn
          have HN0 := Lib.hid n0
          have HN1 := Lib.hid n1
          have HBA := Lib.hid hbA
          clear hn n0 n1 hbA
          go_wp2_with fail
          generalize wr.alloc (.cells #[.int .i64 p1, .int .i64 p2] 78) = w7 at *
          refine (hasRg_any _ acc _ _ _ _ HRA.out (asksAp1 HN0.out HN1.out acc)).mono ?_
          rintro e w8 ⟨rfl, hb8⟩
          have e2 : (acc.any fun x => decide (x.1 < p2) && decide (p1 < x.2)) = q := HOK.out.symm
          rw [e2]
          have HB8 := Lib.hid (HBA.out.trans (hb8.mono HBA.out.size))
          clear HOK e2 hb8 HRA HN0 HN1 HBA e0 e1
          cases q with
          | true =>
            go_wp2
            go_ret
            exact ⟨ret_bool (by rw [HGO.out, HNO.out (by first | rfl | trivial)]), HB.out.trans (HB8.out.mono hz1)⟩
          | false =>
            go_wp2
            go_roundw
            case rel => exact ⟨j + 1, by omega, by go_num, HYES.out (by first | rfl | trivial), HB8.out⟩
            case measure => simp [intOf]; omega
        · have hje : j = l.length := by omega
          subst hje
          have HST2 := Lib.hid (HSTEP.out HA.out)
          have hrow2 := owns_keep HROW.out hb2 (Nat.le_refl _)
          have hrd2 := (SlR.keep HRK.out hb2 (Nat.le_refl _)).rd
          have hbw := HB.out.trans (hb2.mono hz1)
          clear HSTEP HHIT
          go_wp2_with ((with_reducible refine at_slot 26 ?_); refine append_Rr rfl _ _ rfl w.heap.size _ acc.length acc rfl hrow2 s1 l.length s3 l rfl rfl hrd2 (by omega) (by omega) ?_; intro v6 w6 ho6 hg6 hat6)
          have hb6 := hbw.grown hg6 (by omega) (fun g hg => by have := owns_ge HROW.out g hg; omega)
          rw [← List.length_append] at ho6
          go_roundw
          case rel => exact ⟨k + 1, acc ++ l, by omega, by go_num, by rw [HFL.out, HACC.out], by rw [HGO.out, HST2.out], ho6, hb6⟩
          case measure => simp [intOf]; omega
    · go_wp2
      go_ret
      exact ⟨ret_bool (by rw [HGO.out, apGo_end (by rw [← HLEN.out]; exact hge)]), hb⟩

end Go.Proofs.Ytckonmlcgfbojaa
