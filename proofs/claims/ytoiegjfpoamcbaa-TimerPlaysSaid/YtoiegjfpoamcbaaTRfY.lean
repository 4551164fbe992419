/- The walk of the reference's Due. -/
import Derived.Test.YtoiegjfpoamcbaaTRfW
namespace Go.Proofs.Ytoiegjfpoamcbaa
open Go.RowKit

theorem Rf.rowLen {w : World} {B T : Nat} {v : Value} {M : List Rw} (h : Rf w B T v M) : rowLen w T = M.length := by
  obtain ⟨ao, cap, rfl, _, _⟩ := h.row.shape
  unfold Proofs.Ytoiegjfpoamcbaa.rowLen
  rw [h.cell.1]

set_option maxRecDepth 100000 in
set_option maxHeartbeats 8000000 in
theorem rdue_any (w : World) (B T : Nat) (v : Value) (M : List Rw) (now : Int) (h : Rf w B T v M) (hl : M.length < 1000) :
    Calls Try.prog 14 #[.pointer (some ⟨T, 0, none⟩), .int .i64 now] w fun e w' => ∃ vo v', e = .returned vo ∧ w'.ownsRow w.heap.size 3 1 vo (dueW M now).1.length (cellsI (dueW M now).1) ∧ Rf w' B T v' (dueW M now).2 ∧ Mv T w v w' v' := by
  have hTw := h.lt
  have hvb : ∀ g, v.ownBlock = some g → g < w.heap.size := fun g hg => (h.at_ g hg).2.1
  have HVB := Lib.hid hvb
  clear hvb
  go_enter Try.func14, Try.ntmps14
  go_upto_block 0 with fail
  go_cut [5] (fun vo wx => ∃ v', wx.ownsRow w.heap.size 3 1 vo (dueW M now).1.length (cellsI (dueW M now).1) ∧ Rf wx B T v' (dueW M now).2 ∧ Mv T w v wx v')
  case first =>
    go_wp2
    go_loopw [5] (fun vo wr => ∃ (v2 : Value) (M2 : List Rw) (done : List Int), wr.ownsRow w.heap.size 3 1 vo done.length (cellsI done) ∧ Rf wr B T v2 M2 ∧ Mv T w v wr v2 ∧ dueW M now = (done ++ (dueW M2 now).1, (dueW M2 now).2) ∧ v2.ownBlock = v.ownBlock ∧ done.length + M2.length = M.length) (fun _ wr => rowLen wr T)
    case atStart => exact ⟨v, M, [], World.ownsRow_nil _ _ _ _, h, Mv.refl _ _ _, rfl, rfl, by simp⟩
    case round =>
      clear h
      obtain ⟨v2, M2, done, ho, hr, hm, hd, hvb, hcnt⟩ := hrel
      have HD := Lib.hid hd
      have HV2 := Lib.hid hvb
      have HR := Lib.hid hr
      have HO := Lib.hid ho
      have hz := hm.size
      have hdl : done.length < 1000 := by omega
      have HCN := Lib.hid hcnt
      obtain ⟨c, cf⟩ := hr.cell
      clear hd hvb hcnt
      cases M2 with
      | nil =>
        obtain ⟨ao, cap, rfl, _, _⟩ := hr.row.shape
        have HF : Hid (dueW M now = (done, [])) := by show _ = _; rw [HD.out]; simp [dueW]
        simp only [List.length_nil] at c
        clear hr
        go_wp2
        go_meet
        exact ⟨_, by rw [HF.out]; exact HO.out, by rw [HF.out]; exact HR.out, hm⟩
      | cons r M3 =>
        obtain ⟨g, off, cap, rfl, hcap, hmx, hg, hgT, a1, a2⟩ := hr.two 0 (by simp)
        simp only [Nat.zero_mul, Nat.add_zero, List.getElem_cons_zero] at a1 a2
        simp only [List.length_cons] at c hcap
        obtain ⟨r1, r2⟩ := r
        simp only at a1 a2
        have hp1 : (0 : Int) < (M3.length : Int) + 1 := by omega
        have hp2 : 0 < M3.length + 1 := by omega
        have hrow : Sl wr 2 (.slice (some ⟨g, off, none⟩) (M3.length + 1) cap) (M3.length + 1) (cellsW ((r1, r2) :: M3)) := hr.row
        by_cases hdue : now < r2
        · have d1 : decide (r2 ≤ now) = false := by simp; omega
          have HF : Hid (dueW M now = (done, (r1, r2) :: M3)) := by show _ = _; rw [HD.out, dueW, if_neg (by simp only; omega)]; simp
          clear hr hdue hrow
          go_wp2
          go_meet
          exact ⟨_, by rw [HF.out]; exact HO.out, by rw [HF.out]; exact HR.out, hm⟩
        · have d1 : decide (r2 ≤ now) = true := by simp; omega
          have HDD : Hid (dueW M now = ((done ++ [r1]) ++ (dueW M3 now).1, (dueW M3 now).2)) := by
            show _ = _
            rw [HD.out, dueW, if_pos (by simp only; omega)]; simp
          have hbA : Below wr.heap.size wr (wr.alloc (.cells #[.int .i64 r1] 3)) := (Below.refl _ _).alloc (Nat.le_refl _) _
          have hgv : g < w.heap.size := HVB.out g (by rw [← HV2.out]; rfl)
          obtain ⟨i, hi, hz0, hz1, hz2⟩ := info_parts Try.infoW2
          have HZ := Lib.hid hz1
          have HINF := Lib.hid hi
          clear hi hz0 hz1 hz2 hdue
          go_wp2_with (first
            | ((with_reducible refine at_slot 32 ?_); refine append_I (o := ⟨some 32, _, _, _, _, _⟩) rfl _ _ rfl w.heap.size _ done.length done rfl (ho.alloc _) _ _ r1 rfl (cells_one_at _ _ _ _ (by first | rfl | simp)) (by omega) (by simp; omega) ?_; intro v3 w3 ho3 hg3 hat3; have hr3 := (HR.out.keep hbA).grown hg3 (fun e => by have := (HO.out.lt _ e).1; omega) (fun q hq e => by have := (HO.out.lt _ e).1; injection hq with hq; simp only at hq; omega); obtain ⟨c3, f3⟩ := hr3.cell; have rd3 := hr3.row.rd; have hm3 : Mv T w v w3 (.slice (some ⟨g, off, none⟩) (M3.length + 1) cap) := (hm.trans (Mv.of_below hbA)).grown hg3 (fun q hq => (HO.out.lt q hq).1))
            | ((with_reducible refine at_slot 38 ?_); refine wpList_slice_from_at (o := ⟨some 38, _, _, _, _, _⟩) rfl _ _ _ rfl 55 i 2 Try.underlying42 HINF.out HZ.out _ (M3.length + 1) cap 1 (cellsW ((r1, r2) :: M3)) rfl rfl (by omega) (by omega) rd3 (by rw [length_cellsW]; rfl) ?_; intro ao' rd' hat'))
          have hab : (Value.slice ao' (M3.length + 1 - 1) (cap - 1)).ownBlock = some g := by
            rcases hat' with rfl | rfl
            · rfl
            · rw [Option.map_some, Addr.add_lit]; rfl
          have hsl : Sl w3 2 (.slice ao' (M3.length + 1 - 1) (cap - 1)) M3.length (cellsW M3) :=
            Sl.of_rd (length_cellsW M3) (by omega) (by unfold maxLen; omega) (by rcases hat' with rfl | rfl; exact ⟨_, _, rfl⟩; rw [Option.map_some, Addr.add_lit]; exact ⟨_, _, rfl⟩) (by simpa [cellsW_cons] using rd')
          obtain ⟨p1, p2⟩ := hr3.put (Below.refl _ _) hsl (fun q hq => .inl (by rw [hab] at hq; exact hq))
          simp only [Nat.add_sub_cancel] at hab p1 p2
          have hg1 := fun q hq => (ho3.lt q hq)
          go_roundw
          case rel =>
            refine ⟨_, M3, done ++ [r1], ?_, p1, hm3.trans p2, HDD.out, ?_, by have := HCN.out; simp at this ⊢; omega⟩
            · have := owns_mv ho3 p2 (fun e => by have := (hg1 _ e).1; omega) (fun q hq e => by have := (hg1 q hq).1; injection e with e; simp only at e; omega)
              simpa using this
            · rw [← HV2.out]; exact hab
          case measure => rw [p1.rowLen, HR.out.rowLen]; simp
  case rest =>
  obtain ⟨v', ho, hr, hm⟩ := hcut
  go_wp2
  go_ret
  exact ⟨_, v', rfl, ho, hr, hm⟩

end Go.Proofs.Ytoiegjfpoamcbaa
