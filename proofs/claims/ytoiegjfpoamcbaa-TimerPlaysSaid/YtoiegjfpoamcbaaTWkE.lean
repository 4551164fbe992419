/- The walks of Timers' Set and Cancel. -/
import Derived.Test.YtoiegjfpoamcbaaTWkD
import Derived.Test.YtoiegjfpoamcbaaTPl2
namespace Go.Proofs.Ytoiegjfpoamcbaa
open Go.RowKit

/-- The object holds, in some order, a heap, just M. -/
def TmR (w : World) (B T : Nat) (v : Value) (M : List Rw) : Prop := ∃ L, TmT w B T v L ∧ L.Perm M ∧ Hp L L.length
theorem TmR.keep {w w' : World} {B T : Nat} {v : Value} {M : List Rw} (h : TmR w B T v M) (hb : Below w.heap.size w w') : TmR w' B T v M := by
  obtain ⟨L, h1, h2, h3⟩ := h
  exact ⟨L, h1.keep hb, h2, h3⟩
/-- An object's function was called. -/
def ObjPost (w : World) (B T : Nat) (v : Value) (M : List Rw) (r : Value) (e : Ending) (w' : World) : Prop := e = .returned r ∧ ∃ v', TmR w' B T v' M ∧ Mv T w v w' v'

theorem Tm.put1 {w : World} {B T g cap : Nat} {ty el : TypeId} {L : List Rw} (h : Tm w B T ty el (.slice (some ⟨g, 0, none⟩) L.length cap) L) (i : Nat) (hi : i < L.length) (y : Int) :
    Tm (w.setCell ⟨g, i * 2 + 1, none⟩ (.int .i64 y)) B T ty el (.slice (some ⟨g, 0, none⟩) L.length cap) (L.set i ((rw_ L i).1, y)) := by
  have hg := h.apart g rfl
  have h1 := owns_set h.row (i * 2 + 1) (by rw [length_cellsW]; omega) (.int .i64 y)
  rw [cellsW_set1 L i hi] at h1
  have e : (L.set i ((rw_ L i).1, y)).length = L.length := List.length_set
  refine ⟨?_, by rw [e, rw_eq L i hi]; exact h1, h.base, h.apart⟩
  rw [setCell_block_other _ _ _ _ hg.symm]; exact h.obj

theorem hasW_idx {L : List Rw} {id r : Int} (h : IdxP L id r) : (hasW L id = true ∧ ∃ k : Nat, k < L.length ∧ r = k ∧ (rw_ L k).1 = id) ∨ (hasW L id = false ∧ r = -1) := by
  rcases h with ⟨k, hk, rfl, he, _⟩ | ⟨rfl, hn⟩
  · refine .inl ⟨?_, k, hk, rfl, he⟩
    unfold hasW
    rw [List.any_eq_true]
    refine ⟨L[k], List.getElem_mem hk, ?_⟩
    rw [rw_eq L k hk] at he
    simp [he]
  · refine .inr ⟨?_, rfl⟩
    unfold hasW
    rw [List.any_eq_false]
    intro x hx
    obtain ⟨j, hj, rfl⟩ := List.getElem_of_mem hx
    have := hn j hj
    rw [rw_eq L j hj] at this
    simpa using this

set_option maxHeartbeats 4000000 in
theorem set_any (w : World) (B T : Nat) (v : Value) (M : List Rw) (id tm : Int) (h : TmR w B T v M) (hs : Srt M) (hl : M.length < 1000) :
    Calls Try.prog 8 #[.pointer (some ⟨T, 0, none⟩), .int .i64 id, .int .i64 tm] w (ObjPost w B T v (setW M id tm).1 (.int .i64 (setW M id tm).2)) := by
  obtain ⟨L, ht, hp, hh⟩ := h
  have hlen := hp.length_eq
  have hl1 : L.length < 1000 := by omega
  have HLEN := Lib.hid hlen
  clear hlen
  have HI := Lib.hid (index_any w B T v L id ht (by omega))
  have HHas := Lib.hid (perm_hasW hp id)
  have HRem := Lib.hid (perm_remW hp id)
  have HNd := Lib.hid (perm_nodup hp hs)
  have HP := Lib.hid hp
  have HH := Lib.hid hh
  clear hp hh hs
  go_enter Try.func8, Try.ntmps8
  go_wp2_with fail
  refine HI.out.mono ?_
  rintro e w1 ⟨r, hr, rfl, hb1⟩
  have ht1 := ht.keep hb1
  have hm1 : Mv T w v w1 v := Mv.of_below hb1
  clear HI hb1 ht
  by_cases hid : id < 0
  · have HS : Hid (setW M id tm = (M, 1)) := by show _ = _; rw [setW, if_pos hid]
    clear hr
    go_wp2
    go_ret
    rw [HS.out]
    exact ⟨rfl, v, ⟨L, ht1, HP.out, HH.out⟩, hm1⟩
  · have d0 : decide (id < 0) = false := by simpa using hid
    rcases hasW_idx hr with ⟨hhas, k, hk, rfl, hkid⟩ | ⟨hhas, rfl⟩
    · have HS : Hid (setW M id tm = (insW (remW M id) (id, tm), 0)) := by
        show _ = _
        rw [setW, if_neg hid, if_neg (by rw [← HHas.out, hhas]; simp)]
      have d1 : decide ((k : Int) < 0) = false := by simp
      have hk1 : (k : Int) < L.length := by omega
      have HK := Lib.hid hkid
      clear hid hhas hr hkid
      obtain ⟨c, cf⟩ := ht1.cell
      obtain ⟨g, cap, rfl, hcap, hm, hg, hgT, a1, a2, hf⟩ := ht1.two k hk
      have f1 := hf (k * 2 + 1)
      clear hf
      have HT2 := Lib.hid (ht1.put1 k hk tm)
      have HM2 := Lib.hid (hm1.put (k * 2 + 1) (.int .i64 tm))
      generalize L[k] = q at *
      have hTg : ¬ T = g := fun e => hgT e.symm
      clear ht1 hm1
      go_wp2_with fail
      refine (queue_any _ T).mono ?_
      rintro e w2 ⟨rfl, rfl⟩
      have HF := Lib.hid (hfix_any _ B T k _ _ HT2.out (by simpa using hk) (by simp; omega) (by rw [List.length_set]; exact fix_start _ HH.out hk))
      unfold ifc at HF
      go_wp2_with fail
      refine HF.out.mono ?_
      rintro e w3 ⟨rfl, v3, L3, ht3, hm3, hp3, hh3⟩
      go_wp2
      go_ret
      rw [HS.out]
      refine ⟨rfl, v3, ⟨L3, ht3, ?_, hh3⟩, HM2.out.trans hm3⟩
      rw [HK.out] at hp3
      have h1 := perm_set HNd.out k hk (id, tm)
      rw [HK.out] at h1
      exact hp3.trans (h1.trans ((List.Perm.cons _ HRem.out).trans (perm_insW _ _).symm))
    · have HL := Lib.hid (len_any w1 B T v L ht1)
      have HHF : Hid (hasW M id = false) := by rw [← HHas.out]; exact hhas
      clear hhas hr
      by_cases hmany : 100 ≤ L.length
      · have HS : Hid (setW M id tm = (M, 4)) := by
          show _ = _
          rw [setW, if_neg hid, if_pos ⟨HHF.out, by have := HLEN.out; omega⟩]
        clear hid
        go_wp2_with fail
        refine HL.out.mono ?_
        rintro e w2 ⟨rfl, rfl⟩
        go_wp2
        go_ret
        rw [HS.out]
        exact ⟨rfl, v, ⟨L, ht1, HP.out, HH.out⟩, hm1⟩
      · have HS : Hid (setW M id tm = (insW (remW M id) (id, tm), 0)) := by
          show _ = _
          rw [setW, if_neg hid, if_neg (by have := HLEN.out; omega)]
        have d1 : decide (100 ≤ (L.length : Int)) = false := by simp; omega
        have d2 : decide (100 ≤ L.length) = false := by simp; omega
        have HF := Lib.hid (hpush_any w1 B T v L (id, tm) ht1 (by omega) HH.out)
        unfold ifc at HF
        clear hid hmany
        go_wp2_with fail
        refine HL.out.mono ?_
        rintro e w2 ⟨rfl, rfl⟩
        go_wp2_with fail
        refine (queue_any _ T).mono ?_
        rintro e w2 ⟨rfl, rfl⟩
        go_wp2_with fail
        refine HF.out.mono ?_
        rintro e w3 ⟨rfl, v3, L3, ht3, hm3, hp3, hh3⟩
        go_wp2
        go_ret
        rw [HS.out]
        refine ⟨rfl, v3, ⟨L3, ht3, ?_, hh3⟩, hm1.trans hm3⟩
        rw [remW_none HHF.out]
        exact hp3.trans ((List.Perm.cons _ HP.out).trans (perm_insW _ _).symm)

set_option maxHeartbeats 4000000 in
theorem cancel_any (w : World) (B T : Nat) (v : Value) (M : List Rw) (id : Int) (h : TmR w B T v M) (hs : Srt M) (hl : M.length < 1000) :
    Calls Try.prog 10 #[.pointer (some ⟨T, 0, none⟩), .int .i64 id] w (ObjPost w B T v (remW M id) (.bool (hasW M id))) := by
  obtain ⟨L, ht, hp, hh⟩ := h
  have hlen := hp.length_eq
  have hl1 : L.length < 1000 := by omega
  have HLEN := Lib.hid hlen
  clear hlen
  have HI := Lib.hid (index_any w B T v L id ht (by omega))
  have HHas := Lib.hid (perm_hasW hp id)
  have HRem := Lib.hid (perm_remW hp id)
  have HNd := Lib.hid (perm_nodup hp hs)
  have HP := Lib.hid hp
  have HH := Lib.hid hh
  clear hp hh hs
  go_enter Try.func10, Try.ntmps10
  go_wp2_with fail
  refine HI.out.mono ?_
  rintro e w1 ⟨r, hr, rfl, hb1⟩
  have ht1 := ht.keep hb1
  have hm1 : Mv T w v w1 v := Mv.of_below hb1
  clear HI hb1 ht
  rcases hasW_idx hr with ⟨hhas, k, hk, rfl, hkid⟩ | ⟨hhas, rfl⟩
  · have HS : Hid (hasW M id = true) := by show _ = _; rw [← HHas.out]; exact hhas
    have d1 : decide ((k : Int) < 0) = false := by simp
    have HK := Lib.hid hkid
    obtain ⟨n, hn⟩ : ∃ n, L.length = n + 1 := ⟨L.length - 1, by omega⟩
    have HF := Lib.hid (hremove_any w1 B T n k v L ht1 hn (by omega) (by omega) HH.out)
    unfold ifc at HF
    clear hr hkid hhas hn
    go_wp2_with fail
    refine (queue_any _ T).mono ?_
    rintro e w2 ⟨rfl, rfl⟩
    go_wp2_with fail
    refine HF.out.mono ?_
    rintro e w3 ⟨⟨y, rfl⟩, v3, L3, ht3, hm3, hp3, hh3⟩
    go_wp2
    go_ret
    rw [HS.out]
    refine ⟨rfl, v3, ⟨L3, ht3, ?_, hh3⟩, hm1.trans hm3⟩
    have h1 := perm_rem HNd.out k hk hp3
    rw [HK.out] at h1
    exact h1.trans HRem.out
  · have HS : Hid (hasW M id = false) := by show _ = _; rw [← HHas.out]; exact hhas
    clear hr hhas
    go_wp2
    go_ret
    rw [HS.out, remW_none HS.out]
    exact ⟨rfl, v, ⟨L, ht1, HP.out, HH.out⟩, hm1⟩

end Go.Proofs.Ytoiegjfpoamcbaa
