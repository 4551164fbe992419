/- append at rows of rows; the walks of Sound's closures. -/
import Derived.Test.YtckonmlcgfbojaaLSf
import Derived.Test.YtckonmlcgfbojaaLSe
import Derived.Test.YtckonmlcgfbojaaLSd
namespace Go.Proofs.Ytckonmlcgfbojaa
open Go.RowKit

theorem Try.infoSv : (Try.prog.info? 28).map (fun i => (i.zero, i.size, i.bytes)) = some (some (.slice none 0 0), 1, 24) := by kernel_rfl

theorem append_Sv {w : World} {ops : Array Oper} {rest : List Oper} {o : Oper} {a : Act} {Q : Exit → Act → World → Prop} (hgd : o.guard = none) (s x : Operand)
    (ho : o.op = .call { callee := .builtin .append, args := #[s, x], argTypes := #[108, 108] })
    (base : Nat) (v : Value) (n : Nat) (l : List Sv) (hs : a.eval s = v) (hown : w.ownsRow base 28 1 v n ((cellsT cSv) l))
    (ao : Option Addr) (m c : Nat) (p : List Sv) (hx : a.eval x = .slice ao m c) (hm : p.length = m) (hnews : Rd w ao ((cellsT cSv) p))
    (hn : n + m < 1000000000) (hbase : base ≤ w.heap.size)
    (h : ∀ v' w', w'.ownsRow base 28 1 v' (n + m) ((cellsT cSv) (l ++ p)) → w.grownBy w' v.ownBlock → (v'.ownBlock = v.ownBlock ∨ v'.ownBlock = some w.heap.size) → wpList Try.prog ops Q rest (a.put o.dst v') w') : wpList Try.prog ops Q (o :: rest) a w := by
  obtain ⟨i, hi, hz0, hz1, hz2⟩ := info_parts Try.infoSv
  refine wpList_append_rd_at hgd s x 108 ho base 28 i _ 1 24 Try.underlying108 hi hz0 hz1 hz2 rfl (by decide) v n _ hs hown ao m c ((cellsT cSv) p) hx (by rw [cellsT_len cSv_len, hm]) hnews (cellsT_oneCell cSv_one p) (by unfold maxLen; omega) (by omega) hbase ?_
  intro v' w' h1 h2 h3
  exact h v' w' (by rw [cellsT_append]; exact h1) h2 h3

theorem Try.enSound11 (args : Array Value) (W : World) : (callFunc 69 args).run Try.prog W = .ok (.enter 69 args) W := by kernel_rfl
theorem Try.enSound1 (args : Array Value) (W : World) : (callFunc 67 args).run Try.prog W = .ok (.enter 67 args) W := by kernel_rfl
theorem Try.enSlices (args : Array Value) (W : World) : (callFunc 59 args).run Try.prog W = .ok (.enter 59 args) W := by kernel_rfl

set_option maxHeartbeats 1000000 in
theorem sound11_any (s : Sv) (l : List Rg) (b1 : Nat) (n : Int) (w : World) (h1 : w.cell? ⟨b1, 0, none⟩ = some (.int .i64 n)) (_hb1 : b1 < w.heap.size) (h : SlR w s.v l) :
    Calls Try.prog 69 #[s.v, .pointer (some ⟨b1, 0, none⟩)] w fun e w' => e = .returned (.bool (amS [n] l)) ∧ Below w.heap.size w w' := by
  obtain ⟨s1, s2, s3⟩ := s
  have hb2 : Below w.heap.size w (w.alloc (.cells #[.int .i64 n] 3)) := (Below.refl _ _).alloc (Nat.le_refl _) _
  have HS := Lib.hid (SlR.keep h hb2 (Nat.le_refl _))
  have HU : Hid (SlI (w.alloc (.cells #[.int .i64 n] 3)) (.slice (some ⟨w.heap.size, 0, none⟩) 1 1) [n]) := Lib.hid ⟨rfl, _, 1, rfl, Nat.le_refl _, by unfold maxLen; omega, (fun h => by cases h), fun j u hu => ⟨_, 0, rfl, by simp, by
    have := rd_new w _ rfl [.int .i64 n] 3 j u hu
    obtain ⟨a, ha, hc⟩ := this
    injection ha with ha
    subst ha
    rw [Addr.add_lit] at hc
    exact hc⟩⟩
  obtain ⟨q, hq⟩ : ∃ q, amS [n] l = q := ⟨_, rfl⟩
  have HQ := Lib.hid hq
  clear hq h
  change Calls Try.prog _ #[.slice s1 s2 s3, .pointer (some ⟨b1, 0, none⟩)] w _
  go_enter Try.func69, Try.ntmps69
  go_wp2_with fail
  refine (among_any _ _ [n] l _ HU.out HS.out).mono ?_
  rw [HQ.out]
  rintro e w1 ⟨rfl, hb3⟩
  have hb4 := hb2.trans (hb3.mono hb2.size)
  clear HS HU hb2 hb3
  go_wp2
  go_ret
  exact ⟨ret_bool HQ.out.symm, hb4⟩

theorem Sl.uniq {w : World} {E n n' : Nat} {v : Value} {cs cs' : List Value} (h : Sl w E v n cs) (h' : Sl w E v n' cs') : cs = cs' := by
  obtain ⟨h1, ao, cap, rfl, _, _, _, h2⟩ := h
  obtain ⟨h1', ao', cap', he, _, _, _, h2'⟩ := h'
  injection he with e1 e2 e3
  subst e1 e2 e3
  refine List.ext_getElem (by omega) (fun j hj hj' => ?_)
  obtain ⟨b, off, ha, _, hc⟩ := h2 j cs[j] (by simp [hj])
  obtain ⟨b', off', ha', _, hc'⟩ := h2' j cs'[j] (by simp [hj'])
  rw [ha] at ha'
  injection ha' with ha'
  injection ha' with q1 q2
  subst q1 q2
  rw [hc] at hc'
  injection hc'
theorem cellsR_inj : ∀ {l m : List Rg}, cellsR l = cellsR m → l = m
  | [], [], _ => rfl
  | [], _ :: _, h => by simp [cellsR] at h
  | _ :: _, [], h => by simp [cellsR] at h
  | (a, b) :: l, (c, d) :: m, h => by
    simp only [cellsR, List.flatMap_cons, List.cons_append, List.nil_append, List.cons.injEq, Value.int.injEq, true_and] at h
    obtain ⟨h1, h2, h3⟩ := h
    rw [h1, h2, cellsR_inj h3]
theorem SlR.uniq {w : World} {v : Value} {l m : List Rg} (h : SlR w v l) (h' : SlR w v m) : l = m := cellsR_inj (Sl.uniq h h')

/-- Is a number in one of the rows? -/
def inRows (rows : List (List Rg)) (n : Int) : Bool := rows.any (fun l => amS [n] l)

theorem any_rows {w : World} {n : Int} {ss : List Sv} {rows : List (List Rg)} (h : All2 (fun s l => SlR w s.v l) ss rows) : ss.any (fun s => @decide (∃ l, SlR w s.v l ∧ amS [n] l = true) (Classical.propDecidable _)) = inRows rows n :=
  any_all2 h (fun s l r => by
    rw [Bool.eq_iff_iff, @decide_eq_true_iff _ (Classical.propDecidable _)]
    exact ⟨fun ⟨m, hm, hh⟩ => by rw [SlR.uniq r hm]; exact hh, fun hh => ⟨l, r, hh⟩⟩)

theorem asksS11 {w : World} {b1 : Nat} {n : Int} (h1 : w.cell? ⟨b1, 0, none⟩ = some (.int .i64 n)) {ss : List Sv} {rows : List (List Rg)} (h : All2 (fun s l => SlR w s.v l) ss rows) : Asks Try.prog w 69 #[.pointer (some ⟨b1, 0, none⟩)] Sv.v (fun s => @decide (∃ l, SlR w s.v l ∧ amS [n] l = true) (Classical.propDecidable _)) ss := by
  have hb1 : b1 < w.heap.size := World.block_lt_of_cell? w _ h1
  refine ⟨Try.enSound11, fun W hW x hx => ?_⟩
  obtain ⟨j, hj, rfl⟩ := List.getElem_of_mem hx
  have hr := All2.at h j hj (by rw [← h.len]; exact hj)
  generalize rows[j]'(by rw [← h.len]; exact hj) = l at *
  refine (sound11_any ss[j] l b1 n W (held_below h1 hW hb1) (Nat.lt_of_lt_of_le hb1 hW.size) (SlR.keep hr hW (Nat.le_refl _))).mono ?_
  rintro e w1 ⟨rfl, hb⟩
  refine ⟨ret_bool ?_, hb⟩
  rw [Bool.eq_iff_iff, @decide_eq_true_iff _ (Classical.propDecidable _)]
  exact ⟨fun hh => ⟨l, hr, hh⟩, fun ⟨m, hm, hh⟩ => by rw [SlR.uniq hr hm]; exact hh⟩

set_option maxHeartbeats 1000000 in
theorem sound1_any (n : Int) (b1 : Nat) (v : Value) (rows : List (List Rg)) (w : World) (h1 : w.cell? ⟨b1, 0, none⟩ = some v) (hb1 : b1 < w.heap.size) (h : SlRs w v rows) :
    Calls Try.prog 67 #[.int .i64 n, .pointer (some ⟨b1, 0, none⟩)] w fun e w' => e = .returned (.bool (inRows rows n)) ∧ Below w.heap.size w w' := by
  have hb2 : Below w.heap.size w (w.alloc (.cells #[.int .i64 n] 3)) := (Below.refl _ _).alloc (Nat.le_refl _) _
  obtain ⟨ss, hs, hss⟩ := SlRs.keep h hb2 (Nat.le_refl _)
  have HC : Hid ((w.alloc (.cells #[.int .i64 n] 3)).cell? ⟨w.heap.size, 0, none⟩ = some (.int .i64 n)) := by show _ = _; simp [go_sem]
  obtain ⟨ao, cap, rfl, hcap, hm⟩ := Sl.shape hs
  have HS := Lib.hid hs
  have HSS := Lib.hid hss
  obtain ⟨q, hq⟩ : ∃ q, inRows rows n = q := ⟨_, rfl⟩
  have HQ := Lib.hid hq
  clear hq h hs hss
  go_enter Try.func67, Try.ntmps67
  go_wp2_with fail
  refine (hasRs_any _ ss _ _ _ _ HS.out (asksS11 HC.out HSS.out)).mono ?_
  rw [any_rows HSS.out, HQ.out]
  rintro e w1 ⟨rfl, hb3⟩
  have hb4 := hb2.trans (hb3.mono hb2.size)
  clear HS HC HSS hb2 hb3
  go_wp2
  go_ret
  exact ⟨ret_bool HQ.out.symm, hb4⟩

theorem asksS1 {w : World} {b1 : Nat} {v : Value} {rows : List (List Rg)} (h1 : w.cell? ⟨b1, 0, none⟩ = some v) (h : SlRs w v rows) (l : List Int) : Asks Try.prog w 67 #[.pointer (some ⟨b1, 0, none⟩)] (fun n => .int .i64 n) (inRows rows) l := by
  have hb1 : b1 < w.heap.size := World.block_lt_of_cell? w _ h1
  exact ⟨Try.enSound1, fun W hW x _ => sound1_any x b1 v rows W (held_below h1 hW hb1) (Nat.lt_of_lt_of_le hb1 hW.size) (SlRs.keep h hW (Nat.le_refl _))⟩

end Go.Proofs.Ytckonmlcgfbojaa
