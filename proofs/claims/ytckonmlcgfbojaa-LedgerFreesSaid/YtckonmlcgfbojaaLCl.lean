/- append and slices.Clone at counters, slices, leases, numbers, ranges. -/
import Derived.Test.YtckonmlcgfbojaaLIx
import Derived.Test.YtckonmlcgfbojaaWkA
namespace Go.Proofs.Ytckonmlcgfbojaa
open Go.RowKit

/-- A row of the call's own is handed back. -/
def RetOwn (w : World) (E e n : Nat) (cs : List Value) (en : Ending) (w' : World) : Prop :=
  ∃ v', en = .returned v' ∧ w'.ownsRow w.heap.size e E v' n cs ∧ Below w.heap.size w w'

theorem cellsI_oneCell (l : List Int) : ∀ u ∈ cellsI l, u.oneCell' = true := by intro u hu; simp only [cellsI, List.mem_map] at hu; obtain ⟨n, _, rfl⟩ := hu; rfl
theorem cellsI_append (a b : List Int) : cellsI (a ++ b) = cellsI a ++ cellsI b := by simp [cellsI]

theorem Try.infoCt : (Try.prog.info? 25).map (fun i => (i.zero, i.size, i.bytes)) = some (some (.agg #[.string ⟨#[]⟩, .int .i64 0, .int .i64 0, .int .i64 0, .int .i64 0, .int .i64 0, .int .i64 0]), 7, 64) := by kernel_rfl

theorem append_Ct {w : World} {ops : Array Oper} {rest : List Oper} {o : Oper} {a : Act} {Q : Exit → Act → World → Prop} (hgd : o.guard = none) (s x : Operand)
    (ho : o.op = .call { callee := .builtin .append, args := #[s, x], argTypes := #[22, 22] })
    (base : Nat) (v : Value) (n : Nat) (l : List Ct) (hs : a.eval s = v) (hown : w.ownsRow base 25 7 v n ((cellsT cCt) l))
    (ao : Option Addr) (m c : Nat) (p : List Ct) (hx : a.eval x = .slice ao m c) (hm : p.length = m) (hnews : Rd w ao ((cellsT cCt) p))
    (hn : n + m < 1000000000) (hbase : base ≤ w.heap.size)
    (h : ∀ v' w', w'.ownsRow base 25 7 v' (n + m) ((cellsT cCt) (l ++ p)) → w.grownBy w' v.ownBlock → (v'.ownBlock = v.ownBlock ∨ v'.ownBlock = some w.heap.size) → wpList Try.prog ops Q rest (a.put o.dst v') w') : wpList Try.prog ops Q (o :: rest) a w := by
  obtain ⟨i, hi, hz0, hz1, hz2⟩ := info_parts Try.infoCt
  refine wpList_append_rd_at hgd s x 22 ho base 25 i _ 7 64 Try.underlying22 hi hz0 hz1 hz2 rfl (by decide) v n _ hs hown ao m c ((cellsT cCt) p) hx (by rw [cellsT_len cCt_len, hm]) hnews (cellsT_oneCell cCt_one p) (by unfold maxLen; omega) (by omega) hbase ?_
  intro v' w' h1 h2 h3
  exact h v' w' (by rw [cellsT_append]; exact h1) h2 h3

theorem Try.nilCt (ad : Addr) (n c : Nat) (w : World) : (binOp BinOp.eql 22 (.slice (some ad) n c) (.slice none 0 0)).run Try.prog w = .ok (.bool false) w := by kernel_rfl
theorem Try.nilCt' (n c : Nat) (w : World) : (binOp BinOp.eql 22 (.slice none n c) (.slice none 0 0)).run Try.prog w = .ok (.bool true) w := by kernel_rfl

set_option maxRecDepth 100000 in
set_option maxHeartbeats 1000000 in
theorem cloneCt_any (v : Value) (l : List Ct) (w : World) (h : SlCt w v l) (hl : l.length < 1000000000) :
    Calls Try.prog 74 #[v] w (RetOwn w 7 25 l.length ((cellsT cCt) l)) := by
  obtain ⟨ao, cap, rfl, hcap, hm⟩ := Sl.shape h
  rcases ao with _ | ad
  · have hl0 : l = [] := by
      obtain ⟨_, ao', cap', he, _, _, hz, _⟩ := h
      injection he with e1 e2 e3
      subst e1
      exact List.eq_nil_of_length_eq_zero (hz rfl).1
    subst hl0
    have hnil := Try.nilCt' 0 cap
    clear hl
    go_enter Try.func74, Try.ntmps74
    go_wp2
    go_ret
    exact ⟨_, rfl, World.ownsRow_nil _ _ _ _, Below.refl _ _⟩
  · have hrd := Sl.rd h
    have hnil := Try.nilCt ad l.length cap
    go_enter Try.func74, Try.ntmps74
    go_wp2_with ((with_reducible refine at_slot 7 ?_); refine append_Ct rfl _ _ rfl w.heap.size _ 0 [] rfl (owns_lit _ _ _ _ 7 #[] 0 rfl (Nat.le_refl _) (by omega) rfl) (some ad) l.length cap l rfl rfl (hrd.alloc _) (by omega) (by simp) ?_; intro v3 w3 ho3 hg3 hat3)
    have hb3 : Below w.heap.size w w3 := ((Below.refl w.heap.size w).alloc (Nat.le_refl _) _).grown hg3 (by first | (simp; done) | (simp; omega)) (fun g hg => (by have hg2 : some w.heap.size = some g := hg; injection hg2 with hg2; omega))
    rw [Nat.zero_add, List.nil_append] at ho3
    go_ret
    exact ⟨_, rfl, ho3, hb3⟩

theorem Try.infoSc : (Try.prog.info? 51).map (fun i => (i.zero, i.size, i.bytes)) = some (some (.agg #[.string ⟨#[]⟩, .int .i64 0, .int .i64 0, .int .i64 0, .int .i64 0]), 5, 48) := by kernel_rfl

theorem append_Sc {w : World} {ops : Array Oper} {rest : List Oper} {o : Oper} {a : Act} {Q : Exit → Act → World → Prop} (hgd : o.guard = none) (s x : Operand)
    (ho : o.op = .call { callee := .builtin .append, args := #[s, x], argTypes := #[43, 43] })
    (base : Nat) (v : Value) (n : Nat) (l : List Sc) (hs : a.eval s = v) (hown : w.ownsRow base 51 5 v n ((cellsT cSc) l))
    (ao : Option Addr) (m c : Nat) (p : List Sc) (hx : a.eval x = .slice ao m c) (hm : p.length = m) (hnews : Rd w ao ((cellsT cSc) p))
    (hn : n + m < 1000000000) (hbase : base ≤ w.heap.size)
    (h : ∀ v' w', w'.ownsRow base 51 5 v' (n + m) ((cellsT cSc) (l ++ p)) → w.grownBy w' v.ownBlock → (v'.ownBlock = v.ownBlock ∨ v'.ownBlock = some w.heap.size) → wpList Try.prog ops Q rest (a.put o.dst v') w') : wpList Try.prog ops Q (o :: rest) a w := by
  obtain ⟨i, hi, hz0, hz1, hz2⟩ := info_parts Try.infoSc
  refine wpList_append_rd_at hgd s x 43 ho base 51 i _ 5 48 Try.underlying43 hi hz0 hz1 hz2 rfl (by decide) v n _ hs hown ao m c ((cellsT cSc) p) hx (by rw [cellsT_len cSc_len, hm]) hnews (cellsT_oneCell cSc_one p) (by unfold maxLen; omega) (by omega) hbase ?_
  intro v' w' h1 h2 h3
  exact h v' w' (by rw [cellsT_append]; exact h1) h2 h3

theorem Try.nilSc (ad : Addr) (n c : Nat) (w : World) : (binOp BinOp.eql 43 (.slice (some ad) n c) (.slice none 0 0)).run Try.prog w = .ok (.bool false) w := by kernel_rfl
theorem Try.nilSc' (n c : Nat) (w : World) : (binOp BinOp.eql 43 (.slice none n c) (.slice none 0 0)).run Try.prog w = .ok (.bool true) w := by kernel_rfl

set_option maxRecDepth 100000 in
set_option maxHeartbeats 1000000 in
theorem cloneSc_any (v : Value) (l : List Sc) (w : World) (h : SlSc w v l) (hl : l.length < 1000000000) :
    Calls Try.prog 84 #[v] w (RetOwn w 5 51 l.length ((cellsT cSc) l)) := by
  obtain ⟨ao, cap, rfl, hcap, hm⟩ := Sl.shape h
  rcases ao with _ | ad
  · have hl0 : l = [] := by
      obtain ⟨_, ao', cap', he, _, _, hz, _⟩ := h
      injection he with e1 e2 e3
      subst e1
      exact List.eq_nil_of_length_eq_zero (hz rfl).1
    subst hl0
    have hnil := Try.nilSc' 0 cap
    clear hl
    go_enter Try.func84, Try.ntmps84
    go_wp2
    go_ret
    exact ⟨_, rfl, World.ownsRow_nil _ _ _ _, Below.refl _ _⟩
  · have hrd := Sl.rd h
    have hnil := Try.nilSc ad l.length cap
    go_enter Try.func84, Try.ntmps84
    go_wp2_with ((with_reducible refine at_slot 7 ?_); refine append_Sc rfl _ _ rfl w.heap.size _ 0 [] rfl (owns_lit _ _ _ _ 5 #[] 0 rfl (Nat.le_refl _) (by omega) rfl) (some ad) l.length cap l rfl rfl (hrd.alloc _) (by omega) (by simp) ?_; intro v3 w3 ho3 hg3 hat3)
    have hb3 : Below w.heap.size w w3 := ((Below.refl w.heap.size w).alloc (Nat.le_refl _) _).grown hg3 (by first | (simp; done) | (simp; omega)) (fun g hg => (by have hg2 : some w.heap.size = some g := hg; injection hg2 with hg2; omega))
    rw [Nat.zero_add, List.nil_append] at ho3
    go_ret
    exact ⟨_, rfl, ho3, hb3⟩

theorem Try.infoLs : (Try.prog.info? 45).map (fun i => (i.zero, i.size, i.bytes)) = some (some (.agg #[.int .i64 0, .int .i64 0, .int .i64 0, .int .i64 0, .slice none 0 0, .slice none 0 0, .slice none 0 0]), 7, 104) := by kernel_rfl

theorem append_Ls {w : World} {ops : Array Oper} {rest : List Oper} {o : Oper} {a : Act} {Q : Exit → Act → World → Prop} (hgd : o.guard = none) (s x : Operand)
    (ho : o.op = .call { callee := .builtin .append, args := #[s, x], argTypes := #[29, 29] })
    (base : Nat) (v : Value) (n : Nat) (l : List LsC) (hs : a.eval s = v) (hown : w.ownsRow base 45 7 v n ((cellsT cLs) l))
    (ao : Option Addr) (m c : Nat) (p : List LsC) (hx : a.eval x = .slice ao m c) (hm : p.length = m) (hnews : Rd w ao ((cellsT cLs) p))
    (hn : n + m < 1000000000) (hbase : base ≤ w.heap.size)
    (h : ∀ v' w', w'.ownsRow base 45 7 v' (n + m) ((cellsT cLs) (l ++ p)) → w.grownBy w' v.ownBlock → (v'.ownBlock = v.ownBlock ∨ v'.ownBlock = some w.heap.size) → wpList Try.prog ops Q rest (a.put o.dst v') w') : wpList Try.prog ops Q (o :: rest) a w := by
  obtain ⟨i, hi, hz0, hz1, hz2⟩ := info_parts Try.infoLs
  refine wpList_append_rd_at hgd s x 29 ho base 45 i _ 7 104 Try.underlying29 hi hz0 hz1 hz2 rfl (by decide) v n _ hs hown ao m c ((cellsT cLs) p) hx (by rw [cellsT_len cLs_len, hm]) hnews (cellsT_oneCell cLs_one p) (by unfold maxLen; omega) (by omega) hbase ?_
  intro v' w' h1 h2 h3
  exact h v' w' (by rw [cellsT_append]; exact h1) h2 h3

theorem Try.nilLs (ad : Addr) (n c : Nat) (w : World) : (binOp BinOp.eql 29 (.slice (some ad) n c) (.slice none 0 0)).run Try.prog w = .ok (.bool false) w := by kernel_rfl
theorem Try.nilLs' (n c : Nat) (w : World) : (binOp BinOp.eql 29 (.slice none n c) (.slice none 0 0)).run Try.prog w = .ok (.bool true) w := by kernel_rfl

set_option maxRecDepth 100000 in
set_option maxHeartbeats 1000000 in
theorem cloneLs_any (v : Value) (l : List LsC) (w : World) (h : SlT cLs 7 w v l) (hl : l.length < 1000000000) :
    Calls Try.prog 76 #[v] w (RetOwn w 7 45 l.length ((cellsT cLs) l)) := by
  obtain ⟨ao, cap, rfl, hcap, hm⟩ := Sl.shape h
  rcases ao with _ | ad
  · have hl0 : l = [] := by
      obtain ⟨_, ao', cap', he, _, _, hz, _⟩ := h
      injection he with e1 e2 e3
      subst e1
      exact List.eq_nil_of_length_eq_zero (hz rfl).1
    subst hl0
    have hnil := Try.nilLs' 0 cap
    clear hl
    go_enter Try.func76, Try.ntmps76
    go_wp2
    go_ret
    exact ⟨_, rfl, World.ownsRow_nil _ _ _ _, Below.refl _ _⟩
  · have hrd := Sl.rd h
    have hnil := Try.nilLs ad l.length cap
    go_enter Try.func76, Try.ntmps76
    go_wp2_with ((with_reducible refine at_slot 7 ?_); refine append_Ls rfl _ _ rfl w.heap.size _ 0 [] rfl (owns_lit _ _ _ _ 7 #[] 0 rfl (Nat.le_refl _) (by omega) rfl) (some ad) l.length cap l rfl rfl (hrd.alloc _) (by omega) (by simp) ?_; intro v3 w3 ho3 hg3 hat3)
    have hb3 : Below w.heap.size w w3 := ((Below.refl w.heap.size w).alloc (Nat.le_refl _) _).grown hg3 (by first | (simp; done) | (simp; omega)) (fun g hg => (by have hg2 : some w.heap.size = some g := hg; injection hg2 with hg2; omega))
    rw [Nat.zero_add, List.nil_append] at ho3
    go_ret
    exact ⟨_, rfl, ho3, hb3⟩

theorem Try.infoIn : (Try.prog.info? 3).map (fun i => (i.zero, i.size, i.bytes)) = some (some (.int .i64 0), 1, 8) := by kernel_rfl

theorem append_In {w : World} {ops : Array Oper} {rest : List Oper} {o : Oper} {a : Act} {Q : Exit → Act → World → Prop} (hgd : o.guard = none) (s x : Operand)
    (ho : o.op = .call { callee := .builtin .append, args := #[s, x], argTypes := #[30, 30] })
    (base : Nat) (v : Value) (n : Nat) (l : List Int) (hs : a.eval s = v) (hown : w.ownsRow base 3 1 v n (cellsI l))
    (ao : Option Addr) (m c : Nat) (p : List Int) (hx : a.eval x = .slice ao m c) (hm : p.length = m) (hnews : Rd w ao (cellsI p))
    (hn : n + m < 1000000000) (hbase : base ≤ w.heap.size)
    (h : ∀ v' w', w'.ownsRow base 3 1 v' (n + m) (cellsI (l ++ p)) → w.grownBy w' v.ownBlock → (v'.ownBlock = v.ownBlock ∨ v'.ownBlock = some w.heap.size) → wpList Try.prog ops Q rest (a.put o.dst v') w') : wpList Try.prog ops Q (o :: rest) a w := by
  obtain ⟨i, hi, hz0, hz1, hz2⟩ := info_parts Try.infoIn
  refine wpList_append_rd_at hgd s x 30 ho base 3 i _ 1 8 Try.underlying30 hi hz0 hz1 hz2 rfl (by decide) v n _ hs hown ao m c (cellsI p) hx (by simp [cellsI, hm]) hnews (cellsI_oneCell p) (by unfold maxLen; omega) (by omega) hbase ?_
  intro v' w' h1 h2 h3
  exact h v' w' (by rw [cellsI_append]; exact h1) h2 h3

theorem Try.nilIn (ad : Addr) (n c : Nat) (w : World) : (binOp BinOp.eql 30 (.slice (some ad) n c) (.slice none 0 0)).run Try.prog w = .ok (.bool false) w := by kernel_rfl
theorem Try.nilIn' (n c : Nat) (w : World) : (binOp BinOp.eql 30 (.slice none n c) (.slice none 0 0)).run Try.prog w = .ok (.bool true) w := by kernel_rfl

set_option maxRecDepth 100000 in
set_option maxHeartbeats 1000000 in
theorem cloneIn_any (v : Value) (l : List Int) (w : World) (h : SlI w v l) (hl : l.length < 1000000000) :
    Calls Try.prog 77 #[v] w (RetOwn w 1 3 l.length (cellsI l)) := by
  obtain ⟨ao, cap, rfl, hcap, hm⟩ := Sl.shape h
  rcases ao with _ | ad
  · have hl0 : l = [] := by
      obtain ⟨_, ao', cap', he, _, _, hz, _⟩ := h
      injection he with e1 e2 e3
      subst e1
      exact List.eq_nil_of_length_eq_zero (hz rfl).1
    subst hl0
    have hnil := Try.nilIn' 0 cap
    clear hl
    go_enter Try.func77, Try.ntmps77
    go_wp2
    go_ret
    exact ⟨_, rfl, World.ownsRow_nil _ _ _ _, Below.refl _ _⟩
  · have hrd := Sl.rd h
    have hnil := Try.nilIn ad l.length cap
    go_enter Try.func77, Try.ntmps77
    go_wp2_with ((with_reducible refine at_slot 7 ?_); refine append_In rfl _ _ rfl w.heap.size _ 0 [] rfl (owns_lit _ _ _ _ 1 #[] 0 rfl (Nat.le_refl _) (by omega) rfl) (some ad) l.length cap l rfl rfl (hrd.alloc _) (by omega) (by simp) ?_; intro v3 w3 ho3 hg3 hat3)
    have hb3 : Below w.heap.size w w3 := ((Below.refl w.heap.size w).alloc (Nat.le_refl _) _).grown hg3 (by first | (simp; done) | (simp; omega)) (fun g hg => (by have hg2 : some w.heap.size = some g := hg; injection hg2 with hg2; omega))
    rw [Nat.zero_add, List.nil_append] at ho3
    go_ret
    exact ⟨_, rfl, ho3, hb3⟩

theorem Try.infoRr : (Try.prog.info? 78).map (fun i => (i.zero, i.size, i.bytes)) = some (some (.agg #[.int .i64 0, .int .i64 0]), 2, 16) := by kernel_rfl

theorem append_Rr {w : World} {ops : Array Oper} {rest : List Oper} {o : Oper} {a : Act} {Q : Exit → Act → World → Prop} (hgd : o.guard = none) (s x : Operand)
    (ho : o.op = .call { callee := .builtin .append, args := #[s, x], argTypes := #[28, 28] })
    (base : Nat) (v : Value) (n : Nat) (l : List Rg) (hs : a.eval s = v) (hown : w.ownsRow base 78 2 v n (cellsR l))
    (ao : Option Addr) (m c : Nat) (p : List Rg) (hx : a.eval x = .slice ao m c) (hm : p.length = m) (hnews : Rd w ao (cellsR p))
    (hn : n + m < 1000000000) (hbase : base ≤ w.heap.size)
    (h : ∀ v' w', w'.ownsRow base 78 2 v' (n + m) (cellsR (l ++ p)) → w.grownBy w' v.ownBlock → (v'.ownBlock = v.ownBlock ∨ v'.ownBlock = some w.heap.size) → wpList Try.prog ops Q rest (a.put o.dst v') w') : wpList Try.prog ops Q (o :: rest) a w := by
  obtain ⟨i, hi, hz0, hz1, hz2⟩ := info_parts Try.infoRr
  refine wpList_append_rd_at hgd s x 28 ho base 78 i _ 2 16 Try.underlying28 hi hz0 hz1 hz2 rfl (by decide) v n _ hs hown ao m c (cellsR p) hx (by rw [length_cellsR, hm]) hnews (cellsR_one p) (by unfold maxLen; omega) (by omega) hbase ?_
  intro v' w' h1 h2 h3
  exact h v' w' (by rw [cellsR_append]; exact h1) h2 h3

theorem Try.nilRr (ad : Addr) (n c : Nat) (w : World) : (binOp BinOp.eql 28 (.slice (some ad) n c) (.slice none 0 0)).run Try.prog w = .ok (.bool false) w := by kernel_rfl
theorem Try.nilRr' (n c : Nat) (w : World) : (binOp BinOp.eql 28 (.slice none n c) (.slice none 0 0)).run Try.prog w = .ok (.bool true) w := by kernel_rfl

set_option maxRecDepth 100000 in
set_option maxHeartbeats 1000000 in
theorem cloneRr_any (v : Value) (l : List Rg) (w : World) (h : SlR w v l) (hl : l.length < 1000000000) :
    Calls Try.prog 75 #[v] w (RetOwn w 2 78 l.length (cellsR l)) := by
  obtain ⟨ao, cap, rfl, hcap, hm⟩ := Sl.shape h
  rcases ao with _ | ad
  · have hl0 : l = [] := by
      obtain ⟨_, ao', cap', he, _, _, hz, _⟩ := h
      injection he with e1 e2 e3
      subst e1
      exact List.eq_nil_of_length_eq_zero (hz rfl).1
    subst hl0
    have hnil := Try.nilRr' 0 cap
    clear hl
    go_enter Try.func75, Try.ntmps75
    go_wp2
    go_ret
    exact ⟨_, rfl, World.ownsRow_nil _ _ _ _, Below.refl _ _⟩
  · have hrd := Sl.rd h
    have hnil := Try.nilRr ad l.length cap
    go_enter Try.func75, Try.ntmps75
    go_wp2_with ((with_reducible refine at_slot 7 ?_); refine append_Rr rfl _ _ rfl w.heap.size _ 0 [] rfl (owns_lit _ _ _ _ 2 #[] 0 rfl (Nat.le_refl _) (by omega) rfl) (some ad) l.length cap l rfl rfl (hrd.alloc _) (by omega) (by simp) ?_; intro v3 w3 ho3 hg3 hat3)
    have hb3 : Below w.heap.size w w3 := ((Below.refl w.heap.size w).alloc (Nat.le_refl _) _).grown hg3 (by first | (simp; done) | (simp; omega)) (fun g hg => (by have hg2 : some w.heap.size = some g := hg; injection hg2 with hg2; omega))
    rw [Nat.zero_add, List.nil_append] at ho3
    go_ret
    exact ⟨_, rfl, ho3, hb3⟩

end Go.Proofs.Ytckonmlcgfbojaa
