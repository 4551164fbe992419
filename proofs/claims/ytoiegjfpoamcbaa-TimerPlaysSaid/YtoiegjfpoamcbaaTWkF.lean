/- The walk of Timers' Due. -/
import Derived.Test.YtoiegjfpoamcbaaTWkE
namespace Go.Proofs.Ytoiegjfpoamcbaa
open Go.RowKit

theorem Try.infoI : (Try.prog.info? 3).map (fun i => (i.zero, i.size, i.bytes)) = some (some (.int .i64 0), 1, 8) := by kernel_rfl

theorem cells_one_at (w : World) (b : Nat) (x : Value) (t : TypeId) (hb : w.heap.size = b) : ∀ j u, [x][j]? = some u → (w.alloc (.cells #[x] t)).cell? ((⟨b, 0, none⟩ : Addr).add j) = some u := by
  subst hb; exact cell_one_new w x t

theorem append_I {w : World} {ops : Array Oper} {rest : List Oper} {o : Oper} {a : Act} {Q : Exit → Act → World → Prop} (hgd : o.guard = none) (s x : Operand)
    (ho : o.op = .call { callee := .builtin .append, args := #[s, x], argTypes := #[22, 22] })
    (base : Nat) (v : Value) (n : Nat) (l : List Int) (hs : a.eval s = v) (hown : w.ownsRow base 3 1 v n (cellsI l))
    (ad : Addr) (c : Nat) (p : Int) (hx : a.eval x = .slice (some ad) 1 c) (hnews : ∀ j u, [Value.int .i64 p][j]? = some u → w.cell? (ad.add j) = some u)
    (hn : n < 1000000000) (hbase : base ≤ w.heap.size)
    (h : ∀ v' w', w'.ownsRow base 3 1 v' (n + 1) (cellsI (l ++ [p])) → w.grownBy w' v.ownBlock → (v'.ownBlock = v.ownBlock ∨ v'.ownBlock = some w.heap.size) → wpList Try.prog ops Q rest (a.put o.dst v') w') : wpList Try.prog ops Q (o :: rest) a w := by
  obtain ⟨i, hi, hz0, hz1, hz2⟩ := info_parts Try.infoI
  refine wpList_append_own_at _ hgd s x 22 ho base 3 i _ 1 8 Try.underlying22 hi hz0 hz1 hz2 rfl (by decide) v n _ hs hown ad 1 c [.int .i64 p] hx rfl hnews (by simp [Value.oneCell']) (by unfold maxLen; omega) (by omega) hbase ?_
  intro v' w' h1 h2 _ h3
  exact h v' w' (by simpa [cellsI] using h1) h2 h3

theorem Tm.grown {w w' : World} {B T : Nat} {ty el : TypeId} {v : Value} {L : List Rw} {row : Option Nat} (h : Tm w B T ty el v L) (hg : w.grownBy w' row) (h1 : row ≠ some T) (h2 : ∀ g, v.ownBlock = some g → row ≠ some g) : Tm w' B T ty el v L := by
  refine ⟨by rw [hg.block T h.lt (fun e => h1 e.symm)]; exact h.obj, ?_, h.base, h.apart⟩
  obtain ⟨a, b⟩ := h.row
  refine ⟨a, ?_⟩
  rcases b with b | ⟨g, cap, cur, rfl, hg', hh, r⟩
  · exact .inl b
  · exact .inr ⟨g, cap, cur, rfl, hg', by rw [hg.block g (Array.getElem?_eq_some_iff.1 hh).1 (fun e => h2 g rfl e.symm)]; exact hh, r⟩
theorem Mv.grown {T : Nat} {w w' w'' : World} {v v' : Value} {row : Option Nat} (m : Mv T w v w' v') (hg : w'.grownBy w'' row) (h : ∀ g, row = some g → w.heap.size ≤ g) : Mv T w v w'' v' :=
  ⟨by rw [hg.os, m.os], by rw [hg.tape, m.tape], by rw [hg.output, m.output], Nat.le_trans m.size hg.size, fun k hk hT hv => by rw [hg.block k (Nat.lt_of_lt_of_le hk m.size) (fun e => by have := h k e.symm; omega), m.block k hk hT hv], m.stay⟩
theorem owns_mv {w w' : World} {T base n E : Nat} {e : TypeId} {v v' vo : Value} {xs : List Value} (h : w.ownsRow base e E vo n xs) (m : Mv T w v w' v') (h1 : vo.ownBlock ≠ some T) (h2 : ∀ g, vo.ownBlock = some g → v.ownBlock ≠ some g) : w'.ownsRow base e E vo n xs := by
  obtain ⟨a, b⟩ := h
  refine ⟨a, ?_⟩
  rcases b with b | ⟨g, cap, cur, rfl, hg', hh, r⟩
  · exact .inl b
  · exact .inr ⟨g, cap, cur, rfl, hg', by rw [m.block g (Array.getElem?_eq_some_iff.1 hh).1 (fun e => h1 (by rw [e]; rfl)) (h2 g rfl)]; exact hh, r⟩

/-- How many rows there are. -/
def rowLen (w : World) (T : Nat) : Nat := match w.cell? ⟨T, 0, none⟩ with
  | some (.slice _ n _) => n
  | _ => 0
theorem Tm.rowLen {w : World} {B T : Nat} {ty el : TypeId} {v : Value} {L : List Rw} (h : Tm w B T ty el v L) : rowLen w T = L.length := by
  obtain ⟨ao, cap, rfl, _, _⟩ := owns_shape h.row
  unfold Proofs.Ytoiegjfpoamcbaa.rowLen
  rw [h.cell.1]

def DuePost (w : World) (B T : Nat) (v : Value) (M : List Rw) (now : Int) (e : Ending) (w' : World) : Prop :=
  ∃ vo v', e = .returned vo ∧ w'.ownsRow w.heap.size 3 1 vo (dueW M now).1.length (cellsI (dueW M now).1) ∧ TmR w' B T v' (dueW M now).2 ∧ Mv T w v w' v' ∧ ∀ g, vo.ownBlock = some g → v'.ownBlock ≠ some g

set_option maxHeartbeats 4000000 in
theorem due_any (w : World) (B T : Nat) (v : Value) (M : List Rw) (now : Int) (h : TmR w B T v M) (hs : Srt M) (hl : M.length < 1000) :
    Calls Try.prog 13 #[.pointer (some ⟨T, 0, none⟩), .int .i64 now] w (DuePost w B T v M now) := by
  have hTw : T < w.heap.size := by obtain ⟨L, ht, _⟩ := h; exact ht.lt
  go_enter Try.func13, Try.ntmps13
  go_wp2
  go_loopw [5] (fun vo wr => ∃ (v2 : Value) (M2 : List Rw) (done : List Int) (L2 : List Rw), wr.ownsRow w.heap.size 3 1 vo done.length (cellsI done) ∧ TmT wr B T v2 L2 ∧ L2.Perm M2 ∧ Hp L2 L2.length ∧ Mv T w v wr v2 ∧ Srt M2 ∧ dueW M now = (done ++ (dueW M2 now).1, (dueW M2 now).2) ∧ (∀ g, vo.ownBlock = some g → v2.ownBlock ≠ some g) ∧ done.length + L2.length = M.length) (fun _ wr => rowLen wr T)
  case atStart =>
    obtain ⟨L, ht, hp, hh⟩ := h
    exact ⟨v, M, [], L, World.ownsRow_nil _ _ _ _, ht, hp, hh, Mv.refl _ _ _, hs, rfl, (fun g hg => by cases hg), by simpa using hp.length_eq⟩
  case round =>
    clear h hs
    obtain ⟨v2, M2, done, L2, ho, ht, hp, hh, hm, hs2, hd, hap, hcnt⟩ := hrel
    have ht0 := Lib.hid ht.rowLen
    have HN := Lib.hid (next_any wr B T v2 L2 ht)
    have HD := Lib.hid hd
    have HP := Lib.hid hp
    have HH := Lib.hid hh
    have HCN := Lib.hid hcnt
    have HAP := Lib.hid hap
    have hdl : done.length < 1000 := by omega
    have hl2 : L2.length < 1000 := by omega
    have hz := hm.size
    clear hd hp hh hcnt hap
    cases M2 with
    | nil =>
      have hL : L2 = [] := List.perm_nil.1 HP.out
      subst hL
      simp only [ne_eq, not_true_eq_false, decide_false] at HN
      go_wp2_with fail
      refine HN.out.mono ?_
      rintro e w1 ⟨rfl, rfl⟩
      go_wp2
      go_ret
      have hf : dueW M now = (done, []) := by rw [HD.out]; simp [dueW]
      exact ⟨_, v2, rfl, by rw [hf]; exact ho, by rw [hf]; exact ⟨[], ht, HP.out, HH.out⟩, hm, HAP.out⟩
    | cons r M3 =>
      have hL : 0 < L2.length := by rw [HP.out.length_eq]; simp
      have hne : L2 ≠ [] := fun e => by rw [e] at hL; simp at hL
      have hr : rw_ L2 0 = r := head_eq HP.out HH.out hs2
      rw [hr] at HN
      simp only [ne_eq, hne, not_false_eq_true, decide_true] at HN
      obtain ⟨c, cf⟩ := ht.cell
      obtain ⟨g, cap, rfl, hcap, hmx, hg, hgT, a1, a2, hf⟩ := ht.two 0 hL
      rw [← rw_eq L2 0 hL, hr] at a1
      simp only [Nat.zero_mul] at a1
      have HR := Lib.hid hr
      clear hne hr a2 hf
      obtain ⟨r1, r2⟩ := r
      simp only at a1
      by_cases hdue : now < r2
      · have hf : dueW M now = (done, (r1, r2) :: M3) := by rw [HD.out, dueW, if_neg (by simp only; omega)]; simp
        have HF := Lib.hid hf
        clear hf
        go_wp2_with fail
        refine HN.out.mono ?_
        rintro e w1 ⟨rfl, rfl⟩
        go_wp2
        go_ret
        exact ⟨_, _, rfl, by rw [HF.out]; exact ho, by rw [HF.out]; exact ⟨L2, ht, HP.out, HH.out⟩, hm, HAP.out⟩
      · have d1 : decide (now < r2) = false := by simpa using hdue
        have HDD : Hid (dueW M now = ((done ++ [r1]) ++ (dueW M3 now).1, (dueW M3 now).2)) := by
          show _ = _
          rw [HD.out, dueW, if_pos (by simp only; omega)]; simp
        obtain ⟨n, hn⟩ : ∃ n, L2.length = n + 1 := ⟨L2.length - 1, by omega⟩
        have HNN := Lib.hid hn
        have hL2 : (0 : Int) < L2.length := by omega
        clear hdue hn
        go_wp2_with (first
          | (refine HN.out.mono ?_; rintro e w1 ⟨rfl, rfl⟩)
          | (refine append_I (o := ⟨some 34, _, _, _, _, _⟩) rfl _ _ rfl w.heap.size _ done.length done rfl (ho.alloc _) _ _ r1 rfl (cells_one_at _ _ _ _ (by first | rfl | simp)) (by omega) (by simp; omega) ?_; intro v3 w3 ho3 hg3 hat3))
        have hbA : Below wr.heap.size wr (wr.alloc (.cells #[.int .i64 r1] 3)) := (Below.refl _ _).alloc (Nat.le_refl _) _
        have hv1 : ∀ q, u5.ownBlock = some q → w.heap.size ≤ q ∧ q < wr.heap.size := fun q hq => ho.lt q hq
        have hsz3 : wr.heap.size < w3.heap.size := by have := hg3.size; simp at this; omega
        have ht3 := (ht.keep hbA).grown hg3 (fun e => by have := hv1 _ e; omega) (fun q hq e => HAP.out q e hq)
        have hm3 : Mv T w v w3 (.slice (some ⟨g, 0, none⟩) L2.length cap) := (hm.trans (Mv.of_below hbA)).grown hg3 (fun q hq => (hv1 q hq).1)
        have hap3 : ∀ q, v3.ownBlock = some q → q ≠ T ∧ (Value.slice (some ⟨g, 0, none⟩) L2.length cap).ownBlock ≠ some q := by
          intro q hq
          rcases hat3 with e | e
          · rw [e] at hq
            exact ⟨by have := hv1 q hq; omega, HAP.out q hq⟩
          · rw [e] at hq
            injection hq with hq
            simp at hq
            refine ⟨by omega, fun e2 => ?_⟩
            injection e2 with e2
            simp only at e2
            omega
        have HPOP := Lib.hid (hpop_any w3 B T n _ L2 ht3 HNN.out (by have := HNN.out; omega) HH.out)
        unfold ifc at HPOP
        clear hat3 hg3 hv1 ho ht hm hbA
        refine (queue_any _ T).mono ?_
        rintro e w4 ⟨rfl, rfl⟩
        go_wp2_with fail
        refine HPOP.out.mono ?_
        rintro e w5 ⟨⟨y, rfl⟩, v5, L5, ht5, hm5, hp5, hh5⟩
        have ho5 := owns_mv ho3 hm5 (fun e => (hap3 _ e).1 rfl) (fun q hq => (hap3 q hq).2)
        rw [HR.out] at hp5
        have hp6 : L5.Perm M3 := (List.perm_cons (r1, r2)).1 (hp5.trans HP.out)
        have hlen5 : L5.length + 1 = L2.length := by have := hp5.length_eq; simpa using this
        have hlt3 := fun q hq => (ho3.lt q hq).2
        go_wp2
        go_roundw
        case rel =>
          refine ⟨v5, M3, done ++ [r1], L5, by simpa using ho5, ht5, hp6, hh5, hm3.trans hm5, (srt_cons.1 hs2).2.2, HDD.out, fun q hq e => ?_, by have := HCN.out; simp; omega⟩
          rcases hm5.stay q e with h1 | h1
          · exact (hap3 q hq).2 h1
          · have := hlt3 q hq; omega
        case measure => rw [ht5.rowLen, ht0.out]; omega

end Go.Proofs.Ytoiegjfpoamcbaa
