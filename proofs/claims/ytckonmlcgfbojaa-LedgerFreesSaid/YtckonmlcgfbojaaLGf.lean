/- Plain: what Grant computes. The walk of Grant: its head. What lies in memory when the new lease is laid into the book. -/
import Derived.Test.YtckonmlcgfbojaaLGc
import Derived.Test.YtckonmlcgfbojaaLIn
import Derived.Test.YtckonmlcgfbojaaLGd

namespace Go.Proofs.Ytckonmlcgfbojaa
open Go.RowKit

/-- The wants one by one. -/
def grantGo (b : Bk) (l : Ls) (pre : List Wn) : List Wn → Bk × Ls × Int
  | [] => (b, l, 0)
  | w :: ws => if wnB w = true ∧ pre.any (fun x => decide (x.key = w.key)) = true then (b, l, 7)
    else if wantE b w = 0 then grantGo (wantB b w) (wantL b l w) (pre ++ [w]) ws else (b, l, wantE b w)
def insK (d : Int) (ls : List Ls) : Nat := (ls.takeWhile (fun x => decide (x.dev < d))).length
def insL (l : Ls) (ls : List Ls) : List Ls := ls.take (insK l.dev ls) ++ l :: ls.drop (insK l.dev ls)
def newL (d ep un : Int) : Ls := ⟨d, ep, un, -1, [], [], []⟩
def argOk (d ep un : Int) (n : Nat) : Bool := (decide (0 ≤ d) && decide (d ≤ 5)) && ((decide (1 ≤ ep) && decide (ep ≤ 1073741824)) && ((decide (0 ≤ un) && decide (un ≤ 2199023255552)) && decide (n ≤ 5)))
def grantS (b : Bk) (d ep un : Int) (ws : List Wn) : Bk × Ls × Int :=
  if argOk d ep un ws.length = false then (b, zLs, 1)
  else if b.ls.any (fun l => decide (l.dev = d)) = true then (b, zLs, 19)
  else if (grantGo b (newL d ep un) [] ws).2.2 = 0 then
    (⟨(grantGo b (newL d ep un) [] ws).1.cs, (grantGo b (newL d ep un) [] ws).1.free, insL (grantGo b (newL d ep un) [] ws).2.1 (grantGo b (newL d ep un) [] ws).1.ls, (grantGo b (newL d ep un) [] ws).1.bound⟩, (grantGo b (newL d ep un) [] ws).2.1, 0)
  else (b, zLs, (grantGo b (newL d ep un) [] ws).2.2)

theorem grantGo_is {b : Bk} {l : Ls} {pre ws : List Wn} {w : Wn} (h1 : wnB w = true) (h2 : pre.any (fun x => decide (x.key = w.key)) = true) : grantGo b l pre (w :: ws) = (b, l, 7) := by rw [grantGo, if_pos ⟨h1, h2⟩]
theorem grantGo_err {b : Bk} {l : Ls} {pre ws : List Wn} {w : Wn} (h1 : ¬ (wnB w = true ∧ pre.any (fun x => decide (x.key = w.key)) = true)) (h2 : wantE b w ≠ 0) : grantGo b l pre (w :: ws) = (b, l, wantE b w) := by rw [grantGo, if_neg h1, if_neg h2]
theorem grantGo_ok {b : Bk} {l : Ls} {pre ws : List Wn} {w : Wn} (h1 : ¬ (wnB w = true ∧ pre.any (fun x => decide (x.key = w.key)) = true)) (h2 : wantE b w = 0) : grantGo b l pre (w :: ws) = grantGo (wantB b w) (wantL b l w) (pre ++ [w]) ws := by rw [grantGo, if_neg h1, if_pos h2]

theorem small_takeS (l : List Rg) : ∀ n, 0 ≤ n → Small l → Small (takeS l n).1 ∧ Small (takeS l n).2 := by
  induction l with
  | nil => intro n _ h; exact ⟨h, h⟩
  | cons r l ih =>
    intro n hn h
    have hr := h r (by simp)
    have hl : Small l := fun x hx => h x (by simp [hx])
    unfold takeS
    split
    · exact ⟨fun x hx => by simp at hx, h⟩
    · split
      · refine ⟨fun x hx => ?_, fun x hx => ?_⟩
        · simp at hx; subst hx; simp only; omega
        · rcases List.mem_cons.1 hx with rfl | hx
          · simp only; omega
          · exact hl x hx
      · obtain ⟨i1, i2⟩ := ih (n - (r.2 - r.1)) (by omega) hl
        refine ⟨fun x hx => ?_, i2⟩
        rcases List.mem_cons.1 hx with rfl | hx
        · exact hr
        · exact i1 x hx

/-- A book and a lease behind i wants. -/
structure WtN (i : Nat) (b0 : Bk) (l0 : Ls) (b : Bk) (l : Ls) : Prop where
  nc : b.cs.length = b0.cs.length
  nf : b.free.length ≤ b0.free.length
  ni : l.ids.length ≤ i * b0.free.length
  ns : l.sl.length ≤ i
  small : Small b.free
  ct : ∀ c ∈ b.cs, 0 ≤ c.up ∧ c.up ≤ 2199023255552 ∧ 0 ≤ c.down ∧ c.down ≤ 2199023255552
  ls : b.ls = b0.ls
  bound : b.bound = b0.bound
  dev : l.dev = l0.dev
  epoch : l.epoch = l0.epoch
  unt : l.unt = l0.unt
  last : l.last = l0.last
  used : l.used = []

theorem WtN.zero {b : Bk} {d ep un : Int} (hs : Small b.free) (hc : ∀ c ∈ b.cs, 0 ≤ c.up ∧ c.up ≤ 2199023255552 ∧ 0 ≤ c.down ∧ c.down ≤ 2199023255552) : WtN 0 b (newL d ep un) b (newL d ep un) :=
  ⟨rfl, Nat.le_refl _, by simp [newL], by simp [newL], hs, hc, rfl, rfl, rfl, rfl, rfl, rfl, rfl⟩
theorem WtN.step {i : Nat} {b0 b : Bk} {l0 l : Ls} {w : Wn} (h : WtN i b0 l0 b l) (hw : wantE b w = 0) : WtN (i + 1) b0 l0 (wantB b w) (wantL b l w) := by
  have hC : wantC b w = 0 := by
    unfold wantE at hw
    split at hw
    · assumption
    · exact hw
  obtain ⟨hB, hk⟩ := wantC_zero hC
  obtain ⟨⟨u1, u2⟩, ⟨d1, d2⟩, i1, i2⟩ := wnB_bd hB
  have hlen := length_takeS b.free w.ids
  have hadd := length_addAll (takeS b.free w.ids).1 l.ids
  have hsm := small_takeS b.free w.ids i1 h.small
  have hnf := h.nf
  have hni := h.ni
  have hns := h.ns
  refine ⟨?_, ?_, ?_, ?_, hsm.2, ?_, h.ls, h.bound, h.dev, h.epoch, h.unt, h.last, h.used⟩
  · unfold wantB; simp only
    split
    · exact h.nc
    · rw [List.length_set]; exact h.nc
  · show (takeS b.free w.ids).2.length ≤ _
    omega
  · show (addAll l.ids (takeS b.free w.ids).1).length ≤ _
    rw [Nat.add_mul]; omega
  · unfold wantL; simp only
    split
    · omega
    · simp; omega
  · unfold wantB; simp only
    rcases hk with hk | ⟨hk, h0, h1, h2⟩
    · rw [if_pos hk]; exact h.ct
    · rw [if_neg (by rw [hk]; simp)]
      intro c hc
      rcases List.mem_or_eq_of_mem_set hc with hc | rfl
      · exact h.ct c hc
      · rcases idxS_spec (fun c : Ct => decide (c.key = w.key)) b.cs with ⟨hi, _⟩ | ⟨k, hkk, hi, _, _⟩
        · exact absurd (by rw [show ctIx b.cs w.key = -1 from hi]; decide) h0
        · have e : wnCt b w = b.cs[k] := by unfold wnCt; rw [show ctIx b.cs w.key = k from hi]; simp [List.getD, List.getElem?_eq_getElem hkk]
          rw [e] at h1 h2
          have := h.ct b.cs[k] (List.getElem_mem hkk)
          simp only [e]
          omega
theorem WtN.wtB {i : Nat} {b0 b : Bk} {l0 l : Ls} (h : WtN i b0 l0 b l) (hi : i < 5) (hc : b0.cs.length < 1000) (hf : b0.free.length < 10000) : WtB b l := by
  have h1 := h.nc
  have h2 := h.nf
  have h3 := h.ni
  have h4 := h.ns
  have : i * b0.free.length ≤ 5 * b0.free.length := Nat.mul_le_mul_right _ (by omega)
  exact ⟨by omega, by omega, by omega, by omega, h.small, h.ct⟩
theorem insK_le (d : Int) (ls : List Ls) : insK d ls ≤ ls.length := by unfold insK; exact (List.takeWhile_sublist _).length_le

/-- Where the k-th is not below d, all ahead of it are. -/
theorem insK_at {d : Int} : ∀ {ls : List Ls} {k : Nat}, k ≤ ls.length → (∀ j (hj : j < ls.length), j < k → ls[j].dev < d) → (∀ h : k < ls.length, ¬ ls[k].dev < d) → insK d ls = k := by
  intro ls
  induction ls with
  | nil => intro k hk _ _; simp at hk; subst hk; rfl
  | cons x ls ih =>
    intro k hk h1 h2
    cases k with
    | zero =>
      have := h2 (by simp)
      simp only [List.getElem_cons_zero] at this
      unfold insK
      rw [List.takeWhile_cons_of_neg (by simpa using this)]
      rfl
    | succ k =>
      have hx := h1 0 (by simp) (by omega)
      simp only [List.getElem_cons_zero] at hx
      unfold insK
      rw [List.takeWhile_cons_of_pos (by simpa using hx), List.length_cons]
      congr 1
      exact ih (by simpa using hk) (fun j hj hjk => by have := h1 (j + 1) (by simpa using hj) (by omega); simpa using this) (fun hh => by have := h2 (by simpa using hh); simpa using this)

/-- A book, a lease, an error. -/
def RetGr (w : World) (r : Bk × Ls × Int) (e : Ending) (w' : World) : Prop := ∃ (x' : BkC) (y' : LsC), e = .returned (.tuple #[aBk x', aLs y', .int .i64 r.2.2]) ∧ BkM w' x' r.1 ∧ LsM w' y' r.2.1 ∧ Below w.heap.size w w'

end Go.Proofs.Ytckonmlcgfbojaa

namespace Go.Proofs.Ytckonmlcgfbojaa
open Go.RowKit

theorem lsO_zero (w : World) (B : Nat) : LsO w B zLsC zLs := ⟨rfl, rfl, rfl, rfl, World.ownsRow_nil _ _ _ _, World.ownsRow_nil _ _ _ _, World.ownsRow_nil _ _ _ _⟩
/-- A book, a lease, an error: what lies there is the call's own. -/
def RetGrO (w : World) (r : Bk × Ls × Int) (e : Ending) (w' : World) : Prop := ∃ (x' : BkC) (y' : LsC) (xs : List LsC) (C : Nat), e = .returned (.tuple #[aBk x', aLs y', .int .i64 r.2.2]) ∧ BkO w' w.heap.size C x' r.1 xs ∧ w.heap.size ≤ C ∧ LsO w' w.heap.size y' r.2.1 ∧ Below w.heap.size w w'
theorem RetGrO.weak {w : World} {r : Bk × Ls × Int} {e : Ending} {w' : World} (h : RetGrO w r e w') : RetGr w r e w' := by
  obtain ⟨x', y', xs, C, h1, h2, _, h4, h5⟩ := h
  exact ⟨x', y', h1, h2.m, h4.m, h5⟩

structure GrB (b : Bk) : Prop where
  nc : b.cs.length < 1000
  nf : b.free.length < 10000
  nl : b.ls.length < 10000
  nb : b.bound.length < 100000
  each : ∀ l ∈ b.ls, l.sl.length < 1000 ∧ l.ids.length < 100000 ∧ l.used.length < 100000
  small : Small b.free
  ct : ∀ c ∈ b.cs, 0 ≤ c.up ∧ c.up ≤ 2199023255552 ∧ 0 ≤ c.down ∧ c.down ≤ 2199023255552
theorem GrB.bkb {b : Bk} (h : GrB b) : BkB b := ⟨by have := h.nc; omega, by have := h.nf; omega, by have := h.nl; omega, by have := h.nb; omega, fun l hl => by have := h.each l hl; exact ⟨by omega, by omega, by omega⟩⟩

theorem alloc4 (w : World) (a b c d : Obj) : ∃ W, ((((w.alloc a).alloc b).alloc c).alloc d) = W ∧ W.heap[w.heap.size]? = some a ∧ W.heap[w.heap.size + 1]? = some b ∧ W.heap[w.heap.size + 2]? = some c ∧ W.heap[w.heap.size + 3]? = some d ∧ Below w.heap.size w W ∧ W.heap.size = w.heap.size + 4 := by
  refine ⟨_, rfl, ?_, ?_, ?_, ?_, ?_, ?_⟩
  · rw [Below.heap_alloc _ _ _ (by simp; omega)]; exact alloc3_0 w a b c
  · rw [Below.heap_alloc _ _ _ (by first | (simp; done) | (simp; omega))]; exact alloc3_1 w a b c
  · rw [Below.heap_alloc _ _ _ (by first | (simp; done) | (simp; omega))]; exact alloc3_2 w a b c
  · have h := heap_alloc_new (((w.alloc a).alloc b).alloc c) d
    simpa using h
  · exact ((((Below.refl _ _).alloc (Nat.le_refl _) _).alloc (by simp) _).alloc (by simp; omega) _).alloc (by simp; omega) _
  · simp

theorem argOk_no1 {d ep un : Int} {n : Nat} (h : (decide (0 ≤ d) && decide (d ≤ 5)) = false) : argOk d ep un n = false := by unfold argOk; rw [h]; rfl
theorem grantS_arg {b : Bk} {d ep un : Int} {ws : List Wn} (h : argOk d ep un ws.length = false) : grantS b d ep un ws = (b, zLs, 1) := by unfold grantS; rw [if_pos h]
theorem grantS_open {b : Bk} {d ep un : Int} {ws : List Wn} (h : argOk d ep un ws.length = true) (h2 : b.ls.any (fun l => decide (l.dev = d)) = true) : grantS b d ep un ws = (b, zLs, 19) := by unfold grantS; rw [if_neg (by rw [h]; simp), if_pos h2]
theorem grantS_err {b : Bk} {d ep un : Int} {ws : List Wn} {n : Int} (h : argOk d ep un ws.length = true) (h2 : b.ls.any (fun l => decide (l.dev = d)) = false) (h3 : (grantGo b (newL d ep un) [] ws).2.2 = n) (hn : n ≠ 0) : grantS b d ep un ws = (b, zLs, n) := by
  unfold grantS; rw [if_neg (by rw [h]; simp), if_neg (by rw [h2]; simp), h3, if_neg hn]
theorem grantS_ok {b b' : Bk} {l' : Ls} {d ep un : Int} {ws : List Wn} (h : argOk d ep un ws.length = true) (h2 : b.ls.any (fun l => decide (l.dev = d)) = false) (h3 : grantGo b (newL d ep un) [] ws = (b', l', 0)) : grantS b d ep un ws = (⟨b'.cs, b'.free, insL l' b'.ls, b'.bound⟩, l', 0) := by
  unfold grantS; rw [if_neg (by rw [h]; simp), if_neg (by rw [h2]; simp), h3, if_pos rfl]

/-- The end of a refusal: the book's own copy, no lease, laid into the results. -/
theorem ret_refused {w U U2 : World} {b : Bk} {x : BkC} {xs : List LsC} {C p : Nat} {n : Int} (hw : Below w.heap.size w U) (hb : Below U.heap.size U U2) (ho : BkO U2 U.heap.size C x b xs) (hC : U.heap.size ≤ C) (hp : w.heap.size ≤ p) (hpU : p + 1 < U.heap.size) (y0 y1 y2 y3 y4 y5 y6 : Value) :
    RetGrO w (b, zLs, n) (.returned (.tuple #[aBk x, aLs zLsC, .int .i64 n])) (((((((((((U2.setCell ⟨p, 0, none⟩ x.c.v).setCell ⟨p, 1, none⟩ x.f.v).setCell ⟨p, 2, none⟩ x.l.v).setCell ⟨p, 3, none⟩ x.b.v).setCell ⟨p + 1, 0, none⟩ y0).setCell ⟨p + 1, 1, none⟩ y1).setCell ⟨p + 1, 2, none⟩ y2).setCell ⟨p + 1, 3, none⟩ y3).setCell ⟨p + 1, 4, none⟩ y4).setCell ⟨p + 1, 5, none⟩ y5).setCell ⟨p + 1, 6, none⟩ y6) := by
  have h1 := (((ho.put hC ⟨p, 0, none⟩ (by simp; omega) x.c.v).put hC ⟨p, 1, none⟩ (by simp; omega) x.f.v).put hC ⟨p, 2, none⟩ (by simp; omega) x.l.v).put hC ⟨p, 3, none⟩ (by simp; omega) x.b.v
  have h2 := (((((((h1.put hC ⟨p + 1, 0, none⟩ (by simp; omega) y0).put hC ⟨p + 1, 1, none⟩ (by simp; omega) y1).put hC ⟨p + 1, 2, none⟩ (by simp; omega) y2).put hC ⟨p + 1, 3, none⟩ (by simp; omega) y3).put hC ⟨p + 1, 4, none⟩ (by simp; omega) y4).put hC ⟨p + 1, 5, none⟩ (by simp; omega) y5).put hC ⟨p + 1, 6, none⟩ (by simp; omega) y6)
  refine ⟨x, zLsC, xs, C, rfl, h2.base hw.size, Nat.le_trans hw.size hC, lsO_zero _ _, ?_⟩
  have hbw := hw.trans (hb.mono hw.size)
  exact (((((((((((hbw.setCell (by simp; omega) _).setCell (by simp; omega) _).setCell (by simp; omega) _).setCell (by simp; omega) _).setCell (by simp; omega) _).setCell (by simp; omega) _).setCell (by simp; omega) _).setCell (by simp; omega) _).setCell (by simp; omega) _).setCell (by simp; omega) _).setCell (by simp; omega) _)

set_option maxRecDepth 100000 in
set_option maxHeartbeats 8000000 in
theorem grant_arg (x : BkC) (b : Bk) (dev ep un : Int) (v : Value) (ws : List Wn) (w : World) (h : BkM w x b) (hG : GrB b) (hv : SlWn w v ws) (hA : argOk dev ep un ws.length = false) :
    Calls Try.prog 17 #[aBk x, .int .i64 dev, .int .i64 ep, .int .i64 un, v] w (RetGrO w (grantS b dev ep un ws)) := by
  obtain ⟨⟨ca, cn, cc⟩, ⟨fa, f_n, fc⟩, ⟨la, ln, lc⟩, ⟨ba, b_n, bc⟩⟩ := x
  obtain ⟨ao, cap, rfl, hcap, hcm⟩ := Sl.shape hv
  rw [grantS_arg hA]
  obtain ⟨a1, ha1⟩ : ∃ a1, (decide (0 ≤ dev) && decide (dev ≤ 5)) = a1 := ⟨_, rfl⟩
  obtain ⟨a2, ha2⟩ : ∃ a2, (decide (1 ≤ ep) && decide (ep ≤ 1073741824)) = a2 := ⟨_, rfl⟩
  obtain ⟨a3, ha3⟩ : ∃ a3, (decide (0 ≤ un) && decide (un ≤ 2199023255552)) = a3 := ⟨_, rfl⟩
  have HA1 := Lib.hid ha1
  have HA2 := Lib.hid ha2
  have HA3 := Lib.hid ha3
  unfold argOk at hA
  rw [ha1, ha2, ha3] at hA
  have HAA := Lib.hid hA
  clear ha1 ha2 ha3 hA
  obtain ⟨W1, hW1, k0, k1, k2, k3, hb1, hz1⟩ := alloc4 w (.cells #[.slice ca cn cc, .slice fa f_n fc, .slice la ln lc, .slice ba b_n bc] 32) (.cells #[.int .i64 dev] 3) (.cells #[.slice none 0 0, .slice none 0 0, .slice none 0 0, .slice none 0 0] 32) (.cells #[.int .i64 0, .int .i64 0, .int .i64 0, .int .i64 0, .slice none 0 0, .slice none 0 0, .slice none 0 0] 45)
  have HW1 := Lib.hid hW1
  have HZ1 := Lib.hid hz1
  have hz1' : w.heap.size + 3 < W1.heap.size := by omega
  have K0 := Lib.hid k0
  have K1 := Lib.hid k1
  have K2 := Lib.hid k2
  have K3 := Lib.hid k3
  have HM := Lib.hid (h.keep hb1 (Nat.le_refl _))
  have HBW := Lib.hid hb1
  have HB := Lib.hid hG.bkb
  clear hW1 hz1 k0 k1 k2 k3 hb1 h hG hv
  change Calls Try.prog _ #[.agg #[.slice ca cn cc, .slice fa f_n fc, .slice la ln lc, .slice ba b_n bc], .int .i64 dev, .int .i64 ep, .int .i64 un, .slice ao ws.length cap] w _
  go_enter Try.func17, Try.ntmps17
  go_upto_region 1 with fail
  rw [HW1.out]
  obtain ⟨d0, d1, d2, d3, _⟩ := four_cells K0.out
  have e0 : W1.cell? ⟨w.heap.size + 1, 0, none⟩ = some (.int .i64 dev) := by simp [World.cell?, K1.out]
  have d4 : decide (5 < ws.length) = !decide (ws.length ≤ 5) := by rw [← decide_not]; congr 1; simp
  generalize hnl : decide (ws.length ≤ 5) = a4 at *
  have HN4 := Lib.hid hnl
  clear hnl
  cases a1
  case' true => cases a2
  case' true.true => cases a3
  case' true.true.true => cases a4
  case true.true.true.true => exact absurd HAA.out (by decide)
  all_goals
    clear d4
    try (have h5 : 5 < ws.length := by simpa using HN4.out)
    try (have h6 : (5 : Int) < ws.length := by omega)
    go_wp2_with (first
      | ((go_at_call 29; refine (lwithin_any _ _ _ _).mono ?_); (first | rw [HA1.out] | rw [HA2.out] | rw [HA3.out]); rintro e w9 ⟨rfl, rfl⟩)
      | fail)
    refine (ownBk_any ⟨⟨ca, cn, cc⟩, ⟨fa, f_n, fc⟩, ⟨la, ln, lc⟩, ⟨ba, b_n, bc⟩⟩ b _ HM.out HB.out).mono ?_
    rintro e U2 ⟨⟨⟨da, dn, dc⟩, ⟨ea, e_n, ec⟩, ⟨ma, mn, mc⟩, ⟨na, n_n, nc⟩⟩, xs, C, rfl, ho, hC, hb4⟩
    have HO := Lib.hid ho
    have HC := Lib.hid hC
    have HB4 := Lib.hid hb4
    have hk2 := block_below K2.out hb4 (by omega)
    have hk3 := block_below K3.out hb4 (by omega)
    obtain ⟨r0, r1, r2, r3, _⟩ := four_cells hk2
    have f0 := four_free hk2 0
    have f1 := four_free hk2 1
    have f2 := four_free hk2 2
    have f3 := four_free hk2 3
    obtain ⟨q0, q1, q2, q3, q4, q5, q6, _⟩ := seven_cells hk3
    have f4 := seven_free hk3 0
    have f5 := seven_free hk3 1
    have f6 := seven_free hk3 2
    have f7 := seven_free hk3 3
    have f8 := seven_free hk3 4
    have f9 := seven_free hk3 5
    have f10 := seven_free hk3 6
    clear hb4 hk2 hk3 ho hC
    go_wp2
    refine bodyPost_ret (v := .tuple #[.agg #[.slice da dn dc, .slice ea e_n ec, .slice ma mn mc, .slice na n_n nc], .agg #[.int .i64 0, .int .i64 0, .int .i64 0, .int .i64 0, .slice none 0 0, .slice none 0 0, .slice none 0 0], .int .i64 1]) (by simp [results, Try.results17, go_sem, *]) rfl (show RetGrO _ _ _ _ from ?_)
    exact ret_refused (x := ⟨⟨da, dn, dc⟩, ⟨ea, e_n, ec⟩, ⟨ma, mn, mc⟩, ⟨na, n_n, nc⟩⟩) (p := w.heap.size + 2) HBW.out HB4.out HO.out HC.out (by omega) (by omega) _ _ _ _ _ _ _

end Go.Proofs.Ytckonmlcgfbojaa

namespace Go.Proofs.Ytckonmlcgfbojaa
open Go.RowKit

theorem SlT.take {α : Type} {f : α → List Value} {E : Nat} (hE : ∀ x, (f x).length = E) {w : World} {ao : Option Addr} {cap : Nat} {l : List α} (h : SlT f E w (.slice ao l.length cap) l) (k : Nat) (hk : k ≤ l.length) : SlT f E w (.slice ao k cap) (l.take k) := by
  obtain ⟨h0, ao', cap', h1, h2, h3, h4, h5⟩ := h
  injection h1 with h1 _ h1c
  subst h1 h1c
  have hl : (l.take k).length = k := by rw [List.length_take]; omega
  refine ⟨cellsT_len hE _, ao, cap, by rw [hl], by omega, h3, fun e => ⟨by rw [hl]; have := (h4 e).1; omega, (h4 e).2⟩, fun j u hu => h5 j u ?_⟩
  rw [← cellsT_take hE, List.getElem?_take] at hu
  split at hu
  · exact hu
  · cases hu

theorem Gr.lsCell {B D pb pl : Nat} {w0 W : World} {x : BkC} {b : Bk} {xs : List LsC} {y : LsC} {l : Ls} (h : Gr B D pb pl w0 W x b xs y l) (k : Nat) (hk : k < b.ls.length) : ∃ g cap, x.l = ⟨some ⟨g, 0, none⟩, b.ls.length, cap⟩ ∧ b.ls.length ≤ cap ∧ cap ≤ 9223372036854775807 ∧ g < W.heap.size ∧
    W.cell? ⟨g, k * 7, none⟩ = some (.int .i64 b.ls[k].dev) := by
  obtain ⟨g, cap, he⟩ := owns_some h.rl (by omega)
  have hrl := h.rl
  rw [he] at hrl
  obtain ⟨p1, p2, p3, p4, p5, p6, p7⟩ := owns_block hrl
  have hkx : k < xs.length := by rw [h.each.len]; exact hk
  refine ⟨g, cap, ?_, p3, p4, p2, ?_⟩
  · obtain ⟨_, _, ⟨c1, c2, c3⟩, _⟩ := x
    injection he with e1 e2 e3
    simp only at e1 e2 e3
    subst e1 e2 e3
    rfl
  · rw [← (h.each.at k hkx hk).dev]
    exact p7 _ _ (by rw [← Nat.add_zero (k * 7), cellsT_at cLs_len _ k hkx 0 (by omega)]; rfl)
theorem Gr.lsLen {B D pb pl : Nat} {w0 W : World} {x : BkC} {b : Bk} {xs : List LsC} {y : LsC} {l : Ls} (h : Gr B D pb pl w0 W x b xs y l) : x.l.n = b.ls.length ∧ b.ls.length ≤ x.l.cap ∧ x.l.cap ≤ 9223372036854775807 := Sl.lens (sl_of_owns h.rl)

/-- Behind slices.Insert: the book with one lease more, and the lease, as they lie; pb's third cell is still to be written. -/
theorem Gr.ins {B D pb pl : Nat} {w0 W W8 W9 : World} {x : BkC} {b : Bk} {xs : List LsC} {y y2 : LsC} {l : Ls} {v' : Sv} {k : Nat} (h : Gr B D pb pl w0 W x b xs y l) (hb8 : Below W.heap.size W W8) (hy : LsO W8 B y2 l)
    (ho : W9.ownsRow B 45 7 v'.v (b.ls.length + 1) ((cellsT cLs xs).take (k * 7) ++ cLs y2 ++ (cellsT cLs xs).drop (k * 7))) (hg : W8.grownBy W9 x.l.v.ownBlock) (hk : k ≤ b.ls.length)
    (_hnew : v'.v.ownBlock = x.l.v.ownBlock ∨ ∃ g, v'.v.ownBlock = some g ∧ W8.heap.size ≤ g) :
    BkM (W9.setCell ⟨pb, 2, none⟩ v'.v) ⟨x.c, x.f, v', x.b⟩ ⟨b.cs, b.free, b.ls.take k ++ l :: b.ls.drop k, b.bound⟩ ∧ LsM (W9.setCell ⟨pb, 2, none⟩ v'.v) y l ∧
      (W9.setCell ⟨pb, 2, none⟩ v'.v).heap[pb]? = some (.cells #[x.c.v, x.f.v, v'.v, x.b.v] 32 (0, 0)) ∧
      (W9.setCell ⟨pb, 2, none⟩ v'.v).heap[pl]? = some (.cells #[.int .i64 y.dev, .int .i64 y.epoch, .int .i64 y.unt, .int .i64 y.last, y.s.v, y.i.v, y.u.v] 45 (0, 0)) ∧ Below B w0 (W9.setCell ⟨pb, 2, none⟩ v'.v) ∧
      W9.heap[pb]? = some (.cells #[x.c.v, x.f.v, x.l.v, x.b.v] 32 (0, 0)) ∧ W9.heap[pl]? = some (.cells #[.int .i64 y.dev, .int .i64 y.epoch, .int .i64 y.unt, .int .i64 y.last, y.s.v, y.i.v, y.u.v] 45 (0, 0)) := by
  have h8 := h.keep hb8
  have hne : ∀ {base e E v n zs}, W8.ownsRow base e E v n zs → e ≠ 45 → W9.ownsRow base e E v n zs := fun {base e E v n zs} hr he => by
    refine hr.kept hg ?_
    cases hv : v.ownBlock with
    | none => exact .inl rfl
    | some q =>
      refine .inr (fun hq => ?_)
      rcases hy : x.l.v.ownBlock with _ | q2
      · rw [hy] at hq; cases hq
      · rw [hy] at hq
        obtain ⟨cur, hc⟩ := owns_ty h8.rl hy
        injection hq with hq
        subst hq
        exact own_ty hr hc he hv
  have hpb : W9.heap[pb]? = some (.cells #[x.c.v, x.f.v, x.l.v, x.b.v] 32 (0, 0)) := by
    rw [hg.block pb (Array.getElem?_eq_some_iff.1 h8.kb).1 (fun e => by
      obtain ⟨cur, hc⟩ := owns_ty h8.rl e.symm
      rw [h8.kb] at hc
      injection hc with hc
      injection hc with _ hc _
      exact absurd hc (by decide))]
    exact h8.kb
  have hpl : W9.heap[pl]? = some (.cells #[.int .i64 y.dev, .int .i64 y.epoch, .int .i64 y.unt, .int .i64 y.last, y.s.v, y.i.v, y.u.v] 45 (0, 0)) := by
    rw [hg.block pl (Array.getElem?_eq_some_iff.1 h8.kl).1 (fun e => h8.lpl e.symm)]
    exact h8.kl
  have hbel : Below B w0 W9 := h8.bel.grown hg (Nat.le_trans h.hb (Nat.le_of_lt h8.szb)) (fun g' hg' => (h8.rl.lt g' hg').1)
  have hoth : ∀ c, c ≠ pb → (W9.setCell ⟨pb, 2, none⟩ v'.v).heap[c]? = W9.heap[c]? := fun c hc => set_ne _ _ _ (fun e => hc e.symm) _
  have hkb : (W9.setCell ⟨pb, 2, none⟩ v'.v).heap[pb]? = some (.cells #[x.c.v, x.f.v, v'.v, x.b.v] 32 (0, 0)) := by simp [World.setCell, Array.getElem?_modify, hpb]
  have hLs : ∀ {z : LsC} {m : Ls}, LsO W8 B z m → LsM (W9.setCell ⟨pb, 2, none⟩ v'.v) z m := fun {z m} hz =>
    LsO.m (B := B) ⟨hz.dev, hz.epoch, hz.unt, hz.last, owns_other (hne hz.s (by decide)) hoth hpb (by decide), owns_other (hne hz.i (by decide)) hoth hpb (by decide), owns_other (hne hz.u (by decide)) hoth hpb (by decide)⟩
  have hkx : k ≤ xs.length := by rw [h.each.len]; exact hk
  have hrow := sl_of_owns (owns_other ho hoth hpb (by decide))
  rw [cellsT_take cLs_len, cellsT_drop cLs_len, List.append_assoc, ← cellsT_cons, ← cellsT_append] at hrow
  refine ⟨⟨sl_of_owns (owns_other (hne h8.rc (by decide)) hoth hpb (by decide)), sl_of_owns (owns_other (hne h8.rf (by decide)) hoth hpb (by decide)), ⟨xs.take k ++ y2 :: xs.drop k, ?_, ?_⟩, sl_of_owns (owns_other (hne h8.rb (by decide)) hoth hpb (by decide))⟩, ?_, hkb, (hoth pl (fun e => h.ne e.symm)).trans hpl, hbel.setCell h.hb _, hpb, hpl⟩
  · show Sl _ _ _ _ _
    rw [show (xs.take k ++ y2 :: xs.drop k).length = b.ls.length + 1 by simp only [List.length_append, List.length_take, List.length_cons, List.length_drop]; have := h.each.len; omega]
    exact hrow
  · exact All2.append ((h8.each.take k).imp (fun _ _ r => hLs r)) ⟨hLs hy, (h8.each.drop k).imp (fun _ _ r => hLs r)⟩
  · exact ⟨h.dev, h.epoch, h.unt, h.last, sl_of_owns (owns_other (hne h8.ys (by decide)) hoth hpb (by decide)), sl_of_owns (owns_other (hne h8.yi (by decide)) hoth hpb (by decide)), by rw [h.yu, h.used]; exact Sl.nil _ _⟩

end Go.Proofs.Ytckonmlcgfbojaa
