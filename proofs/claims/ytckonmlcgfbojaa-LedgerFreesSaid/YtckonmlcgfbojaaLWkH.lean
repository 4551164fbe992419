/- The walk of own: the four rows. -/
import Derived.Test.YtckonmlcgfbojaaLWkG
namespace Go.Proofs.Ytckonmlcgfbojaa
open Go.RowKit

structure BkB (b : Bk) : Prop where
  nc : b.cs.length < 1000000
  nf : b.free.length < 1000000
  nl : b.ls.length < 1000000
  nb : b.bound.length < 1000000
  each : ∀ l ∈ b.ls, LsB l
/-- A book whose rows are the call's own: its four rows lie from B on, ahead of C; the rows of its leases from C on. -/
structure BkO (w : World) (B C : Nat) (x : BkC) (b : Bk) (xs : List LsC) : Prop where
  rc : w.ownsRow B 25 7 x.c.v b.cs.length (cellsT cCt b.cs)
  rf : w.ownsRow B 78 2 x.f.v b.free.length (cellsR b.free)
  rl : w.ownsRow B 45 7 x.l.v b.ls.length (cellsT cLs xs)
  rb : w.ownsRow B 3 1 x.b.v b.bound.length (cellsI b.bound)
  cl : ∀ g, x.c.v.ownBlock = some g → g < C
  fl : ∀ g, x.f.v.ownBlock = some g → g < C
  ll : ∀ g, x.l.v.ownBlock = some g → g < C
  bl : ∀ g, x.b.v.ownBlock = some g → g < C
  each : All2 (LsO w C) xs b.ls
theorem BkO.m {w : World} {B C : Nat} {x : BkC} {b : Bk} {xs : List LsC} (h : BkO w B C x b xs) : BkM w x b :=
  ⟨sl_of_owns h.rc, sl_of_owns h.rf, ⟨xs, by have := sl_of_owns h.rl; rw [← h.each.len] at this; exact this, h.each.imp (fun _ _ r => r.m)⟩, sl_of_owns h.rb⟩

theorem set_four {w : World} {b : Nat} {a0 a1 a2 a3 : Value} {t : TypeId} (h : w.heap[b]? = some (.cells #[a0, a1, a2, a3] t (0, 0))) (x y z u : Value) :
    ((((w.setCell ⟨b, 0, none⟩ x).setCell ⟨b, 1, none⟩ y).setCell ⟨b, 2, none⟩ z).setCell ⟨b, 3, none⟩ u).heap[b]? = some (.cells #[x, y, z, u] t (0, 0)) := by
  simp [World.setCell, Array.getElem?_modify, h]
theorem set_other4 (w : World) (b c : Nat) (h : b ≠ c) (x y z u : Value) (i j k m : Nat) : ((((w.setCell ⟨b, i, none⟩ x).setCell ⟨b, j, none⟩ y).setCell ⟨b, k, none⟩ z).setCell ⟨b, m, none⟩ u).heap[c]? = w.heap[c]? := by
  simp [World.setCell, Array.getElem?_modify, h]
theorem four_free {w : World} {b : Nat} {a0 a1 a2 a3 : Value} {t : TypeId} (h : w.heap[b]? = some (.cells #[a0, a1, a2, a3] t (0, 0))) (o : Nat) : w.frozen? ⟨b, o, none⟩ = false := by
  simp [World.frozen?, h]


/-- A world that differs in block g alone. -/
theorem owns_ne {w w' : World} {g base : Nat} {e : TypeId} {E : Nat} {v : Value} {n : Nat} {xs : List Value} (h : w.ownsRow base e E v n xs) (hb : ∀ b, b ≠ g → w'.heap[b]? = w.heap[b]?) (hv : v.ownBlock ≠ some g) : w'.ownsRow base e E v n xs := by
  obtain ⟨h1, h2⟩ := h
  refine ⟨h1, ?_⟩
  rcases h2 with h2 | ⟨q, cap, cur, rfl, hg, hh, r⟩
  · exact .inl h2
  · exact .inr ⟨q, cap, cur, rfl, hg, by rw [hb q (fun e => hv (by rw [e]; rfl))]; exact hh, r⟩
/-- Rows of unlike types lie in unlike blocks. -/
theorem own_ty {w : World} {g base : Nat} {e e' : TypeId} {E : Nat} {v : Value} {n : Nat} {xs : List Value} {cur : Array Value} {z : Nat × Nat} (h : w.ownsRow base e E v n xs) (hg : w.heap[g]? = some (.cells cur e' z)) (hne : e ≠ e') : v.ownBlock ≠ some g := by
  obtain ⟨h1, h2⟩ := h
  rcases h2 with ⟨rfl, _⟩ | ⟨q, cap, cu, rfl, _, hh, r⟩
  · intro h; cases h
  · intro h
    injection h with h
    simp only at h
    subst h
    rw [hg] at hh
    injection hh with hh
    injection hh with _ hh _
    exact hne hh.symm
theorem LsO.ne {w w' : World} {g C : Nat} {x : LsC} {l : Ls} (h : LsO w C x l) (hb : ∀ b, b ≠ g → w'.heap[b]? = w.heap[b]?) (hg : g < C) : LsO w' C x l := by
  refine ⟨h.dev, h.epoch, h.unt, h.last, owns_ne h.s hb ?_, owns_ne h.i hb ?_, owns_ne h.u hb ?_⟩
  · intro e; have := owns_ge h.s _ e; omega
  · intro e; have := owns_ge h.i _ e; omega
  · intro e; have := owns_ge h.u _ e; omega
theorem cellsLs_set (l : List LsC) (k : Nat) (hk : k < l.length) (y : LsC) :
    ((((((((cellsT cLs l).set (k * 7) (.int .i64 y.dev)).set (k * 7 + 1) (.int .i64 y.epoch)).set (k * 7 + 2) (.int .i64 y.unt)).set (k * 7 + 3) (.int .i64 y.last)).set (k * 7 + 4) y.s.v).set (k * 7 + 5) y.i.v).set (k * 7 + 6) y.u.v) = cellsT cLs (l.set k y) := by
  induction l generalizing k with
  | nil => simp at hk
  | cons x l ih =>
    cases k with
    | zero => simp [cellsT_cons, cLs]
    | succ k =>
      have e0 : (k + 1) * 7 = k * 7 + 7 := by omega
      rw [List.set_cons_succ, cellsT_cons, cellsT_cons, ← ih k (by simpa using hk)]
      simp only [e0]
      simp [cLs]
theorem set7_other (w : World) (b c : Nat) (h : c ≠ b) (k : Nat) (x0 x1 x2 x3 x4 x5 x6 : Value) :
    (((((((w.setCell ⟨b, k, none⟩ x0).setCell ⟨b, k + 1, none⟩ x1).setCell ⟨b, k + 2, none⟩ x2).setCell ⟨b, k + 3, none⟩ x3).setCell ⟨b, k + 4, none⟩ x4).setCell ⟨b, k + 5, none⟩ x5).setCell ⟨b, k + 6, none⟩ x6).heap[c]? = w.heap[c]? := by
  have h' : ¬ b = c := fun e => h e.symm
  simp [World.setCell, Array.getElem?_modify, h']
theorem owns_set7 {w : World} {base : Nat} {e : TypeId} {g n cap : Nat} {l : List LsC} (h : w.ownsRow base e 7 (.slice (some ⟨g, 0, none⟩) n cap) n (cellsT cLs l)) (k : Nat) (hk : k < l.length) (y : LsC) :
    (((((((w.setCell ⟨g, k * 7, none⟩ (.int .i64 y.dev)).setCell ⟨g, k * 7 + 1, none⟩ (.int .i64 y.epoch)).setCell ⟨g, k * 7 + 2, none⟩ (.int .i64 y.unt)).setCell ⟨g, k * 7 + 3, none⟩ (.int .i64 y.last)).setCell ⟨g, k * 7 + 4, none⟩ y.s.v).setCell ⟨g, k * 7 + 5, none⟩ y.i.v).setCell ⟨g, k * 7 + 6, none⟩ y.u.v).ownsRow base e 7 (.slice (some ⟨g, 0, none⟩) n cap) n (cellsT cLs (l.set k y)) := by
  have hl : (cellsT cLs l).length = l.length * 7 := cellsT_len cLs_len l
  rw [← cellsLs_set l k hk y]
  refine owns_set (owns_set (owns_set (owns_set (owns_set (owns_set (owns_set h _ ?_ _) _ ?_ _) _ ?_ _) _ ?_ _) _ ?_ _) _ ?_ _) _ ?_ _
  all_goals simp only [List.length_set, hl]; omega

/-- The four rows are copied; the leases' own are yet to be. -/
def OwnMid (w : World) (b : Bk) (xs : List LsC) (wx : World) : Prop := ∃ x : BkC,
  wx.heap[w.heap.size]? = some (.cells #[x.c.v, x.f.v, x.l.v, x.b.v] 32 (0, 0)) ∧ wx.heap[w.heap.size + 1]? = some (.cells #[.slice none 0 0, .slice none 0 0, .slice none 0 0, .slice none 0 0] 32 (0, 0)) ∧
  wx.ownsRow (w.heap.size + 2) 25 7 x.c.v b.cs.length (cellsT cCt b.cs) ∧ wx.ownsRow (w.heap.size + 2) 78 2 x.f.v b.free.length (cellsR b.free) ∧
  wx.ownsRow (w.heap.size + 2) 45 7 x.l.v b.ls.length (cellsT cLs xs) ∧ wx.ownsRow (w.heap.size + 2) 3 1 x.b.v b.bound.length (cellsI b.bound) ∧
  Below w.heap.size w wx ∧ w.heap.size + 1 < wx.heap.size

/-- k leases are the call's own; the others are yet to be. -/
structure OwnL (w : World) (C : Nat) (x : BkC) (b : Bk) (ys rest : List LsC) (k : Nat) (wr : World) : Prop where
  each : All2 (LsO wr C) ys (b.ls.take k)
  rl : wr.ownsRow (w.heap.size + 2) 45 7 x.l.v b.ls.length (cellsT cLs (ys ++ rest))
  rc : wr.ownsRow (w.heap.size + 2) 25 7 x.c.v b.cs.length (cellsT cCt b.cs)
  rf : wr.ownsRow (w.heap.size + 2) 78 2 x.f.v b.free.length (cellsR b.free)
  rb : wr.ownsRow (w.heap.size + 2) 3 1 x.b.v b.bound.length (cellsI b.bound)
  k1 : wr.heap[w.heap.size]? = some (.cells #[x.c.v, x.f.v, x.l.v, x.b.v] 32 (0, 0))
  k2 : wr.heap[w.heap.size + 1]? = some (.cells #[.slice none 0 0, .slice none 0 0, .slice none 0 0, .slice none 0 0] 32 (0, 0))
  bel : Below w.heap.size w wr
  big : C ≤ wr.heap.size
theorem OwnL.keep {w wr w' : World} {C k : Nat} {x : BkC} {b : Bk} {ys rest : List LsC} (h : OwnL w C x b ys rest k wr) (hb : Below wr.heap.size wr w') (hz : w.heap.size + 1 < wr.heap.size) : OwnL w C x b ys rest k w' :=
  ⟨h.each.imp (fun _ _ r => r.keep hb (Nat.le_refl _)), owns_keep h.rl hb (Nat.le_refl _), owns_keep h.rc hb (Nat.le_refl _), owns_keep h.rf hb (Nat.le_refl _), owns_keep h.rb hb (Nat.le_refl _),
    block_below h.k1 hb (by omega), block_below h.k2 hb hz, h.bel.trans (hb.mono h.bel.size), Nat.le_trans h.big hb.size⟩
/-- The k-th lease is laid. -/
theorem OwnL.step {w wr : World} {C k g n cap : Nat} {x : BkC} {b : Bk} {ys rest : List LsC} {z y : LsC} (h : OwnL w C x b ys (z :: rest) k wr) (hk : k < b.ls.length) (hx : x.l = ⟨some ⟨g, 0, none⟩, n, cap⟩) (hn : n = b.ls.length) (hy : LsO wr C y b.ls[k]) (hg : g < C) (_hC : w.heap.size + 2 ≤ C) :
    OwnL w C x b (ys ++ [y]) rest (k + 1) (((((((wr.setCell ⟨g, k * 7, none⟩ (.int .i64 y.dev)).setCell ⟨g, k * 7 + 1, none⟩ (.int .i64 y.epoch)).setCell ⟨g, k * 7 + 2, none⟩ (.int .i64 y.unt)).setCell ⟨g, k * 7 + 3, none⟩ (.int .i64 y.last)).setCell ⟨g, k * 7 + 4, none⟩ y.s.v).setCell ⟨g, k * 7 + 5, none⟩ y.i.v).setCell ⟨g, k * 7 + 6, none⟩ y.u.v) := by
  have hlen := h.each.len
  rw [List.length_take] at hlen
  have hlk : ys.length = k := by omega
  have hrow := h.rl
  rw [hx] at hrow
  simp only [Sv.v] at hrow
  subst hn
  have hob := owns_block hrow
  have hgh : ∃ cur, wr.heap[g]? = some (.cells cur 45 (0, 0)) := by
    obtain ⟨_, hv⟩ := hrow
    rcases hv with ⟨hv, _⟩ | ⟨q, cp, cur, hv, _, hh, _⟩
    · cases hv
    · injection hv with hv
      injection hv with hv
      injection hv with hv
      subst hv
      exact ⟨cur, hh⟩
  obtain ⟨cur, hgh⟩ := hgh
  have hoth := fun c (hc : c ≠ g) => set7_other wr g c hc (k * 7) (.int .i64 y.dev) (.int .i64 y.epoch) (.int .i64 y.unt) (.int .i64 y.last) y.s.v y.i.v y.u.v
  have hset := owns_set7 hrow k (by rw [List.length_append]; simp; omega) y
  have e : (ys ++ z :: rest).set k y = ys ++ [y] ++ rest := by
    rw [List.set_append, if_neg (by omega), hlk, Nat.sub_self]; simp
  rw [e] at hset
  have hp := h.bel.size
  refine ⟨?_, by rw [hx]; exact hset, owns_ne h.rc hoth (own_ty h.rc hgh (by decide)), owns_ne h.rf hoth (own_ty h.rf hgh (by decide)), owns_ne h.rb hoth (own_ty h.rb hgh (by decide)), ?_, ?_, ?_, ?_⟩
  · rw [take_snoc b.ls k hk]
    exact All2.append (h.each.imp (fun _ _ r => r.ne hoth hg)) ⟨hy.ne hoth hg, trivial⟩
  · rw [hoth _ (by have := hob.1; omega)]; exact h.k1
  · rw [hoth _ (by have := hob.1; omega)]; exact h.k2
  · have hB : w.heap.size ≤ g := by have := hob.1; omega
    exact ((((((h.bel.setCell hB _).setCell hB _).setCell hB _).setCell hB _).setCell hB _).setCell hB _).setCell hB _
  · simpa [World.setCell] using h.big

theorem OwnL.cells {w wr : World} {C k g n cap : Nat} {x : BkC} {b : Bk} {ys rest : List LsC} {z : LsC} (h : OwnL w C x b ys (z :: rest) k wr) (hk : k < b.ls.length) (hx : x.l = ⟨some ⟨g, 0, none⟩, n, cap⟩) (hn : n = b.ls.length) :
    (wr.cell? ⟨g, k * 7, none⟩ = some (.int .i64 z.dev) ∧ wr.cell? ⟨g, k * 7 + 1, none⟩ = some (.int .i64 z.epoch) ∧ wr.cell? ⟨g, k * 7 + 2, none⟩ = some (.int .i64 z.unt) ∧ wr.cell? ⟨g, k * 7 + 3, none⟩ = some (.int .i64 z.last) ∧ wr.cell? ⟨g, k * 7 + 4, none⟩ = some z.s.v ∧ wr.cell? ⟨g, k * 7 + 5, none⟩ = some z.i.v ∧ wr.cell? ⟨g, k * 7 + 6, none⟩ = some z.u.v) ∧ (∀ o, wr.frozen? ⟨g, o, none⟩ = false) ∧ g < wr.heap.size ∧ w.heap.size + 2 ≤ g ∧ b.ls.length ≤ cap ∧ cap ≤ 9223372036854775807 := by
  have hlen := h.each.len
  rw [List.length_take] at hlen
  have hlk : ys.length = k := by omega
  have hrow := h.rl
  rw [hx] at hrow
  simp only [Sv.v] at hrow
  subst hn
  obtain ⟨p1, p2, p3, p4, p5, p6, p7⟩ := owns_block hrow
  have hat : ∀ j u, j < 7 → (cLs z)[j]? = some u → wr.cell? ⟨g, k * 7 + j, none⟩ = some u := fun j u hj hu => p7 _ _ (by
    rw [cellsT_at cLs_len _ k (by rw [List.length_append]; simp; omega) j hj]
    have : (ys ++ z :: rest)[k]'(by rw [List.length_append]; simp; omega) = z := by
      rw [List.getElem_append_right (by omega)]
      simp [hlk]
    rw [this]; exact hu)
  exact ⟨⟨hat 0 _ (by omega) rfl, hat 1 _ (by omega) rfl, hat 2 _ (by omega) rfl, hat 3 _ (by omega) rfl, hat 4 _ (by omega) rfl, hat 5 _ (by omega) rfl, hat 6 _ (by omega) rfl⟩, p6, p2, p1, p3, p4⟩

def RetBk (w : World) (b : Bk) (e : Ending) (w' : World) : Prop := ∃ (x' : BkC) (xs' : List LsC) (C : Nat), e = .returned (aBk x') ∧ BkO w' w.heap.size C x' b xs' ∧ w.heap.size ≤ C ∧ Below w.heap.size w w'

set_option maxRecDepth 100000 in
set_option maxHeartbeats 8000000 in
theorem ownBk_any (x : BkC) (b : Bk) (w : World) (h : BkM w x b) (hl : BkB b) :
    Calls Try.prog 31 #[aBk x] w (RetBk w b) := by
  obtain ⟨⟨ca, cn, cc⟩, ⟨fa, f_n, fc⟩, ⟨la, ln, lc⟩, ⟨ba, b_n, bc⟩⟩ := x
  obtain ⟨a1, a2, a3, a4⟩ := b
  obtain ⟨hc, hf, ⟨xs, hx, hxa⟩, hu⟩ := h
  obtain ⟨g1, g2, g3, g4, g5⟩ := hl
  have hlx := hxa.len
  simp only at hc hf hx hu g1 g2 g3 g4 g5 hlx hxa
  have HLX := Lib.hid hlx
  have hlx2 : xs.length < 1000000 := by omega
  clear hlx
  have hb1 : Below w.heap.size w ((w.alloc (.cells #[.slice ca cn cc, .slice fa f_n fc, .slice la ln lc, .slice ba b_n bc] 32)).alloc (.cells #[.slice none 0 0, .slice none 0 0, .slice none 0 0, .slice none 0 0] 32)) := ((Below.refl _ _).alloc (Nat.le_refl _) _).alloc (by simp) _
  have k1 := alloc_first w (.cells #[.slice ca cn cc, .slice fa f_n fc, .slice la ln lc, .slice ba b_n bc] 32) (.cells #[.slice none 0 0, .slice none 0 0, .slice none 0 0, .slice none 0 0] 32)
  have k2 := alloc_second w (.cells #[.slice ca cn cc, .slice fa f_n fc, .slice la ln lc, .slice ba b_n bc] 32) (.cells #[.slice none 0 0, .slice none 0 0, .slice none 0 0, .slice none 0 0] 32)
  have hz2 : w.heap.size + 1 < ((w.alloc (.cells #[.slice ca cn cc, .slice fa f_n fc, .slice la ln lc, .slice ba b_n bc] 32)).alloc (.cells #[.slice none 0 0, .slice none 0 0, .slice none 0 0, .slice none 0 0] 32)).heap.size := by simp
  have HK1 := Lib.hid k1
  have HK2 := Lib.hid k2
  clear k1 k2
  change Calls Try.prog _ #[.agg #[.slice ca cn cc, .slice fa f_n fc, .slice la ln lc, .slice ba b_n bc]] w _
  go_enter Try.func31, Try.ntmps31
  go_upto_region 1 with fail
  generalize (w.alloc (.cells #[.slice ca cn cc, .slice fa f_n fc, .slice la ln lc, .slice ba b_n bc] 32)).alloc (.cells #[.slice none 0 0, .slice none 0 0, .slice none 0 0, .slice none 0 0] 32) = w2 at *
  have hc2 := SlT.keep hc hb1 (Nat.le_refl _)
  have hf2 := SlR.keep hf hb1 (Nat.le_refl _)
  have hx2 := SlT.keep hx hb1 (Nat.le_refl _)
  have hu2 := SlI.keep hu hb1 (Nat.le_refl _)
  clear hc hf hx hu
  go_cut [] (fun wx => OwnMid w ⟨a1, a2, a3, a4⟩ xs wx)
  case first =>
    refine wp_region_T 13 (fun w' => Below w2.heap.size w2 w') (by kernel_rfl) ?_
    refine anyT_take (i := 0) (v := .pointer (some ⟨w.heap.size, 0, none⟩)) rfl rfl (by kernel_rfl) (by kernel_rfl) (by kernel_rfl) (by kernel_rfl) (by kernel_rfl) (by decide) (fun _ _ _ h => h) (.inl ⟨rfl, fun w' hw => ?_⟩) (Below.refl _ _).drew ?_
    · go_simp
    refine anyT_take (i := 1) (v := .slice ca cn cc) rfl rfl (by kernel_rfl) (by kernel_rfl) (by kernel_rfl) (by kernel_rfl) (by kernel_rfl) (by decide) (fun _ _ _ h => h) (.inl ⟨rfl, fun w' hw => ?_⟩) (Below.refl _ _).drew ?_
    · obtain ⟨c0, c1, c2, c3, _⟩ := four_cells (block_below HK1.out hw (by omega))
      go_simp
    refine anyT_take (i := 3) (v := .pointer (some ⟨w.heap.size, 1, none⟩)) rfl rfl (by kernel_rfl) (by kernel_rfl) (by kernel_rfl) (by kernel_rfl) (by kernel_rfl) (by decide) (fun _ _ _ h => h) (.inl ⟨rfl, fun w' hw => ?_⟩) (Below.refl _ _).drew ?_
    · go_simp
    refine anyT_take (i := 4) (v := .slice fa f_n fc) rfl rfl (by kernel_rfl) (by kernel_rfl) (by kernel_rfl) (by kernel_rfl) (by kernel_rfl) (by decide) (fun _ _ _ h => h) (.inl ⟨rfl, fun w' hw => ?_⟩) (Below.refl _ _).drew ?_
    · obtain ⟨c0, c1, c2, c3, _⟩ := four_cells (block_below HK1.out hw (by omega))
      go_simp
    refine anyT_take (i := 6) (v := .pointer (some ⟨w.heap.size, 2, none⟩)) rfl rfl (by kernel_rfl) (by kernel_rfl) (by kernel_rfl) (by kernel_rfl) (by kernel_rfl) (by decide) (fun _ _ _ h => h) (.inl ⟨rfl, fun w' hw => ?_⟩) (Below.refl _ _).drew ?_
    · go_simp
    refine anyT_take (i := 7) (v := .slice la ln lc) rfl rfl (by kernel_rfl) (by kernel_rfl) (by kernel_rfl) (by kernel_rfl) (by kernel_rfl) (by decide) (fun _ _ _ h => h) (.inl ⟨rfl, fun w' hw => ?_⟩) (Below.refl _ _).drew ?_
    · obtain ⟨c0, c1, c2, c3, _⟩ := four_cells (block_below HK1.out hw (by omega))
      go_simp
    refine anyT_take (i := 9) (v := .pointer (some ⟨w.heap.size, 3, none⟩)) rfl rfl (by kernel_rfl) (by kernel_rfl) (by kernel_rfl) (by kernel_rfl) (by kernel_rfl) (by decide) (fun _ _ _ h => h) (.inl ⟨rfl, fun w' hw => ?_⟩) (Below.refl _ _).drew ?_
    · go_simp
    refine anyT_take (i := 10) (v := .slice ba b_n bc) rfl rfl (by kernel_rfl) (by kernel_rfl) (by kernel_rfl) (by kernel_rfl) (by kernel_rfl) (by decide) (fun _ _ _ h => h) (.inl ⟨rfl, fun w' hw => ?_⟩) (Below.refl _ _).drew ?_
    · obtain ⟨c0, c1, c2, c3, _⟩ := four_cells (block_below HK1.out hw (by omega))
      go_simp
    refine anyT_one (i := 2) (by kernel_rfl) rfl rfl ?_
    go_simp
    refine (cloneCt_any _ a1 _ (SlT.keep hc2 (Below.refl _ _).drew (Nat.le_refl _)) (by omega)).mono ?_
    rintro e w3 ⟨v3, rfl, ho3, hb3⟩
    have hb3' : Below w2.heap.size w2 w3 := (Below.refl w2.heap.size w2).drew.trans hb3
    refine ⟨hb3', ?_⟩
    refine anyT_take (i := 12) (v := .pointer (some ⟨w.heap.size, 0, none⟩)) rfl rfl (by kernel_rfl) (by kernel_rfl) (by kernel_rfl) (by kernel_rfl) (by kernel_rfl) (by decide) (fun _ _ _ h => h) (.inl ⟨rfl, fun w' hw => ?_⟩) hb3' ?_
    · go_simp
    refine anyT_one (i := 5) (by kernel_rfl) rfl rfl ?_
    go_simp
    refine (cloneRr_any _ a2 _ (SlR.keep hf2 hb3' (Nat.le_refl _)) (by omega)).mono ?_
    rintro e w4 ⟨v4, rfl, ho4, hb4⟩
    have hb4' : Below w2.heap.size w2 w4 := hb3'.trans (hb4.mono hb3'.size)
    refine ⟨hb4', ?_⟩
    refine anyT_one (i := 8) (by kernel_rfl) rfl rfl ?_
    go_simp
    refine (cloneLs_any _ xs _ (SlT.keep hx2 hb4' (Nat.le_refl _)) (by omega)).mono ?_
    rintro e w5 ⟨v5, rfl, ho5, hb5⟩
    have hb5' : Below w2.heap.size w2 w5 := hb4'.trans (hb5.mono hb4'.size)
    refine ⟨hb5', ?_⟩
    refine anyT_one (i := 11) (by kernel_rfl) rfl rfl ?_
    go_simp
    refine (cloneIn_any _ a4 _ (SlI.keep hu2 hb5' (Nat.le_refl _)) (by omega)).mono ?_
    rintro e w6 ⟨v6, rfl, ho6, hb6⟩
    have hb6' : Below w2.heap.size w2 w6 := hb5'.trans (hb6.mono hb5'.size)
    refine ⟨hb6', ?_⟩
    have hz3 := hb3'.size
    have hz4 := hb4'.size
    have hz5 := hb5'.size
    have hz6 := hb6'.size
    have hk5 := block_below HK1.out hb6' (by omega)
    obtain ⟨c0, c1, c2, c3, _⟩ := four_cells hk5
    have f0 := four_free hk5 0
    have f1 := four_free hk5 1
    have f2 := four_free hk5 2
    have f3 := four_free hk5 3
    have o3 := owns_base (base' := w.heap.size + 2) (owns_keep (owns_keep (owns_keep ho3 hb4 (Nat.le_refl _)) hb5 (Nat.le_refl _)) hb6 (Nat.le_refl _)) (by show _ ≤ w2.heap.size; omega)
    have o4 := owns_base (base' := w.heap.size + 2) (owns_keep (owns_keep ho4 hb5 (Nat.le_refl _)) hb6 (Nat.le_refl _)) (by omega)
    have o5 := owns_base (base' := w.heap.size + 2) (owns_keep ho5 hb6 (Nat.le_refl _)) (by omega)
    have o6 := owns_base (base' := w.heap.size + 2) ho6 (by omega)
    rw [HLX.out] at o5
    have HK5 := Lib.hid hk5
    have HK6 := Lib.hid (block_below HK2.out hb6' hz2)
    obtain ⟨ao3, cp3, rfl, _, _⟩ := owns_shape o3
    obtain ⟨ao4, cp4, rfl, _, _⟩ := owns_shape o4
    obtain ⟨ao5, cp5, rfl, _, _⟩ := owns_shape o5
    obtain ⟨ao6, cp6, rfl, _, _⟩ := owns_shape o6
    have hbw : Below w.heap.size w w6 := hb1.trans (hb6'.mono hb1.size)
    clear hk5 ho3 ho4 ho5 ho6 hb3 hb4 hb5 hb6 hb3' hb4' hb5' hb6' hc2 hf2 hx2 hu2
    refine anyT_one (i := 13) (by kernel_rfl) rfl rfl ?_
    go_simp
    refine anyT_one (i := 14) (by kernel_rfl) rfl rfl ?_
    go_simp
    refine anyT_one (i := 15) (by kernel_rfl) rfl rfl ?_
    go_simp
    refine anyT_one (i := 16) (by kernel_rfl) rfl rfl ?_
    go_simp
    refine anyT_one (i := 17) (by kernel_rfl) rfl rfl ?_
    go_simp
    refine anyT_one (i := 18) (by kernel_rfl) rfl rfl ?_
    go_simp
    refine anyT_one (i := 19) (by kernel_rfl) rfl rfl ?_
    go_simp
    refine anyT_done (by kernel_rfl) ?_
    go_wp2
    go_meet
    have hp : w.heap.size < w.heap.size + 2 := by omega
    refine ⟨⟨⟨ao3, _, cp3⟩, ⟨ao4, _, cp4⟩, ⟨ao5, _, cp5⟩, ⟨ao6, _, cp6⟩⟩, set_four HK5.out _ _ _ _, ?_, ?_, ?_, ?_, ?_, ?_, ?_⟩
    · rw [set_other4 _ _ _ (by omega)]; exact HK6.out
    · exact owns_put (owns_put (owns_put (owns_put o3 _ hp _) _ hp _) _ hp _) _ hp _
    · exact owns_put (owns_put (owns_put (owns_put o4 _ hp _) _ hp _) _ hp _) _ hp _
    · exact owns_put (owns_put (owns_put (owns_put o5 _ hp _) _ hp _) _ hp _) _ hp _
    · exact owns_put (owns_put (owns_put (owns_put o6 _ hp _) _ hp _) _ hp _) _ hp _
    · exact (((hbw.setCell (by simp) _).setCell (by simp) _).setCell (by simp) _).setCell (by simp) _
    · simp [World.setCell]; omega
  case rest =>
  obtain ⟨⟨⟨ca2, cn2, cc2⟩, ⟨fa2, fn2, fc2⟩, ⟨la2, ln2, lc2⟩, ⟨ba2, bn2, bc2⟩⟩, hk1, hk2, oc, of_, ol, ob, hbw, hz⟩ := hcut
  simp only [Sv.v] at hk1 hk2 oc of_ ol ob
  obtain ⟨hln, hlcap, hlm⟩ := Sl.lens (s := ⟨la2, ln2, lc2⟩) (sl_of_owns ol)
  simp only at hln hlcap hlm
  subst hln
  have HK3 := Lib.hid hk1
  have HK4 := Lib.hid hk2
  have HOC := Lib.hid oc
  have HOF := Lib.hid of_
  have HOL := Lib.hid ol
  have HOB := Lib.hid ob
  have HXA := Lib.hid hxa
  obtain ⟨C, hC⟩ : ∃ C, C = wc.heap.size := ⟨_, rfl⟩
  have HCE := Lib.hid hC
  have hzC : w.heap.size + 1 < C := by omega
  have HCL : Hid ((∀ g, (Value.slice ca2 cn2 cc2).ownBlock = some g → g < C) ∧ (∀ g, (Value.slice fa2 fn2 fc2).ownBlock = some g → g < C) ∧ (∀ g, (Value.slice la2 a3.length lc2).ownBlock = some g → g < C) ∧ (∀ g, (Value.slice ba2 bn2 bc2).ownBlock = some g → g < C)) := by
    subst hC
    exact ⟨fun g hg => (oc.lt g hg).2, fun g hg => (of_.lt g hg).2, fun g hg => (ol.lt g hg).2, fun g hg => (ob.lt g hg).2⟩
  clear hC
  obtain ⟨c0, c1, c2, c3, _⟩ := four_cells hk1
  clear hk1 hk2 oc of_ ol ob hxa HK1 HK2 hc2 hf2 hx2 hu2 c0 c1 c3
  go_upto_block 0 with fail
  go_cut [24] (fun _ wx => ∃ ys, OwnL w C ⟨⟨ca2, cn2, cc2⟩, ⟨fa2, fn2, fc2⟩, ⟨la2, a3.length, lc2⟩, ⟨ba2, bn2, bc2⟩⟩ ⟨a1, a2, a3, a4⟩ ys [] a3.length wx)
  case first =>
    go_wp2
    go_loopw [24] (fun vi wr => ∃ (k : Nat) (ys : List LsC), k ≤ a3.length ∧ vi = .int .i64 k ∧ OwnL w C ⟨⟨ca2, cn2, cc2⟩, ⟨fa2, fn2, fc2⟩, ⟨la2, a3.length, lc2⟩, ⟨ba2, bn2, bc2⟩⟩ ⟨a1, a2, a3, a4⟩ ys (xs.drop k) k wr) (fun vi _ => a3.length - (intOf vi).toNat)
    case atStart => exact ⟨0, [], Nat.zero_le _, rfl, ⟨trivial, HOL.out, HOC.out, HOF.out, HOB.out, HK3.out, HK4.out, hbw, by rw [HCE.out]; exact Nat.le_refl _⟩⟩
    case round =>
      obtain ⟨k, ys, hk, rfl, hO⟩ := hrel
      rcases Nat.lt_or_ge k a3.length with hlt | hge
      · have hltx : k < xs.length := by rw [HLX.out]; exact hlt
        rw [List.drop_eq_getElem_cons hltx] at hO
        obtain ⟨g, cap, he⟩ := owns_some hO.rl (by show 0 < a3.length; omega)
        injection he with he1 _ he2
        subst he1 he2
        have hgC := HCL.out.2.2.1 g rfl
        have HO := Lib.hid hO
        obtain ⟨⟨c0, c1, c2, c3, c4, c5, c6⟩, _, hg1, hg2, hcap, hcm⟩ := hO.cells hlt rfl rfl
        have hM := All2.at HXA.out k hltx hlt
        have HM := Lib.hid (hM.keep hO.bel (Nat.le_refl _))
        have HB9 := Lib.hid (g5 a3[k] (List.getElem_mem hlt))
        have klt : (k : Int) < a3.length := by omega
        have hzr : w.heap.size + 1 < wr.heap.size := by have := hO.big; omega
        clear hM hO
        generalize xs[k] = z at *
        obtain ⟨z1, z2, z3, z4, ⟨z5, z6, z7⟩, ⟨z8, z9, z10⟩, ⟨z11, z12, z13⟩⟩ := z
        simp only [Sv.v] at c0 c1 c2 c3 c4 c5 c6
        go_upto_region 5 with fail
        clear c0 c1 c2 c3 c4 c5 c6
        have hbA : Below wr.heap.size wr (wr.alloc (.cells #[.int .i64 z1, .int .i64 z2, .int .i64 z3, .int .i64 z4, .slice z5 z6 z7, .slice z8 z9 z10, .slice z11 z12 z13] 45)) := (Below.refl _ _).alloc (Nat.le_refl _) _
        have hnew := heap_alloc_new wr (.cells #[.int .i64 z1, .int .i64 z2, .int .i64 z3, .int .i64 z4, .slice z5 z6 z7, .slice z8 z9 z10, .slice z11 z12 z13] 45)
        have hzA : wr.heap.size < (wr.alloc (.cells #[.int .i64 z1, .int .i64 z2, .int .i64 z3, .int .i64 z4, .slice z5 z6 z7, .slice z8 z9 z10, .slice z11 z12 z13] 45)).heap.size := by simp
        have hOA := HO.out.keep hbA hzr
        have hMA := HM.out.keep hbA (Nat.le_refl _)
        have HNEW := Lib.hid hnew
        have HOA := Lib.hid hOA
        clear hnew hOA HO HM
        generalize wr.alloc (.cells #[.int .i64 z1, .int .i64 z2, .int .i64 z3, .int .i64 z4, .slice z5 z6 z7, .slice z8 z9 z10, .slice z11 z12 z13] 45) = w7 at *
        refine wp_region_T 6 (fun w' => Below w7.heap.size w7 w') (by kernel_rfl) ?_
        refine anyT_take (i := 0) (v := .pointer (some ⟨w.heap.size, 2, none⟩)) rfl rfl (by kernel_rfl) (by kernel_rfl) (by kernel_rfl) (by kernel_rfl) (by kernel_rfl) (by decide) (fun _ _ _ h => h) (.inl ⟨rfl, fun w' hw => ?_⟩) (Below.refl _ _).drew ?_
        · go_simp
        refine anyT_take (i := 1) (v := .slice (some ⟨g, 0, none⟩) a3.length lc2) rfl rfl (by kernel_rfl) (by kernel_rfl) (by kernel_rfl) (by kernel_rfl) (by kernel_rfl) (by decide) (fun _ _ _ h => h) (.inl ⟨rfl, fun w' hw => ?_⟩) (Below.refl _ _).drew ?_
        · obtain ⟨_, _, c2, _, _⟩ := four_cells (block_below HOA.out.k1 hw (by omega))
          go_simp
        refine anyT_take (i := 2) (v := .int .i64 k) rfl rfl (by kernel_rfl) (by kernel_rfl) (by kernel_rfl) (by kernel_rfl) (by kernel_rfl) (by decide) (fun _ _ _ h => h) (.inl ⟨rfl, fun w' hw => ?_⟩) (Below.refl _ _).drew ?_
        · go_simp
        refine anyT_take (i := 3) (v := .agg #[.int .i64 z1, .int .i64 z2, .int .i64 z3, .int .i64 z4, .slice z5 z6 z7, .slice z8 z9 z10, .slice z11 z12 z13]) rfl rfl (by kernel_rfl) (by kernel_rfl) (by kernel_rfl) (by kernel_rfl) (by kernel_rfl) (by decide) (fun _ _ _ h => h) (.inl ⟨rfl, fun w' hw => ?_⟩) (Below.refl _ _).drew ?_
        · obtain ⟨c0, c1, c2, c3, c4, c5, c6, _⟩ := seven_cells (block_below HNEW.out hw hzA)
          go_simp
        refine anyT_one (i := 4) (by kernel_rfl) rfl rfl ?_
        go_simp
        refine (lease_any ⟨z1, z2, z3, z4, ⟨z5, z6, z7⟩, ⟨z8, z9, z10⟩, ⟨z11, z12, z13⟩⟩ a3[k] _ (hMA.keep (Below.refl _ _).drew (Nat.le_refl _)) HB9.out).mono ?_
        rintro e w8 ⟨y, rfl, hy, hb8⟩
        have hb8' : Below w7.heap.size w7 w8 := (Below.refl w7.heap.size w7).drew.trans hb8
        have hO8 := HOA.out.keep hb8' (by omega)
        refine ⟨hb8', ?_⟩
        obtain ⟨⟨c0, c1, c2, c3, c4, c5, c6⟩, hfz, _, _, _, _⟩ := hO8.cells hlt rfl rfl
        have f0 := hfz (k * 7)
        have f1 := hfz (k * 7 + 1)
        have f2 := hfz (k * 7 + 2)
        have f3 := hfz (k * 7 + 3)
        have f4 := hfz (k * 7 + 4)
        have f5 := hfz (k * 7 + 5)
        have f6 := hfz (k * 7 + 6)
        have hy2 : LsO w8 C y a3[k] := ⟨hy.dev, hy.epoch, hy.unt, hy.last, owns_base hy.s (by have := HOA.out.big; exact this), owns_base hy.i (by have := HOA.out.big; exact this), owns_base hy.u (by have := HOA.out.big; exact this)⟩
        have HST := Lib.hid (hO8.step hlt rfl rfl hy2 hgC (by omega))
        clear hfz hO8 hy hy2 hMA
        obtain ⟨y1, y2, y3, y4, ⟨y5, y6, y7⟩, ⟨y8, y9, y10⟩, ⟨y11, y12, y13⟩⟩ := y
        simp only [Sv.v] at c4 c5 c6
        refine anyT_one (i := 5) (by kernel_rfl) rfl rfl ?_
        go_simp
        refine anyT_one (i := 6) (by kernel_rfl) rfl rfl ?_
        go_simp
        refine anyT_done (by kernel_rfl) ?_
        go_wp2
        go_roundw
        case rel => exact ⟨k + 1, _, by omega, by go_num, HST.out⟩
        case measure => simp [intOf]; omega
      · have hk2 : k = a3.length := by omega
        subst hk2
        rw [List.drop_of_length_le (by rw [HLX.out]; omega)] at hO
        have HO := Lib.hid hO
        clear hO
        go_wp2
        go_meet
        exact ⟨ys, HO.out⟩
  case rest =>
  obtain ⟨ys, hO⟩ := hcut
  obtain ⟨c0, c1, c2, c3, _⟩ := four_cells hO.k1
  obtain ⟨d0, d1, d2, d3, _⟩ := four_cells hO.k2
  have f0 := four_free hO.k2 0
  have f1 := four_free hO.k2 1
  have f2 := four_free hO.k2 2
  have f3 := four_free hO.k2 3
  simp only [Sv.v] at c0 c1 c2 c3
  have HO := Lib.hid hO
  have hbz : w.heap.size + 1 < w.heap.size + 2 := by omega
  clear hO
  go_wp2
  refine bodyPost_ret (v := .agg #[.slice ca2 cn2 cc2, .slice fa2 fn2 fc2, .slice la2 a3.length lc2, .slice ba2 bn2 bc2]) (by simp [results, Try.results31, go_sem, *]) rfl ⟨⟨⟨ca2, cn2, cc2⟩, ⟨fa2, fn2, fc2⟩, ⟨la2, a3.length, lc2⟩, ⟨ba2, bn2, bc2⟩⟩, ys, C, rfl, ?_, by omega, ?_⟩
  · have hO := HO.out
    have hev := hO.each
    rw [List.take_of_length_le (Nat.le_refl _)] at hev
    have hrl := hO.rl
    rw [List.append_nil] at hrl
    have hoth := fun c (hc : c ≠ w.heap.size + 1) => set_other4 wc (w.heap.size + 1) c (fun e => hc e.symm) (.slice ca2 cn2 cc2) (.slice fa2 fn2 fc2) (.slice la2 a3.length lc2) (.slice ba2 bn2 bc2) 0 1 2 3
    exact ⟨owns_base (owns_put (owns_put (owns_put (owns_put hO.rc _ hbz _) _ hbz _) _ hbz _) _ hbz _) (by omega), owns_base (owns_put (owns_put (owns_put (owns_put hO.rf _ hbz _) _ hbz _) _ hbz _) _ hbz _) (by omega), owns_base (owns_put (owns_put (owns_put (owns_put hrl _ hbz _) _ hbz _) _ hbz _) _ hbz _) (by omega), owns_base (owns_put (owns_put (owns_put (owns_put hO.rb _ hbz _) _ hbz _) _ hbz _) _ hbz _) (by omega), HCL.out.1, HCL.out.2.1, HCL.out.2.2.1, HCL.out.2.2.2, hev.imp (fun _ _ r => r.ne hoth (by omega))⟩
  · have hO := HO.out
    exact (((hO.bel.setCell (by simp) _).setCell (by simp) _).setCell (by simp) _).setCell (by simp) _

end Go.Proofs.Ytckonmlcgfbojaa
