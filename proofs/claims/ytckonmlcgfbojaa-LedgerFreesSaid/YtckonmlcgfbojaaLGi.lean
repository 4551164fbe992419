/- The walk of Grant: its middle. -/
import Derived.Test.YtckonmlcgfbojaaLGf
import Derived.Test.YtckonmlcgfbojaaLIx
namespace Go.Proofs.Ytckonmlcgfbojaa
open Go.RowKit

structure OwT where
  x : BkC
  xs : List LsC
  C : Nat
abbrev zBkO : Obj := .cells #[.slice none 0 0, .slice none 0 0, .slice none 0 0, .slice none 0 0] 32
abbrev zLsO : Obj := .cells #[.int .i64 0, .int .i64 0, .int .i64 0, .int .i64 0, .slice none 0 0, .slice none 0 0, .slice none 0 0] 45
/-- Own copy, a book's box, a lease's box: as far as they are made. -/
structure St5 (W1 : World) (b : Bk) (V : World) (o : Option OwT) (p q : Option Nat) : Prop where
  bel : Below W1.heap.size W1 V
  own : ∀ t, o = some t → BkO V W1.heap.size t.C t.x b t.xs ∧ W1.heap.size ≤ t.C
  pb : ∀ g, p = some g → V.heap[g]? = some zBkO ∧ W1.heap.size ≤ g
  pl : ∀ g, q = some g → V.heap[g]? = some zLsO ∧ W1.heap.size ≤ g ∧ ∀ t, o = some t → t.x.l.v.ownBlock ≠ some g

section
variable {W1 V V' : World} {b : Bk} {o : Option OwT} {p q : Option Nat}
theorem St5.keep (h : St5 W1 b V o p q) (hb : Below V.heap.size V V') : St5 W1 b V' o p q :=
  ⟨h.bel.trans (hb.mono h.bel.size), fun t ht => ⟨(h.own t ht).1.keep hb, (h.own t ht).2⟩, fun g hg => ⟨block_below (h.pb g hg).1 hb (Array.getElem?_eq_some_iff.1 (h.pb g hg).1).1, (h.pb g hg).2⟩,
    fun g hg => ⟨block_below (h.pl g hg).1 hb (Array.getElem?_eq_some_iff.1 (h.pl g hg).1).1, (h.pl g hg).2⟩⟩
theorem St5.mk0 (h : Below W1.heap.size W1 V) : St5 W1 b V none none none := ⟨h, (fun _ h => by cases h), (fun _ h => by cases h), (fun _ h => by cases h)⟩
theorem St5.addO (h : St5 W1 b V none p q) {C : Nat} {x : BkC} {xs : List LsC} (ho : BkO V' V.heap.size C x b xs) (hC : V.heap.size ≤ C) (hb : Below V.heap.size V V') : St5 W1 b V' (some ⟨x, xs, C⟩) p q := by
  have h' := h.keep hb
  refine ⟨h'.bel, fun t ht => ?_, h'.pb, fun g hg => ⟨(h'.pl g hg).1, (h'.pl g hg).2.1, fun t ht e => ?_⟩⟩
  · injection ht with ht; subst ht; exact ⟨ho.base h.bel.size, Nat.le_trans h.bel.size hC⟩
  · injection ht with ht
    subst ht
    have h1 := owns_ge ho.rl g e
    have h2 := (Array.getElem?_eq_some_iff.1 (h.pl g hg).1).1
    omega
theorem St5.addB (h : St5 W1 b V o none q) : St5 W1 b (V.alloc zBkO) o (some V.heap.size) q := by
  have h' := h.keep ((Below.refl _ _).alloc (Nat.le_refl _) zBkO)
  exact ⟨h'.bel, h'.own, fun g hg => by injection hg with hg; subst hg; exact ⟨heap_alloc_new _ _, h.bel.size⟩, h'.pl⟩
theorem St5.addL (h : St5 W1 b V o p none) : St5 W1 b (V.alloc zLsO) o p (some V.heap.size) := by
  have h' := h.keep ((Below.refl _ _).alloc (Nat.le_refl _) zLsO)
  refine ⟨h'.bel, h'.own, h'.pb, fun g hg => ?_⟩
  injection hg with hg
  subst hg
  refine ⟨heap_alloc_new _ _, h.bel.size, fun t ht e => ?_⟩
  have := ((h.own t ht).1.rl.lt _ e).2
  omega
theorem St5.ne {pb pl : Nat} (h : St5 W1 b V o (some pb) (some pl)) : ¬ pb = pl ∧ ¬ pl = pb := by
  have k1 := (h.pb pb rfl).1
  have k2 := (h.pl pl rfl).1
  have hne : ¬ pb = pl := fun e => by
    rw [e, k2] at k1
    injection k1 with k1
    injection k1 with _ k1 _
    exact absurd k1 (by decide)
  exact ⟨hne, fun e => hne e.symm⟩
theorem St5.gr {x : BkC} {xs : List LsC} {C pb pl : Nat} (h : St5 W1 b V (some ⟨x, xs, C⟩) (some pb) (some pl)) (d ep un : Int) :
    Gr W1.heap.size V.heap.size pb pl W1 (((((((((((V.setCell ⟨pb, 0, none⟩ x.c.v).setCell ⟨pb, 1, none⟩ x.f.v).setCell ⟨pb, 2, none⟩ x.l.v).setCell ⟨pb, 3, none⟩ x.b.v).setCell ⟨pl, 0, none⟩ (.int .i64 d)).setCell ⟨pl, 1, none⟩ (.int .i64 ep)).setCell ⟨pl, 2, none⟩ (.int .i64 un)).setCell ⟨pl, 3, none⟩ (.int .i64 (-1))).setCell ⟨pl, 4, none⟩ (.slice none 0 0)).setCell ⟨pl, 5, none⟩ (.slice none 0 0)).setCell ⟨pl, 6, none⟩ (.slice none 0 0))
      x b xs ⟨d, ep, un, -1, ⟨none, 0, 0⟩, ⟨none, 0, 0⟩, ⟨none, 0, 0⟩⟩ (newL d ep un) := by
  obtain ⟨k1, g1⟩ := h.pb pb rfl
  obtain ⟨k2, g2, g3⟩ := h.pl pl rfl
  have g4 := g3 _ rfl
  obtain ⟨ho, hCC⟩ := h.own _ rfl
  simp only at ho g4 hCC
  have hne : pb ≠ pl := fun e => by
    rw [e, k2] at k1
    injection k1 with k1
    injection k1 with _ k1 _
    exact absurd k1 (by decide)
  have a1 := set_four k1 x.c.v x.f.v x.l.v x.b.v
  have o1 : ∀ c, c ≠ pb → ((((V.setCell ⟨pb, 0, none⟩ x.c.v).setCell ⟨pb, 1, none⟩ x.f.v).setCell ⟨pb, 2, none⟩ x.l.v).setCell ⟨pb, 3, none⟩ x.b.v).heap[c]? = V.heap[c]? := fun c hc => set_other4 V pb c (fun e => hc e.symm) _ _ _ _ 0 1 2 3
  have b1 := (((h.bel.setCell (p := ⟨pb, 0, none⟩) g1 x.c.v).setCell (p := ⟨pb, 1, none⟩) g1 x.f.v).setCell (p := ⟨pb, 2, none⟩) g1 x.l.v).setCell (p := ⟨pb, 3, none⟩) g1 x.b.v
  have z1 : ((((V.setCell ⟨pb, 0, none⟩ x.c.v).setCell ⟨pb, 1, none⟩ x.f.v).setCell ⟨pb, 2, none⟩ x.l.v).setCell ⟨pb, 3, none⟩ x.b.v).heap.size = V.heap.size := size_set4 _ _ _ _ _ _ _ _ _
  rw [← z1]
  have hlow : ∀ z ∈ xs, ∀ g, z.s.v.ownBlock = some g → g < V.heap.size := fun z hz g hg => by
    obtain ⟨i, hi, hzi⟩ := List.getElem_of_mem hz
    have := All2.at ho.each i hi (by rw [← ho.each.len]; exact hi)
    rw [hzi] at this
    exact (this.s.lt g hg).2
  have hbs := h.bel.size
  have rc := owns_other ho.rc o1 k1 (by decide)
  have rf := owns_other ho.rf o1 k1 (by decide)
  have rl := owns_other ho.rl o1 k1 (by decide)
  have rb := owns_other ho.rb o1 k1 (by decide)
  have re := ho.each.imp (fun _ _ r => LsO.other (LsO.base r hCC) o1 k1 (by decide) (by decide) (by decide))
  have k2' := (o1 pl (fun e => hne e.symm)).trans k2
  generalize ((((V.setCell ⟨pb, 0, none⟩ x.c.v).setCell ⟨pb, 1, none⟩ x.f.v).setCell ⟨pb, 2, none⟩ x.l.v).setCell ⟨pb, 3, none⟩ x.b.v) = V5 at *
  have a2 := set_all7 k2' (.int .i64 d) (.int .i64 ep) (.int .i64 un) (.int .i64 (-1)) (.slice none 0 0) (.slice none 0 0) (.slice none 0 0)
  have o2 : ∀ c, c ≠ pl → (((((((V5.setCell ⟨pl, 0, none⟩ (.int .i64 d)).setCell ⟨pl, 1, none⟩ (.int .i64 ep)).setCell ⟨pl, 2, none⟩ (.int .i64 un)).setCell ⟨pl, 3, none⟩ (.int .i64 (-1))).setCell ⟨pl, 4, none⟩ (.slice none 0 0)).setCell ⟨pl, 5, none⟩ (.slice none 0 0)).setCell ⟨pl, 6, none⟩ (.slice none 0 0)).heap[c]? = V5.heap[c]? := fun c hc => by
    have := set7_other V5 pl c hc 0 (.int .i64 d) (.int .i64 ep) (.int .i64 un) (.int .i64 (-1)) (.slice none 0 0) (.slice none 0 0) (.slice none 0 0)
    simpa using this
  have b2 := ((((((b1.setCell (p := ⟨pl, 0, none⟩) g2 (.int .i64 d)).setCell (p := ⟨pl, 1, none⟩) g2 (.int .i64 ep)).setCell (p := ⟨pl, 2, none⟩) g2 (.int .i64 un)).setCell (p := ⟨pl, 3, none⟩) g2 (.int .i64 (-1))).setCell (p := ⟨pl, 4, none⟩) g2 (.slice none 0 0)).setCell (p := ⟨pl, 5, none⟩) g2 (.slice none 0 0)).setCell (p := ⟨pl, 6, none⟩) g2 (.slice none 0 0)
  exact ⟨b2, (o2 pb hne).trans a1, a2, g1, g2, by omega, owns_other rc o2 k2' (by decide), owns_other rf o2 k2' (by decide), owns_ne rl o2 g4, owns_other rb o2 k2' (by decide),
    re.imp (fun _ _ r => LsO.other r o2 k2' (by decide) (by decide) (by decide)), fun z hz g hg => by rw [z1]; exact hlow z hz g hg, g4, rfl, rfl, rfl, rfl, World.ownsRow_nil _ _ _ _, World.ownsRow_nil _ _ _ _, rfl, rfl⟩
end

theorem anyT_gen {P : Program} {ops : Array Oper} {Q : Exit → Act → World → Prop} {md : Region.Mode} {S : World → Prop} {s n : Nat} {l : Array Bool} {a : Act} {w : World} {F : World → Prop} (hF : F w) (h : ∀ V, F V → anyT P md ops Q S s n l a V) : anyT P md ops Q S s n l a w := h w hF
theorem sz_alloc (w : World) (o : Obj) : (w.alloc o).heap.size = w.heap.size + 1 := by simp
theorem sz_drew (w : World) : w.drew.heap.size = w.heap.size := rfl
/-- Three may come up. -/
theorem anyT_three {P : Program} {ops : Array Oper} {Q : Exit → Act → World → Prop} {md : Region.Mode} {S : World → Prop} {s : Nat} {i j k : Nat} {oi oj ok : Oper} {n : Nat} {l : Array Bool} {a : Act} {w : World} (hr : Region.ready md ops l = [i, j, k]) (hi : ops[i]? = some oi) (hj : ops[j]? = some oj) (hk : ops[k]? = some ok) (hgi : oi.guard = none) (hgj : oj.guard = none) (hgk : ok.guard = none)
    (h1 : Oper.wp P oi a w (fun a' w' => ((l.setIfInBounds i true).getD s true = false → S w') ∧ anyT P md ops Q S s n (l.setIfInBounds i true) a' w') Q)
    (h2 : Oper.wp P oj a w (fun a' w' => ((l.setIfInBounds j true).getD s true = false → S w') ∧ anyT P md ops Q S s n (l.setIfInBounds j true) a' w') Q)
    (h3 : Oper.wp P ok a w (fun a' w' => ((l.setIfInBounds k true).getD s true = false → S w') ∧ anyT P md ops Q S s n (l.setIfInBounds k true) a' w') Q) : anyT P md ops Q S s (n + 1) l a w := by
  refine ⟨fun h0 => (by rw [hr] at h0; cases h0), fun q hq => ?_⟩
  rw [hr] at hq
  have : q = i ∨ q = j ∨ q = k := by simpa using hq
  rcases this with rfl | rfl | rfl
  · unfold wpOp
    simp only [hi]
    rw [if_pos (by simp [Region.wanted, hgi])]
    exact .inl h1
  · unfold wpOp
    simp only [hj]
    rw [if_pos (by simp [Region.wanted, hgj])]
    exact .inl h2
  · unfold wpOp
    simp only [hk]
    rw [if_pos (by simp [Region.wanted, hgk])]
    exact .inl h3

/-- Behind k wants. -/
def LoopG (W1 : World) (b : Bk) (l : Ls) (ws : List Wn) (pb pl : Nat) (xs : List LsC) (k : Nat) (wr : World) : Prop := ∃ (D : Nat) (b' : Bk) (l' : Ls) (x : BkC) (y : LsC), grantGo b l [] ws = grantGo b' l' (ws.take k) (ws.drop k) ∧ WtN k b l b' l' ∧ Gr W1.heap.size D pb pl W1 wr x b' xs y l' ∧ D ≤ wr.heap.size

theorem Gr.lowD {B D pb pl : Nat} {w0 W : World} {x : BkC} {b : Bk} {xs : List LsC} {y : LsC} {l : Ls} (h : Gr B D pb pl w0 W x b xs y l) : ∃ D', Gr B D' pb pl w0 W x b xs y l ∧ D' ≤ W.heap.size := by
  refine ⟨min D W.heap.size, ⟨h.bel, h.kb, h.kl, h.hb, h.hl, ?_, h.rc, h.rf, h.rl, h.rb, h.each, fun z hz g hg => ?_, h.lpl, h.dev, h.epoch, h.unt, h.last, owns_base h.ys (Nat.min_le_left _ _), h.yi, h.yu, h.used⟩, Nat.min_le_right _ _⟩
  · have := h.hD; have := h.hb; have := h.szb; omega
  · have h1 := h.low z hz g hg
    obtain ⟨i, hi, hzi⟩ := List.getElem_of_mem hz
    have h2 := All2.at h.each i hi (by rw [← h.each.len]; exact hi)
    rw [hzi] at h2
    have := (h2.s.lt g hg).2
    omega

theorem grant_lsb {b b' : Bk} {d ep un : Int} {l' : Ls} {n : Nat} (h : WtN n b (newL d ep un) b' l') (hg : GrB b) (hn : n ≤ 5) : LsB l' := by
  have h1 := h.ns
  have h2 := h.ni
  have h3 := h.used
  have : n * b.free.length ≤ 5 * b.free.length := Nat.mul_le_mul_right _ hn
  have := hg.nf
  exact ⟨by omega, by omega, by rw [h3]; simp⟩
theorem grant_bkb {b b' : Bk} {d ep un : Int} {l' : Ls} {n m k : Nat} (h : WtN n b (newL d ep un) b' l') (hg : GrB b) (_hk : n ≤ m) (hn : n ≤ 5) : BkB ⟨b'.cs, b'.free, b'.ls.take k ++ l' :: b'.ls.drop k, b'.bound⟩ := by
  have h1 := h.nc
  have h2 := h.nf
  have h3 := hg.nc
  have h4 := hg.nf
  have h5 := hg.nl
  have h6 := hg.nb
  refine ⟨by simp only; omega, by simp only; omega, ?_, by simp only; rw [h.bound]; omega, fun x hx => ?_⟩
  · simp only [List.length_append, List.length_take, List.length_cons, List.length_drop]; rw [h.ls]; omega
  · simp only [List.mem_append, List.mem_cons] at hx
    rcases hx with hx | rfl | hx
    · exact hg.bkb.each x (by rw [← h.ls]; exact List.mem_of_mem_take hx)
    · exact grant_lsb h hg hn
    · exact hg.bkb.each x (by rw [← h.ls]; exact List.mem_of_mem_drop hx)
/-- The end of a grant. -/
theorem ret_granted {w U U2 : World} {b : Bk} {l : Ls} {x : BkC} {y : LsC} {xs : List LsC} {C p : Nat} {n : Int} (hw : Below w.heap.size w U) (hb : Below U.heap.size U U2) (ho : BkO U2 U.heap.size C x b xs) (hC : U.heap.size ≤ C) (hy : LsO U2 U.heap.size y l) (hp : w.heap.size ≤ p) (hpU : p + 1 < U.heap.size) :
    RetGrO w (b, l, n) (.returned (.tuple #[aBk x, aLs y, .int .i64 n])) (((((((((((U2.setCell ⟨p, 0, none⟩ x.c.v).setCell ⟨p, 1, none⟩ x.f.v).setCell ⟨p, 2, none⟩ x.l.v).setCell ⟨p, 3, none⟩ x.b.v).setCell ⟨p + 1, 0, none⟩ (.int .i64 y.dev)).setCell ⟨p + 1, 1, none⟩ (.int .i64 y.epoch)).setCell ⟨p + 1, 2, none⟩ (.int .i64 y.unt)).setCell ⟨p + 1, 3, none⟩ (.int .i64 y.last)).setCell ⟨p + 1, 4, none⟩ y.s.v).setCell ⟨p + 1, 5, none⟩ y.i.v).setCell ⟨p + 1, 6, none⟩ y.u.v) := by
  have h1 := (((ho.put hC ⟨p, 0, none⟩ (by simp; omega) x.c.v).put hC ⟨p, 1, none⟩ (by simp; omega) x.f.v).put hC ⟨p, 2, none⟩ (by simp; omega) x.l.v).put hC ⟨p, 3, none⟩ (by simp; omega) x.b.v
  have h2 := (((((((h1.put hC ⟨p + 1, 0, none⟩ (by simp; omega) (.int .i64 y.dev)).put hC ⟨p + 1, 1, none⟩ (by simp; omega) (.int .i64 y.epoch)).put hC ⟨p + 1, 2, none⟩ (by simp; omega) (.int .i64 y.unt)).put hC ⟨p + 1, 3, none⟩ (by simp; omega) (.int .i64 y.last)).put hC ⟨p + 1, 4, none⟩ (by simp; omega) y.s.v).put hC ⟨p + 1, 5, none⟩ (by simp; omega) y.i.v).put hC ⟨p + 1, 6, none⟩ (by simp; omega) y.u.v)
  have g1 := (((hy.put ⟨p, 0, none⟩ (by simp; omega) x.c.v).put ⟨p, 1, none⟩ (by simp; omega) x.f.v).put ⟨p, 2, none⟩ (by simp; omega) x.l.v).put ⟨p, 3, none⟩ (by simp; omega) x.b.v
  have g2 := (((((((g1.put ⟨p + 1, 0, none⟩ (by simp; omega) (.int .i64 y.dev)).put ⟨p + 1, 1, none⟩ (by simp; omega) (.int .i64 y.epoch)).put ⟨p + 1, 2, none⟩ (by simp; omega) (.int .i64 y.unt)).put ⟨p + 1, 3, none⟩ (by simp; omega) (.int .i64 y.last)).put ⟨p + 1, 4, none⟩ (by simp; omega) y.s.v).put ⟨p + 1, 5, none⟩ (by simp; omega) y.i.v).put ⟨p + 1, 6, none⟩ (by simp; omega) y.u.v)
  refine ⟨x, y, xs, C, rfl, h2.base hw.size, Nat.le_trans hw.size hC, g2.base hw.size, ?_⟩
  have hbw := hw.trans (hb.mono hw.size)
  exact (((((((((((hbw.setCell (by simp; omega) _).setCell (by simp; omega) _).setCell (by simp; omega) _).setCell (by simp; omega) _).setCell (by simp; omega) _).setCell (by simp; omega) _).setCell (by simp; omega) _).setCell (by simp; omega) _).setCell (by simp; omega) _).setCell (by simp; omega) _).setCell (by simp; omega) _)

/-- Behind the head: the book and the lease that are being made. -/
def MidG (W1 : World) (b : Bk) (l : Ls) (v13 v14 : Value) (wx : World) : Prop := ∃ (pb pl D : Nat) (x' : BkC) (xs : List LsC) (y : LsC), v13 = .pointer (some ⟨pb, 0, none⟩) ∧ v14 = .pointer (some ⟨pl, 0, none⟩) ∧ Gr W1.heap.size D pb pl W1 wx x' b xs y l ∧ D ≤ wx.heap.size

set_option maxRecDepth 100000 in
set_option maxHeartbeats 16000000 in
theorem grant_more (x : BkC) (b : Bk) (dev ep un : Int) (v : Value) (ws : List Wn) (w : World) (h : BkM w x b) (hG : GrB b) (hv : SlWn w v ws) (hA : argOk dev ep un ws.length = true) :
    Calls Try.prog 17 #[aBk x, .int .i64 dev, .int .i64 ep, .int .i64 un, v] w (RetGrO w (grantS b dev ep un ws)) := by
  obtain ⟨⟨ca, cn, cc⟩, ⟨fa, f_n, fc⟩, ⟨la, ln, lc⟩, ⟨ba, b_n, bc⟩⟩ := x
  obtain ⟨ao, cap, rfl, hcap, hcm⟩ := Sl.shape hv
  have HAO := Lib.hid hA
  unfold argOk at hA
  simp only [Bool.and_eq_true] at hA
  obtain ⟨ha1, ha2, ha3, ha4⟩ := hA
  have HA1 : Hid ((decide (0 ≤ dev) && decide (dev ≤ 5)) = true) := Lib.hid (by rw [ha1.1, ha1.2]; rfl)
  have HA2 : Hid ((decide (1 ≤ ep) && decide (ep ≤ 1073741824)) = true) := Lib.hid (by rw [ha2.1, ha2.2]; rfl)
  have HA3 : Hid ((decide (0 ≤ un) && decide (un ≤ 2199023255552)) = true) := Lib.hid (by rw [ha3.1, ha3.2]; rfl)
  have h5 : ws.length ≤ 5 := by simpa using ha4
  have h6 : (ws.length : Int) ≤ 5 := by omega
  have h7 : ¬ 5 < ws.length := by omega
  clear ha1 ha2 ha3 ha4
  obtain ⟨W1, hW1, k0, k1, k2, k3, hb1, hz1⟩ := alloc4 w (.cells #[.slice ca cn cc, .slice fa f_n fc, .slice la ln lc, .slice ba b_n bc] 32) (.cells #[.int .i64 dev] 3) (.cells #[.slice none 0 0, .slice none 0 0, .slice none 0 0, .slice none 0 0] 32) (.cells #[.int .i64 0, .int .i64 0, .int .i64 0, .int .i64 0, .slice none 0 0, .slice none 0 0, .slice none 0 0] 45)
  have HW1 := Lib.hid hW1
  have HZ1 := Lib.hid hz1
  have hz1' : w.heap.size + 3 < W1.heap.size := by omega
  have K0 := Lib.hid k0
  have K1 := Lib.hid k1
  have K2 := Lib.hid k2
  have K3 := Lib.hid k3
  have HM := Lib.hid (h.keep hb1 (Nat.le_refl _))
  have HV := Lib.hid (hv.keep hb1 (Nat.le_refl _))
  have HBW := Lib.hid hb1
  have HB := Lib.hid hG.bkb
  have HGB := Lib.hid hG
  obtain ⟨xs0, hx, hxa⟩ := HM.out.l
  have HXA := Lib.hid hxa
  simp only at hx
  clear hW1 hz1 k0 k1 k2 k3 hb1 h hG hv hxa
  change Calls Try.prog _ #[.agg #[.slice ca cn cc, .slice fa f_n fc, .slice la ln lc, .slice ba b_n bc], .int .i64 dev, .int .i64 ep, .int .i64 un, .slice ao ws.length cap] w _
  go_enter Try.func17, Try.ntmps17
  go_upto_region 1 with fail
  rw [HW1.out]
  obtain ⟨d0, d1, d2, d3, _⟩ := four_cells K0.out
  have e0 : W1.cell? ⟨w.heap.size + 1, 0, none⟩ = some (.int .i64 dev) := by simp [World.cell?, K1.out]
  go_wp2_with (first
    | ((go_at_call 29; refine (lwithin_any _ _ _ _).mono ?_); (first | rw [HA1.out] | rw [HA2.out] | rw [HA3.out]); rintro e w9 ⟨rfl, rfl⟩)
    | fail)
  refine (hasLs_any _ xs0 _ _ (fun c => decide (c.dev = dev)) _ hx (asksG1 e0 xs0)).mono ?_
  rintro e U ⟨rfl, hU⟩
  have HANY : Hid (xs0.any (fun c => decide (c.dev = dev)) = b.ls.any (fun l => decide (l.dev = dev))) := Lib.hid (any_all2 HXA.out (fun a c r => by rw [r.dev]))
  rw [HANY.out]
  have HU := Lib.hid hU
  clear hx HXA HANY hU d0 d1 d2 d3 e0
  obtain ⟨q, hq⟩ : ∃ q, b.ls.any (fun l => decide (l.dev = dev)) = q := ⟨_, rfl⟩
  rw [hq]
  have HQ := Lib.hid hq
  clear hq
  cases q with
  | true =>
    have HRES := Lib.hid (grantS_open HAO.out HQ.out)
    obtain ⟨d0, d1, d2, d3, _⟩ := four_cells (block_below K0.out HU.out (by omega))
    have hsz := (HU.out).size
    have HBU := Lib.hid (HBW.out.trans ((HU.out).mono HBW.out.size))
    have HKU2 := Lib.hid (block_below K2.out HU.out (by omega))
    have HKU3 := Lib.hid (block_below K3.out HU.out (by omega))
    go_wp2_with fail
    refine (ownBk_any ⟨⟨ca, cn, cc⟩, ⟨fa, f_n, fc⟩, ⟨la, ln, lc⟩, ⟨ba, b_n, bc⟩⟩ b _ (HM.out.keep HU.out (Nat.le_refl _)) HB.out).mono ?_
    rintro e U2 ⟨⟨⟨da, dn, dc⟩, ⟨ea, e_n, ec⟩, ⟨ma, mn, mc⟩, ⟨na, n_n, nc⟩⟩, xsr, C, rfl, ho, hC, hb4⟩
    have HO := Lib.hid ho
    have HC := Lib.hid hC
    have HB4 := Lib.hid hb4
    have hk2 := block_below HKU2.out hb4 (by omega)
    have hk3 := block_below HKU3.out hb4 (by omega)
    obtain ⟨r0, r1, r2, r3, _⟩ := four_cells hk2
    have f0 := four_free hk2 0
    have f1 := four_free hk2 1
    have f2 := four_free hk2 2
    have f3 := four_free hk2 3
    obtain ⟨q0, q1, q2, q3, q4, q5, q6, _⟩ := seven_cells hk3
    have f4 := seven_free hk3 0
    have f5 := seven_free hk3 1
    have f6 := seven_free hk3 2
    have f7 := seven_free hk3 3
    have f8 := seven_free hk3 4
    have f9 := seven_free hk3 5
    have f10 := seven_free hk3 6
    clear hb4 hk2 hk3 ho hC d0 d1 d2 d3
    go_wp2
    refine bodyPost_ret (v := .tuple #[.agg #[.slice da dn dc, .slice ea e_n ec, .slice ma mn mc, .slice na n_n nc], .agg #[.int .i64 0, .int .i64 0, .int .i64 0, .int .i64 0, .slice none 0 0, .slice none 0 0, .slice none 0 0], .int .i64 19]) (by simp [results, Try.results17, go_sem, *]) rfl (show RetGrO _ _ _ _ from ?_)
    rw [HRES.out]
    exact ret_refused (x := ⟨⟨da, dn, dc⟩, ⟨ea, e_n, ec⟩, ⟨ma, mn, mc⟩, ⟨na, n_n, nc⟩⟩) (p := w.heap.size + 2) HBU.out HB4.out HO.out HC.out (by omega) (by omega) _ _ _ _ _ _ _
  | false =>
    have e0 : U.cell? ⟨w.heap.size + 1, 0, none⟩ = some (.int .i64 dev) := by
      have := block_below K1.out HU.out (by omega)
      simp [World.cell?, this]
    obtain ⟨d0, d1, d2, d3, _⟩ := four_cells (block_below K0.out HU.out (by omega))
    go_upto_region 5 with fail
    have HOWN : Hid (∀ V, Below W1.heap.size W1 V → Calls Try.prog 31 #[.agg #[.slice ca cn cc, .slice fa f_n fc, .slice la ln lc, .slice ba b_n bc]] V (RetBk V b)) := Lib.hid (fun V hV => ownBk_any ⟨⟨ca, cn, cc⟩, ⟨fa, f_n, fc⟩, ⟨la, ln, lc⟩, ⟨ba, b_n, bc⟩⟩ b _ (HM.out.keep hV (Nat.le_refl _)) HB.out)
    have KS : Hid (∀ V, Below W1.heap.size W1 V → (Below W1.heap.size W1 V ∧ V.cell? ⟨w.heap.size, 0, none⟩ = some (.slice ca cn cc) ∧ V.cell? ⟨w.heap.size, 1, none⟩ = some (.slice fa f_n fc) ∧ V.cell? ⟨w.heap.size, 2, none⟩ = some (.slice la ln lc) ∧ V.cell? ⟨w.heap.size, 3, none⟩ = some (.slice ba b_n bc) ∧ V.cell? ⟨w.heap.size + 1, 0, none⟩ = some (.int .i64 dev))) :=
      Lib.hid (fun V hV => by
        obtain ⟨e0, e1, e2, e3, _⟩ := four_cells (block_below K0.out hV (by omega))
        have hh := block_below K1.out hV (by omega)
        exact ⟨hV, e0, e1, e2, e3, by simp [World.cell?, hh]⟩)
    have hU := HU.out
    go_cut [13, 14] (fun v13 v14 wx => MidG W1 b (newL dev ep un) v13 v14 wx)
    case first =>
      have hS0 : Below W1.heap.size W1 U.drew := hU.drew
      have HS0 : Hid (St5 W1 b U.drew none none none) := Lib.hid (St5.mk0 hS0)
      clear d0 d1 d2 d3 e0
      refine wp_region_T 9 (fun w' => Below W1.heap.size W1 w') (by kernel_rfl) ?_
      refine anyT_take (i := 0) (v := .agg #[.slice ca cn cc, .slice fa f_n fc, .slice la ln lc, .slice ba b_n bc]) rfl rfl (by kernel_rfl) (by kernel_rfl) (by kernel_rfl) (by kernel_rfl) (by kernel_rfl) (by decide) (fun _ _ _ h => h) (.inl ⟨rfl, fun w' hw => ?_⟩) hS0 ?_
      · obtain ⟨_, d0, d1, d2, d3, _⟩ := KS.out _ hw
        go_simp
      refine anyT_take (i := 2) (v := .int .i64 dev) rfl rfl (by kernel_rfl) (by kernel_rfl) (by kernel_rfl) (by kernel_rfl) (by kernel_rfl) (by decide) (fun _ _ _ h => h) (.inl ⟨rfl, fun w' hw => ?_⟩) hS0 ?_
      · obtain ⟨_, _, _, _, _, e0⟩ := KS.out _ hw
        go_simp
      refine anyT_take (i := 3) (v := .int .i64 ep) rfl rfl (by kernel_rfl) (by kernel_rfl) (by kernel_rfl) (by kernel_rfl) (by kernel_rfl) (by decide) (fun _ _ _ h => h) (.inl ⟨rfl, fun w' hw => ?_⟩) hS0 ?_
      · go_simp
      refine anyT_take (i := 4) (v := .int .i64 un) rfl rfl (by kernel_rfl) (by kernel_rfl) (by kernel_rfl) (by kernel_rfl) (by kernel_rfl) (by decide) (fun _ _ _ h => h) (.inl ⟨rfl, fun w' hw => ?_⟩) hS0 ?_
      · go_simp
      refine anyT_take (i := 5) (v := .agg #[.int .i64 dev, .int .i64 ep, .int .i64 un, .int .i64 (-1), .slice none 0 0, .slice none 0 0, .slice none 0 0]) rfl rfl (by kernel_rfl) (by kernel_rfl) (by kernel_rfl) (by kernel_rfl) (by kernel_rfl) (by decide) (fun _ _ _ h => h) (.inl ⟨rfl, fun w' hw => ?_⟩) hS0 ?_
      · go_simp
      refine anyT_three (i := 1) (j := 6) (k := 7) (by kernel_rfl) rfl rfl rfl rfl rfl rfl ?_ ?_ ?_
      · go_simp
        refine (HOWN.out _ HS0.out.bel).mono ?_
        rintro en w9 ⟨⟨⟨da, dn, dc⟩, ⟨ea, e_n, ec⟩, ⟨ma, mn, mc⟩, ⟨na, n_n, nc⟩⟩, xsr, C, rfl, ho, hC, hb4⟩
        have HS1 := Lib.hid (HS0.out.addO ho hC hb4)
        clear ho hC hb4
        try go_simp
        refine ⟨HS1.out.bel, ?_⟩
        refine anyT_two (i := 6) (j := 7) (by kernel_rfl) rfl rfl rfl rfl ?_ ?_
        · go_simp
          have HS2 := Lib.hid HS1.out.addB
          refine ⟨HS2.out.bel, ?_⟩
          refine anyT_one (i := 7) (by kernel_rfl) rfl rfl ?_
          · go_simp
            have HS3 := Lib.hid HS2.out.addL
            refine ⟨HS3.out.bel, ?_⟩
            have hs := HS3.out
            simp only [sz_alloc] at hs
            refine anyT_gen (F := fun V => St5 W1 b V (some ⟨⟨⟨da, dn, dc⟩, ⟨ea, e_n, ec⟩, ⟨ma, mn, mc⟩, ⟨na, n_n, nc⟩⟩, xsr, C⟩) (some _) (some _)) hs (fun V HV => ?_)
            have HGR := Lib.hid (HV.gr dev ep un)
            obtain ⟨kb1, kb2⟩ := HV.pb _ rfl
            obtain ⟨kl1, kl2, _⟩ := HV.pl _ rfl
            have hbz := HV.bel
            obtain ⟨hn1, hn2⟩ := HV.ne
            obtain ⟨s0, s1, s2, s3, _⟩ := four_cells kb1
            obtain ⟨t0, t1, t2, t3, t4, t5, t6, _⟩ := seven_cells kl1
            have u0 := four_free kb1 0
            have u1 := four_free kb1 1
            have u2 := four_free kb1 2
            have u3 := four_free kb1 3
            have x0 := seven_free kl1 0
            have x1 := seven_free kl1 1
            have x2 := seven_free kl1 2
            have x3 := seven_free kl1 3
            have x4 := seven_free kl1 4
            have x5 := seven_free kl1 5
            have x6 := seven_free kl1 6
            clear hs HV HS3 kb1 kl1
            refine anyT_one (i := 8) (by kernel_rfl) rfl rfl ?_
            go_simp
            refine ⟨(((hbz.setCell kb2 _).setCell kb2 _).setCell kb2 _).setCell kb2 _, ?_⟩
            refine anyT_one (i := 9) (by kernel_rfl) rfl rfl ?_
            go_simp
            refine anyT_done (by kernel_rfl) ?_
            go_wp2
            go_meet
            exact ⟨_, _, _, _, _, _, rfl, rfl, HGR.out, by simp [World.setCell]⟩
        · go_simp
          have HS2 := Lib.hid HS1.out.addL
          refine ⟨HS2.out.bel, ?_⟩
          refine anyT_one (i := 6) (by kernel_rfl) rfl rfl ?_
          · go_simp
            have HS3 := Lib.hid HS2.out.addB
            refine ⟨HS3.out.bel, ?_⟩
            have hs := HS3.out
            simp only [sz_alloc] at hs
            refine anyT_gen (F := fun V => St5 W1 b V (some ⟨⟨⟨da, dn, dc⟩, ⟨ea, e_n, ec⟩, ⟨ma, mn, mc⟩, ⟨na, n_n, nc⟩⟩, xsr, C⟩) (some _) (some _)) hs (fun V HV => ?_)
            have HGR := Lib.hid (HV.gr dev ep un)
            obtain ⟨kb1, kb2⟩ := HV.pb _ rfl
            obtain ⟨kl1, kl2, _⟩ := HV.pl _ rfl
            have hbz := HV.bel
            obtain ⟨hn1, hn2⟩ := HV.ne
            obtain ⟨s0, s1, s2, s3, _⟩ := four_cells kb1
            obtain ⟨t0, t1, t2, t3, t4, t5, t6, _⟩ := seven_cells kl1
            have u0 := four_free kb1 0
            have u1 := four_free kb1 1
            have u2 := four_free kb1 2
            have u3 := four_free kb1 3
            have x0 := seven_free kl1 0
            have x1 := seven_free kl1 1
            have x2 := seven_free kl1 2
            have x3 := seven_free kl1 3
            have x4 := seven_free kl1 4
            have x5 := seven_free kl1 5
            have x6 := seven_free kl1 6
            clear hs HV HS3 kb1 kl1
            refine anyT_one (i := 8) (by kernel_rfl) rfl rfl ?_
            go_simp
            refine ⟨(((hbz.setCell kb2 _).setCell kb2 _).setCell kb2 _).setCell kb2 _, ?_⟩
            refine anyT_one (i := 9) (by kernel_rfl) rfl rfl ?_
            go_simp
            refine anyT_done (by kernel_rfl) ?_
            go_wp2
            go_meet
            exact ⟨_, _, _, _, _, _, rfl, rfl, HGR.out, by simp [World.setCell]⟩
      · go_simp
        have HS1 := Lib.hid HS0.out.addB
        refine ⟨HS1.out.bel, ?_⟩
        refine anyT_two (i := 1) (j := 7) (by kernel_rfl) rfl rfl rfl rfl ?_ ?_
        · go_simp
          refine (HOWN.out _ HS1.out.bel).mono ?_
          rintro en w9 ⟨⟨⟨da, dn, dc⟩, ⟨ea, e_n, ec⟩, ⟨ma, mn, mc⟩, ⟨na, n_n, nc⟩⟩, xsr, C, rfl, ho, hC, hb4⟩
          have HS2 := Lib.hid (HS1.out.addO ho hC hb4)
          clear ho hC hb4
          try go_simp
          refine ⟨HS2.out.bel, ?_⟩
          refine anyT_one (i := 7) (by kernel_rfl) rfl rfl ?_
          · go_simp
            have HS3 := Lib.hid HS2.out.addL
            refine ⟨HS3.out.bel, ?_⟩
            have hs := HS3.out
            simp only [sz_drew] at hs
            refine anyT_gen (F := fun V => St5 W1 b V (some ⟨⟨⟨da, dn, dc⟩, ⟨ea, e_n, ec⟩, ⟨ma, mn, mc⟩, ⟨na, n_n, nc⟩⟩, xsr, C⟩) (some _) (some _)) hs (fun V HV => ?_)
            have HGR := Lib.hid (HV.gr dev ep un)
            obtain ⟨kb1, kb2⟩ := HV.pb _ rfl
            obtain ⟨kl1, kl2, _⟩ := HV.pl _ rfl
            have hbz := HV.bel
            obtain ⟨hn1, hn2⟩ := HV.ne
            obtain ⟨s0, s1, s2, s3, _⟩ := four_cells kb1
            obtain ⟨t0, t1, t2, t3, t4, t5, t6, _⟩ := seven_cells kl1
            have u0 := four_free kb1 0
            have u1 := four_free kb1 1
            have u2 := four_free kb1 2
            have u3 := four_free kb1 3
            have x0 := seven_free kl1 0
            have x1 := seven_free kl1 1
            have x2 := seven_free kl1 2
            have x3 := seven_free kl1 3
            have x4 := seven_free kl1 4
            have x5 := seven_free kl1 5
            have x6 := seven_free kl1 6
            clear hs HV HS3 kb1 kl1
            refine anyT_one (i := 8) (by kernel_rfl) rfl rfl ?_
            go_simp
            refine ⟨(((hbz.setCell kb2 _).setCell kb2 _).setCell kb2 _).setCell kb2 _, ?_⟩
            refine anyT_one (i := 9) (by kernel_rfl) rfl rfl ?_
            go_simp
            refine anyT_done (by kernel_rfl) ?_
            go_wp2
            go_meet
            exact ⟨_, _, _, _, _, _, rfl, rfl, HGR.out, by simp [World.setCell]⟩
        · go_simp
          have HS2 := Lib.hid HS1.out.addL
          refine ⟨HS2.out.bel, ?_⟩
          refine anyT_one (i := 1) (by kernel_rfl) rfl rfl ?_
          · go_simp
            refine (HOWN.out _ HS2.out.bel).mono ?_
            rintro en w9 ⟨⟨⟨da, dn, dc⟩, ⟨ea, e_n, ec⟩, ⟨ma, mn, mc⟩, ⟨na, n_n, nc⟩⟩, xsr, C, rfl, ho, hC, hb4⟩
            have HS3 := Lib.hid (HS2.out.addO ho hC hb4)
            clear ho hC hb4
            try go_simp
            refine ⟨HS3.out.bel, ?_⟩
            have hs := HS3.out
            simp only [sz_alloc, sz_drew] at hs
            refine anyT_gen (F := fun V => St5 W1 b V (some ⟨⟨⟨da, dn, dc⟩, ⟨ea, e_n, ec⟩, ⟨ma, mn, mc⟩, ⟨na, n_n, nc⟩⟩, xsr, C⟩) (some _) (some _)) hs (fun V HV => ?_)
            have HGR := Lib.hid (HV.gr dev ep un)
            obtain ⟨kb1, kb2⟩ := HV.pb _ rfl
            obtain ⟨kl1, kl2, _⟩ := HV.pl _ rfl
            have hbz := HV.bel
            obtain ⟨hn1, hn2⟩ := HV.ne
            obtain ⟨s0, s1, s2, s3, _⟩ := four_cells kb1
            obtain ⟨t0, t1, t2, t3, t4, t5, t6, _⟩ := seven_cells kl1
            have u0 := four_free kb1 0
            have u1 := four_free kb1 1
            have u2 := four_free kb1 2
            have u3 := four_free kb1 3
            have x0 := seven_free kl1 0
            have x1 := seven_free kl1 1
            have x2 := seven_free kl1 2
            have x3 := seven_free kl1 3
            have x4 := seven_free kl1 4
            have x5 := seven_free kl1 5
            have x6 := seven_free kl1 6
            clear hs HV HS3 kb1 kl1
            refine anyT_one (i := 8) (by kernel_rfl) rfl rfl ?_
            go_simp
            refine ⟨(((hbz.setCell kb2 _).setCell kb2 _).setCell kb2 _).setCell kb2 _, ?_⟩
            refine anyT_one (i := 9) (by kernel_rfl) rfl rfl ?_
            go_simp
            refine anyT_done (by kernel_rfl) ?_
            go_wp2
            go_meet
            exact ⟨_, _, _, _, _, _, rfl, rfl, HGR.out, by simp [World.setCell]⟩
      · go_simp
        have HS1 := Lib.hid HS0.out.addL
        refine ⟨HS1.out.bel, ?_⟩
        refine anyT_two (i := 1) (j := 6) (by kernel_rfl) rfl rfl rfl rfl ?_ ?_
        · go_simp
          refine (HOWN.out _ HS1.out.bel).mono ?_
          rintro en w9 ⟨⟨⟨da, dn, dc⟩, ⟨ea, e_n, ec⟩, ⟨ma, mn, mc⟩, ⟨na, n_n, nc⟩⟩, xsr, C, rfl, ho, hC, hb4⟩
          have HS2 := Lib.hid (HS1.out.addO ho hC hb4)
          clear ho hC hb4
          try go_simp
          refine ⟨HS2.out.bel, ?_⟩
          refine anyT_one (i := 6) (by kernel_rfl) rfl rfl ?_
          · go_simp
            have HS3 := Lib.hid HS2.out.addB
            refine ⟨HS3.out.bel, ?_⟩
            have hs := HS3.out
            simp only [sz_drew] at hs
            refine anyT_gen (F := fun V => St5 W1 b V (some ⟨⟨⟨da, dn, dc⟩, ⟨ea, e_n, ec⟩, ⟨ma, mn, mc⟩, ⟨na, n_n, nc⟩⟩, xsr, C⟩) (some _) (some _)) hs (fun V HV => ?_)
            have HGR := Lib.hid (HV.gr dev ep un)
            obtain ⟨kb1, kb2⟩ := HV.pb _ rfl
            obtain ⟨kl1, kl2, _⟩ := HV.pl _ rfl
            have hbz := HV.bel
            obtain ⟨hn1, hn2⟩ := HV.ne
            obtain ⟨s0, s1, s2, s3, _⟩ := four_cells kb1
            obtain ⟨t0, t1, t2, t3, t4, t5, t6, _⟩ := seven_cells kl1
            have u0 := four_free kb1 0
            have u1 := four_free kb1 1
            have u2 := four_free kb1 2
            have u3 := four_free kb1 3
            have x0 := seven_free kl1 0
            have x1 := seven_free kl1 1
            have x2 := seven_free kl1 2
            have x3 := seven_free kl1 3
            have x4 := seven_free kl1 4
            have x5 := seven_free kl1 5
            have x6 := seven_free kl1 6
            clear hs HV HS3 kb1 kl1
            refine anyT_one (i := 8) (by kernel_rfl) rfl rfl ?_
            go_simp
            refine ⟨(((hbz.setCell kb2 _).setCell kb2 _).setCell kb2 _).setCell kb2 _, ?_⟩
            refine anyT_one (i := 9) (by kernel_rfl) rfl rfl ?_
            go_simp
            refine anyT_done (by kernel_rfl) ?_
            go_wp2
            go_meet
            exact ⟨_, _, _, _, _, _, rfl, rfl, HGR.out, by simp [World.setCell]⟩
        · go_simp
          have HS2 := Lib.hid HS1.out.addB
          refine ⟨HS2.out.bel, ?_⟩
          refine anyT_one (i := 1) (by kernel_rfl) rfl rfl ?_
          · go_simp
            refine (HOWN.out _ HS2.out.bel).mono ?_
            rintro en w9 ⟨⟨⟨da, dn, dc⟩, ⟨ea, e_n, ec⟩, ⟨ma, mn, mc⟩, ⟨na, n_n, nc⟩⟩, xsr, C, rfl, ho, hC, hb4⟩
            have HS3 := Lib.hid (HS2.out.addO ho hC hb4)
            clear ho hC hb4
            try go_simp
            refine ⟨HS3.out.bel, ?_⟩
            have hs := HS3.out
            simp only [sz_alloc, sz_drew] at hs
            refine anyT_gen (F := fun V => St5 W1 b V (some ⟨⟨⟨da, dn, dc⟩, ⟨ea, e_n, ec⟩, ⟨ma, mn, mc⟩, ⟨na, n_n, nc⟩⟩, xsr, C⟩) (some _) (some _)) hs (fun V HV => ?_)
            have HGR := Lib.hid (HV.gr dev ep un)
            obtain ⟨kb1, kb2⟩ := HV.pb _ rfl
            obtain ⟨kl1, kl2, _⟩ := HV.pl _ rfl
            have hbz := HV.bel
            obtain ⟨hn1, hn2⟩ := HV.ne
            obtain ⟨s0, s1, s2, s3, _⟩ := four_cells kb1
            obtain ⟨t0, t1, t2, t3, t4, t5, t6, _⟩ := seven_cells kl1
            have u0 := four_free kb1 0
            have u1 := four_free kb1 1
            have u2 := four_free kb1 2
            have u3 := four_free kb1 3
            have x0 := seven_free kl1 0
            have x1 := seven_free kl1 1
            have x2 := seven_free kl1 2
            have x3 := seven_free kl1 3
            have x4 := seven_free kl1 4
            have x5 := seven_free kl1 5
            have x6 := seven_free kl1 6
            clear hs HV HS3 kb1 kl1
            refine anyT_one (i := 8) (by kernel_rfl) rfl rfl ?_
            go_simp
            refine ⟨(((hbz.setCell kb2 _).setCell kb2 _).setCell kb2 _).setCell kb2 _, ?_⟩
            refine anyT_one (i := 9) (by kernel_rfl) rfl rfl ?_
            go_simp
            refine anyT_done (by kernel_rfl) ?_
            go_wp2
            go_meet
            exact ⟨_, _, _, _, _, _, rfl, rfl, HGR.out, by simp [World.setCell]⟩
    case rest =>
    obtain ⟨pb, pl, D, x', xs, y0, rfl, rfl, hGr, hD⟩ := hcut
    have hpbl := hGr.ne
    have hHB := hGr.hb
    have hHL := hGr.hl
    have HREL : Hid (LoopG W1 b (newL dev ep un) ws pb pl xs 0 wc) := Lib.hid ⟨D, b, newL dev ep un, x', y0, by first | rfl | (rw [List.take_zero, List.drop_zero]), WtN.zero HGB.out.small HGB.out.ct, hGr, hD⟩
    clear hGr hD KS HOWN hU e0 d0 d1 d2 d3 D
    go_wp2
    go_loopw [58] (fun v58 wr => ∃ k : Nat, k ≤ ws.length ∧ v58 = .int .i64 k ∧ LoopG W1 b (newL dev ep un) ws pb pl xs k wr) (fun v58 _ => ws.length - (intOf v58).toNat)
    case atStart => exact ⟨0, Nat.zero_le _, rfl, HREL.out⟩
    case round =>
      obtain ⟨k, hk, rfl, hL⟩ := hrel
      obtain ⟨D, b', l', x, y, hgo, hN, hGr, hD⟩ := hL
      have HGO := Lib.hid hgo
      have HN := Lib.hid hN
      have HGR := Lib.hid hGr
      have hbr := hGr.bel
      have hsr := hGr.bel.size
      clear hgo hN hGr HREL
      by_cases hlt : k < ws.length
      · have klt : (k : Int) < ws.length := by omega
        obtain ⟨bb, off, rfl, hbl, c0, c1, c2, c3⟩ := SlT.wn HV.out hbr (Nat.le_refl _) k hlt
        have HDR : Hid (ws.drop k = ws[k] :: ws.drop (k + 1)) := Lib.hid (List.drop_eq_getElem_cons hlt)
        have HTK : Hid (ws.take (k + 1) = ws.take k ++ [ws[k]]) := Lib.hid (take_snoc ws k hlt)
        rw [HDR.out] at HGO
        generalize ws[k] = wn at *
        obtain ⟨wk, wu, wd, wi⟩ := wn
        simp only at c0 c1 c2 c3
        go_upto_region 9 with fail
        have HA := Lib.hid (heap_alloc_new wr (.cells #[.string wk, .int .i64 wu, .int .i64 wd, .int .i64 wi] 49))
        have hbA : Below wr.heap.size wr (wr.alloc (.cells #[.string wk, .int .i64 wu, .int .i64 wd, .int .i64 wi] 49)) := (Below.refl _ _).alloc (Nat.le_refl _) _
        have HGA := Lib.hid (HGR.out.keep hbA)
        have hzA : wr.heap.size < (wr.alloc (.cells #[.string wk, .int .i64 wu, .int .i64 wd, .int .i64 wi] 49)).heap.size := by simp
        have hDA : D ≤ (wr.alloc (.cells #[.string wk, .int .i64 wu, .int .i64 wd, .int .i64 wi] 49)).heap.size := by omega
        clear hbA HGR c0 c1 c2 c3 hbr
        generalize wr.alloc (.cells #[.string wk, .int .i64 wu, .int .i64 wd, .int .i64 wi] 49) = W2 at *
        obtain ⟨n0, n1, n2, n3, _⟩ := four_cells HA.out
        obtain ⟨a1, ha1⟩ : ∃ a1, (decide (0 ≤ wu) && decide (wu ≤ 2199023255552)) = a1 := ⟨_, rfl⟩
        obtain ⟨a2, ha2⟩ : ∃ a2, (decide (0 ≤ wd) && decide (wd ≤ 2199023255552)) = a2 := ⟨_, rfl⟩
        obtain ⟨a3, ha3⟩ : ∃ a3, (decide (0 ≤ wi) && decide (wi ≤ 50)) = a3 := ⟨_, rfl⟩
        have HX1 := Lib.hid ha1
        have HX2 := Lib.hid ha2
        have HX3 := Lib.hid ha3
        have HWB : Hid (wnB ⟨wk, wu, wd, wi⟩ = (a1 && (a2 && a3))) := by show _ = _; unfold wnB; simp only [HX1.out, HX2.out, HX3.out]
        clear ha1 ha2 ha3
        go_cut [17] (fun v17 wx => v17 = .bool (!(a1 && (a2 && a3))) ∧ W2 = wx)
        case first =>
          cases a1
          case' true => cases a2
          case' true.true => cases a3
          all_goals
            go_wp2_with ((go_at_call 29; refine (lwithin_any _ _ _ _).mono ?_); (first | rw [HX1.out] | rw [HX2.out] | rw [HX3.out]); rintro e w9 ⟨rfl, rfl⟩)
            go_meet
            exact ⟨rfl, rfl⟩
        case rest =>
        obtain ⟨rfl, rfl⟩ := hcut
        rw [← HWB.out]
        clear HX1 HX2 HX3 HWB
        obtain ⟨q2, hq2⟩ : ∃ q2, (ws.take k).any (fun x => decide (x.key = wk)) = q2 := ⟨_, rfl⟩
        obtain ⟨q1, hq1⟩ : ∃ q1, wnB ⟨wk, wu, wd, wi⟩ = q1 := ⟨_, rfl⟩
        rw [hq1]
        have HQ1 := Lib.hid hq1
        have HQ2 := Lib.hid hq2
        clear hq1 hq2
        have hW2 := HGA.out.bel
        have HVT := Lib.hid (SlT.take cWn_len (HV.out.keep hW2 (Nat.le_refl _)) k hk)
        go_upto_region 10 with fail
        go_cut [87] (fun v87 wx => v87 = .bool (q1 && q2) ∧ Below W2.heap.size W2 wx)
        case first =>
          cases q1 with
          | false =>
            go_wp2
            go_meet
            exact ⟨rfl, Below.refl _ _⟩
          | true =>
            go_wp2_with fail
            refine (hasWn_any _ (ws.take k) _ _ (fun x => decide (x.key = wk)) _ HVT.out (asksG2 n0 _)).mono ?_
            rintro e U3 ⟨rfl, hU3⟩
            rw [HQ2.out]
            go_wp2
            go_meet
            exact ⟨rfl, hU3⟩
        case rest =>
        obtain ⟨rfl, hb3⟩ := hcut
        obtain ⟨U3, hU3⟩ : ∃ U3, U3 = wc := ⟨_, rfl⟩
        subst hU3
        obtain ⟨q3, hq3⟩ : ∃ q3, (q1 && q2) = q3 := ⟨_, rfl⟩
        rw [hq3]
        have HQ3 := Lib.hid hq3
        clear hq3
        have hno : q3 = false → ¬ (wnB ⟨wk, wu, wd, wi⟩ = true ∧ (ws.take k).any (fun x => decide (x.key = wk)) = true) := fun hf hh => by
          rw [HQ1.out, HQ2.out] at hh
          have := HQ3.out
          rw [hh.1, hh.2, hf] at this
          exact absurd this (by decide)
        have HNO' := Lib.hid hno
        clear hno
        cases q3 with
        | true =>
          have HGO7 : Hid ((grantGo b (newL dev ep un) [] ws).2.2 = 7) := by
            have hh := HQ3.out
            rw [Bool.and_eq_true] at hh
            show _ = _
            rw [HGO.out, grantGo_is (HQ1.out.trans hh.1) (HQ2.out.trans hh.2)]
          have HRES := Lib.hid (grantS_err HAO.out HQ.out HGO7.out (by decide))
          have hb4' := hW2.trans (hb3.mono hW2.size)
          clear hb3 n0 n1 n2 n3
          obtain ⟨d0, d1, d2, d3, _⟩ := four_cells (block_below K0.out hb4' (by omega))
          have hsz := (hb4').size
          have HBU := Lib.hid (HBW.out.trans ((hb4').mono HBW.out.size))
          have HKU2 := Lib.hid (block_below K2.out hb4' (by omega))
          have HKU3 := Lib.hid (block_below K3.out hb4' (by omega))
          go_wp2_with fail
          refine (ownBk_any ⟨⟨ca, cn, cc⟩, ⟨fa, f_n, fc⟩, ⟨la, ln, lc⟩, ⟨ba, b_n, bc⟩⟩ b _ (HM.out.keep hb4' (Nat.le_refl _)) HB.out).mono ?_
          rintro e U2 ⟨⟨⟨da, dn, dc⟩, ⟨ea, e_n, ec⟩, ⟨ma, mn, mc⟩, ⟨na, n_n, nc⟩⟩, xsr, C, rfl, ho, hC, hb4⟩
          have HO := Lib.hid ho
          have HC := Lib.hid hC
          have HB4 := Lib.hid hb4
          have hk2 := block_below HKU2.out hb4 (by omega)
          have hk3 := block_below HKU3.out hb4 (by omega)
          obtain ⟨r0, r1, r2, r3, _⟩ := four_cells hk2
          have f0 := four_free hk2 0
          have f1 := four_free hk2 1
          have f2 := four_free hk2 2
          have f3 := four_free hk2 3
          obtain ⟨q0, q1, q2, q3, q4, q5, q6, _⟩ := seven_cells hk3
          have f4 := seven_free hk3 0
          have f5 := seven_free hk3 1
          have f6 := seven_free hk3 2
          have f7 := seven_free hk3 3
          have f8 := seven_free hk3 4
          have f9 := seven_free hk3 5
          have f10 := seven_free hk3 6
          clear hb4 hk2 hk3 ho hC d0 d1 d2 d3
          go_wp2
          refine bodyPost_ret (v := .tuple #[.agg #[.slice da dn dc, .slice ea e_n ec, .slice ma mn mc, .slice na n_n nc], .agg #[.int .i64 0, .int .i64 0, .int .i64 0, .int .i64 0, .slice none 0 0, .slice none 0 0, .slice none 0 0], .int .i64 7]) (by simp [results, Try.results17, go_sem, *]) rfl (show RetGrO _ _ _ _ from ?_)
          rw [HRES.out]
          exact ret_refused (x := ⟨⟨da, dn, dc⟩, ⟨ea, e_n, ec⟩, ⟨ma, mn, mc⟩, ⟨na, n_n, nc⟩⟩) (p := w.heap.size + 2) HBU.out HB4.out HO.out HC.out (by omega) (by omega) _ _ _ _ _ _ _
        | false =>
        have hno := HNO'.out (by first | rfl | trivial)
        clear HNO'
        obtain ⟨U4, hU4⟩ : ∃ U4, U4 = U3 := ⟨_, rfl⟩
        subst hU4
        have HNO := Lib.hid hno
        have HG4 := Lib.hid (HGA.out.keep hb3)
        have hA4 := block_below HA.out hb3 hzA
        have hD4 : D ≤ U4.heap.size := by have := hb3.size; omega
        clear n0 n1 n2 n3 hno hb3 HVT hW2 HA HGA
        obtain ⟨n0, n1, n2, n3, _⟩ := four_cells hA4
        clear hA4
        go_wp2_with fail
        refine (want_any W1.heap.size D pb pl W1 U4 x b' xs y l' ⟨wk, wu, wd, wi⟩ HG4.out hD4 (HN.out.wtB (by omega) HGB.out.nc HGB.out.nf)).mono ?_
        rintro e U5 ⟨rfl, hb5, hok⟩
        have HOK := Lib.hid hok
        clear hok n0 n1 n2 n3
        obtain ⟨en, hen⟩ : ∃ en, wantE b' ⟨wk, wu, wd, wi⟩ = en := ⟨_, rfl⟩
        rw [hen]
        have HEN := Lib.hid hen
        clear hen
        by_cases hz : en = 0
        · subst hz
          obtain ⟨x2, y2, hG5'⟩ := HOK.out HEN.out
          obtain ⟨D2, hG5, hD5⟩ := hG5'.lowD
          have HL : Hid (LoopG W1 b (newL dev ep un) ws pb pl xs (k + 1) U5) := Lib.hid ⟨D2, _, _, x2, y2, by rw [HGO.out, grantGo_ok HNO.out HEN.out, HTK.out], HN.out.step HEN.out, hG5, hD5⟩
          clear hG5 hb5 hG5' hD5
          go_wp2
          go_roundw
          case rel => exact ⟨k + 1, by omega, by go_num, HL.out⟩
          case measure => simp [intOf]; omega
        · have hz1 : (en == 0) = false := by simpa using hz
          have hz2 : (en != 0) = true := by simpa using hz
          have HGOE : Hid ((grantGo b (newL dev ep un) [] ws).2.2 = en) := by show _ = _; rw [HGO.out, grantGo_err HNO.out (by rw [HEN.out]; exact hz), HEN.out]
          have HRES := Lib.hid (grantS_err HAO.out HQ.out HGOE.out hz)
          obtain ⟨d0, d1, d2, d3, _⟩ := four_cells (block_below K0.out hb5 (by omega))
          have hsz := (hb5).size
          have HBU := Lib.hid (HBW.out.trans ((hb5).mono HBW.out.size))
          have HKU2 := Lib.hid (block_below K2.out hb5 (by omega))
          have HKU3 := Lib.hid (block_below K3.out hb5 (by omega))
          go_wp2_with fail
          refine (ownBk_any ⟨⟨ca, cn, cc⟩, ⟨fa, f_n, fc⟩, ⟨la, ln, lc⟩, ⟨ba, b_n, bc⟩⟩ b _ (HM.out.keep hb5 (Nat.le_refl _)) HB.out).mono ?_
          rintro e U2 ⟨⟨⟨da, dn, dc⟩, ⟨ea, e_n, ec⟩, ⟨ma, mn, mc⟩, ⟨na, n_n, nc⟩⟩, xsr, C, rfl, ho, hC, hb4⟩
          have HO := Lib.hid ho
          have HC := Lib.hid hC
          have HB4 := Lib.hid hb4
          have hk2 := block_below HKU2.out hb4 (by omega)
          have hk3 := block_below HKU3.out hb4 (by omega)
          obtain ⟨r0, r1, r2, r3, _⟩ := four_cells hk2
          have f0 := four_free hk2 0
          have f1 := four_free hk2 1
          have f2 := four_free hk2 2
          have f3 := four_free hk2 3
          obtain ⟨q0, q1, q2, q3, q4, q5, q6, _⟩ := seven_cells hk3
          have f4 := seven_free hk3 0
          have f5 := seven_free hk3 1
          have f6 := seven_free hk3 2
          have f7 := seven_free hk3 3
          have f8 := seven_free hk3 4
          have f9 := seven_free hk3 5
          have f10 := seven_free hk3 6
          clear hb4 hk2 hk3 ho hC d0 d1 d2 d3
          go_wp2
          refine bodyPost_ret (v := .tuple #[.agg #[.slice da dn dc, .slice ea e_n ec, .slice ma mn mc, .slice na n_n nc], .agg #[.int .i64 0, .int .i64 0, .int .i64 0, .int .i64 0, .slice none 0 0, .slice none 0 0, .slice none 0 0], .int .i64 en]) (by simp [results, Try.results17, go_sem, *]) rfl (show RetGrO _ _ _ _ from ?_)
          rw [HRES.out]
          exact ret_refused (x := ⟨⟨da, dn, dc⟩, ⟨ea, e_n, ec⟩, ⟨ma, mn, mc⟩, ⟨na, n_n, nc⟩⟩) (p := w.heap.size + 2) HBU.out HB4.out HO.out HC.out (by omega) (by omega) _ _ _ _ _ _ _
      · have : k = ws.length := by omega
        subst this
        have HEND : Hid (grantGo b (newL dev ep un) [] ws = (b', l', 0)) := by show _ = _; rw [HGO.out, List.drop_length]; rfl
        have HRES := Lib.hid (grantS_ok HAO.out HQ.out HEND.out)
        have HLD : Hid (l'.dev = dev) := Lib.hid HN.out.dev
        have hnl : b'.ls.length < 10000 := by rw [HN.out.ls]; exact HGB.out.nl
        have hnl2 : (b'.ls.length : Int) < 10000 := by omega
        have HNB : Hid (BkB ⟨b'.cs, b'.free, b'.ls.take (insK dev b'.ls) ++ l' :: b'.ls.drop (insK dev b'.ls), b'.bound⟩) := Lib.hid (grant_bkb HN.out HGB.out hk h5)
        have HLB : Hid (LsB l') := Lib.hid (grant_lsb HN.out HGB.out h5)
        clear HGO HEND
        obtain ⟨WA, hWA⟩ : ∃ WA, WA = wr := ⟨_, rfl⟩
        subst hWA
        obtain ⟨⟨c1, c2, c3⟩, ⟨g1, g2, g3⟩, ⟨l1, l2, l3⟩, ⟨b1, b2, b3⟩⟩ := x
        obtain ⟨y1, y2, y3, y4, ⟨y5, y6, y7⟩, ⟨y8, y9, y10⟩, ⟨y11, y12, y13⟩⟩ := y
        obtain ⟨hl2, hl3, hl4⟩ := HGR.out.lsLen
        simp only at hl2 hl3 hl4
        subst hl2
        have hszb := HGR.out.szb
        have hszl := HGR.out.szl
        go_upto_block 3 with fail
        go_cut [19] (fun v19 wx => v19 = .int .i64 (insK dev b'.ls) ∧ Below WA.heap.size WA wx)
        case first =>
          go_wp2
          go_loopw [19] (fun v19 wx => ∃ j : Nat, j ≤ b'.ls.length ∧ v19 = .int .i64 j ∧ Hid (∀ i (hi : i < b'.ls.length), i < j → b'.ls[i].dev < dev) ∧ Below WA.heap.size WA wx) (fun v19 _ => b'.ls.length - (intOf v19).toNat)
          case atStart => exact ⟨0, Nat.zero_le _, rfl, Lib.hid (fun i hi h => absurd h (by omega)), Below.refl _ _⟩
          case round =>
            obtain ⟨j, hj, rfl, hall, hbq⟩ := hrel
            have HALL := Lib.hid hall
            clear hall
            have e0 : wr.cell? ⟨w.heap.size + 1, 0, none⟩ = some (.int .i64 dev) := by
              have := block_below K1.out ((HGR.out.keep hbq).bel) (by omega)
              simp [World.cell?, this]
            obtain ⟨d0, d1, d2, d3, _⟩ := four_cells (block_below HGR.out.kb hbq hszb)
            simp only [Sv.v] at d0 d1 d2 d3
            by_cases hjl : j < b'.ls.length
            · obtain ⟨g, cap', hxl, _, _, _, hc⟩ := (HGR.out.keep hbq).lsCell j hjl
              injection hxl with hx1 hx2 hx3
              subst hx1 hx3
              have jlt : (j : Int) < b'.ls.length := by omega
              have HYES : Hid (b'.ls[j].dev < dev → ∀ i (hi : i < b'.ls.length), i < j + 1 → b'.ls[i].dev < dev) := Lib.hid (fun hd i hi hij => by
                by_cases e : i = j
                · subst e; exact hd
                · exact HALL.out i hi (by omega))
              have HNOT : Hid (¬ b'.ls[j].dev < dev → insK dev b'.ls = j) := Lib.hid (fun hd => insK_at hj HALL.out (fun _ => hd))
              generalize b'.ls[j].dev = dj at *
              by_cases hd : dj < dev
              · have HS := Lib.hid (HYES.out hd)
                have hd1 : decide (dj < dev) = true := by simpa using hd
                clear hx2
                go_wp2_with fail
                go_quiet (fail)
                go_wp2
                go_roundw
                case rel => exact ⟨j + 1, by omega, by go_num, Lib.hid HS.out, below_drewN hbq _⟩
                case measure => simp [intOf]; omega
              · have HS := Lib.hid (HNOT.out hd)
                have hd1 : decide (dj < dev) = false := by simpa using hd
                clear hx2
                go_wp2_with fail
                go_quiet (fail)
                go_wp2
                go_meet
                exact ⟨by rw [HS.out], below_drewN hbq _⟩
            · have : j = b'.ls.length := by omega
              subst this
              have HS : Hid (insK dev b'.ls = b'.ls.length) := Lib.hid (insK_at (Nat.le_refl _) HALL.out (fun h => absurd h (by omega)))
              go_wp2_with fail
              go_quiet (fail)
              go_wp2
              go_meet
              exact ⟨by rw [HS.out], below_drewN hbq _⟩
        case rest =>
        obtain ⟨rfl, hb6⟩ := hcut
        obtain ⟨W6, hW6⟩ : ∃ W6, W6 = wc := ⟨_, rfl⟩
        subst hW6
        have HG6 := Lib.hid (HGR.out.keep hb6)
        have hik := insK_le dev b'.ls
        have HINS : Hid (insL l' b'.ls = b'.ls.take (insK dev b'.ls) ++ l' :: b'.ls.drop (insK dev b'.ls)) := by show _ = _; unfold insL; rw [HLD.out]
        rw [HINS.out] at HRES
        clear HGR hb6 hszb hszl HINS hbr
        obtain ⟨kk, hkk⟩ : ∃ kk, insK dev b'.ls = kk := ⟨_, rfl⟩
        rw [hkk] at HRES HNB hik ⊢
        clear hkk
        have hszb := HG6.out.szb
        have hszl := HG6.out.szl
        have hsr6 := HG6.out.bel.size
        have S0 : W6.drew.heap[pb]? = some (.cells #[.slice c1 c2 c3, .slice g1 g2 g3, .slice l1 b'.ls.length l3, .slice b1 b2 b3] 32 (0, 0)) ∧ W6.drew.heap[pl]? = some (.cells #[.int .i64 y1, .int .i64 y2, .int .i64 y3, .int .i64 y4, .slice y5 y6 y7, .slice y8 y9 y10, .slice y11 y12 y13] 45 (0, 0)) := ⟨HG6.out.drew.kb, HG6.out.drew.kl⟩
        go_upto_region 19 with fail
        refine wp_region_T 8 (fun w' => w'.heap[pb]? = some (.cells #[.slice c1 c2 c3, .slice g1 g2 g3, .slice l1 b'.ls.length l3, .slice b1 b2 b3] 32 (0, 0)) ∧ w'.heap[pl]? = some (.cells #[.int .i64 y1, .int .i64 y2, .int .i64 y3, .int .i64 y4, .slice y5 y6 y7, .slice y8 y9 y10, .slice y11 y12 y13] 45 (0, 0))) (by kernel_rfl) ?_
        refine anyT_take (i := 0) (v := .pointer (some ⟨pb, 2, none⟩)) rfl rfl (by kernel_rfl) (by kernel_rfl) (by kernel_rfl) (by kernel_rfl) (by kernel_rfl) (by decide) (fun _ _ _ h => h) (.inl ⟨rfl, fun w' hw => ?_⟩) S0 ?_
        · go_simp
        refine anyT_take (i := 1) (v := .slice l1 b'.ls.length l3) rfl rfl (by kernel_rfl) (by kernel_rfl) (by kernel_rfl) (by kernel_rfl) (by kernel_rfl) (by decide) (fun _ _ _ h => h) (.inl ⟨rfl, fun w' hw => ?_⟩) S0 ?_
        · obtain ⟨d0, d1, d2, d3, _⟩ := four_cells hw.1
          go_simp
        refine anyT_take (i := 2) (v := .int .i64 kk) rfl rfl (by kernel_rfl) (by kernel_rfl) (by kernel_rfl) (by kernel_rfl) (by kernel_rfl) (by decide) (fun _ _ _ h => h) (.inl ⟨rfl, fun w' hw => ?_⟩) S0 ?_
        · go_simp
        refine anyT_take (i := 3) (v := .agg #[.int .i64 y1, .int .i64 y2, .int .i64 y3, .int .i64 y4, .slice y5 y6 y7, .slice y8 y9 y10, .slice y11 y12 y13]) rfl rfl (by kernel_rfl) (by kernel_rfl) (by kernel_rfl) (by kernel_rfl) (by kernel_rfl) (by decide) (fun _ _ _ h => h) (.inl ⟨rfl, fun w' hw => ?_⟩) S0 ?_
        · obtain ⟨d0, d1, d2, d3, d4, d5, d6, _⟩ := seven_cells hw.2
          go_simp
        clear S0
        refine anyT_one (i := 4) (by kernel_rfl) rfl rfl ?_
        go_simp
        refine (lease_any ⟨y1, y2, y3, y4, ⟨y5, y6, y7⟩, ⟨y8, y9, y10⟩, ⟨y11, y12, y13⟩⟩ l' _ HG6.out.drew.lm HLB.out).mono ?_
        rintro e w7 ⟨⟨z1, z2, z3, z4, ⟨z5, z6, z7⟩, ⟨z8, z9, z10⟩, ⟨z11, z12, z13⟩⟩, rfl, hy7, hb7⟩
        have hG7 := HG6.out.drew.keep hb7
        refine ⟨⟨hG7.kb, hG7.kl⟩, ?_⟩
        refine anyT_one (i := 5) (by kernel_rfl) rfl rfl ?_
        go_simp
        have hk8 : (w7.alloc (.cells #[.int .i64 z1, .int .i64 z2, .int .i64 z3, .int .i64 z4, .slice z5 z6 z7, .slice z8 z9 z10, .slice z11 z12 z13] 45)).heap[w7.heap.size]? = some (.cells #[.int .i64 z1, .int .i64 z2, .int .i64 z3, .int .i64 z4, .slice z5 z6 z7, .slice z8 z9 z10, .slice z11 z12 z13] 45 (0, 0)) := heap_alloc_new _ _
        have hb8 : Below w7.heap.size w7 (w7.alloc (.cells #[.int .i64 z1, .int .i64 z2, .int .i64 z3, .int .i64 z4, .slice z5 z6 z7, .slice z8 z9 z10, .slice z11 z12 z13] 45)) := (Below.refl _ _).alloc (Nat.le_refl _) _
        have hG8 := hG7.keep hb8
        have hy8 := (hy7.base (B' := W1.heap.size) hsr6).keep hb8 (Nat.le_refl _)
        have hB8 : W1.heap.size ≤ (w7.alloc (.cells #[.int .i64 z1, .int .i64 z2, .int .i64 z3, .int .i64 z4, .slice z5 z6 z7, .slice z8 z9 z10, .slice z11 z12 z13] 45)).heap.size := hG8.bel.size
        have hbb8 : Below W6.heap.size W6 (w7.alloc (.cells #[.int .i64 z1, .int .i64 z2, .int .i64 z3, .int .i64 z4, .slice z5 z6 z7, .slice z8 z9 z10, .slice z11 z12 z13] 45)) := ((Below.refl W6.heap.size W6).drew.trans hb7).trans (hb8.mono hb7.size)
        have hyb : (Value.slice l1 b'.ls.length l3).ownBlock ≠ some w7.heap.size := fun e => by
          have := (hG7.rl.lt _ e).2
          omega
        have HG8 := Lib.hid hG8
        have HY8 := Lib.hid hy8
        have HK8 := Lib.hid hk8
        have HB8 := Lib.hid hbb8
        clear hG7 hy7 hb7 hb8 hG8 hy8 hk8 hbb8
        refine ⟨⟨HG8.out.kb, HG8.out.kl⟩, ?_⟩
        generalize w7.alloc (.cells #[.int .i64 z1, .int .i64 z2, .int .i64 z3, .int .i64 z4, .slice z5 z6 z7, .slice z8 z9 z10, .slice z11 z12 z13] 45) = W8 at *
        refine anyT_one (i := 6) (by kernel_rfl) rfl rfl ?_
        go_simp
        refine (insertLs_any _ b'.ls.length kk (cellsT cLs xs) (cLs ⟨z1, z2, z3, z4, ⟨z5, z6, z7⟩, ⟨z8, z9, z10⟩, ⟨z11, z12, z13⟩⟩) W8 W1.heap.size w7.heap.size HG8.out.rl (cellsT_oneCell cLs_one _) (cLs_one _) rfl (by omega) hik hB8 HK8.out hyb).mono ?_
        rintro e w9 ⟨v', rfl, ho9, hg9, hat9⟩
        obtain ⟨ao', cap', rfl, _, _⟩ := owns_shape ho9
        obtain ⟨i1, i2, i3, i4, i5, i6, i7⟩ := Gr.ins (v' := ⟨ao', _, cap'⟩) HG6.out HB8.out HY8.out ho9 hg9 hik hat9
        have HI1 := Lib.hid i1
        have HI2 := Lib.hid i2
        have HI3 := Lib.hid i3
        have HI4 := Lib.hid i4
        have HI5 := Lib.hid i5
        obtain ⟨d0, d1, d2, d3, hx9⟩ := four_cells i6
        clear hx9
        have f2 := four_free i6 2
        simp only [Sv.v] at d0 d1 d2 d3
        refine ⟨⟨i6, i7⟩, ?_⟩
        clear i1 i2 i3 i4 i5 ho9 hg9 hat9
        simp only [Sv.v] at i6 i7
        refine anyT_one (i := 7) (by kernel_rfl) rfl rfl ?_
        go_simp
        clear i6 i7
        refine anyT_one (i := 8) (by kernel_rfl) rfl rfl ?_
        go_simp
        refine anyT_done (by kernel_rfl) ?_
        clear d0 d1 d2 d3 f2
        simp only [Sv.v] at HI1 HI2 HI3 HI4 HI5
        generalize w9.setCell ⟨pb, 2, none⟩ (.slice ao' (b'.ls.length + 1) cap') = W10 at *
        go_upto_region 20 with fail
        have hsr10 := HI5.out.size
        have S0 : W10.drew.heap[pb]? = some (.cells #[.slice c1 c2 c3, .slice g1 g2 g3, .slice ao' (b'.ls.length + 1) cap', .slice b1 b2 b3] 32 (0, 0)) ∧ W10.drew.heap[pl]? = some (.cells #[.int .i64 y1, .int .i64 y2, .int .i64 y3, .int .i64 y4, .slice y5 y6 y7, .slice y8 y9 y10, .slice y11 y12 y13] 45 (0, 0)) := ⟨HI3.out, HI4.out⟩
        have hpb10 : pb < W10.heap.size := (Array.getElem?_eq_some_iff.1 HI3.out).1
        have hpl10 : pl < W10.heap.size := (Array.getElem?_eq_some_iff.1 HI4.out).1
        refine wp_region_T 5 (fun w' => w'.heap[pb]? = some (.cells #[.slice c1 c2 c3, .slice g1 g2 g3, .slice ao' (b'.ls.length + 1) cap', .slice b1 b2 b3] 32 (0, 0)) ∧ w'.heap[pl]? = some (.cells #[.int .i64 y1, .int .i64 y2, .int .i64 y3, .int .i64 y4, .slice y5 y6 y7, .slice y8 y9 y10, .slice y11 y12 y13] 45 (0, 0))) (by kernel_rfl) ?_
        refine anyT_take (i := 0) (v := .agg #[.slice c1 c2 c3, .slice g1 g2 g3, .slice ao' (b'.ls.length + 1) cap', .slice b1 b2 b3]) rfl rfl (by kernel_rfl) (by kernel_rfl) (by kernel_rfl) (by kernel_rfl) (by kernel_rfl) (by decide) (fun _ _ _ h => h) (.inl ⟨rfl, fun w' hw => ?_⟩) S0 ?_
        · obtain ⟨d0, d1, d2, d3, _⟩ := four_cells hw.1
          go_simp
        refine anyT_take (i := 2) (v := .agg #[.int .i64 y1, .int .i64 y2, .int .i64 y3, .int .i64 y4, .slice y5 y6 y7, .slice y8 y9 y10, .slice y11 y12 y13]) rfl rfl (by kernel_rfl) (by kernel_rfl) (by kernel_rfl) (by kernel_rfl) (by kernel_rfl) (by decide) (fun _ _ _ h => h) (.inl ⟨rfl, fun w' hw => ?_⟩) S0 ?_
        · obtain ⟨d0, d1, d2, d3, d4, d5, d6, _⟩ := seven_cells hw.2
          go_simp
        clear S0
        have hbd : Below W10.heap.size W10 W10.drew := (Below.refl _ _).drew
        refine anyT_one (i := 1) (by kernel_rfl) rfl rfl ?_
        go_simp
        refine (ownBk_any ⟨⟨c1, c2, c3⟩, ⟨g1, g2, g3⟩, ⟨ao', b'.ls.length + 1, cap'⟩, ⟨b1, b2, b3⟩⟩ _ _ (HI1.out.keep hbd (Nat.le_refl _)) HNB.out).mono ?_
        rintro e U2 ⟨⟨⟨da, dn, dc⟩, ⟨ea, e_n, ec⟩, ⟨ma, mn, mc⟩, ⟨na, n_n, nc⟩⟩, xsr, C, rfl, ho, hC, hb11⟩
        have hb11' := hbd.trans hb11
        refine ⟨⟨block_below HI3.out hb11' hpb10, block_below HI4.out hb11' hpl10⟩, ?_⟩
        refine anyT_one (i := 3) (by kernel_rfl) rfl rfl ?_
        go_simp
        refine (lease_any ⟨y1, y2, y3, y4, ⟨y5, y6, y7⟩, ⟨y8, y9, y10⟩, ⟨y11, y12, y13⟩⟩ l' _ (HI2.out.keep hb11' (Nat.le_refl _)) HLB.out).mono ?_
        rintro e U3 ⟨⟨z1, z2, z3, z4, ⟨z5, z6, z7⟩, ⟨z8, z9, z10⟩, ⟨z11, z12, z13⟩⟩, rfl, hy12, hb12⟩
        have hb12' := hb11'.trans (hb12.mono hb11'.size)
        refine ⟨⟨block_below HI3.out hb12' hpb10, block_below HI4.out hb12' hpl10⟩, ?_⟩
        have hbw12 := (HBW.out.trans (HI5.out.mono HBW.out.size)).trans (hb12'.mono (by omega))
        have hbl12 := HI5.out.trans (hb12'.mono HI5.out.size)
        have hk2 := block_below K2.out hbl12 (by omega)
        have hk3 := block_below K3.out hbl12 (by omega)
        have HBW10 := Lib.hid (HBW.out.trans (HI5.out.mono HBW.out.size))
        have HB12 := Lib.hid hb12'
        have HO12 := Lib.hid (ho.keep hb12)
        have HC12 := Lib.hid hC
        have HY12 := Lib.hid (hy12.base (B' := W10.heap.size) hb11'.size)
        have hk3' := (set_other4 U3 (w.heap.size + 2) (w.heap.size + 3) (by omega) (.slice da dn dc) (.slice ea e_n ec) (.slice ma mn mc) (.slice na n_n nc) 0 1 2 3).trans hk3
        have s1 := (set_other4 U3 (w.heap.size + 2) pb (by omega) (.slice da dn dc) (.slice ea e_n ec) (.slice ma mn mc) (.slice na n_n nc) 0 1 2 3).trans (block_below HI3.out hb12' hpb10)
        have s2 := (set_other4 U3 (w.heap.size + 2) pl (by omega) (.slice da dn dc) (.slice ea e_n ec) (.slice ma mn mc) (.slice na n_n nc) 0 1 2 3).trans (block_below HI4.out hb12' hpl10)
        obtain ⟨r0, r1, r2, r3, _⟩ := four_cells hk2
        have f0 := four_free hk2 0
        have f1 := four_free hk2 1
        have f2 := four_free hk2 2
        have f3 := four_free hk2 3
        have HS1 := Lib.hid s1
        have HS2 := Lib.hid s2
        have HK4 := Lib.hid (set_four hk2 (.slice da dn dc) (.slice ea e_n ec) (.slice ma mn mc) (.slice na n_n nc))
        have HK3 := Lib.hid hk3'
        clear s1 s2 hk2 hk3 hk3' hbw12 hbl12 hb12' hb12 hb11 hb11' ho hC hy12 hbd
        refine anyT_one (i := 4) (by kernel_rfl) rfl rfl ?_
        go_simp
        refine ⟨⟨HS1.out, HS2.out⟩, ?_⟩
        clear r0 r1 r2 r3 f0 f1 f2 f3
        obtain ⟨q0, q1, q2, q3, q4, q5, q6, _⟩ := seven_cells HK3.out
        have f4 := seven_free HK3.out 0
        have f5 := seven_free HK3.out 1
        have f6 := seven_free HK3.out 2
        have f7 := seven_free HK3.out 3
        have f8 := seven_free HK3.out 4
        have f9 := seven_free HK3.out 5
        have f10 := seven_free HK3.out 6
        obtain ⟨r0, r1, r2, r3, _⟩ := four_cells HK4.out
        have hfin := ret_granted (n := 0) (x := ⟨⟨da, dn, dc⟩, ⟨ea, e_n, ec⟩, ⟨ma, mn, mc⟩, ⟨na, n_n, nc⟩⟩) (y := ⟨z1, z2, z3, z4, ⟨z5, z6, z7⟩, ⟨z8, z9, z10⟩, ⟨z11, z12, z13⟩⟩) (p := w.heap.size + 2) HBW10.out HB12.out HO12.out HC12.out HY12.out (by omega) (by omega)
        simp only [Sv.v] at hfin
        have HFIN := Lib.hid hfin
        clear hfin
        generalize (((U3.setCell ⟨w.heap.size + 2, 0, none⟩ (.slice da dn dc)).setCell ⟨w.heap.size + 2, 1, none⟩ (.slice ea e_n ec)).setCell ⟨w.heap.size + 2, 2, none⟩ (.slice ma mn mc)).setCell ⟨w.heap.size + 2, 3, none⟩ (.slice na n_n nc) = U4 at *
        refine anyT_one (i := 5) (by kernel_rfl) rfl rfl ?_
        go_simp
        refine anyT_one (i := 6) (by kernel_rfl) rfl rfl ?_
        go_simp
        refine anyT_done (by kernel_rfl) ?_
        go_wp2
        refine bodyPost_ret (v := .tuple #[.agg #[.slice da dn dc, .slice ea e_n ec, .slice ma mn mc, .slice na n_n nc], .agg #[.int .i64 z1, .int .i64 z2, .int .i64 z3, .int .i64 z4, .slice z5 z6 z7, .slice z8 z9 z10, .slice z11 z12 z13], .int .i64 0]) (by simp [results, Try.results17, go_sem, *]) rfl (show RetGrO _ _ _ _ from ?_)
        rw [HRES.out]
        exact HFIN.out

end Go.Proofs.Ytckonmlcgfbojaa
