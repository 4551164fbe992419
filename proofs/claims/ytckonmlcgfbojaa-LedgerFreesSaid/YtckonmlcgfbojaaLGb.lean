/- A book and a lease that are being made: what a call that gives rights holds in memory. -/
import Derived.Test.YtckonmlcgfbojaaLGa
import Derived.Test.YtckonmlcgfbojaaPl
import Derived.Test.YtckonmlcgfbojaaWkF
namespace Go.Proofs.Ytckonmlcgfbojaa
open Go.RowKit

theorem owns_other {W W' : World} {g base : Nat} {e T : TypeId} {E : Nat} {v : Value} {n : Nat} {xs : List Value} {cur : Array Value} {z : Nat × Nat} (h : W.ownsRow base e E v n xs) (hoth : ∀ b, b ≠ g → W'.heap[b]? = W.heap[b]?) (hg : W.heap[g]? = some (.cells cur T z)) (hne : e ≠ T) : W'.ownsRow base e E v n xs := owns_ne h hoth (own_ty h hg hne)
theorem LsO.other {W W' : World} {g B : Nat} {T : TypeId} {x : LsC} {l : Ls} {cur : Array Value} {z : Nat × Nat} (h : LsO W B x l) (hoth : ∀ b, b ≠ g → W'.heap[b]? = W.heap[b]?) (hg : W.heap[g]? = some (.cells cur T z)) (h1 : 51 ≠ T) (h2 : 78 ≠ T) (h3 : 3 ≠ T) : LsO W' B x l :=
  ⟨h.dev, h.epoch, h.unt, h.last, owns_other h.s hoth hg h1, owns_other h.i hoth hg h2, owns_other h.u hoth hg h3⟩

theorem owns_cur' {w : World} {base : Nat} {e : TypeId} {E g n cap : Nat} {xs : List Value} (h : w.ownsRow base e E (.slice (some ⟨g, 0, none⟩) n cap) n xs) : ∃ cur : Array Value, w.heap[g]? = some (.cells cur e (0, 0)) := by
  obtain ⟨_, hv⟩ := h
  rcases hv with ⟨hv, _⟩ | ⟨q, cp, cur, hv, _, hh, _⟩
  · cases hv
  · injection hv with hv
    injection hv with hv
    injection hv with hv
    subst hv
    exact ⟨cur, hh⟩
theorem owns_ty {w : World} {base : Nat} {e : TypeId} {E n : Nat} {v : Value} {xs : List Value} {g : Nat} (h : w.ownsRow base e E v n xs) (hg : v.ownBlock = some g) : ∃ cur : Array Value, w.heap[g]? = some (.cells cur e (0, 0)) := by
  obtain ⟨_, hv⟩ := h
  rcases hv with ⟨rfl, _⟩ | ⟨q, cp, cur, rfl, _, hh, _⟩
  · cases hg
  · injection hg with hg
    subst hg
    exact ⟨cur, hh⟩
theorem All2.imp_mem {α β : Type} {R S : α → β → Prop} : ∀ {l : List α} {m : List β}, All2 R l m → (∀ a b, a ∈ l → R a b → S a b) → All2 S l m
  | [], [], _, _ => trivial
  | a :: l, b :: m, h, hp => ⟨hp a b (by simp) h.1, All2.imp_mem h.2 (fun x y hx r => hp x y (by simp [hx]) r)⟩
  | [], _ :: _, h, _ => absurd h (by simp [All2])
  | _ :: _, [], h, _ => absurd h (by simp [All2])

/-- The book at pb and the lease at pl, all their rows the call's own (from B on); the lease's slices lie from D on, those of the book's leases below. -/
structure Gr (B D pb pl : Nat) (w0 W : World) (x : BkC) (b : Bk) (xs : List LsC) (y : LsC) (l : Ls) : Prop where
  bel : Below B w0 W
  kb : W.heap[pb]? = some (.cells #[x.c.v, x.f.v, x.l.v, x.b.v] 32 (0, 0))
  kl : W.heap[pl]? = some (.cells #[.int .i64 y.dev, .int .i64 y.epoch, .int .i64 y.unt, .int .i64 y.last, y.s.v, y.i.v, y.u.v] 45 (0, 0))
  hb : B ≤ pb
  hl : B ≤ pl
  hD : B ≤ D
  rc : W.ownsRow B 25 7 x.c.v b.cs.length (cellsT cCt b.cs)
  rf : W.ownsRow B 78 2 x.f.v b.free.length (cellsR b.free)
  rl : W.ownsRow B 45 7 x.l.v b.ls.length (cellsT cLs xs)
  rb : W.ownsRow B 3 1 x.b.v b.bound.length (cellsI b.bound)
  each : All2 (LsO W B) xs b.ls
  low : ∀ z ∈ xs, ∀ g, z.s.v.ownBlock = some g → g < D
  lpl : x.l.v.ownBlock ≠ some pl
  dev : y.dev = l.dev
  epoch : y.epoch = l.epoch
  unt : y.unt = l.unt
  last : y.last = l.last
  ys : W.ownsRow D 51 5 y.s.v l.sl.length (cellsT cSc l.sl)
  yi : W.ownsRow B 78 2 y.i.v l.ids.length (cellsR l.ids)
  yu : y.u = ⟨none, 0, 0⟩
  used : l.used = []

section
variable {B D pb pl : Nat} {w0 W W' : World} {x : BkC} {b : Bk} {xs : List LsC} {y : LsC} {l : Ls}
theorem Gr.szb (h : Gr B D pb pl w0 W x b xs y l) : pb < W.heap.size := (Array.getElem?_eq_some_iff.1 h.kb).1
theorem Gr.szl (h : Gr B D pb pl w0 W x b xs y l) : pl < W.heap.size := (Array.getElem?_eq_some_iff.1 h.kl).1
theorem Gr.ne (h : Gr B D pb pl w0 W x b xs y l) : pb ≠ pl := fun e => by
  have h1 := h.kb
  rw [e, h.kl] at h1
  injection h1 with h1
  injection h1 with _ h1 _
  exact absurd h1 (by decide)
theorem Gr.keep (h : Gr B D pb pl w0 W x b xs y l) (hb : Below W.heap.size W W') : Gr B D pb pl w0 W' x b xs y l :=
  ⟨h.bel.trans (hb.mono (Nat.le_trans h.hb (Nat.le_of_lt h.szb))), block_below h.kb hb h.szb, block_below h.kl hb h.szl, h.hb, h.hl, h.hD, owns_keep h.rc hb (Nat.le_refl _), owns_keep h.rf hb (Nat.le_refl _), owns_keep h.rl hb (Nat.le_refl _), owns_keep h.rb hb (Nat.le_refl _),
    h.each.imp (fun _ _ r => r.keep hb (Nat.le_refl _)), h.low, h.lpl, h.dev, h.epoch, h.unt, h.last, owns_keep h.ys hb (Nat.le_refl _), owns_keep h.yi hb (Nat.le_refl _), h.yu, h.used⟩
theorem Gr.drew (h : Gr B D pb pl w0 W x b xs y l) : Gr B D pb pl w0 W.drew x b xs y l := h.keep (Below.refl _ _).drew
theorem Gr.m (h : Gr B D pb pl w0 W x b xs y l) : BkM W x b :=
  ⟨sl_of_owns h.rc, sl_of_owns h.rf, ⟨xs, by have := sl_of_owns h.rl; rw [← h.each.len] at this; exact this, h.each.imp (fun _ _ r => r.m)⟩, sl_of_owns h.rb⟩
theorem Gr.lm (h : Gr B D pb pl w0 W x b xs y l) : LsM W y l := ⟨h.dev, h.epoch, h.unt, h.last, sl_of_owns h.ys, sl_of_owns h.yi, by rw [h.yu, h.used]; exact Sl.nil _ _⟩

/-- The pool's row is laid anew. -/
theorem Gr.setF (h : Gr B D pb pl w0 W x b xs y l) {f' : Sv} {free' : List Rg} (ho : W.ownsRow B 78 2 f'.v free'.length (cellsR free')) :
    Gr B D pb pl w0 (W.setCell ⟨pb, 1, none⟩ f'.v) ⟨x.c, f', x.l, x.b⟩ ⟨b.cs, free', b.ls, b.bound⟩ xs y l := by
  have hoth : ∀ c, c ≠ pb → (W.setCell ⟨pb, 1, none⟩ f'.v).heap[c]? = W.heap[c]? := fun c hc => set_ne _ _ _ (fun e => hc e.symm) _
  exact ⟨h.bel.setCell h.hb _, set_field1 h.kb _, (hoth pl (fun e => h.ne e.symm)).trans h.kl, h.hb, h.hl, h.hD, owns_other h.rc hoth h.kb (by decide), owns_other ho hoth h.kb (by decide), owns_other h.rl hoth h.kb (by decide), owns_other h.rb hoth h.kb (by decide),
    h.each.imp (fun _ _ r => r.other hoth h.kb (by decide) (by decide) (by decide)), h.low, h.lpl, h.dev, h.epoch, h.unt, h.last, owns_other h.ys hoth h.kb (by decide), owns_other h.yi hoth h.kb (by decide), h.yu, h.used⟩

theorem set7_5 {w : World} {b : Nat} {a0 a1 a2 a3 a4 a5 a6 : Value} {t : TypeId} (h : w.heap[b]? = some (.cells #[a0, a1, a2, a3, a4, a5, a6] t (0, 0))) (x : Value) :
    (w.setCell ⟨b, 5, none⟩ x).heap[b]? = some (.cells #[a0, a1, a2, a3, a4, x, a6] t (0, 0)) := by
  simp [World.setCell, Array.getElem?_modify, h]
theorem set7_4 {w : World} {b : Nat} {a0 a1 a2 a3 a4 a5 a6 : Value} {t : TypeId} (h : w.heap[b]? = some (.cells #[a0, a1, a2, a3, a4, a5, a6] t (0, 0))) (x : Value) :
    (w.setCell ⟨b, 4, none⟩ x).heap[b]? = some (.cells #[a0, a1, a2, a3, x, a5, a6] t (0, 0)) := by
  simp [World.setCell, Array.getElem?_modify, h]

/-- The lease's row of identifiers is laid anew. -/
theorem Gr.setI (h : Gr B D pb pl w0 W x b xs y l) {i' : Sv} {ids' : List Rg} (ho : W.ownsRow B 78 2 i'.v ids'.length (cellsR ids')) :
    Gr B D pb pl w0 (W.setCell ⟨pl, 5, none⟩ i'.v) x b xs ⟨y.dev, y.epoch, y.unt, y.last, y.s, i', y.u⟩ ⟨l.dev, l.epoch, l.unt, l.last, l.sl, ids', l.used⟩ := by
  have hoth : ∀ c, c ≠ pl → (W.setCell ⟨pl, 5, none⟩ i'.v).heap[c]? = W.heap[c]? := fun c hc => set_ne _ _ _ (fun e => hc e.symm) _
  exact ⟨h.bel.setCell h.hl _, (hoth pb h.ne).trans h.kb, set7_5 h.kl _, h.hb, h.hl, h.hD, owns_other h.rc hoth h.kl (by decide), owns_other h.rf hoth h.kl (by decide), owns_ne h.rl hoth h.lpl, owns_other h.rb hoth h.kl (by decide),
    h.each.imp (fun _ _ r => r.other hoth h.kl (by decide) (by decide) (by decide)), h.low, h.lpl, h.dev, h.epoch, h.unt, h.last, owns_other h.ys hoth h.kl (by decide), owns_other ho hoth h.kl (by decide), h.yu, h.used⟩

theorem cellsCt_set (l : List Ct) (k : Nat) (hk : k < l.length) (u d : Int) :
    ((cellsT cCt l).set (k * 7 + 5) (.int .i64 u)).set (k * 7 + 6) (.int .i64 d) = cellsT cCt (l.set k ⟨l[k].key, l[k].coll, l[k].lo, l[k].hi, l[k].start, u, d⟩) := by
  induction l generalizing k with
  | nil => simp at hk
  | cons x l ih =>
    cases k with
    | zero => simp [cellsT_cons, cCt]
    | succ k =>
      have e : ∀ j, (k + 1) * 7 + j = k * 7 + j + 7 := fun j => by omega
      rw [List.set_cons_succ, cellsT_cons, cellsT_cons, List.getElem_cons_succ, ← ih k (by simpa using hk)]
      simp only [e]
      simp [cCt]

/-- A counter's rights are written anew. -/
theorem Gr.setC (h : Gr B D pb pl w0 W x b xs y l) {g n cap : Nat} (hx : x.c = ⟨some ⟨g, 0, none⟩, n, cap⟩) (k : Nat) (hk : k < b.cs.length) (u d : Int) :
    Gr B D pb pl w0 ((W.setCell ⟨g, k * 7 + 5, none⟩ (.int .i64 u)).setCell ⟨g, k * 7 + 6, none⟩ (.int .i64 d)) x ⟨b.cs.set k ⟨b.cs[k].key, b.cs[k].coll, b.cs[k].lo, b.cs[k].hi, b.cs[k].start, u, d⟩, b.free, b.ls, b.bound⟩ xs y l := by
  have hoth : ∀ c, c ≠ g → ((W.setCell ⟨g, k * 7 + 5, none⟩ (.int .i64 u)).setCell ⟨g, k * 7 + 6, none⟩ (.int .i64 d)).heap[c]? = W.heap[c]? := fun c hc => set_ne2 _ _ _ hc _ _ _ _
  have hrc := h.rc
  rw [hx] at hrc
  simp only [Sv.v] at hrc
  have hn : n = b.cs.length := by
    obtain ⟨_, _, he, _, _⟩ := owns_shape hrc
    injection he with _ he _
  subst hn
  obtain ⟨cur, hg⟩ := owns_cur' hrc
  have hB : B ≤ g := (owns_block hrc).1
  have hl : (cellsT cCt b.cs).length = b.cs.length * 7 := cellsT_len cCt_len _
  have hlt : k * 7 + 6 < b.cs.length * 7 := by omega
  have hset := owns_set (owns_set hrc (k * 7 + 5) (by omega) (.int .i64 u)) (k * 7 + 6) (by rw [List.length_set]; omega) (.int .i64 d)
  rw [cellsCt_set _ _ hk] at hset
  have hgb : pb ≠ g := fun e => by
    have h1 := h.kb
    rw [e, hg] at h1
    injection h1 with h1
    injection h1 with _ h1 _
    exact absurd h1 (by decide)
  have hgl : pl ≠ g := fun e => by
    have h1 := h.kl
    rw [e, hg] at h1
    injection h1 with h1
    injection h1 with _ h1 _
    exact absurd h1 (by decide)
  exact ⟨(h.bel.setCell hB _).setCell hB _, (hoth pb hgb).trans h.kb, (hoth pl hgl).trans h.kl, h.hb, h.hl, h.hD, by rw [hx]; show World.ownsRow _ _ _ _ _ (b.cs.set _ _).length _; rw [List.length_set]; exact hset, owns_other h.rf hoth hg (by decide), owns_other h.rl hoth hg (by decide), owns_other h.rb hoth hg (by decide),
    h.each.imp (fun _ _ r => r.other hoth hg (by decide) (by decide) (by decide)), h.low, h.lpl, h.dev, h.epoch, h.unt, h.last, owns_other h.ys hoth hg (by decide), owns_other h.yi hoth hg (by decide), h.yu, h.used⟩

/-- A slice of rights is appended, and laid. -/
theorem Gr.app (h : Gr B D pb pl w0 W x b xs y l) {v' : Sv} {s : Sc} (ho : W'.ownsRow D 51 5 v'.v (l.sl.length + 1) (cellsT cSc (l.sl ++ [s]))) (hg : W.grownBy W' y.s.v.ownBlock) (_hsz : D ≤ W.heap.size) :
    Gr B D pb pl w0 (W'.setCell ⟨pl, 4, none⟩ v'.v) x b xs ⟨y.dev, y.epoch, y.unt, y.last, v', y.i, y.u⟩ ⟨l.dev, l.epoch, l.unt, l.last, l.sl ++ [s], l.ids, l.used⟩ := by
  have hne : ∀ {base e E v n zs}, W.ownsRow base e E v n zs → e ≠ 51 → W'.ownsRow base e E v n zs := fun {base e E v n zs} hr he => by
    refine hr.kept hg ?_
    cases hv : v.ownBlock with
    | none => exact .inl rfl
    | some q =>
      refine .inr (fun hq => ?_)
      rcases hy : y.s.v.ownBlock with _ | q2
      · rw [hy] at hq; cases hq
      · rw [hy] at hq
        obtain ⟨cur, hc⟩ := owns_ty h.ys hy
        injection hq with hq
        subst hq
        exact own_ty hr hc he hv
  have hlow : ∀ z ∈ xs, ∀ {n zs}, W.ownsRow B 51 5 z.s.v n zs → W'.ownsRow B 51 5 z.s.v n zs := fun z hz {n zs} hr => by
    refine hr.kept hg ?_
    cases hv : z.s.v.ownBlock with
    | none => exact .inl rfl
    | some q =>
      refine .inr (fun hq => ?_)
      have h1 := h.low z hz q hv
      have h2 := (h.ys.lt q hq.symm).1
      omega
  have heach : All2 (LsO W' B) xs b.ls := h.each.imp_mem (fun z l' hz r => ⟨r.dev, r.epoch, r.unt, r.last, hlow z hz r.s, hne r.i (by decide), hne r.u (by decide)⟩)
  have hblk : ∀ (q : Nat) (o : Obj), W.heap[q]? = some o → (∀ cur z, o ≠ .cells cur 51 z) → W'.heap[q]? = some o := fun q o hq ho' => by
    rw [hg.block q (Array.getElem?_eq_some_iff.1 hq).1 (fun e => by
      obtain ⟨cur, hc⟩ := owns_ty h.ys e.symm
      rw [hq] at hc
      injection hc with hc
      exact ho' _ _ hc)]
    exact hq
  have hkl := hblk pl _ h.kl (fun cur z e => by injection e with _ e _; exact absurd e (by decide))
  have hkb := hblk pb _ h.kb (fun cur z e => by injection e with _ e _; exact absurd e (by decide))
  have hoth : ∀ c, c ≠ pl → (W'.setCell ⟨pl, 4, none⟩ v'.v).heap[c]? = W'.heap[c]? := fun c hc => set_ne _ _ _ (fun e => hc e.symm) _
  have hbel : Below B w0 W' := h.bel.grown hg (Nat.le_trans h.hb (Nat.le_of_lt h.szb)) (fun g' hg' => Nat.le_trans h.hD (h.ys.lt g' hg').1)
  have hol : ∀ {n zs}, W'.ownsRow D 51 5 v'.v n zs → (W'.setCell ⟨pl, 4, none⟩ v'.v).ownsRow D 51 5 v'.v n zs := fun hr => owns_other hr hoth hkl (by decide)
  exact ⟨hbel.setCell h.hl _, (hoth pb h.ne).trans hkb, set7_4 hkl _, h.hb, h.hl, h.hD, owns_other (hne h.rc (by decide)) hoth hkl (by decide), owns_other (hne h.rf (by decide)) hoth hkl (by decide), owns_ne (hne h.rl (by decide)) hoth h.lpl, owns_other (hne h.rb (by decide)) hoth hkl (by decide),
    heach.imp (fun _ _ r => r.other hoth hkl (by decide) (by decide) (by decide)), h.low, h.lpl, h.dev, h.epoch, h.unt, h.last, by show World.ownsRow _ _ _ _ _ (l.sl ++ [s]).length _; rw [List.length_append]; exact hol ho, owns_other (hne h.yi (by decide)) hoth hkl (by decide), h.yu, h.used⟩
end

end Go.Proofs.Ytckonmlcgfbojaa
