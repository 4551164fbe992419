/- A book that is the call's own, one of whose leases is being freed: what Free holds in memory. The walk of ledger.Free. -/
import Derived.Test.YtckonmlcgfbojaaLDl
import Derived.Test.YtckonmlcgfbojaaLSp
import Derived.Test.YtckonmlcgfbojaaLPf
import Derived.Test.YtckonmlcgfbojaaLBs
import Derived.Test.YtckonmlcgfbojaaLSa

namespace Go.Proofs.Ytckonmlcgfbojaa
open Go.RowKit

section
variable {W W' : World}
/-- Rows of another type than that of a row that has grown are as they were. -/
theorem rowG {base base' : Nat} {T T' : TypeId} {E E' n n' : Nat} {v v' : Value} {zs zs' : List Value} (h : W.ownsRow base T E v n zs) (hv : W.ownsRow base' T' E' v' n' zs') (hg : W.grownBy W' v'.ownBlock) (hne : T ≠ T') : W'.ownsRow base T E v n zs := by
  refine h.kept hg ?_
  cases hq : v.ownBlock with
  | none => exact .inl rfl
  | some q =>
    refine .inr (fun hq' => ?_)
    rcases hy : v'.ownBlock with _ | q2
    · rw [hy] at hq'; cases hq'
    · rw [hy] at hq'
      obtain ⟨cur, hc⟩ := owns_ty hv hy
      injection hq' with hq'
      subst hq'
      exact own_ty h hc hne hq
theorem blkG {base' : Nat} {T T' : TypeId} {E' n' q : Nat} {v' : Value} {zs' : List Value} {cur : Array Value} {z : Nat × Nat} (hk : W.heap[q]? = some (.cells cur T z)) (hv : W.ownsRow base' T' E' v' n' zs') (hg : W.grownBy W' v'.ownBlock) (hne : T ≠ T') : W'.heap[q]? = some (.cells cur T z) := by
  rw [hg.block q (Array.getElem?_eq_some_iff.1 hk).1 (fun e => by
    obtain ⟨cur', hc⟩ := owns_ty hv e.symm
    rw [hk] at hc
    injection hc with hc
    injection hc with _ hc _
    exact hne hc)]
  exact hk
theorem rowSep {base base' : Nat} {T T' : TypeId} {E E' n n' : Nat} {v v' : Value} {zs zs' : List Value} (h : W.ownsRow base T E v n zs) (_hv : W.ownsRow base' T' E' v' n' zs') (hg : W.grownBy W' v'.ownBlock) (hne : ∀ g, v.ownBlock = some g → v'.ownBlock ≠ some g) : W'.ownsRow base T E v n zs := by
  refine h.kept hg ?_
  cases hq : v.ownBlock with
  | none => exact .inl rfl
  | some q => exact .inr (fun e => hne q hq e.symm)
/-- A block of another type. -/
theorem blkO {g q : Nat} {T T' : TypeId} {cur cur' : Array Value} {z z' : Nat × Nat} (hk : W.heap[q]? = some (.cells cur T z)) (hoth : ∀ b, b ≠ g → W'.heap[b]? = W.heap[b]?) (hg : W.heap[g]? = some (.cells cur' T' z')) (hne : T ≠ T') : W'.heap[q]? = some (.cells cur T z) := by
  rw [hoth q (fun e => by
    rw [e, hg] at hk
    injection hk with hk
    injection hk with _ hk _
    exact hne hk.symm)]
  exact hk
end

theorem All2.mem {α β : Type} {R : α → β → Prop} : ∀ {l : List α} {m : List β}, All2 R l m → ∀ a ∈ l, ∃ b ∈ m, R a b
  | [], _, _, a, ha => by cases ha
  | x :: l, y :: m, h, a, ha => by
    rcases List.mem_cons.1 ha with rfl | ha
    · exact ⟨y, by simp, h.1⟩
    · obtain ⟨b, hb, hr⟩ := All2.mem h.2 a ha
      exact ⟨b, by simp [hb], hr⟩
  | _ :: _, [], h, _, _ => absurd h (by simp [All2])
theorem All2.erase {α β : Type} {R : α → β → Prop} : ∀ {l : List α} {m : List β}, All2 R l m → ∀ k, All2 R (l.eraseIdx k) (m.eraseIdx k)
  | [], [], _, _ => by simp [All2]
  | x :: l, y :: m, h, 0 => h.2
  | x :: l, y :: m, h, k + 1 => ⟨h.1, All2.erase h.2 k⟩
  | _ :: _, [], h, _ => absurd h (by simp [All2])
  | [], _ :: _, h, _ => absurd h (by simp [All2])
theorem cellsLs_erase (l : List LsC) (k : Nat) : (cellsT cLs l).take (k * 7) ++ (cellsT cLs l).drop ((k + 1) * 7) = cellsT cLs (l.eraseIdx k) := by
  induction l generalizing k with
  | nil => simp [cellsT]
  | cons x l ih =>
    cases k with
    | zero => simp [cellsT_cons, cLs]
    | succ k =>
      have e : (k + 1) * 7 = k * 7 + 7 := by omega
      have e2 : (k + 1 + 1) * 7 = (k + 1) * 7 + 7 := by omega
      rw [List.eraseIdx_cons_succ, cellsT_cons, cellsT_cons, ← ih k, e, e2]
      simp [cLs]
      omega

structure Fr (B pb p6 p9 : Nat) (ys : Array Value) (w0 W : World) (x : BkC) (b : Bk) (xs : List LsC) : Prop where
  bel : Below B w0 W
  kb : W.heap[pb]? = some (.cells #[x.c.v, x.f.v, x.l.v, x.b.v] 32 (0, 0))
  k6 : W.heap[p6]? = some (.cells #[.slice none 0 0, .slice none 0 0, .slice none 0 0, .slice none 0 0] 32 (0, 0))
  k9 : W.heap[p9]? = some (.cells ys 45 (0, 0))
  hb : B ≤ pb
  h6 : pb ≠ p6
  n9 : x.l.v.ownBlock ≠ some p9
  rc : W.ownsRow B 25 7 x.c.v b.cs.length (cellsT cCt b.cs)
  rf : W.ownsRow B 78 2 x.f.v b.free.length (cellsR b.free)
  rl : W.ownsRow B 45 7 x.l.v b.ls.length (cellsT cLs xs)
  rb : W.ownsRow B 3 1 x.b.v b.bound.length (cellsI b.bound)
  each : All2 (LsO W B) xs b.ls
  sep : ∀ z ∈ xs, ∀ g, z.u.v.ownBlock = some g → x.b.v.ownBlock ≠ some g

section
variable {B pb p6 p9 : Nat} {ys : Array Value} {w0 W W' : World} {x : BkC} {b : Bk} {xs : List LsC}
theorem Fr.szb (h : Fr B pb p6 p9 ys w0 W x b xs) : pb < W.heap.size := (Array.getElem?_eq_some_iff.1 h.kb).1
theorem Fr.sz6 (h : Fr B pb p6 p9 ys w0 W x b xs) : p6 < W.heap.size := (Array.getElem?_eq_some_iff.1 h.k6).1
theorem Fr.sz9 (h : Fr B pb p6 p9 ys w0 W x b xs) : p9 < W.heap.size := (Array.getElem?_eq_some_iff.1 h.k9).1
theorem Fr.hB (h : Fr B pb p6 p9 ys w0 W x b xs) : B ≤ W.heap.size := Nat.le_trans h.hb (Nat.le_of_lt h.szb)
theorem Fr.keep (h : Fr B pb p6 p9 ys w0 W x b xs) (hb : Below W.heap.size W W') : Fr B pb p6 p9 ys w0 W' x b xs :=
  ⟨h.bel.trans (hb.mono h.hB), block_below h.kb hb h.szb, block_below h.k6 hb h.sz6, block_below h.k9 hb h.sz9, h.hb, h.h6, h.n9, owns_keep h.rc hb (Nat.le_refl _), owns_keep h.rf hb (Nat.le_refl _), owns_keep h.rl hb (Nat.le_refl _), owns_keep h.rb hb (Nat.le_refl _),
    h.each.imp (fun _ _ r => r.keep hb (Nat.le_refl _)), h.sep⟩
theorem Fr.m (h : Fr B pb p6 p9 ys w0 W x b xs) : BkM W x b :=
  ⟨sl_of_owns h.rc, sl_of_owns h.rf, ⟨xs, by have := sl_of_owns h.rl; rw [← h.each.len] at this; exact this, h.each.imp (fun _ _ r => r.m)⟩, sl_of_owns h.rb⟩

/-- The pool's row is laid anew. -/
theorem Fr.setF (h : Fr B pb p6 p9 ys w0 W x b xs) {f' : Sv} {free' : List Rg} (ho : W.ownsRow B 78 2 f'.v free'.length (cellsR free')) :
    Fr B pb p6 p9 ys w0 (W.setCell ⟨pb, 1, none⟩ f'.v) ⟨x.c, f', x.l, x.b⟩ ⟨b.cs, free', b.ls, b.bound⟩ xs := by
  have hoth : ∀ c, c ≠ pb → (W.setCell ⟨pb, 1, none⟩ f'.v).heap[c]? = W.heap[c]? := fun c hc => set_ne _ _ _ (fun e => hc e.symm) _
  exact ⟨h.bel.setCell h.hb _, set_field1 h.kb _, (hoth p6 (fun e => h.h6 e.symm)).trans h.k6, blkO h.k9 hoth h.kb (by decide), h.hb, h.h6, h.n9, owns_other h.rc hoth h.kb (by decide), owns_other ho hoth h.kb (by decide), owns_other h.rl hoth h.kb (by decide), owns_other h.rb hoth h.kb (by decide),
    h.each.imp (fun _ _ r => r.other hoth h.kb (by decide) (by decide) (by decide)), h.sep⟩

/-- A cell of a counter is written anew. -/
theorem Fr.setC (h : Fr B pb p6 p9 ys w0 W x b xs) {g n cap : Nat} (hx : x.c = ⟨some ⟨g, 0, none⟩, n, cap⟩) (j : Nat) (hj : j < b.cs.length * 7) (u : Value) {cs' : List Ct} (hcs : (cellsT cCt b.cs).set j u = cellsT cCt cs') (hl : cs'.length = b.cs.length) :
    Fr B pb p6 p9 ys w0 (W.setCell ⟨g, j, none⟩ u) x ⟨cs', b.free, b.ls, b.bound⟩ xs := by
  have hoth : ∀ c, c ≠ g → (W.setCell ⟨g, j, none⟩ u).heap[c]? = W.heap[c]? := fun c hc => set_ne _ _ _ (fun e => hc e.symm) _
  have hrc := h.rc
  rw [hx] at hrc
  simp only [Sv.v] at hrc
  have hn : n = b.cs.length := by
    obtain ⟨_, _, he, _, _⟩ := owns_shape hrc
    injection he with _ he _
  subst hn
  obtain ⟨cur, hg⟩ := owns_cur' hrc
  have hB : B ≤ g := (owns_block hrc).1
  have hset := owns_set hrc j (by rw [cellsT_len cCt_len]; exact hj) u
  rw [hcs] at hset
  exact ⟨h.bel.setCell hB _, blkO h.kb hoth hg (by decide), blkO h.k6 hoth hg (by decide), blkO h.k9 hoth hg (by decide), h.hb, h.h6, h.n9, by rw [hx]; show World.ownsRow _ _ _ _ _ cs'.length _; rw [hl]; exact hset, owns_other h.rf hoth hg (by decide), owns_other h.rl hoth hg (by decide), owns_other h.rb hoth hg (by decide),
    h.each.imp (fun _ _ r => r.other hoth hg (by decide) (by decide) (by decide)), h.sep⟩

theorem set_field3 {w : World} {b : Nat} {a0 a1 a2 a3 : Value} {t : TypeId} (h : w.heap[b]? = some (.cells #[a0, a1, a2, a3] t (0, 0))) (x : Value) : (w.setCell ⟨b, 3, none⟩ x).heap[b]? = some (.cells #[a0, a1, a2, x] t (0, 0)) := by
  simp [World.setCell, Array.getElem?_modify, h]
theorem set_field2 {w : World} {b : Nat} {a0 a1 a2 a3 : Value} {t : TypeId} (h : w.heap[b]? = some (.cells #[a0, a1, a2, a3] t (0, 0))) (x : Value) : (w.setCell ⟨b, 2, none⟩ x).heap[b]? = some (.cells #[a0, a1, x, a3] t (0, 0)) := by
  simp [World.setCell, Array.getElem?_modify, h]

/-- A number is laid among those that are bound. -/
theorem Fr.insB (h : Fr B pb p6 p9 ys w0 W x b xs) {v' : Sv} {bd : List Int} (ho : W'.ownsRow B 3 1 v'.v bd.length (cellsI bd)) (hg : W.grownBy W' x.b.v.ownBlock) (hat : v'.v.ownBlock = x.b.v.ownBlock ∨ ∃ g, v'.v.ownBlock = some g ∧ W.heap.size ≤ g) :
    Fr B pb p6 p9 ys w0 (W'.setCell ⟨pb, 3, none⟩ v'.v) ⟨x.c, x.f, x.l, v'⟩ ⟨b.cs, b.free, b.ls, bd⟩ xs := by
  have hkb := blkG h.kb h.rb hg (by decide)
  have hk6 := blkG h.k6 h.rb hg (by decide)
  have hk9 := blkG h.k9 h.rb hg (by decide)
  have hoth : ∀ c, c ≠ pb → (W'.setCell ⟨pb, 3, none⟩ v'.v).heap[c]? = W'.heap[c]? := fun c hc => set_ne _ _ _ (fun e => hc e.symm) _
  have heach : All2 (LsO W' B) xs b.ls := h.each.imp_mem (fun z l' hz r => ⟨r.dev, r.epoch, r.unt, r.last, rowG r.s h.rb hg (by decide), rowG r.i h.rb hg (by decide), rowSep r.u h.rb hg (h.sep z hz)⟩)
  refine ⟨(h.bel.grown hg h.hB (fun g' hg' => (h.rb.lt g' hg').1)).setCell h.hb _, set_field3 hkb _, (hoth p6 (fun e => h.h6 e.symm)).trans hk6, blkO hk9 hoth hkb (by decide), h.hb, h.h6, h.n9, owns_other (rowG h.rc h.rb hg (by decide)) hoth hkb (by decide), owns_other (rowG h.rf h.rb hg (by decide)) hoth hkb (by decide), owns_other (rowG h.rl h.rb hg (by decide)) hoth hkb (by decide), owns_other ho hoth hkb (by decide),
    heach.imp (fun _ _ r => r.other hoth hkb (by decide) (by decide) (by decide)), fun z hz g hzg e => ?_⟩
  rcases hat with hat | ⟨q, hq, hsz⟩
  · exact h.sep z hz g hzg (hat ▸ e)
  · rw [hq] at e
    injection e with e
    subst e
    obtain ⟨l', _, hl'⟩ := h.each.mem z hz
    have := (hl'.u.lt _ hzg).2
    omega

/-- The lease is taken out. -/
theorem Fr.del (h : Fr B pb p6 p9 ys w0 W x b xs) {g cap : Nat} (hx : x.l = ⟨some ⟨g, 0, none⟩, b.ls.length, cap⟩) (k : Nat) (hk : k < b.ls.length)
    (ho : W'.ownsRow B 45 7 (.slice (some ⟨g, 0, none⟩) (b.ls.length - 1) cap) (b.ls.length - 1) ((cellsT cLs xs).take (k * 7) ++ (cellsT cLs xs).drop ((k + 1) * 7))) (hg : W.grownBy W' (some g)) :
    Below B w0 (W'.setCell ⟨pb, 2, none⟩ (.slice (some ⟨g, 0, none⟩) (b.ls.length - 1) cap)) ∧
    (W'.setCell ⟨pb, 2, none⟩ (.slice (some ⟨g, 0, none⟩) (b.ls.length - 1) cap)).heap[pb]? = some (.cells #[x.c.v, x.f.v, .slice (some ⟨g, 0, none⟩) (b.ls.length - 1) cap, x.b.v] 32 (0, 0)) ∧
    (W'.setCell ⟨pb, 2, none⟩ (.slice (some ⟨g, 0, none⟩) (b.ls.length - 1) cap)).heap[p6]? = some (.cells #[.slice none 0 0, .slice none 0 0, .slice none 0 0, .slice none 0 0] 32 (0, 0)) ∧
    W'.heap[pb]? = some (.cells #[x.c.v, x.f.v, x.l.v, x.b.v] 32 (0, 0)) ∧
    BkM (W'.setCell ⟨pb, 2, none⟩ (.slice (some ⟨g, 0, none⟩) (b.ls.length - 1) cap)) ⟨x.c, x.f, ⟨some ⟨g, 0, none⟩, b.ls.length - 1, cap⟩, x.b⟩ ⟨b.cs, b.free, b.ls.eraseIdx k, b.bound⟩ := by
  have hrl := h.rl
  have hg' : W.grownBy W' x.l.v.ownBlock := by rw [hx]; exact hg
  have hkb := blkG h.kb h.rl hg' (by decide)
  have hk6 := blkG h.k6 h.rl hg' (by decide)
  generalize hv : (Value.slice (some ⟨g, 0, none⟩) (b.ls.length - 1) cap) = v at *
  have hoth : ∀ c, c ≠ pb → (W'.setCell ⟨pb, 2, none⟩ v).heap[c]? = W'.heap[c]? := fun c hc => set_ne _ _ _ (fun e => hc e.symm) _
  have heach : All2 (LsO (W'.setCell ⟨pb, 2, none⟩ v) B) xs b.ls := h.each.imp (fun z l' r => ⟨r.dev, r.epoch, r.unt, r.last, owns_other (rowG r.s h.rl hg' (by decide)) hoth hkb (by decide), owns_other (rowG r.i h.rl hg' (by decide)) hoth hkb (by decide), owns_other (rowG r.u h.rl hg' (by decide)) hoth hkb (by decide)⟩)
  refine ⟨(h.bel.grown hg' h.hB (fun q hq => (h.rl.lt q hq).1)).setCell h.hb _, set_field2 hkb _, (hoth p6 (fun e => h.h6 e.symm)).trans hk6, hkb, ?_⟩
  rw [cellsLs_erase] at ho
  have hlen : (xs.eraseIdx k).length = b.ls.length - 1 := by rw [List.length_eraseIdx, h.each.len, if_pos hk]
  refine ⟨sl_of_owns (owns_other (rowG h.rc h.rl hg' (by decide)) hoth hkb (by decide)), sl_of_owns (owns_other (rowG h.rf h.rl hg' (by decide)) hoth hkb (by decide)), ⟨xs.eraseIdx k, ?_, (heach.erase k).imp (fun _ _ r => r.m)⟩, sl_of_owns (owns_other (rowG h.rb h.rl hg' (by decide)) hoth hkb (by decide))⟩
  have h9 := sl_of_owns (owns_other ho hoth hkb (by decide))
  show Sl _ 7 (Value.slice (some ⟨g, 0, none⟩) (b.ls.length - 1) cap) (xs.eraseIdx k).length _
  rw [hv, hlen]
  exact h9
end

end Go.Proofs.Ytckonmlcgfbojaa

namespace Go.Proofs.Ytckonmlcgfbojaa
open Go.RowKit

theorem cellsCt_set5 (l : List Ct) (k : Nat) (hk : k < l.length) (u : Int) :
    (cellsT cCt l).set (k * 7 + 5) (.int .i64 u) = cellsT cCt (l.set k ⟨l[k].key, l[k].coll, l[k].lo, l[k].hi, l[k].start, u, l[k].down⟩) := by
  induction l generalizing k with
  | nil => simp at hk
  | cons x l ih =>
    cases k with
    | zero => simp [cellsT_cons, cCt]
    | succ k =>
      have e : ∀ j, (k + 1) * 7 + j = k * 7 + j + 7 := fun j => by omega
      rw [List.set_cons_succ, cellsT_cons, cellsT_cons, List.getElem_cons_succ, ← ih k (by simpa using hk)]
      simp only [e]
      simp [cCt]
theorem cellsCt_set6 (l : List Ct) (k : Nat) (hk : k < l.length) (u : Int) :
    (cellsT cCt l).set (k * 7 + 6) (.int .i64 u) = cellsT cCt (l.set k ⟨l[k].key, l[k].coll, l[k].lo, l[k].hi, l[k].start, l[k].up, u⟩) := by
  induction l generalizing k with
  | nil => simp at hk
  | cons x l ih =>
    cases k with
    | zero => simp [cellsT_cons, cCt]
    | succ k =>
      have e : ∀ j, (k + 1) * 7 + j = k * 7 + j + 7 := fun j => by omega
      rw [List.set_cons_succ, cellsT_cons, cellsT_cons, List.getElem_cons_succ, ← ih k (by simpa using hk)]
      simp only [e]
      simp [cCt]
theorem backC_at {cs : List Ct} {s : Sc} {j : Nat} (hj : j < cs.length) (h : ctIx cs s.key = j) :
    backC cs s = (cs.set j ⟨cs[j].key, cs[j].coll, cs[j].lo, cs[j].hi, cs[j].start, cs[j].up + (s.up - s.uu), cs[j].down⟩).set j ⟨cs[j].key, cs[j].coll, cs[j].lo, cs[j].hi, cs[j].start, cs[j].up + (s.up - s.uu), cs[j].down + (s.down - s.ud)⟩ := by
  unfold backC
  rw [h, if_neg (by omega)]
  simp [List.getD, List.getElem?_eq_getElem hj]
theorem backC_no {cs : List Ct} {s : Sc} (h : ctIx cs s.key = -1) : backC cs s = cs := by
  unfold backC
  rw [h, if_pos (by omega)]

/-- ranges.Less, of whatever number. -/
theorem lessR_any (v : Value) (l : List Rg) (n : Int) (w : World) (h : SlR w v l) (hs : Small l) (hl : l.length < 1000000) (hn0 : -1000000000000 < n) (hn1 : n < 1000000000000) :
    Calls Try.prog 57 #[v, .int .i64 n] w fun e w' => ∃ v', e = .returned (.tuple #[v', .bool (hasR l n)]) ∧ (hasR l n = true → w'.ownsRow w.heap.size 78 2 v' (lessS l n).length (cellsR (lessS l n))) ∧ Below w.heap.size w w' := by
  cases hq : hasR l n with
  | false => exact (less_no v l n w h hl hq).mono fun e w' ⟨h1, h2⟩ => ⟨_, h1, (fun h => by cases h), h2⟩
  | true => exact (less_yes v l n w h hs hl hq hn0 hn1).mono fun e w' ⟨v', h1, h2, h3⟩ => ⟨v', h1, fun _ => h2, h3⟩

set_option maxRecDepth 100000 in
set_option maxHeartbeats 8000000 in
theorem free_any (x : BkC) (b : Bk) (d ep : Int) (w : World) (h : BkM w x b) (hl : BkB b) (hF : ∀ k (hk : k < b.ls.length), atIx b.ls d ep = k → FreeB b b.ls[k]) :
    Calls Try.prog 24 #[aBk x, .int .i64 d, .int .i64 ep] w (RetBkE w (freeS b d ep)) := by
  obtain ⟨⟨ca, cn, cc⟩, ⟨fa, f_n, fc⟩, ⟨la, ln, lc⟩, ⟨ba, b_n, bc⟩⟩ := x
  obtain ⟨W3, hW3, k0, k1, hb1, hz1⟩ : ∃ W3, ((w.alloc (.cells #[.slice ca cn cc, .slice fa f_n fc, .slice la ln lc, .slice ba b_n bc] 32)).alloc (.cells #[.slice none 0 0, .slice none 0 0, .slice none 0 0, .slice none 0 0] 32)) = W3 ∧ W3.heap[w.heap.size]? = some (.cells #[.slice ca cn cc, .slice fa f_n fc, .slice la ln lc, .slice ba b_n bc] 32 (0, 0)) ∧ W3.heap[w.heap.size + 1]? = some (.cells #[.slice none 0 0, .slice none 0 0, .slice none 0 0, .slice none 0 0] 32 (0, 0)) ∧ Below w.heap.size w W3 ∧ W3.heap.size = w.heap.size + 2 := ⟨_, rfl, alloc_first _ _ _, alloc_second _ _ _, ((Below.refl _ _).alloc (Nat.le_refl _) _).alloc (by simp) _, by simp⟩
  have HM := Lib.hid (h.keep hb1 (Nat.le_refl _))
  have HB := Lib.hid hl
  have HFB := Lib.hid hF
  have HW3 := Lib.hid hW3
  have HZ1 := Lib.hid hz1
  have HK0 := Lib.hid k0
  have HK2 := Lib.hid k1
  have HBW := Lib.hid hb1
  clear h hl hF hW3 hz1 k0 k1 hb1
  change Calls Try.prog _ #[.agg #[.slice ca cn cc, .slice fa f_n fc, .slice la ln lc, .slice ba b_n bc], .int .i64 d, .int .i64 ep] w _
  obtain ⟨c0, c1, c2, c3, _⟩ := four_cells HK0.out
  go_enter Try.func24, Try.ntmps24
  go_upto_region 1 with fail
  rw [HW3.out]
  go_wp2_with fail
  refine (ownBk_any ⟨⟨ca, cn, cc⟩, ⟨fa, f_n, fc⟩, ⟨la, ln, lc⟩, ⟨ba, b_n, bc⟩⟩ b _ HM.out HB.out).mono ?_
  rintro e w4 ⟨⟨⟨da, dn, dc⟩, ⟨ea, e_n, ec⟩, ⟨ma, mn, mc⟩, ⟨na, n_n, nc⟩⟩, xs, C0, rfl, ho0, hC0, hb4⟩
  obtain ⟨C, ho, hC, hCw4⟩ := ho0.cap hC0 hb4.size
  clear ho0 hC0 c0 c1 c2 c3
  have hzz : w.heap.size < W3.heap.size := by have := HZ1.out; omega
  have hk0 := block_below HK0.out hb4 hzz
  have hk2 := block_below HK2.out hb4 (by have := HZ1.out; omega)
  obtain ⟨d0, d1, d2, d3, _⟩ := four_cells hk0
  have f0 := four_free hk0 0
  have f1 := four_free hk0 1
  have f2 := four_free hk0 2
  have f3 := four_free hk0 3
  have HO := Lib.hid ((((ho.put hC ⟨w.heap.size, 0, none⟩ hzz (.slice da dn dc)).put hC ⟨w.heap.size, 1, none⟩ hzz (.slice ea e_n ec)).put hC ⟨w.heap.size, 2, none⟩ hzz (.slice ma mn mc)).put hC ⟨w.heap.size, 3, none⟩ hzz (.slice na n_n nc))
  have HK0' := Lib.hid (set_four hk0 (.slice da dn dc) (.slice ea e_n ec) (.slice ma mn mc) (.slice na n_n nc))
  have HK2' := Lib.hid ((set_other4 w4 w.heap.size (w.heap.size + 1) (by omega) (.slice da dn dc) (.slice ea e_n ec) (.slice ma mn mc) (.slice na n_n nc) 0 1 2 3).trans hk2)
  have hbw4 := HBW.out.trans (hb4.mono HBW.out.size)
  have HBW5 := Lib.hid ((((hbw4.setCell (p := ⟨w.heap.size, 0, none⟩) (Nat.le_refl _) (.slice da dn dc)).setCell (p := ⟨w.heap.size, 1, none⟩) (Nat.le_refl _) (.slice ea e_n ec)).setCell (p := ⟨w.heap.size, 2, none⟩) (Nat.le_refl _) (.slice ma mn mc)).setCell (p := ⟨w.heap.size, 3, none⟩) (Nat.le_refl _) (.slice na n_n nc))
  clear ho hk0 hk2 hb4 hbw4 HK0 HK2 HM HBW hCw4
  go_wp2_with fail
  generalize ((((w4.setCell ⟨w.heap.size, 0, none⟩ (.slice da dn dc)).setCell ⟨w.heap.size, 1, none⟩ (.slice ea e_n ec)).setCell ⟨w.heap.size, 2, none⟩ (.slice ma mn mc)).setCell ⟨w.heap.size, 3, none⟩ (.slice na n_n nc)) = w5 at *
  refine (at_any ⟨⟨da, dn, dc⟩, ⟨ea, e_n, ec⟩, ⟨ma, mn, mc⟩, ⟨na, n_n, nc⟩⟩ b.ls d ep _ HO.out.m.l).mono ?_
  rintro e w6 ⟨rfl, hb6⟩
  have HO6 : Hid (BkO w6 W3.heap.size C ⟨⟨da, dn, dc⟩, ⟨ea, e_n, ec⟩, ⟨ma, mn, mc⟩, ⟨na, n_n, nc⟩⟩ b xs) := Lib.hid (HO.out.keep hb6)
  have HQ0 := Lib.hid (block_below HK0'.out hb6 (Array.getElem?_eq_some_iff.1 HK0'.out).1)
  have HQ2 := Lib.hid (block_below HK2'.out hb6 (Array.getElem?_eq_some_iff.1 HK2'.out).1)
  have HBW6 := Lib.hid (HBW5.out.trans (hb6.mono HBW5.out.size))
  have hz6 : w.heap.size + 1 < w6.heap.size := (Array.getElem?_eq_some_iff.1 HQ2.out).1
  clear hb6 HO HK0' HK2' HBW5 d0 d1 d2 d3 f0 f1 f2 f3
  obtain ⟨d0, d1, d2, d3, _⟩ := four_cells HQ0.out
  obtain ⟨e0, e1, e2, e3, _⟩ := four_cells HQ2.out
  have f0 := four_free HQ2.out 0
  have f1 := four_free HQ2.out 1
  have f2 := four_free HQ2.out 2
  have f3 := four_free HQ2.out 3
  rcases idxS_spec (fun c : Ls => decide (c.dev = d) && decide (c.epoch = ep)) b.ls with ⟨hi, _⟩ | ⟨k, hk, hi, _, _⟩
  · have HF : Hid (freeS b d ep = (b, 2)) := by show _ = _; unfold freeS atIx; simp only [hi]; rfl
    rw [show atIx b.ls d ep = -1 from hi]
    have hz2 : w.heap.size + 1 < W3.heap.size := by have := HZ1.out; omega
    clear hi HFB
    go_wp2
    refine bodyPost_ret (v := .tuple #[.agg #[.slice da dn dc, .slice ea e_n ec, .slice ma mn mc, .slice na n_n nc], .int .i64 2]) (by simp [results, Try.results24, go_sem, *]) rfl (show RetBkE _ _ _ _ from ?_)
    refine ⟨⟨⟨da, dn, dc⟩, ⟨ea, e_n, ec⟩, ⟨ma, mn, mc⟩, ⟨na, n_n, nc⟩⟩, by rw [HF.out], ?_, ?_⟩
    · rw [HF.out]
      exact ((((HO6.out.put hC ⟨w.heap.size + 1, 0, none⟩ hz2 _).put hC ⟨w.heap.size + 1, 1, none⟩ hz2 _).put hC ⟨w.heap.size + 1, 2, none⟩ hz2 _).put hC ⟨w.heap.size + 1, 3, none⟩ hz2 _).m
    · exact (((HBW6.out.setCell (by simp) _).setCell (by simp) _).setCell (by simp) _).setCell (by simp) _
  · have HI : Hid (atIx b.ls d ep = k) := Lib.hid hi
    have HFk := Lib.hid (HFB.out k hk hi)
    rw [show atIx b.ls d ep = k from hi]
    have hkx : k < xs.length := by rw [HO6.out.each.len]; exact hk
    have hnl := HB.out.nl
    have klt : (k : Int) < b.ls.length := by omega
    have kd : decide ((k : Int) < 0) = false := by simp
    obtain ⟨g, cap, hxl, hcap, hcm, hBg, hgs, ⟨h0, h1, h2, h3, h4, h5, h6⟩, _⟩ := HO6.out.cellsL k hk hkx
    injection hxl with hx1 hx2 hx3
    subst hx1 hx2 hx3
    have hLk := All2.at HO6.out.each k hkx hk
    generalize hxk : xs[k] = z at *
    obtain ⟨z1, z2, z3, z4, ⟨z5, z6, z7⟩, ⟨z8, z9, z10⟩, ⟨z11, z12, z13⟩⟩ := z
    simp only [Sv.v] at h4 h5 h6
    generalize hlk : b.ls[k] = l at *
    obtain ⟨q6, _, _⟩ := Sl.lens (s := ⟨z5, z6, z7⟩) (sl_of_owns hLk.s)
    obtain ⟨q9, _, _⟩ := Sl.lens (s := ⟨z8, z9, z10⟩) (sl_of_owns hLk.i)
    obtain ⟨q12, _, _⟩ := Sl.lens (s := ⟨z11, z12, z13⟩) (sl_of_owns hLk.u)
    simp only at q6 q9 q12
    subst q6 q9 q12
    have HX := Lib.hid hxk
    have HLK := Lib.hid hlk
    have hbA : Below w6.heap.size w6 (w6.alloc (.cells #[.int .i64 z1, .int .i64 z2, .int .i64 z3, .int .i64 z4, .slice z5 l.sl.length z7, .slice z8 l.ids.length z10, .slice z11 l.used.length z13] 45)) := (Below.refl _ _).alloc (Nat.le_refl _) _
    have HFR : Hid (Fr w.heap.size w.heap.size (w.heap.size + 1) w6.heap.size #[.int .i64 z1, .int .i64 z2, .int .i64 z3, .int .i64 z4, .slice z5 l.sl.length z7, .slice z8 l.ids.length z10, .slice z11 l.used.length z13] w (w6.alloc (.cells #[.int .i64 z1, .int .i64 z2, .int .i64 z3, .int .i64 z4, .slice z5 l.sl.length z7, .slice z8 l.ids.length z10, .slice z11 l.used.length z13] 45)) ⟨⟨da, dn, dc⟩, ⟨ea, e_n, ec⟩, ⟨some ⟨g, 0, none⟩, b.ls.length, mc⟩, ⟨na, n_n, nc⟩⟩ b xs) := by
      have ho := HO6.out.keep hbA
      refine Lib.hid ⟨HBW6.out.trans (hbA.mono HBW6.out.size), block_below HQ0.out hbA (by omega), block_below HQ2.out hbA hz6, heap_alloc_new _ _, Nat.le_refl _, by omega, fun e => ?_, owns_base ho.rc (by omega), owns_base ho.rf (by omega), owns_base ho.rl (by omega), owns_base ho.rb (by omega), ho.each.imp (fun _ _ r => r.base (by omega)), fun z hz q hq e => ?_⟩
      · have e2 : some g = some w6.heap.size := e
        injection e2 with e2
        omega
      · obtain ⟨l', _, hl'⟩ := ho.each.mem z hz
        have i1 := owns_ge hl'.u q hq
        have i2 := ho.bl q e
        omega
    clear hi hLk hxk hlk hbA e0 e1 e2 e3 f0 f1 f2 f3 HQ0 HQ2 HO6 HBW6 HFB
    go_upto_region 6 with fail
    generalize w6.alloc (.cells #[.int .i64 z1, .int .i64 z2, .int .i64 z3, .int .i64 z4, .slice z5 l.sl.length z7, .slice z8 l.ids.length z10, .slice z11 l.used.length z13] 45) = W7 at *
    generalize w6.heap.size = p9 at *
    clear d0 d1 d2 d3 h0 h1 h2 h3 h4 h5 h6 hgs
    obtain ⟨d0, d1, d2, d3, d4, d5, d6, _⟩ := seven_cells HFR.out.k9
    go_upto_block 0 with fail
    go_cut [] (fun wx => Fr w.heap.size w.heap.size (w.heap.size + 1) p9 #[.int .i64 z1, .int .i64 z2, .int .i64 z3, .int .i64 z4, .slice z5 l.sl.length z7, .slice z8 l.ids.length z10, .slice z11 l.used.length z13] w wx ⟨⟨da, dn, dc⟩, ⟨ea, e_n, ec⟩, ⟨some ⟨g, 0, none⟩, b.ls.length, mc⟩, ⟨na, n_n, nc⟩⟩ ⟨l.sl.foldl backC b.cs, b.free, b.ls, b.bound⟩ xs)
    case first =>
      go_wp2
      go_loopw [39] (fun v39 wr => ∃ j : Nat, j ≤ l.sl.length ∧ v39 = .int .i64 j ∧ Fr w.heap.size w.heap.size (w.heap.size + 1) p9 #[.int .i64 z1, .int .i64 z2, .int .i64 z3, .int .i64 z4, .slice z5 l.sl.length z7, .slice z8 l.ids.length z10, .slice z11 l.used.length z13] w wr ⟨⟨da, dn, dc⟩, ⟨ea, e_n, ec⟩, ⟨some ⟨g, 0, none⟩, b.ls.length, mc⟩, ⟨na, n_n, nc⟩⟩ ⟨(l.sl.take j).foldl backC b.cs, b.free, b.ls, b.bound⟩ xs) (fun v39 _ => l.sl.length - (intOf v39).toNat)
      case atStart => exact ⟨0, Nat.zero_le _, rfl, HFR.out⟩
      case round =>
        obtain ⟨j, hj, rfl, hfr⟩ := hrel
        have HFJ := Lib.hid hfr
        clear hfr
        by_cases hlt : j < l.sl.length
        · have jlt : (j : Int) < l.sl.length := by omega
          have hLk' : LsO wr w.heap.size xs[k] b.ls[k] := All2.at HFJ.out.each k hkx hk
          rw [HX.out, HLK.out] at hLk'
          obtain ⟨sb, so, rfl, hsb, s0, s1, s2, s3, s4⟩ := SlT.sc (sl_of_owns hLk'.s) (Below.refl _ _) (Nat.le_refl _) j hlt
          have HSC := Lib.hid (HFk.out.sc l.sl[j] (List.getElem_mem hlt))
          have HSN := Lib.hid (foldl_snoc backC l.sl b.cs j hlt)
          have hub := foldl_back (l.sl.take j) 2199023255552 b.cs (by omega) HFk.out.ct (fun s hs => HFk.out.sc s (List.mem_of_mem_take hs))
          have hsl3 := (HFk.out.each l (by rw [← HLK.out]; exact List.getElem_mem hk)).1
          have HUB : Hid (CtU 4400000000000000 ((l.sl.take j).foldl backC b.cs)) := Lib.hid (hub.1.mono (by rw [List.length_take]; omega))
          have HCL : Hid (((l.sl.take j).foldl backC b.cs).length < 1000) := Lib.hid (by rw [hub.2]; exact HFk.out.nc)
          clear hLk' hub
          generalize hcs : (l.sl.take j).foldl backC b.cs = cs at *
          generalize l.sl[j] = s at *
          obtain ⟨sk, su, sd, suu, sud⟩ := s
          simp only at s0 s1 s2 s3 s4
          have hbA : Below wr.heap.size wr (wr.alloc (.cells #[.string sk, .int .i64 su, .int .i64 sd, .int .i64 suu, .int .i64 sud] 51)) := (Below.refl _ _).alloc (Nat.le_refl _) _
          have HF8 := Lib.hid (HFJ.out.keep hbA)
          have HK8 := Lib.hid (heap_alloc_new wr (.cells #[.string sk, .int .i64 su, .int .i64 sd, .int .i64 suu, .int .i64 sud] 51))
          clear hbA hcs HFJ
          go_upto_region 9 with fail
          generalize wr.alloc (.cells #[.string sk, .int .i64 su, .int .i64 sd, .int .i64 suu, .int .i64 sud] 51) = W8 at *
          generalize wr.heap.size = p11 at *
          clear s0 s1 s2 s3 s4 hsb
          obtain ⟨c0, c1, c2, c3, _⟩ := four_cells HF8.out.kb
          obtain ⟨s0, s1, s2, s3, s4⟩ := five_cells HK8.out
          simp only [Sv.v] at c0 c1 c2 c3
          go_wp2_with fail
          refine (counter_any ⟨⟨da, dn, dc⟩, ⟨ea, e_n, ec⟩, ⟨some ⟨g, 0, none⟩, b.ls.length, mc⟩, ⟨na, n_n, nc⟩⟩ cs sk _ HF8.out.m.c).mono ?_
          rintro e W9 ⟨rfl, hb9⟩
          have HF9 := Lib.hid (HF8.out.keep hb9)
          have HK9 := Lib.hid (block_below HK8.out hb9 (Array.getElem?_eq_some_iff.1 HK8.out).1)
          clear hb9 HF8 HK8 c0 c1 c2 c3 s0 s1 s2 s3 s4
          rcases idxS_spec (fun c : Ct => decide (c.key = sk)) cs with ⟨hi, _⟩ | ⟨i, hi, hie, _, _⟩
          · have HBC : Hid (backC cs ⟨sk, su, sd, suu, sud⟩ = cs) := Lib.hid (backC_no hi)
            rw [show ctIx cs sk = -1 from hi]
            clear hi
            go_wp2
            go_roundw
            case rel => exact ⟨j + 1, by omega, by go_num, by rw [HSN.out, HBC.out]; exact HF9.out⟩
            case measure => simp [intOf]; omega
          · have HBC : Hid (backC cs ⟨sk, su, sd, suu, sud⟩ = (cs.set i ⟨cs[i].key, cs[i].coll, cs[i].lo, cs[i].hi, cs[i].start, cs[i].up + (su - suu), cs[i].down⟩).set i ⟨cs[i].key, cs[i].coll, cs[i].lo, cs[i].hi, cs[i].start, cs[i].up + (su - suu), cs[i].down + (sd - sud)⟩) := Lib.hid (backC_at hi hie)
            rw [show ctIx cs sk = i from hie]
            clear hie
            have HCI := Lib.hid (HUB.out cs[i] (List.getElem_mem hi))
            obtain ⟨cg, ccap, hcx⟩ := owns_some HF9.out.rc (show 0 < cs.length by omega)
            have hcx' : da = some ⟨cg, 0, none⟩ ∧ dn = cs.length ∧ dc = ccap := by
              simp only [Sv.v] at hcx
              injection hcx with h1 h2 h3
              exact ⟨h1, h2, h3⟩
            obtain ⟨rfl, rfl, rfl⟩ := hcx'
            have hrow := HF9.out.rc
            simp only [Sv.v] at hrow
            obtain ⟨p1, p2, p3, p4, p5, p6, p7⟩ := owns_block hrow
            have u5 : W9.cell? ⟨cg, i * 7 + 5, none⟩ = some (.int .i64 cs[i].up) := p7 _ _ (by rw [cellsT_at cCt_len _ i hi 5 (by omega)]; rfl)
            have u6 : W9.cell? ⟨cg, i * 7 + 6, none⟩ = some (.int .i64 cs[i].down) := p7 _ _ (by rw [cellsT_at cCt_len _ i hi 6 (by omega)]; rfl)
            have g5 := p6 (i * 7 + 5)
            have hcgp : cg ≠ p11 := fun e => by
              obtain ⟨cur, hg⟩ := owns_cur' hrow
              rw [e, HK9.out] at hg
              injection hg with hg
              injection hg with _ hg _
              exact absurd hg (by decide)
            have hilt : (i : Int) < cs.length := by omega
            have hi0 : ¬ ((i : Int) < 0) := by omega
            have kdi : decide ((i : Int) < 0) = false := by simp
            have hcl := HCL.out
            have HF10 : Hid (Fr w.heap.size w.heap.size (w.heap.size + 1) p9 #[.int .i64 z1, .int .i64 z2, .int .i64 z3, .int .i64 z4, .slice (some ⟨sb, so, none⟩) l.sl.length z7, .slice z8 l.ids.length z10, .slice z11 l.used.length z13] w (W9.drew.setCell ⟨cg, i * 7 + 5, none⟩ (.int .i64 (cs[i].up + (su - suu)))) ⟨⟨some ⟨cg, 0, none⟩, cs.length, dc⟩, ⟨ea, e_n, ec⟩, ⟨some ⟨g, 0, none⟩, b.ls.length, mc⟩, ⟨na, n_n, nc⟩⟩ ⟨(cs.set i ⟨cs[i].key, cs[i].coll, cs[i].lo, cs[i].hi, cs[i].start, cs[i].up + (su - suu), cs[i].down⟩), b.free, b.ls, b.bound⟩ xs) :=
              Lib.hid ((HF9.out.keep (Below.refl _ _).drew).setC rfl (i * 7 + 5) (by show _ < cs.length * 7; omega) _ (cellsCt_set5 cs i hi _) (by simp))
            have HK10 : Hid ((W9.drew.setCell ⟨cg, i * 7 + 5, none⟩ (.int .i64 (cs[i].up + (su - suu)))).heap[p11]? = some (.cells #[.string sk, .int .i64 su, .int .i64 sd, .int .i64 suu, .int .i64 sud] 51 (0, 0))) := Lib.hid ((set_ne _ _ _ hcgp _).trans HK9.out)
            have HDN : Hid ((cs.set i ⟨cs[i].key, cs[i].coll, cs[i].lo, cs[i].hi, cs[i].start, cs[i].up + (su - suu), cs[i].down⟩)[i]? = some ⟨cs[i].key, cs[i].coll, cs[i].lo, cs[i].hi, cs[i].start, cs[i].up + (su - suu), cs[i].down⟩) := Lib.hid (by rw [List.getElem?_set_self hi])
            have hsc := HSC.out
            unfold ScU at hsc
            simp only at hsc
            obtain ⟨r1, r2, r3, r4, r5, r6⟩ := hsc
            obtain ⟨o1, o2, o3, o4⟩ := HCI.out
            have HBC2 := Lib.hid (show Hid (backC cs ⟨sk, su, sd, suu, sud⟩ = (cs.set i ⟨cs[i].key, cs[i].coll, cs[i].lo, cs[i].hi, cs[i].start, cs[i].up + (su - suu), cs[i].down⟩).set i ⟨cs[i].key, cs[i].coll, cs[i].lo, cs[i].hi, cs[i].start, cs[i].up + (su - suu), cs[i].down + (sd - sud)⟩) from HBC)
            generalize hcu : cs[i].up = cu at *
            generalize hcd : cs[i].down = cd at *
            have i1 : IntKind.i64.wrap (su - suu) = su - suu := IntWalk.i64_in _ (by omega)
            have i2 : IntKind.i64.wrap (cu + (su - suu)) = cu + (su - suu) := IntWalk.i64_in _ (by omega)
            have i3 : IntKind.i64.wrap (sd - sud) = sd - sud := IntWalk.i64_in _ (by omega)
            have i4 : IntKind.i64.wrap (cd + (sd - sud)) = cd + (sd - sud) := IntWalk.i64_in _ (by omega)
            have HI34 := Lib.hid (And.intro i3 i4)
            clear HCI r1 r2 r3 r4 r5 r6 o1 o2 o3 o4 i3 i4 hrow p1 p2 p3 p4 p5 p6 p7 u6 hcgp
            have hk9 := HF9.out.kb
            simp only [Sv.v] at hk9
            obtain ⟨c0, c1, c2, c3, _⟩ := four_cells hk9
            obtain ⟨s0, s1, s2, s3, s4⟩ := five_cells HK9.out
            clear hk9
            go_upto_region 11 with fail
            go_still_tail 14, (by kernel_rfl)
            change wpList _ _ _ _ _ W9.drew
            go_upto_region 12 with fail
            rw [show (W9.setCell ⟨cg, i * 7 + 5, none⟩ (.int .i64 (cu + (su - suu)))).drew = W9.drew.setCell ⟨cg, i * 7 + 5, none⟩ (.int .i64 (cu + (su - suu))) from rfl]
            have HFS := Lib.hid HF10.out
            have h10 := HF10.out
            generalize hcs1 : cs.set i ⟨cs[i].key, cs[i].coll, cs[i].lo, cs[i].hi, cs[i].start, cu + (su - suu), cd⟩ = cs1 at *
            have hl1 : cs1.length = cs.length := by rw [← hcs1, List.length_set]
            have HCS1 := Lib.hid hcs1
            have hi1 : i < cs1.length := by omega
            have he1 : cs1[i] = ⟨cs[i].key, cs[i].coll, cs[i].lo, cs[i].hi, cs[i].start, cu + (su - suu), cd⟩ := by
              have := HDN.out
              rw [List.getElem?_eq_getElem hi1] at this
              injection this
            have hrow := h10.rc
            simp only [Sv.v] at hrow
            rw [hl1] at hrow
            obtain ⟨p1, p2, p3, p4, p5, p6, p7⟩ := owns_block hrow
            have v6 : (W9.drew.setCell ⟨cg, i * 7 + 5, none⟩ (.int .i64 (cu + (su - suu)))).cell? ⟨cg, i * 7 + 6, none⟩ = some (.int .i64 cd) := p7 _ _ (by rw [cellsT_at cCt_len _ i hi1 6 (by omega), he1]; rfl)
            have g6 := p6 (i * 7 + 6)
            have hk9 := h10.kb
            simp only [Sv.v] at hk9
            have hk10 := HK10.out
            have HF11 := Lib.hid ((h10.keep (Below.refl _ _).drew).setC rfl (i * 7 + 6) (by show _ < cs1.length * 7; omega) (.int .i64 (cd + (sd - sud))) (cellsCt_set6 cs1 i hi1 _) (by simp))
            clear hcs1 h10 hrow p1 p2 p3 p4 p5 p6 p7 c0 c1 c2 c3 s0 s1 s2 s3 s4 g5 u5 HF10 HK10 HF9 HK9
            generalize W9.drew.setCell ⟨cg, i * 7 + 5, none⟩ (.int .i64 (cu + (su - suu))) = V1 at *
            obtain ⟨c0, c1, c2, c3, _⟩ := four_cells hk9
            obtain ⟨s0, s1, s2, s3, s4⟩ := five_cells hk10
            clear hk9 hk10 i1 i2
            obtain ⟨i3, i4⟩ := HI34.out
            go_still_tail 14, (by kernel_rfl)
            change wpList _ _ _ _ _ V1.drew
            go_wp2
            rw [show (V1.setCell ⟨cg, i * 7 + 6, none⟩ (.int .i64 (cd + (sd - sud)))).drew = V1.drew.setCell ⟨cg, i * 7 + 6, none⟩ (.int .i64 (cd + (sd - sud))) from rfl]
            clear c0 c1 c2 c3 s0 s1 s2 s3 s4 i3 i4 g6 v6
            go_roundw
            case rel =>
              refine ⟨j + 1, by omega, by go_num, ?_⟩
              have h11 := HF11.out
              rw [he1] at h11
              simp only at h11
              rw [HSN.out, HBC2.out.out]
              exact h11
            case measure => simp [intOf]; omega
        · have HE : Hid (j = l.sl.length) := Lib.hid (by omega)
          have jlt : ¬ (j : Int) < l.sl.length := by omega
          go_wp2
          go_meet
          have h1 := HFJ.out
          rw [HE.out, List.take_length] at h1
          exact h1
    case rest =>
    obtain ⟨W8, hW8⟩ : ∃ W8, W8 = wc := ⟨_, rfl⟩
    subst hW8
    have HF8 := Lib.hid hcut
    have hub := foldl_back l.sl 2199023255552 b.cs (by omega) HFk.out.ct HFk.out.sc
    have HC8 : Hid ((l.sl.foldl backC b.cs).length = b.cs.length) := Lib.hid hub.2
    clear hcut HFR hub d0 d1 d2 d3 d4 d5 d6
    have HCS0 : Hid (∃ cs, l.sl.foldl backC b.cs = cs) := Lib.hid ⟨_, rfl⟩
    obtain ⟨cs, hcs⟩ := HCS0.out
    clear HCS0
    rw [hcs] at HF8 HC8
    have HCS := Lib.hid hcs
    clear hcs
    obtain ⟨d0, d1, d2, d3, d4, d5, d6, _⟩ := seven_cells HF8.out.k9
    go_upto_block 2 with fail
    go_cut [13] (fun v13 wx => ∃ lv bv : Sv, v13 = lv.v ∧ wx.ownsRow w.heap.size 78 2 lv.v (l.used.foldl leftI l.ids).length (cellsR (l.used.foldl leftI l.ids)) ∧ Fr w.heap.size w.heap.size (w.heap.size + 1) p9 #[.int .i64 z1, .int .i64 z2, .int .i64 z3, .int .i64 z4, .slice z5 l.sl.length z7, .slice z8 l.ids.length z10, .slice z11 l.used.length z13] w wx ⟨⟨da, dn, dc⟩, ⟨ea, e_n, ec⟩, ⟨some ⟨g, 0, none⟩, b.ls.length, mc⟩, bv⟩ ⟨cs, b.free, b.ls, l.used.foldl boundI b.bound⟩ xs)
    case first =>
      go_wp2
      go_loopw [13, 83] (fun v13 v83 wr => ∃ (j : Nat) (lv bv : Sv), j ≤ l.used.length ∧ v83 = .int .i64 j ∧ v13 = lv.v ∧ wr.ownsRow w.heap.size 78 2 lv.v ((l.used.take j).foldl leftI l.ids).length (cellsR ((l.used.take j).foldl leftI l.ids)) ∧ Fr w.heap.size w.heap.size (w.heap.size + 1) p9 #[.int .i64 z1, .int .i64 z2, .int .i64 z3, .int .i64 z4, .slice z5 l.sl.length z7, .slice z8 l.ids.length z10, .slice z11 l.used.length z13] w wr ⟨⟨da, dn, dc⟩, ⟨ea, e_n, ec⟩, ⟨some ⟨g, 0, none⟩, b.ls.length, mc⟩, bv⟩ ⟨cs, b.free, b.ls, (l.used.take j).foldl boundI b.bound⟩ xs) (fun _ v83 _ => l.used.length - (intOf v83).toNat)
      case atStart =>
        have hLk' : LsO W8 w.heap.size xs[k] b.ls[k] := All2.at HF8.out.each k hkx hk
        rw [HX.out, HLK.out] at hLk'
        exact ⟨0, ⟨z8, l.ids.length, z10⟩, ⟨na, n_n, nc⟩, Nat.zero_le _, rfl, rfl, hLk'.i, HF8.out⟩
      case round =>
        obtain ⟨j, ⟨lva, lvn, lvc⟩, ⟨bva, bvn, bvc⟩, hj, rfl, rfl, hlv, hfr⟩ := hrel
        have HFJ := Lib.hid hfr
        clear hfr
        have hkp := foldl_left (l.used.take j) l.ids HFk.out.row
        have hll := HFk.out.len
        have hls := len_le_lenR _ hkp.1.1
        have HLS : Hid (Small ((l.used.take j).foldl leftI l.ids)) := Lib.hid hkp.1.1
        have hln : ((l.used.take j).foldl leftI l.ids).length < 1000000 := by omega
        have hbp := foldl_bound (l.used.take j) b.bound HFk.out.sort
        have hul := (HFk.out.each l (by rw [← HLK.out]; exact List.getElem_mem hk)).2.2
        have hnb := HFk.out.nb
        have hbl : ((l.used.take j).foldl boundI b.bound).length < 50000 := by
          have h1 := hbp.2
          rw [List.length_take] at h1
          omega
        have HBP := Lib.hid hbp.1
        clear hkp hbp hls hll
        by_cases hlt : j < l.used.length
        · have jlt : (j : Int) < l.used.length := by omega
          have hLk' : LsO wr w.heap.size xs[k] b.ls[k] := All2.at HFJ.out.each k hkx hk
          rw [HX.out, HLK.out] at hLk'
          obtain ⟨ub, uo, rfl, hub, s0⟩ := SlI.cell (sl_of_owns hLk'.u) (Below.refl _ _) (Nat.le_refl _) j hlt
          have HUS := Lib.hid (HFk.out.used l.used[j] (List.getElem_mem hlt))
          have HSL := Lib.hid (foldl_snoc leftI l.used l.ids j hlt)
          have HSB := Lib.hid (foldl_snoc boundI l.used b.bound j hlt)
          have HLV := Lib.hid hlv
          clear hLk' hub hlv
          generalize (l.used.take j).foldl leftI l.ids = left at *
          generalize (l.used.take j).foldl boundI b.bound = bd at *
          generalize l.used[j] = u at *
          go_wp2_with fail
          refine (lessR_any _ left u _ (sl_of_owns HLV.out) HLS.out hln HUS.out.1 HUS.out.2).mono ?_
          rintro e W9 ⟨v', rfl, hro, hb9⟩
          have HF9 := Lib.hid (HFJ.out.keep hb9)
          have HLV9 := Lib.hid (owns_keep HLV.out hb9 (Nat.le_refl _))
          have HRO : Hid (hasR left u = true → W9.ownsRow w.heap.size 78 2 v' (lessS left u).length (cellsR (lessS left u))) := Lib.hid (fun h => owns_base (hro h) HFJ.out.hB)
          clear hro hb9 HFJ HLV s0
          have HLI : Hid (leftI left u = if hasR left u = true then lessS left u else left) := Lib.hid rfl
          generalize hasR left u = q at *
          go_upto_if 93 with fail
          go_cut [13] (fun v13 wx => ∃ lv' : Sv, v13 = lv'.v ∧ W9.ownsRow w.heap.size 78 2 lv'.v (leftI left u).length (cellsR (leftI left u)) ∧ wx = W9)
          case first =>
            cases q with
            | true =>
              have h1 := HRO.out rfl
              obtain ⟨ao1, cp1, rfl, _, _⟩ := owns_shape h1
              have HL1 := Lib.hid h1
              clear h1
              go_wp2
              go_meet
              exact ⟨⟨ao1, _, cp1⟩, rfl, by rw [show leftI left u = lessS left u by rw [HLI.out]; simp]; exact HL1.out, rfl⟩
            | false =>
              go_wp2
              go_meet
              exact ⟨⟨lva, lvn, lvc⟩, rfl, by rw [show leftI left u = left by rw [HLI.out]; simp]; exact HLV9.out, rfl⟩
          case rest =>
          obtain ⟨⟨ma1, mn1, mc1⟩, rfl, hlv1, hwc⟩ := hcut
          have HL1 := Lib.hid hlv1
          obtain ⟨V9, hV9⟩ : ∃ V9, V9 = wc := ⟨_, rfl⟩
          subst hV9
          subst hwc
          clear hlv1 HRO HLI HLV9
          obtain ⟨c0, c1, c2, c3, _⟩ := four_cells HF9.out.kb
          simp only [Sv.v] at c0 c1 c2 c3
          have HBI : Hid (boundI bd u = if bd.contains u = true then bd else rise bd u) := Lib.hid rfl
          have HRI := Lib.hid (cells_rise bd u)
          have HRL := Lib.hid (length_rise bd u)
          have hcp : bd.countP (· < u) ≤ bd.length := List.countP_le_length
          go_wp2_with fail
          refine (bsearch_any _ bd u _ (sl_of_owns HF9.out.rb) (by omega) HBP.out).mono ?_
          rintro e V9 ⟨rfl, rfl⟩
          generalize hcc : bd.countP (· < u) = cp at *
          generalize bd.contains u = q2 at *
          clear hcc
          cases q2 with
          | true =>
            have HB2 : Hid (boundI bd u = bd) := Lib.hid (by rw [HBI.out]; simp)
            clear HBI
            go_wp2
            go_roundw
            case rel => exact ⟨j + 1, ⟨ma1, mn1, mc1⟩, ⟨bva, bvn, bvc⟩, by omega, by go_num, rfl, by rw [HSL.out]; exact HL1.out, by rw [HSB.out, HB2.out]; exact HF9.out⟩
            case measure => simp [intOf]; omega
          | false =>
            have HB2 : Hid (boundI bd u = rise bd u) := Lib.hid (by rw [HBI.out]; simp)
            have hbA : Below V9.heap.size V9 (V9.alloc (.cells #[.int .i64 u] 3)) := (Below.refl _ _).alloc (Nat.le_refl _) _
            have hkA : (V9.alloc (.cells #[.int .i64 u] 3)).heap[V9.heap.size]? = some (.cells #[.int .i64 u] 3 (0, 0)) := heap_alloc_new _ _
            have HFA := Lib.hid (HF9.out.keep hbA)
            have HLA := Lib.hid (owns_keep HL1.out hbA (Nat.le_refl _))
            have hyb : (Value.slice bva bvn bvc).ownBlock ≠ some V9.heap.size := fun e => by
              have := (HF9.out.rb.lt _ e).2
              omega
            clear hbA HBI
            go_wp2_with fail
            generalize V9.alloc (.cells #[.int .i64 u] 3) = W10 at *
            generalize hv8 : V9.heap.size = v8 at *
            clear hv8
            refine (insertIn_any _ bd.length cp (cellsI bd) [.int .i64 u] W10 w.heap.size v8 HFA.out.rb (cellsI_oneCell _) (by intro u hu; simp at hu; subst hu; rfl) rfl (by omega) hcp HFA.out.hB hkA hyb).mono ?_
            rintro e W11 ⟨v', rfl, ho9, hg9, hat9⟩
            rw [HRI.out, ← HRL.out] at ho9
            obtain ⟨ao', cap', rfl, _, _⟩ := owns_shape ho9
            have HFI := Lib.hid (HFA.out.insB (v' := ⟨ao', _, cap'⟩) ho9 hg9 hat9)
            have hkb := blkG HFA.out.kb HFA.out.rb hg9 (by decide)
            have hla := rowG HLA.out HFA.out.rb hg9 (by decide)
            have HLB2 := Lib.hid (owns_other hla (g := w.heap.size) (W' := W11.setCell ⟨w.heap.size, 3, none⟩ (.slice ao' (rise bd u).length cap')) (fun c hc => set_ne _ _ _ (fun e => hc e.symm) _) hkb (by decide))
            obtain ⟨d0, d1, d2, d3, _⟩ := four_cells hkb
            have f3 := four_free hkb 3
            simp only [Sv.v] at d0 d1 d2 d3 HFI
            clear hkb hla ho9 hg9 hat9 hyb hkA
            go_wp2
            go_roundw
            case rel => exact ⟨j + 1, ⟨ma1, mn1, mc1⟩, ⟨ao', _, cap'⟩, by omega, by go_num, rfl, by rw [HSL.out]; exact HLB2.out, by rw [HSB.out, HB2.out]; exact HFI.out⟩
            case measure => simp [intOf]; omega
        · have HE : Hid (j = l.used.length) := Lib.hid (by omega)
          have jlt : ¬ (j : Int) < l.used.length := by omega
          go_wp2
          go_meet
          have h1 := HFJ.out
          rw [HE.out, List.take_length] at h1 hlv
          exact ⟨_, _, rfl, hlv, h1⟩
    case rest =>
    obtain ⟨⟨lva, lvn, lvc⟩, ⟨bva, bvn, bvc⟩, hv13, hlv, hfr⟩ := hcut
    change _ = Value.slice lva lvn lvc at hv13
    subst hv13
    obtain ⟨W9, hW9⟩ : ∃ W9, W9 = wc := ⟨_, rfl⟩
    subst hW9
    have HF9 := Lib.hid hfr
    have hkp := foldl_left l.used l.ids HFk.out.row
    have hll := HFk.out.len
    have hls := len_le_lenR _ hkp.1.1
    have hln : (l.used.foldl leftI l.ids).length < 10000 := by omega
    have hnf := HFk.out.nf
    have hbp := foldl_bound l.used b.bound HFk.out.sort
    have hul := (HFk.out.each l (by rw [← HLK.out]; exact List.getElem_mem hk)).2.2
    have hnb := HFk.out.nb
    have hbl : (l.used.foldl boundI b.bound).length < 100000 := by have h1 := hbp.2; omega
    clear hkp hls hll hfr hbp HF8 d0 d1 d2 d3 d4 d5 d6
    have HRES : Hid (freeS b d ep = (⟨cs, addAll b.free (l.used.foldl leftI l.ids), b.ls.eraseIdx k, l.used.foldl boundI b.bound⟩, 0)) := Lib.hid (by
      unfold freeS
      rw [HI.out, if_neg (by omega)]
      simp only [Int.toNat_natCast, List.getD, List.getElem?_eq_getElem hk, Option.getD_some, HLK.out]
      unfold freeL
      rw [HCS.out])
    generalize l.used.foldl leftI l.ids = left at *
    generalize l.used.foldl boundI b.bound = bd at *
    obtain ⟨ql, _, _⟩ := Sl.lens (s := ⟨lva, lvn, lvc⟩) (sl_of_owns hlv)
    simp only at ql
    subst ql
    have HLV := Lib.hid hlv
    clear hlv
    go_upto_block 4 with fail
    go_cut [] (fun wx => ∃ fv : Sv, Fr w.heap.size w.heap.size (w.heap.size + 1) p9 #[.int .i64 z1, .int .i64 z2, .int .i64 z3, .int .i64 z4, .slice z5 l.sl.length z7, .slice z8 l.ids.length z10, .slice z11 l.used.length z13] w wx ⟨⟨da, dn, dc⟩, fv, ⟨some ⟨g, 0, none⟩, b.ls.length, mc⟩, ⟨bva, bvn, bvc⟩⟩ ⟨cs, addAll b.free left, b.ls, bd⟩ xs)
    case first =>
      go_wp2
      go_loopw [114] (fun v114 wr => ∃ (j : Nat) (fv : Sv), j ≤ left.length ∧ v114 = .int .i64 j ∧ wr.ownsRow w.heap.size 78 2 (.slice lva left.length lvc) left.length (cellsR left) ∧ Fr w.heap.size w.heap.size (w.heap.size + 1) p9 #[.int .i64 z1, .int .i64 z2, .int .i64 z3, .int .i64 z4, .slice z5 l.sl.length z7, .slice z8 l.ids.length z10, .slice z11 l.used.length z13] w wr ⟨⟨da, dn, dc⟩, fv, ⟨some ⟨g, 0, none⟩, b.ls.length, mc⟩, ⟨bva, bvn, bvc⟩⟩ ⟨cs, addAll b.free (left.take j), b.ls, bd⟩ xs) (fun v114 _ => left.length - (intOf v114).toNat)
      case atStart => exact ⟨0, ⟨ea, e_n, ec⟩, Nat.zero_le _, rfl, HLV.out, HF9.out⟩
      case round =>
        obtain ⟨j, ⟨fva, fvn, fvc⟩, hj, rfl, hlv, hfr⟩ := hrel
        have HFJ := Lib.hid hfr
        have HLJ := Lib.hid hlv
        clear hfr
        by_cases hlt : j < left.length
        · have jlt : (j : Int) < left.length := by omega
          obtain ⟨rb, ro, rfl, hrb, r0, r1⟩ := SlR.pair (sl_of_owns hlv) (Below.refl _ _) (Nat.le_refl _) j hlt
          have HAS : Hid (addAll b.free (left.take (j + 1)) = addS (addAll b.free (left.take j)) left[j]) := Lib.hid (by rw [take_snoc left j hlt, addAll_snoc])
          have hal := length_addAll (left.take j) b.free
          have hal2 : (addAll b.free (left.take j)).length < 1000000 := by rw [List.length_take] at hal; omega
          clear hlv hal hrb
          generalize addAll b.free (left.take j) = fr at *
          generalize left[j] = r at *
          obtain ⟨p, q⟩ := r
          simp only at r0 r1
          have hbA : Below wr.heap.size wr (wr.alloc (.cells #[.int .i64 p, .int .i64 q] 78)) := (Below.refl _ _).alloc (Nat.le_refl _) _
          have hkA := heap_alloc_new wr (.cells #[.int .i64 p, .int .i64 q] 78)
          have HFA := Lib.hid (HFJ.out.keep hbA)
          have HLA := Lib.hid (owns_keep HLJ.out hbA (Nat.le_refl _))
          obtain ⟨n0, n1, _, _, _⟩ := two_cells hkA
          obtain ⟨d0, d1, d2, d3, _⟩ := four_cells HFA.out.kb
          simp only [Sv.v] at d0 d1 d2 d3
          clear hbA hkA HFJ HLJ
          go_upto_region 28 with fail
          generalize wr.alloc (.cells #[.int .i64 p, .int .i64 q] 78) = W10 at *
          generalize wr.heap.size = p21 at *
          clear r0 r1
          go_wp2_with fail
          refine (add_any (.slice fva fvn fvc) fr p q _ (sl_of_owns HFA.out.rf) hal2).mono ?_
          rintro e W11 ⟨v', rfl, ho, hb11⟩
          obtain ⟨ao', cap', rfl, _, _⟩ := owns_shape ho
          have hfk := HFA.out.keep hb11
          have HF11 := Lib.hid (hfk.setF (f' := ⟨ao', _, cap'⟩) (owns_base ho HFA.out.hB))
          have hla := owns_keep HLA.out hb11 (Nat.le_refl _)
          have HL11 := Lib.hid (owns_other hla (g := w.heap.size) (W' := W11.setCell ⟨w.heap.size, 1, none⟩ (.slice ao' (addS fr (p, q)).length cap')) (fun c hc => set_ne _ _ _ (fun e => hc e.symm) _) hfk.kb (by decide))
          have hkb := hfk.kb
          clear d0 d1 d2 d3 n0 n1
          obtain ⟨d0, d1, d2, d3, _⟩ := four_cells hkb
          have f1 := four_free hkb 1
          simp only [Sv.v] at d0 d1 d2 d3 HF11
          clear hkb hla hfk ho hb11
          go_wp2
          go_roundw
          case rel => exact ⟨j + 1, ⟨ao', _, cap'⟩, by omega, by go_num, HL11.out, by rw [HAS.out]; exact HF11.out⟩
          case measure => simp [intOf]; omega
        · have HE : Hid (j = left.length) := Lib.hid (by omega)
          have jlt : ¬ (j : Int) < left.length := by omega
          go_wp2
          go_meet
          have h1 := HFJ.out
          rw [HE.out, List.take_length] at h1
          exact ⟨_, h1⟩
    case rest =>
    obtain ⟨⟨fva, fvn, fvc⟩, hfr⟩ := hcut
    obtain ⟨W10, hW10⟩ : ∃ W10, W10 = wc := ⟨_, rfl⟩
    subst hW10
    have HF10 := Lib.hid hfr
    have hal := length_addAll left b.free
    have hcs8 := HC8.out
    have hnc := HFk.out.nc
    have HBB : Hid (BkB ⟨cs, addAll b.free left, b.ls.eraseIdx k, bd⟩) := Lib.hid ⟨by show cs.length < _; omega, by show (addAll b.free left).length < _; omega, by show (b.ls.eraseIdx k).length < _; rw [List.length_eraseIdx]; split <;> omega, by show bd.length < _; omega, fun x hx => HB.out.each x (List.mem_of_mem_eraseIdx hx)⟩
    generalize addAll b.free left = fr at *
    obtain ⟨d0, d1, d2, d3, _⟩ := four_cells hfr.kb
    simp only [Sv.v] at d0 d1 d2 d3
    clear hal hcs8 hnc hfr
    have kw : IntKind.i64.wrap ((k : Int) + 1) = (k : Int) + 1 := IntWalk.i64_in _ (by omega)
    have hnl2 := HFk.out.nl
    go_wp2_with fail
    refine (deleteLs_any g b.ls.length mc k (cellsT cLs xs) W10 w.heap.size HF10.out.rl (cellsT_oneCell cLs_one _) (by omega) hk).mono ?_
    rintro e W11 ⟨rfl, ho, hg⟩
    obtain ⟨h1, h2, h3, h4, h5⟩ := HF10.out.del rfl k hk ho hg
    have HB11 := Lib.hid h1
    have HM11 := Lib.hid h5
    have HQ6 := Lib.hid h3
    clear d0 d1 d2 d3 kw
    obtain ⟨d0, d1, d2, d3, _⟩ := four_cells h4
    have f2 := four_free h4 2
    have HQ0 := Lib.hid h2
    simp only [Sv.v] at d0 d1 d2 d3 HQ0
    clear h1 h2 h3 h4 h5 ho hg
    go_upto_region 31 with fail
    generalize W11.setCell ⟨w.heap.size, 2, none⟩ (.slice (some ⟨g, 0, none⟩) (b.ls.length - 1) mc) = W12 at *
    clear d0 d1 d2 d3 f2
    obtain ⟨d0, d1, d2, d3, _⟩ := four_cells HQ0.out
    go_wp2_with fail
    refine (ownBk_any ⟨⟨da, dn, dc⟩, ⟨fva, fvn, fvc⟩, ⟨some ⟨g, 0, none⟩, b.ls.length - 1, mc⟩, ⟨bva, bvn, bvc⟩⟩ ⟨cs, fr, b.ls.eraseIdx k, bd⟩ _ HM11.out HBB.out).mono ?_
    rintro e W13 ⟨⟨⟨ta, tn, tc⟩, ⟨ua, un, uc⟩, ⟨va, vn, vc⟩, ⟨xa, xn, xc⟩⟩, ys, C2, rfl, ho2, hC2, hb13⟩
    have hk6 := block_below HQ6.out hb13 (Array.getElem?_eq_some_iff.1 HQ6.out).1
    have hz12 : w.heap.size + 1 < W12.heap.size := (Array.getElem?_eq_some_iff.1 HQ6.out).1
    obtain ⟨e0, e1, e2, e3, _⟩ := four_cells hk6
    have f0 := four_free hk6 0
    have f1 := four_free hk6 1
    have f2 := four_free hk6 2
    have f3 := four_free hk6 3
    have HO2 := Lib.hid ((((ho2.put hC2 ⟨w.heap.size + 1, 0, none⟩ hz12 (.slice ta tn tc)).put hC2 ⟨w.heap.size + 1, 1, none⟩ hz12 (.slice ua un uc)).put hC2 ⟨w.heap.size + 1, 2, none⟩ hz12 (.slice va vn vc)).put hC2 ⟨w.heap.size + 1, 3, none⟩ hz12 (.slice xa xn xc))
    have HB13 := Lib.hid (HB11.out.trans (hb13.mono HB11.out.size))
    clear ho2 hb13 hk6 d0 d1 d2 d3
    go_wp2
    refine bodyPost_ret (v := .tuple #[.agg #[.slice ta tn tc, .slice ua un uc, .slice va vn vc, .slice xa xn xc], .int .i64 0]) (by simp [results, Try.results24, go_sem, *]) rfl (show RetBkE _ _ _ _ from ?_)
    refine ⟨⟨⟨ta, tn, tc⟩, ⟨ua, un, uc⟩, ⟨va, vn, vc⟩, ⟨xa, xn, xc⟩⟩, by rw [HRES.out], by rw [HRES.out]; exact HO2.out.m, ?_⟩
    exact (((HB13.out.setCell (by simp) _).setCell (by simp) _).setCell (by simp) _).setCell (by simp) _

end Go.Proofs.Ytckonmlcgfbojaa
