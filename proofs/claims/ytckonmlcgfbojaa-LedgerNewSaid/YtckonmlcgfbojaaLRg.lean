/- Books in memory. -/
import Derived.Test.YtckonmlcgfbojaaRows
import Derived.Test.YtckonmlcgfbojaaLEl
import Derived.Test.YtckonmlcgfbojaaLPl
import Derived.Test.YtckonmlcgfbojaaSlI
namespace Go.Proofs.Ytckonmlcgfbojaa
open Go.RowKit

def cCt (c : Ct) : List Value := [.string c.key, .int .i64 c.coll, .int .i64 c.lo, .int .i64 c.hi, .int .i64 c.start, .int .i64 c.up, .int .i64 c.down]
def cSc (c : Sc) : List Value := [.string c.key, .int .i64 c.up, .int .i64 c.down, .int .i64 c.uu, .int .i64 c.ud]
def cWn (c : Wn) : List Value := [.string c.key, .int .i64 c.up, .int .i64 c.down, .int .i64 c.ids]
theorem cCt_len (c : Ct) : (cCt c).length = 7 := rfl
theorem cSc_len (c : Sc) : (cSc c).length = 5 := rfl
theorem cWn_len (c : Wn) : (cWn c).length = 4 := rfl
theorem cCt_one (c : Ct) : ∀ u ∈ cCt c, u.oneCell' = true := by intro u hu; simp [cCt] at hu; rcases hu with h | h | h | h | h | h | h <;> subst h <;> rfl
theorem cSc_one (c : Sc) : ∀ u ∈ cSc c, u.oneCell' = true := by intro u hu; simp [cSc] at hu; rcases hu with h | h | h | h | h <;> subst h <;> rfl
theorem cWn_one (c : Wn) : ∀ u ∈ cWn c, u.oneCell' = true := by intro u hu; simp [cWn] at hu; rcases hu with h | h | h | h <;> subst h <;> rfl
abbrev aCt (c : Ct) : Value := .agg #[.string c.key, .int .i64 c.coll, .int .i64 c.lo, .int .i64 c.hi, .int .i64 c.start, .int .i64 c.up, .int .i64 c.down]
abbrev aSc (c : Sc) : Value := .agg #[.string c.key, .int .i64 c.up, .int .i64 c.down, .int .i64 c.uu, .int .i64 c.ud]
abbrev aWn (c : Wn) : Value := .agg #[.string c.key, .int .i64 c.up, .int .i64 c.down, .int .i64 c.ids]

/-- A slice's head. -/
structure Sv where
  ao : Option Addr
  n : Nat
  cap : Nat
abbrev Sv.v (s : Sv) : Value := .slice s.ao s.n s.cap

/-- A lease as it lies: three of its cells are heads of slices. -/
structure LsC where
  dev : Int
  epoch : Int
  unt : Int
  last : Int
  s : Sv
  i : Sv
  u : Sv
def cLs (x : LsC) : List Value := [.int .i64 x.dev, .int .i64 x.epoch, .int .i64 x.unt, .int .i64 x.last, x.s.v, x.i.v, x.u.v]
theorem cLs_len (x : LsC) : (cLs x).length = 7 := rfl
theorem cLs_one (c : LsC) : ∀ u ∈ cLs c, u.oneCell' = true := by intro u hu; simp [cLs] at hu; rcases hu with h | h | h | h | h | h | h <;> subst h <;> rfl
abbrev aLs (x : LsC) : Value := .agg #[.int .i64 x.dev, .int .i64 x.epoch, .int .i64 x.unt, .int .i64 x.last, x.s.v, x.i.v, x.u.v]

abbrev SlCt (w : World) (v : Value) (l : List Ct) : Prop := SlT cCt 7 w v l
abbrev SlSc (w : World) (v : Value) (l : List Sc) : Prop := SlT cSc 5 w v l
abbrev SlWn (w : World) (v : Value) (l : List Wn) : Prop := SlT cWn 4 w v l

/-- A lease as it lies is the lease l. -/
structure LsM (w : World) (x : LsC) (l : Ls) : Prop where
  dev : x.dev = l.dev
  epoch : x.epoch = l.epoch
  unt : x.unt = l.unt
  last : x.last = l.last
  s : SlSc w x.s.v l.sl
  i : SlR w x.i.v l.ids
  u : SlI w x.u.v l.used
theorem LsM.keep {w w' : World} {x : LsC} {l : Ls} {B : Nat} (h : LsM w x l) (hb : Below B w w') (hB : w.heap.size ≤ B) : LsM w' x l :=
  ⟨h.dev, h.epoch, h.unt, h.last, h.s.keep hb hB, SlR.keep h.i hb hB, SlI.keep h.u hb hB⟩
/-- v reads as the leases ls. -/
def SlL (w : World) (v : Value) (ls : List Ls) : Prop := ∃ xs : List LsC, SlT cLs 7 w v xs ∧ All2 (LsM w) xs ls
theorem SlL.keep {w w' : World} {v : Value} {l : List Ls} {B : Nat} (h : SlL w v l) (hb : Below B w w') (hB : w.heap.size ≤ B) : SlL w' v l := by
  obtain ⟨xs, h1, h2⟩ := h
  exact ⟨xs, h1.keep hb hB, h2.imp (fun _ _ r => r.keep hb hB)⟩

/-- A book as it lies. -/
structure BkC where
  c : Sv
  f : Sv
  l : Sv
  b : Sv
abbrev aBk (x : BkC) : Value := .agg #[x.c.v, x.f.v, x.l.v, x.b.v]
structure BkM (w : World) (x : BkC) (b : Bk) : Prop where
  c : SlCt w x.c.v b.cs
  f : SlR w x.f.v b.free
  l : SlL w x.l.v b.ls
  b : SlI w x.b.v b.bound
theorem BkM.keep {w w' : World} {x : BkC} {b : Bk} {B : Nat} (h : BkM w x b) (hb : Below B w w') (hB : w.heap.size ≤ B) : BkM w' x b :=
  ⟨h.c.keep hb hB, SlR.keep h.f hb hB, h.l.keep hb hB, SlI.keep h.b hb hB⟩

/-- A slice's head, out of what reads. -/
theorem Sl.sv {w : World} {E : Nat} {v : Value} {n : Nat} {cs : List Value} (h : Sl w E v n cs) : ∃ s : Sv, v = s.v ∧ s.n = n ∧ n ≤ s.cap ∧ s.cap ≤ 9223372036854775807 := by
  obtain ⟨ao, cap, rfl, h1, h2⟩ := h.shape
  exact ⟨⟨ao, n, cap⟩, rfl, rfl, h1, h2⟩
theorem Sl.lens {w : World} {E : Nat} {s : Sv} {n : Nat} {cs : List Value} (h : Sl w E s.v n cs) : s.n = n ∧ n ≤ s.cap ∧ s.cap ≤ 9223372036854775807 := by
  obtain ⟨ao, cap, he, h1, h2⟩ := h.shape
  injection he with _ e2 e3
  subst e2 e3
  exact ⟨rfl, h1, h2⟩

theorem SlT.ct {w wr : World} {l : List Ct} {ao : Option Addr} {cap B : Nat} (h : SlCt w (.slice ao l.length cap) l) (hb : Below B w wr) (hB : w.heap.size ≤ B) (k : Nat) (hk : k < l.length) :
    ∃ b off, ao = some ⟨b, off, none⟩ ∧ b < w.heap.size ∧ wr.cell? ⟨b, off + k * 7, none⟩ = some (.string l[k].key) ∧ wr.cell? ⟨b, off + k * 7 + 1, none⟩ = some (.int .i64 l[k].coll) ∧ wr.cell? ⟨b, off + k * 7 + 2, none⟩ = some (.int .i64 l[k].lo) ∧
      wr.cell? ⟨b, off + k * 7 + 3, none⟩ = some (.int .i64 l[k].hi) ∧ wr.cell? ⟨b, off + k * 7 + 4, none⟩ = some (.int .i64 l[k].start) ∧ wr.cell? ⟨b, off + k * 7 + 5, none⟩ = some (.int .i64 l[k].up) ∧ wr.cell? ⟨b, off + k * 7 + 6, none⟩ = some (.int .i64 l[k].down) := by
  obtain ⟨b, off, h1, h2, h3⟩ := SlT.at h cCt_len (by omega) hb hB k hk
  exact ⟨b, off, h1, h2, h3 0 _ rfl, h3 1 _ rfl, h3 2 _ rfl, h3 3 _ rfl, h3 4 _ rfl, h3 5 _ rfl, h3 6 _ rfl⟩
theorem SlT.sc {w wr : World} {l : List Sc} {ao : Option Addr} {cap B : Nat} (h : SlSc w (.slice ao l.length cap) l) (hb : Below B w wr) (hB : w.heap.size ≤ B) (k : Nat) (hk : k < l.length) :
    ∃ b off, ao = some ⟨b, off, none⟩ ∧ b < w.heap.size ∧ wr.cell? ⟨b, off + k * 5, none⟩ = some (.string l[k].key) ∧ wr.cell? ⟨b, off + k * 5 + 1, none⟩ = some (.int .i64 l[k].up) ∧ wr.cell? ⟨b, off + k * 5 + 2, none⟩ = some (.int .i64 l[k].down) ∧
      wr.cell? ⟨b, off + k * 5 + 3, none⟩ = some (.int .i64 l[k].uu) ∧ wr.cell? ⟨b, off + k * 5 + 4, none⟩ = some (.int .i64 l[k].ud) := by
  obtain ⟨b, off, h1, h2, h3⟩ := SlT.at h cSc_len (by omega) hb hB k hk
  exact ⟨b, off, h1, h2, h3 0 _ rfl, h3 1 _ rfl, h3 2 _ rfl, h3 3 _ rfl, h3 4 _ rfl⟩
theorem SlT.wn {w wr : World} {l : List Wn} {ao : Option Addr} {cap B : Nat} (h : SlWn w (.slice ao l.length cap) l) (hb : Below B w wr) (hB : w.heap.size ≤ B) (k : Nat) (hk : k < l.length) :
    ∃ b off, ao = some ⟨b, off, none⟩ ∧ b < w.heap.size ∧ wr.cell? ⟨b, off + k * 4, none⟩ = some (.string l[k].key) ∧ wr.cell? ⟨b, off + k * 4 + 1, none⟩ = some (.int .i64 l[k].up) ∧ wr.cell? ⟨b, off + k * 4 + 2, none⟩ = some (.int .i64 l[k].down) ∧
      wr.cell? ⟨b, off + k * 4 + 3, none⟩ = some (.int .i64 l[k].ids) := by
  obtain ⟨b, off, h1, h2, h3⟩ := SlT.at h cWn_len (by omega) hb hB k hk
  exact ⟨b, off, h1, h2, h3 0 _ rfl, h3 1 _ rfl, h3 2 _ rfl, h3 3 _ rfl⟩
theorem SlT.ls {w wr : World} {l : List LsC} {ao : Option Addr} {cap B : Nat} (h : SlT cLs 7 w (.slice ao l.length cap) l) (hb : Below B w wr) (hB : w.heap.size ≤ B) (k : Nat) (hk : k < l.length) :
    ∃ b off, ao = some ⟨b, off, none⟩ ∧ b < w.heap.size ∧ wr.cell? ⟨b, off + k * 7, none⟩ = some (.int .i64 l[k].dev) ∧ wr.cell? ⟨b, off + k * 7 + 1, none⟩ = some (.int .i64 l[k].epoch) ∧ wr.cell? ⟨b, off + k * 7 + 2, none⟩ = some (.int .i64 l[k].unt) ∧
      wr.cell? ⟨b, off + k * 7 + 3, none⟩ = some (.int .i64 l[k].last) ∧ wr.cell? ⟨b, off + k * 7 + 4, none⟩ = some l[k].s.v ∧ wr.cell? ⟨b, off + k * 7 + 5, none⟩ = some l[k].i.v ∧ wr.cell? ⟨b, off + k * 7 + 6, none⟩ = some l[k].u.v := by
  obtain ⟨b, off, h1, h2, h3⟩ := SlT.at h cLs_len (by omega) hb hB k hk
  exact ⟨b, off, h1, h2, h3 0 _ rfl, h3 1 _ rfl, h3 2 _ rfl, h3 3 _ rfl, h3 4 _ rfl, h3 5 _ rfl, h3 6 _ rfl⟩

end Go.Proofs.Ytckonmlcgfbojaa
