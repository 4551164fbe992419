/- The walk of the law TimerSplit. -/
import Derived.Test.YtgjphckjhkdlnaaTLawC
import Derived.Test.YtgjphckjhkdlnaaLib5
import Derived.StillTailTactics
namespace Go.Proofs.Ytgjphckjhkdlnaa
open Go.RowKit

/-- Two objects that share nothing. -/
structure Two (w0 w : World) (T1 : Nat) (v1 : Value) (M1 : List Rw) (T2 : Nat) (v2 : Value) (M2 : List Rw) : Prop where
  one : St w0 w T1 v1 M1
  two : St w0 w T2 v2 M2
  ne : T1 ≠ T2
  a12 : v1.ownBlock ≠ some T2
  a21 : v2.ownBlock ≠ some T1
  ap : ∀ g, v1.ownBlock = some g → v2.ownBlock ≠ some g

theorem Two.symm {w0 w : World} {T1 T2 : Nat} {v1 v2 : Value} {M1 M2 : List Rw} (h : Two w0 w T1 v1 M1 T2 v2 M2) : Two w0 w T2 v2 M2 T1 v1 M1 :=
  ⟨h.two, h.one, h.ne.symm, h.a21, h.a12, fun g h1 h2 => h.ap g h2 h1⟩
theorem Two.left {w0 w w' : World} {T1 T2 : Nat} {v1 v2 v1' : Value} {M1 M2 M1' : List Rw} (h : Two w0 w T1 v1 M1 T2 v2 M2) (m : Mv T1 w v1 w' v1') (s : St w0 w' T1 v1' M1') : Two w0 w' T1 v1' M1' T2 v2 M2 := by
  have hT2 := h.two.lt
  refine ⟨s, ⟨?_, h.two.srt, h.two.len, s.bel⟩, h.ne, fun e => ?_, h.a21, fun g e => ?_⟩
  · obtain ⟨L, ht, hp, hh⟩ := h.two.rep
    exact ⟨L, ht.other m h.ne.symm h.a12 (fun g hg => ⟨fun e => h.a21 (by rw [hg, e]), fun e => h.ap g e hg⟩) (rfl : 0 = 0), hp, hh⟩
  · rcases m.stay _ e with h1 | h1
    · exact h.a12 h1
    · omega
  · rcases m.stay _ e with h1 | h1
    · exact h.ap g h1
    · exact fun e2 => by have := (h.two.blt g e2).2; omega
theorem Two.right {w0 w w' : World} {T1 T2 : Nat} {v1 v2 v2' : Value} {M1 M2 M2' : List Rw} (h : Two w0 w T1 v1 M1 T2 v2 M2) (m : Mv T2 w v2 w' v2') (s : St w0 w' T2 v2' M2') : Two w0 w' T1 v1 M1 T2 v2' M2' := (h.symm.left m s).symm
theorem Two.keep {w0 w w' : World} {T1 T2 : Nat} {v1 v2 : Value} {M1 M2 : List Rw} (h : Two w0 w T1 v1 M1 T2 v2 M2) (hb : Below w.heap.size w w') : Two w0 w' T1 v1 M1 T2 v2 M2 :=
  ⟨h.one.keep hb, h.two.keep hb, h.ne, h.a12, h.a21, h.ap⟩

theorem dueW_comp (M : List Rw) (a b : Int) (h : a ≤ b) : dueW M b = ((dueW M a).1 ++ (dueW (dueW M a).2 b).1, (dueW (dueW M a).2 b).2) := by
  induction M with
  | nil => rfl
  | cons r t ih =>
    by_cases hr : r.2 ≤ a
    · rw [dueW, dueW, if_pos (by omega), if_pos hr, ih]; rfl
    · rw [show dueW (r :: t) a = ([], r :: t) by rw [dueW, if_neg hr]]; simp
theorem dueW_none {M : List Rw} {a : Int} (h : ∀ r ∈ M, a < r.2) : dueW M a = ([], M) := by
  cases M with
  | nil => rfl
  | cons r t => rw [dueW, if_neg (by have := h r (by simp); omega)]

theorem within_still (a n : Int) (w : World) (hn : 0 < n) (hn2 : n ≤ 4611686018427387904) :
    Calls Try.prog 12 #[.int .i64 a, .int .i64 n] w fun e w' => e = .returned (.int .i64 (a % n)) ∧ w' = w :=
  (within_any a n w hn hn2).mono fun _ _ ⟨h1, h2⟩ => ⟨h1, h2.symm⟩

theorem mem_setW {M : List Rw} {id tm : Int} {r : Rw} (h : r ∈ (setW M id tm).1) : r = (id, tm) ∨ r ∈ M := by
  unfold setW at h
  split at h
  · exact .inr h
  · split at h
    · exact .inr h
    · rcases mem_insW.1 h with h | h
      · exact .inl h
      · exact .inr (mem_remW.1 h).1

theorem append_Is {w : World} {ops : Array Oper} {rest : List Oper} {o : Oper} {a : Act} {Q : Exit → Act → World → Prop} (hgd : o.guard = none) (s x : Operand)
    (ho : o.op = .call { callee := .builtin .append, args := #[s, x], argTypes := #[22, 22] })
    (base : Nat) (v : Value) (n : Nat) (l : List Int) (hs : a.eval s = v) (hown : w.ownsRow base 3 1 v n (cellsI l))
    (ao : Option Addr) (m c : Nat) (l' : List Int) (hx : a.eval x = .slice ao m c) (hm : l'.length = m) (hnews : Rd w ao (cellsI l'))
    (hn : n + m < 1000000000) (hbase : base ≤ w.heap.size)
    (h : ∀ v' w', w'.ownsRow base 3 1 v' (n + m) (cellsI (l ++ l')) → w.grownBy w' v.ownBlock → (v'.ownBlock = v.ownBlock ∨ v'.ownBlock = some w.heap.size) → wpList Try.prog ops Q rest (a.put o.dst v') w') : wpList Try.prog ops Q (o :: rest) a w := by
  obtain ⟨i, hi, hz0, hz1, hz2⟩ := info_parts Try.infoI
  refine wpList_append_rd_at hgd s x 22 ho base 3 i _ 1 8 Try.underlying22 hi hz0 hz1 hz2 rfl (by decide) v n _ hs hown ao m c (cellsI l') hx (by simp [cellsI, hm]) hnews (by intro u hu; simp [cellsI] at hu; obtain ⟨z, _, rfl⟩ := hu; rfl) (by unfold maxLen; omega) (by omega) hbase ?_
  intro v' w' h1 h2 h3
  exact h v' w' (by simpa [cellsI] using h1) h2 h3

theorem St.grown {w0 w w' : World} {T : Nat} {v : Value} {M : List Rw} {row : Option Nat} (h : St w0 w T v M) (hg : w.grownBy w' row) (h1 : row ≠ some T) (h2 : ∀ g, v.ownBlock = some g → row ≠ some g) (hr : ∀ g, row = some g → w0.heap.size ≤ g) : St w0 w' T v M := by
  obtain ⟨L, ht, hp, hh⟩ := h.rep
  exact ⟨⟨L, ht.grown hg h1 h2, hp, hh⟩, h.srt, h.len, h.bel.grown hg h.bel.size hr⟩
theorem Two.grown {w0 w w' : World} {T1 T2 : Nat} {v1 v2 : Value} {M1 M2 : List Rw} {row : Option Nat} (h : Two w0 w T1 v1 M1 T2 v2 M2) (hg : w.grownBy w' row) (hr : ∀ g, row = some g → w0.heap.size ≤ g ∧ g ≠ T1 ∧ g ≠ T2 ∧ v1.ownBlock ≠ some g ∧ v2.ownBlock ≠ some g) : Two w0 w' T1 v1 M1 T2 v2 M2 :=
  ⟨h.one.grown hg (fun e => (hr _ e).2.1 rfl) (fun g e1 e2 => (hr g e2).2.2.2.1 e1) (fun g e => (hr g e).1), h.two.grown hg (fun e => (hr _ e).2.2.1 rfl) (fun g e1 e2 => (hr g e2).2.2.2.2 e1) (fun g e => (hr g e).1), h.ne, h.a12, h.a21, h.ap⟩

/-- What is kept while T2 moves, and a row from B on grows. -/
structure Kept (B : Nat) (w : World) (T1 T2 : Nat) (v1 va : Value) (xs : List Int) : Prop where
  t1 : T1 < B
  t2 : T2 < B
  o1 : ∀ g, v1.ownBlock = some g → g < B
  oa : ∀ g, va.ownBlock = some g → g < B
  na : ∀ g, va.ownBlock = some g → g ≠ T2
  row : ∃ base, w.ownsRow base 3 1 va xs.length (cellsI xs)

theorem Kept.mv {B : Nat} {w w' : World} {T1 T2 : Nat} {v1 va v2 v2' : Value} {xs : List Int} (h : Kept B w T1 T2 v1 va xs) (m : Mv T2 w v2 w' v2') (hs : ∀ g, va.ownBlock = some g → v2.ownBlock ≠ some g) :
    Kept B w' T1 T2 v1 va xs ∧ ∀ g, va.ownBlock = some g → v2'.ownBlock ≠ some g := by
  obtain ⟨base, hr⟩ := h.row
  refine ⟨⟨h.t1, h.t2, h.o1, h.oa, h.na, base, owns_mv hr m (fun e => h.na _ e rfl) hs⟩, fun g hg e => ?_⟩
  rcases m.stay g e with h1 | h1
  · exact hs g hg h1
  · have := (hr.lt g hg).2; omega
theorem Kept.grown {B : Nat} {w w' : World} {T1 T2 : Nat} {v1 va : Value} {xs : List Int} {row : Option Nat} (h : Kept B w T1 T2 v1 va xs) (hg : w.grownBy w' row) (hr : ∀ g, row = some g → B ≤ g) : Kept B w' T1 T2 v1 va xs := by
  obtain ⟨base, hx⟩ := h.row
  refine ⟨h.t1, h.t2, h.o1, h.oa, h.na, base, hx.kept hg ?_⟩
  cases hv : va.ownBlock with
  | none => exact .inl rfl
  | some g => exact .inr (fun e => by have := h.oa g hv; have := hr g e.symm; omega)

end Go.Proofs.Ytgjphckjhkdlnaa
