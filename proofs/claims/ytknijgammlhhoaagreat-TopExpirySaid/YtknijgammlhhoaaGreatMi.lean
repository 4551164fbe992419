/- The last operation of an epoch that is in a log. -/
import Derived.RangeFuncNested
import Derived.RangeFuncBound
import Derived.RangeFuncCalls
import Derived.RangeFuncLeaves
import Derived.Shelf.Abstract
import Derived.Shelf.RegionOpen
import Derived.WalkKit
import Derived.OwnWalkIn
import Derived.TacticsInMore
import Derived.LoopNIn
import Derived.LoopIn
import Derived.Test.YtknijgammlhhoaaGreatProg
import Derived.Test.YtknijgammlhhoaaGreatMfB
import Derived.Deep.DeepCutAuto
import Derived.StillTailTactics
import Derived.IntWalk
set_option maxRecDepth 100000
set_option linter.all false
namespace Go.Proofs.Inc
open Go Go.RowKit Go.Shelf Go.Proofs
attribute [local go_sem] Oper.semAt_some
/-- An operation, as it lies. -/
structure Oc where
  d : Int
  e : Int
  q : Int
  c : Int
  v : Int
  k : Int
  ky : ByteArray
  tx : ByteArray
  n : Int
  t : Int
  sa : Option Addr
  sl : Nat
  sc : Nat
def Oc.val (x : Oc) : Value := .agg #[.int .i64 x.d, .int .i64 x.e, .int .i64 x.q, .int .i64 x.c, .int .i64 x.v, .int .i64 x.k, .string x.ky, .string x.tx, .int .i64 x.n, .int .i64 x.t, .slice x.sa x.sl x.sc]
structure Lies (W : World) (b off : Nat) (x : Oc) : Prop where
  c0 : W.cell? ⟨b, off, none⟩ = some (.int .i64 x.d)
  c1 : W.cell? ⟨b, off + 1, none⟩ = some (.int .i64 x.e)
  c2 : W.cell? ⟨b, off + 2, none⟩ = some (.int .i64 x.q)
  c3 : W.cell? ⟨b, off + 3, none⟩ = some (.int .i64 x.c)
  c4 : W.cell? ⟨b, off + 4, none⟩ = some (.int .i64 x.v)
  c5 : W.cell? ⟨b, off + 5, none⟩ = some (.int .i64 x.k)
  c6 : W.cell? ⟨b, off + 6, none⟩ = some (.string x.ky)
  c7 : W.cell? ⟨b, off + 7, none⟩ = some (.string x.tx)
  c8 : W.cell? ⟨b, off + 8, none⟩ = some (.int .i64 x.n)
  c9 : W.cell? ⟨b, off + 9, none⟩ = some (.int .i64 x.t)
  c10 : W.cell? ⟨b, off + 10, none⟩ = some (.slice x.sa x.sl x.sc)
theorem Lies.below {n₀ : Nat} {A B : World} (h : Below n₀ A B) {b off : Nat} {x : Oc} (hb : b < n₀) (l : Lies A b off x) : Lies B b off x :=
  ⟨(h.cell (p := ⟨b, _, none⟩) hb).trans l.c0, (h.cell (p := ⟨b, _, none⟩) hb).trans l.c1, (h.cell (p := ⟨b, _, none⟩) hb).trans l.c2, (h.cell (p := ⟨b, _, none⟩) hb).trans l.c3, (h.cell (p := ⟨b, _, none⟩) hb).trans l.c4, (h.cell (p := ⟨b, _, none⟩) hb).trans l.c5, (h.cell (p := ⟨b, _, none⟩) hb).trans l.c6, (h.cell (p := ⟨b, _, none⟩) hb).trans l.c7, (h.cell (p := ⟨b, _, none⟩) hb).trans l.c8, (h.cell (p := ⟨b, _, none⟩) hb).trans l.c9, (h.cell (p := ⟨b, _, none⟩) hb).trans l.c10⟩
def upto {α : Type} (f : Nat → α) (k : Nat) : List α := (List.range k).map f
theorem upto_succ {α : Type} (f : Nat → α) (k : Nat) : upto f (k + 1) = upto f k ++ [f k] := by simp [upto, List.range_succ]
theorem upto_length {α : Type} (f : Nat → α) (k : Nat) : (upto f k).length = k := by simp [upto]
set_option maxRecDepth 100000 in
set_option maxHeartbeats 4000000 in
theorem back1_in (F : Fence) (n : Nat) (h7 : F.fn 345) (hro : F.round = none) (hn : 1 ≤ n) (l Bs n₀ b off len cap : Nat) (g : Nat → Oc) (hreach : len ≤ 100000) (hb : b < n₀) (J Jx : List (Nat × Oc) → World → Prop)
    (hY : ∀ pre x W, J pre W → pre.length < len → YieldAt F (n - 1) Tryz.prog l #[.int .i64 (x.1 : Int), x.2.val] W fun e W' =>
      (e = .returned (.bool true) ∧ J (pre ++ [x]) W' ∧ Below n₀ W W') ∨ (e = .returned (.bool false) ∧ Jx (pre ++ [x]) W'))
    (W : World) (hBs : W.cell? ⟨Bs, 0, none⟩ = some (.slice (some ⟨b, off, none⟩) len cap)) (hBs0 : Bs < n₀) (hc : ∀ j, j < len → Lies W b (off + j * 11) (g j)) (h0 : J [] W) :
    CallsIn F n Tryz.prog 345 #[.func (.yield l) #[] #[], .pointer (some ⟨Bs, 0, none⟩)] W fun e W' => (∃ v, e = .returned v) ∧
      ((∃ ys, ys = upto (fun j => (len - 1 - j, g (len - 1 - j))) len ∧ J ys W') ∨ (∃ pre, (∃ k, k ≤ len ∧ pre = upto (fun j => (len - 1 - j, g (len - 1 - j))) k) ∧ Jx pre W')) := by
  refine callsIn_of_wp Tryz.func345 rfl h7 ?_ hro
  simp only [Tryz.ntmps345, List.size_toArray, List.length_cons, List.length_nil, Nat.reduceAdd, Nat.reduceSub, Array.replicate_succ, Array.replicate_zero, List.push_toArray, List.append_toArray, List.nil_append, List.cons_append]
  have hw : IntKind.i64.wrap ((len : Int) - 1) = (len : Int) - 1 := by simp [IntKind.wrap, IntKind.bits, IntKind.signed]; omega
  gi_wp2
  gi_loopw [3] (fun i wr => (∃ r : Nat, r < len ∧ i = .int .i64 r ∧ J (upto (fun j => (len - 1 - j, g (len - 1 - j))) (len - (r + 1))) wr ∧ Below n₀ W wr) ∨ (i = .int .i64 (-1) ∧ J (upto (fun j => (len - 1 - j, g (len - 1 - j))) len) wr))
    (fun i _ => (intOf i + 1).toNat)
  case atStart =>
    cases len with
    | zero => exact .inr ⟨by simp, h0⟩
    | succ m => exact .inl ⟨m, by omega, by simp, by simpa [upto] using h0, Below.refl _ _⟩
  case round =>
    rcases hrel with ⟨r, hr, rfl, hJs, hnx⟩ | ⟨rfl, hJs⟩
    · have hl := (hc r hr).below hnx hb
      have hBs' := (hnx.cell (p := ⟨Bs, 0, none⟩) hBs0).trans hBs
      obtain ⟨c0, c1, c2, c3, c4, c5, c6, c7, c8, c9, c10⟩ := hl
      have er : len - 1 - (len - (r + 1)) = r := by omega
      obtain ⟨fn, tmps, assign, body, hy, hR⟩ := hY _ (r, g r) wr hJs (by rw [upto_length]; omega)
      dsimp only at hy
      unfold Oc.val at hy
      have r0 : (0 : Int) ≤ (r : Int) := by omega
      have hwr : IntKind.i64.wrap ((r : Int) - 1) = (r : Int) - 1 := by simp [IntKind.wrap, IntKind.bits, IntKind.signed]; omega
      have es : len - (r + 1) + 1 = len - r := by omega
      have hst : upto (fun j => (len - 1 - j, g (len - 1 - j))) (len - r) = upto (fun j => (len - 1 - j, g (len - 1 - j))) (len - (r + 1)) ++ [(r, g r)] := by
        rw [← es, upto_succ, er]
      gi_wp2
      refine hR.mono ?_
      rintro e W3 (⟨rfl, hJ3, hk3⟩ | ⟨rfl, hJx3⟩)
      · gi_wp2
        go_roundw
        case rel =>
          cases r with
          | zero => exact .inr ⟨by simp, by rw [← hst] at hJ3; simpa using hJ3⟩
          | succ r => exact .inl ⟨r, by omega, by simp, by rw [← hst] at hJ3; exact hJ3, hnx.trans hk3⟩
        case measure => simp [intOf]
      · gi_wp2
        refine bodyPost_ret (results_none rfl _ _ _) rfl ?_
        exact ⟨⟨_, rfl⟩, .inr ⟨_, ⟨len - r, by omega, hst.symm⟩, hJx3⟩⟩
    · gi_wp2
      go_end0
      exact ⟨⟨_, rfl⟩, .inl ⟨_, rfl, hJs⟩⟩
set_option maxRecDepth 100000 in
set_option maxHeartbeats 1000000 in
theorem back1_nil_in (F : Fence) (n : Nat) (h7 : F.fn 345) (hro : F.round = none) (l Bs : Nat) (J : List (Nat × Oc) → World → Prop) (W : World) (hBs : W.cell? ⟨Bs, 0, none⟩ = some (.slice none 0 0)) (h0 : J [] W) :
    CallsIn F n Tryz.prog 345 #[.func (.yield l) #[] #[], .pointer (some ⟨Bs, 0, none⟩)] W fun e W' => (∃ v, e = .returned v) ∧ J [] W' := by
  refine callsIn_of_wp Tryz.func345 rfl h7 ?_ hro
  simp only [Tryz.ntmps345, List.size_toArray, List.length_cons, List.length_nil, Nat.reduceAdd, Nat.reduceSub, Array.replicate_succ, Array.replicate_zero, List.push_toArray, List.append_toArray, List.nil_append, List.cons_append]
  gi_wp2
  gi_loopw [3] (fun i wr => i = .int .i64 (-1) ∧ J [] wr) (fun _ _ => 0)
  case atStart => exact ⟨by simp, h0⟩
  case round =>
    obtain ⟨rfl, hJs⟩ := hrel
    gi_wp2
    go_end0
    exact ⟨⟨_, rfl⟩, hJs⟩
set_option maxHeartbeats 1000000 in
theorem back_in (F : Fence) (n : Nat) (h5 : F.fn 302) (hro : F.round = none) (a : Option Addr) (len cap : Nat) (w : World) :
    CallsIn F n Tryz.prog 302 #[.slice a len cap] w fun e w' => e = .returned (.func (.func 345) #[] #[.pointer (some ⟨w.heap.size, 0, none⟩)]) ∧ w' = w.alloc (.cells #[.slice a len cap] 59) := by
  refine callsIn_of_wp Tryz.func302 rfl h5 ?_ hro
  simp only [Tryz.ntmps302, List.size_toArray, List.length_cons, List.length_nil, Nat.reduceAdd, Nat.reduceSub, Array.replicate_succ, Array.replicate_zero, List.push_toArray, List.append_toArray, List.nil_append, List.cons_append]
  gi_wp2
  go_ret
  exact ⟨rfl, rfl⟩
/-- The slice holds the operations g 0, g 1, ..; or it is nil and there are none. -/
def Ops (n₀ : Nat) (W : World) (sv : Value) (len : Nat) (g : Nat → Oc) : Prop :=
  (sv = .slice none 0 0 ∧ len = 0) ∨ ∃ b off cap, sv = .slice (some ⟨b, off, none⟩) len cap ∧ b < n₀ ∧ ∀ j, j < len → Lies W b (off + j * 11) (g j)
theorem Ops.below {n₀ : Nat} {A B : World} (h : Below n₀ A B) {sv : Value} {len : Nat} {g : Nat → Oc} : Ops n₀ A sv len g → Ops n₀ B sv len g
  | .inl e => .inl e
  | .inr ⟨b, off, cap, e, hb, hc⟩ => .inr ⟨b, off, cap, e, hb, fun j hj => (hc j hj).below h hb⟩
def encs (x : Nat × Oc) : Array Value := #[.int .i64 (x.1 : Int), x.2.val]
theorem back_stops (F : Fence) (n : Nat) (h7 : F.fn 345) (hro : F.round = none) (hn : 1 ≤ n) (Bs n₀ : Nat) (sv : Value) (len : Nat) (g : Nat → Oc) (hreach : len ≤ 100000) (w : World) (hBs : Bs < w.heap.size) (hn₀ : n₀ ≤ Bs)
    (hc : w.cell? ⟨Bs, 0, none⟩ = some sv) (hI : Ops n₀ w sv len g) :
    SeqStopsK F n Tryz.prog 345 #[.pointer (some ⟨Bs, 0, none⟩)] encs (Below (Bs + 1)) (fun ys => ys = upto (fun j => (len - 1 - j, g (len - 1 - j))) len)
      (fun pre => ∃ k, k ≤ len ∧ pre = upto (fun j => (len - 1 - j, g (len - 1 - j))) k) len w := fun l J Jx W hW _ _ hY h0 => by
  have hc' := (hW.cell (p := ⟨Bs, 0, none⟩) hBs).trans hc
  rcases hI.below (hW.mono (by omega)) with ⟨rfl, rfl⟩ | ⟨b, off, cap, rfl, hb, hcs⟩
  · exact (back1_nil_in F n h7 hro l Bs J W hc' h0).mono fun e W' ⟨he, hj⟩ => ⟨he, .inl ⟨_, rfl, hj⟩⟩
  · exact back1_in F n h7 hro hn l Bs (Bs + 1) b off len cap g hreach (by omega) J Jx hY W hc' (by omega) hcs h0
end Go.Proofs.Inc
namespace Go.Proofs.Inc
open Go Go.RowKit Go.Shelf Go.Proofs
attribute [local go_sem] Oper.semAt_some
set_option maxRecDepth 100000 in
set_option maxHeartbeats 4000000 in
theorem inc_in (F : Fence) (n : Nat) (h4 : F.fn 224) (h6 : F.fn 302) (h8 : F.fn 345) (hro : F.round = none) (hn : 3 ≤ n) (B o : Nat) (dev ep : Int) (a : Option Addr) (len cap : Nat) (g : Nat → Oc) (hreach : len ≤ 100000) (w : World) (hB : B < w.heap.size)
    (hk : w.cell? ⟨B, o + 22, none⟩ = some (.slice a len cap)) (hI : Ops w.heap.size w (.slice a len cap) len g) :
    CallsIn F n Tryz.prog 224 #[.pointer (some ⟨B, o, none⟩), .int .i64 dev, .int .i64 ep] w fun e W' =>
      ((e = .returned (.int .i64 0) ∧ ∀ j, j < len → ¬ ((g j).d = dev ∧ (g j).e = ep)) ∨ (∃ k : Nat, k < len ∧ e = .returned (.int .i64 (g k).q) ∧ ((g k).d = dev ∧ (g k).e = ep) ∧ ∀ j, k < j → j < len → ¬ ((g j).d = dev ∧ (g j).e = ep))) ∧ Below w.heap.size w W' := by
  have h1 : 1 ≤ n := by omega
  refine callsIn_of_wp_marks Tryz.func224 rfl h4 ?_ hro
  simp only [Tryz.ntmps224, List.size_toArray, List.length_cons, List.length_nil, Nat.reduceAdd, Nat.reduceSub, Array.replicate_succ, Array.replicate_zero, List.push_toArray, List.append_toArray, List.nil_append, List.cons_append]
  have hB3 : Below w.heap.size w (((w.alloc (.cells #[.int .i64 dev] 3)).alloc (.cells #[.int .i64 ep] 3)).alloc (.cells #[.int .i64 0] 3)) := (((Below.refl _ w).alloc (Nat.le_refl _) _).alloc (by simp) _).alloc (by simp; omega) _
  have hk3 := (hB3.cell (p := ⟨B, o + 22, none⟩) hB).trans hk
  gi_wp2_with (gi_at_call 302; refine (back_in F (n - 1) h6 hro _ _ _ _).mono ?_; rintro e w' ⟨rfl, rfl⟩)
  have b1 := Boxed.new w 3 (.int .i64 dev)
  have b2 := Boxed.new (w.alloc (.cells #[.int .i64 dev] 3)) 3 (.int .i64 ep)
  have b3 := Boxed.new ((w.alloc (.cells #[.int .i64 dev] 3)).alloc (.cells #[.int .i64 ep] 3)) 3 (.int .i64 0)
  have b4 := Boxed.new (((w.alloc (.cells #[.int .i64 dev] 3)).alloc (.cells #[.int .i64 ep] 3)).alloc (.cells #[.int .i64 0] 3)) 59 (.slice a len cap)
  simp only [World.size_alloc] at b1 b2 b3 b4
  have hB4 : Below w.heap.size w ((((w.alloc (.cells #[.int .i64 dev] 3)).alloc (.cells #[.int .i64 ep] 3)).alloc (.cells #[.int .i64 0] 3)).alloc (.cells #[.slice a len cap] 59)) := hB3.alloc (by simp; omega) _
  refine wpIn_rangeFunc_ownH hro h1 (gf := 345) (lb := #[.pointer (some ⟨w.heap.size + 3, 0, none⟩)]) rfl h8 (enters_of Tryz.func345 (by kernel_rfl) rfl)
    (back_stops F (n - 1) h8 hro (by omega) (w.heap.size + 3) w.heap.size _ len g hreach _ (by simp) (by omega) b4.cell (hI.below hB4)) belowK_t (belowK_b (by simp)) (Below.refl _ _) (fun _ => rfl)
    (fun pre W => (Boxed W w.heap.size 3 (.int .i64 dev) ∧ Boxed W (w.heap.size + 1) 3 (.int .i64 ep) ∧ Boxed W (w.heap.size + 2) 3 (.int .i64 0) ∧ Boxed W (w.heap.size + 3) 59 (.slice a len cap) ∧ ∀ x, x ∈ pre → ¬ (x.2.d = dev ∧ x.2.e = ep)) ∧ Below w.heap.size w W)
    (fun c pre W => (c = .ret ∧ ∃ ini last, pre = ini ++ [last] ∧ (∀ x, x ∈ ini → ¬ (x.2.d = dev ∧ x.2.e = ep)) ∧ (last.2.d = dev ∧ last.2.e = ep) ∧ W.cell? ⟨w.heap.size + 2, 0, none⟩ = some (.int .i64 last.2.q)) ∧ Below w.heap.size w W)
    (OwnFrom.and (Own.from (fun s A C row hs hg hr => ⟨boxed_own _ _ (fun _ => .int .i64 dev) s A C row hs.1 hg hr, boxed_own _ _ (fun _ => .int .i64 ep) s A C row hs.2.1 hg hr, boxed_own _ _ (fun _ => .int .i64 0) s A C row hs.2.2.1 hg hr, boxed_own _ _ (fun _ => .slice a len cap) s A C row hs.2.2.2.1 hg hr, hs.2.2.2.2⟩) _) (ownFrom_below (Nat.le_refl _) (by simp; omega)))
    (fun c => OwnFrom.and (Own.from (fun s A C row hs hg hr => by obtain ⟨hc, ini, last, e1, e2, e3, e4⟩ := hs; exact ⟨hc, ini, last, e1, e2, e3, cell_kept e4 hg hr⟩) _) (ownFrom_below (Nat.le_refl _) (by simp; omega)))
    ⟨⟨((b1.alloc _).alloc _).alloc _, (b2.alloc _).alloc _, b3.alloc _, b4, by simp⟩, hB4⟩
    (fun x a' W => ∃ Bx, w.heap.size + 3 < Bx ∧ W.heap[Bx]? = some (.cells #[.int .i64 x.2.d, .int .i64 x.2.e, .int .i64 x.2.q, .int .i64 x.2.c, .int .i64 x.2.v, .int .i64 x.2.k, .string x.2.ky, .string x.2.tx, .int .i64 x.2.n, .int .i64 x.2.t, .slice x.2.sa x.2.sl x.2.sc] 39 (0, 0)) ∧
      a' = { tmps := #[.pointer (some ⟨B, o, none⟩), .int .i64 dev, .int .i64 ep, undef, .pointer (some ⟨w.heap.size, 0, none⟩), .pointer (some ⟨w.heap.size + 1, 0, none⟩), .pointer (some ⟨w.heap.size + 1 + 1, 0, none⟩), undef, .pointer (some ⟨Bx, 0, none⟩), .pointer (some ⟨B, o, none⟩), .pointer (some ⟨B, o, none⟩), .pointer (some ⟨B, o, none⟩), .pointer (some ⟨B, o + 22, none⟩), .slice a len cap, .func (.func 345) #[] #[.pointer (some ⟨w.heap.size + 3, 0, none⟩)], .int .i64 x.1, x.2.val, undef, undef, undef, undef, undef, undef, undef, undef, undef, undef, undef, undef, undef, undef, undef], defers := [] })
    (fun x a' => ?hax) ?assign ?body ?done ?stop
  case hax =>
    intro s X Y row hs hg hr
    obtain ⟨Bx, h1, h2, h3⟩ := hs
    refine ⟨Bx, h1, ?_, h3⟩
    refine (hg.block Bx (Array.getElem?_eq_some_iff.1 h2).1 (fun e => ?_)).trans h2
    obtain ⟨_, ob, ho, hc⟩ := hr Bx e.symm
    rw [h2] at ho; cases ho; cases hc
  case assign =>
    rintro l pre x W K ⟨⟨p1, p2, p3, p5, p4⟩, hBW⟩ hK
    unfold encs Oc.val
    have hsz := hBW.size
    gi_wp2
    refine hK _ _ ((KeepsOthers.alloc _ _).from _) ((Below.refl _ W).alloc (by have := p5.lt; omega) _) ⟨⟨p1.alloc _, p2.alloc _, p3.alloc _, p5.alloc _, p4⟩, hBW.alloc hsz _⟩ ⟨W.heap.size, by have := p5.lt; omega, World.alloc_heap_new W _, rfl⟩
  case body =>
    rintro l pre x a' W hl ⟨r, hr⟩ ⟨⟨p1, p2, p3, p5, p4⟩, hBW⟩ ⟨Bx, hBx, hx, rfl⟩ hlen
    have hsz := hBW.size
    have d1 := p1.cell
    have d2 := p2.cell
    have d3 : W.frozen? ⟨w.heap.size + 1 + 1, 0, none⟩ = false := p3.frozen
    have d4 : W.cell? ⟨w.heap.size + 1 + 1, 0, none⟩ = some (.int .i64 0) := p3.cell
    have x0 : W.cell? ⟨Bx, 0, none⟩ = some (.int .i64 x.2.d) := by simp [World.cell?, hx]
    have x1 : W.cell? ⟨Bx, 1, none⟩ = some (.int .i64 x.2.e) := by simp [World.cell?, hx]
    have x2 : W.cell? ⟨Bx, 2, none⟩ = some (.int .i64 x.2.q) := by simp [World.cell?, hx]
    have go : ¬ (x.2.d = dev ∧ x.2.e = ep) → ∀ y, y ∈ pre ++ [x] → ¬ (y.2.d = dev ∧ y.2.e = ep) := fun h y hy => by
      rcases List.mem_append.1 hy with hy | hy
      · exact p4 y hy
      · simp at hy; subst hy; exact h
    by_cases e1 : x.2.d = dev
    · by_cases e2 : x.2.e = ep
      · gi_wp2
        exact ⟨(KeepsOthers.setCell _ _ _).from _, ⟨rfl, pre, x, rfl, p4, ⟨e1, e2⟩, World.cell?_setCell_same' _ _ _ (by rw [d4]; rfl)⟩, hBW.setCell (p := ⟨w.heap.size + 1 + 1, 0, none⟩) (by simp; omega) _⟩
      · gi_wp2
        exact ⟨KeepsFrom.refl _ _, Below.refl _ _, ⟨p1, p2, p3, p5, go (fun h => e2 h.2)⟩, hBW⟩
    · gi_wp2
      exact ⟨KeepsFrom.refl _ _, Below.refl _ _, ⟨p1, p2, p3, p5, go (fun h => e1 h.1)⟩, hBW⟩
  case done =>
    rintro D ys W hD rfl ⟨⟨p1, p2, p3, p5, p4⟩, hBW⟩ hK
    have hsz := hBW.size
    have d3 : W.frozen? ⟨w.heap.size + 1 + 1, 0, none⟩ = false := p3.frozen
    have d4 : W.cell? ⟨w.heap.size + 1 + 1, 0, none⟩ = some (.int .i64 0) := p3.cell
    gi_wp2
    have hK' := (KeepsOthers.setCell W ⟨w.heap.size + 1 + 1, 0, none⟩ (.int .i64 0)).same D _ hK rfl
    refine ⟨by simp, .inl ⟨_, _, rfl, run_takeDeferred hK', ?_⟩⟩
    have hc5 := cell_kept (World.cell?_setCell_same' W ⟨w.heap.size + 1 + 1, 0, none⟩ (.int .i64 0) (by rw [d4]; rfl)) (grownBy_putObj' _ D (.deferred none)) (fun r e => by cases e; exact ⟨_, hK', rfl⟩)
    refine ⟨.int .i64 0, ?_, .inl ⟨rfl, fun j hj => ?_⟩, (hBW.setCell (p := ⟨w.heap.size + 1 + 1, 0, none⟩) (by simp; omega) _).trans (belowK_b (w := w) (Nat.le_refl _) _ D _ _ (by simp at hD; omega) hK' rfl rfl)⟩
    · simp [results, Tryz.f224, go_sem, hc5]
    · have := p4 (len - 1 - (len - 1 - j), g (len - 1 - (len - 1 - j))) (by simp only [upto, List.mem_map, List.mem_range]; exact ⟨len - 1 - j, by omega, rfl⟩)
      have e : len - 1 - (len - 1 - j) = j := by omega
      rw [e] at this
      exact this
  case stop =>
    rintro D c pre W hD ⟨k, hk', rfl⟩ ⟨⟨rfl, ini, last, e1, e2, e3, hcr⟩, hBW⟩ hK
    gi_wp2
    refine ⟨by simp, .inl ⟨_, _, rfl, run_takeDeferred hK, ?_⟩⟩
    have hcr : W.cell? ⟨w.heap.size + 1 + 1, 0, none⟩ = some (.int .i64 last.2.q) := hcr
    have hc5 := cell_kept hcr (grownBy_putObj' _ D (.deferred none)) (fun r e => by cases e; exact ⟨_, hK, rfl⟩)
    obtain ⟨k', rfl⟩ : ∃ k', k = k' + 1 := by
      cases k with
      | zero => simp [upto] at e1
      | succ k' => exact ⟨k', rfl⟩
    rw [upto_succ] at e1
    obtain ⟨rfl, e5⟩ := List.append_inj' e1 rfl
    obtain rfl : (len - 1 - k', g (len - 1 - k')) = last := by simpa using e5
    refine ⟨.int .i64 (g (len - 1 - k')).q, ?_, .inr ⟨len - 1 - k', by omega, rfl, e3, fun j hj hj2 => ?_⟩, hBW.trans (belowK_b (w := w) (Nat.le_refl _) W D _ _ (by simp at hD; omega) hK rfl rfl)⟩
    · simp [results, Tryz.f224, go_sem, hc5]
    · have := e2 (len - 1 - (len - 1 - j), g (len - 1 - (len - 1 - j))) (by simp only [upto, List.mem_map, List.mem_range]; exact ⟨len - 1 - j, by omega, rfl⟩)
      have e : len - 1 - (len - 1 - j) = j := by omega
      rw [e] at this
      exact this
end Go.Proofs.Inc
namespace Go.Ev
open Go.Proofs.Inc (Oc Lies Ops)
def isI : AV → Bool
  | .int .i64 _ => true
  | .lan .i64 _ => true
  | _ => false
def isS : AV → Bool
  | .str _ => true
  | .sls _ => true
  | _ => false
def isSl : AV → Bool
  | .nils => true
  | .slc .. => true
  | .slz .. => true
  | _ => false
/-- The last one of a device's epoch. -/
def incA (dev ep : Int) : List AV → Int → Option Int
  | [], a => some a
  | .int .i64 d :: .int .i64 e :: .int .i64 q :: a3 :: a4 :: a5 :: a6 :: a7 :: a8 :: a9 :: a10 :: l, a =>
    cond (isI a3 && isI a4 && isI a5 && isS a6 && isS a7 && isI a8 && isI a9 && isSl a10) (incA dev ep l (if d = dev ∧ e = ep then q else a)) none
  | _, _ => none
noncomputable def incC : CallF := fun _ args s => match args with
  | [.ptr b o, .int .i64 dev, .int .i64 ep] => s.loadN b (o + 22) 1 fun l s => (match l with
    | [.nils] => .ok (.int .i64 0) s
    | [.slc b off len _ _] => cond (Nat.ble len 100000) (s.loadN b off (len * 11) fun cs s => ret ((incA dev ep cs 0).map (.int .i64)) s "included") (.no "included: long")
    | _ => .no "included: log")
  | _ => .no "included"
noncomputable def incL : LawF := ⟨224, ⟨fun _ args s κ => Rs.rec (motive := fun _ => Bool) (fun _ => false) (fun v s => κ v s) (incC 224 args s)⟩, incC⟩
section
variable {ρ : Env}
theorem isI_ok {a : AV} {v : Value} (h : isI a = true) (hv : VR ρ a v) : ∃ n, v = .int .i64 n := by
  unfold isI at h
  split at h
  · exact ⟨_, hv⟩
  · obtain ⟨_, _, n, _, _, e⟩ := hv; exact ⟨n, e⟩
  · cases h
theorem isS_ok {a : AV} {v : Value} (h : isS a = true) (hv : VR ρ a v) : ∃ n, v = .string n := by
  unfold isS at h
  split at h
  · exact ⟨_, hv⟩
  · obtain ⟨bs, _, e⟩ := hv; exact ⟨_, e⟩
  · cases h
theorem isSl_ok {a : AV} {v : Value} (h : isSl a = true) (hv : VR ρ a v) : ∃ x y z, v = .slice x y z := by
  unfold isSl at h
  split at h
  · exact ⟨_, _, _, hv⟩
  · obtain ⟨_, _, _, e, _⟩ := hv; exact ⟨_, _, _, e⟩
  · obtain ⟨_, _, _, e⟩ := hv; exact ⟨_, _, _, e⟩
  · cases h
def Oc.cells (x : Oc) : List Value := [.int .i64 x.d, .int .i64 x.e, .int .i64 x.q, .int .i64 x.c, .int .i64 x.v, .int .i64 x.k, .string x.ky, .string x.tx, .int .i64 x.n, .int .i64 x.t, .slice x.sa x.sl x.sc]
theorem incA_ok (dev ep : Int) : ∀ (len : Nat) (cs : List AV) (vs : List Value) (acc n : Int), incA dev ep cs acc = some n → VRs ρ cs vs → cs.length = len * 11 →
    ∃ g : Nat → Oc, (∀ j, j < len → ∀ i v, (Oc.cells (g j))[i]? = some v → vs[j * 11 + i]? = some v) ∧
      ((n = acc ∧ ∀ j, j < len → ¬ ((g j).d = dev ∧ (g j).e = ep)) ∨ ∃ k, k < len ∧ n = (g k).q ∧ ((g k).d = dev ∧ (g k).e = ep) ∧ ∀ j, k < j → j < len → ¬ ((g j).d = dev ∧ (g j).e = ep))
  | 0, cs, vs, acc, n, h, hv, hl => by
    obtain rfl : cs = [] := List.length_eq_zero_iff.mp (by omega)
    cases h
    exact ⟨fun _ => ⟨0, 0, 0, 0, 0, 0, ⟨#[]⟩, ⟨#[]⟩, 0, 0, none, 0, 0⟩, fun j hj => by omega, .inl ⟨rfl, fun j hj => by omega⟩⟩
  | len + 1, cs, vs, acc, n, h, hv, hl => by
    unfold incA at h
    split at h
    · simp at hl
    · rename_i d e q a3 a4 a5 a6 a7 a8 a9 a10 l
      cases hc : (isI a3 && isI a4 && isI a5 && isS a6 && isS a7 && isI a8 && isI a9 && isSl a10) with
      | false => rw [hc] at h; cases h
      | true =>
        rw [hc] at h
        simp only [Bool.and_eq_true] at hc
        obtain ⟨⟨⟨⟨⟨⟨⟨k3, k4⟩, k5⟩, k6⟩, k7⟩, k8⟩, k9⟩, k10⟩ := hc
        obtain ⟨_, _, h0, ⟨_, _, h1, ⟨_, _, h2, ⟨_, _, h3, ⟨_, _, h4, ⟨_, _, h5, ⟨_, _, h6, ⟨_, _, h7, ⟨_, _, h8, ⟨_, _, h9, ⟨_, us, h10, hus, rfl⟩, rfl⟩, rfl⟩, rfl⟩, rfl⟩, rfl⟩, rfl⟩, rfl⟩, rfl⟩, rfl⟩, rfl⟩ := hv
        cases h0; cases h1; cases h2
        obtain ⟨n3, rfl⟩ := isI_ok k3 h3
        obtain ⟨n4, rfl⟩ := isI_ok k4 h4
        obtain ⟨n5, rfl⟩ := isI_ok k5 h5
        obtain ⟨n6, rfl⟩ := isS_ok k6 h6
        obtain ⟨n7, rfl⟩ := isS_ok k7 h7
        obtain ⟨n8, rfl⟩ := isI_ok k8 h8
        obtain ⟨n9, rfl⟩ := isI_ok k9 h9
        obtain ⟨x, y, z, rfl⟩ := isSl_ok k10 h10
        have hl' : l.length = len * 11 := by simp at hl; omega
        obtain ⟨g, hg, hr⟩ := incA_ok dev ep len l us _ n h hus hl'
        refine ⟨fun j => match j with | 0 => ⟨d, e, q, n3, n4, n5, n6, n7, n8, n9, x, y, z⟩ | j + 1 => g j, ?_, ?_⟩
        · intro j hj i v hi
          cases j with
          | zero =>
            have e0 : 0 * 11 + i = i := by omega
            rw [e0]
            have hi : ([.int .i64 d, .int .i64 e, .int .i64 q, .int .i64 n3, .int .i64 n4, .int .i64 n5, .string n6, .string n7, .int .i64 n8, .int .i64 n9, .slice x y z] : List Value)[i]? = some v := hi
            exact (List.getElem?_append_left (l₁ := ([.int .i64 d, .int .i64 e, .int .i64 q, .int .i64 n3, .int .i64 n4, .int .i64 n5, .string n6, .string n7, .int .i64 n8, .int .i64 n9, .slice x y z] : List Value)) (l₂ := us) (List.getElem?_eq_some_iff.mp hi).1).trans hi
          | succ j =>
            have := hg j (by omega) i v hi
            have e : (j + 1) * 11 + i = (j * 11 + i) + 11 := by omega
            rw [e]
            exact this
        · rcases hr with ⟨rfl, hr⟩ | ⟨k, hk, rfl, hm, hr⟩
          · by_cases hm : d = dev ∧ e = ep
            · refine .inr ⟨0, by omega, by rw [if_pos hm], hm, ?_⟩
              intro j h1 h2
              cases j with
              | zero => omega
              | succ j => exact hr j (by omega)
            · refine .inl ⟨by rw [if_neg hm], ?_⟩
              intro j h1
              cases j with
              | zero => exact hm
              | succ j => exact hr j (by omega)
          · refine .inr ⟨k + 1, by omega, rfl, hm, ?_⟩
            intro j h1 h2
            cases j with
            | zero => omega
            | succ j => exact hr j (by omega) (by omega)
    · cases h
end
theorem lies_of {w : World} {B off : Nat} {vs : List Value} {x : Oc} {j : Nat} (hcell : ∀ j v, vs[j]? = some v → w.cell? ⟨B, off + j, none⟩ = some v) (h : ∀ i v, (Oc.cells x)[i]? = some v → vs[j * 11 + i]? = some v) : Lies w B (off + j * 11) x := by
  have key : ∀ i v, (Oc.cells x)[i]? = some v → w.cell? ⟨B, off + j * 11 + i, none⟩ = some v := fun i v hi => by
    have := hcell _ _ (h i v hi)
    rw [Nat.add_assoc]; exact this
  exact ⟨key 0 _ rfl, key 1 _ rfl, key 2 _ rfl, key 3 _ rfl, key 4 _ rfl, key 5 _ rfl, key 6 _ rfl, key 7 _ rfl, key 8 _ rfl, key 9 _ rfl, key 10 _ rfl⟩
open Go.RowKit (Below)
theorem inc_calls (w : World) (B o : Nat) (dev ep : Int) (a : Option Addr) (len cap : Nat) (g : Nat → Oc) (hreach : len ≤ 100000) (hB : B < w.heap.size) (hk : w.cell? ⟨B, o + 22, none⟩ = some (.slice a len cap)) (hI : Ops w.heap.size w (.slice a len cap) len g) (n : Int)
    (hn : (n = 0 ∧ ∀ j, j < len → ¬ ((g j).d = dev ∧ (g j).e = ep)) ∨ ∃ k, k < len ∧ n = (g k).q ∧ ((g k).d = dev ∧ (g k).e = ep) ∧ ∀ j, k < j → j < len → ¬ ((g j).d = dev ∧ (g j).e = ep)) :
    Calls Go.Proofs.Tryz.prog 224 #[.pointer (some ⟨B, o, none⟩), .int .i64 dev, .int .i64 ep] w fun e w' => e = .returned (.int .i64 n) ∧ Below w.heap.size w w' := by
  have h := callsIn_wide.1 (Go.Proofs.Inc.inc_in Fence.wide 3 trivial trivial trivial rfl (by omega) B o dev ep a len cap g hreach w hB hk hI)
  refine Calls.mono h ?_
  rintro e w' ⟨he, hb⟩
  refine ⟨?_, hb⟩
  rcases he with ⟨rfl, h1⟩ | ⟨k, h1, rfl, h2, h3⟩
  · rcases hn with ⟨rfl, _⟩ | ⟨k, h4, _, h5, _⟩
    · rfl
    · exact absurd h5 (h1 k h4)
  · rcases hn with ⟨_, h4⟩ | ⟨k', h4, rfl, h5, h6⟩
    · exact absurd h2 (h4 k h1)
    · have : k = k' := by
        rcases Nat.lt_trichotomy k k' with h | h | h
        · exact absurd h5 (h3 k' h h4)
        · exact h
        · exact absurd h2 (h6 k h h1)
      rw [this]
theorem incL_ok (hf : ∃ fn c, Go.Proofs.Tryz.prog.funcs[224]? = some fn ∧ fn.body = some c ∧ (fn.name == "runtime.NumGoroutine") = false) : LawOk Go.Proofs.Tryz.prog incL := by
  refine ⟨?_, ?_, ?_, ?_⟩
  · intro c args s κ h
    have h : Rs.rec (motive := fun _ => Bool) (fun _ => false) (fun v s => κ v s) (incC 224 args s) = true := h
    cases hc : incC 224 args s with
    | no y => rw [hc] at h; cases h
    | ok v s' => rw [hc] at h; exact ⟨v, s', hc, h⟩
  · intro f' av
    split
    · show Framed (incC f' av)
      unfold incC
      split
      · refine .loadN _ _ _ fun l => ?_
        split
        · exact .ok _
        · exact .cond _ (.loadN _ _ _ fun cs => .ret _ _) (.no _)
        · exact .no _
      · exact .no _
    · exact .no _
  · intro f' av s v s' h
    split at h
    · rename_i e; rw [e]; exact hf
    · cases h
  · intro f' av s v s' h B0 w0 ρ w vs hv hr hn
    split at h
    · rename_i e
      rw [e]
      change incC f' av s = .ok v s' at h
      unfold incC at h
      split at h
      · rename_i b o dev ep
        obtain ⟨_, _, ⟨B, κ, hρ, rfl⟩, ⟨_, _, e1, ⟨_, _, e2, e3, rfl⟩, rfl⟩, rfl⟩ := hv
        cases e1; cases e2; cases e3
        obtain ⟨c, op, l, hb, hl, hk⟩ := loadN_inv h
        obtain ⟨us, hus, _, _, hcell⟩ := load_cells (P := Go.Proofs.Tryz.prog) (hr.row hb hρ) hl
        have hlt : B < w.heap.size := by
          obtain ⟨q, hq1, hq2⟩ := hb
          obtain ⟨B', κ', q1, _, q3, _⟩ := hr.obj _ _ hq1 (AO.cells_alive hq2)
          rw [hρ] at q1; cases q1; exact q3
        split at hk
        · cases hk
          obtain ⟨u, _, hu, hus2, rfl⟩ := hus
          cases hu
          have hc := hcell 0 _ rfl
          refine Calls.mono (inc_calls w B o dev ep none 0 0 (fun _ => ⟨0, 0, 0, 0, 0, 0, ⟨#[]⟩, ⟨#[]⟩, 0, 0, none, 0, 0⟩) (by omega) hlt hc (.inl ⟨rfl, rfl⟩) 0 (.inl ⟨rfl, fun j hj => by omega⟩)) ?_
          rintro e w' ⟨rfl, hbel⟩
          exact ⟨_, rfl, ρ, Ext.refl _ _ _, rfl, hr.below hbel⟩
        · rename_i b2 off len opn c2
          obtain ⟨u, _, hu, hus2, rfl⟩ := hus
          obtain ⟨B2, κ2, hρ2, rfl, _⟩ := hu
          have hc := hcell 0 _ rfl
          cases hlen : Nat.ble len 100000 with
          | false => rw [hlen] at hk; cases hk
          | true =>
            rw [hlen] at hk
            have hlen := Nat.le_of_ble_eq_true hlen
            obtain ⟨c', op', cs, hb2, hl2, hk2⟩ := loadN_inv hk
            obtain ⟨ws, hws, hwl, _, hcell2⟩ := load_cells (P := Go.Proofs.Tryz.prog) (hr.row hb2 hρ2) hl2
            have hlt2 : B2 < w.heap.size := by
              obtain ⟨q, hq1, hq2⟩ := hb2
              obtain ⟨B', κ', q1, _, q3, _⟩ := hr.obj _ _ hq1 (AO.cells_alive hq2)
              rw [hρ2] at q1; cases q1; exact q3
            cases hi : incA dev ep cs 0 with
            | none => rw [hi] at hk2; cases hk2
            | some n =>
              rw [hi] at hk2
              cases hk2
              obtain ⟨g, hg, hn2⟩ := incA_ok dev ep len cs ws 0 n hi hws (by rw [← VRs.len hws, hwl])
              refine Calls.mono (inc_calls w B o dev ep _ len _ g hlen hlt hc (.inr ⟨B2, off, _, rfl, hlt2, fun j hj => lies_of hcell2 (hg j hj)⟩) n hn2) ?_
              rintro e w' ⟨rfl, hbel⟩
              exact ⟨_, rfl, ρ, Ext.refl _ _ _, rfl, hr.below hbel⟩
        · cases hk
      · cases h
    · cases h
end Go.Ev
open Go
open Go.RowKit
namespace Go.Proofs
def crcBit (c : Nat) : Nat := Nat.xor (c / 2) (3988292384 * (c % 2))
def crcBits : Nat → Nat → Nat
  | 0, c => c
  | n + 1, c => crcBits n (crcBit c)
def crcRow : List Nat → Nat → Nat
  | [], c => c
  | x :: l, c => crcRow l (crcBits 8 (Nat.xor c x))
theorem bits_xor {m x : Nat} (h : m < 4294967296) (h2 : x < 4294967296) : bits .xor .u32 (m : Int) (x : Int) = ((Nat.xor m x : Nat) : Int) := by
  have h1 : (BitVec.ofInt 32 (m : Int)).toNat = m := by rw [BitVec.ofInt_natCast, BitVec.toNat_ofNat]; exact Nat.mod_eq_of_lt (by omega)
  have h3 : (BitVec.ofInt 32 (x : Int)).toNat = x := by rw [BitVec.ofInt_natCast, BitVec.toNat_ofNat]; exact Nat.mod_eq_of_lt (by omega)
  have h4 : Nat.xor m x < 2 ^ 32 := Nat.xor_lt_two_pow (by omega) (by omega)
  have h5 : (BitVec.ofInt 32 (m : Int) ^^^ BitVec.ofInt 32 (x : Int)).toNat = Nat.xor m x := by rw [BitVec.toNat_xor, h1, h3]; rfl
  show IntKind.u32.wrap (((BitVec.ofInt 32 (m : Int) ^^^ BitVec.ofInt 32 (x : Int)).toNat : Nat) : Int) = _
  rw [h5]
  generalize Nat.xor m x = z at h4
  simp only [IntKind.wrap, IntKind.bits, IntKind.signed]
  simp
  omega
theorem crc_end {c : Nat} (h : c < 4294967296) : bits BinOp.xor IntKind.u32 IntKind.u32.max (c : Int) = ((Nat.xor c 4294967295 : Nat) : Int) := by
  have h1 : IntKind.u32.max = ((4294967295 : Nat) : Int) := by decide
  rw [h1, bits_xor (by omega) h]
  have : Nat.xor 4294967295 c = Nat.xor c 4294967295 := Nat.xor_comm _ _
  rw [this]
theorem bits_and1 {m : Nat} (h : m < 4294967296) : bits .and .u32 (m : Int) 1 = ((m % 2 : Nat) : Int) := by
  have h1 : (BitVec.ofInt 32 (m : Int)).toNat = m := by rw [BitVec.ofInt_natCast, BitVec.toNat_ofNat]; exact Nat.mod_eq_of_lt (by omega)
  have h5 : (BitVec.ofInt 32 (m : Int) &&& BitVec.ofInt 32 (1 : Int)).toNat = m % 2 := by
    rw [BitVec.toNat_and, h1]
    show m &&& 1 = _
    exact Nat.and_one_is_mod m
  show IntKind.u32.wrap (((BitVec.ofInt 32 (m : Int) &&& BitVec.ofInt 32 (1 : Int)).toNat : Nat) : Int) = _
  rw [h5]
  simp only [IntKind.wrap, IntKind.bits, IntKind.signed]
  simp
  omega
theorem crc_step {n : Nat} (h : n < 4294967296) : bits BinOp.xor IntKind.u32 ((n : Int) / 2) (3988292384 * bits BinOp.and IntKind.u32 (n : Int) 1 % 4294967296) = ((crcBit n : Nat) : Int) := by
  rw [bits_and1 h]
  have h2 : (3988292384 * ((n % 2 : Nat) : Int) % 4294967296) = ((3988292384 * (n % 2) : Nat) : Int) := by
    have := Nat.mod_lt n (show 2 > 0 by omega)
    omega
  have h3 : ((n : Int) / 2) = ((n / 2 : Nat) : Int) := by omega
  rw [h2, h3]
  exact bits_xor (by omega) (by have := Nat.mod_lt n (show 2 > 0 by omega); omega)
theorem crcBit_lt {c : Nat} (h : c < 4294967296) : crcBit c < 4294967296 := by
  have h1 : c / 2 < 2 ^ 32 := by omega
  have h2 : 3988292384 * (c % 2) < 2 ^ 32 := by have := Nat.mod_lt c (show 2 > 0 by omega); omega
  exact Nat.xor_lt_two_pow h1 h2
theorem xor_lt {c x : Nat} (h : c < 4294967296) (h2 : x < 4294967296) : Nat.xor c x < 4294967296 := Nat.xor_lt_two_pow (n := 32) h h2
set_option maxHeartbeats 4000000 in
theorem crc_walk (l : List Nat) (hl : ∀ x, x ∈ l → x < 256) (a : Option Addr) (cap : Nat) (W : World) (hc : ∀ (k x : Nat), l[k]? = some x → ∃ b off, a = some ⟨b, off, none⟩ ∧ W.cell? ⟨b, off + k, none⟩ = some (.int .u8 x)) (hlen : l.length ≤ 100000) :
    Calls Tryz.prog 235 #[.slice a l.length cap] W fun e w' => e = .returned (.int .u32 (Nat.xor (crcRow l 4294967295) 4294967295 : Nat)) ∧ w' = W := by
  go_enter Tryz.func235, Tryz.ntmps235
  go_wp2_with fail
  go_loopw [3, 8] (fun c i wr => ∃ k m : Nat, k ≤ l.length ∧ m < 4294967296 ∧ i = .int .i64 k ∧ c = .int .u32 m ∧ crcRow (l.drop k) m = crcRow l 4294967295 ∧ wr = W) (fun _ i _ => l.length - (intOf i).toNat)
  case atStart => exact ⟨0, 4294967295, Nat.zero_le _, by omega, rfl, rfl, rfl, rfl⟩
  case round =>
    obtain ⟨k, m, hk, hm, rfl, rfl, hR, rfl⟩ := hrel
    by_cases hlt : k < l.length
    · have klt : (k : Int) < l.length := by omega
      have k0 : (0 : Int) ≤ (k : Int) := by omega
      obtain ⟨x, hx⟩ : ∃ x, l[k]? = some x := ⟨_, List.getElem?_eq_getElem hlt⟩
      obtain ⟨b, off, rfl, hcell⟩ := hc k x hx
      have hx2 := hl x (List.mem_of_getElem? hx)
      go_wp2_with fail
      rw [bits_xor hm (by omega)]
      have hx3 := xor_lt hm (show x < 4294967296 by omega)
      go_loopw [3, 16] (fun c j wr' => ∃ i n : Nat, i ≤ 8 ∧ n < 4294967296 ∧ j = .int .i64 i ∧ c = .int .u32 n ∧ crcBits (8 - i) n = crcBits 8 (Nat.xor m x) ∧ wr' = wr) (fun _ j _ => 8 - (intOf j).toNat)
      case atStart => exact ⟨0, Nat.xor m x, by omega, hx3, rfl, rfl, rfl, rfl⟩
      case round =>
        obtain ⟨i, n, hi, hn, rfl, rfl, hI, rfl⟩ := hrel
        by_cases hlt2 : i < 8
        · have ilt : (i : Int) < 8 := by omega
          have i0 : (0 : Int) ≤ (i : Int) := by omega
          go_wp2_with fail
          refine ⟨⟨i + 1, crcBit n, by omega, crcBit_lt hn, by simp, by rw [crc_step hn], ?_, trivial⟩, by simp only [intOf]; omega⟩
          have e : 8 - i = (8 - (i + 1)) + 1 := by omega
          rw [e] at hI
          exact hI
        · obtain rfl : i = 8 := by omega
          have hI : n = crcBits 8 (Nat.xor m x) := hI
          go_wp2_with fail
          refine ⟨⟨k + 1, n, by omega, hn, by simp, rfl, ?_, trivial⟩, by simp only [intOf]; omega⟩
          rw [hI, ← hR]
          have e : l.drop k = x :: l.drop (k + 1) := by
            obtain ⟨h1, h2⟩ := List.getElem?_eq_some_iff.mp hx
            rw [List.drop_eq_getElem_cons h1, h2]
          rw [e]
          rfl
    · obtain rfl : k = l.length := by omega
      have k0 : (0 : Int) ≤ (l.length : Int) := by omega
      rw [List.drop_length] at hR
      have hR : m = crcRow l 4294967295 := hR
      go_wp2_with fail
      rw [crc_end (by rw [← hR]; exact hm)]
      go_ret
      exact ⟨rfl, rfl⟩
end Go.Proofs
namespace Go.Ev
open Go.RowKit (Below)
open Go.Proofs (crcBit crcBits crcRow crc_walk Tryz.prog)
def crcFin (c : Nat) : Nat := Nat.xor c 4294967295
def crcByte (c x : Nat) : Nat := crcBits 8 (Nat.xor c x)
def smallI : Int → Bool
  | .ofNat k => Nat.blt k 256
  | _ => false
/-- The sum, told lane by lane. -/
def crcV : List AV → List Nat → Option AV
  | [], st => some (packI .u32 (st.map fun c => (crcFin c : Int)))
  | .int .u8 (.ofNat x) :: l, st => cond (Nat.blt x 256) (crcV l (st.map fun c => crcByte c x)) none
  | .lan .u8 ls :: l, st => cond (ls.all smallI) (crcV l (List.zipWith (fun c n => crcByte c n.toNat) st ls)) none
  | _, _ => none
/-- The sum, as long as all lanes say the same. -/
def crcU : List AV → Nat → Option AV
  | [], c => some (.int .u32 (crcFin c : Int))
  | .int .u8 (.ofNat x) :: l, c => cond (Nat.blt x 256) (crcU l (crcByte c x)) none
  | .lan .u8 ls :: l, c => cond (ls.all smallI) (crcV l (ls.map fun n => crcByte c n.toNat)) none
  | _, _ => none
noncomputable def crcC : CallF := fun _ args s => match args with
  | [.slc b off len _ _] => cond (Nat.ble len 100000) (s.loadN b off len fun cs s => ret (crcU cs 4294967295) s "crc") (.no "crc: long")
  | [.nils] => .ok (.int .u32 0) s
  | _ => .no "crc"
noncomputable def crcL : LawF := ⟨235, ⟨fun _ args s κ => Rs.rec (motive := fun _ => Bool) (fun _ => false) (fun v s => κ v s) (crcC 235 args s)⟩, crcC⟩
section
variable {ρ : Env}
theorem small_ok {n : Int} (h : smallI n = true) : ∃ k : Nat, n = (k : Int) ∧ k < 256 := by
  unfold smallI at h
  split at h
  · rename_i k; exact ⟨k, rfl, by simpa [Nat.blt_eq] using h⟩
  · cases h
def cellsU (ns : List Nat) : List Value := ns.map fun (x : Nat) => .int .u8 (x : Int)
theorem crcV_ok {B κ : Nat} (hρ : ρ lanId = some (B, κ)) : ∀ (cs : List AV) (st : List Nat) (v : AV) (vs : List Value) (c : Nat), crcV cs st = some v → st[B]? = some c → VRs ρ cs vs →
    ∃ ns : List Nat, vs = cellsU ns ∧ (∀ x, x ∈ ns → x < 256) ∧ VR ρ v (.int .u32 (crcFin (crcRow ns c) : Int))
  | [], st, v, vs, c, h, hc, hv => by
    cases h; cases hv
    exact ⟨[], rfl, by simp, packI_ok hρ (by rw [List.getElem?_map, hc]; rfl)⟩
  | x :: cs, st, v, vs, c, h, hc, hv => by
    obtain ⟨u, us, hu, hus, rfl⟩ := hv
    cases x with
    | int k n =>
      cases k <;> first | (cases h; done) | skip
      cases n with
      | negSucc => cases h
      | ofNat x' =>
        have h : cond (Nat.blt x' 256) (crcV cs (st.map fun c => crcByte c x')) none = some v := h
        cases hb : Nat.blt x' 256 with
        | false => rw [hb] at h; cases h
        | true =>
          rw [hb] at h
          have hb : x' < 256 := by simpa [Nat.blt_eq] using hb
          cases hu
          obtain ⟨ns, rfl, h2, h3⟩ := crcV_ok hρ cs _ v us (crcByte c x') h (by rw [List.getElem?_map, hc]; rfl) hus
          exact ⟨x' :: ns, rfl, fun y hy => by rcases List.mem_cons.mp hy with rfl | hy; exact hb; exact h2 y hy, h3⟩
    | lan k ls =>
      cases k <;> first | (cases h; done) | skip
      have h : cond (ls.all smallI) (crcV cs (List.zipWith (fun c n => crcByte c n.toNat) st ls)) none = some v := h
      cases hb : ls.all smallI with
      | false => rw [hb] at h; cases h
      | true =>
        rw [hb] at h
        obtain ⟨B', κ', n, q1, q2, rfl⟩ := hu
        obtain ⟨k, rfl, hk⟩ := small_ok (List.all_eq_true.mp hb n (List.mem_of_getElem? q2))
        rw [hρ] at q1; cases q1
        obtain ⟨ns, rfl, h2, h3⟩ := crcV_ok hρ cs _ v us (crcByte c k) h (by rw [List.getElem?_zipWith, hc, q2]; rfl) hus
        exact ⟨k :: ns, rfl, fun y hy => by rcases List.mem_cons.mp hy with rfl | hy; exact hk; exact h2 y hy, h3⟩
    | _ => cases h
theorem crcU_ok : ∀ (cs : List AV) (c : Nat) (v : AV) (vs : List Value), crcU cs c = some v → VRs ρ cs vs →
    ∃ ns : List Nat, vs = cellsU ns ∧ (∀ x, x ∈ ns → x < 256) ∧ VR ρ v (.int .u32 (crcFin (crcRow ns c) : Int))
  | [], c, v, vs, h, hv => by
    cases h; cases hv
    exact ⟨[], rfl, by simp, rfl⟩
  | x :: cs, c, v, vs, h, hv => by
    obtain ⟨u, us, hu, hus, rfl⟩ := hv
    cases x with
    | int k n =>
      cases k <;> first | (cases h; done) | skip
      cases n with
      | negSucc => cases h
      | ofNat x' =>
        have h : cond (Nat.blt x' 256) (crcU cs (crcByte c x')) none = some v := h
        cases hb : Nat.blt x' 256 with
        | false => rw [hb] at h; cases h
        | true =>
          rw [hb] at h
          have hb : x' < 256 := by simpa [Nat.blt_eq] using hb
          cases hu
          obtain ⟨ns, rfl, h2, h3⟩ := crcU_ok cs (crcByte c x') v us h hus
          exact ⟨x' :: ns, rfl, fun y hy => by rcases List.mem_cons.mp hy with rfl | hy; exact hb; exact h2 y hy, h3⟩
    | lan k ls =>
      cases k <;> first | (cases h; done) | skip
      have h : cond (ls.all smallI) (crcV cs (ls.map fun n => crcByte c n.toNat)) none = some v := h
      cases hb : ls.all smallI with
      | false => rw [hb] at h; cases h
      | true =>
        rw [hb] at h
        obtain ⟨B', κ', n, q1, q2, rfl⟩ := hu
        obtain ⟨k, rfl, hk⟩ := small_ok (List.all_eq_true.mp hb n (List.mem_of_getElem? q2))
        obtain ⟨ns, rfl, h2, h3⟩ := crcV_ok q1 cs _ v us (crcByte c k) h (by rw [List.getElem?_map, q2]; rfl) hus
        exact ⟨k :: ns, rfl, fun y hy => by rcases List.mem_cons.mp hy with rfl | hy; exact hk; exact h2 y hy, h3⟩
    | _ => cases h
end
theorem crcL_ok (hf : ∃ fn c, Tryz.prog.funcs[235]? = some fn ∧ fn.body = some c ∧ (fn.name == "runtime.NumGoroutine") = false) : LawOk Tryz.prog crcL := by
  refine ⟨?_, ?_, ?_, ?_⟩
  · intro c args s κ h
    have h : Rs.rec (motive := fun _ => Bool) (fun _ => false) (fun v s => κ v s) (crcC 235 args s) = true := h
    cases hc : crcC 235 args s with
    | no y => rw [hc] at h; cases h
    | ok v s' => rw [hc] at h; exact ⟨v, s', hc, h⟩
  · intro f' av
    split
    · show Framed (crcC f' av)
      unfold crcC
      split
      · exact .cond _ (.loadN _ _ _ fun l => .ret _ _) (.no _)
      · exact .ok _
      · exact .no _
    · exact .no _
  · intro f' av s v s' h
    split at h
    · rename_i e; rw [e]; exact hf
    · cases h
  · intro f' av s v s' h B0 w0 ρ w vs hv hr hn
    split at h
    · rename_i e
      rw [e]
      change crcC f' av s = .ok v s' at h
      unfold crcC at h
      split at h
      · rename_i b off len opn cp
        obtain ⟨_, _, ⟨B, κ, hρ, rfl, _⟩, e1, rfl⟩ := hv
        cases e1
        cases hlen : Nat.ble len 100000 with
        | false => rw [hlen] at h; cases h
        | true =>
          rw [hlen] at h
          have hlen := Nat.le_of_ble_eq_true hlen
          obtain ⟨c, op, cs, hb, hl, hk⟩ := loadN_inv h
          obtain ⟨us, hus, hul, _, hcell⟩ := load_cells (P := Tryz.prog) (hr.row hb hρ) hl
          cases hc : crcU cs 4294967295 with
          | none => rw [hc] at hk; cases hk
          | some v1 =>
            rw [hc] at hk
            cases hk
            obtain ⟨ns, rfl, h2, h3⟩ := crcU_ok cs _ _ _ hc hus
            have hnl : ns.length = len := by rw [← hul]; simp [cellsU]
            subst hnl
            refine Calls.mono (crc_walk ns h2 (some ⟨B, off, none⟩) _ w (fun k x hx => ⟨B, off, rfl, hcell k _ (by unfold cellsU; rw [List.getElem?_map, hx]; rfl)⟩) hlen) ?_
            rintro e w' ⟨rfl, rfl⟩
            exact ⟨_, rfl, ρ, Ext.refl _ _ _, h3, hr⟩
      · cases h
        obtain ⟨_, _, e1, e2, rfl⟩ := hv
        cases e1; cases e2
        refine Calls.mono (crc_walk [] (by simp) none 0 w (by simp) (by simp)) ?_
        rintro e w' ⟨rfl, rfl⟩
        exact ⟨_, rfl, ρ, Ext.refl _ _ _, rfl, hr⟩
      · cases h
    · cases h
end Go.Ev
