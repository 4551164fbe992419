/- Laws for slices.Insert on rows of the call's own: a copy into such a row, a longer one of make's, one that is cut on. -/
import Derived.Test.YtckonmlcgfbojaaLib
import Derived.Lib.AppendZerosOnto
import Derived.Lib.Overlaps
namespace Go.Proofs.Ytckonmlcgfbojaa
open Go.RowKit

/-- 'copy(d, s)' whose run is known. -/
theorem wpList_run_copy {P : Program} {w : World} {ops : Array Oper} {rest : List Oper} {o : Oper} {a : Act} {Q : Exit → Act → World → Prop} (hgd : o.guard = none) (d s : Operand) (t t' : TypeId)
    (ho : o.op = .call { callee := .builtin .copy, args := #[d, s], argTypes := #[t, t'] }) (v u : Value) (hd : a.eval d = v) (hs : a.eval s = u) {v' : Value} {w' : World}
    (hr : (Builtin.copy_ #[t, t'] o.type #[v, u]).run P w = .ok v' w') (h : wpList P ops Q rest (a.put o.dst v') w') : wpList P ops Q (o :: rest) a w := by
  refine wpList_plain hgd fun K hK => ?_
  unfold Oper.wp
  simp [execOp, ho, resolve, invoke, builtin, hd, hs, hr, Result.andThen]
  exact hK _ _ h
/-- 'append(s, make(..)...)' whose run is known. -/
theorem wpList_run_append {P : Program} {w : World} {ops : Array Oper} {rest : List Oper} {o : Oper} {a : Act} {Q : Exit → Act → World → Prop} (hgd : o.guard = none) (d s : Operand) (t t' : TypeId)
    (ho : o.op = .call { callee := .builtin .append, args := #[d, s], argTypes := #[t, t'] }) (v u : Value) (hd : a.eval d = v) (hs : a.eval s = u) {v' : Value} {w' : World}
    (hr : (Builtin.append_ #[t, t'] o.type #[v, u]).run P w = .ok v' w') (h : wpList P ops Q rest (a.put o.dst v') w') : wpList P ops Q (o :: rest) a w := by
  refine wpList_plain hgd fun K hK => ?_
  unfold Oper.wp
  simp [execOp, ho, resolve, invoke, builtin, hd, hs, hr, Result.andThen]
  exact hK _ _ h

/-- A copy of k elements into a row of the call's own, from the element 'of' on. -/
theorem run_copy_own {P : Program} (w : World) (dT sT ty e : TypeId) (i : TypeInfo) (E : Nat) (hu : P.underlying dT = some (.slice e)) (hi : P.info? e = some i) (hsz : i.size = E)
    (base g n cap : Nat) (xs : List Value) (hown : w.ownsRow base e E (.slice (some ⟨g, 0, none⟩) n cap) n xs)
    (of k dLen dCap sLen sCap : Nat) (ao : Option Addr) (cs : List Value) (hk : Nat.min sLen dLen = k) (hle : of + k ≤ n) (hcs : cs.length = k * E) (hrd : Rd w ao cs) (h1 : ∀ v ∈ cs, v.oneCell' = true) :
    ∃ w', (Builtin.copy_ #[dT, sT] ty #[.slice (some ⟨g, of * E, none⟩) dLen dCap, .slice ao sLen sCap]).run P w = .ok (goInt k) w' ∧
      w'.ownsRow base e E (.slice (some ⟨g, 0, none⟩) n cap) n (xs.take (of * E) ++ cs ++ xs.drop (of * E + k * E)) ∧ w.grownBy w' (some g) := by
  obtain ⟨h0, hv⟩ := hown
  rcases hv with ⟨hv, _⟩ | ⟨g', cap', cur, hv, hbg, hg, hnc, hcm, hcz, htake⟩
  · cases hv
  injection hv with hv _ hv3
  injection hv with hv
  injection hv with hv _ _
  subst hv hv3
  have hle2 : of * E + k * E ≤ n * E := by rw [← Nat.add_mul]; exact Nat.mul_le_mul_right _ hle
  have hle3 : n * E ≤ cap * E := Nat.mul_le_mul_right _ hnc
  have hrun := run_copy_wide (P := P) w dT sT ty e i g (of * E) dLen dCap ao sLen sCap cur e cs hu hi hg (by rw [hk, hsz]; exact hcs)
    (fun j v hj => hrd j v hj) (by rw [hcs, hcz]; omega) h1
  rw [hk] at hrun
  have hlen : (xs.take (of * E) ++ cs ++ xs.drop (of * E + k * E)).length = n * E := by simp only [List.length_append, List.length_take, List.length_drop, hcs, h0]; omega
  refine ⟨_, hrun, ⟨hlen, .inr ⟨g, cap, _, rfl, hbg, setRow_heap w g cur _ e _ hg, hnc, hcm, ?_, ?_⟩⟩, ⟨rfl, rfl, rfl, by simp [World.setRow], fun k hk hne => setRow_other w g k _ (fun h => hne (by rw [h]))⟩⟩
  · rw [List.size_toArray]; simp only [List.length_append, List.length_take, List.length_drop, hcs, Array.length_toList, hcz]; omega
  · have hc2 : cur.toList = xs ++ cur.toList.drop (n * E) := by rw [← htake, List.take_append_drop]
    have := take_splice xs (cur.toList.drop (n * E)) cs (of * E) (k * E) hcs (by omega)
    rw [← hc2, h0] at this
    rw [hcs, ← this]

/-- A row of the call's own, cut on by one element within its capacity. -/
theorem owns_stretch {w : World} {base : Nat} {e : TypeId} {E g n cap : Nat} {xs : List Value} (h : w.ownsRow base e E (.slice (some ⟨g, 0, none⟩) n cap) n xs) (hc : n + 1 ≤ cap) :
    ∃ junk : List Value, junk.length = E ∧ w.ownsRow base e E (.slice (some ⟨g, 0, none⟩) (n + 1) cap) (n + 1) (xs ++ junk) := by
  obtain ⟨h0, hv⟩ := h
  rcases hv with ⟨hv, _⟩ | ⟨g', cap', cur, hv, hbg, hg, hnc, hcm, hcz, htake⟩
  · cases hv
  injection hv with hv _ hv3
  injection hv with hv
  injection hv with hv _ _
  subst hv hv3
  have hle : (n + 1) * E ≤ cap * E := Nat.mul_le_mul_right _ hc
  have e1 : (n + 1) * E = n * E + E := by rw [Nat.add_mul]; omega
  have hl : cur.toList.length = cap * E := by rw [Array.length_toList, hcz]
  have hj : ((cur.toList.drop (n * E)).take E).length = E := by rw [List.length_take, List.length_drop, hl]; omega
  have hx : cur.toList.take ((n + 1) * E) = xs ++ (cur.toList.drop (n * E)).take E := by
    rw [e1, List.take_add, htake]
  refine ⟨(cur.toList.drop (n * E)).take E, hj, ⟨by rw [List.length_append, h0, hj, e1], .inr ⟨g, cap, cur, rfl, hbg, hg, hc, hcm, hcz, hx⟩⟩⟩

/-- 'append(s[:i], make([]T, k)...)' without room: a new row of the call's own. -/
theorem run_append_make {P : Program} (w : World) (t tn ty e : TypeId) (i : TypeInfo) (z : Value) (E bytes : Nat) (ht : P.underlying t = some (.slice e)) (htn : P.underlying tn = some (.int .i64)) (hi : P.info? e = some i) (hz : i.zero = some z) (hsz : i.size = E) (hby : i.bytes = bytes) (hzs : z.cells.size = E) (hE : 0 < E)
    (ad : Addr) (n cap k : Nat) (olds : List Value) (hol : olds.length = n * E) (hrd : ∀ j u, olds[j]? = some u → w.cell? (ad.add j) = some u) (hk : 0 < k) (hroom : cap < n + k) (hn : n + k ≤ 1000000) (hb : bytes ≤ 1000) (_hnc : n ≤ cap) :
    ∃ (C : Nat) (w' : World) (zs : List Value), (Builtin.append_ #[t, tn] ty #[.slice (some ad) n cap, .int .i64 k]).run P w = .ok (.slice (some ⟨w.heap.size, 0, none⟩) (n + k) C) w' ∧ zs.length = k * E ∧
      w'.ownsRow w.heap.size e E (.slice (some ⟨w.heap.size, 0, none⟩) (n + k) C) (n + k) (olds ++ zs) ∧ Below w.heap.size w w' := by
  have hold : (Builtin.firstCells i.size n (.slice (some ad) n cap)).run P w.drew = .ok olds.toArray w.drew := by
    have := run_loadCells_list (P := P) w.drew ad olds (fun j v hj => hrd j v hj)
    rw [hsz]
    simp only [Builtin.firstCells, ← hol, this]
  have hbig : (n + k) * i.bytes ≤ 140737488355328 := by
    rw [hby]
    have : (n + k) * bytes ≤ 1000000 * 1000 := Nat.mul_le_mul hn hb
    omega
  have h48 : k * i.bytes ≤ 281474976710656 := by
    have : k * i.bytes ≤ (n + k) * i.bytes := Nat.mul_le_mul_right _ (by omega)
    omega
  have hr := Lib.run_append_grow_zeros (P := P) w t tn ty e i z .i64 .i64 ht htn hi hz (some ad) n cap olds hold k hk (by omega) hroom (by omega) h48 (growslice_fits hroom hbig)
  have hC := grownCap_ge w (n + k) cap e
  have hC2 := grownCap_le_maxLen w (n + k) cap e (by unfold maxLen; omega)
  generalize grownCap w (n + k) cap e = C at *
  have hzl : (Builtin.zeroCells z.cells k).toList.length = k * E := by simp [Builtin.zeroCells, hzs]
  have hzl2 : (Builtin.zeroCells z.cells (C - (n + k))).toList.length = (C - (n + k)) * E := by simp [Builtin.zeroCells, hzs]
  have hlen : (olds ++ (Builtin.zeroCells z.cells k).toList).length = (n + k) * E := by rw [List.length_append, hol, hzl, Nat.add_mul]
  have hnew : ((w.drew).alloc (.cells (olds.toArray ++ Builtin.zeroCells z.cells k ++ Builtin.zeroCells z.cells (C - (n + k))) e)).heap[w.heap.size]? = some (.cells (olds.toArray ++ Builtin.zeroCells z.cells k ++ Builtin.zeroCells z.cells (C - (n + k))) e (0, 0)) := heap_alloc_new w.drew _
  refine ⟨C, _, (Builtin.zeroCells z.cells k).toList, hr, hzl, ⟨hlen, .inr ⟨w.heap.size, C, _, rfl, Nat.le_refl _, hnew, hC, hC2, ?_, ?_⟩⟩, (Below.refl _ _).drew.alloc (Nat.le_refl _) _⟩
  · have h1 : (olds.toArray ++ Builtin.zeroCells z.cells k ++ Builtin.zeroCells z.cells (C - (n + k))).toList.length = C * E := by
      simp only [Array.toList_append]
      rw [List.length_append, hlen, hzl2, ← Nat.add_mul]
      congr 1
      omega
    simpa using h1
  · simp only [Array.toList_append]
    rw [List.take_append_of_le_length (by rw [hlen]; exact Nat.le_refl _), ← hlen, List.take_length]

end Go.Proofs.Ytckonmlcgfbojaa
