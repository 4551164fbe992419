/- Laws for the walk: a copy into a part of a row of the call's own; cells of such a row written. -/
import Derived.Test.YtckonmlcgfbojaaLib3
namespace Go.Proofs.Ytckonmlcgfbojaa
open Go.RowKit

theorem take_splice {α : Type} (A B cs : List α) (q M : Nat) (hcs : cs.length = M) (hq : q + M ≤ A.length) :
    ((A ++ B).take q ++ cs ++ (A ++ B).drop (q + M)).take A.length = A.take q ++ cs ++ A.drop (q + M) := by
  have e1 : (A ++ B).take q = A.take q := List.take_append_of_le_length (by omega)
  have e2 : (A ++ B).drop (q + M) = A.drop (q + M) ++ B := List.drop_append_of_le_length hq
  rw [e1, e2, ← List.append_assoc]
  have hl : (A.take q ++ cs ++ A.drop (q + M)).length = A.length := by simp [hcs]; omega
  exact List.take_left' hl

theorem run_copy_zero {P : Program} (w : World) (dT sT ty elem : TypeId) (i : TypeInfo) (d a : Option Addr) (dLen dCap sLen sCap : Nat) (hu : P.underlying dT = some (.slice elem)) (hi : P.info? elem = some i) (hn : Nat.min sLen dLen = 0) :
    (Builtin.copy_ #[dT, sT] ty #[.slice d dLen dCap, .slice a sLen sCap]).run P w = .ok (goInt 0) w := by
  have hl : ∀ (x : Addr), (loadCells x 0).run P w = .ok #[] w := fun x => by simpa using run_loadCells_list (P := P) w x [] (by simp)
  cases d <;> cases a <;> simp [Builtin.copy_, run_underlying hu, Builtin.lenOf, Builtin.firstCells, sizeOf, typeInfo, hi, hn, storeCells, hl]

/-- 'copy(dst, src)', dst a part of a row of the call's own from the element o on, src at least as long. -/
theorem wpList_copy_in {P : Program} {w : World} {ops : Array Oper} {rest : List Oper} {o : Oper} {a : Act} {Q : Exit → Act → World → Prop} (hgd : o.guard = none) (d s : Operand) (dT sT : TypeId)
    (ho : o.op = .call { callee := .builtin .copy, args := #[d, s], argTypes := #[dT, sT] }) (base : Nat) (e : TypeId) (i : TypeInfo) (E : Nat) (hu : P.underlying dT = some (.slice e)) (hi : P.info? e = some i) (hsz : i.size = E)
    (g n cap : Nat) (xs : List Value) (hown : w.ownsRow base e E (.slice (some ⟨g, 0, none⟩) n cap) n xs)
    (of m dCap : Nat) (dp : Option Addr) (hd : a.eval d = .slice dp m dCap) (hdp : 0 < m → dp = some ⟨g, of * E, none⟩) (hm : of + m ≤ n)
    (ao : Option Addr) (slen scap : Nat) (cs : List Value) (hs : a.eval s = .slice ao slen scap) (hle : m ≤ slen) (hcs : cs.length = m * E) (hrd : 0 < m → Rd w ao cs) (h1 : ∀ v ∈ cs, v.oneCell' = true)
    (h : ∀ w', w'.ownsRow base e E (.slice (some ⟨g, 0, none⟩) n cap) n (xs.take (of * E) ++ cs ++ xs.drop (of * E + m * E)) → w.grownBy w' (some g) → wpList P ops Q rest (a.put o.dst (goInt m)) w') : wpList P ops Q (o :: rest) a w := by
  refine wpList_plain hgd fun K hK => ?_
  obtain ⟨h0, hv⟩ := hown
  rcases hv with ⟨hv, _⟩ | ⟨g', cap', cur, hv, hbg, hg, hnc, hcm, hcz, htake⟩
  · cases hv
  injection hv with hv _ hv3
  injection hv with hv
  injection hv with hv _ _
  subst hv hv3
  have hmin : Nat.min slen m = m := Nat.min_eq_right hle
  by_cases hz : m = 0
  · subst hz
    have hcn : cs = [] := List.eq_nil_of_length_eq_zero (by simpa using hcs)
    subst hcn
    have hrun := run_copy_zero (P := P) w dT sT o.type e i dp ao 0 dCap slen scap hu hi (Nat.min_zero _)
    unfold Oper.wp
    simp [execOp, ho, resolve, invoke, builtin, hd, hs, hrun, Result.andThen]
    refine hK _ _ (h w ?_ (World.grownBy.refl _ _))
    have : xs.take (of * E) ++ [] ++ xs.drop (of * E + 0 * E) = xs := by simp
    rw [this]
    exact ⟨h0, .inr ⟨g, cap, cur, rfl, hbg, hg, hnc, hcm, hcz, htake⟩⟩
  have hpos : 0 < m := Nat.pos_of_ne_zero hz
  have hdp' := hdp hpos
  subst hdp'
  have hle2 : of * E + m * E ≤ n * E := by rw [← Nat.add_mul]; exact Nat.mul_le_mul_right _ hm
  have hle3 : n * E ≤ cap * E := Nat.mul_le_mul_right _ hnc
  have hrun := run_copy_wide (P := P) w dT sT o.type e i g (of * E) m dCap ao slen scap cur e cs hu hi hg (by rw [hmin, hsz]; exact hcs)
    (fun j v hj => hrd hpos j v hj) (by rw [hcs, hcz]; omega) h1
  rw [hmin] at hrun
  unfold Oper.wp
  simp [execOp, ho, resolve, invoke, builtin, hd, hs, hrun, Result.andThen]
  have hlen : (xs.take (of * E) ++ cs ++ xs.drop (of * E + m * E)).length = n * E := by simp only [List.length_append, List.length_take, List.length_drop, hcs, h0]; omega
  refine hK _ _ (h _ ⟨hlen, .inr ⟨g, cap, _, rfl, hbg, setRow_heap w g cur _ e _ hg, hnc, hcm, ?_, ?_⟩⟩ ⟨rfl, rfl, rfl, by simp [World.setRow], fun k hk hne => setRow_other w g k _ (fun h => hne (by rw [h]))⟩)
  · rw [List.size_toArray]; simp only [List.length_append, List.length_take, List.length_drop, hcs, Array.length_toList, hcz]; omega
  · have hc2 : cur.toList = xs ++ cur.toList.drop (n * E) := by rw [← htake, List.take_append_drop]
    have := take_splice xs (cur.toList.drop (n * E)) cs (of * E) (m * E) hcs (by omega)
    rw [← hc2, h0] at this
    rw [hcs, ← this]
    simp

/-- A cell of a row of the call's own written. -/
theorem owns_set {w : World} {base : Nat} {e : TypeId} {E g n cap : Nat} {xs : List Value} (h : w.ownsRow base e E (.slice (some ⟨g, 0, none⟩) n cap) n xs) (j : Nat) (hj : j < xs.length) (u : Value) :
    (w.setCell ⟨g, j, none⟩ u).ownsRow base e E (.slice (some ⟨g, 0, none⟩) n cap) n (xs.set j u) := by
  obtain ⟨h0, hv⟩ := h
  rcases hv with ⟨hv, _⟩ | ⟨g', cap', cur, hv, hbg, hg, hnc, hcm, hcz, htake⟩
  · cases hv
  injection hv with hv _ hv3
  injection hv with hv
  injection hv with hv _ _
  subst hv hv3
  have hj2 : j < cur.size := by
    have : xs.length ≤ cur.toList.length := by rw [← htake]; simp; omega
    simpa using Nat.lt_of_lt_of_le hj this
  refine ⟨by simpa using h0, .inr ⟨g, cap, cur.set j u hj2, rfl, hbg, ?_, hnc, hcm, by simpa using hcz, ?_⟩⟩
  · simp [World.setCell, Array.getElem?_modify, hg, Array.setIfInBounds, hj2]
  · rw [← htake]; simp [List.take_set]

theorem owns_block {w : World} {base : Nat} {e : TypeId} {E g n cap : Nat} {xs : List Value} (h : w.ownsRow base e E (.slice (some ⟨g, 0, none⟩) n cap) n xs) :
    base ≤ g ∧ g < w.heap.size ∧ n ≤ cap ∧ cap ≤ 9223372036854775807 ∧ xs.length = n * E ∧ (∀ o, w.frozen? ⟨g, o, none⟩ = false) ∧ ∀ j u, xs[j]? = some u → w.cell? ⟨g, j, none⟩ = some u := by
  obtain ⟨h0, hv⟩ := h
  rcases hv with ⟨hv, _⟩ | ⟨g', cap', cur, hv, hbg, hg, hnc, hcm, hcz, htake⟩
  · cases hv
  injection hv with hv _ hv3
  injection hv with hv
  injection hv with hv _ _
  subst hv hv3
  refine ⟨hbg, (Array.getElem?_eq_some_iff.1 hg).1, hnc, by unfold maxLen at hcm; exact hcm, h0, fun o => by simp [World.frozen?, hg], fun j u hu => ?_⟩
  rw [← htake, List.getElem?_take] at hu
  split at hu
  · simp only [World.cell?, hg]; simpa using hu
  · cases hu

/-- A row of the call's own with an element is no nil. -/
theorem owns_some {w : World} {base : Nat} {e : TypeId} {E : Nat} {v : Value} {n : Nat} {xs : List Value} (h : w.ownsRow base e E v n xs) (hn : 0 < n) : ∃ g cap, v = .slice (some ⟨g, 0, none⟩) n cap := by
  obtain ⟨_, hv⟩ := h
  rcases hv with ⟨_, hv⟩ | ⟨g, cap, cur, hv, _⟩
  · omega
  · exact ⟨g, cap, hv⟩

/-- What a walk asks of a row of the call's own, nil or not. -/
theorem owns_shape {w : World} {base : Nat} {e : TypeId} {E : Nat} {v : Value} {n : Nat} {xs : List Value} (h : w.ownsRow base e E v n xs) : ∃ ao cap, v = .slice ao n cap ∧ n ≤ cap ∧ cap ≤ 9223372036854775807 := (sl_of_owns h).shape

/-- 'x[k:]' as an equation of runs, its address under a name. -/
theorem run_slice_from {P : Program} (t e : TypeId) (i : TypeInfo) (E : Nat) (hu : P.underlying t = some (.slice e)) (hi : P.info? e = some i) (hsz : i.size = E)
    (g off n cap k : Nat) (K : Int) (hK : K = k) (hk : k ≤ n) (_hn : n ≤ cap) :
    ∃ ao, (k < cap → ao = some ⟨g, off + k * E, none⟩) ∧ ∀ w : World, (Instr.sliceAt t (.slice (some ⟨g, off, none⟩) n cap) (some (.int .i64 K)) none none).run P w = .ok (.slice ao (n - k) (cap - k)) w := by
  subst hK
  refine ⟨if cap = k then some ⟨g, off, none⟩ else (some ⟨g, off, none⟩ : Option Addr).map (·.add (k * i.size)), fun h => ?_, fun w => ?_⟩
  · rw [if_neg (by omega), Option.map_some, Addr.add_lit, hsz]
  · have he : P.elem t = e := by simp [Program.elem, hu]
    have hu' : P.underlying t = some (.slice (P.elem t)) := by rw [he]; exact hu
    have hrun := run_slice_l (P := P) (w := w) t (some ⟨g, off, none⟩) n cap hu' .i64 (k : Int) (by omega) (by omega)
    have hsz' : (sizeOf (P.elem t)).run P w = .ok i.size w := by simp [sizeOf, typeInfo, he, hi]
    simp only [hsz', Result.andThen, sliced, Int.toNat_natCast] at hrun
    simp [Instr.sliceAt, run_underlying hu, hrun]

theorem bcell {W w1 : World} (hb : Below W.heap.size W w1) : (∀ b o, b < W.heap.size → w1.cell? ⟨b, o, none⟩ = W.cell? ⟨b, o, none⟩) ∧ W.heap.size ≤ w1.heap.size :=
  ⟨fun b o h => hb.cell (p := ⟨b, o, none⟩) h, hb.size⟩
theorem held_below {w w' : World} {a : Addr} {x : Value} {B : Nat} (h : w.cell? a = some x) (hb : Below B w w') (hB : a.block < B) : w'.cell? a = some x := by rw [hb.cell hB]; exact h
theorem cell_behind {w0 : World} {a : Addr} {x : Value} (h : w0.cell? a = some x) (hB : a.block < w0.heap.size) : ∀ W, Below w0.heap.size w0 W → W.cell? a = some x := by
  intro W hW
  rw [hW.cell hB]; exact h

end Go.Proofs.Ytckonmlcgfbojaa
