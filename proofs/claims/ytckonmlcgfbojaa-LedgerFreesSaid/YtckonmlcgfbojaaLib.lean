/- Helper lemmas on worlds and slices of the model: no program in sight. More small lemmas. Laws for the walk: make with a length and a capacity; x[:k]. Laws for the walk: a copy into a part of a row of the call's own; cells of such a row written. 'append(out, x...)', and where the row lies then. Rows of ranges, in plain Lean: lists of pairs of numbers. Plain Lean: rows. Slices of numbers in memory. Slices of things of several cells each, whatever they are. Plain Lean: counters, slices of rights, leases, books, wants. Books in memory. -/
import Derived.WalkKit
import Derived.WalkSpells
import Derived.WalkLawsBesides
import Derived.BigQuiet
import Derived.Lib.Hide
import Derived.Maps.AppendAt
import Derived.BigRegion
import Derived.Deep.RegionLawGrows
import Derived.Deep.RegionHeld3
import Derived.Deep.CutBlock
import Derived.Deep.DeepCutAuto
import Derived.Test.YtckonmlcgfbojaaRows

namespace Go.Proofs.Ytckonmlcgfbojaa
open Go.RowKit

/-- A guard for an arm: the next operation writes slot n. -/
theorem at_slot (n : Nat) {P : Program} {ops : Array Oper} {Q : Exit → Act → World → Prop} {rest : List Oper} {a : Act} {w : World} {op : Op} {t : TypeId} {s : String} {e : Array Edge} {g : Option (Nat × Bool)}
    (h : wpList P ops Q (⟨some n, op, t, s, e, g⟩ :: rest) a w) : wpList P ops Q (⟨some n, op, t, s, e, g⟩ :: rest) a w := h

theorem take_snoc {α : Type} (l : List α) (k : Nat) (h : k < l.length) : l.take (k + 1) = l.take k ++ [l[k]] := by
  rw [List.take_succ_eq_append_getElem h]

theorem ret_int {k : IntKind} {a b : Int} (h : a = b) : Ending.returned (.int k a) = .returned (.int k b) := by rw [h]
theorem ret_bool {a b : Bool} (h : a = b) : Ending.returned (.bool a) = .returned (.bool b) := by rw [h]

theorem below_drewN {B : Nat} {a w : World} (h : Below B a w) (n : Nat) : Below B a (w.drewN n) := ⟨h.os, h.tape, h.output, h.size, h.block⟩

/-- The slice value v of n elements of E cells each reads as the cells cs. -/
structure Sl (w : World) (E : Nat) (v : Value) (n : Nat) (cs : List Value) : Prop where
  len : cs.length = n * E
  val : ∃ ao cap, v = .slice ao n cap ∧ n ≤ cap ∧ cap ≤ maxLen ∧ (ao = none → n = 0 ∧ cap = 0) ∧
    ∀ j u, cs[j]? = some u → ∃ b off, ao = some ⟨b, off, none⟩ ∧ b < w.heap.size ∧ w.cell? ⟨b, off + j, none⟩ = some u

theorem Sl.nil (w : World) (E : Nat) : Sl w E (.slice none 0 0) 0 [] := ⟨by simp, none, 0, rfl, Nat.le_refl _, by unfold maxLen; omega, fun _ => ⟨rfl, rfl⟩, fun j u h => by simp at h⟩

theorem Sl.keep {w w' : World} {E : Nat} {v : Value} {n : Nat} {cs : List Value} {B : Nat} (h : Sl w E v n cs) (hb : Below B w w') (hB : w.heap.size ≤ B) : Sl w' E v n cs := by
  obtain ⟨h0, ao, cap, h1, h2, h3, h4, h5⟩ := h
  refine ⟨h0, ao, cap, h1, h2, h3, h4, fun j u hu => ?_⟩
  obtain ⟨b, off, g1, g2, g3⟩ := h5 j u hu
  refine ⟨b, off, g1, Nat.lt_of_lt_of_le g2 hb.size, ?_⟩
  rw [hb.cell (p := ⟨b, off + j, none⟩) (Nat.lt_of_lt_of_le g2 hB)]
  exact g3

/-- What the call owns reads. -/
theorem sl_of_owns {w : World} {base : Nat} {e : TypeId} {E : Nat} {v : Value} {n : Nat} {xs : List Value} (h : w.ownsRow base e E v n xs) : Sl w E v n xs := by
  obtain ⟨h0, h⟩ := h
  rcases h with ⟨rfl, rfl⟩ | ⟨g, cap, cur, rfl, _, hg, hn, hc, hs, ht⟩
  · refine ⟨h0, none, 0, rfl, Nat.le_refl _, by unfold maxLen; omega, fun _ => ⟨rfl, rfl⟩, fun j u hu => ?_⟩
    have : xs = [] := List.eq_nil_of_length_eq_zero (by simpa using h0)
    subst this
    simp at hu
  · refine ⟨h0, _, cap, rfl, hn, hc, fun ha => by simp at ha, fun j u hu => ⟨g, 0, rfl, (Array.getElem?_eq_some_iff.1 hg).1, ?_⟩⟩
    rw [← ht, List.getElem?_take] at hu
    split at hu
    · simp only [World.cell?, hg]; simpa using hu
    · cases hu

/-- The cells of a slice, opened for a walk: its address is a variable till an element is asked for. -/
theorem Sl.at {w : World} {E : Nat} {n : Nat} {cs : List Value} {ao : Option Addr} {cap : Nat} (h : Sl w E (.slice ao n cap) n cs) (hn : 0 < cs.length) :
    ∃ b off, ao = some ⟨b, off, none⟩ ∧ b < w.heap.size ∧ ∀ j u, cs[j]? = some u → w.cell? ⟨b, off + j, none⟩ = some u := by
  obtain ⟨h0, ao', cap', h1, h2, h3, h4, h5⟩ := h
  injection h1 with h1 _ h1c
  subst h1 h1c
  obtain ⟨b, off, rfl, g2, _⟩ := h5 0 cs[0] (by simp [hn])
  refine ⟨b, off, rfl, g2, fun j u hu => ?_⟩
  obtain ⟨b', off', hab, _, hc⟩ := h5 j u hu
  injection hab with hab
  injection hab with h1 h2
  subst h1 h2
  exact hc

theorem Sl.shape {w : World} {E : Nat} {v : Value} {n : Nat} {cs : List Value} (h : Sl w E v n cs) : ∃ ao cap, v = .slice ao n cap ∧ n ≤ cap ∧ cap ≤ 9223372036854775807 := by
  obtain ⟨_, ao, cap, h1, h2, h3, _, _⟩ := h
  exact ⟨ao, cap, h1, h2, by unfold maxLen at h3; omega⟩

/-- 'copy' into a row that is known whole, elements of any number of cells. -/
theorem run_copy_wide {P : Program} (w : World) (dT sT ty elem : TypeId) (i : TypeInfo) (g o dLen dCap : Nat) (ao : Option Addr) (sLen sCap : Nat) (cur : Array Value) (t : TypeId) (cs : List Value)
    (hu : P.underlying dT = some (.slice elem)) (hi : P.info? elem = some i)
    (hg : w.heap[g]? = some (.cells cur t (0, 0))) (hn : cs.length = Nat.min sLen dLen * i.size)
    (hsrc : ∀ j v, cs[j]? = some v → ∃ a, ao = some a ∧ w.cell? (a.add j) = some v) (hfit : o + cs.length ≤ cur.size) (h1 : ∀ v ∈ cs, v.oneCell' = true) :
    (Builtin.copy_ #[dT, sT] ty #[.slice (some ⟨g, o, none⟩) dLen dCap, .slice ao sLen sCap]).run P w =
      .ok (goInt (Nat.min sLen dLen)) (w.setRow g (cur.toList.take o ++ cs ++ cur.toList.drop (o + cs.length)).toArray) := by
  have hst := run_storeCells_at P g o t cs 0 cur w hg (by simpa using hfit) h1
  simp only [Nat.add_zero] at hst
  have hload : (Builtin.firstCells i.size (Nat.min sLen dLen) (.slice ao sLen sCap)).run P w = .ok cs.toArray w := by
    rcases ao with _ | a
    · cases cs with
      | nil => simp [Builtin.firstCells]
      | cons c cs => obtain ⟨a, ha, _⟩ := hsrc 0 c rfl; cases ha
    · have hl := run_loadCells_list (P := P) w a cs (fun j v hv => by obtain ⟨a', ha, h⟩ := hsrc j v hv; injection ha with ha; subst ha; exact h)
      simp only [Builtin.firstCells, ← hn, hl]
  simp [Builtin.copy_, run_underlying hu, Builtin.lenOf, sizeOf, typeInfo, hi, hload, hst]

/-- 'copy(dst, src)' of a whole slice into a row of the call's own that is as long. -/
theorem wpList_copy_all {P : Program} {w : World} {ops : Array Oper} {rest : List Oper} {o : Oper} {a : Act} {Q : Exit → Act → World → Prop} (hgd : o.guard = none) (d s : Operand) (dT sT : TypeId)
    (ho : o.op = .call { callee := .builtin .copy, args := #[d, s], argTypes := #[dT, sT] }) (base : Nat) (e : TypeId) (i : TypeInfo) (E : Nat) (hu : P.underlying dT = some (.slice e)) (hi : P.info? e = some i) (hsz : i.size = E)
    (g n cap : Nat) (xs : List Value) (hd : a.eval d = .slice (some ⟨g, 0, none⟩) n cap) (hown : w.ownsRow base e E (.slice (some ⟨g, 0, none⟩) n cap) n xs)
    (ao : Option Addr) (scap : Nat) (cs : List Value) (hs : a.eval s = .slice ao n scap) (hsl : Sl w E (.slice ao n scap) n cs) (h1 : ∀ v ∈ cs, v.oneCell' = true)
    (h : ∀ w', w'.ownsRow base e E (.slice (some ⟨g, 0, none⟩) n cap) n cs → w.grownBy w' (some g) → wpList P ops Q rest (a.put o.dst (goInt n)) w') : wpList P ops Q (o :: rest) a w := by
  refine wpList_plain hgd fun K hK => ?_
  obtain ⟨h0, hv⟩ := hown
  rcases hv with ⟨hv, _⟩ | ⟨g', cap', cur, hv, hbg, hg, hnc, hcm, hcs, htake⟩
  · cases hv
  injection hv with hv _ hv3
  injection hv with hv
  injection hv with hv _ _
  subst hv hv3
  obtain ⟨hl, ao', cap', hv', _, _, _, hx⟩ := hsl
  injection hv' with hv' _ _
  subst hv'
  have hmin : Nat.min n n = n := Nat.min_self n
  have hle : n * E ≤ cap * E := Nat.mul_le_mul_right _ hnc
  have hrun := run_copy_wide (P := P) w dT sT o.type e i g 0 n cap ao n scap cur e cs hu hi hg (by rw [hmin, hsz]; exact hl)
    (fun j v hj => by
      obtain ⟨b, off, hab, _, hc⟩ := hx j v hj
      exact ⟨_, hab, by rw [Addr.add_lit]; exact hc⟩) (by omega) h1
  rw [hmin] at hrun
  unfold Oper.wp
  simp [execOp, ho, resolve, invoke, builtin, hd, hs, hrun, Result.andThen]
  refine hK _ _ (h _ ⟨hl, .inr ⟨g, cap, _, rfl, hbg, setRow_heap w g cur _ e _ hg, hnc, hcm, ?_, ?_⟩⟩ ⟨rfl, rfl, rfl, by simp [World.setRow], fun k hk hne => setRow_other w g k _ (fun h => hne (by rw [h]))⟩)
  · simp; omega
  · simp [← hl]

/-- A block of two cells: what a variable of a struct of two fields is. -/
theorem two_cells {w : World} {b : Nat} {x y : Value} {t : TypeId} (h : w.heap[b]? = some (.cells #[x, y] t (0, 0))) :
    w.cell? ⟨b, 0, none⟩ = some x ∧ w.cell? ⟨b, 1, none⟩ = some y ∧ w.frozen? ⟨b, 0, none⟩ = false ∧ w.frozen? ⟨b, 1, none⟩ = false ∧ b < w.heap.size := by
  refine ⟨?_, ?_, ?_, ?_, (Array.getElem?_eq_some_iff.1 h).1⟩ <;> simp [World.cell?, World.frozen?, h]

/-- Both cells of such a block written. -/
theorem set_two {w : World} {b : Nat} {x y : Value} {t : TypeId} (h : w.heap[b]? = some (.cells #[x, y] t (0, 0))) (u v : Value) :
    ((w.setCell ⟨b, 0, none⟩ u).setCell ⟨b, 1, none⟩ v).heap[b]? = some (.cells #[u, v] t (0, 0)) := by
  simp [World.setCell, Array.getElem?_modify, h]

/-- A block below what a row's law may turn is as it was. -/
theorem grown_block {w w' : World} {row : Option Nat} (hg : w.grownBy w' row) {b B : Nat} (hb : b < w.heap.size) (hB : b < B) (hr : ∀ k, row = some k → B ≤ k) : w'.heap[b]? = w.heap[b]? :=
  hg.block b hb (fun e => by have := hr b e.symm; omega)

theorem owns_ge {w : World} {base : Nat} {e : TypeId} {size : Nat} {v : Value} {n : Nat} {xs : List Value} (h : w.ownsRow base e size v n xs) : ∀ k, v.ownBlock = some k → base ≤ k := fun k hk => (h.lt k hk).1

theorem owns_drewN {w : World} {base : Nat} {e : TypeId} {size : Nat} {v : Value} {n : Nat} {xs : List Value} (h : w.ownsRow base e size v n xs) (k : Nat) : (w.drewN k).ownsRow base e size v n xs := h

theorem cells_two_new (w : World) (x y : Value) (t : TypeId) : ∀ j u, [x, y][j]? = some u → (w.alloc (.cells #[x, y] t)).cell? ((⟨w.heap.size, 0, none⟩ : Addr).add j) = some u := by
  intro j u hu
  rw [Addr.add_lit, World.cell?, show (w.alloc (.cells #[x, y] t)).heap[(⟨w.heap.size, 0 + j, none⟩ : Addr).block]? = _ from heap_alloc_new w _]
  simpa using hu

theorem cells_two_at (w : World) (b : Nat) (x y : Value) (t : TypeId) (hb : w.heap.size = b) : ∀ j u, [x, y][j]? = some u → (w.alloc (.cells #[x, y] t)).cell? ((⟨b, 0, none⟩ : Addr).add j) = some u := by
  subst hb; exact cells_two_new w x y t

/-- The cells cs lie at the address ao (none: there are none). -/
def Rd (w : World) (ao : Option Addr) (cs : List Value) : Prop := ∀ j u, cs[j]? = some u → ∃ a, ao = some a ∧ w.cell? (a.add j) = some u

theorem Sl.rd {w : World} {E : Nat} {n : Nat} {cs : List Value} {ao : Option Addr} {cap : Nat} (h : Sl w E (.slice ao n cap) n cs) : Rd w ao cs := by
  intro j u hu
  obtain ⟨hl, ao', cap', h1, _, _, _, h5⟩ := h
  injection h1 with h1 _ _
  subst h1
  obtain ⟨b, off, hab, _, hc⟩ := h5 j u hu
  exact ⟨_, hab, by rw [Addr.add_lit]; exact hc⟩

theorem Rd.keep {w w' : World} {ao : Option Addr} {cs : List Value} {B : Nat} (h : Rd w ao cs) (hb : Below B w w') (hB : w.heap.size ≤ B) : Rd w' ao cs := by
  intro j u hu
  obtain ⟨a, ha, hc⟩ := h j u hu
  refine ⟨a, ha, ?_⟩
  have hlt := World.block_lt_of_cell? w _ hc
  rw [hb.cell (Nat.lt_of_lt_of_le hlt hB)]; exact hc

theorem add_add' (a : Addr) (i j : Nat) : (a.add i).add j = a.add (i + j) := by
  unfold Addr.add
  by_cases hi : i = 0 <;> by_cases hj : j = 0 <;> simp [hi, hj, Nat.add_assoc]

theorem Rd.drop {w : World} {ao : Option Addr} {cs : List Value} (h : Rd w ao cs) (k : Nat) : Rd w (ao.map (·.add k)) (cs.drop k) := by
  intro j u hu
  rw [List.getElem?_drop] at hu
  obtain ⟨a, rfl, hc⟩ := h _ u hu
  exact ⟨_, rfl, by rw [add_add']; exact hc⟩
theorem Rd.take {w : World} {ao : Option Addr} {cs : List Value} (h : Rd w ao cs) (k : Nat) : Rd w ao (cs.take k) := by
  intro j u hu
  rw [List.getElem?_take] at hu
  split at hu
  · exact h j u hu
  · cases hu
theorem Rd.nil (w : World) (ao : Option Addr) : Rd w ao [] := fun _ _ h => by simp at h

theorem Rd.drewN_alloc {w : World} {ao : Option Addr} {cs : List Value} (h : Rd w ao cs) (n : Nat) (o : Obj) : Rd ((w.drewN n).alloc o) ao cs :=
  h.keep ((below_drewN (Below.refl w.heap.size w) n).alloc (Nat.le_refl _) o) (Nat.le_refl _)
theorem Rd.alloc {w : World} {ao : Option Addr} {cs : List Value} (h : Rd w ao cs) (o : Obj) : Rd (w.alloc o) ao cs :=
  h.keep ((Below.refl w.heap.size w).alloc (Nat.le_refl _) o) (Nat.le_refl _)

theorem Rd.at_drop {w : World} {b off : Nat} {cs : List Value} (h : Rd w (some ⟨b, off, none⟩) cs) (k : Nat) : Rd w (some ⟨b, off + k, none⟩) (cs.drop k) := by
  have := h.drop k
  simpa [Addr.add_lit] using this

theorem owns_keep {w w' : World} {base B : Nat} {e : TypeId} {size : Nat} {v : Value} {n : Nat} {xs : List Value} (h : w.ownsRow base e size v n xs) (hb : Below B w w') (hB : w.heap.size ≤ B) : w'.ownsRow base e size v n xs := by
  obtain ⟨h1, h2⟩ := h
  refine ⟨h1, ?_⟩
  rcases h2 with h2 | ⟨g, cap, cur, hv, hg, hh, r⟩
  · exact Or.inl h2
  · exact Or.inr ⟨g, cap, cur, hv, hg, by rw [hb.block g (Nat.lt_of_lt_of_le (Array.getElem?_eq_some_iff.1 hh).1 hB)]; exact hh, r⟩

/-- Two rows of the call's own that share no block. -/
def Apart (v v' : Value) : Prop := ∀ g, v.ownBlock = some g → v'.ownBlock = some g → False

theorem apart_nil (v : Value) : Apart (.slice none 0 0) v := fun g h => by simp [Value.ownBlock] at h
theorem apart_nil' (v : Value) : Apart v (.slice none 0 0) := fun g _ h => by simp [Value.ownBlock] at h
theorem Apart.symm {v v' : Value} (h : Apart v v') : Apart v' v := fun g a b => h g b a
theorem Apart.kept {w w' : World} {base : Nat} {e : TypeId} {size : Nat} {v v' : Value} {n : Nat} {xs : List Value} (h : Apart v v') (ho : w.ownsRow base e size v' n xs) (hg : w.grownBy w' v.ownBlock) : w'.ownsRow base e size v' n xs := by
  refine ho.kept hg ?_
  cases hv : v'.ownBlock with
  | none => exact .inl rfl
  | some g => exact .inr fun e => h g e.symm hv
/-- What v has become lies apart still. -/
theorem Apart.step {w : World} {base : Nat} {e : TypeId} {size : Nat} {v v1 v' : Value} {n : Nat} {xs : List Value} (h : Apart v v') (ho : w.ownsRow base e size v' n xs) (hat : v1.ownBlock = v.ownBlock ∨ v1.ownBlock = some w.heap.size) : Apart v1 v' := by
  intro g h1 h2
  rcases hat with hat | hat
  · exact h g (hat ▸ h1) h2
  · rw [hat] at h1
    injection h1 with h1
    have := (ho.lt g h2).2
    omega

/-- A block that was laid behind what is owned is not turned by an append to it. -/
theorem kept_new {wr w1 : World} {base : Nat} {e : TypeId} {size : Nat} {v : Value} {n : Nat} {xs : List Value} (ho : wr.ownsRow base e size v n xs) {o1 o2 : Obj} (hg : ((wr.alloc o1).alloc o2).grownBy w1 v.ownBlock) : w1.heap[wr.heap.size]? = some o1 := by
  rw [hg.block wr.heap.size (by simp; omega) (fun h => by have := (ho.lt _ h.symm).2; omega), Below.heap_alloc _ _ _ (by simp), heap_alloc_new]

theorem run_append_none {P : Program} (w : World) (base : Nat) (t ty e : TypeId) (i : TypeInfo) (size : Nat) (ht : P.underlying t = some (.slice e)) (hi : P.info? e = some i)
    (v : Value) (n : Nat) (xs : List Value) (hown : w.ownsRow base e size v n xs) (c : Nat) :
    (Builtin.append_ #[t, t] ty #[v, .slice none 0 c]).run P w = .ok v w := by
  rcases hown.2 with ⟨rfl, rfl⟩ | ⟨g, cap, cur, rfl, _, _, hnc, _⟩
  · simp [Builtin.append_, run_underlying ht, sizeOf, typeInfo, hi, Builtin.lenOf, Builtin.firstCells]
  · simp [Builtin.append_, run_underlying ht, sizeOf, typeInfo, hi, Builtin.lenOf, Builtin.firstCells, hnc, storeCells]

/-- 'append(out, x...)': out a row of the call's own, x whatever can be read. -/
theorem wpList_append_rd {P : Program} {w : World} {ops : Array Oper} {rest : List Oper} {o : Oper} {a : Act} {Q : Exit → Act → World → Prop} (hgd : o.guard = none) (s x : Operand) (t : TypeId)
    (ho : o.op = .call { callee := .builtin .append, args := #[s, x], argTypes := #[t, t] })
    (base : Nat) (e : TypeId) (i : TypeInfo) (z : Value) (size bytes : Nat) (ht : P.underlying t = some (.slice e)) (hi : P.info? e = some i) (hz : i.zero = some z)
    (hsize : i.size = size) (hby : i.bytes = bytes) (hzs : z.cells.size = size) (hsz : 0 < size)
    (v : Value) (n : Nat) (xs : List Value) (hs : a.eval s = v) (hown : w.ownsRow base e size v n xs)
    (ao : Option Addr) (m c : Nat) (news : List Value) (hx : a.eval x = .slice ao m c) (hl : news.length = m * size) (hnews : Rd w ao news) (h1 : ∀ u ∈ news, u.oneCell' = true)
    (h63 : n + m ≤ maxLen) (hbytes : (n + m) * bytes ≤ 140737488355328) (hbase : base ≤ w.heap.size)
    (h : ∀ v' w', w'.ownsRow base e size v' (n + m) (xs ++ news) → w.grownBy w' v.ownBlock → wpList P ops Q rest (a.put o.dst v') w') : wpList P ops Q (o :: rest) a w := by
  rcases ao with _ | ad
  · have hm : news = [] := by
      cases news with
      | nil => rfl
      | cons u r => obtain ⟨a, ha, _⟩ := hnews 0 u rfl; cases ha
    subst hm
    have hm : m = 0 := by
      have : m * size = 0 := by simpa using hl.symm
      rcases Nat.mul_eq_zero.1 this with h | h <;> omega
    subst hm
    refine wpList_plain hgd fun K hK => ?_
    have hrun := run_append_none (P := P) w base t o.type e i size ht hi v n xs hown c
    unfold Oper.wp
    simp [execOp, ho, resolve, invoke, builtin, hs, hx, hrun, Result.andThen]
    exact hK _ _ (h v w (by simpa using hown) (World.grownBy.refl _ _))
  · exact wpList_append_own _ hgd s x t ho base e i z size bytes ht hi hz hsize hby hzs hsz v n xs hs hown ad m c news hx hl (fun j u hu => by obtain ⟨a', ha, hc⟩ := hnews j u hu; injection ha with ha; subst ha; exact hc) h1 h63 hbytes hbase (fun v' w' h2 h3 _ => h v' w' h2 h3)

theorem owns_base {w : World} {base base' : Nat} {e : TypeId} {size : Nat} {v : Value} {n : Nat} {xs : List Value} (h : w.ownsRow base e size v n xs) (hb : base' ≤ base) : w.ownsRow base' e size v n xs := by
  obtain ⟨h1, h2⟩ := h
  refine ⟨h1, ?_⟩
  rcases h2 with h2 | ⟨g, cap, cur, hv, hg, hh, r⟩
  · exact Or.inl h2
  · exact Or.inr ⟨g, cap, cur, hv, Nat.le_trans hb hg, hh, r⟩

end Go.Proofs.Ytckonmlcgfbojaa

namespace Go.Proofs.Ytckonmlcgfbojaa
open Go.RowKit

theorem Apart.step2 {w : World} {base : Nat} {e : TypeId} {size : Nat} {v v1 v' : Value} {n : Nat} {xs : List Value} {B : Nat} (h : Apart v v') (ho : w.ownsRow base e size v' n xs) (hat : v1.ownBlock = v.ownBlock ∨ v1.ownBlock = some B) (hB : w.heap.size ≤ B) : Apart v1 v' := by
  intro g h1 h2
  rcases hat with hat | hat
  · exact h g (hat ▸ h1) h2
  · rw [hat] at h1
    injection h1 with h1
    have := (ho.lt g h2).2
    omega

/-- 'x[k:]': the address behind it is not looked into; what lies there is known. -/
theorem wpList_slice_from {P : Program} {w : World} {ops : Array Oper} {rest : List Oper} {o : Oper} {a : Act} {Q : Exit → Act → World → Prop} (hgd : o.guard = none) (x lo : Operand) (t : TypeId)
    (ho : o.op = .slice t x (some lo) none none) (e : TypeId) (i : TypeInfo) (E : Nat) (hu : P.underlying t = some (.slice e)) (hi : P.info? e = some i) (hsz : i.size = E)
    (ao : Option Addr) (n cap k : Nat) (cs : List Value) (hx : a.eval x = .slice ao n cap) (hlo : a.eval lo = .int .i64 (k : Nat)) (hk : k ≤ n) (hn : n ≤ cap) (hrd : Rd w ao cs) (hcs : cs.length = n * E)
    (h : ∀ ao', Rd w ao' (cs.drop (k * E)) → wpList P ops Q rest (a.put o.dst (.slice ao' (n - k) (cap - k))) w) : wpList P ops Q (o :: rest) a w := by
  refine wpList_plain hgd fun K hK => ?_
  have h9 : Rd w (if cap = k then ao else ao.map (·.add (k * i.size))) (cs.drop (k * E)) := by
    rw [hsz]
    split
    · have : cs.drop (k * E) = [] := List.drop_eq_nil_of_le (by rw [hcs]; exact Nat.mul_le_mul_right _ (by omega))
      rw [this]; exact Rd.nil _ _
    · exact hrd.drop _
  have h8 := hK _ _ (h _ h9)
  have he : P.elem t = e := by simp [Program.elem, hu]
  have hu' : P.underlying t = some (.slice (P.elem t)) := by rw [he]; exact hu
  have hrun := run_slice_l (P := P) (w := w) t ao n cap hu' .i64 (k : Int) (by omega) (by omega)
  have hsz' : (sizeOf (P.elem t)).run P w = .ok i.size w := by simp [sizeOf, typeInfo, he, hi]
  simp only [hsz', Result.andThen, sliced, Int.toNat_natCast] at hrun
  have hrun2 : (Instr.sliceAt t (.slice ao n cap) (some (.int .i64 (k : Int))) none none).run P w = .ok (.slice (if cap = k then ao else ao.map (·.add (k * i.size))) (n - k) (cap - k)) w := by
    simp [Instr.sliceAt, run_underlying hu, hrun]
  unfold Oper.wp
  simp [execOp, ho, hx, hlo, hrun2, Result.andThen]
  exact h8

theorem owns_lit (w : World) (b base : Nat) (e : TypeId) (size : Nat) (cs : Array Value) (n : Nat) (hb : w.heap.size = b) (hB : base ≤ b) (hm : n ≤ 1000000) (hs : cs.size = n * size) :
    (w.alloc (.cells cs e)).ownsRow base e size (.slice (some ⟨b, 0, none⟩) n n) n cs.toList := by
  subst hb; exact World.ownsRow_lit w cs n hB (by unfold maxLen; omega) hs

end Go.Proofs.Ytckonmlcgfbojaa

namespace Go.Proofs.Ytckonmlcgfbojaa
open Go.RowKit

/-- 'make([]T, n, m)'. -/
theorem wpList_make_len {P : Program} {w : World} {ops : Array Oper} {rest : List Oper} {o : Oper} {a : Act} {Q : Exit → Act → World → Prop}
    (hg : o.guard = none) (l c : Operand) (t : TypeId) (hop : o.op = Op.makeSlice t l c)
    (base : Nat) (e : TypeId) (i : TypeInfo) (z : Value) (size bytes : Nat) (h1 : P.underlying t = some (.slice e)) (h2 : P.info? e = some i) (h3 : i.zero = some z) (h4 : i.size = size) (h5 : i.bytes = bytes)
    (kl kc : IntKind) (L C : Int) (n m : Nat) (hl : a.eval l = .int kl L) (hc : a.eval c = .int kc C) (hL : L = (n : Int)) (hC : C = (m : Int)) (hnm : n ≤ m) (b2 : bytes * m ≤ 281474976710656) (b3 : m ≤ 9223372036854775807) (b4 : base ≤ w.heap.size)
    (hK : ∀ xs w', w'.ownsRow base e size (.slice (some ⟨w.heap.size, 0, none⟩) n m) n xs → w.grownBy w' none → wpList P ops Q rest (a.put o.dst (.slice (some ⟨w.heap.size, 0, none⟩) n m)) w') :
    wpList P ops Q (o :: rest) a w := by
  refine wpList_plain hg fun K hK' => ?_
  subst hL
  subst hC
  have hb : (i.bytes : Int) * (m : Int) ≤ 281474976710656 := by
    rw [h5]
    have h : ((bytes * m : Nat) : Int) ≤ 281474976710656 := by omega
    rwa [Int.natCast_mul] at h
  have hrun := run_make (P := P) w t e i z h1 h2 h3 kl kc n m (by omega) (by omega) hb (by omega)
  simp only [Int.toNat_natCast] at hrun
  have hsz : (madeCells z.cells (m * i.size)).size = m * i.size := size_madeCells _ _
  unfold Oper.wp
  simp [execOp, hop, hl, hc, hrun, Result.andThen]
  refine hK' _ _ (hK ((madeCells z.cells (m * i.size)).toList.take (n * size)) _ ⟨?_, .inr ⟨w.heap.size, m, _, rfl, b4, heap_alloc_new w _, hnm, by unfold maxLen; omega, by rw [hsz, h4], rfl⟩⟩ (World.grownBy_alloc w _ none))
  rw [List.length_take, Array.length_toList, hsz, h4]
  exact Nat.min_eq_left (Nat.mul_le_mul_right _ hnm)

/-- 'x[:k]': what lies there is known. -/
theorem wpList_slice_to {P : Program} {w : World} {ops : Array Oper} {rest : List Oper} {o : Oper} {a : Act} {Q : Exit → Act → World → Prop} (hgd : o.guard = none) (x hi : Operand) (t : TypeId)
    (ho : o.op = .slice t x none (some hi) none) (e : TypeId) (i : TypeInfo) (E : Nat) (hu : P.underlying t = some (.slice e)) (hinfo : P.info? e = some i) (_hsz : i.size = E)
    (ao : Option Addr) (n cap k : Nat) (cs : List Value) (hx : a.eval x = .slice ao n cap) (hlo : a.eval hi = .int .i64 (k : Nat)) (hk : k ≤ cap) (hrd : Rd w ao cs)
    (h : ∀ ao', Rd w ao' (cs.take (k * E)) → wpList P ops Q rest (a.put o.dst (.slice ao' k cap)) w) : wpList P ops Q (o :: rest) a w := by
  refine wpList_plain hgd fun K hK => ?_
  have hao : (if cap = 0 then ao else ao.map (·.add (0 * i.size))) = ao := by
    split
    · rfl
    · cases ao with
      | none => rfl
      | some b => simp [Addr.add]
  have h8 := hK _ _ (h _ (hrd.take (k * E)))
  have he : P.elem t = e := by simp [Program.elem, hu]
  have hu' : P.underlying t = some (.slice (P.elem t)) := by rw [he]; exact hu
  have hrun := run_slice_h (P := P) (w := w) t ao n cap hu' .i64 (k : Int) (by omega) (by omega)
  have hsz' : (sizeOf (P.elem t)).run P w = .ok i.size w := by simp [sizeOf, typeInfo, he, hinfo]
  simp only [hsz', Result.andThen, sliced, Int.toNat_natCast, Nat.sub_zero] at hrun
  rw [hao] at hrun
  have hrun2 : (Instr.sliceAt t (.slice ao n cap) none (some (.int .i64 (k : Int))) none).run P w = .ok (.slice ao k cap) w := by
    simp [Instr.sliceAt, run_underlying hu, hrun]
  unfold Oper.wp
  simp [execOp, ho, hx, hlo, hrun2, Result.andThen]
  exact h8

end Go.Proofs.Ytckonmlcgfbojaa

namespace Go.Proofs.Ytckonmlcgfbojaa
open Go.RowKit

theorem take_splice {α : Type} (A B cs : List α) (q M : Nat) (hcs : cs.length = M) (hq : q + M ≤ A.length) :
    ((A ++ B).take q ++ cs ++ (A ++ B).drop (q + M)).take A.length = A.take q ++ cs ++ A.drop (q + M) := by
  have e1 : (A ++ B).take q = A.take q := List.take_append_of_le_length (by omega)
  have e2 : (A ++ B).drop (q + M) = A.drop (q + M) ++ B := List.drop_append_of_le_length hq
  rw [e1, e2, ← List.append_assoc]
  have hl : (A.take q ++ cs ++ A.drop (q + M)).length = A.length := by simp [hcs]; omega
  exact List.take_left' hl

theorem run_copy_zero {P : Program} (w : World) (dT sT ty elem : TypeId) (i : TypeInfo) (d a : Option Addr) (dLen dCap sLen sCap : Nat) (hu : P.underlying dT = some (.slice elem)) (hi : P.info? elem = some i) (hn : Nat.min sLen dLen = 0) :
    (Builtin.copy_ #[dT, sT] ty #[.slice d dLen dCap, .slice a sLen sCap]).run P w = .ok (goInt 0) w := by
  have hl : ∀ (x : Addr), (loadCells x 0).run P w = .ok #[] w := fun x => by simpa using run_loadCells_list (P := P) w x [] (by simp)
  cases d <;> cases a <;> simp [Builtin.copy_, run_underlying hu, Builtin.lenOf, Builtin.firstCells, sizeOf, typeInfo, hi, hn, storeCells, hl]

/-- 'copy(dst, src)', dst a part of a row of the call's own from the element o on, src at least as long. -/
theorem wpList_copy_in {P : Program} {w : World} {ops : Array Oper} {rest : List Oper} {o : Oper} {a : Act} {Q : Exit → Act → World → Prop} (hgd : o.guard = none) (d s : Operand) (dT sT : TypeId)
    (ho : o.op = .call { callee := .builtin .copy, args := #[d, s], argTypes := #[dT, sT] }) (base : Nat) (e : TypeId) (i : TypeInfo) (E : Nat) (hu : P.underlying dT = some (.slice e)) (hi : P.info? e = some i) (hsz : i.size = E)
    (g n cap : Nat) (xs : List Value) (hown : w.ownsRow base e E (.slice (some ⟨g, 0, none⟩) n cap) n xs)
    (of m dCap : Nat) (dp : Option Addr) (hd : a.eval d = .slice dp m dCap) (hdp : 0 < m → dp = some ⟨g, of * E, none⟩) (hm : of + m ≤ n)
    (ao : Option Addr) (slen scap : Nat) (cs : List Value) (hs : a.eval s = .slice ao slen scap) (hle : m ≤ slen) (hcs : cs.length = m * E) (hrd : 0 < m → Rd w ao cs) (h1 : ∀ v ∈ cs, v.oneCell' = true)
    (h : ∀ w', w'.ownsRow base e E (.slice (some ⟨g, 0, none⟩) n cap) n (xs.take (of * E) ++ cs ++ xs.drop (of * E + m * E)) → w.grownBy w' (some g) → wpList P ops Q rest (a.put o.dst (goInt m)) w') : wpList P ops Q (o :: rest) a w := by
  refine wpList_plain hgd fun K hK => ?_
  obtain ⟨h0, hv⟩ := hown
  rcases hv with ⟨hv, _⟩ | ⟨g', cap', cur, hv, hbg, hg, hnc, hcm, hcz, htake⟩
  · cases hv
  injection hv with hv _ hv3
  injection hv with hv
  injection hv with hv _ _
  subst hv hv3
  have hmin : Nat.min slen m = m := Nat.min_eq_right hle
  by_cases hz : m = 0
  · subst hz
    have hcn : cs = [] := List.eq_nil_of_length_eq_zero (by simpa using hcs)
    subst hcn
    have hrun := run_copy_zero (P := P) w dT sT o.type e i dp ao 0 dCap slen scap hu hi (Nat.min_zero _)
    unfold Oper.wp
    simp [execOp, ho, resolve, invoke, builtin, hd, hs, hrun, Result.andThen]
    refine hK _ _ (h w ?_ (World.grownBy.refl _ _))
    have : xs.take (of * E) ++ [] ++ xs.drop (of * E + 0 * E) = xs := by simp
    rw [this]
    exact ⟨h0, .inr ⟨g, cap, cur, rfl, hbg, hg, hnc, hcm, hcz, htake⟩⟩
  have hpos : 0 < m := Nat.pos_of_ne_zero hz
  have hdp' := hdp hpos
  subst hdp'
  have hle2 : of * E + m * E ≤ n * E := by rw [← Nat.add_mul]; exact Nat.mul_le_mul_right _ hm
  have hle3 : n * E ≤ cap * E := Nat.mul_le_mul_right _ hnc
  have hrun := run_copy_wide (P := P) w dT sT o.type e i g (of * E) m dCap ao slen scap cur e cs hu hi hg (by rw [hmin, hsz]; exact hcs)
    (fun j v hj => hrd hpos j v hj) (by rw [hcs, hcz]; omega) h1
  rw [hmin] at hrun
  unfold Oper.wp
  simp [execOp, ho, resolve, invoke, builtin, hd, hs, hrun, Result.andThen]
  have hlen : (xs.take (of * E) ++ cs ++ xs.drop (of * E + m * E)).length = n * E := by simp only [List.length_append, List.length_take, List.length_drop, hcs, h0]; omega
  refine hK _ _ (h _ ⟨hlen, .inr ⟨g, cap, _, rfl, hbg, setRow_heap w g cur _ e _ hg, hnc, hcm, ?_, ?_⟩⟩ ⟨rfl, rfl, rfl, by simp [World.setRow], fun k hk hne => setRow_other w g k _ (fun h => hne (by rw [h]))⟩)
  · rw [List.size_toArray]; simp only [List.length_append, List.length_take, List.length_drop, hcs, Array.length_toList, hcz]; omega
  · have hc2 : cur.toList = xs ++ cur.toList.drop (n * E) := by rw [← htake, List.take_append_drop]
    have := take_splice xs (cur.toList.drop (n * E)) cs (of * E) (m * E) hcs (by omega)
    rw [← hc2, h0] at this
    rw [hcs, ← this]
    simp

/-- A cell of a row of the call's own written. -/
theorem owns_set {w : World} {base : Nat} {e : TypeId} {E g n cap : Nat} {xs : List Value} (h : w.ownsRow base e E (.slice (some ⟨g, 0, none⟩) n cap) n xs) (j : Nat) (hj : j < xs.length) (u : Value) :
    (w.setCell ⟨g, j, none⟩ u).ownsRow base e E (.slice (some ⟨g, 0, none⟩) n cap) n (xs.set j u) := by
  obtain ⟨h0, hv⟩ := h
  rcases hv with ⟨hv, _⟩ | ⟨g', cap', cur, hv, hbg, hg, hnc, hcm, hcz, htake⟩
  · cases hv
  injection hv with hv _ hv3
  injection hv with hv
  injection hv with hv _ _
  subst hv hv3
  have hj2 : j < cur.size := by
    have : xs.length ≤ cur.toList.length := by rw [← htake]; simp; omega
    simpa using Nat.lt_of_lt_of_le hj this
  refine ⟨by simpa using h0, .inr ⟨g, cap, cur.set j u hj2, rfl, hbg, ?_, hnc, hcm, by simpa using hcz, ?_⟩⟩
  · simp [World.setCell, Array.getElem?_modify, hg, Array.setIfInBounds, hj2]
  · rw [← htake]; simp [List.take_set]

theorem owns_block {w : World} {base : Nat} {e : TypeId} {E g n cap : Nat} {xs : List Value} (h : w.ownsRow base e E (.slice (some ⟨g, 0, none⟩) n cap) n xs) :
    base ≤ g ∧ g < w.heap.size ∧ n ≤ cap ∧ cap ≤ 9223372036854775807 ∧ xs.length = n * E ∧ (∀ o, w.frozen? ⟨g, o, none⟩ = false) ∧ ∀ j u, xs[j]? = some u → w.cell? ⟨g, j, none⟩ = some u := by
  obtain ⟨h0, hv⟩ := h
  rcases hv with ⟨hv, _⟩ | ⟨g', cap', cur, hv, hbg, hg, hnc, hcm, hcz, htake⟩
  · cases hv
  injection hv with hv _ hv3
  injection hv with hv
  injection hv with hv _ _
  subst hv hv3
  refine ⟨hbg, (Array.getElem?_eq_some_iff.1 hg).1, hnc, by unfold maxLen at hcm; exact hcm, h0, fun o => by simp [World.frozen?, hg], fun j u hu => ?_⟩
  rw [← htake, List.getElem?_take] at hu
  split at hu
  · simp only [World.cell?, hg]; simpa using hu
  · cases hu

/-- A row of the call's own with an element is no nil. -/
theorem owns_some {w : World} {base : Nat} {e : TypeId} {E : Nat} {v : Value} {n : Nat} {xs : List Value} (h : w.ownsRow base e E v n xs) (hn : 0 < n) : ∃ g cap, v = .slice (some ⟨g, 0, none⟩) n cap := by
  obtain ⟨_, hv⟩ := h
  rcases hv with ⟨_, hv⟩ | ⟨g, cap, cur, hv, _⟩
  · omega
  · exact ⟨g, cap, hv⟩

/-- What a walk asks of a row of the call's own, nil or not. -/
theorem owns_shape {w : World} {base : Nat} {e : TypeId} {E : Nat} {v : Value} {n : Nat} {xs : List Value} (h : w.ownsRow base e E v n xs) : ∃ ao cap, v = .slice ao n cap ∧ n ≤ cap ∧ cap ≤ 9223372036854775807 := (sl_of_owns h).shape

/-- 'x[k:]' as an equation of runs, its address under a name. -/
theorem run_slice_from {P : Program} (t e : TypeId) (i : TypeInfo) (E : Nat) (hu : P.underlying t = some (.slice e)) (hi : P.info? e = some i) (hsz : i.size = E)
    (g off n cap k : Nat) (K : Int) (hK : K = k) (hk : k ≤ n) (_hn : n ≤ cap) :
    ∃ ao, (k < cap → ao = some ⟨g, off + k * E, none⟩) ∧ ∀ w : World, (Instr.sliceAt t (.slice (some ⟨g, off, none⟩) n cap) (some (.int .i64 K)) none none).run P w = .ok (.slice ao (n - k) (cap - k)) w := by
  subst hK
  refine ⟨if cap = k then some ⟨g, off, none⟩ else (some ⟨g, off, none⟩ : Option Addr).map (·.add (k * i.size)), fun h => ?_, fun w => ?_⟩
  · rw [if_neg (by omega), Option.map_some, Addr.add_lit, hsz]
  · have he : P.elem t = e := by simp [Program.elem, hu]
    have hu' : P.underlying t = some (.slice (P.elem t)) := by rw [he]; exact hu
    have hrun := run_slice_l (P := P) (w := w) t (some ⟨g, off, none⟩) n cap hu' .i64 (k : Int) (by omega) (by omega)
    have hsz' : (sizeOf (P.elem t)).run P w = .ok i.size w := by simp [sizeOf, typeInfo, he, hi]
    simp only [hsz', Result.andThen, sliced, Int.toNat_natCast] at hrun
    simp [Instr.sliceAt, run_underlying hu, hrun]

theorem bcell {W w1 : World} (hb : Below W.heap.size W w1) : (∀ b o, b < W.heap.size → w1.cell? ⟨b, o, none⟩ = W.cell? ⟨b, o, none⟩) ∧ W.heap.size ≤ w1.heap.size :=
  ⟨fun b o h => hb.cell (p := ⟨b, o, none⟩) h, hb.size⟩
theorem held_below {w w' : World} {a : Addr} {x : Value} {B : Nat} (h : w.cell? a = some x) (hb : Below B w w') (hB : a.block < B) : w'.cell? a = some x := by rw [hb.cell hB]; exact h
theorem cell_behind {w0 : World} {a : Addr} {x : Value} (h : w0.cell? a = some x) (hB : a.block < w0.heap.size) : ∀ W, Below w0.heap.size w0 W → W.cell? a = some x := by
  intro W hW
  rw [hW.cell hB]; exact h

end Go.Proofs.Ytckonmlcgfbojaa

namespace Go.Proofs.Ytckonmlcgfbojaa
open Go.RowKit

/-- 'append(out, x...)': out a row of the call's own, x whatever can be read. -/
theorem wpList_append_rd_at {P : Program} {w : World} {ops : Array Oper} {rest : List Oper} {o : Oper} {a : Act} {Q : Exit → Act → World → Prop} (hgd : o.guard = none) (s x : Operand) (t : TypeId)
    (ho : o.op = .call { callee := .builtin .append, args := #[s, x], argTypes := #[t, t] })
    (base : Nat) (e : TypeId) (i : TypeInfo) (z : Value) (size bytes : Nat) (ht : P.underlying t = some (.slice e)) (hi : P.info? e = some i) (hz : i.zero = some z)
    (hsize : i.size = size) (hby : i.bytes = bytes) (hzs : z.cells.size = size) (hsz : 0 < size)
    (v : Value) (n : Nat) (xs : List Value) (hs : a.eval s = v) (hown : w.ownsRow base e size v n xs)
    (ao : Option Addr) (m c : Nat) (news : List Value) (hx : a.eval x = .slice ao m c) (hl : news.length = m * size) (hnews : Rd w ao news) (h1 : ∀ u ∈ news, u.oneCell' = true)
    (h63 : n + m ≤ maxLen) (hbytes : (n + m) * bytes ≤ 140737488355328) (hbase : base ≤ w.heap.size)
    (h : ∀ v' w', w'.ownsRow base e size v' (n + m) (xs ++ news) → w.grownBy w' v.ownBlock → (v'.ownBlock = v.ownBlock ∨ v'.ownBlock = some w.heap.size) → wpList P ops Q rest (a.put o.dst v') w') : wpList P ops Q (o :: rest) a w := by
  rcases ao with _ | ad
  · have hm : news = [] := by
      cases news with
      | nil => rfl
      | cons u r => obtain ⟨a, ha, _⟩ := hnews 0 u rfl; cases ha
    subst hm
    have hm : m = 0 := by
      have : m * size = 0 := by simpa using hl.symm
      rcases Nat.mul_eq_zero.1 this with h | h <;> omega
    subst hm
    refine wpList_plain hgd fun K hK => ?_
    have hrun := run_append_none (P := P) w base t o.type e i size ht hi v n xs hown c
    unfold Oper.wp
    simp [execOp, ho, resolve, invoke, builtin, hs, hx, hrun, Result.andThen]
    exact hK _ _ (h v w (by simpa using hown) (World.grownBy.refl _ _) (.inl rfl))
  · exact wpList_append_own_at _ hgd s x t ho base e i z size bytes ht hi hz hsize hby hzs hsz v n xs hs hown ad m c news hx hl (fun j u hu => by obtain ⟨a', ha, hc⟩ := hnews j u hu; injection ha with ha; subst ha; exact hc) h1 h63 hbytes hbase (fun v' w' h2 h3 _ h4 => h v' w' h2 h3 h4)

end Go.Proofs.Ytckonmlcgfbojaa

namespace Go.Proofs.Ytckonmlcgfbojaa
open Go.RowKit

abbrev Rg := Int × Int

/-- The cells of a list of ranges. -/
def cellsR (l : List Rg) : List Value := l.flatMap fun r => [.int .i64 r.1, .int .i64 r.2]

theorem cellsR_nil : cellsR [] = [] := rfl
theorem cellsR_cons (r : Rg) (l : List Rg) : cellsR (r :: l) = .int .i64 r.1 :: .int .i64 r.2 :: cellsR l := rfl
theorem cellsR_append (a b : List Rg) : cellsR (a ++ b) = cellsR a ++ cellsR b := by simp [cellsR]
theorem cellsR_snoc (a : List Rg) (p q : Int) : cellsR (a ++ [(p, q)]) = cellsR a ++ [.int .i64 p, .int .i64 q] := by simp [cellsR]
theorem length_cellsR (l : List Rg) : (cellsR l).length = l.length * 2 := by
  induction l with
  | nil => rfl
  | cons r l ih => rw [cellsR_cons]; simp [ih]; omega
theorem cellsR_at (l : List Rg) (k : Nat) (hk : k < l.length) : (cellsR l)[k * 2]? = some (.int .i64 l[k].1) ∧ (cellsR l)[k * 2 + 1]? = some (.int .i64 l[k].2) := by
  induction l generalizing k with
  | nil => simp at hk
  | cons r l ih =>
    cases k with
    | zero => simp [cellsR_cons]
    | succ k =>
      have h := ih k (by simpa using hk)
      rw [cellsR_cons]
      have e1 : (k + 1) * 2 = k * 2 + 1 + 1 := by omega
      have e2 : (k + 1) * 2 + 1 = k * 2 + 1 + 1 + 1 := by omega
      rw [e1]
      simpa using h
theorem cellsR_one (l : List Rg) : ∀ u ∈ cellsR l, u.oneCell' = true := by
  intro u hu
  simp only [cellsR, List.mem_flatMap] at hu
  obtain ⟨r, _, h⟩ := hu
  simp at h
  rcases h with rfl | rfl <;> rfl

theorem cellsR_drop (l : List Rg) (k : Nat) : (cellsR l).drop (k * 2) = cellsR (l.drop k) := by
  induction l generalizing k with
  | nil => simp [cellsR]
  | cons r l ih =>
    cases k with
    | zero => simp
    | succ k => rw [cellsR_cons, show (k + 1) * 2 = k * 2 + 1 + 1 from by omega, List.drop_succ_cons, List.drop_succ_cons, ih]; rfl
theorem cellsR_take (l : List Rg) (k : Nat) : (cellsR l).take (k * 2) = cellsR (l.take k) := by
  induction l generalizing k with
  | nil => simp [cellsR]
  | cons r l ih =>
    cases k with
    | zero => simp [cellsR]
    | succ k => rw [cellsR_cons, show (k + 1) * 2 = k * 2 + 1 + 1 from by omega, List.take_succ_cons, List.take_succ_cons, ih]; rfl

/-- v reads as the list of ranges l. -/
def SlR (w : World) (v : Value) (l : List Rg) : Prop := Sl w 2 v l.length (cellsR l)

theorem SlR.keep {w w' : World} {v : Value} {l : List Rg} {B : Nat} (h : SlR w v l) (hb : Below B w w') (hB : w.heap.size ≤ B) : SlR w' v l := Sl.keep h hb hB

theorem SlR.nil (w : World) : SlR w (.slice none 0 0) [] := Sl.nil w 2

theorem SlR.pair {w wr : World} {l : List Rg} {ao : Option Addr} {cap B : Nat} (h : SlR w (.slice ao l.length cap) l) (hb : Below B w wr) (hB : w.heap.size ≤ B) (k : Nat) (hk : k < l.length) :
    ∃ b off, ao = some ⟨b, off, none⟩ ∧ b < w.heap.size ∧ wr.cell? ⟨b, off + k * 2, none⟩ = some (.int .i64 l[k].1) ∧ wr.cell? ⟨b, off + k * 2 + 1, none⟩ = some (.int .i64 l[k].2) := by
  obtain ⟨b, off, h1, h2, h3⟩ := Sl.at h (by rw [length_cellsR]; omega)
  have hx := cellsR_at l k hk
  refine ⟨b, off, h1, h2, ?_, ?_⟩
  · rw [hb.cell (p := ⟨b, off + k * 2, none⟩) (Nat.lt_of_lt_of_le h2 hB)]; exact h3 _ _ hx.1
  · rw [hb.cell (p := ⟨b, off + k * 2 + 1, none⟩) (Nat.lt_of_lt_of_le h2 hB)]; exact h3 _ _ hx.2


/-- Numbers that a row's fields are within. -/
def Small (l : List Rg) : Prop := ∀ r ∈ l, 0 ≤ r.1 ∧ r.1 < r.2 ∧ r.2 ≤ 1073741824

/-- How many numbers. -/
def lenR : List Rg → Int
  | [] => 0
  | r :: l => (r.2 - r.1) + lenR l

theorem lenR_append (a b : List Rg) : lenR (a ++ b) = lenR a + lenR b := by
  induction a with
  | nil => simp [lenR]
  | cons r a ih => simp [lenR, ih]; omega
theorem lenR_bounds (l : List Rg) (h : Small l) : 0 ≤ lenR l ∧ lenR l ≤ l.length * 1073741824 := by
  induction l with
  | nil => simp [lenR]
  | cons r l ih =>
    have h1 := h r (by simp)
    have h2 := ih (fun x hx => h x (by simp [hx]))
    simp only [lenR, List.length_cons]; omega

def hasR (l : List Rg) (n : Int) : Bool := l.any fun r => decide (r.1 ≤ n) && decide (n < r.2)

theorem Small.take {l : List Rg} (h : Small l) (k : Nat) : Small (l.take k) := fun r hr => h r (List.mem_of_mem_take hr)

end Go.Proofs.Ytckonmlcgfbojaa

namespace Go.Proofs.Ytckonmlcgfbojaa

/-- A row: in order, none touching another, within the bounds. -/
def RowP (l : List Rg) : Prop := Small l ∧ l.Pairwise (fun a b => a.2 < b.1)

instance (l : List Rg) : Decidable (RowP l) := by unfold RowP Small; exact inferInstance

theorem RowP.ahead {a b : List Rg} (h : RowP (a ++ b)) : RowP a := ⟨fun r hr => h.1 r (by simp [hr]), (List.pairwise_append.1 h.2).1⟩
theorem RowP.take {l : List Rg} (h : RowP l) (k : Nat) : RowP (l.take k) := RowP.ahead (b := l.drop k) (by rw [List.take_append_drop]; exact h)

theorem rowP_one (x y : Int) : RowP [(x, y)] ↔ 0 ≤ x ∧ x < y ∧ y ≤ 1073741824 := by
  constructor
  · intro h; exact h.1 (x, y) (by simp)
  · intro h; exact ⟨fun r hr => by simp at hr; subst hr; exact h, by simp⟩
theorem rowP_snoc (l : List Rg) (x0 y0 x y : Int) : RowP (l ++ [(x0, y0)] ++ [(x, y)]) ↔ RowP (l ++ [(x0, y0)]) ∧ 0 ≤ x ∧ x < y ∧ y ≤ 1073741824 ∧ y0 < x := by
  constructor
  · intro h
    have h1 := h.1 (x, y) (by simp)
    have h2 := (List.pairwise_append.1 h.2).2.2 (x0, y0) (by simp) (x, y) (by simp)
    exact ⟨h.ahead, h1.1, h1.2.1, h1.2.2, h2⟩
  · rintro ⟨h, h1, h2, h3, h4⟩
    refine ⟨fun r hr => ?_, List.pairwise_append.2 ⟨h.2, by simp, fun a ha b hb => ?_⟩⟩
    · rw [List.mem_append] at hr
      rcases hr with hr | hr
      · exact h.1 r hr
      · simp at hr; subst hr; exact ⟨h1, h2, h3⟩
    · simp at hb; subst hb
      rw [List.mem_append] at ha
      rcases ha with ha | ha
      · have h5 := (List.pairwise_append.1 h.2).2.2 a ha (x0, y0) (by simp)
        have h6 := h.1 (x0, y0) (by simp)
        simp only at h5 h6 ⊢; omega
      · simp at ha; subst ha; exact h4

end Go.Proofs.Ytckonmlcgfbojaa

namespace Go.Proofs.Ytckonmlcgfbojaa
open Go.RowKit

def cellsI (ns : List Int) : List Value := ns.map (Value.int .i64)
/-- v reads as the list of numbers ns. -/
def SlI (w : World) (v : Value) (ns : List Int) : Prop := Sl w 1 v ns.length (cellsI ns)

theorem SlI.cell {w wr : World} {ns : List Int} {ao : Option Addr} {cap B : Nat} (h : SlI w (.slice ao ns.length cap) ns) (hb : Below B w wr) (hB : w.heap.size ≤ B) (k : Nat) (hk : k < ns.length) :
    ∃ b off, ao = some ⟨b, off, none⟩ ∧ b < w.heap.size ∧ wr.cell? ⟨b, off + k, none⟩ = some (.int .i64 ns[k]) := by
  obtain ⟨b, off, h1, h2, h3⟩ := Sl.at h (by simp [cellsI]; omega)
  refine ⟨b, off, h1, h2, ?_⟩
  rw [hb.cell (p := ⟨b, off + k, none⟩) (Nat.lt_of_lt_of_le h2 hB)]
  exact h3 k _ (by simp [cellsI, hk])
theorem SlI.keep {w w' : World} {v : Value} {l : List Int} {B : Nat} (h : SlI w v l) (hb : Below B w w') (hB : w.heap.size ≤ B) : SlI w' v l := Sl.keep h hb hB

def I64 (ns : List Int) : Prop := ∀ a ∈ ns, -9223372036854775808 ≤ a ∧ a ≤ 9223372036854775807

theorem tmod_wrap (a n : Int) (hn : 0 < n) (h : a < 0) : (if a.tmod n < 0 then a.tmod n + n else a.tmod n) = a % n := by
  have h1 := Int.tmod_eq_emod (a := a) (b := n)
  have h2 := Int.emod_nonneg a (show n ≠ 0 by omega)
  have h3 := Int.emod_lt_of_pos a hn
  by_cases hd : n ∣ a
  · have h4 : a % n = 0 := Int.emod_eq_zero_of_dvd hd
    simp [hd] at h1
    rw [h1, h4]; simp
  · have h5 : ¬ 0 ≤ a := by omega
    simp [hd, h5] at h1
    have h6 : (n.natAbs : Int) = n := by omega
    have h7 : a % n ≠ 0 := fun e => hd (Int.dvd_of_emod_eq_zero e)
    rw [h1, h6]
    split <;> omega


end Go.Proofs.Ytckonmlcgfbojaa

namespace Go.Proofs.Ytckonmlcgfbojaa
open Go.RowKit

/-- The cells of a list of things. -/
def cellsT {α : Type} (f : α → List Value) (l : List α) : List Value := l.flatMap f
theorem cellsT_nil {α : Type} (f : α → List Value) : cellsT f [] = [] := rfl
theorem cellsT_cons {α : Type} (f : α → List Value) (x : α) (l : List α) : cellsT f (x :: l) = f x ++ cellsT f l := rfl
theorem cellsT_append {α : Type} (f : α → List Value) (a b : List α) : cellsT f (a ++ b) = cellsT f a ++ cellsT f b := by simp [cellsT]
theorem cellsT_one {α : Type} (f : α → List Value) (x : α) : cellsT f [x] = f x := by simp [cellsT]
theorem cellsT_len {α : Type} {f : α → List Value} {E : Nat} (hE : ∀ x, (f x).length = E) (l : List α) : (cellsT f l).length = l.length * E := by
  induction l with
  | nil => simp [cellsT]
  | cons x l ih => rw [cellsT_cons, List.length_append, hE, ih, List.length_cons, Nat.add_mul]; omega
theorem cellsT_at {α : Type} {f : α → List Value} {E : Nat} (hE : ∀ x, (f x).length = E) (l : List α) (k : Nat) (hk : k < l.length) (j : Nat) (hj : j < E) : (cellsT f l)[k * E + j]? = (f l[k])[j]? := by
  induction l generalizing k with
  | nil => simp at hk
  | cons x l ih =>
    cases k with
    | zero => rw [cellsT_cons, Nat.zero_mul, Nat.zero_add, List.getElem?_append_left (by rw [hE]; exact hj)]; rfl
    | succ k =>
      rw [cellsT_cons, List.getElem?_append_right (by rw [hE, Nat.add_mul]; omega), hE, show (k + 1) * E + j - E = k * E + j by rw [Nat.add_mul]; omega]
      exact ih k (by simpa using hk)
theorem cellsT_drop {α : Type} {f : α → List Value} {E : Nat} (hE : ∀ x, (f x).length = E) (l : List α) (k : Nat) : (cellsT f l).drop (k * E) = cellsT f (l.drop k) := by
  induction l generalizing k with
  | nil => simp [cellsT]
  | cons x l ih =>
    cases k with
    | zero => simp
    | succ k => rw [cellsT_cons, show (k + 1) * E = (f x).length + k * E by rw [hE, Nat.add_mul]; omega, List.drop_append, List.drop_of_length_le (by omega), Nat.add_sub_cancel_left, List.nil_append, ih k, List.drop_succ_cons]
theorem cellsT_take {α : Type} {f : α → List Value} {E : Nat} (hE : ∀ x, (f x).length = E) (l : List α) (k : Nat) : (cellsT f l).take (k * E) = cellsT f (l.take k) := by
  induction l generalizing k with
  | nil => simp [cellsT]
  | cons x l ih =>
    cases k with
    | zero => simp [cellsT]
    | succ k => rw [cellsT_cons, show (k + 1) * E = (f x).length + k * E by rw [hE, Nat.add_mul]; omega, List.take_append, List.take_of_length_le (by omega), Nat.add_sub_cancel_left, ih k, List.take_succ_cons, cellsT_cons]
theorem cellsT_oneCell {α : Type} {f : α → List Value} (h1 : ∀ x, ∀ u ∈ f x, u.oneCell' = true) (l : List α) : ∀ u ∈ cellsT f l, u.oneCell' = true := by
  intro u hu
  simp only [cellsT, List.mem_flatMap] at hu
  obtain ⟨x, _, h⟩ := hu
  exact h1 x u h
/-- One thing's cells are written anew. -/
theorem cellsT_set {α : Type} {f : α → List Value} {E : Nat} (hE : ∀ x, (f x).length = E) (l : List α) (k : Nat) (hk : k < l.length) (y : α) : (cellsT f l).take (k * E) ++ f y ++ (cellsT f l).drop (k * E + E) = cellsT f (l.set k y) := by
  rw [show k * E + E = (k + 1) * E by rw [Nat.add_mul]; omega, cellsT_take hE, cellsT_drop hE, List.set_eq_take_append_cons_drop, if_pos hk, cellsT_append, cellsT_cons]
  simp

/-- v reads as the list of things l. -/
def SlT {α : Type} (f : α → List Value) (E : Nat) (w : World) (v : Value) (l : List α) : Prop := Sl w E v l.length (cellsT f l)
theorem SlT.keep {α : Type} {f : α → List Value} {E : Nat} {w w' : World} {v : Value} {l : List α} {B : Nat} (h : SlT f E w v l) (hb : Below B w w') (hB : w.heap.size ≤ B) : SlT f E w' v l := Sl.keep h hb hB
theorem SlT.nil {α : Type} (f : α → List Value) (E : Nat) (w : World) : SlT f E w (.slice none 0 0) [] := Sl.nil w E
/-- Where the k-th thing lies. -/
theorem SlT.at {α : Type} {f : α → List Value} {E : Nat} {w wr : World} {l : List α} {ao : Option Addr} {cap B : Nat} (h : SlT f E w (.slice ao l.length cap) l) (hE : ∀ x, (f x).length = E) (hp : 0 < E) (hb : Below B w wr) (hB : w.heap.size ≤ B) (k : Nat) (hk : k < l.length) :
    ∃ b off, ao = some ⟨b, off, none⟩ ∧ b < w.heap.size ∧ ∀ j u, (f l[k])[j]? = some u → wr.cell? ⟨b, off + k * E + j, none⟩ = some u := by
  obtain ⟨b, off, h1, h2, h3⟩ := Sl.at h (by rw [cellsT_len hE]; exact Nat.mul_pos (by omega) hp)
  refine ⟨b, off, h1, h2, fun j u hu => ?_⟩
  have hj : j < E := by rw [← hE l[k]]; exact (List.getElem?_eq_some_iff.1 hu).1
  rw [hb.cell (p := ⟨b, off + k * E + j, none⟩) (Nat.lt_of_lt_of_le h2 hB), Nat.add_assoc]
  exact h3 _ _ (by rw [cellsT_at hE l k hk j hj]; exact hu)

/-- Two lists, thing by thing. -/
def All2 {α β : Type} (R : α → β → Prop) : List α → List β → Prop
  | [], [] => True
  | a :: ls1, b :: bs => R a b ∧ All2 R ls1 bs
  | _, _ => False
theorem All2.len {α β : Type} {R : α → β → Prop} : ∀ {ls1 : List α} {bs : List β}, All2 R ls1 bs → ls1.length = bs.length
  | [], [], _ => rfl
  | _ :: _, _ :: _, h => by rw [List.length_cons, List.length_cons, All2.len h.2]
  | [], _ :: _, h => absurd h (by simp [All2])
  | _ :: _, [], h => absurd h (by simp [All2])
theorem All2.at {α β : Type} {R : α → β → Prop} : ∀ {ls1 : List α} {bs : List β}, All2 R ls1 bs → ∀ k (h1 : k < ls1.length) (h2 : k < bs.length), R ls1[k] bs[k]
  | [], [], _, _, h1, _ => absurd h1 (by simp)
  | _ :: _, _ :: _, h, 0, _, _ => h.1
  | _ :: _, _ :: _, h, k + 1, h1, h2 => All2.at h.2 k (by simpa using h1) (by simpa using h2)
  | [], _ :: _, h, _, _, _ => absurd h (by simp [All2])
  | _ :: _, [], h, _, _, _ => absurd h (by simp [All2])
theorem All2.imp {α β : Type} {R S : α → β → Prop} (hRS : ∀ a b, R a b → S a b) : ∀ {ls1 : List α} {bs : List β}, All2 R ls1 bs → All2 S ls1 bs
  | [], [], _ => trivial
  | _ :: _, _ :: _, h => ⟨hRS _ _ h.1, All2.imp hRS h.2⟩
  | [], _ :: _, h => absurd h (by simp [All2])
  | _ :: _, [], h => absurd h (by simp [All2])
theorem All2.append {α β : Type} {R : α → β → Prop} : ∀ {ls1 : List α} {bs : List β} {cs : List α} {ds : List β}, All2 R ls1 bs → All2 R cs ds → All2 R (ls1 ++ cs) (bs ++ ds)
  | [], [], _, _, _, k => k
  | _ :: _, _ :: _, _, _, h, k => ⟨h.1, All2.append h.2 k⟩
  | [], _ :: _, _, _, h, _ => absurd h (by simp [All2])
  | _ :: _, [], _, _, h, _ => absurd h (by simp [All2])
theorem All2.take {α β : Type} {R : α → β → Prop} : ∀ {ls1 : List α} {bs : List β} (k : Nat), All2 R ls1 bs → All2 R (ls1.take k) (bs.take k)
  | _, _, 0, _ => by simp [All2]
  | [], [], _ + 1, _ => trivial
  | _ :: _, _ :: _, k + 1, h => ⟨h.1, All2.take k h.2⟩
  | [], _ :: _, _ + 1, h => absurd h (by simp [All2])
  | _ :: _, [], _ + 1, h => absurd h (by simp [All2])
theorem All2.drop {α β : Type} {R : α → β → Prop} : ∀ {ls1 : List α} {bs : List β} (k : Nat), All2 R ls1 bs → All2 R (ls1.drop k) (bs.drop k)
  | _, _, 0, h => by simpa using h
  | [], [], _ + 1, _ => trivial
  | _ :: _, _ :: _, k + 1, h => All2.drop k h.2
  | [], _ :: _, _ + 1, h => absurd h (by simp [All2])
  | _ :: _, [], _ + 1, h => absurd h (by simp [All2])
theorem All2.set {α β : Type} {R : α → β → Prop} : ∀ {ls1 : List α} {bs : List β} (k : Nat) {a : α} {b : β}, All2 R ls1 bs → R a b → All2 R (ls1.set k a) (bs.set k b)
  | [], [], _, _, _, _, _ => trivial
  | _ :: _, _ :: _, 0, _, _, h, r => ⟨r, h.2⟩
  | _ :: _, _ :: _, k + 1, _, _, h, r => ⟨h.1, All2.set k h.2 r⟩
  | [], _ :: _, _, _, _, h, _ => absurd h (by simp [All2])
  | _ :: _, [], _, _, _, h, _ => absurd h (by simp [All2])

end Go.Proofs.Ytckonmlcgfbojaa

namespace Go.Proofs.Ytckonmlcgfbojaa

/-- A counter. -/
structure Ct where
  key : ByteArray
  coll : Int
  lo : Int
  hi : Int
  start : Int
  up : Int
  down : Int
/-- Rights of a counter. -/
structure Sc where
  key : ByteArray
  up : Int
  down : Int
  uu : Int
  ud : Int
/-- A lease. -/
structure Ls where
  dev : Int
  epoch : Int
  unt : Int
  last : Int
  sl : List Sc
  ids : List Rg
  used : List Int
/-- A book. -/
structure Bk where
  cs : List Ct
  free : List Rg
  ls : List Ls
  bound : List Int
/-- A want. -/
structure Wn where
  key : ByteArray
  up : Int
  down : Int
  ids : Int

instance : DecidableEq Ct := fun a b =>
  if h : a.key = b.key ∧ a.coll = b.coll ∧ a.lo = b.lo ∧ a.hi = b.hi ∧ a.start = b.start ∧ a.up = b.up ∧ a.down = b.down then isTrue (by cases a; cases b; simp_all) else isFalse (fun e => h (by rw [e]; simp))
instance : DecidableEq Sc := fun a b =>
  if h : a.key = b.key ∧ a.up = b.up ∧ a.down = b.down ∧ a.uu = b.uu ∧ a.ud = b.ud then isTrue (by cases a; cases b; simp_all) else isFalse (fun e => h (by rw [e]; simp))
instance : DecidableEq Ls := fun a b =>
  if h : a.dev = b.dev ∧ a.epoch = b.epoch ∧ a.unt = b.unt ∧ a.last = b.last ∧ a.sl = b.sl ∧ a.ids = b.ids ∧ a.used = b.used then isTrue (by cases a; cases b; simp_all) else isFalse (fun e => h (by rw [e]; simp))
instance : DecidableEq Bk := fun a b =>
  if h : a.cs = b.cs ∧ a.free = b.free ∧ a.ls = b.ls ∧ a.bound = b.bound then isTrue (by cases a; cases b; simp_all) else isFalse (fun e => h (by rw [e]; simp))

/-- The place of the first thing that is so; -1. -/
def idxS {α : Type} (p : α → Bool) : List α → Int
  | [] => -1
  | x :: l => if p x then 0 else (if idxS p l = -1 then -1 else idxS p l + 1)
theorem idxS_ge {α : Type} (p : α → Bool) (l : List α) : -1 ≤ idxS p l := by
  induction l with
  | nil => simp [idxS]
  | cons x l ih => unfold idxS; split; omega; split <;> omega
theorem idxS_none {α : Type} {p : α → Bool} {l : List α} (h : ∀ x ∈ l, p x = false) : idxS p l = -1 := by
  induction l with
  | nil => rfl
  | cons x l ih => rw [idxS, h x (by simp), ih (fun y hy => h y (by simp [hy]))]; simp
theorem idxS_at {α : Type} {p : α → Bool} {l : List α} (k : Nat) (hk : k < l.length) (h0 : ∀ j (hj : j < k), p (l[j]'(by omega)) = false) (h1 : p l[k] = true) : idxS p l = k := by
  induction l generalizing k with
  | nil => simp at hk
  | cons x l ih =>
    cases k with
    | zero => rw [idxS, if_pos (by simpa using h1)]; rfl
    | succ k =>
      have hx := h0 0 (by omega)
      have := ih k (by simpa using hk) (fun j hj => by have := h0 (j + 1) (by omega); simpa using this) (by simpa using h1)
      simp only [List.getElem_cons_zero] at hx
      rw [idxS, hx, this]
      simp
/-- What the place tells. -/
theorem idxS_spec {α : Type} (p : α → Bool) (l : List α) : (idxS p l = -1 ∧ ∀ x ∈ l, p x = false) ∨ ∃ k : Nat, ∃ hk : k < l.length, idxS p l = k ∧ p l[k] = true ∧ ∀ j (hj : j < k), p (l[j]'(by omega)) = false := by
  induction l with
  | nil => exact .inl ⟨rfl, by simp⟩
  | cons x l ih =>
    cases hx : p x with
    | true => exact .inr ⟨0, by simp, by simp [idxS, hx], by simpa using hx, fun j hj => by omega⟩
    | false =>
      rcases ih with ⟨h1, h2⟩ | ⟨k, hk, h1, h2, h3⟩
      · refine .inl ⟨by rw [idxS, hx, h1]; simp, fun y hy => ?_⟩
        rcases List.mem_cons.1 hy with rfl | hy
        · exact hx
        · exact h2 y hy
      · refine .inr ⟨k + 1, by simpa using hk, ?_, by simpa using h2, fun j hj => ?_⟩
        · rw [idxS, hx, h1]; simp
        · cases j with
          | zero => simpa using hx
          | succ j => have := h3 j (by omega); simpa using this
theorem idxS_any {α : Type} (p : α → Bool) (l : List α) : decide (0 ≤ idxS p l) = l.any p := by
  rcases idxS_spec p l with ⟨h1, h2⟩ | ⟨k, hk, h1, h2, _⟩
  · rw [h1]
    symm
    have : l.any p = false := by rw [List.any_eq_false]; intro x hx; rw [h2 x hx]; simp
    rw [this]; rfl
  · rw [h1]
    have : l.any p = true := by rw [List.any_eq_true]; exact ⟨l[k], List.getElem_mem hk, h2⟩
    rw [this]; simp

end Go.Proofs.Ytckonmlcgfbojaa

namespace Go.Proofs.Ytckonmlcgfbojaa
open Go.RowKit

def cCt (c : Ct) : List Value := [.string c.key, .int .i64 c.coll, .int .i64 c.lo, .int .i64 c.hi, .int .i64 c.start, .int .i64 c.up, .int .i64 c.down]
def cSc (c : Sc) : List Value := [.string c.key, .int .i64 c.up, .int .i64 c.down, .int .i64 c.uu, .int .i64 c.ud]
def cWn (c : Wn) : List Value := [.string c.key, .int .i64 c.up, .int .i64 c.down, .int .i64 c.ids]
theorem cCt_len (c : Ct) : (cCt c).length = 7 := rfl
theorem cSc_len (c : Sc) : (cSc c).length = 5 := rfl
theorem cWn_len (c : Wn) : (cWn c).length = 4 := rfl
theorem cCt_one (c : Ct) : ∀ u ∈ cCt c, u.oneCell' = true := by intro u hu; simp [cCt] at hu; rcases hu with h | h | h | h | h | h | h <;> subst h <;> rfl
theorem cSc_one (c : Sc) : ∀ u ∈ cSc c, u.oneCell' = true := by intro u hu; simp [cSc] at hu; rcases hu with h | h | h | h | h <;> subst h <;> rfl
theorem cWn_one (c : Wn) : ∀ u ∈ cWn c, u.oneCell' = true := by intro u hu; simp [cWn] at hu; rcases hu with h | h | h | h <;> subst h <;> rfl
abbrev aCt (c : Ct) : Value := .agg #[.string c.key, .int .i64 c.coll, .int .i64 c.lo, .int .i64 c.hi, .int .i64 c.start, .int .i64 c.up, .int .i64 c.down]
abbrev aSc (c : Sc) : Value := .agg #[.string c.key, .int .i64 c.up, .int .i64 c.down, .int .i64 c.uu, .int .i64 c.ud]
abbrev aWn (c : Wn) : Value := .agg #[.string c.key, .int .i64 c.up, .int .i64 c.down, .int .i64 c.ids]

/-- A slice's head. -/
structure Sv where
  ao : Option Addr
  n : Nat
  cap : Nat
abbrev Sv.v (s : Sv) : Value := .slice s.ao s.n s.cap

/-- A lease as it lies: three of its cells are heads of slices. -/
structure LsC where
  dev : Int
  epoch : Int
  unt : Int
  last : Int
  s : Sv
  i : Sv
  u : Sv
def cLs (x : LsC) : List Value := [.int .i64 x.dev, .int .i64 x.epoch, .int .i64 x.unt, .int .i64 x.last, x.s.v, x.i.v, x.u.v]
theorem cLs_len (x : LsC) : (cLs x).length = 7 := rfl
theorem cLs_one (c : LsC) : ∀ u ∈ cLs c, u.oneCell' = true := by intro u hu; simp [cLs] at hu; rcases hu with h | h | h | h | h | h | h <;> subst h <;> rfl
abbrev aLs (x : LsC) : Value := .agg #[.int .i64 x.dev, .int .i64 x.epoch, .int .i64 x.unt, .int .i64 x.last, x.s.v, x.i.v, x.u.v]

abbrev SlCt (w : World) (v : Value) (l : List Ct) : Prop := SlT cCt 7 w v l
abbrev SlSc (w : World) (v : Value) (l : List Sc) : Prop := SlT cSc 5 w v l
abbrev SlWn (w : World) (v : Value) (l : List Wn) : Prop := SlT cWn 4 w v l

/-- A lease as it lies is the lease l. -/
structure LsM (w : World) (x : LsC) (l : Ls) : Prop where
  dev : x.dev = l.dev
  epoch : x.epoch = l.epoch
  unt : x.unt = l.unt
  last : x.last = l.last
  s : SlSc w x.s.v l.sl
  i : SlR w x.i.v l.ids
  u : SlI w x.u.v l.used
theorem LsM.keep {w w' : World} {x : LsC} {l : Ls} {B : Nat} (h : LsM w x l) (hb : Below B w w') (hB : w.heap.size ≤ B) : LsM w' x l :=
  ⟨h.dev, h.epoch, h.unt, h.last, h.s.keep hb hB, SlR.keep h.i hb hB, SlI.keep h.u hb hB⟩
/-- v reads as the leases ls. -/
def SlL (w : World) (v : Value) (ls : List Ls) : Prop := ∃ xs : List LsC, SlT cLs 7 w v xs ∧ All2 (LsM w) xs ls
theorem SlL.keep {w w' : World} {v : Value} {l : List Ls} {B : Nat} (h : SlL w v l) (hb : Below B w w') (hB : w.heap.size ≤ B) : SlL w' v l := by
  obtain ⟨xs, h1, h2⟩ := h
  exact ⟨xs, h1.keep hb hB, h2.imp (fun _ _ r => r.keep hb hB)⟩

/-- A book as it lies. -/
structure BkC where
  c : Sv
  f : Sv
  l : Sv
  b : Sv
abbrev aBk (x : BkC) : Value := .agg #[x.c.v, x.f.v, x.l.v, x.b.v]
structure BkM (w : World) (x : BkC) (b : Bk) : Prop where
  c : SlCt w x.c.v b.cs
  f : SlR w x.f.v b.free
  l : SlL w x.l.v b.ls
  b : SlI w x.b.v b.bound
theorem BkM.keep {w w' : World} {x : BkC} {b : Bk} {B : Nat} (h : BkM w x b) (hb : Below B w w') (hB : w.heap.size ≤ B) : BkM w' x b :=
  ⟨h.c.keep hb hB, SlR.keep h.f hb hB, h.l.keep hb hB, SlI.keep h.b hb hB⟩

/-- A slice's head, out of what reads. -/
theorem Sl.sv {w : World} {E : Nat} {v : Value} {n : Nat} {cs : List Value} (h : Sl w E v n cs) : ∃ s : Sv, v = s.v ∧ s.n = n ∧ n ≤ s.cap ∧ s.cap ≤ 9223372036854775807 := by
  obtain ⟨ao, cap, rfl, h1, h2⟩ := h.shape
  exact ⟨⟨ao, n, cap⟩, rfl, rfl, h1, h2⟩
theorem Sl.lens {w : World} {E : Nat} {s : Sv} {n : Nat} {cs : List Value} (h : Sl w E s.v n cs) : s.n = n ∧ n ≤ s.cap ∧ s.cap ≤ 9223372036854775807 := by
  obtain ⟨ao, cap, he, h1, h2⟩ := h.shape
  injection he with _ e2 e3
  subst e2 e3
  exact ⟨rfl, h1, h2⟩

theorem SlT.ct {w wr : World} {l : List Ct} {ao : Option Addr} {cap B : Nat} (h : SlCt w (.slice ao l.length cap) l) (hb : Below B w wr) (hB : w.heap.size ≤ B) (k : Nat) (hk : k < l.length) :
    ∃ b off, ao = some ⟨b, off, none⟩ ∧ b < w.heap.size ∧ wr.cell? ⟨b, off + k * 7, none⟩ = some (.string l[k].key) ∧ wr.cell? ⟨b, off + k * 7 + 1, none⟩ = some (.int .i64 l[k].coll) ∧ wr.cell? ⟨b, off + k * 7 + 2, none⟩ = some (.int .i64 l[k].lo) ∧
      wr.cell? ⟨b, off + k * 7 + 3, none⟩ = some (.int .i64 l[k].hi) ∧ wr.cell? ⟨b, off + k * 7 + 4, none⟩ = some (.int .i64 l[k].start) ∧ wr.cell? ⟨b, off + k * 7 + 5, none⟩ = some (.int .i64 l[k].up) ∧ wr.cell? ⟨b, off + k * 7 + 6, none⟩ = some (.int .i64 l[k].down) := by
  obtain ⟨b, off, h1, h2, h3⟩ := SlT.at h cCt_len (by omega) hb hB k hk
  exact ⟨b, off, h1, h2, h3 0 _ rfl, h3 1 _ rfl, h3 2 _ rfl, h3 3 _ rfl, h3 4 _ rfl, h3 5 _ rfl, h3 6 _ rfl⟩
theorem SlT.sc {w wr : World} {l : List Sc} {ao : Option Addr} {cap B : Nat} (h : SlSc w (.slice ao l.length cap) l) (hb : Below B w wr) (hB : w.heap.size ≤ B) (k : Nat) (hk : k < l.length) :
    ∃ b off, ao = some ⟨b, off, none⟩ ∧ b < w.heap.size ∧ wr.cell? ⟨b, off + k * 5, none⟩ = some (.string l[k].key) ∧ wr.cell? ⟨b, off + k * 5 + 1, none⟩ = some (.int .i64 l[k].up) ∧ wr.cell? ⟨b, off + k * 5 + 2, none⟩ = some (.int .i64 l[k].down) ∧
      wr.cell? ⟨b, off + k * 5 + 3, none⟩ = some (.int .i64 l[k].uu) ∧ wr.cell? ⟨b, off + k * 5 + 4, none⟩ = some (.int .i64 l[k].ud) := by
  obtain ⟨b, off, h1, h2, h3⟩ := SlT.at h cSc_len (by omega) hb hB k hk
  exact ⟨b, off, h1, h2, h3 0 _ rfl, h3 1 _ rfl, h3 2 _ rfl, h3 3 _ rfl, h3 4 _ rfl⟩
theorem SlT.wn {w wr : World} {l : List Wn} {ao : Option Addr} {cap B : Nat} (h : SlWn w (.slice ao l.length cap) l) (hb : Below B w wr) (hB : w.heap.size ≤ B) (k : Nat) (hk : k < l.length) :
    ∃ b off, ao = some ⟨b, off, none⟩ ∧ b < w.heap.size ∧ wr.cell? ⟨b, off + k * 4, none⟩ = some (.string l[k].key) ∧ wr.cell? ⟨b, off + k * 4 + 1, none⟩ = some (.int .i64 l[k].up) ∧ wr.cell? ⟨b, off + k * 4 + 2, none⟩ = some (.int .i64 l[k].down) ∧
      wr.cell? ⟨b, off + k * 4 + 3, none⟩ = some (.int .i64 l[k].ids) := by
  obtain ⟨b, off, h1, h2, h3⟩ := SlT.at h cWn_len (by omega) hb hB k hk
  exact ⟨b, off, h1, h2, h3 0 _ rfl, h3 1 _ rfl, h3 2 _ rfl, h3 3 _ rfl⟩
theorem SlT.ls {w wr : World} {l : List LsC} {ao : Option Addr} {cap B : Nat} (h : SlT cLs 7 w (.slice ao l.length cap) l) (hb : Below B w wr) (hB : w.heap.size ≤ B) (k : Nat) (hk : k < l.length) :
    ∃ b off, ao = some ⟨b, off, none⟩ ∧ b < w.heap.size ∧ wr.cell? ⟨b, off + k * 7, none⟩ = some (.int .i64 l[k].dev) ∧ wr.cell? ⟨b, off + k * 7 + 1, none⟩ = some (.int .i64 l[k].epoch) ∧ wr.cell? ⟨b, off + k * 7 + 2, none⟩ = some (.int .i64 l[k].unt) ∧
      wr.cell? ⟨b, off + k * 7 + 3, none⟩ = some (.int .i64 l[k].last) ∧ wr.cell? ⟨b, off + k * 7 + 4, none⟩ = some l[k].s.v ∧ wr.cell? ⟨b, off + k * 7 + 5, none⟩ = some l[k].i.v ∧ wr.cell? ⟨b, off + k * 7 + 6, none⟩ = some l[k].u.v := by
  obtain ⟨b, off, h1, h2, h3⟩ := SlT.at h cLs_len (by omega) hb hB k hk
  exact ⟨b, off, h1, h2, h3 0 _ rfl, h3 1 _ rfl, h3 2 _ rfl, h3 3 _ rfl, h3 4 _ rfl, h3 5 _ rfl, h3 6 _ rfl⟩

end Go.Proofs.Ytckonmlcgfbojaa
