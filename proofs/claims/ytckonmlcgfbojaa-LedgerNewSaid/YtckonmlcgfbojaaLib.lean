/- Helper lemmas on worlds and slices of the model: no program in sight. -/
import Derived.WalkKit
import Derived.WalkSpells
import Derived.WalkLawsBesides
import Derived.BigQuiet
import Derived.Lib.Hide
import Derived.Maps.AppendAt
import Derived.BigRegion
import Derived.Deep.RegionLawGrows
import Derived.Deep.RegionHeld3
namespace Go.Proofs.Ytckonmlcgfbojaa
open Go.RowKit

/-- A guard for an arm: the next operation writes slot n. -/
theorem at_slot (n : Nat) {P : Program} {ops : Array Oper} {Q : Exit → Act → World → Prop} {rest : List Oper} {a : Act} {w : World} {op : Op} {t : TypeId} {s : String} {e : Array Edge} {g : Option (Nat × Bool)}
    (h : wpList P ops Q (⟨some n, op, t, s, e, g⟩ :: rest) a w) : wpList P ops Q (⟨some n, op, t, s, e, g⟩ :: rest) a w := h

theorem take_snoc {α : Type} (l : List α) (k : Nat) (h : k < l.length) : l.take (k + 1) = l.take k ++ [l[k]] := by
  rw [List.take_succ_eq_append_getElem h]

theorem ret_int {k : IntKind} {a b : Int} (h : a = b) : Ending.returned (.int k a) = .returned (.int k b) := by rw [h]
theorem ret_bool {a b : Bool} (h : a = b) : Ending.returned (.bool a) = .returned (.bool b) := by rw [h]

theorem below_drewN {B : Nat} {a w : World} (h : Below B a w) (n : Nat) : Below B a (w.drewN n) := ⟨h.os, h.tape, h.output, h.size, h.block⟩

/-- The slice value v of n elements of E cells each reads as the cells cs. -/
structure Sl (w : World) (E : Nat) (v : Value) (n : Nat) (cs : List Value) : Prop where
  len : cs.length = n * E
  val : ∃ ao cap, v = .slice ao n cap ∧ n ≤ cap ∧ cap ≤ maxLen ∧ (ao = none → n = 0 ∧ cap = 0) ∧
    ∀ j u, cs[j]? = some u → ∃ b off, ao = some ⟨b, off, none⟩ ∧ b < w.heap.size ∧ w.cell? ⟨b, off + j, none⟩ = some u

theorem Sl.nil (w : World) (E : Nat) : Sl w E (.slice none 0 0) 0 [] := ⟨by simp, none, 0, rfl, Nat.le_refl _, by unfold maxLen; omega, fun _ => ⟨rfl, rfl⟩, fun j u h => by simp at h⟩

theorem Sl.keep {w w' : World} {E : Nat} {v : Value} {n : Nat} {cs : List Value} {B : Nat} (h : Sl w E v n cs) (hb : Below B w w') (hB : w.heap.size ≤ B) : Sl w' E v n cs := by
  obtain ⟨h0, ao, cap, h1, h2, h3, h4, h5⟩ := h
  refine ⟨h0, ao, cap, h1, h2, h3, h4, fun j u hu => ?_⟩
  obtain ⟨b, off, g1, g2, g3⟩ := h5 j u hu
  refine ⟨b, off, g1, Nat.lt_of_lt_of_le g2 hb.size, ?_⟩
  rw [hb.cell (p := ⟨b, off + j, none⟩) (Nat.lt_of_lt_of_le g2 hB)]
  exact g3

/-- What the call owns reads. -/
theorem sl_of_owns {w : World} {base : Nat} {e : TypeId} {E : Nat} {v : Value} {n : Nat} {xs : List Value} (h : w.ownsRow base e E v n xs) : Sl w E v n xs := by
  obtain ⟨h0, h⟩ := h
  rcases h with ⟨rfl, rfl⟩ | ⟨g, cap, cur, rfl, _, hg, hn, hc, hs, ht⟩
  · refine ⟨h0, none, 0, rfl, Nat.le_refl _, by unfold maxLen; omega, fun _ => ⟨rfl, rfl⟩, fun j u hu => ?_⟩
    have : xs = [] := List.eq_nil_of_length_eq_zero (by simpa using h0)
    subst this
    simp at hu
  · refine ⟨h0, _, cap, rfl, hn, hc, fun ha => by simp at ha, fun j u hu => ⟨g, 0, rfl, (Array.getElem?_eq_some_iff.1 hg).1, ?_⟩⟩
    rw [← ht, List.getElem?_take] at hu
    split at hu
    · simp only [World.cell?, hg]; simpa using hu
    · cases hu

/-- The cells of a slice, opened for a walk: its address is a variable till an element is asked for. -/
theorem Sl.at {w : World} {E : Nat} {n : Nat} {cs : List Value} {ao : Option Addr} {cap : Nat} (h : Sl w E (.slice ao n cap) n cs) (hn : 0 < cs.length) :
    ∃ b off, ao = some ⟨b, off, none⟩ ∧ b < w.heap.size ∧ ∀ j u, cs[j]? = some u → w.cell? ⟨b, off + j, none⟩ = some u := by
  obtain ⟨h0, ao', cap', h1, h2, h3, h4, h5⟩ := h
  injection h1 with h1 _ h1c
  subst h1 h1c
  obtain ⟨b, off, rfl, g2, _⟩ := h5 0 cs[0] (by simp [hn])
  refine ⟨b, off, rfl, g2, fun j u hu => ?_⟩
  obtain ⟨b', off', hab, _, hc⟩ := h5 j u hu
  injection hab with hab
  injection hab with h1 h2
  subst h1 h2
  exact hc

theorem Sl.shape {w : World} {E : Nat} {v : Value} {n : Nat} {cs : List Value} (h : Sl w E v n cs) : ∃ ao cap, v = .slice ao n cap ∧ n ≤ cap ∧ cap ≤ 9223372036854775807 := by
  obtain ⟨_, ao, cap, h1, h2, h3, _, _⟩ := h
  exact ⟨ao, cap, h1, h2, by unfold maxLen at h3; omega⟩

/-- 'copy' into a row that is known whole, elements of any number of cells. -/
theorem run_copy_wide {P : Program} (w : World) (dT sT ty elem : TypeId) (i : TypeInfo) (g o dLen dCap : Nat) (ao : Option Addr) (sLen sCap : Nat) (cur : Array Value) (t : TypeId) (cs : List Value)
    (hu : P.underlying dT = some (.slice elem)) (hi : P.info? elem = some i)
    (hg : w.heap[g]? = some (.cells cur t (0, 0))) (hn : cs.length = Nat.min sLen dLen * i.size)
    (hsrc : ∀ j v, cs[j]? = some v → ∃ a, ao = some a ∧ w.cell? (a.add j) = some v) (hfit : o + cs.length ≤ cur.size) (h1 : ∀ v ∈ cs, v.oneCell' = true) :
    (Builtin.copy_ #[dT, sT] ty #[.slice (some ⟨g, o, none⟩) dLen dCap, .slice ao sLen sCap]).run P w =
      .ok (goInt (Nat.min sLen dLen)) (w.setRow g (cur.toList.take o ++ cs ++ cur.toList.drop (o + cs.length)).toArray) := by
  have hst := run_storeCells_at P g o t cs 0 cur w hg (by simpa using hfit) h1
  simp only [Nat.add_zero] at hst
  have hload : (Builtin.firstCells i.size (Nat.min sLen dLen) (.slice ao sLen sCap)).run P w = .ok cs.toArray w := by
    rcases ao with _ | a
    · cases cs with
      | nil => simp [Builtin.firstCells]
      | cons c cs => obtain ⟨a, ha, _⟩ := hsrc 0 c rfl; cases ha
    · have hl := run_loadCells_list (P := P) w a cs (fun j v hv => by obtain ⟨a', ha, h⟩ := hsrc j v hv; injection ha with ha; subst ha; exact h)
      simp only [Builtin.firstCells, ← hn, hl]
  simp [Builtin.copy_, run_underlying hu, Builtin.lenOf, sizeOf, typeInfo, hi, hload, hst]

/-- 'copy(dst, src)' of a whole slice into a row of the call's own that is as long. -/
theorem wpList_copy_all {P : Program} {w : World} {ops : Array Oper} {rest : List Oper} {o : Oper} {a : Act} {Q : Exit → Act → World → Prop} (hgd : o.guard = none) (d s : Operand) (dT sT : TypeId)
    (ho : o.op = .call { callee := .builtin .copy, args := #[d, s], argTypes := #[dT, sT] }) (base : Nat) (e : TypeId) (i : TypeInfo) (E : Nat) (hu : P.underlying dT = some (.slice e)) (hi : P.info? e = some i) (hsz : i.size = E)
    (g n cap : Nat) (xs : List Value) (hd : a.eval d = .slice (some ⟨g, 0, none⟩) n cap) (hown : w.ownsRow base e E (.slice (some ⟨g, 0, none⟩) n cap) n xs)
    (ao : Option Addr) (scap : Nat) (cs : List Value) (hs : a.eval s = .slice ao n scap) (hsl : Sl w E (.slice ao n scap) n cs) (h1 : ∀ v ∈ cs, v.oneCell' = true)
    (h : ∀ w', w'.ownsRow base e E (.slice (some ⟨g, 0, none⟩) n cap) n cs → w.grownBy w' (some g) → wpList P ops Q rest (a.put o.dst (goInt n)) w') : wpList P ops Q (o :: rest) a w := by
  refine wpList_plain hgd fun K hK => ?_
  obtain ⟨h0, hv⟩ := hown
  rcases hv with ⟨hv, _⟩ | ⟨g', cap', cur, hv, hbg, hg, hnc, hcm, hcs, htake⟩
  · cases hv
  injection hv with hv _ hv3
  injection hv with hv
  injection hv with hv _ _
  subst hv hv3
  obtain ⟨hl, ao', cap', hv', _, _, _, hx⟩ := hsl
  injection hv' with hv' _ _
  subst hv'
  have hmin : Nat.min n n = n := Nat.min_self n
  have hle : n * E ≤ cap * E := Nat.mul_le_mul_right _ hnc
  have hrun := run_copy_wide (P := P) w dT sT o.type e i g 0 n cap ao n scap cur e cs hu hi hg (by rw [hmin, hsz]; exact hl)
    (fun j v hj => by
      obtain ⟨b, off, hab, _, hc⟩ := hx j v hj
      exact ⟨_, hab, by rw [Addr.add_lit]; exact hc⟩) (by omega) h1
  rw [hmin] at hrun
  unfold Oper.wp
  simp [execOp, ho, resolve, invoke, builtin, hd, hs, hrun, Result.andThen]
  refine hK _ _ (h _ ⟨hl, .inr ⟨g, cap, _, rfl, hbg, setRow_heap w g cur _ e _ hg, hnc, hcm, ?_, ?_⟩⟩ ⟨rfl, rfl, rfl, by simp [World.setRow], fun k hk hne => setRow_other w g k _ (fun h => hne (by rw [h]))⟩)
  · simp; omega
  · simp [← hl]

/-- A block of two cells: what a variable of a struct of two fields is. -/
theorem two_cells {w : World} {b : Nat} {x y : Value} {t : TypeId} (h : w.heap[b]? = some (.cells #[x, y] t (0, 0))) :
    w.cell? ⟨b, 0, none⟩ = some x ∧ w.cell? ⟨b, 1, none⟩ = some y ∧ w.frozen? ⟨b, 0, none⟩ = false ∧ w.frozen? ⟨b, 1, none⟩ = false ∧ b < w.heap.size := by
  refine ⟨?_, ?_, ?_, ?_, (Array.getElem?_eq_some_iff.1 h).1⟩ <;> simp [World.cell?, World.frozen?, h]

/-- Both cells of such a block written. -/
theorem set_two {w : World} {b : Nat} {x y : Value} {t : TypeId} (h : w.heap[b]? = some (.cells #[x, y] t (0, 0))) (u v : Value) :
    ((w.setCell ⟨b, 0, none⟩ u).setCell ⟨b, 1, none⟩ v).heap[b]? = some (.cells #[u, v] t (0, 0)) := by
  simp [World.setCell, Array.getElem?_modify, h]

/-- A block below what a row's law may turn is as it was. -/
theorem grown_block {w w' : World} {row : Option Nat} (hg : w.grownBy w' row) {b B : Nat} (hb : b < w.heap.size) (hB : b < B) (hr : ∀ k, row = some k → B ≤ k) : w'.heap[b]? = w.heap[b]? :=
  hg.block b hb (fun e => by have := hr b e.symm; omega)

theorem owns_ge {w : World} {base : Nat} {e : TypeId} {size : Nat} {v : Value} {n : Nat} {xs : List Value} (h : w.ownsRow base e size v n xs) : ∀ k, v.ownBlock = some k → base ≤ k := fun k hk => (h.lt k hk).1

theorem owns_drewN {w : World} {base : Nat} {e : TypeId} {size : Nat} {v : Value} {n : Nat} {xs : List Value} (h : w.ownsRow base e size v n xs) (k : Nat) : (w.drewN k).ownsRow base e size v n xs := h

theorem cells_two_new (w : World) (x y : Value) (t : TypeId) : ∀ j u, [x, y][j]? = some u → (w.alloc (.cells #[x, y] t)).cell? ((⟨w.heap.size, 0, none⟩ : Addr).add j) = some u := by
  intro j u hu
  rw [Addr.add_lit, World.cell?, show (w.alloc (.cells #[x, y] t)).heap[(⟨w.heap.size, 0 + j, none⟩ : Addr).block]? = _ from heap_alloc_new w _]
  simpa using hu

theorem cells_two_at (w : World) (b : Nat) (x y : Value) (t : TypeId) (hb : w.heap.size = b) : ∀ j u, [x, y][j]? = some u → (w.alloc (.cells #[x, y] t)).cell? ((⟨b, 0, none⟩ : Addr).add j) = some u := by
  subst hb; exact cells_two_new w x y t

/-- The cells cs lie at the address ao (none: there are none). -/
def Rd (w : World) (ao : Option Addr) (cs : List Value) : Prop := ∀ j u, cs[j]? = some u → ∃ a, ao = some a ∧ w.cell? (a.add j) = some u

theorem Sl.rd {w : World} {E : Nat} {n : Nat} {cs : List Value} {ao : Option Addr} {cap : Nat} (h : Sl w E (.slice ao n cap) n cs) : Rd w ao cs := by
  intro j u hu
  obtain ⟨hl, ao', cap', h1, _, _, _, h5⟩ := h
  injection h1 with h1 _ _
  subst h1
  obtain ⟨b, off, hab, _, hc⟩ := h5 j u hu
  exact ⟨_, hab, by rw [Addr.add_lit]; exact hc⟩

theorem Rd.keep {w w' : World} {ao : Option Addr} {cs : List Value} {B : Nat} (h : Rd w ao cs) (hb : Below B w w') (hB : w.heap.size ≤ B) : Rd w' ao cs := by
  intro j u hu
  obtain ⟨a, ha, hc⟩ := h j u hu
  refine ⟨a, ha, ?_⟩
  have hlt := World.block_lt_of_cell? w _ hc
  rw [hb.cell (Nat.lt_of_lt_of_le hlt hB)]; exact hc

theorem add_add' (a : Addr) (i j : Nat) : (a.add i).add j = a.add (i + j) := by
  unfold Addr.add
  by_cases hi : i = 0 <;> by_cases hj : j = 0 <;> simp [hi, hj, Nat.add_assoc]

theorem Rd.drop {w : World} {ao : Option Addr} {cs : List Value} (h : Rd w ao cs) (k : Nat) : Rd w (ao.map (·.add k)) (cs.drop k) := by
  intro j u hu
  rw [List.getElem?_drop] at hu
  obtain ⟨a, rfl, hc⟩ := h _ u hu
  exact ⟨_, rfl, by rw [add_add']; exact hc⟩
theorem Rd.take {w : World} {ao : Option Addr} {cs : List Value} (h : Rd w ao cs) (k : Nat) : Rd w ao (cs.take k) := by
  intro j u hu
  rw [List.getElem?_take] at hu
  split at hu
  · exact h j u hu
  · cases hu
theorem Rd.nil (w : World) (ao : Option Addr) : Rd w ao [] := fun _ _ h => by simp at h

theorem Rd.drewN_alloc {w : World} {ao : Option Addr} {cs : List Value} (h : Rd w ao cs) (n : Nat) (o : Obj) : Rd ((w.drewN n).alloc o) ao cs :=
  h.keep ((below_drewN (Below.refl w.heap.size w) n).alloc (Nat.le_refl _) o) (Nat.le_refl _)
theorem Rd.alloc {w : World} {ao : Option Addr} {cs : List Value} (h : Rd w ao cs) (o : Obj) : Rd (w.alloc o) ao cs :=
  h.keep ((Below.refl w.heap.size w).alloc (Nat.le_refl _) o) (Nat.le_refl _)

theorem Rd.at_drop {w : World} {b off : Nat} {cs : List Value} (h : Rd w (some ⟨b, off, none⟩) cs) (k : Nat) : Rd w (some ⟨b, off + k, none⟩) (cs.drop k) := by
  have := h.drop k
  simpa [Addr.add_lit] using this

theorem owns_keep {w w' : World} {base B : Nat} {e : TypeId} {size : Nat} {v : Value} {n : Nat} {xs : List Value} (h : w.ownsRow base e size v n xs) (hb : Below B w w') (hB : w.heap.size ≤ B) : w'.ownsRow base e size v n xs := by
  obtain ⟨h1, h2⟩ := h
  refine ⟨h1, ?_⟩
  rcases h2 with h2 | ⟨g, cap, cur, hv, hg, hh, r⟩
  · exact Or.inl h2
  · exact Or.inr ⟨g, cap, cur, hv, hg, by rw [hb.block g (Nat.lt_of_lt_of_le (Array.getElem?_eq_some_iff.1 hh).1 hB)]; exact hh, r⟩

/-- Two rows of the call's own that share no block. -/
def Apart (v v' : Value) : Prop := ∀ g, v.ownBlock = some g → v'.ownBlock = some g → False

theorem apart_nil (v : Value) : Apart (.slice none 0 0) v := fun g h => by simp [Value.ownBlock] at h
theorem apart_nil' (v : Value) : Apart v (.slice none 0 0) := fun g _ h => by simp [Value.ownBlock] at h
theorem Apart.symm {v v' : Value} (h : Apart v v') : Apart v' v := fun g a b => h g b a
theorem Apart.kept {w w' : World} {base : Nat} {e : TypeId} {size : Nat} {v v' : Value} {n : Nat} {xs : List Value} (h : Apart v v') (ho : w.ownsRow base e size v' n xs) (hg : w.grownBy w' v.ownBlock) : w'.ownsRow base e size v' n xs := by
  refine ho.kept hg ?_
  cases hv : v'.ownBlock with
  | none => exact .inl rfl
  | some g => exact .inr fun e => h g e.symm hv
/-- What v has become lies apart still. -/
theorem Apart.step {w : World} {base : Nat} {e : TypeId} {size : Nat} {v v1 v' : Value} {n : Nat} {xs : List Value} (h : Apart v v') (ho : w.ownsRow base e size v' n xs) (hat : v1.ownBlock = v.ownBlock ∨ v1.ownBlock = some w.heap.size) : Apart v1 v' := by
  intro g h1 h2
  rcases hat with hat | hat
  · exact h g (hat ▸ h1) h2
  · rw [hat] at h1
    injection h1 with h1
    have := (ho.lt g h2).2
    omega

/-- A block that was laid behind what is owned is not turned by an append to it. -/
theorem kept_new {wr w1 : World} {base : Nat} {e : TypeId} {size : Nat} {v : Value} {n : Nat} {xs : List Value} (ho : wr.ownsRow base e size v n xs) {o1 o2 : Obj} (hg : ((wr.alloc o1).alloc o2).grownBy w1 v.ownBlock) : w1.heap[wr.heap.size]? = some o1 := by
  rw [hg.block wr.heap.size (by simp; omega) (fun h => by have := (ho.lt _ h.symm).2; omega), Below.heap_alloc _ _ _ (by simp), heap_alloc_new]

theorem run_append_none {P : Program} (w : World) (base : Nat) (t ty e : TypeId) (i : TypeInfo) (size : Nat) (ht : P.underlying t = some (.slice e)) (hi : P.info? e = some i)
    (v : Value) (n : Nat) (xs : List Value) (hown : w.ownsRow base e size v n xs) (c : Nat) :
    (Builtin.append_ #[t, t] ty #[v, .slice none 0 c]).run P w = .ok v w := by
  rcases hown.2 with ⟨rfl, rfl⟩ | ⟨g, cap, cur, rfl, _, _, hnc, _⟩
  · simp [Builtin.append_, run_underlying ht, sizeOf, typeInfo, hi, Builtin.lenOf, Builtin.firstCells]
  · simp [Builtin.append_, run_underlying ht, sizeOf, typeInfo, hi, Builtin.lenOf, Builtin.firstCells, hnc, storeCells]

/-- 'append(out, x...)': out a row of the call's own, x whatever can be read. -/
theorem wpList_append_rd {P : Program} {w : World} {ops : Array Oper} {rest : List Oper} {o : Oper} {a : Act} {Q : Exit → Act → World → Prop} (hgd : o.guard = none) (s x : Operand) (t : TypeId)
    (ho : o.op = .call { callee := .builtin .append, args := #[s, x], argTypes := #[t, t] })
    (base : Nat) (e : TypeId) (i : TypeInfo) (z : Value) (size bytes : Nat) (ht : P.underlying t = some (.slice e)) (hi : P.info? e = some i) (hz : i.zero = some z)
    (hsize : i.size = size) (hby : i.bytes = bytes) (hzs : z.cells.size = size) (hsz : 0 < size)
    (v : Value) (n : Nat) (xs : List Value) (hs : a.eval s = v) (hown : w.ownsRow base e size v n xs)
    (ao : Option Addr) (m c : Nat) (news : List Value) (hx : a.eval x = .slice ao m c) (hl : news.length = m * size) (hnews : Rd w ao news) (h1 : ∀ u ∈ news, u.oneCell' = true)
    (h63 : n + m ≤ maxLen) (hbytes : (n + m) * bytes ≤ 140737488355328) (hbase : base ≤ w.heap.size)
    (h : ∀ v' w', w'.ownsRow base e size v' (n + m) (xs ++ news) → w.grownBy w' v.ownBlock → wpList P ops Q rest (a.put o.dst v') w') : wpList P ops Q (o :: rest) a w := by
  rcases ao with _ | ad
  · have hm : news = [] := by
      cases news with
      | nil => rfl
      | cons u r => obtain ⟨a, ha, _⟩ := hnews 0 u rfl; cases ha
    subst hm
    have hm : m = 0 := by
      have : m * size = 0 := by simpa using hl.symm
      rcases Nat.mul_eq_zero.1 this with h | h <;> omega
    subst hm
    refine wpList_plain hgd fun K hK => ?_
    have hrun := run_append_none (P := P) w base t o.type e i size ht hi v n xs hown c
    unfold Oper.wp
    simp [execOp, ho, resolve, invoke, builtin, hs, hx, hrun, Result.andThen]
    exact hK _ _ (h v w (by simpa using hown) (World.grownBy.refl _ _))
  · exact wpList_append_own _ hgd s x t ho base e i z size bytes ht hi hz hsize hby hzs hsz v n xs hs hown ad m c news hx hl (fun j u hu => by obtain ⟨a', ha, hc⟩ := hnews j u hu; injection ha with ha; subst ha; exact hc) h1 h63 hbytes hbase (fun v' w' h2 h3 _ => h v' w' h2 h3)

theorem owns_base {w : World} {base base' : Nat} {e : TypeId} {size : Nat} {v : Value} {n : Nat} {xs : List Value} (h : w.ownsRow base e size v n xs) (hb : base' ≤ base) : w.ownsRow base' e size v n xs := by
  obtain ⟨h1, h2⟩ := h
  refine ⟨h1, ?_⟩
  rcases h2 with h2 | ⟨g, cap, cur, hv, hg, hh, r⟩
  · exact Or.inl h2
  · exact Or.inr ⟨g, cap, cur, hv, Nat.le_trans hb hg, hh, r⟩

end Go.Proofs.Ytckonmlcgfbojaa
