/- Plain: what a want asks for, and gets. The walk of want: its checks. -/
import Derived.Test.YtckonmlcgfbojaaLGb
import Derived.Test.YtckonmlcgfbojaaLSd
import Derived.Test.YtckonmlcgfbojaaHeld
import Derived.StillTailTactics
import Derived.IntWalk
namespace Go.Proofs.Ytckonmlcgfbojaa
open Go.RowKit

def zCt : Ct := ⟨⟨#[]⟩, 0, 0, 0, 0, 0, 0⟩
def emp (s : ByteArray) : Bool := s.toList.isEmpty
def wnB (w : Wn) : Bool := (decide (0 ≤ w.up) && decide (w.up ≤ 2199023255552)) && ((decide (0 ≤ w.down) && decide (w.down ≤ 2199023255552)) && (decide (0 ≤ w.ids) && decide (w.ids ≤ 50)))
/-- The counter of a want. -/
def wnCt (b : Bk) (w : Wn) : Ct := b.cs.getD (ctIx b.cs w.key).toNat zCt
/-- What is wrong with a want, but for the pool. -/
def wantC (b : Bk) (w : Wn) : Int :=
  if wnB w = false then 1 else
  if ctIx b.cs w.key < 0 ∧ emp w.key = false then 2 else
  if emp w.key = true ∧ 0 < w.up + w.down then 1 else
  if emp w.key = false ∧ ((wnCt b w).up < w.up ∨ (wnCt b w).down < w.down) then 14 else 0
def wantE (b : Bk) (w : Wn) : Int := if wantC b w = 0 then (if lenR b.free < w.ids then 14 else 0) else wantC b w
def wantB (b : Bk) (w : Wn) : Bk :=
  ⟨if emp w.key = true then b.cs else b.cs.set (ctIx b.cs w.key).toNat ⟨(wnCt b w).key, (wnCt b w).coll, (wnCt b w).lo, (wnCt b w).hi, (wnCt b w).start, (wnCt b w).up - w.up, (wnCt b w).down - w.down⟩, (takeS b.free w.ids).2, b.ls, b.bound⟩
def wantL (b : Bk) (l : Ls) (w : Wn) : Ls :=
  ⟨l.dev, l.epoch, l.unt, l.last, if emp w.key = true then l.sl else l.sl ++ [⟨w.key, w.up, w.down, 0, 0⟩], addAll l.ids (takeS b.free w.ids).1, l.used⟩

theorem length_takeS (l : List Rg) : ∀ n, (takeS l n).1.length ≤ l.length ∧ (takeS l n).2.length ≤ l.length := by
  induction l with
  | nil => intro n; simp [takeS]
  | cons r l ih =>
    intro n
    unfold takeS
    split
    · simp
    · split
      · simp
      · have := ih (n - (r.2 - r.1))
        simp
        omega

/-- 'append' to a row of the call's own as one operation. -/
theorem wp_append_own {P : Program} {o : Oper} {a : Act} {w : World} {K : Act → World → Prop} {Q : Exit → Act → World → Prop}
    (s x : Operand) (t : TypeId) (hop : o.op = Op.call { callee := Callee.builtin Builtin.append, args := #[s, x], argTypes := #[t, t] })
    (base : Nat) (e : TypeId) (i : TypeInfo) (z : Value) (size bytes : Nat) (ht : P.underlying t = some (.slice e)) (hi : P.info? e = some i) (hz : i.zero = some z)
    (hsize : i.size = size) (hby : i.bytes = bytes) (hzs : z.cells.size = size) (hsz : 0 < size)
    (v : Value) (n : Nat) (xs : List Value) (hs : a.eval s = v) (hown : w.ownsRow base e size v n xs)
    (ad : Addr) (m c : Nat) (news : List Value) (hx : a.eval x = .slice (some ad) m c) (hl : news.length = m * size) (hnews : ∀ j u, news[j]? = some u → w.cell? (ad.add j) = some u) (h1 : ∀ u ∈ news, u.oneCell' = true)
    (h63 : n + m ≤ maxLen) (hbytes : (n + m) * bytes ≤ 140737488355328) (hbase : base ≤ w.heap.size)
    (hK : ∀ v' w', w'.ownsRow base e size v' (n + m) (xs ++ news) → w.grownBy w' v.ownBlock → (v'.ownBlock = v.ownBlock ∨ v'.ownBlock = some w.heap.size) → K (a.put o.dst v') w') : Oper.wp P o a w K Q := by
  obtain ⟨v', w', hr, h2, h3, _, h5⟩ := run_append_own_at (P := P) w base t o.type e i z size bytes ht hi hz hsize hby hzs hsz v n xs hown ad m c news hl hnews h1 h63 hbytes hbase
  unfold Oper.wp execOp
  simp only [hop, resolve, invoke, builtin, Sem.run_bind, Sem.run_pure, Result.andThen_ok, List.map_toArray, List.map_cons, List.map_nil, hs, hx, hr]
  exact hK v' w' h2 h3 h5

/-- What want asks of a book and a lease. -/
structure WtB (b : Bk) (l : Ls) : Prop where
  nc : b.cs.length < 1000
  nf : b.free.length < 10000
  ni : l.ids.length < 100000
  ns : l.sl.length < 1000
  small : Small b.free
  ct : ∀ c ∈ b.cs, 0 ≤ c.up ∧ c.up ≤ 2199023255552 ∧ 0 ≤ c.down ∧ c.down ≤ 2199023255552

def RetWant (B D pb pl : Nat) (w0 : World) (b : Bk) (l : Ls) (xs : List LsC) (w : Wn) (e : Ending) (w' : World) : Prop :=
  e = .returned (.int .i64 (wantE b w)) ∧ Below B w0 w' ∧ (wantE b w = 0 → ∃ x' y', Gr B D pb pl w0 w' x' (wantB b w) xs y' (wantL b l w))

theorem emp_no {s : ByteArray} (h : emp s = false) : s.toList.isEmpty = false ∧ ¬ s.toList = [] := by
  unfold emp at h
  exact ⟨h, fun e => by rw [e] at h; cases h⟩
theorem emp_yes {s : ByteArray} (h : emp s = true) : s = ⟨#[]⟩ := by
  unfold emp at h
  have h1 : s.toList = [] := List.isEmpty_iff.1 h
  rw [ByteArray.toList_eq] at h1
  exact ByteArray.ext (Array.toList_inj.1 h1)

theorem wantC_arg {b : Bk} {w : Wn} (h : wnB w = false) : wantC b w = 1 := by unfold wantC; rw [if_pos h]
theorem wantC_none {b : Bk} {w : Wn} (h : wnB w = true) (h1 : ctIx b.cs w.key < 0) (h2 : emp w.key = false) : wantC b w = 2 := by unfold wantC; rw [if_neg (by rw [h]; simp), if_pos ⟨h1, h2⟩]
theorem wantC_both {b : Bk} {w : Wn} (h : wnB w = true) (h1 : emp w.key = true) (h2 : 0 < w.up + w.down) : wantC b w = 1 := by unfold wantC; rw [if_neg (by rw [h]; simp), if_neg (by rw [h1]; simp), if_pos ⟨h1, h2⟩]
theorem wantC_few {b : Bk} {w : Wn} (h : wnB w = true) (h0 : ¬ ctIx b.cs w.key < 0) (h1 : emp w.key = false) (h2 : (wnCt b w).up < w.up ∨ (wnCt b w).down < w.down) : wantC b w = 14 := by unfold wantC; rw [if_neg (by rw [h]; simp), if_neg (fun e => h0 e.1), if_neg (by rw [h1]; simp), if_pos ⟨h1, h2⟩]
theorem wantC_ok_e {b : Bk} {w : Wn} (h : wnB w = true) (h1 : emp w.key = true) (h2 : ¬ 0 < w.up + w.down) : wantC b w = 0 := by unfold wantC; rw [if_neg (by rw [h]; simp), if_neg (by rw [h1]; simp), if_neg (fun e => h2 e.2), if_neg (by rw [h1]; simp)]
theorem wantC_ok_k {b : Bk} {w : Wn} (h : wnB w = true) (h0 : ¬ ctIx b.cs w.key < 0) (h1 : emp w.key = false) (h2 : ¬ (wnCt b w).up < w.up) (h3 : ¬ (wnCt b w).down < w.down) : wantC b w = 0 := by unfold wantC; rw [if_neg (by rw [h]; simp), if_neg (fun e => h0 e.1), if_neg (by rw [h1]; simp), if_neg (fun e => by rcases e.2 with e | e; exact h2 e; exact h3 e)]
theorem wantC_zero {b : Bk} {w : Wn} (h : wantC b w = 0) : wnB w = true ∧ (emp w.key = true ∨ (emp w.key = false ∧ ¬ ctIx b.cs w.key < 0 ∧ ¬ (wnCt b w).up < w.up ∧ ¬ (wnCt b w).down < w.down)) := by
  unfold wantC at h
  split at h
  · omega
  · split at h
    · omega
    · split at h
      · omega
      · split at h
        · omega
        · rename_i h1 h2 h3 h4
          refine ⟨by simpa using h1, ?_⟩
          cases he : emp w.key with
          | true => exact .inl rfl
          | false =>
            refine .inr ⟨rfl, fun e => h2 ⟨e, he⟩, fun e => h4 ⟨he, .inl e⟩, fun e => h4 ⟨he, .inr e⟩⟩
theorem wnB_bd {w : Wn} (h : wnB w = true) : (0 ≤ w.up ∧ w.up ≤ 2199023255552) ∧ (0 ≤ w.down ∧ w.down ≤ 2199023255552) ∧ 0 ≤ w.ids ∧ w.ids ≤ 50 := by
  unfold wnB at h
  simpa only [Bool.and_eq_true, decide_eq_true_iff] using h
theorem size_set2 (w : World) (p q : Addr) (x y : Value) : ((w.setCell p x).setCell q y).heap.size = w.heap.size := by simp [World.setCell]
theorem cells_new (w : World) (b : Nat) (hb : w.heap.size = b) (cs : List Value) (t : TypeId) : ∀ j u, cs[j]? = some u → (w.alloc (.cells cs.toArray t)).cell? ((⟨b, 0, none⟩ : Addr).add j) = some u := fun j u hu => by
  obtain ⟨a, ha, hc⟩ := rd_new w b hb cs t j u hu
  injection ha with ha
  subst ha
  exact hc
theorem want_app {B D pb pl : Nat} {w0 W w3 : World} {x : BkC} {b : Bk} {xs : List LsC} {y : LsC} {l : Ls} {k : ByteArray} {u d : Int} {ao : Option Addr} {c : Nat} (h : Gr B D pb pl w0 W x b xs y l)
    (ho : w3.ownsRow D 51 5 (.slice ao (l.sl.length + 1) c) (l.sl.length + 1) (cellsT cSc l.sl ++ [.string k, .int .i64 u, .int .i64 d, .int .i64 0, .int .i64 0])) (hg : W.grownBy w3 y.s.v.ownBlock) (hD : D ≤ W.heap.size) :
    Gr B D pb pl w0 (w3.setCell ⟨pl, 4, none⟩ (.slice ao (l.sl.length + 1) c)) x b xs ⟨y.dev, y.epoch, y.unt, y.last, ⟨ao, l.sl.length + 1, c⟩, y.i, y.u⟩ ⟨l.dev, l.epoch, l.unt, l.last, l.sl ++ [⟨k, u, d, 0, 0⟩], l.ids, l.used⟩ ∧
      (∀ (q : Nat) (cur : Array Value) (T : TypeId) (z : Nat × Nat), W.heap[q]? = some (Obj.cells cur T z) → T ≠ 51 → w3.heap[q]? = some (Obj.cells cur T z)) ∧ w3.frozen? ⟨pl, 4, none⟩ = false := by
  have ho' : w3.ownsRow D 51 5 (.slice ao (l.sl.length + 1) c) (l.sl.length + 1) (cellsT cSc (l.sl ++ [⟨k, u, d, 0, 0⟩])) := by rw [cellsT_append, cellsT_one]; exact ho
  have hblk : ∀ (q : Nat) (cur : Array Value) (T : TypeId) (z : Nat × Nat), W.heap[q]? = some (Obj.cells cur T z) → T ≠ 51 → w3.heap[q]? = some (Obj.cells cur T z) := fun q cur T z hq hT => (hg.block q (Array.getElem?_eq_some_iff.1 hq).1 (fun e => by
    obtain ⟨cur', hc⟩ := owns_ty h.ys e.symm
    rw [hq] at hc
    injection hc with hc
    injection hc with _ hc _
    exact hT hc)).trans hq
  exact ⟨h.app (v' := ⟨ao, l.sl.length + 1, c⟩) ho' hg hD, hblk, seven_free (hblk _ _ _ _ h.kl (by decide)) 4⟩
theorem retWant_err {B D pb pl : Nat} {w0 w' : World} {b : Bk} {l : Ls} {xs : List LsC} {w : Wn} {n : Int} (hC : wantC b w = n) (hn : n ≠ 0) (hb : Below B w0 w') : RetWant B D pb pl w0 b l xs w (.returned (.int .i64 n)) w' := by
  have e : wantE b w = n := by unfold wantE; rw [hC, if_neg hn]
  exact ⟨by rw [e], hb, fun h => absurd (e.symm.trans h) hn⟩
theorem Gr.ct {B D pb pl : Nat} {w0 W : World} {x : BkC} {b : Bk} {xs : List LsC} {y : LsC} {l : Ls} (h : Gr B D pb pl w0 W x b xs y l) (k : Nat) (hk : k < b.cs.length) : ∃ g cap, x.c = ⟨some ⟨g, 0, none⟩, b.cs.length, cap⟩ ∧ b.cs.length ≤ cap ∧ cap ≤ 9223372036854775807 ∧ g < W.heap.size ∧
    W.cell? ⟨g, k * 7, none⟩ = some (.string b.cs[k].key) ∧ W.cell? ⟨g, k * 7 + 5, none⟩ = some (.int .i64 b.cs[k].up) ∧ W.cell? ⟨g, k * 7 + 6, none⟩ = some (.int .i64 b.cs[k].down) ∧ (∀ o, W.frozen? ⟨g, o, none⟩ = false) := by
  obtain ⟨g, cap, he⟩ := owns_some h.rc (by omega)
  have hrc := h.rc
  rw [he] at hrc
  obtain ⟨p1, p2, p3, p4, p5, p6, p7⟩ := owns_block hrc
  refine ⟨g, cap, ?_, p3, p4, p2, ?_, ?_, ?_, p6⟩
  · obtain ⟨⟨c1, c2, c3⟩, _, _, _⟩ := x
    injection he with e1 e2 e3
    simp only at e1 e2 e3
    subst e1 e2 e3
    rfl
  · exact p7 _ _ (by rw [← Nat.add_zero (k * 7), cellsT_at cCt_len _ k hk 0 (by omega)]; rfl)
  · exact p7 _ _ (by rw [cellsT_at cCt_len _ k hk 5 (by omega)]; rfl)
  · exact p7 _ _ (by rw [cellsT_at cCt_len _ k hk 6 (by omega)]; rfl)

set_option maxRecDepth 100000 in
set_option maxHeartbeats 8000000 in
theorem want_any (B D pb pl : Nat) (w0 W : World) (x : BkC) (b : Bk) (xs : List LsC) (y : LsC) (l : Ls) (wn : Wn) (h : Gr B D pb pl w0 W x b xs y l) (hD : D ≤ W.heap.size) (hw : WtB b l) :
    Calls Try.prog 42 #[.pointer (some ⟨pb, 0, none⟩), .pointer (some ⟨pl, 0, none⟩), aWn wn] W (RetWant B D pb pl w0 b l xs wn) := by
  obtain ⟨⟨ca, cn, cc⟩, ⟨fa, f_n, fc⟩, ⟨la, ln, lc⟩, ⟨ba, b_n, bc⟩⟩ := x
  obtain ⟨wk, wu, wd, wi⟩ := wn
  have hbA : Below W.heap.size W (W.alloc (.cells #[.string wk, .int .i64 wu, .int .i64 wd, .int .i64 wi] 49)) := (Below.refl _ _).alloc (Nat.le_refl _) _
  have HG1 := Lib.hid (h.keep hbA)
  have HW := Lib.hid hw
  have HN1 := Lib.hid (heap_alloc_new W (.cells #[.string wk, .int .i64 wu, .int .i64 wd, .int .i64 wi] 49))
  have hzG : W.heap.size < (W.alloc (.cells #[.string wk, .int .i64 wu, .int .i64 wd, .int .i64 wi] 49)).heap.size := by simp
  clear h hbA hw
  go_enter Try.func42, Try.ntmps42
  go_upto_region 1 with fail
  generalize W.alloc (.cells #[.string wk, .int .i64 wu, .int .i64 wd, .int .i64 wi] 49) = W1 at *
  generalize hGG : W.heap.size = G at *
  have HGG := Lib.hid hGG
  clear hGG
  have hszb := HG1.out.szb
  have hszl := HG1.out.szl
  obtain ⟨ci, hci⟩ : ∃ ci, ctIx b.cs wk = ci := ⟨_, rfl⟩
  have HCI := Lib.hid hci
  clear hci
  have hr0 : Below W1.heap.size W1 W1 := Below.refl _ _
  have HCT : Hid (∀ U, Below W1.heap.size W1 U → Calls Try.prog 28 #[.agg #[.slice ca cn cc, .slice fa f_n fc, .slice la ln lc, .slice ba b_n bc], .string wk] U fun e w' => e = .returned (.int .i64 ci) ∧ Below W1.heap.size W1 w') :=
    Lib.hid (fun U hU => (counter_any ⟨⟨ca, cn, cc⟩, ⟨fa, f_n, fc⟩, ⟨la, ln, lc⟩, ⟨ba, b_n, bc⟩⟩ b.cs wk U (SlT.keep HG1.out.m.c hU (Nat.le_refl _))).mono (fun _ _ ⟨he, hb⟩ => ⟨by rw [← HCI.out]; exact he, hU.trans (hb.mono hU.size)⟩))
  have KS : Hid (∀ U, Below W1.heap.size W1 U → (Below W1.heap.size W1 U ∧ U.cell? ⟨pb, 0, none⟩ = some (.slice ca cn cc) ∧ U.cell? ⟨pb, 1, none⟩ = some (.slice fa f_n fc) ∧ U.cell? ⟨pb, 2, none⟩ = some (.slice la ln lc) ∧ U.cell? ⟨pb, 3, none⟩ = some (.slice ba b_n bc) ∧ U.cell? ⟨G, 0, none⟩ = some (.string wk))) :=
    Lib.hid (fun U hU => by
      obtain ⟨e0, e1, e2, e3, _⟩ := four_cells (block_below HG1.out.kb hU hszb)
      obtain ⟨n0, n1, n2, n3, _⟩ := four_cells (block_below HN1.out hU hzG)
      exact ⟨hU, e0, e1, e2, e3, n0⟩)
  go_cut [7] (fun v7 wx => v7 = .int .i64 ci ∧ Below W1.heap.size W1 wx)
  case first =>
    go_region_held3 (fun w' => Below W1.heap.size W1 w' ∧ w'.cell? ⟨pb, 0, none⟩ = some (.slice ca cn cc) ∧ w'.cell? ⟨pb, 1, none⟩ = some (.slice fa f_n fc) ∧ w'.cell? ⟨pb, 2, none⟩ = some (.slice la ln lc) ∧ w'.cell? ⟨pb, 3, none⟩ = some (.slice ba b_n bc) ∧ w'.cell? ⟨G, 0, none⟩ = some (.string wk))
      (first | assumption | exact KS.out _ (by assumption) | exact KS.out _ hr0.drew)
      ((go_at_call 28; (with_reducible refine (HCT.out _ (by go_split_ands; assumption)).mono ?_); rintro en w9 ⟨rfl, hb9⟩))
    all_goals
      go_wp2
      go_meet
      exact ⟨by rfl, by first | assumption | exact hr0.drew⟩
  case rest =>
  obtain ⟨rfl, hb2⟩ := hcut
  have HG2 := Lib.hid (HG1.out.keep hb2)
  have HN2 := Lib.hid (block_below HN1.out hb2 hzG)
  have hD2 : D ≤ wc.heap.size := by have := hb2.size; have := HGG.out; omega
  clear HCT KS hr0 HG1 HN1 hb2 hszb hszl hzG
  obtain ⟨W2, hW2⟩ : ∃ W2, W2 = wc := ⟨_, rfl⟩
  subst hW2
  obtain ⟨a1, ha1⟩ : ∃ a1, (decide (0 ≤ wu) && decide (wu ≤ 2199023255552)) = a1 := ⟨_, rfl⟩
  obtain ⟨a2, ha2⟩ : ∃ a2, (decide (0 ≤ wd) && decide (wd ≤ 2199023255552)) = a2 := ⟨_, rfl⟩
  obtain ⟨a3, ha3⟩ : ∃ a3, (decide (0 ≤ wi) && decide (wi ≤ 50)) = a3 := ⟨_, rfl⟩
  have HA1 := Lib.hid ha1
  have HA2 := Lib.hid ha2
  have HA3 := Lib.hid ha3
  have HWB : Hid (wnB ⟨wk, wu, wd, wi⟩ = (a1 && (a2 && a3))) := by show _ = _; unfold wnB; simp only [HA1.out, HA2.out, HA3.out]
  clear ha1 ha2 ha3
  obtain ⟨n0, n1, n2, n3, _⟩ := four_cells HN2.out
  obtain ⟨d0, d1, d2, d3, _⟩ := four_cells HG2.out.kb
  simp only [Sv.v] at d0 d1 d2 d3
  go_upto_block 0 with fail
  go_cut [] (fun wx => wantC b ⟨wk, wu, wd, wi⟩ = 0 ∧ Below W2.heap.size W2 wx)
  case first =>
    cases a1 with
    | false =>
      have HC := Lib.hid (wantC_arg (b := b) (w := ⟨wk, wu, wd, wi⟩) (by rw [HWB.out]; rfl))
      go_wp2_with ((go_at_call 29; refine (lwithin_any _ _ _ _).mono ?_); (first | rw [HA1.out] | rw [HA2.out] | rw [HA3.out]); rintro e w9 ⟨rfl, rfl⟩)
      go_ret
      exact retWant_err HC.out (by omega) HG2.out.bel
    | true =>
      cases a2 with
      | false =>
        have HC := Lib.hid (wantC_arg (b := b) (w := ⟨wk, wu, wd, wi⟩) (by rw [HWB.out]; rfl))
        go_wp2_with ((go_at_call 29; refine (lwithin_any _ _ _ _).mono ?_); (first | rw [HA1.out] | rw [HA2.out] | rw [HA3.out]); rintro e w9 ⟨rfl, rfl⟩)
        go_ret
        exact retWant_err HC.out (by omega) HG2.out.bel
      | true =>
        cases a3 with
        | false =>
          have HC := Lib.hid (wantC_arg (b := b) (w := ⟨wk, wu, wd, wi⟩) (by rw [HWB.out]; rfl))
          go_wp2_with ((go_at_call 29; refine (lwithin_any _ _ _ _).mono ?_); (first | rw [HA1.out] | rw [HA2.out] | rw [HA3.out]); rintro e w9 ⟨rfl, rfl⟩)
          go_ret
          exact retWant_err HC.out (by omega) HG2.out.bel
        | true =>
          have g1 : 0 ≤ wu ∧ wu ≤ 2199023255552 := by simpa using HA1.out
          have g2 : 0 ≤ wd ∧ wd ≤ 2199023255552 := by simpa using HA2.out
          have g3 : 0 ≤ wi ∧ wi ≤ 50 := by simpa using HA3.out
          obtain ⟨g11, g12⟩ := g1
          obtain ⟨g21, g22⟩ := g2
          obtain ⟨g31, g32⟩ := g3
          cases he : emp wk with
          | true =>
            have hk := emp_yes he
            subst hk
            by_cases h0 : 0 < wu + wd
            · have HC := Lib.hid (wantC_both (b := b) (w := ⟨⟨#[]⟩, wu, wd, wi⟩) (by rw [HWB.out]; rfl) he h0)
              clear he
              go_wp2_with ((go_at_call 29; refine (lwithin_any _ _ _ _).mono ?_); (first | rw [HA1.out] | rw [HA2.out] | rw [HA3.out]); rintro e w9 ⟨rfl, rfl⟩)
              all_goals
                go_ret
                exact retWant_err HC.out (by omega) HG2.out.bel
            · have HC := Lib.hid (wantC_ok_e (b := b) (w := ⟨⟨#[]⟩, wu, wd, wi⟩) (by rw [HWB.out]; rfl) he h0)
              have dh0 : decide (0 < wu + wd) = false := by simpa using h0
              clear he h0
              go_wp2_with ((go_at_call 29; refine (lwithin_any _ _ _ _).mono ?_); (first | rw [HA1.out] | rw [HA2.out] | rw [HA3.out]); rintro e w9 ⟨rfl, rfl⟩)
              all_goals
                go_quiet (fail)
                go_wp2
                go_meet
                exact ⟨HC.out, below_drewN (Below.refl _ _) _⟩
          | false =>
            obtain ⟨hE1, hE2⟩ := emp_no he
            rcases idxS_spec (fun c : Ct => decide (c.key = wk)) b.cs with ⟨hi, _⟩ | ⟨k, hk, hi, _, _⟩
            · have hcn : ci = -1 := by rw [← HCI.out]; exact hi
              subst hcn
              have HC := Lib.hid (wantC_none (b := b) (w := ⟨wk, wu, wd, wi⟩) (by rw [HWB.out]; rfl) (by rw [HCI.out]; decide) he)
              clear he hi
              go_wp2_with ((go_at_call 29; refine (lwithin_any _ _ _ _).mono ?_); (first | rw [HA1.out] | rw [HA2.out] | rw [HA3.out]); rintro e w9 ⟨rfl, rfl⟩)
              go_ret
              exact retWant_err HC.out (by omega) HG2.out.bel
            · have hck : ci = k := by rw [← HCI.out]; exact hi
              subst hck
              have HWC : Hid (wnCt b ⟨wk, wu, wd, wi⟩ = b.cs[k]) := by show _ = _; unfold wnCt; rw [HCI.out]; simp [List.getD, List.getElem?_eq_getElem hk]
              obtain ⟨g, cap, hxc, hcap, hcm, hgs, q0, q5, q6, qf⟩ := HG2.out.ct k hk
              injection hxc with hx1 hx2 hx3
              subst hx1 hx2 hx3
              have hncs := HW.out.nc
              have HC14 : Hid (b.cs[k].up < wu ∨ b.cs[k].down < wd → wantC b ⟨wk, wu, wd, wi⟩ = 14) := Lib.hid (fun hh => wantC_few (b := b) (w := ⟨wk, wu, wd, wi⟩) (by rw [HWB.out]; rfl) (by rw [HCI.out]; omega) he (by rw [HWC.out]; exact hh))
              have HC0 : Hid (¬ b.cs[k].up < wu → ¬ b.cs[k].down < wd → wantC b ⟨wk, wu, wd, wi⟩ = 0) := Lib.hid (fun h1 h2 => wantC_ok_k (b := b) (w := ⟨wk, wu, wd, wi⟩) (by rw [HWB.out]; rfl) (by rw [HCI.out]; omega) he (by rw [HWC.out]; exact h1) (by rw [HWC.out]; exact h2))
              generalize b.cs[k].up = cu at *
              generalize b.cs[k].down = cd at *
              have klt : (k : Int) < b.cs.length := by omega
              clear he hi q0 qf
              by_cases h5 : cu < wu
              · have HC := Lib.hid (HC14.out (.inl h5))
                go_wp2_with ((go_at_call 29; refine (lwithin_any _ _ _ _).mono ?_); (first | rw [HA1.out] | rw [HA2.out] | rw [HA3.out]); rintro e w9 ⟨rfl, rfl⟩)
                go_quiet (fail)
                go_wp2
                go_ret
                exact retWant_err HC.out (by omega) (below_drewN HG2.out.bel _)
              · have d5 : decide (cu < wu) = false := by simpa using h5
                by_cases h6 : cd < wd
                · have HC := Lib.hid (HC14.out (.inr h6))
                  clear h5
                  go_wp2_with ((go_at_call 29; refine (lwithin_any _ _ _ _).mono ?_); (first | rw [HA1.out] | rw [HA2.out] | rw [HA3.out]); rintro e w9 ⟨rfl, rfl⟩)
                  go_quiet (fail)
                  go_wp2
                  go_ret
                  exact retWant_err HC.out (by omega) (below_drewN HG2.out.bel _)
                · have d6 : decide (cd < wd) = false := by simpa using h6
                  have HC := Lib.hid (HC0.out h5 h6)
                  clear h5 h6
                  go_wp2_with ((go_at_call 29; refine (lwithin_any _ _ _ _).mono ?_); (first | rw [HA1.out] | rw [HA2.out] | rw [HA3.out]); rintro e w9 ⟨rfl, rfl⟩)
                  go_quiet (fail)
                  go_wp2
                  go_meet
                  exact ⟨HC.out, below_drewN (Below.refl _ _) _⟩
  case rest =>
  obtain ⟨hc0, hb3⟩ := hcut
  obtain ⟨W3, hW3⟩ : ∃ W3, W3 = wc := ⟨_, rfl⟩
  subst hW3
  have HC0 := Lib.hid hc0
  have HG3 := Lib.hid (HG2.out.keep hb3)
  have hzG2 : G < W2.heap.size := (Array.getElem?_eq_some_iff.1 HN2.out).1
  have HN3 := Lib.hid (block_below HN2.out hb3 hzG2)
  have hD3 : D ≤ W3.heap.size := Nat.le_trans hD2 hb3.size
  obtain ⟨⟨g11, g12⟩, ⟨g21, g22⟩, g31, g32⟩ := wnB_bd (wantC_zero hc0).1
  simp only at g11 g12 g21 g22 g31 g32
  have hszb := HG3.out.szb
  have hszl := HG3.out.szl
  have hzG3 : G < W3.heap.size := (Array.getElem?_eq_some_iff.1 HN3.out).1
  clear hc0 HG2 HN2 hb3 hD2 HA1 HA2 HA3 HWB n0 n1 n2 n3 d0 d1 d2 d3 hzG2
  have hr0 : Below W3.heap.size W3 W3 := Below.refl _ _
  have KS : Hid (∀ U, Below W3.heap.size W3 U → (Below W3.heap.size W3 U ∧ U.cell? ⟨pb, 1, none⟩ = some (.slice fa f_n fc) ∧ U.cell? ⟨G, 3, none⟩ = some (.int .i64 wi))) :=
    Lib.hid (fun U hU => by
      obtain ⟨e0, e1, e2, e3, _⟩ := four_cells (block_below HG3.out.kb hU hszb)
      obtain ⟨n0, n1, n2, n3, _⟩ := four_cells (block_below HN3.out hU hzG3)
      exact ⟨hU, e1, n3⟩)
  have HFR : Hid (∀ U, Below W3.heap.size W3 U → SlR U (.slice fa f_n fc) b.free) := Lib.hid (fun U hU => SlR.keep (sl_of_owns HG3.out.rf) hU (Nat.le_refl _))
  have hnf := HW.out.nf
  go_upto_region 10 with fail
  by_cases hT : lenR b.free < wi
  · have HE : Hid (wantE b ⟨wk, wu, wd, wi⟩ = 14) := by show _ = _; unfold wantE; rw [if_pos HC0.out, if_pos hT]
    have HTK : Hid (∀ U, Below W3.heap.size W3 U → Calls Try.prog 81 #[.slice fa f_n fc, .int .i64 wi] U fun e w' => e = .returned (.tuple #[.slice none 0 0, .slice none 0 0, .int .i64 14]) ∧ Below W3.heap.size W3 w') :=
      Lib.hid (fun U hU => (take_rights _ b.free wi U (HFR.out U hU) HW.out.small (by omega) hT).mono (fun _ _ ⟨he, hb⟩ => ⟨he, hU.trans (hb.mono hU.size)⟩))
    clear hT
    go_cut [8, 9, 10] (fun _ _ v10 wx => v10 = .int .i64 14 ∧ Below W3.heap.size W3 wx)
    case first =>
      go_region_held3 (fun w' => Below W3.heap.size W3 w' ∧ w'.cell? ⟨pb, 1, none⟩ = some (.slice fa f_n fc) ∧ w'.cell? ⟨G, 3, none⟩ = some (.int .i64 wi))
        (first | assumption | exact KS.out _ (by assumption) | exact KS.out _ hr0.drew)
        ((go_at_call 81; (with_reducible refine (HTK.out _ (by go_split_ands; assumption)).mono ?_); rintro en w9 ⟨rfl, hb9⟩))
      all_goals
        go_wp2
        go_meet
        exact ⟨by rfl, by first | assumption | exact hr0.drew⟩
    case rest =>
    obtain ⟨rfl, hb4⟩ := hcut
    go_wp2
    go_ret
    have e := HE.out
    exact ⟨ret_int HE.out.symm, HG3.out.bel.trans (hb4.mono (Nat.le_trans HG3.out.hb (Nat.le_of_lt hszb))), fun h => by omega⟩
  · have HE : Hid (wantE b ⟨wk, wu, wd, wi⟩ = 0) := by show _ = _; unfold wantE; rw [if_pos HC0.out, if_neg hT]
    have hlT := length_takeS b.free wi
    obtain ⟨tA, tB, hAB⟩ : ∃ tA tB, takeS b.free wi = (tA, tB) := ⟨(takeS b.free wi).1, (takeS b.free wi).2, rfl⟩
    rw [hAB] at hlT
    obtain ⟨hlA, hlB⟩ := hlT
    simp only at hlA hlB
    have HAB := Lib.hid hAB
    have HTK : Hid (∀ U, Below W3.heap.size W3 U → Calls Try.prog 81 #[.slice fa f_n fc, .int .i64 wi] U fun e w' => ∃ v1 v2 : Value, e = .returned (.tuple #[v1, v2, .int .i64 0]) ∧ w'.ownsRow B 78 2 v1 tA.length (cellsR tA) ∧ w'.ownsRow B 78 2 v2 tB.length (cellsR tB) ∧ Below W3.heap.size W3 w') :=
      Lib.hid (fun U hU => (take_ok _ b.free wi U (HFR.out U hU) HW.out.small (by omega) g31 (by omega)).mono (fun _ _ ⟨v1, v2, he, h1, h2, _, hb⟩ => by
        rw [HAB.out] at h1 h2
        have hBU : B ≤ U.heap.size := Nat.le_trans (Nat.le_trans HG3.out.hb (Nat.le_of_lt hszb)) hU.size
        exact ⟨v1, v2, he, owns_base h1 hBU, owns_base h2 hBU, hU.trans (hb.mono hU.size)⟩))
    clear hT hAB
    go_cut [8, 9, 10] (fun v8 v9 v10 wx => v10 = .int .i64 0 ∧ wx.ownsRow B 78 2 v8 tA.length (cellsR tA) ∧ wx.ownsRow B 78 2 v9 tB.length (cellsR tB) ∧ Below W3.heap.size W3 wx)
    case first =>
      go_region_held3 (fun w' => Below W3.heap.size W3 w' ∧ w'.cell? ⟨pb, 1, none⟩ = some (.slice fa f_n fc) ∧ w'.cell? ⟨G, 3, none⟩ = some (.int .i64 wi))
        (first | assumption | exact KS.out _ (by assumption) | exact KS.out _ hr0.drew)
        ((go_at_call 81; (with_reducible refine (HTK.out _ (by go_split_ands; assumption)).mono ?_); rintro en w9 ⟨v1, v2, rfl, ho1, ho2, hb9⟩))
      all_goals
        go_wp2
        go_meet
        exact ⟨by rfl, ho1, ho2, hb9⟩
    case rest =>
    obtain ⟨rfl, hoA, hoB, hb4⟩ := hcut
    have HG4 := Lib.hid (HG3.out.keep hb4)
    have HN4 := Lib.hid (block_below HN3.out hb4 hzG3)
    have hD4 : D ≤ wc.heap.size := Nat.le_trans hD3 hb4.size
    obtain ⟨aoA, capA, rfl, hcA, hcA2⟩ := owns_shape hoA
    obtain ⟨aoB, capB, rfl, hcB, hcB2⟩ := owns_shape hoB
    obtain ⟨d0, d1, d2, d3, _⟩ := four_cells HG4.out.kb
    simp only [Sv.v] at d0 d1 d2 d3
    have f1 := four_free HG4.out.kb 1
    have hoth : ∀ c, c ≠ pb → (wc.setCell ⟨pb, 1, none⟩ (.slice aoB tB.length capB)).heap[c]? = wc.heap[c]? := fun c hc => set_ne _ _ _ (fun e => hc e.symm) _
    have HG5 : Hid (Gr B D pb pl w0 (wc.setCell ⟨pb, 1, none⟩ (.slice aoB tB.length capB)) ⟨⟨ca, cn, cc⟩, ⟨aoB, tB.length, capB⟩, ⟨la, ln, lc⟩, ⟨ba, b_n, bc⟩⟩ ⟨b.cs, tB, b.ls, b.bound⟩ xs y l) := Lib.hid (HG4.out.setF (f' := ⟨aoB, tB.length, capB⟩) hoB)
    have HA5 := Lib.hid (owns_other hoA hoth HG4.out.kb (by decide))
    have hGpb : G ≠ pb := fun e => by
      have h1 := HG4.out.kb
      rw [← e, HN4.out] at h1
      injection h1 with h1
      injection h1 with _ h1 _
      exact absurd h1 (by decide)
    have HN5 := Lib.hid ((hoth G hGpb).trans HN4.out)
    have hD5 : D ≤ (wc.setCell ⟨pb, 1, none⟩ (.slice aoB tB.length capB)).heap.size := by simpa using hD4
    have hid0 : l.ids.length < 100000 := HW.out.ni
    have hlA2 := length_addAll
    clear hoA hoB hb4 HG3 HN3 hD3 KS HFR hr0 HTK hoth hszb hszl hzG3 hlA2
    go_upto_block 1 with fail
    generalize wc.setCell ⟨pb, 1, none⟩ (.slice aoB tB.length capB) = W5 at *
    clear d0 d1 d2 d3 f1 HG4 HN4 hD4 hGpb
    go_cut [] (fun wx => ∃ y', Gr B D pb pl w0 wx ⟨⟨ca, cn, cc⟩, ⟨aoB, tB.length, capB⟩, ⟨la, ln, lc⟩, ⟨ba, b_n, bc⟩⟩ ⟨b.cs, tB, b.ls, b.bound⟩ xs y' ⟨l.dev, l.epoch, l.unt, l.last, l.sl, addAll l.ids tA, l.used⟩ ∧ wx.heap[G]? = some (.cells #[.string wk, .int .i64 wu, .int .i64 wd, .int .i64 wi] 49 (0, 0)) ∧ D ≤ wx.heap.size)
    case first =>
      go_wp2
      go_loopw [106] (fun vk wr => ∃ (k : Nat) (y' : LsC), k ≤ tA.length ∧ vk = .int .i64 k ∧ Gr B D pb pl w0 wr ⟨⟨ca, cn, cc⟩, ⟨aoB, tB.length, capB⟩, ⟨la, ln, lc⟩, ⟨ba, b_n, bc⟩⟩ ⟨b.cs, tB, b.ls, b.bound⟩ xs y' ⟨l.dev, l.epoch, l.unt, l.last, l.sl, addAll l.ids (tA.take k), l.used⟩ ∧
        wr.ownsRow B 78 2 (.slice aoA tA.length capA) tA.length (cellsR tA) ∧ wr.heap[G]? = some (.cells #[.string wk, .int .i64 wu, .int .i64 wd, .int .i64 wi] 49 (0, 0)) ∧ D ≤ wr.heap.size) (fun vk _ => tA.length - (intOf vk).toNat)
      case atStart => exact ⟨0, y, Nat.zero_le _, rfl, HG5.out, HA5.out, HN5.out, hD5⟩
      case round =>
        clear HG5 HA5 HN5 hD5
        obtain ⟨k, y', hk, rfl, hG, hA, hN, hD6⟩ := hrel
        have HG := Lib.hid hG
        have HA := Lib.hid hA
        have HN := Lib.hid hN
        have hszl := hG.szl
        have hzG := (Array.getElem?_eq_some_iff.1 hN).1
        clear hG hA hN
        rcases Nat.lt_or_ge k tA.length with hlt | hge
        · obtain ⟨rb, ro, rfl, hrb, c0, c1⟩ := SlR.pair (sl_of_owns HA.out) (Below.refl _ _) (Nat.le_refl _) k hlt
          have klt : (k : Int) < tA.length := by omega
          have HS : Hid (addAll l.ids (tA.take (k + 1)) = addS (addAll l.ids (tA.take k)) tA[k]) := by show _ = _; rw [take_snoc tA k hlt, addAll_snoc]
          have hlI : (addAll l.ids (tA.take k)).length < 1000000 := by
            have h1 := length_addAll (tA.take k) l.ids
            have h2 := List.length_take_le k tA
            omega
          generalize addAll l.ids (tA.take k) = ids at *
          generalize tA[k] = r at *
          obtain ⟨rp, rq⟩ := r
          simp only at c0 c1
          obtain ⟨y1, y2, y3, y4, ⟨y5, y6, y7⟩, ⟨y8, y9, y10⟩, ⟨y11, y12, y13⟩⟩ := y'
          have hbA : Below wr.heap.size wr (wr.alloc (.cells #[.int .i64 rp, .int .i64 rq] 78)) := (Below.refl _ _).alloc (Nat.le_refl _) _
          have HGA := Lib.hid (HG.out.keep hbA)
          have HNA := Lib.hid (block_below HN.out hbA hzG)
          have HAA := Lib.hid (owns_keep HA.out hbA (Nat.le_refl _))
          have HR := Lib.hid (heap_alloc_new wr (.cells #[.int .i64 rp, .int .i64 rq] 78))
          have hzR : wr.heap.size < (wr.alloc (.cells #[.int .i64 rp, .int .i64 rq] 78)).heap.size := by simp
          clear hbA
          go_upto_region 17 with fail
          generalize wr.alloc (.cells #[.int .i64 rp, .int .i64 rq] 78) = w7 at *
          clear c0 c1
          have hS0 : Below w7.heap.size w7 w7.drew := (Below.refl _ _).drew
          refine wp_region_T 9 (fun w' => Below w7.heap.size w7 w') (by kernel_rfl) ?_
          refine anyT_take (i := 0) (v := .pointer (some ⟨pl, 0, none⟩)) rfl rfl (by kernel_rfl) (by kernel_rfl) (by kernel_rfl) (by kernel_rfl) (by kernel_rfl) (by decide) (fun _ _ _ h => h) (.inl ⟨rfl, fun w' hw => ?_⟩) hS0 ?_
          · go_simp
          refine anyT_take (i := 1) (v := .pointer (some ⟨pl, 0, none⟩)) rfl rfl (by kernel_rfl) (by kernel_rfl) (by kernel_rfl) (by kernel_rfl) (by kernel_rfl) (by decide) (fun _ _ _ h => h) (.inl ⟨rfl, fun w' hw => ?_⟩) hS0 ?_
          · go_simp
          refine anyT_take (i := 5) (v := .agg #[.int .i64 rp, .int .i64 rq]) rfl rfl (by kernel_rfl) (by kernel_rfl) (by kernel_rfl) (by kernel_rfl) (by kernel_rfl) (by decide) (fun _ _ _ h => h) (.inl ⟨rfl, fun w' hw => ?_⟩) hS0 ?_
          · obtain ⟨m0, m1, _⟩ := two_cells (block_below HR.out hw hzR)
            go_simp
          refine anyT_take (i := 2) (v := .pointer (some ⟨pl, 0, none⟩)) rfl rfl (by kernel_rfl) (by kernel_rfl) (by kernel_rfl) (by kernel_rfl) (by kernel_rfl) (by decide) (fun _ _ _ h => h) (.inl ⟨rfl, fun w' hw => ?_⟩) hS0 ?_
          · go_simp
          refine anyT_take (i := 3) (v := .pointer (some ⟨pl, 5, none⟩)) rfl rfl (by kernel_rfl) (by kernel_rfl) (by kernel_rfl) (by kernel_rfl) (by kernel_rfl) (by decide) (fun _ _ _ h => h) (.inl ⟨rfl, fun w' hw => ?_⟩) hS0 ?_
          · go_simp
          refine anyT_take (i := 4) (v := .slice y8 y9 y10) rfl rfl (by kernel_rfl) (by kernel_rfl) (by kernel_rfl) (by kernel_rfl) (by kernel_rfl) (by decide) (fun _ _ _ h => h) (.inl ⟨rfl, fun w' hw => ?_⟩) hS0 ?_
          · obtain ⟨_, _, _, _, _, n5, _, _⟩ := seven_cells (block_below HGA.out.kl hw (by omega))
            simp only [Sv.v] at n5
            go_simp
          refine anyT_one (i := 6) (by kernel_rfl) rfl rfl ?_
          go_simp
          refine (add_any _ ids rp rq _ (SlR.keep (sl_of_owns HGA.out.yi) (Below.refl _ _).drew (Nat.le_refl _)) hlI).mono ?_
          rintro e w8 ⟨v8, rfl, ho8, hb8⟩
          have hb8' : Below w7.heap.size w7 w8 := (Below.refl w7.heap.size w7).drew.trans hb8
          refine ⟨hb8', ?_⟩
          have HG8 := Lib.hid (HGA.out.keep hb8')
          have HN8 := Lib.hid (block_below HNA.out hb8' (by omega))
          have HA8 := Lib.hid (owns_keep HAA.out hb8' (Nat.le_refl _))
          obtain ⟨ao8, cap8, rfl, _, _⟩ := owns_shape ho8
          have hB8 : B ≤ w7.drew.heap.size := by have := HGA.out.hl; show B ≤ w7.heap.size; omega
          have HG9 := Lib.hid (HG8.out.setI (i' := ⟨ao8, _, cap8⟩) (owns_base ho8 hB8))
          have hoth : ∀ c, c ≠ pl → (w8.setCell ⟨pl, 5, none⟩ (.slice ao8 (addS ids (rp, rq)).length cap8)).heap[c]? = w8.heap[c]? := fun c hc => set_ne _ _ _ (fun e => hc e.symm) _
          have HA9 := Lib.hid (owns_other HA8.out hoth HG8.out.kl (by decide))
          have hGpl : G ≠ pl := fun e => by
            have h1 := HG8.out.kl
            rw [← e, HN8.out] at h1
            injection h1 with h1
            injection h1 with _ h1 _
            exact absurd h1 (by decide)
          have HN9 := Lib.hid ((hoth G hGpl).trans HN8.out)
          obtain ⟨_, _, _, _, _, n5, _, _⟩ := seven_cells HG8.out.kl
          have f5 := seven_free HG8.out.kl 5
          simp only [Sv.v] at n5
          have hD9 : D ≤ (w8.setCell ⟨pl, 5, none⟩ (.slice ao8 (addS ids (rp, rq)).length cap8)).heap.size := by
            have h1 := hb8'.size
            have h2 : wr.heap.size < w7.heap.size := hzR
            simp
            omega
          clear ho8 hb8 hoth hGpl
          refine anyT_one (i := 7) (by kernel_rfl) rfl rfl ?_
          go_simp
          refine anyT_one (i := 8) (by kernel_rfl) rfl rfl ?_
          go_simp
          refine anyT_one (i := 9) (by kernel_rfl) rfl rfl ?_
          go_simp
          refine anyT_done (by kernel_rfl) ?_
          go_wp2
          go_roundw
          case rel => exact ⟨k + 1, _, by omega, by go_num, by rw [HS.out]; exact HG9.out, HA9.out, HN9.out, hD9⟩
          case measure => simp [intOf]; omega
        · have hke : k = tA.length := by omega
          subst hke
          rw [List.take_length] at HG
          go_wp2
          go_meet
          exact ⟨y', HG.out, HN.out, hD6⟩
    case rest =>
    obtain ⟨y', hG, hN, hD6⟩ := hcut
    obtain ⟨W6, hW6⟩ : ∃ W6, W6 = wc := ⟨_, rfl⟩
    subst hW6
    have HG := Lib.hid hG
    have HN := Lib.hid hN
    have hszl := hG.szl
    have hszb := hG.szb
    obtain ⟨n0, n1, n2, n3, _⟩ := four_cells hN
    obtain ⟨d0, d1, d2, d3, _⟩ := four_cells hG.kb
    simp only [Sv.v] at d0 d1 d2 d3
    clear hG hN HG5 HA5 HN5 hD5
    cases he : emp wk with
    | true =>
      have HF : Hid (wantB b ⟨wk, wu, wd, wi⟩ = ⟨b.cs, tB, b.ls, b.bound⟩ ∧ wantL b l ⟨wk, wu, wd, wi⟩ = ⟨l.dev, l.epoch, l.unt, l.last, l.sl, addAll l.ids tA, l.used⟩) := Lib.hid (by unfold wantB wantL; simp only [HAB.out, he, if_true]; first | trivial | (constructor <;> first | rfl | trivial))
      have hk := emp_yes he
      subst hk
      clear he
      go_wp2
      go_ret
      exact ⟨ret_int HE.out.symm, HG.out.bel, fun _ => ⟨_, y', by rw [HF.out.1, HF.out.2]; exact HG.out⟩⟩
    | false =>
      obtain ⟨hE1, hE2⟩ := emp_no he
      obtain ⟨hk0, hk1, hk2⟩ : ¬ ctIx b.cs wk < 0 ∧ ¬ (wnCt b ⟨wk, wu, wd, wi⟩).up < wu ∧ ¬ (wnCt b ⟨wk, wu, wd, wi⟩).down < wd := by
        rcases (wantC_zero HC0.out).2 with hh | hh
        · rw [show emp wk = false from he] at hh; cases hh
        · exact hh.2
      rcases idxS_spec (fun c : Ct => decide (c.key = wk)) b.cs with ⟨hi, _⟩ | ⟨k, hk, hi, _, _⟩
      · exact absurd (by rw [show ctIx b.cs wk = -1 from hi]; decide) hk0
      have hck : ci = k := by rw [← HCI.out]; exact hi
      subst hck
      have HWC : Hid (wnCt b ⟨wk, wu, wd, wi⟩ = b.cs[k]) := by show _ = _; unfold wnCt; rw [HCI.out]; simp [List.getD, List.getElem?_eq_getElem hk]
      have HF : Hid (wantB b ⟨wk, wu, wd, wi⟩ = ⟨b.cs.set k ⟨b.cs[k].key, b.cs[k].coll, b.cs[k].lo, b.cs[k].hi, b.cs[k].start, b.cs[k].up - wu, b.cs[k].down - wd⟩, tB, b.ls, b.bound⟩ ∧ wantL b l ⟨wk, wu, wd, wi⟩ = ⟨l.dev, l.epoch, l.unt, l.last, l.sl ++ [⟨wk, wu, wd, 0, 0⟩], addAll l.ids tA, l.used⟩) := Lib.hid (by
        unfold wantB wantL
        simp only [HAB.out, HWC.out, show emp wk = false from he, Bool.false_eq_true, if_false, HCI.out, Int.toNat_natCast]
        first | trivial | (constructor <;> first | rfl | trivial))
      rw [HWC.out] at hk1 hk2
      obtain ⟨b1, b2, b3, b4⟩ := HW.out.ct b.cs[k] (List.getElem_mem hk)
      obtain ⟨g, cap, hxc, hcap, hcm, hgs, q0, q5, q6, qf⟩ := HG.out.ct k hk
      injection hxc with hx1 hx2 hx3
      subst hx1 hx2 hx3
      have hncs := HW.out.nc
      have klt : (k : Int) < b.cs.length := by omega
      have HSC : Hid (∀ U, Gr B D pb pl w0 U ⟨⟨some ⟨g, 0, none⟩, b.cs.length, cc⟩, ⟨aoB, tB.length, capB⟩, ⟨la, ln, lc⟩, ⟨ba, b_n, bc⟩⟩ ⟨b.cs, tB, b.ls, b.bound⟩ xs y' ⟨l.dev, l.epoch, l.unt, l.last, l.sl, addAll l.ids tA, l.used⟩ →
          Gr B D pb pl w0 ((U.setCell ⟨g, k * 7 + 5, none⟩ (.int .i64 (b.cs[k].up - wu))).setCell ⟨g, k * 7 + 6, none⟩ (.int .i64 (b.cs[k].down - wd))) ⟨⟨some ⟨g, 0, none⟩, b.cs.length, cc⟩, ⟨aoB, tB.length, capB⟩, ⟨la, ln, lc⟩, ⟨ba, b_n, bc⟩⟩ (wantB b ⟨wk, wu, wd, wi⟩) xs y' ⟨l.dev, l.epoch, l.unt, l.last, l.sl, addAll l.ids tA, l.used⟩) :=
        Lib.hid (fun U hU => by rw [HF.out.1]; exact hU.setC rfl k hk _ _)
      have HF2 := Lib.hid HF.out.2
      have HKK := Lib.hid (rfl : b.cs[k] = b.cs[k])
      clear HKK HF HWC q0 he hi hk0
      have HC6 : Hid ((cellsT cCt b.cs)[k * 7 + 6]? = some (.int .i64 b.cs[k].down)) := Lib.hid (by rw [cellsT_at cCt_len _ k hk 6 (by omega)]; rfl)
      generalize b.cs[k].up = cu at *
      generalize b.cs[k].down = cd at *
      have i1 : IntKind.i64.wrap (cu - wu) = cu - wu := IntWalk.i64_in _ (by omega)
      have i2 : IntKind.i64.wrap (cd - wd) = cd - wd := IntWalk.i64_in _ (by omega)
      have qf5 := qf (k * 7 + 5)
      have qf6 := qf (k * 7 + 6)
      clear qf
      go_upto_region 20 with fail
      go_still_tail 13, (by kernel_rfl)
      change wpList _ _ _ _ _ W6.drew
      have hgpb : g ≠ pb := fun e => by
        obtain ⟨cur, hg⟩ := owns_cur' HG.out.rc
        rw [e, HG.out.kb] at hg
        injection hg with hg
        injection hg with _ hg _
        exact absurd hg (by decide)
      have hgG : g ≠ G := fun e => by
        obtain ⟨cur, hg⟩ := owns_cur' HG.out.rc
        rw [e, HN.out] at hg
        injection hg with hg
        injection hg with _ hg _
        exact absurd hg (by decide)
      have hrc := HG.out.drew.rc
      simp only [Sv.v] at hrc
      have hlc : (cellsT cCt b.cs).length = b.cs.length * 7 := cellsT_len cCt_len _
      obtain ⟨_, _, _, _, _, u6, u7⟩ := owns_block (owns_set hrc (k * 7 + 5) (by omega) (.int .i64 (cu - wu)))
      have q6' := u7 (k * 7 + 6) (.int .i64 cd) (by rw [List.getElem?_set_ne (by omega)]; exact HC6.out)
      have qf6' := u6 (k * 7 + 6)
      have hkU := (set_ne W6.drew ⟨g, k * 7 + 5, none⟩ pb hgpb (.int .i64 (cu - wu))).trans HG.out.kb
      have hnU := (set_ne W6.drew ⟨g, k * 7 + 5, none⟩ G hgG (.int .i64 (cu - wu))).trans HN.out
      have HU : Hid (∀ V, V = W6.drew.setCell ⟨g, k * 7 + 5, none⟩ (.int .i64 (cu - wu)) → V.drew.setCell ⟨g, k * 7 + 6, none⟩ (.int .i64 (cd - wd)) = (W6.drew.drew.setCell ⟨g, k * 7 + 5, none⟩ (.int .i64 (cu - wu))).setCell ⟨g, k * 7 + 6, none⟩ (.int .i64 (cd - wd))) := Lib.hid (fun V hV => by rw [hV]; rfl)
      clear i1 hrc hlc u6 u7
      go_wp2
      rw [show (W6.setCell ⟨g, k * 7 + 5, none⟩ (.int .i64 (cu - wu))).drew = W6.drew.setCell ⟨g, k * 7 + 5, none⟩ (.int .i64 (cu - wu)) from rfl]
      have HV := Lib.hid (HU.out _ rfl)
      clear HU
      generalize W6.drew.setCell ⟨g, k * 7 + 5, none⟩ (.int .i64 (cu - wu)) = U5 at *
      clear n0 n1 n2 n3 d0 d1 d2 d3 q5 q6 qf5 qf6
      obtain ⟨n0, n1, n2, n3, _⟩ := four_cells hnU
      obtain ⟨d0, d1, d2, d3, _⟩ := four_cells hkU
      simp only [Sv.v] at d0 d1 d2 d3
      clear hnU hkU
      go_still_tail 13, (by kernel_rfl)
      change wpList _ _ _ _ _ U5.drew
      clear i2
      go_wp2
      rw [show (U5.setCell ⟨g, k * 7 + 6, none⟩ (.int .i64 (cd - wd))).drew = U5.drew.setCell ⟨g, k * 7 + 6, none⟩ (.int .i64 (cd - wd)) from rfl, HV.out]
      have HG7 := Lib.hid (HSC.out _ HG.out.drew.drew)
      clear n0 n1 n2 n3 d0 d1 d2 d3 q6' qf6'
      have HN7 := Lib.hid ((set_ne2 W6.drew.drew g G (fun e => hgG e.symm) (k * 7 + 5) (k * 7 + 6) (.int .i64 (cu - wu)) (.int .i64 (cd - wd))).trans HN.out)
      have hD7 : D ≤ ((W6.drew.drew.setCell ⟨g, k * 7 + 5, none⟩ (.int .i64 (cu - wu))).setCell ⟨g, k * 7 + 6, none⟩ (.int .i64 (cd - wd))).heap.size := by rw [size_set2]; exact hD6
      generalize (W6.drew.drew.setCell ⟨g, k * 7 + 5, none⟩ (.int .i64 (cu - wu))).setCell ⟨g, k * 7 + 6, none⟩ (.int .i64 (cd - wd)) = U7 at *
      clear HV hgpb hgG HG HN hgs
      obtain ⟨y1, y2, y3, y4, ⟨y5, y6, y7⟩, ⟨y8, y9, y10⟩, ⟨y11, y12, y13⟩⟩ := y'
      obtain ⟨n0, n1, n2, n3, _⟩ := four_cells HN7.out
      obtain ⟨_, _, _, _, m4, _, _, _⟩ := seven_cells HG7.out.kl
      simp only [Sv.v] at m4
      obtain ⟨inf, hinf, hz0, hz1, hz2⟩ := info_parts Try.infoSc
      have hbB : Below U7.heap.size U7 (U7.alloc (.cells #[.string wk, .int .i64 wu, .int .i64 wd, .int .i64 0, .int .i64 0] 51)).drew := ((Below.refl _ _).alloc (Nat.le_refl _) _).drew
      have hoS := owns_keep HG7.out.ys hbB (Nat.le_refl _)
      simp only [Sv.v] at hoS
      have HGB := Lib.hid (HG7.out.keep hbB)
      have hns := HW.out.ns
      have hD8 : D ≤ (U7.alloc (.cells #[.string wk, .int .i64 wu, .int .i64 wd, .int .i64 0, .int .i64 0] 51)).drew.heap.size := by show D ≤ (U7.alloc _).heap.size; simp; omega
      have hcn : ∀ j u, [Value.string wk, .int .i64 wu, .int .i64 wd, .int .i64 0, .int .i64 0][j]? = some u → (U7.alloc (.cells #[.string wk, .int .i64 wu, .int .i64 wd, .int .i64 0, .int .i64 0] 51)).drew.cell? ((⟨U7.heap.size, 0, none⟩ : Addr).add j) = some u := cells_new U7 U7.heap.size rfl [.string wk, .int .i64 wu, .int .i64 wd, .int .i64 0, .int .i64 0] 51
      have HNB := Lib.hid (block_below HN7.out hbB (Array.getElem?_eq_some_iff.1 HN7.out).1)
      have hS0 : U7.drew.cell? ⟨pl, 4, none⟩ = some (.slice y5 y6 y7) ∧ U7.drew.cell? ⟨G, 0, none⟩ = some (.string wk) ∧ U7.drew.cell? ⟨G, 1, none⟩ = some (.int .i64 wu) ∧ U7.drew.cell? ⟨G, 2, none⟩ = some (.int .i64 wd) := ⟨m4, n0, n1, n2⟩
      have HM4 := Lib.hid m4
      have hGG : G < U7.heap.size := (Array.getElem?_eq_some_iff.1 HN7.out).1
      have hlG : pl < U7.heap.size := HG7.out.szl
      clear n0 n1 n2 n3 m4
      refine wp_region_T 16 (fun w' => w'.cell? ⟨pl, 4, none⟩ = some (.slice y5 y6 y7) ∧ w'.cell? ⟨G, 0, none⟩ = some (.string wk) ∧ w'.cell? ⟨G, 1, none⟩ = some (.int .i64 wu) ∧ w'.cell? ⟨G, 2, none⟩ = some (.int .i64 wd)) (by kernel_rfl) ?_
      refine anyT_take (i := 0) (v := .pointer (some ⟨pl, 0, none⟩)) rfl rfl (by kernel_rfl) (by kernel_rfl) (by kernel_rfl) (by kernel_rfl) (by kernel_rfl) (by decide) (fun _ _ _ h => h) (.inl ⟨rfl, fun w' hw => ?_⟩) hS0 ?_
      · go_simp
      refine anyT_take (i := 1) (v := .pointer (some ⟨pl, 0, none⟩)) rfl rfl (by kernel_rfl) (by kernel_rfl) (by kernel_rfl) (by kernel_rfl) (by kernel_rfl) (by decide) (fun _ _ _ h => h) (.inl ⟨rfl, fun w' hw => ?_⟩) hS0 ?_
      · go_simp
      refine anyT_take (i := 5) (v := .pointer (some ⟨G, 0, none⟩)) rfl rfl (by kernel_rfl) (by kernel_rfl) (by kernel_rfl) (by kernel_rfl) (by kernel_rfl) (by decide) (fun _ _ _ h => h) (.inl ⟨rfl, fun w' hw => ?_⟩) hS0 ?_
      · go_simp
      refine anyT_take (i := 7) (v := .pointer (some ⟨G, 1, none⟩)) rfl rfl (by kernel_rfl) (by kernel_rfl) (by kernel_rfl) (by kernel_rfl) (by kernel_rfl) (by decide) (fun _ _ _ h => h) (.inl ⟨rfl, fun w' hw => ?_⟩) hS0 ?_
      · go_simp
      refine anyT_take (i := 9) (v := .pointer (some ⟨G, 2, none⟩)) rfl rfl (by kernel_rfl) (by kernel_rfl) (by kernel_rfl) (by kernel_rfl) (by kernel_rfl) (by decide) (fun _ _ _ h => h) (.inl ⟨rfl, fun w' hw => ?_⟩) hS0 ?_
      · go_simp
      refine anyT_take (i := 2) (v := .pointer (some ⟨pl, 0, none⟩)) rfl rfl (by kernel_rfl) (by kernel_rfl) (by kernel_rfl) (by kernel_rfl) (by kernel_rfl) (by decide) (fun _ _ _ h => h) (.inl ⟨rfl, fun w' hw => ?_⟩) hS0 ?_
      · go_simp
      refine anyT_take (i := 3) (v := .pointer (some ⟨pl, 4, none⟩)) rfl rfl (by kernel_rfl) (by kernel_rfl) (by kernel_rfl) (by kernel_rfl) (by kernel_rfl) (by decide) (fun _ _ _ h => h) (.inl ⟨rfl, fun w' hw => ?_⟩) hS0 ?_
      · go_simp
      refine anyT_take (i := 4) (v := .slice y5 y6 y7) rfl rfl (by kernel_rfl) (by kernel_rfl) (by kernel_rfl) (by kernel_rfl) (by kernel_rfl) (by decide) (fun _ _ _ h => h) (.inl ⟨rfl, fun w' hw => ?_⟩) hS0 ?_
      · obtain ⟨x1, x2, x3, x4⟩ := hw
        go_simp
      refine anyT_take (i := 6) (v := .string wk) rfl rfl (by kernel_rfl) (by kernel_rfl) (by kernel_rfl) (by kernel_rfl) (by kernel_rfl) (by decide) (fun _ _ _ h => h) (.inl ⟨rfl, fun w' hw => ?_⟩) hS0 ?_
      · obtain ⟨x1, x2, x3, x4⟩ := hw
        go_simp
      refine anyT_take (i := 8) (v := .int .i64 wu) rfl rfl (by kernel_rfl) (by kernel_rfl) (by kernel_rfl) (by kernel_rfl) (by kernel_rfl) (by decide) (fun _ _ _ h => h) (.inl ⟨rfl, fun w' hw => ?_⟩) hS0 ?_
      · obtain ⟨x1, x2, x3, x4⟩ := hw
        go_simp
      refine anyT_take (i := 10) (v := .int .i64 wd) rfl rfl (by kernel_rfl) (by kernel_rfl) (by kernel_rfl) (by kernel_rfl) (by kernel_rfl) (by decide) (fun _ _ _ h => h) (.inl ⟨rfl, fun w' hw => ?_⟩) hS0 ?_
      · obtain ⟨x1, x2, x3, x4⟩ := hw
        go_simp
      refine anyT_take (i := 11) (v := .agg #[.string wk, .int .i64 wu, .int .i64 wd, .int .i64 0, .int .i64 0]) rfl rfl (by kernel_rfl) (by kernel_rfl) (by kernel_rfl) (by kernel_rfl) (by kernel_rfl) (by decide) (fun _ _ _ h => h) (.inl ⟨rfl, fun w' hw => ?_⟩) hS0 ?_
      · go_simp
      refine anyT_one (i := 12) (by kernel_rfl) rfl rfl ?_
      go_simp
      refine ⟨hS0, ?_⟩
      refine anyT_one (i := 13) (by kernel_rfl) rfl rfl ?_
      refine wp_append_own (.tmp 153) (.tmp 161) 43 rfl D 51 inf _ 5 48 Try.underlying43 hinf hz0 hz1 hz2 rfl (by decide) _ l.sl.length (cellsT cSc l.sl) rfl hoS _ 1 1 [.string wk, .int .i64 wu, .int .i64 wd, .int .i64 0, .int .i64 0] rfl rfl hcn (cSc_one ⟨wk, wu, wd, 0, 0⟩) (by unfold maxLen; omega) (by omega) hD8 ?_
      intro v3 w3 ho3 hg3 hat3
      obtain ⟨ao3, c3, rfl, _, _⟩ := owns_shape ho3
      obtain ⟨p1, p2, p3⟩ := want_app HGB.out ho3 hg3 hD8
      have hk3 := p2 _ _ _ _ HGB.out.kl (by decide)
      have hn3 := p2 _ _ _ _ HNB.out (by decide)
      obtain ⟨_, _, _, _, m4, _, _, _⟩ := seven_cells hk3
      obtain ⟨n0, n1, n2, n3, _⟩ := four_cells hn3
      simp only [Sv.v] at m4
      have HP1 := Lib.hid p1
      clear p1 p2 ho3 hg3 hat3 hk3 hn3 hoS hcn
      refine ⟨fun _ => ⟨m4, n0, n1, n2⟩, ?_⟩
      refine anyT_one (i := 14) (by kernel_rfl) rfl rfl ?_
      go_simp
      refine anyT_one (i := 15) (by kernel_rfl) rfl rfl ?_
      go_simp
      refine anyT_one (i := 16) (by kernel_rfl) rfl rfl ?_
      go_simp
      refine anyT_done (by kernel_rfl) ?_
      go_wp2
      go_ret
      exact ⟨ret_int HE.out.symm, HP1.out.bel, fun _ => ⟨_, _, by rw [HF2.out]; exact HP1.out⟩⟩

end Go.Proofs.Ytckonmlcgfbojaa
