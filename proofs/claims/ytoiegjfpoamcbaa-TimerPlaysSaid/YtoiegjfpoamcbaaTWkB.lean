/- The walks of Push, Pop, index, New, queue, Next. -/
import Derived.Test.YtoiegjfpoamcbaaTWkA
namespace Go.Proofs.Ytoiegjfpoamcbaa
open Go.RowKit

theorem Try.infoW : (Try.prog.info? 52).map (fun i => (i.zero, i.size, i.bytes)) = some (some (.agg #[.int .i64 0, .int .i64 0]), 2, 16) := by kernel_rfl

set_option maxHeartbeats 2000000 in
theorem new_any (w : World) : Calls Try.prog 5 #[] w fun e w' => e = .returned (.pointer (some ⟨w.heap.size, 0, none⟩)) ∧ TmT w' w.heap.size w.heap.size (.slice none 0 0) [] ∧ Below w.heap.size w w' ∧ w.heap.size < w'.heap.size := by
  go_enter Try.func5, Try.ntmps5
  go_wp2
  go_ret
  refine ⟨rfl, ⟨heap_alloc_new w _, World.ownsRow_nil _ _ _ _, Nat.le_refl _, fun g hg => by cases hg⟩, (Below.refl _ _).alloc (Nat.le_refl _) _, by simp⟩

theorem queue_any (w : World) (T : Nat) : Calls Try.prog 20 #[.pointer (some ⟨T, 0, none⟩)] w fun e w' => e = .returned (.iface 58 (.pointer (some ⟨T, 0, none⟩))) ∧ w = w' := by
  go_enter Try.func20, Try.ntmps20
  go_wp2
  go_ret
  exact ⟨rfl, rfl⟩

theorem next_any (w : World) (B T : Nat) (v : Value) (L : List Rw) (h : TmT w B T v L) :
    Calls Try.prog 15 #[.pointer (some ⟨T, 0, none⟩)] w fun e w' => e = .returned (.tuple #[.int .i64 (rw_ L 0).2, .bool (decide (L ≠ []))]) ∧ w = w' := by
  obtain ⟨c, _⟩ := h.cell
  cases L with
  | nil =>
    obtain ⟨ao, cap, rfl, _, _⟩ := owns_shape h.row
    go_enter Try.func15, Try.ntmps15
    go_wp2
    go_ret2
    exact ⟨by simp [rw_], rfl⟩
  | cons r L =>
    obtain ⟨g, cap, rfl, hcap, hm, hg, hgT, a1, a2, hf⟩ := h.two 0 (by simp)
    simp only [Nat.zero_mul, Nat.zero_add, List.getElem_cons_zero] at a1 a2
    have hl : ((L.length : Int) + 1 == 0) = false := by rw [beq_eq_false_iff_ne]; omega
    have hl2 : (0 : Int) < (L.length : Int) + 1 := by omega
    have hl3 : 0 < L.length + 1 := by omega
    simp only [List.length_cons] at c hcap
    go_enter Try.func15, Try.ntmps15
    go_wp2
    go_ret2
    exact ⟨by simp [rw_], rfl⟩

theorem owns_take {w : World} {base : Nat} {e : TypeId} {E g n cap : Nat} {xs : List Value} (h : w.ownsRow base e E (.slice (some ⟨g, 0, none⟩) n cap) n xs) (m : Nat) (hm : m ≤ n) : w.ownsRow base e E (.slice (some ⟨g, 0, none⟩) m cap) m (xs.take (m * E)) := by
  obtain ⟨h0, hv⟩ := h
  rcases hv with ⟨hv, _⟩ | ⟨g', cap', cur, hv, hbg, hg, hnc, hcm, hcz, htake⟩
  · cases hv
  injection hv with hv _ hv3
  injection hv with hv
  injection hv with hv _ _
  subst hv hv3
  have hle : m * E ≤ n * E := Nat.mul_le_mul_right _ hm
  refine ⟨by rw [List.length_take]; omega, .inr ⟨g, cap, cur, rfl, hbg, hg, by omega, hcm, hcz, ?_⟩⟩
  rw [← htake, List.take_take, Nat.min_eq_left hle]

theorem Tm.popped {w : World} {B T g cap : Nat} {ty el : TypeId} {L : List Rw} {r : Rw} (h : Tm w B T ty el (.slice (some ⟨g, 0, none⟩) (L.length + 1) cap) (L ++ [r])) :
    Tm (w.setCell ⟨T, 0, none⟩ (.slice (some ⟨g, 0, none⟩) L.length cap)) B T ty el (.slice (some ⟨g, 0, none⟩) L.length cap) L ∧ Mv T w (.slice (some ⟨g, 0, none⟩) (L.length + 1) cap) (w.setCell ⟨T, 0, none⟩ (.slice (some ⟨g, 0, none⟩) L.length cap)) (.slice (some ⟨g, 0, none⟩) L.length cap) := by
  have hg := h.apart g rfl
  have ho := h.obj
  have hr := h.row
  rw [List.length_append, List.length_singleton] at hr
  have h1 := owns_take hr L.length (by omega)
  rw [cellsW_take, List.take_left] at h1
  refine ⟨⟨?_, ?_, h.base, fun q hq => h.apart q hq⟩, ⟨rfl, rfl, rfl, by simp [World.setCell], fun b _ hT _ => setCell_block_other _ _ _ _ hT, fun q hq => .inl hq⟩⟩
  · simp [World.setCell, Array.getElem?_modify, ho]
  · obtain ⟨x, y⟩ := h1
    refine ⟨x, ?_⟩
    rcases y with y | ⟨g', cap', cur, hv, hbg, hh, rest⟩
    · exact .inl y
    · injection hv with hv _ hv3
      injection hv with hv
      injection hv with hv _ _
      subst hv hv3
      exact .inr ⟨g, cap, cur, rfl, hbg, by rw [setCell_block_other _ _ _ _ hg]; exact hh, rest⟩

set_option maxHeartbeats 2000000 in
theorem pop_any (w : World) (B T : Nat) (v : Value) (L : List Rw) (r : Rw) (h : TmT w B T v (L ++ [r])) (hl : L.length < 1000000) :
    Calls Try.prog 43 #[.pointer (some ⟨T, 0, none⟩)] w fun e w' => e = .returned (.iface 52 (.agg #[.int .i64 r.1, .int .i64 r.2])) ∧ ∃ v', TmT w' B T v' L ∧ Mv T w v w' v' := by
  obtain ⟨c, cf⟩ := h.cell
  have hT := h.lt
  obtain ⟨g, cap, rfl, hcap, hm, hg, hgT, a1, a2, hf⟩ := h.two L.length (by simp)
  simp only [List.length_append, List.length_singleton, List.getElem_append_right (Nat.le_refl _), Nat.sub_self, List.getElem_singleton] at c hcap a1 a2 h
  have HT := Lib.hid h
  clear h hf
  obtain ⟨r1, r2⟩ := r
  simp only at a1 a2
  have w1 : IntKind.i64.wrap ((L.length : Int) + 1 - 1) = (L.length : Int) := by rw [show (L.length : Int) + 1 - 1 = L.length by omega]; exact IntWalk.i64_in _ (by omega)
  have w2 : IntKind.i64.wrap (L.length : Int) = (L.length : Int) := IntWalk.i64_in _ (by clear w1; omega)
  have i1 : (L.length : Int) < (L.length : Int) + 1 := by clear w1 w2; omega
  have i0 : (0 : Int) ≤ (L.length : Int) := by clear w1 w2; omega
  go_enter Try.func43, Try.ntmps43
  go_upto_region 1 with fail
  go_cut [3] (fun a wx => ∃ p, a = .pointer (some ⟨p, 0, none⟩) ∧ wx.heap[p]? = some (.cells #[.int .i64 r1, .int .i64 r2] 52 (0, 0)) ∧ p ≠ T ∧ Below w.heap.size w wx)
  case first =>
    (go_region_held3 (fun w' => w'.cell? ⟨T, 0, none⟩ = some (.slice (some ⟨g, 0, none⟩) (L.length + 1) cap) ∧ w'.cell? ⟨g, L.length * 2, none⟩ = some (.int .i64 r1) ∧ w'.cell? ⟨g, L.length * 2 + 1, none⟩ = some (.int .i64 r2)) (go_keep) (fail))
    all_goals go_wp2
    all_goals go_meet
    all_goals exact ⟨_, rfl, heap_alloc_new w _, by omega, ((Below.refl w.heap.size w).alloc (Nat.le_refl _) _).drew⟩
  case rest =>
  obtain ⟨p, rfl, hp, hpT, hb⟩ := hcut
  have HT2 := Lib.hid (HT.out.keep hb)
  obtain ⟨d, df⟩ := HT2.out.cell
  obtain ⟨c0, c1, hps⟩ := two_cells' hp
  have hpT2 : ¬ T = p := fun e => hpT e.symm
  clear hp a1 a2 c cf
  go_wp2
  go_region
  go_wp2
  go_ret
  have hlen : (L ++ [(r1, r2)]).length = L.length + 1 := by simp
  refine ⟨rfl, _, HT2.out.popped.1.drew, ?_⟩
  rw [hlen]
  exact (Mv.of_below hb).trans HT2.out.popped.2.drew

/-- 'append' to a row of the call's own as one step of a region that draws. -/
theorem step_append_own {P : Program} {ops : Array Oper} {o : Oper} {a : Act} {w : World} {K : Act → World → Prop} {Q : Exit → Act → World → Prop} {E : Prop}
    (hg : o.guard = none) (s x : Operand) (t : TypeId) (hop : o.op = Op.call { callee := Callee.builtin Builtin.append, args := #[s, x], argTypes := #[t, t] })
    (base : Nat) (e : TypeId) (i : TypeInfo) (z : Value) (size bytes : Nat) (ht : P.underlying t = some (.slice e)) (hi : P.info? e = some i) (hz : i.zero = some z)
    (hsize : i.size = size) (hby : i.bytes = bytes) (hzs : z.cells.size = size) (hsz : 0 < size)
    (v : Value) (n : Nat) (xs : List Value) (hs : a.eval s = v) (hown : w.ownsRow base e size v n xs)
    (ad : Addr) (m c : Nat) (news : List Value) (hx : a.eval x = .slice (some ad) m c) (hl : news.length = m * size) (hnews : ∀ j u, news[j]? = some u → w.cell? (ad.add j) = some u) (h1 : ∀ u ∈ news, u.oneCell' = true)
    (h63 : n + m ≤ maxLen) (hbytes : (n + m) * bytes ≤ 140737488355328) (hbase : base ≤ w.heap.size)
    (hK : ∀ v' w', w'.ownsRow base e size v' (n + m) (xs ++ news) → w.grownBy w' v.ownBlock → (v'.ownBlock = v.ownBlock ∨ v'.ownBlock = some w.heap.size) → K (a.put o.dst v') w') :
    if Region.wanted o (yielded ops a.tmps) = true then Oper.wp P o a w K Q else E := by
  have hw : Region.wanted o (yielded ops a.tmps) = true := by simp [Region.wanted, hg]
  rw [if_pos hw]
  obtain ⟨v', w', hr, h2, h3, _, h5⟩ := run_append_own_at (P := P) w base t o.type e i z size bytes ht hi hz hsize hby hzs hsz v n xs hown ad m c news hl hnews h1 h63 hbytes hbase
  unfold Oper.wp execOp
  simp only [hop, resolve, invoke, builtin, Sem.run_bind, Sem.run_pure, Result.andThen_ok, List.map_toArray, List.map_cons, List.map_nil, hs, hx, hr]
  exact hK v' w' h2 h3 h5

theorem Tm.pushed {w w1 w3 : World} {B T : Nat} {ty : TypeId} {v v3 : Value} {L : List Rw} {r : Rw} (h : Tm w B T ty 52 v L) (hb : Below w.heap.size w w1) (ho : w3.ownsRow B 52 2 v3 (L.length + 1) (cellsW L ++ [.int .i64 r.1, .int .i64 r.2]))
    (hg : w1.grownBy w3 v.ownBlock) (hat : v3.ownBlock = v.ownBlock ∨ v3.ownBlock = some w1.heap.size) :
    Tm (w3.setCell ⟨T, 0, none⟩ v3) B T ty 52 v3 (L ++ [r]) ∧ Mv T w v (w3.setCell ⟨T, 0, none⟩ v3) v3 ∧ w3.cell? ⟨T, 0, none⟩ = some v ∧ w3.frozen? ⟨T, 0, none⟩ = false := by
  have hT := h.lt
  have hz := hb.size
  have hap : ∀ g, v3.ownBlock = some g → g ≠ T := by
    intro g hg'
    rcases hat with hat | hat
    · exact h.apart g (hat ▸ hg')
    · rw [hat] at hg'; injection hg' with hg'; omega
  have hob : w3.heap[T]? = some (.cells #[v] ty (0, 0)) := by
    rw [hg.block T (by omega) (fun e => h.apart T e.symm rfl), hb.block T hT]; exact h.obj
  refine ⟨⟨?_, ?_, h.base, hap⟩, ⟨by show w3.os = _; rw [hg.os, hb.os], by show w3.tape = _; rw [hg.tape, hb.tape], by show w3.output = _; rw [hg.output, hb.output], ?_, fun k hk hkT hkv => ?_, fun g hg' => ?_⟩, by simp [World.cell?, hob], by simp [World.frozen?, hob]⟩
  · simp [World.setCell, Array.getElem?_modify, hob]
  · have e1 : (L ++ [r]).length = L.length + 1 := by simp
    have e2 : cellsW (L ++ [r]) = cellsW L ++ [.int .i64 r.1, .int .i64 r.2] := by rw [cellsW_append]; rfl
    rw [e1, e2]
    obtain ⟨x, y⟩ := ho
    refine ⟨x, ?_⟩
    rcases y with y | ⟨g', cap', cur, rfl, hbg, hh, rest⟩
    · exact .inl y
    · exact .inr ⟨g', cap', cur, rfl, hbg, by rw [setCell_block_other _ _ _ _ (hap g' rfl)]; exact hh, rest⟩
  · have := hg.size
    simp [World.setCell]; omega
  · rw [setCell_block_other _ _ _ _ hkT, hg.block k (by omega) (fun e => hkv e.symm), hb.block k hk]
  · rcases hat with hat | hat
    · exact .inl (hat ▸ hg')
    · rw [hat] at hg'; injection hg' with hg'; exact .inr (by omega)

theorem assert_row (r1 r2 : Int) (w : World) : (Instr.typeAssert (.iface 52 (.agg #[.int .i64 r1, .int .i64 r2])) 20 52 true).run Try.prog w = .ok (.tuple #[.agg #[.int .i64 r1, .int .i64 r2], .bool true]) w := by kernel_rfl

set_option maxHeartbeats 2000000 in
theorem push_any (w : World) (B T : Nat) (v : Value) (L : List Rw) (r : Rw) (h : TmT w B T v L) (hl : L.length < 1000000) :
    Calls Try.prog 44 #[.pointer (some ⟨T, 0, none⟩), .iface 52 (.agg #[.int .i64 r.1, .int .i64 r.2])] w fun e w' => e = .returned (.tuple #[]) ∧ ∃ v', TmT w' B T v' (L ++ [r]) ∧ Mv T w v w' v' := by
  obtain ⟨i, hi, hz0, hz1, hz2⟩ := info_parts Try.infoW
  obtain ⟨c, cf⟩ := h.cell
  have hT := h.lt
  have hTn : ¬ T = w.heap.size := by omega
  have hBw : B ≤ w.heap.size := by have := h.base; omega
  have HT := Lib.hid h
  obtain ⟨r1, r2⟩ := r
  have hta := assert_row r1 r2
  go_enter Try.func44, Try.ntmps44
  go_wp2
  have hb1 : Below w.heap.size w (w.alloc (.cells #[.int .i64 r1, .int .i64 r2] 52)) := (Below.refl _ _).alloc (Nat.le_refl _) _
  have hb2 : Below w.heap.size w ((w.alloc (.cells #[.int .i64 r1, .int .i64 r2] 52)).drew.alloc (.cells #[.int .i64 r1, .int .i64 r2] 52)) := hb1.drew.alloc (by simp) _
  have ho := owns_keep h.row hb2 (Nat.le_refl _)
  go_region_law (refine step_append_own rfl (.tmp 16) (.tmp 18) 37 rfl B 52 i _ 2 16 Try.underlying37 hi hz0 hz1 hz2 rfl (by decide) v L.length (cellsW L) rfl ho _ 1 1 [.int .i64 r1, .int .i64 r2] rfl rfl (cells_two_at _ _ _ _ _ (by first | rfl | simp)) (by simp [Value.oneCell']) (by unfold maxLen; omega) (by omega) (by simp; omega) ?_; intro v3 w3 ho3 hg3 hat3; obtain ⟨ao3, c3, rfl, _, _⟩ := owns_shape ho3; obtain ⟨p1, p2, p3, p4⟩ := HT.out.pushed (r := (r1, r2)) hb2 ho3 hg3 hat3)
  all_goals
    go_end0
    exact ⟨rfl, _, p1, p2⟩

/-- Where an id is. -/
def IdxP (L : List Rw) (id : Int) (r : Int) : Prop := (∃ k : Nat, k < L.length ∧ r = k ∧ (rw_ L k).1 = id ∧ ∀ j, j < k → (rw_ L j).1 ≠ id) ∨ (r = -1 ∧ ∀ j, j < L.length → (rw_ L j).1 ≠ id)
def RetIdx (w : World) (L : List Rw) (id : Int) (e : Ending) (w' : World) : Prop := ∃ r, IdxP L id r ∧ e = .returned (.int .i64 r) ∧ Below w.heap.size w w'

set_option maxHeartbeats 2000000 in
theorem index_any (w : World) (B T : Nat) (v : Value) (L : List Rw) (id : Int) (h : TmT w B T v L) (hl : L.length < 1000000) :
    Calls Try.prog 18 #[.pointer (some ⟨T, 0, none⟩), .int .i64 id] w (RetIdx w L id) := by
  obtain ⟨c, cf⟩ := h.cell
  obtain ⟨ao, cap, rfl, hcap, hm⟩ := owns_shape h.row
  go_enter Try.func18, Try.ntmps18
  go_wp2
  go_loopw [12] (fun ix wr => ∃ k : Nat, k ≤ L.length ∧ ix = .int .i64 k ∧ (∀ j, j < k → (rw_ L j).1 ≠ id) ∧ Below w.heap.size w wr) (fun ix _ => L.length - (intOf ix).toNat)
  case atStart => exact ⟨0, Nat.zero_le _, rfl, fun j hj => by omega, Below.refl _ _⟩
  case round =>
    obtain ⟨k, hk, rfl, hj, hb⟩ := hrel
    have HJ := Lib.hid hj
    clear hj
    have hz := hb.size
    rcases Nat.lt_or_ge k L.length with hlt | hge
    · obtain ⟨g, cap', he, _, _, hg, _, a1, a2, _⟩ := h.two k hlt
      injection he with he _ _
      subst he
      have b1 := held_below a1 hb hg
      have b2 := held_below a2 hb hg
      have HR := Lib.hid (rw_eq L k hlt)
      have hbA := fun o => hb.alloc hz o
      have HBA := Lib.hid hbA
      clear a1 a2 hbA
      generalize L[k] = r at *
      obtain ⟨r1, r2⟩ := r
      simp only at b1 b2
      by_cases hid : r1 = id
      · subst hid
        go_wp2
        go_ret
        exact ⟨k, .inl ⟨k, hlt, rfl, by rw [HR.out], HJ.out⟩, rfl, HBA.out _⟩
      · have e1 : (r1 == id) = false := by simpa using hid
        have HN := Lib.hid hid
        clear hid
        go_wp2
        go_roundw
        case rel =>
          refine ⟨k + 1, by omega, by go_num, fun j hj => ?_, HBA.out _⟩
          by_cases hjk : j = k
          · subst hjk; rw [HR.out]; exact HN.out
          · exact HJ.out j (by omega)
        case measure => simp [intOf]; omega
    · have dk : decide (k < L.length) = false := by simpa using hge
      go_wp2
      go_ret
      exact ⟨-1, .inr ⟨rfl, fun j hj => HJ.out j (by omega)⟩, rfl, hb⟩

end Go.Proofs.Ytoiegjfpoamcbaa
