/- Laws for slices.Delete on rows of the call's own; its walk at leases. -/
import Derived.Test.YtckonmlcgfbojaaLIn
namespace Go.Proofs.Ytckonmlcgfbojaa
open Go.RowKit

/-- Cells are written into a row of the call's own. -/
theorem run_store_own {P : Program} (w : World) (base : Nat) (e : TypeId) (E g n cap o : Nat) (xs cs : List Value) (hown : w.ownsRow base e E (.slice (some ⟨g, 0, none⟩) n cap) n xs)
    (hle : o + cs.length ≤ n * E) (h1 : ∀ v ∈ cs, v.oneCell' = true) :
    ∃ w', (storeCells ⟨g, o, none⟩ cs).run P w = .ok () w' ∧ w'.ownsRow base e E (.slice (some ⟨g, 0, none⟩) n cap) n (xs.take o ++ cs ++ xs.drop (o + cs.length)) ∧ w.grownBy w' (some g) := by
  obtain ⟨h0, hv⟩ := hown
  rcases hv with ⟨hv, _⟩ | ⟨g', cap', cur, hv, hbg, hg, hnc, hcm, hcz, htake⟩
  · cases hv
  injection hv with hv _ hv3
  injection hv with hv
  injection hv with hv _ _
  subst hv hv3
  have hle3 : n * E ≤ cap * E := Nat.mul_le_mul_right _ hnc
  have hst := run_storeCells_at P g o e cs 0 cur w hg (by rw [hcz]; omega) h1
  simp only [Nat.add_zero] at hst
  have hlen : (xs.take o ++ cs ++ xs.drop (o + cs.length)).length = n * E := by simp only [List.length_append, List.length_take, List.length_drop, h0]; omega
  refine ⟨_, hst, ⟨hlen, .inr ⟨g, cap, _, rfl, hbg, setRow_heap w g cur _ e _ hg, hnc, hcm, ?_, ?_⟩⟩, ⟨rfl, rfl, rfl, by simp [World.setRow], fun k hk hne => setRow_other w g k _ (fun h => hne (by rw [h]))⟩⟩
  · rw [List.size_toArray]; simp only [List.length_append, List.length_take, List.length_drop, Array.length_toList, hcz]; omega
  · have hc2 : cur.toList = xs ++ cur.toList.drop (n * E) := by rw [← htake, List.take_append_drop]
    have := take_splice xs (cur.toList.drop (n * E)) cs o cs.length rfl (by omega)
    rw [← hc2, h0] at this
    exact this

/-- 'append(s[:k], x...)' within the row's length. -/
theorem run_append_in {P : Program} (w : World) (t ty e : TypeId) (i : TypeInfo) (E : Nat) (hu : P.underlying t = some (.slice e)) (hi : P.info? e = some i) (hsz : i.size = E)
    (base g n cap k m xc : Nat) (xs : List Value) (hown : w.ownsRow base e E (.slice (some ⟨g, 0, none⟩) n cap) n xs)
    (ao : Option Addr) (cs : List Value) (hle : k + m ≤ n) (hcs : cs.length = m * E) (hrd : Rd w ao cs) (h1 : ∀ v ∈ cs, v.oneCell' = true) :
    ∃ w', (Builtin.append_ #[t, t] ty #[.slice (some ⟨g, 0, none⟩) k cap, .slice ao m xc]).run P w = .ok (.slice (some ⟨g, 0, none⟩) (k + m) cap) w' ∧
      w'.ownsRow base e E (.slice (some ⟨g, 0, none⟩) n cap) n (xs.take (k * E) ++ cs ++ xs.drop (k * E + m * E)) ∧ w.grownBy w' (some g) := by
  have hnc := (owns_block hown).2.2.1
  have hle2 : k * E + m * E ≤ n * E := by rw [← Nat.add_mul]; exact Nat.mul_le_mul_right _ hle
  obtain ⟨w', hr, ho, hg⟩ := run_store_own (P := P) w base e E g n cap (k * E) xs cs hown (by omega) h1
  rw [hcs] at ho
  refine ⟨w', ?_, ho, hg⟩
  have hload : (Builtin.firstCells i.size m (.slice ao m xc)).run P w = .ok cs.toArray w := by
    rcases ao with _ | a
    · cases cs with
      | nil => simp [Builtin.firstCells]
      | cons c cs => obtain ⟨a, ha, _⟩ := hrd 0 c rfl; cases ha
    · have hl := run_loadCells_list (P := P) w a cs (fun j v hv => by obtain ⟨a', ha, h⟩ := hrd j v hv; injection ha with ha; subst ha; exact h)
      simp only [Builtin.firstCells, hsz, ← hcs, hl]
  have hadd : (⟨g, 0, none⟩ : Addr).add (k * i.size) = ⟨g, k * E, none⟩ := by rw [Addr.add_lit, hsz, Nat.zero_add]
  have hroom : k + m ≤ cap := by omega
  simp [Builtin.append_, run_underlying hu, Builtin.lenOf, sizeOf, typeInfo, hi, hload, hroom, hadd, hr]

/-- 'clear(s)' of a part of a row of the call's own. -/
theorem run_clear_own {P : Program} (w : World) (t e : TypeId) (i : TypeInfo) (z : Value) (E : Nat) (hu : P.underlying t = some (.slice e)) (hi : P.info? e = some i) (hz : i.zero = some z) (hzs : z.cells.size = E) (hz1 : ∀ v ∈ z.cells, v.oneCell' = true)
    (base g n cap o m c : Nat) (xs : List Value) (hown : w.ownsRow base e E (.slice (some ⟨g, 0, none⟩) n cap) n xs) (hm : 0 < m) (hle : o + m * E ≤ n * E) :
    ∃ w' zs, (∀ ty, (Builtin.clear_ #[t] ty #[.slice (some ⟨g, o, none⟩) m c]).run P w = .ok (.tuple #[]) w') ∧ zs.length = m * E ∧
      w'.ownsRow base e E (.slice (some ⟨g, 0, none⟩) n cap) n (xs.take o ++ zs ++ xs.drop (o + m * E)) ∧ w.grownBy w' (some g) := by
  have hzl : (Builtin.zeroCells z.cells m).toList.length = m * E := by simp [Builtin.zeroCells, hzs]
  have hone : ∀ v ∈ (Builtin.zeroCells z.cells m).toList, v.oneCell' = true := by
    intro v hv
    simp only [Builtin.zeroCells, Array.toList_map, Array.toList_range, List.mem_map, List.mem_range] at hv
    obtain ⟨j, hj, rfl⟩ := hv
    have h0 : 0 < z.cells.size := by
      rcases Nat.eq_zero_or_pos z.cells.size with h | h
      · rw [h, Nat.mul_zero] at hj; omega
      · exact h
    rw [getElem!_pos z.cells _ (Nat.mod_lt _ h0)]
    exact hz1 _ (Array.getElem_mem _)
  obtain ⟨w', hr, ho, hg⟩ := run_store_own (P := P) w base e E g n cap o xs (Builtin.zeroCells z.cells m).toList hown (by rw [hzl]; exact hle) hone
  rw [hzl] at ho
  refine ⟨w', _, fun ty => ?_, hzl, ho, hg⟩
  obtain ⟨q, rfl⟩ : ∃ q, m = q + 1 := ⟨m - 1, by omega⟩
  simp [Builtin.clear_, run_underlying hu, zeroValue, typeInfo, hi, hz, hr]

/-- A shorter part of a row of the call's own. -/
theorem owns_cut {w : World} {base : Nat} {e : TypeId} {E g n cap : Nat} {xs : List Value} (h : w.ownsRow base e E (.slice (some ⟨g, 0, none⟩) n cap) n xs) (m : Nat) (hm : m ≤ n) :
    w.ownsRow base e E (.slice (some ⟨g, 0, none⟩) m cap) m (xs.take (m * E)) := by
  obtain ⟨h0, hv⟩ := h
  rcases hv with ⟨hv, _⟩ | ⟨g', cap', cur, hv, hbg, hg, hnc, hcm, hcz, htake⟩
  · cases hv
  injection hv with hv _ hv3
  injection hv with hv
  injection hv with hv _ _
  subst hv hv3
  have hle : m * E ≤ n * E := Nat.mul_le_mul_right _ hm
  refine ⟨by rw [List.length_take, h0]; omega, .inr ⟨g, cap, cur, rfl, hbg, hg, by omega, hcm, hcz, ?_⟩⟩
  rw [← htake, List.take_take, Nat.min_eq_left hle]

theorem wpList_run_clear {P : Program} {w : World} {ops : Array Oper} {rest : List Oper} {o : Oper} {a : Act} {Q : Exit → Act → World → Prop} (hgd : o.guard = none) (d : Operand) (t : TypeId)
    (ho : o.op = .call { callee := .builtin .clear, args := #[d], argTypes := #[t] }) (v : Value) (hd : a.eval d = v) {v' : Value} {w' : World}
    (hr : (Builtin.clear_ #[t] o.type #[v]).run P w = .ok v' w') (h : wpList P ops Q rest (a.put o.dst v') w') : wpList P ops Q (o :: rest) a w := by
  refine wpList_plain hgd fun K hK => ?_
  unfold Oper.wp
  simp [execOp, ho, resolve, invoke, builtin, hd, hr, Result.andThen]
  exact hK _ _ h

/-- 's[k:h]', s from its block's begin on. -/
theorem run_slice_mid {P : Program} (t e : TypeId) (i : TypeInfo) (E : Nat) (hu : P.underlying t = some (.slice e)) (hi : P.info? e = some i) (hsz : i.size = E)
    (g n cap k m : Nat) (K M : Int) (hK : K = k) (hM : M = m) (hk : k ≤ m) (hm : m ≤ cap) (hlt : k < cap) (w : World) :
    (Instr.sliceAt t (.slice (some ⟨g, 0, none⟩) n cap) (some (.int .i64 K)) (some (.int .i64 M)) none).run P w = .ok (.slice (some ⟨g, k * E, none⟩) (m - k) (cap - k)) w := by
  subst hK hM
  have he : P.elem t = e := by simp [Program.elem, hu]
  have hu' : P.underlying t = some (.slice (P.elem t)) := by rw [he]; exact hu
  have hrun := run_slice_lh (P := P) (w := w) t (some ⟨g, 0, none⟩) n cap hu' .i64 .i64 (k : Int) (m : Int) (by omega) (by omega) (by omega)
  have hsz' : (sizeOf (P.elem t)).run P w = .ok i.size w := by simp [sizeOf, typeInfo, he, hi]
  simp only [hsz', Result.andThen, sliced, Int.toNat_natCast] at hrun
  rw [if_neg (by omega), Option.map_some, Addr.add_lit, hsz, Nat.zero_add] at hrun
  simp [Instr.sliceAt, run_underlying hu, hrun]
theorem run_slice_head {P : Program} (t e : TypeId) (i : TypeInfo) (hu : P.underlying t = some (.slice e)) (hi : P.info? e = some i)
    (g n cap m : Nat) (M : Int) (hM : M = m) (hm : m ≤ cap) (w : World) :
    (Instr.sliceAt t (.slice (some ⟨g, 0, none⟩) n cap) none (some (.int .i64 M)) none).run P w = .ok (.slice (some ⟨g, 0, none⟩) m cap) w := by
  subst hM
  have he : P.elem t = e := by simp [Program.elem, hu]
  have hu' : P.underlying t = some (.slice (P.elem t)) := by rw [he]; exact hu
  have hrun := run_slice_h (P := P) (w := w) t (some ⟨g, 0, none⟩) n cap hu' .i64 (m : Int) (by omega) (by omega)
  have hsz' : (sizeOf (P.elem t)).run P w = .ok i.size w := by simp [sizeOf, typeInfo, he, hi]
  have ha : (⟨g, 0, none⟩ : Addr).add (0 * i.size) = ⟨g, 0, none⟩ := by rw [Addr.add_lit, Nat.zero_mul]
  simp only [hsz', Result.andThen, sliced, Int.toNat_natCast, Option.map_some, ha, ite_self, Nat.sub_zero] at hrun
  simp [Instr.sliceAt, run_underlying hu, hrun]

set_option maxRecDepth 100000 in
set_option maxHeartbeats 8000000 in
theorem deleteLs_any (g n c i : Nat) (xs : List Value) (w : World) (B : Nat) (hown : w.ownsRow B 45 7 (.slice (some ⟨g, 0, none⟩) n c) n xs) (h1x : ∀ u ∈ xs, u.oneCell' = true) (hn : n < 100000) (hi : i < n) :
    Calls Try.prog 58 #[.slice (some ⟨g, 0, none⟩) n c, .int .i64 i, .int .i64 (i + 1)] w fun e w' => e = .returned (.slice (some ⟨g, 0, none⟩) (n - 1) c) ∧ w'.ownsRow B 45 7 (.slice (some ⟨g, 0, none⟩) (n - 1) c) (n - 1) (xs.take (i * 7) ++ xs.drop ((i + 1) * 7)) ∧ w.grownBy w' (some g) := by
  obtain ⟨inf, hinf, hz0, hz1, hz2⟩ := info_parts Try.infoLs
  obtain ⟨p1, p2, p3, p4, p5, p6, p7⟩ := owns_block hown
  have HRX : Rd w.drew (some ⟨g, (i + 1) * 7, none⟩) (xs.drop ((i + 1) * 7)) := by
    have h0 : Rd w.drew (some ⟨g, 0, none⟩) xs := fun j u hu => ⟨_, rfl, by rw [Addr.add_lit, Nat.zero_add]; exact p7 j u hu⟩
    have := h0.at_drop ((i + 1) * 7)
    rw [Nat.zero_add] at this
    exact this
  have hdl : (xs.drop ((i + 1) * 7)).length = (n - (i + 1)) * 7 := by rw [List.length_drop, p5, ← Nat.sub_mul]
  obtain ⟨ao25, hao25, hrun25⟩ := run_slice_from (P := Try.prog) 29 45 inf 7 Try.underlying29 hinf hz1 g 0 n c (i + 1) ((i : Int) + 1) (by omega) (by omega) p3
  rw [Nat.zero_add] at hao25
  have hrd : Rd w.drew ao25 (xs.drop ((i + 1) * 7)) := by
    rcases Nat.lt_or_ge (i + 1) c with h | h
    · rw [hao25 h]; exact HRX
    · have : xs.drop ((i + 1) * 7) = [] := List.drop_eq_nil_of_le (by rw [p5]; exact Nat.mul_le_mul_right _ (by omega))
      rw [this]; exact Rd.nil _ _
  obtain ⟨w1, hr1, ho1, hg1⟩ := run_append_in (P := Try.prog) w.drew 29 29 45 inf 7 Try.underlying29 hinf hz1 B g n c i (n - (i + 1)) (c - (i + 1)) xs hown ao25 _ (by omega) hdl hrd (fun u hu => h1x u (List.mem_of_mem_drop hu))
  obtain ⟨m, hm⟩ : ∃ m, n = m + 1 := ⟨n - 1, by omega⟩
  have e1 : i + (n - (i + 1)) = m := by omega
  have e2 : n - 1 = m := by omega
  rw [e1] at hr1
  rw [e2]
  obtain ⟨w2, zs, hr2, hzl, ho2, hg2⟩ := run_clear_own (P := Try.prog) w1 29 45 inf _ 7 Try.underlying29 hinf hz0 (by decide) (by decide) B g n c (m * 7) 1 (c - m) _ ho1 (by omega) (by omega)
  have ho3 := owns_cut ho2 m (by omega)
  have hl1 : (xs.take (i * 7) ++ xs.drop ((i + 1) * 7)).length = m * 7 := by rw [List.length_append, List.length_take, List.length_drop, p5]; omega
  have hres : ((xs.take (i * 7) ++ xs.drop ((i + 1) * 7) ++ xs.drop (i * 7 + (n - (i + 1)) * 7)).take (m * 7) ++ zs ++ (xs.take (i * 7) ++ xs.drop ((i + 1) * 7) ++ xs.drop (i * 7 + (n - (i + 1)) * 7)).drop (m * 7 + 1 * 7)).take (m * 7) = xs.take (i * 7) ++ xs.drop ((i + 1) * 7) := by
    have h1 : (xs.take (i * 7) ++ xs.drop ((i + 1) * 7) ++ xs.drop (i * 7 + (n - (i + 1)) * 7)).take (m * 7) = xs.take (i * 7) ++ xs.drop ((i + 1) * 7) := by
      rw [List.take_append_of_le_length (by omega), ← hl1, List.take_length]
    rw [h1, List.append_assoc, List.take_append_of_le_length (by omega), ← hl1, List.take_length]
  rw [hres] at ho3
  have HO3 := Lib.hid ho3
  have HGB : Hid (w.grownBy w2 (some g)) := Lib.hid ⟨hg2.os.trans hg1.os, hg2.tape.trans hg1.tape, hg2.output.trans hg1.output, Nat.le_trans hg1.size hg2.size, fun k hk hne => (hg2.block k (Nat.lt_of_lt_of_le hk hg1.size) hne).trans (hg1.block k hk hne)⟩
  have HMID := Lib.hid (run_slice_mid (P := Try.prog) 29 45 inf 7 Try.underlying29 hinf hz1 g m c m n (m : Int) (n : Int) rfl rfl (by omega) p3 (by omega))
  rw [show n - m = 1 by omega] at HMID
  have HHEAD := Lib.hid (run_slice_head (P := Try.prog) 29 45 inf Try.underlying29 hinf g n c i (i : Int) rfl (by omega))
  have HRUN := Lib.hid hrun25
  have HR1 := Lib.hid hr1
  have HR2 := Lib.hid hr2
  have hin : (i : Int) < n := by omega
  have hn5 : (n : Int) < 100000 := by omega
  have hmn : (m : Int) ≤ n := by omega
  have hnc : (n : Int) ≤ c := by omega
  have hiw : IntKind.i64.wrap ((i : Int) + 1) = (i : Int) + 1 := IntWalk.i64_in _ (by omega)
  have hie : ((i : Int) == (i : Int) + 1) = false := by rw [beq_eq_false_iff_ne]; omega
  clear hown ho1 ho2 ho3 HRX hg1 hg2 hr1 hr2 hrun25 hao25 hrd hdl hzl hl1 hres p5 p6 p7 h1x hz0 hz1 hz2 hinf e1 e2 hm
  go_enter Try.func58, Try.ntmps58
  go_upto_region 5 with fail
  have hrun22 := HHEAD.out
  have hrun25 := HRUN.out
  go_still_tail 6, (by kernel_rfl)
  clear hrun22 hrun25
  refine wpList_run_append rfl _ _ 29 29 rfl _ _ rfl rfl HR1.out ?_
  have hmid := HMID.out
  go_wp2_with (refine wpList_run_clear rfl _ 29 rfl _ rfl (HR2.out _) ?_)
  go_ret
  exact ⟨rfl, HO3.out, HGB.out⟩

end Go.Proofs.Ytckonmlcgfbojaa
