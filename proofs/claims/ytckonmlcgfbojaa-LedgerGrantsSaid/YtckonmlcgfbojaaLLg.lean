/- The walk of LedgerGrants (under way). -/
import Derived.Test.YtckonmlcgfbojaaLRi
import Derived.Test.YtckonmlcgfbojaaLGq
import Derived.Test.YtckonmlcgfbojaaLRl
namespace Go.Proofs.Ytckonmlcgfbojaa
open Go.RowKit

theorem g_beg : begBk = gB 0 0 0 0 0 := by decide +kernel

def gC (u0 d0 u1 d1 : Int) (s : Nat) (l : Ls) : Bk := ⟨(gB u0 d0 u1 d1 s).cs, [((s : Int), 40)], [l], []⟩
theorem g_arg {d f : Int} {n : Nat} (hd : 0 ≤ d ∧ d < 6) (hf : 0 ≤ f ∧ f < 1073741824) (hn : n ≤ 3) (un : Int) (hu : 0 ≤ un ∧ un ≤ 100) : argOk d (1 + f) un n = true := by
  unfold argOk
  simp
  omega
theorem g_grant {d f : Int} (hd : 0 ≤ d ∧ d < 6) (hf : 0 ≤ f ∧ f < 1073741824) (l : List Wn) (k : Nat) (hk : k ≤ 3) : ∃ u0 d0 u1 d1 s sl, grantS begBk d (1 + f) 77 (wantsTo l k) = (gC u0 d0 u1 d1 s (gL d (1 + f) sl s), gL d (1 + f) sl s, 0) ∧ GQ (wantsTo l k) u0 d0 u1 d1 s sl := by
  obtain ⟨u0, d0, u1, d1, s, sl, h1, h2⟩ := g_go d (1 + f) l k hk
  refine ⟨u0, d0, u1, d1, s, sl, ?_, h2⟩
  rw [grantS_ok (b := begBk) (by rw [length_wantsTo]; exact g_arg hd hf hk 77 (by omega)) (by rfl) (by rw [g_beg]; exact h1)]
  rfl
theorem g_open {d f u0 d0 u1 d1 : Int} {s : Nat} {sl : List Sc} (hd : 0 ≤ d ∧ d < 6) (hf : 0 ≤ f ∧ f < 1073741824) : grantS (gC u0 d0 u1 d1 s (gL d (1 + f) sl s)) d (1 + f) 99 [] = (gC u0 d0 u1 d1 s (gL d (1 + f) sl s), zLs, 19) :=
  grantS_open (g_arg hd hf (by simp) 99 (by omega)) (by simp [gC, gL])
theorem g_find {d f u0 d0 u1 d1 : Int} {s : Nat} {sl : List Sc} : findS (gC u0 d0 u1 d1 s (gL d (1 + f) sl s)) d (1 + f) = (gL d (1 + f) sl s, true) := by
  unfold findS atIx
  simp [gC, gL, idxS]
theorem g_none {d f u0 d0 u1 d1 : Int} {s : Nat} {sl : List Sc} : findS (gC u0 d0 u1 d1 s (gL d (1 + f) sl s)) d (1 + f + 1) = (zLs, false) := by
  unfold findS atIx
  have h : ¬ (1 + f : Int) = 1 + f + 1 := by omega
  simp [gC, gL, idxS, h]

theorem g_rel {x : List Wn} {u0 e0 u1 e1 : Int} {sn : Nat} {sl : List Sc} {L : Ls} (h : GQ x u0 e0 u1 e1 sn sl) (k : Nat) (hk : k < x.length) (hk2 : k < 2) :
    ∃ (h1 : k < (gC u0 e0 u1 e1 sn L).cs.length) (h2 : k < begBk.cs.length) (h3 : k < sl.length), (gC u0 e0 u1 e1 sn L).cs[k].up = begBk.cs[k].up - x[k].up ∧ (gC u0 e0 u1 e1 sn L).cs[k].down = begBk.cs[k].down - x[k].down ∧ sl[k].up = x[k].up ∧ sl[k].down = x[k].down ∧ sl[k].uu = 0 ∧
      (0 ≤ x[k].up ∧ x[k].up ≤ 6) ∧ (0 ≤ x[k].down ∧ x[k].down ≤ 6) ∧ (0 ≤ begBk.cs[k].up ∧ begBk.cs[k].up ≤ 30) ∧ 0 ≤ begBk.cs[k].down ∧ begBk.cs[k].down ≤ 30 := by
  have hh : k = 0 ∨ k = 1 := by omega
  rcases hh with rfl | rfl
  · obtain ⟨a1, a2, ⟨r, a3⟩, a4, a5, a6, a7⟩ := h.a hk
    subst a3
    refine ⟨by simp [gC, gB], by simp [begBk], by simp, ?_⟩
    rw [a1, a2]
    simp [gC, gB, begBk, a4, a5, a6, a7]
  · obtain ⟨a1, a2, a3, a4, a5, a6, a7⟩ := h.b hk
    subst a3
    refine ⟨by simp [gC, gB], by simp [begBk], by simp, ?_⟩
    rw [a1, a2]
    simp [gC, gB, begBk, a4, a5, a6, a7]
theorem gC_grB {x : List Wn} {u0 e0 u1 e1 : Int} {sn : Nat} {sl : List Sc} {dv ep : Int} (h : GQ x u0 e0 u1 e1 sn sl) : GrB (gC u0 e0 u1 e1 sn (gL dv ep sl sn)) := by
  obtain ⟨⟨a1, a2⟩, ⟨a3, a4⟩, ⟨a5, a6⟩, a7, a8⟩ := h.bd
  have hs := h.small
  have hl := h.ln
  refine ⟨by simp [gC, gB], by simp [gC], by simp [gC], by simp [gC], fun l hl' => ?_, small_one _ _ (by omega) (by omega) (by decide), fun c hc => ?_⟩
  · simp only [gC, List.mem_cons, List.not_mem_nil, or_false] at hl'
    subst hl'
    refine ⟨by simp [gL]; omega, ?_, by simp [gL]⟩
    simp only [gL, gI]
    split <;> simp
  · simp only [gC, gB, List.mem_cons, List.not_mem_nil, or_false] at hc
    rcases hc with rfl | rfl
    · simp only; omega
    · simp only; omega
theorem gI_small (s : Nat) (h : s < 19) : Small (gI s) := by
  unfold gI
  split
  · intro r hr; simp at hr
  · exact small_one _ _ (by decide) (by omega) (by omega)
theorem gI_len (s : Nat) : lenR (gI s) = s := by
  unfold gI
  split
  · rename_i h; subst h; rfl
  · simp [lenR]
theorem wants_ids (l : List Wn) (k : Nat) : ∀ x ∈ wantsTo l k, 0 ≤ x.ids ∧ x.ids ≤ 6 := by
  induction k with
  | zero => intro x hx; simp [wantsTo] at hx
  | succ k ih =>
    intro x hx
    rw [wantsTo] at hx
    rcases List.mem_append.1 hx with hx | hx
    · exact ih x hx
    · simp only [List.mem_cons, List.not_mem_nil, or_false] at hx
      subst hx
      have := g_small (l.getD k zWn).ids
      unfold wtS
      split
      · exact this
      · split <;> exact this

set_option maxRecDepth 100000 in
set_option maxHeartbeats 8000000 in
theorem grants_walk (dev ep : Int) (v : Value) (l : List Wn) (w : World) (h : SlWn w v l) : Calls Try.prog 4 #[.int .i64 dev, .int .i64 ep, v] w fun e w' => e = .returned (.bool true) ∧ Below w.heap.size w w' := by
  obtain ⟨ao, cap, rfl, hcap, hcm⟩ := Sl.shape h
  have H := Lib.hid h
  clear h
  go_enter Try.func4, Try.ntmps4
  go_wp2_with fail
  refine (known_any _).mono ?_
  rintro e w1 ⟨rfl, hb1⟩
  by_cases hl3 : 3 < l.length
  · have hl4 : (3 : Int) < l.length := by omega
    go_wp2
    go_ret
    exact ⟨rfl, hb1⟩
  have hl4 : ¬ (3 : Int) < l.length := by omega
  go_wp2_with fail
  refine (begin_any _).mono ?_
  rintro e W2 ⟨⟨⟨ca, cn, cc⟩, ⟨fa, fn, fc⟩, ⟨la, ln, lc⟩, ⟨ba, bn, bc⟩⟩, rfl, hm2, hb2⟩
  have hbA : Below W2.heap.size W2 (W2.alloc (.cells #[.slice ca cn cc, .slice fa fn fc, .slice la ln lc, .slice ba bn bc] 32)) := (Below.refl _ _).alloc (Nat.le_refl _) _
  have hbw2 := hb1.trans (hb2.mono hb1.size)
  have HM3 := Lib.hid (hm2.keep hbA (Nat.le_refl _))
  have K7 := Lib.hid (heap_alloc_new W2 (.cells #[.slice ca cn cc, .slice fa fn fc, .slice la ln lc, .slice ba bn bc] 32))
  have HBW3 := Lib.hid (hbw2.trans (hbA.mono hbw2.size))
  have HV3 := Lib.hid (H.out.keep (hbw2.trans (hbA.mono hbw2.size)) (Nat.le_refl _))
  have hz7 : W2.heap.size < (W2.alloc (.cells #[.slice ca cn cc, .slice fa fn fc, .slice la ln lc, .slice ba bn bc] 32)).heap.size := by simp
  clear hm2 hb2 hb1 hbA hbw2
  go_upto_region 6 with fail
  generalize W2.alloc (.cells #[.slice ca cn cc, .slice fa fn fc, .slice la ln lc, .slice ba bn bc] 32) = W3 at *
  generalize W2.heap.size = p7 at *
  have hd0 := Int.emod_nonneg dev (show (6 : Int) ≠ 0 by omega)
  have hd6 := Int.emod_lt_of_pos dev (show (0 : Int) < 6 by omega)
  have he0 := Int.emod_nonneg ep (show (1073741824 : Int) ≠ 0 by omega)
  have he6 := Int.emod_lt_of_pos ep (show (0 : Int) < 1073741824 by omega)
  go_wp2_with fail
  refine (wi_any dev 6 _ (by omega) (by omega)).mono ?_
  rintro e wq ⟨rfl, rfl⟩
  go_wp2_with fail
  refine (wi_any ep 1073741824 _ (by omega) (by omega)).mono ?_
  rintro e wq ⟨rfl, rfl⟩
  generalize dev % 6 = d at *
  generalize ep % 1073741824 = f at *
  go_wp2_with fail
  refine (wants_any _ l _ HV3.out).mono ?_
  rintro e W4 ⟨xv, rfl, hx, hb4⟩
  have k7 := block_below K7.out hb4 hz7
  obtain ⟨d0, d1, d2, d3, hx9⟩ := four_cells k7
  have HM4 := Lib.hid (HM3.out.keep hb4 (Nat.le_refl _))
  have HX := Lib.hid hx
  have HBW4 := Lib.hid (HBW3.out.trans (hb4.mono HBW3.out.size))
  have HK7 := Lib.hid k7
  clear hx9 k7 hb4 hx HM3 HV3 HBW3
  obtain ⟨u0, e0, u1, e1, sn, sl, hgr, hgq⟩ := g_grant ⟨hd0, hd6⟩ ⟨he0, he6⟩ l (min l.length 3) (by omega)
  have HGR := Lib.hid (show grantS begBk d (1 + f) 77 (wantsS l) = _ from hgr)
  have HGQ := Lib.hid (show GQ (wantsS l) u0 e0 u1 e1 sn sl from hgq)
  clear hgr hgq
  go_wp2_with fail
  refine (grant_any ⟨⟨ca, cn, cc⟩, ⟨fa, fn, fc⟩, ⟨la, ln, lc⟩, ⟨ba, bn, bc⟩⟩ begBk d (1 + f) 77 _ (wantsS l) _ HM4.out begGrB HX.out).mono ?_
  rw [HGR.out]
  rintro e W5 ⟨⟨⟨ga, gn, gc⟩, ⟨ha, hn, hc⟩, ⟨ia, i_n, ic⟩, ⟨ja, jn, jc⟩⟩, ⟨y1, y2, y3, y4, ⟨y5, y6, y7⟩, ⟨y8, y9, y10⟩, ⟨y11, y12, y13⟩⟩, rfl, hm5, hl5, hb5⟩
  have hy1 : y1 = d := hl5.dev
  have hy2 : y2 = 1 + f := hl5.epoch
  have hy3 : y3 = 77 := hl5.unt
  have hy4 : y4 = -1 := hl5.last
  have hy12 : y12 = 0 := (Sl.lens (s := ⟨y11, y12, y13⟩) hl5.u).1
  subst hy1 hy2 hy3 hy4 hy12
  have hbB : Below W5.heap.size W5 ((W5.alloc (.cells #[.slice ga gn gc, .slice ha hn hc, .slice ia i_n ic, .slice ja jn jc] 32)).alloc (.cells #[.int .i64 y1, .int .i64 (1 + f), .int .i64 77, .int .i64 (-1), .slice y5 y6 y7, .slice y8 y9 y10, .slice y11 0 y13] 45)) := ((Below.refl _ _).alloc (Nat.le_refl _) _).alloc (by simp) _
  have K9 := Lib.hid (alloc_first W5 (.cells #[.slice ga gn gc, .slice ha hn hc, .slice ia i_n ic, .slice ja jn jc] 32) (.cells #[.int .i64 y1, .int .i64 (1 + f), .int .i64 77, .int .i64 (-1), .slice y5 y6 y7, .slice y8 y9 y10, .slice y11 0 y13] 45))
  have K10 := Lib.hid (alloc_second W5 (.cells #[.slice ga gn gc, .slice ha hn hc, .slice ia i_n ic, .slice ja jn jc] 32) (.cells #[.int .i64 y1, .int .i64 (1 + f), .int .i64 77, .int .i64 (-1), .slice y5 y6 y7, .slice y8 y9 y10, .slice y11 0 y13] 45))
  have hb45 := hb5.trans (hbB.mono hb5.size)
  have HMB := Lib.hid (HM4.out.keep hb45 (Nat.le_refl _))
  have HMC := Lib.hid (hm5.keep hbB (Nat.le_refl _))
  have HML := Lib.hid (hl5.keep hbB (Nat.le_refl _))
  have HXB := Lib.hid (HX.out.keep hb45 (Nat.le_refl _))
  have K7B := Lib.hid (block_below HK7.out hb45 (Array.getElem?_eq_some_iff.1 HK7.out).1)
  have HBW6 := Lib.hid (HBW4.out.trans (hb45.mono HBW4.out.size))
  clear hm5 hl5 hb5 hbB hb45 d0 d1 d2 d3 HM4 HX HK7 HBW4 HGR
  go_upto_region 11 with fail
  generalize (W5.alloc (.cells #[.slice ga gn gc, .slice ha hn hc, .slice ia i_n ic, .slice ja jn jc] 32)).alloc (.cells #[.int .i64 y1, .int .i64 (1 + f), .int .i64 77, .int .i64 (-1), .slice y5 y6 y7, .slice y8 y9 y10, .slice y11 0 y13] 45) = W6 at *
  generalize hp9 : W5.heap.size = p9 at *
  clear hp9
  have HIDS := Lib.hid (show ∀ x ∈ wantsS l, 0 ≤ x.ids ∧ x.ids ≤ 6 from wants_ids l _)
  have hxl : (wantsS l).length ≤ 3 := by unfold wantsS; rw [length_wantsTo]; omega
  generalize wantsS l = x at *
  obtain ⟨xa, xc, rfl, hxc, hxm⟩ := Sl.shape HXB.out
  go_upto_block 0 with fail
  go_cut [12] (fun v12 wx => v12 = .int .i64 sn ∧ Below W6.heap.size W6 wx)
  case first =>
    go_wp2
    go_loopw [12, 13] (fun v12 v13 wr => ∃ (k : Nat) (N : Int), k ≤ x.length ∧ v13 = .int .i64 k ∧ v12 = .int .i64 N ∧ 0 ≤ N ∧ N ≤ 6 * k ∧ Hid (N = ((x.take k).map (·.ids)).sum) ∧ Below W6.heap.size W6 wr) (fun _ v13 _ => x.length - (intOf v13).toNat)
    case atStart => exact ⟨0, 0, Nat.zero_le _, rfl, rfl, by omega, by omega, Lib.hid rfl, Below.refl _ _⟩
    case round =>
      obtain ⟨k, N, hk, rfl, rfl, hN0, hN6, HN, hb⟩ := hrel
      by_cases hlt : k < x.length
      · obtain ⟨wb, wo, rfl, hwb, c0, c1, c2, c3⟩ := SlT.wn HXB.out hb (Nat.le_refl _) k hlt
        have klt : (k : Int) < x.length := by omega
        obtain ⟨hi0, hi6⟩ := HIDS.out x[k] (List.getElem_mem hlt)
        have HSUM : Hid (((x.take (k + 1)).map (·.ids)).sum = ((x.take k).map (·.ids)).sum + x[k].ids) := Lib.hid (by rw [take_snoc x k hlt, List.map_append, List.sum_append]; simp)
        have i1 : IntKind.i64.wrap (N + x[k].ids) = N + x[k].ids := IntWalk.i64_in _ (by omega)
        obtain ⟨d0, d1, d2, d3, hx9⟩ := four_cells (block_below K7B.out hb (Array.getElem?_eq_some_iff.1 K7B.out).1)
        obtain ⟨f0, f1, f2, f3, hx8⟩ := four_cells (block_below K9.out hb (Array.getElem?_eq_some_iff.1 K9.out).1)
        obtain ⟨n0, n1, n2, n3, n4, n5, n6, hx7⟩ := seven_cells (block_below K10.out hb (Array.getElem?_eq_some_iff.1 K10.out).1)
        clear hx9 hx8 hx7
        by_cases hk2 : k < 2
        · obtain ⟨g1, g2, g3, r1, r2, r3, r4, r5, ⟨r6, r7⟩, ⟨r8, r9⟩, ⟨r10, r11⟩, r12, r13⟩ := g_rel (L := gL y1 (1 + f) sl sn) HGQ.out k hlt hk2
          obtain ⟨hgl, hgc, hgm⟩ := Sl.lens HMC.out.c
          obtain ⟨hbl, hbc, hbm⟩ := Sl.lens HMB.out.c
          obtain ⟨hsl, hsc, hsm⟩ := Sl.lens HML.out.s
          simp only at hgl hgc hgm hbl hbc hbm hsl hsc hsm
          have hmc := HMC.out.c
          have hmb := HMB.out.c
          have hml := HML.out.s
          simp only [gL] at hml hsl hsc
          simp only at hmc hmb
          rw [hgl] at hmc
          rw [hbl] at hmb
          rw [hsl] at hml
          obtain ⟨pb, po, rfl, hpb, _, _, _, _, _, p5, p6⟩ := SlT.ct hmc hb (Nat.le_refl _) k g1
          obtain ⟨qb, qo, rfl, hqb, _, _, _, _, _, q5, q6⟩ := SlT.ct hmb hb (Nat.le_refl _) k g2
          obtain ⟨tb, tq, rfl, htb, _, t1, t2, t3, _⟩ := SlT.sc hml hb (Nat.le_refl _) k g3
          have p5' : wr.cell? ⟨pb, po + k * 7 + 5, none⟩ = some (.int .i64 (begBk.cs[k].up - x[k].up)) := by rw [← r1]; exact p5
          have p6' : wr.cell? ⟨pb, po + k * 7 + 6, none⟩ = some (.int .i64 (begBk.cs[k].down - x[k].down)) := by rw [← r2]; exact p6
          have t1' : wr.cell? ⟨tb, tq + k * 5 + 1, none⟩ = some (.int .i64 x[k].up) := by rw [← r3]; exact t1
          have t2' : wr.cell? ⟨tb, tq + k * 5 + 2, none⟩ = some (.int .i64 x[k].down) := by rw [← r4]; exact t2
          have t3' : wr.cell? ⟨tb, tq + k * 5 + 3, none⟩ = some (.int .i64 0) := by rw [← r5]; exact t3
          clear r1 r2 r3 r4 r5 hmc hmb hml p5 p6 t1 t2 t3
          subst hgl hbl hsl
          generalize x[k].up = xu at *
          generalize x[k].down = xd at *
          generalize x[k].ids = xi at *
          generalize begBk.cs[k].up = bu at *
          generalize begBk.cs[k].down = bd at *
          have i2 : IntKind.i64.wrap (bu - xu) = bu - xu := IntWalk.i64_in _ (by omega)
          have i3 : IntKind.i64.wrap (bd - xd) = bd - xd := IntWalk.i64_in _ (by omega)
          have k2 : (k : Int) < 2 := by omega
          go_wp2_with fail
          clear HXB HMC HMB HML K7B K9 K10 HBW6 HIDS HGQ
          go_quiet (fail)
          clear i1 i2 i3
          go_wp2
          go_roundw
          case rel => exact ⟨k + 1, N + xi, by omega, by go_num, rfl, by omega, by omega, Lib.hid (by rw [HSUM.out, HN.out]), below_drewN hb _⟩
          case measure => simp [intOf]; omega
        · have k2 : ¬ (k : Int) < 2 := by omega
          have kd : decide ((k : Int) < 2) = false := by simpa using k2
          clear HXB HMC HMB HML K7B K9 K10 HBW6 HIDS HGQ
          generalize x[k].up = xu at *
          generalize x[k].down = xd at *
          generalize x[k].ids = xi at *
          go_wp2_with fail
          go_quiet (fail)
          clear i1
          go_wp2
          go_roundw
          case rel => exact ⟨k + 1, N + xi, by omega, by go_num, rfl, by omega, by omega, Lib.hid (by rw [HSUM.out, HN.out]), below_drewN hb _⟩
          case measure => simp [intOf]; omega
      · have hke : k = x.length := by omega
        have HE : Hid (N = (sn : Int)) := Lib.hid (by rw [HN.out, hke, List.take_length]; exact HGQ.out.sum.symm)
        have klt : ¬ (k : Int) < x.length := by omega
        clear hke
        go_wp2
        go_meet
        exact ⟨by rw [HE.out], hb⟩
  case rest =>
  obtain ⟨rfl, hb⟩ := hcut
  obtain ⟨W7, hW7⟩ : ∃ W7, W7 = wc := ⟨_, rfl⟩
  subst hW7
  have k7 := block_below K7B.out hb (Array.getElem?_eq_some_iff.1 K7B.out).1
  have k9 := block_below K9.out hb (Array.getElem?_eq_some_iff.1 K9.out).1
  have k10 := block_below K10.out hb (Array.getElem?_eq_some_iff.1 K10.out).1
  have HM7 := Lib.hid (HMC.out.keep hb (Nat.le_refl _))
  have HL7 := Lib.hid (HML.out.keep hb (Nat.le_refl _))
  have HBW7 := Lib.hid (HBW6.out.trans (hb.mono HBW6.out.size))
  have HS := Lib.hid HGQ.out.small
  have HGB := Lib.hid (gC_grB (dv := y1) (ep := 1 + f) HGQ.out)
  obtain ⟨f0, f1, f2, f3, hx9⟩ := four_cells k9
  have HK9 := Lib.hid k9
  have HK10 := Lib.hid k10
  clear HMC HML HBW6 HMB HXB K7B K9 K10 HIDS k7 k9 k10 hx9 hb
  go_wp2_with fail
  refine (grant_any ⟨⟨ga, gn, gc⟩, ⟨ha, hn, hc⟩, ⟨ia, i_n, ic⟩, ⟨ja, jn, jc⟩⟩ (gC u0 e0 u1 e1 sn (gL y1 (1 + f) sl sn)) y1 (1 + f) 99 _ [] _ HM7.out HGB.out (SlT.nil _ _ _)).mono ?_
  rw [g_open ⟨hd0, hd6⟩ ⟨he0, he6⟩]
  rintro e W8 ⟨⟨⟨ka, kn, kc⟩, ⟨oa, on, oc⟩, ⟨pa, pn, pc⟩, ⟨qa, qn, qc⟩⟩, ⟨z1, z2, z3, z4, ⟨z5, z6, z7⟩, ⟨z8, z9, z10⟩, ⟨z11, z12, z13⟩⟩, rfl, hm8, hl8, hb8⟩
  obtain ⟨W9, hW9⟩ : ∃ W9, (W8.alloc (.cells #[.slice ka kn kc, .slice oa on oc, .slice pa pn pc, .slice qa qn qc] 32)).alloc (.cells #[.int .i64 z1, .int .i64 z2, .int .i64 z3, .int .i64 z4, .slice z5 z6 z7, .slice z8 z9 z10, .slice z11 z12 z13] 45) = W9 := ⟨_, rfl⟩
  have hb89 : Below W8.heap.size W8 W9 := by rw [← hW9]; exact ((Below.refl _ _).alloc (Nat.le_refl _) _).alloc (by simp) _
  have hb79 := hb8.trans (hb89.mono hb8.size)
  have k9 := block_below HK9.out hb79 (Array.getElem?_eq_some_iff.1 HK9.out).1
  have HM9 := Lib.hid (HM7.out.keep hb79 (Nat.le_refl _))
  have HB79 := Lib.hid hb79
  have HW9 := Lib.hid hW9
  clear f0 f1 f2 f3 hm8 hl8 hb8 hb89 hb79 hW9
  obtain ⟨f0, f1, f2, f3, hx9⟩ := four_cells k9
  clear hx9 k9
  go_upto_region 19 with fail
  rw [HW9.out]
  go_wp2_with fail
  refine (find_any ⟨⟨ga, gn, gc⟩, ⟨ha, hn, hc⟩, ⟨ia, i_n, ic⟩, ⟨ja, jn, jc⟩⟩ (gC u0 e0 u1 e1 sn (gL y1 (1 + f) sl sn)) y1 (1 + f) _ HM9.out HGB.out.bkb).mono ?_
  rw [g_find]
  rintro e W10 ⟨⟨v1, v2, v3, v4, ⟨v5, v6, v7⟩, ⟨v8, v9, v10⟩, ⟨v11, v12, v13⟩⟩, rfl, hl10, hb10⟩
  have hv6 : v6 = sl.length := (Sl.lens (s := ⟨v5, v6, v7⟩) hl10.s).1
  subst hv6
  obtain ⟨W11, hW11⟩ : ∃ W11, W10.alloc (.cells #[.int .i64 v1, .int .i64 v2, .int .i64 v3, .int .i64 v4, .slice v5 sl.length v7, .slice v8 v9 v10, .slice v11 v12 v13] 45) = W11 := ⟨_, rfl⟩
  have hb1011 : Below W10.heap.size W10 W11 := by rw [← hW11]; exact (Below.refl _ _).alloc (Nat.le_refl _) _
  have HK17 : Hid (W11.heap[W10.heap.size]? = some (.cells #[.int .i64 v1, .int .i64 v2, .int .i64 v3, .int .i64 v4, .slice v5 sl.length v7, .slice v8 v9 v10, .slice v11 v12 v13] 45 (0, 0))) := Lib.hid (by rw [← hW11]; exact heap_alloc_new _ _)
  have hb711 := HB79.out.trans ((hb10.trans (hb1011.mono hb10.size)).mono HB79.out.size)
  have k9 := block_below HK9.out hb711 (Array.getElem?_eq_some_iff.1 HK9.out).1
  have HM11 := Lib.hid (HM7.out.keep hb711 (Nat.le_refl _))
  have HB711 := Lib.hid hb711
  have HW11 := Lib.hid hW11
  clear f0 f1 f2 f3 hl10 hb10 hb1011 hb711 hW11 HB79 HM9 HW9
  obtain ⟨f0, f1, f2, f3, hx9⟩ := four_cells k9
  clear hx9 k9
  go_upto_region 20 with fail
  rw [HW11.out]
  generalize W10.heap.size = p17 at *
  have hp17 : p17 < W11.heap.size := (Array.getElem?_eq_some_iff.1 HK17.out).1
  go_wp2_with fail
  refine (find_any ⟨⟨ga, gn, gc⟩, ⟨ha, hn, hc⟩, ⟨ia, i_n, ic⟩, ⟨ja, jn, jc⟩⟩ (gC u0 e0 u1 e1 sn (gL y1 (1 + f) sl sn)) y1 (1 + f + 1) _ HM11.out HGB.out.bkb).mono ?_
  rw [g_none]
  rintro e W12 ⟨⟨v1', v2', v3', v4', ⟨v5', v6', v7'⟩, ⟨v8', v9', v10'⟩, ⟨v11', v12', v13'⟩⟩, rfl, hl12, hb12⟩
  obtain ⟨W13, hW13⟩ : ∃ W13, W12.alloc (.cells #[.int .i64 v1', .int .i64 v2', .int .i64 v3', .int .i64 v4', .slice v5' v6' v7', .slice v8' v9' v10', .slice v11' v12' v13'] 45) = W13 := ⟨_, rfl⟩
  have hb1113 : Below W11.heap.size W11 W13 := hb12.trans (by rw [← hW13]; exact (Below.refl _ _).alloc hb12.size _)
  have hb713 := HB711.out.trans (hb1113.mono HB711.out.size)
  have k9 := block_below HK9.out hb713 (Array.getElem?_eq_some_iff.1 HK9.out).1
  have k10 := block_below HK10.out hb713 (Array.getElem?_eq_some_iff.1 HK10.out).1
  have k17 := block_below HK17.out hb1113 hp17
  have HM13 := Lib.hid (HM7.out.keep hb713 (Nat.le_refl _))
  have HL13 := Lib.hid (HL7.out.keep hb713 (Nat.le_refl _))
  have HBW13 := Lib.hid (HBW7.out.trans (hb713.mono HBW7.out.size))
  have HW13 := Lib.hid hW13
  clear f0 f1 f2 f3 hl12 hb12 hb1113 hb713 hW13 HB711 HM11 HW11 HM7 HL7 HK9 HK10 HK17
  obtain ⟨f0, f1, f2, f3, hx9⟩ := four_cells k9
  obtain ⟨n0, n1, n2, n3, n4, n5, n6, hx8⟩ := seven_cells k10
  obtain ⟨a0, a1, a2, a3, a4, a5, a6, hx7⟩ := seven_cells k17
  clear hx9 hx8 hx7
  go_upto_region 21 with fail
  rw [HW13.out]
  have hsn := HS.out
  have hy6 : y6 = sl.length := (Sl.lens (s := ⟨y5, y6, y7⟩) HL13.out.s).1
  subst hy6
  have HK9 := Lib.hid k9
  have HK10 := Lib.hid k10
  have HK17 := Lib.hid k17
  clear k9 k10 k17
  go_wp2_with fail
  refine (rlen_any _ (gI sn) _ HL13.out.i (gI_small _ hsn) (by simp only [gI]; split <;> simp)).mono ?_
  rintro e W14 ⟨rfl, hb14⟩
  rw [gI_len]
  have k9 := block_below HK9.out hb14 (Array.getElem?_eq_some_iff.1 HK9.out).1
  have k10 := block_below HK10.out hb14 (Array.getElem?_eq_some_iff.1 HK10.out).1
  have k17 := block_below HK17.out hb14 (Array.getElem?_eq_some_iff.1 HK17.out).1
  have HM14 := Lib.hid (HM13.out.keep hb14 (Nat.le_refl _))
  have HBW14 := Lib.hid (HBW13.out.trans (hb14.mono HBW13.out.size))
  clear f0 f1 f2 f3 n0 n1 n2 n3 n4 n5 n6 a0 a1 a2 a3 a4 a5 a6 HM13 HBW13 HL13 HW13
  obtain ⟨f0, f1, f2, f3, hx9⟩ := four_cells k9
  clear hx9
  have HK10' := Lib.hid (block_below HK10.out hb14 (Array.getElem?_eq_some_iff.1 HK10.out).1)
  have HK17' := Lib.hid (block_below HK17.out hb14 (Array.getElem?_eq_some_iff.1 HK17.out).1)
  clear HK9 HK10 HK17 k9 k10 k17 hb14
  go_wp2_with fail
  refine (rlen_any _ [((sn : Int), 40)] _ HM14.out.f (small_one _ _ (by omega) (by omega) (by decide)) (by simp)).mono ?_
  rintro e W15 ⟨rfl, hb15⟩
  rw [g_len]
  obtain ⟨n0, n1, n2, n3, n4, n5, n6, hx8⟩ := seven_cells (block_below HK10'.out hb15 (Array.getElem?_eq_some_iff.1 HK10'.out).1)
  obtain ⟨a0, a1, a2, a3, a4, a5, a6, hx7⟩ := seven_cells (block_below HK17'.out hb15 (Array.getElem?_eq_some_iff.1 HK17'.out).1)
  have HFIN := Lib.hid (HBW14.out.trans (hb15.mono HBW14.out.size))
  clear hx8 hx7 hb15 f0 f1 f2 f3
  go_wp2
  go_ret
  exact ⟨rfl, HFIN.out⟩

end Go.Proofs.Ytckonmlcgfbojaa
