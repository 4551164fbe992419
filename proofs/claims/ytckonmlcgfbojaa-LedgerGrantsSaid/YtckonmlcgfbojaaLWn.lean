/- The walk of Wants. -/
import Derived.Test.YtckonmlcgfbojaaLLa
import Derived.Test.YtckonmlcgfbojaaHeld2
namespace Go.Proofs.Ytckonmlcgfbojaa
open Go.RowKit

def zWn : Wn := ⟨⟨#[]⟩, 0, 0, 0⟩
def wtS (i : Nat) (w : Wn) : Wn := if i = 0 then ⟨⟨#[97]⟩, w.up % 7, w.down % 7, w.ids % 7⟩ else if i = 1 then ⟨⟨#[98]⟩, w.up % 7, w.down % 7, w.ids % 7⟩ else ⟨⟨#[]⟩, 0, 0, w.ids % 7⟩
/-- The first k wants, made small. -/
def wantsTo (l : List Wn) : Nat → List Wn
  | 0 => []
  | k + 1 => wantsTo l k ++ [wtS k (l.getD k zWn)]
def wantsS (l : List Wn) : List Wn := wantsTo l (min l.length 3)
theorem length_wantsTo (l : List Wn) (k : Nat) : (wantsTo l k).length = k := by
  induction k with
  | zero => rfl
  | succ k ih => rw [wantsTo, List.length_append, ih]; rfl
theorem bel_alloc {w V : World} (h : Below w.heap.size w V) (o : Obj) : Below w.heap.size w (V.alloc o) := h.alloc h.size o

theorem Try.infoWn2 : (Try.prog.info? 49).map (fun i => (i.zero, i.size, i.bytes)) = some (some (.agg #[.string ⟨#[]⟩, .int .i64 0, .int .i64 0, .int .i64 0]), 4, 40) := by kernel_rfl
theorem cells_fresh (w : World) (cs : List Value) (t : TypeId) : ∀ j u, cs[j]? = some u → (w.alloc (.cells cs.toArray t)).cell? ((⟨w.heap.size, 0, none⟩ : Addr).add j) = some u := fun j u hu => by
  obtain ⟨a, ha, hc⟩ := rd_new w w.heap.size rfl cs t j u hu
  injection ha with ha
  subst ha
  exact hc
def RetWs (w : World) (l : List Wn) (e : Ending) (w' : World) : Prop := ∃ v, e = .returned v ∧ SlWn w' v l ∧ Below w.heap.size w w'
/-- A want that was just made. -/
def MidW (_w wr : World) (key : ByteArray) (u d i : Int) (v5 : Value) (wx : World) : Prop := ∃ g, v5 = .pointer (some ⟨g, 0, none⟩) ∧ wr.heap.size ≤ g ∧ wx.heap[g]? = some (.cells #[.string key, .int .i64 u, .int .i64 d, .int .i64 i] 49 (0, 0)) ∧ Below wr.heap.size wr wx

def AbcAt (wr V : World) : Prop := Below wr.heap.size wr V ∧ V.heap[wr.heap.size]? = some (.cells #[.string ⟨#[97]⟩, .string ⟨#[98]⟩, .string ⟨#[]⟩] 9 (0, 0))
def Abc2 (wr V U : World) : Prop := Below wr.heap.size wr U ∧ U.heap[V.heap.size]? = some (.cells #[.string ⟨#[97]⟩, .string ⟨#[98]⟩, .string ⟨#[]⟩] 9 (0, 0)) ∧ U.heap[wr.heap.size]? = some (.cells #[.string ⟨#[]⟩, .int .i64 0, .int .i64 0, .int .i64 0] 49 (0, 0))

set_option maxRecDepth 100000 in
set_option maxHeartbeats 8000000 in
theorem wants_any (v : Value) (l : List Wn) (w : World) (h : SlWn w v l) : Calls Try.prog 16 #[v] w (RetWs w (wantsS l)) := by
  obtain ⟨ao, cap, rfl, hcap, hcm⟩ := Sl.shape h
  have H := Lib.hid h
  clear h
  go_enter Try.func16, Try.ntmps16
  go_wp2
  go_loopw [3, 4] (fun v3 v4 wr => ∃ k : Nat, k ≤ l.length ∧ k ≤ 3 ∧ v4 = .int .i64 k ∧ wr.ownsRow w.heap.size 49 4 v3 k (cellsT cWn (wantsTo l k)) ∧ Below w.heap.size w wr) (fun _ v4 _ => 3 - (intOf v4).toNat)
  case atStart => exact ⟨0, Nat.zero_le _, Nat.zero_le _, rfl, World.ownsRow_nil _ _ _ _, Below.refl _ _⟩
  case round =>
    obtain ⟨k, hk, hk3, rfl, ho, hb⟩ := hrel
    have HO := Lib.hid ho
    have hz := hb.size
    by_cases hlt : k < l.length ∧ k < 3
    · obtain ⟨h1, h2⟩ := hlt
      obtain ⟨wb, wo, rfl, hwb, c0, c1, c2, c3⟩ := SlT.wn H.out hb (Nat.le_refl _) k h1
      have klt : (k : Int) < l.length := by omega
      have HGD : Hid (l.getD k zWn = l[k]) := Lib.hid (by simp [List.getD, List.getElem?_eq_getElem h1])
      obtain ⟨key, hkey⟩ : ∃ key : ByteArray, (if k = 0 then (⟨#[97]⟩ : ByteArray) else if k = 1 then ⟨#[98]⟩ else ⟨#[]⟩) = key := ⟨_, rfl⟩
      have HKEY := Lib.hid hkey
      clear hkey
      have HW := Lib.hid (show wantsTo l (k + 1) = wantsTo l k ++ [wtS k (l.getD k zWn)] from rfl)
      rw [HGD.out] at HW
      generalize hwn : l[k] = wn at *
      obtain ⟨wk, wu, wd, wi⟩ := wn
      simp only at c0 c1 c2 c3
      have HWN := Lib.hid hwn
      clear hwn ho
      have hwr : wb < wr.heap.size := by omega
      have KS : Hid (∀ V, Below wr.heap.size wr V → (Below wr.heap.size wr V ∧ V.cell? ⟨wb, wo + k * 4 + 1, none⟩ = some (.int .i64 wu) ∧ V.cell? ⟨wb, wo + k * 4 + 2, none⟩ = some (.int .i64 wd) ∧ V.cell? ⟨wb, wo + k * 4 + 3, none⟩ = some (.int .i64 wi))) :=
        Lib.hid (fun V hV => ⟨hV, by rw [hV.cell (p := ⟨wb, wo + k * 4 + 1, none⟩) hwr]; exact c1, by rw [hV.cell (p := ⟨wb, wo + k * 4 + 2, none⟩) hwr]; exact c2, by rw [hV.cell (p := ⟨wb, wo + k * 4 + 3, none⟩) hwr]; exact c3⟩)
      have hr0 : Below wr.heap.size wr wr := Below.refl _ _
      have HB := Lib.hid hb
      go_upto_region 5 with fail
      go_cut [5] (fun v5 wx => MidW w wr key (wu % 7) (wd % 7) (wi % 7) v5 wx)
      case first =>
        have hkk : k = 0 ∨ k = 1 ∨ k = 2 := by omega
        clear HO HWN HW HGD HB hb
        have hS0 : Below wr.heap.size wr wr.drew := hr0.drew
        refine wp_region_T 24 (fun w' => Below wr.heap.size wr w') (by kernel_rfl) ?_
        refine anyT_take (i := 1) (v := .int .i64 k) rfl rfl (by kernel_rfl) (by kernel_rfl) (by kernel_rfl) (by kernel_rfl) (by kernel_rfl) (by decide) (fun _ _ _ h => h) (.inl ⟨rfl, fun w' hw => ?_⟩) hS0 ?_
        · go_simp
        refine anyT_take (i := 4) (v := .slice (some ⟨wb, wo, none⟩) l.length cap) rfl rfl (by kernel_rfl) (by kernel_rfl) (by kernel_rfl) (by kernel_rfl) (by kernel_rfl) (by decide) (fun _ _ _ h => h) (.inl ⟨rfl, fun w' hw => ?_⟩) hS0 ?_
        · go_simp
        refine anyT_take (i := 5) (v := .int .i64 k) rfl rfl (by kernel_rfl) (by kernel_rfl) (by kernel_rfl) (by kernel_rfl) (by kernel_rfl) (by decide) (fun _ _ _ h => h) (.inl ⟨rfl, fun w' hw => ?_⟩) hS0 ?_
        · go_simp
        refine anyT_take (i := 6) (v := .pointer (some ⟨wb, wo + k * 4, none⟩)) rfl rfl (by kernel_rfl) (by kernel_rfl) (by kernel_rfl) (by kernel_rfl) (by kernel_rfl) (by decide) (fun _ _ _ h => h) (.inl ⟨rfl, fun w' hw => ?_⟩) hS0 ?_
        · go_simp
        refine anyT_take (i := 7) (v := .pointer (some ⟨wb, wo + k * 4 + 1, none⟩)) rfl rfl (by kernel_rfl) (by kernel_rfl) (by kernel_rfl) (by kernel_rfl) (by kernel_rfl) (by decide) (fun _ _ _ h => h) (.inl ⟨rfl, fun w' hw => ?_⟩) hS0 ?_
        · go_simp
        refine anyT_take (i := 8) (v := .int .i64 wu) rfl rfl (by kernel_rfl) (by kernel_rfl) (by kernel_rfl) (by kernel_rfl) (by kernel_rfl) (by decide) (fun _ _ _ h => h) (.inl ⟨rfl, fun w' hw => ?_⟩) hS0 ?_
        · obtain ⟨_, x1, x2, x3⟩ := KS.out _ hw
          go_simp
        refine anyT_call (i := 9) (v := .int .i64 (wu % 7)) rfl rfl (by kernel_rfl) (by kernel_rfl) (by kernel_rfl) (by kernel_rfl) (by kernel_rfl) (by decide) (fun _ _ _ h => h) ⟨rfl, 11, #[.int .i64 wu, .int .i64 7], fun w' hw => ?_, fun w' hw => wi_still _ 7 _ (by omega) (by omega)⟩ hS0 ?_
        · go_simp
        refine anyT_take (i := 10) (v := .slice (some ⟨wb, wo, none⟩) l.length cap) rfl rfl (by kernel_rfl) (by kernel_rfl) (by kernel_rfl) (by kernel_rfl) (by kernel_rfl) (by decide) (fun _ _ _ h => h) (.inl ⟨rfl, fun w' hw => ?_⟩) hS0 ?_
        · go_simp
        refine anyT_take (i := 11) (v := .int .i64 k) rfl rfl (by kernel_rfl) (by kernel_rfl) (by kernel_rfl) (by kernel_rfl) (by kernel_rfl) (by decide) (fun _ _ _ h => h) (.inl ⟨rfl, fun w' hw => ?_⟩) hS0 ?_
        · go_simp
        refine anyT_take (i := 12) (v := .pointer (some ⟨wb, wo + k * 4, none⟩)) rfl rfl (by kernel_rfl) (by kernel_rfl) (by kernel_rfl) (by kernel_rfl) (by kernel_rfl) (by decide) (fun _ _ _ h => h) (.inl ⟨rfl, fun w' hw => ?_⟩) hS0 ?_
        · go_simp
        refine anyT_take (i := 13) (v := .pointer (some ⟨wb, wo + k * 4 + 2, none⟩)) rfl rfl (by kernel_rfl) (by kernel_rfl) (by kernel_rfl) (by kernel_rfl) (by kernel_rfl) (by decide) (fun _ _ _ h => h) (.inl ⟨rfl, fun w' hw => ?_⟩) hS0 ?_
        · go_simp
        refine anyT_take (i := 14) (v := .int .i64 wd) rfl rfl (by kernel_rfl) (by kernel_rfl) (by kernel_rfl) (by kernel_rfl) (by kernel_rfl) (by decide) (fun _ _ _ h => h) (.inl ⟨rfl, fun w' hw => ?_⟩) hS0 ?_
        · obtain ⟨_, x1, x2, x3⟩ := KS.out _ hw
          go_simp
        refine anyT_call (i := 15) (v := .int .i64 (wd % 7)) rfl rfl (by kernel_rfl) (by kernel_rfl) (by kernel_rfl) (by kernel_rfl) (by kernel_rfl) (by decide) (fun _ _ _ h => h) ⟨rfl, 11, #[.int .i64 wd, .int .i64 7], fun w' hw => ?_, fun w' hw => wi_still _ 7 _ (by omega) (by omega)⟩ hS0 ?_
        · go_simp
        refine anyT_take (i := 16) (v := .slice (some ⟨wb, wo, none⟩) l.length cap) rfl rfl (by kernel_rfl) (by kernel_rfl) (by kernel_rfl) (by kernel_rfl) (by kernel_rfl) (by decide) (fun _ _ _ h => h) (.inl ⟨rfl, fun w' hw => ?_⟩) hS0 ?_
        · go_simp
        refine anyT_take (i := 17) (v := .int .i64 k) rfl rfl (by kernel_rfl) (by kernel_rfl) (by kernel_rfl) (by kernel_rfl) (by kernel_rfl) (by decide) (fun _ _ _ h => h) (.inl ⟨rfl, fun w' hw => ?_⟩) hS0 ?_
        · go_simp
        refine anyT_take (i := 18) (v := .pointer (some ⟨wb, wo + k * 4, none⟩)) rfl rfl (by kernel_rfl) (by kernel_rfl) (by kernel_rfl) (by kernel_rfl) (by kernel_rfl) (by decide) (fun _ _ _ h => h) (.inl ⟨rfl, fun w' hw => ?_⟩) hS0 ?_
        · go_simp
        refine anyT_take (i := 19) (v := .pointer (some ⟨wb, wo + k * 4 + 3, none⟩)) rfl rfl (by kernel_rfl) (by kernel_rfl) (by kernel_rfl) (by kernel_rfl) (by kernel_rfl) (by decide) (fun _ _ _ h => h) (.inl ⟨rfl, fun w' hw => ?_⟩) hS0 ?_
        · go_simp
        refine anyT_take (i := 20) (v := .int .i64 wi) rfl rfl (by kernel_rfl) (by kernel_rfl) (by kernel_rfl) (by kernel_rfl) (by kernel_rfl) (by decide) (fun _ _ _ h => h) (.inl ⟨rfl, fun w' hw => ?_⟩) hS0 ?_
        · obtain ⟨_, x1, x2, x3⟩ := KS.out _ hw
          go_simp
        refine anyT_call (i := 21) (v := .int .i64 (wi % 7)) rfl rfl (by kernel_rfl) (by kernel_rfl) (by kernel_rfl) (by kernel_rfl) (by kernel_rfl) (by decide) (fun _ _ _ h => h) ⟨rfl, 11, #[.int .i64 wi, .int .i64 7], fun w' hw => ?_, fun w' hw => wi_still _ 7 _ (by omega) (by omega)⟩ hS0 ?_
        · go_simp
        refine anyT_two (i := 0) (j := 23) (by kernel_rfl) rfl rfl rfl rfl ?_ ?_
        · go_simp
          have hb3 := bel_alloc hS0 (.cells #[.string ⟨#[97]⟩, .string ⟨#[98]⟩, .string ⟨#[]⟩] 9)
          refine ⟨hb3, ?_⟩
          have hk3' := heap_alloc_new wr.drew (.cells #[.string ⟨#[97]⟩, .string ⟨#[98]⟩, .string ⟨#[]⟩] 9)
          refine anyT_world (F := fun V => AbcAt wr V) ⟨hb3, hk3'⟩ (fun V HV => ?_)
          obtain ⟨hbV, hkV⟩ := HV
          refine anyT_more (S' := fun w' => AbcAt wr w') (fun _ h => h.1) _ _ _ _ ?_
          have hS1 : AbcAt wr V := ⟨hbV, hkV⟩
          have hzV := (Array.getElem?_eq_some_iff.1 hkV).1
          refine anyT_take (i := 2) (v := .pointer (some ⟨wr.heap.size, k, none⟩)) rfl rfl (by kernel_rfl) (by kernel_rfl) (by kernel_rfl) (by kernel_rfl) (by kernel_rfl) (by decide) (fun _ _ _ h => h) (.inl ⟨rfl, fun w' hw => ?_⟩) hS1 ?_
          · rcases hkk with rfl | rfl | rfl <;> go_simp
          refine anyT_take (i := 3) (v := .string key) rfl rfl (by kernel_rfl) (by kernel_rfl) (by kernel_rfl) (by kernel_rfl) (by kernel_rfl) (by decide) (fun _ _ _ h => h) (.inl ⟨rfl, fun w' hw => ?_⟩) hS1 ?_
          · have x4 := hw.2
            have y0 : w'.cell? ⟨wr.heap.size, 0, none⟩ = some (.string ⟨#[97]⟩) := by simp [World.cell?, x4]
            have y1 : w'.cell? ⟨wr.heap.size, 1, none⟩ = some (.string ⟨#[98]⟩) := by simp [World.cell?, x4]
            have y2 : w'.cell? ⟨wr.heap.size, 2, none⟩ = some (.string ⟨#[]⟩) := by simp [World.cell?, x4]
            have hky := HKEY.out
            clear x4
            rw [← hky]
            clear hky
            rcases hkk with rfl | rfl | rfl <;> go_simp
          refine anyT_take (i := 22) (v := .agg #[.string key, .int .i64 (wu % 7), .int .i64 (wd % 7), .int .i64 (wi % 7)]) rfl rfl (by kernel_rfl) (by kernel_rfl) (by kernel_rfl) (by kernel_rfl) (by kernel_rfl) (by decide) (fun _ _ _ h => h) (.inl ⟨rfl, fun w' hw => ?_⟩) hS1 ?_
          · go_simp
          have hAA : Below V.heap.size V (V.alloc (.cells #[.string ⟨#[]⟩, .int .i64 0, .int .i64 0, .int .i64 0] 49)) := (Below.refl _ _).alloc (Nat.le_refl _) _
          have hS2 : AbcAt wr (V.alloc (.cells #[.string ⟨#[]⟩, .int .i64 0, .int .i64 0, .int .i64 0] 49)) := ⟨bel_alloc hbV _, block_below hkV hAA hzV⟩
          have hsV : wr.heap.size ≤ V.heap.size := by omega
          refine anyT_one (i := 23) (by kernel_rfl) rfl rfl ?_
          go_simp
          refine anyT_one (i := 24) (by kernel_rfl) rfl rfl ?_
          go_simp
          refine anyT_done (by kernel_rfl) ?_
          go_wp2
          go_meet
          exact ⟨V.heap.size, rfl, hsV, heap_alloc_new _ _, bel_alloc hbV _⟩
        · go_simp
          have hb3 := bel_alloc hS0 (.cells #[.string ⟨#[]⟩, .int .i64 0, .int .i64 0, .int .i64 0] 49)
          refine ⟨hb3, ?_⟩
          have hkb := heap_alloc_new wr.drew (.cells #[.string ⟨#[]⟩, .int .i64 0, .int .i64 0, .int .i64 0] 49)
          refine anyT_world (F := fun V => Below wr.heap.size wr V ∧ V.heap[wr.heap.size]? = some (.cells #[.string ⟨#[]⟩, .int .i64 0, .int .i64 0, .int .i64 0] 49 (0, 0))) ⟨hb3, hkb⟩ (fun V HV => ?_)
          obtain ⟨hbV, hkV⟩ := HV
          have hzV := (Array.getElem?_eq_some_iff.1 hkV).1
          have HKV := Lib.hid hkV
          clear hkV
          refine anyT_one (i := 0) (by kernel_rfl) rfl rfl ?_
          go_simp
          have hb4 := bel_alloc hbV (.cells #[.string ⟨#[97]⟩, .string ⟨#[98]⟩, .string ⟨#[]⟩] 9)
          refine ⟨hb4, ?_⟩
          have hk4 := heap_alloc_new V (.cells #[.string ⟨#[97]⟩, .string ⟨#[98]⟩, .string ⟨#[]⟩] 9)
          have hAA : Below V.heap.size V (V.alloc (.cells #[.string ⟨#[97]⟩, .string ⟨#[98]⟩, .string ⟨#[]⟩] 9)) := (Below.refl _ _).alloc (Nat.le_refl _) _
          have hkB := block_below HKV.out hAA hzV
          refine anyT_world (F := fun U => Abc2 wr V U) ⟨hb4, hk4, hkB⟩ (fun U HU => ?_)
          refine anyT_more (S' := fun w' => Abc2 wr V w') (fun _ h => h.1) _ _ _ _ ?_
          have HUH := Lib.hid HU
          refine anyT_take (i := 2) (v := .pointer (some ⟨V.heap.size, k, none⟩)) rfl rfl (by kernel_rfl) (by kernel_rfl) (by kernel_rfl) (by kernel_rfl) (by kernel_rfl) (by decide) (fun _ _ _ h => h) (.inl ⟨rfl, fun w' hw => ?_⟩) HU ?_
          · rcases hkk with rfl | rfl | rfl <;> go_simp
          refine anyT_take (i := 3) (v := .string key) rfl rfl (by kernel_rfl) (by kernel_rfl) (by kernel_rfl) (by kernel_rfl) (by kernel_rfl) (by decide) (fun _ _ _ h => h) (.inl ⟨rfl, fun w' hw => ?_⟩) HU ?_
          · have x4 := hw.2.1
            have y0 : w'.cell? ⟨V.heap.size, 0, none⟩ = some (.string ⟨#[97]⟩) := by simp [World.cell?, x4]
            have y1 : w'.cell? ⟨V.heap.size, 1, none⟩ = some (.string ⟨#[98]⟩) := by simp [World.cell?, x4]
            have y2 : w'.cell? ⟨V.heap.size, 2, none⟩ = some (.string ⟨#[]⟩) := by simp [World.cell?, x4]
            have hky := HKEY.out
            clear x4
            rw [← hky]
            clear hky
            rcases hkk with rfl | rfl | rfl <;> go_simp
          refine anyT_take (i := 22) (v := .agg #[.string key, .int .i64 (wu % 7), .int .i64 (wd % 7), .int .i64 (wi % 7)]) rfl rfl (by kernel_rfl) (by kernel_rfl) (by kernel_rfl) (by kernel_rfl) (by kernel_rfl) (by decide) (fun _ _ _ h => h) (.inl ⟨rfl, fun w' hw => ?_⟩) HU ?_
          · go_simp
          obtain ⟨g0, g1, g2, g3, hx9⟩ := four_cells HUH.out.2.2
          have f0 := four_free HUH.out.2.2 0
          have f1 := four_free HUH.out.2.2 1
          have f2 := four_free HUH.out.2.2 2
          have f3 := four_free HUH.out.2.2 3
          clear hx9 HU
          refine anyT_one (i := 24) (by kernel_rfl) rfl rfl ?_
          go_simp
          refine anyT_done (by kernel_rfl) ?_
          go_wp2
          go_meet
          exact ⟨wr.heap.size, rfl, Nat.le_refl _, set_four HUH.out.2.2 _ _ _ _, (((HUH.out.1.setCell (Nat.le_refl _) _).setCell (Nat.le_refl _) _).setCell (Nat.le_refl _) _).setCell (Nat.le_refl _) _⟩
      case rest =>
      obtain ⟨g, rfl, hg, hkg, hbx⟩ := hcut
      obtain ⟨W5, hW5⟩ : ∃ W5, W5 = wc := ⟨_, rfl⟩
      subst hW5
      obtain ⟨inf, hinf, hz0, hz1, hz2⟩ := info_parts Try.infoWn2
      obtain ⟨e0, e1, e2, e3, hx9⟩ := four_cells hkg
      have f1 := four_free hkg 1
      have f2 := four_free hkg 2
      have HKG := Lib.hid hkg
      have HB5 := Lib.hid (HB.out.trans (hbx.mono HB.out.size))
      have HO5 := Lib.hid (owns_keep HO.out hbx (Nat.le_refl _))
      clear hx9 hkg hbx KS hr0 c0 c1 c2 c3 hb
      by_cases hk2 : k = 2
      · have s1 : ((k : Int) == 2) = true := by simp [hk2]
        have HK2 := Lib.hid hk2
        clear hk2
        have ho6 := owns_ne HO5.out (fun c hc => set_ne2 W5 g c hc 1 2 (.int .i64 0) (.int .i64 0)) (fun e => by have := (HO.out.lt g e).2; omega)
        have hb6 := (HB5.out.setCell (p := ⟨g, 1, none⟩) (by simp; omega) (.int .i64 0)).setCell (p := ⟨g, 2, none⟩) (by simp; omega) (.int .i64 0)
        have HO6 := Lib.hid ho6
        have HB6 := Lib.hid hb6
        have hk6 : (((W5.setCell ⟨g, 1, none⟩ (.int .i64 0)).setCell ⟨g, 2, none⟩ (.int .i64 0))).heap[g]? = some (.cells #[.string key, .int .i64 0, .int .i64 0, .int .i64 (wi % 7)] 49 (0, 0)) := by simp [World.setCell, Array.getElem?_modify, HKG.out]
        clear ho6 hb6
        go_upto_region 8 with fail
        generalize ((W5.setCell ⟨g, 1, none⟩ (.int .i64 0)).setCell ⟨g, 2, none⟩ (.int .i64 0)) = W6 at *
        clear e0 e1 e2 e3 f1 f2
        obtain ⟨e0, e1, e2, e3, hx8⟩ := four_cells hk6
        clear hx8 hk6
        have hbA : Below W6.heap.size W6 (W6.alloc (.cells #[.string key, .int .i64 0, .int .i64 0, .int .i64 (wi % 7)] 49)) := (Below.refl _ _).alloc (Nat.le_refl _) _
        have hoA := owns_keep HO6.out hbA (Nat.le_refl _)
        have hcn := cells_fresh W6 [.string key, .int .i64 0, .int .i64 0, .int .i64 (wi % 7)] 49
        have hbw := HB6.out.trans (hbA.mono HB6.out.size)
        have hbs := hbw.size
        have HWT : Hid (wantsTo l (k + 1) = wantsTo l k ++ [⟨key, 0, 0, wi % 7⟩]) := Lib.hid (by rw [HW.out, ← HKEY.out]; simp [wtS, HK2.out])
        clear hbA
        go_wp2_with ((with_reducible refine at_slot 46 ?_); refine wpList_append_own _ rfl _ _ 40 rfl w.heap.size 49 inf _ 4 40 Try.underlying40 hinf hz0 hz1 hz2 rfl (by decide) _ k (cellsT cWn (wantsTo l k)) rfl hoA ⟨W6.heap.size, 0, none⟩ 1 1 [.string key, .int .i64 0, .int .i64 0, .int .i64 (wi % 7)] rfl rfl hcn (cWn_one ⟨key, 0, 0, wi % 7⟩) (by unfold maxLen; omega) (by omega) hbs ?_; intro v5 w5 ho5 hg5 _)
        go_roundw
        case rel => exact ⟨k + 1, by omega, by omega, by go_num, by rw [HWT.out, cellsT_append, cellsT_one]; exact ho5, hbw.grown hg5 hbs (fun g' hg' => (HO.out.lt g' hg').1)⟩
        case measure => simp [intOf]; omega
      · have s1 : ((k : Int) == 2) = false := by simp; omega
        have hbA : Below W5.heap.size W5 (W5.alloc (.cells #[.string key, .int .i64 (wu % 7), .int .i64 (wd % 7), .int .i64 (wi % 7)] 49)) := (Below.refl _ _).alloc (Nat.le_refl _) _
        have hoA := owns_keep HO5.out hbA (Nat.le_refl _)
        have hcn := cells_fresh W5 [.string key, .int .i64 (wu % 7), .int .i64 (wd % 7), .int .i64 (wi % 7)] 49
        have hbw := HB5.out.trans (hbA.mono HB5.out.size)
        have hbs := hbw.size
        have HWT : Hid (wantsTo l (k + 1) = wantsTo l k ++ [⟨key, (wu % 7), (wd % 7), wi % 7⟩]) := Lib.hid (by rw [HW.out, ← HKEY.out]; (have h01 : k = 0 ∨ k = 1 := by omega); rcases h01 with rfl | rfl <;> simp [wtS])
        clear hbA
        go_wp2_with ((with_reducible refine at_slot 46 ?_); refine wpList_append_own _ rfl _ _ 40 rfl w.heap.size 49 inf _ 4 40 Try.underlying40 hinf hz0 hz1 hz2 rfl (by decide) _ k (cellsT cWn (wantsTo l k)) rfl hoA ⟨W5.heap.size, 0, none⟩ 1 1 [.string key, .int .i64 (wu % 7), .int .i64 (wd % 7), .int .i64 (wi % 7)] rfl rfl hcn (cWn_one ⟨key, (wu % 7), (wd % 7), wi % 7⟩) (by unfold maxLen; omega) (by omega) hbs ?_; intro v5 w5 ho5 hg5 _)
        go_roundw
        case rel => exact ⟨k + 1, by omega, by omega, by go_num, by rw [HWT.out, cellsT_append, cellsT_one]; exact ho5, hbw.grown hg5 hbs (fun g' hg' => (HO.out.lt g' hg').1)⟩
        case measure => simp [intOf]; omega
    · have hke : k = min l.length 3 := by omega
      have HE : Hid (wantsS l = wantsTo l k) := by show _ = _; unfold wantsS; rw [← hke]
      clear hke
      have HL := Lib.hid (length_wantsTo l k)
      clear ho
      by_cases h1 : k < l.length
      · have h2 : k = 3 := by omega
        subst h2
        have klt : ((3 : Nat) : Int) < l.length := by omega
        go_wp2
        go_ret
        refine ⟨_, rfl, ?_, hb⟩
        rw [HE.out]
        show Sl _ _ _ (wantsTo l 3).length _
        rw [HL.out]
        exact sl_of_owns HO.out
      · have klt : ¬ (k : Int) < l.length := by omega
        go_wp2
        go_ret
        refine ⟨_, rfl, ?_, hb⟩
        rw [HE.out]
        show Sl _ _ _ (wantsTo l k).length _
        rw [HL.out]
        exact sl_of_owns HO.out

end Go.Proofs.Ytckonmlcgfbojaa
