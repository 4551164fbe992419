/- The walks of the closures over a key, over a device and an epoch; counter, at, place. -/
import Derived.Test.YtckonmlcgfbojaaLIx2
namespace Go.Proofs.Ytckonmlcgfbojaa
open Go.RowKit

theorem key_eq (a b : ByteArray) : (a.toList == b.toList) = decide (a = b) := by
  rw [Bool.eq_iff_iff, beq_iff_eq, decide_eq_true_iff, ByteArray.toList_eq, ByteArray.toList_eq]
  exact ⟨fun h => ByteArray.ext (Array.toList_inj.1 h), fun h => by rw [h]⟩

theorem counter1_any (c : Ct) (b : Nat) (key : ByteArray) (w : World) (hc : w.cell? ⟨b, 0, none⟩ = some (.string key)) (hb : b < w.heap.size) :
    Calls Try.prog 72 #[aCt c, .pointer (some ⟨b, 0, none⟩)] w fun e w' => e = .returned (.bool (decide (c.key = key))) ∧ Below w.heap.size w w' := by
  have HK := Lib.hid (key_eq c.key key)
  obtain ⟨c1, c2, c3, c4, c5, c6, c7⟩ := c
  go_enter Try.func72, Try.ntmps72
  go_wp2
  go_ret
  exact ⟨ret_bool HK.out, (Below.refl _ _).alloc (Nat.le_refl _) _⟩

theorem Try.enCounter1 (args : Array Value) (W : World) : (callFunc 72 args).run Try.prog W = .ok (.enter 72 args) W := by kernel_rfl
theorem Try.enAt1 (args : Array Value) (W : World) : (callFunc 85 args).run Try.prog W = .ok (.enter 85 args) W := by kernel_rfl

theorem asksCt {w : World} {b : Nat} {key : ByteArray} (hc : w.cell? ⟨b, 0, none⟩ = some (.string key)) (l : List Ct) : Asks Try.prog w 72 #[.pointer (some ⟨b, 0, none⟩)] aCt (fun c => decide (c.key = key)) l := by
  have hb : b < w.heap.size := World.block_lt_of_cell? w _ hc
  exact ⟨Try.enCounter1, fun W hW x _ => counter1_any x b key W (held_below hc hW hb) (Nat.lt_of_lt_of_le hb hW.size)⟩

/-- Where a counter is. -/
def ctIx (l : List Ct) (key : ByteArray) : Int := idxS (fun c => decide (c.key = key)) l

set_option maxHeartbeats 1000000 in
theorem counter_any (x : BkC) (l : List Ct) (key : ByteArray) (w : World) (h : SlCt w x.c.v l) :
    Calls Try.prog 28 #[aBk x, .string key] w fun e w' => e = .returned (.int .i64 (ctIx l key)) ∧ Below w.heap.size w w' := by
  obtain ⟨sc, sf, sl, sb⟩ := x
  have hb1 : Below w.heap.size w ((w.alloc (.cells #[sc.v, sf.v, sl.v, sb.v] 32)).alloc (.cells #[.string key] 9)) := ((Below.refl _ _).alloc (Nat.le_refl _) _).alloc (by simp) _
  have HS := Lib.hid (SlT.keep h hb1 (Nat.le_refl _))
  have HC : Hid (((w.alloc (.cells #[sc.v, sf.v, sl.v, sb.v] 32)).alloc (.cells #[.string key] 9)).cell? ⟨w.heap.size + 1, 0, none⟩ = some (.string key)) := by show _ = _; simp [go_sem]
  have HB := Lib.hid hb1
  clear h hb1
  go_enter Try.func28, Try.ntmps28
  go_wp2_with fail
  refine (idxCt_any _ l _ _ _ _ HS.out (asksCt HC.out l)).mono ?_
  rintro e w1 ⟨rfl, hb2⟩
  have hb3 := HB.out.trans (hb2.mono HB.out.size)
  clear HS HC HB hb2
  go_wp2
  go_ret
  exact ⟨rfl, hb3⟩

end Go.Proofs.Ytckonmlcgfbojaa
