/- The walks of at, among, and of the closures of at, among, apart, slices. -/
import Derived.Test.YtckonmlcgfbojaaLIx
namespace Go.Proofs.Ytckonmlcgfbojaa
open Go.RowKit

set_option maxHeartbeats 1000000 in
theorem at1_any (x : LsC) (b1 b2 : Nat) (d ep : Int) (w : World) (h1 : w.cell? ⟨b1, 0, none⟩ = some (.int .i64 d)) (h2 : w.cell? ⟨b2, 0, none⟩ = some (.int .i64 ep)) (hb1 : b1 < w.heap.size) (hb2 : b2 < w.heap.size) :
    Calls Try.prog 85 #[aLs x, .pointer (some ⟨b1, 0, none⟩), .pointer (some ⟨b2, 0, none⟩)] w fun e w' => e = .returned (.bool (decide (x.dev = d) && decide (x.epoch = ep))) ∧ Below w.heap.size w w' := by
  obtain ⟨x1, x2, x3, x4, ⟨x5, x6, x7⟩, ⟨x8, x9, x10⟩, ⟨x11, x12, x13⟩⟩ := x
  go_enter Try.func85, Try.ntmps85
  go_wp2
  all_goals
    go_ret
    exact ⟨ret_bool (by first | (simp [*]; done) | (simp [*]; rfl) | (simp [*]; omega)), (Below.refl _ _).alloc (Nat.le_refl _) _⟩

theorem asksAt {w : World} {b1 b2 : Nat} {d ep : Int} (h1 : w.cell? ⟨b1, 0, none⟩ = some (.int .i64 d)) (h2 : w.cell? ⟨b2, 0, none⟩ = some (.int .i64 ep)) (l : List LsC) : Asks Try.prog w 85 #[.pointer (some ⟨b1, 0, none⟩), .pointer (some ⟨b2, 0, none⟩)] aLs (fun c => decide (c.dev = d) && decide (c.epoch = ep)) l := by
  have hb1 : b1 < w.heap.size := World.block_lt_of_cell? w _ h1
  have hb2 : b2 < w.heap.size := World.block_lt_of_cell? w _ h2
  exact ⟨Try.enAt1, fun W hW x _ => at1_any x b1 b2 d ep W (held_below h1 hW hb1) (held_below h2 hW hb2) (Nat.lt_of_lt_of_le hb1 hW.size) (Nat.lt_of_lt_of_le hb2 hW.size)⟩

/-- Where a lease is. -/
def atIx (l : List Ls) (d ep : Int) : Int := idxS (fun c => decide (c.dev = d) && decide (c.epoch = ep)) l
theorem idxS_all2 {α β : Type} {R : α → β → Prop} {p : α → Bool} {q : β → Bool} : ∀ {l : List α} {m : List β}, All2 R l m → (∀ a b, R a b → p a = q b) → idxS p l = idxS q m
  | [], [], _, _ => rfl
  | a :: l, b :: m, h, hp => by rw [idxS, idxS, hp a b h.1, idxS_all2 h.2 hp]
  | [], _ :: _, h, _ => absurd h (by simp [All2])
  | _ :: _, [], h, _ => absurd h (by simp [All2])
theorem any_all2 {α β : Type} {R : α → β → Prop} {p : α → Bool} {q : β → Bool} : ∀ {l : List α} {m : List β}, All2 R l m → (∀ a b, R a b → p a = q b) → l.any p = m.any q
  | [], [], _, _ => rfl
  | a :: l, b :: m, h, hp => by rw [List.any_cons, List.any_cons, hp a b h.1, any_all2 h.2 hp]
  | [], _ :: _, h, _ => absurd h (by simp [All2])
  | _ :: _, [], h, _ => absurd h (by simp [All2])

set_option maxHeartbeats 1000000 in
theorem at_any (x : BkC) (ls : List Ls) (d ep : Int) (w : World) (h : SlL w x.l.v ls) :
    Calls Try.prog 45 #[aBk x, .int .i64 d, .int .i64 ep] w fun e w' => e = .returned (.int .i64 (atIx ls d ep)) ∧ Below w.heap.size w w' := by
  obtain ⟨sc, sf, sl, sb⟩ := x
  obtain ⟨xs, hx, hxs⟩ := h
  have hb1 : Below w.heap.size w (((w.alloc (.cells #[sc.v, sf.v, sl.v, sb.v] 32)).alloc (.cells #[.int .i64 d] 3)).alloc (.cells #[.int .i64 ep] 3)) := (((Below.refl _ _).alloc (Nat.le_refl _) _).alloc (by simp) _).alloc (by simp; omega) _
  have HS := Lib.hid (SlT.keep hx hb1 (Nat.le_refl _))
  have HC : Hid ((((w.alloc (.cells #[sc.v, sf.v, sl.v, sb.v] 32)).alloc (.cells #[.int .i64 d] 3)).alloc (.cells #[.int .i64 ep] 3)).cell? ⟨w.heap.size + 1, 0, none⟩ = some (.int .i64 d)) := by show _ = _; simp [go_sem]
  have HC2 : Hid ((((w.alloc (.cells #[sc.v, sf.v, sl.v, sb.v] 32)).alloc (.cells #[.int .i64 d] 3)).alloc (.cells #[.int .i64 ep] 3)).cell? ⟨w.heap.size + 2, 0, none⟩ = some (.int .i64 ep)) := by show _ = _; simp [go_sem]
  have HB := Lib.hid hb1
  have HE : Hid (atIx ls d ep = idxS (fun c => decide (c.dev = d) && decide (c.epoch = ep)) xs) := (idxS_all2 hxs (fun a b r => by rw [r.dev, r.epoch])).symm
  clear hx hb1 hxs
  go_enter Try.func45, Try.ntmps45
  go_wp2_with fail
  refine (idxLs_any _ xs _ _ _ _ HS.out (asksAt HC.out HC2.out xs)).mono ?_
  rintro e w1 ⟨rfl, hb2⟩
  have hb3 := HB.out.trans (hb2.mono HB.out.size)
  clear HS HC HC2 HB hb2
  go_wp2
  go_ret
  exact ⟨ret_int HE.out.symm, hb3⟩

set_option maxHeartbeats 1000000 in
theorem among11_any (r : Rg) (b1 : Nat) (n : Int) (w : World) (h1 : w.cell? ⟨b1, 0, none⟩ = some (.int .i64 n)) (hb1 : b1 < w.heap.size) :
    Calls Try.prog 94 #[aRg r, .pointer (some ⟨b1, 0, none⟩)] w fun e w' => e = .returned (.bool (decide (r.1 ≤ n) && decide (n < r.2))) ∧ Below w.heap.size w w' := by
  obtain ⟨x, y⟩ := r
  go_enter Try.func94, Try.ntmps94
  go_wp2
  all_goals
    go_ret
    exact ⟨ret_bool (by first | (simp [*]; done) | (simp [*]; rfl) | (simp [*]; omega)), (Below.refl _ _).alloc (Nat.le_refl _) _⟩

theorem Try.enAmong11 (args : Array Value) (W : World) : (callFunc 94 args).run Try.prog W = .ok (.enter 94 args) W := by kernel_rfl
theorem Try.enAmong1 (args : Array Value) (W : World) : (callFunc 92 args).run Try.prog W = .ok (.enter 92 args) W := by kernel_rfl
theorem Try.enApart1 (args : Array Value) (W : World) : (callFunc 95 args).run Try.prog W = .ok (.enter 95 args) W := by kernel_rfl
theorem Try.enSlices1 (args : Array Value) (W : World) : (callFunc 91 args).run Try.prog W = .ok (.enter 91 args) W := by kernel_rfl

theorem asksAm11 {w : World} {b1 : Nat} {n : Int} (h1 : w.cell? ⟨b1, 0, none⟩ = some (.int .i64 n)) (l : List Rg) : Asks Try.prog w 94 #[.pointer (some ⟨b1, 0, none⟩)] aRg (fun r => decide (r.1 ≤ n) && decide (n < r.2)) l := by
  have hb1 : b1 < w.heap.size := World.block_lt_of_cell? w _ h1
  exact ⟨Try.enAmong11, fun W hW x _ => among11_any x b1 n W (held_below h1 hW hb1) (Nat.lt_of_lt_of_le hb1 hW.size)⟩

set_option maxHeartbeats 1000000 in
theorem among1_any (n : Int) (b1 : Nat) (v : Value) (row : List Rg) (w : World) (h1 : w.cell? ⟨b1, 0, none⟩ = some v) (hb1 : b1 < w.heap.size) (h : SlR w v row) :
    Calls Try.prog 92 #[.int .i64 n, .pointer (some ⟨b1, 0, none⟩)] w fun e w' => e = .returned (.bool (!hasR row n)) ∧ Below w.heap.size w w' := by
  have hb2 : Below w.heap.size w (w.alloc (.cells #[.int .i64 n] 3)) := (Below.refl _ _).alloc (Nat.le_refl _) _
  have HS := Lib.hid (SlR.keep h hb2 (Nat.le_refl _))
  have HC : Hid ((w.alloc (.cells #[.int .i64 n] 3)).cell? ⟨w.heap.size, 0, none⟩ = some (.int .i64 n)) := by show _ = _; simp [go_sem]
  obtain ⟨ao, cap, rfl, hcap, hm⟩ := Sl.shape h
  obtain ⟨q, hq⟩ : ∃ q, hasR row n = q := ⟨_, rfl⟩
  have HH := Lib.hid hq
  clear hq h
  go_enter Try.func92, Try.ntmps92
  go_wp2_with fail
  refine (hasRg_any _ row _ _ _ _ HS.out (asksAm11 HC.out row)).mono ?_
  rintro e w1 ⟨rfl, hb3⟩
  have hb4 := hb2.trans (hb3.mono hb2.size)
  have e : (row.any fun r => decide (r.1 ≤ n) && decide (n < r.2)) = q := HH.out
  rw [e]
  clear e HS HC hb2 hb3
  go_wp2
  go_ret
  exact ⟨ret_bool (by rw [HH.out]), hb4⟩

theorem asksAm1 {w : World} {b1 : Nat} {v : Value} {row : List Rg} (h1 : w.cell? ⟨b1, 0, none⟩ = some v) (h : SlR w v row) (l : List Int) : Asks Try.prog w 92 #[.pointer (some ⟨b1, 0, none⟩)] (fun n => .int .i64 n) (fun n => !hasR row n) l := by
  have hb1 : b1 < w.heap.size := World.block_lt_of_cell? w _ h1
  exact ⟨Try.enAmong1, fun W hW x _ => among1_any x b1 v row W (held_below h1 hW hb1) (Nat.lt_of_lt_of_le hb1 hW.size) (SlR.keep h hW (Nat.le_refl _))⟩

/-- Are numbers all in a row? -/
def amS (l : List Int) (row : List Rg) : Bool := !l.any (fun n => !hasR row n)

set_option maxHeartbeats 1000000 in
theorem among_any (u v : Value) (l : List Int) (row : List Rg) (w : World) (hu : SlI w u l) (h : SlR w v row) :
    Calls Try.prog 62 #[u, v] w fun e w' => e = .returned (.bool (amS l row)) ∧ Below w.heap.size w w' := by
  have hb2 : Below w.heap.size w (w.alloc (.cells #[v] 28)) := (Below.refl _ _).alloc (Nat.le_refl _) _
  have HS := Lib.hid (SlR.keep h hb2 (Nat.le_refl _))
  have HU := Lib.hid (SlI.keep hu hb2 (Nat.le_refl _))
  obtain ⟨ao, cap, rfl, hcap, hm⟩ := Sl.shape h
  obtain ⟨au, cau, rfl, hcau, hmu⟩ := Sl.shape hu
  have HC : Hid ((w.alloc (.cells #[.slice ao row.length cap] 28)).cell? ⟨w.heap.size, 0, none⟩ = some (.slice ao row.length cap)) := by show _ = _; simp [go_sem]
  obtain ⟨q, hq⟩ : ∃ q, l.any (fun n => !hasR row n) = q := ⟨_, rfl⟩
  have HH := Lib.hid hq
  clear hq h hu
  go_enter Try.func62, Try.ntmps62
  go_wp2_with fail
  refine (hasI_any _ l _ _ _ _ HU.out (asksAm1 HC.out HS.out l)).mono ?_
  rintro e w1 ⟨rfl, hb3⟩
  have hb4 := hb2.trans (hb3.mono hb2.size)
  rw [HH.out]
  clear HS HC hb2 hb3
  go_wp2
  go_ret
  exact ⟨ret_bool (by unfold amS; rw [HH.out]), hb4⟩

set_option maxHeartbeats 1000000 in
theorem apart1_any (x : Rg) (b1 : Nat) (p q : Int) (w : World) (h1 : w.cell? ⟨b1, 0, none⟩ = some (.int .i64 p)) (h2 : w.cell? ⟨b1, 1, none⟩ = some (.int .i64 q)) (hb1 : b1 < w.heap.size) :
    Calls Try.prog 95 #[aRg x, .pointer (some ⟨b1, 0, none⟩)] w fun e w' => e = .returned (.bool (decide (x.1 < q) && decide (p < x.2))) ∧ Below w.heap.size w w' := by
  obtain ⟨x, y⟩ := x
  go_enter Try.func95, Try.ntmps95
  go_wp2
  all_goals
    go_ret
    exact ⟨ret_bool (by first | (simp [*]; done) | (simp [*]; rfl) | (simp [*]; omega)), (Below.refl _ _).alloc (Nat.le_refl _) _⟩

theorem asksAp1 {w : World} {b1 : Nat} {p q : Int} (h1 : w.cell? ⟨b1, 0, none⟩ = some (.int .i64 p)) (h2 : w.cell? ⟨b1, 1, none⟩ = some (.int .i64 q)) (l : List Rg) : Asks Try.prog w 95 #[.pointer (some ⟨b1, 0, none⟩)] aRg (fun x => decide (x.1 < q) && decide (p < x.2)) l := by
  have hb1 : b1 < w.heap.size := World.block_lt_of_cell? w _ h1
  exact ⟨Try.enApart1, fun W hW x _ => apart1_any x b1 p q W (held_below h1 hW hb1) (held_below h2 hW hb1) (Nat.lt_of_lt_of_le hb1 hW.size)⟩

set_option maxHeartbeats 1000000 in
theorem slices1_any (c : Sc) (b : Nat) (key : ByteArray) (w : World) (hc : w.cell? ⟨b, 0, none⟩ = some (.string key)) (hb : b < w.heap.size) :
    Calls Try.prog 91 #[aSc c, .pointer (some ⟨b, 0, none⟩)] w fun e w' => e = .returned (.bool (decide (c.key = key))) ∧ Below w.heap.size w w' := by
  have HK := Lib.hid (key_eq c.key key)
  obtain ⟨c1, c2, c3, c4, c5⟩ := c
  go_enter Try.func91, Try.ntmps91
  go_wp2
  go_ret
  exact ⟨ret_bool HK.out, (Below.refl _ _).alloc (Nat.le_refl _) _⟩

theorem asksSc {w : World} {b : Nat} {key : ByteArray} (hc : w.cell? ⟨b, 0, none⟩ = some (.string key)) (l : List Sc) : Asks Try.prog w 91 #[.pointer (some ⟨b, 0, none⟩)] aSc (fun c => decide (c.key = key)) l := by
  have hb : b < w.heap.size := World.block_lt_of_cell? w _ hc
  exact ⟨Try.enSlices1, fun W hW x _ => slices1_any x b key W (held_below hc hW hb) (Nat.lt_of_lt_of_le hb hW.size)⟩

end Go.Proofs.Ytckonmlcgfbojaa
