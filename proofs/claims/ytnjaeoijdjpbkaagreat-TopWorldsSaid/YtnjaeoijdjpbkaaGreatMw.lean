/- The walk of TopWorlds. -/
import Derived.Test.YtnjaeoijdjpbkaaGreatMr
import Derived.Deep.DeepCutAuto
import Derived.StillTailTactics
import Derived.IntWalk
import Derived.WalkKit
set_option maxRecDepth 100000
set_option linter.all false
open Go Go.Ev Go.Ev.L
open Go.RowKit (Below)
namespace Go.Proofs
/-- What is known in the middle of TopWorlds: what lies where, from which number on all are free, what has been handed out. -/
def At (W : World) (h : Tr AO) (N : Nat) (refs : List (AV × Value)) (w : World) : Prop :=
  ∃ ρ, Rel W.heap.size W ρ h w ∧ (∀ id, N ≤ id → ρ id = none) ∧ ∀ p, p ∈ refs → VR ρ p.1 p.2
theorem At.bel {W w : World} {h : Tr AO} {N : Nat} {refs : List (AV × Value)} (a : At W h N refs w) : Below W.heap.size W w := a.choose_spec.1.bel
theorem At.start {W w : World} (b : Below W.heap.size W w) : At W Tr.e 0 [] w :=
  ⟨fun _ => none, Rel.none b b.size, fun _ _ => rfl, fun _ h => by cases h⟩
theorem At.below {W w w' : World} {h : Tr AO} {N : Nat} {refs : List (AV × Value)} (a : At W h N refs w) (b : Below w.heap.size w w') : At W h N refs w' := by
  obtain ⟨ρ, hr, hn, hv⟩ := a
  exact ⟨ρ, hr.below b, hn, hv⟩
theorem At.call {x : Fact} (hx : FactOk Tryz.prog x) {W w : World} {h : Tr AO} {N : Nat} {refs : List (AV × Value)} {vs : List Value} (hf : x.fits x.args ⟨h, x.n, [], []⟩ = true) (hN : N ≤ x.n) (a : At W h N refs w)
    (hv : ∀ ρ, (∀ p, p ∈ refs → VR ρ p.1 p.2) → VRs ρ x.args vs) :
    Calls Tryz.prog x.f ⟨vs⟩ w (fun e w' => ∃ v', e = .returned v' ∧ At W (lay x.post h) x.z ((x.v, v') :: refs) w') := by
  obtain ⟨ρ, hr, hn, hv0⟩ := a
  refine Calls.mono (hx.calls hf (hv ρ hv0) hr (fun id h1 _ => hn id (by omega))) ?_
  rintro e w' ⟨v', ρ', rfl, hE, hV, hR⟩
  refine ⟨v', rfl, ρ', hR, ?_, ?_⟩
  · intro id hid
    have := hx.1
    exact hE.new id (hn id (by omega)) (.inr hid)
  · intro p hp
    rcases List.mem_cons.mp hp with rfl | hp
    · exact hV
    · exact VR.mono hE.le _ _ (hv0 p hp)
/-- A call that looks at nothing. -/
theorem alone {x : Fact} (hx : FactOk Tryz.prog x) {vs : List Value} (hf : x.fits x.args ⟨Tr.e, x.n, [], []⟩ = true) (hv : ∀ ρ, VRs ρ x.args vs) (w : World) :
    Calls Tryz.prog x.f ⟨vs⟩ w (fun e w' => ∃ v' ρ', e = .returned v' ∧ VR ρ' x.v v' ∧ Below w.heap.size w w') := by
  refine Calls.mono (hx.calls hf (hv _) (Rel.none (Below.refl _ w) (Nat.le_refl _)) (fun _ _ _ => rfl)) ?_
  rintro e w' ⟨v', ρ', rfl, _, hV, hR⟩
  exact ⟨v', ρ', rfl, hV, hR.bel⟩
theorem known_calls (w : World) : Calls Tryz.prog 4 #[] w (fun e w' => e = .returned (.bool true) ∧ Below w.heap.size w w') := by
  refine Calls.mono (alone ok_x4_0 (vs := []) (by decide +kernel) (fun _ => rfl) w) ?_
  rintro e w' ⟨v', ρ', rfl, hV, hb⟩
  exact ⟨by rw [show v' = .bool true from hV], hb⟩
noncomputable def G1 : Tr AO := lay x5_0.post Tr.e
noncomputable def G2 : Tr AO := lay x5_20000.post G1
noncomputable def G3 : Tr AO := lay x6_50000.post G2
noncomputable def G4 : Tr AO := lay x6_60000.post G3
theorem begun1_calls {W w : World} (a : At W Tr.e 0 [] w) : Calls Tryz.prog 5 #[.int .i64 1] w (fun e w' => ∃ v', e = .returned v' ∧ At W G1 10653 [(p 33 0, v')] w') :=
  a.call ok_x5_0 (vs := [.int .i64 1]) (by decide +kernel) (by decide) (fun _ _ => ⟨_, _, rfl, rfl, rfl⟩)
theorem begun2_calls {W w : World} {v : Value} (a : At W G1 10653 [(p 33 0, v)] w) : Calls Tryz.prog 5 #[.int .i64 2] w (fun e w' => ∃ v', e = .returned v' ∧ At W G2 34781 [(p 20033 0, v'), (p 33 0, v)] w') :=
  a.call ok_x5_20000 (vs := [.int .i64 2]) (by decide +kernel) (by decide) (fun _ _ => ⟨_, _, rfl, rfl, rfl⟩)
theorem askv_calls {W w : World} {v u : Value} (a : At W G2 34781 [(p 20033 0, u), (p 33 0, v)] w) : Calls Tryz.prog 6 #[v] w (fun e w' => e = .returned (.bool true) ∧ At W G3 54896 [(p 20033 0, u), (p 33 0, v)] w') := by
  refine Calls.mono (a.call ok_x6_50000 (vs := [v]) (by decide +kernel) (by decide) (fun _ h => ⟨_, _, h (p 33 0, v) (by simp), rfl, rfl⟩)) ?_
  rintro e w' ⟨v', rfl, ρ, hr, hn, hv⟩
  have : v' = .bool true := hv (x6_50000.v, v') (by simp)
  exact ⟨by rw [this], ρ, hr, hn, fun p hp => hv p (by simp only [List.mem_cons]; exact .inr (by simpa using hp))⟩
theorem askw_calls {W w : World} {v u : Value} (a : At W G3 54896 [(p 20033 0, u), (p 33 0, v)] w) : Calls Tryz.prog 6 #[u] w (fun e w' => e = .returned (.bool true) ∧ At W G4 65835 [(p 20033 0, u), (p 33 0, v)] w') := by
  refine Calls.mono (a.call ok_x6_60000 (vs := [u]) (by decide +kernel) (by decide) (fun _ h => ⟨_, _, h (p 20033 0, u) (by simp), rfl, rfl⟩)) ?_
  rintro e w' ⟨v', rfl, ρ, hr, hn, hv⟩
  have : v' = .bool true := hv (x6_60000.v, v') (by simp)
  exact ⟨by rw [this], ρ, hr, hn, fun p hp => hv p (by simp only [List.mem_cons]; exact .inr (by simpa using hp))⟩
end Go.Proofs
open Go Go.Ev Go.Ev.L
open Go.RowKit (Below)
namespace Go.Proofs
theorem At.raise {W w : World} {h : Tr AO} {N N' : Nat} {refs : List (AV × Value)} (a : At W h N refs w) (hN : N ≤ N') : At W h N' refs w := by
  obtain ⟨ρ, hr, hn, hv⟩ := a
  exact ⟨ρ, hr, fun id h => hn id (by omega), hv⟩
theorem At.fewer {W w : World} {h : Tr AO} {N : Nat} {refs refs' : List (AV × Value)} (a : At W h N refs w) (hs : ∀ p, p ∈ refs' → p ∈ refs) : At W h N refs' w := by
  obtain ⟨ρ, hr, hn, hv⟩ := a
  exact ⟨ρ, hr, hn, fun p hp => hv p (hs p hp)⟩
/-- A call that makes nothing. -/
theorem At.look {x : Fact} (hx : FactOk Tryz.prog x) (hz : x.z = x.n) {W w : World} {h : Tr AO} {N : Nat} {refs : List (AV × Value)} {vs : List Value} (hf : x.fits x.args ⟨h, x.n, [], []⟩ = true) (a : At W h N refs w)
    (hv : ∀ ρ, (∀ p, p ∈ refs → VR ρ p.1 p.2) → VRs ρ x.args vs) :
    Calls Tryz.prog x.f ⟨vs⟩ w (fun e w' => ∃ v', e = .returned v' ∧ At W (lay x.post h) N ((x.v, v') :: refs) w') := by
  obtain ⟨ρ, hr, hn, hv0⟩ := a
  refine Calls.mono (hx.calls hf (hv ρ hv0) hr (fun id h1 h2 => by omega)) ?_
  rintro e w' ⟨v', ρ', rfl, hE, hV, hR⟩
  refine ⟨v', rfl, ρ', hR, fun id hid => hE.new id (hn id hid) (by omega), ?_⟩
  intro p hp
  rcases List.mem_cons.mp hp with rfl | hp
  · exact hV
  · exact VR.mono hE.le _ _ (hv0 p hp)
theorem vc {ρ : Env} {a : AV} {v : Value} {l : List AV} {ws : List Value} (h : VR ρ a v) (t : VRs ρ l ws) : VRs ρ (a :: l) (v :: ws) := ⟨v, ws, h, t, rfl⟩
theorem vn {ρ : Env} : VRs ρ [] [] := rfl
def one : List UInt8 := [97]
def cnt (m : Int) : Value := .agg ⟨[.int .i64 0, .int .i64 0, .int .i64 0, .int .i64 0, .int .i64 0, .int .i64 4, .string ⟨⟨one⟩⟩, .string ⟨⟨[]⟩⟩, .int .i64 m, .int .i64 0, .slice none 0 0]⟩
theorem cnt_vr {ρ : Env} {m : Nat} {v : Value} (h : VR ρ (g [i 0,i 0,i 0,i 0,i 0,i 4,t [97],t [],i m,i 0,N]) v) : v = cnt (Int.ofNat m) := by
  obtain ⟨vs, h, rfl⟩ := h
  obtain ⟨_, _, rfl, h, rfl⟩ := h
  obtain ⟨_, _, rfl, h, rfl⟩ := h
  obtain ⟨_, _, rfl, h, rfl⟩ := h
  obtain ⟨_, _, rfl, h, rfl⟩ := h
  obtain ⟨_, _, rfl, h, rfl⟩ := h
  obtain ⟨_, _, rfl, h, rfl⟩ := h
  obtain ⟨_, _, rfl, h, rfl⟩ := h
  obtain ⟨_, _, rfl, h, rfl⟩ := h
  obtain ⟨_, _, rfl, h, rfl⟩ := h
  obtain ⟨_, _, rfl, h, rfl⟩ := h
  obtain ⟨_, _, rfl, h, rfl⟩ := h
  cases h
  rfl
theorem vr_cnt (ρ : Env) (m : Nat) : VR ρ (g [i 0,i 0,i 0,i 0,i 0,i 4,t [97],t [],i m,i 0,N]) (cnt (Int.ofNat m)) :=
  ⟨_, vc rfl (vc rfl (vc rfl (vc rfl (vc rfl (vc rfl (vc rfl (vc rfl (vc rfl (vc rfl (vc rfl (vn))))))))))), rfl⟩
theorem count1_calls (w : World) : Calls Tryz.prog 10 #[.int .i64 0, .string ⟨⟨one⟩⟩, .int .i64 1] w (fun e w' => e = .returned (cnt 1) ∧ Below w.heap.size w w') := by
  refine Calls.mono (alone ok_x10_2 (vs := [.int .i64 0, .string ⟨⟨one⟩⟩, .int .i64 1]) (by decide +kernel) (fun _ => vc rfl (vc rfl (vc rfl vn))) w) ?_
  rintro e w' ⟨v', ρ', rfl, hV, hb⟩
  exact ⟨by rw [cnt_vr (m := 1) hV]; rfl, hb⟩
theorem count10_calls (w : World) : Calls Tryz.prog 10 #[.int .i64 0, .string ⟨⟨one⟩⟩, .int .i64 10] w (fun e w' => e = .returned (cnt 10) ∧ Below w.heap.size w w') := by
  refine Calls.mono (alone ok_x10_3 (vs := [.int .i64 0, .string ⟨⟨one⟩⟩, .int .i64 10]) (by decide +kernel) (fun _ => vc rfl (vc rfl (vc rfl vn))) w) ?_
  rintro e w' ⟨v', ρ', rfl, hV, hb⟩
  exact ⟨by rw [cnt_vr (m := 10) hV]; rfl, hb⟩
/-- The two worlds. -/
def Rf (v u : Value) : List (AV × Value) := [(p 20033 0, u), (p 33 0, v)]
noncomputable def D (k : Nat) : Fact := match k with
  | 0 => x9_70000
  | 1 => x9_71000
  | 2 => x9_72000
  | 3 => x9_73000
  | 4 => x9_74000
  | 5 => x9_75000
  | 6 => x9_76000
  | 7 => x9_77000
  | 8 => x9_78000
  | _ => x9_79000
noncomputable def H : Nat → Tr AO
  | 0 => G4
  | k + 1 => lay (D k).post (H k)
noncomputable def V (k : Nat) : Fact := match k with
  | 0 => x11_90000
  | 1 => x11_91000
  | 2 => x11_92000
  | 3 => x11_93000
  | 4 => x11_94000
  | 5 => x11_95000
  | 6 => x11_96000
  | 7 => x11_97000
  | 8 => x11_98000
  | 9 => x11_99000
  | _ => x11_100000
noncomputable def HV (k : Nat) : Tr AO := lay (V k).post (H k)
noncomputable def HW (k : Nat) : Tr AO := lay x11_110000.post (HV k)
theorem okD : ∀ k, k < 10 → FactOk Tryz.prog (D k)
  | 0, _ => ok_x9_70000
  | 1, _ => ok_x9_71000
  | 2, _ => ok_x9_72000
  | 3, _ => ok_x9_73000
  | 4, _ => ok_x9_74000
  | 5, _ => ok_x9_75000
  | 6, _ => ok_x9_76000
  | 7, _ => ok_x9_77000
  | 8, _ => ok_x9_78000
  | 9, _ => ok_x9_79000
  | k + 10, h => absurd h (by omega)
theorem okV : ∀ k, k < 11 → FactOk Tryz.prog (V k)
  | 0, _ => ok_x11_90000
  | 1, _ => ok_x11_91000
  | 2, _ => ok_x11_92000
  | 3, _ => ok_x11_93000
  | 4, _ => ok_x11_94000
  | 5, _ => ok_x11_95000
  | 6, _ => ok_x11_96000
  | 7, _ => ok_x11_97000
  | 8, _ => ok_x11_98000
  | 9, _ => ok_x11_99000
  | 10, _ => ok_x11_100000
  | k + 11, h => absurd h (by omega)
theorem fE0 : x8_0.fits x8_0.args ⟨H 0, 70000, [], []⟩ = true := by decide +kernel
theorem fE1 : x8_0.fits x8_0.args ⟨H 1, 70000, [], []⟩ = true := by decide +kernel
theorem fE2 : x8_0.fits x8_0.args ⟨H 2, 70000, [], []⟩ = true := by decide +kernel
theorem fE3 : x8_0.fits x8_0.args ⟨H 3, 70000, [], []⟩ = true := by decide +kernel
theorem fE4 : x8_0.fits x8_0.args ⟨H 4, 70000, [], []⟩ = true := by decide +kernel
theorem fE5 : x8_0.fits x8_0.args ⟨H 5, 70000, [], []⟩ = true := by decide +kernel
theorem fE6 : x8_0.fits x8_0.args ⟨H 6, 70000, [], []⟩ = true := by decide +kernel
theorem fE7 : x8_0.fits x8_0.args ⟨H 7, 70000, [], []⟩ = true := by decide +kernel
theorem fE8 : x8_0.fits x8_0.args ⟨H 8, 70000, [], []⟩ = true := by decide +kernel
theorem fE9 : x8_0.fits x8_0.args ⟨H 9, 70000, [], []⟩ = true := by decide +kernel
theorem fE : ∀ k, k < 10 → x8_0.fits x8_0.args ⟨H k, 70000, [], []⟩ = true
  | 0, _ => fE0
  | 1, _ => fE1
  | 2, _ => fE2
  | 3, _ => fE3
  | 4, _ => fE4
  | 5, _ => fE5
  | 6, _ => fE6
  | 7, _ => fE7
  | 8, _ => fE8
  | 9, _ => fE9
  | k + 10, h => absurd h (by omega)
theorem fD0 : (D 0).fits (D 0).args ⟨H 0, (D 0).n, [], []⟩ = true := by decide +kernel
theorem fD1 : (D 1).fits (D 1).args ⟨H 1, (D 1).n, [], []⟩ = true := by decide +kernel
theorem fD2 : (D 2).fits (D 2).args ⟨H 2, (D 2).n, [], []⟩ = true := by decide +kernel
theorem fD3 : (D 3).fits (D 3).args ⟨H 3, (D 3).n, [], []⟩ = true := by decide +kernel
theorem fD4 : (D 4).fits (D 4).args ⟨H 4, (D 4).n, [], []⟩ = true := by decide +kernel
theorem fD5 : (D 5).fits (D 5).args ⟨H 5, (D 5).n, [], []⟩ = true := by decide +kernel
theorem fD6 : (D 6).fits (D 6).args ⟨H 6, (D 6).n, [], []⟩ = true := by decide +kernel
theorem fD7 : (D 7).fits (D 7).args ⟨H 7, (D 7).n, [], []⟩ = true := by decide +kernel
theorem fD8 : (D 8).fits (D 8).args ⟨H 8, (D 8).n, [], []⟩ = true := by decide +kernel
theorem fD9 : (D 9).fits (D 9).args ⟨H 9, (D 9).n, [], []⟩ = true := by decide +kernel
theorem fD : ∀ k, k < 10 → (D k).fits (D k).args ⟨H k, (D k).n, [], []⟩ = true
  | 0, _ => fD0
  | 1, _ => fD1
  | 2, _ => fD2
  | 3, _ => fD3
  | 4, _ => fD4
  | 5, _ => fD5
  | 6, _ => fD6
  | 7, _ => fD7
  | 8, _ => fD8
  | 9, _ => fD9
  | k + 10, h => absurd h (by omega)
theorem fV0 : (V 0).fits (V 0).args ⟨H 0, (V 0).n, [], []⟩ = true := by decide +kernel
theorem fV1 : (V 1).fits (V 1).args ⟨H 1, (V 1).n, [], []⟩ = true := by decide +kernel
theorem fV2 : (V 2).fits (V 2).args ⟨H 2, (V 2).n, [], []⟩ = true := by decide +kernel
theorem fV3 : (V 3).fits (V 3).args ⟨H 3, (V 3).n, [], []⟩ = true := by decide +kernel
theorem fV4 : (V 4).fits (V 4).args ⟨H 4, (V 4).n, [], []⟩ = true := by decide +kernel
theorem fV5 : (V 5).fits (V 5).args ⟨H 5, (V 5).n, [], []⟩ = true := by decide +kernel
theorem fV6 : (V 6).fits (V 6).args ⟨H 6, (V 6).n, [], []⟩ = true := by decide +kernel
theorem fV7 : (V 7).fits (V 7).args ⟨H 7, (V 7).n, [], []⟩ = true := by decide +kernel
theorem fV8 : (V 8).fits (V 8).args ⟨H 8, (V 8).n, [], []⟩ = true := by decide +kernel
theorem fV9 : (V 9).fits (V 9).args ⟨H 9, (V 9).n, [], []⟩ = true := by decide +kernel
theorem fV10 : (V 10).fits (V 10).args ⟨H 10, (V 10).n, [], []⟩ = true := by decide +kernel
theorem fV : ∀ k, k < 11 → (V k).fits (V k).args ⟨H k, (V k).n, [], []⟩ = true
  | 0, _ => fV0
  | 1, _ => fV1
  | 2, _ => fV2
  | 3, _ => fV3
  | 4, _ => fV4
  | 5, _ => fV5
  | 6, _ => fV6
  | 7, _ => fV7
  | 8, _ => fV8
  | 9, _ => fV9
  | 10, _ => fV10
  | k + 11, h => absurd h (by omega)
theorem fW0 : x11_110000.fits x11_110000.args ⟨HV 0, 110000, [], []⟩ = true := by decide +kernel
theorem fW1 : x11_110000.fits x11_110000.args ⟨HV 1, 110000, [], []⟩ = true := by decide +kernel
theorem fW2 : x11_110000.fits x11_110000.args ⟨HV 2, 110000, [], []⟩ = true := by decide +kernel
theorem fW3 : x11_110000.fits x11_110000.args ⟨HV 3, 110000, [], []⟩ = true := by decide +kernel
theorem fW4 : x11_110000.fits x11_110000.args ⟨HV 4, 110000, [], []⟩ = true := by decide +kernel
theorem fW5 : x11_110000.fits x11_110000.args ⟨HV 5, 110000, [], []⟩ = true := by decide +kernel
theorem fW6 : x11_110000.fits x11_110000.args ⟨HV 6, 110000, [], []⟩ = true := by decide +kernel
theorem fW7 : x11_110000.fits x11_110000.args ⟨HV 7, 110000, [], []⟩ = true := by decide +kernel
theorem fW8 : x11_110000.fits x11_110000.args ⟨HV 8, 110000, [], []⟩ = true := by decide +kernel
theorem fW9 : x11_110000.fits x11_110000.args ⟨HV 9, 110000, [], []⟩ = true := by decide +kernel
theorem fW10 : x11_110000.fits x11_110000.args ⟨HV 10, 110000, [], []⟩ = true := by decide +kernel
theorem fW : ∀ k, k < 11 → x11_110000.fits x11_110000.args ⟨HV k, 110000, [], []⟩ = true
  | 0, _ => fW0
  | 1, _ => fW1
  | 2, _ => fW2
  | 3, _ => fW3
  | 4, _ => fW4
  | 5, _ => fW5
  | 6, _ => fW6
  | 7, _ => fW7
  | 8, _ => fW8
  | 9, _ => fW9
  | 10, _ => fW10
  | k + 11, h => absurd h (by omega)
theorem fF0 : x8_1.fits x8_1.args ⟨HW 0, 70000, [], []⟩ = true := by decide +kernel
theorem fF1 : x8_1.fits x8_1.args ⟨HW 1, 70000, [], []⟩ = true := by decide +kernel
theorem fF2 : x8_1.fits x8_1.args ⟨HW 2, 70000, [], []⟩ = true := by decide +kernel
theorem fF3 : x8_1.fits x8_1.args ⟨HW 3, 70000, [], []⟩ = true := by decide +kernel
theorem fF4 : x8_1.fits x8_1.args ⟨HW 4, 70000, [], []⟩ = true := by decide +kernel
theorem fF5 : x8_1.fits x8_1.args ⟨HW 5, 70000, [], []⟩ = true := by decide +kernel
theorem fF6 : x8_1.fits x8_1.args ⟨HW 6, 70000, [], []⟩ = true := by decide +kernel
theorem fF7 : x8_1.fits x8_1.args ⟨HW 7, 70000, [], []⟩ = true := by decide +kernel
theorem fF8 : x8_1.fits x8_1.args ⟨HW 8, 70000, [], []⟩ = true := by decide +kernel
theorem fF9 : x8_1.fits x8_1.args ⟨HW 9, 70000, [], []⟩ = true := by decide +kernel
theorem fF10 : x8_1.fits x8_1.args ⟨HW 10, 70000, [], []⟩ = true := by decide +kernel
theorem fF : ∀ k, k < 11 → x8_1.fits x8_1.args ⟨HW k, 70000, [], []⟩ = true
  | 0, _ => fF0
  | 1, _ => fF1
  | 2, _ => fF2
  | 3, _ => fF3
  | 4, _ => fF4
  | 5, _ => fF5
  | 6, _ => fF6
  | 7, _ => fF7
  | 8, _ => fF8
  | 9, _ => fF9
  | 10, _ => fF10
  | k + 11, h => absurd h (by omega)
theorem fO0 : x9_120000.fits x9_120000.args ⟨lay x8_1.post (HW 0), 120000, [], []⟩ = true := by decide +kernel
theorem fO1 : x9_120000.fits x9_120000.args ⟨lay x8_1.post (HW 1), 120000, [], []⟩ = true := by decide +kernel
theorem fO2 : x9_120000.fits x9_120000.args ⟨lay x8_1.post (HW 2), 120000, [], []⟩ = true := by decide +kernel
theorem fO3 : x9_120000.fits x9_120000.args ⟨lay x8_1.post (HW 3), 120000, [], []⟩ = true := by decide +kernel
theorem fO4 : x9_120000.fits x9_120000.args ⟨lay x8_1.post (HW 4), 120000, [], []⟩ = true := by decide +kernel
theorem fO5 : x9_120000.fits x9_120000.args ⟨lay x8_1.post (HW 5), 120000, [], []⟩ = true := by decide +kernel
theorem fO6 : x9_120000.fits x9_120000.args ⟨lay x8_1.post (HW 6), 120000, [], []⟩ = true := by decide +kernel
theorem fO7 : x9_120000.fits x9_120000.args ⟨lay x8_1.post (HW 7), 120000, [], []⟩ = true := by decide +kernel
theorem fO8 : x9_120000.fits x9_120000.args ⟨lay x8_1.post (HW 8), 120000, [], []⟩ = true := by decide +kernel
theorem fO9 : x9_120000.fits x9_120000.args ⟨lay x8_1.post (HW 9), 120000, [], []⟩ = true := by decide +kernel
theorem fO10 : x9_120000.fits x9_120000.args ⟨lay x8_1.post (HW 10), 120000, [], []⟩ = true := by decide +kernel
theorem fO : ∀ k, k < 11 → x9_120000.fits x9_120000.args ⟨lay x8_1.post (HW k), 120000, [], []⟩ = true
  | 0, _ => fO0
  | 1, _ => fO1
  | 2, _ => fO2
  | 3, _ => fO3
  | 4, _ => fO4
  | 5, _ => fO5
  | 6, _ => fO6
  | 7, _ => fO7
  | 8, _ => fO8
  | 9, _ => fO9
  | 10, _ => fO10
  | k + 11, h => absurd h (by omega)
end Go.Proofs
open Go Go.Ev Go.Ev.L
open Go.RowKit (Below)
namespace Go.Proofs
theorem D_f : ∀ k, k < 10 → (D k).f = 9
  | 0, _ => rfl | 1, _ => rfl | 2, _ => rfl | 3, _ => rfl | 4, _ => rfl | 5, _ => rfl | 6, _ => rfl | 7, _ => rfl | 8, _ => rfl | 9, _ => rfl
  | k + 10, h => absurd h (by omega)
theorem D_n : ∀ k, k < 10 → (D k).n = 70000 + 1000 * k ∧ (D k).z ≤ 70000 + 1000 * (k + 1)
  | 0, _ => ⟨rfl, by decide⟩ | 1, _ => ⟨rfl, by decide⟩ | 2, _ => ⟨rfl, by decide⟩ | 3, _ => ⟨rfl, by decide⟩ | 4, _ => ⟨rfl, by decide⟩ | 5, _ => ⟨rfl, by decide⟩ | 6, _ => ⟨rfl, by decide⟩ | 7, _ => ⟨rfl, by decide⟩ | 8, _ => ⟨rfl, by decide⟩ | 9, _ => ⟨rfl, by decide⟩
  | k + 10, h => absurd h (by omega)
theorem D_args : ∀ k, k < 10 → (D k).args = [p 48 0, g [i 0,i 0,i 0,i 0,i 0,i 4,t [97],t [],i 1,i 0,N]] ∧ (D k).v = i 0
  | 0, _ => ⟨rfl, rfl⟩ | 1, _ => ⟨rfl, rfl⟩ | 2, _ => ⟨rfl, rfl⟩ | 3, _ => ⟨rfl, rfl⟩ | 4, _ => ⟨rfl, rfl⟩ | 5, _ => ⟨rfl, rfl⟩ | 6, _ => ⟨rfl, rfl⟩ | 7, _ => ⟨rfl, rfl⟩ | 8, _ => ⟨rfl, rfl⟩ | 9, _ => ⟨rfl, rfl⟩
  | k + 10, h => absurd h (by omega)
theorem V_n : ∀ k, k < 11 → (V k).f = 11 ∧ (V k).n = 90000 + 1000 * k ∧ (V k).z ≤ 110000 ∧ (V k).args = [p 33 0]
  | 0, _ => ⟨rfl, rfl, by decide, rfl⟩ | 1, _ => ⟨rfl, rfl, by decide, rfl⟩ | 2, _ => ⟨rfl, rfl, by decide, rfl⟩ | 3, _ => ⟨rfl, rfl, by decide, rfl⟩ | 4, _ => ⟨rfl, rfl, by decide, rfl⟩ | 5, _ => ⟨rfl, rfl, by decide, rfl⟩
  | 6, _ => ⟨rfl, rfl, by decide, rfl⟩ | 7, _ => ⟨rfl, rfl, by decide, rfl⟩ | 8, _ => ⟨rfl, rfl, by decide, rfl⟩ | 9, _ => ⟨rfl, rfl, by decide, rfl⟩ | 10, _ => ⟨rfl, rfl, by decide, rfl⟩
  | k + 11, h => absurd h (by omega)
/-- What Values gives: a slice of two, its first a number. -/
noncomputable def gives (x : Fact) (h : Tr AO) (m : Nat) : Bool := match x.v with
  | .slc b 0 2 _ _ => (match h.get b with | some (.row (.int .i64 (.ofNat q) :: _) _) => Nat.beq q m | _ => false)
  | _ => false
theorem gives_true {x : Fact} {h : Tr AO} {m : Nat} (e : gives x h m = true) : ∃ b op c l o, x.v = .slc b 0 2 op c ∧ h.get b = some (.row (.int .i64 (.ofNat m) :: l) o) := by
  unfold gives at e
  split at e
  · rename_i b op c hv
    split at e
    · rename_i q l o hg
      have := beqN e
      subst this
      exact ⟨b, op, c, l, o, hv, hg⟩
    · cases e
  · cases e
theorem At.first {W w : World} {h : Tr AO} {N : Nat} {refs : List (AV × Value)} {x : Fact} {m : Nat} {v : Value} (a : At W h N ((x.v, v) :: refs) w) (e : gives x h m = true) :
    ∃ B cap, v = .slice (some ⟨B, 0, none⟩) 2 cap ∧ w.cell? ⟨B, 0, none⟩ = some (.int .i64 (Int.ofNat m)) := by
  obtain ⟨ρ, hr, hn, hv⟩ := a
  obtain ⟨b, op, c, l, o, e1, e2⟩ := gives_true e
  have h1 := hv (x.v, v) (by simp)
  rw [e1] at h1
  obtain ⟨B, κ, hB, h2, h3⟩ := h1
  have h2 : v = _ := h2
  refine ⟨B, _, h2, ?_⟩
  obtain ⟨vs, hvs, hlen, _, hc⟩ := load_cells (P := Tryz.prog) (B := B) (off := 0) (n := 1) (l := [.int .i64 (.ofNat m)]) (hr.row e2 hB) rfl
  obtain ⟨y, ws, hy, hws, rfl⟩ := hvs
  have hy : y = _ := hy
  subst hy
  exact hc 0 _ (by simp)
theorem gV0 : gives (V 0) (HV 0) 10 = true := by decide +kernel
theorem gV1 : gives (V 1) (HV 1) 11 = true := by decide +kernel
theorem gV2 : gives (V 2) (HV 2) 12 = true := by decide +kernel
theorem gV3 : gives (V 3) (HV 3) 13 = true := by decide +kernel
theorem gV4 : gives (V 4) (HV 4) 14 = true := by decide +kernel
theorem gV5 : gives (V 5) (HV 5) 15 = true := by decide +kernel
theorem gV6 : gives (V 6) (HV 6) 16 = true := by decide +kernel
theorem gV7 : gives (V 7) (HV 7) 17 = true := by decide +kernel
theorem gV8 : gives (V 8) (HV 8) 18 = true := by decide +kernel
theorem gV9 : gives (V 9) (HV 9) 19 = true := by decide +kernel
theorem gV10 : gives (V 10) (HV 10) 20 = true := by decide +kernel
theorem gV : ∀ k, k < 11 → gives (V k) (HV k) (10 + k) = true
  | 0, _ => gV0 | 1, _ => gV1 | 2, _ => gV2 | 3, _ => gV3 | 4, _ => gV4 | 5, _ => gV5 | 6, _ => gV6 | 7, _ => gV7 | 8, _ => gV8 | 9, _ => gV9 | 10, _ => gV10
  | k + 11, h => absurd h (by omega)
theorem gW0 : gives x11_110000 (HW 0) 10 = true := by decide +kernel
theorem gW1 : gives x11_110000 (HW 1) 10 = true := by decide +kernel
theorem gW2 : gives x11_110000 (HW 2) 10 = true := by decide +kernel
theorem gW3 : gives x11_110000 (HW 3) 10 = true := by decide +kernel
theorem gW4 : gives x11_110000 (HW 4) 10 = true := by decide +kernel
theorem gW5 : gives x11_110000 (HW 5) 10 = true := by decide +kernel
theorem gW6 : gives x11_110000 (HW 6) 10 = true := by decide +kernel
theorem gW7 : gives x11_110000 (HW 7) 10 = true := by decide +kernel
theorem gW8 : gives x11_110000 (HW 8) 10 = true := by decide +kernel
theorem gW9 : gives x11_110000 (HW 9) 10 = true := by decide +kernel
theorem gW10 : gives x11_110000 (HW 10) 10 = true := by decide +kernel
theorem gW : ∀ k, k < 11 → gives x11_110000 (HW k) 10 = true
  | 0, _ => gW0 | 1, _ => gW1 | 2, _ => gW2 | 3, _ => gW3 | 4, _ => gW4 | 5, _ => gW5 | 6, _ => gW6 | 7, _ => gW7 | 8, _ => gW8 | 9, _ => gW9 | 10, _ => gW10
  | k + 11, h => absurd h (by omega)
section
variable {W w : World} {v u : Value} {k : Nat}
theorem edgev_calls (hk : k < 10) (a : At W (H k) (70000 + 1000 * k) (Rf v u) w) : Calls Tryz.prog 8 #[v, .int .i64 0] w (fun e w' => ∃ pe, e = .returned pe ∧ At W (H k) (70000 + 1000 * k) ((p 48 0, pe) :: Rf v u) w') :=
  a.look ok_x8_0 rfl (vs := [v, .int .i64 0]) (fE k hk) (fun _ h => vc (h (p 33 0, v) (by simp [Rf])) (vc rfl vn))
theorem do_calls (hk : k < 10) {pe : Value} (a : At W (H k) (70000 + 1000 * k) ((p 48 0, pe) :: Rf v u) w) : Calls Tryz.prog 9 #[pe, cnt 1] w (fun e w' => e = .returned (.int .i64 0) ∧ At W (H (k + 1)) (70000 + 1000 * (k + 1)) (Rf v u) w') := by
  have h := At.call (okD k hk) (vs := [pe, cnt 1]) (fD k hk) (by rw [(D_n k hk).1]; exact Nat.le_refl _) a (fun ρ h => by
    rw [(D_args k hk).1]
    exact vc (h (p 48 0, pe) (by simp)) (vc (vr_cnt ρ 1) vn))
  rw [D_f k hk] at h
  refine Calls.mono h ?_
  rintro e w' ⟨v', rfl, a'⟩
  have hv : v' = .int .i64 0 := by
    obtain ⟨ρ, _, _, hv⟩ := a'
    have := hv ((D k).v, v') (by simp)
    rw [(D_args k hk).2] at this
    exact this
  refine ⟨by rw [hv], (a'.raise (D_n k hk).2).fewer fun q hq => ?_⟩
  simp only [List.mem_cons]
  exact .inr (.inr hq)
theorem values_calls (hk : k < 11) (a : At W (H k) (70000 + 1000 * k) (Rf v u) w) : Calls Tryz.prog 11 #[v] w (fun e w' => ∃ B cap, e = .returned (.slice (some ⟨B, 0, none⟩) 2 cap) ∧ w'.cell? ⟨B, 0, none⟩ = some (.int .i64 (Int.ofNat (10 + k))) ∧ At W (HV k) 110000 (Rf v u) w') := by
  obtain ⟨e1, e2, e3, e4⟩ := V_n k hk
  have h := At.call (okV k hk) (vs := [v]) (fV k hk) (by rw [e2]; omega) a (fun ρ h => by
    rw [e4]
    exact vc (h (p 33 0, v) (by simp [Rf])) vn)
  rw [e1] at h
  refine Calls.mono h ?_
  rintro e w' ⟨v', rfl, a'⟩
  obtain ⟨B, cap, rfl, hc⟩ := a'.first (gV k hk)
  exact ⟨B, cap, rfl, hc, (a'.raise e3).fewer fun q hq => List.mem_cons.mpr (.inr hq)⟩
theorem valuesw_calls (hk : k < 11) (a : At W (HV k) 110000 (Rf v u) w) : Calls Tryz.prog 11 #[u] w (fun e w' => ∃ B cap, e = .returned (.slice (some ⟨B, 0, none⟩) 2 cap) ∧ w'.cell? ⟨B, 0, none⟩ = some (.int .i64 10) ∧ At W (HW k) 110191 (Rf v u) w') := by
  refine Calls.mono (At.call ok_x11_110000 (vs := [u]) (fW k hk) (Nat.le_refl _) a (fun ρ h => vc (h (p 20033 0, u) (by simp [Rf])) vn)) ?_
  rintro e w' ⟨v', rfl, a'⟩
  obtain ⟨B, cap, rfl, hc⟩ := a'.first (gW k hk)
  exact ⟨B, cap, rfl, hc, a'.fewer fun q hq => List.mem_cons.mpr (.inr hq)⟩
theorem edgew_calls (hk : k < 11) (a : At W (HW k) 110191 (Rf v u) w) : Calls Tryz.prog 8 #[u, .int .i64 0] w (fun e w' => ∃ pe, e = .returned pe ∧ At W (lay x8_1.post (HW k)) 110191 ((p 20048 0, pe) :: Rf v u) w') :=
  a.look ok_x8_1 rfl (vs := [u, .int .i64 0]) (fF k hk) (fun _ h => vc (h (p 20033 0, u) (by simp [Rf])) (vc rfl vn))
theorem dow_calls (hk : k < 11) {pe : Value} (a : At W (lay x8_1.post (HW k)) 110191 ((p 20048 0, pe) :: Rf v u) w) : Calls Tryz.prog 9 #[pe, cnt 10] w (fun e w' => e = .returned (.int .i64 0) ∧ Below W.heap.size W w') := by
  refine Calls.mono (At.call ok_x9_120000 (vs := [pe, cnt 10]) (fO k hk) (by decide) a (fun ρ h => vc (h (p 20048 0, pe) (by simp)) (vc (vr_cnt ρ 10) vn))) ?_
  rintro e w' ⟨v', rfl, a'⟩
  refine ⟨?_, a'.bel⟩
  obtain ⟨ρ, _, _, hv⟩ := a'
  have : v' = .int .i64 0 := hv (x9_120000.v, v') (by simp)
  rw [this]
end
end Go.Proofs
open Go Go.Ev
open Go.RowKit
namespace Go.Proofs
theorem tmod_wrap (a n : Int) (hn : 0 < n) (ha : a < 0) : (if a.tmod n < 0 then a.tmod n + n else a.tmod n) = a % n := by
  have h5 : a.tmod n = -((-a) % n) := by
    rw [← Int.neg_neg a, Int.neg_tmod, Int.neg_neg, Int.tmod_eq_emod_of_nonneg (by omega)]
  rw [h5]
  have h6 := Int.emod_nonneg (-a) (show n ≠ 0 by omega)
  have h7 := Int.emod_lt_of_pos (-a) hn
  have h8 := Int.emod_nonneg a (show n ≠ 0 by omega)
  have h9 := Int.emod_lt_of_pos a hn
  have e1 := Int.mul_ediv_add_emod a n
  have e2 := Int.mul_ediv_add_emod (-a) n
  by_cases h : (-a) % n = 0
  · rw [if_neg (by omega), h]
    have : n ∣ a := by have := Int.dvd_of_emod_eq_zero h; exact (Int.dvd_neg).mp this
    rw [Int.emod_eq_zero_of_dvd this]; rfl
  · rw [if_pos (by omega)]
    have : a % n = (n - (-a) % n) := by
      have e3 : a = -(-a) := by omega
      rw [Int.emod_eq_iff (by omega)]
      refine ⟨by omega, by omega, ?_⟩
      have : n - -a % n - a = n * ((-a) / n + 1) := by rw [Int.mul_add]; omega
      rw [this]; exact Int.dvd_mul_right _ _
    omega
end Go.Proofs
open Go Go.Ev
open Go.RowKit
namespace Go.Proofs
theorem ret_int {k : IntKind} {a b : Int} (h : a = b) : Ending.returned (.int k a) = .returned (.int k b) := by rw [h]
set_option maxHeartbeats 1000000 in
theorem within_calls (a : Int) (w : World) : Calls Tryz.prog 7 #[.int .i64 a, .int .i64 11] w fun e w' => e = .returned (.int .i64 (a % 11)) ∧ w = w' := by
  have h2 := Int.emod_nonneg a (show (11 : Int) ≠ 0 by omega)
  have h3 := Int.emod_lt_of_pos a (show (0 : Int) < 11 by omega)
  by_cases h : 0 ≤ a
  · go_enter Tryz.func7, Tryz.ntmps7
    go_wp2
    go_ret
    exact ⟨rfl, rfl⟩
  · have h4 : Hid (_ = _) := tmod_wrap a 11 (by omega) (by omega)
    have h5 : a.tmod 11 ≤ 0 := by rw [← Int.neg_neg a, Int.neg_tmod]; have := Int.tmod_nonneg 11 (show 0 ≤ -a by omega); omega
    have h6 : -11 < a.tmod 11 := by rw [← Int.neg_neg a, Int.neg_tmod]; have := Int.tmod_lt_of_pos (-a) (show (0 : Int) < 11 by omega); omega
    go_enter Tryz.func7, Tryz.ntmps7
    go_wp2
    all_goals go_ret
    all_goals refine ⟨ret_int ?_, rfl⟩
    · rw [← h4.out, if_pos (by assumption)]
    · rw [← h4.out, if_neg (by omega)]
end Go.Proofs
open Go Go.Ev
open Go.RowKit
namespace Go.Proofs
theorem At.ptr {W w : World} {h : Tr AO} {N : Nat} {refs : List (AV × Value)} (a : At W h N refs w) {b o : Nat} {v : Value} (hm : (L.p b o, v) ∈ refs) : ∃ B, v = .pointer (some ⟨B, o, none⟩) := by
  obtain ⟨ρ, _, _, hv⟩ := a
  obtain ⟨B, κ, _, e⟩ := hv _ hm
  exact ⟨B, e⟩
theorem hid {p : Prop} (h : p) : Hid p := h
set_option maxHeartbeats 4000000 in
theorem walk (n : Int) (W : World) : Calls Tryz.prog 3 #[.int .i64 n] W fun e w' => e = .returned (.bool true) ∧ Below W.heap.size W w' := by
  go_enter Tryz.func3, Tryz.ntmps3
  go_wp2_with fail
  refine (known_calls _).mono ?_
  rintro e w1 ⟨rfl, b1⟩
  have a1 : Hid (At W Tr.e 0 [] w1) := At.start b1
  go_wp2_with fail
  refine (begun1_calls a1.out).mono ?_
  rintro e w2 ⟨v, rfl, a2⟩
  obtain ⟨Bv, hv⟩ := a2.ptr (b := 33) (o := 0) (v := v) (by simp)
  subst hv
  clear a1 b1
  have a2 : Hid _ := hid a2
  go_wp2_with fail
  refine (begun2_calls a2.out).mono ?_
  rintro e w3 ⟨u, rfl, a3⟩
  obtain ⟨Bu, hu⟩ := a3.ptr (b := 20033) (o := 0) (v := u) (by simp)
  subst hu
  clear a2
  have a3 : Hid _ := hid a3
  go_wp2_with fail
  refine (askv_calls a3.out).mono ?_
  rintro e w4 ⟨rfl, a4⟩
  clear a3
  have a4 : Hid _ := hid a4
  go_wp2_with fail
  refine (askw_calls a4.out).mono ?_
  rintro e w5 ⟨rfl, a5⟩
  clear a4
  have a5 : Hid _ := hid a5
  go_wp2_with fail
  refine (within_calls n _).mono ?_
  rintro e w6 ⟨rfl, rfl⟩
  have h2 := Int.emod_nonneg n (show (11 : Int) ≠ 0 by omega)
  have h3 := Int.emod_lt_of_pos n (show (0 : Int) < 11 by omega)
  generalize n % 11 = m at h2 h3 ⊢
  go_wp2_with fail
  obtain ⟨r, rfl⟩ : ∃ r : Nat, m = (r : Int) := ⟨m.toNat, by omega⟩
  have hr : r < 11 := by omega
  go_loopw [5] (fun v5 wr => ∃ k : Nat, k ≤ r ∧ v5 = .int .i64 k ∧ At W (H k) (70000 + 1000 * k) (Rf (.pointer (some ⟨Bv, 0, none⟩)) (.pointer (some ⟨Bu, 0, none⟩))) wr) (fun v5 _ => r - (intOf v5).toNat)
  case atStart => exact ⟨0, Nat.zero_le _, rfl, (At.raise a5.out (by decide))⟩
  case round =>
    clear a5
    obtain ⟨k, hk, rfl, hA⟩ := hrel
    have HA := hid hA
    clear hA
    by_cases hlt : k < r
    · have klt : (k : Int) < r := by omega
      have k0 : (0 : Int) ≤ (k : Int) := by omega
      go_wp2_with fail
      refine (edgev_calls (by omega) HA.out).mono ?_
      rintro e w7 ⟨pe, rfl, a7⟩
      have a7 := hid a7
      clear HA
      go_wp2_with fail
      refine (count1_calls _).mono ?_
      rintro e w8 ⟨rfl, b8⟩
      have a8 := hid (a7.out.below b8)
      clear a7 b8
      go_wp2_with fail
      refine (do_calls (by omega) a8.out).mono ?_
      rintro e w9 ⟨rfl, a9⟩
      have a9 := hid a9
      clear a8
      go_wp2_with fail
      go_roundw
      · exact ⟨k + 1, by omega, by simp, a9.out⟩
      · simp only [intOf]; omega
    · have e : k = r := by omega
      subst e
      clear hlt hk
      have k0 : (0 : Int) ≤ (k : Int) := by omega
      have k10 : (k : Int) ≤ 10 := by omega
      go_wp2_with fail
      refine (values_calls (by omega) HA.out).mono ?_
      rintro e w7 ⟨B7, c7, rfl, h7, a7⟩
      have a7 := hid a7
      clear HA
      have h7 : w7.cell? ⟨B7, 0, none⟩ = some (.int .i64 (10 + (k : Int))) := by rw [h7]; congr 2
      go_wp2_with fail
      refine (valuesw_calls (by omega) a7.out).mono ?_
      rintro e w8 ⟨B8, c8, rfl, h8, a8⟩
      have a8 := hid a8
      clear a7 h7
      go_wp2_with fail
      refine (edgew_calls (by omega) a8.out).mono ?_
      rintro e w9 ⟨pe, rfl, a9⟩
      have a9 := hid a9
      clear a8 h8
      go_wp2_with fail
      refine (count10_calls _).mono ?_
      rintro e wA ⟨rfl, bA⟩
      have aA := hid (a9.out.below bA)
      clear a9 bA
      go_wp2_with fail
      refine (dow_calls (by omega) aA.out).mono ?_
      rintro e wB ⟨rfl, bB⟩
      go_wp2_with fail
      go_ret
      exact ⟨rfl, bB⟩
end Go.Proofs
