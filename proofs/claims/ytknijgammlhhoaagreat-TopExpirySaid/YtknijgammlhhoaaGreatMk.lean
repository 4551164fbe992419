/- Rests, rounds of Sync; what is known by laws. -/
import Derived.Test.YtknijgammlhhoaaGreatMfB
import Derived.Deep.DeepCutAuto
import Derived.StillTailTactics
import Derived.IntWalk
import Derived.WalkKit
import Derived.Test.YtknijgammlhhoaaGreatProg
import Derived.Test.YtknijgammlhhoaaGreatMi
import Derived.Test.YtknijgammlhhoaaGreatChecked
set_option maxRecDepth 100000
set_option linter.all false
open Go Go.Ev
open Go.RowKit
namespace Go.Proofs
theorem tmod_wrap (a n : Int) (hn : 0 < n) (ha : a < 0) : (if a.tmod n < 0 then a.tmod n + n else a.tmod n) = a % n := by
  have h5 : a.tmod n = -((-a) % n) := by
    rw [← Int.neg_neg a, Int.neg_tmod, Int.neg_neg, Int.tmod_eq_emod_of_nonneg (by omega)]
  rw [h5]
  have h6 := Int.emod_nonneg (-a) (show n ≠ 0 by omega)
  have h7 := Int.emod_lt_of_pos (-a) hn
  have h8 := Int.emod_nonneg a (show n ≠ 0 by omega)
  have h9 := Int.emod_lt_of_pos a hn
  have e1 := Int.mul_ediv_add_emod a n
  have e2 := Int.mul_ediv_add_emod (-a) n
  by_cases h : (-a) % n = 0
  · rw [if_neg (by omega), h]
    have : n ∣ a := by have := Int.dvd_of_emod_eq_zero h; exact (Int.dvd_neg).mp this
    rw [Int.emod_eq_zero_of_dvd this]; rfl
  · rw [if_pos (by omega)]
    have : a % n = (n - (-a) % n) := by
      have e3 : a = -(-a) := by omega
      rw [Int.emod_eq_iff (by omega)]
      refine ⟨by omega, by omega, ?_⟩
      have : n - -a % n - a = n * ((-a) / n + 1) := by rw [Int.mul_add]; omega
      rw [this]; exact Int.dvd_mul_right _ _
    omega
theorem ret_int {k : IntKind} {a b : Int} (h : a = b) : Ending.returned (.int k a) = .returned (.int k b) := by rw [h]
set_option maxHeartbeats 1000000 in
theorem within40_calls (a : Int) (w : World) : Calls Tryz.prog 6 #[.int .i64 a, .int .i64 40] w fun e w' => e = .returned (.int .i64 (a % 40)) ∧ w = w' := by
  have h2 := Int.emod_nonneg a (show (40 : Int) ≠ 0 by omega)
  have h3 := Int.emod_lt_of_pos a (show (0 : Int) < 40 by omega)
  by_cases h : 0 ≤ a
  · go_enter Tryz.func6, Tryz.ntmps6
    go_wp2
    go_ret
    exact ⟨rfl, rfl⟩
  · have h4 : Hid (_ = _) := tmod_wrap a 40 (by omega) (by omega)
    have h5 : a.tmod 40 ≤ 0 := by rw [← Int.neg_neg a, Int.neg_tmod]; have := Int.tmod_nonneg 40 (show 0 ≤ -a by omega); omega
    have h6 : -40 < a.tmod 40 := by rw [← Int.neg_neg a, Int.neg_tmod]; have := Int.tmod_lt_of_pos (-a) (show (0 : Int) < 40 by omega); omega
    go_enter Tryz.func6, Tryz.ntmps6
    go_wp2
    all_goals go_ret
    all_goals refine ⟨ret_int ?_, rfl⟩
    · rw [← h4.out, if_pos (by assumption)]
    · rw [← h4.out, if_neg (by omega)]
set_option maxHeartbeats 1000000 in
theorem within6_calls (a : Int) (w : World) : Calls Tryz.prog 6 #[.int .i64 a, .int .i64 6] w fun e w' => e = .returned (.int .i64 (a % 6)) ∧ w = w' := by
  have h2 := Int.emod_nonneg a (show (6 : Int) ≠ 0 by omega)
  have h3 := Int.emod_lt_of_pos a (show (0 : Int) < 6 by omega)
  by_cases h : 0 ≤ a
  · go_enter Tryz.func6, Tryz.ntmps6
    go_wp2
    go_ret
    exact ⟨rfl, rfl⟩
  · have h4 : Hid (_ = _) := tmod_wrap a 6 (by omega) (by omega)
    have h5 : a.tmod 6 ≤ 0 := by rw [← Int.neg_neg a, Int.neg_tmod]; have := Int.tmod_nonneg 6 (show 0 ≤ -a by omega); omega
    have h6 : -6 < a.tmod 6 := by rw [← Int.neg_neg a, Int.neg_tmod]; have := Int.tmod_lt_of_pos (-a) (show (0 : Int) < 6 by omega); omega
    go_enter Tryz.func6, Tryz.ntmps6
    go_wp2
    all_goals go_ret
    all_goals refine ⟨ret_int ?_, rfl⟩
    · rw [← h4.out, if_pos (by assumption)]
    · rw [← h4.out, if_neg (by omega)]
set_option maxHeartbeats 1000000 in
theorem within3_calls (a : Int) (w : World) : Calls Tryz.prog 6 #[.int .i64 a, .int .i64 3] w fun e w' => e = .returned (.int .i64 (a % 3)) ∧ w = w' := by
  have h2 := Int.emod_nonneg a (show (3 : Int) ≠ 0 by omega)
  have h3 := Int.emod_lt_of_pos a (show (0 : Int) < 3 by omega)
  by_cases h : 0 ≤ a
  · go_enter Tryz.func6, Tryz.ntmps6
    go_wp2
    go_ret
    exact ⟨rfl, rfl⟩
  · have h4 : Hid (_ = _) := tmod_wrap a 3 (by omega) (by omega)
    have h5 : a.tmod 3 ≤ 0 := by rw [← Int.neg_neg a, Int.neg_tmod]; have := Int.tmod_nonneg 3 (show 0 ≤ -a by omega); omega
    have h6 : -3 < a.tmod 3 := by rw [← Int.neg_neg a, Int.neg_tmod]; have := Int.tmod_lt_of_pos (-a) (show (0 : Int) < 3 by omega); omega
    go_enter Tryz.func6, Tryz.ntmps6
    go_wp2
    all_goals go_ret
    all_goals refine ⟨ret_int ?_, rfl⟩
    · rw [← h4.out, if_pos (by assumption)]
    · rw [← h4.out, if_neg (by omega)]
theorem withinL_holds (hf : ∃ fn c, Tryz.prog.funcs[6]? = some fn ∧ fn.body = some c ∧ (fn.name == "runtime.NumGoroutine") = false) : LawOk Tryz.prog (withinL [40, 6, 3] 6) := by
  refine withinL_ok hf fun a m w hm => ?_
  have : m = 40 ∨ m = 6 ∨ m = 3 := by
    simp only [List.any_cons, List.any_nil, Bool.or_false, Bool.or_eq_true] at hm
    rcases hm with h | h | h <;> have := Nat.eq_of_beq_eq_true h <;> omega
  rcases this with rfl | rfl | rfl
  · exact ⟨by omega, within40_calls a w⟩
  · exact ⟨by omega, within6_calls a w⟩
  · exact ⟨by omega, within3_calls a w⟩
end Go.Proofs
namespace Go.Proofs
open Go.Ev
noncomputable def laws : List LawF := [crcL, incL, withinL [40, 6, 3] 6]
end Go.Proofs
open Go
open Go.RowKit
namespace Go.Proofs
theorem hidP {p : Prop} (h : p) : Hid p := h
/-- A call that gives nothing. -/
def Gone (f : Nat) (args : Array Value) (W : World) (Q : World → Prop) : Prop := Calls Tryz.prog f args W fun e W' => (∃ v, e = .returned v) ∧ Q W'
/-- The clients from the i-th one on speak. -/
def ClientsTo (wv : Value) (m : Nat) : Nat → Nat → World → (World → Prop) → Prop
  | 0, _, W, Q => Q W
  | r + 1, i, W, Q => Calls Tryz.prog 31 #[wv] W fun e W1 => ∃ k : Int, e = .returned (.int .i64 k) ∧
      Gone 27 #[wv, .int .i64 i, .int .i64 (if k < 0 then 0 else k)] W1 fun W2 => Gone 28 #[wv] W2 fun W3 => ClientsTo wv m r (i + 1) W3 Q
/-- A round of Sync. -/
def RoundTo (B o : Nat) (W : World) (Q : World → Prop) : Prop :=
  Gone 28 #[.pointer (some ⟨B, o, none⟩)] W fun W1 => ∃ g, W1.cell? ⟨B, o, none⟩ = some (.pointer g) ∧ Gone 29 #[.pointer g, .int .i64 1] W1 fun W2 =>
    Gone 30 #[.pointer (some ⟨B, o, none⟩)] W2 fun W3 => ∃ a m c, m ≤ 1000 ∧ W3.cell? ⟨B, o + 1, none⟩ = some (.slice a m c) ∧ ClientsTo (.pointer (some ⟨B, o, none⟩)) m m 0 W3 Q
def RoundsTo (B o : Nat) : Nat → World → (World → Prop) → Prop
  | 0, W, Q => Q W
  | n + 1, W, Q => RoundTo B o W fun W' => RoundsTo B o n W' Q
set_option maxHeartbeats 4000000 in
theorem sync_calls (B o n : Nat) (hn : n ≤ 200) (W : World) (Q : World → Prop) (h : RoundsTo B o n W Q) : Calls Tryz.prog 9 #[.pointer (some ⟨B, o, none⟩), .int .i64 n] W fun e W' => e = .returned (.tuple #[]) ∧ Q W' := by
  have n0 : (0 : Int) ≤ (n : Int) := by omega
  have n2 : (n : Int) ≤ 200 := by omega
  go_enter Tryz.func9, Tryz.ntmps9
  go_wp2_with fail
  go_loopw [11] (fun c wr => ∃ j : Nat, j ≤ n ∧ c = .int .i64 j ∧ RoundsTo B o (n - j) wr Q) (fun c _ => n - (intOf c).toNat)
  case atStart => exact ⟨0, Nat.zero_le _, rfl, h⟩
  case round =>
    clear h
    obtain ⟨j, hj, rfl, hR⟩ := hrel
    by_cases hlt : j < n
    · have klt : (j : Int) < n := by omega
      have k0 : (0 : Int) ≤ (j : Int) := by omega
      obtain ⟨r, hr⟩ : ∃ r, n - j = r + 1 := ⟨n - j - 1, by omega⟩
      rw [hr] at hR
      have hR : Hid (RoundTo B o wr fun W' => RoundsTo B o r W' Q) := hR
      go_wp2_with fail
      refine Calls.mono hR.out ?_
      rintro e w1 ⟨⟨v1, rfl⟩, g, hg, h1⟩
      have h1 := hidP h1
      clear hR
      go_wp2_with fail
      refine Calls.mono h1.out ?_
      rintro e w2 ⟨⟨v2, rfl⟩, h2⟩
      have h2 := hidP h2
      clear h1 hg
      go_wp2_with fail
      refine Calls.mono h2.out ?_
      rintro e w3 ⟨⟨v3, rfl⟩, a, m, c, hm, hc, h3⟩
      have h3 := hidP h3
      clear h2
      go_wp2_with fail
      go_loopw [27] (fun c wr => ∃ i : Nat, i ≤ m ∧ c = .int .i64 i ∧ ClientsTo (.pointer (some ⟨B, o, none⟩)) m (m - i) i wr fun W' => RoundsTo B o r W' Q) (fun c _ => m - (intOf c).toNat)
      case atStart => exact ⟨0, Nat.zero_le _, rfl, h3.out⟩
      case round =>
        clear h3 hc
        obtain ⟨i, hi, rfl, hC⟩ := hrel
        by_cases hlt2 : i < m
        · have ilt : (i : Int) < m := by omega
          have i0 : (0 : Int) ≤ (i : Int) := by omega
          obtain ⟨q, hq⟩ : ∃ q, m - i = q + 1 := ⟨m - i - 1, by omega⟩
          rw [hq] at hC
          have hC := hidP hC
          go_wp2_with fail
          refine Calls.mono hC.out ?_
          rintro e w4 ⟨k, rfl, h4⟩
          by_cases hk : k < 0
          · rw [if_pos hk] at h4
            have h4 := hidP h4
            clear hC
            go_wp2_with fail
            refine Calls.mono h4.out ?_
            rintro e w5 ⟨⟨v5, rfl⟩, h5⟩
            have h5 := hidP h5
            clear h4
            go_wp2_with fail
            refine Calls.mono h5.out ?_
            rintro e w6 ⟨⟨v6, rfl⟩, h6⟩
            have h6 := hidP h6
            clear h5
            go_wp2_with fail
            go_roundw
            · exact ⟨i + 1, by omega, by simp, by rw [show m - (i + 1) = q by omega]; exact h6.out⟩
            · simp only [intOf]; omega
          · rw [if_neg hk] at h4
            have hk0 : 0 ≤ k := by omega
            have h4 := hidP h4
            clear hC
            go_wp2_with fail
            refine Calls.mono h4.out ?_
            rintro e w5 ⟨⟨v5, rfl⟩, h5⟩
            have h5 := hidP h5
            clear h4
            go_wp2_with fail
            refine Calls.mono h5.out ?_
            rintro e w6 ⟨⟨v6, rfl⟩, h6⟩
            have h6 := hidP h6
            clear h5
            go_wp2_with fail
            go_roundw
            · exact ⟨i + 1, by omega, by simp, by rw [show m - (i + 1) = q by omega]; exact h6.out⟩
            · simp only [intOf]; omega
        · obtain rfl : i = m := by omega
          rw [Nat.sub_self] at hC
          have hC : Hid (RoundsTo B o r _ Q) := hC
          clear hlt2
          have i0 : (0 : Int) ≤ (i : Int) := by omega
          go_wp2_with fail
          go_roundw
          · exact ⟨j + 1, by omega, by simp, by rw [show n - (j + 1) = r by omega]; exact hC.out⟩
          · simp only [intOf]; omega
    · obtain rfl : j = n := by omega
      rw [Nat.sub_self] at hR
      have hR : Hid (Q _) := hR
      clear hlt
      have k0 : (0 : Int) ≤ (j : Int) := by omega
      go_wp2_with fail
      go_end0
      exact ⟨rfl, hR.out⟩
end Go.Proofs
namespace Go.Ev
open Go.RowKit (Below)
open Go.Proofs (Tryz.prog Gone ClientsTo RoundTo RoundsTo sync_calls)
theorem Gone.mono {f : Nat} {args : Array Value} {W : World} {Q Q' : World → Prop} (h : ∀ W, Q W → Q' W) (g : Gone f args W Q) : Gone f args W Q' := Calls.mono g fun _ _ ⟨a, b⟩ => ⟨a, h _ b⟩
theorem ClientsTo.mono {wv : Value} {m : Nat} {Q Q' : World → Prop} (h : ∀ W, Q W → Q' W) : ∀ {r i : Nat} {W : World}, ClientsTo wv m r i W Q → ClientsTo wv m r i W Q'
  | 0, _, _, g => h _ g
  | _ + 1, _, _, g => Calls.mono g fun _ _ ⟨k, e, g⟩ => ⟨k, e, Gone.mono (fun _ g => Gone.mono (fun _ g => ClientsTo.mono h g) g) g⟩
theorem RoundTo.mono {B o : Nat} {W : World} {Q Q' : World → Prop} (h : ∀ W, Q W → Q' W) (g : RoundTo B o W Q) : RoundTo B o W Q' :=
  Gone.mono (fun _ ⟨a, b, g⟩ => ⟨a, b, Gone.mono (fun _ g => Gone.mono (fun _ ⟨a, b, c, d, e, g⟩ => ⟨a, b, c, d, e, ClientsTo.mono h g⟩) g) g⟩) g
theorem RoundsTo.mono {B o : Nat} {Q Q' : World → Prop} (h : ∀ W, Q W → Q' W) : ∀ {n : Nat} {W : World}, RoundsTo B o n W Q → RoundsTo B o n W Q'
  | 0, _, g => h _ g
  | _ + 1, _, g => RoundTo.mono (fun _ g => RoundsTo.mono h g) g
theorem RoundsTo.add {B o : Nat} {Q : World → Prop} {b : Nat} : ∀ {a : Nat} {W : World}, RoundsTo B o a W (fun W1 => RoundsTo B o b W1 Q) → RoundsTo B o (a + b) W Q
  | 0, W, g => by rw [Nat.zero_add]; exact g
  | a + 1, W, g => by
    have e : a + 1 + b = (a + b) + 1 := by omega
    rw [e]
    exact RoundTo.mono (fun _ g => RoundsTo.add g) g
/- rounds, by the evaluator -/
noncomputable section
def clientsC (cf : CallF) (w : AV) : Nat → Nat → S → RV
  | 0, _, s => .ok undefA s
  | r + 1, i, s => match cf 31 [w] s with
    | .ok v s => (match v with
      | .int .i64 k => (match cf 27 [w, .int .i64 (i : Int), .int .i64 (if k < 0 then 0 else k)] s with
        | .ok _ s => (match cf 28 [w] s with | .ok _ s => clientsC cf w r (i + 1) s | .no y => .no y)
        | .no y => .no y)
      | _ => .no "leader")
    | .no y => .no y
def roundC (cf : CallF) (b o : Nat) (s : S) : RV := match cf 28 [.ptr b o] s with
  | .ok _ s => (match s.loadN b o 1 oneCell with
    | .ok v s => (match v with
      | .ptr g q => (match cf 29 [.ptr g q, .int .i64 1] s with
        | .ok _ s => (match cf 30 [.ptr b o] s with
          | .ok _ s => (match s.loadN b (o + 1) 1 oneCell with
            | .ok l s => (match l with
              | .slc _ _ m _ _ => cond (Nat.ble m 1000) (clientsC cf (.ptr b o) m 0 s) (.no "clients")
              | _ => .no "clients")
            | .no y => .no y)
          | .no y => .no y)
        | .no y => .no y)
      | _ => .no "group")
    | .no y => .no y)
  | .no y => .no y
def roundsC (cf : CallF) (b o : Nat) : Nat → S → RV
  | 0, s => .ok undefA s
  | n + 1, s => match roundC cf b o s with | .ok _ s => roundsC cf b o n s | .no y => .no y
/- by the fast one -/
def clientsF (cf : CallZ) (w : AV) : Nat → Nat → S → (S → Bool) → Bool
  | 0, _, s, κ => κ s
  | r + 1, i, s, κ => cf 31 [w] s fun v s => onI64 v fun k => cf 27 [w, .int .i64 (i : Int), .int .i64 (if k < 0 then 0 else k)] s fun _ s => cf 28 [w] s fun _ s => clientsF cf w r (i + 1) s κ
def roundF (cf : CallZ) (b o : Nat) (s : S) (κ : S → Bool) : Bool := cf 28 [.ptr b o] s fun _ s => load1 b o s fun v s => onPtr v fun g q => cf 29 [.ptr g q, .int .i64 1] s fun _ s => cf 30 [.ptr b o] s fun _ s =>
  load1 b (o + 1) s fun l s => onSlc l fun _ _ m => Bool.rec (motive := fun _ => Bool) false (clientsF cf (.ptr b o) m 0 s κ) (Nat.ble m 1000)
def roundsF (cf : CallZ) (b o : Nat) : Nat → S → (S → Bool) → Bool
  | 0, s, κ => κ s
  | n + 1, s, κ => roundF cf b o s fun s => roundsF cf b o n s κ
end
theorem clientsF_true {cz : CallZ} {cf : CallF} (hc : CallsOk cz cf) (w : AV) : ∀ (r i : Nat) (s : S) (κ : S → Bool), clientsF cz w r i s κ = true → ∃ s', clientsC cf w r i s = .ok undefA s' ∧ κ s' = true
  | 0, _, s, _, h => ⟨s, rfl, h⟩
  | r + 1, i, s, κ, h => by
    obtain ⟨v, s1, e1, h⟩ := hc _ _ _ _ h
    obtain ⟨k, rfl, h⟩ := onI64_true h
    obtain ⟨_, s2, e2, h⟩ := hc _ _ _ _ h
    obtain ⟨_, s3, e3, h⟩ := hc _ _ _ _ h
    obtain ⟨s4, e4, h⟩ := clientsF_true hc w r (i + 1) s3 κ h
    refine ⟨s4, ?_, h⟩
    unfold clientsC
    rw [e1]; dsimp only
    rw [e2]; dsimp only
    rw [e3]; exact e4
theorem roundF_true {cz : CallZ} {cf : CallF} (hc : CallsOk cz cf) {b o : Nat} {s : S} {κ : S → Bool} (h : roundF cz b o s κ = true) : ∃ s', roundC cf b o s = .ok undefA s' ∧ κ s' = true := by
  obtain ⟨_, s1, e1, h⟩ := hc _ _ _ _ h
  obtain ⟨v, s2, e2, h⟩ := load1_true h
  obtain ⟨g, q, rfl, h⟩ := onPtr_true h
  obtain ⟨_, s3, e3, h⟩ := hc _ _ _ _ h
  obtain ⟨_, s4, e4, h⟩ := hc _ _ _ _ h
  obtain ⟨l, s5, e5, h⟩ := load1_true h
  obtain ⟨_, _, m, _, _, rfl, h⟩ := onSlc_true h
  obtain ⟨h1, h⟩ := brec_t h
  obtain ⟨s6, e6, h⟩ := clientsF_true hc _ _ _ _ _ h
  refine ⟨s6, ?_, h⟩
  unfold roundC
  rw [e1]; dsimp only
  rw [e2]; dsimp only
  rw [e3]; dsimp only
  rw [e4]; dsimp only
  rw [e5]; dsimp only
  rw [h1]; exact e6
theorem roundsF_true {cz : CallZ} {cf : CallF} (hc : CallsOk cz cf) {b o : Nat} : ∀ (n : Nat) (s : S) (κ : S → Bool), roundsF cz b o n s κ = true → ∃ s', roundsC cf b o n s = .ok undefA s' ∧ κ s' = true
  | 0, s, _, h => ⟨s, rfl, h⟩
  | n + 1, s, κ, h => by
    obtain ⟨s1, e1, h⟩ := roundF_true hc h
    obtain ⟨s2, e2, h⟩ := roundsF_true hc n s1 κ h
    refine ⟨s2, ?_, h⟩
    unfold roundsC
    rw [e1]; exact e2
section
variable {cf : CallF}
theorem Framed.step (hf : FramedF cf) (f : Nat) (a : List AV) {K : AV → S → RV} (hK : ∀ v, Framed (K v)) : Framed (fun s => match cf f a s with | .ok v s => K v s | .no y => .no y) :=
  .bind' (hf f a) hK fun s => by cases h : cf f a s <;> (dsimp only [bindR])
theorem Framed.load (b o : Nat) {K : AV → S → RV} (hK : ∀ v, Framed (K v)) : Framed (fun s => match s.loadN b o 1 oneCell with | .ok v s => K v s | .no y => .no y) :=
  .bind' (m := fun s => s.loadN b o 1 oneCell) (.loadN b o 1 fun l => by unfold oneCell; split; exact .ok _; exact .no _) hK fun s => by cases h : s.loadN b o 1 oneCell <;> (dsimp only [bindR])
theorem clientsC_framed (hf : FramedF cf) (w : AV) : ∀ r i, Framed (clientsC cf w r i)
  | 0, i => .ok undefA
  | r + 1, i => by
    show Framed (fun s => match cf 31 [w] s with | .ok v s => _ | .no y => .no y)
    refine .step hf _ _ fun v => ?_
    split
    · refine .step hf _ _ fun _ => ?_
      exact .step hf _ _ fun _ => clientsC_framed hf w r (i + 1)
    · exact .no _
theorem roundC_framed (hf : FramedF cf) (b o : Nat) : Framed (roundC cf b o) := by
  show Framed (fun s => match cf 28 [.ptr b o] s with | .ok _ s => _ | .no y => .no y)
  refine .step hf _ _ fun _ => ?_
  refine .load _ _ fun v => ?_
  split
  · refine .step hf _ _ fun _ => ?_
    refine .step hf _ _ fun _ => ?_
    refine .load _ _ fun l => ?_
    split
    · exact .cond _ (clientsC_framed hf _ _ _) (.no _)
    · exact .no _
  · exact .no _
theorem roundsC_framed (hf : FramedF cf) (b o : Nat) : ∀ n, Framed (roundsC cf b o n)
  | 0 => .ok undefA
  | n + 1 => by
    show Framed (fun s => match roundC cf b o s with | .ok _ s => roundsC cf b o n s | .no y => .no y)
    exact .bind' (roundC_framed hf b o) (fun _ => roundsC_framed hf b o n) fun s => by cases h : roundC cf b o s <;> (dsimp only [bindR])
theorem Framed.up {m : S → RV} (h : Framed m) {s s' : S} {v : AV} (e : m s = .ok v s') : s.n ≤ s'.n := (h s v s' e).1
variable {B0 : Nat} {w0 W : World} {ρ : Env}
theorem Good.step (hg : Good Tryz.prog cf) {f : Nat} {av : List AV} {s s1 : S} {v : AV} (h : cf f av s = .ok v s1) {N : Nat} (hN : s1.n ≤ N) {vs : List Value} (hv : VRs ρ av vs) (hr : Rel B0 w0 ρ s.h W) (hf : Fresh ρ s.n N) :
    Calls Tryz.prog f ⟨vs⟩ W (fun e W1 => ∃ v', e = .returned v' ∧ ∃ ρ1, Ext ρ ρ1 s.n s1.n ∧ VR ρ1 v v' ∧ Rel B0 w0 ρ1 s1.h W1 ∧ Fresh ρ1 s1.n N) := by
  have hup := (hg.framed f av).up h
  refine Calls.mono (hg.calls f av s v s1 h B0 w0 ρ W vs hv hr fun id h1 h2 => hf id h1 (by omega)) ?_
  rintro e W1 ⟨v', rfl, ρ1, hE, hV, hR⟩
  exact ⟨v', rfl, ρ1, hE, hV, hR, fun id h1 h2 => hE.new id (hf id (by omega) h2) (.inr h1)⟩
theorem cell_of {s s1 : S} {b o : Nat} {v : AV} {B κ : Nat} (h : s.loadN b o 1 oneCell = .ok v s1) (hr : Rel B0 w0 ρ s.h W) (hρ : ρ b = some (B, κ)) : s1.h = s.h ∧ s1.n = s.n ∧ ∃ v', VR ρ v v' ∧ W.cell? ⟨B, o, none⟩ = some v' := by
  obtain ⟨c, op, l, hb, hl, hk⟩ := loadN_inv h
  obtain ⟨us, hus, _, _, hcell⟩ := load_cells (P := Tryz.prog) (hr.row hb hρ) hl
  unfold oneCell at hk
  split at hk
  · cases hk
    obtain ⟨u, _, hu, hn, rfl⟩ := hus
    exact ⟨rfl, rfl, u, hu, hcell 0 u rfl⟩
  · cases hk
theorem clientsC_ok (hg : Good Tryz.prog cf) {w : AV} {wv : Value} {m : Nat} : ∀ (r i : Nat) (s s' : S) (v : AV), clientsC cf w r i s = .ok v s' → ∀ (N : Nat), s'.n ≤ N → ∀ (ρ : Env) (W : World), VR ρ w wv → Rel B0 w0 ρ s.h W → Fresh ρ s.n N →
    ClientsTo wv m r i W (fun W' => ∃ ρ', Ext ρ ρ' s.n s'.n ∧ Rel B0 w0 ρ' s'.h W' ∧ Fresh ρ' s'.n N)
  | 0, i, s, s', v, h, N, hN, ρ, W, hw, hr, hf => by
    cases h
    exact ⟨ρ, Ext.refl _ _ _, hr, hf⟩
  | r + 1, i, s, s', v, h, N, hN, ρ, W, hw, hr, hf => by
    unfold clientsC at h
    cases e1 : cf 31 [w] s with
    | no y => rw [e1] at h; cases h
    | ok v1 s1 =>
      rw [e1] at h
      dsimp only at h
      split at h
      · rename_i k
        cases e2 : cf 27 [w, .int .i64 (i : Int), .int .i64 (if k < 0 then 0 else k)] s1 with
        | no y => rw [e2] at h; cases h
        | ok v2 s2 =>
          rw [e2] at h
          dsimp only at h
          cases e3 : cf 28 [w] s2 with
          | no y => rw [e3] at h; cases h
          | ok v3 s3 =>
            rw [e3] at h
            dsimp only at h
            have u1 := (hg.framed _ _).up e1
            have u2 := (hg.framed _ _).up e2
            have u3 := (hg.framed _ _).up e3
            have u4 := (clientsC_framed hg.framed w r (i + 1)).up h
            refine Calls.mono (hg.step e1 (by omega) (vs := [wv]) ⟨wv, _, hw, rfl, rfl⟩ hr hf) ?_
            rintro e W1 ⟨v', rfl, ρ1, E1, V1, R1, F1⟩
            cases V1
            refine ⟨k, rfl, ?_⟩
            have hw1 := VR.mono E1.le _ _ hw
            refine Calls.mono (hg.step e2 (by omega) (vs := [wv, .int .i64 i, .int .i64 (if k < 0 then 0 else k)]) ⟨wv, _, hw1, ⟨_, _, rfl, ⟨_, _, rfl, rfl, rfl⟩, rfl⟩, rfl⟩ R1 F1) ?_
            rintro e W2 ⟨v', rfl, ρ2, E2, _, R2, F2⟩
            refine ⟨⟨_, rfl⟩, ?_⟩
            have hw2 := VR.mono E2.le _ _ hw1
            refine Calls.mono (hg.step e3 (by omega) (vs := [wv]) ⟨wv, _, hw2, rfl, rfl⟩ R2 F2) ?_
            rintro e W3 ⟨v', rfl, ρ3, E3, _, R3, F3⟩
            refine ⟨⟨_, rfl⟩, ?_⟩
            have hw3 := VR.mono E3.le _ _ hw2
            have E13 := (E1.trans E2 u1 u2).trans E3 (by omega) u3
            have := clientsC_ok hg (m := m) r (i + 1) s3 s' v h N hN ρ3 W3 hw3 R3 F3
            refine ClientsTo.mono ?_ this
            rintro W' ⟨ρ', E4, R4, F4⟩
            exact ⟨ρ', E13.trans E4 (by omega) u4, R4, F4⟩
      · cases h
theorem roundC_ok (hg : Good Tryz.prog cf) {b o B κ : Nat} {s s' : S} {v : AV} (h : roundC cf b o s = .ok v s') {N : Nat} (hN : s'.n ≤ N) (hρ : ρ b = some (B, κ)) (hr : Rel B0 w0 ρ s.h W) (hf : Fresh ρ s.n N) :
    RoundTo B o W (fun W' => ∃ ρ', Ext ρ ρ' s.n s'.n ∧ Rel B0 w0 ρ' s'.h W' ∧ Fresh ρ' s'.n N) := by
  unfold roundC at h
  cases e1 : cf 28 [.ptr b o] s with
  | no y => rw [e1] at h; cases h
  | ok v1 s1 =>
  rw [e1] at h
  dsimp only at h
  cases e2 : s1.loadN b o 1 oneCell with
  | no y => rw [e2] at h; cases h
  | ok v2 s2 =>
  rw [e2] at h
  dsimp only at h
  split at h
  · rename_i g q
    cases e3 : cf 29 [.ptr g q, .int .i64 1] s2 with
    | no y => rw [e3] at h; cases h
    | ok v3 s3 =>
    rw [e3] at h
    dsimp only at h
    cases e4 : cf 30 [.ptr b o] s3 with
    | no y => rw [e4] at h; cases h
    | ok v4 s4 =>
    rw [e4] at h
    dsimp only at h
    cases e5 : s4.loadN b (o + 1) 1 oneCell with
    | no y => rw [e5] at h; cases h
    | ok v5 s5 =>
    rw [e5] at h
    dsimp only at h
    split at h
    · rename_i m _ _
      cases hm : Nat.ble m 1000 with
      | false => rw [hm] at h; cases h
      | true =>
      rw [hm] at h
      have u1 := (hg.framed _ _).up e1
      have u3 := (hg.framed _ _).up e3
      have u4 := (hg.framed _ _).up e4
      have u6 := (clientsC_framed hg.framed _ _ _).up h
      have n2 : s2.n = s1.n := by
        obtain ⟨c, op, l, hb, hl, hk⟩ := loadN_inv e2
        unfold oneCell at hk
        split at hk
        · cases hk; rfl
        · cases hk
      have h2 : s2.h = s1.h := by
        obtain ⟨c, op, l, hb, hl, hk⟩ := loadN_inv e2
        unfold oneCell at hk
        split at hk
        · cases hk; rfl
        · cases hk
      have n5 : s5.n = s4.n := by
        obtain ⟨c, op, l, hb, hl, hk⟩ := loadN_inv e5
        unfold oneCell at hk
        split at hk
        · cases hk; rfl
        · cases hk
      have hw : VR ρ (.ptr b o) (.pointer (some ⟨B, o, none⟩)) := ⟨B, κ, hρ, rfl⟩
      refine Calls.mono (hg.step e1 (N := N) (by omega) (vs := [_]) ⟨_, _, hw, rfl, rfl⟩ hr hf) ?_
      rintro e W1 ⟨v', rfl, ρ1, E1, _, R1, F1⟩
      refine ⟨⟨_, rfl⟩, ?_⟩
      have hρ1 := E1.le _ _ hρ
      obtain ⟨_, _, u, hu, hc⟩ := cell_of e2 R1 hρ1
      obtain ⟨G, κ', hG, rfl⟩ := hu
      refine ⟨_, hc, ?_⟩
      refine Calls.mono (hg.step e3 (N := N) (by omega) (vs := [_, .int .i64 1]) ⟨_, _, ⟨G, κ', hG, rfl⟩, ⟨_, _, rfl, rfl, rfl⟩, rfl⟩ (by rw [h2]; exact R1) (by rw [n2]; exact F1)) ?_
      rintro e W2 ⟨v', rfl, ρ2, E2, _, R2, F2⟩
      rw [n2] at E2
      refine ⟨⟨_, rfl⟩, ?_⟩
      have hρ2 := E2.le _ _ hρ1
      refine Calls.mono (hg.step e4 (N := N) (by omega) (vs := [_]) ⟨_, _, ⟨B, κ, hρ2, rfl⟩, rfl, rfl⟩ R2 F2) ?_
      rintro e W3 ⟨v', rfl, ρ3, E3, _, R3, F3⟩
      refine ⟨⟨_, rfl⟩, ?_⟩
      have hρ3 := E3.le _ _ hρ2
      obtain ⟨h5, _, u, hu, hc⟩ := cell_of e5 R3 hρ3
      obtain ⟨L, κ'', hL, rfl, _⟩ := hu
      refine ⟨_, _, _, Nat.le_of_ble_eq_true hm, hc, ?_⟩
      have E13 := (E1.trans E2 u1 (by omega)).trans E3 (by omega) u4
      have := clientsC_ok hg (m := m) m 0 s5 s' v h N hN ρ3 W3 ⟨B, κ, hρ3, rfl⟩ (by rw [h5]; exact R3) (by rw [n5]; exact F3)
      refine ClientsTo.mono ?_ this
      rintro W' ⟨ρ', E4, R4, F4⟩
      rw [n5] at E4
      exact ⟨ρ', E13.trans E4 (by omega) (by omega), R4, F4⟩
    · cases h
  · cases h
theorem roundsC_ok (hg : Good Tryz.prog cf) {b o B κ : Nat} : ∀ (n : Nat) (s s' : S) (v : AV), roundsC cf b o n s = .ok v s' → ∀ (N : Nat), s'.n ≤ N → ∀ (ρ : Env) (W : World), ρ b = some (B, κ) → Rel B0 w0 ρ s.h W → Fresh ρ s.n N →
    RoundsTo B o n W (fun W' => ∃ ρ', Ext ρ ρ' s.n s'.n ∧ Rel B0 w0 ρ' s'.h W' ∧ Fresh ρ' s'.n N)
  | 0, s, s', v, h, N, hN, ρ, W, hρ, hr, hf => by
    cases h
    exact ⟨ρ, Ext.refl _ _ _, hr, hf⟩
  | n + 1, s, s', v, h, N, hN, ρ, W, hρ, hr, hf => by
    unfold roundsC at h
    cases e1 : roundC cf b o s with
    | no y => rw [e1] at h; cases h
    | ok v1 s1 =>
      rw [e1] at h
      dsimp only at h
      have u1 := (roundC_framed hg.framed b o).up e1
      have u2 := (roundsC_framed hg.framed b o n).up h
      refine RoundTo.mono ?_ (roundC_ok hg e1 (N := N) (by omega) hρ hr hf)
      rintro W1 ⟨ρ1, E1, R1, F1⟩
      refine RoundsTo.mono ?_ (roundsC_ok hg n s1 s' v h N hN ρ1 W1 (E1.le _ _ hρ) R1 F1)
      rintro W' ⟨ρ', E2, R2, F2⟩
      exact ⟨ρ', E1.trans E2 u1 u2, R2, F2⟩
end
/- what a run of rounds says -/
/-- Rounds that were run: f: how many; v: nothing. -/
noncomputable def Fact.kruns (P : Program) (L : List LawF) (T : List (Nat × List Fact)) (d b o : Nat) (x : Fact) : Bool := roundsF (runF P (hooksW L T) d false) b o x.f x.start fun s => x.ended undefA s
def RdsOk (b o : Nat) (x : Fact) : Prop := x.n ≤ x.z ∧ ∀ (s : S), s.n = x.n → (∀ p, p ∈ x.pre → s.h.get p.1 = some p.2) → ∀ (B0 : Nat) (w0 : World) (ρ : Env) (W : World) (B κ : Nat), ρ b = some (B, κ) → Rel B0 w0 ρ s.h W → Fresh ρ x.n x.z →
  RoundsTo B o x.f W (fun W' => ∃ ρ', Ext ρ ρ' x.n x.z ∧ Rel B0 w0 ρ' (lay x.post s.h) W')
theorem Fact.core {x : Fact} {m : S → RV} (hfr : Framed m) {v0 : AV} {t0 : S} (hr0 : m x.start = .ok v0 t0) (hend : x.ended v0 t0 = true) : x.n ≤ x.z ∧ ∀ (s : S), s.n = x.n → (∀ p, p ∈ x.pre → s.h.get p.1 = some p.2) →
    ∀ (B0 : Nat) (w0 : World) (ρ : Env) (w : World), Rel B0 w0 ρ s.h w → Fresh ρ x.n x.z → ∃ s1 s1', m s1 = .ok v0 s1' ∧ s1.n = x.n ∧ s1'.n = x.z ∧ Rel B0 w0 ρ s1.h w ∧ ∀ (ρ' : Env) (w' : World), Rel B0 w0 ρ' s1'.h w' → Rel B0 w0 ρ' (lay x.post s.h) w' := by
  obtain ⟨c1, hend⟩ := brec_t hend
  obtain ⟨c2, hend⟩ := brec_t hend
  obtain ⟨c3, hend⟩ := brec_t hend
  obtain ⟨c4, hend⟩ := brec_t hend
  obtain ⟨c5, hend⟩ := brec_t hend
  obtain ⟨c6, c7⟩ := brec_t hend
  have en := beqN c2
  have hpost := lies_true c3
  have c4 := allN_true c4
  have c5 := allN_true c5
  have c6 := allN_true c6
  have c7 : ∀ b, b ∈ x.pre.map (·.1) → b < x.n := fun b hb => Nat.le_of_ble_eq_true (allN_true c7 b (by rw [keysN_eq]; exact hb))
  obtain ⟨hz, r, wl, er, ew, hkeep, hagain⟩ := hfr x.start v0 t0 hr0
  have hz : x.n ≤ x.z := by rw [en] at hz; exact hz
  have er : t0.r = r := by rw [er]; show r ++ [] = r; simp
  have ew : t0.w = wl := by rw [ew]; show wl ++ [] = wl; simp
  have hstart : ∀ id, id ∉ x.pre.map (·.1) → x.start.h.get id = none := by
    intro id hid
    show (lay x.pre Tr.e).get id = none
    rw [lay_out hid, Tr.get_e]
  refine ⟨hz, ?_⟩
  intro s e1 e3 B0 w0 ρ w hr hn
  let s1 : S := ⟨s.h.wipe x.n (x.z - x.n), x.n, [], []⟩
  have hs1 : ∀ id, s1.h.get id = if x.n ≤ id ∧ id < x.z then none else s.h.get id := by
    intro id
    show (s.h.wipe x.n (x.z - x.n)).get id = _
    rw [Tr.get_wipe]
    have : x.n + (x.z - x.n) = x.z := by omega
    rw [this]
  obtain ⟨s1', h1, h2, _, _, h3, h4⟩ := hagain s1 rfl (fun id hid => by
    rw [← er] at hid
    rcases newOr_true (c4 id hid) with hi | ⟨hi, hh⟩
    · rw [hs1, if_pos hi, hstart id (fun hm => by have := c7 id hm; omega)]
    · obtain ⟨o, ho⟩ := hasN_true hh
      have hm : id ∈ x.pre.map (·.1) := by
        by_cases hm : id ∈ x.pre.map (·.1)
        · exact hm
        · have := hstart id hm
          have e : (lay x.pre Tr.e).get id = none := this
          rw [e] at ho; cases ho
      rw [hs1, if_neg (by omega)]
      exact (lay_in e3 hm).symm) (fun id a b => by
    have b : id < x.z := by rw [en] at b; exact b
    have a : x.n ≤ id := a
    rw [hs1, if_pos ⟨a, b⟩, hstart id (fun hm => by have := c7 id hm; omega)])
  have h2 : s1'.n = x.z := by rw [h2, en]
  have hrel : Rel B0 w0 ρ s1.h w := hr.sub fun id o e hd => by
    rw [hs1] at e
    split at e
    · cases e
    · exact e
  refine ⟨s1, s1', h1, rfl, h2, hrel, ?_⟩
  intro ρ' w' hR
  refine hR.sub fun id o e hd => ?_
  rw [en] at h3 h4
  by_cases hm : id ∈ x.post.map (·.1)
  · rw [lay_in hpost hm] at e
    rw [← e]
    refine h3 id ?_
    rcases newOr_true (c6 id (by rw [keysN_eq]; exact hm)) with hi | ⟨_, hi⟩
    · exact .inr hi
    · left; have := memN_true hi; rw [ew] at this; exact this
  · rw [lay_out hm] at e
    have hout : ¬ (x.n ≤ id ∧ id < x.z) := by
      intro hi
      obtain ⟨B, κ, hb, _⟩ := hr.obj id o e hd
      rw [hn id hi.1 hi.2] at hb; cases hb
    have hw : id ∉ wl := by
      intro hw
      rw [← ew] at hw
      rcases newOr_true (c5 id hw) with hi | ⟨_, hi⟩
      · exact hout hi
      · have := memN_true hi; rw [keysN_eq] at this; exact hm this
    have : id < s1.n ∨ x.z ≤ id := by
      show id < x.n ∨ x.z ≤ id
      omega
    rw [h4 id hw this, hs1, if_neg hout]
    exact e
theorem kruns_ok (hm : Tryz.prog.follows .mixedOrders = true) {L : List LawF} (hL : ∀ p, p ∈ L → LawOk Tryz.prog p) {T : List (Nat × List Fact)} (hT : TableOk Tryz.prog T) {d b o : Nat} {x : Fact} (h : x.kruns Tryz.prog L T d b o = true) : RdsOk b o x := by
  have hg := runW_good hm hL hT d
  obtain ⟨t0, hr0, hend⟩ := roundsF_true (runF_ok (P := Tryz.prog) (hooksW_ok T hL) d).1 _ _ _ h
  obtain ⟨hz, core⟩ := Fact.core (roundsC_framed hg.framed b o x.f) hr0 hend
  refine ⟨hz, ?_⟩
  intro s e1 e3 B0 w0 ρ W B κ hρ hr hf
  obtain ⟨s1, s1', h1, h2, h3, h4, h5⟩ := core s e1 e3 B0 w0 ρ W hr hf
  refine RoundsTo.mono ?_ (roundsC_ok hg x.f s1 s1' undefA h1 x.z (by omega) ρ W hρ h4 (by rw [h2]; exact hf))
  rintro W' ⟨ρ', E, R, _⟩
  rw [h2, h3] at E
  exact ⟨ρ', E, h5 ρ' W' R⟩
theorem lay_append : ∀ (l m : List (Nat × AO)) (h : Tr AO), lay (l ++ m) h = lay m (lay l h)
  | [], _, _ => rfl
  | p :: l, m, h => lay_append l m (h.set p.1 p.2)
/-- Rounds, and rounds behind them. -/
noncomputable def kadd (x y : Fact) : Fact := ⟨x.f + y.f, x.args, x.n, x.pre ++ y.pre.filter fun p => !(memN p.1 (keysN x.post)), undefA, y.z, x.post ++ y.post⟩
noncomputable def kfits (x y : Fact) : Bool := Nat.beq x.z y.n && lies (y.pre.filter fun p => memN p.1 (keysN x.post)) (lay x.post Tr.e)
theorem RdsOk.add {b o : Nat} {x y : Fact} (hx : RdsOk b o x) (hy : RdsOk b o y) (hf : kfits x y = true) : RdsOk b o (kadd x y) := by
  unfold kfits at hf
  rw [Bool.and_eq_true] at hf
  have hzn := beqN hf.1
  have hl := lies_true hf.2
  refine ⟨by show x.n ≤ y.z; have := hx.1; have := hy.1; omega, ?_⟩
  intro s e1 e3 B0 w0 ρ W B κ hρ hr hfr
  have e1 : s.n = x.n := e1
  have hfr : Fresh ρ x.n y.z := hfr
  have hx1 := hx.1
  have hy1 := hy.1
  refine RoundsTo.add (a := x.f) (b := y.f) ?_
  refine RoundsTo.mono ?_ (hx.2 s e1 (fun p hp => e3 p (List.mem_append_left _ hp)) B0 w0 ρ W B κ hρ hr fun id h1 h2 => hfr id h1 (by omega))
  rintro W1 ⟨ρ1, E1, R1⟩
  refine RoundsTo.mono ?_ (hy.2 ⟨lay x.post s.h, y.n, [], []⟩ rfl ?_ B0 w0 ρ1 W1 B κ (E1.le _ _ hρ) R1 fun id h1 h2 => E1.new id (hfr id (by omega) h2) (.inr (by omega)))
  · rintro W' ⟨ρ', E2, R2⟩
    have E : Ext ρ ρ' x.n y.z := E1.trans (by rw [hzn]; exact E2) hx1 (by omega)
    refine ⟨ρ', E, ?_⟩
    show Rel B0 w0 ρ' (lay (x.post ++ y.post) s.h) W'
    rw [lay_append]; exact R2
  · intro p hp
    show (lay x.post s.h).get p.1 = some p.2
    cases hk : memN p.1 (keysN x.post) with
    | true =>
      have hm : p.1 ∈ x.post.map (·.1) := by have := memN_true hk; rwa [keysN_eq] at this
      rw [lay_same (g := Tr.e) hm]
      exact hl p (List.mem_filter.mpr ⟨hp, hk⟩)
    | false =>
      have hm : p.1 ∉ x.post.map (·.1) := by
        intro hm
        have : memN p.1 (keysN x.post) = true := by
          unfold memN
          rw [anyN_eq, List.any_eq_true]
          exact ⟨p.1, by rw [keysN_eq]; exact hm, Nat.beq_refl _⟩
        rw [this] at hk; cases hk
      rw [lay_out hm]
      exact e3 p (List.mem_append_right _ (List.mem_filter.mpr ⟨hp, by rw [hk]; rfl⟩))
/-- Sync, by its rounds. -/
noncomputable def ksync (b o : Nat) (x : Fact) : Fact := ⟨9, [.ptr b o, .int .i64 (x.f : Int)], x.n, x.pre, .tup [], x.z, x.post⟩
theorem RdsOk.sync (hf9 : ∃ fn c, Tryz.prog.funcs[9]? = some fn ∧ fn.body = some c ∧ (fn.name == "runtime.NumGoroutine") = false) {b o : Nat} {x : Fact} (hx : RdsOk b o x) (hn : x.f ≤ 200) : FactOk Tryz.prog (ksync b o x) := by
  refine ⟨hx.1, ?_, ?_, ?_⟩
  · intro f av
    split
    · exact Fact.call_framed (x := ksync b o x) hx.1 f av
    · exact .no _
  · intro f av s v s' h
    split at h
    · rename_i e; rw [e]; exact hf9
    · cases h
  · intro f av s v s' h B0 w0 ρ w vs hv hr hfr
    split at h
    · rename_i e
      rw [e]
      obtain ⟨hfit, rfl, rfl⟩ := Fact.call_ok h
      obtain ⟨e1, e2, e3⟩ := Fact.fits_true hfit
      subst e2
      have e1 : s.n = x.n := e1
      obtain ⟨_, _, ⟨B, κ, hρ, rfl⟩, ⟨_, _, e4, e5, rfl⟩, rfl⟩ := hv
      cases e4; cases e5
      have hfr : Fresh ρ x.n x.z := by rw [← e1]; exact hfr
      refine Calls.mono (sync_calls B o x.f hn w _ (hx.2 s e1 e3 B0 w0 ρ w B κ hρ hr hfr)) ?_
      rintro e w' ⟨rfl, ρ', E, R⟩
      refine ⟨_, rfl, ρ', ?_, ⟨[], rfl, rfl⟩, R⟩
      show Ext ρ ρ' s.n x.z
      rw [e1]; exact E
    · cases h
end Go.Ev
open Go Go.Ev
namespace Go.Proofs
theorem hm : Tryz.prog.follows .mixedOrders = true := by decide +kernel
theorem hf9 : ∃ fn c, Tryz.prog.funcs[9]? = some fn ∧ fn.body = some c ∧ (fn.name == "runtime.NumGoroutine") = false := ⟨_, _, Tryz.func9, rfl, by decide +kernel⟩
theorem hf6 : ∃ fn c, Tryz.prog.funcs[6]? = some fn ∧ fn.body = some c ∧ (fn.name == "runtime.NumGoroutine") = false := ⟨_, _, Tryz.func6, rfl, by decide +kernel⟩
theorem hf224 : ∃ fn c, Tryz.prog.funcs[224]? = some fn ∧ fn.body = some c ∧ (fn.name == "runtime.NumGoroutine") = false := ⟨_, _, Tryz.func224, rfl, by decide +kernel⟩
theorem hf235 : ∃ fn c, Tryz.prog.funcs[235]? = some fn ∧ fn.body = some c ∧ (fn.name == "runtime.NumGoroutine") = false := ⟨_, _, Tryz.func235, rfl, by decide +kernel⟩
theorem lawsOk : ∀ p, p ∈ laws → LawOk Tryz.prog p := by
  intro p hp
  rcases List.mem_cons.mp hp with rfl | hp
  · exact crcL_ok hf235
  · rcases List.mem_cons.mp hp with rfl | hp
    · exact incL_ok hf224
    · rcases List.mem_cons.mp hp with rfl | hp
      · exact withinL_holds hf6
      · cases hp
end Go.Proofs
