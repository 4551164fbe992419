/- Plain: the book of LedgerGrants. -/
import Derived.Test.YtckonmlcgfbojaaLGf
import Derived.Test.YtckonmlcgfbojaaLWn
namespace Go.Proofs.Ytckonmlcgfbojaa
open Go.RowKit

def gB (u0 d0 u1 d1 : Int) (s : Nat) : Bk := ⟨[⟨⟨#[97]⟩, 0, 0, 20, 10, 10 - u0, 10 - d0⟩, ⟨⟨#[98]⟩, 1, -30, 30, 0, 30 - u1, 30 - d1⟩], [((s : Int), 40)], [], []⟩
def gI (s : Nat) : List Rg := if s = 0 then [] else [(0, (s : Int))]
def gL (dev ep : Int) (sl : List Sc) (s : Nat) : Ls := ⟨dev, ep, 77, -1, sl, gI s, []⟩
theorem g_take (s n : Nat) (hs : s < 13) (hn : n < 7) : (takeS [((s : Int), 40)] n).2 = [(((s + n : Nat) : Int), 40)] ∧ addAll (gI s) (takeS [((s : Int), 40)] n).1 = gI (s + n) := by
  have h : ∀ s : Fin 13, ∀ n : Fin 7, (takeS [((s.val : Int), 40)] n.val).2 = [(((s.val + n.val : Nat) : Int), 40)] ∧ addAll (gI s.val) (takeS [((s.val : Int), 40)] n.val).1 = gI (s.val + n.val) := by decide +kernel
  exact h ⟨s, hs⟩ ⟨n, hn⟩
theorem g_len (s : Nat) : lenR [((s : Int), 40)] = 40 - s := by simp [lenR]
theorem g_ixA {u0 d0 u1 d1 : Int} {s : Nat} : ctIx (gB u0 d0 u1 d1 s).cs ⟨#[97]⟩ = 0 := by
  show idxS _ (_ :: _) = 0
  rw [idxS, if_pos (decide_eq_true rfl)]
theorem g_ixB {u0 d0 u1 d1 : Int} {s : Nat} : ctIx (gB u0 d0 u1 d1 s).cs ⟨#[98]⟩ = 1 := by
  show idxS _ (_ :: _ :: _) = 1
  rw [idxS, if_neg (by simp), idxS, if_pos (decide_eq_true rfl)]
  decide
theorem g_ixE {u0 d0 u1 d1 : Int} {s : Nat} : ctIx (gB u0 d0 u1 d1 s).cs ⟨#[]⟩ = -1 := by
  refine idxS_none (fun c hc => ?_)
  simp only [gB, List.mem_cons, List.not_mem_nil, or_false] at hc
  rcases hc with rfl | rfl
  · rfl
  · rfl
theorem g_eA : emp ⟨#[97]⟩ = false := by decide +kernel
theorem g_eB : emp ⟨#[98]⟩ = false := by decide +kernel
theorem g_eE : emp ⟨#[]⟩ = true := by decide +kernel
theorem g_wnB {k : ByteArray} {u d : Int} {n : Nat} (hu : 0 ≤ u ∧ u ≤ 6) (hd : 0 ≤ d ∧ d ≤ 6) (hn : n < 7) : wnB ⟨k, u, d, n⟩ = true := by
  unfold wnB
  simp
  omega

theorem g_stepA {dev ep u d : Int} {n : Nat} (hu : 0 ≤ u ∧ u ≤ 6) (hd : 0 ≤ d ∧ d ≤ 6) (hn : n < 7) :
    wantE (gB 0 0 0 0 0) ⟨⟨#[97]⟩, u, d, n⟩ = 0 ∧ wantB (gB 0 0 0 0 0) ⟨⟨#[97]⟩, u, d, n⟩ = gB u d 0 0 n ∧ wantL (gB 0 0 0 0 0) (gL dev ep [] 0) ⟨⟨#[97]⟩, u, d, n⟩ = gL dev ep [⟨⟨#[97]⟩, u, d, 0, 0⟩] n := by
  have hct : wnCt (gB 0 0 0 0 0) ⟨⟨#[97]⟩, u, d, n⟩ = ⟨⟨#[97]⟩, 0, 0, 20, 10, 10 - 0, 10 - 0⟩ := by
    unfold wnCt
    rw [show (⟨⟨#[97]⟩, u, d, n⟩ : Wn).key = ⟨#[97]⟩ from rfl, g_ixA]
    rfl
  obtain ⟨t1, t2⟩ := g_take 0 n (by omega) hn
  rw [Nat.zero_add] at t1 t2
  have hC := wantC_ok_k (b := gB 0 0 0 0 0) (w := ⟨⟨#[97]⟩, u, d, n⟩) (g_wnB hu hd hn) (by rw [show (⟨⟨#[97]⟩, u, d, n⟩ : Wn).key = ⟨#[97]⟩ from rfl, g_ixA]; decide) g_eA (by rw [hct]; simp only; omega) (by rw [hct]; simp only; omega)
  refine ⟨?_, ?_, ?_⟩
  · unfold wantE
    rw [if_pos hC]
    show (if lenR [(((0 : Nat) : Int), (40 : Int))] < (n : Int) then (14 : Int) else 0) = 0
    rw [g_len, if_neg (by omega)]
  · unfold wantB
    rw [hct, show (⟨⟨#[97]⟩, u, d, n⟩ : Wn).key = ⟨#[97]⟩ from rfl, g_ixA, if_neg (by rw [g_eA]; decide), show (takeS (gB 0 0 0 0 0).free (⟨⟨#[97]⟩, u, d, n⟩ : Wn).ids).2 = [((n : Int), 40)] from t1]
    simp [gB]
  · unfold wantL
    rw [show (⟨⟨#[97]⟩, u, d, n⟩ : Wn).key = ⟨#[97]⟩ from rfl, if_neg (by rw [g_eA]; decide)]
    rw [show addAll (gL dev ep [] 0).ids (takeS (gB 0 0 0 0 0).free (⟨⟨#[97]⟩, u, d, n⟩ : Wn).ids).1 = gI n from t2]
    rfl

theorem g_stepB {dev ep u d u0 d0 : Int} {sl : List Sc} {s n : Nat} (hu : 0 ≤ u ∧ u ≤ 6) (hd : 0 ≤ d ∧ d ≤ 6) (hs : s < 7) (hn : n < 7) :
    wantE (gB u0 d0 0 0 s) ⟨⟨#[98]⟩, u, d, n⟩ = 0 ∧ wantB (gB u0 d0 0 0 s) ⟨⟨#[98]⟩, u, d, n⟩ = gB u0 d0 u d (s + n) ∧ wantL (gB u0 d0 0 0 s) (gL dev ep sl s) ⟨⟨#[98]⟩, u, d, n⟩ = gL dev ep (sl ++ [⟨⟨#[98]⟩, u, d, 0, 0⟩]) (s + n) := by
  have hct : wnCt (gB u0 d0 0 0 s) ⟨⟨#[98]⟩, u, d, n⟩ = ⟨⟨#[98]⟩, 1, -30, 30, 0, 30 - 0, 30 - 0⟩ := by
    unfold wnCt
    rw [show (⟨⟨#[98]⟩, u, d, n⟩ : Wn).key = ⟨#[98]⟩ from rfl, g_ixB]
    rfl
  obtain ⟨t1, t2⟩ := g_take s n (by omega) hn
  have hC := wantC_ok_k (b := gB u0 d0 0 0 s) (w := ⟨⟨#[98]⟩, u, d, n⟩) (g_wnB hu hd hn) (by rw [show (⟨⟨#[98]⟩, u, d, n⟩ : Wn).key = ⟨#[98]⟩ from rfl, g_ixB]; decide) g_eB (by rw [hct]; simp only; omega) (by rw [hct]; simp only; omega)
  refine ⟨?_, ?_, ?_⟩
  · unfold wantE
    rw [if_pos hC]
    show (if lenR [((s : Int), (40 : Int))] < (n : Int) then (14 : Int) else 0) = 0
    rw [g_len, if_neg (by omega)]
  · unfold wantB
    rw [hct, show (⟨⟨#[98]⟩, u, d, n⟩ : Wn).key = ⟨#[98]⟩ from rfl, g_ixB, if_neg (by rw [g_eB]; decide), show (takeS (gB u0 d0 0 0 s).free (⟨⟨#[98]⟩, u, d, n⟩ : Wn).ids).2 = [(((s + n : Nat) : Int), 40)] from t1]
    simp [gB]
  · unfold wantL
    rw [show (⟨⟨#[98]⟩, u, d, n⟩ : Wn).key = ⟨#[98]⟩ from rfl, if_neg (by rw [g_eB]; decide)]
    rw [show addAll (gL dev ep sl s).ids (takeS (gB u0 d0 0 0 s).free (⟨⟨#[98]⟩, u, d, n⟩ : Wn).ids).1 = gI (s + n) from t2]
    rfl
theorem g_stepE {dev ep u0 d0 u1 d1 : Int} {sl : List Sc} {s n : Nat} (hs : s < 13) (hn : n < 7) :
    wantE (gB u0 d0 u1 d1 s) ⟨⟨#[]⟩, 0, 0, n⟩ = 0 ∧ wantB (gB u0 d0 u1 d1 s) ⟨⟨#[]⟩, 0, 0, n⟩ = gB u0 d0 u1 d1 (s + n) ∧ wantL (gB u0 d0 u1 d1 s) (gL dev ep sl s) ⟨⟨#[]⟩, 0, 0, n⟩ = gL dev ep sl (s + n) := by
  obtain ⟨t1, t2⟩ := g_take s n hs hn
  have hC := wantC_ok_e (b := gB u0 d0 u1 d1 s) (w := ⟨⟨#[]⟩, 0, 0, n⟩) (g_wnB (by omega) (by omega) hn) g_eE (by show ¬ (0 : Int) < 0 + 0; decide)
  refine ⟨?_, ?_, ?_⟩
  · unfold wantE
    rw [if_pos hC]
    show (if lenR [((s : Int), (40 : Int))] < (n : Int) then (14 : Int) else 0) = 0
    rw [g_len, if_neg (by omega)]
  · unfold wantB
    rw [if_pos g_eE, show (takeS (gB u0 d0 u1 d1 s).free (⟨⟨#[]⟩, 0, 0, n⟩ : Wn).ids).2 = [(((s + n : Nat) : Int), 40)] from t1]
    rfl
  · unfold wantL
    rw [if_pos g_eE, show addAll (gL dev ep sl s).ids (takeS (gB u0 d0 u1 d1 s).free (⟨⟨#[]⟩, 0, 0, n⟩ : Wn).ids).1 = gI (s + n) from t2]
    rfl

theorem g_ids (w : Wn) : ∃ n : Nat, w.ids % 7 = n ∧ n < 7 := ⟨(w.ids % 7).toNat, by have := Int.emod_nonneg w.ids (show (7 : Int) ≠ 0 by omega); omega, by have := Int.emod_lt_of_pos w.ids (show (0 : Int) < 7 by omega); omega⟩
theorem g_small (a : Int) : 0 ≤ a % 7 ∧ a % 7 ≤ 6 := ⟨Int.emod_nonneg a (by omega), by have := Int.emod_lt_of_pos a (show (0 : Int) < 7 by omega); omega⟩
/-- What the wants of the law give. -/
structure GQ (x : List Wn) (u0 d0 u1 d1 : Int) (s : Nat) (sl : List Sc) : Prop where
  sum : (s : Int) = (x.map (·.ids)).sum
  small : s < 19
  a : ∀ h : 0 < x.length, x[0].up = u0 ∧ x[0].down = d0 ∧ (∃ r, sl = ⟨⟨#[97]⟩, u0, d0, 0, 0⟩ :: r) ∧ 0 ≤ u0 ∧ u0 ≤ 6 ∧ 0 ≤ d0 ∧ d0 ≤ 6
  bd : (0 ≤ u0 ∧ u0 ≤ 6) ∧ (0 ≤ d0 ∧ d0 ≤ 6) ∧ (0 ≤ u1 ∧ u1 ≤ 6) ∧ 0 ≤ d1 ∧ d1 ≤ 6
  ln : sl.length ≤ 2
  b : ∀ h : 1 < x.length, x[1].up = u1 ∧ x[1].down = d1 ∧ sl = [⟨⟨#[97]⟩, u0, d0, 0, 0⟩, ⟨⟨#[98]⟩, u1, d1, 0, 0⟩] ∧ 0 ≤ u1 ∧ u1 ≤ 6 ∧ 0 ≤ d1 ∧ d1 ≤ 6
theorem g_go (dev ep : Int) (l : List Wn) (k : Nat) (hk : k ≤ 3) : ∃ u0 d0 u1 d1 s sl, grantGo (gB 0 0 0 0 0) (gL dev ep [] 0) [] (wantsTo l k) = (gB u0 d0 u1 d1 s, gL dev ep sl s, 0) ∧ GQ (wantsTo l k) u0 d0 u1 d1 s sl := by
  obtain ⟨n0, e0, h0⟩ := g_ids (l.getD 0 zWn)
  obtain ⟨n1, e1, h1⟩ := g_ids (l.getD 1 zWn)
  obtain ⟨n2, e2, h2⟩ := g_ids (l.getD 2 zWn)
  have hu0 := g_small (l.getD 0 zWn).up
  have hd0 := g_small (l.getD 0 zWn).down
  have hu1 := g_small (l.getD 1 zWn).up
  have hd1 := g_small (l.getD 1 zWn).down
  have w1 : wantsTo l 1 = [⟨⟨#[97]⟩, (l.getD 0 zWn).up % 7, (l.getD 0 zWn).down % 7, n0⟩] := by simp only [wantsTo, wtS, e0]; rfl
  have w2 : wantsTo l 2 = [⟨⟨#[97]⟩, (l.getD 0 zWn).up % 7, (l.getD 0 zWn).down % 7, n0⟩, ⟨⟨#[98]⟩, (l.getD 1 zWn).up % 7, (l.getD 1 zWn).down % 7, n1⟩] := by simp only [wantsTo, wtS, e0, e1]; rfl
  have w3 : wantsTo l 3 = [⟨⟨#[97]⟩, (l.getD 0 zWn).up % 7, (l.getD 0 zWn).down % 7, n0⟩, ⟨⟨#[98]⟩, (l.getD 1 zWn).up % 7, (l.getD 1 zWn).down % 7, n1⟩, ⟨⟨#[]⟩, 0, 0, n2⟩] := by simp only [wantsTo, wtS, e0, e1, e2]; rfl
  generalize (l.getD 0 zWn).up % 7 = u0 at *
  generalize (l.getD 0 zWn).down % 7 = d0 at *
  generalize (l.getD 1 zWn).up % 7 = u1 at *
  generalize (l.getD 1 zWn).down % 7 = d1 at *
  obtain ⟨a1, a2, a3⟩ := g_stepA (dev := dev) (ep := ep) hu0 hd0 h0
  obtain ⟨b1, b2, b3⟩ := g_stepB (dev := dev) (ep := ep) (u0 := u0) (d0 := d0) (sl := [⟨⟨#[97]⟩, u0, d0, 0, 0⟩]) hu1 hd1 h0 h1
  obtain ⟨c1, c2, c3⟩ := g_stepE (dev := dev) (ep := ep) (u0 := u0) (d0 := d0) (u1 := u1) (d1 := d1) (sl := [⟨⟨#[97]⟩, u0, d0, 0, 0⟩] ++ [⟨⟨#[98]⟩, u1, d1, 0, 0⟩]) (s := n0 + n1) (n := n2) (by omega) h2
  have hk4 : k = 0 ∨ k = 1 ∨ k = 2 ∨ k = 3 := by omega
  rcases hk4 with rfl | rfl | rfl | rfl
  · exact ⟨0, 0, 0, 0, 0, [], rfl, ⟨rfl, by omega, fun h => absurd h (by simp [wantsTo]), by omega, by simp, fun h => absurd h (by simp [wantsTo])⟩⟩
  · rw [w1]
    refine ⟨u0, d0, 0, 0, n0, [⟨⟨#[97]⟩, u0, d0, 0, 0⟩], ?_, ⟨by simp, by omega, fun _ => ⟨rfl, rfl, ⟨_, rfl⟩, hu0.1, hu0.2, hd0.1, hd0.2⟩, by omega, by simp, fun h => absurd h (by simp)⟩⟩
    rw [grantGo_ok (by simp) a1, a2, a3]
    rfl
  · rw [w2]
    refine ⟨u0, d0, u1, d1, n0 + n1, [⟨⟨#[97]⟩, u0, d0, 0, 0⟩, ⟨⟨#[98]⟩, u1, d1, 0, 0⟩], ?_, ⟨by simp, by omega, fun _ => ⟨rfl, rfl, ⟨_, rfl⟩, hu0.1, hu0.2, hd0.1, hd0.2⟩, by omega, by simp, fun _ => ⟨rfl, rfl, rfl, hu1.1, hu1.2, hd1.1, hd1.2⟩⟩⟩
    rw [grantGo_ok (by simp) a1, a2, a3, grantGo_ok (by simp) b1, b2, b3]
    rfl
  · rw [w3]
    refine ⟨u0, d0, u1, d1, n0 + n1 + n2, [⟨⟨#[97]⟩, u0, d0, 0, 0⟩, ⟨⟨#[98]⟩, u1, d1, 0, 0⟩], ?_, ⟨by simp; omega, by omega, fun _ => ⟨rfl, rfl, ⟨_, rfl⟩, hu0.1, hu0.2, hd0.1, hd0.2⟩, by omega, by simp, fun _ => ⟨rfl, rfl, rfl, hu1.1, hu1.2, hd1.1, hd1.2⟩⟩⟩
    rw [grantGo_ok (by simp) a1, a2, a3, grantGo_ok (by simp) b1, b2, b3, grantGo_ok (by simp) c1, c2, c3]
    rfl

end Go.Proofs.Ytckonmlcgfbojaa
