/- The walk of the law VectorJoins. -/
import Derived.Test.YtlejcnobicbeoaaVLawD
namespace Go.Proofs.Ytlejcnobicbeoaa
open Go.RowKit

/-- same, wherever it is asked behind a world. -/
theorem same_behind {w0 : World} {v v' : Value} {l l' : List En} (h : SlE w0 v l) (h' : SlE w0 v' l') (b : Bool) (hb : decide (l = l') = b) :
    ∀ W, Below w0.heap.size w0 W → Calls Try.prog 18 #[v, v'] W fun en w' => en = .returned (.bool b) ∧ Below w0.heap.size w0 w' := by
  intro W hW
  subst hb
  exact (same_any v v' l l' W (h.keep hW (Nat.le_refl _)) (h'.keep hW (Nat.le_refl _))).mono fun _ _ ⟨h1, h2⟩ => ⟨h1, hW.trans (h2.mono hW.size)⟩

set_option maxRecDepth 100000 in
set_option maxHeartbeats 4000000 in
theorem joins_walk (v v' v'' : Value) (ns ns' ns'' : List Int) (w : World) (h : SlI w v ns) (h' : SlI w v' ns') (h'' : SlI w v'' ns'') (hI : I64 ns) (hI' : I64 ns') (hI'' : I64 ns'') :
    Calls Try.prog 8 #[v, v', v''] w fun e w' => e = .returned (.bool true) ∧ Below w.heap.size w w' := by
  have hok := (ofS_ok ns).1
  have hok' := (ofS_ok ns').1
  have hok'' := (ofS_ok ns'').1
  have hlen := ofS_len ns
  have hlen' := ofS_len ns'
  have hlen'' := ofS_len ns''
  go_enter Try.func8, Try.ntmps8
  go_wp2_with fail
  refine (known_any _).mono ?_
  rintro e w0 ⟨rfl, hb0⟩
  go_wp2_with fail
  refine (of_any _ _ _ (h.keep hb0 (Nat.le_refl _)) hI).mono ?_
  rintro e w1 ⟨va, rfl, hsa, hb1⟩
  have hbw := hb0.trans (hb1.mono hb0.size)
  clear hb0 hb1 h
  go_wp2_with fail
  refine (of_any _ _ _ (h'.keep hbw (Nat.le_refl _)) hI').mono ?_
  rintro e w2 ⟨vb, rfl, hsb, hb2⟩
  have hsa2 := hsa.keep hb2 (Nat.le_refl _)
  have hbw2 := hbw.trans (hb2.mono hbw.size)
  clear hb2 hsa hbw h'
  go_wp2_with fail
  refine (of_any _ _ _ (h''.keep hbw2 (Nat.le_refl _)) hI'').mono ?_
  rintro e w3 ⟨vc, rfl, hsc, hb3⟩
  have hsa3 := hsa2.keep hb3 (Nat.le_refl _)
  have hsb3 := hsb.keep hb3 (Nat.le_refl _)
  have hbw3 := hbw2.trans (hb3.mono hbw2.size)
  clear hb3 hsa2 hsb hbw2 h''
  generalize ofS ns = x at *
  generalize ofS ns' = y at *
  generalize ofS ns'' = z at *
  have n1 := joinS_len x y
  have n2 := joinS_len y x
  have n3 := joinS_len y z
  have n4 := joinS_len x x
  have n5 := joinS_len x (joinS y z)
  have n6 := joinS_len (joinS x y) z
  have vj := vp_joinS hok hok'
  have f1 : leL x (joinS x y) = true := by rw [leL_eq vj]; exact le_join_left hok hok'
  have f2 : leL y (joinS x y) = true := by rw [leL_eq vj]; exact le_join_right hok hok'
  have f3 : decide (joinS x y = joinS y x) = true := by rw [decide_eq_true_iff]; exact joinS_comm hok hok'
  have f4 : decide (joinS (joinS x y) z = joinS x (joinS y z)) = true := by rw [decide_eq_true_iff]; exact joinS_assoc hok hok' hok''
  have f5 : decide (joinS x x = x) = true := by rw [decide_eq_true_iff]; exact joinS_self hok
  have f6 : leL (joinS x y) z = (leL x z && leL y z) := by rw [leL_eq hok'', leL_eq hok'', leL_eq hok'']; exact join_le hok hok' hok''
  have f7 : (leL x y && leL y x) = decide (x = y) := by rw [leL_eq hok, leL_eq hok']; exact le_le hok hok'
  clear hok hok' hok'' vj
  go_wp2_with fail
  refine (join_any _ _ x y _ hsa3 hsb3 (by omega)).mono ?_
  rintro e w4 ⟨vj, rfl, hsj, hb4⟩
  have hbw4 := hbw3.trans (hb4.mono hbw3.size)
  have hsa4 := hsa3.keep hb4 (Nat.le_refl _)
  have hsb4 := hsb3.keep hb4 (Nat.le_refl _)
  have hsc4 := hsc.keep hb4 (Nat.le_refl _)
  have hz4 := hbw4.size
  clear hsa3 hsb3 hsc hbw3 hb4
  have F1 := Lib.hid f1
  have F2 := Lib.hid f2
  have F3 := Lib.hid f3
  have F4 := Lib.hid f4
  have F5 := Lib.hid f5
  have F6 := Lib.hid f6
  have F7 := Lib.hid f7
  clear f1 f2 f3 f4 f5 f6 f7
  go_wp2_with fail
  refine (le_behind hsa4 hsj (by omega) _ F1.out _ (Below.refl _ _)).mono ?_
  rintro e w5 ⟨rfl, hb5⟩
  go_wp2_with fail
  refine (le_behind hsb4 hsj (by omega) _ F2.out _ hb5).mono ?_
  rintro e w6 ⟨rfl, hb6⟩
  clear hb5
  go_wp2_with fail
  refine (join_any _ _ y x _ (hsb4.keep hb6 (Nat.le_refl _)) (hsa4.keep hb6 (Nat.le_refl _)) (by omega)).mono ?_
  rintro e w7 ⟨vk, rfl, hsk, hb7⟩
  have hb47 := hb6.trans (hb7.mono hb6.size)
  clear hb6 hb7
  go_wp2_with fail
  refine (same_behind (hsj.keep hb47 (Nat.le_refl _)) hsk _ F3.out _ (Below.refl _ _)).mono ?_
  rintro e w8 ⟨rfl, hb8⟩
  have hb48 := hb47.trans (hb8.mono hb47.size)
  clear hb47 hb8 hsk
  go_wp2_with fail
  refine (join_any _ _ (joinS x y) z _ (hsj.keep hb48 (Nat.le_refl _)) (hsc4.keep hb48 (Nat.le_refl _)) (by omega)).mono ?_
  rintro e w9 ⟨vm, rfl, hsm, hb9⟩
  have hb49 := hb48.trans (hb9.mono hb48.size)
  clear hb48 hb9
  go_wp2_with fail
  refine (join_any _ _ y z _ (hsb4.keep hb49 (Nat.le_refl _)) (hsc4.keep hb49 (Nat.le_refl _)) (by omega)).mono ?_
  rintro e w10 ⟨vn, rfl, hsn, hb10⟩
  have hb410 := hb49.trans (hb10.mono hb49.size)
  have hsm10 := hsm.keep hb10 (Nat.le_refl _)
  clear hb49 hb10 hsm
  go_wp2_with fail
  refine (join_any _ _ x (joinS y z) _ (hsa4.keep hb410 (Nat.le_refl _)) hsn (by omega)).mono ?_
  rintro e w11 ⟨vo, rfl, hso, hb11⟩
  have hb411 := hb410.trans (hb11.mono hb410.size)
  have hsm11 := hsm10.keep hb11 (Nat.le_refl _)
  clear hb410 hb11 hsm10 hsn
  go_wp2_with fail
  refine (same_behind hsm11 hso _ F4.out _ (Below.refl _ _)).mono ?_
  rintro e w12 ⟨rfl, hb12⟩
  have hb412 := hb411.trans (hb12.mono hb411.size)
  clear hb411 hb12 hsm11 hso
  go_wp2_with fail
  refine (join_any _ _ x x _ (hsa4.keep hb412 (Nat.le_refl _)) (hsa4.keep hb412 (Nat.le_refl _)) (by omega)).mono ?_
  rintro e w13 ⟨vp, rfl, hsp, hb13⟩
  have hb413 := hb412.trans (hb13.mono hb412.size)
  clear hb412 hb13
  go_wp2_with fail
  refine (same_behind hsp (hsa4.keep hb413 (Nat.le_refl _)) _ F5.out _ (Below.refl _ _)).mono ?_
  rintro e w14 ⟨rfl, hb14⟩
  have hb414 := hb413.trans (hb14.mono hb413.size)
  clear hb413 hb14 hsp
  obtain ⟨b1, hb1⟩ : ∃ b, leL x z = b := ⟨_, rfl⟩
  obtain ⟨b2, hb2⟩ : ∃ b, leL y z = b := ⟨_, rfl⟩
  obtain ⟨b3, hb3⟩ : ∃ b, leL x y = b := ⟨_, rfl⟩
  obtain ⟨b4, hb4⟩ : ∃ b, leL y x = b := ⟨_, rfl⟩
  have f6 := F6.out
  have f7 := F7.out.symm
  rw [hb1, hb2] at f6
  rw [hb3, hb4] at f7
  have HA := Lib.hid (le_behind hsa4 hsc4 (by omega) _ hb1)
  have HB := Lib.hid (le_behind hsb4 hsc4 (by omega) _ hb2)
  have HC := Lib.hid (le_behind hsj hsc4 (by omega) _ f6)
  have HD := Lib.hid (le_behind hsa4 hsb4 (by omega) _ hb3)
  have HE := Lib.hid (le_behind hsb4 hsa4 (by omega) _ hb4)
  have HF := Lib.hid (same_behind hsa4 hsb4 _ f7)
  clear hb1 hb2 hb3 hb4 f6 f7 F1 F2 F3 F4 F5 F6 F7
  go_upto_region 7 with fail
  go_cut [6] (fun v6 wx => v6 = .bool true ∧ Below w4.heap.size w4 wx)
  case first =>
    cases b1 <;> cases b2 <;> cases b3 <;> cases b4
    all_goals
      simp only [Bool.and_true, Bool.and_false] at HC HF
      go_wp2_with (first
        | (go_at_call 16; (with_reducible refine (HA.out _ (by assumption)).mono ?_); rintro en w9 ⟨rfl, hb9⟩)
        | (go_at_call 16; (with_reducible refine (HB.out _ (by assumption)).mono ?_); rintro en w9 ⟨rfl, hb9⟩)
        | (go_at_call 16; (with_reducible refine (HC.out _ (by assumption)).mono ?_); rintro en w9 ⟨rfl, hb9⟩)
        | (go_at_call 16; (with_reducible refine (HD.out _ (by assumption)).mono ?_); rintro en w9 ⟨rfl, hb9⟩)
        | (go_at_call 16; (with_reducible refine (HE.out _ (by assumption)).mono ?_); rintro en w9 ⟨rfl, hb9⟩)
        | (go_at_call 18; (with_reducible refine (HF.out _ (by assumption)).mono ?_); rintro en w9 ⟨rfl, hb9⟩))
      go_meet
      exact ⟨by rfl, by assumption⟩
  case rest =>
  obtain ⟨rfl, hb9⟩ := hcut
  go_wp2
  go_ret
  exact ⟨rfl, hbw4.trans (hb9.mono hz4)⟩

end Go.Proofs.Ytlejcnobicbeoaa
