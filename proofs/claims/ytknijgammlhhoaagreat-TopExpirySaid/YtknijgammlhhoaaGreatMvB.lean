/- The evaluator: it does what the machine does. -/
import Derived.Test.YtknijgammlhhoaaGreatMvA
import Derived.Laws.StructEq
import Derived.Laws.BytesString
import Derived.Laws.Append
import Derived.MapKept
set_option linter.all false
namespace Go.Ev
open Go.RowKit (Below)
section
variable {P : Program} {ρ : Env} {B0 : Nat} {w0 w : World}
theorem bits_toNat (n x : Nat) (h : Nat.blt x (2 ^ n) = true) : (BitVec.ofInt n (x : Int)).toNat = x := by
  rw [BitVec.ofInt_natCast, BitVec.toNat_ofNat]
  exact Nat.mod_eq_of_lt (by simpa [Nat.blt_eq] using h)
theorem bitsA_ok {k : IntKind} {f : Nat → Nat → Nat} {x y : Int} {v : AV} (h : bitsA k f x y = some v) : ∃ a b : Nat, x = a ∧ y = b ∧ v = .int k (k.wrap (f a b : Nat)) ∧ (BitVec.ofInt k.bits x).toNat = a ∧ (BitVec.ofInt k.bits y).toNat = b := by
  unfold bitsA at h
  split at h
  · rename_i a b
    cases hc : (Nat.blt a (2 ^ k.bits) && Nat.blt b (2 ^ k.bits)) with
    | false => rw [hc] at h; cases h
    | true =>
      rw [hc] at h
      simp only [Bool.and_eq_true] at hc
      cases h
      exact ⟨a, b, rfl, rfl, rfl, bits_toNat _ _ hc.1, bits_toNat _ _ hc.2⟩
  · cases h
theorem intA_ok {op : BinOp} {k : IntKind} {x y : Int} {v : AV} (t : TypeId) (hs : op ≠ .shl ∧ op ≠ .shr) (h : intA op k x y = some v) : ∃ u, (binOp op t (.int k x) (.int k y)).run P w = .ok u w ∧ ∀ ρ, VR ρ v u := by
  cases op <;> simp only [intA] at h
  case add => cases h; exact ⟨.int k (k.wrap (x + y)), by simp [binOp, Op.intArith], fun _ => rfl⟩
  case sub => cases h; exact ⟨.int k (k.wrap (x - y)), by simp [binOp, Op.intArith], fun _ => rfl⟩
  case mul => cases h; exact ⟨.int k (k.wrap (x * y)), by simp [binOp, Op.intArith], fun _ => rfl⟩
  case quo =>
    split at h
    · cases h
    · rename_i hy; cases h; exact ⟨_, by simp only [binOp, ne_eq, not_true_eq_false, if_false, Op.intDiv, hy]; exact rfl, fun _ => rfl⟩
  case rem =>
    split at h
    · cases h
    · rename_i hy; cases h; exact ⟨_, by simp only [binOp, ne_eq, not_true_eq_false, if_false, Op.intDiv, hy]; exact rfl, fun _ => rfl⟩
  case and =>
    obtain ⟨a, b, rfl, rfl, rfl, h1, h2⟩ := bitsA_ok h
    refine ⟨_, by simp only [binOp, ne_eq, not_true_eq_false, if_false, Op.intBits]; exact rfl, fun _ => ?_⟩
    show Value.int k (k.wrap ((BitVec.ofInt k.bits a &&& BitVec.ofInt k.bits b).toNat : Nat)) = _
    rw [BitVec.toNat_and, h1, h2]
  case or =>
    obtain ⟨a, b, rfl, rfl, rfl, h1, h2⟩ := bitsA_ok h
    refine ⟨_, by simp only [binOp, ne_eq, not_true_eq_false, if_false, Op.intBits]; exact rfl, fun _ => ?_⟩
    show Value.int k (k.wrap ((BitVec.ofInt k.bits a ||| BitVec.ofInt k.bits b).toNat : Nat)) = _
    rw [BitVec.toNat_or, h1, h2]
  case xor =>
    obtain ⟨a, b, rfl, rfl, rfl, h1, h2⟩ := bitsA_ok h
    refine ⟨_, by simp only [binOp, ne_eq, not_true_eq_false, if_false, Op.intBits]; exact rfl, fun _ => ?_⟩
    show Value.int k (k.wrap ((BitVec.ofInt k.bits a ^^^ BitVec.ofInt k.bits b).toNat : Nat)) = _
    rw [BitVec.toNat_xor, h1, h2]
  case shl => exact absurd rfl hs.1
  case shr => exact absurd rfl hs.2
  case andNot => simp [cmpA] at h
  all_goals
    simp only [cmpA, Option.map_some, Option.some.injEq] at h
    subst h
    exact ⟨_, by simp only [binOp, ne_eq, not_true_eq_false, if_false, Op.intCmp]; exact rfl, fun _ => rfl⟩
theorem toList_mk (l : List UInt8) : (⟨⟨l⟩⟩ : ByteArray).toList = l := by rw [ByteArray.toList_eq]
theorem strA_ok {op : BinOp} {x y : List UInt8} {v : AV} (t : TypeId) (h : strA op x y = some v) (hs : op ≠ .shl ∧ op ≠ .shr) : ∃ u, (binOp op t (.string ⟨⟨x⟩⟩) (.string ⟨⟨y⟩⟩)).run P w = .ok u w ∧ ∀ ρ, VR ρ v u := by
  cases op <;> simp only [strA] at h <;> try (cases h; done)
  case add =>
    cases hc : Nat.ble (x.length + y.length) 1000000 with
    | false => rw [hc] at h; cases h
    | true =>
    rw [hc] at h
    cases h
    have hl : x.length + y.length ≤ 1000000 := Nat.le_of_ble_eq_true hc
    refine ⟨.string (⟨⟨x⟩⟩ ++ ⟨⟨y⟩⟩), ?_, fun ρ => ?_⟩
    · have h1 : (⟨⟨x⟩⟩ : ByteArray).size = x.length := rfl
      have h2 : (⟨⟨y⟩⟩ : ByteArray).size = y.length := rfl
      simp only [binOp, Op.stringOp]
      rw [if_neg (by simp [IntKind.max, IntKind.signed, IntKind.bits, h1, h2]; omega)]
      rfl
    · show Value.string _ = Value.string _
      congr 1
  all_goals
    cases h
    refine ⟨_, by simp only [binOp, Op.stringOp, toList_mk]; exact rfl, fun _ => rfl⟩
theorem leafEq_ok {k t : Nat} {a b : AV} {r : Bool} {u v : Value} (d : Nat) (hk : leafK P t = some k) (h : leafEq k a b = some r) (ha : VR ρ a u) (hb : VR ρ b v) : (Op.equalIn (d + 1) t u v).run P w = .ok r w := by
  unfold leafK at hk
  split at hk
  · rename_i hu; cases hk
    cases a <;> try (cases h; done)
    cases b <;> try (cases h; done)
    cases h; cases ha; cases hb
    exact run_equalIn_bool' w d t _ _ hu
  · rename_i q hu; cases hk
    cases a <;> try (cases h; done)
    cases b <;> try (cases h; done)
    simp only [leafEq] at h
    split at h
    · rename_i e; subst e; cases h; cases ha; cases hb
      exact run_equalIn_int w d t _ q _ _ hu
    · cases h
  · rename_i hu; cases hk
    cases a <;> try (cases h; done)
    cases b <;> try (cases h; done)
    cases h; cases ha; cases hb
    have := run_equalIn_string w d t ⟨⟨‹List UInt8›⟩⟩ ⟨⟨‹List UInt8›⟩⟩ hu
    rw [run_equalIn_string w d t _ _ hu, toList_mk, toList_mk]
  · cases hk
theorem tyOk_leaf {k t : Nat} (hk : leafK P t = some k) : tyOk P t = true ∧ isAggT P t = false := by
  unfold leafK at hk
  unfold tyOk isAggT
  split at hk <;> first
    | (rename_i hu; simp [hu]; done)
    | cases hk
theorem part_leaf {k t off : Nat} {l : List AV} {vs : List Value} {a : AV} (hk : leafK P t = some k) (hvs : VRs ρ l vs) (h : l[off]? = some a) : ∃ u, (part t ⟨vs⟩ off).run P w = .ok u w ∧ VR ρ a u := by
  obtain ⟨h1, h2⟩ := tyOk_leaf hk
  refine part_ok h1 hvs ?_
  unfold partA
  rw [h2]
  have hlt : off < l.length := by
    rcases Nat.lt_or_ge off l.length with hh | hh
    · exact hh
    · rw [List.getElem?_eq_none hh] at h; cases h
  rw [List.drop_eq_getElem_cons hlt]
  rw [List.getElem?_eq_getElem hlt] at h
  exact h
theorem eqFields_ok (d : Nat) {xs ys : List AV} {us vs : List Value} (hx : VRs ρ xs us) (hy : VRs ρ ys vs) : ∀ (fs : List Field) (l : List (Nat × Nat)) (r : Bool), leavesK P fs = some l → eqFieldsA l xs ys = some r →
    (Op.eqFields (d + 1) ⟨us⟩ ⟨vs⟩ fs).run P w = .ok r w
  | [], l, r, hl, hr => by cases hl; cases hr; rfl
  | f :: fs, l, r, hl, hr => by
    simp only [leavesK] at hl
    split at hl
    · rename_i k m hk hm
      cases hn : (f.name != "_") with
      | false => rw [hn] at hl; cases hl
      | true =>
        rw [hn] at hl
        cases hl
        simp only [eqFieldsA] at hr
        split at hr
        · rename_i a b ha hb
          obtain ⟨u, hu, hau⟩ := part_leaf (P := P) (w := w) hk hx ha
          obtain ⟨v, hv, hbv⟩ := part_leaf (P := P) (w := w) hk hy hb
          have hn' : f.name ≠ "_" := by simpa using hn
          split at hr
          · rename_i he
            have e := leafEq_ok (P := P) (w := w) d hk he hau hbv
            simp only [Op.eqFields, hn', ne_eq, not_false_eq_true, if_true, Sem.run_bind, hu, hv, e, Result.andThen_ok]
            simpa using eqFields_ok d hx hy fs m r hm hr
          · rename_i he
            have e := leafEq_ok (P := P) (w := w) d hk he hau hbv
            cases hr
            simp only [Op.eqFields, hn', ne_eq, not_false_eq_true, if_true, Sem.run_bind, hu, hv, e, Result.andThen_ok]
            simp
          · cases hr
        · cases hr
    · cases hl
/-- What is said of two values of a type: the model says so, too; and its guard lets them pass. -/
theorem eqK_ok {t : Nat} {x y : Operand} {p q : AV} {r : Bool} {u v : Value} (h : (eqK P t x y).run p q = some r) (hp : VR ρ p u) (hq : VR ρ q v) :
    (Op.equal t u v).run P w = .ok r w ∧ (∀ op, (eqGuard op t x y u v).run P w = .ok () w) ∧ (∀ k n, u ≠ .int k n) ∧ (∀ s, u ≠ .string s) ∧ (∀ k n, u ≠ .float k n) ∧ (∀ k n m, u ≠ .complex k n m) := by
  unfold eqK at h
  split at h
  · rename_i hu
    dsimp only at h
    cases p <;> try (cases h; done)
    cases q <;> try (cases h; done)
    cases h; cases hp; cases hq
    exact ⟨run_equalIn_bool' w 9999 t _ _ hu, fun op => by cases op <;> simp [eqGuard], by simp, by simp, by simp, by simp⟩
  · rename_i e hu
    dsimp only at h
    unfold eqNil at h
    split at h
    · cases h; cases hp; cases hq
      exact ⟨(fun d => by simp [Op.equalIn, run_under hu] : ∀ d, (Op.equalIn (d + 1) t _ _).run P w = .ok _ w) 9999, fun op => by cases op <;> simp [eqGuard], by simp, by simp, by simp, by simp⟩
    · cases h; cases hp; obtain ⟨B, κ, _, rfl⟩ := hq
      exact ⟨(fun d => by simp [Op.equalIn, run_under hu] : ∀ d, (Op.equalIn (d + 1) t _ _).run P w = .ok _ w) 9999, fun op => by cases op <;> simp [eqGuard], by simp, by simp, by simp, by simp⟩
    · cases h; cases hq; obtain ⟨B, κ, _, rfl⟩ := hp
      exact ⟨(fun d => by simp [Op.equalIn, run_under hu] : ∀ d, (Op.equalIn (d + 1) t _ _).run P w = .ok _ w) 9999, fun op => by cases op <;> simp [eqGuard], by simp, by simp, by simp, by simp⟩
    · cases h
  · rename_i e hu
    dsimp only at h
    unfold eqNils at h
    split at h
    · cases h; cases hp; cases hq
      exact ⟨(fun d => by simp [Op.equalIn, run_under hu] : ∀ d, (Op.equalIn (d + 1) t _ _).run P w = .ok _ w) 9999, fun op => by cases op <;> simp [eqGuard], by simp, by simp, by simp, by simp⟩
    · cases h; cases hp; obtain ⟨B, κ, _, rfl, _⟩ := hq
      exact ⟨(fun d => by simp [Op.equalIn, run_under hu] : ∀ d, (Op.equalIn (d + 1) t _ _).run P w = .ok _ w) 9999, fun op => by cases op <;> simp [eqGuard], by simp, by simp, by simp, by simp⟩
    · cases h; cases hq; obtain ⟨B, κ, _, rfl, _⟩ := hp
      exact ⟨(fun d => by simp [Op.equalIn, run_under hu] : ∀ d, (Op.equalIn (d + 1) t _ _).run P w = .ok _ w) 9999, fun op => by cases op <;> simp [eqGuard], by simp, by simp, by simp, by simp⟩
    · cases h; cases hp; obtain ⟨B, κ, _, rfl⟩ := hq
      exact ⟨(fun d => by simp [Op.equalIn, run_under hu] : ∀ d, (Op.equalIn (d + 1) t _ _).run P w = .ok _ w) 9999, fun op => by cases op <;> simp [eqGuard], by simp, by simp, by simp, by simp⟩
    · cases h; cases hq; obtain ⟨B, κ, _, rfl⟩ := hp
      exact ⟨(fun d => by simp [Op.equalIn, run_under hu] : ∀ d, (Op.equalIn (d + 1) t _ _).run P w = .ok _ w) 9999, fun op => by cases op <;> simp [eqGuard], by simp, by simp, by simp, by simp⟩
    · cases h
  · rename_i k e hu
    dsimp only at h
    unfold eqNilm at h
    split at h
    · cases h; cases hp; cases hq
      exact ⟨(fun d => by simp [Op.equalIn, run_under hu] : ∀ d, (Op.equalIn (d + 1) t _ _).run P w = .ok _ w) 9999, fun op => by cases op <;> simp [eqGuard], by simp, by simp, by simp, by simp⟩
    · cases h; cases hp; obtain ⟨B, κ, _, rfl⟩ := hq
      exact ⟨(fun d => by simp [Op.equalIn, run_under hu] : ∀ d, (Op.equalIn (d + 1) t _ _).run P w = .ok _ w) 9999, fun op => by cases op <;> simp [eqGuard], by simp, by simp, by simp, by simp⟩
    · cases h; cases hq; obtain ⟨B, κ, _, rfl⟩ := hp
      exact ⟨(fun d => by simp [Op.equalIn, run_under hu] : ∀ d, (Op.equalIn (d + 1) t _ _).run P w = .ok _ w) 9999, fun op => by cases op <;> simp [eqGuard], by simp, by simp, by simp, by simp⟩
    · cases h
  · rename_i ms hu
    dsimp only at h
    unfold eqNili at h
    split at h
    · cases hc : (isC x || isC y) with
      | false => rw [hc] at h; cases h
      | true =>
        rw [hc] at h
        cases h; cases hp; cases hq
        refine ⟨(fun d => by simp [Op.equalIn, run_under hu] : ∀ d, (Op.equalIn (d + 1) t _ _).run P w = .ok _ w) 9999, fun op => ?_, by simp, by simp, by simp, by simp⟩
        cases op <;> simp [eqGuard]
        all_goals
          cases x <;> cases y <;> simp [isC] at hc <;> simp
    · cases h; cases hp; obtain ⟨z, _, rfl⟩ := hq
      exact ⟨(fun d => by simp [Op.equalIn, run_under hu] : ∀ d, (Op.equalIn (d + 1) t _ _).run P w = .ok _ w) 9999, fun op => by cases op <;> simp [eqGuard], by simp, by simp, by simp, by simp⟩
    · cases h; cases hq; obtain ⟨z, _, rfl⟩ := hp
      exact ⟨(fun d => by simp [Op.equalIn, run_under hu] : ∀ d, (Op.equalIn (d + 1) t _ _).run P w = .ok _ w) 9999, fun op => by cases op <;> simp [eqGuard], by simp, by simp, by simp, by simp⟩
    · cases h
  · rename_i fs hu
    split at h
    · rename_i l hl
      cases hg : (P.stoodInHeld t || P.eqGuardType P.depth t) with
      | true => rw [hg] at h; cases h
      | false =>
        rw [hg] at h
        simp only [Bool.or_eq_false_iff] at hg
        dsimp only [cond_false] at h
        split at h
        · rename_i xs ys
          obtain ⟨us, hus, rfl⟩ := hp
          obtain ⟨vs, hvs, rfl⟩ := hq
          have hfs : P.fieldsOf t = fs := by simp [Program.fieldsOf, hu]
          refine ⟨?_, fun op => run_eqGuard_agg w op t x y ⟨us⟩ ⟨vs⟩ hg.2, by simp, by simp, by simp, by simp⟩
          show (Op.equalIn 10000 t _ _).run P w = _
          rw [run_equalIn_agg w 9999 t _ _ (by rw [hfs]; exact hu) hg.1, hfs]
          exact eqFields_ok 9998 hus hvs fs.toList l r hl h
        · cases h
    · cases h
  · cases h
theorem binOp_eql {t : Nat} {u v : Value} {r : Bool} (h : (Op.equal t u v).run P w = .ok r w) (h1 : ∀ k n, u ≠ .int k n) (h2 : ∀ s, u ≠ .string s) (h3 : ∀ k n, u ≠ .float k n) (h4 : ∀ k n m, u ≠ .complex k n m) :
    (binOp .eql t u v).run P w = .ok (.bool r) w ∧ (binOp .neq t u v).run P w = .ok (.bool (!r)) w := by
  constructor
  · unfold binOp
    cases u <;> first
      | (exact absurd rfl (h1 _ _)) | (exact absurd rfl (h2 _)) | (exact absurd rfl (h3 _ _)) | (exact absurd rfl (h4 _ _ _))
      | simp [h]
  · unfold binOp
    cases u <;> first
      | (exact absurd rfl (h1 _ _)) | (exact absurd rfl (h2 _)) | (exact absurd rfl (h3 _ _)) | (exact absurd rfl (h4 _ _ _))
      | simp [h]
end
end Go.Ev
namespace Go.Ev
open Go.RowKit (Below)
section
variable {P : Program} {ρ : Env} {B0 : Nat} {w0 w : World}
theorem binP_ok {op : BinOp} {p q : AV} {v : AV} {u u' : Value} (t : TypeId) (x y : Operand) (h : binP op p q = some v) (hp : VR ρ p u) (hq : VR ρ q u') :
    ∃ r, (do eqGuard op t x y u u'; binOp op t u u' : Sem Value).run P w = .ok r w ∧ ∀ ρ', VR ρ' v r := by
  have guard : ∀ (a b : Value), (∀ c, a ≠ .agg c) → a ≠ .nilIface → (eqGuard op t x y a b).run P w = .ok () w := by
    intro a b h1 h2
    cases op <;> simp [eqGuard] <;> (cases a <;> first | (exact absurd rfl (h1 _)) | (exact absurd rfl h2) | rfl)
  unfold binP at h
  split at h
  · rename_i k a k' b
    cases hp; cases hq
    split at h
    · cases h
    · rename_i hb
      cases h
      refine ⟨.int k (k.wrap (a * 2 ^ (min b.toNat k.bits))), ?_, fun _ => rfl⟩
      simp only [Sem.run_bind, guard (.int k a) _ (by simp) (by simp), Result.andThen_ok]
      simp [binOp, Op.shift, hb]
  · rename_i k a k' b
    cases hp; cases hq
    split at h
    · cases h
    · rename_i hb
      cases h
      refine ⟨.int k (a.fdiv (2 ^ (min b.toNat k.bits))), ?_, fun _ => rfl⟩
      simp only [Sem.run_bind, guard (.int k a) _ (by simp) (by simp), Result.andThen_ok]
      simp [binOp, Op.shift, hb]
  · rename_i k a k' b hs1 hs2
    cases hp; cases hq
    split at h
    · rename_i e
      subst e
      have hne : op ≠ .shl ∧ op ≠ .shr := ⟨hs1, hs2⟩
      obtain ⟨r, hr, hv⟩ := intA_ok (P := P) (w := w) t hne h
      refine ⟨r, ?_, hv⟩
      simp only [Sem.run_bind, guard (.int k a) _ (by simp) (by simp), Result.andThen_ok, hr]
    · cases h
  · rename_i a b
    cases hp; cases hq
    have hne : op ≠ .shl ∧ op ≠ .shr := by
      constructor <;> (rintro rfl; simp [strA] at h)
    obtain ⟨r, hr, hv⟩ := strA_ok (P := P) (w := w) t h hne
    refine ⟨r, ?_, hv⟩
    simp only [Sem.run_bind, guard (.string _) _ (by simp) (by simp), Result.andThen_ok, hr]
  · cases h
/- lanes -/
theorem lane_at {x y : AV} {u u' : Value} {k k' : IntKind} {l l' : List Int} (hx : VR ρ x u) (hy : VR ρ y u') (e : laneL x (lanesN x y) = some (k, l)) (e' : laneL y (lanesN x y) = some (k', l')) (hl : l ≠ []) :
    ∃ B κ n n', ρ lanId = some (B, κ) ∧ l[B]? = some n ∧ u = .int k n ∧ l'[B]? = some n' ∧ u' = .int k' n' := by
  have one : ∀ {x : AV} {u : Value} {k : IntKind} {l : List Int} {m B κ : Nat}, VR ρ x u → laneL x m = some (k, l) → ρ lanId = some (B, κ) → B < m → ∃ n, l[B]? = some n ∧ u = .int k n := by
    intro x u k l m B κ hx e hρ hB
    unfold laneL at e
    split at e
    · cases e; cases hx
      exact ⟨_, by rw [List.getElem?_replicate, if_pos hB], rfl⟩
    · rename_i k0 l0
      cases hb : Nat.beq l0.length m with
      | false => rw [hb] at e; cases e
      | true =>
        rw [hb] at e; cases e
        obtain ⟨B', κ', n, h1, h2, h3⟩ := hx
        rw [hρ] at h1; cases h1
        exact ⟨n, h2, h3⟩
    · cases e
  have key : ∃ B κ, ρ lanId = some (B, κ) ∧ B < lanesN x y := by
    unfold lanesN at e ⊢
    split
    · obtain ⟨B, κ, n, h1, h2, _⟩ := hx
      exact ⟨B, κ, h1, (List.getElem?_eq_some_iff.mp h2).1⟩
    · obtain ⟨B, κ, n, h1, h2, _⟩ := hy
      exact ⟨B, κ, h1, (List.getElem?_eq_some_iff.mp h2).1⟩
    · exfalso
      apply hl
      rename_i h1 h2
      split at e
      · exact absurd rfl (h1 _ _)
      · exact absurd rfl (h2 _ _)
      · unfold laneL at e
        split at e
        · cases e; rfl
        · exact absurd rfl (h1 _ _)
        · cases e
  obtain ⟨B, κ, hρ, hB⟩ := key
  obtain ⟨n, h1, h2⟩ := one hx e hρ hB
  obtain ⟨n', h3, h4⟩ := one hy e' hρ hB
  exact ⟨B, κ, n, n', hρ, h1, h2, h3, h4⟩
theorem allI_ok {n : Int} : ∀ {l : List Int}, allI n l = true → ∀ m, m ∈ l → m = n
  | [], _, m, hm => by cases hm
  | a :: l, h, m, hm => by
    unfold allI at h
    cases hd : decide (n = a) with
    | false => rw [hd] at h; cases h
    | true =>
      rw [hd] at h
      rcases List.mem_cons.mp hm with rfl | hm
      · exact (of_decide_eq_true hd).symm
      · exact allI_ok h m hm
theorem packI_ok {k : IntKind} {l : List Int} {B κ : Nat} {n : Int} (hρ : ρ lanId = some (B, κ)) (h : l[B]? = some n) : VR ρ (packI k l) (.int k n) := by
  unfold packI
  split
  · cases h
  · rename_i a l
    cases ha : allI a l with
    | true =>
      show VR ρ (.int k a) _
      have : n = a := by
        have := List.mem_of_getElem? h
        rcases List.mem_cons.mp this with e | e
        · exact e
        · exact allI_ok ha n e
      rw [this]; rfl
    | false => exact ⟨B, κ, n, hρ, h, rfl⟩
theorem goI_ok {k : IntKind} : ∀ {l : List AV} {ns : List Int}, goI k l = some ns → ∀ (i : Nat) (v : AV), l[i]? = some v → ∃ n : Int, ns[i]? = some n ∧ v = .int k n
  | [], _, _, i, v, hv => by cases hv
  | a :: l, ns, h, i, v, hv => by
    cases a with
    | int k' n =>
      unfold goI at h
      cases hd : decide (k = k') with
      | false => rw [hd] at h; cases h
      | true =>
        have e := of_decide_eq_true hd
        rw [hd] at h
        simp only [cond_true, Option.map_eq_some_iff] at h
        obtain ⟨ms, hm, rfl⟩ := h
        cases i with
        | zero => cases hv; exact ⟨n, rfl, by rw [e]⟩
        | succ i => exact goI_ok hm i v hv
    | _ => cases h
theorem allB_ok {b : Bool} : ∀ {l : List AV}, allB b l = true → ∀ v, v ∈ l → v = .bool b
  | [], _, v, hv => by cases hv
  | a :: l, h, v, hv => by
    cases a with
    | bool c =>
      unfold allB at h
      cases hd : (b == c) with
      | false => rw [hd] at h; cases h
      | true =>
        rw [hd] at h
        rcases List.mem_cons.mp hv with rfl | hv
        · rw [eq_of_beq hd]
        · exact allB_ok h v hv
    | _ => cases h
theorem packV_ok {B κ : Nat} (hρ : ρ lanId = some (B, κ)) {l : List AV} {v v0 : AV} {u : Value} (h : packV l = some v) (h0 : l[B]? = some v0) (hu : VR ρ v0 u) : VR ρ v u := by
  unfold packV at h
  split at h
  · rename_i b l
    cases ha : allB b l with
    | false => rw [ha] at h; cases h
    | true =>
      rw [ha] at h; cases h
      have : v0 = .bool b := by
        rcases List.mem_cons.mp (List.mem_of_getElem? h0) with e | e
        · exact e
        · exact allB_ok ha _ e
      rw [← this]; exact hu
  · rename_i k n l
    simp only [Option.map_eq_some_iff] at h
    obtain ⟨ns, hns, rfl⟩ := h
    have : ∃ m, (n :: ns)[B]? = some m ∧ v0 = .int k m := by
      cases B with
      | zero => cases h0; exact ⟨n, rfl, rfl⟩
      | succ B => exact goI_ok hns B v0 h0
    obtain ⟨m, hm, rfl⟩ := this
    cases hu
    exact packI_ok hρ hm
  · cases h
theorem zipP_ok {op : BinOp} {k k' : IntKind} : ∀ {l m : List Int} {r : List AV}, zipP op k k' l m = some r → ∀ (i : Nat) (a b : Int), l[i]? = some a → m[i]? = some b → ∃ v, r[i]? = some v ∧ binP op (.int k a) (.int k' b) = some v
  | [], _, _, _, i, a, b, ha, _ => by cases ha
  | _ :: _, [], _, _, i, a, b, _, hb => by cases hb
  | x :: l, y :: m, r, h, i, a, b, ha, hb => by
    unfold zipP at h
    split at h
    · rename_i v hv
      simp only [Option.map_eq_some_iff] at h
      obtain ⟨vs, hvs, rfl⟩ := h
      cases i with
      | zero => cases ha; cases hb; exact ⟨v, rfl, hv⟩
      | succ i => exact zipP_ok hvs i a b ha hb
    · cases h
theorem binA_ok {op : BinOp} {p q : AV} {v : AV} {u u' : Value} (t : TypeId) (x y : Operand) (h : binA op p q = some v) (hp : VR ρ p u) (hq : VR ρ q u') :
    ∃ r, (do eqGuard op t x y u u'; binOp op t u u' : Sem Value).run P w = .ok r w ∧ VR ρ v r := by
  unfold binA at h
  split at h
  · rename_i v1 hb
    cases h
    obtain ⟨r, h1, h2⟩ := binP_ok (P := P) (w := w) t x y hb hp hq
    exact ⟨r, h1, h2 ρ⟩
  · unfold binL at h
    split at h
    · rename_i k l k' m hl hm
      simp only [Option.bind_eq_some_iff] at h
      obtain ⟨r, hr, hv⟩ := h
      have hne : l ≠ [] := by
        intro e
        subst e
        unfold zipP at hr
        split at hr
        · cases hr; cases hv
        · rename_i h; cases h
        · cases hr
      obtain ⟨B, κ, n, n', hρ, h1, rfl, h2, rfl⟩ := lane_at hp hq hl hm hne
      obtain ⟨v0, h3, h4⟩ := zipP_ok hr B n n' h1 h2
      obtain ⟨r0, h5, h6⟩ := binP_ok (P := P) (w := w) (ρ := ρ) t x y h4 rfl rfl
      exact ⟨r0, h5, packV_ok hρ hv h3 (h6 ρ)⟩
    · have str : ∀ {l : List AV} {s : List UInt8} {op : BinOp}, Nat.beq l.length s.length = false → VR ρ (.sls l) u → VR ρ (.str s) u' → (op = .eql ∨ op = .neq) → ∃ r, (do eqGuard op t x y u u'; binOp op t u u' : Sem Value).run P w = .ok r w ∧ VR ρ (.bool (match op with | .eql => false | _ => true)) r := by
        intro l s op hb h1 h2 ho
        obtain ⟨bs, hbs, rfl⟩ := h1
        have hlen := VRs.len hbs
        rw [List.length_map] at hlen
        have hne : (bs == s) = false := by
          cases hc : (bs == s) with
          | false => rfl
          | true =>
            have e := eq_of_beq hc
            rw [← e, hlen, Nat.beq_refl] at hb
            cases hb
        rcases ho with rfl | rfl
        · obtain ⟨r, h3, h4⟩ := binP_ok (P := P) (w := w) (ρ := ρ) (op := .eql) (p := .str bs) (q := .str s) t x y rfl rfl h2
          have h4 := h4 ρ
          rw [hne] at h4
          exact ⟨r, h3, h4⟩
        · obtain ⟨r, h3, h4⟩ := binP_ok (P := P) (w := w) (ρ := ρ) (op := .neq) (p := .str bs) (q := .str s) t x y rfl rfl h2
          have h4 := h4 ρ
          have : (bs != s) = true := by simp [bne, hne]
          rw [this] at h4
          exact ⟨r, h3, h4⟩
      split at h
      · cases hb : Nat.beq _ _ with
        | true => rw [hb] at h; cases h
        | false => rw [hb] at h; cases h; exact str hb hp hq (.inl rfl)
      · cases hb : Nat.beq _ _ with
        | true => rw [hb] at h; cases h
        | false => rw [hb] at h; cases h; exact str hb hp hq (.inr rfl)
      · cases h
theorem binOp_sound (op : BinOp) (t : Nat) (x y : Operand) (yt : Nat) : OpSound P (.binOp op t x y yt) (binK P op t x y) := by
  intro cf _ av s v s' hrun o a w B0 w0 ρ ho hav hr hf
  obtain ⟨p, q, rfl, hp, hq⟩ := vrs2 (x := a.eval x) (y := a.eval y) hav
  have fin : ∀ {v'} {r : Value}, (do eqGuard op t x y (a.eval x) (a.eval y); binOp op t (a.eval x) (a.eval y) : Sem Value).run P w = .ok r w → VR ρ v' r → v = v' → s' = s → OpTo P o a w (Done B0 w0 ρ s v s') := by
    intro v' r h1 h2 e1 e2
    subst e1; subst e2
    refine OpTo.value (v := r) (w' := w) ?_ (Done.same hr rfl h2)
    simp only [execOp, ho, Sem.run_bind] at h1 ⊢
    rw [h1]; rfl
  have direct : ∀ {v'}, binA op p q = some v' → v = v' → s' = s → OpTo P o a w (Done B0 w0 ρ s v s') := by
    intro v' h e1 e2
    obtain ⟨r, hr1, hv⟩ := binA_ok (P := P) (w := w) t x y h hp hq
    exact fin hr1 hv e1 e2
  unfold binK at hrun
  split at hrun
  · dsimp only at hrun
    split at hrun
    · rename_i v1 hb; cases hrun; exact direct hb rfl rfl
    · cases hq' : (eqK P t x y).run p q with
      | none => rw [hq'] at hrun; cases hrun
      | some r =>
        rw [hq'] at hrun
        cases hrun
        obtain ⟨h1, h2, h3, h4, h5, h6⟩ := eqK_ok (P := P) (w := w) hq' hp hq
        refine fin (v' := .bool r) (r := .bool r) ?_ rfl rfl rfl
        simp only [Sem.run_bind, h2, Result.andThen_ok]
        exact (binOp_eql h1 h3 h4 h5 h6).1
  · dsimp only at hrun
    split at hrun
    · rename_i v1 hb; cases hrun; exact direct hb rfl rfl
    · cases hq' : (eqK P t x y).run p q with
      | none => rw [hq'] at hrun; cases hrun
      | some r =>
        rw [hq'] at hrun
        cases hrun
        obtain ⟨h1, h2, h3, h4, h5, h6⟩ := eqK_ok (P := P) (w := w) hq' hp hq
        refine fin (v' := .bool (!r)) (r := .bool (!r)) ?_ rfl rfl rfl
        simp only [Sem.run_bind, h2, Result.andThen_ok]
        exact (binOp_eql h1 h3 h4 h5 h6).2
  · dsimp only at hrun
    cases hb : binA op p q with
    | none => rw [hb] at hrun; cases hrun
    | some v1 => rw [hb] at hrun; cases hrun; exact direct hb rfl rfl
theorem unP_ok {op : UnOp} {p v : AV} {u : Value} (h : unP op p = some v) (hp : VR ρ p u) : ∃ r, (Op.unary op u).run P w = .ok r w ∧ ∀ ρ', VR ρ' v r := by
  unfold unP at h
  split at h
  · rename_i b
    cases h; cases hp
    exact ⟨.bool (!b), by simp [Op.unary], fun _ => rfl⟩
  · rename_i k n
    cases h; cases hp
    exact ⟨.int k (k.wrap (0 - n)), by simp [Op.unary, Op.intArith], fun _ => rfl⟩
  · rename_i n
    cases hc : Nat.blt n 4294967296 with
    | false => rw [hc] at h; cases h
    | true =>
      rw [hc] at h
      cases h; cases hp
      have h1 : (BitVec.ofInt 32 (4294967295 : Int)).toNat = 4294967295 := by decide
      have h2 : (BitVec.ofInt 32 (n : Int)).toNat = n := bits_toNat 32 n hc
      have h3 : (BitVec.ofInt 32 (4294967295 : Int) ^^^ BitVec.ofInt 32 (n : Int)).toNat = 4294967295 ^^^ n := by rw [BitVec.toNat_xor, h1, h2]
      refine ⟨.int .u32 (IntKind.u32.wrap ((4294967295 ^^^ n : Nat) : Int)), ?_, fun _ => rfl⟩
      rw [← h3]
      simp only [Op.unary]
      rfl
  · cases h
theorem unZ_ok {op : UnOp} {k : IntKind} : ∀ {l : List Int} {r : List AV}, unZ op k l = some r → ∀ (i : Nat) (a : Int), l[i]? = some a → ∃ v, r[i]? = some v ∧ unP op (.int k a) = some v
  | [], _, _, i, a, ha => by cases ha
  | x :: l, r, h, i, a, ha => by
    unfold unZ at h
    split at h
    · rename_i v hv
      simp only [Option.map_eq_some_iff] at h
      obtain ⟨vs, hvs, rfl⟩ := h
      cases i with
      | zero => cases ha; exact ⟨v, rfl, hv⟩
      | succ i => exact unZ_ok hvs i a ha
    · cases h
theorem unA_ok {op : UnOp} {p v : AV} {u : Value} (h : unA op p = some v) (hp : VR ρ p u) : ∃ r, (Op.unary op u).run P w = .ok r w ∧ VR ρ v r := by
  unfold unA at h
  split at h
  · rename_i v1 h1
    cases h
    obtain ⟨r, h2, h3⟩ := unP_ok (P := P) (w := w) h1 hp
    exact ⟨r, h2, h3 ρ⟩
  · split at h
    · rename_i k l _
      simp only [Option.bind_eq_some_iff] at h
      obtain ⟨r, hr, hv⟩ := h
      obtain ⟨B, κ, n, hρ, hn, rfl⟩ := hp
      obtain ⟨v0, h3, h4⟩ := unZ_ok hr B n hn
      obtain ⟨r0, h5, h6⟩ := unP_ok (P := P) (w := w) (ρ := ρ) h4 rfl
      exact ⟨r0, h5, packV_ok hρ hv h3 (h6 ρ)⟩
    · cases h
theorem unOp_sound (op : UnOp) (t : Nat) (x : Operand) : OpSound P (.unOp op t x) (opK P (.unOp op t x)) := by
  intro cf _ av s v s' hrun o a w B0 w0 ρ ho hav hr hf
  obtain ⟨p, rfl, hp⟩ := vrs1 (x := a.eval x) hav
  unfold opK at hrun
  dsimp only at hrun
  cases hu : unA op p with
  | none => rw [hu] at hrun; cases hrun
  | some v1 =>
    rw [hu] at hrun
    cases hrun
    obtain ⟨r, h1, h2⟩ := unA_ok (P := P) (w := w) hu hp
    refine OpTo.value (v := r) (w' := w) ?_ (Done.same hr rfl h2)
    simp only [execOp, ho, Sem.run_bind]
    rw [h1]; rfl
theorem natA_ok {o : Option AV} {d n : Nat} {x : Value} (h : natA o d = some n) : (o = none ∧ n = d) ∨ ∃ k, o = some (.int k (.ofNat n)) := by
  unfold natA at h
  split at h
  · cases h; exact .inl ⟨rfl, rfl⟩
  · cases h; exact .inr ⟨_, rfl⟩
  · cases h
theorem run_sliceBound (k : IntKind) (n y : Nat) (c : BoundsCode) (h : n ≤ y) : (Instr.sliceBound (.int k (n : Int)) y c).run P w = .ok n w := by
  have : (0 : Int) ≤ (n : Int) ∧ (n : Int) ≤ (y : Int) := ⟨by omega, by omega⟩
  simp [Instr.sliceBound, asIntOf, this]
/-- The bounds of a slice expression. -/
structure Bnd (ρ : Env) (lo hi mx : Option AV) (lo' hi' mx' : Option Value) : Prop where
  blo : (lo = none ∧ lo' = none) ∨ ∃ p x, lo = some p ∧ lo' = some x ∧ VR ρ p x
  bhi : (hi = none ∧ hi' = none) ∨ ∃ p x, hi = some p ∧ hi' = some x ∧ VR ρ p x
  bmx : (mx = none ∧ mx' = none) ∨ ∃ p x, mx = some p ∧ mx' = some x ∧ VR ρ p x
  both : mx.isSome = true → hi.isSome = true
theorem Bnd.nat {o : Option AV} {o' : Option Value} {d n : Nat} (h : (o = none ∧ o' = none) ∨ ∃ p x, o = some p ∧ o' = some x ∧ VR ρ p x) (hn : natA o d = some n) :
    (o' = none ∧ n = d) ∨ ∃ k, o' = some (.int k (.ofNat n)) := by
  rcases h with ⟨rfl, rfl⟩ | ⟨p, x, rfl, rfl, hv⟩
  · cases hn; exact .inl ⟨rfl, rfl⟩
  · rcases natA_ok (x := x) hn with ⟨e, _⟩ | ⟨k, e⟩
    · cases e
    · cases e; cases hv; exact .inr ⟨k, rfl⟩
theorem run_bounds {isS : Bool} {len cap l h m : Nat} {lo hi mx : Option AV} {lo' hi' mx' : Option Value} (b : Bnd ρ lo hi mx lo' hi' mx') (hl : natA lo 0 = some l) (hh : natA hi len = some h) (hm : natA mx cap = some m)
    (h1 : l ≤ h) (h2 : h ≤ m) (h3 : m ≤ cap) : (Instr.sliceBounds isS len cap lo' hi' mx').run P w = .ok (l, h, m) w := by
  have hb : mx' ≠ none → hi' ≠ none := by
    intro hmx hhi
    rcases b.bmx with ⟨_, e⟩ | ⟨p, x, e1, e2, _⟩
    · exact hmx e
    · have := b.both (by rw [e1]; rfl)
      rcases b.bhi with ⟨e, _⟩ | ⟨q, y, _, e3, _⟩
      · rw [e] at this; cases this
      · rw [e3] at hhi; cases hhi
  rcases Bnd.nat b.bmx hm with ⟨rfl, rfl⟩ | ⟨k1, rfl⟩ <;> rcases Bnd.nat b.bhi hh with ⟨rfl, rfl⟩ | ⟨k2, rfl⟩ <;> rcases Bnd.nat b.blo hl with ⟨rfl, rfl⟩ | ⟨k3, rfl⟩ <;>
    first
    | (simp [Instr.sliceBounds, run_sliceBound _ _ _ _ h1, run_sliceBound _ _ _ _ h2, run_sliceBound _ _ _ _ h3]; done)
    | exact (hb (by simp) rfl).elim
/-- The model's slice of a slice. -/
theorem run_slice {t e len cap l h m : Nat} {base : Option Addr} {lo' hi' mx' : Option Value} (hu : P.underlying t = some (.slice e)) (hty : tyOk P e = true)
    (hb : (Instr.sliceBounds true len cap lo' hi' mx').run P w = .ok (l, h, m) w) :
    (Instr.sliceAt t (.slice base len cap) lo' hi' mx').run P w = .ok (.slice (if m = l then base else base.map (·.add (l * sizeT P e))) (h - l) (m - l)) w := by
  simp only [Instr.sliceAt, Sem.run_bind, run_under hu, Result.andThen_ok, Instr.slice, hb, run_size hty]
  rfl
theorem sliceA_ok (isS : Bool) {size len : Nat} {p r : AV} {u : Value} {lo hi mx : Option AV} {lo' hi' mx' : Option Value} (b : Bnd ρ lo hi mx lo' hi' mx') (h : sliceA size len p lo hi mx = some r) (hlen : lenS p = some len) (hp : VR ρ p u) :
    ∃ base cap l hh m, u = .slice base len cap ∧ (Instr.sliceBounds isS len cap lo' hi' mx').run P w = .ok (l, hh, m) w ∧ VR ρ r (.slice (if m = l then base else base.map (·.add (l * size))) (hh - l) (m - l)) := by
  unfold sliceA at h
  split at h
  · rename_i l hh hl hhi
    cases hle : Nat.ble l hh with
    | false => rw [hle] at h; cases h
    | true =>
    rw [hle] at h
    have hle := Nat.le_of_ble_eq_true hle
    simp only [cond_true] at h
    split at h
    · -- slc, open, no max
      rename_i b off n c
      cases hlen
      cases h1 : Nat.ble hh len with
      | false => rw [h1] at h; cases h
      | true =>
      rw [h1] at h
      have h1 := Nat.le_of_ble_eq_true h1
      simp only [cond_true] at h
      obtain ⟨B, κ, hρ, hu, hcap⟩ := hp
      have hcap := hcap rfl
      refine ⟨_, _, l, hh, κ - c, hu, run_bounds b hl hhi rfl hle (by omega) (Nat.le_refl _), ?_⟩
      cases h2 : (Nat.beq l len && !(Nat.beq l 0)) with
      | true =>
        rw [h2] at h
        cases h
        simp only [Bool.and_eq_true, Bool.not_eq_true'] at h2
        have e1 := Nat.eq_of_beq_eq_true h2.1
        have e2 : hh = l := by omega
        refine ⟨B, κ, hρ, ?_⟩
        subst e2
        rw [nbeq]
        by_cases hk : κ = c + hh
        · rw [if_pos (by omega)]; simp [hk]
        · rw [if_neg (by omega)]; simp [hk, addr_add]; omega
      | false =>
        rw [h2] at h
        cases h
        refine ⟨B, κ, hρ, ?_, fun _ => by omega⟩
        by_cases hl0 : l = 0
        · subst hl0
          simp [Addr.add]
        · have : l ≠ len := by
            intro e
            rw [e] at h2
            simp only [nbeq] at h2
            simp at h2
            omega
          rw [if_neg (by omega)]
          simp [addr_add]
          omega
    · -- slc, closed, no max
      rename_i b off n c
      cases hlen
      cases h1 : Nat.ble hh c with
      | false => rw [h1] at h; cases h
      | true =>
      rw [h1] at h
      have h1 := Nat.le_of_ble_eq_true h1
      cases h
      obtain ⟨B, κ, hρ, hu, _⟩ := hp
      refine ⟨_, _, l, hh, c, hu, run_bounds b hl hhi rfl hle h1 (Nat.le_refl _), ?_⟩
      refine ⟨B, κ, hρ, ?_, fun e => by cases e⟩
      rw [nbeq]
      by_cases hk : c = l
      · rw [if_pos hk]; simp [hk]
      · rw [if_neg hk]; simp [hk, addr_add]
    · -- slc, max
      rename_i b off n opn c mv
      split at h
      · rename_i m hm
        cases hlen
        cases h1 : (Nat.ble hh m && Nat.ble m (cond opn len c)) with
        | false => rw [h1] at h; cases h
        | true =>
        rw [h1] at h
        simp only [Bool.and_eq_true] at h1
        have h2 := Nat.le_of_ble_eq_true h1.1
        have h3 := Nat.le_of_ble_eq_true h1.2
        cases h
        obtain ⟨B, κ, hρ, hu, hcap⟩ := hp
        have hmc : ∀ d, natA (some mv) d = some m := by
          intro d
          rcases natA_ok (x := .nilFunc) hm with ⟨e, _⟩ | ⟨k, e⟩
          · cases e
          · cases e; rfl
        refine ⟨_, _, l, hh, m, hu, run_bounds b hl hhi (hmc _) hle h2 ?_, ?_⟩
        · cases opn
          · exact h3
          · have := hcap rfl
            simp only [cond_true] at h3 ⊢
            omega
        · refine ⟨B, κ, hρ, ?_, fun e => by cases e⟩
          rw [nbeq]
          by_cases hk : m = l
          · rw [if_pos hk]; simp [hk]
          · rw [if_neg hk]; simp [hk, addr_add]
      · cases h
    · -- slz
      rename_i b o0 o d
      cases hlen
      cases h1 : Nat.beq hh 0 with
      | false => rw [h1] at h; cases h
      | true =>
      rw [h1] at h
      have h1 := Nat.eq_of_beq_eq_true h1
      cases h
      obtain ⟨B, κ, hρ, hu⟩ := hp
      have hl0 : l = 0 := by omega
      subst hl0; subst h1
      refine ⟨_, _, 0, 0, κ - d, hu, run_bounds b hl hhi rfl hle (by omega) (Nat.le_refl _), ?_⟩
      refine ⟨B, κ, hρ, ?_⟩
      simp [Addr.add]
    · -- nils
      cases hlen
      cases h1 : Nat.beq hh 0 with
      | false => rw [h1] at h; cases h
      | true =>
      rw [h1] at h
      have h1 := Nat.eq_of_beq_eq_true h1
      cases h
      cases hp
      have hl0 : l = 0 := by omega
      subst hl0; subst h1
      refine ⟨none, 0, 0, 0, 0, rfl, run_bounds b hl hhi rfl (Nat.le_refl _) (Nat.le_refl _) (Nat.le_refl _), by simp; rfl⟩
    · -- nils, max
      rename_i mv
      cases hlen
      split at h
      · rename_i m hm
        cases h1 : (Nat.beq m 0 && Nat.beq hh 0) with
        | false => rw [h1] at h; cases h
        | true =>
        rw [h1] at h
        simp only [Bool.and_eq_true] at h1
        have h2 := Nat.eq_of_beq_eq_true h1.1
        have h3 := Nat.eq_of_beq_eq_true h1.2
        cases h
        cases hp
        have hl0 : l = 0 := by omega
        subst hl0; subst h2; subst h3
        have hmc : ∀ d, natA (some mv) d = some 0 := by
          intro d
          rcases natA_ok (x := .nilFunc) hm with ⟨e, _⟩ | ⟨k, e⟩
          · cases e
          · cases e; rfl
        exact ⟨none, 0, 0, 0, 0, rfl, run_bounds b hl hhi (hmc _) (Nat.le_refl _) (Nat.le_refl _) (Nat.le_refl _), by simp; rfl⟩
      · cases h
    · cases hlen
    · cases h
  · cases h
end
end Go.Ev
namespace Go.Ev
open Go.RowKit (Below)
section
variable {P : Program} {ρ : Env} {B0 : Nat} {w0 w : World}
theorem opt3_ok {a : Act} {lo hi mx : Option Operand} {r : List AV} {l h m : Option AV} (e : opt3 lo.isSome hi.isSome mx.isSome r = some (l, h, m)) (hv : VRs ρ r ((lo.toList ++ hi.toList ++ mx.toList).map a.eval)) :
    Bnd ρ l h m (lo.map a.eval) (hi.map a.eval) (mx.map a.eval) := by
  cases lo with
  | none =>
    cases hi with
    | none =>
      cases mx with
      | none =>
        obtain rfl := vrs_nil hv
        cases e
        exact ⟨.inl ⟨rfl, rfl⟩, .inl ⟨rfl, rfl⟩, .inl ⟨rfl, rfl⟩, by simp⟩
      | some z => cases r <;> cases e
    | some y =>
      cases mx with
      | none =>
        obtain ⟨p, rfl, hp⟩ := vrs1 (x := a.eval y) hv
        cases e
        exact ⟨.inl ⟨rfl, rfl⟩, .inr ⟨_, _, rfl, rfl, hp⟩, .inl ⟨rfl, rfl⟩, by simp⟩
      | some z =>
        obtain ⟨p, q, rfl, hp, hq⟩ := vrs2 (x := a.eval y) (y := a.eval z) hv
        cases e
        exact ⟨.inl ⟨rfl, rfl⟩, .inr ⟨_, _, rfl, rfl, hp⟩, .inr ⟨_, _, rfl, rfl, hq⟩, by simp⟩
  | some x =>
    cases hi with
    | none =>
      cases mx with
      | none =>
        obtain ⟨p, rfl, hp⟩ := vrs1 (x := a.eval x) hv
        cases e
        exact ⟨.inr ⟨_, _, rfl, rfl, hp⟩, .inl ⟨rfl, rfl⟩, .inl ⟨rfl, rfl⟩, by simp⟩
      | some z => cases r <;> cases e
    | some y =>
      cases mx with
      | none =>
        obtain ⟨p, q, rfl, hp, hq⟩ := vrs2 (x := a.eval x) (y := a.eval y) hv
        cases e
        exact ⟨.inr ⟨_, _, rfl, rfl, hp⟩, .inr ⟨_, _, rfl, rfl, hq⟩, .inl ⟨rfl, rfl⟩, by simp⟩
      | some z =>
        obtain ⟨p, q, r, rfl, hp, hq, hr⟩ := vrs3 (x := a.eval x) (y := a.eval y) (z := a.eval z) hv
        cases e
        exact ⟨.inr ⟨_, _, rfl, rfl, hp⟩, .inr ⟨_, _, rfl, rfl, hq⟩, .inr ⟨_, _, rfl, rfl, hr⟩, by simp⟩
theorem openSlice_ok {s s' : S} {v : AV} {size len : Nat} {p : AV} {u : Value} {lo hi mx : Option AV} {lo' hi' mx' : Option Value} (b : Bnd ρ lo hi mx lo' hi' mx') (h : openSlice size len p lo hi mx s = .ok v s') (hlen : lenS p = some len) (hr : Rel B0 w0 ρ s.h w) (hp : VR ρ p u) :
    s'.h = s.h ∧ ∃ base cap l hh m, u = .slice base len cap ∧ (Instr.sliceBounds true len cap lo' hi' mx').run P w = .ok (l, hh, m) w ∧ VR ρ v (.slice (if m = l then base else base.map (·.add (l * size))) (hh - l) (m - l)) := by
  unfold openSlice at h
  split at h
  · rename_i b1 off n c l hh hl hhi
    cases hlen
    cases hc : (Nat.ble 1 size && Nat.blt l hh) with
    | false => rw [hc] at h; cases h
    | true =>
      rw [hc] at h
      simp only [cond_true] at h
      rw [Bool.and_eq_true] at hc
      have hs1 := Nat.le_of_ble_eq_true hc.1
      have hlt : l < hh := by simpa [Nat.blt_eq] using hc.2
      obtain ⟨o, ho, hk⟩ := look_inv h
      split at hk
      · rename_i cs q
        cases hq : (Nat.beq q (size + 1) && Nat.ble ((c + hh) * size) cs.length) with
        | false => rw [hq] at hk; cases hk
        | true =>
          rw [hq] at hk
          cases hk
          rw [Bool.and_eq_true] at hq
          have hq1 := Nat.eq_of_beq_eq_true hq.1
          have hq2 := Nat.le_of_ble_eq_true hq.2
          subst hq1
          obtain ⟨B, κ, hρ, hu, hcap⟩ := hp
          obtain ⟨cells, e, fr, vs, rest, _, _, h3, h4, h5⟩ := hr.row ⟨_, ho, rfl⟩ hρ
          have h5 : cells.size = κ * size := h5
          have h6 := VRs.len h4
          have h7 : cells.size = vs.length + rest.length := by rw [← Array.length_toList, h3, List.length_append]
          have h8 : (c + hh) * size ≤ κ * size := by omega
          have h9 : c + hh ≤ κ := Nat.le_of_mul_le_mul_right h8 (by omega)
          refine ⟨rfl, _, _, l, hh, κ - c, hu, run_bounds b hl hhi rfl (Nat.le_of_lt hlt) (by omega) (Nat.le_refl _), ?_⟩
          refine ⟨B, κ, hρ, ?_, fun _ => by omega⟩
          rw [if_neg (by omega)]
          simp [addr_add]
          omega
      · cases hk
  · cases h
theorem slice_sound (t : Nat) (x : Operand) (lo hi mx : Option Operand) : OpSound P (.slice t x lo hi mx) (sliceK P t lo.isSome hi.isSome mx.isSome) := by
  intro cf _ av s v s' hrun o a w B0 w0 ρ ho hav hr hf
  have hav : VRs ρ av (a.eval x :: (lo.toList ++ hi.toList ++ mx.toList).map a.eval) := by simpa [Op.operands] using hav
  obtain ⟨p, r, rfl, hp, hrs⟩ := vrs_cons hav
  unfold sliceK at hrun
  split at hrun
  · rename_i e hu
    cases hty : tyOk P e with
    | false => simp only [hty, Bool.not_false, cond_true] at hrun; cases hrun
    | true =>
      simp only [hty, Bool.not_true, cond_false] at hrun
      split at hrun
      · rename_i len l h m hlen hopt
        cases hsl : sliceA (sizeT P e) len p l h m with
        | none =>
          rw [hsl] at hrun
          obtain ⟨hs, base, cap, l1, h1, m1, hu1, hb1, hq⟩ := openSlice_ok (P := P) (w := w) (opt3_ok hopt hrs) hrun hlen hr hp
          refine OpTo.value (w' := w) ?_ (Done.same hr hs hq)
          simp [execOp, ho, hu1, run_slice hu hty hb1]
        | some q =>
          rw [hsl] at hrun
          cases hrun
          obtain ⟨base, cap, l1, h1, m1, hu1, hb1, hq⟩ := sliceA_ok (P := P) (w := w) true (opt3_ok hopt hrs) hsl hlen hp
          refine OpTo.value (w' := w) ?_ (Done.same hr rfl hq)
          simp [execOp, ho, hu1, run_slice hu hty hb1]
      · cases hrun
  · rename_i hu
    dsimp only at hrun
    split at hrun
    · rename_i v1 r1 he
      cases he
      split at hrun
      · rename_i l h m hopt
        cases hsl : sliceA 1 v1.length (.str v1) l h m with
        | none => rw [hsl] at hrun; cases hrun
        | some q =>
          rw [hsl] at hrun
          cases hrun
          have hx : a.eval x = .string ⟨⟨v1⟩⟩ := hp
          have b := opt3_ok hopt hrs
          unfold sliceA at hsl
          split at hsl
          · rename_i l1 h1 e1 e2
            cases hle : Nat.ble l1 h1 with
            | false => rw [hle] at hsl; cases hsl
            | true =>
              rw [hle] at hsl
              have hle := Nat.le_of_ble_eq_true hle
              simp only [cond_true] at hsl
              cases m with
              | some m => cases hsl
              | none =>
                cases h2 : Nat.ble h1 v1.length with
                | false => simp only [h2, cond_false] at hsl; cases hsl
                | true =>
                  simp only [h2, cond_true] at hsl
                  have h2 := Nat.le_of_ble_eq_true h2
                  cases hsl
                  have hmx : mx.map a.eval = none := by
                    rcases b.bmx with ⟨_, e⟩ | ⟨_, _, e, _⟩
                    · exact e
                    · cases e
                  have hb1 := run_bounds (P := P) (w := w) (isS := false) (cap := v1.length) b e1 e2 rfl hle h2 (Nat.le_refl _)
                  rw [hmx] at hb1
                  have hsz : (⟨⟨v1⟩⟩ : ByteArray).size = v1.length := rfl
                  refine OpTo.value (v := .string ((⟨⟨v1⟩⟩ : ByteArray).extract l1 h1)) (w' := w) ?_ (Done.same hr rfl ?_)
                  · simp only [execOp, ho, Instr.sliceAt, Sem.run_bind, run_under hu, Result.andThen_ok, hx, hmx, Instr.slice, hsz, Option.isSome_none, Bool.false_eq_true, if_false, hb1]
                    rfl
                  · show Value.string _ = Value.string _
                    congr 1
                    apply ByteArray.ext
                    apply Array.ext'
                    simp [ByteArray.data_extract, List.extract_eq_take_drop]
          · cases hsl
      · cases hrun
    · cases hrun
  · rename_i n e hu
    cases hty : tyOk P e with
    | false => simp only [hty, Bool.not_false, cond_true] at hrun; cases hrun
    | true =>
      simp only [hty, Bool.not_true, cond_false] at hrun
      split at hrun
      · rename_i b1 off r1 he
        cases he
        split at hrun
        · rename_i l h m hopt
          cases hsl : sliceA (sizeT P e) n (.slc b1 off n false n) l h m with
          | none => rw [hsl] at hrun; cases hrun
          | some q =>
            rw [hsl] at hrun
            cases hrun
            obtain ⟨B, κ, hρ, hx⟩ := hp
            have hp' : VR ρ (.slc b1 off n false n) (.slice (some ⟨B, off, none⟩) n n) := ⟨B, κ, hρ, rfl, fun e => by cases e⟩
            obtain ⟨base, cap, l1, h1, m1, hu1, hb1, hq⟩ := sliceA_ok (P := P) (w := w) false (opt3_ok hopt hrs) hsl rfl hp'
            cases hu1
            refine OpTo.value (w' := w) ?_ (Done.same hr rfl hq)
            simp only [execOp, ho, Instr.sliceAt, Sem.run_bind, run_under hu, Result.andThen_ok, hx, Instr.sureAddr, Sem.run_pure, hb1, run_size hty]
            split <;> rfl
        · cases hrun
      · cases hrun
  · cases hrun
theorem repl_length (n : Nat) (z : List AV) : (repl n z).length = n * z.length := by simp [repl]
/-- Rows of a zero, one behind the other. -/
theorem zeros_list (zero : Array Value) : ∀ n, (List.range (n * zero.size)).map (fun i => zero[i % zero.size]!) = (List.replicate n zero.toList).flatten
  | 0 => by simp
  | n + 1 => by
    have ih := zeros_list zero n
    rw [show (n + 1) * zero.size = zero.size + n * zero.size by rw [Nat.add_mul, Nat.one_mul, Nat.add_comm], List.range_add, List.map_append, List.map_map, List.replicate_succ, List.flatten_cons, ← ih]
    congr 1
    · apply List.ext_getElem?
      intro i
      by_cases hi : i < zero.size
      · simp [hi, Nat.mod_eq_of_lt hi]
      · simp [hi]
    · apply List.map_congr_left
      intro i _
      simp
theorem zeros_arr (zero : Array Value) (n : Nat) : (Array.range (n * zero.size)).map (fun i => zero[i % zero.size]!) = ⟨(List.replicate n zero.toList).flatten⟩ := by
  apply Array.ext'
  rw [Array.toList_map, Array.toList_range]
  exact zeros_list zero n
theorem wrap_nat (n : Nat) (h : n ≤ 1000000000) : IntKind.i64.wrap (n : Int) = n := by
  have e : (n : Int) % (2 ^ IntKind.i64.bits : Int) = n := Int.emod_eq_of_lt (by omega) (by show (n : Int) < 18446744073709551616; omega)
  unfold IntKind.wrap
  simp only [e]
  rw [if_neg]
  simp only [Bool.and_eq_true, decide_eq_true_eq, not_and]
  intro _
  show ¬ ((n : Int) ≥ 9223372036854775808)
  omega
theorem flat_nil {m : Nat} {zs : List Value} (h : m * zs.length = 0) : (List.replicate m zs).flatten = [] := by
  rcases Nat.mul_eq_zero.1 h with rfl | h
  · rfl
  · obtain rfl := List.length_eq_zero_iff.1 h; simp
theorem makeSlice_sound (t : Nat) (l c : Operand) : OpSound P (.makeSlice t l c) (makeSliceK P t) := by
  intro cf _ av s v s' hrun o a w B0 w0 ρ ho hav hr hf
  obtain ⟨p, q, rfl, hp, hq⟩ := vrs2 (x := a.eval l) (y := a.eval c) hav
  unfold makeSliceK at hrun
  split at hrun
  · rename_i e hu
    split at hrun
    · rename_i z hz
      cases hc : (tyOk P e && Nat.ble (bytesT P e) 10000 && Nat.beq z.cells.length (sizeT P e)) with
      | false => simp only [hc, Bool.not_false, cond_true] at hrun; cases hrun
      | true =>
      simp only [hc, Bool.not_true, cond_false] at hrun
      simp only [Bool.and_eq_true] at hc
      have hby := Nat.le_of_ble_eq_true hc.1.2
      have hzl := Nat.eq_of_beq_eq_true hc.2
      split at hrun
      · rename_i k1 n k2 m he
        cases he
        cases hle : (Nat.ble n m && Nat.ble m 1000000) with
        | false => rw [hle] at hrun; cases hrun
        | true =>
        rw [hle] at hrun
        cases hrun
        simp only [Bool.and_eq_true] at hle
        have h1 := Nat.le_of_ble_eq_true hle.1
        have h2 := Nat.le_of_ble_eq_true hle.2
        have hp : a.eval l = .int k1 (n : Int) := hp
        have hq : a.eval c = .int k2 (m : Int) := hq
        obtain ⟨zv, hzr, hzv⟩ := run_zero (P := P) (w := w) hz
        obtain ⟨i, hbr, hib⟩ := run_bytes (P := P) (w := w) hc.1.1
        have hzs := vr_cells (hzv ρ)
        have hzsz : zv.cells.size = sizeT P e := by rw [← hzl]; exact vr_cells' (hzv ρ)
        have w1 : IntKind.i64.wrap (n : Int) = n := wrap_nat n (by omega)
        have w2 : IntKind.i64.wrap (m : Int) = m := wrap_nat m (by omega)
        have hmul : i.bytes * m ≤ 10000 * 1000000 := Nat.mul_le_mul (by omega) h2
        refine OpTo.value (v := .slice (some ⟨w.heap.size, 0, none⟩) n m) (w' := w.alloc (.cells ⟨(List.replicate m zv.cells.toList).flatten⟩ e)) ?_
          (Done.new hr hf rfl rfl (row_new (VRs.replicate hzs m) 0 e) fun ρ' _ h => ⟨_, _, h, rfl, fun e => by cases e⟩)
        have tl : ((m : Int) < 0 || (i.bytes : Int) * (m : Int) > 2 ^ 48) = false := by
          simp only [Bool.or_eq_false_iff, decide_eq_false_iff_not]
          constructor
          · omega
          · have h3 : ((i.bytes * m : Nat) : Int) ≤ ((10000 * 1000000 : Nat) : Int) := Int.ofNat_le.2 hmul
            rw [Int.natCast_mul] at h3
            have h4 : ((10000 * 1000000 : Nat) : Int) = 10000000000 := rfl
            have h5 : (2 : Int) ^ 48 = 281474976710656 := rfl
            rw [h5]
            omega
        have hn0 : ¬ ((n : Int) < 0) := by omega
        have hgt : ¬ ((n : Int) > (m : Int)) := by omega
        simp only [execOp, ho, Instr.makeSlice, Sem.run_bind, run_under hu, Result.andThen_ok, hp, hq, asInt, asIntOf, Sem.run_pure, hbr, w1, w2, tl, hn0, hgt]
        simp only [decide_false, Bool.or_false, Bool.false_eq_true, if_false]
        have hroom : ∀ k, (askRoom k).run P w = .ok () w := by intro k; unfold askRoom; split <;> rfl
        simp only [Sem.run_bind, hroom, run_size hc.1.1, Result.andThen_ok]
        simp only [Int.toNat_natCast]
        have hlen : zv.cells.toList.length = sizeT P e := by simp [hzsz]
        by_cases hm0 : m * sizeT P e = 0
        · rw [flat_nil (by rw [hlen]; exact hm0)]
          have hz0 : ∀ f : Nat → Value, (Array.range 0).map f = ⟨[]⟩ := fun f => by apply Array.ext'; simp
          simp only [hm0, newRow, hz0]
          simp [hz0]
        · simp only [hm0, if_false, Sem.run_bind, hzr, Result.andThen_ok]
          have hz' : (Array.range (m * sizeT P e)).map (fun x => zv.cells[x % zv.cells.size]!) = ⟨(List.replicate m zv.cells.toList).flatten⟩ := by
            rw [← hzsz]; exact zeros_arr zv.cells m
          simp [hz', newRow]
      · cases hrun
    · cases hrun
  · cases hrun
end
end Go.Ev
namespace Go.Ev
open Go.RowKit (Below)
section
variable {P : Program} {ρ : Env} {B0 : Nat} {w0 w : World}
theorem buildSlice_sound (t n : Nat) (ps : Array (Nat × Operand)) : OpSound P (.buildSlice t n ps) (buildSliceK P t n (ps.toList.map (·.1))) := by
  intro cf _ av s v s' hrun o a w B0 w0 ρ ho hav hr hf
  have hav : VRs ρ av ((ps.toList.map (·.2)).map a.eval) := by simpa [Op.operands] using hav
  unfold buildSliceK at hrun
  split at hrun
  · rename_i e hu
    split at hrun
    · rename_i z hz
      cases hc : (tyOk P e && Nat.ble (n * sizeT P e) 10000 && Nat.beq z.cells.length (sizeT P e)) with
      | false => simp only [hc, cond_false] at hrun; cases hrun
      | true =>
      simp only [hc, cond_true] at hrun
      simp only [Bool.and_eq_true] at hc
      have hle := Nat.le_of_ble_eq_true hc.1.2
      have hzl := Nat.eq_of_beq_eq_true hc.2
      split at hrun
      · rename_i c hfl
        cases hrun
        obtain ⟨zv, hzr, hzv⟩ := run_zero (P := P) (w := w) hz
        have hzs := vr_cells (hzv ρ)
        have hzsz : zv.cells.size = sizeT P e := by rw [← hzl]; exact vr_cells' (hzv ρ)
        obtain ⟨cs', hfill, hcs⟩ := fill_ok _ _ _ _ _ _ hfl hav (VRs.replicate hzs n)
        refine OpTo.value (v := .slice (some ⟨w.heap.size, 0, none⟩) n n) (w' := w.alloc (.cells ⟨cs'⟩ e)) ?_
          (Done.new hr hf rfl rfl (row_new hcs 0 e) fun ρ' _ h => ⟨_, _, h, rfl, fun e => by cases e⟩)
        have hlen : zv.cells.toList.length = sizeT P e := by simp [hzsz]
        have hbp := build_parts a ps
        have hng : ¬ (n * sizeT P e > 2 ^ 24) := by
          have : (2 : Nat) ^ 24 = 16777216 := rfl
          omega
        by_cases hm0 : n * sizeT P e = 0
        · rw [flat_nil (by rw [hlen]; exact hm0)] at hfill
          have hz0 : ∀ f : Nat → Value, (Array.range 0).map f = ⟨[]⟩ := fun f => by apply Array.ext'; simp
          simp only [execOp, ho, Instr.buildSlice, Sem.run_bind, run_under hu, Result.andThen_ok, run_size hc.1.1, hng, if_false, hm0, if_true, Sem.run_pure, hz0, hbp]
          rw [hfill]
          simp [newRow]
        · have hz' : (Array.range (n * sizeT P e)).map (fun x => zv.cells[x % zv.cells.size]!) = ⟨(List.replicate n zv.cells.toList).flatten⟩ := by
            rw [← hzsz]; exact zeros_arr zv.cells n
          simp only [execOp, ho, Instr.buildSlice, Sem.run_bind, run_under hu, Result.andThen_ok, run_size hc.1.1, hng, if_false, hm0, Sem.run_pure, hzr, hz', hbp]
          rw [hfill]
          simp [newRow]
      · cases hrun
    · cases hrun
  · cases hrun
theorem makeMap_sound (t : Nat) : OpSound P (.makeMap t none) (opK P (.makeMap t none)) := by
  intro cf _ av s v s' hrun o a w B0 w0 ρ ho hav hr hf
  cases hrun
  refine OpTo.value (v := .map (some w.heap.size)) (w' := w.alloc (.map #[] 0)) ?_
    (Done.new (κ := 0) hr hf rfl rfl ⟨[], rfl, rfl⟩ fun ρ' _ h => ⟨_, _, h, rfl⟩)
  simp [execOp, ho, Instr.makeMap]
theorem makeChan_sound (t : Nat) (x : Operand) : OpSound P (.makeChan t x) (makeChanK P t) := by
  intro cf _ av s v s' hrun o a w B0 w0 ρ ho hav hr hf
  obtain ⟨p, rfl, hp⟩ := vrs1 (x := a.eval x) hav
  unfold makeChanK at hrun
  split at hrun
  · rename_i d e hu
    cases hc : (tyOk P e && Nat.ble (bytesT P e) 10000) with
    | false => simp only [hc, cond_false] at hrun; cases hrun
    | true =>
    simp only [hc, cond_true] at hrun
    simp only [Bool.and_eq_true] at hc
    have hby := Nat.le_of_ble_eq_true hc.2
    split at hrun
    · rename_i k n he
      cases he
      cases hle : Nat.ble n 1000000 with
      | false => rw [hle] at hrun; cases hrun
      | true =>
      rw [hle] at hrun
      cases hrun
      have hn := Nat.le_of_ble_eq_true hle
      have hp : a.eval x = .int k (n : Int) := hp
      obtain ⟨i, hbr, hib⟩ := run_bytes (P := P) (w := w) hc.1
      refine OpTo.value (v := .chan (some w.heap.size)) (w' := w.alloc (.chan n #[] false 0 0 false)) ?_
        (Done.new (κ := 0) hr hf rfl rfl ⟨[], rfl, rfl⟩ fun ρ' _ h => ⟨_, _, h, rfl⟩)
      have hmul : i.bytes * n ≤ 10000 * 1000000 := Nat.mul_le_mul (by omega) hn
      have h3 : ((i.bytes * n : Nat) : Int) ≤ ((10000 * 1000000 : Nat) : Int) := Int.ofNat_le.2 hmul
      rw [Int.natCast_mul] at h3
      have h4 : ((10000 * 1000000 : Nat) : Int) = 10000000000 := rfl
      have h5 : (2 : Int) ^ 48 - 112 = 281474976710544 := rfl
      have hmx : IntKind.i64.max = 9223372036854775807 := rfl
      have hno : ¬ ((n : Int) < 0 ∨ (n : Int) > IntKind.i64.max ∨ (i.bytes : Int) * (n : Int) > 2 ^ 48 - 112) := by rw [h5, hmx]; omega
      simp only [execOp, ho, Instr.makeChan, Sem.run_bind, hp, asInt, asIntOf, Sem.run_pure, Result.andThen_ok, run_under hu, hbr, hno, if_false]
      simp
    · cases hrun
  · cases hrun
theorem close_sound (c : Call) (hc : c.callee = .builtin .close) : OpSound P (.call c) closeK := by
  intro cf _ av s v s' hrun o a w B0 w0 ρ ho hav hr hf
  have hav : VRs ρ av (c.args.toList.map a.eval) := by simpa [Op.operands, Call.operands, hc] using hav
  unfold closeK at hrun
  dsimp only at hrun
  split at hrun
  · rename_i b _
    obtain ⟨q, hq, ⟨B, κ, hρ, rfl⟩⟩ : ∃ q, c.args.toList.map a.eval = [q] ∧ VR ρ (.chan b) q := by
      obtain ⟨v, ws, h1, h2, e⟩ := hav
      cases h2; exact ⟨v, e, h1⟩
    obtain ⟨o', ho', hk⟩ := look_inv hrun
    split at hk
    · rename_i cap buf i j
      cases hk
      obtain ⟨vs, hob, hvs⟩ := hr.or ho' (by simp) hρ
      have hu := Upd.setObj (o' := .chan cap ⟨vs⟩ true i j false) hob
      refine OpTo.value (v := .tuple #[]) (w' := { w with heap := w.heap.setIfInBounds B (.chan cap ⟨vs⟩ true i j false) }) ?_
        ⟨ρ, Ext.refl _ _ _, ⟨[], rfl, rfl⟩, hr.upd ho' (by simp) hρ hu ⟨vs, rfl, hvs⟩ (by simp)⟩
      have hargs : c.args.map a.eval = #[.chan (some B)] := by apply Array.ext'; simpa using hq
      have hcl : ∀ (ts : Array TypeId) (ty : TypeId), Builtin.close_ ts ty #[.chan (some B)] = (do
        let .chan room buf closed sent received timer ← getObj B | stuck "close: no channel in this block"
        if closed then runtimePanic (.plain "close of closed channel")
        setObj B (.chan room buf true sent received timer)
        pure (.tuple #[])) := fun _ _ => rfl
      simp [execOp, ho, resolve, hc, hargs, invoke, builtin, hcl, getObj, setObj, Sem.run, hob]
    · cases hk
  · cases hrun
end
end Go.Ev
namespace Go.Ev
open Go.RowKit (Below)
section
variable {P : Program} {ρ : Env} {B0 : Nat} {w0 w : World}
theorem call_builtin {c : Call} {b : Builtin} {o : Oper} {a : Act} (hc : c.callee = .builtin b) (ho : o.op = .call c) :
    (execOp a.eval o).run P w = (builtin b c.argTypes o.type (c.args.map fun | .const _ => true | _ => false) (c.args.map a.eval)).run P w := by
  simp [execOp, ho, resolve, hc, invoke]
  rfl
theorem args_of {c : Call} {a : Act} {xs : List Value} (h : c.args.toList.map a.eval = xs) : c.args.map a.eval = ⟨xs⟩ := by
  apply Array.ext'; simpa using h
theorem opers_builtin {c : Call} {b : Builtin} (hc : c.callee = .builtin b) : (Op.call c).operands.toList = c.args.toList := by
  simp [Op.operands, Call.operands, hc]
theorem types_of {c : Call} {ty : List Nat} (h : c.argTypes.toList = ty) : c.argTypes = ⟨ty⟩ := by
  apply Array.ext'; simpa using h
theorem lenS_ok {p : AV} {u : Value} {n : Nat} (h : lenS p = some n) (hp : VR ρ p u) : ∃ b c, u = .slice b n c := by
  cases p <;> simp only [lenS] at h <;> try (cases h; done)
  · cases h; cases hp; exact ⟨_, _, rfl⟩
  · cases h; obtain ⟨B, κ, _, rfl, _⟩ := hp; exact ⟨_, _, rfl⟩
  · cases h; obtain ⟨B, κ, _, rfl⟩ := hp; exact ⟨_, _, rfl⟩
theorem MRs.len {ρ : Env} : ∀ {l : List (AV × AV × Nat)} {xs : List MapEntry}, MRs ρ l xs → xs.length = l.length
  | [], _, h => by cases h; rfl
  | (_, _, _) :: l, _, ⟨_, _, _, _, _, h, e⟩ => by subst e; simp [MRs.len h]
theorem len_sound (c : Call) (hc : c.callee = .builtin .len) : OpSound P (.call c) (lenK P c.argTypes.toList) := by
  intro cf _ av s v s' hrun o a w B0 w0 ρ ho hav hr hf
  rw [opers_builtin hc] at hav
  have hcall := call_builtin (P := P) (w := w) (a := a) hc ho
  unfold lenK at hrun
  split at hrun
  · rename_i dt hty
    have hty := types_of hty
    have fin : ∀ {n : Nat} {xs : List Value}, c.args.toList.map a.eval = xs → (Builtin.len_ #[dt] o.type ⟨xs⟩).run P w = .ok (goInt n) w → v = .int .i64 n → s'.h = s.h → OpTo P o a w (Done B0 w0 ρ s v s') := by
      intro n xs h1 h2 h3 h4
      subst h3
      refine OpTo.value (v := goInt n) (w' := w) ?_ (Done.same hr h4 rfl)
      rw [hcall, hty, args_of h1]
      simp only [builtin, Sem.run_bind]
      rw [show (⟨[dt]⟩ : Array Nat) = #[dt] from rfl, h2]
      rfl
    split at hrun
    · rename_i n e hu
      dsimp only at hrun
      split at hrun
      · cases hrun
        obtain ⟨q, ws, hq, hws, he⟩ := hav
        cases hws
        refine fin he ?_ rfl rfl
        simp [Builtin.len_, run_under hu]
      · cases hrun
    · rename_i e hu
      split at hrun
      · rename_i n e' hu'
        dsimp only at hrun
        split at hrun
        · cases hrun
          obtain ⟨q, ws, hq, hws, he⟩ := hav
          cases hws
          refine fin he ?_ rfl rfl
          simp [Builtin.len_, run_under hu, run_under hu']
        · cases hrun
      · cases hrun
    · rename_i hu
      dsimp only at hrun
      split at hrun
      · rename_i l
        cases hrun
        obtain ⟨q, ws, hq, hws, he⟩ := hav
        cases hws; cases hq
        refine fin (n := l.length) he ?_ rfl rfl
        simp [Builtin.len_, run_under hu]
        rfl
      · rename_i l
        cases hrun
        obtain ⟨q, ws, ⟨bs, hbs, rfl⟩, hws, he⟩ := hav
        cases hws
        have hl := VRs.len hbs
        rw [List.length_map] at hl
        refine fin (n := l.length) he ?_ rfl rfl
        simp [Builtin.len_, run_under hu, ← hl]
        rfl
      · cases hrun
    · rename_i e hu
      dsimp only at hrun
      split at hrun
      · rename_i p
        split at hrun
        · rename_i n hn
          cases hrun
          obtain ⟨q, ws, hq, hws, he⟩ := hav
          cases hws
          obtain ⟨b, c', rfl⟩ := lenS_ok hn hq
          refine fin he ?_ rfl rfl
          simp [Builtin.len_, run_under hu]
        · cases hrun
      · cases hrun
    · rename_i k e hu
      dsimp only at hrun
      split at hrun
      · rename_i b
        obtain ⟨q, ws, hq, hws, he⟩ := hav
        cases hws
        obtain ⟨B, κ, hρ, rfl⟩ := hq
        obtain ⟨o', ho', hk⟩ := look_inv hrun
        split at hk
        · rename_i es clk
          cases hk
          obtain ⟨xs, hob, hxs⟩ := hr.or ho' (by simp) hρ
          have hl : xs.length = es.length := MRs.len hxs
          refine fin (n := es.length) he ?_ rfl rfl
          simp [Builtin.len_, run_under hu, getObj, Sem.run, hob, hl]
        · cases hk
      · cases hrun
        obtain ⟨q, ws, hq, hws, he⟩ := hav
        cases hws; cases hq
        refine fin (n := 0) he ?_ rfl rfl
        simp [Builtin.len_, run_under hu]
      · cases hrun
    · cases hrun
  · cases hrun
theorem cap_sound (c : Call) (hc : c.callee = .builtin .cap) : OpSound P (.call c) (capK P c.argTypes.toList) := by
  intro cf _ av s v s' hrun o a w B0 w0 ρ ho hav hr hf
  rw [opers_builtin hc] at hav
  have hcall := call_builtin (P := P) (w := w) (a := a) hc ho
  unfold capK at hrun
  split at hrun
  · rename_i dt hty
    have hty := types_of hty
    have fin : ∀ {n : Nat} {xs : List Value}, c.args.toList.map a.eval = xs → (Builtin.cap_ #[dt] o.type ⟨xs⟩).run P w = .ok (goInt n) w → v = .int .i64 n → s'.h = s.h → OpTo P o a w (Done B0 w0 ρ s v s') := by
      intro n xs h1 h2 h3 h4
      subst h3
      refine OpTo.value (v := goInt n) (w' := w) ?_ (Done.same hr h4 rfl)
      rw [hcall, hty, args_of h1]
      simp only [builtin, Sem.run_bind]
      rw [show (⟨[dt]⟩ : Array Nat) = #[dt] from rfl, h2]
      rfl
    split at hrun
    · rename_i e hu
      dsimp only at hrun
      split at hrun
      · rename_i n
        cases hrun
        obtain ⟨q, ws, ⟨B, κ, _, rfl, _⟩, hws, he⟩ := hav
        cases hws
        refine fin he ?_ rfl rfl
        simp [Builtin.cap_, run_under hu]
      · cases hrun
        obtain ⟨q, ws, hq, hws, he⟩ := hav
        cases hws; cases hq
        refine fin (n := 0) he ?_ rfl rfl
        simp [Builtin.cap_, run_under hu]
      · cases hrun
    · cases hrun
  · cases hrun
theorem mm_max : ∀ (l : List AV) (vs : List Value) (k : IntKind) (n : Int) (v : AV), mmA true k l n = some v → VRs ρ l vs → ∃ u, (vs.foldlM Builtin.max2 (.int k n) : Sem Value).run P w = .ok u w ∧ VR ρ v u
  | [], vs, k, n, v, h, hv => by cases h; cases hv; exact ⟨_, rfl, rfl⟩
  | x :: l, vs, k, n, v, h, hv => by
    obtain ⟨u, us, hu, hus, rfl⟩ := hv
    cases x <;> try (cases h; done)
    rename_i k' m
    cases hu
    simp only [mmA, cond_true] at h
    obtain ⟨u, h1, h2⟩ := mm_max l us k _ v h hus
    refine ⟨u, ?_, h2⟩
    simp only [List.foldlM_cons, Sem.run_bind, Builtin.max2, Sem.run_pure, Result.andThen_ok]
    exact h1
theorem mm_min : ∀ (l : List AV) (vs : List Value) (k : IntKind) (n : Int) (v : AV), mmA false k l n = some v → VRs ρ l vs → ∃ u, (vs.foldlM Builtin.min2 (.int k n) : Sem Value).run P w = .ok u w ∧ VR ρ v u
  | [], vs, k, n, v, h, hv => by cases h; cases hv; exact ⟨_, rfl, rfl⟩
  | x :: l, vs, k, n, v, h, hv => by
    obtain ⟨u, us, hu, hus, rfl⟩ := hv
    cases x <;> try (cases h; done)
    rename_i k' m
    cases hu
    simp only [mmA, cond_false] at h
    obtain ⟨u, h1, h2⟩ := mm_min l us k _ v h hus
    refine ⟨u, ?_, h2⟩
    simp only [List.foldlM_cons, Sem.run_bind, Builtin.min2, Sem.run_pure, Result.andThen_ok]
    exact h1
theorem mmL_ok {mx : Bool} {av : List AV} {vs : List Value} {v : AV} (h : mmL mx av = some v) (hav : VRs ρ av vs) : ∃ u u' us, vs = u :: us ∧ (us.foldlM (cond mx Builtin.max2 Builtin.min2) u : Sem Value).run P w = .ok u' w ∧ VR ρ v u' := by
  unfold mmL at h
  split at h
  · rename_i x y
    obtain ⟨u, us, hu, hus, rfl⟩ := hav
    obtain ⟨u2, us2, hu2, hus2, rfl⟩ := hus
    cases hus2
    split at h
    · rename_i k l k' m hl hm
      cases hb : Nat.beq l.length 0 with
      | true => rw [hb] at h; cases h
      | false =>
        rw [hb] at h
        cases h
        have hne : l ≠ [] := by rintro rfl; cases hb
        obtain ⟨B, κ, n, n', hρ, h1, rfl, h2, rfl⟩ := lane_at hu hu2 hl hm hne
        refine ⟨_, .int k (mm1 mx n n'), _, rfl, ?_, packI_ok hρ (by rw [List.getElem?_zipWith, h1, h2])⟩
        cases mx <;> simp only [List.foldlM_cons, List.foldlM_nil, Sem.run_bind, cond_true, cond_false, Builtin.max2, Builtin.min2, Sem.run_pure, Result.andThen_ok, mm1]
    · cases h
  · cases h
theorem max_sound (c : Call) (hc : c.callee = .builtin .max) : OpSound P (.call c) (mmK true) := by
  intro cf _ av s v s' hrun o a w B0 w0 ρ ho hav hr hf
  rw [opers_builtin hc] at hav
  have hcall := call_builtin (P := P) (w := w) (a := a) hc ho
  unfold mmK at hrun
  dsimp only at hrun
  have lanes : mmL true av = some v → s' = s → OpTo P o a w (Done B0 w0 ρ s v s') := by
    intro h hs
    subst hs
    obtain ⟨u, u', us, he, h1, h2⟩ := mmL_ok (P := P) (w := w) h hav
    refine OpTo.value (v := u') (w' := w) ?_ (Done.same hr rfl h2)
    rw [hcall, args_of he]
    simp only [cond_true] at h1
    simp only [builtin, Sem.run_bind, Builtin.max_]
    rw [h1]; rfl
  cases hv : mmV true av with
  | none => rw [hv] at hrun; cases hrun
  | some v1 =>
    rw [hv] at hrun
    cases hrun
    unfold mmV at hv
    split at hv
    · rename_i k n l
      cases hm : mmA true k l n with
      | none => rw [hm] at hv; exact lanes hv rfl
      | some v1 =>
        rw [hm] at hv
        cases hv
        obtain ⟨q, ws, hq, hws, he⟩ := hav
        cases hq
        obtain ⟨u, h1, h2⟩ := mm_max (P := P) (w := w) l ws k n _ hm hws
        refine OpTo.value (v := u) (w' := w) ?_ (Done.same hr rfl h2)
        rw [hcall, args_of he]
        simp only [builtin, Sem.run_bind, Builtin.max_]
        rw [h1]; rfl
    · exact lanes hv rfl
theorem min_sound (c : Call) (hc : c.callee = .builtin .min) : OpSound P (.call c) (mmK false) := by
  intro cf _ av s v s' hrun o a w B0 w0 ρ ho hav hr hf
  rw [opers_builtin hc] at hav
  have hcall := call_builtin (P := P) (w := w) (a := a) hc ho
  unfold mmK at hrun
  dsimp only at hrun
  have lanes : mmL false av = some v → s' = s → OpTo P o a w (Done B0 w0 ρ s v s') := by
    intro h hs
    subst hs
    obtain ⟨u, u', us, he, h1, h2⟩ := mmL_ok (P := P) (w := w) h hav
    refine OpTo.value (v := u') (w' := w) ?_ (Done.same hr rfl h2)
    rw [hcall, args_of he]
    simp only [cond_false] at h1
    simp only [builtin, Sem.run_bind, Builtin.min_]
    rw [h1]; rfl
  cases hv : mmV false av with
  | none => rw [hv] at hrun; cases hrun
  | some v1 =>
    rw [hv] at hrun
    cases hrun
    unfold mmV at hv
    split at hv
    · rename_i k n l
      cases hm : mmA false k l n with
      | none => rw [hm] at hv; exact lanes hv rfl
      | some v1 =>
        rw [hm] at hv
        cases hv
        obtain ⟨q, ws, hq, hws, he⟩ := hav
        cases hq
        obtain ⟨u, h1, h2⟩ := mm_min (P := P) (w := w) l ws k n _ hm hws
        refine OpTo.value (v := u) (w' := w) ?_ (Done.same hr rfl h2)
        rw [hcall, args_of he]
        simp only [builtin, Sem.run_bind, Builtin.min_]
        rw [h1]; rfl
    · exact lanes hv rfl
/-- The first cells of a slice, or of a text. -/
theorem firstN_ok {α : Type} {s s' : S} {size n m : Nat} {p : AV} {u : Value} {k : List AV → S → Rs α} {v : α} (h : s.firstN size n p k = .ok v s') (hr : Rel B0 w0 ρ s.h w) (hp : VR ρ p u) (hm : lenA p = some m) (hnm : n ≤ m) :
    ∃ l s1 vs, k l s1 = .ok v s' ∧ s1.h = s.h ∧ s1.n = s.n ∧ VRs ρ l vs ∧ (∀ W : World, (∀ b : Nat, W.heap[b]? = w.heap[b]?) → (Builtin.firstCells size n u).run P W = .ok ⟨vs⟩ W) ∧ (Builtin.lenOf u).run P w = .ok m w ∧ (∀ s, p = .str s → l.length = n ∧ vs.length = n) ∧ ((∀ s, p ≠ .str s) → vs.length = n * size) := by
  unfold S.firstN at h
  cases p <;> try (cases h; done)
  case str l =>
    cases hm; cases hp
    refine ⟨_, s, (l.take n).map (fun b => .int .u8 (b.toNat : Int)), h, rfl, rfl, ?_, ?_, rfl, ?_, fun e => absurd rfl (e l)⟩
    · induction (l.take n) with
      | nil => rfl
      | cons b r ih => exact ⟨_, _, rfl, ih, rfl⟩
    · intro W _
      simp only [Builtin.firstCells, Sem.run_pure]
      congr 1
      apply Array.ext'
      simp [ByteArray.data_extract, List.extract_eq_take_drop]
    · intro _ _
      simp; omega
  case nils =>
    cases hm; cases hp
    obtain rfl : n = 0 := by omega
    refine ⟨[], s, [], h, rfl, rfl, rfl, fun W _ => by simp [Builtin.firstCells], rfl, by simp, by simp⟩
  case slz b o0 of d =>
    cases hm
    obtain rfl : n = 0 := by omega
    obtain ⟨B, κ, hρ, rfl⟩ := hp
    refine ⟨[], s, [], h, rfl, rfl, rfl, fun W _ => ?_, rfl, by simp, by simp⟩
    simp [Builtin.firstCells, loadCells, loadCellsFrom]
  case slc b off len opn c =>
    cases hm
    obtain ⟨B, κ, hρ, rfl, _⟩ := hp
    obtain ⟨cs, op, l, hb, hl, hk⟩ := loadN_inv h
    obtain ⟨vs, hvs, hlen, _, hcell⟩ := load_cells (P := P) (hr.row hb hρ) hl
    refine ⟨l, _, vs, hk, rfl, rfl, hvs, fun W hW => ?_, rfl, by simp, fun _ => hlen⟩
    have hW' : OR ρ κ (.row cs op) W.heap[B]? := by rw [hW]; exact hr.row hb hρ
    simp only [Builtin.firstCells]
    have := run_loadCells_list (P := P) W ⟨B, off, none⟩ vs (fun j v hj => by
      rw [addr_add]
      have := hcell j v hj
      unfold World.cell? at this ⊢
      rw [hW]; exact this)
    rw [hlen] at this
    exact this
theorem clear_sound (c : Call) (hc : c.callee = .builtin .clear) : OpSound P (.call c) (clearK P c.argTypes.toList) := by
  intro cf _ av s v s' hrun o a w B0 w0 ρ ho hav hr hf
  rw [opers_builtin hc] at hav
  have hcall := call_builtin (P := P) (w := w) (a := a) hc ho
  unfold clearK at hrun
  split at hrun
  · rename_i dt hty
    have hty := types_of hty
    split at hrun
    · rename_i e hu
      split at hrun
      · rename_i z hz
        cases hte : tyOk P e with
        | false => simp only [hte, Bool.not_false, cond_true] at hrun; cases hrun
        | true =>
        simp only [hte, Bool.not_true, cond_false] at hrun
        have nothing : ∀ {b : Option Addr} {n cp : Nat}, c.args.toList.map a.eval = [.slice b n cp] → (b = none ∨ n = 0) → v = undefA → s'.h = s.h → OpTo P o a w (Done B0 w0 ρ s v s') := by
          intro b n cp h1 h2 h3 h4
          subst h3
          refine OpTo.value (v := .tuple #[]) (w' := w) ?_ (Done.same hr h4 ⟨[], rfl, rfl⟩)
          rw [hcall, hty, args_of h1]
          rcases h2 with rfl | rfl
          · simp [builtin, Builtin.clear_, run_under hu]
          · cases b <;> simp [builtin, Builtin.clear_, run_under hu]
        split at hrun
        · rename_i b off n opn cp
          obtain ⟨q, ws, ⟨B, κ, hρ, rfl, _⟩, hws, he⟩ := hav
          cases hws
          cases hn : Nat.beq n 0 with
          | true =>
            rw [hn] at hrun
            cases hrun
            exact nothing he (.inr (Nat.eq_of_beq_eq_true hn)) rfl rfl
          | false =>
            rw [hn] at hrun
            have hn0 : n ≠ 0 := fun e => by subst e; cases hn
            obtain ⟨cs, op, c', o', hpl, hb, hpt, hc', hk⟩ := storeN_inv hrun
            cases hk
            obtain ⟨zv, hzr, hzv⟩ := run_zero (P := P) (w := w) hz
            have hzs := VRs.replicate (vr_cells (hzv ρ)) n
            obtain ⟨w', ob, hst, hup, hor⟩ := store_row (P := P) (hr.row hb hρ) hpt hpl hzs
            refine OpTo.value (v := .tuple #[]) (w' := w') ?_ ⟨ρ, Ext.refl _ _ _, ⟨[], rfl, rfl⟩, hr.updL hb hρ hup hor hc'⟩
            rw [hcall, hty, args_of he]
            have hzc : (Builtin.zeroCells zv.cells n).toList = (List.replicate n zv.cells.toList).flatten := by
              rw [Builtin.zeroCells, zeros_arr]
            obtain ⟨m, rfl⟩ : ∃ m, n = m + 1 := ⟨n - 1, by omega⟩
            simp [builtin, Builtin.clear_, run_under hu, hzr, hzc, hst]
        · obtain ⟨q, ws, ⟨B, κ, hρ, rfl⟩, hws, he⟩ := hav
          cases hws; cases hrun
          exact nothing he (.inr rfl) rfl rfl
        · obtain ⟨q, ws, hq, hws, he⟩ := hav
          cases hws; cases hq; cases hrun
          exact nothing he (.inl rfl) rfl rfl
        · cases hrun
      · cases hrun
    · cases hrun
  · cases hrun
end
end Go.Ev
namespace Go.Ev
open Go.RowKit (Below)
section
variable {P : Program} {ρ : Env} {B0 : Nat} {w0 w : World}
theorem lenA_lenOf {p : AV} {u : Value} {n : Nat} (h : lenA p = some n) (hp : VR ρ p u) : (Builtin.lenOf u).run P w = .ok n w := by
  cases p <;> simp only [lenA] at h <;> try (cases h; done)
  · cases h; cases hp; rfl
  · cases h; cases hp; rfl
  · cases h; obtain ⟨B, κ, _, rfl, _⟩ := hp; rfl
  · cases h; obtain ⟨B, κ, _, rfl⟩ := hp; rfl
theorem copy_sound (c : Call) (hc : c.callee = .builtin .copy) : OpSound P (.call c) (copyK P c.argTypes.toList) := by
  intro cf _ av s v s' hrun o a w B0 w0 ρ ho hav hr hf
  rw [opers_builtin hc] at hav
  have hcall := call_builtin (P := P) (w := w) (a := a) hc ho
  unfold copyK at hrun
  split at hrun
  · rename_i dt more hty
    have hty := types_of hty
    split at hrun
    · rename_i e hu
      cases hte : tyOk P e with
      | false => simp only [hte, Bool.not_false, cond_true] at hrun; cases hrun
      | true =>
      simp only [hte, Bool.not_true, cond_false] at hrun
      split at hrun
      · rename_i d x
        obtain ⟨u1, ws, hd, ⟨u2, ws', hx, hws, e2⟩, he⟩ := hav
        cases hws; subst e2
        split at hrun
        · rename_i m n hm hn
          obtain ⟨l, s1, vs, hk, hs1, hn1, hvs, hld, hlo, hl1, hl2⟩ := firstN_ok (P := P) hrun hr hx hn (Nat.min_le_left n m)
          have hld := hld w fun _ => rfl
          have hat : c.argTypes[0]? = some dt := by rw [hty]; rfl
          have hargs := args_of he
          have e0 : (⟨[u1, u2]⟩ : Array Value)[0]? = some u1 := rfl
          have e1 : (⟨[u1, u2]⟩ : Array Value)[1]? = some u2 := rfl
          split at hk
          · rename_i b off len opn cp
            obtain rfl : len = m := by simpa [lenS] using hm
            obtain ⟨B, κ, hρ, rfl, _⟩ := hd
            obtain ⟨cs, op, c', o', hpl, hb, hpt, hc', hk⟩ := storeN_inv hk
            cases hk
            rw [hs1] at hb
            obtain ⟨w', ob, hst, hup, hor⟩ := store_row (P := P) (hr.row hb hρ) hpt hpl hvs
            refine OpTo.value (v := goInt (Nat.min n len : Nat)) (w' := w') ?_ ⟨ρ, Ext.refl _ _ _, rfl, by simpa [S.put, hs1] using hr.updL hb hρ hup hor hc'⟩
            rw [hcall, hargs]
            simp only [builtin, Builtin.copy_, hat, e0, e1, Sem.run_bind, run_under hu, Result.andThen_ok, hlo, run_size hte, hld, hst]
            rfl
          · cases hmn : Nat.beq (Nat.min n m) 0 with
            | false => rw [hmn] at hk; cases hk
            | true =>
              rw [hmn] at hk
              cases hk
              have h0 := Nat.eq_of_beq_eq_true hmn
              have hd' := lenS_ok hm hd
              obtain ⟨bb, cp, rfl⟩ := hd'
              have hvs0 : vs = [] := by
                have : vs.length = 0 := by
                  by_cases hst : ∃ s, x = .str s
                  · obtain ⟨s, rfl⟩ := hst
                    rw [(hl1 s rfl).2, h0]
                  · rw [hl2 (fun s e => hst ⟨s, e⟩), h0, Nat.zero_mul]
                exact List.length_eq_zero_iff.1 this
              subst hvs0
              refine OpTo.value (v := goInt (Nat.min n m : Nat)) (w' := w) ?_ (Done.same hr hs1 (by rw [h0]; rfl))
              rw [hcall, hargs]
              simp only [builtin, Builtin.copy_, hat, e0, e1, Sem.run_bind, run_under hu, Result.andThen_ok, hlo, run_size hte, hld]
              cases bb <;> rfl
        · cases hrun
      · cases hrun
    · cases hrun
  · cases hrun
end
end Go.Ev
namespace Go.Ev
open Go.RowKit (Below)
section
variable {P : Program} {ρ : Env} {B0 : Nat} {w0 w : World}
theorem run_append_fit {ts : Array Nat} {ty st e n len cap : Nat} {args : Array Value} {base : Option Addr} {x : Value} {vs : List Value} {w' : World} (hat : ts[0]? = some st) (h0 : args[0]? = some (.slice base len cap)) (h1 : args[1]? = some x)
    (hu : P.underlying st = some (.slice e)) (hte : tyOk P e = true) (hz : ts[1]? = none ∨ ∃ xt d, ts[1]? = some xt ∧ P.underlying xt = some d ∧ ∀ k, d ≠ .int k)
    (hn : (Builtin.lenOf x).run P w = .ok n w) (hfit : len + n ≤ cap) (hld : (Builtin.firstCells (sizeT P e) n x).run P w = .ok ⟨vs⟩ w)
    (hst : ∃ ad, base = some ad ∧ (storeCells (ad.add (len * sizeT P e)) vs).run P w = .ok () w') : (Builtin.append_ ts ty args).run P w = .ok (.slice base (len + n) cap) w' := by
  obtain ⟨ad, rfl, hst⟩ := hst
  rcases hz with hz | ⟨xt, d, hz, hud, hnk⟩
  · simp only [Builtin.append_, hat, h0, h1, hz, Sem.run_bind, run_under hu, Result.andThen_ok, run_size hte, Sem.run_pure, Bool.false_eq_true, if_false, hn, hfit, if_true, Bool.not_false, hld, hst]
  · cases d <;> first
      | (exact absurd rfl (hnk _))
      | simp only [Builtin.append_, hat, h0, h1, hz, hud, run_under hud, Sem.run_bind, run_under hu, Result.andThen_ok, run_size hte, Sem.run_pure, Bool.false_eq_true, if_false, hn, hfit, if_true, Bool.not_false, hld, hst]
theorem run_choose {q : Question} (hq : q.forced = false) : (choose q).run P w = .ok (q.cut (w.tape w.drawn q)) w.drew := by
  simp only [choose, Sem.run, hq, Bool.false_eq_true, if_false]
  rfl
theorem run_room (k : Nat) : (askRoom k).run P w = .ok () w := by unfold askRoom; split <;> rfl
theorem run_append_new {ts : Array Nat} {ty st e n len cap : Nat} {args : Array Value} {base : Option Addr} {x : Value} {olds vs : List Value} {zv : Value} (hat : ts[0]? = some st) (h0 : args[0]? = some (.slice base len cap)) (h1 : args[1]? = some x)
    (hu : P.underlying st = some (.slice e)) (hte : tyOk P e = true) (hby : bytesT P e ≤ 10000) (hzr : ∀ W, (zeroValue e).run P W = .ok zv W) (hz : ts[1]? = none ∨ ∃ xt d, ts[1]? = some xt ∧ P.underlying xt = some d ∧ ∀ k, d ≠ .int k)
    (hn : (Builtin.lenOf x).run P w = .ok n w) (hfit : ¬ len + n ≤ cap) (hsm : len + n ≤ 1000000) (hold : ∀ W : World, (∀ b : Nat, W.heap[b]? = w.heap[b]?) → (Builtin.firstCells (sizeT P e) len (.slice base len cap)).run P W = .ok ⟨olds⟩ W)
    (hld : ∀ W : World, (∀ b : Nat, W.heap[b]? = w.heap[b]?) → (Builtin.firstCells (sizeT P e) n x).run P W = .ok ⟨vs⟩ W) :
    ∃ newCap rest, len + n ≤ newCap ∧ rest.length = (newCap - (len + n)) * zv.cells.size ∧
      (Builtin.append_ ts ty args).run P w = .ok (.slice (some ⟨w.heap.size, 0, none⟩) (len + n) newCap) (w.drew.alloc (.cells ⟨olds ++ vs ++ rest⟩ e)) := by
  obtain ⟨i, hi⟩ := info_of_tyOk hte
  have hib : i.bytes = bytesT P e := by simp [bytesT, hi]
  have hti : ∀ W : World, (typeInfo e).run P W = .ok i W := fun W => run_info hi
  have hmx : IntKind.i64.max = 9223372036854775807 := rfl
  have hmul : (len + n) * i.bytes ≤ 1000000 * 10000 := Nat.mul_le_mul hsm (by omega)
  have hg := growslice_fits (need := len + n) (old := cap) (bytes := i.bytes) (by omega) (by omega)
  have h48 : (2 : Nat) ^ 48 = 281474976710656 := rfl
  have no1 : ¬ (((len + n : Nat) : Int) > IntKind.i64.max ∧ (False ∨ i.bytes = 0)) := by rw [hmx]; omega
  have no2 : ¬ (Builtin.nextslicecap (len + n) cap * i.bytes > 2 ^ 48) := by rw [h48]; omega
  have hq : (Question.appendCap (len + n) cap e).forced = false := rfl
  have hnc : len + n ≤ (Question.appendCap (len + n) cap e).cut (w.tape w.drawn (.appendCap (len + n) cap e)) := by
    show len + n ≤ len + n + _ % _
    omega
  generalize hNC : (Question.appendCap (len + n) cap e).cut (w.tape w.drawn (.appendCap (len + n) cap e)) = newCap at hnc
  have hsame : ∀ b : Nat, w.drew.heap[b]? = w.heap[b]? := fun _ => rfl
  refine ⟨newCap, (Builtin.zeroCells zv.cells (newCap - (len + n))).toList, hnc, by simp [Builtin.zeroCells], ?_⟩
  have cat : (⟨olds⟩ : Array Value) ++ ⟨vs⟩ ++ Builtin.zeroCells zv.cells (newCap - (len + n)) = ⟨olds ++ vs ++ (Builtin.zeroCells zv.cells (newCap - (len + n))).toList⟩ := by
    apply Array.ext'; simp
  rcases hz with hz | ⟨xt, d, hz, hud, hnk⟩
  · simp only [Builtin.append_, hat, h0, h1, hz, Sem.run_bind, run_under hu, Result.andThen_ok, run_size hte, Sem.run_pure, Bool.false_eq_true, if_false, hn, hfit, hti, no1, no2, run_choose hq, hNC, run_room, hold _ hsame, hld _ hsame, Bool.not_false, if_true, hzr, newRow, run_newObj, cat]
    rfl
  · cases d <;> first
      | (exact absurd rfl (hnk _))
      | (simp only [Builtin.append_, hat, h0, h1, hz, run_under hud, Sem.run_bind, run_under hu, Result.andThen_ok, run_size hte, Sem.run_pure, Bool.false_eq_true, if_false, hn, hfit, hti, no1, no2, run_choose hq, hNC, run_room, hold _ hsame, hld _ hsame, Bool.not_false, if_true, hzr, newRow, run_newObj, cat]
         rfl)
end
end Go.Ev
namespace Go.Ev
open Go.RowKit (Below)
section
variable {P : Program} {ρ : Env} {B0 : Nat} {w0 w : World}
/-- What is appended: the cells vs. -/
def Src (ρ : Env) (h : Tr AO) (new : S → (List AV → S → RV) → RV) (vs : List Value) : Prop :=
  ∀ s k v s', s.h = h → new s k = .ok v s' → ∃ l s1, k l s1 = .ok v s' ∧ s1.h = h ∧ s1.n = s.n ∧ VRs ρ l vs
/-- How the model's append runs. -/
structure App (P : Program) (w : World) (e : Nat) (base : Option Addr) (len cap n : Nat) (vs : List Value) (zc : Nat) (run : Result Value) : Prop where
  fit : len + n ≤ cap → ∀ ad w', base = some ad → (storeCells (ad.add (len * sizeT P e)) vs).run P w = .ok () w' → run = .ok (.slice base (len + n) cap) w'
  nil : len + n ≤ cap → base = Option.none → run = .ok (.slice Option.none (len + n) cap) w
  grow : ¬ len + n ≤ cap → len + n ≤ 1000000 → ∀ olds : List Value, (∀ W : World, (∀ b : Nat, W.heap[b]? = w.heap[b]?) → (Builtin.firstCells (sizeT P e) len (.slice base len cap)).run P W = .ok ⟨olds⟩ W) →
    ∃ newCap rest, len + n ≤ newCap ∧ rest.length = (newCap - (len + n)) * zc ∧ run = .ok (.slice (some ⟨w.heap.size, 0, none⟩) (len + n) newCap) (w.drew.alloc (.cells ⟨olds ++ vs ++ rest⟩ e))
/-- A new row, behind which there may be more. -/
theorem Done.grown {s s' : S} {m newCap size e : Nat} {l : List AV} {us rest : List Value} {h1 : Tr AO} (hr : Rel B0 w0 ρ h1 w) (hf : Fresh ρ s.n s'.n) (hn : s'.n = s.n + 1) (hh : s'.h = h1.set s.n (.row l (size + 1)))
    (hv : VRs ρ l us) (hl : us.length = m * size) (hm : m ≤ newCap) (hrest : rest.length = (newCap - m) * size) :
    Done B0 w0 ρ s (.slc s.n 0 m true 0) s' (.slice (some ⟨w.heap.size, 0, none⟩) m newCap) (w.drew.alloc (.cells ⟨us ++ rest⟩ e)) := by
  have hid : ρ s.n = none := hf s.n (Nat.le_refl _) (by omega)
  have hor : OR ρ newCap (.row l (size + 1)) (some (.cells ⟨us ++ rest⟩ e)) := by
    refine ⟨⟨us ++ rest⟩, e, (0, 0), us, rest, rfl, fun i _ h => by omega, rfl, hv, ?_⟩
    show (us ++ rest).length = newCap * size
    rw [List.length_append, hl, hrest, ← Nat.add_mul]
    congr 1
    omega
  exact ⟨ρ.add s.n w.heap.size newCap, Ext.add hid (Nat.le_refl _) (by omega), ⟨_, _, Env.add_at _ _ _ _, by simp, fun _ => by omega⟩, by rw [hh]; exact hr.drew.new hid hor⟩
theorem Rel.reborn {h : Tr AO} {b id B κ : Nat} {o o' : AO} {ob : Obj} {w' : World} (r : Rel B0 w0 ρ h w) (hb : h.get b = some o) (hl : o ≠ .dead) (hρ : ρ b = some (B, κ)) (hid : ρ id = none) (u : Upd w w' B ob) (ho : OR (ρ.add id B κ) κ o' (some ob)) :
    Rel B0 w0 (ρ.add id B κ) ((h.set b .dead).set id o') w' := by
  obtain ⟨B', κ', e, hB, hlt, _⟩ := r.obj b o hb hl
  rw [hρ] at e; cases e
  refine (r.dead (id := b)).ext hid (below_upd r.bel u hB) (by rw [u.size]; exact Nat.le_refl _) (fun k _ hk => u.other k hk) hB (by rw [u.size]; exact hlt) (by rw [u.at_]; exact ho) ?_
  intro i p κ' hp hpd e
  rw [Tr.get_set] at hp
  by_cases hi : i = b
  · rw [if_pos hi] at hp; cases hp; exact hpd rfl
  · rw [if_neg hi] at hp
    exact hi (r.inj i b p o B κ' κ hp hpd hb hl e hρ)
theorem appendA_ok {size e n len cap zc : Nat} {x : AV} {base : Option Addr} {new : S → (List AV → S → RV) → RV} {vs : List Value} {run : Result Value} {s s' : S} {v : AV} {o : Oper} {a : Act} (hsz : sizeT P e = size) (hs1 : 1 ≤ size) (hzc : zc = size)
    (hrun : appendA size x n new s = .ok v s') (hr : Rel B0 w0 ρ s.h w) (hf : Fresh ρ s.n s'.n) (hx : VR ρ x (.slice base len cap)) (hsrc : Src ρ s.h new vs) (hvl : vs.length = n * size) (app : App P w e base len cap n vs zc run)
    (hex : (execOp a.eval o).run P w = run.andThen fun v w' => .ok (.value v) w') : OpTo P o a w (Done B0 w0 ρ s v s') := by
  subst hsz; subst hzc
  have fin : ∀ {u w'}, run = .ok u w' → Done B0 w0 ρ s v s' u w' → OpTo P o a w (Done B0 w0 ρ s v s') := by
    intro u w' h1 h2
    refine OpTo.value (v := u) (w' := w') ?_ h2
    rw [hex, h1]; rfl
  unfold appendA at hrun
  cases hlong : longA x n with
  | false => rw [hlong] at hrun; cases hrun
  | true =>
  rw [hlong] at hrun
  simp only [cond_true] at hrun
  split at hrun
  · -- nil
    cases hx
    cases hn : Nat.beq n 0 with
    | true =>
      rw [hn] at hrun
      cases hrun
      obtain rfl := Nat.eq_of_beq_eq_true hn
      exact fin (app.nil (by omega) rfl) (Done.same hr rfl rfl)
    | false =>
      rw [hn] at hrun
      have hn0 : n ≠ 0 := fun e => by subst e; cases hn
      simp only [cond_false] at hrun
      obtain ⟨l, s1, hk, hh, hnn, hvs⟩ := hsrc s _ _ _ rfl hrun
      cases hk
      obtain ⟨newCap, rest, h1, h2, h3⟩ := app.grow (by omega) (by have := Nat.le_of_ble_eq_true hlong; omega) [] fun W _ => by simp [Builtin.firstCells]
      simp only [List.nil_append] at h3
      rw [hnn] at hf fin ⊢
      refine fin h3 ?_
      have := Done.grown (s := s) (s' := { h := s1.h.set s.n (.row l (sizeT P e + 1)), n := s.n + 1, r := s1.r, w := s1.w }) (m := n) (size := sizeT P e) (e := e) (rest := rest) (newCap := newCap) hr hf rfl (by rw [hh]) hvs hvl (by omega) (by simpa using h2)
      simpa using this
  · -- a slice
    rename_i b off len' opn c
    obtain ⟨B, κ, hρ, hv1, hcap⟩ := hx
    cases hv1
    have hlen1 : len + n ≤ 1000000 := Nat.le_of_ble_eq_true hlong
    cases opn with
    | true =>
      have hcap := hcap rfl
      simp only [cond_true] at hrun app
      obtain ⟨o', ho', hk⟩ := look_inv hrun
      split at hk
      · rename_i cs op
        cases hc1 : (Nat.beq op (sizeT P e + 1) && Nat.beq off (c * sizeT P e)) with
        | false => rw [hc1] at hk; cases hk
        | true =>
        rw [hc1] at hk
        simp only [cond_true] at hk
        simp only [Bool.and_eq_true] at hc1
        obtain rfl := Nat.eq_of_beq_eq_true hc1.1
        have hoff := Nat.eq_of_beq_eq_true hc1.2
        have hor := hr.row ⟨_, ho', rfl⟩ hρ
        have hor' := hor
        obtain ⟨cells, et, fr, us, rest0, hob, hfr, hcl, hus, hsize⟩ := hor'
        have hsize : cells.size = κ * sizeT P e := hsize
        have hcsl : cs.length ≤ κ * sizeT P e := by
          rw [← hsize, ← Array.length_toList, hcl, List.length_append, VRs.len hus]; omega
        cases hfit : Nat.ble (off + (len + n) * sizeT P e) cs.length with
        | true =>
          rw [hfit] at hk
          simp only [cond_true] at hk
          have hfit := Nat.le_of_ble_eq_true hfit
          have hle : c + (len + n) ≤ κ := by
            have : (c + (len + n)) * sizeT P e ≤ κ * sizeT P e := by rw [Nat.add_mul]; omega
            exact Nat.le_of_mul_le_mul_right this (by omega)
          obtain ⟨l, s1, hk, hh, hnn, hvs⟩ := hsrc { s with r := b :: s.r } _ _ _ rfl hk
          obtain ⟨cs2, op2, c', o2, hpl, hb, hpt, hc', hk⟩ := storeN_inv hk
          cases hk
          obtain ⟨q, hb, hq⟩ := hb
          rw [hh, ho'] at hb
          cases hb; cases hq
          obtain ⟨w', ob, hst, hup, hor2⟩ := store_row (P := P) hor hpt hpl hvs
          refine fin (app.fit (by omega) ⟨B, off, none⟩ w' rfl (by rw [addr_add]; exact hst)) ?_
          refine ⟨ρ, Ext.refl _ _ _, ⟨B, κ, hρ, by simp, fun _ => by omega⟩, ?_⟩
          have := hr.updL ⟨_, ho', rfl⟩ hρ hup hor2 hc'
          simpa [S.put, hh] using this
        | false =>
          rw [hfit] at hk
          simp only [cond_false] at hk
          cases h0 : (Nat.beq off 0 && Nat.beq c 0) with
          | false => rw [h0] at hk; cases hk
          | true =>
          rw [h0] at hk
          simp only [cond_true] at hk
          simp only [Bool.and_eq_true] at h0
          obtain rfl := Nat.eq_of_beq_eq_true h0.1
          obtain rfl := Nat.eq_of_beq_eq_true h0.2
          obtain ⟨l, s1, hk, hh, hnn, hvs⟩ := hsrc { s with r := b :: s.r } _ _ _ rfl hk
          cases hpl : l.all AV.plain with
          | false => rw [hpl] at hk; cases hk
          | true =>
          rw [hpl] at hk
          simp only [cond_true] at hk
          obtain ⟨cs2, op2, old, hb, ht, hk⟩ := loadN_inv hk
          obtain ⟨q, hb, hq⟩ := hb
          rw [hh, ho'] at hb
          cases hb; cases hq
          cases hk
          obtain ⟨ol, hol, holl, _, hcell⟩ := load_cells (P := P) hor ht
          have hold : ∀ W : World, (∀ b : Nat, W.heap[b]? = w.heap[b]?) → (Builtin.firstCells (sizeT P e) len (.slice (some ⟨B, 0, none⟩) len (κ - 0))).run P W = .ok ⟨ol⟩ W := by
            intro W hW
            simp only [Builtin.firstCells]
            have := run_loadCells_list (P := P) W ⟨B, 0, none⟩ ol (fun j v hj => by
              rw [addr_add]
              have := hcell j v hj
              unfold World.cell? at this ⊢
              rw [hW]; exact this)
            rw [holl] at this
            exact this
          simp only [S.new, S.put, hnn] at hf fin ⊢
          by_cases hle : len + n ≤ κ - 0
          · -- in place: another number for the same block
            have hlen2 : 0 + len * sizeT P e + vs.length ≤ cells.size := by
              rw [hvl, hsize, Nat.zero_add, ← Nat.add_mul]; exact Nat.mul_le_mul_right _ (by omega)
            have hst := store_cells (P := P) B (len * sizeT P e) et fr vs 0 cells w hob hfr (by omega) (plains_oneCell hpl hvs)
            refine fin (app.fit hle ⟨B, 0, none⟩ _ rfl (by rw [addr_add, Nat.zero_add]; exact hst)) ?_
            have hid : ρ s.n = none := hf s.n (Nat.le_refl _) (by simp)
            obtain ⟨hold2, holdn⟩ := takeN_eq _ _ _ ht
            simp only [List.drop_zero] at hold2 holdn
            have hrel := hr.reborn (o' := .row (old ++ l) (sizeT P e + 1)) ho' (by simp) hρ hid (Upd.setRow hob (cs' := (cells.toList.take (len * sizeT P e + 0) ++ vs ++ cells.toList.drop (len * sizeT P e + 0 + vs.length)).toArray)) ?_
            · refine ⟨ρ.add s.n B κ, Ext.add hid (Nat.le_refl _) (by simp), ⟨_, _, Env.add_at _ _ _ _, by simp, fun _ => by omega⟩, ?_⟩
              simpa [hh] using hrel
            · have hle2 := Env.add_le (B := B) (κ := κ) hid
              have hul := VRs.len hus
              have hcl' : cells.toList.length = cells.size := Array.length_toList
              refine ⟨_, et, fr, us.take (len * sizeT P e) ++ vs, cells.toList.drop (len * sizeT P e + vs.length), rfl, ?_, ?_, ?_, ?_⟩
              · intro i hi
                refine hfr i ?_
                simp at hi
                omega
              · show cells.toList.take (len * sizeT P e + 0) ++ vs ++ cells.toList.drop (len * sizeT P e + 0 + vs.length) = _
                rw [Nat.add_zero, hcl, List.take_append_of_le_length (by omega)]
              · rw [hold2]
                exact VRs.append (VRs.take _ (VRs.mono hle2 _ _ hus)) (VRs.mono hle2 _ _ hvs)
              · show (cells.toList.take (len * sizeT P e + 0) ++ vs ++ cells.toList.drop (len * sizeT P e + 0 + vs.length)).length = κ * sizeT P e
                rw [← hsize]
                simp
                omega
          · obtain ⟨newCap, rest, h1, h2, h3⟩ := app.grow hle hlen1 ol hold
            refine fin h3 ?_
            have := Done.grown (s := s) (s' := { h := (s1.h.set b .dead).set s.n (.row (old ++ l) (sizeT P e + 1)), n := s.n + 1, r := b :: s1.r, w := b :: s1.w }) (m := len + n) (size := sizeT P e) (e := e) (rest := rest) (newCap := newCap) (Rel.dead hr (id := b)) hf rfl (by rw [hh]) (VRs.append hol hvs) (by rw [List.length_append, holl, hvl, Nat.add_mul]) h1 h2
            simpa using this
      · cases hk
      · cases hk
    | false =>
      simp only [cond_false] at hrun app
      cases hfit : Nat.ble (len + n) c with
      | true =>
        rw [hfit] at hrun
        simp only [cond_true] at hrun
        have hfit := Nat.le_of_ble_eq_true hfit
        obtain ⟨l, s1, hk, hh, hnn, hvs⟩ := hsrc _ _ _ _ rfl hrun
        obtain ⟨cs2, op2, c', o2, hpl, hb, hpt, hc', hk⟩ := storeN_inv hk
        cases hk
        rw [hh] at hb
        obtain ⟨w', ob, hst, hup, hor2⟩ := store_row (P := P) (hr.row hb hρ) hpt hpl hvs
        refine fin (app.fit hfit ⟨B, off, none⟩ w' rfl (by rw [addr_add]; exact hst)) ?_
        refine ⟨ρ, Ext.refl _ _ _, ⟨B, κ, hρ, by simp, fun e => by cases e⟩, ?_⟩
        have := hr.updL hb hρ hup hor2 hc'
        simpa [S.put, hh] using this
      | false =>
        rw [hfit] at hrun
        simp only [cond_false] at hrun
        have hnf : ¬ len + n ≤ c := fun e => by rw [Nat.ble_eq_true_of_le e] at hfit; cases hfit
        obtain ⟨cs2, op2, old, hb, ht, hk⟩ := loadN_inv hrun
        obtain ⟨l, s1, hk, hh, hnn, hvs⟩ := hsrc { s with r := b :: s.r } _ _ _ rfl hk
        cases hk
        obtain ⟨ol, hol, holl, _, hcell⟩ := load_cells (P := P) (hr.row hb hρ) ht
        have hold : ∀ W : World, (∀ b : Nat, W.heap[b]? = w.heap[b]?) → (Builtin.firstCells (sizeT P e) len (.slice (some ⟨B, off, none⟩) len c)).run P W = .ok ⟨ol⟩ W := by
          intro W hW
          simp only [Builtin.firstCells]
          have := run_loadCells_list (P := P) W ⟨B, off, none⟩ ol (fun j v hj => by
            rw [addr_add]
            have := hcell j v hj
            unfold World.cell? at this ⊢
            rw [hW]; exact this)
          rw [holl] at this
          exact this
        obtain ⟨newCap, rest, h1, h2, h3⟩ := app.grow hnf hlen1 ol hold
        simp only [hnn] at hf fin ⊢
        refine fin h3 ?_
        have := Done.grown (s := s) (s' := { h := s1.h.set s.n (.row (old ++ l) (sizeT P e + 1)), n := s.n + 1, r := s1.r, w := s1.w }) (m := len + n) (size := sizeT P e) (e := e) (rest := rest) (newCap := newCap) hr hf rfl (by rw [hh]) (VRs.append hol hvs) (by rw [List.length_append, holl, hvl, Nat.add_mul]) h1 h2
        simpa using this
  · -- an empty one
    rename_i b off0 off d
    obtain ⟨B, κ, hρ, hv1⟩ := hx
    cases hv1
    cases hn : Nat.beq n 0 with
    | false => rw [hn] at hrun; cases hrun
    | true =>
      rw [hn] at hrun
      cases hrun
      obtain rfl := Nat.eq_of_beq_eq_true hn
      obtain rfl : vs = [] := List.length_eq_zero_iff.1 (by simpa using hvl)
      refine fin (app.fit (by omega) _ w rfl (by simp [storeCells])) (Done.same hr rfl ⟨B, κ, hρ, by simp⟩)
  · cases hrun
end
end Go.Ev
namespace Go.Ev
open Go.RowKit (Below)
section
variable {P : Program} {ρ : Env} {B0 : Nat} {w0 w : World}
theorem run_append_nil {ts : Array Nat} {ty st e n len cap : Nat} {args : Array Value} {x : Value} {vs : List Value} (hat : ts[0]? = some st) (h0 : args[0]? = some (.slice none len cap)) (h1 : args[1]? = some x)
    (hu : P.underlying st = some (.slice e)) (hte : tyOk P e = true) (hz : ts[1]? = none ∨ ∃ xt d, ts[1]? = some xt ∧ P.underlying xt = some d ∧ ∀ k, d ≠ .int k)
    (hn : (Builtin.lenOf x).run P w = .ok n w) (hfit : len + n ≤ cap) (hld : (Builtin.firstCells (sizeT P e) n x).run P w = .ok ⟨vs⟩ w) : (Builtin.append_ ts ty args).run P w = .ok (.slice none (len + n) cap) w := by
  rcases hz with hz | ⟨xt, d, hz, hud, hnk⟩
  · simp only [Builtin.append_, hat, h0, h1, hz, Sem.run_bind, run_under hu, Result.andThen_ok, run_size hte, Sem.run_pure, Bool.false_eq_true, if_false, hn, hfit, if_true, Bool.not_false, hld]
  · cases d <;> first
      | (exact absurd rfl (hnk _))
      | simp only [Builtin.append_, hat, h0, h1, hz, hud, run_under hud, Sem.run_bind, run_under hu, Result.andThen_ok, run_size hte, Sem.run_pure, Bool.false_eq_true, if_false, hn, hfit, if_true, Bool.not_false, hld]
/- append of n zeros -/
theorem run_append_zeros_fit {ts : Array Nat} {ty st xt e n len cap : Nat} {k k' : IntKind} {args : Array Value} {base : Option Addr} {zv : Value} {w' : World} (hat : ts[0]? = some st) (h0 : args[0]? = some (.slice base len cap)) (h1 : args[1]? = some (.int k (n : Int)))
    (hu : P.underlying st = some (.slice e)) (hte : tyOk P e = true) (hby : bytesT P e ≤ 10000) (hzr : ∀ W, (zeroValue e).run P W = .ok zv W) (hzs : zv.cells.size = sizeT P e) (hz : ts[1]? = some xt) (hud : P.underlying xt = some (.int k'))
    (hn : n ≤ 1000000) (hfit : len + n ≤ cap) (hst : (base = none ∧ w' = w) ∨ ∃ ad, base = some ad ∧ (storeCells (ad.add (len * sizeT P e)) (List.replicate n zv.cells.toList).flatten).run P w = .ok () w') : (Builtin.append_ ts ty args).run P w = .ok (.slice base (len + n) cap) w' := by
  obtain ⟨i, hi⟩ := info_of_tyOk hte
  have hib : i.bytes = bytesT P e := by simp [bytesT, hi]
  have hti : ∀ W : World, (typeInfo e).run P W = .ok i W := fun W => run_info hi
  have hw := wrap_nat n (by omega)
  have hmul : n * i.bytes ≤ 1000000 * 10000 := Nat.mul_le_mul hn (by omega)
  have h48 : (2 : Int) ^ 48 = 281474976710656 := rfl
  have hneg : ¬ ((n : Int) < 0) := by omega
  have hbig : ¬ ((n : Int) * (i.bytes : Int) > 2 ^ 48) := by
    rw [h48]
    have : ((n * i.bytes : Nat) : Int) ≤ ((1000000 * 10000 : Nat) : Int) := Int.ofNat_le.2 hmul
    rw [Int.natCast_mul] at this
    have h4 : ((1000000 * 10000 : Nat) : Int) = 10000000000 := rfl
    omega
  have hlen : zv.cells.toList.length = sizeT P e := by simp [hzs]
  have hzc : (Builtin.zeroCells zv.cells n) = ⟨(List.replicate n zv.cells.toList).flatten⟩ := by rw [Builtin.zeroCells, zeros_arr]
  simp only [Builtin.append_, hat, h0, h1, hz, run_under hud, Sem.run_bind, run_under hu, Result.andThen_ok, run_size hte, Sem.run_pure, if_true, asInt, asIntOf, hw, hneg, if_false, hti, hbig, Int.toNat_natCast, hfit]
  by_cases hm0 : n * sizeT P e = 0
  · rw [flat_nil (by rw [hlen]; exact hm0)] at hst
    rcases hst with ⟨rfl, rfl⟩ | ⟨ad, rfl, hst⟩
    · simp [hm0]
    · simp [hm0, hst]
  · rcases hst with ⟨rfl, rfl⟩ | ⟨ad, rfl, hst⟩
    · simp [hm0, hzr]
    · simp [hm0, hzr, hzc, hst]
theorem run_append_zeros_new {ts : Array Nat} {ty st xt e n len cap : Nat} {k k' : IntKind} {args : Array Value} {base : Option Addr} {zv : Value} {olds : List Value} (hat : ts[0]? = some st) (h0 : args[0]? = some (.slice base len cap)) (h1 : args[1]? = some (.int k (n : Int)))
    (hu : P.underlying st = some (.slice e)) (hte : tyOk P e = true) (hby : bytesT P e ≤ 10000) (hzr : ∀ W, (zeroValue e).run P W = .ok zv W) (hzs : zv.cells.size = sizeT P e) (hz : ts[1]? = some xt) (hud : P.underlying xt = some (.int k'))
    (hn : n ≤ 1000000) (hs1 : 1 ≤ sizeT P e) (hfit : ¬ len + n ≤ cap) (hsm : len + n ≤ 1000000) (hold : ∀ W : World, (∀ b : Nat, W.heap[b]? = w.heap[b]?) → (Builtin.firstCells (sizeT P e) len (.slice base len cap)).run P W = .ok ⟨olds⟩ W) :
    ∃ newCap rest, len + n ≤ newCap ∧ rest.length = (newCap - (len + n)) * zv.cells.size ∧
      (Builtin.append_ ts ty args).run P w = .ok (.slice (some ⟨w.heap.size, 0, none⟩) (len + n) newCap) (w.drew.alloc (.cells ⟨olds ++ (List.replicate n zv.cells.toList).flatten ++ rest⟩ e)) := by
  obtain ⟨i, hi⟩ := info_of_tyOk hte
  have hib : i.bytes = bytesT P e := by simp [bytesT, hi]
  have hti : ∀ W : World, (typeInfo e).run P W = .ok i W := fun W => run_info hi
  have hw := wrap_nat n (by omega)
  have hmul : n * i.bytes ≤ 1000000 * 10000 := Nat.mul_le_mul hn (by omega)
  have hmul2 : (len + n) * i.bytes ≤ 1000000 * 10000 := Nat.mul_le_mul hsm (by omega)
  have h48 : (2 : Int) ^ 48 = 281474976710656 := rfl
  have h48' : (2 : Nat) ^ 48 = 281474976710656 := rfl
  have hneg : ¬ ((n : Int) < 0) := by omega
  have hbig : ¬ ((n : Int) * (i.bytes : Int) > 2 ^ 48) := by
    rw [h48]
    have : ((n * i.bytes : Nat) : Int) ≤ ((1000000 * 10000 : Nat) : Int) := Int.ofNat_le.2 hmul
    rw [Int.natCast_mul] at this
    have h4 : ((1000000 * 10000 : Nat) : Int) = 10000000000 := rfl
    omega
  have hlen : zv.cells.toList.length = sizeT P e := by simp [hzs]
  have hg := growslice_fits (need := len + n) (old := cap) (bytes := i.bytes) (by omega) (by omega)
  have hmx : IntKind.i64.max = 9223372036854775807 := rfl
  have no1 : ¬ (((len + n : Nat) : Int) > IntKind.i64.max ∧ (True ∨ i.bytes = 0)) := by rw [hmx]; omega
  have no2 : ¬ (Builtin.nextslicecap (len + n) cap * i.bytes > 2 ^ 48) := by rw [h48']; omega
  have hq : (Question.appendCap (len + n) cap e).forced = false := rfl
  have hnc : len + n ≤ (Question.appendCap (len + n) cap e).cut (w.tape w.drawn (.appendCap (len + n) cap e)) := by
    show len + n ≤ len + n + _ % _
    omega
  generalize hNC : (Question.appendCap (len + n) cap e).cut (w.tape w.drawn (.appendCap (len + n) cap e)) = newCap at hnc
  have hsame : ∀ b : Nat, w.drew.heap[b]? = w.heap[b]? := fun _ => rfl
  refine ⟨newCap, (Builtin.zeroCells zv.cells (newCap - (len + n))).toList, hnc, by simp [Builtin.zeroCells], ?_⟩
  have hzc : (Builtin.zeroCells zv.cells n) = ⟨(List.replicate n zv.cells.toList).flatten⟩ := by rw [Builtin.zeroCells, zeros_arr]
  have cat : (⟨olds⟩ : Array Value) ++ ⟨(List.replicate n zv.cells.toList).flatten⟩ ++ Builtin.zeroCells zv.cells (newCap - (len + n)) = ⟨olds ++ (List.replicate n zv.cells.toList).flatten ++ (Builtin.zeroCells zv.cells (newCap - (len + n))).toList⟩ := by
    apply Array.ext'; simp
  have nil1 : (#[] : Array Value) = ⟨[]⟩ := rfl
  simp only [Builtin.append_, hat, h0, h1, hz, run_under hud, Sem.run_bind, run_under hu, Result.andThen_ok, run_size hte, Sem.run_pure, if_true, asInt, asIntOf, hw, hneg, if_false, hti, hbig, Int.toNat_natCast, hfit, no1, no2, run_choose hq, hNC, run_room, hold _ hsame]
  by_cases hm0 : n * sizeT P e = 0
  · have e0 := flat_nil (m := n) (zs := zv.cells.toList) (by rw [hlen]; exact hm0)
    rw [e0] at cat hzc ⊢
    simp only [Bool.not_true, Bool.false_eq_true, if_false, hm0, if_true, Sem.run_pure, Result.andThen_ok, Sem.run_bind, hzr, newRow, run_newObj, nil1, cat]
    rfl
  · simp only [Bool.not_true, Bool.false_eq_true, if_false, hm0, Sem.run_pure, Result.andThen_ok, Sem.run_bind, hzr, hzc, newRow, run_newObj, cat]
    rfl
/-- What firstN hands on. -/
noncomputable def firstL (h : Tr AO) (size n : Nat) : AV → Option (List AV)
  | .slc b off _ _ _ => match (h.get b).bind AO.cellsOf with | some (c, _) => takeN (n * size) (c.drop off) | _ => none
  | .slz _ _ _ _ => if n = 0 then some [] else none
  | .nils => if n = 0 then some [] else none
  | .str l => some ((l.take n).map byteA)
  | _ => none
theorem firstN_L {α : Type} {s s' : S} {size n : Nat} {p : AV} {k : List AV → S → Rs α} {v : α} (h : s.firstN size n p k = .ok v s') : ∃ l s1, firstL s.h size n p = some l ∧ k l s1 = .ok v s' ∧ s1.h = s.h ∧ s1.n = s.n := by
  unfold S.firstN at h
  cases p <;> try (cases h; done)
  case str l => exact ⟨_, s, rfl, h, rfl, rfl⟩
  case nils =>
    cases hn : Nat.beq n 0 with
    | false => rw [hn] at h; cases h
    | true => rw [hn] at h; exact ⟨[], s, by simp [firstL, Nat.eq_of_beq_eq_true hn], h, rfl, rfl⟩
  case slz =>
    cases hn : Nat.beq n 0 with
    | false => simp only [hn, cond_false] at h; cases h
    | true => simp only [hn, cond_true] at h; exact ⟨[], s, by simp [firstL, Nat.eq_of_beq_eq_true hn], h, rfl, rfl⟩
  case slc b off len opn c =>
    obtain ⟨cs, op, l, ⟨q, hb, hq⟩, hl, hk⟩ := loadN_inv h
    exact ⟨l, _, by simp [firstL, hb, hq, hl], hk, rfl, rfl⟩
theorem firstL_ok {h : Tr AO} {size n m : Nat} {p : AV} {u : Value} {l : List AV} (hl : firstL h size n p = some l) (hr : Rel B0 w0 ρ h w) (hp : VR ρ p u) (hm : lenA p = some m) (hnm : n ≤ m) (ht : textOk p size = true) :
    ∃ vs, VRs ρ l vs ∧ vs.length = n * size ∧ ∀ W : World, (∀ b : Nat, W.heap[b]? = w.heap[b]?) → (Builtin.firstCells size n u).run P W = .ok ⟨vs⟩ W := by
  cases p <;> try (cases hl; done)
  case str t =>
    cases hm; cases hp; cases hl
    obtain rfl : size = 1 := Nat.eq_of_beq_eq_true ht
    refine ⟨(t.take n).map (fun b => .int .u8 (b.toNat : Int)), ?_, by simp; omega, fun W _ => ?_⟩
    · induction (t.take n) with
      | nil => rfl
      | cons b r ih => exact ⟨_, _, rfl, ih, rfl⟩
    · simp only [Builtin.firstCells, Sem.run_pure]
      congr 1
      apply Array.ext'
      simp [ByteArray.data_extract, List.extract_eq_take_drop]
  case nils =>
    cases hm; cases hp
    obtain rfl : n = 0 := by omega
    cases hl
    exact ⟨[], rfl, by simp, fun W _ => by simp [Builtin.firstCells]⟩
  case slz =>
    cases hm
    obtain rfl : n = 0 := by omega
    cases hl
    obtain ⟨B, κ, hρ, rfl⟩ := hp
    exact ⟨[], rfl, by simp, fun W _ => by simp [Builtin.firstCells, loadCells, loadCellsFrom]⟩
  case slc b off len opn c =>
    obtain ⟨B, κ, hρ, rfl, _⟩ := hp
    unfold firstL at hl
    dsimp only at hl
    split at hl
    · rename_i cs op hb
      obtain ⟨q, hb, hq⟩ := Option.bind_eq_some_iff.mp hb
      obtain ⟨vs, hvs, hlen, _, hcell⟩ := load_cells (P := P) (hr.row ⟨q, hb, hq⟩ hρ) hl
      refine ⟨vs, hvs, hlen, fun W hW => ?_⟩
      simp only [Builtin.firstCells]
      have := run_loadCells_list (P := P) W ⟨B, off, none⟩ vs (fun j v hj => by
        rw [addr_add]
        have := hcell j v hj
        unfold World.cell? at this ⊢
        rw [hW]; exact this)
      rw [hlen] at this
      exact this
    · cases hl
theorem firstL_zero {h : Tr AO} {size : Nat} {p : AV} {l : List AV} (hl : firstL h size 0 p = some l) : l = [] := by
  cases p <;> try (cases hl; done)
  case str t => cases hl; simp
  case nils => cases hl; rfl
  case slz => cases hl; rfl
  case slc b off len opn c =>
    unfold firstL at hl
    dsimp only at hl
    split at hl
    · rw [Nat.zero_mul] at hl; cases hl; rfl
    · cases hl
theorem appendA_new {size n : Nat} {x : AV} {new : S → (List AV → S → RV) → RV} {s s' : S} {v : AV} (h : appendA size x n new s = .ok v s') : n = 0 ∨ ∃ s0 k, s0.h = s.h ∧ new s0 k = .ok v s' := by
  unfold appendA at h
  cases hl : longA x n with
  | false => rw [hl] at h; cases h
  | true =>
  rw [hl] at h
  simp only [cond_true] at h
  split at h
  · cases hn : Nat.beq n 0 with
    | true => exact .inl (Nat.eq_of_beq_eq_true hn)
    | false => rw [hn] at h; exact .inr ⟨s, _, rfl, h⟩
  · rename_i b off len opn c
    cases opn with
    | true =>
      simp only [cond_true] at h
      obtain ⟨o', ho', hk⟩ := look_inv h
      split at hk
      · rename_i cs op
        cases h1 : (Nat.beq op (size + 1) && Nat.beq off (c * size)) with
        | false => rw [h1] at hk; cases hk
        | true =>
        rw [h1] at hk
        simp only [cond_true] at hk
        cases h2 : Nat.ble (off + (len + n) * size) cs.length with
        | true => rw [h2] at hk; exact .inr ⟨{ s with r := b :: s.r }, _, rfl, hk⟩
        | false =>
          rw [h2] at hk
          simp only [cond_false] at hk
          cases h3 : (Nat.beq off 0 && Nat.beq c 0) with
          | false => rw [h3] at hk; cases hk
          | true => rw [h3] at hk; exact .inr ⟨{ s with r := b :: s.r }, _, rfl, hk⟩
      · cases hk
      · cases hk
    | false =>
      simp only [cond_false] at h
      cases h1 : Nat.ble (len + n) c with
      | true => rw [h1] at h; exact .inr ⟨s, _, rfl, h⟩
      | false =>
        rw [h1] at h
        simp only [cond_false] at h
        obtain ⟨cs, op, l, hb, hl, hk⟩ := loadN_inv h
        exact .inr ⟨{ s with r := b :: s.r }, _, rfl, hk⟩
  · cases hn : Nat.beq n 0 with
    | true => exact .inl (Nat.eq_of_beq_eq_true hn)
    | false => rw [hn] at h; cases h
  · cases h
theorem builtin_append {c : Call} {o : Oper} {a : Act} {xs : List Value} (hc : c.callee = .builtin .append) (ho : o.op = .call c) (he : c.args.toList.map a.eval = xs) :
    (execOp a.eval o).run P w = ((Builtin.append_ c.argTypes o.type ⟨xs⟩).run P w).andThen fun v w' => .ok (.value v) w' := by
  rw [call_builtin hc ho, args_of he]
  simp only [builtin, Sem.run_bind]
  rfl
theorem appendSrc_ok {c : Call} {st e : Nat} {more : List Nat} (hc : c.callee = .builtin .append) (hty : c.argTypes.toList = st :: more) (hu : P.underlying st = some (.slice e)) (z : AV) (hz : zeroT P e = some z)
    (hte : tyOk P e = true) (hby : bytesT P e ≤ 10000) (hs1 : 1 ≤ sizeT P e) (hzl : z.cells.length = sizeT P e) (hmore : more = [] ∨ ∃ xt r d, more = xt :: r ∧ P.underlying xt = some d ∧ ∀ k, d ≠ .int k) : OpSound P (.call c) (appendSrc (sizeT P e)) := by
  intro cf _ av s v s' hrun o a w B0 w0 ρ ho hav hr hf
  rw [opers_builtin hc] at hav
  unfold appendSrc at hrun
  dsimp only at hrun
  split at hrun
  · rename_i x q
    obtain ⟨u1, ws, hx, ⟨u2, ws', hq, hws, e2⟩, he⟩ := hav
    cases hws; subst e2
    split at hrun
    · rename_i n hn
      cases hstr : textOk q (sizeT P e) with
      | false => rw [hstr] at hrun; cases hrun
      | true =>
      rw [hstr] at hrun
      simp only [cond_true] at hrun
      have hats := types_of hty
      have hat : c.argTypes[0]? = some st := by rw [hats]; rfl
      have hz1 : c.argTypes[1]? = none ∨ ∃ xt d, c.argTypes[1]? = some xt ∧ P.underlying xt = some d ∧ ∀ k, d ≠ .int k := by
        rcases hmore with rfl | ⟨xt, r, d, rfl, h1, h2⟩
        · exact .inl (by rw [hats]; rfl)
        · exact .inr ⟨xt, d, by rw [hats]; rfl, h1, h2⟩
      have e0 : (⟨[u1, u2]⟩ : Array Value)[0]? = some u1 := rfl
      have e1 : (⟨[u1, u2]⟩ : Array Value)[1]? = some u2 := rfl
      have hlo := lenA_lenOf (P := P) (w := w) hn hq
      obtain ⟨zv, hzv⟩ : ∃ zv, (∀ W, (zeroValue e).run P W = .ok zv W) ∧ zv.cells.size = sizeT P e := by
        obtain ⟨i, zv, hi, hiz, hv⟩ := info_zero hz
        refine ⟨zv, fun W => ?_, by rw [← hzl]; exact vr_cells' (hv (fun _ => none))⟩
        simp only [zeroValue, Sem.run_bind, run_info hi, Result.andThen_ok, hiz]
        rfl
      -- what is appended, as it is read
      have base : ∃ b len cap, u1 = .slice b len cap := by
        unfold appendA at hrun
        cases hl : longA x n with
        | false => rw [hl] at hrun; cases hrun
        | true =>
          rw [hl] at hrun
          simp only [cond_true] at hrun
          cases x <;> try (cases hrun; done)
          · cases hx; exact ⟨_, _, _, rfl⟩
          · obtain ⟨B, κ, _, rfl, _⟩ := hx; exact ⟨_, _, _, rfl⟩
          · obtain ⟨B, κ, _, rfl⟩ := hx; exact ⟨_, _, _, rfl⟩
      obtain ⟨b, len, cap, rfl⟩ := base
      obtain ⟨vs, hvs⟩ : ∃ vs : List Value, (∀ W : World, (∀ b : Nat, W.heap[b]? = w.heap[b]?) → (Builtin.firstCells (sizeT P e) n u2).run P W = .ok ⟨vs⟩ W) ∧ vs.length = n * sizeT P e ∧ Src ρ s.h (fun s k => s.firstN (sizeT P e) n q k) vs := by
        have hsome : n = 0 ∨ ∃ l, firstL s.h (sizeT P e) n q = some l := by
          rcases appendA_new hrun with h | ⟨s0, k, hs0, h⟩
          · exact .inl h
          · obtain ⟨l, s1, hl, _⟩ := firstN_L h
            rw [hs0] at hl
            exact .inr ⟨l, hl⟩
        by_cases hl : ∃ l, firstL s.h (sizeT P e) n q = some l
        · obtain ⟨l, hl⟩ := hl
          obtain ⟨vs, h1, h2, h3⟩ := firstL_ok (P := P) hl hr hq hn (Nat.le_refl _) hstr
          refine ⟨vs, h3, h2, fun s1 k v1 s2 hs1 hk => ?_⟩
          obtain ⟨l', s3, hl', hk', h4, h5⟩ := firstN_L hk
          rw [hs1, hl] at hl'
          cases hl'
          exact ⟨l, s3, hk', by rw [h4, hs1], h5, h1⟩
        · obtain rfl : n = 0 := hsome.resolve_right hl
          refine ⟨[], fun W _ => ?_, by simp, fun s1 k v1 s2 hs1 hk => ?_⟩
          · cases q <;> simp only [lenA] at hn <;> try (cases hn; done)
            · exact absurd ⟨_, rfl⟩ hl
            · exact absurd ⟨_, rfl⟩ hl
            · obtain ⟨B, κ, _, rfl, _⟩ := hq
              simp [Builtin.firstCells, loadCells, loadCellsFrom]
            · exact absurd ⟨_, rfl⟩ hl
          · obtain ⟨l', s3, hl', hk', h4, h5⟩ := firstN_L hk
            rw [hs1] at hl'
            exact absurd ⟨_, hl'⟩ hl
      obtain ⟨hld, hvl, hsrc⟩ := hvs
      refine appendA_ok (zc := zv.cells.size) (vs := vs) (n := n) (len := len) (cap := cap) (base := b) (e := e) rfl hs1 hzv.2 hrun hr hf hx hsrc hvl ?_ (builtin_append hc ho he)
      refine ⟨fun hfit ad w' h1 h2 => ?_, fun hfit h1 => ?_, fun hfit hsm olds hold => ?_⟩
      · exact run_append_fit hat e0 e1 hu hte hz1 hlo hfit (hld w fun _ => rfl) ⟨ad, h1, h2⟩
      · subst h1
        exact run_append_nil hat e0 e1 hu hte hz1 hlo hfit (hld w fun _ => rfl)
      · exact run_append_new hat e0 e1 hu hte hby hzv.1 hz1 hlo hfit hsm hold hld
    · cases hrun
  · cases hrun
theorem appendZeros_ok {c : Call} {st xt e : Nat} {k' : IntKind} {more : List Nat} (hc : c.callee = .builtin .append) (hty : c.argTypes.toList = st :: xt :: more) (hu : P.underlying st = some (.slice e)) (z : AV) (hz : zeroT P e = some z)
    (hte : tyOk P e = true) (hby : bytesT P e ≤ 10000) (hs1 : 1 ≤ sizeT P e) (hzl : z.cells.length = sizeT P e) (hux : P.underlying xt = some (.int k')) : OpSound P (.call c) (appendZeros (sizeT P e) z) := by
  intro cf _ av s v s' hrun o a w B0 w0 ρ ho hav hr hf
  rw [opers_builtin hc] at hav
  unfold appendZeros at hrun
  dsimp only at hrun
  split at hrun
  · rename_i x k n
    obtain ⟨u1, ws, hx, ⟨u2, ws', hq, hws, e2⟩, he⟩ := hav
    cases hws; subst e2
    have hq : u2 = .int k (n : Int) := hq
    subst hq
    cases hn : Nat.ble n 1000000 with
    | false => rw [hn] at hrun; cases hrun
    | true =>
    rw [hn] at hrun
    simp only [cond_true] at hrun
    have hn := Nat.le_of_ble_eq_true hn
    have hats := types_of hty
    have hat : c.argTypes[0]? = some st := by rw [hats]; rfl
    have hz1 : c.argTypes[1]? = some xt := by rw [hats]; rfl
    obtain ⟨zv, hzr, hzv, hzs⟩ : ∃ zv, (∀ W, (zeroValue e).run P W = .ok zv W) ∧ (∀ ρ, VR ρ z zv) ∧ zv.cells.size = sizeT P e := by
      obtain ⟨i, zv, hi, hiz, hv⟩ := info_zero hz
      refine ⟨zv, fun W => ?_, hv, by rw [← hzl]; exact vr_cells' (hv (fun _ => none))⟩
      simp only [zeroValue, Sem.run_bind, run_info hi, Result.andThen_ok, hiz]
      rfl
    have base : ∃ b len cap, u1 = .slice b len cap := by
      unfold appendA at hrun
      cases hl : longA x n with
      | false => rw [hl] at hrun; cases hrun
      | true =>
        rw [hl] at hrun
        simp only [cond_true] at hrun
        cases x <;> try (cases hrun; done)
        · cases hx; exact ⟨_, _, _, rfl⟩
        · obtain ⟨B, κ, _, rfl, _⟩ := hx; exact ⟨_, _, _, rfl⟩
        · obtain ⟨B, κ, _, rfl⟩ := hx; exact ⟨_, _, _, rfl⟩
    obtain ⟨b, len, cap, rfl⟩ := base
    have e0 : (⟨[.slice b len cap, .int k (n : Int)]⟩ : Array Value)[0]? = some (.slice b len cap) := rfl
    have e1 : (⟨[.slice b len cap, .int k (n : Int)]⟩ : Array Value)[1]? = some (.int k (n : Int)) := rfl
    have hsrc : Src ρ s.h (fun s k => k (repl n z.cells) s) (List.replicate n zv.cells.toList).flatten := by
      intro s1 k v1 s2 hs1 hk
      exact ⟨_, s1, hk, hs1, rfl, VRs.replicate (vr_cells (hzv ρ)) n⟩
    refine appendA_ok (zc := zv.cells.size) (n := n) (len := len) (cap := cap) (base := b) (e := e) rfl hs1 hzs hrun hr hf hx hsrc (by simp [hzs]) ?_ (builtin_append hc ho he)
    refine ⟨fun hfit ad w' h1 h2 => ?_, fun hfit h1 => ?_, fun hfit hsm olds hold => ?_⟩
    · exact run_append_zeros_fit hat e0 e1 hu hte hby hzr hzs hz1 hux hn hfit (.inr ⟨ad, h1, h2⟩)
    · subst h1
      exact run_append_zeros_fit hat e0 e1 hu hte hby hzr hzs hz1 hux hn hfit (.inl ⟨rfl, rfl⟩)
    · exact run_append_zeros_new hat e0 e1 hu hte hby hzr hzs hz1 hux hn hs1 hfit hsm hold
  · cases hrun
theorem append_sound (c : Call) (hc : c.callee = .builtin .append) : OpSound P (.call c) (appendK P c.argTypes.toList) := by
  unfold appendK
  split
  · rename_i st more hty
    split
    · rename_i e hu
      split
      · rename_i z hz
        cases hk : (tyOk P e && Nat.ble (bytesT P e) 10000 && Nat.ble 1 (sizeT P e) && Nat.beq z.cells.length (sizeT P e)) with
        | false => exact OpSound.fail _
        | true =>
          simp only [Bool.not_true, cond_false]
          simp only [Bool.and_eq_true] at hk
          have h1 := hk.1.1.1
          have h2 := Nat.le_of_ble_eq_true hk.1.1.2
          have h3 := Nat.le_of_ble_eq_true hk.1.2
          have h4 := Nat.eq_of_beq_eq_true hk.2
          split
          · exact appendSrc_ok hc hty hu z hz h1 h2 h3 h4 (.inl rfl)
          · rename_i xt r
            split
            · rename_i q hux
              exact appendZeros_ok hc hty hu z hz h1 h2 h3 h4 hux
            · rename_i d hne hux
              exact appendSrc_ok hc hty hu z hz h1 h2 h3 h4 (.inr ⟨xt, r, d, rfl, hux, fun k e => hne k e⟩)
            · exact OpSound.fail _
      · exact OpSound.fail _
    · exact OpSound.fail _
  · exact OpSound.fail _
end
end Go.Ev
namespace Go.Ev
open Go.RowKit (Below)
section
variable {P : Program} {ρ : Env} {B0 : Nat} {w0 w : World}
theorem bytesA_ok : ∀ {l : List AV} {bs : List UInt8} {vs : List Value}, bytesA l = some bs → VRs ρ l vs → ∃ ns : List Int, vs = ns.map (Value.int .u8) ∧ ∀ r : ByteArray, (ns.foldl (fun r n => r.push (UInt8.ofNat n.toNat)) r) = ⟨⟨r.data.toList ++ bs⟩⟩
  | [], bs, vs, h, hv => by cases h; cases hv; exact ⟨[], rfl, fun r => by simp⟩
  | x :: l, bs, vs, h, hv => by
    obtain ⟨u, us, hu, hus, rfl⟩ := hv
    unfold bytesA at h
    split at h
    · rename_i h'; cases h'
    · rename_i k l' h'
      cases h'
      simp only [Option.map_eq_some_iff] at h
      obtain ⟨m, hm, rfl⟩ := h
      obtain ⟨ns, rfl, hf⟩ := bytesA_ok hm hus
      cases hu
      refine ⟨(k : Int) :: ns, rfl, fun r => ?_⟩
      simp only [List.foldl_cons]
      rw [hf]
      congr 1
      congr 1
      simp [ByteArray.push]
    · cases h
theorem byteL_ok {x : AV} {u : Value} (h : byteL x = true) (hv : VR ρ x u) : ∃ b : UInt8, u = .int .u8 (b.toNat : Int) := by
  have small : ∀ {k : Nat}, Nat.blt k 256 = true → ((UInt8.ofNat k).toNat : Int) = Int.ofNat k := by
    intro k hk
    have hk : k < 256 := by simpa [Nat.blt_eq] using hk
    rw [UInt8.toNat_ofNat', Nat.mod_eq_of_lt (by simpa using hk)]
    rfl
  unfold byteL at h
  split at h
  · rename_i k
    cases hv
    exact ⟨UInt8.ofNat k, by rw [small h]⟩
  · rename_i l
    obtain ⟨B, κ, n, _, hl, rfl⟩ := hv
    have := List.all_eq_true.mp h n (List.mem_of_getElem? hl)
    split at this
    · rename_i k
      exact ⟨UInt8.ofNat k, by rw [small this]⟩
    · cases this
  · cases h
theorem bytesL_ok : ∀ {l : List AV} {vs : List Value}, l.all byteL = true → VRs ρ l vs → ∃ bs : List UInt8, vs = bs.map fun b => .int .u8 (b.toNat : Int)
  | [], _, _, hv => by cases hv; exact ⟨[], rfl⟩
  | x :: l, vs, h, hv => by
    obtain ⟨u, us, hu, hus, rfl⟩ := hv
    rw [List.all_cons, Bool.and_eq_true] at h
    obtain ⟨b, rfl⟩ := byteL_ok h.1 hu
    obtain ⟨bs, rfl⟩ := bytesL_ok h.2 hus
    exact ⟨b :: bs, rfl⟩
theorem push_bytes : ∀ (bs : List UInt8) (r : ByteArray), ((bs.map fun b => (b.toNat : Int)).foldl (fun (r : ByteArray) n => r.push (UInt8.ofNat n.toNat)) r) = ⟨⟨r.data.toList ++ bs⟩⟩
  | [], r => by simp
  | b :: bs, r => by
    simp only [List.map_cons, List.foldl_cons]
    rw [push_bytes bs]
    congr 1
    congr 1
    simp [ByteArray.push]
theorem textA_ok {l : List AV} {v : AV} {vs : List Value} (h : textA l = some v) (hv : VRs ρ l vs) : ∃ (bs : List UInt8) (ns : List Int), vs = ns.map (Value.int .u8) ∧ (∀ r : ByteArray, (ns.foldl (fun r n => r.push (UInt8.ofNat n.toNat)) r) = ⟨⟨r.data.toList ++ bs⟩⟩) ∧ VR ρ v (.string ⟨⟨bs⟩⟩) := by
  unfold textA at h
  split at h
  · rename_i bs hb
    cases h
    obtain ⟨ns, h1, h2⟩ := bytesA_ok hb hv
    exact ⟨bs, ns, h1, h2, rfl⟩
  · cases ha : l.all byteL with
    | false => rw [ha] at h; cases h
    | true =>
      rw [ha] at h
      cases h
      obtain ⟨bs, rfl⟩ := bytesL_ok ha hv
      exact ⟨bs, bs.map fun b => (b.toNat : Int), by rw [List.map_map]; rfl, push_bytes bs, ⟨bs, hv, rfl⟩⟩
theorem freeze_end {B : Nat} {cs : Array Value} {e : TypeId} {W : World} (h : W.heap[B]? = some (.cells cs e (0, 0))) : Upd W (W.freeze ⟨B, cs.size, none⟩ 1) B (.cells cs e (cs.size, cs.size + 1)) := by
  refine ⟨rfl, rfl, rfl, ?_, ?_, ?_⟩
  · simp [World.freeze]
  · simp [World.freeze, Array.getElem?_modify, h]
  · intro k hk
    simp only [World.freeze]
    rw [if_neg (by simp)]
    simp [Array.getElem?_modify, Ne.symm hk]
def bcell (b : UInt8) : Value := .int .u8 (b.toNat : Int)
theorem vrs_bytes (ρ : Env) : ∀ l : List UInt8, VRs ρ (l.map byteA) (l.map bcell)
  | [] => rfl
  | _ :: l => ⟨_, _, rfl, vrs_bytes ρ l, rfl⟩
theorem run_stringToBytes (e : Nat) (l : List UInt8) : ∃ cap, l.length ≤ cap ∧ (Conv.stringToBytes e ⟨⟨l⟩⟩).run P w = .ok (.slice (some ⟨w.heap.size, 0, none⟩) l.length cap) ((w.drew.alloc (.cells ⟨l.map bcell ++ List.replicate (cap - l.length) (.int .u8 0)⟩ e)).freeze ⟨w.heap.size, cap, none⟩ 1) := by
  have hq : (Question.appendCap l.length 0 e).forced = false := rfl
  have hnc : l.length ≤ (Question.appendCap l.length 0 e).cut (w.tape w.drawn (.appendCap l.length 0 e)) := by
    show l.length ≤ l.length + _ % _
    omega
  generalize hNC : (Question.appendCap l.length 0 e).cut (w.tape w.drawn (.appendCap l.length 0 e)) = cap at hnc
  refine ⟨cap, hnc, ?_⟩
  have hsz : (⟨⟨l⟩⟩ : ByteArray).size = l.length := rfl
  have hcells : (⟨⟨l⟩⟩ : ByteArray).data.map (fun b => Value.int .u8 (b.toNat : Int)) ++ Array.replicate (cap - l.length) (.int .u8 0) = (⟨l.map bcell ++ List.replicate (cap - l.length) (.int .u8 0)⟩ : Array Value) := by
    apply Array.ext'; simp; intro _ _; rfl
  have hobj : (w.drew.alloc (.cells ⟨l.map bcell ++ List.replicate (cap - l.length) (.int .u8 0)⟩ e)).heap[w.heap.size]? = some (.cells ⟨l.map bcell ++ List.replicate (cap - l.length) (.int .u8 0)⟩ e (0, 0)) := by
    show (w.heap.push _)[w.heap.size]? = _
    simp
  have hlen : (⟨l.map bcell ++ List.replicate (cap - l.length) (.int .u8 0)⟩ : Array Value).size = cap := by
    show (l.map bcell ++ List.replicate (cap - l.length) (Value.int .u8 0)).length = cap
    simp; omega
  have hms : ∀ W : World, W.heap[w.heap.size]? = some (.cells ⟨l.map bcell ++ List.replicate (cap - l.length) (.int .u8 0)⟩ e (0, 0)) → (markStringish ⟨w.heap.size, 0, none⟩).run P W = .ok () (W.freeze ⟨w.heap.size, cap, none⟩ 1) := by
    intro W hW
    have hsh : W.shape? w.heap.size = some (e, cap) := by simp only [World.shape?, hW, hlen]
    simp only [markStringish, shape, freeze, Sem.run_bind, Sem.run, hsh, Result.andThen_ok]
  have hdz : w.drew.heap.size = w.heap.size := rfl
  simp only [Conv.stringToBytes, hsz, Sem.run_bind, run_choose hq, hNC, Result.andThen_ok, hcells, newRow, run_newObj, Sem.run_pure, hdz]
  have hfin := hms _ hobj
  simp only [World.alloc] at hfin
  rw [hfin]
  rfl
theorem firstN_bytes {α : Type} {s s' : S} {n : Nat} {p : AV} {u : Value} {k : List AV → S → Rs α} {v : α} (h : s.firstN 1 n p k = .ok v s') (hr : Rel B0 w0 ρ s.h w) (hp : VR ρ p u) (hm : lenS p = some n) :
    ∃ l s1 vs, k l s1 = .ok v s' ∧ s1.h = s.h ∧ VRs ρ l vs ∧ ((∃ ad cap, u = .slice (some ad) n cap ∧ (loadCells ad n).run P w = .ok ⟨vs⟩ w) ∨ (u = .slice none 0 0 ∧ vs = [])) := by
  unfold S.firstN at h
  cases p <;> simp only [lenS] at hm <;> try (cases hm; done)
  · cases hm; cases hp
    exact ⟨[], s, [], h, rfl, rfl, .inr ⟨rfl, rfl⟩⟩
  · rename_i b off len opn c
    cases hm
    obtain ⟨B, κ, hρ, rfl, _⟩ := hp
    obtain ⟨cs, op, l, hb, hl, hk⟩ := loadN_inv h
    rw [Nat.mul_one] at hl
    obtain ⟨vs, hvs, hlen, hld, _⟩ := load_cells (P := P) (hr.row hb hρ) hl
    exact ⟨l, _, vs, hk, rfl, hvs, .inl ⟨_, _, rfl, hld⟩⟩
  · cases hm
    obtain ⟨B, κ, hρ, rfl⟩ := hp
    exact ⟨[], s, [], h, rfl, rfl, .inl ⟨_, _, rfl, rfl⟩⟩
theorem strBytes {src dst e : Nat} {x : Operand} {o : Oper} {a : Act} {s : S} (hs : P.underlying src = some .string) (hd : P.underlying dst = some (.slice e)) (hue : P.underlying e = some (.int .u8)) (ho : o.op = .convert src dst x) (hr : Rel B0 w0 ρ s.h w) (hid : ρ s.n = none)
    {la : List AV} {l : List UInt8} (hla : VRs ρ la (l.map bcell)) (hp' : a.eval x = .string ⟨⟨l⟩⟩) : OpTo P o a w (Done B0 w0 ρ s (.slc s.n 0 l.length true 0) { s with h := s.h.set s.n (.row la 2), n := s.n + 1 }) := by
  obtain ⟨cap, hnc, hrun⟩ := run_stringToBytes (P := P) (w := w) e l
  have hobj : (w.drew.alloc (.cells ⟨l.map bcell ++ List.replicate (cap - l.length) (.int .u8 0)⟩ e)).heap[w.heap.size]? = some (.cells ⟨l.map bcell ++ List.replicate (cap - l.length) (.int .u8 0)⟩ e (0, 0)) := by
    show (w.heap.push _)[w.heap.size]? = _
    simp
  have hup := freeze_end hobj
  have hlen : (⟨l.map bcell ++ List.replicate (cap - l.length) (.int .u8 0)⟩ : Array Value).size = cap := by
    show (l.map bcell ++ List.replicate (cap - l.length) (Value.int .u8 0)).length = cap
    simp; omega
  rw [hlen] at hup
  have hr1 : Rel B0 w0 (ρ.add s.n w.heap.size cap) (s.h.set s.n (.row la 2)) (w.drew.alloc (.cells ⟨l.map bcell ++ List.replicate (cap - l.length) (.int .u8 0)⟩ e)) :=
    hr.drew.new hid ⟨_, e, (0, 0), _, _, rfl, fun i _ h => by omega, rfl, hla, by show _ = cap * 1; rw [hlen]; omega⟩
  refine OpTo.value (v := .slice (some ⟨w.heap.size, 0, none⟩) l.length cap) (w' := (w.drew.alloc (.cells ⟨l.map bcell ++ List.replicate (cap - l.length) (.int .u8 0)⟩ e)).freeze ⟨w.heap.size, cap, none⟩ 1) ?_ ?_
  · simp only [execOp, ho, hp', convert, Sem.run_bind, run_under hs, run_under hd, run_under hue, Result.andThen_ok, hrun]
    rfl
  · refine ⟨ρ.add s.n w.heap.size cap, Ext.add hid (Nat.le_refl _) (by simp), ⟨_, _, Env.add_at _ _ _ _, by simp, fun _ => by omega⟩, ?_⟩
    have := hr1.upd (id := s.n) (o := .row la 2) (o' := .row la 2) (by rw [Tr.get_set]; simp) (by simp) (Env.add_at _ _ _ _) hup ⟨_, e, _, _, _, rfl, fun i hi h => by rw [hlen] at hi; omega, rfl, (VRs.mono (Ext.add hid (Nat.le_refl _) (Nat.lt_succ_self _)).le _ _ hla), by show _ = cap * 1; rw [hlen]; omega⟩ (by simp)
    exact this.congr fun id => by simp only [Tr.get_set]; split <;> rfl
theorem convert_sound (src dst : Nat) (x : Operand) : OpSound P (.convert src dst x) (convertK P src dst) := by
  intro cf _ av s v s' hrun o a w B0 w0 ρ ho hav hr hf
  obtain ⟨p, rfl, hp⟩ := vrs1 (x := a.eval x) hav
  unfold convertK at hrun
  split at hrun
  · rename_i q k hs hd
    dsimp only at hrun
    split at hrun
    · rename_i q' n he
      cases he; cases hrun
      have hp : a.eval x = .int q' n := hp
      refine OpTo.value (v := .int k (k.wrap n)) (w' := w) ?_ (Done.same hr rfl rfl)
      simp [execOp, ho, hp, convert, run_under hs, run_under hd, Conv.intToInt]
    · rename_i q' l he
      cases he; cases hrun
      obtain ⟨B, κ, n, hρ, hl, hp⟩ := hp
      refine OpTo.value (v := .int k (k.wrap n)) (w' := w) ?_ (Done.same hr rfl (packI_ok hρ (by rw [List.getElem?_map, hl]; rfl)))
      simp [execOp, ho, hp, convert, run_under hs, run_under hd, Conv.intToInt]
    · cases hrun
  · rename_i hs hd
    dsimp only at hrun
    split at hrun
    · rename_i l he
      cases he; cases hrun
      have hp' : a.eval x = .string ⟨⟨l⟩⟩ := hp
      refine OpTo.value (v := .string ⟨⟨l⟩⟩) (w' := w) ?_ (Done.same hr rfl rfl)
      simp [execOp, ho, hp', convert, run_under hs, run_under hd]
    · rename_i l he
      cases he; cases hrun
      obtain ⟨bs, hbs, hp'⟩ := hp
      refine OpTo.value (v := .string ⟨⟨bs⟩⟩) (w' := w) ?_ (Done.same hr rfl ⟨bs, hbs, rfl⟩)
      simp [execOp, ho, hp', convert, run_under hs, run_under hd]
    · cases hrun
  · rename_i e hs hd
    split at hrun
    · rename_i hue
      dsimp only at hrun
      split at hrun
      · rename_i l he
        cases he; cases hrun
        exact strBytes hs hd hue ho hr (hf s.n (Nat.le_refl _) (by simp)) (vrs_bytes ρ l) hp
      · rename_i l he
        cases he; cases hrun
        obtain ⟨bs, hbs, hp'⟩ := hp
        have hl := VRs.len hbs
        rw [List.length_map] at hl
        have := strBytes (l := bs) hs hd hue ho hr (hf s.n (Nat.le_refl _) (by simp)) hbs hp'
        rw [hl] at this
        exact this
      · cases hrun
    · cases hrun
  · rename_i e hs hd
    split at hrun
    · rename_i hue
      dsimp only at hrun
      split at hrun
      · rename_i n hn
        obtain ⟨l, s1, vs, hk, hs1, hvs, hu⟩ := firstN_bytes (P := P) hrun hr hp hn
        cases hb : textA l with
        | none => rw [hb] at hk; cases hk
        | some v1 =>
          rw [hb] at hk
          cases hk
          obtain ⟨bs, ns, rfl, hfold, hv1⟩ := textA_ok hb hvs
          refine OpTo.value (v := .string ⟨⟨bs⟩⟩) (w' := w) ?_ (Done.same hr hs1 hv1)
          rcases hu with ⟨ad, cap, hu, hld⟩ | ⟨hu, hvs0⟩
          · have hb2 := run_bytesToString (P := P) w ad n cap ns hld
            rw [hfold] at hb2
            simp only [execOp, ho, hu, convert, Sem.run_bind, run_under hs, run_under hd, run_under hue, Result.andThen_ok, hb2]
            rfl
          · obtain rfl : ns = [] := by simpa using hvs0
            have := hfold ByteArray.empty
            simp only [List.foldl_nil] at this
            simp only [execOp, ho, hu, convert, Sem.run_bind, run_under hs, run_under hd, run_under hue, Result.andThen_ok, Conv.bytesToString, Sem.run_pure]
            rw [this]; rfl
      · cases hrun
    · cases hrun
  · cases hrun
end
end Go.Ev
namespace Go.Ev
open Go.RowKit (Below)
section
variable {P : Program} {ρ : Env} {B0 : Nat} {w0 w : World}
theorem check_any {k t : Nat} {u : Value} (em : Bool) (n : Nat) (hk : leafK P t = some k) : (Instr.checkKey em (n + 1) t u).run P w = .ok () w := by
  unfold leafK at hk
  split at hk
  · rename_i hu
    cases u <;> simp [Instr.checkKey, run_under hu]
  · rename_i q hu
    cases u <;> simp [Instr.checkKey, run_under hu]
  · rename_i hu
    cases u <;> simp [Instr.checkKey, run_under hu]
  · cases hk
theorem check_fields (em : Bool) (n : Nat) {l : List AV} {vs : List Value} (hv : VRs ρ l vs) : ∀ (fs : List Field) (m : List (Nat × Nat)), leavesK P fs = some m → (m.all fun x => (l[x.2]?).isSome) = true →
    (forIn fs PUnit.unit (fun f (_ : PUnit) => do
      if f.name ≠ "_" then
        let p ← part f.type ⟨vs⟩ f.offset
        Instr.checkKey em (n + 1) f.type p
        pure (ForInStep.yield PUnit.unit)
      else pure (ForInStep.yield PUnit.unit) : Field → PUnit → Sem (ForInStep PUnit))).run P w = .ok PUnit.unit w
  | [], m, _, _ => by simp
  | f :: fs, m, hm, hall => by
    simp only [leavesK] at hm
    split at hm
    · rename_i k m' hk hm'
      cases hn : (f.name != "_") with
      | false => rw [hn] at hm; cases hm
      | true =>
        rw [hn] at hm
        cases hm
        simp only [List.all_cons, Bool.and_eq_true] at hall
        obtain ⟨a, ha⟩ := Option.isSome_iff_exists.1 hall.1
        obtain ⟨u, hu, _⟩ := part_leaf (P := P) (w := w) hk hv ha
        have hn' : f.name ≠ "_" := by simpa using hn
        have ih := check_fields em n hv fs m' hm' hall.2
        simp only [List.forIn_cons, Sem.run_bind, hn', ne_eq, not_false_eq_true, if_true, hu, Result.andThen_ok, check_any em n hk, Sem.run_pure]
        exact ih
    · cases hm
theorem check_struct (em : Bool) (n : Nat) {kt : Nat} {fs : Array Field} {l : List AV} {vs : List Value} {m : List (Nat × Nat)} (hu : P.underlying kt = some (.struct fs)) (hv : VRs ρ l vs) (hm : leavesK P fs.toList = some m) (hall : (m.all fun x => (l[x.2]?).isSome) = true) :
    (Instr.checkKey em (n + 1 + 1) kt (.agg ⟨vs⟩)).run P w = .ok () w := by
  have := check_fields (P := P) (w := w) em n hv fs.toList m hm hall
  rw [Instr.checkKey]
  simp only [Sem.run_bind, run_under hu, Result.andThen_ok]
  rw [← Array.forIn_toList]
  rw [this]
  rfl
theorem keyOk_ok {kt : Nat} {good : AV → List (AV × AV × Nat) → Bool} {k : AV} {es : List (AV × AV × Nat)} {u : Value} (em : Bool) (h : keyOk P kt = some good) (hg : good k es = true) (hk : VR ρ k u) : (Instr.checkKey em 10000 kt u).run P w = .ok () w ∧
    ((∃ q, P.underlying kt = some (.int q) ∧ ∃ kk n, k = .int kk n) ∨ (es = [] ∧ ∃ d, P.underlying kt = some d)) := by
  unfold keyOk at h
  split at h
  · rename_i q hu
    cases h
    cases k <;> try (cases hg; done)
    exact ⟨check_any em 9999 (k := 1) (by simp [leafK, hu]), .inl ⟨q, hu, _, _, rfl⟩⟩
  · rename_i fs hu
    simp only [Option.map_eq_some_iff] at h
    obtain ⟨l, hl, rfl⟩ := h
    dsimp only at hg
    split at hg
    · rename_i xs
      obtain ⟨vs, hvs, rfl⟩ := hk
      refine ⟨?_, .inr ⟨rfl, _, hu⟩⟩
      exact check_struct em 9998 hu hvs hl hg
    · cases hg
  · cases h
theorem findNow_ok {q : IntKind} {kk : IntKind} {n : Int} : ∀ {es : List (AV × AV × Nat)} {xs : List MapEntry} {i : Nat} {r : Option (Nat × AV)}, findA (.int kk n) es i = some r → MRs ρ es xs →
    (r = none ∧ Instr.findNow (.int q) (.int kk n) xs i = some none) ∨ ∃ j v u e, r = some (i + j, v) ∧ Instr.findNow (.int q) (.int kk n) xs i = some (some (i + j, u)) ∧ VR ρ v u ∧ xs[j]? = some e ∧ e.key = .int kk n ∧ j < xs.length
  | [], xs, i, r, h, hm => by cases h; cases hm; exact .inl ⟨rfl, rfl⟩
  | (k', v, b) :: es, xs, i, r, h, hm => by
    obtain ⟨x, ys, hk, hv, hb, hm, rfl⟩ := hm
    simp only [findA] at h
    split at h
    · rename_i he
      cases h
      cases k' <;> try (cases he; done)
      simp only [leafEq] at he
      split at he
      · rename_i e1; subst e1
        simp only [Option.some.injEq, beq_iff_eq] at he
        subst he
        have hk' : x.key = .int kk n := hk
        exact .inr ⟨0, v, x.val, x, rfl, by simp [Instr.findNow, hk', Instr.sameNow], hv, rfl, hk', by simp⟩
      · cases he
    · rename_i he
      cases k' <;> try (cases he; done)
      simp only [leafEq] at he
      split at he
      · rename_i e1; subst e1
        simp only [Option.some.injEq] at he
        have hk' : x.key = .int kk _ := hk
        have hfn : Instr.findNow (.int q) (.int kk n) (x :: ys) i = Instr.findNow (.int q) (.int kk n) ys (i + 1) := by
          simp [Instr.findNow, hk', Instr.sameNow, he]
        rcases findNow_ok h hm with ⟨h1, h2⟩ | ⟨j, v', u, e, h1, h2, h3, h4, h5, h6⟩
        · exact .inl ⟨h1, by rw [hfn]; exact h2⟩
        · refine .inr ⟨j + 1, v', u, e, by rw [h1]; congr 2; omega, by rw [hfn, h2]; congr 3; omega, h3, by simpa using h4, h5, by simp; omega⟩
      · cases he
    · cases h
theorem run_getObj {B : Nat} {xs : Array MapEntry} {clk : Nat} (h : w.heap[B]? = some (.map xs clk)) : (getObj B).run P w = .ok (.map xs clk) w := by simp [getObj, Sem.run, h]
theorem lookup_sound (t : Nat) (x i : Operand) (ok : Bool) : OpSound P (.lookup t x i ok) (lookupK P t ok) := by
  intro cf _ av s v s' hrun o a w B0 w0 ρ ho hav hr hf
  obtain ⟨p, q, rfl, hp, hq⟩ := vrs2 (x := a.eval x) (y := a.eval i) hav
  unfold lookupK at hrun
  split at hrun
  · rename_i kt e hu
    split at hrun
    · rename_i z good hz hgood
      obtain ⟨zv, hzr, hzv⟩ := run_zero (P := P) (w := w) hz
      -- the model's lookup, from what is found
      have main : ∀ {es : List (AV × AV × Nat)} {xs : List MapEntry} {r : Option (Nat × AV)}, good q es = true → findA q es 0 = some r → MRs ρ es xs → ((a.eval x = .map none ∧ xs = []) ∨ ∃ B clk, a.eval x = .map (some B) ∧ w.heap[B]? = some (.map ⟨xs⟩ clk)) →
          v = foundA ok z r → s'.h = s.h → OpTo P o a w (Done B0 w0 ρ s v s') := by
        intro es xs r hg hfi hm hmap hv hs
        obtain ⟨hck, hmode⟩ := keyOk_ok (P := P) (w := w) false hgood hg hq
        have hck : ∀ em, (Instr.checkKey em 10000 kt (a.eval i)).run P w = .ok () w := fun em => (keyOk_ok (P := P) (w := w) em hgood hg hq).1
        have hres : ∃ r' : Option (Nat × Value), (Instr.findKey kt (a.eval i) xs).run P w = .ok r' w ∧ ((r = none ∧ r' = none) ∨ ∃ j vv uu, r = some (j, vv) ∧ r' = some (j, uu) ∧ VR ρ vv uu) := by
          rcases hmode with ⟨qk, huk, kk, n, rfl⟩ | ⟨rfl, d, hud⟩
          · have hqi : a.eval i = .int kk n := hq
            rcases findNow_ok (ρ := ρ) (q := qk) hfi hm with ⟨h1, h2⟩ | ⟨j, vv, uu, _, h1, h2, h3, _⟩
            · exact ⟨none, by simp [Instr.findKey, run_under huk, hqi, h2], .inl ⟨h1, rfl⟩⟩
            · exact ⟨_, by simp only [Instr.findKey, Sem.run_bind, run_under huk, Result.andThen_ok, hqi, h2]; rfl, .inr ⟨_, _, _, h1, rfl, h3⟩⟩
          · cases hm; cases hfi
            exact ⟨none, by simp [Instr.findKey, run_under hud, Instr.findNow], .inl ⟨rfl, rfl⟩⟩
        obtain ⟨r', hfk, hrr⟩ := hres
        subst hv
        have hrunL : ∀ (vv : Value) (bb : Bool), ((match r' with | some (_, v) => (vv = v ∧ bb = true) | none => (vv = zv ∧ bb = false)) : Prop) → (Instr.lookup t (a.eval x) (a.eval i) ok).run P w = .ok (if ok then .tuple #[vv, .bool bb] else vv) w := by
          intro vv bb hvb
          rcases hmap with ⟨hx, rfl⟩ | ⟨B, clk, hx, hB⟩
          · simp only [Instr.lookup, Sem.run_bind, run_under hu, Result.andThen_ok, hx, Sem.run_pure, hck]
            have : (Instr.findKey kt (a.eval i) (#[] : Array MapEntry).toList).run P w = .ok r' w := hfk
            rw [this]
            cases r' with
            | none => obtain ⟨rfl, rfl⟩ := hvb; simp [hzr]
            | some jv => obtain ⟨j, v2⟩ := jv; obtain ⟨rfl, rfl⟩ := hvb; simp
          · simp only [Instr.lookup, Sem.run_bind, run_under hu, Result.andThen_ok, hx, run_getObj hB, Sem.run_pure, hck]
            have : (Instr.findKey kt (a.eval i) (⟨xs⟩ : Array MapEntry).toList).run P w = .ok r' w := hfk
            rw [this]
            cases r' with
            | none => obtain ⟨rfl, rfl⟩ := hvb; simp [hzr]
            | some jv => obtain ⟨j, v2⟩ := jv; obtain ⟨rfl, rfl⟩ := hvb; simp
        rcases hrr with ⟨rfl, rfl⟩ | ⟨j, vv, uu, rfl, rfl, hvu⟩
        · have := hrunL zv false ⟨rfl, rfl⟩
          refine OpTo.value (v := if ok then .tuple #[zv, .bool false] else zv) (w' := w) ?_ (Done.same hr hs ?_)
          · simp only [execOp, ho, Sem.run_bind, this, Result.andThen_ok]; rfl
          · cases ok
            · exact hzv ρ
            · exact ⟨_, ⟨_, _, hzv ρ, ⟨_, _, rfl, rfl, rfl⟩, rfl⟩, rfl⟩
        · have := hrunL uu true ⟨rfl, rfl⟩
          refine OpTo.value (v := if ok then .tuple #[uu, .bool true] else uu) (w' := w) ?_ (Done.same hr hs ?_)
          · simp only [execOp, ho, Sem.run_bind, this, Result.andThen_ok]; rfl
          · cases ok
            · exact hvu
            · exact ⟨_, ⟨_, _, hvu, ⟨_, _, rfl, rfl, rfl⟩, rfl⟩, rfl⟩
      dsimp only at hrun
      split at hrun
      · rename_i k he
        cases he
        cases hg : good q [] with
        | false => rw [hg] at hrun; cases hrun
        | true =>
          rw [hg] at hrun
          cases hrun
          exact main hg rfl (rfl : MRs ρ [] []) (.inl ⟨hp, rfl⟩) rfl rfl
      · rename_i b k he
        cases he
        obtain ⟨B, κ, hρ, hx⟩ := hp
        obtain ⟨o', ho', hk⟩ := look_inv hrun
        split at hk
        · rename_i es clk
          cases hg : good q es with
          | false => rw [hg] at hk; cases hk
          | true =>
            rw [hg] at hk
            simp only [cond_true] at hk
            split at hk
            · rename_i r hfi
              cases hk
              obtain ⟨xs, hob, hxs⟩ := hr.or ho' (by simp) hρ
              exact main hg hfi hxs (.inr ⟨B, clk, hx, hob⟩) rfl rfl
            · cases hk
        · cases hk
      · cases hrun
    · cases hrun
  · cases hrun
end
end Go.Ev
