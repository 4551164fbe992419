/- The evaluator: it does what the machine does. -/
import Derived.Test.YtknijgammlhhoaaGreatMvB
import Derived.Recover
import Derived.Conc.LoneSelect
import Derived.LoopN
import Derived.Defers
set_option linter.all false
namespace Go.Ev
open Go.RowKit (Below)
section
variable {P : Program} {ρ : Env} {B0 : Nat} {w0 w : World}
theorem MRs.snoc {ρ : Env} {k v : AV} {n : Nat} {e : MapEntry} (hk : VR ρ k e.key) (hv : VR ρ v e.val) (hb : e.born = n) : ∀ {l : List (AV × AV × Nat)} {xs : List MapEntry}, MRs ρ l xs → MRs ρ (l ++ [(k, v, n)]) (xs ++ [e])
  | [], _, h => by cases h; exact ⟨e, [], hk, hv, hb, rfl, rfl⟩
  | (_, _, _) :: l, _, ⟨x, ys, h1, h2, h3, h4, e'⟩ => by subst e'; exact ⟨x, _, h1, h2, h3, MRs.snoc hk hv hb h4, rfl⟩
theorem MRs.set {ρ : Env} {v : AV} {u key : Value} (hv : VR ρ v u) : ∀ {l : List (AV × AV × Nat)} {xs : List MapEntry} {j : Nat} {e : MapEntry}, MRs ρ l xs → xs[j]? = some e → e.key = key → MRs ρ (setNth v j l) (xs.modify j fun e => { e with key := key, val := u })
  | [], xs, j, e, h, he, _ => by cases h; cases he
  | (k, v0, n) :: l, xs, 0, e, ⟨x, ys, h1, h2, h3, h4, e'⟩, he, hk => by
    subst e'; cases he
    exact ⟨{ e with key := key, val := u }, ys, by show VR ρ k key; rw [← hk]; exact h1, hv, h3, h4, rfl⟩
  | (k, v0, n) :: l, xs, j + 1, e, ⟨x, ys, h1, h2, h3, h4, e'⟩, he, hk => by
    subst e'
    exact ⟨x, _, h1, h2, h3, MRs.set hv h4 (by simpa using he) hk, rfl⟩
theorem mapUpdate_sound (t : Nat) (m k x : Operand) : OpSound P (.mapUpdate t m k x) (mapUpdateK P t) := by
  intro cf _ av s v s' hrun o a w B0 w0 ρ ho hav hr hf
  obtain ⟨p, q, r, rfl, hp, hq, hx⟩ := vrs3 (x := a.eval m) (y := a.eval k) (z := a.eval x) hav
  unfold mapUpdateK at hrun
  split at hrun
  · rename_i kt e hu
    split at hrun
    · rename_i qk huk
      dsimp only at hrun
      split at hrun
      · rename_i b kk n x' he
        cases he
        obtain ⟨B, κ, hρ, hm⟩ := hp
        have hq : a.eval k = .int kk n := hq
        obtain ⟨o', ho', hk⟩ := look_inv hrun
        split at hk
        · rename_i es clk
          obtain ⟨xs, hob, hxs⟩ := hr.or ho' (by simp) hρ
          have hck : (Instr.checkKey false 10000 kt (.int kk n)).run P w = .ok () w := check_any false 9999 (k := 1) (by simp [leafK, huk])
          have hset : ∀ o'' : Obj, (setObj B o'').run P w = .ok () { w with heap := w.heap.setIfInBounds B o'' } := by
            intro o''; simp [setObj, Sem.run, hob]
          split at hk
          · rename_i hfi
            cases hk
            have hfn : Instr.findNow (.int qk) (.int kk n) xs 0 = some none := by
              rcases findNow_ok (ρ := ρ) (q := qk) hfi hxs with ⟨_, h2⟩ | ⟨_, _, _, _, h1, _⟩
              · exact h2
              · cases h1
            refine OpTo.skip (w' := { w with heap := w.heap.setIfInBounds B (.map ⟨xs ++ [{ key := .int kk n, val := a.eval x, born := clk }]⟩ (clk + 1)) }) ?_
              ⟨ρ, Ext.refl _ _ _, ⟨[], rfl, rfl⟩, hr.upd ho' (by simp) hρ (Upd.setObj hob) ⟨_, rfl, MRs.snoc (e := { key := .int kk n, val := a.eval x, born := clk }) (show VR ρ (.int kk n) (.int kk n) from rfl) hx rfl hxs⟩ (by simp)⟩
            have hpush : (⟨xs⟩ : Array MapEntry).push { key := .int kk n, val := a.eval x, born := clk } = ⟨xs ++ [{ key := .int kk n, val := a.eval x, born := clk }]⟩ := by apply Array.ext'; simp
            simp only [execOp, ho, Instr.mapUpdate, Sem.run_bind, run_under hu, Result.andThen_ok, hm, hq, run_getObj hob, hck, Instr.findKey, run_under huk, hfn, Sem.run_pure, hpush, hset]
          · rename_i j v1 hfi
            cases hk
            rcases findNow_ok (ρ := ρ) (q := qk) hfi hxs with ⟨h1, _⟩ | ⟨j', v', u', e', h1, h2, _, h4, h5, _⟩
            · cases h1
            · simp only [Nat.zero_add, Option.some.injEq, Prod.mk.injEq] at h1 h2
              obtain ⟨rfl, rfl⟩ := h1
              have hge : (⟨xs⟩ : Array MapEntry)[j]? = some e' := by simpa using h4
              refine OpTo.skip (w' := { w with heap := w.heap.setIfInBounds B (.map ⟨xs.modify j fun e => { e with key := .int kk n, val := a.eval x }⟩ clk) }) ?_
                ⟨ρ, Ext.refl _ _ _, ⟨[], rfl, rfl⟩, hr.upd ho' (by simp) hρ (Upd.setObj hob) ⟨_, rfl, MRs.set hx hxs h4 h5⟩ (by simp)⟩
              have hmod : (⟨xs⟩ : Array MapEntry).modify j (fun e => { e with key := .int kk n, val := a.eval x }) = ⟨xs.modify j fun e => { e with key := .int kk n, val := a.eval x }⟩ := by apply Array.ext'; simp
              have hstay : (Instr.keyThatStays (.int kk n) (.int kk n)).run P w = .ok (.int kk n) w := by simp [Instr.keyThatStays, Instr.sameBits]
              simp only [execOp, ho, Instr.mapUpdate, Sem.run_bind, run_under hu, Result.andThen_ok, hm, hq, run_getObj hob, hck, Instr.findKey, run_under huk, h2, Sem.run_pure, hge, Option.map_some, Option.getD_some, h5, hstay, hmod, hset]
          · cases hk
        · cases hk
      · cases hrun
    · cases hrun
  · cases hrun
theorem notA_inv {ok : Bool} {z v : AV} {s s' : S} (h : notA ok z s = .ok v s') : ok = true ∧ v = .tup [z, .bool false] ∧ s' = s := by
  unfold notA at h
  cases ok
  · cases h
  · cases h; exact ⟨rfl, rfl, rfl⟩
theorem typeAssert_sound (x : Operand) (xt t : Nat) (ok : Bool) : OpSound P (.typeAssert x xt t ok) (typeAssertK P t ok) := by
  intro cf _ av s v s' hrun o a w B0 w0 ρ ho hav hr hf
  obtain ⟨p, rfl, hp⟩ := vrs1 (x := a.eval x) hav
  unfold typeAssertK at hrun
  split at hrun
  · rename_i z hz
    obtain ⟨zv, hzr, hzv⟩ := run_zero (P := P) (w := w) hz
    have yes : ∀ {y : AV} {u : Value}, VR ρ y u → (Instr.typeAssert (a.eval x) xt t ok).run P w = .ok (if ok then .tuple #[u, .bool true] else u) w → v = heldA ok y → s' = s → OpTo P o a w (Done B0 w0 ρ s v s') := by
      intro y u hy h e1 e2
      subst e1; subst e2
      refine OpTo.value (w' := w) (by simp only [execOp, ho, Sem.run_bind, h, Result.andThen_ok]; rfl) (Done.same hr rfl ?_)
      cases ok
      · exact hy
      · exact ⟨_, ⟨_, _, hy, ⟨_, _, rfl, rfl, rfl⟩, rfl⟩, rfl⟩
    have no : (ok = true → (Instr.typeAssert (a.eval x) xt t true).run P w = .ok (.tuple #[zv, .bool false]) w) → notA ok z s = .ok v s' → OpTo P o a w (Done B0 w0 ρ s v s') := by
      intro h hn
      obtain ⟨rfl, rfl, rfl⟩ := notA_inv hn
      refine OpTo.value (w' := w) (by simp only [execOp, ho, Sem.run_bind, h rfl, Result.andThen_ok]; rfl) (Done.same hr rfl ?_)
      exact ⟨_, ⟨_, _, hzv ρ, ⟨_, _, rfl, rfl, rfl⟩, rfl⟩, rfl⟩
    split at hrun
    · rename_i want hu
      dsimp only at hrun
      split at hrun
      · rename_i u y he
        cases he
        have hp' := hp
        obtain ⟨yv, hyv, hx⟩ := hp'
        have hb : ∀ bb, (hasAllK P t u).b = some bb → ∃ i, P.info? u = some i ∧ (Instr.missingMethod want i.methods).isNone = bb := by
          intro bb hbb
          unfold hasAllK at hbb
          simp only [hu] at hbb
          cases hi : P.info? u with
          | none => simp [hi] at hbb
          | some i => simp only [hi, Option.map_some, Option.some.injEq] at hbb; exact ⟨i, rfl, hbb⟩
        split at hrun
        · rename_i hbb
          cases hrun
          obtain ⟨i, hi, hm⟩ := hb _ hbb
          have hm : Instr.missingMethod want i.methods = none := by simpa using hm
          refine yes hp ?_ rfl rfl
          simp only [Instr.typeAssert, Sem.run_bind, run_under hu, Result.andThen_ok, hx, run_info hi, hm]
          cases ok <;> rfl
        · rename_i hbb
          obtain ⟨i, hi, hm⟩ := hb _ hbb
          obtain ⟨m, hm⟩ : ∃ m, Instr.missingMethod want i.methods = some m := by
            cases h : Instr.missingMethod want i.methods with
            | none => simp [h] at hm
            | some m => exact ⟨m, rfl⟩
          refine no (fun _ => ?_) hrun
          simp only [Instr.typeAssert, Sem.run_bind, run_under hu, Result.andThen_ok, hx, run_info hi, hm, if_true, hzr]
          rfl
        · cases hrun
      · rename_i he
        cases he
        have hx : a.eval x = .nilIface := hp
        refine no (fun _ => ?_) hrun
        simp only [Instr.typeAssert, Sem.run_bind, run_under hu, Result.andThen_ok, hx, if_true, hzr]
        rfl
      · cases hrun
    · rename_i d hne hu
      dsimp only at hrun
      split at hrun
      · rename_i u y he
        cases he
        obtain ⟨yv, hyv, hx⟩ := hp
        cases hut : Nat.beq u t with
        | true =>
          rw [hut] at hrun
          cases hrun
          obtain rfl := Nat.eq_of_beq_eq_true hut
          refine yes hyv ?_ rfl rfl
          cases d <;> first
            | (exact absurd rfl (hne _))
            | (simp only [Instr.typeAssert, Sem.run_bind, run_under hu, Result.andThen_ok, hx, if_true]; cases ok <;> rfl)
        | false =>
          rw [hut] at hrun
          have hne' : ¬ u = t := fun e => by subst e; rw [nbeq] at hut; simp at hut
          refine no (fun _ => ?_) hrun
          cases d <;> first
            | (exact absurd rfl (hne _))
            | (simp only [Instr.typeAssert, Sem.run_bind, run_under hu, Result.andThen_ok, hx, hne', if_false, if_true, hzr]; rfl)
      · rename_i he
        cases he
        have hx : a.eval x = .nilIface := hp
        refine no (fun _ => ?_) hrun
        cases d <;> first
          | (exact absurd rfl (hne _))
          | (simp only [Instr.typeAssert, Sem.run_bind, run_under hu, Result.andThen_ok, hx, if_true, hzr]; rfl)
      · cases hrun
    · cases hrun
  · cases hrun
/- calls -/
theorem run_callFunc {f : Nat} {fn : Func} {c : Code} (args : Array Value) (hf : P.funcs[f]? = some fn) (hb : fn.body = some c) (hn : (fn.name == "runtime.NumGoroutine") = false) : (callFunc f args).run P w = .ok (.enter f args) w := by
  simp only [callFunc, Sem.run_bind, program, Sem.run, Result.andThen_ok, hf, hn, Bool.false_eq_true, if_false, hb]
  simp
/-- A call that goes through. -/
theorem call_fin {cf : CallF} {f : Nat} {l : List AV} {s s' : S} {v : AV} {vs : List Value} {o : Oper} {a : Act} (g : Good P cf) (h : cf f l s = .ok v s') (hv : VRs ρ l vs) (hr : Rel B0 w0 ρ s.h w) (hf : Fresh ρ s.n s'.n)
    (hex : (execOp a.eval o).run P w = (callFunc f ⟨vs⟩).run P w) : OpTo P o a w (Done B0 w0 ρ s v s') := by
  obtain ⟨fn, c, h1, h2, h3⟩ := g.ok f l s v s' h
  refine OpTo.enter (f := f) (args := ⟨vs⟩) (w' := w) (by rw [hex, run_callFunc _ h1 h2 h3]) (g.calls f l s v s' h B0 w0 ρ w vs hv hr hf)
theorem run_callMethod {t : Nat} {name : String} {f : Nat} {y : Value} (args : Array Value) (h : (methodK P t name).f = some f) : (callMethod (.iface t y) name args).run P w = (callFunc f (#[y] ++ args)).run P w := by
  have hn : ∃ k, P.types.size + Made.depth = k + 1 := ⟨P.types.size + 99, by simp [Made.depth]⟩
  obtain ⟨k, hk⟩ := hn
  simp only [callMethod, Sem.run_bind, program, Sem.run, Result.andThen_ok, hk, run_method h]
theorem callMethod_fin {cf : CallF} {r : AV} {name : String} {l : List AV} {s s' : S} {v : AV} {rv : Value} {vs : List Value} {o : Oper} {a : Act} (g : Good P cf) (h : callMethodA P cf r name l s = .ok v s') (hrv : VR ρ r rv) (hv : VRs ρ l vs) (hr : Rel B0 w0 ρ s.h w) (hf : Fresh ρ s.n s'.n)
    (hex : (execOp a.eval o).run P w = (callMethod rv name ⟨vs⟩).run P w) : OpTo P o a w (Done B0 w0 ρ s v s') := by
  unfold callMethodA at h
  split at h
  · rename_i t y
    obtain ⟨yv, hy, rfl⟩ := hrv
    split at h
    · rename_i f hm
      refine call_fin g h (vs := yv :: vs) ⟨_, _, hy, hv, rfl⟩ hr hf ?_
      rw [hex, run_callMethod _ hm]
      congr 2
      apply Array.ext'; simp
    · cases h
  · cases h
theorem callVal_fin {cf : CallF} {f : AV} {l : List AV} {s s' : S} {v : AV} {fv : Value} {vs : List Value} {o : Oper} {a : Act} (g : Good P cf) (h : callVal P cf f l s = .ok v s') (hfv : VR ρ f fv) (hv : VRs ρ l vs) (hr : Rel B0 w0 ρ s.h w) (hf : Fresh ρ s.n s'.n)
    (hex : (execOp a.eval o).run P w = ((do let d ← Deferred.ofValue fv ⟨vs⟩; invoke d.target d.args : Sem Next)).run P w) : OpTo P o a w (Done B0 w0 ρ s v s') := by
  unfold callVal at h
  split at h
  · rename_i g' fst cap
    obtain ⟨va, vc, ha, hc, rfl⟩ := hfv
    refine call_fin g h (vs := va ++ (vs ++ vc)) (VRs.append ha (VRs.append hv hc)) hr hf ?_
    rw [hex]
    simp only [Deferred.ofValue, Sem.run_bind, Sem.run_pure, Result.andThen_ok, invoke]
    congr 2
    apply Array.ext'; simp
  · rename_i name fst cap
    obtain ⟨va, vc, ha, hc, rfl⟩ := hfv
    split at h
    · rename_i r rest hfl
      have hall := VRs.append ha hv
      rw [hfl] at hall
      obtain ⟨rv, rs, hrv, hrs, e⟩ := hall
      refine callMethod_fin g h hrv hrs hr hf ?_
      rw [hex]
      have e2 : (⟨va⟩ : Array Value) ++ ⟨vs⟩ = ⟨rv :: rs⟩ := by apply Array.ext'; simpa using e
      have e3 : (⟨rv :: rs⟩ : Array Value)[0]? = some rv := rfl
      have e4 : (⟨rv :: rs⟩ : Array Value).extract 1 (⟨rv :: rs⟩ : Array Value).size = ⟨rs⟩ := by apply Array.ext'; simp
      simp only [Deferred.ofValue, Sem.run_bind, Sem.run_pure, Result.andThen_ok, invoke, e2, e3, e4]
    · cases h
  · cases h
end
end Go.Ev
namespace Go.Ev
open Go.RowKit (Below)
section
variable {P : Program} {ρ : Env} {B0 : Nat} {w0 w : World}
theorem call_sound (c : Call) (hw : wayOf (.call c) = .val) : OpSound P (.call c) (callK P c) := by
  unfold callK
  split
  · rename_i b hc
    cases b <;> first
      | exact append_sound c hc
      | exact copy_sound c hc
      | exact len_sound c hc
      | exact cap_sound c hc
      | exact max_sound c hc
      | exact min_sound c hc
      | exact clear_sound c hc
      | exact close_sound c hc
      | exact OpSound.fail _
  · rename_i f hc
    intro cf g av s v s' hrun o a w B0 w0 ρ ho hav hr hf
    have hav : VRs ρ av (.func (.func f) #[] #[] :: c.args.toList.map a.eval) := by simpa [Op.operands, Call.operands, hc, Act.eval] using hav
    obtain ⟨p, l, rfl, _, hl⟩ := vrs_cons hav
    refine call_fin g (f := f) (l := l) hrun hl hr hf ?_
    have hargs : c.args.map a.eval = ⟨c.args.toList.map a.eval⟩ := by apply Array.ext'; simp
    simp only [execOp, ho, resolve, hc, Sem.run_bind, Act.eval, Deferred.ofValue, Sem.run_pure, Result.andThen_ok, invoke, hargs]
    congr 2
    apply Array.ext'; simp
  · rename_i x hne hc
    intro cf g av s v s' hrun o a w B0 w0 ρ ho hav hr hf
    have hav : VRs ρ av (a.eval x :: c.args.toList.map a.eval) := by simpa [Op.operands, Call.operands, hc] using hav
    obtain ⟨p, l, rfl, hp, hl⟩ := vrs_cons hav
    refine callVal_fin g hrun hp hl hr hf ?_
    have hargs : c.args.map a.eval = ⟨c.args.toList.map a.eval⟩ := by apply Array.ext'; simp
    simp only [execOp, ho, resolve, hc, Sem.run_bind, hargs]
  · rename_i x name hc
    intro cf g av s v s' hrun o a w B0 w0 ρ ho hav hr hf
    have hav : VRs ρ av (a.eval x :: c.args.toList.map a.eval) := by simpa [Op.operands, Call.operands, hc] using hav
    obtain ⟨p, l, rfl, hp, hl⟩ := vrs_cons hav
    refine callMethod_fin g hrun hp hl hr hf ?_
    have hargs : c.args.map a.eval = ⟨c.args.toList.map a.eval⟩ := by apply Array.ext'; simp
    have e2 : (#[a.eval x] : Array Value) ++ ⟨c.args.toList.map a.eval⟩ = ⟨a.eval x :: c.args.toList.map a.eval⟩ := by apply Array.ext'; simp
    have e3 : (⟨a.eval x :: c.args.toList.map a.eval⟩ : Array Value)[0]? = some (a.eval x) := rfl
    have e4 : (⟨a.eval x :: c.args.toList.map a.eval⟩ : Array Value).extract 1 (⟨a.eval x :: c.args.toList.map a.eval⟩ : Array Value).size = ⟨c.args.toList.map a.eval⟩ := by
      apply Array.ext'
      simp
      rw [List.take_of_length_le (by simp)]
    simp only [execOp, ho, resolve, hc, Sem.run_bind, hargs, Sem.run_pure, Result.andThen_ok, e2, invoke, e3, e4]
theorem opK_sound (op : Op) (hw : wayOf op = .val) : OpSound P op (opK P op) := by
  cases op with
  | move x => exact move_sound x _ (.inl rfl)
  | assign x => exact move_sound x _ (.inr rfl)
  | pick c a b => exact pick_sound c a b
  | alloc e => exact alloc_sound e
  | box e x => exact box_sound e x
  | build t ps => exact build_sound t ps
  | buildSlice t n ps => exact buildSlice_sound t n ps
  | load t x => exact load_sound t x
  | store t x y => exact store_sound t x y
  | nilCheck x => exact nilCheck_sound x
  | binOp op t x y yt => exact binOp_sound op t x y yt
  | unOp op t x => exact unOp_sound op t x
  | convert a b x => exact convert_sound a b x
  | makeInterface t x => exact makeInterface_sound t x
  | makeFunc f x c => exact makeFunc_sound f x c
  | makeMap t r => cases r with
    | none => exact makeMap_sound t
    | some r => exact OpSound.fail _
  | makeChan t x => exact makeChan_sound t x
  | makeSlice t l c => exact makeSlice_sound t l c
  | slice t x l h m => exact slice_sound t x l h m
  | fieldAddr t x f => exact fieldAddr_sound t x f
  | field t x f => exact field_sound t x f
  | indexAddr t x i => exact indexAddr_sound t x i
  | index t x i => exact index_sound t x i
  | lookup t x i ok => exact lookup_sound t x i ok
  | mapUpdate t m k x => exact mapUpdate_sound t m k x
  | typeAssert x a b ok => exact typeAssert_sound x a b ok
  | extract x i => exact extract_sound x i
  | call c => exact call_sound c hw
  | send _ _ => cases hw
  | recv _ _ _ => cases hw
  | select _ _ => cases hw
  | defer _ => cases hw
  | _ => exact OpSound.fail _
/- frames -/
theorem Framed.callMethodA {cf : CallF} (h : FramedF cf) (r : AV) (name : String) (l : List AV) : Framed (callMethodA P cf r name l) := by
  unfold Ev.callMethodA
  cases r <;> dsimp only <;> try exact .no _
  split
  · exact h _ _
  · exact .no _
theorem Framed.callVal {cf : CallF} (h : FramedF cf) (f : AV) (l : List AV) : Framed (callVal P cf f l) := by
  unfold Ev.callVal
  split
  · exact h _ _
  · split
    · exact .callMethodA h _ _ _
    · exact .no _
  · exact .no _
theorem FramedK.fail {cf : CallF} (why : String) : FramedK (failK why) cf := fun _ => .no _
theorem Framed.loadA (ag : Bool) (n b off : Nat) : Framed (loadA ag n b off) := by
  unfold Ev.loadA
  refine .cond _ (.loadN _ _ _ fun l => .ok _) (.loadN _ _ _ fun l => ?_)
  unfold oneCell
  split
  · exact .ok _
  · exact .no _
theorem Framed.fn (n : Nat) (x : AV) (size : Nat) : ∀ k : List AV → S → RV, (∀ l, Framed (k l)) → Framed (fun s => s.firstN size n x k) := fun _ h => .firstN _ _ _ h
theorem Framed.okPut {α : Type} (v : α) (b : Nat) (o : AO) : Framed (fun s => .ok v (s.put b o)) := Framed.put b o (k := fun s => .ok v s) (.ok v)
theorem Framed.firstRet (size n : Nat) (x : AV) (f : List AV → Option AV) (y : String) : Framed (fun s => s.firstN size n x fun l s => Ev.ret (f l) s y) := Framed.firstN size n x (k := fun l s => Ev.ret (f l) s y) fun l => Framed.ret (f l) y
theorem openSlice_framed (size len : Nat) (v : AV) (lo hi mx : Option AV) : Framed (fun s => openSlice size len v lo hi mx s) := by
  unfold openSlice
  split
  · refine .cond _ (.look _ fun o => ?_) (.no _)
    split
    · exact .cond _ (.ok _) (.no _)
    · exact .no _
  · exact .no _
theorem callK_framed {cf : CallF} (h : FramedF cf) (c : Call) : FramedK (callK P c) cf := by
  intro a
  unfold callK
  split
  · rename_i b hc
    cases b <;> first
      | exact .no _
      | skip
    case append =>
      show Framed ((appendK P c.argTypes.toList).run cf a)
      have src : ∀ size, Framed ((appendSrc size).run cf a) := by
        intro size
        show Framed (fun s => match a with | [x, v] => _ | _ => _)
        split
        · split
          · exact .cond _ (.appendA _ _ _ fun k hk => .firstN _ _ _ hk) (.no _)
          · exact .no _
        · exact .no _
      have zer : ∀ size z, Framed ((appendZeros size z).run cf a) := by
        intro size z
        show Framed (fun s => match a with | [x, .int _ (.ofNat n)] => _ | _ => _)
        split
        · exact .cond _ (.appendA _ _ _ fun k hk => hk _) (.no _)
        · exact .no _
      unfold appendK
      split
      · split
        · split
          · rename_i z _
            generalize (!(tyOk P _ && Nat.ble (bytesT P _) 10000 && Nat.ble 1 (sizeT P _) && Nat.beq z.cells.length (sizeT P _))) = bb
            cases bb
            · simp only [cond_false]
              split
              · exact src _
              · split
                · exact zer _ _
                · exact src _
                · exact .no _
            · exact .no _
          · exact .no _
        · exact .no _
      · exact .no _
    case cap =>
      show Framed ((capK P c.argTypes.toList).run cf a)
      unfold capK
      split
      · split
        · dsimp only; split
          · exact .ok _
          · exact .ok _
          · exact .no _
        · exact .no _
      · exact .no _
    case clear =>
      show Framed ((clearK P c.argTypes.toList).run cf a)
      unfold clearK
      split
      · split
        · split
          · rename_i e _ _ z _
            cases tyOk P e
            · exact .no _
            · simp only [Bool.not_true, cond_false]
              split
              · exact .cond _ (.ok _) (.storeN _ _ _ (.ok _))
              · exact .ok _
              · exact .ok _
              · exact .no _
          · exact .no _
        · exact .no _
      · exact .no _
    case close =>
      show Framed (closeK.run cf a)
      unfold closeK
      dsimp only
      split
      · refine .look _ fun o => ?_
        split
        · exact .okPut _ _ _
        · exact .no _
      · exact .no _
    case copy =>
      show Framed ((copyK P c.argTypes.toList).run cf a)
      unfold copyK
      split
      · split
        · rename_i e _
          cases tyOk P e
          · exact .no _
          · simp only [Bool.not_true, cond_false]
            split
            · split
              · refine .firstN _ _ _ fun l => ?_
                split
                · exact .storeN _ _ _ (.ok _)
                · exact .cond _ (.ok _) (.no _)
              · exact .no _
            · exact .no _
        · exact .no _
      · exact .no _
    case len =>
      show Framed ((lenK P c.argTypes.toList).run cf a)
      unfold lenK
      split
      · split
        · dsimp only; split
          · exact .ok _
          · exact .no _
        · split
          · dsimp only; split
            · exact .ok _
            · exact .no _
          · exact .no _
        · dsimp only; split
          · exact .ok _
          · exact .ok _
          · exact .no _
        · dsimp only; split
          · split
            · exact .ok _
            · exact .no _
          · exact .no _
        · dsimp only; split
          · refine .look _ fun o => ?_
            split
            · exact .ok _
            · exact .no _
          · exact .ok _
          · exact .no _
        · exact .no _
      · exact .no _
    case max =>
      show Framed ((mmK true).run cf a)
      unfold mmK
      exact .ret _ _
    case min =>
      show Framed ((mmK false).run cf a)
      unfold mmK
      exact .ret _ _
  · dsimp only; split
    · exact h _ _
    · exact .no _
  · dsimp only; split
    · exact .callVal h _ _
    · exact .no _
  · dsimp only; split
    · exact .callMethodA h _ _ _
    · exact .no _
theorem opK_framed {cf : CallF} (h : FramedF cf) (op : Op) : FramedK (opK P op) cf := by
  intro a
  cases op with
  | call c => exact callK_framed h c a
  | move x => exact (by unfold opK; show Framed (idA a); unfold idA; split; exact .ok _; exact .no _)
  | assign x => exact (by unfold opK; show Framed (idA a); unfold idA; split; exact .ok _; exact .no _)
  | load t x =>
    show Framed ((loadK P t).run cf a)
    unfold loadK
    cases tyOk P t
    · exact .no _
    · show Framed (fun s => match a with | [.ptr b off] => _ | _ => _)
      split
      · exact .loadA _ _ _ _
      · exact .no _
  | store t x y =>
    show Framed ((storeK P t).run cf a)
    unfold storeK
    cases tyOk P t
    · exact .no _
    · show Framed (fun s => match a with | [.ptr b off, x] => _ | _ => _)
      split
      · exact .cond _ (.storeN _ _ _ (.ok _)) (.no _)
      · exact .no _
  | pick c x y =>
    unfold opK; dsimp only; split
    · exact .ok _
    · exact .no _
  | alloc e =>
    unfold opK; dsimp only; split
    · exact Framed.new (k := fun b s => Rs.ok (AV.ptr b 0) s) _ fun b => .ok _
    · exact .no _
  | box e x =>
    unfold opK; dsimp only; split
    · exact .new _ fun b => .ok _
    · exact .no _
  | build t ps =>
    show Framed ((buildK P t (ps.toList.map (·.1))).run cf a)
    unfold buildK
    split
    · rename_i z fs _ _
      dsimp only
      cases fs.toList.all fun f => tyOk P f.type
      · exact .no _
      · exact .ret _ _
    · rename_i z n e _ _
      dsimp only
      cases tyOk P e
      · exact .no _
      · exact .ret _ _
    · exact .no _
  | buildSlice t n ps =>
    show Framed ((buildSliceK P t n (ps.toList.map (·.1))).run cf a)
    unfold buildSliceK
    split
    · dsimp only
      split
      · rename_i e _ _ z _
        cases (tyOk P e && Nat.ble (n * sizeT P e) 10000 && Nat.beq z.cells.length (sizeT P e))
        · exact .no _
        · simp only [cond_true]
          split
          · exact .new _ fun b => .ok _
          · exact .no _
      · exact .no _
    · exact .no _
  | nilCheck x =>
    unfold opK; dsimp only; split
    · exact .ok _
    · exact .ok _
    · exact .ok _
    · split
      · exact .ok _
      · exact .no _
    · exact .no _
  | binOp op t x y yt =>
    show Framed ((binK P op t x y).run cf a)
    unfold binK
    dsimp only
    split
    · dsimp only; split
      · split
        · exact .ok _
        · exact .ret _ _
      · exact .no _
    · dsimp only; split
      · split
        · exact .ok _
        · exact .ret _ _
      · exact .no _
    · dsimp only; split
      · exact .ret _ _
      · exact .no _
  | unOp op t x =>
    unfold opK; dsimp only; split
    · exact .ret _ _
    · exact .no _
  | convert b c x =>
    show Framed ((convertK P b c).run cf a)
    unfold convertK
    split
    · dsimp only; split
      · exact .ok _
      · exact .ok _
      · exact .no _
    · dsimp only; split
      · exact .ok _
      · exact .ok _
      · exact .no _
    · split
      · dsimp only; split
        · exact .new _ fun b => .ok _
        · exact .new _ fun b => .ok _
        · exact .no _
      · exact .no _
    · split
      · dsimp only; split
        · split
          · exact .firstRet _ _ _ _ _
          · exact .no _
        · exact .no _
      · exact .no _
    · exact .no _
  | makeInterface t x =>
    unfold opK
    dsimp only
    cases concT P t
    · exact .no _
    · simp only [cond_true]; split
      · exact .ok _
      · exact .no _
  | makeFunc f x c => exact .ok _
  | makeMap t r => cases r with
    | none => exact .new _ fun b => .ok _
    | some r => exact .no _
  | makeChan t x =>
    show Framed ((makeChanK P t).run cf a)
    unfold makeChanK
    split
    · rename_i e _
      cases (tyOk P e && Nat.ble (bytesT P e) 10000)
      · exact .no _
      · simp only [cond_true]; split
        · exact .cond _ (.new _ fun b => .ok _) (.no _)
        · exact .no _
    · exact .no _
  | makeSlice t l c =>
    show Framed ((makeSliceK P t).run cf a)
    unfold makeSliceK
    split
    · split
      · rename_i e _ _ z _
        cases (tyOk P e && Nat.ble (bytesT P e) 10000 && Nat.beq z.cells.length (sizeT P e))
        · exact .no _
        · simp only [Bool.not_true, cond_false]; split
          · exact .cond _ (.new _ fun b => .ok _) (.no _)
          · exact .no _
      · exact .no _
    · exact .no _
  | slice t x l h m =>
    show Framed ((sliceK P t l.isSome h.isSome m.isSome).run cf a)
    unfold sliceK
    split
    · rename_i e _
      dsimp only
      cases tyOk P e
      · exact .no _
      · simp only [Bool.not_true, cond_false]; split
        · split
          · split
            · exact .ok _
            · exact openSlice_framed _ _ _ _ _ _
          · exact .no _
        · exact .no _
    · dsimp only; split
      · split
        · exact .ret _ _
        · exact .no _
      · exact .no _
    · rename_i n e _
      dsimp only
      cases tyOk P e
      · exact .no _
      · simp only [Bool.not_true, cond_false]; split
        · split
          · exact .ret _ _
          · exact .no _
        · exact .no _
    · exact .no _
  | fieldAddr t x f =>
    show Framed ((fieldAddrK P t f).run cf a)
    unfold fieldAddrK
    split
    · split
      · rename_i d _
        dsimp only
        cases (tyOk P d.type && !(Nat.beq (sizeT P d.type) 0))
        · exact .no _
        · simp only [cond_true]; split
          · exact .ok _
          · exact .no _
      · exact .no _
    · exact .no _
  | field t x f =>
    show Framed ((fieldK P t f).run cf a)
    unfold fieldK
    split
    · split
      · rename_i d _
        dsimp only
        cases tyOk P d.type
        · exact .no _
        · simp only [cond_true]; split
          · exact .ret _ _
          · exact .no _
      · exact .no _
    · exact .no _
  | indexAddr t x i =>
    show Framed ((indexAddrK P t).run cf a)
    unfold indexAddrK
    split
    · rename_i e _
      dsimp only
      cases tyOk P e
      · exact .no _
      · simp only [Bool.not_true, cond_false]; split
        · exact .cond _ (.ok _) (.no _)
        · exact .no _
    · rename_i n e _
      dsimp only
      cases tyOk P e
      · exact .no _
      · simp only [Bool.not_true, cond_false]; split
        · exact .cond _ (.ok _) (.no _)
        · exact .no _
    · exact .no _
  | index t x i =>
    show Framed ((indexK P t).run cf a)
    unfold indexK
    split
    · dsimp only; split
      · split
        · exact .ok _
        · exact .no _
      · exact .no _
    · rename_i n e _
      dsimp only
      cases tyOk P e
      · exact .no _
      · simp only [Bool.not_true, cond_false]; split
        · exact .cond _ (.ret _ _) (.no _)
        · exact .no _
    · exact .no _
  | lookup t x i ok =>
    show Framed ((lookupK P t ok).run cf a)
    unfold lookupK
    split
    · split
      · dsimp only; split
        · exact .cond _ (.ok _) (.no _)
        · refine .look _ fun o => ?_
          split
          · refine .cond _ ?_ (.no _)
            split
            · exact .ok _
            · exact .no _
          · exact .no _
        · exact .no _
      · exact .no _
    · exact .no _
  | mapUpdate t m k x =>
    show Framed ((mapUpdateK P t).run cf a)
    unfold mapUpdateK
    split
    · split
      · dsimp only; split
        · refine .look _ fun o => ?_
          split
          · split
            · exact .okPut _ _ _
            · exact .okPut _ _ _
            · exact .no _
          · exact .no _
        · exact .no _
      · exact .no _
    · exact .no _
  | typeAssert x b t ok =>
    show Framed ((typeAssertK P t ok).run cf a)
    have hn : ∀ z, Framed (notA ok z) := fun z => .cond _ (.ok _) (.no _)
    unfold typeAssertK
    split
    · split
      · dsimp only; split
        · split
          · exact .ok _
          · exact hn _
          · exact .no _
        · exact hn _
        · exact .no _
      · dsimp only; split
        · exact .cond _ (.ok _) (hn _)
        · exact hn _
        · exact .no _
      · exact .no _
    · exact .no _
  | extract x i =>
    unfold opK; dsimp only; split
    · split
      · exact .ok _
      · exact .no _
    · exact .no _
  | send c x =>
    unfold opK; dsimp only; split
    · unfold sendA; split
      · refine .look _ fun o => ?_
        split
        · exact .cond _ (.okPut _ _ _) (.no _)
        · exact .no _
      · exact .no _
    · exact .no _
  | recv t c ok =>
    unfold opK; dsimp only; split
    · split
      · dsimp only; split
        · unfold recvA; split
          · refine .look _ fun o => ?_
            split
            · exact .okPut _ _ _
            · exact .ok _
            · exact .no _
          · exact .no _
        · exact .no _
      · exact .no _
    · exact .no _
  | select cs b =>
    cases b with
    | true => exact .no _
    | false =>
      unfold opK; dsimp only; split
      · unfold selectK; split
        · split
          · dsimp only; split
            · refine .look _ fun o => ?_
              split
              · exact .cond _ (.okPut _ _ _) (.ok _)
              · exact .no _
            · exact .no _
          · dsimp only; split
            · refine .look _ fun o => ?_
              split
              · exact .okPut _ _ _
              · exact .ok _
              · exact .ok _
              · exact .no _
            · exact .no _
        · exact .no _
      · exact .no _
  | _ => exact .no _
end
end Go.Ev
namespace Go.Ev
open Go.RowKit (Below)
open Go.Conc (solo G rcase scase)
section
variable {P : Program} {ρ : Env} {B0 : Nat} {w0 w : World}
/-- What is known of the frame that a deferred call was made from: no panic is under way. -/
def Ctx (dfr : Bool) (b : Frame) (cs : List Frame) : Prop := dfr = true → b.kind = .deferred ∧ recoverD cs = none
/-- One operation of a region is done, in whatever frame. -/
def OpSteps (P : Program) (dfr : Bool) (ops : Array Oper) (i : Nat) (a : Act) (w : World) (R : Act → World → Prop) : Prop :=
  ∀ (b : Frame) (k : List Item) (cs : List Frame) (rest : List Nat), Ctx dfr b cs → ∃ a' w', R a' w' ∧ Steps P (lone (b.at a (.inRegion ops (i :: rest) :: k)) cs w) (lone (b.at a' (.inRegion ops rest :: k)) cs w')
theorem opSteps_of_wp {dfr : Bool} {ops : Array Oper} {i : Nat} {o : Oper} {a : Act} {R : Act → World → Prop} (ho : ops[i]? = some o) (hw : Region.wanted o (yielded ops a.tmps) = true) (h : o.wp P a w R (fun _ _ _ => False)) : OpSteps P dfr ops i a w R := by
  intro b k cs rest _
  have hg := stepG_op (P := P) (b := b) (k := k) (cs := cs) (w := w) (rest := rest) ho hw
  have hfin : ∀ v, (b.at a (.inRegion ops (i :: rest) :: k)).finish v = b.at (a.put o.dst v) (.inRegion ops rest :: k) := by
    intro v; rw [Frame.finish_at, ho]; rfl
  simp only [Oper.wp, Oper.upon] at h
  split at h
  · rename_i v w' hr
    refine ⟨_, w', h, .one (step_lone_go ?_)⟩
    rw [hg, ← hfin]; simp [stepG.apply, hr]
  · rename_i w' hr
    refine ⟨_, w', h, .one (step_lone_go ?_)⟩
    rw [hg, ← hfin]; simp [stepG.apply, hr]
  · rename_i d w' hr
    refine ⟨_, w', h, .one (step_lone_go ?_)⟩
    have : ({ b.at a (.inRegion ops (i :: rest) :: k) with defers := d :: a.defers } : Frame).finish undef =
        b.at ({ a with defers := d :: a.defers }.put o.dst undef) (.inRegion ops rest :: k) := by
      have := Frame.finish_at b { a with defers := d :: a.defers } ops i rest k undef
      rw [ho] at this; exact this
    rw [hg]; simp only [stepG.apply, Sem.runT_eq, hr, GStep.bare_after]
    exact congrArg (fun fr => GStep.go { frame := fr, callers := cs, status := .running, dying := none } w') this
  · rename_i f args w' hr
    obtain ⟨e, w'', fr, hR, hsteps, _, hleave⟩ := h (b.at a (.inRegion ops (i :: rest) :: k) :: cs)
    have henter : step P (lone (b.at a (.inRegion ops (i :: rest) :: k)) cs w) =
        .next (lone (Frame.enter P f args .normal) (b.at a (.inRegion ops (i :: rest) :: k) :: cs) w') :=
      step_lone_go (by rw [hg]; simp [stepG.apply, hr, Frame.at])
    cases e with
    | returned v =>
      refine ⟨_, w'', hR, .head henter (Steps.trans hsteps (.one ?_))⟩
      rw [← hfin]; exact step_leave_returned hleave
    | panicked chain => exact hR.elim
    | outgrown => obtain ⟨_, _, hq⟩ := hR; exact hq.elim
  · rename_i row args w' hr
    obtain ⟨v, w'', hR, hsteps⟩ := h (b.at a (.inRegion ops (i :: rest) :: k)) cs
    have henter : step P (lone (b.at a (.inRegion ops (i :: rest) :: k)) cs w) =
        .next (lone (Frame.ofRow P row args .normal) (b.at a (.inRegion ops (i :: rest) :: k) :: cs) w') :=
      step_lone_go (by rw [hg]; simp [stepG.apply, hr, Frame.at])
    refine ⟨_, w'', hR, .head henter ?_⟩
    rw [← hfin]; exact hsteps
  · exact h.elim
  · exact h.elim
theorem opSteps_skip {dfr : Bool} {ops : Array Oper} {i : Nat} {o : Oper} {a : Act} {R : Act → World → Prop} (ho : ops[i]? = some o) (hw : Region.wanted o (yielded ops a.tmps) = false) (h : R (a.put o.dst undef) w) : OpSteps P dfr ops i a w R := by
  intro b k cs rest _
  have hs := step_op_skip (P := P) (b := b) (a := a) (k := k) (cs := cs) (w := w) (ops := ops) (i := i) (rest := rest) (by simp [ho, hw])
  simp only [ho, Option.bind_some] at hs
  exact ⟨_, w, h, .one hs⟩
theorem opSteps_recover {ops : Array Oper} {i : Nat} {o : Oper} {a : Act} {R : Act → World → Prop} (ho : ops[i]? = some o) (hw : Region.wanted o (yielded ops a.tmps) = true) (hr : (execOp a.eval o).run P w = .ok .recover w) (h : R (a.put o.dst .nilIface) w) : OpSteps P true ops i a w R := by
  intro b k cs rest hc
  obtain ⟨hk, hrec⟩ := hc rfl
  have hg := stepG_op (P := P) (b := b) (k := k) (cs := cs) (w := w) (rest := rest) ho hw
  have hfin : ∀ v, (b.at a (.inRegion ops (i :: rest) :: k)).finish v = b.at (a.put o.dst v) (.inRegion ops rest :: k) := by
    intro v; rw [Frame.finish_at, ho]; rfl
  have hk' : (b.at a (.inRegion ops (i :: rest) :: k)).kind = .deferred := hk
  have htr := tryRecover_deferred hk' cs
  refine ⟨_, w, h, .one (step_lone_go ?_)⟩
  rw [hg, ← hfin]
  simp only [Frame.at] at htr ⊢
  simp [stepG.apply, hr, htr, hrec]
/-- A step of the machine's: what is sent and received. -/
theorem opSteps_comm {dfr : Bool} {ops : Array Oper} {i : Nat} {o : Oper} {a : Act} {R : Act → World → Prop} {cases : Array CommCase} {bl : Bool} {sh : CommShape} {v : Value} {w' : World} (ho : ops[i]? = some o) (hw : Region.wanted o (yielded ops a.tmps) = true)
    (hr : (execOp a.eval o).run P w = .ok (.comm cases bl sh) w) (h : R (a.put o.dst v) w')
    (hstep : ∀ (fr : Frame) (cs : List Frame) (es : Array Event), stepG P true (G fr cs) w = .comm (G fr cs) cases bl sh w es → step P (solo (G fr cs) w) = .next (solo (G (fr.finish v) cs) w')) : OpSteps P dfr ops i a w R := by
  intro b k cs rest _
  have hg := stepG_op (P := P) (b := b) (k := k) (cs := cs) (w := w) (rest := rest) ho hw
  have hfin : ∀ v, (b.at a (.inRegion ops (i :: rest) :: k)).finish v = b.at (a.put o.dst v) (.inRegion ops rest :: k) := by
    intro v; rw [Frame.finish_at, ho]; rfl
  have hrT : ((execOp a.eval o).runT P w #[]).1 = .ok (.comm cases bl sh) w := by rw [Sem.runT_fst, hr]
  refine ⟨_, w', h, .one ?_⟩
  rw [← hfin]
  have hex : ∃ es, stepG P true (G (b.at a (.inRegion ops (i :: rest) :: k)) cs) w = .comm (G (b.at a (.inRegion ops (i :: rest) :: k)) cs) cases bl sh w es := by
    show ∃ es, stepG P true { frame := b.at a (.inRegion ops (i :: rest) :: k), callers := cs, status := .running, dying := none } w = _
    rw [hg]
    simp only [stepG.apply, Sem.runT_eq, hr, if_true]
    exact ⟨_, rfl⟩
  obtain ⟨es, hes⟩ := hex
  exact hstep _ cs es hes
end
end Go.Ev
namespace Go.Ev
open Go.RowKit (Below)
open Go.Conc (solo G rcase scase)
section
variable {P : Program} {ρ : Env} {B0 : Nat} {w0 w : World}
theorem chan_upd {b B κ cap i j i' j' : Nat} {buf buf' : List AV} {cl cl' : Bool} {vs vs' : List Value} {h : Tr AO} (hr : Rel B0 w0 ρ h w) (ho : h.get b = some (.chan cap buf cl i j)) (hρ : ρ b = some (B, κ)) (hob : w.heap[B]? = some (.chan cap ⟨vs⟩ cl i j false)) (hv : VRs ρ buf' vs') :
    Rel B0 w0 ρ (h.set b (.chan cap buf' cl' i' j')) (w.setChan B cap ⟨vs'⟩ cl' i' j' false) :=
  hr.upd ho (by simp) hρ (Upd.setObj hob) ⟨vs', rfl, hv⟩ (by simp)
theorem com_sound {dfr : Bool} {ops : Array Oper} {i : Nat} {o : Oper} {a : Act} {cf : CallF} {av : List AV} {s s' : S} {v : AV} (hway : wayOf o.op = .com) (ho : ops[i]? = some o) (hw : Region.wanted o (yielded ops a.tmps) = true)
    (hrun : (opK P o.op).run cf av s = .ok v s') (hav : VRs ρ av (o.op.operands.toList.map a.eval)) (hr : Rel B0 w0 ρ s.h w) : OpSteps P dfr ops i a w (fun a' w' => ∃ v', a' = a.put o.dst v' ∧ Done B0 w0 ρ s v s' v' w') := by
  cases hop : o.op <;> rw [hop] at hway hrun hav <;> try (cases hway; done)
  case call c =>
    exfalso
    unfold wayOf at hway
    split at hway
    all_goals first | (cases hway; done) | (rename_i hh; cases hh; done)
  case send ch x =>
    obtain ⟨p, q, rfl, hp, hq⟩ := vrs2 (x := a.eval ch) (y := a.eval x) hav
    have hrun : sendA p q s = .ok v s' := hrun
    unfold sendA at hrun
    split at hrun
    · rename_i b
      obtain ⟨B, κ, hρ, hch⟩ := hp
      obtain ⟨o', ho', hk⟩ := look_inv hrun
      split at hk
      · rename_i cap buf j k
        cases hlt : Nat.blt buf.length cap with
        | false => rw [hlt] at hk; cases hk
        | true =>
          rw [hlt] at hk
          cases hk
          obtain ⟨vs, hob, hvs⟩ := hr.or ho' (by simp) hρ
          have hlt' : vs.length < cap := by rw [VRs.len hvs]; simpa [Nat.blt_eq] using hlt
          refine opSteps_comm (v := undef) (cases := #[scase B (a.eval x) (.tuple #[])]) (bl := true) (sh := .send) (w' := w.setChan B cap ((⟨vs⟩ : Array Value).push (a.eval x)) false (j + 1) k false) ho hw (by simp [execOp, hop, hch, scase]) ?_ ?_
          · refine ⟨undef, rfl, ρ, Ext.refl _ _ _, ⟨[], rfl, rfl⟩, ?_⟩
            have : (⟨vs⟩ : Array Value).push (a.eval x) = ⟨vs ++ [a.eval x]⟩ := by apply Array.ext'; simp
            rw [this]
            exact chan_upd hr ho' hρ hob (VRs.append hvs ⟨_, _, hq, rfl, rfl⟩)
          · intro fr cs es h
            exact Go.Conc.step_lone_send_room h hob hlt'
      · cases hk
    · cases hrun
  case recv t ch ok =>
    obtain ⟨p, rfl, hp⟩ := vrs1 (x := a.eval ch) hav
    unfold opK at hrun
    dsimp only at hrun
    split at hrun
    · rename_i d e hu
      split at hrun
      · rename_i z hz
        have hrun : recvA p z ok s = .ok v s' := hrun
        obtain ⟨zv, hzr, hzv⟩ := run_zero (P := P) (w := w) hz
        unfold recvA at hrun
        split at hrun
        · rename_i b
          obtain ⟨B, κ, hρ, hch⟩ := hp
          have hex : (execOp a.eval o).run P w = .ok (.comm #[rcase B zv] true (.recv ok)) w := by
            simp only [execOp, hop, Sem.run_bind, run_under hu, Result.andThen_ok, hzr, hch, rcase]
            rfl
          obtain ⟨o', ho', hk⟩ := look_inv hrun
          split at hk
          · rename_i cap x buf cl j k
            cases hk
            obtain ⟨vs, hob, ⟨u, us, hu1, hus, rfl⟩⟩ := hr.or ho' (by simp) hρ
            refine opSteps_comm (v := Go.Conc.got ok u true) (w' := w.setChan B cap ⟨us⟩ cl j (k + 1) false) ho hw hex ?_ ?_
            · refine ⟨_, rfl, ρ, Ext.refl _ _ _, ?_, chan_upd hr ho' hρ hob hus⟩
              cases ok
              · exact hu1
              · exact ⟨_, ⟨_, _, hu1, ⟨_, _, rfl, rfl, rfl⟩, rfl⟩, rfl⟩
            · intro fr cs es h
              have := Go.Conc.step_lone_recv_buf ok h hob (by show 0 < (u :: us).length; simp)
              have e1 : (⟨u :: us⟩ : Array Value).getD 0 undef = u := rfl
              have e2 : (⟨u :: us⟩ : Array Value).extract 1 (⟨u :: us⟩ : Array Value).size = ⟨us⟩ := by
                apply Array.ext'; simp
              rw [e1, e2] at this
              exact this
          · rename_i cap j k
            cases hk
            obtain ⟨vs, hob, hvs⟩ := hr.or ho' (by simp) hρ
            cases hvs
            refine opSteps_comm (v := Go.Conc.got ok zv false) (w' := w) ho hw hex ?_ ?_
            · refine ⟨_, rfl, Done.same hr rfl ?_⟩
              cases ok
              · exact hzv ρ
              · exact ⟨_, ⟨_, _, hzv ρ, ⟨_, _, rfl, rfl, rfl⟩, rfl⟩, rfl⟩
            · intro fr cs es h
              exact Go.Conc.step_lone_recv_shut ok h hob
          · cases hk
        · cases hrun
      · cases hrun
    · cases hrun
  case select scs bl =>
    cases bl with
    | true => cases hrun
    | false =>
      unfold opK at hrun
      dsimp only at hrun
      split at hrun
      · rename_i c
        unfold selectK at hrun
        split at hrun
        · rename_i z hz
          obtain ⟨zv, hzr, hzv⟩ := run_zero (P := P) (w := w) hz
          have hex : (execOp a.eval o).run P w = .ok (.comm #[{ chan := a.eval c.chan, send := c.send.map a.eval, zero := zv }] false .select) w := by
            simp only [execOp, hop, Array.mapM_eq_foldlM, List.foldlM_toArray', List.foldlM_cons, List.foldlM_nil, map_eq_pure_bind, Sem.run_bind, hzr, Result.andThen_ok]
            rfl
          split at hrun
          · rename_i xo hx
            have hav : VRs ρ av [a.eval c.chan, a.eval xo] := by
              have e : (Op.select ⟨[c]⟩ false).operands.toList.map a.eval = [a.eval c.chan, a.eval xo] := by
                simp [Op.operands, hx]
              rw [e] at hav; exact hav
            obtain ⟨p, q, rfl, hp, hq⟩ := vrs2 hav
            dsimp only at hrun
            split at hrun
            · rename_i b v' heq
              cases heq
              obtain ⟨B, κ, hρ, hch⟩ := hp
              obtain ⟨o', ho', hk⟩ := look_inv hrun
              split at hk
              · rename_i cap buf j k
                obtain ⟨vs, hob, hvs⟩ := hr.or ho' (by simp) hρ
                rw [hch, hx] at hex
                cases hlt : Nat.blt buf.length cap with
                | true =>
                  rw [hlt] at hk
                  cases hk
                  have hlt' : vs.length < cap := by rw [VRs.len hvs]; simpa [Nat.blt_eq] using hlt
                  refine opSteps_comm (v := .tuple #[goInt 0, .bool false]) (cases := #[scase B (a.eval xo) zv]) (w' := w.setChan B cap ((⟨vs⟩ : Array Value).push (a.eval xo)) false (j + 1) k false) ho hw hex ?_ ?_
                  · refine ⟨_, rfl, ρ, Ext.refl _ _ _, ?_, ?_⟩
                    · exact ⟨_, ⟨_, _, rfl, ⟨_, _, rfl, rfl, rfl⟩, rfl⟩, rfl⟩
                    have : (⟨vs⟩ : Array Value).push (a.eval xo) = ⟨vs ++ [a.eval xo]⟩ := by apply Array.ext'; simp
                    rw [this]
                    exact chan_upd hr ho' hρ hob (VRs.append hvs ⟨_, _, hq, rfl, rfl⟩)
                  · intro fr cs es h
                    exact Go.Conc.step_lone_select_send_room h hob hlt'
                | false =>
                  rw [hlt] at hk
                  cases hk
                  have hlt' : cap ≤ vs.length := by
                    rw [VRs.len hvs]
                    refine Nat.not_lt.mp fun h => ?_
                    have h2 : Nat.blt buf.length cap = true := by simpa [Nat.blt_eq] using h
                    rw [h2] at hlt; cases hlt
                  refine opSteps_comm (v := .tuple #[goInt (-1), .bool false]) (cases := #[scase B (a.eval xo) zv]) (w' := w) ho hw hex ?_ ?_
                  · refine ⟨_, rfl, Done.same hr rfl ?_⟩
                    exact ⟨_, ⟨_, _, rfl, ⟨_, _, rfl, rfl, rfl⟩, rfl⟩, rfl⟩
                  · intro fr cs es h
                    exact Go.Conc.step_lone_select_send_full h hob hlt'
              · cases hk
            · cases hrun
          · rename_i hx
            have hav : VRs ρ av [a.eval c.chan] := by
              have e : (Op.select ⟨[c]⟩ false).operands.toList.map a.eval = [a.eval c.chan] := by
                simp [Op.operands, hx]
              rw [e] at hav; exact hav
            obtain ⟨p, rfl, hp⟩ := vrs1 hav
            dsimp only at hrun
            split at hrun
            · rename_i b heq
              cases heq
              obtain ⟨B, κ, hρ, hch⟩ := hp
              obtain ⟨o', ho', hk⟩ := look_inv hrun
              rw [hch, hx] at hex
              split at hk
              · rename_i cap x buf cl j k
                cases hk
                obtain ⟨vs, hob, ⟨u, us, hu1, hus, rfl⟩⟩ := hr.or ho' (by simp) hρ
                refine opSteps_comm (v := .tuple #[goInt 0, .bool true, u]) (cases := #[rcase B zv]) (w' := w.setChan B cap ((⟨us⟩ : Array Value)) cl j (k + 1) false) ho hw hex ?_ ?_
                · refine ⟨_, rfl, ρ, Ext.refl _ _ _, ?_, chan_upd hr ho' hρ hob hus⟩
                  exact ⟨_, ⟨_, _, rfl, ⟨_, _, rfl, ⟨_, _, hu1, rfl, rfl⟩, rfl⟩, rfl⟩, rfl⟩
                · intro fr cs es h
                  have := Go.Conc.step_lone_select_recv_buf h hob (by show 0 < (u :: us).length; simp)
                  have e1 : (⟨u :: us⟩ : Array Value).getD 0 undef = u := rfl
                  have e2 : (⟨u :: us⟩ : Array Value).extract 1 (⟨u :: us⟩ : Array Value).size = ⟨us⟩ := by
                    apply Array.ext'; simp
                  rw [e1, e2] at this
                  exact this
              · rename_i cap j k
                cases hk
                obtain ⟨vs, hob, hvs⟩ := hr.or ho' (by simp) hρ
                cases hvs
                refine opSteps_comm (v := .tuple #[goInt 0, .bool false, zv]) (cases := #[rcase B zv]) (w' := w) ho hw hex ?_ ?_
                · refine ⟨_, rfl, Done.same hr rfl ?_⟩
                  exact ⟨_, ⟨_, _, rfl, ⟨_, _, rfl, ⟨_, _, hzv ρ, rfl, rfl⟩, rfl⟩, rfl⟩, rfl⟩
                · intro fr cs es h
                  exact Go.Conc.step_lone_select_recv_shut h hob
              · rename_i cap j k
                cases hk
                obtain ⟨vs, hob, hvs⟩ := hr.or ho' (by simp) hρ
                cases hvs
                refine opSteps_comm (v := .tuple #[goInt (-1), .bool false, zv]) (cases := #[rcase B zv]) (w' := w) ho hw hex ?_ ?_
                · refine ⟨_, rfl, Done.same hr rfl ?_⟩
                  exact ⟨_, ⟨_, _, rfl, ⟨_, _, rfl, ⟨_, _, hzv ρ, rfl, rfl⟩, rfl⟩, rfl⟩, rfl⟩
                · intro fr cs es h
                  exact Go.Conc.step_lone_select_default h hob
              · cases hk
            · cases hrun
        · cases hrun
      · cases hrun
end
end Go.Ev
namespace Go.Ev
open Go.RowKit (Below)
/-- What was put off. -/
def DR (ρ : Env) (d : DefA) (x : Deferred) : Prop := ∃ vc va, VRs ρ d.cap vc ∧ VRs ρ d.args va ∧ x = { target := .fn d.f ⟨vc⟩, args := ⟨va⟩ }
def DRs (ρ : Env) : List DefA → List Deferred → Prop
  | [], ds => ds = []
  | d :: l, ds => ∃ x xs, DR ρ d x ∧ DRs ρ l xs ∧ ds = x :: xs
theorem DRs.mono {ρ ρ' : Env} (h : ρ.le ρ') : ∀ (l : List DefA) (ds : List Deferred), DRs ρ l ds → DRs ρ' l ds
  | [], _, e => e
  | _ :: l, _, ⟨x, xs, ⟨vc, va, h1, h2, e⟩, h3, e2⟩ => ⟨x, xs, ⟨vc, va, VRs.mono h _ _ h1, VRs.mono h _ _ h2, e⟩, DRs.mono h l xs h3, e2⟩
/-- A frame and the model's. -/
structure FRel (ρ : Env) (nt : Nat) (fr : Fr) (a : Act) : Prop where
  size : a.tmps.size = nt
  t : ∀ i, VR ρ (fr.t i) (a.tmps.getD i undef)
  d : DRs ρ fr.d a.defers
section
variable {P : Program} {ρ : Env} {B0 nt : Nat} {w0 w : World} {fr fr' : Fr} {a : Act}
theorem FRel.mono {ρ' : Env} (h : ρ.le ρ') (f : FRel ρ nt fr a) : FRel ρ' nt fr a :=
  ⟨f.size, fun i => VR.mono h _ _ (f.t i), DRs.mono h _ _ f.d⟩
theorem FRel.put {v : AV} {v' : Value} (f : FRel ρ nt fr a) (hv : VR ρ v v') (dst : Option Nat) : FRel ρ nt (fr.put nt dst v) (a.put dst v') := by
  cases dst with
  | none => exact f
  | some d =>
    unfold Fr.put Act.put
    dsimp only
    cases hlt : Nat.blt d nt with
    | true =>
      have hlt : d < nt := by simpa [Nat.blt_eq] using hlt
      refine ⟨by simp [f.size], fun i => ?_, f.d⟩
      show VR ρ (cond (Nat.beq i d) v (fr.t i)) _
      rw [nbeq, cond_eq]
      by_cases hi : i = d
      · subst hi
        simp [Array.getD_eq_getD_getElem?, Array.getElem?_setIfInBounds, f.size, hlt]
        exact hv
      · have := f.t i
        rw [if_neg (by simpa using hi)]
        rw [Array.getD_eq_getD_getElem?] at this ⊢
        rw [Array.getElem?_setIfInBounds, if_neg (fun e => hi e.symm)]
        exact this
    | false =>
      have hge : ¬ d < nt := fun h => by
        have h2 : Nat.blt d nt = true := by simpa [Nat.blt_eq] using h
        rw [h2] at hlt; cases hlt
      have : a.tmps.setIfInBounds d v' = a.tmps := by
        unfold Array.setIfInBounds
        rw [dif_neg (by rw [f.size]; exact hge)]
      rw [this]
      exact f
theorem evO_sound (f : FRel ρ nt fr a) {o : Operand} {p : AV} (h : evO fr.t o = some p) : VR ρ p (a.eval o) := by
  cases o with
  | tmp i => cases h; exact f.t i
  | const v => exact ofV_sound ρ v p h
  | global g => cases h
  | func g => cases h; exact ⟨[], [], rfl, rfl, rfl⟩
theorem evs_sound (f : FRel ρ nt fr a) : ∀ {l : List Operand} {av : List AV}, evs fr.t l = some av → VRs ρ av (l.map a.eval)
  | [], av, h => by cases h; rfl
  | o :: l, av, h => by
    unfold evs at h
    split at h
    · rename_i v vs h1 h2
      cases h
      exact ⟨_, _, evO_sound f h1, evs_sound f h2, rfl⟩
    · cases h
theorem vr_bool {p : AV} {b : Bool} (h : VR ρ p (.bool b)) : p = .bool b := by
  cases p <;> simp_all [VR]
theorem wantedA_eq (f : FRel ρ nt fr a) (ops : Array Oper) (o : Oper) : wantedA ops o fr.t = Region.wanted o (yielded ops a.tmps) := by
  unfold wantedA Region.wanted
  cases o.guard with
  | none => rfl
  | some g =>
    obtain ⟨j, want⟩ := g
    dsimp only
    unfold yielded
    cases hd : (ops[j]?).bind (·.dst) with
    | none => rfl
    | some d =>
      dsimp only [Option.bind_some]
      have ht := f.t d
      rw [Array.getD_eq_getD_getElem?] at ht
      cases hx : a.tmps[d]? with
      | none =>
        rw [hx] at ht
        have : ∀ b, fr.t d ≠ .bool b := by
          intro b hb; rw [hb] at ht; cases ht
        cases hp : fr.t d <;> first | rfl | exact absurd hp (this _)
      | some v =>
        rw [hx] at ht
        dsimp only [Option.getD_some] at ht
        by_cases hb : ∃ b, v = .bool b
        · obtain ⟨b, rfl⟩ := hb
          rw [vr_bool ht]
          rfl
        · have h1 : ∀ b, fr.t d ≠ .bool b := fun b e => hb ⟨b, by rw [e] at ht; exact ht⟩
          have h2 : (match fr.t d with | .bool b => b == want | _ => false) = false := by
            cases hp : fr.t d <;> first | rfl | exact absurd hp (h1 _)
          refine Eq.trans h2 ?_
          cases v <;> first | rfl | exact absurd ⟨_, rfl⟩ hb
/-- A step of the region: where the frame and memory stand behind it. -/
def Stood (B0 : Nat) (w0 : World) (ρ : Env) (nt : Nat) (s : S) (fr' : Fr) (s' : S) (a' : Act) (w' : World) : Prop :=
  ∃ ρ', Ext ρ ρ' s.n s'.n ∧ FRel ρ' nt fr' a' ∧ Rel B0 w0 ρ' s'.h w'
theorem OpSteps.mono {dfr : Bool} {ops : Array Oper} {i : Nat} {R R' : Act → World → Prop} (h : OpSteps P dfr ops i a w R) (hR : ∀ a' w', R a' w' → R' a' w') : OpSteps P dfr ops i a w R' := by
  intro b k cs rest hc
  obtain ⟨a', w', r, st⟩ := h b k cs rest hc
  exact ⟨a', w', hR _ _ r, st⟩
theorem stepOp_sound {cf : CallF} (hg : Good P cf) {ops : Array Oper} {i : Nat} {o : Oper} {s s' : S} (ho : ops[i]? = some o) (f : FRel ρ nt fr a) (hr : Rel B0 w0 ρ s.h w)
    (h : stepOp P nt ops o cf fr s = .ok fr' s') (hf : Fresh ρ s.n s'.n) : fr'.dfr = fr.dfr ∧ OpSteps P fr.dfr ops i a w (Stood B0 w0 ρ nt s fr' s') := by
  have hpd : ∀ (x : Fr) d v, (x.put nt d v).dfr = x.dfr := by
    intro x d v; unfold Fr.put; cases d with
    | none => rfl
    | some d => dsimp only; cases Nat.blt d nt <;> rfl
  have hu : VR ρ undefA undef := ⟨[], rfl, rfl⟩
  unfold stepOp at h
  cases hw : wantedA ops o fr.t with
  | false =>
    rw [hw] at h
    cases h
    rw [wantedA_eq f] at hw
    exact ⟨hpd _ _ _, opSteps_skip ho hw ⟨ρ, Ext.refl _ _ _, f.put hu _, hr⟩⟩
  | true =>
    rw [hw] at h
    rw [wantedA_eq f] at hw
    dsimp only [cond, prepK] at h
    cases hev : evs fr.t o.op.operands.toList with
    | none => rw [hev] at h; cases h
    | some av =>
      rw [hev] at h
      dsimp only at h
      have hav := evs_sound f hev
      cases hway : wayOf o.op with
      | val =>
        rw [hway] at h
        dsimp only at h
        split at h
        · rename_i v s1 hrun
          cases h
          refine ⟨hpd _ _ _, opSteps_of_wp ho hw ?_⟩
          exact opK_sound o.op hway cf hg av s v s' hrun o a w B0 w0 ρ rfl hav hr hf _ _ fun v' w' ⟨ρ', he, hv, hr'⟩ => ⟨ρ', he, (f.mono he.le).put hv _, hr'⟩
        · cases h
      | com =>
        rw [hway] at h
        dsimp only at h
        split at h
        · rename_i v s1 hrun
          cases h
          refine ⟨hpd _ _ _, (com_sound hway ho hw hrun hav hr).mono ?_⟩
          rintro a' w' ⟨v', rfl, ρ', he, hv, hr'⟩
          exact ⟨ρ', he, (f.mono he.le).put hv _, hr'⟩
        · cases h
      | rcv =>
        rw [hway] at h
        dsimp only at h
        cases hd : fr.dfr with
        | false => rw [hd] at h; cases h
        | true =>
          rw [hd] at h
          cases h
          refine ⟨by rw [hpd]; exact hd, opSteps_recover ho hw ?_ ⟨ρ, Ext.refl _ _ _, f.put (v := .nili) (v' := .nilIface) rfl _, hr⟩⟩
          cases hop : o.op <;> rw [hop] at hway <;> try (cases hway; done)
          case call c =>
            unfold wayOf at hway
            split at hway
            all_goals first | (cases hway; done) | skip
            rename_i heq
            cases heq
            simp only [execOp, hop]
            rfl
      | dfr =>
        rw [hway] at h
        dsimp only at h
        cases hv : ofValueK o.op with
        | false => rw [hv] at h; cases h
        | true =>
          rw [hv] at h
          dsimp only [cond] at h
          split at h
          · rename_i g fst cap l
            cases h
            refine ⟨hpd _ _ _, opSteps_of_wp ho hw ?_⟩
            cases hop : o.op <;> rw [hop] at hv hav <;> try (cases hv; done)
            case defer c =>
              unfold ofValueK at hv
              dsimp only at hv
              split at hv
              · rename_i x hx
                have e : (Op.defer c).operands.toList.map a.eval = a.eval x :: c.args.toList.map a.eval := by
                  simp [Op.operands, Call.operands, hx]
                rw [e] at hav
                obtain ⟨fv, ws, ⟨va, vc, h1, h2, hfv⟩, hws, e2⟩ := hav
                cases e2
                unfold Oper.wp
                simp only [execOp, hop, resolve, hx, hfv, Deferred.ofValue]
                have hd : FRel ρ nt { fr with d := ⟨g, cap, fst ++ l⟩ :: fr.d } { a with defers := { target := .fn g ⟨vc⟩, args := (⟨va⟩ : Array Value) ++ c.args.map a.eval } :: a.defers } := by
                  refine ⟨f.size, f.t, _, _, ⟨vc, va ++ c.args.toList.map a.eval, h2, VRs.append h1 hws, ?_⟩, f.d, rfl⟩
                  congr 1
                  apply Array.ext'; simp
                exact ⟨ρ, Ext.refl _ _ _, hd.put hu _, hr⟩
              · cases hv
          · cases h
theorem Framed.iff {α : Type} {m g : S → Rs α} (hm : Framed m) (e : ∀ s b s', g s = .ok b s' ↔ m s = .ok b s') : Framed g := by
  intro s b s' h
  obtain ⟨n1, r, v, e1, e2, e3, e4⟩ := hm s b s' ((e _ _ _).mp h)
  refine ⟨n1, r, v, e1, e2, e3, fun s2 h1 h2 h3 => ?_⟩
  obtain ⟨s2', g1, g2⟩ := e4 s2 h1 h2 h3
  exact ⟨s2', (e _ _ _).mpr g1, g2⟩
theorem stepOp_framed {cf : CallF} (hf : FramedF cf) (ops : Array Oper) (o : Oper) (fr : Fr) : Framed (stepOp P nt ops o cf fr) := by
  have hrun : ∀ av, Framed (fun s => match (opK P o.op).run cf av s with | .ok v s => .ok (fr.put nt o.dst v) s | .no why => .no (why ++ " @ " ++ o.pos)) := by
    intro av
    refine Framed.iff (m := fun s => bindR ((opK P o.op).run cf av s) fun v s => .ok (fr.put nt o.dst v) s) (Framed.bind (f := fun v s => .ok (fr.put nt o.dst v) s) (opK_framed hf o.op av) fun _ => .ok _) ?_
    intro s b s'
    cases (opK P o.op).run cf av s <;> simp [bindR]
  unfold stepOp
  refine .cond _ ?_ (.ok _)
  split
  · exact .no _
  · dsimp only [prepK]
    split
    · exact hrun _
    · exact hrun _
    · refine .cond _ ?_ (.no _)
      split
      · exact .ok _
      · exact .no _
    · exact .cond _ (.ok _) (.no _)
end
end Go.Ev
namespace Go.Ev
open Go.RowKit (Below)
def xOf : X → Exit
  | .nrm => .normal
  | .exit id => .exit id
  | .ret => .ret
theorem Fresh.left {ρ : Env} {a b c : Nat} (h : Fresh ρ a c) (hb : b ≤ c) : Fresh ρ a b := fun id x y => h id x (by omega)
theorem Fresh.right {ρ ρ' : Env} {a b c : Nat} (h : Fresh ρ a c) (hb : a ≤ b) (he : Ext ρ ρ' a b) : Fresh ρ' b c := fun id x y => he.new id (h id (by omega) y) (.inr x)
/-- The code arrives where R says. -/
def CodeTo (P : Program) (dfr : Bool) (c : Code) (a : Act) (w : World) (R : Exit → Act → World → Prop) : Prop :=
  ∀ (b : Frame) (k : List Item) (cs : List Frame), Ctx dfr b cs → ∃ e a' w', R e a' w' ∧ Arrives P (lone (b.at a (.code c :: k)) cs w) b k cs e a' w'
/-- What is left of a region is done. -/
def OpsTo (P : Program) (dfr : Bool) (ops : Array Oper) (is : List Nat) (a : Act) (w : World) (R : Act → World → Prop) : Prop :=
  ∀ (b : Frame) (k : List Item) (cs : List Frame), Ctx dfr b cs → ∃ a' w', R a' w' ∧ Steps P (lone (b.at a (.inRegion ops is :: k)) cs w) (lone (b.at a' (.inRegion ops [] :: k)) cs w')
section
variable {P : Program} {ρ : Env} {B0 nt : Nat} {w0 w : World} {fr fr' : Fr} {a : Act}
theorem CodeTo.mono {dfr : Bool} {c : Code} {R R' : Exit → Act → World → Prop} (h : CodeTo P dfr c a w R) (hR : ∀ e a' w', R e a' w' → R' e a' w') : CodeTo P dfr c a w R' := by
  intro b k cs hc
  obtain ⟨e, a', w', r, st⟩ := h b k cs hc
  exact ⟨e, a', w', hR _ _ _ r, st⟩
theorem Stood.refl {s : S} (f : FRel ρ nt fr a) (hr : Rel B0 w0 ρ s.h w) : Stood B0 w0 ρ nt s fr s a w := ⟨ρ, Ext.refl _ _ _, f, hr⟩
/-- A computation of the evaluator's, and the code that it stands for. -/
structure KOk (P : Program) (nt : Nat) (c : Code) (k : K) : Prop where
  framed : ∀ cf, FramedF cf → ∀ fr, Framed (k.run cf fr)
  sound : ∀ cf, Good P cf → ∀ fr s x fr' s', k.run cf fr s = .ok (x, fr') s' → ∀ (B0 : Nat) (w0 : World) (ρ : Env) (a : Act) (w : World), FRel ρ nt fr a → Rel B0 w0 ρ s.h w → Fresh ρ s.n s'.n →
    CodeTo P fr.dfr c a w (fun e a' w' => e = xOf x ∧ Stood B0 w0 ρ nt s fr' s' a' w')
  dfr : ∀ cf fr s x fr' s', k.run cf fr s = .ok (x, fr') s' → fr'.dfr = fr.dfr
theorem seqOps_framed {cf : CallF} (hf : FramedF cf) (ops : Array Oper) : ∀ (l : List Oper) (fr : Fr), Framed (seqOps P nt ops l cf fr)
  | [], fr => .ok _
  | o :: l, fr => by
    refine Framed.iff (m := fun s => bindR (stepOp P nt ops o cf fr s) fun fr s => seqOps P nt ops l cf fr s) (Framed.bind (f := fun fr s => seqOps P nt ops l cf fr s) (stepOp_framed hf ops o fr) fun fr => seqOps_framed hf ops l fr) ?_
    intro s b s'
    show (match stepOp P nt ops o cf fr s with | .ok fr s => seqOps P nt ops l cf fr s | .no y => .no y) = _ ↔ _
    cases stepOp P nt ops o cf fr s <;> simp [bindR]
theorem stepOp_dfr {cf : CallF} {ops : Array Oper} {o : Oper} {s s' : S} (h : stepOp P nt ops o cf fr s = .ok fr' s') : fr'.dfr = fr.dfr := by
  have hpd : ∀ (x : Fr) d v, (x.put nt d v).dfr = x.dfr := by
    intro x d v; unfold Fr.put; cases d with
    | none => rfl
    | some d => dsimp only; cases Nat.blt d nt <;> rfl
  unfold stepOp at h
  cases hw : wantedA ops o fr.t with
  | false => rw [hw] at h; cases h; exact hpd _ _ _
  | true =>
    rw [hw] at h
    dsimp only [cond] at h
    split at h
    · cases h
    · split at h
      · split at h
        · cases h; exact hpd _ _ _
        · cases h
      · split at h
        · cases h; exact hpd _ _ _
        · cases h
      · split at h
        · split at h
          · cases h; exact hpd _ _ _
          · cases h
        · cases h
      · split at h
        · rename_i hd
          cases h; rw [hpd]
        · cases h
theorem seqOps_nrm {cf : CallF} {ops : Array Oper} {x : X} : ∀ {l : List Oper} {fr fr' : Fr} {s s' : S}, seqOps P nt ops l cf fr s = .ok (x, fr') s' → x = .nrm ∧ fr'.dfr = fr.dfr
  | [], _, _, _, _, h => by cases h; exact ⟨rfl, rfl⟩
  | o :: l, fr, fr', s, s', h => by
    have h : (match stepOp P nt ops o cf fr s with | .ok fr s => seqOps P nt ops l cf fr s | .no y => .no y) = .ok (x, fr') s' := h
    cases hs : stepOp P nt ops o cf fr s with
    | no y => rw [hs] at h; cases h
    | ok fr1 s1 =>
      rw [hs] at h
      obtain ⟨h1, h2⟩ := seqOps_nrm h
      exact ⟨h1, by rw [h2, stepOp_dfr hs]⟩
theorem seqOps_sound {cf : CallF} (hg : Good P cf) {ops : Array Oper} : ∀ (l : List Oper) (i : Nat) (fr : Fr) (s : S) (x : X) (fr' : Fr) (s' : S), ops.toList.drop i = l → seqOps P nt ops l cf fr s = .ok (x, fr') s' →
    ∀ (ρ : Env) (a : Act) (w : World), FRel ρ nt fr a → Rel B0 w0 ρ s.h w → Fresh ρ s.n s'.n → x = .nrm ∧ fr'.dfr = fr.dfr ∧ OpsTo P fr.dfr ops (List.range' i l.length) a w (Stood B0 w0 ρ nt s fr' s')
  | [], i, fr, s, x, fr', s', _, h, ρ, a, w, f, hr, hn => by
    cases h
    exact ⟨rfl, rfl, fun b k cs _ => ⟨a, w, Stood.refl f hr, .refl _ _⟩⟩
  | o :: l, i, fr, s, x, fr', s', hd, h, ρ, a, w, f, hr, hn => by
    have ho : ops[i]? = some o := by
      have : ops.toList[i]? = some o := by
        have := congrArg (·[0]?) hd
        simpa using this
      simpa using this
    have hd' : ops.toList.drop (i + 1) = l := by
      have := congrArg (·.drop 1) hd
      simpa [Nat.add_comm] using this
    have h : (match stepOp P nt ops o cf fr s with | .ok fr s => seqOps P nt ops l cf fr s | .no y => .no y) = .ok (x, fr') s' := h
    cases hs : stepOp P nt ops o cf fr s with
    | no y => rw [hs] at h; cases h
    | ok fr1 s1 =>
      rw [hs] at h
      dsimp only at h
      have h1 := (stepOp_framed hg.framed ops o fr s fr1 s1 hs).1
      have h2 := (seqOps_framed hg.framed ops l fr1 s1 _ s' h).1
      obtain ⟨hd1, st1⟩ := stepOp_sound hg ho f hr hs (hn.left h2)
      have key : ∀ ρ1 a1 w1, Ext ρ ρ1 s.n s1.n → FRel ρ1 nt fr1 a1 → Rel B0 w0 ρ1 s1.h w1 → x = .nrm ∧ fr'.dfr = fr1.dfr ∧ OpsTo P fr1.dfr ops (List.range' (i + 1) l.length) a1 w1 (Stood B0 w0 ρ1 nt s1 fr' s') :=
        fun ρ1 a1 w1 he f1 hr1 => seqOps_sound hg l (i + 1) fr1 s1 x fr' s' hd' h ρ1 a1 w1 f1 hr1 (hn.right h1 he)
      have hx := seqOps_nrm h
      refine ⟨hx.1, by rw [hx.2, hd1], ?_⟩
      intro b k cs hc
      obtain ⟨a1, w1, ⟨ρ1, he, f1, hr1⟩, t1⟩ := st1 b k cs (List.range' (i + 1) l.length) hc
      obtain ⟨_, _, o2⟩ := key ρ1 a1 w1 he f1 hr1
      obtain ⟨a2, w2, ⟨ρ2, he2, f2, hr2⟩, t2⟩ := o2 b k cs (by rw [hd1]; exact hc)
      exact ⟨a2, w2, ⟨ρ2, he.trans he2 h1 h2, f2, hr2⟩, Steps.trans t1 t2⟩
end
end Go.Ev
namespace Go.Ev
open Go.RowKit (Below)
section
variable {P : Program} {ρ : Env} {B0 nt : Nat} {w0 w : World} {fr fr' : Fr} {a : Act}
theorem KOk.no {c : Code} (why : String) : KOk P nt c ⟨fun _ _ _ => .no why⟩ :=
  by
  refine ⟨fun _ _ _ => .no _, ?_, ?_⟩
  · intro _ _ _ _ _ _ _ h; cases h
  · intro _ _ _ _ _ _ h; cases h
theorem KOk.still {c : Code} {x : X} (h : ∀ dfr (a : Act) (w : World), CodeTo P dfr c a w (fun e a' w' => e = xOf x ∧ a' = a ∧ w' = w)) : KOk P nt c ⟨fun _ fr s => .ok (x, fr) s⟩ := by
  refine ⟨fun _ _ _ => .ok _, ?_, fun _ _ _ _ _ _ h => by cases h; rfl⟩
  intro cf _ fr s x' fr' s' he B0 w0 ρ a w f hr hn
  cases he
  refine (h _ a w).mono ?_
  rintro e a' w' ⟨h1, rfl, rfl⟩
  exact ⟨h1, Stood.refl f hr⟩
theorem KOk.seqRegion (id : Nat) (ops : Array Oper) : KOk P nt (.region id ops false) ⟨fun cf fr s => seqOps P nt ops ops.toList cf fr s⟩ := by
  refine ⟨fun cf hf fr => seqOps_framed hf ops _ fr, ?_, fun cf fr s x fr' s' h => (seqOps_nrm h).2⟩
  intro cf hg fr s x fr' s' h B0 w0 ρ a w f hr hn
  obtain ⟨h1, h2, h3⟩ := seqOps_sound hg ops.toList 0 fr s x fr' s' (by simp) h ρ a w f hr hn
  subst h1
  intro b k cs hc
  obtain ⟨a', w', r, st⟩ := h3 b k cs hc
  refine ⟨.normal, a', w', ⟨rfl, r⟩, .head step_region ?_⟩
  rw [List.range_eq_range']
  exact Steps.trans st (.one step_region_end)
theorem KOk.seq {c d : Code} {x y : K} (hx : KOk P nt c x) (hy : KOk P nt d y) : KOk P nt (.seq c d) ⟨fun cf fr s => match x.run cf fr s with
    | .ok (.nrm, fr) s => y.run cf fr s
    | r => r⟩ := by
  refine ⟨?_, ?_, ?_⟩
  · intro cf hf fr
    refine Framed.iff (m := fun s => bindR (x.run cf fr s) fun p s => match p with | (.nrm, fr) => y.run cf fr s | p => .ok p s) (Framed.bind (f := fun p s => match p with | (.nrm, fr) => y.run cf fr s | p => .ok p s) (hx.framed cf hf fr) fun p => ?_) ?_
    · obtain ⟨e, fr1⟩ := p
      cases e with
      | nrm => exact hy.framed cf hf fr1
      | exit i => exact .ok _
      | ret => exact .ok _
    · intro s p s'
      dsimp only
      cases x.run cf fr s with
      | no _ => simp [bindR]
      | ok q s1 => obtain ⟨e, fr1⟩ := q; cases e <;> simp [bindR]
  · intro cf hg fr s e fr' s' h B0 w0 ρ a w f hr hn
    dsimp only at h
    cases hs : x.run cf fr s with
    | no _ => rw [hs] at h; cases h
    | ok q s1 =>
      obtain ⟨e1, fr1⟩ := q
      rw [hs] at h
      have h1 := (hx.framed cf hg.framed fr s _ s1 hs).1
      have d1 := hx.dfr cf fr s _ fr1 s1 hs
      cases e1 with
      | nrm =>
        dsimp only at h
        have h2 := (hy.framed cf hg.framed fr1 s1 _ s' h).1
        have t1 := hx.sound cf hg fr s _ fr1 s1 hs B0 w0 ρ a w f hr (hn.left h2)
        intro b k cs hc
        obtain ⟨_, a1, w1, ⟨rfl, ρ1, he, f1, hr1⟩, ar1⟩ := t1 b (.code d :: k) cs hc
        have t2 := hy.sound cf hg fr1 s1 e fr' s' h B0 w0 ρ1 a1 w1 f1 hr1 (hn.right h1 he)
        obtain ⟨e2, a2, w2, ⟨rfl, ρ2, he2, f2, hr2⟩, ar2⟩ := t2 b k cs (by rw [d1]; exact hc)
        exact ⟨_, a2, w2, ⟨rfl, ρ2, he.trans he2 h1 h2, f2, hr2⟩, .of_steps (.head step_seq ar1) ar2⟩
      | exit i =>
        cases h
        have t1 := hx.sound cf hg fr s _ _ _ hs B0 w0 ρ a w f hr hn
        intro b k cs hc
        obtain ⟨_, a1, w1, ⟨rfl, r⟩, ar1⟩ := t1 b (.code d :: k) cs hc
        exact ⟨_, a1, w1, ⟨rfl, r⟩, .of_steps (.one step_seq) (.pass (x := .code d) rfl (fun _ _ => .inl (by simp [xOf])) ar1)⟩
      | ret =>
        cases h
        have t1 := hx.sound cf hg fr s _ _ _ hs B0 w0 ρ a w f hr hn
        intro b k cs hc
        obtain ⟨_, a1, w1, ⟨rfl, r⟩, ar1⟩ := t1 b (.code d :: k) cs hc
        exact ⟨_, a1, w1, ⟨rfl, r⟩, .of_steps (.one step_seq) (.pass (x := .code d) rfl (fun _ _ => .inl (by simp [xOf])) ar1)⟩
  · intro cf fr s e fr' s' h
    dsimp only at h
    cases hs : x.run cf fr s with
    | no _ => rw [hs] at h; cases h
    | ok q s1 =>
      obtain ⟨e1, fr1⟩ := q
      rw [hs] at h
      have d1 := hx.dfr cf fr s _ fr1 s1 hs
      cases e1 with
      | nrm => rw [hy.dfr cf fr1 s1 e fr' s' h, d1]
      | exit i => cases h; exact d1
      | ret => cases h; exact d1
theorem KOk.ite {o : Operand} {c d : Code} {x y : K} (hx : KOk P nt c x) (hy : KOk P nt d y) : KOk P nt (.cond o c d) ⟨fun cf fr s => match evO fr.t o with
    | some (.bool true) => x.run cf fr s
    | some (.bool false) => y.run cf fr s
    | _ => .no "cond"⟩ := by
  refine ⟨?_, ?_, ?_⟩
  · intro cf hf fr
    dsimp only
    split
    · exact hx.framed cf hf fr
    · exact hy.framed cf hf fr
    · exact .no _
  · intro cf hg fr s e fr' s' h B0 w0 ρ a w f hr hn
    dsimp only at h
    split at h
    · rename_i hev
      have hc : a.eval o = .bool true := evO_sound f hev
      intro b k cs hk
      obtain ⟨e, a', w', r, st⟩ := hx.sound cf hg fr s e fr' s' h B0 w0 ρ a w f hr hn b k cs hk
      exact ⟨e, a', w', r, .of_steps (.one (step_cond hc)) st⟩
    · rename_i hev
      have hc : a.eval o = .bool false := evO_sound f hev
      intro b k cs hk
      obtain ⟨e, a', w', r, st⟩ := hy.sound cf hg fr s e fr' s' h B0 w0 ρ a w f hr hn b k cs hk
      exact ⟨e, a', w', r, .of_steps (.one (step_cond hc)) st⟩
    · cases h
  · intro cf fr s e fr' s' h
    dsimp only at h
    split at h
    · exact hx.dfr cf fr s e fr' s' h
    · exact hy.dfr cf fr s e fr' s' h
    · cases h
theorem KOk.block {id : Nat} {c : Code} {x : K} (hx : KOk P nt c x) : KOk P nt (.block id c) ⟨fun cf fr s => match x.run cf fr s with
    | .ok (.exit i, fr) s => cond (Nat.beq i id) (.ok (.nrm, fr) s) (.ok (.exit i, fr) s)
    | r => r⟩ := by
  refine ⟨?_, ?_, ?_⟩
  · intro cf hf fr
    refine Framed.iff (m := fun s => bindR (x.run cf fr s) fun p s => match p with | (.exit i, fr) => cond (Nat.beq i id) (.ok (.nrm, fr) s) (.ok (.exit i, fr) s) | p => .ok p s) (Framed.bind (f := fun p s => match p with | (.exit i, fr) => cond (Nat.beq i id) (.ok (.nrm, fr) s) (.ok (.exit i, fr) s) | p => .ok p s) (hx.framed cf hf fr) fun p => ?_) ?_
    · obtain ⟨e, fr1⟩ := p
      cases e with
      | nrm => exact .ok _
      | exit i => exact .cond _ (.ok _) (.ok _)
      | ret => exact .ok _
    · intro s p s'
      dsimp only
      cases x.run cf fr s with
      | no _ => simp [bindR]
      | ok q s1 => obtain ⟨e, fr1⟩ := q; cases e <;> simp [bindR]
  · intro cf hg fr s e fr' s' h B0 w0 ρ a w f hr hn
    dsimp only at h
    cases hs : x.run cf fr s with
    | no _ => rw [hs] at h; cases h
    | ok q s1 =>
      obtain ⟨e1, fr1⟩ := q
      rw [hs] at h
      cases e1 with
      | nrm =>
        cases h
        have t1 := hx.sound cf hg fr s _ _ _ hs B0 w0 ρ a w f hr hn
        intro b k cs hc
        obtain ⟨_, a1, w1, ⟨rfl, r⟩, ar1⟩ := t1 b (.inBlock id :: k) cs hc
        exact ⟨.normal, a1, w1, ⟨rfl, r⟩, .head step_block (Steps.trans ar1 (.one step_inBlock))⟩
      | exit i =>
        dsimp only at h
        rw [nbeq] at h
        by_cases hid : i = id
        · rw [decide_eq_true hid] at h
          cases h
          have t1 := hx.sound cf hg fr s _ _ _ hs B0 w0 ρ a w f hr hn
          intro b k cs hc
          obtain ⟨_, a1, w1, ⟨rfl, r⟩, ar1⟩ := t1 b (.inBlock id :: k) cs hc
          exact ⟨.normal, a1, w1, ⟨rfl, r⟩, .head step_block (ar1 k (by simp [exitTo, hid]))⟩
        · rw [decide_eq_false hid] at h
          cases h
          have t1 := hx.sound cf hg fr s _ _ _ hs B0 w0 ρ a w f hr hn
          intro b k cs hc
          obtain ⟨_, a1, w1, ⟨rfl, r⟩, ar1⟩ := t1 b (.inBlock id :: k) cs hc
          refine ⟨.exit i, a1, w1, ⟨rfl, r⟩, fun k' hk => .head step_block (ar1 k' ?_)⟩
          have : (id == i) = false := by simp; exact fun h => hid h.symm
          simp [exitTo, this, hk]
      | ret =>
        cases h
        have t1 := hx.sound cf hg fr s _ _ _ hs B0 w0 ρ a w f hr hn
        intro b k cs hc
        obtain ⟨_, a1, w1, ⟨rfl, r⟩, ar1⟩ := t1 b (.inBlock id :: k) cs hc
        obtain ⟨todo, st⟩ := ar1
        exact ⟨.ret, a1, w1, ⟨rfl, r⟩, todo, .head step_block st⟩
  · intro cf fr s e fr' s' h
    dsimp only at h
    cases hs : x.run cf fr s with
    | no _ => rw [hs] at h; cases h
    | ok q s1 =>
      obtain ⟨e1, fr1⟩ := q
      rw [hs] at h
      have d1 := hx.dfr cf fr s _ fr1 s1 hs
      cases e1 with
      | nrm => cases h; exact d1
      | exit i =>
        dsimp only at h
        cases hb : Nat.beq i id <;> rw [hb] at h <;> cases h <;> exact d1
      | ret => cases h; exact d1
end
end Go.Ev
namespace Go.Ev
open Go.RowKit (Below)
section
variable {P : Program} {ρ : Env} {B0 nt : Nat} {w0 w : World} {fr fr' : Fr} {a : Act}
theorem loopA_framed {c : Code} {x : K} (hx : KOk P nt c x) {cf : CallF} (hf : FramedF cf) : ∀ (n : Nat) (fr : Fr), Framed (loopA x n cf fr)
  | 0, fr => .no _
  | n + 1, fr => by
    refine Framed.iff (m := fun s => bindR (x.run cf fr s) fun p s => match p with | (.nrm, fr) => loopA x n cf fr s | p => .ok p s) (Framed.bind (f := fun p s => match p with | (.nrm, fr) => loopA x n cf fr s | p => .ok p s) (hx.framed cf hf fr) fun p => ?_) ?_
    · obtain ⟨e, fr1⟩ := p
      cases e with
      | nrm => exact loopA_framed hx hf n fr1
      | exit i => exact .ok _
      | ret => exact .ok _
    · intro s p s'
      show (match x.run cf fr s with | .ok (.nrm, fr) s => loopA x n cf fr s | r => r) = _ ↔ _
      cases x.run cf fr s with
      | no _ => simp [bindR]
      | ok q s1 => obtain ⟨e, fr1⟩ := q; cases e <;> simp [bindR]
theorem loopA_dfr {c : Code} {x : K} (hx : KOk P nt c x) {cf : CallF} : ∀ (n : Nat) (fr : Fr) (s : S) (e : X) (fr' : Fr) (s' : S), loopA x n cf fr s = .ok (e, fr') s' → fr'.dfr = fr.dfr
  | 0, _, _, _, _, _, h => by cases h
  | n + 1, fr, s, e, fr', s', h => by
    have h : (match x.run cf fr s with | .ok (.nrm, fr) s => loopA x n cf fr s | r => r) = .ok (e, fr') s' := h
    cases hs : x.run cf fr s with
    | no _ => rw [hs] at h; cases h
    | ok q s1 =>
      obtain ⟨e1, fr1⟩ := q
      rw [hs] at h
      have d1 := hx.dfr cf fr s _ fr1 s1 hs
      cases e1 with
      | nrm => rw [loopA_dfr hx n fr1 s1 e fr' s' h, d1]
      | exit i => cases h; exact d1
      | ret => cases h; exact d1
theorem loopA_sound {c : Code} {x : K} (hx : KOk P nt c x) {cf : CallF} (hg : Good P cf) : ∀ (n : Nat) (fr : Fr) (s : S) (e : X) (fr' : Fr) (s' : S), loopA x n cf fr s = .ok (e, fr') s' →
    ∀ (ρ : Env) (a : Act) (w : World), FRel ρ nt fr a → Rel B0 w0 ρ s.h w → Fresh ρ s.n s'.n → ∀ (b : Frame) (k : List Item) (cs : List Frame), Ctx fr.dfr b cs →
      ∃ e' a' w', (e' = xOf e ∧ Stood B0 w0 ρ nt s fr' s' a' w') ∧ Arrives P (lone (b.at a (.code c :: .inLoop c :: k)) cs w) b k cs e' a' w'
  | 0, _, _, _, _, _, h => by cases h
  | n + 1, fr, s, e, fr', s', h => by
    intro ρ a w f hr hn b k cs hc
    have h : (match x.run cf fr s with | .ok (.nrm, fr) s => loopA x n cf fr s | r => r) = .ok (e, fr') s' := h
    cases hs : x.run cf fr s with
    | no _ => rw [hs] at h; cases h
    | ok q s1 =>
      obtain ⟨e1, fr1⟩ := q
      rw [hs] at h
      have h1 := (hx.framed cf hg.framed fr s _ s1 hs).1
      have d1 := hx.dfr cf fr s _ fr1 s1 hs
      cases e1 with
      | nrm =>
        dsimp only at h
        have h2 := (loopA_framed hx hg.framed n fr1 s1 _ s' h).1
        have t1 := hx.sound cf hg fr s _ fr1 s1 hs B0 w0 ρ a w f hr (hn.left h2)
        obtain ⟨_, a1, w1, ⟨rfl, ρ1, he, f1, hr1⟩, ar1⟩ := t1 b (.inLoop c :: k) cs hc
        obtain ⟨e2, a2, w2, ⟨rfl, ρ2, he2, f2, hr2⟩, ar2⟩ := loopA_sound hx hg n fr1 s1 e fr' s' h ρ1 a1 w1 f1 hr1 (hn.right h1 he) b k cs (by rw [d1]; exact hc)
        exact ⟨_, a2, w2, ⟨rfl, ρ2, he.trans he2 h1 h2, f2, hr2⟩, .of_steps (Steps.trans ar1 (.one step_inLoop)) ar2⟩
      | exit i =>
        cases h
        have t1 := hx.sound cf hg fr s _ _ _ hs B0 w0 ρ a w f hr hn
        obtain ⟨_, a1, w1, ⟨rfl, r⟩, ar1⟩ := t1 b (.inLoop c :: k) cs hc
        exact ⟨_, a1, w1, ⟨rfl, r⟩, .pass (x := .inLoop c) rfl (fun _ _ => .inl (by simp [xOf])) ar1⟩
      | ret =>
        cases h
        have t1 := hx.sound cf hg fr s _ _ _ hs B0 w0 ρ a w f hr hn
        obtain ⟨_, a1, w1, ⟨rfl, r⟩, ar1⟩ := t1 b (.inLoop c :: k) cs hc
        exact ⟨_, a1, w1, ⟨rfl, r⟩, .pass (x := .inLoop c) rfl (fun _ _ => .inl (by simp [xOf])) ar1⟩
theorem KOk.loop {c : Code} {x : K} (hx : KOk P nt c x) (n : Nat) : KOk P nt (.loop c) ⟨fun cf fr s => loopA x n cf fr s⟩ := by
  refine ⟨fun cf hf fr => loopA_framed hx hf n fr, ?_, fun cf fr s e fr' s' h => loopA_dfr hx n fr s e fr' s' h⟩
  intro cf hg fr s e fr' s' h B0 w0 ρ a w f hr hn b k cs hc
  obtain ⟨e', a', w', r, st⟩ := loopA_sound hx hg n fr s e fr' s' h ρ a w f hr hn b k cs hc
  exact ⟨e', a', w', r, .of_steps (.one step_loop) st⟩
/-- A body, regions that draw aside. -/
theorem codeK_ok (hdraw : ∀ (id : Nat) (ops : Array Oper), KOk P nt (.region id ops true) (regionK P nt ops true)) : ∀ c : Code, KOk P nt c (codeK P nt c)
  | .skip => KOk.still fun _ a w _ _ _ _ => ⟨.normal, a, w, ⟨rfl, rfl, rfl⟩, .one step_skip⟩
  | .label _ => KOk.still fun _ a w _ _ _ _ => ⟨.normal, a, w, ⟨rfl, rfl, rfl⟩, .one step_label⟩
  | .region id ops true => hdraw id ops
  | .region id ops false => KOk.seqRegion id ops
  | .seq a b => KOk.seq (codeK_ok hdraw a) (codeK_ok hdraw b)
  | .cond o a b => KOk.ite (codeK_ok hdraw a) (codeK_ok hdraw b)
  | .block id c => KOk.block (codeK_ok hdraw c)
  | .loop c => KOk.loop (codeK_ok hdraw c) 1000000
  | .exit id => KOk.still fun _ a w _ _ _ _ => ⟨.exit id, a, w, ⟨rfl, rfl, rfl⟩, fun _ hk => .one (step_exit hk)⟩
  | .ret => KOk.still fun _ a w _ _ _ _ => ⟨.ret, a, w, ⟨rfl, rfl, rfl⟩, _, .one step_ret⟩
  | .scope _ => KOk.no _
  | .goto _ => KOk.no _
  | .rangeFunc .. => KOk.no _
  | .refuse _ => KOk.no _
end
end Go.Ev
namespace Go.Ev
open Go.RowKit (Below)
section
variable {P : Program} {ρ : Env} {B0 nt : Nat} {w0 w : World} {fr fr' : Fr} {a : Act}
theorem loadVar_sound {t b off : Nat} {s s' : S} {v : AV} {B κ : Nat} (hty : tyOk P t = true) (hrun : loadA (isAggT P t) (sizeT P t) b off s = .ok v s') (hr : Rel B0 w0 ρ s.h w) (hρ : ρ b = some (B, κ)) :
    s'.h = s.h ∧ s'.n = s.n ∧ ∃ u, (loadVar t ⟨B, off, none⟩).run P w = .ok u w ∧ VR ρ v u := by
  unfold loadA at hrun
  cases hag : isAggT P t with
  | true =>
    rw [hag] at hrun
    obtain ⟨c, op, l, hb, hl, hk⟩ := loadN_inv hrun
    cases hk
    obtain ⟨vs, hvs, _, hld, _⟩ := load_cells (P := P) (hr.row hb hρ) hl
    refine ⟨rfl, rfl, .agg ⟨vs⟩, ?_, vs, hvs, rfl⟩
    simp [loadVar, run_isAgg hty, hag, run_size hty, hld]
  | false =>
    rw [hag] at hrun
    obtain ⟨c, op, l, hb, hl, hk⟩ := loadN_inv hrun
    obtain ⟨vs, hvs, hlen, hld, hcell⟩ := load_cells (P := P) (hr.row hb hρ) hl
    match l, hk with
    | [q], hk =>
      cases hk
      obtain ⟨u, ws, hu, hws, rfl⟩ := hvs
      cases hws
      have hc := hcell 0 u rfl
      refine ⟨rfl, rfl, u, ?_, hu⟩
      simp only [Nat.add_zero] at hc
      simp [loadVar, run_isAgg hty, hag, hc]
    | [], hk => cases hk
    | _ :: _ :: _, hk => cases hk
def oneOr : List AV → AV
  | [v] => v
  | l => .tup l
def resG (tmps : Array Value) : ResultVar → Sem Value
  | .tmp t => pure (tmps.getD t undef)
  | .cell a t => do loadVar t (← asAddr (tmps.getD a undef))
theorem resA_sound (f : FRel ρ nt fr a) : ∀ (l : List ResultVar) (acc : List AV) (s : S) (v : AV) (s' : S), resA P fr.t l acc s = .ok v s' → Rel B0 w0 ρ s.h w →
    s'.h = s.h ∧ s'.n = s.n ∧ ∃ ws us, (l.mapM (resG a.tmps)).run P w = .ok us w ∧ VRs ρ ws us ∧ v = oneOr (acc.reverse ++ ws)
  | [], acc, s, v, s', h, hr => by
    unfold resA at h
    refine ⟨?_, ?_, [], [], by simp, rfl, ?_⟩
    all_goals
      split at h
      · cases h; simp [oneOr]
      · rename_i hne
        cases h
        first
        | rfl
        | (simp only [List.append_nil]
           unfold oneOr
           split
           · rename_i x hx
             exact absurd (by rw [← List.reverse_reverse acc, hx]; rfl) (hne x)
           · rfl)
  | .tmp i :: l, acc, s, v, s', h, hr => by
    have h : resA P fr.t l (fr.t i :: acc) s = .ok v s' := h
    obtain ⟨h1, h2, ws, us, h3, h4, h5⟩ := resA_sound f l _ s v s' h hr
    refine ⟨h1, h2, fr.t i :: ws, a.tmps.getD i undef :: us, ?_, ⟨_, _, f.t i, h4, rfl⟩, by rw [h5]; simp⟩
    simp [List.mapM_cons, resG, h3]
  | .cell i ty :: l, acc, s, v, s', h, hr => by
    unfold resA at h
    split at h
    · rename_i b off hb
      cases hty : tyOk P ty with
      | false => rw [hty] at h; cases h
      | true =>
        rw [hty] at h
        dsimp only [cond] at h
        split at h
        · rename_i x s1 hx
          have ht := f.t i
          rw [hb] at ht
          obtain ⟨B, κ, hρ, hv⟩ := ht
          obtain ⟨e1, e2, u, hu, hxu⟩ := loadVar_sound hty hx hr hρ
          obtain ⟨h1, h2, ws, us, h3, h4, h5⟩ := resA_sound f l _ s1 v s' h (by rw [e1]; exact hr)
          refine ⟨h1.trans e1, h2.trans e2, x :: ws, u :: us, ?_, ⟨_, _, hxu, h4, rfl⟩, by rw [h5]; simp⟩
          simp [List.mapM_cons, resG, hv, asAddr, hu, h3]
        · cases h
    · cases h
theorem results_sound (f : FRel ρ nt fr a) {fn : Func} {s s' : S} {v : AV} (h : resA P fr.t fn.results.toList [] s = .ok v s') (hr : Rel B0 w0 ρ s.h w) :
    s'.h = s.h ∧ s'.n = s.n ∧ ∃ u, (results fn a.tmps).run P w = .ok u w ∧ VR ρ v u := by
  obtain ⟨h1, h2, ws, us, h3, h4, h5⟩ := resA_sound f _ _ s v s' h hr
  refine ⟨h1, h2, (if hh : (⟨us⟩ : Array Value).size = 1 then (⟨us⟩ : Array Value)[0] else .tuple ⟨us⟩), ?_, ?_⟩
  · have e : results fn a.tmps = (do let vs ← fn.results.mapM (resG a.tmps); pure (if h : vs.size = 1 then vs[0] else .tuple vs)) := rfl
    rw [e, Array.mapM_eq_mapM_toList]
    simp [h3]
  · subst h5
    simp only [List.reverse_nil, List.nil_append]
    match ws, us, h4 with
    | [], _, h4 => cases h4; exact ⟨[], rfl, rfl⟩
    | [x], _, ⟨u, _, hu, hn, e⟩ => cases hn; subst e; exact hu
    | x :: y :: l, _, ⟨u, _, hu, ⟨u2, us2, h6, h7, rfl⟩, e⟩ => subst e; exact ⟨_, ⟨u, _, hu, ⟨u2, us2, h6, h7, rfl⟩, rfl⟩, rfl⟩
theorem frame_start {av : List AV} {vs : List Value} {dfr : Bool} (h : VRs ρ av vs) (hn : av.length ≤ nt) : FRel ρ nt ⟨argsT av, [], dfr⟩ { tmps := (⟨vs⟩ : Array Value) ++ Array.replicate (nt - (⟨vs⟩ : Array Value).size) undef, defers := [] } := by
  have hl := VRs.len h
  refine ⟨by simp; omega, ?_, rfl⟩
  intro i
  show VR ρ (av.getD i undefA) _
  rw [Array.getD_eq_getD_getElem?, Array.getElem?_append]
  by_cases hi : i < vs.length
  · rw [if_pos (by simpa using hi)]
    have : ∀ (av : List AV) (vs : List Value) (i : Nat), VRs ρ av vs → VR ρ (av.getD i undefA) (vs[i]?.getD undef) := by
      intro av
      induction av with
      | nil => intro vs i h; cases h; simp; exact ⟨[], rfl, rfl⟩
      | cons x l ih =>
        intro vs i h
        obtain ⟨v, ws, h1, h2, rfl⟩ := h
        cases i with
        | zero => exact h1
        | succ i => simpa using ih ws i h2
    simpa using this av vs i h
  · rw [if_neg (by simpa using hi)]
    have e1 : av.getD i undefA = undefA := by
      rw [List.getD_eq_getElem?_getD, List.getElem?_eq_none (by omega)]; rfl
    rw [e1, Array.getElem?_replicate]
    split <;> exact ⟨[], rfl, rfl⟩
end
end Go.Ev
namespace Go.Ev
open Go.RowKit (Below)
/-- What is asked of the functions whose calls are put off. -/
structure GoodD (P : Program) (cd : CallF) : Prop where
  framed : ∀ f av, Framed (cd f av)
  ok : ∀ f av s v s', cd f av s = .ok v s' → ∃ fn c, P.funcs[f]? = some fn ∧ fn.body = some c ∧ (fn.name == "runtime.NumGoroutine") = false
  calls : ∀ f av s v s', cd f av s = .ok v s' → ∀ (B0 : Nat) (w0 : World) (ρ : Env) (w : World) (vs : List Value), VRs ρ av vs → Rel B0 w0 ρ s.h w → Fresh ρ s.n s'.n →
    CallsD P f ⟨vs⟩ .returning w (fun e u' w' => u' = .returning ∧ ∃ v', e = .returned v' ∧ Done B0 w0 ρ s v s' v' w')
section
variable {P : Program} {ρ : Env} {B0 nt : Nat} {w0 w : World} {fr fr' : Fr} {a : Act}
theorem resA_framed (t : Nat → AV) : ∀ (l : List ResultVar) (acc : List AV), Framed (resA P t l acc)
  | [], acc => by
    show Framed (fun s => match acc with | [v] => .ok v s | _ => .ok (.tup acc.reverse) s)
    split
    · exact .ok _
    · exact .ok _
  | .tmp i :: l, acc => resA_framed t l _
  | .cell i ty :: l, acc => by
    show Framed (fun s => match t i with
      | .ptr b off => cond (tyOk P ty) (match loadA (isAggT P ty) (sizeT P ty) b off s with | .ok v s => resA P t l (v :: acc) s | .no w => .no w) (.no "result type")
      | _ => .no "result: no pointer")
    split
    · rename_i b off hb
      refine .cond _ ?_ (.no _)
      refine Framed.iff (m := fun s => bindR (loadA (isAggT P ty) (sizeT P ty) b off s) fun v s => resA P t l (v :: acc) s) (Framed.bind (f := fun v s => resA P t l (v :: acc) s) (Framed.loadA _ _ _ _) fun v => resA_framed t l _) ?_
      intro s v s'
      cases loadA (isAggT P ty) (sizeT P ty) b off s <;> simp [bindR]
    · exact .no _
theorem runDefs_framed {cd : CallF} (hd : FramedF cd) {k : S → RV} (hk : Framed k) : ∀ l : List DefA, Framed (fun s => runDefs cd l s k)
  | [] => hk
  | d :: l => by
    show Framed (fun s => match d.f with
      | .func g => (match cd g (d.args ++ d.cap) s with | .ok _ s => runDefs cd l s k | .no w => .no w)
      | _ => .no "defer of what")
    split
    · rename_i g hg
      refine Framed.iff (m := fun s => bindR (cd g (d.args ++ d.cap) s) fun _ s => runDefs cd l s k) (Framed.bind (f := fun _ s => runDefs cd l s k) (hd g _) fun _ => runDefs_framed hd hk l) ?_
      intro s v s'
      cases cd g (d.args ++ d.cap) s <;> simp [bindR]
    · exact .no _
theorem fnK_inv {f : Nat} {fk : FK} (h : (fnK P f).k = some fk) : ∃ fn c, P.funcs[f]? = some fn ∧ fn.body = some c ∧ (fn.name == "runtime.NumGoroutine") = false ∧ fk = ⟨fn.ntmps, codeK P fn.ntmps c, fn.results.toList⟩ := by
  unfold fnK at h
  dsimp only at h
  split at h
  · rename_i fn hf
    split at h
    · rename_i c hc
      cases hn : (fn.name == "runtime.NumGoroutine") with
      | true => rw [hn] at h; cases h
      | false => rw [hn] at h; cases h; exact ⟨fn, c, hf, hc, hn, rfl⟩
    · cases h
  · cases h
theorem enterA_inv {cf cd : CallF} {dfr : Bool} {f : Nat} {av : List AV} {s s' : S} {v : AV} (h : enterA P cf cd dfr f av s = .ok v s') :
    ∃ fn c, P.funcs[f]? = some fn ∧ fn.body = some c ∧ (fn.name == "runtime.NumGoroutine") = false ∧ av.length ≤ fn.ntmps ∧
      ∃ x fr s1, (codeK P fn.ntmps c).run cf ⟨argsT av, [], dfr⟩ s = .ok (x, fr) s1 ∧ (x = .nrm ∨ x = .ret) ∧
        (cond dfr (match fr.d with | [] => resA P fr.t fn.results.toList [] s1 | _ => .no "defer within a deferred call") (runDefs cd fr.d s1 fun s => resA P fr.t fn.results.toList [] s)) = .ok v s' := by
  unfold enterA at h
  split at h
  · cases h
  · rename_i fk hk
    obtain ⟨fn, c, h1, h2, h3, rfl⟩ := fnK_inv hk
    refine ⟨fn, c, h1, h2, h3, ?_⟩
    dsimp only at h
    cases hb : Nat.ble av.length fn.ntmps with
    | false => rw [hb] at h; cases h
    | true =>
      rw [hb] at h
      refine ⟨by simpa [Nat.ble_eq] using hb, ?_⟩
      dsimp only [cond] at h
      split at h
      · cases h
      · cases h
      · rename_i x fr s1 hx hrun
        refine ⟨x, fr, s1, hrun, ?_, h⟩
        cases x with
        | nrm => exact .inl rfl
        | ret => exact .inr rfl
        | exit i => exact absurd rfl (hx i)
end
end Go.Ev
namespace Go.Ev
section
variable {P : Program}
theorem enterA_framed (hdraw : ∀ (nt id : Nat) (ops : Array Oper), KOk P nt (.region id ops true) (regionK P nt ops true)) {cf cd : CallF} (hf : FramedF cf) (hd : FramedF cd) (dfr : Bool) (f : Nat) (av : List AV) : Framed (enterA P cf cd dfr f av) := by
  cases hk : (fnK P f).k with
  | none =>
    refine Framed.iff (m := fun _ => .no "") (.no _) fun s b s' => ?_
    unfold enterA; rw [hk]; simp
  | some fk =>
    obtain ⟨fn, c, h1, h2, h3, rfl⟩ := fnK_inv hk
    refine Framed.iff (m := fun s => cond (Nat.ble av.length fn.ntmps) (bindR ((codeK P fn.ntmps c).run cf ⟨argsT av, [], dfr⟩ s) fun p s => match p with
      | (.exit _, _) => .no "exit"
      | (_, fr) => cond dfr (match fr.d with | [] => resA P fr.t fn.results.toList [] s | _ => .no "defer within a deferred call") (runDefs cd fr.d s fun s => resA P fr.t fn.results.toList [] s)) (.no "args")) ?_ ?_
    · refine .cond _ (Framed.bind (f := fun p s => match p with
        | (.exit _, _) => .no "exit"
        | (_, fr) => cond dfr (match fr.d with | [] => resA P fr.t fn.results.toList [] s | _ => .no "defer within a deferred call") (runDefs cd fr.d s fun s => resA P fr.t fn.results.toList [] s)) ((codeK_ok (hdraw fn.ntmps) c).framed cf hf _) ?_) (.no _)
      have key : ∀ fr : Fr, Framed (fun s => cond dfr (match fr.d with | [] => resA P fr.t fn.results.toList [] s | _ => .no "defer within a deferred call") (runDefs cd fr.d s fun s => resA P fr.t fn.results.toList [] s)) := by
        intro fr
        refine .cond _ ?_ (runDefs_framed hd (resA_framed _ _ _) _)
        split
        · exact resA_framed _ _ _
        · exact .no _
      rintro ⟨x, fr⟩
      cases x with
      | nrm => exact key fr
      | ret => exact key fr
      | exit i => exact .no _
    · intro s b s'
      unfold enterA
      rw [hk]
      dsimp only
      cases Nat.ble av.length fn.ntmps with
      | false => simp
      | true =>
        dsimp only [cond]
        cases (codeK P fn.ntmps c).run cf ⟨argsT av, [], dfr⟩ s with
        | no y => simp [bindR]
        | ok p s1 => obtain ⟨x, fr⟩ := p; cases x <;> first | exact Iff.rfl | simp [bindR]
end
end Go.Ev
namespace Go.Ev
section
variable {P : Program}
theorem enterA_goodD (hdraw : ∀ (nt id : Nat) (ops : Array Oper), KOk P nt (.region id ops true) (regionK P nt ops true)) {cf cd : CallF} (hg : Good P cf) (hd : FramedF cd) : GoodD P (enterA P cf cd true) := by
  refine ⟨enterA_framed hdraw hg.framed hd true, ?_, ?_⟩
  · intro f av s v s' h
    obtain ⟨fn, c, h1, h2, h3, _⟩ := enterA_inv h
    exact ⟨fn, c, h1, h2, h3⟩
  · intro f av s v s' h B0 w0 ρ w vs hv hr hn
    obtain ⟨fn, c, hf, hb, _, hle, x, fr, s1, hrun, hx, hres⟩ := enterA_inv h
    dsimp only [cond] at hres
    split at hres
    · rename_i hfd
      intro c₀ cs hu
      let b : Frame := { (default : Frame) with fn := f, kind := .deferred }
      have henter : Frame.enter P f ⟨vs⟩ .deferred = b.at { tmps := (⟨vs⟩ : Array Value) ++ Array.replicate (fn.ntmps - (⟨vs⟩ : Array Value).size) undef, defers := [] } [.code c] := by
        simp [Frame.enter, Frame.at, hf, hb, b]
      have hc : ({ c₀ with mode := .returning } : Frame) = c₀ := by rw [← hu]
      have hctx : Ctx true b (c₀ :: cs) := fun _ => ⟨rfl, by simp [recoverD, hu]⟩
      have hnn : s1.n ≤ s'.n := (resA_framed (P := P) fr.t fn.results.toList [] s1 v s' hres).1
      obtain ⟨e, a', w', ⟨he, ρ1, hext, f1, hr1⟩, harr⟩ := (codeK_ok (hdraw fn.ntmps) c).sound cf hg _ s x fr s1 hrun B0 w0 ρ _ w (frame_start hv hle) hr (hn.left hnn) b [] (c₀ :: cs) hctx
      rw [← henter] at harr
      obtain ⟨e1, e2, u, hu1, hu2⟩ := results_sound f1 hres hr1
      have hdef : a'.defers = [] := by have := f1.d; rw [hfd] at this; exact this
      have hdone : Done B0 w0 ρ s v s' u w' := ⟨ρ1, by rw [e2]; exact hext, hu2, by rw [e1]; exact hr1⟩
      rcases hx with rfl | rfl
      · subst he
        exact ⟨.returned u, .returning, w', _, ⟨rfl, u, rfl, hdone⟩, (by rw [hc]; exact Steps.trans harr (.one step_end)), rfl, rfl, hdef, fn, hf, hu1⟩
      · subst he
        obtain ⟨todo, hs⟩ := harr
        exact ⟨.returned u, .returning, w', _, ⟨rfl, u, rfl, hdone⟩, (by rw [hc]; exact hs), rfl, rfl, hdef, fn, hf, hu1⟩
    · cases hres
end
end Go.Ev
namespace Go.Ev
section
variable {P : Program} {B0 nt : Nat} {w0 : World}
theorem runDefs_sound {cd : CallF} (hd : GoodD P cd) {fn : Func} {fr : Fr} : ∀ (l : List DefA) (s : S) (v : AV) (s' : S), runDefs cd l s (fun s => resA P fr.t fn.results.toList [] s) = .ok v s' →
    ∀ (ρ : Env) (a : Act) (w : World) (ds : List Deferred), FRel ρ nt fr a → DRs ρ l ds → Rel B0 w0 ρ s.h w → Fresh ρ s.n s'.n →
      ∀ R : Ending → World → Prop, (∀ v' w', Done B0 w0 ρ s v s' v' w' → R (.returned v') w') → Leaves P fn a.tmps R ds .returning w
  | [], s, v, s', h, ρ, a, w, ds, f, hds, hr, hn, R, hR => by
    cases hds
    obtain ⟨e1, e2, u, hu1, hu2⟩ := results_sound f h hr
    exact ⟨u, hu1, hR u w ⟨ρ, Ext.refl _ _ _, hu2, by rw [e1]; exact hr⟩⟩
  | d :: l, s, v, s', h, ρ, a, w, ds, f, hds, hr, hn, R, hR => by
    obtain ⟨x, xs, ⟨vc, va, h1, h2, rfl⟩, h3, rfl⟩ := hds
    have h : (match d.f with
      | .func g => (match cd g (d.args ++ d.cap) s with | .ok _ s => runDefs cd l s (fun s => resA P fr.t fn.results.toList [] s) | .no w => .no w)
      | _ => .no "defer of what") = .ok v s' := h
    split at h
    · rename_i g hgf
      cases hs : cd g (d.args ++ d.cap) s with
      | no y => rw [hs] at h; cases h
      | ok v1 s1 =>
        rw [hs] at h
        dsimp only at h
        have n1 := (hd.framed g _ s v1 s1 hs).1
        have n2 := (runDefs_framed hd.framed (resA_framed (P := P) fr.t fn.results.toList []) l s1 v s' h).1
        obtain ⟨gn, c, g1, g2, g3⟩ := hd.ok g _ s v1 s1 hs
        rw [hgf]
        refine leaves_cons (f := g) (args := ⟨va ++ vc⟩) (by simp) ?_ ?_
        · have e : (⟨va⟩ : Array Value) ++ ⟨vc⟩ = ⟨va ++ vc⟩ := by apply Array.ext'; simp
          simp only [invoke, e]
          exact run_callFunc _ g1 g2 g3
        · refine (hd.calls g _ s v1 s1 hs B0 w0 ρ w (va ++ vc) (VRs.append h2 h1) hr (hn.left n2)).mono ?_
          rintro e u' w' ⟨rfl, v', rfl, ρ1, he, _, hr1⟩
          exact runDefs_sound hd l s1 v s' h ρ1 a w' xs (f.mono he.le) (DRs.mono he.le _ _ h3) hr1 (hn.right n1 he) R fun v2 w2 ⟨ρ2, he2, hv2, hr2⟩ => hR v2 w2 ⟨ρ2, he.trans he2 n1 n2, hv2, hr2⟩
    · cases h
end
end Go.Ev
namespace Go.Ev
section
variable {P : Program}
theorem enterA_good (hdraw : ∀ (nt id : Nat) (ops : Array Oper), KOk P nt (.region id ops true) (regionK P nt ops true)) {cf cd : CallF} (hg : Good P cf) (hd : GoodD P cd) : Good P (enterA P cf cd false) := by
  refine ⟨enterA_framed hdraw hg.framed hd.framed false, ?_, ?_⟩
  · intro f av s v s' h
    obtain ⟨fn, c, h1, h2, h3, _⟩ := enterA_inv h
    exact ⟨fn, c, h1, h2, h3⟩
  · intro f av s v s' h B0 w0 ρ w vs hv hr hn
    obtain ⟨fn, c, hf, hb, _, hle, x, fr, s1, hrun, hx, hres⟩ := enterA_inv h
    dsimp only [cond] at hres
    refine calls_of_wp_defers hf hb ?_
    intro b k cs
    have n1 := ((codeK_ok (hdraw fn.ntmps) c).framed cf hg.framed _ s _ s1 hrun).1
    have n2 := (runDefs_framed hd.framed (resA_framed (P := P) fr.t fn.results.toList []) fr.d s1 v s' hres).1
    obtain ⟨e, a', w', ⟨he, ρ1, hext, f1, hr1⟩, harr⟩ := (codeK_ok (hdraw fn.ntmps) c).sound cf hg _ s x fr s1 hrun B0 w0 ρ _ w (frame_start hv hle) hr (hn.left n2) b k cs (fun h => by cases h)
    have hl : Leaves P fn a'.tmps (fun e w' => ∃ v', e = .returned v' ∧ Done B0 w0 ρ s v s' v' w') a'.defers .returning w' :=
      runDefs_sound hd fr.d s1 v s' hres ρ1 a' w' a'.defers f1 f1.d hr1 (hn.right n1 hext) _ fun v2 w2 ⟨ρ2, he2, hv2, hr2⟩ => ⟨v2, rfl, ρ2, hext.trans he2 n1 n2, hv2, hr2⟩
    rcases hx with rfl | rfl
    · subst he; exact ⟨.normal, a', w', hl, harr⟩
    · subst he; exact ⟨.ret, a', w', hl, harr⟩
theorem runA_good (hdraw : ∀ (nt id : Nat) (ops : Array Oper), KOk P nt (.region id ops true) (regionK P nt ops true)) {hook : Nat → Nat → Option CallF} (hh : ∀ f n g, hook f n = some g → Good P (fun f' => if f' = f then g f' else fun _ _ => .no "")) : ∀ n, Good P (runA P hook n false) ∧ GoodD P (runA P hook n true)
  | 0 => by
    refine ⟨⟨fun _ _ => .no _, ?_, ?_⟩, ⟨fun _ _ => .no _, ?_, ?_⟩⟩
    all_goals intro f av s v s' h; cases h
  | n + 1 => by
    obtain ⟨h1, h2⟩ := runA_good hdraw hh n
    refine ⟨?_, ?_⟩
    · have hE := enterA_good hdraw h1 h2
      have key : ∀ f m, (∃ g, hook f m = some g ∧ ∀ av s, s.n = m → runA P hook (n + 1) false f av s = g f av s) ∨ (∀ av s, s.n = m → runA P hook (n + 1) false f av s = enterA P (runA P hook n false) (runA P hook n true) false f av s) := by
        intro f m
        cases hk : hook f m with
        | none => exact .inr (fun av s hs => by subst hs; simp [runA, hk])
        | some g => exact .inl ⟨g, rfl, fun av s hs => by subst hs; simp [runA, hk]⟩
      refine ⟨?_, ?_, ?_⟩
      · intro f av s v s' h
        rcases key f s.n with ⟨g, e1, e2⟩ | e
        · have hf := (hh f s.n g e1).framed f av; rw [if_pos rfl] at hf
          rw [e2 av s rfl] at h
          obtain ⟨a1, r, w, a2, a3, a4, a5⟩ := hf s v s' h
          refine ⟨a1, r, w, a2, a3, a4, fun s2 b1 b2 b3 => ?_⟩
          obtain ⟨s2', c1, c2⟩ := a5 s2 b1 b2 b3
          exact ⟨s2', by rw [e2 av s2 b1]; exact c1, c2⟩
        · rw [e av s rfl] at h
          obtain ⟨a1, r, w, a2, a3, a4, a5⟩ := hE.framed f av s v s' h
          refine ⟨a1, r, w, a2, a3, a4, fun s2 b1 b2 b3 => ?_⟩
          obtain ⟨s2', c1, c2⟩ := a5 s2 b1 b2 b3
          exact ⟨s2', by rw [e av s2 b1]; exact c1, c2⟩
      · intro f av s v s' h
        rcases key f s.n with ⟨g, e1, e2⟩ | e
        · rw [e2 av s rfl] at h; exact (hh f s.n g e1).ok f av s v s' (by rw [if_pos rfl]; exact h)
        · rw [e av s rfl] at h; exact hE.ok f av s v s' h
      · intro f av s v s' h
        rcases key f s.n with ⟨g, e1, e2⟩ | e
        · rw [e2 av s rfl] at h; exact (hh f s.n g e1).calls f av s v s' (by rw [if_pos rfl]; exact h)
        · rw [e av s rfl] at h; exact hE.calls f av s v s' h
    · have hE := enterA_goodD hdraw h1 h2.framed
      have key : runA P hook (n + 1) true = enterA P (runA P hook n false) (runA P hook n true) true := by
        funext f av s; simp [runA]
      rw [key]; exact hE
end
end Go.Ev
namespace Go.Ev
section
variable {P : Program} {ρ : Env} {B0 nt : Nat} {w0 w : World} {fr fr' : Fr} {a : Act}
theorem mem_offA {a z : Nat} {l : List Nat} {i : Nat} : i ∈ l.filter (offA a z) ↔ i ∈ l ∧ (i < a ∨ z ≤ i) := by
  rw [List.mem_filter]
  unfold offA
  simp only [Bool.not_eq_true', Bool.and_eq_false_iff]
  constructor
  · rintro ⟨h, h2⟩
    refine ⟨h, ?_⟩
    rcases h2 with h2 | h2
    · left; have : ¬ a ≤ i := fun h => by rw [Nat.ble_eq_true_of_le h] at h2; cases h2
      omega
    · right; have : ¬ i < z := fun h => by rw [Nat.blt, Nat.ble_eq_true_of_le h] at h2; cases h2
      omega
  · rintro ⟨h, h2⟩
    refine ⟨h, ?_⟩
    rcases h2 with h2 | h2
    · left
      cases h3 : Nat.ble a i with
      | false => rfl
      | true => have := Nat.le_of_ble_eq_true h3; omega
    · right
      cases h3 : Nat.blt i z with
      | false => rfl
      | true => have := Nat.le_of_ble_eq_true h3; omega
/-- A computation with logs of its own. -/
theorem Framed.scopeA {α : Type} {m : S → Rs α} (hm : Framed m) : Framed (scopeA m) := by
  intro s b s' h
  unfold Ev.scopeA at h
  split at h
  · rename_i a s1 h1
    cases h
    obtain ⟨n1, r, w, e1, e2, k, g⟩ := hm _ a s1 h1
    simp only [List.append_nil] at e1 e2
    refine ⟨n1, s1.r.filter (offA s.n s1.n), s1.w.filter (offA s.n s1.n), rfl, rfl, ?_, ?_⟩
    · intro id hid hr
      refine k id ?_ hr
      intro hw
      exact hid (mem_offA.mpr ⟨by rw [e2]; exact hw, hr⟩)
    · intro t hn hr hfr
      obtain ⟨t1, g1, g2, g3, g4, g5, g6⟩ := g { t with r := [], w := [] } hn (fun id hi => by
        by_cases hg : s.n ≤ id ∧ id < s1.n
        · exact hfr id hg.1 hg.2
        · exact hr id (mem_offA.mpr ⟨by rw [e1]; exact hi, by omega⟩)) hfr
      simp only [List.append_nil] at g3 g4
      refine ⟨{ t1 with r := t1.r.filter (offA t.n t1.n) ++ t.r, w := t1.w.filter (offA t.n t1.n) ++ t.w }, ?_, g2, ?_, ?_, ?_, ?_⟩
      · unfold Ev.scopeA
        rw [g1]
        simp only [hn, g2, g3, g4, e1, e2]
      · simp only [hn, g2, g3, e1]
      · simp only [hn, g2, g4, e2]
      · intro id hid
        refine g5 id ?_
        rcases hid with hid | hid
        · left
          have := (mem_offA.mp hid).1
          rw [e2] at this; exact this
        · exact .inr hid
      · intro id hid hgr
        refine g6 id ?_ hgr
        intro hw
        exact hid (mem_offA.mpr ⟨by rw [e2]; exact hw, hgr⟩)
  · cases h
theorem drawOps_framed {cf : CallF} (hf : FramedF cf) (ops : Array Oper) : ∀ (l : List (Nat × Oper)) (recs : List Rec) (fr : Fr), Framed (drawOps P nt ops l recs cf fr)
  | [], _, fr => .ok _
  | (i, o) :: l, recs, fr => by
    refine Framed.iff (m := fun s => bindR (scopeA (stepOp P nt ops o cf fr) s) fun p s => cond (clashes (unord ops i).l recs p.2) (Rs.no "") (drawOps P nt ops l (recs ++ [p.2]) cf p.1 s))
      (Framed.bind (f := fun p s => cond (clashes (unord ops i).l recs p.2) (Rs.no "") (drawOps P nt ops l (recs ++ [p.2]) cf p.1 s)) (Framed.scopeA (stepOp_framed hf ops o fr)) fun p => .cond _ (.no _) (drawOps_framed hf ops l _ _)) ?_
    intro s b s'
    have e : drawOps P nt ops ((i, o) :: l) recs cf fr s = (match scopeA (stepOp P nt ops o cf fr) s with | .ok (fr, x) s => cond (clashes (unord ops i).l recs x) (Rs.no ("clash " ++ toString i ++ " @ " ++ o.pos)) (drawOps P nt ops l (recs ++ [x]) cf fr s) | .no y => Rs.no y) := rfl
    rw [e]
    cases scopeA (stepOp P nt ops o cf fr) s with
    | no _ => simp [bindR]
    | ok p s1 =>
      obtain ⟨fr1, x⟩ := p
      dsimp only [bindR]
      cases clashes (unord ops i).l recs x <;> simp [cond]
/-- What an operation does, the frame aside. -/
noncomputable def valOp (P : Program) (ops : Array Oper) (o : Oper) (cf : CallF) (t : Nat → AV) (dfr : Bool) (s : S) : RV :=
  cond (wantedA ops o t)
    (match evs t (prepK P o).args with
    | none => .no ""
    | some a => (match wayOf o.op with
      | .val | .com => (opK P o.op).run cf a s
      | .rcv => cond dfr (.ok .nili s) (.no "")
      | .dfr => .no ""))
    (.ok undefA s)
theorem stepOp_val {cf : CallF} {ops : Array Oper} {o : Oper} {s s' : S} (ho : isVal o = true) : stepOp P nt ops o cf fr s = .ok fr' s' ↔ ∃ v, valOp P ops o cf fr.t fr.dfr s = .ok v s' ∧ fr' = fr.put nt o.dst v := by
  unfold stepOp valOp
  cases hw : wantedA ops o fr.t with
  | false =>
    simp only [cond]
    constructor
    · intro h; cases h; exact ⟨_, rfl, rfl⟩
    · rintro ⟨v, h, rfl⟩; cases h; rfl
  | true =>
    simp only [cond]
    cases he : evs fr.t (prepK P o).args with
    | none => simp
    | some a =>
      simp only [prepK]
      unfold isVal at ho
      cases hv : wayOf o.op with
      | dfr => rw [hv] at ho; cases ho
      | val =>
        simp only
        cases (opK P o.op).run cf a s with
        | no y => simp
        | ok v s1 =>
          simp only [Rs.ok.injEq]
          constructor
          · rintro ⟨rfl, rfl⟩; exact ⟨v, ⟨rfl, rfl⟩, rfl⟩
          · rintro ⟨v', ⟨rfl, rfl⟩, rfl⟩; exact ⟨rfl, rfl⟩
      | com =>
        simp only
        cases (opK P o.op).run cf a s with
        | no y => simp
        | ok v s1 =>
          simp only [Rs.ok.injEq]
          constructor
          · rintro ⟨rfl, rfl⟩; exact ⟨v, ⟨rfl, rfl⟩, rfl⟩
          · rintro ⟨v', ⟨rfl, rfl⟩, rfl⟩; exact ⟨rfl, rfl⟩
      | rcv =>
        simp only
        cases fr.dfr with
        | false => simp
        | true =>
          simp only [Rs.ok.injEq]
          constructor
          · rintro ⟨rfl, rfl⟩; exact ⟨_, ⟨rfl, rfl⟩, rfl⟩
          · rintro ⟨v', ⟨rfl, rfl⟩, rfl⟩; exact ⟨rfl, rfl⟩
theorem valOp_framed {cf : CallF} (hf : FramedF cf) (ops : Array Oper) (o : Oper) (t : Nat → AV) (dfr : Bool) : Framed (valOp P ops o cf t dfr) := by
  unfold valOp
  refine .cond _ ?_ (.ok _)
  split
  · exact .no _
  · split
    · exact opK_framed hf o.op _
    · exact opK_framed hf o.op _
    · exact .cond _ (.ok _) (.no _)
    · exact .no _
theorem evs_congr {t t2 : Nat → AV} : ∀ {l : List Operand}, (∀ d, Operand.tmp d ∈ l → t d = t2 d) → evs t l = evs t2 l
  | [], _ => rfl
  | o :: l, h => by
    have h1 : evO t o = evO t2 o := by
      cases o with
      | tmp d => show some (t d) = some (t2 d); rw [h d (by simp)]
      | _ => rfl
    have h2 : evs t l = evs t2 l := evs_congr fun d hd => h d (by simp [hd])
    show (match evO t o, evs t l with | some v, some vs => some (v :: vs) | _, _ => none) = (match evO t2 o, evs t2 l with | some v, some vs => some (v :: vs) | _, _ => none)
    rw [h1, h2]
theorem valOp_congr {cf : CallF} {ops : Array Oper} {o : Oper} {t t2 : Nat → AV} {dfr : Bool} (h : ∀ d, d ∈ o.looksAt ops → t d = t2 d) : valOp P ops o cf t dfr = valOp P ops o cf t2 dfr := by
  have h1 : evs t (prepK P o).args = evs t2 (prepK P o).args := evs_congr fun d hd => h d (by
    unfold Oper.looksAt
    exact List.mem_append_left _ (List.mem_filterMap.mpr ⟨_, hd, rfl⟩))
  have h2 : wantedA ops o t = wantedA ops o t2 := by
    unfold wantedA
    cases hg : o.guard with
    | none => rfl
    | some p =>
      obtain ⟨j, want⟩ := p
      dsimp only
      cases hd : (ops[j]?).bind (·.dst) with
      | none => rfl
      | some d =>
        dsimp only
        rw [h d (by unfold Oper.looksAt; refine List.mem_append_right _ ?_; rw [hg]; dsimp only; rw [hd]; simp)]
  funext s
  unfold valOp
  rw [h1, h2]
end
end Go.Ev
namespace Go.Ev
/-- What an operation waits for. -/
def Bf (ops : Array Oper) (j i : Nat) : Bool := ((bef ops).l.getD i 0).testBit j
theorem maskOf_bit (acc : List Nat) : ∀ (l : List Edge) (s j : Nat), (maskOf acc l s).testBit j = true → s.testBit j = true ∨ ∃ e ∈ l, Region.binds .any e = true ∧ (j = e.on ∨ (acc.getD e.on 0).testBit j = true)
  | [], s, j, h => .inl h
  | e :: l, s, j, h => by
    have h : (maskOf acc l (cond (Region.binds .any e) (s ||| 2 ^ e.on ||| acc.getD e.on 0) s)).testBit j = true := h
    rcases maskOf_bit acc l _ j h with h1 | ⟨e', he, hb, hj⟩
    · cases hb : Region.binds .any e with
      | false => rw [hb] at h1; exact .inl h1
      | true =>
        rw [hb] at h1
        simp only [cond, Nat.testBit_or, Bool.or_eq_true] at h1
        rcases h1 with (h1 | h1) | h1
        · exact .inl h1
        · refine .inr ⟨e, by simp, hb, .inl ?_⟩
          rw [Nat.testBit_two_pow] at h1
          simpa [eq_comm] using h1
        · exact .inr ⟨e, by simp, hb, .inr h1⟩
    · exact .inr ⟨e', by simp [he], hb, hj⟩
theorem befL_take : ∀ (l : List Oper) (acc : List Nat), (befL l acc).take acc.length = acc ∧ ∀ (k : Nat) (o : Oper), l[k]? = some o → (befL l acc).getD (acc.length + k) 0 = maskOf ((befL l acc).take (acc.length + k)) o.after.toList 0
  | [], acc => ⟨by simp [befL], fun k o h => by simp at h⟩
  | o :: l, acc => by
    obtain ⟨h1, h2⟩ := befL_take l (acc ++ [maskOf acc o.after.toList 0])
    have e : befL (o :: l) acc = befL l (acc ++ [maskOf acc o.after.toList 0]) := rfl
    rw [← e] at h1 h2
    have hl : (acc ++ [maskOf acc o.after.toList 0]).length = acc.length + 1 := by simp
    rw [hl] at h1 h2
    have ht : (befL (o :: l) acc).take acc.length = acc := by
      have := congrArg (List.take acc.length) h1
      rw [List.take_take, Nat.min_eq_left (by omega)] at this
      rw [this]; simp
    refine ⟨ht, ?_⟩
    intro k o' hk
    cases k with
    | zero =>
      simp only [List.getElem?_cons_zero, Option.some.injEq] at hk
      subst hk
      rw [Nat.add_zero, ht]
      have : ((befL (o :: l) acc).take (acc.length + 1))[acc.length]? = some (maskOf acc o.after.toList 0) := by rw [h1]; simp
      rw [List.getElem?_take, if_pos (by omega)] at this
      rw [List.getD_eq_getElem?_getD, this]; rfl
    | succ k =>
      have := h2 k o' (by simpa using hk)
      rw [show acc.length + (k + 1) = acc.length + 1 + k by omega]
      exact this
theorem bf_edge {ops : Array Oper} {i j : Nat} {o : Oper} (ho : ops[i]? = some o) (h : Bf ops j i = true) : ∃ e ∈ o.after.toList, Region.binds .any e = true ∧ (j = e.on ∨ Bf ops j e.on = true) := by
  unfold Bf at h
  have h2 := (befL_take ops.toList []).2 i o (by simpa using ho)
  simp only [List.length_nil, Nat.zero_add] at h2
  have e : (bef ops).l = befL ops.toList [] := rfl
  rw [e, h2] at h
  rcases maskOf_bit _ _ _ _ h with h | ⟨x, hx, hb, hj⟩
  · simp at h
  · refine ⟨x, hx, hb, hj.imp id ?_⟩
    intro h
    unfold Bf
    rw [e]
    rw [List.getD_eq_getElem?_getD, List.getElem?_take] at h
    split at h
    · rw [List.getD_eq_getElem?_getD]; exact h
    · simp at h
theorem clashes_false : ∀ (us : List Bool) (recs : List Rec) (y : Rec), clashes us recs y = false → ∀ (k : Nat) (x : Rec), us[k]? = some true → recs[k]? = some x → clash x y = false
  | [], _, _, _, k, x, h, _ => by simp at h
  | _ :: _, [], _, _, k, x, _, h => by simp at h
  | u :: us, x0 :: recs, y, h, k, x, h1, h2 => by
    cases k with
    | zero =>
      simp only [List.getElem?_cons_zero, Option.some.injEq] at h1 h2
      subst h1 h2
      have h : (clash x0 y || clashes us recs y) = false := h
      simp only [Bool.or_eq_false_iff] at h
      exact h.1
    | succ k =>
      have h' : clashes us recs y = false := by
        cases u with
        | false => exact h
        | true =>
          have h : (clash x0 y || clashes us recs y) = false := h
          simp only [Bool.or_eq_false_iff] at h
          exact h.2
      exact clashes_false us recs y h' k x (by simpa using h1) (by simpa using h2)
theorem apartAll_true {ops : Array Oper} {o : Oper} : ∀ (us : List Bool) (l : List Oper), apartAll ops o us l = true → ∀ (k : Nat) (x : Oper), us[k]? = some true → l[k]? = some x → x.apart ops o = true
  | [], _, _, k, x, h, _ => by simp at h
  | _ :: _, [], _, k, x, _, h => by simp at h
  | u :: us, x0 :: l, h, k, x, h1, h2 => by
    cases k with
    | zero =>
      simp only [List.getElem?_cons_zero, Option.some.injEq] at h1 h2
      subst h1 h2
      have h : (x0.apart ops o && apartAll ops o us l) = true := h
      simp only [Bool.and_eq_true] at h
      exact h.1
    | succ k =>
      have h' : apartAll ops o us l = true := by
        cases u with
        | false => exact h
        | true =>
          have h : (x0.apart ops o && apartAll ops o us l) = true := h
          simp only [Bool.and_eq_true] at h
          exact h.2
      exact apartAll_true us l h' k x (by simpa using h1) (by simpa using h2)
theorem unord_get {ops : Array Oper} {i j : Nat} (h : j < i) (hb : Bf ops j i = false) : (unord ops i).l[j]? = some true := by
  unfold unord
  simp only [List.getElem?_map, List.getElem?_range h, Option.map_some]
  unfold Bf at hb
  rw [hb]; rfl
theorem inR_false {a z : Nat} {l : List Nat} (h : inR a z l = false) : ∀ i ∈ l, i < a ∨ z ≤ i := by
  intro i hi
  unfold inR at h
  by_cases hz : a = z
  · omega
  · have : Nat.beq a z = false := by
      cases hb : Nat.beq a z with
      | false => rfl
      | true => exact absurd (Nat.eq_of_beq_eq_true hb) hz
    rw [this] at h
    simp only [cond, List.any_eq_false] at h
    have := h i hi
    by_cases h1 : a ≤ i
    · by_cases h2 : i < z
      · exfalso; apply this
        rw [Nat.ble_eq_true_of_le h1]
        have : Nat.blt i z = true := Nat.ble_eq_true_of_le h2
        rw [this]; rfl
      · omega
    · omega
theorem meets_false {a b : List Nat} (h : meets a b = false) : ∀ i ∈ a, i ∉ b := by
  intro i hi hb
  unfold meets at h
  simp only [List.any_eq_false] at h
  exact h i hi (List.any_eq_true.mpr ⟨i, hb, Nat.beq_refl i⟩)
/-- A region's operations, one behind another, as the evaluator has done them. -/
structure Run (P : Program) (nt : Nat) (ops : Array Oper) (cf : CallF) where
  F : Nat → Fr
  H : Nat → Tr AO
  n : Nat → Nat
  r : Nat → List Nat
  w : Nat → List Nat
  v : Nat → AV
  mono : ∀ i, i < ops.size → n i ≤ n (i + 1)
  frame : ∀ (i : Nat) (o : Oper), ops[i]? = some o → F (i + 1) = (F i).put nt o.dst (v i)
  keep : ∀ i, i < ops.size → ∀ id, id ∉ w i → (id < n i ∨ n (i + 1) ≤ id) → (H (i + 1)).get id = (H i).get id
  again : ∀ (i : Nat) (o : Oper), ops[i]? = some o → ∀ s2 : S, s2.n = n i → (∀ id, id ∈ r i → s2.h.get id = (H i).get id) → (∀ id, n i ≤ id → id < n (i + 1) → s2.h.get id = (H i).get id) →
    ∃ s2', valOp P ops o cf (F i).t (F i).dfr s2 = .ok (v i) s2' ∧ s2'.n = n (i + 1) ∧
      (∀ id, (id ∈ w i ∨ (n i ≤ id ∧ id < n (i + 1))) → s2'.h.get id = (H (i + 1)).get id) ∧ (∀ id, id ∉ w i → (id < n i ∨ n (i + 1) ≤ id) → s2'.h.get id = s2.h.get id)
  apart : ∀ (j i : Nat) (x y : Oper), j < i → ops[j]? = some x → ops[i]? = some y → Bf ops j i = false → x.apart ops y = true
  clash : ∀ (j i : Nat), j < i → i < ops.size → Bf ops j i = false →
    (∀ id, (id ∈ w j ∨ (n j ≤ id ∧ id < n (j + 1))) → id ∉ r i ∧ ¬ (id ∈ w i ∨ (n i ≤ id ∧ id < n (i + 1)))) ∧ (∀ id, id ∈ r j → ¬ (id ∈ w i ∨ (n i ≤ id ∧ id < n (i + 1))))
  vals : ∀ (i : Nat) (o : Oper), ops[i]? = some o → isVal o = true
  edges : ∀ (i : Nat) (o : Oper), ops[i]? = some o → ∀ e ∈ o.after.toList, Region.binds .any e = true → e.on < i
section
variable {P : Program} {nt : Nat} {cf : CallF} {ops : Array Oper}
theorem drawOps_trace : ∀ (l : List Oper) (i : Nat) (recs : List Rec) (fr : Fr) (s : S) (x : X) (fr' : Fr) (s' : S), recs.length = i → drawOps P nt ops ((l.zipIdx i).map fun (o, i) => (i, o)) recs cf fr s = .ok (x, fr') s' →
    x = .nrm ∧ ∃ (F : Nat → Fr) (T : Nat → S) (X : Nat → Rec), F i = fr ∧ T i = s ∧ F (i + l.length) = fr' ∧ T (i + l.length) = s' ∧ recs = (List.range i).map X ∧
      ∀ k o, l[k]? = some o → scopeA (stepOp P nt ops o cf (F (i + k))) (T (i + k)) = .ok (F (i + k + 1), X (i + k)) (T (i + k + 1)) ∧ clashes (unord ops (i + k)).l ((List.range (i + k)).map X) (X (i + k)) = false
  | [], i, recs, fr, s, x, fr', s', hi, h => by
    cases h
    refine ⟨rfl, fun _ => fr, fun _ => s, fun j => recs.getD j ⟨0, 0, [], []⟩, rfl, rfl, rfl, rfl, ?_, fun k o h => by simp at h⟩
    refine List.ext_getElem? fun j => ?_
    by_cases hj : j < i
    · rw [List.getElem?_map, List.getElem?_range hj]
      simp only [Option.map_some, List.getD_eq_getElem?_getD]
      rw [List.getElem?_eq_getElem (by omega)]; rfl
    · rw [List.getElem?_eq_none (by omega), List.getElem?_eq_none (by simp; omega)]
  | o :: l, i, recs, fr, s, x, fr', s', hi, h => by
    have h : (match scopeA (stepOp P nt ops o cf fr) s with | .ok (fr, x) s => cond (clashes (unord ops i).l recs x) (Rs.no ("clash " ++ toString i ++ " @ " ++ o.pos)) (drawOps P nt ops ((l.zipIdx (i + 1)).map fun (o, i) => (i, o)) (recs ++ [x]) cf fr s) | .no y => Rs.no y) = .ok (x, fr') s' := h
    cases hs : scopeA (stepOp P nt ops o cf fr) s with
    | no y => rw [hs] at h; cases h
    | ok p s1 =>
      obtain ⟨fr1, y⟩ := p
      rw [hs] at h
      dsimp only at h
      cases hc : clashes (unord ops i).l recs y with
      | true => rw [hc] at h; cases h
      | false =>
        rw [hc] at h
        obtain ⟨hx, F, T, X, e1, e2, e3, e4, e5, e6⟩ := drawOps_trace l (i + 1) (recs ++ [y]) fr1 s1 x fr' s' (by simp [hi]) h
        rw [List.range_succ, List.map_append] at e5
        obtain ⟨e5, e7⟩ := List.append_inj e5 (by simp [hi])
        have e7 : y = X i := by simpa using e7
        refine ⟨hx, fun j => if j = i then fr else F j, fun j => if j = i then s else T j, X, by simp, by simp, ?_, ?_, e5, ?_⟩
        · simp only [List.length_cons]
          rw [if_neg (by omega), ← e3]; congr 1; omega
        · simp only [List.length_cons]
          rw [if_neg (by omega), ← e4]; congr 1; omega
        · intro k o' hk
          cases k with
          | zero =>
            simp only [List.getElem?_cons_zero, Option.some.injEq] at hk
            subst hk
            simp only [Nat.add_zero, if_true, if_neg (show ¬ i + 1 = i by omega), e1, e2, ← e7, ← e5]
            exact ⟨hs, hc⟩
          | succ k =>
            have := e6 k o' (by simpa using hk)
            rw [show i + (k + 1) = i + 1 + k by omega]
            simp only [if_neg (show ¬ i + 1 + k = i by omega), if_neg (show ¬ i + 1 + k + 1 = i by omega)]
            exact this
theorem drawOk_at (h : (drawOk ops).b = true) {i : Nat} {o : Oper} (ho : ops[i]? = some o) : isVal o = true ∧ (∀ e ∈ o.after.toList, Region.binds .any e = true → e.on < i) ∧ apartAll ops o (unord ops i).l ops.toList = true := by
  unfold drawOk at h
  simp only [List.all_eq_true] at h
  have hm : (o, i) ∈ ops.toList.zipIdx := by
    rw [List.mem_zipIdx_iff_getElem?]; simpa using ho
  have := h _ hm
  simp only [Bool.and_eq_true, List.all_eq_true, Bool.or_eq_true, Bool.not_eq_true'] at this
  obtain ⟨⟨h1, h2⟩, h3⟩ := this
  refine ⟨h1, ?_, h3⟩
  intro e he hb
  rcases h2 e he with h2 | h2
  · rw [h2] at hb; cases hb
  · have := Nat.le_of_ble_eq_true h2; omega
/-- What the evaluator has done, told as a run. -/
theorem drawOps_run (hf : FramedF cf) (hd : (drawOk ops).b = true) {fr fr' : Fr} {s s' : S} {x : Ev.X} (h : drawOps P nt ops (ops.toList.zipIdx.map fun (o, i) => (i, o)) [] cf fr s = .ok (x, fr') s') :
    x = .nrm ∧ ∃ R : Run P nt ops cf, R.F 0 = fr ∧ R.H 0 = s.h ∧ R.n 0 = s.n ∧ R.F ops.size = fr' ∧ R.H ops.size = s'.h ∧ R.n ops.size = s'.n := by
  obtain ⟨hx, F, T, X, e1, e2, e3, e4, _, e6⟩ := drawOps_trace ops.toList 0 [] fr s x fr' s' rfl h
  simp only [Nat.zero_add, Array.length_toList] at e3 e4 e6
  refine ⟨hx, ?_⟩
  have e6 : ∀ k o, ops[k]? = some o → scopeA (stepOp P nt ops o cf (F k)) (T k) = .ok (F (k + 1), X k) (T (k + 1)) ∧ clashes (unord ops k).l ((List.range k).map X) (X k) = false := by
    intro k o hk
    exact e6 k o (by simpa using hk)
  have key : ∀ k, ∃ q : List Nat × List Nat × AV, ∀ o, ops[k]? = some o →
      (T k).n ≤ (T (k + 1)).n ∧ F (k + 1) = (F k).put nt o.dst q.2.2 ∧ X k = ⟨(T k).n, (T (k + 1)).n, q.1.filter (offA (T k).n (T (k + 1)).n), q.2.1.filter (offA (T k).n (T (k + 1)).n)⟩ ∧
      (∀ id, id ∉ q.2.1 → (id < (T k).n ∨ (T (k + 1)).n ≤ id) → (T (k + 1)).h.get id = (T k).h.get id) ∧
      ∀ s2 : S, s2.n = (T k).n → (∀ id, id ∈ q.1 → s2.h.get id = (T k).h.get id) → (∀ id, (T k).n ≤ id → id < (T (k + 1)).n → s2.h.get id = (T k).h.get id) →
        ∃ s2', valOp P ops o cf (F k).t (F k).dfr s2 = .ok q.2.2 s2' ∧ s2'.n = (T (k + 1)).n ∧
          (∀ id, (id ∈ q.2.1 ∨ ((T k).n ≤ id ∧ id < (T (k + 1)).n)) → s2'.h.get id = (T (k + 1)).h.get id) ∧ (∀ id, id ∉ q.2.1 → (id < (T k).n ∨ (T (k + 1)).n ≤ id) → s2'.h.get id = s2.h.get id) := by
    intro k
    cases ho : ops[k]? with
    | none => exact ⟨([], [], undefA), fun o h => by cases h⟩
    | some o =>
      have hs := (e6 k o ho).1
      unfold scopeA at hs
      split at hs
      · rename_i a s1 hst
        injection hs with h1 h2
        injection h1 with ha hX
        have tn : (T (k + 1)).n = s1.n := by rw [← h2]
        have th : (T (k + 1)).h = s1.h := by rw [← h2]
        have hv := (drawOk_at hd ho).1
        obtain ⟨v, hval, hput⟩ := (stepOp_val hv).mp hst
        obtain ⟨n1, r, w, f1, f2, k1, g⟩ := valOp_framed hf ops o (F k).t (F k).dfr _ v s1 hval
        simp only [List.append_nil] at f1 f2
        refine ⟨(r, w, v), ?_⟩
        rintro o' h
        cases h
        rw [tn, th]
        refine ⟨n1, by rw [← ha]; exact hput, by rw [← hX, f1, f2], k1, ?_⟩
        intro s2 hn hr hfr
        obtain ⟨s2', g1, g2, _, _, g5, g6⟩ := g s2 hn hr hfr
        exact ⟨s2', g1, g2, g5, g6⟩
      · cases hs
  have hsome : ∀ i, i < ops.size → ∃ o, ops[i]? = some o := fun i hi => ⟨ops[i], by simp [hi]⟩
  have hlt : ∀ i o, ops[i]? = some o → i < ops.size := fun i o ho => by
    rcases Nat.lt_or_ge i ops.size with h | h
    · exact h
    · rw [Array.getElem?_eq_none h] at ho; cases ho
  obtain ⟨q, hk⟩ := Classical.skolem.mp key
  refine ⟨{ F := F, H := fun i => (T i).h, n := fun i => (T i).n, r := fun i => (q i).1, w := fun i => (q i).2.1, v := fun i => (q i).2.2, mono := ?_, frame := ?_, keep := ?_, again := ?_, apart := ?_, clash := ?_, vals := ?_, edges := ?_ }, e1, congrArg S.h e2, congrArg S.n e2, e3, congrArg S.h e4, congrArg S.n e4⟩
  · intro i hi
    obtain ⟨o, ho⟩ := hsome i hi
    exact (hk i o ho).1
  · intro i o ho
    exact (hk i o ho).2.1
  · intro i hi
    obtain ⟨o, ho⟩ := hsome i hi
    exact (hk i o ho).2.2.2.1
  · intro i o ho
    exact (hk i o ho).2.2.2.2
  · intro j i x y hji hx hy hb
    exact apartAll_true _ _ (drawOk_at hd hy).2.2 j x (unord_get hji hb) (by simpa using hx)
  · intro j i hji hi hb
    obtain ⟨o, ho⟩ := hsome i hi
    obtain ⟨oj, hoj⟩ := hsome j (by omega)
    have hc := clashes_false _ _ _ (e6 i o ho).2 j (X j) (unord_get hji hb) (by rw [List.getElem?_map, List.getElem?_range hji]; rfl)
    have hm : ∀ m k, j + 1 + m = k → k ≤ ops.size → (T (j + 1)).n ≤ (T k).n := by
      intro m
      induction m with
      | zero => intro k h _; rw [← h]; exact Nat.le_refl _
      | succ m ih =>
        intro k h hk'
        have h1 := ih (j + 1 + m) rfl (by omega)
        obtain ⟨o2, ho2⟩ := hsome (j + 1 + m) (by omega)
        have h2 := (hk _ o2 ho2).1
        rw [← h]
        exact Nat.le_trans h1 h2
    have hmon := hm (i - (j + 1)) i (by omega) (by omega)
    have hmj := (hk j oj hoj).1
    rw [(hk j oj hoj).2.2.1, (hk i o ho).2.2.1] at hc
    unfold Ev.clash at hc
    simp only [Bool.or_eq_false_iff] at hc
    obtain ⟨⟨⟨⟨⟨⟨c1, c2⟩, c3⟩, c4⟩, c5⟩, c6⟩, c7⟩ := hc
    have m1 := meets_false c1
    have m2 := meets_false c2
    have m3 := meets_false c3
    have i4 := inR_false c4
    have i5 := inR_false c5
    have i6 := inR_false c6
    have i7 := inR_false c7
    simp only [mem_offA] at m1 m2 m3 i4 i5 i6 i7
    refine ⟨?_, ?_⟩
    · intro id hw
      by_cases hin : (T j).n ≤ id ∧ id < (T (j + 1)).n
      · refine ⟨?_, ?_⟩
        · intro hr
          have := i6 id ⟨hr, by omega⟩; omega
        · rintro (h | h)
          · have := i4 id ⟨h, by omega⟩; omega
          · omega
      · have hw : id ∈ (q j).2.1 := by rcases hw with h | h; exact h; exact absurd h hin
        have hi2 : ¬ ((T i).n ≤ id ∧ id < (T (i + 1)).n) := by
          intro h
          have := i5 id ⟨hw, by omega⟩; omega
        refine ⟨?_, ?_⟩
        · intro hr
          exact m1 id ⟨hw, by omega⟩ ⟨hr, by omega⟩
        · rintro (h | h)
          · exact m3 id ⟨hw, by omega⟩ ⟨h, by omega⟩
          · exact hi2 h
    · intro id hr
      by_cases hin : (T j).n ≤ id ∧ id < (T (j + 1)).n
      · rintro (h | h)
        · have := i4 id ⟨h, by omega⟩; omega
        · omega
      · rintro (h | h)
        · by_cases hi2 : (T i).n ≤ id ∧ id < (T (i + 1)).n
          · have := i7 id ⟨hr, by omega⟩; omega
          · exact m2 id ⟨h, by omega⟩ ⟨hr, by omega⟩
        · have := i7 id ⟨hr, by omega⟩; omega
  · intro i o ho
    exact (drawOk_at hd ho).1
  · intro i o ho
    exact (drawOk_at hd ho).2.1
end
end Go.Ev
namespace Go.Ev
open Go.RowKit (Below)
/-- A region's operations are done in whatever order. -/
def OpsAny (P : Program) (dfr : Bool) (ops : Array Oper) (R : Act → World → Prop) : Nat → Array Bool → Act → World → Prop
  | 0, _, a, w => R a w
  | fuel + 1, listed, a, w => (Region.ready .any ops listed = [] → R a w) ∧ ∀ i ∈ Region.ready .any ops listed, OpSteps P dfr ops i a w (OpsAny P dfr ops R fuel (listed.setIfInBounds i true))
section
variable {P : Program} {nt B0 : Nat} {w0 : World} {cf : CallF} {ops : Array Oper}
theorem opsAny_sound {dfr : Bool} {R : Act → World → Prop} : ∀ (fuel t : Nat) (listed : Array Bool) (a : Act) (w : World), OpsAny P dfr ops R fuel listed a w → OpsTo P dfr ops (Region.linearise.go .any ops fuel t listed []) a w R
  | 0, t, listed, a, w, h => fun b k cs _ => ⟨a, w, h, .refl _ _⟩
  | fuel + 1, t, listed, a, w, ⟨h0, h1⟩ => by
    simp only [Region.linearise.go]
    change OpsTo P dfr ops (match (Region.ready .any ops listed)[t % (Region.ready .any ops listed).length]? with
      | some i => Region.linearise.go .any ops fuel (t / (Region.ready .any ops listed).length) (listed.setIfInBounds i true) [i]
      | none => [].reverse) a w R
    cases hi : (Region.ready .any ops listed)[t % (Region.ready .any ops listed).length]? with
    | none =>
      have hnil : Region.ready .any ops listed = [] := by
        cases hr : Region.ready .any ops listed with
        | nil => rfl
        | cons x xs =>
          rw [hr] at hi
          have hlt : t % (x :: xs).length < (x :: xs).length := Nat.mod_lt _ (by simp)
          simp at hi
          simp at hlt
          omega
      exact fun b k cs _ => ⟨a, w, h0 hnil, .refl _ _⟩
    | some i =>
      simp only []
      rw [linearise_go_acc, List.reverse_singleton, List.singleton_append]
      intro b k cs hc
      obtain ⟨a1, w1, hr, st⟩ := h1 i (List.mem_of_getElem? hi) b k cs (Region.linearise.go .any ops fuel (t / (Region.ready .any ops listed).length) (listed.setIfInBounds i true) []) hc
      obtain ⟨a2, w2, hr2, st2⟩ := opsAny_sound fuel _ _ a1 w1 hr b k cs hc
      exact ⟨a2, w2, hr2, Steps.trans st st2⟩
/-- Where memory and the frame stand when some of a run's operations are done: everywhere as the run had it at some place. -/
structure Mid (R : Run P nt ops cf) (B0 : Nat) (w0 : World) (ρ : Env) (listed : Array Bool) (a : Act) (w : World) : Prop where
  size : listed.size = ops.size
  closed : ∀ i j, i < ops.size → listed.getD i false = true → Bf ops j i = true → listed.getD j false = true
  at_ : ∃ (fr : Fr) (h : Tr AO) (ρ' : Env), FRel ρ' nt fr a ∧ Rel B0 w0 ρ' h w ∧ fr.d = (R.F 0).d ∧ fr.dfr = (R.F 0).dfr ∧
    (∀ id, ∃ j, j ≤ ops.size ∧ (∀ k, k < ops.size → (id ∈ R.w k ∨ (R.n k ≤ id ∧ id < R.n (k + 1))) → (listed.getD k false = true ↔ k < j)) ∧ h.get id = (R.H j).get id) ∧
    (∀ x, ∃ j, j ≤ ops.size ∧ (∀ k o, ops[k]? = some o → o.dst = some x → (listed.getD k false = true ↔ k < j)) ∧ fr.t x = (R.F j).t x) ∧
    Ext ρ ρ' (R.n 0) (R.n ops.size) ∧ (∀ i, i < ops.size → listed.getD i false = false → Fresh ρ' (R.n i) (R.n (i + 1)))
theorem put_d (fr : Fr) (dst : Option Nat) (v : AV) : (fr.put nt dst v).d = fr.d := by
  unfold Fr.put; cases dst with
  | none => rfl
  | some d => dsimp only; cases Nat.blt d nt <;> rfl
theorem put_dfr (fr : Fr) (dst : Option Nat) (v : AV) : (fr.put nt dst v).dfr = fr.dfr := by
  unfold Fr.put; cases dst with
  | none => rfl
  | some d => dsimp only; cases Nat.blt d nt <;> rfl
theorem put_other (fr : Fr) {dst : Option Nat} (v : AV) {x : Nat} (h : dst ≠ some x) : (fr.put nt dst v).t x = fr.t x := by
  unfold Fr.put; cases dst with
  | none => rfl
  | some d =>
    dsimp only
    cases Nat.blt d nt with
    | false => rfl
    | true =>
      show cond (Nat.beq x d) v (fr.t x) = fr.t x
      cases hb : Nat.beq x d with
      | false => rfl
      | true => exact absurd (by rw [Nat.eq_of_beq_eq_true hb]) h
theorem put_same {fr fr2 : Fr} {dst : Option Nat} {v : AV} {x : Nat} (h : fr.t x = fr2.t x) : (fr.put nt dst v).t x = (fr2.put nt dst v).t x := by
  unfold Fr.put; cases dst with
  | none => exact h
  | some d =>
    dsimp only
    cases Nat.blt d nt with
    | false => exact h
    | true =>
      show cond (Nat.beq x d) v (fr.t x) = cond (Nat.beq x d) v (fr2.t x)
      rw [h]
namespace Run
variable (R : Run P nt ops cf)
theorem size_of {i : Nat} {o : Oper} (ho : ops[i]? = some o) : i < ops.size := by
  rcases Nat.lt_or_ge i ops.size with h | h
  · exact h
  · rw [Array.getElem?_eq_none h] at ho; cases ho
theorem get_of {i : Nat} (h : i < ops.size) : ∃ o, ops[i]? = some o := ⟨ops[i], by simp [h]⟩
theorem n_le {i j : Nat} (h : i ≤ j) (hj : j ≤ ops.size) : R.n i ≤ R.n j := by
  induction j with
  | zero => have : i = 0 := by omega
            subst this; exact Nat.le_refl _
  | succ j ih =>
    by_cases e : i = j + 1
    · subst e; exact Nat.le_refl _
    · exact Nat.le_trans (ih (by omega) (by omega)) (R.mono j (by omega))
theorem d_eq {i : Nat} (h : i ≤ ops.size) : (R.F i).d = (R.F 0).d ∧ (R.F i).dfr = (R.F 0).dfr := by
  induction i with
  | zero => exact ⟨rfl, rfl⟩
  | succ i ih =>
    obtain ⟨o, ho⟩ := get_of (ops := ops) (i := i) (by omega)
    rw [R.frame i o ho, put_d, put_dfr]
    exact ih (by omega)
/-- Where nobody writes between. -/
theorem h_eq {id i j : Nat} (hij : i ≤ j) (hj : j ≤ ops.size) (h : ∀ k, i ≤ k → k < j → ¬ (id ∈ R.w k ∨ (R.n k ≤ id ∧ id < R.n (k + 1)))) : (R.H j).get id = (R.H i).get id := by
  induction j with
  | zero => have : i = 0 := by omega
            subst this; rfl
  | succ j ih =>
    by_cases e : i = j + 1
    · subst e; rfl
    · have := h j (by omega) (by omega)
      simp only [not_or] at this
      rw [R.keep j (by omega) id this.1 (by omega)]
      exact ih (by omega) (by omega) fun k h1 h2 => h k h1 (by omega)
theorem t_eq {x i j : Nat} (hij : i ≤ j) (hj : j ≤ ops.size) (h : ∀ k o, i ≤ k → k < j → ops[k]? = some o → o.dst ≠ some x) : (R.F j).t x = (R.F i).t x := by
  induction j with
  | zero => have : i = 0 := by omega
            subst this; rfl
  | succ j ih =>
    by_cases e : i = j + 1
    · subst e; rfl
    · obtain ⟨o, ho⟩ := get_of (ops := ops) (i := j) (by omega)
      rw [R.frame j o ho, put_other _ _ (h j o (by omega) (by omega) ho)]
      exact ih (by omega) (by omega) fun k o h1 h2 => h k o h1 (by omega)
/-- Two places between which nobody writes. -/
theorem h_cut {id i j : Nat} {L : Nat → Prop} (hi : i ≤ ops.size) (hj : j ≤ ops.size) (h1 : ∀ k, k < ops.size → (id ∈ R.w k ∨ (R.n k ≤ id ∧ id < R.n (k + 1))) → (L k ↔ k < i)) (h2 : ∀ k, k < ops.size → (id ∈ R.w k ∨ (R.n k ≤ id ∧ id < R.n (k + 1))) → (L k ↔ k < j)) :
    (R.H j).get id = (R.H i).get id := by
  rcases Nat.le_total i j with h | h
  · exact R.h_eq h hj fun k a b hw => by have := (h1 k (by omega) hw).symm.trans (h2 k (by omega) hw); omega
  · exact (R.h_eq h hi fun k a b hw => by have := (h1 k (by omega) hw).symm.trans (h2 k (by omega) hw); omega).symm
theorem t_cut {x i j : Nat} {L : Nat → Prop} (hi : i ≤ ops.size) (hj : j ≤ ops.size) (h1 : ∀ k o, ops[k]? = some o → o.dst = some x → (L k ↔ k < i)) (h2 : ∀ k o, ops[k]? = some o → o.dst = some x → (L k ↔ k < j)) :
    (R.F j).t x = (R.F i).t x := by
  rcases Nat.le_total i j with h | h
  · exact R.t_eq h hj fun k o a b ho hw => by have := (h1 k o ho hw).symm.trans (h2 k o ho hw); omega
  · exact (R.t_eq h hi fun k o a b ho hw => by have := (h1 k o ho hw).symm.trans (h2 k o ho hw); omega).symm
end Run
theorem getD_set {l : Array Bool} {i k : Nat} (h : i < l.size) : (l.setIfInBounds i true).getD k false = if k = i then true else l.getD k false := by
  rw [Array.getD_eq_getD_getElem?, Array.getElem?_setIfInBounds, Array.getD_eq_getD_getElem?]
  by_cases e : k = i
  · subst e; simp [h]
  · rw [if_neg (fun e2 => e e2.symm), if_neg e]
theorem mem_ready {listed : Array Bool} {i : Nat} (hs : listed.size = ops.size) (h : i ∈ Region.ready .any ops listed) : i < ops.size ∧ listed.getD i false = false ∧ ∃ o, ops[i]? = some o ∧ ∀ e ∈ o.after.toList, Region.binds .any e = true → listed.getD e.on false = true := by
  unfold Region.ready at h
  simp only [List.mem_filter, List.mem_range, Bool.and_eq_true, Bool.not_eq_true'] at h
  obtain ⟨h1, h2, h3⟩ := h
  obtain ⟨o, ho⟩ := Run.get_of (ops := ops) h1
  refine ⟨h1, ?_, o, ho, ?_⟩
  · rw [Array.getD_eq_getD_getElem?, Array.getElem?_eq_getElem (by omega)] at h2 ⊢
    exact h2
  · rw [ho] at h3
    simp only [Option.map_some, Option.getD_some, Array.all_eq_true_iff_forall_mem] at h3
    intro e he hb
    have := h3 e (by simpa using he)
    simpa [hb] using this
theorem ready_nil {R : Run P nt ops cf} {listed : Array Bool} (hs : listed.size = ops.size) (h : Region.ready .any ops listed = []) : ∀ i, i < ops.size → listed.getD i false = true := by
  intro i
  induction i using Nat.strongRecOn with
  | ind i ih =>
    intro hi
    cases hl : listed.getD i false with
    | true => rfl
    | false =>
      exfalso
      obtain ⟨o, ho⟩ := Run.get_of (ops := ops) hi
      have : i ∈ Region.ready .any ops listed := by
        unfold Region.ready
        simp only [List.mem_filter, List.mem_range, Bool.and_eq_true, Bool.not_eq_true']
        refine ⟨hi, ?_, ?_⟩
        · rw [Array.getD_eq_getD_getElem?, Array.getElem?_eq_getElem (by omega)] at hl ⊢
          exact hl
        · rw [ho]
          simp only [Option.map_some, Option.getD_some, Array.all_eq_true_iff_forall_mem]
          intro e he
          cases hb : Region.binds .any e with
          | false => rfl
          | true =>
            have := R.edges i o ho e (by simpa using he) hb
            simp only [Bool.not_true, Bool.false_or]
            exact ih e.on this (by omega)
      rw [h] at this; cases this
/-- Who must come ahead of one that is ready is done; who is to come behind it is not. -/
theorem Mid.ordered {R : Run P nt ops cf} {ρ : Env} {listed : Array Bool} {a : Act} {w : World} (m : Mid R B0 w0 ρ listed a w) {i : Nat} (hi : i ∈ Region.ready .any ops listed) :
    (∀ j, Bf ops j i = true → listed.getD j false = true) ∧ (∀ k, k < ops.size → Bf ops i k = true → listed.getD k false = false) := by
  obtain ⟨h1, h2, o, ho, h3⟩ := mem_ready m.size hi
  refine ⟨?_, ?_⟩
  · intro j hj
    obtain ⟨e, he, hb, hc⟩ := bf_edge ho hj
    have hl := h3 e he hb
    rcases hc with rfl | hc
    · exact hl
    · exact m.closed e.on j (by have := R.edges i o ho e he hb; omega) hl hc
  · intro k hk hb
    cases hl : listed.getD k false with
    | false => rfl
    | true => have := m.closed k i hk hl hb; rw [h2] at this; cases this
/-- One more is done. -/
theorem Mid.step {R : Run P nt ops cf} (hg : Good P cf) {ρ : Env} {listed : Array Bool} {a : Act} {w : World} (m : Mid R B0 w0 ρ listed a w) {i : Nat} (hi : i ∈ Region.ready .any ops listed) :
    OpSteps P (R.F 0).dfr ops i a w (Mid R B0 w0 ρ (listed.setIfInBounds i true)) := by
  obtain ⟨hlt, hfree, o, ho, _⟩ := mem_ready m.size hi
  obtain ⟨hbf, hbk⟩ := m.ordered hi
  obtain ⟨fr, h, ρ', hF, hR, hd, hdfr, hh, ht, hE, hfresh⟩ := m.at_
  -- what it looks at, and what it turns, is as the run had it
  have cutH : ∀ id, (id ∈ R.r i ∨ (id ∈ R.w i ∨ (R.n i ≤ id ∧ id < R.n (i + 1)))) → ∀ k, k < ops.size → (id ∈ R.w k ∨ (R.n k ≤ id ∧ id < R.n (k + 1))) → (listed.getD k false = true ↔ k < i) := by
    intro id hid k hk hw
    rcases Nat.lt_trichotomy k i with hki | hki | hki
    · refine ⟨fun _ => hki, fun _ => ?_⟩
      cases hb : Bf ops k i with
      | true => exact hbf k hb
      | false =>
        exfalso
        obtain ⟨c1, c2⟩ := R.clash k i hki hlt hb
        rcases hid with hid | hid
        · exact (c1 id hw).1 hid
        · exact (c1 id hw).2 hid
    · subst hki
      rw [hfree]
      exact ⟨fun h => by (cases h), fun h => by omega⟩
    · refine ⟨fun hl => ?_, fun h => by omega⟩
      exfalso
      cases hb : Bf ops i k with
      | true => rw [hbk k hk hb] at hl; cases hl
      | false =>
        obtain ⟨c1, c2⟩ := R.clash i k hki hk hb
        rcases hid with hid | hid
        · exact c2 id hid hw
        · exact (c1 id hid).2 hw
  have eqH : ∀ id, (id ∈ R.r i ∨ (id ∈ R.w i ∨ (R.n i ≤ id ∧ id < R.n (i + 1)))) → h.get id = (R.H i).get id := by
    intro id hid
    obtain ⟨j, hj, c, e⟩ := hh id
    rw [e]
    exact R.h_cut (L := fun k => listed.getD k false = true) (by omega) hj (cutH id hid) c
  have cutT : ∀ x, (x ∈ o.looksAt ops ∨ o.dst = some x) → ∀ k ok, ops[k]? = some ok → ok.dst = some x → (listed.getD k false = true ↔ k < i) := by
    intro x hx k ok hok hkx
    have hk := Run.size_of hok
    rcases Nat.lt_trichotomy k i with hki | hki | hki
    · refine ⟨fun _ => hki, fun _ => ?_⟩
      cases hb : Bf ops k i with
      | true => exact hbf k hb
      | false =>
        exfalso
        obtain ⟨c1, c2, c3⟩ := Oper.apart_spec (R.apart k i ok o hki hok ho hb)
        rcases hx with hx | hx
        · exact c1 x hkx hx
        · exact c2 x hkx hx
    · subst hki
      rw [hfree]
      exact ⟨fun h => by (cases h), fun h => by omega⟩
    · refine ⟨fun hl => ?_, fun h => by omega⟩
      exfalso
      cases hb : Bf ops i k with
      | true => rw [hbk k hk hb] at hl; cases hl
      | false =>
        obtain ⟨c1, c2, c3⟩ := Oper.apart_spec (R.apart i k o ok hki ho hok hb)
        rcases hx with hx | hx
        · exact c3 x hkx hx
        · exact c2 x hx hkx
  have eqT : ∀ x, (x ∈ o.looksAt ops ∨ o.dst = some x) → fr.t x = (R.F i).t x := by
    intro x hx
    obtain ⟨j, hj, c, e⟩ := ht x
    rw [e]
    exact R.t_cut (L := fun k => listed.getD k false = true) (by omega) hj (cutT x hx) c
  obtain ⟨s2, hval, hn2, h5, h6⟩ := R.again i o ho ⟨h, R.n i, [], []⟩ rfl (fun id hid => eqH id (.inl hid)) (fun id x y => eqH id (.inr (.inr ⟨x, y⟩)))
  have hdi := R.d_eq (i := i) (by omega)
  have hval : valOp P ops o cf fr.t fr.dfr ⟨h, R.n i, [], []⟩ = .ok (R.v i) s2 := by
    rw [hdfr, ← hdi.2, valOp_congr fun d hd => eqT d (.inl hd)]
    exact hval
  have hstep : stepOp P nt ops o cf fr ⟨h, R.n i, [], []⟩ = .ok (fr.put nt o.dst (R.v i)) s2 := (stepOp_val (R.vals i o ho)).mpr ⟨_, hval, rfl⟩
  have hs := (stepOp_sound (s := ⟨h, R.n i, [], []⟩) hg ho hF hR hstep (by rw [hn2]; exact hfresh i hlt hfree)).2
  rw [hdfr] at hs
  refine hs.mono ?_
  rintro a' w' ⟨ρ2, hE2, hF2, hR2⟩
  rw [hn2] at hE2
  have hE2 : Ext ρ' ρ2 (R.n i) (R.n (i + 1)) := hE2
  have hsz : i < listed.size := by rw [m.size]; exact hlt
  refine ⟨by simp [m.size], ?_, fr.put nt o.dst (R.v i), s2.h, ρ2, hF2, hR2, by rw [put_d]; exact hd, by rw [put_dfr]; exact hdfr, ?_, ?_, ?_, ?_⟩
  · intro k j hk hl hb
    rw [getD_set hsz] at hl ⊢
    by_cases e : j = i
    · rw [if_pos e]
    · rw [if_neg e]
      by_cases e2 : k = i
      · subst e2; exact hbf j hb
      · rw [if_neg e2] at hl; exact m.closed k j hk hl hb
  · intro id
    by_cases hw : id ∈ R.w i ∨ (R.n i ≤ id ∧ id < R.n (i + 1))
    · refine ⟨i + 1, by omega, ?_, h5 id hw⟩
      intro k hk hkw
      rw [getD_set hsz]
      by_cases e : k = i
      · subst e; rw [if_pos rfl]; exact ⟨fun _ => by omega, fun _ => rfl⟩
      · rw [if_neg e, cutH id (.inr hw) k hk hkw]; omega
    · obtain ⟨j, hj, c, e⟩ := hh id
      refine ⟨j, hj, ?_, ?_⟩
      · intro k hk hkw
        rw [getD_set hsz, if_neg (fun e => by subst e; exact hw hkw)]
        exact c k hk hkw
      · simp only [not_or] at hw
        rw [h6 id hw.1 (by omega)]
        exact e
  · intro x
    by_cases hx : o.dst = some x
    · refine ⟨i + 1, by omega, ?_, ?_⟩
      · intro k ok hok hkx
        rw [getD_set hsz]
        by_cases e : k = i
        · subst e; rw [if_pos rfl]; exact ⟨fun _ => by omega, fun _ => rfl⟩
        · rw [if_neg e, cutT x (.inr hx) k ok hok hkx]; omega
      · rw [R.frame i o ho]
        exact put_same (eqT x (.inr hx))
    · obtain ⟨j, hj, c, e⟩ := ht x
      refine ⟨j, hj, ?_, ?_⟩
      · intro k ok hok hkx
        have hne : k ≠ i := fun e => by subst e; rw [ho] at hok; cases hok; exact hx hkx
        rw [getD_set hsz, if_neg hne]
        exact c k ok hok hkx
      · rw [put_other _ _ hx]; exact e
  · refine ⟨fun id x e => hE2.le id x (hE.le id x e), ?_⟩
    intro id e hr
    refine hE2.new id (hE.new id e hr) ?_
    have h1 := R.n_le (i := 0) (j := i) (by omega) (by omega)
    have h2 := R.n_le (i := i + 1) (j := ops.size) (by omega) (by omega)
    omega
  · intro k hk hl id x y
    rw [getD_set hsz] at hl
    by_cases e : k = i
    · rw [if_pos e] at hl; cases hl
    · rw [if_neg e] at hl
      refine hE2.new id (hfresh k hk hl id x y) ?_
      rcases Nat.lt_or_ge k i with h | h
      · have := R.n_le (i := k + 1) (j := i) (by omega) (by omega); omega
      · have := R.n_le (i := i + 1) (j := k) (by omega) (by omega); omega
/-- All are done. -/
theorem Mid.done {R : Run P nt ops cf} {ρ : Env} {listed : Array Bool} {a : Act} {w : World} (m : Mid R B0 w0 ρ listed a w) (hall : ∀ i, i < ops.size → listed.getD i false = true) :
    ∃ ρ', Ext ρ ρ' (R.n 0) (R.n ops.size) ∧ FRel ρ' nt (R.F ops.size) a ∧ Rel B0 w0 ρ' (R.H ops.size) w := by
  obtain ⟨fr, h, ρ', hF, hR, hd, hdfr, hh, ht, hE, _⟩ := m.at_
  have eh : ∀ id, h.get id = (R.H ops.size).get id := by
    intro id
    obtain ⟨j, hj, c, e⟩ := hh id
    rw [e]
    refine R.h_cut (L := fun k => listed.getD k false = true) (Nat.le_refl _) hj (fun k hk _ => ⟨fun _ => hk, fun _ => hall k hk⟩) c
  have et : fr = R.F ops.size := by
    have h1 : fr.t = (R.F ops.size).t := by
      funext x
      obtain ⟨j, hj, c, e⟩ := ht x
      rw [e]
      exact R.t_cut (L := fun k => listed.getD k false = true) (Nat.le_refl _) hj (fun k o ho _ => ⟨fun _ => Run.size_of ho, fun _ => hall k (Run.size_of ho)⟩) c
    have h2 := R.d_eq (i := ops.size) (Nat.le_refl _)
    rw [← hd, ← hdfr] at h2
    cases hf : fr with
    | mk t d b =>
      rw [hf] at h1 h2
      cases hf2 : R.F ops.size with
      | mk t2 d2 b2 =>
        rw [hf2] at h1 h2
        dsimp only at h1 h2
        rw [h1, h2.1, h2.2]
  refine ⟨ρ', hE, et ▸ hF, ⟨hR.bel, hR.base, ?_, ?_⟩⟩
  · intro id x e
    rw [← eh] at e
    exact hR.obj id x e
  · intro id id' x x' B κ κ' e h1 e' h2
    rw [← eh] at e e'
    exact hR.inj id id' x x' B κ κ' e h1 e' h2
theorem opsAny_of_mid {R : Run P nt ops cf} (hg : Good P cf) {ρ : Env} : ∀ (fuel : Nat) (listed : Array Bool) (a : Act) (w : World), listed.toList.count false ≤ fuel → Mid R B0 w0 ρ listed a w →
    OpsAny P (R.F 0).dfr ops (fun a w => ∃ ρ', Ext ρ ρ' (R.n 0) (R.n ops.size) ∧ FRel ρ' nt (R.F ops.size) a ∧ Rel B0 w0 ρ' (R.H ops.size) w) fuel listed a w
  | 0, listed, a, w, hc, m => by
    refine m.done fun i hi => ?_
    have hz : listed.toList.count false = 0 := by omega
    rw [List.count_eq_zero] at hz
    have hs := m.size
    cases hl : listed.getD i false with
    | true => rfl
    | false =>
      exfalso
      apply hz
      rw [Array.getD_eq_getD_getElem?, Array.getElem?_eq_getElem (by omega)] at hl
      simp only [Option.getD_some] at hl
      rw [← hl]
      simp
  | fuel + 1, listed, a, w, hc, m => by
    refine ⟨fun h => m.done (ready_nil (R := R) m.size h), ?_⟩
    intro i hi
    obtain ⟨hlt, hfree, _⟩ := mem_ready m.size hi
    refine (m.step hg hi).mono fun a' w' m' => opsAny_of_mid hg fuel _ a' w' ?_ m'
    have hs := m.size
    have hl : listed[i]'(by omega) = false := by
      rw [Array.getD_eq_getD_getElem?, Array.getElem?_eq_getElem (by omega)] at hfree
      exact hfree
    rw [Array.toList_setIfInBounds, List.count_set (by simp; omega)]
    have : listed.toList[i]'(by simp; omega) = false := by simpa using hl
    have hpos : 0 < listed.toList.count false := List.count_pos_iff.mpr (by rw [← this]; exact List.getElem_mem _)
    rw [this]
    show listed.toList.count false - 1 + 0 ≤ fuel
    omega
theorem drawOps_nrm {cf : CallF} : ∀ (l : List (Nat × Oper)) (recs : List Rec) (fr : Fr) (s : S) (x : X) (fr' : Fr) (s' : S), drawOps P nt ops l recs cf fr s = .ok (x, fr') s' → fr'.dfr = fr.dfr
  | [], _, fr, s, x, fr', s', h => by cases h; rfl
  | (i, o) :: l, recs, fr, s, x, fr', s', h => by
    have e : drawOps P nt ops ((i, o) :: l) recs cf fr s = (match scopeA (stepOp P nt ops o cf fr) s with | .ok (fr, x) s => cond (clashes (unord ops i).l recs x) (Rs.no ("clash " ++ toString i ++ " @ " ++ o.pos)) (drawOps P nt ops l (recs ++ [x]) cf fr s) | .no y => Rs.no y) := rfl
    rw [e] at h
    cases hs : scopeA (stepOp P nt ops o cf fr) s with
    | no y => rw [hs] at h; cases h
    | ok p s1 =>
      obtain ⟨fr1, y⟩ := p
      rw [hs] at h
      dsimp only at h
      cases hc : clashes (unord ops i).l recs y with
      | true => rw [hc] at h; cases h
      | false =>
        rw [hc] at h
        rw [drawOps_nrm l _ fr1 s1 x fr' s' h]
        unfold scopeA at hs
        split at hs
        · rename_i q s2 h2
          injection hs with h3 h4
          injection h3 with h5 h6
          subst h5
          exact stepOp_dfr h2
        · cases hs
/-- A region that draws. -/
theorem KOk.draw (hm : P.follows .mixedOrders = true) (id : Nat) (ops : Array Oper) : KOk P nt (.region id ops true) (regionK P nt ops true) := by
  show KOk P nt (.region id ops true) (cond (drawOk ops).b ⟨fun cf fr s => drawOps P nt ops (ops.toList.zipIdx.map fun (o, i) => (i, o)) [] cf fr s⟩ ⟨fun _ _ _ => .no "drawn"⟩)
  cases hd : (drawOk ops).b with
  | false => exact KOk.no _
  | true =>
    refine ⟨fun cf hf fr => drawOps_framed hf ops _ _ fr, ?_, fun cf fr s x fr' s' h => drawOps_nrm _ _ fr s x fr' s' h⟩
    intro cf hg fr s x fr' s' h B0 w0 ρ a w f hr hn b k cs hc
    obtain ⟨hx, R, e1, e2, e3, e4, e5, e6⟩ := drawOps_run hg.framed hd h
    subst hx
    have hmid : Mid R B0 w0 ρ (Array.replicate ops.size false) a { w with drawn := w.drawn + 1 } := by
      have hrep : ∀ i, (Array.replicate ops.size false).getD i false = false := by
        intro i
        rw [Array.getD_eq_getD_getElem?, Array.getElem?_replicate]
        split <;> rfl
      refine ⟨by simp, (fun i j _ h _ => by rw [hrep] at h; cases h), fr, s.h, ρ, f, hr.drew, by rw [e1], by rw [e1], ?_, ?_, Ext.refl _ _ _, ?_⟩
      · intro id
        refine ⟨0, by omega, fun k _ _ => ?_, by rw [e2]⟩
        rw [hrep]; exact ⟨fun h => by (cases h), fun h => by omega⟩
      · intro x
        refine ⟨0, by omega, fun k _ _ _ => ?_, by rw [e1]⟩
        rw [hrep]; exact ⟨fun h => by (cases h), fun h => by omega⟩
      · intro i hi _ id x y
        have h1 := R.n_le (i := 0) (j := i) (by omega) (by omega)
        have h2 := R.n_le (i := i + 1) (j := ops.size) (by omega) (by omega)
        exact hn id (by omega) (by omega)
    have hany := opsAny_of_mid hg ops.size _ a _ (by simp) hmid
    rw [e1] at hany
    have hto := opsAny_sound ops.size (w.tape w.drawn (.order b.fn id)) _ a _ hany
    obtain ⟨a', w', ⟨ρ', h1, h2, h3⟩, st⟩ := hto b k cs hc
    refine ⟨.normal, a', w', ⟨rfl, ρ', ?_, ?_, ?_⟩, .head step_region_draw ?_⟩
    · rw [← e3, ← e6]; exact h1
    · rw [← e4]; exact h2
    · rw [← e5]; exact h3
    · rw [hm]
      exact Steps.trans st (.one step_region_end)
end
end Go.Ev
