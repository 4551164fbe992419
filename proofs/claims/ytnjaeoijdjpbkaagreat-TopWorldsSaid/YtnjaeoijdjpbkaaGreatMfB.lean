/- The fast evaluator, facts: what the kernel ran holds of the machine. -/
import Derived.Test.YtnjaeoijdjpbkaaGreatMfA
set_option linter.all false
namespace Go.Ev
/-- The fast callee does what the plain one does. -/
def CallsOk (cfF : CallZ) (cf : CallF) : Prop := ∀ f a s κ, cfF f a s κ = true → ∃ v s', cf f a s = .ok v s' ∧ κ v s' = true
section
variable {P : Program} {d nt : Nat}
/-- An operation's value, its guard aside. -/
noncomputable def valB (P : Program) (o : Oper) (cf : CallF) (t : Nat → AV) (dfr : Bool) (s : S) : RV :=
  match evs t o.op.operands.toList with
  | none => .no ""
  | some a => (match wayOf o.op with
    | .val | .com => (opK P o.op).run cf a s
    | .rcv => cond dfr (.ok .nili s) (.no "")
    | .dfr => .no "")
def BareOk (P : Program) (nt : Nat) (o : Oper) (f : OF d) : Prop := ∀ (c : Cx) (cf : CallF), CallsOk c.cf cf → ∀ t s k, f.run c t s k = true →
  ∃ v s' t', valB P o cf (toF t) c.dfr s = .ok v s' ∧ (∀ ds b, (⟨toF t', ds, b⟩ : Fr) = Fr.put ⟨toF t, ds, b⟩ nt o.dst v) ∧ k t' s' = true
theorem noO_ok {o : Oper} : BareOk P nt o (noO d) := fun _ _ _ _ _ _ h => by cases h
theorem dst_true (hnt : nt ≤ 8 ^ d) {dst : Option Nat} {v : AV} {t : TF d} {k : TF d → Bool} (h : (dstP d nt dst).run v t k = true) : ∃ t', (∀ ds b, (⟨toF t', ds, b⟩ : Fr) = Fr.put ⟨toF t, ds, b⟩ nt dst v) ∧ k t' = true := by
  obtain ⟨t', h1, h2⟩ := dstP_run hnt dst v t
  rw [h1] at h
  exact ⟨t', h2, h⟩
theorem BareOk.fin (hnt : nt ≤ 8 ^ d) {o : Oper} {cf : CallF} {t : TF d} {s s' : S} {dfr : Bool} {v : AV} {k : TF d → S → Bool} (hv : valB P o cf (toF t) dfr s = .ok v s') (h : (dstP d nt o.dst).run v t (fun t => k t s') = true) :
    ∃ v s' t', valB P o cf (toF t) dfr s = .ok v s' ∧ (∀ ds b, (⟨toF t', ds, b⟩ : Fr) = Fr.put ⟨toF t, ds, b⟩ nt o.dst v) ∧ k t' s' = true := by
  obtain ⟨t', h2, h3⟩ := dst_true hnt h
  exact ⟨v, s', t', hv, h2, h3⟩
theorem valB_of {o : Oper} {cf : CallF} {t : Nat → AV} {dfr : Bool} {s : S} {a : List AV} (he : evs t o.op.operands.toList = some a) (hw : wayOf o.op = .val ∨ wayOf o.op = .com) : valB P o cf t dfr s = (opK P o.op).run cf a s := by
  unfold valB
  rw [he]
  rcases hw with hw | hw <;> rw [hw]
theorem slowO_ok (hnt : nt ≤ 8 ^ d) {o : Oper} (ha : o.op.operands.toList.all opndOk = true) (hs : stillOp o.op = true) (hw : wayOf o.op = .val ∨ wayOf o.op = .com) : BareOk P nt o (slowO P d nt o) := by
  intro c cf hc t s k h
  have h : Rs.rec (motive := fun _ => Bool) (fun _ => false) (fun v s => (dstP d nt o.dst).run v t fun t => k t s) ((opK P o.op).run dum ((opnds d o.op.operands.toList).run t) s) = true := h
  rw [opK_ign P hs dum cf] at h
  cases hr : (opK P o.op).run cf ((opnds d o.op.operands.toList).run t) s with
  | no w => rw [hr] at h; cases h
  | ok v s' =>
    rw [hr] at h
    exact BareOk.fin hnt ((valB_of (opnds_run ha t) hw).trans hr) h
theorem one_run {x : Operand} (h : opndOk x = true) (t : TF d) : evs (toF t) [x] = some [(opnd d x).run t] := opnds_run (l := [x]) (by simp [h]) t
theorem two_run {x y : Operand} (h : opndOk x = true) (h2 : opndOk y = true) (t : TF d) : evs (toF t) [x, y] = some [(opnd d x).run t, (opnd d y).run t] := opnds_run (l := [x, y]) (by simp [h, h2]) t
theorem three_run {x y z : Operand} (h : opndOk x = true) (h2 : opndOk y = true) (h3 : opndOk z = true) (t : TF d) : evs (toF t) [x, y, z] = some [(opnd d x).run t, (opnd d y).run t, (opnd d z).run t] := opnds_run (l := [x, y, z]) (by simp [h, h2, h3]) t
theorem all1 {x : Operand} (h : [x].all opndOk = true) : opndOk x = true := by simpa using h
theorem all2 {x y : Operand} (h : [x, y].all opndOk = true) : opndOk x = true ∧ opndOk y = true := by simpa using h
theorem all3 {x y z : Operand} (h : [x, y, z].all opndOk = true) : opndOk x = true ∧ opndOk y = true ∧ opndOk z = true := by simpa using h
variable (hnt : nt ≤ 8 ^ d)
include hnt
theorem moveO_ok {o : Oper} {x : Operand} (ho : o.op = .move x ∨ o.op = .assign x) (h1 : opndOk x = true) : BareOk P nt o (moveO d nt x o.dst) := by
  intro c cf hc t s k h
  have h : (dstP d nt o.dst).run ((opnd d x).run t) t (fun t => k t s) = true := h
  refine BareOk.fin hnt ?_ h
  rcases ho with ho | ho <;> (rw [valB_of (a := [(opnd d x).run t]) (by rw [ho]; exact one_run h1 t) (by rw [ho]; exact .inl rfl), ho]; rfl)
theorem pickO_ok {o : Oper} {x y z : Operand} (ho : o.op = .pick x y z) (ha : opndOk x = true ∧ opndOk y = true ∧ opndOk z = true) : BareOk P nt o (pickO d nt x y z o.dst) := by
  intro c cf hc t s k h
  have h : onB ((opnd d x).run t) ((dstP d nt o.dst).run ((opnd d y).run t) t fun t => k t s) ((dstP d nt o.dst).run ((opnd d z).run t) t fun t => k t s) = true := h
  obtain ⟨b, e, h⟩ := onB_true h
  have hv := valB_of (P := P) (o := o) (cf := cf) (dfr := c.dfr) (s := s) (by rw [ho]; exact three_run ha.1 ha.2.1 ha.2.2 t) (by rw [ho]; exact .inl rfl)
  rw [ho, e] at hv
  cases b with
  | true => exact BareOk.fin hnt hv h
  | false => exact BareOk.fin hnt hv h
theorem newO_ok {o : Oper} {e : TypeId} {z : AV} (ho : o.op = .alloc e) (hz : zeroT P e = some z) : BareOk P nt o (newO d nt z.cells o.dst) := by
  intro c cf hc t s k h
  have h : newF s (.row z.cells 0) (fun b s => (dstP d nt o.dst).run (.ptr b 0) t fun t => k t s) = true := h
  have h := newF_true h
  refine BareOk.fin hnt ?_ h
  rw [valB_of (a := []) (by rw [ho]; rfl) (by rw [ho]; exact .inl rfl), ho]
  have : opK P (.alloc e) = (match zeroT P e with | some z => ⟨fun _ _ s => s.new (.row z.cells 0) fun b s => .ok (.ptr b 0) s⟩ | none => failK "alloc") := rfl
  rw [this, hz]
  rfl
theorem boxO_ok {o : Oper} {e : TypeId} {x : Operand} (ho : o.op = .box e x) (h1 : opndOk x = true) : BareOk P nt o (boxO d nt x o.dst) := by
  intro c cf hc t s k h
  have h : newF s (.row ((opnd d x).run t).cells 0) (fun b s => (dstP d nt o.dst).run (.ptr b 0) t fun t => k t s) = true := h
  have h := newF_true h
  refine BareOk.fin hnt ?_ h
  rw [valB_of (by rw [ho]; exact one_run h1 t) (by rw [ho]; exact .inl rfl), ho]
  rfl
theorem binO_ok {o : Oper} {op : BinOp} {ty : TypeId} {x y : Operand} {p : TypeId} {i64 : Bool} (ho : o.op = .binOp op ty x y p) (ha : opndOk x = true ∧ opndOk y = true) : BareOk P nt o (binO d nt i64 op x y o.dst) := by
  intro c cf hc t s k h
  have h : (cond i64 (binF op) (binH op)).run ((opnd d x).run t) ((opnd d y).run t) (fun v => (dstP d nt o.dst).run v t fun t => k t s) = true := h
  have hb : BinTo op (cond i64 (binF op) (binH op)).run := by cases i64; exact binH_to op; exact binF_to op
  obtain ⟨v, e, h⟩ := hb _ _ _ h
  refine BareOk.fin hnt ?_ h
  rw [valB_of (by rw [ho]; exact two_run ha.1 ha.2 t) (by rw [ho]; exact .inl rfl), ho]
  show (binK P op ty x y).run cf _ s = _
  cases op <;> (unfold binK; dsimp only; rw [e]; try rfl)
theorem fieldO_ok {o : Oper} {ty : TypeId} {x : Operand} {f : Nat} {fs : Array Field} {q : Field} (ho : o.op = .fieldAddr ty x f) (h1 : opndOk x = true) (hu : P.underlying ty = some (.struct fs)) (hf : fs[f]? = some q)
    (hk : (tyOk P q.type && !(Nat.beq (sizeT P q.type) 0)) = true) : BareOk P nt o (fieldO d nt q.offset x o.dst) := by
  intro c cf hc t s k h
  have h : onPtr ((opnd d x).run t) (fun b o' => (dstP d nt o.dst).run (.ptr b (Nat.add o' q.offset)) t fun t => k t s) = true := h
  obtain ⟨b, o', e, h⟩ := onPtr_true h
  refine BareOk.fin hnt ?_ h
  rw [valB_of (by rw [ho]; exact one_run h1 t) (by rw [ho]; exact .inl rfl), ho, e]
  show (fieldAddrK P ty f).run cf _ s = _
  unfold fieldAddrK
  rw [hu]; dsimp only; rw [hf]; dsimp only; rw [hk]; rfl
theorem loadO_ok {o : Oper} {ty : TypeId} {x : Operand} (ho : o.op = .load ty x) (h1 : opndOk x = true) (hk : tyOk P ty = true) : BareOk P nt o (loadO d nt (isAggT P ty) (sizeT P ty) x o.dst) := by
  intro c cf hc t s k h
  have hv : valB P o cf (toF t) c.dfr s = (loadK P ty).run cf [(opnd d x).run t] s := by
    rw [valB_of (by rw [ho]; exact one_run h1 t) (by rw [ho]; exact .inl rfl), ho]; rfl
  unfold loadK at hv
  rw [hk] at hv
  dsimp only [cond] at hv
  cases hag : isAggT P ty with
  | true =>
    rw [hag] at h hv
    have h : onPtr ((opnd d x).run t) (fun b o' => loadG (sizeT P ty) b o' s fun v s => (dstP d nt o.dst).run v t fun t => k t s) = true := h
    obtain ⟨b, o', e, h⟩ := onPtr_true h
    obtain ⟨v, s', e2, h⟩ := loadG_true h
    rw [e] at hv
    exact BareOk.fin hnt (hv.trans e2) h
  | false =>
    rw [hag] at h hv
    have h : onPtr ((opnd d x).run t) (fun b o' => load1 b o' s fun v s => (dstP d nt o.dst).run v t fun t => k t s) = true := h
    obtain ⟨b, o', e, h⟩ := onPtr_true h
    obtain ⟨v, s', e2, h⟩ := load1_true h
    rw [e] at hv
    exact BareOk.fin hnt (hv.trans e2) h
theorem storeO_ok {o : Oper} {ty : TypeId} {x y : Operand} {ag : Bool} (ho : o.op = .store ty x y) (ha : opndOk x = true ∧ opndOk y = true) (hk : tyOk P ty = true) (hag : ag = (!(Nat.beq (sizeT P ty) 1) || isAggT P ty)) : BareOk P nt o (storeO d nt ag (sizeT P ty) x y o.dst) := by
  intro c cf hc t s k h
  have hv : valB P o cf (toF t) c.dfr s = (storeK P ty).run cf [(opnd d x).run t, (opnd d y).run t] s := by
    rw [valB_of (by rw [ho]; exact two_run ha.1 ha.2 t) (by rw [ho]; exact .inl rfl), ho]; rfl
  unfold storeK at hv
  rw [hk] at hv
  dsimp only [cond] at hv
  cases ag with
  | true =>
    have h : onPtr ((opnd d x).run t) (fun b o' => storeG (sizeT P ty) b o' ((opnd d y).run t) s fun s => (dstP d nt o.dst).run undefA t fun t => k t s) = true := h
    obtain ⟨b, o', e, h⟩ := onPtr_true h
    obtain ⟨hl, s', e2, h⟩ := storeG_true h
    rw [e] at hv
    dsimp only at hv
    rw [hl, Nat.beq_refl] at hv
    exact BareOk.fin hnt (hv.trans e2) h
  | false =>
    have h : onPtr ((opnd d x).run t) (fun b o' => store1 b o' ((opnd d y).run t) s fun s => (dstP d nt o.dst).run undefA t fun t => k t s) = true := h
    obtain ⟨b, o', e, h⟩ := onPtr_true h
    obtain ⟨hp, s', e2, h⟩ := store1_true h
    have h1 : Nat.beq (sizeT P ty) 1 = true := by
      cases hb : Nat.beq (sizeT P ty) 1 with
      | true => rfl
      | false => rw [hb] at hag; cases hag
    have hc1 : ((opnd d y).run t).cells = [(opnd d y).run t] := by
      revert hp
      cases (opnd d y).run t <;> intro hp <;> first | rfl | cases hp
    rw [e] at hv
    dsimp only at hv
    rw [hc1, Nat.eq_of_beq_eq_true h1] at hv
    exact BareOk.fin hnt (hv.trans e2) h
theorem nilO_ok {o : Oper} {x : Operand} (ho : o.op = .nilCheck x) (h1 : opndOk x = true) : BareOk P nt o (nilO P d nt o x) := by
  intro c cf hc t s k h
  have h : Bool.rec (motive := fun _ => Bool) ((slowO P d nt o).run c t s k) ((dstP d nt o.dst).run ((opnd d x).run t) t fun t => k t s) (isPtrA ((opnd d x).run t)) = true := h
  rcases brec h with ⟨e, h⟩ | ⟨_, h⟩
  · obtain ⟨b, o', e⟩ := isPtrA_true e
    refine BareOk.fin hnt ?_ h
    rw [valB_of (by rw [ho]; exact one_run h1 t) (by rw [ho]; exact .inl rfl), ho, e]
    rfl
  · exact slowO_ok hnt (by rw [ho]; simp [Op.operands, h1]) (by rw [ho]; rfl) (by rw [ho]; exact .inl rfl) c cf hc t s k h
theorem idxO_ok {o : Oper} {ty e : TypeId} {x y : Operand} (ho : o.op = .indexAddr ty x y) (ha : opndOk x = true ∧ opndOk y = true) (hu : P.underlying ty = some (.slice e)) (hk : tyOk P e = true) : BareOk P nt o (idxO d nt (sizeT P e) x y o.dst) := by
  intro c cf hc t s k h
  have h : onSlc ((opnd d x).run t) (fun b o' n => onInt ((opnd d y).run t) fun _ i => Int.rec (motive := fun _ => Bool) (fun i => Bool.rec (motive := fun _ => Bool) false ((dstP d nt o.dst).run (.ptr b (Nat.add o' (Nat.mul i (sizeT P e)))) t fun t => k t s) (Nat.ble (Nat.succ i) n)) (fun _ => false) i) = true := h
  obtain ⟨b, o', n, p, q, e1, h⟩ := onSlc_true h
  obtain ⟨kk, i, e2, h⟩ := onInt_true (x := (opnd d y).run t) h
  cases i with
  | negSucc => cases h
  | ofNat i =>
    obtain ⟨e3, h⟩ := brec_t h
    refine BareOk.fin hnt ?_ h
    rw [valB_of (by rw [ho]; exact two_run ha.1 ha.2 t) (by rw [ho]; exact .inl rfl), ho, e1, e2]
    show (indexAddrK P ty).run cf _ s = _
    unfold indexAddrK
    rw [hu]; dsimp only; rw [hk]
    show cond (Nat.blt i n) _ _ = _
    rw [show Nat.blt i n = true from e3]
    rfl
theorem lenO_ok {o : Oper} {c0 : Call} {ty e : TypeId} {x : Operand} (ho : o.op = .call c0) (hc0 : c0.callee = .builtin .len) (ht : c0.argTypes.toList = [ty]) (hx : c0.args.toList = [x]) (hu : P.underlying ty = some (.slice e)) (h1 : opndOk x = true) : BareOk P nt o (lenO d nt x o.dst) := by
  intro c cf hc t s k h
  have h : lenF ((opnd d x).run t) (fun n => (dstP d nt o.dst).run (.int .i64 (.ofNat n)) t fun t => k t s) = true := h
  obtain ⟨n, e1, h⟩ := lenF_true h
  refine BareOk.fin hnt ?_ h
  have hop : o.op.operands.toList = [x] := by rw [ho]; simpa [Op.operands, Call.operands, hc0] using hx
  have hw : wayOf o.op = .val := by rw [ho]; unfold wayOf; obtain ⟨a, b, c⟩ := c0; dsimp only at hc0; subst hc0; rfl
  rw [valB_of (by rw [hop]; exact one_run h1 t) (.inl hw), ho]
  show (callK P c0).run cf _ s = _
  unfold callK
  rw [hc0]
  show (lenK P c0.argTypes.toList).run cf _ s = _
  rw [ht]
  unfold lenK
  dsimp only
  rw [hu]
  dsimp only
  rw [e1]
  rfl
theorem extO_ok {o : Oper} {x : Operand} {i : Nat} (ho : o.op = .extract x i) (h1 : opndOk x = true) : BareOk P nt o (extO d nt i x o.dst) := by
  intro c cf hc t s k h
  have h : onTup ((opnd d x).run t) (fun l => List.rec (motive := fun _ => Bool) false (fun v _ _ => (dstP d nt o.dst).run v t fun t => k t s) (dropN i l)) = true := h
  obtain ⟨l, e1, h⟩ := onTup_true h
  have h : List.rec (motive := fun _ => Bool) false (fun v _ _ => (dstP d nt o.dst).run v t fun t => k t s) (dropN i l) = true := h
  rw [dropN_eq] at h
  cases hl : l.drop i with
  | nil => rw [hl] at h; cases h
  | cons v m =>
    rw [hl] at h
    refine BareOk.fin hnt ?_ h
    rw [valB_of (by rw [ho]; exact one_run h1 t) (by rw [ho]; exact .inl rfl), ho, e1]
    show (match l.drop i with | v :: _ => Rs.ok v s | [] => Rs.no "extract") = _
    rw [hl]
theorem convO_ok {o : Oper} {x : Operand} {a b : TypeId} {q0 q : IntKind} {slow : OF d} (ho : o.op = .convert a b x) (h1 : opndOk x = true) (ha : P.underlying a = some (.int q0)) (hb : P.underlying b = some (.int q)) (hs : BareOk P nt o slow) : BareOk P nt o (convO d nt q x slow o.dst) := by
  intro c cf hc t s k h
  have h : onInt ((opnd d x).run t) (fun _ a => Int.rec (motive := fun _ => Bool) (fun a => Bool.rec (motive := fun _ => Bool) (slow.run c t s k) ((dstP d nt o.dst).run (.int q (.ofNat a)) t fun t => k t s) (Nat.ble (Nat.succ a) (kLim q))) (fun _ => slow.run c t s k) a) = true := h
  obtain ⟨kk, n, e1, h⟩ := onInt_true h
  cases n with
  | negSucc => exact hs c cf hc t s k h
  | ofNat n =>
    rcases brec h with ⟨e2, h⟩ | ⟨_, h⟩
    · refine BareOk.fin hnt ?_ h
      rw [valB_of (by rw [ho]; exact one_run h1 t) (by rw [ho]; exact .inl rfl), ho, e1]
      show (convertK P a b).run cf _ s = _
      unfold convertK
      rw [ha, hb]
      show Rs.ok (AV.int q (wrapA q (n : Int))) s = _
      unfold wrapA
      rw [wrap_id q n (succ_le e2)]
      rfl
    · exact hs c cf hc t s k h
theorem notO_ok {o : Oper} {x : Operand} {ty : TypeId} (ho : o.op = .unOp .not ty x) (h1 : opndOk x = true) : BareOk P nt o (notO d nt x o.dst) := by
  intro c cf hc t s k h
  have h : onB ((opnd d x).run t) ((dstP d nt o.dst).run (.bool false) t fun t => k t s) ((dstP d nt o.dst).run (.bool true) t fun t => k t s) = true := h
  obtain ⟨b, e, h⟩ := onB_true h
  have hv := valB_of (P := P) (o := o) (cf := cf) (dfr := c.dfr) (s := s) (by rw [ho]; exact one_run h1 t) (by rw [ho]; exact .inl rfl)
  rw [ho, e] at hv
  cases b with
  | true => exact BareOk.fin hnt hv h
  | false => exact BareOk.fin hnt hv h
theorem callO_ok {o : Oper} {c0 : Call} {f : FuncId} (ho : o.op = .call c0) (hc0 : c0.callee = .value (.func f)) (ha : c0.args.toList.all opndOk = true) : BareOk P nt o (callO d nt f c0.args.toList o.dst) := by
  intro c cf hc t s k h
  obtain ⟨cF, cd, b⟩ := c
  have h : cF f ((opnds d c0.args.toList).run t) s (fun v s => (dstP d nt o.dst).run v t fun t => k t s) = true := h
  obtain ⟨v, s', e1, h⟩ := hc _ _ _ _ h
  have hop : o.op.operands.toList = .func f :: c0.args.toList := by rw [ho]; simp [Op.operands, Call.operands, hc0]
  have hw : wayOf o.op = .val := by rw [ho]; unfold wayOf; obtain ⟨a, b, c⟩ := c0; dsimp only at hc0; subst hc0; rfl
  refine BareOk.fin hnt ?_ h
  rw [valB_of (by rw [hop]; exact opnds_run (by simp [opndOk, ha]) t) (.inl hw), ho]
  show (callK P c0).run cf _ s = _
  unfold callK
  rw [hc0]
  exact e1
omit hnt in
theorem callM_true {cF : CallZ} {cf : CallF} (hc : CallsOk cF cf) {recv : AV} {name : String} {args : List AV} {s : S} {κ : AV → S → Bool} (h : callM P cF recv name args s κ = true) : ∃ v s', callMethodA P cf recv name args s = .ok v s' ∧ κ v s' = true := by
  unfold callM at h
  unfold callMethodA
  split at h
  · rename_i ty v
    dsimp only
    split at h
    · rename_i f hf; rw [hf]; exact hc _ _ _ _ h
    · cases h
  · cases h
omit hnt in
theorem callV_true {cF : CallZ} {cf : CallF} (hc : CallsOk cF cf) {f : AV} {args : List AV} {s : S} {κ : AV → S → Bool} (h : callV P cF f args s κ = true) : ∃ v s', callVal P cf f args s = .ok v s' ∧ κ v s' = true := by
  unfold callV at h
  unfold callVal
  split at h
  · exact hc _ _ _ _ h
  · dsimp only
    split at h
    · rename_i e; rw [e]; exact callM_true hc h
    · cases h
  · cases h
omit hnt in
theorem value_ops {o : Oper} {c0 : Call} {x : Operand} (ho : o.op = .call c0) (hc0 : c0.callee = .value x) : o.op.operands.toList = x :: c0.args.toList ∧ wayOf o.op = .val := by
  refine ⟨by rw [ho]; simp [Op.operands, Call.operands, hc0], ?_⟩
  rw [ho]; unfold wayOf; obtain ⟨a, b, c⟩ := c0; dsimp only at hc0; subst hc0; rfl
theorem callVO_ok {o : Oper} {c0 : Call} {x : Operand} (ho : o.op = .call c0) (hc0 : c0.callee = .value x) (hx : ∀ f, x ≠ .func f) (h1 : opndOk x = true) (ha : c0.args.toList.all opndOk = true) : BareOk P nt o (callVO P d nt x c0.args.toList o.dst) := by
  intro c cf hc t s k h
  obtain ⟨cF, cd, b⟩ := c
  have h : callV P cF ((opnd d x).run t) ((opnds d c0.args.toList).run t) s (fun v s => (dstP d nt o.dst).run v t fun t => k t s) = true := h
  obtain ⟨v, s', e1, h⟩ := callV_true hc h
  obtain ⟨hop, hw⟩ := value_ops ho hc0
  refine BareOk.fin hnt ?_ h
  rw [valB_of (by rw [hop]; exact opnds_run (by simp [h1, ha]) t) (.inl hw), ho]
  show (callK P c0).run cf _ s = _
  unfold callK
  rw [hc0]
  cases x with
  | func f => exact absurd rfl (hx f)
  | _ => exact e1
theorem callIO_ok {o : Oper} {c0 : Call} {x : Operand} {name : String} (ho : o.op = .call c0) (hc0 : c0.callee = .invoke x name) (h1 : opndOk x = true) (ha : c0.args.toList.all opndOk = true) : BareOk P nt o (callIO P d nt x name c0.args.toList o.dst) := by
  intro c cf hc t s k h
  obtain ⟨cF, cd, b⟩ := c
  have h : callM P cF ((opnd d x).run t) name ((opnds d c0.args.toList).run t) s (fun v s => (dstP d nt o.dst).run v t fun t => k t s) = true := h
  obtain ⟨v, s', e1, h⟩ := callM_true hc h
  have hop : o.op.operands.toList = x :: c0.args.toList := by rw [ho]; simp [Op.operands, Call.operands, hc0]
  have hw : wayOf o.op = .val := by rw [ho]; unfold wayOf; obtain ⟨a, b, c⟩ := c0; dsimp only at hc0; subst hc0; rfl
  refine BareOk.fin hnt ?_ h
  rw [valB_of (by rw [hop]; exact opnds_run (by simp [h1, ha]) t) (.inl hw), ho]
  show (callK P c0).run cf _ s = _
  unfold callK
  rw [hc0]
  exact e1
theorem rcvO_ok {o : Oper} {c0 : Call} (ho : o.op = .call c0) (hc0 : c0.callee = .builtin .recover) (ha : c0.args.toList.all opndOk = true) : BareOk P nt o (rcvO d nt o.dst) := by
  intro c cf hc t s k h
  obtain ⟨cF, cd, b⟩ := c
  have h : Bool.rec (motive := fun _ => Bool) false ((dstP d nt o.dst).run .nili t fun t => k t s) b = true := h
  obtain ⟨e, h⟩ := brec_t h
  have hop : o.op.operands.toList = c0.args.toList := by rw [ho]; simp [Op.operands, Call.operands, hc0]
  have hw : wayOf o.op = .rcv := by rw [ho]; unfold wayOf; obtain ⟨a, b, c⟩ := c0; dsimp only at hc0; subst hc0; rfl
  refine BareOk.fin hnt ?_ h
  unfold valB
  rw [hop, opnds_run (d := d) ha t, hw]
  show cond b _ _ = _
  rw [e]; rfl
theorem slowO_any {o : Oper} (ha : o.op.operands.toList.all opndOk = true) (hs : stillOp o.op = true) : BareOk P nt o (slowO P d nt o) := by
  cases hw : wayOf o.op with
  | val => exact slowO_ok hnt ha hs (.inl hw)
  | com => exact slowO_ok hnt ha hs (.inr hw)
  | dfr =>
    intro c cf hc t s k h
    have h : Rs.rec (motive := fun _ => Bool) (fun _ => false) (fun v s => (dstP d nt o.dst).run v t fun t => k t s) ((opK P o.op).run dum ((opnds d o.op.operands.toList).run t) s) = true := h
    unfold wayOf at hw
    split at hw
    · rename_i q hq; rw [hq] at h; cases h
    all_goals cases hw
  | rcv =>
    intro c cf hc t s k h
    have h : Rs.rec (motive := fun _ => Bool) (fun _ => false) (fun v s => (dstP d nt o.dst).run v t fun t => k t s) ((opK P o.op).run dum ((opnds d o.op.operands.toList).run t) s) = true := h
    unfold wayOf at hw
    split at hw
    · cases hw
    · rename_i q hq; rw [hq] at h; cases h
    all_goals cases hw
theorem bareO_ok {o : Oper} (ha : o.op.operands.toList.all opndOk = true) : BareOk P nt o (bareO P d nt o) := by
  unfold bareO
  split
  · rename_i x ho; rw [ho] at ha; exact moveO_ok hnt (.inl ho) (all1 ha)
  · rename_i x ho; rw [ho] at ha; exact moveO_ok hnt (.inr ho) (all1 ha)
  · rename_i x y z ho; rw [ho] at ha; exact pickO_ok hnt ho (all3 ha)
  · rename_i e ho
    split
    · rename_i z hz; exact newO_ok hnt ho hz
    · exact noO_ok
  · rename_i e x ho; rw [ho] at ha; exact boxO_ok hnt ho (all1 ha)
  · rename_i op ty x y p ho
    cases isAnyIntT P ty with
    | true => rw [ho] at ha; exact binO_ok hnt ho (all2 ha)
    | false => exact slowO_any hnt ha (by rw [ho]; rfl)
  · rename_i ty x f ho
    rw [ho] at ha
    split
    · rename_i fs hu
      split
      · rename_i q hq
        cases hk : (tyOk P q.type && !(Nat.beq (sizeT P q.type) 0)) with
        | true => exact fieldO_ok hnt ho (all1 ha) hu hq hk
        | false => exact noO_ok
      · exact noO_ok
    · exact noO_ok
  · rename_i ty x ho
    rw [ho] at ha
    cases hk : tyOk P ty with
    | true => exact loadO_ok hnt ho (all1 ha) hk
    | false => exact noO_ok
  · rename_i ty x y ho
    rw [ho] at ha
    cases hk : tyOk P ty with
    | true => exact storeO_ok hnt ho (all2 ha) hk rfl
    | false => exact noO_ok
  · rename_i x ho; rw [ho] at ha; exact nilO_ok hnt ho (all1 ha)
  · rename_i a b x ho
    split
    · rename_i q0 q h1 h2
      have ha' := ha
      rw [ho] at ha'
      exact convO_ok hnt ho (all1 ha') h1 h2 (slowO_any hnt ha (by rw [ho]; rfl))
    · exact slowO_any hnt ha (by rw [ho]; rfl)
  · rename_i ty x ho; rw [ho] at ha; exact notO_ok hnt ho (all1 ha)
  · rename_i ty x y ho
    split
    · rename_i e hu
      rw [ho] at ha
      cases hk : tyOk P e with
      | true => exact idxO_ok hnt ho (all2 ha) hu hk
      | false => exact noO_ok
    · exact slowO_any hnt ha (by rw [ho]; rfl)
  · rename_i x i ho; rw [ho] at ha; exact extO_ok hnt ho (all1 ha)
  · rename_i c ho
    split
    · rename_i f hc
      rw [ho] at ha
      simp only [Op.operands, Call.operands, hc, Array.toList_append, List.all_append, Bool.and_eq_true] at ha
      exact callO_ok hnt ho hc ha.2
    · rename_i x hx hc
      rw [ho] at ha
      simp only [Op.operands, Call.operands, hc, Array.toList_append, List.all_append, Bool.and_eq_true] at ha
      exact callVO_ok hnt ho hc hx (all1 ha.1) ha.2
    · rename_i x name hc
      rw [ho] at ha
      simp only [Op.operands, Call.operands, hc, Array.toList_append, List.all_append, Bool.and_eq_true] at ha
      exact callIO_ok hnt ho hc (all1 ha.1) ha.2
    · rename_i hc
      rw [ho] at ha
      simp only [Op.operands, Call.operands, hc, Array.toList_append, List.all_append, Bool.and_eq_true] at ha
      exact rcvO_ok hnt ho hc ha.2
    · rename_i hc
      split
      · rename_i ty x h1 h2
        split
        · rename_i e hu
          rw [ho] at ha
          simp only [Op.operands, Call.operands, hc, Array.toList_append, List.all_append, Bool.and_eq_true, h2] at ha
          exact lenO_ok hnt ho hc h1 h2 hu (all1 ha.2)
        · exact slowO_any hnt ha (by rw [ho]; unfold stillOp; simp [hc])
      · exact slowO_any hnt ha (by rw [ho]; unfold stillOp; simp [hc])
    · rename_i b _ _ hc
      exact slowO_any hnt ha (by rw [ho]; unfold stillOp; simp [hc])
  · refine slowO_any hnt ha ?_
    unfold stillOp
    split
    · rename_i c hc; exact absurd hc (by intro h; simp_all)
    · rfl
end
end Go.Ev
namespace Go.Ev
section
variable {P : Program} {d nt : Nat}
/-- One operation of a region. -/
def StepOk (P : Program) (nt : Nat) (ops : Array Oper) (o : Oper) (f : OF d) : Prop := ∀ (c : Cx) (cf : CallF), CallsOk c.cf cf → ∀ t s k, f.run c t s k = true →
  ∃ t' s', (∀ ds, stepOp P nt ops o cf ⟨toF t, ds, c.dfr⟩ s = .ok ⟨toF t', ds, c.dfr⟩ s') ∧ k t' s' = true
theorem valB_step {ops : Array Oper} {o : Oper} {cf : CallF} {t : Nat → AV} {ds : List DefA} {dfr : Bool} {s s' : S} {v : AV} (hv : valB P o cf t dfr s = .ok v s') (hw : wantedA ops o t = true) :
    stepOp P nt ops o cf ⟨t, ds, dfr⟩ s = .ok (Fr.put ⟨t, ds, dfr⟩ nt o.dst v) s' := by
  unfold valB at hv
  unfold stepOp
  dsimp only [prepK]
  rw [hw]
  dsimp only [cond]
  cases he : evs t o.op.operands.toList with
  | none => rw [he] at hv; cases hv
  | some a =>
    rw [he] at hv
    dsimp only at hv ⊢
    cases hway : wayOf o.op with
    | val => rw [hway] at hv; dsimp only at hv ⊢; rw [hv]
    | com => rw [hway] at hv; dsimp only at hv ⊢; rw [hv]
    | rcv =>
      rw [hway] at hv
      dsimp only at hv ⊢
      cases dfr with
      | false => cases hv
      | true => cases hv; rfl
    | dfr => rw [hway] at hv; cases hv
theorem opF_ok (hnt : nt ≤ 8 ^ d) (ops : Array Oper) (o : Oper) : StepOk P nt ops o (opF P d nt ops o) := by
  intro c cf hc t s k h
  unfold opF at h
  cases ha : o.op.operands.toList.all opndOk with
  | false => rw [ha] at h; cases h
  | true =>
    rw [ha] at h
    dsimp only [cond] at h
    have hb := bareO_ok (P := P) hnt ha
    have good : ∀ (t : TF d) (s : S) (k : TF d → S → Bool), (bareO P d nt o).run c t s k = true → wantedA ops o (toF t) = true → ∃ t' s', (∀ ds, stepOp P nt ops o cf ⟨toF t, ds, c.dfr⟩ s = .ok ⟨toF t', ds, c.dfr⟩ s') ∧ k t' s' = true := by
      intro t s k h hw
      obtain ⟨v, s', t', h1, h2, h3⟩ := hb c cf hc t s k h
      exact ⟨t', s', fun ds => by rw [valB_step h1 hw, h2], h3⟩
    have skip : ∀ (t : TF d) (s : S) (k : TF d → S → Bool), (dstP d nt o.dst).run undefA t (fun t => k t s) = true → wantedA ops o (toF t) = false → ∃ t' s', (∀ ds, stepOp P nt ops o cf ⟨toF t, ds, c.dfr⟩ s = .ok ⟨toF t', ds, c.dfr⟩ s') ∧ k t' s' = true := by
      intro t s k h hw
      obtain ⟨t', h2, h3⟩ := dst_true hnt h
      refine ⟨t', s, fun ds => ?_, h3⟩
      unfold stepOp
      rw [hw, h2]
      rfl
    unfold guardO at h
    cases hg : o.guard with
    | none =>
      rw [hg] at h
      refine good t s k h ?_
      unfold wantedA; rw [hg]
    | some jw =>
      obtain ⟨j, want⟩ := jw
      rw [hg] at h
      dsimp only at h
      cases hd : (ops[j]?).bind (·.dst) with
      | none => rw [hd] at h; cases h
      | some i =>
        rw [hd] at h
        have hwt : wantedA ops o (toF t) = (match toF t i with | .bool b => b == want | _ => false) := by
          unfold wantedA
          rw [hg]; dsimp only; rw [hd]
          rfl
        have hi : toF t i = (opnd d (.tmp i)).run t := by
          have := opnd_run (d := d) (o := .tmp i) rfl t
          exact Option.some.inj this
        rw [hi] at hwt
        cases want with
        | true =>
          have h : onB ((opnd d (.tmp i)).run t) ((bareO P d nt o).run c t s k) ((dstP d nt o.dst).run undefA t fun t => k t s) = true := h
          obtain ⟨b, e, h⟩ := onB_true h
          rw [e] at hwt
          cases b with
          | true => exact good t s k h hwt
          | false => exact skip t s k h hwt
        | false =>
          have h : onB ((opnd d (.tmp i)).run t) ((dstP d nt o.dst).run undefA t fun t => k t s) ((bareO P d nt o).run c t s k) = true := h
          obtain ⟨b, e, h⟩ := onB_true h
          rw [e] at hwt
          cases b with
          | true => exact skip t s k h hwt
          | false => exact good t s k h hwt
theorem dfrF_ok (hnt : nt ≤ 8 ^ d) {ops : Array Oper} {o : Oper} {c0 : Call} (ho : o.op = .defer c0) (c : Cx) (cf : CallF) (t : TF d) (ds : List DefA) (s : S) (k : X → TF d → List DefA → S → Bool) (h : (dfrF d nt o c0).run c t ds s k = true) :
    ∃ t' ds', stepOp P nt ops o cf ⟨toF t, ds, c.dfr⟩ s = .ok ⟨toF t', ds', c.dfr⟩ s ∧ k .nrm t' ds' s = true := by
  unfold dfrF at h
  split at h
  · rename_i x hx hg
    cases ha : (opndOk x && c0.args.toList.all opndOk) with
    | false => rw [ha] at h; cases h
    | true =>
      rw [ha] at h
      simp only [Bool.and_eq_true] at ha
      have h : onFn ((opnd d x).run t) (fun q fst cap => (dstP d nt o.dst).run undefA t fun t' => k .nrm t' (⟨q, cap, fst ++ (opnds d c0.args.toList).run t⟩ :: ds) s) = true := h
      obtain ⟨q, fst, cap, e, h⟩ := onFn_true h
      obtain ⟨t', h2, h3⟩ := dst_true hnt h
      refine ⟨t', _, ?_, h3⟩
      have hop : o.op.operands.toList = x :: c0.args.toList := by rw [ho]; simp [Op.operands, Call.operands, hx]
      have hev : evs (toF t) o.op.operands.toList = some ((opnd d x).run t :: (opnds d c0.args.toList).run t) := by
        rw [hop]; exact opnds_run (l := x :: c0.args.toList) (by simp only [List.all_cons, Bool.and_eq_true]; exact ha) t
      unfold stepOp
      have hw : wantedA ops o (toF t) = true := by unfold wantedA; rw [hg]
      dsimp only [prepK]
      rw [hw]
      dsimp only [cond]
      rw [hev, e]
      have hway : wayOf o.op = .dfr := by rw [ho]; rfl
      rw [hway]
      have hof : ofValueK o.op = true := by rw [ho]; unfold ofValueK; simp [hx]
      dsimp only
      rw [hof]
      dsimp only
      rw [h2]
  · cases h
/-- A piece of code. -/
def KfOk (f : KF d) (g : K) : Prop := ∀ (c : Cx) (cf : CallF), CallsOk c.cf cf → ∀ t ds s k, f.run c t ds s k = true → ∃ x t' ds' s', g.run cf ⟨toF t, ds, c.dfr⟩ s = .ok (x, ⟨toF t', ds', c.dfr⟩) s' ∧ k x t' ds' s' = true
/-- A piece of code, and what comes behind it. -/
def NxOk (f nx : KF d) (g : K) : Prop := ∀ (c : Cx) (cf : CallF), CallsOk c.cf cf → ∀ t ds s k, f.run c t ds s k = true →
  ∃ x t' ds' s', g.run cf ⟨toF t, ds, c.dfr⟩ s = .ok (x, ⟨toF t', ds', c.dfr⟩) s' ∧ (match x with | .nrm => nx.run c t' ds' s' k = true | x => k x t' ds' s' = true)
theorem regF_ok (hnt : nt ≤ 8 ^ d) (ops : Array Oper) (nx : KF d) : ∀ l : List Oper, NxOk (regF P d nt ops nx l) nx ⟨fun cf fr s => seqOps P nt ops l cf fr s⟩
  | [] => fun c cf hc t ds s k h => ⟨.nrm, t, ds, s, rfl, h⟩
  | o :: l => by
    intro c cf hc t ds s k h
    have ih := regF_ok hnt ops nx l
    have go : ∀ t' ds' s', stepOp P nt ops o cf ⟨toF t, ds, c.dfr⟩ s = .ok ⟨toF t', ds', c.dfr⟩ s' → (regF P d nt ops nx l).run c t' ds' s' k = true →
        ∃ x t' ds' s', seqOps P nt ops (o :: l) cf ⟨toF t, ds, c.dfr⟩ s = .ok (x, ⟨toF t', ds', c.dfr⟩) s' ∧ (match x with | .nrm => nx.run c t' ds' s' k = true | x => k x t' ds' s' = true) := by
      intro t' ds' s' h1 h2
      obtain ⟨x, t2, ds2, s2, h3, h4⟩ := ih c cf hc t' ds' s' k h2
      refine ⟨x, t2, ds2, s2, ?_, h4⟩
      show (match stepOp P nt ops o cf ⟨toF t, ds, c.dfr⟩ s with | .ok fr s => seqOps P nt ops l cf fr s | .no y => .no y) = _
      rw [h1]
      exact h3
    unfold regF at h
    split at h
    · rename_i c0 ho
      have h : (dfrF d nt o c0).run c t ds s (fun _ t ds s => (regF P d nt ops nx l).run c t ds s k) = true := h
      obtain ⟨t', ds', h1, h2⟩ := dfrF_ok (P := P) (ops := ops) hnt ho c cf t ds s _ h
      exact go t' ds' s h1 h2
    · have h : (opF P d nt ops o).run c t s (fun t s => (regF P d nt ops nx l).run c t ds s k) = true := h
      obtain ⟨t', s', h1, h2⟩ := opF_ok hnt ops o c cf hc t s _ h
      exact go t' ds s' (h1 ds) h2
end
end Go.Ev
namespace Go.Ev
/-- It leaves memory, and the logs, as they are. -/
def Still (k : OK) : Prop := ∀ cf a s v s', k.run cf a s = .ok v s' → s' = s
theorem ret_s {α : Type} {o : Option α} {s s' : S} {w : String} {v : α} (h : ret o s w = .ok v s') : s' = s := by
  unfold ret at h
  split at h
  · cases h; rfl
  · cases h
theorem Still.fail (w : String) : Still (failK w) := fun _ _ _ _ _ h => by cases h
theorem Still.cond {b : Bool} {x y : OK} (hx : Still x) (hy : Still y) : Still (cond b x y) := by cases b; exact hy; exact hx
section
variable (P : Program)
theorem binK_still (op : BinOp) (t : Nat) (x y : Operand) : Still (binK P op t x y) := by
  unfold binK
  dsimp only
  split <;> (intro cf a s v s' h; dsimp only at h; (repeat' split at h) <;> first | exact ret_s h | (cases h; rfl) | cases h)
theorem fieldAddrK_still (t f : Nat) : Still (fieldAddrK P t f) := by
  unfold fieldAddrK
  split
  · split
    · refine .cond ?_ (.fail _)
      intro cf a s v s' h; dsimp only at h; (repeat' split at h) <;> first | exact ret_s h | (cases h; rfl) | cases h
    · exact .fail _
  · exact .fail _
theorem fieldK_still (t f : Nat) : Still (fieldK P t f) := by
  unfold fieldK
  split
  · split
    · refine .cond ?_ (.fail _)
      intro cf a s v s' h; dsimp only at h; (repeat' split at h) <;> first | exact ret_s h | (cases h; rfl) | cases h
    · exact .fail _
  · exact .fail _
theorem cond_ok {α : Type} {b : Bool} {x y : Rs α} {r : Rs α} (h : cond b x y = r) : x = r ∨ y = r := by cases b; exact .inr h; exact .inl h
theorem indexAddrK_still (t : Nat) : Still (indexAddrK P t) := by
  unfold indexAddrK
  split
  · refine .cond (.fail _) ?_
    intro cf a s v s' h; dsimp only at h
    split at h
    · rcases cond_ok h with h | h <;> cases h; rfl
    · cases h
  · refine .cond (.fail _) ?_
    intro cf a s v s' h; dsimp only at h
    split at h
    · rcases cond_ok h with h | h <;> cases h; rfl
    · cases h
  · exact .fail _
theorem indexK_still (t : Nat) : Still (indexK P t) := by
  unfold indexK
  split
  · intro cf a s v s' h; dsimp only at h; (repeat' split at h) <;> first | (cases h; rfl) | cases h
  · refine .cond (.fail _) ?_
    intro cf a s v s' h; dsimp only at h
    split at h
    · rcases cond_ok h with h | h
      · exact ret_s h
      · cases h
    · cases h
  · exact .fail _
theorem sliceK_still (t : Nat) (l h m : Bool) : Still (sliceK P t l h m) := by
  unfold sliceK
  split
  · refine .cond (.fail _) ?_
    intro cf a s v s' h; dsimp only at h; (repeat' split at h) <;> first | exact ret_s h | (cases h; rfl) | cases h
  · intro cf a s v s' h; dsimp only at h; (repeat' split at h) <;> first | exact ret_s h | (cases h; rfl) | cases h
  · refine .cond (.fail _) ?_
    intro cf a s v s' h; dsimp only at h; (repeat' split at h) <;> first | exact ret_s h | (cases h; rfl) | cases h
  · exact .fail _
theorem buildK_still (t : Nat) (ps : List Nat) : Still (buildK P t ps) := by
  unfold buildK
  split
  · refine .cond ?_ (.fail _)
    intro cf a s v s' h; exact ret_s h
  · refine .cond ?_ (.fail _)
    intro cf a s v s' h; exact ret_s h
  · exact .fail _
theorem typeAssertK_still (t : Nat) (ok : Bool) : Still (typeAssertK P t ok) := by
  have hn : ∀ (z : AV) (s s' : S) (v : AV), notA ok z s = .ok v s' → s' = s := by
    intro z s s' v h
    unfold notA at h
    rcases cond_ok h with h | h <;> cases h
    rfl
  unfold typeAssertK
  split
  · split
    · intro cf a s v s' h; dsimp only at h; (repeat' split at h) <;> first | exact hn _ _ _ _ h | (cases h; rfl) | cases h
    · intro cf a s v s' h; dsimp only at h
      split at h
      · rcases cond_ok h with h | h
        · cases h; rfl
        · exact hn _ _ _ _ h
      · exact hn _ _ _ _ h
      · cases h
    · exact .fail _
  · exact .fail _
theorem capK_still (l : List Nat) : Still (capK P l) := by
  unfold capK
  split
  · split
    · intro cf a s v s' h; dsimp only at h; (repeat' split at h) <;> first | (cases h; rfl) | cases h
    · exact .fail _
  · exact .fail _
theorem mmK_still (m : Bool) : Still (mmK m) := by
  intro cf a s v s' h
  unfold mmK at h
  dsimp only at h
  (repeat' split at h) <;> first | exact ret_s h | cases h
theorem lenK_still {ty : Nat} (h : (match P.underlying ty with | some (.slice _) | some .string | some (.array _ _) => true | _ => false) = true) : Still (lenK P [ty]) := by
  unfold lenK
  dsimp only
  split
  · intro cf a s v s' h; dsimp only at h; (repeat' split at h) <;> first | (cases h; rfl) | cases h
  · rename_i hu; rw [hu] at h; cases h
  · intro cf a s v s' h; dsimp only at h; (repeat' split at h) <;> first | (cases h; rfl) | cases h
  · intro cf a s v s' h; dsimp only at h; (repeat' split at h) <;> first | (cases h; rfl) | cases h
  · rename_i hu; rw [hu] at h; cases h
  · exact .fail _
theorem opK_still {o : Oper} (h : pureO P o = true) (hw : wayOf o.op = .val ∨ wayOf o.op = .com) : Still (opK P o.op) := by
  unfold pureO at h
  split at h
  · rename_i ho; rw [ho]; intro cf a s v s' h; change idA a s = _ at h; unfold idA at h; split at h <;> cases h; rfl
  · rename_i ho; rw [ho]; intro cf a s v s' h; change idA a s = _ at h; unfold idA at h; split at h <;> cases h; rfl
  · rename_i ho; rw [ho]; intro cf a s v s' h; unfold opK at h; dsimp only at h; split at h <;> cases h; rfl
  · rename_i ho; rw [ho]; exact binK_still P _ _ _ _
  · rename_i ho; rw [ho]; intro cf a s v s' h; unfold opK at h; dsimp only at h; split at h
    · exact ret_s h
    · cases h
  · rename_i ho; rw [ho]; exact fieldAddrK_still P _ _
  · rename_i ho; rw [ho]; exact fieldK_still P _ _
  · rename_i ho; rw [ho]; exact indexAddrK_still P _
  · rename_i ho; rw [ho]; exact indexK_still P _
  · rename_i ho; rw [ho]; intro cf a s v s' h; unfold opK at h; dsimp only at h; (repeat' split at h) <;> first | (cases h; rfl) | cases h
  · rename_i ho; rw [ho]; intro cf a s v s' h; unfold opK at h; dsimp only at h; (repeat' split at h) <;> first | (cases h; rfl) | cases h
  · rename_i ho; rw [ho]; unfold opK; refine .cond ?_ (.fail _); intro cf a s v s' h; dsimp only at h; split at h <;> cases h; rfl
  · rename_i ho; rw [ho]; intro cf a s v s' h; unfold opK at h; cases h; rfl
  · rename_i ho; rw [ho]; exact sliceK_still P _ _ _ _
  · rename_i ho; rw [ho]; exact buildK_still P _ _
  · rename_i ho; rw [ho]; exact typeAssertK_still P _ _
  · rename_i c ho
    rw [ho] at hw ⊢
    change Still (callK P c)
    unfold callK
    split at h
    · rename_i hc; rw [hc]; exact capK_still P _
    · rename_i hc; rw [hc]; exact mmK_still _
    · rename_i hc; rw [hc]; exact mmK_still _
    · rename_i hc
      exfalso
      unfold wayOf at hw
      obtain ⟨a, b, c⟩ := c
      dsimp only at hc
      subst hc
      rcases hw with hw | hw <;> cases hw
    · rename_i ty hc hty
      rw [hc]
      change Still (lenK P c.argTypes.toList)
      rw [hty]
      exact lenK_still P h
    · cases h
  · cases h
end
end Go.Ev
namespace Go.Ev
section
variable {P : Program} {d nt : Nat}
theorem pure_stillOp {o : Oper} (h : pureO P o = true) : stillOp o.op = true := by
  unfold pureO at h
  unfold stillOp
  split at h
  all_goals first | (rename_i ho; rw [ho]; done) | skip
  · rename_i c ho
    rw [ho]
    dsimp only
    split at h
    all_goals first | (rename_i hc; rw [hc]; done) | (rename_i hc _; rw [hc]; done) | cases h
  · cases h
theorem stepOp_dum {ops : Array Oper} {o : Oper} {cf : CallF} (h : stillOp o.op = true) : stepOp P nt ops o cf = stepOp P nt ops o dum := by
  funext fr s
  unfold stepOp
  dsimp only [prepK]
  rw [opK_ign P h cf dum]
theorem dum_framed : FramedF dum := fun _ _ => .no _
theorem pure_step {ops : Array Oper} {o : Oper} {cf : CallF} {fr fr' : Fr} {s s' : S} (hp : pureO P o = true) (hv : isVal o = true) (h : stepOp P nt ops o cf fr s = .ok fr' s') : s' = s := by
  obtain ⟨v, h, _⟩ := (stepOp_val hv).mp h
  unfold valOp at h
  cases hw : wantedA ops o fr.t with
  | false => rw [hw] at h; cases h; rfl
  | true =>
    rw [hw] at h
    dsimp only [cond] at h
    split at h
    · cases h
    · split at h
      · rename_i hway; exact opK_still P hp (.inl hway) _ _ _ _ _ h
      · rename_i hway; exact opK_still P hp (.inr hway) _ _ _ _ _ h
      · split at h
        · cases h; rfl
        · cases h
      · cases h
/-- What touches nothing leaves an empty record. -/
theorem pure_scope {ops : Array Oper} {o : Oper} {cf : CallF} {fr fr' : Fr} {s s' : S} (hp : pureO P o = true) (hv : isVal o = true) (h : stepOp P nt ops o cf fr s = .ok fr' s') :
    scopeA (stepOp P nt ops o cf fr) s = .ok (fr', ⟨s.n, s.n, [], []⟩) s ∧ s' = s := by
  have e := pure_step hp hv h
  subst e
  have hst := pure_stillOp hp
  rw [stepOp_dum hst] at h ⊢
  obtain ⟨_, r, w, e1, e2, _, g⟩ := stepOp_framed (P := P) (nt := nt) dum_framed ops o fr s' fr' s' h
  obtain ⟨s2, h2, _⟩ := g { s' with r := [], w := [] } rfl (fun _ _ => rfl) (fun _ _ _ => rfl)
  have e3 := pure_step hp hv h2
  subst e3
  refine ⟨?_, rfl⟩
  unfold scopeA
  rw [h2]
  rfl
theorem anyN_eq (f : Nat → Bool) : ∀ l : List Nat, anyN f l = l.any f
  | [] => rfl
  | a :: l => by
    show Bool.rec (motive := fun _ => Bool) (anyN f l) true (f a) = (a :: l).any f
    rw [anyN_eq f l, List.any_cons]
    cases f a <;> rfl
theorem filN_eq (f : Nat → Bool) : ∀ l : List Nat, filN f l = l.filter f
  | [] => rfl
  | a :: l => by
    show Bool.rec (motive := fun _ => List Nat) (filN f l) (List.cons a (filN f l)) (f a) = (a :: l).filter f
    rw [filN_eq f l, List.filter_cons]
    cases f a <;> rfl
theorem appN_eq : ∀ l m : List Nat, appN l m = l ++ m
  | [], _ => rfl
  | a :: l, m => by
    show List.cons a (appN l m) = _
    rw [appN_eq l m]; rfl
theorem outN_eq (a z i : Nat) : outN a z i = offA a z i := by
  show Bool.rec (motive := fun _ => Bool) true (Nat.ble z i) (Nat.ble a i) = !(Nat.ble a i && Nat.blt i z)
  cases Nat.ble a i with
  | false => rfl
  | true =>
    show Nat.ble z i = !(Nat.blt i z)
    cases h : Nat.ble z i with
    | true => have := Nat.le_of_ble_eq_true h; rw [blt_false.mpr (by omega)]; rfl
    | false =>
      have : i < z := by
        rcases Nat.lt_or_ge i z with h2 | h2
        · exact h2
        · rw [Nat.ble_eq_true_of_le h2] at h; cases h
      rw [blt_true.mpr this]; rfl
theorem meetN_eq (a b : List Nat) : meetN a b = meets a b := by
  unfold meetN meets
  rw [anyN_eq]
  congr 1
  funext i
  rw [anyN_eq]
theorem withinN_eq (a z : Nat) (l : List Nat) : withinN a z l = inR a z l := by
  show Bool.rec (motive := fun _ => Bool) (anyN (fun i => Bool.rec (motive := fun _ => Bool) false (Nat.ble (Nat.succ i) z) (Nat.ble a i)) l) false (Nat.beq a z) = _
  rw [anyN_eq]
  unfold inR
  cases Nat.beq a z with
  | true => rfl
  | false =>
    show l.any _ = l.any _
    congr 1
    funext i
    cases Nat.ble a i <;> rfl
theorem bor {b x : Bool} : Bool.rec (motive := fun _ => Bool) x true b = (b || x) := by cases b <;> rfl
theorem clashN_eq (x y : Rec) : clashN x y = clash x y := by
  obtain ⟨a, z, r, w⟩ := x
  obtain ⟨a', z', r', w'⟩ := y
  unfold clashN clash
  dsimp only
  simp only [bor, meetN_eq, withinN_eq, Bool.or_assoc]
theorem clash_empty {x y : Rec} (h1 : x.r = []) (h2 : x.w = []) (h3 : x.a = x.z) : clash x y = false := by
  unfold clash inR meets
  rw [h1, h2, h3]
  have e : (y.w.any fun i => ([] : List Nat).any fun j => Nat.beq i j) = false := by
    rw [List.any_eq_false]; intro i _; simp
  rw [e]
  simp [Nat.beq_refl]
theorem clash_quiet {x y : Rec} (h2 : x.w = []) (h3 : x.a = x.z) (h4 : y.w = []) (h5 : y.a = y.z) : clash x y = false := by
  unfold clash inR meets
  rw [h2, h3, h4, h5]
  simp [Nat.beq_refl]
/-- What the plain check asks, told of triples. -/
theorem clashes_any : ∀ (l : List (Bool × Rec)) (y : Rec), clashes (l.map (·.1)) (l.map (·.2)) y = l.any fun p => p.1 && clash p.2 y
  | [], _ => rfl
  | (u, x) :: l, y => by
    simp only [List.map_cons, List.any_cons]
    rw [← clashes_any l y]
    cases u with
    | true => show (clash x y || clashes _ _ y) = _; simp
    | false => simp only [Bool.false_and, Bool.false_or]; rfl
theorem clashesN_any : ∀ (l : List (Bool × Rec)) (y : Rec), clashesN (l.map (·.1)) (l.map (·.2)) y = l.any fun p => p.1 && clash p.2 y
  | [], _ => rfl
  | (u, x) :: l, y => by
    simp only [List.map_cons, List.any_cons]
    rw [← clashesN_any l y]
    show Bool.rec (motive := fun _ => Bool) (clashesN (l.map (·.1)) (l.map (·.2)) y) (Bool.rec (motive := fun _ => Bool) (clashesN (l.map (·.1)) (l.map (·.2)) y) true (clashN x y)) u = _
    rw [bor, clashN_eq]
    cases u <;> simp
theorem loudR_false {a z : Nat} {w : List Nat} (h : loudR a z w = false) : a = z ∧ w = [] := by
  unfold loudR at h
  cases hb : Nat.beq a z with
  | false => rw [hb] at h; cases h
  | true =>
    rw [hb] at h
    cases w with
    | nil => exact ⟨Nat.eq_of_beq_eq_true hb, rfl⟩
    | cons => cases h
/-- The records so far, and those that the fast evaluator keeps. -/
structure Recs (P : Program) (ops : Array Oper) (i : Nat) (recs rs : List Rec) (loud : Bool) : Prop where
  len : recs.length = i
  kept : rs = (((recs.zip ops.toList).filter fun x => !(pureO P x.2)).map (·.1)).reverse
  pure : ∀ (k : Nat) (x : Rec) (o : Oper), recs[k]? = some x → ops[k]? = some o → pureO P o = true → x.r = [] ∧ x.w = [] ∧ x.a = x.z
  quiet : loud = false → ∀ x ∈ recs, x.w = [] ∧ x.a = x.z
theorem zip_filter (f : Oper → Bool) : ∀ (us : List Bool) (recs : List Rec) (l : List Oper), us.length = recs.length → recs.length ≤ l.length →
    ((us.zip l).filter fun x => f x.2).map (·.1) = (((us.zip recs).zip l).filter fun x => f x.2).map (·.1.1) ∧ ((recs.zip l).filter fun x => f x.2).map (·.1) = (((us.zip recs).zip l).filter fun x => f x.2).map (·.1.2)
  | [], [], _, _, _ => ⟨rfl, rfl⟩
  | u :: us, x :: recs, o :: l, h1, h2 => by
    obtain ⟨i1, i2⟩ := zip_filter f us recs l (by simpa using h1) (by simpa using h2)
    simp only [List.zip_cons_cons, List.filter_cons]
    cases f o with
    | true => simp only [if_true, List.map_cons, i1, i2]; exact ⟨trivial, trivial⟩
    | false => simp only [Bool.false_eq_true, if_false, i1, i2]; exact ⟨trivial, trivial⟩
  | _ :: _, [], _, h1, _ => by simp at h1
  | [], _ :: _, _, h1, _ => by simp at h1
  | _ :: _, _ :: _, [], _, h2 => by simp at h2
theorem Recs.check {ops : Array Oper} {i : Nat} {recs rs : List Rec} {loud : Bool} (h : Recs P ops i recs rs loud) (hi : i ≤ ops.size) {y : Rec} (hc : clashesN (unordN P ops i).l rs y = false) : clashes (unord ops i).l recs y = false := by
  have hu : (unord ops i).l.length = recs.length := by rw [h.len]; unfold unord; simp
  have hz := zip_filter (fun o => !(pureO P o)) (unord ops i).l recs ops.toList hu (by rw [h.len]; simpa using hi)
  have e1 : (unordN P ops i).l = ((((unord ops i).l.zip recs).zip ops.toList).filter fun x => !(pureO P x.2)).reverse.map (·.1.1) := by
    unfold unordN; dsimp only; rw [hz.1, List.map_reverse]
  have e2 : rs = ((((unord ops i).l.zip recs).zip ops.toList).filter fun x => !(pureO P x.2)).reverse.map (·.1.2) := by
    rw [h.kept, hz.2, List.map_reverse]
  have e3 : ∀ L : List ((Bool × Rec) × Oper), clashesN (L.map (·.1.1)) (L.map (·.1.2)) y = L.any fun p => p.1.1 && clash p.1.2 y := by
    intro L
    have := clashesN_any (L.map (·.1)) y
    rw [List.map_map, List.map_map] at this
    rw [show (L.map (·.1.1)) = L.map ((fun p : Bool × Rec => p.1) ∘ fun x => x.1) from rfl, show (L.map (·.1.2)) = L.map ((fun p : Bool × Rec => p.2) ∘ fun x => x.1) from rfl, this, List.any_map]
    rfl
  rw [e1, e2, e3, List.any_eq_false] at hc
  have e4 : clashes (unord ops i).l recs y = ((unord ops i).l.zip recs).any fun p => p.1 && clash p.2 y := by
    rw [← clashes_any, List.map_fst_zip (by omega), List.map_snd_zip (by omega)]
  rw [e4, List.any_eq_false]
  intro p hp
  obtain ⟨k, hk⟩ := List.getElem?_of_mem hp
  obtain ⟨u, x⟩ := p
  rw [List.getElem?_zip_eq_some] at hk
  have hklt : k < recs.length := by
    rcases Nat.lt_or_ge k recs.length with h | h
    · exact h
    · rw [List.getElem?_eq_none h] at hk; cases hk.2
  obtain ⟨o, ho⟩ : ∃ o, ops[k]? = some o := ⟨ops[k]'(by rw [h.len] at hklt; omega), by rw [Array.getElem?_eq_getElem]⟩
  cases hpo : pureO P o with
  | true =>
    obtain ⟨p1, p2, p3⟩ := h.pure k x o hk.2 ho hpo
    dsimp only
    rw [clash_empty p1 p2 p3]; simp
  | false =>
    have hm : ((u, x), o) ∈ ((unord ops i).l.zip recs).zip ops.toList := by
      apply List.mem_of_getElem? (i := k)
      rw [List.getElem?_zip_eq_some, List.getElem?_zip_eq_some]
      exact ⟨hk, by simpa using ho⟩
    have := hc ((u, x), o) (by rw [List.mem_reverse, List.mem_filter]; exact ⟨hm, by simp [hpo]⟩)
    exact this
theorem Recs.quietC {ops : Array Oper} {i : Nat} {recs rs : List Rec} (h : Recs P ops i recs rs false) {y : Rec} (h1 : y.w = []) (h2 : y.a = y.z) : clashes (unord ops i).l recs y = false := by
  have e4 : clashes (unord ops i).l recs y = ((unord ops i).l.zip recs).any fun p => p.1 && clash p.2 y := by
    have hu : (unord ops i).l.length = recs.length := by rw [h.len]; unfold unord; simp
    rw [← clashes_any, List.map_fst_zip (by omega), List.map_snd_zip (by omega)]
  rw [e4, List.any_eq_false]
  intro p hp
  obtain ⟨a, b⟩ := h.quiet rfl p.2 (List.of_mem_zip hp).2
  rw [clash_quiet a b h1 h2]; simp
theorem zip_snoc {α β : Type} : ∀ (a : List α) (x : α) (l : List β) (o : β), l[a.length]? = some o → (a ++ [x]).zip l = a.zip l ++ [(x, o)]
  | [], x, [], o, h => by simp at h
  | [], x, b :: l, o, h => by
    simp only [List.length_nil, List.getElem?_cons_zero, Option.some.injEq] at h
    subst h
    simp
  | y :: a, x, [], o, h => by simp at h
  | y :: a, x, b :: l, o, h => by
    simp only [List.cons_append, List.zip_cons_cons]
    rw [zip_snoc a x l o (by simpa using h)]
theorem Recs.push {ops : Array Oper} {i : Nat} {recs rs : List Rec} {loud loud' : Bool} (h : Recs P ops i recs rs loud) {o : Oper} (ho : ops[i]? = some o) {y : Rec} (hp : pureO P o = true → y.r = [] ∧ y.w = [] ∧ y.a = y.z)
    (hl : loud' = false → loud = false ∧ y.w = [] ∧ y.a = y.z) : Recs P ops (i + 1) (recs ++ [y]) (cond (pureO P o) rs (y :: rs)) loud' := by
  have hz : (recs ++ [y]).zip ops.toList = recs.zip ops.toList ++ [(y, o)] := zip_snoc _ _ _ _ (by rw [h.len]; simpa using ho)
  refine ⟨by simp [h.len], ?_, ?_, ?_⟩
  · rw [hz, List.filter_append, List.map_append, List.reverse_append, ← h.kept]
    cases hpo : pureO P o <;> simp [hpo]
  · intro k x o' hk hok hpo
    by_cases hki : k < recs.length
    · rw [List.getElem?_append_left hki] at hk
      exact h.pure k x o' hk hok hpo
    · rw [List.getElem?_append_right (by omega)] at hk
      cases hkk : k - recs.length with
      | zero =>
        rw [hkk] at hk
        simp only [List.getElem?_cons_zero, Option.some.injEq] at hk
        subst hk
        have : k = i := by have := h.len; omega
        subst this
        rw [ho] at hok
        cases hok
        exact hp hpo
      | succ m => rw [hkk] at hk; simp at hk
  · intro hl' x hx
    obtain ⟨a, b, c⟩ := hl hl'
    rw [List.mem_append] at hx
    rcases hx with hx | hx
    · exact h.quiet a x hx
    · simp only [List.mem_singleton] at hx; subst hx; exact ⟨b, c⟩
theorem stepD_true {us : List Bool} {loud : Bool} {rs : List Rec} {a z : Nat} {r w : List Nat} {κ : Bool → Bool} (h : stepD us loud rs a z r w κ = true) :
    ∃ loud', κ loud' = true ∧ (loud' = false → loud = false ∧ w = [] ∧ a = z) ∧ (loud' = true → clashesN us rs ⟨a, z, r, w⟩ = false) := by
  unfold stepD at h
  cases loud with
  | true =>
    rcases brec h with ⟨_, h⟩ | ⟨e, h⟩
    · cases h
    · exact ⟨true, h, fun e => (by cases e), fun _ => e⟩
  | false =>
    rcases brec h with ⟨_, h⟩ | ⟨e, h⟩
    · rcases brec h with ⟨_, h⟩ | ⟨e, h⟩
      · cases h
      · exact ⟨true, h, fun e => (by cases e), fun _ => e⟩
    · have := loudR_false e
      exact ⟨false, h, fun _ => ⟨rfl, this.2, this.1⟩, fun e => by cases e⟩
/-- Operations in their order, with records. -/
theorem drawF_ok (hnt : nt ≤ 8 ^ d) (ops : Array Oper) (hv : ∀ o, o ∈ ops.toList → isVal o = true) : ∀ (l : List Oper) (i : Nat) (recs rs : List Rec) (loud : Bool), ops.toList.drop i = l → i ≤ ops.size → Recs P ops i recs rs loud →
    ∀ (c : Cx) (cf : CallF), CallsOk c.cf cf → ∀ t ds s k, (drawF P d nt ops ((l.zipIdx i).map fun (o, i) => (i, o))).run c t s loud rs k = true →
      ∃ t' s', drawOps P nt ops ((l.zipIdx i).map fun (o, i) => (i, o)) recs cf ⟨toF t, ds, c.dfr⟩ s = .ok (.nrm, ⟨toF t', ds, c.dfr⟩) s' ∧ k t' s' = true
  | [], i, recs, rs, loud, hd, hi, hr, c, cf, hc, t, ds, s, k, h => ⟨t, s, rfl, h⟩
  | o :: l, i, recs, rs, loud, hd, hi, hr, c, cf, hc, t, ds, s, k, h => by
    have ho' : ops.toList[i]? = some o := by have := congrArg (·[0]?) hd; simpa using this
    have ho : ops[i]? = some o := by simpa using ho'
    have hd' : ops.toList.drop (i + 1) = l := by have := congrArg (·.drop 1) hd; simpa [Nat.add_comm] using this
    have hlt : i < ops.size := Run.size_of ho
    have hval := hv o (List.mem_of_getElem? ho')
    have ih := drawF_ok hnt ops hv l (i + 1)
    have slow : ∀ (fr1 : Fr) (y : Rec) (s1 : S) (R : RC), scopeA (stepOp P nt ops o cf ⟨toF t, ds, c.dfr⟩) s = .ok (fr1, y) s1 → clashes (unord ops i).l recs y = false → drawOps P nt ops ((l.zipIdx (i + 1)).map fun (o, i) => (i, o)) (recs ++ [y]) cf fr1 s1 = R →
        drawOps P nt ops (((o :: l).zipIdx i).map fun (o, i) => (i, o)) recs cf ⟨toF t, ds, c.dfr⟩ s = R := by
      intro fr1 y s1 R h1 h2 h3
      show (match scopeA (stepOp P nt ops o cf ⟨toF t, ds, c.dfr⟩) s with | .ok (fr, x) s => cond (clashes (unord ops i).l recs x) (Rs.no ("clash " ++ toString i ++ " @ " ++ o.pos)) (drawOps P nt ops ((l.zipIdx (i + 1)).map fun (o, i) => (i, o)) (recs ++ [x]) cf fr s) | .no y => Rs.no y) = R
      rw [h1]
      dsimp only
      rw [h2]
      exact h3
    cases hp : pureO P o with
    | true =>
      have h : (drawF P d nt ops ((i, o) :: ((l.zipIdx (i + 1)).map fun (o, i) => (i, o)))).run c t s loud rs k = true := h
      unfold drawF at h
      dsimp only at h
      rw [hp] at h
      have h : (opF P d nt ops o).run c t s (fun t s => (drawF P d nt ops ((l.zipIdx (i + 1)).map fun (o, i) => (i, o))).run c t s loud rs k) = true := h
      obtain ⟨t1, s1, h1, h2⟩ := opF_ok hnt ops o c cf hc t s _ h
      obtain ⟨h3, rfl⟩ := pure_scope hp hval (h1 ds)
      have hr' := hr.push ho (y := ⟨s1.n, s1.n, [], []⟩) (loud' := loud) (fun _ => ⟨rfl, rfl, rfl⟩) (fun e => ⟨e, rfl, rfl⟩)
      rw [hp] at hr'
      obtain ⟨t2, s2, h4, h5⟩ := ih _ rs loud hd' (by omega) hr' c cf hc t1 ds s1 k h2
      refine ⟨t2, s2, slow _ _ _ _ h3 ?_ h4, h5⟩
      have : ∀ x : Rec, clash x ⟨s1.n, s1.n, [], []⟩ = false := by
        intro x; unfold clash inR meets
        have e : (x.w.any fun i => ([] : List Nat).any fun j => Nat.beq i j) = false := by rw [List.any_eq_false]; intro i _; simp
        dsimp only
        rw [e]
        simp [Nat.beq_refl]
      have hcl : ∀ (us : List Bool) (rs : List Rec), clashes us rs ⟨s1.n, s1.n, [], []⟩ = false := by
        intro us
        induction us with
        | nil => intro rs; rfl
        | cons u us ih =>
          intro rs
          cases rs with
          | nil => cases u <;> rfl
          | cons x rs =>
            cases u with
            | true => show (clash x _ || clashes us rs _) = false; rw [this, ih]; rfl
            | false => exact ih rs
      exact hcl _ _
    | false =>
      obtain ⟨h0, n, r, w⟩ := s
      have h : (drawF P d nt ops ((i, o) :: ((l.zipIdx (i + 1)).map fun (o, i) => (i, o)))).run c t ⟨h0, n, r, w⟩ loud rs k = true := h
      unfold drawF at h
      dsimp only at h
      rw [hp] at h
      have h : (opF P d nt ops o).run c t ⟨h0, n, [], []⟩ (fun t s => S.rec (motive := fun _ => Bool) (fun h' n' r' w' =>
        stepD (unordN P ops i).l loud rs n n' (filN (outN n n') r') (filN (outN n n') w') fun loud => (drawF P d nt ops ((l.zipIdx (i + 1)).map fun (o, i) => (i, o))).run c t (S.mk h' n' (appN (filN (outN n n') r') r) (appN (filN (outN n n') w') w)) loud
          (List.cons (Rec.mk n n' (filN (outN n n') r') (filN (outN n n') w')) rs) k) s) = true := h
      obtain ⟨t1, s1, h1, h2⟩ := opF_ok hnt ops o c cf hc t _ _ h
      obtain ⟨h', n', r', w'⟩ := s1
      obtain ⟨loud', h3, h4, h5⟩ := stepD_true h2
      have ef : outN n n' = offA n n' := funext fun i => outN_eq n n' i
      simp only [filN_eq, appN_eq, ef] at h3 h4 h5
      have hsc : scopeA (stepOp P nt ops o cf ⟨toF t, ds, c.dfr⟩) ⟨h0, n, r, w⟩ = .ok (⟨toF t1, ds, c.dfr⟩, ⟨n, n', r'.filter (offA n n'), w'.filter (offA n n')⟩) ⟨h', n', r'.filter (offA n n') ++ r, w'.filter (offA n n') ++ w⟩ := by
        unfold scopeA
        rw [h1 ds]
      have hcl : clashes (unord ops i).l recs ⟨n, n', r'.filter (offA n n'), w'.filter (offA n n')⟩ = false := by
        cases hl : loud' with
        | true => exact hr.check (by omega) (h5 hl)
        | false =>
          obtain ⟨e1, e2, e3⟩ := h4 hl
          subst e1
          exact hr.quietC e2 e3
      have hr' := hr.push ho (y := ⟨n, n', r'.filter (offA n n'), w'.filter (offA n n')⟩) (loud' := loud') (fun e => by rw [hp] at e; cases e) (fun e => h4 e)
      rw [hp] at hr'
      obtain ⟨t2, s2, h6, h7⟩ := ih _ _ loud' hd' (by omega) hr' c cf hc t1 ds _ k h3
      exact ⟨t2, s2, slow _ _ _ _ hsc hcl h6, h7⟩
end
end Go.Ev
namespace Go.Ev
section
variable {P : Program} {d nt : Nat}
theorem drawK_ok (hnt : nt ≤ 8 ^ d) (ops : Array Oper) (nx : KF d) : NxOk (drawK P d nt ops nx) nx (regionK P nt ops true) := by
  intro c cf hc t ds s k h
  unfold drawK at h
  show ∃ x t' ds' s', (cond (drawOk ops).b (⟨fun cf fr s => drawOps P nt ops (ops.toList.zipIdx.map fun (o, i) => (i, o)) [] cf fr s⟩ : K) ⟨fun _ _ _ => .no "drawn"⟩).run cf ⟨toF t, ds, c.dfr⟩ s = .ok (x, ⟨toF t', ds', c.dfr⟩) s' ∧ _
  cases hd : (drawOk ops).b with
  | false => rw [hd] at h; cases h
  | true =>
    rw [hd] at h
    have h : (drawF P d nt ops (ops.toList.zipIdx.map fun (o, i) => (i, o))).run c t s false [] (fun t s => nx.run c t ds s k) = true := h
    have hv : ∀ o, o ∈ ops.toList → isVal o = true := by
      intro o ho
      obtain ⟨i, hi⟩ := List.getElem?_of_mem ho
      exact (drawOk_at hd (by simpa using hi)).1
    obtain ⟨t', s', h1, h2⟩ := drawF_ok hnt ops hv ops.toList 0 [] [] false rfl (by omega) ⟨rfl, by simp, fun k x o h => by simp at h, fun _ x h => by simp at h⟩ c cf hc t ds s _ h
    exact ⟨.nrm, t', ds, s', h1, h2⟩
theorem NxOk.kf {f : KF d} {g : K} (h : NxOk f (endF d) g) : KfOk f g := by
  intro c cf hc t ds s k hk
  obtain ⟨x, t', ds', s', h1, h2⟩ := h c cf hc t ds s k hk
  refine ⟨x, t', ds', s', h1, ?_⟩
  cases x with
  | nrm => exact h2
  | exit i => exact h2
  | ret => exact h2
theorem loopF_ok {f : KF d} {g : K} (hf : KfOk f g) : ∀ (n : Nat) (c : Cx) (cf : CallF), CallsOk c.cf cf → ∀ t ds s k, loopF d f.run n c t ds s k = true →
    ∃ x t' ds' s', loopA g n cf ⟨toF t, ds, c.dfr⟩ s = .ok (x, ⟨toF t', ds', c.dfr⟩) s' ∧ (match x with | .nrm => False | x => k x t' ds' s' = true)
  | 0, c, cf, hc, t, ds, s, k, h => by cases h
  | n + 1, c, cf, hc, t, ds, s, k, h => by
    have h : f.run c t ds s (fun x t ds s => X.rec (motive := fun _ => Bool) (tick (loopF d f.run n c t ds s k)) (fun i => k (.exit i) t ds s) (k .ret t ds s) x) = true := h
    obtain ⟨x, t', ds', s', h1, h2⟩ := hf c cf hc t ds s _ h
    have e : loopA g (n + 1) cf ⟨toF t, ds, c.dfr⟩ s = (match g.run cf ⟨toF t, ds, c.dfr⟩ s with | .ok (.nrm, fr) s => loopA g n cf fr s | x => x) := rfl
    rw [e, h1]
    cases x with
    | nrm => exact loopF_ok hf n c cf hc t' ds' s' k h2
    | exit i => exact ⟨_, t', ds', s', rfl, h2⟩
    | ret => exact ⟨_, t', ds', s', rfl, h2⟩
theorem codeF_ok (hnt : nt ≤ 8 ^ d) : ∀ (q : Code) (nx : KF d), NxOk (codeF P d nt nx q) nx (codeK P nt q)
  | .skip, nx => fun c cf hc t ds s k h => ⟨.nrm, t, ds, s, rfl, h⟩
  | .label _, nx => fun c cf hc t ds s k h => ⟨.nrm, t, ds, s, rfl, h⟩
  | .region _ ops true, nx => drawK_ok hnt ops nx
  | .region _ ops false, nx => regF_ok hnt ops nx ops.toList
  | .seq a b, nx => by
    intro c cf hc t ds s k h
    have h : (codeF P d nt (codeF P d nt nx b) a).run c t ds s k = true := h
    obtain ⟨x, t1, ds1, s1, h1, h2⟩ := codeF_ok hnt a (codeF P d nt nx b) c cf hc t ds s k h
    have e : (codeK P nt (.seq a b)).run cf ⟨toF t, ds, c.dfr⟩ s = (match (codeK P nt a).run cf ⟨toF t, ds, c.dfr⟩ s with | .ok (.nrm, fr) s => (codeK P nt b).run cf fr s | r => r) := rfl
    rw [e, h1]
    cases x with
    | nrm => exact codeF_ok hnt b nx c cf hc t1 ds1 s1 k h2
    | exit i => exact ⟨_, t1, ds1, s1, rfl, h2⟩
    | ret => exact ⟨_, t1, ds1, s1, rfl, h2⟩
  | .cond o a b, nx => by
    intro c cf hc t ds s k h
    have h : (cond (opndOk o) (⟨fun c t ds s k => onB ((opnd d o).run t) ((codeF P d nt (endF d) a).run c t ds s fun x t ds s => X.rec (motive := fun _ => Bool) (nx.run c t ds s k) (fun i => k (.exit i) t ds s) (k .ret t ds s) x)
      ((codeF P d nt (endF d) b).run c t ds s fun x t ds s => X.rec (motive := fun _ => Bool) (nx.run c t ds s k) (fun i => k (.exit i) t ds s) (k .ret t ds s) x)⟩ : KF d) ⟨fun _ _ _ _ _ => false⟩).run c t ds s k = true := h
    cases ho : opndOk o with
    | false => rw [ho] at h; cases h
    | true =>
      rw [ho] at h
      obtain ⟨v, e1, h⟩ := onB_true h
      have he := opnd_run ho t
      rw [e1] at he
      have e : (codeK P nt (.cond o a b)).run cf ⟨toF t, ds, c.dfr⟩ s = (match evO (toF t) o with | some (.bool true) => (codeK P nt a).run cf ⟨toF t, ds, c.dfr⟩ s | some (.bool false) => (codeK P nt b).run cf ⟨toF t, ds, c.dfr⟩ s | _ => .no "cond") := rfl
      rw [e, he]
      cases v with
      | true =>
        obtain ⟨x, t1, ds1, s1, h1, h2⟩ := (codeF_ok hnt a (endF d)).kf c cf hc t ds s _ h
        refine ⟨x, t1, ds1, s1, h1, ?_⟩
        cases x <;> exact h2
      | false =>
        obtain ⟨x, t1, ds1, s1, h1, h2⟩ := (codeF_ok hnt b (endF d)).kf c cf hc t ds s _ h
        refine ⟨x, t1, ds1, s1, h1, ?_⟩
        cases x <;> exact h2
  | .block id a, nx => by
    intro c cf hc t ds s k h
    have h : (codeF P d nt (endF d) a).run c t ds s (fun x t ds s => X.rec (motive := fun _ => Bool) (nx.run c t ds s k) (fun i => Bool.rec (motive := fun _ => Bool) (k (.exit i) t ds s) (nx.run c t ds s k) (Nat.beq i id)) (k .ret t ds s) x) = true := h
    obtain ⟨x, t1, ds1, s1, h1, h2⟩ := (codeF_ok hnt a (endF d)).kf c cf hc t ds s _ h
    have e : (codeK P nt (.block id a)).run cf ⟨toF t, ds, c.dfr⟩ s = (match (codeK P nt a).run cf ⟨toF t, ds, c.dfr⟩ s with | .ok (.exit i, fr) s => cond (Nat.beq i id) (.ok (.nrm, fr) s) (.ok (.exit i, fr) s) | r => r) := rfl
    rw [e, h1]
    cases x with
    | nrm => exact ⟨_, t1, ds1, s1, rfl, h2⟩
    | ret => exact ⟨_, t1, ds1, s1, rfl, h2⟩
    | exit i =>
      rcases brec h2 with ⟨e2, h2⟩ | ⟨e2, h2⟩
      · exact ⟨.nrm, t1, ds1, s1, by dsimp only; rw [e2]; rfl, h2⟩
      · exact ⟨.exit i, t1, ds1, s1, by dsimp only; rw [e2]; rfl, h2⟩
  | .loop a, nx => by
    intro c cf hc t ds s k h
    have h : loopF d (codeF P d nt (endF d) a).run 1000000 c t ds s k = true := h
    obtain ⟨x, t1, ds1, s1, h1, h2⟩ := loopF_ok (codeF_ok hnt a (endF d)).kf 1000000 c cf hc t ds s k h
    refine ⟨x, t1, ds1, s1, h1, ?_⟩
    cases x with
    | nrm => exact h2.elim
    | exit i => exact h2
    | ret => exact h2
  | .exit id, nx => fun c cf hc t ds s k h => ⟨.exit id, t, ds, s, rfl, h⟩
  | .ret, nx => fun c cf hc t ds s k h => ⟨.ret, t, ds, s, rfl, h⟩
  | .scope _, nx => fun c cf hc t ds s k h => by cases h
  | .goto _, nx => fun c cf hc t ds s k h => by cases h
  | .rangeFunc .., nx => fun c cf hc t ds s k h => by cases h
  | .refuse _, nx => fun c cf hc t ds s k h => by cases h
/- results, frames, functions -/
theorem resL_ok : ∀ (l : List ResultVar) (t : TF d) (s : S) (acc : List AV) (k : List AV → S → Bool), (resL P d l).run t s k = true → ∃ vs s', k vs s' = true ∧ resA P (toF t) l acc s = resA P (toF t) [] (vs.reverse ++ acc) s'
  | [], t, s, acc, k, h => ⟨[], s, h, rfl⟩
  | .tmp i :: l, t, s, acc, k, h => by
    have h : (resL P d l).run t s (fun vs s => k ((opnd d (.tmp i)).run t :: vs) s) = true := h
    have hi : toF t i = (opnd d (.tmp i)).run t := Option.some.inj (opnd_run (d := d) (o := .tmp i) rfl t)
    obtain ⟨vs, s', h1, h2⟩ := resL_ok l t s (toF t i :: acc) _ h
    rw [← hi] at h1
    refine ⟨_, s', h1, ?_⟩
    show resA P (toF t) l (toF t i :: acc) s = _
    rw [h2]; simp
  | .cell a ty :: l, t, s, acc, k, h => by
    have hi : toF t a = (opnd d (.tmp a)).run t := Option.some.inj (opnd_run (d := d) (o := .tmp a) rfl t)
    have h : (cond (tyOk P ty) (cond (isAggT P ty)
      (⟨fun t s k => onPtr ((opnd d (.tmp a)).run t) fun b o => loadG (sizeT P ty) b o s fun v s => (resL P d l).run t s fun vs s => k (v :: vs) s⟩ : RF d)
      ⟨fun t s k => onPtr ((opnd d (.tmp a)).run t) fun b o => load1 b o s fun v s => (resL P d l).run t s fun vs s => k (v :: vs) s⟩) ⟨fun _ _ _ => false⟩).run t s k = true := h
    have e : resA P (toF t) (.cell a ty :: l) acc s = (match toF t a with
      | .ptr b off => cond (tyOk P ty) (match loadA (isAggT P ty) (sizeT P ty) b off s with | .ok v s => resA P (toF t) l (v :: acc) s | .no w => .no w) (.no "result type")
      | _ => .no "result: no pointer") := rfl
    rw [e, hi]
    cases hty : tyOk P ty with
    | false => rw [hty] at h; cases h
    | true =>
      rw [hty] at h
      cases hag : isAggT P ty with
      | true =>
        rw [hag] at h
        obtain ⟨b, o, e1, h⟩ := onPtr_true h
        obtain ⟨v, s1, e2, h⟩ := loadG_true h
        obtain ⟨vs, s', h1, h2⟩ := resL_ok l t s1 (v :: acc) _ h
        refine ⟨_, s', h1, ?_⟩
        rw [e1]
        show (match s.loadN b o (sizeT P ty) aggCells with | .ok v s => resA P (toF t) l (v :: acc) s | .no w => .no w) = _
        rw [e2]
        dsimp only
        rw [h2]; simp
      | false =>
        rw [hag] at h
        obtain ⟨b, o, e1, h⟩ := onPtr_true h
        obtain ⟨v, s1, e2, h⟩ := load1_true h
        obtain ⟨vs, s', h1, h2⟩ := resL_ok l t s1 (v :: acc) _ h
        refine ⟨_, s', h1, ?_⟩
        rw [e1]
        show (match s.loadN b o 1 oneCell with | .ok v s => resA P (toF t) l (v :: acc) s | .no w => .no w) = _
        rw [e2]
        dsimp only
        rw [h2]; simp
theorem oneOf_eq (t : Nat → AV) (vs : List AV) (s : S) : resA P t [] (vs.reverse ++ []) s = .ok (oneOf vs) s := by
  rw [List.append_nil]
  show (match vs.reverse with | [v] => Rs.ok v s | _ => .ok (.tup vs.reverse.reverse) s) = _
  rw [List.reverse_reverse]
  rcases vs with _ | ⟨v, _ | ⟨w, l⟩⟩
  · rfl
  · rfl
  · have : ∀ m : List AV, m.length ≠ 1 → (match m with | [v] => Rs.ok v s | _ => .ok (.tup (v :: w :: l)) s) = Rs.ok (.tup (v :: w :: l)) s := by
      intro m hm
      split
      · simp at hm
      · rfl
    exact this _ (by simp)
theorem argsF_ok : ∀ (l : List AV) (i : Nat) (t : TF d) (k : TF d → Bool), i + l.length ≤ 8 ^ d → argsF d l i t k = true → ∃ t', k t' = true ∧ toF t' = fun j => cond (Nat.ble i j && Nat.blt j (i + l.length)) (l.getD (j - i) undefA) (toF t j)
  | [], i, t, k, hl, h => ⟨t, h, by
      funext j
      have : (Nat.ble i j && Nat.blt j (i + ([] : List AV).length)) = false := by
        simp only [List.length_nil, Nat.add_zero]
        cases hb : Nat.ble i j with
        | false => rfl
        | true => have := Nat.le_of_ble_eq_true hb; rw [blt_false.mpr (by omega)]; rfl
      rw [this]; rfl⟩
  | a :: l, i, t, k, hl, h => by
    have h : (put d i).run a t (fun t => argsF d l (i + 1) t k) = true := h
    rw [put_run] at h
    simp only [List.length_cons] at hl
    obtain ⟨t', h1, h2⟩ := argsF_ok l (i + 1) _ k (by omega) h
    refine ⟨t', h1, ?_⟩
    rw [h2, toF_set (by omega)]
    funext j
    simp only [List.length_cons]
    rcases Nat.lt_trichotomy j i with hj | hj | hj
    · have e1 : Nat.ble (i + 1) j = false := by cases hb : Nat.ble (i + 1) j with | false => rfl | true => have := Nat.le_of_ble_eq_true hb; omega
      have e2 : Nat.ble i j = false := by cases hb : Nat.ble i j with | false => rfl | true => have := Nat.le_of_ble_eq_true hb; omega
      have e3 : Nat.beq j i = false := by cases hb : Nat.beq j i with | false => rfl | true => have := Nat.eq_of_beq_eq_true hb; omega
      rw [e1, e2, e3]; rfl
    · subst hj
      have e1 : Nat.ble (j + 1) j = false := by cases hb : Nat.ble (j + 1) j with | false => rfl | true => have := Nat.le_of_ble_eq_true hb; omega
      have e2 : Nat.ble j j = true := Nat.ble_eq_true_of_le (Nat.le_refl _)
      have e4 : Nat.blt j (j + (l.length + 1)) = true := blt_true.mpr (by omega)
      rw [e1, e2, e4, Nat.beq_refl, Nat.sub_self]; rfl
    · have e1 : Nat.ble (i + 1) j = true := Nat.ble_eq_true_of_le (by omega)
      have e2 : Nat.ble i j = true := Nat.ble_eq_true_of_le (by omega)
      have e3 : Nat.beq j i = false := by cases hb : Nat.beq j i with | false => rfl | true => have := Nat.eq_of_beq_eq_true hb; omega
      have e4 : i + (l.length + 1) = i + 1 + l.length := by omega
      have e5 : j - i = (j - (i + 1)) + 1 := by omega
      rw [e1, e2, e3, e4, e5]
      rfl
theorem args_eq {l : List AV} {t : TF d} (h : toF t = fun j => cond (Nat.ble 0 j && Nat.blt j (0 + l.length)) (l.getD (j - 0) undefA) (toF (TT.all undefA d : TF d) j)) : toF t = argsT l := by
  rw [h]
  funext j
  unfold argsT
  have e1 : toF (TT.all undefA d : TF d) j = undefA := by
    unfold toF
    rw [TT.get_all]
    cases Nat.blt j (8 ^ d) <;> rfl
  rw [e1]
  have e0 : Nat.ble 0 j = true := Nat.ble_eq_true_of_le (Nat.zero_le _)
  rw [e0, Nat.zero_add]
  cases hb : Nat.blt j l.length with
  | true => rfl
  | false =>
    have := blt_false.mp hb
    show undefA = l.getD j undefA
    rw [List.getD_eq_getElem?_getD, List.getElem?_eq_none (by omega)]; rfl
theorem defsF_ok {cdF : CallZ} {cd : CallF} (hc : CallsOk cdF cd) : ∀ (l : List DefA) (s : S) (κ : S → Bool), defsF cdF l s κ = true → ∃ s', κ s' = true ∧ ∀ k : S → RV, runDefs cd l s k = k s'
  | [], s, κ, h => ⟨s, h, fun _ => rfl⟩
  | q :: l, s, κ, h => by
    have h : (match q.f with | .func g => cdF g (q.args ++ q.cap) s fun _ s => defsF cdF l s κ | _ => false) = true := h
    split at h
    · rename_i g hg
      obtain ⟨v, s1, h1, h2⟩ := hc _ _ _ _ h
      obtain ⟨s', h3, h4⟩ := defsF_ok hc l s1 κ h2
      refine ⟨s', h3, fun k => ?_⟩
      show (match q.f with | .func g => (match cd g (q.args ++ q.cap) s with | .ok _ s => runDefs cd l s k | .no w => .no w) | _ => .no "defer of what") = _
      rw [hg]
      dsimp only
      rw [h1]
      exact h4 k
    · cases h
end
end Go.Ev
namespace Go.Ev
section
variable {P : Program} {d nt : Nat}
theorem fnD_ok (hnt : nt ≤ 8 ^ d) {f : Nat} {body : Code} {res : List ResultVar} (hk : (fnK P f).k = some ⟨nt, codeK P nt body, res⟩) {c : Cx} {cf cd : CallF} (hc : CallsOk c.cf cf) (hd : CallsOk c.cd cd) {args : List AV} {s : S} {κ : AV → S → Bool}
    (h : (fnD P d nt body res).run c args s κ = true) : ∃ v s', enterA P cf cd c.dfr f args s = .ok v s' ∧ κ v s' = true := by
  have h : Bool.rec (motive := fun _ => Bool) false (argsF d args 0 (TT.all undefA d) fun t => (codeF P d nt (endF d) body).run c t [] s fun x t ds s =>
    (fun fin => X.rec (motive := fun _ => Bool) fin (fun _ => false) fin x) (Cx.rec (motive := fun _ => Bool) (fun _ cd b => Bool.rec (motive := fun _ => Bool) (defsF cd ds s fun s => (resL P d res).run t s fun vs s => κ (oneOf vs) s) (List.rec (motive := fun _ => Bool) ((resL P d res).run t s fun vs s => κ (oneOf vs) s) (fun _ _ _ => false) ds) b) c)) (Nat.ble args.length nt) = true := h
  obtain ⟨hlen, h⟩ := brec_t h
  have hlen' := Nat.le_of_ble_eq_true hlen
  obtain ⟨t0, h, ht0⟩ := argsF_ok args 0 _ _ (by omega) h
  have ht0 := args_eq ht0
  obtain ⟨x, t1, ds1, s1, h1, h2⟩ := (codeF_ok hnt body (endF d)).kf c cf hc t0 [] s _ h
  rw [ht0] at h1
  obtain ⟨cF, cD, b⟩ := c
  have hfin : Bool.rec (motive := fun _ => Bool) (defsF cD ds1 s1 fun s => (resL P d res).run t1 s fun vs s => κ (oneOf vs) s) (List.rec (motive := fun _ => Bool) ((resL P d res).run t1 s1 fun vs s => κ (oneOf vs) s) (fun _ _ _ => false) ds1) b = true ∧ x ≠ .exit 0 ∧ (∀ i, x ≠ .exit i) := by
    cases x with
    | nrm => exact ⟨h2, by simp, by simp⟩
    | exit i => cases h2
    | ret => exact ⟨h2, by simp, by simp⟩
  obtain ⟨h3, _, hx⟩ := hfin
  have e : enterA P cf cd b f args s = (match (codeK P nt body).run cf ⟨argsT args, [], b⟩ s with
    | .no w => .no (w ++ " < " ++ ((P.funcs[f]?).map (·.name)).getD "?")
    | .ok (.exit _, _) _ => .no "exit"
    | .ok (_, fr) s => cond b (match fr.d with | [] => resA P fr.t res [] s | _ => .no "defer within a deferred call") (runDefs cd fr.d s fun s => resA P fr.t res [] s)) := by
    unfold enterA
    rw [hk]
    dsimp only
    rw [hlen]
    rfl
  show ∃ v s', enterA P cf cd b f args s = .ok v s' ∧ κ v s' = true
  rw [e, h1]
  have goal : ∀ R : RV, R = cond b (match (Fr.mk (toF t1) ds1 b).d with | [] => resA P (toF t1) res [] s1 | _ => .no "defer within a deferred call") (runDefs cd ds1 s1 fun s => resA P (toF t1) res [] s) → ∃ v s', R = .ok v s' ∧ κ v s' = true := by
    rintro R rfl
    cases b with
    | true =>
      have h3 : List.rec (motive := fun _ => Bool) ((resL P d res).run t1 s1 fun vs s => κ (oneOf vs) s) (fun _ _ _ => false) ds1 = true := h3
      cases ds1 with
      | cons => cases h3
      | nil =>
        obtain ⟨vs, s', h4, h5⟩ := resL_ok res t1 s1 [] _ h3
        exact ⟨oneOf vs, s', by show resA P (toF t1) res [] s1 = _; rw [h5, oneOf_eq], h4⟩
    | false =>
      have h3 : (defsF cD ds1 s1 fun s => (resL P d res).run t1 s fun vs s => κ (oneOf vs) s) = true := h3
      obtain ⟨s2, h4, h5⟩ := defsF_ok hd ds1 s1 _ h3
      obtain ⟨vs, s', h6, h7⟩ := resL_ok res t1 s2 [] _ h4
      exact ⟨oneOf vs, s', by show runDefs cd ds1 s1 _ = _; rw [h5, h7, oneOf_eq], h6⟩
  cases x with
  | nrm => exact goal _ rfl
  | ret => exact goal _ rfl
  | exit i => exact absurd rfl (hx i)
theorem fnF_ok {f : Nat} {c : Cx} {cf cd : CallF} (hc : CallsOk c.cf cf) (hd : CallsOk c.cd cd) {args : List AV} {s : S} {κ : AV → S → Bool} (h : (fnF P f).run c args s κ = true) : ∃ v s', enterA P cf cd c.dfr f args s = .ok v s' ∧ κ v s' = true := by
  unfold fnF at h
  split at h
  · rename_i fn hfn
    split at h
    · rename_i body hbody
      cases hn : fn.name == "runtime.NumGoroutine" with
      | true => rw [hn] at h; cases h
      | false =>
        rw [hn] at h
        have hk : (fnK P f).k = some ⟨fn.ntmps, codeK P fn.ntmps body, fn.results.toList⟩ := by
          unfold fnK
          dsimp only
          rw [hfn]
          dsimp only
          rw [hbody]
          dsimp only
          rw [hn]
          rfl
        dsimp only [cond] at h
        cases h2 : Nat.ble fn.ntmps 64 with
        | true =>
          rw [h2] at h
          exact fnD_ok (d := 2) (Nat.le_of_ble_eq_true h2) hk hc hd h
        | false =>
          rw [h2] at h
          dsimp only at h
          cases h3 : Nat.ble fn.ntmps 512 with
          | true =>
            rw [h3] at h
            exact fnD_ok (d := 3) (Nat.le_of_ble_eq_true h3) hk hc hd h
          | false => rw [h3] at h; cases h
    · cases h
  · cases h
/-- What the fast evaluator leaps over, the plain one leaps over. -/
def HooksOk (hk : Nat → Option HF) (hook : Nat → Nat → Option CallF) : Prop := ∀ f, match hk f with
  | some q => ∀ n, (match q.run n with
    | some g => ∃ h, hook f n = some h ∧ ∀ c args s κ, s.n = n → g.run c args s κ = true → ∃ v s', h f args s = .ok v s' ∧ κ v s' = true
    | none => hook f n = none)
  | none => ∀ n, hook f n = none
theorem runF_ok {hk : Nat → Option HF} {hook : Nat → Nat → Option CallF} (hh : HooksOk hk hook) : ∀ n, CallsOk (runF P hk n false) (runA P hook n false) ∧ CallsOk (runF P hk n true) (runA P hook n true)
  | 0 => ⟨fun f a s κ h => by (cases h), fun f a s κ h => by (cases h)⟩
  | n + 1 => by
    obtain ⟨i1, i2⟩ := runF_ok hh n
    refine ⟨?_, ?_⟩
    · intro f a s κ h
      have h : (fnH P hk false f).run (Cx.mk (runF P hk n false) (runF P hk n true) false) a s κ = true := h
      have hf := hh f
      have plain : hook f s.n = none → (fnF P f).run (Cx.mk (runF P hk n false) (runF P hk n true) false) a s κ = true → ∃ v s', runA P hook (n + 1) false f a s = .ok v s' ∧ κ v s' = true := by
        intro e1 h
        have e : runA P hook (n + 1) false f a s = enterA P (runA P hook n false) (runA P hook n true) false f a s := by
          show (match hook f s.n with | some g => g f a s | none => enterA P (runA P hook n false) (runA P hook n true) false f a s) = _
          rw [e1]
        rw [e]
        exact fnF_ok (c := ⟨runF P hk n false, runF P hk n true, false⟩) i1 i2 h
      unfold fnH at h
      dsimp only [cond] at h
      cases hkf : hk f with
      | none =>
        rw [hkf] at h hf
        exact plain (hf s.n) h
      | some q =>
        rw [hkf] at h hf
        obtain ⟨h0, m, r, w⟩ := s
        have h : Option.rec (motive := fun _ => Bool) ((fnF P f).run (Cx.mk (runF P hk n false) (runF P hk n true) false) a (S.mk h0 m r w) κ) (fun q => q.run (Cx.mk (runF P hk n false) (runF P hk n true) false) a (S.mk h0 m r w) κ) (q.run m) = true := h
        have hf := hf m
        cases hq : q.run m with
        | none =>
          rw [hq] at h hf
          exact plain hf h
        | some g =>
          rw [hq] at h hf
          obtain ⟨hf, e1, e2⟩ := hf
          have e : runA P hook (n + 1) false f a ⟨h0, m, r, w⟩ = hf f a ⟨h0, m, r, w⟩ := by
            show (match hook f m with | some g => g f a _ | none => enterA P (runA P hook n false) (runA P hook n true) false f a _) = _
            rw [e1]
          rw [e]
          exact e2 _ _ _ _ rfl h
    · intro f a s κ h
      have h : (fnH P hk true f).run (Cx.mk (runF P hk n false) (runF P hk n true) true) a s κ = true := h
      have e : runA P hook (n + 1) true f a s = enterA P (runA P hook n false) (runA P hook n true) true f a s := rfl
      rw [e]
      exact fnF_ok (c := ⟨runF P hk n false, runF P hk n true, true⟩) i1 i2 h
end
end Go.Ev
