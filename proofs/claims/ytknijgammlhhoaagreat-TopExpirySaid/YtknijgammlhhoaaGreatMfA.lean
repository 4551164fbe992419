/- The fast evaluator, facts: what the kernel ran holds of the machine. -/
import Derived.Test.YtknijgammlhhoaaGreatMvA
import Derived.Test.YtknijgammlhhoaaGreatMvC
set_option linter.all false
namespace Go.Ev
noncomputable section
def tick (b : Bool) : Bool := b
def onInt (x : AV) (f : IntKind → Int → Bool) : Bool := AV.rec (motive_1 := fun _ => Bool) (motive_2 := fun _ => Bool) (fun _ => false) f (fun _ => false) false (fun _ _ => false) false (fun _ _ _ _ _ => false) (fun _ _ _ _ => false) false (fun _ => false) false (fun _ => false) false (fun _ _ _ _ _ => false) false (fun _ _ _ => false) (fun _ _ => false) (fun _ _ => false) (fun _ _ => false) (fun _ _ => false) (fun _ _ => false) (fun _ => false) false (fun _ _ _ _ => false) x
def onI64 (x : AV) (f : Int → Bool) : Bool := AV.rec (motive_1 := fun _ => Bool) (motive_2 := fun _ => Bool) (fun _ => false) (fun k n => IntKind.rec (motive := fun _ => Bool) false false false (f n) false false false false k) (fun _ => false) false (fun _ _ => false) false (fun _ _ _ _ _ => false) (fun _ _ _ _ => false) false (fun _ => false) false (fun _ => false) false (fun _ _ _ _ _ => false) false (fun _ _ _ => false) (fun _ _ => false) (fun _ _ => false) (fun _ _ => false) (fun _ _ => false) (fun _ _ => false) (fun _ => false) false (fun _ _ _ _ => false) x
def onPtr (x : AV) (f : Nat → Nat → Bool) : Bool := AV.rec (motive_1 := fun _ => Bool) (motive_2 := fun _ => Bool) (fun _ => false) (fun _ _ => false) (fun _ => false) false f false (fun _ _ _ _ _ => false) (fun _ _ _ _ => false) false (fun _ => false) false (fun _ => false) false (fun _ _ _ _ _ => false) false (fun _ _ _ => false) (fun _ _ => false) (fun _ _ => false) (fun _ _ => false) (fun _ _ => false) (fun _ _ => false) (fun _ => false) false (fun _ _ _ _ => false) x
def onTup (x : AV) (f : List AV → Bool) : Bool := AV.rec (motive_1 := fun _ => Bool) (motive_2 := fun _ => Bool) (fun _ => false) (fun _ _ => false) (fun _ => false) false (fun _ _ => false) false (fun _ _ _ _ _ => false) (fun _ _ _ _ => false) false (fun _ => false) false (fun _ => false) false (fun _ _ _ _ _ => false) false (fun _ _ _ => false) (fun _ _ => false) (fun x0 _ => f x0) (fun _ _ => false) (fun _ _ => false) (fun _ _ => false) (fun _ => false) false (fun _ _ _ _ => false) x
def onB (x : AV) (p q : Bool) : Bool := AV.rec (motive_1 := fun _ => Bool) (motive_2 := fun _ => Bool) (fun b => Bool.rec (motive := fun _ => Bool) q p b) (fun _ _ => false) (fun _ => false) false (fun _ _ => false) false (fun _ _ _ _ _ => false) (fun _ _ _ _ => false) false (fun _ => false) false (fun _ => false) false (fun _ _ _ _ _ => false) false (fun _ _ _ => false) (fun _ _ => false) (fun _ _ => false) (fun _ _ => false) (fun _ _ => false) (fun _ _ => false) (fun _ => false) false (fun _ _ _ _ => false) x
def isLan (x : AV) : Bool := AV.rec (motive_1 := fun _ => Bool) (motive_2 := fun _ => Bool) (fun _ => false) (fun _ _ => false) (fun _ => false) false (fun _ _ => false) false (fun _ _ _ _ _ => false) (fun _ _ _ _ => false) false (fun _ => false) false (fun _ => false) false (fun _ _ _ _ _ => false) false (fun _ _ _ => false) (fun _ _ => false) (fun _ _ => false) (fun _ _ => true) (fun _ _ => false) (fun _ _ => false) (fun _ => false) false (fun _ _ _ _ => false) x
def isSls (x : AV) : Bool := AV.rec (motive_1 := fun _ => Bool) (motive_2 := fun _ => Bool) (fun _ => false) (fun _ _ => false) (fun _ => false) false (fun _ _ => false) false (fun _ _ _ _ _ => false) (fun _ _ _ _ => false) false (fun _ => false) false (fun _ => false) false (fun _ _ _ _ _ => false) false (fun _ _ _ => false) (fun _ _ => false) (fun _ _ => false) (fun _ _ => false) (fun _ _ => true) (fun _ _ => false) (fun _ => false) false (fun _ _ _ _ => false) x
def isPtrA (x : AV) : Bool := AV.rec (motive_1 := fun _ => Bool) (motive_2 := fun _ => Bool) (fun _ => false) (fun _ _ => false) (fun _ => false) false (fun _ _ => true) false (fun _ _ _ _ _ => false) (fun _ _ _ _ => false) false (fun _ => false) false (fun _ => false) false (fun _ _ _ _ _ => false) false (fun _ _ _ => false) (fun _ _ => false) (fun _ _ => false) (fun _ _ => false) (fun _ _ => false) (fun _ _ => false) (fun _ => false) false (fun _ _ _ _ => false) x
def lenF (x : AV) (f : Nat → Bool) : Bool := AV.rec (motive_1 := fun _ => Bool) (motive_2 := fun _ => Bool) (fun _ => false) (fun _ _ => false) (fun _ => false) false (fun _ _ => false) (f 0) (fun _ _ n _ _ => f n) (fun _ _ _ _ => f 0) false (fun _ => false) false (fun _ => false) false (fun _ _ _ _ _ => false) false (fun _ _ _ => false) (fun _ _ => false) (fun _ _ => false) (fun _ _ => false) (fun _ _ => false) (fun _ _ => false) (fun _ => false) false (fun _ _ _ _ => false) x
def onSlc (x : AV) (f : Nat → Nat → Nat → Bool) : Bool := AV.rec (motive_1 := fun _ => Bool) (motive_2 := fun _ => Bool) (fun _ => false) (fun _ _ => false) (fun _ => false) false (fun _ _ => false) false (fun b o n _ _ => f b o n) (fun _ _ _ _ => false) false (fun _ => false) false (fun _ => false) false (fun _ _ _ _ _ => false) false (fun _ _ _ => false) (fun _ _ => false) (fun _ _ => false) (fun _ _ => false) (fun _ _ => false) (fun _ _ => false) (fun _ => false) false (fun _ _ _ _ => false) x
def onFn (x : AV) (f : Fn → List AV → List AV → Bool) : Bool := AV.rec (motive_1 := fun _ => Bool) (motive_2 := fun _ => Bool) (fun _ => false) (fun _ _ => false) (fun _ => false) false (fun _ _ => false) false (fun _ _ _ _ _ => false) (fun _ _ _ _ => false) false (fun _ => false) false (fun _ => false) false (fun x0 x1 x2 _ _ => f x0 x1 x2) false (fun _ _ _ => false) (fun _ _ => false) (fun _ _ => false) (fun _ _ => false) (fun _ _ => false) (fun _ _ => false) (fun _ => false) false (fun _ _ _ _ => false) x
def onNat (n : Int) (f : Nat → Bool) (z : Bool) : Bool := Int.rec (motive := fun _ => Bool) f (fun _ => z) n
abbrev CallZ := Nat → List AV → S → (AV → S → Bool) → Bool
structure Cx where
  cf : CallZ
  cd : CallZ
  dfr : Bool
abbrev TF (d : Nat) := TT AV d
/-- An operation, made ready: frames' trees and memory. -/
structure OF (d : Nat) where
  run : Cx → TF d → S → (TF d → S → Bool) → Bool
/-- A piece of code, made ready. -/
structure KF (d : Nat) where
  run : Cx → TF d → List DefA → S → (X → TF d → List DefA → S → Bool) → Bool
/-- Operands. -/
structure GF (d : Nat) where
  run : TF d → AV
structure AG (d : Nat) where
  run : TF d → List AV
def dum : CallF := fun _ _ _ => .no ""
def selH (b : Nat) : Sel (Option AO) 6 := Bool.rec (motive := fun _ => Sel (Option AO) 6) ⟨fun _ => none⟩ (sel 6 b) (Nat.ble (Nat.succ b) (nat_lit 262144))
def putH (b : Nat) : Put (Option AO) 6 := Bool.rec (motive := fun _ => Put (Option AO) 6) ⟨fun _ _ _ => false⟩ (put 6 b) (Nat.ble (Nat.succ b) (nat_lit 262144))
def lookF (s : S) (b : Nat) (κ : AO → S → Bool) : Bool :=
  S.rec (motive := fun _ => Bool) (fun h n r w => Sel.rec (motive := fun _ => Bool) (fun f => Option.rec (motive := fun _ => Bool) false (fun a => κ a (S.mk h n (b :: r) w)) (f h.t)) (selH b)) s
def newF (s : S) (a : AO) (κ : Nat → S → Bool) : Bool :=
  S.rec (motive := fun _ => Bool) (fun h n r w => Put.rec (motive := fun _ => Bool) (fun f => f (some a) h.t fun t => κ n (S.mk (Tr.mk t h.o) (Nat.succ n) r w)) (putH n)) s
def drop8 (l : List AV) : List AV := (List.rec (motive := fun _ => List AV) [] (fun _ t _ => (List.rec (motive := fun _ => List AV) [] (fun _ t _ => (List.rec (motive := fun _ => List AV) [] (fun _ t _ => (List.rec (motive := fun _ => List AV) [] (fun _ t _ => (List.rec (motive := fun _ => List AV) [] (fun _ t _ => (List.rec (motive := fun _ => List AV) [] (fun _ t _ => (List.rec (motive := fun _ => List AV) [] (fun _ t _ => (List.rec (motive := fun _ => List AV) [] (fun _ t _ => t) t)) t)) t)) t)) t)) t)) t)) l)
def dropA (n : Nat) : List AV → List AV := Nat.rec (motive := fun _ => List AV → List AV) (fun l => l) (fun _ ih l => List.rec (motive := fun _ => List AV) [] (fun _ t _ => ih t) l) n
def dropB (n : Nat) : List AV → List AV := Nat.rec (motive := fun _ => List AV → List AV) (fun l => l) (fun _ ih l => ih (drop8 l)) n
def dropN (n : Nat) (l : List AV) : List AV := dropA (Nat.mod n (nat_lit 8)) (dropB (Nat.div n (nat_lit 8)) l)
def takeF (n : Nat) : List AV → (List AV → Bool) → Bool := Nat.rec (motive := fun _ => List AV → (List AV → Bool) → Bool) (fun _ k => k []) (fun _ ih l k => List.rec (motive := fun _ => Bool) false (fun a t _ => ih t fun t => k (a :: t)) l) n
def put1 (x : AV) (n : Nat) : List AV → (List AV → Bool) → Bool := Nat.rec (motive := fun _ => List AV → (List AV → Bool) → Bool) (fun l k => List.rec (motive := fun _ => Bool) false (fun _ t _ => k (x :: t)) l) (fun _ ih l k => List.rec (motive := fun _ => Bool) false (fun a t _ => ih t fun t => k (a :: t)) l) n
def overF (x : List AV) : List AV → (List AV → Bool) → Bool := List.rec (motive := fun _ => List AV → (List AV → Bool) → Bool) (fun c k => k c) (fun a _ ih c k => List.rec (motive := fun _ => Bool) false (fun _ t _ => ih t fun t => k (a :: t)) c) x
def putN (x : List AV) (n : Nat) : List AV → (List AV → Bool) → Bool := Nat.rec (motive := fun _ => List AV → (List AV → Bool) → Bool) (fun l k => overF x l k) (fun _ ih l k => List.rec (motive := fun _ => Bool) false (fun a t _ => ih t fun t => k (a :: t)) l) n
def onAny (o : AO) (f : List AV → Nat → Bool) (q : TT AV 3 → Nat → Bool) : Bool := AO.rec (motive := fun _ => Bool) f (fun _ _ => false) (fun _ _ _ _ _ => false) false (fun g => Big.rec (motive := fun _ => Bool) q g) o
def subF (n : Nat) : Nat → TT AV 3 → (List AV → Bool) → Bool := Nat.rec (motive := fun _ => Nat → TT AV 3 → (List AV → Bool) → Bool) (fun _ _ k => k []) (fun _ ih off t k => Sel.rec (motive := fun _ => Bool) (fun f => ih (Nat.succ off) t fun l => k (List.cons (f t) l)) (sel 3 off)) n
def fillF (l : List AV) : Nat → TT AV 3 → (TT AV 3 → Bool) → Bool := List.rec (motive := fun _ => Nat → TT AV 3 → (TT AV 3 → Bool) → Bool) (fun _ t k => k t) (fun a _ ih i t k => Put.rec (motive := fun _ => Bool) (fun f => f a t fun t => ih (Nat.succ i) t k) (put 3 i)) l
def load1 (b off : Nat) (s : S) (κ : AV → S → Bool) : Bool := lookF s b fun o s => onAny o (fun c _ => List.rec (motive := fun _ => Bool) false (fun v _ _ => κ v s) (dropN off c)) (fun t m => Bool.rec (motive := fun _ => Bool) false (Sel.rec (motive := fun _ => Bool) (fun f => κ (f t) s) (sel 3 off)) (Nat.ble (Nat.succ off) m))
def loadG (n b off : Nat) (s : S) (κ : AV → S → Bool) : Bool := lookF s b fun o s => onAny o (fun c _ => takeF n (dropN off c) fun l => κ (.agg l) s) (fun t m => Bool.rec (motive := fun _ => Bool) false (subF n off t fun l => κ (.agg l) s) (Nat.ble (Nat.add off n) m))
def plainF (x : AV) : Bool := AV.rec (motive_1 := fun _ => Bool) (motive_2 := fun _ => Bool) (fun _ => true) (fun _ _ => true) (fun _ => true) true (fun _ _ => true) true (fun _ _ _ _ _ => true) (fun _ _ _ _ => true) true (fun _ => true) true (fun _ => true) true (fun _ _ _ _ _ => true) true (fun _ _ _ => true) (fun _ _ => false) (fun _ _ => false) (fun _ _ => true) (fun _ _ => true) (fun _ _ => true) (fun _ => true) true (fun _ _ _ _ => true) x
def cellsF (x : AV) (f : List AV → Bool) : Bool := AV.rec (motive_1 := fun _ => Bool) (motive_2 := fun _ => Bool) (fun _ => false) (fun _ _ => false) (fun _ => false) false (fun _ _ => false) false (fun _ _ _ _ _ => false) (fun _ _ _ _ => false) false (fun _ => false) false (fun _ => false) false (fun _ _ _ _ _ => false) false (fun _ _ _ => false) (fun x0 _ => f x0) (fun _ _ => false) (fun _ _ => false) (fun _ _ => false) (fun _ _ => false) (fun _ => false) false (fun _ _ _ _ => false) x
def plains (l : List AV) : Bool := List.rec (motive := fun _ => Bool) true (fun a _ ih => Bool.rec (motive := fun _ => Bool) false ih (plainF a)) l
/-- A block's row is turned. -/
def rowF (s : S) (b : Nat) (m : List AV → (List AV → Bool) → Bool) (mb : TT AV 3 → Nat → (TT AV 3 → Bool) → Bool) (κ : S → Bool) : Bool :=
  S.rec (motive := fun _ => Bool) (fun h n r w => Sel.rec (motive := fun _ => Bool) (fun f => Option.rec (motive := fun _ => Bool) false (fun a => onAny a (fun c p => m c fun c =>
    Put.rec (motive := fun _ => Bool) (fun f => f (some (.row c p)) h.t fun t => κ (S.mk (Tr.mk t h.o) n (b :: r) (b :: w))) (putH b))
    (fun u i => mb u i fun u => Put.rec (motive := fun _ => Bool) (fun f => f (some (.big (Big.mk u i))) h.t fun t => κ (S.mk (Tr.mk t h.o) n (b :: r) (b :: w))) (putH b))) (f h.t)) (selH b)) s
def store1 (b off : Nat) (x : AV) (s : S) (κ : S → Bool) : Bool := Bool.rec (motive := fun _ => Bool) false (rowF s b (put1 x off) (fun u i k => Bool.rec (motive := fun _ => Bool) false (Bool.rec (motive := fun _ => Bool) false (Put.rec (motive := fun _ => Bool) (fun f => f x u k) (put 3 off)) (Nat.ble i 512)) (Nat.ble (Nat.succ off) i)) κ) (plainF x)
def storeG (sz b off : Nat) (x : AV) (s : S) (κ : S → Bool) : Bool := cellsF x fun l => Bool.rec (motive := fun _ => Bool) false (Bool.rec (motive := fun _ => Bool) false (rowF s b (putN l off) (fun u i k => Bool.rec (motive := fun _ => Bool) false (Bool.rec (motive := fun _ => Bool) false (fillF l off u k) (Nat.ble i 512)) (Nat.ble (Nat.add off l.length) i)) κ) (plains l)) (Nat.beq l.length sz)
section
variable (P : Program) (d nt : Nat)
def opnd (o : Operand) : GF d := match o with
  | .tmp i => cond (Nat.blt i (8 ^ d)) (Sel.rec (motive := fun _ => GF d) (fun f => ⟨f⟩) (sel d i)) ⟨fun _ => undefA⟩
  | .const v => (match ofV v with | some a => ⟨fun _ => a⟩ | none => ⟨fun _ => undefA⟩)
  | .global _ => ⟨fun _ => undefA⟩
  | .func f => ⟨fun _ => .fn (.func f) [] []⟩
def opndOk (o : Operand) : Bool := match o with
  | .tmp _ => true
  | .const v => (ofV v).isSome
  | .global _ => false
  | .func _ => true
def opnds : List Operand → AG d
  | [] => ⟨fun _ => []⟩
  | o :: l => GF.rec (motive := fun _ => AG d) (fun f => AG.rec (motive := fun _ => AG d) (fun g => ⟨fun t => f t :: g t⟩) (opnds l)) (opnd d o)
def dstP (dst : Option Nat) : Put AV d := match dst with
  | none => ⟨fun _ t k => k t⟩
  | some j => cond (Nat.blt j nt) (put d j) ⟨fun _ t k => k t⟩
def noO : OF d := ⟨fun _ _ _ _ => false⟩
/-- An operation as the plain evaluator has it. -/
def slowO (o : Oper) : OF d :=
  AG.rec (motive := fun _ => OF d) (fun g => Put.rec (motive := fun _ => OF d) (fun p => OK.rec (motive := fun _ => OF d) (fun run => ⟨fun _ t s k => Rs.rec (motive := fun _ => Bool) (fun _ => false) (fun v s => p v t fun t => k t s) (run dum (g t) s)⟩) (opK P o.op)) (dstP d nt o.dst)) (opnds d o.op.operands.toList)
def slowB (op : BinOp) (x y : AV) (κ : AV → Bool) : Bool := Option.rec (motive := fun _ => Bool) false κ (binA op x y)
def addI (x y : AV) (κ : AV → Bool) : Bool := onI64 x fun a => onI64 y fun b => Int.rec (motive := fun _ => Bool) (fun a => Int.rec (motive := fun _ => Bool) (fun b => Bool.rec (motive := fun _ => Bool) (slowB .add x y κ) (κ (.int .i64 (.ofNat (Nat.add a b)))) (Nat.ble (Nat.add a b) (nat_lit 9223372036854775807))) (fun _ => slowB .add x y κ) b) (fun _ => slowB .add x y κ) a
def subI (x y : AV) (κ : AV → Bool) : Bool := onI64 x fun a => onI64 y fun b => Int.rec (motive := fun _ => Bool) (fun a => Int.rec (motive := fun _ => Bool) (fun b => Bool.rec (motive := fun _ => Bool) (slowB .sub x y κ) (Bool.rec (motive := fun _ => Bool) (slowB .sub x y κ) (κ (.int .i64 (.ofNat (Nat.sub a b)))) (Nat.ble a (nat_lit 9223372036854775807))) (Nat.ble b a)) (fun _ => slowB .sub x y κ) b) (fun _ => slowB .sub x y κ) a
def cmpI (op : BinOp) (f : Nat → Nat → Bool) (x y : AV) (κ : AV → Bool) : Bool := onI64 x fun a => onI64 y fun b => Int.rec (motive := fun _ => Bool) (fun a => Int.rec (motive := fun _ => Bool) (fun b => κ (.bool (f a b))) (fun _ => slowB op x y κ) b) (fun _ => slowB op x y κ) a
def kIdx (k : IntKind) : Nat := IntKind.rec (motive := fun _ => Nat) (nat_lit 0) (nat_lit 1) (nat_lit 2) (nat_lit 3) (nat_lit 4) (nat_lit 5) (nat_lit 6) (nat_lit 7) k
def kLim (k : IntKind) : Nat := IntKind.rec (motive := fun _ => Nat) (nat_lit 128) (nat_lit 32768) (nat_lit 2147483648) (nat_lit 9223372036854775808) (nat_lit 256) (nat_lit 65536) (nat_lit 4294967296) (nat_lit 18446744073709551616) k
/-- Two numbers, neither below nought, of one kind. -/
def twoI (x y : AV) (f : IntKind → Nat → Nat → Bool) (slow : Bool) : Bool := onInt x fun k a => onInt y fun k' b => Int.rec (motive := fun _ => Bool) (fun a => Int.rec (motive := fun _ => Bool) (fun b => Bool.rec (motive := fun _ => Bool) slow (f k a b) (Nat.beq (kIdx k) (kIdx k'))) (fun _ => slow) b) (fun _ => slow) a
def addG (x y : AV) (κ : AV → Bool) : Bool := twoI x y (fun k a b => Bool.rec (motive := fun _ => Bool) (slowB .add x y κ) (κ (.int k (.ofNat (Nat.add a b)))) (Nat.ble (Nat.succ (Nat.add a b)) (kLim k))) (slowB .add x y κ)
def subG (x y : AV) (κ : AV → Bool) : Bool := twoI x y (fun k a b => Bool.rec (motive := fun _ => Bool) (slowB .sub x y κ) (Bool.rec (motive := fun _ => Bool) (slowB .sub x y κ) (κ (.int k (.ofNat (Nat.sub a b)))) (Nat.ble (Nat.succ a) (kLim k))) (Nat.ble b a)) (slowB .sub x y κ)
def mulG (x y : AV) (κ : AV → Bool) : Bool := twoI x y (fun k a b => Bool.rec (motive := fun _ => Bool) (slowB .mul x y κ) (κ (.int k (.ofNat (Nat.mul a b)))) (Nat.ble (Nat.succ (Nat.mul a b)) (kLim k))) (slowB .mul x y κ)
def bitG (op : BinOp) (g : Nat → Nat → Nat) (x y : AV) (κ : AV → Bool) : Bool := twoI x y (fun k a b => Bool.rec (motive := fun _ => Bool) (slowB op x y κ) (Bool.rec (motive := fun _ => Bool) (slowB op x y κ) (κ (.int k (.ofNat (g a b)))) (Nat.ble (Nat.succ b) (kLim k))) (Nat.ble (Nat.succ a) (kLim k))) (slowB op x y κ)
def divG (x y : AV) (κ : AV → Bool) : Bool := twoI x y (fun k a b => Bool.rec (motive := fun _ => Bool) (slowB .quo x y κ) (Bool.rec (motive := fun _ => Bool) false (κ (.int k (.ofNat (Nat.div a b)))) (Nat.ble (nat_lit 1) b)) (Nat.ble (Nat.succ a) (kLim k))) (slowB .quo x y κ)
def remG (x y : AV) (κ : AV → Bool) : Bool := twoI x y (fun k a b => Bool.rec (motive := fun _ => Bool) false (κ (.int k (.ofNat (Nat.mod a b)))) (Nat.ble (nat_lit 1) b)) (slowB .rem x y κ)
def shrG (x y : AV) (κ : AV → Bool) : Bool := onInt x fun k a => onInt y fun _ b => Int.rec (motive := fun _ => Bool) (fun a => Int.rec (motive := fun _ => Bool) (fun b => Bool.rec (motive := fun _ => Bool) (slowB .shr x y κ) (κ (.int k (.ofNat (Nat.div a (Nat.pow (nat_lit 2) b))))) (Nat.ble (Nat.succ a) (kLim k))) (fun _ => slowB .shr x y κ) b) (fun _ => slowB .shr x y κ) a
def cmpG (op : BinOp) (f : Nat → Nat → Bool) (x y : AV) (κ : AV → Bool) : Bool := twoI x y (fun _ a b => κ (.bool (f a b))) (slowB op x y κ)
structure BF where
  run : AV → AV → (AV → Bool) → Bool
def notF (b : Bool) : Bool := Bool.rec (motive := fun _ => Bool) true false b
def binF (op : BinOp) : BF := match op with
  | .add => ⟨addI⟩
  | .sub => ⟨subI⟩
  | .eql => ⟨cmpI .eql Nat.beq⟩
  | .neq => ⟨cmpI .neq fun a b => notF (Nat.beq a b)⟩
  | .lss => ⟨cmpI .lss fun a b => Nat.ble (Nat.succ a) b⟩
  | .leq => ⟨cmpI .leq Nat.ble⟩
  | .gtr => ⟨cmpI .gtr fun a b => Nat.ble (Nat.succ b) a⟩
  | .geq => ⟨cmpI .geq fun a b => Nat.ble b a⟩
  | .mul => ⟨mulG⟩
  | .quo => ⟨divG⟩
  | .rem => ⟨remG⟩
  | .and => ⟨bitG .and Nat.land⟩
  | .or => ⟨bitG .or Nat.lor⟩
  | .xor => ⟨bitG .xor Nat.xor⟩
  | .shr => ⟨shrG⟩
  | op => ⟨slowB op⟩
def binH (op : BinOp) : BF := match op with
  | .add => ⟨addG⟩
  | .sub => ⟨subG⟩
  | .eql => ⟨cmpG .eql Nat.beq⟩
  | .neq => ⟨cmpG .neq fun a b => notF (Nat.beq a b)⟩
  | .lss => ⟨cmpG .lss fun a b => Nat.ble (Nat.succ a) b⟩
  | .leq => ⟨cmpG .leq Nat.ble⟩
  | .gtr => ⟨cmpG .gtr fun a b => Nat.ble (Nat.succ b) a⟩
  | .geq => ⟨cmpG .geq fun a b => Nat.ble b a⟩
  | .mul => ⟨mulG⟩
  | .quo => ⟨divG⟩
  | .rem => ⟨remG⟩
  | .and => ⟨bitG .and Nat.land⟩
  | .or => ⟨bitG .or Nat.lor⟩
  | .xor => ⟨bitG .xor Nat.xor⟩
  | .shr => ⟨shrG⟩
  | op => ⟨slowB op⟩
/-- Lanes aside. -/
def lanB (op : BinOp) (f : AV → AV → (AV → Bool) → Bool) (x y : AV) (κ : AV → Bool) : Bool := Bool.rec (motive := fun _ => Bool) (Bool.rec (motive := fun _ => Bool) (f x y κ) (slowB op x y κ) (isLan y)) (slowB op x y κ) (isLan x)
def lanF (op : BinOp) (b : BF) : BF := BF.rec (motive := fun _ => BF) (fun f => ⟨lanB op f⟩) b
def moveO (x : Operand) (dst : Option Nat) : OF d :=
  GF.rec (motive := fun _ => OF d) (fun f => Put.rec (motive := fun _ => OF d) (fun p => ⟨fun _ t s k => p (f t) t fun t => k t s⟩) (dstP d nt dst)) (opnd d x)
def binO (i64 : Bool) (op : BinOp) (x y : Operand) (dst : Option Nat) : OF d :=
  GF.rec (motive := fun _ => OF d) (fun f => GF.rec (motive := fun _ => OF d) (fun g => Put.rec (motive := fun _ => OF d) (fun p => BF.rec (motive := fun _ => OF d) (fun b => ⟨fun _ t s k => b (f t) (g t) fun v => p v t fun t => k t s⟩) (lanF op (cond i64 (binF op) (binH op)))) (dstP d nt dst)) (opnd d y)) (opnd d x)
def fieldO (off : Nat) (x : Operand) (dst : Option Nat) : OF d :=
  GF.rec (motive := fun _ => OF d) (fun f => Put.rec (motive := fun _ => OF d) (fun p => ⟨fun _ t s k => onPtr (f t) fun b o => p (.ptr b (Nat.add o off)) t fun t => k t s⟩) (dstP d nt dst)) (opnd d x)
def loadO (ag : Bool) (sz : Nat) (x : Operand) (dst : Option Nat) : OF d :=
  GF.rec (motive := fun _ => OF d) (fun f => Put.rec (motive := fun _ => OF d) (fun p => cond ag
    ⟨fun _ t s k => onPtr (f t) fun b o => loadG sz b o s fun v s => p v t fun t => k t s⟩
    ⟨fun _ t s k => onPtr (f t) fun b o => load1 b o s fun v s => p v t fun t => k t s⟩) (dstP d nt dst)) (opnd d x)
def storeO (ag : Bool) (sz : Nat) (x y : Operand) (dst : Option Nat) : OF d :=
  GF.rec (motive := fun _ => OF d) (fun f => GF.rec (motive := fun _ => OF d) (fun g => Put.rec (motive := fun _ => OF d) (fun p => cond ag
    ⟨fun _ t s k => onPtr (f t) fun b o => storeG sz b o (g t) s fun s => p undefA t fun t => k t s⟩
    ⟨fun _ t s k => onPtr (f t) fun b o => store1 b o (g t) s fun s => p undefA t fun t => k t s⟩) (dstP d nt dst)) (opnd d y)) (opnd d x)
def nilO (o : Oper) (x : Operand) : OF d :=
  GF.rec (motive := fun _ => OF d) (fun f => Put.rec (motive := fun _ => OF d) (fun p => OF.rec (motive := fun _ => OF d) (fun slow => ⟨fun c t s k => Bool.rec (motive := fun _ => Bool) (slow c t s k) (p (f t) t fun t => k t s) (isPtrA (f t))⟩) (slowO P d nt o)) (dstP d nt o.dst)) (opnd d x)
def pickO (x y z : Operand) (dst : Option Nat) : OF d :=
  GF.rec (motive := fun _ => OF d) (fun f => GF.rec (motive := fun _ => OF d) (fun g => GF.rec (motive := fun _ => OF d) (fun h => Put.rec (motive := fun _ => OF d) (fun p => ⟨fun _ t s k => onB (f t) (p (g t) t fun t => k t s) (p (h t) t fun t => k t s)⟩) (dstP d nt dst)) (opnd d z)) (opnd d y)) (opnd d x)
def idxO (size : Nat) (x y : Operand) (dst : Option Nat) : OF d :=
  GF.rec (motive := fun _ => OF d) (fun f => GF.rec (motive := fun _ => OF d) (fun g => Put.rec (motive := fun _ => OF d) (fun p => ⟨fun _ t s k => onSlc (f t) fun b o n => onInt (g t) fun _ i => Int.rec (motive := fun _ => Bool) (fun i => Bool.rec (motive := fun _ => Bool) false (p (.ptr b (Nat.add o (Nat.mul i size))) t fun t => k t s) (Nat.ble (Nat.succ i) n)) (fun _ => false) i⟩) (dstP d nt dst)) (opnd d y)) (opnd d x)
def lenO (x : Operand) (dst : Option Nat) : OF d :=
  GF.rec (motive := fun _ => OF d) (fun f => Put.rec (motive := fun _ => OF d) (fun p => ⟨fun _ t s k => lenF (f t) fun n => p (.int .i64 (.ofNat n)) t fun t => k t s⟩) (dstP d nt dst)) (opnd d x)
def extO (i : Nat) (x : Operand) (dst : Option Nat) : OF d :=
  GF.rec (motive := fun _ => OF d) (fun f => Put.rec (motive := fun _ => OF d) (fun p => ⟨fun _ t s k => onTup (f t) fun l => List.rec (motive := fun _ => Bool) false (fun v _ _ => p v t fun t => k t s) (dropN i l)⟩) (dstP d nt dst)) (opnd d x)
def newO (bg : Bool) (z : List AV) (dst : Option Nat) : OF d :=
  Put.rec (motive := fun _ => OF d) (fun p => cond bg ⟨fun _ t s k => newF s (rowOf true z) fun b s => p (.ptr b 0) t fun t => k t s⟩ ⟨fun _ t s k => newF s (.row z 0) fun b s => p (.ptr b 0) t fun t => k t s⟩) (dstP d nt dst)
def boxO (bg : Bool) (x : Operand) (dst : Option Nat) : OF d :=
  GF.rec (motive := fun _ => OF d) (fun f => Put.rec (motive := fun _ => OF d) (fun p => cond bg ⟨fun _ t s k => newF s (rowOf true (f t).cells) fun b s => p (.ptr b 0) t fun t => k t s⟩ ⟨fun _ t s k => newF s (.row (f t).cells 0) fun b s => p (.ptr b 0) t fun t => k t s⟩) (dstP d nt dst)) (opnd d x)
def callO (f : Nat) (args : List Operand) (dst : Option Nat) : OF d :=
  AG.rec (motive := fun _ => OF d) (fun g => Put.rec (motive := fun _ => OF d) (fun p => ⟨fun c t s k => Cx.rec (motive := fun _ => Bool) (fun cf _ _ => cf f (g t) s fun v s => p v t fun t => k t s) c⟩) (dstP d nt dst)) (opnds d args)
def callM (cf : CallZ) (recv : AV) (name : String) (args : List AV) (s : S) (κ : AV → S → Bool) : Bool := match recv with
  | .ifc t v => (match (methodK P t name).f with | some f => cf f (v :: args) s κ | none => false)
  | _ => false
def callV (cf : CallZ) (f : AV) (args : List AV) (s : S) (κ : AV → S → Bool) : Bool := match f with
  | .fn (.func g) fst cap => cf g (fst ++ (args ++ cap)) s κ
  | .fn (.method name) fst _ => (match fst ++ args with | r :: l => callM P cf r name l s κ | [] => false)
  | _ => false
def callVO (x : Operand) (args : List Operand) (dst : Option Nat) : OF d :=
  GF.rec (motive := fun _ => OF d) (fun f => AG.rec (motive := fun _ => OF d) (fun g => Put.rec (motive := fun _ => OF d) (fun p => ⟨fun c t s k => Cx.rec (motive := fun _ => Bool) (fun cf _ _ => callV P cf (f t) (g t) s fun v s => p v t fun t => k t s) c⟩) (dstP d nt dst)) (opnds d args)) (opnd d x)
def callIO (x : Operand) (name : String) (args : List Operand) (dst : Option Nat) : OF d :=
  GF.rec (motive := fun _ => OF d) (fun f => AG.rec (motive := fun _ => OF d) (fun g => Put.rec (motive := fun _ => OF d) (fun p => ⟨fun c t s k => Cx.rec (motive := fun _ => Bool) (fun cf _ _ => callM P cf (f t) name (g t) s fun v s => p v t fun t => k t s) c⟩) (dstP d nt dst)) (opnds d args)) (opnd d x)
def convO (q : IntKind) (x : Operand) (slow : OF d) (dst : Option Nat) : OF d :=
  GF.rec (motive := fun _ => OF d) (fun f => Put.rec (motive := fun _ => OF d) (fun p => OF.rec (motive := fun _ => OF d) (fun slow => ⟨fun c t s k => Bool.rec (motive := fun _ => Bool) (onInt (f t) fun _ a => Int.rec (motive := fun _ => Bool) (fun a => Bool.rec (motive := fun _ => Bool) (slow c t s k) (p (.int q (.ofNat a)) t fun t => k t s) (Nat.ble (Nat.succ a) (kLim q))) (fun _ => slow c t s k) a) (slow c t s k) (isLan (f t))⟩) slow) (dstP d nt dst)) (opnd d x)
def notO (x : Operand) (dst : Option Nat) : OF d :=
  GF.rec (motive := fun _ => OF d) (fun f => Put.rec (motive := fun _ => OF d) (fun p => ⟨fun _ t s k => onB (f t) (p (.bool false) t fun t => k t s) (p (.bool true) t fun t => k t s)⟩) (dstP d nt dst)) (opnd d x)
def rcvO (dst : Option Nat) : OF d :=
  Put.rec (motive := fun _ => OF d) (fun p => ⟨fun c t s k => Cx.rec (motive := fun _ => Bool) (fun _ _ b => Bool.rec (motive := fun _ => Bool) false (p .nili t fun t => k t s) b) c⟩) (dstP d nt dst)
def isIntT (t : Nat) : Bool := match P.underlying t with | some (.int .i64) => true | _ => false
def isAnyIntT (t : Nat) : Bool := match P.underlying t with | some (.int _) => true | _ => false
/-- An operation, its guard aside. -/
def bareO (o : Oper) : OF d := match o.op with
  | .move x | .assign x => moveO d nt x o.dst
  | .pick x y z => pickO d nt x y z o.dst
  | .alloc e => (match zeroT P e with | some z => newO d nt (bigT P e) z.cells o.dst | none => noO d)
  | .box e x => boxO d nt (bigT P e) x o.dst
  | .binOp op t x y _ => cond (isAnyIntT P t) (binO d nt (isIntT P t) op x y o.dst) (slowO P d nt o)
  | .fieldAddr t x f => (match P.underlying t with
    | some (.struct fs) => (match fs[f]? with
      | some q => cond (tyOk P q.type && !(Nat.beq (sizeT P q.type) 0)) (fieldO d nt q.offset x o.dst) (noO d)
      | none => noO d)
    | _ => noO d)
  | .load t x => cond (tyOk P t) (loadO d nt (isAggT P t) (sizeT P t) x o.dst) (noO d)
  | .store t x y => cond (tyOk P t) (storeO d nt (!(Nat.beq (sizeT P t) 1) || isAggT P t) (sizeT P t) x y o.dst) (noO d)
  | .nilCheck x => nilO P d nt o x
  | .convert a b x => (match P.underlying a, P.underlying b with
    | some (.int _), some (.int q) => convO d nt q x (slowO P d nt o) o.dst
    | _, _ => slowO P d nt o)
  | .unOp .not _ x => notO d nt x o.dst
  | .indexAddr t x y => (match P.underlying t with
    | some (.slice e) => cond (tyOk P e) (idxO d nt (sizeT P e) x y o.dst) (noO d)
    | _ => slowO P d nt o)
  | .extract x i => extO d nt i x o.dst
  | .call c => (match c.callee with
    | .value (.func f) => callO d nt f c.args.toList o.dst
    | .value x => callVO P d nt x c.args.toList o.dst
    | .invoke x name => callIO P d nt x name c.args.toList o.dst
    | .builtin .recover => rcvO d nt o.dst
    | .builtin .len => (match c.argTypes.toList, c.args.toList with
      | [ty], [x] => (match P.underlying ty with | some (.slice _) => lenO d nt x o.dst | _ => slowO P d nt o)
      | _, _ => slowO P d nt o)
    | .builtin _ => slowO P d nt o)
  | _ => slowO P d nt o
def guardO (ops : Array Oper) (o : Oper) (f : OF d) : OF d := match o.guard with
  | none => f
  | some (j, want) => (match (ops[j]?).bind (·.dst) with
    | some i => OF.rec (motive := fun _ => OF d) (fun f => GF.rec (motive := fun _ => OF d) (fun g => Put.rec (motive := fun _ => OF d) (fun p => cond want ⟨fun c t s k => onB (g t) (f c t s k) (p undefA t fun t => k t s)⟩ ⟨fun c t s k => onB (g t) (p undefA t fun t => k t s) (f c t s k)⟩) (dstP d nt o.dst)) (opnd d (.tmp i))) f
    | none => noO d)
def opF (ops : Array Oper) (o : Oper) : OF d := cond (o.op.operands.toList.all opndOk) (guardO d nt ops o (bareO P d nt o)) (noO d)
/-- What is put off. -/
def dfrF (o : Oper) (c : Call) : KF d := match c.callee, o.guard with
  | .value x, none => cond (opndOk x && c.args.toList.all opndOk) (GF.rec (motive := fun _ => KF d) (fun f => AG.rec (motive := fun _ => KF d) (fun g => Put.rec (motive := fun _ => KF d) (fun p => ⟨fun _ t ds s k => onFn (f t) fun q fst cap => p undefA t fun t' => k .nrm t' (⟨q, cap, fst ++ g t⟩ :: ds) s⟩) (dstP d nt o.dst)) (opnds d c.args.toList)) (opnd d x)) ⟨fun _ _ _ _ _ => false⟩
  | _, _ => ⟨fun _ _ _ _ _ => false⟩
/-- Operations one behind another, and what comes behind them. -/
def regF (ops : Array Oper) (nx : KF d) : List Oper → KF d
  | [] => nx
  | o :: l => (match o.op with
    | .defer c => KF.rec (motive := fun _ => KF d) (fun f => KF.rec (motive := fun _ => KF d) (fun g => ⟨fun c t ds s k => f c t ds s fun _ t ds s => g c t ds s k⟩) (regF ops nx l)) (dfrF d nt o c)
    | _ => OF.rec (motive := fun _ => KF d) (fun f => KF.rec (motive := fun _ => KF d) (fun g => ⟨fun c t ds s k => f c t s fun t s => g c t ds s k⟩) (regF ops nx l)) (opF P d nt ops o))
/-- Did it turn anything, make anything? -/
def loudR (a z : Nat) (w : List Nat) : Bool := Bool.rec (motive := fun _ => Bool) true (List.rec (motive := fun _ => Bool) false (fun _ _ _ => true) w) (Nat.beq a z)
def anyN (f : Nat → Bool) (l : List Nat) : Bool := List.rec (motive := fun _ => Bool) false (fun a _ ih => Bool.rec (motive := fun _ => Bool) ih true (f a)) l
def filN (f : Nat → Bool) (l : List Nat) : List Nat := List.rec (motive := fun _ => List Nat) [] (fun a _ ih => Bool.rec (motive := fun _ => List Nat) ih (List.cons a ih) (f a)) l
def appN (l m : List Nat) : List Nat := List.rec (motive := fun _ => List Nat) m (fun a _ ih => List.cons a ih) l
def meetN (a b : List Nat) : Bool := anyN (fun i => anyN (fun j => Nat.beq i j) b) a
def withinN (a z : Nat) (l : List Nat) : Bool := Bool.rec (motive := fun _ => Bool) (anyN (fun i => Bool.rec (motive := fun _ => Bool) false (Nat.ble (Nat.succ i) z) (Nat.ble a i)) l) false (Nat.beq a z)
def outN (a z i : Nat) : Bool := Bool.rec (motive := fun _ => Bool) true (Nat.ble z i) (Nat.ble a i)
def clashN (x y : Rec) : Bool := Rec.rec (motive := fun _ => Bool) (fun a z r w => Rec.rec (motive := fun _ => Bool) (fun a' z' r' w' =>
  Bool.rec (motive := fun _ => Bool) (Bool.rec (motive := fun _ => Bool) (Bool.rec (motive := fun _ => Bool) (Bool.rec (motive := fun _ => Bool) (Bool.rec (motive := fun _ => Bool) (Bool.rec (motive := fun _ => Bool) (withinN a' z' r) true (withinN a z r')) true (withinN a' z' w)) true (withinN a z w')) true (meetN w w')) true (meetN w' r)) true (meetN w r')) y) x
/-- us: of those that are not pure, the last first. -/
def clashesN (us : List Bool) : List Rec → Rec → Bool := List.rec (motive := fun _ => List Rec → Rec → Bool) (fun _ _ => false) (fun u _ ih l y => List.rec (motive := fun _ => Bool) false (fun x l _ => Bool.rec (motive := fun _ => Bool) (ih l y) (Bool.rec (motive := fun _ => Bool) (ih l y) true (clashN x y)) u) l) us
def stepD (us : List Bool) (loud : Bool) (recs : List Rec) (a z : Nat) (r w : List Nat) (κ : Bool → Bool) : Bool := Bool.rec (motive := fun _ => Bool) (Bool.rec (motive := fun _ => Bool) (κ false) (Bool.rec (motive := fun _ => Bool) (κ true) false (clashesN us recs (Rec.mk a z r w))) (loudR a z w)) (Bool.rec (motive := fun _ => Bool) (κ true) false (clashesN us recs (Rec.mk a z r w))) loud
/-- Operations that touch no memory. -/
def pureO (o : Oper) : Bool := match o.op with
  | .move _ | .assign _ | .pick _ _ _ | .binOp _ _ _ _ _ | .unOp _ _ _ | .fieldAddr _ _ _ | .field _ _ _ | .indexAddr _ _ _ | .index _ _ _ | .nilCheck _ | .extract _ _ | .makeInterface _ _ | .makeFunc _ _ _ | .build _ _ | .typeAssert _ _ _ _ => true
  | .call c => (match c.callee, c.argTypes.toList with
    | .builtin .cap, _ | .builtin .max, _ | .builtin .min, _ | .builtin .recover, _ => true
    | .builtin .len, [ty] => (match P.underlying ty with | some (.slice _) | some .string | some (.array _ _) => true | _ => false)
    | _, _ => false)
  | _ => false
def unordN (ops : Array Oper) (i : Nat) : VK := ⟨((((unord ops i).l.zip ops.toList).filter fun x => !(pureO P x.2)).map (·.1)).reverse⟩
structure DF (d : Nat) where
  run : Cx → TF d → S → Bool → List Rec → (TF d → S → Bool) → Bool
def drawF (ops : Array Oper) : List (Nat × Oper) → DF d
  | [] => ⟨fun _ t s _ _ k => k t s⟩
  | (i, o) :: l => OF.rec (motive := fun _ => DF d) (fun f => DF.rec (motive := fun _ => DF d) (fun g => cond (pureO P o) ⟨fun c t s loud recs k => f c t s fun t s => g c t s loud recs k⟩ (VK.rec (motive := fun _ => DF d) (fun us =>
    ⟨fun c t s loud recs k => S.rec (motive := fun _ => Bool) (fun h n r w => f c t (S.mk h n [] []) fun t s => S.rec (motive := fun _ => Bool) (fun h' n' r' w' =>
      (fun r1 w1 => stepD us loud recs n n' r1 w1 fun loud => g c t (S.mk h' n' (appN r1 r) (appN w1 w)) loud (List.cons (Rec.mk n n' r1 w1) recs) k) (filN (outN n n') r') (filN (outN n n') w')) s) s⟩)
    (unordN P ops i))) (drawF ops l)) (opF P d nt ops o)
def drawK (ops : Array Oper) (nx : KF d) : KF d := cond (drawOk ops).b (DF.rec (motive := fun _ => KF d) (fun f => KF.rec (motive := fun _ => KF d) (fun g => ⟨fun c t ds s k => f c t s false [] fun t s => g c t ds s k⟩) nx) (drawF P d nt ops (ops.toList.zipIdx.map fun (o, i) => (i, o)))) ⟨fun _ _ _ _ _ => false⟩
def endF : KF d := ⟨fun _ t ds s k => k .nrm t ds s⟩
def loopF (f : Cx → TF d → List DefA → S → (X → TF d → List DefA → S → Bool) → Bool) (n : Nat) : Cx → TF d → List DefA → S → (X → TF d → List DefA → S → Bool) → Bool :=
  Nat.rec (motive := fun _ => Cx → TF d → List DefA → S → (X → TF d → List DefA → S → Bool) → Bool) (fun _ _ _ _ _ => false)
    (fun _ ih c t ds s k => f c t ds s fun x t ds s => X.rec (motive := fun _ => Bool) (tick (ih c t ds s k)) (fun i => k (.exit i) t ds s) (k .ret t ds s) x) n
/-- A piece of code, and what comes behind it if it ends as ever. -/
def codeF (nx : KF d) : Code → KF d
  | .skip | .label _ => nx
  | .region _ ops draw => cond draw (drawK P d nt ops nx) (regF P d nt ops nx ops.toList)
  | .seq a b => codeF (codeF nx b) a
  | .cond o a b => cond (opndOk o) (GF.rec (motive := fun _ => KF d) (fun q => KF.rec (motive := fun _ => KF d) (fun f => KF.rec (motive := fun _ => KF d) (fun g => KF.rec (motive := fun _ => KF d) (fun h => ⟨fun c t ds s k => onB (q t) (f c t ds s fun x t ds s => X.rec (motive := fun _ => Bool) (h c t ds s k) (fun i => k (.exit i) t ds s) (k .ret t ds s) x) (g c t ds s fun x t ds s => X.rec (motive := fun _ => Bool) (h c t ds s k) (fun i => k (.exit i) t ds s) (k .ret t ds s) x)⟩) nx) (codeF (endF d) b)) (codeF (endF d) a)) (opnd d o)) ⟨fun _ _ _ _ _ => false⟩
  | .block id a => KF.rec (motive := fun _ => KF d) (fun f => KF.rec (motive := fun _ => KF d) (fun h => ⟨fun c t ds s k => f c t ds s fun x t ds s => X.rec (motive := fun _ => Bool) (h c t ds s k) (fun i => Bool.rec (motive := fun _ => Bool) (k (.exit i) t ds s) (h c t ds s k) (Nat.beq i id)) (k .ret t ds s) x⟩) nx) (codeF (endF d) a)
  | .loop a => KF.rec (motive := fun _ => KF d) (fun f => ⟨loopF d f 1000000⟩) (codeF (endF d) a)
  | .exit id => ⟨fun _ t ds s k => tick (k (.exit id) t ds s)⟩
  | .ret => ⟨fun _ t ds s k => k .ret t ds s⟩
  | _ => ⟨fun _ _ _ _ _ => false⟩
structure RF (d : Nat) where
  run : TF d → S → (List AV → S → Bool) → Bool
def resL : List ResultVar → RF d
  | [] => ⟨fun _ s k => k [] s⟩
  | .tmp i :: l => GF.rec (motive := fun _ => RF d) (fun f => RF.rec (motive := fun _ => RF d) (fun g => ⟨fun t s k => g t s fun vs s => k (f t :: vs) s⟩) (resL l)) (opnd d (.tmp i))
  | .cell a ty :: l => GF.rec (motive := fun _ => RF d) (fun f => RF.rec (motive := fun _ => RF d) (fun g => cond (tyOk P ty) (cond (isAggT P ty)
      ⟨fun t s k => onPtr (f t) fun b o => loadG (sizeT P ty) b o s fun v s => g t s fun vs s => k (v :: vs) s⟩
      ⟨fun t s k => onPtr (f t) fun b o => load1 b o s fun v s => g t s fun vs s => k (v :: vs) s⟩) ⟨fun _ _ _ => false⟩) (resL l)) (opnd d (.tmp a))
def oneOf (l : List AV) : AV := List.rec (motive := fun _ => AV) (.tup []) (fun v t _ => List.rec (motive := fun _ => AV) v (fun _ _ _ => .tup l) t) l
def argsF (l : List AV) : Nat → TF d → (TF d → Bool) → Bool := List.rec (motive := fun _ => Nat → TF d → (TF d → Bool) → Bool) (fun _ t k => k t) (fun a _ ih i t k => Put.rec (motive := fun _ => Bool) (fun f => f a t fun t => ih (Nat.succ i) t k) (put d i)) l
def defsF (cd : CallZ) (l : List DefA) : S → (S → Bool) → Bool := List.rec (motive := fun _ => S → (S → Bool) → Bool) (fun s k => k s) (fun q _ ih s k => (match q.f with | .func g => cd g (q.args ++ q.cap) s fun _ s => ih s k | _ => false)) l
structure FnF where
  run : Cx → List AV → S → (AV → S → Bool) → Bool
def fnD (body : Code) (res : List ResultVar) : FnF :=
  KF.rec (motive := fun _ => FnF) (fun f => RF.rec (motive := fun _ => FnF) (fun g => ⟨fun c args s κ => Bool.rec (motive := fun _ => Bool) false (argsF d args 0 (TT.all undefA d) fun t => f c t [] s fun x t ds s =>
    (fun fin => X.rec (motive := fun _ => Bool) fin (fun _ => false) fin x) (Cx.rec (motive := fun _ => Bool) (fun _ cd b => Bool.rec (motive := fun _ => Bool) (defsF cd ds s fun s => g t s fun vs s => κ (oneOf vs) s) (List.rec (motive := fun _ => Bool) (g t s fun vs s => κ (oneOf vs) s) (fun _ _ _ => false) ds) b) c)) (Nat.ble args.length nt)⟩) (resL P d res)) (codeF P d nt (endF d) body)
def fnF (f : Nat) : FnF := match P.funcs[f]? with
  | some fn => (match fn.body with
    | some c => cond (fn.name == "runtime.NumGoroutine") ⟨fun _ _ _ _ => false⟩ (cond (Nat.ble fn.ntmps 64) (fnD P 2 fn.ntmps c fn.results.toList) (cond (Nat.ble fn.ntmps 512) (fnD P 3 fn.ntmps c fn.results.toList) ⟨fun _ _ _ _ => false⟩))
    | none => ⟨fun _ _ _ _ => false⟩)
  | none => ⟨fun _ _ _ _ => false⟩
structure HF where
  run : Nat → Option FnF
def fnH (hk : Nat → Option HF) (dfr : Bool) (f : Nat) : FnF := cond dfr (fnF P f) (match hk f with
  | some q => FnF.rec (motive := fun _ => FnF) (fun g => HF.rec (motive := fun _ => FnF) (fun q => ⟨fun c args s κ => S.rec (motive := fun _ => Bool) (fun h n r w => Option.rec (motive := fun _ => Bool) (g c args (S.mk h n r w) κ) (fun q => FnF.rec (motive := fun _ => Bool) (fun q => q c args (S.mk h n r w) κ) q) (q n)) s⟩) q) (fnF P f)
  | none => fnF P f)
def runF (hk : Nat → Option HF) : Nat → Bool → CallZ
  | 0, _ => fun _ _ _ _ => false
  | n + 1, dfr => fun f args s κ => FnF.rec (motive := fun _ => Bool) (fun g => g (Cx.mk (runF hk n false) (runF hk n true) dfr) args s κ) (fnH P hk dfr f)
end
end
end Go.Ev
namespace Go.Ev
section
variable {P : Program} {d nt : Nat}
/-- A frame's tree, read. -/
def toF (t : TF d) : Nat → AV := fun i => cond (Nat.blt i (8 ^ d)) (TT.get d i t) undefA
theorem blt_true {a b : Nat} : Nat.blt a b = true ↔ a < b := ⟨fun h => Nat.le_of_ble_eq_true h, fun h => Nat.ble_eq_true_of_le h⟩
theorem blt_false {a b : Nat} : Nat.blt a b = false ↔ ¬ a < b := by
  rw [← blt_true]; cases Nat.blt a b <;> simp
theorem toF_set {j : Nat} (h : j < 8 ^ d) (v : AV) (t : TF d) : toF (TT.set d j v t) = fun i => cond (Nat.beq i j) v (toF t i) := by
  funext i
  unfold toF
  cases hi : Nat.blt i (8 ^ d) with
  | true =>
    have hi' := blt_true.mp hi
    show TT.get d i (TT.set d j v t) = cond (Nat.beq i j) v (TT.get d i t)
    rw [TT.get_set _ _ _ _ _ h hi']
    by_cases e : i = j
    · subst e; rw [if_pos rfl, Nat.beq_refl]; rfl
    · rw [if_neg e]
      cases hb : Nat.beq i j with
      | true => exact absurd (Nat.eq_of_beq_eq_true hb) e
      | false => rfl
  | false =>
    have hi' := blt_false.mp hi
    cases hb : Nat.beq i j with
    | true => exact absurd (by rw [Nat.eq_of_beq_eq_true hb]; exact h) hi'
    | false => rfl
theorem dstP_run (hnt : nt ≤ 8 ^ d) (dst : Option Nat) (v : AV) (t : TF d) : ∃ t', (∀ k, (dstP d nt dst).run v t k = k t') ∧ ∀ ds b, (⟨toF t', ds, b⟩ : Fr) = Fr.put ⟨toF t, ds, b⟩ nt dst v := by
  unfold dstP Fr.put
  cases dst with
  | none => exact ⟨t, fun _ => rfl, fun _ _ => rfl⟩
  | some j =>
    dsimp only
    cases hj : Nat.blt j nt with
    | false => exact ⟨t, fun _ => rfl, fun _ _ => rfl⟩
    | true =>
      have hj' := blt_true.mp hj
      refine ⟨TT.set d j v t, fun k => put_run d j v t k, fun ds b => ?_⟩
      show (⟨toF (TT.set d j v t), ds, b⟩ : Fr) = ⟨fun i => cond (Nat.beq i j) v (toF t i), ds, b⟩
      rw [toF_set (by omega)]
theorem opnd_run {o : Operand} (h : opndOk o = true) (t : TF d) : evO (toF t) o = some ((opnd d o).run t) := by
  cases o with
  | tmp i =>
    show some (cond (Nat.blt i (8 ^ d)) (TT.get d i t) undefA) = some ((cond (Nat.blt i (8 ^ d)) (Sel.rec (motive := fun _ => GF d) (fun f => ⟨f⟩) (sel d i)) ⟨fun _ => undefA⟩ : GF d).run t)
    cases Nat.blt i (8 ^ d) with
    | true => exact congrArg some (sel_run d i t).symm
    | false => rfl
  | const v =>
    show (constK v).v = some ((opnd d (.const v)).run t)
    unfold opndOk at h
    unfold opnd constK
    dsimp only at h ⊢
    cases hv : ofV v with
    | none => rw [hv] at h; cases h
    | some a => rfl
  | global g => cases h
  | func f => rfl
theorem opnds_run : ∀ {l : List Operand}, l.all opndOk = true → ∀ t : TF d, evs (toF t) l = some ((opnds d l).run t)
  | [], _, _ => rfl
  | o :: l, h, t => by
    simp only [List.all_cons, Bool.and_eq_true] at h
    show (match evO (toF t) o, evs (toF t) l with | some v, some vs => some (v :: vs) | _, _ => none) = some ((opnd d o).run t :: (opnds d l).run t)
    rw [opnd_run h.1 t, opnds_run h.2 t]
theorem onInt_true {x : AV} {f : IntKind → Int → Bool} (h : onInt x f = true) : ∃ k n, x = .int k n ∧ f k n = true := by
  cases x with
  | int k n => exact ⟨k, n, rfl, h⟩
  | _ => cases h
theorem onI64_true {x : AV} {f : Int → Bool} (h : onI64 x f = true) : ∃ n, x = .int .i64 n ∧ f n = true := by
  cases x with
  | int k n => cases k <;> first | exact ⟨n, rfl, h⟩ | cases h
  | _ => cases h
theorem onPtr_true {x : AV} {f : Nat → Nat → Bool} (h : onPtr x f = true) : ∃ b o, x = .ptr b o ∧ f b o = true := by
  cases x with
  | ptr b o => exact ⟨b, o, rfl, h⟩
  | _ => cases h
theorem onTup_true {x : AV} {f : List AV → Bool} (h : onTup x f = true) : ∃ l, x = .tup l ∧ f l = true := by
  cases x with
  | tup l => exact ⟨l, rfl, h⟩
  | _ => cases h
theorem onB_true {x : AV} {p q : Bool} (h : onB x p q = true) : ∃ b, x = .bool b ∧ (cond b p q) = true := by
  cases x with
  | bool b => cases b <;> exact ⟨_, rfl, h⟩
  | _ => cases h
theorem isPtrA_true {x : AV} (h : isPtrA x = true) : ∃ b o, x = .ptr b o := by
  cases x with
  | ptr b o => exact ⟨b, o, rfl⟩
  | _ => cases h
theorem lenF_true {x : AV} {f : Nat → Bool} (h : lenF x f = true) : ∃ n, lenS x = some n ∧ f n = true := by
  cases x with
  | slc b o n p c => exact ⟨n, rfl, h⟩
  | slz => exact ⟨0, rfl, h⟩
  | nils => exact ⟨0, rfl, h⟩
  | _ => cases h
theorem onSlc_true {x : AV} {f : Nat → Nat → Nat → Bool} (h : onSlc x f = true) : ∃ b o n p c, x = .slc b o n p c ∧ f b o n = true := by
  cases x with
  | slc b o n p c => exact ⟨b, o, n, p, c, rfl, h⟩
  | _ => cases h
theorem onFn_true {x : AV} {f : Fn → List AV → List AV → Bool} (h : onFn x f = true) : ∃ g a c, x = .fn g a c ∧ f g a c = true := by
  cases x with
  | fn g a c => exact ⟨g, a, c, rfl, h⟩
  | _ => cases h
theorem cellsF_true {x : AV} {f : List AV → Bool} (h : cellsF x f = true) : ∃ l, x = .agg l ∧ f l = true := by
  cases x with
  | agg l => exact ⟨l, rfl, h⟩
  | _ => cases h
theorem plainF_eq (x : AV) : plainF x = x.plain := by cases x <;> rfl
theorem plains_eq : ∀ l : List AV, plains l = l.all AV.plain
  | [] => rfl
  | a :: l => by
    show Bool.rec (motive := fun _ => Bool) false (plains l) (plainF a) = _
    rw [plainF_eq, plains_eq l]
    simp only [List.all_cons]
    cases a.plain <;> rfl
theorem brec {b x y : Bool} : (Bool.rec (motive := fun _ => Bool) x y b = true) → (b = true ∧ y = true) ∨ (b = false ∧ x = true) := by
  cases b
  · exact fun h => .inr ⟨rfl, h⟩
  · exact fun h => .inl ⟨rfl, h⟩
theorem brec_t {b y : Bool} (h : Bool.rec (motive := fun _ => Bool) false y b = true) : b = true ∧ y = true := by
  cases b
  · cases h
  · exact ⟨rfl, h⟩
/- memory -/
theorem selH_run (b : Nat) (h : Tr AO) {o : AO} (e : (selH b).run h.t = some o) : h.get b = some o := by
  unfold selH at e
  cases hb : Nat.ble (Nat.succ b) (nat_lit 262144) with
  | false => rw [hb] at e; cases e
  | true =>
    rw [hb] at e
    unfold Tr.get
    rw [hb]
    exact e
theorem putH_run (b : Nat) (a : AO) (h : Tr AO) {k : TT (Option AO) 6 → Bool} (e : (putH b).run (some a) h.t k = true) : ∃ t, (⟨t, h.o⟩ : Tr AO) = h.set b a ∧ k t = true := by
  unfold putH at e
  cases hb : Nat.ble (Nat.succ b) (nat_lit 262144) with
  | false => rw [hb] at e; cases e
  | true =>
    rw [hb] at e
    have e : (put 6 b).run (some a) h.t k = true := e
    rw [put_run] at e
    exact ⟨_, (Tr.set_near (Nat.le_of_ble_eq_true hb)).symm, e⟩
theorem lookF_true {s : S} {b : Nat} {κ : AO → S → Bool} (h : lookF s b κ = true) : ∃ o, s.h.get b = some o ∧ κ o { s with r := b :: s.r } = true := by
  obtain ⟨h0, n, r, w⟩ := s
  have h : Option.rec (motive := fun _ => Bool) false (fun a => κ a (S.mk h0 n (b :: r) w)) ((selH b).run h0.t) = true := h
  cases ho : (selH b).run h0.t with
  | none => rw [ho] at h; cases h
  | some o => rw [ho] at h; exact ⟨o, selH_run b h0 ho, h⟩
theorem newF_true {s : S} {a : AO} {κ : Nat → S → Bool} (h : newF s a κ = true) : κ s.n { s with h := s.h.set s.n a, n := s.n + 1 } = true := by
  obtain ⟨h0, n, r, w⟩ := s
  have h : (putH n).run (some a) h0.t (fun t => κ n (S.mk (Tr.mk t h0.o) (Nat.succ n) r w)) = true := h
  obtain ⟨t, e, h⟩ := putH_run n a h0 h
  rw [e] at h; exact h
theorem onAny_true {o : AO} {f : List AV → Nat → Bool} {q : TT AV 3 → Nat → Bool} (h : onAny o f q = true) : (∃ c p, o = .row c p ∧ f c p = true) ∨ ∃ g, o = .big g ∧ q g.t g.n = true := by
  cases o with
  | row c p => exact .inl ⟨c, p, rfl, h⟩
  | big g => exact .inr ⟨g, rfl, h⟩
  | _ => cases h
theorem subF_true : ∀ (n off : Nat) (t : TT AV 3) (k : List AV → Bool), subF n off t k = true → k ((List.range n).map fun i => TT.get 3 (off + i) t) = true
  | 0, _, _, k, h => h
  | n + 1, off, t, k, h => by
    have h : subF n (off + 1) t (fun l => k ((sel 3 off).run t :: l)) = true := h
    have h := subF_true n (off + 1) t _ h
    rw [sel_run] at h
    rw [List.range_succ_eq_map, List.map_cons, List.map_map]
    have e : ((fun i => TT.get 3 (off + i) t) ∘ Nat.succ) = fun i => TT.get 3 (off + 1 + i) t := by
      funext i; show TT.get 3 (off + (i + 1)) t = _; congr 1; omega
    rw [e]
    exact h
theorem fillF_true : ∀ (l : List AV) (i : Nat) (t : TT AV 3) (k : TT AV 3 → Bool), fillF l i t k = true → k (fillT t i l) = true
  | [], _, _, _, h => h
  | a :: l, i, t, k, h => by
    have h : (put 3 i).run a t (fun t => fillF l (i + 1) t k) = true := h
    rw [put_run] at h
    exact fillF_true l (i + 1) _ k h
theorem drop8_eq (l : List AV) : drop8 l = l.drop 8 := by
  rcases l with _ | ⟨_, _ | ⟨_, _ | ⟨_, _ | ⟨_, _ | ⟨_, _ | ⟨_, _ | ⟨_, _ | ⟨_, _⟩⟩⟩⟩⟩⟩⟩⟩ <;> rfl
theorem dropA_eq : ∀ (n : Nat) (l : List AV), dropA n l = l.drop n
  | 0, l => rfl
  | n + 1, [] => by simp; rfl
  | n + 1, _ :: l => dropA_eq n l
theorem dropB_eq : ∀ (n : Nat) (l : List AV), dropB n l = l.drop (n * 8)
  | 0, l => by simp; rfl
  | n + 1, l => by
    show dropB n (drop8 l) = _
    rw [dropB_eq n, drop8_eq, List.drop_drop]
    congr 1; omega
theorem dropN_eq (n : Nat) (l : List AV) : dropN n l = l.drop n := by
  show dropA (n % 8) (dropB (n / 8) l) = _
  rw [dropA_eq, dropB_eq, List.drop_drop]
  congr 1; omega
theorem takeF_true : ∀ (n : Nat) (l : List AV) (k : List AV → Bool), takeF n l k = true → ∃ m, takeN n l = some m ∧ k m = true
  | 0, l, k, h => ⟨[], rfl, h⟩
  | n + 1, [], k, h => by cases h
  | n + 1, a :: l, k, h => by
    obtain ⟨m, e, h⟩ := takeF_true n l _ h
    exact ⟨a :: m, by show (takeN n l).map (a :: ·) = _; rw [e]; rfl, h⟩
theorem overF_true : ∀ (x l : List AV) (k : List AV → Bool), overF x l k = true → ∃ m, over x l = some m ∧ k m = true
  | [], l, k, h => ⟨l, rfl, h⟩
  | a :: x, [], k, h => by cases h
  | a :: x, _ :: l, k, h => by
    obtain ⟨m, e, h⟩ := overF_true x l _ h
    exact ⟨a :: m, by show (over x l).map (a :: ·) = _; rw [e]; rfl, h⟩
theorem putN_true : ∀ (n : Nat) (x l : List AV) (k : List AV → Bool), putN x n l k = true → ∃ m, putAt n x l = some m ∧ k m = true
  | 0, x, l, k, h => overF_true x l k h
  | n + 1, x, [], k, h => by cases h
  | n + 1, x, a :: l, k, h => by
    obtain ⟨m, e, h⟩ := putN_true n x l _ h
    exact ⟨a :: m, by show (putAt n x l).map (a :: ·) = _; rw [e]; rfl, h⟩
theorem put1_true : ∀ (n : Nat) (x : AV) (l : List AV) (k : List AV → Bool), put1 x n l k = true → ∃ m, putAt n [x] l = some m ∧ k m = true
  | 0, x, [], k, h => by cases h
  | 0, x, _ :: l, k, h => ⟨x :: l, rfl, h⟩
  | n + 1, x, [], k, h => by cases h
  | n + 1, x, a :: l, k, h => by
    obtain ⟨m, e, h⟩ := put1_true n x l _ h
    exact ⟨a :: m, by show (putAt n [x] l).map (a :: ·) = _; rw [e]; rfl, h⟩
theorem load1_true {b off : Nat} {s : S} {κ : AV → S → Bool} (h : load1 b off s κ = true) : ∃ v s', s.loadN b off 1 oneCell = .ok v s' ∧ κ v s' = true := by
  obtain ⟨o, e, h⟩ := lookF_true h
  rcases onAny_true h with ⟨c, p, rfl, h⟩ | ⟨g, rfl, h⟩
  case inr =>
    obtain ⟨h1, h⟩ := brec_t h
    have h : κ ((sel 3 off).run g.t) { s with r := b :: s.r } = true := h
    rw [sel_run] at h
    refine ⟨_, _, ?_, h⟩
    unfold S.loadN S.look
    rw [e]; dsimp only
    rw [show Nat.ble (off + 1) g.n = true from h1]
    rfl
  have h : List.rec (motive := fun _ => Bool) false (fun v _ _ => κ v { s with r := b :: s.r }) (dropN off c) = true := h
  rw [dropN_eq] at h
  cases hc : c.drop off with
  | nil => rw [hc] at h; cases h
  | cons v l =>
    rw [hc] at h
    refine ⟨v, _, ?_, h⟩
    unfold S.loadN S.look
    rw [e]; dsimp only; rw [hc]; rfl
theorem loadG_true {n b off : Nat} {s : S} {κ : AV → S → Bool} (h : loadG n b off s κ = true) : ∃ v s', s.loadN b off n aggCells = .ok v s' ∧ κ v s' = true := by
  obtain ⟨o, e, h⟩ := lookF_true h
  rcases onAny_true h with ⟨c, p, rfl, h⟩ | ⟨g, rfl, h⟩
  case inr =>
    obtain ⟨h1, h⟩ := brec_t h
    have h := subF_true _ _ _ _ h
    refine ⟨_, _, ?_, h⟩
    unfold S.loadN S.look
    rw [e]; dsimp only
    rw [show Nat.ble (off + n) g.n = true from h1]
    rfl
  obtain ⟨m, em, h⟩ := takeF_true _ _ _ h
  rw [dropN_eq] at em
  refine ⟨.agg m, _, ?_, h⟩
  unfold S.loadN S.look
  rw [e]; dsimp only; rw [em]; rfl
theorem rowF_true {s : S} {b : Nat} {m : List AV → (List AV → Bool) → Bool} {mb : TT AV 3 → Nat → (TT AV 3 → Bool) → Bool} {κ : S → Bool} (h : rowF s b m mb κ = true) :
    (∃ c p k', s.h.get b = some (.row c p) ∧ m c k' = true ∧ ∀ c', k' c' = true → κ (({ s with r := b :: s.r } : S).put b (.row c' p)) = true) ∨
    ∃ g k', s.h.get b = some (.big g) ∧ mb g.t g.n k' = true ∧ ∀ u, k' u = true → κ (({ s with r := b :: s.r } : S).put b (.big ⟨u, g.n⟩)) = true := by
  obtain ⟨h0, n, r, w⟩ := s
  have h : Option.rec (motive := fun _ => Bool) false (fun a => onAny a (fun c p => m c fun c => (putH b).run (some (.row c p)) h0.t fun t => κ (S.mk (Tr.mk t h0.o) n (b :: r) (b :: w)))
    (fun u i => mb u i fun u => (putH b).run (some (.big (Big.mk u i))) h0.t fun t => κ (S.mk (Tr.mk t h0.o) n (b :: r) (b :: w)))) ((selH b).run h0.t) = true := h
  cases ho : (selH b).run h0.t with
  | none => rw [ho] at h; cases h
  | some o =>
    rw [ho] at h
    rcases onAny_true h with ⟨c, p, rfl, h⟩ | ⟨g, rfl, h⟩
    · refine .inl ⟨c, p, _, selH_run b h0 ho, h, fun c' hk => ?_⟩
      obtain ⟨t, e, hk⟩ := putH_run _ _ h0 hk
      rw [e] at hk
      exact hk
    · refine .inr ⟨g, _, selH_run b h0 ho, h, fun c' hk => ?_⟩
      obtain ⟨t, e, hk⟩ := putH_run _ _ h0 hk
      rw [e] at hk
      exact hk
theorem look_put {s : S} {b off : Nat} {l c c' : List AV} {p : Nat} {κ : S → Bool} (hl : l.all AV.plain = true) (e : s.h.get b = some (.row c p)) (hp : putAt off l c = some c') (h : κ (({ s with r := b :: s.r } : S).put b (.row c' p)) = true) :
    ∃ s', s.storeN b off l (fun s => .ok undefA s) = .ok undefA s' ∧ κ s' = true := by
  refine ⟨_, ?_, h⟩
  unfold S.storeN S.look
  rw [hl, e]; dsimp only [cond]; rw [hp]
theorem look_big {s : S} {b off : Nat} {l : List AV} {g : Big} {κ : S → Bool} (hl : l.all AV.plain = true) (e : s.h.get b = some (.big g)) (h1 : Nat.ble (off + l.length) g.n = true) (h2 : Nat.ble g.n 512 = true) (h : κ (({ s with r := b :: s.r } : S).put b (.big (g.puts off l))) = true) :
    ∃ s', s.storeN b off l (fun s => .ok undefA s) = .ok undefA s' ∧ κ s' = true := by
  refine ⟨_, ?_, h⟩
  unfold S.storeN S.look
  rw [hl, e]; dsimp only [cond]; rw [h1, h2]; rfl
theorem store1_true {b off : Nat} {x : AV} {s : S} {κ : S → Bool} (h : store1 b off x s κ = true) : x.plain = true ∧ ∃ s', s.storeN b off [x] (fun s => .ok undefA s) = .ok undefA s' ∧ κ s' = true := by
  obtain ⟨hx, h⟩ := brec_t h
  rw [plainF_eq] at hx
  refine ⟨hx, ?_⟩
  rcases rowF_true h with ⟨c, p, k', e, h, hk⟩ | ⟨g, k', e, h, hk⟩
  · obtain ⟨c', ec, h⟩ := put1_true _ _ _ _ h
    exact look_put (by simp [hx]) e ec (hk c' h)
  · obtain ⟨h1, h⟩ := brec_t h
    obtain ⟨h2, h⟩ := brec_t h
    have h : (put 3 off).run x g.t k' = true := h
    rw [put_run] at h
    exact look_big (l := [x]) (by simp [hx]) e h1 h2 (hk _ h)
theorem storeG_true {sz b off : Nat} {x : AV} {s : S} {κ : S → Bool} (h : storeG sz b off x s κ = true) : x.cells.length = sz ∧ ∃ s', s.storeN b off x.cells (fun s => .ok undefA s) = .ok undefA s' ∧ κ s' = true := by
  obtain ⟨l, rfl, h⟩ := cellsF_true h
  obtain ⟨h1, h⟩ := brec_t h
  obtain ⟨h2, h⟩ := brec_t h
  rw [plains_eq] at h2
  refine ⟨Nat.eq_of_beq_eq_true h1, ?_⟩
  rcases rowF_true h with ⟨c, p, k', e, h, hk⟩ | ⟨g, k', e, h, hk⟩
  · obtain ⟨c', ec, h⟩ := putN_true _ _ _ _ h
    exact look_put h2 e ec (hk c' h)
  · obtain ⟨h3, h⟩ := brec_t h
    obtain ⟨h4, h⟩ := brec_t h
    have h := fillF_true _ _ _ _ h
    exact look_big h2 e h3 h4 (hk _ h)
end
end Go.Ev
namespace Go.Ev
/- numbers -/
theorem wrap_id (k : IntKind) (n : Nat) (h : n < kLim k) : k.wrap (n : Int) = (n : Int) := by
  cases k <;> simp only [kLim] at h <;> simp only [IntKind.wrap, IntKind.bits, IntKind.signed] <;> (try simp) <;> omega
theorem kIdx_inj {k k' : IntKind} (h : Nat.beq (kIdx k) (kIdx k') = true) : k = k' := by
  cases k <;> cases k' <;> first | rfl | cases h
theorem kLim_bits {k : IntKind} {n : Nat} (h : n < kLim k) : n < 2 ^ k.bits := by
  cases k <;> simp only [kLim] at h <;> simp only [IntKind.bits] <;> omega
theorem slowB_true {op : BinOp} {x y : AV} {κ : AV → Bool} (h : slowB op x y κ = true) : ∃ v, binA op x y = some v ∧ κ v = true := by
  unfold slowB at h
  cases hb : binA op x y with
  | none => rw [hb] at h; cases h
  | some v => rw [hb] at h; exact ⟨v, rfl, h⟩
theorem twoI_true {x y : AV} {f : IntKind → Nat → Nat → Bool} {slow : Bool} (h : twoI x y f slow = true) : slow = true ∨ ∃ k a b, x = .int k (.ofNat a) ∧ y = .int k (.ofNat b) ∧ f k a b = true := by
  obtain ⟨k, a, e1, h1⟩ := onInt_true (x := x) h
  obtain ⟨k', b, e2, h2⟩ := onInt_true (x := y) h1
  cases a with
  | negSucc => exact .inl h2
  | ofNat a =>
    cases b with
    | negSucc => exact .inl h2
    | ofNat b =>
      rcases brec h2 with ⟨e, h3⟩ | ⟨_, h3⟩
      · have hk := kIdx_inj e
        rw [← hk] at e2
        exact .inr ⟨k, a, b, e1, e2, h3⟩
      · exact .inl h3
theorem binA_some {op : BinOp} {x y v : AV} (h : binP op x y = some v) : binA op x y = some v := by unfold binA; rw [h]
theorem binA_none (op : BinOp) (k k' : IntKind) (a b : Int) (h : binP op (.int k a) (.int k' b) = none) : binA op (.int k a) (.int k' b) = none := by
  unfold binA; rw [h]; rfl
theorem binA_int {op : BinOp} (h1 : op ≠ .shl) (h2 : op ≠ .shr) (k : IntKind) (a b : Int) : binA op (.int k a) (.int k b) = intA op k a b := by
  have h : binP op (.int k a) (.int k b) = intA op k a b := by cases op <;> first | exact absurd rfl h1 | exact absurd rfl h2 | (unfold binP; simp)
  cases hi : intA op k a b with
  | none => exact binA_none _ _ _ _ _ (h.trans hi)
  | some v => exact binA_some (h.trans hi)
def BinTo (op : BinOp) (f : AV → AV → (AV → Bool) → Bool) : Prop := ∀ x y κ, f x y κ = true → ∃ v, binA op x y = some v ∧ κ v = true
theorem BinTo.slow (op : BinOp) : BinTo op (slowB op) := fun _ _ _ h => slowB_true h
theorem succ_le {a b : Nat} (h : Nat.ble (Nat.succ a) b = true) : a < b := Nat.le_of_ble_eq_true h
theorem ofNat_sub {a b : Nat} (h : b ≤ a) : (Int.ofNat a - Int.ofNat b) = Int.ofNat (a - b) := by simp only [Int.ofNat_eq_natCast]; omega
theorem addI_to : BinTo .add addI := by
  intro x y κ h
  obtain ⟨a, rfl, h⟩ := onI64_true (x := x) h
  obtain ⟨b, rfl, h⟩ := onI64_true (x := y) h
  cases a with
  | negSucc => exact slowB_true h
  | ofNat a =>
    cases b with
    | negSucc => exact slowB_true h
    | ofNat b =>
      rcases brec h with ⟨e, h⟩ | ⟨_, h⟩
      · refine ⟨_, ?_, h⟩
        rw [binA_int (by decide) (by decide)]
        have e := Nat.le_of_ble_eq_true e
        have e2 : a + b < kLim .i64 := by show a + b < 9223372036854775808; exact Nat.lt_succ_of_le e
        have := wrap_id .i64 (a + b) e2
        show some (AV.int .i64 (wrapA .i64 (Int.ofNat a + Int.ofNat b))) = some (AV.int .i64 (Int.ofNat (a + b)))
        unfold wrapA
        simp only [Int.ofNat_eq_natCast]
        rw [← Int.natCast_add, this]
      · exact slowB_true h
theorem subI_to : BinTo .sub subI := by
  intro x y κ h
  obtain ⟨a, rfl, h⟩ := onI64_true (x := x) h
  obtain ⟨b, rfl, h⟩ := onI64_true (x := y) h
  cases a with
  | negSucc => exact slowB_true h
  | ofNat a =>
    cases b with
    | negSucc => exact slowB_true h
    | ofNat b =>
      rcases brec h with ⟨e, h⟩ | ⟨_, h⟩
      · rcases brec h with ⟨e2, h⟩ | ⟨_, h⟩
        · refine ⟨_, ?_, h⟩
          rw [binA_int (by decide) (by decide)]
          have e := Nat.le_of_ble_eq_true e
          have e2 := Nat.le_of_ble_eq_true e2
          have e3 : a - b < kLim .i64 := Nat.lt_of_le_of_lt (Nat.sub_le a b) (Nat.lt_succ_of_le e2)
          have := wrap_id .i64 (a - b) e3
          show some (AV.int .i64 (wrapA .i64 (Int.ofNat a - Int.ofNat b))) = some (AV.int .i64 (Int.ofNat (a - b)))
          rw [ofNat_sub e]
          unfold wrapA
          simp only [Int.ofNat_eq_natCast]
          rw [this]
        · exact slowB_true h
      · exact slowB_true h
theorem addG_to : BinTo .add addG := by
  intro x y κ h
  rcases twoI_true h with h | ⟨k, a, b, rfl, rfl, h⟩
  · exact slowB_true h
  · rcases brec h with ⟨e, h⟩ | ⟨_, h⟩
    · refine ⟨_, ?_, h⟩
      rw [binA_int (by decide) (by decide)]
      have := wrap_id k (a + b) (succ_le e)
      show some (AV.int k (wrapA k (Int.ofNat a + Int.ofNat b))) = some (AV.int k (Int.ofNat (a + b)))
      unfold wrapA
      simp only [Int.ofNat_eq_natCast]
      rw [← Int.natCast_add, this]
    · exact slowB_true h
theorem subG_to : BinTo .sub subG := by
  intro x y κ h
  rcases twoI_true h with h | ⟨k, a, b, rfl, rfl, h⟩
  · exact slowB_true h
  · rcases brec h with ⟨e, h⟩ | ⟨_, h⟩
    · rcases brec h with ⟨e2, h⟩ | ⟨_, h⟩
      · refine ⟨_, ?_, h⟩
        rw [binA_int (by decide) (by decide)]
        have e := Nat.le_of_ble_eq_true e
        have := wrap_id k (a - b) (by have := succ_le e2; omega)
        show some (AV.int k (wrapA k (Int.ofNat a - Int.ofNat b))) = some (AV.int k (Int.ofNat (a - b)))
        rw [ofNat_sub e]
        unfold wrapA
        simp only [Int.ofNat_eq_natCast]
        rw [this]
      · exact slowB_true h
    · exact slowB_true h
theorem mulG_to : BinTo .mul mulG := by
  intro x y κ h
  rcases twoI_true h with h | ⟨k, a, b, rfl, rfl, h⟩
  · exact slowB_true h
  · rcases brec h with ⟨e, h⟩ | ⟨_, h⟩
    · refine ⟨_, ?_, h⟩
      rw [binA_int (by decide) (by decide)]
      have := wrap_id k (a * b) (succ_le e)
      show some (AV.int k (wrapA k (Int.ofNat a * Int.ofNat b))) = some (AV.int k (Int.ofNat (a * b)))
      unfold wrapA
      simp only [Int.ofNat_eq_natCast]
      rw [← Int.natCast_mul, this]
    · exact slowB_true h
theorem bitsA_of {k : IntKind} {f : Nat → Nat → Nat} {a b : Nat} (ha : a < kLim k) (hb : b < kLim k) (hf : f a b < kLim k) : bitsA k f (Int.ofNat a) (Int.ofNat b) = some (.int k (Int.ofNat (f a b))) := by
  have h1 : Nat.blt a (2 ^ k.bits) = true := blt_true.mpr (kLim_bits ha)
  have h2 : Nat.blt b (2 ^ k.bits) = true := blt_true.mpr (kLim_bits hb)
  show cond (Nat.blt a (2 ^ k.bits) && Nat.blt b (2 ^ k.bits)) (some (AV.int k (k.wrap (f a b : Nat)))) none = _
  rw [h1, h2, wrap_id k _ hf]
  rfl
theorem kLim_pow (k : IntKind) : ∃ m, kLim k = 2 ^ m := by
  cases k
  · exact ⟨7, rfl⟩
  · exact ⟨15, rfl⟩
  · exact ⟨31, rfl⟩
  · exact ⟨63, rfl⟩
  · exact ⟨8, rfl⟩
  · exact ⟨16, rfl⟩
  · exact ⟨32, rfl⟩
  · exact ⟨64, rfl⟩
theorem bitG_to {op : BinOp} {g : Nat → Nat → Nat} (h1 : op ≠ .shl) (h2 : op ≠ .shr) (hi : ∀ k a b, intA op k a b = bitsA k g a b) (hg : ∀ a b m, a < 2 ^ m → b < 2 ^ m → g a b < 2 ^ m) : BinTo op (bitG op g) := by
  intro x y κ h
  rcases twoI_true h with h | ⟨k, a, b, rfl, rfl, h⟩
  · exact slowB_true h
  · rcases brec h with ⟨e, h⟩ | ⟨_, h⟩
    · rcases brec h with ⟨e2, h⟩ | ⟨_, h⟩
      · refine ⟨_, ?_, h⟩
        have ha := succ_le e
        have hb := succ_le e2
        rw [binA_int h1 h2, hi, bitsA_of ha hb]
        obtain ⟨m, em⟩ := kLim_pow k
        rw [em] at ha hb ⊢
        exact hg a b m ha hb
      · exact slowB_true h
    · exact slowB_true h
theorem divG_to : BinTo .quo divG := by
  intro x y κ h
  rcases twoI_true h with h | ⟨k, a, b, rfl, rfl, h⟩
  · exact slowB_true h
  · rcases brec h with ⟨e, h⟩ | ⟨_, h⟩
    · obtain ⟨e2, h⟩ := brec_t h
      refine ⟨_, ?_, h⟩
      have hb : 1 ≤ b := Nat.le_of_ble_eq_true e2
      rw [binA_int (by decide) (by decide)]
      have := wrap_id k (a / b) (Nat.lt_of_le_of_lt (Nat.div_le_self a b) (succ_le e))
      show (if Int.ofNat b = 0 then none else some (AV.int k (wrapA k ((Int.ofNat a).tdiv (Int.ofNat b))))) = some (AV.int k (Int.ofNat (a / b)))
      rw [if_neg (by simp only [Int.ofNat_eq_natCast]; omega)]
      unfold wrapA
      have e3 : (Int.ofNat a).tdiv (Int.ofNat b) = ((a / b : Nat) : Int) := rfl
      rw [e3, this]; rfl
    · exact slowB_true h
theorem remG_to : BinTo .rem remG := by
  intro x y κ h
  rcases twoI_true h with h | ⟨k, a, b, e1, e2, h3⟩
  · exact slowB_true h
  · obtain ⟨e3, h4⟩ := brec_t h3
    refine ⟨_, ?_, h4⟩
    have hb : 1 ≤ b := Nat.le_of_ble_eq_true e3
    rw [e1, e2, binA_int (by decide) (by decide)]
    show (if Int.ofNat b = 0 then none else some (AV.int k ((Int.ofNat a).tmod (Int.ofNat b)))) = some (AV.int k (Int.ofNat (a % b)))
    rw [if_neg (by simp only [Int.ofNat_eq_natCast]; omega)]
    rfl
theorem shrG_to : BinTo .shr shrG := by
  intro x y κ h
  obtain ⟨k, a, rfl, h⟩ := onInt_true (x := x) h
  obtain ⟨k', b, rfl, h⟩ := onInt_true (x := y) h
  cases a with
  | negSucc => exact slowB_true h
  | ofNat a =>
    cases b with
    | negSucc => exact slowB_true h
    | ofNat b =>
      rcases brec h with ⟨e, h⟩ | ⟨_, h⟩
      · refine ⟨_, ?_, h⟩
        have ha := succ_le e
        have hbits := kLim_bits ha
        refine binA_some ?_
        unfold binP
        dsimp only
        rw [if_neg (by simp only [Int.ofNat_eq_natCast]; omega)]
        have e1 : (Int.ofNat b).toNat = b := rfl
        rw [e1]
        have e2 : a / 2 ^ (min b k.bits) = a / 2 ^ b := by
          by_cases hb : b ≤ k.bits
          · rw [Nat.min_eq_left hb]
          · rw [Nat.min_eq_right (by omega), Nat.div_eq_of_lt hbits, Nat.div_eq_of_lt (Nat.lt_of_lt_of_le hbits (Nat.pow_le_pow_right (by omega) (by omega)))]
        have e3 : (Int.ofNat a).fdiv ((2 : Int) ^ (min b k.bits)) = ((a / 2 ^ (min b k.bits) : Nat) : Int) := by
          have : ((2 : Int) ^ (min b k.bits)) = ((2 ^ (min b k.bits) : Nat) : Int) := by simp
          rw [this, Int.fdiv_eq_ediv_of_nonneg _ (Int.natCast_nonneg _)]
          exact (Int.natCast_ediv a _).symm
        rw [e3, e2]
        rfl
      · exact slowB_true h
theorem cmpI_to {op : BinOp} {f : Nat → Nat → Bool} (h1 : op ≠ .shl) (h2 : op ≠ .shr) (hi : ∀ (k : IntKind) (a b : Nat), intA op k (Int.ofNat a) (Int.ofNat b) = some (.bool (f a b))) : BinTo op (cmpI op f) := by
  intro x y κ h
  obtain ⟨a, rfl, h⟩ := onI64_true (x := x) h
  obtain ⟨b, rfl, h⟩ := onI64_true (x := y) h
  cases a with
  | negSucc => exact slowB_true h
  | ofNat a =>
    cases b with
    | negSucc => exact slowB_true h
    | ofNat b => exact ⟨_, by rw [binA_int h1 h2, hi], h⟩
theorem cmpG_to {op : BinOp} {f : Nat → Nat → Bool} (h1 : op ≠ .shl) (h2 : op ≠ .shr) (hi : ∀ (k : IntKind) (a b : Nat), intA op k (Int.ofNat a) (Int.ofNat b) = some (.bool (f a b))) : BinTo op (cmpG op f) := by
  intro x y κ h
  rcases twoI_true h with h | ⟨k, a, b, rfl, rfl, h3⟩
  · exact slowB_true h
  · exact ⟨_, by rw [binA_int h1 h2, hi], h3⟩
theorem nb {a b : Nat} {p : Bool} {q : Prop} [Decidable q] (h : p = true ↔ q) : some (AV.bool (decide q)) = some (AV.bool p) := by
  congr 2
  cases p with
  | true => exact decide_eq_true (h.mp rfl)
  | false => exact decide_eq_false fun hq => by have := h.mpr hq; cases this
theorem cmp_eql (k : IntKind) (a b : Nat) : intA .eql k (Int.ofNat a) (Int.ofNat b) = some (.bool (Nat.beq a b)) := by
  show some (AV.bool (Int.ofNat a == Int.ofNat b)) = _
  congr 2
  rw [Bool.eq_iff_iff, beq_iff_eq, Nat.beq_eq]; simp only [Int.ofNat_eq_natCast]; omega
theorem cmp_neq (k : IntKind) (a b : Nat) : intA .neq k (Int.ofNat a) (Int.ofNat b) = some (.bool (notF (Nat.beq a b))) := by
  show some (AV.bool (Int.ofNat a != Int.ofNat b)) = _
  congr 2
  have e : notF (Nat.beq a b) = !(Nat.beq a b) := by cases Nat.beq a b <;> rfl
  rw [e]
  have e2 : (Int.ofNat a != Int.ofNat b) = !(Int.ofNat a == Int.ofNat b) := rfl
  rw [e2]
  congr 1
  rw [Bool.eq_iff_iff, beq_iff_eq, Nat.beq_eq]; simp only [Int.ofNat_eq_natCast]; omega
theorem cmp_lss (k : IntKind) (a b : Nat) : intA .lss k (Int.ofNat a) (Int.ofNat b) = some (.bool (Nat.ble (Nat.succ a) b)) := by
  show some (AV.bool (decide (Int.ofNat a < Int.ofNat b))) = _
  congr 2
  rw [Bool.eq_iff_iff]; simp only [decide_eq_true_eq, Nat.ble_eq, Int.ofNat_eq_natCast]; omega
theorem cmp_leq (k : IntKind) (a b : Nat) : intA .leq k (Int.ofNat a) (Int.ofNat b) = some (.bool (Nat.ble a b)) := by
  show some (AV.bool (decide (Int.ofNat a ≤ Int.ofNat b))) = _
  congr 2
  rw [Bool.eq_iff_iff]; simp only [decide_eq_true_eq, Nat.ble_eq, Int.ofNat_eq_natCast]; omega
theorem cmp_gtr (k : IntKind) (a b : Nat) : intA .gtr k (Int.ofNat a) (Int.ofNat b) = some (.bool (Nat.ble (Nat.succ b) a)) := by
  show some (AV.bool (decide (Int.ofNat a > Int.ofNat b))) = _
  congr 2
  rw [Bool.eq_iff_iff]; simp only [decide_eq_true_eq, Nat.ble_eq, Int.ofNat_eq_natCast]; omega
theorem cmp_geq (k : IntKind) (a b : Nat) : intA .geq k (Int.ofNat a) (Int.ofNat b) = some (.bool (Nat.ble b a)) := by
  show some (AV.bool (decide (Int.ofNat a ≥ Int.ofNat b))) = _
  congr 2
  rw [Bool.eq_iff_iff]; simp only [decide_eq_true_eq, Nat.ble_eq, Int.ofNat_eq_natCast]; omega
theorem binF_to (op : BinOp) : BinTo op (binF op).run := by
  cases op
  case add => exact addI_to
  case sub => exact subI_to
  case mul => exact mulG_to
  case quo => exact divG_to
  case rem => exact remG_to
  case and => exact bitG_to (by decide) (by decide) (fun _ _ _ => rfl) fun a b m ha _ => Nat.and_lt_two_pow a (by assumption)
  case or => exact bitG_to (by decide) (by decide) (fun _ _ _ => rfl) fun a b m ha hb => Nat.or_lt_two_pow ha hb
  case xor => exact bitG_to (by decide) (by decide) (fun _ _ _ => rfl) fun a b m ha hb => Nat.xor_lt_two_pow ha hb
  case shr => exact shrG_to
  case eql => exact cmpI_to (by decide) (by decide) cmp_eql
  case neq => exact cmpI_to (by decide) (by decide) cmp_neq
  case lss => exact cmpI_to (by decide) (by decide) cmp_lss
  case leq => exact cmpI_to (by decide) (by decide) cmp_leq
  case gtr => exact cmpI_to (by decide) (by decide) cmp_gtr
  case geq => exact cmpI_to (by decide) (by decide) cmp_geq
  all_goals exact BinTo.slow _
theorem binH_to (op : BinOp) : BinTo op (binH op).run := by
  cases op
  case add => exact addG_to
  case sub => exact subG_to
  case mul => exact mulG_to
  case quo => exact divG_to
  case rem => exact remG_to
  case and => exact bitG_to (by decide) (by decide) (fun _ _ _ => rfl) fun a b m ha _ => Nat.and_lt_two_pow a (by assumption)
  case or => exact bitG_to (by decide) (by decide) (fun _ _ _ => rfl) fun a b m ha hb => Nat.or_lt_two_pow ha hb
  case xor => exact bitG_to (by decide) (by decide) (fun _ _ _ => rfl) fun a b m ha hb => Nat.xor_lt_two_pow ha hb
  case shr => exact shrG_to
  case eql => exact cmpG_to (by decide) (by decide) cmp_eql
  case neq => exact cmpG_to (by decide) (by decide) cmp_neq
  case lss => exact cmpG_to (by decide) (by decide) cmp_lss
  case leq => exact cmpG_to (by decide) (by decide) cmp_leq
  case gtr => exact cmpG_to (by decide) (by decide) cmp_gtr
  case geq => exact cmpG_to (by decide) (by decide) cmp_geq
  all_goals exact BinTo.slow _
theorem lanF_to {op : BinOp} {b : BF} (h : BinTo op b.run) : BinTo op (lanF op b).run := by
  intro x y κ e
  rcases brec (b := isLan x) e with ⟨_, e⟩ | ⟨_, e⟩
  · exact slowB_true e
  · rcases brec (b := isLan y) e with ⟨_, e⟩ | ⟨_, e⟩
    · exact slowB_true e
    · exact h _ _ _ e
end Go.Ev
namespace Go.Ev
/-- It asks nothing of callees. -/
def Ign (k : OK) : Prop := ∀ cf cf' : CallF, k.run cf = k.run cf'
theorem Ign.of (f : List AV → S → RV) : Ign ⟨fun _ => f⟩ := fun _ _ => rfl
theorem Ign.cond {b : Bool} {x y : OK} (hx : Ign x) (hy : Ign y) : Ign (cond b x y) := by cases b; exact hy; exact hx
theorem Ign.fail (w : String) : Ign (failK w) := fun _ _ => rfl
def stillOp : Op → Bool
  | .call c => (match c.callee with | .builtin _ => true | _ => false)
  | _ => true
section
variable (P : Program)
theorem loadK_ign (t : Nat) : Ign (loadK P t) := .cond (.of _) (.fail _)
theorem storeK_ign (t : Nat) : Ign (storeK P t) := .cond (.of _) (.fail _)
theorem buildK_ign (t : Nat) (ps : List Nat) : Ign (buildK P t ps) := by
  unfold buildK
  split
  · exact .cond (.of _) (.fail _)
  · exact .cond (.of _) (.fail _)
  · exact .fail _
theorem buildSliceK_ign (t n : Nat) (ps : List Nat) : Ign (buildSliceK P t n ps) := by
  unfold buildSliceK
  split
  · dsimp only
    split
    · exact .cond (.of _) (.fail _)
    · exact .fail _
  · exact .fail _
theorem fieldAddrK_ign (t f : Nat) : Ign (fieldAddrK P t f) := by
  unfold fieldAddrK
  split
  · split
    · exact .cond (.of _) (.fail _)
    · exact .fail _
  · exact .fail _
theorem fieldK_ign (t f : Nat) : Ign (fieldK P t f) := by
  unfold fieldK
  split
  · split
    · exact .cond (.of _) (.fail _)
    · exact .fail _
  · exact .fail _
theorem indexAddrK_ign (t : Nat) : Ign (indexAddrK P t) := by
  unfold indexAddrK
  split
  · exact .cond (.fail _) (.of _)
  · exact .cond (.fail _) (.of _)
  · exact .fail _
theorem indexK_ign (t : Nat) : Ign (indexK P t) := by
  unfold indexK
  split
  · exact .of _
  · exact .cond (.fail _) (.of _)
  · exact .fail _
theorem sliceK_ign (t : Nat) (a b c : Bool) : Ign (sliceK P t a b c) := by
  unfold sliceK
  split
  · exact .cond (.fail _) (.of _)
  · exact .of _
  · exact .cond (.fail _) (.of _)
  · exact .fail _
theorem makeSliceK_ign (t : Nat) : Ign (makeSliceK P t) := by
  unfold makeSliceK
  split
  · split
    · exact .cond (.fail _) (.of _)
    · exact .fail _
  · exact .fail _
theorem appendK_ign (l : List Nat) : Ign (appendK P l) := by
  unfold appendK
  split
  · split
    · split
      · refine .cond (.fail _) ?_
        split
        · exact .of _
        · split
          · exact .of _
          · exact .of _
          · exact .fail _
      · exact .fail _
    · exact .fail _
  · exact .fail _
theorem copyK_ign (l : List Nat) : Ign (copyK P l) := by
  unfold copyK
  split
  · split
    · exact .cond (.fail _) (.of _)
    · exact .fail _
  · exact .fail _
theorem clearK_ign (l : List Nat) : Ign (clearK P l) := by
  unfold clearK
  split
  · split
    · split
      · exact .cond (.fail _) (.of _)
      · exact .fail _
    · exact .fail _
  · exact .fail _
theorem lenK_ign (l : List Nat) : Ign (lenK P l) := by
  unfold lenK
  split
  · split
    · exact .of _
    · split
      · exact .of _
      · exact .fail _
    · exact .of _
    · exact .of _
    · exact .of _
    · exact .fail _
  · exact .fail _
theorem capK_ign (l : List Nat) : Ign (capK P l) := by
  unfold capK
  split
  · split
    · exact .of _
    · exact .fail _
  · exact .fail _
theorem builtinK_ign (b : Builtin) (l : List Nat) : Ign (builtinK P b l) := by
  unfold builtinK
  split
  · exact appendK_ign P l
  · exact copyK_ign P l
  · exact lenK_ign P l
  · exact capK_ign P l
  · exact .of _
  · exact .of _
  · exact clearK_ign P l
  · exact .of _
  · exact .fail _
theorem convertK_ign (a b : Nat) : Ign (convertK P a b) := by
  unfold convertK
  split
  · exact .of _
  · exact .of _
  · split
    · exact .of _
    · exact .fail _
  · split
    · exact .of _
    · exact .fail _
  · exact .fail _
theorem lookupK_ign (t : Nat) (ok : Bool) : Ign (lookupK P t ok) := by
  unfold lookupK
  split
  · split
    · exact .of _
    · exact .fail _
  · exact .fail _
theorem mapUpdateK_ign (t : Nat) : Ign (mapUpdateK P t) := by
  unfold mapUpdateK
  split
  · split
    · exact .of _
    · exact .fail _
  · exact .fail _
theorem typeAssertK_ign (t : Nat) (ok : Bool) : Ign (typeAssertK P t ok) := by
  unfold typeAssertK
  split
  · split
    · exact .of _
    · exact .of _
    · exact .fail _
  · exact .fail _
theorem selectK_ign (c : SelectCase) : Ign (selectK P c) := by
  unfold selectK
  split
  · split
    · exact .of _
    · exact .of _
  · exact .fail _
theorem binK_ign (op : BinOp) (t : Nat) (x y : Operand) : Ign (binK P op t x y) := by
  unfold binK
  dsimp only
  split <;> exact .of _
theorem makeChanK_ign (t : Nat) : Ign (makeChanK P t) := by
  unfold makeChanK
  split
  · exact .cond (.of _) (.fail _)
  · exact .fail _
theorem opK_ign {o : Op} (h : stillOp o = true) : Ign (opK P o) := by
  unfold opK
  split
  · exact .of _
  · exact .of _
  · exact .of _
  · split
    · exact .of _
    · exact .fail _
  · exact .of _
  · exact buildK_ign P _ _
  · exact buildSliceK_ign P _ _ _
  · exact loadK_ign P _
  · exact storeK_ign P _
  · exact .of _
  · exact binK_ign P _ _ _ _
  · exact .of _
  · exact convertK_ign P _ _
  · exact .cond (.of _) (.fail _)
  · exact .of _
  · exact .of _
  · exact makeChanK_ign P _
  · exact makeSliceK_ign P _
  · exact sliceK_ign P _ _ _ _
  · exact fieldAddrK_ign P _ _
  · exact fieldK_ign P _ _
  · exact indexAddrK_ign P _
  · exact indexK_ign P _
  · exact lookupK_ign P _ _
  · exact mapUpdateK_ign P _
  · exact typeAssertK_ign P _ _
  · exact .of _
  · rename_i c
    unfold callK
    split
    · exact builtinK_ign P _ _
    · rename_i f hf; unfold stillOp at h; simp [hf] at h
    · rename_i f hf1 hf; unfold stillOp at h; simp [hf] at h
    · rename_i f hf1 hf; unfold stillOp at h; simp [hf] at h
  · exact .of _
  · split
    · split
      · exact .of _
      · exact .fail _
    · exact .fail _
  · split
    · exact selectK_ign P _
    · exact .fail _
  · exact .fail _
end
end Go.Ev
namespace Go.Ev
/-- The fast callee does what the plain one does. -/
def CallsOk (cfF : CallZ) (cf : CallF) : Prop := ∀ f a s κ, cfF f a s κ = true → ∃ v s', cf f a s = .ok v s' ∧ κ v s' = true
section
variable {P : Program} {d nt : Nat}
/-- An operation's value, its guard aside. -/
noncomputable def valB (P : Program) (o : Oper) (cf : CallF) (t : Nat → AV) (dfr : Bool) (s : S) : RV :=
  match evs t o.op.operands.toList with
  | none => .no ""
  | some a => (match wayOf o.op with
    | .val | .com => (opK P o.op).run cf a s
    | .rcv => cond dfr (.ok .nili s) (.no "")
    | .dfr => .no "")
def BareOk (P : Program) (nt : Nat) (o : Oper) (f : OF d) : Prop := ∀ (c : Cx) (cf : CallF), CallsOk c.cf cf → ∀ t s k, f.run c t s k = true →
  ∃ v s' t', valB P o cf (toF t) c.dfr s = .ok v s' ∧ (∀ ds b, (⟨toF t', ds, b⟩ : Fr) = Fr.put ⟨toF t, ds, b⟩ nt o.dst v) ∧ k t' s' = true
theorem noO_ok {o : Oper} : BareOk P nt o (noO d) := fun _ _ _ _ _ _ h => by cases h
theorem dst_true (hnt : nt ≤ 8 ^ d) {dst : Option Nat} {v : AV} {t : TF d} {k : TF d → Bool} (h : (dstP d nt dst).run v t k = true) : ∃ t', (∀ ds b, (⟨toF t', ds, b⟩ : Fr) = Fr.put ⟨toF t, ds, b⟩ nt dst v) ∧ k t' = true := by
  obtain ⟨t', h1, h2⟩ := dstP_run hnt dst v t
  rw [h1] at h
  exact ⟨t', h2, h⟩
theorem BareOk.fin (hnt : nt ≤ 8 ^ d) {o : Oper} {cf : CallF} {t : TF d} {s s' : S} {dfr : Bool} {v : AV} {k : TF d → S → Bool} (hv : valB P o cf (toF t) dfr s = .ok v s') (h : (dstP d nt o.dst).run v t (fun t => k t s') = true) :
    ∃ v s' t', valB P o cf (toF t) dfr s = .ok v s' ∧ (∀ ds b, (⟨toF t', ds, b⟩ : Fr) = Fr.put ⟨toF t, ds, b⟩ nt o.dst v) ∧ k t' s' = true := by
  obtain ⟨t', h2, h3⟩ := dst_true hnt h
  exact ⟨v, s', t', hv, h2, h3⟩
theorem valB_of {o : Oper} {cf : CallF} {t : Nat → AV} {dfr : Bool} {s : S} {a : List AV} (he : evs t o.op.operands.toList = some a) (hw : wayOf o.op = .val ∨ wayOf o.op = .com) : valB P o cf t dfr s = (opK P o.op).run cf a s := by
  unfold valB
  rw [he]
  rcases hw with hw | hw <;> rw [hw]
theorem slowO_ok (hnt : nt ≤ 8 ^ d) {o : Oper} (ha : o.op.operands.toList.all opndOk = true) (hs : stillOp o.op = true) (hw : wayOf o.op = .val ∨ wayOf o.op = .com) : BareOk P nt o (slowO P d nt o) := by
  intro c cf hc t s k h
  have h : Rs.rec (motive := fun _ => Bool) (fun _ => false) (fun v s => (dstP d nt o.dst).run v t fun t => k t s) ((opK P o.op).run dum ((opnds d o.op.operands.toList).run t) s) = true := h
  rw [opK_ign P hs dum cf] at h
  cases hr : (opK P o.op).run cf ((opnds d o.op.operands.toList).run t) s with
  | no w => rw [hr] at h; cases h
  | ok v s' =>
    rw [hr] at h
    exact BareOk.fin hnt ((valB_of (opnds_run ha t) hw).trans hr) h
theorem one_run {x : Operand} (h : opndOk x = true) (t : TF d) : evs (toF t) [x] = some [(opnd d x).run t] := opnds_run (l := [x]) (by simp [h]) t
theorem two_run {x y : Operand} (h : opndOk x = true) (h2 : opndOk y = true) (t : TF d) : evs (toF t) [x, y] = some [(opnd d x).run t, (opnd d y).run t] := opnds_run (l := [x, y]) (by simp [h, h2]) t
theorem three_run {x y z : Operand} (h : opndOk x = true) (h2 : opndOk y = true) (h3 : opndOk z = true) (t : TF d) : evs (toF t) [x, y, z] = some [(opnd d x).run t, (opnd d y).run t, (opnd d z).run t] := opnds_run (l := [x, y, z]) (by simp [h, h2, h3]) t
theorem all1 {x : Operand} (h : [x].all opndOk = true) : opndOk x = true := by simpa using h
theorem all2 {x y : Operand} (h : [x, y].all opndOk = true) : opndOk x = true ∧ opndOk y = true := by simpa using h
theorem all3 {x y z : Operand} (h : [x, y, z].all opndOk = true) : opndOk x = true ∧ opndOk y = true ∧ opndOk z = true := by simpa using h
variable (hnt : nt ≤ 8 ^ d)
include hnt
theorem moveO_ok {o : Oper} {x : Operand} (ho : o.op = .move x ∨ o.op = .assign x) (h1 : opndOk x = true) : BareOk P nt o (moveO d nt x o.dst) := by
  intro c cf hc t s k h
  have h : (dstP d nt o.dst).run ((opnd d x).run t) t (fun t => k t s) = true := h
  refine BareOk.fin hnt ?_ h
  rcases ho with ho | ho <;> (rw [valB_of (a := [(opnd d x).run t]) (by rw [ho]; exact one_run h1 t) (by rw [ho]; exact .inl rfl), ho]; rfl)
theorem pickO_ok {o : Oper} {x y z : Operand} (ho : o.op = .pick x y z) (ha : opndOk x = true ∧ opndOk y = true ∧ opndOk z = true) : BareOk P nt o (pickO d nt x y z o.dst) := by
  intro c cf hc t s k h
  have h : onB ((opnd d x).run t) ((dstP d nt o.dst).run ((opnd d y).run t) t fun t => k t s) ((dstP d nt o.dst).run ((opnd d z).run t) t fun t => k t s) = true := h
  obtain ⟨b, e, h⟩ := onB_true h
  have hv := valB_of (P := P) (o := o) (cf := cf) (dfr := c.dfr) (s := s) (by rw [ho]; exact three_run ha.1 ha.2.1 ha.2.2 t) (by rw [ho]; exact .inl rfl)
  rw [ho, e] at hv
  cases b with
  | true => exact BareOk.fin hnt hv h
  | false => exact BareOk.fin hnt hv h
theorem newO_ok {o : Oper} {e : TypeId} {z : AV} (ho : o.op = .alloc e) (hz : zeroT P e = some z) : BareOk P nt o (newO d nt (bigT P e) z.cells o.dst) := by
  intro c cf hc t s k h
  have h : newF s (rowOf (bigT P e) z.cells) (fun b s => (dstP d nt o.dst).run (.ptr b 0) t fun t => k t s) = true := by
    unfold newO at h
    cases hb : bigT P e with
    | true => rw [hb] at h; exact h
    | false => rw [hb] at h; exact h
  have h := newF_true h
  refine BareOk.fin hnt ?_ h
  rw [valB_of (a := []) (by rw [ho]; rfl) (by rw [ho]; exact .inl rfl), ho]
  have : opK P (.alloc e) = (match zeroT P e with | some z => ⟨fun _ _ s => s.new (rowOf (bigT P e) z.cells) fun b s => .ok (.ptr b 0) s⟩ | none => failK "alloc") := rfl
  rw [this, hz]
  rfl
theorem boxO_ok {o : Oper} {e : TypeId} {x : Operand} (ho : o.op = .box e x) (h1 : opndOk x = true) : BareOk P nt o (boxO d nt (bigT P e) x o.dst) := by
  intro c cf hc t s k h
  have h : newF s (rowOf (bigT P e) ((opnd d x).run t).cells) (fun b s => (dstP d nt o.dst).run (.ptr b 0) t fun t => k t s) = true := by
    unfold boxO at h
    cases hb : bigT P e with
    | true => rw [hb] at h; exact h
    | false => rw [hb] at h; exact h
  have h := newF_true h
  refine BareOk.fin hnt ?_ h
  rw [valB_of (by rw [ho]; exact one_run h1 t) (by rw [ho]; exact .inl rfl), ho]
  rfl
theorem binO_ok {o : Oper} {op : BinOp} {ty : TypeId} {x y : Operand} {p : TypeId} {i64 : Bool} (ho : o.op = .binOp op ty x y p) (ha : opndOk x = true ∧ opndOk y = true) : BareOk P nt o (binO d nt i64 op x y o.dst) := by
  intro c cf hc t s k h
  have h : (lanF op (cond i64 (binF op) (binH op))).run ((opnd d x).run t) ((opnd d y).run t) (fun v => (dstP d nt o.dst).run v t fun t => k t s) = true := h
  have hb : BinTo op (lanF op (cond i64 (binF op) (binH op))).run := lanF_to (by cases i64; exact binH_to op; exact binF_to op)
  obtain ⟨v, e, h⟩ := hb _ _ _ h
  refine BareOk.fin hnt ?_ h
  rw [valB_of (by rw [ho]; exact two_run ha.1 ha.2 t) (by rw [ho]; exact .inl rfl), ho]
  show (binK P op ty x y).run cf _ s = _
  cases op <;> (unfold binK; dsimp only; rw [e]; try rfl)
theorem fieldO_ok {o : Oper} {ty : TypeId} {x : Operand} {f : Nat} {fs : Array Field} {q : Field} (ho : o.op = .fieldAddr ty x f) (h1 : opndOk x = true) (hu : P.underlying ty = some (.struct fs)) (hf : fs[f]? = some q)
    (hk : (tyOk P q.type && !(Nat.beq (sizeT P q.type) 0)) = true) : BareOk P nt o (fieldO d nt q.offset x o.dst) := by
  intro c cf hc t s k h
  have h : onPtr ((opnd d x).run t) (fun b o' => (dstP d nt o.dst).run (.ptr b (Nat.add o' q.offset)) t fun t => k t s) = true := h
  obtain ⟨b, o', e, h⟩ := onPtr_true h
  refine BareOk.fin hnt ?_ h
  rw [valB_of (by rw [ho]; exact one_run h1 t) (by rw [ho]; exact .inl rfl), ho, e]
  show (fieldAddrK P ty f).run cf _ s = _
  unfold fieldAddrK
  rw [hu]; dsimp only; rw [hf]; dsimp only; rw [hk]; rfl
theorem loadO_ok {o : Oper} {ty : TypeId} {x : Operand} (ho : o.op = .load ty x) (h1 : opndOk x = true) (hk : tyOk P ty = true) : BareOk P nt o (loadO d nt (isAggT P ty) (sizeT P ty) x o.dst) := by
  intro c cf hc t s k h
  have hv : valB P o cf (toF t) c.dfr s = (loadK P ty).run cf [(opnd d x).run t] s := by
    rw [valB_of (by rw [ho]; exact one_run h1 t) (by rw [ho]; exact .inl rfl), ho]; rfl
  unfold loadK at hv
  rw [hk] at hv
  dsimp only [cond] at hv
  cases hag : isAggT P ty with
  | true =>
    rw [hag] at h hv
    have h : onPtr ((opnd d x).run t) (fun b o' => loadG (sizeT P ty) b o' s fun v s => (dstP d nt o.dst).run v t fun t => k t s) = true := h
    obtain ⟨b, o', e, h⟩ := onPtr_true h
    obtain ⟨v, s', e2, h⟩ := loadG_true h
    rw [e] at hv
    exact BareOk.fin hnt (hv.trans e2) h
  | false =>
    rw [hag] at h hv
    have h : onPtr ((opnd d x).run t) (fun b o' => load1 b o' s fun v s => (dstP d nt o.dst).run v t fun t => k t s) = true := h
    obtain ⟨b, o', e, h⟩ := onPtr_true h
    obtain ⟨v, s', e2, h⟩ := load1_true h
    rw [e] at hv
    exact BareOk.fin hnt (hv.trans e2) h
theorem storeO_ok {o : Oper} {ty : TypeId} {x y : Operand} {ag : Bool} (ho : o.op = .store ty x y) (ha : opndOk x = true ∧ opndOk y = true) (hk : tyOk P ty = true) (hag : ag = (!(Nat.beq (sizeT P ty) 1) || isAggT P ty)) : BareOk P nt o (storeO d nt ag (sizeT P ty) x y o.dst) := by
  intro c cf hc t s k h
  have hv : valB P o cf (toF t) c.dfr s = (storeK P ty).run cf [(opnd d x).run t, (opnd d y).run t] s := by
    rw [valB_of (by rw [ho]; exact two_run ha.1 ha.2 t) (by rw [ho]; exact .inl rfl), ho]; rfl
  unfold storeK at hv
  rw [hk] at hv
  dsimp only [cond] at hv
  cases ag with
  | true =>
    have h : onPtr ((opnd d x).run t) (fun b o' => storeG (sizeT P ty) b o' ((opnd d y).run t) s fun s => (dstP d nt o.dst).run undefA t fun t => k t s) = true := h
    obtain ⟨b, o', e, h⟩ := onPtr_true h
    obtain ⟨hl, s', e2, h⟩ := storeG_true h
    rw [e] at hv
    dsimp only at hv
    rw [hl, Nat.beq_refl] at hv
    exact BareOk.fin hnt (hv.trans e2) h
  | false =>
    have h : onPtr ((opnd d x).run t) (fun b o' => store1 b o' ((opnd d y).run t) s fun s => (dstP d nt o.dst).run undefA t fun t => k t s) = true := h
    obtain ⟨b, o', e, h⟩ := onPtr_true h
    obtain ⟨hp, s', e2, h⟩ := store1_true h
    have h1 : Nat.beq (sizeT P ty) 1 = true := by
      cases hb : Nat.beq (sizeT P ty) 1 with
      | true => rfl
      | false => rw [hb] at hag; cases hag
    have hc1 : ((opnd d y).run t).cells = [(opnd d y).run t] := by
      revert hp
      cases (opnd d y).run t <;> intro hp <;> first | rfl | cases hp
    rw [e] at hv
    dsimp only at hv
    rw [hc1, Nat.eq_of_beq_eq_true h1] at hv
    exact BareOk.fin hnt (hv.trans e2) h
theorem nilO_ok {o : Oper} {x : Operand} (ho : o.op = .nilCheck x) (h1 : opndOk x = true) : BareOk P nt o (nilO P d nt o x) := by
  intro c cf hc t s k h
  have h : Bool.rec (motive := fun _ => Bool) ((slowO P d nt o).run c t s k) ((dstP d nt o.dst).run ((opnd d x).run t) t fun t => k t s) (isPtrA ((opnd d x).run t)) = true := h
  rcases brec h with ⟨e, h⟩ | ⟨_, h⟩
  · obtain ⟨b, o', e⟩ := isPtrA_true e
    refine BareOk.fin hnt ?_ h
    rw [valB_of (by rw [ho]; exact one_run h1 t) (by rw [ho]; exact .inl rfl), ho, e]
    rfl
  · exact slowO_ok hnt (by rw [ho]; simp [Op.operands, h1]) (by rw [ho]; rfl) (by rw [ho]; exact .inl rfl) c cf hc t s k h
theorem idxO_ok {o : Oper} {ty e : TypeId} {x y : Operand} (ho : o.op = .indexAddr ty x y) (ha : opndOk x = true ∧ opndOk y = true) (hu : P.underlying ty = some (.slice e)) (hk : tyOk P e = true) : BareOk P nt o (idxO d nt (sizeT P e) x y o.dst) := by
  intro c cf hc t s k h
  have h : onSlc ((opnd d x).run t) (fun b o' n => onInt ((opnd d y).run t) fun _ i => Int.rec (motive := fun _ => Bool) (fun i => Bool.rec (motive := fun _ => Bool) false ((dstP d nt o.dst).run (.ptr b (Nat.add o' (Nat.mul i (sizeT P e)))) t fun t => k t s) (Nat.ble (Nat.succ i) n)) (fun _ => false) i) = true := h
  obtain ⟨b, o', n, p, q, e1, h⟩ := onSlc_true h
  obtain ⟨kk, i, e2, h⟩ := onInt_true (x := (opnd d y).run t) h
  cases i with
  | negSucc => cases h
  | ofNat i =>
    obtain ⟨e3, h⟩ := brec_t h
    refine BareOk.fin hnt ?_ h
    rw [valB_of (by rw [ho]; exact two_run ha.1 ha.2 t) (by rw [ho]; exact .inl rfl), ho, e1, e2]
    show (indexAddrK P ty).run cf _ s = _
    unfold indexAddrK
    rw [hu]; dsimp only; rw [hk]
    show cond (Nat.blt i n) _ _ = _
    rw [show Nat.blt i n = true from e3]
    rfl
theorem lenO_ok {o : Oper} {c0 : Call} {ty e : TypeId} {x : Operand} (ho : o.op = .call c0) (hc0 : c0.callee = .builtin .len) (ht : c0.argTypes.toList = [ty]) (hx : c0.args.toList = [x]) (hu : P.underlying ty = some (.slice e)) (h1 : opndOk x = true) : BareOk P nt o (lenO d nt x o.dst) := by
  intro c cf hc t s k h
  have h : lenF ((opnd d x).run t) (fun n => (dstP d nt o.dst).run (.int .i64 (.ofNat n)) t fun t => k t s) = true := h
  obtain ⟨n, e1, h⟩ := lenF_true h
  refine BareOk.fin hnt ?_ h
  have hop : o.op.operands.toList = [x] := by rw [ho]; simpa [Op.operands, Call.operands, hc0] using hx
  have hw : wayOf o.op = .val := by rw [ho]; unfold wayOf; obtain ⟨a, b, c⟩ := c0; dsimp only at hc0; subst hc0; rfl
  rw [valB_of (by rw [hop]; exact one_run h1 t) (.inl hw), ho]
  show (callK P c0).run cf _ s = _
  unfold callK
  rw [hc0]
  show (lenK P c0.argTypes.toList).run cf _ s = _
  rw [ht]
  unfold lenK
  dsimp only
  rw [hu]
  dsimp only
  rw [e1]
  rfl
theorem extO_ok {o : Oper} {x : Operand} {i : Nat} (ho : o.op = .extract x i) (h1 : opndOk x = true) : BareOk P nt o (extO d nt i x o.dst) := by
  intro c cf hc t s k h
  have h : onTup ((opnd d x).run t) (fun l => List.rec (motive := fun _ => Bool) false (fun v _ _ => (dstP d nt o.dst).run v t fun t => k t s) (dropN i l)) = true := h
  obtain ⟨l, e1, h⟩ := onTup_true h
  have h : List.rec (motive := fun _ => Bool) false (fun v _ _ => (dstP d nt o.dst).run v t fun t => k t s) (dropN i l) = true := h
  rw [dropN_eq] at h
  cases hl : l.drop i with
  | nil => rw [hl] at h; cases h
  | cons v m =>
    rw [hl] at h
    refine BareOk.fin hnt ?_ h
    rw [valB_of (by rw [ho]; exact one_run h1 t) (by rw [ho]; exact .inl rfl), ho, e1]
    show (match l.drop i with | v :: _ => Rs.ok v s | [] => Rs.no "extract") = _
    rw [hl]
theorem convO_ok {o : Oper} {x : Operand} {a b : TypeId} {q0 q : IntKind} {slow : OF d} (ho : o.op = .convert a b x) (h1 : opndOk x = true) (ha : P.underlying a = some (.int q0)) (hb : P.underlying b = some (.int q)) (hs : BareOk P nt o slow) : BareOk P nt o (convO d nt q x slow o.dst) := by
  intro c cf hc t s k h
  have h : Bool.rec (motive := fun _ => Bool) (onInt ((opnd d x).run t) (fun _ a => Int.rec (motive := fun _ => Bool) (fun a => Bool.rec (motive := fun _ => Bool) (slow.run c t s k) ((dstP d nt o.dst).run (.int q (.ofNat a)) t fun t => k t s) (Nat.ble (Nat.succ a) (kLim q))) (fun _ => slow.run c t s k) a)) (slow.run c t s k) (isLan ((opnd d x).run t)) = true := h
  rcases brec h with ⟨_, h⟩ | ⟨_, h⟩
  · exact hs c cf hc t s k h
  obtain ⟨kk, n, e1, h⟩ := onInt_true h
  cases n with
  | negSucc => exact hs c cf hc t s k h
  | ofNat n =>
    rcases brec h with ⟨e2, h⟩ | ⟨_, h⟩
    · refine BareOk.fin hnt ?_ h
      rw [valB_of (by rw [ho]; exact one_run h1 t) (by rw [ho]; exact .inl rfl), ho, e1]
      show (convertK P a b).run cf _ s = _
      unfold convertK
      rw [ha, hb]
      show Rs.ok (AV.int q (wrapA q (n : Int))) s = _
      unfold wrapA
      rw [wrap_id q n (succ_le e2)]
      rfl
    · exact hs c cf hc t s k h
theorem notO_ok {o : Oper} {x : Operand} {ty : TypeId} (ho : o.op = .unOp .not ty x) (h1 : opndOk x = true) : BareOk P nt o (notO d nt x o.dst) := by
  intro c cf hc t s k h
  have h : onB ((opnd d x).run t) ((dstP d nt o.dst).run (.bool false) t fun t => k t s) ((dstP d nt o.dst).run (.bool true) t fun t => k t s) = true := h
  obtain ⟨b, e, h⟩ := onB_true h
  have hv := valB_of (P := P) (o := o) (cf := cf) (dfr := c.dfr) (s := s) (by rw [ho]; exact one_run h1 t) (by rw [ho]; exact .inl rfl)
  rw [ho, e] at hv
  cases b with
  | true => exact BareOk.fin hnt hv h
  | false => exact BareOk.fin hnt hv h
theorem callO_ok {o : Oper} {c0 : Call} {f : FuncId} (ho : o.op = .call c0) (hc0 : c0.callee = .value (.func f)) (ha : c0.args.toList.all opndOk = true) : BareOk P nt o (callO d nt f c0.args.toList o.dst) := by
  intro c cf hc t s k h
  obtain ⟨cF, cd, b⟩ := c
  have h : cF f ((opnds d c0.args.toList).run t) s (fun v s => (dstP d nt o.dst).run v t fun t => k t s) = true := h
  obtain ⟨v, s', e1, h⟩ := hc _ _ _ _ h
  have hop : o.op.operands.toList = .func f :: c0.args.toList := by rw [ho]; simp [Op.operands, Call.operands, hc0]
  have hw : wayOf o.op = .val := by rw [ho]; unfold wayOf; obtain ⟨a, b, c⟩ := c0; dsimp only at hc0; subst hc0; rfl
  refine BareOk.fin hnt ?_ h
  rw [valB_of (by rw [hop]; exact opnds_run (by simp [opndOk, ha]) t) (.inl hw), ho]
  show (callK P c0).run cf _ s = _
  unfold callK
  rw [hc0]
  exact e1
omit hnt in
theorem callM_true {cF : CallZ} {cf : CallF} (hc : CallsOk cF cf) {recv : AV} {name : String} {args : List AV} {s : S} {κ : AV → S → Bool} (h : callM P cF recv name args s κ = true) : ∃ v s', callMethodA P cf recv name args s = .ok v s' ∧ κ v s' = true := by
  unfold callM at h
  unfold callMethodA
  split at h
  · rename_i ty v
    dsimp only
    split at h
    · rename_i f hf; rw [hf]; exact hc _ _ _ _ h
    · cases h
  · cases h
omit hnt in
theorem callV_true {cF : CallZ} {cf : CallF} (hc : CallsOk cF cf) {f : AV} {args : List AV} {s : S} {κ : AV → S → Bool} (h : callV P cF f args s κ = true) : ∃ v s', callVal P cf f args s = .ok v s' ∧ κ v s' = true := by
  unfold callV at h
  unfold callVal
  split at h
  · exact hc _ _ _ _ h
  · dsimp only
    split at h
    · rename_i e; rw [e]; exact callM_true hc h
    · cases h
  · cases h
omit hnt in
theorem value_ops {o : Oper} {c0 : Call} {x : Operand} (ho : o.op = .call c0) (hc0 : c0.callee = .value x) : o.op.operands.toList = x :: c0.args.toList ∧ wayOf o.op = .val := by
  refine ⟨by rw [ho]; simp [Op.operands, Call.operands, hc0], ?_⟩
  rw [ho]; unfold wayOf; obtain ⟨a, b, c⟩ := c0; dsimp only at hc0; subst hc0; rfl
theorem callVO_ok {o : Oper} {c0 : Call} {x : Operand} (ho : o.op = .call c0) (hc0 : c0.callee = .value x) (hx : ∀ f, x ≠ .func f) (h1 : opndOk x = true) (ha : c0.args.toList.all opndOk = true) : BareOk P nt o (callVO P d nt x c0.args.toList o.dst) := by
  intro c cf hc t s k h
  obtain ⟨cF, cd, b⟩ := c
  have h : callV P cF ((opnd d x).run t) ((opnds d c0.args.toList).run t) s (fun v s => (dstP d nt o.dst).run v t fun t => k t s) = true := h
  obtain ⟨v, s', e1, h⟩ := callV_true hc h
  obtain ⟨hop, hw⟩ := value_ops ho hc0
  refine BareOk.fin hnt ?_ h
  rw [valB_of (by rw [hop]; exact opnds_run (by simp [h1, ha]) t) (.inl hw), ho]
  show (callK P c0).run cf _ s = _
  unfold callK
  rw [hc0]
  cases x with
  | func f => exact absurd rfl (hx f)
  | _ => exact e1
theorem callIO_ok {o : Oper} {c0 : Call} {x : Operand} {name : String} (ho : o.op = .call c0) (hc0 : c0.callee = .invoke x name) (h1 : opndOk x = true) (ha : c0.args.toList.all opndOk = true) : BareOk P nt o (callIO P d nt x name c0.args.toList o.dst) := by
  intro c cf hc t s k h
  obtain ⟨cF, cd, b⟩ := c
  have h : callM P cF ((opnd d x).run t) name ((opnds d c0.args.toList).run t) s (fun v s => (dstP d nt o.dst).run v t fun t => k t s) = true := h
  obtain ⟨v, s', e1, h⟩ := callM_true hc h
  have hop : o.op.operands.toList = x :: c0.args.toList := by rw [ho]; simp [Op.operands, Call.operands, hc0]
  have hw : wayOf o.op = .val := by rw [ho]; unfold wayOf; obtain ⟨a, b, c⟩ := c0; dsimp only at hc0; subst hc0; rfl
  refine BareOk.fin hnt ?_ h
  rw [valB_of (by rw [hop]; exact opnds_run (by simp [h1, ha]) t) (.inl hw), ho]
  show (callK P c0).run cf _ s = _
  unfold callK
  rw [hc0]
  exact e1
theorem rcvO_ok {o : Oper} {c0 : Call} (ho : o.op = .call c0) (hc0 : c0.callee = .builtin .recover) (ha : c0.args.toList.all opndOk = true) : BareOk P nt o (rcvO d nt o.dst) := by
  intro c cf hc t s k h
  obtain ⟨cF, cd, b⟩ := c
  have h : Bool.rec (motive := fun _ => Bool) false ((dstP d nt o.dst).run .nili t fun t => k t s) b = true := h
  obtain ⟨e, h⟩ := brec_t h
  have hop : o.op.operands.toList = c0.args.toList := by rw [ho]; simp [Op.operands, Call.operands, hc0]
  have hw : wayOf o.op = .rcv := by rw [ho]; unfold wayOf; obtain ⟨a, b, c⟩ := c0; dsimp only at hc0; subst hc0; rfl
  refine BareOk.fin hnt ?_ h
  unfold valB
  rw [hop, opnds_run (d := d) ha t, hw]
  show cond b _ _ = _
  rw [e]; rfl
theorem slowO_any {o : Oper} (ha : o.op.operands.toList.all opndOk = true) (hs : stillOp o.op = true) : BareOk P nt o (slowO P d nt o) := by
  cases hw : wayOf o.op with
  | val => exact slowO_ok hnt ha hs (.inl hw)
  | com => exact slowO_ok hnt ha hs (.inr hw)
  | dfr =>
    intro c cf hc t s k h
    have h : Rs.rec (motive := fun _ => Bool) (fun _ => false) (fun v s => (dstP d nt o.dst).run v t fun t => k t s) ((opK P o.op).run dum ((opnds d o.op.operands.toList).run t) s) = true := h
    unfold wayOf at hw
    split at hw
    · rename_i q hq; rw [hq] at h; cases h
    all_goals cases hw
  | rcv =>
    intro c cf hc t s k h
    have h : Rs.rec (motive := fun _ => Bool) (fun _ => false) (fun v s => (dstP d nt o.dst).run v t fun t => k t s) ((opK P o.op).run dum ((opnds d o.op.operands.toList).run t) s) = true := h
    unfold wayOf at hw
    split at hw
    · cases hw
    · rename_i q hq; rw [hq] at h; cases h
    all_goals cases hw
theorem bareO_ok {o : Oper} (ha : o.op.operands.toList.all opndOk = true) : BareOk P nt o (bareO P d nt o) := by
  unfold bareO
  split
  · rename_i x ho; rw [ho] at ha; exact moveO_ok hnt (.inl ho) (all1 ha)
  · rename_i x ho; rw [ho] at ha; exact moveO_ok hnt (.inr ho) (all1 ha)
  · rename_i x y z ho; rw [ho] at ha; exact pickO_ok hnt ho (all3 ha)
  · rename_i e ho
    split
    · rename_i z hz; exact newO_ok hnt ho hz
    · exact noO_ok
  · rename_i e x ho; rw [ho] at ha; exact boxO_ok hnt ho (all1 ha)
  · rename_i op ty x y p ho
    cases isAnyIntT P ty with
    | true => rw [ho] at ha; exact binO_ok hnt ho (all2 ha)
    | false => exact slowO_any hnt ha (by rw [ho]; rfl)
  · rename_i ty x f ho
    rw [ho] at ha
    split
    · rename_i fs hu
      split
      · rename_i q hq
        cases hk : (tyOk P q.type && !(Nat.beq (sizeT P q.type) 0)) with
        | true => exact fieldO_ok hnt ho (all1 ha) hu hq hk
        | false => exact noO_ok
      · exact noO_ok
    · exact noO_ok
  · rename_i ty x ho
    rw [ho] at ha
    cases hk : tyOk P ty with
    | true => exact loadO_ok hnt ho (all1 ha) hk
    | false => exact noO_ok
  · rename_i ty x y ho
    rw [ho] at ha
    cases hk : tyOk P ty with
    | true => exact storeO_ok hnt ho (all2 ha) hk rfl
    | false => exact noO_ok
  · rename_i x ho; rw [ho] at ha; exact nilO_ok hnt ho (all1 ha)
  · rename_i a b x ho
    split
    · rename_i q0 q h1 h2
      have ha' := ha
      rw [ho] at ha'
      exact convO_ok hnt ho (all1 ha') h1 h2 (slowO_any hnt ha (by rw [ho]; rfl))
    · exact slowO_any hnt ha (by rw [ho]; rfl)
  · rename_i ty x ho; rw [ho] at ha; exact notO_ok hnt ho (all1 ha)
  · rename_i ty x y ho
    split
    · rename_i e hu
      rw [ho] at ha
      cases hk : tyOk P e with
      | true => exact idxO_ok hnt ho (all2 ha) hu hk
      | false => exact noO_ok
    · exact slowO_any hnt ha (by rw [ho]; rfl)
  · rename_i x i ho; rw [ho] at ha; exact extO_ok hnt ho (all1 ha)
  · rename_i c ho
    split
    · rename_i f hc
      rw [ho] at ha
      simp only [Op.operands, Call.operands, hc, Array.toList_append, List.all_append, Bool.and_eq_true] at ha
      exact callO_ok hnt ho hc ha.2
    · rename_i x hx hc
      rw [ho] at ha
      simp only [Op.operands, Call.operands, hc, Array.toList_append, List.all_append, Bool.and_eq_true] at ha
      exact callVO_ok hnt ho hc hx (all1 ha.1) ha.2
    · rename_i x name hc
      rw [ho] at ha
      simp only [Op.operands, Call.operands, hc, Array.toList_append, List.all_append, Bool.and_eq_true] at ha
      exact callIO_ok hnt ho hc (all1 ha.1) ha.2
    · rename_i hc
      rw [ho] at ha
      simp only [Op.operands, Call.operands, hc, Array.toList_append, List.all_append, Bool.and_eq_true] at ha
      exact rcvO_ok hnt ho hc ha.2
    · rename_i hc
      split
      · rename_i ty x h1 h2
        split
        · rename_i e hu
          rw [ho] at ha
          simp only [Op.operands, Call.operands, hc, Array.toList_append, List.all_append, Bool.and_eq_true, h2] at ha
          exact lenO_ok hnt ho hc h1 h2 hu (all1 ha.2)
        · exact slowO_any hnt ha (by rw [ho]; unfold stillOp; simp [hc])
      · exact slowO_any hnt ha (by rw [ho]; unfold stillOp; simp [hc])
    · rename_i b _ _ hc
      exact slowO_any hnt ha (by rw [ho]; unfold stillOp; simp [hc])
  · refine slowO_any hnt ha ?_
    unfold stillOp
    split
    · rename_i c hc; exact absurd hc (by intro h; simp_all)
    · rfl
end
end Go.Ev
namespace Go.Ev
section
variable {P : Program} {d nt : Nat}
/-- One operation of a region. -/
def StepOk (P : Program) (nt : Nat) (ops : Array Oper) (o : Oper) (f : OF d) : Prop := ∀ (c : Cx) (cf : CallF), CallsOk c.cf cf → ∀ t s k, f.run c t s k = true →
  ∃ t' s', (∀ ds, stepOp P nt ops o cf ⟨toF t, ds, c.dfr⟩ s = .ok ⟨toF t', ds, c.dfr⟩ s') ∧ k t' s' = true
theorem valB_step {ops : Array Oper} {o : Oper} {cf : CallF} {t : Nat → AV} {ds : List DefA} {dfr : Bool} {s s' : S} {v : AV} (hv : valB P o cf t dfr s = .ok v s') (hw : wantedA ops o t = true) :
    stepOp P nt ops o cf ⟨t, ds, dfr⟩ s = .ok (Fr.put ⟨t, ds, dfr⟩ nt o.dst v) s' := by
  unfold valB at hv
  unfold stepOp
  dsimp only [prepK]
  rw [hw]
  dsimp only [cond]
  cases he : evs t o.op.operands.toList with
  | none => rw [he] at hv; cases hv
  | some a =>
    rw [he] at hv
    dsimp only at hv ⊢
    cases hway : wayOf o.op with
    | val => rw [hway] at hv; dsimp only at hv ⊢; rw [hv]
    | com => rw [hway] at hv; dsimp only at hv ⊢; rw [hv]
    | rcv =>
      rw [hway] at hv
      dsimp only at hv ⊢
      cases dfr with
      | false => cases hv
      | true => cases hv; rfl
    | dfr => rw [hway] at hv; cases hv
theorem opF_ok (hnt : nt ≤ 8 ^ d) (ops : Array Oper) (o : Oper) : StepOk P nt ops o (opF P d nt ops o) := by
  intro c cf hc t s k h
  unfold opF at h
  cases ha : o.op.operands.toList.all opndOk with
  | false => rw [ha] at h; cases h
  | true =>
    rw [ha] at h
    dsimp only [cond] at h
    have hb := bareO_ok (P := P) hnt ha
    have good : ∀ (t : TF d) (s : S) (k : TF d → S → Bool), (bareO P d nt o).run c t s k = true → wantedA ops o (toF t) = true → ∃ t' s', (∀ ds, stepOp P nt ops o cf ⟨toF t, ds, c.dfr⟩ s = .ok ⟨toF t', ds, c.dfr⟩ s') ∧ k t' s' = true := by
      intro t s k h hw
      obtain ⟨v, s', t', h1, h2, h3⟩ := hb c cf hc t s k h
      exact ⟨t', s', fun ds => by rw [valB_step h1 hw, h2], h3⟩
    have skip : ∀ (t : TF d) (s : S) (k : TF d → S → Bool), (dstP d nt o.dst).run undefA t (fun t => k t s) = true → wantedA ops o (toF t) = false → ∃ t' s', (∀ ds, stepOp P nt ops o cf ⟨toF t, ds, c.dfr⟩ s = .ok ⟨toF t', ds, c.dfr⟩ s') ∧ k t' s' = true := by
      intro t s k h hw
      obtain ⟨t', h2, h3⟩ := dst_true hnt h
      refine ⟨t', s, fun ds => ?_, h3⟩
      unfold stepOp
      rw [hw, h2]
      rfl
    unfold guardO at h
    cases hg : o.guard with
    | none =>
      rw [hg] at h
      refine good t s k h ?_
      unfold wantedA; rw [hg]
    | some jw =>
      obtain ⟨j, want⟩ := jw
      rw [hg] at h
      dsimp only at h
      cases hd : (ops[j]?).bind (·.dst) with
      | none => rw [hd] at h; cases h
      | some i =>
        rw [hd] at h
        have hwt : wantedA ops o (toF t) = (match toF t i with | .bool b => b == want | _ => false) := by
          unfold wantedA
          rw [hg]; dsimp only; rw [hd]
          rfl
        have hi : toF t i = (opnd d (.tmp i)).run t := by
          have := opnd_run (d := d) (o := .tmp i) rfl t
          exact Option.some.inj this
        rw [hi] at hwt
        cases want with
        | true =>
          have h : onB ((opnd d (.tmp i)).run t) ((bareO P d nt o).run c t s k) ((dstP d nt o.dst).run undefA t fun t => k t s) = true := h
          obtain ⟨b, e, h⟩ := onB_true h
          rw [e] at hwt
          cases b with
          | true => exact good t s k h hwt
          | false => exact skip t s k h hwt
        | false =>
          have h : onB ((opnd d (.tmp i)).run t) ((dstP d nt o.dst).run undefA t fun t => k t s) ((bareO P d nt o).run c t s k) = true := h
          obtain ⟨b, e, h⟩ := onB_true h
          rw [e] at hwt
          cases b with
          | true => exact skip t s k h hwt
          | false => exact good t s k h hwt
theorem dfrF_ok (hnt : nt ≤ 8 ^ d) {ops : Array Oper} {o : Oper} {c0 : Call} (ho : o.op = .defer c0) (c : Cx) (cf : CallF) (t : TF d) (ds : List DefA) (s : S) (k : X → TF d → List DefA → S → Bool) (h : (dfrF d nt o c0).run c t ds s k = true) :
    ∃ t' ds', stepOp P nt ops o cf ⟨toF t, ds, c.dfr⟩ s = .ok ⟨toF t', ds', c.dfr⟩ s ∧ k .nrm t' ds' s = true := by
  unfold dfrF at h
  split at h
  · rename_i x hx hg
    cases ha : (opndOk x && c0.args.toList.all opndOk) with
    | false => rw [ha] at h; cases h
    | true =>
      rw [ha] at h
      simp only [Bool.and_eq_true] at ha
      have h : onFn ((opnd d x).run t) (fun q fst cap => (dstP d nt o.dst).run undefA t fun t' => k .nrm t' (⟨q, cap, fst ++ (opnds d c0.args.toList).run t⟩ :: ds) s) = true := h
      obtain ⟨q, fst, cap, e, h⟩ := onFn_true h
      obtain ⟨t', h2, h3⟩ := dst_true hnt h
      refine ⟨t', _, ?_, h3⟩
      have hop : o.op.operands.toList = x :: c0.args.toList := by rw [ho]; simp [Op.operands, Call.operands, hx]
      have hev : evs (toF t) o.op.operands.toList = some ((opnd d x).run t :: (opnds d c0.args.toList).run t) := by
        rw [hop]; exact opnds_run (l := x :: c0.args.toList) (by simp only [List.all_cons, Bool.and_eq_true]; exact ha) t
      unfold stepOp
      have hw : wantedA ops o (toF t) = true := by unfold wantedA; rw [hg]
      dsimp only [prepK]
      rw [hw]
      dsimp only [cond]
      rw [hev, e]
      have hway : wayOf o.op = .dfr := by rw [ho]; rfl
      rw [hway]
      have hof : ofValueK o.op = true := by rw [ho]; unfold ofValueK; simp [hx]
      dsimp only
      rw [hof]
      dsimp only
      rw [h2]
  · cases h
/-- A piece of code. -/
def KfOk (f : KF d) (g : K) : Prop := ∀ (c : Cx) (cf : CallF), CallsOk c.cf cf → ∀ t ds s k, f.run c t ds s k = true → ∃ x t' ds' s', g.run cf ⟨toF t, ds, c.dfr⟩ s = .ok (x, ⟨toF t', ds', c.dfr⟩) s' ∧ k x t' ds' s' = true
/-- A piece of code, and what comes behind it. -/
def NxOk (f nx : KF d) (g : K) : Prop := ∀ (c : Cx) (cf : CallF), CallsOk c.cf cf → ∀ t ds s k, f.run c t ds s k = true →
  ∃ x t' ds' s', g.run cf ⟨toF t, ds, c.dfr⟩ s = .ok (x, ⟨toF t', ds', c.dfr⟩) s' ∧ (match x with | .nrm => nx.run c t' ds' s' k = true | x => k x t' ds' s' = true)
theorem regF_ok (hnt : nt ≤ 8 ^ d) (ops : Array Oper) (nx : KF d) : ∀ l : List Oper, NxOk (regF P d nt ops nx l) nx ⟨fun cf fr s => seqOps P nt ops l cf fr s⟩
  | [] => fun c cf hc t ds s k h => ⟨.nrm, t, ds, s, rfl, h⟩
  | o :: l => by
    intro c cf hc t ds s k h
    have ih := regF_ok hnt ops nx l
    have go : ∀ t' ds' s', stepOp P nt ops o cf ⟨toF t, ds, c.dfr⟩ s = .ok ⟨toF t', ds', c.dfr⟩ s' → (regF P d nt ops nx l).run c t' ds' s' k = true →
        ∃ x t' ds' s', seqOps P nt ops (o :: l) cf ⟨toF t, ds, c.dfr⟩ s = .ok (x, ⟨toF t', ds', c.dfr⟩) s' ∧ (match x with | .nrm => nx.run c t' ds' s' k = true | x => k x t' ds' s' = true) := by
      intro t' ds' s' h1 h2
      obtain ⟨x, t2, ds2, s2, h3, h4⟩ := ih c cf hc t' ds' s' k h2
      refine ⟨x, t2, ds2, s2, ?_, h4⟩
      show (match stepOp P nt ops o cf ⟨toF t, ds, c.dfr⟩ s with | .ok fr s => seqOps P nt ops l cf fr s | .no y => .no y) = _
      rw [h1]
      exact h3
    unfold regF at h
    split at h
    · rename_i c0 ho
      have h : (dfrF d nt o c0).run c t ds s (fun _ t ds s => (regF P d nt ops nx l).run c t ds s k) = true := h
      obtain ⟨t', ds', h1, h2⟩ := dfrF_ok (P := P) (ops := ops) hnt ho c cf t ds s _ h
      exact go t' ds' s h1 h2
    · have h : (opF P d nt ops o).run c t s (fun t s => (regF P d nt ops nx l).run c t ds s k) = true := h
      obtain ⟨t', s', h1, h2⟩ := opF_ok hnt ops o c cf hc t s _ h
      exact go t' ds s' (h1 ds) h2
end
end Go.Ev
namespace Go.Ev
/-- It leaves memory, and the logs, as they are. -/
def Still (k : OK) : Prop := ∀ cf a s v s', k.run cf a s = .ok v s' → s' = s
theorem ret_s {α : Type} {o : Option α} {s s' : S} {w : String} {v : α} (h : ret o s w = .ok v s') : s' = s := by
  unfold ret at h
  split at h
  · cases h; rfl
  · cases h
theorem Still.fail (w : String) : Still (failK w) := fun _ _ _ _ _ h => by cases h
theorem Still.cond {b : Bool} {x y : OK} (hx : Still x) (hy : Still y) : Still (cond b x y) := by cases b; exact hy; exact hx
section
variable (P : Program)
theorem binK_still (op : BinOp) (t : Nat) (x y : Operand) : Still (binK P op t x y) := by
  unfold binK
  dsimp only
  split <;> (intro cf a s v s' h; dsimp only at h; (repeat' split at h) <;> first | exact ret_s h | (cases h; rfl) | cases h)
theorem fieldAddrK_still (t f : Nat) : Still (fieldAddrK P t f) := by
  unfold fieldAddrK
  split
  · split
    · refine .cond ?_ (.fail _)
      intro cf a s v s' h; dsimp only at h; (repeat' split at h) <;> first | exact ret_s h | (cases h; rfl) | cases h
    · exact .fail _
  · exact .fail _
theorem fieldK_still (t f : Nat) : Still (fieldK P t f) := by
  unfold fieldK
  split
  · split
    · refine .cond ?_ (.fail _)
      intro cf a s v s' h; dsimp only at h; (repeat' split at h) <;> first | exact ret_s h | (cases h; rfl) | cases h
    · exact .fail _
  · exact .fail _
theorem cond_ok {α : Type} {b : Bool} {x y : Rs α} {r : Rs α} (h : cond b x y = r) : x = r ∨ y = r := by cases b; exact .inr h; exact .inl h
theorem indexAddrK_still (t : Nat) : Still (indexAddrK P t) := by
  unfold indexAddrK
  split
  · refine .cond (.fail _) ?_
    intro cf a s v s' h; dsimp only at h
    split at h
    · rcases cond_ok h with h | h <;> cases h; rfl
    · cases h
  · refine .cond (.fail _) ?_
    intro cf a s v s' h; dsimp only at h
    split at h
    · rcases cond_ok h with h | h <;> cases h; rfl
    · cases h
  · exact .fail _
theorem indexK_still (t : Nat) : Still (indexK P t) := by
  unfold indexK
  split
  · intro cf a s v s' h; dsimp only at h; (repeat' split at h) <;> first | (cases h; rfl) | cases h
  · refine .cond (.fail _) ?_
    intro cf a s v s' h; dsimp only at h
    split at h
    · rcases cond_ok h with h | h
      · exact ret_s h
      · cases h
    · cases h
  · exact .fail _
theorem buildK_still (t : Nat) (ps : List Nat) : Still (buildK P t ps) := by
  unfold buildK
  split
  · refine .cond ?_ (.fail _)
    intro cf a s v s' h; exact ret_s h
  · refine .cond ?_ (.fail _)
    intro cf a s v s' h; exact ret_s h
  · exact .fail _
theorem typeAssertK_still (t : Nat) (ok : Bool) : Still (typeAssertK P t ok) := by
  have hn : ∀ (z : AV) (s s' : S) (v : AV), notA ok z s = .ok v s' → s' = s := by
    intro z s s' v h
    unfold notA at h
    rcases cond_ok h with h | h <;> cases h
    rfl
  unfold typeAssertK
  split
  · split
    · intro cf a s v s' h; dsimp only at h; (repeat' split at h) <;> first | exact hn _ _ _ _ h | (cases h; rfl) | cases h
    · intro cf a s v s' h; dsimp only at h
      split at h
      · rcases cond_ok h with h | h
        · cases h; rfl
        · exact hn _ _ _ _ h
      · exact hn _ _ _ _ h
      · cases h
    · exact .fail _
  · exact .fail _
theorem capK_still (l : List Nat) : Still (capK P l) := by
  unfold capK
  split
  · split
    · intro cf a s v s' h; dsimp only at h; (repeat' split at h) <;> first | (cases h; rfl) | cases h
    · exact .fail _
  · exact .fail _
theorem mmK_still (m : Bool) : Still (mmK m) := by
  intro cf a s v s' h
  unfold mmK at h
  dsimp only at h
  (repeat' split at h) <;> first | exact ret_s h | cases h
theorem lenK_still {ty : Nat} (h : (match P.underlying ty with | some (.slice _) | some .string | some (.array _ _) => true | _ => false) = true) : Still (lenK P [ty]) := by
  unfold lenK
  dsimp only
  split
  · intro cf a s v s' h; dsimp only at h; (repeat' split at h) <;> first | (cases h; rfl) | cases h
  · rename_i hu; rw [hu] at h; cases h
  · intro cf a s v s' h; dsimp only at h; (repeat' split at h) <;> first | (cases h; rfl) | cases h
  · intro cf a s v s' h; dsimp only at h; (repeat' split at h) <;> first | (cases h; rfl) | cases h
  · rename_i hu; rw [hu] at h; cases h
  · exact .fail _
theorem opK_still {o : Oper} (h : pureO P o = true) (hw : wayOf o.op = .val ∨ wayOf o.op = .com) : Still (opK P o.op) := by
  unfold pureO at h
  split at h
  · rename_i ho; rw [ho]; intro cf a s v s' h; change idA a s = _ at h; unfold idA at h; split at h <;> cases h; rfl
  · rename_i ho; rw [ho]; intro cf a s v s' h; change idA a s = _ at h; unfold idA at h; split at h <;> cases h; rfl
  · rename_i ho; rw [ho]; intro cf a s v s' h; unfold opK at h; dsimp only at h; split at h <;> cases h; rfl
  · rename_i ho; rw [ho]; exact binK_still P _ _ _ _
  · rename_i ho; rw [ho]; intro cf a s v s' h; unfold opK at h; dsimp only at h; split at h
    · exact ret_s h
    · cases h
  · rename_i ho; rw [ho]; exact fieldAddrK_still P _ _
  · rename_i ho; rw [ho]; exact fieldK_still P _ _
  · rename_i ho; rw [ho]; exact indexAddrK_still P _
  · rename_i ho; rw [ho]; exact indexK_still P _
  · rename_i ho; rw [ho]; intro cf a s v s' h; unfold opK at h; dsimp only at h; (repeat' split at h) <;> first | (cases h; rfl) | cases h
  · rename_i ho; rw [ho]; intro cf a s v s' h; unfold opK at h; dsimp only at h; (repeat' split at h) <;> first | (cases h; rfl) | cases h
  · rename_i ho; rw [ho]; unfold opK; refine .cond ?_ (.fail _); intro cf a s v s' h; dsimp only at h; split at h <;> cases h; rfl
  · rename_i ho; rw [ho]; intro cf a s v s' h; unfold opK at h; cases h; rfl
  · rename_i ho; rw [ho]; exact buildK_still P _ _
  · rename_i ho; rw [ho]; exact typeAssertK_still P _ _
  · rename_i c ho
    rw [ho] at hw ⊢
    change Still (callK P c)
    unfold callK
    split at h
    · rename_i hc; rw [hc]; exact capK_still P _
    · rename_i hc; rw [hc]; exact mmK_still _
    · rename_i hc; rw [hc]; exact mmK_still _
    · rename_i hc
      exfalso
      unfold wayOf at hw
      obtain ⟨a, b, c⟩ := c
      dsimp only at hc
      subst hc
      rcases hw with hw | hw <;> cases hw
    · rename_i ty hc hty
      rw [hc]
      change Still (lenK P c.argTypes.toList)
      rw [hty]
      exact lenK_still P h
    · cases h
  · cases h
end
end Go.Ev
