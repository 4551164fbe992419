/- What the law asks, in parts: ZEv ZFa ZFk ZFkLit ZKx ZBk. -/
import GoSem.Step
import GoSem.ClaimOpen
import Derived.Orders
set_option linter.all false
set_option maxRecDepth 100000
set_option maxHeartbeats 16000000
open Bool renaming false→U,true→O,rec→aA
open Option renaming some→I,none→J,rec→gL
open Nat renaming beq→ak,ble→aG,succ→bS,blt→bM,rec→dm,min→j8,div→lC,mod→l7,add→pZ
open Go renaming Operand→aP,Program→aQ,Oper→aH,IntKind→cZ,BinOp→gY,ResultVar→lB
open List renaming rec→bK,cons→n_
open Go.Region renaming binds→cU
open UInt8 renaming ofNat→ew
open Int renaming rec→iF
open Go.Op renaming bytesLess→qO
open Go.IntKind renaming rec→zz
namespace Go.Ev
theorem bf{p:Prop}(h:p:=by omega):p:=h
theorem eM{p:Prop}(h:p:=by decide):p:=h
theorem dR{p:Prop}(h:p:=by simp):p:=h
theorem aaf{p:Prop}(h:p:=by rfl):p:=h
inductive Y where
 | bool (b:Bool)
 | int (k:cZ) (n:Int)
 | str (s:List UInt8)
 | q_
 | ptr (b off:Nat)
 | iC
 | slc (b off len:Nat) (opn:Bool) (c:Nat)
 | oM (b aag off d:Nat)
 | fG
 | map (b:Nat)
 | yF
 | chan (b:Nat)
 | yG
 | fn (f:Fn) (fst cap:List Y)
 | lV
 | qI (t:Nat) (v:Y)
 | agg (l:List Y)
 | dS (l:List Y)
 deriving Inhabited,BEq
inductive AO where
 | row (c:List Y) (opn:Nat)
 | map (es:List (Y×Y×Nat)) (clk:Nat)
 | chan (cap:Nat) (buf:List Y) (closed:Bool) (sent rcvd:Nat)
 | dead
 deriving Inhabited,BEq
structure Nd(α:Type) where
 a0:α
 a1:α
 a2:α
 a3:α
 a4:α
 a5:α
 a6:α
 a7:α
def Nd.nth{α:Type}(t:Nd α)(i:Nat):α:=match i with
 | 0=>t.a0
 | 1=>t.a1
 | 2=>t.a2
 | 3=>t.a3
 | 4=>t.a4
 | 5=>t.a5
 | 6=>t.a6
 | _=>t.a7
def Nd.upd{α:Type}(t:Nd α)(i:Nat)(x:α):Nd α:=match i with
 | 0=> { t with a0:=x }
 | 1=> { t with a1:=x }
 | 2=> { t with a2:=x }
 | 3=> { t with a3:=x }
 | 4=> { t with a4:=x }
 | 5=> { t with a5:=x }
 | 6=> { t with a6:=x }
 | _=> { t with a7:=x }
def Nd.all{α:Type}(x:α):Nd α:=⟨x,x,x,x,x,x,x,x⟩
def TT(α:Type):Nat→Type
 | 0=>α
 | d+1=>Nd (TT α d)
def TT.get{α:Type}:(d:Nat)→Nat→TT α d→α
 | 0,_,t=>t
 | d+1,i,t=>TT.get d (i/8) (Nd.nth t (i%8))
def TT.set{α:Type}:(d:Nat)→Nat→α→TT α d→TT α d
 | 0,_,v,_=>v
 | d+1,i,v,t=>Nd.upd t (i%8) (TT.set d (i/8) v (Nd.nth t (i%8)))
def TT.all{α:Type}(v:α):(d:Nat)→TT α d
 | 0=>v
 | d+1=>Nd.all (TT.all v d)
structure tG(α:Type)(d:Nat) where
 run:TT α d→α
structure Put(α:Type)(d:Nat) where
 run:α→TT α d→(TT α d→Bool)→Bool
structure ER(α:Type)(d:Nat) where
 run:α→TT α d→TT α d
structure PJ(β:Type) where
 run:Nd β→β
structure UJ(β:Type) where
 run:(β→(β→Bool)→Bool)→Nd β→(Nd β→Bool)→Bool
structure VJ(β:Type) where
 run:(β→β)→Nd β→Nd β
noncomputable def pj(β:Type)(i:Nat):PJ β:=dm ⟨fun t=>t.a0⟩ (fun i _=>dm ⟨fun t=>t.a1⟩ (fun i _=>dm ⟨fun t=>t.a2⟩ (fun i _=>dm ⟨fun t=>t.a3⟩ (fun i _=>dm ⟨fun t=>t.a4⟩ (fun i _=>dm ⟨fun t=>t.a5⟩ (fun i _=>dm ⟨fun t=>t.a6⟩ (fun i _=>⟨fun t=>t.a7⟩) i) i) i) i) i) i) i
noncomputable def uj(β:Type)(i:Nat):UJ β:=dm ⟨fun g t k=>Nd.rec (fun a0 a1 a2 a3 a4 a5 a6 a7=>g a0 fun x=>k (Nd.mk x a1 a2 a3 a4 a5 a6 a7)) t⟩ (fun i _=>dm ⟨fun g t k=>Nd.rec (fun a0 a1 a2 a3 a4 a5 a6 a7=>g a1 fun x=>k (Nd.mk a0 x a2 a3 a4 a5 a6 a7)) t⟩ (fun i _=>dm ⟨fun g t k=>Nd.rec (fun a0 a1 a2 a3 a4 a5 a6 a7=>g a2 fun x=>k (Nd.mk a0 a1 x a3 a4 a5 a6 a7)) t⟩ (fun i _=>dm ⟨fun g t k=>Nd.rec (fun a0 a1 a2 a3 a4 a5 a6 a7=>g a3 fun x=>k (Nd.mk a0 a1 a2 x a4 a5 a6 a7)) t⟩ (fun i _=>dm ⟨fun g t k=>Nd.rec (fun a0 a1 a2 a3 a4 a5 a6 a7=>g a4 fun x=>k (Nd.mk a0 a1 a2 a3 x a5 a6 a7)) t⟩ (fun i _=>dm ⟨fun g t k=>Nd.rec (fun a0 a1 a2 a3 a4 a5 a6 a7=>g a5 fun x=>k (Nd.mk a0 a1 a2 a3 a4 x a6 a7)) t⟩ (fun i _=>dm ⟨fun g t k=>Nd.rec (fun a0 a1 a2 a3 a4 a5 a6 a7=>g a6 fun x=>k (Nd.mk a0 a1 a2 a3 a4 a5 x a7)) t⟩ (fun i _=>⟨fun g t k=>Nd.rec (fun a0 a1 a2 a3 a4 a5 a6 a7=>g a7 fun x=>k (Nd.mk a0 a1 a2 a3 a4 a5 a6 x)) t⟩) i) i) i) i) i) i) i
noncomputable def vj(β:Type)(i:Nat):VJ β:=dm ⟨fun g t=>Nd.rec (fun a0 a1 a2 a3 a4 a5 a6 a7=>Nd.mk (g a0) a1 a2 a3 a4 a5 a6 a7) t⟩ (fun i _=>dm ⟨fun g t=>Nd.rec (fun a0 a1 a2 a3 a4 a5 a6 a7=>Nd.mk a0 (g a1) a2 a3 a4 a5 a6 a7) t⟩ (fun i _=>dm ⟨fun g t=>Nd.rec (fun a0 a1 a2 a3 a4 a5 a6 a7=>Nd.mk a0 a1 (g a2) a3 a4 a5 a6 a7) t⟩ (fun i _=>dm ⟨fun g t=>Nd.rec (fun a0 a1 a2 a3 a4 a5 a6 a7=>Nd.mk a0 a1 a2 (g a3) a4 a5 a6 a7) t⟩ (fun i _=>dm ⟨fun g t=>Nd.rec (fun a0 a1 a2 a3 a4 a5 a6 a7=>Nd.mk a0 a1 a2 a3 (g a4) a5 a6 a7) t⟩ (fun i _=>dm ⟨fun g t=>Nd.rec (fun a0 a1 a2 a3 a4 a5 a6 a7=>Nd.mk a0 a1 a2 a3 a4 (g a5) a6 a7) t⟩ (fun i _=>dm ⟨fun g t=>Nd.rec (fun a0 a1 a2 a3 a4 a5 a6 a7=>Nd.mk a0 a1 a2 a3 a4 a5 (g a6) a7) t⟩ (fun i _=>⟨fun g t=>Nd.rec (fun a0 a1 a2 a3 a4 a5 a6 a7=>Nd.mk a0 a1 a2 a3 a4 a5 a6 (g a7)) t⟩) i) i) i) i) i) i) i
noncomputable def sel{α:Type}(d:Nat):Nat→tG α d:=dm (motive:=fun d=>Nat→tG α d) (fun _=>⟨fun t=>t⟩)
 (fun d a i=>tG.rec (fun f=>PJ.rec (fun p=>⟨fun (t:Nd (TT α d))=>f (p t)⟩) (pj (TT α d) (l7 i (nat_lit 8)))) (dm (a (nat_lit 0)) (fun m _=>a (bS m)) (lC i (nat_lit 8)))) d
noncomputable def put{α:Type}(d:Nat):Nat→Put α d:=dm (motive:=fun d=>Nat→Put α d) (fun _=>⟨fun v _ k=>k v⟩)
 (fun d a i=>Put.rec (fun f=>UJ.rec (fun u=>⟨fun v (t:Nd (TT α d)) k=>u (f v) t k⟩) (uj (TT α d) (l7 i (nat_lit 8)))) (dm (a (nat_lit 0)) (fun m _=>a (bS m)) (lC i (nat_lit 8)))) d
noncomputable def ups{α:Type}(d:Nat):Nat→ER α d:=dm (motive:=fun d=>Nat→ER α d) (fun _=>⟨fun v _=>v⟩)
 (fun d a i=>ER.rec (fun f=>VJ.rec (fun u=>⟨fun v (t:Nd (TT α d))=>u (f v) t⟩) (vj (TT α d) (l7 i (nat_lit 8)))) (dm (a (nat_lit 0)) (fun m _=>a (bS m)) (lC i (nat_lit 8)))) d
structure Tr(α:Type) where
 t:TT (Option α) 6
 o:List (Nat×α)
def Tr.e{α:Type}:Tr α:=⟨TT.all J 6,[]⟩
def Tr.far{α:Type}(k:Nat):List (Nat×α)→Option α
 | []=>J
 | x::l=>cond (ak k x.1) (I x.2) (Tr.far k l)
noncomputable def Tr.get{α:Type}(t:Tr α)(k:Nat):Option α:=aA (Tr.far k t.o) ((sel 6 k).run t.t) (aG (bS k) (nat_lit 262144))
noncomputable def Tr.set{α:Type}(t:Tr α)(k:Nat)(a:α):Tr α:=aA ⟨t.t,(k,a)::t.o⟩ ⟨(ups 6 k).run (I a) t.t,t.o⟩ (aG (bS k) (nat_lit 262144))
noncomputable section
structure S where
 h:Tr AO
 n:Nat
 r:List Nat
 w:List Nat
inductive Rs(α:Type) where
 | no (why:String)
 | ok (a:α) (s:S)
abbrev RV:=Rs Y
abbrev bR:=Nat→List Y→S→RV
structure nx where
 f:Fn
 cap:List Y
 args:List Y
structure Fr where
 t:Nat→Y
 d:List nx
 bI:Bool
inductive X where
 | gI
 | exit (id:Nat)
 | ret
abbrev RC:=Rs (X×Fr)
structure K where
 run:bR→Fr→S→RC
def cE:Y:=.dS []
def S.look{α:Type}(s:S)(b:Nat)(k:AO→S→Rs α):Rs α:=match s.h.get b with
 | some o=>k o { s with r:=b::s.r }
 | none=> .no "look"
def S.put(s:S)(b:Nat)(o:AO):S:= { s with h:=s.h.set b o,w:=b::s.w }
def S.new{α:Type}(s:S)(o:AO)(k:Nat→S→Rs α):Rs α:=k s.n { s with h:=s.h.set s.n o,n:=s.n+1 }
def takeN{α:Type}:Nat→List α→Option (List α)
 | 0,_=>I []
 | _+1,[]=>J
 | n+1,a::l=>(takeN n l).map (a:: ·)
def over:List Y→List Y→Option (List Y)
 | [],c=>I c
 | _::_,[]=>J
 | a::l,_::c=>(over l c).map (a:: ·)
def putAt:Nat→List Y→List Y→Option (List Y)
 | 0,l,c=>over l c
 | _+1,_,[]=>J
 | n+1,l,x::c=>(putAt n l c).map (x:: ·)
def Y.cells:Y→List Y
 | .agg l=>l
 | v=>[v]
def Y.plain:Y→Bool
 | .agg _=>U
 | .dS _=>U
 | _=>O
def S.jW{α:Type}(s:S)(b a n:Nat)(k:List Y→S→Rs α):Rs α:=
 s.look b fun o s=>match o with
 | .row c _=>(match takeN n (c.drop a)with | some l=>k l s | none=> .no "loadN: short")
 | .dead=> .no "loadN: dead"
 | _=> .no "loadN: no row"
def S.iu{α:Type}(s:S)(b a:Nat)(l:List Y)(k:S→Rs α):Rs α:=
 cond (l.all Y.plain) (s.look b fun o s=>match o with
 | .row c op=>(match putAt a l c with | some d=>k (s.put b (.row d op)) | none=> .no "storeN: short")
 | .dead=> .no "storeN: dead"
 | _=> .no "storeN: no row") (.no "storeN: agg")
section
variable (P:aQ)
def fc(t:Nat):Bool:=match P.underlying t with | some (.struct _) | some (.array _ _)=>O | _=>U
def sizeT(t:Nat):Nat:=P.cellsOf t
def cF(t:Nat):Bool:=(P.underlying t).isSome
def LZ(t:Nat):Bool:=match P.underlying t with | some (.interface _) | none=>U | _=>O
def gN(t:Nat):Nat:=((P.info? t).map (·.bytes)).getD 0
mutual
def De:Value→Option Y
 | .bool b=>I (.bool b)
 | .int k n=>I (.int k n)
 | .string s=>I (.str s.data.toList)
 | .pointer none=>I .q_
 | .slice none 0 0=>I .iC
 | .map none=>I .fG
 | .chan none=>I .yF
 | .nilFunc=>I .yG
 | .nilIface=>I .lV
 | .func f a b=>match a,b with | ⟨[]⟩,⟨[]⟩=>I (.fn f [] []) | _,_=>none
 | .iface t v=>(De v).map (.qI t ·)
 | .agg ⟨l⟩=>(JE l).map .agg
 | .tuple ⟨l⟩=>(JE l).map .dS
 | _=>none
def JE:List Value→Option (List Y)
 | []=>some []
 | v::l=>match De v,JE l with | some a,some b=>some (a::b) | _,_=>J
end
def km(t:Nat):Option Y:=((P.info? t).bind (·.zero)).bind De
end
structure CK where
 v:Option Y
def Ho(v:Value):CK:=⟨De v⟩
def Df(t:Nat→Y)(o:aP):Option Y:=match o with
 | .tmp i=>I (t i)
 | .const v=>(Ho v).v
 | .global _=>J
 | .func f=>I (.fn (.func f) [] [])
def evs(t:Nat→Y):List aP→Option (List Y)
 | []=>some []
 | o::l=>match Df t o,evs t l with | some v,some a=>some (v::a) | _,_=>J
def jp(k:cZ)(n:Int):Int:=k.wrap n
def Qz(op:gY)(a b:Int):Option Bool:=match op with
 | .eql=>I (a==b) | .neq=>I (a != b) | .lss=>I (a<b) | .leq=>I (a≤b) | .gtr=>I (a>b) | .geq=>I (a≥b)
 | _=>J
def wO(k:cZ)(f:Nat→Nat→Nat)(a b:Int):Option Y:=
 match a,b with
 | .ofNat x,.ofNat y=>cond (bM x (2 ^ k.bits)&&bM y (2 ^ k.bits)) (I (.int k (k.wrap (f x y:Nat)))) J
 | _,_=>J
def re(op:gY)(k:cZ)(a b:Int):Option Y:=match op with
 | .add=>I (.int k (jp k (a+b)))
 | .sub=>I (.int k (jp k (a-b)))
 | .mul=>I (.int k (jp k (a*b)))
 | .quo=>if b=0 then J else I (.int k (jp k (a.tdiv b)))
 | .rem=>if b=0 then J else I (.int k (a.tmod b))
 | .and=>wO k (· &&& ·) a b
 | .or=>wO k (· ||| ·) a b
 | .xor=>wO k (· ^^^ ·) a b
 | _=>(Qz op a b).map .bool
def Nb(op:gY)(a b:List UInt8):Option Y:=match op with
 | .add=>cond (aG (a.length+b.length) 1000000) (I (.str (a++b))) J
 | .eql=>I (.bool (a==b))
 | .neq=>I (.bool (a != b))
 | .lss=>I (.bool (qO a b))
 | .gtr=>I (.bool (!(qO a b||a==b)))
 | .leq=>I (.bool (qO a b||a==b))
 | .geq=>I (.bool (!qO a b))
 | _=>J
def sd:Nat→Y→Y→Option Bool
 | 0,.bool a,.bool b=>I (a==b)
 | 1,.int k a,.int c b=>if k=c then I (a==b)else J
 | 2,.str a,.str b=>I (a==b)
 | _,_,_=>J
def se:List (Nat×Nat)→List Y→List Y→Option Bool
 | [],_,_=>some true
 | (k,c)::f,d,e=>match d[c]?,e[c]? with
  | some a,some b=>(match sd k a b with
   | some true=>se f d e
   | some false=>some false
   | none=>J)
  | _,_=>J
def qm(op:gY)(x y:Y):Option Y:=match op,x,y with
 | .shl,.int k a,.int _ b=>if b<0 then J else I (.int k (jp k (a*2 ^ (min b.toNat k.bits))))
 | .shr,.int k a,.int _ b=>if b<0 then J else I (.int k (a.fdiv (2 ^ (min b.toNat k.bits))))
 | _,.int k a,.int c b=>if k=c then re op k a b else J
 | _,.str a,.str b=>Nb op a b
 | _,_,_=>J
def Y9(op:UnOp)(x:Y):Option Y:=match op,x with
 | .not,.bool b=>I (.bool (!b))
 | .neg,.int k n=>I (.int k (jp k (0-n)))
 | .xor,.int .u32 (.ofNat n)=>cond (bM n 4294967296) (I (.int .u32 (jp .u32 ((4294967295 ^^^ n:Nat):Int)))) J
 | _,_=>J
def ret{α:Type}(o:Option α)(s:S)(a:String):Rs α:=match o with | some v=> .ok v s | none=> .no a
def AZ(n:Nat)(z:List Y):List Y:=(List.replicate n z).flatten
def wP(a:Nat)(cs:List Y)(agg:Bool)(size:Nat):Option Y:=
 cond agg ((takeN size (cs.drop a)).map .agg) (match cs.drop a with | v::_=>I v | []=>J)
def tH(b:UInt8):Y:=.int .u8 (b.toNat:Int)
def S.iJ{α:Type}(s:S)(size n:Nat)(x:Y)(k:List Y→S→Rs α):Rs α:=match x with
 | .slc b a _ _ _=>s.jW b a (n*size) k
 | .oM _ _ _ _=>cond (ak n 0) (k [] s) (.no "firstN slz")
 | .iC=>cond (ak n 0) (k [] s) (.no "firstN nils")
 | .str l=>k ((l.take n).map tH) s
 | _=> .no "firstN"
def Dg:Y→Option Nat
 | .slc _ _ n _ _=>I n
 | .oM _ _ _ _=>I 0
 | .iC=>I 0
 | .str l=>I l.length
 | _=>J
def tI:Y→Option Nat
 | .slc _ _ n _ _=>I n
 | .oM _ _ _ _=>I 0
 | .iC=>I 0
 | _=>J
def Dh(x:Y)(n:Nat):Bool:=match x with
 | .slc _ _ len _ _=>aG (len+n) 1000000
 | _=>aG n 1000000
def jX(size:Nat)(x:Y)(n:Nat)(new:S→(List Y→S→RV)→RV)(s:S):RV:=
 cond (Dh x n) (match x with
 | .iC=>cond (ak n 0) (.ok .iC s) (new s fun l s=>s.new (.row l (size+1)) fun b s=> .ok (.slc b 0 n O 0) s)
 | .slc b a len e c=>
  cond e
   (s.look b fun o s=>match o with
   | .row cs o=>cond (ak o (size+1)&&ak a (c*size)) (cond (aG (a+(len+n)*size) cs.length)
     (new s fun l s=>s.iu b (a+len*size) l fun s=> .ok (.slc b a (len+n) e c) s)
     (cond (ak a 0&&ak c 0)
      (new s fun l s=>cond (l.all Y.plain) (s.jW b 0 (len*size) fun f s=>(s.put b .dead).new (.row (f++l) (size+1)) fun h s=> .ok (.slc h 0 (len+n) O 0) s) (.no "append: agg"))
      (.no "append: reborn at an offset"))) (.no "append: size")
   | .dead=> .no "append: dead"
   | _=> .no "append: no row")
   (cond (aG (len+n) c)
    (new s fun l s=>s.iu b (a+len*size) l fun s=> .ok (.slc b a (len+n) e c) s)
    (s.jW b a (len*size) fun f s=>new s fun l s=>s.new (.row (f++l) (size+1)) fun h s=> .ok (.slc h 0 (len+n) O 0) s))
 | .oM b g a d=>cond (ak n 0) (.ok (.oM b g a d) s) (.no "append: onto slz")
 | _=> .no "append") (.no "append: long")
def sR:Option Y→Nat→Option Nat
 | none,d=>I d
 | some (.int _ (.ofNat n)),_=>I n
 | some _,_=>J
def oY(size len:Nat)(x:Y)(lo hi f:Option Y):Option Y:=
 match sR lo 0,sR hi len with
 | some l,some h=>cond (aG l h) (match x,f with
  | .slc b a _ true c,none=>cond (aG h len)
    (cond (ak l len&&!(ak l 0)) (some (.oM b a (a+l*size) (c+l))) (some (.slc b (a+l*size) (h-l) true (c+l)))) none
  | .slc b a _ false c,none=>cond (aG h c) (some (.slc b (cond (ak c l) a (a+l*size)) (h-l) false (c-l))) none
  | .slc b a _ e c,some m=>(match sR (some m) 0 with
   | some m=>cond (aG h m&&aG m (cond e len c)) (some (.slc b (cond (ak m l) a (a+l*size)) (h-l) false (m-l))) none
   | none=>none)
  | .oM b g o d,none=>cond (ak h 0) (some (.oM b g o d)) none
  | .iC,none=>cond (ak h 0) (some .iC) none
  | .iC,some m=>(match sR (some m) 0 with | some m=>cond (ak m 0&&ak h 0) (some .iC) none | none=>none)
  | .str s,none=>cond (aG h len) (some (.str ((s.drop l).take (h-l)))) none
  | _,_=>none) none
 | _,_=>none
structure OK where
 run:bR→List Y→S→RV
def failK(a:String):OK:=⟨fun _ _ _=> .no a⟩
section
variable (P:aQ)
def oneCell(l:List Y)(s:S):RV:=match l with | [v]=> .ok v s | _=> .no "one cell"
def zU(l:List Y)(s:S):RV:=.ok (.agg l) s
def mg(agg:Bool)(size b a:Nat)(s:S):RV:=cond agg (s.jW b a size zU) (s.jW b a 1 oneCell)
def tJ(t:Nat):OK:=
 let sz:=sizeT P t
 let d:=fc P t
 cond (cF P t) ⟨fun _ a s=>match a with | [.ptr b c]=>mg d sz b c s | _=> .no "load"⟩ (failK "load type")
def qn(t:Nat):OK:=
 let sz:=sizeT P t
 cond (cF P t) ⟨fun _ a s=>match a with
  | [.ptr b c,x]=>cond (ak x.cells.length sz) (s.iu b c x.cells fun s=> .ok cE s) (.no "store: size")
  | _=> .no "store"⟩ (failK "store type")
def tK(a:Nat→Option (Nat×Nat)):List Nat→List Y→List Y→Option (List Y)
 | [],[],c=>I c
 | i::rest,x::d,c=>match a i with
  | none=>J
  | some (b,size)=>cond (ak x.cells.length size) (match putAt b x.cells c with | some e=>tK a rest d e | none=>J) J
 | _,_,_=>J
def oZ(t:Nat)(b:List Nat):OK:=
 match km P t,P.underlying t with
 | some (.agg z),some (.struct c)=>
  let d:=c.toList.map fun f=>(f.offset,sizeT P f.type)
  cond (c.toList.all fun f=>cF P f.type) ⟨fun _ a s=>ret ((tK (d[·]?) b a z).map .agg) s "build"⟩ (failK "build fields")
 | some (.agg z),some (.array _ e)=>
  let size:=sizeT P e
  cond (cF P e) ⟨fun _ a s=>ret ((tK (fun i=>some (i*size,size)) b a z).map .agg) s "build"⟩ (failK "build elem")
 | _,_=>failK "build"
def kn(t len:Nat)(d:List Nat):OK:=
 match P.underlying t with
 | some (.slice e)=>
  let size:=sizeT P e
  match km P e with
  | some z=>cond (cF P e&&aG (len*size) 10000&&ak z.cells.length size) ⟨fun _ a s=>match tK (fun i=>I (i*size,size)) d a (AZ len z.cells)with
   | some c=>s.new (.row c 0) fun b s=> .ok (.slc b 0 len U len) s
   | none=> .no "buildSlice"⟩ (failK "buildSlice long")
  | none=>failK "buildSlice zero"
 | _=>failK "buildSlice"
def ie(t f:Nat):OK:=
 match P.underlying t with
 | some (.struct e)=>(match e[f]? with
  | some d=>
   let c:=d.offset
   cond (cF P d.type&&!(ak (sizeT P d.type) 0)) ⟨fun _ a s=>match a with | [.ptr b o]=> .ok (.ptr b (o+c)) s | _=> .no "fieldAddr"⟩ (failK "fieldAddr: of size nought")
  | none=>failK "fieldAddr")
 | _=>failK "fieldAddr type"
def o_(t f:Nat):OK:=
 match P.underlying t with
 | some (.struct c)=>(match c[f]? with
  | some d=>
   let b:=d.offset
   let size:=sizeT P d.type
   let agg:=fc P d.type
   cond (cF P d.type) ⟨fun _ a s=>match a with | [.agg l]=>ret (wP b l agg size) s "field" | _=> .no "field"⟩ (failK "field type")
  | none=>failK "field")
 | _=>failK "field type"
def ig(t:Nat):OK:=
 match P.underlying t with
 | some (.slice e)=>
  let size:=sizeT P e
  cond (!(cF P e)) (failK "indexAddr elem") ⟨fun _ a s=>match a with
   | [.slc b c len _ _,.int _ (.ofNat i)]=>cond (bM i len) (.ok (.ptr b (c+i*size)) s) (.no "indexAddr: out of range")
   | _=> .no "indexAddr"⟩
 | some (.array len e)=>
  let size:=sizeT P e
  cond (!(cF P e)) (failK "indexAddr elem") ⟨fun _ a s=>match a with
   | [.ptr b c,.int _ (.ofNat i)]=>cond (bM i len) (.ok (.ptr b (c+i*size)) s) (.no "indexAddr: out of range")
   | _=> .no "indexAddr arr"⟩
 | _=>failK "indexAddr type"
def pa(t:Nat):OK:=
 match P.underlying t with
 | some .string=>⟨fun _ a s=>match a with
   | [.str l,.int _ (.ofNat i)]=>(match l.drop i with | c::_=> .ok (tH c) s | []=> .no "index: out of range")
   | _=> .no "index"⟩
 | some (.array len e)=>
  let size:=sizeT P e
  let agg:=fc P e
  cond (!(cF P e)) (failK "index elem") ⟨fun _ a s=>match a with
   | [.agg l,.int _ (.ofNat i)]=>cond (bM i len) (ret (wP (i*size) l agg size) s "index") (.no "index: out of range")
   | _=> .no "index"⟩
 | _=>failK "index type"
def Nc(lo hi b:Bool)(a:List Y):Option (Option Y×Option Y×Option Y):=
 match lo,hi,b,a with
 | false,false,false,[]=>I (J,J,J)
 | true,false,false,[x]=>I (I x,J,J)
 | false,true,false,[x]=>I (J,I x,J)
 | true,true,false,[x,y]=>I (I x,I y,J)
 | false,true,true,[x,y]=>I (J,I x,I y)
 | true,true,true,[x,y,z]=>I (I x,I y,I z)
 | _,_,_,_=>J
def pb(t:Nat)(lo hi c:Bool):OK:=
 match P.underlying t with
 | some (.slice e)=>
  let size:=sizeT P e
  cond (!(cF P e)) (failK "slice elem") ⟨fun _ a s=>match a with
   | v::r=>(match tI v,Nc lo hi c r with | some len,some (l,h,m)=>ret (oY size len v l h m) s "slice" | _,_=> .no "slice: of what")
   | []=> .no "slice"⟩
 | some .string=>
  ⟨fun _ a s=>match a with
   | .str v::r=>(match Nc lo hi c r with | some (l,h,m)=>ret (oY 1 v.length (.str v) l h m) s "slice str" | none=> .no "slice: of what")
   | _=> .no "slice"⟩
 | some (.array n e)=>
  let size:=sizeT P e
  cond (!(cF P e)) (failK "slice elem") ⟨fun _ a s=>match a with
   | .ptr b d::r=>(match Nc lo hi c r with | some (l,h,m)=>ret (oY size n (.slc b d n U n) l h m) s "slice arr" | none=> .no "slice arr")
   | _=> .no "slice arr"⟩
 | _=>failK "slice type"
def li(t:Nat):OK:=
 match P.underlying t with
 | some (.slice e)=>
  match km P e with
  | some z=>cond (!(cF P e&&aG (gN P e) 10000&&ak z.cells.length (sizeT P e))) (failK "makeSlice elem") ⟨fun _ a s=>match a with
   | [.int _ (.ofNat l),.int _ (.ofNat c)]=>cond (aG l c&&aG c 1000000) (s.new (.row (AZ c z.cells) 0) fun b s=> .ok (.slc b 0 l U c) s) (.no "makeSlice: size")
   | _=> .no "makeSlice"⟩
  | none=>failK "makeSlice zero"
 | _=>failK "makeSlice type"
def Hp(v:Y)(size:Nat):Bool:=match v with
 | .str _=>ak size 1
 | _=>O
def pJ(size:Nat):OK:=⟨fun _ a s=>match a with
 | [x,v]=>(match Dg v with
  | some n=>cond (Hp v size) (jX size x n (fun s k=>s.iJ size n v k) s) (.no "append: text")
  | none=> .no "append: what")
 | _=> .no "append"⟩
def pc(size:Nat)(z:Y):OK:=⟨fun _ a s=>match a with
 | [x,.int _ (.ofNat n)]=>cond (aG n 1000000) (jX size x n (fun s k=>k (AZ n z.cells) s) s) (.no "append zeros")
 | _=> .no "append zeros"⟩
def pK(a:List Nat):OK:=
 match a with
 | st::more=>
  match P.underlying st with
  | some (.slice e)=>(match km P e with
   | some z=>cond (!(cF P e&&aG (gN P e) 10000&&aG 1 (sizeT P e)&&ak z.cells.length (sizeT P e))) (failK "append elem") (match more with
    | []=>pJ (sizeT P e)
    | xt::_=>(match P.underlying xt with
     | some (.int _)=>pc (sizeT P e) z
     | some _=>pJ (sizeT P e)
     | none=>failK "append source"))
   | none=>failK "append zero")
  | _=>failK "append type"
 | _=>failK "append args"
def wQ(f:List Nat):OK:=
 match f with
 | dt::_=>
  match P.underlying dt with
  | some (.slice e)=>
   let size:=sizeT P e
   cond (!(cF P e)) (failK "copy elem") ⟨fun _ a s=>match a with
    | [d,v]=>(match tI d,Dg v with
     | some m,some n=>s.iJ size (j8 n m) v fun l s=>(match d with
      | .slc b c _ _ _=>s.iu b c l fun s=> .ok (.int .i64 (j8 n m:Nat)) s
      | _=>cond (ak (j8 n m) 0) (.ok (.int .i64 0) s) (.no "copy"))
     | _,_=> .no "copy")
    | _=> .no "copy"⟩
  | _=>failK "copy type"
 | _=>failK "copy args"
def sf(d:List Nat):OK:=
 match d with
 | [f]=>
  match P.underlying f with
  | some (.slice e)=>
   match km P e with
   | some z=>cond (!(cF P e)) (failK "clear elem") ⟨fun _ a s=>match a with
    | [.slc b c n _ _]=>cond (ak n 0) (.ok cE s) (s.iu b c (AZ n z.cells) fun s=> .ok cE s)
    | [.oM ..]=> .ok cE s
    | [.iC]=> .ok cE s
    | _=> .no "clear"⟩
   | none=>failK "clear zero"
  | _=>failK "clear type"
 | _=>failK "clear args"
def sS(c:List Nat):OK:=
 match c with
 | [d]=>(match P.underlying d with
  | some (.array n _)=>⟨fun _ a s=>match a with | [_]=> .ok (.int .i64 n) s | _=> .no "len"⟩
  | some (.pointer a)=>(match P.underlying a with | some (.array n _)=>⟨fun _ a s=>match a with | [_]=> .ok (.int .i64 n) s | _=> .no "len"⟩ | _=>failK "len ptr")
  | some .string=>⟨fun _ a s=>match a with | [.str l]=> .ok (.int .i64 l.length) s | _=> .no "len"⟩
  | some (.slice _)=>⟨fun _ a s=>match a with | [v]=>(match tI v with | some n=> .ok (.int .i64 n) s | none=> .no "len") | _=> .no "len"⟩
  | some (.map _ _)=>⟨fun _ a s=>match a with
   | [.map b]=>s.look b fun o s=>(match o with | .map e _=> .ok (.int .i64 e.length) s | _=> .no "len map")
   | [.fG]=> .ok (.int .i64 0) s
   | _=> .no "len map"⟩
  | _=>failK "len type")
 | _=>failK "len args"
def yH(b:List Nat):OK:=
 match b with
 | [c]=>
  match P.underlying c with
  | some (.slice _)=>⟨fun _ a s=>match a with
   | [.slc _ _ _ false n]=> .ok (.int .i64 n) s
   | [.iC]=> .ok (.int .i64 0) s
   | _=> .no "cap: open"⟩
  | _=>failK "cap type"
 | _=>failK "cap args"
def JF(c:Bool)(k:cZ):List Y→Int→Option Y
 | [],a=>I (.int k a)
 | .int _ b::l,a=>JF c k l (cond c (if a<b then b else a) (if b<a then b else a))
 | _,_=>J
def BD(b:Bool):OK:=
 ⟨fun _ a s=>match a with
  | .int k n::l=>ret (JF b k l n) s "max"
  | _=> .no "max"⟩
def yI:OK:=
 ⟨fun _ a s=>match a with
  | [.chan b]=>s.look b fun o s=>(match o with | .chan cap c false i j=> .ok cE (s.put b (.chan cap c O i j)) | _=> .no "close")
  | _=> .no "close"⟩
structure MK where
 f:Option Nat
def oA(t:Nat)(a:String):MK:=
 ⟨match (P.info? t).bind fun i=>i.methods.find? (·.name==a)with
  | some m=>(match m.path.isEmpty,m.func with
   | true,some (f,ptr)=>(match P.underlying t,ptr with
    | some (.pointer _),true=>some f
    | some (.pointer _),false=>J
    | some _,false=>some f
    | _,_=>J)
   | _,_=>J)
  | none=>J⟩
def gi(cf:bR)(a:Y)(b:String)(args:List Y)(s:S):RV:=
 match a with
 | .qI t v=>(match (oA P t b).f with
  | some f=>cf f (v::args) s
  | none=> .no "no method")
 | _=> .no "invoke"
def mY(cf:bR)(f:Y)(args:List Y)(s:S):RV:=match f with
 | .fn (.func g) a cap=>cf g (a++(args++cap)) s
 | .fn (.method b) a _=>(match a++args with | r::l=>gi P cf r b l s | []=> .no "method call")
 | _=> .no "call: of what"
def zV(b:Builtin)(a:List Nat):OK:=match b with
 | .append=>pK P a
 | .copy=>wQ P a
 | .len=>sS P a
 | .cap=>yH P a
 | .max=>BD O
 | .min=>BD U
 | .clear=>sf P a
 | .close=>yI
 | _=>failK "builtin"
def lP(c:Call):OK:=match c.callee with
 | .builtin b=>zV P b c.argTypes.toList
 | .value (.func f)=>⟨fun cf a s=>match a with | _::l=>cf f l s | []=> .no "call"⟩
 | .value _=>⟨fun cf a s=>match a with | f::l=>mY P cf f l s | []=> .no "call"⟩
 | .invoke _ d=>⟨fun cf a s=>match a with | r::l=>gi P cf r d l s | []=> .no "call"⟩
def yJ:List Y→Option (List UInt8)
 | []=>I []
 | .int .u8 (.ofNat k)::l=>(yJ l).map (ew k:: ·)
 | _=>J
def lG(c d:Nat):OK:=
 match P.underlying c,P.underlying d with
 | some (.int _),some (.int k)=>⟨fun _ a s=>match a with | [.int _ n]=> .ok (.int k (jp k n)) s | _=> .no "convert"⟩
 | some .string,some .string=>⟨fun _ a s=>match a with | [.str l]=> .ok (.str l) s | _=> .no "convert"⟩
 | some .string,some (.slice e)=>(match P.underlying e with
  | some (.int .u8)=>⟨fun _ a s=>match a with | [.str l]=>s.new (.row (l.map tH) 2) fun b s=> .ok (.slc b 0 l.length O 0) s | _=> .no "convert"⟩
  | _=>failK "convert to slice")
 | some (.slice e),some .string=>(match P.underlying e with
  | some (.int .u8)=>⟨fun _ a s=>match a with
   | [v]=>(match tI v with
    | some n=>s.iJ 1 n v fun l s=>ret ((yJ l).map .str) s "convert bytes"
    | none=> .no "convert")
   | _=> .no "convert"⟩
  | _=>failK "convert to string")
 | _,_=>failK "convert types"
def qJ(t:Nat):Option Nat:=match P.underlying t with
 | some .bool=>I 0
 | some (.int _)=>I 1
 | some .string=>I 2
 | _=>J
def oB:List Field→Option (List (Nat×Nat))
 | []=>some []
 | f::a=>match qJ P f.type,oB a with
  | some k,some l=>cond (f.name != "_") (some ((k,f.offset)::l)) J
  | _,_=>J
def zW(k:Y):List (Y×Y×Nat)→Nat→Option (Option (Nat×Y))
 | [],_=>I J
 | (a,v,_)::l,i=>match sd 1 k a with
  | some true=>I (I (i,v))
  | some false=>zW k l (i+1)
  | none=>J
def Hq(ok:Bool)(z:Y):Option (Nat×Y)→Y
 | some (_,v)=>cond ok (.dS [v,.bool O]) v
 | none=>cond ok (.dS [z,.bool U]) z
def L1(a:Nat):Option (Y→List (Y×Y×Nat)→Bool):=match P.underlying a with
 | some (.int _)=>I fun k _=>(match k with | .int _ _=>O | _=>U)
 | some (.struct b)=>(oB P b.toList).map fun l k c=>(match k,c with | .agg d,[]=>l.all fun x=>(d[x.2]?).isSome | _,_=>U)
 | _=>J
def pL(t:Nat)(ok:Bool):OK:=
 match P.underlying t with
 | some (.map d e)=>
  match km P e,L1 P d with
  | some z,some good=>⟨fun _ a s=>match a with
    | [.fG,k]=>cond (good k []) (.ok (Hq ok z J) s) (.no "lookup: key")
    | [.map b,k]=>s.look b fun o s=>(match o with
     | .map c _=>cond (good k c) (match zW k c 0 with | some r=> .ok (Hq ok z r) s | none=> .no "lookup: keys") (.no "lookup: key")
     | _=> .no "lookup: no map")
    | _=> .no "lookup"⟩
  | _,_=>failK "lookup zero"
 | _=>failK "lookup type"
def Hr(v:Y):Nat→List (Y×Y×Nat)→List (Y×Y×Nat)
 | _,[]=>[]
 | 0,(k,_,n)::l=>(k,v,n)::l
 | i+1,x::l=>x::Hr v i l
def lj(t:Nat):OK:=
 match P.underlying t with
 | some (.map e _)=>(match P.underlying e with
  | some (.int _)=>⟨fun _ a s=>match a with
   | [.map b,.int q n,x]=>s.look b fun o s=>(match o with
    | .map d c=>(match zW (.int q n) d 0 with
     | some none=> .ok cE (s.put b (.map (d++ [(.int q n,x,c)]) (c+1)))
     | some (some (i,_))=> .ok cE (s.put b (.map (Hr x i d) c))
     | none=> .no "mapUpdate: keys")
    | _=> .no "mapUpdate: no map")
   | _=> .no "mapUpdate"⟩
  | _=>failK "mapUpdate key")
 | _=>failK "mapUpdate type"
structure BK where
 b:Option Bool
def Di(t u:Nat):BK:=⟨match P.underlying t with
 | some (.interface want)=>(P.info? u).map fun i=>(Instr.missingMethod want i.methods).isNone
 | _=>J⟩
def L2(ok:Bool)(v:Y):Y:=cond ok (.dS [v,.bool O]) v
def vU(ok:Bool)(z:Y)(s:S):RV:=cond ok (.ok (.dS [z,.bool U]) s) (.no "typeAssert fails")
def iK(t:Nat)(ok:Bool):OK:=
 match km P t with
 | some z=>
  match P.underlying t with
  | some (.interface _)=>⟨fun _ a s=>match a with
   | [.qI u v]=>(match (Di P t u).b with
    | some true=> .ok (L2 ok (.qI u v)) s
    | some false=>vU ok z s
    | none=> .no "typeAssert")
   | [.lV]=>vU ok z s
   | _=> .no "typeAssert"⟩
  | some _=>⟨fun _ a s=>match a with
   | [.qI u v]=>cond (ak u t) (.ok (L2 ok v) s) (vU ok z s)
   | [.lV]=>vU ok z s
   | _=> .no "typeAssert"⟩
  | none=>failK "typeAssert type"
 | none=>failK "typeAssert zero"
def Hs(c v:Y)(s:S):RV:=match c with
 | .chan b=>s.look b fun o s=>(match o with
  | .chan cap a false i j=>cond (bM a.length cap) (.ok cE (s.put b (.chan cap (a++ [v]) false (i+1) j))) (.no "send: full")
  | _=> .no "send")
 | _=> .no "send"
def Ht(c z:Y)(ok:Bool)(s:S):RV:=match c with
 | .chan b=>s.look b fun o s=>(match o with
  | .chan cap (v::a) cl i j=> .ok (cond ok (.dS [v,.bool true]) v) (s.put b (.chan cap a cl i (j+1)))
  | .chan _ [] true _ _=> .ok (cond ok (.dS [z,.bool U]) z) s
  | _=> .no "recv")
 | _=> .no "recv"
def tL(c:SelectCase):OK:=
 match km P c.elem with
 | some z=>(match c.send with
  | some _=>⟨fun _ a s=>match a with
   | [.chan b,v]=>s.look b fun o s=>(match o with
    | .chan cap d false i j=>cond (bM d.length cap)
      (.ok (.dS [.int .i64 0,.bool false]) (s.put b (.chan cap (d++ [v]) false (i+1) j)))
      (.ok (.dS [.int .i64 (-1),.bool false]) s)
    | _=> .no "select send")
   | _=> .no "select send"⟩
  | none=>⟨fun _ a s=>match a with
   | [.chan b]=>s.look b fun o s=>(match o with
    | .chan cap (v::d) cl i j=> .ok (.dS [.int .i64 0,.bool true,v]) (s.put b (.chan cap d cl i (j+1)))
    | .chan _ [] true _ _=> .ok (.dS [.int .i64 0,.bool false,z]) s
    | .chan _ [] false _ _=> .ok (.dS [.int .i64 (-1),.bool false,z]) s
    | _=> .no "select recv")
   | _=> .no "select recv"⟩)
 | none=>failK "select zero"
def QA:aP→Bool
 | .const _=>O
 | _=>U
structure QK where
 run:Y→Y→Option Bool
def eqNil(x y:Y):Option Bool:=match x,y with
 | .q_,.q_=>I O
 | .q_,.ptr _ _=>I U
 | .ptr _ _,.q_=>I U
 | _,_=>J
def Nf(x y:Y):Option Bool:=match x,y with
 | .iC,.iC=>I O
 | .iC,.slc .. =>I U
 | .slc ..,.iC=>I U
 | .iC,.oM .. =>I U
 | .oM ..,.iC=>I U
 | _,_=>J
def Ng(x y:Y):Option Bool:=match x,y with
 | .fG,.fG=>I O
 | .fG,.map _=>I U
 | .map _,.fG=>I U
 | _,_=>J
def Nh(both:Bool)(x y:Y):Option Bool:=match x,y with
 | .lV,.lV=>cond both (I O) J
 | .lV,.qI _ _=>I U
 | .qI _ _,.lV=>I U
 | _,_=>J
def QB(t:Nat)(x y:aP):QK:=match P.underlying t with
 | some .bool=>⟨fun a b=>sd 0 a b⟩
 | some (.pointer _)=>⟨fun a b=>eqNil a b⟩
 | some (.slice _)=>⟨fun a b=>Nf a b⟩
 | some (.map _ _)=>⟨fun a b=>Ng a b⟩
 | some (.interface _)=>let c:=QA x||QA y;⟨fun a b=>Nh c a b⟩
 | some (.struct d)=>(match oB P d.toList with
  | some l=>cond (P.stoodInHeld t||P.eqGuardType P.depth t) ⟨fun _ _=>J⟩ ⟨fun a b=>match a,b with | .agg x,.agg y=>se l x y | _,_=>J⟩
  | none=>⟨fun _ _=>J⟩)
 | _=>⟨fun _ _=>J⟩
def tM(op:gY)(t:Nat)(x y:aP):OK:=
 let q:=QB P t x y
 match op with
 | .eql=>⟨fun _ a s=>match a with
  | [x,y]=>(match qm .eql x y with | some v=> .ok v s | none=>ret ((q.run x y).map .bool) s "eql")
  | _=> .no "binOp"⟩
 | .neq=>⟨fun _ a s=>match a with
  | [x,y]=>(match qm .neq x y with | some v=> .ok v s | none=>ret ((q.run x y).map fun b=> .bool (!b)) s "neq")
  | _=> .no "binOp"⟩
 | op=>⟨fun _ a s=>match a with | [x,y]=>ret (qm op x y) s "binOp" | _=> .no "binOp"⟩
def mh(t:Nat):OK:=match P.underlying t with
 | some (.chan _ e)=>cond (cF P e&&aG (gN P e) 10000) ⟨fun _ a s=>match a with
  | [.int _ (.ofNat n)]=>cond (aG n 1000000) (s.new (.chan n [] U 0 0) fun b s=> .ok (.chan b) s) (.no "makeChan: size")
  | _=> .no "makeChan"⟩ (failK "makeChan elem")
 | _=>failK "makeChan type"
def ES(a:List Y)(s:S):RV:=match a with | [x]=> .ok x s | _=> .no "id"
def gQ(o:Op):OK:=match o with
 | .move _ | .assign _=>⟨fun _ a s=>ES a s⟩
 | .pick _ _ _=>⟨fun _ a s=>match a with | [.bool t,x,y]=> .ok (cond t x y) s | _=> .no "pick"⟩
 | .alloc e=>(match km P e with | some z=>⟨fun _ _ s=>s.new (.row z.cells 0) fun b s=> .ok (.ptr b 0) s⟩ | none=>failK "alloc")
 | .box _ _=>⟨fun _ a s=>match a with | [x]=>s.new (.row x.cells 0) fun b s=> .ok (.ptr b 0) s | _=> .no "box"⟩
 | .build t d=>oZ P t (d.toList.map (·.1))
 | .buildSlice t n d=>kn P t n (d.toList.map (·.1))
 | .load t _=>tJ P t
 | .store t _ _=>qn P t
 | .nilCheck _=>⟨fun _ a s=>match a with
  | [.ptr b i]=> .ok (.ptr b i) s
  | [.qI t v]=> .ok (.qI t v) s
  | [.fn (.func f) x c]=> .ok (.fn (.func f) x c) s
  | [.fn (.method n) [.qI t v] c]=>(match (oA P t n).f with | some _=> .ok (.fn (.method n) [.qI t v] c) s | none=> .no "nilCheck method")
  | _=> .no "nilCheck"⟩
 | .binOp op t x y _=>tM P op t x y
 | .unOp op _ _=>⟨fun _ a s=>match a with | [x]=>ret (Y9 op x) s "unOp" | _=> .no "unOp"⟩
 | .convert a b _=>lG P a b
 | .makeInterface t _=>cond (LZ P t) ⟨fun _ a s=>match a with | [x]=> .ok (.qI t x) s | _=> .no "makeInterface"⟩ (failK "makeInterface type")
 | .makeFunc f g _=>let n:=g.size;⟨fun _ a s=> .ok (.fn f (a.take n) (a.drop n)) s⟩
 | .makeMap _ none=>⟨fun _ _ s=>s.new (.map [] 0) fun b s=> .ok (.map b) s⟩
 | .makeChan t _=>mh P t
 | .makeSlice t _ _=>li P t
 | .slice t _ l h m=>pb P t l.isSome h.isSome m.isSome
 | .fieldAddr t _ f=>ie P t f
 | .field t _ f=>o_ P t f
 | .indexAddr t _ _=>ig P t
 | .index t _ _=>pa P t
 | .lookup t _ _ ok=>pL P t ok
 | .mapUpdate t _ _ _=>lj P t
 | .typeAssert _ _ b ok=>iK P b ok
 | .extract _ i=>⟨fun _ a s=>match a with | [.dS l]=>(match l.drop i with | v::_=> .ok v s | []=> .no "extract") | _=> .no "extract"⟩
 | .call c=>lP P c
 | .send _ _=>⟨fun _ a s=>match a with | [c,x]=>Hs c x s | _=> .no "send"⟩
 | .recv t _ ok=>(match P.underlying t with | some (.chan _ e)=>(match km P e with | some z=>⟨fun _ a s=>match a with | [c]=>Ht c z ok s | _=> .no "recv"⟩ | none=>failK "recv") | _=>failK "recv")
 | .select cs false=>(match cs with | ⟨[c]⟩=>tL P c | _=>failK "select")
 | _=>failK "op"
def Fr.put(fr:Fr)(nt:Nat)(a:Option Nat)(v:Y):Fr:=match a with
 | some d=>cond (bM d nt) { fr with t:=fun j=>cond (ak j d) v (fr.t j) } fr
 | none=>fr
def gj(ops:Array aH)(o:aH)(t:Nat→Y):Bool:=match o.guard with
 | none=>O
 | some (j,want)=>(match (ops[j]?).bind (·.dst)with
  | some d=>(match t d with | .bool b=>b==want | _=>U)
  | none=>U)
inductive Way where
 | val
 | bI
 | rcv
 | com
def fB:Op→Way
 | .defer _=> .bI
 | .call { callee:=.builtin .recover,.. }=> .rcv
 | .send .. | .recv .. | .select .. => .com
 | _=> .val
def rf:Op→Bool
 | .defer c=>(match c.callee with | .value _=>O | _=>U)
 | _=>U
structure PK where
 way:Way
 args:List aP
 op:OK
def nO(o:aH):PK:=⟨fB o.op,o.op.operands.toList,gQ P o.op⟩
def c_(nt:Nat)(ops:Array aH)(o:aH)(cf:bR)(fr:Fr)(s:S):Rs Fr:=
 cond (gj ops o fr.t)
  (match evs fr.t (nO P o).args with
  | none=> .no "operands"
  | some a=>(match (nO P o).way with
   | .val | .com=>(match (nO P o).op.run cf a s with
    | .ok v s=> .ok (fr.put nt o.dst v) s
    | .no b=> .no (b++ " @ " ++o.pos))
   | .bI=>cond (rf o.op) (match a with
    | .fn g c cap::l=> .ok (({ fr with d:=⟨g,cap,c++l⟩::fr.d }:Fr).put nt o.dst cE) s
    | _=> .no "defer") (.no "defer")
   | .rcv=>cond fr.bI (.ok (fr.put nt o.dst .lV) s) (.no "recover")))
  (.ok (fr.put nt o.dst cE) s)
def kQ(nt:Nat)(ops:Array aH):List aH→bR→Fr→S→RC
 | [],_,fr,s=> .ok (.gI,fr) s
 | o::l,cf,fr,s=>(match c_ P nt ops o cf fr s with
  | .ok fr s=>kQ nt ops l cf fr s
  | .no y=> .no y)
structure Rec where
 a:Nat
 z:Nat
 r:List Nat
 w:List Nat
def Dj(a z:Nat)(l:List Nat):Bool:=cond (ak a z) U (l.any fun i=>aG a i&&bM i z)
def meets(a b:List Nat):Bool:=a.any fun i=>b.any fun j=>ak i j
def clash(x y:Rec):Bool:=meets x.w y.r||meets y.w x.r||meets x.w y.w||Dj x.a x.z y.w||Dj y.a y.z x.w||Dj x.a x.z y.r||Dj y.a y.z x.r
def clashes:List Bool→List Rec→Rec→Bool
 | true::m,x::l,y=>clash x y||clashes m l y
 | false::m,_::l,y=>clashes m l y
 | _,_,_=>U
def pd(a:List Nat):List Edge→Nat→Nat
 | [],s=>s
 | e::l,s=>pd a l (cond (cU .any e) (s ||| 2 ^ e.on ||| a.getD e.on 0) s)
def tN:List aH→List Nat→List Nat
 | [],a=>a
 | o::l,a=>tN l (a++ [pd a o.after.toList 0])
structure UK where
 l:List Nat
structure VK where
 l:List Bool
def Y_(ops:Array aH):UK:=⟨tN ops.toList []⟩
def fC(ops:Array aH)(i:Nat):VK:=⟨(List.range i).map fun j=>!((Y_ ops).l.getD i 0).testBit j⟩
def isVal(o:aH):Bool:=match fB o.op with | .bI=>U | _=>O
def mw(ops:Array aH)(o:aH):List Bool→List aH→Bool
 | true::m,x::l=>x.apart ops o&&mw ops o m l
 | false::m,_::l=>mw ops o m l
 | _,_=>O
structure DK where
 b:Bool
def pe(ops:Array aH):DK:=⟨ops.toList.zipIdx.all fun(o,i)=>isVal o&&o.after.toList.all (fun e=>!cU .any e||bM e.on i)&&mw ops o (fC ops i).l ops.toList⟩
def my(a z:Nat)(i:Nat):Bool:=!(aG a i&&bM i z)
def gl{α:Type}(m:S→Rs α)(s:S):Rs (α×Rec):=
 match m { s with r:=[],w:=[] } with
 | .ok a b=>
  let x:Rec:=⟨s.n,b.n,b.r.filter (my s.n b.n),b.w.filter (my s.n b.n)⟩
  .ok (a,x) { b with r:=x.r++s.r,w:=x.w++s.w }
 | .no y=> .no y
def gp(nt:Nat)(ops:Array aH):List (Nat×aH)→List Rec→bR→Fr→S→RC
 | [],_,_,fr,s=> .ok (.gI,fr) s
 | (i,o)::l,a,cf,fr,s=>(match gl (c_ P nt ops o cf fr) s with
  | .ok (fr,x) s=>cond (clashes (fC ops i).l a x) (.no ("clash " ++toString i++ " @ " ++o.pos)) (gp nt ops l (a++ [x]) cf fr s)
  | .no y=> .no y)
def oC(nt:Nat)(ops:Array aH)(draw:Bool):K:=
 let l:=ops.toList
 let z:=ops.toList.zipIdx.map fun(o,i)=>(i,o)
 cond draw (cond (pe ops).b ⟨fun cf fr s=>gp P nt ops z [] cf fr s⟩ ⟨fun _ _ _=> .no "drawn"⟩) ⟨fun cf fr s=>kQ P nt ops l cf fr s⟩
def mZ(body:K):Nat→bR→Fr→S→RC
 | 0,_,_,_=> .no "loop: too many rounds"
 | n+1,cf,fr,s=>match body.run cf fr s with
  | .ok (.gI,fr) s=>mZ body n cf fr s
  | x=>x
def iL(nt:Nat):Code→K
 | .skip | .label _=>⟨fun _ fr s=> .ok (.gI,fr) s⟩
 | .region _ ops draw=>oC P nt ops draw
 | .seq a b=>let x:=iL nt a;let y:=iL nt b;⟨fun cf fr s=>match x.run cf fr s with
  | .ok (.gI,fr) s=>y.run cf fr s
  | r=>r⟩
 | .cond c a b=>let x:=iL nt a;let y:=iL nt b;⟨fun cf fr s=>match Df fr.t c with
  | some (.bool true)=>x.run cf fr s
  | some (.bool false)=>y.run cf fr s
  | _=> .no "cond"⟩
 | .block d c=>let x:=iL nt c;⟨fun cf fr s=>match x.run cf fr s with
  | .ok (.exit i,fr) s=>cond (ak i d) (.ok (.gI,fr) s) (.ok (.exit i,fr) s)
  | r=>r⟩
 | .loop c=>let x:=iL nt c;⟨fun cf fr s=>mZ x 1000000 cf fr s⟩
 | .exit d=>⟨fun _ fr s=> .ok (.exit d,fr) s⟩
 | .ret=>⟨fun _ fr s=> .ok (.ret,fr) s⟩
 | .scope _=>⟨fun _ _ _=> .no "scope"⟩
 | .goto _=>⟨fun _ _ _=> .no "goto"⟩
 | .rangeFunc .. =>⟨fun _ _ _=> .no "rangeFunc"⟩
 | .refuse _=>⟨fun _ _ _=> .no "refuse"⟩
structure FK where
 nt:Nat
 body:K
 res:List lB
structure FO where
 k:Option FK
def L3(f:Nat):FO:=⟨match P.funcs[f]? with
 | some fn=>(match fn.body with | some c=>cond (fn.name== "runtime.NumGoroutine") J (I ⟨fn.ntmps,iL P fn.ntmps c,fn.results.toList⟩) | none=>J)
 | none=>J⟩
def tO(l:List Y)(i:Nat):Y:=l.getD i cE
def hD(t:Nat→Y):List lB→List Y→S→RV
 | [],c,s=>(match c with | [v]=> .ok v s | _=> .ok (.dS c.reverse) s)
 | .tmp i::l,c,s=>hD t l (t i::c) s
 | .cell a d::l,c,s=>match t a with
  | .ptr b e=>cond (cF P d) (match mg (fc P d) (sizeT P d) b e s with | .ok v s=>hD t l (v::c) s | .no w=> .no w) (.no "result type")
  | _=> .no "result: no pointer"
def ii(cd:bR):List nx→S→(S→RV)→RV
 | [],s,k=>k s
 | d::l,s,k=>match d.f with
  | .func g=>(match cd g (d.args++d.cap) s with | .ok _ s=>ii cd l s k | .no w=> .no w)
  | _=> .no "defer of what"
def iM(cf cd:bR)(bI:Bool)(f:Nat)(args:List Y)(s:S):RV:=
 match (L3 P f).k with
 | none=> .no ("no body: " ++((P.funcs[f]?).map (·.name)).getD "?")
 | some a=>cond (aG args.length a.nt) (match a.body.run cf ⟨tO args,[],bI⟩ s with
  | .no w=> .no (w++ " < " ++((P.funcs[f]?).map (·.name)).getD "?")
  | .ok (.exit _,_) _=> .no "exit"
  | .ok (_,fr) s=>cond bI (match fr.d with | []=>hD P fr.t a.res [] s | _=> .no "defer within a deferred call") (ii cd fr.d s fun s=>hD P fr.t a.res [] s)) (.no "args")
def jo(a:Nat→Nat→Option bR):Nat→Bool→bR
 | 0,_,_,_,_=> .no "too deep"
 | n+1,bI,f,args,s=>match cond bI J (a f s.n)with
  | some g=>g f args s
  | none=>iM P (jo a n U) (jo a n O) bI f args s
end
end
end Go.Ev
namespace Go.Ev
noncomputable section
def tick(b:Bool):Bool:=b
def sg(x:Y)(f:cZ→Int→Bool):Bool:=Y.rec (motive_1:=fun _=>Bool) (motive_2:=fun _=>Bool) (fun _=>U) f (fun _=>U) U (fun _ _=>U) U (fun _ _ _ _ _=>U) (fun _ _ _ _=>U) U (fun _=>U) U (fun _=>U) U (fun _ _ _ _ _=>U) U (fun _ _ _=>U) (fun _ _=>U) (fun _ _=>U) U (fun _ _ _ _=>U) x
def wR(x:Y)(f:Int→Bool):Bool:=Y.rec (motive_1:=fun _=>Bool) (motive_2:=fun _=>Bool) (fun _=>U) (fun k n=>zz U U U (f n) U U U U k) (fun _=>U) U (fun _ _=>U) U (fun _ _ _ _ _=>U) (fun _ _ _ _=>U) U (fun _=>U) U (fun _=>U) U (fun _ _ _ _ _=>U) U (fun _ _ _=>U) (fun _ _=>U) (fun _ _=>U) U (fun _ _ _ _=>U) x
def mi(x:Y)(f:Nat→Nat→Bool):Bool:=Y.rec (motive_1:=fun _=>Bool) (motive_2:=fun _=>Bool) (fun _=>U) (fun _ _=>U) (fun _=>U) U f U (fun _ _ _ _ _=>U) (fun _ _ _ _=>U) U (fun _=>U) U (fun _=>U) U (fun _ _ _ _ _=>U) U (fun _ _ _=>U) (fun _ _=>U) (fun _ _=>U) U (fun _ _ _ _=>U) x
def L4(x:Y)(f:List Y→Bool):Bool:=Y.rec (motive_1:=fun _=>Bool) (motive_2:=fun _=>Bool) (fun _=>U) (fun _ _=>U) (fun _=>U) U (fun _ _=>U) U (fun _ _ _ _ _=>U) (fun _ _ _ _=>U) U (fun _=>U) U (fun _=>U) U (fun _ _ _ _ _=>U) U (fun _ _ _=>U) (fun _ _=>U) (fun a _=>f a) U (fun _ _ _ _=>U) x
def Dm(x:Y)(p q:Bool):Bool:=Y.rec (motive_1:=fun _=>Bool) (motive_2:=fun _=>Bool) (fun b=>aA q p b) (fun _ _=>U) (fun _=>U) U (fun _ _=>U) U (fun _ _ _ _ _=>U) (fun _ _ _ _=>U) U (fun _=>U) U (fun _=>U) U (fun _ _ _ _ _=>U) U (fun _ _ _=>U) (fun _ _=>U) (fun _ _=>U) U (fun _ _ _ _=>U) x
def Hu(x:Y):Bool:=Y.rec (motive_1:=fun _=>Bool) (motive_2:=fun _=>Bool) (fun _=>U) (fun _ _=>U) (fun _=>U) U (fun _ _=>O) U (fun _ _ _ _ _=>U) (fun _ _ _ _=>U) U (fun _=>U) U (fun _=>U) U (fun _ _ _ _ _=>U) U (fun _ _ _=>U) (fun _ _=>U) (fun _ _=>U) U (fun _ _ _ _=>U) x
def QC(x:Y)(f:Nat→Bool):Bool:=Y.rec (motive_1:=fun _=>Bool) (motive_2:=fun _=>Bool) (fun _=>U) (fun _ _=>U) (fun _=>U) U (fun _ _=>U) (f 0) (fun _ _ n _ _=>f n) (fun _ _ _ _=>f 0) U (fun _=>U) U (fun _=>U) U (fun _ _ _ _ _=>U) U (fun _ _ _=>U) (fun _ _=>U) (fun _ _=>U) U (fun _ _ _ _=>U) x
def L5(x:Y)(f:Nat→Nat→Nat→Bool):Bool:=Y.rec (motive_1:=fun _=>Bool) (motive_2:=fun _=>Bool) (fun _=>U) (fun _ _=>U) (fun _=>U) U (fun _ _=>U) U (fun b o n _ _=>f b o n) (fun _ _ _ _=>U) U (fun _=>U) U (fun _=>U) U (fun _ _ _ _ _=>U) U (fun _ _ _=>U) (fun _ _=>U) (fun _ _=>U) U (fun _ _ _ _=>U) x
def QD(x:Y)(f:Fn→List Y→List Y→Bool):Bool:=Y.rec (motive_1:=fun _=>Bool) (motive_2:=fun _=>Bool) (fun _=>U) (fun _ _=>U) (fun _=>U) U (fun _ _=>U) U (fun _ _ _ _ _=>U) (fun _ _ _ _=>U) U (fun _=>U) U (fun _=>U) U (fun a b c _ _=>f a b c) U (fun _ _ _=>U) (fun _ _=>U) (fun _ _=>U) U (fun _ _ _ _=>U) x
abbrev qK:=Nat→List Y→S→(Y→S→Bool)→Bool
structure Cx where
 cf:qK
 cd:qK
 bI:Bool
abbrev TF(d:Nat):=TT Y d
structure OF(d:Nat) where
 run:Cx→TF d→S→(TF d→S→Bool)→Bool
structure KF(d:Nat) where
 run:Cx→TF d→List nx→S→(X→TF d→List nx→S→Bool)→Bool
structure GF(d:Nat) where
 run:TF d→Y
structure AG(d:Nat) where
 run:TF d→List Y
def JG:bR:=fun _ _ _=> .no ""
def mz(b:Nat):tG (Option AO) 6:=aA ⟨fun _=>J⟩ (sel 6 b) (aG (bS b) (nat_lit 262144))
def GA(b:Nat):Put (Option AO) 6:=aA ⟨fun _ _ _=>U⟩ (put 6 b) (aG (bS b) (nat_lit 262144))
def L6(s:S)(b:Nat)(κ:AO→S→Bool):Bool:=
 S.rec (fun h n r w=>tG.rec (fun f=>gL U (fun a=>κ a (S.mk h n (b::r) w)) (f h.t)) (mz b)) s
def newF(s:S)(a:AO)(κ:Nat→S→Bool):Bool:=
 S.rec (fun h n r w=>Put.rec (fun f=>f (I a) h.t fun t=>κ n (S.mk (Tr.mk t h.o) (bS n) r w)) (GA n)) s
def L7(l:List Y):List Y:=(bK [] (fun _ t _=>(bK [] (fun _ t _=>(bK [] (fun _ t _=>(bK [] (fun _ t _=>(bK [] (fun _ t _=>(bK [] (fun _ t _=>(bK [] (fun _ t _=>(bK [] (fun _ t _=>t) t)) t)) t)) t)) t)) t)) t)) l)
def L8(n:Nat):List Y→List Y:=dm (fun l=>l) (fun _ a l=>bK [] (fun _ t _=>a t) l) n
def Hv(n:Nat):List Y→List Y:=dm (fun l=>l) (fun _ a l=>a (L7 l)) n
def wS(n:Nat)(l:List Y):List Y:=L8 (l7 n (nat_lit 8)) (Hv (lC n (nat_lit 8)) l)
def QE(n:Nat):List Y→(List Y→Bool)→Bool:=dm (fun _ k=>k []) (fun _ b l k=>bK U (fun a t _=>b t fun t=>k (a::t)) l) n
def TR(x:Y)(n:Nat):List Y→(List Y→Bool)→Bool:=dm (fun l k=>bK U (fun _ t _=>k (x::t)) l) (fun _ b l k=>bK U (fun a t _=>b t fun t=>k (a::t)) l) n
def QF(x:List Y):List Y→(List Y→Bool)→Bool:=bK (fun c k=>k c) (fun a _ b c k=>bK U (fun _ t _=>b t fun t=>k (a::t)) c) x
def TS(x:List Y)(n:Nat):List Y→(List Y→Bool)→Bool:=dm (fun l k=>QF x l k) (fun _ b l k=>bK U (fun a t _=>b t fun t=>k (a::t)) l) n
def Dn(o:AO)(f:List Y→Nat→Bool):Bool:=AO.rec f (fun _ _=>U) (fun _ _ _ _ _=>U) U o
def Do(b a:Nat)(s:S)(κ:Y→S→Bool):Bool:=L6 s b fun o s=>Dn o fun c _=>bK U (fun v _ _=>κ v s) (wS a c)
def Dp(n b a:Nat)(s:S)(κ:Y→S→Bool):Bool:=L6 s b fun o s=>Dn o fun c _=>QE n (wS a c) fun l=>κ (.agg l) s
def B3(x:Y):Bool:=Y.rec (motive_1:=fun _=>Bool) (motive_2:=fun _=>Bool) (fun _=>O) (fun _ _=>O) (fun _=>O) O (fun _ _=>O) O (fun _ _ _ _ _=>O) (fun _ _ _ _=>O) O (fun _=>O) O (fun _=>O) O (fun _ _ _ _ _=>O) O (fun _ _ _=>O) (fun _ _=>U) (fun _ _=>U) O (fun _ _ _ _=>O) x
def Ni(x:Y)(f:List Y→Bool):Bool:=Y.rec (motive_1:=fun _=>Bool) (motive_2:=fun _=>Bool) (fun _=>U) (fun _ _=>U) (fun _=>U) U (fun _ _=>U) U (fun _ _ _ _ _=>U) (fun _ _ _ _=>U) U (fun _=>U) U (fun _=>U) U (fun _ _ _ _ _=>U) U (fun _ _ _=>U) (fun a _=>f a) (fun _ _=>U) U (fun _ _ _ _=>U) x
def Hw(l:List Y):Bool:=bK O (fun a _ b=>aA U b (B3 a)) l
def QG(s:S)(b:Nat)(m:List Y→(List Y→Bool)→Bool)(κ:S→Bool):Bool:=
 S.rec (fun h n r w=>tG.rec (fun f=>gL U (fun a=>Dn a fun c p=>m c fun c=>
  Put.rec (fun f=>f (I (.row c p)) h.t fun t=>κ (S.mk (Tr.mk t h.o) n (b::r) (b::w))) (GA b)) (f h.t)) (mz b)) s
def Hx(b a:Nat)(x:Y)(s:S)(κ:S→Bool):Bool:=aA U (QG s b (TR x a) κ) (B3 x)
def Hy(sz b a:Nat)(x:Y)(s:S)(κ:S→Bool):Bool:=Ni x fun l=>aA U (aA U (QG s b (TS l a) κ) (Hw l)) (ak l.length sz)
section
variable (P:aQ) (d nt:Nat)
def cW(o:aP):GF d:=match o with
 | .tmp i=>cond (bM i (8 ^ d)) (tG.rec (fun f=>⟨f⟩) (sel d i)) ⟨fun _=>cE⟩
 | .const v=>(match De v with | some a=>⟨fun _=>a⟩ | none=>⟨fun _=>cE⟩)
 | .global _=>⟨fun _=>cE⟩
 | .func f=>⟨fun _=> .fn (.func f) [] []⟩
def cy(o:aP):Bool:=match o with
 | .tmp _=>O
 | .const v=>(De v).isSome
 | .global _=>U
 | .func _=>O
def lk:List aP→AG d
 | []=>⟨fun _=>[]⟩
 | o::l=>GF.rec (fun f=>AG.rec (fun g=>⟨fun t=>f t::g t⟩) (lk l)) (cW d o)
def eB(a:Option Nat):Put Y d:=match a with
 | none=>⟨fun _ t k=>k t⟩
 | some j=>cond (bM j nt) (put d j) ⟨fun _ t k=>k t⟩
def ET:OF d:=⟨fun _ _ _ _=>U⟩
def oN(o:aH):OF d:=
 AG.rec (fun g=>Put.rec (fun p=>OK.rec (fun run=>⟨fun _ t s k=>Rs.rec (fun _=>U) (fun v s=>p v t fun t=>k t s) (run JG (g t) s)⟩) (gQ P o.op)) (eB d nt o.dst)) (lk d o.op.operands.toList)
def fP(op:gY)(x y:Y)(κ:Y→Bool):Bool:=gL U κ (qm op x y)
def TU(x y:Y)(κ:Y→Bool):Bool:=wR x fun a=>wR y fun b=>iF (fun a=>iF (fun b=>aA (fP .add x y κ) (κ (.int .i64 (.ofNat (pZ a b)))) (aG (pZ a b) (nat_lit 9223372036854775807))) (fun _=>fP .add x y κ) b) (fun _=>fP .add x y κ) a
def TV(x y:Y)(κ:Y→Bool):Bool:=wR x fun a=>wR y fun b=>iF (fun a=>iF (fun b=>aA (fP .sub x y κ) (aA (fP .sub x y κ) (κ (.int .i64 (.ofNat (Nat.sub a b)))) (aG a (nat_lit 9223372036854775807))) (aG b a)) (fun _=>fP .sub x y κ) b) (fun _=>fP .sub x y κ) a
def Dq(op:gY)(f:Nat→Nat→Bool)(x y:Y)(κ:Y→Bool):Bool:=wR x fun a=>wR y fun b=>iF (fun a=>iF (fun b=>κ (.bool (f a b))) (fun _=>fP op x y κ) b) (fun _=>fP op x y κ) a
def A1(k:cZ):Nat:=zz (nat_lit 0) (nat_lit 1) (nat_lit 2) (nat_lit 3) (nat_lit 4) (nat_lit 5) (nat_lit 6) (nat_lit 7) k
def m_(k:cZ):Nat:=zz (nat_lit 128) (nat_lit 32768) (nat_lit 2147483648) (nat_lit 9223372036854775808) (nat_lit 256) (nat_lit 65536) (nat_lit 4294967296) (nat_lit 18446744073709551616) k
def A2(x y:Y)(f:cZ→Nat→Nat→Bool)(slow:Bool):Bool:=sg x fun k a=>sg y fun c b=>iF (fun a=>iF (fun b=>aA slow (f k a b) (ak (A1 k) (A1 c))) (fun _=>slow) b) (fun _=>slow) a
def TW(x y:Y)(κ:Y→Bool):Bool:=A2 x y (fun k a b=>aA (fP .add x y κ) (κ (.int k (.ofNat (pZ a b)))) (aG (bS (pZ a b)) (m_ k))) (fP .add x y κ)
def TX(x y:Y)(κ:Y→Bool):Bool:=A2 x y (fun k a b=>aA (fP .sub x y κ) (aA (fP .sub x y κ) (κ (.int k (.ofNat (Nat.sub a b)))) (aG (bS a) (m_ k))) (aG b a)) (fP .sub x y κ)
def QH(x y:Y)(κ:Y→Bool):Bool:=A2 x y (fun k a b=>aA (fP .mul x y κ) (κ (.int k (.ofNat (Nat.mul a b)))) (aG (bS (Nat.mul a b)) (m_ k))) (fP .mul x y κ)
def Dr(op:gY)(g:Nat→Nat→Nat)(x y:Y)(κ:Y→Bool):Bool:=A2 x y (fun k a b=>aA (fP op x y κ) (aA (fP op x y κ) (κ (.int k (.ofNat (g a b)))) (aG (bS b) (m_ k))) (aG (bS a) (m_ k))) (fP op x y κ)
def QI(x y:Y)(κ:Y→Bool):Bool:=A2 x y (fun k a b=>aA (fP .quo x y κ) (aA U (κ (.int k (.ofNat (lC a b)))) (aG (nat_lit 1) b)) (aG (bS a) (m_ k))) (fP .quo x y κ)
def QJ(x y:Y)(κ:Y→Bool):Bool:=A2 x y (fun k a b=>aA U (κ (.int k (.ofNat (l7 a b)))) (aG (nat_lit 1) b)) (fP .rem x y κ)
def QL(x y:Y)(κ:Y→Bool):Bool:=sg x fun k a=>sg y fun _ b=>iF (fun a=>iF (fun b=>aA (fP .shr x y κ) (κ (.int k (.ofNat (lC a (Nat.pow (nat_lit 2) b))))) (aG (bS a) (m_ k))) (fun _=>fP .shr x y κ) b) (fun _=>fP .shr x y κ) a
def Ds(op:gY)(f:Nat→Nat→Bool)(x y:Y)(κ:Y→Bool):Bool:=A2 x y (fun _ a b=>κ (.bool (f a b))) (fP op x y κ)
structure BF where
 run:Y→Y→(Y→Bool)→Bool
def JH(b:Bool):Bool:=aA O U b
def Nj(op:gY):BF:=match op with
 | .add=>⟨TU⟩
 | .sub=>⟨TV⟩
 | .eql=>⟨Dq .eql ak⟩
 | .neq=>⟨Dq .neq fun a b=>JH (ak a b)⟩
 | .lss=>⟨Dq .lss fun a b=>aG (bS a) b⟩
 | .leq=>⟨Dq .leq aG⟩
 | .gtr=>⟨Dq .gtr fun a b=>aG (bS b) a⟩
 | .geq=>⟨Dq .geq fun a b=>aG b a⟩
 | .mul=>⟨QH⟩
 | .quo=>⟨QI⟩
 | .rem=>⟨QJ⟩
 | .and=>⟨Dr .and Nat.land⟩
 | .or=>⟨Dr .or Nat.lor⟩
 | .xor=>⟨Dr .xor Nat.xor⟩
 | .shr=>⟨QL⟩
 | op=>⟨fP op⟩
def Nk(op:gY):BF:=match op with
 | .add=>⟨TW⟩
 | .sub=>⟨TX⟩
 | .eql=>⟨Ds .eql ak⟩
 | .neq=>⟨Ds .neq fun a b=>JH (ak a b)⟩
 | .lss=>⟨Ds .lss fun a b=>aG (bS a) b⟩
 | .leq=>⟨Ds .leq aG⟩
 | .gtr=>⟨Ds .gtr fun a b=>aG (bS b) a⟩
 | .geq=>⟨Ds .geq fun a b=>aG b a⟩
 | .mul=>⟨QH⟩
 | .quo=>⟨QI⟩
 | .rem=>⟨QJ⟩
 | .and=>⟨Dr .and Nat.land⟩
 | .or=>⟨Dr .or Nat.lor⟩
 | .xor=>⟨Dr .xor Nat.xor⟩
 | .shr=>⟨QL⟩
 | op=>⟨fP op⟩
def QM(x:aP)(a:Option Nat):OF d:=
 GF.rec (fun f=>Put.rec (fun p=>⟨fun _ t s k=>p (f t) t fun t=>k t s⟩) (eB d nt a)) (cW d x)
def TY(a:Bool)(op:gY)(x y:aP)(c:Option Nat):OF d:=
 GF.rec (fun f=>GF.rec (fun g=>Put.rec (fun p=>BF.rec (fun b=>⟨fun _ t s k=>b (f t) (g t) fun v=>p v t fun t=>k t s⟩) (cond a (Nj op) (Nk op))) (eB d nt c)) (cW d y)) (cW d x)
def Nl(a:Nat)(x:aP)(c:Option Nat):OF d:=
 GF.rec (fun f=>Put.rec (fun p=>⟨fun _ t s k=>mi (f t) fun b o=>p (.ptr b (pZ o a)) t fun t=>k t s⟩) (eB d nt c)) (cW d x)
def QN(c:Bool)(sz:Nat)(x:aP)(a:Option Nat):OF d:=
 GF.rec (fun f=>Put.rec (fun p=>cond c
  ⟨fun _ t s k=>mi (f t) fun b o=>Dp sz b o s fun v s=>p v t fun t=>k t s⟩
  ⟨fun _ t s k=>mi (f t) fun b o=>Do b o s fun v s=>p v t fun t=>k t s⟩) (eB d nt a)) (cW d x)
def Nm(c:Bool)(sz:Nat)(x y:aP)(a:Option Nat):OF d:=
 GF.rec (fun f=>GF.rec (fun g=>Put.rec (fun p=>cond c
  ⟨fun _ t s k=>mi (f t) fun b o=>Hy sz b o (g t) s fun s=>p cE t fun t=>k t s⟩
  ⟨fun _ t s k=>mi (f t) fun b o=>Hx b o (g t) s fun s=>p cE t fun t=>k t s⟩) (eB d nt a)) (cW d y)) (cW d x)
def TZ(o:aH)(x:aP):OF d:=
 GF.rec (fun f=>Put.rec (fun p=>OF.rec (fun slow=>⟨fun c t s k=>aA (slow c t s k) (p (f t) t fun t=>k t s) (Hu (f t))⟩) (oN P d nt o)) (eB d nt o.dst)) (cW d x)
def QO(x y z:aP)(a:Option Nat):OF d:=
 GF.rec (fun f=>GF.rec (fun g=>GF.rec (fun h=>Put.rec (fun p=>⟨fun _ t s k=>Dm (f t) (p (g t) t fun t=>k t s) (p (h t) t fun t=>k t s)⟩) (eB d nt a)) (cW d z)) (cW d y)) (cW d x)
def T6(size:Nat)(x y:aP)(a:Option Nat):OF d:=
 GF.rec (fun f=>GF.rec (fun g=>Put.rec (fun p=>⟨fun _ t s k=>L5 (f t) fun b o n=>sg (g t) fun _ i=>iF (fun i=>aA U (p (.ptr b (pZ o (Nat.mul i size))) t fun t=>k t s) (aG (bS i) n)) (fun _=>U) i⟩) (eB d nt a)) (cW d y)) (cW d x)
def T7(x:aP)(a:Option Nat):OF d:=
 GF.rec (fun f=>Put.rec (fun p=>⟨fun _ t s k=>QC (f t) fun n=>p (.int .i64 (.ofNat n)) t fun t=>k t s⟩) (eB d nt a)) (cW d x)
def T8(i:Nat)(x:aP)(a:Option Nat):OF d:=
 GF.rec (fun f=>Put.rec (fun p=>⟨fun _ t s k=>L4 (f t) fun l=>bK U (fun v _ _=>p v t fun t=>k t s) (wS i l)⟩) (eB d nt a)) (cW d x)
def T9(z:List Y)(a:Option Nat):OF d:=
 Put.rec (fun p=>⟨fun _ t s k=>newF s (.row z 0) fun b s=>p (.ptr b 0) t fun t=>k t s⟩) (eB d nt a)
def T_(x:aP)(a:Option Nat):OF d:=
 GF.rec (fun f=>Put.rec (fun p=>⟨fun _ t s k=>newF s (.row (f t).cells 0) fun b s=>p (.ptr b 0) t fun t=>k t s⟩) (eB d nt a)) (cW d x)
def QP(f:Nat)(args:List aP)(a:Option Nat):OF d:=
 AG.rec (fun g=>Put.rec (fun p=>⟨fun c t s k=>Cx.rec (fun cf _ _=>cf f (g t) s fun v s=>p v t fun t=>k t s) c⟩) (eB d nt a)) (lk d args)
def Dt(cf:qK)(a:Y)(b:String)(args:List Y)(s:S)(κ:Y→S→Bool):Bool:=match a with
 | .qI t v=>(match (oA P t b).f with | some f=>cf f (v::args) s κ | none=>U)
 | _=>U
def Hz(cf:qK)(f:Y)(args:List Y)(s:S)(κ:Y→S→Bool):Bool:=match f with
 | .fn (.func g) a cap=>cf g (a++(args++cap)) s κ
 | .fn (.method b) a _=>(match a++args with | r::l=>Dt P cf r b l s κ | []=>U)
 | _=>U
def Nn(x:aP)(args:List aP)(a:Option Nat):OF d:=
 GF.rec (fun f=>AG.rec (fun g=>Put.rec (fun p=>⟨fun c t s k=>Cx.rec (fun cf _ _=>Hz P cf (f t) (g t) s fun v s=>p v t fun t=>k t s) c⟩) (eB d nt a)) (lk d args)) (cW d x)
def No(x:aP)(a:String)(args:List aP)(b:Option Nat):OF d:=
 GF.rec (fun f=>AG.rec (fun g=>Put.rec (fun p=>⟨fun c t s k=>Cx.rec (fun cf _ _=>Dt P cf (f t) a (g t) s fun v s=>p v t fun t=>k t s) c⟩) (eB d nt b)) (lk d args)) (cW d x)
def QQ(q:cZ)(x:aP)(slow:OF d)(b:Option Nat):OF d:=
 GF.rec (fun f=>Put.rec (fun p=>OF.rec (fun slow=>⟨fun c t s k=>sg (f t) fun _ a=>iF (fun a=>aA (slow c t s k) (p (.int q (.ofNat a)) t fun t=>k t s) (aG (bS a) (m_ q))) (fun _=>slow c t s k) a⟩) slow) (eB d nt b)) (cW d x)
def Ua(x:aP)(a:Option Nat):OF d:=
 GF.rec (fun f=>Put.rec (fun p=>⟨fun _ t s k=>Dm (f t) (p (.bool U) t fun t=>k t s) (p (.bool O) t fun t=>k t s)⟩) (eB d nt a)) (cW d x)
def Ub(a:Option Nat):OF d:=
 Put.rec (fun p=>⟨fun c t s k=>Cx.rec (fun _ _ b=>aA U (p .lV t fun t=>k t s) b) c⟩) (eB d nt a)
def S3(t:Nat):Bool:=match P.underlying t with | some (.int .i64)=>O | _=>U
def Du(t:Nat):Bool:=match P.underlying t with | some (.int _)=>O | _=>U
def zX(o:aH):OF d:=match o.op with
 | .move x | .assign x=>QM d nt x o.dst
 | .pick x y z=>QO d nt x y z o.dst
 | .alloc e=>(match km P e with | some z=>T9 d nt z.cells o.dst | none=>ET d)
 | .box _ x=>T_ d nt x o.dst
 | .binOp op t x y _=>cond (Du P t) (TY d nt (S3 P t) op x y o.dst) (oN P d nt o)
 | .fieldAddr t x f=>(match P.underlying t with
  | some (.struct h)=>(match h[f]? with
   | some q=>cond (cF P q.type&&!(ak (sizeT P q.type) 0)) (Nl d nt q.offset x o.dst) (ET d)
   | none=>ET d)
  | _=>ET d)
 | .load t x=>cond (cF P t) (QN d nt (fc P t) (sizeT P t) x o.dst) (ET d)
 | .store t x y=>cond (cF P t) (Nm d nt (!(ak (sizeT P t) 1)||fc P t) (sizeT P t) x y o.dst) (ET d)
 | .nilCheck x=>TZ P d nt o x
 | .convert a b x=>(match P.underlying a,P.underlying b with
  | some (.int _),some (.int q)=>QQ d nt q x (oN P d nt o) o.dst
  | _,_=>oN P d nt o)
 | .unOp .not _ x=>Ua d nt x o.dst
 | .indexAddr t x y=>(match P.underlying t with
  | some (.slice e)=>cond (cF P e) (T6 d nt (sizeT P e) x y o.dst) (ET d)
  | _=>oN P d nt o)
 | .extract x i=>T8 d nt i x o.dst
 | .call c=>(match c.callee with
  | .value (.func f)=>QP d nt f c.args.toList o.dst
  | .value x=>Nn P d nt x c.args.toList o.dst
  | .invoke x g=>No P d nt x g c.args.toList o.dst
  | .builtin .recover=>Ub d nt o.dst
  | .builtin .len=>(match c.argTypes.toList,c.args.toList with
   | [j],[x]=>(match P.underlying j with | some (.slice _)=>T7 d nt x o.dst | _=>oN P d nt o)
   | _,_=>oN P d nt o)
  | .builtin _=>oN P d nt o)
 | _=>oN P d nt o
def Np(ops:Array aH)(o:aH)(f:OF d):OF d:=match o.guard with
 | none=>f
 | some (j,want)=>(match (ops[j]?).bind (·.dst)with
  | some i=>OF.rec (fun f=>GF.rec (fun g=>Put.rec (fun p=>cond want ⟨fun c t s k=>Dm (g t) (f c t s k) (p cE t fun t=>k t s)⟩ ⟨fun c t s k=>Dm (g t) (p cE t fun t=>k t s) (f c t s k)⟩) (eB d nt o.dst)) (cW d (.tmp i))) f
  | none=>ET d)
def L_(ops:Array aH)(o:aH):OF d:=cond (o.op.operands.toList.all cy) (Np d nt ops o (zX P d nt o)) (ET d)
def Nq(o:aH)(c:Call):KF d:=match c.callee,o.guard with
 | .value x,none=>cond (cy x&&c.args.toList.all cy) (GF.rec (fun f=>AG.rec (fun g=>Put.rec (fun p=>⟨fun _ t ds s k=>QD (f t) fun q a cap=>p cE t fun b=>k .gI b (⟨q,cap,a++g t⟩::ds) s⟩) (eB d nt o.dst)) (lk d c.args.toList)) (cW d x)) ⟨fun _ _ _ _ _=>U⟩
 | _,_=>⟨fun _ _ _ _ _=>U⟩
def A3(ops:Array aH)(a:KF d):List aH→KF d
 | []=>a
 | o::l=>(match o.op with
  | .defer c=>KF.rec (fun f=>KF.rec (fun g=>⟨fun c t ds s k=>f c t ds s fun _ t ds s=>g c t ds s k⟩) (A3 ops a l)) (Nq d nt o c)
  | _=>OF.rec (fun f=>KF.rec (fun g=>⟨fun c t ds s k=>f c t s fun t s=>g c t ds s k⟩) (A3 ops a l)) (L_ P d nt ops o))
def Ma(a z:Nat)(w:List Nat):Bool:=aA O (bK U (fun _ _ _=>O) w) (ak a z)
def Dv(f:Nat→Bool)(l:List Nat):Bool:=bK U (fun a _ b=>aA b O (f a)) l
def tP(f:Nat→Bool)(l:List Nat):List Nat:=bK [] (fun a _ b=>aA b (n_ a b) (f a)) l
def A4(l m:List Nat):List Nat:=bK m (fun a _ b=>n_ a b) l
def Dw(a b:List Nat):Bool:=Dv (fun i=>Dv (fun j=>ak i j) b) a
def tQ(a z:Nat)(l:List Nat):Bool:=aA (Dv (fun i=>aA U (aG (bS i) z) (aG a i)) l) U (ak a z)
def vV(a z i:Nat):Bool:=aA O (aG z i) (aG a i)
def B6(x y:Rec):Bool:=Rec.rec (fun a z r w=>Rec.rec (fun c d e b=>
 aA (aA (aA (aA (aA (aA (tQ c d r) O (tQ a z e)) O (tQ c d w)) O (tQ a z b)) O (Dw w b)) O (Dw b r)) O (Dw w e)) y) x
def mA(b:List Bool):List Rec→Rec→Bool:=bK (fun _ _=>U) (fun u _ a l y=>bK U (fun x l _=>aA (a l y) (aA (a l y) O (B6 x y)) u) l) b
def H5(d:List Bool)(c:Bool)(b:List Rec)(a z:Nat)(r w:List Nat)(κ:Bool→Bool):Bool:=aA (aA (κ U) (aA (κ O) U (mA d b (Rec.mk a z r w))) (Ma a z w)) (aA (κ O) U (mA d b (Rec.mk a z r w))) c
def kL(o:aH):Bool:=match o.op with
 | .move _ | .assign _ | .pick _ _ _ | .binOp _ _ _ _ _ | .unOp _ _ _ | .fieldAddr _ _ _ | .field _ _ _ | .indexAddr _ _ _ | .index _ _ _ | .nilCheck _ | .extract _ _ | .makeInterface _ _ | .makeFunc _ _ _ | .slice _ _ _ _ _ | .build _ _ | .typeAssert _ _ _ _=>O
 | .call c=>(match c.callee,c.argTypes.toList with
  | .builtin .cap,_ | .builtin .max,_ | .builtin .min,_ | .builtin .recover,_=>O
  | .builtin .len,[a]=>(match P.underlying a with | some (.slice _) | some .string | some (.array _ _)=>O | _=>U)
  | _,_=>U)
 | _=>U
def yK(ops:Array aH)(i:Nat):VK:=⟨((((fC ops i).l.zip ops.toList).filter fun x=>!(kL P x.2)).map (·.1)).reverse⟩
structure DF(d:Nat) where
 run:Cx→TF d→S→Bool→List Rec→(TF d→S→Bool)→Bool
def qL(ops:Array aH):List (Nat×aH)→DF d
 | []=>⟨fun _ t s _ _ k=>k t s⟩
 | (i,o)::l=>OF.rec (fun f=>DF.rec (fun g=>cond (kL P o) ⟨fun c t s a b k=>f c t s fun t s=>g c t s a b k⟩ (VK.rec (fun p=>
  ⟨fun c t s a b k=>S.rec (fun h n r w=>f c t (S.mk h n [] []) fun t s=>S.rec (fun q e u v=>
   (fun j m=>H5 p a b n e j m fun a=>g c t (S.mk q e (A4 j r) (A4 m w)) a (n_ (Rec.mk n e j m) b) k) (tP (vV n e) u) (tP (vV n e) v)) s) s⟩)
  (yK P ops i))) (qL ops l)) (L_ P d nt ops o)
def Mb(ops:Array aH)(a:KF d):KF d:=cond (pe ops).b (DF.rec (fun f=>KF.rec (fun g=>⟨fun c t ds s k=>f c t s U [] fun t s=>g c t ds s k⟩) a) (qL P d nt ops (ops.toList.zipIdx.map fun(o,i)=>(i,o)))) ⟨fun _ _ _ _ _=>U⟩
def oR:KF d:=⟨fun _ t ds s k=>k .gI t ds s⟩
def H6(f:Cx→TF d→List nx→S→(X→TF d→List nx→S→Bool)→Bool)(n:Nat):Cx→TF d→List nx→S→(X→TF d→List nx→S→Bool)→Bool:=
 dm (fun _ _ _ _ _=>U)
  (fun _ a c t ds s k=>f c t ds s fun x t ds s=>X.rec (tick (a c t ds s k)) (fun i=>k (.exit i) t ds s) (k .ret t ds s) x) n
def codeF(e:KF d):Code→KF d
 | .skip | .label _=>e
 | .region _ ops draw=>cond draw (Mb P d nt ops e) (A3 P d nt ops e ops.toList)
 | .seq a b=>codeF (codeF e b) a
 | .cond o a b=>cond (cy o) (GF.rec (fun q=>KF.rec (fun f=>KF.rec (fun g=>KF.rec (fun h=>⟨fun c t ds s k=>Dm (q t) (f c t ds s fun x t ds s=>X.rec (h c t ds s k) (fun i=>k (.exit i) t ds s) (k .ret t ds s) x) (g c t ds s fun x t ds s=>X.rec (h c t ds s k) (fun i=>k (.exit i) t ds s) (k .ret t ds s) x)⟩) e) (codeF (oR d) b)) (codeF (oR d) a)) (cW d o)) ⟨fun _ _ _ _ _=>U⟩
 | .block j a=>KF.rec (fun f=>KF.rec (fun h=>⟨fun c t ds s k=>f c t ds s fun x t ds s=>X.rec (h c t ds s k) (fun i=>aA (k (.exit i) t ds s) (h c t ds s k) (ak i j)) (k .ret t ds s) x⟩) e) (codeF (oR d) a)
 | .loop a=>KF.rec (fun f=>⟨H6 d f 1000000⟩) (codeF (oR d) a)
 | .exit j=>⟨fun _ t ds s k=>tick (k (.exit j) t ds s)⟩
 | .ret=>⟨fun _ t ds s k=>k .ret t ds s⟩
 | _=>⟨fun _ _ _ _ _=>U⟩
structure RF(d:Nat) where
 run:TF d→S→(List Y→S→Bool)→Bool
def rh:List lB→RF d
 | []=>⟨fun _ s k=>k [] s⟩
 | .tmp i::l=>GF.rec (fun f=>RF.rec (fun g=>⟨fun t s k=>g t s fun c s=>k (f t::c) s⟩) (rh l)) (cW d (.tmp i))
 | .cell a e::l=>GF.rec (fun f=>RF.rec (fun g=>cond (cF P e) (cond (fc P e)
   ⟨fun t s k=>mi (f t) fun b o=>Dp (sizeT P e) b o s fun v s=>g t s fun c s=>k (v::c) s⟩
   ⟨fun t s k=>mi (f t) fun b o=>Do b o s fun v s=>g t s fun c s=>k (v::c) s⟩) ⟨fun _ _ _=>U⟩) (rh l)) (cW d (.tmp a))
def oneOf(l:List Y):Y:=bK (.dS []) (fun v t _=>bK v (fun _ _ _=> .dS l) t) l
def H_(l:List Y):Nat→TF d→(TF d→Bool)→Bool:=bK (fun _ t k=>k t) (fun a _ b i t k=>Put.rec (fun f=>f a t fun t=>b (bS i) t k) (put d i)) l
def zY(cd:qK)(l:List nx):S→(S→Bool)→Bool:=bK (fun s k=>k s) (fun q _ a s k=>(match q.f with | .func g=>cd g (q.args++q.cap) s fun _ s=>a s k | _=>U)) l
structure EU where
 run:Cx→List Y→S→(Y→S→Bool)→Bool
def Za(body:Code)(res:List lB):EU:=
 KF.rec (fun f=>RF.rec (fun g=>⟨fun c args s κ=>aA U (H_ d args 0 (TT.all cE d) fun t=>f c t [] s fun x t ds s=>
  (fun fin=>X.rec fin (fun _=>U) fin x) (Cx.rec (fun _ cd b=>aA (zY cd ds s fun s=>g t s fun a s=>κ (oneOf a) s) (bK (g t s fun a s=>κ (oneOf a) s) (fun _ _ _=>U) ds) b) c)) (aG args.length nt)⟩) (rh P d res)) (codeF P d nt (oR d) body)
def Mc(f:Nat):EU:=match P.funcs[f]? with
 | some fn=>(match fn.body with
  | some c=>cond (fn.name== "runtime.NumGoroutine") ⟨fun _ _ _ _=>U⟩ (cond (aG fn.ntmps 64) (Za P 2 fn.ntmps c fn.results.toList) (cond (aG fn.ntmps 512) (Za P 3 fn.ntmps c fn.results.toList) ⟨fun _ _ _ _=>U⟩))
  | none=>⟨fun _ _ _ _=>U⟩)
 | none=>⟨fun _ _ _ _=>U⟩
structure HF where
 run:Nat→Option EU
def S4(a:Nat→Option HF)(bI:Bool)(f:Nat):EU:=cond bI (Mc P f) (match a f with
 | some q=>EU.rec (fun g=>HF.rec (fun q=>⟨fun c args s κ=>S.rec (fun h n r w=>gL (g c args (S.mk h n r w) κ) (fun q=>EU.rec (fun q=>q c args (S.mk h n r w) κ) q) (q n)) s⟩) q) (Mc P f)
 | none=>Mc P f)
def na(a:Nat→Option HF):Nat→Bool→qK
 | 0,_=>fun _ _ _ _=>U
 | n+1,bI=>fun f args s κ=>EU.rec (fun g=>g (Cx.mk (na a n U) (na a n O) bI) args s κ) (S4 P a bI f)
end
end
end Go.Ev
namespace Go.Ev
noncomputable section
def OP(a b:Bool):Bool:=aA (JH b) b a
def Zb(a b:Int):Bool:=iF (fun m=>iF (fun n=>ak m n) (fun _=>U) b) (fun m=>iF (fun _=>U) (fun n=>ak m n) b) a
def Zc(a:List UInt8):List UInt8→Bool:=bK (fun m=>bK O (fun _ _ _=>U) m) (fun x _ b m=>bK U (fun y t _=>(aA U (b t) (ak x.toNat y.toNat))) m) a
def Zd(a b:Fn):Bool:=Fn.rec (fun f=>Fn.rec (fun g=>ak f g) (fun _=>U) (fun _ _=>U) (fun _ _ _ _=>U) (fun _=>U) b) (fun _=>U) (fun _ _=>U) (fun _ _ _ _=>U) (fun _=>U) a
def sA(y:Y)(bool:Bool→Bool:=fun _=>U)(int:cZ→Int→Bool:=fun _ _=>U)(str:List UInt8→Bool:=fun _=>U)(ptr:Nat→Nat→Bool:=fun _ _=>U)(slc:Nat→Nat→Nat→Bool→Nat→Bool:=fun _ _ _ _ _=>U)(oM:Nat→Nat→Nat→Nat→Bool:=fun _ _ _ _=>U)(map:Nat→Bool:=fun _=>U)(chan:Nat→Bool:=fun _=>U)(fn:Fn→List Y→List Y→Bool:=fun _ _ _=>U)(qI:Nat→Y→Bool:=fun _ _=>U)(agg:List Y→Bool:=fun _=>U)(dS:List Y→Bool:=fun _=>U)(q_:Bool:=U)(iC:Bool:=U)(fG:Bool:=U)(yF:Bool:=U)(yG:Bool:=U)(lV:Bool:=U):Bool:=Y.rec (motive_1:=fun _=>Bool) (motive_2:=fun _=>Bool) bool int str q_ ptr iC slc oM fG map yF chan yG (fun f a c _ _=>fn f a c) lV (fun t v _=>qI t v) (fun l _=>agg l) (fun l _=>dS l) U (fun _ _ _ _=>U) y
def QR(a:Y):Y→Bool:=Y.rec (motive_1:=fun _=>Y→Bool) (motive_2:=fun _=>List Y→Bool) (fun b=>(fun y=>sA y (bool:=(OP b)))) (fun k n=>(fun y=>sA y (int:=(fun k2 d=>(aA U (Zb n d) (ak (A1 k) (A1 k2))))))) (fun s=>(fun y=>sA y (str:=(Zc s)))) (fun y=>sA y (q_:=O)) (fun b o=>(fun y=>sA y (ptr:=(fun b2 e=>(aA U (ak o e) (ak b b2)))))) (fun y=>sA y (iC:=O)) (fun b o n p c=>(fun y=>sA y (slc:=(fun b2 e d g c2=>(aA U (aA U (aA U (aA U (ak c c2) (OP p g)) (ak n d)) (ak o e)) (ak b b2)))))) (fun b o n c=>(fun y=>sA y (oM:=(fun b2 e d c2=>(aA U (aA U (aA U (ak c c2) (ak n d)) (ak o e)) (ak b b2)))))) (fun y=>sA y (fG:=O)) (fun b=>(fun y=>sA y (map:=(ak b)))) (fun y=>sA y (yF:=O)) (fun b=>(fun y=>sA y (chan:=(ak b)))) (fun y=>sA y (yG:=O)) (fun f a c i j=>(fun y=>sA y (fn:=(fun f2 a2 c2=>(aA U (aA U (j c2) (i a2)) (Zd f f2)))))) (fun y=>sA y (lV:=O)) (fun t v i=>(fun y=>sA y (qI:=(fun l q=>(aA U (i q) (ak t l)))))) (fun _ i=>(fun y=>sA y (agg:=i))) (fun _ i=>(fun y=>sA y (dS:=i))) (fun m=>bK O (fun _ _ _=>U) m) (fun _ _ i j m=>bK U (fun h t _=>(aA U (j t) (i h))) m) a
def QS(a:List Y):List Y→Bool:=Y.rec_1 (motive_1:=fun _=>Y→Bool) (motive_2:=fun _=>List Y→Bool) (fun b=>(fun y=>sA y (bool:=(OP b)))) (fun k n=>(fun y=>sA y (int:=(fun k2 d=>(aA U (Zb n d) (ak (A1 k) (A1 k2))))))) (fun s=>(fun y=>sA y (str:=(Zc s)))) (fun y=>sA y (q_:=O)) (fun b o=>(fun y=>sA y (ptr:=(fun b2 e=>(aA U (ak o e) (ak b b2)))))) (fun y=>sA y (iC:=O)) (fun b o n p c=>(fun y=>sA y (slc:=(fun b2 e d g c2=>(aA U (aA U (aA U (aA U (ak c c2) (OP p g)) (ak n d)) (ak o e)) (ak b b2)))))) (fun b o n c=>(fun y=>sA y (oM:=(fun b2 e d c2=>(aA U (aA U (aA U (ak c c2) (ak n d)) (ak o e)) (ak b b2)))))) (fun y=>sA y (fG:=O)) (fun b=>(fun y=>sA y (map:=(ak b)))) (fun y=>sA y (yF:=O)) (fun b=>(fun y=>sA y (chan:=(ak b)))) (fun y=>sA y (yG:=O)) (fun f a c i j=>(fun y=>sA y (fn:=(fun f2 a2 c2=>(aA U (aA U (j c2) (i a2)) (Zd f f2)))))) (fun y=>sA y (lV:=O)) (fun t v i=>(fun y=>sA y (qI:=(fun l q=>(aA U (i q) (ak t l)))))) (fun _ i=>(fun y=>sA y (agg:=i))) (fun _ i=>(fun y=>sA y (dS:=i))) (fun m=>bK O (fun _ _ _=>U) m) (fun _ _ i j m=>bK U (fun h t _=>(aA U (j t) (i h))) m) a
def ZH(a:List (Y×Y×Nat)):List (Y×Y×Nat)→Bool:=bK (fun m=>bK O (fun _ _ _=>U) m)
 (fun x _ b m=>bK U (fun y t _=>(aA U (aA U (aA U (b t) (ak x.2.2 y.2.2)) (QR x.2.1 y.2.1)) (QR x.1 y.1))) m) a
def OQ(a b:AO):Bool:=AO.rec
 (fun c p=>AO.rec (fun c2 d=>(aA U (QS c c2) (ak p d))) (fun _ _=>U) (fun _ _ _ _ _=>U) U b)
 (fun e k=>AO.rec (fun _ _=>U) (fun f k2=>(aA U (ZH e f) (ak k k2))) (fun _ _ _ _ _=>U) U b)
 (fun n l c i j=>AO.rec (fun _ _=>U) (fun _ _=>U) (fun g h c2 m o=>(aA U (aA U (aA U (aA U (ak j o) (ak i m)) (OP c c2)) (QS l h)) (ak n g))) U b)
 (AO.rec (fun _ _=>U) (fun _ _=>U) (fun _ _ _ _ _=>U) O b) a
structure Fact where
 f:Nat
 args:List Y
 n:Nat
 pre:List (Nat×AO)
 v:Y
 z:Nat
 post:List (Nat×AO)
def lies(l:List (Nat×AO))(h:Tr AO):Bool:=bK O (fun p _ a=>tG.rec (fun f=>gL U (fun o=>(aA U a (OQ p.2 o))) (f h.t)) (mz p.1)) l
def lay(l:List (Nat×AO)):Tr AO→Tr AO:=bK (fun h=>h) (fun p _ a h=>a (h.set p.1 p.2)) l
def pM(l:List (Nat×AO)):List Nat:=bK [] (fun p _ a=>n_ p.1 a) l
def JI(f:Nat→Bool)(l:List Nat):Bool:=bK O (fun a _ b=>(aA U b (f a))) l
def Nr(a:Nat)(l:List Nat):Bool:=Dv (fun i=>ak a i) l
def Uc(h:Tr AO)(b:Nat):Bool:=tG.rec (fun f=>gL U (fun _=>O) (f h.t)) (mz b)
def Dx(n z b:Nat)(q:Bool):Bool:=(aA q (aG (bS b) z) (aG n b))
def Fact.start(x:Fact):S:=S.mk (lay x.pre Tr.e) x.n [] []
def Fact.ended(x:Fact)(v:Y)(s:S):Bool:=(aA U (aA U (aA U (aA U (aA U (aA U (JI (fun b=>aG (bS b) x.n) (pM x.pre)) (JI (fun b=>Dx x.n x.z b (Nr b s.w)) (pM x.post))) (JI (fun b=>Dx x.n x.z b (Nr b (pM x.post))) s.w)) (JI (fun b=>Dx x.n x.z b (Uc (lay x.pre Tr.e) b)) s.r)) (lies x.post s.h)) (ak s.n x.z)) (QR x.v v))
def Fact.runs(P:aQ)(a:Nat→Option HF)(d:Nat)(x:Fact):Bool:=na P a d U x.f x.args x.start x.ended
def Facts.run(P:aQ)(a:Nat→Option HF)(d:Nat)(l:List Fact):Bool:=bK O (fun x _ b=>(aA U b (x.runs P a d))) l
def Fact.fits(x:Fact)(args:List Y)(s:S):Bool:=(aA U (aA U (lies x.pre s.h) (QS x.args args)) (ak s.n x.n))
def Fact.out(x:Fact)(s:S):S:=S.mk (lay x.post s.h) x.z (A4 (pM x.pre) s.r) (A4 (pM x.post) s.w)
def leap(x:Fact):EU:=⟨fun _ args s κ=>(aA U (κ x.v (x.out s)) (x.fits args s))⟩
def wT(l:List Fact)(n:Nat):Option EU:=bK J (fun x _ a=>(aA a (I (leap x)) (ak n x.n))) l
def hooks(T:List (Nat×List Fact))(f:Nat):Option HF:=bK J (fun p _ a=>(aA a (I ⟨wT p.2⟩) (ak f p.1))) T
end
end Go.Ev
namespace Go.Ev.L
def i(n:Nat):Y:=.int .i64 (.ofNat n)
def j(n:Nat):Y:=.int .i64 (.negSucc n)
def u(n:Nat):Y:=.int .u8 (.ofNat n)
def w(n:Nat):Y:=.int .u32 (.ofNat n)
def t(l:List Nat):Y:=.str (l.map ew)
def T:Y:=.bool O
def F:Y:=.bool U
def N:Y:=.iC
def p(b o:Nat):Y:=.ptr b o
def o(b o n c:Nat):Y:=.slc b o n O c
def c(b o n c:Nat):Y:=.slc b o n U c
def g(l:List Y):Y:=.agg l
def r(l:List Y)(o:Nat):AO:=.row l o
end Go.Ev.L
set_option maxRecDepth 100000
open Go Go.Ev Go.Ev.L
namespace Go.Proofs
noncomputable section
def k3(l:List Y):List Y:=i 0::i 0::i 0::l
def k5(l:List Y):List Y:=k3 (k3 (i 0::i 0::N::N::N::k3 (k3 (i 0::i 0::N::N::N::k3 (k3 (i 0::i 0::N::N::N::k3 (k3 (i 0::i 0::N::N::N::k3 (k3 (i 0::i 0::l))))))))))
def k0(l:List Y):List Y:=k3 (i 0::N::N::N::k5 (N::N::N::N::i 0::l))
def k1(l:List Y):List Y:=N::N::N::N::N::N::N::N::N::N::N::N::N::N::N::N::N::N::N::N::l
def k2(l:List Y):List Y:=i 1::t [14,0,0,0,0,0,0]::i 1::t [14,0,0,0,0,0,0]::l
def Dy(l:List Y):List Y:=i 1::t []::i 1::t [14,0,0,0,0,0,0]::l
def k4(l:List Y):List Y:=Dy (i 1::t [2,0,0,2,0,0,0]::l)
def k6(l:List Y):List Y:=o 24 0 2 0::o 26 0 1 0::k1 (N::k3 (i 0::k0 (i 0::l)))
def k7(l:List Y):List Y:=k1 (N::i 1::i 1::i 0::i 1::l)
def k8(l:List Y):List Y:=i 1::F::F::F::k3 (k3 (l))
def k9(l:List Y):List Y:=i 1::k3 (t []::l)
def k10(l:List Y):List Y:=t [97]::i 0::i 0::i 20::i 10::i 10::i 10::t [98]::i 1::j 29::i 30::i 0::l
def k11(l:List Y):List Y:=k2 (k2 (k2 (k2 (i 1::t [4,0,2,4,129,72,2,2,97,6,4,8,0]::l))))
def k12(l:List Y):List Y:=i 0::i 0::T::N::t []::i 4::i 2::i 0::l
def k13(l:List Y):List Y:=i 0::i 0::T::N::t []::i 3::i 0::i 1::l
def k14(l:List Y):List Y:=k1 (i 1::i 2::k3 (i 1::i 100::l))
def k15(l:List Y):List Y:=k2 (i 1::t [14,0,0,0,0,0,0]::l)
def k16(l:List Y):List Y:=N::N::N::N::N::N::N::N::N::N::N::N::N::N::N::N::N::N::i 0::i 3::l
def k17(l:List Y):List Y:=t []::i 3::i 0::i 2::l
def k18(l:List Y):List Y:=i 13::i 13::T::o 13815 0 2 0::o 13817 0 1 0::o 13819 0 1 0::k14 (j 0::o 13833 0 1 0::o 13835 0 1 0::N::k5 (N::N::N::N::i 0::i 13::i 1::k9 (l)))
def k19(l:List Y):List Y:=i 0::i 12::k8 (T::o 13060 0 2 0::o 13062 0 1 0::o 13064 0 1 0::k14 (j 0::o 13078 0 1 0::o 13080 0 1 0::N::k5 (N::N::N::N::i 0::i 12::i 2::l)))
def k20(l:List Y):List Y:=i 0::i 13::k8 (T::o 14437 0 2 0::o 14439 0 1 0::o 14441 0 1 0::k14 (j 0::o 14455 0 1 0::o 14457 0 1 0::N::k5 (N::N::N::N::i 0::i 13::i 2::l)))
def k21(l:List Y):List Y:=i 4::i 1::i 0::i 1::l
def k22(l:List Y):List Y:=i 0::i 12::k8 (T::o 13299 0 2 0::o 13301 0 1 0::o 13303 0 1 0::k14 (j 0::o 13317 0 1 0::o 13319 0 1 0::N::k5 (N::N::N::l)))
def k23(l:List Y):List Y:=i 0::i 13::k8 (T::o 14595 0 2 0::o 14597 0 1 0::o 14599 0 1 0::k14 (j 0::o 14613 0 1 0::o 14615 0 1 0::N::k5 (N::N::N::l)))
def k24(l:List Y):List Y:=i 12::i 12::T::o 12470 0 2 0::o 12472 0 1 0::o 12474 0 1 0::k14 (j 0::o 12488 0 1 0::o 12490 0 1 0::N::k5 (N::N::N::N::i 0::i 12::i 1::k9 (l)))
def k25(l:List Y):List Y:=i 1::T::T::F::l
def ri(l:List Y):List Y:=u 0::u 0::u 0::l
def k26(l:List Y):List Y:=ri (u 9::u 245::u 105::u 229::u 138::u 2::u 0::u 2::u 0::u 0::u 2::u 0::u 0::l)
def k27(l:List Y):List Y:=ri (u 7::u 174::u 64::u 200::u 36::u 6::u 0::u 6::u 0::l)
def k28(l:List Y):List Y:=ri (u 8::u 176::u 152::u 201::u 61::u 2::u 2::ri (ri (ri (u 22::u 107::u 229::u 161::u 214::u 8::ri (u 13::u 213::u 132::u 146::u 168::u 4::u 0::u 2::u 0::u 0::u 2::u 0::l)))))
def iZ(l:List Y):List Y:=k4 (k2 (k2 (l)))
def Md(l:List Y):List Y:=t [97]::i 0::i 0::i 20::i 10::i 7::i 8::t [98]::i 1::j 29::i 30::i 0::l
def mj(l:List Y):List Y:=k10 (i 30::i 30::l)
def zZ(l:List Y):List Y:=k4 (k11 (i 1::t [14,0,0,0,0,0,0]::l))
def S5(l:List Y):List Y:=i 10::k8 (T::o 10913 0 2 0::o 10915 0 1 0::k7 (k0 (i 10::l)))
def S6(l:List Y):List Y:=i 10::k8 (T::o 11032 0 2 0::o 11034 0 1 0::k7 (k0 (i 10::l)))
def ZI(l:List Y):List Y:=c 11592 0 11 11::i 2::i 11::k25 (i 1::i 12::i 12::i 11::i 11::i 11::T::o 11499 0 2 0::o 11501 0 1 0::k7 (k0 (i 11::i 1::k9 (c 11601 0 11 11::i 0::S5 (i 2::k9 (c 11609 0 11 11::i 0::S6 (l)))))))
def ZJ(l:List Y):List Y:=k6 (k9 (c 2058 0 2 2::i 2::i 2::k25 (i 1::i 3::i 3::i 2::i 2::i 2::T::o 1970 0 2 0::o 1972 0 1 0::k1 (N::k3 (i 0::k0 (i 2::i 1::k9 (c 2067 0 2 2::i 0::i 1::k8 (T::o 24 0 2 0::o 26 0 1 0::k1 (N::k3 (i 0::k0 (i 1::i 2::k9 (c 2075 0 2 2::i 0::i 1::k8 (T::o 24 0 2 0::o 26 0 1 0::k1 (N::k3 (l)))))))))))))))
def z6(l:List Y):List Y:=k4 (i 1::t [14,0,0,0,0,0,0]::l)
def QT(l:List Y):List Y:=i 2::i 10::k25 (i 1::i 11::i 11::l)
def S7(l:List Y):List Y:=i 10::T::o 10255 0 2 0::o 10257 0 1 0::k7 (k0 (i 10::i 1::l))
def S8(l:List Y):List Y:=i 0::i 9::k8 (T::o 9674 0 2 0::o 9676 0 1 0::k7 (k0 (l)))
def S_(l:List Y):List Y:=i 0::i 9::k8 (T::o 9793 0 2 0::o 9795 0 1 0::l)
def ZK(l:List Y):List Y:=k6 (k9 (c 10347 0 10 10::QT (i 10::i 10::S7 (k9 (c 10356 0 10 10::S8 (i 9::i 2::k9 (c 10364 0 10 10::S_ (k7 (l)))))))))
def tR(l:List Y):List Y:=t [97]::i 3::i 2::i 0::l
def QU(l:List Y):List Y:=i 2::i 9::k25 (i 1::i 10::i 10::l)
def Ta(l:List Y):List Y:=i 9::T::o 9150 0 2 0::o 9152 0 1 0::k7 (k0 (i 9::i 1::l))
def Tb(l:List Y):List Y:=i 0::i 8::k8 (T::o 8574 0 2 0::o 8576 0 1 0::k7 (k0 (l)))
def Tc(l:List Y):List Y:=i 0::i 8::k8 (T::o 8693 0 2 0::o 8695 0 1 0::l)
def ZL(l:List Y):List Y:=k6 (k9 (c 9241 0 9 9::QU (i 9::i 9::Ta (k9 (c 9250 0 9 9::Tb (i 8::i 2::k9 (c 9258 0 9 9::Tc (k7 (l)))))))))
def QV(l:List Y):List Y:=i 2::i 4::k25 (i 1::i 5::i 5::l)
def Td(l:List Y):List Y:=i 4::T::o 3745 0 2 0::o 3747 0 1 0::k7 (k0 (i 4::i 1::l))
def Te(l:List Y):List Y:=i 0::i 3::k8 (T::o 3170 0 2 0::o 3172 0 1 0::k7 (k0 (l)))
def Tf(l:List Y):List Y:=i 0::i 3::k8 (T::o 3313 0 2 0::o 3315 0 1 0::l)
def ZM(l:List Y):List Y:=k6 (k9 (c 3831 0 4 4::QV (i 4::i 4::Td (k9 (c 3840 0 4 4::Te (i 3::i 2::k9 (c 3848 0 4 4::Tf (k7 (l)))))))))
def QW(l:List Y):List Y:=i 2::i 5::k25 (i 1::i 6::i 6::l)
def Tg(l:List Y):List Y:=i 5::T::o 4810 0 2 0::o 4812 0 1 0::k7 (k0 (i 5::i 1::l))
def Th(l:List Y):List Y:=i 0::i 4::k8 (T::o 4254 0 2 0::o 4256 0 1 0::k7 (k0 (l)))
def Ti(l:List Y):List Y:=i 0::i 4::k8 (T::o 4373 0 2 0::o 4375 0 1 0::l)
def ZN(l:List Y):List Y:=k6 (k9 (c 4897 0 5 5::QW (i 5::i 5::Tg (k9 (c 4906 0 5 5::Th (i 4::i 2::k9 (c 4914 0 5 5::Ti (k7 (l)))))))))
def QX(l:List Y):List Y:=i 2::i 6::k25 (i 1::i 7::i 7::l)
def Tj(l:List Y):List Y:=i 6::T::o 5883 0 2 0::o 5885 0 1 0::k7 (k0 (i 6::i 1::l))
def Tl(l:List Y):List Y:=i 0::i 5::k8 (T::o 5322 0 2 0::o 5324 0 1 0::k7 (k0 (l)))
def Tm(l:List Y):List Y:=i 0::i 5::k8 (T::o 5441 0 2 0::o 5443 0 1 0::l)
def ZO(l:List Y):List Y:=k6 (k9 (c 5971 0 6 6::QX (i 6::i 6::Tj (k9 (c 5980 0 6 6::Tl (i 5::i 2::k9 (c 5988 0 6 6::Tm (k7 (l)))))))))
def JJ(l:List Y):List Y:=i 2::i 7::k25 (i 1::i 8::i 8::l)
def Tn(l:List Y):List Y:=i 7::T::o 6964 0 2 0::o 6966 0 1 0::k7 (k0 (i 7::i 1::l))
def To(l:List Y):List Y:=i 0::i 6::k8 (T::o 6398 0 2 0::o 6400 0 1 0::k7 (k0 (l)))
def Tp(l:List Y):List Y:=i 0::i 6::k8 (T::o 6517 0 2 0::o 6519 0 1 0::l)
def ZP(l:List Y):List Y:=k6 (k9 (c 7053 0 7 7::JJ (i 7::i 7::Tn (k9 (c 7062 0 7 7::To (i 6::i 2::k9 (c 7070 0 7 7::Tp (k7 (l)))))))))
def JK(l:List Y):List Y:=i 2::i 8::k25 (i 1::i 9::i 9::l)
def Tq(l:List Y):List Y:=i 8::T::o 8053 0 2 0::o 8055 0 1 0::k7 (k0 (i 8::i 1::l))
def Ts(l:List Y):List Y:=i 0::i 7::k8 (T::o 7482 0 2 0::o 7484 0 1 0::k7 (k0 (l)))
def Tt(l:List Y):List Y:=i 0::i 7::k8 (T::o 7601 0 2 0::o 7603 0 1 0::l)
def ZQ(l:List Y):List Y:=k6 (k9 (c 8143 0 8 8::JK (i 8::i 8::Tq (k9 (c 8152 0 8 8::Ts (i 7::i 2::k9 (c 8160 0 8 8::Tt (k7 (l)))))))))
def wU(l:List Y):List Y:=F::F::k3 (k3 (T::k6 (l)))
def k46(l:List Y):List Y:=p 47 0::i 0::i 1::k3 (i 0::N::N::N::l)
def ZR(l:List Y):List Y:=S7 (k9 (c 11075 0 10 10::i 0::S5 (i 2::k9 (c 11083 0 10 10::i 0::S6 (o 11068 0 4 0::l)))))
def ZS(l:List Y):List Y:=c 15225 0 14 14::i 2::i 14::k25 (i 1::i 15::i 15::i 14::i 14::i 14::T::o 15116 0 2 0::o 15118 0 1 0::o 15120 0 1 0::k14 (j 0::o 15134 0 1 0::o 15136 0 1 0::N::k5 (N::N::N::N::i 0::i 14::i 1::k9 (c 15234 0 14 14::k20 (k9 (c 15242 0 14 14::l))))))
def Tu(l:List Y):List Y:=i 3::T::o 2758 0 2 0::o 2760 0 1 0::k7 (k0 (i 3::i 1::l))
def ZT(l:List Y):List Y:=Tu (k9 (c 3356 0 3 3::Te (i 3::i 2::k9 (c 3364 0 3 3::Tf (k7 (k0 (i 3::o 3349 0 4 0::l)))))))
def ZU(l:List Y):List Y:=Td (k9 (c 4416 0 4 4::Th (i 4::i 2::k9 (c 4424 0 4 4::Ti (k7 (k0 (i 4::o 4409 0 4 0::l)))))))
def ZV(l:List Y):List Y:=Tg (k9 (c 5484 0 5 5::Tl (i 5::i 2::k9 (c 5492 0 5 5::Tm (k7 (k0 (i 5::o 5477 0 4 0::l)))))))
def ZW(l:List Y):List Y:=Tj (k9 (c 6560 0 6 6::To (i 6::i 2::k9 (c 6568 0 6 6::Tp (k7 (k0 (i 6::o 6553 0 4 0::l)))))))
def ZX(l:List Y):List Y:=Tn (k9 (c 7644 0 7 7::Ts (i 7::i 2::k9 (c 7652 0 7 7::Tt (k7 (k0 (i 7::o 7637 0 4 0::l)))))))
def ZY(l:List Y):List Y:=Tq (k9 (c 8736 0 8 8::Tb (i 8::i 2::k9 (c 8744 0 8 8::Tc (k7 (k0 (i 8::o 8729 0 4 0::l)))))))
def ZZ(l:List Y):List Y:=Ta (k9 (c 9836 0 9 9::S8 (i 9::i 2::k9 (c 9844 0 9 9::S_ (k7 (k0 (i 9::o 9829 0 4 0::l)))))))
def yL(l:List Y):List Y:=j 0::i 0::i 0::t []::l
def Dz(l:List Y):List Y:=k3 (k3 (N::N::F::i 0::l))
def QY(l:List Y):List Y:=i 2::i 13::k25 (i 1::i 14::i 14::l)
def Z1(l:List Y):List Y:=k6 (k9 (c 13923 0 13 13::QY (i 13::k18 (c 13932 0 13 13::k19 (k9 (c 13940 0 13 13::k22 (N::i 0::i 12::o 13925 0 4 0::l)))))))
def EV(l:List Y):List Y:=i 0::i 1::i 100::j 0::l
def z7(l:List Y):List Y:=k4 (k2 (k15 (l)))
def Ia(l:List Y):List Y:=k27 (u 2::u 2::u 2::l)
def Ib(l:List Y):List Y:=k46 (k3 (N::k16 (l)))
def JL(l:List Y):List Y:=i 1::i 10::i 1::i 10::l
def JM(l:List Y):List Y:=i 1::i 12::i 1::i 12::l
def JN(l:List Y):List Y:=i 1::i 13::i 1::i 13::l
def QZ(l:List Y):List Y:=i 2::i 12::k25 (i 1::i 13::i 13::l)
def Z2(l:List Y):List Y:=k28 (ri (ri (ri (u 14::u 239::u 132::u 137::u 127::u 2::u 4::ri (u 129::u 72::u 2::u 2::u 97::u 6::u 4::u 8::l)))))
def Q1(l:List Y):List Y:=i 2::i 3::k25 (i 1::i 4::i 4::l)
def A5(l:List Y):List Y:=i 1::i 3::i 1::i 3::l
def A6(l:List Y):List Y:=i 1::i 4::i 1::i 4::l
def A7(l:List Y):List Y:=i 1::i 5::i 1::i 5::l
def A8(l:List Y):List Y:=i 1::i 6::i 1::i 6::l
def A9(l:List Y):List Y:=i 1::i 7::i 1::i 7::l
def A_(l:List Y):List Y:=i 1::i 8::i 1::i 8::l
def Ba(l:List Y):List Y:=i 1::i 9::i 1::i 9::l
def yM(l:List Y):List Y:=i 0::i 0::k8 (T::l)
end
end Go.Proofs
set_option maxRecDepth 100000
open Go Go.Ev Go.Ev.L
namespace Go.Proofs
noncomputable section
def b0:Nat×AO:=(48,r (p 47 0::k3 (k3 (N::N::N::k3 (N::k16 ([o 78 0 3 0,i 1,i 0,i 1,i 0,i 0,i 1,i 0,N,N,F,i 0]))))) 0)
def b1:Nat×AO:=(49,r [p 34 0,p 48 0,i 0] 0)
def b2:Nat×AO:=(51,r [p 49 0] 2)
def b3:Nat×AO:=(33,r [p 29 0,o 51 0 1 0,N,i 0] 0)
def b4:Nat×AO:=(29,r (k6 (k9 (c 1710 0 2 2::i 2::i 0::k25 (i 1::i 1::i 1::i 2::i 0::i 0::T::k6 (i 1::k9 (c 1719 0 1 1::yM (k6 (i 2::k9 (c 1727 0 1 1::yM (k6 ([o 1712 0 6 0,.map 1614,i 0]))))))))))) 0)
def b5:Nat×AO:=(1701,r (Dy ([])) 0)
def b6:Nat×AO:=(1705,r (Dy ([])) 0)
def b7:Nat×AO:=(1710,r (Dy ([])) 0)
def b8:Nat×AO:=(1712,r (k21 (i 1::k12 (i 1::i 1::i 0::i 0::T::N::t []::k21 (i 1::k12 (i 1::i 1::k13 (i 1::k3 (F::c 1701 0 2 2::k17 (i 1::k3 ([F,c 1705 0 2 2,t []]))))))))) 11)
def b9:Nat×AO:=(1719,r [i 1,t []] 0)
def b10:Nat×AO:=(1727,r [i 1,t []] 0)
def b11:Nat×AO:=(29,r (k6 (k9 (c 1850 0 2 2::i 2::i 1::k25 (i 1::i 2::i 2::i 2::i 1::i 1::T::o 24 0 2 0::o 26 0 1 0::k1 (N::k3 (i 0::k0 (i 1::i 1::k9 (c 1859 0 2 2::yM (k6 (i 2::k9 (c 1867 0 2 2::yM (k6 ([o 1852 0 4 0,.map 1614,i 0]))))))))))))) 0)
def b12:Nat×AO:=(1614,.map [(i 1,g [i 1,i 0,i 0,i 0,i 0,i 0,i 0,N,N,N],0)] 1)
def b13:Nat×AO:=(1841,r [i 1,t [14,0,0,0,0,0,0]] 0)
def b14:Nat×AO:=(1845,r [i 1,t [14,0,0,0,0,0,0]] 0)
def b15:Nat×AO:=(1850,r (Dy ([])) 0)
def b16:Nat×AO:=(1852,r (k21 (i 2::k12 (i 1::i 2::k13 (i 1::i 1::i 1::i 1::F::c 1841 0 1 1::k17 ([i 1,i 1,i 1,i 1,F,c 1845 0 1 1,t []]))))) 11)
def b17:Nat×AO:=(1859,r (Dy ([])) 0)
def b18:Nat×AO:=(1867,r (Dy ([])) 0)
def b19:Nat×AO:=(24,r (mj ([])) 8)
def b20:Nat×AO:=(26,r [i 0,i 40] 3)
def Z3:Nat×AO:=(1970,r (mj ([])) 8)
def Z4:Nat×AO:=(1972,r [i 0,i 40] 3)
def Z5:Nat×AO:=(2058,r (Dy ([])) 0)
def Z6:Nat×AO:=(2060,r (k21 (i 2::k12 (i 1::i 2::k13 (i 1::i 2::i 1::i 2::F::c 2049 0 0 0::k17 ([i 1,i 2,i 1,i 2,F,c 2053 0 0 0,t []]))))) 11)
def Z7:Nat×AO:=(2067,r (Dy ([])) 0)
def Z8:Nat×AO:=(2075,r (Dy ([])) 0)
def Z9:Nat×AO:=(29,r (k6 (k9 (c 2843 0 3 3::Q1 (i 3::i 3::Tu (k9 (c 2852 0 3 3::i 0::i 2::k8 (T::o 2352 0 2 0::o 2354 0 1 0::k1 (N::k3 (i 0::k0 (i 2::i 2::k9 (c 2860 0 3 3::i 0::i 2::k8 (T::o 2471 0 2 0::o 2473 0 1 0::k1 (N::k3 (i 0::k0 ([i 2,o 2845 0 4 0,.fG,i 0]))))))))))))))) 0)
def Z_:Nat×AO:=(34,r [i 0,i 0,i 4,F,c 3011 0 46 46,i 46,N,i 1048576] 0)
def b29:Nat×AO:=(47,r [p 34 0,i 2] 0)
def b30:Nat×AO:=(48,r (Ib (o 2981 0 3 0::i 1::Dz ([]))) 0)
def b31:Nat×AO:=(2352,r (mj ([])) 8)
def b32:Nat×AO:=(2354,r [i 0,i 40] 3)
def b33:Nat×AO:=(2471,r (mj ([])) 8)
def b34:Nat×AO:=(2473,r [i 0,i 40] 3)
def b35:Nat×AO:=(2758,r (mj ([])) 8)
def b36:Nat×AO:=(2760,r [i 0,i 40] 3)
def b37:Nat×AO:=(2843,r (k4 ([])) 0)
def b38:Nat×AO:=(2845,r (k21 (i 3::k12 (i 1::i 3::k13 (A5 (F::c 2834 0 0 0::k17 (A5 ([F,c 2838 0 0 0,t []]))))))) 11)
def b39:Nat×AO:=(2852,r (k4 ([])) 0)
def b40:Nat×AO:=(2860,r (k4 ([])) 0)
def b41:Nat×AO:=(2981,r [T,T,T] 2)
def b42:Nat×AO:=(3011,r (k28 (ri (ri ([])))) 0)
def b43:Nat×AO:=(3170,r (mj ([])) 8)
def b44:Nat×AO:=(3172,r [i 0,i 40] 3)
def b45:Nat×AO:=(3313,r (mj ([])) 8)
def b46:Nat×AO:=(3315,r [i 0,i 40] 3)
def b47:Nat×AO:=(3349,r (k21 (i 3::k12 (i 1::i 3::k13 (A5 (F::c 3338 0 0 0::k17 (A5 ([F,c 3342 0 0 0,t []]))))))) 11)
def b48:Nat×AO:=(3356,r (k4 ([])) 0)
def b49:Nat×AO:=(3364,r (k4 ([])) 0)
def b50:Nat×AO:=(29,r (k6 (k9 (c 3513 0 4 4::Q1 (i 4::i 3::Tu (k9 (c 3522 0 3 3::Te (i 3::i 2::k9 (c 3530 0 3 3::Tf (k7 (k0 ([i 3,o 3515 0 4 0,.map 3427,i 0]))))))))))) 0)
def b51:Nat×AO:=(3504,r [i 1,t [14,0,0,0,0,0,0]] 0)
def b52:Nat×AO:=(3508,r [i 1,t [14,0,0,0,0,0,0]] 0)
def b53:Nat×AO:=(3513,r (z6 ([])) 0)
def b54:Nat×AO:=(3515,r (k21 (i 3::k12 (i 1::i 3::k13 (A5 (F::c 3504 0 1 1::k17 (A5 ([F,c 3508 0 1 1,t []]))))))) 11)
def b55:Nat×AO:=(3522,r (k4 ([])) 0)
def b56:Nat×AO:=(3530,r (k4 ([])) 0)
def b57:Nat×AO:=(29,r (k6 (k9 (c 3623 0 4 4::Q1 (i 4::i 3::Tu (k9 (c 3632 0 4 4::Te (i 3::i 2::k9 (c 3640 0 4 4::Tf (k7 (k0 ([i 3,o 3625 0 4 0,.map 3427,i 0]))))))))))) 0)
def b58:Nat×AO:=(3614,r [i 1,t [14,0,0,0,0,0,0]] 0)
def b59:Nat×AO:=(3618,r [i 1,t [14,0,0,0,0,0,0]] 0)
def b60:Nat×AO:=(3623,r (z6 ([])) 0)
def b61:Nat×AO:=(3625,r (k21 (i 4::k12 (i 1::i 4::k13 (A5 (F::c 3614 0 1 1::k17 (A5 ([F,c 3618 0 1 1,t []]))))))) 11)
def b62:Nat×AO:=(3632,r (z6 ([])) 0)
def b63:Nat×AO:=(3640,r (z6 ([])) 0)
def Ze:Nat×AO:=(3745,r (mj ([])) 8)
def Zf:Nat×AO:=(3747,r [i 0,i 40] 3)
def Zg:Nat×AO:=(3831,r (z6 ([])) 0)
def b67:Nat×AO:=(3833,r (k21 (i 4::k12 (i 1::i 4::k13 (A6 (F::c 3822 0 0 0::k17 (A6 ([F,c 3826 0 0 0,t []]))))))) 11)
def b68:Nat×AO:=(3840,r (z6 ([])) 0)
def b69:Nat×AO:=(3848,r (z6 ([])) 0)
def b70:Nat×AO:=(29,r (ZM (k0 ([i 3,o 3833 0 4 0,.fG,i 0]))) 0)
def b71:Nat×AO:=(48,r (Ib (o 4088 0 3 0::i 1::Dz ([]))) 0)
def b72:Nat×AO:=(4088,r [T,T,T] 2)
def b73:Nat×AO:=(4254,r (mj ([])) 8)
def b74:Nat×AO:=(4256,r [i 0,i 40] 3)
def b75:Nat×AO:=(4373,r (mj ([])) 8)
def b76:Nat×AO:=(4375,r [i 0,i 40] 3)
def b77:Nat×AO:=(4409,r (k21 (i 4::k12 (i 1::i 4::k13 (A6 (F::c 4398 0 0 0::k17 (A6 ([F,c 4402 0 0 0,t []]))))))) 11)
def b78:Nat×AO:=(4416,r (z6 ([])) 0)
def b79:Nat×AO:=(4424,r (z6 ([])) 0)
def b80:Nat×AO:=(29,r (k6 (k9 (c 4575 0 5 5::QV (i 5::i 4::Td (k9 (c 4584 0 4 4::Th (i 4::i 2::k9 (c 4592 0 4 4::Ti (k7 (k0 ([i 4,o 4577 0 4 0,.map 4487,i 0]))))))))))) 0)
def b81:Nat×AO:=(4566,r [i 1,t [14,0,0,0,0,0,0]] 0)
def b82:Nat×AO:=(4570,r [i 1,t [14,0,0,0,0,0,0]] 0)
def b83:Nat×AO:=(4575,r (k4 (k2 ([]))) 0)
def b84:Nat×AO:=(4577,r (k21 (i 4::k12 (i 1::i 4::k13 (A6 (F::c 4566 0 1 1::k17 (A6 ([F,c 4570 0 1 1,t []]))))))) 11)
def b85:Nat×AO:=(4584,r (z6 ([])) 0)
def b86:Nat×AO:=(4592,r (z6 ([])) 0)
def b87:Nat×AO:=(29,r (k6 (k9 (c 4687 0 5 5::QV (i 5::i 4::Td (k9 (c 4696 0 5 5::Th (i 4::i 2::k9 (c 4704 0 5 5::Ti (k7 (k0 ([i 4,o 4689 0 4 0,.map 4487,i 0]))))))))))) 0)
def b88:Nat×AO:=(4678,r [i 1,t [14,0,0,0,0,0,0]] 0)
def b89:Nat×AO:=(4682,r [i 1,t [14,0,0,0,0,0,0]] 0)
def b90:Nat×AO:=(4687,r (k4 (k2 ([]))) 0)
def b91:Nat×AO:=(4689,r (k21 (i 5::k12 (i 1::i 5::k13 (A6 (F::c 4678 0 1 1::k17 (A6 ([F,c 4682 0 1 1,t []]))))))) 11)
def b92:Nat×AO:=(4696,r (k4 (k2 ([]))) 0)
def b93:Nat×AO:=(4704,r (k4 (k2 ([]))) 0)
def Zh:Nat×AO:=(4810,r (mj ([])) 8)
def Zi:Nat×AO:=(4812,r [i 0,i 40] 3)
def Zj:Nat×AO:=(4897,r (k4 (k2 ([]))) 0)
def b97:Nat×AO:=(4899,r (k21 (i 5::k12 (i 1::i 5::k13 (A7 (F::c 4888 0 0 0::k17 (A7 ([F,c 4892 0 0 0,t []]))))))) 11)
def b98:Nat×AO:=(4906,r (k4 (k2 ([]))) 0)
def b99:Nat×AO:=(4914,r (k4 (k2 ([]))) 0)
def Ud:Nat×AO:=(29,r (ZN (k0 ([i 4,o 4899 0 4 0,.fG,i 0]))) 0)
def Ue:Nat×AO:=(48,r (Ib (o 5154 0 3 0::i 1::Dz ([]))) 0)
def Uf:Nat×AO:=(5154,r [T,T,T] 2)
def Ug:Nat×AO:=(5322,r (mj ([])) 8)
def Uh:Nat×AO:=(5324,r [i 0,i 40] 3)
def Ui:Nat×AO:=(5441,r (mj ([])) 8)
def Uj:Nat×AO:=(5443,r [i 0,i 40] 3)
def Uk:Nat×AO:=(5477,r (k21 (i 5::k12 (i 1::i 5::k13 (A7 (F::c 5466 0 0 0::k17 (A7 ([F,c 5470 0 0 0,t []]))))))) 11)
def Ul:Nat×AO:=(5484,r (k4 (k2 ([]))) 0)
def Um:Nat×AO:=(5492,r (k4 (k2 ([]))) 0)
def Un:Nat×AO:=(29,r (k6 (k9 (c 5645 0 6 6::QW (i 6::i 5::Tg (k9 (c 5654 0 5 5::Tl (i 5::i 2::k9 (c 5662 0 5 5::Tm (k7 (k0 ([i 5,o 5647 0 4 0,.map 5555,i 0]))))))))))) 0)
def Uo:Nat×AO:=(5636,r [i 1,t [14,0,0,0,0,0,0]] 0)
def Up:Nat×AO:=(5640,r [i 1,t [14,0,0,0,0,0,0]] 0)
def Uq:Nat×AO:=(5645,r (k4 (k15 ([]))) 0)
def Ur:Nat×AO:=(5647,r (k21 (i 5::k12 (i 1::i 5::k13 (A7 (F::c 5636 0 1 1::k17 (A7 ([F,c 5640 0 1 1,t []]))))))) 11)
def Us:Nat×AO:=(5654,r (k4 (k2 ([]))) 0)
def Ut:Nat×AO:=(5662,r (k4 (k2 ([]))) 0)
def Uu:Nat×AO:=(29,r (k6 (k9 (c 5759 0 6 6::QW (i 6::i 5::Tg (k9 (c 5768 0 6 6::Tl (i 5::i 2::k9 (c 5776 0 6 6::Tm (k7 (k0 ([i 5,o 5761 0 4 0,.map 5555,i 0]))))))))))) 0)
def Uv:Nat×AO:=(5750,r [i 1,t [14,0,0,0,0,0,0]] 0)
def Uw:Nat×AO:=(5754,r [i 1,t [14,0,0,0,0,0,0]] 0)
def Ux:Nat×AO:=(5759,r (k4 (k15 ([]))) 0)
def Uy:Nat×AO:=(5761,r (k21 (i 6::k12 (i 1::i 6::k13 (A7 (F::c 5750 0 1 1::k17 (A7 ([F,c 5754 0 1 1,t []]))))))) 11)
def Uz:Nat×AO:=(5768,r (k4 (k15 ([]))) 0)
def UA:Nat×AO:=(5776,r (k4 (k15 ([]))) 0)
def Q2:Nat×AO:=(5883,r (mj ([])) 8)
def Q3:Nat×AO:=(5885,r [i 0,i 40] 3)
def Q4:Nat×AO:=(5971,r (k4 (k15 ([]))) 0)
def UB:Nat×AO:=(5973,r (k21 (i 6::k12 (i 1::i 6::k13 (A8 (F::c 5962 0 0 0::k17 (A8 ([F,c 5966 0 0 0,t []]))))))) 11)
def UC:Nat×AO:=(5980,r (k4 (k15 ([]))) 0)
def UD:Nat×AO:=(5988,r (k4 (k15 ([]))) 0)
def UE:Nat×AO:=(29,r (ZO (k0 ([i 5,o 5973 0 4 0,.fG,i 0]))) 0)
def UF:Nat×AO:=(48,r (Ib (o 6228 0 3 0::i 1::Dz ([]))) 0)
def UG:Nat×AO:=(6228,r [T,T,T] 2)
def UH:Nat×AO:=(6398,r (mj ([])) 8)
def UI:Nat×AO:=(6400,r [i 0,i 40] 3)
def UL:Nat×AO:=(6517,r (mj ([])) 8)
def UM:Nat×AO:=(6519,r [i 0,i 40] 3)
def UN:Nat×AO:=(6553,r (k21 (i 6::k12 (i 1::i 6::k13 (A8 (F::c 6542 0 0 0::k17 (A8 ([F,c 6546 0 0 0,t []]))))))) 11)
def UO:Nat×AO:=(6560,r (k4 (k15 ([]))) 0)
def UP:Nat×AO:=(6568,r (k4 (k15 ([]))) 0)
def UQ:Nat×AO:=(29,r (k6 (k9 (c 6723 0 7 7::QX (i 7::i 6::Tj (k9 (c 6732 0 6 6::To (i 6::i 2::k9 (c 6740 0 6 6::Tp (k7 (k0 ([i 6,o 6725 0 4 0,.map 6631,i 0]))))))))))) 0)
def UR:Nat×AO:=(6714,r [i 1,t [14,0,0,0,0,0,0]] 0)
def US:Nat×AO:=(6718,r [i 1,t [14,0,0,0,0,0,0]] 0)
def UT:Nat×AO:=(6723,r (iZ ([])) 0)
def UU:Nat×AO:=(6725,r (k21 (i 6::k12 (i 1::i 6::k13 (A8 (F::c 6714 0 1 1::k17 (A8 ([F,c 6718 0 1 1,t []]))))))) 11)
def UV:Nat×AO:=(6732,r (k4 (k15 ([]))) 0)
def UW:Nat×AO:=(6740,r (k4 (k15 ([]))) 0)
def UX:Nat×AO:=(29,r (k6 (k9 (c 6839 0 7 7::QX (i 7::i 6::Tj (k9 (c 6848 0 7 7::To (i 6::i 2::k9 (c 6856 0 7 7::Tp (k7 (k0 ([i 6,o 6841 0 4 0,.map 6631,i 0]))))))))))) 0)
def UY:Nat×AO:=(6830,r [i 1,t [14,0,0,0,0,0,0]] 0)
def UZ:Nat×AO:=(6834,r [i 1,t [14,0,0,0,0,0,0]] 0)
def U1:Nat×AO:=(6839,r (iZ ([])) 0)
def U2:Nat×AO:=(6841,r (k21 (i 7::k12 (i 1::i 7::k13 (A8 (F::c 6830 0 1 1::k17 (A8 ([F,c 6834 0 1 1,t []]))))))) 11)
def U3:Nat×AO:=(6848,r (iZ ([])) 0)
def U4:Nat×AO:=(6856,r (iZ ([])) 0)
def Q5:Nat×AO:=(6964,r (mj ([])) 8)
def Q6:Nat×AO:=(6966,r [i 0,i 40] 3)
def Q7:Nat×AO:=(7053,r (iZ ([])) 0)
def U5:Nat×AO:=(7055,r (k21 (i 7::k12 (i 1::i 7::k13 (A9 (F::c 7044 0 0 0::k17 (A9 ([F,c 7048 0 0 0,t []]))))))) 11)
def U6:Nat×AO:=(7062,r (iZ ([])) 0)
def U7:Nat×AO:=(7070,r (iZ ([])) 0)
def U8:Nat×AO:=(29,r (ZP (k0 ([i 6,o 7055 0 4 0,.fG,i 0]))) 0)
def U9:Nat×AO:=(48,r (Ib (o 7310 0 3 0::i 1::Dz ([]))) 0)
def U_:Nat×AO:=(7310,r [T,T,T] 2)
def Va:Nat×AO:=(7482,r (mj ([])) 8)
def Vb:Nat×AO:=(7484,r [i 0,i 40] 3)
def Vc:Nat×AO:=(7601,r (mj ([])) 8)
def Vd:Nat×AO:=(7603,r [i 0,i 40] 3)
def Ve:Nat×AO:=(7637,r (k21 (i 7::k12 (i 1::i 7::k13 (A9 (F::c 7626 0 0 0::k17 (A9 ([F,c 7630 0 0 0,t []]))))))) 11)
def Vf:Nat×AO:=(7644,r (iZ ([])) 0)
def Vg:Nat×AO:=(7652,r (iZ ([])) 0)
def Vh:Nat×AO:=(29,r (k6 (k9 (c 7809 0 8 8::JJ (i 8::i 7::Tn (k9 (c 7818 0 7 7::Ts (i 7::i 2::k9 (c 7826 0 7 7::Tt (k7 (k0 ([i 7,o 7811 0 4 0,.map 7715,i 0]))))))))))) 0)
def Vi:Nat×AO:=(7800,r [i 1,t [14,0,0,0,0,0,0]] 0)
def Vj:Nat×AO:=(7804,r [i 1,t [14,0,0,0,0,0,0]] 0)
def Vk:Nat×AO:=(7809,r (z7 ([])) 0)
def Vl:Nat×AO:=(7811,r (k21 (i 7::k12 (i 1::i 7::k13 (A9 (F::c 7800 0 1 1::k17 (A9 ([F,c 7804 0 1 1,t []]))))))) 11)
def Vm:Nat×AO:=(7818,r (iZ ([])) 0)
def Vn:Nat×AO:=(7826,r (iZ ([])) 0)
def Vo:Nat×AO:=(29,r (k6 (k9 (c 7927 0 8 8::JJ (i 8::i 7::Tn (k9 (c 7936 0 8 8::Ts (i 7::i 2::k9 (c 7944 0 8 8::Tt (k7 (k0 ([i 7,o 7929 0 4 0,.map 7715,i 0]))))))))))) 0)
def Vp:Nat×AO:=(7918,r [i 1,t [14,0,0,0,0,0,0]] 0)
def Vq:Nat×AO:=(7922,r [i 1,t [14,0,0,0,0,0,0]] 0)
def Vr:Nat×AO:=(7927,r (z7 ([])) 0)
def Vs:Nat×AO:=(7929,r (k21 (i 8::k12 (i 1::i 8::k13 (A9 (F::c 7918 0 1 1::k17 (A9 ([F,c 7922 0 1 1,t []]))))))) 11)
def Vt:Nat×AO:=(7936,r (z7 ([])) 0)
def Vu:Nat×AO:=(7944,r (z7 ([])) 0)
def Q8:Nat×AO:=(8053,r (mj ([])) 8)
def Q9:Nat×AO:=(8055,r [i 0,i 40] 3)
def Q_:Nat×AO:=(8143,r (z7 ([])) 0)
def Vv:Nat×AO:=(8145,r (k21 (i 8::k12 (i 1::i 8::k13 (A_ (F::c 8134 0 0 0::k17 (A_ ([F,c 8138 0 0 0,t []]))))))) 11)
def Vw:Nat×AO:=(8152,r (z7 ([])) 0)
def Vx:Nat×AO:=(8160,r (z7 ([])) 0)
def Vy:Nat×AO:=(29,r (ZQ (k0 ([i 7,o 8145 0 4 0,.fG,i 0]))) 0)
def Vz:Nat×AO:=(48,r (Ib (o 8400 0 3 0::i 1::Dz ([]))) 0)
def VA:Nat×AO:=(8400,r [T,T,T] 2)
def VB:Nat×AO:=(8574,r (mj ([])) 8)
def VC:Nat×AO:=(8576,r [i 0,i 40] 3)
def VD:Nat×AO:=(8693,r (mj ([])) 8)
def VE:Nat×AO:=(8695,r [i 0,i 40] 3)
def VF:Nat×AO:=(8729,r (k21 (i 8::k12 (i 1::i 8::k13 (A_ (F::c 8718 0 0 0::k17 (A_ ([F,c 8722 0 0 0,t []]))))))) 11)
def VG:Nat×AO:=(8736,r (z7 ([])) 0)
def VH:Nat×AO:=(8744,r (z7 ([])) 0)
def VI:Nat×AO:=(29,r (k6 (k9 (c 8903 0 9 9::JK (i 9::i 8::Tq (k9 (c 8912 0 8 8::Tb (i 8::i 2::k9 (c 8920 0 8 8::Tc (k7 (k0 ([i 8,o 8905 0 4 0,.map 8807,i 0]))))))))))) 0)
def VL:Nat×AO:=(8894,r [i 1,t [14,0,0,0,0,0,0]] 0)
def VM:Nat×AO:=(8898,r [i 1,t [14,0,0,0,0,0,0]] 0)
def VN:Nat×AO:=(8903,r (iZ (k2 ([]))) 0)
def VO:Nat×AO:=(8905,r (k21 (i 8::k12 (i 1::i 8::k13 (A_ (F::c 8894 0 1 1::k17 (A_ ([F,c 8898 0 1 1,t []]))))))) 11)
def VP:Nat×AO:=(8912,r (z7 ([])) 0)
def VQ:Nat×AO:=(8920,r (z7 ([])) 0)
def VS:Nat×AO:=(29,r (k6 (k9 (c 9023 0 9 9::JK (i 9::i 8::Tq (k9 (c 9032 0 9 9::Tb (i 8::i 2::k9 (c 9040 0 9 9::Tc (k7 (k0 ([i 8,o 9025 0 4 0,.map 8807,i 0]))))))))))) 0)
def VT:Nat×AO:=(9014,r [i 1,t [14,0,0,0,0,0,0]] 0)
def VU:Nat×AO:=(9018,r [i 1,t [14,0,0,0,0,0,0]] 0)
def VV:Nat×AO:=(9023,r (iZ (k2 ([]))) 0)
def VW:Nat×AO:=(9025,r (k21 (i 9::k12 (i 1::i 9::k13 (A_ (F::c 9014 0 1 1::k17 (A_ ([F,c 9018 0 1 1,t []]))))))) 11)
def VX:Nat×AO:=(9032,r (iZ (k2 ([]))) 0)
def VY:Nat×AO:=(9040,r (iZ (k2 ([]))) 0)
def Ra:Nat×AO:=(9150,r (mj ([])) 8)
def Rb:Nat×AO:=(9152,r [i 0,i 40] 3)
def Rc:Nat×AO:=(9241,r (iZ (k2 ([]))) 0)
def VZ:Nat×AO:=(9243,r (k21 (i 9::k12 (i 1::i 9::k13 (Ba (F::c 9232 0 0 0::k17 (Ba ([F,c 9236 0 0 0,t []]))))))) 11)
def V6:Nat×AO:=(9250,r (iZ (k2 ([]))) 0)
def V7:Nat×AO:=(9258,r (iZ (k2 ([]))) 0)
def V8:Nat×AO:=(29,r (ZL (k0 ([i 8,o 9243 0 4 0,.fG,i 0]))) 0)
def V_:Nat×AO:=(48,r (Ib (o 9498 0 3 0::i 1::Dz ([]))) 0)
def Wa:Nat×AO:=(9498,r [T,T,T] 2)
def Re:Nat×AO:=(9674,r (mj ([])) 8)
def Rf:Nat×AO:=(9676,r [i 0,i 40] 3)
def Rh:Nat×AO:=(9793,r (mj ([])) 8)
def Ri:Nat×AO:=(9795,r [i 0,i 40] 3)
def Wb:Nat×AO:=(9829,r (k21 (i 9::k12 (i 1::i 9::k13 (Ba (F::c 9818 0 0 0::k17 (Ba ([F,c 9822 0 0 0,t []]))))))) 11)
def Wc:Nat×AO:=(9836,r (iZ (k2 ([]))) 0)
def Wd:Nat×AO:=(9844,r (iZ (k2 ([]))) 0)
def We:Nat×AO:=(29,r (k6 (k9 (c 10005 0 10 10::QU (i 10::i 9::Ta (k9 (c 10014 0 9 9::S8 (i 9::i 2::k9 (c 10022 0 9 9::S_ (k7 (k0 ([i 9,o 10007 0 4 0,.map 9907,i 0]))))))))))) 0)
def Wf:Nat×AO:=(9996,r [i 1,t [14,0,0,0,0,0,0]] 0)
def Wg:Nat×AO:=(10000,r [i 1,t [14,0,0,0,0,0,0]] 0)
def Wh:Nat×AO:=(10005,r (iZ (k15 ([]))) 0)
def Wi:Nat×AO:=(10007,r (k21 (i 9::k12 (i 1::i 9::k13 (Ba (F::c 9996 0 1 1::k17 (Ba ([F,c 10000 0 1 1,t []]))))))) 11)
def Wj:Nat×AO:=(10014,r (iZ (k2 ([]))) 0)
def Wk:Nat×AO:=(10022,r (iZ (k2 ([]))) 0)
def Wl:Nat×AO:=(29,r (k6 (k9 (c 10127 0 10 10::QU (i 10::i 9::Ta (k9 (c 10136 0 10 10::S8 (i 9::i 2::k9 (c 10144 0 10 10::S_ (k7 (k0 ([i 9,o 10129 0 4 0,.map 9907,i 0]))))))))))) 0)
def Wm:Nat×AO:=(10118,r [i 1,t [14,0,0,0,0,0,0]] 0)
def Wo:Nat×AO:=(10122,r [i 1,t [14,0,0,0,0,0,0]] 0)
def Wp:Nat×AO:=(10127,r (iZ (k15 ([]))) 0)
def Wq:Nat×AO:=(10129,r (k21 (i 10::k12 (i 1::i 10::k13 (Ba (F::c 10118 0 1 1::k17 (Ba ([F,c 10122 0 1 1,t []]))))))) 11)
def Wr:Nat×AO:=(10136,r (iZ (k15 ([]))) 0)
def Ws:Nat×AO:=(10144,r (iZ (k15 ([]))) 0)
def Ns:Nat×AO:=(10255,r (mj ([])) 8)
def Nt:Nat×AO:=(10257,r [i 0,i 40] 3)
def Nu:Nat×AO:=(10347,r (iZ (k15 ([]))) 0)
def Rj:Nat×AO:=(10349,r (k21 (i 10::k12 (i 1::i 10::k13 (JL (F::c 10338 0 0 0::k17 (JL ([F,c 10342 0 0 0,t []]))))))) 11)
def Rk:Nat×AO:=(10356,r (iZ (k15 ([]))) 0)
def Rl:Nat×AO:=(10364,r (iZ (k15 ([]))) 0)
def Rm:Nat×AO:=(29,r (ZK (k0 ([i 9,o 10349 0 4 0,.fG,i 0]))) 0)
def Wu:Nat×AO:=(48,r (Ib (o 10604 0 3 0::i 1::Dz ([]))) 0)
def Wv:Nat×AO:=(10604,r [T,T,T] 2)
def Ww:Nat×AO:=(10913,r (mj ([])) 8)
def Wx:Nat×AO:=(10915,r [i 0,i 40] 3)
def Wy:Nat×AO:=(11032,r (mj ([])) 8)
def Wz:Nat×AO:=(11034,r [i 0,i 40] 3)
def WA:Nat×AO:=(11068,r (k21 (i 10::k12 (i 1::i 10::k13 (JL (F::c 11057 0 0 0::k17 (JL ([F,c 11061 0 0 0,t []]))))))) 11)
def WB:Nat×AO:=(11075,r (iZ (k15 ([]))) 0)
def WC:Nat×AO:=(11083,r (iZ (k15 ([]))) 0)
def WD:Nat×AO:=(29,r (k6 (k9 (c 11246 0 11 11::QT (i 11::i 10::S7 (k9 (c 11255 0 10 10::i 0::S5 (i 2::k9 (c 11263 0 10 10::i 0::S6 ([o 11248 0 4 0,.map 11146,i 0]))))))))) 0)
def WE:Nat×AO:=(11237,r [i 1,t [14,0,0,0,0,0,0]] 0)
def WF:Nat×AO:=(11241,r [i 1,t [14,0,0,0,0,0,0]] 0)
def WG:Nat×AO:=(11246,r (iZ (k2 (k2 ([])))) 0)
def WH:Nat×AO:=(11248,r (k21 (i 10::k12 (i 1::i 10::k13 (JL (F::c 11237 0 1 1::k17 (JL ([F,c 11241 0 1 1,t []]))))))) 11)
def WI:Nat×AO:=(11255,r (iZ (k15 ([]))) 0)
def WJ:Nat×AO:=(11263,r (iZ (k15 ([]))) 0)
def WK:Nat×AO:=(29,r (k6 (k9 (c 11370 0 11 11::QT (i 11::i 10::S7 (k9 (c 11379 0 11 11::i 0::S5 (i 2::k9 (c 11387 0 11 11::i 0::S6 ([o 11372 0 4 0,.map 11146,i 0]))))))))) 0)
def WL:Nat×AO:=(11361,r [i 1,t [14,0,0,0,0,0,0]] 0)
def WM:Nat×AO:=(11365,r [i 1,t [14,0,0,0,0,0,0]] 0)
def WN:Nat×AO:=(11370,r (iZ (k2 (k2 ([])))) 0)
def WO:Nat×AO:=(11372,r (k21 (i 11::k12 (i 1::i 11::k13 (JL (F::c 11361 0 1 1::k17 (JL ([F,c 11365 0 1 1,t []]))))))) 11)
def WP:Nat×AO:=(11379,r (iZ (k2 (k2 ([])))) 0)
def WQ:Nat×AO:=(11387,r (iZ (k2 (k2 ([])))) 0)
def WR:Nat×AO:=(11499,r (mj ([])) 8)
def WS:Nat×AO:=(11501,r [i 0,i 40] 3)
def WT:Nat×AO:=(11592,r (iZ (k2 (k2 ([])))) 0)
def WU:Nat×AO:=(11594,r (k21 (i 11::k12 (i 1::i 11::k13 (i 1::i 11::i 1::i 11::F::c 11583 0 0 0::k17 ([i 1,i 11,i 1,i 11,F,c 11587 0 0 0,t []]))))) 11)
def WV:Nat×AO:=(11601,r (iZ (k2 (k2 ([])))) 0)
def WW:Nat×AO:=(11609,r (iZ (k2 (k2 ([])))) 0)
def WX:Nat×AO:=(29,r (k6 (k9 (c 12577 0 12 12::QZ (i 12::k24 (c 12586 0 12 12::i 0::i 11::k8 (T::o 11954 0 2 0::o 11956 0 1 0::k7 (k0 (i 11::i 2::k9 (c 12594 0 12 12::i 0::i 11::k8 (T::o 12073 0 2 0::o 12075 0 1 0::k7 (k0 ([i 11,o 12579 0 4 0,.fG,i 0])))))))))))) 0)
def WY:Nat×AO:=(48,r (p 47 0::i 0::i 1::EV (o 12764 0 1 0::o 12766 0 1 0::N::i 100::i 0::i 0::N::k16 (o 12768 0 3 0::i 2::Dz ([])))) 0)
def WZ:Nat×AO:=(11954,r (mj ([])) 8)
def W8:Nat×AO:=(11956,r [i 0,i 40] 3)
def W9:Nat×AO:=(12073,r (mj ([])) 8)
def W_:Nat×AO:=(12075,r [i 0,i 40] 3)
def Xa:Nat×AO:=(12470,r (Md ([i 30,i 30])) 8)
def Xb:Nat×AO:=(12472,r [i 4,i 40] 3)
def Xc:Nat×AO:=(12474,r (EV ([o 12479 0 1 0,o 12481 0 1 0,N])) 8)
def Xd:Nat×AO:=(12479,r (tR ([i 0])) 6)
def Xe:Nat×AO:=(12481,r [i 0,i 4] 3)
def Xf:Nat×AO:=(12488,r (tR ([i 0])) 6)
def Xg:Nat×AO:=(12490,r [i 0,i 4] 3)
def Xh:Nat×AO:=(12577,r (k4 (k11 ([]))) 0)
def Xi:Nat×AO:=(12579,r (k21 (i 12::k12 (i 1::i 12::k13 (JM (F::c 12568 0 0 0::k17 (JM ([F,c 12572 0 0 0,t []]))))))) 11)
def Xj:Nat×AO:=(12586,r (k4 (k11 ([]))) 0)
def Xk:Nat×AO:=(12594,r (k4 (k11 ([]))) 0)
def Xl:Nat×AO:=(12764,r (tR ([i 0])) 6)
def Xm:Nat×AO:=(12766,r [i 0,i 4] 3)
def Xn:Nat×AO:=(12768,r [T,T,T] 2)
def Xo:Nat×AO:=(13060,r (Md ([i 30,i 30])) 8)
def Xp:Nat×AO:=(13062,r [i 4,i 40] 3)
def Xq:Nat×AO:=(13064,r (EV ([o 13069 0 1 0,o 13071 0 1 0,N])) 8)
def Xr:Nat×AO:=(13069,r (tR ([i 0])) 6)
def Xs:Nat×AO:=(13071,r [i 0,i 4] 3)
def Xt:Nat×AO:=(13078,r (tR ([i 0])) 6)
def Xu:Nat×AO:=(13080,r [i 0,i 4] 3)
def Xv:Nat×AO:=(13299,r (Md ([i 30,i 30])) 8)
def Xw:Nat×AO:=(13301,r [i 4,i 40] 3)
def Xx:Nat×AO:=(13303,r (EV ([o 13308 0 1 0,o 13310 0 1 0,N])) 8)
def Xy:Nat×AO:=(13308,r (tR ([i 0])) 6)
def Xz:Nat×AO:=(13310,r [i 0,i 4] 3)
def XA:Nat×AO:=(13317,r (tR ([i 0])) 6)
def XB:Nat×AO:=(13319,r [i 0,i 4] 3)
def XC:Nat×AO:=(13348,r (k21 (i 12::k12 (i 1::i 12::k13 (JM (F::c 13337 0 0 0::k17 (JM ([F,c 13341 0 0 0,t []]))))))) 11)
def XD:Nat×AO:=(13355,r (k4 (k11 ([]))) 0)
def XE:Nat×AO:=(13363,r (k4 (k11 ([]))) 0)
def XF:Nat×AO:=(29,r (k6 (k9 (c 13530 0 13 13::QZ (i 13::k24 (c 13539 0 12 12::k19 (k9 (c 13547 0 12 12::k22 ([N,i 0,i 12,o 13532 0 4 0,.map 13426,i 0])))))))) 0)
def XG:Nat×AO:=(13521,r [i 1,t [14,0,0,0,0,0,0]] 0)
def XH:Nat×AO:=(13525,r [i 1,t [14,0,0,0,0,0,0]] 0)
def XI:Nat×AO:=(13530,r (zZ ([])) 0)
def XJ:Nat×AO:=(13532,r (k21 (i 12::k12 (i 1::i 12::k13 (JM (F::c 13521 0 1 1::k17 (JM ([F,c 13525 0 1 1,t []]))))))) 11)
def XK:Nat×AO:=(13539,r (k4 (k11 ([]))) 0)
def XL:Nat×AO:=(13547,r (k4 (k11 ([]))) 0)
def XM:Nat×AO:=(29,r (k6 (k9 (c 13658 0 13 13::QZ (i 13::k24 (c 13667 0 13 13::k19 (k9 (c 13675 0 13 13::k22 ([N,i 0,i 12,o 13660 0 4 0,.map 13426,i 0])))))))) 0)
def XN:Nat×AO:=(13649,r [i 1,t [14,0,0,0,0,0,0]] 0)
def XO:Nat×AO:=(13653,r [i 1,t [14,0,0,0,0,0,0]] 0)
def XP:Nat×AO:=(13658,r (zZ ([])) 0)
def XQ:Nat×AO:=(13660,r (k21 (i 13::k12 (i 1::i 13::k13 (JM (F::c 13649 0 1 1::k17 (JM ([F,c 13653 0 1 1,t []]))))))) 11)
def XR:Nat×AO:=(13667,r (zZ ([])) 0)
def XS:Nat×AO:=(13675,r (zZ ([])) 0)
def Ro:Nat×AO:=(13815,r (Md ([i 30,i 30])) 8)
def Rp:Nat×AO:=(13817,r [i 4,i 40] 3)
def Rq:Nat×AO:=(13819,r (EV ([o 13824 0 1 0,o 13826 0 1 0,N])) 8)
def Rr:Nat×AO:=(13824,r (tR ([i 0])) 6)
def Rt:Nat×AO:=(13826,r [i 0,i 4] 3)
def Ru:Nat×AO:=(13833,r (tR ([i 0])) 6)
def Rv:Nat×AO:=(13835,r [i 0,i 4] 3)
def Rx:Nat×AO:=(13923,r (zZ ([])) 0)
def XT:Nat×AO:=(13925,r (k21 (i 13::k12 (i 1::i 13::k13 (JN (F::c 13914 0 0 0::k17 (JN ([F,c 13918 0 0 0,t []]))))))) 11)
def XU:Nat×AO:=(13932,r (zZ ([])) 0)
def XV:Nat×AO:=(13940,r (zZ ([])) 0)
def XW:Nat×AO:=(29,r (Z1 ([.fG,i 0])) 0)
def XX:Nat×AO:=(48,r (p 47 0::i 0::i 1::EV (o 14223 0 1 0::o 14225 0 1 0::N::i 100::i 0::i 0::N::k16 (o 14227 0 3 0::i 2::Dz ([])))) 0)
def XY:Nat×AO:=(14223,r (tR ([i 0])) 6)
def XZ:Nat×AO:=(14225,r [i 0,i 4] 3)
def X1:Nat×AO:=(14227,r [T,T,T] 2)
def X2:Nat×AO:=(14644,r (k21 (i 13::k12 (i 1::i 13::k13 (JN (F::c 14633 0 0 0::k17 (JN ([F,c 14637 0 0 0,t []]))))))) 11)
def X3:Nat×AO:=(14651,r (zZ ([])) 0)
def X4:Nat×AO:=(14659,r (zZ ([])) 0)
def X5:Nat×AO:=(29,r (k6 (k9 (c 14828 0 14 14::QY (i 14::k18 (c 14837 0 13 13::k20 (k9 (c 14845 0 13 13::k23 ([N,i 0,i 13,o 14830 0 4 0,.map 14722,i 0])))))))) 0)
def X6:Nat×AO:=(14819,r [i 1,t [14,0,0,0,0,0,0]] 0)
def X7:Nat×AO:=(14823,r [i 1,t [14,0,0,0,0,0,0]] 0)
def X8:Nat×AO:=(14828,r (k4 (k11 (k2 ([])))) 0)
def X9:Nat×AO:=(14830,r (k21 (i 13::k12 (i 1::i 13::k13 (JN (F::c 14819 0 1 1::k17 (JN ([F,c 14823 0 1 1,t []]))))))) 11)
def X_:Nat×AO:=(14837,r (zZ ([])) 0)
def Ya:Nat×AO:=(14845,r (zZ ([])) 0)
def Yb:Nat×AO:=(29,r (k6 (k9 (c 14958 0 14 14::QY (i 14::k18 (c 14967 0 14 14::k20 (k9 (c 14975 0 14 14::k23 ([N,i 0,i 13,o 14960 0 4 0,.map 14722,i 0])))))))) 0)
def Yc:Nat×AO:=(14949,r [i 1,t [14,0,0,0,0,0,0]] 0)
def Yd:Nat×AO:=(14953,r [i 1,t [14,0,0,0,0,0,0]] 0)
def Ye:Nat×AO:=(14958,r (k4 (k11 (k2 ([])))) 0)
def Yf:Nat×AO:=(14960,r (k21 (i 14::k12 (i 1::i 14::k13 (JN (F::c 14949 0 1 1::k17 (JN ([F,c 14953 0 1 1,t []]))))))) 11)
def Yg:Nat×AO:=(14967,r (k4 (k11 (k2 ([])))) 0)
def Yh:Nat×AO:=(14975,r (k4 (k11 (k2 ([])))) 0)
def Yi:Nat×AO:=(15116,r (Md ([i 30,i 30])) 8)
def Yj:Nat×AO:=(15118,r [i 4,i 40] 3)
def Yk:Nat×AO:=(15120,r (EV ([o 15125 0 1 0,o 15127 0 1 0,N])) 8)
def Yl:Nat×AO:=(15125,r (tR ([i 0])) 6)
def Ym:Nat×AO:=(15127,r [i 0,i 4] 3)
def Yn:Nat×AO:=(15134,r (tR ([i 0])) 6)
def Yo:Nat×AO:=(15136,r [i 0,i 4] 3)
def Yp:Nat×AO:=(15225,r (k4 (k11 (k2 ([])))) 0)
end
end Go.Proofs
