/- What the law asks, in parts: Lib Qa Qb Qc Qd Qe Qf Qg Qh Qi Qj Qk. -/
import Derived.WalkKit
import Derived.WalkSpells
import Derived.WalkLawsBesides
import Derived.BigQuiet
import Derived.Lib.Hide
import Derived.Maps.AppendAt
import Derived.BigRegion
import Derived.Deep.RegionLawGrows
import Derived.Deep.RegionHeld3
import Derived.Deep.CutBlock
import Derived.Deep.DeepCutAuto
import Derived.Test.YtdgllhcfablaoaaGreatRows
import Derived.Recover
import Derived.Defers
import Derived.Laws.Bits64b
import Derived.IntWalk
import Derived.Deep.RegionWith
import Derived.Laws.BytesString
set_option linter.all false
set_option maxRecDepth 100000
set_option maxHeartbeats 16000000
open Go.Proofs.Tryz
open Bool renaming false→U,true→O
open Option renaming some→I,none→J,map_some→dl
open Go renaming World→V,Value→Z,Calls→ar,Addr→aB,TypeId→aN,Operand→aP,Program→aQ,Oper→aH,execOp→bv,wpList→cH,run_loadCells_list→eu,run_underlying→eO,builtin→fp,wpList_plain→gf,typeInfo→fU,TypeInfo→fV,maxLen→gC,resolve→il,leaves_cons→fx,invoke→iO,bodyPostS→jg,Exit→gD,sizeOf→jP,Leaves→jQ,callsD_of_wpS→ly,Frame→j9,wpS_region→mH,wpOpsS→np,recoverD→od,run_bytesToString→pV,settle→oo,CallsD→ot,wpS_seq→u_
open Nat renaming lt_of_lt_of_le→ac,le_trans→aa,mul_le_mul_right→bE,add_mul→cR,mod_lt→fo,mul_one→dL,add_assoc→j6,min→j8,mul_eq_zero→nV,add_sub_cancel_left→l9,le_add_right→zf
open Go.RowKit renaming Below→ae,wrap64→bi
open Go.IntWalk renaming wrap64_in→ag
open List renaming length_append→ay,length_drop→bh,length_take→bN,eq_nil_of_length_eq_zero→cz,length_cons→eI,getElem?_cons_zero→bQ,take_append_drop→fw,getElem?_take→fD,mem_flatMap→kU,filterMap_cons→ee
open Go.World renaming cell?→an,setCell→aV,ownsRow_nil→cD,setRow→cV,frozen?→fJ
open Array renaming getElem?_modify→aR,length_toList→dw,replicate→dP
open Go.Region renaming ready→bj,schedule→nU
open Go.Builtin renaming firstCells→bd,append_→cK,copy_→jf,lenOf→io
open Go.RowKit.Below renaming heap_setCell→bC,heap_alloc→ed
open Option.some renaming injEq→bU
open Go.Result renaming andThen→cT
open Go.Instr renaming makeFunc→dn,sliceAt→eF,typeAssert→eY
open Go.Ending renaming returned→dC,panicked→AE
open Go.Addr renaming add_lit→dM,add→j7
open Go.Region.linearise renaming go→d_
open Go.Oper renaming wp→ej
open Prod.mk renaming injEq→eP
open Int renaming toNat_natCast→fl
open Go.World.grownBy renaming refl→gF
open Go.Value renaming int→gV,tuple→zu
open Go.Program renaming elem→jG
open Go.FrameMode renaming returning→oI
open Go.Exit renaming thenS→qD
open Go.Code renaming region→zB
open Go.Proofs.Tryz renaming prog→M
namespace Go.Proofs.YtdgllhcfablaoaaGreat
open Go.RowKit
def _root_.Go.RowKit.Hid.o{p:Prop}(h:Go.RowKit.Hid p):p:=h.out
abbrev iG(a0 a1 a2 a3 a4 a5:Int)(a6 a7:List UInt8)(d e:Int)(a:Option aB)(b c:Nat):Array Z:= #[.int .i64 a0,.int .i64 a1,.int .i64 a2,.int .i64 a3,.int .i64 a4,.int .i64 a5,.string ⟨⟨a6⟩⟩,.string ⟨⟨a7⟩⟩,.int .i64 d,.int .i64 e,.slice a b c]
abbrev IQ(a0 a1 a2 a3 a4 a5:Int)(a6 a7:List UInt8)(d e:Int)(a:Option aB)(b c:Nat):List Z:=[.int .i64 a0,.int .i64 a1,.int .i64 a2,.int .i64 a3,.int .i64 a4,.int .i64 a5,.string ⟨⟨a6⟩⟩,.string ⟨⟨a7⟩⟩,.int .i64 d,.int .i64 e,.slice a b c]
abbrev wy:Array Z:= #[.int .i64 0,.int .i64 0,.int .i64 0,.int .i64 0,.int .i64 0,.int .i64 0,.string ⟨#[]⟩,.string ⟨#[]⟩,.int .i64 0,.int .i64 0,.slice J 0 0]
abbrev Zn(a0 a1 a2 a3 a4 a5:Int)(a6 a7:List UInt8)(a b:Int):List Z:=[.int .i64 a0,.int .i64 a1,.int .i64 a2,.int .i64 a3,.int .i64 a4,.int .i64 a5,.string ⟨⟨a6⟩⟩,.string ⟨⟨a7⟩⟩,.int .i64 a,.int .i64 b,.slice J 0 0]
abbrev KL(a0 a1 a2 a3 a4:Int)(a5:Option aB)(a6 a7:Nat)(b:Option aB)(c a:Nat):Array Z:= #[.int .i64 a0,.int .i64 a1,.int .i64 a2,.int .i64 a3,.int .i64 a4,.slice a5 a6 a7,.slice b c a]
abbrev wA:Array Z:= #[.int .i64 0,.int .i64 0,.int .i64 0,.int .i64 0,.int .i64 0,.slice J 0 0,.slice J 0 0]
abbrev Pm(a0 a1 a2 a3 a4:Int):List Z:=[.int .i64 a0,.int .i64 a1,.int .i64 a2,.int .i64 a3,.int .i64 a4,.slice J 0 0,.slice J 0 0]
abbrev Pn(a0 a1 a2 a3 a4:Int)(a5:Option aB)(a6 a7:Nat):List Z:=[.int .i64 a0,.int .i64 a1,.int .i64 a2,.int .i64 a3,.int .i64 a4,.slice a5 a6 a7,.slice J 0 0]
abbrev Zo(a0:Int):Array Z:= #[.int .i64 a0,.int .i64 0,.int .i64 0,.int .i64 0,.int .i64 0,.slice J 0 0,.slice J 0 0]
abbrev KM(a0 a1 a2 a3 a4 a5:Int)(a6:Option aB)(a7 f:Nat)(g:Option aB)(a b:Nat)(c:Option aB)(d e:Nat):Array Z:= #[.int .i64 a0,.int .i64 a1,.int .i64 a2,.int .i64 a3,.int .i64 a4,.int .i64 a5,.slice a6 a7 f,.slice g a b,.slice c d e]
abbrev kZ:Array Z:= #[.int .i64 0,.int .i64 0,.int .i64 0,.int .i64 0,.int .i64 0,.int .i64 0,.slice J 0 0,.slice J 0 0,.slice J 0 0]
abbrev Po(a0 a1 a2 a3 a4 a5:Int)(a6:Option aB)(a7 c:Nat)(d:Option aB)(a b:Nat):List Z:=[.int .i64 a0,.int .i64 a1,.int .i64 a2,.int .i64 a3,.int .i64 a4,.int .i64 a5,.slice a6 a7 c,.slice d a b,.slice J 0 0]
abbrev MP(a0 a1 a2 a3 a4 a5:Int)(a6:Option aB)(a7 a:Nat):List Z:=[.int .i64 a0,.int .i64 a1,.int .i64 a2,.int .i64 a3,.int .i64 a4,.int .i64 a5,.slice a6 a7 a,.slice J 0 0,.slice J 0 0]
abbrev TC(a0 a1 a2 a3 a4 a5:Int):List Z:=[.int .i64 a0,.int .i64 a1,.int .i64 a2,.int .i64 a3,.int .i64 a4,.int .i64 a5,.slice J 0 0,.slice J 0 0,.slice J 0 0]
abbrev dF:Array Z:= #[.int .i64 0,.int .i64 0,.int .i64 0,.int .i64 0,.int .i64 0,.int .i64 0,.slice J 0 0,.int .i64 0,.int .i64 0,.int .i64 0,.int .i64 0,.int .i64 0,.int .i64 0,.slice J 0 0,.slice J 0 0,.int .i64 0,.int .i64 0,.int .i64 0,.int .i64 0,.int .i64 0,.int .i64 0,.slice J 0 0,.slice J 0 0,.slice J 0 0,.slice J 0 0]
abbrev MQ(a0 a1 a2 a3 a4 a5:Int)(a6:Option aB)(a7 F:Nat)(H a b c d e:Int)(f:Option aB)(g h:Nat)(i:Option aB)(j k:Nat)(l m n o p q:Int)(r:Option aB)(s t:Nat)(u:Option aB)(v w:Nat)(x:Option aB)(y z:Nat)(B:Option aB)(C E:Nat):List Z:=[.int .i64 a0,.int .i64 a1,.int .i64 a2,.int .i64 a3,.int .i64 a4,.int .i64 a5,.slice a6 a7 F,.int .i64 H,.int .i64 a,.int .i64 b,.int .i64 c,.int .i64 d,.int .i64 e,.slice f g h,.slice i j k,.int .i64 l,.int .i64 m,.int .i64 n,.int .i64 o,.int .i64 p,.int .i64 q,.slice r s t,.slice u v w,.slice x y z,.slice B C E]
abbrev iz(a0 a1 a2 a3 a4 a5:Int)(a6:Option aB)(a7 F:Nat)(H a b c d e:Int)(f:Option aB)(g h:Nat)(i:Option aB)(j k:Nat)(l m n o p q:Int)(r:Option aB)(s t:Nat)(u:Option aB)(v w:Nat)(x:Option aB)(y z:Nat)(B:Option aB)(C E:Nat):Array Z:= #[.int .i64 a0,.int .i64 a1,.int .i64 a2,.int .i64 a3,.int .i64 a4,.int .i64 a5,.slice a6 a7 F,.int .i64 H,.int .i64 a,.int .i64 b,.int .i64 c,.int .i64 d,.int .i64 e,.slice f g h,.slice i j k,.int .i64 l,.int .i64 m,.int .i64 n,.int .i64 o,.int .i64 p,.int .i64 q,.slice r s t,.slice u v w,.slice x y z,.slice B C E]
abbrev Ce(a0:Int):Array Z:= #[.int .i64 a0,.int .i64 0,.int .i64 0,.int .i64 0,.int .i64 0,.int .i64 0,.slice J 0 0,.int .i64 0,.int .i64 0,.int .i64 0,.int .i64 0,.int .i64 0,.int .i64 0,.slice J 0 0,.slice J 0 0,.int .i64 0,.int .i64 0,.int .i64 0,.int .i64 0,.int .i64 0,.int .i64 0,.slice J 0 0,.slice J 0 0,.slice J 0 0,.slice J 0 0]
abbrev AK(a0:Int):List Z:=[.int .i64 a0,.int .i64 0,.int .i64 0,.int .i64 0,.int .i64 0,.int .i64 0,.slice J 0 0,.int .i64 0,.int .i64 0,.int .i64 0,.int .i64 0,.int .i64 0,.int .i64 0,.slice J 0 0,.slice J 0 0,.int .i64 0,.int .i64 0,.int .i64 0,.int .i64 0,.int .i64 0,.int .i64 0,.slice J 0 0,.slice J 0 0,.slice J 0 0,.slice J 0 0]
abbrev TD(a0 a1 a2 a3:Int)(a4:Option aB)(a5 a6:Nat):List Z:=[.int .i64 a0,.int .i64 a1,.int .i64 0,.int .i64 a2,.int .i64 a3,.int .i64 0,.slice a4 a5 a6,.int .i64 0,.int .i64 0,.int .i64 0,.int .i64 0,.int .i64 0,.int .i64 0,.slice J 0 0,.slice J 0 0,.int .i64 0,.int .i64 0,.int .i64 0,.int .i64 0,.int .i64 0,.int .i64 0,.slice J 0 0,.slice J 0 0,.slice J 0 0,.slice J 0 0]
abbrev ka:Array Z:= #[.int .i64 0,.int .i64 0,.int .i64 0,.int .i64 0,.slice J 0 0,.slice J 0 0,.slice J 0 0]
abbrev di(a0:Option aB)(a1 a2:Nat)(a3:Option aB)(a4 a5:Nat)(a6:Option aB)(a7 i:Nat)(j:Option aB)(a b:Nat)(c:Option aB)(d e:Nat)(f:Option aB)(g h:Nat):Array Z:= #[.slice a0 a1 a2,.slice a3 a4 a5,.slice a6 a7 i,.slice j a b,.slice c d e,.slice f g h]
abbrev jR:Array Z:= #[.slice J 0 0,.slice J 0 0,.slice J 0 0,.slice J 0 0,.slice J 0 0,.slice J 0 0]
abbrev pv(a0 a1 a2 a3 a4 a5:Int)(a6 a7:List UInt8)(b c:Int)(a:Z):Array Z:= #[.int .i64 a0,.int .i64 a1,.int .i64 a2,.int .i64 a3,.int .i64 a4,.int .i64 a5,.string ⟨⟨a6⟩⟩,.string ⟨⟨a7⟩⟩,.int .i64 b,.int .i64 c,a]
abbrev vR(a0 a1:List UInt8)(a2 a3 a4 a5:Int):Array Z:= #[.string ⟨⟨a0⟩⟩,.string ⟨⟨a1⟩⟩,.int .i64 a2,.int .i64 a3,.int .i64 a4,.int .i64 a5]
abbrev sL:Array Z:= #[.int .i64 0,.int .i64 0,.int .i64 0,.int .i64 0,.int .i64 0,.int .i64 0,.slice J 0 0,.slice J 0 0,.slice J 0 0,.int .i64 0,.int .i64 0,.int .i64 0,.slice J 0 0,.slice J 0 0,.slice J 0 0,.slice J 0 0,.slice J 0 0,.slice J 0 0,.slice J 0 0,.slice J 0 0,.slice J 0 0,.slice J 0 0,.slice J 0 0,.slice J 0 0,.slice J 0 0,.slice J 0 0,.slice J 0 0,.slice J 0 0,.slice J 0 0,.slice J 0 0,.slice J 0 0,.int .i64 0,.int .i64 0,.slice J 0 0,.int .i64 0,.int .i64 0,.int .i64 0,.int .i64 0,.int .i64 0,.int .i64 0,.int .i64 0,.slice J 0 0,.slice J 0 0,.bool U,.int .i64 0]
abbrev TE(a0:Option aB)(a1 a2:Nat)(a3:Option aB)(a4 a5:Nat)(a6:Option aB)(a7 a8:Nat)(a9:Option aB)(a b:Nat)(c:Option aB)(d e:Nat)(f:Option aB)(g h:Nat)(i:Option aB)(j k:Nat)(l:Option aB)(m n:Nat)(o:Option aB)(p q:Nat)(r:Option aB)(s t:Nat)(u:Option aB)(v w:Nat)(x:Option aB)(y z:Nat)(B:Option aB)(C E:Nat)(F:Option aB)(H K:Nat)(L:Option aB)(N P:Nat)(Q:Option aB)(R S:Nat)(T:Option aB)(W X:Nat)(b0:Option aB)(c0 d0:Nat):List Z:=[.slice a0 a1 a2,.slice a3 a4 a5,.slice a6 a7 a8,.slice a9 a b,.slice c d e,.slice f g h,.slice i j k,.slice l m n,.slice o p q,.slice r s t,.slice u v w,.slice x y z,.slice B C E,.slice F H K,.slice L N P,.slice Q R S,.slice T W X,.slice b0 c0 d0]
abbrev TG:Array Z:= #[.string ⟨#[]⟩,.string ⟨#[]⟩,.int .i64 0,.int .i64 0,.int .i64 0,.int .i64 0]
abbrev px(a0 a1 a2:Int):Array Z:= #[.int .i64 a0,.int .i64 a1,.int .i64 0,.int .i64 a2,.int .i64 0,.slice J 0 0,.slice J 0 0]
abbrev TH(a0 a1 a2 a3 a4 a5:Int)(a6 a7:List UInt8)(a:Int):List Z:=[.int .i64 a0,.int .i64 a1,.int .i64 a2,.int .i64 a3,.int .i64 a4,.int .i64 a5,.string ⟨⟨a6⟩⟩,.string ⟨⟨a7⟩⟩,.int .i64 0,.int .i64 a,.slice J 0 0]
abbrev yd(a0 a1:Int):Array Z:= #[.int .i64 a0,.int .i64 a1,.int .i64 0,.int .i64 0,.int .i64 0,.int .i64 0,.slice J 0 0,.slice J 0 0,.slice J 0 0]
abbrev Pp(a0 a1 a2 a3:Int)(a4:Option aB)(a5 a6:Nat)(a7:Option aB)(a b:Nat):List Z:=[.int .i64 a0,.int .i64 a1,.int .i64 a2,.int .i64 a3,.slice a4 a5 a6,.slice a7 a b,.slice J 0 0]
abbrev Pq(a0 a1 a2 a3:Int)(a4:Option aB)(a5 a6:Nat):List Z:=[.int .i64 a0,.int .i64 a1,.int .i64 a2,.int .i64 a3,.slice a4 a5 a6,.slice J 0 0,.slice J 0 0]
abbrev Pr(a0 a1 a2 a3:Int):List Z:=[.int .i64 a0,.int .i64 a1,.int .i64 a2,.int .i64 a3,.slice J 0 0,.slice J 0 0,.slice J 0 0]
abbrev Ps(a0:List UInt8)(a1 a2 a3 a4:Int):Array Z:= #[.string ⟨⟨a0⟩⟩,.int .i64 a1,.int .i64 a2,.int .i64 a3,.int .i64 a4]
abbrev TI(a0 a1:Int):List Z:=[.int .i64 a0,.int .i64 a1,.int .i64 0,.int .i64 0,.int .i64 0,.int .i64 0,.slice J 0 0,.slice J 0 0,.slice J 0 0]
abbrev F3(a0:Z)(a1:Int)(a2:Option aB)(a3 a4:Nat)(a5:Z)(a6:Option aB)(a7 a:Nat)(b:Int):Array Z:= #[.int .i64 0,a0,.int .i64 a1,.bool U,.slice a2 a3 a4,a5,.slice a6 a7 a,.int .i64 b]
abbrev F4(a0:Int)(a1:List UInt8)(a2 a3 a4 a5:Int):Array Z:= #[.int .i64 a0,.string ⟨⟨a1⟩⟩,.int .i64 a2,.int .i64 a3,.int .i64 a4,.int .i64 a5]
abbrev F5(a0 a1:List UInt8)(a2 a3 a4 a5 a6:Int):Array Z:= #[.string ⟨⟨a0⟩⟩,.string ⟨⟨a1⟩⟩,.int .i64 a2,.int .i64 a3,.int .i64 a4,.int .i64 a5,.int .i64 a6]
def A{p:Prop}(h:p:=by omega):p:=h
def aj{p:Prop}(h:p:=by kernel_rfl):p:=h
def aC{p:Prop}(h:p:=by decide):p:=h
def bW{p:Prop}(h:p:=by simp):p:=h
def eZ{p:Prop}(h:p:=by rfl):p:=h
def eT{p:Prop}(h:p:=by go_num):p:=h
def kN{p:Prop}(h:p:=by simp[go_sem]):p:=h
def kc{p:Prop}(h:p:=by simp;omega):p:=h
def D{p:Prop}(h:p):Go.RowKit.Hid p:=h
def G(n:Nat):n≤n:=Nat.le_refl n
def br{α:Type}{a:Array α}{i:Nat}{b:α}(h:a[i]?=I b):∃h:i<a.size,a[i]=b:=Array.getElem?_eq_some_iff.1 h
def aD(B:Nat)(w:V):ae B w w:=Below.refl B w
def aT(n:Nat){P:aQ}{ops:Array aH}{Q:gD→Act→V→Prop}{rest:List aH}{a:Act}{w:V}{op:Op}{t:aN}{s:String}{e:Array Edge}{g:Option (Nat×Bool)}
  (h:cH P ops Q (⟨I n,op,t,s,e,g⟩::rest) a w):cH P ops Q (⟨I n,op,t,s,e,g⟩::rest) a w:=h
def Cf{α:Type}(l:List α)(k:Nat)(h:k<l.length):l.take (k+1)=l.take k++ [l[k]]:=by
 rw[List.take_succ_eq_append_getElem h]
def aZ{k:IntKind}{a b:Int}(h:a=b):dC (.int k a)=.returned (.int k b):=by rw[h]
def eA{a b:Bool}(h:a=b):dC (.bool a)=.returned (.bool b):=by rw[h]
def below_drewN{B:Nat}{a w:V}(h:ae B a w)(n:Nat):ae B a (w.drewN n):=⟨h.os,h.tape,h.output,h.size,h.block⟩
structure Sl(w:V)(E:Nat)(v:Z)(n:Nat)(cs:List Z):Prop where
 len:cs.length=n*E
 val:∃ao cap,v=.slice ao n cap∧n≤cap∧cap≤gC∧(ao=J→n=0∧cap=0)∧
  ∀j u,cs[j]?=I u→∃b off,ao=I ⟨b,off,J⟩∧b<w.heap.size∧w.cell? ⟨b,off+j,J⟩=I u
def Sl.nil(w:V)(E:Nat):Sl w E (.slice J 0 0) 0 []:=⟨by simp,J,0,rfl,G _,by unfold gC;omega,fun _=>⟨rfl,rfl⟩,fun j u h=>by simp at h⟩
def Sl.keep{w w':V}{E:Nat}{v:Z}{n:Nat}{cs:List Z}{B:Nat}(h:Sl w E v n cs)(c:ae B w w')(e:w.heap.size≤B):Sl w' E v n cs:=by
 obtain⟨f,ao,cap,g,i,k,l,m⟩:=h;refine⟨f,ao,cap,g,i,k,l,fun j u o=>?_⟩;obtain⟨b,a,q,d,r⟩:=m j u o;refine⟨b,a,q,ac d c.size,?_⟩;rw[c.cell (p:=⟨b,a+j,J⟩) (ac d e)];exact r
def cM{w:V}{base:Nat}{e:aN}{E:Nat}{v:Z}{n:Nat}{b:List Z}(h:w.ownsRow base e E v n b):Sl w E v n b:=by
 obtain⟨c,h⟩:=h;rcases h with⟨rfl,rfl⟩ | ⟨g,cap,f,rfl,_,d,i,k,o,l⟩
 ·refine⟨c,J,0,rfl,G _,by unfold gC;omega,fun _=>⟨rfl,rfl⟩,fun j u a=>?_⟩
  have:b=[]:=cz (by simpa using c);subst this;simp at a
 ·refine⟨c,_,cap,rfl,i,k,fun m=>by simp at m,fun j u a=>⟨g,0,rfl,(br d).1,?_⟩⟩
  rw[←l,fD]at a
  split at a
  ·simp only[an,d];simpa using a
  ·cases a
def Sl.at{w:V}{E:Nat}{n:Nat}{cs:List Z}{ao:Option aB}{cap:Nat}(h:Sl w E (.slice ao n cap) n cs)(l:0<cs.length):
  ∃b a,ao=I ⟨b,a,J⟩∧b<w.heap.size∧∀j u,cs[j]?=I u→w.cell? ⟨b,a+j,J⟩=I u:=by
 obtain⟨r,m,f,d,g,s,t,i⟩:=h;injection d with d _ e;subst d e;obtain⟨b,a,rfl,o,_⟩:=i 0 cs[0] (by simp[l]);refine⟨b,a,rfl,o,fun j u p=>?_⟩;obtain⟨v,k,c,_,q⟩:=i j u p;injection c with c;injection c with d g;subst d g;exact q
def Sl.shape{w:V}{E:Nat}{v:Z}{n:Nat}{cs:List Z}(h:Sl w E v n cs):∃ao cap,v=.slice ao n cap∧n≤cap∧cap≤9223372036854775807:=by
 obtain⟨_,ao,cap,a,b,c,_,_⟩:=h;exact⟨ao,cap,a,b,by unfold gC at c;omega⟩
def mL{P:aQ}(w:V)(s u x f:aN)(i:fV)(g o d n:Nat)(ao:Option aB)(b k:Nat)(e:Array Z)(t:aN)(cs:List Z)
  (y:P.underlying s=I (.slice f)) (hi:P.info? f=I i)
  (z:w.heap[g]?=I (.cells e t (0,0))) (B:cs.length=j8 b d*i.size)
  (l:∀j v,cs[j]?=I v→∃a,ao=I a∧w.cell? (a.add j)=I v) (p:o+cs.length≤e.size) (C:∀v∈cs,v.oneCell'=O):
  (jf #[s,u] x #[.slice (I ⟨g,o,J⟩) d n,.slice ao b k]).run P w=
   .ok (goInt (j8 b d)) (w.setRow g (e.toList.take o++cs++e.toList.drop (o+cs.length)).toArray):=by
 have q:=run_storeCells_at P g o t cs 0 e w z (by simpa using p) C;simp only[Nat.add_zero]at q
 have m:(bd i.size (j8 b d) (.slice ao b k)).run P w=.ok cs.toArray w:=by
  rcases ao with _ | a
  ·cases cs with
   | nil=>simp[bd]
   | cons c cs=>obtain⟨a,r,_⟩:=l 0 c rfl;cases r
  ·have E:=eu (P:=P) w a cs (fun j v F=>by obtain⟨H,r,h⟩:=l j v F;injection r with r;subst r;exact h)
   simp only[bd,←B,E]
 simp[jf,eO y,io,jP,fU,hi,m,q]
def qR{P:aQ}{w:V}{ops:Array aH}{rest:List aH}{o:aH}{a:Act}{Q:gD→Act→V→Prop}(x:o.guard=J)(d s:aP)(y T:aN)
  (X:o.op=.call { callee:=.builtin .copy,args:= #[d,s],argTypes:= #[y,T] }) (base:Nat) (e:aN) (i:fV) (E:Nat) (hu:P.underlying y=I (.slice e)) (hi:P.info? e=I i) (z:i.size=E)
  (g n cap:Nat) (xs:List Z) (hd:a.eval d=.slice (I ⟨g,0,J⟩) n cap) (q:w.ownsRow base e E (.slice (I ⟨g,0,J⟩) n cap) n xs)
  (ao:Option aB) (c:Nat) (cs:List Z) (hs:a.eval s=.slice ao n c) (B:Sl w E (.slice ao n c) n cs) (h1:∀v∈cs,v.oneCell'=O)
  (h:∀w',w'.ownsRow base e E (.slice (I ⟨g,0,J⟩) n cap) n cs→w.grownBy w' (I g)→cH P ops Q rest (a.put o.dst (goInt n)) w'):cH P ops Q (o::rest) a w:=by
 refine gf x fun K hK=>?_
 obtain⟨h0,f⟩:=q;rcases f with⟨f,_⟩ | ⟨g',r,t,f,C,W,u,F,a0,H⟩
 ·cases f
 injection f with f _ L;injection f with f;injection f with f _ _;subst f L;obtain⟨N,b0,r,p,_,_,_,hx⟩:=B;injection p with p _ _;subst p;have l:j8 n n=n:=Nat.min_self n;have c0:n*E≤cap*E:=bE _ u
 have m:=mL (P:=P) w y T o.type e i g 0 n cap ao n c t e cs hu hi W (by rw[l,z];exact N)
  (fun j v hj=>by
   obtain⟨b,d0,R,_,hc⟩:=hx j v hj
   exact⟨_,R,by rw[dM];exact hc⟩) A h1
 rw[l]at m;unfold ej;simp[bv,X,il,iO,fp,hd,hs,m,cT];refine hK _ _ (h _ ⟨N,.inr ⟨g,cap,_,rfl,C,setRow_heap w g t _ e _ W,u,F,?_,?_⟩⟩ ⟨rfl,rfl,rfl,by simp[cV],fun k hk S=>setRow_other w g k _ (fun h=>S (by rw[h]))⟩)
 ·simp;omega
 ·simp[←N]
def cS{w:V}{b:Nat}{x y:Z}{t:aN}(h:w.heap[b]?=I (.cells #[x,y] t (0,0))):
  w.cell? ⟨b,0,J⟩=I x∧w.cell? ⟨b,1,J⟩=I y∧w.frozen? ⟨b,0,J⟩=U∧w.frozen? ⟨b,1,J⟩=U∧b<w.heap.size:=by
 refine⟨?_,?_,?_,?_,(br h).1⟩<;>simp[an,fJ,h]
def k_{w:V}{base:Nat}{e:aN}{size:Nat}{v:Z}{n:Nat}{a:List Z}(h:w.ownsRow base e size v n a):∀k,v.ownBlock=I k→base≤k:=fun k b=>(h.lt k b).1
def AL{w:V}{base:Nat}{e:aN}{size:Nat}{v:Z}{n:Nat}{a:List Z}(h:w.ownsRow base e size v n a)(k:Nat):(w.drewN k).ownsRow base e size v n a:=h
def Rd(w:V)(ao:Option aB)(cs:List Z):Prop:=∀j u,cs[j]?=I u→∃a,ao=I a∧w.cell? (a.add j)=I u
def Sl.rd{w:V}{E:Nat}{n:Nat}{cs:List Z}{ao:Option aB}{cap:Nat}(h:Sl w E (.slice ao n cap) n cs):Rd w ao cs:=by
 intro j u e;obtain⟨l,f,d,a,_,_,_,g⟩:=h;injection a with a _ _;subst a;obtain⟨b,i,c,_,k⟩:=g j u e;exact⟨_,c,by rw[dM];exact k⟩
def Rd.keep{w w':V}{ao:Option aB}{cs:List Z}{B:Nat}(h:Rd w ao cs)(d:ae B w w')(e:w.heap.size≤B):Rd w' ao cs:=by
 intro j u f;obtain⟨a,g,c⟩:=h j u f;refine⟨a,g,?_⟩;have b:=World.block_lt_of_cell? w _ c;rw[d.cell (ac b e)];exact c
def add_add'(a:aB)(i j:Nat):(a.add i).add j=a.add (i+j):=by
 unfold j7;by_cases hi:i=0<;>by_cases b:j=0<;>simp[hi,b,j6]
def Rd.drop{w:V}{ao:Option aB}{cs:List Z}(h:Rd w ao cs)(k:Nat):Rd w (ao.map (·.add k)) (cs.drop k):=by
 intro j u b;rw[List.getElem?_drop]at b;obtain⟨a,rfl,c⟩:=h _ u b;exact⟨_,rfl,by rw[add_add'];exact c⟩
def Rd.take{w:V}{ao:Option aB}{cs:List Z}(h:Rd w ao cs)(k:Nat):Rd w ao (cs.take k):=by
 intro j u a;rw[fD]at a
 split at a
 ·exact h j u a
 ·cases a
def Rd.nil(w:V)(ao:Option aB):Rd w ao []:=fun _ _ h=>by simp at h
def Rd.alloc{w:V}{ao:Option aB}{cs:List Z}(h:Rd w ao cs)(o:Obj):Rd (w.alloc o) ao cs:=
 h.keep ((aD w.heap.size w).alloc (G _) o) (G _)
def Rd.py{w:V}{b a:Nat}{cs:List Z}(h:Rd w (I ⟨b,a,J⟩) cs)(k:Nat):Rd w (I ⟨b,a+k,J⟩) (cs.drop k):=by
 have:=h.drop k;simpa[dM]using this
def rI{w w':V}{base B:Nat}{e:aN}{size:Nat}{v:Z}{n:Nat}{c:List Z}(h:w.ownsRow base e size v n c)(f:ae B w w')(i:w.heap.size≤B):w'.ownsRow base e size v n c:=by
 obtain⟨j,a⟩:=h;refine⟨j,?_⟩;rcases a with a | ⟨g,cap,b,k,l,d,r⟩
 ·exact Or.inl a
 ·exact Or.inr ⟨g,cap,b,k,l,by rw[f.block g (ac (br d).1 i)];exact d,r⟩
def Apart(v v':Z):Prop:=∀g,v.ownBlock=I g→v'.ownBlock=I g→False
def Apart.symm{v v':Z}(h:Apart v v'):Apart v' v:=fun g a b=>h g b a
def Apart.kept{w w':V}{base:Nat}{e:aN}{size:Nat}{v v':Z}{n:Nat}{a:List Z}(h:Apart v v')(b:w.ownsRow base e size v' n a)(c:w.grownBy w' v.ownBlock):w'.ownsRow base e size v' n a:=by
 refine b.kept c ?_
 cases d:v'.ownBlock with
 | none=>exact .inl rfl
 | some g=>exact .inr fun e=>h g e.symm d
def Apart.step{w:V}{base:Nat}{e:aN}{size:Nat}{v c v':Z}{n:Nat}{f:List Z}(h:Apart v v')(i:w.ownsRow base e size v' n f)(a:c.ownBlock=v.ownBlock∨c.ownBlock=I w.heap.size):Apart c v':=by
 intro g b d;rcases a with a | a
 ·exact h g (a▸b) d
 ·rw[a]at b
  injection b with b;have:=(i.lt g d).2;omega
def nD{P:aQ}(w:V)(base:Nat)(t f e:aN)(i:fV)(size:Nat)(d:P.underlying t=I (.slice e))(hi:P.info? e=I i)
  (v:Z) (n:Nat) (h:List Z) (a:w.ownsRow base e size v n h) (c:Nat):
  (cK #[t,t] f #[v,.slice J 0 c]).run P w=.ok v w:=by
 rcases a.2 with⟨rfl,rfl⟩ | ⟨g,cap,j,rfl,_,_,b,_⟩
 ·simp[cK,eO d,jP,fU,hi,io,bd]
 ·simp[cK,eO d,jP,fU,hi,io,bd,b,storeCells]
def ye{P:aQ}{w:V}{ops:Array aH}{rest:List aH}{o:aH}{a:Act}{Q:gD→Act→V→Prop}(l:o.guard=J)(s x:aP)(t:aN)
  (H:o.op=.call { callee:=.builtin .append,args:= #[s,x],argTypes:= #[t,t] })
  (base:Nat) (e:aN) (i:fV) (z:Z) (size bytes:Nat) (L:P.underlying t=I (.slice e)) (hi:P.info? e=I i) (T:i.zero=I z)
  (g:i.size=size) (B:i.bytes=bytes) (C:z.cells.size=size) (E:0<size)
  (v:Z) (n:Nat) (y:List Z) (N:a.eval s=v) (b:w.ownsRow base e size v n y)
  (ao:Option aB) (m c:Nat) (news:List Z) (R:a.eval x=.slice ao m c) (S:news.length=m*size) (d:Rd w ao news) (W:∀u∈news,u.oneCell'=O)
  (F:n+m≤gC) (f:(n+m)*bytes≤140737488355328) (k:base≤w.heap.size)
  (h:∀v' w',w'.ownsRow base e size v' (n+m) (y++news)→w.grownBy w' v.ownBlock→cH P ops Q rest (a.put o.dst v') w'):cH P ops Q (o::rest) a w:=by
 rcases ao with _ | X
 ·have hm:news=[]:=by
   cases news with
   | nil=>rfl
   | cons u r=>obtain⟨a,p,_⟩:=d 0 u rfl;cases p
  subst hm
  have hm:m=0:=by
   have:m*size=0:=by simpa using S.symm
   rcases nV.1 this with h | h<;>omega
  subst hm;refine gf l fun K hK=>?_
  have q:=nD (P:=P) w base t o.type e i size L hi v n y b c;unfold ej;simp[bv,H,il,iO,fp,N,R,q,cT];exact hK _ _ (h v w (by simpa using b) (gF _ _))
 ·exact wpList_append_own _ l s x t H base e i z size bytes L hi T g B C E v n y N b X m c news R S (fun j u hu=>by obtain⟨a',p,hc⟩:=d j u hu;injection p with p;subst p;exact hc) W F f k (fun v' w' h2 h3 _=>h v' w' h2 h3)
def ki{w:V}{base a:Nat}{e:aN}{size:Nat}{v:Z}{n:Nat}{d:List Z}(h:w.ownsRow base e size v n d)(f:a≤base):w.ownsRow a e size v n d:=by
 obtain⟨i,b⟩:=h;refine⟨i,?_⟩;rcases b with b | ⟨g,cap,c,j,k,l,r⟩
 ·exact Or.inl b
 ·exact Or.inr ⟨g,cap,c,j,aa f k,l,r⟩
end Go.Proofs.YtdgllhcfablaoaaGreat
namespace Go.Proofs.YtdgllhcfablaoaaGreat
open Go.RowKit
def gP(w:V)(b base:Nat)(e:aN)(size:Nat)(cs:Array Z)(n:Nat)(a:w.heap.size=b)(c:base≤b)(hm:n≤1000000)(d:cs.size=n*size):
  (w.alloc (.cells cs e)).ownsRow base e size (.slice (I ⟨b,0,J⟩) n n) n cs.toList:=by
 subst a;exact World.ownsRow_lit w cs n c (by unfold gC;omega) d
end Go.Proofs.YtdgllhcfablaoaaGreat
namespace Go.Proofs.YtdgllhcfablaoaaGreat
open Go.RowKit
def nE{P:aQ}{w:V}{ops:Array aH}{rest:List aH}{o:aH}{a:Act}{Q:gD→Act→V→Prop}
  (r:o.guard=J) (l c:aP) (t:aN) (g:o.op=Op.makeSlice t l c)
  (base:Nat) (e:aN) (i:fV) (z:Z) (size bytes:Nat) (s:P.underlying t=I (.slice e)) (u:P.info? e=I i) (v:i.zero=I z) (k:i.size=size) (x:i.bytes=bytes)
  (p q:IntKind) (L C:Int) (n m:Nat) (y:a.eval l=.int p L) (B:a.eval c=.int q C) (E:L=(n:Int)) (F:C=(m:Int)) (d:n≤m) (b2:bytes*m≤281474976710656) (b3:m≤9223372036854775807) (b4:base≤w.heap.size)
  (H:∀N w',w'.ownsRow base e size (.slice (I ⟨w.heap.size,0,J⟩) n m) n N→w.grownBy w' J→cH P ops Q rest (a.put o.dst (.slice (I ⟨w.heap.size,0,J⟩) n m)) w'):
  cH P ops Q (o::rest) a w:=by
 refine gf r fun K j=>?_
 subst E;subst F
 have R:(i.bytes:Int)*(m:Int)≤281474976710656:=by
  rw[x];have h:((bytes*m:Nat):Int)≤281474976710656:=A
  rwa [Int.natCast_mul]at h
 have b:=run_make (P:=P) w t e i z s u v p q n m A A R A;simp only[fl]at b;have f:(madeCells z.cells (m*i.size)).size=m*i.size:=size_madeCells _ _;unfold ej;simp[bv,g,y,B,b,cT];refine j _ _ (H ((madeCells z.cells (m*i.size)).toList.take (n*size)) _ ⟨?_,.inr ⟨w.heap.size,m,_,rfl,b4,heap_alloc_new w _,d,by unfold gC;omega,by rw[f,k],rfl⟩⟩ (World.grownBy_alloc w _ J));rw[bN,dw,f,k];exact Nat.min_eq_left (bE _ d)
def zE{P:aQ}{w:V}{ops:Array aH}{rest:List aH}{o:aH}{a:Act}{Q:gD→Act→V→Prop}(l:o.guard=J)(x hi:aP)(t:aN)
  (v:o.op=.slice t x J (I hi) J) (e:aN) (i:fV) (E:Nat) (m:P.underlying t=I (.slice e)) (d:P.info? e=I i) (_hsz:i.size=E)
  (ao:Option aB) (n cap k:Nat) (cs:List Z) (y:a.eval x=.slice ao n cap) (p:a.eval hi=.int .i64 (k:Nat)) (C:k≤cap) (q:Rd w ao cs)
  (h:∀g,Rd w g (cs.take (k*E))→cH P ops Q rest (a.put o.dst (.slice g k cap)) w):cH P ops Q (o::rest) a w:=by
 refine gf l fun K z=>?_
 have r:(if cap=0 then ao else ao.map (·.add (0*i.size)))=ao:=by
  split
  ·rfl
  ·cases ao with
   | none=>rfl
   | some b=>simp[j7]
 have B:=z _ _ (h _ (q.take (k*E)));have u:P.elem t=e:=by simp[jG,m]
 have s:P.underlying t=I (.slice (P.elem t)):=by rw[u];exact m
 have c:=run_slice_h (P:=P) (w:=w) t ao n cap s .i64 (k:Int) A A;have j:(jP (P.elem t)).run P w=.ok i.size w:=by simp[jP,fU,u,d]
 simp only[j,cT,sliced,fl,Nat.sub_zero]at c;rw[r]at c
 have f:(eF t (.slice ao n cap) J (I (.int .i64 (k:Int))) J).run P w=.ok (.slice ao k cap) w:=by
  simp[eF,eO m,c]
 unfold ej;simp[bv,v,y,p,f,cT];exact B
end Go.Proofs.YtdgllhcfablaoaaGreat
namespace Go.Proofs.YtdgllhcfablaoaaGreat
open Go.RowKit
def rJ{α:Type}(f B cs:List α)(q g:Nat)(a:cs.length=g)(b:q+g≤f.length):
  ((f++B).take q++cs++(f++B).drop (q+g)).take f.length=f.take q++cs++f.drop (q+g):=by
 have c:(f++B).take q=f.take q:=List.take_append_of_le_length A;have d:(f++B).drop (q+g)=f.drop (q+g)++B:=List.drop_append_of_le_length b;rw[c,d,←List.append_assoc];have e:(f.take q++cs++f.drop (q+g)).length=f.length:=by simp[a];omega
 exact List.take_left' e
def td{P:aQ}(w:V)(h j k b:aN)(i:fV)(d a:Option aB)(c f e g:Nat)(l:P.underlying h=I (.slice b))(hi:P.info? b=I i)(m:j8 e c=0):
  (jf #[h,j] k #[.slice d c f,.slice a e g]).run P w=.ok (goInt 0) w:=by
 have n:∀(x:aB),(loadCells x 0).run P w=.ok #[] w:=fun x=>by simpa using eu (P:=P) w x [] bW
 cases d<;>cases a<;>simp[jf,eO l,io,bd,jP,fU,hi,m,storeCells,n]
def sM{P:aQ}{w:V}{ops:Array aH}{rest:List aH}{o:aH}{a:Act}{Q:gD→Act→V→Prop}(S:o.guard=J)(d s:aP)(R T:aN)
  (ho:o.op=.call { callee:=.builtin .copy,args:= #[d,s],argTypes:= #[R,T] }) (base:Nat) (e:aN) (i:fV) (E:Nat) (hu:P.underlying R=I (.slice e)) (hi:P.info? e=I i) (W:i.size=E)
  (g n cap:Nat) (u:List Z) (C:w.ownsRow base e E (.slice (I ⟨g,0,J⟩) n cap) n u)
  (of m p:Nat) (X:Option aB) (hd:a.eval d=.slice X m p) (a0:0<m→X=I ⟨g,of*E,J⟩) (hm:of+m≤n)
  (ao:Option aB) (b q:Nat) (cs:List Z) (hs:a.eval s=.slice ao b q) (b0:m≤b) (c:cs.length=m*E) (c0:0<m→Rd w ao cs) (h1:∀v∈cs,v.oneCell'=O)
  (h:∀w',w'.ownsRow base e E (.slice (I ⟨g,0,J⟩) n cap) n (u.take (of*E)++cs++u.drop (of*E+m*E))→w.grownBy w' (I g)→cH P ops Q rest (a.put o.dst (goInt m)) w'):cH P ops Q (o::rest) a w:=by
 refine gf S fun K hK=>?_
 obtain⟨h0,r⟩:=C;rcases r with⟨r,_⟩ | ⟨g',i0,l,r,F,hg,z,H,B,t⟩
 ·cases r
 injection r with r _ d0;injection r with r;injection r with r _ _;subst r d0;have x:j8 b m=m:=Nat.min_eq_right b0;by_cases hz:m=0
 ·subst hz
  have e0:cs=[]:=cz (by simpa using c);subst e0;have f:=td (P:=P) w R T o.type e i X ao 0 p b q hu hi (Nat.min_zero _);unfold ej;simp[bv,ho,il,iO,fp,hd,hs,f,cT];refine hK _ _ (h w ?_ (gF _ _));have:u.take (of*E)++ []++u.drop (of*E+0*E)=u:=bW
  rw[this];exact⟨h0,.inr ⟨g,cap,l,rfl,F,hg,z,H,B,t⟩⟩
 have y:0<m:=Nat.pos_of_ne_zero hz;have L:=a0 y;subst L;have j0:of*E+m*E≤n*E:=by rw[←cR];exact bE _ hm
 have k0:n*E≤cap*E:=bE _ z
 have f:=mL (P:=P) w R T o.type e i g (of*E) m p ao b q l e cs hu hi hg (by rw[x,W];exact c)
  (fun j v hj=>c0 y j v hj) (by rw[c,B];omega) h1
 rw[x]at f;unfold ej;simp[bv,ho,il,iO,fp,hd,hs,f,cT];have N:(u.take (of*E)++cs++u.drop (of*E+m*E)).length=n*E:=by simp only[ay,bN,bh,c,h0];omega
 refine hK _ _ (h _ ⟨N,.inr ⟨g,cap,_,rfl,F,setRow_heap w g l _ e _ hg,z,H,?_,?_⟩⟩ ⟨rfl,rfl,rfl,by simp[cV],fun k hk f0=>setRow_other w g k _ (fun h=>f0 (by rw[h]))⟩)
 ·rw[List.size_toArray];simp only[ay,bN,bh,c,dw,B];omega
 ·have g0:l.toList=u++l.toList.drop (n*E):=by rw[←t,fw]
  have:=rJ u (l.toList.drop (n*E)) cs (of*E) (m*E) c A;rw[←g0,h0]at this;rw[c,←this];simp
def mr{w:V}{base:Nat}{e:aN}{E g n cap:Nat}{f:List Z}(h:w.ownsRow base e E (.slice (I ⟨g,0,J⟩) n cap) n f)(j:Nat)(q:j<f.length)(u:Z):
  (w.setCell ⟨g,j,J⟩ u).ownsRow base e E (.slice (I ⟨g,0,J⟩) n cap) n (f.set j u):=by
 obtain⟨r,a⟩:=h;rcases a with⟨a,_⟩ | ⟨t,p,c,a,i,s,k,l,m,b⟩
 ·cases a
 injection a with a _ o;injection a with a;injection a with a _ _;subst a o
 have d:j<c.size:=by
  have:f.length≤c.toList.length:=by rw[←b];simp;omega
  simpa using ac q this
 refine⟨by simpa using r,.inr ⟨g,cap,c.set j u d,rfl,i,?_,k,l,by simpa using m,?_⟩⟩
 ·simp[aV,aR,s,Array.setIfInBounds,d]
 ·rw[←b];simp[List.take_set]
def iP{w:V}{base:Nat}{e:aN}{E g n cap:Nat}{f:List Z}(h:w.ownsRow base e E (.slice (I ⟨g,0,J⟩) n cap) n f):
  base≤g∧g<w.heap.size∧n≤cap∧cap≤9223372036854775807∧f.length=n*E∧(∀o,w.frozen? ⟨g,o,J⟩=U)∧∀j u,f[j]?=I u→w.cell? ⟨g,j,J⟩=I u:=by
 obtain⟨q,a⟩:=h;rcases a with⟨a,_⟩ | ⟨t,p,r,a,i,k,l,c,s,b⟩
 ·cases a
 injection a with a _ m;injection a with a;injection a with a _ _;subst a m;refine⟨i,(br k).1,l,by unfold gC at c;exact c,q,fun o=>by simp[fJ,k],fun j u d=>?_⟩;rw[←b,fD]at d
 split at d
 ·simp only[an,k];simpa using d
 ·cases d
def wB{w:V}{base:Nat}{e:aN}{E:Nat}{v:Z}{n:Nat}{b:List Z}(h:w.ownsRow base e E v n b)(d:0<n):∃g cap,v=.slice (I ⟨g,0,J⟩) n cap:=by
 obtain⟨_,a⟩:=h;rcases a with⟨_,a⟩ | ⟨g,cap,c,a,_⟩
 ·omega
 ·exact⟨g,cap,a⟩
def bY{w:V}{base:Nat}{e:aN}{E:Nat}{v:Z}{n:Nat}{a:List Z}(h:w.ownsRow base e E v n a):∃ao cap,v=.slice ao n cap∧n≤cap∧cap≤9223372036854775807:=(cM h).shape
def ey{P:aQ}(t e:aN)(i:fV)(E:Nat)(d:P.underlying t=I (.slice e))(hi:P.info? e=I i)(f:i.size=E)
  (g a n cap k:Nat) (K:Int) (m:K=k) (o:k≤n) (_hn:n≤cap):
  ∃ao,(k<cap→ao=I ⟨g,a+k*E,J⟩)∧∀w:V,(eF t (.slice (I ⟨g,a,J⟩) n cap) (I (.int .i64 K)) J J).run P w=.ok (.slice ao (n-k) (cap-k)) w:=by
 subst m;refine⟨if cap=k then I ⟨g,a,J⟩else(I ⟨g,a,J⟩:Option aB).map (·.add (k*i.size)),fun h=>?_,fun w=>?_⟩
 ·rw[if_neg A,dl,dM,f]
 ·have l:P.elem t=e:=by simp[jG,d]
  have j:P.underlying t=I (.slice (P.elem t)):=by rw[l];exact d
  have b:=run_slice_l (P:=P) (w:=w) t (I ⟨g,a,J⟩) n cap j .i64 (k:Int) A A;have c:(jP (P.elem t)).run P w=.ok i.size w:=by simp[jP,fU,l,hi]
  simp only[c,cT,sliced,fl]at b;simp[eF,eO d,b]
def kK{W a:V}(c:ae W.heap.size W a):(∀b o,b<W.heap.size→a.cell? ⟨b,o,J⟩=W.cell? ⟨b,o,J⟩)∧W.heap.size≤a.heap.size:=
 ⟨fun b o h=>c.cell (p:=⟨b,o,J⟩) h,c.size⟩
def dG{w w':V}{a:aB}{x:Z}{B:Nat}(h:w.cell? a=I x)(b:ae B w w')(c:a.block<B):w'.cell? a=I x:=by rw[b.cell c];exact h
def cell_behind{b:V}{a:aB}{x:Z}(h:b.cell? a=I x)(c:a.block<b.heap.size):∀W,ae b.heap.size b W→W.cell? a=I x:=by
 intro W d;rw[d.cell c];exact h
end Go.Proofs.YtdgllhcfablaoaaGreat
namespace Go.Proofs.YtdgllhcfablaoaaGreat
open Go.RowKit
def hY{P:aQ}{w:V}{ops:Array aH}{rest:List aH}{o:aH}{a:Act}{Q:gD→Act→V→Prop}(l:o.guard=J)(s x:aP)(t:aN)
  (H:o.op=.call { callee:=.builtin .append,args:= #[s,x],argTypes:= #[t,t] })
  (base:Nat) (e:aN) (i:fV) (z:Z) (size bytes:Nat) (L:P.underlying t=I (.slice e)) (hi:P.info? e=I i) (T:i.zero=I z)
  (g:i.size=size) (B:i.bytes=bytes) (C:z.cells.size=size) (E:0<size)
  (v:Z) (n:Nat) (y:List Z) (N:a.eval s=v) (b:w.ownsRow base e size v n y)
  (ao:Option aB) (m c:Nat) (news:List Z) (R:a.eval x=.slice ao m c) (S:news.length=m*size) (d:Rd w ao news) (W:∀u∈news,u.oneCell'=O)
  (F:n+m≤gC) (f:(n+m)*bytes≤140737488355328) (k:base≤w.heap.size)
  (h:∀v' w',w'.ownsRow base e size v' (n+m) (y++news)→w.grownBy w' v.ownBlock→(v'.ownBlock=v.ownBlock∨v'.ownBlock=I w.heap.size)→cH P ops Q rest (a.put o.dst v') w'):cH P ops Q (o::rest) a w:=by
 rcases ao with _ | X
 ·have hm:news=[]:=by
   cases news with
   | nil=>rfl
   | cons u r=>obtain⟨a,p,_⟩:=d 0 u rfl;cases p
  subst hm
  have hm:m=0:=by
   have:m*size=0:=by simpa using S.symm
   rcases nV.1 this with h | h<;>omega
  subst hm;refine gf l fun K hK=>?_
  have q:=nD (P:=P) w base t o.type e i size L hi v n y b c;unfold ej;simp[bv,H,il,iO,fp,N,R,q,cT];exact hK _ _ (h v w (by simpa using b) (gF _ _) (.inl rfl))
 ·exact wpList_append_own_at _ l s x t H base e i z size bytes L hi T g B C E v n y N b X m c news R S (fun j u hu=>by obtain⟨a',p,hc⟩:=d j u hu;injection p with p;subst p;exact hc) W F f k (fun v' w' h2 h3 _ h4=>h v' w' h2 h3 h4)
end Go.Proofs.YtdgllhcfablaoaaGreat
namespace Go.Proofs.YtdgllhcfablaoaaGreat
open Go.RowKit
abbrev Rg:=Int×Int
def vd(l:List Rg):List Z:=l.flatMap fun r=>[.int .i64 r.1,.int .i64 r.2]
def rK(r:Rg)(l:List Rg):vd (r::l)=.int .i64 r.1:: .int .i64 r.2::vd l:=rfl
def Cg(l:List Rg):(vd l).length=l.length*2:=by
 induction l with
 | nil=>rfl
 | cons r l a=>rw[rK];simp[a];omega
def KN(l:List Rg)(k:Nat)(a:k<l.length):(vd l)[k*2]?=I (.int .i64 l[k].1)∧(vd l)[k*2+1]?=I (.int .i64 l[k].2):=by
 induction l generalizing k with
 | nil=>simp at a
 | cons r l b=>
  cases k with
  | zero=>simp[rK]
  | succ k=>
   have h:=b k (by simpa using a);rw[rK];have c:(k+1)*2=k*2+1+1:=A
   have d:(k+1)*2+1=k*2+1+1+1:=A
   rw[c];simpa using h
def Ch(w:V)(v:Z)(l:List Rg):Prop:=Sl w 2 v l.length (vd l)
def Ch.keep{w w':V}{v:Z}{l:List Rg}{B:Nat}(h:Ch w v l)(a:ae B w w')(b:w.heap.size≤B):Ch w' v l:=Sl.keep h a b
def Ch.nil(w:V):Ch w (.slice J 0 0) []:=Sl.nil w 2
def Ch.pair{w wr:V}{l:List Rg}{ao:Option aB}{cap B:Nat}(h:Ch w (.slice ao l.length cap) l)(d:ae B w wr)(e:w.heap.size≤B)(k:Nat)(i:k<l.length):
  ∃b a,ao=I ⟨b,a,J⟩∧b<w.heap.size∧wr.cell? ⟨b,a+k*2,J⟩=I (.int .i64 l[k].1)∧wr.cell? ⟨b,a+k*2+1,J⟩=I (.int .i64 l[k].2):=by
 obtain⟨b,a,j,c,f⟩:=Sl.at h (by rw[Cg];omega);have g:=KN l k i;refine⟨b,a,j,c,?_,?_⟩
 ·rw[d.cell (p:=⟨b,a+k*2,J⟩) (ac c e)];exact f _ _ g.1
 ·rw[d.cell (p:=⟨b,a+k*2+1,J⟩) (ac c e)];exact f _ _ g.2
def Small(l:List Rg):Prop:=∀r∈l,0≤r.1∧r.1<r.2∧r.2≤1073741824
def Small.take{l:List Rg}(h:Small l)(k:Nat):Small (l.take k):=fun r a=>h r (List.mem_of_mem_take a)
end Go.Proofs.YtdgllhcfablaoaaGreat
namespace Go.Proofs.YtdgllhcfablaoaaGreat
def yf(l:List Rg):Prop:=Small l∧l.Pairwise (fun a b=>a.2<b.1)
instance (l:List Rg):Decidable (yf l):=by unfold yf Small;exact inferInstance
def yf.ahead{a b:List Rg}(h:yf (a++b)):yf a:=⟨fun r c=>h.1 r (by simp[c]),(List.pairwise_append.1 h.2).1⟩
def yf.take{l:List Rg}(h:yf l)(k:Nat):yf (l.take k):=yf.ahead (b:=l.drop k) (by rw[fw];exact h)
end Go.Proofs.YtdgllhcfablaoaaGreat
namespace Go.Proofs.YtdgllhcfablaoaaGreat
open Go.RowKit
def fL(ns:List Int):List Z:=ns.map (gV .i64)
def GZ(w:V)(v:Z)(ns:List Int):Prop:=Sl w 1 v ns.length (fL ns)
def GZ.cell{w wr:V}{ns:List Int}{ao:Option aB}{cap B:Nat}(h:GZ w (.slice ao ns.length cap) ns)(d:ae B w wr)(e:w.heap.size≤B)(k:Nat)(f:k<ns.length):
  ∃b a,ao=I ⟨b,a,J⟩∧b<w.heap.size∧wr.cell? ⟨b,a+k,J⟩=I (.int .i64 ns[k]):=by
 obtain⟨b,a,g,c,i⟩:=Sl.at h (by simp[fL];omega);refine⟨b,a,g,c,?_⟩;rw[d.cell (p:=⟨b,a+k,J⟩) (ac c e)];exact i k _ (by simp[fL,f])
def GZ.keep{w w':V}{v:Z}{l:List Int}{B:Nat}(h:GZ w v l)(a:ae B w w')(b:w.heap.size≤B):GZ w' v l:=Sl.keep h a b
end Go.Proofs.YtdgllhcfablaoaaGreat
namespace Go.Proofs.YtdgllhcfablaoaaGreat
open Go.RowKit
def ca{α:Type}(f:α→List Z)(l:List α):List Z:=l.flatMap f
def hH{α:Type}(f:α→List Z)(x:α)(l:List α):ca f (x::l)=f x++ca f l:=rfl
def jS{α:Type}(f:α→List Z)(a b:List α):ca f (a++b)=ca f a++ca f b:=by simp[ca]
def tf{α:Type}(f:α→List Z)(x:α):ca f [x]=f x:=by simp[ca]
def ke{α:Type}{f:α→List Z}{E:Nat}(a:∀x,(f x).length=E)(l:List α):(ca f l).length=l.length*E:=by
 induction l with
 | nil=>simp[ca]
 | cons x l b=>rw[hH,ay,a,b,eI,cR];omega
def wC{α:Type}{f:α→List Z}{E:Nat}(a:∀x,(f x).length=E)(l:List α)(k:Nat)(b:k<l.length)(j:Nat)(c:j<E):(ca f l)[k*E+j]?=(f l[k])[j]? :=by
 induction l generalizing k with
 | nil=>simp at b
 | cons x l d=>
  cases k with
  | zero=>rw[hH,Nat.zero_mul,Nat.zero_add,List.getElem?_append_left (by rw[a];exact c)];rfl
  | succ k=>
   rw[hH,List.getElem?_append_right (by rw[a,cR];omega),a,show(k+1)*E+j-E=k*E+j by rw[cR];omega];exact d k (by simpa using b)
def yg{α:Type}{f:α→List Z}{E:Nat}(a:∀x,(f x).length=E)(l:List α)(k:Nat):(ca f l).drop (k*E)=ca f (l.drop k):=by
 induction l generalizing k with
 | nil=>simp[ca]
 | cons x l b=>
  cases k with
  | zero=>simp
  | succ k=>rw[hH,show(k+1)*E=(f x).length+k*E by rw[a,cR];omega,List.drop_append,List.drop_of_length_le A,l9,List.nil_append,b k,List.drop_succ_cons]
def rL{α:Type}{f:α→List Z}{E:Nat}(a:∀x,(f x).length=E)(l:List α)(k:Nat):(ca f l).take (k*E)=ca f (l.take k):=by
 induction l generalizing k with
 | nil=>simp[ca]
 | cons x l b=>
  cases k with
  | zero=>simp[ca]
  | succ k=>rw[hH,show(k+1)*E=(f x).length+k*E by rw[a,cR];omega,List.take_append,List.take_of_length_le A,l9,b k,List.take_succ_cons,hH]
def jr{α:Type}{f:α→List Z}(b:∀x,∀u∈f x,u.oneCell'=O)(l:List α):∀u∈ca f l,u.oneCell'=O:=by
 intro u a;simp only[ca,kU]at a;obtain⟨x,_,h⟩:=a;exact b x u h
def IR{α:Type}{f:α→List Z}{E:Nat}(a:∀x,(f x).length=E)(l:List α)(k:Nat)(b:k<l.length)(y:α):(ca f l).take (k*E)++f y++(ca f l).drop (k*E+E)=ca f (l.set k y):=by
 rw[show k*E+E=(k+1)*E by rw[cR];omega,rL a,yg a,List.set_eq_take_append_cons_drop,if_pos b,jS,hH];simp
def cc{α:Type}(f:α→List Z)(E:Nat)(w:V)(v:Z)(l:List α):Prop:=Sl w E v l.length (ca f l)
def cc.keep{α:Type}{f:α→List Z}{E:Nat}{w w':V}{v:Z}{l:List α}{B:Nat}(h:cc f E w v l)(a:ae B w w')(b:w.heap.size≤B):cc f E w' v l:=Sl.keep h a b
def cc.nil{α:Type}(f:α→List Z)(E:Nat)(w:V):cc f E w (.slice J 0 0) []:=Sl.nil w E
def cc.at{α:Type}{f:α→List Z}{E:Nat}{w wr:V}{l:List α}{ao:Option aB}{cap B:Nat}(h:cc f E w (.slice ao l.length cap) l)(c:∀x,(f x).length=E)(g:0<E)(i:ae B w wr)(m:w.heap.size≤B)(k:Nat)(n:k<l.length):
  ∃b a,ao=I ⟨b,a,J⟩∧b<w.heap.size∧∀j u,(f l[k])[j]?=I u→wr.cell? ⟨b,a+k*E+j,J⟩=I u:=by
 obtain⟨b,a,o,d,q⟩:=Sl.at h (by rw[ke c];exact Nat.mul_pos A g);refine⟨b,a,o,d,fun j u e=>?_⟩;have r:j<E:=by rw[←c l[k]];exact(List.getElem?_eq_some_iff.1 e).1
 rw[i.cell (p:=⟨b,a+k*E+j,J⟩) (ac d m),j6];exact q _ _ (by rw[wC c l k n j r];exact e)
def fE{α β:Type}(R:α→β→Prop):List α→List β→Prop
 | [],[]=>True
 | a::c,b::bs=>R a b∧fE R c bs
 | _,_=>False
def fE.len{α β:Type}{R:α→β→Prop}:∀{a:List α}{bs:List β},fE R a bs→a.length=bs.length
 | [],[],_=>rfl
 | _::_,_::_,h=>by rw[eI,eI,fE.len h.2]
 | [],_::_,h=>absurd h (by simp[fE])
 | _::_,[],h=>absurd h (by simp[fE])
def fE.at{α β:Type}{R:α→β→Prop}:∀{a:List α}{bs:List β},fE R a bs→∀k (b:k<a.length)(c:k<bs.length),R a[k] bs[k]
 | [],[],_,_,b,_=>absurd b bW
 | _::_,_::_,h,0,_,_=>h.1
 | _::_,_::_,h,k+1,b,c=>fE.at h.2 k (by simpa using b) (by simpa using c)
 | [],_::_,h,_,_,_=>absurd h (by simp[fE])
 | _::_,[],h,_,_,_=>absurd h (by simp[fE])
def fE.imp{α β:Type}{R S:α→β→Prop}(c:∀a b,R a b→S a b):∀{d:List α}{bs:List β},fE R d bs→fE S d bs
 | [],[],_=>trivial
 | _::_,_::_,h=>⟨c _ _ h.1,fE.imp c h.2⟩
 | [],_::_,h=>absurd h (by simp[fE])
 | _::_,[],h=>absurd h (by simp[fE])
def fE.append{α β:Type}{R:α→β→Prop}:∀{a:List α}{bs:List β}{cs:List α}{ds:List β},fE R a bs→fE R cs ds→fE R (a++cs) (bs++ds)
 | [],[],_,_,_,k=>k
 | _::_,_::_,_,_,h,k=>⟨h.1,fE.append h.2 k⟩
 | [],_::_,_,_,h,_=>absurd h (by simp[fE])
 | _::_,[],_,_,h,_=>absurd h (by simp[fE])
def fE.take{α β:Type}{R:α→β→Prop}:∀{a:List α}{bs:List β}(k:Nat),fE R a bs→fE R (a.take k) (bs.take k)
 | _,_,0,_=>by simp[fE]
 | [],[],_+1,_=>trivial
 | _::_,_::_,k+1,h=>⟨h.1,fE.take k h.2⟩
 | [],_::_,_+1,h=>absurd h (by simp[fE])
 | _::_,[],_+1,h=>absurd h (by simp[fE])
def fE.drop{α β:Type}{R:α→β→Prop}:∀{a:List α}{bs:List β}(k:Nat),fE R a bs→fE R (a.drop k) (bs.drop k)
 | _,_,0,h=>by simpa using h
 | [],[],_+1,_=>trivial
 | _::_,_::_,k+1,h=>fE.drop k h.2
 | [],_::_,_+1,h=>absurd h (by simp[fE])
 | _::_,[],_+1,h=>absurd h (by simp[fE])
def fE.set{α β:Type}{R:α→β→Prop}:∀{c:List α}{bs:List β}(k:Nat){a:α}{b:β},fE R c bs→R a b→fE R (c.set k a) (bs.set k b)
 | [],[],_,_,_,_,_=>trivial
 | _::_,_::_,0,_,_,h,r=>⟨r,h.2⟩
 | _::_,_::_,k+1,_,_,h,r=>⟨h.1,fE.set k h.2 r⟩
 | [],_::_,_,_,_,h,_=>absurd h (by simp[fE])
 | _::_,[],_,_,_,h,_=>absurd h (by simp[fE])
end Go.Proofs.YtdgllhcfablaoaaGreat
namespace Go.Proofs.YtdgllhcfablaoaaGreat
structure Ct where
 key:ByteArray
 coll:Int
 lo:Int
 hi:Int
 start:Int
 up:Int
 down:Int
structure Sc where
 key:ByteArray
 up:Int
 down:Int
 uu:Int
 ud:Int
structure Ls where
 dev:Int
 epoch:Int
 EG:Int
 last:Int
 sl:List Sc
 ids:List Rg
 used:List Int
structure Bk where
 cs:List Ct
 free:List Rg
 ls:List Ls
 bound:List Int
structure Wn where
 key:ByteArray
 up:Int
 down:Int
 ids:Int
instance:DecidableEq Ct:=fun a b=>
 if h:a.key=b.key∧a.coll=b.coll∧a.lo=b.lo∧a.hi=b.hi∧a.start=b.start∧a.up=b.up∧a.down=b.down then isTrue (by cases a;cases b;simp_all)else isFalse (fun e=>h (by rw[e];simp))
instance:DecidableEq Sc:=fun a b=>
 if h:a.key=b.key∧a.up=b.up∧a.down=b.down∧a.uu=b.uu∧a.ud=b.ud then isTrue (by cases a;cases b;simp_all)else isFalse (fun e=>h (by rw[e];simp))
instance:DecidableEq Ls:=fun a b=>
 if h:a.dev=b.dev∧a.epoch=b.epoch∧a.EG=b.EG∧a.last=b.last∧a.sl=b.sl∧a.ids=b.ids∧a.used=b.used then isTrue (by cases a;cases b;simp_all)else isFalse (fun e=>h (by rw[e];simp))
instance:DecidableEq Bk:=fun a b=>
 if h:a.cs=b.cs∧a.free=b.free∧a.ls=b.ls∧a.bound=b.bound then isTrue (by cases a;cases b;simp_all)else isFalse (fun e=>h (by rw[e];simp))
end Go.Proofs.YtdgllhcfablaoaaGreat
namespace Go.Proofs.YtdgllhcfablaoaaGreat
open Go.RowKit
def cCt(c:Ct):List Z:=[.string c.key,.int .i64 c.coll,.int .i64 c.lo,.int .i64 c.hi,.int .i64 c.start,.int .i64 c.up,.int .i64 c.down]
def Zp(c:Sc):List Z:=[.string c.key,.int .i64 c.up,.int .i64 c.down,.int .i64 c.uu,.int .i64 c.ud]
def Zq(c:Wn):List Z:=[.string c.key,.int .i64 c.up,.int .i64 c.down,.int .i64 c.ids]
def Pt(c:Sc):(Zp c).length=5:=rfl
def Pu(c:Wn):(Zq c).length=4:=rfl
structure Sv where
 ao:Option aB
 n:Nat
 cap:Nat
abbrev Sv.v(s:Sv):Z:=.slice s.ao s.n s.cap
structure NB where
 dev:Int
 epoch:Int
 EG:Int
 last:Int
 s:Sv
 i:Sv
 u:Sv
def Yu(x:NB):List Z:=[.int .i64 x.dev,.int .i64 x.epoch,.int .i64 x.EG,.int .i64 x.last,x.s.v,x.i.v,x.u.v]
def Pv(x:NB):(Yu x).length=7:=rfl
abbrev Zr(w:V)(v:Z)(l:List Ct):Prop:=cc cCt 7 w v l
abbrev TJ(w:V)(v:Z)(l:List Sc):Prop:=cc Zp 5 w v l
abbrev Zs(w:V)(v:Z)(l:List Wn):Prop:=cc Zq 4 w v l
structure So(w:V)(x:NB)(l:Ls):Prop where
 dev:x.dev=l.dev
 epoch:x.epoch=l.epoch
 EG:x.EG=l.EG
 last:x.last=l.last
 s:TJ w x.s.v l.sl
 i:Ch w x.i.v l.ids
 u:GZ w x.u.v l.used
def So.keep{w w':V}{x:NB}{l:Ls}{B:Nat}(h:So w x l)(a:ae B w w')(b:w.heap.size≤B):So w' x l:=
 ⟨h.dev,h.epoch,h.EG,h.last,h.s.keep a b,Ch.keep h.i a b,GZ.keep h.u a b⟩
def Sp(w:V)(v:Z)(ls:List Ls):Prop:=∃a:List NB,cc Yu 7 w v a∧fE (So w) a ls
def Sp.keep{w w':V}{v:Z}{l:List Ls}{B:Nat}(h:Sp w v l)(a:ae B w w')(b:w.heap.size≤B):Sp w' v l:=by
 obtain⟨c,d,e⟩:=h;exact⟨c,d.keep a b,e.imp (fun _ _ r=>r.keep a b)⟩
structure Zt where
 c:Sv
 f:Sv
 l:Sv
 b:Sv
structure Yv(w:V)(x:Zt)(b:Bk):Prop where
 c:Zr w x.c.v b.cs
 f:Ch w x.f.v b.free
 l:Sp w x.l.v b.ls
 b:GZ w x.b.v b.bound
def Yv.keep{w w':V}{x:Zt}{b:Bk}{B:Nat}(h:Yv w x b)(a:ae B w w')(c:w.heap.size≤B):Yv w' x b:=
 ⟨h.c.keep a c,Ch.keep h.f a c,h.l.keep a c,GZ.keep h.b a c⟩
def cc.sc{w wr:V}{l:List Sc}{ao:Option aB}{cap B:Nat}(h:TJ w (.slice ao l.length cap) l)(d:ae B w wr)(e:w.heap.size≤B)(k:Nat)(f:k<l.length):
  ∃b a,ao=I ⟨b,a,J⟩∧b<w.heap.size∧wr.cell? ⟨b,a+k*5,J⟩=I (.string l[k].key)∧wr.cell? ⟨b,a+k*5+1,J⟩=I (.int .i64 l[k].up)∧wr.cell? ⟨b,a+k*5+2,J⟩=I (.int .i64 l[k].down)∧
   wr.cell? ⟨b,a+k*5+3,J⟩=I (.int .i64 l[k].uu)∧wr.cell? ⟨b,a+k*5+4,J⟩=I (.int .i64 l[k].ud):=by
 obtain⟨b,a,g,i,c⟩:=cc.at h Pt A d e k f;exact⟨b,a,g,i,c 0 _ rfl,c 1 _ rfl,c 2 _ rfl,c 3 _ rfl,c 4 _ rfl⟩
def cc.wn{w wr:V}{l:List Wn}{ao:Option aB}{cap B:Nat}(h:Zs w (.slice ao l.length cap) l)(d:ae B w wr)(e:w.heap.size≤B)(k:Nat)(f:k<l.length):
  ∃b a,ao=I ⟨b,a,J⟩∧b<w.heap.size∧wr.cell? ⟨b,a+k*4,J⟩=I (.string l[k].key)∧wr.cell? ⟨b,a+k*4+1,J⟩=I (.int .i64 l[k].up)∧wr.cell? ⟨b,a+k*4+2,J⟩=I (.int .i64 l[k].down)∧
   wr.cell? ⟨b,a+k*4+3,J⟩=I (.int .i64 l[k].ids):=by
 obtain⟨b,a,g,i,c⟩:=cc.at h Pu A d e k f;exact⟨b,a,g,i,c 0 _ rfl,c 1 _ rfl,c 2 _ rfl,c 3 _ rfl⟩
def cc.ls{w wr:V}{l:List NB}{ao:Option aB}{cap B:Nat}(h:cc Yu 7 w (.slice ao l.length cap) l)(d:ae B w wr)(e:w.heap.size≤B)(k:Nat)(f:k<l.length):
  ∃b a,ao=I ⟨b,a,J⟩∧b<w.heap.size∧wr.cell? ⟨b,a+k*7,J⟩=I (.int .i64 l[k].dev)∧wr.cell? ⟨b,a+k*7+1,J⟩=I (.int .i64 l[k].epoch)∧wr.cell? ⟨b,a+k*7+2,J⟩=I (.int .i64 l[k].EG)∧
   wr.cell? ⟨b,a+k*7+3,J⟩=I (.int .i64 l[k].last)∧wr.cell? ⟨b,a+k*7+4,J⟩=I l[k].s.v∧wr.cell? ⟨b,a+k*7+5,J⟩=I l[k].i.v∧wr.cell? ⟨b,a+k*7+6,J⟩=I l[k].u.v:=by
 obtain⟨b,a,g,i,c⟩:=cc.at h Pv A d e k f;exact⟨b,a,g,i,c 0 _ rfl,c 1 _ rfl,c 2 _ rfl,c 3 _ rfl,c 4 _ rfl,c 5 _ rfl,c 6 _ rfl⟩
end Go.Proofs.YtdgllhcfablaoaaGreat
namespace Go.Proofs.YtdgllhcfablaoaaGreat
open Go.RowKit
inductive X where
 | ok (l:List UInt8)
 | err (e:Int)
def num:Nat→Bool→List UInt8→Nat×X
 | _,_,[]=>(0,.err 8)
 | u,f,c::l=>
  if (f=O∧c.toNat=128)∨144115188075855871<u then(0,.err 10)
  else if c.toNat<128 then(u*128+c.toNat%128,.ok l)else num (u*128+c.toNat%128) U l
def ov(u:Nat):Int:=if u%2=1 then -((u/2:Nat):Int)-1 else((u/2:Nat):Int)
def X.fail(e:Int):X→X
 | .ok _=> .err e
 | x=>x
def aU:X→Int×X
 | .ok l=>(match num 0 O l with
  | (u,.ok l)=>(ov u,.ok l)
  | (_,x)=>(0,x))
 | x=>(0,x)
def gZ(l:List UInt8):Nat×X:=match num 0 O l with
 | (u,.ok m)=>if ov u<0∨65535<ov u then(0,.err 4)else((ov u).toNat,.ok m)
 | (_,x)=>(0,x)
def fY:X→List UInt8×X
 | .ok l=>(match gZ l with
  | (n,.ok l)=>if l.length<n then([],.err 8)else(l.take n,.ok (l.drop n))
  | (_,x)=>([],x))
 | x=>([],x)
def nums:Nat→List UInt8→List Int×X
 | 0,l=>([],.ok l)
 | n+1,l=>(match num 0 O l with
  | (u,.ok l)=>(match nums n l with | (r,x)=>(ov u::r,x))
  | (_,x)=>([],x))
def du:X→List Int×X
 | .ok l=>(match gZ l with
  | (n,.ok l)=>(match nums n l with | (r,.ok l)=>(r,.ok l) | (_,x)=>([],x))
  | (_,x)=>([],x))
 | x=>([],x)
def IS:∀(l:List UInt8)(u:Nat)(f:Bool)(v:Nat)(e:Int),num u f l=(v,.err e)→e=8∨e=10
 | [],u,f,v,e,h=>by simp[num]at h;omega
 | c::l,u,f,v,e,h=>by
  unfold num at h
  split at h
  ·simp at h;omega
  ·split at h
   ·simp at h
   ·exact IS l _ _ v e h
def bX(l:List UInt8):List Z:=l.map fun b=> .int .u8 b.toNat
def ld(l:List UInt8):(bX l).length=l.length:=by simp[bX]
def po(l:List UInt8)(k:Nat):(bX l).drop k=bX (l.drop k):=by simp[bX,List.map_drop]
def F6(l:List UInt8)(k:Nat):(bX l).take k=bX (l.take k):=by simp[bX,List.map_take]
def MR(u r:Nat)(h:r<128):(u*128) ||| r=u*128+r:=by
 have:=Nat.shiftLeft_add_eq_or_of_lt (i:=7) (b:=r) (by simpa using h) u;rw[Nat.shiftLeft_eq]at this;exact this.symm
def Sq:(prog.info? 5).map (fun i=>i.size)=I 1:=aj
def qS:∃a,prog.info? 5 =I a∧a.size=1:=by
 have h:= Sq
 cases hi: prog.info? 5 with
 | none=>rw[hi]at h;cases h
 | some i=>rw[hi]at h;injection h with h;exact⟨i,rfl,h⟩
def nu{P:aQ}{w:V}{ops:Array aH}{rest:List aH}{o:aH}{a:Act}{Q:gD→Act→V→Prop}(j:o.guard=J)(x lo:aP)(t:aN)
  (u:o.op=.slice t x (I lo) J J) (e:aN) (i:fV) (E:Nat) (l:P.underlying t=I (.slice e)) (hi:P.info? e=I i) (f:i.size=E)
  (ao:Option aB) (n cap k:Nat) (cs:List Z) (v:a.eval x=.slice ao n cap) (m:a.eval lo=.int .i64 (k:Nat)) (C:k≤n) (F:n≤cap) (p:Rd w ao cs) (q:cs.length=n*E)
  (h:∀b,Rd w b (cs.drop (k*E))→(b=ao∨b=ao.map (·.add (k*E)))→cH P ops Q rest (a.put o.dst (.slice b (n-k) (cap-k))) w):cH P ops Q (o::rest) a w:=by
 refine gf j fun K y=>?_
 have z:Rd w (if cap=k then ao else ao.map (·.add (k*i.size))) (cs.drop (k*E)):=by
  rw[f]
  split
  ·have:cs.drop (k*E)=[]:=List.drop_eq_nil_of_le (by rw[q];exact bE _ A)
   rw[this];exact Rd.nil _ _
  ·exact p.drop _
 have B:=y _ _ (h _ z (by rw[f];split<;>simp));have s:P.elem t=e:=by simp[jG,l]
 have r:P.underlying t=I (.slice (P.elem t)):=by rw[s];exact l
 have c:=run_slice_l (P:=P) (w:=w) t ao n cap r .i64 (k:Int) A A;have g:(jP (P.elem t)).run P w=.ok i.size w:=by simp[jP,fU,s,hi]
 simp only[g,cT,sliced,fl]at c
 have d:(eF t (.slice ao n cap) (I (.int .i64 (k:Int))) J J).run P w=.ok (.slice (if cap=k then ao else ao.map (·.add (k*i.size))) (n-k) (cap-k)) w:=by
  simp[eF,eO l,c]
 unfold ej;simp[bv,u,v,m,d,cT];exact B
structure fg(w:V)(p:Nat)(ao:Option aB)(n cap:Nat)(e:Int):Prop where
 k:w.heap[p]?=I (.cells #[.slice ao n cap,.int .i64 e] 241 (0,0))
 c:n≤cap
 m:cap≤9223372036854775807
def Pw{a ao:Option aB}{k:Nat}(h:a=ao∨a=ao.map (·.add k)):∀b,a=I b→∃b0,ao=I b0∧b.block=b0.block:=by
 intro b c;rcases h with rfl | rfl
 ·exact⟨b,c,rfl⟩
 ·cases ao with
  | none=>cases c
  | some b0=>
   refine⟨b0,rfl,?_⟩;simp only[dl,bU]at c;subst c;unfold j7
   split<;>rfl
def jL(e:Int):List PanicEntry:=[{ v:=.iface 296 (.int .i64 e),recovered:=U }]
def F7(w:V)(p:Nat)(ao:Option aB)(L cap n:Nat)(e:Int)(h:fg w p ao L cap e)(a:L<n):
  ar M 127 #[.pointer (I ⟨p,0,J⟩),.int .i64 n] w (fun b w'=>b=.panicked (jL 8)∧w'=w):=by
 obtain⟨c0,c1,f0,f1,c⟩:=cS h.k;have d:decide (L<n)=O:=by simpa using a
 have f:=D h;clear h a
 go_enter func127,ntmps127
 go_wp2;exact⟨rfl,rfl,rfl⟩
def Px(w:V)(p:Nat)(ao:Option aB)(l:List UInt8)(cap n:Nat)(e:Int)(h:fg w p ao l.length cap e)(m:Rd w ao (bX l))(j:n≤l.length):
  ar M 127 #[.pointer (I ⟨p,0,J⟩),.int .i64 n] w (fun t w'=>∃a1 a2,t=.returned (.slice a1 n cap)∧Rd w a1 (bX (l.take n))∧Rd w a2 (bX (l.drop n))∧(∀b,a2=I b→∃b0,ao=I b0∧b.block=b0.block)∧w'=w.setCell ⟨p,0,J⟩ (.slice a2 (l.length-n) (cap-n))):=by
 obtain⟨c0,c1,f0,f1,u⟩:=cS h.k;obtain⟨c,a⟩:=qS
 have v:decide (l.length<n)=U:=by simpa using j
 have o:=h.c;have hm:=h.m;have q:=D j;have i:=D a;have r:=D m;have s:=D o;clear h j m a o hm
 go_enter func127,ntmps127
 go_wp2_with (first
  | ((with_reducible refine aT 19 ?_);refine zE rfl _ _ 33 rfl 5 c 1 underlying33 i.o.1 i.o.2 ao l.length cap n (bX l) rfl rfl (aa q.o s.o) r.o ?_;intro a1 d)
  | ((with_reducible refine aT 26 ?_);refine nu rfl _ _ 33 rfl 5 c 1 underlying33 i.o.1 i.o.2 ao l.length cap n (bX l) rfl rfl q.o s.o r.o (by rw[ld,dL]) ?_;intro a2 f g;have k:Hid (∀b,a2=I b→∃b0,ao=I b0∧b.block=b0.block):=D (Pw g);clear g))
 go_ret;rw[dL,F6]at d;rw[dL,po]at f;exact⟨_,_,rfl,d,f,k.o,rfl⟩
structure But(p:Nat)(w w':V):Prop where
 os:w'.os=w.os
 tape:w'.tape=w.tape
 output:w'.output=w.output
 size:w.heap.size≤w'.heap.size
 block:∀k,k<w.heap.size→k≠p→w'.heap[k]?=w.heap[k]?
def But.refl(p:Nat)(w:V):But p w w:=⟨rfl,rfl,rfl,G _,fun _ _ _=>rfl⟩
def But.trans{p:Nat}{a b c:V}(h:But p a b)(k:But p b c):But p a c:=
 ⟨k.os.trans h.os,k.tape.trans h.tape,k.output.trans h.output,aa h.size k.size,fun i hi d=>(k.block i (ac hi h.size) d).trans (h.block i hi d)⟩
def But.set(p o:Nat)(w:V)(v:Z):But p w (w.setCell ⟨p,o,J⟩ v):=
 ⟨rfl,rfl,rfl,by simp[aV],fun k _ a=>bC _ _ _ _ a⟩
def But.below{p:Nat}{w w':V}(h:But p w w'){B:Nat}(a:B≤w.heap.size)(b:B≤p):ae B w w':=
 ⟨h.os,h.tape,h.output,h.size,fun k c=>h.block k A A⟩
def But.of_below{p:Nat}{w w':V}(h:ae w.heap.size w w'):But p w w':=⟨h.os,h.tape,h.output,h.size,fun k a _=>h.block k a⟩
def fg.set{w:V}{p:Nat}{ao a2:Option aB}{n cap b a:Nat}{e:Int}(h:fg w p ao n cap e)(c:b≤a)(hm:a≤9223372036854775807):fg (w.setCell ⟨p,0,J⟩ (.slice a2 b a)) p a2 b a e:=
 ⟨by simp[aV,aR,h.k],c,hm⟩
def qc{l:List UInt8}{j:Nat}{u:Z}(h:(bX l)[j]?=I u):∃n:Int,u=.int .u8 n:=by
 unfold bX at h;rw[List.getElem?_map]at h
 cases a:l[j]? with
 | none=>rw[a]at h;cases h
 | some b=>rw[a]at h;injection h with h;exact⟨_,h.symm⟩
def Rd.but{w w':V}{p:Nat}{ao a:Option aB}{n cap:Nat}{e:Int}{l:List UInt8}(h:Rd w a (bX l))(o:fg w p ao n cap e)(q:But p w w'):Rd w' a (bX l):=by
 intro j u i;obtain⟨b,rfl,c⟩:=h j u i;refine⟨b,rfl,?_⟩;obtain⟨m,rfl⟩:=qc i
 have d:(b.add j).block<w.heap.size:=by
  unfold an at c
  split at c
  ·rename_i r
   exact(br r).1
  ·cases c
 have f:(b.add j).block≠p:=by
  intro s;unfold an at c;rw[s,o.k]at c;simp only at c
  split at c
  ·cases c
  ·match g:(b.add j).off with
   | 0=>rw[g]at c;simp at c
   | 1=>rw[g]at c;simp at c
   | k+2=>rw[g]at c;simp at c
 rw[an,q.block _ d f];exact c
structure By(B:Nat)(w:V)(a:Option aB)(l:List UInt8):Prop where
 rd:Rd w a (bX l)
 lt:∀b,a=I b→l≠[]→b.block<B
def By.but{B:Nat}{w w':V}{p:Nat}{ao a:Option aB}{n cap:Nat}{e:Int}{l:List UInt8}(h:By B w a l)(b:fg w p ao n cap e)(c:But p w w'):By B w' a l:=⟨h.rd.but b c,h.lt⟩
def By.alloc{B:Nat}{w:V}{a:Option aB}{l:List UInt8}(h:By B w a l)(o:Obj):By B (w.alloc o) a l:=⟨h.rd.alloc o,h.lt⟩
def By.keep{B C:Nat}{w w':V}{a:Option aB}{l:List UInt8}(h:By B w a l)(d:ae C w w')(k:B≤C):By B w' a l:=by
 refine⟨fun j u c=>?_,h.lt⟩;obtain⟨b,rfl,e⟩:=h.rd j u c;have f:l≠[]:=by rintro rfl;simp[bX]at c
 have g:=h.lt b rfl f;refine⟨b,rfl,?_⟩;have i:(b.add j).block=b.block:=by unfold j7;split<;>rfl
 rw[d.cell (by rw[i];omega)];exact e
def tg(w:V)(p:Nat):Nat:=match w.cell? ⟨p,0,J⟩with
 | some (.slice _ n _)=>n
 | _=>0
def fg.tg{w:V}{p:Nat}{ao:Option aB}{n cap:Nat}{e:Int}(h:fg w p ao n cap e):tg w p=n:=by
 unfold Go.Proofs.YtdgllhcfablaoaaGreat.tg;rw[(cS h.k).1]
def IT{B:Nat}(w:V)(p:Nat)(ao:Option aB)(l:List UInt8)(cap n:Nat)(e:Int)(h:fg w p ao l.length cap e)(c:By B w ao l)(f:n≤l.length):
  ar M 127 #[.pointer (I ⟨p,0,J⟩),.int .i64 n] w (fun d w'=>∃a1 a2,d=.returned (.slice a1 n cap)∧Rd w' a1 (bX (l.take n))∧Hid (By B w' a2 (l.drop n))∧Hid (fg w' p a2 (l.drop n).length (cap-n) e)∧Hid (But p w w')):=by
 refine(Px w p ao l cap n e h c.rd f).mono ?_;rintro d w' ⟨a1,a2,rfl,g,i,a,rfl⟩;have q:=h.c;have hm:=h.m;refine⟨a1,a2,rfl,g.but h (But.set _ _ _ _),D ((By.mk i (fun b j k=>by obtain⟨b0,m,o⟩:=a b j;rw[o];exact c.lt b0 m (fun e=>k (by rw[e];simp)))).but h (But.set _ _ _ _)),D ?_,D (But.set _ _ _ _)⟩;rw[bh];exact h.set A A
def KO(B:Nat)(w:V)(p:Nat)(e:Int)(T:Nat×X)(b:Ending)(w':V):Prop:=
 But p w w'∧∃a2 L a,fg w' p a2 L a e∧
  ((∃v m,T=(v,.ok m)∧b=.returned (.int .i64 (ov v))∧L=m.length∧By B w' a2 m)∨(∃x,T.2=.err x∧b=.panicked (jL x)))
def qd{B:Nat}(w:V)(p:Nat)(ao:Option aB)(l:List UInt8)(cap:Nat)(e:Int)(h:fg w p ao l.length cap e)(S:By B w ao l):
  ar M 124 #[.pointer (I ⟨p,0,J⟩)] w (KO B w p e (num 0 O l)):=by
 obtain⟨T,E⟩:∃T,num 0 O l=T:=⟨_,rfl⟩;rw[E];have HT:=D E;have HH:=D h;have HR:=D S;clear E h S
 go_enter func124,ntmps124
 go_wp2
 go_loopw[3,4] (fun vu vf wr=>∃(u:Nat)(f:Bool)(m:List UInt8)(a2:Option aB)(c2:Nat),vu=.int .u64 u∧vf=.bool f∧Hid (num u f m=T)∧Hid (fg wr p a2 m.length c2 e)∧Hid (By B wr a2 m)∧Hid (But p w wr)) (fun _ _ wr=>tg wr p)
 case atStart=>exact⟨0,O,l,ao,cap,rfl,rfl,HT,HH,HR,D (But.refl _ _)⟩
 case round=>
  obtain⟨u,f,m,a2,c2,rfl,rfl,o,z,W,t⟩:=hrel;have b:=o.o
  cases m with
  | nil=>
   have X:T.2=.err 8:=by rw[←b];rfl
   have F:=D X;clear b X;go_wp2_with ((go_at_call 127;refine(F7 wr p a2 0 c2 1 e z.o A).mono ?_);rintro en q ⟨rfl,rfl⟩)
   exact⟨rfl,t.o,a2,0,c2,z.o,.inr ⟨8,F.o,rfl⟩⟩
  | cons c m=>
   have a0:c.toNat<256:=c.toNat_lt;go_upto_region 5 with((go_at_call 127;refine(IT wr p a2 (c::m) c2 1 e z.o W.o bW).mono ?_);rintro en q ⟨a1,a3,rfl,r1,H,k9,b9⟩;obtain⟨b1,rfl,q0⟩:=r1 0 (.int .u8 c.toNat) (by simp[bX]);have q1:q.cell? b1=I (.int .u8 c.toNat):=q0;clear r1 q0)
   by_cases a:(f=O∧c.toNat=128)∨144115188075855871<u
   ·have v:T.2=.err 10:=by rw[←b];unfold num;rw[if_pos a]
    have F:=D v;clear b v;have i:=D a;have fin:∀en K,en=AE (jL 10)→K=q→KO B w p e T en K:=fun en K r h2=>by subst h2;exact⟨t.o.trans b9.o,a3,_,_,k9.o,.inr ⟨10,F.o,r⟩⟩
    clear o t;by_cases x:144115188075855871<u
    ·have e2:decide ((144115188075855871:Int)<(u:Int))=O:=by simp;omega
     have HF:=D fin;clear fin x
     cases f with
     | false=>go_wp2;exact⟨rfl,HF.o _ _ rfl rfl⟩
     | true=>
      by_cases d:c.toNat=128
      ·have g:((c.toNat:Int)==128)=O:=by simp;omega
       clear d;go_wp2;exact⟨rfl,HF.o _ _ rfl rfl⟩
      ·have g:((c.toNat:Int)==128)=U:=by simp;omega
       clear d;go_wp2;exact⟨rfl,HF.o _ _ rfl rfl⟩
    ·have L:f=O∧c.toNat=128:=i.o.resolve_right x
     obtain⟨rfl,d⟩:=L;have g:((c.toNat:Int)==128)=O:=by simp;omega
     have HF:=D fin;clear fin x d i;go_wp2;exact⟨rfl,HF.o _ _ rfl rfl⟩
   ·have x:¬144115188075855871<u:=fun h=>a (.inr h)
    have e2:decide ((144115188075855871:Int)<(u:Int))=U:=by simp;omega
    have N:(u*128+c.toNat%128:Nat)<18446744073709551616:=by have:=fo c.toNat (show 0<128 by omega);omega
    obtain⟨f0,s⟩:∃f0,u*128+c.toNat%128=f0:=⟨_,rfl⟩;rw[s]at N
    have b0:bits BinOp.or IntKind.u64 (IntKind.u64.wrap ((u:Int)*128)) ((c.toNat:Int)%128)=(f0:Int):=by
     have P:IntKind.u64.wrap ((u:Int)*128)=(u:Int)*128:=by simp[IntKind.wrap,IntKind.bits,IntKind.signed];omega
     rw[P];have r:=bits_or_u64_nat (u*128) (c.toNat%128) A A;rw[MR u _ (fo _ A),s]at r;rw[←r];congr 1
    have y:num u f (c::m)=if c.toNat<128 then(f0,.ok m)else num f0 U m:=by
     rw[←s]
     conv=>lhs;unfold num
     rw[if_neg a]
    rw[y]at b;have HS:Hid (tg q p<tg wr p):=D (by rw[fg.tg k9.o,fg.tg z.o];simp);have Q:Hid (But p w q):=D (t.o.trans b9.o);have i:=D a;have HW:=D N;clear a x y o t W N;by_cases d:c.toNat<128
    ·rw[if_pos d]at b
     have e3:decide ((c.toNat:Int)<128)=O:=by simp;omega
     have g:f=O→((c.toNat:Int)==128)=U:=fun _=>by simpa using (show ¬ ((c.toNat:Int)=128)by omega)
     have fin:∀en,en=dC (.int .i64 (ov f0))→KO B w p e T en q:=fun en r=>⟨Q.o,a3,_,_,k9.o,.inl ⟨f0,m,b.symm,r,rfl,H.o⟩⟩
     have HF:=D fin;have n:ov f0=if f0%2=1 then -((f0/2:Nat):Int)-1 else((f0/2:Nat):Int):=rfl;have j:((f0:Int)/2)=((f0/2:Nat):Int):=A
     obtain⟨g0,R⟩:∃g0,f0/2=g0:=⟨_,rfl⟩;have c0:g0<9223372036854775808:=by have:=HW.o;omega
     rw[R]at n j;have k:bi ((f0:Int)/2)=(g0:Int):=by rw[j];exact ag _ ⟨by omega,by omega⟩
     have d0:bi (-(g0:Int))= -(g0:Int):=ag _ ⟨by omega,by omega⟩;have e0:bi (-(g0:Int)-1)= -(g0:Int)-1:=ag _ ⟨by omega,by omega⟩;by_cases C:f0%2=1
     ·have e4:((f0:Int)%2==1)=O:=by rw[show (f0:Int)%2=1 by omega];rfl
      rw[if_pos C]at n;rw[n]at HF;clear d b fin n C j R s
      cases f with
      | false=>go_wp2;go_ret;exact HF.o _ (by first | rfl | exact aZ k)
      | true=>have g:=g rfl;go_wp2;go_ret;exact HF.o _ (by first | rfl | exact aZ k)
     ·have e4:((f0:Int)%2==1)=U:=by rw[show (f0:Int)%2=0 by omega];rfl
      rw[if_neg C]at n;rw[n]at HF;clear d b fin n C j R s
      cases f with
      | false=>go_wp2;go_ret;exact HF.o _ (by first | rfl | exact aZ k)
      | true=>have g:=g rfl;go_wp2;go_ret;exact HF.o _ (by first | rfl | exact aZ k)
    ·rw[if_neg d]at b
     have e3:decide ((c.toNat:Int)<128)=U:=by simp;omega
     have o:=D b
     have g:f=O→((c.toNat:Int)==128)=U:=fun hf=>by
      have h5:¬ (f=O∧c.toNat=128):=fun h=>i.o (.inl h)
      have h6:¬ ((c.toNat:Int)=128):=fun h=>h5 ⟨hf,by omega⟩
      simpa using h6
     clear d b s
     cases f with
     | false=>
      go_wp2;go_round
      case rel=>exact⟨f0,U,m,a3,_,rfl,rfl,o,k9,H,Q⟩
      case measure=>exact HS.o
     | true=>
      have g:=g rfl;go_wp2;go_round
      case rel=>exact⟨f0,U,m,a3,_,rfl,rfl,o,k9,H,Q⟩
      case measure=>exact HS.o
def nF{l m:List UInt8}{v:Nat}(h:num 0 O l=(v,.ok m)):gZ l=if ov v<0∨65535<ov v then(0,.err 4)else((ov v).toNat,.ok m):=by
 unfold gZ;rw[h]
def pp{l:List UInt8}{x:Int}(h:(num 0 O l).2=.err x):gZ l=(0,.err x):=by
 unfold gZ;generalize num 0 O l=q at h⊢;obtain⟨v,y⟩:=q;simp only at h;subst h;rfl
def F8{B:Nat}(w:V)(p:Nat)(ao:Option aB)(l:List UInt8)(cap:Nat)(e:Int)(h:fg w p ao l.length cap e)(i:By B w ao l):
  ar M 128 #[.pointer (I ⟨p,0,J⟩)] w (fun j w'=>But p w w'∧∃a2 L a,fg w' p a2 L a e∧
   ((∃(n:Nat)(m:List UInt8),gZ l=(n,.ok m)∧j=.returned (.int .i64 n)∧L=m.length∧By B w' a2 m)∨(∃x,(gZ l).2=.err x∧j=.panicked (jL x)))):=by
 have y:=D h;have z:=D i;clear h i
 go_enter func128,ntmps128
 go_upto_region 2 with((go_at_call 124;refine(qd w p ao l cap e y.o z.o).mono ?_);rintro en f ⟨b9,a2,L,c2,k9,(⟨v,m,k,rfl,rfl,o⟩ | ⟨x,C,rfl⟩)⟩)
 ·have b:=nF k
  have q:=D k9;have E:=D o;have r:=D b9;clear k k9 o b9;obtain⟨s,t⟩:∃s,ov v=s:=⟨_,rfl⟩;rw[t]at b⊢;clear t;by_cases c:s<0∨65535<s
  ·rw[if_pos c]at b
   have g:=D b;clear b
   have fin:∀en,en=AE (jL 4)→But p w f∧∃a2 L a,fg f p a2 L a e∧
     ((∃(n:Nat)(m:List UInt8),gZ l=(n,.ok m)∧en=.returned (.int .i64 n)∧L=m.length∧By B f a2 m)∨(∃x,(gZ l).2=.err x∧en=.panicked (jL x))):=
    fun en F=>⟨r.o,_,_,_,q.o,.inr ⟨4,by rw[g.o],F⟩⟩
   have HF:=D fin;clear fin;by_cases d:s<0
   ·have u:decide (s<0)=O:=by simpa using d
    clear c d;go_wp2;exact⟨rfl,HF.o _ rfl⟩
   ·have u:decide (s<0)=U:=by simpa using d
    have H:decide (65535<s)=O:=by simpa using c.resolve_left d
    clear c d;go_wp2;exact⟨rfl,HF.o _ rfl⟩
  ·rw[if_neg c]at b
   have g:=D b;have u:decide (s<0)=U:=by simp;omega
   have H:decide (65535<s)=U:=by simp;omega
   have K:=D c;clear b c;go_wp2;go_ret;exact⟨r.o,_,_,_,q.o,.inl ⟨s.toNat,m,g.o,aZ (by have:=K.o;omega),rfl,E.o⟩⟩
 ·exact⟨rfl,b9,a2,L,c2,k9,.inr ⟨x,by rw[pp C],rfl⟩⟩
def nG(e x:Int):Int:=if e=0 then x else e
def F9(e:Int)(n:Nat):Int:=if e=0∧0<n then 9 else e
def fg.fail{w:V}{p:Nat}{ao:Option aB}{n cap:Nat}{e:Int}(h:fg w p ao n cap e)(x:Int):fg (w.setCell ⟨p,1,J⟩ (.int .i64 x)) p ao n cap x:=
 ⟨by simp[aV,aR,h.k],h.c,h.m⟩
def zF(w:V)(p:Nat)(ao:Option aB)(n cap:Nat)(e x:Int)(h:fg w p ao n cap e):
  ar M 80 #[.pointer (I ⟨p,0,J⟩),.int .i64 x] w (fun c w'=>c=.returned (.tuple #[])∧fg w' p ao n cap (nG e x)∧But p w w'):=by
 obtain⟨c0,c1,f0,f1,g⟩:=cS h.k;have b:=D h;clear h;by_cases a:e=0
 ·subst a
  have d:((0:Int)==0)=O:=rfl
  go_enter func80,ntmps80
  go_wp2
  go_end0
  exact⟨rfl,b.o.fail x,But.set _ _ _ _⟩
 ·have d:(e==0)=U:=by simpa using a
  have f:=D a;clear a
  go_enter func80,ntmps80
  go_wp2
  go_end0
  refine⟨rfl,?_,But.refl _ _⟩;rw[show nG e x=e from if_neg f.o];exact b.o
def IU(w:V)(p:Nat)(ao:Option aB)(n cap:Nat)(e:Int)(h:fg w p ao n cap e):
  ar M 82 #[.pointer (I ⟨p,0,J⟩)] w (fun d w'=>d=.returned (.int .i64 (F9 e n))∧w'=w):=by
 obtain⟨c0,c1,f0,f1,j⟩:=cS h.k;clear h;by_cases c:e=0
 ·subst c
  have f:((0:Int)==0)=O:=rfl;by_cases a:0<n
  ·have g:decide (0<n)=O:=by simpa using a
   have i:decide ((0:Int)<(n:Int))=O:=by simpa using a
   have b:Hid (F9 0 n=9):=D (if_pos ⟨rfl,a⟩);clear a
   go_enter func82,ntmps82
   go_wp2;go_ret;exact⟨aZ b.o.symm,rfl⟩
  ·have g:decide (0<n)=U:=by simpa using a
   have i:decide ((0:Int)<(n:Int))=U:=by simpa using a
   have b:Hid (F9 0 n=0):=D (if_neg (fun h=>a h.2));clear a
   go_enter func82,ntmps82
   go_wp2;go_ret;exact⟨aZ b.o.symm,rfl⟩
 ·have f:(e==0)=U:=by simpa using c
  have b:Hid (F9 e n=e):=D (if_neg (fun h=>c h.1));clear c
  go_enter func82,ntmps82
  go_wp2;go_ret;exact⟨aZ b.o.symm,rfl⟩
def ti(w:V)(p:Nat):ar M 123 #[.pointer (I ⟨p,0,J⟩),.nilIface] w (fun a w'=>a=.returned (.tuple #[])∧w'=w):=by
 go_enter func123,ntmps123
 go_wp2;refine bodyPost_ret (results_none rfl _ _ _) rfl ?_;exact⟨rfl,rfl⟩
def qH(w:V)(p:Nat)(ao:Option aB)(n cap:Nat)(e x:Int)(h:fg w p ao n cap e):
  ar M 123 #[.pointer (I ⟨p,0,J⟩),.iface 296 (.int .i64 x)] w (fun b w'=>b=.returned (.tuple #[])∧fg w' p ao n cap (nG e x)∧But p w w'):=by
 have c:=D h;clear h
 have d:∀(a:aN)(w:V),(eY (.iface 296 (.int .i64 x)) a 296 O).run M w=.ok (.tuple #[.int .i64 x,.bool O]) w:=by
  intro a w;simp[eY,eO underlying296]
 go_enter func123,ntmps123
 go_wp2_with ((go_at_call 80;refine(zF w p ao n cap e x c.o).mono ?_);rintro en f ⟨rfl,k9,b9⟩)
 go_end0
 exact⟨rfl,k9,b9⟩
def F_(ops:Array aH):Nat→Array Bool→List (List Nat)
 | 0,_=>[[]]
 | fuel+1,a=>match bj .any ops a with
  | []=>[[]]
  | i::b=>(i::b).flatMap fun i=>(F_ ops fuel (a.setIfInBounds i O)).map (i:: ·)
def go_mem(ops:Array aH):∀(b t:Nat)(a:Array Bool),d_ .any ops b t a []∈F_ ops b a:=by
 intro b
 induction b with
 | zero=>intro t a;simp[d_,F_]
 | succ b e=>
  intro t a;unfold F_;simp only[d_]
  change (match (bj .any ops a)[t%(bj .any ops a).length]? with
   | some i=>d_ .any ops b (t/(bj .any ops a).length) (a.setIfInBounds i O) [i]
   | none=>[].reverse)∈_
  cases f:bj .any ops a with
  | nil=>simp
  | cons x d=>
   have c:t%(x::d).length<(x::d).length:=fo _ bW;rw[List.getElem?_eq_getElem c];simp only;rw[linearise_go_acc,List.reverse_singleton,List.singleton_append,kU];exact⟨_,List.getElem_mem c,List.mem_map.mpr ⟨_,e _ _,rfl⟩⟩
def qe{P:aQ}{ops:Array aH}{Q:gD→Act→V→Prop}:∀(l:List Nat)(a:Act)(w:V),cH P ops Q (l.filterMap fun i=>ops[i]?) a w→wpOps P ops Q l a w
 | [],_,_,h=>h
 | i::l,a,w,h=>by
  cases b:ops[i]? with
  | none=>
   simp only[ee,b]at h;simp only[wpOps,b];exact qe l a w h
  | some o=>
   simp only[ee,b,cH]at h;simp only[wpOps,b]
   split
   ·rename_i c
    rw[if_pos c]at h;exact h.imp (Oper.wp_mono (fun a w d=>qe l a w d)) id
   ·rename_i c
    rw[if_neg c]at h;exact qe l _ _ h
def gJ{P:aQ}{id:Nat}{ops:Array aH}{Q:gD→Act→V→Prop}{a:Act}{w:V}(hm:P.follows .mixedOrders=O)(L:List (List Nat))(c:F_ ops ops.size (dP ops.size U)=L)
  (h:∀l,l∈L→cH P ops Q (l.filterMap fun i=>ops[i]?) a w.drew):(zB id ops O).wp P Q a w:=
 wp_region_draw fun t=>by
  have b:=go_mem ops ops.size t (dP ops.size U);rw[c]at b
  have d:nU (P.follows .mixedOrders) ops t=d_ .any ops ops.size t (dP ops.size U) []:=by
   simp only[nU,hm,Bool.true_or,if_true];rfl
  rw[d];exact qe _ _ _ (h _ b)
def kO{P:aQ}{id:Nat}{ops:Array aH}{Q:gD→Act→List j9→V→Prop}{a:Act}{cs:List j9}{w:V}(hm:P.follows .mixedOrders=O)(L:List (List Nat))(f:F_ ops ops.size (dP ops.size U)=L)
  (h:∀l,l∈L→np P ops Q l a cs w.drew):(zB id ops O).wpS P Q a cs w:=
 fun b k g i=>by
  have c:=go_mem ops ops.size (w.tape w.drawn (.order b.fn id)) (dP ops.size U)
  have j:nU (P.follows .mixedOrders) ops (w.tape w.drawn (.order b.fn id))=d_ .any ops ops.size (w.tape w.drawn (.order b.fn id)) (dP ops.size U) []:=by
   simp only[nU,hm,Bool.true_or,if_true];rfl
  obtain⟨e,m,d,n,q,r⟩:=wp_opsS _ a cs w.drew (h _ (f▸c)) b k g i;rw[←j]at r;exact⟨e,m,d,n,q,.of_steps (.one step_region_draw) r⟩
def Ci(w:V)(b p:Nat)(g:w.cell? ⟨b,0,J⟩=I (.pointer (I ⟨p,0,J⟩))):
  ot M 122 #[.pointer (I ⟨b,0,J⟩)] .returning w fun e d w'=>e=.returned (.tuple #[])∧d=.returning∧w'=w.drew:=by
 have f:w.drew.cell? ⟨b,0,J⟩=I (.pointer (I ⟨p,0,J⟩)):=g;refine ly func122 rfl fun c cs h=>?_
 refine kO rfl [[0,1,2],[1,0,2]] aj ?_;intro l i
 have fin:∀a:Act,a.defers=[]→jg M f122 c cs (fun e d w'=>e=dC (zu #[])∧d=oI∧w'=w.drew) .normal a (c::cs) w.drew:=by
  intro a j
  cases c
  simp_all[jg,results,results122]
 rcases(by simpa using i:l=[0,1,2]∨l=[1,0,2])with rfl | rfl
 all_goals
  simp[np,go_sem,od,h,f,ntmps122];refine(ti _ p).mono ?_;rintro e w' ⟨rfl,rfl⟩;exact fin _ rfl
def IV(w:V)(b p:Nat)(ao:Option aB)(n cap:Nat)(e x:Int)(k:w.cell? ⟨b,0,J⟩=I (.pointer (I ⟨p,0,J⟩)))(h:fg w p ao n cap e):
  ot M 122 #[.pointer (I ⟨b,0,J⟩)] (.panicking (jL x)) w fun f g w'=>f=.returned (.tuple #[])∧
   g=.panicking [{ v:=.iface 296 (.int .i64 x),recovered:=O }]∧fg w' p ao n cap (nG e x)∧But p w w':=by
 have i:w.drew.cell? ⟨b,0,J⟩=I (.pointer (I ⟨p,0,J⟩)):=k;have m:Hid (fg w.drew p ao n cap e):=D ⟨h.k,h.c,h.m⟩;clear h;refine ly func122 rfl fun c cs o=>?_
 refine kO rfl [[0,1,2],[1,0,2]] aj ?_;intro l q
 have fin:∀(a:Act)(c1:j9)(w':V),a.defers=[]→c1= { c with mode:=.panicking [{ v:=.iface 296 (.int .i64 x),recovered:=O }] } →fg w' p ao n cap (nG e x)→But p w.drew w'→jg M f122 c cs (fun f g w'=>f=.returned (.tuple #[])∧
   g=.panicking [{ v:=.iface 296 (.int .i64 x),recovered:=O }]∧fg w' p ao n cap (nG e x)∧But p w w') .normal a (c1::cs) w':=by
  intro a c1 w' r j s d;subst j;have t:But p w w':=⟨d.os,d.tape,d.output,d.size,d.block⟩;simp_all[jg,results,results122]
 rcases(by simpa using q:l=[0,1,2]∨l=[1,0,2])with rfl | rfl
 all_goals
  simp[np,go_sem,od,o,i,jL,ntmps122];refine(qH _ p ao n cap e x m.o).mono ?_;rintro f w' ⟨rfl,k9,b9⟩;exact fin _ _ _ rfl rfl k9 b9
def fy(B:Nat)(w:V)(p:Nat):X→Prop
 | .ok l=>∃ao cap,fg w p ao l.length cap 0∧By B w ao l
 | .err e=>e≠0∧∃ao n cap,fg w p ao n cap e
def fg.but{w w':V}{p b:Nat}{ao:Option aB}{n cap:Nat}{e:Int}(h:fg w p ao n cap e)(a:But b w w')(c:p≠b):fg w' p ao n cap e:=
 ⟨by rw[a.block p (br h.k).1 c];exact h.k,h.c,h.m⟩
def fg.lt{w:V}{p:Nat}{ao:Option aB}{n cap:Nat}{e:Int}(h:fg w p ao n cap e):p<w.heap.size:=(br h.k).1
def fy.lt{B:Nat}{w:V}{p:Nat}{x:X}(h:fy B w p x):p<w.heap.size:=by
 cases x with
 | ok l=>obtain⟨_,_,h,_⟩:=h;exact h.lt
 | err e=>obtain⟨_,_,_,_,h⟩:=h;exact h.lt
def fy.below{B:Nat}{w w':V}{p:Nat}{x:X}(h:fy B w p x)(b:ae w.heap.size w w'):fy B w' p x:=by
 cases x with
 | ok l=>
  obtain⟨ao,cap,a,c⟩:=h;refine⟨ao,cap,⟨by rw[b.block p a.lt];exact a.k,a.c,a.m⟩,⟨c.rd.keep b (G _),c.lt⟩⟩
 | err e=>
  obtain⟨d,ao,n,cap,a⟩:=h;exact⟨d,ao,n,cap,⟨by rw[b.block p a.lt];exact a.k,a.c,a.m⟩⟩
def fy.but{B:Nat}{w w':V}{p b:Nat}{x:X}(h:fy B w p x)(c:But b w w')(d:p≠b)(f:∀ao cap l,x=.ok l→fg w p ao l.length cap 0→By B w ao l→By B w' ao l):fy B w' p x:=by
 cases x with
 | ok l=>
  obtain⟨ao,cap,a,g⟩:=h;exact⟨ao,cap,a.but c d,f ao cap l rfl a g⟩
 | err e=>
  obtain⟨i,ao,n,cap,a⟩:=h;exact⟨i,ao,n,cap,a.but c d⟩
def But.cell{p:Nat}{w w':V}(h:But p w w'){a:aB}(b:a.block<w.heap.size)(c:a.block≠p):w'.cell? a=w.cell? a:=by
 unfold an;rw[h.block _ b c]
def pz{l m:List UInt8}{v:Nat}(h:num 0 O l=(v,.ok m)):aU (.ok l)=(ov v,.ok m):=by simp only[aU,h]
def mu{l:List UInt8}{y:Int}(h:(num 0 O l).2=.err y):aU (.ok l)=(0,.err y):=by
 have e:aU (.ok l)=(match num 0 O l with | (u,.ok l)=>(ov u,.ok l) | (_,x)=>(0,x)):=rfl;rw[e];generalize num 0 O l=q at h⊢;obtain⟨v,z⟩:=q;simp only at h;subst h;rfl
def G1{l:List UInt8}{y:Int}(h:(num 0 O l).2=.err y):y≠0:=by
 obtain⟨v,a⟩:∃v,num 0 O l=(v,.err y):=⟨_,by rw[←h]⟩;rcases IS l 0 O v y a with rfl | rfl<;>decide
def But.alloc(p:Nat)(w:V)(o:Obj):But p w (w.alloc o):=.of_below ((aD _ _).alloc (G _) _)
def But.drew{p:Nat}{a w:V}(h:But p a w):But p a w.drew:=⟨h.os,h.tape,h.output,h.size,h.block⟩
def Cj{B:Nat}(w:V)(p:Nat)(x:X)(h:fy B w p x):
  ar M 63 #[.pointer (I ⟨p,0,J⟩)] w (fun o w'=>o=.returned (.int .i64 (aU x).1)∧fy B w' p (aU x).2∧But p w w'):=by
 have T:∀(fn:Fn)(first cap:Array Z)(w:V),(dn fn first cap).run M w=.ok (.func fn first cap) w:=fun _ _ _ _=>rfl
 obtain⟨W,g,q,r,s⟩:∃W,w.alloc (.cells #[.pointer (I ⟨p,0,J⟩)] 156)=W∧W.cell? ⟨w.heap.size,0,J⟩=I (.pointer (I ⟨p,0,J⟩))∧But p w W∧W.heap.size=w.heap.size+1:=
  ⟨_,rfl,by simp[go_sem],.alloc _ _ _,by simp⟩
 have E:=D g;have t:=D r
 cases x with
 | err e=>
  obtain⟨u,ao,n,cap,a⟩:=h;have c:=a.lt;have k2:fg W p ao n cap e:=a.but (b:=w.heap.size) (.of_below (by rw[←g];exact(aD _ _).alloc (G _) _)) A;obtain⟨c0,c1,f0,f1,hp⟩:=cS k2.k;have e1:(e==0)=U:=by simpa using u
  have z:=D k2;have H0:=D u;clear u a k2 r s
  go_enter_defers func63,ntmps63
  clear g;go_upto_region 1 with fail
  rw[E.o];go_wp2;refine fx (f:= 122) (args:= #[.pointer (I ⟨w.heap.size,0,J⟩)]) bW kN ?_;refine(Ci W w.heap.size p q).mono ?_;rintro o F w' ⟨rfl,rfl,rfl⟩;have C:=z.o;simp[jQ,oo,results,results63,go_sem];exact⟨rfl,⟨H0.o,ao,n,cap,C.k,C.c,C.m⟩,t.o.drew⟩
 | ok l=>
  obtain⟨ao,cap,a,H⟩:=h;have c:=a.lt;have i:But w.heap.size w W:=.of_below (by rw[←g];exact(aD _ _).alloc (G _) _);have k2:fg W p ao l.length cap 0:=a.but i A;have K:By B W ao l:=by rw[←g];exact H.alloc _
  obtain⟨c0,c1,f0,f1,hp⟩:=cS k2.k;have e1:((0:Int)==0)=O:=rfl;have z:=D k2;have HR:=D K;have N:=D s;have P:=D c;clear a H k2 r s g i K c
  go_enter_defers func63,ntmps63
  go_upto_region 1 with fail
  rw[E.o];go_upto_region 5 with((go_at_call 124;refine(qd W p ao l cap 0 z.o HR.o).mono ?_);rintro en j ⟨b9,a2,L,c2,k9,(⟨v,m,Q,rfl,rfl,R⟩ | ⟨y,S,rfl⟩)⟩)
  ·have d:j.cell? ⟨w.heap.size,0,J⟩=I (.pointer (I ⟨p,0,J⟩)):=by
    rw[b9.cell (by have:=N.o;simp only;omega) (by have:=P.o;simp only;omega)];exact q
   have k:=pz Q;have B9:Hid (But p w j):=D (t.o.trans b9);have HT:=D k;clear Q k b9;go_wp2;refine fx (f:= 122) (args:= #[.pointer (I ⟨w.heap.size,0,J⟩)]) bW kN ?_;refine(Ci j w.heap.size p d).mono ?_;rintro o F w' ⟨rfl,rfl,rfl⟩;rw[HT.o];simp[jQ,oo,results,results63,go_sem];exact⟨⟨a2,c2,⟨k9.k,k9.c,k9.m⟩,⟨R.rd,R.lt⟩⟩,B9.o.drew⟩
  ·have d:j.cell? ⟨w.heap.size,0,J⟩=I (.pointer (I ⟨p,0,J⟩)):=by
    rw[b9.cell (by have:=N.o;simp only;omega) (by have:=P.o;simp only;omega)];exact q
   refine fx (f:= 122) (args:= #[.pointer (I ⟨w.heap.size,0,J⟩)]) bW kN ?_;refine(IV j w.heap.size p a2 L c2 0 y d k9).mono ?_;rintro o F w' ⟨rfl,rfl,k10,b10⟩;rw[mu S];simp[jQ,oo,results,results63,go_sem];exact⟨⟨G1 S,a2,L,c2,k10⟩,(t.o.trans b9).trans b10⟩
def AM(w:V)(b p:Nat)(g:w.cell? ⟨b,0,J⟩=I (.pointer (I ⟨p,0,J⟩))):
  ot M 126 #[.pointer (I ⟨b,0,J⟩)] .returning w fun e d w'=>e=.returned (.tuple #[])∧d=.returning∧w'=w.drew:=by
 have f:w.drew.cell? ⟨b,0,J⟩=I (.pointer (I ⟨p,0,J⟩)):=g;refine ly func126 rfl fun c cs h=>?_
 refine kO rfl [[0,1,2],[1,0,2]] aj ?_;intro l i
 have fin:∀a:Act,a.defers=[]→jg M f126 c cs (fun e d w'=>e=dC (zu #[])∧d=oI∧w'=w.drew) .normal a (c::cs) w.drew:=by
  intro a j
  cases c
  simp_all[jg,results,results126]
 rcases(by simpa using i:l=[0,1,2]∨l=[1,0,2])with rfl | rfl
 all_goals
  simp[np,go_sem,od,h,f,ntmps126];refine(ti _ p).mono ?_;rintro e w' ⟨rfl,rfl⟩;exact fin _ rfl
def yh(w:V)(b p:Nat)(ao:Option aB)(n cap:Nat)(e x:Int)(k:w.cell? ⟨b,0,J⟩=I (.pointer (I ⟨p,0,J⟩)))(h:fg w p ao n cap e):
  ot M 126 #[.pointer (I ⟨b,0,J⟩)] (.panicking (jL x)) w fun f g w'=>f=.returned (.tuple #[])∧
   g=.panicking [{ v:=.iface 296 (.int .i64 x),recovered:=O }]∧fg w' p ao n cap (nG e x)∧But p w w':=by
 have i:w.drew.cell? ⟨b,0,J⟩=I (.pointer (I ⟨p,0,J⟩)):=k;have m:Hid (fg w.drew p ao n cap e):=D ⟨h.k,h.c,h.m⟩;clear h;refine ly func126 rfl fun c cs o=>?_
 refine kO rfl [[0,1,2],[1,0,2]] aj ?_;intro l q
 have fin:∀(a:Act)(c1:j9)(w':V),a.defers=[]→c1= { c with mode:=.panicking [{ v:=.iface 296 (.int .i64 x),recovered:=O }] } →fg w' p ao n cap (nG e x)→But p w.drew w'→jg M f126 c cs (fun f g w'=>f=.returned (.tuple #[])∧
   g=.panicking [{ v:=.iface 296 (.int .i64 x),recovered:=O }]∧fg w' p ao n cap (nG e x)∧But p w w') .normal a (c1::cs) w':=by
  intro a c1 w' r j s d;subst j;have t:But p w w':=⟨d.os,d.tape,d.output,d.size,d.block⟩;simp_all[jg,results,results126]
 rcases(by simpa using q:l=[0,1,2]∨l=[1,0,2])with rfl | rfl
 all_goals
  simp[np,go_sem,od,o,i,jL,ntmps126];refine(qH _ p ao n cap e x m.o).mono ?_;rintro f w' ⟨rfl,k9,b9⟩;exact fin _ _ _ rfl rfl k9 b9
def Ck{B:Nat}(w:V)(p:Nat)(ao:Option aB)(l:List UInt8)(cap:Nat)(e:Int)(h:fg w p ao l.length cap e)(g:By B w ao l)(n:Nat)(m:List UInt8)(c:gZ l=(n,.ok m)):
  ar M 128 #[.pointer (I ⟨p,0,J⟩)] w (fun d w'=>∃a2 a,d=.returned (.int .i64 n)∧Hid (fg w' p a2 m.length a e)∧Hid (By B w' a2 m)∧Hid (But p w w')):=by
 refine(F8 w p ao l cap e h g).mono ?_;rintro d w' ⟨b9,a2,L,c2,k9,(⟨j,k,b,rfl,rfl,i⟩ | ⟨x,f,rfl⟩)⟩
 ·rw[c]at b
  simp only[eP,X.ok.injEq]at b;obtain⟨rfl,rfl⟩:=b;exact⟨a2,c2,rfl,k9,i,b9⟩
 ·rw[c]at f;cases f
def Ga{B:Nat}(w:V)(p:Nat)(ao:Option aB)(l:List UInt8)(cap:Nat)(e:Int)(h:fg w p ao l.length cap e)(f:By B w ao l)(y:Int)(c:(gZ l).2=.err y):
  ar M 128 #[.pointer (I ⟨p,0,J⟩)] w (fun d w'=>∃a2 L a,d=.panicked (jL y)∧Hid (fg w' p a2 L a e)∧Hid (But p w w')):=by
 refine(F8 w p ao l cap e h f).mono ?_;rintro d w' ⟨b9,a2,L,c2,k9,(⟨i,j,g,rfl,rfl,k⟩ | ⟨x,b,rfl⟩)⟩
 ·rw[g]at c;cases c
 ·rw[c]at b
  injection b with b;subst b;exact⟨a2,L,c2,rfl,k9,b9⟩
def IW{l:List UInt8}{y:Int}(h:(gZ l).2=.err y):y≠0:=by
 cases a:num 0 O l with
 | mk v z=>
  cases z with
  | ok m=>
   rw[nF a]at h
   split at h
   ·injection h with h;subst h;decide
   ·cases h
  | err e=>
   have b:(num 0 O l).2=.err e:=by rw[a]
   rw[pp b]at h;injection h with h;subst h;exact G1 b
def zG{l m:List UInt8}{n:Nat}(h:gZ l=(n,.ok m)):fY (.ok l)=if m.length<n then([],.err 8)else(m.take n,.ok (m.drop n)):=by simp only[fY,h]
def Cm{l:List UInt8}{y:Int}(h:(gZ l).2=.err y):fY (.ok l)=([],.err y):=by
 have e:fY (.ok l)=(match gZ l with | (n,.ok l)=>if l.length<n then([],.err 8)else(l.take n,.ok (l.drop n)) | (_,x)=>([],x)):=rfl;rw[e];generalize gZ l=q at h⊢;obtain⟨v,z⟩:=q;simp only at h;subst h;rfl
def Gb:∀(bs:List UInt8)(r:ByteArray),((bs.map fun b=>(b.toNat:Int)).foldl (fun (r:ByteArray) n=>r.push (UInt8.ofNat n.toNat)) r)=⟨⟨r.data.toList++bs⟩⟩
 | [],r=>by simp
 | b::bs,r=>by
  simp only[List.map_cons,List.foldl_cons];rw[Gb bs];simp[ByteArray.push]
def run_text(w:V)(ao:Option aB)(l:List UInt8)(n cap:Nat)(g:Rd w ao (bX l))(i:n=l.length):
  (convert 33 9 (.slice ao n cap)).run M w=.ok (.string ⟨⟨l⟩⟩) w:=by
 subst i;rw[run_convert_bytes_string w _ _ 5 ao _ _ underlying33 underlying5 underlying9]
 cases l with
 | nil=>
  cases ao with
  | none=>simp[Conv.bytesToString];rfl
  | some a=>
   have d:=eu (P:= M) (w:=w) a [] bW;have:=pV (P:= M) w a 0 cap [] (by simpa using d);simp only[List.length_nil,List.map_nil,List.foldl_nil]at this⊢;exact this
 | cons c l=>
  obtain⟨a,rfl,_⟩:=g 0 (.int .u8 c.toNat) (by simp[bX]);have d:=eu (P:= M) (w:=w) a (bX (c::l)) (fun j v k=>by obtain⟨m,f,h⟩:=g j v k;injection f with f;subst f;exact h)
  have:=pV (P:= M) w a (c::l).length cap ((c::l).map fun b=>(b.toNat:Int)) (by
   have e:bX (c::l)=((c::l).map fun b=>(b.toNat:Int)).map (gV .u8):=by simp[bX]
   rw[←e,←ld];exact d)
  rw[this,Gb];rfl
def NC{B:Nat}(w:V)(p:Nat)(x:X)(h:fy B w p x):
  ar M 68 #[.pointer (I ⟨p,0,J⟩)] w (fun u w'=>u=.returned (.string ⟨⟨(fY x).1⟩⟩)∧fy B w' p (fY x).2∧But p w w'):=by
 have d0:∀(fn:Fn)(first cap:Array Z)(w:V),(dn fn first cap).run M w=.ok (.func fn first cap) w:=fun _ _ _ _=>rfl
 obtain⟨W,s,hc,N,P⟩:∃W,w.alloc (.cells #[.pointer (I ⟨p,0,J⟩)] 156)=W∧W.cell? ⟨w.heap.size,0,J⟩=I (.pointer (I ⟨p,0,J⟩))∧But p w W∧W.heap.size=w.heap.size+1:=
  ⟨_,rfl,by simp[go_sem],.alloc _ _ _,by simp⟩
 have HW:=D s;have E:=D N
 cases x with
 | err e=>
  obtain⟨Q,ao,n,cap,j⟩:=h;have k:=j.lt;have k2:fg W p ao n cap e:=j.but (b:=w.heap.size) (.of_below (by rw[←s];exact(aD _ _).alloc (G _) _)) A;obtain⟨c0,c1,f0,f1,hp⟩:=cS k2.k;have e1:(e==0)=U:=by simpa using Q
  have v:=D k2;have H0:=D Q;clear Q j k2 N P s
  go_enter_defers func68,ntmps68
  go_upto_region 1 with fail
  rw[HW.o];go_wp2;refine fx (f:= 126) (args:= #[.pointer (I ⟨w.heap.size,0,J⟩)]) bW kN ?_;refine(AM W w.heap.size p hc).mono ?_;rintro u R w' ⟨rfl,rfl,rfl⟩;have S:=v.o;simp[jQ,oo,results,results68,go_sem];exact⟨rfl,⟨H0.o,ao,n,cap,S.k,S.c,S.m⟩,E.o.drew⟩
 | ok l=>
  obtain⟨ao,cap,j,h2⟩:=h;have k:=j.lt;have C:But w.heap.size w W:=.of_below (by rw[←s];exact(aD _ _).alloc (G _) _);have k2:fg W p ao l.length cap 0:=j.but C A;have T:By B W ao l:=by rw[←s];exact h2.alloc _
  obtain⟨c0,c1,f0,f1,hp⟩:=cS k2.k;have e1:((0:Int)==0)=O:=rfl;have v:Hid (fg W.drew p ao l.length cap 0):=D ⟨k2.k,k2.c,k2.m⟩;have HR:Hid (By B W.drew ao l):=D ⟨T.rd,T.lt⟩;have HZ:=D P;have HL:=D k;have a0:W.drew.cell? ⟨w.heap.size,0,J⟩=I (.pointer (I ⟨p,0,J⟩)):=hc
  have F:Hid (∀g,But p W.drew g→g.cell? ⟨w.heap.size,0,J⟩=I (.pointer (I ⟨p,0,J⟩))):=D (fun g b9=>by
   rw[b9.cell (by show w.heap.size<W.heap.size;omega) (by show w.heap.size≠p;omega)];exact a0)
  clear j h2 k2 N P s C T k
  go_enter_defers func68,ntmps68
  go_upto_region 1 with fail
  rw[HW.o]
  cases i:gZ l with
  | mk n z=>
   cases z with
   | err y=>
    have a:(gZ l).2=.err y:=by rw[i]
    have o:=D a;clear i a;go_upto_region 3 with fail
    refine gJ aj [[0,1,2,3,4,5],[1,0,2,3,4,5],[1,2,0,3,4,5]] aj ?_;intro lo c;rcases(by simpa using c:lo=[0,1,2,3,4,5]∨lo=[1,0,2,3,4,5]∨lo=[1,2,0,3,4,5])with rfl | rfl | rfl
    all_goals (simp only[ee,List.filterMap_nil,List.getElem?_toArray,bQ,List.getElem?_cons_succ];change cH _ _ _ [_,_,_,_,_,_] _ _)
    all_goals
     go_wp2_with ((go_at_call 128;refine(Ga W.drew p ao l cap 0 v.o HR.o y o.o).mono ?_);rintro en g ⟨a2,L,c2,rfl,k9,b9⟩;have H:=F.o g b9.o)
     refine fx (f:= 126) (args:= #[.pointer (I ⟨w.heap.size,0,J⟩)]) bW kN ?_;refine(yh g w.heap.size p a2 L c2 0 y H k9.o).mono ?_;rintro u R w' ⟨rfl,rfl,k10,b10⟩;rw[Cm o.o];simp[jQ,oo,results,results68,go_sem];exact⟨⟨IW o.o,a2,L,c2,k10⟩,(E.o.drew.trans b9.o).trans b10⟩
   | ok m=>
    by_cases t:m.length<n
    ·have a:fY (.ok l)=([],.err 8):=by rw[zG i,if_pos t]
     have q:=D a;have o:=D i;have K:=D t;clear i a t;go_upto_region 3 with fail
     refine gJ aj [[0,1,2,3,4,5],[1,0,2,3,4,5],[1,2,0,3,4,5]] aj ?_;intro lo c;rcases(by simpa using c:lo=[0,1,2,3,4,5]∨lo=[1,0,2,3,4,5]∨lo=[1,2,0,3,4,5])with rfl | rfl | rfl
     all_goals (simp only[ee,List.filterMap_nil,List.getElem?_toArray,bQ,List.getElem?_cons_succ];change cH _ _ _ [_,_,_,_,_,_] _ _)
     all_goals
      go_wp2_with (first
       | ((go_at_call 128;refine(Ck W.drew p ao l cap 0 v.o HR.o n m o.o).mono ?_);rintro en g ⟨a2,c2,rfl,k9,r9,b9⟩;have H:=F.o g b9.o)
       | ((go_at_call 127;refine(F7 _ p _ m.length _ n 0 k9.o K.o).mono ?_);rintro en d ⟨rfl,rfl⟩))
      refine fx (f:= 126) (args:= #[.pointer (I ⟨w.heap.size,0,J⟩)]) bW kN ?_;refine(yh _ w.heap.size p a2 m.length c2 0 8 H k9.o).mono ?_;rintro u R w' ⟨rfl,rfl,k10,b10⟩;rw[q.o];simp[jQ,oo,results,results68,go_sem];exact⟨⟨by decide,a2,_,c2,k10⟩,(E.o.drew.trans b9.o).trans b10⟩
    ·have a:fY (.ok l)=(m.take n,.ok (m.drop n)):=by rw[zG i,if_neg t]
     have q:=D a;have o:=D i;have K:=D (Nat.le_of_not_lt t);clear i a t;go_upto_region 3 with fail
     refine gJ aj [[0,1,2,3,4,5],[1,0,2,3,4,5],[1,2,0,3,4,5]] aj ?_;intro lo c;rcases(by simpa using c:lo=[0,1,2,3,4,5]∨lo=[1,0,2,3,4,5]∨lo=[1,2,0,3,4,5])with rfl | rfl | rfl
     all_goals (simp only[ee,List.filterMap_nil,List.getElem?_toArray,bQ,List.getElem?_cons_succ];change cH _ _ _ [_,_,_,_,_,_] _ _)
     all_goals
      go_wp2_with (first
       | ((go_at_call 128;refine(Ck W.drew p ao l cap 0 v.o HR.o n m o.o).mono ?_);rintro en g ⟨a2,c2,rfl,k9,r9,b9⟩;have H:=F.o g b9.o)
       | ((go_at_call 127;refine(IT _ p a2 m c2 n 0 k9.o r9.o K.o).mono ?_);rintro en d ⟨a3,a4,rfl,r3,r4,k10,b10⟩;have e0:=run_text d a3 (m.take n) n c2 r3 (by rw[bN];have:=K.o;omega)))
      have b0:d.cell? ⟨w.heap.size,0,J⟩=I (.pointer (I ⟨p,0,J⟩)):=F.o d (b9.o.trans b10.o);refine fx (f:= 126) (args:= #[.pointer (I ⟨w.heap.size,0,J⟩)]) bW kN ?_;refine(AM d w.heap.size p b0).mono ?_;rintro u R w' ⟨rfl,rfl,rfl⟩;rw[q.o];have r:=k10.o;simp[jQ,oo,results,results68,go_sem];exact⟨⟨a4,_,⟨r.k,r.c,r.m⟩,⟨r4.o.rd,r4.o.lt⟩⟩,((E.o.drew.trans b9.o).trans b10.o).drew⟩
def BB(l:List Int):∀u∈fL l,u.oneCell'=O:=by intro u a;simp only[fL,List.mem_map]at a;obtain⟨n,_,rfl⟩:=a;rfl
def Cn(a b:List Int):fL (a++b)=fL a++fL b:=by simp[fL]
def Ss:(prog.info? 3).map (fun i=>(i.zero,i.size,i.bytes))=I (I (.int .i64 0),1,8):=aj
def Co{w:V}{ops:Array aH}{rest:List aH}{o:aH}{a:Act}{Q:gD→Act→V→Prop}(f:o.guard=J)(s x:aP)
  (q:o.op=.call { callee:=.builtin .append,args:= #[s,x],argTypes:= #[36,36] })
  (base:Nat) (v:Z) (n:Nat) (l:List Int) (r:a.eval s=v) (e:w.ownsRow base 3 1 v n (fL l))
  (ao:Option aB) (m c:Nat) (p:List Int) (t:a.eval x=.slice ao m c) (hm:p.length=m) (b:Rd w ao (fL p))
  (B:n+m<1000000000) (d:base≤w.heap.size)
  (h:∀v' w',w'.ownsRow base 3 1 v' (n+m) (fL (l++p))→w.grownBy w' v.ownBlock→(v'.ownBlock=v.ownBlock∨v'.ownBlock=I w.heap.size)→cH M ops Q rest (a.put o.dst v') w'):cH M ops Q (o::rest) a w:=by
 obtain⟨i,hi,g,j,k⟩:=info_parts Ss;refine hY f s x 36 q base 3 i _ 1 8 underlying36 hi g j k rfl aC v n _ r e ao m c (fL p) t (by simp[fL,hm]) b (BB p) (by unfold gC;omega) A d ?_;intro v' w' u y z;exact h v' w' (by rw[Cn];exact u) y z
def zH{w w':V}{p base:Nat}{e:aN}{E:Nat}{v:Z}{n:Nat}{b:List Z}(h:w.ownsRow base e E v n b)(d:But p w w')(k:p<base):w'.ownsRow base e E v n b:=by
 obtain⟨f,i⟩:=h;refine⟨f,i.imp id ?_⟩;rintro⟨g,cap,a,rfl,j,c,r⟩;exact⟨g,cap,a,rfl,j,by rw[d.block g (br c).1 A];exact c,r⟩
def pq{w:V}{base:Nat}{e:aN}{E:Nat}{v:Z}{n:Nat}{c:List Z}(h:w.ownsRow base e E v n c)(p:aB)(k:p.block<base)(u:Z):(w.setCell p u).ownsRow base e E v n c:=by
 obtain⟨d,a⟩:=h;refine⟨d,?_⟩;rcases a with a | ⟨g,cap,b,f,i,j,r⟩
 ·exact .inl a
 ·refine .inr ⟨g,cap,b,f,i,?_,r⟩
  have:(w.setCell p u).heap[g]?=w.heap[g]? :=by simp[aV,aR];omega
  rw[this];exact j
def But.then{p C:Nat}{a b c:V}(h:But p a b)(k:ae C b c)(e:a.heap.size≤C):But p a c:=
 ⟨k.os.trans h.os,k.tape.trans h.tape,k.output.trans h.output,aa h.size k.size,fun i hi d=>(k.block i A).trans (h.block i hi d)⟩
def fg.keep{w w':V}{p C:Nat}{ao:Option aB}{n cap:Nat}{e:Int}(h:fg w p ao n cap e)(a:ae C w w')(b:p<C):fg w' p ao n cap e:=
 ⟨by rw[a.block p b];exact h.k,h.c,h.m⟩
def AN(w:V)(b b2 p:Nat)(f:w.cell? ⟨b,0,J⟩=I (.pointer (I ⟨p,0,J⟩))):
  ot M 267 #[.pointer (I ⟨b2,0,J⟩),.pointer (I ⟨b,0,J⟩)] .returning w fun e d w'=>e=.returned (.tuple #[])∧d=.returning∧w'=w:=by
 refine ly func267 rfl fun c cs g=>?_
 have fin:∀a:Act,a.defers=[]→jg M f267 c cs (fun e d w'=>e=dC (zu #[])∧d=oI∧w'=w) .normal a (c::cs) w:=by
  intro a h
  cases c
  simp_all[jg,results,results267]
 apply u_;apply mH;simp[np,go_sem,od,g,ntmps267,qD];apply u_;apply u_;apply mH;simp[np,go_sem,qD];refine wpS_cond (t:=U) (by simp[Act.eval,dP]) ?_;simp only[Bool.false_eq_true,if_false];refine wpS_of_wp (wp_skip ?_);show Code.wpS _ _ _ _ _ _;apply mH;simp[np,go_sem,f];refine(ti _ p).mono ?_;rintro e w' ⟨rfl,rfl⟩;exact fin _ rfl
def yi(w:V)(b b2 p:Nat)(ao:Option aB)(n cap:Nat)(e x:Int)(v:Z)(j:w.cell? ⟨b,0,J⟩=I (.pointer (I ⟨p,0,J⟩)))(h:fg w p ao n cap e)
  (l:w.heap[b2]?=I (.cells #[v] 36 (0,0))) (m:b≠b2) (i:p≠b2):
  ot M 267 #[.pointer (I ⟨b2,0,J⟩),.pointer (I ⟨b,0,J⟩)] (.panicking (jL x)) w fun k o w'=>k=.returned (.tuple #[])∧
   o=.panicking [{ v:=.iface 296 (.int .i64 x),recovered:=O }]∧fg w' p ao n cap (nG e x)∧But p (w.setCell ⟨b2,0,J⟩ (.slice J 0 0)) w':=by
 have c2:w.cell? ⟨b2,0,J⟩=I v:=by simp[an,l]
 have f2:w.frozen? ⟨b2,0,J⟩=U:=by simp[fJ,l]
 obtain⟨g,c⟩:∃g,w.setCell ⟨b2,0,J⟩ (.slice J 0 0)=g:=⟨_,rfl⟩
 have f:g.cell? ⟨b,0,J⟩=I (.pointer (I ⟨p,0,J⟩)):=by
  rw[←c,(But.set b2 0 w (.slice J 0 0)).cell (by unfold an at j;split at j<;>first | (rename_i q;exact(br q).1) | cases j) m];exact j
 have r:Hid (fg g p ao n cap e):=D (by rw[←c];exact h.but (But.set b2 0 w _) i);rw[c];have s:=D c;clear h c;refine ly func267 rfl fun d cs u=>?_
 have fin:∀(a:Act)(c1:j9)(w':V),a.defers=[]→c1= { d with mode:=.panicking [{ v:=.iface 296 (.int .i64 x),recovered:=O }] } →fg w' p ao n cap (nG e x)→But p g w'→jg M f267 d cs (fun k o w'=>k=.returned (.tuple #[])∧
   o=.panicking [{ v:=.iface 296 (.int .i64 x),recovered:=O }]∧fg w' p ao n cap (nG e x)∧But p g w') .normal a (c1::cs) w':=by
  intro a c1 w' y f z l;subst f;simp_all[jg,results,results267]
 apply u_;apply mH;simp[np,go_sem,od,u,jL,ntmps267,qD];apply u_;apply u_;apply mH;simp[np,go_sem,qD];refine wpS_cond (t:=O) (by simp[Act.eval,dP]) ?_;simp only[if_true];apply mH;simp[np,go_sem,c2,f2,qD];rw[s.o];apply mH;simp[np,go_sem,f];refine(qH _ p ao n cap e x r.o).mono ?_;rintro k w' ⟨rfl,k9,b9⟩;exact fin _ _ _ rfl rfl k9 b9
def KP{B:Nat}(w:V)(p:Nat)(ao:Option aB)(l:List UInt8)(cap:Nat)(e:Int)(h:fg w p ao l.length cap e)(g:By B w ao l)(u:Nat)(m:List UInt8)(c:num 0 O l=(u,.ok m)):
  ar M 124 #[.pointer (I ⟨p,0,J⟩)] w (fun d w'=>∃a2 a,d=.returned (.int .i64 (ov u))∧Hid (fg w' p a2 m.length a e)∧Hid (By B w' a2 m)∧Hid (But p w w')):=by
 refine(qd w p ao l cap e h g).mono ?_;rintro d w' ⟨b9,a2,L,c2,k9,(⟨v,j,b,rfl,rfl,i⟩ | ⟨x,f,rfl⟩)⟩
 ·rw[c]at b
  simp only[eP,X.ok.injEq]at b;obtain⟨rfl,rfl⟩:=b;exact⟨a2,c2,rfl,k9,i,b9⟩
 ·rw[c]at f;cases f
def IX{B:Nat}(w:V)(p:Nat)(ao:Option aB)(l:List UInt8)(cap:Nat)(e:Int)(h:fg w p ao l.length cap e)(f:By B w ao l)(y:Int)(c:(num 0 O l).2=.err y):
  ar M 124 #[.pointer (I ⟨p,0,J⟩)] w (fun d w'=>∃a2 L a,d=.panicked (jL y)∧Hid (fg w' p a2 L a e)∧Hid (But p w w')):=by
 refine(qd w p ao l cap e h f).mono ?_;rintro d w' ⟨b9,a2,L,c2,k9,(⟨i,j,g,rfl,rfl,k⟩ | ⟨x,b,rfl⟩)⟩
 ·rw[g]at c;cases c
 ·rw[c]at b
  injection b with b;subst b;exact⟨a2,L,c2,rfl,k9,b9⟩
def ce(w:V)(o a:Obj):((w.alloc o).alloc a).heap[w.heap.size]?=I o:=by
 rw[ed _ _ _ bW];show(w.heap.push o)[w.heap.size]?=I o;simp
def bO(w:V)(o a:Obj):((w.alloc o).alloc a).heap[w.heap.size+1]?=I a:=by
 show((w.heap.push o).push a)[w.heap.size+1]?=I a;rw[Array.getElem?_push,if_pos bW]
def pA(B:Nat)(w:V)(p:Nat)(x:X)(a:Ending)(w':V):Prop:=
 ∃v,a=.returned v∧w'.ownsRow w.heap.size 3 1 v (du x).1.length (fL (du x).1)∧fy B w' p (du x).2∧But p w w'
def But.dQ{p:Nat}{w w':V}(h:But p w w'){b:Nat}{o:Obj}(a:w.heap[b]?=I o)(c:b≠p):w'.heap[b]?=I o:=by
 rw[h.block b (br a).1 c];exact a
def But.IY{p:Nat}{w w':V}(h:But p w.drew w'):But p w w':=⟨h.os,h.tape,h.output,h.size,h.block⟩
def MS(w:V)(b:Nat)(c:w.heap.size=b)(x:Int):Rd (w.alloc (.cells #[.int .i64 x] 3)) (I ⟨b,0,J⟩) (fL [x]):=by
 subst c;intro j u a
 match j,a with
 | 0,a=>exact⟨_,rfl,by simp[fL]at a;subst a;simp[go_sem,j7]⟩
 | j+1,a=>simp[fL]at a
def one_cell{w:V}{b:Nat}{v:Z}{t:aN}(h:w.heap[b]?=I (.cells #[v] t (0,0))):w.cell? ⟨b,0,J⟩=I v∧w.frozen? ⟨b,0,J⟩=U∧b<w.heap.size:=
 ⟨by simp[an,h],by simp[fJ,h],(br h).1⟩
def one_set{w:V}{b:Nat}{v:Z}{t:aN}(h:w.heap[b]?=I (.cells #[v] t (0,0)))(u:Z):(w.setCell ⟨b,0,J⟩ u).heap[b]?=I (.cells #[u] t (0,0)):=by
 simp[aV,aR,h]
def But.own{p b:Nat}{w w':V}(h:But p w w')(d:w.heap.size≤b)(o:Nat)(v:Z):But p w (w'.setCell ⟨b,o,J⟩ v):=
 ⟨h.os,h.tape,h.output,by simpa[aV]using h.size,fun k a c=>by rw[bC _ _ _ _ (by show k≠b;omega)];exact h.block k a c⟩
def bA{i n:Nat}(h:i<n)(v:Z)(a:v=.int .i64 ((i:Int)+1)):n-(intOf v).toNat<n-(intOf (.int .i64 (i:Int))).toNat:=by
 subst a;simp[intOf];omega
def IZ{l m:List UInt8}{n:Nat}(h:gZ l=(n,.ok m)):n≤65535:=by
 cases a:num 0 O l with
 | mk v z=>
  cases z with
  | ok b=>
   rw[nF a]at h
   split at h
   ·simp at h
   ·simp only[eP]at h
    omega
  | err e=>
   rw[pp (x:=e) (by rw[a])]at h;simp at h
def Cp{l:List UInt8}{y:Int}(h:(gZ l).2=.err y):du (.ok l)=([],.err y):=by
 have e:du (.ok l)=(match gZ l with | (n,.ok l)=>(match nums n l with | (r,.ok l)=>(r,.ok l) | (_,x)=>([],x)) | (_,x)=>([],x)):=rfl;rw[e];generalize gZ l=q at h⊢;obtain⟨v,z⟩:=q;simp only at h;subst h;rfl
def zI{l m:List UInt8}{n:Nat}(h:gZ l=(n,.ok m)):du (.ok l)=(match nums n m with | (r,.ok l)=>(r,.ok l) | (_,x)=>([],x)):=by
 simp only[du,h]<;>rfl
def jw(n:Nat)(a:List UInt8)(i:Nat)(r:List Int)(m:List UInt8):Prop:=r.length=i∧i≤n∧nums n a=(r++(nums (n-i) m).1,(nums (n-i) m).2)
def jw.start(n:Nat)(m:List UInt8):jw n m 0 [] m:=⟨rfl,Nat.zero_le _,by simp⟩
def jw.step{n i:Nat}{b m a:List UInt8}{r:List Int}{u:Nat}(h:jw n b i r m)(hi:i<n)(c:num 0 O m=(u,.ok a)):jw n b (i+1) (r++ [ov u]) a:=by
 obtain⟨f,k,g⟩:=h;refine⟨by simp[f],hi,?_⟩;obtain⟨d,j⟩:∃d,n-i=d+1:=⟨n-i-1,by omega⟩;have e:nums (d+1) m=(ov u::(nums d a).1,(nums d a).2):=by simp only[nums,c]
 rw[g,j,e,show n-(i+1)=d by omega];simp
def jw.err{n i:Nat}{b m:List UInt8}{r:List Int}{y:Int}(h:jw n b i r m)(hi:i<n)(a:(num 0 O m).2=.err y):(nums n b).2=.err y:=by
 obtain⟨f,g,c⟩:=h;obtain⟨d,e⟩:∃d,n-i=d+1:=⟨n-i-1,by omega⟩;rw[c,e];simp only[nums];generalize num 0 O m=q at a⊢;obtain⟨v,z⟩:=q;simp only at a;subst a;rfl
def jw.done{n:Nat}{a m:List UInt8}{r:List Int}(h:jw n a n r m):nums n a=(r,.ok m):=by
 obtain⟨c,d,b⟩:=h;rw[b,Nat.sub_self];simp[nums]
def I1{l m:List UInt8}{n:Nat}{y:Int}(h:gZ l=(n,.ok m))(a:(nums n m).2=.err y):du (.ok l)=([],.err y):=by
 rw[zI h];generalize nums n m=q at a⊢;obtain⟨v,z⟩:=q;simp only at a;subst a;rfl
def St{B:Nat}(w:V)(p:Nat)(e:Int)(h:fy B w p (.err e))(t:B≤w.heap.size):
  ar M 201 #[.pointer (I ⟨p,0,J⟩)] w (pA B w p (.err e)):=by
 have u:∀(fn:Fn)(first cap:Array Z)(w:V),(dn fn first cap).run M w=.ok (.func fn first cap) w:=fun _ _ _ _=>rfl
 have d:=h.lt;have v:=D t
 obtain⟨W,l,k1,k2,c,m⟩:∃W,(w.alloc (.cells #[.pointer (I ⟨p,0,J⟩)] 156)).alloc (.cells #[.slice J 0 0] 36)=W∧W.heap[w.heap.size]?=I (.cells #[.pointer (I ⟨p,0,J⟩)] 156 (0,0))∧
   W.heap[w.heap.size+1]?=I (.cells #[.slice J 0 0] 36 (0,0))∧ae w.heap.size w W∧W.heap.size=w.heap.size+2:=
  ⟨_,rfl,ce _ _ _,bO _ _ _,((aD _ _).alloc (G _) _).alloc bW _,by simp⟩
 have o:=D l;have q:Hid (fy B W p (.err e)):=D (h.below c);have x:Hid (But p w W):=D (.of_below c);have y:=D m;have z:=D d;have C:=D k1;have i:=D k2;obtain⟨c1,f1,-⟩:=one_cell k1;obtain⟨c2,f2,-⟩:=one_cell k2;clear l h k1 k2 c m d;obtain⟨r,ao,n,cap,s⟩:=q.o;obtain⟨d0,H,K,L,N⟩:=cS s.k;have P:(e==0)=U:=by simpa using r
 clear r s
 go_enter_defers func201,ntmps201
 go_upto_region 1 with fail
 rw[o.o];go_wp2;refine fx (f:= 267) (args:= #[.pointer (I ⟨w.heap.size+1,0,J⟩),.pointer (I ⟨w.heap.size,0,J⟩)]) bW kN ?_;have a:=o.o;obtain⟨b,a⟩:∃b,W.setCell ⟨w.heap.size+1,0,J⟩ (.slice J 0 0)=b:=⟨_,rfl⟩;have g:But (w.heap.size+1) W b:=by rw[←a];exact But.set _ _ _ _
 have j:fy B b p (.err e):=q.o.but g (by have:=z.o;omega) (fun _ _ _ h=>by cases h);obtain⟨E,q2,-⟩:=one_cell (show b.heap[w.heap.size+1]?=I (.cells #[.slice J 0 0] 36 (0,0))by rw[←a];exact one_set i.o _);have k:But p w b:=by rw[←a];exact x.o.own A _ _
 have F:b.cell? ⟨w.heap.size,0,J⟩=I (.pointer (I ⟨p,0,J⟩)):=by rw[g.cell (by show w.heap.size<W.heap.size;have:=y.o;omega) (by show w.heap.size≠w.heap.size+1;omega)];exact c1
 rw[a];refine(AN b w.heap.size (w.heap.size+1) p F).mono ?_;rintro Q R S ⟨rfl,rfl,rfl⟩;simp[jQ,oo,results,results201,go_sem,E];exact⟨_,rfl,cD _ _ _ _,j,k⟩
def Su{B:Nat}(w:V)(p:Nat)(l:List UInt8)(h:fy B w p (.ok l))(C:B≤w.heap.size)(y:Int)(e:(gZ l).2=.err y):
  ar M 201 #[.pointer (I ⟨p,0,J⟩)] w (pA B w p (.ok l)):=by
 have E:∀(fn:Fn)(first cap:Array Z)(w:V),(dn fn first cap).run M w=.ok (.func fn first cap) w:=fun _ _ _ _=>rfl
 have b:=h.lt;have F:=D C
 obtain⟨W,u,k1,k2,c,x⟩:∃W,(w.alloc (.cells #[.pointer (I ⟨p,0,J⟩)] 156)).alloc (.cells #[.slice J 0 0] 36)=W∧W.heap[w.heap.size]?=I (.cells #[.pointer (I ⟨p,0,J⟩)] 156 (0,0))∧
   W.heap[w.heap.size+1]?=I (.cells #[.slice J 0 0] 36 (0,0))∧ae w.heap.size w W∧W.heap.size=w.heap.size+2:=
  ⟨_,rfl,ce _ _ _,bO _ _ _,((aD _ _).alloc (G _) _).alloc bW _,by simp⟩
 have H:=D u;have K:Hid (fy B W p (.ok l)):=D (h.below c);have N:Hid (But p w W):=D (.of_below c);have HZ:=D x;have k:=D b;have m:=D k1;have n:=D k2;obtain⟨c1,f1,-⟩:=one_cell k1;obtain⟨c2,f2,-⟩:=one_cell k2;clear u h k1 k2 c x b;obtain⟨ao,cap,o,z⟩:=K.o;obtain⟨d0,d1,g0,g1,hp⟩:=cS o.k;have e1:((0:Int)==0)=O:=rfl;have P:=D o;have Q:=D z
 have g:∀(a:V)(a2:Option aB)(L d:Nat)(y:Int)(v:Z),fg a p a2 L d 0→But p w a→a.heap[w.heap.size]?=I (.cells #[.pointer (I ⟨p,0,J⟩)] 156 (0,0))→a.heap[w.heap.size+1]?=I (.cells #[v] 36 (0,0))→y≠0→du (.ok l)=([],.err y)→
   ot M 267 #[.pointer (I ⟨w.heap.size+1,0,J⟩),.pointer (I ⟨w.heap.size,0,J⟩)] (.panicking (jL y)) a fun q r j=>q=.returned (.tuple #[])∧
    r=.panicking [{ v:=.iface 296 (.int .i64 y),recovered:=O }]∧j.cell? ⟨w.heap.size+1,0,J⟩=I (.slice J 0 0)∧pA B w p (.ok l) (.returned (.slice J 0 0)) j:=by
  intro a a2 L d y v k9 b9 R q2 S i;have b:=k.o;refine(yi a w.heap.size (w.heap.size+1) p a2 L d 0 y v (one_cell R).1 k9 q2 A A).mono ?_;rintro q r j ⟨rfl,rfl,k10,b10⟩;have T:(a.setCell ⟨w.heap.size+1,0,J⟩ (.slice J 0 0)).heap[w.heap.size+1]?=I (.cells #[.slice J 0 0] 36 (0,0)):=one_set q2 _;refine⟨rfl,rfl,(one_cell (b10.dQ T A)).1,_,rfl,?_,?_,(b9.own A 0 _).trans b10⟩
  ·rw[i];exact cD _ _ _ _
  ·rw[i];exact⟨S,a2,L,d,k10⟩
 have s:=D g;clear o z g
 go_enter_defers func201,ntmps201
 go_upto_region 1 with fail
 rw[H.o];have t:=D e;clear e;go_wp2_with ((go_at_call 128;refine(Ga W p ao l cap 0 P.o Q.o y t.o).mono ?_);rintro en a ⟨a2,L,d,rfl,k9,b9⟩)
 refine fx (f:= 267) (args:= #[.pointer (I ⟨w.heap.size+1,0,J⟩),.pointer (I ⟨w.heap.size,0,J⟩)]) bW kN ?_;refine(s.o a a2 L d y _ k9.o (N.o.trans b9.o) (b9.o.dQ m.o (by have:=k.o;omega)) (b9.o.dQ n.o (by have:=k.o;omega)) (IW t.o) (Cp t.o)).mono ?_;rintro q r j ⟨rfl,rfl,X,r3⟩;simp[jQ,oo,results,results201,go_sem,X];exact r3
def Sw{B:Nat}(w:V)(p:Nat)(l:List UInt8)(h:fy B w p (.ok l))(hB:B≤w.heap.size)(n:Nat)(m:List UInt8)(hq:gZ l=(n,.ok m)):
  ar M 201 #[.pointer (I ⟨p,0,J⟩)] w (pA B w p (.ok l)):=by
 have t0:∀(fn:Fn)(first cap:Array Z)(w:V),(dn fn first cap).run M w=.ok (.func fn first cap) w:=fun _ _ _ _=>rfl
 have d:=h.lt;have k0:=D hB
 obtain⟨W,hW,k1,k2,N,hz⟩:∃W,(w.alloc (.cells #[.pointer (I ⟨p,0,J⟩)] 156)).alloc (.cells #[.slice J 0 0] 36)=W∧W.heap[w.heap.size]?=I (.cells #[.pointer (I ⟨p,0,J⟩)] 156 (0,0))∧
   W.heap[w.heap.size+1]?=I (.cells #[.slice J 0 0] 36 (0,0))∧ae w.heap.size w W∧W.heap.size=w.heap.size+2:=
  ⟨_,rfl,ce _ _ _,bO _ _ _,((aD _ _).alloc (G _) _).alloc bW _,by simp⟩
 have HW:=D hW;have HX:Hid (fy B W p (.ok l)):=D (h.below N);have HB:Hid (But p w W):=D (.of_below N);have HZ:=D hz;have t:=D d;have l0:=D k1;have m0:=D k2;obtain⟨c1,f1,-⟩:=one_cell k1;obtain⟨c2,f2,-⟩:=one_cell k2;clear hW h k1 k2 N hz d;obtain⟨ao,cap,h1,hr⟩:=HX.o;obtain⟨d0,d1,g0,g1,hp⟩:=cS h1.k;have e1:((0:Int)==0)=O:=rfl;have HK:=D h1;have HR:=D hr
 have a0:∀(b:V)(a2:Option aB)(L S:Nat)(y:Int)(v:Z),fg b p a2 L S 0→But p w b→b.heap[w.heap.size]?=I (.cells #[.pointer (I ⟨p,0,J⟩)] 156 (0,0))→b.heap[w.heap.size+1]?=I (.cells #[v] 36 (0,0))→y≠0→du (.ok l)=([],.err y)→
   ot M 267 #[.pointer (I ⟨w.heap.size+1,0,J⟩),.pointer (I ⟨w.heap.size,0,J⟩)] (.panicking (jL y)) b fun ev u' w'=>ev=.returned (.tuple #[])∧
    u'=.panicking [{ v:=.iface 296 (.int .i64 y),recovered:=O }]∧w'.cell? ⟨w.heap.size+1,0,J⟩=I (.slice J 0 0)∧pA B w p (.ok l) (.returned (.slice J 0 0)) w':=by
  intro b a2 L S y v k9 b9 q1 q2 hy e;have d:=t.o;refine(yi b w.heap.size (w.heap.size+1) p a2 L S 0 y v (one_cell q1).1 k9 q2 A A).mono ?_;rintro ev u' w' ⟨rfl,rfl,k10,b10⟩;have q3:(b.setCell ⟨w.heap.size+1,0,J⟩ (.slice J 0 0)).heap[w.heap.size+1]?=I (.cells #[.slice J 0 0] 36 (0,0)):=one_set q2 _;refine⟨rfl,rfl,(one_cell (b10.dQ q3 A)).1,_,rfl,?_,?_,(b9.own A 0 _).trans b10⟩
  ·rw[e];exact cD _ _ _ _
  ·rw[e];exact⟨hy,a2,L,S,k10⟩
 have n0:=D a0;clear h1 hr a0
 go_enter_defers func201,ntmps201
 go_upto_region 1 with fail
 rw[HW.o];have hn:=IZ hq;have HN:=D hn;have HQ:=D hq;clear hq hn;go_wp2_with ((go_at_call 128;refine(Ck W p ao l cap 0 HK.o HR.o n m HQ.o).mono ?_);rintro en b ⟨a2,S,rfl,k9,r9,b9⟩)
 have o0:Hid (But p w b):=D (HB.o.trans b9.o);have q1:Hid (b.heap[w.heap.size]?=I (.cells #[.pointer (I ⟨p,0,J⟩)] 156 (0,0))):=D (b9.o.dQ l0.o (by have:=t.o;omega));have q2:Hid (b.heap[w.heap.size+1]?=I (.cells #[.slice J 0 0] 36 (0,0))):=D (b9.o.dQ m0.o (by have:=t.o;omega));have p0:Hid (w.heap.size+2≤b.heap.size):=D (by have:=b9.o.size;have:=HZ.o;omega)
 go_loopw[11] (fun vi wr=>∃(i:Nat)(r:List Int)(x:List UInt8)(v:Z)(a3:Option aB)(c3:Nat),vi=.int .i64 i∧Hid (jw n m i r x)∧Hid (fg wr p a3 x.length c3 0)∧Hid (By B wr a3 x)∧Hid (But p w wr)∧
  Hid (wr.heap[w.heap.size]?=I (.cells #[.pointer (I ⟨p,0,J⟩)] 156 (0,0)))∧Hid (wr.heap[w.heap.size+1]?=I (.cells #[v] 36 (0,0)))∧Hid (wr.ownsRow (w.heap.size+2) 3 1 v i (fL r))∧Hid (w.heap.size+2≤wr.heap.size)) (fun vi _=>n-(intOf vi).toNat)
 case atStart=>exact⟨0,[],m,_,a2,S,rfl,D (jw.start n m),k9,r9,o0,q1,q2,D (cD _ _ _ _),p0⟩
 case round=>
  obtain⟨i,r,x,v,a3,c3,rfl,g,k3,r3,b3,s1,s2,ho,C⟩:=hrel;obtain⟨a6,j,rfl,-,-⟩:=bY ho.o;by_cases hi:i<n
  ·have e2:decide (i<n)=O:=by simpa using hi
   have HI:=D hi;obtain⟨t1,-,-⟩:=one_cell s1.o;obtain⟨t2,t3,-⟩:=one_cell s2.o;clear hi
   cases hu:num 0 O x with
   | mk u z=>
    cases z with
    | err y=>
     have b0:(num 0 O x).2=.err y:=by rw[hu]
     have T:=D b0;clear hu b0;go_upto_region 5 with fail
     refine gJ aj [[0,1,2,3,4,5],[1,0,2,3,4,5],[1,2,0,3,4,5],[1,2,3,0,4,5]] aj ?_;intro lo P;have q0:wr.drew.cell? ⟨w.heap.size,0,J⟩=I (.pointer (I ⟨p,0,J⟩)):=t1;have r0:wr.drew.cell? ⟨w.heap.size+1,0,J⟩=I (.slice a6 i j):=t2;rcases(by simpa using P:lo=[0,1,2,3,4,5]∨lo=[1,0,2,3,4,5]∨lo=[1,2,0,3,4,5]∨lo=[1,2,3,0,4,5])with rfl | rfl | rfl | rfl
     all_goals (simp only[ee,List.filterMap_nil,List.getElem?_toArray,bQ,List.getElem?_cons_succ];change cH _ _ _ [_,_,_,_,_,_] _ _)
     all_goals
      go_wp2_with ((go_at_call 124;refine(IX wr.drew p a3 x c3 0 ⟨k3.o.k,k3.o.c,k3.o.m⟩ ⟨r3.o.rd,r3.o.lt⟩ y T.o).mono ?_);rintro en K ⟨a4,L,c4,rfl,k4,b4⟩)
      have Q:=But.IY b4.o;refine fx (f:= 267) (args:= #[.pointer (I ⟨w.heap.size+1,0,J⟩),.pointer (I ⟨w.heap.size,0,J⟩)]) bW kN ?_;refine(n0.o K a4 L c4 y (.slice a6 i j) k4.o (b3.o.trans Q) (Q.dQ s1.o (by have:=t.o;omega)) (Q.dQ s2.o (by have:=t.o;omega)) (G1 T.o) (I1 HQ.o (g.o.err HI.o T.o))).mono ?_;rintro ev u' w' ⟨rfl,rfl,q3,r9⟩;simp[jQ,oo,results,results201,go_sem,q3];exact r9
    | ok m2=>
     have T:=D hu;clear hu;go_upto_region 5 with fail
     refine gJ aj [[0,1,2,3,4,5],[1,0,2,3,4,5],[1,2,0,3,4,5],[1,2,3,0,4,5]] aj ?_;intro lo P;have q0:wr.drew.cell? ⟨w.heap.size,0,J⟩=I (.pointer (I ⟨p,0,J⟩)):=t1;have r0:wr.drew.cell? ⟨w.heap.size+1,0,J⟩=I (.slice a6 i j):=t2;rcases(by simpa using P:lo=[0,1,2,3,4,5]∨lo=[1,0,2,3,4,5]∨lo=[1,2,0,3,4,5]∨lo=[1,2,3,0,4,5])with rfl | rfl | rfl | rfl
     all_goals (simp only[ee,List.filterMap_nil,List.getElem?_toArray,bQ,List.getElem?_cons_succ];change cH _ _ _ [_,_,_,_,_,_] _ _)
     all_goals
      go_wp2_with (first
       | ((go_at_call 124;refine(KP wr.drew p a3 x c3 0 ⟨k3.o.k,k3.o.c,k3.o.m⟩ ⟨r3.o.rd,r3.o.lt⟩ u m2 T.o).mono ?_);rintro en K ⟨a4,c4,rfl,k4,r4,b4⟩;have b5:Hid (But p wr K):=D (But.IY b4.o);have c0:=D (b5.o.dQ s1.o (by have:=t.o;omega));have k:=D (b5.o.dQ s2.o (by have:=t.o;omega));have o8:=D (zH ho.o b5.o (by have:=t.o;omega));obtain⟨v0,-,-⟩:=one_cell c0.o;obtain⟨w0,-,-⟩:=one_cell k.o;have x0:(K.alloc (.cells #[.int .i64 (ov u)] 3)).cell? ⟨w.heap.size+1,0,J⟩=I (.slice a6 i j):=(one_cell (by rw[ed _ _ _ (one_cell k.o).2.2];exact k.o)).1;clear b4)
       | ((with_reducible refine aT 17 ?_);refine Co rfl _ _ rfl (w.heap.size+2) (.slice a6 i j) i r rfl (o8.o.alloc _) (I ⟨K.heap.size,0,J⟩) 1 1 [ov u] rfl rfl (MS K _ rfl _) (by have:=HI.o;have:=HN.o;omega) (by have:=b5.o.size;have:=C.o;simp;omega) ?_;intro v7 w7 o7 g7 h7;obtain⟨a7,X,rfl,-,-⟩:=bY o7;have o7:=D o7;have R:ae (w.heap.size+2) K w7:=((aD _ _).alloc (by have:=b5.o.size;have:=C.o;omega) _).grown g7 (by have:=b5.o.size;have:=C.o;simp;omega) (k_ o8.o);have e0:=D R;obtain⟨y0,z0,-⟩:=one_cell (show w7.heap[w.heap.size+1]?=I (.cells #[.slice a6 i j] 36 (0,0))by rw[R.block _ A];exact k.o);clear g7 h7 R))
      obtain⟨a,o⟩:∃a,w7.setCell ⟨w.heap.size+1,0,J⟩ (.slice a7 (i+1) X)=a:=⟨_,rfl⟩;have f0:ae (w.heap.size+1) w7 a:=by rw[←o];exact(aD _ _).setCell (p:=⟨w.heap.size+1,0,J⟩) (G _) _
      have c:ae (w.heap.size+1) K a:=(e0.o.mono A).trans f0;have h0:a.heap[w.heap.size+1]?=I (.cells #[.slice a7 (i+1) X] 36 (0,0)):=by rw[←o];exact one_set (by rw[e0.o.block _ A];exact k.o) _
      have o9:a.ownsRow (w.heap.size+2) 3 1 (.slice a7 (i+1) X) (i+1) (fL (r++ [ov u])):=by rw[←o];exact pq o7.o _ (by show w.heap.size+1<_;omega) _
      have d:=t.o
      have q:Hid (jw n m (i+1) (r++ [ov u]) m2)∧Hid (fg a p a4 m2.length c4 0)∧Hid (By B a a4 m2)∧Hid (But p w a)∧
        Hid (a.heap[w.heap.size]?=I (.cells #[.pointer (I ⟨p,0,J⟩)] 156 (0,0)))∧Hid (a.heap[w.heap.size+1]?=I (.cells #[.slice a7 (i+1) X] 36 (0,0)))∧Hid (a.ownsRow (w.heap.size+2) 3 1 (.slice a7 (i+1) X) (i+1) (fL (r++ [ov u])))∧Hid (w.heap.size+2≤a.heap.size):=
       ⟨g.o.step HI.o T.o,k4.o.keep c A,r4.o.keep c A,(b3.o.trans b5.o).then c A,by show a.heap[w.heap.size]?=_;rw[c.block _ A];exact c0.o,h0,o9,by have h1:=c.size;have h2:=b5.o.size;have h3:=C.o;show w.heap.size+2≤a.heap.size;omega⟩
      rw[o];have HC:=D q;have e9:bi ((i:Int)+1)=(i:Int)+1:=ag _ (by have:=HN.o;have:=HI.o;omega);clear o f0 c h0 o9 q;go_wp2;go_round
      case rel=>exact⟨i+1,r++ [ov u],m2,.slice a7 (i+1) X,a4,c4,by go_num,HC.o⟩
      case measure=>exact bA HI.o _ eT
  ·have e2:decide (i<n)=U:=by simpa using hi
   have i0:i=n:=by have:=g.o.2.1;omega
   obtain⟨t2,t3,-⟩:=one_cell s2.o;obtain⟨t1,-,-⟩:=one_cell s1.o;have HE:=D i0;clear hi i0;go_wp2;obtain⟨E,F⟩:∃E,wr.setCell ⟨w.heap.size+1,0,J⟩ (.slice a6 i j)=E:=⟨_,rfl⟩;have d:=t.o;have H:ae (w.heap.size+1) wr E:=by rw[←F];exact(aD _ _).setCell (p:=⟨w.heap.size+1,0,J⟩) (G _) _
   obtain⟨q1,q2,-⟩:=one_cell (show E.heap[w.heap.size+1]?=I (.cells #[.slice a6 i j] 36 (0,0))by rw[←F];exact one_set s2.o _);have s0:E.cell? ⟨w.heap.size,0,J⟩=I (.pointer (I ⟨p,0,J⟩)):=(one_cell (by rw[H.block _ A];exact s1.o)).1;have o9:E.ownsRow (w.heap.size+2) 3 1 (.slice a6 i j) i (fL r):=by rw[←F];exact pq ho.o _ (by show w.heap.size+1<_;omega) _
   have s:=g.o;rw[HE.o]at s;have e:du (.ok l)=(r,.ok x):=by rw[zI HQ.o,s.done]
   have k9:=k3.o.keep H A
   have j0:pA B w p (.ok l) (.returned (.slice a6 i j)) E:=by
    refine⟨_,rfl,?_,?_,b3.o.then H A⟩
    ·rw[e];show E.ownsRow w.heap.size 3 1 (.slice a6 i j) r.length (fL r);rw[g.o.1];exact ki o9 (zf _ 2)
    ·rw[e];exact⟨a3,c3,k9,r3.o.keep H (aa k0.o (zf _ 1))⟩
   rw[F];refine fx (f:= 267) (args:= #[.pointer (I ⟨w.heap.size+1,0,J⟩),.pointer (I ⟨w.heap.size,0,J⟩)]) bW kN ?_;refine(AN E w.heap.size (w.heap.size+1) p s0).mono ?_;rintro ev u' w' ⟨rfl,rfl,rfl⟩;simp[jQ,oo,results,results201,go_sem,q1];exact j0
def ND{B:Nat}(w:V)(p:Nat)(x:X)(h:fy B w p x)(a:B≤w.heap.size):
  ar M 201 #[.pointer (I ⟨p,0,J⟩)] w (pA B w p x):=by
 cases x with
 | err e=>exact St w p e h a
 | ok l=>
  cases b:gZ l with
  | mk n z=>
   cases z with
   | err y=>exact Su w p l h a y (by rw[b])
   | ok m=>exact Sw w p l h a n m b
end Go.Proofs.YtdgllhcfablaoaaGreat
