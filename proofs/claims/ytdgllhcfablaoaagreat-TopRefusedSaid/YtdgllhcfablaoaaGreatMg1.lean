/- What the law asks, in parts: Ql Qm Cmp Qn Qo Qp Qq Qr Qs Qt Qu Qv Qwe Qw Qx Ra Rb Rc Rl VAa VAb. -/
import Derived.StillTailTactics
import Derived.Test.YtdgllhcfablaoaaGreatMg0
set_option linter.all false
set_option maxRecDepth 100000
set_option maxHeartbeats 16000000
open Go.Proofs.Tryz
open Bool renaming false→U,true→O
open Option renaming some→I,none→J,map_some→dl
open Go renaming World→V,Value→Z,bodyPost_ret→au,Calls→ar,heap_alloc_new→al,Addr→aB,TypeId→aN,Operand→aP,Oper→aH,Ending→de,wpList→cH,binOp→dr,bits→p_
open Nat renaming le_trans→aa,zero_le→aw,lt_or_ge→aL,mul_le_mul→fs,mod_lt→fo,mul_one→dL,mod_eq_of_lt→gv,xor→fW,xor_lt_two_pow→jO,and_one_is_mod→vJ
open Go.RowKit renaming Below→ae,wrap64→bi,intOf→bp
open Go.IntWalk renaming wrap64_in→ag
open List renaming length_append→ay,length_drop→bh,mem_cons→bg,not_mem_nil→bV,eq_nil_of_length_eq_zero→cz,getElem?_eq_getElem→cC,drop_eq_nil_of_le→e_,length_map→fX,getElem?_map→eL,mem_map→l_
open Go.World renaming cell?→an,setCell→aV,ownsRow_nil→cD
open Array renaming getElem?_modify→aR
open BitVec renaming ofInt→bF,ofInt_natCast→fI,toNat_ofNat→gG,toNat_and→qz
open Option.some renaming injEq→bU
open Go.Instr renaming sliceAt→eF
open Go.BinOp renaming eql→eG,or→oe
open Prod.mk renaming injEq→eP
open Go.Value renaming int→gV,ownBlock→sW
open Go.IntKind renaming signed→iy,bits→iS,wrap→jI,u32→lN,u64→sI
open Go.Program renaming elem→jG,underlying→oS
open Go.RowKit.Below renaming mono→qF
open UInt8 renaming toNat→zw
open Go.Proofs.Tryz renaming prog→M
namespace Go.Proofs.YtdgllhcfablaoaaGreat
open Go.RowKit
def dx(a:Int)(x:X):Nat×X:=if (aU x).1<0∨a<(aU x).1 then(0,(aU x).2.fail 4)else((aU x).1.toNat,(aU x).2)
def lR(x:X):Int×X:=if (aU x).1<0∨22<(aU x).1 then((aU x).1,(aU x).2.fail 10)else aU x
def jT(w:V)(q p:Nat)(e:Int):Prop:=w.heap[q]?=I (.cells #[.pointer (I ⟨p,0,J⟩),.int .i64 e] 183 (0,0))
def fy.blk{B:Nat}{w:V}{p:Nat}{x:X}(h:fy B w p x):∃ao n cap e,fg w p ao n cap e:=by
 cases x with
 | ok l=>obtain⟨_,_,h,_⟩:=h;exact⟨_,_,_,_,h⟩
 | err e=>obtain⟨_,_,_,_,h⟩:=h;exact⟨_,_,_,_,h⟩
def jT.ne{B:Nat}{w:V}{q p a:Nat}{e:Int}{x:X}(h:jT w q p e)(c:fy B w a x):q≠a:=by
 obtain⟨ao,n,cap,f,d⟩:=c.blk;rintro rfl;have b:=d.k;rw[show w.heap[q]?=_ from h]at b;simp at b
def jT.but{w w':V}{q p b:Nat}{e:Int}(h:jT w q p e)(a:But b w w')(c:q≠b):jT w' q p e:=a.dQ h c
def rM{B:Nat}(w:V)(p:Nat)(x:X)(e:Int)(g:e≠0)(h:fy B w p x):
  ar M 80 #[.pointer (I ⟨p,0,J⟩),.int .i64 e] w (fun a w'=>a=.returned (.tuple #[])∧Hid (fy B w' p (x.fail e))∧Hid (But p w w')):=by
 cases x with
 | ok l=>
  obtain⟨ao,cap,c,i⟩:=h;refine(zF w p ao _ cap 0 e c).mono ?_;rintro a w' ⟨rfl,k,b⟩;exact⟨rfl,⟨g,ao,_,cap,k⟩,b⟩
 | err d=>
  obtain⟨f,ao,n,cap,c⟩:=h;refine(zF w p ao _ cap d e c).mono ?_;rintro a w' ⟨rfl,k,b⟩;rw[show nG d e=d from if_neg f]at k;exact⟨rfl,⟨f,ao,_,cap,k⟩,b⟩
def pB{B:Nat}(w:V)(q p:Nat)(e a:Int)(x:X)(h:fy B w p x)(g:jT w q p e):
  ar M 186 #[.pointer (I ⟨q,0,J⟩),.int .i64 a] w (fun r w'=>r=.returned (.int .i64 (dx a x).1)∧Hid (fy B w' p (dx a x).2)∧Hid (But p w w')):=by
 have d:=g.ne h;obtain⟨c0,-,-,-,-⟩:=cS g;have t:=D h;have u:=D g;have v:=D d;obtain⟨R,b⟩:∃R,dx a x=R:=⟨_,rfl⟩;rw[b];unfold dx at b;obtain⟨s,i⟩:∃s,(aU x).1=s:=⟨_,rfl⟩;obtain⟨y,j⟩:∃y,(aU x).2=y:=⟨_,rfl⟩;rw[i,j]at b;have z:=D i;have C:=D j;clear h g d i j
 go_enter func186,ntmps186
 go_upto_region 2 with((go_at_call 63;refine(Cj w p x t.o).mono ?_);rintro en n ⟨rfl,k9,b9⟩)
 rw[z.o];rw[C.o]at k9;have k:=D k9;have l:=D b9;obtain⟨d0,-,-,-,-⟩:=cS (u.o.but b9 v.o);clear k9 b9 c0;by_cases c:s<0∨a<s
 ·rw[if_pos c]at b
  subst b;by_cases f:s<0
  ·have o:decide (s<0)=O:=by simpa using f
   clear c f;go_wp2_with ((go_at_call 80;refine(rM n p y 4 aC k.o).mono ?_);rintro en m ⟨rfl,k10,b10⟩)
   go_ret;exact⟨rfl,k10,l.o.trans b10⟩
  ·have o:decide (s<0)=U:=by simpa using f
   have E:decide (a<s)=O:=by simpa using c.resolve_left f
   clear c f;go_wp2_with ((go_at_call 80;refine(rM n p y 4 aC k.o).mono ?_);rintro en m ⟨rfl,k10,b10⟩)
   go_ret;exact⟨rfl,k10,l.o.trans b10⟩
 ·rw[if_neg c]at b
  subst b;have o:decide (s<0)=U:=by simp;omega
  have E:decide (a<s)=U:=by simp;omega
  have F:=D c;clear c;go_wp2;go_ret;exact⟨aZ (by have:=F.o;omega),k.o,l.o⟩
def NE{B:Nat}(w:V)(q p:Nat)(e:Int)(x:X)(h:fy B w p x)(f:jT w q p e):
  ar M 144 #[.pointer (I ⟨q,0,J⟩)] w (fun n w'=>n=.returned (.int .i64 (lR x).1)∧Hid (fy B w' p (lR x).2)∧Hid (But p w w')):=by
 have c:=f.ne h;obtain⟨c0,-,-,-,-⟩:=cS f;have o:=D h;have r:=D f;have t:=D c;obtain⟨R,a⟩:∃R,lR x=R:=⟨_,rfl⟩;rw[a];unfold lR at a;obtain⟨z,g⟩:∃z,aU x=z:=⟨_,rfl⟩;obtain⟨s,y⟩:=z;rw[g]at a;simp only at a;have u:=D g;clear h f c g
 go_enter func144,ntmps144
 go_upto_region 2 with((go_at_call 63;refine(Cj w p x o.o).mono ?_);rintro en l ⟨rfl,k9,b9⟩)
 rw[u.o]at k9⊢;simp only at k9⊢;have i:=D k9;have j:=D b9;obtain⟨d0,-,-,-,-⟩:=cS (r.o.but b9 t.o);clear k9 b9 c0;by_cases b:s<0∨22<s
 ·rw[if_pos b]at a
  subst a;by_cases d:s<0
  ·have m:decide (s<0)=O:=by simpa using d
   clear b d;go_wp2_with ((go_at_call 80;refine(rM l p y 10 aC i.o).mono ?_);rintro en k ⟨rfl,k10,b10⟩)
   go_ret;exact⟨rfl,k10,j.o.trans b10⟩
  ·have m:decide (s<0)=U:=by simpa using d
   have v:decide (22<s)=O:=by simpa using b.resolve_left d
   clear b d;go_wp2_with ((go_at_call 80;refine(rM l p y 10 aC i.o).mono ?_);rintro en k ⟨rfl,k10,b10⟩)
   go_ret;exact⟨rfl,k10,j.o.trans b10⟩
 ·rw[if_neg b]at a
  subst a;have m:decide (s<0)=U:=by simp;omega
  have v:decide (22<s)=U:=by simp;omega
  clear b;go_wp2;go_ret;exact⟨rfl,i.o,j.o⟩
def mM(n a b:Int):Bool:=decide (a≤n)&&decide (n≤b)
def qT(c:UInt8):Bool:=decide (c.toNat<32)||decide (c.toNat=127)
def oW(s:List UInt8):Bool:=!(s.any qT)&&decide (s.length≤40)
def fF(w:V)(n a b:Int):ar M 175 #[.int .i64 n,.int .i64 a,.int .i64 b] w (fun g w'=>g=.returned (.bool (mM n a b))∧w'=w):=by
 by_cases d:a≤n
 ·have h:decide (a≤n)=O:=by simpa using d
  by_cases e:n≤b
  ·have i:decide (n≤b)=O:=by simpa using e
   have c:mM n a b=O:=by simp[mM,d,e]
   have f:=D c;clear d e c
   go_enter func175,ntmps175
   go_wp2;go_ret;exact⟨eA f.o.symm,rfl⟩
  ·have i:decide (n≤b)=U:=by simpa using e
   have c:mM n a b=U:=by simp[mM,e]
   have f:=D c;clear d e c
   go_enter func175,ntmps175
   go_wp2;go_ret;exact⟨eA f.o.symm,rfl⟩
 ·have h:decide (a≤n)=U:=by simpa using d
  have c:mM n a b=U:=by simp[mM,d]
  have f:=D c;clear d c
  go_enter func175,ntmps175
  go_wp2;go_ret;exact⟨eA f.o.symm,rfl⟩
def Gc{s:List UInt8}{k:Nat}(h:(s.take k).any qT=U)(a:k<s.length)(b:qT s[k]=U):(s.take (k+1)).any qT=U:=by
 rw[Cf s k a,List.any_append,h];simp[b]
def MT{s:List UInt8}{k:Nat}(a:k<s.length)(b:qT s[k]=O):s.any qT=O:=List.any_eq_true.mpr ⟨_,List.getElem_mem a,b⟩
def wD(w:V)(s:List UInt8)(B:s.length<1000000000):ar M 176 #[.string ⟨⟨s⟩⟩] w (fun q w'=>q=.returned (.bool (oW s))∧w'=w):=by
 obtain⟨S,m⟩:∃S:ByteArray,(⟨⟨s⟩⟩:ByteArray)=S:=⟨_,rfl⟩;have C:S.size=s.length:=by rw[←m];rfl
 rw[m]
 go_enter func176,ntmps176
 go_wp2
 go_loop[6] (fun n=>∃k:Nat,k≤s.length∧n=.int .i64 k∧Hid ((s.take k).any qT=U)) (fun n=>s.length-(bp n).toNat)
 case atStart=>exact⟨0,aw _,rfl,D bW⟩
 case round=>
  obtain⟨k,E,rfl,o⟩:=hrel;rcases aL k s.length with c | g
  ·have r:k<S.size:=A
   have d:S[k]=s[k]:=by subst m;rfl
   have hm:=bA c (.int .i64 ((k:Int)+1)) rfl;have F:=D hm;have p:=D c;have a:qT s[k]=O→Hid (oW s=U):=fun h=>D (by simp[oW,MT c h])
   have t:(k:Int)<s.length:=A
   by_cases i:s[k].toNat<32
   ·have u:decide ((S[k].toNat:Int)<32)=O:=by rw[d];simp;omega
    have e:=a (by simp[qT,i]);clear i a hm d;go_wp2;go_ret;exact⟨eA e.o.symm,rfl⟩
   ·have u:decide ((S[k].toNat:Int)<32)=U:=by rw[d];simp;omega
    by_cases j:s[k].toNat=127
    ·have v:((S[k].toNat:Int)==127)=O:=by rw[d];simp;omega
     have e:=a (by simp[qT,j]);clear i j a hm d;go_wp2;go_ret;exact⟨eA e.o.symm,rfl⟩
    ·have v:((S[k].toNat:Int)==127)=U:=by rw[d];simp;omega
     have x:Hid ((s.take (k+1)).any qT=U):=D (Gc o.o c (by simp[qT];exact⟨by omega,j⟩));clear i j a hm d;go_wp2;go_round
     case rel=>exact⟨k+1,p.o,by go_num,x⟩
     case measure=>exact bA p.o _ eT
  ·have f:k=s.length:=A
   have b:s.any qT=U:=by have:=o.o;rw[f,List.take_length]at this;exact this
   by_cases l:s.length≤40
   ·have y:decide ((s.length:Int)≤40)=O:=by simp;omega
    have e:Hid (oW s=O):=D (by simp[oW,b,l]);have z:decide (k<s.length)=U:=by simp;omega
    clear l b f g;go_wp2;go_ret;exact⟨eA e.o.symm,rfl⟩
   ·have y:decide ((s.length:Int)≤40)=U:=by simp;omega
    have e:Hid (oW s=U):=D (by simp[oW,l]);have z:decide (k<s.length)=U:=by simp;omega
    clear l b f g;go_wp2;go_ret;exact⟨eA e.o.symm,rfl⟩
def lf(a b:Int):Int:=if a<b then -1 else if b<a then 1 else 0
def yj(a b:Int)(w:V):ar M 278 #[.int .i64 a,.int .i64 b] w fun e w'=>e=.returned (.int .i64 (lf a b))∧w=w':=by
 rcases Int.lt_trichotomy a b with h | h | h
 ·have e:lf a b= -1:=by simp[lf,h]
  rw[e]
  go_enter func278,ntmps278
  go_wp2;go_ret;exact⟨rfl,rfl⟩
 ·subst h
  have e:lf a a=0:=by simp[lf]
  rw[e]
  go_enter func278,ntmps278
  go_wp2;go_ret;exact⟨rfl,rfl⟩
 ·have e:lf a b=1:=by simp[lf,h];omega
  have c:¬a<b:=A
  rw[e]
  go_enter func278,ntmps278
  go_wp2;go_ret;exact⟨rfl,rfl⟩
def ow(x y:Int):Int:=if x=0 then y else x
def Sx(b:Nat)(x y:Int)(w:V)(c0:w.cell? ⟨b,0,J⟩=I (.int .i64 x))(c1:w.cell? ⟨b,1,J⟩=I (.int .i64 y)):
  ar M 231 #[.slice (I ⟨b,0,J⟩) 2 2] w fun e w'=>e=.returned (.int .i64 (ow x y))∧w=w':=by
 go_enter func231,ntmps231
 go_wp2
 go_loop[8] (fun i=>(i=.int .i64 0∨(i=.int .i64 1∧x=0)∨(i=.int .i64 2∧x=0∧y=0))) (fun i=>3-(bp i).toNat)
 case atStart=>exact .inl rfl
 case round=>
  rcases hrel with rfl | ⟨rfl,c⟩ | ⟨rfl,c,d⟩
  ·by_cases h:x=0
   ·subst h
    go_wp2;go_round
    case rel=>exact .inr (.inl ⟨rfl,by first | rfl | trivial⟩)
    case measure=>simp[bp]
   ·have e:(x != 0)=O:=by simpa using h
    have a:Hid (ow x y=x):=by show _=_;simp[ow,h]
    clear h;go_wp2;go_ret;first | exact⟨aZ a.o.symm,rfl⟩ | exact⟨by first | exact aZ a.o.symm | trivial,by trivial⟩
  ·subst c
   by_cases h:y=0
   ·subst h
    go_wp2;go_round
    case rel=>simp
    case measure=>simp[bp]
   ·have e:(y != 0)=O:=by simpa using h
    have a:Hid (ow 0 y=y):=by show _=_;simp[ow]
    clear h;go_wp2;go_ret;first | exact⟨aZ a.o.symm,rfl⟩ | exact⟨by first | exact aZ a.o.symm | trivial,by trivial⟩
  ·subst c d
   have a:Hid (ow 0 0=0):=rfl;go_wp2;go_ret;first | exact⟨aZ a.o.symm,rfl⟩ | exact⟨by first | exact aZ a.o.symm | trivial,by trivial⟩
def Cq(b:Nat)(x y z:Int)(w:V)(c0:w.cell? ⟨b,0,J⟩=I (.int .i64 x))(c1:w.cell? ⟨b,1,J⟩=I (.int .i64 y))(c2:w.cell? ⟨b,2,J⟩=I (.int .i64 z)):
  ar M 231 #[.slice (I ⟨b,0,J⟩) 3 3] w fun e w'=>e=.returned (.int .i64 (ow x (ow y z)))∧w=w':=by
 by_cases c:x=0
 ·subst c
  by_cases d:y=0
  ·subst d
   by_cases f:z=0
   ·subst f
    have a:Hid (ow 0 (ow 0 0)=0):=D (by simp[ow])
    go_enter func231,ntmps231
    go_wp2
    go_loop[8] (fun i=>(i=.int .i64 0∨i=.int .i64 1∨i=.int .i64 2∨i=.int .i64 3)) (fun i=>4-(bp i).toNat)
    case atStart=>exact .inl rfl
    case round=>
     rcases hrel with rfl | rfl | rfl | rfl
     ·go_wp2
      go_round
      case rel=>simp
      case measure=>simp[bp]
     ·go_wp2
      go_round
      case rel=>simp
      case measure=>simp[bp]
     ·go_wp2
      go_round
      case rel=>simp
      case measure=>simp[bp]
     ·go_wp2
      go_ret;exact⟨aZ a.o.symm,rfl⟩
   ·have e:(z != 0)=O:=by simpa using f
    have a:Hid (ow 0 (ow 0 z)=z):=D (by simp[ow]);clear f
    go_enter func231,ntmps231
    go_wp2
    go_loop[8] (fun i=>(i=.int .i64 0∨i=.int .i64 1∨i=.int .i64 2)) (fun i=>4-(bp i).toNat)
    case atStart=>exact .inl rfl
    case round=>
     rcases hrel with rfl | rfl | rfl
     ·go_wp2
      go_round
      case rel=>simp
      case measure=>simp[bp]
     ·go_wp2
      go_round
      case rel=>simp
      case measure=>simp[bp]
     ·go_wp2
      go_ret;exact⟨aZ a.o.symm,rfl⟩
  ·have e:(y != 0)=O:=by simpa using d
   have a:Hid (ow 0 (ow y z)=y):=D (by simp[ow,d]);clear d
   go_enter func231,ntmps231
   go_wp2
   go_loop[8] (fun i=>(i=.int .i64 0∨i=.int .i64 1)) (fun i=>4-(bp i).toNat)
   case atStart=>exact .inl rfl
   case round=>
    rcases hrel with rfl | rfl
    ·go_wp2
     go_round
     case rel=>simp
     case measure=>simp[bp]
    ·go_wp2
     go_ret;exact⟨aZ a.o.symm,rfl⟩
 ·have e:(x != 0)=O:=by simpa using c
  have a:Hid (ow x (ow y z)=x):=D (by simp[ow,c]);clear c
  go_enter func231,ntmps231
  go_wp2
  go_loop[8] (fun i=>i=.int .i64 0) (fun i=>4-(bp i).toNat)
  case atStart=>rfl
  case round=>
   subst hrel;go_wp2;go_ret;exact⟨aZ a.o.symm,rfl⟩
abbrev D3:=Int×Int×Int
def ks(a b:D3):Int:=ow (lf a.1 b.1) (ow (lf a.2.1 b.2.1) (lf a.2.2 b.2.2))
def ku(d:D3):List Z:=[.int .i64 d.1,.int .i64 d.2.1,.int .i64 d.2.2]
def I2(a1 a2 a3 b1 b2 b3:Int)(w:V):ar M 315 #[.agg #[.int .i64 a1,.int .i64 a2,.int .i64 a3],.agg #[.int .i64 b1,.int .i64 b2,.int .i64 b3]] w fun e w'=>e=.returned (.int .i64 (ks (a1,a2,a3) (b1,b2,b3)))∧ae w.heap.size w w':=by
 go_enter func315,ntmps315
 go_wp2
 go_region_held3 (fun w'=>w'.cell? ⟨w.heap.size,0,J⟩=I (.int .i64 a1)∧w'.cell? ⟨w.heap.size,1,J⟩=I (.int .i64 a2)∧w'.cell? ⟨w.heap.size,2,J⟩=I (.int .i64 a3)∧w'.cell? ⟨w.heap.size+1,0,J⟩=I (.int .i64 b1)∧w'.cell? ⟨w.heap.size+1,1,J⟩=I (.int .i64 b2)∧w'.cell? ⟨w.heap.size+1,2,J⟩=I (.int .i64 b3)) (simp [go_sem,World.cell?_alloc_past])
  (first
   | (go_at_call 278;refine(yj _ _ _).mono ?_;rintro e w' ⟨rfl,rfl⟩)
   | (go_at_call 231;refine(Cq _ (lf a1 b1) (lf a2 b2) (lf a3 b3) _ kN kN kN).mono ?_;rintro e w' ⟨rfl,rfl⟩))
 go_wp2;go_ret;refine⟨rfl,?_⟩
 repeat (first | exact aD _ _ | apply Below.drew | apply below_drewN | (refine Below.alloc ?_ (by simp;try omega) _))
def Gd:List D3→Bool
 | a::b::l=>decide (ks a b<0)&&Gd (b::l)
 | _=>O
def qU:∀l:List D3,Gd l=O↔ ∀j (h:j+1<l.length),ks l[j] l[j+1]<0
 | []=>by simp[Gd]
 | [a]=>by simp[Gd]
 | a::b::l=>by
  have d:=qU (b::l);simp only[Gd,Bool.and_eq_true,decide_eq_true_eq,d];constructor
  ·rintro⟨e,f⟩ j c
   cases j with
   | zero=>exact e
   | succ j=>exact f j (by simpa using c)
  ·intro h
   exact⟨h 0 bW,fun j c=>h (j+1) (by simpa using c)⟩
def qf(l:List D3):Int:=if 8<l.length then 4 else if Gd l then 0 else 10
def yk(x:D3):(ku x).length=3:=rfl
def NF(w:V)(ao:Option aB)(l:List D3)(cap:Nat)(h:cc ku 3 w (.slice ao l.length cap) l):
  ar M 251 #[.slice ao l.length cap] w (fun ev w'=>ev=.returned (.int .i64 (qf l))∧ae w.heap.size w w'):=by
 have HS:=D h;by_cases z:8<l.length
 ·have e1:decide (8<(l.length:Int))=O:=by simp;omega
  have r:Hid (qf l=4):=D (if_pos z);clear z h
  go_enter func251,ntmps251
  go_wp2;go_ret;exact⟨aZ r.o.symm,aD _ _⟩
 ·have e1:decide (8<(l.length:Int))=U:=by simp;omega
  have s:=D z;clear z h
  go_enter func251,ntmps251
  go_wp2
  go_loopw[9] (fun F wr=>∃k:Nat,k≤l.length∧F=.int .i64 k∧Hid (∀j (h:j+1<l.length),j+1<k→ks l[j] l[j+1]<0)∧Hid (ae w.heap.size w wr)) (fun F _=>l.length-(bp F).toNat)
  case atStart=>exact⟨0,aw _,rfl,D (fun j _ h=>by omega),aD _ _⟩
  case round=>
   obtain⟨k,hk,rfl,HA,n⟩:=hrel;rcases aL k l.length with g | t
   ·have q:=D g
    have e2:decide (k<l.length)=O:=by simpa using g
    have kb:bi ((k:Int)+1)=(k:Int)+1:=ag _ (by have:=s.o;omega);rcases Nat.eq_zero_or_pos k with H | o
    ·subst H
     have K:Hid (∀j (h:j+1<l.length),j+1<1→ks l[j] l[j+1]<0):=D (fun j _ h=>by omega);go_upto_region 6 with fail
     go_quiet (fail)
     go_wp2;go_round
     case rel=>exact⟨1,q.o,by go_num,K,D (below_drewN n.o _)⟩
     case measure=>exact bA q.o _ eT
    ·obtain⟨j,u⟩:∃j,k=j+1:=⟨k-1,by omega⟩
     have v:j<l.length:=A
     obtain⟨b,a,rfl,L,C⟩:=HS.o.at yk aC n.o (G _) j v;obtain⟨b',d0,N,-,q2⟩:=HS.o.at yk aC n.o (G _) k g;injection N with N;injection N with P Q;subst P Q
     obtain⟨a1,a2,a3,c1,c2,i,p0,p1,p2,r0,r1,r2,hp⟩:∃a1 a2 a3 c1 c2 i,wr.cell? ⟨b,a+j*3,J⟩=I (.int .i64 a1)∧wr.cell? ⟨b,a+j*3+1,J⟩=I (.int .i64 a2)∧wr.cell? ⟨b,a+j*3+2,J⟩=I (.int .i64 a3)∧
       wr.cell? ⟨b,a+k*3,J⟩=I (.int .i64 c1)∧wr.cell? ⟨b,a+k*3+1,J⟩=I (.int .i64 c2)∧wr.cell? ⟨b,a+k*3+2,J⟩=I (.int .i64 i)∧ks l[j] l[k]=ks (a1,a2,a3) (c1,c2,i):=
      ⟨_,_,_,_,_,_,C 0 _ rfl,C 1 _ rfl,C 2 _ rfl,q2 0 _ rfl,q2 1 _ rfl,q2 2 _ rfl,rfl⟩
     have R:Hid (∀(h:j+1<l.length),ks (l[j]'(Nat.lt_of_succ_lt h)) l[j+1]=ks (a1,a2,a3) (c1,c2,i)):=D (fun _=>by subst u;exact hp);have S:=D u;have e0:(0:Int)≤(j:Int):=A
     have f0:(0:Int)≤(k:Int):=A
     have g0:(k:Int)<(l.length:Int):=A
     have h0:(j:Int)<(l.length:Int):=A
     have i0:IntKind.i64.wrap ((k:Int)-1)=(j:Int):=by rw[IntKind.wrap_i64];have:=s.o;omega
     have j0:bi ((k:Int)-1)=(j:Int):=by rw[show (k:Int)-1=(j:Int)by omega];exact ag _ (by have:=s.o;omega)
     have k0:decide (0<k)=O:=by simpa using o
     have d:b<wr.heap.size:=Nat.lt_of_lt_of_le L n.o.size;clear C q2 hp g v u o hk;go_upto_region 6 with fail
     obtain⟨f,T⟩:∃f,ks (a1,a2,a3) (c1,c2,i)=f:=⟨_,rfl⟩;rw[T]at R;have HF:=D T;clear T;have x:ae wr.heap.size wr wr:=aD _ _;have y:Hid (∀W,ae wr.heap.size wr W→ar M 315 #[.agg #[.int .i64 a1,.int .i64 a2,.int .i64 a3],.agg #[.int .i64 c1,.int .i64 c2,.int .i64 i]] W (fun e w'=>e=.returned (.int .i64 f)∧ae wr.heap.size wr w')):=D (fun W m=>(I2 a1 a2 a3 c1 c2 i W).mono (fun e w' h=>⟨by rw[←HF.o];exact h.1,m.trans (h.2.mono m.size)⟩))
     have E:Hid (∀W,ae wr.heap.size wr W→(ae wr.heap.size wr W∧W.cell? ⟨b,a+j*3,J⟩=I (.int .i64 a1)∧W.cell? ⟨b,a+j*3+1,J⟩=I (.int .i64 a2)∧W.cell? ⟨b,a+j*3+2,J⟩=I (.int .i64 a3)∧W.cell? ⟨b,a+k*3,J⟩=I (.int .i64 c1)∧W.cell? ⟨b,a+k*3+1,J⟩=I (.int .i64 c2)∧W.cell? ⟨b,a+k*3+2,J⟩=I (.int .i64 i))):=
      D (fun W m=>⟨m,cell_behind p0 d W m,cell_behind p1 d W m,cell_behind p2 d W m,cell_behind r0 d W m,cell_behind r1 d W m,cell_behind r2 d W m⟩)
     by_cases c:f<0
     rotate_left
     ·have e3:decide ((0:Int)≤f)=O:=by simpa using (by omega:(0:Int)≤f)
      have r:Hid (qf l=10):=D (by
       have X:=R.o (by have:=S.o;have:=q.o;omega);unfold qf
       rw[if_neg s.o,if_neg (fun h=>c (by rw[←X];exact(qU l).1 h j (by have:=S.o;have:=q.o;omega)))])
      clear c
      go_region_held3 (fun w'=>ae wr.heap.size wr w'∧w'.cell? ⟨b,a+j*3,J⟩=I (.int .i64 a1)∧w'.cell? ⟨b,a+j*3+1,J⟩=I (.int .i64 a2)∧w'.cell? ⟨b,a+j*3+2,J⟩=I (.int .i64 a3)∧w'.cell? ⟨b,a+k*3,J⟩=I (.int .i64 c1)∧w'.cell? ⟨b,a+k*3+1,J⟩=I (.int .i64 c2)∧w'.cell? ⟨b,a+k*3+2,J⟩=I (.int .i64 i))
       (first | assumption | exact E.o _ (by assumption) | exact E.o _ x.drew)
       ((go_at_call 315;(with_reducible refine(y.o _ (by go_split_ands;assumption)).mono ?_);rintro en w9 ⟨rfl,a0⟩))
      go_wp2;go_ret;exact⟨aZ r.o.symm,n.o.trans (qF (B:=wr.heap.size) (by assumption) n.o.size)⟩
     have e3:decide ((0:Int)≤f)=U:=by simpa using c
     have K:Hid (∀p (h:p+1<l.length),p+1<k+1→ks l[p] l[p+1]<0):=D (fun p h g=>by
      rcases aL (p+1) k with h1 | h1
      ·exact HA.o p h h1
      ·have b0:p=j:=by have:=S.o;omega
       subst b0
       rw[R.o h];exact c)
     clear c
     go_region_held3 (fun w'=>ae wr.heap.size wr w'∧w'.cell? ⟨b,a+j*3,J⟩=I (.int .i64 a1)∧w'.cell? ⟨b,a+j*3+1,J⟩=I (.int .i64 a2)∧w'.cell? ⟨b,a+j*3+2,J⟩=I (.int .i64 a3)∧w'.cell? ⟨b,a+k*3,J⟩=I (.int .i64 c1)∧w'.cell? ⟨b,a+k*3+1,J⟩=I (.int .i64 c2)∧w'.cell? ⟨b,a+k*3+2,J⟩=I (.int .i64 i))
      (first | assumption | exact E.o _ (by assumption) | exact E.o _ x.drew)
      ((go_at_call 315;(with_reducible refine(y.o _ (by go_split_ands;assumption)).mono ?_);rintro en w9 ⟨rfl,a0⟩))
     go_wp2;go_round
     case rel=>exact⟨k+1,q.o,by go_num,K,D (n.o.trans (qF (B:=wr.heap.size) (by assumption) n.o.size))⟩
     case measure=>exact bA q.o _ eT
   ·have c0:k=l.length:=A
    have r:Hid (qf l=0):=D (by
     unfold qf
     rw[if_neg s.o,if_pos ((qU l).2 fun j u=>HA.o j u A)])
    have e2:decide (k<l.length)=U:=by simpa using t
    clear c0 t;go_wp2;go_ret;exact⟨aZ r.o.symm,n.o⟩
structure hJ where
 d:D3
 c:Int
 v:Int
 k:Int
 key:List UInt8
 tx:List UInt8
 n:Int
 t:Int
 ds:List D3
def hJ.cells(o:hJ)(ao:Option aB)(cap:Nat):Array Z:= (iG o.d.1 o.d.2.1 o.d.2.2 o.c o.v o.k o.key o.tx o.n o.t ao o.ds.length cap)
def jU(k n:Int)(key:List UInt8)(ds:List D3):Int:=
 if k=3 then(if key=[]then 1 else qf ds)
 else if k=1∨k=2 then(if key=[]then 1 else 0)
 else if k=4 then(if key=[]then 1 else if n=0∨mM n (-1099511627776) 1099511627776=U then 11 else 0)
 else if k=5 then(if mM n 0 999=U then 11 else 0)
 else 0
def iV(o:hJ):Int:=
 if mM o.d.1 0 5=U∨mM o.d.2.1 1 1073741824=U∨mM o.d.2.2 1 1073741824=U∨mM o.c 0 2=U∨mM o.v 1 3=U∨mM o.t 0 1099511627776=U then 1
 else if mM o.k 1 5=U then 3
 else if oW o.key=U∨oW o.tx=U then 5
 else jU o.k o.n o.key o.ds
def NG(w:V)(ao:Option aB)(cap:Nat)(r s u c v k n t:Int)(key tx:List UInt8)(l:List D3)(h:cc ku 3 w (.slice ao l.length cap) l):
  ar M 177 #[.agg (iG r s u c v k key tx n t ao l.length cap)] w (fun z w'=>z=.returned (.int .i64 (jU k n key l))∧ae w.heap.size w w'):=by
 obtain⟨W,x,B,C,F,y,p⟩:∃W,w.alloc (.cells (iG r s u c v k key tx n t ao l.length cap) 75)=W∧W.cell? ⟨w.heap.size,5,J⟩=I (.int .i64 k)∧W.cell? ⟨w.heap.size,6,J⟩=I (.string ⟨⟨key⟩⟩)∧W.cell? ⟨w.heap.size,8,J⟩=I (.int .i64 n)∧W.cell? ⟨w.heap.size,10,J⟩=I (.slice ao l.length cap)∧ae w.heap.size w W:=
  ⟨_,rfl,by simp[go_sem],by simp[go_sem],by simp[go_sem],by simp[go_sem],(aD _ _).alloc (G _) _⟩
 have f:=D x;have e:=D p;have H:Hid (cc ku 3 W (.slice ao l.length cap) l):=D (h.keep p (G _));obtain⟨E,b⟩:∃E,jU k n key l=E:=⟨_,rfl⟩;rw[b];clear h p x;have m:key=[]∨key≠[]:=by by_cases h:key=[]<;>simp[h]
 by_cases k3:k=3
 ·subst k3
  rcases m with a | a
  ·have i:key.isEmpty=O:=by rw[a];rfl
   have d:Hid ((1:Int)=E):=D (by rw[←b];simp[jU,a]);clear b a
   go_enter func177,ntmps177
   go_upto_region 1 with fail
   rw[f.o];go_wp2;go_ret;exact⟨aZ d.o,e.o⟩
  ·have i:key.isEmpty=U:=by cases key with
    | nil=>exact absurd rfl a
    | cons=>rfl
   have d:Hid (qf l=E):=D (by rw[←b];simp[jU,a]);clear b a
   go_enter func177,ntmps177
   go_upto_region 1 with fail
   rw[f.o];go_wp2_with ((go_at_call 251;refine(NF W ao l cap H.o).mono ?_);rintro en o ⟨rfl,q⟩)
   go_ret;exact⟨aZ d.o,e.o.trans (q.mono e.o.size)⟩
 by_cases k1:k=1
 ·subst k1
  rcases m with a | a
  ·have i:key.isEmpty=O:=by rw[a];rfl
   have d:Hid ((1:Int)=E):=D (by rw[←b];simp[jU,a]);clear b a
   go_enter func177,ntmps177
   go_upto_region 1 with fail
   rw[f.o];go_wp2;go_ret;exact⟨aZ d.o,e.o⟩
  ·have i:key.isEmpty=U:=by cases key with
    | nil=>exact absurd rfl a
    | cons=>rfl
   have d:Hid ((0:Int)=E):=D (by rw[←b];simp[jU,a]);clear b a
   go_enter func177,ntmps177
   go_upto_region 1 with fail
   rw[f.o];go_wp2;go_ret;exact⟨aZ d.o,e.o⟩
 by_cases k2:k=2
 ·subst k2
  rcases m with a | a
  ·have i:key.isEmpty=O:=by rw[a];rfl
   have d:Hid ((1:Int)=E):=D (by rw[←b];simp[jU,a]);clear b a
   go_enter func177,ntmps177
   go_upto_region 1 with fail
   rw[f.o];go_wp2;go_ret;exact⟨aZ d.o,e.o⟩
  ·have i:key.isEmpty=U:=by cases key with
    | nil=>exact absurd rfl a
    | cons=>rfl
   have d:Hid ((0:Int)=E):=D (by rw[←b];simp[jU,a]);clear b a
   go_enter func177,ntmps177
   go_upto_region 1 with fail
   rw[f.o];go_wp2;go_ret;exact⟨aZ d.o,e.o⟩
 by_cases k4:k=4
 ·subst k4
  rcases m with a | a
  ·have i:key.isEmpty=O:=by rw[a];rfl
   have d:Hid ((1:Int)=E):=D (by rw[←b];simp[jU,a]);clear b a
   go_enter func177,ntmps177
   go_upto_region 1 with fail
   rw[f.o];go_wp2;go_ret;exact⟨aZ d.o,e.o⟩
  ·have i:key.isEmpty=U:=by cases key with
    | nil=>exact absurd rfl a
    | cons=>rfl
   by_cases j:n=0
   ·subst j
    have d:Hid ((11:Int)=E):=D (by rw[←b];simp[jU,a]);clear b a
    go_enter func177,ntmps177
    go_upto_region 1 with fail
    rw[f.o];go_wp2;go_ret;exact⟨aZ d.o,e.o⟩
   ·have en:(n==0)=U:=by simpa using j
    cases g:mM n (-1099511627776) 1099511627776 with
    | true=>
     have d:Hid ((0:Int)=E):=D (by rw[←b];simp[jU,a,j,g]);clear b a j
     go_enter func177,ntmps177
     go_upto_region 1 with fail
     rw[f.o];go_wp2_with ((go_at_call 175;refine(fF _ _ _ _).mono ?_);rintro en o ⟨rfl,rfl⟩)
     go_ret;exact⟨aZ d.o,e.o⟩
    | false=>
     have d:Hid ((11:Int)=E):=D (by rw[←b];simp[jU,a,j,g]);clear b a j
     go_enter func177,ntmps177
     go_upto_region 1 with fail
     rw[f.o];go_wp2_with ((go_at_call 175;refine(fF _ _ _ _).mono ?_);rintro en o ⟨rfl,rfl⟩)
     go_ret;exact⟨aZ d.o,e.o⟩
 by_cases k5:k=5
 ·subst k5
  cases g:mM n 0 999 with
  | true=>
   have d:Hid ((0:Int)=E):=D (by rw[←b];simp[jU,g]);clear b
   go_enter func177,ntmps177
   go_upto_region 1 with fail
   rw[f.o];go_wp2_with ((go_at_call 175;refine(fF _ _ _ _).mono ?_);rintro en o ⟨rfl,rfl⟩)
   go_ret;exact⟨aZ d.o,e.o⟩
  | false=>
   have d:Hid ((11:Int)=E):=D (by rw[←b];simp[jU,g]);clear b
   go_enter func177,ntmps177
   go_upto_region 1 with fail
   rw[f.o];go_wp2_with ((go_at_call 175;refine(fF _ _ _ _).mono ?_);rintro en o ⟨rfl,rfl⟩)
   go_ret;exact⟨aZ d.o,e.o⟩
 ·have K:(k==3)=U:=by simpa using k3
  have L:(k==1)=U:=by simpa using k1
  have N:(k==2)=U:=by simpa using k2
  have P:(k==4)=U:=by simpa using k4
  have Q:(k==5)=U:=by simpa using k5
  have d:Hid ((0:Int)=E):=D (by rw[←b];simp[jU,k1,k2,k3,k4,k5]);clear b k1 k2 k3 k4 k5
  go_enter func177,ntmps177
  go_upto_region 1 with fail
  rw[f.o];go_wp2;go_ret;exact⟨aZ d.o,e.o⟩
def nH(w:V)(ao:Option aB)(cap:Nat)(i j m c v k n t:Int)(key tx:List UInt8)(l:List D3)(h:cc ku 3 w (.slice ao l.length cap) l)(r:key.length<1000000000)(s:tx.length<1000000000):
  ar M 108 #[.agg (iG i j m c v k key tx n t ao l.length cap)] w (fun F w'=>F=.returned (.int .i64 (iV ⟨(i,j,m),c,v,k,key,tx,n,t,l⟩))∧ae w.heap.size w w'):=by
 obtain⟨W,B,L,N,q2,P,Q,R,S,T,X,q9,H,x⟩:∃W,w.alloc (.cells (iG i j m c v k key tx n t ao l.length cap) 75)=W∧W.cell? ⟨w.heap.size,0,J⟩=I (.int .i64 i)∧W.cell? ⟨w.heap.size,1,J⟩=I (.int .i64 j)∧W.cell? ⟨w.heap.size,2,J⟩=I (.int .i64 m)∧W.cell? ⟨w.heap.size,3,J⟩=I (.int .i64 c)∧W.cell? ⟨w.heap.size,4,J⟩=I (.int .i64 v)∧W.cell? ⟨w.heap.size,5,J⟩=I (.int .i64 k)∧W.cell? ⟨w.heap.size,6,J⟩=I (.string ⟨⟨key⟩⟩)∧W.cell? ⟨w.heap.size,7,J⟩=I (.string ⟨⟨tx⟩⟩)∧W.cell? ⟨w.heap.size,8,J⟩=I (.int .i64 n)∧W.cell? ⟨w.heap.size,9,J⟩=I (.int .i64 t)∧W.cell? ⟨w.heap.size,10,J⟩=I (.slice ao l.length cap)∧ae w.heap.size w W:=
  ⟨_,rfl,by simp[go_sem],by simp[go_sem],by simp[go_sem],by simp[go_sem],by simp[go_sem],by simp[go_sem],by simp[go_sem],by simp[go_sem],by simp[go_sem],by simp[go_sem],by simp[go_sem],(aD _ _).alloc (G _) _⟩
 have g:=D B;have f:=D x;have K:Hid (cc ku 3 W (.slice ao l.length cap) l):=D (h.keep x (G _));have o:=D r;have p:=D s;obtain⟨E,b⟩:∃E,iV ⟨(i,j,m),c,v,k,key,tx,n,t,l⟩=E:=⟨_,rfl⟩;rw[b];clear h x B r s
 cases f0:mM i 0 5 with
 | false=>
  have d:Hid ((1:Int)=E):=D (by rw[←b];simp[iV,f0]);clear b
  go_enter func108,ntmps108
  go_upto_block 0 with fail
  rw[g.o];go_wp2_with ((go_at_call 175;refine(fF _ _ _ _).mono ?_);rintro en e ⟨rfl,a⟩;rw[a];clear a)
  go_ret;exact⟨aZ d.o,f.o⟩
 | true=>
  cases f1:mM j 1 1073741824 with
  | false=>
   have d:Hid ((1:Int)=E):=D (by rw[←b];simp[iV,f0,f1]);clear b
   go_enter func108,ntmps108
   go_upto_block 0 with fail
   rw[g.o];go_wp2_with ((go_at_call 175;refine(fF _ _ _ _).mono ?_);rintro en e ⟨rfl,a⟩;rw[a];clear a)
   go_ret;exact⟨aZ d.o,f.o⟩
  | true=>
   cases f2:mM m 1 1073741824 with
   | false=>
    have d:Hid ((1:Int)=E):=D (by rw[←b];simp[iV,f0,f1,f2]);clear b
    go_enter func108,ntmps108
    go_upto_block 0 with fail
    rw[g.o];go_wp2_with ((go_at_call 175;refine(fF _ _ _ _).mono ?_);rintro en e ⟨rfl,a⟩;rw[a];clear a)
    go_ret;exact⟨aZ d.o,f.o⟩
   | true=>
    cases q:mM c 0 2 with
    | false=>
     have d:Hid ((1:Int)=E):=D (by rw[←b];simp[iV,f0,f1,f2,q]);clear b
     go_enter func108,ntmps108
     go_upto_block 0 with fail
     rw[g.o];go_wp2_with ((go_at_call 175;refine(fF _ _ _ _).mono ?_);rintro en e ⟨rfl,a⟩;rw[a];clear a)
     go_ret;exact⟨aZ d.o,f.o⟩
    | true=>
     cases f4:mM v 1 3 with
     | false=>
      have d:Hid ((1:Int)=E):=D (by rw[←b];simp[iV,f0,f1,f2,q,f4]);clear b
      go_enter func108,ntmps108
      go_upto_block 0 with fail
      rw[g.o];go_wp2_with ((go_at_call 175;refine(fF _ _ _ _).mono ?_);rintro en e ⟨rfl,a⟩;rw[a];clear a)
      go_ret;exact⟨aZ d.o,f.o⟩
     | true=>
      cases f5:mM t 0 1099511627776 with
      | false=>
       have d:Hid ((1:Int)=E):=D (by rw[←b];simp[iV,f0,f1,f2,q,f4,f5]);clear b
       go_enter func108,ntmps108
       go_upto_block 0 with fail
       rw[g.o];go_wp2_with ((go_at_call 175;refine(fF _ _ _ _).mono ?_);rintro en e ⟨rfl,a⟩;rw[a];clear a)
       go_ret;exact⟨aZ d.o,f.o⟩
      | true=>
       cases u:mM k 1 5 with
       | false=>
        have d:Hid ((3:Int)=E):=D (by rw[←b];simp[iV,f0,f1,f2,q,f4,f5,u]);clear b
        go_enter func108,ntmps108
        go_upto_block 0 with fail
        rw[g.o];go_wp2_with ((go_at_call 175;refine(fF _ _ _ _).mono ?_);rintro en e ⟨rfl,a⟩;rw[a];clear a)
        go_ret;exact⟨aZ d.o,f.o⟩
       | true=>
        cases y:oW key with
        | false=>
         have d:Hid ((5:Int)=E):=D (by rw[←b];simp[iV,f0,f1,f2,q,f4,f5,u,y]);clear b
         go_enter func108,ntmps108
         go_upto_block 0 with fail
         rw[g.o];go_wp2_with (first | ((go_at_call 175;refine(fF _ _ _ _).mono ?_);rintro en e ⟨rfl,a⟩;rw[a];clear a) | ((go_at_call 176;refine(wD _ _ (by first | exact o.o | exact p.o)).mono ?_);rintro en e ⟨rfl,a⟩;rw[a];clear a))
         go_ret;exact⟨aZ d.o,f.o⟩
        | true=>
         cases C:oW tx with
         | false=>
          have d:Hid ((5:Int)=E):=D (by rw[←b];simp[iV,f0,f1,f2,q,f4,f5,u,y,C]);clear b
          go_enter func108,ntmps108
          go_upto_block 0 with fail
          rw[g.o];go_wp2_with (first | ((go_at_call 175;refine(fF _ _ _ _).mono ?_);rintro en e ⟨rfl,a⟩;rw[a];clear a) | ((go_at_call 176;refine(wD _ _ (by first | exact o.o | exact p.o)).mono ?_);rintro en e ⟨rfl,a⟩;rw[a];clear a))
          go_ret;exact⟨aZ d.o,f.o⟩
         | true=>
          have d:Hid (jU k n key l=E):=D (by rw[←b];simp[iV,f0,f1,f2,q,f4,f5,u,y,C]);clear b
          go_enter func108,ntmps108
          go_upto_block 0 with fail
          rw[g.o];go_wp2_with (first | ((go_at_call 175;refine(fF _ _ _ _).mono ?_);rintro en e ⟨rfl,a⟩;rw[a];clear a) | ((go_at_call 176;refine(wD _ _ (by first | exact o.o | exact p.o)).mono ?_);rintro en e ⟨rfl,a⟩;rw[a];clear a) | ((go_at_call 177;refine(NG W ao cap i j m c v k n t key tx l K.o).mono ?_);rintro en e ⟨rfl,z⟩))
          go_ret;exact⟨aZ d.o,f.o.trans (z.mono f.o.size)⟩
end Go.Proofs.YtdgllhcfablaoaaGreat
set_option maxRecDepth 100000
namespace Go.Proofs.YtdgllhcfablaoaaGreat
open Go.RowKit
def mN(c:Nat):Nat:=fW (c/2) (3988292384*(c%2))
def mO:Nat→Nat→Nat
 | 0,c=>c
 | n+1,c=>mO n (mN c)
def mP:List Nat→Nat→Nat
 | [],c=>c
 | x::l,c=>mP l (mO 8 (fW c x))
def qV{m x:Nat}(h:m<4294967296)(e:x<4294967296):p_ .xor .u32 (m:Int) (x:Int)=((fW m x:Nat):Int):=by
 have a:(bF 32 (m:Int)).toNat=m:=by rw[fI,gG];exact gv A
 have b:(bF 32 (x:Int)).toNat=x:=by rw[fI,gG];exact gv A
 have c:fW m x<2 ^ 32:=jO A A;have d:(bF 32 (m:Int) ^^^ bF 32 (x:Int)).toNat=fW m x:=by rw[BitVec.toNat_xor,a,b];rfl
 show IntKind.u32.wrap (((bF 32 (m:Int) ^^^ bF 32 (x:Int)).toNat:Nat):Int)=_;rw[d];generalize fW m x=z at c;simp only[jI,iS,iy];simp;omega
def I3{c:Nat}(h:c<4294967296):p_ BinOp.xor lN IntKind.u32.max (c:Int)=((fW c 4294967295:Nat):Int):=by
 have a:IntKind.u32.max=((4294967295:Nat):Int):=aC
 rw[a,qV A h];have:fW 4294967295 c=fW c 4294967295:=Nat.xor_comm _ _;rw[this]
def Cr{m:Nat}(h:m<4294967296):p_ .and .u32 (m:Int) 1=((m%2:Nat):Int):=by
 have a:(bF 32 (m:Int)).toNat=m:=by rw[fI,gG];exact gv A
 have b:(bF 32 (m:Int) &&& bF 32 (1:Int)).toNat=m%2:=by
  rw[qz,a];show m &&& 1=_;exact vJ m
 show IntKind.u32.wrap (((bF 32 (m:Int) &&& bF 32 (1:Int)).toNat:Nat):Int)=_;rw[b];simp only[jI,iS,iy];simp;omega
def NH{n:Nat}(h:n<4294967296):p_ BinOp.xor lN ((n:Int)/2) (3988292384*p_ BinOp.and lN (n:Int) 1%4294967296)=((mN n:Nat):Int):=by
 rw[Cr h]
 have a:(3988292384*((n%2:Nat):Int)%4294967296)=((3988292384*(n%2):Nat):Int):=by
  have:=fo n (show 2>0 by omega);omega
 have b:((n:Int)/2)=((n/2:Nat):Int):=A
 rw[a,b];exact qV A (by have:=fo n (show 2>0 by omega);omega)
def rN{c:Nat}(h:c<4294967296):mN c<4294967296:=by
 have a:c/2<2 ^ 32:=A
 have b:3988292384*(c%2)<2 ^ 32:=by have:=fo c (show 2>0 by omega);omega
 exact jO a b
def BY{c x:Nat}(h:c<4294967296)(a:x<4294967296):fW c x<4294967296:=jO (n:=32) h a
def NI(l:List Nat)(v:∀x,x∈l→x<256)(a:Option aB)(cap:Nat)(W:V)(w:∀(k x:Nat),l[k]?=I x→∃b d,a=I ⟨b,d,J⟩∧W.cell? ⟨b,d+k,J⟩=I (.int .u8 x))(t:l.length≤10000000):
  ar M 119 #[.slice a l.length cap] W fun e w'=>e=.returned (.int .u32 (fW (mP l 4294967295) 4294967295:Nat))∧w'=W:=by
 go_enter func119,ntmps119
 go_wp2_with fail
 go_loopw[3,8] (fun c i wr=>∃k m:Nat,k≤l.length∧m<4294967296∧i=.int .i64 k∧c=.int .u32 m∧mP (l.drop k) m=mP l 4294967295∧wr=W) (fun _ i _=>l.length-(bp i).toNat)
 case atStart=>exact⟨0,4294967295,aw _,by omega,rfl,rfl,rfl,rfl⟩
 case round=>
  obtain⟨k,m,F,hm,rfl,rfl,f,rfl⟩:=hrel;by_cases h:k<l.length
  ·have y:(k:Int)<l.length:=A
   have k0:(0:Int)≤(k:Int):=A
   obtain⟨x,o⟩:∃x,l[k]?=I x:=⟨_,cC h⟩;obtain⟨b,d,rfl,p⟩:=w k x o;have z:=v x (List.mem_of_getElem? o);go_wp2_with fail
   rw[qV hm A];have q:=BY hm (show x<4294967296 by omega)
   go_loopw[3,16] (fun c j r=>∃i n:Nat,i≤8∧n<4294967296∧j=.int .i64 i∧c=.int .u32 n∧mO (8-i) n=mO 8 (fW m x)∧r=wr) (fun _ j _=>8-(bp j).toNat)
   case atStart=>exact⟨0,fW m x,by omega,q,rfl,rfl,rfl,rfl⟩
   case round=>
    obtain⟨i,n,hi,s,rfl,rfl,g,rfl⟩:=hrel;by_cases u:i<8
    ·have B:(i:Int)<8:=A
     have H:(0:Int)≤(i:Int):=A
     go_wp2_with fail
     refine⟨⟨i+1,mN n,by omega,rN s,by simp,by rw[NH s],?_,trivial⟩,by simp only[bp];omega⟩;have e:8-i=(8-(i+1))+1:=A
     rw[e]at g;exact g
    ·obtain rfl:i=8:=A
     have g:n=mO 8 (fW m x):=g;go_wp2_with fail
     refine⟨⟨k+1,n,by omega,s,by simp,rfl,?_,trivial⟩,by simp only[bp];omega⟩;rw[g,←f]
     have e:l.drop k=x::l.drop (k+1):=by
      obtain⟨C,E⟩:=List.getElem?_eq_some_iff.mp o;rw[List.drop_eq_getElem_cons C,E]
     rw[e];rfl
  ·obtain rfl:k=l.length:=A
   have k0:(0:Int)≤(l.length:Int):=A
   rw[List.drop_length]at f;have f:m=mP l 4294967295:=f;go_wp2_with fail
   rw[I3 (by rw[←f];exact hm)];go_ret;exact⟨rfl,rfl⟩
def me{w:V}{a:Option aB}{cs:List Z}(h:Rd w a cs){k:Nat}{u:Z}(l:cs[k]?=I u):∃b c,a=I ⟨b,c,J⟩∧w.cell? ⟨b,c+k,J⟩=I u:=by
 obtain⟨⟨b,c,f⟩,rfl,e⟩:=h k u l
 have g:f=J:=by
  cases k with
  | zero=>
   have e:w.cell? ⟨b,c,f⟩=I u:=e
   cases f with
   | none=>rfl
   | some s=>
    unfold an at e
    split at e
    ·simp at e
    ·cases e
  | succ k=>
   obtain⟨u0,i⟩:∃u0,cs[0]?=I u0:=by
    have:=(List.getElem?_eq_some_iff.1 l).1;exact⟨_,cC A⟩
   obtain⟨m,j,d⟩:=h 0 u0 i;injection j with j;subst j;have d:w.cell? ⟨b,c,f⟩=I u0:=d
   cases f with
   | none=>rfl
   | some s=>
    unfold an at d
    split at d
    ·simp at d
    ·cases d
 subst g;refine⟨b,c,rfl,?_⟩;unfold Addr.add at e
 split at e
 ·rename_i i;subst i;exact e
 ·exact e
def Cu(l:List UInt8):Nat:=fW (mP (l.map zw) 4294967295) 4294967295
def I4(w:V)(a:Option aB)(l:List UInt8)(n cap:Nat)(f:n=l.length)(hm:l.length≤10000000)(h:Rd w a (bX l)):
  ar M 119 #[.slice a n cap] w fun e w'=>e=.returned (.int .u32 (Cu l:Nat))∧w'=w:=by
 subst f
 have:=NI (l.map zw) (by intro x c;obtain⟨b,_,rfl⟩:=l_.1 c;exact b.toNat_lt) a cap w (by
  intro k x c;rw[eL]at c
  cases d:l[k]? with
  | none=>rw[d]at c;cases c
  | some b=>
   rw[d]at c;injection c with c
   exact me h (by unfold bX;rw[eL,d];show I _=I _;rw[←c]))
 rw[fX]at this;exact this hm
end Go.Proofs.YtdgllhcfablaoaaGreat
namespace Go.Proofs.YtdgllhcfablaoaaGreat
open Go.RowKit
def sN:List UInt8→Nat
 | a::b::c::d::_=>a.toNat*16777216+b.toNat*65536+c.toNat*256+d.toNat
 | _=>0
def I5(l:List UInt8):sN l<4294967296:=by
 unfold sN
 split
 ·rename_i a b c d _
  have:=a.toNat_lt;have:=b.toNat_lt;have:=c.toNat_lt;have:=d.toNat_lt;omega
 ·omega
def wE{m x:Nat}(h:m<4294967296)(e:x<4294967296):p_ .or .u32 (m:Int) (x:Int)=((m ||| x:Nat):Int):=by
 have a:(bF 32 (m:Int)).toNat=m:=by rw[fI,gG];exact gv A
 have b:(bF 32 (x:Int)).toNat=x:=by rw[fI,gG];exact gv A
 have c:m ||| x<2 ^ 32:=Nat.or_lt_two_pow A A
 have d:(bF 32 (m:Int) ||| bF 32 (x:Int)).toNat=m ||| x:=by rw[BitVec.toNat_or,a,b]
 show IntKind.u32.wrap (((bF 32 (m:Int) ||| bF 32 (x:Int)).toNat:Nat):Int)=_;rw[d];generalize m ||| x=z at c
 simp only[jI,iS,iy];simp;omega
def Py(k u r:Nat)(h:r<2 ^ k):(u*2 ^ k) ||| r=u*2 ^ k+r:=by
 have:=Nat.shiftLeft_add_eq_or_of_lt (i:=k) (b:=r) h u;rw[Nat.shiftLeft_eq]at this;exact this.symm
def Cv(a b c d:Nat)(h:a<256)(i:b<256)(j:c<256)(k:d<256):
  p_ oe lN (p_ oe lN (p_ oe lN ((a:Int)%4294967296*16777216%4294967296) ((b:Int)%4294967296*65536%4294967296)) ((c:Int)%4294967296*256%4294967296)) ((d:Int)%4294967296)=((a*16777216+b*65536+c*256+d:Nat):Int):=by
 have l:((a:Int)%4294967296*16777216%4294967296)=((a*16777216:Nat):Int):=A
 have B:((b:Int)%4294967296*65536%4294967296)=((b*65536:Nat):Int):=A
 have C:((c:Int)%4294967296*256%4294967296)=((c*256:Nat):Int):=A
 have m:((d:Int)%4294967296)=((d:Nat):Int):=A
 rw[l,B,C,m,wE A A]
 have e:a*16777216 ||| b*65536=(a*256+b)*65536:=by
  have:=Py 24 a (b*65536) A;simp only[show (2:Nat) ^ 24=16777216 from rfl]at this;rw[this];omega
 rw[e,wE A A]
 have f:(a*256+b)*65536 ||| c*256=((a*256+b)*256+c)*256:=by
  have:=Py 16 (a*256+b) (c*256) A;simp only[show (2:Nat) ^ 16=65536 from rfl]at this;rw[this];omega
 rw[f,wE A A]
 have g:((a*256+b)*256+c)*256 ||| d=a*16777216+b*65536+c*256+d:=by
  have:=Py 8 ((a*256+b)*256+c) d A;simp only[show (2:Nat) ^ 8=256 from rfl]at this;rw[this];omega
 rw[g]
def yl(w:V)(ao:Option aB)(a b c d:UInt8)(l:List UInt8)(n cap:Nat)(i:n=(a::b::c::d::l).length)(h:Rd w ao (bX (a::b::c::d::l))):
  ar M 118 #[.slice ao n cap] w fun e w'=>e=.returned (.int .u32 (sN (a::b::c::d::l):Nat))∧∃m,w'=w.drewN m:=by
 obtain⟨bk,r,rfl,t⟩:=me h (k:=0) (u:=.int .u8 a.toNat) rfl;obtain⟨j,g,f,x⟩:=me h (k:=1) (u:=.int .u8 b.toNat) rfl;injection f with f;injection f with o p;subst o p;obtain⟨j,g,f,q2⟩:=me h (k:=2) (u:=.int .u8 c.toNat) rfl;injection f with f;injection f with o p;subst o p;obtain⟨j,g,f,y⟩:=me h (k:=3) (u:=.int .u8 d.toNat) rfl;injection f with f;injection f with o p;subst o p;have B:(0:Int)<(n:Int):=by simp at i;omega
 have C:(1:Int)<(n:Int):=by simp at i;omega
 have E:(2:Int)<(n:Int):=by simp at i;omega
 have F:(3:Int)<(n:Int):=by simp at i;omega
 have H:0<n:=A
 have K:1<n:=A
 have L:2<n:=A
 have N:3<n:=A
 have v:w.cell? ⟨bk,r,J⟩=I (.int .u8 a.toNat):=t;clear h i t
 go_enter func118,ntmps118
 go_upto_region 1 with fail
 go_quiet (fail)
 have q:=Cv a.toNat b.toNat c.toNat d.toNat a.toNat_lt b.toNat_lt c.toNat_lt d.toNat_lt;have s:=D q;clear q;go_wp2;go_ret;exact⟨congrArg (fun z=>Ending.returned (.int .u32 z)) s.o,nq,rfl⟩
def rO(w:V)(E e n:Nat)(cs:List Z)(en:de)(w':V):Prop:=
 ∃a,en=.returned a∧w'.ownsRow w.heap.size e E a n cs∧ae w.heap.size w w'
def mQ(l:List UInt8):∀u∈bX l,u.oneCell'=O:=by intro u a;simp only[bX,l_]at a;obtain⟨n,_,rfl⟩:=a;rfl
def tj(a b:List UInt8):bX (a++b)=bX a++bX b:=by simp[bX]
def ym:(prog.info? 5).map (fun i=>(i.zero,i.size,i.bytes))=I (I (.int .u8 0),1,1):=aj
def rP{w:V}{ops:Array aH}{rest:List aH}{o:aH}{a:Act}{Q:Exit→Act→V→Prop}(f:o.guard=J)(s x:aP)
  (q:o.op=.call { callee:=.builtin .append,args:= #[s,x],argTypes:= #[33,33] })
  (base:Nat) (v:Z) (n:Nat) (l:List UInt8) (r:a.eval s=v) (e:w.ownsRow base 5 1 v n (bX l))
  (ao:Option aB) (m c:Nat) (p:List UInt8) (t:a.eval x=.slice ao m c) (hm:p.length=m) (b:Rd w ao (bX p))
  (B:n+m<1000000000) (d:base≤w.heap.size)
  (h:∀v' w',w'.ownsRow base 5 1 v' (n+m) (bX (l++p))→w.grownBy w' v.ownBlock→(v'.ownBlock=v.ownBlock∨v'.ownBlock=I w.heap.size)→cH M ops Q rest (a.put o.dst v') w'):cH M ops Q (o::rest) a w:=by
 obtain⟨i,hi,g,j,k⟩:=info_parts ym;refine hY f s x 33 q base 5 i _ 1 1 underlying33 hi g j k rfl aC v n _ r e ao m c (bX p) t (by rw[ld,hm,dL]) b (mQ p) (by unfold maxLen;omega) A d ?_;intro v' w' u y z;exact h v' w' (by rw[tj];exact u) y z
def Yw(a:aB)(n c:Nat)(w:V):(dr eG 33 (.slice (I a) n c) (.slice J 0 0)).run M w=.ok (.bool U) w:=aj
def Sy(n c:Nat)(w:V):(dr eG 33 (.slice J n c) (.slice J 0 0)).run M w=.ok (.bool O) w:=aj
def yn(w:V)(ao:Option aB)(l:List UInt8)(n cap:Nat)(p:n=l.length)(f:Rd w ao (bX l))(q:l.length<1000000000):
  ar M 120 #[.slice ao n cap] w (rO w 1 5 l.length (bX l)):=by
 subst p;rcases ao with _ | m
 ·have h:l=[]:=by
   cases l with
   | nil=>rfl
   | cons c l=>obtain⟨a,r,_⟩:=f 0 (.int .u8 c.toNat) (by simp[bX]);cases r
  subst h;have b:= Sy 0 cap;clear q f
  go_enter func120,ntmps120
  go_wp2;go_ret;exact⟨_,rfl,cD _ _ _ _,aD _ _⟩
 ·have i:=f
  have b:= Yw m l.length cap
  go_enter func120,ntmps120
  go_wp2_with ((with_reducible refine aT 7 ?_);refine rP rfl _ _ rfl w.heap.size _ 0 [] rfl (gP _ _ _ _ 1 #[] 0 rfl (G _) A rfl) (I m) l.length cap l rfl rfl (i.alloc _) A bW ?_;intro u s d j o)
  have k:ae w.heap.size w s:=((aD w.heap.size w).alloc (G _) _).grown j (by first | (simp;done) | (simp;omega)) (fun g t=>(by have e:I w.heap.size=I g:=t;injection e with e;omega));rw[Nat.zero_add,List.nil_append]at d;go_ret;exact⟨_,rfl,d,k⟩
def By.top{w:V}{a:Option aB}{l:List UInt8}(h:Rd w a (bX l)):By w.heap.size w a l:=by
 refine⟨h,fun b f g=>?_⟩;subst f
 cases l with
 | nil=>exact absurd rfl g
 | cons c l=>
  obtain⟨j,e,d⟩:=h 0 (.int .u8 c.toNat) (by simp[bX]);injection e with e;subst e;have d:w.cell? b=I (.int .u8 c.toNat):=d;unfold an at d
  split at d
  ·rename_i i;exact(br i).1
  ·cases d
def Pz(w:V)(ao:Option aB)(l:List UInt8)(n cap:Nat)(d:n=l.length)(e:Rd w ao (bX l))(f:l.length<1000000000):
  ar M 62 #[.slice ao n cap] w (fun h w'=>∃p,h=.returned (.pointer (I ⟨p,0,J⟩))∧w.heap.size≤p∧fy w'.heap.size w' p (.ok l)∧ae w.heap.size w w'):=by
 have i:=D (yn w ao l n cap d e f);clear d e f
 go_enter func62,ntmps62
 go_wp2_with ((go_at_call 120;refine i.o.mono ?_);rintro en j ⟨v,rfl,g,a⟩;obtain⟨a2,c2,rfl,b,c⟩:=bY g)
 go_ret;refine⟨j.heap.size,rfl,a.size,⟨a2,c2,⟨al _ _,b,c⟩,By.top ((cM g).rd.alloc _)⟩,a.alloc a.size _⟩
def sO(l:List UInt8):Int:=
 if l.length<8 then 8 else if 4194304<sN l then 5 else if l.length-8<sN l then 8 else if sN l<l.length-8 then 9
 else if Cu (l.drop 8)=sN (l.drop 4)then 0 else 10
def ve(w:V)(l:List UInt8)(a:de)(w':V):Prop:=
 ae w.heap.size w w'∧∃v,a=.returned (.tuple #[v,.int .i64 (sO l)])∧(sO l=0→w'.ownsRow w.heap.size 5 1 v (l.drop 8).length (bX (l.drop 8)))
def lh(w:V)(x m:Nat):(w.drewN x).drewN m=w.drewN (x+m):=by simp[World.drewN,Nat.add_assoc]
def PA(w:V)(ao:Option aB)(l:List UInt8)(n cap:Nat)(s:n=l.length)(hc:n≤cap)(hm:cap≤9223372036854775807)(hl:l.length≤100000)(h:Rd w ao (bX l)):
  ar M 59 #[.slice ao n cap] w (ve w l):=by
 by_cases X:l.length<8
 ·have e1:decide (n<8)=O:=by rw[s];simpa using X
  have k0:decide ((n:Int)<8)=O:=by rw[s];simp;omega
  have HV:Hid (sO l=8):=D (if_pos X);clear X h s hc hm
  go_enter func59,ntmps59
  go_wp2;refine au (v:=.tuple #[.slice J 0 0,.int .i64 8]) (by simp[results,results59,go_sem]) rfl ?_;exact⟨aD _ _,_,by rw[HV.o],fun h0=>by rw[HV.o]at h0;cases h0⟩
 ·obtain⟨b,K,rfl,-⟩:=me h (k:=0) (u:=(bX l)[0]'(by rw[ld];omega)) (cC _)
  obtain⟨a0,g⟩:=qS
  obtain⟨L,b0,l0⟩:=ey (P:= M) 33 5 a0 1 underlying33 g.1 g.2 b K n cap 8 8 rfl A hc;obtain⟨a4,c0,m0⟩:=ey (P:= M) 33 5 a0 1 underlying33 g.1 g.2 b K n cap 4 4 rfl A hc
  have d8:Rd w L (bX (l.drop 8)):=by
   rcases aL 8 cap with f0 | n0
   ·rw[b0 f0];have:=h.py 8;rw[po]at this;simpa using this
   ·have:l.drop 8=[]:=e_ A
    rw[this];exact Rd.nil _ _
  have d4:Rd w a4 (bX (l.drop 4)):=by
   rw[c0 A];have:=h.py 4;rw[po]at this;simpa using this
  obtain⟨x1,t,z,B,r,hx⟩:∃x1 t z B r,l=x1::t::z::B::r:=by
   match l,X with
   | x1::t::z::B::r,_=>exact⟨x1,t,z,B,r,rfl⟩
   | [],h=>simp at h
   | [_],h=>simp at h
   | [_,_],h=>simp at h
   | [_,_,_],h=>simp at h
  obtain⟨y1,y2,y3,y4,r',hy⟩:∃x1 t z B r',l.drop 4=x1::t::z::B::r':=by
   have h4:¬ (l.drop 4).length<4:=by rw[bh];omega
   match l.drop 4,h4 with
   | x1::t::z::B::r,_=>exact⟨x1,t,z,B,r,rfl⟩
   | [],h=>simp at h
   | [_],h=>simp at h
   | [_,_],h=>simp at h
   | [_,_,_],h=>simp at h
  obtain⟨r0,hG⟩:∃r0,sN l=r0:=⟨_,rfl⟩;obtain⟨F,N⟩:∃r0,sN (l.drop 4)=r0:=⟨_,rfl⟩
  have i:Hid (∀x,ar M 118 #[.slice (I ⟨b,K,J⟩) n cap] (w.drewN x) (fun e a=>e=.returned (.int .u32 (r0:Nat))∧∃m,a=w.drewN m)):=D (fun x=>by
   rw[←hG,hx];refine(yl (w.drewN x) _ x1 t z B r n cap (by rw[s,hx]) (by rw[←hx];exact h)).mono ?_;rintro e Q ⟨rfl,m,rfl⟩
   exact⟨rfl,x+m,lh _ _ _⟩)
  have d0:Hid (∀k x,ar M 118 #[.slice a4 (n-4) (cap-4)] ((w.drewN k).drewN x) (fun e a=>e=.returned (.int .u32 (F:Nat))∧∃m,a=(w.drewN k).drewN m)):=D (fun k x=>by
   rw[←N,hy];refine(yl ((w.drewN k).drewN x) _ y1 y2 y3 y4 r' (n-4) (cap-4) (by rw[←hy,bh,s]) (by rw[←hy];exact d4)).mono ?_;rintro e Q ⟨rfl,m,rfl⟩
   exact⟨rfl,x+m,lh _ _ _⟩)
  obtain⟨C,hC⟩:∃C,Cu (l.drop 8)=C:=⟨_,rfl⟩
  have e0:Hid (∀k x,ar M 119 #[.slice L (n-8) (cap-8)] ((w.drewN k).drewN x) (fun e a=>e=.returned (.int .u32 (C:Nat))∧∃m,a=(w.drewN k).drewN m)):=D (fun k x=>by
   rw[←hC];refine(I4 ((w.drewN k).drewN x) L (l.drop 8) (n-8) (cap-8) (by rw[bh,s]) (by rw[bh];omega) d8).mono ?_;rintro e Q ⟨rfl,rfl⟩
   exact⟨rfl,x,rfl⟩)
  have g0:Hid (∀x,ar M 120 #[.slice L (n-8) (cap-8)] (w.drewN x) (rO (w.drewN x) 1 5 (l.drop 8).length (bX (l.drop 8)))):=D (fun x=>
   yn (w.drewN x) L (l.drop 8) (n-8) (cap-8) (by rw[bh,s]) d8 (by rw[bh];omega))
  obtain⟨E,hE⟩:∃E,sO l=E:=⟨_,rfl⟩;have o0:r0<4294967296:=by rw[←hG];exact I5 l
  have c:E=if 4194304<r0 then 5 else if n-8<r0 then 8 else if r0<n-8 then 9 else if C=F then 0 else 10:=by
   rw[←hE,←hG,←N,←hC,s];unfold sO;rw[if_neg X]
  have e1:decide ((n:Int)<8)=U:=by rw[s];simp;omega
  have d:Hid (∀x,E≠0→ve w l (.returned (.tuple #[.slice J 0 0,.int .i64 E])) (w.drewN x)):=D (fun x h0=>⟨below_drewN (aD _ _) _,_,by rw[hE],fun h=>absurd (by rw[←hE];exact h) h0⟩);have R:Hid (∀x v Q,Q.ownsRow (w.drewN x).heap.size 5 1 v (l.drop 8).length (bX (l.drop 8))→ae (w.drewN x).heap.size (w.drewN x) Q→ve w l (.returned (.tuple #[v,.int .i64 E])) Q):=D (fun x v Q ho hb=>⟨(below_drewN (aD _ _) x).trans hb,_,by rw[hE],fun _=>ho⟩);have p0:n-8≤100000:=A
  have q0:8≤n:=A
  clear hx hy hG N hC hE X h d8 d4 b0 c0 hl s g;have gw:bi (r0:Int)=(r0:Int):=ag _ A;by_cases S:4194304<r0
  ·rw[if_pos S]at c
   subst c;have t1:decide ((4194304:Int)<(r0:Int))=O:=by simp;omega
   clear S
   go_enter func59,ntmps59
   go_upto_region 3 with fail
   go_quiet ((go_at_call 118;exact i.o _))
   go_wp2;refine au (v:=.tuple #[.slice J 0 0,.int .i64 5]) (by simp[results,results59,go_sem]) rfl (d.o _ aC)
  ·rw[if_neg S]at c
   have t1:decide ((4194304:Int)<(r0:Int))=U:=by simp;omega
   by_cases H:n-8<r0
   ·rw[if_pos H]at c
    subst c;have t2:decide (n-8<r0)=O:=by simpa using H
    clear S H
    go_enter func59,ntmps59
    go_upto_region 3 with fail
    go_quiet ((go_at_call 118;exact i.o _))
    go_wp2;refine au (v:=.tuple #[.slice J 0 0,.int .i64 8]) (by simp[results,results59,go_sem]) rfl (d.o _ aC)
   ·rw[if_neg H]at c
    have t2:decide (n-8<r0)=U:=by simpa using H
    by_cases T:r0<n-8
    ·rw[if_pos T]at c
     subst c;have t3:decide (r0<n-8)=O:=by simpa using T
     clear S H T
     go_enter func59,ntmps59
     go_upto_region 3 with fail
     go_quiet ((go_at_call 118;exact i.o _))
     go_wp2;refine au (v:=.tuple #[.slice J 0 0,.int .i64 9]) (by simp[results,results59,go_sem]) rfl (d.o _ aC)
    ·rw[if_neg T]at c
     have t3:decide (r0<n-8)=U:=by simpa using T
     by_cases g4:C=F
     ·rw[if_pos g4]at c
      subst c;have t4:((C:Int) != (F:Int))=U:=by simp;omega
      have t5:(C != F)=U:=by simpa using g4
      clear S H T g4
      go_enter func59,ntmps59
      go_upto_region 3 with fail
      go_quiet ((go_at_call 118;exact i.o _))
      go_upto_region 10 with fail
      generalize f:w.drewN nq=j;have o:Hid (∀x,ar M 119 #[.slice L (n-8) (cap-8)] (j.drewN x) (fun e a=>e=.returned (.int .u32 (C:Nat))∧∃m,a=j.drewN m)):=D (fun x=>by rw[←f];exact e0.o nq x);have p:Hid (∀x,ar M 118 #[.slice a4 (n-4) (cap-4)] (j.drewN x) (fun e a=>e=.returned (.int .u32 (F:Nat))∧∃m,a=j.drewN m)):=D (fun x=>by rw[←f];exact d0.o nq x);have W:=D f;clear f;go_quiet (first | (go_at_call 119;exact o.o _) | (go_at_call 118;exact p.o _))
      obtain⟨y,q⟩:∃y,j.drewN nq=w.drewN y:=⟨_,by rw[←W.o,lh]⟩;rw[q];clear q;go_wp2_with ((go_at_call 120;refine(g0.o _).mono ?_);rintro en w9 ⟨v9,rfl,i0,j0⟩)
      refine au (v:=.tuple #[v9,.int .i64 0]) (by simp[results,results59,go_sem]) rfl (R.o _ _ _ i0 j0)
     ·rw[if_neg g4]at c
      subst c;have t4:((C:Int) != (F:Int))=O:=by simp;omega
      have t5:(C != F)=O:=by simpa using g4
      clear S H T g4
      go_enter func59,ntmps59
      go_upto_region 3 with fail
      go_quiet ((go_at_call 118;exact i.o _))
      go_upto_region 10 with fail
      generalize f:w.drewN nq=j;have o:Hid (∀x,ar M 119 #[.slice L (n-8) (cap-8)] (j.drewN x) (fun e a=>e=.returned (.int .u32 (C:Nat))∧∃m,a=j.drewN m)):=D (fun x=>by rw[←f];exact e0.o nq x);have p:Hid (∀x,ar M 118 #[.slice a4 (n-4) (cap-4)] (j.drewN x) (fun e a=>e=.returned (.int .u32 (F:Nat))∧∃m,a=j.drewN m)):=D (fun x=>by rw[←f];exact d0.o nq x);have W:=D f;clear f;go_quiet (first | (go_at_call 119;exact o.o _) | (go_at_call 118;exact p.o _))
      obtain⟨y,q⟩:∃y,j.drewN nq=w.drewN y:=⟨_,by rw[←W.o,lh]⟩;rw[q];clear q;go_wp2;refine au (v:=.tuple #[.slice J 0 0,.int .i64 10]) (by simp[results,results59,go_sem]) rfl (d.o _ aC)
structure YB(w:V)(p:Nat)(ao:Option aB)(n cap:Nat)(P e:Int):Prop where
 k:w.heap[p]?=I (.cells #[.slice ao n cap,.int .i64 P,.int .i64 e] 173 (0,0))
 c:n≤cap
 m:cap≤9223372036854775807
def gM(B:Nat)(w:V)(p:Nat):X→Prop
 | .ok l=>∃ao n cap P L,YB w p ao n cap (P:Nat) 0∧By B w ao L∧L.length=n∧P≤n∧n≤100000∧L.drop P=l
 | .err e=>e≠0∧∃ao n cap P,YB w p ao n cap P e
def aW{w:V}{b:Nat}{x y z:Z}{t:aN}(h:w.heap[b]?=I (.cells #[x,y,z] t (0,0))):
  w.cell? ⟨b,0,J⟩=I x∧w.cell? ⟨b,1,J⟩=I y∧w.cell? ⟨b,2,J⟩=I z∧w.frozen? ⟨b,0,J⟩=U∧w.frozen? ⟨b,1,J⟩=U∧w.frozen? ⟨b,2,J⟩=U∧b<w.heap.size:=by
 refine⟨?_,?_,?_,?_,?_,?_,(br h).1⟩<;>simp[an,World.frozen?,h]
def YB.fail{w:V}{p:Nat}{ao:Option aB}{n cap:Nat}{P e:Int}(h:YB w p ao n cap P e)(x:Int):YB (w.setCell ⟨p,2,J⟩ (.int .i64 x)) p ao n cap P x:=
 ⟨by simp[aV,aR,h.k],h.c,h.m⟩
def YB.pos{w:V}{p:Nat}{ao:Option aB}{n cap:Nat}{P e:Int}(h:YB w p ao n cap P e)(x:Int):YB (w.setCell ⟨p,1,J⟩ (.int .i64 x)) p ao n cap x e:=
 ⟨by simp[aV,aR,h.k],h.c,h.m⟩
def kj{B:Nat}(w:V)(p:Nat)(x:X)(e:Int)(f:e≠0)(h:gM B w p x):
  ar M 30 #[.pointer (I ⟨p,0,J⟩),.int .i64 e] w (fun g w'=>g=.returned (.tuple #[])∧Hid (gM B w' p (x.fail e))∧Hid (But p w w')):=by
 cases x with
 | ok l=>
  obtain⟨ao,n,cap,P,L,a,i⟩:=h;obtain⟨c0,c1,c2,f0,f1,f2,j⟩:=aW a.k;have k:((0:Int)==0)=O:=rfl;have b:=D a;clear a i
  go_enter func30,ntmps30
  go_wp2
  go_end0
  exact⟨rfl,⟨f,ao,n,cap,_,b.o.fail e⟩,But.set _ _ _ _⟩
 | err d=>
  obtain⟨c,ao,n,cap,P,a⟩:=h;obtain⟨c0,c1,c2,f0,f1,f2,j⟩:=aW a.k;have k:(d==0)=U:=by simpa using c
  have b:=D a;have m:=D c;clear a c
  go_enter func30,ntmps30
  go_wp2
  go_end0
  exact⟨rfl,⟨m.o,ao,n,cap,_,b.o⟩,But.refl _ _⟩
def mv:X→Int
 | .ok l=>if l=[]then 0 else 9
 | .err e=>e
def Yx{B:Nat}(w:V)(p:Nat)(x:X)(h:fy B w p x):
  ar M 82 #[.pointer (I ⟨p,0,J⟩)] w (fun a w'=>a=.returned (.int .i64 (mv x))∧w'=w):=by
 cases x with
 | ok l=>
  obtain⟨ao,cap,b,f⟩:=h;refine(IU w p ao _ cap 0 b).mono ?_;rintro a w' ⟨rfl,rfl⟩;refine⟨?_,rfl⟩
  cases l with
  | nil=>rfl
  | cons c l=>simp[F9,mv]
 | err e=>
  obtain⟨d,ao,n,cap,b⟩:=h;refine(IU w p ao _ cap e b).mono ?_;rintro a w' ⟨rfl,rfl⟩;exact⟨by simp[F9,mv,d],rfl⟩
def NJ(w:V)(ao:Option aB)(l:List UInt8)(n cap:Nat)(a:n=l.length)(b:n≤cap)(hm:cap≤9223372036854775807)(c:l.length≤100000)(d:Rd w ao (bX l)):
  ar M 28 #[.slice ao n cap] w (fun g w'=>∃p,g=.returned (.pointer (I ⟨p,0,J⟩))∧w.heap.size≤p∧gM w.heap.size w' p (.ok l)∧ae w.heap.size w w'):=by
 have h:=D d;have e:=D a;have i:=D b;have j:=D hm;have k:=D c;clear d a b hm c
 go_enter func28,ntmps28
 go_wp2;go_ret;have f:=By.top h.o;refine⟨w.heap.size,rfl,G _,⟨ao,n,cap,0,l,⟨al _ _,i.o,j.o⟩,⟨f.rd.alloc _,f.lt⟩,e.o.symm,aw _,by rw[e.o];exact k.o,rfl⟩,(aD _ _).alloc (G _) _⟩
def NK{b:Nat}(h:b<18446744073709551616)(a:b%2=0):
  ((b:Int)%2==1)=U∧∃c:Nat,ov b=(c:Int)∧bi ((b:Int)/2)=(c:Int):=by
 refine⟨by rw[show (b:Int)%2=0 by omega];rfl,b/2,?_,?_⟩
 ·show(if b%2=1 then -((b/2:Nat):Int)-1 else((b/2:Nat):Int))=_
  rw[if_neg A]
 ·rw[show (b:Int)/2=((b/2:Nat):Int)by omega]
  exact ag _ ⟨by omega,by omega⟩
def PB{b:Nat}(h:b<18446744073709551616)(a:b%2=1):
  ((b:Int)%2==1)=O∧∃c:Nat,ov b= -(c:Int)-1∧bi ((b:Int)/2)=(c:Int)∧bi (-1-(c:Int))= -(c:Int)-1:=by
 refine⟨by rw[show (b:Int)%2=1 by omega];rfl,b/2,?_,?_,?_⟩
 ·show(if b%2=1 then -((b/2:Nat):Int)-1 else((b/2:Nat):Int))=_
  rw[if_pos a]
 ·rw[show (b:Int)/2=((b/2:Nat):Int)by omega]
  exact ag _ ⟨by omega,by omega⟩
 ·rw[show -1-((b/2:Nat):Int)= -((b/2:Nat):Int)-1 by omega]
  exact ag _ ⟨by omega,by omega⟩
def drop_at{L m:List UInt8}{P:Nat}{c:UInt8}(h:L.drop P=c::m):P<L.length∧L[P]?=I c∧L.drop (P+1)=m:=by
 have a:P<L.length:=by
  rcases aL P L.length with a | a
  ·exact a
  ·rw[e_ a]at h;cases h
 refine⟨a,?_,?_⟩
 ·have:=congrArg (·[0]?) h
  simpa using this
 ·have:=congrArg (·.drop 1) h
  simpa using this
def YB.drewN{w:V}{p:Nat}{ao:Option aB}{n cap:Nat}{P e:Int}(h:YB w p ao n cap P e)(k:Nat):YB (w.drewN k) p ao n cap P e:=⟨h.k,h.c,h.m⟩
def But.drewN{p:Nat}{a w:V}(h:But p a w)(k:Nat):But p a (w.drewN k):=⟨h.os,h.tape,h.output,h.size,h.block⟩
def By.TK{B:Nat}{w w':V}{p:Nat}{ao a:Option aB}{n cap:Nat}{P e:Int}{l:List UInt8}(h:By B w a l)(o:YB w p ao n cap P e)(q:But p w w'):By B w' a l:=by
 refine⟨fun j u i=>?_,h.lt⟩;obtain⟨b,rfl,c⟩:=h.rd j u i;refine⟨b,rfl,?_⟩;obtain⟨m,rfl⟩:=qc i
 have f:(b.add j).block<w.heap.size:=by
  unfold an at c
  split at c
  ·rename_i r
   exact(br r).1
  ·cases c
 have g:(b.add j).block≠p:=by
  intro s;unfold an at c;rw[s,o.k]at c;simp only at c
  split at c
  ·cases c
  ·match d:(b.add j).off with
   | 0=>rw[d]at c;simp at c
   | 1=>rw[d]at c;simp at c
   | 2=>rw[d]at c;simp at c
   | k+3=>rw[d]at c;simp at c
 rw[an,q.block _ f g];exact c
def pC(w:V)(p:Nat):Nat:=match w.cell? ⟨p,1,J⟩with
 | some (.int _ n)=>n.toNat
 | _=>0
def G2{m:Nat}(h:m<256):p_ .and .u8 (m:Int) 127=((m%128:Nat):Int):=by
 have a:(bF 8 (m:Int)).toNat=m:=by rw[fI,gG];exact gv A
 have b:(bF 8 (m:Int) &&& bF 8 (127:Int)).toNat=m%128:=by
  rw[qz,a];show m &&& 127=_;exact Nat.and_two_pow_sub_one_eq_mod m 7
 show IntKind.u8.wrap (((bF 8 (m:Int) &&& bF 8 (127:Int)).toNat:Nat):Int)=_;rw[b];simp only[jI,iS,iy];simp;omega
def PC{B:Nat}(w:V)(p:Nat)(l:List UInt8)(h:gM B w p (.ok l)):
  ar M 29 #[.pointer (I ⟨p,0,J⟩)] w (fun ev w'=>ev=.returned (.int .i64 (aU (.ok l)).1)∧gM B w' p (aU (.ok l)).2∧But p w w'):=by
 obtain⟨ao,n,cap,P,L,F,hB,hL,hP,hn,hd⟩:=h;obtain⟨T,hT⟩:∃T,num 0 O l=T:=⟨_,rfl⟩;have H:=D hT;have HD:=D hd;have HH:=D F;have HB:=D hB;have Q:=D hL;have HP:=D hP;have HN:=D hn;clear hT hd F hB hL hP hn
 go_enter func29,ntmps29
 go_wp2
 go_loopw[3,4] (fun vu vk wr=>∃(u k P:Nat)(m:List UInt8),vu=.int .u64 u∧vk=.int .i64 k∧k≤P∧Hid (u<18446744073709551616)∧Hid (num u (decide (k=0)) m=T)∧Hid (L.drop P=m)∧P≤n∧Hid (YB wr p ao n cap (P:Nat) 0)∧Hid (By B wr ao L)∧Hid (But p w wr)) (fun _ _ wr=>n-pC wr p)
 case atStart=>exact⟨0,0,P,l,rfl,rfl,aw _,D aC,H,HD,HP.o,HH,HB,But.refl _ _⟩
 case round=>
  obtain⟨u,k,P,m,rfl,rfl,s0,HX,HU,HD,B0,HK,HY,h0⟩:=hrel;obtain⟨c0,c1,c2,f0,f1,f2,r⟩:=aW HK.o.k;have t:=HU.o
  cases m with
  | nil=>
   have t0:P=n:=by
    have:=congrArg List.length HD.o;rw[bh]at this;have:=Q.o;simp at *;omega
   have e8:T.2=.err 8:=by rw[←t];rfl
   have HE:=D e8;have e1:((0:Int)==0)=O:=rfl;have e2:decide (n≤P)=O:=by simp;omega
   clear t e8 t0;go_upto_region 4 with fail
   go_quiet (fail)
   obtain⟨s,v⟩:∃s,wr.drewN nq=s:=⟨_,rfl⟩;have o:Hid (YB s p ao n cap (P:Nat) 0):=D (by rw[←v];exact HK.o.drewN nq);have z:Hid (By B s ao L):=D (by rw[←v];exact⟨HY.o.rd,HY.o.lt⟩);have R:Hid (But p w s):=D (by rw[←v];exact h0.o.drewN nq);have v0:Hid (pC s p=P):=D (by unfold pC;rw[(aW o.o.k).2.1];simp);rw[v];clear v c0 c1 c2 f0 f1 f2 r;obtain⟨c0,c1,c2,f0,f1,f2,r⟩:=aW o.o.k;go_wp2;go_ret;have i:aU (.ok l)=(0,.err 8):=mu (by rw[H.o];exact HE.o);rw[i];exact⟨rfl,⟨by decide,ao,n,cap,_,o.o.fail 8⟩,R.o.trans (But.set _ _ _ _)⟩
  | cons c m=>
   obtain⟨j0,K,k0⟩:=drop_at HD.o;have l0:P<n:=by rw[←Q.o];exact j0
   have S:c.toNat<256:=c.toNat_lt;have e1:((0:Int)==0)=O:=rfl;have e2:decide (n≤P)=U:=by simp;omega
   have X:=D k0;have HC:=D K;have a0:=D l0;clear K k0 j0;go_upto_region 4 with fail
   go_quiet (fail)
   obtain⟨s,v⟩:∃s,wr.drewN nq=s:=⟨_,rfl⟩;have o:Hid (YB s p ao n cap (P:Nat) 0):=D (by rw[←v];exact HK.o.drewN nq);have z:Hid (By B s ao L):=D (by rw[←v];exact⟨HY.o.rd,HY.o.lt⟩);have R:Hid (But p w s):=D (by rw[←v];exact h0.o.drewN nq);have v0:Hid (pC s p=P):=D (by unfold pC;rw[(aW o.o.k).2.1];simp);rw[v];clear v c0 c1 c2 f0 f1 f2 r;obtain⟨c0,c1,c2,f0,f1,f2,r⟩:=aW o.o.k;obtain⟨b,C,rfl,b0⟩:=me z.o.rd (k:=P) (u:=.int .u8 c.toNat) (by unfold bX;rw[eL,HC.o];rfl);have i0:(0:Int)≤(P:Int):=A
   have i1:(P:Int)<(n:Int):=A
   go_upto_region 8 with fail
   go_quiet (fail)
   obtain⟨wz,hz⟩:∃wz,s.drewN nq=wz:=⟨_,rfl⟩;have d0:Hid (YB wz p (I ⟨b,C,J⟩) n cap (P:Nat) 0):=D (by rw[←hz];exact o.o.drewN nq);have w0:Hid (By B wz (I ⟨b,C,J⟩) L):=D (by rw[←hz];exact⟨z.o.rd,z.o.lt⟩);have x0:Hid (But p w wz):=D (by rw[←hz];exact R.o.drewN nq);rw[hz];clear hz c0 c1 c2 f0 f1 f2 r b0;obtain⟨c0,c1,c2,f0,f1,f2,r⟩:=aW d0.o.k;have pw:bi ((P:Int)+1)=(P:Int)+1:=ag _ (by have:=HN.o;omega);go_upto_region 10 with fail
   obtain⟨W,hW⟩:∃W,wz.setCell ⟨p,1,J⟩ (.int .i64 ((P:Int)+1))=W:=⟨_,rfl⟩;have j:Hid (YB W p (I ⟨b,C,J⟩) n cap ((P+1:Nat):Int) 0):=D (by rw[←hW];exact d0.o.pos _);have e0:Hid (By B W (I ⟨b,C,J⟩) L):=D (by rw[←hW];exact w0.o.TK d0.o (But.set _ _ _ _));have g:Hid (But p w W):=D (by rw[←hW];exact x0.o.trans (But.set _ _ _ _))
   have HM:Hid (n-pC W p<n-pC wr p):=D (by
    have a1:pC W p=P+1:=by unfold pC;rw[(aW j.o.k).2.1];simp
    have a2:pC wr p=P:=by unfold pC;rw[(aW HK.o.k).2.1];simp
    omega)
   rw[hW];clear hW c0 c1 c2 f0 f1 f2 r;obtain⟨c0,c1,c2,f0,f1,f2,r⟩:=aW j.o.k;have y0:u<18446744073709551616:=HX.o;by_cases d:(decide (k=0)=O∧c.toNat=128)∨144115188075855871<u
   ·have m0:T.2=.err 10:=by rw[←t];unfold num;rw[if_pos d]
    have i:aU (.ok l)=(0,.err 10):=mu (by rw[H.o];exact m0);have e:=D i;have f:=D d;clear t m0 i d;by_cases a:k=0
    ·subst a
     by_cases g0:c.toNat=128
     ·have e5:((c.toNat:Int)==128)=O:=by simp;omega
      clear g0;go_wp2;go_ret;rw[e.o];exact⟨rfl,⟨by decide,_,n,cap,_,j.o.fail 10⟩,g.o.trans (But.set _ _ _ _)⟩
     ·have x:144115188075855871<u:=f.o.resolve_left (fun h=>g0 h.2)
      have e5:((c.toNat:Int)==128)=U:=by simp;omega
      have e6:((u:Int)/144115188075855872 != 0)=O:=by simpa using (show ¬ (u:Int)/144115188075855872=0 by omega)
      clear g0 x f;go_wp2;go_ret;rw[e.o];exact⟨rfl,⟨by decide,_,n,cap,_,j.o.fail 10⟩,g.o.trans (But.set _ _ _ _)⟩
    ·have x:144115188075855871<u:=f.o.resolve_left (fun h=>a (by simpa using h.1))
     have ek:((k:Int)==0)=U:=by simp;omega
     have e6:((u:Int)/144115188075855872 != 0)=O:=by simpa using (show ¬ (u:Int)/144115188075855872=0 by omega)
     clear a x f;go_wp2;go_ret;rw[e.o];exact⟨rfl,⟨by decide,_,n,cap,_,j.o.fail 10⟩,g.o.trans (But.set _ _ _ _)⟩
   ·have hl:¬144115188075855871<u:=fun h=>d (.inr h)
    have e6:((u:Int)/144115188075855872 != 0)=U:=by
     rw[show (u:Int)/144115188075855872=0 by omega];rfl
    have n0:num u (decide (k=0)) (c::m)=if c.toNat<128 then(u*128+c.toNat%128,.ok m)else num (u*128+c.toNat%128) U m:=by
     conv=>lhs;unfold num
     rw[if_neg d]
    rw[n0]at t;have ha:p_ BinOp.and IntKind.u8 (c.toNat:Int) 127=((c.toNat%128:Nat):Int):=G2 S;have hw:(u*128+c.toNat%128:Nat)<18446744073709551616:=by have:=fo c.toNat (show 0<128 by omega);omega
    obtain⟨D0,hV⟩:∃D0,u*128+c.toNat%128=D0:=⟨_,rfl⟩;rw[hV]at hw t;have N:((c.toNat%128:Nat):Int)=(c.toNat:Int)%128:=A
    have C0:IntKind.u64.wrap ((u:Int)*128)=(u:Int)*128:=by simp[jI,iS,iy];omega
    have o0:p_ oe sI ((u:Int)*128) ((c.toNat%128:Nat):Int)=(D0:Int):=by
     have F:=bits_or_u64_nat (u*128) (c.toNat%128) A A;rw[MR u _ (fo _ A),hV]at F;rw[←F];congr 1
    rw[N]at o0;have pk:bi ((k:Int)+1)=((k+1:Nat):Int):=ag _ (by have:=HN.o;omega);have E:=D hw
    have A0:p_ BinOp.and sI (D0:Int) 1=((D0%2:Nat):Int):=by
     have F:=bits_and_u64_nat D0 1 hw aC;rw[vJ]at F;exact F
    have f:=D d
    have p0:k=0→((c.toNat:Int)==128)=U:=fun hk=>by
     have h6:¬ ((c.toNat:Int)=128):=fun h=>f.o (.inl ⟨by simpa using hk,by omega⟩)
     simpa using h6
    have q:=D p0;clear d hl n0 hw hV p0 y0 N;by_cases K:c.toNat<128
    ·rw[if_pos K]at t
     have i:aU (.ok l)=(ov D0,.ok m):=pz (by rw[H.o,←t]);have e:=D i;have e3:decide ((c.toNat:Int)<128)=O:=by simp;omega
     have HR:Hid (gM B W p (.ok m)):=D ⟨_,n,cap,P+1,L,j.o,e0.o,Q.o,a0.o,HN.o,X.o⟩;rcases Nat.mod_two_eq_zero_or_one D0 with r | r
     ·obtain⟨e4,E0,hs,y⟩:=NK E.o r
      rw[hs]at e;clear K t i hs r;by_cases a:k=0
      ·subst a
       have e5:=q.o rfl;clear q f HU HM H;go_wp2;go_ret;rw[e.o];exact⟨by first | rfl | exact aZ y,HR.o,g.o⟩
      ·have ek:((k:Int)==0)=U:=by simp;omega
       clear a q f HU HM H;go_wp2;go_ret;rw[e.o];exact⟨by first | rfl | exact aZ y,HR.o,g.o⟩
     ·obtain⟨e4,E0,hs,y,q0⟩:=PB E.o r
      rw[hs]at e;clear K t i hs r;by_cases a:k=0
      ·subst a
       have e5:=q.o rfl;clear q f HU HM H;go_wp2;go_ret;rw[e.o];exact⟨by first | exact aZ q0 | rfl | exact aZ y,HR.o,g.o⟩
      ·have ek:((k:Int)==0)=U:=by simp;omega
       clear a q f HU HM H;go_wp2;go_ret;rw[e.o];exact⟨by first | exact aZ q0 | rfl | exact aZ y,HR.o,g.o⟩
    ·rw[if_neg K]at t
     have r0:=D t;have PV:=D (congrArg (gV sI) o0);have PK:=D (congrArg (gV IntKind.i64) pk);have e3:decide ((c.toNat:Int)<128)=U:=by simp;omega
     clear K t;by_cases a:k=0
     ·subst a
      have e5:=q.o rfl;go_wp2;go_round
      case rel=>exact⟨D0,1,P+1,m,rfl,rfl,by omega,E,r0,X,a0.o,j,e0,g⟩
      case measure=>exact HM.o
     ·have ek:((k:Int)==0)=U:=by simp;omega
      have z0:decide (k+1=0)=U:=bW
      clear a;go_wp2;go_round
      case rel=>exact⟨D0,k+1,P+1,m,rfl,PK.o,Nat.succ_le_succ s0,E,D (by rw[z0];exact r0.o),X,a0.o,j,e0,g⟩
      case measure=>exact HM.o
def NL{B:Nat}(w:V)(p:Nat)(x:Int)(h:gM B w p (.err x)):
  ar M 29 #[.pointer (I ⟨p,0,J⟩)] w (fun j w'=>j=.returned (.int .i64 (aU (.err x)).1)∧gM B w' p (aU (.err x)).2∧But p w w'):=by
 obtain⟨b,ao,n,cap,P,f⟩:=h;have k:=D f;have l:=D b;have r:(x==0)=U:=by simpa using b
 have s:(x != 0)=O:=by simpa using b
 clear f b
 go_enter func29,ntmps29
 go_wp2
 go_loopw[3,4] (fun m o wr=>m=.int .u64 0∧o=.int .i64 0∧Hid (YB wr p ao n cap P x)∧Hid (But p w wr)) (fun _ _ _=>0)
 case atStart=>exact⟨rfl,rfl,k,D (But.refl _ _)⟩
 case round=>
  obtain⟨rfl,rfl,g,q⟩:=hrel;obtain⟨c0,c1,c2,f0,f1,f2,i⟩:=aW g.o.k;go_upto_region 4 with fail
  go_quiet (fail)
  obtain⟨c,d⟩:∃c,wr.drewN nq=c:=⟨_,rfl⟩;have a:Hid (YB c p ao n cap P x):=D (by rw[←d];exact g.o.drewN nq);have e:Hid (But p w c):=D (by rw[←d];exact q.o.drewN nq);rw[d];clear d c0 c1 c2 f0 f1 f2 i;obtain⟨c0,c1,c2,f0,f1,f2,i⟩:=aW a.o.k;go_wp2;go_ret;exact⟨rfl,⟨l.o,_,_,_,_,a.o⟩,e.o⟩
def X.good:X→Prop
 | .ok _=>True
 | .err _=>False
def cB{α:Type}(f:X→α×X):Nat→X→List α×X
 | 0,x=>([],x)
 | n+1,x=>((f x).1::(cB f n (f x).2).1,(cB f n (f x).2).2)
def fA{α:Type}(f:X→α×X)(n:Nat)(a:X)(i:Nat)(r:List α)(x:X):Prop:=r.length=i∧i≤n∧cB f n a=(r++(cB f (n-i) x).1,(cB f (n-i) x).2)
def fA.start{α:Type}(f:X→α×X)(n:Nat)(x:X):fA f n x 0 [] x:=⟨rfl,aw _,by simp⟩
def fA.step{α:Type}{f:X→α×X}{n:Nat}{a:X}{i:Nat}{r:List α}{x:X}(h:fA f n a i r x)(hi:i<n):fA f n a (i+1) (r++ [(f x).1]) (f x).2:=by
 obtain⟨b,g,c⟩:=h;refine⟨by simp[b],hi,?_⟩;obtain⟨d,e⟩:∃d,n-i=d+1:=⟨n-i-1,by omega⟩;rw[c,e,show n-(i+1)=d by omega];simp[cB]
def fA.done{α:Type}{f:X→α×X}{n:Nat}{a:X}{r:List α}{x:X}(h:fA f n a n r x):cB f n a=(r,x):=by
 obtain⟨c,d,b⟩:=h;rw[b,Nat.sub_self];simp[cB]
def Keeps{α:Type}(f:X→α×X):Prop:=∀e,(f (.err e)).2=.err e
def Ge{α:Type}{f:X→α×X}(a:Keeps f):∀(n:Nat)(e:Int),(cB f n (.err e)).2=.err e
 | 0,e=>rfl
 | n+1,e=>by show(cB f n (f (.err e)).2).2=_;rw[a,Ge a n]
def fA.stop{α:Type}{f:X→α×X}(b:Keeps f){n:Nat}{a:X}{i:Nat}{r:List α}{e:Int}(h:fA f n a i r (.err e)):(cB f n a).2=.err e:=by
 rw[h.2.2];exact Ge b _ e
def Keeps.int:Keeps aU:=fun _=>rfl
def Keeps.text:Keeps fY:=fun _=>rfl
def Keeps.ints:Keeps du:=fun _=>rfl
def Keeps.few(m:Int)(hm:0≤m):Keeps (dx m):=fun e=>by
 show(if (0:Int)<0∨m<0 then _ else _:Nat×X).2=_;rw[if_neg A];rfl
def Keeps.errno:Keeps lR:=fun e=>by
 show(if (0:Int)<0∨(22:Int)<0 then _ else _:Int×X).2=_;rw[if_neg A];rfl
def tk(m:Int)(hm:0≤m)(e:Int):dx m (.err e)=(0,.err e):=by
 show(if (0:Int)<0∨m<0 then _ else _:Nat×X)=_;rw[if_neg A];rfl
def jk(x:X):D3×X:=(((aU x).1,(aU (aU x).2).1,(aU (aU (aU x).2).2).1),(aU (aU (aU x).2).2).2)
def Keeps.dot:Keeps jk:=fun _=>rfl
def KR(x:X):(D3×Int×Int×Int×Int)×X:=
 let a:=jk x;let b:=aU a.2;let c:=aU b.2;let d:=aU c.2;let e:=aU d.2
 ((a.1,b.1,c.1,d.1,e.1),e.2)
def lS(x:X):hJ×X:=
 let a:=KR x;let k:=fY a.2;let t:=fY k.2;let n:=aU t.2;let m:=dx 8 n.2;let l:=cB jk m.1 m.2
 (⟨a.1.1,a.1.2.1,a.1.2.2.1,a.1.2.2.2.1,k.1,t.1,n.1,a.1.2.2.2.2,l.1⟩,l.2)
def Keeps.op:Keeps lS:=fun e=>by
 show(cB jk (dx 8 (.err e)).1 (dx 8 (.err e)).2).2=_;rw[tk 8 aC];rfl
def iQ(x:X):List hJ×X:=cB lS (dx 20 x).1 (dx 20 x).2
def Keeps.ops:Keeps iQ:=fun e=>by
 unfold iQ;rw[tk 20 aC];rfl
def gg:Int→List hJ→Int
 | e,[]=>e
 | e,o::l=>gg (if e=0 then iV o else e) l
def yo:∀(l:List hJ)(e:Int)(o:hJ),gg e (l++ [o])=(if gg e l=0 then iV o else gg e l)
 | [],e,o=>rfl
 | p::l,e,o=>by simp only[List.cons_append,gg];exact yo l _ o
def Cw:∀(l:List hJ)(e:Int),e≠0→gg e l=e
 | [],e,h=>rfl
 | o::l,e,h=>by simp only[gg];rw[if_neg h];exact Cw l e h
def Cy(o:hJ)(l:List hJ):gg 0 (o::l)=if iV o=0 then gg 0 l else iV o:=by
 simp only[gg,if_pos]
 split
 ·rename_i h;rw[h]
 ·rename_i h;exact Cw l _ h
def jB(x:X):(List UInt8×Int×Int×Int)×X:=
 let k:=fY x;let a:=aU k.2;let b:=aU a.2;let c:=aU b.2
 ((k.1,a.1,b.1,c.1),c.2)
def Keeps.want:Keeps jB:=fun _=>rfl
def jl(x:X):(List UInt8×Int×Int×Int×Int)×X:=
 let k:=fY x;let a:=aU k.2;let b:=aU a.2;let c:=aU b.2;let d:=aU c.2
 ((k.1,a.1,b.1,c.1,d.1),d.2)
def Keeps.slc:Keeps jl:=fun _=>rfl
def jm(x:X):(Int×Int)×X:=
 let a:=aU x;let b:=aU a.2
 ((a.1,b.1),b.2)
def Keeps.rng:Keeps jm:=fun _=>rfl
structure Zu where
 k:Int
 dev:Int
 ep:Int
 req:Int
 n:Int
 wants:List (List UInt8×Int×Int×Int)
 ops:List hJ
def kP(x:X):Zu×X:=
 let a:=aU x;let b:=aU a.2;let c:=aU b.2;let d:=aU c.2;let e:=aU d.2
 let n:=dx 20 e.2;let w:=cB jB n.1 n.2;let l:=iQ w.2
 (⟨a.1,b.1,c.1,d.1,e.1,w.1,l.1⟩,l.2)
def Keeps.cmd:Keeps kP:=fun e=>by
 show(iQ (cB jB (dx 20 (.err e)).1 (dx 20 (.err e)).2).2).2=_;rw[tk 20 aC];exact Keeps.ops e
structure Zv where
 err:Int
 n:Int
 dev:Int
 ep:Int
 EG:Int
 last:Int
 sl:List (List UInt8×Int×Int×Int×Int)
 ids:List (Int×Int)
 used:List Int
def ei(x:X):Zv×X:=
 let a:=lR x;let b:=aU a.2;let c:=aU b.2;let d:=aU c.2;let e:=aU d.2;let f:=aU e.2
 let n:=dx 20 f.2;let s:=cB jl n.1 n.2;let m:=dx 100 s.2;let i:=cB jm m.1 m.2;let u:=du i.2
 (⟨a.1,b.1,c.1,d.1,e.1,f.1,s.1,i.1,u.1⟩,u.2)
def Keeps.reply:Keeps ei:=fun e=>by
 show(du (cB jm (dx 100 (cB jl (dx 20 (lR (.err e)).2).1 (dx 20 (lR (.err e)).2).2).2).1 (dx 100 (cB jl (dx 20 (lR (.err e)).2).1 (dx 20 (lR (.err e)).2).2).2).2).2).2=_;rw[Keeps.errno e,tk 20 aC];show(du (cB jm (dx 100 (.err e)).1 (dx 100 (.err e)).2).2).2=_;rw[tk 100 aC];rfl
def oP(x:X):Int×X:=if (aU x).1≠0∧(aU x).1≠1 then((aU x).1,(aU x).2.fail 10)else aU x
def Keeps.bit:Keeps oP:=fun e=>by
 show(if (0:Int)≠0∧(0:Int)≠1 then _ else _:Int×X).2=_;rw[if_neg bW];rfl
def cN(k:Int)(x:X):(List hJ×Nat)×X:=
 let d:=aU x
 if k=1 then((((kP d.2).1.ops,0)),(kP d.2).2)
 else if k=2 then(([],(ei (aU (aU d.2).2).2).1.used.length),(ei (aU (aU d.2).2).2).2)
 else if k=3 then(([],0),(cB oP 3 (aU (aU d.2).2).2).2)
 else if k=4 then(((iQ (aU (aU d.2).2).2).1,0),(iQ (aU (aU d.2).2).2).2)
 else if k=5 then(([],0),(lR (aU d.2).2).2)
 else(([],0),d.2)
def qg(l:List UInt8):(List hJ×Nat)×X:=
 let k:=aU (.ok l)
 if k.1<1∨5<k.1 then(([],0),k.2.fail 3)else cN k.1 k.2
def AP(l:List UInt8):Int:=
 if mv (qg l).2≠0 then mv (qg l).2 else if 100<(qg l).1.2 then 4 else gg 0 (qg l).1.1
def pr{B:Nat}(w:V)(p:Nat)(x:X)(h:gM B w p x):
  ar M 29 #[.pointer (I ⟨p,0,J⟩)] w (fun a w'=>a=.returned (.int .i64 (aU x).1)∧Hid (gM B w' p (aU x).2)∧Hid (But p w w')):=by
 cases x with
 | ok l=>exact PC w p l h
 | err e=>exact NL w p e h
def qh:X→Nat×X
 | .ok l=>gZ l
 | x=>(0,x)
def NM{x:X}{s:Int}{m:List UInt8}(h:aU x=(s,.ok m))(b:s<0∨65535<s):qh x=(0,.err 4):=by
 cases x with
 | err e=>cases h
 | ok l=>
  cases a:num 0 O l with
  | mk v z=>
   cases z with
   | ok c=>
    rw[pz a]at h;simp only[eP,X.ok.injEq]at h;obtain⟨rfl,rfl⟩:=h;show gZ l=_;rw[nF a,if_pos b]
   | err e=>
    rw[mu (y:=e) (by rw[a])]at h
    cases h
def PD{x:X}{s:Int}{m:List UInt8}(h:aU x=(s,.ok m))(b:¬ (s<0∨65535<s)):qh x=(s.toNat,.ok m):=by
 cases x with
 | err e=>cases h
 | ok l=>
  cases a:num 0 O l with
  | mk v z=>
   cases z with
   | ok c=>
    rw[pz a]at h;simp only[eP,X.ok.injEq]at h;obtain⟨rfl,rfl⟩:=h;show gZ l=_;rw[nF a,if_neg b]
   | err e=>
    rw[mu (y:=e) (by rw[a])]at h
    cases h
def NN{x:X}{s e:Int}(h:aU x=(s,.err e)):qh x=(0,.err e):=by
 cases x with
 | err d=>cases h;rfl
 | ok l=>
  cases a:num 0 O l with
  | mk v z=>
   cases z with
   | ok b=>
    rw[pz a]at h
    cases h
   | err d=>
    rw[mu (y:=d) (by rw[a])]at h;simp only[eP,X.err.injEq]at h;obtain⟨_,rfl⟩:=h;show gZ l=_;exact pp (by rw[a])
def gM.drewN{B:Nat}{w:V}{p:Nat}{x:X}(h:gM B w p x)(k:Nat):gM B (w.drewN k) p x:=by
 cases x with
 | ok l=>obtain⟨ao,n,cap,P,L,a,b,c⟩:=h;exact⟨ao,n,cap,P,L,a.drewN k,⟨b.rd,b.lt⟩,c⟩
 | err e=>obtain⟨d,ao,n,cap,P,a⟩:=h;exact⟨d,ao,n,cap,P,a.drewN k⟩
def Gf{B:Nat}(w:V)(p:Nat)(x:X)(h:gM B w p x):
  ar M 199 #[.pointer (I ⟨p,0,J⟩)] w (fun C w'=>C=.returned (.int .i64 (qh x).1)∧Hid (gM B w' p (qh x).2)∧Hid (But p w w')):=by
 obtain⟨R,q⟩:∃R,aU x=R:=⟨_,rfl⟩;obtain⟨s,y⟩:=R;have E:=D h;have i:=D q;clear h q
 go_enter func199,ntmps199
 go_upto_region 2 with((go_at_call 29;refine(pr w p x E.o).mono ?_);rintro en r ⟨rfl,k9,b9⟩)
 rw[i.o]at k9⊢;simp only at k9⊢;have t:=D k9.o
 cases y with
 | err e=>
  obtain⟨k,ao,n,cap,P,b⟩:=k9.o;obtain⟨c0,c1,c2,f0,f1,f2,f⟩:=aW b.k;have F:(e==0)=U:=by simpa using k
  have H:(e != 0)=O:=by simpa using k
  clear k b k9;go_wp2;go_ret;rw[NN i.o];exact⟨rfl,t.o,b9⟩
 | ok m=>
  obtain⟨ao,n,cap,P,L,b,l⟩:=k9.o;obtain⟨c0,c1,c2,f0,f1,f2,f⟩:=aW b.k;have F:((0:Int)==0)=O:=rfl;have H:((0:Int) != 0)=U:=rfl;have Q:((4:Int) != 0)=O:=rfl;have u:=D b;by_cases d:s<0∨65535<s
  ·have j:=D (NM i.o d)
   by_cases g:s<0
   ·have v:decide (s<0)=O:=by simpa using g
    clear d g b l k9;go_upto_region 4 with fail
    obtain⟨W,a⟩:∃W,r.setCell ⟨p,2,J⟩ (.int .i64 4)=W:=⟨_,rfl⟩;have c:=D (u.o.fail 4);rw[a]at c;have o:Hid (But p w W):=D (by rw[←a];exact b9.o.trans (But.set _ _ _ _));rw[a];clear a c0 c1 c2 f0 f1 f2 f;obtain⟨c0,c1,c2,f0,f1,f2,f⟩:=aW c.o.k;go_wp2;go_ret;rw[j.o];exact⟨rfl,⟨by decide,ao,n,cap,_,c.o⟩,o.o⟩
   ·have v:decide (s<0)=U:=by simpa using g
    have K:decide (65535<s)=O:=by simpa using d.resolve_left g
    clear d g b l k9;go_upto_region 4 with fail
    obtain⟨W,a⟩:∃W,r.setCell ⟨p,2,J⟩ (.int .i64 4)=W:=⟨_,rfl⟩;have c:=D (u.o.fail 4);rw[a]at c;have o:Hid (But p w W):=D (by rw[←a];exact b9.o.trans (But.set _ _ _ _));rw[a];clear a c0 c1 c2 f0 f1 f2 f;obtain⟨c0,c1,c2,f0,f1,f2,f⟩:=aW c.o.k;go_wp2;go_ret;rw[j.o];exact⟨rfl,⟨by decide,ao,n,cap,_,c.o⟩,o.o⟩
  ·have j:=D (PD i.o d)
   have v:decide (s<0)=U:=by simp;omega
   have K:decide (65535<s)=U:=by simp;omega
   have z:s=(s.toNat:Int):=A
   have N:=D z;clear d b l k9 z;go_wp2;go_ret;rw[j.o];exact⟨aZ N.o,t.o,b9⟩
def gM.lt{B:Nat}{w:V}{p:Nat}{x:X}(h:gM B w p x):p<w.heap.size:=by
 cases x with
 | ok l=>obtain⟨_,_,_,_,_,h,_⟩:=h;exact(br h.k).1
 | err e=>obtain⟨_,_,_,_,_,h⟩:=h;exact(br h.k).1
def PF(ao:Option aB)(L:List UInt8)(n cap k:Nat)(lo hi:Int)(a b:Nat)(f:lo=a)(g:hi=b)(m:a≤b)(s:b≤n)(t:n≤cap)(o:k=b-a)(h:V)(p:Rd h ao (bX L))(u:L.length=n):
  ∃a2 c2,(∀w:V,(eF 33 (.slice ao n cap) (I (.int .i64 lo)) (I (.int .i64 hi)) J).run M w=.ok (.slice a2 k c2) w)∧Rd h a2 (bX ((L.drop a).take k)):=by
 subst f;subst g;subst o;obtain⟨q,d,i⟩:=qS
 have l:jG M 33 = 5:=by simp[jG,underlying33]
 have j:oS M 33 =I (.slice (jG M 33)):=by rw[l];exact underlying33
 refine⟨if cap=a then ao else ao.map (·.add (a*1)),cap-a,fun w=>?_,?_⟩
 ·have c:=run_slice_lh (P:= M) (w:=w) 33 ao n cap j .i64 .i64 (a:Int) (b:Int) A A A
  have e:(sizeOf (jG M 33)).run M w=.ok 1 w:=by simp[sizeOf,typeInfo,l,d,i]
  simp only[e,Result.andThen,sliced,Int.toNat_natCast]at c;simp[eF,run_underlying underlying33,c]
 ·have r:Rd h (if cap=a then ao else ao.map (·.add (a*1))) (bX (L.drop a)):=by
   split
   ·have:L.drop a=[]:=e_ A
    rw[this];exact Rd.nil _ _
   ·rw[←po,dL];exact p.drop a
  rw[←F6];exact r.take _
def wF{x:X}{n:Nat}{m:List UInt8}(h:qh x=(n,.ok m)):fY x=if m.length<n then([],.err 8)else(m.take n,.ok (m.drop n)):=by
 cases x with
 | ok l=>exact zG h
 | err e=>cases h
def Cz{x:X}{n:Nat}{e:Int}(h:qh x=(n,.err e)):fY x=([],.err e):=by
 cases x with
 | ok l=>exact Cm (by rw[show gZ l=_ from h])
 | err d=>cases h;rfl
def KT{B:Nat}(w:V)(p:Nat)(x:X)(h:gM B w p x):
  ar M 137 #[.pointer (I ⟨p,0,J⟩)] w (fun ev w'=>ev=.returned (.string ⟨⟨(fY x).1⟩⟩)∧Hid (gM B w' p (fY x).2)∧Hid (But p w w')):=by
 obtain⟨g0,hI⟩:∃g0,qh x=g0:=⟨_,rfl⟩;obtain⟨k,y⟩:=g0;have HX:=D h;have z:=D hI;clear h hI
 go_enter func137,ntmps137
 go_upto_region 2 with((go_at_call 199;refine(Gf w p x HX.o).mono ?_);rintro en K ⟨rfl,k9,b9⟩)
 rw[z.o]at k9⊢;simp only at k9⊢;have K9:=D k9.o
 cases y with
 | err e=>
  obtain⟨C,ao,n,cap,P,i⟩:=k9.o;obtain⟨c0,c1,c2,f0,f1,f2,d⟩:=aW i.k;have e1:(e==0)=U:=by simpa using C
  have e2:(e != 0)=O:=by simpa using C
  have H0:=D C;have E:=D i;clear C i k9;go_quiet (fail)
  obtain⟨a,c⟩:∃a,K.drewN nq=a:=⟨_,rfl⟩;have g:Hid (YB a p ao n cap P e):=D (by rw[←c];exact E.o.drewN nq);have t:Hid (But p w a):=D (by rw[←c];exact b9.o.drewN nq);rw[c];clear c c0 c1 c2 f0 f1 f2 d;obtain⟨c0,c1,c2,f0,f1,f2,d⟩:=aW g.o.k;go_wp2;go_ret;rw[Cz z.o];exact⟨rfl,⟨H0.o,_,_,_,_,g.o⟩,t.o⟩
 | ok m=>
  obtain⟨ao,n,cap,P,L,i,N,F,Q,R,H⟩:=k9.o;obtain⟨c0,c1,c2,f0,f1,f2,d⟩:=aW i.k;have e1:((0:Int)==0)=O:=rfl;have l:m.length=n-P:=by rw[←H,bh,F]
  have e7:bi ((n:Int)-(P:Int))=(m.length:Int):=by rw[ag _ A];omega
  have E:=D i;have u:=D N;have S:=D F;have HP:=D Q;have HN:=D R;have HD:=D H;have HM:=D l;by_cases o:m.length<k
  ·have e4:decide (m.length<k)=O:=by simpa using o
   have e2:((8:Int) != 0)=O:=rfl;have T:Hid (fY x=([],.err 8)):=D (by rw[wF z.o,if_pos o]);clear o k9 i N F Q R H l;go_quiet (fail)
   obtain⟨a,c⟩:∃a,K.drewN nq=a:=⟨_,rfl⟩;have g:Hid (YB a p ao n cap P 0):=D (by rw[←c];exact E.o.drewN nq);have t:Hid (But p w a):=D (by rw[←c];exact b9.o.drewN nq);rw[c];clear c c0 c1 c2 f0 f1 f2 d;obtain⟨c0,c1,c2,f0,f1,f2,d⟩:=aW g.o.k;go_upto_region 4 with fail
   obtain⟨W,f⟩:∃W,a.setCell ⟨p,2,J⟩ (.int .i64 8)=W:=⟨_,rfl⟩;have b:=D (g.o.fail 8);rw[f]at b;have q:Hid (But p w W):=D (by rw[←f];exact t.o.trans (But.set _ _ _ _));rw[f];clear f c0 c1 c2 f0 f1 f2 d;obtain⟨c0,c1,c2,f0,f1,f2,d⟩:=aW b.o.k;go_wp2;go_ret;rw[T.o];exact⟨rfl,⟨by decide,ao,n,cap,_,b.o⟩,q.o⟩
  ·have e4:decide (m.length<k)=U:=by simpa using o
   have e2:((0:Int) != 0)=U:=rfl;have T:Hid (fY x=(m.take k,.ok (m.drop k))):=D (by rw[wF z.o,if_neg o]);have e8:bi ((P:Int)+(k:Int))=(P:Int)+(k:Int):=ag _ A;have e9:bi (P:Int)=(P:Int):=ag _ A;have a0:=D (Nat.le_of_not_lt o);clear o k9 i N F Q R H l;go_quiet (fail)
   obtain⟨a,c⟩:∃a,K.drewN nq=a:=⟨_,rfl⟩;have g:Hid (YB a p ao n cap P 0):=D (by rw[←c];exact E.o.drewN nq);have HY:Hid (By B a ao L):=D (by rw[←c];exact⟨u.o.rd,u.o.lt⟩);have t:Hid (But p w a):=D (by rw[←c];exact b9.o.drewN nq);rw[c];clear c c0 c1 c2 f0 f1 f2 d;obtain⟨c0,c1,c2,f0,f1,f2,d⟩:=aW g.o.k;go_upto_region 7 with fail
   obtain⟨W,f⟩:∃W,a.setCell ⟨p,1,J⟩ (.int .i64 ((P:Int)+(k:Int)))=W:=⟨_,rfl⟩;have b:=D (g.o.pos ((P:Int)+(k:Int)));rw[f]at b;have r:Hid (By B W ao L):=D (by rw[←f];exact HY.o.TK g.o (But.set _ _ _ _));have q:Hid (But p w W):=D (by rw[←f];exact t.o.trans (But.set _ _ _ _));rw[f];clear f c0 c1 c2 f0 f1 f2 d;obtain⟨c0,c1,c2,f0,f1,f2,d⟩:=aW b.o.k;have s:P+k≤n:=by have:=a0.o;have:=HM.o;have:=HP.o;omega
   obtain⟨a2,c2,d0,v⟩:=PF ao L n cap k (P:Int) ((P:Int)+(k:Int)) P (P+k) rfl A A s b.o.c A W r.o.rd S.o;have e0:∀j,(convert 33 9 (.slice a2 k c2)).run M (W.drewN j)=.ok (.string ⟨⟨(L.drop P).take k⟩⟩) (W.drewN j):=fun j=>run_text (W.drewN j) a2 ((L.drop P).take k) k c2 v (by rw[List.length_take,bh,S.o];omega)
   have b0:=D s;clear v s;go_quiet (fail)
   go_wp2;go_ret;rw[T.o,HD.o];exact⟨rfl,⟨ao,n,cap,P+k,L,(by rw[Int.natCast_add];exact b.o.drewN _),⟨r.o.rd,r.o.lt⟩,S.o,b0.o,HN.o,by rw[←HD.o,List.drop_drop]⟩,q.o.drewN _⟩
def NO{B:Nat}(w:V)(p:Nat)(x:X)(h:gM B w p x):
  ar M 32 #[.pointer (I ⟨p,0,J⟩)] w (fun s w'=>s=.returned (.int .i64 (mv x))∧ae w.heap.size w w'):=by
 cases x with
 | err e=>
  obtain⟨l,ao,n,cap,P,f⟩:=h;obtain⟨c0,c1,c2,f0,f1,f2,t⟩:=aW f.k;have u:(e==0)=U:=by simpa using l
  clear l f
  go_enter func32,ntmps32
  go_upto_region 1 with fail
  go_quiet (fail)
  obtain⟨b,c⟩:∃b,w.drewN nq=b:=⟨_,rfl⟩;have v:b.cell? ⟨p,2,J⟩=I (.int .i64 e):=by rw[←c];exact c2
  have i:Hid (ae w.heap.size w b):=D (by rw[←c];exact below_drewN (aD _ _) nq);rw[c];clear c c0 c1 c2;go_wp2;go_ret;exact⟨rfl,i.o⟩
 | ok m=>
  obtain⟨ao,n,cap,P,L,f,o,j,q,r,k⟩:=h;obtain⟨c0,c1,c2,f0,f1,f2,t⟩:=aW f.k;have u:((0:Int)==0)=O:=rfl;have d:m.length=n-P:=by rw[←k,bh,j]
  have g:Hid (mv (.ok m)=if P<n then 9 else 0):=D (by
   show(if m=[]then(0:Int)else 9)=_;by_cases hm:m=[]
   ·rw[if_pos hm,if_neg];subst hm;simp at d;omega
   ·rw[if_neg hm,if_pos]
    have:=List.length_pos_iff.2 hm;omega)
  by_cases a:P<n
  ·have y:decide (P<n)=O:=by simpa using a
   rw[if_pos a]at g;clear d a f o j q r k
   go_enter func32,ntmps32
   go_upto_region 1 with fail
   go_quiet (fail)
   go_wp2;go_ret;exact⟨aZ g.o.symm,below_drewN (aD _ _) _⟩
  ·have y:decide (P<n)=U:=by simpa using a
   rw[if_neg a]at g;clear d a f o j q r k
   go_enter func32,ntmps32
   go_upto_region 1 with fail
   go_quiet (fail)
   obtain⟨b,c⟩:∃b,w.drewN nq=b:=⟨_,rfl⟩;have v:b.cell? ⟨p,2,J⟩=I (.int .i64 0):=by rw[←c];exact c2
   have i:Hid (ae w.heap.size w b):=D (by rw[←c];exact below_drewN (aD _ _) nq);rw[c];clear c c0 c1 c2;go_wp2;go_ret;exact⟨aZ g.o.symm,i.o⟩
def YB.keep{w w':V}{p C:Nat}{ao:Option aB}{n cap:Nat}{P e:Int}(h:YB w p ao n cap P e)(a:ae C w w')(b:p<C):YB w' p ao n cap P e:=
 ⟨by rw[a.block p b];exact h.k,h.c,h.m⟩
def gM.keep{B C:Nat}{w w':V}{p:Nat}{x:X}(h:gM B w p x)(a:ae C w w')(c:p<C)(d:B≤C):gM B w' p x:=by
 cases x with
 | ok l=>obtain⟨ao,n,cap,P,L,b,f,g⟩:=h;exact⟨ao,n,cap,P,L,b.keep a c,f.keep a d,g⟩
 | err e=>obtain⟨i,ao,n,cap,P,b⟩:=h;exact⟨i,ao,n,cap,P,b.keep a c⟩
def gM.look{B:Nat}{w:V}{p:Nat}{x:X}(h:gM B w p x):∃u v e,w.heap[p]?=I (.cells #[u,v,.int .i64 e] 173 (0,0))∧(match x with | .ok _=>e=0 | .err d=>e=d∧d≠0):=by
 cases x with
 | ok l=>obtain⟨ao,n,cap,P,L,a,c,f⟩:=h;exact⟨_,_,_,a.k,rfl⟩
 | err e=>obtain⟨b,ao,n,cap,P,a⟩:=h;exact⟨_,_,_,a.k,rfl,b⟩
def zJ(n:Nat)(m:List UInt8)(i:Nat)(r:List Int):X→Prop
 | .ok l=>jw n m i r l
 | .err e=>i≤n∧r.length=i∧(nums n m).2=.err e
def zJ.step{n i:Nat}{m l:List UInt8}{r:List Int}(h:zJ n m i r (.ok l))(hi:i<n):zJ n m (i+1) (r++ [(aU (.ok l)).1]) (aU (.ok l)).2:=by
 cases a:num 0 O l with
 | mk v z=>
  cases z with
  | ok c=>rw[pz a];exact jw.step h hi a
  | err e=>
   have b:(num 0 O l).2=.err e:=by rw[a]
   rw[mu b];exact⟨hi,by simp[h.1],jw.err h hi b⟩
def zJ.len{n i:Nat}{m:List UInt8}{r:List Int}{x:X}(h:zJ n m i r x):r.length=i∧i≤n:=by
 cases x with
 | ok l=>exact⟨h.1,h.2.1⟩
 | err e=>exact⟨h.2.1,h.1⟩
def CA{x:X}{n:Nat}{m:List UInt8}(h:qh x=(n,.ok m)):du x=(match nums n m with | (r,.ok l)=>(r,.ok l) | (_,x)=>([],x)):=by
 cases x with
 | ok l=>exact zI h
 | err e=>cases h
def CB{x:X}{n:Nat}{e:Int}(h:qh x=(n,.err e)):du x=([],.err e):=by
 cases x with
 | ok l=>exact Cp (by rw[show gZ l=_ from h])
 | err d=>cases h;rfl
def I6{x:X}{n:Nat}{m:List UInt8}{e:Int}(h:qh x=(n,.ok m))(a:(nums n m).2=.err e):du x=([],.err e):=by
 rw[CA h];generalize nums n m=q at a⊢;obtain⟨v,z⟩:=q;simp only at a;subst a;rfl
def I7{x y:X}{n:Nat}(h:qh x=(n,y)):n≤65535:=by
 cases x with
 | err e=>cases h;omega
 | ok l=>
  cases y with
  | ok m=>exact IZ h
  | err e=>
   have a:gZ l=(n,.err e):=h
   cases b:num 0 O l with
   | mk v z=>
    cases z with
    | ok c=>
     rw[nF b]at a
     split at a
     ·cases a;omega
     ·cases a
    | err d=>
     rw[pp (x:=d) (by rw[b])]at a
     cases a;omega
def NP(B:Nat)(w:V)(p:Nat)(x:X)(a:de)(w':V):Prop:=
 ∃v,a=.returned v∧w'.ownsRow w.heap.size 3 1 v (du x).1.length (fL (du x).1)∧Hid (gM B w' p (du x).2)∧Hid (But p w w')
def KU{B:Nat}(w:V)(p:Nat)(x:X)(h:gM B w p x)(hB:B≤w.heap.size):
  ar M 138 #[.pointer (I ⟨p,0,J⟩)] w (NP B w p x):=by
 obtain⟨b0,C⟩:∃b0,qh x=b0:=⟨_,rfl⟩;obtain⟨n,y⟩:=b0;have HX:=D h;have g:=D C;have k:=D h.lt;have E:=D hB;have HN:=D (I7 C);clear h C hB
 go_enter func138,ntmps138
 go_wp2_with ((go_at_call 199;refine(Gf w p x HX.o).mono ?_);rintro en w9 ⟨rfl,k9,b9⟩)
 rw[g.o]at k9⊢;simp only at k9⊢
 cases y with
 | err e=>
  have F:n=0:=by
   have:=g.o
   cases x with
   | err d=>cases this;rfl
   | ok l=>
    cases hv:num 0 O l with
    | mk v z=>
     have j:gZ l=(n,.err e):=this
     cases z with
     | ok m'=>
      rw[nF hv]at j
      split at j
      ·cases j;rfl
      ·cases j
     | err d=>
      rw[pp (x:=d) (by rw[hv])]at j
      cases j;rfl
  subst F;have K9:=D k9.o;obtain⟨b,ao,n,cap,P,h1⟩:=k9.o;obtain⟨c0,c1,c2,f0,f1,f2,H⟩:=aW h1.k;have e1:(e==0)=U:=by simpa using b
  have e2:(e != 0)=O:=by simpa using b
  clear b h1 k9
  go_loopw[4,5] (fun vl o wr=>o=.int .i64 0∧wr=w9) (fun _ _ _=>0)
  case atStart=>exact⟨rfl,rfl⟩
  case round=>
   obtain⟨rfl,rfl⟩:=hrel;go_wp2;go_ret;refine⟨_,rfl,?_,?_,b9⟩
   ·rw[CB g.o];exact cD _ _ _ _
   ·rw[CB g.o];exact K9
 | ok m=>
  go_loopw[4,5] (fun vl o wr=>∃(i:Nat)(r:List Int)(z:X),o=.int .i64 i∧Hid (zJ n m i r z)∧Hid (gM B wr p z)∧Hid (wr.ownsRow w.heap.size 3 1 vl i (fL r))∧Hid (But p w wr)) (fun _ o _=>n-(bp o).toNat)
  case atStart=>exact⟨0,[],.ok m,rfl,D (jw.start n m),k9,D (cD _ _ _ _),b9⟩
  case round=>
   obtain⟨i,r,z,rfl,q,s,K,c⟩:=hrel;obtain⟨a6,c6,rfl,-,-⟩:=bY K.o;obtain⟨u1,u2,u3,L,N⟩:=s.o.look;obtain⟨c0,c1,c2,f0,f1,f2,H⟩:=aW L
   cases z with
   | err e=>
    obtain⟨rfl,b⟩:=N;have e1:(u3==0)=U:=by simpa using b
    have e2:(u3 != 0)=O:=by simpa using b
    have u:=D (I6 g.o q.o.2.2);clear L b c0 c1 f0 f1 f2 H;by_cases hi:i<n
    ·have Q:decide (i<n)=O:=by simpa using hi
     clear hi;go_wp2;go_ret;refine⟨_,rfl,?_,?_,c⟩
     ·rw[u.o];exact cD _ _ _ _
     ·rw[u.o];exact s
    ·have Q:decide (i<n)=U:=by simpa using hi
     clear hi;go_wp2;go_ret;refine⟨_,rfl,?_,?_,c⟩
     ·rw[u.o];exact cD _ _ _ _
     ·rw[u.o];exact s
   | ok l=>
    have R:u3=0:=N;subst R;have e1:((0:Int)==0)=O:=rfl;have e2:((0:Int) != 0)=U:=rfl;clear L N c0 c1 f0 f1 f2 H;by_cases hi:i<n
    ·have Q:decide (i<n)=O:=by simpa using hi
     have a:=D hi;clear hi
     go_upto_region 5 with(first
      | ((go_at_call 29;refine(pr wr p (.ok l) s.o).mono ?_);rintro en S ⟨rfl,k8,b8⟩;have o8:=D (zH K.o b8.o k.o);clear c2)
      | ((with_reducible refine aT 24 ?_);refine Co rfl _ _ rfl w.heap.size (.slice a6 i c6) i r rfl (o8.o.alloc _) (I ⟨S.heap.size,0,J⟩) 1 1 [(aU (.ok l)).1] rfl rfl (MS S _ rfl _) (by have:=a.o;have:=HN.o;omega) (by have:=b8.o.size;have:=c.o.size;simp;omega) ?_;intro v7 w7 o7 g7 h7))
     have f:ae w.heap.size S w7:=((aD _ _).alloc (by have:=b8.o.size;have:=c.o.size;omega) _).grown g7 (by have:=b8.o.size;have:=c.o.size;simp;omega) (k_ o8.o);have HC:=D (q.o.step a.o);have T:=D (k8.o.keep f k.o E.o);have W:Hid (But p w w7):=D ((c.o.trans b8.o).then f (G _));have a0:=D o7;have e9:bi ((i:Int)+1)=(i:Int)+1:=ag _ (by have:=HN.o;have:=a.o;omega);clear g7 h7 f o7;go_wp2;go_round
     case rel=>exact⟨i+1,r++ [(aU (.ok l)).1],(aU (.ok l)).2,by go_num,HC,T,a0,W⟩
     case measure=>exact bA a.o _ eT
    ·have Q:decide (i<n)=U:=by simpa using hi
     have t:i=n:=by have:=q.o.2.1;omega
     have HF:Hid (du x=(r,.ok l)):=D (by
      have hd:jw n m i r l:=q.o;rw[t]at hd
      rw[CA g.o,hd.done])
     clear hi t;go_wp2;go_ret;refine⟨_,rfl,?_,?_,c⟩
     ·rw[HF.o];show wr.ownsRow _ _ _ _ r.length _;rw[q.o.len.1];exact K.o
     ·rw[HF.o];exact s
structure EL(α:Type) where
 lt:aN
 e:aN
 E:Nat
 I8:Nat
 f:α→List Z
 und:oS M lt=I (.slice e)
 info:(prog.info? e).map (fun i=>(i.zero.map (·.cells.size),i.size,i.bytes))=I (I E,E,I8)
 len:∀x,(f x).length=E
 one:∀x,∀u∈f x,u.oneCell'=O
 pos:0<E
 few:I8≤1000
def EL.own{α:Type}(L:EL α)(w:V)(base:Nat)(v:Z)(l:List α):Prop:=w.ownsRow base L.e L.E v l.length (ca L.f l)
section
variable {α:Type} {L:EL α} {w w':V} {base:Nat} {v:Z} {l:List α}
theorem EL.own.but{p:Nat}(h:L.own w base v l)(a:But p w w')(b:p<base):L.own w' base v l:=zH h a b
theorem EL.own.put(h:L.own w base v l)(p:aB)(a:p.block<base)(u:Z):L.own (w.setCell p u) base v l:=pq h p a u
theorem EL.own.keep{C:Nat}(h:L.own w base v l)(a:ae C w w')(b:w.heap.size≤C):L.own w' base v l:=rI h a b
theorem EL.own.to{b2:Nat}(h:L.own w base v l)(a:b2≤base):L.own w b2 v l:=ki h a
theorem EL.own.shape(h:L.own w base v l):∃ao cap,v=.slice ao l.length cap∧l.length≤cap∧cap≤9223372036854775807:=bY h
theorem EL.own.sl(h:L.own w base v l):cc L.f L.E w v l:=cM h
theorem EL.nil(L:EL α)(w:V)(base:Nat):L.own w base (.slice J 0 0) []:=cD _ _ _ _
end
theorem MU(w:V)(b:Nat)(a:w.heap.size=b)(cs:Array Z)(t:aN):Rd (w.alloc (.cells cs t)) (I ⟨b,0,J⟩) cs.toList:=by
 subst a;intro j u c;refine⟨_,rfl,?_⟩;rw[Addr.add_lit,an,show(w.alloc (.cells cs t)).heap[(⟨w.heap.size,0+j,J⟩:aB).block]?=_ from al w _];simpa using c
theorem EL.iW{α:Type}(L:EL α){w:V}{ops:Array aH}{rest:List aH}{o:aH}{a:Act}{Q:Exit→Act→V→Prop}(p:o.guard=J)(s x:aP)
  (E:o.op=.call { callee:=.builtin .append,args:= #[s,x],argTypes:= #[L.lt,L.lt] })
  (base:Nat) (v:Z) (l:List α) (F:a.eval s=v) (j:L.own w base v l) (y:α) (cs:Array Z) (q:cs.toList=L.f y) (b:Nat) (H:w.heap.size=b)
  (K:a.eval x=.slice (I ⟨b,0,J⟩) 1 1) (n:Nat) (r:l.length=n) (N:n<100000000) (f:base≤w.heap.size)
  (h:∀ao c w',L.own w' base (.slice ao (n+1) c) (l++ [y])→ae base w w'→(w.alloc (.cells cs L.e)).grownBy w' v.ownBlock→cH M ops Q rest (a.put o.dst (.slice ao (n+1) c)) w'):cH M ops Q (o::rest) a (w.alloc (.cells cs L.e)):=by
 subst H;subst r;have hi:=L.info
 cases d: prog.info? L.e with
 | none=>rw[d]at hi;cases hi
 | some i=>
  rw[d]at hi;simp only[dl,bU,eP]at hi;obtain⟨k,t,u⟩:=hi
  cases g:i.zero with
  | none=>rw[g]at k;cases k
  | some z=>
   rw[g]at k;simp only[dl,bU]at k;have e:L.own (w.alloc (.cells cs L.e)) base v l:=j.keep ((aD _ _).alloc (G _) _) (G _);have m:=L.few;have hm:(l.length+1)*L.I8≤140737488355328:=aa (fs (show l.length+1≤100000000 by omega) m) aC;refine hY p s x L.lt E base L.e i z L.E L.I8 L.und d g t u k L.pos v l.length (ca L.f l) F e (I ⟨w.heap.size,0,J⟩) 1 1 (L.f y) K (by rw[L.len,Nat.one_mul]) (by rw[←q];exact MU w _ rfl cs L.e) (L.one y) (by unfold maxLen;omega) hm kc ?_
   intro P w' B C R;obtain⟨ao,c,rfl,-,-⟩:=bY B;refine h ao c w' ?_ (((aD _ _).alloc f _).grown C kc (k_ e)) C;show w'.ownsRow base L.e L.E _ (l++ [y]).length (ca L.f (l++ [y]));rw[ay,jS,tf];exact B
abbrev cn:EL D3:=⟨43,73,3,24,ku,underlying43,by kernel_rfl,fun _=>rfl,fun x u a=>by simp only[ku,bg,bV,or_false]at a;rcases a with rfl | rfl | rfl<;>rfl,by decide,by decide⟩
abbrev OpC:=hJ×Option aB×Nat
def Sz(z:OpC):List Z:=(IQ z.1.d.1 z.1.d.2.1 z.1.d.2.2 z.1.c z.1.v z.1.k z.1.key z.1.tx z.1.n z.1.t z.2.1 z.1.ds.length z.2.2)
abbrev I9:EL OpC:=⟨39,75,11,120,Sz,underlying39,by kernel_rfl,fun _=>rfl,fun x u a=>by simp only[Sz,bg,bV,or_false]at a;rcases a with rfl | rfl | rfl | rfl | rfl | rfl | rfl | rfl | rfl | rfl | rfl<;>rfl,by decide,by decide⟩
def oK(w:V)(base:Nat)(z:OpC):Prop:=cn.own w base (.slice z.2.1 z.1.ds.length z.2.2) z.1.ds
def cJ(w:V)(base:Nat)(v:Z)(l:List hJ):Prop:=∃zs:List OpC,zs.map (·.1)=l∧I9.own w base v zs∧∀z∈zs,oK w base z
theorem cJ.nil(w:V)(base:Nat):cJ w base (.slice J 0 0) []:=⟨[],rfl,I9.nil w base,fun _ h=>by cases h⟩
theorem cJ.but{w w':V}{base p:Nat}{v:Z}{l:List hJ}(h:cJ w base v l)(a:But p w w')(b:p<base):cJ w' base v l:=by
 obtain⟨zs,c,d,e⟩:=h;exact⟨zs,c,d.but a b,fun z f=>(e z f).but a b⟩
theorem cJ.keep{w w':V}{base C:Nat}{v:Z}{l:List hJ}(h:cJ w base v l)(a:ae C w w')(b:w.heap.size≤C):cJ w' base v l:=by
 obtain⟨zs,c,d,e⟩:=h;exact⟨zs,c,d.keep a b,fun z f=>(e z f).keep a b⟩
theorem cJ.to{w:V}{base b2:Nat}{v:Z}{l:List hJ}(h:cJ w base v l)(a:b2≤base):cJ w b2 v l:=by
 obtain⟨zs,b,c,d⟩:=h;exact⟨zs,b,c.to a,fun z e=>(d z e).to a⟩
theorem cJ.put{w:V}{base:Nat}{v:Z}{l:List hJ}(h:cJ w base v l)(p:aB)(a:p.block<base)(u:Z):cJ (w.setCell p u) base v l:=by
 obtain⟨zs,b,c,d⟩:=h;exact⟨zs,b,c.put p a u,fun z e=>(d z e).put p a u⟩
theorem cJ.shape{w:V}{base:Nat}{v:Z}{l:List hJ}(h:cJ w base v l):∃ao cap,v=.slice ao l.length cap:=by
 obtain⟨zs,a,b,d⟩:=h;obtain⟨ao,cap,c,_⟩:=b.shape;exact⟨ao,cap,by rw[c,←a,fX]⟩
theorem oK.keep{w w':V}{base C:Nat}{z:OpC}(h:oK w base z)(a:ae C w w')(b:w.heap.size≤C):oK w' base z:=EL.own.keep h a b
theorem oK.kept{w w':V}{base:Nat}{z:OpC}{row:Option Nat}(h:oK w base z)(f:w.grownBy w' row)(b:∀g cs,row=I g→w.heap[g]? ≠I (.cells cs 73 (0,0))):oK w' base z:=by
 obtain⟨i,j⟩:=h;refine⟨i,j.imp id ?_⟩;rintro⟨g,cap,a,k,c,d,r⟩;refine⟨g,cap,a,k,c,?_,r⟩;rw[f.block g (br d).1 (fun e=>b g a e.symm d)];exact d
theorem cJ.iW{w:V}{ops:Array aH}{rest:List aH}{o:aH}{a:Act}{Q:Exit→Act→V→Prop}(r:o.guard=J)(s x:aP)
  (F:o.op=.call { callee:=.builtin .append,args:= #[s,x],argTypes:= #[39,39] })
  (base:Nat) (v:Z) (l:List hJ) (H:a.eval s=v) (f:cJ w base v l) (z:OpC) (K:oK w base z) (cs:Array Z) (t:cs.toList=Sz z) (b:Nat) (L:w.heap.size=b)
  (N:a.eval x=.slice (I ⟨b,0,J⟩) 1 1) (n:Nat) (u:l.length=n) (S:n<100000000) (d:base≤w.heap.size)
  (h:∀ao c w',cJ w' base (.slice ao (n+1) c) (l++ [z.1])→ae base w w'→cH M ops Q rest (a.put o.dst (.slice ao (n+1) c)) w'):cH M ops Q (o::rest) a (w.alloc (.cells cs 75)):=by
 subst u;obtain⟨zs,hm,E,P⟩:=f;have i:zs.length=l.length:=by rw[←hm,fX]
 refine I9.iW r s x F base v zs H E z cs t b L N l.length i A d ?_;intro ao c w' k1 k2 k3;have B:ae w.heap.size w (w.alloc (.cells cs 75)):=(aD _ _).alloc (G _) _
 have j:∀g k,v.ownBlock=I g→(w.alloc (.cells cs 75)).heap[g]? ≠I (.cells k 73 (0,0)):=by
  intro g k m e;rcases E.2 with⟨C,_⟩ | ⟨T,cap,R,C,_,p,_⟩
  ·rw[C]at m;simp[sW]at m
  ·rw[C]at m
   simp only[sW,bU]at m;subst m;rw[B.block _ (br p).1,p]at e;injection e with e;injection e with _ e _;exact absurd e aC
 refine h ao c w' ⟨zs++ [z],by simp[hm],k1,fun y q=>?_⟩ k2;rcases List.mem_append.1 q with q | q
 ·exact((P y q).keep B (G _)).kept k3 j
 ·rw[List.mem_singleton.1 q]
  exact(K.keep B (G _)).kept k3 j
abbrev iH:EL D3:=⟨40,202,3,24,ku,underlying40,by kernel_rfl,fun _=>rfl,fun x u a=>by simp only[ku,bg,bV,or_false]at a;rcases a with rfl | rfl | rfl<;>rfl,by decide,by decide⟩
structure yp where
 key:List UInt8
 tx:List UInt8
 v:Int
 t:Int
 d:D3
def nw(x:yp):List Z:=[.string ⟨⟨x.key⟩⟩,.string ⟨⟨x.tx⟩⟩,.int .i64 x.v,.int .i64 x.t,.int .i64 x.d.1,.int .i64 x.d.2.1,.int .i64 x.d.2.2]
abbrev eJ:EL yp:=⟨41,204,7,72,nw,underlying41,by kernel_rfl,fun _=>rfl,fun x u a=>by simp only[nw,bg,bV,or_false]at a;rcases a with rfl | rfl | rfl | rfl | rfl | rfl | rfl<;>rfl,by decide,by decide⟩
structure qW where
 key:List UInt8
 tx:List UInt8
 v:Int
 d:D3
def kv(x:qW):List Z:=[.string ⟨⟨x.key⟩⟩,.string ⟨⟨x.tx⟩⟩,.int .i64 x.v,.int .i64 x.d.1,.int .i64 x.d.2.1,.int .i64 x.d.2.2]
abbrev dD:EL qW:=⟨42,206,6,64,kv,underlying42,by kernel_rfl,fun _=>rfl,fun x u a=>by simp only[kv,bg,bV,or_false]at a;rcases a with rfl | rfl | rfl | rfl | rfl | rfl<;>rfl,by decide,by decide⟩
structure yq where
 key:List UInt8
 n:Int
def ox(x:yq):List Z:=[.string ⟨⟨x.key⟩⟩,.int .i64 x.n]
abbrev fh:EL yq:=⟨44,208,2,24,ox,underlying44,by kernel_rfl,fun _=>rfl,fun x u a=>by simp only[ox,bg,bV,or_false]at a;rcases a with rfl | rfl<;>rfl,by decide,by decide⟩
structure yr where
 i:Int
 tx:List UInt8
 v:Int
 d:D3
def oy(x:yr):List Z:=[.int .i64 x.i,.string ⟨⟨x.tx⟩⟩,.int .i64 x.v,.int .i64 x.d.1,.int .i64 x.d.2.1,.int .i64 x.d.2.2]
abbrev eV:EL yr:=⟨45,210,6,56,oy,underlying45,by kernel_rfl,fun _=>rfl,fun x u a=>by simp only[oy,bg,bV,or_false]at a;rcases a with rfl | rfl | rfl | rfl | rfl | rfl<;>rfl,by decide,by decide⟩
def EL.nI{α:Type}(L:EL α){w:V}{ops:Array aH}{rest:List aH}{o:aH}{a:Act}{Q:Exit→Act→V→Prop}(k:o.guard=J)(s x:aP)
  (t:o.op=.call { callee:=.builtin .append,args:= #[s,x],argTypes:= #[L.lt,L.lt] })
  (base:Nat) (v:Z) (l:List α) (u:a.eval s=v) (g:L.own w base v l) (ao:Option aB) (m c:Nat) (p:List α) (y:a.eval x=.slice ao m c) (hm:p.length=m) (d:Rd w ao (ca L.f p))
  (E:l.length+m<100000000) (e:base≤w.heap.size)
  (h:∀v' w',L.own w' base v' (l++p)→w.grownBy w' v.ownBlock→cH M ops Q rest (a.put o.dst v') w'):cH M ops Q (o::rest) a w:=by
 have hi:=L.info
 cases b: prog.info? L.e with
 | none=>rw[b]at hi;cases hi
 | some i=>
  rw[b]at hi;simp only[dl,bU,eP]at hi;obtain⟨j,n,q⟩:=hi
  cases f:i.zero with
  | none=>rw[f]at j;cases j
  | some z=>
   rw[f]at j;simp only[dl,bU]at j;have r:(l.length+m)*L.I8≤140737488355328:=aa (fs (show l.length+m≤100000000 by omega) L.few) aC;refine hY k s x L.lt t base L.e i z L.E L.I8 L.und b f n q j L.pos v l.length _ u g ao m c (ca L.f p) y (by rw[ke L.len,hm]) d (jr L.one p) (by unfold maxLen;omega) r e ?_
   intro v' w' B C _;refine h v' w' ?_ C;show w'.ownsRow base L.e L.E v' (l++p).length (ca L.f (l++p));rw[ay,jS,hm];exact B
def CC{α:Type}(L:EL α)(w:V)(l:List α)(en:de)(w':V):Prop:=∃a,en=.returned a∧L.own w' w.heap.size a l∧ae w.heap.size w w'
def SA(a:aB)(n c:Nat)(w:V):(dr eG 40 (.slice (I a) n c) (.slice J 0 0)).run M w=.ok (.bool U) w:=aj
def PG(n c:Nat)(w:V):(dr eG 40 (.slice J n c) (.slice J 0 0)).run M w=.ok (.bool O) w:=aj
def NQ(w:V)(v:Z)(l:List _)(h:cc iH.f iH.E w v l)(n:l.length<100000000):ar M 194 #[v] w (CC iH w l):=by
 obtain⟨ao,cap,rfl,j,hm⟩:=Sl.shape h;rcases ao with _ | k
 ·have c:l=[]:=by
   obtain⟨_,o,m,p,_,_,q,_⟩:=h;injection p with r u x;subst r;exact cz (q rfl).1
  subst c;have a:= PG 0 cap;clear n
  go_enter func194,ntmps194
  go_wp2;go_ret;exact⟨_,rfl,iH.nil _ _,aD _ _⟩
 ·have d:=Sl.rd h
  have a:= SA k l.length cap
  go_enter func194,ntmps194
  go_wp2_with ((with_reducible refine aT 7 ?_);refine iH.nI rfl _ _ rfl w.heap.size _ [] rfl (gP _ _ _ _ iH.E #[] 0 rfl (G _) A eZ) (I k) l.length cap l rfl rfl (d.alloc _) kc bW ?_;intro y s e f)
  have i:ae w.heap.size w s:=((aD w.heap.size w).alloc (G _) _).grown f (by first | (simp;done) | (simp;omega)) (fun g t=>(by have b:I w.heap.size=I g:=t;injection b with b;omega));go_ret;exact⟨_,rfl,e,i⟩
def SB(a:aB)(n c:Nat)(w:V):(dr eG 41 (.slice (I a) n c) (.slice J 0 0)).run M w=.ok (.bool U) w:=aj
def PH(n c:Nat)(w:V):(dr eG 41 (.slice J n c) (.slice J 0 0)).run M w=.ok (.bool O) w:=aj
def NR(w:V)(v:Z)(l:List _)(h:cc eJ.f eJ.E w v l)(n:l.length<100000000):ar M 195 #[v] w (CC eJ w l):=by
 obtain⟨ao,cap,rfl,j,hm⟩:=Sl.shape h;rcases ao with _ | k
 ·have c:l=[]:=by
   obtain⟨_,o,m,p,_,_,q,_⟩:=h;injection p with r u x;subst r;exact cz (q rfl).1
  subst c;have a:= PH 0 cap;clear n
  go_enter func195,ntmps195
  go_wp2;go_ret;exact⟨_,rfl,eJ.nil _ _,aD _ _⟩
 ·have d:=Sl.rd h
  have a:= SB k l.length cap
  go_enter func195,ntmps195
  go_wp2_with ((with_reducible refine aT 7 ?_);refine eJ.nI rfl _ _ rfl w.heap.size _ [] rfl (gP _ _ _ _ eJ.E #[] 0 rfl (G _) A eZ) (I k) l.length cap l rfl rfl (d.alloc _) kc bW ?_;intro y s e f)
  have i:ae w.heap.size w s:=((aD w.heap.size w).alloc (G _) _).grown f (by first | (simp;done) | (simp;omega)) (fun g t=>(by have b:I w.heap.size=I g:=t;injection b with b;omega));go_ret;exact⟨_,rfl,e,i⟩
def SC(a:aB)(n c:Nat)(w:V):(dr eG 42 (.slice (I a) n c) (.slice J 0 0)).run M w=.ok (.bool U) w:=aj
def PI(n c:Nat)(w:V):(dr eG 42 (.slice J n c) (.slice J 0 0)).run M w=.ok (.bool O) w:=aj
def NS(w:V)(v:Z)(l:List _)(h:cc dD.f dD.E w v l)(n:l.length<100000000):ar M 196 #[v] w (CC dD w l):=by
 obtain⟨ao,cap,rfl,j,hm⟩:=Sl.shape h;rcases ao with _ | k
 ·have c:l=[]:=by
   obtain⟨_,o,m,p,_,_,q,_⟩:=h;injection p with r u x;subst r;exact cz (q rfl).1
  subst c;have a:= PI 0 cap;clear n
  go_enter func196,ntmps196
  go_wp2;go_ret;exact⟨_,rfl,dD.nil _ _,aD _ _⟩
 ·have d:=Sl.rd h
  have a:= SC k l.length cap
  go_enter func196,ntmps196
  go_wp2_with ((with_reducible refine aT 7 ?_);refine dD.nI rfl _ _ rfl w.heap.size _ [] rfl (gP _ _ _ _ dD.E #[] 0 rfl (G _) A eZ) (I k) l.length cap l rfl rfl (d.alloc _) kc bW ?_;intro y s e f)
  have i:ae w.heap.size w s:=((aD w.heap.size w).alloc (G _) _).grown f (by first | (simp;done) | (simp;omega)) (fun g t=>(by have b:I w.heap.size=I g:=t;injection b with b;omega));go_ret;exact⟨_,rfl,e,i⟩
def SD(a:aB)(n c:Nat)(w:V):(dr eG 44 (.slice (I a) n c) (.slice J 0 0)).run M w=.ok (.bool U) w:=aj
def PL(n c:Nat)(w:V):(dr eG 44 (.slice J n c) (.slice J 0 0)).run M w=.ok (.bool O) w:=aj
def NT(w:V)(v:Z)(l:List _)(h:cc fh.f fh.E w v l)(n:l.length<100000000):ar M 197 #[v] w (CC fh w l):=by
 obtain⟨ao,cap,rfl,j,hm⟩:=Sl.shape h;rcases ao with _ | k
 ·have c:l=[]:=by
   obtain⟨_,o,m,p,_,_,q,_⟩:=h;injection p with r u x;subst r;exact cz (q rfl).1
  subst c;have a:= PL 0 cap;clear n
  go_enter func197,ntmps197
  go_wp2;go_ret;exact⟨_,rfl,fh.nil _ _,aD _ _⟩
 ·have d:=Sl.rd h
  have a:= SD k l.length cap
  go_enter func197,ntmps197
  go_wp2_with ((with_reducible refine aT 7 ?_);refine fh.nI rfl _ _ rfl w.heap.size _ [] rfl (gP _ _ _ _ fh.E #[] 0 rfl (G _) A eZ) (I k) l.length cap l rfl rfl (d.alloc _) kc bW ?_;intro y s e f)
  have i:ae w.heap.size w s:=((aD w.heap.size w).alloc (G _) _).grown f (by first | (simp;done) | (simp;omega)) (fun g t=>(by have b:I w.heap.size=I g:=t;injection b with b;omega));go_ret;exact⟨_,rfl,e,i⟩
def SE(a:aB)(n c:Nat)(w:V):(dr eG 45 (.slice (I a) n c) (.slice J 0 0)).run M w=.ok (.bool U) w:=aj
def PM(n c:Nat)(w:V):(dr eG 45 (.slice J n c) (.slice J 0 0)).run M w=.ok (.bool O) w:=aj
def NU(w:V)(v:Z)(l:List _)(h:cc eV.f eV.E w v l)(n:l.length<100000000):ar M 198 #[v] w (CC eV w l):=by
 obtain⟨ao,cap,rfl,j,hm⟩:=Sl.shape h;rcases ao with _ | k
 ·have c:l=[]:=by
   obtain⟨_,o,m,p,_,_,q,_⟩:=h;injection p with r u x;subst r;exact cz (q rfl).1
  subst c;have a:= PM 0 cap;clear n
  go_enter func198,ntmps198
  go_wp2;go_ret;exact⟨_,rfl,eV.nil _ _,aD _ _⟩
 ·have d:=Sl.rd h
  have a:= SE k l.length cap
  go_enter func198,ntmps198
  go_wp2_with ((with_reducible refine aT 7 ?_);refine eV.nI rfl _ _ rfl w.heap.size _ [] rfl (gP _ _ _ _ eV.E #[] 0 rfl (G _) A eZ) (I k) l.length cap l rfl rfl (d.alloc _) kc bW ?_;intro y s e f)
  have i:ae w.heap.size w s:=((aD w.heap.size w).alloc (G _) _).grown f (by first | (simp;done) | (simp;omega)) (fun g t=>(by have b:I w.heap.size=I g:=t;injection b with b;omega));go_ret;exact⟨_,rfl,e,i⟩
def SF(a:aB)(n c:Nat)(w:V):(dr eG 43 (.slice (I a) n c) (.slice J 0 0)).run M w=.ok (.bool U) w:=aj
def PN(n c:Nat)(w:V):(dr eG 43 (.slice J n c) (.slice J 0 0)).run M w=.ok (.bool O) w:=aj
def NV(w:V)(v:Z)(l:List _)(h:cc cn.f cn.E w v l)(n:l.length<100000000):ar M 107 #[v] w (CC cn w l):=by
 obtain⟨ao,cap,rfl,j,hm⟩:=Sl.shape h;rcases ao with _ | k
 ·have c:l=[]:=by
   obtain⟨_,o,m,p,_,_,q,_⟩:=h;injection p with r u x;subst r;exact cz (q rfl).1
  subst c;have a:= PN 0 cap;clear n
  go_enter func107,ntmps107
  go_wp2;go_ret;exact⟨_,rfl,cn.nil _ _,aD _ _⟩
 ·have d:=Sl.rd h
  have a:= SF k l.length cap
  go_enter func107,ntmps107
  go_wp2_with ((with_reducible refine aT 7 ?_);refine cn.nI rfl _ _ rfl w.heap.size _ [] rfl (gP _ _ _ _ cn.E #[] 0 rfl (G _) A eZ) (I k) l.length cap l rfl rfl (d.alloc _) kc bW ?_;intro y s e f)
  have i:ae w.heap.size w s:=((aD w.heap.size w).alloc (G _) _).grown f (by first | (simp;done) | (simp;omega)) (fun g t=>(by have b:I w.heap.size=I g:=t;injection b with b;omega));go_ret;exact⟨_,rfl,e,i⟩
end Go.Proofs.YtdgllhcfablaoaaGreat
