/- What the law asks, in parts: VBa VBc VAf VBb VBd Sa Sb Sc Sd Se Sf. -/
import Derived.Laws.Closers25b
import Derived.Lib.AppendZeros
import Derived.Lib.ConvBytes
import Derived.Test.YtdgllhcfablaoaaGreatMg1
import Derived.Test.YtdgllhcfablaoaaGreatMg4
import Derived.Test.YtdgllhcfablaoaaGreatMg3
import Derived.Test.YtdgllhcfablaoaaGreatMg2
set_option linter.all false
set_option maxRecDepth 100000
set_option maxHeartbeats 16000000
open Go.Proofs.Tryz
open Bool renaming false→U,true→O
open Option renaming some→I,none→J
open Go renaming World→V,Value→Z,bodyPost_ret→au,Calls→ar,heap_alloc_new→al,Addr→aB,setRow_heap→aO,TypeId→aN,Program→aQ,Ending→de,below_setRow→dh,results_cell_row→eb,run_underlying→eO,setRow_other→fK,bodyPost→gW,wpList_store_row→aJ
open Nat renaming le_trans→aa,zero_le→aw,lt_succ_self→bu,mul_le_mul_right→bE,add_zero→dg,le_succ→dW,lt_succ_of_le→fk,mul_one→dL,le_succ_of_le→gR,ne_of_lt→lZ
open Go.RowKit renaming Below→ae,wrap64→bi,intOf→bp
open Go.IntWalk renaming wrap64_in→ag
open List renaming mem_singleton→af,length_append→ay,mem_cons_of_mem→aE,length_drop→bh,mem_cons→bg,mem_cons_self→aY,length_take→bN,not_mem_nil→bV,take_append_drop→fw,toArray→eS,take_length→ix,flatMap_append→uQ
open Go.World renaming cell?→an,setCell→aV,block_lt_of_cell?→aS,setRow→cV
open Array renaming getElem?_modify→aR
open Go.Builtin renaming zeroCells→aX,clear_→kC
open Go.RowKit.Below renaming heap_setCell→bC,heap_alloc→ed
open Go.Value renaming oneCell'→ap,int→gV
open Go.Result renaming andThen→cT
open Go.Instr renaming makeFunc→dn,sliceAt→eF
open Go.Addr renaming add_lit→dM
open And renaming intro→eK
open Go.Code renaming wp→im
open Ne renaming symm→jh
open Go.BinOp renaming or→oe
open Go.Lib renaming bytesWorld→s4
open Go.IntKind renaming wrap_u64→zn
open ByteArray renaming size→BV
open Go.Proofs.Tryz renaming prog→M
namespace Go.Proofs.YtdgllhcfablaoaaGreat
open Go.RowKit
def Jl{x:Int}(a:0≤x)(b:x<18446744073709551616):∃m:Nat,m<18446744073709551616∧x=m:=⟨x.toNat,by omega,by omega⟩
def Jm(w:V)(n:Int):
  ar M 159 #[.int .i64 n] w (fun c w'=>(∃m:Nat,m<18446744073709551616∧c=.returned (.int .u64 m))∧w'=w):=by
 by_cases a:n<0
 ·have d:decide (n<0)=O:=by simpa using a
  clear a;obtain⟨m,hm,b⟩:=Jl (bits_lo_u64 oe (IntKind.u64.wrap (IntKind.u64.wrap (bi (-bi (n+1)))*2)) 1) (by have:=bits_hi_u64 oe (IntKind.u64.wrap (IntKind.u64.wrap (bi (-bi (n+1)))*2)) 1;omega)
  go_enter func159,ntmps159
  go_wp2;go_ret;exact⟨⟨m,hm,by simp[b]⟩,rfl⟩
 ·have d:decide (n<0)=U:=by simpa using a
  clear a;obtain⟨m,hm,b⟩:=Jl (x:=IntKind.u64.wrap (IntKind.u64.wrap n*2)) (by rw[zn];omega) (by rw[zn];omega)
  go_enter func159,ntmps159
  go_wp2;go_ret;exact⟨⟨m,hm,by simp[b]⟩,rfl⟩
abbrev Lt:EL UInt8:=⟨33,5,1,1,fun b=>[.int .u8 b.toNat],underlying33,by kernel_rfl,fun _=>rfl,fun x u a=>by rw[af.1 a];rfl,by decide,by decide⟩
def ZA(l:List UInt8):ca Lt.f l=bX l:=by
 induction l with
 | nil=>rfl
 | cons x l a=>rw[hH,a];rfl
def M3{x:Int}(a:0≤x)(c:x≤255):∃b:UInt8,x=b.toNat:=⟨UInt8.ofNat x.toNat,by simp;omega⟩
def P9(w:V)(n:Nat)(z:n<18446744073709551616):
  ar M 158 #[.int .u64 n] w (fun H w'=>∃(l:List UInt8)(v:Z),l.length≤10∧H=.returned v∧w'.ownsRow w.heap.size 5 1 v l.length (bX l)∧ae w.heap.size w w'):=by
 have K:=D z;obtain⟨b0,d⟩:=M3 (x:=(n:Int)%128) A A
 have L:=D d;clear z d
 go_enter func158,ntmps158
 go_wp2
 go_loopw[0,3] (fun p N wr=>∃(m:Nat)(l:List UInt8)(a:Option aB)(c:Nat),p=.int .u64 m∧N=.slice a l.length c∧Hid (0<l.length∧l.length≤10∧m*128 ^ l.length<18446744073709551616)∧Hid (Lt.own wr w.heap.size (.slice a l.length c) l)∧Hid (ae w.heap.size w wr)) (fun p _ _=>(bp p).toNat)
 case atStart=>
  refine⟨n/128,[b0],I ⟨w.heap.size,0,J⟩,1,by simp,rfl,D ⟨by simp,by simp,?_⟩,?_,D ((aD _ _).alloc (G _) _)⟩
  ·have:=K.o
   show n/128*128 ^ 1<_;omega
  ·rw[L.o]
   exact D (gP w w.heap.size w.heap.size 5 1 #[.int .u8 b0.toNat] 1 rfl (G _) A rfl)
 case round=>
  obtain⟨m,l,a,c,rfl,rfl,b,k,o⟩:=hrel;by_cases hm:0<m
  ·have P:decide (0<m)=O:=by simpa using hm
   obtain⟨b1,f⟩:=M3 (x:=bits oe IntKind.u8 ((m:Int)%128) 128) (bits_lo_u8 _ _ _) (bits_hi_u8 _ _ _)
   have Q:=D f
   have i:Hid (l.length≤9):=D (by
    obtain⟨q,B,r⟩:=b.o;rcases Nat.lt_or_ge l.length 10 with h | h
    ·omega
    ·have e:l.length=10:=A
     rw[e]at r;have:1*128 ^ 10≤m*128 ^ 10:=bE _ hm
     omega)
   have s:Hid (m/128*128 ^ (l.length+1)<18446744073709551616):=D (by
    obtain⟨q,B,r⟩:=b.o;refine Nat.lt_of_le_of_lt ?_ r;rw[Nat.pow_succ,Nat.mul_comm (128 ^ l.length),←Nat.mul_assoc]
    exact bE _ (Nat.div_mul_le_self _ _))
   have t:Hid (m/128<m):=D (Nat.div_lt_self hm A);clear hm f;go_upto_region 4 with((with_reducible refine aT 20 ?_);refine Lt.iW rfl _ _ rfl w.heap.size _ l rfl k.o b1 _ (by show [_]=[_];rw[Q.o]) _ rfl rfl l.length rfl (by have:=i.o;omega) o.o.size ?_;intro a7 R w7 C E S)
   have u:=D C;have y:=D (o.o.trans E);clear S E C;go_wp2;go_round
   case rel=>exact⟨m/128,l++ [b1],a7,R,by simp,by simp,D ⟨by simp,by have:=i.o;simp;omega,by rw[ay];exact s.o⟩,by rw[ay];exact u,y⟩
   case measure=>have:=t.o;simp[bp];omega
  ·have P:decide (0<m)=U:=by simpa using hm
   clear hm
   obtain⟨g,T⟩:∃g,a=I ⟨g,0,J⟩:=by
    obtain⟨_,j⟩:=k.o;rcases j with⟨j,_⟩ | ⟨g,_,_,j,_⟩
    ·injection j with _ B _
     have:=b.o.1;omega
    ·injection j with q _ _
     exact⟨g,q⟩
   subst T;go_wp2_with ((go_at_call 222;refine(Hd wr w.heap.size g c l (by rw[←ZA];exact k.o) (by have:=b.o;omega) b.o.1).mono ?_);rintro en w9 ⟨rfl,W,F,X,g9⟩)
   go_ret;exact⟨W,_,by rw[F];exact b.o.2.1,rfl,by rw[F];exact X,o.o.grown g9 o.o.size (k_ k.o)⟩
def CY{P:aQ}(w:V)(base:Nat)(e:aN)(E g n cap o:Nat)(c cs:List Z)(f:w.ownsRow base e E (.slice (I ⟨g,0,J⟩) n cap) n c)
  (B:o+cs.length≤n*E) (C:∀v∈cs,v.oneCell'=O):
  ∃w',(storeCells ⟨g,o,J⟩ cs).run P w=.ok () w'∧w'.ownsRow base e E (.slice (I ⟨g,0,J⟩) n cap) n (c.take o++cs++c.drop (o+cs.length))∧w.grownBy w' (I g):=by
 obtain⟨u,a⟩:=f;rcases a with⟨a,_⟩ | ⟨F,x,b,a,p,y,i,q,j,d⟩
 ·cases a
 injection a with a _ r;injection a with a;injection a with a _ _;subst a r;have z:n*E≤cap*E:=bE _ i;have l:=run_storeCells_at P g o e cs 0 b w y (by rw[j];omega) C;simp only[dg]at l;have m:(c.take o++cs++c.drop (o+cs.length)).length=n*E:=by simp only[ay,bN,bh,u];omega
 refine⟨_,l,⟨m,.inr ⟨g,cap,_,rfl,p,aO w g b _ e _ y,i,q,?_,?_⟩⟩,⟨rfl,rfl,rfl,by simp[cV],fun k H s=>fK w g k _ (fun h=>s (by rw[h]))⟩⟩
 ·rw[List.size_toArray];simp only[ay,bN,bh,Array.length_toList,j];omega
 ·have t:b.toList=c++b.toList.drop (n*E):=by rw[←d,fw]
  have:=rJ c (b.toList.drop (n*E)) cs o cs.length rfl A;rw[←t,u]at this;exact this
def CZ{P:aQ}(w:V)(t e:aN)(i:TypeInfo)(z:Z)(E:Nat)(x:P.underlying t=I (.slice e))(hi:P.info? e=I i)(y:i.zero=I z)(k:z.cells.size=E)(l:∀v∈z.cells,v.oneCell'=O)
  (base g n cap o m c:Nat) (f:List Z) (b:w.ownsRow base e E (.slice (I ⟨g,0,J⟩) n cap) n f) (hm:0<m) (p:o+m*E≤n*E):
  ∃w' zs,(∀r,(kC #[t] r #[.slice (I ⟨g,o,J⟩) m c]).run P w=.ok (.tuple #[]) w')∧zs.length=m*E∧
   w'.ownsRow base e E (.slice (I ⟨g,0,J⟩) n cap) n (f.take o++zs++f.drop (o+m*E))∧w.grownBy w' (I g):=by
 have a:(aX z.cells m).toList.length=m*E:=by simp[aX,k]
 have d:∀v∈(aX z.cells m).toList,v.oneCell'=O:=by
  intro v s;simp only[aX,Array.toList_map,Array.toList_range,List.mem_map,List.mem_range]at s;obtain⟨j,B,rfl⟩:=s
  have C:0<z.cells.size:=by
   rcases Nat.eq_zero_or_pos z.cells.size with h | h
   ·rw[h,Nat.mul_zero]at B;omega
   ·exact h
  rw[getElem!_pos z.cells _ (Nat.mod_lt _ C)];exact l _ (Array.getElem_mem _)
 obtain⟨w',F,u,H⟩:=CY (P:=P) w base e E g n cap o f (aX z.cells m).toList b (by rw[a];exact p) d;rw[a]at u;refine⟨w',_,fun r=>?_,a,u,H⟩;obtain⟨q,rfl⟩:∃q,m=q+1:=⟨m-1,by omega⟩;simp[kC,eO x,zeroValue,typeInfo,hi,y,F]
def Oh{w:V}{base:Nat}{e:aN}{E g n cap:Nat}{l:List Z}(h:w.ownsRow base e E (.slice (I ⟨g,0,J⟩) n cap) n l)(m:Nat)(hm:m≤n):
  w.ownsRow base e E (.slice (I ⟨g,0,J⟩) m cap) m (l.take (m*E)):=by
 obtain⟨p,a⟩:=h;rcases a with⟨a,_⟩ | ⟨s,o,c,a,d,q,r,f,i,b⟩
 ·cases a
 injection a with a _ j;injection a with a;injection a with a _ _;subst a j;have k:m*E≤n*E:=bE _ hm;refine⟨by rw[bN,p];omega,.inr ⟨g,cap,c,rfl,d,q,by omega,f,i,?_⟩⟩;rw[←b,List.take_take,Nat.min_eq_left k]
def yy{P:aQ}{w:V}{ops:Array Oper}{rest:List Oper}{o:Oper}{a:Act}{Q:Exit→Act→V→Prop}(b:o.guard=J)(d:Operand)(t:aN)
  (c:o.op=.call { callee:=.builtin .clear,args:= #[d],argTypes:= #[t] }) (v:Z) (e:a.eval d=v) {v':Z} {w':V}
  (f:(kC #[t] o.type #[v]).run P w=.ok v' w') (h:wpList P ops Q rest (a.put o.dst v') w'):wpList P ops Q (o::rest) a w:=by
 refine wpList_plain b fun K g=>?_
 unfold Oper.wp;simp[execOp,c,resolve,invoke,builtin,e,f,cT];exact g _ _ h
def sP{P:aQ}(t e:aN)(i:TypeInfo)(c:P.underlying t=I (.slice e))(hi:P.info? e=I i)
  (g n cap m:Nat) (k:Int) (h:k=m) (hm:m≤cap) (w:V):
  (eF t (.slice (I ⟨g,0,J⟩) n cap) J (I (.int .i64 k)) J).run P w=.ok (.slice (I ⟨g,0,J⟩) m cap) w:=by
 subst h;have f:P.elem t=e:=by simp[Program.elem,c]
 have d:P.underlying t=I (.slice (P.elem t)):=by rw[f];exact c
 have a:=run_slice_h (P:=P) (w:=w) t (I ⟨g,0,J⟩) n cap d .i64 (m:Int) A A;have b:(sizeOf (P.elem t)).run P w=.ok i.size w:=by simp[sizeOf,typeInfo,f,hi]
 have j:(⟨g,0,J⟩:aB).add (0*i.size)=⟨g,0,J⟩:=by rw[dM,Nat.zero_mul]
 simp only[b,cT,sliced,Int.toNat_natCast,Option.map_some,j,ite_self,Nat.sub_zero]at a;simp[eF,eO c,a]
def Oi(w:V)(n:Nat)(k:n<100000000):
  ar M 221 #[.slice J 0 0,.int .i64 n] w (fun l w'=>∃ao c,l=.returned (.slice ao 0 c)∧w'.ownsRow w.heap.size 5 1 (.slice ao 0 c) 0 (bX [])∧ae w.heap.size w w'):=by
 by_cases j:n=0
 ·subst j
  go_enter func221,ntmps221
  go_wp2;go_ret;exact⟨_,_,rfl,World.ownsRow_nil _ _ _ _,aD _ _⟩
 ·obtain⟨i,hi,g,m,h⟩:=info_parts ym
  have e:=Lib.run_append_nil_zeros (P:= M) w 33 3 33 5 i _ .i64 .i64 underlying33 underlying3 hi g n A A A (by rw[h];omega);have o:=grownCap_ge w n 0 5;have a:=grownCap_le_maxLen w n 0 5 (by unfold maxLen;omega);generalize grownCap w n 0 5 =C at*;obtain⟨zs,b,d⟩:∃zs,aX (gV .u8 0).cells n++aX (gV .u8 0).cells (C-n)=zs∧zs.size=C:=⟨_,rfl,by simp[aX,Value.cells];omega⟩;rw[b]at e;obtain⟨W,f⟩:∃W,w.drew.alloc (.cells zs 5)=W:=⟨_,rfl⟩;have p:Hid (W.ownsRow w.heap.size 5 1 (.slice (I ⟨w.heap.size,0,J⟩) 0 C) 0 (bX [])):=D ⟨rfl,.inr ⟨w.heap.size,C,zs,rfl,G _,by rw[←f];exact al w.drew _,aw _,a,by rw[d,dL],rfl⟩⟩;have q:Hid (ae w.heap.size w W):=D (by rw[←f];exact(aD _ _).drew.alloc (G _) _);rw[f]at e;have r:=D e;have t:decide (0<n)=O:=by rw[decide_eq_true_eq];omega
  have s:bi (n:Int)=n:=ag _ A;have u:=sP (P:= M) 33 5 i underlying33 hi w.heap.size n C 0 0 rfl (aw _);clear e f o a b d k j
  go_enter func221,ntmps221
  go_upto_region 5 with fail
  rw[s];go_upto_region 6 with((with_reducible refine aT 22 ?_);refine Lib.wpList_append_run _ rfl _ _ _ _ rfl _ _ rfl rfl _ _ r.o ?_)
  go_wp2;go_ret;exact⟨_,_,rfl,p.o,q.o⟩
def YG(x:Option aB×List UInt8×Nat):List Z:=[.slice x.1 x.2.1.length x.2.2]
def kw(l:List (Option aB×List UInt8×Nat)):List UInt8:=l.flatMap (·.2.1)
def C1(l:List (Option aB×List UInt8×Nat))(k:Nat)(a:k<l.length):kw (l.take (k+1))=kw (l.take k)++l[k].2.1:=by
 unfold kw;rw[Cf l k a,uQ];simp
def Jo(l:List (Option aB×List UInt8×Nat))(k:Nat):(kw (l.take k)).length≤(kw l).length:=by
 have:kw l=kw (l.take k)++kw (l.drop k):=by
  unfold kw;rw[←uQ,fw]
 rw[this,ay];omega
def tu(w:V)(v:Z)(l:List (Option aB×List UInt8×Nat))(h:cc YG 1 w v l)(Q:∀x∈l,Rd w x.1 (bX x.2.1))(R:l.length<1000)(t:(kw l).length<100000000):
  ar M 157 #[v] w (rO w 1 5 (kw l).length (bX (kw l))):=by
 obtain⟨ao,cap,rfl,S,a0⟩:=Sl.shape h;have T:=D h;have HR:=D Q;have HL:=D R;have u:=D t;clear h Q R t
 go_enter func157,ntmps157
 go_wp2
 go_loopw[3,11] (fun y d wr=>∃k:Nat,k≤l.length∧d=.int .i64 k∧y=.int .i64 (kw (l.take k)).length∧wr=w) (fun _ d _=>l.length-(bp d).toNat)
 case atStart=>exact⟨0,aw _,rfl,rfl,rfl⟩
 case round=>
  obtain⟨k,hk,rfl,rfl,rfl⟩:=hrel;obtain⟨c,z⟩:∃c,c=wr:=⟨_,rfl⟩;subst z;by_cases a:k<l.length
  ·have B:decide (k<l.length)=O:=by simpa using a
   obtain⟨b,C,rfl,E,g⟩:=cc.at T.o (fun _=>rfl) A (aD _ _) (G _) k a;have e:=C1 l k a;have i:=Jo l (k+1);rw[e,ay]at i;generalize l[k]=x at*;have c0:=g 0 _ rfl;rw[dL,dg]at c0;have HE:Hid ((kw (l.take (k+1))).length=(kw (l.take k)).length+x.2.1.length):=D (by rw[e,ay]);generalize (kw (l.take k)).length=m at*;have t:=u.o;have e3:bi ((m:Int)+(x.2.1.length:Int))=((m+x.2.1.length:Nat):Int):=by rw[ag _ A];omega
   have hp:decide (((m+x.2.1.length:Nat):Int)<0)=U:=by rw[decide_eq_false_iff_not];omega
   have F:(k:Int)<l.length:=A
   have j:=D a;clear g e i t a;go_wp2;go_round
   case rel=>exact⟨k+1,j.o,by go_num,by rw[HE.o];exact congrArg _ e3,by first | rfl | trivial⟩
   case measure=>exact bA j.o _ eT
  ·have B:decide (k<l.length)=U:=by simpa using a
   have f:k=l.length:=A
   subst f;rw[ix];clear a;go_wp2_with ((go_at_call 221;refine(Oi c _ u.o).mono ?_);rintro en w9 ⟨a9,c9,rfl,W,b9⟩;have O9:=D W;have B9:=D b9;clear W b9)
   go_loopw[6,27] (fun y d X=>∃k:Nat,k≤l.length∧d=.int .i64 k∧Hid (X.ownsRow c.heap.size 5 1 y (kw (l.take k)).length (bX (kw (l.take k))))∧Hid (ae c.heap.size c X)) (fun _ d _=>l.length-(bp d).toNat)
   case atStart=>exact⟨0,aw _,rfl,O9,B9⟩
   case round=>
    obtain⟨k,hk,rfl,H,n⟩:=hrel;by_cases a:k<l.length
    ·have B:decide (k<l.length)=O:=by simpa using a
     obtain⟨b,C,rfl,E,g⟩:=cc.at T.o (fun _=>rfl) A n.o (G _) k a;have e:=C1 l k a;have i:=Jo l (k+1);rw[e,ay]at i;have hx:=HR.o _ (List.getElem_mem a);generalize l[k]=x at*;have c0:=g 0 _ rfl;rw[dL,dg]at c0;have HX:=D (hx.keep n.o (G _));have K:=D e;have L:Hid ((kw (l.take k)).length+x.2.1.length<1000000000):=D (by have:=u.o;omega);have F:(k:Int)<l.length:=A
     have j:=D a;have o:=D n.o.size;clear g e i hx a;go_upto_region 14 with((with_reducible refine aT 33 ?_);refine rP rfl _ _ rfl c.heap.size _ _ _ rfl H.o x.1 _ _ x.2.1 rfl rfl HX.o L.o o.o ?_;intro v3 w3 p q r)
     have N:Hid (w3.ownsRow c.heap.size 5 1 v3 (kw (l.take (k+1))).length (bX (kw (l.take (k+1))))):=D (by rw[K.o,ay];exact p);have P:=D (n.o.grown q o.o (k_ H.o));clear p q r;go_wp2;go_round
     case rel=>exact⟨k+1,j.o,by go_num,N,P⟩
     case measure=>exact bA j.o _ eT
    ·have B:decide (k<l.length)=U:=by simpa using a
     have f:k=l.length:=A
     subst f;have s:=D H.o;rw[ix]at s;go_wp2;go_ret;exact⟨_,rfl,s.o,n.o⟩
def Jp(w:V)(l:List UInt8)(k:Nat)(en:de)(w':V):Prop:=∃(b:List UInt8)(a:Option aB)(c:Nat),en=.returned (.slice a (l++b).length c)∧b.length≤k∧w'.ownsRow w.heap.size 5 1 (.slice a (l++b).length c) (l++b).length (bX (l++b))∧ae w.heap.size w w'
def vp(x y:Option aB×List UInt8×Nat):kw [x,y]=x.2.1++y.2.1:=by simp[kw]
def mU(w:V)(ao:Option aB)(l:List UInt8)(cap:Nat)(n:Int)(g:Rd w ao (bX l))(h:l.length<90000000):
  ar M 88 #[.slice ao l.length cap,.int .i64 n] w (Jp w l 10):=by
 have o:=D g;have p:=D h;clear g h
 go_enter func88,ntmps88
 go_wp2_with (first
  | ((go_at_call 159;refine(Jm _ _).mono ?_);rintro en z ⟨⟨m,hm,rfl⟩,i⟩;rw[i];have q:=D hm;clear hm i)
  | ((go_at_call 158;refine(P9 _ m q.o).mono ?_);rintro en a ⟨d,v,j,rfl,f,b2⟩;obtain⟨a2,c2,rfl,-,-⟩:=bY f;have b:=D j;have r:=D f;have c:=D b2;clear j f b2)
  | ((go_at_call 157;refine(tu _ (.slice (I ⟨a.heap.size,0,J⟩) 2 2) [(ao,l,cap),(a2,d,c2)] (cM (gP a a.heap.size a.heap.size 33 1 #[.slice ao l.length cap,.slice a2 d.length c2] 2 rfl (G _) A rfl)) (by
      intro x k;simp only[bg,bV,or_false]at k;rcases k with rfl | rfl
      ·exact(o.o.keep c.o (G _)).alloc _
      ·exact((cM r.o).rd).alloc _) bW (by rw[vp,ay];have:=p.o;have:=b.o;simp only;omega)).mono ?_);rintro en B ⟨C,rfl,e,b3⟩;rw[vp]at e;obtain⟨a3,s,rfl,-,-⟩:=bY e;have t:=D e;have u:=D b3;clear e b3))
 go_ret;have y:ae w.heap.size a (a.alloc (.cells #[.slice ao l.length cap,.slice a2 d.length c2] 33)):=(aD _ _).alloc c.o.size _;exact⟨d,a3,s,by simp,b.o,ki t.o (aa c.o.size bW),(c.o.trans y).trans (u.o.mono (aa c.o.size bW))⟩
def bytesWorld_below(w:V)(e:aN)(s:ByteArray):ae w.heap.size w (s4 w e s):=
 ⟨rfl,rfl,rfl,by rw[Lib.bytesWorld_size];omega,fun k a=>Lib.bytesWorld_at_old w e s k a⟩
def C2(w:V)(s:List UInt8):Rd (s4 w 5 ⟨⟨s⟩⟩) (I ⟨w.heap.size,0,J⟩) (bX s):=by
 intro j u a;refine⟨_,rfl,?_⟩;have b:j<s.length:=by have:=(List.getElem?_eq_some_iff.1 a).1;simpa[bX]using this
 rw[dM,Nat.zero_add,Lib.bytesWorld_cell w _ _ j (by show j<s.length;exact b)];rw[←a];simp[bX,b]
def EN(w:V)(ao:Option aB)(l:List UInt8)(cap:Nat)(s:List UInt8)(m:Rd w ao (bX l))(n:l.length<80000000)(o:s.length≤40):
  ar M 180 #[.slice ao l.length cap,.string ⟨⟨s⟩⟩] w (Jp w l 50):=by
 have y:=D m;have p:=D n;have q:=D o;clear m n o
 go_enter func180,ntmps180
 go_wp2_with ((go_at_call 88;refine(mU w ao l cap _ y.o (by have:=p.o;omega)).mono ?_);rintro en a ⟨c,a2,c2,rfl,r,t,b2⟩;have d:=D r;have z:=D t;have h:=D b2;clear r t b2)
 have b:=Lib.run_convert_string_bytes (P:= M) a 9 33 5 ⟨⟨s⟩⟩ underlying9 underlying33 underlying5;obtain⟨N,i⟩:∃N,s4 a 5 ⟨⟨s⟩⟩=N:=⟨_,rfl⟩;obtain⟨e,f⟩:∃e,grownCap a (BV ⟨⟨s⟩⟩) 0 5 =e:=⟨_,rfl⟩;have j:Hid (ae a.heap.size a N):=D (by rw[←i];exact bytesWorld_below _ _ _);have RV:Hid (Rd N (I ⟨a.heap.size,0,J⟩) (bX s)):=D (by rw[←i];exact C2 _ _);have g:BV ⟨⟨s⟩⟩=s.length:=rfl;rw[i,f,g]at b;clear i f g;have B:(l.length:Int)+(c.length:Int)=((l++c).length:Nat):=bW
 rw[b];clear b;go_simp
 go_wp2_with ((go_at_call 157;refine(tu _ (.slice (I ⟨N.heap.size,0,J⟩) 2 2) [(a2,l++c,c2),(I ⟨a.heap.size,0,J⟩,s,e)] (by
   have:=cM (gP N N.heap.size N.heap.size 33 1 #[.slice a2 (l++c).length c2,.slice (I ⟨a.heap.size,0,J⟩) s.length e] 2 rfl (G _) A rfl);rw[ay]at this;simpa[cc,ca,YG]using this) (by
   intro x u;simp only[bg,bV,or_false]at u;rcases u with rfl | rfl
   ·exact((cM z.o).rd.keep j.o (G _)).alloc _
   ·exact RV.o.alloc _) bW (by rw[vp,ay,ay];have:=p.o;have:=d.o;have:=q.o;simp only;omega)).mono ?_);rintro en K ⟨L,rfl,k,b3⟩;rw[vp]at k;obtain⟨a3,C,rfl,-,-⟩:=bY k;have E:=D k;have F:=D b3;clear k b3)
 go_ret;have H:ae w.heap.size N (N.alloc (.cells #[.slice a2 (l.length+c.length) c2,.slice (I ⟨a.heap.size,0,J⟩) s.length e] 33)):=(aD _ _).alloc (aa h.o.size j.o.size) _;have v:=aa h.o.size j.o.size;refine⟨c++s,a3,C,by simp,by rw[ay];have:=d.o;have:=q.o;omega,?_,((h.o.trans (j.o.mono h.o.size)).trans H).trans (F.o.mono (aa v bW))⟩;rw[←List.append_assoc];exact ki E.o (aa v bW)
def fu{B:Nat}(w:V)(p:Nat)(x y:X)(a:Int)(h:fy B w p x)(e:aU x=(a,y)):
  ar M 63 #[.pointer (I ⟨p,0,J⟩)] w (fun b w'=>b=.returned (.int .i64 a)∧Hid (fy B w' p y)∧Hid (But p w w')):=by
 have:=Cj w p x h;rw[e]at this;exact this
def yz{B:Nat}(w:V)(p:Nat)(x y:X)(a:List UInt8)(h:fy B w p x)(e:fY x=(a,y)):
  ar M 68 #[.pointer (I ⟨p,0,J⟩)] w (fun b w'=>b=.returned (.string ⟨⟨a⟩⟩)∧Hid (fy B w' p y)∧Hid (But p w w')):=by
 have:=NC w p x h;rw[e]at this;exact this
def Mk.look{K:RK}{B:Nat}{a w:V}{p b:Nat}{x:X}{cs:List Z}{t:aN}{L:List (Nat×Array Z×aN)}(h:Mk K B a p L x b cs t w){q:Nat}{u v:Z}{c:aN}(d:(q,#[u,v],c)∈L):
  w.cell? ⟨q,0,J⟩=I u∧w.cell? ⟨q,1,J⟩=I v:=by
 have e:=(h.fZ _ d).1;constructor<;>simp only[an,show w.heap[q]?=_ from e]<;>rfl
def yA(B:Nat)(w:V)(q p:Nat)(e:Int)(x:X)(h:de)(w':V):Prop:=
 ∃(a b d c v k n t:Int)(f tx:List UInt8)(l:List D3)(ao:Option aB)(g:Nat),h=.returned (.agg (iG a b d c v k f tx n t ao l.length g))∧(lS x).1=⟨(a,b,d),c,v,k,f,tx,n,t,l⟩∧oK w' w.heap.size (⟨(a,b,d),c,v,k,f,tx,n,t,l⟩,ao,g)∧Hid (fy B w' p (lS x).2)∧Hid (jT w' q p (if e=0 then iV (lS x).1 else e))∧Hid (gK p q w w')
def P_{B:Nat}(w wc:V)(q p b:Nat)(e:Int)(x z:X)(m o s c v k n t:Int)(f tx:List UInt8)(l:List D3)(ao:Option aB)(h:Nat){u1 u3 u5 u6 u7 u8 u9 u10 u11 u12 u13 u14 u15 u16 u17 u18 u19 u20 u21 u22 u23 u24 u25 u26 u27 u28 u29 u30 u31 u32 u33 u34 u35 u36 u37 u38 u39 u40 u41 u42 u43 u44 u45 u46 u47 u48 u49 u50 u51 u52 u53 u54 u55 u56 u57 u58 u59 u60 u61 u62 u63 u64 u65 u66 u67 u68:Z}(W:q≠p)(a0:lS x=(⟨(m,o,s),c,v,k,f,tx,n,t,l⟩,z))(c0:f.length<1000000000∧tx.length<1000000000)
  (H:Hid (Mk kX B w p [(w.heap.size,wy,75),(q,#[.pointer (I ⟨p,0,J⟩),.int .i64 e],183)] z b (IQ m o s c v k f tx n t ao l.length h) 75 wc)) (HO:Hid (cn.own wc (b+1) (.slice ao l.length h) l)):
  ∀c,f202.body.bind (spine 6)=I c→im M c (gW M f202 (yA B w q p e x)) ⟨eS (.pointer (I ⟨q,0,J⟩)::u1:: .pointer (I ⟨w.heap.size,0,J⟩)::u3:: .pointer (I ⟨b,0,J⟩)::u5::u6::u7::u8::u9::u10::u11::u12::u13::u14::u15::u16::u17::u18::u19::u20::u21::u22::u23::u24::u25::u26::u27::u28::u29::u30::u31::u32::u33::u34::u35::u36::u37::u38::u39::u40::u41::u42::u43::u44::u45::u46::u47::u48::u49::u50::u51::u52::u53::u54::u55::u56::u57::u58::u59::u60::u61::u62::u63::u64::u65::u66::u67::u68:: []),[]⟩ wc:=by
 have o0:=D W
 have C:=D a0;have d0:=D c0;clear W a0 c0;refine gE rfl ?_;have hq:=(H.o.fZ _ (aE _ (af.2 rfl))).1;obtain⟨g0,g1,f0,f1,-⟩:=cS hq;have e0:w.heap.size≤b:=H.o.own;have F:=D e0;obtain⟨b0,b1,b2,b3,b4,b5,b6,b7,b8,b9,b10⟩:=bL H.o.blk;have R:=D hq;have S:=D (H.o.fZ _ (aY ..)).1;clear hq e0;by_cases he:e=0
 ·subst he
  have e1:((0:Int)==0)=O:=rfl;have p0:Hid (cc ku 3 wc (.slice ao l.length h) l):=D HO.o.sl;go_upto_region 11 with((go_at_call 108;refine(nH wc ao h m o s c v k n t f tx l p0.o d0.o.1 d0.o.2).mono ?_);rintro en T ⟨rfl,i⟩;have L:T.heap[q]?=I (.cells #[.pointer (I ⟨p,0,J⟩),.int .i64 0] 183 (0,0)):=(by rw[i.block _ (br R.o).1];exact R.o);obtain⟨h0,d,i0,i1,-⟩:=cS L;have N:=D L;clear L)
  obtain⟨E,hE⟩:∃E,iV ⟨(m,o,s),c,v,k,f,tx,n,t,l⟩=E:=⟨_,rfl⟩;rw[hE];obtain⟨C0,K⟩:∃C0,T.setCell ⟨q,1,J⟩ (.int .i64 E)=C0:=⟨_,rfl⟩;have j0:q≠b:=(H.o.fZ _ (aE _ (af.2 rfl))).2.2;have q0:=(br R.o).1
  have k0:q≠w.heap.size:=fun y=>by
   have d:=R.o;rw[y,S.o]at d;injection d with d;injection d with d _ _;exact absurd (congrArg Array.size d) bW
  have K9:T.heap[b]?=I (.cells (iG m o s c v k f tx n t ao l.length h) 75 (0,0)):=by rw[i.block _ (br H.o.blk).1];exact H.o.blk
  have HK:Hid (C0.heap[b]?=I (.cells (iG m o s c v k f tx n t ao l.length h) 75 (0,0))):=D (by rw[←K,bC _ _ _ _ (jh j0)];exact K9);have P:Hid (C0.heap[w.heap.size]?=I (.cells wy 75 (0,0))):=D (by rw[←K,bC _ _ _ _ (jh k0),i.block _ (br S.o).1];exact S.o)
  have l0:Hid (jT C0 q p E):=D (by
   rw[←K];show(T.setCell ⟨q,1,J⟩ (.int .i64 E)).heap[q]?=_
   simp[aV,aR,N.o])
  have r0:Hid (fy B C0 p z):=D (by
   rw[←K];refine(kX.keep H.o.rd i (Nat.lt_of_lt_of_le H.o.mf H.o.but.size) (aa H.o.bs H.o.but.size)).but (b:=q) (But.set _ _ _ _) (jh o0.o) ?_;intro A0 z0 l2 B0 h2 m0
   have s0:jT T q p 0:=N.o;refine⟨fun j u hu=>?_,m0.lt⟩;obtain⟨bb,rfl,a⟩:=m0.rd j u hu;refine⟨bb,rfl,?_⟩;obtain⟨m2,rfl⟩:=qc hu
   have n0:(bb.add j).block≠q:=by
    intro t0;unfold an at a;rw[t0,show T.heap[q]?=_ from s0]at a;simp only at a
    split at a
    ·cases a
    ·match ho:(bb.add j).off with
     | 0=>rw[ho]at a;simp at a
     | 1=>rw[ho]at a;simp at a
     | k2+2=>rw[ho]at a;simp at a
   rw[an,bC _ _ _ _ n0]
   exact a)
  have v0:Hid (gK p q w C0):=D (by rw[←K];exact(H.o.but.two.then i H.o.but.size).trans (gK.set _ _ _))
  have w0:Hid (cn.own C0 (b+1) (.slice ao l.length h) l):=D (by
   rw[←K];have ho:=HO.o.keep i (G _);obtain⟨o1,o2⟩:=ho;refine⟨o1,o2.imp id ?_⟩;rintro⟨g,cap,x0,hv,hk,y,r⟩;refine⟨g,cap,x0,hv,hk,?_,r⟩;rw[bC _ _ _ _ ?_]
   ·exact y
   ·rintro rfl
    rw[N.o]at y;injection y with y;injection y with _ y _
    exact absurd y aC)
  have Q:Hid (iV (lS x).1=E):=D (by rw[C.o,←hE]);rw[K];clear K hE K9 h0 d i0 i1 g0 g1 f0 f1 b0 b1 b2 b3 b4 b5 b6 b7 b8 b9 b10 i j0 q0 k0
  go_wp2_with (first
   | ((with_reducible refine aT 68 ?_);refine wpList_load_row rfl _ (.tmp 4) rfl b rfl _ _ (0,0) _ HK.o underlying75 rfl aj ?_)
   | (refine aJ rfl _ (.tmp 2) (.tmp 68) rfl w.heap.size _ rfl rfl _ _ P.o aj rfl (by simp[ap]) ?_))
  refine au (v:=.agg (iG m o s c v k f tx n t ao l.length h)) (eb results202 _ _ w.heap.size _ (iG m o s c v k f tx n t ao l.length h) (0,0) _ rfl (aO _ _ _ _ _ _ P.o) underlying75 rfl aj) rfl (show yA _ _ _ _ _ _ _ _ from⟨m,o,s,c,v,k,n,t,f,tx,l,ao,h,rfl,by rw[C.o],?_,?_,?_,?_⟩)
  ·show cn.own _ w.heap.size _ _
   exact((w0.o.rows w.heap.size rfl (fk F.o)).to (gR F.o))
  ·rw[C.o]
   have hb:=dh (w:=C0) (B:=w.heap.size) (g:=w.heap.size) (aD _ C0) (G _) (iG m o s c v k f tx n t ao l.length h);exact kX.keep r0.o hb H.o.mf H.o.bs
  ·rw[if_pos rfl,Q.o]
   show(cV C0 w.heap.size _).heap[q]?=_
   rw[fK _ _ _ _ (fun y=>by
    have d:=show C0.heap[q]?=_ from l0.o;rw[y,P.o]at d;injection d with d;injection d with d _ _
    exact absurd (congrArg Array.size d) bW)]
   exact l0.o
  ·exact v0.o.then (dh (aD _ _) (G _) _) (G _)
 ·have e1:(e==0)=U:=by simpa using he
  have Q:=D he;have y0:=D H.o.blk;clear he b0 b1 b2 b3 b4 b5 b6 b7 b8 b9 b10
  go_wp2_with (first
   | ((with_reducible refine aT 68 ?_);refine wpList_load_row rfl _ (.tmp 4) rfl b rfl _ _ (0,0) _ y0.o underlying75 rfl aj ?_)
   | (refine aJ rfl _ (.tmp 2) (.tmp 68) rfl w.heap.size _ rfl rfl _ _ S.o aj rfl (by simp[ap]) ?_))
  refine au (v:=.agg (iG m o s c v k f tx n t ao l.length h)) (eb results202 _ _ w.heap.size _ (iG m o s c v k f tx n t ao l.length h) (0,0) _ rfl (aO _ _ _ _ _ _ S.o) underlying75 rfl aj) rfl (show yA _ _ _ _ _ _ _ _ from⟨m,o,s,c,v,k,n,t,f,tx,l,ao,h,rfl,by rw[C.o],?_,?_,?_,?_⟩)
  ·show cn.own _ w.heap.size _ _
   exact((HO.o.rows w.heap.size rfl (fk F.o)).to (gR F.o))
  ·rw[C.o]
   have hb:=dh (w:=wc) (B:=w.heap.size) (g:=w.heap.size) (aD _ wc) (G _) (iG m o s c v k f tx n t ao l.length h);exact kX.keep H.o.rd hb H.o.mf H.o.bs
  ·rw[if_neg Q.o]
   show(cV wc w.heap.size _).heap[q]?=_
   rw[fK _ _ _ _ (fun y=>by
    have d:=R.o;rw[y,S.o]at d;injection d with d;injection d with d _ _
    exact absurd (congrArg Array.size d) bW)]
   exact R.o
  ·exact H.o.but.two.then (dh (aD _ _) (G _) _) (G _)
def Oj{B:Nat}(w w9:V)(q p b:Nat)(e:Int)(x x9 s u:X)(n0:Nat)(K L N c v k n t:Int)(F tx:List UInt8){u1 u5 u6 u7 u8 u9 u10 u11 u12 u13 u14 u15 u16 u17 u18 u19 u20 u21 u22 u23 u24 u25 u26 u27 u28 u29 u30 u31 u32 u33 u34 u35 u36 u37 u38 u39 u40 u41 u42 u43 u44 u45 u46 u47 u48 u49 u50 u51 u52 u53 u54 u55 u56 u57 u58 u59 u60 u61 u62 u63 u64 u65 u66 u67 u68:Z}(hM:n0≤8)(P:q≠p)(Q:q<w.heap.size)(R:F.length<1000000000∧tx.length<1000000000)(c0:Hid (aU x9=(n,s)))(d0:Hid (dx 8 s=(n0,u)))
  (e0:Hid (lS x=(⟨(K,L,N),c,v,k,F,tx,n,t,(cB jk n0 u).1⟩,(cB jk n0 u).2)))
  (H:Hid (Mk kX B w p [(w.heap.size,wy,75),(q,#[.pointer (I ⟨p,0,J⟩),.int .i64 e],183)] x9 b (TH K L N c v k F tx t) 75 w9)):
  ∀c,f202.body.bind (spine 4)=I c→im M c (gW M f202 (yA B w q p e x)) ⟨eS (.pointer (I ⟨q,0,J⟩)::u1:: .pointer (I ⟨w.heap.size,0,J⟩):: .func (.func 63) #[.pointer (I ⟨p,0,J⟩)] #[]:: .pointer (I ⟨b,0,J⟩)::u5::u6::u7::u8::u9::u10::u11::u12::u13::u14::u15::u16::u17::u18::u19::u20::u21::u22::u23::u24::u25::u26::u27::u28::u29::u30::u31::u32::u33::u34::u35::u36::u37::u38::u39::u40::u41::u42::u43::u44::u45::u46::u47::u48::u49::u50::u51::u52::u53::u54::u55::u56::u57::u58::u59::u60::u61::u62::u63::u64::u65::u66::u67::u68:: []),[]⟩ w9:=by
 have HM:=D hM;have f0:=D P;have g0:=D Q;have h0:=D R;clear hM P Q R;refine gE rfl ?_;have f:=H.o.frozen;have d:=H.o.has 11 rfl;go_upto_region 5 with((go_at_call 63;refine(fu _ p _ _ _ H.o.rd c0.o).mono ?_);rintro en w8 ⟨rfl,k9,b9⟩;clear f d;have H:=D (H.o.call k9.o b9.o);have f:=H.o.frozen;have d:=H.o.has 11 rfl)
 have H:=D (H.o.st 8 (.int .i64 n));obtain⟨o0,hV⟩:∃o0,w8.setCell ⟨b,8,J⟩ (.int .i64 n)=o0:=⟨_,rfl⟩;rw[hV]at H;rw[hV];clear hV f d k9 b9;have HQ:Hid (jT o0 q p e):=D (H.o.fZ _ (aE _ (af.2 rfl))).1;go_upto_block 0 with((go_at_call 186;refine(pB o0 q p e 8 s H.o.rd HQ.o).mono ?_);rintro en w7 ⟨rfl,k9,b9⟩;have H:=D (H.o.call k9.o b9.o))
 rw[d0.o]at H⊢;simp only at H⊢
 go_cut[] (fun wc=>∃(l:List D3)(z:X)(ao:Option aB)(j:Nat),Hid (Mk kX B w p [(w.heap.size,wy,75),(q,#[.pointer (I ⟨p,0,J⟩),.int .i64 e],183)] z b (IQ K L N c v k F tx n t ao l.length j) 75 wc)∧Hid (cn.own wc (b+1) (.slice ao l.length j) l)∧cB jk n0 u=(l,z))
 case rest=>
  obtain⟨l,z,ao,j,o,HO,S⟩:=hcut;go_step;refine P_ _ _ _ _ _ _ x z K L N c v k n t F tx l ao j f0.o (by rw[e0.o,S]) h0.o o HO _ rfl
 case first=>
  go_wp2
  go_loopw[43] (fun vi wr=>∃(i:Nat)(l:List D3)(z:X)(ao:Option aB)(j:Nat),vi=.int .i64 i∧Hid (fA jk n0 u i l z)∧Hid (Mk kX B w p [(w.heap.size,wy,75),(q,#[.pointer (I ⟨p,0,J⟩),.int .i64 e],183)] z b (IQ K L N c v k F tx n t ao i j) 75 wr)∧Hid (cn.own wr (b+1) (.slice ao i j) l)) (fun vi _=>n0-(bp vi).toNat)
  case atStart=>exact⟨0,[],u,J,0,rfl,D (fA.start _ _ _),H,D (cn.nil _ _)⟩
  case round=>
   obtain⟨i,l,z,ao,j,rfl,T,o,HO⟩:=hrel;by_cases hi:i<n0
   ·have e3:decide (i<n0)=O:=by simpa using hi
    have HI:=D hi;have HL:=D T.o.1;obtain⟨a1,z1,t1⟩:∃a y,aU z=(a,y):=⟨_,_,rfl⟩;obtain⟨a2,z2,t2⟩:∃a y,aU z1=(a,y):=⟨_,_,rfl⟩;obtain⟨a3,z3,t3⟩:∃a y,aU z2=(a,y):=⟨_,_,rfl⟩;have i0:Hid (jk z=((a1,a2,a3),z3)):=D (by simp only[jk,t1,t2,t3]);have T1:=D t1;have T2:=D t2;have T3:=D t3;have e9:bi ((i:Int)+1)=(i:Int)+1:=ag _ (by have:=HM.o;omega);have C:Hid (p<b+1):=D (by have:=o.o.mf;have:=o.o.own;omega);clear hi t1 t2 t3;go_upto_region 7 with fail
    refine bT 12 (fun w'=>w'.cell? ⟨b,10,J⟩=I (.slice ao i j)) aj ?_;obtain⟨wd,E⟩:∃wd,wr.drew=wd:=⟨_,rfl⟩;have H:=D o.o.drew;have h:Hid (cn.own wr.drew (b+1) (.slice ao i j) l):=D HO.o;rw[E]at H h;rw[E];clear E;have g:=H.o.cell 10 rfl;refine stP 0 (.pointer (I ⟨b,10,J⟩)) g ?_;refine lT 1 (.slice ao i j) rfl rfl (.inl ⟨rfl,fun w' hw=>?_⟩) g ?_
    ·have k0:=hw
     go_simp
    refine stP 2 (.func (.func 63) #[.pointer (I ⟨p,0,J⟩)] #[]) g ?_;refine stP 4 (.func (.func 63) #[.pointer (I ⟨p,0,J⟩)] #[]) g ?_;refine stP 6 (.func (.func 63) #[.pointer (I ⟨p,0,J⟩)] #[]) g ?_;refine f_ 3 ?_;go_simp;refine(fu _ p _ _ _ H.o.rd T1.o).mono ?_;rintro en l0 ⟨rfl,k9,b9⟩;clear g;have H:=D (H.o.call k9.o b9.o);have h:=D (h.o.but b9.o C.o);have g:=H.o.cell 10 rfl;refine⟨g,?_⟩;refine f_ 5 ?_;go_simp;refine(fu _ p _ _ _ H.o.rd T2.o).mono ?_;rintro en m0 ⟨rfl,k9,b9⟩;clear g;have H:=D (H.o.call k9.o b9.o);have h:=D (h.o.but b9.o C.o);have g:=H.o.cell 10 rfl;refine⟨g,?_⟩;refine f_ 7 ?_;go_simp;refine(fu _ p _ _ _ H.o.rd T3.o).mono ?_;rintro en W ⟨rfl,k9,b9⟩;clear g;have H:=D (H.o.call k9.o b9.o);have h:=D (h.o.but b9.o C.o);have g:=H.o.cell 10 rfl;refine⟨g,?_⟩;refine stP 8 (.agg #[.int .i64 a1,.int .i64 a2,.int .i64 a3]) g ?_;have a0:=aS _ _ g;have j0:(W.alloc (.cells #[.int .i64 a1,.int .i64 a2,.int .i64 a3] 73)).cell? ⟨b,10,J⟩=I (.slice ao i j):=dG g ((aD W.heap.size _).alloc (G _) _) a0;refine dK 9 ?_;go_simp;refine f_ 10 ?_;refine cn.rQ _ _ rfl (b+1) (.slice ao i j) l rfl h.o (a1,a2,a3) _ rfl _ rfl rfl i HL.o (by have:=HI.o;have:=HM.o;omega) a0 ?_;intro a7 c7 w7 o7 h7 g7;clear g7 g j0
    have H:=D (H.o.below h7 (bu b) (fun r S=>by
     rcases bg.1 S with rfl | S
     ·exact fk o.o.own
     ·obtain rfl:=af.1 S
      have:=g0.o;have:=o.o.own;show q<b+1;omega))
    have g:=H.o.cell 10 rfl;have f7:=H.o.frozen 10;have O9:=D (o7.put ⟨b,10,J⟩ (bu b) (.slice a7 (i+1) c7));refine⟨fun _=>g,?_⟩;refine stP 11 (.pointer (I ⟨b,10,J⟩)) g ?_;refine dK 12 ?_;go_simp;refine jj ?_;have H9:=D (H.o.st 10 (.slice a7 (i+1) c7));have m:=T.o.step HI.o;rw[i0.o]at m;have m:=D m;clear g f7 h7 o7;go_wp2;go_round
    case rel=>exact⟨i+1,_,z3,a7,c7,by go_num,m,H9,O9⟩
    case measure=>exact bA HI.o _ eT
   ·have e3:decide (i<n0)=U:=by simpa using hi
    have b0:i=n0:=by have:=T.o.2.1;omega
    have HF:Hid (cB jk n0 u=(l,z)):=D (by
     have hd:=T.o;rw[b0]at hd
     exact hd.done)
    have HL:=D T.o.1;clear hi b0;go_wp2;go_meet
    case rel=>exact⟨l,z,ao,j,D (by rw[HL.o];exact o.o),D (by rw[HL.o];exact HO.o),HF.o⟩
def Qa{B:Nat}(w:V)(q p:Nat)(e:Int)(x:X)(h:fy B w p x)(Q:jT w q p e)(R:B≤w.heap.size):
  ar M 202 #[.pointer (I ⟨q,0,J⟩)] w (yA B w q p e x):=by
 have h0:∀(fn:Fn)(first cap:Array Z)(w:V),(dn fn first cap).run M w=.ok (.func fn first cap) w:=fun _ _ _ _=>rfl
 obtain⟨F,x1,e1⟩:∃a y,aU x=(a,y):=⟨_,_,rfl⟩;obtain⟨L,x2,e2⟩:∃a y,aU x1=(a,y):=⟨_,_,rfl⟩;obtain⟨N,x3,e3⟩:∃a y,aU x2=(a,y):=⟨_,_,rfl⟩;obtain⟨c,x4,e4⟩:∃a y,aU x3=(a,y):=⟨_,_,rfl⟩;obtain⟨v,x5,e5⟩:∃a y,aU x4=(a,y):=⟨_,_,rfl⟩;obtain⟨k,x6,e6⟩:∃a y,aU x5=(a,y):=⟨_,_,rfl⟩;obtain⟨t,x7,e7⟩:∃a y,aU x6=(a,y):=⟨_,_,rfl⟩;obtain⟨C,x8,S⟩:∃a y,fY x7=(a,y):=⟨_,_,rfl⟩;obtain⟨tx,x9,T⟩:∃a y,fY x8=(a,y):=⟨_,_,rfl⟩;obtain⟨n,m,o⟩:∃a y,aU x9=(a,y):=⟨_,_,rfl⟩;obtain⟨k0,y0,i⟩:∃a y,dx 8 m=(a,y):=⟨_,_,rfl⟩;have E1:=D e1;have E2:=D e2;have E3:=D e3;have E4:=D e4;have E5:=D e5;have E6:=D e6;have E7:=D e7;have E8:=D S;have E9:=D T;have a0:=D o;have b0:=D i
 have c0:Hid (lS x=(⟨(F,L,N),c,v,k,C,tx,n,t,(cB jk k0 y0).1⟩,(cB jk k0 y0).2)):=D (by
  simp only[lS,KR,jk,e1,e2,e3,e4,e5,e6,e7,S,T,o,i])
 have HM:Hid (k0≤8):=D (by have:=mR 8 m;rw[show ((8:Nat):Int)=8 from rfl,i]at this;exact this)
 have d0:Hid (C.length<1000000000∧tx.length<1000000000):=D (by
  have E:=oX x7;have h2:=oX x8;rw[S]at E;rw[T]at h2;simp only at E h2
  omega)
 have s:=D (Q.ne h)
 have j:Hid (p<w.heap.size):=D (by
  cases x with
  | ok l=>obtain⟨_,_,E,_⟩:=h;exact E.lt
  | err e=>obtain⟨_,_,_,_,E⟩:=h;exact E.lt)
 have u:Hid (q<w.heap.size):=D (br Q).1
 obtain⟨W,hW,H⟩:∃W,w.alloc (.cells wy 75)=W∧Hid (Mk kX B w p [(q,#[.pointer (I ⟨p,0,J⟩),.int .i64 e],183)] x w.heap.size [.int .i64 0,.int .i64 0,.int .i64 0,.int .i64 0,.int .i64 0,.int .i64 0,.string ⟨#[]⟩,.string ⟨#[]⟩,.int .i64 0,.int .i64 0,.slice J 0 0] 75 W):=⟨_,rfl,D ⟨h.keep ((aD _ _).alloc (G _) _) j.o R,al _ _,fun r P=>by
   obtain rfl:=af.1 P
   exact⟨by show(w.alloc _).heap[q]?=_;rw[ed _ _ _ u.o];exact Q,s.o,lZ u.o⟩,.alloc _ _ _,G _,j.o,R⟩⟩
 have e0:=D R;have HW:=D hW;clear h Q R hW e1 e2 e3 e4 e5 e6 e7 S T o i
 go_enter func202,ntmps202
 go_upto_region 1 with fail
 rw[HW.o];have g0:=(H.o.look (af.2 rfl)).1;go_upto_region 3 with((go_at_call 63;refine(fu _ p _ _ _ H.o.rd (by first | exact E1.o | exact E2.o | exact E3.o | exact E4.o | exact E5.o | exact E6.o | exact E7.o)).mono ?_);rintro en w9 ⟨rfl,k9,b9⟩;have H:=D (H.o.call k9.o b9.o))
 have H2:=D (Mk.start (K:=kX) H.o.rd H.o.but j.o e0.o [(w.heap.size,wy,75),(q,#[.pointer (I ⟨p,0,J⟩),.int .i64 e],183)] (fun r P=>by
  rcases bg.1 P with rfl | P
  ·exact⟨H.o.blk,by have:=j.o;show w.heap.size≠p;omega⟩
  ·obtain rfl:=af.1 P
   exact⟨(H.o.fZ _ (af.2 rfl)).1,s.o⟩) [.int .i64 F,.int .i64 L,.int .i64 N,.int .i64 c,.int .i64 v,.int .i64 k,.string ⟨#[]⟩,.string ⟨#[]⟩,.int .i64 0,.int .i64 t,.slice J 0 0] 75)
 obtain⟨b,hb⟩:∃b,w9.heap.size=b:=⟨_,rfl⟩;obtain⟨l0,hV⟩:∃l0,w9.alloc (.cells #[.int .i64 F,.int .i64 L,.int .i64 N,.int .i64 c,.int .i64 v,.int .i64 k,.string ⟨#[]⟩,.string ⟨#[]⟩,.int .i64 0,.int .i64 t,.slice J 0 0] 75)=l0:=⟨_,rfl⟩;rw[hV,hb]at H2;rw[hV,hb];clear hV hb g0 H
 go_cut[] (fun wc=>Hid (Mk kX B w p [(w.heap.size,wy,75),(q,#[.pointer (I ⟨p,0,J⟩),.int .i64 e],183)] x9 b (TH F L N c v k C tx t) 75 wc))
 case rest=>
  go_step;exact Oj _ _ _ _ _ _ x x9 m y0 k0 F L N c v k n t C tx HM.o s.o u.o d0.o a0 b0 c0 hcut _ rfl
 have H:=D H2.o.drew;clear H2;refine bT 13 (fun w'=>w'.cell? ⟨q,0,J⟩=I (.pointer (I ⟨p,0,J⟩))) aj ?_;obtain⟨wd,z⟩:∃wd,l0.drew=wd:=⟨_,rfl⟩;rw[z]at H;rw[z];clear z;have g:=(H.o.look (aE _ (af.2 rfl))).1;refine stP 0 (.pointer (I ⟨q,0,J⟩)) g ?_;refine stP 1 (.pointer (I ⟨q,0,J⟩)) g ?_;refine stP 2 (.pointer (I ⟨q,0,J⟩)) g ?_;refine lT 3 (.pointer (I ⟨p,0,J⟩)) rfl rfl (.inl ⟨rfl,fun w' hw=>?_⟩) g ?_
 ·have f0:=hw
  go_simp
 refine stP 5 (.pointer (I ⟨q,0,J⟩)) g ?_;refine stP 6 (.pointer (I ⟨q,0,J⟩)) g ?_;refine stP 7 (.pointer (I ⟨q,0,J⟩)) g ?_;refine lT 8 (.pointer (I ⟨p,0,J⟩)) rfl rfl (.inl ⟨rfl,fun w' hw=>?_⟩) g ?_
 ·have f0:=hw
  go_simp
 refine f_ 4 ?_;go_simp;refine(yz _ p _ _ _ H.o.rd E8.o).mono ?_;rintro en i0 ⟨rfl,k9,b9⟩;clear g;have H:=D (H.o.call k9.o b9.o);have g:=(H.o.look (aE _ (af.2 rfl))).1;refine⟨g,?_⟩;refine stP 10 (.pointer (I ⟨b,6,J⟩)) g ?_;refine f_ 9 ?_;go_simp;refine(yz _ p _ _ _ H.o.rd E9.o).mono ?_;rintro en j0 ⟨rfl,k9,b9⟩;clear g;have H:=D (H.o.call k9.o b9.o);have g:=(H.o.look (aE _ (af.2 rfl))).1;refine⟨g,?_⟩;have f:=H.o.frozen;have d:=H.o.has 11 rfl;refine dK 11 ?_;go_simp;clear g;have g:=(((H.o.st 6 (.string ⟨⟨C⟩⟩)).look (aE _ (af.2 rfl))).1);have H:=D (H.o.st 6 (.string ⟨⟨C⟩⟩));have f:=H.o.frozen;have d:=H.o.has 11 rfl;refine stP 12 (.pointer (I ⟨b,7,J⟩)) g ?_;refine dK 13 ?_;go_simp;refine jj ?_;go_step;go_step;go_meet
 case rel=>exact D (H.o.st 7 (.string ⟨⟨tx⟩⟩))
def C3{w w':V}{p q base:Nat}{e:aN}{E:Nat}{v:Z}{n:Nat}{b:List Z}(h:w.ownsRow base e E v n b)(d:gK p q w w')(k:p<base)(l:q<base):w'.ownsRow base e E v n b:=by
 obtain⟨f,i⟩:=h;refine⟨f,i.imp id ?_⟩;rintro⟨g,cap,a,rfl,j,c,r⟩;exact⟨g,cap,a,rfl,j,by rw[d.block g (br c).1 A A];exact c,r⟩
def cJ.ZB{w w':V}{base p q:Nat}{v:Z}{l:List hJ}(h:cJ w base v l)(a:gK p q w w')(b:p<base)(c:q<base):cJ w' base v l:=by
 obtain⟨zs,d,e,f⟩:=h;exact⟨zs,d,C3 e a b c,fun z g=>C3 (f z g) a b c⟩
def jT.keep{w w':V}{q p C:Nat}{e:Int}(h:jT w q p e)(a:ae C w w')(b:q<C):jT w' q p e:=by
 show w'.heap[q]?=_;rw[a.block q b];exact h
def fy.lt'{B:Nat}{w:V}{p:Nat}{x:X}(h:fy B w p x):p<w.heap.size:=by
 cases x with
 | ok l=>obtain⟨_,_,a,_⟩:=h;exact a.lt
 | err e=>obtain⟨_,_,_,_,a⟩:=h;exact a.lt
def Qb(B:Nat)(w:V)(q p:Nat)(e:Int)(x:X)(b:de)(w':V):Prop:=
 ∃(l:List hJ)(ao:Option aB)(a:Nat),b=.returned (.slice ao l.length a)∧(iQ x).1=l∧cJ w' w.heap.size (.slice ao l.length a) l∧Hid (fy B w' p (iQ x).2)∧Hid (jT w' q p (gg e l))∧Hid (gK p q w w')∧l.length≤20
def Gp{B:Nat}(w:V)(q p:Nat)(e:Int)(x:X)(h:fy B w p x)(H:jT w q p e)(hB:B≤w.heap.size):
  ar M 143 #[.pointer (I ⟨q,0,J⟩)] w (Qb B w q p e x):=by
 obtain⟨n,d,K⟩:∃n y,dx 20 x=(n,y):=⟨_,_,rfl⟩;have N:Hid (n≤20):=D (by have:=mR 20 x;rw[show ((20:Nat):Int)=20 from rfl,K]at this;exact this);have HO:Hid (iQ x=cB lS n d):=D (by unfold iQ;rw[K]);have HX:=D h;have HQ:=D H;have HI:=D K;have f:=D h.lt';have g:Hid (q<w.heap.size):=D (br H).1;have P:=D (H.ne h);have j:=D hB;clear h K hB H
 go_enter func143,ntmps143
 go_wp2_with ((go_at_call 186;refine(pB w q p e 20 x HX.o HQ.o).mono ?_);rintro en w9 ⟨rfl,k9,b9⟩)
 rw[HI.o]at k9⊢;simp only at k9⊢;have Q:=D (HQ.o.but b9.o P.o)
 go_loopw[3,6] (fun vl R wr=>∃(i:Nat)(l:List hJ)(z:X),R=.int .i64 i∧Hid (fA lS n d i l z)∧Hid (fy B wr p z)∧Hid (jT wr q p (gg e l))∧Hid (cJ wr w.heap.size vl l)∧Hid (gK p q w wr)) (fun _ R _=>n-(bp R).toNat)
 case atStart=>exact⟨0,[],d,rfl,D (fA.start _ _ _),k9,Q,D (cJ.nil _ _),D b9.o.two⟩
 case round=>
  obtain⟨i,l,z,rfl,k,HR,HW,b,S⟩:=hrel;obtain⟨a6,c6,rfl⟩:=b.o.shape;have HL:=D k.o.1;by_cases hi:i<n
  ·have e3:decide (i<n)=O:=by simpa using hi
   have a:=D hi;clear hi;have c:=D S.o.size
   go_upto_region 5 with(first
    | ((go_at_call 202;refine(Qa wr q p _ z HR.o HW.o (aa j.o c.o)).mono ?_);rintro en w8 ⟨m,q2,o,r,s,t,u,v,C,E,ql,qa,qp,rfl,hv,kd,k8,T,b8⟩;have HV:=D hv;clear hv;have o8:=D (b.o.ZB b8.o f.o g.o);have KD:Hid (oK w8 w.heap.size (⟨(m,q2,o),r,s,t,C,E,u,v,ql⟩,qa,qp)):=D (EL.own.to kd c.o);clear kd)
    | ((with_reducible refine aT 12 ?_);refine cJ.iW rfl _ _ rfl w.heap.size _ l rfl o8.o (⟨(m,q2,o),r,s,t,C,E,u,v,ql⟩,qa,qp) KD.o _ rfl _ rfl rfl l.length rfl (by have:=HL.o;have:=N.o;have:=a.o;omega) (aa c.o b8.o.size) ?_;intro a7 c7 W o7 L))
   have a0:Hid (fA lS n d (i+1) (l++ [⟨(m,q2,o),r,s,t,C,E,u,v,ql⟩]) (lS z).2):=D (by rw[←HV.o];exact k.o.step a.o);have b0:=D (kX.keep k8.o L f.o j.o)
   have c0:Hid (jT W q p (gg e (l++ [⟨(m,q2,o),r,s,t,C,E,u,v,ql⟩]))):=D (by
    have:=T.o.keep L g.o;rw[HV.o]at this
    rw[yo];exact this)
   have d0:Hid (gK p q w W):=D ((S.o.trans b8.o).then L (G _));have e0:Hid (cJ W w.heap.size (.slice a7 (l.length+1) c7) (l++ [⟨(m,q2,o),r,s,t,C,E,u,v,ql⟩])):=D o7;have e9:bi ((i:Int)+1)=(i:Int)+1:=ag _ (by have:=N.o;have:=a.o;omega);clear L o7;go_wp2;go_round
   case rel=>exact⟨i+1,_,_,by go_num,a0,b0,c0,e0,d0⟩
   case measure=>exact bA a.o _ eT
  ·have e3:decide (i<n)=U:=by simpa using hi
   have F:i=n:=by have:=k.o.2.1;omega
   have HF:Hid (cB lS n d=(l,z)):=D (by
    have hd:=k.o;rw[F]at hd
    exact hd.done)
   clear hi F;go_wp2;go_ret;exact⟨l,a6,c6,rfl,by rw[HO.o,HF.o],b.o,by rw[HO.o,HF.o];exact HR,HW,S,by have:=k.o.2.1;have:=HL.o;have:=N.o;omega⟩
def gK.dQ{p q:Nat}{w w':V}(h:gK p q w w'){b:Nat}{o:Obj}(a:w.heap[b]?=I o)(c:b≠p)(d:b≠q):w'.heap[b]?=I o:=by
 rw[h.block b (br a).1 c d];exact a
def yB(B:Nat)(w:V)(q p:Nat)(e:Int)(x:X)(c:de)(w':V):Prop:=
 ∃(k d ep rq f:Int)(g a:Option aB)(wn h b:Nat)(l:List hJ),c=.returned (.agg (KL k d ep rq f g wn h a l.length b))∧(kP x).1.ops=l∧cJ w' w.heap.size (.slice a l.length b) l∧Hid (fy B w' p (kP x).2)∧Hid (jT w' q p (gg e l))∧Hid (gK p q w w')∧l.length≤20
def Ok{B:Nat}(w wc:V)(q p b:Nat)(e:Int)(x z:X)(k r ep rq s:Int)(l:List KZ)(ao:Option aB)(t:Nat){u1 u3 u5 u6 u7 u8 u9 u10 u11 u12 u13 u14 u15 u16 u17 u18 u19 u20 u21 u22 u23 u24 u25 u26 u27 u28 u29 u30 u31 u32 u33 u34 u35 u36 u37 u38 u39 u40 u41 u42 u43 u44 u45 u46:Z}(y:q≠p)(C:q<w.heap.size)(E:(kP x).2=(iQ z).2∧(kP x).1.ops=(iQ z).1)
  (H:Hid (Mk kX B w p [(w.heap.size,wA,51),(q,#[.pointer (I ⟨p,0,J⟩),.int .i64 e],183)] z b (Pn k r ep rq s ao l.length t) 51 wc)):
  ∀c,f129.body.bind (spine 4)=I c→im M c (gW M f129 (yB B w q p e x)) ⟨eS (.pointer (I ⟨q,0,J⟩)::u1:: .pointer (I ⟨w.heap.size,0,J⟩)::u3:: .pointer (I ⟨b,0,J⟩)::u5::u6::u7::u8::u9::u10::u11::u12::u13::u14::u15::u16::u17::u18::u19::u20::u21::u22::u23::u24::u25::u26::u27::u28::u29::u30::u31::u32::u33::u34::u35::u36::u37::u38::u39::u40::u41::u42::u43::u44::u45::u46:: []),[]⟩ wc:=by
 have d0:=D y;have F:=D E;have g:=D C;clear y E C;refine gE rfl ?_;have HQ:Hid (jT wc q p e):=D (H.o.fZ _ (aE _ (af.2 rfl))).1;have HR:=D (H.o.fZ _ (aY ..)).1;have K:Hid (B≤wc.heap.size∧w.heap.size≤wc.heap.size):=D ⟨aa H.o.bs H.o.but.size,H.o.but.size⟩;have L:Hid (b<wc.heap.size):=D (br H.o.blk).1;have a:=D H.o.own;have j:=D H.o.mf;go_upto_region 8 with((go_at_call 143;refine(Gp wc q p e z H.o.rd HQ.o K.o.1).mono ?_);rintro en R ⟨h,m,n,rfl,N,o9,k9,P,b9,n9⟩;have O9:=D o9;have S:=D N;have N9:=D n9;clear o9 N n9;have T:=D (b9.o.dQ H.o.blk (by have:=j.o;have:=a.o;omega) (by have:=g.o;have:=a.o;omega));have f:=aq T.o 6;have d:R.cell? ⟨b,6,J⟩=I (.slice J 0 0):=by simp only[an,T.o];rfl)
 obtain⟨e0,u⟩:∃e0,R.setCell ⟨b,6,J⟩ (.slice m h.length n)=e0:=⟨_,rfl⟩;have i:ae b R e0:=by rw[←u];exact(aD _ _).setCell (p:=⟨b,6,J⟩) (G _) _
 have HK:Hid (e0.heap[b]?=I (.cells (KL k r ep rq s ao l.length t m h.length n) 51 (0,0))):=D (by rw[←u];simp[aV,aR,T.o])
 have Q:Hid (e0.heap[w.heap.size]?=I (.cells wA 51 (0,0))):=D (by
  have h1:=b9.o.dQ HR.o (by have:=j.o;show w.heap.size≠p;omega) (by have:=g.o;show w.heap.size≠q;omega)
  rw[←u,bC _ _ _ _ (by
   show w.heap.size≠b
   exact fun hh=>(H.o.fZ _ (aY ..)).2.2 hh)]
  exact h1)
 have W:Hid (fy B e0 p (iQ z).2):=D (kX.keep k9.o i (by have:=j.o;have:=a.o;omega) (by have:=H.o.bs;have:=a.o;omega));have a0:Hid (jT e0 q p (gg e h)):=D (P.o.keep i (by have:=g.o;have:=a.o;omega));have b0:Hid (gK p q w e0):=D ((H.o.but.two.trans b9.o).then i a.o);have c0:Hid (cJ e0 wc.heap.size (.slice m h.length n) h):=D (by rw[←u];exact O9.o.put ⟨b,6,J⟩ L.o _);rw[u];clear u i f d k9 P b9
 go_wp2_with (first
  | ((with_reducible refine aT 46 ?_);refine wpList_load_row rfl _ (.tmp 4) rfl b rfl _ _ (0,0) _ HK.o underlying51 rfl aj ?_)
  | (refine aJ rfl _ (.tmp 2) (.tmp 46) rfl w.heap.size _ rfl rfl _ _ Q.o aj rfl (by simp[ap]) ?_))
 have o:Hid (ae w.heap.size e0 (cV e0 w.heap.size (KL k r ep rq s ao l.length t m h.length n))):=D (dh (aD _ _) (G _) _);refine au (v:=.agg (KL k r ep rq s ao l.length t m h.length n)) (eb results129 _ _ w.heap.size _ (KL k r ep rq s ao l.length t m h.length n) (0,0) _ rfl (aO _ _ _ _ _ _ Q.o) underlying51 rfl aj) rfl (show yB _ _ _ _ _ _ _ _ from⟨k,r,ep,rq,s,ao,m,l.length,t,n,h,rfl,by rw[F.o.2];exact S.o,?_,?_,a0.o.keep o.o g.o,b0.o.then o.o (G _),N9.o⟩)
 ·exact(c0.o.rows w.heap.size rfl (by have:=a.o;have:=L.o;omega)).to K.o.2
 ·rw[F.o.1]
  exact kX.keep W.o o.o H.o.mf H.o.bs
def Lu{B:Nat}(w Q:V)(q p b:Nat)(e:Int)(x x5 o:X)(m0:Nat)(k R ep rq S:Int){u1 u5 u6 u7 u8 u9 u10 u11 u12 u13 u14 u15 u16 u17 u18 u19 u20 u21 u22 u23 u24 u25 u26 u27 u28 u29 u30 u31 u32 u33 u34 u35 u36 u37 u38 u39 u40 u41 u42 u43 u44 u45 u46:Z}(hM:m0≤20)(t:q≠p)(u:q<w.heap.size)(E6:Hid (dx 20 x5=(m0,o)))
  (v:Hid ((kP x).2=(iQ (cB jB m0 o).2).2∧(kP x).1.ops=(iQ (cB jB m0 o).2).1))
  (H:Hid (Mk kX B w p [(w.heap.size,wA,51),(q,#[.pointer (I ⟨p,0,J⟩),.int .i64 e],183)] x5 b (Pm k R ep rq S) 51 Q)):
  ∀c,f129.body.bind (spine 3)=I c→im M c (gW M f129 (yB B w q p e x)) ⟨eS (.pointer (I ⟨q,0,J⟩)::u1:: .pointer (I ⟨w.heap.size,0,J⟩):: .func (.func 63) #[.pointer (I ⟨p,0,J⟩)] #[]:: .pointer (I ⟨b,0,J⟩)::u5::u6::u7::u8::u9::u10::u11::u12::u13::u14::u15::u16::u17::u18::u19::u20::u21::u22::u23::u24::u25::u26::u27::u28::u29::u30::u31::u32::u33::u34::u35::u36::u37::u38::u39::u40::u41::u42::u43::u44::u45::u46:: []),[]⟩ Q:=by
 have HM:=D hM;have a0:=D t;have C:=D u;clear hM t u;refine gE rfl ?_;have HQ:Hid (jT Q q p e):=D (H.o.fZ _ (aE _ (af.2 rfl))).1;go_upto_block 0 with((go_at_call 186;refine(pB Q q p e 20 x5 H.o.rd HQ.o).mono ?_);rintro en w7 ⟨rfl,k9,b9⟩;have H:=D (H.o.call k9.o b9.o))
 rw[E6.o]at H⊢;simp only at H⊢
 go_cut[] (fun wc=>∃(l:List KZ)(z:X)(ao:Option aB)(g:Nat),Hid (Mk kX B w p [(w.heap.size,wA,51),(q,#[.pointer (I ⟨p,0,J⟩),.int .i64 e],183)] z b (Pn k R ep rq S ao l.length g) 51 wc)∧Hid (wG.own wc (b+1) (.slice ao l.length g) l)∧Hid (cB jB m0 o=(l,z)))
 case first=>
  go_wp2
  go_loopw[23] (fun vi wr=>∃(i:Nat)(l:List KZ)(z:X)(ao:Option aB)(g:Nat),vi=.int .i64 i∧Hid (fA jB m0 o i l z)∧Hid (Mk kX B w p [(w.heap.size,wA,51),(q,#[.pointer (I ⟨p,0,J⟩),.int .i64 e],183)] z b (Pn k R ep rq S ao i g) 51 wr)∧Hid (wG.own wr (b+1) (.slice ao i g) l)) (fun vi _=>m0-(bp vi).toNat)
  case atStart=>exact⟨0,[],o,J,0,rfl,D (fA.start _ _ _),H,D (EL.nil _ _ _)⟩
  case round=>
   obtain⟨i,l,z,ao,g,rfl,E,n,HO⟩:=hrel;by_cases hi:i<m0
   ·have e3:decide (i<m0)=O:=by simpa using hi
    have HI:=D hi;have T:=D E.o.1;obtain⟨F,z1,t1⟩:∃a y,fY z=(a,y):=⟨_,_,rfl⟩;obtain⟨q2,z2,t2⟩:∃a y,aU z1=(a,y):=⟨_,_,rfl⟩;obtain⟨K,z3,t3⟩:∃a y,aU z2=(a,y):=⟨_,_,rfl⟩;obtain⟨L,z4,t4⟩:∃a y,aU z3=(a,y):=⟨_,_,rfl⟩;have b0:Hid (jB z=((F,q2,K,L),z4)):=D (by simp only[jB,t1,t2,t3,t4]);have T1:=D t1;have T2:=D t2;have T3:=D t3;have T4:=D t4;have e9:bi ((i:Int)+1)=(i:Int)+1:=ag _ (by have:=HM.o;omega);have h:Hid (p<b+1):=D (by have:=n.o.mf;have:=n.o.own;omega);clear hi t1 t2 t3 t4;go_upto_region 5 with fail
    refine bT 17 (fun W=>W.cell? ⟨b,5,J⟩=I (.slice ao i g)∧W.cell? ⟨q,0,J⟩=I (.pointer (I ⟨p,0,J⟩))) aj ?_;obtain⟨wd,s⟩:∃wd,wr.drew=wd:=⟨_,rfl⟩;have H:=D n.o.drew;have f:Hid (wG.own wr.drew (b+1) (.slice ao i g) l):=D HO.o;rw[s]at H f;rw[s];clear s;have d:=eK (H.o.cell 5 rfl) (H.o.look (aE _ (af.2 rfl))).1;refine stP 0 (.pointer (I ⟨b,5,J⟩)) d ?_;refine lT 1 (.slice ao i g) rfl rfl (.inl ⟨rfl,fun W hw=>?_⟩) d ?_
    ·obtain⟨c0,d0⟩:=hw
     go_simp
    refine stP 2 (.pointer (I ⟨q,0,J⟩)) d ?_;refine stP 3 (.pointer (I ⟨q,0,J⟩)) d ?_;refine stP 4 (.pointer (I ⟨q,0,J⟩)) d ?_;refine lT 5 (.pointer (I ⟨p,0,J⟩)) rfl rfl (.inl ⟨rfl,fun W hw=>?_⟩) d ?_
    ·obtain⟨c0,d0⟩:=hw
     go_simp
    refine stP 7 (.func (.func 63) #[.pointer (I ⟨p,0,J⟩)] #[]) d ?_;refine stP 9 (.func (.func 63) #[.pointer (I ⟨p,0,J⟩)] #[]) d ?_;refine stP 11 (.func (.func 63) #[.pointer (I ⟨p,0,J⟩)] #[]) d ?_;refine f_ 6 ?_;go_simp;refine(yz _ p _ _ _ H.o.rd T1.o).mono ?_;rintro en j0 ⟨rfl,k9,b9⟩;clear d;have H:=D (H.o.call k9.o b9.o);have f:=D (f.o.but b9.o h.o);have d:=eK (H.o.cell 5 rfl) (H.o.look (aE _ (af.2 rfl))).1;refine⟨d,?_⟩;refine f_ 8 ?_;go_simp;refine(fu _ p _ _ _ H.o.rd T2.o).mono ?_;rintro en k0 ⟨rfl,k9,b9⟩;clear d;have H:=D (H.o.call k9.o b9.o);have f:=D (f.o.but b9.o h.o);have d:=eK (H.o.cell 5 rfl) (H.o.look (aE _ (af.2 rfl))).1;refine⟨d,?_⟩;refine f_ 10 ?_;go_simp;refine(fu _ p _ _ _ H.o.rd T3.o).mono ?_;rintro en l0 ⟨rfl,k9,b9⟩;clear d;have H:=D (H.o.call k9.o b9.o);have f:=D (f.o.but b9.o h.o);have d:=eK (H.o.cell 5 rfl) (H.o.look (aE _ (af.2 rfl))).1;refine⟨d,?_⟩;refine f_ 12 ?_;go_simp;refine(fu _ p _ _ _ H.o.rd T4.o).mono ?_;rintro en j ⟨rfl,k9,b9⟩;clear d;have H:=D (H.o.call k9.o b9.o);have f:=D (f.o.but b9.o h.o);have d:=eK (H.o.cell 5 rfl) (H.o.look (aE _ (af.2 rfl))).1;refine⟨d,?_⟩;refine stP 13 (.agg #[.string ⟨⟨F⟩⟩,.int .i64 q2,.int .i64 K,.int .i64 L]) d ?_;have N:=aS _ _ d.1;have e0:=aS _ _ d.2;have f0:(j.alloc (.cells #[.string ⟨⟨F⟩⟩,.int .i64 q2,.int .i64 K,.int .i64 L] 122)).cell? ⟨b,5,J⟩=I (.slice ao i g):=dG d.1 ((aD j.heap.size _).alloc (G _) _) N;have g0:(j.alloc (.cells #[.string ⟨⟨F⟩⟩,.int .i64 q2,.int .i64 K,.int .i64 L] 122)).cell? ⟨q,0,J⟩=I (.pointer (I ⟨p,0,J⟩)):=dG d.2 ((aD j.heap.size _).alloc (G _) _) e0;refine dK 14 ?_;go_simp;refine f_ 15 ?_;refine wG.rQ _ _ rfl (b+1) (.slice ao i g) l rfl f.o (F,q2,K,L) _ rfl _ rfl rfl i T.o (by have:=HI.o;have:=HM.o;omega) N ?_;intro a7 c7 w7 o7 h7 g7;clear g7 d f0 g0
    have H:=D (H.o.below h7 (bu b) (fun r hr=>by
     rcases bg.1 hr with rfl | hr
     ·exact fk n.o.own
     ·obtain rfl:=af.1 hr
      have:=C.o;have:=n.o.own;show q<b+1;omega))
    have d:=eK (H.o.cell 5 rfl) (H.o.look (aE _ (af.2 rfl))).1;have f7:=H.o.frozen 5;have O9:=D (o7.put ⟨b,5,J⟩ (bu b) (.slice a7 (i+1) c7));refine⟨fun _=>d,?_⟩;refine stP 16 (.pointer (I ⟨b,5,J⟩)) d ?_;obtain⟨h0,i0⟩:=d;refine dK 17 ?_;go_simp;refine jj ?_;have H9:=D (H.o.st 5 (.slice a7 (i+1) c7));have m:=E.o.step HI.o;rw[b0.o]at m;have m:=D m;clear h0 i0 f7 h7 o7;go_wp2;go_round
    case rel=>exact⟨i+1,_,z4,a7,c7,by go_num,m,H9,O9⟩
    case measure=>exact bA HI.o _ eT
   ·have e3:decide (i<m0)=U:=by simpa using hi
    have P:i=m0:=by have:=E.o.2.1;omega
    have HF:Hid (cB jB m0 o=(l,z)):=D (by
     have hd:=E.o;rw[P]at hd
     exact hd.done)
    have T:=D E.o.1;clear hi P;go_wp2;go_meet
    case rel=>exact⟨l,z,ao,g,D (by rw[T.o];exact n.o),D (by rw[T.o];exact HO.o),HF⟩
 case rest=>
  obtain⟨l,z,ao,g,n,HO,HR⟩:=hcut;go_step;exact Ok _ _ _ _ _ _ x z k R ep rq S l ao g a0.o C.o (by rw[v.o.1,v.o.2,HR.o];exact⟨rfl,rfl⟩) n _ rfl
def Ol{B:Nat}(w:V)(q p:Nat)(e:Int)(x:X)(h:fy B w p x)(i:jT w q p e)(j:B≤w.heap.size):
  ar M 129 #[.pointer (I ⟨q,0,J⟩)] w (yB B w q p e x):=by
 have N:∀(fn:Fn)(first cap:Array Z)(w:V),(dn fn first cap).run M w=.ok (.func fn first cap) w:=fun _ _ _ _=>rfl
 obtain⟨k,P,n⟩:∃a y,aU x=(a,y):=⟨_,_,rfl⟩;obtain⟨o,Q,s⟩:∃a y,aU P=(a,y):=⟨_,_,rfl⟩;obtain⟨ep,R,t⟩:∃a y,aU Q=(a,y):=⟨_,_,rfl⟩;obtain⟨rq,S,u⟩:∃a y,aU R=(a,y):=⟨_,_,rfl⟩;obtain⟨v,l,z⟩:∃a y,aU S=(a,y):=⟨_,_,rfl⟩;obtain⟨a0,C,m⟩:∃a y,dx 20 l=(a,y):=⟨_,_,rfl⟩;have T:=D n;have E2:=D s;have E3:=D t;have E4:=D u;have E5:=D z;have E6:=D m
 have E:Hid ((kP x).2=(iQ (cB jB a0 C).2).2∧(kP x).1.ops=(iQ (cB jB a0 C).2).1):=D (by
  simp only[kP,n,s,t,u,z,m,and_self])
 have HM:Hid (a0≤20):=D (by have:=mR 20 l;rw[show ((20:Nat):Int)=20 from rfl,m]at this;exact this);have d:=D (i.ne h);have c:=D h.lt';have f:Hid (q<w.heap.size):=D (br i).1
 obtain⟨W,L,H⟩:∃W,w.alloc (.cells wA 51)=W∧Hid (Mk kX B w p [(q,#[.pointer (I ⟨p,0,J⟩),.int .i64 e],183)] x w.heap.size [.int .i64 0,.int .i64 0,.int .i64 0,.int .i64 0,.int .i64 0,.slice J 0 0,.slice J 0 0] 51 W):=⟨_,rfl,D ⟨h.keep ((aD _ _).alloc (G _) _) c.o j,al _ _,fun r g=>by
   obtain rfl:=af.1 g
   exact⟨by show(w.alloc _).heap[q]?=_;rw[ed _ _ _ f.o];exact i,d.o,lZ f.o⟩,.alloc _ _ _,G _,c.o,j⟩⟩
 have F:=D j;have HW:=D L;clear h i j L n s t u z m
 go_enter func129,ntmps129
 go_upto_region 1 with fail
 rw[HW.o];have g0:=(H.o.look (af.2 rfl)).1;go_upto_region 2 with fail
 go_cut[4] (fun u4 wc=>∃b,u4=.pointer (I ⟨b,0,J⟩)∧Hid (Mk kX B w p [(w.heap.size,wA,51),(q,#[.pointer (I ⟨p,0,J⟩),.int .i64 e],183)] l b (Pm k o ep rq v) 51 wc))
 case first=>
  go_wp2_with ((go_at_call 63;refine(fu _ p _ _ _ H.o.rd (by first | exact T.o | exact E2.o | exact E3.o | exact E4.o | exact E5.o)).mono ?_);rintro en w9 ⟨rfl,k9,b9⟩;have H:=D (H.o.call k9.o b9.o))
  have H2:=D (Mk.start (K:=kX) H.o.rd H.o.but c.o F.o [(w.heap.size,wA,51),(q,#[.pointer (I ⟨p,0,J⟩),.int .i64 e],183)] (fun r g=>by
   rcases bg.1 g with rfl | g
   ·exact⟨H.o.blk,by have:=c.o;show w.heap.size≠p;omega⟩
   ·obtain rfl:=af.1 g
    exact⟨(H.o.fZ _ (af.2 rfl)).1,d.o⟩) (Pm k o ep rq v) 51)
  go_meet
  case rel=>exact⟨_,rfl,H2⟩
 case rest=>
  obtain⟨b,rfl,H⟩:=hcut;go_step;exact Lu _ _ _ _ _ _ x l C a0 k o ep rq v HM.o d.o f.o E6 E H _ rfl
def Jq{B:Nat}(w:V)(q p:Nat)(e:Int)(x y:X)(a:Int)(h:fy B w p x)(b:jT w q p e)(c:lR x=(a,y)):
  ar M 144 #[.pointer (I ⟨q,0,J⟩)] w (fun d w'=>d=.returned (.int .i64 a)∧Hid (fy B w' p y)∧Hid (But p w w')):=by
 have:=NE w q p e x h b;rw[c]at this;exact this
def pF(B:Nat)(w:V)(p:Nat)(x:X)(b:de)(w':V):Prop:=
 ∃(c d e ep f g:Int)(h i j:Option aB)(k sc a l uu m:Nat),b=.returned (.agg (KM c d e ep f g h k sc i a l j uu m))∧(ei x).1.used.length=uu∧Hid (fy B w' p (ei x).2)∧Hid (But p w w')
def Om{B:Nat}(w wc:V)(q p bx b:Nat)(e:Int)(x z:X)(u y k ep l m:Int)(n o:Option aB)(r sc a s:Nat){u1 u3 u6 u7 u8 u9 u10 u11 u12 u13 u14 u15 u16 u17 u18 u19 u20 u21 u22 u23 u24 u25 u26 u27 u28 u29 u30 u31 u32 u33 u34 u35 u36 u37 u38 u39 u40 u41 u42 u43 u44 u45 u46 u47 u48 u49 u50 u51 u52 u53 u54 u55 u56 u57 u58 u59 u60 u61 u62 u63 u64 u65 u66 u67 u68 u69 u70 u71 u72:Z}(C:q≠p)(E:q<w.heap.size)(t:bx<b∧w.heap.size<bx)(F:(ei x).2=(du z).2∧(ei x).1.used=(du z).1)
  (H:Hid (Mk kX B w p [(w.heap.size,kZ,59),(q,#[.pointer (I ⟨p,0,J⟩),.int .i64 e],183),(bx,(yd u y),59)] z b (Pp k ep l m n r sc o a s) 38 wc)):
  ∀c,f142.body.bind (spine 6)=I c→im M c (gW M f142 (pF B w p x)) ⟨eS (.pointer (I ⟨q,0,J⟩)::u1:: .pointer (I ⟨w.heap.size,0,J⟩)::u3:: .pointer (I ⟨bx,0,J⟩):: .pointer (I ⟨b,0,J⟩)::u6::u7::u8::u9::u10::u11::u12::u13::u14::u15::u16::u17::u18::u19::u20::u21::u22::u23::u24::u25::u26::u27::u28::u29::u30::u31::u32::u33::u34::u35::u36::u37::u38::u39::u40::u41::u42::u43::u44::u45::u46::u47::u48::u49::u50::u51::u52::u53::u54::u55::u56::u57::u58::u59::u60::u61::u62::u63::u64::u65::u66::u67::u68::u69::u70::u71::u72:: []),[]⟩ wc:=by
 have a0:=D C;have b0:=D E;have c0:Hid (bx<b):=D t.1;have g:Hid (w.heap.size<bx):=D t.2;clear C E t;have K:=D F;clear F;refine gE rfl ?_;have g0:=(H.o.look (aE _ (aY ..))).1;have R:Hid (B≤wc.heap.size):=D (aa H.o.bs H.o.but.size);go_upto_region 13 with((go_at_call 201;refine(ND wc p z H.o.rd R.o).mono ?_);rintro en w9 ⟨vv,rfl,o9,k9,b9⟩;obtain⟨i,j,rfl,-,-⟩:=bY o9;clear o9 g0;have H:=D (H.o.call k9 b9);clear k9 b9;have f:=H.o.frozen 6;have d:=H.o.cell 6 rfl)
 have H:=D (H.o.st 6 (.slice i (du z).1.length j));obtain⟨d0,S⟩:∃d0,w9.setCell ⟨b,6,J⟩ (.slice i (du z).1.length j)=d0:=⟨_,rfl⟩;rw[S]at H;rw[S];clear S f d;have L:=D (H.o.fZ _ (aE _ (aE _ (af.2 rfl)))).1;obtain⟨x0,x1,x2,x3,x4,x5,x6,x7,x8,m0,m1,m2,m3,m4,m5,m6,m7,m8⟩:=zL L.o;go_upto_region 14 with((with_reducible refine aT 70 ?_);refine wpList_load_row rfl _ (.tmp 5) rfl b rfl _ _ (0,0) _ H.o.blk underlying38 rfl aj ?_)
 obtain⟨e0,Q⟩:∃e0,((((((d0.setCell ⟨bx,2,J⟩ (.int .i64 k)).setCell ⟨bx,3,J⟩ (.int .i64 ep)).setCell ⟨bx,4,J⟩ (.int .i64 l)).setCell ⟨bx,5,J⟩ (.int .i64 m)).setCell ⟨bx,6,J⟩ (.slice n r sc)).setCell ⟨bx,7,J⟩ (.slice o a s)).setCell ⟨bx,8,J⟩ (.slice i (du z).1.length j)=e0:=⟨_,rfl⟩
 have h:ae bx d0 e0:=by
  rw[←Q]
  repeat (apply Below.puts)
  exact aD _ _
 have HK:Hid (e0.heap[bx]?=I (.cells (KM u y k ep l m n r sc o a s i (du z).1.length j) 59 (0,0))):=D (by rw[←Q];simp[aV,aR,L.o]);have N:Hid (e0.heap[w.heap.size]?=I (.cells kZ 59 (0,0))):=D (by rw[h.block _ g.o];exact(H.o.fZ _ (aY ..)).1);have T:Hid (fy B e0 p (du z).2):=D (kX.keep H.o.rd h (by have:=H.o.mf;have:=g.o;omega) (by have:=H.o.bs;have:=g.o;omega));have W:Hid (But p w e0):=D (H.o.but.then h (Nat.le_of_lt g.o));rw[Q];clear Q h x0 x1 x2 x3 x4 x5 x6 x7 x8 m0 m1 m2 m3 m4 m5 m6 m7 m8
 go_wp2_with (first
  | ((with_reducible refine aT 72 ?_);refine wpList_load_row rfl _ (.tmp 4) rfl bx rfl _ _ (0,0) _ HK.o underlying59 rfl aj ?_)
  | (refine aJ rfl _ (.tmp 2) (.tmp 72) rfl w.heap.size _ rfl rfl _ _ N.o aj rfl (by simp[ap]) ?_))
 have P:Hid (ae w.heap.size e0 (cV e0 w.heap.size (KM u y k ep l m n r sc o a s i (du z).1.length j))):=D (dh (aD _ _) (G _) _);refine au (v:=.agg (KM u y k ep l m n r sc o a s i (du z).1.length j)) (eb results142 _ _ w.heap.size _ (KM u y k ep l m n r sc o a s i (du z).1.length j) (0,0) _ rfl (aO _ _ _ _ _ _ N.o) underlying59 rfl aj) rfl (show pF _ _ _ _ _ _ from⟨u,y,k,ep,l,m,n,o,i,r,sc,a,s,_,j,rfl,by rw[K.o.2],?_,W.o.then P.o (G _)⟩);rw[K.o.1];exact kX.keep T.o P.o H.o.mf H.o.bs
def On{B:Nat}(w Q:V)(q p bx b:Nat)(e:Int)(x x7 m:X)(l0:Nat)(R S T ep W la:Int)(sa:Option aB)(sn sc:Nat){u1 u6 u7 u8 u9 u10 u11 u12 u13 u14 u15 u16 u17 u18 u19 u20 u21 u22 u23 u24 u25 u26 u27 u28 u29 u30 u31 u32 u33 u34 u35 u36 u37 u38 u39 u40 u41 u42 u43 u44 u45 u46 u47 u48 u49 u50 u51 u52 u53 u54 u55 u56 u57 u58 u59 u60 u61 u62 u63 u64 u65 u66 u67 u68 u69 u70 u71 u72:Z}(hM:l0≤100)(s:q≠p)(t:q<w.heap.size)(n:bx<b∧w.heap.size<bx)(E6:Hid (dx 100 x7=(l0,m)))
  (u:Hid ((ei x).2=(du (cB jm l0 m).2).2∧(ei x).1.used=(du (cB jm l0 m).2).1))
  (H:Hid (Mk kX B w p [(w.heap.size,kZ,59),(q,#[.pointer (I ⟨p,0,J⟩),.int .i64 e],183),(bx,(yd R S),59)] x7 b (Pq T ep W la sa sn sc) 38 Q)):
  ∀c,f142.body.bind (spine 5)=I c→im M c (gW M f142 (pF B w p x)) ⟨eS (.pointer (I ⟨q,0,J⟩)::u1:: .pointer (I ⟨w.heap.size,0,J⟩):: .func (.func 63) #[.pointer (I ⟨p,0,J⟩)] #[]:: .pointer (I ⟨bx,0,J⟩):: .pointer (I ⟨b,0,J⟩)::u6::u7::u8::u9::u10::u11::u12::u13::u14::u15::u16::u17::u18::u19::u20::u21::u22::u23::u24::u25::u26::u27::u28::u29::u30::u31::u32::u33::u34::u35::u36::u37::u38::u39::u40::u41::u42::u43::u44::u45::u46::u47::u48::u49::u50::u51::u52::u53::u54::u55::u56::u57::u58::u59::u60::u61::u62::u63::u64::u65::u66::u67::u68::u69::u70::u71::u72:: []),[]⟩ Q:=by
 have HM:=D hM;have a0:=D s;have v:=D t;have C:Hid (bx<b):=D n.1;have b0:Hid (w.heap.size<bx):=D n.2;clear s t n;clear hM;refine gE rfl ?_;have HQ:Hid (jT Q q p e):=D (H.o.fZ _ (aE _ (aY ..))).1;go_upto_block 2 with((go_at_call 186;refine(pB Q q p e 100 x7 H.o.rd HQ.o).mono ?_);rintro en w7 ⟨rfl,k9,b9⟩;have H:=D (H.o.call k9.o b9.o))
 rw[E6.o]at H⊢;simp only at H⊢
 go_cut[] (fun wc=>∃(l:List (Int×Int))(z:X)(ao:Option aB)(f:Nat),Hid (Mk kX B w p [(w.heap.size,kZ,59),(q,#[.pointer (I ⟨p,0,J⟩),.int .i64 e],183),(bx,(yd R S),59)] z b (Pp T ep W la sa sn sc ao l.length f) 38 wc)∧Hid (wI.own wc (b+1) (.slice ao l.length f) l)∧Hid (cB jm l0 m=(l,z)))
 case first=>
  go_wp2
  go_loopw[51] (fun vi wr=>∃(i:Nat)(l:List (Int×Int))(z:X)(ao:Option aB)(f:Nat),vi=.int .i64 i∧Hid (fA jm l0 m i l z)∧Hid (Mk kX B w p [(w.heap.size,kZ,59),(q,#[.pointer (I ⟨p,0,J⟩),.int .i64 e],183),(bx,(yd R S),59)] z b (Pp T ep W la sa sn sc ao i f) 38 wr)∧Hid (wI.own wr (b+1) (.slice ao i f) l)) (fun vi _=>l0-(bp vi).toNat)
  case atStart=>exact⟨0,[],m,J,0,rfl,D (fA.start _ _ _),H,D (EL.nil _ _ _)⟩
  case round=>
   obtain⟨i,l,z,ao,f,rfl,E,k,HO⟩:=hrel;by_cases hi:i<l0
   ·have e3:decide (i<l0)=O:=by simpa using hi
    have HI:=D hi;have HL:=D E.o.1;obtain⟨F,z1,t1⟩:∃a y,aU z=(a,y):=⟨_,_,rfl⟩;obtain⟨q2,z2,t2⟩:∃a y,aU z1=(a,y):=⟨_,_,rfl⟩;have c0:Hid (jm z=((F,q2),z2)):=D (by simp only[jm,t1,t2]);have T1:=D t1;have T2:=D t2;have e9:bi ((i:Int)+1)=(i:Int)+1:=ag _ (by have:=HM.o;omega);have K:Hid (p<b+1):=D (by have:=k.o.mf;have:=k.o.own;omega);clear hi t1 t2;go_upto_region 10 with fail
    refine bT 10 (fun w'=>w'.cell? ⟨b,5,J⟩=I (.slice ao i f)∧w'.cell? ⟨q,0,J⟩=I (.pointer (I ⟨p,0,J⟩))) aj ?_;obtain⟨wd,o⟩:∃wd,wr.drew=wd:=⟨_,rfl⟩;have H:=D k.o.drew;have g:Hid (wI.own wr.drew (b+1) (.slice ao i f) l):=D HO.o;rw[o]at H g;rw[o];clear o;have d:=eK (H.o.cell 5 rfl) (H.o.look (aE _ (aY ..))).1;refine stP 0 (.pointer (I ⟨b,5,J⟩)) d ?_;refine lT 1 (.slice ao i f) rfl rfl (.inl ⟨rfl,fun w' hw=>?_⟩) d ?_
    ·obtain⟨i0,j0⟩:=hw
     go_simp
    refine stP 2 (.func (.func 63) #[.pointer (I ⟨p,0,J⟩)] #[]) d ?_;refine stP 4 (.func (.func 63) #[.pointer (I ⟨p,0,J⟩)] #[]) d ?_;refine f_ 3 ?_;go_simp;refine(fu _ p _ _ _ H.o.rd T1.o).mono ?_;rintro en k0 ⟨rfl,k9,b9⟩;clear d;have H:=D (H.o.call k9.o b9.o);have g:=D (g.o.but b9.o K.o);have d:=eK (H.o.cell 5 rfl) (H.o.look (aE _ (aY ..))).1;refine⟨d,?_⟩;refine f_ 5 ?_;go_simp;refine(fu _ p _ _ _ H.o.rd T2.o).mono ?_;rintro en h ⟨rfl,k9,b9⟩;clear d;have H:=D (H.o.call k9.o b9.o);have g:=D (g.o.but b9.o K.o);have d:=eK (H.o.cell 5 rfl) (H.o.look (aE _ (aY ..))).1;refine⟨d,?_⟩;refine stP 6 (.agg #[.int .i64 F,.int .i64 q2]) d ?_;have L:=aS _ _ d.1;have d0:=aS _ _ d.2;have e0:(h.alloc (.cells #[.int .i64 F,.int .i64 q2] 244)).cell? ⟨b,5,J⟩=I (.slice ao i f):=dG d.1 ((aD h.heap.size _).alloc (G _) _) L;have f0:(h.alloc (.cells #[.int .i64 F,.int .i64 q2] 244)).cell? ⟨q,0,J⟩=I (.pointer (I ⟨p,0,J⟩)):=dG d.2 ((aD h.heap.size _).alloc (G _) _) d0;refine dK 7 ?_;go_simp;refine f_ 8 ?_;refine wI.rQ _ _ rfl (b+1) (.slice ao i f) l rfl g.o (F,q2) _ rfl _ rfl rfl i HL.o (by have:=HI.o;have:=HM.o;omega) L ?_;intro a7 c7 w7 o7 h7 g7;clear g7 d e0 f0
    have H:=D (H.o.below h7 (bu b) (fun r N=>by
     rcases bg.1 N with rfl | N
     ·exact fk k.o.own
     rcases bg.1 N with rfl | N
     ·have:=v.o;have:=k.o.own;show q<b+1;omega
     ·obtain rfl:=af.1 N
      have:=C.o;show bx<b+1;omega))
    have d:=eK (H.o.cell 5 rfl) (H.o.look (aE _ (aY ..))).1;have f7:=H.o.frozen 5;have O9:=D (o7.put ⟨b,5,J⟩ (bu b) (.slice a7 (i+1) c7));refine⟨fun _=>d,?_⟩;refine stP 9 (.pointer (I ⟨b,5,J⟩)) d ?_;obtain⟨g0,h0⟩:=d;refine dK 10 ?_;go_simp;refine jj ?_;have H9:=D (H.o.st 5 (.slice a7 (i+1) c7));have j:=E.o.step HI.o;rw[c0.o]at j;have j:=D j;clear g0 h0 f7 h7 o7;go_wp2;go_round
    case rel=>exact⟨i+1,_,z2,a7,c7,by go_num,j,H9,O9⟩
    case measure=>exact bA HI.o _ eT
   ·have e3:decide (i<l0)=U:=by simpa using hi
    have P:i=l0:=by have:=E.o.2.1;omega
    have HF:Hid (cB jm l0 m=(l,z)):=D (by
     have hd:=E.o;rw[P]at hd
     exact hd.done)
    have HL:=D E.o.1;clear hi P;go_wp2;go_meet
    case rel=>exact⟨l,z,ao,f,D (by rw[HL.o];exact k.o),D (by rw[HL.o];exact HO.o),HF⟩
 case rest=>
  obtain⟨l,z,ao,f,k,HO,HR⟩:=hcut;go_step;exact Om _ _ _ _ _ _ _ x z R S T ep W la sa ao sn sc l.length f a0.o v.o ⟨C.o,b0.o⟩ (by rw[u.o.1,u.o.2,HR.o];exact⟨rfl,rfl⟩) k _ rfl
def Qc{B:Nat}(w S:V)(q p bx b:Nat)(e:Int)(x x6 j:X)(r0:Nat)(T W dv ep un la:Int){u1 u6 u7 u8 u9 u10 u11 u12 u13 u14 u15 u16 u17 u18 u19 u20 u21 u22 u23 u24 u25 u26 u27 u28 u29 u30 u31 u32 u33 u34 u35 u36 u37 u38 u39 u40 u41 u42 u43 u44 u45 u46 u47 u48 u49 u50 u51 u52 u53 u54 u55 u56 u57 u58 u59 u60 u61 u62 u63 u64 u65 u66 u67 u68 u69 u70 u71 u72:Z}(hM:r0≤20)(t:q≠p)(u:q<w.heap.size)(o:bx<b∧w.heap.size<bx)(E6:Hid (dx 20 x6=(r0,j)))
  (a0:Hid ((ei x).2=(du (cB jm (dx 100 (cB jl r0 j).2).1 (dx 100 (cB jl r0 j).2).2).2).2∧(ei x).1.used=(du (cB jm (dx 100 (cB jl r0 j).2).1 (dx 100 (cB jl r0 j).2).2).2).1))
  (H:Hid (Mk kX B w p [(w.heap.size,kZ,59),(q,#[.pointer (I ⟨p,0,J⟩),.int .i64 e],183),(bx,(yd T W),59)] x6 b (Pr dv ep un la) 38 S)):
  ∀c,f142.body.bind (spine 4)=I c→im M c (gW M f142 (pF B w p x)) ⟨eS (.pointer (I ⟨q,0,J⟩)::u1:: .pointer (I ⟨w.heap.size,0,J⟩):: .func (.func 63) #[.pointer (I ⟨p,0,J⟩)] #[]:: .pointer (I ⟨bx,0,J⟩):: .pointer (I ⟨b,0,J⟩)::u6::u7::u8::u9::u10::u11::u12::u13::u14::u15::u16::u17::u18::u19::u20::u21::u22::u23::u24::u25::u26::u27::u28::u29::u30::u31::u32::u33::u34::u35::u36::u37::u38::u39::u40::u41::u42::u43::u44::u45::u46::u47::u48::u49::u50::u51::u52::u53::u54::u55::u56::u57::u58::u59::u60::u61::u62::u63::u64::u65::u66::u67::u68::u69::u70::u71::u72:: []),[]⟩ S:=by
 have HM:=D hM;have b0:=D t;have v:=D u;have C:Hid (bx<b):=D o.1;have c0:Hid (w.heap.size<bx):=D o.2;clear t u o;clear hM;refine gE rfl ?_;have HQ:Hid (jT S q p e):=D (H.o.fZ _ (aE _ (aY ..))).1;go_upto_block 0 with((go_at_call 186;refine(pB S q p e 20 x6 H.o.rd HQ.o).mono ?_);rintro en w7 ⟨rfl,k9,b9⟩;have H:=D (H.o.call k9.o b9.o))
 rw[E6.o]at H⊢;simp only at H⊢
 go_cut[] (fun wc=>∃(l:List NW)(z:X)(ao:Option aB)(g:Nat),Hid (Mk kX B w p [(w.heap.size,kZ,59),(q,#[.pointer (I ⟨p,0,J⟩),.int .i64 e],183),(bx,(yd T W),59)] z b (Pq dv ep un la ao l.length g) 38 wc)∧Hid (wH.own wc (b+1) (.slice ao l.length g) l)∧Hid (cB jl r0 j=(l,z)))
 case first=>
  go_wp2
  go_loopw[27] (fun vi wr=>∃(i:Nat)(l:List NW)(z:X)(ao:Option aB)(g:Nat),vi=.int .i64 i∧Hid (fA jl r0 j i l z)∧Hid (Mk kX B w p [(w.heap.size,kZ,59),(q,#[.pointer (I ⟨p,0,J⟩),.int .i64 e],183),(bx,(yd T W),59)] z b (Pq dv ep un la ao i g) 38 wr)∧Hid (wH.own wr (b+1) (.slice ao i g) l)) (fun vi _=>r0-(bp vi).toNat)
  case atStart=>exact⟨0,[],j,J,0,rfl,D (fA.start _ _ _),H,D (EL.nil _ _ _)⟩
  case round=>
   obtain⟨i,l,z,ao,g,rfl,E,n,HO⟩:=hrel;by_cases hi:i<r0
   ·have e3:decide (i<r0)=O:=by simpa using hi
    have HI:=D hi;have HL:=D E.o.1;obtain⟨F,z1,t1⟩:∃a y,fY z=(a,y):=⟨_,_,rfl⟩;obtain⟨q2,z2,t2⟩:∃a y,aU z1=(a,y):=⟨_,_,rfl⟩;obtain⟨K,z3,t3⟩:∃a y,aU z2=(a,y):=⟨_,_,rfl⟩;obtain⟨L,z4,t4⟩:∃a y,aU z3=(a,y):=⟨_,_,rfl⟩;obtain⟨N,z5,t5⟩:∃a y,aU z4=(a,y):=⟨_,_,rfl⟩;have d0:Hid (jl z=((F,q2,K,L,N),z5)):=D (by simp only[jl,t1,t2,t3,t4,t5]);have T1:=D t1;have T2:=D t2;have T3:=D t3;have T4:=D t4;have T5:=D t5;have e9:bi ((i:Int)+1)=(i:Int)+1:=ag _ (by have:=HM.o;omega);have h:Hid (p<b+1):=D (by have:=n.o.mf;have:=n.o.own;omega);clear hi t1 t2 t3 t4 t5;go_upto_region 6 with fail
    refine bT 19 (fun w'=>w'.cell? ⟨b,4,J⟩=I (.slice ao i g)∧w'.cell? ⟨q,0,J⟩=I (.pointer (I ⟨p,0,J⟩))) aj ?_;obtain⟨wd,s⟩:∃wd,wr.drew=wd:=⟨_,rfl⟩;have H:=D n.o.drew;have f:Hid (wH.own wr.drew (b+1) (.slice ao i g) l):=D HO.o;rw[s]at H f;rw[s];clear s;have d:=eK (H.o.cell 4 rfl) (H.o.look (aE _ (aY ..))).1;refine stP 0 (.pointer (I ⟨b,4,J⟩)) d ?_;refine lT 1 (.slice ao i g) rfl rfl (.inl ⟨rfl,fun w' hw=>?_⟩) d ?_
    ·obtain⟨e0,f0⟩:=hw
     go_simp
    refine stP 2 (.pointer (I ⟨q,0,J⟩)) d ?_;refine stP 3 (.pointer (I ⟨q,0,J⟩)) d ?_;refine stP 4 (.pointer (I ⟨q,0,J⟩)) d ?_;refine lT 5 (.pointer (I ⟨p,0,J⟩)) rfl rfl (.inl ⟨rfl,fun w' hw=>?_⟩) d ?_
    ·obtain⟨e0,f0⟩:=hw
     go_simp
    refine stP 7 (.func (.func 63) #[.pointer (I ⟨p,0,J⟩)] #[]) d ?_;refine stP 9 (.func (.func 63) #[.pointer (I ⟨p,0,J⟩)] #[]) d ?_;refine stP 11 (.func (.func 63) #[.pointer (I ⟨p,0,J⟩)] #[]) d ?_;refine stP 13 (.func (.func 63) #[.pointer (I ⟨p,0,J⟩)] #[]) d ?_;refine f_ 6 ?_;go_simp;refine(yz _ p _ _ _ H.o.rd T1.o).mono ?_;rintro en n0 ⟨rfl,k9,b9⟩;clear d;have H:=D (H.o.call k9.o b9.o);have f:=D (f.o.but b9.o h.o);have d:=eK (H.o.cell 4 rfl) (H.o.look (aE _ (aY ..))).1;refine⟨d,?_⟩;refine f_ 8 ?_;go_simp;refine(fu _ p _ _ _ H.o.rd T2.o).mono ?_;rintro en o0 ⟨rfl,k9,b9⟩;clear d;have H:=D (H.o.call k9.o b9.o);have f:=D (f.o.but b9.o h.o);have d:=eK (H.o.cell 4 rfl) (H.o.look (aE _ (aY ..))).1;refine⟨d,?_⟩;refine f_ 10 ?_;go_simp;refine(fu _ p _ _ _ H.o.rd T3.o).mono ?_;rintro en p0 ⟨rfl,k9,b9⟩;clear d;have H:=D (H.o.call k9.o b9.o);have f:=D (f.o.but b9.o h.o);have d:=eK (H.o.cell 4 rfl) (H.o.look (aE _ (aY ..))).1;refine⟨d,?_⟩;refine f_ 12 ?_;go_simp;refine(fu _ p _ _ _ H.o.rd T4.o).mono ?_;rintro en q0 ⟨rfl,k9,b9⟩;clear d;have H:=D (H.o.call k9.o b9.o);have f:=D (f.o.but b9.o h.o);have d:=eK (H.o.cell 4 rfl) (H.o.look (aE _ (aY ..))).1;refine⟨d,?_⟩;refine f_ 14 ?_;go_simp;refine(fu _ p _ _ _ H.o.rd T5.o).mono ?_;rintro en k ⟨rfl,k9,b9⟩;clear d;have H:=D (H.o.call k9.o b9.o);have f:=D (f.o.but b9.o h.o);have d:=eK (H.o.cell 4 rfl) (H.o.look (aE _ (aY ..))).1;refine⟨d,?_⟩;refine stP 15 (.agg (Ps F q2 K L N)) d ?_;have P:=aS _ _ d.1;have g0:=aS _ _ d.2;have h0:(k.alloc (.cells (Ps F q2 K L N) 199)).cell? ⟨b,4,J⟩=I (.slice ao i g):=dG d.1 ((aD k.heap.size _).alloc (G _) _) P;have i0:(k.alloc (.cells (Ps F q2 K L N) 199)).cell? ⟨q,0,J⟩=I (.pointer (I ⟨p,0,J⟩)):=dG d.2 ((aD k.heap.size _).alloc (G _) _) g0;refine dK 16 ?_;go_simp;refine f_ 17 ?_;refine wH.rQ _ _ rfl (b+1) (.slice ao i g) l rfl f.o (F,q2,K,L,N) _ rfl _ rfl rfl i HL.o (by have:=HI.o;have:=HM.o;omega) P ?_;intro a7 c7 w7 o7 h7 g7;clear g7 d h0 i0
    have H:=D (H.o.below h7 (bu b) (fun r Q=>by
     rcases bg.1 Q with rfl | Q
     ·exact fk n.o.own
     rcases bg.1 Q with rfl | Q
     ·have:=v.o;have:=n.o.own;show q<b+1;omega
     ·obtain rfl:=af.1 Q
      have:=C.o;show bx<b+1;omega))
    have d:=eK (H.o.cell 4 rfl) (H.o.look (aE _ (aY ..))).1;have f7:=H.o.frozen 4;have O9:=D (o7.put ⟨b,4,J⟩ (bu b) (.slice a7 (i+1) c7));refine⟨fun _=>d,?_⟩;refine stP 18 (.pointer (I ⟨b,4,J⟩)) d ?_;obtain⟨j0,k0⟩:=d;refine dK 19 ?_;go_simp;refine jj ?_;have H9:=D (H.o.st 4 (.slice a7 (i+1) c7));have m:=E.o.step HI.o;rw[d0.o]at m;have m:=D m;clear j0 k0 f7 h7 o7;go_wp2;go_round
    case rel=>exact⟨i+1,_,z5,a7,c7,by go_num,m,H9,O9⟩
    case measure=>exact bA HI.o _ eT
   ·have e3:decide (i<r0)=U:=by simpa using hi
    have R:i=r0:=by have:=E.o.2.1;omega
    have HF:Hid (cB jl r0 j=(l,z)):=D (by
     have hd:=E.o;rw[R]at hd
     exact hd.done)
    have HL:=D E.o.1;clear hi R;go_wp2;go_meet
    case rel=>exact⟨l,z,ao,g,D (by rw[HL.o];exact n.o),D (by rw[HL.o];exact HO.o),HF⟩
 case rest=>
  obtain⟨l,z,ao,g,n,HO,HR⟩:=hcut;obtain⟨M2,y2,e2⟩:∃a y,dx 100 z=(a,y):=⟨_,_,rfl⟩;have l0:M2≤100:=by have:=mR 100 z;rw[show ((100:Nat):Int)=100 from rfl,e2]at this;exact this
  have m0:(ei x).2=(du (cB jm M2 y2).2).2∧(ei x).1.used=(du (cB jm M2 y2).2).1:=by
   have:=a0.o;rw[HR.o]at this;simp only[e2]at this;exact this
  go_step;exact On _ _ _ _ _ _ _ x z y2 M2 T W dv ep un la ao l.length g l0 b0.o v.o ⟨C.o,c0.o⟩ (D e2) (D m0) n _ rfl
def Jr{B:Nat}(w:V)(q p:Nat)(e:Int)(x:X)(h:fy B w p x)(o:jT w q p e)(s:B≤w.heap.size):
  ar M 142 #[.pointer (I ⟨q,0,J⟩)] w (pF B w p x):=by
 have a0:∀(fn:Fn)(first cap:Array Z)(w:V),(dn fn first cap).run M w=.ok (.func fn first cap) w:=fun _ _ _ _=>rfl
 obtain⟨i,x1,v⟩:∃a y,lR x=(a,y):=⟨_,_,rfl⟩;obtain⟨j,x2,z⟩:∃a y,aU x1=(a,y):=⟨_,_,rfl⟩;obtain⟨C,x3,E⟩:∃a y,aU x2=(a,y):=⟨_,_,rfl⟩;obtain⟨ep,x4,F⟩:∃a y,aU x3=(a,y):=⟨_,_,rfl⟩;obtain⟨L,x5,N⟩:∃a y,aU x4=(a,y):=⟨_,_,rfl⟩;obtain⟨P,t,Q⟩:∃a y,aU x5=(a,y):=⟨_,_,rfl⟩;obtain⟨b0,k,u⟩:∃a y,dx 20 t=(a,y):=⟨_,_,rfl⟩;have E1:=D v;have E2:=D z;have E3:=D E;have E4:=D F;have E5:=D N;have E6:=D Q;have E7:=D u
 have R:Hid ((ei x).2=(du (cB jm (dx 100 (cB jl b0 k).2).1 (dx 100 (cB jl b0 k).2).2).2).2∧(ei x).1.used=(du (cB jm (dx 100 (cB jl b0 k).2).1 (dx 100 (cB jl b0 k).2).2).2).1):=D (by
  simp only[ei,v,z,E,F,N,Q,u,and_self])
 have HM:Hid (b0≤20):=D (by have:=mR 20 t;rw[show ((20:Nat):Int)=20 from rfl,u]at this;exact this);have f:=D (o.ne h);have c:=D h.lt';have g:Hid (q<w.heap.size):=D (br o).1
 obtain⟨W,hW,H⟩:∃W,w.alloc (.cells kZ 59)=W∧Hid (Mk kX B w p [(q,#[.pointer (I ⟨p,0,J⟩),.int .i64 e],183)] x w.heap.size [.int .i64 0,.int .i64 0,.int .i64 0,.int .i64 0,.int .i64 0,.int .i64 0,.slice J 0 0,.slice J 0 0,.slice J 0 0] 59 W):=⟨_,rfl,D ⟨h.keep ((aD _ _).alloc (G _) _) c.o s,al _ _,fun r d=>by
   obtain rfl:=af.1 d
   exact⟨by show(w.alloc _).heap[q]?=_;rw[ed _ _ _ g.o];exact o,f.o,lZ g.o⟩,.alloc _ _ _,G _,c.o,s⟩⟩
 have l:=D s;have HW:=D hW;clear h o s hW v z E F N Q u
 go_enter func142,ntmps142
 go_upto_region 1 with fail
 rw[HW.o];have g0:=(H.o.look (af.2 rfl)).1;go_upto_region 2 with fail
 go_cut[4] (fun u4 wc=>∃bx,u4=.pointer (I ⟨bx,0,J⟩)∧w.heap.size<bx∧Hid (Mk kX B w p [(w.heap.size,kZ,59),(q,#[.pointer (I ⟨p,0,J⟩),.int .i64 e],183)] x2 bx (TI i j) 59 wc))
 case first=>
  go_wp2_with (first
   | ((go_at_call 144;refine(Jq _ q p e _ _ _ H.o.rd (H.o.fZ _ (af.2 rfl)).1 E1.o).mono ?_);rintro en w9 ⟨rfl,k9,b9⟩;have H:=D (H.o.call k9.o b9.o))
   | ((go_at_call 63;refine(fu _ p _ _ _ H.o.rd E2.o).mono ?_);rintro en w9 ⟨rfl,k9,b9⟩;have H:=D (H.o.call k9.o b9.o)))
  have S:=D (Mk.start (K:=kX) H.o.rd H.o.but c.o l.o [(w.heap.size,kZ,59),(q,#[.pointer (I ⟨p,0,J⟩),.int .i64 e],183)] (fun r d=>by
   rcases bg.1 d with rfl | d
   ·exact⟨H.o.blk,by have:=c.o;show w.heap.size≠p;omega⟩
   ·obtain rfl:=af.1 d
    exact⟨(H.o.fZ _ (af.2 rfl)).1,f.o⟩) (TI i j) 59)
  go_meet
  case rel=>exact⟨_,rfl,(br H.o.blk).1,S⟩
 case rest=>
  obtain⟨bx,rfl,m,H⟩:=hcut;have n:=D m;clear m g0;go_step;go_step
  go_cut[5] (fun u5 wd=>∃b,u5=.pointer (I ⟨b,0,J⟩)∧bx<b∧Hid (Mk kX B w p [(w.heap.size,kZ,59),(q,#[.pointer (I ⟨p,0,J⟩),.int .i64 e],183),(bx,(yd i j),59)] t b (Pr C ep L P) 38 wd))
  case first=>
   go_wp2_with ((go_at_call 63;refine(fu _ p _ _ _ H.o.rd (by first | exact E3.o | exact E4.o | exact E5.o | exact E6.o)).mono ?_);rintro en w9 ⟨rfl,k9,b9⟩;have H:=D (H.o.call k9.o b9.o))
   have S:=D (Mk.start (K:=kX) H.o.rd H.o.but c.o l.o [(w.heap.size,kZ,59),(q,#[.pointer (I ⟨p,0,J⟩),.int .i64 e],183),(bx,(yd i j),59)] (fun r d=>by
    rcases bg.1 d with rfl | d
    ·exact⟨(H.o.fZ _ (aY ..)).1,(H.o.fZ _ (aY ..)).2.1⟩
    rcases bg.1 d with rfl | d
    ·exact⟨(H.o.fZ _ (aE _ (af.2 rfl))).1,f.o⟩
    ·obtain rfl:=af.1 d
     exact⟨H.o.blk,by have:=c.o;have:=n.o;show bx≠p;omega⟩) (Pr C ep L P) 38)
   go_meet
   case rel=>exact⟨_,rfl,(br H.o.blk).1,S⟩
  case rest=>
   obtain⟨b,rfl,T,H⟩:=hcut;go_step;exact Qc _ _ _ _ _ _ _ x t k b0 i j C ep L P HM.o f.o g.o ⟨T,n.o⟩ E7 R H _ rfl
def wL(B:Nat)(w:V)(q p:Nat)(e K:Int)(x:X)(a:V):Prop:=
 ∃(c1 c2 g h i j k1 k2 k3 k4 k5 k l m n o r:Int)(s t u v y z d:Option aB)(C E wn F on H L sc c N uu P f:Nat)(b:List hJ),a.heap[w.heap.size]?=I (.cells (iz K c1 c2 g h i s C E j k1 k2 k3 k4 k5 t wn F u on H k l m n o r v L sc y c N z uu P d b.length f) 105 (0,0))∧a.heap[w.heap.size+1]?=I (.cells dF 105 (0,0))∧Hid (fy B a p (cN K x).2)∧Hid (jT a q p (gg e (cN K x).1.1))∧Hid (gK p q w a)∧
  Hid (cJ a (w.heap.size+2) (.slice d b.length f) b)∧(b=[]∨(cN K x).1.1=b∧b.length≤20)∧uu=(cN K x).1.2∧c1=(aU x).1
def Gq(B:Nat)(w:V)(q p:Nat)(e K:Int)(x:X)(g:de)(b:V):Prop:=
 ∃(c1 c2 h i j k k1 k2 k3 k4 k5 l m n o r s:Int)(t u v y z C d:Option aB)(E F wn H on L N sc c P uu Q f:Nat)(a:List hJ),g=.returned (.agg (iz K c1 c2 h i j t E F k k1 k2 k3 k4 k5 u wn H v on L l m n o r s y N sc z c P C uu Q d a.length f))∧Hid (fy B b p (cN K x).2)∧Hid (jT b q p (gg e (cN K x).1.1))∧Hid (gK p q w b)∧
  Hid (cJ b w.heap.size (.slice d a.length f) a)∧(a=[]∨(cN K x).1.1=a∧a.length≤20)∧uu=(cN K x).1.2∧c1=(aU x).1
def wL.of{B:Nat}{w c:V}{q p:Nat}{e K:Int}{x z:X}(c1 c2 d f g h k1 k2 k3 k4 k5 i j k l m n:Int)(o r s t u v y:Option aB)(C E wn F on L N sc a P uu Q zc:Nat)(R:List hJ){cs:List Z}(H:Mk kX B w p [(w.heap.size+1,dF,105),(q,#[.pointer (I ⟨p,0,J⟩),.int .i64 e],183)] z w.heap.size cs 105 c)(b:cs= (MQ K c1 c2 d f g o C E h k1 k2 k3 k4 k5 r wn F s on L i j k l m n t N sc u a P v uu Q y R.length zc))(S:R=[])(T:y=J∧zc=0)(W:(cN K x).2=z)(ho:(cN K x).1.1=[])(hu:uu=(cN K x).1.2)(hc:c1=(aU x).1):wL B w q p e K x c:=by
 subst b;subst S;obtain⟨rfl,rfl⟩:=T;refine⟨c1,c2,d,f,g,h,k1,k2,k3,k4,k5,i,j,k,l,m,n,o,r,s,t,u,v,J,C,E,wn,F,on,L,N,sc,a,P,uu,Q,0,[],H.blk,(H.fZ _ (aY ..)).1,by rw[W];exact H.rd,by rw[ho];exact(H.fZ _ (aE _ (af.2 rfl))).1,H.but.two,cJ.nil _ _,.inl rfl,hu,hc⟩
def Lv{B:Nat}(w:V)(q p:Nat)(e K:Int)(x:X)(h:fy B w p x)(hq:jT w q p e)(hB:B≤w.heap.size):
  ar M 81 #[.pointer (I ⟨q,0,J⟩),.agg (Ce K)] w (Gq B w q p e K x):=by
 have D0:∀(fn:Fn)(first cap:Array Z)(w:V),(dn fn first cap).run M w=.ok (.func fn first cap) w:=fun _ _ _ _=>rfl
 obtain⟨L,x1,e1⟩:∃a y,aU x=(a,y):=⟨_,_,rfl⟩;have N:=D e1;have x0:=D (hq.ne h);have b:=D h.lt';have c:Hid (q<w.heap.size):=D (br hq).1;have j0:=D hB
 obtain⟨W,hW,H⟩:∃W,(w.alloc (.cells (Ce K) 105)).alloc (.cells dF 105)=W∧Hid (Mk kX B w p [(w.heap.size+1,dF,105),(q,#[.pointer (I ⟨p,0,J⟩),.int .i64 e],183)] x w.heap.size (AK K) 105 W):=by
  have k0:ae w.heap.size w ((w.alloc (.cells (Ce K) 105)).alloc (.cells dF 105)):=((aD _ _).alloc (G _) _).alloc bW _;refine⟨_,rfl,D ⟨h.keep k0 b.o hB,ce _ _ _,fun r o=>?_,.of_below k0,G _,b.o,hB⟩⟩;rcases bg.1 o with rfl | o
  ·exact⟨bO _ _ _,by have:=b.o;show w.heap.size+1≠p;omega,by show w.heap.size+1≠w.heap.size;omega⟩
  ·obtain rfl:=af.1 o
   exact⟨by show(World.alloc _ _).heap[q]?=_;rw[k0.block _ c.o];exact hq,x0.o,lZ c.o⟩
 have HW:=D hW;clear h hq hB e1 hW
 go_enter func81,ntmps81
 go_upto_region 1 with fail
 rw[HW.o];have g0:=(H.o.look (aE _ (af.2 rfl))).1;go_upto_region 3 with((go_at_call 63;refine(fu _ p _ _ _ H.o.rd N.o).mono ?_);rintro en Q ⟨rfl,k9,b9⟩;have H:=D (H.o.call k9.o b9.o);have f:=H.o.frozen;have d:=H.o.has 25 rfl)
 have H:=D (H.o.st 1 (.int .i64 L));obtain⟨F0,hV⟩:∃F0,Q.setCell ⟨w.heap.size,1,J⟩ (.int .i64 L)=F0:=⟨_,rfl⟩;rw[hV]at H;rw[hV];clear hV f d g0 k9 b9;have d0:=H.o.cell 0 rfl;go_upto_block 0 with fail
 clear d0;have y0:Hid (jT F0 q p e):=D (H.o.fZ _ (aE _ (af.2 rfl))).1
 go_cut[] (fun wc=>wL B w q p e K x wc)
 case first=>
  by_cases h1:K=1
  ·subst h1
   have e1:((1:Int)==1)=O:=rfl;have t0:Hid (w.heap.size+2≤F0.heap.size):=D (br (H.o.fZ _ (aY ..)).1).1;go_wp2_with ((go_at_call 129;refine(Ol F0 q p e x1 H.o.rd y0.o (aa H.o.bs H.o.but.size)).mono ?_);rintro en k ⟨k1,k2,k3,k4,k5,wa,oa,wn,ec,oc,l,rfl,hl,e0,k10,T,b10,f0⟩;have h0:=D hl;obtain⟨on,l0⟩:∃on,l.length=on:=⟨_,rfl⟩;rw[l0];have E0:=D l0;clear hl e0 f0 l0;have u:=D (b10.o.dQ H.o.blk (by have:=b.o;omega) (by have:=c.o;omega));have m0:=D (b10.o.dQ (H.o.fZ _ (aY ..)).1 (by have:=b.o;show w.heap.size+1≠p;omega) (by have:=c.o;show w.heap.size+1≠q;omega));have f:=aq u.o;have d:∀i,i<25→k.cell? ⟨w.heap.size,i,J⟩=I ((#[.int .i64 1,.int .i64 L,.int .i64 0,.int .i64 0,.int .i64 0,.int .i64 0,.slice J 0 0,.int .i64 0,.int .i64 0,.int .i64 0,.int .i64 0,.int .i64 0,.int .i64 0,.slice J 0 0,.slice J 0 0,.int .i64 0,.int .i64 0,.int .i64 0,.int .i64 0,.int .i64 0,.int .i64 0,.slice J 0 0,.slice J 0 0,.slice J 0 0,.slice J 0 0]:Array Z).getD i undef):=(fun i hi=>by simp only[an,u.o];simp[Array.getD,hi]))
   obtain⟨E,g⟩:∃E,(((((((k.setCell ⟨w.heap.size,8,J⟩ (.int .i64 k1)).setCell ⟨w.heap.size,9,J⟩ (.int .i64 k2)).setCell ⟨w.heap.size,10,J⟩ (.int .i64 k3)).setCell ⟨w.heap.size,11,J⟩ (.int .i64 k4)).setCell ⟨w.heap.size,12,J⟩ (.int .i64 k5)).setCell ⟨w.heap.size,13,J⟩ (.slice wa wn ec)).setCell ⟨w.heap.size,14,J⟩ (.slice oa on oc))=E:=⟨_,rfl⟩
   have m:ae w.heap.size k E:=by
    rw[←g]
    repeat (apply Below.puts)
    exact aD _ _
   have n0:Hid (E.heap[w.heap.size]?=I (.cells #[.int .i64 1,.int .i64 L,.int .i64 0,.int .i64 0,.int .i64 0,.int .i64 0,.slice J 0 0,.int .i64 0,.int .i64 k1,.int .i64 k2,.int .i64 k3,.int .i64 k4,.int .i64 k5,.slice wa wn ec,.slice oa on oc,.int .i64 0,.int .i64 0,.int .i64 0,.int .i64 0,.int .i64 0,.int .i64 0,.slice J 0 0,.slice J 0 0,.slice J 0 0,.slice J 0 0] 105 (0,0))):=D (by rw[←g];simp[aV,aR,u.o]);have o0:Hid (E.heap[w.heap.size+1]?=I (.cells dF 105 (0,0))):=D (by rw[←g];simp[aV,aR,m0.o]);have p0:=D (kX.keep k10.o m b.o j0.o);have q0:=D (T.o.keep m c.o);have r0:Hid (gK p q w E):=D ((H.o.but.two.trans b10.o).then m (G _));rw[g];clear g m f d;go_meet
   case rel=>
    have j:Hid (cN 1 x=(((kP x1).1.ops,0),(kP x1).2)):=D (by simp only[cN,if_pos,N.o]);exact⟨L,0,0,0,0,0,k1,k2,k3,k4,k5,0,0,0,0,0,0,J,wa,oa,J,J,J,J,0,0,wn,ec,on,oc,0,0,0,0,0,0,0,[],n0.o,o0.o,by rw[j.o];exact p0,by rw[j.o,h0.o];exact q0,r0,D (cJ.nil _ _),.inl rfl,by rw[j.o],by rw[N.o]⟩
  by_cases h2:K=2
  ·subst h2
   have e1:((2:Int)==1)=U:=rfl;have e2:((2:Int)==2)=O:=rfl;obtain⟨a1,x2,F⟩:∃a y,aU x1=(a,y):=⟨_,_,rfl⟩;obtain⟨a2,R,t2⟩:∃a y,aU x2=(a,y):=⟨_,_,rfl⟩;have T1:=D F;have T2:=D t2;clear F t2;go_upto_region 8 with(first | ((go_at_call 63;refine(fu _ p _ _ _ H.o.rd T1.o).mono ?_);rintro en Q ⟨rfl,k9,b9⟩;have H:=D (H.o.call k9.o b9.o);have f:=H.o.frozen;have d:=H.o.has 25 rfl) | ((go_at_call 63;refine(fu _ p _ _ _ H.o.rd T2.o).mono ?_);rintro en Q ⟨rfl,k9,b9⟩;have H:=D (H.o.call k9.o b9.o);have f:=H.o.frozen;have d:=H.o.has 25 rfl))
   have H:=D ((H.o.st 2 (.int .i64 a1)).st 4 (.int .i64 a2));obtain⟨G0,hU⟩:∃G0,(Q.setCell ⟨w.heap.size,2,J⟩ (.int .i64 a1)).setCell ⟨w.heap.size,4,J⟩ (.int .i64 a2)=G0:=⟨_,rfl⟩;rw[hU]at H;rw[hU];clear hU f d k9 b9;have i0:Hid (jT G0 q p e):=D (H.o.fZ _ (aE _ (af.2 rfl))).1;go_wp2_with ((go_at_call 142;refine(Jr G0 q p e R H.o.rd i0.o (aa H.o.bs H.o.but.size)).mono ?_);rintro en k ⟨r1,r2,r3,r4,r5,r6,sa,ia,ua,sn,sc,P,ic,uu,uc,rfl,hu,k10,b10⟩;have HU:=D hu;clear hu;have H:=D (H.o.call k10.o b10.o);have f:=H.o.frozen;have d:=H.o.has 25 rfl)
   go_meet
   case rel=>
    have j:Hid (cN 2 x=(([],(ei R).1.used.length),(ei R).2)):=D (by
     simp only[cN,N.o,T1.o,T2.o];rfl)
    refine wL.of L a1 0 a2 0 0 0 0 0 0 0 r1 r2 r3 r4 r5 r6 J J J sa ia ua J 0 0 0 0 0 0 sn sc P ic uu uc 0 [] (((((((((H.o.st 15 _).st 16 _).st 17 _).st 18 _).st 19 _).st 20 _).st 21 _).st 22 _).st 23 _) rfl rfl ⟨rfl,rfl⟩ (by rw[j.o]) (by rw[j.o]) (by rw[j.o];exact HU.o.symm) (by rw[N.o])
  by_cases h4:K=4
  ·subst h4
   have e1:((4:Int)==1)=U:=rfl;have e2:((4:Int)==2)=U:=rfl;have e3:((4:Int)==3)=U:=rfl;have e4:((4:Int)==4)=O:=rfl;obtain⟨a1,x2,F⟩:∃a y,aU x1=(a,y):=⟨_,_,rfl⟩;obtain⟨a2,R,t2⟩:∃a y,aU x2=(a,y):=⟨_,_,rfl⟩;have T1:=D F;have T2:=D t2;clear F t2;go_upto_region 20 with(first | ((go_at_call 63;refine(fu _ p _ _ _ H.o.rd T1.o).mono ?_);rintro en Q ⟨rfl,k9,b9⟩;have H:=D (H.o.call k9.o b9.o);have f:=H.o.frozen;have d:=H.o.has 25 rfl) | ((go_at_call 63;refine(fu _ p _ _ _ H.o.rd T2.o).mono ?_);rintro en Q ⟨rfl,k9,b9⟩;have H:=D (H.o.call k9.o b9.o);have f:=H.o.frozen;have d:=H.o.has 25 rfl))
   have H:=D ((H.o.st 4 (.int .i64 a1)).st 5 (.int .i64 a2));obtain⟨G0,hU⟩:∃G0,(Q.setCell ⟨w.heap.size,4,J⟩ (.int .i64 a1)).setCell ⟨w.heap.size,5,J⟩ (.int .i64 a2)=G0:=⟨_,rfl⟩;rw[hU]at H;rw[hU];clear hU f d k9 b9;have i0:Hid (jT G0 q p e):=D (H.o.fZ _ (aE _ (af.2 rfl))).1;have t0:Hid (w.heap.size+2≤G0.heap.size):=D (br (H.o.fZ _ (aY ..)).1).1;go_wp2_with ((go_at_call 143;refine(Gp G0 q p e R H.o.rd i0.o (aa H.o.bs H.o.but.size)).mono ?_);rintro en k ⟨l2,za,zc,rfl,hl,e0,k10,T,b10,f0⟩;have h0:=D hl;have z0:=D (cJ.to e0 t0.o);have v0:=D f0;clear hl e0 f0;have u:=D (b10.o.dQ H.o.blk (by have:=b.o;omega) (by have:=c.o;omega));have m0:=D (b10.o.dQ (H.o.fZ _ (aY ..)).1 (by have:=b.o;show w.heap.size+1≠p;omega) (by have:=c.o;show w.heap.size+1≠q;omega));have f:=aq u.o;have d:∀i,i<25→k.cell? ⟨w.heap.size,i,J⟩=I ((#[.int .i64 4,.int .i64 L,.int .i64 0,.int .i64 0,.int .i64 a1,.int .i64 a2,.slice J 0 0,.int .i64 0,.int .i64 0,.int .i64 0,.int .i64 0,.int .i64 0,.int .i64 0,.slice J 0 0,.slice J 0 0,.int .i64 0,.int .i64 0,.int .i64 0,.int .i64 0,.int .i64 0,.int .i64 0,.slice J 0 0,.slice J 0 0,.slice J 0 0,.slice J 0 0]:Array Z).getD i undef):=(fun i hi=>by simp only[an,u.o];simp[Array.getD,hi]))
   obtain⟨E,g⟩:∃E,(k.setCell ⟨w.heap.size,24,J⟩ (.slice za l2.length zc))=E:=⟨_,rfl⟩
   have m:ae w.heap.size k E:=by
    rw[←g]
    repeat (apply Below.puts)
    exact aD _ _
   have n0:Hid (E.heap[w.heap.size]?=I (.cells #[.int .i64 4,.int .i64 L,.int .i64 0,.int .i64 0,.int .i64 a1,.int .i64 a2,.slice J 0 0,.int .i64 0,.int .i64 0,.int .i64 0,.int .i64 0,.int .i64 0,.int .i64 0,.slice J 0 0,.slice J 0 0,.int .i64 0,.int .i64 0,.int .i64 0,.int .i64 0,.int .i64 0,.int .i64 0,.slice J 0 0,.slice J 0 0,.slice J 0 0,.slice za l2.length zc] 105 (0,0))):=D (by rw[←g];simp[aV,aR,u.o]);have o0:Hid (E.heap[w.heap.size+1]?=I (.cells dF 105 (0,0))):=D (by rw[←g];simp[aV,aR,m0.o]);have p0:=D (kX.keep k10.o m b.o j0.o);have q0:=D (T.o.keep m c.o);have r0:Hid (gK p q w E):=D ((H.o.but.two.trans b10.o).then m (G _));have O2:Hid (cJ E (w.heap.size+2) (.slice za l2.length zc) l2):=D (by rw[←g];exact z0.o.put ⟨w.heap.size,24,J⟩ (by show w.heap.size<w.heap.size+2;omega) _);rw[g];clear g m f d;go_meet
   case rel=>
    have j:Hid (cN 4 x=(((iQ R).1,0),(iQ R).2)):=D (by simp only[cN,N.o,T1.o,T2.o];rfl);exact⟨L,0,0,a1,a2,0,0,0,0,0,0,0,0,0,0,0,0,J,J,J,J,J,J,za,0,0,0,0,0,0,0,0,0,0,0,0,zc,l2,n0.o,o0.o,by rw[j.o];exact p0,by rw[j.o,h0.o];exact q0,r0,O2,.inr ⟨by rw[j.o];exact h0.o,v0.o⟩,by rw[j.o],by rw[N.o]⟩
  by_cases h5:K=5
  ·subst h5
   have e1:((5:Int)==1)=U:=rfl;have e2:((5:Int)==2)=U:=rfl;have e3:((5:Int)==3)=U:=rfl;have e4:((5:Int)==4)=U:=rfl;have e5:((5:Int)==5)=O:=rfl;obtain⟨a1,x2,F⟩:∃a y,aU x1=(a,y):=⟨_,_,rfl⟩;obtain⟨a2,R,t2⟩:∃a y,lR x2=(a,y):=⟨_,_,rfl⟩;have T1:=D F;have T2:=D t2;clear F t2;go_wp2_with (first | ((go_at_call 63;refine(fu _ p _ _ _ H.o.rd T1.o).mono ?_);rintro en Q ⟨rfl,k9,b9⟩;have H:=D (H.o.call k9.o b9.o);have f:=H.o.frozen;have d:=H.o.has 25 rfl) | ((go_at_call 144;refine(Jq _ q p e _ _ _ H.o.rd (H.o.fZ _ (aE _ (af.2 rfl))).1 T2.o).mono ?_);rintro en Q ⟨rfl,k9,b9⟩;have H:=D (H.o.call k9.o b9.o);have f:=H.o.frozen;have d:=H.o.has 25 rfl))
   go_meet
   case rel=>
    have j:Hid (cN 5 x=(([],0),R)):=D (by
     simp only[cN,N.o,T1.o,T2.o];rfl)
    refine wL.of L a1 0 0 0 a2 0 0 0 0 0 0 0 0 0 0 0 J J J J J J J 0 0 0 0 0 0 0 0 0 0 0 0 0 [] ((H.o.st 2 _).st 7 _) rfl rfl ⟨rfl,rfl⟩ (by rw[j.o]) (by rw[j.o]) (by rw[j.o]) (by rw[N.o])
  by_cases h3:K=3
  ·subst h3
   have e1:((3:Int)==1)=U:=rfl;have e2:((3:Int)==2)=U:=rfl;have e3:((3:Int)==3)=O:=rfl;obtain⟨a1,x2,F⟩:∃a y,aU x1=(a,y):=⟨_,_,rfl⟩;obtain⟨a2,R,t2⟩:∃a y,aU x2=(a,y):=⟨_,_,rfl⟩;have T1:=D F;have T2:=D t2;clear F t2;go_upto_region 11 with(first | ((go_at_call 63;refine(fu _ p _ _ _ H.o.rd T1.o).mono ?_);rintro en Q ⟨rfl,k9,b9⟩;have H:=D (H.o.call k9.o b9.o);have f:=H.o.frozen;have d:=H.o.has 25 rfl) | ((go_at_call 63;refine(fu _ p _ _ _ H.o.rd T2.o).mono ?_);rintro en Q ⟨rfl,k9,b9⟩;have H:=D (H.o.call k9.o b9.o);have f:=H.o.frozen;have d:=H.o.has 25 rfl))
   have H:=D ((H.o.st 3 (.int .i64 a1)).st 4 (.int .i64 a2));obtain⟨G0,hU⟩:∃G0,(Q.setCell ⟨w.heap.size,3,J⟩ (.int .i64 a1)).setCell ⟨w.heap.size,4,J⟩ (.int .i64 a2)=G0:=⟨_,rfl⟩;rw[hU]at H;rw[hU];clear hU f d k9 b9;have i0:Hid (jT G0 q p e):=D (H.o.fZ _ (aE _ (af.2 rfl))).1;go_wp2
   go_loopw[41] (fun vi wr=>∃(i:Nat)(l:List Bool)(r:List Int)(z:X)(ao:Option aB)(cp:Nat),vi=.int .i64 i∧i≤3∧l.length=i∧Hid (fA oP 3 R i r z)∧Hid (Mk kX B w p [(w.heap.size+1,dF,105),(q,#[.pointer (I ⟨p,0,J⟩),.int .i64 e],183)] z w.heap.size (TD 3 L a1 a2 ao i cp) 105 wr)∧Hid (dz.own wr (w.heap.size+2) (.slice ao i cp) l)) (fun vi _=>3-(bp vi).toNat)
   case atStart=>exact⟨0,[],[],R,J,0,rfl,by omega,rfl,D (fA.start _ _ _),H,D (EL.nil _ _ _)⟩
   case round=>
    obtain⟨i,l,r,z,ao,cp,rfl,w0,hl,HS,HZ,HO⟩:=hrel;have HL:=D hl;clear hl;by_cases hi:i<3
    ·have e4:decide ((i:Int)<3)=O:=by rw[decide_eq_true_eq];omega
     have C:=D hi;obtain⟨n,z1,F⟩:∃a y,aU z=(a,y):=⟨_,_,rfl⟩;have T3:=D F;clear hi w0 F;go_upto_region 14 with((go_at_call 63;refine(fu wr p _ _ _ HZ.o.rd T3.o).mono ?_);rintro en w8 ⟨rfl,k8,b8⟩)
     have S:=D (HZ.o.call k8.o b8.o);have OV:=D (HO.o.but b8.o (by have:=b.o;omega));by_cases a0:n=0
     ·subst a0
      have b0:Hid (oP z=(0,z1)):=D (by simp only[oP,T3.o];rfl);have g6:=S.o.cell 6 rfl;have e5:((0:Int) != 0)=U:=rfl;have e6:((0:Int)==1)=U:=rfl
      go_upto_region 17 with(first
       | ((with_reducible refine aT 61 ?_);refine dz.iW rfl _ _ rfl (w.heap.size+2) (.slice ao i cp) l rfl OV.o U _ rfl _ rfl rfl i HL.o (by have:=C.o;omega) ((br (S.o.fZ _ (aY ..)).1).1) ?_;intro a7 t w7 o7 h7 g7;clear g7;have H7:=D (S.o.below h7 A (fun r o=>by
           rcases bg.1 o with rfl | o
           ·exact bu _
           ·obtain rfl:=af.1 o
            have:=c.o;show q<w.heap.size+2;omega));have f7:=H7.o.frozen 6;have t7:=H7.o.cell 6 rfl;have o7:=D o7))
      have H9:=D (H7.o.st 6 (.slice a7 (i+1) t));have o9:=D (o7.o.put ⟨w.heap.size,6,J⟩ (by show w.heap.size<w.heap.size+2;omega) (.slice a7 (i+1) t));have e9:bi ((i:Int)+1)=(i:Int)+1:=ag _ (by have:=C.o;omega);have s:=D (HS.o.step C.o);rw[b0.o]at s;clear f7 t7 h7;go_wp2;go_round
      case rel=>exact⟨i+1,l++ [U],_,_,a7,t,by go_num,C.o,by simp[HL.o],s,H9,o9⟩
      case measure=>exact bA C.o _ eT
     ·by_cases c0:n=1
      ·subst c0
       have b0:Hid (oP z=(1,z1)):=D (by simp only[oP,T3.o];rfl);have g6:=S.o.cell 6 rfl;have e5:((1:Int) != 0)=O:=rfl;have e6:((1:Int) != 1)=U:=rfl;have e7:((1:Int)==1)=O:=rfl;clear a0
       go_upto_region 17 with(first
        | ((with_reducible refine aT 61 ?_);refine dz.iW rfl _ _ rfl (w.heap.size+2) (.slice ao i cp) l rfl OV.o O _ rfl _ rfl rfl i HL.o (by have:=C.o;omega) ((br (S.o.fZ _ (aY ..)).1).1) ?_;intro a7 t w7 o7 h7 g7;clear g7;have H7:=D (S.o.below h7 A (fun r o=>by
            rcases bg.1 o with rfl | o
            ·exact bu _
            ·obtain rfl:=af.1 o
             have:=c.o;show q<w.heap.size+2;omega));have f7:=H7.o.frozen 6;have t7:=H7.o.cell 6 rfl;have o7:=D o7))
       have H9:=D (H7.o.st 6 (.slice a7 (i+1) t));have o9:=D (o7.o.put ⟨w.heap.size,6,J⟩ (by show w.heap.size<w.heap.size+2;omega) (.slice a7 (i+1) t));have e9:bi ((i:Int)+1)=(i:Int)+1:=ag _ (by have:=C.o;omega);have s:=D (HS.o.step C.o);rw[b0.o]at s;clear f7 t7 h7;go_wp2;go_round
       case rel=>exact⟨i+1,l++ [O],_,_,a7,t,by go_num,C.o,by simp[HL.o],s,H9,o9⟩
       case measure=>exact bA C.o _ eT
      ·have b0:Hid (oP z=(n,z1.fail 10)):=D (by simp only[oP,T3.o];rw[if_pos ⟨a0,c0⟩])
       have e5:(n != 0)=O:=by simpa using a0
       have e6:(n != 1)=O:=by simpa using c0
       have e7:(n==1)=U:=by simpa using c0
       have g0:=(S.o.look (aE _ (af.2 rfl))).1;clear a0 c0;go_upto_region 16 with((go_at_call 80;refine(rM w8 p z1 10 aC k8.o).mono ?_);rintro en k ⟨rfl,k10,b10⟩;have S:=D (S.o.call k10.o b10.o);have OV:=D (OV.o.but b10.o (by have:=b.o;omega)))
       have g6:=S.o.cell 6 rfl;clear g0
       go_upto_region 17 with(first
        | ((with_reducible refine aT 61 ?_);refine dz.iW rfl _ _ rfl (w.heap.size+2) (.slice ao i cp) l rfl OV.o U _ rfl _ rfl rfl i HL.o (by have:=C.o;omega) ((br (S.o.fZ _ (aY ..)).1).1) ?_;intro a7 t w7 o7 h7 g7;clear g7;have H7:=D (S.o.below h7 A (fun r o=>by
            rcases bg.1 o with rfl | o
            ·exact bu _
            ·obtain rfl:=af.1 o
             have:=c.o;show q<w.heap.size+2;omega));have f7:=H7.o.frozen 6;have t7:=H7.o.cell 6 rfl;have o7:=D o7))
       have H9:=D (H7.o.st 6 (.slice a7 (i+1) t));have o9:=D (o7.o.put ⟨w.heap.size,6,J⟩ (by show w.heap.size<w.heap.size+2;omega) (.slice a7 (i+1) t));have e9:bi ((i:Int)+1)=(i:Int)+1:=ag _ (by have:=C.o;omega);have s:=D (HS.o.step C.o);rw[b0.o]at s;clear f7 t7 h7;go_wp2;go_round
       case rel=>exact⟨i+1,l++ [U],_,_,a7,t,by go_num,C.o,by simp[HL.o],s,H9,o9⟩
       case measure=>exact bA C.o _ eT
    ·have e4:decide ((i:Int)<3)=U:=by rw[decide_eq_false_iff_not];omega
     have A0:i=3:=A
     subst A0
     have j:Hid (cN 3 x=(([],0),z)):=D (by
      simp only[cN,N.o,T1.o,T2.o]
      rw[HS.o.done];rfl)
     clear hi w0;go_wp2;go_meet
     case rel=>exact wL.of L 0 a1 a2 0 0 0 0 0 0 0 0 0 0 0 0 0 ao J J J J J J 3 cp 0 0 0 0 0 0 0 0 0 0 0 [] HZ.o rfl rfl ⟨rfl,rfl⟩ (by rw[j.o]) (by rw[j.o]) (by rw[j.o]) (by rw[N.o])
  have e1:(K==1)=U:=by simpa using h1
  have e2:(K==2)=U:=by simpa using h2
  have e3:(K==3)=U:=by simpa using h3
  have e4:(K==4)=U:=by simpa using h4
  have e5:(K==5)=U:=by simpa using h5
  have j:Hid (cN K x=(([],0),x1)):=D (by
   simp only[cN,N.o];rw[if_neg h1,if_neg h2,if_neg h3,if_neg h4,if_neg h5])
  clear h1 h2 h3 h4 h5;go_wp2;go_meet
  case rel=>exact wL.of L 0 0 0 0 0 0 0 0 0 0 0 0 0 0 0 0 J J J J J J J 0 0 0 0 0 0 0 0 0 0 0 0 0 [] H.o rfl rfl ⟨rfl,rfl⟩ (by rw[j.o]) (by rw[j.o]) (by rw[j.o]) (by rw[N.o])
 case rest=>
  obtain⟨c1,c2,c3,c4,c5,t,k1,k2,k3,k4,k5,r1,r2,r3,r4,r5,r6,ba,wa,oa,sa,ia,ua,za,bn,bc,wn,ec,on,oc,sn,sc,P,ic,uu,uc,zc,l2,hk,o,HX,B0,C0,HO,h4,hu,hc⟩:=hcut;have HK:=D hk;have HR:=D o;have H4:=D h4;have HU:=D hu;have HC:=D hc;clear hk o h4 hu hc
  go_wp2_with (first
   | ((with_reducible refine aT 83 ?_);refine wpList_load_row rfl _ (.tmp 3) rfl w.heap.size rfl _ _ (0,0) _ HK.o underlying105 rfl aj ?_)
   | (refine aJ rfl _ (.tmp 4) (.tmp 83) rfl (w.heap.size+1) _ rfl rfl _ _ HR.o aj rfl (by simp[ap]) ?_))
  have s0:Hid (ae w.heap.size wc (cV wc (w.heap.size+1) (iz K c1 c2 c3 c4 c5 ba bn bc t k1 k2 k3 k4 k5 wa wn ec oa on oc r1 r2 r3 r4 r5 r6 sa sn sc ia P ic ua uu uc za l2.length zc))):=D (dh (aD _ _) (dW _) _);refine au (v:=.agg (iz K c1 c2 c3 c4 c5 ba bn bc t k1 k2 k3 k4 k5 wa wn ec oa on oc r1 r2 r3 r4 r5 r6 sa sn sc ia P ic ua uu uc za l2.length zc)) (eb results81 _ _ (w.heap.size+1) _ (iz K c1 c2 c3 c4 c5 ba bn bc t k1 k2 k3 k4 k5 wa wn ec oa on oc r1 r2 r3 r4 r5 r6 sa sn sc ia P ic ua uu uc za l2.length zc) (0,0) _ rfl (aO _ _ _ _ _ _ HR.o) underlying105 rfl aj) rfl (show Gq _ _ _ _ _ _ _ _ _ from⟨c1,c2,c3,c4,c5,t,k1,k2,k3,k4,k5,r1,r2,r3,r4,r5,r6,ba,wa,oa,sa,ia,ua,za,bn,bc,wn,ec,on,oc,sn,sc,P,ic,uu,uc,zc,l2,rfl,kX.keep HX.o s0.o b.o j0.o,B0.o.keep s0.o c.o,C0.o.then s0.o (G _),(HO.o.rows (w.heap.size+1) rfl (bu _)).to A,H4.o,HU.o,HC.o⟩)
def lF(w:V)(e:Int)(f:de)(w':V):Prop:=
 ∃(K:Int)(c1 c2 g h i j k1 k2 k3 k4 k5 k l m n o p:Int)(q r s t u v c:Option aB)(x y wn z on B C sc b E uu F d:Nat)(a:List hJ),f=.returned (.tuple #[.agg (iz K c1 c2 g h i q x y j k1 k2 k3 k4 k5 r wn z s on B k l m n o p t C sc u b E v uu F c a.length d),.int .i64 e])∧ae w.heap.size w w'∧Hid (cJ w' w.heap.size (.slice c a.length d) a)∧a.length≤20∧iq a
def He{B:Nat}(w wc:V)(q p b:Nat)(m:X)(d e:Int)(K:Int)(c1 c2 x y z C k1 k2 k3 k4 k5 F H L N P Q:Int)(R S T W ia n o:Option aB)(bn bc wn ec on oc sn sc f ic uu r zc:Nat)(g:List hJ){u0 u1 u3 u4 u5 u8 u9 u10 u11 u12 u13 u14 u15 u16 u17 u18 u19 u20 u21 u22 u23 u24 u25 u26 u27 u28 u29 u30 u31 u32 u33 u34 u35 u36 u37 u38 u39 u40 u41 u42 u43 u44 u45 u46 u47 u48 u49 u50 u51 u52 u53 u54 u55 u56 u57 u58 u59 u60 u61 u62 u63 u64 u65 u66 u67 u68 u69 u70 u71 u72:Z}(hR:wc.heap[w.heap.size]?=I (.cells dF 105 (0,0)))(hK:wc.heap[b]?=I (.cells (iz K c1 c2 x y z R bn bc C k1 k2 k3 k4 k5 S wn ec T on oc F H L N P Q W sn sc ia f ic n uu r o g.length zc) 105 (0,0)))
  (hX:fy B wc p m) (hq:jT wc q p d) (hB:ae w.heap.size w wc) (hO:cJ wc (w.heap.size+1) (.slice o g.length zc) g) (s:g.length≤20∧iq g) (hP:e=if mv m≠0 then mv m else if 100<uu then 4 else d):
  ∀c,f35.body.bind (spine 6)=I c→im M c (gW M f35 (lF w e)) ⟨eS (u0::u1:: .pointer (I ⟨w.heap.size,0,J⟩)::u3::u4::u5:: .pointer (I ⟨q,0,J⟩):: .pointer (I ⟨b,0,J⟩)::u8::u9::u10::u11::u12::u13::u14::u15::u16::u17::u18::u19::u20::u21::u22::u23::u24::u25::u26::u27::u28::u29::u30::u31::u32::u33::u34::u35::u36::u37::u38::u39::u40::u41::u42::u43::u44::u45::u46::u47::u48::u49::u50::u51::u52::u53::u54::u55::u56::u57::u58::u59::u60::u61::u62::u63::u64::u65::u66::u67::u68::u69::u70::u71::u72:: []),[]⟩ wc:=by
 have i:=D hR;have HK:=D hK;have HX:=D hX;have HQ:=D hq;have a0:=D s;clear s;have HB:=D hB;have HO:=D hO;have HP:=D hP;obtain⟨g0,g1,-⟩:=cS hq;clear hR hK hX hq hB hO hP;refine gE rfl ?_;go_upto_block 0 with((go_at_call 82;refine(Yx wc p m HX.o).mono ?_);rintro en w9 ⟨rfl,t⟩;rw[t];clear t)
 obtain⟨E,hE⟩:∃E,mv m=E:=⟨_,rfl⟩;rw[hE];have HE:=D hE;clear hE;by_cases h0:E=0
 rotate_left
 ·have e1:(E != 0)=O:=by simpa using h0
  have j:Hid (e=E):=D (by rw[HP.o,HE.o,if_pos h0]);clear h0;go_wp2_with (refine aJ rfl _ (.tmp 2) (.tmp 51) rfl w.heap.size _ rfl rfl _ _ i.o aj rfl (by simp[ap]) ?_)
  refine au (v:=.tuple #[.agg dF,.int .i64 E]) (results_cell_tmp (cs:= dF) results35 _ _ w.heap.size _ (0,0) _ rfl (aO _ _ _ _ _ _ i.o) underlying105 rfl aj) rfl (show lF w e _ _ from⟨0,0,0,0,0,0,0,0,0,0,0,0,0,0,0,0,0,0,J,J,J,J,J,J,J,0,0,0,0,0,0,0,0,0,0,0,0,0,[],by rw[j.o]<;>rfl,dh HB.o (G _) _,D (cJ.nil _ _),aw _,fun _ h=>by cases h⟩)
 subst h0;have e1:((0:Int) != 0)=U:=rfl;have b0:wc.cell? ⟨b,23,J⟩=I (.slice n uu r):=by simp only[an,HK.o];rfl
 by_cases hu:100<uu
 ·have e2:decide ((100:Int)<(uu:Int))=O:=by rw[decide_eq_true_eq];omega
  have j:Hid (e=4):=D (by rw[HP.o,HE.o,if_neg bW,if_pos hu]);clear hu;go_wp2_with (refine aJ rfl _ (.tmp 2) (.tmp 60) rfl w.heap.size _ rfl rfl _ _ i.o aj rfl (by simp[ap]) ?_)
  refine au (v:=.tuple #[.agg dF,.int .i64 4]) (results_cell_tmp (cs:= dF) results35 _ _ w.heap.size _ (0,0) _ rfl (aO _ _ _ _ _ _ i.o) underlying105 rfl aj) rfl (show lF w e _ _ from⟨0,0,0,0,0,0,0,0,0,0,0,0,0,0,0,0,0,0,J,J,J,J,J,J,J,0,0,0,0,0,0,0,0,0,0,0,0,0,[],by rw[j.o]<;>rfl,dh HB.o (G _) _,D (cJ.nil _ _),aw _,fun _ h=>by cases h⟩)
 have e2:decide ((100:Int)<(uu:Int))=U:=by rw[decide_eq_false_iff_not];omega
 have j:Hid (e=d):=D (by rw[HP.o,HE.o,if_neg bW,if_neg hu]);clear hu;by_cases h1:d=0
 rotate_left
 ·have e3:(d != 0)=O:=by simpa using h1
  have c0:Hid (q≠w.heap.size):=D (fun hh=>by
   have k:=HQ.o;rw[show jT wc q p d↔wc.heap[q]?=_ from Iff.rfl,hh,i.o]at k;injection k with k;injection k with k _ _
   exact absurd (congrArg Array.size k) bW)
  clear h1;go_upto_region 15 with fail
  refine gJ aj [[0,1,2,3,4,5,6],[0,1,2,3,5,4,6],[0,1,2,5,3,4,6],[0,1,5,2,3,4,6],[0,5,1,2,3,4,6],[1,0,2,3,4,5,6],[1,0,2,3,5,4,6],[1,0,2,5,3,4,6],[1,0,5,2,3,4,6],[1,2,0,3,4,5,6],[1,2,0,3,5,4,6],[1,2,0,5,3,4,6],[1,2,3,0,4,5,6],[1,2,3,0,5,4,6],[1,2,3,4,0,5,6]] aj ?_;intro lo d0;obtain⟨l,a⟩:∃l,wc.drew=l:=⟨_,rfl⟩;have u:Hid (l.heap[w.heap.size]?=I (.cells dF 105 (0,0))):=D (by rw[←a];exact i.o);have e0:Hid (ae w.heap.size w l):=D (by rw[←a];exact HB.o.drew);have hS:l.cell? ⟨q,1,J⟩=I (.int .i64 d):=by rw[←a];exact g1
  have f0:(cV l w.heap.size dF).cell? ⟨q,1,J⟩=I (.int .i64 d):=by rw[cell_setRow_other _ _ _ _ c0.o];exact hS
  rw[a];clear a g0 g1 b0;rcases(by simpa using d0:lo=[0,1,2,3,4,5,6]∨lo=[0,1,2,3,5,4,6]∨lo=[0,1,2,5,3,4,6]∨lo=[0,1,5,2,3,4,6]∨lo=[0,5,1,2,3,4,6]∨lo=[1,0,2,3,4,5,6]∨lo=[1,0,2,3,5,4,6]∨lo=[1,0,2,5,3,4,6]∨lo=[1,0,5,2,3,4,6]∨lo=[1,2,0,3,4,5,6]∨lo=[1,2,0,3,5,4,6]∨lo=[1,2,0,5,3,4,6]∨lo=[1,2,3,0,4,5,6]∨lo=[1,2,3,0,5,4,6]∨lo=[1,2,3,4,0,5,6])with rfl | rfl | rfl | rfl | rfl | rfl | rfl | rfl | rfl | rfl | rfl | rfl | rfl | rfl | rfl
  all_goals (simp only[List.filterMap_cons,List.filterMap_nil,List.getElem?_toArray,List.getElem?_cons_zero,List.getElem?_cons_succ];change wpList _ _ _ [_,_,_,_,_,_,_] _ _)
  all_goals
   go_wp2_with (refine aJ rfl _ (.tmp 2) (.tmp 67) rfl w.heap.size _ rfl rfl _ _ u.o aj rfl (by simp[ap]) ?_)
   refine au (v:=.tuple #[.agg dF,.int .i64 d]) (results_cell_tmp (cs:= dF) results35 _ _ w.heap.size _ (0,0) _ rfl (aO _ _ _ _ _ _ u.o) underlying105 rfl aj) rfl (show lF w e _ _ from⟨0,0,0,0,0,0,0,0,0,0,0,0,0,0,0,0,0,0,J,J,J,J,J,J,J,0,0,0,0,0,0,0,0,0,0,0,0,0,[],by rw[j.o]<;>rfl,dh e0.o (G _) _,D (cJ.nil _ _),aw _,fun _ h=>by cases h⟩)
 subst h1;have e3:((0:Int) != 0)=U:=rfl
 go_wp2_with (first
  | ((with_reducible refine aT 72 ?_);refine wpList_load_row rfl _ (.tmp 7) rfl b rfl _ _ (0,0) _ HK.o underlying105 rfl aj ?_)
  | (refine aJ rfl _ (.tmp 2) (.tmp 72) rfl w.heap.size _ rfl rfl _ _ i.o aj rfl (by simp[ap]) ?_))
 refine au (v:=.tuple #[.agg (iz K c1 c2 x y z R bn bc C k1 k2 k3 k4 k5 S wn ec T on oc F H L N P Q W sn sc ia f ic n uu r o g.length zc),.int .i64 0]) (results_cell_tmp (cs:= (iz K c1 c2 x y z R bn bc C k1 k2 k3 k4 k5 S wn ec T on oc F H L N P Q W sn sc ia f ic n uu r o g.length zc)) results35 _ _ w.heap.size _ (0,0) _ rfl (aO _ _ _ _ _ _ i.o) underlying105 rfl aj) rfl (show lF w e _ _ from⟨K,c1,c2,x,y,z,C,k1,k2,k3,k4,k5,F,H,L,N,P,Q,R,S,T,W,ia,n,o,bn,bc,wn,ec,on,oc,sn,sc,f,ic,uu,r,zc,g,by rw[j.o]<;>rfl,dh HB.o (G _) _,D ((HO.o.rows w.heap.size rfl (bu _)).to (dW _)),a0.o⟩)
end Go.Proofs.YtdgllhcfablaoaaGreat
