/- What the law asks, in parts: VIa VIb. -/
import Derived.ProofKit
import Derived.OpenShut
import Derived.ShutString
import Derived.ChangeOld
import Derived.Below
import Derived.Lib.SmallJoins
import Derived.Deep.Slices
import Derived.Deep.Matrix
import Derived.Deep.Fields
import Derived.ChangeSame
import Derived.Test.YtdgllhcfablaoaaGreatMg9
import Derived.Test.YtdgllhcfablaoaaGreatMg3
import Derived.Test.YtdgllhcfablaoaaGreatMg8
import Derived.Test.YtdgllhcfablaoaaGreatMg4
set_option linter.all false
set_option maxRecDepth 100000
set_option maxHeartbeats 16000000
open Go.Proofs.Tryz
open Bool renaming false→U,true→O
open Option renaming some→I,none→J
open Go renaming World→V,Value→Z,bodyPost_ret→au,heap_alloc_new→al,setRow_heap→aO,wp_store_row→eh,results_tmp→zt
open Nat renaming lt_of_lt_of_le→ac,le_trans→aa,zero_le→aw
open Go.RowKit renaming Below→ae
open List renaming length_take→bN,getElem?_eq_some_iff→dT,ofFn→x_
open Option.some renaming injEq→bU
open Go.Value renaming oneCell'→ap
open UInt8 renaming ofNat→ew
open Go.Proofs.Tryz renaming prog→M
namespace Go.Proofs.YtdgllhcfablaoaaGreat
open Go.RowKit
def Yes:Prop:=True
theorem yes:Yes:=trivial
section
variable {P:Program} {ops:Array Oper} {Q:Exit→Act→V→Prop} {md:Region.Mode} {S2:V→Prop} {s s2:Nat}
theorem pI:∀{n:Nat}{l:Array Bool}{a:Act}{w:V},fN P md ops Q S2 s2 n l a w→fN P md ops Q (fun _=>Yes) s n l a w
 | 0,_,_,_,h=>h
 | n+1,_,_,_,h=>⟨h.1,fun i hi=>wpOp_mono (fun b c k=>⟨fun _=>yes,pI k.2⟩) (h.2 i hi)⟩
end
structure Rw where
 a:Option Addr
 l:List UInt8
 c:Nat
def OO(r:Rw):List Z:=[.slice r.a r.l.length r.c]
def Rw.ok(w:V)(r:Rw):Prop:=Rd w r.a (bX r.l)∧r.l.length≤r.c∧r.c≤9223372036854775807
theorem bB.yE{w w':V}{B p:Nat}{u:dY}{c:eo}{x:Array Z}(h:bB w B u c)(a:w.heap[p]?=I (.cells x 53 (0,0)))(b:But p w w'):bB w' B u c:=
 ⟨h.v.mI a aC b,h.r.mI a aC b,h.e.mI a aC b,h.g.mI a aC b,h.s.mI a aC b,h.b.mI a aC b⟩
theorem eg.yE{w w':V}{B p:Nat}{z:dH}{s:dV}{x:Array Z}(h:eg w B z s)(a:w.heap[p]?=I (.cells x 53 (0,0)))(b:But p w w'):eg w' B z s:=
 ⟨h.c0.yE a b,h.c1.yE a b,h.c2.yE a b,h.sb.mI a aC b⟩
theorem Dd{k j d:Nat}{w w' w2:V}(h:ae w.heap.size w w')(a:jJ k j d w' w2)(b:w.heap.size≤k)(c:w.heap.size≤j)(e:w.heap.size≤d):ae w.heap.size w w2:=
 ⟨a.os.trans h.os,a.tape.trans h.tape,a.output.trans h.output,aa h.size a.size,fun i hi=>(a.block i (ac hi h.size) A A A).trans (h.block i hi)⟩
theorem tF(w:V)(B k j d:Nat)(x:eQ)(z:dH)(s:dV)(lg:List UInt8)(h:Cl w B k j d x z s lg)(f:lg.length<100000000):
  Calls M 10 #[.pointer (I ⟨d,0,J⟩)] w (fun c w'=>∃a b,c=.returned (.slice a lg.length b)∧Rd w' a (bX lg)∧ae w.heap.size w w'):=by
 obtain⟨g,done,p,room,a,q,b,r,sc,i,l⟩:=h.jn.d;refine(C7 w d lg _ _ _ _ _ _ _ a b i l f).mono ?_;rintro c w' ⟨v,rfl,e,m⟩;obtain⟨n,o,rfl,-,-⟩:=bY e;exact⟨n,o,rfl,Sl.rd (cM e),m⟩
theorem Qw.tell{w w':V}{B k j d N:Nat}{lg:List UInt8}{b:Int}{i:Ending}(h:Qw w B k j d N lg b i w'):
  ∃e:Int,i=.returned (.int .i64 e)∧(b≠0→e=b∧ae w.heap.size w w')∧(b=0→∃x z s a,Cl w' B k j d x z s a∧s.ok (N+180)∧x.gd∧a.length≤lg.length+1000∧jJ k j d w w'):=by
 rcases h with⟨c,f,g⟩ | ⟨c,e,f,g⟩
 ·exact⟨_,f,fun _=>⟨rfl,g⟩,fun h=>absurd h c⟩
 ·exact⟨e,f,fun h=>absurd c h,fun _=>g⟩
structure Rn(w wr:V)(k j d:Nat)(x:eQ)(z:dH)(s:dV)(lg:List UInt8)(i:Nat):Prop where
 cl:Cl wr w.heap.size k j d x z s lg
 sk:s.ok (180*i)
 gd:x.gd
 lg:lg.length≤300+1000*i
 bl:ae w.heap.size w wr
 lt:w.heap.size≤k∧w.heap.size≤j∧w.heap.size≤d
structure Mq(w wr:V)(q:Nat):Prop where
 bk:wr.heap[q]?=I (.cells jV 53 (0,0))
 ge:w.heap.size≤q
section
variable {w wr w2:V} {k j d q C i:Nat} {x:eQ} {z:dH} {s:dV} {lg:List UInt8}
theorem Rn.keep(h:Rn w wr k j d x z s lg i)(a:ae C wr w2)(b:wr.heap.size≤C):Rn w w2 k j d x z s lg i:=
 ⟨h.cl.keep a b,h.sk,h.gd,h.lg,h.bl.trans (a.mono (aa h.bl.size b)),h.lt⟩
theorem Rn.more(h:Rn w wr k j d x z s lg i):Rn w wr k j d x z s lg (i+1):=⟨h.cl,h.sk.up A,h.gd,by have:=h.lg;omega,h.bl,h.lt⟩
theorem Mq.keep(h:Mq w wr q)(a:ae wr.heap.size wr w2):Mq w w2 q:=⟨(a.block q (br h.bk).1).trans h.bk,h.ge⟩
theorem Rn.yE(h:Rn w wr k j d x z s lg i)(a:Mq w wr q)(b:But q wr w2):Rn w w2 k j d x z s lg i:=by
 obtain⟨n,c⟩:=h.cl.jn.j;have f:=h.cl.jn.d;obtain⟨g,done,l,room,m,o,p,r,sc,e,t⟩:=h.cl.jn.d;exact⟨⟨(b.block k (br h.cl.bx).1 (el h.cl.bx a.bk aC)).trans h.cl.bx,h.cl.st.yE a.bk b,⟨n,(b.block j (br c).1 (el c a.bk aC)).trans c⟩,f.but a.bk rZ (el e a.bk aC) b⟩,h.sk,h.gd,h.lg,h.bl.trans (b.below h.bl.size a.ge),h.lt⟩
end
theorem Y8(w:V):Calls M 5 #[.int .i64 1048576] w (fun en w'=>∃d,en=.returned (.tuple #[.pointer (I ⟨d,0,J⟩),.int .i64 0])∧w.heap.size≤d∧w'.heap[d]?=I (.cells dk0 81 (0,0))∧ae w.heap.size w w'):=
 (Oo w).mono (by rintro en w' ⟨rfl,rfl⟩;exact⟨_,rfl,G _,al _ _,(aD _ _).alloc (G _) _⟩)
theorem Hn(w:V)(v:Z)(y:List Rw)(hk:∀w:V,Calls M 4 #[] w (fun e w'=>e=.returned (.bool O)∧ae w.heap.size w w'))(h:cc OO 1 w v y)(hr:∀r∈y,r.ok w):
  Calls M 3 #[v] w (fun e w'=>e=.returned (.bool O)∧ae w.heap.size w w'):=by
 obtain⟨ao,cap,rfl,y0,A0⟩:=Sl.shape h;have HS:=D h;have HR:=D hr;have HL:Hid (y.length≤9223372036854775807):=D (aa y0 A0);have HK:=D hk;clear h hr hk y0 A0
 go_enter func3,ntmps3
 go_upto_region 3 with((go_at_call 4;refine(HK.o w).mono ?_);rintro en w1 ⟨rfl,a⟩)
 go_upto_region 4 with((go_at_call 5;refine(Y8 w1).mono ?_);rintro en w2 ⟨d,rfl,B0,C0,P⟩)
 have HD:Hid (w2.heap[d]?=I (.cells dk0 81 (0,0))∧w.heap.size≤d):=D ⟨C0,aa a.size B0⟩;have B:=D (a.trans (P.mono a.size));clear a P B0 C0;obtain⟨u,e0⟩:∃u,w2.alloc (.cells #[.bool O,.bool O,.bool O] 4)=u:=⟨_,rfl⟩;have D0:=D e0;have P:ae w2.heap.size w2 u:=by rw[←e0];exact(aD _ _).alloc (G _) _
 have E0:Hid (cc dz.f dz.E u (.slice (I ⟨w2.heap.size,0,J⟩) 3 3) [O,O,O]):=D (by rw[←e0];exact cM (gP w2 w2.heap.size 0 4 1 #[.bool O,.bool O,.bool O] 3 rfl (aw _) A rfl));have HD:=D (⟨(P.block d (br HD.o.1).1).trans HD.o.1,HD.o.2⟩:_∧_);have B:=D (B.o.trans (P.mono B.o.size));clear P e0;go_upto_region 5 with((go_at_call 6;rw[D0.o];refine(LO u d _ HD.o.1 E0.o).mono ?_);rintro en w3 ⟨k,j,z0,rfl,o0,f0,F0,G0⟩)
 have W:Hid (w.heap.size≤k∧w.heap.size≤j∧w.heap.size≤d):=D ⟨aa B.o.size o0.1,aa B.o.size o0.2,HD.o.2⟩;have H0:Hid (Cl w3 w.heap.size k j d x00 z0 fb []):=D ⟨f0.bx,f0.st.to B.o.size,f0.jn⟩;have I0:=D F0;have p0:=D (B.o.trans (G0.mono B.o.size));clear o0 f0 F0 G0 D0 E0;go_upto_region 7 with((go_at_call 7;refine(EP w3 w.heap.size k j d z0 H0.o I0.o p0.o.size).mono ?_);rintro en w4 ⟨rfl,zr,lr,J0,V0,K0⟩)
 have b:Hid (Rn w w4 k j d x01 zr fb lr 0):=D ⟨J0,BZ _,⟨.inr rfl,rfl⟩,by omega,Dd p0.o K0 W.o.1 W.o.2.1 W.o.2.2,W.o⟩;clear J0 V0 K0 H0 I0 p0 B HD W;go_wp2
 go_loopw[7] (fun vi wr=>∃(i:Nat)(x:eQ)(z:dH)(s:dV)(lg:List UInt8),vi=.int .i64 i∧Hid (i≤y.length∧i≤20)∧Hid (Rn w wr k j d x z s lg i)) (fun vi _=>20-(intOf vi).toNat)
 case atStart=>exact⟨0,_,_,_,_,rfl,D ⟨aw _,aw _⟩,b⟩
 case round=>
  clear b;obtain⟨i,x,z,s,lg,rfl,X,b⟩:=hrel;by_cases g0:i<y.length∧i<20
  rotate_left
  ·have f:=D b.o.bl
   by_cases h1:i<y.length
   ·have h2:¬i<20:=fun h=>g0 ⟨h1,h⟩
    have f1:decide ((i:Int)<y.length)=O:=by rw[decide_eq_true_eq];omega
    have f2:decide ((i:Int)<20)=U:=by rw[decide_eq_false_iff_not];omega
    clear g0;go_wp2;all_goals first | exact au (v:=.bool O) (zt results3 _ _ _) rfl ⟨rfl,f.o⟩ | contradiction
   ·have f1:decide ((i:Int)<y.length)=U:=by rw[decide_eq_false_iff_not];omega
    clear g0;go_wp2;all_goals first | exact au (v:=.bool O) (zt results3 _ _ _) rfl ⟨rfl,f.o⟩ | contradiction
  ·obtain⟨h0,W0⟩:=g0
   have q0:=HR.o y[i] (List.getElem_mem h0);obtain⟨g,L0,rfl,-,i0⟩:=cc.at HS.o (fun _=>rfl) A b.o.bl (G _) i h0;have c0:wr.cell? ⟨g,L0+i,J⟩=I (.slice y[i].a y[i].l.length y[i].c):=by have:=i0 0 _ rfl;simpa using this
   have j0:Hid (∀u,ae w.heap.size w u→u.cell? ⟨g,L0+i,J⟩=I (.slice y[i].a y[i].l.length y[i].c)):=D (fun u hb=>by
    obtain⟨g2,Z0,h2,-,i0⟩:=cc.at HS.o (fun _=>rfl) A hb (G _) i h0;injection h2 with h2;injection h2 with e1 e2 _;subst e1 e2;have:=i0 0 _ rfl
    simpa using this)
   obtain⟨⟨ra,C,rc⟩,hx⟩:∃r,y[i]=r:=⟨_,rfl⟩;rw[hx]at q0 c0 j0;simp only at c0 j0;have Q:=D q0;have a1:(i:Int)<y.length:=A
   have f1:decide ((i:Int)<y.length)=O:=by rw[decide_eq_true_eq];omega
   have f2:decide ((i:Int)<20)=O:=by rw[decide_eq_true_eq];omega
   have e9:wrap64 ((i:Int)+1)=(i:Int)+1:=IntWalk.wrap64_in _ A;have N:Hid (i+1≤y.length∧i+1≤20):=D ⟨h0,W0⟩;clear q0 hx i0;by_cases h3:300<C.length
   ·have f3:decide ((300:Int)<C.length)=O:=by rw[decide_eq_true_eq];omega
    have f:=D b.o.bl;clear h3;go_wp2;all_goals first | exact au (v:=.bool O) (zt results3 _ _ _) rfl ⟨rfl,f.o⟩ | contradiction
   have f3:decide ((300:Int)<C.length)=U:=by rw[decide_eq_false_iff_not];omega
   have M0:Hid (C.length≤300):=D A;clear h3;go_upto_region 12 with fail
   clear c0
   go_cut[8,9] (fun u8 u9 wc=>∃(q:Nat)(n:dH),u8=.pointer (I ⟨q,0,J⟩)∧u9=.string ⟨⟨lg⟩⟩∧Hid (wc.heap[q]?=I (.cells ⟨aF x n s⟩ 53 (0,0)))∧Hid (eg wc w.heap.size n s)∧Hid (Rn w wc k j d x z s lg i))
   case first=>
    obtain⟨W1,r0⟩:∃W1,wr.drew=W1:=⟨_,rfl⟩;have N0:ae wr.heap.size wr W1:=by rw[←r0];exact(aD _ _).drew
    have b:=D (b.o.keep N0 (G _));refine bT 8 (fun _=>Yes) aj ?_;rw[r0];clear r0 N0;refine stP 0 (.pointer (I ⟨k,0,J⟩)) yes ?_;refine stP 3 (.pointer (I ⟨d,0,J⟩)) yes ?_;refine lD (i:=1) (j:=6) aj rfl rfl rfl rfl ?_ ?_
    ·go_simp
     refine(wK W1 w.heap.size k j x z s (180*i) ⟨b.o.cl.bx,b.o.cl.st⟩ b.o.sk (by have:=X.o;omega)).mono ?_;rintro en u ⟨n,rfl,a0,a⟩;have b0:Hid (eg u w.heap.size n s):=D (a0.to b.o.bl.size);have b:=D (b.o.keep a (G _));have c:=b0;clear a0 a b0;refine⟨yes,?_⟩;refine lD (i:=2) (j:=6) aj rfl rfl rfl rfl ?_ ?_
     ·go_simp
      refine(r_ u x n s).mono ?_;rintro en S ⟨rfl,a⟩;have b:=D (b.o.keep a (G _));have c:=D (c.o.keep a (G _));clear a;refine⟨yes,?_⟩;refine lD (i:=4) (j:=6) aj rfl rfl rfl rfl ?_ ?_
      ·go_simp
       refine(tF S w.heap.size k j d x z s lg b.o.cl (by have:=b.o.lg;have:=X.o;omega)).mono ?_;rintro en T ⟨R,lc,rfl,p,a⟩;have b:=D (b.o.keep a (G _));have c:=D (c.o.keep a (G _));have l:=D p;clear p a;refine⟨yes,?_⟩;refine pI (s2:=8) (S2:=fun w'=>Rd w' R (bX lg)) ?_;refine iA [8] 5 (.string ⟨⟨lg⟩⟩) rfl (.inl ⟨rfl,fun w' t=>?_⟩) l.o ?_
       ·have k0:=run_text w' R lg lg.length lc t rfl
        go_simp
       refine dK 6 ?_;go_simp;obtain⟨q,E⟩:∃q,T.heap.size=q:=⟨_,rfl⟩;obtain⟨F,t⟩:∃w',T.alloc (.cells jV 53)=w':=⟨_,rfl⟩;rw[t,E];have a:ae T.heap.size T F:=by rw[←t];exact(aD _ _).alloc (G _) _
       have o:Hid (Mq w F q):=D ⟨by rw[←t,←E];exact al _ _,by rw[←E];exact b.o.bl.size⟩;have b:=D (b.o.keep a (G _));have c:=D (c.o.keep a (G _));have l:=D (l.o.keep a (G _));clear a t E;first | refine⟨l.o,?_⟩ | refine⟨fun _=>l.o,?_⟩
       refine dK 7 ?_;refine eh _ (.tmp 8) (.tmp 50) rfl q ⟨aF x n s⟩ aj aj _ _ o.o.bk aj rfl (by simp[aF,ap]) ?_;have f:But q F (F.setRow q ⟨aF x n s⟩):=But.row _;have l:=D (jN l.o o.o.bk rZ f);have b:=D (b.o.yE o.o f);have c:=D (c.o.yE o.o.bk f);refine⟨fun _=>l.o,?_⟩;refine dK 8 ?_;go_simp;first | refine jj ?_ | (refine ⟨fun h=>by cases h,?_⟩;refine jj ?_)
       have H:Hid ((F.setRow q ⟨aF x n s⟩).heap[q]?=I (.cells ⟨aF x n s⟩ 53 (0,0))):=D (aO _ _ _ _ _ _ o.o.bk);clear f;go_wp2;go_meet
       case rel=>exact⟨q,n,rfl,rfl,H,c,b⟩
      ·go_simp
       obtain⟨q,E⟩:∃q,S.heap.size=q:=⟨_,rfl⟩;obtain⟨T,t⟩:∃w',S.alloc (.cells jV 53)=w':=⟨_,rfl⟩;rw[t,E];have a:ae S.heap.size S T:=by rw[←t];exact(aD _ _).alloc (G _) _
       have o:Hid (Mq w T q):=D ⟨by rw[←t,←E];exact al _ _,by rw[←E];exact b.o.bl.size⟩;have b:=D (b.o.keep a (G _));have c:=D (c.o.keep a (G _));clear a t E;first | refine⟨yes,?_⟩ | refine⟨fun _=>yes,?_⟩
       refine dK 4 ?_;go_simp;refine(tF T w.heap.size k j d x z s lg b.o.cl (by have:=b.o.lg;have:=X.o;omega)).mono ?_;rintro en F ⟨R,lc,rfl,p,a⟩;have b:=D (b.o.keep a (G _));have c:=D (c.o.keep a (G _));have o:=D (o.o.keep a);have l:=D p;clear p a;refine⟨yes,?_⟩;refine pI (s2:=8) (S2:=fun w'=>Rd w' R (bX lg)) ?_;refine iA [8] 5 (.string ⟨⟨lg⟩⟩) rfl (.inl ⟨rfl,fun w' t=>?_⟩) l.o ?_
       ·have k0:=run_text w' R lg lg.length lc t rfl
        go_simp
       refine dK 7 ?_;refine eh _ (.tmp 8) (.tmp 50) rfl q ⟨aF x n s⟩ aj aj _ _ o.o.bk aj rfl (by simp[aF,ap]) ?_;have f:But q F (F.setRow q ⟨aF x n s⟩):=But.row _;have l:=D (jN l.o o.o.bk rZ f);have b:=D (b.o.yE o.o f);have c:=D (c.o.yE o.o.bk f);refine⟨fun _=>l.o,?_⟩;refine dK 8 ?_;go_simp;first | refine jj ?_ | (refine ⟨fun h=>by cases h,?_⟩;refine jj ?_)
       have H:Hid ((F.setRow q ⟨aF x n s⟩).heap[q]?=I (.cells ⟨aF x n s⟩ 53 (0,0))):=D (aO _ _ _ _ _ _ o.o.bk);clear f;go_wp2;go_meet
       case rel=>exact⟨q,n,rfl,rfl,H,c,b⟩
     ·go_simp
      obtain⟨q,E⟩:∃q,u.heap.size=q:=⟨_,rfl⟩;obtain⟨S,t⟩:∃w',u.alloc (.cells jV 53)=w':=⟨_,rfl⟩;rw[t,E];have a:ae u.heap.size u S:=by rw[←t];exact(aD _ _).alloc (G _) _
      have o:Hid (Mq w S q):=D ⟨by rw[←t,←E];exact al _ _,by rw[←E];exact b.o.bl.size⟩;have b:=D (b.o.keep a (G _));have c:=D (c.o.keep a (G _));clear a t E;first | refine⟨yes,?_⟩ | refine⟨fun _=>yes,?_⟩
      refine dK 2 ?_;go_simp;refine(r_ S x n s).mono ?_;rintro en T ⟨rfl,a⟩;have b:=D (b.o.keep a (G _));have c:=D (c.o.keep a (G _));have o:=D (o.o.keep a);clear a;refine⟨yes,?_⟩;refine dK 4 ?_;go_simp;refine(tF T w.heap.size k j d x z s lg b.o.cl (by have:=b.o.lg;have:=X.o;omega)).mono ?_;rintro en F ⟨R,lc,rfl,p,a⟩;have b:=D (b.o.keep a (G _));have c:=D (c.o.keep a (G _));have o:=D (o.o.keep a);have l:=D p;clear p a;refine⟨yes,?_⟩;refine pI (s2:=8) (S2:=fun w'=>Rd w' R (bX lg)) ?_;refine iA [8] 5 (.string ⟨⟨lg⟩⟩) rfl (.inl ⟨rfl,fun w' t=>?_⟩) l.o ?_
      ·have k0:=run_text w' R lg lg.length lc t rfl
       go_simp
      refine dK 7 ?_;refine eh _ (.tmp 8) (.tmp 50) rfl q ⟨aF x n s⟩ aj aj _ _ o.o.bk aj rfl (by simp[aF,ap]) ?_;have f:But q F (F.setRow q ⟨aF x n s⟩):=But.row _;have l:=D (jN l.o o.o.bk rZ f);have b:=D (b.o.yE o.o f);have c:=D (c.o.yE o.o.bk f);refine⟨fun _=>l.o,?_⟩;refine dK 8 ?_;go_simp;first | refine jj ?_ | (refine ⟨fun h=>by cases h,?_⟩;refine jj ?_)
      have H:Hid ((F.setRow q ⟨aF x n s⟩).heap[q]?=I (.cells ⟨aF x n s⟩ 53 (0,0))):=D (aO _ _ _ _ _ _ o.o.bk);clear f;go_wp2;go_meet
      case rel=>exact⟨q,n,rfl,rfl,H,c,b⟩
    ·go_simp
     obtain⟨q,E⟩:∃q,W1.heap.size=q:=⟨_,rfl⟩;obtain⟨u,t⟩:∃w',W1.alloc (.cells jV 53)=w':=⟨_,rfl⟩;rw[t,E];have a:ae W1.heap.size W1 u:=by rw[←t];exact(aD _ _).alloc (G _) _
     have o:Hid (Mq w u q):=D ⟨by rw[←t,←E];exact al _ _,by rw[←E];exact b.o.bl.size⟩;have b:=D (b.o.keep a (G _));clear a t E;first | refine⟨yes,?_⟩ | refine⟨fun _=>yes,?_⟩
     refine dK 1 ?_;go_simp;refine(wK u w.heap.size k j x z s (180*i) ⟨b.o.cl.bx,b.o.cl.st⟩ b.o.sk (by have:=X.o;omega)).mono ?_;rintro en S ⟨n,rfl,a0,a⟩;have b0:Hid (eg S w.heap.size n s):=D (a0.to b.o.bl.size);have b:=D (b.o.keep a (G _));have o:=D (o.o.keep a);have c:=b0;clear a0 a b0;refine⟨yes,?_⟩;refine dK 2 ?_;go_simp;refine(r_ S x n s).mono ?_;rintro en T ⟨rfl,a⟩;have b:=D (b.o.keep a (G _));have c:=D (c.o.keep a (G _));have o:=D (o.o.keep a);clear a;refine⟨yes,?_⟩;refine dK 4 ?_;go_simp;refine(tF T w.heap.size k j d x z s lg b.o.cl (by have:=b.o.lg;have:=X.o;omega)).mono ?_;rintro en F ⟨R,lc,rfl,p,a⟩;have b:=D (b.o.keep a (G _));have c:=D (c.o.keep a (G _));have o:=D (o.o.keep a);have l:=D p;clear p a;refine⟨yes,?_⟩;refine pI (s2:=8) (S2:=fun w'=>Rd w' R (bX lg)) ?_;refine iA [8] 5 (.string ⟨⟨lg⟩⟩) rfl (.inl ⟨rfl,fun w' t=>?_⟩) l.o ?_
     ·have k0:=run_text w' R lg lg.length lc t rfl
      go_simp
     refine dK 7 ?_;refine eh _ (.tmp 8) (.tmp 50) rfl q ⟨aF x n s⟩ aj aj _ _ o.o.bk aj rfl (by simp[aF,ap]) ?_;have f:But q F (F.setRow q ⟨aF x n s⟩):=But.row _;have l:=D (jN l.o o.o.bk rZ f);have b:=D (b.o.yE o.o f);have c:=D (c.o.yE o.o.bk f);refine⟨fun _=>l.o,?_⟩;refine dK 8 ?_;go_simp;first | refine jj ?_ | (refine ⟨fun h=>by cases h,?_⟩;refine jj ?_)
     have H:Hid ((F.setRow q ⟨aF x n s⟩).heap[q]?=I (.cells ⟨aF x n s⟩ 53 (0,0))):=D (aO _ _ _ _ _ _ o.o.bk);clear f;go_wp2;go_meet
     case rel=>exact⟨q,n,rfl,rfl,H,c,b⟩
   case rest=>
    clear b;obtain⟨q,n,rfl,rfl,m,c,b⟩:=hcut;have c0:=j0.o wc b.o.bl
    go_upto_region 14 with(first
     | ((go_at_call 11;refine(Jd wc ra C C.length rc rfl Q.o.2.1 Q.o.2.2 (by have:=M0.o;omega) (Q.o.1.keep b.o.bl (G _))).mono ?_);rintro en w5 ⟨v5,l0,rfl,s0⟩)
     | (refine wpList_store_row rfl _ (.tmp 10) (.tmp 60) rfl w5.heap.size v5 rfl rfl _ _ (al w5 _) (by rw[l0.1];kernel_rfl) (by rw[l0.1];rfl) l0.2 ?_;rw[World.setRow_alloc_new]))
    obtain⟨W6,t0⟩:∃W6,w5.alloc (.cells v5 61)=W6:=⟨_,rfl⟩;have O0:ae w5.heap.size w5 W6:=by rw[←t0];exact(aD _ _).alloc (G _) _
    have m0:ae wc.heap.size wc W6:=s0.trans (O0.mono s0.size);have b:=D (b.o.keep m0 (G _));have c:=D (c.o.keep m0 (G _));have m:Hid (Bx W6 q (aF x n s) 53):=D ((m0.block q (br m.o).1).trans m.o);rw[t0];clear s0 O0 m0 t0 l0 c0;have c0:=j0.o W6 b.o.bl;obtain⟨PE,v0⟩:∃PE,jM C=PE:=⟨_,rfl⟩;rw[v0];have X0:=D v0;clear v0;go_upto_region 15 with((go_at_call 12;refine(OL W6 w.heap.size k j d (180*i) x z s lg C ra C.length rc b.o.cl b.o.bl.size b.o.sk (by have:=X.o;omega) b.o.gd (Q.o.1.keep b.o.bl (G _)) rfl Q.o.2.1 Q.o.2.2 M0.o (by have:=b.o.lg;have:=X.o;omega)).mono ?_);intro en b1 d0;rw[X0.o]at d0;obtain⟨e,rfl,hA,hZ⟩:=d0.tell)
    have HA:=D hA;have HZ:=D hZ;clear d0 hA hZ c0;by_cases hp:PE=0
    ·subst hp
     obtain⟨x9,z9,s9,P0,Q0,R0,S0,Y0,T0⟩:=HZ.o rfl;have w0:Hid (Rn w b1 k j d x9 z9 s9 P0 (i+1)):=D ⟨Q0,by rw[Nat.mul_add];exact R0,S0,by have:=b.o.lg;omega,Dd b.o.bl T0 b.o.lt.1 b.o.lt.2.1 b.o.lt.2.2,b.o.lt⟩;clear Q0 R0 S0 Y0 T0 b c m HA HZ;obtain⟨V1,K⟩:∃V1,b1.drew=V1:=⟨_,rfl⟩;have L:ae b1.heap.size b1 V1:=by rw[←K];exact(aD _ _).drew
     have w0:=D (w0.o.keep L (G _));refine bT 21 (fun _=>Yes) aj ?_;rw[K];clear K L;refine stP 0 (.int .i64 0) yes ?_;refine stP 1 (.bool U) yes ?_;refine stP 2 (.bool U) yes ?_;refine iI 3 yes ?_;refine iI 4 yes ?_;refine iI 5 yes ?_;refine iI 6 yes ?_;refine iI 7 yes ?_;refine iI 8 yes ?_;refine iI 9 yes ?_;refine iI 10 yes ?_;refine iI 11 yes ?_;refine iI 12 yes ?_;refine iI 13 yes ?_;refine iI 14 yes ?_;refine iI 15 yes ?_;refine iI 16 yes ?_;refine iI 17 yes ?_;refine iI 18 yes ?_;refine iI 19 yes ?_;refine iI 20 yes ?_;refine dK 21 ?_;go_simp;first | refine jj ?_ | (refine ⟨fun h=>by cases h,?_⟩;refine jj ?_)
     go_wp2;go_roundw
     case rel=>exact⟨i+1,x9,z9,s9,P0,by go_num,D N.o,w0⟩
     case measure=>exact bA N.o.2 _ eT
    ·obtain⟨he,n0⟩:=HA.o hp
     subst he;have f5:(e != 0)=O:=by simpa using hp
     have b:=D (b.o.keep n0 (G _));have c:=D (c.o.keep n0 (G _));have m:=D (m.o.keep n0 (br m.o).1);clear n0 HA HZ hp;obtain⟨V1,K⟩:∃V1,b1.drew=V1:=⟨_,rfl⟩;have L:ae b1.heap.size b1 V1:=by rw[←K];exact(aD _ _).drew
     have b:=D (b.o.keep L (G _));have c:=D (c.o.keep L (G _));have m:=D (m.o.keep L (br m.o).1);refine bT 11 (fun w'=>Bx w' q (aF x n s) 53) aj ?_;rw[K];clear K L;refine stP 0 (.int .i64 e) m.o ?_;refine stP 1 (.bool O) m.o ?_;refine stP 2 (.bool O) m.o ?_;refine stP 3 (.int .i64 e) m.o ?_;refine stP 4 (.int .i64 e) m.o ?_;refine stP 5 (.bool U) m.o ?_;refine stP 6 (.bool U) m.o ?_;refine iA [11] 7 (.agg ⟨aF x n s⟩) rfl (yieldsIf_load_mid aj _ (.tmp 8) rfl q 0 rfl (aF x n s) _ (fun w' t=>Bx.range t 0 _ eZ) underlying53 rfl aj) m.o ?_;refine stP 8 (.pointer (I ⟨k,0,J⟩)) m.o ?_;refine f_ 9 ?_;go_simp;refine(wK V1 w.heap.size k j x z s (180*i) ⟨b.o.cl.bx,b.o.cl.st⟩ b.o.sk (by have:=X.o;omega)).mono ?_;rintro en V2 ⟨z2,rfl,U0,a⟩;have x0:Hid (eg V2 w.heap.size z2 s):=D (U0.to b.o.bl.size);have b:=D (b.o.keep a (G _));have c:=D (c.o.keep a (G _));have m:=D (m.o.keep a (br m.o).1);clear U0 a;refine⟨m.o,?_⟩;refine f_ 10 ?_;go_simp;refine(r_ V2 x z2 s).mono ?_;rintro en V3 ⟨rfl,a⟩;have x0:=D (x0.o.keep a (G _));have b:=D (b.o.keep a (G _));have c:=D (c.o.keep a (G _));have m:=D (m.o.keep a (br m.o).1);clear a;refine⟨m.o,?_⟩;refine f_ 11 ?_;go_simp;refine(LX V3 w.heap.size w.heap.size (180*i) x n z2 s c.o x0.o b.o.sk (by have:=X.o;omega)).mono ?_;rintro en V4 ⟨rfl,a⟩;have b:=D (b.o.keep a (G _));have c:=D (c.o.keep a (G _));have m:=D (m.o.keep a (br m.o).1);clear a;first | refine⟨m.o,?_⟩ | refine⟨fun _=>m.o,?_⟩ | skip
     refine stP 12 (.bool U) m.o ?_;refine stP 13 (.bool U) m.o ?_;refine stP 14 (.bool U) m.o ?_;refine stP 15 (.pointer (I ⟨d,0,J⟩)) m.o ?_;refine stP 18 (.string ⟨⟨lg⟩⟩) m.o ?_;refine f_ 16 ?_;go_simp;refine(tF V4 w.heap.size k j d x z s lg b.o.cl (by have:=b.o.lg;have:=X.o;omega)).mono ?_;rintro en V5 ⟨R,lc,rfl,p,a⟩;have b:=D (b.o.keep a (G _));have c:=D (c.o.keep a (G _));have m:=D (m.o.keep a (br m.o).1);first | refine⟨m.o,?_⟩ | refine⟨fun _=>m.o,?_⟩ | skip
     have k0:=run_text V5 R lg lg.length lc p rfl;clear p a;refine f_ 17 ?_;go_simp;first | refine⟨m.o,?_⟩ | refine⟨fun _=>m.o,?_⟩ | skip
     refine stP 19 (.bool U) m.o ?_;refine stP 20 (.bool U) m.o ?_;refine stP 21 (.bool U) m.o ?_;refine jj ?_;go_wp2;go_roundw
     case rel=>exact⟨i+1,x,z,s,lg,by go_num,D N.o,D (b.o.more)⟩
     case measure=>exact bA N.o.2 _ eT
end Go.Proofs.YtdgllhcfablaoaaGreat
namespace Go.Proofs.YtdgllhcfablaoaaGreat
open Go.ChangeShapes Go.WideShapes Go.ChangeAt Go.RowKit Go.Deep
theorem own:ownKnob prog.godebug=J:=aj
theorem laidOut:laidOutB M=O:=aj
theorem EQ{α:Type}{f:α→List Z}{E:Nat}(r:∀x,(f x).length=E)(s:0<E){w:V}{a:Addr}{len cap:Nat}(L:len≤cap)(hm:cap≤maxLen){Q:α→Prop}
  (h:∀i,i<len→∃y:α,Q y∧∀j u,(f y)[j]?=I u→w.cell? (a.add (i*E+j))=I u):∃l:List α,cc f E w (.slice (I a) len cap) l∧∀y∈l,Q y:=by
 have C:∀i:Fin len,∃y:α,Q y∧∀j u,(f y)[j]?=I u→w.cell? (a.add (i.1*E+j))=I u:=fun i=>h i.1 i.2
 let g:Fin len→α:=fun i=>Classical.choose (C i)
 have t:∀i,Q (g i)∧∀j u,(f (g i))[j]?=I u→w.cell? (a.add (i.1*E+j))=I u:=fun i=>Classical.choose_spec (C i)
 refine⟨x_ g,?_,fun y N=>?_⟩
 ·have c:(x_ g).length=len:=List.length_ofFn
  have m:(ca f (x_ g)).length=len*E:=by rw[ke r,c]
  unfold cc;rw[c];refine⟨m,I a,cap,rfl,L,hm,(fun h=>by cases h),fun j u F=>?_⟩;have H:j<len*E:=by rw[←m];exact(dT.1 F).1
  have n:0<len:=Nat.pos_of_ne_zero (fun e=>by subst e;simp at H);have v:j/E<len:=(Nat.div_lt_iff_lt_mul s).2 H;have P:j%E<E:=Nat.mod_lt _ s;have o:j/E*E+j%E=j:=Nat.div_add_mod' j E
  have z:(f (g ⟨j/E,v⟩))[j%E]?=I u:=by
   have:=wC r (x_ g) (j/E) (by rw[c];exact v) (j%E) P;rw[o,F]at this;rw[List.getElem_ofFn]at this;exact this.symm
  have p:=(t ⟨j/E,v⟩).2 _ _ z;simp only[o]at p;have d:=(t ⟨0,n⟩).2 0 ((f (g ⟨0,n⟩))[0]'(by rw[r];exact s)) (List.getElem?_eq_getElem _);simp only[Nat.zero_mul,Nat.zero_add]at d
  have k:a.spot=J:=by
   cases R:a.spot with
   | none=>rfl
   | some q=>
    exfalso;simp only[Addr.add,if_true,World.cell?]at d
    split at d
    ·simp[R]at d
    ·cases d
  obtain⟨b,B,K⟩:=a;simp only at k;subst k;rw[Addr.add_lit]at p;exact⟨b,B,rfl,World.block_lt_of_cell? w _ p,p⟩
 ·obtain⟨i,hi⟩:=(List.mem_ofFn).1 N
  rw[←hi];exact(t i).1
section
variable {H:Type} {enc:TypeId×Z→H} {w:V} {base:Nat} {held:Bool} {fuel:Nat} {x:DataW H×List MemPlace}
theorem LY{a:Option Addr}{len cap:Nat}(h:DataW.trod enc M w base (fun _=>O) held fuel 22 (Value.slice a len cap).cells.toList=I x):∃l,cc OO 1 w (.slice a len cap) l∧∀c∈l,Rw.ok w c:=by
 have v:DataW.trod enc M w base (fun _=>O) held fuel 22 [.slice a len cap]=I x:=by simpa[Value.cells]using h
 rcases open_int_rows underlying22 underlying33 underlying5 aj aj v with y | ⟨b,l,c,a0,L,C,b0,d,T,z,hm,W,hi⟩
 ·have d:=y.1
  simp at d;obtain⟨rfl,rfl,rfl⟩:=d;exact⟨[],cc.nil _ _ _,by simp⟩
 ·simp at d
  obtain⟨rfl,rfl,rfl⟩:=d;refine EQ (f:=OO) (E:=1) (fun _=>rfl) Nat.one_pos z hm (fun i B=>?_);obtain⟨F,r,H,X,K,N,P⟩:=hi i A;have g:(((b0 i).take (L i)).map fun n=>ew n.toNat).length=L i:=by rw[List.length_map,bN];omega
  have o:L i≤C i:=r;refine⟨⟨a0 i,((b0 i).take (L i)).map fun n=>ew n.toNat,C i⟩,⟨fun j u e=>?_,by rw[g];exact r,H⟩,fun j u e=>?_⟩
  ·simp only[bX,List.getElem?_map,Option.map_eq_some_iff]at e
   obtain⟨_,⟨n,p,rfl⟩,rfl⟩:=e
   have m:j<L i:=by
    have:=(dT.1 p).1;rw[bN]at this;omega
   have k:(b0 i)[j]?=I n:=by rw[List.getElem?_take,if_pos m]at p;exact p
   obtain⟨Q,R⟩:=bounds_u8 (K n (List.mem_of_getElem? k))
   have S:((ew n.toNat).toNat:Int)=n:=by
    rw[UInt8.toNat_ofNat'];omega
   cases s:a0 i with
   | none=>have:=N s;omega
   | some t=>
    refine⟨t,rfl,?_⟩;have q:j<C i:=ac m o;rw[(P t s).2 j q,List.getD,k,S];rfl
  ·have m:j=0:=by
    have:=(dT.1 e).1;simp[OO]at this;omega
   subst m;simp only[OO,List.getElem?_cons_zero,bU]at e;subst e;rw[Nat.mul_one,Nat.add_zero,F,g]
end
end Go.Proofs.YtdgllhcfablaoaaGreat
