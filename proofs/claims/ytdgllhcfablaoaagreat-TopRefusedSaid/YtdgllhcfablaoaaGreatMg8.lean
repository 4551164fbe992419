/- What the law asks, in parts: VBf VBi VFc VFe VHc VHd VHe VEh VEi VEj VEl VFb VFg VEk. -/
import Derived.Great.BuildSlice
import Derived.Test.YtdgllhcfablaoaaGreatMg7
import Derived.Test.YtdgllhcfablaoaaGreatMg4
import Derived.Test.YtdgllhcfablaoaaGreatMg3
import Derived.Test.YtdgllhcfablaoaaGreatMg6
set_option linter.all false
set_option maxRecDepth 100000
set_option maxHeartbeats 16000000
open Go.Proofs.Tryz
open Bool renaming false→U,true→O
open Option renaming some→I,none→J
open Go renaming World→V,Value→Z,Calls→ar,heap_alloc_new→al,Addr→aB,TypeId→aN,yieldsIf_load_mid→b_,wpList_store_row→aJ,wpList_load_mid→j_
open Nat renaming lt_of_lt_of_le→ac,le_trans→aa,zero_le→aw,lt_or_ge→aL,le_of_eq→bD,add_le_add_right→cw,add_zero→dg,mul_one→dL
open Go.RowKit renaming Below→ae,wrap64→bi,intOf→bp
open Go.IntWalk renaming wrap64_in→ag
open List renaming length_append→ay,mem_cons→bg,not_mem_nil→bV,getElem_mem→dj,mem_toArray→gy
open Go.World renaming cell?→an,setCell→aV,block_lt_of_cell?→aS,setRow_alloc_new→dX
open Array renaming getElem?_modify→aR,mem_of_getElem?→kp
open Go.Value renaming oneCell'→ap
open Go.Instr renaming makeFunc→dn,index→pi
open Go.Addr renaming add_lit→dM
open Go.Proofs.Tryz renaming prog→M
namespace Go.Proofs.YtdgllhcfablaoaaGreat
open Go.RowKit
def EL.own.C_{α:Type}{L:EL α}{w w':V}{B p:Nat}{v:Z}{l:List α}{x:Array Z}{t:aN}(h:L.own w B v l)(d:w.heap[p]?=I (.cells x t (0,0)))(b:t≠L.e)(f:But p w w'):L.own w' B v l:=by
 have i:=h.ne d b;obtain⟨j,k⟩:=h;refine⟨j,k.imp id ?_⟩;rintro⟨g,cap,c,rfl,m,a,r⟩;exact⟨g,cap,c,rfl,m,by rw[f.block g (br a).1 (fun e=>i (by rw[e];rfl))];exact a,r⟩
def bB.mX{w w':V}{B p:Nat}{z:dY}{c:eo}{l:List UInt8}(h:bB w B z c)(e:mJ w p l)(b:But p w w'):bB w' B z c:=by
 obtain⟨a,k,d,_⟩:=e;exact⟨h.v.C_ d aC b,h.r.C_ d aC b,h.e.C_ d aC b,h.g.C_ d aC b,h.s.C_ d aC b,h.b.C_ d aC b⟩
def pH{w:V}{b:Nat}{a c d e f g i:Z}{t:aN}(h:w.heap[b]?=I (.cells #[a,c,d,e,f,g,i] t (0,0))):
  w.cell? ⟨b,0,J⟩=I a∧w.cell? ⟨b,1,J⟩=I c∧w.cell? ⟨b,2,J⟩=I d∧w.cell? ⟨b,3,J⟩=I e∧w.cell? ⟨b,4,J⟩=I f∧w.cell? ⟨b,5,J⟩=I g∧w.cell? ⟨b,6,J⟩=I i:=by
 refine⟨?_,?_,?_,?_,?_,?_,?_⟩<;>simp[an,h]
def LK(w:V)(p:Nat)(l:List UInt8)(B:Nat)(z:dY)(c:eo)(N:Nat)(h:mJ w p l)(hc:bB w B z c)(hf:c.ok N)(hN:N≤4000)(hl:l.length<60000000):
  ar M 219 #[.pointer (I ⟨p,0,J⟩),.agg ⟨z.l c⟩] w (C8 w p l 2100000):=by
 obtain⟨⟨va,vc⟩,⟨ra,rc⟩,⟨ea,ec⟩,⟨ga,gc⟩,⟨sa,sc⟩,⟨ba,bc⟩⟩:=z;simp only[dY.l];obtain⟨b,hb⟩:∃b,w.heap.size=b:=⟨_,rfl⟩;obtain⟨W,hW⟩:∃W,w.alloc (.cells (di va c.v.length vc ra c.r.length rc ea c.e.length ec ga c.g.length gc sa c.s.length sc ba c.b.length bc) 47)=W:=⟨_,rfl⟩;have l0:ae w.heap.size w W:=by rw[←hW];exact(aD _ _).alloc (G _) _
 have t:Hid (p<b):=D (by rw[←hb];exact h.lt);have d:=D (h.keep l0 (G _));have HC:=D (hc.keep l0 (G _));have i:Hid (W.heap[b]?=I (.cells (di va c.v.length vc ra c.r.length rc ea c.e.length ec ga c.g.length gc sa c.s.length sc ba c.b.length bc) 47 (0,0))∧b<W.heap.size):=D ⟨by rw[←hW,←hb];exact al w _,by rw[←hW,←hb];simp⟩;have y:Hid (But p w W):=D (But.of_below l0);have HF:=D hf;have HN:=D hN;have HL:=D hl;have HW:=D hW;have HE:=D hb;clear h hc hf hN hl hW hb l0
 go_enter func219,ntmps219
 go_upto_region 1 with fail
 rw[HW.o,HE.o];clear HW;obtain⟨b0,b1,b2,b3,b4,b5⟩:=ah i.o.1;go_upto_region 2 with((go_at_call 110;refine(js W p l _ [(c.v.length:Nat),(c.r.length:Nat),(c.e.length:Nat),(c.g.length:Nat),(c.s.length:Nat),(c.b.length:Nat)] d.o rfl 6 rfl A (by have:=HL.o;omega)).mono ?_);rintro en w1 ⟨rfl,l1,m0,n0,i0⟩)
 have HC:=D (HC.o.mX d.o i0.o);have i:=D (⟨(i0.o.block b i.o.2 (by have:=t.o;omega)).trans i.o.1,ac i.o.2 i0.o.size⟩:_∧_);have y:=D (y.o.trans i0.o);have d:=m0;have E:Hid (l1.length≤l.length+60):=D n0.o;clear b0 b1 b2 b3 b4 b5 m0 n0 i0;obtain⟨W,hW⟩:∃W,w1=W:=⟨_,rfl⟩;obtain⟨ll,o0⟩:∃ll,l1=ll:=⟨_,rfl⟩;obtain⟨T0,p0⟩:∃T0,60=T0:=⟨_,rfl⟩;subst hW o0 p0;obtain⟨b0,b1,b2,b3,b4,b5⟩:=ah i.o.1;go_wp2;clear b0 b1 b2 b3 b4 b5
 go_loopw[40] (fun vk wr=>∃(k:Nat)(l':List UInt8),vk=.int .i64 k∧Hid (k≤c.v.length)∧Hid (mJ wr p l')∧Hid (l'.length≤l.length+60+30*k)∧Hid (bB wr B ⟨(va,vc),(ra,rc),(ea,ec),(ga,gc),(sa,sc),(ba,bc)⟩ c)∧Hid (wr.heap[b]?=I (.cells (di va c.v.length vc ra c.r.length rc ea c.e.length ec ga c.g.length gc sa c.s.length sc ba c.b.length bc) 47 (0,0))∧b<wr.heap.size)∧Hid (But p w wr)) (fun vk _=>c.v.length-(bp vk).toNat)
 case atStart=>exact⟨0,_,rfl,D (aw _),d,D (by have:=E.o;omega),HC,i,y⟩
 case round=>
  clear d E HC i y;obtain⟨k,l',rfl,a0,d,f,e,i,g⟩:=hrel;rcases aL k c.v.length with v | d0
  ·obtain⟨F,o,H,j0,r⟩:=cc.at e.o.v.sl iH.len iH.pos (aD _ _) (G _) k v
   have K:va=I ⟨F,o,J⟩:=H;subst K;generalize hx:c.v[k]=x at*;have c0:wr.cell? ⟨F,o+k*3,J⟩=I (.int .i64 x.1):=r 0 _ rfl;have c1:wr.cell? ⟨F,o+k*3+1,J⟩=I (.int .i64 x.2.1):=r 1 _ rfl;have c2:wr.cell? ⟨F,o+k*3+2,J⟩=I (.int .i64 x.2.2):=r 2 _ rfl;have k0:(k:Int)<c.v.length:=A
   have L:=D v;have e9:bi ((k:Int)+1)=(k:Int)+1:=ag _ (by have:=HF.o.nv;have:=HN.o;omega);obtain⟨q,P⟩:∃q,wr.heap.size=q:=⟨_,rfl⟩;obtain⟨r0,Q⟩:∃r0,wr.alloc (.cells #[.int .i64 x.1,.int .i64 x.2.1,.int .i64 x.2.2] 202)=r0:=⟨_,rfl⟩;have R:ae wr.heap.size wr r0:=by rw[←Q];exact(aD _ _).alloc (G _) _
   have j:Hid (r0.heap[q]?=I (.cells #[.int .i64 x.1,.int .i64 x.2.1,.int .i64 x.2.2] 202 (0,0))∧b<q∧q<r0.heap.size):=D ⟨by rw[←Q,←P];exact al wr _,by rw[←P];exact i.o.2,by rw[←Q,←P];simp⟩;have HV:=D Q;have S:=D P;have s:=D R;have C:Hid (l.length+60+30*k+300<80000000):=D (by have:=HL.o;have:=HN.o;have:=HF.o.nv;have:=HF.o.nr;have:=HF.o.ne;have:=HF.o.ng;have:=HF.o.ns;have:=HF.o.nb;omega);clear r v hx Q P R H;go_upto_region 5 with fail
   rw[HV.o,S.o];clear c0 c1 c2 HV S;have e:=D (e.o.keep s.o (G _));have d:=D (d.o.keep s.o (G _));have g:=D (g.o.trans (But.of_below s.o));have i:=D (⟨(s.o.block b i.o.2).trans i.o.1,ac i.o.2 s.o.size⟩:_∧_);have u:=j.o.1;obtain⟨X,q1,q2,-⟩:=aW u;clear u;go_upto_region 6 with((go_at_call 110;refine(js _ p _ _ [x.1,x.2.1,x.2.2] d.o rfl 3 rfl A (by have:=C.o;have:=f.o;omega)).mono ?_);rintro en w9 ⟨rfl,T,m,n,a⟩;have e:=D (e.o.mX d.o a.o);have i:=D (⟨(a.o.block b i.o.2 (by have:=t.o;omega)).trans i.o.1,ac i.o.2 a.o.size⟩:_∧_);have j:=D (⟨(a.o.block q j.o.2.2 (by have:=t.o;have:=j.o.2.1;omega)).trans j.o.1,j.o.2.1,ac j.o.2.2 a.o.size⟩:_∧_∧_);have g:=D (g.o.trans a.o);have f:Hid (T.length≤_):=D (aa n.o (cw f.o _));have d:=m;have u:=j.o.1;obtain⟨X,q1,q2,-⟩:=aW u;clear m n a u)
   have e0:Hid (k+1≤c.v.length):=D L.o;have f0:Hid (_≤l.length+60+30*(k+1)):=D (aa f.o A);clear X q1 q2;go_wp2;go_roundw
   case rel=>exact⟨k+1,_,by go_num,e0,d,f0,e,i,g⟩
   case measure=>exact bA L.o _ eT
  ·have g0:k=c.v.length:=by have:=a0.o;omega
   subst g0;have E:=f;have HC:=e;have y:=g;clear f e g d0;obtain⟨b0,b1,b2,b3,b4,b5⟩:=ah i.o.1;go_wp2;clear b0 b1 b2 b3 b4 b5
   go_loopw[57] (fun vk wr=>∃(k:Nat)(l':List UInt8),vk=.int .i64 k∧Hid (k≤c.r.length)∧Hid (mJ wr p l')∧Hid (l'.length≤l.length+60+30*c.v.length+150*k)∧Hid (bB wr B ⟨(va,vc),(ra,rc),(ea,ec),(ga,gc),(sa,sc),(ba,bc)⟩ c)∧Hid (wr.heap[b]?=I (.cells (di va c.v.length vc ra c.r.length rc ea c.e.length ec ga c.g.length gc sa c.s.length sc ba c.b.length bc) 47 (0,0))∧b<wr.heap.size)∧Hid (But p w wr)) (fun vk _=>c.r.length-(bp vk).toNat)
   case atStart=>exact⟨0,_,rfl,D (aw _),d,D (by have:=E.o;omega),HC,i,y⟩
   case round=>
    clear d E HC i y;obtain⟨k,l',rfl,a0,d,f,e,i,g⟩:=hrel;rcases aL k c.r.length with v | d0
    ·obtain⟨F,o,H,j0,r⟩:=cc.at e.o.r.sl eJ.len eJ.pos (aD _ _) (G _) k v
     have K:ra=I ⟨F,o,J⟩:=H;subst K;generalize hx:c.r[k]=x at*;have h0:=D (HF.o.tr x (by rw[←hx];exact dj v));have c0:wr.cell? ⟨F,o+k*7,J⟩=I (.string ⟨⟨x.key⟩⟩):=r 0 _ rfl;have c1:wr.cell? ⟨F,o+k*7+1,J⟩=I (.string ⟨⟨x.tx⟩⟩):=r 1 _ rfl;have c2:wr.cell? ⟨F,o+k*7+2,J⟩=I (.int .i64 x.v):=r 2 _ rfl;have c3:wr.cell? ⟨F,o+k*7+3,J⟩=I (.int .i64 x.t):=r 3 _ rfl;have c4:wr.cell? ⟨F,o+k*7+4,J⟩=I (.int .i64 x.d.1):=r 4 _ rfl;have c5:wr.cell? ⟨F,o+k*7+5,J⟩=I (.int .i64 x.d.2.1):=r 5 _ rfl;have c6:wr.cell? ⟨F,o+k*7+6,J⟩=I (.int .i64 x.d.2.2):=r 6 _ rfl;have k0:(k:Int)<c.r.length:=A
     have L:=D v;have e9:bi ((k:Int)+1)=(k:Int)+1:=ag _ (by have:=HF.o.nr;have:=HN.o;omega);obtain⟨q,P⟩:∃q,wr.heap.size=q:=⟨_,rfl⟩;obtain⟨r0,Q⟩:∃r0,wr.alloc (.cells (F5 x.key x.tx x.v x.t x.d.1 x.d.2.1 x.d.2.2) 204)=r0:=⟨_,rfl⟩;have R:ae wr.heap.size wr r0:=by rw[←Q];exact(aD _ _).alloc (G _) _
     have j:Hid (r0.heap[q]?=I (.cells (F5 x.key x.tx x.v x.t x.d.1 x.d.2.1 x.d.2.2) 204 (0,0))∧b<q∧q<r0.heap.size):=D ⟨by rw[←Q,←P];exact al wr _,by rw[←P];exact i.o.2,by rw[←Q,←P];simp⟩;have HV:=D Q;have S:=D P;have s:=D R;have C:Hid (l.length+60+30*c.v.length+150*k+300<80000000):=D (by have:=HL.o;have:=HN.o;have:=HF.o.nv;have:=HF.o.nr;have:=HF.o.ne;have:=HF.o.ng;have:=HF.o.ns;have:=HF.o.nb;omega);clear r v hx Q P R H;go_upto_region 10 with fail
     rw[HV.o,S.o];clear c0 c1 c2 c3 c4 c5 c6 HV S;have e:=D (e.o.keep s.o (G _));have d:=D (d.o.keep s.o (G _));have g:=D (g.o.trans (But.of_below s.o));have i:=D (⟨(s.o.block b i.o.2).trans i.o.1,ac i.o.2 s.o.size⟩:_∧_);have u:=j.o.1;obtain⟨X,q1,q2,q3,q4,q5,q6⟩:=pH u;clear u;go_upto_region 11 with((go_at_call 111;refine(nN _ p _ x.key d.o (by have:=C.o;have:=f.o;omega) (h0.o.1)).mono ?_);rintro en w9 ⟨rfl,T,m,n,a⟩;have e:=D (e.o.mX d.o a.o);have i:=D (⟨(a.o.block b i.o.2 (by have:=t.o;omega)).trans i.o.1,ac i.o.2 a.o.size⟩:_∧_);have j:=D (⟨(a.o.block q j.o.2.2 (by have:=t.o;have:=j.o.2.1;omega)).trans j.o.1,j.o.2.1,ac j.o.2.2 a.o.size⟩:_∧_∧_);have g:=D (g.o.trans a.o);have f:Hid (T.length≤_):=D (aa n.o (cw f.o _));have d:=m;have u:=j.o.1;obtain⟨X,q1,q2,q3,q4,q5,q6⟩:=pH u;clear m n a u)
     go_upto_region 12 with((go_at_call 111;refine(nN _ p _ x.tx d.o (by have:=C.o;have:=f.o;omega) (h0.o.2)).mono ?_);rintro en w9 ⟨rfl,T,m,n,a⟩;have e:=D (e.o.mX d.o a.o);have i:=D (⟨(a.o.block b i.o.2 (by have:=t.o;omega)).trans i.o.1,ac i.o.2 a.o.size⟩:_∧_);have j:=D (⟨(a.o.block q j.o.2.2 (by have:=t.o;have:=j.o.2.1;omega)).trans j.o.1,j.o.2.1,ac j.o.2.2 a.o.size⟩:_∧_∧_);have g:=D (g.o.trans a.o);have f:Hid (T.length≤_):=D (aa n.o (cw f.o _));have d:=m;have u:=j.o.1;obtain⟨X,q1,q2,q3,q4,q5,q6⟩:=pH u;clear m n a u)
     go_upto_region 13 with((go_at_call 110;refine(js _ p _ _ [x.v,x.t] d.o rfl 2 rfl A (by have:=C.o;have:=f.o;omega)).mono ?_);rintro en w9 ⟨rfl,T,m,n,a⟩;have e:=D (e.o.mX d.o a.o);have i:=D (⟨(a.o.block b i.o.2 (by have:=t.o;omega)).trans i.o.1,ac i.o.2 a.o.size⟩:_∧_);have j:=D (⟨(a.o.block q j.o.2.2 (by have:=t.o;have:=j.o.2.1;omega)).trans j.o.1,j.o.2.1,ac j.o.2.2 a.o.size⟩:_∧_∧_);have g:=D (g.o.trans a.o);have f:Hid (T.length≤_):=D (aa n.o (cw f.o _));have d:=m;have u:=j.o.1;obtain⟨X,q1,q2,q3,q4,q5,q6⟩:=pH u;clear m n a u)
     go_upto_region 14 with((go_at_call 269;refine(vr _ p _ x.d.1 x.d.2.1 x.d.2.2 d.o (by have:=C.o;have:=f.o;omega)).mono ?_);rintro en w9 ⟨rfl,T,m,n,a⟩;have e:=D (e.o.mX d.o a.o);have i:=D (⟨(a.o.block b i.o.2 (by have:=t.o;omega)).trans i.o.1,ac i.o.2 a.o.size⟩:_∧_);have j:=D (⟨(a.o.block q j.o.2.2 (by have:=t.o;have:=j.o.2.1;omega)).trans j.o.1,j.o.2.1,ac j.o.2.2 a.o.size⟩:_∧_∧_);have g:=D (g.o.trans a.o);have f:Hid (T.length≤_):=D (aa n.o (cw f.o _));have d:=m;have u:=j.o.1;obtain⟨X,q1,q2,q3,q4,q5,q6⟩:=pH u;clear m n a u)
     have e0:Hid (k+1≤c.r.length):=D L.o;have f0:Hid (_≤l.length+60+30*c.v.length+150*(k+1)):=D (aa f.o A);clear X q1 q2 q3 q4 q5 q6;go_wp2;go_roundw
     case rel=>exact⟨k+1,_,by go_num,e0,d,f0,e,i,g⟩
     case measure=>exact bA L.o _ eT
    ·have g0:k=c.r.length:=by have:=a0.o;omega
     subst g0;have E:=f;have HC:=e;have y:=g;clear f e g d0;obtain⟨b0,b1,b2,b3,b4,b5⟩:=ah i.o.1;go_wp2;clear b0 b1 b2 b3 b4 b5
     go_loopw[84] (fun vk wr=>∃(k:Nat)(l':List UInt8),vk=.int .i64 k∧Hid (k≤c.e.length)∧Hid (mJ wr p l')∧Hid (l'.length≤l.length+60+30*c.v.length+150*c.r.length+140*k)∧Hid (bB wr B ⟨(va,vc),(ra,rc),(ea,ec),(ga,gc),(sa,sc),(ba,bc)⟩ c)∧Hid (wr.heap[b]?=I (.cells (di va c.v.length vc ra c.r.length rc ea c.e.length ec ga c.g.length gc sa c.s.length sc ba c.b.length bc) 47 (0,0))∧b<wr.heap.size)∧Hid (But p w wr)) (fun vk _=>c.e.length-(bp vk).toNat)
     case atStart=>exact⟨0,_,rfl,D (aw _),d,D (by have:=E.o;omega),HC,i,y⟩
     case round=>
      clear d E HC i y;obtain⟨k,l',rfl,a0,d,f,e,i,g⟩:=hrel;rcases aL k c.e.length with v | d0
      ·obtain⟨F,o,H,j0,r⟩:=cc.at e.o.e.sl dD.len dD.pos (aD _ _) (G _) k v
       have K:ea=I ⟨F,o,J⟩:=H;subst K;generalize hx:c.e[k]=x at*;have h0:=D (HF.o.te x (by rw[←hx];exact dj v));have c0:wr.cell? ⟨F,o+k*6,J⟩=I (.string ⟨⟨x.key⟩⟩):=r 0 _ rfl;have c1:wr.cell? ⟨F,o+k*6+1,J⟩=I (.string ⟨⟨x.tx⟩⟩):=r 1 _ rfl;have c2:wr.cell? ⟨F,o+k*6+2,J⟩=I (.int .i64 x.v):=r 2 _ rfl;have c3:wr.cell? ⟨F,o+k*6+3,J⟩=I (.int .i64 x.d.1):=r 3 _ rfl;have c4:wr.cell? ⟨F,o+k*6+4,J⟩=I (.int .i64 x.d.2.1):=r 4 _ rfl;have c5:wr.cell? ⟨F,o+k*6+5,J⟩=I (.int .i64 x.d.2.2):=r 5 _ rfl;have k0:(k:Int)<c.e.length:=A
       have L:=D v;have e9:bi ((k:Int)+1)=(k:Int)+1:=ag _ (by have:=HF.o.ne;have:=HN.o;omega);obtain⟨q,P⟩:∃q,wr.heap.size=q:=⟨_,rfl⟩;obtain⟨r0,Q⟩:∃r0,wr.alloc (.cells (vR x.key x.tx x.v x.d.1 x.d.2.1 x.d.2.2) 206)=r0:=⟨_,rfl⟩;have R:ae wr.heap.size wr r0:=by rw[←Q];exact(aD _ _).alloc (G _) _
       have j:Hid (r0.heap[q]?=I (.cells (vR x.key x.tx x.v x.d.1 x.d.2.1 x.d.2.2) 206 (0,0))∧b<q∧q<r0.heap.size):=D ⟨by rw[←Q,←P];exact al wr _,by rw[←P];exact i.o.2,by rw[←Q,←P];simp⟩;have HV:=D Q;have S:=D P;have s:=D R;have C:Hid (l.length+60+30*c.v.length+150*c.r.length+140*k+300<80000000):=D (by have:=HL.o;have:=HN.o;have:=HF.o.nv;have:=HF.o.nr;have:=HF.o.ne;have:=HF.o.ng;have:=HF.o.ns;have:=HF.o.nb;omega);clear r v hx Q P R H;go_upto_region 18 with fail
       rw[HV.o,S.o];clear c0 c1 c2 c3 c4 c5 HV S;have e:=D (e.o.keep s.o (G _));have d:=D (d.o.keep s.o (G _));have g:=D (g.o.trans (But.of_below s.o));have i:=D (⟨(s.o.block b i.o.2).trans i.o.1,ac i.o.2 s.o.size⟩:_∧_);have u:=j.o.1;obtain⟨X,q1,q2,q3,q4,q5⟩:=ah u;clear u;go_upto_region 19 with((go_at_call 111;refine(nN _ p _ x.key d.o (by have:=C.o;have:=f.o;omega) (h0.o.1)).mono ?_);rintro en w9 ⟨rfl,T,m,n,a⟩;have e:=D (e.o.mX d.o a.o);have i:=D (⟨(a.o.block b i.o.2 (by have:=t.o;omega)).trans i.o.1,ac i.o.2 a.o.size⟩:_∧_);have j:=D (⟨(a.o.block q j.o.2.2 (by have:=t.o;have:=j.o.2.1;omega)).trans j.o.1,j.o.2.1,ac j.o.2.2 a.o.size⟩:_∧_∧_);have g:=D (g.o.trans a.o);have f:Hid (T.length≤_):=D (aa n.o (cw f.o _));have d:=m;have u:=j.o.1;obtain⟨X,q1,q2,q3,q4,q5⟩:=ah u;clear m n a u)
       go_upto_region 20 with((go_at_call 111;refine(nN _ p _ x.tx d.o (by have:=C.o;have:=f.o;omega) (h0.o.2)).mono ?_);rintro en w9 ⟨rfl,T,m,n,a⟩;have e:=D (e.o.mX d.o a.o);have i:=D (⟨(a.o.block b i.o.2 (by have:=t.o;omega)).trans i.o.1,ac i.o.2 a.o.size⟩:_∧_);have j:=D (⟨(a.o.block q j.o.2.2 (by have:=t.o;have:=j.o.2.1;omega)).trans j.o.1,j.o.2.1,ac j.o.2.2 a.o.size⟩:_∧_∧_);have g:=D (g.o.trans a.o);have f:Hid (T.length≤_):=D (aa n.o (cw f.o _));have d:=m;have u:=j.o.1;obtain⟨X,q1,q2,q3,q4,q5⟩:=ah u;clear m n a u)
       go_upto_region 21 with((go_at_call 110;refine(js _ p _ _ [x.v] d.o rfl 1 rfl A (by have:=C.o;have:=f.o;omega)).mono ?_);rintro en w9 ⟨rfl,T,m,n,a⟩;have e:=D (e.o.mX d.o a.o);have i:=D (⟨(a.o.block b i.o.2 (by have:=t.o;omega)).trans i.o.1,ac i.o.2 a.o.size⟩:_∧_);have j:=D (⟨(a.o.block q j.o.2.2 (by have:=t.o;have:=j.o.2.1;omega)).trans j.o.1,j.o.2.1,ac j.o.2.2 a.o.size⟩:_∧_∧_);have g:=D (g.o.trans a.o);have f:Hid (T.length≤_):=D (aa n.o (cw f.o _));have d:=m;have u:=j.o.1;obtain⟨X,q1,q2,q3,q4,q5⟩:=ah u;clear m n a u)
       go_upto_region 22 with((go_at_call 269;refine(vr _ p _ x.d.1 x.d.2.1 x.d.2.2 d.o (by have:=C.o;have:=f.o;omega)).mono ?_);rintro en w9 ⟨rfl,T,m,n,a⟩;have e:=D (e.o.mX d.o a.o);have i:=D (⟨(a.o.block b i.o.2 (by have:=t.o;omega)).trans i.o.1,ac i.o.2 a.o.size⟩:_∧_);have j:=D (⟨(a.o.block q j.o.2.2 (by have:=t.o;have:=j.o.2.1;omega)).trans j.o.1,j.o.2.1,ac j.o.2.2 a.o.size⟩:_∧_∧_);have g:=D (g.o.trans a.o);have f:Hid (T.length≤_):=D (aa n.o (cw f.o _));have d:=m;have u:=j.o.1;obtain⟨X,q1,q2,q3,q4,q5⟩:=ah u;clear m n a u)
       have e0:Hid (k+1≤c.e.length):=D L.o;have f0:Hid (_≤l.length+60+30*c.v.length+150*c.r.length+140*(k+1)):=D (aa f.o A);clear X q1 q2 q3 q4 q5;go_wp2;go_roundw
       case rel=>exact⟨k+1,_,by go_num,e0,d,f0,e,i,g⟩
       case measure=>exact bA L.o _ eT
      ·have g0:k=c.e.length:=by have:=a0.o;omega
       subst g0;have E:=f;have HC:=e;have y:=g;clear f e g d0;obtain⟨b0,b1,b2,b3,b4,b5⟩:=ah i.o.1;go_wp2;clear b0 b1 b2 b3 b4 b5
       go_loopw[109] (fun vk wr=>∃(k:Nat)(l':List UInt8),vk=.int .i64 k∧Hid (k≤c.g.length)∧Hid (mJ wr p l')∧Hid (l'.length≤l.length+60+30*c.v.length+150*c.r.length+140*c.e.length+30*k)∧Hid (bB wr B ⟨(va,vc),(ra,rc),(ea,ec),(ga,gc),(sa,sc),(ba,bc)⟩ c)∧Hid (wr.heap[b]?=I (.cells (di va c.v.length vc ra c.r.length rc ea c.e.length ec ga c.g.length gc sa c.s.length sc ba c.b.length bc) 47 (0,0))∧b<wr.heap.size)∧Hid (But p w wr)) (fun vk _=>c.g.length-(bp vk).toNat)
       case atStart=>exact⟨0,_,rfl,D (aw _),d,D (by have:=E.o;omega),HC,i,y⟩
       case round=>
        clear d E HC i y;obtain⟨k,l',rfl,a0,d,f,e,i,g⟩:=hrel;rcases aL k c.g.length with v | d0
        ·obtain⟨F,o,H,j0,r⟩:=cc.at e.o.g.sl cn.len cn.pos (aD _ _) (G _) k v
         have K:ga=I ⟨F,o,J⟩:=H;subst K;generalize hx:c.g[k]=x at*;have c0:wr.cell? ⟨F,o+k*3,J⟩=I (.int .i64 x.1):=r 0 _ rfl;have c1:wr.cell? ⟨F,o+k*3+1,J⟩=I (.int .i64 x.2.1):=r 1 _ rfl;have c2:wr.cell? ⟨F,o+k*3+2,J⟩=I (.int .i64 x.2.2):=r 2 _ rfl;have k0:(k:Int)<c.g.length:=A
         have L:=D v;have e9:bi ((k:Int)+1)=(k:Int)+1:=ag _ (by have:=HF.o.ng;have:=HN.o;omega);obtain⟨q,P⟩:∃q,wr.heap.size=q:=⟨_,rfl⟩;obtain⟨r0,Q⟩:∃r0,wr.alloc (.cells #[.int .i64 x.1,.int .i64 x.2.1,.int .i64 x.2.2] 73)=r0:=⟨_,rfl⟩;have R:ae wr.heap.size wr r0:=by rw[←Q];exact(aD _ _).alloc (G _) _
         have j:Hid (r0.heap[q]?=I (.cells #[.int .i64 x.1,.int .i64 x.2.1,.int .i64 x.2.2] 73 (0,0))∧b<q∧q<r0.heap.size):=D ⟨by rw[←Q,←P];exact al wr _,by rw[←P];exact i.o.2,by rw[←Q,←P];simp⟩;have HV:=D Q;have S:=D P;have s:=D R;have C:Hid (l.length+60+30*c.v.length+150*c.r.length+140*c.e.length+30*k+300<80000000):=D (by have:=HL.o;have:=HN.o;have:=HF.o.nv;have:=HF.o.nr;have:=HF.o.ne;have:=HF.o.ng;have:=HF.o.ns;have:=HF.o.nb;omega);clear r v hx Q P R H;go_upto_region 26 with fail
         rw[HV.o,S.o];clear c0 c1 c2 HV S;have e:=D (e.o.keep s.o (G _));have d:=D (d.o.keep s.o (G _));have g:=D (g.o.trans (But.of_below s.o));have i:=D (⟨(s.o.block b i.o.2).trans i.o.1,ac i.o.2 s.o.size⟩:_∧_);have u:=j.o.1;obtain⟨X,q1,q2,-⟩:=aW u;clear u;go_upto_region 27 with((go_at_call 269;refine(vr _ p _ x.1 x.2.1 x.2.2 d.o (by have:=C.o;have:=f.o;omega)).mono ?_);rintro en w9 ⟨rfl,T,m,n,a⟩;have e:=D (e.o.mX d.o a.o);have i:=D (⟨(a.o.block b i.o.2 (by have:=t.o;omega)).trans i.o.1,ac i.o.2 a.o.size⟩:_∧_);have j:=D (⟨(a.o.block q j.o.2.2 (by have:=t.o;have:=j.o.2.1;omega)).trans j.o.1,j.o.2.1,ac j.o.2.2 a.o.size⟩:_∧_∧_);have g:=D (g.o.trans a.o);have f:Hid (T.length≤_):=D (aa n.o (cw f.o _));have d:=m;have u:=j.o.1;obtain⟨X,q1,q2,-⟩:=aW u;clear m n a u)
         have e0:Hid (k+1≤c.g.length):=D L.o;have f0:Hid (_≤l.length+60+30*c.v.length+150*c.r.length+140*c.e.length+30*(k+1)):=D (aa f.o A);clear X q1 q2;go_wp2;go_roundw
         case rel=>exact⟨k+1,_,by go_num,e0,d,f0,e,i,g⟩
         case measure=>exact bA L.o _ eT
        ·have g0:k=c.g.length:=by have:=a0.o;omega
         subst g0;have E:=f;have HC:=e;have y:=g;clear f e g d0;obtain⟨b0,b1,b2,b3,b4,b5⟩:=ah i.o.1;go_wp2;clear b0 b1 b2 b3 b4 b5
         go_loopw[120] (fun vk wr=>∃(k:Nat)(l':List UInt8),vk=.int .i64 k∧Hid (k≤c.s.length)∧Hid (mJ wr p l')∧Hid (l'.length≤l.length+60+30*c.v.length+150*c.r.length+140*c.e.length+30*c.g.length+60*k)∧Hid (bB wr B ⟨(va,vc),(ra,rc),(ea,ec),(ga,gc),(sa,sc),(ba,bc)⟩ c)∧Hid (wr.heap[b]?=I (.cells (di va c.v.length vc ra c.r.length rc ea c.e.length ec ga c.g.length gc sa c.s.length sc ba c.b.length bc) 47 (0,0))∧b<wr.heap.size)∧Hid (But p w wr)) (fun vk _=>c.s.length-(bp vk).toNat)
         case atStart=>exact⟨0,_,rfl,D (aw _),d,D (by have:=E.o;omega),HC,i,y⟩
         case round=>
          clear d E HC i y;obtain⟨k,l',rfl,a0,d,f,e,i,g⟩:=hrel;rcases aL k c.s.length with v | d0
          ·obtain⟨F,o,H,j0,r⟩:=cc.at e.o.s.sl fh.len fh.pos (aD _ _) (G _) k v
           have K:sa=I ⟨F,o,J⟩:=H;subst K;generalize hx:c.s[k]=x at*;have h0:=D (HF.o.ts x (by rw[←hx];exact dj v));have c0:wr.cell? ⟨F,o+k*2,J⟩=I (.string ⟨⟨x.key⟩⟩):=r 0 _ rfl;have c1:wr.cell? ⟨F,o+k*2+1,J⟩=I (.int .i64 x.n):=r 1 _ rfl;have k0:(k:Int)<c.s.length:=A
           have L:=D v;have e9:bi ((k:Int)+1)=(k:Int)+1:=ag _ (by have:=HF.o.ns;have:=HN.o;omega);obtain⟨q,P⟩:∃q,wr.heap.size=q:=⟨_,rfl⟩;obtain⟨r0,Q⟩:∃r0,wr.alloc (.cells #[.string ⟨⟨x.key⟩⟩,.int .i64 x.n] 208)=r0:=⟨_,rfl⟩;have R:ae wr.heap.size wr r0:=by rw[←Q];exact(aD _ _).alloc (G _) _
           have j:Hid (r0.heap[q]?=I (.cells #[.string ⟨⟨x.key⟩⟩,.int .i64 x.n] 208 (0,0))∧b<q∧q<r0.heap.size):=D ⟨by rw[←Q,←P];exact al wr _,by rw[←P];exact i.o.2,by rw[←Q,←P];simp⟩;have HV:=D Q;have S:=D P;have s:=D R;have C:Hid (l.length+60+30*c.v.length+150*c.r.length+140*c.e.length+30*c.g.length+60*k+300<80000000):=D (by have:=HL.o;have:=HN.o;have:=HF.o.nv;have:=HF.o.nr;have:=HF.o.ne;have:=HF.o.ng;have:=HF.o.ns;have:=HF.o.nb;omega);clear r v hx Q P R H;go_upto_region 31 with fail
           rw[HV.o,S.o];clear c0 c1 HV S;have e:=D (e.o.keep s.o (G _));have d:=D (d.o.keep s.o (G _));have g:=D (g.o.trans (But.of_below s.o));have i:=D (⟨(s.o.block b i.o.2).trans i.o.1,ac i.o.2 s.o.size⟩:_∧_);have u:=j.o.1;obtain⟨X,q1,-,-,-⟩:=cS u;clear u;go_upto_region 32 with((go_at_call 111;refine(nN _ p _ x.key d.o (by have:=C.o;have:=f.o;omega) h0.o).mono ?_);rintro en w9 ⟨rfl,T,m,n,a⟩;have e:=D (e.o.mX d.o a.o);have i:=D (⟨(a.o.block b i.o.2 (by have:=t.o;omega)).trans i.o.1,ac i.o.2 a.o.size⟩:_∧_);have j:=D (⟨(a.o.block q j.o.2.2 (by have:=t.o;have:=j.o.2.1;omega)).trans j.o.1,j.o.2.1,ac j.o.2.2 a.o.size⟩:_∧_∧_);have g:=D (g.o.trans a.o);have f:Hid (T.length≤_):=D (aa n.o (cw f.o _));have d:=m;have u:=j.o.1;obtain⟨X,q1,-,-,-⟩:=cS u;clear m n a u)
           go_upto_region 33 with((go_at_call 110;refine(js _ p _ _ [x.n] d.o rfl 1 rfl A (by have:=C.o;have:=f.o;omega)).mono ?_);rintro en w9 ⟨rfl,T,m,n,a⟩;have e:=D (e.o.mX d.o a.o);have i:=D (⟨(a.o.block b i.o.2 (by have:=t.o;omega)).trans i.o.1,ac i.o.2 a.o.size⟩:_∧_);have j:=D (⟨(a.o.block q j.o.2.2 (by have:=t.o;have:=j.o.2.1;omega)).trans j.o.1,j.o.2.1,ac j.o.2.2 a.o.size⟩:_∧_∧_);have g:=D (g.o.trans a.o);have f:Hid (T.length≤_):=D (aa n.o (cw f.o _));have d:=m;have u:=j.o.1;obtain⟨X,q1,-,-,-⟩:=cS u;clear m n a u)
           have e0:Hid (k+1≤c.s.length):=D L.o;have f0:Hid (_≤l.length+60+30*c.v.length+150*c.r.length+140*c.e.length+30*c.g.length+60*(k+1)):=D (aa f.o A);clear X q1;go_wp2;go_roundw
           case rel=>exact⟨k+1,_,by go_num,e0,d,f0,e,i,g⟩
           case measure=>exact bA L.o _ eT
          ·have g0:k=c.s.length:=by have:=a0.o;omega
           subst g0;have E:=f;have HC:=e;have y:=g;clear f e g d0;obtain⟨b0,b1,b2,b3,b4,b5⟩:=ah i.o.1;go_wp2;clear b0 b1 b2 b3 b4 b5
           go_loopw[137] (fun vk wr=>∃(k:Nat)(l':List UInt8),vk=.int .i64 k∧Hid (k≤c.b.length)∧Hid (mJ wr p l')∧Hid (l'.length≤l.length+60+30*c.v.length+150*c.r.length+140*c.e.length+30*c.g.length+60*c.s.length+100*k)∧Hid (bB wr B ⟨(va,vc),(ra,rc),(ea,ec),(ga,gc),(sa,sc),(ba,bc)⟩ c)∧Hid (wr.heap[b]?=I (.cells (di va c.v.length vc ra c.r.length rc ea c.e.length ec ga c.g.length gc sa c.s.length sc ba c.b.length bc) 47 (0,0))∧b<wr.heap.size)∧Hid (But p w wr)) (fun vk _=>c.b.length-(bp vk).toNat)
           case atStart=>exact⟨0,_,rfl,D (aw _),d,D (by have:=E.o;omega),HC,i,y⟩
           case round=>
            clear d E HC i y;obtain⟨k,l',rfl,a0,d,f,e,i,g⟩:=hrel;rcases aL k c.b.length with v | d0
            ·obtain⟨F,o,H,j0,r⟩:=cc.at e.o.b.sl eV.len eV.pos (aD _ _) (G _) k v
             have K:ba=I ⟨F,o,J⟩:=H;subst K;generalize hx:c.b[k]=x at*;have h0:=D (HF.o.tb x (by rw[←hx];exact dj v));have c0:wr.cell? ⟨F,o+k*6,J⟩=I (.int .i64 x.i):=r 0 _ rfl;have c1:wr.cell? ⟨F,o+k*6+1,J⟩=I (.string ⟨⟨x.tx⟩⟩):=r 1 _ rfl;have c2:wr.cell? ⟨F,o+k*6+2,J⟩=I (.int .i64 x.v):=r 2 _ rfl;have c3:wr.cell? ⟨F,o+k*6+3,J⟩=I (.int .i64 x.d.1):=r 3 _ rfl;have c4:wr.cell? ⟨F,o+k*6+4,J⟩=I (.int .i64 x.d.2.1):=r 4 _ rfl;have c5:wr.cell? ⟨F,o+k*6+5,J⟩=I (.int .i64 x.d.2.2):=r 5 _ rfl;have k0:(k:Int)<c.b.length:=A
             have L:=D v;have e9:bi ((k:Int)+1)=(k:Int)+1:=ag _ (by have:=HF.o.nb;have:=HN.o;omega);obtain⟨q,P⟩:∃q,wr.heap.size=q:=⟨_,rfl⟩;obtain⟨r0,Q⟩:∃r0,wr.alloc (.cells (F4 x.i x.tx x.v x.d.1 x.d.2.1 x.d.2.2) 210)=r0:=⟨_,rfl⟩;have R:ae wr.heap.size wr r0:=by rw[←Q];exact(aD _ _).alloc (G _) _
             have j:Hid (r0.heap[q]?=I (.cells (F4 x.i x.tx x.v x.d.1 x.d.2.1 x.d.2.2) 210 (0,0))∧b<q∧q<r0.heap.size):=D ⟨by rw[←Q,←P];exact al wr _,by rw[←P];exact i.o.2,by rw[←Q,←P];simp⟩;have HV:=D Q;have S:=D P;have s:=D R;have C:Hid (l.length+60+30*c.v.length+150*c.r.length+140*c.e.length+30*c.g.length+60*c.s.length+100*k+300<80000000):=D (by have:=HL.o;have:=HN.o;have:=HF.o.nv;have:=HF.o.nr;have:=HF.o.ne;have:=HF.o.ng;have:=HF.o.ns;have:=HF.o.nb;omega);clear r v hx Q P R H;go_upto_region 37 with fail
             rw[HV.o,S.o];clear c0 c1 c2 c3 c4 c5 HV S;have e:=D (e.o.keep s.o (G _));have d:=D (d.o.keep s.o (G _));have g:=D (g.o.trans (But.of_below s.o));have i:=D (⟨(s.o.block b i.o.2).trans i.o.1,ac i.o.2 s.o.size⟩:_∧_);have u:=j.o.1;obtain⟨X,q1,q2,q3,q4,q5⟩:=ah u;clear u;go_upto_region 38 with((go_at_call 110;refine(js _ p _ _ [x.i,x.v] d.o rfl 2 rfl A (by have:=C.o;have:=f.o;omega)).mono ?_);rintro en w9 ⟨rfl,T,m,n,a⟩;have e:=D (e.o.mX d.o a.o);have i:=D (⟨(a.o.block b i.o.2 (by have:=t.o;omega)).trans i.o.1,ac i.o.2 a.o.size⟩:_∧_);have j:=D (⟨(a.o.block q j.o.2.2 (by have:=t.o;have:=j.o.2.1;omega)).trans j.o.1,j.o.2.1,ac j.o.2.2 a.o.size⟩:_∧_∧_);have g:=D (g.o.trans a.o);have f:Hid (T.length≤_):=D (aa n.o (cw f.o _));have d:=m;have u:=j.o.1;obtain⟨X,q1,q2,q3,q4,q5⟩:=ah u;clear m n a u)
             go_upto_region 39 with((go_at_call 111;refine(nN _ p _ x.tx d.o (by have:=C.o;have:=f.o;omega) h0.o).mono ?_);rintro en w9 ⟨rfl,T,m,n,a⟩;have e:=D (e.o.mX d.o a.o);have i:=D (⟨(a.o.block b i.o.2 (by have:=t.o;omega)).trans i.o.1,ac i.o.2 a.o.size⟩:_∧_);have j:=D (⟨(a.o.block q j.o.2.2 (by have:=t.o;have:=j.o.2.1;omega)).trans j.o.1,j.o.2.1,ac j.o.2.2 a.o.size⟩:_∧_∧_);have g:=D (g.o.trans a.o);have f:Hid (T.length≤_):=D (aa n.o (cw f.o _));have d:=m;have u:=j.o.1;obtain⟨X,q1,q2,q3,q4,q5⟩:=ah u;clear m n a u)
             go_upto_region 40 with((go_at_call 269;refine(vr _ p _ x.d.1 x.d.2.1 x.d.2.2 d.o (by have:=C.o;have:=f.o;omega)).mono ?_);rintro en w9 ⟨rfl,T,m,n,a⟩;have e:=D (e.o.mX d.o a.o);have i:=D (⟨(a.o.block b i.o.2 (by have:=t.o;omega)).trans i.o.1,ac i.o.2 a.o.size⟩:_∧_);have j:=D (⟨(a.o.block q j.o.2.2 (by have:=t.o;have:=j.o.2.1;omega)).trans j.o.1,j.o.2.1,ac j.o.2.2 a.o.size⟩:_∧_∧_);have g:=D (g.o.trans a.o);have f:Hid (T.length≤_):=D (aa n.o (cw f.o _));have d:=m;have u:=j.o.1;obtain⟨X,q1,q2,q3,q4,q5⟩:=ah u;clear m n a u)
             have e0:Hid (k+1≤c.b.length):=D L.o;have f0:Hid (_≤l.length+60+30*c.v.length+150*c.r.length+140*c.e.length+30*c.g.length+60*c.s.length+100*(k+1)):=D (aa f.o A);clear X q1 q2 q3 q4 q5;go_wp2;go_roundw
             case rel=>exact⟨k+1,_,by go_num,e0,d,f0,e,i,g⟩
             case measure=>exact bA L.o _ eT
            ·have g0:k=c.b.length:=by have:=a0.o;omega
             subst g0;have E:=f;have HC:=e;have y:=g;clear f e g d0;go_wp2
             go_end0
             exact⟨rfl,_,d,D (by have:=E.o;have:=HN.o;have:=HF.o.nv;have:=HF.o.nr;have:=HF.o.ne;have:=HF.o.ng;have:=HF.o.ns;have:=HF.o.nb;omega),y⟩
def Qt(w:V)(p:Nat)(l:List UInt8)(h:mJ w p l)(s:l.length<70000000):
  ar M 218 #[.pointer (I ⟨p,0,J⟩),.agg ka] w (C8 w p l 70):=by
 obtain⟨b,f⟩:∃b,w.heap.size=b:=⟨_,rfl⟩;obtain⟨W,g⟩:∃W,w.alloc (.cells ka 38)=W:=⟨_,rfl⟩;have a:ae w.heap.size w W:=by rw[←g];exact(aD _ _).alloc (G _) _
 have i:Hid (W.heap[b]?=I (.cells ka 38 (0,0))∧b<W.heap.size):=D ⟨by rw[←g,←f];exact al w _,by rw[←g,←f];simp⟩;have k:Hid (p<b):=D (by rw[←f];exact h.lt);have m:=D (h.keep a (G _));have c:Hid (But p w W):=D (But.of_below a);have t:=D s;have u:=D g;have C:=D f;clear h s g f a
 go_enter func218,ntmps218
 go_upto_region 1 with fail
 rw[u.o,C.o];clear u;obtain⟨c0,c1,c2,x,y,z,B⟩:=dZ i.o.1;go_upto_region 2 with((go_at_call 110;refine(js W p l _ [0,0,0,0,0,0,0] m.o rfl 7 rfl A (by have:=t.o;omega)).mono ?_);rintro en E ⟨rfl,F,n,j,d⟩)
 have i:=D ((d.o.block b i.o.2 (by have:=k.o;omega)).trans i.o.1);have c:=D (c.o.trans d.o);clear c0 c1 c2 x y z B d;obtain⟨c0,c1,c2,x,y,z,B⟩:=dZ i.o;go_wp2
 go_loopw[31] (fun v wr=>v=.int .i64 0∧wr=E) (fun _ _=>0)
 case atStart=>exact⟨rfl,rfl⟩
 case round=>
  obtain⟨rfl,e⟩:=hrel;subst e;go_wp2
  go_loopw[54] (fun v H=>v=.int .i64 0∧H=wr) (fun _ _=>0)
  case atStart=>exact⟨rfl,rfl⟩
  case round=>
   obtain⟨rfl,e⟩:=hrel;subst e;go_wp2_with fail
   refine(C9 _ p F (.slice J 0 0) [] n.o (cc.nil _ _ _) (by have:=t.o;have:=j.o;omega) bW).mono ?_;rintro en L ⟨rfl,K,o,q,r⟩;go_wp2
   go_end0
   exact⟨rfl,K,o,D (by have:=j.o;have:=q.o;simp at *;omega),D (c.o.trans r.o)⟩
structure Im(w wr:V)(b B:Nat)(x:eQ)(z:dH)(s:dV)(l:List UInt8)(JA:Nat):Prop where
 wi:mJ wr (b+1) l
 ll:l.length≤JA
 k0:Bx wr b (aF x z s) 55
 st:eg wr B z s
 bl:ae w.heap.size w wr
 lo:w.heap.size≤b
section
variable {w wr w2:V} {b B:Nat} {x:eQ} {z:dH} {s:dV} {l l2:List UInt8} {JA k:Nat}
theorem Im.step(h:Im w wr b B x z s l JA)(e:mJ w2 (b+1) l2)(g:l2.length≤l.length+k)(d:But (b+1) wr w2):Im w w2 b B x z s l2 (JA+k):=by
 have i:=h.wi.lt;have j:=h.ll;obtain⟨a,c,f,_⟩:=h.wi;exact⟨e,by omega,(d.block _ A A).trans h.k0,⟨h.st.c0.mX h.wi d,h.st.c1.mX h.wi d,h.st.c2.mX h.wi d,h.st.sb.C_ f aC d⟩,h.bl.trans (d.below h.bl.size (by have:=h.lo;omega)),h.lo⟩
theorem Im.keep{C:Nat}(h:Im w wr b B x z s l JA)(a:ae C wr w2)(c:wr.heap.size≤C):Im w w2 b B x z s l JA:=by
 have d:=h.wi.lt;exact⟨h.wi.keep a c,h.ll,h.k0.keep a A,h.st.keep a c,h.bl.trans (a.mono (aa h.bl.size c)),h.lo⟩
theorem Im.le(h:Im w wr b B x z s l JA){a:Nat}(c:JA≤a):Im w wr b B x z s l a:=⟨h.wi,aa h.ll c,h.k0,h.st,h.bl,h.lo⟩
end
def YV(x:eQ)(z:dH)(s:dV):List Z:=((aF x z s).drop 13).take 18
theorem SU(x:eQ)(z:dH)(s:dV)(w:V){k:Nat}(a:k<3):(pi 48 (.agg ⟨YV x z s⟩) (.int .i64 k)).run M w=.ok (.agg ⟨(z.at k).l (s.at k)⟩) w:=by
 rcases iU a with rfl | rfl | rfl<;>kernel_rfl
theorem LL(w:V)(B:Nat)(x:eQ)(z:dH)(s:dV)(N:Nat)(h:eg w B z s)(X:s.ok N)(hN:N≤4000):
  ar M 154 #[.agg ⟨aF x z s⟩] w (fun ev w'=>∃(l:List UInt8)(a:Option aB)(c:Nat),ev=.returned (.slice a l.length c)∧l.length<7000000∧Rd w' a (bX l)∧ae w.heap.size w w'):=by
 obtain⟨b,C⟩:∃b,w.heap.size=b:=⟨_,rfl⟩;obtain⟨W,E⟩:∃W,(w.alloc (.cells ⟨aF x z s⟩ 55)).alloc (.cells #[.slice J 0 0] 222)=W:=⟨_,rfl⟩;have t:ae w.heap.size w W:=by rw[←E];exact((aD _ _).alloc (G _) _).alloc bW _
 have e:Hid (Im w W b B x z s [] 0):=D ⟨⟨J,0,by rw[←E,←C];exact bO _ _ _,fun j u hu=>by cases hu⟩,G _,by rw[←E,←C];exact ce _ _ _,h.keep t (G _),t,bD C⟩;have HF:=D X;have HN:=D hN;have HW:=D E;have HE:=D C;clear E C h X hN t
 go_enter func154,ntmps154
 go_upto_region 2 with fail
 rw[HE.o];rw[HW.o];clear HW;have d:=Bx.has e.o.k0 45 rfl;simp only[aF]at d;go_upto_region 3 with((go_at_call 110;refine(js _ (b+1) _ _ [1,x.ep,0,0,0,x.rd,3,x.rq,0,0,0] e.o.wi rfl 11 rfl A (by have:=e.o.ll;omega)).mono ?_);rintro en F ⟨rfl,H,f,i,m⟩;have e:=D (e.o.step f.o i.o m.o);clear f i m)
 clear d;have d:=Bx.has e.o.k0 45 rfl;simp only[aF]at d;go_upto_region 4 with((go_at_call 217;refine(Gw _ (b+1) _ x.fe e.o.wi (by have:=e.o.ll;omega)).mono ?_);rintro en F ⟨rfl,H,f,i,m⟩;have e:=D (e.o.step f.o i.o m.o);clear f i m)
 clear d;have d:=Bx.has e.o.k0 45 rfl;simp only[aF]at d;go_upto_region 5 with fail
 clear d
 go_loopw[47] (fun r wr=>∃(k:Nat)(p:List UInt8),r=.int .i64 k∧Hid (k≤3)∧Hid (Im w wr b B x z s p (120+10*k))) (fun r _=>3-(bp r).toNat)
 case atStart=>exact⟨0,_,rfl,D (aw _),e⟩
 case round=>
  clear e;obtain⟨k,p,rfl,K,e⟩:=hrel;rcases aL k 3 with n | v
  ·have k0:(0:Int)≤(k:Int):=A
   have k1:(k:Int)<3:=A
   have e9:bi ((k:Int)+1)=(k:Int)+1:=ag _ A;have o:=D n;obtain⟨g,L,hg,a0,P⟩:=cc.at (ao:=z.sb.1) (cap:=z.sb.2) (l:=[O,O,O]) e.o.st.sb.sl dz.len dz.pos (aD _ _) (G _) k n;generalize hq:([O,O,O]:List Bool)[k]=q at*;have c0:wr.cell? ⟨g,L+k,J⟩=I (.bool q):=by have:=P 0 _ rfl;rwa [dL,dg]at this
   have Q:z.sb.1=I ⟨g,L,J⟩:=hg;rw[Q];clear P n hq hg Q;go_upto_region 7 with fail
   clear c0;go_upto_region 8 with((go_at_call 217;refine(Gw _ (b+1) _ q e.o.wi (by have:=e.o.ll;omega)).mono ?_);rintro en F ⟨rfl,H,f,i,m⟩;have e:=D (e.o.step f.o i.o m.o);clear f i m)
   go_wp2;go_roundw
   case rel=>exact⟨k+1,_,by go_num,o,D (e.o.le A)⟩
   case measure=>exact bA o.o _ eT
  ·have y:k=3:=by have:=K.o;omega
   subst y;clear K v;have d:=Bx.has e.o.k0 45 rfl;simp only[aF]at d;go_upto_region 10 with((go_at_call 218;refine(Qt _ (b+1) _ e.o.wi (by have:=e.o.ll;omega)).mono ?_);rintro en F ⟨rfl,H,f,i,m⟩;have e:=D (e.o.step f.o i.o m.o);clear f i m)
   clear d;go_upto_region 11 with((with_reducible refine aT 60 ?_);refine j_ rfl _ (.tmp 59) rfl b 13 rfl (YV x z s) _ (e.o.k0.range 13 _ eZ) underlying48 rfl aj ?_)
   go_loopw[61] (fun r wr=>∃(k:Nat)(p:List UInt8),r=.int .i64 k∧Hid (k≤3)∧Hid (Im w wr b B x z s p (220+2100000*k))) (fun r _=>3-(bp r).toNat)
   case atStart=>exact⟨0,_,rfl,D (aw _),e⟩
   case round=>
    clear e;obtain⟨k,p,rfl,K,e⟩:=hrel;rcases aL k 3 with n | v
    ·have k0:(0:Int)≤(k:Int):=A
     have k1:(k:Int)<3:=A
     have e9:bi ((k:Int)+1)=(k:Int)+1:=ag _ A;have o:=D n;have T:∀w:V,(pi 48 (.agg ⟨YV x z s⟩) (.int .i64 k)).run M w=.ok (.agg ⟨(z.at k).l (s.at k)⟩) w:=fun w=>SU x z s w n
     clear n;go_upto_region 13 with(refine aJ rfl _ (.tmp 7) (.tmp 63) rfl wr.heap.size _ rfl rfl _ _ (al wr _) aj rfl (by simp[dY.l,ap]) ?_;rw[dX])
     obtain⟨b0,S⟩:∃b0,wr.alloc (.cells ⟨(z.at k).l (s.at k)⟩ 47)=b0:=⟨_,rfl⟩;have R:ae wr.heap.size wr b0:=by rw[←S];exact(aD _ _).alloc (G _) _
     have HC:Hid (b0.heap[wr.heap.size]?=I (.cells ⟨(z.at k).l (s.at k)⟩ 47 (0,0))):=D (by rw[←S];exact al wr _);rw[S];have e:=D (e.o.keep R (G _));clear S R
     go_upto_region 14 with(first
      | ((with_reducible refine aT 65 ?_);refine wpList_load_row rfl _ (.tmp 7) rfl wr.heap.size rfl _ _ (0,0) _ HC.o underlying47 rfl aj ?_)
      | ((go_at_call 219;refine(LK _ (b+1) _ B (z.at k) (s.at k) N e.o.wi (e.o.st.at o.o) (HF.o.at o.o) HN.o (by have:=e.o.ll;omega)).mono ?_);rintro en F ⟨rfl,H,f,i,m⟩;have e:=D (e.o.step f.o i.o m.o);clear f i m))
     clear T;go_wp2;go_roundw
     case rel=>exact⟨k+1,_,by go_num,o,D (e.o.le A)⟩
     case measure=>exact bA o.o _ eT
    ·have y:k=3:=by have:=K.o;omega
     subst y;clear K v;have d:=Bx.has e.o.k0 45 rfl;simp only[aF]at d;go_upto_region 16 with fail
     clear d
     go_loopw[71] (fun r wr=>r=.int .i64 0∧∃p,Hid (Im w wr b B x z s p 6300221)) (fun _ _=>0)
     case atStart=>exact⟨rfl,_,D (e.o.le A)⟩
     case round=>
      clear e;obtain⟨rfl,p,e⟩:=hrel;have d:=Bx.has e.o.k0 45 rfl;simp only[aF]at d;go_upto_region 21 with((go_at_call 110;refine(js _ (b+1) _ _ [x.ck,x.cd,0,x.cr,0,0] e.o.wi rfl 6 rfl A (by have:=e.o.ll;omega)).mono ?_);rintro en F ⟨rfl,H,f,i,m⟩;have e:=D (e.o.step f.o i.o m.o);clear f i m)
      clear d;have d:=Bx.has e.o.k0 45 rfl;simp only[aF]at d;go_upto_region 22 with fail
      clear d
      go_loopw[111] (fun r wr=>r=.int .i64 0∧∃p,Hid (Im w wr b B x z s p 6300281)) (fun _ _=>0)
      case atStart=>exact⟨rfl,_,D (e.o.le A)⟩
      case round=>
       clear e;obtain⟨rfl,p,e⟩:=hrel;have d:=Bx.has e.o.k0 45 rfl;simp only[aF]at d;go_upto_region 27 with fail
       clear d;obtain⟨a,c,y,hr⟩:=e.o.wi;have c0:wr.cell? ⟨b+1,0,J⟩=I (.slice a p.length c):=by simp only[an,y];rfl
       have HR:=D hr;clear y hr;go_wp2;go_ret;exact⟨p,a,c,rfl,by have:=e.o.ll;omega,HR.o,e.o.bl⟩
structure jJ(p q r:Nat)(w w':V):Prop where
 os:w'.os=w.os
 tape:w'.tape=w.tape
 output:w'.output=w.output
 size:w.heap.size≤w'.heap.size
 block:∀k,k<w.heap.size→k≠p→k≠q→k≠r→w'.heap[k]?=w.heap[k]?
section
variable {p q r:Nat} {a b c w w':V}
theorem jJ.YW(h:gK q r w w'):jJ p q r w w':=⟨h.os,h.tape,h.output,h.size,fun k a _ b c=>h.block k a b c⟩
theorem jJ.ZE(h:But p w w'):jJ p q r w w':=⟨h.os,h.tape,h.output,h.size,fun k a b _ _=>h.block k a b⟩
theorem jJ.EO(h:ae w.heap.size w w'):jJ p q r w w':=⟨h.os,h.tape,h.output,h.size,fun k a _ _ _=>h.block k a⟩
theorem jJ.trans(h:jJ p q r a b)(k:jJ p q r b c):jJ p q r a c:=⟨k.os.trans h.os,k.tape.trans h.tape,k.output.trans h.output,aa h.size k.size,fun i hi d e f=>(k.block i (ac hi h.size) d e f).trans (h.block i hi d e f)⟩
theorem EL.own.Da{α:Type}{L:EL α}{B:Nat}{v:Z}{l:List α}{x y z:Array Z}{tx c d:aN}(h:L.own w B v l)(f:w.heap[p]?=I (.cells x tx (0,0)))(i:w.heap[q]?=I (.cells y c (0,0)))(j:w.heap[r]?=I (.cells z d (0,0)))(k:tx≠L.e)(m:c≠L.e)(n:d≠L.e)(o:jJ p q r w w'):L.own w' B v l:=by
 have s:=h.ne f k;have t:=h.ne i m;have u:=h.ne j n;obtain⟨C,E⟩:=h;refine⟨C,E.imp id ?_⟩;rintro⟨g,cap,b,rfl,F,a,H⟩;exact⟨g,cap,b,rfl,F,by rw[o.block g (br a).1 (fun e=>s (by rw[e];rfl)) (fun e=>t (by rw[e];rfl)) (fun e=>u (by rw[e];rfl))];exact a,H⟩
end
structure Cl(w:V)(B k j d:Nat)(x:eQ)(z:dH)(s:dV)(log:List UInt8):Prop where
 bx:Bx w k (.pointer (I ⟨j,0,J⟩)::aF x z s) 92
 st:eg w B z s
 jn:Jn w j d log
section
variable {w w':V} {B k j d:Nat} {x:eQ} {z:dH} {s:dV} {log TQ:List UInt8}
theorem Cl.nj(h:Cl w B k j d x z s log):k≠j:=by
 obtain⟨n,b⟩:=h.jn.j;intro e;have a:=h.bx;rw[Bx,e,b]at a;injection a with a;injection a with _ a _;exact absurd a aC
theorem Cl.nd(h:Cl w B k j d x z s log):k≠d:=by
 obtain⟨b,done,f,room,g,i,l,m,sc,c,n⟩:=h.jn.d;intro e;have a:=h.bx;rw[Bx,e,c]at a;injection a with a;injection a with _ a _;exact absurd a aC
theorem Cl.keep{C:Nat}(h:Cl w B k j d x z s log)(a:ae C w w')(b:w.heap.size≤C):Cl w' B k j d x z s log:=
 ⟨h.bx.keep a (ac (br h.bx).1 b),h.st.keep a b,h.jn.keep a b⟩
theorem Cl.Da{i:Nat}{o:dH}{s2:dV}(h:Cl w B k j d x z s log)(l:eg w i o s2)(a:jJ k j d w w'):eg w' i o s2:=by
 obtain⟨n,b⟩:=h.jn.j;obtain⟨p,done,q,room,r,t,v,y,sc,e,C⟩:=h.jn.d;have f:w.heap[k]?=_:=h.bx
 have m:∀{u:dY}{c:eo},bB w i u c→bB w' i u c:=fun g=>
  ⟨g.v.Da f b e aC aC aC a,g.r.Da f b e aC aC aC a,g.e.Da f b e aC aC aC a,g.g.Da f b e aC aC aC a,g.s.Da f b e aC aC aC a,g.b.Da f b e aC aC aC a⟩
 exact⟨m l.c0,m l.c1,m l.c2,l.sb.Da f b e aC aC aC a⟩
theorem Cl.LM(h:Cl w B k j d x z s log)(b:Jn w' j d TQ)(a:gK j d w w'):Cl w' B k j d x z s TQ:=
 ⟨(a.block k (br h.bx).1 h.nj h.nd).trans h.bx,h.Da h.st (.YW a),b⟩
theorem Jn.rd(h:Jn w j d log){a:Option aB}{l:List UInt8}(o:Rd w a (bX l))(q:gK j d w w'):Rd w' a (bX l):=by
 obtain⟨n,r⟩:=h.j;obtain⟨s,done,C,room,E,F,H,K,sc,x,L⟩:=h.d;intro i u k;obtain⟨p,rfl,c⟩:=o i u k;refine⟨p,rfl,?_⟩;obtain⟨m,rfl⟩:=qc k
 have f:=aS w _ c
 have e:∀{g:Nat}{cs:Array Z}{t:aN},w.heap[g]?=I (.cells cs t (0,0))→(∀v∈cs,∀n,v≠.int .u8 n)→(p.add i).block≠g:=by
  intro g cs t y z B;unfold an at c;rw[B,y]at c;simp only at c
  split at c
  ·cases c
  ·exact z _ (kp c) m rfl
 rw[an,q.block _ f (e r M4) (e x (Gs (fun n b=>by cases b) (fun n b=>by cases b) (fun n b=>by cases b) (fun n b=>by cases b) (fun n b=>by cases b) (fun n b=>by cases b) (fun n b=>by cases b) (fun n b=>by cases b)))];exact c
end
structure Wt(w wr:V)(B k j d:Nat)(x:eQ)(z:dH)(s:dV)(l0:List UInt8)(n:Nat)(ao:Option aB)(b:List UInt8):Prop where
 cl:∃log,Cl wr B k j d x z s log∧log.length≤l0.length+n
 rd:Rd wr ao (bX b)
 bt:gK j d w wr
theorem Wt.le{w wr:V}{B k j d:Nat}{x:eQ}{z:dH}{s:dV}{a b:List UInt8}{n m:Nat}{ao:Option aB}(h:Wt w wr B k j d x z s a n ao b)(hm:n≤m):Wt w wr B k j d x z s a m ao b:=by
 obtain⟨l,c,e⟩:=h.cl;exact⟨⟨l,c,by omega⟩,h.rd,h.bt⟩
theorem Wt.keep{w wr c:V}{B k j d:Nat}{x:eQ}{z:dH}{s:dV}{e b:List UInt8}{n:Nat}{ao:Option aB}(h:Wt w wr B k j d x z s e n ao b)(a:ae wr.heap.size wr c):Wt w c B k j d x z s e n ao b:=by
 obtain⟨l,f,g⟩:=h.cl;exact⟨⟨l,f.keep a (G _),g⟩,h.rd.keep a (G _),h.bt.trans (But.of_below a).two⟩
theorem Wt.LM{w wr a:V}{B k j d:Nat}{x:eQ}{z:dH}{s:dV}{c b i e:List UInt8}{n m:Nat}{ao:Option aB}(h:Wt w wr B k j d x z s c n ao b)(g:Cl wr B k j d x z s i)(l:Jn a j d e)(hm:e.length≤c.length+m)(f:gK j d wr a):Wt w a B k j d x z s c m ao b:=
 ⟨⟨e,g.LM l f,hm⟩,g.jn.rd h.rd f,h.bt.trans f⟩
theorem LN(w:V)(B k j d:Nat)(x:eQ)(z:dH)(s:dV)(i b:List UInt8)(ao:Option aB)(cap N:Nat)(h:Cl w B k j d x z s i)(hf:s.ok N)(hN:N≤4000)(hr:Rd w ao (bX b))(hl:i.length<60000000)(hb:b.length<1000):
  ar M 85 #[.pointer (I ⟨k,0,J⟩),.slice ao b.length cap] w (fun ev w'=>∃e:Int,ev=.returned (.int .i64 e)∧Wt w w' B k j d x z s i (2*b.length+16) ao b∧(Fr w j d→e=0)):=by
 have HF:=D hf;have HN:=D hN;have HL:=D hl;have HB:=D hb;have c:Hid (Wt w w B k j d x z s i 0 ao b):=D ⟨⟨i,h,G _⟩,hr,(But.refl _ _).two⟩;clear h hf hN hl hb hr
 go_enter func85,ntmps85
 go_upto_region 2 with fail
 obtain⟨l1,m,f⟩:=c.o.cl;obtain⟨n,P⟩:=m.jn.j;have c0:w.cell? ⟨k,0,J⟩=I (.pointer (I ⟨j,0,J⟩)):=m.bx.has 46 rfl 0 aC;have K:=D P;have o:=D m;have C:=D f;clear m P f;go_upto_if 12 with((go_at_call 151;refine(tw w j _ n K.o).mono ?_);rintro en L ⟨rfl,v⟩;rw[v];clear v)
 go_cut[5] (fun u5 wc=>∃e:Int,u5=.int .i64 e∧Hid (Wt w wc B k j d x z s i (b.length+8) ao b)∧Hid (Fr w j d→e=0))
 case first=>
  by_cases Q:n<16
  ·have y:decide (n<16)=O:=by simpa using Q
   rw[y];clear Q y;go_wp2_with ((go_at_call 152;refine(Gt w j d l1 b ao cap o.o.jn c.o.rd (by have:=HL.o;have:=HB.o;have:=C.o;omega)).mono ?_);rintro en L ⟨e,l2,rfl,g,E,a,hF⟩)
   have c:Hid (Wt w L B k j d x z s i (b.length+8) ao b):=D ⟨⟨l2,o.o.LM g a,by have:=C.o;omega⟩,o.o.jn.rd c.o.rd a,a⟩;clear g E a;go_meet
   case rel=>exact⟨e,rfl,c,D (fun h=>hF ⟨h,by have:=HB.o;omega⟩)⟩
  ·have y:decide (n<16)=U:=by simpa using Q
   rw[y]
   have a0:Hid (Fr w j d→(17:Int)=0):=D (fun h=>by
    have f:=h.1;rw[K.o]at f;injection f with f;injection f with f _ _;simp only[Array.mk.injEq,List.cons.injEq,Value.int.injEq]at f
    exact absurd (show n<16 by rw[f.2.1.2];decide) Q)
   clear Q y;have c:Hid (Wt w w B k j d x z s i (b.length+8) ao b):=D ⟨⟨l1,o.o,by have:=C.o;omega⟩,c.o.rd,c.o.bt⟩;go_wp2;go_meet
   case rel=>exact⟨17,rfl,c,a0⟩
 case rest=>
  clear c o C K c0;obtain⟨e,rfl,c,p⟩:=hcut;obtain⟨l1,m,f⟩:=c.o.cl;obtain⟨n,P⟩:=m.jn.j;have c0:wc.cell? ⟨k,0,J⟩=I (.pointer (I ⟨j,0,J⟩)):=m.bx.has 46 rfl 0 aC;have K:=D P;have o:=D m;have C:=D f;clear m P f;by_cases he:e=17
  rotate_left
  ·have y:(e != 17)=O:=by simpa using he
   clear he;go_wp2;go_ret;exact⟨_,rfl,c.o.le A,p.o⟩
  ·subst he
   have y:((17:Int) != 17)=U:=rfl
   cases q:(n==0)with
   | true=>
    go_wp2_with ((go_at_call 151;refine(tw wc j _ n K.o).mono ?_);rintro en L ⟨rfl,v⟩;rw[v];clear v)
    go_ret;exact⟨_,rfl,c.o.le A,fun h=>absurd (p.o h) aC⟩
   | false=>
    go_upto_region 6 with((go_at_call 151;refine(tw wc j _ n K.o).mono ?_);rintro en L ⟨rfl,v⟩;rw[v];clear v)
    clear y q c0;have HX:=D o.o.bx;have l:Bx wc.drew k (.pointer (I ⟨j,0,J⟩)::aF x z s) 92:=HX.o;obtain⟨W1,F⟩:∃W1,wc.drew=W1:=⟨_,rfl⟩;have r:ae wc.heap.size wc W1:=by rw[←F];exact(aD _ _).drew
    refine bT 9 (fun w'=>Bx w' k (.pointer (I ⟨j,0,J⟩)::aF x z s) 92) aj ?_;rw[F]at l⊢;clear F;refine stP 0 (.pointer (I ⟨k,0,J⟩)) l ?_;refine stP 1 (.pointer (I ⟨k,0,J⟩)) l ?_;refine stP 2 (.pointer (I ⟨k,0,J⟩)) l ?_;refine iA [9] 3 (.pointer (I ⟨j,0,J⟩)) rfl (.inl ⟨rfl,fun w' hw=>?_⟩) l ?_
    ·have c0:w'.cell? ⟨k,0,J⟩=I (.pointer (I ⟨j,0,J⟩)):=Bx.has hw 46 rfl 0 aC
     go_simp
    refine stP 4 (.pointer (I ⟨k,0,J⟩)) l ?_;refine stP 5 (.pointer (I ⟨k,0,J⟩)) l ?_;refine stP 6 (.pointer (I ⟨k,1,J⟩)) l ?_;refine iA [8,9] 7 (.agg ⟨aF x z s⟩) rfl (b_ rfl _ (.tmp 36) rfl k 1 rfl (aF x z s) _ (fun w' hw=>Bx.range hw 1 _ eZ) underlying55 rfl aj) l ?_;refine f_ 8 ?_;go_simp;refine(LL W1 B x z s N (o.o.st.keep r (G _)) HF.o HN.o).mono ?_;rintro en w2 ⟨lm,am,cm,rfl,R,S,a⟩;have a:=r.trans (a.mono r.size);have t:=D (o.o.keep a (G _));have c:=D (c.o.keep a);have b0:=D R;have d0:=D S;clear a R S l r;first | refine⟨t.o.bx,?_⟩ | refine⟨fun _=>t.o.bx,?_⟩
    refine f_ 9 ?_;go_simp;refine(Ly w2 j d l1 lm am cm t.o.jn d0.o (by have:=HL.o;have:=b0.o;have:=C.o;have:=HB.o;omega)).mono ?_;rintro en w3 ⟨e9,l3,rfl,T,e0,W,-⟩;have c:Hid (Wt w w3 B k j d x z s i (b.length+8) ao b):=D (c.o.LM t.o T (by have:=C.o;omega) W);clear T e0 W;first | refine⟨fun h=>by cases h,?_⟩ | skip
    refine dK 10 ?_;go_simp;refine jj ?_;by_cases u:e9=0
    rotate_left
    ·have e2:(e9 != 0)=O:=by simpa using u
     clear u;go_wp2;go_ret;exact⟨_,rfl,c.o.le A,fun h=>absurd (p.o h) aC⟩
    ·have e2:(e9 != 0)=U:=by simpa using u
     clear u;obtain⟨l4,H,h4⟩:=c.o.cl;have c0:w3.cell? ⟨k,0,J⟩=I (.pointer (I ⟨j,0,J⟩)):=H.bx.has 46 rfl 0 aC;have X:=D H;have H4:=D h4;clear H h4;go_wp2_with ((go_at_call 152;refine(Gt w3 j d l4 b ao cap X.o.jn c.o.rd (by have:=HL.o;have:=HB.o;have:=H4.o;omega)).mono ?_);rintro en L ⟨e,l2,rfl,g,E,a,hF⟩)
     have c:Hid (Wt w L B k j d x z s i (2*b.length+16) ao b):=D (c.o.LM X.o g (by have:=H4.o;omega) a);clear g E a;go_ret;exact⟨e,rfl,c.o,fun h=>absurd (p.o h) aC⟩
def LO(w:V)(d:Nat)(v:Z)(B:w.heap[d]?=I (.cells dk0 81 (0,0)))(h:cc dz.f dz.E w v [O,O,O]):
  ar M 6 #[.pointer (I ⟨d,0,J⟩),.int .i64 1,.int .i64 3,v] w (fun F w'=>∃k j z,F=.returned (.tuple #[.pointer (I ⟨k,0,J⟩),.int .i64 0])∧(w.heap.size≤k∧w.heap.size≤j)∧Cl w' w.heap.size k j d x00 z fb []∧Fr w' j d∧ae w.heap.size w w'):=by
 have c:=D B;have H:=D h;clear B h
 go_enter func6,ntmps6
 go_upto_region 4 with(first
  | ((go_at_call 20;refine(Oq w v H.o).mono ?_);rintro en l ⟨z,rfl,m,g⟩)
  | (refine aJ rfl _ (.tmp 10) (.tmp 22) rfl l.heap.size _ rfl rfl _ _ (al l _) aj rfl (by simp[aF,ap]) ?_;rw[dX]))
 obtain⟨b,u⟩:∃b,l.heap.size=b:=⟨_,rfl⟩;obtain⟨W,s⟩:∃W,l.alloc (.cells ⟨aF x00 z fb⟩ 55)=W:=⟨_,rfl⟩;have i:ae l.heap.size l W:=by rw[←s];exact(aD _ _).alloc (G _) _
 have t:Hid (Bx W b (aF x00 z fb) 55):=D (by rw[←s,←u];exact al _ _);have x:=D (m.keep i (G _));have f:=D (g.trans (i.mono g.size));have c:=D ((f.o.block d (br c.o).1).trans c.o);rw[s,u];clear s u i m g;go_upto_region 9 with((go_at_call 21;refine(LB W d c.o).mono ?_);rintro en C ⟨j,rfl,n,o,a⟩)
 have t:=D (t.o.keep a (br t.o).1);have x:=D (x.o.keep a (G _));have c:=D ((a.block d (br c.o).1).trans c.o);have y:=D f.o.size;have f:=D (f.o.trans (a.mono f.o.size));have E:=D n;have p:Hid (w.heap.size≤j∧w.heap.size≤C.heap.size):=D ⟨aa y.o o,f.o.size⟩;clear n o a;go_wp2
 go_loopw[44] (fun K wr=>K=.int .i64 0∧wr=C) (fun _ _=>0)
 case atStart=>exact⟨rfl,rfl⟩
 case round=>
  obtain⟨rfl,rfl⟩:=hrel;go_upto_region 14 with fail
  go_wp2_with (first
   | ((with_reducible refine aT 53 ?_);refine wpList_load_row rfl _ (.tmp 10) rfl b rfl _ _ (0,0) _ t.o underlying55 rfl aj ?_)
   | ((with_reducible refine aT 54 ?_);refine wpList_buildTo rfl _ _ rfl (I 54) rfl ⟨.pointer (I ⟨j,0,J⟩)::aF x00 z fb⟩ aj ?_)
   | ((with_reducible refine aT 55 ?_);refine wpList_buildTo rfl _ _ rfl (I 55) rfl ⟨.pointer (I ⟨j,0,J⟩)::aF x00 z fb⟩ aj ?_))
  go_ret2
  have e:ae wr.heap.size wr (wr.alloc (.cells ⟨.pointer (I ⟨j,0,J⟩)::aF x00 z fb⟩ 92)):=(aD _ _).alloc (G _) _;have q:=(e.block j (br E.o).1).trans E.o;have r:=(e.block d (br c.o).1).trans c.o;exact⟨_,j,z,rfl,⟨p.o.2,p.o.1⟩,⟨al _ _,x.o.keep e (G _),⟨0,q⟩,0,0,0,1048576,J,J,0,0,0,r,Sl.nil _ _⟩,⟨q,0,0,0,J,0,r⟩,f.o.trans (e.mono f.o.size)⟩
abbrev jK:Array Z:= (Zo 1)
def x01:eQ:=⟨0,0,1,1,1,U,1⟩
def Qu(w:V)(z:dH):ar M 130 #[.agg ⟨aF x00 z fb⟩,.agg jK] w (fun en w'=>en=.returned (.int .i64 0)∧ae w.heap.size w w'):=by
 obtain⟨b,e⟩:∃b,w.heap.size=b:=⟨_,rfl⟩;obtain⟨W,a⟩:∃W,(w.alloc (.cells ⟨aF x00 z fb⟩ 55)).alloc (.cells jK 51)=W:=⟨_,rfl⟩;have c:ae w.heap.size w W:=by rw[←a];exact((aD _ _).alloc (G _) _).alloc bW _
 have g:Hid (Bx W b (aF x00 z fb) 55):=D (by rw[←a,←e];exact ce _ _ _);obtain⟨c0,c1,c2,j,k,l,m⟩:=dZ (show W.heap[b+1]?=I (.cells jK 51 (0,0))by rw[←a,←e];exact bO _ _ _);have h:=D c;have f:=D a;have i:=D e;have d:=Bx.has g.o 45 rfl;simp only[aF,x00]at d;clear a e c
 go_enter func130,ntmps130
 go_upto_region 1 with fail
 rw[f.o,i.o];clear f;go_wp2;go_ret;exact⟨rfl,h.o⟩
def M_(w:V)(B:Nat)(z:dH)(h:eg w B z fb):ar M 70 #[.agg ⟨aF x00 z fb⟩,.agg jK] w (Hb w x01 fb 0):=by
 have h0:∀(fn:Fn)(first cap:Array Z)(w:V),(dn fn first cap).run M w=.ok (.func fn first cap) w:=fun _ _ _ _=>rfl
 have i0:∀(args:Array Z)(W:V),(callFunc 130 args).run M W=.ok (.enter 130 args) W:=fun _ _=>by kernel_rfl
 obtain⟨b,N⟩:∃b,w.heap.size=b:=⟨_,rfl⟩;obtain⟨W,P⟩:∃W,((w.alloc (.cells ⟨aF x00 z fb⟩ 55)).alloc (.cells jK 51)).alloc (.cells jV 55)=W:=⟨_,rfl⟩;have c:Hid (Three w W b b ⟨aF x00 z fb⟩ jK jV 55 51 55):=D (by rw[←P,←N];exact Three.mk' _ _ (G _) _ _ _ _ _ _);have HO:=D h;have HW:=D P;have H:=D N;clear P N h
 go_enter func70,ntmps70
 go_upto_region 1 with fail
 rw[HW.o,H.o];clear HW;obtain⟨c0,c1,c2,p,q,r,s⟩:=dZ c.o.k1
 go_upto_region 5 with(first
  | ((with_reducible refine aT 8 ?_);refine wpList_load_row rfl _ (.tmp 2) rfl b rfl _ _ (0,0) _ c.o.k0 underlying55 rfl aj ?_)
  | ((go_at_call 130;refine(Qu W z).mono ?_);rintro en w1 ⟨rfl,t⟩;have c:=D (c.o.keep t c.o.sz);clear t c0 c1 c2 p q r s))
 have Q:=D c.o.sz
 go_upto_region 6 with(first
  | ((with_reducible refine aT 18 ?_);refine wpList_load_row rfl _ (.tmp 2) rfl b rfl _ _ (0,0) _ c.o.k0 underlying55 rfl aj ?_)
  | ((go_at_call 72;refine(iB w1 B x00 z fb 0 (HO.o.keep c.o.bl (bD H.o)) (BZ 0) aC).mono ?_);rintro en R ⟨y,rfl,u,x⟩;have c:=D (c.o.keep x c.o.sz);have S:=D (u.to (show b+3≤w1.heap.size from Q.o));clear u x)
  | (refine aJ rfl _ (.tmp 2) (.tmp 19) rfl b _ rfl rfl _ _ c.o.k0 aj rfl (by simp[aF,ap]) ?_))
 obtain⟨j0,K⟩:∃j0,R.setRow b ⟨aF x00 y fb⟩=j0:=⟨_,rfl⟩;have a:But b R j0:=by rw[←K];exact But.row _
 have T:Hid (Bx j0 b (aF x00 y fb) 55):=D (by rw[←K];exact setRow_heap _ _ _ _ _ _ c.o.k0);have g:Hid (b+3≤R.heap.size):=D c.o.sz;have i:=D ((a.block (b+1) (by have:=g.o;omega) A).trans c.o.k1);have m:=D ((a.block (b+2) (by have:=g.o;omega) A).trans c.o.k2);have n:Hid (ae b w j0):=D (c.o.bl.trans (a.below (by have:=g.o;omega) (G _)));have X:=D (S.o.but a A);have a0:=D a.size;rw[K];clear K a c;obtain⟨c0,c1,c2,p,q,r,s⟩:=dZ i.o;have d:=Bx.has T.o 45 rfl;have f:=Bx.aq T.o;simp only[aF,x00]at d;go_upto_region 9 with fail
 obtain⟨o,j⟩:∃o,(((((((((j0.setCell ⟨b,34,J⟩ (.int .i64 1)).setCell ⟨b,35,J⟩ (.int .i64 0)).setCell ⟨b,36,J⟩ (.int .i64 1)).setCell ⟨b,37,J⟩ (.int .i64 1)).setCell ⟨b,38,J⟩ (.int .i64 0)).setCell ⟨b,39,J⟩ (.int .i64 1)).setCell ⟨b,40,J⟩ (.int .i64 0)).setCell ⟨b,41,J⟩ (.slice J 0 0)).setCell ⟨b,42,J⟩ (.slice J 0 0))=o:=⟨_,rfl⟩
 have a:But b j0 o:=by
  rw[←j]
  repeat (refine But.trans ?_ (But.set _ _ _ _))
  exact But.refl _ _
 have b0:Hid (Bx o b (aF x01 y fb) 55):=D (by
  rw[←j]
  refine Bx.to ((((((((((show Bx j0 b (aF x00 y fb) 55 from T.o).st 34 _).st 35 _).st 36 _).st 37 _).st 38 _).st 39 _).st 40 _).st 41 _).st 42 _) eZ)
 have k:Hid (b+3≤j0.heap.size):=D (aa g.o a0.o);have i:=D ((a.block (b+1) (by have:=k.o;omega) A).trans i.o);have m:=D ((a.block (b+2) (by have:=k.o;omega) A).trans m.o);have n:Hid (ae b w o):=D (n.o.trans (a.below (by have:=k.o;omega) (G _)));have d0:=D (X.o.but a A);have e:Hid (b+3≤o.heap.size):=D (aa k.o a.size);rw[j];clear j a c0 c1 c2 p q r s d f;obtain⟨c0,c1,c2,p,q,r,s⟩:=dZ i.o;go_upto_region 14 with fail
 clear c0 c1 c2 p q r s
 go_wp2_with (first
  | ((with_reducible refine aT 66 ?_);refine wpList_load_row rfl _ (.tmp 2) rfl b rfl _ _ (0,0) _ b0.o underlying55 rfl aj ?_)
  | ((go_at_call 72;refine(iB o (b+3) x01 y fb 0 d0.o (BZ 0) aC).mono ?_);rintro en w4 ⟨L,rfl,C,l⟩;have e0:=D (C.to e.o);have E:=D ((l.block _ (by have:=e.o;omega)).trans m.o);have f0:=D (n.o.trans (l.mono (by have:=e.o;omega)));have g0:=D (aa e.o l.size);clear C l)
  | (refine aJ rfl _ (.tmp 4) (.tmp 67) rfl (b+2) _ rfl rfl _ _ E.o aj rfl (by simp[aF,ap]) ?_))
 have F:But (b+2) w4 (w4.setRow (b+2) ⟨aF x01 L fb⟩):=But.row _;refine bodyPost_ret (v:=.tuple #[.agg ⟨aF x01 L fb⟩,.int .i64 0]) (results_cell_tmp results70 _ _ (b+2) 55 ⟨aF x01 L fb⟩ (0,0) _ rfl (setRow_heap _ _ _ _ _ _ E.o) underlying55 rfl aj) rfl ?_;refine⟨L,rfl,?_,?_⟩
 ·rw[H.o]
  exact(e0.o.but F A).to A
 ·rw[H.o]
  exact f0.o.trans (F.below (by have:=g0.o;omega) A)
def s6(w:V)(p:Nat)(l:List UInt8):Prop:=∃a c,w.heap[p]?=I (.cells #[.slice a l.length c] 303 (0,0))∧Rd w a (bX l)
def Na(w:V)(p:Nat)(l:List UInt8)(k:Nat)(en:Ending)(w':V):Prop:=en=.returned (.tuple #[])∧∃a,Hid (s6 w' p a)∧Hid (a.length≤l.length+k)∧Hid (But p w w')
def s6.lt{w:V}{p:Nat}{l:List UInt8}(h:s6 w p l):p<w.heap.size:=by
 obtain⟨a,c,b,_⟩:=h;exact(br b).1
def s6.jN{w w':V}{p:Nat}{l:List UInt8}{a:Option aB}{cs:List Z}(h:s6 w p l)(g:∀u∈cs,∀x m k,u≠.slice x m k)(i:Rd w a cs)(n:But p w w'):Rd w' a cs:=by
 obtain⟨a0,c0,o,_⟩:=h;intro j u f;obtain⟨b,rfl,c⟩:=i j u f;refine⟨b,rfl,?_⟩;have d:=aS w _ c
 have e:(b.add j).block≠p:=by
  intro q;unfold an at c;rw[q,o]at c;simp only at c
  split at c
  ·cases c
  ·have hm:=kp c
   simp only[gy,bg,bV,or_false]at hm;exact g u (List.mem_of_getElem? f) _ _ _ hm
 rw[an,n.block _ d e];exact c
def s6.vq{w w':V}{p:Nat}{l:List UInt8}{v:Z}{ns:List Int}(h:s6 w p l)(s:cc cI 1 w v ns)(o:But p w w'):cc cI 1 w' v ns:=by
 obtain⟨t,ao,cap,rfl,y,z,B,q⟩:=s
 have i:Rd w ao (ca cI ns):=fun j u a=>by
  obtain⟨b,c,f,_,C⟩:=q j u a;exact⟨_,f,by rw[dM];exact C⟩
 have d:=h.jN (fun u a x m k=>by
  simp only[ca,List.mem_flatMap,cI,List.mem_singleton]at a;obtain⟨n,_,rfl⟩:=a
  intro e;cases e) i o
 refine⟨t,ao,cap,rfl,y,z,B,fun j u a=>?_⟩;obtain⟨b,c,f,E,_⟩:=q j u a;obtain⟨F,g,r⟩:=d j u a;rw[f]at g;injection g with g;subst g;rw[dM]at r;exact⟨b,c,f,ac E o.size,r⟩
def LP(w:V)(p:Nat)(l:List UInt8)(v:Z)(ns:List Int)(h:s6 w p l)(F:cc cI 1 w v ns)(W:l.length<80000000)(X:ns.length≤20):
  ar M 264 #[.pointer (I ⟨p,0,J⟩),v] w (Na w p l (10*ns.length)):=by
 obtain⟨ao,cap,rfl,a0,b0⟩:=Sl.shape F;have HW:=D h;have HS:=D F;have HL:=D W;have HN:=D X;clear h F W X
 go_enter func264,ntmps264
 go_wp2
 go_loopw[8] (fun H wr=>∃(k:Nat)(f:List UInt8),H=.int .i64 k∧Hid (k≤ns.length)∧Hid (s6 wr p f)∧Hid (f.length≤l.length+10*k)∧Hid (But p w wr)) (fun H _=>ns.length-(bp H).toNat)
 case atStart=>exact⟨0,l,rfl,D (aw _),HW,D (G _),D (But.refl _ _)⟩
 case round=>
  obtain⟨k,f,rfl,HK,HR,g,K⟩:=hrel;rcases aL k ns.length with j | L
  ·have e2:decide (k<ns.length)=O:=by simpa using j
   have r:=HW.o.vq HS.o K.o;obtain⟨b,e0,rfl,g0,hc⟩:=cc.at r (fun _=>rfl) A (aD _ _) (G _) k j;generalize ns[k]=n at*;have c0:=hc 0 _ rfl;rw[dL,dg]at c0;obtain⟨a,c,N,s⟩:=HR.o;have d0:wr.cell? ⟨p,0,J⟩=I (.slice a f.length c):=by simp[an,N]
   have t:=D s;have d:=D N;have h0:(k:Int)<ns.length:=A
   have z:=D j;have e9:bi ((k:Int)+1)=(k:Int)+1:=ag _ (by have:=HN.o;omega);clear r hc j N s;go_upto_region 4 with((go_at_call 88;refine(mU wr a f c n t.o (by have:=HL.o;have:=g.o;have:=HK.o;have:=HN.o;omega)).mono ?_);rintro en E ⟨P,a2,c2,rfl,h2,o2,b2⟩;have Q:=D h2;have O2:=D o2;have B2:=D b2;have d:=D (ft d.o b2 (br d.o).1);have d0:E.cell? ⟨p,0,J⟩=I (.slice a f.length c):=(by simp[an,d.o]);have f0:=aq d.o 0;clear h2 o2 b2)
   obtain⟨i0,B⟩:∃i0,E.setCell ⟨p,0,J⟩ (.slice a2 (f++P).length c2)=i0:=⟨_,rfl⟩;have q:But p E i0:=by rw[←B];exact But.set _ _ _ _
   have o:s6 E p f:=⟨a,c,d.o,t.o.keep B2.o (G _)⟩
   have R:Hid (s6 i0 p (f++P)):=D ⟨a2,c2,by rw[←B];simp[aV,aR,d.o],o.jN (fun u hu x m k=>by
    obtain⟨i,hi⟩:=List.mem_iff_getElem?.1 hu;obtain⟨y,rfl⟩:=qc hi
    intro e;cases e) (cM O2.o).rd q⟩
   have C:Hid ((f++P).length≤l.length+10*(k+1)):=D (by rw[ay];have:=Q.o;have:=g.o;omega);have S:Hid (But p w i0):=D ((K.o.trans (But.of_below B2.o)).trans q);rw[ay]at B;rw[B];clear B q o d0 f0 c0;go_wp2;go_roundw
   case rel=>exact⟨k+1,_,by go_num,D z.o,R,C,S⟩
   case measure=>exact bA z.o _ eT
  ·have e2:decide (k<ns.length)=U:=by simp;omega
   have T:k=ns.length:=by have:=HK.o;omega
   rw[T]at g;clear L;go_wp2
   go_end0
   exact⟨rfl,f,HR,g,K⟩
def s6.keep{w w':V}{p C:Nat}{l:List UInt8}(h:s6 w p l)(b:ae C w w')(d:w.heap.size≤C):s6 w' p l:=by
 obtain⟨a,c,e,f⟩:=h;exact⟨a,c,(b.block p (ac (br e).1 d)).trans e,f.keep b d⟩
def Gx(w:V)(p:Nat)(l:List UInt8)(cs:Array Z)(ns:List Int)(h:s6 w p l)(d:cs.toList=ca cI ns)(n:Nat)(b:ns.length=n)(a:n≤20)(e:l.length<80000000):
  ar M 264 #[.pointer (I ⟨p,0,J⟩),.slice (I ⟨w.heap.size,0,J⟩) n n] (w.alloc (.cells cs 3)) (Na w p l (10*n)):=by
 have c:ae w.heap.size w (w.alloc (.cells cs 3)):=(aD _ _).alloc (G _) _;refine(LP _ p l _ ns (h.keep c (G _)) (Gv d n b a) e A).mono ?_;rintro en k ⟨rfl,f,g,i,j⟩;exact⟨rfl,f,g,D (by rw[←b];exact i.o),D ((But.of_below c).trans j.o)⟩
def YX(w:V)(p:Nat)(l:List UInt8)(h:s6 w p l)(d:l.length<1000):ar M 266 #[.pointer (I ⟨p,0,J⟩),.slice J 0 0] w (Na w p l 10):=by
 have e:=D h;have f:=D d;clear h d
 go_enter func266,ntmps266
 go_upto_region 1 with((go_at_call 264;refine(Gx w p l _ [0] e.o rfl 1 rfl A (by have:=f.o;omega)).mono ?_);rintro en g ⟨rfl,i,a,b,c⟩)
 go_wp2
 go_loopw[13] (fun j wr=>j=.int .i64 0∧wr=g) (fun _ _=>0)
 case atStart=>exact⟨rfl,rfl⟩
 case round=>
  obtain⟨rfl,rfl⟩:=hrel;go_wp2
  go_end0
  exact⟨rfl,i,a,b,c⟩
def YY(w:V)(p:Nat)(h:s6 w p []):ar M 190 #[.pointer (I ⟨p,0,J⟩),.agg jK] w (Na w p [] 70):=by
 obtain⟨b,f⟩:∃b,w.heap.size=b:=⟨_,rfl⟩;obtain⟨W,g⟩:∃W,w.alloc (.cells jK 51)=W:=⟨_,rfl⟩;have a:ae w.heap.size w W:=by rw[←g];exact(aD _ _).alloc (G _) _
 have e:Hid (W.heap[b]?=I (.cells jK 51 (0,0))∧p<b∧b<W.heap.size):=D ⟨by rw[←g,←f];exact al _ _,by rw[←f];exact h.lt,by rw[←g,←f];simp⟩;have k:=D (h.keep a (G _));have c:Hid (But p w W):=D (But.of_below a);have q:=D g;have y:=D f;clear h g f a
 go_enter func190,ntmps190
 go_upto_region 1 with fail
 rw[q.o,y.o];clear q;obtain⟨c0,c1,c2,r,s,t,u⟩:=dZ e.o.1;go_upto_region 2 with((go_at_call 264;refine(Gx W p [] _ [1,0,0,0,0,0] k.o rfl 6 rfl A aC).mono ?_);rintro en z ⟨rfl,v,l,i,d⟩)
 have e:=D ((d.o.block b e.o.2.2 (by have:=e.o.2.1;omega)).trans e.o.1);have c:=D (c.o.trans d.o);have j:Hid (v.length≤60):=D i.o;clear c0 c1 c2 r s t u i d;obtain⟨c0,c1,c2,r,s,t,u⟩:=dZ e.o;go_wp2
 go_loopw[25] (fun B wr=>B=.int .i64 0∧wr=z) (fun _ _=>0)
 case atStart=>exact⟨rfl,rfl⟩
 case round=>
  obtain⟨rfl,rfl⟩:=hrel;go_wp2_with ((go_at_call 266;refine(YX _ p v l.o (by have:=j.o;omega)).mono ?_);rintro en C ⟨rfl,x,m,n,o⟩)
  go_end0
  exact⟨rfl,x,m,D (by have:=j.o;have:=n.o;show x.length≤0+70;omega),D (c.o.trans o.o)⟩
def YZ(w:V):ar M 132 #[.agg jK] w (fun v w'=>∃(l:List UInt8)(a:Option aB)(c:Nat),v=.returned (.slice a l.length c)∧l.length≤70∧Rd w' a (bX l)∧ae w.heap.size w w'):=by
 have x:∀(fn:Fn)(first cap:Array Z)(w:V),(dn fn first cap).run M w=.ok (.func fn first cap) w:=fun _ _ _ _=>rfl
 have y:∀(args:Array Z)(W:V),(callFunc 190 args).run M W=.ok (.enter 190 args) W:=fun _ _=>by kernel_rfl
 obtain⟨b,f⟩:∃b,w.heap.size=b:=⟨_,rfl⟩;obtain⟨W,d⟩:∃W,(w.alloc (.cells jK 51)).alloc (.cells #[.slice J 0 0] 303)=W:=⟨_,rfl⟩;have e:ae w.heap.size w W:=by rw[←d];exact((aD _ _).alloc (G _) _).alloc bW _
 have g:Hid (s6 W (b+1) []):=D ⟨J,0,by rw[←d,←f];exact bO _ _ _,fun j u z=>by cases z⟩;have n:=D e;have o:=D d;have p:=D f;obtain⟨c0,c1,c2,B,C,E,F⟩:=dZ (show W.heap[b]?=I (.cells jK 51 (0,0))by rw[←d,←f];exact ce _ _ _);clear d f e
 go_enter func132,ntmps132
 go_upto_region 2 with fail
 rw[p.o,o.o];clear o;go_upto_region 4 with((go_at_call 190;refine(YY W (b+1) g.o).mono ?_);rintro en q ⟨rfl,r,h,i,k⟩)
 obtain⟨a,c,s,t⟩:=h.o;have K:q.cell? ⟨b+1,0,J⟩=I (.slice a r.length c):=by simp only[an,s];rfl
 have H:=D t;have m:Hid (ae w.heap.size w q):=D (n.o.trans (k.o.below n.o.size (by have:=p.o;omega)));clear s t c0 c1 c2 B C E F;go_wp2;go_ret;exact⟨r,a,c,rfl,i.o,H.o,m.o⟩
def LQ(w:V)(B E:Nat)(z u:dY)(x y:eo)(h:bB w B z x)(l:bB w E u y):ar M 145 #[.agg ⟨z.l x⟩,.agg ⟨u.l y⟩] w (lU w):=by
 simp only[dY.l];obtain⟨b,v⟩:∃b,w.heap.size=b:=⟨_,rfl⟩;obtain⟨W,t⟩:∃W,(w.alloc (.cells (di z.v.1 x.v.length z.v.2 z.r.1 x.r.length z.r.2 z.e.1 x.e.length z.e.2 z.g.1 x.g.length z.g.2 z.s.1 x.s.length z.s.2 z.b.1 x.b.length z.b.2) 47)).alloc (.cells (di u.v.1 y.v.length u.v.2 u.r.1 y.r.length u.r.2 u.e.1 y.e.length u.e.2 u.g.1 y.g.length u.g.2 u.s.1 y.s.length u.s.2 u.b.1 y.b.length u.b.2) 47)=W:=⟨_,rfl⟩;have m:ae w.heap.size w W:=by rw[←t];exact((aD _ _).alloc (G _) _).alloc bW _
 have c:=D m;have d:=D (h.keep m (G _));have e:=D (l.keep m (G _));have a:Hid (W.heap[b]?=I (.cells (di z.v.1 x.v.length z.v.2 z.r.1 x.r.length z.r.2 z.e.1 x.e.length z.e.2 z.g.1 x.g.length z.g.2 z.s.1 x.s.length z.s.2 z.b.1 x.b.length z.b.2) 47 (0,0))∧W.heap[b+1]?=I (.cells (di u.v.1 y.v.length u.v.2 u.r.1 y.r.length u.r.2 u.e.1 y.e.length u.e.2 u.g.1 y.g.length u.g.2 u.s.1 y.s.length u.s.2 u.b.1 y.b.length u.b.2) 47 (0,0))∧b+2≤W.heap.size):=D ⟨by rw[←t,←v];exact ce _ _ _,by rw[←t,←v];exact bO _ _ _,by rw[←t,←v];simp⟩;have C:=D t;have F:=D v;clear h l t v m
 go_enter func145,ntmps145
 go_upto_region 1 with fail
 rw[C.o,F.o];clear C;obtain⟨b0,b1,b2,b3,b4,b5⟩:=ah a.o.1;obtain⟨d0,f,g,i,j,k⟩:=ah a.o.2.1;go_wp2_with fail
 refine(YJ _ _ x.v y.v _ d.o.v.sl e.o.v.sl).mono ?_;rintro en H ⟨q,rfl,n⟩;have a:=D (⟨(n.block b (by have:=a.o.2.2;omega)).trans a.o.1,(n.block (b+1) (by have:=a.o.2.2;omega)).trans a.o.2.1,aa a.o.2.2 n.size⟩:_∧_∧_);have d:=D (d.o.keep n (G _));have e:=D (e.o.keep n (G _));have c:=D (c.o.trans (n.mono c.o.size));clear n b0 b1 b2 b3 b4 b5 d0 f g i j k
 cases q with
 | false=>
  go_wp2;go_ret;exact⟨_,rfl,c.o⟩
 | true=>
  obtain⟨b0,b1,b2,b3,b4,b5⟩:=ah a.o.1;obtain⟨d0,f,g,i,j,k⟩:=ah a.o.2.1;go_wp2_with fail
  refine(YL _ _ x.r y.r _ d.o.r.sl e.o.r.sl).mono ?_;rintro en K ⟨q,rfl,o⟩;have a:=D (⟨(o.block b (by have:=a.o.2.2;omega)).trans a.o.1,(o.block (b+1) (by have:=a.o.2.2;omega)).trans a.o.2.1,aa a.o.2.2 o.size⟩:_∧_∧_);have d:=D (d.o.keep o (G _));have e:=D (e.o.keep o (G _));have c:=D (c.o.trans (o.mono c.o.size));clear o b0 b1 b2 b3 b4 b5 d0 f g i j k
  cases q with
  | false=>
   go_wp2;go_ret;exact⟨_,rfl,c.o⟩
  | true=>
   obtain⟨b0,b1,b2,b3,b4,b5⟩:=ah a.o.1;obtain⟨d0,f,g,i,j,k⟩:=ah a.o.2.1;go_wp2_with fail
   refine(YN _ _ x.e y.e _ d.o.e.sl e.o.e.sl).mono ?_;rintro en L ⟨q,rfl,l⟩;have a:=D (⟨(l.block b (by have:=a.o.2.2;omega)).trans a.o.1,(l.block (b+1) (by have:=a.o.2.2;omega)).trans a.o.2.1,aa a.o.2.2 l.size⟩:_∧_∧_);have d:=D (d.o.keep l (G _));have e:=D (e.o.keep l (G _));have c:=D (c.o.trans (l.mono c.o.size));clear l b0 b1 b2 b3 b4 b5 d0 f g i j k
   cases q with
   | false=>
    go_wp2;go_ret;exact⟨_,rfl,c.o⟩
   | true=>
    obtain⟨b0,b1,b2,b3,b4,b5⟩:=ah a.o.1;obtain⟨d0,f,g,i,j,k⟩:=ah a.o.2.1;go_wp2_with fail
    refine(LG _ _ x.g y.g _ d.o.g.sl e.o.g.sl).mono ?_;rintro en N ⟨q,rfl,p⟩;have a:=D (⟨(p.block b (by have:=a.o.2.2;omega)).trans a.o.1,(p.block (b+1) (by have:=a.o.2.2;omega)).trans a.o.2.1,aa a.o.2.2 p.size⟩:_∧_∧_);have d:=D (d.o.keep p (G _));have e:=D (e.o.keep p (G _));have c:=D (c.o.trans (p.mono c.o.size));clear p b0 b1 b2 b3 b4 b5 d0 f g i j k
    cases q with
    | false=>
     go_wp2;go_ret;exact⟨_,rfl,c.o⟩
    | true=>
     obtain⟨b0,b1,b2,b3,b4,b5⟩:=ah a.o.1;obtain⟨d0,f,g,i,j,k⟩:=ah a.o.2.1;go_wp2_with fail
     refine(YQ _ _ x.s y.s _ d.o.s.sl e.o.s.sl).mono ?_;rintro en P ⟨q,rfl,r⟩;have a:=D (⟨(r.block b (by have:=a.o.2.2;omega)).trans a.o.1,(r.block (b+1) (by have:=a.o.2.2;omega)).trans a.o.2.1,aa a.o.2.2 r.size⟩:_∧_∧_);have d:=D (d.o.keep r (G _));have e:=D (e.o.keep r (G _));have c:=D (c.o.trans (r.mono c.o.size));clear r b0 b1 b2 b3 b4 b5 d0 f g i j k
     cases q with
     | false=>
      go_wp2;go_ret;exact⟨_,rfl,c.o⟩
     | true=>
      obtain⟨b0,b1,b2,b3,b4,b5⟩:=ah a.o.1;obtain⟨d0,f,g,i,j,k⟩:=ah a.o.2.1;go_wp2_with fail
      refine(YS _ _ x.b y.b _ d.o.b.sl e.o.b.sl).mono ?_;rintro en Q ⟨q,rfl,s⟩;have a:=D (⟨(s.block b (by have:=a.o.2.2;omega)).trans a.o.1,(s.block (b+1) (by have:=a.o.2.2;omega)).trans a.o.2.1,aa a.o.2.2 s.size⟩:_∧_∧_);have d:=D (d.o.keep s (G _));have e:=D (e.o.keep s (G _));have c:=D (c.o.trans (s.mono c.o.size));clear s b0 b1 b2 b3 b4 b5 d0 f g i j k
      cases q with
      | false=>
       go_wp2;go_ret;exact⟨_,rfl,c.o⟩
      | true=>
       go_wp2;go_ret;exact⟨_,rfl,c.o⟩
def SV(w:V):ar M 209 #[.slice J 0 0,.slice J 0 0] w (fun e w'=>e=.returned (.bool O)∧w'=w):=by
 go_enter func209,ntmps209
 go_wp2
 go_loopw[13] (fun v wr=>v=.int .i64 0∧wr=w) (fun _ _=>0)
 case atStart=>exact⟨rfl,rfl⟩
 case round=>
  obtain⟨rfl,rfl⟩:=hrel;go_wp2;go_ret;exact⟨rfl,rfl⟩
def SW(w:V):ar M 210 #[.slice J 0 0,.slice J 0 0] w (fun e w'=>e=.returned (.bool O)∧w'=w):=by
 go_enter func210,ntmps210
 go_wp2
 go_loopw[13] (fun v wr=>v=.int .i64 0∧wr=w) (fun _ _=>0)
 case atStart=>exact⟨rfl,rfl⟩
 case round=>
  obtain⟨rfl,rfl⟩:=hrel;go_wp2;go_ret;exact⟨rfl,rfl⟩
def SX(w:V):ar M 211 #[.slice J 0 0,.slice J 0 0] w (fun e w'=>e=.returned (.bool O)∧w'=w):=by
 go_enter func211,ntmps211
 go_wp2
 go_loopw[13] (fun v wr=>v=.int .i64 0∧wr=w) (fun _ _=>0)
 case atStart=>exact⟨rfl,rfl⟩
 case round=>
  obtain⟨rfl,rfl⟩:=hrel;go_wp2;go_ret;exact⟨rfl,rfl⟩
def SY(w:V):ar M 212 #[.slice J 0 0,.slice J 0 0] w (fun e w'=>e=.returned (.bool O)∧w'=w):=by
 go_enter func212,ntmps212
 go_wp2
 go_loopw[13] (fun v wr=>v=.int .i64 0∧wr=w) (fun _ _=>0)
 case atStart=>exact⟨rfl,rfl⟩
 case round=>
  obtain⟨rfl,rfl⟩:=hrel;go_wp2;go_ret;exact⟨rfl,rfl⟩
def LR(f:Z)(w:V):ar M 147 #[.slice J 0 0,.slice J 0 0,f] w (fun e w'=>e=.returned (.bool O)∧w'=w):=by
 go_enter func147,ntmps147
 go_wp2
 go_loopw[17] (fun v wr=>v=.int .i64 0∧wr=w) (fun _ _=>0)
 case atStart=>exact⟨rfl,rfl⟩
 case round=>
  obtain⟨rfl,rfl⟩:=hrel;go_wp2;go_ret;exact⟨rfl,rfl⟩
def JB(w:V):ar M 146 #[.agg ka,.agg ka] w (fun e w'=>e=.returned (.bool O)∧ae w.heap.size w w'):=by
 obtain⟨b,f⟩:∃b,w.heap.size=b:=⟨_,rfl⟩;obtain⟨W,c⟩:∃W,(w.alloc (.cells ka 38)).alloc (.cells ka 38)=W:=⟨_,rfl⟩;have d:ae w.heap.size w W:=by rw[←c];exact((aD _ _).alloc (G _) _).alloc bW _
 have i:=D d;obtain⟨c0,c1,c2,k,l,m,n⟩:=dZ (show W.heap[b]?=I (.cells ka 38 (0,0))by rw[←c,←f];exact ce _ _ _);obtain⟨d0,o,p,q,r,s,t⟩:=dZ (show W.heap[b+1]?=I (.cells ka 38 (0,0))by rw[←c,←f];exact bO _ _ _);have g:=D c;have j:=D f;clear c f d
 go_enter func146,ntmps146
 go_upto_region 1 with fail
 rw[g.o,j.o];clear g;go_wp2_with fail
 refine(SV _).mono ?_;rintro en h ⟨rfl,a⟩;rw[a];clear a;go_wp2_with fail
 refine(SW _).mono ?_;rintro en h ⟨rfl,a⟩;rw[a];clear a;go_wp2_with fail
 refine(SX _).mono ?_;rintro en h ⟨rfl,a⟩;rw[a];clear a;go_wp2;go_ret;exact⟨rfl,i.o⟩
def Hl(w:V)(a1 b1 c1 a2 b2 c2:Int):ar M 150 #[.agg (px a1 b1 c1),.agg (px a2 b2 c2)] w (lU w):=by
 obtain⟨b,e⟩:∃b,w.heap.size=b:=⟨_,rfl⟩;obtain⟨W,a⟩:∃W,(w.alloc (.cells (px a1 b1 c1) 51)).alloc (.cells (px a2 b2 c2) 51)=W:=⟨_,rfl⟩;have c:ae w.heap.size w W:=by rw[←a];exact((aD _ _).alloc (G _) _).alloc bW _
 have f:=D c;obtain⟨c0,h,i,l,m,n,o⟩:=dZ (show W.heap[b]?=I (.cells (px a1 b1 c1) 51 (0,0))by rw[←a,←e];exact ce _ _ _);obtain⟨d0,p,q,r,s,t,u⟩:=dZ (show W.heap[b+1]?=I (.cells (px a2 b2 c2) 51 (0,0))by rw[←a,←e];exact bO _ _ _);have g:=D a;have j:=D e;clear a e c
 go_enter func150,ntmps150
 go_upto_region 1 with fail
 rw[g.o,j.o];clear g
 cases v:(a1==a2)with
 | false=>
  go_wp2;go_ret;exact⟨_,rfl,f.o⟩
 | true=>
  cases x:(b1==b2)with
  | false=>
   go_wp2;go_ret;exact⟨_,rfl,f.o⟩
  | true=>
   cases q2:(c1==c2)with
   | false=>
    go_wp2;go_ret;exact⟨_,rfl,f.o⟩
   | true=>
    go_wp2_with fail
    refine(SY _).mono ?_;rintro en k ⟨rfl,d⟩;rw[d];clear d;go_wp2_with fail
    refine(LR _ _).mono ?_;rintro en k ⟨rfl,d⟩;rw[d];clear d;go_wp2;go_ret;exact⟨_,rfl,f.o⟩
def JC(v v':Z)(a e:List Bool)(w:V)(h:cc dz.f dz.E w v a)(n:cc dz.f dz.E w v' e):ar M 149 #[v,v'] w (lU w):=by
 obtain⟨ao,cap,rfl,o,C⟩:=Sl.shape h;obtain⟨E,f,rfl,c,p⟩:=Sl.shape n;by_cases d:a.length=e.length
 ·have g:=D d
  rw[←d]at n c⊢;clear d;have F:=D n;clear n
  go_enter func149,ntmps149
  go_wp2
  go_loopw[13] (fun s wr=>∃k:Nat,k≤a.length∧s=.int .i64 k∧ae w.heap.size w wr) (fun s _=>a.length-(bp s).toNat)
  case atStart=>exact⟨0,aw _,rfl,aD _ _⟩
  case round=>
   obtain⟨k,N,rfl,i⟩:=hrel;by_cases j:k<a.length
   ·have m:k<e.length:=by rw[←g.o];exact j
    obtain⟨b,H,rfl,K,q⟩:=cc.at h dz.len dz.pos i (G _) k j;obtain⟨P,r,rfl,t,u⟩:=cc.at (cap:=f) (l:=e) (by have z:=F.o;rw[g.o]at z;exact z) dz.len dz.pos i (G _) k m;generalize a[k]=x at*;generalize e[k]=y at*;have L:(k:Int)<a.length:=A
    have c0:=q 0 _ rfl;have d0:=u 0 _ rfl;rw[dL,dg]at c0 d0;clear q u
    cases x<;>cases y
    all_goals
     go_wp2_with fail
     go_quiet (fail)
     go_wp2
    all_goals first
     | (go_ret;exact⟨_,rfl,below_drewN i _⟩)
     | (go_roundw
        case rel=>exact⟨k+1,by omega,by go_num,below_drewN i _⟩
        case measure=>simp[bp];omega)
   ·have:k=a.length:=A
    subst this;go_wp2;go_ret;exact⟨_,rfl,i⟩
 ·have B:¬ (a.length:Int)=(e.length:Int):=A
  go_enter func149,ntmps149
  go_wp2;go_ret;exact⟨_,rfl,aD _ _⟩
structure Sm(w wr:V)(b B B2:Nat)(x u:eQ)(z v:dH)(s t:dV):Prop where
 k0:Bx wr b (aF x z s) 55
 k1:Bx wr (b+1) (aF u v t) 55
 c0:eg wr B z s
 c1:eg wr B2 v t
 bl:ae w.heap.size w wr
 sz:b+2≤wr.heap.size
def Sm.keep{w wr d:V}{b B e C:Nat}{x u:eQ}{z v:dH}{s t:dV}(h:Sm w wr b B e x u z v s t)(a:ae C wr d)(c:wr.heap.size≤C):Sm w d b B e x u z v s t:=by
 have f:=h.sz;exact⟨h.k0.keep a A,h.k1.keep a A,h.c0.keep a c,h.c1.keep a c,h.bl.trans (a.mono (aa h.bl.size c)),aa f a.size⟩
def LS(w:V)(B p:Nat)(x u:eQ)(z v:dH)(s t:dV)(h:eg w B z s)(N:eg w p v t):ar M 84 #[.agg ⟨aF x z s⟩,.agg ⟨aF u v t⟩] w (lU w):=by
 obtain⟨b,k⟩:∃b,w.heap.size=b:=⟨_,rfl⟩;obtain⟨W,j⟩:∃W,(w.alloc (.cells ⟨aF x z s⟩ 55)).alloc (.cells ⟨aF u v t⟩ 55)=W:=⟨_,rfl⟩;have e:ae w.heap.size w W:=by rw[←j];exact((aD _ _).alloc (G _) _).alloc bW _
 have a:Hid (Sm w W b B p x u z v s t):=D ⟨by rw[←j,←k];exact ce _ _ _,by rw[←j,←k];exact bO _ _ _,h.keep e (G _),N.keep e (G _),e,by rw[←j,←k];simp⟩;have P:=D j;have R:=D k;clear j k h N e
 go_enter func84,ntmps84
 go_upto_region 1 with fail
 rw[P.o,R.o];clear P;go_wp2
 go_loopw[7] (fun y wr=>∃i:Nat,y=.int .i64 i∧Hid (i≤3)∧Hid (Sm w wr b B p x u z v s t)) (fun y _=>3-(bp y).toNat)
 case atStart=>exact⟨0,rfl,D aC,a⟩
 case round=>
  clear a;obtain⟨i,rfl,Q,a⟩:=hrel;rcases aL i 3 with l | C
  ·have k0:(0:Int)≤(i:Int):=A
   have k1:(i:Int)<3:=A
   have g:=D l;clear l;go_upto_region 4 with fail
   have a:=D (a.o.keep ((aD wr.heap.size wr).drew) (G _));refine bT 8 (fun r=>Bx r b (aF x z s) 55 ∧Bx r (b+1) (aF u v t) 55) aj ?_;obtain⟨m,n⟩:∃m,wr.drew=m:=⟨_,rfl⟩;rw[n]at a⊢;clear n;have f:Bx m b (aF x z s) 55 ∧Bx m (b+1) (aF u v t) 55:=⟨a.o.k0,a.o.k1⟩;refine stP 0 (.int .i64 i) f ?_;refine stP 1 (.pointer (I ⟨b,13,J⟩)) f ?_;refine stP 2 (.pointer (I ⟨b,13+i*6,J⟩)) f ?_;refine iA [8] 3 (.agg ⟨(z.at i).l (s.at i)⟩) rfl (b_ rfl _ (.tmp 12) rfl b (13+i*6) rfl ((z.at i).l (s.at i)) _ (fun r E=>Bx.range E.1 _ _ (Ha _ _ _ g.o)) underlying47 rfl aj) f ?_;refine stP 4 (.int .i64 i) f ?_;refine stP 5 (.pointer (I ⟨b+1,13,J⟩)) f ?_;refine stP 6 (.pointer (I ⟨b+1,13+i*6,J⟩)) f ?_;refine iA [8] 7 (.agg ⟨(v.at i).l (t.at i)⟩) rfl (b_ rfl _ (.tmp 16) rfl (b+1) (13+i*6) rfl ((v.at i).l (t.at i)) _ (fun r E=>Bx.range E.2 _ _ (Ha _ _ _ g.o)) underlying47 rfl aj) f ?_;refine f_ 8 ?_;go_simp;refine(LQ m B p _ _ _ _ (a.o.c0.at g.o) (a.o.c1.at g.o)).mono ?_;rintro en S ⟨q,rfl,b9⟩;have a:=D (a.o.keep b9 (G _));clear b9 f;first | refine⟨fun h=>by cases h,?_⟩ | skip
   refine f_ 9 ?_;go_simp;refine jj ?_
   cases q with
   | false=>
    go_wp2;go_ret;exact⟨_,rfl,a.o.bl⟩
   | true=>
    have e9:bi ((i:Int)+1)=(i:Int)+1:=ag _ (by have:=g.o;omega);go_wp2;go_roundw
    case rel=>exact⟨i+1,by go_num,g.o,a⟩
    case measure=>exact bA g.o _ eT
  ·have T:i=3:=by have:=Q.o;omega
   subst T;clear Q C;obtain⟨ep,rd,ck,cd,cr,fe,rq⟩:=x;obtain⟨F,H,X,a0,b0,K,L⟩:=u;have d:=Bx.has a.o.k0 45 rfl;have c:=Bx.has a.o.k1 45 rfl;simp only[aF]at d c
   cases q1:(ep==F)with
   | false=>
    go_wp2;go_ret;exact⟨_,rfl,a.o.bl⟩
   | true=>
    go_wp2_with fail
    refine(JB _).mono ?_;rintro en S ⟨rfl,b9⟩;have a:=D (a.o.keep b9 (G _));clear b9 d c;have d:=Bx.has a.o.k0 45 rfl;have c:=Bx.has a.o.k1 45 rfl;simp only[aF]at d c
    cases q2:(rd==H)with
    | false=>
     go_wp2_with ((go_at_call 147;refine(LR _ _).mono ?_);rintro en w8 ⟨rfl,o⟩;rw[o];clear o)
     go_ret;exact⟨_,rfl,a.o.bl⟩
    | true=>
     go_wp2_with ((go_at_call 147;refine(LR _ _).mono ?_);rintro en w8 ⟨rfl,o⟩;rw[o];clear o)
     refine(JC _ _ _ _ _ a.o.c0.sb.sl a.o.c1.sb.sl).mono ?_;rintro en w7 ⟨q,rfl,b9⟩;have a:=D (a.o.keep b9 (G _));clear b9 d c;have d:=Bx.has a.o.k0 45 rfl;have c:=Bx.has a.o.k1 45 rfl;simp only[aF]at d c
     cases q with
     | false=>
      go_wp2;go_ret;exact⟨_,rfl,a.o.bl⟩
     | true=>
      cases q3:(rq==L)with
      | false=>
       go_wp2;go_ret;exact⟨_,rfl,a.o.bl⟩
      | true=>
       go_wp2_with fail
       refine(Hl _ _ _ _ _ _ _).mono ?_;rintro en w6 ⟨q,rfl,b9⟩;have a:=D (a.o.keep b9 (G _));clear b9 d c;have d:=Bx.has a.o.k0 45 rfl;have c:=Bx.has a.o.k1 45 rfl;simp only[aF]at d c
       cases q with
       | false=>
        go_wp2;go_ret;exact⟨_,rfl,a.o.bl⟩
       | true=>
        cases fe<;>cases K
        all_goals
         go_wp2;go_ret;exact⟨_,rfl,a.o.bl⟩
def Cl.put{w:V}{B k j d:Nat}{x c:eQ}{z b:dH}{s s2:dV}{a:List UInt8}(h:Cl w B k j d x z s a)(i:eg w B b s2):Cl (w.setCells k 1 (aF c b s2)) B k j d c b s2 a:=by
 have e:But k w (w.setCells k 1 (aF c b s2)):=But.EJ _ _ _;refine⟨Bx.to (Bx.EJ _ 1 _ _ h.bx (by show 1+45≤46;decide)) eZ,h.Da i (.ZE e),?_⟩;obtain⟨n,f⟩:=h.jn.j;refine⟨⟨n,(e.block j (br f).1 (Ne.symm h.nj)).trans f⟩,h.jn.d.but h.bx ?_ (Ne.symm h.nd) e⟩;intro v g m;simp only[aF,gy,bg,bV,or_false]at g;rcases g with rfl | rfl | rfl | rfl | rfl | rfl | rfl | rfl | rfl | rfl | rfl | rfl | rfl | rfl | rfl | rfl | rfl | rfl | rfl | rfl | rfl | rfl | rfl | rfl | rfl | rfl | rfl | rfl | rfl | rfl | rfl | rfl | rfl | rfl | rfl | rfl | rfl | rfl | rfl | rfl | rfl | rfl | rfl | rfl | rfl | rfl<;>(intro l;cases l)
def LU(w:V)(B k j d b:Nat)(x g:eQ)(z c:dH)(s s2:dV)(a:List UInt8)(e:Int)(u:FrameMode)(h:Cl w B k j d x z s a)(m:eg w B c s2)
  (k0:w.heap[b]?=I (.cells #[.pointer (I ⟨k,0,J⟩)] 167 (0,0))) (k1:Bx w (b+1) (aF g c s2) 55) (k2:w.heap[b+2]?=I (.cells #[.int .i64 e] 25 (0,0))):
  CallsD M 83 #[.pointer (I ⟨b+2,0,J⟩),.pointer (I ⟨b+1,0,J⟩),.pointer (I ⟨b,0,J⟩)] u w (fun n o w'=>o=u∧n=.returned (.tuple #[])∧((e≠0∧Cl w' B k j d x z s a)∨(e=0∧Cl w' B k j d g c s2 a))∧But k w w'):=by
 have i:=D h;have p:=D m;have q:=D k1;have c0:w.cell? ⟨b,0,J⟩=I (.pointer (I ⟨k,0,J⟩)):=by simp only[an,k0];rfl
 have c2:w.cell? ⟨b+2,0,J⟩=I (.int .i64 e):=by simp only[an,k2];rfl
 clear h m k0 k1 k2;by_cases f:e=0
 rotate_left
 ·have r:(e==0)=U:=by simpa using f
  have l:=D f;clear f
  go_enter_d func83,ntmps83
  go_wp2
  go_end0
  exact⟨rfl,.inl ⟨l.o,i.o⟩,But.refl _ _⟩
 ·subst f
  have r:((0:Int)==0)=O:=rfl
  go_enter_d func83,ntmps83
  go_wp2_with (first
   | ((with_reducible refine aT 6 ?_);refine wpList_load_row rfl _ (.tmp 1) rfl (b+1) rfl _ _ (0,0) _ q.o underlying55 rfl aj ?_)
   | (refine wpList_store_mid rfl _ (.tmp 8) (.tmp 6) rfl k 1 ⟨aF g c s2⟩ rfl rfl (i.o.bx.there 1 45 (by show 1+45≤46;decide)) aj (by simp[aF,ap]) ?_))
  go_end0
  exact⟨rfl,i.o.put p.o,But.EJ _ _ _⟩
def Qv(w:V)(B k j d:Nat)(x b:eQ)(z c:dH)(s s2:dV)(f:List UInt8)(n:Nat)(F:Prop)(g:Ending)(w':V):Prop:=
 ∃(e:Int)(a:List UInt8),g=.returned (.int .i64 e)∧((e≠0∧Cl w' B k j d x z s a)∨(e=0∧Cl w' B k j d b c s2 a))∧a.length≤f.length+n∧jJ k j d w w'∧(F→e=0)
def eg.SZ{w w':V}{B p:Nat}{z:dH}{s:dV}{cs:Array Z}(h:eg w B z s)(a:w.heap[p]?=I (.cells cs 25 (0,0)))(b:But p w w'):eg w' B z s:=by
 have d:∀{u:dY}{c:eo},bB w B u c→bB w' B u c:=fun g=>
  ⟨g.v.mI a aC b,g.r.mI a aC b,g.e.mI a aC b,g.g.mI a aC b,g.s.mI a aC b,g.b.mI a aC b⟩
 exact⟨d h.c0,d h.c1,d h.c2,h.sb.mI a aC b⟩
def el{w:V}{a b:Nat}{x y:Array Z}{t u:aN}(d:w.heap[a]?=I (.cells x t (0,0)))(c:w.heap[b]?=I (.cells y u (0,0)))(h:t≠u):a≠b:=by
 rintro rfl;rw[d]at c;injection c with c;injection c with _ c _;exact h c
def Cl.SZ{w w':V}{B k j d p:Nat}{x:eQ}{z:dH}{s:dV}{a:List UInt8}{e:Int}(h:Cl w B k j d x z s a)(b:w.heap[p]?=I (.cells #[.int .i64 e] 25 (0,0)))(c:But p w w'):Cl w' B k j d x z s a:=by
 obtain⟨n,f⟩:=h.jn.j;have i:=h.jn.d;obtain⟨l,done,r,room,t,u,y,C,sc,g,E⟩:=h.jn.d;refine⟨(c.block k (br h.bx).1 (el h.bx b aC)).trans h.bx,h.st.SZ b c,⟨n,(c.block j (br f).1 (el f b aC)).trans f⟩,i.but b ?_ (el g b aC) c⟩;intro v o m;obtain rfl:v=.int .i64 e:=by simpa using o
 intro q;cases q
def LV{w L:V}{B k j d q:Nat}{x i:eQ}{z g:dH}{s s2:dV}{p lg:List UInt8}{n:Nat}{e:Int}{a:Array Z}(r:a.getD 8 undef=.pointer (I ⟨q+1+1,0,J⟩))(h:Cl L B k j d x z s lg)(t:lg.length≤p.length+n)(u:eg L B g s2)
  (k0:L.heap[q]?=I (.cells #[.pointer (I ⟨k,0,J⟩)] 167 (0,0))) (k1:Bx L (q+1) (aF i g s2) 55) (k2:L.heap[q+2]?=I (.cells #[.int .i64 e] 25 (0,0))) (v:jJ k j d w L) {F:Prop} (hF:F→e=0):
  Leaves M f36 a (Qv w B k j d x i z g s s2 p n F) [{ target:=.fn (.func 83) #[.pointer (I ⟨q+1+1,0,J⟩),.pointer (I ⟨q+1,0,J⟩),.pointer (I ⟨q,0,J⟩)],args:= #[] }] .returning L:=by
 have l:q+2≠k:=by
  intro y;have b:L.heap[k]?=_:=h.bx;rw[←y,k2]at b;injection b with b;injection b with _ b _;exact absurd b aC
 refine leaves_cons (f:= 83) (args:= #[.pointer (I ⟨q+1+1,0,J⟩),.pointer (I ⟨q+1,0,J⟩),.pointer (I ⟨q,0,J⟩)]) bW kN ?_;refine(LU L B k j d q x i z g s s2 lg e .returning h u k0 k1 k2).mono ?_;rintro H K C ⟨rfl,rfl,m,c⟩;have k9:=(c.block _ (br k2).1 l).trans k2;have o:a[8]?.getD undef=.pointer (I ⟨q+2,0,J⟩):=by simpa using r
 refine⟨.int .i64 e,?_,e,lg,rfl,m,t,v.trans (.ZE c),hF⟩;have E:C.cell? ⟨q+2,0,J⟩=I (.int .i64 e):=by simp only[an,k9];rfl
 simp[results,results36,o,go_sem,E]
structure Kb(V:V)(q k:Nat)(x2:eQ)(z2:dH)(s2:dV)(y:Int):Prop where
 k0:V.heap[q]?=I (.cells #[.pointer (I ⟨k,0,J⟩)] 167 (0,0))
 k1:Bx V (q+1) (aF x2 z2 s2) 55
 k2:V.heap[q+2]?=I (.cells #[.int .i64 y] 25 (0,0))
def Kb.LM{C c:V}{q k j d:Nat}{f:eQ}{i:dH}{s2:dV}{y:Int}{e:List UInt8}(h:Kb C q k f i s2 y)(a:Jn C j d e)(l:gK j d C c):Kb c q k f i s2 y:=by
 obtain⟨n,m⟩:=a.j;obtain⟨o,done,u,room,v,w,x,z,sc,p,B⟩:=a.d
 have st:∀{g:Nat}{cs:Array Z}{t:aN},C.heap[g]?=I (.cells cs t (0,0))→t≠ 155 →t≠ 81 →c.heap[g]?=I (.cells cs t (0,0)):=fun b r s=>
  (l.block _ (br b).1 (el b m r) (el b p s)).trans b
 exact⟨st h.k0 aC aC,st h.k1 aC aC,st h.k2 aC aC⟩
def zS{w H:V}{B k j d q:Nat}{x m:eQ}{z g:dH}{s s2:dV}{o lg:List UInt8}{n:Nat}{e y:Int}{b:Array Z}(p:b.getD 8 undef=.pointer (I ⟨q+1+1,0,J⟩))(h:Cl H B k j d x z s lg)(r:lg.length≤o.length+n)(l:eg H B g s2)
  (f:Kb H q k m g s2 y) (E:w.heap.size=q) (c:jJ k j d w H) {F:Prop} (hF:F→e=0):
  Leaves M f36 b (Qv w B k j d x m z g s s2 o n F) [{ target:=.fn (.func 83) #[.pointer (I ⟨q+1+1,0,J⟩),.pointer (I ⟨q+1,0,J⟩),.pointer (I ⟨q,0,J⟩)],args:= #[] }] .returning (H.setCell ⟨q+1+1,0,J⟩ (.int .i64 e)):=by
 have a:But (q+2) H (H.setCell ⟨q+1+1,0,J⟩ (.int .i64 e)):=But.set _ _ _ _;have t:=(br f.k2).1;have u:=c;refine LV (e:=e) p (h.SZ f.k2 a) r (l.SZ f.k2 a) ((a.block _ A A).trans f.k0) ((a.block _ A A).trans f.k1) (by simp[aV,aR,f.k2]) ⟨a.os.trans c.os,a.tape.trans c.tape,a.output.trans c.output,aa c.size a.size,fun i hi v l C=>(a.block i (ac hi c.size) A).trans (c.block i hi v l C)⟩ hF
def zT(w:V)(B k j d:Nat)(x p:eQ)(z i:dH)(s s2:dV)(E b:List UInt8)(ao:Option aB)(cap N:Nat)(e:Int)(h:Cl w B k j d x z s E)(h2:eg w B i s2)(hf:s.ok N)(hN:N≤4000)(hr:Rd w ao (bX b))(hl:E.length<60000000)(hb:b.length<1000):
  ar M 36 #[.pointer (I ⟨k,0,J⟩),.slice ao b.length cap,.agg ⟨aF p i s2⟩,.int .i64 e] w (Qv w B k j d x p z i s s2 E (2*b.length+16) (e=0∧Fr w j d)):=by
 have i0:∀(fn:Fn)(first cap:Array Z)(w:V),(dn fn first cap).run M w=.ok (.func fn first cap) w:=fun _ _ _ _=>rfl
 obtain⟨q,P⟩:∃q,w.heap.size=q:=⟨_,rfl⟩;obtain⟨W,S⟩:∃W,((w.alloc (.cells #[.pointer (I ⟨k,0,J⟩)] 167)).alloc (.cells ⟨aF p i s2⟩ 55)).alloc (.cells #[.int .i64 0] 25)=W:=⟨_,rfl⟩;have f:Hid (Three w W q q #[.pointer (I ⟨k,0,J⟩)] ⟨aF p i s2⟩ #[.int .i64 0] 167 55 25):=D (by rw[←S,←P];exact Three.mk' _ _ (G _) _ _ _ _ _ _);have Q:=D P;have a:ae w.heap.size w W:=by rw[P];exact f.o.bl
 have l:=D (h.keep a (G _));have y:=D (h2.keep a (G _));have T:=D (hr.keep a (G _));have c:=D a;have HF:=D hf;have HN:=D hN;have HL:=D hl;have HB:=D hb;have HW:=D S;clear h h2 hf hN hr hl hb P S a
 go_enter_defers func36,ntmps36
 go_upto_region 1 with fail
 rw[HW.o,Q.o];clear HW;have c2:W.cell? ⟨q+2,0,J⟩=I (.int .i64 0):=by simp only[an,f.o.k2];rfl
 have f2:=aq f.o.k2 0;by_cases R:e=0
 rotate_left
 ·have e1:(e != 0)=O:=by simpa using R
  have X:=D R;clear R;go_wp2;exact zS rfl l.o A y.o ⟨f.o.k0,f.o.k1,f.o.k2⟩ Q.o (.EO c.o) (fun h=>absurd h.1 X.o)
 ·subst R
  have e1:((0:Int) != 0)=U:=rfl;go_upto_region 4 with fail
  go_cut[14]from 14 to 21 (fun u14 wc=>∃F:Bool,u14=.bool F∧Hid (Kb wc q k p i s2 0)∧Hid (Cl wc B k j d x z s E)∧Hid (eg wc B i s2)∧Hid (Rd wc ao (bX b))∧Hid (ae w.heap.size w wc))
  case first=>
   refine gJ aj [[0,1,2,3,4,5,6],[0,1,2,4,3,5,6],[0,1,4,2,3,5,6],[0,4,1,2,3,5,6],[4,0,1,2,3,5,6]] aj ?_;intro lo a0;obtain⟨C,m⟩:∃C,W.drew=C:=⟨_,rfl⟩;have a:ae W.heap.size W C:=by rw[←m];exact(aD _ _).drew
   have r:Hid (Kb C q k p i s2 0):=D (by rw[←m];exact⟨f.o.k0,f.o.k1,f.o.k2⟩);have HX:=D (l.o.bx.keep a (br l.o.bx).1);have c0:C.cell? ⟨q,0,J⟩=I (.pointer (I ⟨k,0,J⟩)):=by simp only[an,r.o.k0];rfl
   have n:=D a;rw[m];clear m a c2 f2;rcases(by simpa using a0:lo=[0,1,2,3,4,5,6]∨lo=[0,1,2,4,3,5,6]∨lo=[0,1,4,2,3,5,6]∨lo=[0,4,1,2,3,5,6]∨lo=[4,0,1,2,3,5,6])with rfl | rfl | rfl | rfl | rfl
   all_goals (simp only[List.filterMap_cons,List.filterMap_nil,List.getElem?_toArray,List.getElem?_cons_zero,List.getElem?_cons_succ];change wpList _ _ _ [_,_,_,_,_,_,_] _ _)
   all_goals
    go_wp2_with (first
     | ((with_reducible refine aT 18 ?_);refine j_ rfl _ (.tmp 17) rfl k 1 rfl (aF x z s) _ (HX.o.range 1 _ eZ) underlying55 rfl aj ?_)
     | ((with_reducible refine aT 19 ?_);refine wpList_load_row rfl _ (.tmp 6) rfl (q+1) rfl _ _ (0,0) _ r.o.k1 underlying55 rfl aj ?_)
     | ((go_at_call 84;refine(LS C B B x p z i s s2 (l.o.st.keep n.o (G _)) (y.o.keep n.o (G _))).mono ?_);rintro en w2 ⟨F,rfl,b0⟩))
    have g:=n.o.trans (b0.mono n.o.size);have t:=f.o.keep g f.o.sz;go_meet
    case rel=>exact⟨F,rfl,D ⟨t.k0,t.k1,t.k2⟩,D (l.o.keep g (G _)),D (y.o.keep g (G _)),D (T.o.keep g (G _)),D (c.o.trans (g.mono c.o.size))⟩
  case rest=>
  obtain⟨F,rfl,r,l,y,T,c⟩:=hcut;have c0:wc.cell? ⟨q,0,J⟩=I (.pointer (I ⟨k,0,J⟩)):=by simp only[an,r.o.k0];rfl
  have c2:wc.cell? ⟨q+2,0,J⟩=I (.int .i64 0):=by simp only[an,r.o.k2];rfl
  have f2:=aq r.o.k2 0
  cases F with
  | true=>
   go_wp2;exact zS rfl l.o A y.o r.o Q.o (.EO c.o) (fun _=>rfl)
  | false=>
   go_wp2_with fail
   refine(LN wc B k j d x z s E b ao cap N l.o HF.o HN.o T.o HL.o HB.o).mono ?_;rintro en w3 ⟨e3,rfl,u,H⟩;obtain⟨lg,K,L⟩:=u.cl;have o:=u.bt;clear u;have d0:=D K;have v:Hid (Kb w3 q k p i s2 0):=D (r.o.LM l.o.jn o);have e0:=D (l.o.Da y.o (.YW o));have f0:Hid (jJ k j d w w3):=D ((jJ.EO c.o).trans (.YW o));have g0:=D L;have h0:=D H;clear K L o c0 c2 f2 H;have f2:=aq v.o.k2 0;have c2:w3.cell? ⟨q+2,0,J⟩=I (.int .i64 0):=by simp only[an,v.o.k2];rfl
   go_wp2;exact zS rfl d0.o g0.o e0.o v.o Q.o f0.o (fun h=>h0.o (h.2.keep c.o (G _)))
def Gy(w:V)(B:Nat)(x:eQ)(z:dH)(s:dV)(c:Int)(h:eg w B z s):
  ar M 89 #[.agg ⟨aF x z s⟩,.int .i64 c] w (fun e w'=>e=.returned (.bool (decide (0≤c)&&decide (c<3)))∧ae w.heap.size w w'):=by
 obtain⟨W,j⟩:∃W,w.alloc (.cells ⟨aF x z s⟩ 55)=W:=⟨_,rfl⟩;have d:ae w.heap.size w W:=by rw[←j];exact(aD _ _).alloc (G _) _
 have q:Hid (Bx W w.heap.size (aF x z s) 55):=D (by rw[←j];exact al w _);have m:W.cell? ⟨w.heap.size,33,J⟩=I (.slice z.sb.1 3 z.sb.2):=q.o.has 45 rfl 33 aC;have k:=h.sb.keep d (G _);obtain⟨g,n,-,-,-,k0⟩:=k.at 0 aC;obtain⟨u,a,-,-,-,k1⟩:=k.at 1 aC;obtain⟨v,b,-,-,-,k2⟩:=k.at 2 aC;rw[n]at a b;injection a with a;injection a with a _;injection b with b;injection b with b _;subst a b;have y:W.cell? ⟨g,0,J⟩=I (.bool O):=k0 0 _ rfl;have C:W.cell? ⟨g,1,J⟩=I (.bool O):=k1 0 _ rfl;have E:W.cell? ⟨g,2,J⟩=I (.bool O):=k2 0 _ rfl;rw[n]at m;have o:=D d;have f:=D j;clear h k d j k0 k1 k2 n;by_cases i:0≤c
 rotate_left
 ·have l:decide (0≤c)=U:=by simpa using i
  clear i
  go_enter func89,ntmps89
  go_upto_region 1 with fail
  rw[f.o];clear f;go_wp2;go_ret;exact⟨eA (by first | rfl | (rw [l];rfl)),o.o⟩
 ·have l:decide (0≤c)=O:=by simpa using i
  by_cases p:c<3
  rotate_left
  ·have r:decide (c<3)=U:=by simpa using p
   clear i p
   go_enter func89,ntmps89
   go_upto_region 1 with fail
   rw[f.o];clear f;go_wp2;go_ret;exact⟨eA (by first | rfl | (rw [l,r];rfl)),o.o⟩
  ·have t:c=0∨c=1∨c=2:=A
   clear i p l;rcases t with rfl | rfl | rfl
   all_goals
    go_enter func89,ntmps89
    go_upto_region 1 with fail
    rw[f.o];clear f;go_wp2;go_ret;exact⟨eA rfl,o.o⟩
end Go.Proofs.YtdgllhcfablaoaaGreat
