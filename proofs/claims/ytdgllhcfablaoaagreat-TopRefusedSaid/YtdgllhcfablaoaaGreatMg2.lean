/- What the law asks, in parts: Rd ZTs Re Rf Rg2 Ri Rj Rk Rm Rn Ro. -/
import Derived.Laws.CopyOwn
import Derived.Test.YtdgllhcfablaoaaGreatMg1
import Derived.Test.YtdgllhcfablaoaaGreatMg0
set_option linter.all false
set_option maxRecDepth 100000
set_option maxHeartbeats 16000000
open Go.Proofs.Tryz
open Bool renaming false→U,true→O
open Option renaming some→I,none→J
open Go renaming World→V,Value→Z,bodyPost_ret→au,Calls→ar,heap_alloc_new→al,Addr→aB,TypeId→aN,Ending→de,bodyPost→gW
open Nat renaming lt_of_lt_of_le→ac,le_trans→aa,zero_le→aw,lt_or_ge→aL,lt_succ_self→bu,le_succ→dW
open Go.RowKit renaming Below→ae,wrap64→bi,intOf→bp
open Go.IntWalk renaming wrap64_in→ag
open List renaming mem_singleton→af,mem_cons→bg,not_mem_nil→bV,getElem_mem→dj,toArray→eS,take_length→ix,length_map→fX
open Go.World renaming cell?→an,block_lt_of_cell?→aS,setRow→cV,frozen?→fJ
open Go.Code renaming wp→im
open Go.RowKit.Below renaming mono→qF
open Go.Proofs.Tryz renaming prog→M
namespace Go.Proofs.YtdgllhcfablaoaaGreat
open Go.RowKit
structure RK where
 R:Nat→V→Nat→X→Prop
 keep:∀{B C:Nat}{w w':V}{p:Nat}{x:X},R B w p x→ae C w w'→p<C→B≤C→R B w' p x
 drew:∀{B:Nat}{w:V}{p:Nat}{x:X},R B w p x→R B w.drew p x
theorem gM.KV{B:Nat}{w:V}{p:Nat}{x:X}(h:gM B w p x):gM B w.drew p x:=by
 cases x with
 | ok l=>obtain⟨ao,n,cap,P,L,a,b,c⟩:=h;exact⟨ao,n,cap,P,L,⟨a.k,a.c,a.m⟩,⟨b.rd,b.lt⟩,c⟩
 | err e=>obtain⟨d,ao,n,cap,P,a⟩:=h;exact⟨d,ao,n,cap,P,⟨a.k,a.c,a.m⟩⟩
theorem fy.KV{B:Nat}{w:V}{p:Nat}{x:X}(h:fy B w p x):fy B w.drew p x:=by
 cases x with
 | ok l=>obtain⟨ao,cap,a,b⟩:=h;exact⟨ao,cap,⟨a.k,a.c,a.m⟩,⟨b.rd,b.lt⟩⟩
 | err e=>obtain⟨c,ao,n,cap,a⟩:=h;exact⟨c,ao,n,cap,⟨a.k,a.c,a.m⟩⟩
theorem fy.keep{B C:Nat}{w w':V}{p:Nat}{x:X}(h:fy B w p x)(a:ae C w w')(c:p<C)(d:B≤C):fy B w' p x:=by
 cases x with
 | ok l=>obtain⟨ao,cap,b,f⟩:=h;exact⟨ao,cap,b.keep a c,f.keep a d⟩
 | err e=>obtain⟨g,ao,n,cap,b⟩:=h;exact⟨g,ao,n,cap,b.keep a c⟩
abbrev kY:RK:=⟨gM,gM.keep,gM.KV⟩
abbrev kX:RK:=⟨fy,fy.keep,fy.KV⟩
structure Mk(K:RK)(B:Nat)(w0:V)(p:Nat)(L:List (Nat×Array Z×aN))(x:X)(b:Nat)(cs:List Z)(t:aN)(w:V):Prop where
 rd:K.R B w p x
 blk:w.heap[b]?=I (.cells ⟨cs⟩ t (0,0))
 fZ:∀q∈L,w.heap[q.1]?=I (.cells q.2.1 q.2.2 (0,0))∧q.1≠p∧q.1≠b
 but:But p w0 w
 own:w0.heap.size≤b
 mf:p<w0.heap.size
 bs:B≤w0.heap.size
section
variable {K:RK} {B:Nat} {w0 w w':V} {p b:Nat} {x y:X} {cs:List Z} {t:aN} {L:List (Nat×Array Z×aN)}
theorem Mk.st(h:Mk K B w0 p L x b cs t w)(i:Nat)(v:Z):Mk K B w0 p L x b (cs.set i v) t (w.setCell ⟨b,i,J⟩ v):=
 ⟨K.keep h.rd (C:=b) ((aD _ _).setCell (p:=⟨b,i,J⟩) (G _) _) (by have:=h.mf;have:=h.own;omega) (by have:=h.bs;have:=h.own;omega),by simp[World.setCell,Array.getElem?_modify,h.blk],
  fun q c=>by obtain⟨d,e,a⟩:=h.fZ q c;exact⟨by rw[Below.heap_setCell _ _ _ _ a];exact d,e,a⟩,h.but.own h.own _ _,h.own,h.mf,h.bs⟩
theorem Mk.call(h:Mk K B w0 p L x b cs t w)(k:K.R B w' p y)(a:But p w w'):Mk K B w0 p L y b cs t w':=
 ⟨k,a.dQ h.blk (by have:=h.own;have:=h.mf;omega),fun q d=>by obtain⟨e,c,f⟩:=h.fZ q d;exact⟨a.dQ e c,c,f⟩,h.but.trans a,h.own,h.mf,h.bs⟩
theorem Mk.below{C:Nat}(h:Mk K B w0 p L x b cs t w)(a:ae C w w')(c:b<C)(e:∀q∈L,q.1<C):Mk K B w0 p L x b cs t w':=
 ⟨K.keep h.rd a (by have:=h.mf;have:=h.own;omega) (by have:=h.bs;have:=h.own;omega),by rw[a.block b c];exact h.blk,
  fun q d=>by obtain⟨f,g,i⟩:=h.fZ q d;exact⟨by rw[a.block _ (e q d)];exact f,g,i⟩,h.but.then a (by have:=h.own;omega),h.own,h.mf,h.bs⟩
theorem pD{n c:Nat}{v:Array Z×aN}(h:n≤c):∀q∈ [(n,v)],q.1<c+1:=by
 intro q a;obtain rfl:=af.1 a;exact Nat.lt_succ_of_le h
theorem Mk.drew(h:Mk K B w0 p L x b cs t w):Mk K B w0 p L x b cs t w.drew:=
 ⟨K.drew h.rd,h.blk,h.fZ,h.but.drew,h.own,h.mf,h.bs⟩
theorem Mk.next{i:Nat}{v:Z}(h:Mk K B w0 p L x b cs t w)(k:K.R B w' p y)(a:But p (w.setCell ⟨b,i,J⟩ v) w'):Mk K B w0 p L y b (cs.set i v) t w':=
 (h.st i v).call k a
theorem Mk.cell(h:Mk K B w0 p L x b cs t w)(i:Nat){v:Z}(a:cs[i]?=I v):w.cell? ⟨b,i,J⟩=I v:=by
 simp[an,h.blk,a]
theorem Mk.frozen(h:Mk K B w0 p L x b cs t w)(i:Nat):w.frozen? ⟨b,i,J⟩=U:=by
 simp[fJ,h.blk]
theorem Mk.has(h:Mk K B w0 p L x b cs t w)(n:Nat)(a:cs.length=n):∀i,i<n→w.cell? ⟨b,i,J⟩=I (cs.getD i undef):=by
 intro i hi;subst a;exact h.cell i (by simp[List.getD,hi])
theorem Mk.start(k:K.R B w p x)(a:But p w0 w)(c:p<w0.heap.size)(d:B≤w0.heap.size)(L:List (Nat×Array Z×aN))(f:∀q∈L,w.heap[q.1]?=I (.cells q.2.1 q.2.2 (0,0))∧q.1≠p)(cs:List Z)(t:aN):Mk K B w0 p L x w.heap.size cs t (w.alloc (.cells ⟨cs⟩ t)):=
 ⟨K.keep k ((aD _ _).alloc (G _) _) (ac c a.size) (aa d a.size),al _ _,
  fun q g=>by
   obtain⟨e,h⟩:=f q g;have b:=(br e).1
   exact⟨by rw[Below.heap_alloc _ _ _ b];exact e,h,by omega⟩,a.then ((aD _ _).alloc (G _) _) a.size,a.size,c,d⟩
theorem Mk.back{b2:Nat}{c:List Z}{e:aN}(h:Mk K B w0 p L x b cs t w)(a:Mk K B w p ((b,⟨cs⟩,t)::L) y b2 c e w'):Mk K B w0 p L y b cs t w':=
 ⟨a.rd,(a.fZ _ (List.mem_cons_self ..)).1,fun q d=>⟨(a.fZ q (List.mem_cons_of_mem _ d)).1,(h.fZ q d).2⟩,h.but.trans a.but,h.own,h.mf,h.bs⟩
theorem Mk.KW(h:Mk K B w0 p L x b cs t w)(k:K.R B w' p y)(d:But p w w')(a:List Z)(e:aN):Mk K B w p ((b,⟨cs⟩,t)::L) y w'.heap.size a e (w'.alloc (.cells ⟨a⟩ e)):=
 Mk.start k d (ac h.mf h.but.size) (aa h.bs h.but.size) _ (by
  intro q f;rcases bg.1 f with rfl | f
  ·have c:b≠p:=by have:=h.mf;have:=h.own;omega
   exact⟨d.dQ h.blk c,c⟩
  ·obtain⟨i,g,j⟩:=h.fZ q f
   exact⟨d.dQ i g,g⟩) a e
theorem Below.puts{B:Nat}{a w:V}(h:ae B a w)(o:Nat)(u:Z):ae B a (w.setCell ⟨B,o,J⟩ u):=h.setCell (G _) u
theorem Mk.fin(h:Mk K B w0 p L x b cs t w)(a:ae w0.heap.size w w'):Hid (K.R B w' p x)∧Hid (But p w0 w'):=
 ⟨K.keep h.rd a h.mf h.bs,h.but.then a (G _)⟩
end
theorem Gg{B:Nat}(w:V)(p:Nat)(x:X)(h:gM B w p x)(m:B≤w.heap.size):
  ar M 200 #[.pointer (I ⟨p,0,J⟩)] w (fun r w'=>r=.returned (.agg #[.int .i64 (jk x).1.1,.int .i64 (jk x).1.2.1,.int .i64 (jk x).1.2.2])∧Hid (gM B w' p (jk x).2)∧Hid (But p w w')):=by
 have s:=D h;have n:=D m;have a:=D h.lt;clear h m
 go_enter func200,ntmps200
 go_upto_region 2 with((go_at_call 29;refine(pr _ p x (s.o.keep ((aD _ _).alloc (G _) _) a.o n.o)).mono ?_);rintro en f ⟨rfl,k8,b8⟩)
 have d:But p w f:=(But.alloc _ _ _).trans b8.o
 have H:=D (Mk.start (K:=kY) k8.o d a.o n.o [(w.heap.size,#[.int .i64 0,.int .i64 0,.int .i64 0],73)] (by
  intro q t;obtain rfl:=af.1 t
  exact⟨b8.o.dQ (al _ _) (by have:=a.o;omega),by have:=a.o;show w.heap.size≠p;omega⟩) [.int .i64 (aU x).1,.int .i64 0,.int .i64 0] 73)
 obtain⟨W,g⟩:∃W,f.alloc (.cells #[.int .i64 (aU x).1,.int .i64 0,.int .i64 0] 73)=W:=⟨_,rfl⟩;obtain⟨b,i⟩:∃b,f.heap.size=b:=⟨_,rfl⟩;rw[g,i]at H;rw[g,i];clear g i d k8 b8;go_upto_region 3 with((go_at_call 29;refine(pr _ p _ H.o.rd).mono ?_);rintro en z ⟨rfl,k9,b9⟩;have j:=D (H.o.call k9.o b9.o);have u:=j.o.cell 1 rfl;have f1:=j.o.frozen 1)
 have o:=D (j.o.st 1 (.int .i64 (aU (aU x).2).1));clear u f1;go_upto_region 4 with((go_at_call 29;refine(pr _ p _ o.o.rd).mono ?_);rintro en k ⟨rfl,k10,b10⟩;have c:=D (o.o.call k10.o b10.o);have y:=c.o.cell 2 rfl;have f2:=c.o.frozen 2)
 have e:=D (c.o.st 2 (.int .i64 (aU (aU (aU x).2).2).1));clear y f2;obtain⟨R,l⟩:∃R,k.setCell ⟨b,2,J⟩ (.int .i64 (aU (aU (aU x).2).2).1)=R:=⟨_,rfl⟩;rw[l]at e;rw[l];obtain⟨c0,c1,c2,-⟩:=aW e.o.blk;obtain⟨C,E,F,L,N,P,Q⟩:=aW (e.o.fZ _ (af.2 rfl)).1;clear l;go_wp2;refine au (v:=.agg #[.int .i64 (aU x).1,.int .i64 (aU (aU x).2).1,.int .i64 (aU (aU (aU x).2).2).1]) (by simp[results,results200,go_sem, *]) rfl ⟨rfl,e.o.fin ?_⟩
 repeat (apply Below.puts)
 exact aD _ _
def spine:Nat→Code→Option Code
 | 0,c=>I c
 | n+1,.seq _ b=>spine n b
 | _,_=>J
def gE{P:Program}{b:Option Code}{k:Nat}{e:Code}{Q:Exit→Act→V→Prop}{a:Act}{w:V}(h:b.bind (spine k)=I e)(f:im P e Q a w):∀c,b.bind (spine k)=I c→im P c Q a w:=by
 intro c d;rw[h]at d;injection d with d;subst d;exact f
def bL{w:V}{b:Nat}{c d e f g i j k l m a:Z}{t:aN}(h:w.heap[b]?=I (.cells #[c,d,e,f,g,i,j,k,l,m,a] t (0,0))):
  w.cell? ⟨b,0,J⟩=I c∧w.cell? ⟨b,1,J⟩=I d∧w.cell? ⟨b,2,J⟩=I e∧w.cell? ⟨b,3,J⟩=I f∧w.cell? ⟨b,4,J⟩=I g∧w.cell? ⟨b,5,J⟩=I i∧w.cell? ⟨b,6,J⟩=I j∧w.cell? ⟨b,7,J⟩=I k∧w.cell? ⟨b,8,J⟩=I l∧w.cell? ⟨b,9,J⟩=I m∧w.cell? ⟨b,10,J⟩=I a:=by
 refine⟨?_,?_,?_,?_,?_,?_,?_,?_,?_,?_,?_⟩<;>simp[an,h]
def aq{w:V}{b:Nat}{cs:Array Z}{t:aN}(h:w.heap[b]?=I (.cells cs t (0,0)))(i:Nat):w.frozen? ⟨b,i,J⟩=U:=by simp[fJ,h]
def tm{w:V}{b:Nat}{d e f g i j k l m n a:Z}{t:aN}(h:w.heap[b]?=I (.cells #[d,e,f,g,i,j,k,l,m,n,a] t (0,0))):
  w.cell? ⟨b,0,J⟩=I d∧w.cell? ⟨b,1,J⟩=I e∧w.cell? ⟨b,2,J⟩=I f∧w.cell? ⟨b,3,J⟩=I g∧w.cell? ⟨b,4,J⟩=I i∧w.cell? ⟨b,5,J⟩=I j∧w.cell? ⟨b,6,J⟩=I k∧w.cell? ⟨b,7,J⟩=I l∧w.cell? ⟨b,8,J⟩=I m∧w.cell? ⟨b,9,J⟩=I n∧w.cell? ⟨b,10,J⟩=I a∧
  w.frozen? ⟨b,0,J⟩=U∧w.frozen? ⟨b,1,J⟩=U∧w.frozen? ⟨b,2,J⟩=U∧w.frozen? ⟨b,3,J⟩=U∧w.frozen? ⟨b,4,J⟩=U∧w.frozen? ⟨b,5,J⟩=U∧w.frozen? ⟨b,6,J⟩=U∧w.frozen? ⟨b,7,J⟩=U∧w.frozen? ⟨b,8,J⟩=U∧w.frozen? ⟨b,9,J⟩=U∧w.frozen? ⟨b,10,J⟩=U:=by
 obtain⟨a0,a1,a2,a3,a4,a5,a6,a7,o,p,c⟩:=bL h;exact⟨a0,a1,a2,a3,a4,a5,a6,a7,o,p,c,aq h 0,aq h 1,aq h 2,aq h 3,aq h 4,aq h 5,aq h 6,aq h 7,aq h 8,aq h 9,aq h 10⟩
def dy{B:Nat}(w:V)(p:Nat)(x y:X)(a:Int)(h:gM B w p x)(e:aU x=(a,y)):
  ar M 29 #[.pointer (I ⟨p,0,J⟩)] w (fun b w'=>b=.returned (.int .i64 a)∧Hid (gM B w' p y)∧Hid (But p w w')):=by
 have:=pr w p x h;rw[e]at this;exact this
def zK{B:Nat}(w:V)(p:Nat)(x y:X)(a:List UInt8)(h:gM B w p x)(e:fY x=(a,y)):
  ar M 137 #[.pointer (I ⟨p,0,J⟩)] w (fun b w'=>b=.returned (.string ⟨⟨a⟩⟩)∧Hid (gM B w' p y)∧Hid (But p w w')):=by
 have:=KT w p x h;rw[e]at this;exact this
def ys(B:Nat)(w:V)(p:Nat)(x:X)(g:de)(w':V):Prop:=
 ∃(a b d c v k n t:Int)(e tx:List UInt8)(l:List D3)(ao:Option aB)(f:Nat),g=.returned (.agg (iG a b d c v k e tx n t ao l.length f))∧oK w' w.heap.size (⟨(a,b,d),c,v,k,e,tx,n,t,l⟩,ao,f)∧(Hid (gM B w' p (lS x).2)∧Hid (But p w w'))∧∀m,(lS x).2=.ok m→(⟨(a,b,d),c,v,k,e,tx,n,t,l⟩:hJ)=(lS x).1
def iX{α:Type}(f:X→α×X)(n:Nat)(a:X)(i:Nat)(r:List α):X→Prop
 | .ok l=>fA f n a i r (.ok l)
 | .err e=>i≤n∧r.length=i∧(cB f n a).2=.err e
def iX.of{α:Type}{f:X→α×X}(b:Keeps f){n:Nat}{a:X}{i:Nat}{r:List α}{x:X}(h:fA f n a i r x):iX f n a i r x:=by
 cases x with
 | ok l=>exact h
 | err e=>exact⟨h.2.1,h.1,h.stop b⟩
def iX.len{α:Type}{f:X→α×X}{n:Nat}{a:X}{i:Nat}{r:List α}{x:X}(h:iX f n a i r x):r.length=i∧i≤n:=by
 cases x with
 | ok l=>exact⟨h.1,h.2.1⟩
 | err e=>exact⟨h.2.1,h.1⟩
def iX.step{α:Type}{f:X→α×X}(b:Keeps f){n:Nat}{a:X}{i:Nat}{r:List α}{l:List UInt8}(h:iX f n a i r (.ok l))(hi:i<n):iX f n a (i+1) (r++ [(f (.ok l)).1]) (f (.ok l)).2:=
 iX.of b (fA.step h hi)
def iX.step'{α:Type}{f:X→α×X}(d:Keeps f){n:Nat}{c:X}{i:Nat}{r:List α}{l:List UInt8}(h:iX f n c i r (.ok l))(hi:i<n)(y:α)(g:∀m,(f (.ok l)).2=.ok m→y=(f (.ok l)).1):iX f n c (i+1) (r++ [y]) (f (.ok l)).2:=by
 have a:=h.step d hi
 cases b:(f (.ok l)).2 with
 | ok m=>rw[g m b,←b];exact a
 | err e=>
  rw[b]at a;exact⟨a.1,by simp[h.len.1],a.2.2⟩
def iX.done{α:Type}{f:X→α×X}{n:Nat}{b:X}{i:Nat}{r:List α}{l:List UInt8}(h:iX f n b i r (.ok l))(hi:¬i<n):cB f n b=(r,.ok l):=by
 have a:i=n:=by have:=h.len.2;omega
 subst a;exact fA.done h
def I_{B:Nat}(w w9:V)(p b:Nat)(x W y0:X)(t0:Nat)(m r s u c v k n t:Int)(y tx:List UInt8){u1 u5 u6 u7 u8 u9 u10 u11 u12 u13 u14 u15 u16 u17 u18 u19 u20 u21 u22 u23 u24 u25 u26 u27 u28 u29 u30 u31 u32 u33 u34 u35 u36 u37 u38 u39 u40 u41 u42 u43 u44 u45 u46 u47 u48 u49 u50 u51 u52 u53 u54 u55 u56 u57 u58 u59:Z}
  (d:Hid (lS x=(⟨(r,s,u),c,v,k,y,tx,n,t,(cB jk t0 y0).1⟩,(cB jk t0 y0).2)))
  (HM:Hid ((t0,y0)=if m<0∨8<m then(0,W.fail 4)else(m.toNat,W)))
  (H:Hid (Mk kY B w p [(w.heap.size,wy,75)] W b (Zn r s u c v k y tx n t) 75 w9)):
  ∀c,f139.body.bind (spine 10)=I c→im M c (gW M f139 (ys B w p x)) ⟨#[.pointer (I ⟨p,0,J⟩),u1,.pointer (I ⟨w.heap.size,0,J⟩),.pointer (I ⟨b,0,J⟩),.int .i64 m,u5,u6,u7,u8,u9,u10,u11,u12,u13,u14,u15,u16,u17,u18,u19,u20,u21,u22,u23,u24,u25,u26,u27,u28,u29,u30,u31,u32,u33,u34,u35,u36,u37,u38,u39,u40,u41,u42,u43,u44,u45,u46,u47,u48,u49,u50,u51,u52,u53,u54,u55,u56,u57,u58,u59],[]⟩ w9:=by
 refine gE rfl ?_;by_cases f:m<0∨8<m
 ·have P:=HM.o
  rw[if_pos f]at P;obtain⟨rfl,rfl⟩:=Prod.mk.inj P;clear P;by_cases C:m<0
  ·have e1:decide (m<0)=O:=by simpa using C
   have e3:decide (0<m)=U:=by simp only[decide_eq_false_iff_not];omega
   clear C f;go_upto_block 0 with((go_at_call 30;refine(kj w9 p W 4 aC H.o.rd).mono ?_);rintro en a0 ⟨rfl,k10,b10⟩;have H:=D (H.o.call k10.o b10.o))
   obtain⟨u1,u2,u3,L,g⟩:=H.o.rd.look
   have b0:(u3==0)=U:=by
    cases W with
    | ok l=>obtain⟨rfl,Q⟩:=(show u3=4∧(4:Int)≠0 from g);rfl
    | err e=>obtain⟨rfl,Q⟩:=(show u3=e∧e≠0 from g);simpa using Q
   obtain⟨c0,c1,c2,f0,f1,f2,hp⟩:=aW L;clear L g
   go_cut[] (fun wc=>∃(l:List D3)(z:X)(ao:Option aB)(a:Nat),Hid (Mk kY B w p [(w.heap.size,wy,75)] z b (IQ r s u c v k y tx n t ao l.length a) 75 wc)∧Hid (cn.own wc (b+1) (.slice ao l.length a) l)∧z=(lS x).2∧(∀m,z=.ok m→l=(lS x).1.ds))
   case first=>
    go_wp2
    go_loopw[5] (fun vi wr=>vi=.int .i64 0∧wr=a0) (fun _ _=>0)
    case atStart=>exact⟨rfl,rfl⟩
    case round=>
     obtain⟨rfl,rfl⟩:=hrel;go_wp2;go_meet
     case rel=>exact⟨[],_,J,0,H,D (cn.nil _ _),by rw[d.o];rfl,fun _ _=>by rw[d.o];rfl⟩
   case rest=>
    obtain⟨l,z,ao,a,j,K,g,R⟩:=hcut;have o:=D g;have E:=D R;clear g R;obtain⟨c0,c1,c2,c3,c4,c5,c6,c7,c8,c9,d0⟩:=bL j.o.blk;obtain⟨r0,r1,r2,r3,r4,r5,r6,r7,r8,r9,e0,g0,g1,g2,g3,g4,g5,g6,g7,g8,g9,i0⟩:=tm (j.o.fZ _ (af.2 rfl)).1;go_wp2;have q:Hid (w.heap.size≤b):=D j.o.own;refine au (v:=.agg (iG r s u c v k y tx n t ao l.length a)) (by simp[results,results139,go_sem, *]) rfl (show ys _ _ _ _ _ _ from⟨r,s,u,c,v,k,n,t,y,tx,l,ao,a,rfl,?_,?_,?_⟩)
    ·show cn.own _ w.heap.size _ _
     refine EL.own.to (base:=b+1) ?_ (aa q.o (dW b))
     repeat (refine EL.own.put ?_ _ (by show w.heap.size<_;have:=q.o;omega) _)
     exact K.o
    ·rw[←o.o]
     refine j.o.fin ?_
     repeat (apply Below.puts)
     exact aD _ _
    ·intro m hm
     have F:=d.o;rw[←o.o]at hm;have:=E.o m hm;rw[F]at this⊢;simp only at this;rw[this]
  ·have e1:decide (m<0)=U:=by simpa using C
   have e2:decide (8<m)=O:=by simpa using f.resolve_left C
   have e3:decide (0<m)=O:=by simp only[decide_eq_true_eq];omega
   clear C f;go_upto_block 0 with((go_at_call 30;refine(kj w9 p W 4 aC H.o.rd).mono ?_);rintro en a0 ⟨rfl,k10,b10⟩;have H:=D (H.o.call k10.o b10.o))
   obtain⟨u1,u2,u3,L,g⟩:=H.o.rd.look
   have b0:(u3==0)=U:=by
    cases W with
    | ok l=>obtain⟨rfl,Q⟩:=(show u3=4∧(4:Int)≠0 from g);rfl
    | err e=>obtain⟨rfl,Q⟩:=(show u3=e∧e≠0 from g);simpa using Q
   obtain⟨c0,c1,c2,f0,f1,f2,hp⟩:=aW L;clear L g
   go_cut[] (fun wc=>∃(l:List D3)(z:X)(ao:Option aB)(a:Nat),Hid (Mk kY B w p [(w.heap.size,wy,75)] z b (IQ r s u c v k y tx n t ao l.length a) 75 wc)∧Hid (cn.own wc (b+1) (.slice ao l.length a) l)∧z=(lS x).2∧(∀m,z=.ok m→l=(lS x).1.ds))
   case first=>
    go_wp2
    go_loopw[5] (fun vi wr=>vi=.int .i64 0∧wr=a0) (fun _ _=>0)
    case atStart=>exact⟨rfl,rfl⟩
    case round=>
     obtain⟨rfl,rfl⟩:=hrel;go_wp2;go_meet
     case rel=>exact⟨[],_,J,0,H,D (cn.nil _ _),by rw[d.o];rfl,fun _ _=>by rw[d.o];rfl⟩
   case rest=>
    obtain⟨l,z,ao,a,j,K,g,R⟩:=hcut;have o:=D g;have E:=D R;clear g R;obtain⟨c0,c1,c2,c3,c4,c5,c6,c7,c8,c9,d0⟩:=bL j.o.blk;obtain⟨r0,r1,r2,r3,r4,r5,r6,r7,r8,r9,e0,g0,g1,g2,g3,g4,g5,g6,g7,g8,g9,i0⟩:=tm (j.o.fZ _ (af.2 rfl)).1;go_wp2;have q:Hid (w.heap.size≤b):=D j.o.own;refine au (v:=.agg (iG r s u c v k y tx n t ao l.length a)) (by simp[results,results139,go_sem, *]) rfl (show ys _ _ _ _ _ _ from⟨r,s,u,c,v,k,n,t,y,tx,l,ao,a,rfl,?_,?_,?_⟩)
    ·show cn.own _ w.heap.size _ _
     refine EL.own.to (base:=b+1) ?_ (aa q.o (dW b))
     repeat (refine EL.own.put ?_ _ (by show w.heap.size<_;have:=q.o;omega) _)
     exact K.o
    ·rw[←o.o]
     refine j.o.fin ?_
     repeat (apply Below.puts)
     exact aD _ _
    ·intro m hm
     have F:=d.o;rw[←o.o]at hm;have:=E.o m hm;rw[F]at this⊢;simp only at this;rw[this]
 ·have P:=HM.o
  rw[if_neg f]at P;obtain⟨P,rfl⟩:=Prod.mk.inj P;have j0:m=(t0:Int):=A
  have k0:t0≤8:=A
  have N:=D j0;have e1:decide (m<0)=U:=by rw[decide_eq_false_iff_not];omega
  have e2:decide (8<m)=U:=by rw[decide_eq_false_iff_not];omega
  have l0:=D k0;clear f P k0 j0;go_upto_block 0 with fail
  go_cut[] (fun wc=>∃(l:List D3)(z:X)(ao:Option aB)(a:Nat),Hid (Mk kY B w p [(w.heap.size,wy,75)] z b (IQ r s u c v k y tx n t ao l.length a) 75 wc)∧Hid (cn.own wc (b+1) (.slice ao l.length a) l)∧z=(lS x).2∧(∀m,z=.ok m→l=(lS x).1.ds))
  case first=>
   go_wp2
   go_loopw[5] (fun vi wr=>∃(i:Nat)(l:List D3)(z:X)(ao:Option aB)(a:Nat),vi=.int .i64 i∧Hid (iX jk t0 y0 i l z)∧Hid (Mk kY B w p [(w.heap.size,wy,75)] z b (IQ r s u c v k y tx n t ao i a) 75 wr)∧Hid (cn.own wr (b+1) (.slice ao i a) l)) (fun vi _=>t0-(bp vi).toNat)
   case atStart=>exact⟨0,[],y0,J,0,rfl,D (iX.of Keeps.dot (fA.start _ _ _)),H,D (cn.nil _ _)⟩
   case round=>
    obtain⟨i,l,z,ao,a,rfl,HS,j,K⟩:=hrel;have HL:=D HS.o.len;obtain⟨u1,u2,u3,L,g⟩:=j.o.rd.look;obtain⟨c0,c1,c2,f0,f1,f2,hp⟩:=aW L
    cases z with
    | err e=>
     obtain⟨rfl,Q⟩:=g;have b0:(u3==0)=U:=by simpa using Q
     have HF:Hid ((lS x).2=.err u3):=D (by rw[d.o];exact HS.o.2.2);clear L Q c0 c1 f0 f1 f2 hp;by_cases hi:i<t0
     ·have e3:decide ((i:Int)<m)=O:=by rw[N.o,decide_eq_true_eq];omega
      clear hi;go_wp2;go_meet
      case rel=>exact⟨l,_,ao,a,D (by rw[HL.o.1];exact j.o),D (by rw[HL.o.1];exact K.o),HF.o.symm,fun _ h=>by cases h⟩
     ·have e3:decide ((i:Int)<m)=U:=by rw[N.o,decide_eq_false_iff_not];omega
      clear hi;go_wp2;go_meet
      case rel=>exact⟨l,_,ao,a,D (by rw[HL.o.1];exact j.o),D (by rw[HL.o.1];exact K.o),HF.o.symm,fun _ h=>by cases h⟩
    | ok S=>
     have o0:u3=0:=g;subst o0;have b0:((0:Int)==0)=O:=rfl;clear L g c0 c1 f0 f1 f2 hp;by_cases hi:i<t0
     ·have e3:decide ((i:Int)<m)=O:=by rw[N.o,decide_eq_true_eq];omega
      have HI:=D hi;clear hi;go_upto_region 15 with fail
      refine gJ aj [[0,1,2,3,4,5,6,7],[0,2,1,3,4,5,6,7],[0,2,3,1,4,5,6,7],[0,2,3,4,1,5,6,7],[2,0,1,3,4,5,6,7],[2,0,3,1,4,5,6,7],[2,0,3,4,1,5,6,7],[2,3,0,1,4,5,6,7],[2,3,0,4,1,5,6,7],[2,3,4,0,1,5,6,7]] aj ?_;intro lo p0;obtain⟨wd,m0⟩:∃wd,wr.drew=wd:=⟨_,rfl⟩;have T:=D j.o.drew;have n0:Hid (cn.own wr.drew (b+1) (.slice ao i a) l):=D K.o;rw[m0]at T n0⊢;have t1:=T.o.cell 10 rfl;clear m0 c2;have q0:Hid (p<b+1):=D (by have:=T.o.mf;have:=T.o.own;omega);rcases(by simpa using p0:lo=[0,1,2,3,4,5,6,7]∨lo=[0,2,1,3,4,5,6,7]∨lo=[0,2,3,1,4,5,6,7]∨lo=[0,2,3,4,1,5,6,7]∨lo=[2,0,1,3,4,5,6,7]∨lo=[2,0,3,1,4,5,6,7]∨lo=[2,0,3,4,1,5,6,7]∨lo=[2,3,0,1,4,5,6,7]∨lo=[2,3,0,4,1,5,6,7]∨lo=[2,3,4,0,1,5,6,7])with rfl | rfl | rfl | rfl | rfl | rfl | rfl | rfl | rfl | rfl
      all_goals (simp only[List.filterMap_cons,List.filterMap_nil,List.getElem?_toArray,List.getElem?_cons_zero,List.getElem?_cons_succ];change wpList _ _ _ [_,_,_,_,_,_,_,_] _ _)
      all_goals
       go_wp2_with (first
        | ((go_at_call 200;refine(Gg wd p (.ok S) T.o.rd (by have:=T.o.but.size;have:=T.o.bs;omega)).mono ?_);rintro en w8 ⟨rfl,k8,b8⟩;have H8:=D (T.o.call k8.o b8.o);have o8:=D (n0.o.but b8.o q0.o);have t8:=H8.o.cell 10 rfl;have t9:(w8.alloc (.cells #[.int .i64 (jk (.ok S)).1.1,.int .i64 (jk (.ok S)).1.2.1,.int .i64 (jk (.ok S)).1.2.2] 73)).cell? ⟨b,10,J⟩=I (.slice ao i a):=dG t8 ((aD w8.heap.size _).alloc (G _) _) (aS _ _ t8))
        | ((with_reducible refine aT 57 ?_);refine cn.iW rfl _ _ rfl (b+1) (.slice ao i a) l rfl o8.o (jk (.ok S)).1 _ rfl _ rfl rfl i HL.o.1 (by have:=HI.o;have:=l0.o;omega) (aS _ _ t8) ?_;intro a7 c7 w7 o7 h7 g7;clear g7;have H7:=D (H8.o.below h7 (bu b) (pD H8.o.own));have f7:=H7.o.frozen 10;have t7:=H7.o.cell 10 rfl;have o7:=D o7))
       have H9:=D (H7.o.st 10 (.slice a7 (i+1) c7));have o9:=D (o7.o.put ⟨b,10,J⟩ (bu b) (.slice a7 (i+1) c7));have e9:bi ((i:Int)+1)=(i:Int)+1:=ag _ (by have:=HI.o;have:=l0.o;omega);have s0:=D (HS.o.step Keeps.dot HI.o);clear t8 t9 t7 f7;go_wp2;go_round
       case rel=>exact⟨i+1,l++ [(jk (.ok S)).1],(jk (.ok S)).2,a7,c7,by go_num,s0,H9,o9⟩
       case measure=>exact bA HI.o _ eT
     ·have e3:decide ((i:Int)<m)=U:=by rw[N.o,decide_eq_false_iff_not];omega
      have HF:=D (HS.o.done hi);clear hi;go_wp2;go_meet
      case rel=>exact⟨l,.ok S,ao,a,D (by rw[HL.o.1];exact j.o),D (by rw[HL.o.1];exact K.o),by rw[d.o,HF.o],fun _ _=>by rw[d.o,HF.o]⟩
  case rest=>
   obtain⟨l,z,ao,a,j,K,g,R⟩:=hcut;have o:=D g;have E:=D R;clear g R;obtain⟨c0,c1,c2,c3,c4,c5,c6,c7,c8,c9,d0⟩:=bL j.o.blk;obtain⟨r0,r1,r2,r3,r4,r5,r6,r7,r8,r9,e0,g0,g1,g2,g3,g4,g5,g6,g7,g8,g9,i0⟩:=tm (j.o.fZ _ (af.2 rfl)).1;go_wp2;have q:Hid (w.heap.size≤b):=D j.o.own;refine au (v:=.agg (iG r s u c v k y tx n t ao l.length a)) (by simp[results,results139,go_sem, *]) rfl (show ys _ _ _ _ _ _ from⟨r,s,u,c,v,k,n,t,y,tx,l,ao,a,rfl,?_,?_,?_⟩)
   ·show cn.own _ w.heap.size _ _
    refine EL.own.to (base:=b+1) ?_ (aa q.o (dW b))
    repeat (refine EL.own.put ?_ _ (by show w.heap.size<_;have:=q.o;omega) _)
    exact K.o
   ·rw[←o.o]
    refine j.o.fin ?_
    repeat (apply Below.puts)
    exact aD _ _
   ·intro m hm
    have F:=d.o;rw[←o.o]at hm;have:=E.o m hm;rw[F]at this⊢;simp only at this;rw[this]
def KX{B:Nat}(w:V)(p:Nat)(x:X)(h:gM B w p x)(hB:B≤w.heap.size):
  ar M 139 #[.pointer (I ⟨p,0,J⟩)] w (ys B w p x):=by
 obtain⟨g,i,j,x1,s⟩:∃a b c y,jk x=((a,b,c),y):=⟨_,_,_,_,rfl⟩;obtain⟨c,x2,u⟩:∃a y,aU x1=(a,y):=⟨_,_,rfl⟩;obtain⟨v,x3,z⟩:∃a y,aU x2=(a,y):=⟨_,_,rfl⟩;obtain⟨k,x4,C⟩:∃a y,aU x3=(a,y):=⟨_,_,rfl⟩;obtain⟨t,x5,E⟩:∃a y,aU x4=(a,y):=⟨_,_,rfl⟩;obtain⟨F,x6,L⟩:∃a y,fY x5=(a,y):=⟨_,_,rfl⟩;obtain⟨tx,x7,N⟩:∃a y,fY x6=(a,y):=⟨_,_,rfl⟩;obtain⟨n,x8,P⟩:∃a y,aU x7=(a,y):=⟨_,_,rfl⟩;obtain⟨m,o,Q⟩:∃a y,aU x8=(a,y):=⟨_,_,rfl⟩;obtain⟨a0,r,R⟩:∃a y,dx 8 x8=(a,y):=⟨_,_,rfl⟩
 have S:Hid (lS x=(⟨(g,i,j),c,v,k,F,tx,n,t,(cB jk a0 r).1⟩,(cB jk a0 r).2)):=D (by
  simp only[lS,KR,s,u,z,C,E,L,N,P,R])
 have HM:Hid ((a0,r)=if m<0∨8<m then(0,o.fail 4)else(m.toNat,o)):=D (by
  rw[←R,dx,Q])
 have HX:=D h;have T:=D hB;have e:=D h.lt;have E1:=D u;have E2:=D z;have E3:=D C;have E4:=D E;have E5:=D L;have E6:=D N;have E7:=D P;have E8:=D Q;clear h hB u z C E L N P Q R
 go_enter func139,ntmps139
 go_upto_region 2 with((go_at_call 200;refine(Gg _ p x (HX.o.keep ((aD _ _).alloc (G _) _) e.o T.o) (by have:=T.o;simp;omega)).mono ?_);rintro en w8 ⟨rfl,k8,b8⟩;simp only[s]at k8 ⊢)
 have l:But p w w8:=(But.alloc _ _ _).trans b8.o
 have H:=D (Mk.start (K:=kY) k8.o l e.o T.o [(w.heap.size,wy,75)] (by
  intro q hq;obtain rfl:=af.1 hq
  exact⟨b8.o.dQ (al _ _) (by have:=e.o;omega),by have:=e.o;show w.heap.size≠p;omega⟩) [.int .i64 g,.int .i64 i,.int .i64 j,.int .i64 0,.int .i64 0,.int .i64 0,.string ⟨#[]⟩,.string ⟨#[]⟩,.int .i64 0,.int .i64 0,.slice J 0 0] 75)
 obtain⟨b,hb⟩:∃b,w8.heap.size=b:=⟨_,rfl⟩;obtain⟨W,hW⟩:∃W,w8.alloc (.cells #[.int .i64 g,.int .i64 i,.int .i64 j,.int .i64 0,.int .i64 0,.int .i64 0,.string ⟨#[]⟩,.string ⟨#[]⟩,.int .i64 0,.int .i64 0,.slice J 0 0] 75)=W:=⟨_,rfl⟩;rw[hW,hb]at H;rw[hW,hb];clear hW hb l k8 b8 s;go_upto_region 3 with((go_at_call 29;refine(dy _ p _ _ _ H.o.rd E1.o).mono ?_);rintro en w9 ⟨rfl,k9,b9⟩;(try clear f d);have H:=D (H.o.call k9.o b9.o);have f:=H.o.frozen;have d:=H.o.has 11 rfl)
 go_upto_region 9 with(first
  | ((go_at_call 29;refine(dy _ p _ _ _ (H.o.st _ _).rd (by first | exact E1.o | exact E2.o | exact E3.o | exact E4.o | exact E7.o | exact E8.o)).mono ?_);rintro en w9 ⟨rfl,k9,b9⟩;(try clear f d);have H:=D (H.o.next k9.o b9.o);have f:=H.o.frozen;have d:=H.o.has 11 rfl)
  | ((go_at_call 137;refine(zK _ p _ _ _ (H.o.st _ _).rd (by first | exact E5.o | exact E6.o)).mono ?_);rintro en w9 ⟨rfl,k9,b9⟩;(try clear f d);have H:=D (H.o.next k9.o b9.o);have f:=H.o.frozen;have d:=H.o.has 11 rfl))
 go_cut[4] (fun u4 wc=>u4=.int .i64 m∧Hid (Mk kY B w p [(w.heap.size,wy,75)] o b (Zn g i j c v k F tx n t) 75 wc))
 case first=>
  go_wp2_with (((go_at_call 29;refine(dy _ p _ _ _ (H.o.st _ _).rd (by first | exact E1.o | exact E2.o | exact E3.o | exact E4.o | exact E7.o | exact E8.o)).mono ?_);rintro en w9 ⟨rfl,k9,b9⟩;(try clear f d);have H:=D (H.o.next k9.o b9.o);have f:=H.o.frozen;have d:=H.o.has 11 rfl))
  go_meet
  case rel=>exact⟨rfl,D H.o⟩
 case rest=>
  obtain⟨rfl,H⟩:=hcut;go_step;exact I_ _ _ _ _ x o r a0 m g i j c v k n t F tx S HM H _ rfl
def KY{x:X}{s e:Int}(h:aU x=(s,.err e)):s=0:=by
 cases x with
 | err d=>cases h;rfl
 | ok l=>
  cases a:num 0 O l with
  | mk v z=>
   cases z with
   | ok b=>rw[pz a]at h;cases h
   | err d=>
    rw[mu (y:=d) (by rw[a])]at h;simp only[Prod.mk.injEq]at h;exact h.1.symm
def Gh(y:X)(e:Int)(a:e≠0):∃d,y.fail e=.err d:=by
 cases y with
 | ok l=>exact⟨e,rfl⟩
 | err d=>exact⟨d,rfl⟩
def vg{B:Nat}(w:V)(p:Nat)(a:Int)(hm:0≤a)(x:X)(h:gM B w p x):
  ar M 136 #[.pointer (I ⟨p,0,J⟩),.int .i64 a] w (fun H w'=>H=.returned (.int .i64 (dx a x).1)∧Hid (gM B w' p (dx a x).2)∧Hid (But p w w')):=by
 obtain⟨R,f⟩:∃R,dx a x=R:=⟨_,rfl⟩;rw[f];unfold dx at f;obtain⟨s,y,n⟩:∃s y,aU x=(s,y):=⟨_,_,rfl⟩;rw[n]at f;simp only at f;have K:=D h;have t:=D n;have L:=D hm;clear h n hm
 go_enter func136,ntmps136
 go_upto_region 2 with((go_at_call 29;refine(dy w p x _ _ K.o t.o).mono ?_);rintro en o ⟨rfl,k9,b9⟩)
 by_cases i:s<0∨a<s
 ·rw[if_pos i]at f
  subst f;obtain⟨d,z⟩:=Gh y 4 aC;have N:=D z
  have fin:∀b,Hid (gM B b p (y.fail 4))→Hid (But p o b)→∃u v e,b.heap[p]?=I (.cells #[u,v,.int .i64 e] 173 (0,0))∧(e != 0)=O:=by
   intro b k10 b10;have k11:gM B b p (.err d):=by rw[←N.o];exact k10.o
   obtain⟨u,v,e,c,g⟩:=k11.look;exact⟨u,v,e,c,by rw[g.1];simpa using g.2⟩
  have j:=D fin;clear z fin;by_cases k:s<0
  ·have C:decide (s<0)=O:=by simpa using k
   clear i k;go_upto_region 4 with((go_at_call 30;refine(kj o p y 4 aC k9.o).mono ?_);rintro en b ⟨rfl,k10,b10⟩)
   obtain⟨u,v,e,c,g⟩:=j.o b k10 b10;obtain⟨c0,c1,c2,f0,f1,f2,E⟩:=aW c;clear c;go_wp2;go_ret;exact⟨rfl,k10,b9.o.trans b10.o⟩
  ·have C:decide (s<0)=U:=by simpa using k
   have P:decide (a<s)=O:=by simpa using i.resolve_left k
   clear i k;go_upto_region 4 with((go_at_call 30;refine(kj o p y 4 aC k9.o).mono ?_);rintro en b ⟨rfl,k10,b10⟩)
   obtain⟨u,v,e,c,g⟩:=j.o b k10 b10;obtain⟨c0,c1,c2,f0,f1,f2,E⟩:=aW c;clear c;go_wp2;go_ret;exact⟨rfl,k10,b9.o.trans b10.o⟩
 ·rw[if_neg i]at f
  subst f;have C:decide (s<0)=U:=by simp;omega
  have P:decide (a<s)=U:=by simp;omega
  have m:s=(s.toNat:Int):=A
  have q:=D m;obtain⟨u,v,e,c,g⟩:=k9.o.look;obtain⟨c0,c1,c2,f0,f1,f2,E⟩:=aW c;clear c i m
  cases y with
  | ok l=>
   have r:e=0:=g;subst r;have Q:((0:Int) != 0)=U:=rfl;go_wp2;go_ret;exact⟨aZ (by have:=q.o;omega),k9,b9⟩
  | err d=>
   obtain⟨rfl,F⟩:=(show e=d∧d≠0 from g);have Q:(e != 0)=O:=by simpa using F
   have S:=D (KY t.o);clear g F;go_wp2;go_ret;exact⟨aZ (by rw[S.o];rfl),k9,b9⟩
def AQ{B:Nat}(w:V)(p:Nat)(x:X)(h:gM B w p x):
  ar M 78 #[.pointer (I ⟨p,0,J⟩)] w (fun i w'=>i=.returned (.int .i64 (lR x).1)∧Hid (gM B w' p (lR x).2)∧Hid (But p w w')):=by
 obtain⟨R,a⟩:∃R,lR x=R:=⟨_,rfl⟩;rw[a];unfold lR at a;obtain⟨s,y,d⟩:∃s y,aU x=(s,y):=⟨_,_,rfl⟩;rw[d]at a;simp only at a;have j:=D h;have k:=D d;clear h d
 go_enter func78,ntmps78
 go_upto_region 2 with((go_at_call 29;refine(dy w p x _ _ j.o k.o).mono ?_);rintro en f ⟨rfl,k9,b9⟩)
 by_cases b:s<0∨22<s
 ·rw[if_pos b]at a
  subst a;by_cases c:s<0
  ·have g:decide (s<0)=O:=by simpa using c
   clear b c;go_wp2_with ((go_at_call 30;refine(kj f p y 10 aC k9.o).mono ?_);rintro en e ⟨rfl,k10,b10⟩)
   go_ret;exact⟨rfl,k10,b9.o.trans b10.o⟩
  ·have g:decide (s<0)=U:=by simpa using c
   have l:decide (22<s)=O:=by simpa using b.resolve_left c
   clear b c;go_wp2_with ((go_at_call 30;refine(kj f p y 10 aC k9.o).mono ?_);rintro en e ⟨rfl,k10,b10⟩)
   go_ret;exact⟨rfl,k10,b9.o.trans b10.o⟩
 ·rw[if_neg b]at a
  subst a;have g:decide (s<0)=U:=by simp;omega
  have l:decide (22<s)=U:=by simp;omega
  clear b;go_wp2;go_ret;exact⟨rfl,k9,b9⟩
def PO(B:Nat)(w:V)(p:Nat)(x:X)(b:de)(w':V):Prop:=
 ∃(l:List hJ)(ao:Option aB)(a:Nat),b=.returned (.slice ao l.length a)∧cJ w' w.heap.size (.slice ao l.length a) l∧Hid (gM B w' p (iQ x).2)∧Hid (But p w w')∧(∀m,(iQ x).2=.ok m→l=(iQ x).1)∧l.length≤20
def mR(m:Nat)(x:X):(dx m x).1≤m:=by
 unfold dx
 split
 ·exact aw _
 ·show(aU x).1.toNat≤m
  omega
def Gi{B:Nat}(w:V)(p:Nat)(x:X)(h:gM B w p x)(hB:B≤w.heap.size):
  ar M 77 #[.pointer (I ⟨p,0,J⟩)] w (PO B w p x):=by
 obtain⟨n,s,o⟩:∃n y,dx 20 x=(n,y):=⟨_,_,rfl⟩;have d:Hid (n≤20):=D (by have:=mR 20 x;rw[show ((20:Nat):Int)=20 from rfl,o]at this;exact this);have t:Hid (iQ x=cB lS n s):=D (by unfold iQ;rw[o]);have HX:=D h;have HI:=D o;have f:=D h.lt;have g:=D hB;clear h o hB
 go_enter func77,ntmps77
 go_wp2_with ((go_at_call 136;refine(vg w p 20 aC x HX.o).mono ?_);rintro en w9 ⟨rfl,k9,b9⟩)
 rw[HI.o]at k9⊢;simp only at k9⊢
 go_loopw[3,5] (fun vl u wr=>∃(i:Nat)(l:List hJ)(z:X),u=.int .i64 i∧Hid (iX lS n s i l z)∧Hid (gM B wr p z)∧Hid (cJ wr w.heap.size vl l)∧Hid (But p w wr)) (fun _ u _=>n-(bp u).toNat)
 case atStart=>exact⟨0,[],s,rfl,D (iX.of Keeps.op (fA.start _ _ _)),k9,D (cJ.nil _ _),b9⟩
 case round=>
  obtain⟨i,l,z,rfl,q,j,a,k⟩:=hrel;obtain⟨a6,v,rfl⟩:=a.o.shape;obtain⟨u1,u2,u3,C,E⟩:=j.o.look;obtain⟨c0,c1,c2,f0,f1,f2,hp⟩:=aW C;have r:=D q.o.len
  cases z with
  | err e=>
   obtain⟨rfl,h0⟩:=E;have e1:(u3==0)=U:=by simpa using h0
   have HF:Hid ((iQ x).2=.err u3):=D (by rw[t.o];exact q.o.2.2);clear C h0 c0 c1 f0 f1 f2 hp;by_cases hi:i<n
   ·have F:decide (i<n)=O:=by simpa using hi
    clear hi;go_wp2;go_ret;exact⟨l,a6,v,rfl,a.o,by rw[HF.o];exact j,k,(fun m hm=>by rw[HF.o]at hm;cases hm),by have:=r.o;have:=d.o;omega⟩
   ·have F:decide (i<n)=U:=by simpa using hi
    clear hi;go_wp2;go_ret;exact⟨l,a6,v,rfl,a.o,by rw[HF.o];exact j,k,(fun m hm=>by rw[HF.o]at hm;cases hm),by have:=r.o;have:=d.o;omega⟩
  | ok lz=>
   have H:u3=0:=E;subst H;have e1:((0:Int)==0)=O:=rfl;clear C E c0 c1 f0 f1 f2 hp;by_cases hi:i<n
   ·have F:decide (i<n)=O:=by simpa using hi
    have b:=D hi;clear hi;have c:=D k.o.size
    go_upto_region 5 with(first
     | ((go_at_call 139;refine(KX wr p (.ok lz) j.o (aa g.o c.o)).mono ?_);rintro en w8 ⟨K,q2,L,N,P,Q,R,S,T,W,ql,qa,qp,rfl,kd,⟨k8,b8⟩,hv⟩;have HV:=D hv;clear hv c2;have o8:=D (a.o.but b8.o f.o);have KD:Hid (oK w8 w.heap.size (⟨(K,q2,L),N,P,Q,T,W,R,S,ql⟩,qa,qp)):=D (EL.own.to kd c.o);clear kd)
     | ((with_reducible refine aT 24 ?_);refine cJ.iW rfl _ _ rfl w.heap.size _ l rfl o8.o (⟨(K,q2,L),N,P,Q,T,W,R,S,ql⟩,qa,qp) KD.o _ rfl _ rfl rfl l.length rfl (by have:=r.o;have:=d.o;omega) (aa c.o b8.o.size) ?_;intro a7 c7 w7 o7 h7))
    have a0:=D (q.o.step' Keeps.op b.o _ HV.o);have b0:=D (k8.o.keep h7 f.o g.o);have d0:Hid (But p w w7):=D ((k.o.trans b8.o).then h7 (G _));have e0:Hid (cJ w7 w.heap.size (.slice a7 (l.length+1) c7) (l++ [⟨(K,q2,L),N,P,Q,T,W,R,S,ql⟩])):=D o7;have e9:bi ((i:Int)+1)=(i:Int)+1:=ag _ (by have:=d.o;have:=b.o;omega);clear h7 o7;go_wp2;go_round
    case rel=>exact⟨i+1,_,_,by go_num,a0,b0,e0,d0⟩
    case measure=>exact bA b.o _ eT
   ·have F:decide (i<n)=U:=by simpa using hi
    have HF:=D (q.o.done hi);clear hi;go_wp2;go_ret;exact⟨l,a6,v,rfl,a.o,by rw[t.o,HF.o];exact j,k,(fun m hm=>by rw[t.o,HF.o]),by have:=r.o;have:=d.o;omega⟩
abbrev KZ:=List UInt8×Int×Int×Int
abbrev NW:=List UInt8×Int×Int×Int×Int
def TL(x:KZ):List Z:=[.string ⟨⟨x.1⟩⟩,.int .i64 x.2.1,.int .i64 x.2.2.1,.int .i64 x.2.2.2]
def TM(x:NW):List Z:=[.string ⟨⟨x.1⟩⟩,.int .i64 x.2.1,.int .i64 x.2.2.1,.int .i64 x.2.2.2.1,.int .i64 x.2.2.2.2]
def TN(x:Int×Int):List Z:=[.int .i64 x.1,.int .i64 x.2]
abbrev wG:EL KZ:=⟨49,122,4,40,TL,underlying49,by kernel_rfl,fun _=>rfl,fun x u a=>by simp only[TL,bg,bV,or_false]at a;rcases a with rfl | rfl | rfl | rfl<;>rfl,by decide,by decide⟩
abbrev wH:EL NW:=⟨34,199,5,48,TM,underlying34,by kernel_rfl,fun _=>rfl,fun x u a=>by simp only[TM,bg,bV,or_false]at a;rcases a with rfl | rfl | rfl | rfl | rfl<;>rfl,by decide,by decide⟩
abbrev wI:EL (Int×Int):=⟨35,244,2,16,TN,underlying35,by kernel_rfl,fun _=>rfl,fun x u a=>by simp only[TN,bg,bV,or_false]at a;rcases a with rfl | rfl<;>rfl,by decide,by decide⟩
def CD{w:V}{b:Nat}{c d e f g j k:Z}{t:aN}(h:w.heap[b]?=I (.cells #[c,d,e,f,g,j,k] t (0,0))):
  w.cell? ⟨b,0,J⟩=I c∧w.cell? ⟨b,1,J⟩=I d∧w.cell? ⟨b,2,J⟩=I e∧w.cell? ⟨b,3,J⟩=I f∧w.cell? ⟨b,4,J⟩=I g∧w.cell? ⟨b,5,J⟩=I j∧w.cell? ⟨b,6,J⟩=I k∧
  w.frozen? ⟨b,0,J⟩=U∧w.frozen? ⟨b,1,J⟩=U∧w.frozen? ⟨b,2,J⟩=U∧w.frozen? ⟨b,3,J⟩=U∧w.frozen? ⟨b,4,J⟩=U∧w.frozen? ⟨b,5,J⟩=U∧w.frozen? ⟨b,6,J⟩=U:=by
 have a:∀(i:Nat)(v:Z),(#[c,d,e,f,g,j,k]:Array Z)[i]?=I v→w.cell? ⟨b,i,J⟩=I v:=fun i v l=>by simp only[an,h];exact l
 exact⟨a 0 _ rfl,a 1 _ rfl,a 2 _ rfl,a 3 _ rfl,a 4 _ rfl,a 5 _ rfl,a 6 _ rfl,aq h 0,aq h 1,aq h 2,aq h 3,aq h 4,aq h 5,aq h 6⟩
def CE(B:Nat)(w:V)(p:Nat)(x:X)(c:de)(w':V):Prop:=
 ∃(k d ep rq e:Int)(f a:Option aB)(wn wc b:Nat)(l:List hJ),c=.returned (.agg (KL k d ep rq e f wn wc a l.length b))∧cJ w' w.heap.size (.slice a l.length b) l∧(Hid (gM B w' p (kP x).2)∧Hid (But p w w'))∧(∀m,(kP x).2=.ok m→l=(kP x).1.ops)∧l.length≤20∧wn≤20
def K1{B:Nat}(w o:V)(p b:Nat)(x q:X)(j0:Nat)(k C ep rq E:Int){u1 u5 u6 u7 u8 u9 u10 u11 u12 u13 u14 u15 u16 u17 u18 u19 u20 u21 u22 u23 u24 u25 u26 u27 u28 u29 u30 u31 u32 u33 u34 u35 u36 u37 u38 u39 u40 u41 u42 u43 u44 u45 u46 u47 u48 u49 u50 u51 u52 u53 u54 u55 u56 u57:Z}(hM:j0≤20)
  (HX:Hid ((kP x).2=(iQ (cB jB j0 q).2).2∧(kP x).1.ops=(iQ (cB jB j0 q).2).1)) (H:Hid (Mk kY B w p [(w.heap.size,wA,51)] q b (Pm k C ep rq E) 51 o)):
  ∀c,f75.body.bind (spine 7)=I c→im M c (gW M f75 (CE B w p x)) ⟨#[.pointer (I ⟨p,0,J⟩),u1,.pointer (I ⟨w.heap.size,0,J⟩),.pointer (I ⟨b,0,J⟩),.int .i64 (j0:Nat),u5,u6,u7,u8,u9,u10,u11,u12,u13,u14,u15,u16,u17,u18,u19,u20,u21,u22,u23,u24,u25,u26,u27,u28,u29,u30,u31,u32,u33,u34,u35,u36,u37,u38,u39,u40,u41,u42,u43,u44,u45,u46,u47,u48,u49,u50,u51,u52,u53,u54,u55,u56,u57],[]⟩ o:=by
 have F:=D hM;clear hM;refine gE rfl ?_;go_upto_block 0 with fail
 go_cut[] (fun wc=>∃(l:List KZ)(z:X)(ao:Option aB)(h:Nat),Hid (Mk kY B w p [(w.heap.size,wA,51)] z b (Pn k C ep rq E ao l.length h) 51 wc)∧Hid (wG.own wc (b+1) (.slice ao l.length h) l)∧Hid (z=(cB jB j0 q).2)∧l.length≤20)
 case first=>
  go_wp2
  go_loopw[5] (fun vi wr=>∃(i:Nat)(l:List KZ)(z:X)(ao:Option aB)(h:Nat),vi=.int .i64 i∧Hid (iX jB j0 q i l z)∧Hid (Mk kY B w p [(w.heap.size,wA,51)] z b (Pn k C ep rq E ao i h) 51 wr)∧Hid (wG.own wr (b+1) (.slice ao i h) l)) (fun vi _=>j0-(bp vi).toNat)
  case atStart=>exact⟨0,[],q,J,0,rfl,D (iX.of Keeps.want (fA.start _ _ _)),H,D (EL.nil _ _ _)⟩
  case round=>
   obtain⟨i,l,z,ao,h,rfl,T,g,K⟩:=hrel;have n:=D T.o.len;obtain⟨g1,g2,g3,hk,hz⟩:=g.o.rd.look;obtain⟨c0,c1,c2,f0,f1,f2,hp⟩:=aW hk
   cases z with
   | err e=>
    obtain⟨rfl,h0⟩:=hz;have a0:(g3==0)=U:=by simpa using h0
    have HF:Hid ((cB jB j0 q).2=.err g3):=D T.o.2.2;clear hk h0 c0 c1 f0 f1 f2 hp;by_cases hi:i<j0
    ·have e3:decide (i<j0)=O:=by simpa using hi
     clear hi;go_wp2;go_meet
     case rel=>exact⟨l,_,ao,h,D (by rw[n.o.1];exact g.o),D (by rw[n.o.1];exact K.o),D HF.o.symm,by have:=n.o;have:=F.o;omega⟩
    ·have e3:decide (i<j0)=U:=by simpa using hi
     clear hi;go_wp2;go_meet
     case rel=>exact⟨l,_,ao,h,D (by rw[n.o.1];exact g.o),D (by rw[n.o.1];exact K.o),D HF.o.symm,by have:=n.o;have:=F.o;omega⟩
   | ok lz=>
    have b0:g3=0:=hz;subst b0;have a0:((0:Int)==0)=O:=rfl;clear hk hz c0 c1 f0 f1 f2 hp;by_cases hi:i<j0
    ·have e3:decide (i<j0)=O:=by simpa using hi
     have HI:=D hi;clear hi;obtain⟨ky,z1,t1⟩:∃a y,fY (.ok lz)=(a,y):=⟨_,_,rfl⟩;obtain⟨q2,z2,t2⟩:∃a y,aU z1=(a,y):=⟨_,_,rfl⟩;obtain⟨q3,z3,t3⟩:∃a y,aU z2=(a,y):=⟨_,_,rfl⟩;obtain⟨q4,z4,t4⟩:∃a y,aU z3=(a,y):=⟨_,_,rfl⟩;have d0:Hid (jB (.ok lz)=((ky,q2,q3,q4),z4)):=D (by simp only[jB,t1,t2,t3,t4]);have T1:=D t1;have T2:=D t2;have T3:=D t3;have T4:=D t4;clear t1 t2 t3 t4;go_upto_region 11 with((go_at_call 137;refine(zK wr p _ _ _ g.o.rd T1.o).mono ?_);rintro en w8 ⟨rfl,k8,b8⟩)
     have H:=D (g.o.KW k8.o b8.o [.string ⟨⟨ky⟩⟩,.int .i64 0,.int .i64 0,.int .i64 0] 122);obtain⟨bw,r⟩:∃bw,w8.heap.size=bw:=⟨_,rfl⟩;obtain⟨W,hW⟩:∃W,w8.alloc (.cells #[.string ⟨⟨ky⟩⟩,.int .i64 0,.int .i64 0,.int .i64 0] 122)=W:=⟨_,rfl⟩;rw[hW,r]at H;rw[hW,r];clear hW r k8 b8 c2;go_upto_region 12 with((go_at_call 29;refine(dy _ p _ _ _ H.o.rd T2.o).mono ?_);rintro en o ⟨rfl,k9,b9⟩;(try clear f d);have H:=D (H.o.call k9.o b9.o);have f:=H.o.frozen;have d:=H.o.has 4 rfl)
     go_upto_region 13 with((go_at_call 29;refine(dy _ p _ _ _ (H.o.st _ _).rd T3.o).mono ?_);rintro en o ⟨rfl,k9,b9⟩;(try clear f d);have H:=D (H.o.next k9.o b9.o);have f:=H.o.frozen;have d:=H.o.has 4 rfl)
     go_upto_region 14 with((go_at_call 29;refine(dy _ p _ _ _ (H.o.st _ _).rd T4.o).mono ?_);rintro en o ⟨rfl,k9,b9⟩;(try clear f d);have H:=D (H.o.next k9.o b9.o);have f:=H.o.frozen;have d:=H.o.has 4 rfl)
     clear f d;have j:=D (H.o.st 3 (.int .i64 q4));obtain⟨k0,s⟩:∃k0,o.setCell ⟨bw,3,J⟩ (.int .i64 q4)=k0:=⟨_,rfl⟩;rw[s]at j;rw[s];clear s;have v0:=j.o.cell 0 rfl;have v1:=j.o.cell 1 rfl;have v2:=j.o.cell 2 rfl;have v3:=j.o.cell 3 rfl;have t:=D (g.o.back j.o);have OV:=D (K.o.but j.o.but (by have:=g.o.own;have:=g.o.mf;omega));have L:=t.o.cell 5 rfl;go_upto_region 9 with((with_reducible refine aT 52 ?_);refine wG.iW rfl _ _ rfl (b+1) (.slice ao i h) l rfl OV.o (ky,q2,q3,q4) _ rfl _ rfl rfl i n.o.1 (by have:=HI.o;have:=F.o;omega) (aS _ _ L) ?_;intro a7 c7 w7 o7 h7 g7;clear g7;have H7:=D (t.o.below h7 (bu b) (pD t.o.own));have f7:=H7.o.frozen 5;have t7:=H7.o.cell 5 rfl;have o7:=D o7)
     have H9:=D (H7.o.st 5 (.slice a7 (i+1) c7));have o9:=D (o7.o.put ⟨b,5,J⟩ (bu b) (.slice a7 (i+1) c7));have e9:bi ((i:Int)+1)=(i:Int)+1:=ag _ (by have:=HI.o;have:=F.o;omega);have N:=D (T.o.step Keeps.want HI.o);rw[d0.o]at N;clear f7 t7 L v0 v1 v2 v3 h7;go_wp2;go_round
     case rel=>exact⟨i+1,_,_,a7,c7,by go_num,N,H9,o9⟩
     case measure=>exact bA HI.o _ eT
    ·have e3:decide (i<j0)=U:=by simpa using hi
     have HF:=D (T.o.done hi);clear hi;go_wp2;go_meet
     case rel=>exact⟨l,.ok lz,ao,h,D (by rw[n.o.1];exact g.o),D (by rw[n.o.1];exact K.o),D (by rw[HF.o]),by have:=n.o;have:=F.o;omega⟩
 case rest=>
  obtain⟨l,z,ao,h,g,K,u,hl⟩:=hcut;have e0:=D hl;have i0:=D g.o.but.size;go_upto_region 16 with((go_at_call 77;refine(Gi wc p z g.o.rd (by have:=g.o.bs;have:=i0.o;omega)).mono ?_);rintro en o ⟨P,Q,R,rfl,o9,k9,b9,v9,n9⟩;have O9:=D o9;have V9:=D v9;have N9:=D n9;clear o9 v9 n9;have H:=D (g.o.call k9.o b9.o);have f:=H.o.frozen 6;have d:=H.o.cell 6 rfl)
  have j:=D (H.o.st 6 (.slice Q P.length R));have OV:=D (cJ.put O9.o ⟨b,6,J⟩ (by show b<_;exact(br g.o.blk).1) (.slice Q P.length R));obtain⟨k0,s⟩:∃k0,o.setCell ⟨b,6,J⟩ (.slice Q P.length R)=k0:=⟨_,rfl⟩;rw[s]at j OV;rw[s];clear s f d;obtain⟨c0,c1,c2,c3,c4,c5,c6,-⟩:=CD j.o.blk;obtain⟨r0,r1,r2,r3,r4,r5,r6,g0,g1,g2,g3,g4,g5,g6⟩:=CD (j.o.fZ _ (af.2 rfl)).1;have S:Hid (w.heap.size<wc.heap.size):=D (by have:=g.o.own;have:=(br g.o.blk).1;omega);go_wp2;refine au (v:=.agg (KL k C ep rq E ao l.length h Q P.length R)) (by simp[results,results75,go_sem, *]) rfl (show CE _ _ _ _ _ _ from⟨k,C,ep,rq,E,ao,Q,l.length,h,R,P,rfl,?_,?_,?_,N9.o,e0.o⟩)
  ·refine cJ.to (base:=wc.heap.size) ?_ (Nat.le_of_lt S.o)
   repeat (refine cJ.put ?_ _ S.o _)
   exact OV.o
  ·rw[HX.o.1,←u.o]
   refine j.o.fin ?_
   repeat (apply Below.puts)
   exact aD _ _
  ·intro m hm
   rw[HX.o.1,←u.o]at hm;rw[HX.o.2,←u.o];exact V9.o m hm
def NX{B:Nat}(w:V)(p:Nat)(x:X)(h:gM B w p x)(C:B≤w.heap.size):
  ar M 75 #[.pointer (I ⟨p,0,J⟩)] w (CE B w p x):=by
 obtain⟨k,P,m⟩:∃a y,aU x=(a,y):=⟨_,_,rfl⟩;obtain⟨E,Q,n⟩:∃a y,aU P=(a,y):=⟨_,_,rfl⟩;obtain⟨ep,R,o⟩:∃a y,aU Q=(a,y):=⟨_,_,rfl⟩;obtain⟨rq,S,r⟩:∃a y,aU R=(a,y):=⟨_,_,rfl⟩;obtain⟨F,i,s⟩:∃a y,aU S=(a,y):=⟨_,_,rfl⟩;obtain⟨a0,e,j⟩:∃a y,dx 20 i=(a,y):=⟨_,_,rfl⟩;have L:a0≤20:=by have:=mR 20 i;rw[show ((20:Nat):Int)=20 from rfl,j]at this;exact this
 have T:=D L
 have t:Hid ((kP x).2=(iQ (cB jB a0 e).2).2∧(kP x).1.ops=(iQ (cB jB a0 e).2).1):=D (by
  simp only[kP,m,n,o,r,s,j,and_self])
 have HX:=D h;have N:=D C;have c:=D h.lt;have E1:=D m;have E2:=D n;have E3:=D o;have E4:=D r;have E5:=D s;have E6:=D j;clear h C L m n o r s j
 go_enter func75,ntmps75
 go_upto_region 2 with((go_at_call 29;refine(dy _ p _ _ _ (HX.o.keep ((aD _ _).alloc (G _) _) c.o N.o) E1.o).mono ?_);rintro en u ⟨rfl,k8,b8⟩)
 have g:But p w u:=(But.alloc _ _ _).trans b8.o
 have H:=D (Mk.start (K:=kY) k8.o g c.o N.o [(w.heap.size,wA,51)] (by
  intro q hq;obtain rfl:=af.1 hq
  exact⟨b8.o.dQ (al _ _) (by have:=c.o;omega),by have:=c.o;show w.heap.size≠p;omega⟩) [.int .i64 k,.int .i64 0,.int .i64 0,.int .i64 0,.int .i64 0,.slice J 0 0,.slice J 0 0] 51)
 obtain⟨b,v⟩:∃b,u.heap.size=b:=⟨_,rfl⟩;obtain⟨W,z⟩:∃W,u.alloc (.cells (Zo k) 51)=W:=⟨_,rfl⟩;rw[z,v]at H;rw[z,v];clear z v g k8 b8;go_upto_region 3 with((go_at_call 29;refine(dy _ p _ _ _ H.o.rd E2.o).mono ?_);rintro en l ⟨rfl,k9,b9⟩;(try clear f d);have H:=D (H.o.call k9.o b9.o);have f:=H.o.frozen;have d:=H.o.has 7 rfl)
 go_upto_region 4 with((go_at_call 29;refine(dy _ p _ _ _ (H.o.st _ _).rd E3.o).mono ?_);rintro en l ⟨rfl,k9,b9⟩;(try clear f d);have H:=D (H.o.next k9.o b9.o);have f:=H.o.frozen;have d:=H.o.has 7 rfl)
 go_upto_region 5 with((go_at_call 29;refine(dy _ p _ _ _ (H.o.st _ _).rd E4.o).mono ?_);rintro en l ⟨rfl,k9,b9⟩;(try clear f d);have H:=D (H.o.next k9.o b9.o);have f:=H.o.frozen;have d:=H.o.has 7 rfl)
 go_upto_region 6 with((go_at_call 29;refine(dy _ p _ _ _ (H.o.st _ _).rd E5.o).mono ?_);rintro en l ⟨rfl,k9,b9⟩;(try clear f d);have H:=D (H.o.next k9.o b9.o);have f:=H.o.frozen;have d:=H.o.has 7 rfl)
 go_cut[4] (fun u4 wc=>u4=.int .i64 (a0:Nat)∧Hid (Mk kY B w p [(w.heap.size,wA,51)] e b (Pm k E ep rq F) 51 wc))
 case first=>
  have HF:Hid ((dx 20 i).1=a0∧(dx 20 i).2=e):=D (by rw[E6.o];exact⟨rfl,rfl⟩);go_wp2_with ((go_at_call 136;refine(vg _ p 20 aC _ (H.o.st _ _).rd).mono ?_);rintro en l ⟨rfl,k9,b9⟩;have H:=D (H.o.next k9.o b9.o))
  go_meet
  case rel=>exact⟨by rw[HF.o.1],D (by rw[←HF.o.2];exact H.o)⟩
 case rest=>
  obtain⟨rfl,H⟩:=hcut;go_step;exact K1 _ _ _ _ x e a0 k E ep rq F T.o t H _ rfl
def zL{w:V}{b:Nat}{c d e f g j k l m:Z}{t:aN}(h:w.heap[b]?=I (.cells #[c,d,e,f,g,j,k,l,m] t (0,0))):
  w.cell? ⟨b,0,J⟩=I c∧w.cell? ⟨b,1,J⟩=I d∧w.cell? ⟨b,2,J⟩=I e∧w.cell? ⟨b,3,J⟩=I f∧w.cell? ⟨b,4,J⟩=I g∧w.cell? ⟨b,5,J⟩=I j∧w.cell? ⟨b,6,J⟩=I k∧w.cell? ⟨b,7,J⟩=I l∧w.cell? ⟨b,8,J⟩=I m∧
  w.frozen? ⟨b,0,J⟩=U∧w.frozen? ⟨b,1,J⟩=U∧w.frozen? ⟨b,2,J⟩=U∧w.frozen? ⟨b,3,J⟩=U∧w.frozen? ⟨b,4,J⟩=U∧w.frozen? ⟨b,5,J⟩=U∧w.frozen? ⟨b,6,J⟩=U∧w.frozen? ⟨b,7,J⟩=U∧w.frozen? ⟨b,8,J⟩=U:=by
 have a:∀(i:Nat)(v:Z),(#[c,d,e,f,g,j,k,l,m]:Array Z)[i]?=I v→w.cell? ⟨b,i,J⟩=I v:=fun i v n=>by simp only[an,h];exact n
 exact⟨a 0 _ rfl,a 1 _ rfl,a 2 _ rfl,a 3 _ rfl,a 4 _ rfl,a 5 _ rfl,a 6 _ rfl,a 7 _ rfl,a 8 _ rfl,aq h 0,aq h 1,aq h 2,aq h 3,aq h 4,aq h 5,aq h 6,aq h 7,aq h 8⟩
def pE(B:Nat)(w:V)(p:Nat)(x:X)(c:de)(w':V):Prop:=
 ∃(d e f ep g h:Int)(i j k:Option aB)(b sc a l uu n:Nat),c=.returned (.agg (KM d e f ep g h i b sc j a l k uu n))∧(Hid (gM B w' p (ei x).2)∧Hid (But p w w'))∧(∀m,(ei x).2=.ok m→uu=(ei x).1.used.length)∧b≤20∧a≤100
def NY{B:Nat}(w wc:V)(p b:Nat)(x z:X)(k l n ep o q:Int)(r s:Option aB)(g sc a t:Nat){u1 u4 u5 u6 u7 u8 u9 u10 u11 u12 u13 u14 u15 u16 u17 u18 u19 u20 u21 u22 u23 u24 u25 u26 u27 u28 u29 u30 u31 u32 u33 u34 u35 u36 u37 u38 u39 u40 u41 u42 u43 u44 u45 u46 u47 u48 u49 u50 u51 u52 u53 u54 u55 u56 u57 u58 u59 u60 u61 u62 u63 u64 u65 u66 u67 u68 u69 u70 u71 u72 u73 u74 u75 u76 u77 u78 u79 u80 u81 u82 u83 u84 u85 u86 u87 u88 u89 u90 u91 u92 u93 u94 u95 u96 u97 u98 u99 u100:Z}(C:g≤20)(hi:a≤100)
  (E:Hid ((ei x).2=(du z).2∧(ei x).1.used=(du z).1)) (e:Hid (Mk kY B w p [(w.heap.size,kZ,59)] z b (Po k l n ep o q r g sc s a t) 59 wc)):
  ∀c,f76.body.bind (spine 11)=I c→im M c (gW M f76 (pE B w p x)) ⟨eS (.pointer (I ⟨p,0,J⟩)::u1:: .pointer (I ⟨w.heap.size,0,J⟩):: .pointer (I ⟨b,0,J⟩)::u4::u5::u6::u7::u8::u9::u10::u11::u12::u13::u14::u15::u16::u17::u18::u19::u20::u21::u22::u23::u24::u25::u26::u27::u28::u29::u30::u31::u32::u33::u34::u35::u36::u37::u38::u39::u40::u41::u42::u43::u44::u45::u46::u47::u48::u49::u50::u51::u52::u53::u54::u55::u56::u57::u58::u59::u60::u61::u62::u63::u64::u65::u66::u67::u68::u69::u70::u71::u72::u73::u74::u75::u76::u77::u78::u79::u80::u81::u82::u83::u84::u85::u86::u87::u88::u89::u90::u91::u92::u93::u94::u95::u96::u97::u98::u99::u100:: []),[]⟩ wc:=by
 have K:=D C;have L:=D hi;clear C hi;refine gE rfl ?_;have u:=D e.o.but.size;have f0:=e.o.frozen 8;go_upto_region 25 with((go_at_call 138;refine(KU wc p z e.o.rd (by have:=e.o.bs;have:=u.o;omega)).mono ?_);rintro en N ⟨v,rfl,F,k9,b9⟩;obtain⟨h,i,rfl,-,-⟩:=bY F;clear F;have H:=D (e.o.call k9.o b9.o);have f:=H.o.frozen 8;have d:=H.o.cell 8 rfl)
 have j:=D (H.o.st 8 (.slice h (du z).1.length i));obtain⟨a0,y⟩:∃a0,N.setCell ⟨b,8,J⟩ (.slice h (du z).1.length i)=a0:=⟨_,rfl⟩;rw[y]at j;rw[y];clear y f d f0;obtain⟨c0,c1,c2,P,Q,R,S,T,W,-⟩:=zL j.o.blk;obtain⟨r0,r1,r2,r3,r4,r5,r6,r7,r8,g0,g1,g2,g3,g4,g5,g6,g7,g8⟩:=zL (j.o.fZ _ (af.2 rfl)).1;go_wp2;refine au (v:=.agg (KM k l n ep o q r g sc s a t h (du z).1.length i)) (by simp[results,results76,go_sem, *]) rfl (show pE _ _ _ _ _ _ from⟨k,l,n,ep,o,q,r,s,h,g,sc,a,t,_,i,rfl,?_,(fun m hm=>by rw[E.o.2]),K.o,L.o⟩);rw[E.o.1];refine j.o.fin ?_
 repeat (apply Below.puts)
 exact aD _ _
def NZ{B:Nat}(w v:V)(p b:Nat)(x k:X)(g0:Nat)(C E F ep K L:Int)(N:Option aB)(o sc:Nat){u1 u5 u6 u7 u8 u9 u10 u11 u12 u13 u14 u15 u16 u17 u18 u19 u20 u21 u22 u23 u24 u25 u26 u27 u28 u29 u30 u31 u32 u33 u34 u35 u36 u37 u38 u39 u40 u41 u42 u43 u44 u45 u46 u47 u48 u49 u50 u51 u52 u53 u54 u55 u56 u57 u58 u59 u60 u61 u62 u63 u64 u65 u66 u67 u68 u69 u70 u71 u72 u73 u74 u75 u76 u77 u78 u79 u80 u81 u82 u83 u84 u85 u86 u87 u88 u89 u90 u91 u92 u93 u94 u95 u96 u97 u98 u99 u100:Z}(hM:g0≤100)(hs:o≤20)
  (HX:Hid ((ei x).2=(du (cB jm g0 k).2).2∧(ei x).1.used=(du (cB jm g0 k).2).1)) (H:Hid (Mk kY B w p [(w.heap.size,kZ,59)] k b (MP C E F ep K L N o sc) 59 v)):
  ∀c,f76.body.bind (spine 10)=I c→im M c (gW M f76 (pE B w p x)) ⟨eS (.pointer (I ⟨p,0,J⟩)::u1:: .pointer (I ⟨w.heap.size,0,J⟩):: .pointer (I ⟨b,0,J⟩):: .int .i64 (g0:Nat)::u5::u6::u7::u8::u9::u10::u11::u12::u13::u14::u15::u16::u17::u18::u19::u20::u21::u22::u23::u24::u25::u26::u27::u28::u29::u30::u31::u32::u33::u34::u35::u36::u37::u38::u39::u40::u41::u42::u43::u44::u45::u46::u47::u48::u49::u50::u51::u52::u53::u54::u55::u56::u57::u58::u59::u60::u61::u62::u63::u64::u65::u66::u67::u68::u69::u70::u71::u72::u73::u74::u75::u76::u77::u78::u79::u80::u81::u82::u83::u84::u85::u86::u87::u88::u89::u90::u91::u92::u93::u94::u95::u96::u97::u98::u99::u100:: []),[]⟩ v:=by
 have q:=D hM;have S:=D hs;clear hM hs;refine gE rfl ?_;go_upto_block 2 with fail
 go_cut[] (fun wc=>∃(l:List (Int×Int))(z:X)(ao:Option aB)(g:Nat),Hid (Mk kY B w p [(w.heap.size,kZ,59)] z b (Po C E F ep K L N o sc ao l.length g) 59 wc)∧Hid (wI.own wc (b+1) (.slice ao l.length g) l)∧Hid (z=(cB jm g0 k).2)∧l.length≤100)
 case first=>
  go_wp2
  go_loopw[7] (fun T wr=>∃(i:Nat)(l:List (Int×Int))(z:X)(ao:Option aB)(g:Nat),T=.int .i64 i∧Hid (iX jm g0 k i l z)∧Hid (Mk kY B w p [(w.heap.size,kZ,59)] z b (Po C E F ep K L N o sc ao i g) 59 wr)∧Hid (wI.own wr (b+1) (.slice ao i g) l)) (fun T _=>g0-(bp T).toNat)
  case atStart=>exact⟨0,[],k,J,0,rfl,D (iX.of Keeps.rng (fA.start _ _ _)),H,D (EL.nil _ _ _)⟩
  case round=>
   obtain⟨i,l,z,ao,g,rfl,P,h,r⟩:=hrel;have j:=D P.o.len;obtain⟨g1,g2,g3,hk,hz⟩:=h.o.rd.look;obtain⟨c0,c1,c2,f0,f1,f2,hp⟩:=aW hk
   cases z with
   | err e=>
    obtain⟨rfl,h0⟩:=hz;have a0:(g3==0)=U:=by simpa using h0
    have HF:Hid ((cB jm g0 k).2=.err g3):=D P.o.2.2;clear hk h0 c0 c1 f0 f1 f2 hp;by_cases hi:i<g0
    ·have e3:decide (i<g0)=O:=by simpa using hi
     clear hi;go_wp2;go_meet
     case rel=>exact⟨l,_,ao,g,D (by rw[j.o.1];exact h.o),D (by rw[j.o.1];exact r.o),D HF.o.symm,by have:=j.o;have:=q.o;omega⟩
    ·have e3:decide (i<g0)=U:=by simpa using hi
     clear hi;go_wp2;go_meet
     case rel=>exact⟨l,_,ao,g,D (by rw[j.o.1];exact h.o),D (by rw[j.o.1];exact r.o),D HF.o.symm,by have:=j.o;have:=q.o;omega⟩
   | ok lz=>
    have b0:g3=0:=hz;subst b0;have a0:((0:Int)==0)=O:=rfl;clear hk hz c0 c1 f0 f1 f2 hp;by_cases hi:i<g0
    ·have e3:decide (i<g0)=O:=by simpa using hi
     have Q:=D hi;clear hi;obtain⟨R,z1,t1⟩:∃a y,aU (.ok lz)=(a,y):=⟨_,_,rfl⟩;obtain⟨q2,z2,t2⟩:∃a y,aU z1=(a,y):=⟨_,_,rfl⟩;have d0:Hid (jm (.ok lz)=((R,q2),z2)):=D (by simp only[jm,t1,t2]);have T1:=D t1;have T2:=D t2;clear t1 t2;go_upto_region 22 with((go_at_call 29;refine(dy wr p _ _ _ h.o.rd T1.o).mono ?_);rintro en w8 ⟨rfl,k8,b8⟩)
     have H:=D (h.o.KW k8.o b8.o [.int .i64 R,.int .i64 0] 244);obtain⟨bw,m⟩:∃bw,w8.heap.size=bw:=⟨_,rfl⟩;obtain⟨W,hW⟩:∃W,w8.alloc (.cells #[.int .i64 R,.int .i64 0] 244)=W:=⟨_,rfl⟩;rw[hW,m]at H;rw[hW,m];clear hW m k8 b8 c2;go_upto_region 23 with((go_at_call 29;refine(dy _ p _ _ _ H.o.rd T2.o).mono ?_);rintro en v ⟨rfl,k9,b9⟩;(try clear f d);have H:=D (H.o.call k9.o b9.o);have f:=H.o.frozen;have d:=H.o.has 2 rfl)
     clear f d;have s:=D (H.o.st 1 (.int .i64 q2));obtain⟨i0,hV⟩:∃i0,v.setCell ⟨bw,1,J⟩ (.int .i64 q2)=i0:=⟨_,rfl⟩;rw[hV]at s;rw[hV];clear hV;have v0:=s.o.cell 0 rfl;have v1:=s.o.cell 1 rfl;have n:=D (h.o.back s.o);have OV:=D (r.o.but s.o.but (by have:=h.o.own;have:=h.o.mf;omega));have t:=n.o.cell 7 rfl;go_upto_region 20 with((with_reducible refine aT 93 ?_);refine wI.iW rfl _ _ rfl (b+1) (.slice ao i g) l rfl OV.o (R,q2) _ rfl _ rfl rfl i j.o.1 (by have:=Q.o;have:=q.o;omega) (aS _ _ t) ?_;intro a7 c7 w7 o7 h7 g7;clear g7;have H7:=D (n.o.below h7 (bu b) (pD n.o.own));have f7:=H7.o.frozen 7;have t7:=H7.o.cell 7 rfl;have o7:=D o7)
     have H9:=D (H7.o.st 7 (.slice a7 (i+1) c7));have o9:=D (o7.o.put ⟨b,7,J⟩ (bu b) (.slice a7 (i+1) c7));have e9:bi ((i:Int)+1)=(i:Int)+1:=ag _ (by have:=Q.o;have:=q.o;omega);have u:=D (P.o.step Keeps.rng Q.o);rw[d0.o]at u;clear f7 t7 t v0 v1 h7;go_wp2;go_round
     case rel=>exact⟨i+1,_,_,a7,c7,by go_num,u,H9,o9⟩
     case measure=>exact bA Q.o _ eT
    ·have e3:decide (i<g0)=U:=by simpa using hi
     have HF:=D (P.o.done hi);clear hi;go_wp2;go_meet
     case rel=>exact⟨l,.ok lz,ao,g,D (by rw[j.o.1];exact h.o),D (by rw[j.o.1];exact r.o),D (by rw[HF.o]),by have:=j.o;have:=q.o;omega⟩
 case rest=>
  obtain⟨l,z,ao,g,h,r,e0,hl⟩:=hcut;go_step;exact NY _ _ _ _ x z C E F ep K L N ao o sc l.length g S.o hl (D (by rw[e0.o];exact HX.o)) h _ rfl
def PP{B:Nat}(w m:V)(p b:Nat)(x k:X)(j0:Nat)(s t u ep v C:Int){u1 u5 u6 u7 u8 u9 u10 u11 u12 u13 u14 u15 u16 u17 u18 u19 u20 u21 u22 u23 u24 u25 u26 u27 u28 u29 u30 u31 u32 u33 u34 u35 u36 u37 u38 u39 u40 u41 u42 u43 u44 u45 u46 u47 u48 u49 u50 u51 u52 u53 u54 u55 u56 u57 u58 u59 u60 u61 u62 u63 u64 u65 u66 u67 u68 u69 u70 u71 u72 u73 u74 u75 u76 u77 u78 u79 u80 u81 u82 u83 u84 u85 u86 u87 u88 u89 u90 u91 u92 u93 u94 u95 u96 u97 u98 u99 u100:Z}(hM:j0≤20)
  (HX:Hid ((ei x).2=(du (cB jm (dx 100 (cB jl j0 k).2).1 (dx 100 (cB jl j0 k).2).2).2).2∧(ei x).1.used=(du (cB jm (dx 100 (cB jl j0 k).2).1 (dx 100 (cB jl j0 k).2).2).2).1)) (H:Hid (Mk kY B w p [(w.heap.size,kZ,59)] k b (TC s t u ep v C) 59 m)):
  ∀c,f76.body.bind (spine 8)=I c→im M c (gW M f76 (pE B w p x)) ⟨eS (.pointer (I ⟨p,0,J⟩)::u1:: .pointer (I ⟨w.heap.size,0,J⟩):: .pointer (I ⟨b,0,J⟩):: .int .i64 (j0:Nat)::u5::u6::u7::u8::u9::u10::u11::u12::u13::u14::u15::u16::u17::u18::u19::u20::u21::u22::u23::u24::u25::u26::u27::u28::u29::u30::u31::u32::u33::u34::u35::u36::u37::u38::u39::u40::u41::u42::u43::u44::u45::u46::u47::u48::u49::u50::u51::u52::u53::u54::u55::u56::u57::u58::u59::u60::u61::u62::u63::u64::u65::u66::u67::u68::u69::u70::u71::u72::u73::u74::u75::u76::u77::u78::u79::u80::u81::u82::u83::u84::u85::u86::u87::u88::u89::u90::u91::u92::u93::u94::u95::u96::u97::u98::u99::u100:: []),[]⟩ m:=by
 have E:=D hM;clear hM;refine gE rfl ?_;go_upto_block 0 with fail
 go_cut[] (fun wc=>∃(l:List NW)(z:X)(ao:Option aB)(g:Nat),Hid (Mk kY B w p [(w.heap.size,kZ,59)] z b (MP s t u ep v C ao l.length g) 59 wc)∧Hid (wH.own wc (b+1) (.slice ao l.length g) l)∧Hid (z=(cB jl j0 k).2)∧l.length≤20)
 case first=>
  go_wp2
  go_loopw[5] (fun vi wr=>∃(i:Nat)(l:List NW)(z:X)(ao:Option aB)(g:Nat),vi=.int .i64 i∧Hid (iX jl j0 k i l z)∧Hid (Mk kY B w p [(w.heap.size,kZ,59)] z b (MP s t u ep v C ao i g) 59 wr)∧Hid (wH.own wr (b+1) (.slice ao i g) l)) (fun vi _=>j0-(bp vi).toNat)
  case atStart=>exact⟨0,[],k,J,0,rfl,D (iX.of Keeps.slc (fA.start _ _ _)),H,D (EL.nil _ _ _)⟩
  case round=>
   obtain⟨i,l,z,ao,g,rfl,Q,h,F⟩:=hrel;have j:=D Q.o.len;obtain⟨g1,g2,g3,hk,hz⟩:=h.o.rd.look;obtain⟨c0,c1,c2,f0,f1,f2,hp⟩:=aW hk
   cases z with
   | err e=>
    obtain⟨rfl,h0⟩:=hz;have a0:(g3==0)=U:=by simpa using h0
    have HF:Hid ((cB jl j0 k).2=.err g3):=D Q.o.2.2;clear hk h0 c0 c1 f0 f1 f2 hp;by_cases hi:i<j0
    ·have e3:decide (i<j0)=O:=by simpa using hi
     clear hi;go_wp2;go_meet
     case rel=>exact⟨l,_,ao,g,D (by rw[j.o.1];exact h.o),D (by rw[j.o.1];exact F.o),D HF.o.symm,by have:=j.o;have:=E.o;omega⟩
    ·have e3:decide (i<j0)=U:=by simpa using hi
     clear hi;go_wp2;go_meet
     case rel=>exact⟨l,_,ao,g,D (by rw[j.o.1];exact h.o),D (by rw[j.o.1];exact F.o),D HF.o.symm,by have:=j.o;have:=E.o;omega⟩
   | ok lz=>
    have b0:g3=0:=hz;subst b0;have a0:((0:Int)==0)=O:=rfl;clear hk hz c0 c1 f0 f1 f2 hp;by_cases hi:i<j0
    ·have e3:decide (i<j0)=O:=by simpa using hi
     have R:=D hi;clear hi;obtain⟨S,z1,t1⟩:∃a y,fY (.ok lz)=(a,y):=⟨_,_,rfl⟩;obtain⟨q2,z2,t2⟩:∃a y,aU z1=(a,y):=⟨_,_,rfl⟩;obtain⟨q3,z3,t3⟩:∃a y,aU z2=(a,y):=⟨_,_,rfl⟩;obtain⟨q4,z4,t4⟩:∃a y,aU z3=(a,y):=⟨_,_,rfl⟩;obtain⟨T,z5,t5⟩:∃a y,aU z4=(a,y):=⟨_,_,rfl⟩;have d0:Hid (jl (.ok lz)=((S,q2,q3,q4,T),z5)):=D (by simp only[jl,t1,t2,t3,t4,t5]);have T1:=D t1;have T2:=D t2;have T3:=D t3;have T4:=D t4;have T5:=D t5;clear t1 t2 t3 t4 t5;go_upto_region 12 with((go_at_call 137;refine(zK wr p _ _ _ h.o.rd T1.o).mono ?_);rintro en w8 ⟨rfl,k8,b8⟩)
     have H:=D (h.o.KW k8.o b8.o [.string ⟨⟨S⟩⟩,.int .i64 0,.int .i64 0,.int .i64 0,.int .i64 0] 199);obtain⟨bw,o⟩:∃bw,w8.heap.size=bw:=⟨_,rfl⟩;obtain⟨W,hW⟩:∃W,w8.alloc (.cells #[.string ⟨⟨S⟩⟩,.int .i64 0,.int .i64 0,.int .i64 0,.int .i64 0] 199)=W:=⟨_,rfl⟩;rw[hW,o]at H;rw[hW,o];clear hW o k8 b8 c2;go_upto_region 13 with((go_at_call 29;refine(dy _ p _ _ _ H.o.rd T2.o).mono ?_);rintro en m ⟨rfl,k9,b9⟩;(try clear f d);have H:=D (H.o.call k9.o b9.o);have f:=H.o.frozen;have d:=H.o.has 5 rfl)
     go_upto_region 14 with((go_at_call 29;refine(dy _ p _ _ _ (H.o.st _ _).rd T3.o).mono ?_);rintro en m ⟨rfl,k9,b9⟩;(try clear f d);have H:=D (H.o.next k9.o b9.o);have f:=H.o.frozen;have d:=H.o.has 5 rfl)
     go_upto_region 15 with((go_at_call 29;refine(dy _ p _ _ _ (H.o.st _ _).rd T4.o).mono ?_);rintro en m ⟨rfl,k9,b9⟩;(try clear f d);have H:=D (H.o.next k9.o b9.o);have f:=H.o.frozen;have d:=H.o.has 5 rfl)
     go_upto_region 16 with((go_at_call 29;refine(dy _ p _ _ _ (H.o.st _ _).rd T5.o).mono ?_);rintro en m ⟨rfl,k9,b9⟩;(try clear f d);have H:=D (H.o.next k9.o b9.o);have f:=H.o.frozen;have d:=H.o.has 5 rfl)
     clear f d;have n:=D (H.o.st 4 (.int .i64 T));obtain⟨k0,hV⟩:∃k0,m.setCell ⟨bw,4,J⟩ (.int .i64 T)=k0:=⟨_,rfl⟩;rw[hV]at n;rw[hV];clear hV;have v0:=n.o.cell 0 rfl;have v1:=n.o.cell 1 rfl;have v2:=n.o.cell 2 rfl;have v3:=n.o.cell 3 rfl;have v4:=n.o.cell 4 rfl;have q:=D (h.o.back n.o);have OV:=D (F.o.but n.o.but (by have:=h.o.own;have:=h.o.mf;omega));have K:=q.o.cell 6 rfl;go_upto_region 10 with((with_reducible refine aT 65 ?_);refine wH.iW rfl _ _ rfl (b+1) (.slice ao i g) l rfl OV.o (S,q2,q3,q4,T) _ rfl _ rfl rfl i j.o.1 (by have:=R.o;have:=E.o;omega) (aS _ _ K) ?_;intro a7 c7 w7 o7 h7 g7;clear g7;have H7:=D (q.o.below h7 (bu b) (pD q.o.own));have f7:=H7.o.frozen 6;have t7:=H7.o.cell 6 rfl;have o7:=D o7)
     have H9:=D (H7.o.st 6 (.slice a7 (i+1) c7));have o9:=D (o7.o.put ⟨b,6,J⟩ (bu b) (.slice a7 (i+1) c7));have e9:bi ((i:Int)+1)=(i:Int)+1:=ag _ (by have:=R.o;have:=E.o;omega);have L:=D (Q.o.step Keeps.slc R.o);rw[d0.o]at L;clear f7 t7 K v0 v1 v2 v3 v4 h7;go_wp2;go_round
     case rel=>exact⟨i+1,_,_,a7,c7,by go_num,L,H9,o9⟩
     case measure=>exact bA R.o _ eT
    ·have e3:decide (i<j0)=U:=by simpa using hi
     have HF:=D (Q.o.done hi);clear hi;go_wp2;go_meet
     case rel=>exact⟨l,.ok lz,ao,g,D (by rw[j.o.1];exact h.o),D (by rw[j.o.1];exact F.o),D (by rw[HF.o]),by have:=j.o;have:=E.o;omega⟩
 case rest=>
  obtain⟨l,z,ao,g,h,F,e0,hl⟩:=hcut;have g0:=D hl;have N:Hid ((ei x).2=(du (cB jm (dx 100 z).1 (dx 100 z).2).2).2∧(ei x).1.used=(du (cB jm (dx 100 z).1 (dx 100 z).2).2).1):=D (by rw[e0.o];exact HX.o);obtain⟨M2,y2,e2⟩:∃a y,dx 100 z=(a,y):=⟨_,_,rfl⟩;have r:=D e2;have P:M2≤100:=by have:=mR 100 z;rw[show ((100:Nat):Int)=100 from rfl,e2]at this;exact this
  have i0:=D P;clear P e2 hl;rw[r.o]at N;go_step;go_step
  go_cut[4] (fun u4 wx=>u4=.int .i64 (M2:Nat)∧Hid (Mk kY B w p [(w.heap.size,kZ,59)] y2 b (MP s t u ep v C ao l.length g) 59 wx))
  case first=>
   go_wp2_with ((go_at_call 136;refine(vg _ p 100 aC _ h.o.rd).mono ?_);rintro en m ⟨rfl,k9,b9⟩;have H:=D (h.o.call k9.o b9.o))
   go_meet
   case rel=>exact⟨by rw[r.o],D (by rw[r.o]at H;exact H.o)⟩
  case rest=>
   obtain⟨rfl,H⟩:=hcut;go_step;exact NZ _ _ _ _ x y2 M2 s t u ep v C ao l.length g i0.o g0.o N H _ rfl
def Ja{B:Nat}(w:V)(p:Nat)(x:X)(h:gM B w p x)(E:B≤w.heap.size):
  ar M 76 #[.pointer (I ⟨p,0,J⟩)] w (pE B w p x):=by
 obtain⟨j,S,m⟩:∃a y,lR x=(a,y):=⟨_,_,rfl⟩;obtain⟨F,T,n⟩:∃a y,aU S=(a,y):=⟨_,_,rfl⟩;obtain⟨L,x3,o⟩:∃a y,aU T=(a,y):=⟨_,_,rfl⟩;obtain⟨ep,x4,r⟩:∃a y,aU x3=(a,y):=⟨_,_,rfl⟩;obtain⟨N,x5,s⟩:∃a y,aU x4=(a,y):=⟨_,_,rfl⟩;obtain⟨P,k,t⟩:∃a y,aU x5=(a,y):=⟨_,_,rfl⟩;obtain⟨a0,e,l⟩:∃a y,dx 20 k=(a,y):=⟨_,_,rfl⟩;have Q:a0≤20:=by have:=mR 20 k;rw[show ((20:Nat):Int)=20 from rfl,l]at this;exact this
 have HM:=D Q
 have u:Hid ((ei x).2=(du (cB jm (dx 100 (cB jl a0 e).2).1 (dx 100 (cB jl a0 e).2).2).2).2∧(ei x).1.used=(du (cB jm (dx 100 (cB jl a0 e).2).1 (dx 100 (cB jl a0 e).2).2).2).1):=D (by
  simp only[ei,m,n,o,r,s,t,l,and_self])
 have HX:=D h;have R:=D E;have c:=D h.lt;have E1:=D m;have E2:=D n;have E3:=D o;have E4:=D r;have E5:=D s;have E6:=D t;have E7:=D l;clear h E Q m n o r s t l
 go_enter func76,ntmps76
 go_upto_region 2 with((go_at_call 78;refine(AQ _ p x (HX.o.keep ((aD _ _).alloc (G _) _) c.o R.o)).mono ?_);rintro en v ⟨rfl,k8,b8⟩)
 rw[E1.o]at k8⊢;simp only at k8⊢;have g:But p w v:=(But.alloc _ _ _).trans b8.o
 have H:=D (Mk.start (K:=kY) k8.o g c.o R.o [(w.heap.size,kZ,59)] (by
  intro q hq;obtain rfl:=af.1 hq
  exact⟨b8.o.dQ (al _ _) (by have:=c.o;omega),by have:=c.o;show w.heap.size≠p;omega⟩) [.int .i64 j,.int .i64 0,.int .i64 0,.int .i64 0,.int .i64 0,.int .i64 0,.slice J 0 0,.slice J 0 0,.slice J 0 0] 59)
 obtain⟨b,z⟩:∃b,v.heap.size=b:=⟨_,rfl⟩;obtain⟨W,C⟩:∃W,v.alloc (.cells #[.int .i64 j,.int .i64 0,.int .i64 0,.int .i64 0,.int .i64 0,.int .i64 0,.slice J 0 0,.slice J 0 0,.slice J 0 0] 59)=W:=⟨_,rfl⟩;rw[C,z]at H;rw[C,z];clear C z g k8 b8;go_upto_region 3 with((go_at_call 29;refine(dy _ p _ _ _ H.o.rd E2.o).mono ?_);rintro en i ⟨rfl,k9,b9⟩;(try clear f d);have H:=D (H.o.call k9.o b9.o);have f:=H.o.frozen;have d:=H.o.has 9 rfl)
 go_upto_region 4 with((go_at_call 29;refine(dy _ p _ _ _ (H.o.st _ _).rd E3.o).mono ?_);rintro en i ⟨rfl,k9,b9⟩;(try clear f d);have H:=D (H.o.next k9.o b9.o);have f:=H.o.frozen;have d:=H.o.has 9 rfl)
 go_upto_region 5 with((go_at_call 29;refine(dy _ p _ _ _ (H.o.st _ _).rd E4.o).mono ?_);rintro en i ⟨rfl,k9,b9⟩;(try clear f d);have H:=D (H.o.next k9.o b9.o);have f:=H.o.frozen;have d:=H.o.has 9 rfl)
 go_upto_region 6 with((go_at_call 29;refine(dy _ p _ _ _ (H.o.st _ _).rd E5.o).mono ?_);rintro en i ⟨rfl,k9,b9⟩;(try clear f d);have H:=D (H.o.next k9.o b9.o);have f:=H.o.frozen;have d:=H.o.has 9 rfl)
 go_upto_region 7 with((go_at_call 29;refine(dy _ p _ _ _ (H.o.st _ _).rd E6.o).mono ?_);rintro en i ⟨rfl,k9,b9⟩;(try clear f d);have H:=D (H.o.next k9.o b9.o);have f:=H.o.frozen;have d:=H.o.has 9 rfl)
 go_cut[4] (fun u4 wc=>u4=.int .i64 (a0:Nat)∧Hid (Mk kY B w p [(w.heap.size,kZ,59)] e b (TC j F L ep N P) 59 wc))
 case first=>
  have HF:Hid ((dx 20 k).1=a0∧(dx 20 k).2=e):=D (by rw[E7.o];exact⟨rfl,rfl⟩);go_wp2_with ((go_at_call 136;refine(vg _ p 20 aC _ (H.o.st _ _).rd).mono ?_);rintro en i ⟨rfl,k9,b9⟩;have H:=D (H.o.next k9.o b9.o))
  go_meet
  case rel=>exact⟨by rw[HF.o.1],D (by rw[←HF.o.2];exact H.o)⟩
 case rest=>
  obtain⟨rfl,H⟩:=hcut;go_step;exact PP _ _ _ _ x e a0 j F L ep N P HM.o u H _ rfl
abbrev dz:EL Bool:=⟨31,4,1,1,fun b=>[.bool b],underlying31,by kernel_rfl,fun _=>rfl,fun x u a=>by rw[af.1 a];rfl,by decide,by decide⟩
def EL.own.rows{α:Type}{L:EL α}{w w':V}{base:Nat}{v:Z}{l:List α}(h:L.own w base v l)(g:Nat){cs:Array Z}(b:cV w g cs=w')(j:g<base):L.own w' base v l:=by
 subst b;obtain⟨c,d⟩:=h;refine⟨c,d.imp id ?_⟩;rintro⟨k,cap,a,e,f,i,r⟩;exact⟨k,cap,a,e,f,by rw[setRow_other _ _ _ _ A];exact i,r⟩
def cJ.rows{w w':V}{base:Nat}{v:Z}{l:List hJ}(h:cJ w base v l)(g:Nat){cs:Array Z}(a:cV w g cs=w')(b:g<base):cJ w' base v l:=by
 obtain⟨zs,c,d,e⟩:=h;exact⟨zs,c,d.rows g a b,fun z f=>(e z f).rows g a b⟩
def Yy(B:Nat)(w:V)(p:Nat)(K:Int)(x:X)(b:Nat)(e:V):Prop:=
 ∃(c1 c2 k l n o k1 k2 k3 k4 k5 q r s t u v:Int)(y z f C E F g:Option aB)(H L wn wc h i sc a N uu P j:Nat)(c d:List hJ),Mk kY B w p [(w.heap.size+1,dF,61)] (cN K x).2 b (MQ K c1 c2 k l n y H L o k1 k2 k3 k4 k5 z wn wc f c.length h q r s t u v C i sc E a N F uu P g d.length j) 61 e∧cJ e (w.heap.size+2) (.slice f c.length h) c∧cJ e (w.heap.size+2) (.slice g d.length j) d∧(∀m,(cN K x).2=.ok m→c++d=(cN K x).1.1∧uu=(cN K x).1.2)∧(wn≤20∧c.length≤20∧i≤20∧a≤100∧d.length≤20)
def Gj(B:Nat)(w:V)(p:Nat)(K:Int)(x:X)(j:de)(d:V):Prop:=
 ∃(c1 c2 k l n o k1 k2 k3 k4 k5 q r s t u v:Int)(y z e C E F f:Option aB)(H L wn wc g h sc a N uu P i:Nat)(b c:List hJ),j=.returned (.agg (iz K c1 c2 k l n y H L o k1 k2 k3 k4 k5 z wn wc e b.length g q r s t u v C h sc E a N F uu P f c.length i))∧(Hid (gM B d p (cN K x).2)∧Hid (But p w d))∧cJ d w.heap.size (.slice e b.length g) b∧cJ d w.heap.size (.slice f c.length i) c∧(∀m,(cN K x).2=.ok m→b++c=(cN K x).1.1∧uu=(cN K x).1.2)∧(wn≤20∧b.length≤20∧h≤20∧a≤100∧c.length≤20)
def K2{B:Nat}(w:V)(p:Nat)(K:Int)(x:X)(h:gM B w p x)(hB:B≤w.heap.size):
  ar M 31 #[.pointer (I ⟨p,0,J⟩),.agg (Ce K)] w (Gj B w p K x):=by
 obtain⟨Q,x1,S⟩:∃a y,aU x=(a,y):=⟨_,_,rfl⟩;have HD:=D S;have R:=h.lt
 obtain⟨W,hW,H⟩:∃W,(w.alloc (.cells (Ce K) 61)).alloc (.cells dF 61)=W∧Hid (Mk kY B w p [(w.heap.size+1,dF,61)] x w.heap.size (AK K) 61 W):=by
  have a0:ae w.heap.size w ((w.alloc (.cells (Ce K) 61)).alloc (.cells dF 61)):=((aD _ _).alloc (G _) _).alloc bW _;refine⟨_,rfl,D ⟨h.keep a0 R hB,ce _ _ _,fun q hq=>?_,.of_below a0,G _,R,hB⟩⟩;obtain rfl:=af.1 hq;exact⟨bO _ _ _,by show w.heap.size+1≠p;omega,by show w.heap.size+1≠w.heap.size;omega⟩
 have HW:=D hW;have i0:=D R;clear R h hB S hW
 go_enter func31,ntmps31
 go_upto_region 1 with fail
 rw[HW.o];go_upto_region 2 with((go_at_call 29;refine(dy _ p _ _ _ H.o.rd HD.o).mono ?_);rintro en o ⟨rfl,k9,b9⟩;have H:=D (H.o.call k9.o b9.o);have f:=H.o.frozen;have d:=H.o.has 25 rfl)
 have H:=D (H.o.st 1 (.int .i64 Q));obtain⟨k0,t⟩:∃k0,o.setCell ⟨w.heap.size,1,J⟩ (.int .i64 Q)=k0:=⟨_,rfl⟩;rw[t]at H;rw[t];clear t f d;have d0:=H.o.cell 0 rfl;go_upto_block 0 with fail
 clear d0
 go_cut[] (fun wc=>Yy B w p K x w.heap.size wc)
 case first=>
  by_cases h1:K=1
  ·subst h1
   have S:((1:Int)==1)=O:=rfl;go_wp2_with ((go_at_call 75;refine(NX _ p _ H.o.rd (by have:=H.o.but.size;have:=H.o.bs;omega)).mono ?_);rintro en o ⟨q1,q2,q3,q4,q5,wa,oa,wn,wc,oc,l1,rfl,u,⟨k9,b9⟩,T,n9,m9⟩;have O9:=D (cJ.to (b2:=w.heap.size+2) u (by have:=(br (H.o.fZ _ (af.2 rfl)).1).1;show w.heap.size+2≤k0.heap.size;exact this));have V9:=D T;have N9:=D n9;have M9:=D m9;clear u T n9 m9;have H:=D (H.o.call k9.o b9.o);have f:=H.o.frozen;have d:=H.o.has 25 rfl)
   go_meet
   case rel=>
    have c:Hid (cN 1 x=(((kP x1).1.ops,0),(kP x1).2)):=D (by simp only[cN,if_pos,HD.o]);refine⟨Q,0,0,0,0,0,q1,q2,q3,q4,q5,0,0,0,0,0,0,J,wa,oa,J,J,J,J,0,0,wn,wc,oc,0,0,0,0,0,0,0,l1,[],?_,?_,cJ.nil _ _,?_,M9.o,N9.o,aw _,aw _,aw _⟩
    ·rw[c.o]
     exact(((((((H.o.st 8 _).st 9 _).st 10 _).st 11 _).st 12 _).st 13 _).st 14 _)
    ·repeat (refine cJ.put ?_ _ (by show w.heap.size<w.heap.size+2;omega) _)
     exact O9.o
    ·intro m hm
     rw[c.o]at hm⊢;exact⟨by rw[List.append_nil];exact V9.o m hm,rfl⟩
  ·by_cases h2:K=2
   ·subst h2
    have S:((2:Int)==1)=U:=rfl;have e2:((2:Int)==2)=O:=rfl;obtain⟨a1,x2,k⟩:∃a y,aU x1=(a,y):=⟨_,_,rfl⟩;obtain⟨a2,x3,t2⟩:∃a y,aU x2=(a,y):=⟨_,_,rfl⟩;have C:=D k;have T2:=D t2;clear k t2;go_upto_region 7 with((go_at_call 29;refine(dy _ p _ _ _ H.o.rd C.o).mono ?_);rintro en o ⟨rfl,k9,b9⟩;(try clear f d);have H:=D (H.o.call k9.o b9.o);have f:=H.o.frozen;have d:=H.o.has 25 rfl)
    go_wp2_with (first
     | ((go_at_call 29;refine(dy _ p _ _ _ (H.o.st _ _).rd T2.o).mono ?_);rintro en o ⟨rfl,k9,b9⟩;(try clear f d);have H:=D (H.o.next k9.o b9.o);have f:=H.o.frozen;have d:=H.o.has 25 rfl)
     | ((go_at_call 76;refine(Ja _ p _ (H.o.st _ _).rd (by have:=(H.o.st 4 (.int .i64 a2)).but.size;have:=H.o.bs;omega)).mono ?_);rintro en o ⟨r1,r2,r3,r4,r5,r6,sa,ia,ua,sn,sc,s,ic,uu,uc,rfl,⟨k9,b9⟩,T,n9,m9⟩;have V9:=D T;have N9:=D n9;have M9:=D m9;clear T n9 m9 f d;have H:=D (H.o.next k9.o b9.o);have f:=H.o.frozen;have d:=H.o.has 25 rfl))
    go_meet
    case rel=>
     have c:Hid (cN 2 x=(([],(ei x3).1.used.length),(ei x3).2)):=D (by
      simp only[cN,HD.o,C.o,T2.o];rfl)
     refine⟨Q,a1,0,a2,0,0,0,0,0,0,0,r1,r2,r3,r4,r5,r6,J,J,J,sa,ia,ua,J,0,0,0,0,0,sn,sc,s,ic,uu,uc,0,[],[],?_,cJ.nil _ _,cJ.nil _ _,?_,aw _,aw _,N9.o,M9.o,aw _⟩
     ·rw[c.o]
      exact(((((((((H.o.st 15 _).st 16 _).st 17 _).st 18 _).st 19 _).st 20 _).st 21 _).st 22 _).st 23 _)
     ·intro m hm
      rw[c.o]at hm⊢;exact⟨rfl,V9.o m hm⟩
   ·by_cases h4:K=4
    ·subst h4
     have S:((4:Int)==1)=U:=rfl;have e2:((4:Int)==2)=U:=rfl;have e3:((4:Int)==3)=U:=rfl;have e4:((4:Int)==4)=O:=rfl;obtain⟨a1,x2,k⟩:∃a y,aU x1=(a,y):=⟨_,_,rfl⟩;obtain⟨a2,x3,t2⟩:∃a y,aU x2=(a,y):=⟨_,_,rfl⟩;have C:=D k;have T2:=D t2;clear k t2;go_upto_region 21 with((go_at_call 29;refine(dy _ p _ _ _ H.o.rd C.o).mono ?_);rintro en o ⟨rfl,k9,b9⟩;(try clear f d);have H:=D (H.o.call k9.o b9.o);have f:=H.o.frozen;have d:=H.o.has 25 rfl)
     go_wp2_with (first
      | ((go_at_call 29;refine(dy _ p _ _ _ (H.o.st _ _).rd T2.o).mono ?_);rintro en o ⟨rfl,k9,b9⟩;(try clear f d);have H:=D (H.o.next k9.o b9.o);have f:=H.o.frozen;have d:=H.o.has 25 rfl)
      | ((go_at_call 77;refine(Gi _ p _ (H.o.st _ _).rd (by have:=(H.o.st 5 (.int .i64 a2)).but.size;have:=H.o.bs;omega)).mono ?_);rintro en o ⟨l2,za,zc,rfl,u,k9,b9,T,n9⟩;have O9:=D (cJ.to (b2:=w.heap.size+2) u (by have:=(br ((H.o.st 5 (.int .i64 a2)).fZ _ (af.2 rfl)).1).1;exact this));have V9:=D T;have N9:=D n9;clear u T n9 f d;have H:=D (H.o.next k9.o b9.o);have f:=H.o.frozen;have d:=H.o.has 25 rfl))
     go_meet
     case rel=>
      have c:Hid (cN 4 x=(((iQ x3).1,0),(iQ x3).2)):=D (by
       simp only[cN,HD.o,C.o,T2.o];rfl)
      refine⟨Q,0,0,a1,a2,0,0,0,0,0,0,0,0,0,0,0,0,J,J,J,J,J,J,za,0,0,0,0,0,0,0,0,0,0,0,zc,[],l2,?_,cJ.nil _ _,?_,?_,aw _,aw _,aw _,aw _,N9.o⟩
      ·rw[c.o]
       exact(H.o.st 24 _)
      ·refine cJ.put ?_ _ (by show w.heap.size<w.heap.size+2;omega) _
       exact O9.o
      ·intro m hm
       rw[c.o]at hm⊢;exact⟨V9.o m hm,rfl⟩
    ·by_cases h5:K=5
     ·subst h5
      have S:((5:Int)==1)=U:=rfl;have e2:((5:Int)==2)=U:=rfl;have e3:((5:Int)==3)=U:=rfl;have e4:((5:Int)==4)=U:=rfl;have e5:((5:Int)==5)=O:=rfl;obtain⟨a1,x2,k⟩:∃a y,aU x1=(a,y):=⟨_,_,rfl⟩;have C:=D k;clear k;go_upto_region 25 with((go_at_call 29;refine(dy _ p _ _ _ H.o.rd C.o).mono ?_);rintro en o ⟨rfl,k9,b9⟩;(try clear f d);have H:=D (H.o.call k9.o b9.o);have f:=H.o.frozen;have d:=H.o.has 25 rfl)
      go_wp2_with ((go_at_call 78;refine(AQ _ p _ (H.o.st _ _).rd).mono ?_);rintro en o ⟨rfl,k9,b9⟩;clear f d;have H:=D (H.o.next k9.o b9.o);have f:=H.o.frozen;have d:=H.o.has 25 rfl)
      go_meet
      case rel=>
       have c:Hid (cN 5 x=(([],0),(lR x2).2)):=D (by
        simp only[cN,HD.o,C.o];rfl)
       refine⟨Q,a1,0,0,0,(lR x2).1,0,0,0,0,0,0,0,0,0,0,0,J,J,J,J,J,J,J,0,0,0,0,0,0,0,0,0,0,0,0,[],[],?_,cJ.nil _ _,cJ.nil _ _,?_,aw _,aw _,aw _,aw _,aw _⟩
       ·rw[c.o]
        exact(H.o.st 7 _)
       ·intro m hm
        rw[c.o];exact⟨rfl,rfl⟩
     ·by_cases h3:K=3
      ·subst h3
       have S:((3:Int)==1)=U:=rfl;have e2:((3:Int)==2)=U:=rfl;have e3:((3:Int)==3)=O:=rfl;obtain⟨a1,x2,k⟩:∃a y,aU x1=(a,y):=⟨_,_,rfl⟩;obtain⟨a2,x3,t2⟩:∃a y,aU x2=(a,y):=⟨_,_,rfl⟩;have C:=D k;have T2:=D t2;clear k t2;go_upto_region 11 with((go_at_call 29;refine(dy _ p _ _ _ H.o.rd C.o).mono ?_);rintro en o ⟨rfl,k9,b9⟩;(try clear f d);have H:=D (H.o.call k9.o b9.o);have f:=H.o.frozen;have d:=H.o.has 25 rfl)
       go_upto_region 12 with((go_at_call 29;refine(dy _ p _ _ _ (H.o.st _ _).rd T2.o).mono ?_);rintro en o ⟨rfl,k9,b9⟩;(try clear f d);have H:=D (H.o.next k9.o b9.o);have f:=H.o.frozen;have d:=H.o.has 25 rfl)
       have H:=D (H.o.st 4 (.int .i64 a2));obtain⟨V2,t⟩:∃V2,o.setCell ⟨w.heap.size,4,J⟩ (.int .i64 a2)=V2:=⟨_,rfl⟩;rw[t]at H;rw[t];clear t f d;go_wp2
       go_loopw[5] (fun vi wr=>∃(i:Nat)(l:List Bool)(r:List Int)(z:X)(ao:Option aB)(cp:Nat),vi=.int .i64 i∧i≤3∧l.length=i∧Hid (fA oP 3 x3 i r z)∧Hid (Mk kY B w p [(w.heap.size+1,dF,61)] z w.heap.size (TD 3 Q a1 a2 ao i cp) 61 wr)∧Hid (dz.own wr (w.heap.size+2) (.slice ao i cp) l)) (fun vi _=>3-(bp vi).toNat)
       case atStart=>exact⟨0,[],[],x3,J,0,rfl,by omega,rfl,D (fA.start _ _ _),H,D (EL.nil _ _ _)⟩
       case round=>
        obtain⟨i,l,r,z,ao,cp,rfl,b0,hl,HS,HZ,HO⟩:=hrel;have HL:=D hl;clear hl;by_cases hi:i<3
        ·have e4:decide ((i:Int)<3)=O:=by rw[decide_eq_true_eq];omega
         have j:=D hi;obtain⟨n,z1,k⟩:∃a y,aU z=(a,y):=⟨_,_,rfl⟩;have T3:=D k;clear hi b0 k;go_upto_region 16 with((go_at_call 29;refine(dy wr p _ _ _ HZ.o.rd T3.o).mono ?_);rintro en w8 ⟨rfl,k8,b8⟩)
         have b:=D (HZ.o.call k8.o b8.o);have OV:=D (HO.o.but b8.o (by have:=HZ.o.mf;omega));by_cases E:n=0
         ·subst E
          have F:Hid (oP z=(0,z1)):=D (by simp only[oP,T3.o];rfl);have g6:=b.o.cell 6 rfl;have e5:((0:Int) != 0)=U:=rfl;have e6:((0:Int)==1)=U:=rfl
          go_upto_region 14 with(first
           | ((with_reducible refine aT 55 ?_);refine dz.iW rfl _ _ rfl (w.heap.size+2) (.slice ao i cp) l rfl OV.o U _ rfl _ rfl rfl i HL.o (by have:=j.o;omega) (by have:=aS _ _ (b.o.cell 0 rfl);have:=(br (b.o.fZ _ (af.2 rfl)).1).1;exact this) ?_;intro a7 g w7 L h7 g7;clear g7;have N:=D (b.o.below h7 A (pD (G _)));have f7:=N.o.frozen 6;have t7:=N.o.cell 6 rfl;have L:=D L))
          have H9:=D (N.o.st 6 (.slice a7 (i+1) g));have u:=D (L.o.put ⟨w.heap.size,6,J⟩ (by show w.heap.size<w.heap.size+2;omega) (.slice a7 (i+1) g));have e9:bi ((i:Int)+1)=(i:Int)+1:=ag _ (by have:=j.o;omega);have e:=D (HS.o.step j.o);rw[F.o]at e;clear f7 t7 h7;go_wp2;go_round
          case rel=>exact⟨i+1,l++ [U],_,_,a7,g,by go_num,j.o,by simp[HL.o],e,H9,u⟩
          case measure=>exact bA j.o _ eT
         ·by_cases P:n=1
          ·subst P
           have F:Hid (oP z=(1,z1)):=D (by simp only[oP,T3.o];rfl);have g6:=b.o.cell 6 rfl;have e5:((1:Int) != 0)=O:=rfl;have e6:((1:Int) != 1)=U:=rfl;have e7:((1:Int)==1)=O:=rfl;clear E
           go_upto_region 14 with(first
            | ((with_reducible refine aT 55 ?_);refine dz.iW rfl _ _ rfl (w.heap.size+2) (.slice ao i cp) l rfl OV.o O _ rfl _ rfl rfl i HL.o (by have:=j.o;omega) (by have:=aS _ _ (b.o.cell 0 rfl);have:=(br (b.o.fZ _ (af.2 rfl)).1).1;exact this) ?_;intro a7 g w7 L h7 g7;clear g7;have N:=D (b.o.below h7 A (pD (G _)));have f7:=N.o.frozen 6;have t7:=N.o.cell 6 rfl;have L:=D L))
           have H9:=D (N.o.st 6 (.slice a7 (i+1) g));have u:=D (L.o.put ⟨w.heap.size,6,J⟩ (by show w.heap.size<w.heap.size+2;omega) (.slice a7 (i+1) g));have e9:bi ((i:Int)+1)=(i:Int)+1:=ag _ (by have:=j.o;omega);have e:=D (HS.o.step j.o);rw[F.o]at e;clear f7 t7 h7;go_wp2;go_round
           case rel=>exact⟨i+1,l++ [O],_,_,a7,g,by go_num,j.o,by simp[HL.o],e,H9,u⟩
           case measure=>exact bA j.o _ eT
          ·have F:Hid (oP z=(n,z1.fail 10)):=D (by simp only[oP,T3.o];rw[if_pos ⟨E,P⟩])
           have e5:(n != 0)=O:=by simpa using E
           have e6:(n != 1)=O:=by simpa using P
           have e7:(n==1)=U:=by simpa using P
           clear E P;go_upto_region 18 with((go_at_call 30;refine(kj w8 p z1 10 aC k8.o).mono ?_);rintro en j0 ⟨rfl,k10,b10⟩;have b:=D (b.o.call k10.o b10.o);have OV:=D (OV.o.but b10.o (by have:=HZ.o.mf;omega)))
           have g6:=b.o.cell 6 rfl
           go_upto_region 14 with(first
            | ((with_reducible refine aT 55 ?_);refine dz.iW rfl _ _ rfl (w.heap.size+2) (.slice ao i cp) l rfl OV.o U _ rfl _ rfl rfl i HL.o (by have:=j.o;omega) (by have:=aS _ _ (b.o.cell 0 rfl);have:=(br (b.o.fZ _ (af.2 rfl)).1).1;exact this) ?_;intro a7 g w7 L h7 g7;clear g7;have N:=D (b.o.below h7 A (pD (G _)));have f7:=N.o.frozen 6;have t7:=N.o.cell 6 rfl;have L:=D L))
           have H9:=D (N.o.st 6 (.slice a7 (i+1) g));have u:=D (L.o.put ⟨w.heap.size,6,J⟩ (by show w.heap.size<w.heap.size+2;omega) (.slice a7 (i+1) g));have e9:bi ((i:Int)+1)=(i:Int)+1:=ag _ (by have:=j.o;omega);have e:=D (HS.o.step j.o);rw[F.o]at e;clear f7 t7 h7;go_wp2;go_round
           case rel=>exact⟨i+1,l++ [U],_,_,a7,g,by go_num,j.o,by simp[HL.o],e,H9,u⟩
           case measure=>exact bA j.o _ eT
        ·have e4:decide ((i:Int)<3)=U:=by rw[decide_eq_false_iff_not];omega
         have c0:i=3:=A
         subst c0
         have c:Hid (cN 3 x=(([],0),z)):=D (by
          simp only[cN,HD.o,C.o,T2.o]
          rw[HS.o.done];rfl)
         clear hi b0;go_wp2;go_meet
         case rel=>
          refine⟨Q,0,a1,a2,0,0,0,0,0,0,0,0,0,0,0,0,0,ao,J,J,J,J,J,J,3,cp,0,0,0,0,0,0,0,0,0,0,[],[],?_,cJ.nil _ _,cJ.nil _ _,?_,aw _,aw _,aw _,aw _,aw _⟩
          ·rw[c.o]
           exact HZ.o
          ·intro m hm
           rw[c.o];exact⟨rfl,rfl⟩
      ·have S:(K==1)=U:=by simpa using h1
       have e2:(K==2)=U:=by simpa using h2
       have e3:(K==3)=U:=by simpa using h3
       have e4:(K==4)=U:=by simpa using h4
       have e5:(K==5)=U:=by simpa using h5
       have c:Hid (cN K x=(([],0),x1)):=D (by
        simp only[cN,HD.o];rw[if_neg h1,if_neg h2,if_neg h3,if_neg h4,if_neg h5])
       clear h1 h2 h3 h4 h5;go_wp2;go_meet
       case rel=>
        refine⟨Q,0,0,0,0,0,0,0,0,0,0,0,0,0,0,0,0,J,J,J,J,J,J,J,0,0,0,0,0,0,0,0,0,0,0,0,[],[],?_,cJ.nil _ _,cJ.nil _ _,?_,aw _,aw _,aw _,aw _,aw _⟩
        ·rw[c.o]
         exact H.o
        ·intro m hm
         rw[c.o];exact⟨rfl,rfl⟩
 case rest=>
  obtain⟨c1,c2,c3,c4,c5,g,k1,k2,k3,k4,k5,r1,r2,r3,r4,r5,r6,ba,wa,oa,sa,ia,ua,za,bn,bc,wn,ec,oc,sn,sc,s,ic,uu,uc,zc,l1,l2,hm,h1,h2,h3,h4⟩:=hcut;have HM:=D hm;have e0:=D h1;have f0:=D h2;have H3:=D h3;have H4:=D h4;clear hm h1 h2 h3 h4;have hR:=(HM.o.fZ _ (af.2 rfl)).1;obtain⟨k0,t⟩:∃k0,cV wc (w.heap.size+1) (iz K c1 c2 c3 c4 c5 ba bn bc g k1 k2 k3 k4 k5 wa wn ec oa l1.length oc r1 r2 r3 r4 r5 r6 sa sn sc ia s ic ua uu uc za l2.length zc)=k0:=⟨_,rfl⟩;have g0:Hid (k0.heap[w.heap.size+1]?=I (.cells (iz K c1 c2 c3 c4 c5 ba bn bc g k1 k2 k3 k4 k5 wa wn ec oa l1.length oc r1 r2 r3 r4 r5 r6 sa sn sc ia s ic ua uu uc za l2.length zc) 61 (0,0))):=D (by rw[←t];exact setRow_heap _ _ _ _ _ _ hR);have h0:Hid (ae (w.heap.size+1) wc k0):=D (by rw[←t];exact below_setRow (aD _ _) (G _) _);have b:=D t;clear t;go_upto_region 26 with fail
  refine wp_region_lit ?_;refine wpList_load_row rfl _ (.tmp 3) rfl w.heap.size rfl _ _ (0,0) _ HM.o.blk underlying61 rfl aj ?_;refine wpList_store_row rfl _ (.tmp 4) (.tmp 76) rfl (w.heap.size+1) _ rfl rfl _ _ hR aj rfl (by simp[Value.oneCell']) ?_;refine wpList_nil ?_;rw[b.o];go_wp2;refine au (v:=.agg (iz K c1 c2 c3 c4 c5 ba bn bc g k1 k2 k3 k4 k5 wa wn ec oa l1.length oc r1 r2 r3 r4 r5 r6 sa sn sc ia s ic ua uu uc za l2.length zc)) (results_cell_row rfl _ _ (w.heap.size+1) _ _ (0,0) _ rfl g0.o underlying61 rfl aj) rfl (show Gj _ _ _ _ _ _ _ from⟨c1,c2,c3,c4,c5,g,k1,k2,k3,k4,k5,r1,r2,r3,r4,r5,r6,ba,wa,oa,sa,ia,ua,za,bn,bc,wn,ec,oc,sn,sc,s,ic,uu,uc,zc,l1,l2,rfl,HM.o.fin (h0.o.mono (dW _)),?_,?_,H3.o,H4.o⟩)
  ·refine cJ.to (base:=w.heap.size+2) ?_ A
   exact e0.o.rows (w.heap.size+1) b.o (bu _)
  ·refine cJ.to (base:=w.heap.size+2) ?_ A
   exact f0.o.rows (w.heap.size+1) b.o (bu _)
def CF(w:V)(s:List UInt8)(B:s.length<1000000000):ar M 140 #[.string ⟨⟨s⟩⟩] w (fun q w'=>q=.returned (.bool (oW s))∧w'=w):=by
 obtain⟨S,l⟩:∃S:ByteArray,(⟨⟨s⟩⟩:ByteArray)=S:=⟨_,rfl⟩;have C:S.size=s.length:=by rw[←l];rfl
 rw[l];by_cases g:s.length≤40
 rotate_left
 ·have d:Hid (oW s=U):=D (by simp[oW,g])
  have r:decide (40<(s.length:Int))=O:=by simp;omega
  clear g
  go_enter func140,ntmps140
  go_wp2;go_ret;exact⟨eA d.o.symm,rfl⟩
 have r:decide (40<(s.length:Int))=U:=by simp;omega
 have t:=D g;clear g
 go_enter func140,ntmps140
 go_wp2
 go_loop[3] (fun m=>∃k:Nat,k≤s.length∧m=.int .i64 k∧Hid ((s.take k).any qT=U)) (fun m=>s.length-(bp m).toNat)
 case atStart=>exact⟨0,aw _,rfl,D bW⟩
 case round=>
  obtain⟨k,E,rfl,o⟩:=hrel;rcases aL k s.length with b | n
  ·have u:k<S.size:=A
   have e:S[k]=s[k]:=by subst l;rfl
   have hm:=bA b (.int .i64 ((k:Int)+1)) rfl;have F:=D hm;have p:=D b;have a:qT s[k]=O→Hid (oW s=U):=fun h=>D (by simp[oW,MT b h])
   have v:(k:Int)<s.length:=A
   by_cases i:s[k].toNat<32
   ·have x:decide ((S[k].toNat:Int)<32)=O:=by rw[e];simp;omega
    have d:=a (by simp[qT,i]);clear i a hm e;go_wp2;go_ret;exact⟨eA d.o.symm,rfl⟩
   ·have x:decide ((S[k].toNat:Int)<32)=U:=by rw[e];simp;omega
    by_cases j:s[k].toNat=127
    ·have y:((S[k].toNat:Int)==127)=O:=by rw[e];simp;omega
     have d:=a (by simp[qT,j]);clear i j a hm e;go_wp2;go_ret;exact⟨eA d.o.symm,rfl⟩
    ·have y:((S[k].toNat:Int)==127)=U:=by rw[e];simp;omega
     have z:Hid ((s.take (k+1)).any qT=U):=D (Gc o.o b (by simp[qT];exact⟨by omega,j⟩));clear i j a hm e;go_wp2;go_round
     case rel=>exact⟨k+1,p.o,by go_num,z⟩
     case measure=>exact bA p.o _ eT
  ·have f:k=s.length:=A
   have c:s.any qT=U:=by have:=o.o;rw[f,ix]at this;exact this
   have d:Hid (oW s=O):=D (by simp[oW,c,t.o]);have H:decide (k<s.length)=U:=by simp;omega
   clear f c n;go_wp2;go_ret;exact⟨eA d.o.symm,rfl⟩
def PQ(a b:D3):decide (ks a b<0)=if a.1=b.1 then(if a.2.1=b.2.1 then decide (a.2.2<b.2.2)else decide (a.2.1<b.2.1))else decide (a.1<b.1):=by
 obtain⟨a1,a2,a3⟩:=a;obtain⟨b1,b2,b3⟩:=b;simp only[ks,ow,lf]
 repeat' split
 all_goals first | omega | (simp;omega) | simp_all
def K3(a1 a2 a3 b1 b2 b3:Int)(w:V):ar M 141 #[.agg #[.int .i64 a1,.int .i64 a2,.int .i64 a3],.agg #[.int .i64 b1,.int .i64 b2,.int .i64 b3]] w fun e w'=>e=.returned (.bool (decide (ks (a1,a2,a3) (b1,b2,b3)<0)))∧ae w.heap.size w w':=by
 have c:=D (PQ (a1,a2,a3) (b1,b2,b3))
 obtain⟨W,f,k1,k2,g⟩:∃W,(w.alloc (.cells #[.int .i64 a1,.int .i64 a2,.int .i64 a3] 73)).alloc (.cells #[.int .i64 b1,.int .i64 b2,.int .i64 b3] 73)=W∧W.heap[w.heap.size]?=I (.cells #[.int .i64 a1,.int .i64 a2,.int .i64 a3] 73 (0,0))∧
   W.heap[w.heap.size+1]?=I (.cells #[.int .i64 b1,.int .i64 b2,.int .i64 b3] 73 (0,0))∧ae w.heap.size w W:=
  ⟨_,rfl,ce _ _ _,bO _ _ _,((aD _ _).alloc (G _) _).alloc bW _⟩
 have h:=D f;have d:=D g;obtain⟨c0,c1,c2,-⟩:=aW k1;obtain⟨d0,m,n,-⟩:=aW k2;clear f g k1 k2
 go_enter func141,ntmps141
 go_upto_region 1 with fail
 rw[h.o];by_cases a:a1=b1
 ·subst a
  have i:(a1 != a1)=U:=bW
  by_cases b:a2=b2
  ·subst b
   have j:(a2 != a2)=U:=bW
   go_wp2;go_ret;exact⟨eA (by rw[c.o];simp),d.o⟩
  ·have j:(a2 != b2)=O:=by simpa using b
   have k:=D b;clear b;go_wp2;go_ret;exact⟨eA (by rw[c.o];simp[k.o]),d.o⟩
 ·have i:(a1 != b1)=O:=by simpa using a
  have l:=D a;clear a;go_wp2;go_ret;exact⟨eA (by rw[c.o];simp[l.o]),d.o⟩
def nJ{n a b:Int}:mM n a b=U↔n<a∨b<n:=by
 unfold mM;rw[Bool.and_eq_false_iff,decide_eq_false_iff_not,decide_eq_false_iff_not];omega
def N1(o:hJ):iV o=if o.d.1<0∨6≤o.d.1∨o.d.2.1<1∨1073741824<o.d.2.1∨o.d.2.2<1∨1073741824<o.d.2.2∨o.c<0∨3≤o.c∨o.v<1∨3<o.v∨o.t<0∨1099511627776<o.t then 1 else if o.k<1∨5<o.k then 3 else if oW o.key=U∨oW o.tx=U then 5 else jU o.k o.n o.key o.ds:=by
 unfold iV;simp only[nJ];have a:((o.d.1<0∨5<o.d.1)∨(o.d.2.1<1∨1073741824<o.d.2.1)∨(o.d.2.2<1∨1073741824<o.d.2.2)∨(o.c<0∨2<o.c)∨(o.v<1∨3<o.v)∨(o.t<0∨1099511627776<o.t))↔(o.d.1<0∨6≤o.d.1∨o.d.2.1<1∨1073741824<o.d.2.1∨o.d.2.2<1∨1073741824<o.d.2.2∨o.c<0∨3≤o.c∨o.v<1∨3<o.v∨o.t<0∨1099511627776<o.t):=A
 by_cases h:(o.d.1<0∨6≤o.d.1∨o.d.2.1<1∨1073741824<o.d.2.1∨o.d.2.2<1∨1073741824<o.d.2.2∨o.c<0∨3≤o.c∨o.v<1∨3<o.v∨o.t<0∨1099511627776<o.t)
 ·rw[if_pos h,if_pos (a.2 h)]
 ·rw[if_neg h,if_neg (fun g=>h (a.1 g))]
def G3{n:Int}{key:List UInt8}{ds:List D3}:jU 5 n key ds=if mM n 0 999=U then 11 else 0:=by simp[jU]
def SG{n:Int}{key:List UInt8}{ds:List D3}(h:key≠[]):jU 3 n key ds=qf ds:=by simp[jU,h]
def SH{n:Int}{key:List UInt8}{ds:List D3}(h:key≠[]):jU 4 n key ds=if n=0∨mM n (-1099511627776) 1099511627776=U then 11 else 0:=by simp[jU,h]
def N2{l:List D3}{j:Nat}(a:¬8<l.length)(b:j+1<l.length)(h:¬ks l[j] l[j+1]<0):qf l=10:=by
 unfold qf;rw[if_neg a,if_neg (fun g=>h ((qU l).1 g j b))]
def N3{l:List D3}(a:¬8<l.length)(h:∀j (b:j+1<l.length),ks l[j] l[j+1]<0):qf l=0:=by
 unfold qf;rw[if_neg a,if_pos ((qU l).2 h)]
def AR(w:V)(ao:Option aB)(cap:Nat)(z C F c v k n t:Int)(key tx:List UInt8)(l:List D3)(h:cc ku 3 w (.slice ao l.length cap) l)(j0:key.length<1000000000)(k0:tx.length<1000000000):
  ar M 79 #[.agg (iG z C F c v k key tx n t ao l.length cap)] w (fun ev w'=>ev=.returned (.int .i64 (iV ⟨(z,C,F),c,v,k,key,tx,n,t,l⟩))∧ae w.heap.size w w'):=by
 obtain⟨W,y,k1,k2,hb⟩:∃W,(w.alloc (.cells (iG z C F c v k key tx n t ao l.length cap) 75)).alloc (.cells #[.int .i64 z,.int .i64 C,.int .i64 F] 73)=W∧W.heap[w.heap.size]?=I (.cells (iG z C F c v k key tx n t ao l.length cap) 75 (0,0))∧
   W.heap[w.heap.size+1]?=I (.cells #[.int .i64 z,.int .i64 C,.int .i64 F] 73 (0,0))∧ae w.heap.size w W:=
  ⟨_,rfl,ce _ _ _,bO _ _ _,((aD _ _).alloc (G _) _).alloc bW _⟩
 have HW:=D y;have p:=D hb;have HS:Hid (cc ku 3 W (.slice ao l.length cap) l):=D (h.keep hb (G _));have d0:=D j0;have h0:=D k0;obtain⟨b0,b1,b2,b3,b4,b5,b6,b7,b8,b9,b10⟩:=bL k1;obtain⟨m0,m1,m2,-⟩:=aW k2;obtain⟨E,q⟩:∃E,iV ⟨(z,C,F),c,v,k,key,tx,n,t,l⟩=E:=⟨_,rfl⟩;rw[q];rw[N1]at q;simp only at q;have i:=D q;clear y hb k1 k2 h j0 k0 q
 go_enter func79,ntmps79
 go_upto_region 2 with fail
 rw[HW.o];by_cases m:z<0
 ·have e0:decide (z<0)=O:=by simpa using m
  have a:Hid ((1:Int)=E):=D (by rw[←i.o];exact(if_pos A).symm);clear m;go_wp2;go_ret;exact⟨aZ a.o,p.o⟩
 have e0:decide (z<0)=U:=by simpa using m
 by_cases o:6≤z
 ·have e1:decide (6≤z)=O:=by simpa using o
  have a:Hid ((1:Int)=E):=D (by rw[←i.o];exact(if_pos A).symm);clear m o;go_wp2;go_ret;exact⟨aZ a.o,p.o⟩
 have e1:decide (6≤z)=U:=by simpa using o
 by_cases r:C<1
 ·have e2:decide (C<1)=O:=by simpa using r
  have a:Hid ((1:Int)=E):=D (by rw[←i.o];exact(if_pos A).symm);clear m o r;go_wp2;go_ret;exact⟨aZ a.o,p.o⟩
 have e2:decide (C<1)=U:=by simpa using r
 by_cases K:1073741824<C
 ·have e3:decide (1073741824<C)=O:=by simpa using K
  have a:Hid ((1:Int)=E):=D (by rw[←i.o];exact(if_pos A).symm);clear m o r K;go_wp2;go_ret;exact⟨aZ a.o,p.o⟩
 have e3:decide (1073741824<C)=U:=by simpa using K
 by_cases L:F<1
 ·have e4:decide (F<1)=O:=by simpa using L
  have a:Hid ((1:Int)=E):=D (by rw[←i.o];exact(if_pos A).symm);clear m o r K L;go_wp2;go_ret;exact⟨aZ a.o,p.o⟩
 have e4:decide (F<1)=U:=by simpa using L
 by_cases R:1073741824<F
 ·have e5:decide (1073741824<F)=O:=by simpa using R
  have a:Hid ((1:Int)=E):=D (by rw[←i.o];exact(if_pos A).symm);clear m o r K L R;go_wp2;go_ret;exact⟨aZ a.o,p.o⟩
 have e5:decide (1073741824<F)=U:=by simpa using R
 by_cases T:c<0
 ·have e6:decide (c<0)=O:=by simpa using T
  have a:Hid ((1:Int)=E):=D (by rw[←i.o];exact(if_pos A).symm);clear m o r K L R T;go_wp2;go_ret;exact⟨aZ a.o,p.o⟩
 have e6:decide (c<0)=U:=by simpa using T
 by_cases g7:3≤c
 ·have e7:decide (3≤c)=O:=by simpa using g7
  have a:Hid ((1:Int)=E):=D (by rw[←i.o];exact(if_pos A).symm);clear m o r K L R T g7;go_wp2;go_ret;exact⟨aZ a.o,p.o⟩
 have e7:decide (3≤c)=U:=by simpa using g7
 by_cases g8:v<1
 ·have e8:decide (v<1)=O:=by simpa using g8
  have a:Hid ((1:Int)=E):=D (by rw[←i.o];exact(if_pos A).symm);clear m o r K L R T g7 g8;go_wp2;go_ret;exact⟨aZ a.o,p.o⟩
 have e8:decide (v<1)=U:=by simpa using g8
 by_cases g9:3<v
 ·have e9:decide (3<v)=O:=by simpa using g9
  have a:Hid ((1:Int)=E):=D (by rw[←i.o];exact(if_pos A).symm);clear m o r K L R T g7 g8 g9;go_wp2;go_ret;exact⟨aZ a.o,p.o⟩
 have e9:decide (3<v)=U:=by simpa using g9
 by_cases N:t<0
 ·have l0:decide (t<0)=O:=by simpa using N
  have a:Hid ((1:Int)=E):=D (by rw[←i.o];exact(if_pos A).symm);clear m o r K L R T g7 g8 g9 N;go_wp2;go_ret;exact⟨aZ a.o,p.o⟩
 have l0:decide (t<0)=U:=by simpa using N
 by_cases X:1099511627776<t
 ·have n0:decide (1099511627776<t)=O:=by simpa using X
  have a:Hid ((1:Int)=E):=D (by rw[←i.o];exact(if_pos A).symm);clear m o r K L R T g7 g8 g9 N X;go_wp2;go_ret;exact⟨aZ a.o,p.o⟩
 have n0:decide (1099511627776<t)=U:=by simpa using X
 have q:=i.o;rw[if_neg A]at q;have i:=D q;clear q m o r K L R T g7 g8 g9 N X;by_cases m:k<1
 ·have f0:decide (k<1)=O:=by simpa using m
  have a:Hid ((3:Int)=E):=D (by rw[←i.o];exact(if_pos A).symm);clear m;go_wp2;go_ret;exact⟨aZ a.o,p.o⟩
 have f0:decide (k<1)=U:=by simpa using m
 by_cases o:5<k
 ·have f1:decide (5<k)=O:=by simpa using o
  have a:Hid ((3:Int)=E):=D (by rw[←i.o];exact(if_pos A).symm);clear m o;go_wp2;go_ret;exact⟨aZ a.o,p.o⟩
 have f1:decide (5<k)=U:=by simpa using o
 have q:=i.o;rw[if_neg A]at q;have i:=D q;have HK:Hid (1≤k∧k≤5):=D A;clear q m o
 cases a0:oW key with
 | false=>
  have a:Hid ((5:Int)=E):=D (by rw[←i.o];exact(if_pos (.inl a0)).symm)
  skip
  go_wp2_with ((go_at_call 140;refine(CF _ _ (by first | exact d0.o | exact h0.o)).mono ?_);rintro en w9 ⟨rfl,u⟩;rw[u];clear u)
  go_ret;exact⟨aZ a.o,p.o⟩
 | true=>
  cases a1:oW tx with
  | false=>
   have a:Hid ((5:Int)=E):=D (by rw[←i.o];exact(if_pos (.inr a1)).symm)
   skip
   go_wp2_with ((go_at_call 140;refine(CF _ _ (by first | exact d0.o | exact h0.o)).mono ?_);rintro en w9 ⟨rfl,u⟩;rw[u];clear u)
   go_ret;exact⟨aZ a.o,p.o⟩
  | true=>
   have q:=i.o;rw[if_neg (by rw[a0,a1];simp)]at q;have i:=D q;clear q;go_upto_region 8 with((go_at_call 140;refine(CF _ _ (by first | exact d0.o | exact h0.o)).mono ?_);rintro en w9 ⟨rfl,u⟩;rw[u];clear u)
   clear a0 a1 e0 e1 e2 e3 e4 e5 e6 e7 e8 e9 l0 n0 f0 f1 m0 m1 m2;by_cases k5:k=5
   ·subst k5
    by_cases m:n<0
    ·have f0:decide (n<0)=O:=by simpa using m
     have a:Hid ((11:Int)=E):=D (by rw[←i.o];rw[G3,if_pos (nJ.2 A)]);clear m;go_wp2;go_ret;exact⟨aZ a.o,p.o⟩
    have f0:decide (n<0)=U:=by simpa using m
    by_cases o:1000≤n
    ·have f1:decide (1000≤n)=O:=by simpa using o
     have a:Hid ((11:Int)=E):=D (by rw[←i.o];rw[G3,if_pos (nJ.2 A)]);clear m o;go_wp2;go_ret;exact⟨aZ a.o,p.o⟩
    have f1:decide (1000≤n)=U:=by simpa using o
    have a:Hid ((0:Int)=E):=D (by rw[←i.o];rw[G3,if_neg (fun g=>by have:=nJ.1 g;omega)]);clear m o;go_wp2;go_ret;exact⟨aZ a.o,p.o⟩
   have e0:(k != 5)=O:=by simpa using k5
   by_cases hk:key=[]
   ·have ek:key.isEmpty=O:=by rw[hk];rfl
    have a:Hid ((1:Int)=E):=D (by
     rw[←i.o];simp only[jU];have:=HK.o;by_cases k3:k=3
     ·rw[if_pos k3,if_pos hk]
     ·rw[if_neg k3]
      by_cases k12:k=1∨k=2
      ·rw[if_pos k12,if_pos hk]
      ·rw[if_neg k12,if_pos A,if_pos hk])
    clear hk k5;go_wp2;go_ret;exact⟨aZ a.o,p.o⟩
   have ek:key.isEmpty=U:=by
    cases key with
    | nil=>exact absurd rfl hk
    | cons=>rfl
   have i0:=D hk;clear hk;by_cases k3:k=3
   ·subst k3
    have q:=i.o;rw[SG i0.o]at q;have i:=D q;clear q k5;by_cases h8:8<l.length
    ·have e8:decide (8<(l.length:Int))=O:=by simp;omega
     have a:Hid ((4:Int)=E):=D (by rw[←i.o];exact(if_pos h8).symm);clear h8;go_wp2;go_ret;exact⟨aZ a.o,p.o⟩
    have e8:decide (8<(l.length:Int))=U:=by simp;omega
    have H8:=D h8;clear h8;go_wp2
    go_loopw[4] (fun vk wr=>∃k:Nat,1≤k∧vk=.int .i64 k∧(k≤l.length∨k=1)∧Hid (∀j (h:j+1<l.length),j+1<k→ks l[j] l[j+1]<0)∧Hid (ae w.heap.size w wr)∧Hid (ae W.heap.size W wr)) (fun vk _=>9-(bp vk).toNat)
    case atStart=>exact⟨1,G _,rfl,.inr rfl,D (fun j _ h=>by omega),p,D (aD _ _)⟩
    case round=>
     obtain⟨k,o0,rfl,q0,HA,P,x⟩:=hrel;have c0:=dG b10 x.o (aS _ _ b10);have G0:=dG b5 x.o (aS _ _ b5);rcases aL k l.length with Q | s0
     ·have HL:=D Q
      have e2:decide (k<l.length)=O:=by simpa using Q
      obtain⟨j,hj⟩:∃j,k=j+1:=⟨k-1,by omega⟩;have t0:j<l.length:=A
      have v0:Hid (k<9):=D (by have:=H8.o;omega);obtain⟨b,d,rfl,z0,q1⟩:=HS.o.at yk aC x.o (G _) j t0;obtain⟨b',F0,he,-,q2⟩:=HS.o.at yk aC x.o (G _) k Q;injection he with he;injection he with A0 B0;subst A0 B0
      obtain⟨a1,a2,a3,c1,c2,S,p0,p1,p2,r0,r1,r2,hp⟩:∃a1 a2 a3 c1 c2 S,wr.cell? ⟨b,d+j*3,J⟩=I (.int .i64 a1)∧wr.cell? ⟨b,d+j*3+1,J⟩=I (.int .i64 a2)∧wr.cell? ⟨b,d+j*3+2,J⟩=I (.int .i64 a3)∧
        wr.cell? ⟨b,d+k*3,J⟩=I (.int .i64 c1)∧wr.cell? ⟨b,d+k*3+1,J⟩=I (.int .i64 c2)∧wr.cell? ⟨b,d+k*3+2,J⟩=I (.int .i64 S)∧ks l[j] l[k]=ks (a1,a2,a3) (c1,c2,S):=
       ⟨_,_,_,_,_,_,q1 0 _ rfl,q1 1 _ rfl,q1 2 _ rfl,q2 0 _ rfl,q2 1 _ rfl,q2 2 _ rfl,rfl⟩
      have HP:Hid (∀(h:j+1<l.length),ks (l[j]'(Nat.lt_of_succ_lt h)) l[j+1]=ks (a1,a2,a3) (c1,c2,S)):=D (fun _=>by subst hj;exact hp);have HJ:=D hj;have H0:(0:Int)≤(j:Int):=A
      have I0:(0:Int)≤(k:Int):=A
      have J0:(k:Int)<(l.length:Int):=A
      have K0:(j:Int)<(l.length:Int):=A
      have L0:IntKind.i64.wrap ((k:Int)-1)=(j:Int):=by rw[IntKind.wrap_i64];have:=H8.o;omega
      have M0:bi ((k:Int)-1)=(j:Int):=by rw[show (k:Int)-1=(j:Int)by omega];exact ag _ (by have:=H8.o;omega)
      have H:b<wr.heap.size:=ac z0 x.o.size;have C0:w.heap.size<wr.heap.size:=aS _ _ c0;clear q1 q2 hp Q t0 hj o0 q0;go_upto_region 17 with fail
      obtain⟨f,hf⟩:∃f,ks (a1,a2,a3) (c1,c2,S)=f:=⟨_,rfl⟩;rw[hf]at HP;have HF:=D hf;clear hf;have w0:ae wr.heap.size wr wr:=aD _ _;have x0:Hid (∀W,ae wr.heap.size wr W→ar M 141 #[.agg #[.int .i64 a1,.int .i64 a2,.int .i64 a3],.agg #[.int .i64 c1,.int .i64 c2,.int .i64 S]] W (fun e w'=>e=.returned (.bool (decide (f<0)))∧ae wr.heap.size wr w')):=D (fun W y=>(K3 a1 a2 a3 c1 c2 S W).mono (fun e w' h=>⟨by rw[←HF.o];exact h.1,y.trans (h.2.mono y.size)⟩))
      have KS:Hid (∀W,ae wr.heap.size wr W→(ae wr.heap.size wr W∧W.cell? ⟨w.heap.size,10,J⟩=I (.slice (I ⟨b,d,J⟩) l.length cap)∧W.cell? ⟨b,d+j*3,J⟩=I (.int .i64 a1)∧W.cell? ⟨b,d+j*3+1,J⟩=I (.int .i64 a2)∧W.cell? ⟨b,d+j*3+2,J⟩=I (.int .i64 a3)∧W.cell? ⟨b,d+k*3,J⟩=I (.int .i64 c1)∧W.cell? ⟨b,d+k*3+1,J⟩=I (.int .i64 c2)∧W.cell? ⟨b,d+k*3+2,J⟩=I (.int .i64 S))):=
       D (fun W y=>⟨y,cell_behind c0 C0 W y,cell_behind p0 H W y,cell_behind p1 H W y,cell_behind p2 H W y,cell_behind r0 H W y,cell_behind r1 H W y,cell_behind r2 H W y⟩)
      by_cases s:f<0
      ·have e3:decide (f<0)=O:=by simpa using s
       have HN:Hid (∀j' (h:j'+1<l.length),j'+1<k+1→ks l[j'] l[j'+1]<0):=D (fun j' h Q=>by
        rcases aL (j'+1) k with h1 | h1
        ·exact HA.o j' h h1
        ·have D0:j'=j:=by have:=HJ.o;omega
         subst D0
         rw[HP.o h];exact s)
       have kb:bi ((k:Int)+1)=(k:Int)+1:=ag _ (by have:=v0.o;omega);clear s
       go_region_held3 (fun w'=>ae wr.heap.size wr w'∧w'.cell? ⟨w.heap.size,10,J⟩=I (.slice (I ⟨b,d,J⟩) l.length cap)∧w'.cell? ⟨b,d+j*3,J⟩=I (.int .i64 a1)∧w'.cell? ⟨b,d+j*3+1,J⟩=I (.int .i64 a2)∧w'.cell? ⟨b,d+j*3+2,J⟩=I (.int .i64 a3)∧w'.cell? ⟨b,d+k*3,J⟩=I (.int .i64 c1)∧w'.cell? ⟨b,d+k*3+1,J⟩=I (.int .i64 c2)∧w'.cell? ⟨b,d+k*3+2,J⟩=I (.int .i64 S))
        (first | assumption | exact KS.o _ (by assumption) | exact KS.o _ w0.drew)
        ((go_at_call 141;(with_reducible refine(x0.o _ (by go_split_ands;assumption)).mono ?_);rintro en w9 ⟨rfl,E0⟩))
       go_wp2;go_round
       case rel=>exact⟨k+1,by omega,by go_num,.inl HL.o,HN,D (P.o.trans (qF (B:=wr.heap.size) (by assumption) P.o.size)),D (x.o.trans (qF (B:=wr.heap.size) (by assumption) x.o.size))⟩
       case measure=>exact bA v0.o _ eT
      ·have e3:decide (f<0)=U:=by simpa using s
       have a:Hid ((10:Int)=E):=D (by
        have y0:j+1<l.length:=by have:=HJ.o;have:=HL.o;omega
        rw[←i.o]
        exact(N2 H8.o y0 (by rw[HP.o y0];exact s)).symm)
       clear s
       go_region_held3 (fun w'=>ae wr.heap.size wr w'∧w'.cell? ⟨w.heap.size,10,J⟩=I (.slice (I ⟨b,d,J⟩) l.length cap)∧w'.cell? ⟨b,d+j*3,J⟩=I (.int .i64 a1)∧w'.cell? ⟨b,d+j*3+1,J⟩=I (.int .i64 a2)∧w'.cell? ⟨b,d+j*3+2,J⟩=I (.int .i64 a3)∧w'.cell? ⟨b,d+k*3,J⟩=I (.int .i64 c1)∧w'.cell? ⟨b,d+k*3+1,J⟩=I (.int .i64 c2)∧w'.cell? ⟨b,d+k*3+2,J⟩=I (.int .i64 S))
        (first | assumption | exact KS.o _ (by assumption) | exact KS.o _ w0.drew)
        ((go_at_call 141;(with_reducible refine(x0.o _ (by go_split_ands;assumption)).mono ?_);rintro en w9 ⟨rfl,E0⟩))
       go_wp2;go_ret;exact⟨aZ a.o,P.o.trans (qF (B:=wr.heap.size) (by assumption) P.o.size)⟩
     ·have a:Hid ((0:Int)=E):=D (by
       rw[←i.o]
       exact(N3 H8.o (fun j hj=>HA.o j hj A)).symm)
      have e2:decide (k<l.length)=U:=by simpa using s0
      clear s0 q0 o0;go_wp2;go_ret;exact⟨aZ a.o,P.o⟩
   have e1:(k==3)=U:=by simpa using k3
   by_cases k4:k=4
   ·subst k4
    have q:=i.o;rw[SH i0.o]at q;have i:=D q;clear q k5 k3;by_cases m:n=0
    ·have f0:(n==0)=O:=by simpa using m
     have a:Hid ((11:Int)=E):=D (by rw[←i.o];exact(if_pos (.inl m)).symm);clear m;go_wp2;go_ret;exact⟨aZ a.o,p.o⟩
    have f0:(n==0)=U:=by simpa using m
    by_cases o:n< -1099511627776
    ·have f1:decide (n< -1099511627776)=O:=by simpa using o
     have a:Hid ((11:Int)=E):=D (by rw[←i.o];exact(if_pos (.inr (nJ.2 (.inl o)))).symm);clear m o;go_wp2;go_ret;exact⟨aZ a.o,p.o⟩
    have f1:decide (n< -1099511627776)=U:=by simpa using o
    by_cases r:1099511627776<n
    ·have f2:decide (1099511627776<n)=O:=by simpa using r
     have a:Hid ((11:Int)=E):=D (by rw[←i.o];exact(if_pos (.inr (nJ.2 (.inr r)))).symm);clear m o r;go_wp2;go_ret;exact⟨aZ a.o,p.o⟩
    have f2:decide (1099511627776<n)=U:=by simpa using r
    have a:Hid ((0:Int)=E):=D (by rw[←i.o];exact(if_neg (fun g=>by rcases g with g | g;exact m g;rcases nJ.1 g with g | g;exact o g;exact r g)).symm);clear m o r;go_wp2;go_ret;exact⟨aZ a.o,p.o⟩
   have e4:(k==4)=U:=by simpa using k4
   have e5:(k==5)=U:=by simpa using k5
   have a:Hid ((0:Int)=E):=D (by rw[←i.o];simp only[jU];have:=HK.o;rw[if_neg k3,if_pos A,if_neg i0.o]);clear k3 k4 k5;go_wp2;go_ret;exact⟨aZ a.o,p.o⟩
def vh:∀(a b:List hJ)(e:Int),gg e (a++b)=gg (gg e a) b
 | [],b,e=>rfl
 | o::a,b,e=>vh a b _
def N4{l:List hJ}{k:Nat}(a:k<l.length)(b:gg 0 (l.take k)=0)(h:iV l[k]≠0):gg 0 l=iV l[k]:=by
 conv=>lhs;rw[←List.take_append_drop k l]
 rw[vh,b,List.drop_eq_getElem_cons a,Cy,if_neg h]
def K8{l:List hJ}{k:Nat}(a:k<l.length)(b:gg 0 (l.take k)=0)(h:iV l[k]=0):gg 0 (l.take (k+1))=0:=by
 rw[List.take_succ_eq_append_getElem a,vh,b,Cy,if_pos h];rfl
def iq(l:List hJ):Prop:=∀o∈l,o.key.length<1000000000∧o.tx.length<1000000000
def CG(w:V)(base:Nat)(ao:Option aB)(cap:Nat)(l:List hJ)(h:cJ w base (.slice ao l.length cap) l)(hs:iq l)(hl:l.length<1000000):
  ar M 34 #[.slice ao l.length cap] w (fun ev w'=>ev=.returned (.int .i64 (gg 0 l))∧ae w.heap.size w w'):=by
 obtain⟨zs,N,ho,hd⟩:=h;have i:zs.length=l.length:=by rw[←N,fX]
 have j:=ho.sl;rw[←i]at j;have HS:=D j;have HZ:=D N;have HD:=D hd;have P:=D i;have HL:=D hl;have Q:=D hs;clear N ho hd hs hl j i
 go_enter func34,ntmps34
 go_wp2
 go_loopw[3] (fun R wr=>∃k:Nat,k≤l.length∧R=.int .i64 k∧Hid (gg 0 (l.take k)=0)∧Hid (ae w.heap.size w wr)) (fun R _=>l.length-(bp R).toNat)
 case atStart=>exact⟨0,aw _,rfl,D rfl,D (aD _ _)⟩
 case round=>
  obtain⟨k,hk,rfl,S,m⟩:=hrel;rcases aL k l.length with d | s
  ·have a:=D d
   have e2:decide (k<l.length)=O:=by simpa using d
   have e:k<zs.length:=by rw[P.o];exact d
   obtain⟨b,a0,rfl,b0,q⟩:=HS.o.at (fun _=>rfl) aC m.o (G _) k e;obtain⟨z,f⟩:∃z,zs[k]=z:=⟨_,rfl⟩
   have o:l[k]=z.1:=by
    have:(zs.map (·.1))[k]'(by rw[fX];exact e)=z.1:=by rw[List.getElem_map,f]
    rw[←this];congr 1;exact HZ.o.symm
   have u:=HD.o z (by rw[←f];exact dj e);rw[f]at q;obtain⟨⟨⟨x,y,B⟩,c,v,C,key,tx,n,t,ds⟩,T,W⟩:=z;have F:Hid (cc ku 3 wr (.slice T ds.length W) ds):=D ((EL.own.sl u).keep m.o (G _))
   have g:Hid (key.length<1000000000∧tx.length<1000000000):=D (by
    have:=Q.o l[k] (dj d)
    rw[o]at this;exact this)
   have p:Hid (∀(h:k<l.length),l[k]=⟨(x,y,B),c,v,C,key,tx,n,t,ds⟩):=D (fun _=>o);have p0:=q 0 _ rfl;have p1:=q 1 _ rfl;have p2:=q 2 _ rfl;have p3:=q 3 _ rfl;have p4:=q 4 _ rfl;have p5:=q 5 _ rfl;have p6:=q 6 _ rfl;have p7:=q 7 _ rfl;have p8:=q 8 _ rfl;have p9:=q 9 _ rfl;have c0:=q 10 _ rfl;have k0:(0:Int)≤(k:Int):=A
   have k1:(k:Int)<(l.length:Int):=A
   have e9:bi ((k:Int)+1)=(k:Int)+1:=ag _ (by have:=HL.o;omega);simp only[Nat.add_zero]at p0;clear q f o u e d hk;by_cases r:iV ⟨(x,y,B),c,v,C,key,tx,n,t,ds⟩=0
   ·have H:Hid (gg 0 (l.take (k+1))=0):=D (K8 a.o S.o (by rw[p.o a.o];exact r))
    have X:=D r;clear r;go_upto_region 5 with((go_at_call 79;refine(AR wr T W x y B c v C n t key tx ds F.o g.o.1 g.o.2).mono ?_);rintro en w9 ⟨rfl,b9⟩)
    rw[X.o];go_wp2;go_round
    case rel=>exact⟨k+1,a.o,by go_num,H,D (m.o.trans (b9.mono m.o.size))⟩
    case measure=>exact bA a.o _ eT
   ·obtain⟨E,L⟩:∃E,iV ⟨(x,y,B),c,v,C,key,tx,n,t,ds⟩=E:=⟨_,rfl⟩
    have H:Hid (E=gg 0 l):=D (by rw[N4 a.o S.o (by rw[p.o a.o];exact r),p.o a.o,L]);have e3:(E != 0)=O:=by rw[←L];simpa using r
    have HE:=D L;clear r L;go_upto_region 5 with((go_at_call 79;refine(AR wr T W x y B c v C n t key tx ds F.o g.o.1 g.o.2).mono ?_);rintro en w9 ⟨rfl,b9⟩)
    rw[HE.o];go_wp2;go_ret;exact⟨aZ H.o,m.o.trans (b9.mono m.o.size)⟩
  ·have K:k=l.length:=A
   have H:Hid ((0:Int)=gg 0 l):=D (by have:=S.o;rw[K,ix]at this;exact this.symm);have e2:decide (k<l.length)=U:=by simpa using s
   clear K s hk;go_wp2;go_ret;exact⟨aZ H.o,m.o⟩
end Go.Proofs.YtdgllhcfablaoaaGreat
