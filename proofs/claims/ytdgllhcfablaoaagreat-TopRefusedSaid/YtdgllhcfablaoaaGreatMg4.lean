/- What the law asks, in parts: VCe VDa VEb VEc VEd VEe VAd VDb VEf VEg VEm VEn VBr. -/
import Derived.Laws.EntriesVeiled
import Derived.Deep.MidRow
import Derived.Laws.Tables
import Derived.Test.YtdgllhcfablaoaaGreatMg3
import Derived.Test.YtdgllhcfablaoaaGreatMg1
set_option linter.all false
set_option maxRecDepth 100000
set_option maxHeartbeats 16000000
open Go.Proofs.Tryz
open Bool renaming false→U,true→O
open Option renaming some→I,none→J
open Go renaming World→V,Value→Z,bodyPost_ret→au,Calls→ar,heap_alloc_new→al,Addr→aB,setRow_heap→aO,TypeId→aN,yieldsIf_load_mid→b_,Ending→de,results_cell_row→eb,wp_store_row→eh,ownsRow_setCell_other→gu,info_parts→fT,run_callFunc_extern→jy,wpList_store_row→aJ,wpList_load_mid→j_
open Nat renaming lt_of_lt_of_le→ac,le_trans→aa,lt_or_ge→aL,mul_le_mul_right→bE,le_of_eq→bD,add_mul→cR,zero_add→cO,min_eq_left→eR,le_succ→dW,add_assoc→j6,add_comm→om,succ_mul→qP
open Go.RowKit renaming Below→ae,wrap64→bi
open Go.IntWalk renaming wrap64_in→ag,i64_in→s5
open List renaming length_append→ay,length_drop→bh,length_take→bN,take_append_of_le_length→cQ,getElem?_eq_some_iff→dT,length_set→eE,append_nil→eH,getElem?_take→fD,set_eq_take_append_cons_drop→i_,drop_of_length_le→j3,take_take→kA,mem_of_mem_drop→nC,take_left'→nW,drop_take→sY,take_set→uU
open Go.World renaming cell?→an,setCell→aV,setRow→cV,frozen?→fJ,ownsRow→jc,setRow_alloc_new→dX,shape?→wk
open Array renaming getElem?_modify→aR
open Go.RowKit.Below renaming heap_setCell→bC,setCell→cu,heap_alloc→ed
open Go.Value renaming oneCell'→ap
open Go.Addr renaming add_lit→dM
open Go.Extern.SlicesOverlaps renaming overlaps→ff
open Go.World.grownBy renaming refl→gF
open Go.World.ownsRow renaming lt→jz
open Ne renaming symm→jh
open Go.Proofs.Tryz renaming prog→M
namespace Go.Proofs.YtdgllhcfablaoaaGreat
open Go.RowKit
def Oc(w:V)(B:Nat)(z:dY)(c:eo)(key:List UInt8)(h:bB w B z c)(e:c.few 99999998):ar M 225 #[.agg ⟨z.l c⟩,.string ⟨⟨key⟩⟩] w (rS w c.r.length):=by
 obtain⟨⟨f,g⟩,⟨j,rc⟩,⟨k,l⟩,⟨m,n⟩,⟨o,sc⟩,⟨p,r⟩⟩:=z;simp only[dY.l];obtain⟨W,a⟩:∃W,(w.alloc (.cells (di f c.v.length g j c.r.length rc k c.e.length l m c.g.length n o c.s.length sc p c.b.length r) 47)).alloc (.cells #[.string ⟨⟨key⟩⟩] 9)=W:=⟨_,rfl⟩;have d:Hid (ae w.heap.size w W):=D (by rw[←a];exact((aD _ _).alloc (G _) _).alloc bW _);have u:=D (h.keep d.o (G _));have s:W.heap[w.heap.size]?=I (.cells (di f c.v.length g j c.r.length rc k c.e.length l m c.g.length n o c.s.length sc p c.b.length r) 47 (0,0)):=by rw[←a];exact ce _ _ _
 obtain⟨c0,c1,c2,C,E,F⟩:=ah s
 have v:Hid (W.cell? ⟨w.heap.size+1,0,J⟩=I (.string ⟨⟨key⟩⟩)):=D (by
  have b:W.heap[w.heap.size+1]?=I (.cells #[.string ⟨⟨key⟩⟩] 9 (0,0)):=by rw[←a];exact bO _ _ _
  simp[an,b])
 have t:=D a;have HF:=D e;clear h e a s
 go_enter func225,ntmps225
 go_upto_region 1 with fail
 rw[t.o];clear t;go_wp2_with ((go_at_call 274;refine(PY _ c.r _ _ _ u.o.r.sl (by have:=HF.o;unfold eo.few at this;omega) (SJ v.o)).mono ?_);rintro en H ⟨i,q,rfl,b,b9⟩;have x:=D b.o;have y:=D b9.o;clear b b9)
 go_ret2
 exact⟨i,q,rfl,x,D (d.o.trans (y.o.mono d.o.size))⟩
def Od(w:V)(B:Nat)(z:dY)(c:eo)(key:List UInt8)(h:bB w B z c)(e:c.few 99999998):ar M 237 #[.agg ⟨z.l c⟩,.string ⟨⟨key⟩⟩] w (rS w c.s.length):=by
 obtain⟨⟨f,g⟩,⟨j,rc⟩,⟨k,l⟩,⟨m,n⟩,⟨o,sc⟩,⟨p,r⟩⟩:=z;simp only[dY.l];obtain⟨W,a⟩:∃W,(w.alloc (.cells (di f c.v.length g j c.r.length rc k c.e.length l m c.g.length n o c.s.length sc p c.b.length r) 47)).alloc (.cells #[.string ⟨⟨key⟩⟩] 9)=W:=⟨_,rfl⟩;have d:Hid (ae w.heap.size w W):=D (by rw[←a];exact((aD _ _).alloc (G _) _).alloc bW _);have u:=D (h.keep d.o (G _));have s:W.heap[w.heap.size]?=I (.cells (di f c.v.length g j c.r.length rc k c.e.length l m c.g.length n o c.s.length sc p c.b.length r) 47 (0,0)):=by rw[←a];exact ce _ _ _
 obtain⟨c0,c1,c2,C,E,F⟩:=ah s
 have v:Hid (W.cell? ⟨w.heap.size+1,0,J⟩=I (.string ⟨⟨key⟩⟩)):=D (by
  have b:W.heap[w.heap.size+1]?=I (.cells #[.string ⟨⟨key⟩⟩] 9 (0,0)):=by rw[←a];exact bO _ _ _
  simp[an,b])
 have t:=D a;have HF:=D e;clear h e a s
 go_enter func237,ntmps237
 go_upto_region 1 with fail
 rw[t.o];clear t;go_wp2_with ((go_at_call 287;refine(P2 _ c.s _ _ _ u.o.s.sl (by have:=HF.o;unfold eo.few at this;omega) (SK v.o)).mono ?_);rintro en H ⟨i,q,rfl,b,b9⟩;have x:=D b.o;have y:=D b9.o;clear b b9)
 go_ret2
 exact⟨i,q,rfl,x,D (d.o.trans (y.o.mono d.o.size))⟩
def Oe(w:V)(B:Nat)(z:dY)(c:eo)(id:Int)(h:bB w B z c)(e:c.few 99999998):ar M 239 #[.agg ⟨z.l c⟩,.int .i64 id] w (rS w c.b.length):=by
 obtain⟨⟨f,g⟩,⟨j,rc⟩,⟨k,l⟩,⟨m,n⟩,⟨o,sc⟩,⟨p,r⟩⟩:=z;simp only[dY.l];obtain⟨W,a⟩:∃W,(w.alloc (.cells (di f c.v.length g j c.r.length rc k c.e.length l m c.g.length n o c.s.length sc p c.b.length r) 47)).alloc (.cells #[.int .i64 id] 3)=W:=⟨_,rfl⟩;have d:Hid (ae w.heap.size w W):=D (by rw[←a];exact((aD _ _).alloc (G _) _).alloc bW _);have u:=D (h.keep d.o (G _));have s:W.heap[w.heap.size]?=I (.cells (di f c.v.length g j c.r.length rc k c.e.length l m c.g.length n o c.s.length sc p c.b.length r) 47 (0,0)):=by rw[←a];exact ce _ _ _
 obtain⟨c0,c1,c2,C,E,F⟩:=ah s
 have v:Hid (W.cell? ⟨w.heap.size+1,0,J⟩=I (.int .i64 id)):=D (by
  have b:W.heap[w.heap.size+1]?=I (.cells #[.int .i64 id] 3 (0,0)):=by rw[←a];exact bO _ _ _
  simp[an,b])
 have t:=D a;have HF:=D e;clear h e a s
 go_enter func239,ntmps239
 go_upto_region 1 with fail
 rw[t.o];clear t;go_wp2_with ((go_at_call 291;refine(P3 _ c.b _ _ _ u.o.b.sl (by have:=HF.o;unfold eo.few at this;omega) (SL v.o)).mono ?_);rintro en H ⟨i,q,rfl,b,b9⟩;have x:=D b.o;have y:=D b9.o;clear b b9)
 go_ret2
 exact⟨i,q,rfl,x,D (d.o.trans (y.o.mono d.o.size))⟩
def CM(w:V)(B:Nat)(z:dY)(c:eo)(o p r:Int)(h:bB w B z c)(s:c.few 99999998):ar M 228 #[.agg ⟨z.l c⟩,.agg #[.int .i64 o,.int .i64 p,.int .i64 r]] w (rS w c.g.length):=by
 obtain⟨⟨t,u⟩,⟨v,rc⟩,⟨x,y⟩,⟨C,E⟩,⟨F,sc⟩,⟨H,K⟩⟩:=z;simp only[dY.l];obtain⟨d,a⟩:∃d,(w.alloc (.cells (di t c.v.length u v c.r.length rc x c.e.length y C c.g.length E F c.s.length sc H c.b.length K) 47)).alloc (.cells #[.int .i64 o,.int .i64 p,.int .i64 r] 73)=d:=⟨_,rfl⟩;have e:Hid (ae w.heap.size w d):=D (by rw[←a];exact((aD _ _).alloc (G _) _).alloc bW _);have L:Hid (d.heap.size=w.heap.size+2):=D (by rw[←a];simp);have f:d.heap[w.heap.size]?=I (.cells (di t c.v.length u v c.r.length rc x c.e.length y C c.g.length E F c.s.length sc H c.b.length K) 47 (0,0)):=by rw[←a];exact ce _ _ _
 have g:d.heap[w.heap.size+1]?=I (.cells #[.int .i64 o,.int .i64 p,.int .i64 r] 73 (0,0)):=by rw[←a];exact bO _ _ _
 have j:=D a;have HF:=D s;have k:=D (h.keep e.o (G _));have l:=D f;have m:=D g;clear h s a f g
 go_enter func228,ntmps228
 go_upto_region 1 with fail
 rw[j.o];go_upto_region 2 with fail
 obtain⟨W,n⟩:∃W,d.alloc (.cells #[.func (.func 227) #[] #[]] 389)=W:=⟨_,rfl⟩;have b:ae d.heap.size d W:=by rw[←n];exact(aD _ _).alloc (G _) _
 have N:Hid (ae w.heap.size w W):=D (e.o.trans (b.mono e.o.size));have HC:=D (k.o.keep b (G _));have P:=ft l.o b (by rw[L.o];omega);have Q:=ft m.o b (by rw[L.o];omega);obtain⟨c0,c1,c2,c3,c4,c5⟩:=ah P;obtain⟨R,S,T,-⟩:=aW Q;have X:W.cell? ⟨d.heap.size,0,J⟩=I (.func (.func 227) #[] #[]):=by rw[←n];simp[go_sem]
 have HA:=D (P4 X R S T);rw[n];clear n b k l m P Q X R S T j e;go_wp2_with ((go_at_call 279;refine(P1 _ c.g _ _ _ HC.o.g.sl (by have:=HF.o;unfold eo.few at this;omega) HA.o).mono ?_);rintro en w9 ⟨i,q,rfl,h9,b9⟩;have H9:=D h9.o;have B9:=D b9.o;clear h9 b9)
 go_ret2
 exact⟨i,q,rfl,H9,D (N.o.trans (B9.o.mono N.o.size))⟩
theorem EL.own.apart{α β:Type}{L:EL α}{x:EL β}{w w':V}{B:Nat}{v u:Z}{l:List α}{m:List β}(h:L.own w B v l)(k:x.own w B u m)(n:w.grownBy w' u.ownBlock)(c:L.e≠x.e):L.own w' B v l:=by
 obtain⟨o,p⟩:=h;refine⟨o,p.imp id ?_⟩;rintro⟨g,cap,d,q,f,i,r⟩;refine⟨g,cap,d,q,f,?_,r⟩;rw[n.block g (br i).1 ?_]
 ·exact i
 ·intro e
  obtain⟨_,s⟩:=k;rcases s with⟨b,_⟩ | ⟨t,_,j,b,_,a,_⟩
  ·rw[b]at e;cases e
  ·rw[b]at e
   injection e with e;subst e;rw[i]at a;injection a with a;injection a with _ a _;exact c a
def qZ(w:V)(g o:Nat):List Z→V
 | []=>w
 | v::a=>qZ (w.setCell ⟨g,o,J⟩ v) g (o+1) a
theorem Ll{base:Nat}{e:aN}{E g n cap:Nat}:∀(cs:List Z)(o:Nat)(w:V)(a:List Z),w.ownsRow base e E (.slice (I ⟨g,0,J⟩) n cap) n a→o+cs.length≤a.length→
  (qZ w g o cs).ownsRow base e E (.slice (I ⟨g,0,J⟩) n cap) n (a.take o++cs++a.drop (o+cs.length)):=by
 intro cs
 induction cs with
 | nil=>intro o w a h _;simpa[qZ]using h
 | cons c cs d=>
  intro o w a h f;have i:o+(cs.length+1)≤a.length:=f;have b:=d (o+1) _ _ (mr h o A c) kc
  have e:(a.set o c).take (o+1)++cs++(a.set o c).drop (o+1+cs.length)=a.take o++(c::cs)++a.drop (o+(c::cs).length):=by
   rw[uU,List.drop_set,if_pos A,i_];rw[if_pos (by rw[bN];omega),kA,eR A,sY];simp[show o+1-(o+1)=0 by omega,j6,om 1]
  rw[e]at b;exact b
theorem qj{g:Nat}:∀(cs:List Z)(o:Nat)(w:V),w.grownBy (qZ w g o cs) (I g):=by
 intro cs
 induction cs with
 | nil=>intro o w;exact gF _ _
 | cons c cs b=>
  intro o w;have h:=b (o+1) (w.setCell ⟨g,o,J⟩ c);exact⟨h.os,h.tape,h.output,aa (bD (by simp[aV])) h.size,fun k d a=>(h.block k (by simpa[aV]using d) a).trans (bC _ _ _ _ (fun e=>a (by rw[e])))⟩
theorem EL.own.write{α:Type}{L:EL α}{w:V}{B g c:Nat}{l:List α}(h:L.own w B (.slice (I ⟨g,0,J⟩) l.length c) l)(k:Nat)(a:k<l.length)(y:α):
  L.own (qZ w g (k*L.E) (L.f y)) B (.slice (I ⟨g,0,J⟩) (l.set k y).length c) (l.set k y):=by
 have b:=Ll (L.f y) (k*L.E) w _ h (by rw[L.len,ke L.len];exact(by have:=bE L.E a;rw[qP]at this;exact this));rw[L.len,IR L.len l k a y]at b;show jc _ _ _ _ _ (l.set k y).length _;rw[eE];exact b
theorem EL.own.at{α:Type}{L:EL α}{w:V}{B:Nat}{a:Option aB}{c:Nat}{l:List α}(h:L.own w B (.slice a l.length c) l)(k:Nat)(f:k<l.length):
  ∃g,a=I ⟨g,0,J⟩∧B≤g∧g<w.heap.size∧(∀o,w.frozen? ⟨g,o,J⟩=U)∧∀j u,(L.f l[k])[j]?=I u→w.cell? ⟨g,k*L.E+j,J⟩=I u:=by
 obtain⟨i,m⟩:=h;rcases m with⟨b,_⟩ | ⟨g,cap,d,b,r⟩
 ·injection b with _ b _
  omega
 ·injection b with n _ p
  subst n p;have q:L.own w B (.slice (I ⟨g,0,J⟩) l.length c) l:=⟨i,.inr ⟨g,_,d,rfl,r⟩⟩;obtain⟨s,t,z,C,E,v,x⟩:=iP q;refine⟨g,rfl,s,t,v,fun j u e=>x _ u ?_⟩;have y:j<L.E:=by rw[←L.len l[k]];exact(dT.1 e).1
  rw[wC L.len l k f j y];exact e
theorem G8{α:Type}{f:α→List Z}{E:Nat}(b:∀x,(f x).length=E):∀(l:List α)(k:Nat)(a:k<l.length)(j:Nat),j<E→∀(u:Z)(y:α),f y=(f l[k]).set j u→(ca f l).set (k*E+j) u=ca f (l.set k y):=by
 intro l
 induction l with
 | nil=>intro k a;cases a
 | cons x l e=>
  intro k a j c u y d
  cases k with
  | zero=>
   rw[hH,Nat.zero_mul,cO,List.set_append_left _ _ (by rw[b];exact c)];show _=f y++ca f l;rw[d];rfl
  | succ k=>
   rw[hH,List.set_append_right _ _ (by rw[b,qP];omega),b,show(k+1)*E+j-E=k*E+j by rw[qP];omega];show _=f x++ca f (l.set k y);rw[e k (by simpa using a) j c u y d]
theorem EL.own.Zw{α:Type}{L:EL α}{w:V}{B g c:Nat}{l:List α}(h:L.own w B (.slice (I ⟨g,0,J⟩) l.length c) l)(k:Nat)(a:k<l.length)(j:Nat)(d:j<L.E)(u:Z)(y:α)(e:L.f y=(L.f l[k]).set j u):
  L.own (w.setCell ⟨g,k*L.E+j,J⟩ u) B (.slice (I ⟨g,0,J⟩) (l.set k y).length c) (l.set k y):=by
 have b:=mr h (k*L.E+j) (by rw[ke L.len];have:=bE L.E a;rw[qP]at this;omega) u;rw[G8 L.len l k a j d u y e]at b;show jc _ _ _ _ _ (l.set k y).length _;rw[eE];exact b
theorem Lm(w:V)(g o:Nat)(u:Z):w.grownBy (w.setCell ⟨g,o,J⟩ u) (I g):=
 ⟨rfl,rfl,rfl,bD (by simp[aV]),fun k _ a=>bC _ _ _ _ (fun e=>a (by rw[e]))⟩
def putAt{α:Type}(l:List α)(i:Nat)(y:α):List α:=l.take i++ [y]++l.drop i
theorem fO{α:Type}(l:List α)(i:Nat)(y:α)(h:i≤l.length):(putAt l i y).length=l.length+1:=by simp[putAt];omega
theorem mS{α:Type}(L:EL α)(l:List α)(i:Nat)(y:α):(ca L.f l).take (i*L.E)++L.f y++(ca L.f l).drop (i*L.E)=ca L.f (putAt l i y):=by
 rw[rL L.len,yg L.len,putAt,jS,jS,tf]
theorem Ln{α:Type}{l:List α}{i:Nat}{x y:α}(h:x∈putAt l i y):x=y∨x∈l:=by
 simp only[putAt,List.mem_append,List.mem_singleton]at h;rcases h with(h | h) | h
 ·exact .inr (List.mem_of_mem_take h)
 ·exact .inl h
 ·exact .inr (nC h)
structure eo.ok(c:eo)(n:Nat):Prop where
 nv:c.v.length≤n
 nr:c.r.length≤n
 ne:c.e.length≤n
 ng:c.g.length≤n
 ns:c.s.length≤n
 nb:c.b.length≤n
 tr:∀x∈c.r,x.key.length≤40∧x.tx.length≤40
 te:∀x∈c.e,x.key.length≤40∧x.tx.length≤40
 ts:∀x∈c.s,x.key.length≤40
 tb:∀x∈c.b,x.tx.length≤40
theorem eo.ok.few{c:eo}{n m:Nat}(h:c.ok n)(hm:n≤m):c.few m:=by
 have a:=h.nv;have b:=h.nr;have d:=h.ne;have e:=h.ng;have f:=h.ns;have g:=h.nb;unfold eo.few;omega
theorem eo.ok.up{c:eo}{n m:Nat}(h:c.ok n)(hm:n≤m):c.ok m:=⟨aa h.nv hm,aa h.nr hm,aa h.ne hm,aa h.ng hm,aa h.ns hm,aa h.nb hm,h.tr,h.te,h.ts,h.tb⟩
theorem eo.ok.P5{c:eo}{n m:Nat}{l:List yp}(h:c.ok n)(hm:n≤m)(a:l.length≤m)(b:∀x∈l,x.key.length≤40∧x.tx.length≤40):eo.ok ⟨c.v,l,c.e,c.g,c.s,c.b⟩ m:=⟨aa h.nv hm,a,aa h.ne hm,aa h.ng hm,aa h.ns hm,aa h.nb hm,b,h.te,h.ts,h.tb⟩
theorem eo.ok.P6{c:eo}{n m:Nat}{l:List qW}(h:c.ok n)(hm:n≤m)(a:l.length≤m)(b:∀x∈l,x.key.length≤40∧x.tx.length≤40):eo.ok ⟨c.v,c.r,l,c.g,c.s,c.b⟩ m:=⟨aa h.nv hm,aa h.nr hm,a,aa h.ng hm,aa h.ns hm,aa h.nb hm,h.tr,b,h.ts,h.tb⟩
theorem eo.ok.Zx{c:eo}{n m:Nat}{l:List D3}(h:c.ok n)(hm:n≤m)(a:l.length≤m):eo.ok ⟨c.v,c.r,c.e,l,c.s,c.b⟩ m:=⟨aa h.nv hm,aa h.nr hm,aa h.ne hm,a,aa h.ns hm,aa h.nb hm,h.tr,h.te,h.ts,h.tb⟩
theorem eo.ok.news{c:eo}{n m:Nat}{l:List yq}(h:c.ok n)(hm:n≤m)(a:l.length≤m)(b:∀x∈l,x.key.length≤40):eo.ok ⟨c.v,c.r,c.e,c.g,l,c.b⟩ m:=⟨aa h.nv hm,aa h.nr hm,aa h.ne hm,aa h.ng hm,a,aa h.nb hm,h.tr,h.te,b,h.tb⟩
theorem eo.ok.TO{c:eo}{n m:Nat}{l:List yr}(h:c.ok n)(hm:n≤m)(a:l.length≤m)(b:∀x∈l,x.tx.length≤40):eo.ok ⟨c.v,c.r,c.e,c.g,c.s,l⟩ m:=⟨aa h.nv hm,aa h.nr hm,aa h.ne hm,aa h.ng hm,aa h.ns hm,a,h.tr,h.te,h.ts,b⟩
theorem tp{α:Type}{p:α→Prop}{l:List α}{i:Nat}{y:α}(h:∀x∈l,p x)(b:p y):∀x∈l.set i y,p x:=fun x c=>by
 rcases List.mem_or_eq_of_mem_set c with a | a
 ·exact h x a
 ·rw[a];exact b
theorem yx{α:Type}{p:α→Prop}{l:List α}{i:Nat}{y:α}(h:∀x∈l,p x)(b:p y):∀x∈putAt l i y,p x:=fun x c=>by
 rcases Ln c with a | a
 ·rw[a];exact b
 ·exact h x a
section
variable {w w':V} {B:Nat} {z:dY} {c:eo}
theorem bB.G9{a:Option aB}{k:Nat}{l:List _}(h:bB w B z c)(b:w.grownBy w' (.slice z.r.1 c.r.length z.r.2:Z).ownBlock)(d:eJ.own w' B (.slice a l.length k) l):bB w' B ⟨z.v,(a,k),z.e,z.g,z.s,z.b⟩ ⟨c.v,l,c.e,c.g,c.s,c.b⟩:=
 ⟨h.v.apart h.r b aC,d,h.e.apart h.r b aC,h.g.apart h.r b aC,h.s.apart h.r b aC,h.b.apart h.r b aC⟩
theorem bB.G_{a:Option aB}{k:Nat}{l:List _}(h:bB w B z c)(b:w.grownBy w' (.slice z.e.1 c.e.length z.e.2:Z).ownBlock)(d:dD.own w' B (.slice a l.length k) l):bB w' B ⟨z.v,z.r,(a,k),z.g,z.s,z.b⟩ ⟨c.v,c.r,l,c.g,c.s,c.b⟩:=
 ⟨h.v.apart h.e b aC,h.r.apart h.e b aC,d,h.g.apart h.e b aC,h.s.apart h.e b aC,h.b.apart h.e b aC⟩
theorem bB.SP{a:Option aB}{k:Nat}{l:List _}(h:bB w B z c)(b:w.grownBy w' (.slice z.g.1 c.g.length z.g.2:Z).ownBlock)(d:cn.own w' B (.slice a l.length k) l):bB w' B ⟨z.v,z.r,z.e,(a,k),z.s,z.b⟩ ⟨c.v,c.r,c.e,l,c.s,c.b⟩:=
 ⟨h.v.apart h.g b aC,h.r.apart h.g b aC,h.e.apart h.g b aC,d,h.s.apart h.g b aC,h.b.apart h.g b aC⟩
theorem bB.MV{a:Option aB}{k:Nat}{l:List _}(h:bB w B z c)(b:w.grownBy w' (.slice z.s.1 c.s.length z.s.2:Z).ownBlock)(d:fh.own w' B (.slice a l.length k) l):bB w' B ⟨z.v,z.r,z.e,z.g,(a,k),z.b⟩ ⟨c.v,c.r,c.e,c.g,l,c.b⟩:=
 ⟨h.v.apart h.s b aC,h.r.apart h.s b aC,h.e.apart h.s b aC,h.g.apart h.s b aC,d,h.b.apart h.s b aC⟩
theorem bB.MW{a:Option aB}{k:Nat}{l:List _}(h:bB w B z c)(b:w.grownBy w' (.slice z.b.1 c.b.length z.b.2:Z).ownBlock)(d:eV.own w' B (.slice a l.length k) l):bB w' B ⟨z.v,z.r,z.e,z.g,z.s,(a,k)⟩ ⟨c.v,c.r,c.e,c.g,c.s,l⟩:=
 ⟨h.v.apart h.b b aC,h.r.apart h.b b aC,h.e.apart h.b b aC,h.g.apart h.b b aC,h.s.apart h.b b aC,d⟩
end
def Jh(w:V)(B:Nat)(n:Nat)(en:de)(w':V):Prop:=∃z c,en=.returned (.agg ⟨z.l c⟩)∧bB w' B z c∧c.ok n∧ae B w w'
structure eQ where
 ep:Int
 rd:Int
 ck:Int
 cd:Int
 cr:Int
 fe:Bool
 rq:Int
def eQ.gd(x:eQ):Prop:=(x.ck=0∨x.ck=1)∧x.rq=1
structure dH where
 c0:dY
 c1:dY
 c2:dY
 sb:AC
structure dV where
 c0:eo
 c1:eo
 c2:eo
def aF(x:eQ)(z:dH)(s:dV):List Z:=[.int .i64 1,.int .i64 x.ep,.int .i64 0,.int .i64 0,.int .i64 0,.int .i64 0,.slice J 0 0,.slice J 0 0,.slice J 0 0,.int .i64 0,.int .i64 0,.int .i64 0,.slice J 0 0,.slice z.c0.v.1 s.c0.v.length z.c0.v.2,.slice z.c0.r.1 s.c0.r.length z.c0.r.2,.slice z.c0.e.1 s.c0.e.length z.c0.e.2,.slice z.c0.g.1 s.c0.g.length z.c0.g.2,.slice z.c0.s.1 s.c0.s.length z.c0.s.2,.slice z.c0.b.1 s.c0.b.length z.c0.b.2,.slice z.c1.v.1 s.c1.v.length z.c1.v.2,.slice z.c1.r.1 s.c1.r.length z.c1.r.2,.slice z.c1.e.1 s.c1.e.length z.c1.e.2,.slice z.c1.g.1 s.c1.g.length z.c1.g.2,.slice z.c1.s.1 s.c1.s.length z.c1.s.2,.slice z.c1.b.1 s.c1.b.length z.c1.b.2,.slice z.c2.v.1 s.c2.v.length z.c2.v.2,.slice z.c2.r.1 s.c2.r.length z.c2.r.2,.slice z.c2.e.1 s.c2.e.length z.c2.e.2,.slice z.c2.g.1 s.c2.g.length z.c2.g.2,.slice z.c2.s.1 s.c2.s.length z.c2.s.2,.slice z.c2.b.1 s.c2.b.length z.c2.b.2,.int .i64 x.rd,.int .i64 3,.slice z.sb.1 3 z.sb.2,.int .i64 x.rq,.int .i64 0,.int .i64 x.ck,.int .i64 x.cd,.int .i64 0,.int .i64 x.cr,.int .i64 0,.slice J 0 0,.slice J 0 0,.bool x.fe,.int .i64 0]
structure eg(w:V)(B:Nat)(z:dH)(s:dV):Prop where
 c0:bB w B z.c0 s.c0
 c1:bB w B z.c1 s.c1
 c2:bB w B z.c2 s.c2
 sb:dz.own w B (.slice z.sb.1 3 z.sb.2) [O,O,O]
structure dV.ok(s:dV)(n:Nat):Prop where
 c0:s.c0.ok n
 c1:s.c1.ok n
 c2:s.c2.ok n
section
variable {w w':V} {B:Nat} {z:dH} {s:dV}
theorem eg.keep{C:Nat}(h:eg w B z s)(a:ae C w w')(b:w.heap.size≤C):eg w' B z s:=⟨h.c0.keep a b,h.c1.keep a b,h.c2.keep a b,h.sb.keep a b⟩
theorem eg.to{b2:Nat}(h:eg w B z s)(a:b2≤B):eg w b2 z s:=⟨h.c0.to a,h.c1.to a,h.c2.to a,h.sb.to a⟩
theorem eg.put(h:eg w B z s)(p:aB)(a:p.block<B)(u:Z):eg (w.setCell p u) B z s:=⟨h.c0.put p a u,h.c1.put p a u,h.c2.put p a u,h.sb.put p a u⟩
theorem eg.but{p:Nat}(h:eg w B z s)(a:But p w w')(b:p<B):eg w' B z s:=⟨h.c0.but a b,h.c1.but a b,h.c2.but a b,h.sb.but a b⟩
end
theorem Bx.to{w:V}{b:Nat}{cs a:List Z}{t:aN}(h:Bx w b cs t)(e:cs=a):Bx w b a t:=e▸h
theorem Bx.range{w:V}{b:Nat}{cs:List Z}{t:aN}(h:Bx w b cs t)(o:Nat)(l:List Z)(e:(cs.drop o).take l.length=l):w.rangeAt b o l:=by
 intro j v a;have c:w.heap[b]?=I (.cells ⟨cs⟩ t (0,0)):=h;have d:j<l.length:=(dT.1 a).1;rw[←e,fD,if_pos d,List.getElem?_drop]at a;simp only[an,c];simpa using a
theorem Bx.there{w:V}{b:Nat}{cs:List Z}{t:aN}(h:Bx w b cs t)(o n:Nat)(e:o+n≤cs.length):w.there b o n:=by
 intro j c;have a:w.heap[b]?=I (.cells ⟨cs⟩ t (0,0)):=h;refine⟨?_,h.aq _⟩;simp only[an,a];simp;omega
theorem Bx.EJ{b:Nat}{t:aN}:∀(vs:List Z)(o:Nat)(w:V)(cs:List Z),Bx w b cs t→o+vs.length≤cs.length→Bx (w.setCells b o vs) b (cs.take o++vs++cs.drop (o+vs.length)) t:=by
 intro vs
 induction vs with
 | nil=>intro o w cs h _;simpa[World.setCells]using h
 | cons c vs d=>
  intro o w cs h f;have g:o+(vs.length+1)≤cs.length:=f;have a:=d (o+1) _ _ (h.st o c) kc
  have e:(cs.set o c).take (o+1)++vs++(cs.set o c).drop (o+1+vs.length)=cs.take o++(c::vs)++cs.drop (o+(c::vs).length):=by
   rw[uU,List.drop_set,if_pos A,i_];rw[if_pos (by rw[bN];omega),kA,eR A,sY];simp[show o+1-(o+1)=0 by omega,j6,om 1]
  rw[e]at a;exact a
theorem But.EJ{b:Nat}:∀(vs:List Z)(o:Nat)(w:V),But b w (w.setCells b o vs):=by
 intro vs
 induction vs with
 | nil=>intro o w;exact But.refl _ _
 | cons c vs a=>intro o w;exact(But.set b o w c).trans (a (o+1) _)
def dH.at(z:dH):Nat→dY
 | 0=>z.c0
 | 1=>z.c1
 | _=>z.c2
def dV.at(s:dV):Nat→eo
 | 0=>s.c0
 | 1=>s.c1
 | _=>s.c2
def dH.to(z:dH)(i:Nat)(u:dY):dH:=
 match i with
 | 0=>⟨u,z.c1,z.c2,z.sb⟩
 | 1=>⟨z.c0,u,z.c2,z.sb⟩
 | _=>⟨z.c0,z.c1,u,z.sb⟩
def dV.to(s:dV)(i:Nat)(c:eo):dV:=
 match i with
 | 0=>⟨c,s.c1,s.c2⟩
 | 1=>⟨s.c0,c,s.c2⟩
 | _=>⟨s.c0,s.c1,c⟩
theorem iU{i:Nat}(hi:i<3):i=0∨i=1∨i=2:=A
theorem Ha(x:eQ)(z:dH)(s:dV){i:Nat}(hi:i<3):((aF x z s).drop (13+i*6)).take ((z.at i).l (s.at i)).length=(z.at i).l (s.at i):=by
 rcases iU hi with rfl | rfl | rfl<;>rfl
theorem MX(x:eQ)(z:dH)(s:dV)(u:dY)(c:eo){i:Nat}(hi:i<3):(aF x z s).take (13+i*6)++u.l c++(aF x z s).drop (13+i*6+(u.l c).length)=aF x (z.to i u) (s.to i c):=by
 rcases iU hi with rfl | rfl | rfl<;>rfl
section
variable {w w':V} {B:Nat} {z:dH} {s:dV} {i:Nat}
theorem eg.at(h:eg w B z s)(hi:i<3):bB w B (z.at i) (s.at i):=by
 rcases iU hi with rfl | rfl | rfl
 ·exact h.c0
 ·exact h.c1
 ·exact h.c2
theorem eg.turn{u:dY}{c:eo}(h:eg w B z s)(a:bB w B u c)(hi:i<3):eg w B (z.to i u) (s.to i c):=by
 rcases iU hi with rfl | rfl | rfl
 ·exact⟨a,h.c1,h.c2,h.sb⟩
 ·exact⟨h.c0,a,h.c2,h.sb⟩
 ·exact⟨h.c0,h.c1,a,h.sb⟩
theorem dV.ok.at{N:Nat}(h:s.ok N)(hi:i<3):(s.at i).ok N:=by
 rcases iU hi with rfl | rfl | rfl
 ·exact h.c0
 ·exact h.c1
 ·exact h.c2
theorem dV.ok.up{N b:Nat}(h:s.ok N)(a:N≤b):s.ok b:=⟨h.c0.up a,h.c1.up a,h.c2.up a⟩
theorem dV.ok.turn{c:eo}{N d:Nat}(h:s.ok N)(b:N≤d)(a:c.ok d)(hi:i<3):(s.to i c).ok d:=by
 have h:=h.up b;rcases iU hi with rfl | rfl | rfl
 ·exact⟨a,h.c1,h.c2⟩
 ·exact⟨h.c0,a,h.c2⟩
 ·exact⟨h.c0,h.c1,a⟩
end
theorem dV.Lo(s:dV){i:Nat}(hi:i<3):s.to i (s.at i)=s:=by rcases iU hi with rfl | rfl | rfl<;>rfl
theorem dH.Lo(z:dH)(u:dY){i:Nat}(hi:i<3):(z.to i u).at i=u:=by rcases iU hi with rfl | rfl | rfl<;>rfl
theorem dH.YE(z:dH)(u:dY){i j:Nat}(hi:i<3)(a:j<3)(h:j≠i):(z.to i u).at j=z.at j:=by
 rcases iU hi with rfl | rfl | rfl<;>rcases iU a with rfl | rfl | rfl<;>first | rfl | exact absurd rfl h
theorem dH.YF(z:dH)(u:dY){i:Nat}(hi:i<3):(z.to i u).sb=z.sb:=by rcases iU hi with rfl | rfl | rfl<;>rfl
structure Ow(w wr:V)(b k:Nat)(x:eQ)(y:dH)(s:dV):Prop where
 bx:Bx wr b (aF x y s) 55
 co:∀i,i<3→i<k→bB wr (b+2) (y.at i) (s.at i)
 sb:dz.own wr (b+2) (.slice y.sb.1 3 y.sb.2) [O,O,O]
 z:∃cs:Array Z,cs.size=45∧wr.heap[b+1]?=I (.cells cs 55 (0,0))
 bl:ae b w wr
 sz:b+2≤wr.heap.size
def P7(w:V)(x:eQ)(s:dV)(en:de)(w':V):Prop:=∃z,en=.returned (.agg ⟨aF x z s⟩)∧eg w' w.heap.size z s∧ae w.heap.size w w'
theorem iB(w:V)(B:Nat)(x:eQ)(z:dH)(s:dV)(N:Nat)(h:eg w B z s)(hf:s.ok N)(hN:N<99000):ar M 72 #[.agg ⟨aF x z s⟩] w (P7 w x s):=by
 obtain⟨b,hb⟩:∃b,w.heap.size=b:=⟨_,rfl⟩;obtain⟨W,hW⟩:∃W,(w.alloc (.cells ⟨aF x z s⟩ 55)).alloc (.cells sL 55)=W:=⟨_,rfl⟩;have q:Hid (ae b w W):=D (by rw[←hW,←hb];exact((aD _ _).alloc (G _) _).alloc bW _);have a:Hid (b+2≤W.heap.size):=D (by rw[←hW,←hb];simp);have HK:Hid (W.heap[b]?=I (.cells ⟨aF x z s⟩ 55 (0,0))):=D (by rw[←hW,←hb];exact ce _ _ _);have j:Hid (∃cs:Array Z,cs.size=45∧W.heap[b+1]?=I (.cells cs 55 (0,0))):=D ⟨_,rfl,by rw[←hW,←hb];exact bO _ _ _⟩;have b0:=D h;have F:=D (h.keep (by rw[←hW];exact((aD _ _).alloc (G _) _).alloc bW _:ae w.heap.size w W) (G _));have HF:=D hf;have HN:=D hN;have HW:=D hW;have HE:=D hb;clear hW hb h hf hN
 go_enter func72,ntmps72
 go_upto_region 1 with fail
 rw[HW.o,HE.o];clear HW;obtain⟨W1,u⟩:∃W1,W.drew=W1:=⟨_,rfl⟩;have K:ae W.heap.size W W1:=by rw[←u];exact(aD _ _).drew
 have q:Hid (ae b w W1):=D (q.o.trans (K.mono (by have:=a.o;omega)));have a:Hid (b+2≤W1.heap.size):=D (aa a.o K.size);have F:=D (F.o.keep K (G _));have j:Hid (∃cs:Array Z,cs.size=45∧W1.heap[b+1]?=I (.cells cs 55 (0,0))):=D (by rw[←u];exact j.o);have p:W1.heap[b]?=I (.cells ⟨aF x z s⟩ 55 (0,0)):=by rw[←u];exact HK.o
 refine bT 7 (fun w'=>w'.heap[b]?=I (.cells ⟨aF x z s⟩ 55 (0,0))) aj ?_;rw[u];clear u K HK;refine stP 0 (.pointer (I ⟨b,2,J⟩)) p ?_;refine lT 1 (.agg ka) rfl rfl (.inl ⟨rfl,fun w' hw=>?_⟩) p ?_
 ·have d:=Bx.has (cs:=aF x z s) hw 45 rfl
  simp only[aF]at d;go_simp
 refine stP 3 (.pointer (I ⟨b,33,J⟩)) p ?_;refine lT 4 (.slice z.sb.1 3 z.sb.2) rfl rfl (.inl ⟨rfl,fun w' hw=>?_⟩) p ?_
 ·have d:=Bx.has (cs:=aF x z s) hw 45 rfl
  simp only[aF]at d;go_simp
 refine f_ 2 ?_;go_simp;refine(Li _).mono ?_;rintro en w9 ⟨rfl,b9⟩;have p:=(b9.block b (by have:=a.o;omega)).trans p;have j:Hid (∃cs:Array Z,cs.size=45∧w9.heap[b+1]?=I (.cells cs 55 (0,0))):=D (by obtain⟨cs,L,P⟩:=j.o;exact⟨cs,L,(b9.block _ (by have:=a.o;omega)).trans P⟩);have F:=D (F.o.keep b9 (G _));have q:=D (q.o.trans (b9.mono (by have:=a.o;omega)));have a:=D (aa a.o b9.size);clear b9;refine⟨p,?_⟩;refine stP 6 (.pointer (I ⟨b,2,J⟩)) p ?_;refine f_ 5 ?_;go_simp;refine(CI _ _ [O,O,O] F.o.sb.sl aC).mono ?_;rintro en C ⟨v9,rfl,o9,b9⟩;obtain⟨sa,sk,rfl,-,-⟩:=o9.shape;have r:Hid (dz.own C (b+2) (.slice sa 3 sk) [O,O,O]):=D (o9.to a.o);have p:=(b9.block b (by have:=a.o;omega)).trans p;have j:Hid (∃cs:Array Z,cs.size=45∧C.heap[b+1]?=I (.cells cs 55 (0,0))):=D (by obtain⟨cs,L,P⟩:=j.o;exact⟨cs,L,(b9.block _ (by have:=a.o;omega)).trans P⟩);have F:=D (F.o.keep b9 (G _));have q:=D (q.o.trans (b9.mono (by have:=a.o;omega)));have a:=D (aa a.o b9.size);clear o9 b9;refine⟨p,?_⟩;have l0:=D p;have d:=Bx.has (cs:=aF x z s) p 45 rfl;have f:=Bx.aq (cs:=aF x z s) p;simp only[aF]at d;refine dK 7 ?_;go_simp;refine dK 8 ?_;go_simp;refine dK 9 ?_;go_simp;refine jj ?_;clear d f p;obtain⟨H,Q⟩:∃H,((((((((C.setCell ⟨b,2,J⟩ (.int .i64 0)).setCell ⟨b,3,J⟩ (.int .i64 0)).setCell ⟨b,4,J⟩ (.int .i64 0)).setCell ⟨b,5,J⟩ (.int .i64 0)).setCell ⟨b,6,J⟩ (.slice J 0 0)).setCell ⟨b,7,J⟩ (.slice J 0 0)).setCell ⟨b,8,J⟩ (.slice J 0 0)).setCell ⟨b,33,J⟩ (.slice sa 3 sk))=H:=⟨_,rfl⟩
 have c:But b C H:=by
  rw[←Q]
  repeat (refine But.trans ?_ (But.set _ _ _ _))
  exact But.refl _ _
 have t:Hid (Bx H b (aF x ⟨z.c0,z.c1,z.c2,(sa,sk)⟩ s) 55):=D (by
  rw[←Q]
  refine Bx.to (((((((((show Bx C b (aF x z s) 55 from l0.o).st 2 _).st 3 _).st 4 _).st 5 _).st 6 _).st 7 _).st 8 _).st 33 _) eZ)
 have j:Hid (∃cs:Array Z,cs.size=45∧H.heap[b+1]?=I (.cells cs 55 (0,0))):=D (by obtain⟨cs,L,P⟩:=j.o;exact⟨cs,L,(c.block _ (by have:=a.o;omega) A).trans P⟩);have q:Hid (ae b w H):=D (q.o.trans (c.below (by have:=a.o;omega) (G _)));have a:Hid (b+2≤H.heap.size):=D (aa a.o c.size);rw[Q];have r:=D (r.o.but c A);have F:Hid (eg H B z s):=D (b0.o.keep q.o (bD HE.o));have d:=Bx.has t.o 45 rfl;have f:=Bx.aq t.o;simp only[aF]at d;clear Q c;go_upto_region 3 with((go_at_call 115;refine(Oa _).mono ?_);rintro en A0 ⟨rfl,e0⟩;rw[e0];clear e0)
 clear d f;obtain⟨o,n⟩:∃o,(H.setCell ⟨b,12,J⟩ (.slice J 0 0))=o:=⟨_,rfl⟩
 have c:But b H o:=by
  rw[←n]
  repeat (refine But.trans ?_ (But.set _ _ _ _))
  exact But.refl _ _
 have t:Hid (Bx o b (aF x ⟨z.c0,z.c1,z.c2,(sa,sk)⟩ s) 55):=D (by
  rw[←n]
  refine Bx.to (t.o.st 12 _) eZ)
 have j:Hid (∃cs:Array Z,cs.size=45∧o.heap[b+1]?=I (.cells cs 55 (0,0))):=D (by obtain⟨cs,L,P⟩:=j.o;exact⟨cs,L,(c.block _ (by have:=a.o;omega) A).trans P⟩);have q:Hid (ae b w o):=D (q.o.trans (c.below (by have:=a.o;omega) (G _)));have a:Hid (b+2≤o.heap.size):=D (aa a.o c.size);rw[n];have r:=D (r.o.but c A);have F:Hid (eg o B z s):=D (b0.o.keep q.o (bD HE.o));have d:=Bx.has t.o 45 rfl;simp only[aF]at d;clear n c;go_wp2
 go_loopw[22] (fun v wr=>v=.int .i64 0∧wr=o) (fun _ _=>0)
 case atStart=>exact⟨rfl,rfl⟩
 case round=>
  obtain⟨rfl,m0⟩:=hrel;subst m0;obtain⟨V3,n0⟩:∃V3,wr=V3:=⟨_,rfl⟩;subst n0;clear d;go_upto_region 8 with fail
  have o0:Hid (Ow w wr b 0 x ⟨z.c0,z.c1,z.c2,(sa,sk)⟩ s):=D ⟨t.o,fun i _ h=>absurd h A,r.o,j.o,q.o,a.o⟩;go_wp2_with ((with_reducible refine aT 35 ?_);refine j_ rfl _ (.tmp 34) rfl b 13 rfl (TE z.c0.v.1 s.c0.v.length z.c0.v.2 z.c0.r.1 s.c0.r.length z.c0.r.2 z.c0.e.1 s.c0.e.length z.c0.e.2 z.c0.g.1 s.c0.g.length z.c0.g.2 z.c0.s.1 s.c0.s.length z.c0.s.2 z.c0.b.1 s.c0.b.length z.c0.b.2 z.c1.v.1 s.c1.v.length z.c1.v.2 z.c1.r.1 s.c1.r.length z.c1.r.2 z.c1.e.1 s.c1.e.length z.c1.e.2 z.c1.g.1 s.c1.g.length z.c1.g.2 z.c1.s.1 s.c1.s.length z.c1.s.2 z.c1.b.1 s.c1.b.length z.c1.b.2 z.c2.v.1 s.c2.v.length z.c2.v.2 z.c2.r.1 s.c2.r.length z.c2.r.2 z.c2.e.1 s.c2.e.length z.c2.e.2 z.c2.g.1 s.c2.g.length z.c2.g.2 z.c2.s.1 s.c2.s.length z.c2.s.2 z.c2.b.1 s.c2.b.length z.c2.b.2) _ (t.o.range 13 _ eZ) underlying48 rfl aj ?_)
  clear t r j F
  go_loopw[36] (fun vk wr=>∃(k:Nat)(y:dH),vk=.int .i64 k∧Hid (k≤3)∧Hid (Ow w wr b k x y s)) (fun vk _=>3-(intOf vk).toNat)
  case atStart=>exact⟨0,⟨z.c0,z.c1,z.c2,(sa,sk)⟩,rfl,D A,o0⟩
  case round=>
   obtain⟨k,y,rfl,HK,l⟩:=hrel;rcases aL k 3 with m | m
   ·have B0:(k:Int)<3:=A
    have e9:bi ((k:Int)+1)=(k:Int)+1:=ag _ A;have R:ae wr.heap.size wr (wr.alloc (.cells (di (z.at k).v.1 (s.at k).v.length (z.at k).v.2 (z.at k).r.1 (s.at k).r.length (z.at k).r.2 (z.at k).e.1 (s.at k).e.length (z.at k).e.2 (z.at k).g.1 (s.at k).g.length (z.at k).g.2 (z.at k).s.1 (s.at k).s.length (z.at k).s.2 (z.at k).b.1 (s.at k).b.length (z.at k).b.2) 47)):=(aD _ _).alloc (G _) _;have f0:=al wr (.cells (di (z.at k).v.1 (s.at k).v.length (z.at k).v.2 (z.at k).r.1 (s.at k).r.length (z.at k).r.2 (z.at k).e.1 (s.at k).e.length (z.at k).e.2 (z.at k).g.1 (s.at k).g.length (z.at k).g.2 (z.at k).s.1 (s.at k).s.length (z.at k).s.2 (z.at k).b.1 (s.at k).b.length (z.at k).b.2) 47);obtain⟨c0,c1,c2,c3,c4,c5⟩:=ah f0;have S:=D (l.o.bx.keep R (by have:=l.o.sz;omega));have p0:=D ((b0.o.at m).keep (l.o.bl.trans (R.mono (by have:=l.o.sz;omega))) (bD HE.o));have T:=D R;have q0:∀w:V,(Instr.index 48 (.agg #[.slice z.c0.v.1 s.c0.v.length z.c0.v.2,.slice z.c0.r.1 s.c0.r.length z.c0.r.2,.slice z.c0.e.1 s.c0.e.length z.c0.e.2,.slice z.c0.g.1 s.c0.g.length z.c0.g.2,.slice z.c0.s.1 s.c0.s.length z.c0.s.2,.slice z.c0.b.1 s.c0.b.length z.c0.b.2,.slice z.c1.v.1 s.c1.v.length z.c1.v.2,.slice z.c1.r.1 s.c1.r.length z.c1.r.2,.slice z.c1.e.1 s.c1.e.length z.c1.e.2,.slice z.c1.g.1 s.c1.g.length z.c1.g.2,.slice z.c1.s.1 s.c1.s.length z.c1.s.2,.slice z.c1.b.1 s.c1.b.length z.c1.b.2,.slice z.c2.v.1 s.c2.v.length z.c2.v.2,.slice z.c2.r.1 s.c2.r.length z.c2.r.2,.slice z.c2.e.1 s.c2.e.length z.c2.e.2,.slice z.c2.g.1 s.c2.g.length z.c2.g.2,.slice z.c2.s.1 s.c2.s.length z.c2.s.2,.slice z.c2.b.1 s.c2.b.length z.c2.b.2]) (.int .i64 k)).run M w=.ok (.agg (di (z.at k).v.1 (s.at k).v.length (z.at k).v.2 (z.at k).r.1 (s.at k).r.length (z.at k).r.2 (z.at k).e.1 (s.at k).e.length (z.at k).e.2 (z.at k).g.1 (s.at k).g.length (z.at k).g.2 (z.at k).s.1 (s.at k).s.length (z.at k).s.2 (z.at k).b.1 (s.at k).b.length (z.at k).b.2)) w:=by rcases iU m with rfl | rfl | rfl<;>exact fun w=>by kernel_rfl
    clear f0 R
    go_upto_region 12 with(first
     | ((go_at_call 135;refine(Lk _ B (z.at k) (s.at k) p0.o ((HF.o.at m).few (by have:=HN.o;omega))).mono ?_);rintro en wq ⟨g,rfl,g0,d0⟩;have E:=D (T.o.trans (d0.mono T.o.size));have r0:=D (g0.to (show b+2≤_ by have:=l.o.sz;have:=T.o.size;omega));have S:=D (S.o.keep d0 (by have:=l.o.sz;have:=T.o.size;omega));clear g0 d0)
     | (refine wpList_store_mid rfl _ (.tmp 44) (.tmp 42) rfl b (13+k*6) (di g.v.1 (s.at k).v.length g.v.2 g.r.1 (s.at k).r.length g.r.2 g.e.1 (s.at k).e.length g.e.2 g.g.1 (s.at k).g.length g.g.2 g.s.1 (s.at k).s.length g.s.2 g.b.1 (s.at k).b.length g.b.2) rfl rfl (S.o.there (13+k*6) 6 (by show 13+k*6+6≤45;omega)) aj (by simp[ap]) ?_))
    obtain⟨D0,X⟩:∃D0,wq.setCells b (13+k*6) ((di g.v.1 (s.at k).v.length g.v.2 g.r.1 (s.at k).r.length g.r.2 g.e.1 (s.at k).e.length g.e.2 g.g.1 (s.at k).g.length g.g.2 g.s.1 (s.at k).s.length g.s.2 g.b.1 (s.at k).b.length g.b.2):Array Z).toList=D0:=⟨_,rfl⟩;have c:But b wq D0:=by rw[←X];exact But.EJ _ _ _
    have s0:Hid (Ow w D0 b (k+1) x (y.to k g) s):=D (by
     have t0:b+2≤wq.heap.size:=by have:=l.o.sz;have:=E.o.size;omega
     refine⟨?_,fun i hi C0=>?_,by rw[dH.YF y g m];exact(l.o.sb.keep E.o (G _)).but c A,?_,(l.o.bl.trans (E.o.mono (by have:=l.o.sz;omega))).trans (c.below A (G _)),aa t0 c.size⟩
     ·rw[←X]
      exact Bx.to (Bx.EJ _ (13+k*6) wq _ S.o (by show 13+k*6+6≤45;omega)) (by have h:=MX x y s g (s.at k) m;rw[dV.Lo s m]at h;exact h)
     ·by_cases e:i=k
      ·subst e
       rw[dH.Lo y g m];exact r0.o.but c A
      ·rw[dH.YE y g m hi e]
       exact((l.o.co i hi A).keep E.o (G _)).but c A
     ·obtain⟨cs,L,P⟩:=l.o.z
      exact⟨cs,L,(c.block _ A A).trans ((E.o.block _ (by have:=l.o.sz;omega)).trans P)⟩)
    rw[X];clear X c q0;go_wp2;go_roundw
    case rel=>exact⟨k+1,_,by go_num,D A,s0⟩
    case measure=>exact bA m _ eT
   ·have v0:k=3:=by have:=HK.o;omega
    subst v0;have d:=Bx.has l.o.bx 45 rfl;have f:=Bx.aq l.o.bx;simp only[aF]at d;go_upto_region 14 with((go_at_call 131;refine(Lh _).mono ?_);rintro en wq ⟨rfl,hq⟩;rw[hq];clear hq)
    clear d f;obtain⟨D0,X⟩:∃D0,wr.setCell ⟨b,41,J⟩ (.slice J 0 0)=D0:=⟨_,rfl⟩;have t:Hid (Bx D0 b (aF x y s) 55):=D (by rw[←X];exact Bx.to (l.o.bx.st 41 _) eZ);have c:But b wr D0:=by rw[←X];exact But.set _ _ _ _
    rw[X];clear X;have d:=Bx.has t.o 45 rfl;have f:=Bx.aq t.o;simp only[aF]at d;go_upto_region 15 with fail
    clear d f;obtain⟨o,n⟩:∃o,D0.setCell ⟨b,42,J⟩ (.slice J 0 0)=o:=⟨_,rfl⟩;have w0:Hid (Bx o b (aF x y s) 55):=D (by rw[←n];exact Bx.to (t.o.st 42 _) eZ);have a0:Hid (But b wr o):=D (c.trans (by rw[←n];exact But.set _ _ _ _));obtain⟨cs,h0,i0⟩:=l.o.z;have j0:Hid (o.heap[b+1]?=I (.cells cs 55 (0,0))):=D ((a0.o.block _ (by have:=l.o.sz;omega) A).trans i0);have x0:=D h0;rw[n];clear n c h0 i0
    go_wp2_with (first
     | ((with_reducible refine aT 54 ?_);refine wpList_load_row rfl _ (.tmp 1) rfl b rfl _ _ (0,0) _ w0.o underlying55 rfl aj ?_)
     | (refine aJ rfl _ (.tmp 2) (.tmp 54) rfl (b+1) _ rfl rfl _ _ j0.o aj (by rw[x0.o];rfl) (by simp[aF,ap]) ?_))
    have k0:But (b+1) o (o.setRow (b+1) ⟨aF x y s⟩):=⟨rfl,rfl,rfl,by simp[cV],fun k _ y0=>setRow_other o (b+1) k _ y0⟩;refine au (v:=.agg ⟨aF x y s⟩) (eb results72 _ _ (b+1) 55 ⟨aF x y s⟩ (0,0) _ rfl (aO _ _ _ _ _ _ j0.o) underlying55 rfl aj) rfl ?_;have z0:eg wr (b+2) y s:=⟨l.o.co 0 A A,l.o.co 1 A A,l.o.co 2 A A,l.o.sb⟩;refine⟨y,rfl,?_,?_⟩
    ·rw[HE.o]
     exact((z0.but a0.o A).but k0 A).to A
    ·rw[HE.o]
     exact(l.o.bl.trans (a0.o.below (by have:=l.o.sz;omega) (G _))).trans (k0.below (by have:=l.o.sz;have:=a0.o.size;omega) A)
def But.row{w:V}{b:Nat}(c:Array Z):But b w (w.setRow b c):=⟨rfl,rfl,rfl,by simp[cV],fun k _ a=>setRow_other w b k _ a⟩
def Bx.row{w:V}{b:Nat}{cs:List Z}{t:aN}(h:Bx w b cs t)(c:List Z):Bx (w.setRow b ⟨c⟩) b c t:=aO _ _ _ _ _ _ h
def Hb(w:V)(x:eQ)(s:dV)(e:Int)(en:de)(w':V):Prop:=∃z,en=.returned (.tuple #[.agg ⟨aF x z s⟩,.int .i64 e])∧eg w' w.heap.size z s∧ae w.heap.size w w'
def Of(w:V)(B:Nat)(x:eQ)(z:dH)(s:dV)(N:Nat)(h:eg w B z s)(P:s.ok N)(Q:N<99000):ar M 25 #[.agg ⟨aF x z s⟩,.int .i64 0] w (Hb w x s 0):=by
 obtain⟨b,l⟩:∃b,w.heap.size=b:=⟨_,rfl⟩;obtain⟨W,g⟩:∃W,(w.alloc (.cells ⟨aF x z s⟩ 55)).alloc (.cells sL 55)=W:=⟨_,rfl⟩;have C:Hid (ae b w W):=D (by rw[←g,←l];exact((aD _ _).alloc (G _) _).alloc bW _);have a:Hid (b+2≤W.heap.size):=D (by rw[←g,←l];simp);have e:Hid (Bx W b (aF x z s) 55):=D (by rw[←g,←l];exact ce _ _ _);have i:Hid (∃cs:Array Z,cs.size=45∧W.heap[b+1]?=I (.cells cs 55 (0,0))):=D ⟨_,rfl,by rw[←g,←l];exact bO _ _ _⟩;have S:=D (h.keep (by rw[←g];exact((aD _ _).alloc (G _) _).alloc bW _:ae w.heap.size w W) (G _));have HF:=D P;have T:=D Q;have R:=D g;have E:=D l;clear g l h P Q
 go_enter func25,ntmps25
 go_upto_block 0 with fail
 rw[R.o,E.o];clear R;have j:W.cell? ⟨b,44,J⟩=I (.int .i64 0):=e.o.has 45 rfl 44 aC
 go_upto_region 6 with(first
  | ((with_reducible refine aT 23 ?_);refine wpList_load_row rfl _ (.tmp 2) rfl b rfl _ _ (0,0) _ e.o underlying55 rfl aj ?_)
  | ((go_at_call 72;refine(iB W B x z s N S.o HF.o T.o).mono ?_);rintro en t ⟨y,rfl,m,d⟩;have e:=D (e.o.keep d (by have:=a.o;omega));have F:=D (m.to a.o);have i:Hid (∃cs:Array Z,cs.size=45∧t.heap[b+1]?=I (.cells cs 55 (0,0))):=D (by obtain⟨cs,X,h2⟩:=i.o;exact⟨cs,X,(d.block _ (by have:=a.o;omega)).trans h2⟩);have C:=D (C.o.trans (d.mono (by have:=a.o;omega)));have a:=D (aa a.o d.size);clear m d j)
  | (refine aJ rfl _ (.tmp 2) (.tmp 24) rfl (b) _ rfl rfl _ _ e.o aj (rfl) (by simp[aF,ap]) ?_))
 obtain⟨a0,u⟩:∃a0,t.setRow b ⟨aF x y s⟩=a0:=⟨_,rfl⟩;have n:But b t a0:=by rw[←u];exact But.row _
 have e:Hid (Bx a0 b (aF x y s) 55):=D (by rw[←u];exact e.o.row _);have c:=D n;rw[u];clear u n;have j:a0.cell? ⟨b,44,J⟩=I (.int .i64 0):=e.o.has 45 rfl 44 aC;have H:=e.o.aq 44;go_upto_region 7 with fail
 obtain⟨k,f⟩:∃k,a0.setCell ⟨b,44,J⟩ (.int .i64 0)=k:=⟨_,rfl⟩;have K:Hid (Bx k b (aF x y s) 55):=D (by rw[←f];exact Bx.to (e.o.st 44 _) eZ);have c:Hid (But b t k):=D (c.o.trans (by rw[←f];exact But.set _ _ _ _));obtain⟨cs,o,p⟩:=i.o;have q:Hid (k.heap[b+1]?=I (.cells cs 55 (0,0))):=D ((c.o.block _ (by have:=a.o;omega) A).trans p);have L:=D o;rw[f];clear f o p j H
 go_wp2_with (first
  | ((with_reducible refine aT 30 ?_);refine wpList_load_row rfl _ (.tmp 2) rfl b rfl _ _ (0,0) _ K.o underlying55 rfl aj ?_)
  | (refine aJ rfl _ (.tmp 4) (.tmp 30) rfl (b+1) _ rfl rfl _ _ q.o aj (by rw[L.o];rfl) (by simp[aF,ap]) ?_))
 have r:But (b+1) k (k.setRow (b+1) ⟨aF x y s⟩):=But.row _;refine au (v:=.tuple #[.agg ⟨aF x y s⟩,.int .i64 0]) (results_cell_tmp results25 _ _ (b+1) 55 ⟨aF x y s⟩ (0,0) _ rfl (aO _ _ _ _ _ _ q.o) underlying55 rfl aj) rfl ?_;refine⟨y,rfl,?_,?_⟩
 ·rw[E.o]
  exact((F.o.but c.o A).but r A).to A
 ·rw[E.o]
  exact(C.o.trans (c.o.below (by have:=a.o;omega) (G _))).trans (r.below (by have:=a.o;have:=c.o.size;omega) A)
structure Kp(w:V)(B k j:Nat)(x:eQ)(z:dH)(s:dV):Prop where
 bx:Bx w k (.pointer (I ⟨j,0,J⟩)::aF x z s) 92
 st:eg w B z s
def wK(w:V)(B k j:Nat)(x:eQ)(z:dH)(s:dV)(N:Nat)(h:Kp w B k j x z s)(K:s.ok N)(L:N<99000):ar M 9 #[.pointer (I ⟨k,0,J⟩)] w (P7 w x s):=by
 obtain⟨b,l⟩:∃b,w.heap.size=b:=⟨_,rfl⟩;obtain⟨W,m⟩:∃W,w.alloc (.cells sL 55)=W:=⟨_,rfl⟩;have c:ae w.heap.size w W:=by rw[←m];exact(aD _ _).alloc (G _) _
 have u:Hid (ae b w W):=D (by rw[←l];exact c);have a:Hid (b+1≤W.heap.size):=D (by rw[←m,←l];simp);have C:Hid (Bx W k (.pointer (I ⟨j,0,J⟩)::aF x z s) 92):=D (h.bx.keep c (br h.bx).1);have f:Hid (∃cs:Array Z,cs.size=45∧W.heap[b]?=I (.cells cs 55 (0,0))):=D ⟨_,rfl,by rw[←m,←l];exact al w _⟩;have Q:=D (h.st.keep c (G _));have HF:=D K;have R:=D L;have P:=D m;have E:=D l;clear m l h K L c
 go_enter func9,ntmps9
 go_upto_region 1 with fail
 rw[P.o,E.o];clear P
 go_upto_region 2 with(first
  | ((with_reducible refine aT 10 ?_);refine j_ rfl _ (.tmp 9) rfl k 1 rfl (aF x z s) _ (C.o.range 1 _ eZ) underlying55 rfl aj ?_)
  | ((go_at_call 25;refine(Of W B x z s N Q.o HF.o R.o).mono ?_);rintro en d ⟨y,rfl,n,e⟩;have F:=D (n.to a.o);have f:Hid (∃cs:Array Z,cs.size=45∧d.heap[b]?=I (.cells cs 55 (0,0))):=D (by obtain⟨cs,S,T⟩:=f.o;exact⟨cs,S,(e.block _ (by have:=a.o;omega)).trans T⟩);have u:=D (u.o.trans (e.mono (by have:=a.o;omega)));have a:=D (aa a.o e.size);clear n e)
  | (refine aJ rfl _ (.tmp 3) (.tmp 12) rfl d.heap.size _ rfl rfl _ _ (al d _) aj rfl (by simp[aF,ap]) ?_;rw[dX]))
 obtain⟨a0,t⟩:∃a0,d.alloc (.cells ⟨aF x y s⟩ 55)=a0:=⟨_,rfl⟩;have g:ae d.heap.size d a0:=by rw[←t];exact(aD _ _).alloc (G _) _
 have X:Hid (Bx a0 d.heap.size (aF x y s) 55):=D (by rw[←t];exact al d _);have i:=D g;obtain⟨cs,o,p⟩:=f.o;have q:Hid (a0.heap[b]?=I (.cells cs 55 (0,0))):=D ((g.block _ (by have:=a.o;omega)).trans p);have H:=D o;rw[t];clear t o p g
 go_wp2_with (first
  | ((with_reducible refine aT 14 ?_);refine wpList_load_row rfl _ (.tmp 3) rfl d.heap.size rfl _ _ (0,0) _ X.o underlying55 rfl aj ?_)
  | (refine aJ rfl _ (.tmp 2) (.tmp 14) rfl (b) _ rfl rfl _ _ q.o aj (by rw[H.o];rfl) (by simp[aF,ap]) ?_))
 have r:But b a0 (a0.setRow b ⟨aF x y s⟩):=But.row _;refine au (v:=.agg ⟨aF x y s⟩) (eb results9 _ _ b 55 ⟨aF x y s⟩ (0,0) _ rfl (aO _ _ _ _ _ _ q.o) underlying55 rfl aj) rfl ?_;refine⟨y,rfl,?_,?_⟩
 ·rw[E.o]
  exact((F.o.keep i.o (G _)).but r A).to A
 ·rw[E.o]
  exact(u.o.trans (i.o.mono (by have:=a.o;omega))).trans (r.below (by have:=a.o;have:=i.o.size;omega) (G _))
def MY(f:Z)(w:V):ar M 91 #[.slice J 0 0,f] w (fun e w'=>e=.returned (.int .i64 (-1))∧w'=w):=by
 go_enter func91,ntmps91
 go_wp2
 go_loopw[8] (fun v wr=>v=.int .i64 0∧wr=w) (fun _ _=>0)
 case atStart=>exact⟨rfl,rfl⟩
 case round=>
  obtain⟨rfl,rfl⟩:=hrel;go_wp2;go_ret;exact⟨rfl,rfl⟩
def MZ(f:Z)(w:V):ar M 155 #[.slice J 0 0,f] w (fun e w'=>e=.returned (.slice J 0 0)∧w'=w):=by
 go_enter func155,ntmps155
 go_wp2_with ((go_at_call 91;refine(MY _ _).mono ?_);rintro en b ⟨rfl,a⟩;rw[a];clear a)
 go_ret;exact⟨rfl,rfl⟩
structure KI where
 ts:aN
 te:aN
 E:Nat
 Og:Nat
 z:Z
 f:FuncId
 o:FuncId
abbrev CN:KI:=⟨41,204,7,72,.agg #[.string ⟨#[]⟩,.string ⟨#[]⟩,.int .i64 0,.int .i64 0,.int .i64 0,.int .i64 0,.int .i64 0],226,276⟩
abbrev CO:KI:=⟨42,206,6,64,.agg TG,233,282⟩
abbrev CP:KI:=⟨43,73,3,24,.agg #[.int .i64 0,.int .i64 0,.int .i64 0],234,284⟩
abbrev CQ:KI:=⟨44,208,2,24,.agg #[.string ⟨#[]⟩,.int .i64 0],238,289⟩
abbrev CR:KI:=⟨45,210,6,56,.agg #[.int .i64 0,.string ⟨#[]⟩,.int .i64 0,.int .i64 0,.int .i64 0,.int .i64 0],240,293⟩
def KI.ok(K:KI):Prop:=K=CN∨K=CO∨K=CP∨K=CQ∨K=CR
section
variable {K:KI} (hK:K.ok)
include hK
theorem KI.ok.u: prog.underlying K.ts=I (.slice K.te):=by
 rcases hK with rfl | rfl | rfl | rfl | rfl
 ·exact underlying41
 ·exact underlying42
 ·exact underlying43
 ·exact underlying44
 ·exact underlying45
theorem KI.ok.i:(prog.info? K.te).map (fun i=>(i.zero,i.size,i.bytes))=I (I K.z,K.E,K.Og):=by
 rcases hK with rfl | rfl | rfl | rfl | rfl<;>kernel_rfl
theorem KI.ok.zs:K.z.cells.size=K.E:=by
 rcases hK with rfl | rfl | rfl | rfl | rfl<;>rfl
theorem KI.ok.p:0<K.E:=by
 rcases hK with rfl | rfl | rfl | rfl | rfl<;>decide
theorem KI.ok.b:K.Og≤1000:=by
 rcases hK with rfl | rfl | rfl | rfl | rfl<;>decide
end
theorem Hc{K:KI}(hK:K.ok)(v:Z)(n:Nat)(f c:List Z)(w:V)(B g:Nat)(a:w.ownsRow B K.te K.E v n f)(i:∀u∈c,u.oneCell'=O)(t:c.length=K.E)(L:n<100000)(x:B≤w.heap.size)
  (j:w.heap[g]?=I (.cells c.toArray K.te (0,0))):
  ar M K.f #[v,.int .i64 n,.slice (I ⟨g,0,J⟩) 1 1] w (yw w B v K.E K.te (n+1) (f++c)):=by
 obtain⟨k,d,l,m,o⟩:=fT hK.i;have p:=D (zO j);obtain⟨ao,cap,rfl,y,z⟩:=bY a;have N:=D j;clear j;have C:=hK.u;have q:=hK.zs;have E:=hK.p;have r:(n+1)*K.Og≤140737488355328:=aa (Nat.mul_le_mul (show n+1≤100000 by omega) hK.b) aC;rcases hK with rfl | rfl | rfl | rfl | rfl
 all_goals by_cases F:cap=n
 all_goals
  first | go_enter func226,ntmps226 | go_enter func233,ntmps233 | go_enter func234,ntmps234 | go_enter func238,ntmps238 | go_enter func240,ntmps240
  go_wp2_with ((with_reducible refine aT 25 ?_);refine hY rfl _ _ _ rfl B _ k _ _ _ C d l m o q E (.slice ao n cap) n f rfl a (I ⟨g,0,J⟩) 1 1 c rfl A p.o i (by unfold maxLen;omega) r x ?_;intro H P s e b)
  go_ret;first | (rw [F]at e b) | skip
  exact⟨H,rfl,s,e,b.imp id (fun h=>⟨_,h,G _⟩)⟩
theorem EK{K:KI}(hK:K.ok)(n i:Nat)(h v:List Z)(w:V)(B yb g c:Nat)(H:w.ownsRow B K.te K.E (.slice (I ⟨g,0,J⟩) n c) n h)(o0:c<n+1)(X:∀u∈h,u.oneCell'=O)(a0:∀u∈v,u.oneCell'=O)(p0:v.length=K.E)(hn:n<100000)(hB:B≤w.heap.size)(hi:i<n)
  (hy:w.heap[yb]?=I (.cells v.toArray K.te (0,0))):
  ar M K.f #[.slice (I ⟨g,0,J⟩) n c,.int .i64 i,.slice (I ⟨yb,0,J⟩) 1 1] w (yw w B (.slice (I ⟨g,0,J⟩) n c) K.E K.te (n+1) (h.take (i*K.E)++v++h.drop (i*K.E))):=by
 obtain⟨x,l,b0,r,c0⟩:=fT hK.i;obtain⟨p1,p2,p3,p4,p5,p6,p7⟩:=iP H;have z0:i*K.E≤n*K.E:=bE _ (Nat.le_of_lt hi);have y:(h.take (i*K.E)).length=i*K.E:=by rw[bN];omega
 obtain⟨C,w1,zs,hr,d0,s,f⟩:=zN (P:= M) w K.ts 3 K.ts K.te x _ K.E K.Og hK.u underlying3 l b0 r c0 hK.zs hK.p ⟨g,0,J⟩ i c (n+1-i) (h.take (i*K.E)) y
  (fun j u F=>by
   rw[dM,cO];rw[fD]at F
   split at F
   ·exact p7 j u F
   ·cases F) A A A hK.b A
 rw[show i+(n+1-i)=n+1 by omega]at hr s;rw[show ((n+1-i:Nat):Int)=(n:Int)+1-i by omega]at hr;have hC:=(iP s).2.2.1;have C0:=(iP s).2.2.2.1;have e0:=ft hy f (br hy).1
 have f0:Hid (Rd w1 (I ⟨g,i*K.E,J⟩) (h.drop (i*K.E))):=by
  refine D ?_;have h0:Rd w1 (I ⟨g,0,J⟩) h:=fun j u F=>⟨_,rfl,by rw[dM,cO,f.cell (p:=⟨g,j,J⟩) p2];exact p7 j u F⟩
  have:=h0.py (i*K.E);rw[cO]at this;exact this
 have q0:=(iP s).2.2.2.2.1;obtain⟨W,g0,i0,m⟩:=og (P:= M) w1 K.ts K.ts 3 K.te x K.E hK.u l r _ _ _ _ _ s i 1 (n+1-i) (C-i) 1 1 (I ⟨yb,0,J⟩) v (eR A) A A (zO e0) a0;have D0:g<W.heap.size:=ac p2 (aa f.size m.size)
 have L:Hid (Rd W.drew (I ⟨g,i*K.E,J⟩) (h.drop (i*K.E))):=D (fun j u F=>by
  obtain⟨a,ha,hc⟩:=f0.o j u F;refine⟨a,ha,?_⟩;injection ha with ha;subst ha;rw[dM]at hc⊢;have:=m.block g (ac p2 f.size) (fun e=>by injection e with e;omega);show W.cell? _=_;rw[an,this]
  exact hc)
 have N:W.drew.ownsRow w.heap.size K.te K.E (.slice (I ⟨w.heap.size,0,J⟩) (n+1) C) (n+1) ((h.take (i*K.E)++zs).take (i*K.E)++v++(h.take (i*K.E)++zs).drop (i*K.E+1*K.E)):=i0;obtain⟨w3,j0,R,t⟩:=og (P:= M) W.drew K.ts K.ts 3 K.te x K.E hK.u l r _ _ _ _ _ N (i+1) (n-i) (n-i) (C-(i+1)) (n-i) (c-i) (I ⟨g,i*K.E,J⟩) (h.drop (i*K.E)) (Nat.min_self _) A (by rw[bh,p5,←Nat.sub_mul]) L.o (fun u F=>X u (nC F))
 have Q:((h.take (i*K.E)++zs).take (i*K.E)++v++(h.take (i*K.E)++zs).drop (i*K.E+1*K.E)).take ((i+1)*K.E)++h.drop (i*K.E)++((h.take (i*K.E)++zs).take (i*K.E)++v++(h.take (i*K.E)++zs).drop (i*K.E+1*K.E)).drop ((i+1)*K.E+(n-i)*K.E)=h.take (i*K.E)++v++h.drop (i*K.E):=by
  have e1:(h.take (i*K.E)++zs).take (i*K.E)=h.take (i*K.E):=nW y;have e2:(h.take (i*K.E)++v).length=(i+1)*K.E:=by rw[ay,y,p0,cR,Nat.one_mul]
  have e3:((i+1)*K.E+(n-i)*K.E)=(n+1)*K.E:=by rw[←cR];congr 1;omega
  have e4:(h.take (i*K.E)++v++(h.take (i*K.E)++zs).drop (i*K.E+1*K.E)).drop ((n+1)*K.E)=[]:=j3 (by
   rw[ay,e2,bh,ay,y,d0];have h9:(n+1-i)*K.E+i*K.E=(n+1)*K.E:=by rw[←cR];congr 1;omega
   have h8:(i+1)*K.E=i*K.E+1*K.E:=cR _ _ _
   omega)
  rw[e1,nW e2,e3,e4,eH]
 rw[Q]at R;have k0:=D R
 have r0:Hid (w.grownBy w3 (I g)):=D (by
  have a1:w.grownBy w1 (I g):=⟨f.os,f.tape,f.output,f.size,fun k S _=>f.block k S⟩;have a2:w.grownBy W (I g):=⟨m.os.trans a1.os,m.tape.trans a1.tape,m.output.trans a1.output,aa a1.size m.size,fun k S T=>(m.block k (ac S f.size) (fun e=>by injection e with e;omega)).trans (a1.block k S T)⟩
  exact⟨t.os.trans a2.os,t.tape.trans a2.tape,t.output.trans a2.output,aa a2.size t.size,fun k S T=>(t.block k (ac S (aa f.size m.size)) (fun e=>by injection e with e;omega)).trans (a2.block k S T)⟩)
 have q1:¬ (c=i):=A
 have E0:((i:Int)==(n:Int))=U:=by rw[beq_eq_false_iff_ne];omega
 have F0:(c:Int)<(n:Int)+1:=A
 have q2:¬ (C=i):=A
 have q3:¬ (C=i+1):=A
 have q4:(i:Int)<n:=A
 have q5:(n:Int)<100000:=A
 obtain⟨A0,z,b⟩:=ey (P:= M) K.ts K.te x K.E hK.u l r w.heap.size 0 (n+1) C (i+1) ((i:Int)+1) A A hC;obtain⟨B0,E,d⟩:=ey (P:= M) K.ts K.te x K.E hK.u l r g 0 n c i (i:Int) rfl A p3;have s0:=z A;have t0:=E A;subst s0 t0;rw[cO]at b d;rw[show n+1-(i+1)=n-i by omega]at b;have o:=D b;have q:=D d;clear b d z E;have l0:=D hr;have m0:=D g0;have n0:=D j0;clear H s i0 N R m t f hy e0 f0 L Q y q0 d0 p5 p6 p7 hr g0 j0 X a0 l b0 r c0;have G0:=hK.p;rcases hK with rfl | rfl | rfl | rfl | rfl
 all_goals dsimp only[CN,CO,CP,CQ,CR]at l0 m0 n0 k0 o q⊢
 all_goals
  first | go_enter func226,ntmps226 | go_enter func233,ntmps233 | go_enter func234,ntmps234 | go_enter func238,ntmps238 | go_enter func240,ntmps240
  go_wp2_with (first
   | ((with_reducible refine aT 40 ?_);refine wJ rfl _ _ _ 3 rfl _ _ rfl rfl l0.o ?_)
   | ((with_reducible refine aT 45 ?_);refine lE rfl _ _ _ _ rfl _ _ rfl rfl m0.o ?_))
  have v0:IntKind.i64.wrap ((i:Int)+1)=(i:Int)+1:=s5 _ A;have w0:(0:Int)≤(i:Int)+1:=A
  have x0:((i:Int)+1).toNat=i+1:=A
  have y0:(i:Int)+1≤(n:Int)+1:=A
  have H0:n+1-(i+1)=n-i:=A
  have b:=o.o;have d:=q.o;go_still_tail 8,aj
  clear v0 w0 x0 y0 b d;refine lE rfl _ _ _ _ rfl _ _ rfl rfl n0.o ?_;go_wp2;go_ret;exact⟨_,rfl,ki k0.o hB,r0.o,.inr ⟨_,rfl,G _⟩⟩
theorem ovK{K:KI}(hK:K.ok)(w:V)(d g o j k c:Nat)(l a:List Z)(f:d≠g)(h:w.heap[d]?=I (.cells l.toArray K.te (0,0)))(n:w.heap[g]?=I (.cells a.toArray K.te (0,0)))(p:a≠[]):
  (callFunc K.o #[.slice (I ⟨d,0,J⟩) 1 c,.slice (I ⟨g,o,J⟩) j k]).run M w=.ok (.value (.bool U)) w:=by
 obtain⟨q,b,r,i,s⟩:=fT hK.i;have m:=Lib.run_overlaps_apart w K.ts 4 K.te hK.u K.E (fun W=>by simp[sizeOf,typeInfo,b,i]) ⟨d,0,J⟩ ⟨g,o,J⟩ 1 c j k f K.te K.te l.toArray.size a.toArray.size (by simp[wk,h]) (by simp[wk,n]) (by simpa using p) (by simp[fJ,h]) (by simp[fJ,h]);rcases hK with rfl | rfl | rfl | rfl | rfl
 all_goals
  dsimp only[CN,CO,CP,CQ,CR]at m⊢;first | rw[jy func276 aj aj aj (e:=ff #[41,41] #[4]) aj] | rw[jy func282 aj aj aj (e:=ff #[42,42] #[4]) aj] | rw[jy func284 aj aj aj (e:=ff #[43,43] #[4]) aj] | rw[jy func289 aj aj aj (e:=ff #[44,44] #[4]) aj] | rw[jy func293 aj aj aj (e:=ff #[45,45] #[4]) aj]
  rw[m];rfl
theorem CS{K:KI}(hK:K.ok)(n i:Nat)(d z:List Z)(w:V)(B H g c:Nat)(m:w.ownsRow B K.te K.E (.slice (I ⟨g,0,J⟩) n c) n d)(l:n+1≤c)(S:∀u∈d,u.oneCell'=O)(T:∀u∈z,u.oneCell'=O)(A0:z.length=K.E)(hn:n<100000)(hi:i<n)
  (hy:w.heap[H]?=I (.cells z.toArray K.te (0,0))) (s:H≠g):
  ar M K.f #[.slice (I ⟨g,0,J⟩) n c,.int .i64 i,.slice (I ⟨H,0,J⟩) 1 1] w (yw w B (.slice (I ⟨g,0,J⟩) n c) K.E K.te (n+1) (d.take (i*K.E)++z++d.drop (i*K.E))):=by
 obtain⟨C,f,m0,v,n0⟩:=fT hK.i;obtain⟨p1,p2,p3,p4,p5,p6,p7⟩:=iP m;obtain⟨W,L⟩:=Ob m
 have o:W≠[]:=(by
  intro e;subst e;have:=p7 0 (d[0]'(by rw[p5];exact Nat.mul_pos A hK.p)) (List.getElem?_eq_getElem _)
  simp[an,L]at this)
 obtain⟨p,X,a0⟩:=EI m l;have E:w.drew.ownsRow B K.te K.E (.slice (I ⟨g,0,J⟩) (n+1) c) (n+1) (d++p):=a0;have b0:(d.drop (i*K.E)).length=(n-i)*K.E:=by rw[bh,p5,←Nat.sub_mul]
 have c0:Rd w.drew (I ⟨g,i*K.E,J⟩) (d.drop (i*K.E)):=by
  have h0:Rd w.drew (I ⟨g,0,J⟩) d:=fun j u hu=>⟨_,rfl,by rw[dM,cO];exact p7 j u hu⟩
  have:=h0.py (i*K.E);rw[cO]at this;exact this
 obtain⟨w1,d0,N,h⟩:=og (P:= M) w.drew K.ts K.ts 3 K.te C K.E hK.u f v _ _ _ _ _ E (i+1) (n-i) (n-i) (c-(i+1)) (n+1-i) (c-i) (I ⟨g,i*K.E,J⟩) (d.drop (i*K.E)) (Nat.min_eq_right A) A b0 c0 (fun u hu=>S u (nC hu));have e3:(i+1)*K.E+(n-i)*K.E=(n+1)*K.E:=by rw[←cR];congr 1;omega
 have e5:(i+1)*K.E=i*K.E+1*K.E:=cR _ _ _;have e6:(n+1)*K.E=n*K.E+1*K.E:=cR _ _ _;have o0:(i+1)*K.E≤n*K.E:=bE _ hi;have e0:(d++p).length=(n+1)*K.E:=by rw[ay,p5,X];omega
 have e7:(d++p).drop ((i+1)*K.E+(n-i)*K.E)=[]:=j3 (by rw[e0,e3];exact G _);have e8:(d++p).take ((i+1)*K.E)=d.take ((i+1)*K.E):=cQ A;rw[e7,e8,eH]at N;have f0:w1.heap[H]?=I (.cells z.toArray K.te (0,0)):=(h.block H (br hy).1 (fun e=>by injection e with e;exact s e)).trans hy;obtain⟨w2,g0,Q,t⟩:=og (P:= M) w1 K.ts K.ts 3 K.te C K.E hK.u f v _ _ _ _ _ N i 1 (n+1-i) (c-i) 1 1 (I ⟨H,0,J⟩) z (eR A) A A (zO f0) T;have i0:(d.take ((i+1)*K.E)).length=(i+1)*K.E:=by rw[bN];omega
 have F:(d.take ((i+1)*K.E)++d.drop (i*K.E)).take (i*K.E)++z++(d.take ((i+1)*K.E)++d.drop (i*K.E)).drop (i*K.E+1*K.E)=d.take (i*K.E)++z++d.drop (i*K.E):=by
  rw[←e5,List.drop_left' i0,cQ A,kA,eR A]
 rw[F]at Q;have R:=D Q;have p0:Hid (w.grownBy w2 (I g)):=D ⟨t.os.trans h.os,t.tape.trans h.tape,t.output.trans h.output,aa h.size t.size,fun k hk s=>(t.block k (ac hk h.size) s).trans (h.block k hk s)⟩;obtain⟨y0,x,a⟩:=ey (P:= M) K.ts K.te C K.E hK.u f v g 0 (n+1) c (i+1) ((i:Int)+1) A A l;obtain⟨z0,y,b⟩:=ey (P:= M) K.ts K.te C K.E hK.u f v g 0 (n+1) c i (i:Int) rfl A l;have q0:=x A;have r0:=y A;subst q0 r0;rw[cO]at a b;rw[show n+1-(i+1)=n-i by omega]at a;have q:=D a;have r:=D b;have j0:=D d0;have k0:=D g0;have l0:=D (fun lb cb=>ovK hK w H g ((i+1)*K.E) lb cb 1 z W s hy L o);have q1:¬ (c=i):=A
 have q2:¬ (c=i+1):=A
 have B0:((i:Int)==(n:Int))=U:=by rw[beq_eq_false_iff_ne];omega
 have C0:¬ (c:Int)<(n:Int)+1:=A
 have q4:(i:Int)<n:=A
 have q5:(n:Int)<100000:=A
 clear m N Q a0 E c0 h t hy f0 F i0 e3 e5 e6 e7 e8 o0 e0 b0 p5 p6 p7 d0 g0 S T f m0 v n0 a b x y L o X s;rcases hK with rfl | rfl | rfl | rfl | rfl
 all_goals dsimp only[CN,CO,CP,CQ,CR]at j0 k0 R q r l0⊢
 all_goals
  have s0:=l0.o;have t0:IntKind.i64.wrap ((i:Int)+1)=(i:Int)+1:=s5 _ A;have v0:(0:Int)≤(i:Int)+1:=A
  have w0:((i:Int)+1).toNat=i+1:=A
  have x0:(i:Int)+1≤(n:Int)+1:=A
  first | go_enter func226,ntmps226 | go_enter func233,ntmps233 | go_enter func234,ntmps234 | go_enter func238,ntmps238 | go_enter func240,ntmps240
  go_upto_region 15 with fail
  clear s0;have a:=q.o;have b:=r.o;go_still_tail 8,aj
  clear t0 v0 w0 x0 a b;refine lE rfl _ _ _ _ rfl _ _ rfl rfl j0.o ?_;go_wp2_with ((with_reducible refine aT 82 ?_);refine lE rfl _ _ _ _ rfl _ _ rfl rfl k0.o ?_)
  go_ret;exact⟨_,rfl,by first | exact R.o | (rw [←List.append_assoc];exact R.o),p0.o,.inl rfl⟩
theorem mT{K:KI}(hK:K.ok)(v:Z)(n i:Nat)(b d:List Z)(w:V)(B j:Nat)(a:w.ownsRow B K.te K.E v n b)(k:∀u∈b,u.oneCell'=O)(f:∀u∈d,u.oneCell'=O)(h:d.length=K.E)(m:n<100000)(hi:i≤n)(r:B≤w.heap.size)
  (o:w.heap[j]?=I (.cells d.toArray K.te (0,0))) (p:v.ownBlock≠I j):
  ar M K.f #[v,.int .i64 i,.slice (I ⟨j,0,J⟩) 1 1] w (yw w B v K.E K.te (n+1) (b.take (i*K.E)++d++b.drop (i*K.E))):=by
 have s:=a.1;rcases aL i n with l | t
 ·obtain⟨g,c,rfl⟩:=wB a A
  rcases aL c (n+1)with q | q
  ·exact EK hK n i b d w B j g c a q k f h m r l o
  ·exact CS hK n i b d w B j g c a q k f h m l o (fun e=>p (by rw[e];rfl))
 ·have e:i=n:=A
  subst e;rw[←s,List.take_length,List.drop_length,eH];exact Hc hK v i b d w B j a f h m r o
def Ji(te:aN)(E:Nat)(f:FuncId):Prop:=∀(v:Z)(n i:Nat)(a b:List Z)(w:V)(B c:Nat),w.ownsRow B te E v n a→(∀u∈a,u.oneCell'=O)→(∀u∈b,u.oneCell'=O)→b.length=E→n<100000→i≤n→B≤w.heap.size→
  w.heap[c]?=I (.cells b.toArray te (0,0))→v.ownBlock≠I c→ar M f #[v,.int .i64 i,.slice (I ⟨c,0,J⟩) 1 1] w (yw w B v E te (n+1) (a.take (i*E)++b++a.drop (i*E)))
theorem CT:Ji 204 7 226:=mT (K:=CN) (.inl rfl)
theorem CU:Ji 206 6 233:=mT (K:=CO) (.inr (.inl rfl))
theorem CV:Ji 73 3 234:=mT (K:=CP) (.inr (.inr (.inl rfl)))
theorem CW:Ji 208 2 238:=mT (K:=CQ) (.inr (.inr (.inr (.inl rfl))))
theorem CX:Ji 210 6 240:=mT (K:=CR) (.inr (.inr (.inr (.inr rfl))))
theorem P8:(prog.info? 206).map (fun i=>(i.zero,i.size,i.bytes))=I (I (.agg TG),6,64):=aj
structure Three(w W:V)(B b:Nat)(x y z:Array Z)(tx ty tz:aN):Prop where
 bl:ae B w W
 lo:B≤b
 sz:b+3≤W.heap.size
 k0:W.heap[b]?=I (.cells x tx (0,0))
 k1:W.heap[b+1]?=I (.cells y ty (0,0))
 k2:W.heap[b+2]?=I (.cells z tz (0,0))
theorem rT(w:V)(x y z:Obj):ae w.heap.size w (((w.alloc x).alloc y).alloc z):=(((aD _ _).alloc (G _) _).alloc bW _).alloc kc _
theorem Three.mk'(w:V)(B:Nat)(a:B≤w.heap.size)(x y z:Array Z)(tx ty tz:aN):Three w (((w.alloc (.cells x tx)).alloc (.cells y ty)).alloc (.cells z tz)) B w.heap.size x y z tx ty tz:=by
 refine⟨(rT _ _ _ _).mono a,a,bD bW,?_,?_,?_⟩
 ·rw[ed _ _ _ kc];exact ce _ _ _
 ·rw[ed _ _ _ bW];exact bO _ _ _
 ·have:=al ((w.alloc (.cells x tx)).alloc (.cells y ty)) (.cells z tz)
  simpa using this
theorem EL.own.ne{α:Type}{L:EL α}{w:V}{B b:Nat}{v:Z}{l:List α}{x:Array Z}{t:aN}(h:L.own w B v l)(f:w.heap[b]?=I (.cells x t (0,0)))(c:t≠L.e):v.ownBlock≠I b:=by
 obtain⟨_,i⟩:=h;rcases i with⟨d,_⟩ | ⟨g,_,j,d,_,a,_⟩
 ·rw[d];intro e;cases e
 ·rw[d]
  intro e;injection e with e;subst e;rw[f]at a;injection a with a;injection a with _ a _;exact c a
structure g_(w:V)(B b:Nat)(z:dY)(c:eo):Prop where
 c:bB w B z c
 k:∃x,w.heap[b]?=I (.cells x 47 (0,0))
theorem g_.put{w:V}{B b:Nat}{z:dY}{c:eo}(h:g_ w B b z c)(o:Nat)(u:Z):g_ (w.setCell ⟨b,o,J⟩ u) B b z c:=by
 obtain⟨h,x,a⟩:=h;exact⟨⟨gu h.v (h.v.ne a aC) u,gu h.r (h.r.ne a aC) u,gu h.e (h.e.ne a aC) u,gu h.g (h.g.ne a aC) u,gu h.s (h.s.ne a aC) u,gu h.b (h.b.ne a aC) u⟩,x.set! o u,by simp[aV,aR,a]⟩
section
variable {w W W2:V} {B b:Nat} {x y z:Array Z} {tx ty tz:aN}
theorem Three.keep{C:Nat}(h:Three w W B b x y z tx ty tz)(a:ae C W W2)(c:b+3≤C):Three w W2 B b x y z tx ty tz:=
 ⟨h.bl.trans (a.mono (by have:=h.lo;omega)),h.lo,aa h.sz a.size,(a.block _ A).trans h.k0,(a.block _ A).trans h.k1,(a.block _ A).trans h.k2⟩
theorem Three.drew(h:Three w W B b x y z tx ty tz):Three w W.drew B b x y z tx ty tz:=⟨h.bl.drew,h.lo,h.sz,h.k0,h.k1,h.k2⟩
theorem Three.row{α:Type}{L:EL α}{v:Z}{l:List α}(h:Three w W B b x y z tx ty tz)(c:L.own W B v l)(a:W.grownBy W2 v.ownBlock)(d:tx≠L.e)(e:ty≠L.e)(f:tz≠L.e):Three w W2 B b x y z tx ty tz:=by
 have:=h.sz;exact⟨h.bl.grown a (by have:=h.lo;omega) (k_ c),h.lo,aa h.sz a.size,(a.block _ A (jh (c.ne h.k0 d))).trans h.k0,(a.block _ A (jh (c.ne h.k1 e))).trans h.k1,(a.block _ A (jh (c.ne h.k2 f))).trans h.k2⟩
theorem Three.put(h:Three w W B b x y z tx ty tz)(o:Nat)(u:Z):Three w (W.setCell ⟨b,o,J⟩ u) B b (x.set! o u) y z tx ty tz:=
 ⟨h.bl.setCell h.lo _,h.lo,by simpa[aV]using h.sz,by simp[aV,aR,h.k0],by rw[bC _ _ _ _ (by show b+1≠b;omega)];exact h.k1,by rw[bC _ _ _ _ (by show b+2≠b;omega)];exact h.k2⟩
end
theorem Jj(w:V)(B:Nat)(z:dY)(c:eo)(N:Nat)(d1 d2 d3 cl v k n t:Int)(m tx:List UInt8)(sl:Z)(h:bB w B z c)(hB:B≤w.heap.size)(hf:c.ok N)(hN:N<90000)(g0:m.length≤40)(h0:tx.length≤40):
  ar M 165 #[.agg ⟨z.l c⟩,.agg (pv d1 d2 d3 cl v k m tx n t sl)] w (Jh w B (N+1)):=by
 obtain⟨⟨F,H⟩,⟨K,rc⟩,⟨L,P⟩,⟨Q,R⟩,⟨sa,sc⟩,⟨S,T⟩⟩:=z;simp only[dY.l];obtain⟨b,hb⟩:∃b,w.heap.size=b:=⟨_,rfl⟩;obtain⟨W,hW⟩:∃W,((w.alloc (.cells (di F c.v.length H K c.r.length rc L c.e.length P Q c.g.length R sa c.s.length sc S c.b.length T) 47)).alloc (.cells (pv d1 d2 d3 cl v k m tx n t sl) 75)).alloc (.cells jR 47)=W:=⟨_,rfl⟩;have j:Hid (Three w W B b (di F c.v.length H K c.r.length rc L c.e.length P Q c.g.length R sa c.s.length sc S c.b.length T) (pv d1 d2 d3 cl v k m tx n t sl) jR 47 75 47):=D (by rw[←hW,←hb];exact Three.mk' _ _ hB _ _ _ _ _ _);have p:=D (h.keep (by rw[←hW];exact rT w _ _ _:ae w.heap.size w W) (G _));have x0:Hid (B≤b):=D (by rw[←hb];exact hB);have HF:=D hf;have HN:=D hN;have q0:=D g0;have y0:=D h0;have HW:=D hW;have HE:=D hb;clear h hB hf hN g0 h0 hW hb
 go_enter func165,ntmps165
 go_upto_region 1 with fail
 rw[HW.o,HE.o];clear HW;obtain⟨c0,c1,c2,c3,c4,c5⟩:=ah j.o.k0;obtain⟨o0,o1,o2,o3,o4,o5,o6,o7,o8,o9,f⟩:=bL j.o.k1;go_upto_region 2 with((go_at_call 237;refine(Od _ B ⟨(F,H),(K,rc),(L,P),(Q,R),(sa,sc),(S,T)⟩ c m p.o (HF.o.few (by have:=HN.o;omega))).mono ?_);rintro en C ⟨i,q,rfl,h9,b9⟩;have H9:=D h9.o;have B9:=D b9.o;clear h9 b9)
 have j:=D (j.o.keep B9.o j.o.sz);have p:=D (p.o.keep B9.o (G _));clear c0 c1 c2 c3 c4 c5 o0 o1 o2 o3 o4 o5 o6 o7 o8 o9 f
 cases q with
 | true=>
  have hi:=H9.o.2 rfl;obtain⟨g,i0,s0,t0,j0,r⟩:=p.o.s.at i hi;have k0:sa=I ⟨g,0,J⟩:=i0;subst k0;generalize hx:c.s[i]=x at*;have c1:C.cell? ⟨g,i*2+1,J⟩=I (.int .i64 x.n):=r 1 _ rfl;have f1:=j0 (i*2+1);have l0:(i:Int)<c.s.length:=A
  have HX:=D hx;have HI:=D hi;clear r j0 i0 hx;go_upto_region 3 with fail
  refine bT 11 (fun w'=>w'=C.drew) aj ?_;obtain⟨X,o⟩:∃X,C.drew=X:=⟨_,rfl⟩;have j:=D j.o.drew;have p:Hid (bB X B ⟨(F,H),(K,rc),(L,P),(Q,R),(I ⟨g,0,J⟩,sc),(S,T)⟩ c):=D (by rw[←o];exact p.o.keep ((aD _ _).drew) (G _));have c1:X.cell? ⟨g,i*2+1,J⟩=I (.int .i64 x.n):=by rw[←o];exact c1
  have f1:X.frozen? ⟨g,i*2+1,J⟩=U:=by rw[←o];exact f1
  rw[o]at j;rw[o];clear o;obtain⟨b0,b1,b2,b3,b4,b5⟩:=ah j.o.k0;obtain⟨o0,o1,o2,o3,o4,o5,o6,o7,o8,o9,f⟩:=bL j.o.k1;have E:X=X:=rfl;refine stP 0 (.pointer (I ⟨b,4,J⟩)) E ?_;refine stP 2 (.int .i64 i) E ?_;refine stP 6 (.pointer (I ⟨b+1,8,J⟩)) E ?_;refine lT 1 (.slice (I ⟨g,0,J⟩) c.s.length sc) rfl rfl (.inl ⟨rfl,fun w' hw=>?_⟩) E ?_
  ·rw[hw]
   go_simp
  refine stP 3 (.pointer (I ⟨g,i*2,J⟩)) E ?_;refine stP 4 (.pointer (I ⟨g,i*2+1,J⟩)) E ?_;refine lT 5 (.int .i64 x.n) rfl rfl (.inl ⟨rfl,fun w' hw=>?_⟩) E ?_
  ·rw[hw]
   go_simp
  refine lT 7 (.int .i64 n) rfl rfl (.inl ⟨rfl,fun w' hw=>?_⟩) E ?_
  ·rw[hw]
   go_simp
  refine stP 8 (.int .i64 (IntKind.i64.wrap (x.n+n))) E ?_;refine dK 9 ?_;go_simp;refine dK 10 ?_;go_simp;refine dK 11 ?_;go_simp;refine jj ?_;obtain⟨W2,l⟩:∃W2,X.setCell ⟨g,i*2+1,J⟩ (.int .i64 (IntKind.i64.wrap (x.n+n)))=W2:=⟨_,rfl⟩
  have s:fh.own W2 B (.slice (I ⟨g,0,J⟩) (c.s.set i ⟨x.key,IntKind.i64.wrap (x.n+n)⟩).length sc) (c.s.set i ⟨x.key,IntKind.i64.wrap (x.n+n)⟩):=by
   rw[←l];exact EL.own.Zw p.o.s i HI.o 1 aC _ _ (by rw[HX.o];rfl)
  have d0:X.grownBy W2 (I g):=by rw[←l];exact Lm _ _ _ _
  have u:=bB.MV (a:=I ⟨g,0,J⟩) (k:=sc) p.o d0 s;have d:=D (j.o.row p.o.s d0 aC aC aC);have a0:=D u;rw[l];clear l s d0 u c1 f1 b0 b1 b2 b3 b4 b5 o0 o1 o2 o3 o4 o5 o6 o7 o8 o9 f l0 t0 s0 E;obtain⟨b0,b1,b2,b3,b4,b5⟩:=ah d.o.k0;obtain⟨r0,r1,r2,r3,r4,r5⟩:=ah d.o.k2;have f0:=aq d.o.k2 0;have f1:=aq d.o.k2 1;have f2:=aq d.o.k2 2;have f3:=aq d.o.k2 3;have f4:=aq d.o.k2 4;have f5:=aq d.o.k2 5;go_wp2;refine au (v:=.agg (di F c.v.length H K c.r.length rc L c.e.length P Q c.g.length R (I ⟨g,0,J⟩) c.s.length sc S c.b.length T)) (by simp[results,results165,go_sem, *]) rfl ?_;refine⟨⟨(F,H),(K,rc),(L,P),(Q,R),(I ⟨g,0,J⟩,sc),(S,T)⟩,⟨c.v,c.r,c.e,c.g,c.s.set i ⟨x.key,IntKind.i64.wrap (x.n+n)⟩,c.b⟩,by simp[dY.l],?_,?_,?_⟩
  ·refine g_.c (b:=b+2) ?_
   repeat (apply g_.put)
   exact⟨a0.o,_,d.o.k2⟩
  ·exact HF.o.news (dW _) (by rw[eE];have:=HF.o.ns;omega) (tp HF.o.ts (by show x.key.length≤40;rw[←HX.o];exact HF.o.ts _ (List.getElem_mem HI.o)))
  ·repeat (refine cu ?_ (by have:=d.o.lo;show B≤b+2;omega) _)
   exact d.o.bl
 | false=>
  have hi:=H9.o.1;have r:fh.own (C.alloc (.cells #[.string ⟨⟨m⟩⟩,.int .i64 n] 208)) B (.slice sa c.s.length sc) c.s:=p.o.s.keep ((aD _ _).alloc (G _) _) (G _);have HI:=D hi;have HO:=D r;have v0:Hid ((.slice sa c.s.length sc:Z).ownBlock≠I C.heap.size):=D (fun e=>Nat.lt_irrefl _ (jz p.o.s _ e).2);obtain⟨b0,b1,b2,b3,b4,b5⟩:=ah j.o.k0;obtain⟨o0,o1,o2,o3,o4,o5,o6,o7,o8,o9,f⟩:=bL j.o.k1;have f4:=aq j.o.k0 4;clear hi r
  go_upto_region 6 with(
   (go_at_call 238;refine(CW _ c.s.length i (ca fh.f c.s) (ox ⟨m,n⟩) _ B C.heap.size HO.o (jr fh.one _) (fh.one _) rfl (by have:=HF.o.ns;have:=HN.o;omega) HI.o (by have:=j.o.lo;have:=j.o.sz;simp;omega) (al C _) v0.o).mono ?_)
   rintro en m0 ⟨v',rfl,f,n0,-⟩;obtain⟨a',k',rfl,-,-⟩:=bY f;have p0:=D n0;have w0:=D f;clear n0 f
   have s:fh.own m0 B (.slice a' (putAt c.s i ⟨m,n⟩).length k') (putAt c.s i ⟨m,n⟩):=by
    have h1:=mS fh c.s i ⟨m,n⟩;have h2:=w0.o;show jc _ _ _ _ _ (putAt c.s i ⟨m,n⟩).length _;rw[fO _ _ _ HI.o,←h1];exact h2
   have e0:bB (C.alloc (.cells #[.string ⟨⟨m⟩⟩,.int .i64 n] 208)) B ⟨(F,H),(K,rc),(L,P),(Q,R),(sa,sc),(S,T)⟩ c:=p.o.keep ((aD _ _).alloc (G _) _) (G _);have u:=bB.MV (a:=a') (k:=k') e0 p0.o s;have y:=(j.o.keep ((aD C.heap.size C).alloc (G _) _) j.o.sz).row e0.s p0.o aC aC aC;have d:=D (y.put 4 (.slice a' (c.s.length+1) k'));have a0:=D ((⟨u,_,y.k0⟩:g_ _ _ b _ _).put 4 (.slice a' (c.s.length+1) k')).c;obtain⟨b0,b1,b2,b3,b4,b5⟩:=ah y.k0;have f4:=aq y.k0 4;clear s e0 u y
   skip)
  obtain⟨W2,l⟩:∃W2,m0.setCell ⟨b,4,J⟩ (.slice a' (c.s.length+1) k')=W2:=⟨_,rfl⟩;rw[l]at d a0;rw[l];clear l b0 b1 b2 b3 b4 b5 o0 o1 o2 o3 o4 o5 o6 o7 o8 o9 f f4;obtain⟨b0,b1,b2,b3,b4,b5⟩:=ah d.o.k0;obtain⟨r0,r1,r2,r3,r4,r5⟩:=ah d.o.k2;have f0:=aq d.o.k2 0;have f1:=aq d.o.k2 1;have f2:=aq d.o.k2 2;have f3:=aq d.o.k2 3;have f4:=aq d.o.k2 4;have f5:=aq d.o.k2 5;go_wp2;refine au (v:=.agg (di F c.v.length H K c.r.length rc L c.e.length P Q c.g.length R a' (c.s.length+1) k' S c.b.length T)) (by simp[results,results165,go_sem, *]) rfl ?_;refine⟨⟨(F,H),(K,rc),(L,P),(Q,R),(a',k'),(S,T)⟩,⟨c.v,c.r,c.e,c.g,putAt c.s i ⟨m,n⟩,c.b⟩,by simp[dY.l,fO _ _ _ HI.o],?_,?_,?_⟩
  ·refine g_.c (b:=b+2) ?_
   repeat (apply g_.put)
   exact⟨a0.o,_,d.o.k2⟩
  ·exact HF.o.news (dW _) (by rw[fO _ _ _ HI.o];have:=HF.o.ns;omega) (yx HF.o.ts q0.o)
  ·repeat (refine cu ?_ (by have:=d.o.lo;show B≤b+2;omega) _)
   exact d.o.bl
def Zy(w:V)(B:Nat)(x:eQ)(z:dH)(s:dV)(en:de)(w':V):Prop:=∃a e,en=.returned (.tuple #[.agg ⟨aF a z s⟩,.int .i64 e])∧(a.ck=x.ck∧a.rq=x.rq)∧eg w' B z s∧ae w.heap.size w w'
def tq(w:V)(B:Nat)(x:eQ)(z:dH)(s:dV)(e n:Int)(K L N P Q R S:Z)(h:eg w B z s):ar M 86 #[.agg ⟨aF x z s⟩,.agg #[.int .i64 e,.int .i64 n,K,L,N,P,Q,R,S]] w (Zy w B x z s):=by
 obtain⟨b,hb⟩:∃b,w.heap.size=b:=⟨_,rfl⟩;obtain⟨W,hW⟩:∃W,((w.alloc (.cells ⟨aF x z s⟩ 55)).alloc (.cells #[.int .i64 e,.int .i64 n,K,L,N,P,Q,R,S] 59)).alloc (.cells sL 55)=W:=⟨_,rfl⟩;have H:Three w W w.heap.size w.heap.size ⟨aF x z s⟩ #[.int .i64 e,.int .i64 n,K,L,N,P,Q,R,S] sL 55 59 55:=by rw[←hW];exact Three.mk' _ _ (G _) _ _ _ _ _ _
 rw[hb]at H;have p:=D H.bl;have c:=D H.sz;have m:Hid (Bx W b (aF x z s) 55):=D H.k0;have F:=D H.k1;have k:Hid (∃cs:Array Z,cs.size=45∧W.heap[b+2]?=I (.cells cs 55 (0,0))):=D ⟨_,rfl,H.k2⟩;have X:=D h;have HW:=D hW;have q:=D hb;clear hW hb h H
 go_enter func86,ntmps86
 go_upto_block 0 with fail
 rw[HW.o,q.o];clear HW;have d1:W.cell? ⟨b,1,J⟩=I (.int .i64 x.ep):=m.o.has 45 rfl 1 aC;have r:W.cell? ⟨b,10,J⟩=I (.int .i64 0):=m.o.has 45 rfl 10 aC;have t:W.cell? ⟨b,11,J⟩=I (.int .i64 0):=m.o.has 45 rfl 11 aC;have u:W.cell? ⟨b,12,J⟩=I (.slice J 0 0):=m.o.has 45 rfl 12 aC;have y:W.cell? ⟨b,43,J⟩=I (.bool x.fe):=m.o.has 45 rfl 43 aC;have f:=m.o.aq;have e0:W.cell? ⟨b+1,0,J⟩=I (.int .i64 e):=by simp only[an,F.o];rfl
 have e1:W.cell? ⟨b+1,1,J⟩=I (.int .i64 n):=by simp only[an,F.o];rfl
 by_cases C:x.ep=0
 ·have T:(x.ep==0)=O:=by simpa using C
  clear C;go_upto_region 2 with fail
  clear d1 r t u y f e0 e1 T;obtain⟨cs,g,i⟩:=k.o;have j:=D i;have l:=D g;clear g i
  go_wp2_with (first
   | ((with_reducible refine aT 10 ?_);refine wpList_load_row rfl _ (.tmp 2) rfl b rfl _ _ (0,0) _ m.o underlying55 rfl aj ?_)
   | (refine aJ rfl _ (.tmp 4) (.tmp 10) rfl (b+2) _ rfl rfl _ _ j.o aj (by rw[l.o];rfl) (by simp[aF,ap]) ?_))
  refine au (v:=.tuple #[.agg ⟨aF x z s⟩,.int .i64 2]) (results_cell_tmp results86 _ _ (b+2) 55 ⟨aF x z s⟩ (0,0) _ rfl (aO _ _ _ _ _ _ j.o) underlying55 rfl aj) rfl ?_;have a:=p.o.trans ((But.row (w:=W) (b:=b+2) ⟨aF x z s⟩).below (by have:=c.o;omega) A);refine⟨x,_,rfl,⟨rfl,rfl⟩,X.o.keep a (bD q.o),by rw[q.o];exact a⟩
 ·have T:(x.ep==0)=U:=by simpa using C
  clear C;by_cases E:e=16
  ·subst E
   go_upto_region 5 with fail
   clear d1 r t u y f e0 e1 T;obtain⟨b0,o⟩:∃b0,(W.setCell ⟨b,43,J⟩ (.bool O))=b0:=⟨_,rfl⟩
   have d:But b W b0:=by
    rw[←o]
    repeat (refine But.trans ?_ (But.set _ _ _ _))
    exact But.refl _ _
   have m:Hid (Bx b0 b (aF {x with fe:=O} z s) 55):=D (by
    rw[←o]
    refine Bx.to ((show Bx W b (aF x z s) 55 from m.o).st 43 _) eZ)
   have k:Hid (∃cs:Array Z,cs.size=45∧b0.heap[b+2]?=I (.cells cs 55 (0,0))):=D (by obtain⟨cs,C,E⟩:=k.o;exact⟨cs,C,(d.block _ (by have:=c.o;omega) A).trans E⟩);have F:Hid (b0.heap[b+1]?=I (.cells #[.int .i64 16,.int .i64 n,K,L,N,P,Q,R,S] 59 (0,0))):=D ((d.block _ (by have:=c.o;omega) A).trans F.o);have p:Hid (ae b w b0):=D (p.o.trans (d.below (by have:=c.o;omega) (G _)));have c:Hid (b+3≤b0.heap.size):=D (aa c.o d.size);rw[o];clear o d;obtain⟨cs,g,i⟩:=k.o;have j:=D i;have l:=D g;clear g i
   go_wp2_with (first
    | ((with_reducible refine aT 16 ?_);refine wpList_load_row rfl _ (.tmp 2) rfl b rfl _ _ (0,0) _ m.o underlying55 rfl aj ?_)
    | (refine aJ rfl _ (.tmp 4) (.tmp 16) rfl (b+2) _ rfl rfl _ _ j.o aj (by rw[l.o];rfl) (by simp[aF,ap]) ?_))
   refine au (v:=.tuple #[.agg ⟨aF {x with fe:=O} z s⟩,.int .i64 0]) (results_cell_tmp results86 _ _ (b+2) 55 ⟨aF {x with fe:=O} z s⟩ (0,0) _ rfl (aO _ _ _ _ _ _ j.o) underlying55 rfl aj) rfl ?_;have a:=p.o.trans ((But.row (w:=b0) (b:=b+2) ⟨aF {x with fe:=O} z s⟩).below (by have:=c.o;omega) A);refine⟨{x with fe:=O},_,rfl,⟨rfl,rfl⟩,X.o.keep a (bD q.o),by rw[q.o];exact a⟩
  ·have q2:(e==16)=U:=by simpa using E
   clear E;by_cases h3:e=0
   rotate_left
   ·have q3:(e != 0)=O:=by simpa using h3
    clear h3;go_upto_region 7 with fail
    clear d1 r t u y f e0 e1 T q2 q3;obtain⟨cs,g,i⟩:=k.o;have j:=D i;have l:=D g;clear g i
    go_wp2_with (first
     | ((with_reducible refine aT 21 ?_);refine wpList_load_row rfl _ (.tmp 2) rfl b rfl _ _ (0,0) _ m.o underlying55 rfl aj ?_)
     | (refine aJ rfl _ (.tmp 4) (.tmp 21) rfl (b+2) _ rfl rfl _ _ j.o aj (by rw[l.o];rfl) (by simp[aF,ap]) ?_))
    refine au (v:=.tuple #[.agg ⟨aF x z s⟩,.int .i64 0]) (results_cell_tmp results86 _ _ (b+2) 55 ⟨aF x z s⟩ (0,0) _ rfl (aO _ _ _ _ _ _ j.o) underlying55 rfl aj) rfl ?_;have a:=p.o.trans ((But.row (w:=W) (b:=b+2) ⟨aF x z s⟩).below (by have:=c.o;omega) A);refine⟨x,_,rfl,⟨rfl,rfl⟩,X.o.keep a (bD q.o),by rw[q.o];exact a⟩
   ·subst h3
    have a0:∀(fn:Fn)(first cap:Array Z)(w:V),(Instr.makeFunc fn first cap).run M w=.ok (.func fn first cap) w:=fun _ _ _ _=>rfl
    by_cases h4:n≤0
    ·have q4:decide (n≤0)=O:=by simpa using h4
     have q5:max (0:Int) n=0:=Int.max_eq_left h4;have q6:(if (0:Int)<n then n else 0)=0:=if_neg A;clear h4;go_upto_region 11 with((go_at_call 155;refine(MZ _ _).mono ?_);rintro en w9 ⟨rfl,h9⟩;rw[h9];clear h9)
     clear d1 r t u y f e0 e1 T q2 q4 q5 q6;obtain⟨b0,o⟩:∃b0,((W.setCell ⟨b,11,J⟩ (.int .i64 0)).setCell ⟨b,12,J⟩ (.slice J 0 0))=b0:=⟨_,rfl⟩
     have d:But b W b0:=by
      rw[←o]
      repeat (refine But.trans ?_ (But.set _ _ _ _))
      exact But.refl _ _
     have m:Hid (Bx b0 b (aF x z s) 55):=D (by
      rw[←o]
      refine Bx.to (((show Bx W b (aF x z s) 55 from m.o).st 11 _).st 12 _) eZ)
     have k:Hid (∃cs:Array Z,cs.size=45∧b0.heap[b+2]?=I (.cells cs 55 (0,0))):=D (by obtain⟨cs,C,E⟩:=k.o;exact⟨cs,C,(d.block _ (by have:=c.o;omega) A).trans E⟩);have F:Hid (b0.heap[b+1]?=I (.cells #[.int .i64 0,.int .i64 n,K,L,N,P,Q,R,S] 59 (0,0))):=D ((d.block _ (by have:=c.o;omega) A).trans F.o);have p:Hid (ae b w b0):=D (p.o.trans (d.below (by have:=c.o;omega) (G _)));have c:Hid (b+3≤b0.heap.size):=D (aa c.o d.size);rw[o];clear o d;obtain⟨cs,g,i⟩:=k.o;have j:=D i;have l:=D g;clear g i
     go_wp2_with (first
      | ((with_reducible refine aT 38 ?_);refine wpList_load_row rfl _ (.tmp 2) rfl b rfl _ _ (0,0) _ m.o underlying55 rfl aj ?_)
      | (refine aJ rfl _ (.tmp 4) (.tmp 38) rfl (b+2) _ rfl rfl _ _ j.o aj (by rw[l.o];rfl) (by simp[aF,ap]) ?_))
     refine au (v:=.tuple #[.agg ⟨aF x z s⟩,.int .i64 0]) (results_cell_tmp results86 _ _ (b+2) 55 ⟨aF x z s⟩ (0,0) _ rfl (aO _ _ _ _ _ _ j.o) underlying55 rfl aj) rfl ?_;have a:=p.o.trans ((But.row (w:=b0) (b:=b+2) ⟨aF x z s⟩).below (by have:=c.o;omega) A);refine⟨x,_,rfl,⟨rfl,rfl⟩,X.o.keep a (bD q.o),by rw[q.o];exact a⟩
    ·have q4:decide (n≤0)=U:=by simpa using h4
     clear h4;go_upto_region 11 with((go_at_call 155;refine(MZ _ _).mono ?_);rintro en w9 ⟨rfl,h9⟩;rw[h9];clear h9)
     clear d1 r t u y f e0 e1 T q2 q4;obtain⟨b0,o⟩:∃b0,(W.setCell ⟨b,12,J⟩ (.slice J 0 0))=b0:=⟨_,rfl⟩
     have d:But b W b0:=by
      rw[←o]
      repeat (refine But.trans ?_ (But.set _ _ _ _))
      exact But.refl _ _
     have m:Hid (Bx b0 b (aF x z s) 55):=D (by
      rw[←o]
      refine Bx.to ((show Bx W b (aF x z s) 55 from m.o).st 12 _) eZ)
     have k:Hid (∃cs:Array Z,cs.size=45∧b0.heap[b+2]?=I (.cells cs 55 (0,0))):=D (by obtain⟨cs,C,E⟩:=k.o;exact⟨cs,C,(d.block _ (by have:=c.o;omega) A).trans E⟩);have F:Hid (b0.heap[b+1]?=I (.cells #[.int .i64 0,.int .i64 n,K,L,N,P,Q,R,S] 59 (0,0))):=D ((d.block _ (by have:=c.o;omega) A).trans F.o);have p:Hid (ae b w b0):=D (p.o.trans (d.below (by have:=c.o;omega) (G _)));have c:Hid (b+3≤b0.heap.size):=D (aa c.o d.size);rw[o];clear o d;obtain⟨cs,g,i⟩:=k.o;have j:=D i;have l:=D g;clear g i
     go_wp2_with (first
      | ((with_reducible refine aT 38 ?_);refine wpList_load_row rfl _ (.tmp 2) rfl b rfl _ _ (0,0) _ m.o underlying55 rfl aj ?_)
      | (refine aJ rfl _ (.tmp 4) (.tmp 38) rfl (b+2) _ rfl rfl _ _ j.o aj (by rw[l.o];rfl) (by simp[aF,ap]) ?_))
     refine au (v:=.tuple #[.agg ⟨aF x z s⟩,.int .i64 0]) (results_cell_tmp results86 _ _ (b+2) 55 ⟨aF x z s⟩ (0,0) _ rfl (aO _ _ _ _ _ _ j.o) underlying55 rfl aj) rfl ?_;have a:=p.o.trans ((But.row (w:=b0) (b:=b+2) ⟨aF x z s⟩).below (by have:=c.o;omega) A);refine⟨x,_,rfl,⟨rfl,rfl⟩,X.o.keep a (bD q.o),by rw[q.o];exact a⟩
def Zz(w:V)(B:Nat)(x:eQ)(z:dH)(s:dV)(en:de)(w':V):Prop:=∃a,en=.returned (.agg ⟨aF a z s⟩)∧(a.ck=0∧a.rq=x.rq)∧eg w' B z s∧ae w.heap.size w w'
def EM(w:V)(B:Nat)(x:eQ)(z:dH)(s:dV)(e n:Int)(N P Q R S T X:Z)(h:eg w B z s)(a0:x.ck=1):ar M 87 #[.agg ⟨aF x z s⟩,.agg #[.int .i64 e,.int .i64 n,N,P,Q,R,S,T,X]] w (Zz w B x z s):=by
 obtain⟨b,hb⟩:∃b,w.heap.size=b:=⟨_,rfl⟩;obtain⟨W,hW⟩:∃W,((w.alloc (.cells ⟨aF x z s⟩ 55)).alloc (.cells #[.int .i64 e,.int .i64 n,N,P,Q,R,S,T,X] 59)).alloc (.cells sL 55)=W:=⟨_,rfl⟩;have F:Three w W w.heap.size w.heap.size ⟨aF x z s⟩ #[.int .i64 e,.int .i64 n,N,P,Q,R,S,T,X] sL 55 59 55:=by rw[←hW];exact Three.mk' _ _ (G _) _ _ _ _ _ _
 rw[hb]at F;have t:=D F.bl;have a:=D F.sz;have g:Hid (Bx W b (aF x z s) 55):=D F.k0;have C:=D F.k1;have j:Hid (∃cs:Array Z,cs.size=45∧W.heap[b+2]?=I (.cells cs 55 (0,0))):=D ⟨_,rfl,F.k2⟩;have HO:=D h;have b0:=D a0;have HW:=D hW;have H:=D hb;clear hW hb h F a0
 go_enter func87,ntmps87
 go_upto_region 1 with fail
 rw[HW.o,H.o];clear HW
 go_upto_region 2 with(first
  | ((with_reducible refine aT 7 ?_);refine j_ rfl _ (.tmp 6) rfl b 36 rfl [.int .i64 1,.int .i64 x.cd,.int .i64 0,.int .i64 x.cr,.int .i64 0,.slice J 0 0,.slice J 0 0] _ (g.o.range 36 _ (by show((aF x z s).drop 36).take 7=_;rw[←b0.o];rfl)) underlying51 rfl aj ?_)
  | (refine aJ rfl _ (.tmp 5) (.tmp 7) rfl W.heap.size _ rfl rfl _ _ (al W _) aj rfl (by simp[ap]) ?_;rw[dX]))
 obtain⟨g0,hV⟩:∃g0,W.alloc (.cells (px 1 x.cd x.cr) 51)=g0:=⟨_,rfl⟩;obtain⟨p,hp⟩:∃p,W.heap.size=p:=⟨_,rfl⟩;have r:ae W.heap.size W g0:=by rw[←hV];exact(aD _ _).alloc (G _) _
 have HP:Hid (g0.heap[p]?=I (.cells (px 1 x.cd x.cr) 51 (0,0))∧b+3≤p):=D ⟨by rw[←hV,←hp];exact al W _,by rw[←hp];exact a.o⟩;have g:=D (g.o.keep r (by have:=a.o;omega));have C:=D ((r.block (b+1) (by have:=a.o;omega)).trans C.o);have j:Hid (∃cs:Array Z,cs.size=45∧g0.heap[b+2]?=I (.cells cs 55 (0,0))):=D (by obtain⟨cs,K,u⟩:=j.o;exact⟨cs,K,(r.block _ (by have:=a.o;omega)).trans u⟩);have t:=D (t.o.trans (r.mono (by have:=a.o;omega)));have a:=D (aa a.o r.size);rw[hV,hp];clear hV hp r;go_upto_block 0 with(refine wpList_store_mid rfl _ (.tmp 9) (.tmp 8) rfl b 36 wA rfl rfl (g.o.there 36 7 (by show 36+7≤45;decide)) aj (by simp[ap]) ?_)
 obtain⟨d,E⟩:∃d,g0.setCells b 36 (wA:Array Z).toList=d:=⟨_,rfl⟩;have c:But b g0 d:=by rw[←E];exact But.EJ _ _ _
 have g:Hid (Bx d b (aF {x with ck:=0,cd:=0,cr:=0} z s) 55):=D (by rw[←E];exact Bx.to (Bx.EJ _ 36 g0 _ g.o (by show 36+7≤45;decide)) eZ);have j:Hid (∃cs:Array Z,cs.size=45∧d.heap[b+2]?=I (.cells cs 55 (0,0))):=D (by obtain⟨cs,K,u⟩:=j.o;exact⟨cs,K,(c.block _ (by have:=a.o;omega) A).trans u⟩);have C:Hid (d.heap[b+1]?=I (.cells #[.int .i64 e,.int .i64 n,N,P,Q,R,S,T,X] 59 (0,0))):=D ((c.block _ (by have:=a.o;omega) A).trans C.o);have HP:Hid (d.heap[p]?=I (.cells (px 1 x.cd x.cr) 51 (0,0))∧b+3≤p):=D ⟨(c.block _ (br HP.o.1).1 (by have:=HP.o.2;omega)).trans HP.o.1,HP.o.2⟩;have t:Hid (ae b w d):=D (t.o.trans (c.below (by have:=a.o;omega) (G _)));have a:Hid (b+3≤d.heap.size):=D (aa a.o c.size);rw[E];clear E c;have e0:d.cell? ⟨b+1,0,J⟩=I (.int .i64 e):=by simp only[an,C.o];rfl
 have e1:d.cell? ⟨b+1,1,J⟩=I (.int .i64 n):=by simp only[an,C.o];rfl
 have p0:d.cell? ⟨p,0,J⟩=I (.int .i64 1):=by simp only[an,HP.o.1];rfl
 have L:d.cell? ⟨b,43,J⟩=I (.bool x.fe):=g.o.has 45 rfl 43 aC;have f:=g.o.aq;by_cases u:e=16
 ·subst u
  go_upto_region 13 with fail
  clear e0 e1 p0 L f;obtain⟨k,l⟩:∃k,(d.setCell ⟨b,43,J⟩ (.bool O))=k:=⟨_,rfl⟩
  have c:But b d k:=by
   rw[←l]
   repeat (refine But.trans ?_ (But.set _ _ _ _))
   exact But.refl _ _
  have g:Hid (Bx k b (aF {x with ck:=0,cd:=0,cr:=0,fe:=O} z s) 55):=D (by
   rw[←l]
   refine Bx.to ((show Bx d b (aF {x with ck:=0,cd:=0,cr:=0} z s) 55 from g.o).st 43 _) eZ)
  have j:Hid (∃cs:Array Z,cs.size=45∧k.heap[b+2]?=I (.cells cs 55 (0,0))):=D (by obtain⟨cs,K,u⟩:=j.o;exact⟨cs,K,(c.block _ (by have:=a.o;omega) A).trans u⟩);have C:Hid (k.heap[b+1]?=I (.cells #[.int .i64 16,.int .i64 n,N,P,Q,R,S,T,X] 59 (0,0))):=D ((c.block _ (by have:=a.o;omega) A).trans C.o);have t:Hid (ae b w k):=D (t.o.trans (c.below (by have:=a.o;omega) (G _)));have a:Hid (b+3≤k.heap.size):=D (aa a.o c.size);rw[l];clear l c;obtain⟨cs,m,o⟩:=j.o;have q:=D o;have y:=D m;clear m o
  go_wp2_with (first
   | ((with_reducible refine aT 61 ?_);refine wpList_load_row rfl _ (.tmp 2) rfl b rfl _ _ (0,0) _ g.o underlying55 rfl aj ?_)
   | (refine aJ rfl _ (.tmp 4) (.tmp 61) rfl (b+2) _ rfl rfl _ _ q.o aj (by rw[y.o];rfl) (by simp[aF,ap]) ?_))
  refine au (v:=.agg ⟨aF {x with ck:=0,cd:=0,cr:=0,fe:=O} z s⟩) (eb results87 _ _ (b+2) 55 ⟨aF {x with ck:=0,cd:=0,cr:=0,fe:=O} z s⟩ (0,0) _ rfl (aO _ _ _ _ _ _ q.o) underlying55 rfl aj) rfl ?_;have i:=t.o.trans ((But.row (w:=k) (b:=b+2) ⟨aF {x with ck:=0,cd:=0,cr:=0,fe:=O} z s⟩).below (by have:=a.o;omega) A);refine⟨{x with ck:=0,cd:=0,cr:=0,fe:=O},rfl,⟨rfl,rfl⟩,HO.o.keep i (bD H.o),by rw[H.o];exact i⟩
 ·have q2:(e==16)=U:=by simpa using u
  clear u;by_cases h3:e=0
  rotate_left
  ·have q3:(e != 0)=O:=by simpa using h3
   clear h3;go_upto_region 13 with fail
   clear e0 e1 p0 L f q2 q3;obtain⟨cs,m,o⟩:=j.o;have q:=D o;have y:=D m;clear m o
   go_wp2_with (first
    | ((with_reducible refine aT 61 ?_);refine wpList_load_row rfl _ (.tmp 2) rfl b rfl _ _ (0,0) _ g.o underlying55 rfl aj ?_)
    | (refine aJ rfl _ (.tmp 4) (.tmp 61) rfl (b+2) _ rfl rfl _ _ q.o aj (by rw[y.o];rfl) (by simp[aF,ap]) ?_))
   refine au (v:=.agg ⟨aF {x with ck:=0,cd:=0,cr:=0} z s⟩) (eb results87 _ _ (b+2) 55 ⟨aF {x with ck:=0,cd:=0,cr:=0} z s⟩ (0,0) _ rfl (aO _ _ _ _ _ _ q.o) underlying55 rfl aj) rfl ?_;have i:=t.o.trans ((But.row (w:=d) (b:=b+2) ⟨aF {x with ck:=0,cd:=0,cr:=0} z s⟩).below (by have:=a.o;omega) A);refine⟨{x with ck:=0,cd:=0,cr:=0},rfl,⟨rfl,rfl⟩,HO.o.keep i (bD H.o),by rw[H.o];exact i⟩
  ·subst h3
   have d1:d.cell? ⟨b,1,J⟩=I (.int .i64 x.ep):=g.o.has 45 rfl 1 aC;have d9:d.cell? ⟨b,9,J⟩=I (.int .i64 0):=g.o.has 45 rfl 9 aC;have c0:d.cell? ⟨b,10,J⟩=I (.int .i64 0):=g.o.has 45 rfl 10 aC;have d0:d.cell? ⟨b,11,J⟩=I (.int .i64 0):=g.o.has 45 rfl 11 aC;have f0:d.cell? ⟨b,12,J⟩=I (.slice J 0 0):=g.o.has 45 rfl 12 aC;have d2:d.cell? ⟨b,2,J⟩=I (.int .i64 0):=g.o.has 45 rfl 2 aC;have d3:d.cell? ⟨b,3,J⟩=I (.int .i64 0):=g.o.has 45 rfl 3 aC;have d4:d.cell? ⟨b,4,J⟩=I (.int .i64 0):=g.o.has 45 rfl 4 aC;have d5:d.cell? ⟨b,5,J⟩=I (.int .i64 0):=g.o.has 45 rfl 5 aC;have d6:d.cell? ⟨b,6,J⟩=I (.slice J 0 0):=g.o.has 45 rfl 6 aC;have d7:d.cell? ⟨b,7,J⟩=I (.slice J 0 0):=g.o.has 45 rfl 7 aC;have d8:d.cell? ⟨b,8,J⟩=I (.slice J 0 0):=g.o.has 45 rfl 8 aC;go_upto_region 13 with fail
   clear e0 e1 p0 L f q2 d1 d9 c0 d0 f0 d2 d3 d4 d5 d6 d7 d8;obtain⟨k,l⟩:∃k,(((((((((((((d.setCell ⟨b,1,J⟩ (.int .i64 n)).setCell ⟨b,10,J⟩ (.int .i64 0)).setCell ⟨b,11,J⟩ (.int .i64 0)).setCell ⟨b,9,J⟩ (.int .i64 0)).setCell ⟨b,12,J⟩ (.slice J 0 0)).setCell ⟨b,2,J⟩ (.int .i64 0)).setCell ⟨b,3,J⟩ (.int .i64 0)).setCell ⟨b,4,J⟩ (.int .i64 0)).setCell ⟨b,5,J⟩ (.int .i64 0)).setCell ⟨b,6,J⟩ (.slice J 0 0)).setCell ⟨b,7,J⟩ (.slice J 0 0)).setCell ⟨b,8,J⟩ (.slice J 0 0)).setCell ⟨b,43,J⟩ (.bool U))=k:=⟨_,rfl⟩
   have c:But b d k:=by
    rw[←l]
    repeat (refine But.trans ?_ (But.set _ _ _ _))
    exact But.refl _ _
   have g:Hid (Bx k b (aF {x with ep:=n,ck:=0,cd:=0,cr:=0,fe:=U} z s) 55):=D (by
    rw[←l]
    refine Bx.to ((((((((((((((show Bx d b (aF {x with ck:=0,cd:=0,cr:=0} z s) 55 from g.o).st 1 _).st 10 _).st 11 _).st 9 _).st 12 _).st 2 _).st 3 _).st 4 _).st 5 _).st 6 _).st 7 _).st 8 _).st 43 _) eZ)
   have j:Hid (∃cs:Array Z,cs.size=45∧k.heap[b+2]?=I (.cells cs 55 (0,0))):=D (by obtain⟨cs,K,u⟩:=j.o;exact⟨cs,K,(c.block _ (by have:=a.o;omega) A).trans u⟩);have C:Hid (k.heap[b+1]?=I (.cells #[.int .i64 0,.int .i64 n,N,P,Q,R,S,T,X] 59 (0,0))):=D ((c.block _ (by have:=a.o;omega) A).trans C.o);have t:Hid (ae b w k):=D (t.o.trans (c.below (by have:=a.o;omega) (G _)));have a:Hid (b+3≤k.heap.size):=D (aa a.o c.size);rw[l];clear l c;obtain⟨cs,m,o⟩:=j.o;have q:=D o;have y:=D m;clear m o
   go_wp2_with (first
    | ((with_reducible refine aT 61 ?_);refine wpList_load_row rfl _ (.tmp 2) rfl b rfl _ _ (0,0) _ g.o underlying55 rfl aj ?_)
    | (refine aJ rfl _ (.tmp 4) (.tmp 61) rfl (b+2) _ rfl rfl _ _ q.o aj (by rw[y.o];rfl) (by simp[aF,ap]) ?_))
   refine au (v:=.agg ⟨aF {x with ep:=n,ck:=0,cd:=0,cr:=0,fe:=U} z s⟩) (eb results87 _ _ (b+2) 55 ⟨aF {x with ep:=n,ck:=0,cd:=0,cr:=0,fe:=U} z s⟩ (0,0) _ rfl (aO _ _ _ _ _ _ q.o) underlying55 rfl aj) rfl ?_;have i:=t.o.trans ((But.row (w:=k) (b:=b+2) ⟨aF {x with ep:=n,ck:=0,cd:=0,cr:=0,fe:=U} z s⟩).below (by have:=a.o;omega) A);refine⟨{x with ep:=n,ck:=0,cd:=0,cr:=0,fe:=U},rfl,⟨rfl,rfl⟩,HO.o.keep i (bD H.o),by rw[H.o];exact i⟩
def M1(w:V)(s:dV)(en:de)(w':V):Prop:=∃a b e,en=.returned (.tuple #[.agg ⟨aF a b s⟩,.int .i64 e])∧a.gd∧eg w' w.heap.size b s∧ae w.heap.size w w'
def Lp(w:V)(B:Nat)(x:eQ)(z:dH)(s:dV)(N:Nat)(rq e n:Int)(r t u C E F H:Z)(h:eg w B z s)(hf:s.ok N)(hN:N<99000)(i:rq≠0)(j:x.ck=0∨rq≠1)(f:x.gd):
  ar M 37 #[.agg ⟨aF x z s⟩,.int .i64 rq,.agg #[.int .i64 e,.int .i64 n,r,t,u,C,E,F,H]] w (M1 w s):=by
 obtain⟨b,K⟩:∃b,w.heap.size=b:=⟨_,rfl⟩;obtain⟨W,L⟩:∃W,((w.alloc (.cells ⟨aF x z s⟩ 55)).alloc (.cells #[.int .i64 e,.int .i64 n,r,t,u,C,E,F,H] 59)).alloc (.cells sL 55)=W:=⟨_,rfl⟩;have g:Three w W w.heap.size w.heap.size ⟨aF x z s⟩ #[.int .i64 e,.int .i64 n,r,t,u,C,E,F,H] sL 55 59 55:=by rw[←L];exact Three.mk' _ _ (G _) _ _ _ _ _ _
 rw[K]at g;have p:=D g.bl;have a:=D g.sz;have P:Hid (Bx W b (aF x z s) 55):=D g.k0;have Q:Hid (∃cs:Array Z,cs.size=45∧W.heap[b+2]?=I (.cells cs 55 (0,0))):=D ⟨_,rfl,g.k2⟩;have HO:=D h;have HF:=D hf;have HN:=D hN;have R:=D f;have RQ:=D f.2;have HW:=D L;have q:=D K;have q0:(rq==0)=U:=by simpa using i
 have S:W.cell? ⟨b,34,J⟩=I (.int .i64 1):=RQ.o▸P.o.has 45 rfl 34 aC;have T:W.cell? ⟨b,36,J⟩=I (.int .i64 x.ck):=P.o.has 45 rfl 36 aC;have X:=D j;clear L K h g hf hN f i j
 go_enter func37,ntmps37
 go_upto_region 1 with fail
 rw[HW.o,q.o];clear HW
 have hq:(x.ck==0)=O∨((x.ck==0)=U∧(rq != 1)=O):=by
  by_cases h0:x.ck=0
  ·exact .inl (by simpa using h0)
  ·exact .inr ⟨by simpa using h0,by simpa using X.o.resolve_left h0⟩
 obtain⟨cs,k,l⟩:=Q.o;have c:=D l;have a0:=D k;clear k l;rcases hq with q1 | ⟨q1,q2⟩
 all_goals
  go_upto_region 5 with fail
  clear S T q0 q1
  try clear q2
  go_wp2_with (first
   | ((with_reducible refine aT 33 ?_);refine wpList_load_row rfl _ (.tmp 3) rfl b rfl _ _ (0,0) _ P.o underlying55 rfl aj ?_)
   | ((go_at_call 72;refine(iB W B x z s N (HO.o.keep p.o (bD q.o)) HF.o HN.o).mono ?_);rintro en w2 ⟨y,rfl,m,d⟩;have b0:=D (m.to (show b+3≤W.heap.size from a.o));have c:=D ((d.block _ (by have:=a.o;omega)).trans c.o);have p:=D (p.o.trans (d.mono (by have:=a.o;omega)));have a:=D (aa a.o d.size);clear m d)
   | (refine aJ rfl _ (.tmp 6) (.tmp 34) rfl (b+2) _ rfl rfl _ _ c.o aj (by rw[a0.o];rfl) (by simp[aF,ap]) ?_))
  refine au (v:=.tuple #[.agg ⟨aF x y s⟩,.int .i64 2]) (results_cell_tmp results37 _ _ (b+2) 55 ⟨aF x y s⟩ (0,0) _ rfl (aO _ _ _ _ _ _ c.o) underlying55 rfl aj) rfl ?_;have o:But (b+2) w2 (w2.setRow (b+2) ⟨aF x y s⟩):=But.row _;refine⟨x,y,2,rfl,R.o,?_,?_⟩
  ·rw[q.o]
   exact(b0.o.but o A).to A
  ·rw[q.o]
   exact p.o.trans (o.below (by have:=a.o;omega) A)
def Lq(w:V)(B:Nat)(x:eQ)(z:dH)(s:dV)(N:Nat)(e n:Int)(i j k l m o p:Z)(h:eg w B z s)(hf:s.ok N)(hN:N<99000)(u:x.ck=1)(L:x.rq=1):
  ar M 37 #[.agg ⟨aF x z s⟩,.int .i64 1,.agg #[.int .i64 e,.int .i64 n,i,j,k,l,m,o,p]] w (M1 w s):=by
 obtain⟨b,hb⟩:∃b,w.heap.size=b:=⟨_,rfl⟩;obtain⟨W,hW⟩:∃W,((w.alloc (.cells ⟨aF x z s⟩ 55)).alloc (.cells #[.int .i64 e,.int .i64 n,i,j,k,l,m,o,p] 59)).alloc (.cells sL 55)=W:=⟨_,rfl⟩;have C:Three w W w.heap.size w.heap.size ⟨aF x z s⟩ #[.int .i64 e,.int .i64 n,i,j,k,l,m,o,p] sL 55 59 55:=by rw[←hW];exact Three.mk' _ _ (G _) _ _ _ _ _ _
 rw[hb]at C;have g:=D C.bl;have a:=D C.sz;have HR:=D C.k1;have HX:Hid (Bx W b (aF x z s) 55):=D C.k0;have c0:Hid (∃cs:Array Z,cs.size=45∧W.heap[b+2]?=I (.cells cs 55 (0,0))):=D ⟨_,rfl,C.k2⟩;have HO:=D h;have HF:=D hf;have HN:=D hN;have d0:=D u;have RQ:=D L;have HW:=D hW;have HE:=D hb;have e0:W.cell? ⟨b,34,J⟩=I (.int .i64 1):=RQ.o▸HX.o.has 45 rfl 34 aC;have f0:W.cell? ⟨b,36,J⟩=I (.int .i64 x.ck):=HX.o.has 45 rfl 36 aC;have q1:(x.ck==0)=U:=by rw[u];rfl
 clear hW hb h C hf hN u L;have k0:∀(args:Array Z)(W:V),(callFunc 87 args).run M W=.ok (.enter 87 args) W:=fun _ _=>by kernel_rfl
 go_enter func37,ntmps37
 go_upto_region 1 with fail
 rw[HW.o,HE.o];clear HW;go_upto_region 7 with fail
 clear e0 f0 q1;obtain⟨E,F⟩:∃E,W.drew=E:=⟨_,rfl⟩;have d:ae W.heap.size W E:=by rw[←F];exact(aD _ _).drew
 have g:=D (g.o.trans (d.mono (by have:=a.o;omega)));obtain⟨cs,P,Q⟩:=c0.o;have c:=D ((d.block _ (by have:=a.o;omega)).trans Q);have g0:=D P;have t:E.heap[b]?=I (.cells ⟨aF x z s⟩ 55 (0,0))∧E.heap[b+1]?=I (.cells #[.int .i64 e,.int .i64 n,i,j,k,l,m,o,p] 59 (0,0)):=⟨(d.block _ (by have:=a.o;omega)).trans HX.o,(d.block _ (by have:=a.o;omega)).trans HR.o⟩;have a:=D (aa a.o d.size);refine bT 4 (fun H=>H.heap[b]?=I (.cells ⟨aF x z s⟩ 55 (0,0))∧H.heap[b+1]?=I (.cells #[.int .i64 e,.int .i64 n,i,j,k,l,m,o,p] 59 (0,0))) aj ?_;rw[F];clear F d P Q;refine stP 0 (.func (.func 87) #[] #[]) t ?_;refine iA [2,4] 1 (.agg ⟨aF x z s⟩) rfl (b_ rfl _ (.tmp 3) rfl b 0 rfl (aF x z s) _ (fun H hw=>Bx.range (show Bx H b (aF x z s) 55 from hw.1) 0 _ eZ) underlying55 rfl aj) t ?_;refine iA [4] 3 (.agg #[.int .i64 e,.int .i64 n,i,j,k,l,m,o,p]) rfl (b_ rfl _ (.tmp 5) rfl (b+1) 0 rfl #[.int .i64 e,.int .i64 n,i,j,k,l,m,o,p].toList _ (fun H hw=>Bx.range (show Bx H (b+1) #[.int .i64 e,.int .i64 n,i,j,k,l,m,o,p].toList 59 from hw.2) 0 _ eZ) underlying59 rfl aj) t ?_;refine f_ 2 ?_;go_simp;refine(iB E B x z s N (HO.o.keep g.o (bD HE.o)) HF.o HN.o).mono ?_;rintro en w2 ⟨y,rfl,R,f⟩;have t:=(⟨(f.block _ (by have:=a.o;omega)).trans t.1,(f.block _ (by have:=a.o;omega)).trans t.2⟩:_∧_);have c:=D ((f.block _ (by have:=a.o;omega)).trans c.o);have g:=D (g.o.trans (f.mono (by have:=a.o;omega)));have h0:=D (R.to (show b+3≤E.heap.size from a.o));have a:=D (aa a.o f.size);clear R f;refine⟨t,?_⟩;refine f_ 4 ?_;go_simp;refine(EM w2 (b+3) x y s e n i j k l m o p h0.o d0.o).mono ?_;rintro en w3 ⟨K,rfl,S,T,q⟩;have c:=D ((q.block _ (by have:=a.o;omega)).trans c.o);have g:=D (g.o.trans (q.mono (by have:=a.o;omega)));have i0:=D T;have X:=D S;have a:=D (aa a.o q.size);clear T q S t;first | refine⟨fun h=>by cases h,?_⟩ | skip
 refine f_ 5 ?_;go_simp;refine(iB w3 (b+3) K y s N i0.o HF.o HN.o).mono ?_;rintro en w4 ⟨z4,rfl,a0,r⟩;have c:=D ((r.block _ (by have:=a.o;omega)).trans c.o);have g:=D (g.o.trans (r.mono (by have:=a.o;omega)));have j0:=D (a0.to (show b+3≤w3.heap.size from a.o));have a:=D (aa a.o r.size);clear a0 r;first | refine⟨fun h=>by cases h,?_⟩ | skip
 refine dK 6 ?_;refine eh _ (.tmp 6) (.tmp 40) rfl (b+2) ⟨aF K z4 s⟩ rfl rfl _ _ c.o aj (by rw[g0.o];rfl) (by simp[aF,ap]) ?_;refine⟨fun h=>absurd h aC,?_⟩;refine dK 7 ?_;go_simp;refine jj ?_;go_wp2;have b0:But (b+2) w4 (w4.setRow (b+2) ⟨aF K z4 s⟩):=But.row _;refine au (v:=.tuple #[.agg ⟨aF K z4 s⟩,.int .i64 0]) (results_cell_tmp results37 _ _ (b+2) 55 ⟨aF K z4 s⟩ (0,0) _ rfl (aO _ _ _ _ _ _ c.o) underlying55 rfl aj) rfl ?_;refine⟨K,z4,0,rfl,⟨.inl X.o.1,X.o.2.trans RQ.o⟩,?_,?_⟩
 ·rw[HE.o]
  exact(j0.o.but b0 A).to A
 ·rw[HE.o]
  exact g.o.trans (b0.below (by have:=a.o;omega) A)
abbrev jV:Array Z:= sL
def Jk(w:V)(B:Nat)(x:eQ)(z:dH)(s:dV)(N:Nat)(e n:Int)(P Q R S T X l6:Z)(h:eg w B z s)(hf:s.ok N)(hN:N<99000)(j0:x.gd):
  ar M 37 #[.agg ⟨aF x z s⟩,.int .i64 0,.agg #[.int .i64 e,.int .i64 n,P,Q,R,S,T,X,l6]] w (M1 w s):=by
 obtain⟨b,hb⟩:∃b,w.heap.size=b:=⟨_,rfl⟩;obtain⟨W,hW⟩:∃W,((w.alloc (.cells ⟨aF x z s⟩ 55)).alloc (.cells #[.int .i64 e,.int .i64 n,P,Q,R,S,T,X,l6] 59)).alloc (.cells jV 55)=W:=⟨_,rfl⟩;have a:Hid (Three w W b b ⟨aF x z s⟩ #[.int .i64 e,.int .i64 n,P,Q,R,S,T,X,l6] jV 55 59 55):=D (by rw[←hW,←hb];exact Three.mk' _ _ (G _) _ _ _ _ _ _);have HO:=D h;have HF:=D hf;have HN:=D hN;have t0:=D j0;have HW:=D hW;have HE:=D hb;have q0:((0:Int)==0)=O:=rfl;clear hW hb h hf hN j0
 go_enter func37,ntmps37
 go_upto_region 1 with fail
 rw[HW.o,HE.o];clear HW;go_upto_region 2 with fail
 go_cut[8,9] (fun u8 u9 wc=>∃(q:Nat)(c:eQ)(y:dH)(C:Int),u8=.pointer (I ⟨q,0,J⟩)∧u9=.int .i64 C∧Hid (wc.heap[q]?=I (.cells ⟨aF c y s⟩ 55 (0,0)))∧Hid (c.ck=x.ck∧c.rq=x.rq)∧Hid (eg wc (b+3) y s)∧Hid (Three w wc b b ⟨aF x z s⟩ #[.int .i64 e,.int .i64 n,P,Q,R,S,T,X,l6] jV 55 59 55))
 case first=>
  obtain⟨W1,k0⟩:∃W1,W.drew=W1:=⟨_,rfl⟩;have a:=D a.o.drew;refine bT 8 (fun K=>K.heap[b]?=I (.cells ⟨aF x z s⟩ 55 (0,0))∧K.heap[b+1]?=I (.cells #[.int .i64 e,.int .i64 n,P,Q,R,S,T,X,l6] 59 (0,0))) aj ?_;rw[k0]at a⊢;clear k0;have m0:=D a.o.sz;refine iA [1,3,4,5,8] 0 (.agg ⟨aF x z s⟩) rfl (b_ rfl _ (.tmp 3) rfl b 0 rfl (aF x z s) _ (fun K hw=>Bx.range (show Bx K b (aF x z s) 55 from hw.1) 0 _ eZ) underlying55 rfl aj) (show _∧_ from⟨a.o.k0,a.o.k1⟩) ?_;refine iA [3,4,5,8] 2 (.agg #[.int .i64 e,.int .i64 n,P,Q,R,S,T,X,l6]) rfl (b_ rfl _ (.tmp 5) rfl (b+1) 0 rfl #[.int .i64 e,.int .i64 n,P,Q,R,S,T,X,l6].toList _ (fun K hw=>Bx.range (show Bx K (b+1) #[.int .i64 e,.int .i64 n,P,Q,R,S,T,X,l6].toList 59 from hw.2) 0 _ eZ) underlying59 rfl aj) (show _∧_ from⟨a.o.k0,a.o.k1⟩) ?_;refine lD (i:=1) (j:=7) aj rfl rfl rfl rfl ?_ ?_
  ·go_simp
   refine(iB W1 B x z s N (HO.o.keep a.o.bl (bD HE.o)) HF.o HN.o).mono ?_;rintro en F ⟨y,rfl,a0,E⟩;have a:=D (a.o.keep E a.o.sz);have g0:=D a0;have i0:=D E;clear a0 E;refine⟨⟨a.o.k0,a.o.k1⟩,?_⟩;have n0:Hid (b+3≤W1.heap.size):=m0;have H:=D (g0.o.to n0.o);refine lD (i:=3) (j:=7) aj rfl rfl rfl rfl ?_ ?_
   ·go_simp
    refine(tq F (b+3) x y s e n P Q R S T X l6 H.o).mono ?_;rintro en L ⟨c,C,rfl,m,o,g⟩;have a:=D (a.o.keep g a.o.sz);have H:=D o;have p:=D m;have r:=D g;clear o g m;refine⟨⟨a.o.k0,a.o.k1⟩,?_⟩;refine stP 4 (.tuple #[.agg ⟨aF c y s⟩,.int .i64 C]) (show _∧_ from⟨a.o.k0,a.o.k1⟩) ?_;refine stP 5 (.agg ⟨aF c y s⟩) (show _∧_ from⟨a.o.k0,a.o.k1⟩) ?_;refine stP 6 (.int .i64 C) (show _∧_ from⟨a.o.k0,a.o.k1⟩) ?_;refine dK 7 ?_;go_simp;obtain⟨q,l⟩:∃q,L.heap.size=q:=⟨_,rfl⟩;obtain⟨f,b0⟩:∃K,L.alloc (.cells jV 55)=K:=⟨_,rfl⟩;rw[b0];have k:ae L.heap.size L f:=by rw[←b0];exact(aD _ _).alloc (G _) _
    have d:Hid (f.heap[q]?=I (.cells jV 55 (0,0))∧b+3≤q∧q<f.heap.size):=D ⟨by rw[←b0,←l];exact al _ _,by rw[←l];exact a.o.sz,by rw[←b0,←l];simp⟩;rw[l];have a:=D (a.o.keep k a.o.sz);have t:=D k;have h0:=D l;clear k l b0;refine⟨⟨a.o.k0,a.o.k1⟩,?_⟩;refine dK 8 ?_;refine eh _ (.tmp 8) (.tmp 18) rfl q ⟨aF c y s⟩ rfl rfl _ _ d.o.1 aj rfl (by simp[aF,ap]) ?_;refine⟨fun h=>absurd h aC,?_⟩;refine dK 9 ?_;go_simp;refine jj ?_;have u:But q f (f.setRow q ⟨aF c y s⟩):=But.row _;have c0:ae (b+3) f (f.setRow q ⟨aF c y s⟩):=u.below a.o.sz d.o.2.1;have a:=D (a.o.keep c0 (G _));have d0:Hid (eg (f.setRow q ⟨aF c y s⟩) (b+3) y s):=D ((H.o.keep ((t.o.trans (u.below t.o.size (bD h0.o)))) (G _)));go_wp2;go_meet
    case rel=>exact⟨q,c,y,C,rfl,rfl,D (aO _ _ _ _ _ _ d.o.1),p,d0,a⟩
   ·go_simp
    obtain⟨q,l⟩:∃q,F.heap.size=q:=⟨_,rfl⟩;obtain⟨L,e0⟩:∃K,F.alloc (.cells jV 55)=K:=⟨_,rfl⟩;rw[e0];have k:ae F.heap.size F L:=by rw[←e0];exact(aD _ _).alloc (G _) _
    have d:Hid (L.heap[q]?=I (.cells jV 55 (0,0))∧b+3≤q∧q<L.heap.size):=D ⟨by rw[←e0,←l];exact al _ _,by rw[←l];exact a.o.sz,by rw[←e0,←l];simp⟩;rw[l];have a:=D (a.o.keep k a.o.sz);have t:=D k;have h0:=D l;clear k l e0;refine⟨⟨a.o.k0,a.o.k1⟩,?_⟩;have H:=D (H.o.keep t.o (G _));refine dK 3 ?_;go_simp;refine(tq L (b+3) x y s e n P Q R S T X l6 H.o).mono ?_;rintro en f ⟨c,C,rfl,m,o,g⟩;have a:=D (a.o.keep g a.o.sz);have H:=D o;have p:=D m;have r:=D g;clear o g m;refine⟨⟨a.o.k0,a.o.k1⟩,?_⟩;have d:=D (⟨(r.o.block q d.o.2.2).trans d.o.1,d.o.2.1,ac d.o.2.2 r.o.size⟩:f.heap[q]?=_∧_∧_);refine stP 4 (.tuple #[.agg ⟨aF c y s⟩,.int .i64 C]) (show _∧_ from⟨a.o.k0,a.o.k1⟩) ?_;refine stP 5 (.agg ⟨aF c y s⟩) (show _∧_ from⟨a.o.k0,a.o.k1⟩) ?_;refine stP 6 (.int .i64 C) (show _∧_ from⟨a.o.k0,a.o.k1⟩) ?_;refine dK 8 ?_;refine eh _ (.tmp 8) (.tmp 18) rfl q ⟨aF c y s⟩ rfl rfl _ _ d.o.1 aj rfl (by simp[aF,ap]) ?_;refine⟨fun h=>absurd h aC,?_⟩;refine dK 9 ?_;go_simp;refine jj ?_;have u:But q f (f.setRow q ⟨aF c y s⟩):=But.row _;have c0:ae (b+3) f (f.setRow q ⟨aF c y s⟩):=u.below a.o.sz d.o.2.1;have a:=D (a.o.keep c0 (G _));have d0:Hid (eg (f.setRow q ⟨aF c y s⟩) (b+3) y s):=D ((((g0.o.to n0.o).keep ((t.o.trans (r.o.mono t.o.size)).trans (u.below (aa t.o.size r.o.size) (bD h0.o))) (G _))));go_wp2;go_meet
    case rel=>exact⟨q,c,y,C,rfl,rfl,D (aO _ _ _ _ _ _ d.o.1),p,d0,a⟩
  ·go_simp
   obtain⟨q,l⟩:∃q,W1.heap.size=q:=⟨_,rfl⟩;obtain⟨F,f0⟩:∃K,W1.alloc (.cells jV 55)=K:=⟨_,rfl⟩;rw[f0];have k:ae W1.heap.size W1 F:=by rw[←f0];exact(aD _ _).alloc (G _) _
   have d:Hid (F.heap[q]?=I (.cells jV 55 (0,0))∧b+3≤q∧q<F.heap.size):=D ⟨by rw[←f0,←l];exact al _ _,by rw[←l];exact a.o.sz,by rw[←f0,←l];simp⟩;rw[l];have a:=D (a.o.keep k a.o.sz);have t:=D k;have h0:=D l;clear k l f0;refine⟨⟨a.o.k0,a.o.k1⟩,?_⟩;have v0:=D d.o.2.2;have w0:=D a.o.sz;refine dK 1 ?_;go_simp;refine(iB F B x z s N (HO.o.keep a.o.bl (bD HE.o)) HF.o HN.o).mono ?_;rintro en L ⟨y,rfl,a0,E⟩;have a:=D (a.o.keep E a.o.sz);have g0:=D a0;have i0:=D E;clear a0 E;refine⟨⟨a.o.k0,a.o.k1⟩,?_⟩;have d:=D (⟨(i0.o.block q d.o.2.2).trans d.o.1,d.o.2.1,ac d.o.2.2 i0.o.size⟩:L.heap[q]?=_∧_∧_);have H:=g0;refine dK 3 ?_;go_simp;refine(tq L (F.heap.size) x y s e n P Q R S T X l6 H.o).mono ?_;rintro en f ⟨c,C,rfl,m,o,g⟩;have a:=D (a.o.keep g a.o.sz);have H:=D o;have p:=D m;have r:=D g;clear o g m;refine⟨⟨a.o.k0,a.o.k1⟩,?_⟩;have o0:Hid (q<F.heap.size∧b+3≤F.heap.size):=D ⟨v0.o,w0.o⟩;have d:=D (⟨(r.o.block q d.o.2.2).trans d.o.1,d.o.2.1,ac d.o.2.2 r.o.size⟩:f.heap[q]?=_∧_∧_);refine stP 4 (.tuple #[.agg ⟨aF c y s⟩,.int .i64 C]) (show _∧_ from⟨a.o.k0,a.o.k1⟩) ?_;refine stP 5 (.agg ⟨aF c y s⟩) (show _∧_ from⟨a.o.k0,a.o.k1⟩) ?_;refine stP 6 (.int .i64 C) (show _∧_ from⟨a.o.k0,a.o.k1⟩) ?_;refine dK 8 ?_;refine eh _ (.tmp 8) (.tmp 18) rfl q ⟨aF c y s⟩ rfl rfl _ _ d.o.1 aj rfl (by simp[aF,ap]) ?_;refine⟨fun h=>absurd h aC,?_⟩;refine dK 9 ?_;go_simp;refine jj ?_;have u:But q f (f.setRow q ⟨aF c y s⟩):=But.row _;have c0:ae (b+3) f (f.setRow q ⟨aF c y s⟩):=u.below a.o.sz d.o.2.1;have a:=D (a.o.keep c0 (G _));have d0:Hid (eg (f.setRow q ⟨aF c y s⟩) (b+3) y s):=D (((H.o.but u o0.o.1).to o0.o.2));go_wp2;go_meet
   case rel=>exact⟨q,c,y,C,rfl,rfl,D (aO _ _ _ _ _ _ d.o.1),p,d0,a⟩
 case rest=>
  obtain⟨q,c,y,C,rfl,rfl,d,p,H,a⟩:=hcut;have x0:=D a.o.sz
  go_wp2_with (first
   | ((with_reducible refine aT 20 ?_);refine wpList_load_row rfl _ (.tmp 8) rfl q rfl _ _ (0,0) _ d.o underlying55 rfl aj ?_)
   | ((go_at_call 72;refine(iB wc (b+3) c y s N H.o HF.o HN.o).mono ?_);rintro en f ⟨z4,rfl,p0,r0⟩;have a:=D (a.o.keep r0 a.o.sz);have y0:=D (p0.to (show b+3≤wc.heap.size from x0.o));clear p0 r0)
   | (refine aJ rfl _ (.tmp 6) (.tmp 21) rfl (b+2) _ rfl rfl _ _ a.o.k2 aj (rfl) (by simp[aF,ap]) ?_))
  have s0:But (b+2) f (f.setRow (b+2) ⟨aF c z4 s⟩):=But.row _;refine au (v:=.tuple #[.agg ⟨aF c z4 s⟩,.int .i64 C]) (results_cell_tmp results37 _ _ (b+2) 55 ⟨aF c z4 s⟩ (0,0) _ rfl (aO _ _ _ _ _ _ a.o.k2) underlying55 rfl aj) rfl ?_;refine⟨c,z4,C,rfl,by unfold eQ.gd;rw[p.o.1,p.o.2];exact t0.o,?_,?_⟩
  ·rw[HE.o]
   exact(y0.o.but s0 A).to A
  ·rw[HE.o]
   exact a.o.bl.trans (s0.below (by have:=a.o.sz;omega) A)
def Lr{w:V}{base g c:Nat}{l:List UInt8}(h:w.ownsRow base 5 1 (.slice (I ⟨g,0,J⟩) l.length c) l.length (bX l))(i j:Nat)(hi:i<l.length)(b:j<l.length):
  ((w.setCell ⟨g,i,J⟩ (.int .u8 l[j].toNat)).setCell ⟨g,j,J⟩ (.int .u8 l[i].toNat)).ownsRow base 5 1 (.slice (I ⟨g,0,J⟩) ((l.set i l[j]).set j l[i]).length c) ((l.set i l[j]).set j l[i]).length (bX ((l.set i l[j]).set j l[i])):=by
 have a:=mr (mr h i (by simp[bX];omega) (.int .u8 l[j].toNat)) j (by simp[bX];omega) (.int .u8 l[i].toNat);have e:bX ((l.set i l[j]).set j l[i])=((bX l).set i (.int .u8 l[j].toNat)).set j (.int .u8 l[i].toNat):=by simp[bX,List.map_set]
 rw[e];simpa using a
def Hd(w:V)(base g c:Nat)(l:List UInt8)(h:w.ownsRow base 5 1 (.slice (I ⟨g,0,J⟩) l.length c) l.length (bX l))(y:l.length<1000)(z:0<l.length):
  ar M 222 #[.slice (I ⟨g,0,J⟩) l.length c] w (fun R w'=>R=.returned (.tuple #[])∧∃a:List UInt8,a.length=l.length∧w'.ownsRow base 5 1 (.slice (I ⟨g,0,J⟩) l.length c) l.length (bX a)∧w.grownBy w' (I g)):=by
 obtain⟨n,B⟩:∃n,l.length=n:=⟨_,rfl⟩;rw[B]at h y z⊢;have S:=D h;have K:=D y;have T:=D z;have W:=D B;have e1:bi ((n:Int)-1)=((n-1:Nat):Int):=by rw[ag _ A];omega
 clear h y z B
 go_enter func222,ntmps222
 go_wp2
 go_loopw[2,3] (fun X vj wr=>∃(i j:Nat)(a:List UInt8),X=.int .i64 i∧vj=.int .i64 ((j:Int)-1)∧j≤n∧i≤n∧a.length=n∧Hid (wr.ownsRow base 5 1 (.slice (I ⟨g,0,J⟩) n c) n (bX a))∧Hid (w.grownBy wr (I g))) (fun _ vj _=>(intOf vj+1).toNat)
 case atStart=>exact⟨0,n,l,rfl,by have:=T.o;congr 1;omega,G _,Nat.zero_le _,W.o,S,D (gF _ _)⟩
 case round=>
  obtain⟨i,j,a,rfl,rfl,L,hi,d,f,r⟩:=hrel;by_cases m:i+1<j
  ·have N:decide ((i:Int)<(j:Int)-1)=O:=by rw[decide_eq_true_eq];omega
   obtain⟨j,rfl⟩:∃k,j=k+1:=⟨j-1,by omega⟩;have P:(((j+1:Nat):Int)-1)=(j:Int):=A
   rw[P]at N⊢;clear P;have s:i<a.length:=A
   have t:j<a.length:=A
   obtain⟨-,u,-,-,-,o,p⟩:=iP f.o;have ci:wr.cell? ⟨g,i,J⟩=I (.int .u8 a[i].toNat):=p i _ (by simp[bX,s]);have cj:wr.cell? ⟨g,j,J⟩=I (.int .u8 a[j].toNat):=p j _ (by simp[bX,t]);have fi:=o i;have fj:=o j;have a0:=D u;clear p o u;have b1:(i:Int)<n:=A
   have b2:(j:Int)<n:=A
   go_upto_region 3 with fail
   refine bT 13 (fun w'=>w'=wr.drew) aj ?_;have b:wr.drew=wr.drew:=rfl;refine stP 0 (.slice (I ⟨g,0,J⟩) n c) b ?_;refine stP 1 (.int .i64 i) b ?_;refine stP 2 (.slice (I ⟨g,0,J⟩) n c) b ?_;refine stP 3 (.int .i64 j) b ?_;refine stP 4 (.slice (I ⟨g,0,J⟩) n c) b ?_;refine stP 5 (.int .i64 j) b ?_;refine stP 6 (.pointer (I ⟨g,j,J⟩)) b ?_;refine stP 8 (.slice (I ⟨g,0,J⟩) n c) b ?_;refine stP 9 (.int .i64 i) b ?_;refine stP 10 (.pointer (I ⟨g,i,J⟩)) b ?_;refine lT 7 (.int .u8 a[j].toNat) rfl rfl (.inl ⟨rfl,fun w' C=>?_⟩) b ?_
   ·rw[C]
    go_simp
   refine lT 11 (.int .u8 a[i].toNat) rfl rfl (.inl ⟨rfl,fun w' C=>?_⟩) b ?_
   ·rw[C]
    go_simp
   refine stP 12 (.pointer (I ⟨g,i,J⟩)) b ?_;refine dK 13 ?_;go_simp;refine dK 14 ?_;go_simp;refine dK 15 ?_;go_simp;refine jj ?_;have q:=AL (Lr (w:=wr) (l:=a) (by rw[d];exact f.o) i j s t) 1;simp only[eE,d]at q;have E:=D q;clear q
   have b0:Hid (w.grownBy ((wr.setCell ⟨g,i,J⟩ (.int .u8 a[j].toNat)).setCell ⟨g,j,J⟩ (.int .u8 a[i].toNat)).drew (I g)):=D ⟨r.o.os,r.o.tape,r.o.output,by simp[aV];exact r.o.size,fun k hk v=>by
    have Q:k≠g:=fun e=>v (by rw[e])
    show((wr.setCell ⟨g,i,J⟩ (.int .u8 a[j].toNat)).setCell ⟨g,j,J⟩ (.int .u8 a[i].toNat)).heap[k]?=_;rw[bC _ _ _ _ Q,bC _ _ _ _ Q]
    exact r.o.block k hk v⟩
   have F:=D d;have x:=D (And.intro hi L);have H:=D m;have e3:bi ((i:Int)+1)=((i+1:Nat):Int):=by rw[ag _ (by have:=K.o;omega)];omega
   have e4:bi ((j:Int)-1)=(j:Int)-1:=by rw[ag _ (by have:=K.o;omega)]
   clear d hi L m b1 b2 ci cj fi fj;go_wp2;refine⟨⟨i+1,by omega,j,by omega,by have:=x.o;omega,by have:=H.o;have:=x.o;omega,_,?_,E⟩,?_⟩
   ·have:=F.o
    simp[this]
   ·simp[intOf]<;>omega
  ·have N:decide ((i:Int)<(j:Int)-1)=U:=by rw[decide_eq_false_iff_not];omega
   clear m;go_wp2
   go_end0
   exact⟨rfl,a,d,f.o,r.o⟩
end Go.Proofs.YtdgllhcfablaoaaGreat
