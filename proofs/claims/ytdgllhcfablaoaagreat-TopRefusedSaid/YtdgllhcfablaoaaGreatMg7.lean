/- What the law asks, in parts: VDg VDd VAv VDh VFa VBe. -/
import Derived.Test.YtdgllhcfablaoaaGreatMg6
import Derived.Test.YtdgllhcfablaoaaGreatMg4
import Derived.Test.YtdgllhcfablaoaaGreatMg3
import Derived.Test.YtdgllhcfablaoaaGreatMg1
import Derived.Test.YtdgllhcfablaoaaGreatMg5
set_option linter.all false
set_option maxRecDepth 100000
set_option maxHeartbeats 16000000
open Go.Proofs.Tryz
open Bool renaming false→U,true→O
open Option renaming some→I,none→J
open Go renaming World→V,Value→Z,bodyPost_ret→au,Calls→ar,heap_alloc_new→al,Addr→aB,TypeId→aN,Ending→de,wpList→cH,info_parts→fT,maxLen→gC
open Nat renaming lt_of_lt_of_le→ac,le_trans→aa,zero_le→aw,lt_or_ge→aL,le_of_eq→bD,add_zero→dg,le_succ→dW,le_succ_of_le→gR,ne_of_lt→lZ,lt_irrefl→nn
open Go.RowKit renaming Below→ae,intOf→bp
open Go.IntWalk renaming wrap64_in→ag
open List renaming length_append→ay,drop_eq_getElem_cons→eD,length_set→eE,length_cons→eI,drop_eq_nil_of_le→e_,take_succ_eq_append_getElem→gb,mem_flatMap→kU,take_succ_cons→lw,drop_succ_cons→lx,mem_iff_getElem?→nk,set_cons_succ→vL
open Go.World renaming cell?→an,setCell→aV,ownsRow_nil→cD,ownsRow→jc
open Array renaming getElem?_modify→aR
open Go.RowKit.Below renaming heap_setCell→bC,setCell→cu,heap_alloc→ed,alloc→sJ,drew→uZ
open Go.Addr renaming add_lit→dM
open Prod.mk renaming injEq→eP
open And renaming intro→eK
open Go.World.ownsRow renaming lt→jz
open Go.Proofs.Tryz renaming prog→M
namespace Go.Proofs.YtdgllhcfablaoaaGreat
open Go.RowKit
def Hg(w:V)(B:Nat)(z:dY)(c:eo)(N:Nat)(d1 d2 d3 cl v kd n t:Int)(ky tx:List UInt8)(ds:List D3)(da:Option aB)(dc:Nat)(h:bB w B z c)(hB:B≤w.heap.size)(hf:c.ok N)(hN:N<90000)(t0:ky.length≤40)(v0:tx.length≤40)(hd:∀W,ae B w W→cc cn.f cn.E W (.slice da ds.length dc) ds)(h8:ds.length≤8):
  ar M 164 #[.agg ⟨z.l c⟩,.agg (iG d1 d2 d3 cl v kd ky tx n t da ds.length dc)] w (Jh w B (N+8)):=by
 obtain⟨⟨va,vc⟩,⟨ra,rc⟩,⟨ea,ec⟩,⟨H,K⟩,⟨sa,sc⟩,⟨ba,bc⟩⟩:=z;simp only[dY.l];obtain⟨b,hb⟩:∃b,w.heap.size=b:=⟨_,rfl⟩;obtain⟨W,hW⟩:∃W,((w.alloc (.cells (di va c.v.length vc ra c.r.length rc ea c.e.length ec H c.g.length K sa c.s.length sc ba c.b.length bc) 47)).alloc (.cells (iG d1 d2 d3 cl v kd ky tx n t da ds.length dc) 75)).alloc (.cells jR 47)=W:=⟨_,rfl⟩;have j:Hid (Three w W B b (di va c.v.length vc ra c.r.length rc ea c.e.length ec H c.g.length K sa c.s.length sc ba c.b.length bc) (iG d1 d2 d3 cl v kd ky tx n t da ds.length dc) jR 47 75 47):=D (by rw[←hW,←hb];exact Three.mk' _ _ hB _ _ _ _ _ _);have o:=D (h.keep (by rw[←hW];exact rT w _ _ _:ae w.heap.size w W) (G _));have F0:Hid (B≤b):=D (by rw[←hb];exact hB);have HF:=D hf;have HN:=D hN;have G0:=D t0;have H0:=D v0;have HW:=D hW;have HE:=D hb;have HD:=D hd;have H8:=D h8;clear h hB hf hN t0 v0 hW hb hd h8
 go_enter func164,ntmps164
 go_upto_region 1 with fail
 rw[HW.o,HE.o];clear HW;obtain⟨o0,o1,o2,o3,o4,o5,o6,o7,o8,o9,L⟩:=bL j.o.k1;go_wp2;clear o0 o1 o2 o3 o4 o5 o6 o7 o8 o9 L
 go_loopw[12] (fun vk wr=>∃(k:Nat)(z:dY)(c:eo),vk=.int .i64 k∧Hid (k≤ds.length)∧Hid (Three w wr B b ⟨z.l c⟩ (iG d1 d2 d3 cl v kd ky tx n t da ds.length dc) jR 47 75 47)∧Hid (bB wr B z c)∧Hid (c.ok (N+k))) (fun vk _=>ds.length-(bp vk).toNat)
 case atStart=>exact⟨0,⟨(va,vc),(ra,rc),(ea,ec),(H,K),(sa,sc),(ba,bc)⟩,c,rfl,D (aw _),j,o,HF⟩
 case round=>
  clear j o HF;obtain⟨k,z,c,rfl,HK,j,o,HF⟩:=hrel;obtain⟨⟨va,vc⟩,⟨ra,rc⟩,⟨ea,ec⟩,⟨H,K⟩,⟨sa,sc⟩,⟨ba,bc⟩⟩:=z;simp only[dY.l]at j;have d0:Hid (N+8<90010):=D (by have:=HN.o;omega);rcases aL k ds.length with g0 | I0
  ·have w0:=HD.o wr j.o.bl
   obtain⟨db,h0,A0,B0,e0⟩:=cc.at w0 cn.len cn.pos (aD _ _) (G _) k g0;subst A0;generalize ds[k]=d at*;obtain⟨r,s,u⟩:=d;have c0:wr.cell? ⟨db,h0+k*3,J⟩=I (.int .i64 r):=e0 0 _ rfl;have c1:wr.cell? ⟨db,h0+k*3+1,J⟩=I (.int .i64 s):=e0 1 _ rfl;have c2:wr.cell? ⟨db,h0+k*3+2,J⟩=I (.int .i64 u):=e0 2 _ rfl;have J0:(k:Int)<ds.length:=A
   have m:=D g0;clear e0 w0 g0 B0;go_upto_region 4 with fail
   obtain⟨p,hp⟩:∃p,wr.heap.size=p:=⟨_,rfl⟩;obtain⟨L0,hV⟩:∃L0,wr.alloc (.cells #[.int .i64 r,.int .i64 s,.int .i64 u] 73)=L0:=⟨_,rfl⟩;have i0:ae wr.heap.size wr L0:=by rw[←hV];exact(aD _ _).alloc (G _) _
   have C:Hid (L0.heap[p]?=I (.cells #[.int .i64 r,.int .i64 s,.int .i64 u] 73 (0,0))∧b+3≤p∧p<L0.heap.size):=D ⟨by rw[←hV,←hp];exact al wr _,by rw[←hp];exact j.o.sz,by rw[←hV,←hp];simp⟩;have C0:Hid ((.slice H c.g.length K:Z).ownBlock≠I p):=D (fun e=>by have:=(jz o.o.g _ e).2;omega);have j:=D (j.o.keep i0 j.o.sz);have o:=D (o.o.keep i0 (G _));have x0:=C.o.2.1;rw[hV,hp];clear hV hp i0 c0 c1 c2;obtain⟨b0,b1,b2,b3,b4,b5⟩:=ah j.o.k0;obtain⟨q0,q1,q2,-⟩:=aW C.o.1;go_upto_region 5 with((go_at_call 228;refine(CM _ B ⟨(va,vc),(ra,rc),(ea,ec),(H,K),(sa,sc),(ba,bc)⟩ c r s u o.o (HF.o.few (by have:=d0.o;have:=m.o;have:=H8.o;omega))).mono ?_);rintro en w9 ⟨i,q,rfl,h9,b9⟩;have H9:=D h9.o;have B9:=D b9.o;clear h9 b9)
   have j:=D (j.o.keep B9.o (by have:=j.o.sz;omega));have o:=D (o.o.keep B9.o (G _));have C:=D (⟨(B9.o.block p C.o.2.2).trans C.o.1,C.o.2.1,ac C.o.2.2 B9.o.size⟩:_∧_∧_);clear b0 b1 b2 b3 b4 b5 q0 q1 q2
   cases q with
   | true=>
    obtain⟨b0,b1,b2,b3,b4,b5⟩:=ah j.o.k0;have f2:=aq j.o.k0 2
    go_upto_region 8 with(
     (go_at_call 235;refine(M5 _ c.e p B r s u _ o.o.e (by have:=j.o.lo;have:=j.o.sz;omega) (by have:=HF.o.ne;have:=d0.o;have:=m.o;have:=H8.o;have:=HN.o;omega) C.o.1).mono ?_)
     rintro en j0 ⟨a2,k2,P,rfl,Q,E,R,S⟩;have y:=bB.G_ (a:=a2) (k:=k2) o.o E Q;have g:=j.o.row o.o.e E aC aC aC;have f:=D (g.put 2 (.slice a2 P.length k2));have l:=D ((⟨y,_,g.k0⟩:g_ _ _ b _ _).put 2 (.slice a2 P.length k2)).c;have T:=D (eK R S);obtain⟨b0,b1,b2,b3,b4,b5⟩:=ah g.k0;have f2:=aq g.k0 2
     clear y g Q E R S)
    have k0:Hid (eo.ok ⟨c.v,c.r,P,c.g,c.s,c.b⟩ (N+(k+1))):=D (HF.o.P6 A (by have:=T.o.1;have:=HF.o.ne;omega) (fun x hx=>HF.o.te x (T.o.2 x hx)));obtain⟨W3,F⟩:∃W3,j0.setCell ⟨b,2,J⟩ (.slice a2 P.length k2)=W3:=⟨_,rfl⟩;rw[F]at f l;rw[F];have l0:Hid (k+1≤ds.length):=D m.o;clear F b0 b1 b2 b3 b4 b5 f2 x0;have e9:wrap64 ((k:Int)+1)=(k:Int)+1:=ag _ (by have:=m.o;have:=H8.o;omega);go_wp2;go_roundw
    case rel=>exact⟨k+1,⟨(va,vc),(ra,rc),(a2,k2),(H,K),(sa,sc),(ba,bc)⟩,⟨c.v,c.r,P,c.g,c.s,c.b⟩,by go_num,l0,f,l,k0⟩
    case measure=>exact bA m.o _ eT
   | false=>
    obtain⟨b0,b1,b2,b3,b4,b5⟩:=ah j.o.k0;obtain⟨q0,q1,q2,-⟩:=aW C.o.1;have HI:=D H9.o.1;have HO:Hid (cn.own (w9.alloc (.cells #[.int .i64 r,.int .i64 s,.int .i64 u] 73)) B (.slice H c.g.length K) c.g):=D (o.o.g.keep ((aD _ _).alloc (G _) _) (G _));have D0:Hid ((.slice H c.g.length K:Z).ownBlock≠I w9.heap.size):=D (fun e=>nn _ (jz o.o.g _ e).2);have f4:=aq j.o.k0 3
    go_upto_region 7 with(
     (go_at_call 234;refine(CV _ c.g.length i (ca cn.f c.g) (cn.f (r,s,u)) _ B w9.heap.size HO.o (jr cn.one _) (cn.one _) rfl (by have:=HF.o.ng;have:=d0.o;have:=m.o;have:=H8.o;omega) HI.o (by have:=j.o.lo;have:=j.o.sz;simp;omega) (al w9 _) D0.o).mono ?_)
     rintro en X ⟨v',rfl,L,a0,-⟩;obtain⟨a',k',rfl,-,-⟩:=bY L
     have y0:cn.own X B (.slice a' (putAt c.g i (r,s,u)).length k') (putAt c.g i (r,s,u)):=by
      have h1:=mS cn c.g i (r,s,u);show jc _ _ _ _ _ (putAt c.g i (r,s,u)).length _;rw[fO _ _ _ HI.o,←h1];exact L
     have m0:bB (w9.alloc (.cells #[.int .i64 r,.int .i64 s,.int .i64 u] 73)) B ⟨(va,vc),(ra,rc),(ea,ec),(H,K),(sa,sc),(ba,bc)⟩ c:=o.o.keep ((aD _ _).alloc (G _) _) (G _);have y:=bB.SP (a:=a') (k:=k') m0 a0 y0;have g:=(j.o.keep ((aD w9.heap.size w9).alloc (G _) _) j.o.sz).row m0.g a0 aC aC aC;have n0:X.heap[p]?=I (.cells #[.int .i64 r,.int .i64 s,.int .i64 u] 73 (0,0)):=(a0.block p (by have:=C.o.2.2;simp;omega) (Ne.symm C0.o)).trans ((ed _ _ _ C.o.2.2).trans C.o.1);have E0:=a0.size;have f:=D (g.put 3 (.slice a' (c.g.length+1) k'));have l:=D ((⟨y,_,g.k0⟩:g_ _ _ b _ _).put 3 (.slice a' (c.g.length+1) k')).c;have p0:Hid ((X.setCell ⟨b,3,J⟩ (.slice a' (c.g.length+1) k')).heap[p]?=I (.cells #[.int .i64 r,.int .i64 s,.int .i64 u] 73 (0,0))∧b+3≤p∧p<(X.setCell ⟨b,3,J⟩ (.slice a' (c.g.length+1) k')).heap.size):=D ⟨(bC _ _ _ _ (by show p≠b;omega)).trans n0,C.o.2.1,by have:=(br n0).1;simpa[aV]using this⟩;obtain⟨b0,b1,b2,b3,b4,b5⟩:=ah g.k0;have f4:=aq g.k0 3
     clear y0 m0 y g L a0 n0 E0)
    obtain⟨W2,s0⟩:∃W2,X.setCell ⟨b,3,J⟩ (.slice a' (c.g.length+1) k')=W2:=⟨_,rfl⟩;rw[s0]at f l p0;rw[s0];have z0:Hid (eo.ok ⟨c.v,c.r,c.e,(putAt c.g i (r,s,u)),c.s,c.b⟩ (N+(k+1))):=D (HF.o.Zx A (by rw[fO _ _ _ HI.o];have:=HF.o.ng;omega));have j:=f;have o:=l;have C:=p0;clear s0 b0 b1 b2 b3 b4 b5 q0 q1 q2 f4 f l p0;obtain⟨b0,b1,b2,b3,b4,b5⟩:=ah j.o.k0;have f2:=aq j.o.k0 2
    go_upto_region 8 with(
     (go_at_call 235;refine(M5 _ c.e p B r s u _ o.o.e (by have:=j.o.lo;have:=j.o.sz;omega) (by have:=HF.o.ne;have:=d0.o;have:=m.o;have:=H8.o;have:=HN.o;omega) C.o.1).mono ?_)
     rintro en j0 ⟨a2,k2,P,rfl,Q,E,R,S⟩;have y:=bB.G_ (a:=a2) (k:=k2) o.o E Q;have g:=j.o.row o.o.e E aC aC aC;have f:=D (g.put 2 (.slice a2 P.length k2));have l:=D ((⟨y,_,g.k0⟩:g_ _ _ b _ _).put 2 (.slice a2 P.length k2)).c;have T:=D (eK R S);obtain⟨b0,b1,b2,b3,b4,b5⟩:=ah g.k0;have f2:=aq g.k0 2
     clear y g Q E R S)
    have k0:Hid (eo.ok ⟨c.v,c.r,P,(putAt c.g i (r,s,u)),c.s,c.b⟩ (N+(k+1))):=D (z0.o.P6 A (by have:=T.o.1;have:=HF.o.ne;omega) (fun x hx=>HF.o.te x (T.o.2 x hx)));obtain⟨W3,F⟩:∃W3,j0.setCell ⟨b,2,J⟩ (.slice a2 P.length k2)=W3:=⟨_,rfl⟩;rw[F]at f l;rw[F];have l0:Hid (k+1≤ds.length):=D m.o;clear F b0 b1 b2 b3 b4 b5 f2 x0;have e9:wrap64 ((k:Int)+1)=(k:Int)+1:=ag _ (by have:=m.o;have:=H8.o;omega);go_wp2;go_roundw
    case rel=>exact⟨k+1,⟨(va,vc),(ra,rc),(a2,k2),(a',k'),(sa,sc),(ba,bc)⟩,⟨c.v,c.r,P,(putAt c.g i (r,s,u)),c.s,c.b⟩,by go_num,l0,D (by simpa[dY.l,fO _ _ _ HI.o]using f.o),l,k0⟩
    case measure=>exact bA m.o _ eT
  ·have K0:k=ds.length:=by have:=HK.o;omega
   have HF:=D (HF.o.up (show N+k≤N+8 by have:=H8.o;omega));have f:=j;have l:=o;obtain⟨b0,b1,b2,b3,b4,b5⟩:=ah f.o.k0;obtain⟨r0,r1,r2,r3,r4,r5⟩:=ah f.o.k2;have f0:=aq f.o.k2 0;have f1:=aq f.o.k2 1;have f2:=aq f.o.k2 2;have f3:=aq f.o.k2 3;have f4:=aq f.o.k2 4;have f5:=aq f.o.k2 5;go_wp2;refine au (v:=.agg (di va c.v.length vc ra c.r.length rc ea c.e.length ec H c.g.length K sa c.s.length sc ba c.b.length bc)) (by simp[results,results164,go_sem, *]) rfl ?_;refine⟨⟨(va,vc),(ra,rc),(ea,ec),(H,K),(sa,sc),(ba,bc)⟩,⟨c.v,c.r,c.e,c.g,c.s,c.b⟩,by simp[dY.l],?_,?_,?_⟩
   ·refine g_.c (b:=b+2) ?_
    repeat (apply g_.put)
    exact⟨l.o,_,f.o.k2⟩
   ·exact HF.o
   ·repeat (refine cu ?_ (by have:=f.o.lo;show B≤b+2;omega) _)
    exact f.o.bl
def rW{w:V}{b:Nat}{a c d e f g i:Z}{t:aN}(h:w.heap[b]?=I (.cells #[a,c,d,e,f,g,i] t (0,0))):
  w.cell? ⟨b,0,J⟩=I a∧w.cell? ⟨b,1,J⟩=I c∧w.cell? ⟨b,2,J⟩=I d∧w.cell? ⟨b,3,J⟩=I e∧w.cell? ⟨b,4,J⟩=I f∧w.cell? ⟨b,5,J⟩=I g∧w.cell? ⟨b,6,J⟩=I i:=by
 refine⟨?_,?_,?_,?_,?_,?_,?_⟩<;>simp[an,h]
def Ox(w:V)(B:Nat)(z:dY)(c:eo)(N:Nat)(y C E cl v k n t:Int)(F tx:List UInt8)(sl:Z)(h:bB w B z c)(hB:B≤w.heap.size)(hf:c.ok N)(hN:N<90000)(s0:F.length≤40)(t0:tx.length≤40):
  ar M 162 #[.agg ⟨z.l c⟩,.agg (pv y C E cl v k F tx n t sl)] w (Jh w B (N+1)):=by
 obtain⟨⟨va,vc⟩,⟨ra,rc⟩,⟨ea,ec⟩,⟨ga,gc⟩,⟨sa,sc⟩,⟨ba,bc⟩⟩:=z;simp only[dY.l];obtain⟨b,hb⟩:∃b,w.heap.size=b:=⟨_,rfl⟩;obtain⟨W,hW⟩:∃W,((w.alloc (.cells (di va c.v.length vc ra c.r.length rc ea c.e.length ec ga c.g.length gc sa c.s.length sc ba c.b.length bc) 47)).alloc (.cells (pv y C E cl v k F tx n t sl) 75)).alloc (.cells jR 47)=W:=⟨_,rfl⟩;have r:Hid (Three w W B b (di va c.v.length vc ra c.r.length rc ea c.e.length ec ga c.g.length gc sa c.s.length sc ba c.b.length bc) (pv y C E cl v k F tx n t sl) jR 47 75 47):=D (by rw[←hW,←hb];exact Three.mk' _ _ hB _ _ _ _ _ _);have K:=D (h.keep (by rw[←hW];exact rT w _ _ _:ae w.heap.size w W) (G _));have F0:Hid (B≤b):=D (by rw[←hb];exact hB);have HF:=D hf;have HN:=D hN;have l0:=D s0;have m0:=D t0;have HW:=D hW;have HE:=D hb;clear h hB hf hN s0 t0 hW hb
 go_enter func162,ntmps162
 go_upto_region 1 with fail
 rw[HW.o,HE.o];clear HW;obtain⟨o0,o1,o2,o3,o4,o5,o6,o7,o8,o9,s⟩:=bL r.o.k1;go_upto_region 2 with fail
 obtain⟨p,hp⟩:∃p,W.heap.size=p:=⟨_,rfl⟩;obtain⟨G0,hV⟩:∃G0,W.alloc (.cells (F5 F tx v t y C E) 204)=G0:=⟨_,rfl⟩;have n0:ae W.heap.size W G0:=by rw[←hV];exact(aD _ _).alloc (G _) _
 have T:Hid (G0.heap[p]?=I (.cells (F5 F tx v t y C E) 204 (0,0))∧b+3≤p∧p<G0.heap.size):=D ⟨by rw[←hV,←hp];exact al W _,by rw[←hp];exact r.o.sz,by rw[←hV,←hp];simp⟩;have r:=D (r.o.keep n0 r.o.sz);have K:=D (K.o.keep n0 (G _));rw[hV,hp];clear hV hp n0 o0 o1 o2 o3 o4 o5 o6 o7 o8 o9 s;obtain⟨b0,b1,b2,b3,b4,b5⟩:=ah r.o.k0;obtain⟨o0,o1,o2,o3,o4,o5,o6,o7,o8,o9,s⟩:=bL r.o.k1;go_upto_region 3 with((go_at_call 225;refine(Oc _ B ⟨(va,vc),(ra,rc),(ea,ec),(ga,gc),(sa,sc),(ba,bc)⟩ c F K.o (HF.o.few (by have:=HN.o;omega))).mono ?_);rintro en w9 ⟨i,q,rfl,h9,b9⟩;have H9:=D h9.o;have B9:=D b9.o;clear h9 b9)
 have r:=D (r.o.keep B9.o (by have:=r.o.sz;omega));have K:=D (K.o.keep B9.o (G _));have T:=D (⟨(B9.o.block p T.o.2.2).trans T.o.1,T.o.2.1,ac T.o.2.2 B9.o.size⟩:_∧_∧_);clear b0 b1 b2 b3 b4 b5 o0 o1 o2 o3 o4 o5 o6 o7 o8 o9 s;obtain⟨b0,b1,b2,b3,b4,b5⟩:=ah r.o.k0;obtain⟨o0,o1,o2,o3,o4,o5,o6,o7,o8,o9,s⟩:=bL r.o.k1;obtain⟨q0,q1,q2,q3,q4,q5,q6⟩:=rW T.o.1
 cases q with
 | false=>
  have HI:=D H9.o.1;have HO:Hid (eJ.own (w9.alloc (.cells (F5 F tx v t y C E) 204)) B (.slice ra c.r.length rc) c.r):=D (K.o.r.keep ((aD _ _).alloc (G _) _) (G _));have C0:Hid ((.slice ra c.r.length rc:Z).ownBlock≠I w9.heap.size):=D (fun e=>nn _ (jz K.o.r _ e).2);have f4:=aq r.o.k0 1
  go_upto_region 7 with(
   (go_at_call 226;refine(CT _ c.r.length i (ca eJ.f c.r) (eJ.f ⟨F,tx,v,t,(y,C,E)⟩) _ B w9.heap.size HO.o (jr eJ.one _) (eJ.one _) rfl (by have:=HF.o.nr;have:=HN.o;omega) HI.o (by have:=r.o.lo;have:=r.o.sz;simp;omega) (al w9 _) C0.o).mono ?_)
   rintro en H ⟨v',rfl,s,v0,-⟩;obtain⟨a',k',rfl,-,-⟩:=bY s;have w0:=D v0;have D0:=D s;clear v0 s
   have X:eJ.own H B (.slice a' (putAt c.r i ⟨F,tx,v,t,(y,C,E)⟩).length k') (putAt c.r i ⟨F,tx,v,t,(y,C,E)⟩):=by
    have h1:=mS eJ c.r i ⟨F,tx,v,t,(y,C,E)⟩;have h2:=D0.o;show jc _ _ _ _ _ (putAt c.r i ⟨F,tx,v,t,(y,C,E)⟩).length _;rw[fO _ _ _ HI.o,←h1];exact h2
   have p0:bB (w9.alloc (.cells (F5 F tx v t y C E) 204)) B ⟨(va,vc),(ra,rc),(ea,ec),(ga,gc),(sa,sc),(ba,bc)⟩ c:=K.o.keep ((aD _ _).alloc (G _) _) (G _);have a0:=bB.G9 (a:=a') (k:=k') p0 w0.o X;have i0:=(r.o.keep ((aD w9.heap.size w9).alloc (G _) _) r.o.sz).row p0.r w0.o aC aC aC;have d:=D (i0.put 1 (.slice a' (c.r.length+1) k'));have S:=D ((⟨a0,_,i0.k0⟩:g_ _ _ b _ _).put 1 (.slice a' (c.r.length+1) k')).c;obtain⟨b0,b1,b2,b3,b4,b5⟩:=ah i0.k0;have f4:=aq i0.k0 1
   clear X p0 a0 i0)
  obtain⟨W2,u⟩:∃W2,H.setCell ⟨b,1,J⟩ (.slice a' (c.r.length+1) k')=W2:=⟨_,rfl⟩;rw[u]at d S;rw[u];clear u b0 b1 b2 b3 b4 b5 o0 o1 o2 o3 o4 o5 o6 o7 o8 o9 s f4;obtain⟨b0,b1,b2,b3,b4,b5⟩:=ah d.o.k0;obtain⟨r0,r1,r2,r3,r4,r5⟩:=ah d.o.k2;have f0:=aq d.o.k2 0;have f1:=aq d.o.k2 1;have f2:=aq d.o.k2 2;have f3:=aq d.o.k2 3;have f4:=aq d.o.k2 4;have f5:=aq d.o.k2 5;go_wp2;refine au (v:=.agg (di va c.v.length vc a' (c.r.length+1) k' ea c.e.length ec ga c.g.length gc sa c.s.length sc ba c.b.length bc)) (by simp[results,results162,go_sem, *]) rfl ?_;refine⟨⟨(va,vc),(a',k'),(ea,ec),(ga,gc),(sa,sc),(ba,bc)⟩,⟨c.v,putAt c.r i ⟨F,tx,v,t,(y,C,E)⟩,c.e,c.g,c.s,c.b⟩,by simp[dY.l,fO _ _ _ HI.o],?_,?_,?_⟩
  ·refine g_.c (b:=b+2) ?_
   repeat (apply g_.put)
   exact⟨S.o,_,d.o.k2⟩
  ·exact HF.o.P5 (dW _) (by rw[fO _ _ _ HI.o];have:=HF.o.nr;omega) (yx HF.o.tr ⟨l0.o,m0.o⟩)
  ·repeat (refine cu ?_ (by have:=d.o.lo;show B≤b+2;omega) _)
   exact d.o.bl
 | true=>
  have hi:=H9.o.2 rfl;obtain⟨g,x0,y0,z0,m,l⟩:=K.o.r.at i hi;have A0:ra=I ⟨g,0,J⟩:=x0;subst A0;generalize hx:c.r[i]=x at*;have B0:=D z0;have HI:=D hi;have k0:(i:Int)<c.r.length:=A
  go_upto_region 5 with fail
  obtain⟨L,P⟩:∃L,w9.drew=L:=⟨_,rfl⟩;have j0:Hid (ae w9.heap.size w9 L):=D (by rw[←P];exact(aD _ _).drew);have c3:L.cell? ⟨g,i*7+3,J⟩=I (.int .i64 x.t):=by rw[←P];exact l 3 _ rfl
  have c4:L.cell? ⟨g,i*7+4,J⟩=I (.int .i64 x.d.1):=by rw[←P];exact l 4 _ rfl
  have c5:L.cell? ⟨g,i*7+5,J⟩=I (.int .i64 x.d.2.1):=by rw[←P];exact l 5 _ rfl
  have c6:L.cell? ⟨g,i*7+6,J⟩=I (.int .i64 x.d.2.2):=by rw[←P];exact l 6 _ rfl
  clear l m x0 hx z0 hi;have r:=D (r.o.keep j0.o r.o.sz);have K:=D (K.o.keep j0.o (G _));have T:=D (⟨(j0.o.block p T.o.2.2).trans T.o.1,T.o.2.1,ac T.o.2.2 j0.o.size⟩:_∧_∧_);have B0:Hid (g<L.heap.size):=D (ac B0.o j0.o.size);clear b0 b1 b2 b3 b4 b5 o0 o1 o2 o3 o4 o5 o6 o7 o8 o9 s q0 q1 q2 q3 q4 q5 q6;obtain⟨b0,b1,b2,b3,b4,b5⟩:=ah r.o.k0;obtain⟨o0,o1,o2,o3,o4,o5,o6,o7,o8,o9,s⟩:=bL r.o.k1;obtain⟨f,hf⟩:∃f,ks (y,C,E) x.d=f:=⟨_,rfl⟩;have E0:=D hf;clear hf
  cases e1:decide (x.t<t)with
  | true=>
   refine bT 32 (fun Q=>Q=w9.drew) aj ?_;rw[P];have j:L=L:=rfl;refine stP 0 (.pointer (I ⟨b+1,9,J⟩)) j ?_;refine iA [8,9,30,31,32] 1 (.int .i64 t) rfl (.inl ⟨by kernel_rfl,fun Q o=>?_⟩) j ?_
   ·rw[o]
    go_simp
   refine stP 2 (.pointer (I ⟨b,1,J⟩)) j ?_;refine iA [5,6,7,8,9,30,31,32] 3 (.slice (I ⟨g,0,J⟩) c.r.length rc) rfl (.inl ⟨by kernel_rfl,fun Q o=>?_⟩) j ?_
   ·rw[o]
    go_simp
   refine stP 4 (.int .i64 i) j ?_;refine stP 5 (.pointer (I ⟨g,i*7,J⟩)) j ?_;refine stP 6 (.pointer (I ⟨g,i*7+3,J⟩)) j ?_;refine iA [8,9,30,31,32] 7 (.int .i64 x.t) rfl (.inl ⟨by kernel_rfl,fun Q o=>?_⟩) j ?_
   ·rw[o]
    go_simp
   refine stP 8 (.bool O) j ?_;refine stP 9 (.bool O) j ?_;refine iI 10 j ?_;refine iI 11 j ?_;refine iI 12 j ?_;refine iI 13 j ?_;refine iI 14 j ?_;refine iI 15 j ?_;refine iI 16 j ?_;refine iI 17 j ?_;refine iI 18 j ?_;refine iI 19 j ?_;refine iI 20 j ?_;refine iI 21 j ?_;refine iI 22 j ?_;refine iI 23 j ?_;refine iI 24 j ?_;refine iI 25 j ?_;refine iI 26 j ?_;refine iI 27 j ?_;refine iI 28 j ?_;refine iI 29 j ?_;refine iI 30 j ?_;refine stP 31 (.bool O) j ?_;refine dK 32 ?_;go_simp;refine jj ?_;clear j P;clear b0 b1 b2 b3 b4 b5 o0 o1 o2 o3 o4 o5 o6 o7 o8 o9 s c3 c4 c5 c6;obtain⟨b0,b1,b2,b3,b4,b5⟩:=ah r.o.k0;obtain⟨q0,q1,q2,q3,q4,q5,q6⟩:=rW T.o.1;obtain⟨g',R,-,-,m,l⟩:=K.o.r.at i HI.o;injection R with R;injection R with R _;subst R;have g0:=m (i*7);have c0:L.cell? ⟨g,i*7,J⟩=I _:=l 0 _ rfl;have g1:=m (i*7+1);have c1:L.cell? ⟨g,i*7+1,J⟩=I _:=l 1 _ rfl;have g2:=m (i*7+2);have c2:L.cell? ⟨g,i*7+2,J⟩=I _:=l 2 _ rfl;have g3:=m (i*7+3);have c3:L.cell? ⟨g,i*7+3,J⟩=I _:=l 3 _ rfl;have g4:=m (i*7+4);have c4:L.cell? ⟨g,i*7+4,J⟩=I _:=l 4 _ rfl;have g5:=m (i*7+5);have c5:L.cell? ⟨g,i*7+5,J⟩=I _:=l 5 _ rfl;have g6:=m (i*7+6);have c6:L.cell? ⟨g,i*7+6,J⟩=I _:=l 6 _ rfl;clear l m;go_upto_region 7 with fail
   obtain⟨W2,u⟩:∃W2,qZ L g (i*7) (eJ.f ⟨F,tx,v,t,(y,C,E)⟩)=W2:=⟨_,rfl⟩
   have X:eJ.own W2 B (.slice (I ⟨g,0,J⟩) (c.r.set i ⟨F,tx,v,t,(y,C,E)⟩).length rc) (c.r.set i ⟨F,tx,v,t,(y,C,E)⟩):=by
    rw[←u];exact EL.own.write K.o.r i HI.o ⟨F,tx,v,t,(y,C,E)⟩
   have d0:L.grownBy W2 (I g):=by rw[←u];exact qj _ _ _
   have a0:=bB.G9 (a:=I ⟨g,0,J⟩) (k:=rc) K.o d0 X;have d:=D (r.o.row K.o.r d0 aC aC aC);have S:=D a0;have e0:=u;simp only[qZ,nw]at e0;rw[e0];clear u e0 X d0 a0 b0 b1 b2 b3 b4 b5 q0 q1 q2 q3 q4 q5 q6 g0 g1 g2 g3 g4 g5 g6 c0 c1 c2 c3 c4 c5 c6 k0 y0;obtain⟨b0,b1,b2,b3,b4,b5⟩:=ah d.o.k0;obtain⟨r0,r1,r2,r3,r4,r5⟩:=ah d.o.k2;have f0:=aq d.o.k2 0;have f1:=aq d.o.k2 1;have f2:=aq d.o.k2 2;have f3:=aq d.o.k2 3;have f4:=aq d.o.k2 4;have f5:=aq d.o.k2 5;go_wp2;refine au (v:=.agg (di va c.v.length vc (I ⟨g,0,J⟩) c.r.length rc ea c.e.length ec ga c.g.length gc sa c.s.length sc ba c.b.length bc)) (by simp[results,results162,go_sem, *]) rfl ?_;refine⟨⟨(va,vc),(I ⟨g,0,J⟩,rc),(ea,ec),(ga,gc),(sa,sc),(ba,bc)⟩,⟨c.v,c.r.set i ⟨F,tx,v,t,(y,C,E)⟩,c.e,c.g,c.s,c.b⟩,by simp[dY.l],?_,?_,?_⟩
   ·refine g_.c (b:=b+2) ?_
    repeat (apply g_.put)
    exact⟨S.o,_,d.o.k2⟩
   ·exact HF.o.P5 (dW _) (by rw[eE];have:=HF.o.nr;omega) (tp HF.o.tr ⟨l0.o,m0.o⟩)
   ·repeat (refine cu ?_ (by have:=d.o.lo;show B≤b+2;omega) _)
    exact d.o.bl
  | false=>
   cases e2:(t==x.t)with
   | false=>
    refine bT 32 (fun Q=>Q=w9.drew) aj ?_;rw[P];have j:L=L:=rfl;refine stP 0 (.pointer (I ⟨b+1,9,J⟩)) j ?_;refine iA [8,9,30,31,32] 1 (.int .i64 t) rfl (.inl ⟨by kernel_rfl,fun Q o=>?_⟩) j ?_
    ·rw[o]
     go_simp
    refine stP 2 (.pointer (I ⟨b,1,J⟩)) j ?_;refine iA [5,6,7,8,9,30,31,32] 3 (.slice (I ⟨g,0,J⟩) c.r.length rc) rfl (.inl ⟨by kernel_rfl,fun Q o=>?_⟩) j ?_
    ·rw[o]
     go_simp
    refine stP 4 (.int .i64 i) j ?_;refine stP 5 (.pointer (I ⟨g,i*7,J⟩)) j ?_;refine stP 6 (.pointer (I ⟨g,i*7+3,J⟩)) j ?_;refine iA [8,9,30,31,32] 7 (.int .i64 x.t) rfl (.inl ⟨by kernel_rfl,fun Q o=>?_⟩) j ?_
    ·rw[o]
     go_simp
    refine stP 8 (.bool U) j ?_;refine stP 9 (.bool U) j ?_;refine stP 10 (.pointer (I ⟨b+1,9,J⟩)) j ?_;refine iA [18,19,30,31,32] 11 (.int .i64 t) rfl (.inl ⟨by kernel_rfl,fun Q o=>?_⟩) j ?_
    ·rw[o]
     go_simp
    refine stP 12 (.pointer (I ⟨b,1,J⟩)) j ?_;refine iA [15,16,17,18,19,30,31,32] 13 (.slice (I ⟨g,0,J⟩) c.r.length rc) rfl (.inl ⟨by kernel_rfl,fun Q o=>?_⟩) j ?_
    ·rw[o]
     go_simp
    refine stP 14 (.int .i64 i) j ?_;refine stP 15 (.pointer (I ⟨g,i*7,J⟩)) j ?_;refine stP 16 (.pointer (I ⟨g,i*7+3,J⟩)) j ?_;refine iA [18,19,30,31,32] 17 (.int .i64 x.t) rfl (.inl ⟨by kernel_rfl,fun Q o=>?_⟩) j ?_
    ·rw[o]
     go_simp
    refine stP 18 (.bool U) j ?_;refine stP 19 (.bool U) j ?_;refine iI 20 j ?_;refine iI 21 j ?_;refine iI 22 j ?_;refine iI 23 j ?_;refine iI 24 j ?_;refine iI 25 j ?_;refine iI 26 j ?_;refine iI 27 j ?_;refine iI 28 j ?_;refine iI 29 j ?_;refine stP 30 (.bool U) j ?_;refine stP 31 (.bool U) j ?_;refine dK 32 ?_;go_simp;refine jj ?_;clear j P;clear b0 b1 b2 b3 b4 b5 o0 o1 o2 o3 o4 o5 o6 o7 o8 o9 s c3 c4 c5 c6;have d:=r;have S:=K;obtain⟨b0,b1,b2,b3,b4,b5⟩:=ah d.o.k0;obtain⟨r0,r1,r2,r3,r4,r5⟩:=ah d.o.k2;have f0:=aq d.o.k2 0;have f1:=aq d.o.k2 1;have f2:=aq d.o.k2 2;have f3:=aq d.o.k2 3;have f4:=aq d.o.k2 4;have f5:=aq d.o.k2 5;go_wp2;refine au (v:=.agg (di va c.v.length vc (I ⟨g,0,J⟩) c.r.length rc ea c.e.length ec ga c.g.length gc sa c.s.length sc ba c.b.length bc)) (by simp[results,results162,go_sem, *]) rfl ?_;refine⟨⟨(va,vc),(I ⟨g,0,J⟩,rc),(ea,ec),(ga,gc),(sa,sc),(ba,bc)⟩,⟨c.v,c.r,c.e,c.g,c.s,c.b⟩,by simp[dY.l],?_,?_,?_⟩
    ·refine g_.c (b:=b+2) ?_
     repeat (apply g_.put)
     exact⟨S.o,_,d.o.k2⟩
    ·exact HF.o.up (dW _)
    ·repeat (refine cu ?_ (by have:=d.o.lo;show B≤b+2;omega) _)
     exact d.o.bl
   | true=>
    refine bT 28 (fun Q=>Q=w9.drew) aj ?_;rw[P];have j:L=L:=rfl;refine stP 0 (.pointer (I ⟨b+1,9,J⟩)) j ?_;refine iA [8,9,18,19,28] 1 (.int .i64 t) rfl (.inl ⟨by kernel_rfl,fun Q o=>?_⟩) j ?_
    ·rw[o]
     go_simp
    refine stP 2 (.pointer (I ⟨b,1,J⟩)) j ?_;refine iA [5,6,7,8,9,18,19,28] 3 (.slice (I ⟨g,0,J⟩) c.r.length rc) rfl (.inl ⟨by kernel_rfl,fun Q o=>?_⟩) j ?_
    ·rw[o]
     go_simp
    refine stP 4 (.int .i64 i) j ?_;refine stP 5 (.pointer (I ⟨g,i*7,J⟩)) j ?_;refine stP 6 (.pointer (I ⟨g,i*7+3,J⟩)) j ?_;refine iA [8,9,18,19,28] 7 (.int .i64 x.t) rfl (.inl ⟨by kernel_rfl,fun Q o=>?_⟩) j ?_
    ·rw[o]
     go_simp
    refine stP 8 (.bool U) j ?_;refine stP 9 (.bool U) j ?_;refine stP 10 (.pointer (I ⟨b+1,9,J⟩)) j ?_;refine iA [18,19,28] 11 (.int .i64 t) rfl (.inl ⟨by kernel_rfl,fun Q o=>?_⟩) j ?_
    ·rw[o]
     go_simp
    refine stP 12 (.pointer (I ⟨b,1,J⟩)) j ?_;refine iA [15,16,17,18,19,28] 13 (.slice (I ⟨g,0,J⟩) c.r.length rc) rfl (.inl ⟨by kernel_rfl,fun Q o=>?_⟩) j ?_
    ·rw[o]
     go_simp
    refine stP 14 (.int .i64 i) j ?_;refine stP 15 (.pointer (I ⟨g,i*7,J⟩)) j ?_;refine stP 16 (.pointer (I ⟨g,i*7+3,J⟩)) j ?_;refine iA [18,19,28] 17 (.int .i64 x.t) rfl (.inl ⟨by kernel_rfl,fun Q o=>?_⟩) j ?_
    ·rw[o]
     go_simp
    refine stP 18 (.bool O) j ?_;refine stP 19 (.bool O) j ?_;refine stP 20 (.pointer (I ⟨b+1,0,J⟩)) j ?_;refine iA [28] 21 (.agg #[.int .i64 y,.int .i64 C,.int .i64 E]) rfl (.inl ⟨by kernel_rfl,fun Q o=>?_⟩) j ?_
    ·rw[o]
     go_simp
    refine stP 22 (.pointer (I ⟨b,1,J⟩)) j ?_;refine iA [25,26,27,28] 23 (.slice (I ⟨g,0,J⟩) c.r.length rc) rfl (.inl ⟨by kernel_rfl,fun Q o=>?_⟩) j ?_
    ·rw[o]
     go_simp
    refine stP 24 (.int .i64 i) j ?_;refine stP 25 (.pointer (I ⟨g,i*7,J⟩)) j ?_;refine stP 26 (.pointer (I ⟨g,i*7+4,J⟩)) j ?_;refine iA [28] 27 (.agg #[.int .i64 x.d.1,.int .i64 x.d.2.1,.int .i64 x.d.2.2]) rfl (.inl ⟨by kernel_rfl,fun Q o=>?_⟩) j ?_
    ·rw[o]
     go_simp
    refine f_ 28 ?_;go_simp;refine(CL _ _ _ _ _ _ _).mono ?_;rintro en H ⟨rfl,b10⟩;rw[E0.o];have h0:=D b10;clear b10;first | refine⟨j,?_⟩ | refine⟨fun h=>by cases h,?_⟩ | skip
    clear j P;clear b0 b1 b2 b3 b4 b5 o0 o1 o2 o3 o4 o5 o6 o7 o8 o9 s c3 c4 c5 c6;have r:=D (r.o.keep h0.o r.o.sz);have K:=D (K.o.keep h0.o (G _));have T:=D (⟨(h0.o.block p T.o.2.2).trans T.o.1,T.o.2.1,ac T.o.2.2 h0.o.size⟩:_∧_∧_)
    cases e3:decide (0<f)with
    | true=>
     refine f_ 29 ?_;go_simp;refine f_ 30 ?_;go_simp;refine dK 31 ?_;go_simp;refine dK 32 ?_;go_simp;refine jj ?_;obtain⟨b0,b1,b2,b3,b4,b5⟩:=ah r.o.k0;obtain⟨q0,q1,q2,q3,q4,q5,q6⟩:=rW T.o.1;obtain⟨g',R,-,-,m,l⟩:=K.o.r.at i HI.o;injection R with R;injection R with R _;subst R;have g0:=m (i*7);have c0:H.cell? ⟨g,i*7,J⟩=I _:=l 0 _ rfl;have g1:=m (i*7+1);have c1:H.cell? ⟨g,i*7+1,J⟩=I _:=l 1 _ rfl;have g2:=m (i*7+2);have c2:H.cell? ⟨g,i*7+2,J⟩=I _:=l 2 _ rfl;have g3:=m (i*7+3);have c3:H.cell? ⟨g,i*7+3,J⟩=I _:=l 3 _ rfl;have g4:=m (i*7+4);have c4:H.cell? ⟨g,i*7+4,J⟩=I _:=l 4 _ rfl;have g5:=m (i*7+5);have c5:H.cell? ⟨g,i*7+5,J⟩=I _:=l 5 _ rfl;have g6:=m (i*7+6);have c6:H.cell? ⟨g,i*7+6,J⟩=I _:=l 6 _ rfl;clear l m;go_upto_region 7 with fail
     obtain⟨W2,u⟩:∃W2,qZ H g (i*7) (eJ.f ⟨F,tx,v,t,(y,C,E)⟩)=W2:=⟨_,rfl⟩
     have X:eJ.own W2 B (.slice (I ⟨g,0,J⟩) (c.r.set i ⟨F,tx,v,t,(y,C,E)⟩).length rc) (c.r.set i ⟨F,tx,v,t,(y,C,E)⟩):=by
      rw[←u];exact EL.own.write K.o.r i HI.o ⟨F,tx,v,t,(y,C,E)⟩
     have d0:H.grownBy W2 (I g):=by rw[←u];exact qj _ _ _
     have a0:=bB.G9 (a:=I ⟨g,0,J⟩) (k:=rc) K.o d0 X;have d:=D (r.o.row K.o.r d0 aC aC aC);have S:=D a0;have e0:=u;simp only[qZ,nw]at e0;rw[e0];clear u e0 X d0 a0 b0 b1 b2 b3 b4 b5 q0 q1 q2 q3 q4 q5 q6 g0 g1 g2 g3 g4 g5 g6 c0 c1 c2 c3 c4 c5 c6 k0 y0;obtain⟨b0,b1,b2,b3,b4,b5⟩:=ah d.o.k0;obtain⟨r0,r1,r2,r3,r4,r5⟩:=ah d.o.k2;have f0:=aq d.o.k2 0;have f1:=aq d.o.k2 1;have f2:=aq d.o.k2 2;have f3:=aq d.o.k2 3;have f4:=aq d.o.k2 4;have f5:=aq d.o.k2 5;go_wp2;refine au (v:=.agg (di va c.v.length vc (I ⟨g,0,J⟩) c.r.length rc ea c.e.length ec ga c.g.length gc sa c.s.length sc ba c.b.length bc)) (by simp[results,results162,go_sem, *]) rfl ?_;refine⟨⟨(va,vc),(I ⟨g,0,J⟩,rc),(ea,ec),(ga,gc),(sa,sc),(ba,bc)⟩,⟨c.v,c.r.set i ⟨F,tx,v,t,(y,C,E)⟩,c.e,c.g,c.s,c.b⟩,by simp[dY.l],?_,?_,?_⟩
     ·refine g_.c (b:=b+2) ?_
      repeat (apply g_.put)
      exact⟨S.o,_,d.o.k2⟩
     ·exact HF.o.P5 (dW _) (by rw[eE];have:=HF.o.nr;omega) (tp HF.o.tr ⟨l0.o,m0.o⟩)
     ·repeat (refine cu ?_ (by have:=d.o.lo;show B≤b+2;omega) _)
      exact d.o.bl
    | false=>
     refine f_ 29 ?_;go_simp;refine f_ 30 ?_;go_simp;refine dK 31 ?_;go_simp;refine dK 32 ?_;go_simp;refine jj ?_;have d:=r;have S:=K;obtain⟨b0,b1,b2,b3,b4,b5⟩:=ah d.o.k0;obtain⟨r0,r1,r2,r3,r4,r5⟩:=ah d.o.k2;have f0:=aq d.o.k2 0;have f1:=aq d.o.k2 1;have f2:=aq d.o.k2 2;have f3:=aq d.o.k2 3;have f4:=aq d.o.k2 4;have f5:=aq d.o.k2 5;go_wp2;refine au (v:=.agg (di va c.v.length vc (I ⟨g,0,J⟩) c.r.length rc ea c.e.length ec ga c.g.length gc sa c.s.length sc ba c.b.length bc)) (by simp[results,results162,go_sem, *]) rfl ?_;refine⟨⟨(va,vc),(I ⟨g,0,J⟩,rc),(ea,ec),(ga,gc),(sa,sc),(ba,bc)⟩,⟨c.v,c.r,c.e,c.g,c.s,c.b⟩,by simp[dY.l],?_,?_,?_⟩
     ·refine g_.c (b:=b+2) ?_
      repeat (apply g_.put)
      exact⟨S.o,_,d.o.k2⟩
     ·exact HF.o.up (dW _)
     ·repeat (refine cu ?_ (by have:=d.o.lo;show B≤b+2;omega) _)
      exact d.o.bl
abbrev En:=Int×Int×Int
def tA(a b:En):Prop:=a.1<b.1∨(a.1=b.1∧a.2.1<b.2.1)
def zR(a b:En):Prop:=a.1=b.1∧a.2.1=b.2.1
instance (a b:En):Decidable (tA a b):=by unfold tA;exact inferInstance
instance (a b:En):Decidable (zR a b):=by unfold zR;exact inferInstance
def AW:List En→Int→Int→Int
 | [],_,_=>0
 | x::t,d,e=>if tA x (d,e,0)then AW t d e else if zR x (d,e,0)then x.2.2 else 0
def oQ:List En→En→List En
 | [],e=>[e]
 | x::t,e=>if tA x e then x::oQ t e else if zR x e then(x.1,x.2.1,max x.2.2 e.2.2)::t else e::x::t
def mV(a b:List En):List En:=b.foldl oQ a
def cellsE(l:List En):List Z:=l.flatMap fun r=>[.int .i64 r.1,.int .i64 r.2.1,.int .i64 r.2.2]
def gh(r:En)(l:List En):cellsE (r::l)=.int .i64 r.1:: .int .i64 r.2.1:: .int .i64 r.2.2::cellsE l:=rfl
def mW(a b:List En):cellsE (a++b)=cellsE a++cellsE b:=by simp[cellsE]
def h_(l:List En):(cellsE l).length=l.length*3:=by
 induction l with
 | nil=>rfl
 | cons r l a=>rw[gh];simp[a];omega
def pG(l:List En)(k:Nat)(a:k<l.length):(cellsE l)[k*3]?=I (.int .i64 l[k].1)∧(cellsE l)[k*3+1]?=I (.int .i64 l[k].2.1)∧(cellsE l)[k*3+2]?=I (.int .i64 l[k].2.2):=by
 induction l generalizing k with
 | nil=>simp at a
 | cons r l b=>
  cases k with
  | zero=>simp[gh]
  | succ k=>
   have h:=b k (by simpa using a);rw[gh];have c:(k+1)*3=k*3+1+1+1:=A
   rw[c];simpa using h
def tB(l:List En):∀u∈cellsE l,u.oneCell'=O:=by
 intro u a;simp only[cellsE,kU]at a;obtain⟨r,_,h⟩:=a;simp at h;rcases h with rfl | rfl | rfl<;>rfl
def tC(w:V)(v:Z)(l:List En):Prop:=Sl w 3 v l.length (cellsE l)
def tC.keep{w w':V}{v:Z}{l:List En}{B:Nat}(h:tC w v l)(a:ae B w w')(b:w.heap.size≤B):tC w' v l:=Sl.keep h a b
def tC.nil(w:V):tC w (.slice J 0 0) []:=Sl.nil w 3
def tC.three{w wr:V}{l:List En}{ao:Option aB}{cap B:Nat}(h:tC w (.slice ao l.length cap) l)(d:ae B w wr)(i:w.heap.size≤B)(k:Nat)(j:k<l.length):
  ∃b a,ao=I ⟨b,a,J⟩∧b<w.heap.size∧wr.cell? ⟨b,a+k*3,J⟩=I (.int .i64 l[k].1)∧wr.cell? ⟨b,a+k*3+1,J⟩=I (.int .i64 l[k].2.1)∧wr.cell? ⟨b,a+k*3+2,J⟩=I (.int .i64 l[k].2.2):=by
 obtain⟨b,a,m,g,e⟩:=Sl.at h (by rw[h_];omega);have f:=pG l k j;have c:=ac g i;refine⟨b,a,m,g,?_,?_,?_⟩
 ·rw[d.cell (p:=⟨b,a+k*3,J⟩) c];exact e _ _ f.1
 ·rw[d.cell (p:=⟨b,a+k*3+1,J⟩) c];exact e _ _ f.2.1
 ·rw[d.cell (p:=⟨b,a+k*3+2,J⟩) c];exact e _ _ f.2.2
def Ju{α:Type}(l:List α)(k:Nat)(h:k<l.length):l.take (k+1)=l.take k++ [l[k]]:=by
 rw[gb h]
def tD(a b:Int×Int):Int:=ow (lf a.1 b.1) (lf a.2 b.2)
def Oy(a b c d:Int)(w:V):ar M 331 #[.agg #[.int .i64 a,.int .i64 b],.agg #[.int .i64 c,.int .i64 d]] w fun e w'=>e=.returned (.int .i64 (tD (a,b) (c,d)))∧ae w.heap.size w w':=by
 go_enter func331,ntmps331
 go_wp2
 go_region_held3 (fun w'=>w'.cell? ⟨w.heap.size,0,J⟩=I (.int .i64 a)∧w'.cell? ⟨w.heap.size,1,J⟩=I (.int .i64 b)∧w'.cell? ⟨w.heap.size+1,0,J⟩=I (.int .i64 c)∧w'.cell? ⟨w.heap.size+1,1,J⟩=I (.int .i64 d)) (simp [go_sem,World.cell?_alloc_past])
  (first
   | (go_at_call 278;refine(yj _ _ _).mono ?_;rintro e w' ⟨rfl,rfl⟩)
   | (go_at_call 231;refine(Sx _ (lf a c) (lf b d) _ kN kN).mono ?_;rintro e w' ⟨rfl,rfl⟩))
 go_wp2;go_ret;refine⟨rfl,?_⟩
 repeat (first | exact aD _ _ | apply uZ | apply below_drewN | (refine sJ ?_ (by simp;try omega) _))
def Jv(a b c:Int)(w:V):ar M 273 #[.agg #[.int .i64 a,.int .i64 b,.int .i64 c]] w fun e w'=>e=.returned (.agg #[.int .i64 a,.int .i64 b])∧ae w.heap.size w w':=by
 go_enter func273,ntmps273
 go_wp2;refine au (v:=.agg #[.int .i64 a,.int .i64 b]) (by simp[results,results273,go_sem]) rfl ⟨rfl,?_⟩
 repeat (first | exact aD _ _ | apply uZ | apply below_drewN | (refine sJ ?_ (by simp;try omega) _))
def Jw(g:Nat)(d e:Int)(x:En)(w:V)(c0:w.cell? ⟨g,0,J⟩=I (.int .i64 d))(c1:w.cell? ⟨g,1,J⟩=I (.int .i64 e))(q:g<w.heap.size):
  ar M 330 #[.agg #[.int .i64 x.1,.int .i64 x.2.1,.int .i64 x.2.2],.pointer (I ⟨g,0,J⟩)] w fun en w'=>en=.returned (.int .i64 (tD (x.1,x.2.1) (d,e)))∧ae w.heap.size w w':=by
 obtain⟨j,k,l⟩:=x;have m:g<w.heap.size+1:=A
 go_enter func330,ntmps330
 go_wp2
 go_region_held3 (fun w'=>w'.cell? ⟨w.heap.size,0,J⟩=I (.int .i64 j)∧w'.cell? ⟨w.heap.size,1,J⟩=I (.int .i64 k)∧w'.cell? ⟨w.heap.size,2,J⟩=I (.int .i64 l)∧w'.cell? ⟨g,0,J⟩=I (.int .i64 d)∧w'.cell? ⟨g,1,J⟩=I (.int .i64 e)) (go_keep)
  (first
   | (go_at_call 273;refine(Jv _ _ _ _).mono ?_;rintro e c ⟨rfl,a⟩;obtain⟨n,f⟩:=kK a;have h:w.heap.size<c.heap.size:=(by simp at f;omega);have o:g<c.heap.size:=A)
   | (go_at_call 331;refine(Oy _ _ _ _ _).mono ?_;rintro e r ⟨rfl,b⟩;obtain⟨p,h⟩:=kK b))
 go_wp2;go_ret;have i:ae w.heap.size w c:=(((aD _ _).alloc (G _) _).drew).trans (a.mono bW);exact⟨rfl,i.trans (b.mono i.size)⟩
def Ql(x:En)(d e:Int):tD (x.1,x.2.1) (d,e)<0↔tA x (d,e,0):=by
 unfold tD ow lf tA;simp only
 repeat' split
 all_goals omega
def Qm(x:En)(d e:Int):tD (x.1,x.2.1) (d,e)=0↔zR x (d,e,0):=by
 unfold tD ow lf zR;simp only
 repeat' split
 all_goals omega
def kl:List En→Int→Int→Nat×Bool
 | [],_,_=>(0,U)
 | x::t,d,e=>if tA x (d,e,0)then((kl t d e).1+1,(kl t d e).2)else(0,decide (zR x (d,e,0)))
def Oz(l:List En)(d e:Int)(k:Nat)(a:k<l.length)(h:tA l[k] (d,e,0)):
  (k+(kl (l.drop k) d e).1,(kl (l.drop k) d e).2)=(k+1+(kl (l.drop (k+1)) d e).1,(kl (l.drop (k+1)) d e).2):=by
 rw[eD a,kl,if_pos h];simp only[eP,and_true];omega
def OA(l:List En)(d e:Int)(k:Nat)(a:k<l.length)(h:¬tA l[k] (d,e,0)):kl (l.drop k) d e=(0,decide (zR l[k] (d,e,0))):=by
 rw[eD a,kl,if_neg h]
def Jx{a b:Int}{c d:Bool}(h:a=b)(e:c=d):Ending.returned (.tuple #[.int .i64 a,.bool c])=.returned (.tuple #[.int .i64 b,.bool d]):=by rw[h,e]
def OB(v:Z)(l:List En)(g:Nat)(d e:Int)(w:V)(h:tC w v l)(W:l.length<1000000)(c0:w.cell? ⟨g,0,J⟩=I (.int .i64 d))(c1:w.cell? ⟨g,1,J⟩=I (.int .i64 e))(q:g<w.heap.size):
  ar M 329 #[v,.func (.func 330) #[] #[.pointer (I ⟨g,0,J⟩)]] w fun en w'=>en=.returned (.tuple #[.int .i64 (kl l d e).1,.bool (kl l d e).2])∧ae w.heap.size w w':=by
 obtain⟨ao,cap,rfl,N,hm⟩:=Sl.shape h
 go_enter func329,ntmps329
 go_upto_block 0 with fail
 go_cut[6] (fun t P=>∃k:Nat,k≤l.length∧t=.int .i64 k∧(k<l.length→∀u:k<l.length,¬tA l[k] (d,e,0))∧kl l d e=(k+(kl (l.drop k) d e).1,(kl (l.drop k) d e).2)∧ae w.heap.size w P)
 case first=>
  go_wp2
  go_loopw[6] (fun t wr=>∃k:Nat,k≤l.length∧t=.int .i64 k∧kl l d e=(k+(kl (l.drop k) d e).1,(kl (l.drop k) d e).2)∧ae w.heap.size w wr) (fun t _=>l.length-(bp t).toNat)
  case atStart=>exact⟨0,aw _,rfl,by simp,aD _ _⟩
  case round=>
   obtain⟨k,u,rfl,x,f⟩:=hrel;have o:=D x;clear x;rcases aL k l.length with a | j
   ·obtain⟨b,C,rfl,E,F,H,K⟩:=h.three f (G _) k a
    have m:=D (Oz l d e k a);have y:=D (Ql l[k] d e);have Q:Hid (∀u:k<l.length,l[k]=l[k]'a):=fun _=>rfl
    generalize l[k]'a=r at*;go_wp2_with fail
    refine(Jw g d e r _ (dG c0 f q) (dG c1 f q) (ac q f.size)).mono ?_;rintro en R ⟨rfl,i⟩;have n:=f.trans (i.mono f.size);clear i;by_cases s:tA r (d,e,0)
    ·have z:=y.o.2 s
     have L:=D s;clear s;generalize tD (r.1,r.2.1) (d,e)=cm at*;go_wp2;go_roundw
     case rel=>exact⟨k+1,by omega,by go_num,by rw[o.o];exact m.o L.o,n⟩
     case measure=>simp[bp];omega
    ·have z:¬tD (r.1,r.2.1) (d,e)<0:=fun S=>s (y.o.1 S)
     have L:=D s;clear s;generalize tD (r.1,r.2.1) (d,e)=cm at*;have T:decide (cm<0)=U:=by simpa using z
     go_wp2;go_meet;exact⟨k,u,rfl,fun _ B=>by rw[Q.o B];exact L.o,o.o,n⟩
   ·have dk:decide (k<l.length)=U:=by simpa using j
    go_wp2;go_meet;exact⟨k,u,rfl,fun B=>by omega,o.o,f⟩
 case rest=>
 obtain⟨k,u,rfl,p,x,f⟩:=hcut;have o:=D x;clear x;rcases aL k l.length with a | j
 ·obtain⟨b,C,rfl,E,F,H,K⟩:=h.three f (G _) k a
  have m:=D (OA l d e k a (p a a));have y:=D (Qm l[k] d e);clear p;generalize l[k]'a=r at*;go_wp2_with fail
  refine(Jw g d e r _ (dG c0 f q) (dG c1 f q) (ac q f.size)).mono ?_;rintro en R ⟨rfl,i⟩;have n:=f.trans (i.mono f.size)
  have c:Hid (kl l d e=(k,tD (r.1,r.2.1) (d,e)==0)):=by
   show _=_;rw[o.o,m.o];simp only[dg,eP,true_and];rw[Bool.eq_iff_iff,decide_eq_true_iff,beq_iff_eq];exact y.o.symm
  clear i f o m y;generalize tD (r.1,r.2.1) (d,e)=cm at*;go_wp2
  go_ret2
  exact⟨Jx (by rw[c.o]) (by rw[c.o]),n⟩
 ·have dk:decide (k<l.length)=U:=by simpa using j
  have c:Hid (kl l d e=(k,U)):=by
   show _=_;rw[o.o,e_ j];rfl
  clear p o;go_wp2
  go_ret2
  exact⟨Jx (by rw[c.o]) (by rw[c.o]),f⟩
def M6(v:Z)(l:List En)(d e:Int)(w:V)(h:tC w v l)(g:l.length<1000000):
  ar M 272 #[v,.agg #[.int .i64 d,.int .i64 e]] w fun en w'=>en=.returned (.tuple #[.int .i64 (kl l d e).1,.bool (kl l d e).2])∧ae w.heap.size w w':=by
 go_enter func272,ntmps272
 go_wp2_with fail
 have a:ae w.heap.size w (w.alloc (.cells #[.int .i64 d,.int .i64 e] 383)):=(aD _ _).alloc (G _) _;obtain⟨c0,c1,_,_,f⟩:=cS (al w (.cells #[.int .i64 d,.int .i64 e] 383));refine(OB v l w.heap.size d e _ (h.keep a (G _)) g c0 c1 f).mono ?_;rintro en i ⟨rfl,b⟩;have c:=a.trans (b.mono a.size);clear a b c0 c1 f;go_wp2
 go_ret2
 exact⟨rfl,c⟩
def Qn(l:List En)(d e:Int):AW l d e=if (kl l d e).2 then(l.getD (kl l d e).1 (0,0,0)).2.2 else 0:=by
 induction l with
 | nil=>rfl
 | cons x t a=>
  unfold AW kl;by_cases h:tA x (d,e,0)
  ·simp only[if_pos h,a,List.getD_cons_succ]
  ·simp only[if_neg h]
   by_cases b:zR x (d,e,0)<;>simp[b]
def M7(l:List En)(d e:Int):(kl l d e).1≤l.length∧((kl l d e).2=O→(kl l d e).1<l.length):=by
 induction l with
 | nil=>simp[kl]
 | cons x t a=>
  unfold kl;by_cases h:tA x (d,e,0)
  ·simp only[if_pos h,eI]
   exact⟨by omega,fun b=>by have:=a.2 b;omega⟩
  ·simp[h]
def Qo(v:Z)(l:List En)(d e:Int)(w:V)(h:tC w v l)(m:l.length<1000000):
  ar M 271 #[v,.int .i64 d,.int .i64 e] w fun en w'=>en=.returned (.int .i64 (AW l d e))∧ae w.heap.size w w':=by
 have f:=D (Qn l d e);have c:=D (M7 l d e);have g:=D (M6 v l d e w h m);obtain⟨ao,cap,rfl,k,hm⟩:=Sl.shape h;rcases hat:kl l d e with⟨i,b⟩
 rw[hat]at f c g;clear hat
 cases b with
 | false=>
  go_enter func271,ntmps271
  go_wp2_with fail
  refine g.o.mono ?_;rintro en n ⟨rfl,a⟩;go_wp2;go_ret;exact⟨aZ (by rw[f.o];rfl),a⟩
 | true=>
  have hi:=c.o.2 rfl;simp only at hi
  go_enter func271,ntmps271
  go_wp2_with fail
  refine g.o.mono ?_;rintro en n ⟨rfl,a⟩;obtain⟨b,o,rfl,p,q,s,t⟩:=h.three a (G _) i hi;have j:Hid (AW l d e=l[i].2.2):=by show _=_;rw[f.o];simp[hi]
  clear f g c;generalize l[i]=r at*;go_wp2;go_ret;exact⟨aZ j.o.symm,a⟩
def AX(l:List En)(d e s:Int):Bool:=decide (1≤s)&&decide (s≤AW l d e)
def Qp(v:Z)(l:List En)(d e s:Int)(w:V)(h:tC w v l)(i:l.length<1000000):
  ar M 223 #[v,.agg #[.int .i64 d,.int .i64 e,.int .i64 s]] w fun en w'=>en=.returned (.bool (AX l d e s))∧ae w.heap.size w w':=by
 by_cases b:1≤s
 ·have HF:Hid (AX l d e s=decide (s≤AW l d e)):=by show _=_;simp[AX,b]
  have j:decide (1≤s)=O:=by simpa using b
  generalize c:AW l d e=k at HF;have m:=D c;clear c;have a:∀o,ae w.heap.size w (w.alloc o).drew:=fun o=>((aD _ _).alloc (G _) o).drew
  have n:Hid (∀o,ar M 271 #[v,.int .i64 d,.int .i64 e] (w.alloc o).drew fun en w'=>en=.returned (.int .i64 k)∧ae (w.alloc o).drew.heap.size (w.alloc o).drew w'):=fun o=>by
   rw[←m.o];exact Qo v l d e _ (h.keep (a o) (G _)) i
  have g:=D a;clear a
  go_enter func223,ntmps223
  go_wp2
  go_region_held3 (fun w'=>w'.cell? ⟨w.heap.size,0,J⟩=I (.int .i64 d)∧w'.cell? ⟨w.heap.size,1,J⟩=I (.int .i64 e)∧w'.cell? ⟨w.heap.size,2,J⟩=I (.int .i64 s)) (go_keep)
   (first
    | (go_at_call 271;refine(n.o _).mono ?_;rintro en r ⟨rfl,f⟩;obtain⟨p,q⟩:=kK f))
  go_wp2;go_ret;exact⟨eA HF.o.symm,(g.o _).trans (f.mono bW)⟩
 ·have HF:Hid (AX l d e s=U):=by show _=_;simp[AX,b]
  have j:decide (1≤s)=U:=by simpa using b
  clear b
  go_enter func223,ntmps223
  go_wp2;go_quiet (fail)
  go_wp2;go_ret;exact⟨eA HF.o.symm,below_drewN ((aD _ _).alloc (G _) _) _⟩
def LH:(prog.info? 202).map (fun i=>(i.zero,i.size,i.bytes))=I (I (.agg #[.int .i64 0,.int .i64 0,.int .i64 0]),3,24):=aj
def BC(w:V)(b:Nat)(x y z:Z)(t:aN)(a:w.heap.size=b):∀j u,[x,y,z][j]?=I u→(w.alloc (.cells #[x,y,z] t)).cell? ((⟨b,0,J⟩:aB).add j)=I u:=by
 subst a;intro j u c;rw[dM,an,show(w.alloc (.cells #[x,y,z] t)).heap[(⟨w.heap.size,0+j,J⟩:aB).block]?=_ from al w _];simpa using c
def rX{w w':V}{b B:Nat}{x y z:Z}{t:aN}(h:w.heap[b]?=I (.cells #[x,y,z] t (0,0)))(a:ae B w w')(c:b<B):w'.heap[b]?=I (.cells #[x,y,z] t (0,0)):=by
 rw[a.block b c];exact h
def OC{w:V}{ops:Array Oper}{rest:List Oper}{o:Oper}{a:Act}{Q:Exit→Act→V→Prop}(f:o.guard=J)(s x:Operand)
  (y:o.op=.call { callee:=.builtin .append,args:= #[s,x],argTypes:= #[40,40] })
  (base:Nat) (v:Z) (n:Nat) (l:List En) (z:a.eval s=v) (e:w.ownsRow base 202 3 v n (cellsE l))
  (g:aB) (c:Nat) (p q r:Int) (B:a.eval x=.slice (I g) 1 c) (b:∀j u,[Value.int .i64 p,.int .i64 q,.int .i64 r][j]?=I u→w.cell? (g.add j)=I u)
  (H:n<1000000000) (d:base≤w.heap.size)
  (h:∀v' w',w'.ownsRow base 202 3 v' (n+1) (cellsE (l++ [(p,q,r)]))→w.grownBy w' v.ownBlock→(v'.ownBlock=v.ownBlock∨v'.ownBlock=I w.heap.size)→cH M ops Q rest (a.put o.dst v') w'):cH M ops Q (o::rest) a w:=by
 obtain⟨i,hi,k,m,t⟩:=fT LH;refine wpList_append_own_at _ f s x 40 y base 202 i _ 3 24 underlying40 hi k m t rfl aC v n _ z e g 1 c [.int .i64 p,.int .i64 q,.int .i64 r] B rfl b (by simp[Value.oneCell']) (by unfold gC;omega) A d ?_;intro v' w' C E _ F;exact h v' w' (by rw[mW];exact C) E F
def LI{w:V}{ops:Array Oper}{rest:List Oper}{o:Oper}{a:Act}{Q:Exit→Act→V→Prop}(g:o.guard=J)(s x:Operand)
  (q:o.op=.call { callee:=.builtin .append,args:= #[s,x],argTypes:= #[40,40] })
  (base:Nat) (v:Z) (n:Nat) (l:List En) (r:a.eval s=v) (e:w.ownsRow base 202 3 v n (cellsE l))
  (ao:Option aB) (m c:Nat) (f:List En) (t:a.eval x=.slice ao m c) (hm:f.length=m) (b:Rd w ao (cellsE f))
  (z:n+m<1000000000) (d:base≤w.heap.size)
  (h:∀v' w',w'.ownsRow base 202 3 v' (n+m) (cellsE (l++f))→w.grownBy w' v.ownBlock→cH M ops Q rest (a.put o.dst v') w'):cH M ops Q (o::rest) a w:=by
 obtain⟨i,hi,j,k,p⟩:=fT LH;refine ye g s x 40 q base 202 i _ 3 24 underlying40 hi j k p rfl aC v n _ r e ao m c (cellsE f) t (by rw[h_,hm]) b (tB _) (by unfold gC;omega) A d ?_;intro v' w' u y;exact h v' w' (by rw[mW];exact u) y
def Hh(l:List En)(k:Nat):(cellsE l).drop (k*3)=cellsE (l.drop k):=by
 induction l generalizing k with
 | nil=>simp[cellsE]
 | cons r l a=>
  cases k with
  | zero=>simp
  | succ k=>rw[gh,show(k+1)*3=k*3+1+1+1 from by omega,lx,lx,lx,a];rfl
def Hi(l:List En)(k:Nat):(cellsE l).take (k*3)=cellsE (l.take k):=by
 induction l generalizing k with
 | nil=>simp[cellsE]
 | cons r l a=>
  cases k with
  | zero=>simp[cellsE]
  | succ k=>rw[gh,show(k+1)*3=k*3+1+1+1 from by omega,lw,lw,lw,a];rfl
def yC(w:V)(E e n:Nat)(cs:List Z)(en:de)(w':V):Prop:=
 ∃a,en=.returned a∧w'.ownsRow w.heap.size e E a n cs∧ae w.heap.size w w'
def Qq(m:List En)(e:En):oQ m e=if (kl m e.1 e.2.1).2 then m.set (kl m e.1 e.2.1).1 ((m.getD (kl m e.1 e.2.1).1 (0,0,0)).1,(m.getD (kl m e.1 e.2.1).1 (0,0,0)).2.1,max (m.getD (kl m e.1 e.2.1).1 (0,0,0)).2.2 e.2.2)else m.take (kl m e.1 e.2.1).1++e::m.drop (kl m e.1 e.2.1).1:=by
 induction m with
 | nil=>rfl
 | cons x t g=>
  unfold oQ kl;have d:tA x (e.1,e.2.1,0)↔tA x e:=Iff.rfl;have f:zR x (e.1,e.2.1,0)↔zR x e:=Iff.rfl;by_cases h:tA x e
  ·have a:=d.2 h
   simp only[if_pos h,if_pos a,g]
   split<;>simp
  ·have a:¬tA x (e.1,e.2.1,0):=fun b=>h (d.1 b)
   simp only[if_neg h,if_neg a];by_cases k:zR x e
   ·have c:=f.2 k
    simp[k,c]
   ·have c:¬zR x (e.1,e.2.1,0):=fun b=>k (f.1 b)
    simp[k,c]
def Hj(m:List En)(i:Nat)(hi:i<m.length)(z:Int):(cellsE m).set (i*3+2) (.int .i64 z)=cellsE (m.set i (m[i].1,m[i].2.1,z)):=by
 induction m generalizing i with
 | nil=>simp at hi
 | cons r l a=>
  cases i with
  | zero=>simp[gh]
  | succ i=>
   rw[show (i+1)*3+2=(i*3+2)+1+1+1 from by omega,gh];simp only[vL,List.getElem_cons_succ];rw[a i (by simpa using hi),gh]
def Hk(m:List En)(i:Nat)(hi:i<m.length)(x y z:Int):(((cellsE m).set (i*3) (.int .i64 x)).set (i*3+1) (.int .i64 y)).set (i*3+2) (.int .i64 z)=cellsE (m.set i (x,y,z)):=by
 induction m generalizing i with
 | nil=>simp at hi
 | cons r l a=>
  cases i with
  | zero=>simp[gh]
  | succ i=>
   rw[show (i+1)*3=i*3+1+1+1 from by omega,show i*3+1+1+1+1=(i*3+1)+1+1+1 from rfl,show i*3+1+1+1+2=(i*3+2)+1+1+1 from rfl,gh];simp only[vL];rw[a i (by simpa using hi),gh]
def sQ(m:List En)(i:Nat):List En:=(m++ [(0,0,0)]).take (i+1)++m.drop i
def yD(m:List En)(i:Nat)(hi:i≤m.length):(sQ m i).length=m.length+1:=by simp[sQ];omega
def Jy(m:List En)(i:Nat)(hi:i≤m.length):(cellsE (m++ [(0,0,0)])).take ((i+1)*3)++cellsE (m.drop i)++(cellsE (m++ [(0,0,0)])).drop ((i+1)*3+(m.length-i)*3)=cellsE (sQ m i):=by
 have:(cellsE (m++ [(0,0,0)])).drop ((i+1)*3+(m.length-i)*3)=[]:=e_ (by rw[h_];simp;omega);rw[this,List.append_nil,Hi,sQ,mW]
def OD(m:List En)(i:Nat)(hi:i≤m.length)(e:En):(sQ m i).set i e=m.take i++e::m.drop i:=by
 unfold sQ;rw[List.set_append_left _ _ kc]
 have:((m++ [(0,0,0)]).take (i+1)).set i e=m.take i++ [e]:=by
  rw[gb kc,List.take_append_of_le_length hi,List.set_append_right _ _ kc];simp[Nat.min_eq_left hi]
 rw[this];simp
def M8(a b:Int):(if a<b then b else a)=max a b:=by split<;>omega
def rY(l a:List En):(mV l a).length≤l.length+a.length:=by
 induction a generalizing l with
 | nil=>exact G _
 | cons x t b=>
  have d:=b (oQ l x)
  have c:∀l:List En,(oQ l x).length≤l.length+1:=by
   intro l
   induction l with
   | nil=>simp[oQ]
   | cons y t b=>
    unfold oQ
    split
    ·simp only[eI];omega
    ·split<;>simp only[eI]<;>omega
  have e:=c l;show(mV (oQ l x) t).length≤_;simp only[eI];omega
def Qr{w:V}{g cap base i:Nat}{f:List En}{e:En}(b:w.ownsRow base 202 3 (.slice (I ⟨g,0,J⟩) f.length cap) f.length (cellsE f))(hi:i<f.length)
  (c:oQ f e=if O=O then f.set i ((f.getD i (0,0,0)).1,(f.getD i (0,0,0)).2.1,max (f.getD i (0,0,0)).2.2 e.2.2)else f.take i++e::f.drop i):
  (w.setCell ⟨g,i*3+2,J⟩ (.int .i64 (if f[i].2.2<e.2.2 then e.2.2 else f[i].2.2))).drew.ownsRow base 202 3 (.slice (I ⟨g,0,J⟩) f.length cap) (oQ f e).length (cellsE (oQ f e)):=by
 have a:=AL (mr b (i*3+2) (by rw[h_];omega) (.int .i64 (if f[i].2.2<e.2.2 then e.2.2 else f[i].2.2))) 1;rw[Hj f i hi,M8]at a;rw[c,if_pos rfl];have d:f.getD i (0,0,0)=f[i]:=by simp[hi]
 rw[d,eE];rw[M8];exact a
def Rd.left{w:V}{ao:Option aB}{a b:List Z}(h:Rd w ao (a++b)):Rd w ao a:=by
 intro j u c
 have e:j<a.length:=by
  rcases aL j a.length with d | d
  ·exact d
  ·rw[List.getElem?_eq_none d]at c;cases c
 exact h j u (by rw[List.getElem?_append_left e];exact c)
def SR{w:V}{g cap base i:Nat}{c:List En}{e:En}(b:w.ownsRow base 202 3 (.slice (I ⟨g,0,J⟩) (c.length+1) cap) (c.length+1) (cellsE (c++ [e])))(hi:i≤c.length):Rd w (I ⟨g,0+i*3,J⟩) (cellsE (c.drop i)):=by
 have a:=(Sl.rd (cM b)).py (i*3);rw[Hh,List.drop_append_of_le_length hi,mW]at a;exact a.left
def OE{w:V}{g cap base i:Nat}{l:List En}(x y z:Int)(d:w.ownsRow base 202 3 (.slice (I ⟨g,0,J⟩) (l.length+1) cap) (l.length+1) (cellsE (sQ l i)))(hi:i≤l.length)
  {b:Bool} {X:List En} (e:b=U) (f:oQ l (x,y,z)=if b=O then X else l.take i++(x,y,z)::l.drop i):
  (((w.setCell ⟨g,i*3,J⟩ (.int .i64 x)).setCell ⟨g,i*3+1,J⟩ (.int .i64 y)).setCell ⟨g,i*3+2,J⟩ (.int .i64 z)).ownsRow base 202 3 (.slice (I ⟨g,0,J⟩) (l.length+1) cap) (oQ l (x,y,z)).length (cellsE (oQ l (x,y,z))):=by
 subst e;have a:=yD l i hi;have h:=mr d (i*3) (by rw[h_,a];omega) (.int .i64 x);have j:=mr h (i*3+1) (by rw[eE,h_,a];omega) (.int .i64 y);have c:=mr j (i*3+2) (by rw[eE,eE,h_,a];omega) (.int .i64 z);rw[Hk _ i A,OD l i hi]at c;rw[f,if_neg bW];have k:(l.take i++(x,y,z)::l.drop i).length=l.length+1:=by simp;omega
 rw[k];exact c
def OG(v v':Z)(l c:List En)(w:V)(h:tC w v l)(h':tC w v' c)(hl:l.length+c.length<1000000):
  ar M 224 #[v,v'] w (yC w 3 202 (mV l c).length (cellsE (mV l c))):=by
 obtain⟨ao,cap,rfl,Z0,hm⟩:=Sl.shape h;obtain⟨i1,a1,rfl,N0,j1⟩:=Sl.shape h';obtain⟨iE,s,O0,t,P0⟩:=fT LH;have b1:=Sl.rd h
 go_enter func224,ntmps224
 go_upto_region 2 with(refine nE (o:=⟨I 17,_,_,_,_,_⟩) rfl _ _ 40 rfl w.heap.size 202 iE _ 3 24 underlying40 s O0 t P0 .i64 .i64 _ _ l.length (l.length+c.length) rfl rfl rfl A A A A (G _) ?_;intro xs w1 s0 t0)
 have R:ae w.heap.size w w1:=(aD _ _).grown t0 (G _) (fun g hg=>by cases hg);have h0:Sl w1 3 (.slice ao l.length cap) l.length (cellsE l):=Sl.keep h R (G _);clear t0;go_upto_region 3 with(refine qR (o:=⟨I 20,_,_,_,_,_⟩) rfl _ _ _ _ rfl w.heap.size 202 iE 3 underlying40 s t _ _ _ _ rfl s0 _ _ _ rfl h0 (tB _) ?_;intro w2 v0 w0)
 have x0:ae w.heap.size w w2:=R.grown w0 R.size (fun g hg=>by injection hg with hg;omega);clear w0 s0 h0 R xs;go_wp2
 go_loopw[5,23] (fun v i wr=>∃k:Nat,k≤c.length∧i=.int .i64 k∧wr.ownsRow w.heap.size 202 3 v (mV l (c.take k)).length (cellsE (mV l (c.take k)))∧(mV l (c.take k)).length≤l.length+k∧ae w.heap.size w wr) (fun _ i _=>c.length-(bp i).toNat)
 case atStart=>exact⟨0,aw _,rfl,v0,G _,x0⟩
 case round=>
  obtain⟨k,hk,rfl,ho,l1,hb⟩:=hrel;clear v0 x0;have hz:=hb.size;rcases aL k c.length with l0 | Q0
  ·obtain⟨b,m1,rfl,n1,y0,z0,A0⟩:=h'.three hb (G _) k l0
   have HJ:Hid (mV l (c.take (k+1))=oQ (mV l (c.take k)) c[k]):=by show _=_;rw[Ju c k l0,mV,List.foldl_append];rfl
   generalize hM:mV l (c.take k)=t1 at*;have HM:=D hM;clear hM;generalize c[k]'l0=r at*;obtain⟨x,y,z⟩:=r;simp only at y0 z0 A0;go_wp2_with fail
   refine(Jv x y z _).mono ?_;rintro en w3 ⟨rfl,S⟩;have HB:=D (rX (al wr (.cells #[.int .i64 x,.int .i64 y,.int .i64 z] 202)) S bW);have m0:ae wr.heap.size wr w3:=((aD _ _).alloc (G _) _).trans (S.mono bW);have n0:wr.heap.size<w3.heap.size:=by have:=S.size;simp at this;omega
   have j:=rI ho m0 (G _);clear S;have o0:=D (Qq t1 (x,y,z));have T:=D (M7 t1 x y);have HC:=D (M6 u5 t1 x y w3 (cM j) A);rcases hat:kl t1 x y with⟨i,bo⟩
   rw[hat]at o0 T HC;clear hat;go_wp2_with fail
   refine HC.o.mono ?_;rintro en w4 ⟨rfl,u⟩;have p0:=D (rX HB.o u n0);have a:=rI j u (G _);have B:ae w.heap.size w w4:=hb.trans ((m0.mono (Nat.le_of_lt n0 |> fun _=>hz)).trans (u.mono A));have R0:wr.heap.size<w4.heap.size:=ac n0 u.size;have C:Hid (∀g,u5.ownBlock=I g→g<wr.heap.size):=fun g hg=>(ho.lt g hg).2
   clear m0 u j HB HC ho y0 z0 A0 hb
   cases bo with
   | true=>
    have hi:=T.o.2 rfl;obtain⟨g,d,rfl⟩:=wB a A;obtain⟨p,B0,E,F,_,f,H⟩:=iP a;have o1:=H _ _ (pG t1 i hi).2.2;obtain⟨e0,e1,e2,S0⟩:=aW p0.o;have C0:g≠wr.heap.size:=lZ (C.o g rfl);have d1:=f (i*3+2);clear H f C;go_wp2;have D0:=Qr a hi o0.o;have W:=D D0;clear D0;generalize t1[i].2.2=m at*
    go_region
    go_wp2;go_roundw
    case rel=>exact⟨k+1,by omega,by go_num,by rw[HJ.o];first | exact W.o | (rw [←M8];exact W.o),aa (rY _ _) kc,(B.setCell p _).drew⟩
    case measure=>simp[bp];omega
   | false=>
    have HI:=D T.o.1;clear T;go_upto_region 10 with(refine OC (o:=⟨I 50,_,_,_,_,_⟩) rfl _ _ rfl w.heap.size _ t1.length t1 rfl (a.alloc _) _ _ 0 0 0 rfl (BC _ _ _ _ _ _ (by first | rfl | simp)) A kc ?_;intro v5 Q K X i0)
    have E0:ae w.heap.size w Q:=(B.alloc A _).grown X kc (k_ a)
    have F0:Hid (Q.heap[wr.heap.size]?=I (.cells #[.int .i64 x,.int .i64 y,.int .i64 z] 202 (0,0))):=by
     show _=_;rw[X.block wr.heap.size kc (fun e=>by have:=C.o _ e.symm;omega),ed _ _ _ R0];exact p0.o
    have G0:wr.heap.size<Q.heap.size:=by have:=X.size;simp at this;omega
    obtain⟨g,d,rfl⟩:=wB K A
    have C0:g≠wr.heap.size:=by
     rcases i0 with hh | hh
     ·exact lZ (C.o g hh.symm)
     ·simp[Value.ownBlock]at hh;omega
    obtain⟨p,B0,E,F,_,f,_⟩:=iP K;clear X i0 a p0 C B;have n:=SR K HI.o;have hI:=HI.o;obtain⟨H0,L,a0⟩:=ey (P:= M) 40 202 iE 3 underlying40 s t g 0 (t1.length+1) d (i+1) ((i:Int)+1) A A E;obtain⟨I0,N,b0⟩:=ey (P:= M) 40 202 iE 3 underlying40 s t g 0 (t1.length+1) d i (i:Int) rfl A E;have T0:IntKind.i64.wrap ((i:Int)+1)=(i:Int)+1:=IntWalk.i64_in _ A;go_still_tail 7,aj
    change cH _ _ _ _ _ Q.drew;have J0:ae w.heap.size w Q.drew:=E0.drew;have K0:Q.drew.ownsRow w.heap.size 202 3 (.slice (I ⟨g,0,J⟩) (t1.length+1) d) (t1.length+1) (cellsE (t1++ [(0,0,0)])):=K;have j0:Rd Q.drew (I ⟨g,0+i*3,J⟩) (cellsE (t1.drop i)):=n;have L0:Hid (Q.drew.heap[wr.heap.size]?=I (.cells #[.int .i64 x,.int .i64 y,.int .i64 z] 202 (0,0))):=F0;have q0:wr.heap.size<Q.drew.heap.size:=G0;generalize Q.drew=w8 at*;clear K n F0 G0 E0 a0 b0 T0;refine sM (o:=⟨I 58,_,_,_,_,_⟩) rfl _ _ _ _ rfl w.heap.size 202 iE 3 underlying40 s t g (t1.length+1) d _ K0 (i+1) (t1.length-i) _ H0 rfl ?c1 ?c2 I0 _ _ (cellsE (t1.drop i)) rfl ?c3 ?c4 ?c5 (tB _) ?_
    case c1=>intro hm;rw[L A];simp
    case c2=>omega
    case c3=>omega
    case c4=>rw[h_,List.length_drop]
    case c5=>intro hm;rw[N A];exact j0
    intro w9 r0 c0;rw[Jy t1 i HI.o]at r0;have U0:ae w.heap.size w w9:=J0.grown c0 A (fun q hq=>by injection hq with hq;omega);have V0:=D ((c0.block wr.heap.size q0 (fun e=>by injection e with e;omega)).trans L0.o);have p1:wr.heap.size<w9.heap.size:=ac q0 c0.size;clear c0 L0 J0 q0 j0 K0 L N;have W:=D (OE x y z r0 HI.o bW o0.o);obtain⟨p,B0,E,F,_,f,d0⟩:=iP r0;have g0:i<(sQ t1 i).length:=by rw[yD t1 i HI.o];omega
    have k0:=d0 _ _ (pG (sQ t1 i) i g0).1;have k1:=d0 _ _ (pG (sQ t1 i) i g0).2.1;have k2:=d0 _ _ (pG (sQ t1 i) i g0).2.2;generalize (sQ t1 i)[i]=q at k0 k1 k2;clear d0 g0;obtain⟨e0,e1,e2,S0⟩:=aW V0.o;have f0:=f (i*3);have f1:=f (i*3+1);have f2:=f (i*3+2);have q1:i<t1.length+1:=A
    have g1:¬g=wr.heap.size:=C0;clear f;go_wp2;go_roundw
    case rel=>exact⟨k+1,by omega,by go_num,by rw[HJ.o];exact W.o,aa (rY _ _) kc,((U0.setCell p _).setCell p _).setCell p _⟩
    case measure=>simp[bp];omega
  ·have M0:c.take k=c:=List.take_of_length_le Q0
   rw[M0]at ho;clear M0;obtain⟨r1,d,rfl,E,s1⟩:=bY ho;have n:=Sl.rd (cM ho);have h1:=rY l c;have W0:=(cD wr w.heap.size 202 3:wr.ownsRow w.heap.size 202 3 (.slice J 0 0) 0 []);go_wp2_with (refine LI (o:=⟨I 65,_,_,_,_,_⟩) rfl _ _ rfl w.heap.size _ 0 [] rfl W0 _ _ _ (mV l c) rfl rfl n A hz ?_;intro v6 w6 X0 Y0)
   have B:ae w.heap.size w w6:=hb.grown Y0 hz (fun g hg=>by cases hg);go_wp2;go_ret;refine⟨v6,rfl,?_,B⟩;simpa using X0
def oL(l:List En)(d e s:Int):List En×Int:=if d<0∨e<0∨s<1 then([],1)else if AX l d e s then([],7)else(mV l [(d,e,s)],0)
def ZC(w:V)(l:List En)(en:de)(w':V):Prop:=∃a,en=.returned a∧tC w' a l∧ae w.heap.size w w'
def YT(w:V)(r:List En×Int)(en:de)(w':V):Prop:=∃a,en=.returned (.tuple #[a,.int .i64 r.2])∧w'.ownsRow w.heap.size 202 3 a r.1.length (cellsE r.1)∧ae w.heap.size w w'
def ib(B:Nat)(v:Z):Prop:=∀g,v.ownBlock=I g→B≤g
def ZD(w:V)(l:List En)(en:de)(w':V):Prop:=∃a,en=.returned a∧tC w' a l∧ib w.heap.size a∧ae w.heap.size w w'
def yC.f{w:V}{l:List En}{e:Nat}{en:de}{w':V}(h:yC w 3 e l.length (cellsE l) en w'):ZD w l en w':=by
 obtain⟨b,c,a,d⟩:=h;exact⟨b,c,cM a,k_ a,d⟩
def yC.e{w:V}{l:List En}{e:Nat}{en:de}{w':V}(h:yC w 3 e l.length (cellsE l) en w'):ZC w l en w':=by
 obtain⟨a,b,c,d⟩:=h;exact⟨a,b,cM c,d⟩
def OH{w:V}{b:Nat}{x y z:Int}(h:w.heap[b]?=I (.cells #[.int .i64 x,.int .i64 y,.int .i64 z] 202 (0,0))):tC w (.slice (I ⟨b,0,J⟩) 1 1) [(x,y,z)]:=by
 refine⟨rfl,I ⟨b,0,J⟩,1,rfl,G _,by unfold gC;omega,(fun h=>by cases h),fun j u a=>⟨b,0,rfl,(br h).1,?_⟩⟩;simp only[an,h];simpa[cellsE]using a
def OI(v:Z)(l:List En)(d e s:Int)(w:V)(h:tC w v l)(C:l.length<999999):
  ar M 161 #[v,.agg #[.int .i64 d,.int .i64 e,.int .i64 s]] w (YT w (oL l d e s)):=by
 have a:ae w.heap.size w (w.alloc (.cells #[.int .i64 d,.int .i64 e,.int .i64 s] 73)):=(aD _ _).alloc (G _) _;by_cases f:d<0
 ·have HF:Hid (oL l d e s=([],1)):=by show _=_;simp[oL,f]
  go_enter func161,ntmps161
  go_wp2
  go_ret2
  rw[HF.o];exact⟨_,rfl,cD _ _ _ _,a⟩
 by_cases k:e<0
 ·have HF:Hid (oL l d e s=([],1)):=by show _=_;simp[oL,k]
  have t:decide (d<0)=U:=by simpa using f
  clear f
  go_enter func161,ntmps161
  go_wp2
  go_ret2
  rw[HF.o];exact⟨_,rfl,cD _ _ _ _,a⟩
 by_cases o:s<1
 ·have HF:Hid (oL l d e s=([],1)):=by show _=_;simp[oL,o]
  have t:decide (d<0)=U:=by simpa using f
  have y:decide (e<0)=U:=by simpa using k
  clear f k
  go_enter func161,ntmps161
  go_wp2
  go_ret2
  rw[HF.o];exact⟨_,rfl,cD _ _ _ _,a⟩
 have t:decide (d<0)=U:=by simpa using f
 have y:decide (e<0)=U:=by simpa using k
 have E:decide (s<1)=U:=by simpa using o
 have j:Hid (oL l d e s=if AX l d e s then([],7)else(mV l [(d,e,s)],0)):=by
  show _=_;rw[oL,if_neg];omega
 clear f k o;have u:=al w (.cells #[.int .i64 d,.int .i64 e,.int .i64 s] 73);have m:Hid (ar M 223 #[v,.agg #[.int .i64 d,.int .i64 e,.int .i64 s]] (w.alloc (.cells #[.int .i64 d,.int .i64 e,.int .i64 s] 73)) _):=Qp v l d e s _ (h.keep a (G _)) A;have c:=D u;clear u
 cases n:AX l d e s with
 | true=>
  rw[n]at j m;simp only[if_true]at j;clear n
  go_enter func161,ntmps161
  go_wp2_with fail
  refine m.o.mono ?_;rintro en x ⟨rfl,b⟩;go_wp2
  go_ret2
  rw[j.o];exact⟨_,rfl,cD _ _ _ _,a.trans (b.mono a.size)⟩
 | false=>
  rw[n]at j m;simp only[Bool.false_eq_true,if_false]at j;clear n
  go_enter func161,ntmps161
  go_wp2_with fail
  refine m.o.mono ?_;rintro en x ⟨rfl,b⟩;obtain⟨c0,c1,c2,z⟩:=aW (rX c.o b bW);have g:=a.trans (b.mono a.size);have B:=g.size;have p:=h.keep g (G _);clear b m c a;go_wp2_with fail
  have i:=g.alloc B (.cells #[.int .i64 d,.int .i64 e,.int .i64 s] 202);refine(OG v _ l [(d,e,s)] _ (p.keep ((aD _ _).alloc (G _) _) (G _)) (OH (al x _)) kc).mono ?_;rintro en F ⟨H,rfl,q,r⟩;go_wp2
  go_ret2
  rw[j.o];exact⟨_,rfl,ki q i.size,i.trans (r.mono i.size)⟩
def LJ(l:List En)(d e s:Int):(oL l d e s).1.length≤l.length+1:=by
 unfold oL
 split
 ·simp
 ·split
  ·simp
  ·have:=rY l [(d,e,s)]
   simpa using this
def Jz{l:List UInt8}(h:oW l=O):l.length≤40:=by
 simp only[oW,Bool.and_eq_true,decide_eq_true_eq]at h;exact h.2
def Qs{o:hJ}(h:iV o=0):o.key.length≤40∧o.tx.length≤40∧(o.k=3→o.ds.length≤8):=by
 unfold iV at h
 split at h
 ·cases h
 ·split at h
  ·cases h
  ·split at h
   ·cases h
   ·rename_i a
    simp only[not_or,Bool.not_eq_false]at a;refine⟨Jz a.1,Jz a.2,fun b=>?_⟩;rw[jU,if_pos b]at h
    split at h
    ·cases h
    ·rw[qf]at h
     split at h
     ·cases h
     ·omega
def Three.q8{w W:V}{B b:Nat}{d e f g i j:Z}{y z:Array Z}{tx a c:aN}(h:Three w W B b #[d,e,f,g,i,j] y z tx a c)(a0 a1 a2 a3 a4 a5:Z):
  Three w ((((((W.setCell ⟨b,0,J⟩ a0).setCell ⟨b,1,J⟩ a1).setCell ⟨b,2,J⟩ a2).setCell ⟨b,3,J⟩ a3).setCell ⟨b,4,J⟩ a4).setCell ⟨b,5,J⟩ a5) B b #[a0,a1,a2,a3,a4,a5] y z tx a c:=by
 have k:=h.lo;have l:=h.sz;refine⟨?_,h.lo,by simpa[aV]using l,by simp[aV,aR,h.k0],?_,?_⟩
 ·repeat (refine cu ?_ k _)
  exact h.bl
 ·repeat rw[bC _ _ _ _ (by show b+1≠b;omega)]
  exact h.k1
 ·repeat rw[bC _ _ _ _ (by show b+2≠b;omega)]
  exact h.k2
def bB.q8{w:V}{B b:Nat}{z:dY}{c:eo}(h:bB w B z c)(a:b<B)(a0 a1 a2 a3 a4 a5:Z):
  bB ((((((w.setCell ⟨b,0,J⟩ a0).setCell ⟨b,1,J⟩ a1).setCell ⟨b,2,J⟩ a2).setCell ⟨b,3,J⟩ a3).setCell ⟨b,4,J⟩ a4).setCell ⟨b,5,J⟩ a5) B z c:=by
 repeat (refine bB.put ?_ _ a _)
 exact h
def YU(w:V)(n:Nat)(en:de)(w':V):Prop:=∃z c e,en=.returned (.tuple #[.agg ⟨z.l c⟩,.int .i64 e])∧bB w' w.heap.size z c∧c.ok n∧ae w.heap.size w w'
def bB.SS{w w':V}{B:Nat}{z:dY}{c:eo}{a:Option aB}{k:Nat}{l:List _}(h:bB w B z c)(b:ae w.heap.size w w')(d:iH.own w' B (.slice a l.length k) l):bB w' B ⟨(a,k),z.r,z.e,z.g,z.s,z.b⟩ ⟨l,c.r,c.e,c.g,c.s,c.b⟩:=
 ⟨d,h.r.keep b (G _),h.e.keep b (G _),h.g.keep b (G _),h.s.keep b (G _),h.b.keep b (G _)⟩
def AY(w:V)(B0:Nat)(z:dY)(c:eo)(N:Nat)(d1 d2 d3 cl v k n t:Int)(ky tx:List UInt8)(ds:List D3)(da:Option aB)(dc:Nat)(h:bB w B0 z c)(hf:c.ok N)(hN:N<89990)(hd:cc cn.f cn.E w (.slice da ds.length dc) ds)(m0:ky.length<1000000000)(n0:tx.length<1000000000):
  ar M 90 #[.agg ⟨z.l c⟩,.agg (iG d1 d2 d3 cl v k ky tx n t da ds.length dc)] w (YU w (N+9)):=by
 obtain⟨⟨va,vc⟩,⟨ra,rc⟩,⟨ea,ec⟩,⟨ga,gc⟩,⟨sa,sc⟩,⟨ba,bc⟩⟩:=z;simp only[dY.l];obtain⟨b,hb⟩:∃b,w.heap.size=b:=⟨_,rfl⟩;obtain⟨W,hW⟩:∃W,((w.alloc (.cells (di va c.v.length vc ra c.r.length rc ea c.e.length ec ga c.g.length gc sa c.s.length sc ba c.b.length bc) 47)).alloc (.cells (iG d1 d2 d3 cl v k ky tx n t da ds.length dc) 75)).alloc (.cells jR 47)=W:=⟨_,rfl⟩;have a:Hid (Three w W b b (di va c.v.length vc ra c.r.length rc ea c.e.length ec ga c.g.length gc sa c.s.length sc ba c.b.length bc) (iG d1 d2 d3 cl v k ky tx n t da ds.length dc) jR 47 75 47):=D (by rw[←hW,←hb];exact Three.mk' _ _ (G _) _ _ _ _ _ _);have m:=D (h.keep (by rw[←hW];exact rT w _ _ _:ae w.heap.size w W) (G _));have HF:=D hf;have HN:=D hN;have HD:=D hd;have s0:=D m0;have t0:=D n0;have HW:=D hW;have HE:=D hb;clear h hf hN hd m0 n0 hW hb
 go_enter func90,ntmps90
 go_upto_region 1 with fail
 rw[HW.o,HE.o];clear HW;obtain⟨f,h0⟩:∃f,W.heap.size=f:=⟨_,rfl⟩;have j:Hid (b+3≤f):=D (by rw[←h0];exact a.o.sz);have c0:Hid (b<f):=D (by have:=j.o;omega);obtain⟨b0,b1,b2,b3,b4,b5⟩:=ah a.o.k0;obtain⟨o0,o1,o2,o3,o4,o5,o6,o7,o8,o9,a0⟩:=bL a.o.k1;have f0:=aq a.o.k0 0;have f1:=aq a.o.k0 1;have f2:=aq a.o.k0 2;have l:=aq a.o.k0 3;have f4:=aq a.o.k0 4;have f5:=aq a.o.k0 5
 go_upto_region 2 with(
  (go_at_call 160;refine(nL W B0 ⟨(va,vc),(ra,rc),(ea,ec),(ga,gc),(sa,sc),(ba,bc)⟩ c m.o (HF.o.few (by have:=HN.o;omega))).mono ?_)
  rintro en w2 ⟨z2,rfl,i0,j0⟩;obtain⟨⟨vx,vk⟩,⟨rx,rk⟩,⟨ex,ek⟩,⟨gx,gk⟩,⟨sx,sk⟩,⟨bx,bk⟩⟩:=z2;simp only[dY.l];have a:=D (a.o.keep j0 a.o.sz);rw[h0]at i0;have m:=D i0;have S:Hid (f≤w2.heap.size):=D (by rw[←h0];exact j0.size);clear i0 j0 b0 b1 b2 b3 b4 b5 f0 f1 f2 l f4 f5;obtain⟨b0,b1,b2,b3,b4,b5⟩:=ah a.o.k0;have f0:=aq a.o.k0 0;have f1:=aq a.o.k0 1;have f2:=aq a.o.k0 2;have l:=aq a.o.k0 3;have f4:=aq a.o.k0 4
  have f5:=aq a.o.k0 5)
 clear f0 f1 f2 l f4 f5;clear b0 b1 b2 b3 b4 b5 o0 o1 o2 o3 o4 o5 o6 o7 o8 o9 a0;obtain⟨W3,d0⟩:∃W3,((((((w2.setCell ⟨b,0,J⟩ (.slice vx c.v.length vk)).setCell ⟨b,1,J⟩ (.slice rx c.r.length rk)).setCell ⟨b,2,J⟩ (.slice ex c.e.length ek)).setCell ⟨b,3,J⟩ (.slice gx c.g.length gk)).setCell ⟨b,4,J⟩ (.slice sx c.s.length sk)).setCell ⟨b,5,J⟩ (.slice bx c.b.length bk))=W3:=⟨_,rfl⟩;have a:Hid (Three w W3 b b (di vx c.v.length vk rx c.r.length rk ex c.e.length ek gx c.g.length gk sx c.s.length sk bx c.b.length bk) (iG d1 d2 d3 cl v k ky tx n t da ds.length dc) jR 47 75 47):=D (by rw[←d0];exact a.o.q8 _ _ _ _ _ _);have m:Hid (bB W3 f ⟨(vx,vk),(rx,rk),(ex,ek),(gx,gk),(sx,sk),(bx,bk)⟩ c):=D (by rw[←d0];exact m.o.q8 c0.o _ _ _ _ _ _);have u:Hid (f≤W3.heap.size):=D (by rw[←d0];simpa[aV]using S.o);rw[d0];clear d0;obtain⟨E,hE⟩:∃E,iV ⟨(d1,d2,d3),cl,v,k,ky,tx,n,t,ds⟩=E:=⟨_,rfl⟩;have p0:=D hE;clear hE;obtain⟨b0,b1,b2,b3,b4,b5⟩:=ah a.o.k0;obtain⟨o0,o1,o2,o3,o4,o5,o6,o7,o8,o9,a0⟩:=bL a.o.k1;go_upto_region 3 with((go_at_call 108;refine(nH W3 da dc d1 d2 d3 cl v k n t ky tx ds (cc.keep HD.o a.o.bl (bD HE.o)) s0.o t0.o).mono ?_);rintro en w4 ⟨rfl,h4⟩;have B4:=D h4;clear h4)
 rw[p0.o];have x:Hid (f≤w4.heap.size):=D (aa u.o B4.o.size);have a:=D (a.o.keep B4.o a.o.sz);have m:=D (m.o.keep B4.o (G _));clear b0 b1 b2 b3 b4 b5 o0 o1 o2 o3 o4 o5 o6 o7 o8 o9 a0;by_cases k0:E=0
 rotate_left
 ·have e1:(E != 0)=O:=by simpa using k0
  clear k0;obtain⟨b0,b1,b2,b3,b4,b5⟩:=ah a.o.k0;obtain⟨r0,r1,r2,r3,r4,r5⟩:=ah a.o.k2;have f0:=aq a.o.k2 0;have f1:=aq a.o.k2 1;have f2:=aq a.o.k2 2;have l:=aq a.o.k2 3;have f4:=aq a.o.k2 4;have f5:=aq a.o.k2 5;go_wp2;refine au (v:=.tuple #[.agg (di vx c.v.length vk rx c.r.length rk ex c.e.length ek gx c.g.length gk sx c.s.length sk bx c.b.length bk),.int .i64 E]) (by simp[results,results90,go_sem, *]) rfl ?_;refine⟨⟨(vx,vk),(rx,rk),(ex,ek),(gx,gk),(sx,sk),(bx,bk)⟩,c,_,rfl,?_,HF.o.up A,?_⟩
  ·rw[HE.o]
   refine bB.to (B:=f) ?_ (by have:=j.o;omega)
   repeat (refine bB.put ?_ _ (by have:=j.o;show b+2<f;omega) _)
   exact m.o
  ·rw[HE.o]
   repeat (refine cu ?_ (by show b≤b+2;omega) _)
   exact a.o.bl
 ·subst k0
  have p:=D (Qs p0.o);obtain⟨s1,s2,hr⟩:∃s1 s2,oL c.v d1 d2 d3=(s1,s2):=⟨_,_,rfl⟩;have v0:Hid (s1.length≤N+1):=D (by have:=LJ c.v d1 d2 d3;rw[hr]at this;have:=HF.o.nv;simp only at *;omega);have w0:=D hr;clear hr;obtain⟨b0,b1,b2,b3,b4,b5⟩:=ah a.o.k0;obtain⟨o0,o1,o2,o3,o4,o5,o6,o7,o8,o9,a0⟩:=bL a.o.k1
  go_upto_region 6 with(
   (go_at_call 161;refine(OI (.slice vx c.v.length vk) c.v d1 d2 d3 w4 m.o.v.sl (by have:=HF.o.nv;have:=HN.o;omega)).mono ?_)
   rintro en w5 ⟨v5,rfl,o5,b5⟩;obtain⟨a5,k5,rfl,-,-⟩:=bY o5;rw[w0.o]at o5⊢;have O5:Hid (iH.own w5 w4.heap.size (.slice a5 s1.length k5) s1):=D o5;have B5:=D b5
   clear o5 b5)
  have O5:Hid (iH.own w5 f (.slice a5 s1.length k5) s1):=D (O5.o.to x.o);have q0:=D (bB.SS m.o B5.o O5.o);have m:=D (m.o.keep B5.o (G _));have a:=D (a.o.keep B5.o a.o.sz);clear b0 b1 b2 b3 b4 b5 o0 o1 o2 o3 o4 o5 o6 o7 o8 o9 a0;by_cases l0:s2=0
  rotate_left
  ·have e1:(s2 != 0)=O:=by simpa using l0
   clear l0;obtain⟨b0,b1,b2,b3,b4,b5⟩:=ah a.o.k0;obtain⟨r0,r1,r2,r3,r4,r5⟩:=ah a.o.k2;have f0:=aq a.o.k2 0;have f1:=aq a.o.k2 1;have f2:=aq a.o.k2 2;have l:=aq a.o.k2 3;have f4:=aq a.o.k2 4;have f5:=aq a.o.k2 5;go_wp2;refine au (v:=.tuple #[.agg (di vx c.v.length vk rx c.r.length rk ex c.e.length ek gx c.g.length gk sx c.s.length sk bx c.b.length bk),.int .i64 s2]) (by simp[results,results90,go_sem, *]) rfl ?_;refine⟨⟨(vx,vk),(rx,rk),(ex,ek),(gx,gk),(sx,sk),(bx,bk)⟩,c,_,rfl,?_,HF.o.up A,?_⟩
   ·rw[HE.o]
    refine bB.to (B:=f) ?_ (by have:=j.o;omega)
    repeat (refine bB.put ?_ _ (by have:=j.o;show b+2<f;omega) _)
    exact m.o
   ·rw[HE.o]
    repeat (refine cu ?_ (by show b≤b+2;omega) _)
    exact a.o.bl
  ·subst l0
   obtain⟨b0,b1,b2,b3,b4,b5⟩:=ah a.o.k0;obtain⟨o0,o1,o2,o3,o4,o5,o6,o7,o8,o9,a0⟩:=bL a.o.k1;have f0:=aq a.o.k0 0;have f1:=aq a.o.k0 1;have f2:=aq a.o.k0 2;have l:=aq a.o.k0 3;have f4:=aq a.o.k0 4;have f5:=aq a.o.k0 5;go_upto_region 9 with fail
   obtain⟨w6,e0⟩:∃w6,w5.setCell ⟨b,0,J⟩ (.slice a5 s1.length k5)=w6:=⟨_,rfl⟩;have a:Hid (Three w w6 b b (di a5 s1.length k5 rx c.r.length rk ex c.e.length ek gx c.g.length gk sx c.s.length sk bx c.b.length bk) (iG d1 d2 d3 cl v k ky tx n t da ds.length dc) jR 47 75 47):=D (by rw[←e0];exact a.o.put 0 _);have m:Hid (bB w6 f ⟨(a5,k5),(rx,rk),(ex,ek),(gx,gk),(sx,sk),(bx,bk)⟩ ⟨s1,c.r,c.e,c.g,c.s,c.b⟩):=D (by rw[←e0];exact q0.o.put ⟨b,0,J⟩ c0.o _);have T:Hid (w4.heap.size≤w6.heap.size):=D (by rw[←e0];simpa[aV]using B5.o.size);have i:Hid (eo.ok ⟨s1,c.r,c.e,c.g,c.s,c.b⟩ (N+1)):=D ⟨v0.o,gR HF.o.nr,gR HF.o.ne,gR HF.o.ng,gR HF.o.ns,gR HF.o.nb,HF.o.tr,HF.o.te,HF.o.ts,HF.o.tb⟩;rw[e0];clear e0 q0;clear b0 b1 b2 b3 b4 b5 o0 o1 o2 o3 o4 o5 o6 o7 o8 o9 a0;clear f0 f1 f2 l f4 f5;obtain⟨b0,b1,b2,b3,b4,b5⟩:=ah a.o.k0;obtain⟨o0,o1,o2,o3,o4,o5,o6,o7,o8,o9,a0⟩:=bL a.o.k1;by_cases k1:k=1
   ·subst k1
    have f0:=aq a.o.k0 0;have f1:=aq a.o.k0 1;have f2:=aq a.o.k0 2;have l:=aq a.o.k0 3;have f4:=aq a.o.k0 4;have f5:=aq a.o.k0 5
    go_upto_region 20 with(
     (go_at_call 162;refine(Ox w6 f ⟨(a5,k5),(rx,rk),(ex,ek),(gx,gk),(sx,sk),(bx,bk)⟩ ⟨s1,c.r,c.e,c.g,c.s,c.b⟩ (N+1) d1 d2 d3 cl v 1 n t ky tx (.slice da ds.length dc) m.o (aa x.o T.o) i.o (by have:=HN.o;omega) p.o.1 p.o.2.1).mono ?_)
     rintro en w7 ⟨z3,d,rfl,r,s,b7⟩;obtain⟨⟨y,C⟩,⟨F,H⟩,⟨K,L⟩,⟨P,Q⟩,⟨sh,sl⟩,⟨R,bl⟩⟩:=z3;simp only[dY.l];have a:=D (a.o.keep b7 j.o);have m:=D r;have i:=D (s.up (show N+1+1≤N+9 by omega));have S:Hid (f≤w7.heap.size):=D (aa (aa x.o T.o) b7.size);clear r s b7 b0 b1 b2 b3 b4 b5 f0 f1 f2 l f4 f5;obtain⟨b0,b1,b2,b3,b4,b5⟩:=ah a.o.k0;have f0:=aq a.o.k0 0;have f1:=aq a.o.k0 1;have f2:=aq a.o.k0 2;have l:=aq a.o.k0 3;have f4:=aq a.o.k0 4
     have f5:=aq a.o.k0 5)
    clear f0 f1 f2 l f4 f5;clear b0 b1 b2 b3 b4 b5;obtain⟨o,g⟩:∃o,((((((w7.setCell ⟨b,0,J⟩ (.slice y d.v.length C)).setCell ⟨b,1,J⟩ (.slice F d.r.length H)).setCell ⟨b,2,J⟩ (.slice K d.e.length L)).setCell ⟨b,3,J⟩ (.slice P d.g.length Q)).setCell ⟨b,4,J⟩ (.slice sh d.s.length sl)).setCell ⟨b,5,J⟩ (.slice R d.b.length bl))=o:=⟨_,rfl⟩;have a:Hid (Three w o b b (di y d.v.length C F d.r.length H K d.e.length L P d.g.length Q sh d.s.length sl R d.b.length bl) (iG d1 d2 d3 cl v 1 ky tx n t da ds.length dc) jR 47 75 47):=D (by rw[←g];exact a.o.q8 _ _ _ _ _ _);have m:Hid (bB o f ⟨(y,C),(F,H),(K,L),(P,Q),(sh,sl),(R,bl)⟩ d):=D (by rw[←g];exact m.o.q8 c0.o _ _ _ _ _ _);have u:Hid (f≤o.heap.size):=D (by rw[←g];simpa[aV]using S.o);rw[g];clear g;obtain⟨b0,b1,b2,b3,b4,b5⟩:=ah a.o.k0;obtain⟨r0,r1,r2,r3,r4,r5⟩:=ah a.o.k2;have f0:=aq a.o.k2 0;have f1:=aq a.o.k2 1;have f2:=aq a.o.k2 2;have l:=aq a.o.k2 3;have f4:=aq a.o.k2 4;have f5:=aq a.o.k2 5;have g0:=a.o.sz
    go_wp2_with (
     (go_at_call 160;refine(nL o f ⟨(y,C),(F,H),(K,L),(P,Q),(sh,sl),(R,bl)⟩ d m.o (i.o.few (by have:=HN.o;omega))).mono ?_)
     rintro en w9 ⟨z9,rfl,q,b9⟩;obtain⟨⟨vz,vm⟩,⟨rz,rm⟩,⟨ez,em⟩,⟨gz,gm⟩,⟨sz,sm⟩,⟨bz,bm⟩⟩:=z9;simp only[dY.l];have e:=D (a.o.keep b9 a.o.sz);have X:=D (q.to (show f≤o.heap.size from u.o));clear q b9 r0 r1 r2 r3 r4 r5 f0 f1 f2 l f4 f5;obtain⟨r0,r1,r2,r3,r4,r5⟩:=ah e.o.k2;have f0:=aq e.o.k2 0;have f1:=aq e.o.k2 1;have f2:=aq e.o.k2 2;have l:=aq e.o.k2 3;have f4:=aq e.o.k2 4
     have f5:=aq e.o.k2 5)
    refine au (v:=.tuple #[.agg (di vz d.v.length vm rz d.r.length rm ez d.e.length em gz d.g.length gm sz d.s.length sm bz d.b.length bm),.int .i64 0]) (by simp[results,results90,go_sem, *]) rfl ?_;refine⟨⟨(vz,vm),(rz,rm),(ez,em),(gz,gm),(sz,sm),(bz,bm)⟩,d,0,rfl,?_,i.o,?_⟩
    ·rw[HE.o]
     refine bB.to (B:=f) ?_ (by have:=j.o;omega)
     repeat (refine bB.put ?_ _ (by have:=j.o;show b+2<f;omega) _)
     exact X.o
    ·rw[HE.o]
     repeat (refine cu ?_ (by show b≤b+2;omega) _)
     exact e.o.bl
   ·have e1:(k==1)=U:=by simpa using k1
    clear k1;by_cases k2:k=2
    ·subst k2
     have f0:=aq a.o.k0 0;have f1:=aq a.o.k0 1;have f2:=aq a.o.k0 2;have l:=aq a.o.k0 3;have f4:=aq a.o.k0 4;have f5:=aq a.o.k0 5
     go_upto_region 20 with(
      (go_at_call 163;refine(Ov w6 f ⟨(a5,k5),(rx,rk),(ex,ek),(gx,gk),(sx,sk),(bx,bk)⟩ ⟨s1,c.r,c.e,c.g,c.s,c.b⟩ (N+1) d1 d2 d3 cl v 2 n t ky tx (.slice da ds.length dc) m.o (aa x.o T.o) i.o (by have:=HN.o;omega) p.o.1 p.o.2.1).mono ?_)
      rintro en w7 ⟨z3,d,rfl,r,s,b7⟩;obtain⟨⟨y,C⟩,⟨F,H⟩,⟨K,L⟩,⟨P,Q⟩,⟨sh,sl⟩,⟨R,bl⟩⟩:=z3;simp only[dY.l];have a:=D (a.o.keep b7 j.o);have m:=D r;have i:=D (s.up (show N+1+1≤N+9 by omega));have S:Hid (f≤w7.heap.size):=D (aa (aa x.o T.o) b7.size);clear r s b7 b0 b1 b2 b3 b4 b5 f0 f1 f2 l f4 f5;obtain⟨b0,b1,b2,b3,b4,b5⟩:=ah a.o.k0;have f0:=aq a.o.k0 0;have f1:=aq a.o.k0 1;have f2:=aq a.o.k0 2;have l:=aq a.o.k0 3;have f4:=aq a.o.k0 4
      have f5:=aq a.o.k0 5)
     clear f0 f1 f2 l f4 f5;clear b0 b1 b2 b3 b4 b5;obtain⟨o,g⟩:∃o,((((((w7.setCell ⟨b,0,J⟩ (.slice y d.v.length C)).setCell ⟨b,1,J⟩ (.slice F d.r.length H)).setCell ⟨b,2,J⟩ (.slice K d.e.length L)).setCell ⟨b,3,J⟩ (.slice P d.g.length Q)).setCell ⟨b,4,J⟩ (.slice sh d.s.length sl)).setCell ⟨b,5,J⟩ (.slice R d.b.length bl))=o:=⟨_,rfl⟩;have a:Hid (Three w o b b (di y d.v.length C F d.r.length H K d.e.length L P d.g.length Q sh d.s.length sl R d.b.length bl) (iG d1 d2 d3 cl v 2 ky tx n t da ds.length dc) jR 47 75 47):=D (by rw[←g];exact a.o.q8 _ _ _ _ _ _);have m:Hid (bB o f ⟨(y,C),(F,H),(K,L),(P,Q),(sh,sl),(R,bl)⟩ d):=D (by rw[←g];exact m.o.q8 c0.o _ _ _ _ _ _);have u:Hid (f≤o.heap.size):=D (by rw[←g];simpa[aV]using S.o);rw[g];clear g;obtain⟨b0,b1,b2,b3,b4,b5⟩:=ah a.o.k0;obtain⟨r0,r1,r2,r3,r4,r5⟩:=ah a.o.k2;have f0:=aq a.o.k2 0;have f1:=aq a.o.k2 1;have f2:=aq a.o.k2 2;have l:=aq a.o.k2 3;have f4:=aq a.o.k2 4;have f5:=aq a.o.k2 5;have g0:=a.o.sz
     go_wp2_with (
      (go_at_call 160;refine(nL o f ⟨(y,C),(F,H),(K,L),(P,Q),(sh,sl),(R,bl)⟩ d m.o (i.o.few (by have:=HN.o;omega))).mono ?_)
      rintro en w9 ⟨z9,rfl,q,b9⟩;obtain⟨⟨vz,vm⟩,⟨rz,rm⟩,⟨ez,em⟩,⟨gz,gm⟩,⟨sz,sm⟩,⟨bz,bm⟩⟩:=z9;simp only[dY.l];have e:=D (a.o.keep b9 a.o.sz);have X:=D (q.to (show f≤o.heap.size from u.o));clear q b9 r0 r1 r2 r3 r4 r5 f0 f1 f2 l f4 f5;obtain⟨r0,r1,r2,r3,r4,r5⟩:=ah e.o.k2;have f0:=aq e.o.k2 0;have f1:=aq e.o.k2 1;have f2:=aq e.o.k2 2;have l:=aq e.o.k2 3;have f4:=aq e.o.k2 4
      have f5:=aq e.o.k2 5)
     refine au (v:=.tuple #[.agg (di vz d.v.length vm rz d.r.length rm ez d.e.length em gz d.g.length gm sz d.s.length sm bz d.b.length bm),.int .i64 0]) (by simp[results,results90,go_sem, *]) rfl ?_;refine⟨⟨(vz,vm),(rz,rm),(ez,em),(gz,gm),(sz,sm),(bz,bm)⟩,d,0,rfl,?_,i.o,?_⟩
     ·rw[HE.o]
      refine bB.to (B:=f) ?_ (by have:=j.o;omega)
      repeat (refine bB.put ?_ _ (by have:=j.o;show b+2<f;omega) _)
      exact X.o
     ·rw[HE.o]
      repeat (refine cu ?_ (by show b≤b+2;omega) _)
      exact e.o.bl
    ·have e2:(k==2)=U:=by simpa using k2
     clear k2;by_cases k3:k=3
     ·subst k3
      have f0:=aq a.o.k0 0;have f1:=aq a.o.k0 1;have f2:=aq a.o.k0 2;have l:=aq a.o.k0 3;have f4:=aq a.o.k0 4;have f5:=aq a.o.k0 5
      go_upto_region 20 with(
       (go_at_call 164;refine(Hg w6 f ⟨(a5,k5),(rx,rk),(ex,ek),(gx,gk),(sx,sk),(bx,bk)⟩ ⟨s1,c.r,c.e,c.g,c.s,c.b⟩ (N+1) d1 d2 d3 cl v 3 n t ky tx ds da dc m.o (aa x.o T.o) i.o (by have:=HN.o;omega) p.o.1 p.o.2.1 (fun W hW=>cc.keep HD.o (a.o.bl.trans (hW.mono (by have:=j.o;omega))) (bD HE.o)) (p.o.2.2 rfl)).mono ?_)
       rintro en w7 ⟨z3,d,rfl,r,s,b7⟩;obtain⟨⟨y,C⟩,⟨F,H⟩,⟨K,L⟩,⟨P,Q⟩,⟨sh,sl⟩,⟨R,bl⟩⟩:=z3;simp only[dY.l];have a:=D (a.o.keep b7 j.o);have m:=D r;have i:=D (s.up (show N+1+8≤N+9 by omega));have S:Hid (f≤w7.heap.size):=D (aa (aa x.o T.o) b7.size);clear r s b7 b0 b1 b2 b3 b4 b5 f0 f1 f2 l f4 f5;obtain⟨b0,b1,b2,b3,b4,b5⟩:=ah a.o.k0;have f0:=aq a.o.k0 0;have f1:=aq a.o.k0 1;have f2:=aq a.o.k0 2;have l:=aq a.o.k0 3;have f4:=aq a.o.k0 4
       have f5:=aq a.o.k0 5)
      clear f0 f1 f2 l f4 f5;clear b0 b1 b2 b3 b4 b5;obtain⟨o,g⟩:∃o,((((((w7.setCell ⟨b,0,J⟩ (.slice y d.v.length C)).setCell ⟨b,1,J⟩ (.slice F d.r.length H)).setCell ⟨b,2,J⟩ (.slice K d.e.length L)).setCell ⟨b,3,J⟩ (.slice P d.g.length Q)).setCell ⟨b,4,J⟩ (.slice sh d.s.length sl)).setCell ⟨b,5,J⟩ (.slice R d.b.length bl))=o:=⟨_,rfl⟩;have a:Hid (Three w o b b (di y d.v.length C F d.r.length H K d.e.length L P d.g.length Q sh d.s.length sl R d.b.length bl) (iG d1 d2 d3 cl v 3 ky tx n t da ds.length dc) jR 47 75 47):=D (by rw[←g];exact a.o.q8 _ _ _ _ _ _);have m:Hid (bB o f ⟨(y,C),(F,H),(K,L),(P,Q),(sh,sl),(R,bl)⟩ d):=D (by rw[←g];exact m.o.q8 c0.o _ _ _ _ _ _);have u:Hid (f≤o.heap.size):=D (by rw[←g];simpa[aV]using S.o);rw[g];clear g;obtain⟨b0,b1,b2,b3,b4,b5⟩:=ah a.o.k0;obtain⟨r0,r1,r2,r3,r4,r5⟩:=ah a.o.k2;have f0:=aq a.o.k2 0;have f1:=aq a.o.k2 1;have f2:=aq a.o.k2 2;have l:=aq a.o.k2 3;have f4:=aq a.o.k2 4;have f5:=aq a.o.k2 5;have g0:=a.o.sz
      go_wp2_with (
       (go_at_call 160;refine(nL o f ⟨(y,C),(F,H),(K,L),(P,Q),(sh,sl),(R,bl)⟩ d m.o (i.o.few (by have:=HN.o;omega))).mono ?_)
       rintro en w9 ⟨z9,rfl,q,b9⟩;obtain⟨⟨vz,vm⟩,⟨rz,rm⟩,⟨ez,em⟩,⟨gz,gm⟩,⟨sz,sm⟩,⟨bz,bm⟩⟩:=z9;simp only[dY.l];have e:=D (a.o.keep b9 a.o.sz);have X:=D (q.to (show f≤o.heap.size from u.o));clear q b9 r0 r1 r2 r3 r4 r5 f0 f1 f2 l f4 f5;obtain⟨r0,r1,r2,r3,r4,r5⟩:=ah e.o.k2;have f0:=aq e.o.k2 0;have f1:=aq e.o.k2 1;have f2:=aq e.o.k2 2;have l:=aq e.o.k2 3;have f4:=aq e.o.k2 4
       have f5:=aq e.o.k2 5)
      refine au (v:=.tuple #[.agg (di vz d.v.length vm rz d.r.length rm ez d.e.length em gz d.g.length gm sz d.s.length sm bz d.b.length bm),.int .i64 0]) (by simp[results,results90,go_sem, *]) rfl ?_;refine⟨⟨(vz,vm),(rz,rm),(ez,em),(gz,gm),(sz,sm),(bz,bm)⟩,d,0,rfl,?_,i.o,?_⟩
      ·rw[HE.o]
       refine bB.to (B:=f) ?_ (by have:=j.o;omega)
       repeat (refine bB.put ?_ _ (by have:=j.o;show b+2<f;omega) _)
       exact X.o
      ·rw[HE.o]
       repeat (refine cu ?_ (by show b≤b+2;omega) _)
       exact e.o.bl
     ·have e3:(k==3)=U:=by simpa using k3
      clear k3;by_cases k4:k=4
      ·subst k4
       have f0:=aq a.o.k0 0;have f1:=aq a.o.k0 1;have f2:=aq a.o.k0 2;have l:=aq a.o.k0 3;have f4:=aq a.o.k0 4;have f5:=aq a.o.k0 5
       go_upto_region 20 with(
        (go_at_call 165;refine(Jj w6 f ⟨(a5,k5),(rx,rk),(ex,ek),(gx,gk),(sx,sk),(bx,bk)⟩ ⟨s1,c.r,c.e,c.g,c.s,c.b⟩ (N+1) d1 d2 d3 cl v 4 n t ky tx (.slice da ds.length dc) m.o (aa x.o T.o) i.o (by have:=HN.o;omega) p.o.1 p.o.2.1).mono ?_)
        rintro en w7 ⟨z3,d,rfl,r,s,b7⟩;obtain⟨⟨y,C⟩,⟨F,H⟩,⟨K,L⟩,⟨P,Q⟩,⟨sh,sl⟩,⟨R,bl⟩⟩:=z3;simp only[dY.l];have a:=D (a.o.keep b7 j.o);have m:=D r;have i:=D (s.up (show N+1+1≤N+9 by omega));have S:Hid (f≤w7.heap.size):=D (aa (aa x.o T.o) b7.size);clear r s b7 b0 b1 b2 b3 b4 b5 f0 f1 f2 l f4 f5;obtain⟨b0,b1,b2,b3,b4,b5⟩:=ah a.o.k0;have f0:=aq a.o.k0 0;have f1:=aq a.o.k0 1;have f2:=aq a.o.k0 2;have l:=aq a.o.k0 3;have f4:=aq a.o.k0 4
        have f5:=aq a.o.k0 5)
       clear f0 f1 f2 l f4 f5;clear b0 b1 b2 b3 b4 b5;obtain⟨o,g⟩:∃o,((((((w7.setCell ⟨b,0,J⟩ (.slice y d.v.length C)).setCell ⟨b,1,J⟩ (.slice F d.r.length H)).setCell ⟨b,2,J⟩ (.slice K d.e.length L)).setCell ⟨b,3,J⟩ (.slice P d.g.length Q)).setCell ⟨b,4,J⟩ (.slice sh d.s.length sl)).setCell ⟨b,5,J⟩ (.slice R d.b.length bl))=o:=⟨_,rfl⟩;have a:Hid (Three w o b b (di y d.v.length C F d.r.length H K d.e.length L P d.g.length Q sh d.s.length sl R d.b.length bl) (iG d1 d2 d3 cl v 4 ky tx n t da ds.length dc) jR 47 75 47):=D (by rw[←g];exact a.o.q8 _ _ _ _ _ _);have m:Hid (bB o f ⟨(y,C),(F,H),(K,L),(P,Q),(sh,sl),(R,bl)⟩ d):=D (by rw[←g];exact m.o.q8 c0.o _ _ _ _ _ _);have u:Hid (f≤o.heap.size):=D (by rw[←g];simpa[aV]using S.o);rw[g];clear g;obtain⟨b0,b1,b2,b3,b4,b5⟩:=ah a.o.k0;obtain⟨r0,r1,r2,r3,r4,r5⟩:=ah a.o.k2;have f0:=aq a.o.k2 0;have f1:=aq a.o.k2 1;have f2:=aq a.o.k2 2;have l:=aq a.o.k2 3;have f4:=aq a.o.k2 4;have f5:=aq a.o.k2 5;have g0:=a.o.sz
       go_wp2_with (
        (go_at_call 160;refine(nL o f ⟨(y,C),(F,H),(K,L),(P,Q),(sh,sl),(R,bl)⟩ d m.o (i.o.few (by have:=HN.o;omega))).mono ?_)
        rintro en w9 ⟨z9,rfl,q,b9⟩;obtain⟨⟨vz,vm⟩,⟨rz,rm⟩,⟨ez,em⟩,⟨gz,gm⟩,⟨sz,sm⟩,⟨bz,bm⟩⟩:=z9;simp only[dY.l];have e:=D (a.o.keep b9 a.o.sz);have X:=D (q.to (show f≤o.heap.size from u.o));clear q b9 r0 r1 r2 r3 r4 r5 f0 f1 f2 l f4 f5;obtain⟨r0,r1,r2,r3,r4,r5⟩:=ah e.o.k2;have f0:=aq e.o.k2 0;have f1:=aq e.o.k2 1;have f2:=aq e.o.k2 2;have l:=aq e.o.k2 3;have f4:=aq e.o.k2 4
        have f5:=aq e.o.k2 5)
       refine au (v:=.tuple #[.agg (di vz d.v.length vm rz d.r.length rm ez d.e.length em gz d.g.length gm sz d.s.length sm bz d.b.length bm),.int .i64 0]) (by simp[results,results90,go_sem, *]) rfl ?_;refine⟨⟨(vz,vm),(rz,rm),(ez,em),(gz,gm),(sz,sm),(bz,bm)⟩,d,0,rfl,?_,i.o,?_⟩
       ·rw[HE.o]
        refine bB.to (B:=f) ?_ (by have:=j.o;omega)
        repeat (refine bB.put ?_ _ (by have:=j.o;show b+2<f;omega) _)
        exact X.o
       ·rw[HE.o]
        repeat (refine cu ?_ (by show b≤b+2;omega) _)
        exact e.o.bl
      ·have e4:(k==4)=U:=by simpa using k4
       clear k4;by_cases k5:k=5
       ·subst k5
        have f0:=aq a.o.k0 0;have f1:=aq a.o.k0 1;have f2:=aq a.o.k0 2;have l:=aq a.o.k0 3;have f4:=aq a.o.k0 4;have f5:=aq a.o.k0 5
        go_upto_region 20 with(
         (go_at_call 166;refine(LD w6 f ⟨(a5,k5),(rx,rk),(ex,ek),(gx,gk),(sx,sk),(bx,bk)⟩ ⟨s1,c.r,c.e,c.g,c.s,c.b⟩ (N+1) d1 d2 d3 cl v 5 n t ky tx (.slice da ds.length dc) m.o (aa x.o T.o) i.o (by have:=HN.o;omega) p.o.1 p.o.2.1).mono ?_)
         rintro en w7 ⟨z3,d,rfl,r,s,b7⟩;obtain⟨⟨y,C⟩,⟨F,H⟩,⟨K,L⟩,⟨P,Q⟩,⟨sh,sl⟩,⟨R,bl⟩⟩:=z3;simp only[dY.l];have a:=D (a.o.keep b7 j.o);have m:=D r;have i:=D (s.up (show N+1+1≤N+9 by omega));have S:Hid (f≤w7.heap.size):=D (aa (aa x.o T.o) b7.size);clear r s b7 b0 b1 b2 b3 b4 b5 f0 f1 f2 l f4 f5;obtain⟨b0,b1,b2,b3,b4,b5⟩:=ah a.o.k0;have f0:=aq a.o.k0 0;have f1:=aq a.o.k0 1;have f2:=aq a.o.k0 2;have l:=aq a.o.k0 3;have f4:=aq a.o.k0 4
         have f5:=aq a.o.k0 5)
        clear f0 f1 f2 l f4 f5;clear b0 b1 b2 b3 b4 b5;obtain⟨o,g⟩:∃o,((((((w7.setCell ⟨b,0,J⟩ (.slice y d.v.length C)).setCell ⟨b,1,J⟩ (.slice F d.r.length H)).setCell ⟨b,2,J⟩ (.slice K d.e.length L)).setCell ⟨b,3,J⟩ (.slice P d.g.length Q)).setCell ⟨b,4,J⟩ (.slice sh d.s.length sl)).setCell ⟨b,5,J⟩ (.slice R d.b.length bl))=o:=⟨_,rfl⟩;have a:Hid (Three w o b b (di y d.v.length C F d.r.length H K d.e.length L P d.g.length Q sh d.s.length sl R d.b.length bl) (iG d1 d2 d3 cl v 5 ky tx n t da ds.length dc) jR 47 75 47):=D (by rw[←g];exact a.o.q8 _ _ _ _ _ _);have m:Hid (bB o f ⟨(y,C),(F,H),(K,L),(P,Q),(sh,sl),(R,bl)⟩ d):=D (by rw[←g];exact m.o.q8 c0.o _ _ _ _ _ _);have u:Hid (f≤o.heap.size):=D (by rw[←g];simpa[aV]using S.o);rw[g];clear g;obtain⟨b0,b1,b2,b3,b4,b5⟩:=ah a.o.k0;obtain⟨r0,r1,r2,r3,r4,r5⟩:=ah a.o.k2;have f0:=aq a.o.k2 0;have f1:=aq a.o.k2 1;have f2:=aq a.o.k2 2;have l:=aq a.o.k2 3;have f4:=aq a.o.k2 4;have f5:=aq a.o.k2 5;have g0:=a.o.sz
        go_wp2_with (
         (go_at_call 160;refine(nL o f ⟨(y,C),(F,H),(K,L),(P,Q),(sh,sl),(R,bl)⟩ d m.o (i.o.few (by have:=HN.o;omega))).mono ?_)
         rintro en w9 ⟨z9,rfl,q,b9⟩;obtain⟨⟨vz,vm⟩,⟨rz,rm⟩,⟨ez,em⟩,⟨gz,gm⟩,⟨sz,sm⟩,⟨bz,bm⟩⟩:=z9;simp only[dY.l];have e:=D (a.o.keep b9 a.o.sz);have X:=D (q.to (show f≤o.heap.size from u.o));clear q b9 r0 r1 r2 r3 r4 r5 f0 f1 f2 l f4 f5;obtain⟨r0,r1,r2,r3,r4,r5⟩:=ah e.o.k2;have f0:=aq e.o.k2 0;have f1:=aq e.o.k2 1;have f2:=aq e.o.k2 2;have l:=aq e.o.k2 3;have f4:=aq e.o.k2 4
         have f5:=aq e.o.k2 5)
        refine au (v:=.tuple #[.agg (di vz d.v.length vm rz d.r.length rm ez d.e.length em gz d.g.length gm sz d.s.length sm bz d.b.length bm),.int .i64 0]) (by simp[results,results90,go_sem, *]) rfl ?_;refine⟨⟨(vz,vm),(rz,rm),(ez,em),(gz,gm),(sz,sm),(bz,bm)⟩,d,0,rfl,?_,i.o,?_⟩
        ·rw[HE.o]
         refine bB.to (B:=f) ?_ (by have:=j.o;omega)
         repeat (refine bB.put ?_ _ (by have:=j.o;show b+2<f;omega) _)
         exact X.o
        ·rw[HE.o]
         repeat (refine cu ?_ (by show b≤b+2;omega) _)
         exact e.o.bl
       ·have e5:(k==5)=U:=by simpa using k5
        clear k5;have u:Hid (f≤w6.heap.size):=D (aa x.o T.o);have i:=D (i.o.up (show N+1≤N+9 by omega));obtain⟨b0,b1,b2,b3,b4,b5⟩:=ah a.o.k0;obtain⟨r0,r1,r2,r3,r4,r5⟩:=ah a.o.k2;have f0:=aq a.o.k2 0;have f1:=aq a.o.k2 1;have f2:=aq a.o.k2 2;have l:=aq a.o.k2 3;have f4:=aq a.o.k2 4;have f5:=aq a.o.k2 5;have g0:=a.o.sz
        go_wp2_with (
         (go_at_call 160;refine(nL w6 f ⟨(a5,k5),(rx,rk),(ex,ek),(gx,gk),(sx,sk),(bx,bk)⟩ ⟨s1,c.r,c.e,c.g,c.s,c.b⟩ m.o (i.o.few (by have:=HN.o;omega))).mono ?_)
         rintro en w9 ⟨z9,rfl,q,b9⟩;obtain⟨⟨vz,vm⟩,⟨rz,rm⟩,⟨ez,em⟩,⟨gz,gm⟩,⟨sz,sm⟩,⟨bz,bm⟩⟩:=z9;simp only[dY.l];have e:=D (a.o.keep b9 a.o.sz);have X:=D (q.to (show f≤w6.heap.size from u.o));clear q b9 r0 r1 r2 r3 r4 r5 f0 f1 f2 l f4 f5;obtain⟨r0,r1,r2,r3,r4,r5⟩:=ah e.o.k2;have f0:=aq e.o.k2 0;have f1:=aq e.o.k2 1;have f2:=aq e.o.k2 2;have l:=aq e.o.k2 3;have f4:=aq e.o.k2 4
         have f5:=aq e.o.k2 5)
        refine au (v:=.tuple #[.agg (di vz s1.length vm rz c.r.length rm ez c.e.length em gz c.g.length gm sz c.s.length sm bz c.b.length bm),.int .i64 0]) (by simp[results,results90,go_sem, *]) rfl ?_;refine⟨⟨(vz,vm),(rz,rm),(ez,em),(gz,gm),(sz,sm),(bz,bm)⟩,⟨s1,c.r,c.e,c.g,c.s,c.b⟩,0,rfl,?_,i.o,?_⟩
        ·rw[HE.o]
         refine bB.to (B:=f) ?_ (by have:=j.o;omega)
         repeat (refine bB.put ?_ _ (by have:=j.o;show b+2<f;omega) _)
         exact X.o
        ·rw[HE.o]
         repeat (refine cu ?_ (by show b≤b+2;omega) _)
         exact e.o.bl
section
variable {w w':V} {B:Nat} {z:dH} {s:dV} {i:Nat}
theorem EL.own.mI{α:Type}{L:EL α}{w w':V}{B p:Nat}{v:Z}{l:List α}{x:Array Z}{t:aN}(h:L.own w B v l)(d:w.heap[p]?=I (.cells x t (0,0)))(b:t≠L.e)(f:But p w w'):L.own w' B v l:=by
 have i:=h.ne d b;obtain⟨j,k⟩:=h;refine⟨j,k.imp id ?_⟩;rintro⟨g,cap,c,rfl,m,a,r⟩;exact⟨g,cap,c,rfl,m,by rw[f.block g (br a).1 (fun e=>i (by rw[e];rfl))];exact a,r⟩
theorem bB.wM{p:Nat}{u:dY}{c:eo}{x:Array Z}(h:bB w B u c)(a:w.heap[p]?=I (.cells x 55 (0,0)))(b:But p w w'):bB w' B u c:=
 ⟨h.v.mI a aC b,h.r.mI a aC b,h.e.mI a aC b,h.g.mI a aC b,h.s.mI a aC b,h.b.mI a aC b⟩
theorem eg.wM{p:Nat}{x:Array Z}(h:eg w B z s)(a:w.heap[p]?=I (.cells x 55 (0,0)))(b:But p w w'):eg w' B z s:=
 ⟨h.c0.wM a b,h.c1.wM a b,h.c2.wM a b,h.sb.mI a aC b⟩
end
structure Dl(w wr:V)(b q:Nat)(x:eQ)(z:dH)(s:dV)(y:dH)(s1:dV)(M:Nat):Prop where
 bx:Bx wr q (aF x y s1) 55
 st:eg wr (b+2) y s1
 ok:s1.ok M
 b0:Bx wr b (aF x z s) 55
 b1:wr.heap[b+1]?=I (.cells jV 55 (0,0))
 bl:ae b w wr
 q2:b+2≤q
 ql:q<wr.heap.size
theorem Dl.keep{w wr c:V}{b q C:Nat}{x:eQ}{z:dH}{s:dV}{y:dH}{d:dV}{i:Nat}(h:Dl w wr b q x z s y d i)(a:ae C wr c)(e:wr.heap.size≤C):Dl w c b q x z s y d i:=by
 have f:=h.q2;have g:=h.ql;exact⟨h.bx.keep a A,h.st.keep a e,h.ok,h.b0.keep a A,(a.block _ A).trans h.b1,h.bl.trans (a.mono A),f,ac g a.size⟩
theorem Dl.turn{w wr:V}{b q:Nat}{x:eQ}{z:dH}{s:dV}{y:dH}{e:dV}{m d:Nat}(h:Dl w wr b q x z s y e m){u:dY}{c:eo}{i:Nat}(hi:i<3)(f:bB wr (b+2) u c)(g:m≤d)(j:c.ok d):Dl w (wr.setCells q (13+i*6) (u.l c)) b q x z s (y.to i u) (e.to i c) d:=by
 have k:=h.q2;have l:=h.ql;have a:But q wr (wr.setCells q (13+i*6) (u.l c)):=But.EJ _ _ _;refine⟨Bx.to (Bx.EJ _ _ _ _ h.bx (by show 13+i*6+6≤45;omega)) (MX _ _ _ _ _ hi),(h.st.turn f hi).wM h.bx a,h.ok.turn g j hi,?_,(a.block _ A A).trans h.b1,h.bl.trans (a.below A A),k,ac l a.size⟩;exact(a.block _ A A).trans h.b0
def mJ(w:V)(p:Nat)(l:List UInt8):Prop:=∃a c,w.heap[p]?=I (.cells #[.slice a l.length c] 222 (0,0))∧Rd w a (bX l)
def C8(w:V)(p:Nat)(l:List UInt8)(k:Nat)(en:de)(w':V):Prop:=en=.returned (.tuple #[])∧∃a,Hid (mJ w' p a)∧Hid (a.length≤l.length+k)∧Hid (But p w w')
def cI(n:Int):List Z:=[.int .i64 n]
def mJ.lt{w:V}{p:Nat}{l:List UInt8}(h:mJ w p l):p<w.heap.size:=by
 obtain⟨a,c,b,_⟩:=h;exact(br b).1
def mJ.jN{w w':V}{p:Nat}{l:List UInt8}{a:Option aB}{cs:List Z}(h:mJ w p l)(g:∀u∈cs,∀x m k,u≠.slice x m k)(i:Rd w a cs)(n:But p w w'):Rd w' a cs:=by
 obtain⟨a0,c0,o,_⟩:=h;intro j u f;obtain⟨b,rfl,c⟩:=i j u f;refine⟨b,rfl,?_⟩;have d:=World.block_lt_of_cell? w _ c
 have e:(b.add j).block≠p:=by
  intro q;unfold an at c;rw[q,o]at c;simp only at c
  split at c
  ·cases c
  ·have hm:=Array.mem_of_getElem? c
   simp only[List.mem_toArray,List.mem_cons,List.not_mem_nil,or_false]at hm;exact g u (List.mem_of_getElem? f) _ _ _ hm
 rw[an,n.block _ d e];exact c
def mJ.vq{w w':V}{p:Nat}{l:List UInt8}{v:Z}{ns:List Int}(h:mJ w p l)(s:cc cI 1 w v ns)(o:But p w w'):cc cI 1 w' v ns:=by
 obtain⟨t,ao,cap,rfl,y,z,B,q⟩:=s
 have i:Rd w ao (ca cI ns):=fun j u a=>by
  obtain⟨b,c,f,_,C⟩:=q j u a;exact⟨_,f,by rw[dM];exact C⟩
 have d:=h.jN (fun u a x m k=>by
  simp only[ca,kU,cI,List.mem_singleton]at a;obtain⟨n,_,rfl⟩:=a
  intro e;cases e) i o
 refine⟨t,ao,cap,rfl,y,z,B,fun j u a=>?_⟩;obtain⟨b,c,f,E,_⟩:=q j u a;obtain⟨F,g,r⟩:=d j u a;rw[f]at g;injection g with g;subst g;rw[dM]at r;exact⟨b,c,f,ac E o.size,r⟩
def C9(w:V)(p:Nat)(l:List UInt8)(v:Z)(ns:List Int)(h:mJ w p l)(F:cc cI 1 w v ns)(W:l.length<80000000)(X:ns.length≤20):
  ar M 110 #[.pointer (I ⟨p,0,J⟩),v] w (C8 w p l (10*ns.length)):=by
 obtain⟨ao,cap,rfl,a0,b0⟩:=Sl.shape F;have HW:=D h;have HS:=D F;have HL:=D W;have HN:=D X;clear h F W X
 go_enter func110,ntmps110
 go_wp2
 go_loopw[8] (fun H wr=>∃(k:Nat)(f:List UInt8),H=.int .i64 k∧Hid (k≤ns.length)∧Hid (mJ wr p f)∧Hid (f.length≤l.length+10*k)∧Hid (But p w wr)) (fun H _=>ns.length-(bp H).toNat)
 case atStart=>exact⟨0,l,rfl,D (aw _),HW,D (G _),D (But.refl _ _)⟩
 case round=>
  obtain⟨k,f,rfl,HK,HR,g,K⟩:=hrel;rcases aL k ns.length with j | L
  ·have e2:decide (k<ns.length)=O:=by simpa using j
   have r:=HW.o.vq HS.o K.o;obtain⟨b,e0,rfl,g0,hc⟩:=cc.at r (fun _=>rfl) A (aD _ _) (G _) k j;generalize ns[k]=n at*;have c0:=hc 0 _ rfl;rw[Nat.mul_one,dg]at c0;obtain⟨a,c,N,s⟩:=HR.o;have d0:wr.cell? ⟨p,0,J⟩=I (.slice a f.length c):=by simp[an,N]
   have t:=D s;have d:=D N;have h0:(k:Int)<ns.length:=A
   have z:=D j;have e9:wrap64 ((k:Int)+1)=(k:Int)+1:=ag _ (by have:=HN.o;omega);clear r hc j N s;go_upto_region 4 with((go_at_call 88;refine(mU wr a f c n t.o (by have:=HL.o;have:=g.o;have:=HK.o;have:=HN.o;omega)).mono ?_);rintro en E ⟨P,a2,c2,rfl,h2,o2,b2⟩;have Q:=D h2;have O2:=D o2;have B2:=D b2;have d:=D (ft d.o b2 (br d.o).1);have d0:E.cell? ⟨p,0,J⟩=I (.slice a f.length c):=(by simp[an,d.o]);have f0:=aq d.o 0;clear h2 o2 b2)
   obtain⟨i0,B⟩:∃i0,E.setCell ⟨p,0,J⟩ (.slice a2 (f++P).length c2)=i0:=⟨_,rfl⟩;have q:But p E i0:=by rw[←B];exact But.set _ _ _ _
   have o:mJ E p f:=⟨a,c,d.o,t.o.keep B2.o (G _)⟩
   have R:Hid (mJ i0 p (f++P)):=D ⟨a2,c2,by rw[←B];simp[aV,aR,d.o],o.jN (fun u hu x m k=>by
    obtain⟨i,hi⟩:=nk.1 hu;obtain⟨y,rfl⟩:=qc hi
    intro e;cases e) (cM O2.o).rd q⟩
   have C:Hid ((f++P).length≤l.length+10*(k+1)):=D (by rw[ay];have:=Q.o;have:=g.o;omega);have S:Hid (But p w i0):=D ((K.o.trans (But.of_below B2.o)).trans q);rw[ay]at B;rw[B];clear B q o d0 f0 c0;go_wp2;go_roundw
   case rel=>exact⟨k+1,_,by go_num,D z.o,R,C,S⟩
   case measure=>exact bA z.o _ eT
  ·have e2:decide (k<ns.length)=U:=by simp;omega
   have T:k=ns.length:=by have:=HK.o;omega
   rw[T]at g;clear L;go_wp2
   go_end0
   exact⟨rfl,f,HR,g,K⟩
def Gv{w:V}{cs:Array Z}{ns:List Int}(h:cs.toList=ca cI ns)(n:Nat)(b:ns.length=n)(c:n≤20):cc cI 1 (w.alloc (.cells cs 3)) (.slice (I ⟨w.heap.size,0,J⟩) n n) ns:=by
 subst b;have d:cs.size=ns.length*1:=by rw[←Array.length_toList,h,ke (f:=cI) (E:=1) (fun _=>rfl)]
 have g:(w.alloc (.cells cs 3)).heap[w.heap.size]?=I (.cells cs 3 (0,0)):=al _ _;refine⟨ke (f:=cI) (E:=1) (fun _=>rfl) ns,I ⟨w.heap.size,0,J⟩,ns.length,rfl,G _,?_,(fun e=>by cases e),fun j u a=>⟨w.heap.size,0,rfl,by simp,?_⟩⟩
 ·unfold gC;omega
 ·rw[←h]at a
  simp only[an,g];simpa using a
def mJ.keep{w w':V}{p C:Nat}{l:List UInt8}(h:mJ w p l)(b:ae C w w')(d:w.heap.size≤C):mJ w' p l:=by
 obtain⟨a,c,e,f⟩:=h;exact⟨a,c,(b.block p (ac (br e).1 d)).trans e,f.keep b d⟩
def nN(w:V)(p:Nat)(l s:List UInt8)(h:mJ w p l)(o:l.length<80000000)(q:s.length≤40):
  ar M 111 #[.pointer (I ⟨p,0,J⟩),.string ⟨⟨s⟩⟩] w (C8 w p l 50):=by
 obtain⟨a,c,j,d⟩:=h;have d0:w.cell? ⟨p,0,J⟩=I (.slice a l.length c):=by simp[an,j]
 have f:=D d;have b:=D j;have B:=D o;have C:=D q;clear j d o q
 go_enter func111,ntmps111
 go_wp2_with ((go_at_call 180;refine(EN w a l c s f.o B.o C.o).mono ?_);rintro en r ⟨E,a2,c2,rfl,t,v,b2⟩;have n:=D t;have F:=D v;have z:=D b2;have b:=D (ft b.o b2 (br b.o).1);have d0:r.cell? ⟨p,0,J⟩=I (.slice a l.length c):=(by simp[an,b.o]);have f0:=aq b.o 0;clear t v b2)
 go_end0
 have g:mJ r p l:=⟨a,c,b.o,f.o.keep z.o (G _)⟩
 refine⟨rfl,l++E,D ⟨a2,c2,by simp[aV,aR,b.o],g.jN (fun u H x m k=>by
    obtain⟨i,hi⟩:=nk.1 H;obtain⟨y,rfl⟩:=qc hi
    intro e;cases e) (cM F.o).rd (But.set _ _ _ _)⟩,D (by rw[ay];have:=n.o;omega),D ((But.of_below z.o).trans (But.set _ _ _ _))⟩
def js(w:V)(p:Nat)(l:List UInt8)(cs:Array Z)(ns:List Int)(h:mJ w p l)(d:cs.toList=ca cI ns)(n:Nat)(b:ns.length=n)(a:n≤20)(e:l.length<80000000):
  ar M 110 #[.pointer (I ⟨p,0,J⟩),.slice (I ⟨w.heap.size,0,J⟩) n n] (w.alloc (.cells cs 3)) (C8 w p l (10*n)):=by
 have c:ae w.heap.size w (w.alloc (.cells cs 3)):=(aD _ _).alloc (G _) _;refine(C9 _ p l _ ns (h.keep c (G _)) (Gv d n b a) e A).mono ?_;rintro en k ⟨rfl,f,g,i,j⟩;exact⟨rfl,f,g,D (by rw[←b];exact i.o),D ((But.of_below c).trans j.o)⟩
def Gw(w:V)(p:Nat)(l:List UInt8)(q:Bool)(h:mJ w p l)(e:l.length<80000000):
  ar M 217 #[.pointer (I ⟨p,0,J⟩),.bool q] w (C8 w p l 10):=by
 have H:=D h;have f:=D e;clear h e
 cases q with
 | true=>
  go_enter func217,ntmps217
  go_wp2_with ((go_at_call 110;refine(js w p l _ [1] H.o rfl 1 rfl A f.o).mono ?_);rintro en g ⟨rfl,a,b,c,d⟩)
  go_end0
  exact⟨rfl,a,b,c,d⟩
 | false=>
  go_enter func217,ntmps217
  go_wp2_with ((go_at_call 110;refine(js w p l _ [0] H.o rfl 1 rfl A f.o).mono ?_);rintro en g ⟨rfl,a,b,c,d⟩)
  go_end0
  exact⟨rfl,a,b,c,d⟩
def vr(w:V)(p:Nat)(l:List UInt8)(a b c:Int)(h:mJ w p l)(f:l.length<80000000):
  ar M 269 #[.pointer (I ⟨p,0,J⟩),.agg #[.int .i64 a,.int .i64 b,.int .i64 c]] w (C8 w p l 30):=by
 obtain⟨W,d⟩:∃W,w.alloc (.cells #[.int .i64 a,.int .i64 b,.int .i64 c] 73)=W:=⟨_,rfl⟩;have e:ae w.heap.size w W:=by rw[←d];exact(aD _ _).alloc (G _) _
 have H:=D (h.keep e (G _));have g:W.heap[w.heap.size]?=I (.cells #[.int .i64 a,.int .i64 b,.int .i64 c] 73 (0,0)):=by rw[←d];exact al _ _
 obtain⟨c0,c1,c2,-⟩:=aW g;have j:=D e;have i:=D d;have k:=D f;clear h f d g e
 go_enter func269,ntmps269
 go_upto_region 1 with fail
 rw[i.o];clear i;go_wp2_with ((go_at_call 110;refine(js W p l _ [a,b,c] H.o rfl 3 rfl A k.o).mono ?_);rintro en r ⟨rfl,m,n,o,q⟩)
 go_end0
 exact⟨rfl,m,n,o,D ((But.of_below j.o).trans q.o)⟩
end Go.Proofs.YtdgllhcfablaoaaGreat
