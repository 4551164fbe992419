/- What the law asks, in parts: Sg Ua Ub Uc Ud Ue Uf VBg VBh VFd VHa VHb VDc VDe VAe VDf. -/
import Derived.Shelf.SlicesE.Equal
import Derived.Shelf.SlicesQ.Load
import Derived.Test.YtdgllhcfablaoaaGreatMg5
import Derived.Test.YtdgllhcfablaoaaGreatMg1
import Derived.Test.YtdgllhcfablaoaaGreatMg4
import Derived.Test.YtdgllhcfablaoaaGreatMg3
set_option linter.all false
set_option maxRecDepth 100000
set_option maxHeartbeats 16000000
open Go.Proofs.Tryz
open Bool renaming false→U,true→O
open Option renaming some→I,none→J
open Go renaming World→V,Value→Z,bodyPost_ret→au,Calls→ar,heap_alloc_new→al,Addr→aB,setRow_heap→aO,TypeId→aN,Ending→de,binOp→dr,run_equalIn_agg→dO,info_parts→fT,run_neq_struct→ju,wpList_store_row→aJ
open Nat renaming lt_of_lt_of_le→ac,le_trans→aa,zero_le→aw,lt_or_ge→aL,mul_le_mul_right→bE,zero_add→cO,le_of_lt→dN,le_succ→dW,mul_one→dL,lt_irrefl→nn
open Go.RowKit renaming Below→ae,wrap64→bi,intOf→bp
open Go.IntWalk renaming wrap64_in→ag
open List renaming mem_singleton→af,length_append→ay,mem_cons_of_mem→aE,length_drop→bh,mem_cons→bg,mem_cons_self→aY,length_take→bN,not_mem_nil→bV,take_append_of_le_length→cQ,length_set→eE,mem_toArray→gy,nil_append→gT,take_of_length_le→iv
open Go.World renaming cell?→an,setCell→aV,setRow→cV,ownsRow→jc
open Array renaming getElem?_modify→aR
open Go.RowKit.Below renaming heap_setCell→bC,setCell→cu
open Go.Value renaming oneCell'→ap,bool→Bw
open Go.Result renaming andThen→cT
open Go.Program renaming fieldsOf→dB
open UInt8 renaming ofNat→ew
open Go.Sem renaming run→fz
open Go.World.grownBy renaming refl→gF
open Go.World.ownsRow renaming lt→jz
open Exists renaming intro→kH
open Go.Proofs.Tryz renaming prog→M
namespace Go.Proofs.YtdgllhcfablaoaaGreat
open Go.RowKit
def Js(w:V)(ao:Option aB)(l:List UInt8)(n cap:Nat)(hn:n=l.length)(hc:n≤cap)(hm:cap≤9223372036854775807)(hl:l.length≤100000)(h:Rd w ao (bX l)):
  ar M 35 #[.slice ao n cap] w (lF w (jM l)):=by
 obtain⟨i,y⟩:∃i,jM l=i:=⟨_,rfl⟩;rw[y];have d0:=D y;have HN:=D hn;have HC:=D hc;have p0:=D hm;have HL:=D hl;have HR:=D h;clear hn hc hm hl h y
 go_enter func35,ntmps35
 go_upto_region 1 with fail
 obtain⟨W,hW,hR,e0,q0⟩:∃W,w.alloc (.cells dF 105)=W∧Hid (W.heap[w.heap.size]?=I (.cells dF 105 (0,0)))∧Hid (ae w.heap.size w W)∧Hid (Rd W ao (bX l)):=⟨_,rfl,al _ _,(aD _ _).alloc (G _) _,HR.o.alloc _⟩;rw[hW];clear hW;go_upto_region 2 with((go_at_call 59;refine(PA W ao l n cap HN.o HC.o p0.o HL.o q0.o).mono ?_);rintro en w9 ⟨b9,v9,rfl,o9⟩)
 have R9:Hid (w9.heap[w.heap.size]?=I (.cells dF 105 (0,0))):=D (by rw[b9.block _ (br hR.o).1];exact hR.o);have B9:Hid (ae w.heap.size w w9):=D (e0.o.trans (b9.mono e0.o.size));have O9:=D o9;clear o9 b9;obtain⟨E,hE⟩:∃E,sO l=E:=⟨_,rfl⟩;rw[hE];have HE:=D hE;clear hE;by_cases z:E=0
 rotate_left
 ·have e1:(E != 0)=O:=by simpa using z
  have HV:Hid (i=E):=D (by rw[←d0.o];unfold jM;rw[HE.o,if_pos z]);clear z;go_wp2_with (refine aJ rfl _ (.tmp 2) (.tmp 15) rfl w.heap.size _ rfl rfl _ _ R9.o aj rfl (by simp[ap]) ?_)
  refine au (v:=.tuple #[.agg dF,.int .i64 E]) (results_cell_tmp (cs:= dF) results35 _ _ w.heap.size _ (0,0) _ rfl (aO _ _ _ _ _ _ R9.o) underlying105 rfl aj) rfl (show lF w i _ _ from⟨0,0,0,0,0,0,0,0,0,0,0,0,0,0,0,0,0,0,J,J,J,J,J,J,J,0,0,0,0,0,0,0,0,0,0,0,0,0,[],by rw[HV.o]<;>rfl,below_setRow B9.o (G _) _,D (cJ.nil _ _),aw _,fun _ h=>by cases h⟩)
 have e1:(E != 0)=U:=by simpa using z
 have o9:=O9.o (by rw[HE.o];exact z);obtain⟨a9,c9,rfl,-,-⟩:=bY o9;have x:=D (cM o9).rd;have HP:Hid (i=AP (l.drop 8)):=D (by rw[←d0.o];unfold jM;rw[HE.o,if_neg (by simpa using z)]);obtain⟨j,k⟩:∃j,l.drop 8=j:=⟨_,rfl⟩;have r0:Hid (j.length<1000000000):=D (by rw[←k,bh];have:=HL.o;omega);rw[k]at x HP;rw[k];obtain⟨K,d,hK⟩:∃K d,aU (.ok j)=(K,d):=⟨_,_,rfl⟩;have HK:=D hK;clear k o9 O9 z hK;go_upto_region 4 with fail
 go_cut[6] (fun u6 wc=>∃(p q B:Nat),u6=.pointer (I ⟨q,0,J⟩)∧Hid (fy B wc p (.ok j))∧Hid (jT wc q p 0)∧Hid (wc.heap[w.heap.size]?=I (.cells dF 105 (0,0)))∧Hid (ae w.heap.size w wc)∧Hid (w.heap.size<p∧w.heap.size<q∧B≤wc.heap.size∧q≠p))
 case first=>
  go_wp2_with ((go_at_call 62;refine(Pz w9 a9 j j.length c9 rfl x.o r0.o).mono ?_);rintro en g ⟨p,rfl,f0,k10,b10⟩;have i0:=D k10;have C:=D b10;have s0:=D f0;clear k10 b10 f0)
  have F:ae g.heap.size g (g.alloc (.cells #[.pointer (I ⟨p,0,J⟩),.int .i64 0] 183)):=(aD _ _).alloc (G _) _;have t0:=(br R9.o).1;have v0:=i0.o.lt';have B0:=C.o.size;go_meet
  case rel=>exact⟨p,g.heap.size,g.heap.size,rfl,D (i0.o.keep F v0 (G _)),D (al _ _),D (by rw[F.block _ A,C.o.block _ t0];exact R9.o),D ((B9.o.trans (C.o.mono B9.o.size)).trans (F.mono A)),D ⟨by have:=s0.o;omega,by omega,by simp,by omega⟩⟩
 case rest=>
  obtain⟨p,q,B,rfl,HX,HQ,L,N,c⟩:=hcut;obtain⟨g0,g1,-⟩:=cS HQ.o;go_step;go_step;obtain⟨m,P⟩:∃m,wc=m:=⟨_,rfl⟩;rw[P]at HX HQ L N c g0 g1;rw[P];clear P
  go_cut[7] (fun u7 wc=>∃b,u7=.pointer (I ⟨b,0,J⟩)∧w.heap.size<b∧q<b∧Hid (Mk kX B m p [(w.heap.size,dF,105),(q,#[.pointer (I ⟨p,0,J⟩),.int .i64 0],183)] d b (AK K) 105 wc))
  case first=>
   go_wp2_with (first
    | ((go_at_call 63;refine(fu m p _ _ _ HX.o HK.o).mono ?_);rintro en Q ⟨rfl,k11,b11⟩)
    | (refine aJ rfl _ (.tmp 7) (.tmp 26) rfl Q.heap.size _ rfl rfl _ _ (al Q _) aj rfl (by simp[ap]) ?_;rw[World.setRow_alloc_new]))
   have H:=D (Mk.start (K:=kX) k11.o b11.o HX.o.lt' c.o.2.2.1 [(w.heap.size,dF,105),(q,#[.pointer (I ⟨p,0,J⟩),.int .i64 0],183)] (fun r hr=>by
    rcases bg.1 hr with rfl | hr
    ·exact⟨b11.o.dQ L.o (by have:=c.o;show w.heap.size≠p;omega),by have:=c.o;show w.heap.size≠p;omega⟩
    ·obtain rfl:=af.1 hr
     exact⟨b11.o.dQ HQ.o c.o.2.2.2,c.o.2.2.2⟩) (AK K) 105)
   have hz:=b11.o.size;have C0:=(br L.o).1;have D0:=(br HQ.o).1;go_meet
   case rel=>exact⟨Q.heap.size,rfl,by omega,by omega,H⟩
  case rest=>
   obtain⟨b,rfl,j0,k0,H⟩:=hcut;have R:=D j0;have l0:=D k0;have c0:=H.o.cell 0 rfl;obtain⟨g2,g3⟩:=H.o.look (aE _ (af.2 rfl));clear j0 k0 g0 g1;go_step;go_step
   go_cut[] (fun wd=>∃(X0:X)(E1:Int)(KK:Int)(c1 c2 S T c5 c7 k1 k2 k3 k4 k5 r1 r2 r3 r4 r5 r6:Int)(ba wa oa sa ia ua o:Option aB)(bn bc wn ec on oc sn sc e ic uu uc s:Nat)(f:List hJ),Hid (wd.heap[w.heap.size]?=I (.cells dF 105 (0,0)))∧Hid (wd.heap[b]?=I (.cells (iz KK c1 c2 S T c5 ba bn bc c7 k1 k2 k3 k4 k5 wa wn ec oa on oc r1 r2 r3 r4 r5 r6 sa sn sc ia e ic ua uu uc o f.length s) 105 (0,0)))∧Hid (fy B wd p X0)∧Hid (jT wd q p E1)∧Hid (ae w.heap.size w wd)∧Hid (cJ wd (w.heap.size+1) (.slice o f.length s) f)∧(i=if mv X0≠0 then mv X0 else if 100<uu then 4 else E1)∧f.length≤20∧iq f)
   case rest=>
    obtain⟨X0,E1,KK,c1,c2,S,T,c5,c7,k1,k2,k3,k4,k5,r1,r2,r3,r4,r5,r6,ba,wa,oa,sa,ia,ua,o,bn,bc,wn,ec,on,oc,sn,sc,e,ic,uu,uc,s,f,h1,h2,h3,h4,h5,h6,h7,h8⟩:=hcut;go_step;exact He w _ q p b X0 E1 i KK c1 c2 S T c5 c7 k1 k2 k3 k4 k5 r1 r2 r3 r4 r5 r6 ba wa oa sa ia ua o bn bc wn ec on oc sn sc e ic uu uc s f h1.o h2.o h3.o h4.o h5.o h6.o h8 h7 _ rfl
   case first=>
    have t:Hid (ae w.heap.size w wc):=D (N.o.trans (H.o.but.below N.o.size (dN c.o.1)));by_cases hb:K<1∨5<K
    ·have HM:Hid (i=if mv (d.fail 3)≠0 then mv (d.fail 3)else if 100<0 then 4 else 0):=D (by
      have hx:qg j=(([],0),d.fail 3):=by unfold qg;simp only;rw[HK.o];simp only;rw[if_pos hb]
      rw[HP.o];unfold AP;rw[hx];rfl)
     have fin:∀a,fy B a p (d.fail 3)→But p wc a→a.heap[w.heap.size]?=I (.cells dF 105 (0,0))∧a.heap[b]?=I (.cells (Ce K) 105 (0,0))∧jT a q p 0∧ae w.heap.size w a:=fun a k12 b12=>by
      have H2:=H.o.call k12 b12;exact⟨(H2.fZ _ (aY ..)).1,H2.blk,(H2.fZ _ (aE _ (af.2 rfl))).1,t.o.trans (b12.below t.o.size (dN c.o.1))⟩
     have m0:=D fin;clear fin;by_cases hk:K<1
     ·have f1:decide (K<1)=O:=by simpa using hk
      clear hb hk;go_wp2_with ((go_at_call 80;refine(rM wc p d 3 aC H.o.rd).mono ?_);rintro en a ⟨rfl,k12,b12⟩)
      go_meet
      case rel=>
       obtain⟨q1,q2,q3,q4⟩:=m0.o a k12.o b12.o;exact⟨_,0,K,0,0,0,0,0,0,0,0,0,0,0,0,0,0,0,0,0,J,J,J,J,J,J,J,0,0,0,0,0,0,0,0,0,0,0,0,0,[],q1,q2,k12,q3,q4,D (cJ.nil _ _),HM.o,aw _,fun _ h=>by cases h⟩
     ·have f1:decide (K<1)=U:=by simpa using hk
      have f2:decide (5<K)=O:=by simpa using hb.resolve_left hk
      clear hb hk;go_wp2_with ((go_at_call 80;refine(rM wc p d 3 aC H.o.rd).mono ?_);rintro en a ⟨rfl,k12,b12⟩)
      go_meet
      case rel=>
       obtain⟨q1,q2,q3,q4⟩:=m0.o a k12.o b12.o;exact⟨_,0,K,0,0,0,0,0,0,0,0,0,0,0,0,0,0,0,0,0,J,J,J,J,J,J,J,0,0,0,0,0,0,0,0,0,0,0,0,0,[],q1,q2,k12,q3,q4,D (cJ.nil _ _),HM.o,aw _,fun _ h=>by cases h⟩
    ·have hx:qg j=cN K d:=by unfold qg;simp only;rw[HK.o];simp only;rw[if_neg hb]
     have HM:Hid (i=if mv (cN K d).2≠0 then mv (cN K d).2 else if 100<(cN K d).1.2 then 4 else gg 0 (cN K d).1.1):=D (by rw[HP.o];unfold AP;rw[hx]);have f1:decide (K<1)=U:=by rw[decide_eq_false_iff_not];omega
     have f2:decide (5<K)=U:=by rw[decide_eq_false_iff_not];omega
     have w0:Hid (jT wc q p 0):=D (H.o.fZ _ (aE _ (af.2 rfl))).1;have a0:Hid (b<wc.heap.size∧B≤wc.heap.size):=D ⟨(br H.o.blk).1,aa H.o.bs H.o.but.size⟩;have n0:Hid (p<b):=D (by have:=H.o.mf;have:=H.o.own;omega);clear hb hx
     go_wp2_with (first
      | ((with_reducible refine aT 41 ?_);refine wpList_load_row rfl _ (.tmp 7) rfl b rfl _ _ (0,0) _ H.o.blk underlying105 rfl aj ?_)
      | ((go_at_call 81;refine(Lv wc q p 0 K d H.o.rd w0.o a0.o.2).mono ?_);rintro en a ⟨c1,c2,S,T,c5,c7,k1,k2,k3,k4,k5,r1,r2,r3,r4,r5,r6,ba,wa,oa,sa,ia,ua,o,bn,bc,wn,ec,on,oc,sn,sc,e,ic,uu,uc,s,f,rfl,x0,y0,b0,z0,h4,hu,hc⟩;have HU:=D hu;have A0:Hid (f.length≤20∧iq f):=D (h4.elim (fun h=>by rw[h];exact⟨aw _,fun _ h=>by cases h⟩) (fun h=>⟨h.2,h.1▸yt K d⟩));clear h4 hu hc;have o0:=D (b0.o.dQ H.o.blk (by have:=n0.o;omega) (by have:=l0.o;omega)))
      | (refine aJ rfl _ (.tmp 7) (.tmp 42) rfl b _ rfl rfl _ _ o0.o aj rfl (by simp[ap]) ?_))
     obtain⟨E0,hU⟩:∃E0,cV a b (iz K c1 c2 S T c5 ba bn bc c7 k1 k2 k3 k4 k5 wa wn ec oa on oc r1 r2 r3 r4 r5 r6 sa sn sc ia e ic ua uu uc o f.length s)=E0:=⟨_,rfl⟩;have u:ae b a E0:=by rw[←hU];exact below_setRow (aD _ _) (G _) _
     have q1:E0.heap[w.heap.size]?=I (.cells dF 105 (0,0)):=by
      rw[u.block _ R.o];exact b0.o.dQ (H.o.fZ _ (aY ..)).1 (by have:=c.o;show w.heap.size≠p;omega) (by have:=c.o;show w.heap.size≠q;omega)
     have q2:E0.heap[b]?=I (.cells (iz K c1 c2 S T c5 ba bn bc c7 k1 k2 k3 k4 k5 wa wn ec oa on oc r1 r2 r3 r4 r5 r6 sa sn sc ia e ic ua uu uc o f.length s) 105 (0,0)):=by rw[←hU];exact aO _ _ _ _ _ _ o0.o
     have q3:=kX.keep x0.o u n0.o (by have:=H.o.bs;have:=H.o.own;omega);have q4:=y0.o.keep u l0.o;have q5:ae w.heap.size w E0:=t.o.trans ((b0.o.below t.o.size (dN c.o.1) (dN c.o.2.1)).trans (u.mono (dN R.o)));have q6:cJ E0 (w.heap.size+1) (.slice o f.length s) f:=(z0.o.rows b hU a0.o.1).to (by have:=a0.o.1;have:=R.o;omega);have q7:i=if mv (cN K d).2≠0 then mv (cN K d).2 else if 100<uu then 4 else gg 0 (cN K d).1.1:=by rw[HU.o];exact HM.o
     rw[hU];go_meet
     case rel=>exact⟨_,_,K,c1,c2,S,T,c5,c7,k1,k2,k3,k4,k5,r1,r2,r3,r4,r5,r6,ba,wa,oa,sa,ia,ua,o,bn,bc,wn,ec,on,oc,sn,sc,e,ic,uu,uc,s,f,q1,q2,q3,q4,q5,q6,q7,A0.o⟩
def zP(w:V)(ao:Option aB)(l:List UInt8)(cap:Nat)(h:Sl w 1 (.slice ao l.length cap) l.length (bX l))(o:l.length<100000000):
  ar M 26 #[.slice ao l.length cap] w (rO w 1 5 l.length (bX l)):=by
 obtain⟨i,hi,d,a,e⟩:=fT ym;have r:=D h;have p:=D o;clear h o
 go_enter func26,ntmps26
 go_upto_region 2 with((with_reducible refine aT 6 ?_);refine nE rfl _ _ 33 rfl w.heap.size 5 i _ 1 1 underlying33 hi d a e .i64 .i64 _ _ l.length l.length rfl rfl rfl rfl (G _) (by have:=p.o;omega) (by have:=p.o;omega) (G _) ?_;intro u s f b)
 have c:ae w.heap.size w s:=(aD _ _).grown b (G _) (fun _ h=>by cases h);have g:=Sl.keep r.o c (G _);go_upto_region 3 with((with_reducible refine aT 9 ?_);refine qR rfl _ _ _ _ rfl w.heap.size 5 i 1 underlying33 hi a _ _ _ _ rfl f _ _ _ rfl g (mQ _) ?_;intro t j m)
 have n:ae w.heap.size w t:=c.grown m b.size (fun k q=>by injection q with q;omega);go_wp2;go_ret;exact⟨_,rfl,j,n⟩
def iY{w:V}{b:Nat}{c d e f g j k l:Z}{t:aN}(h:w.heap[b]?=I (.cells #[c,d,e,f,g,j,k,l] t (0,0))):
  w.cell? ⟨b,0,J⟩=I c∧w.cell? ⟨b,1,J⟩=I d∧w.cell? ⟨b,2,J⟩=I e∧w.cell? ⟨b,3,J⟩=I f∧w.cell? ⟨b,4,J⟩=I g∧w.cell? ⟨b,5,J⟩=I j∧w.cell? ⟨b,6,J⟩=I k∧w.cell? ⟨b,7,J⟩=I l:=by
 have a:∀(i:Nat)(v:Z),(#[c,d,e,f,g,j,k,l]:Array Z)[i]?=I v→w.cell? ⟨b,i,J⟩=I v:=fun i v m=>by simp only[an,h];exact m
 exact⟨a 0 _ rfl,a 1 _ rfl,a 2 _ rfl,a 3 _ rfl,a 4 _ rfl,a 5 _ rfl,a 6 _ rfl,a 7 _ rfl⟩
def tv(w:V)(d:Nat)(done:Int)(o lg b c e:Z)(h:w.heap[d]?=I (.cells #[.int .i64 0,o,.int .i64 done,.bool U,lg,b,c,e] 81 (0,0))):
  ar M 121 #[.pointer (I ⟨d,0,J⟩)] w (fun g w'=>g=.returned (.bool O)∧∃x,w'.heap[d]?=I (.cells #[.int .i64 0,o,.int .i64 x,.bool U,lg,b,c,e] 81 (0,0))∧But d w w'):=by
 obtain⟨c0,c1,c2,j,-⟩:=iY h;have f2:=aq h 2;have i:=D h;clear h
 go_enter func121,ntmps121
 go_upto_region 6 with fail
 have a:∀v,(w.setCell ⟨d,2,J⟩ v).heap[d]?=I (.cells #[.int .i64 0,o,v,.bool U,lg,b,c,e] 81 (0,0)):=fun v=>by simp[aV,aR,i.o]
 have f:=D a;clear a;go_wp2;go_ret;exact⟨rfl,_,f.o _,But.set _ _ _ _⟩
def Lw(w:V)(d:Nat)(done:Int)(o f b c:Z)(g:Option aB)(e i:Nat)(h:w.heap[d]?=I (.cells #[.int .i64 0,o,.int .i64 done,.bool U,.slice g e i,f,b,c] 81 (0,0)))(k:∃y,f=.int .i64 y):
  ar M 215 #[.pointer (I ⟨d,0,J⟩)] w (fun l w'=>l=.returned (.int .i64 0)∧∃x,w'.heap[d]?=I (.cells #[.int .i64 0,o,.int .i64 x,.bool U,.slice g e i,.int .i64 (e:Nat),b,c] 81 (0,0))∧But d w w'):=by
 obtain⟨c0,c1,c2,m,-⟩:=iY h;have n:=D h;clear h
 go_enter func215,ntmps215
 go_upto_region 3 with((go_at_call 121;refine(tv w d done o _ f b c n.o).mono ?_);rintro en p ⟨rfl,x,k9,b9⟩)
 obtain⟨d0,r,s,t,u,z,-⟩:=iY k9;have f5:=aq k9 5;have q:=D b9;have a:∀v,(p.setCell ⟨d,5,J⟩ v).heap[d]?=I (.cells #[.int .i64 0,o,.int .i64 x,.bool U,.slice g e i,v,b,c] 81 (0,0)):=fun v=>by simp[aV,aR,k9]
 have j:=D a;clear a k9 b9 c0 c1 c2 m;go_wp2;go_ret;exact⟨rfl,x,j.o _,q.o.trans (But.set _ _ _ _)⟩
def zQ{P:Program}{w:V}{ops:Array Oper}{rest:List Oper}{o:Oper}{a:Act}{Q:Exit→Act→V→Prop}(L:o.guard=J)(d s:Operand)(H N:aN)
  (ho:o.op=.call { callee:=.builtin .copy,args:= #[d,s],argTypes:= #[H,N] }) (base:Nat) (e:aN) (i:TypeInfo) (E:Nat) (hu:P.underlying H=I (.slice e)) (hi:P.info? e=I i) (R:i.size=E)
  (g n cap:Nat) (x:List Z) (hd:a.eval d=.slice (I ⟨g,0,J⟩) n cap) (y:w.ownsRow base e E (.slice (I ⟨g,0,J⟩) n cap) n x)
  (ao:Option aB) (b l:Nat) (cs:List Z) (hs:a.eval s=.slice ao b l) (z:b≤n) (c:cs.length=b*E) (S:Rd w ao cs) (h1:∀v∈cs,v.oneCell'=O)
  (h:∀w',w'.ownsRow base e E (.slice (I ⟨g,0,J⟩) n cap) n (cs++x.drop (b*E))→w.grownBy w' (I g)→wpList P ops Q rest (a.put o.dst (goInt b)) w'):wpList P ops Q (o::rest) a w:=by
 refine wpList_plain L fun K hK=>?_
 obtain⟨h0,m⟩:=y;rcases m with⟨m,_⟩ | ⟨g',b0,r,m,B,T,t,C,u,p⟩
 ·cases m
 injection m with m _ W;injection m with m;injection m with m _ _;subst m W;have q:Nat.min b n=b:=Nat.min_eq_left z;have c0:b*E≤n*E:=bE _ z;have d0:n*E≤cap*E:=bE _ t;by_cases hz:b=0
 ·subst hz
  have X:cs=[]:=List.eq_nil_of_length_eq_zero (by simpa using c);subst X;have f:=td (P:=P) w H N o.type e i (I ⟨g,0,J⟩) ao n cap 0 l hu hi (Nat.zero_min _);unfold Oper.wp;simp[execOp,ho,resolve,invoke,builtin,hd,hs,f,cT];refine hK _ _ (h w ?_ (gF _ _));have:[]++x.drop (0*E)=x:=bW
  rw[this];exact⟨h0,.inr ⟨g,cap,r,rfl,B,T,t,C,u,p⟩⟩
 have f:=mL (P:=P) w H N o.type e i g 0 n cap ao b l r e cs hu hi T (by rw[q,R];exact c)
  (fun j v hj=>S j v hj) (by rw[c,u];omega) h1
 rw[q]at f;unfold Oper.wp;simp[execOp,ho,resolve,invoke,builtin,hd,hs,f,cT];have F:(cs++x.drop (b*E)).length=n*E:=by simp only[ay,bh,c,h0];omega
 refine hK _ _ (h _ ⟨F,.inr ⟨g,cap,_,rfl,B,aO w g r _ e _ T,t,C,?_,?_⟩⟩ ⟨rfl,rfl,rfl,by simp[cV],fun k hk a0=>setRow_other w g k _ (fun h=>a0 (by rw[h]))⟩)
 ·rw[List.size_toArray];simp only[ay,bN,bh,c,Array.length_toList,u];omega
 ·rw[←p]
  simp only[List.take_zero,gT,cO];rw[c,List.drop_take];rw[List.take_append,iv (by rw[c];omega),c]
def jN{w w':V}{a:Option aB}{l:List UInt8}{d:Nat}{cs:Array Z}{t:aN}(h:Rd w a (bX l))(i:w.heap[d]?=I (.cells cs t (0,0)))(k:∀v∈cs,∀n,v≠.int .u8 n)(o:But d w w'):Rd w' a (bX l):=by
 intro j u g;obtain⟨b,rfl,c⟩:=h j u g;refine⟨b,rfl,?_⟩;obtain⟨m,rfl⟩:=qc g
 have e:=World.block_lt_of_cell? w _ c
 have f:(b.add j).block≠d:=by
  intro p;unfold an at c;rw[p,i]at c;simp only at c
  split at c
  ·cases c
  ·exact k _ (Array.mem_of_getElem? c) m rfl
 rw[an,o.block _ e f];exact c
def Hf(w:V)(d:Nat)(done room:Int)(o K:Z)(Q R:Option aB)(S p sc:Nat)(a b:List UInt8)(ao:Option aB)(cap:Nat)
  (h:w.heap[d]?=I (.cells (F3 o done Q a.length S K R p sc room) 81 (0,0)))
  (ho:∀n,o≠.int .u8 n) (T:∀n,K≠.int .u8 n) (h1:Rd w Q (bX a)) (h2:Rd w ao (bX b)) (hl:a.length+b.length<100000000) (hc:b.length≤cap):
  ar M 214 #[.pointer (I ⟨d,0,J⟩),.slice ao b.length cap] w (fun ev w'=>(ev=.returned (.int .i64 17)∧ae w.heap.size w w'∧bi (bi (room-(a.length:Int))-(p:Int))<(b.length:Int))∨
   (ev=.returned (.int .i64 0)∧But d w w'∧∃x a2 c2,w'.heap[d]?=I (.cells (F3 o x a2 (a++b).length c2 K R p sc room) 81 (0,0))∧w'.ownsRow w.heap.size 5 1 (.slice a2 (a++b).length c2) (a++b).length (bX (a++b)))):=by
 obtain⟨c0,c1,c2,c3,c4,c5,c6,c7⟩:=iY h;have HK:=D h;have H1:=D h1;have H2:=D h2;have HL:=D hl;have HO:=D ho;have m0:=D T;clear h h1 h2 hl ho T
 go_enter func214,ntmps214
 by_cases W:bi (bi (room-(a.length:Int))-(p:Int))<(b.length:Int)
 ·have e1:decide (bi (bi (room-(a.length:Int))-(p:Int))<(b.length:Int))=O:=by simpa using W
  have n0:=D W;clear W;go_upto_region 3 with fail
  go_quiet (fail)
  go_wp2;go_ret;exact .inl ⟨rfl,below_drewN (aD _ _) _,n0.o⟩
 ·have e1:decide (bi (bi (room-(a.length:Int))-(p:Int))<(b.length:Int))=U:=by simpa using W
  clear W;go_upto_region 3 with fail
  go_quiet (fail)
  obtain⟨X,hq⟩:∃X,w.drewN nq=X:=⟨_,rfl⟩;have KQ:Hid (X.heap[d]?=I (.cells (F3 o done Q a.length S K R p sc room) 81 (0,0))):=D (by rw[←hq];exact HK.o);have q:Hid (ae w.heap.size w X):=D (by rw[←hq];exact below_drewN (aD _ _) nq);rw[hq];clear hq c0 c1 c2 c3 c4 c5 c6 c7;obtain⟨o0,t⟩:=qS
  obtain⟨i,hi,p0,L,q0⟩:=fT ym;have a0:bi ((a.length:Int)+(b.length:Int))=((a.length+b.length:Nat):Int):=by rw[ag _ (by have:=HL.o;omega)];omega
  go_upto_region 6 with((go_at_call 121;refine(tv X d done o _ K _ _ KQ.o).mono ?_);rintro en c ⟨rfl,x,k9,b9⟩)
  obtain⟨c0,c1,c2,c3,c4,c5,c6,c7⟩:=iY k9;have K9:=D k9;have r0:=D b9
  have b0:Hid (∀v∈((F3 o done Q a.length S K R p sc room):Array Z),∀n,v≠.int .u8 n):=D (by
   intro v hv n;simp only[gy,bg,bV,or_false]at hv
   rcases hv with rfl | rfl | rfl | rfl | rfl | rfl | rfl | rfl<;>first | (intro hh;cases hh;done) | exact HO.o n | exact m0.o n)
  have L9:=D (jN (H1.o.keep q.o (G _)) KQ.o b0.o b9);have B9:=D (jN (H2.o.keep q.o (G _)) KQ.o b0.o b9);have d0:Hid (w.heap.size≤c.heap.size):=D (aa q.o.size b9.size);clear k9 b9;go_upto_region 7 with((with_reducible refine aT 45 ?_);refine nE rfl _ _ 33 rfl c.heap.size 5 i _ 1 1 underlying33 hi p0 L q0 .i64 .i64 _ _ (a.length+b.length) (a.length+b.length) rfl rfl (by first | exact a0 | simp) (by first | exact a0 | simp) (G _) (by have:=HL.o;omega) (by have:=HL.o;omega) (G _) ?_;intro xs s0 j u)
  have e:ae c.heap.size c s0:=(aD _ _).grown u (G _) (fun _ h=>by cases h);have y:=D e;have d4:=dG c4 e (br K9.o).1;have e0:=L9.o.keep e (G _);obtain⟨t0,z,B⟩:=ey (P:= M) 33 5 o0 1 underlying33 t.1 t.2 c.heap.size 0 (a.length+b.length) (a.length+b.length) a.length (a.length:Int) rfl A (G _);rw[Nat.add_sub_cancel_left]at B;have f0:=D z;clear z c0 c1 c2 c3 c4 c5 c6 c7 u e
  go_upto_region 8 with(first
   | ((with_reducible refine aT 52 ?_);refine zQ rfl _ _ _ _ rfl c.heap.size 5 i 1 underlying33 hi L c.heap.size _ _ xs rfl j Q a.length S (bX a) rfl A (by rw[ld,dL]) e0 (mQ _) ?_;intro v0 C E;have f:ae c.heap.size c v0:=(y.o.grown E y.o.size (fun k N=>by injection N with N;omega));have g0:=B9.o.keep f (G _))
   | ((with_reducible refine aT 55 ?_);refine sM rfl _ _ _ _ rfl c.heap.size 5 i 1 underlying33 hi L c.heap.size _ _ _ C a.length b.length _ t0 rfl (fun h=>by rw[f0.o A,cO]) A ao b.length cap (bX b) rfl (G _) (by rw[ld,dL]) (fun _=>g0) (mQ _) ?_;intro h0 l F))
  have m:ae c.heap.size c h0:=f.grown F f.size (fun k N=>by injection N with N;omega)
  have H:(bX a++xs.drop (a.length*1)).take (a.length*1)++bX b++(bX a++xs.drop (a.length*1)).drop (a.length*1+b.length*1)=bX (a++b):=by
   have hx:xs.length=a.length+b.length:=by have:=j.1;omega
   rw[dL,dL,cQ (by rw[ld];exact G _),iv (by rw[ld];exact G _),List.drop_of_length_le (by rw[ay,ld,bh];omega),List.append_nil,tj]
  rw[H]at l;have s:h0.heap[d]?=I (.cells (F3 o x Q a.length S K R p sc room) 81 (0,0)):=by rw[m.block _ (br K9.o).1];exact K9.o
  obtain⟨-,-,-,-,q4,-⟩:=iY s;have f4:=aq s 4;have i0:=D m;have j0:=D l;have k0:=D s;clear f m j C l E F e0 g0 H s d4 B;go_wp2;go_ret;refine .inr ⟨rfl,((But.of_below q.o).trans r0.o).then i0.o d0.o |>.trans (But.set _ _ _ _),x,I ⟨c.heap.size,0,J⟩,a.length+b.length,?_,?_⟩
  ·rw[ay]
   simp[aV,aR,k0.o]
  ·rw[ay]
   refine ki (base:=c.heap.size) ?_ d0.o;obtain⟨o1,o2⟩:=j0.o;refine⟨o1,o2.imp id ?_⟩;rintro⟨g,l0,w0,hv,N,hh,r⟩;refine⟨g,l0,w0,hv,N,?_,r⟩;rw[bC _ _ _ _ ?_]
   ·exact hh
   ·rintro rfl
    have:=(br K9.o).1;omega
def Lx(w:V)(d:Nat)(done room:Int)(o H:Z)(K L:Option aB)(N P Q sc:Nat)(b:List UInt8)(ao:Option aB)(cap:Nat)
  (h:w.heap[d]?=I (.cells (F3 o done K N P H L Q sc room) 81 (0,0)))
  (R:∀n,o≠.int .u8 n) (p:∃y,H=.int .i64 y) (S:Sl w 1 (.slice ao b.length cap) b.length (bX b)) (T:b.length<100000000):
  ar M 216 #[.pointer (I ⟨d,0,J⟩),.slice ao b.length cap] w (fun W w'=>(W=.returned (.int .i64 17)∧w'=w)∨
   (W=.returned (.int .i64 0)∧But d w w'∧∃x a2 c2,w'.heap[d]?=I (.cells #[.int .i64 0,o,.int .i64 x,.bool U,.slice J 0 0,.int .i64 0,.slice a2 b.length c2,.int .i64 room] 81 (0,0))∧w'.ownsRow w.heap.size 5 1 (.slice a2 b.length c2) b.length (bX b))):=by
 obtain⟨y,rfl⟩:=p;obtain⟨c0,c1,c2,c3,c4,c5,c6,c7⟩:=iY h;have X:=D h;have H2:=D S;have HL:=D T;have HO:=D R;clear h S T R
 go_enter func216,ntmps216
 by_cases m:room<(b.length:Int)
 ·have e1:decide (room<(b.length:Int))=O:=by simpa using m
  clear m;go_wp2;go_ret;exact .inl ⟨rfl,rfl⟩
 ·have e1:decide (room<(b.length:Int))=U:=by simpa using m
  clear m;go_upto_region 6 with((go_at_call 121;refine(tv w d done o _ _ _ _ X.o).mono ?_);rintro en q ⟨rfl,x,k9,b9⟩)
  have r:Hid (∀v∈(#[.int .i64 0,o,.int .i64 done,.bool U,.slice K N P,.int .i64 y,.slice L Q sc,.int .i64 room]:Array Z),∀n,v≠.int .u8 n):=D (by
   intro v hv n;simp only[gy,bg,bV,or_false]at hv
   rcases hv with rfl | rfl | rfl | rfl | rfl | rfl | rfl | rfl<;>first | (intro hh;cases hh;done) | exact HO.o n)
  have S9:Hid (Sl q 1 (.slice ao b.length cap) b.length (bX b)):=D (by
   have s:=jN (Sl.rd H2.o) X.o r.o b9;obtain⟨q1,t,g,q2,q3,q4,q5,q6⟩:=H2.o;refine⟨q1,t,g,q2,q3,q4,q5,fun j u hu=>?_⟩;obtain⟨bb,z,r1,r2,r3⟩:=q6 j u hu;injection q2 with q2 _ _;subst q2;obtain⟨b2,a0,f,r5⟩:=me s hu;rw[r1]at f;injection f with f;injection f with f r6;subst f r6
   exact⟨bb,z,r1,ac r2 b9.size,r5⟩)
  obtain⟨d0,d1,d2,d3,d4,d5,d6,d7⟩:=iY k9;have B:=D k9;have i:=D b9;clear k9 b9 c0 c1 c2 c3 c4 c5 c6 c7;go_upto_region 8 with((go_at_call 26;refine(zP q ao b cap S9.o HL.o).mono ?_);rintro en b0 ⟨v,rfl,c,b10⟩;obtain⟨a2,C,rfl,-,-⟩:=bY c;have a:=D ((b10.block d (br B.o).1).trans B.o);obtain⟨g0,g1,g2,g3,g4,g5,g6,g7⟩:=iY a.o;have f4:=aq a.o 4;have f5:=aq a.o 5;have f6:=aq a.o 6;have E:=D c;have F:=D b10;clear c b10 d0 d1 d2 d3 d4 d5 d6 d7)
  have k:=(br B.o).1;have e:=D k;have l:=D i.o.size;clear k;go_wp2;go_ret;refine .inr ⟨rfl,(((i.o.then F.o l.o).trans (But.set _ _ _ _)).trans (But.set _ _ _ _)).trans (But.set _ _ _ _),x,a2,C,?_,?_⟩
  ·simp[aV,aR,a.o]
  ·refine ki (base:=q.heap.size) ?_ l.o
   exact pq (pq (pq E.o ⟨d,6,J⟩ e.o _) ⟨d,4,J⟩ e.o _) ⟨d,5,J⟩ e.o _
def Og(k:Nat):((ew k).toNat:Int)=((k%256:Nat):Int):=bW
def Gr(w:V)(n:Nat)(a:n<4294967296):
  ar M 268 #[.int .u32 (n:Nat)] w (fun b w'=>∃(l:List UInt8)(v:Z),l.length=4∧b=.returned v∧w'.ownsRow w.heap.size 5 1 v 4 (bX l)∧ae w.heap.size w w'):=by
 have h:=D a;clear a
 go_enter func268,ntmps268
 go_wp2;go_ret;refine⟨[ew (n/16777216),ew (n/65536),ew (n/256),ew n],_,rfl,rfl,?_,(aD _ _).alloc (G _) _⟩;have:=gP w w.heap.size w.heap.size 5 1 #[.int .u8 ((n:Int)/16777216%256),.int .u8 ((n:Int)/65536%256),.int .u8 ((n:Int)/256%256),.int .u8 ((n:Int)%256)] 4 rfl (G _) A rfl
 have c:bX [ew (n/16777216),ew (n/65536),ew (n/256),ew n]=(#[.int .u8 ((n:Int)/16777216%256),.int .u8 ((n:Int)/65536%256),.int .u8 ((n:Int)/256%256),.int .u8 ((n:Int)%256)]:Array Z).toList:=by
  simp only[bX,List.map_cons,List.map_nil,Og];have d:((n/16777216%256:Nat):Int)=(n:Int)/16777216%256:=A
  have e:((n/65536%256:Nat):Int)=(n:Int)/65536%256:=A
  have f:((n/256%256:Nat):Int)=(n:Int)/256%256:=A
  have g:((n%256:Nat):Int)=(n:Int)%256:=A
  rw[d,e,f,g]
 rw[c];exact this
def tw(w:V)(j:Nat)(d:Z)(n:Int)(h:w.heap[j]?=I (.cells #[d,.int .i64 n] 155 (0,0))):
  ar M 151 #[.pointer (I ⟨j,0,J⟩)] w (fun a w'=>a=.returned (.int .i64 n)∧w'=w):=by
 obtain⟨c0,c1,-⟩:=cS h;clear h
 go_enter func151,ntmps151
 go_wp2;go_ret;exact⟨rfl,rfl⟩
def AT(x y z:Option aB×List UInt8×Nat):kw [x,y,z]=x.2.1++(y.2.1++z.2.1):=by simp[kw]
def AU:∀(n c:Nat),c<4294967296→mO n c<4294967296
 | 0,_,h=>h
 | n+1,c,h=>AU n _ (rN h)
def C4:∀(l:List Nat)(c:Nat),(∀x∈l,x<256)→c<4294967296→mP l c<4294967296
 | [],_,_,h=>h
 | x::l,c,a,h=>C4 l _ (fun y b=>a y (aE _ b)) (AU 8 _ (BY h (by have:=a x (aY ..);omega)))
def Qd(l:List UInt8):Cu l<4294967296:=
 BY (C4 _ _ (fun x a=>by obtain⟨b,_,rfl⟩:=List.mem_map.1 a;exact b.toNat_lt) aC) aC
def YH(w:V)(n:Nat)(en:de)(w':V):Prop:=∃(b:List UInt8)(a:Option aB)(c:Nat)(e:Int),en=.returned (.tuple #[.slice a b.length c,.int .i64 e])∧b.length≤n+8∧w'.ownsRow w.heap.size 5 1 (.slice a b.length c) b.length (bX b)∧ae w.heap.size w w'∧(n≤4194304→e=0)
def C5(w:V)(ao:Option aB)(l:List UInt8)(cap:Nat)(h:Rd w ao (bX l))(p:l.length<90000000):
  ar M 213 #[.slice ao l.length cap] w (YH w l.length):=by
 have q:=D h;have B:=D p;clear h p;by_cases c:4194304<l.length
 ·have C:decide ((4194304:Int)<(l.length:Int))=O:=by rw[decide_eq_true_eq];omega
  have i:=D c;clear c
  go_enter func213,ntmps213
  go_wp2
  go_ret2
  exact⟨[],J,0,5,rfl,by simp,World.ownsRow_nil _ _ _ _,aD _ _,fun h=>by have:=i.o;omega⟩
 ·have C:decide ((4194304:Int)<(l.length:Int))=U:=by rw[decide_eq_false_iff_not];omega
  have j:=D c;clear c
  go_enter func213,ntmps213
  have hm:(l.length:Int)%4294967296=(l.length:Nat):=by have:=j.o;omega
  go_wp2_with fail
  refine(Gr w l.length (by have:=j.o;omega)).mono ?_;rintro en r ⟨s,N,t,rfl,k,b2⟩;obtain⟨a2,c2,rfl,-,-⟩:=bY k;have a:=D t;have E:=D k;have e:=D b2;clear t k b2;go_wp2_with fail
  refine(I4 r ao l l.length cap rfl (by have:=j.o;omega) (q.o.keep e.o (G _))).mono ?_;rintro en P ⟨rfl,u⟩;rw[u];clear u;go_wp2_with fail
  refine(Gr r (Cu l) (Qd l)).mono ?_;rintro en d ⟨v,Q,y,rfl,m,b4⟩;obtain⟨a4,n,rfl,-,-⟩:=bY m;have b:=D y;have F:=D m;have f:=D b4;clear y m b4;go_wp2_with fail
  refine(tu _ (.slice (I ⟨d.heap.size,0,J⟩) 3 3) [(a2,s,c2),(a4,v,n),(ao,l,cap)] (by
     have:=cM (gP d d.heap.size d.heap.size 33 1 #[.slice a2 4 c2,.slice a4 4 n,.slice ao l.length cap] 3 rfl (G _) A rfl);simpa[cc,ca,YG,a.o,b.o]using this) (by
     intro x z;simp only[bg,bV,or_false]at z;rcases z with rfl | rfl | rfl
     ·exact((cM E.o).rd.keep f.o (G _)).alloc _
     ·exact(cM F.o).rd.alloc _
     ·exact((q.o.keep e.o (G _)).keep f.o (G _)).alloc _) bW (by rw[AT,ay,ay];have:=B.o;have:=a.o;have:=b.o;simp only;omega)).mono ?_
  rintro en R ⟨S,rfl,g,b5⟩;rw[AT]at g;obtain⟨a5,H,rfl,-,-⟩:=bY g;have K:=D g;have L:=D b5;clear g b5;go_wp2
  go_ret2
  have o:=aa e.o.size f.o.size;have c:ae w.heap.size d (d.alloc (.cells #[.slice a2 4 c2,.slice a4 4 n,.slice ao l.length cap] 33)):=(aD _ _).alloc o _;exact⟨s++(v++l),a5,H,0,by simp,by rw[ay,ay];have:=a.o;have:=b.o;omega,ki K.o (aa o bW),((e.o.trans (f.o.mono e.o.size)).trans c).trans (L.o.mono (aa o bW)),fun _=>rfl⟩
def C6(w:V)(ao:Option aB)(l:List UInt8)(cap:Nat)(h:Rd w ao (bX l))(j:l.length<80000000):
  ar M 38 #[.slice ao l.length cap] w (fun o w'=>∃(b:List UInt8)(a:Option aB)(c:Nat),o=.returned (.slice a b.length c)∧b.length≤l.length+10∧w'.ownsRow w.heap.size 5 1 (.slice a b.length c) b.length (bX b)∧ae w.heap.size w w'):=by
 have p:=D h;have q:=D j;clear h j
 go_enter func38,ntmps38
 go_wp2_with fail
 refine(mU w J [] 0 4 (Rd.nil _ _) bW).mono ?_;rintro en t ⟨b,a2,c2,rfl,k,g,b2⟩;rw[gT]at g⊢;have e:=D k;have m:=D g;have f:=D b2;clear k g b2;go_wp2_with ((with_reducible refine aT 5 ?_);refine rP rfl _ _ rfl w.heap.size _ _ b rfl m.o ao l.length cap l rfl rfl (p.o.keep f.o (G _)) (by have:=q.o;have:=e.o;omega) f.o.size ?_;intro u v d i n)
 go_ret;obtain⟨a3,r,rfl,-,-⟩:=bY d;have s:=f.o.grown i f.o.size (k_ m.o);rw[←ay]at d;exact⟨b++l,a3,r,by rw[ay];rfl,by rw[ay];have:=e.o;omega,d,s⟩
def vq{w w':V}{d:Nat}{cs:Array Z}{t:aN}{ao:Option aB}{n cap:Nat}{b:List UInt8}(h:Sl w 1 (.slice ao n cap) n (bX b))(o:w.heap[d]?=I (.cells cs t (0,0)))(p:∀v∈cs,∀n,v≠.int .u8 n)(i:But d w w'):Sl w' 1 (.slice ao n cap) n (bX b):=by
 have e:=jN (Sl.rd h) o p i;obtain⟨q,f,c,q2,r,s,x,y⟩:=h;refine⟨q,f,c,q2,r,s,x,fun j u k=>?_⟩;obtain⟨z,g,l,B,F⟩:=y j u k;injection q2 with q2 _ _;subst q2;obtain⟨b2,m,a,C⟩:=me e k;rw[l]at a;injection a with a;injection a with a E;subst a E;exact⟨z,g,l,ac B i.size,C⟩
def Dk(w:V)(d:Nat)(a:List UInt8):Prop:=∃(b done f room:Int)(c g:Option aB)(e h sc:Nat),w.heap[d]?=I (.cells #[.int .i64 0,.int .i64 b,.int .i64 done,.bool U,.slice c a.length e,.int .i64 f,.slice g h sc,.int .i64 room] 81 (0,0))∧Sl w 1 (.slice c a.length e) a.length (bX a)
structure Jn(w:V)(j d:Nat)(log:List UInt8):Prop where
 j:∃n:Int,w.heap[j]?=I (.cells #[.pointer (I ⟨d,0,J⟩),.int .i64 n] 155 (0,0))
 d:Dk w d log
def Gs{a0 a1 a2 a3 a4 a5 a6 a7:Z}(b:∀n,a0≠.int .u8 n)(c:∀n,a1≠.int .u8 n)(d:∀n,a2≠.int .u8 n)(e:∀n,a3≠.int .u8 n)(f:∀n,a4≠.int .u8 n)(g:∀n,a5≠.int .u8 n)(h:∀n,a6≠.int .u8 n)(i:∀n,a7≠.int .u8 n):∀v∈(#[a0,a1,a2,a3,a4,a5,a6,a7]:Array Z),∀n,v≠.int .u8 n:=by
 intro v a n;simp only[gy,bg,bV,or_false]at a;rcases a with rfl | rfl | rfl | rfl | rfl | rfl | rfl | rfl
 ·exact b n
 ·exact c n
 ·exact d n
 ·exact e n
 ·exact f n
 ·exact g n
 ·exact h n
 ·exact i n
def Dk.keep{w w':V}{d C:Nat}{a:List UInt8}(h:Dk w d a)(c:ae C w w')(e:w.heap.size≤C):Dk w' d a:=by
 obtain⟨b,done,g,room,i,j,k,l,sc,f,m⟩:=h;exact⟨b,done,g,room,i,j,k,l,sc,(c.block d (ac (br f).1 e)).trans f,m.keep c e⟩
def Jn.keep{w w':V}{j d C:Nat}{a:List UInt8}(h:Jn w j d a)(b:ae C w w')(c:w.heap.size≤C):Jn w' j d a:=by
 obtain⟨⟨n,e⟩,f⟩:=h;exact⟨⟨n,(b.block j (ac (br e).1 c)).trans e⟩,f.keep b c⟩
def Jn.ne{w:V}{j d:Nat}{b:List UInt8}(h:Jn w j d b):j≠d:=by
 obtain⟨⟨n,a⟩,c,done,g,room,i,k,l,m,sc,f,o⟩:=h;intro e;rw[e,f]at a;injection a with a;injection a with _ a _;exact absurd a aC
def Dk.but{w w':V}{d p:Nat}{a:List UInt8}{cs:Array Z}{t:aN}(h:Dk w d a)(g:w.heap[p]?=I (.cells cs t (0,0)))(i:∀v∈cs,∀n,v≠.int .u8 n)(b:d≠p)(e:But p w w'):Dk w' d a:=by
 obtain⟨c,done,j,room,k,l,m,o,sc,f,q⟩:=h;exact⟨c,done,j,room,k,l,m,o,sc,(e.block d (br f).1 b).trans f,vq q g i e⟩
def M4{a0:aB}{b:Int}:∀v∈(#[.pointer (I a0),.int .i64 b]:Array Z),∀n,v≠.int .u8 n:=by
 intro v a n;simp only[gy,bg,bV,or_false]at a;rcases a with rfl | rfl<;>(intro c;cases c)
def Jn.turn{w:V}{j d:Nat}{a:List UInt8}(h:Jn w j d a)(b:Int):Jn (w.setCell ⟨j,1,J⟩ (.int .i64 b)) j d a:=by
 obtain⟨n,c⟩:=h.j;exact⟨⟨b,by simp[aV,aR,c]⟩,h.d.but c M4 (Ne.symm h.ne) (But.set _ _ _ _)⟩
def Fr(w:V)(j d:Nat):Prop:=w.heap[j]?=I (.cells #[.pointer (I ⟨d,0,J⟩),.int .i64 0] 155 (0,0))∧∃(a done b:Int)(c:Option aB)(e:Nat),w.heap[d]?=I (.cells #[.int .i64 0,.int .i64 a,.int .i64 done,.bool U,.slice c 0 e,.int .i64 b,.slice J 0 0,.int .i64 1048576] 81 (0,0))
def Fr.keep{w w':V}{j d C:Nat}(h:Fr w j d)(b:ae C w w')(c:w.heap.size≤C):Fr w' j d:=by
 obtain⟨e,a,done,g,i,k,f⟩:=h;exact⟨(b.block j (ac (br e).1 c)).trans e,a,done,g,i,k,(b.block d (ac (br f).1 c)).trans f⟩
def Fr.room{w:V}{j d:Nat}{e f g i k:Z}{room:Int}{l m:Option aB}{b n c sc:Nat}(h:Fr w j d)(o:w.heap[d]?=I (.cells #[e,f,g,i,.slice l b n,k,.slice m c sc,.int .i64 room] 81 (0,0))):room=1048576∧b=0∧c=0:=by
 obtain⟨s,p,done,t,q,r,a⟩:=h;rw[o]at a;injection a with a;injection a with a _ _;simp only[Array.mk.injEq,List.cons.injEq,Value.slice.injEq,Value.int.injEq]at a;exact⟨a.2.2.2.2.2.2.2.1.2,a.2.2.2.2.1.2.1,a.2.2.2.2.2.2.1.2.1⟩
def TP(w:V)(j d:Nat)(b:List UInt8)(n:Nat)(F:Prop)(en:de)(w':V):Prop:=∃(e:Int)(a:List UInt8),en=.returned (.int .i64 e)∧Jn w' j d a∧a.length≤b.length+n∧gK j d w w'∧(F→e=0)
def But.Qe{p q:Nat}{w w':V}(h:But q w w'):gK p q w w':=⟨h.os,h.tape,h.output,h.size,fun k a _ b=>h.block k a b⟩
def Gt(w:V)(j d:Nat)(c b:List UInt8)(ao:Option aB)(cap:Nat)(h:Jn w j d c)(H:Rd w ao (bX b))(K:c.length+b.length<80000000):
  ar M 152 #[.pointer (I ⟨j,0,J⟩),.slice ao b.length cap] w (TP w j d c (b.length+8) (Fr w j d∧b.length≤1000)):=by
 have i:=D h;have HB:=D H;have L:=D K;clear h H K
 go_enter func152,ntmps152
 go_upto_region 2 with((go_at_call 213;refine(C5 w ao b cap HB.o (by have:=L.o;omega)).mono ?_);rintro en N ⟨s,a2,c2,e,rfl,P,u,b2,Q⟩)
 have i:=D (i.o.keep b2 (G _));have HO:=D u
 have v:Hid (s.length≤c2):=D (by
  obtain⟨_,_,a,h1,_⟩:=bY u;injection a with _ _ h3
  rw[h3];exact h1)
 have k:=D P;have g:Hid (gK j d w N):=D (But.of_below b2).two;have H0:=D Q;have B1:=D b2;clear u b2 P Q;by_cases t:e=0
 rotate_left
 ·have e1:(e==0)=U:=by simpa using t
  have x:=D t;clear t;go_wp2;go_ret;exact⟨_,_,rfl,i.o,by omega,g.o,fun h=>absurd (H0.o A) x.o⟩
 subst t;have e1:((0:Int)==0)=O:=rfl;have p:=D i.o.ne;obtain⟨⟨n,y⟩,l,done,R,room,la,z,lc,B,sc,S,T⟩:=i.o;obtain⟨W,X,f0,f1,-⟩:=cS y;have f:=D y;have HK:=D S;have HS:=D T;clear y S T;go_wp2_with fail
 refine(Hf N d done room (.int .i64 l) (.int .i64 R) la z lc B sc c s a2 c2 HK.o (fun n a=>by cases a) (fun n a=>by cases a) (Sl.rd HS.o) (Sl.rd (cM HO.o)) (by have:=L.o;have:=k.o;omega) v.o).mono ?_;rintro en w2 (⟨rfl,b9,q⟩ | ⟨rfl,b9,x9,a9,c9,k9,o9⟩)
 ·have g:=D (g.o.trans (But.of_below b9).two)
  have i:=D (i.o.keep b9 (G _));have C:=D q;clear b9 q;go_wp2;go_ret
  exact⟨_,c,rfl,i.o,by omega,g.o,fun h=>by
   obtain⟨q1,q2,q3⟩:=(h.1.keep B1.o (G _)).room HK.o;have q4:=C.o;rw[q1,q2,q3]at q4;have q5:bi (bi (1048576-((0:Nat):Int))-((0:Nat):Int))=1048576:=aj
   rw[q5]at q4;have:=k.o;have:=h.2
   omega⟩
 ·have g:=D (g.o.trans (But.Qe b9))
  have m:=(b9.block j (br f.o).1 p.o).trans f.o;obtain⟨W,X,f0,f1,-⟩:=cS m;have f:=D m;have r:=D k9;have E:=D o9;clear b9 m k9 o9;go_wp2_with fail
  refine(Lw w2 d x9 (.int .i64 l) (.int .i64 R) (.slice z B sc) (.int .i64 room) a9 _ c9 r.o ⟨_,rfl⟩).mono ?_;rintro en w3 ⟨rfl,x3,k3,b3⟩;have g:=D (g.o.trans (But.Qe b3));have o:=(b3.block j (br f.o).1 p.o).trans f.o;obtain⟨W,X,f0,f1,-⟩:=cS o;have F:Hid (Jn w3 j d (c++s)):=D ⟨⟨n,o⟩,l,x3,_,room,a9,z,c9,B,sc,k3,vq (cM E.o) r.o (Gs (fun n a=>by cases a) (fun n a=>by cases a) (fun n a=>by cases a) (fun n a=>by cases a) (fun n a=>by cases a) (fun n a=>by cases a) (fun n a=>by cases a) (fun n a=>by cases a)) b3⟩;clear b3 o k3;go_wp2;go_ret;exact⟨_,c++s,rfl,F.o.turn _,by rw[ay];have:=k.o;omega,g.o.trans ((But.set j 1 w3 _).two),fun _=>rfl⟩
def Ly(w:V)(j d:Nat)(a b:List UInt8)(ao:Option aB)(cap:Nat)(h:Jn w j d a)(u:Rd w ao (bX b))(v:a.length+b.length<80000000):
  ar M 153 #[.pointer (I ⟨j,0,J⟩),.slice ao b.length cap] w (TP w j d a 0 False):=by
 have f:=D h;have H:=D u;have x:=D v;clear h u v
 go_enter func153,ntmps153
 go_upto_region 2 with((go_at_call 213;refine(C5 w ao b cap H.o (by have:=x.o;omega)).mono ?_);rintro en y ⟨m,a2,c2,e,rfl,z,o,b2,B⟩)
 have f:=D (f.o.keep b2 (G _));have K:=D o
 have L:Hid (m.length≤c2):=D (by
  obtain⟨_,_,p,N,_⟩:=bY o;injection p with _ _ P
  rw[P];exact N)
 have q:=D z;have g:Hid (gK j d w y):=D (But.of_below b2).two;have H0:=D B;have B1:=D b2;clear o b2 z B;by_cases l:e=0
 rotate_left
 ·have Q:(e==0)=U:=by simpa using l
  have R:=D l;clear l;go_wp2;go_ret;exact⟨_,_,rfl,f.o,by omega,g.o,fun h=>h.elim⟩
 subst l;have Q:((0:Int)==0)=O:=rfl;have r:=D f.o.ne;obtain⟨⟨n,s⟩,i,done,S,room,T,W,X,sn,sc,C,E⟩:=f.o;obtain⟨g0,g1,f0,f1,-⟩:=cS s;have k:=D s;have HK:=D C;have HS:=D E;clear s C E;go_wp2_with fail
 refine(Lx y d done room (.int .i64 i) (.int .i64 S) T W _ X sn sc m a2 c2 HK.o (fun n p=>by cases p) ⟨_,rfl⟩ (cM K.o) (by have:=x.o;have:=q.o;omega)).mono ?_;rintro en F (⟨rfl,rfl⟩ | ⟨rfl,b9,x9,a9,c9,k9,o9⟩)
 ·go_wp2
  go_ret;exact⟨_,a,rfl,f.o,by omega,g.o,fun h=>h.elim⟩
 ·have g:=D (g.o.trans (But.Qe b9))
  have c:=(b9.block j (br k.o).1 r.o).trans k.o;obtain⟨g0,g1,f0,f1,-⟩:=cS c;have t:Hid (Jn F j d []):=D ⟨⟨n,c⟩,i,x9,0,room,J,a9,0,m.length,c9,k9,Sl.nil _ _⟩;clear b9 c k9 o9;go_wp2;go_ret;exact⟨_,[],rfl,t.o.turn _,by simp,g.o.trans ((But.set j 1 F _).two),fun h=>h.elim⟩
def x00:eQ:=⟨0,0,0,0,0,U,0⟩
def fb:dV:=⟨CJ,CJ,CJ⟩
def BZ(n:Nat):fb.ok n:=by
 have h:CJ.ok n:=⟨aw _,aw _,aw _,aw _,aw _,aw _,fun _ h=>(by cases h),fun _ h=>(by cases h),fun _ h=>(by cases h),fun _ h=>(by cases h)⟩;exact⟨h,h,h⟩
abbrev dk0:Array Z:= #[.int .i64 0,.int .i64 0,.int .i64 0,.bool U,.slice J 0 0,.int .i64 0,.slice J 0 0,.int .i64 1048576]
def Oo(w:V):ar M 5 #[.int .i64 1048576] w (fun en w'=>en=.returned (.tuple #[.pointer (I ⟨w.heap.size,0,J⟩),.int .i64 0])∧w'=w.alloc (.cells dk0 81)):=by
 go_enter func5,ntmps5
 go_wp2
 go_ret2
 exact⟨rfl,rfl⟩
def Oq(w:V)(v:Z)(h:cc dz.f dz.E w v [O,O,O]):ar M 20 #[.int .i64 1,.int .i64 3,v] w (Hb w x00 fb 0):=by
 obtain⟨ao,cap,rfl,-,-⟩:=Sl.shape h;obtain⟨b,f⟩:∃b,w.heap.size=b:=⟨_,rfl⟩;obtain⟨W,c⟩:∃W,w.alloc (.cells jV 55)=W:=⟨_,rfl⟩;have a:ae w.heap.size w W:=by rw[←c];exact(aD _ _).alloc (G _) _
 have j:Hid (W.heap[b]?=I (.cells jV 55 (0,0))∧b<W.heap.size):=D ⟨by rw[←c,←f];exact al _ _,by rw[←c,←f];simp⟩;have o:=D (cc.keep h a (G _));have g:=D a;have k:=D c;have l:=D f;clear h c f a
 go_enter func20,ntmps20
 go_upto_region 1 with fail
 rw[k.o,l.o];clear k;go_upto_region 3 with fail
 go_wp2_with (first
  | ((go_at_call 55;refine(CI _ _ [O,O,O] o.o aC).mono ?_);rintro en m ⟨q,rfl,n,b9⟩;obtain⟨i,sk,rfl,-,-⟩:=n.shape;have d:=D ((b9.block b j.o.2).trans j.o.1))
  | (refine aJ rfl _ (.tmp 6) (.tmp 32) rfl b ⟨aF x00 ⟨qX,qX,qX,(i,sk)⟩ fb⟩ rfl rfl _ _ d.o aj rfl (by simp[aF,ap]) ?_))
 have e:But b m (m.setRow b ⟨aF x00 ⟨qX,qX,qX,(i,sk)⟩ fb⟩):=But.row _;have p:=j.o.2;refine au (v:=.tuple #[.agg ⟨aF x00 ⟨qX,qX,qX,(i,sk)⟩ fb⟩,.int .i64 0]) (results_cell_tmp results20 _ _ b 55 ⟨aF x00 ⟨qX,qX,qX,(i,sk)⟩ fb⟩ (0,0) _ rfl (aO _ _ _ _ _ _ d.o) underlying55 rfl aj) rfl ?_;refine⟨_,rfl,⟨bB.nil _ _,bB.nil _ _,bB.nil _ _,?_⟩,?_⟩
 ·exact(n.but e A).to g.o.size
 ·exact(g.o.trans (b9.mono g.o.size)).trans (e.below (aa g.o.size b9.size) (by have:=l.o;omega))
def Ot(w:V):ar M 26 #[.slice J 0 0] w (rO w 1 5 0 (bX [])):=zP w J [] 0 (Sl.nil _ _) aC
def Lz(w:V)(d:Nat)(h:w.heap[d]?=I (.cells dk0 81 (0,0))):ar M 58 #[.pointer (I ⟨d,0,J⟩)] w (rO w 1 5 0 (bX [])):=by
 obtain⟨c0,c1,c2,b,c,e,f,g⟩:=iY h;clear h
 go_enter func58,ntmps58
 go_wp2_with ((go_at_call 26;refine(Ot w).mono ?_);rintro en i ⟨v,rfl,a,b9⟩)
 go_ret;exact⟨_,rfl,a,b9⟩
def C7(w:V)(d:Nat)(a:List UInt8)(h i j k l m n:Z)(b:Option aB)(c:Nat)(e:w.heap[d]?=I (.cells #[h,i,j,k,.slice b a.length c,l,m,n] 81 (0,0)))(f:Sl w 1 (.slice b a.length c) a.length (bX a))(g:a.length<100000000):
  ar M 10 #[.pointer (I ⟨d,0,J⟩)] w (rO w 1 5 a.length (bX a)):=by
 have r:w.cell? ⟨d,4,J⟩=I (.slice b a.length c):=by simp only[an,e];rfl
 have o:=D f;have p:=D g;clear e f g
 go_enter func10,ntmps10
 go_wp2_with ((go_at_call 26;refine(zP w b a c o.o p.o).mono ?_);rintro en s ⟨v,rfl,q,b9⟩)
 go_ret;exact⟨_,rfl,q,b9⟩
def LA(w:V)(d:Nat)(h:w.heap[d]?=I (.cells dk0 81 (0,0))):ar M 56 #[.pointer (I ⟨d,0,J⟩)] w (fun en w'=>en=.returned (.bool U)∧w'=w):=by
 obtain⟨c0,c1,c2,a,b,c,e,f⟩:=iY h;clear h
 go_enter func56,ntmps56
 go_wp2;go_ret;exact⟨rfl,rfl⟩
def Ou(w:V)(a:Option aB)(c:Nat):ar M 60 #[.slice a 0 c] w (fun en w'=>en=.returned (.tuple #[.slice J 0 0,.int .i64 0])∧w'=w):=by
 obtain⟨d,b⟩:=qS
 have g:=D b;clear b
 go_enter func60,ntmps60
 go_wp2
 go_loopw[2,3] (fun h i wr=>h=.slice J 0 0∧i=.int .i64 0∧wr=w) (fun _ _ _=>0)
 case atStart=>exact⟨rfl,rfl,rfl⟩
 case round=>
  obtain⟨rfl,rfl,rfl⟩:=hrel;go_wp2_with ((with_reducible refine aT 9 ?_);refine nu rfl _ _ 33 rfl 5 d 1 underlying33 g.o.1 g.o.2 a 0 c 0 (bX []) rfl rfl (G _) (aw _) (fun j u k=>by cases k) rfl ?_;intro a2 e f;clear e f)
  go_ret2
  exact⟨rfl,rfl⟩
def Jt(w:V)(a b c e:Nat)(u:FrameMode)(h:w.heap[e]?=I (.cells #[.int .i64 0] 25 (0,0))):
  CallsD M 57 #[.pointer (I ⟨e,0,J⟩),.pointer (I ⟨a,0,J⟩),.pointer (I ⟨b,0,J⟩),.pointer (I ⟨c,0,J⟩)] u w (fun d f w'=>f=u∧d=.returned (.tuple #[])∧w'=w):=by
 have c0:w.cell? ⟨e,0,J⟩=I (.int .i64 0):=by simp only[an,h];rfl
 clear h
 go_enter_d func57,ntmps57
 go_wp2
 go_end0
 exact⟨rfl,rfl⟩
def rU{P:Program}{fn:Func}{b c:Array Z}{R:de→V→Prop}(a:∀w,(results fn b).run P w=(results fn c).run P w):∀(ds:List Deferred)(u:FrameMode)(w:V),Leaves P fn b R ds u w→Leaves P fn c R ds u w
 | [],.returning,w,⟨v,g,i⟩=>⟨v,by rw[←a];exact g,i⟩
 | [],.panicking _,_,h=>h
 | [],.run,_,h=>h
 | d::ds,u,w,⟨j,k,cap,f,args,l,m,h⟩=>⟨j,k,cap,f,args,l,m,h.mono (fun e n o=>match e with
  | .returned _=>rU a ds _ _
  | .panicked _=>rU a ds _ _
  | .outgrown=>id)⟩
def nM{R:de→V→Prop}{d:Nat}(b:(d != 2&&d != 3&&d != 4&&d != 5)=O){c:List PanicEntry}{a:Act}{w:V}{v:Z}(h:bodyPostD M f21 R (.panic c) (a.put (I d) v) w):bodyPostD M f21 R (.panic c) a w:=by
 simp only[Bool.and_eq_true,bne_iff_ne]at b;refine rU (fun w=>?_) _ _ _ h;have e:∀i:Nat,d≠i→(a.tmps.setIfInBounds d v)[i]?=a.tmps[i]? :=fun i hi=>by rw[Array.getElem?_setIfInBounds];simp[hi]
 simp[results,results21,Act.put,e 2 b.1.1.1,e 3 b.1.1.2,e 4 b.1.2,e 5 b.2]
structure J4(w wr:V)(q d:Nat):Prop where
 k0:wr.heap[q]?=I (.cells #[.pointer J] 84 (0,0))
 k1:wr.heap[q+1]?=I (.cells #[.slice J 0 0] 33 (0,0))
 k2:wr.heap[q+2]?=I (.cells #[.slice J 0 0] 22 (0,0))
 k3:wr.heap[q+3]?=I (.cells #[.int .i64 0] 25 (0,0))
 dk:wr.heap[d]?=I (.cells dk0 81 (0,0))
 bl:ae q w wr
 dq:d<q
def J4.keep{w wr b:V}{q d C:Nat}(h:J4 w wr q d)(a:ae C wr b)(e:wr.heap.size≤C):J4 w b q d:=by
 have f:=(br h.k3).1;have c:=h.dq;exact⟨(a.block _ A).trans h.k0,(a.block _ A).trans h.k1,(a.block _ A).trans h.k2,(a.block _ A).trans h.k3,(a.block _ A).trans h.dk,h.bl.trans (a.mono A),c⟩
def J4.put{w wr:V}{q d:Nat}(h:J4 w wr q d):J4 w (wr.setCell ⟨q+1+1,0,J⟩ (.slice J 0 0)) q d:=by
 have c:=(br h.k3).1;have b:=h.dq;have a:But (q+2) wr (wr.setCell ⟨q+1+1,0,J⟩ (.slice J 0 0)):=But.set _ _ _ _;exact⟨(a.block _ A A).trans h.k0,(a.block _ A A).trans h.k1,by simp[aV,aR,h.k2],(a.block _ A A).trans h.k3,(a.block _ A A).trans h.dk,h.bl.trans (a.below A A),b⟩
def LB(w:V)(d:Nat)(h:w.heap[d]?=I (.cells dk0 81 (0,0))):
  ar M 21 #[.pointer (I ⟨d,0,J⟩)] w (fun T w'=>∃j,T=.returned (.tuple #[.pointer (I ⟨j,0,J⟩),.slice J 0 0,.slice J 0 0,.int .i64 0])∧w'.heap[j]?=I (.cells #[.pointer (I ⟨d,0,J⟩),.int .i64 0] 155 (0,0))∧w.heap.size≤j∧ae w.heap.size w w'):=by
 have a0:∀(fn:Fn)(first cap:Array Z)(w:V),(Instr.makeFunc fn first cap).run M w=.ok (.func fn first cap) w:=fun _ _ _ _=>rfl
 obtain⟨q,B⟩:∃q,w.heap.size=q:=⟨_,rfl⟩;obtain⟨W,C⟩:∃W,(((w.alloc (.cells #[.pointer J] 84)).alloc (.cells #[.slice J 0 0] 33)).alloc (.cells #[.slice J 0 0] 22)).alloc (.cells #[.int .i64 0] 25)=W:=⟨_,rfl⟩;have g:ae w.heap.size w W:=by rw[←C];exact((((aD _ _).alloc (G _) _).alloc bW _).alloc kc _).alloc kc _
 have a:Hid (J4 w W q d):=D (by
  have F:=(br h).1;have e0:W.heap=(((w.heap.push (.cells #[.pointer J] 84)).push (.cells #[.slice J 0 0] 33)).push (.cells #[.slice J 0 0] 22)).push (.cells #[.int .i64 0] 25):=by rw[←C];rfl
  refine⟨?_,?_,?_,?_,(g.block _ F).trans h,by rw[←B];exact g,by omega⟩
  all_goals
   rw[e0,←B];simp only[Array.getElem?_push,Array.size_push]
   repeat (first | rw[if_pos A] | rw[if_neg A])
   simp)
 have X:=D C;have H:=D B;clear h C B g
 go_enter_defers func21,ntmps21
 go_upto_region 1 with fail
 rw[X.o,H.o];clear X;go_upto_region 4 with((go_at_call 56;refine(LA W d a.o.dk).mono ?_);rintro en w9 ⟨rfl,c⟩;rw[c];clear c)
 go_upto_region 5 with((go_at_call 58;refine(Lz W d a.o.dk).mono ?_);rintro en w2 ⟨K,rfl,o2,b2⟩;obtain⟨a2,b0,rfl,-,-⟩:=bY o2;have a:=D (a.o.keep b2 (G _));clear o2 b2)
 go_upto_region 10 with((go_at_call 10;refine(C7 w2 d [] _ _ _ _ _ _ _ J 0 a.o.dk (Sl.nil _ _) aC).mono ?_);rintro en u ⟨L,rfl,o3,b3⟩;obtain⟨a3,N,rfl,-,-⟩:=bY o3;have a:=D (a.o.keep b3 (G _));clear o3 b3)
 have c2:u.cell? ⟨q+1+1,0,J⟩=I (.slice J 0 0):=by simp only[an,show u.heap[q+1+1]?=_ from a.o.k2];rfl
 have f2:u.frozen? ⟨q+1+1,0,J⟩=U:=aq a.o.k2 0;go_upto_region 14 with((go_at_call 60;refine(Ou u a3 N).mono ?_);rintro en w9 ⟨rfl,c⟩;rw[c];clear c)
 obtain⟨s,n⟩:∃s,u.setCell ⟨q+1+1,0,J⟩ (.slice J 0 0)=s:=⟨_,rfl⟩;have a:Hid (J4 w s q d):=D (by rw[←n];exact a.o.put);rw[n];clear n;obtain⟨k,o⟩:∃k,s.drew=k:=⟨_,rfl⟩;have a:Hid (J4 w k q d):=D (by rw[←o];exact a.o.keep ((aD s.heap.size s).drew) (G _));clear c2 f2;have m:k.cell? ⟨q+1,0,J⟩=I (.slice J 0 0)∧k.cell? ⟨q+1+1,0,J⟩=I (.slice J 0 0)∧k.cell? ⟨q+1+1+1,0,J⟩=I (.int .i64 0):=⟨by simp only[an,a.o.k1];rfl,by simp only[an,show k.heap[q+1+1]?=_ from a.o.k2];rfl,by simp only[an,show k.heap[q+1+1+1]?=_ from a.o.k3];rfl⟩;refine bT 11 (fun w'=>w'.cell? ⟨q+1,0,J⟩=I (.slice J 0 0)∧w'.cell? ⟨q+1+1,0,J⟩=I (.slice J 0 0)∧w'.cell? ⟨q+1+1+1,0,J⟩=I (.int .i64 0)) aj ?_;rw[o];clear o;refine nK (i:=0) (v:=.pointer (I ⟨d,0,J⟩)) rfl aj aj aj aC (fun _ _ _ c=>nM aC c) (.inl ⟨rfl,fun w' _=>?_⟩) m ?_
 ·go_simp
 refine oz [2,3,4,8,9,10,11] (i:=1) (v:=.slice J 0 0) rfl aj aj aj aj aj (fun _ _ _ c=>nM aC c) (.inl ⟨rfl,fun w' r=>?_⟩) m ?_
 ·obtain⟨c1,c2,t⟩:=r
  go_simp
 refine nK (i:=2) (v:=.int .i64 0) rfl aj aj aj aC (fun _ _ _ c=>nM aC c) (.inl ⟨rfl,fun w' _=>?_⟩) m ?_
 ·go_simp
 refine nK (i:=3) (v:=.agg #[.pointer (I ⟨d,0,J⟩),.int .i64 0]) rfl aj aj aj aC (fun _ _ _ c=>nM aC c) (.inl ⟨rfl,fun w' _=>?_⟩) m ?_
 ·go_simp
 refine oz [9,10,11] (i:=5) (v:=.slice J 0 0) rfl aj aj aj aj aj (fun _ _ _ c=>nM aC c) (.inl ⟨rfl,fun w' r=>?_⟩) m ?_
 ·obtain⟨c1,c2,t⟩:=r
  go_simp
 refine oz [10,11] (i:=6) (v:=.slice J 0 0) rfl aj aj aj aj aj (fun _ _ _ c=>nM aC c) (.inl ⟨rfl,fun w' r=>?_⟩) m ?_
 ·obtain⟨c1,c2,t⟩:=r
  go_simp
 refine oz [11] (i:=7) (v:=.int .i64 0) rfl aj aj aj aj aj (fun _ _ _ c=>nM aC c) (.inl ⟨rfl,fun w' r=>?_⟩) m ?_
 ·obtain⟨c1,c2,t⟩:=r
  go_simp
 refine dK 4 ?_;go_simp;obtain⟨j,E⟩:∃j,k.heap.size=j:=⟨_,rfl⟩;obtain⟨b,l⟩:∃b,k.alloc (.cells #[.pointer (I ⟨d,0,J⟩),.int .i64 0] 155)=b:=⟨_,rfl⟩;have g:ae k.heap.size k b:=by rw[←l];exact(aD _ _).alloc (G _) _
 have P:Hid (b.heap[j]?=I (.cells #[.pointer (I ⟨d,0,J⟩),.int .i64 0] 155 (0,0))∧q+4≤j):=D ⟨by rw[←l,←E];exact al _ _,by rw[←E];exact(br a.o.k3).1⟩;have a:=D (a.o.keep g (G _));rw[l,E];clear l E g m;have c0:b.cell? ⟨q,0,J⟩=I (.pointer J):=by simp only[an,a.o.k0];rfl
 have c1:b.cell? ⟨q+1,0,J⟩=I (.slice J 0 0):=by simp only[an,a.o.k1];rfl
 have c2:b.cell? ⟨q+1+1,0,J⟩=I (.slice J 0 0):=by simp only[an,show b.heap[q+1+1]?=_ from a.o.k2];rfl
 have t:b.cell? ⟨q+1+1+1,0,J⟩=I (.int .i64 0):=by simp only[an,show b.heap[q+1+1+1]?=_ from a.o.k3];rfl
 have f0:b.frozen? ⟨q,0,J⟩=U:=aq a.o.k0 0;have f1:b.frozen? ⟨q+1,0,J⟩=U:=aq a.o.k1 0;have f2:b.frozen? ⟨q+1+1,0,J⟩=U:=aq a.o.k2 0;have f3:b.frozen? ⟨q+1+1+1,0,J⟩=U:=aq a.o.k3 0;refine⟨⟨c1,c2,t⟩,?_⟩;refine dK 8 ?_;go_simp;refine dK 9 ?_;go_simp;refine dK 10 ?_;go_simp;refine dK 11 ?_;go_simp;refine jj ?_;go_wp2;have v0:((((b.setCell ⟨q,0,J⟩ (.pointer (I ⟨j,0,J⟩))).setCell ⟨q+1,0,J⟩ (.slice J 0 0)).setCell ⟨q+1+1,0,J⟩ (.slice J 0 0)).setCell ⟨q+1+1+1,0,J⟩ (.int .i64 0)).cell? ⟨q,0,J⟩=I (.pointer (I ⟨j,0,J⟩)):=by go_simp
 have v1:((((b.setCell ⟨q,0,J⟩ (.pointer (I ⟨j,0,J⟩))).setCell ⟨q+1,0,J⟩ (.slice J 0 0)).setCell ⟨q+1+1,0,J⟩ (.slice J 0 0)).setCell ⟨q+1+1+1,0,J⟩ (.int .i64 0)).cell? ⟨q+1,0,J⟩=I (.slice J 0 0):=by go_simp
 have K:((((b.setCell ⟨q,0,J⟩ (.pointer (I ⟨j,0,J⟩))).setCell ⟨q+1,0,J⟩ (.slice J 0 0)).setCell ⟨q+1+1,0,J⟩ (.slice J 0 0)).setCell ⟨q+1+1+1,0,J⟩ (.int .i64 0)).cell? ⟨q+1+1,0,J⟩=I (.slice J 0 0):=by go_simp
 have L:((((b.setCell ⟨q,0,J⟩ (.pointer (I ⟨j,0,J⟩))).setCell ⟨q+1,0,J⟩ (.slice J 0 0)).setCell ⟨q+1+1,0,J⟩ (.slice J 0 0)).setCell ⟨q+1+1+1,0,J⟩ (.int .i64 0)).cell? ⟨q+1+1+1,0,J⟩=I (.int .i64 0):=by go_simp
 have x:((((b.setCell ⟨q,0,J⟩ (.pointer (I ⟨j,0,J⟩))).setCell ⟨q+1,0,J⟩ (.slice J 0 0)).setCell ⟨q+1+1,0,J⟩ (.slice J 0 0)).setCell ⟨q+1+1+1,0,J⟩ (.int .i64 0)).heap[q+1+1+1]?=I (.cells #[.int .i64 0] 25 (0,0)):=by
  have e:∀(w:V)(p:aB)(v:Z),p.block≠q+1+1+1→(w.setCell p v).heap[q+1+1+1]?=w.heap[q+1+1+1]? :=fun w p v Q=>bC _ _ _ _ (fun h=>Q h.symm)
  have h3:(((b.setCell ⟨q,0,J⟩ (.pointer (I ⟨j,0,J⟩))).setCell ⟨q+1,0,J⟩ (.slice J 0 0)).setCell ⟨q+1+1,0,J⟩ (.slice J 0 0)).heap[q+1+1+1]?=I (.cells #[.int .i64 0] 25 (0,0)):=by
   rw[e _ _ _ (by show q+1+1≠_;omega),e _ _ _ (by show q+1≠_;omega),e _ _ _ (by show q≠_;omega)];exact a.o.k3
  generalize (((b.setCell ⟨q,0,J⟩ (.pointer (I ⟨j,0,J⟩))).setCell ⟨q+1,0,J⟩ (.slice J 0 0)).setCell ⟨q+1+1,0,J⟩ (.slice J 0 0))=d0 at h3⊢;simp[aV,aR,h3]
 obtain⟨g0,y⟩:∃g0,((((b.setCell ⟨q,0,J⟩ (.pointer (I ⟨j,0,J⟩))).setCell ⟨q+1,0,J⟩ (.slice J 0 0)).setCell ⟨q+1+1,0,J⟩ (.slice J 0 0)).setCell ⟨q+1+1+1,0,J⟩ (.int .i64 0))=g0:=⟨_,rfl⟩;rw[y]at v0 v1 K L x
 have R:g0.heap[j]?=I (.cells #[.pointer (I ⟨d,0,J⟩),.int .i64 0] 155 (0,0)):=by
  have:=P.o.2;rw[←y,bC _ _ _ _ (by show j≠q+1+1+1;omega),bC _ _ _ _ (by show j≠q+1+1;omega),bC _ _ _ _ (by show j≠q+1;omega),bC _ _ _ _ (by show j≠q;omega)];exact P.o.1
 have S:ae q w g0:=by
  rw[←y];exact(((a.o.bl.setCell (by show q≤q;omega) _).setCell (by show q≤q+1;omega) _).setCell (by show q≤q+1+1;omega) _).setCell (by show q≤q+1+1+1;omega) _
 rw[y];clear y c0 c1 c2 t f0 f1 f2 f3;refine leaves_cons (f:= 57) (args:= #[.pointer (I ⟨q+1+1+1,0,J⟩),.pointer (I ⟨q,0,J⟩),.pointer (I ⟨q+1,0,J⟩),.pointer (I ⟨q+1+1,0,J⟩)]) bW kN ?_;refine(Jt g0 q (q+1) (q+1+1) (q+1+1+1) .returning x).mono ?_;rintro T u' w9 ⟨rfl,rfl,z⟩;rw[z];clear z;refine⟨.tuple #[.pointer (I ⟨j,0,J⟩),.slice J 0 0,.slice J 0 0,.int .i64 0],?_,j,rfl,R,by have:=P.o.2;have:=H.o;omega,by rw[H.o];exact S⟩;simp[results,results21,go_sem,v0,v1,K,L]
def LC{w w':V}{g:Nat}(o:Nat)(h:w'.heap[g]?=w.heap[g]?):w'.cell? ⟨g,o,J⟩=w.cell? ⟨g,o,J⟩:=by simp only[an,h]
def LD(w:V)(B:Nat)(z:dY)(c:eo)(N:Nat)(u y C cl v k n t:Int)(ky tx:List UInt8)(sl:Z)(h:bB w B z c)(hB:B≤w.heap.size)(hf:c.ok N)(hN:N<90000)(m0:ky.length≤40)(n0:tx.length≤40):
  ar M 166 #[.agg ⟨z.l c⟩,.agg (pv u y C cl v k ky tx n t sl)] w (Jh w B (N+1)):=by
 obtain⟨⟨va,vc⟩,⟨ra,rc⟩,⟨ea,ec⟩,⟨ga,gc⟩,⟨sa,sc⟩,⟨ba,P⟩⟩:=z;simp only[dY.l];obtain⟨b,hb⟩:∃b,w.heap.size=b:=⟨_,rfl⟩;obtain⟨W,hW⟩:∃W,((w.alloc (.cells (di va c.v.length vc ra c.r.length rc ea c.e.length ec ga c.g.length gc sa c.s.length sc ba c.b.length P) 47)).alloc (.cells (pv u y C cl v k ky tx n t sl) 75)).alloc (.cells jR 47)=W:=⟨_,rfl⟩;have j:Hid (Three w W B b (di va c.v.length vc ra c.r.length rc ea c.e.length ec ga c.g.length gc sa c.s.length sc ba c.b.length P) (pv u y C cl v k ky tx n t sl) jR 47 75 47):=D (by rw[←hW,←hb];exact Three.mk' _ _ hB _ _ _ _ _ _);have K:=D (h.keep (by rw[←hW];exact rT w _ _ _:ae w.heap.size w W) (G _));have E0:Hid (B≤b):=D (by rw[←hb];exact hB);have HF:=D hf;have HN:=D hN;have F0:=D m0;have p0:=D n0;have HW:=D hW;have HE:=D hb;clear h hB hf hN m0 n0 hW hb
 go_enter func166,ntmps166
 go_upto_region 1 with fail
 rw[HW.o,HE.o];clear HW;obtain⟨o0,o1,o2,o3,o4,o5,o6,o7,o8,o9,s⟩:=bL j.o.k1;go_upto_region 2 with fail
 obtain⟨p,hp⟩:∃p,W.heap.size=p:=⟨_,rfl⟩;obtain⟨H0,hV⟩:∃H0,W.alloc (.cells (F4 n tx v u y C) 210)=H0:=⟨_,rfl⟩;have i0:ae W.heap.size W H0:=by rw[←hV];exact(aD _ _).alloc (G _) _
 have HQ:Hid (H0.heap[p]?=I (.cells (F4 n tx v u y C) 210 (0,0))∧b+3≤p∧p<H0.heap.size):=D ⟨by rw[←hV,←hp];exact al W _,by rw[←hp];exact j.o.sz,by rw[←hV,←hp];simp⟩;have j:=D (j.o.keep i0 j.o.sz);have K:=D (K.o.keep i0 (G _));rw[hV,hp];clear hV hp i0 o0 o1 o2 o3 o4 o5 o6 o7 o8 o9 s;obtain⟨b0,b1,b2,b3,b4,b5⟩:=ah j.o.k0;obtain⟨o0,o1,o2,o3,o4,o5,o6,o7,o8,o9,s⟩:=bL j.o.k1;go_upto_region 3 with((go_at_call 239;refine(Oe _ B ⟨(va,vc),(ra,rc),(ea,ec),(ga,gc),(sa,sc),(ba,P)⟩ c n K.o (HF.o.few (by have:=HN.o;omega))).mono ?_);rintro en m ⟨i,q,rfl,h9,b9⟩;have H9:=D h9.o;have B9:=D b9.o;clear h9 b9)
 have j:=D (j.o.keep B9.o (by have:=j.o.sz;omega));have K:=D (K.o.keep B9.o (G _));have HQ:=D (⟨(B9.o.block p HQ.o.2.2).trans HQ.o.1,HQ.o.2.1,ac HQ.o.2.2 B9.o.size⟩:_∧_∧_);clear b0 b1 b2 b3 b4 b5 o0 o1 o2 o3 o4 o5 o6 o7 o8 o9 s;obtain⟨b0,b1,b2,b3,b4,b5⟩:=ah j.o.k0;obtain⟨o0,o1,o2,o3,o4,o5,o6,o7,o8,o9,s⟩:=bL j.o.k1;obtain⟨q0,q1,q2,q3,q4,q5⟩:=ah HQ.o.1
 cases q with
 | false=>
  have HI:=D H9.o.1;have HO:Hid (eV.own (m.alloc (.cells (F4 n tx v u y C) 210)) B (.slice ba c.b.length P) c.b):=D (K.o.b.keep ((aD _ _).alloc (G _) _) (G _));have A0:Hid ((.slice ba c.b.length P:Z).ownBlock≠I m.heap.size):=D (fun e=>nn _ (jz K.o.b _ e).2);have f4:=aq j.o.k0 5
  go_upto_region 7 with(
   (go_at_call 240;refine(CX _ c.b.length i (ca eV.f c.b) (eV.f ⟨n,tx,v,(u,y,C)⟩) _ B m.heap.size HO.o (jr eV.one _) (eV.one _) rfl (by have:=HF.o.nb;have:=HN.o;omega) HI.o (by have:=j.o.lo;have:=j.o.sz;simp;omega) (al m _) A0.o).mono ?_)
   rintro en f ⟨v',rfl,s,s0,-⟩;obtain⟨a',k',rfl,-,-⟩:=bY s;have t0:=D s0;have B0:=D s;clear s0 s
   have R:eV.own f B (.slice a' (putAt c.b i ⟨n,tx,v,(u,y,C)⟩).length k') (putAt c.b i ⟨n,tx,v,(u,y,C)⟩):=by
    have h1:=mS eV c.b i ⟨n,tx,v,(u,y,C)⟩;have h2:=B0.o;show jc _ _ _ _ _ (putAt c.b i ⟨n,tx,v,(u,y,C)⟩).length _;rw[fO _ _ _ HI.o,←h1];exact h2
   have j0:bB (m.alloc (.cells (F4 n tx v u y C) 210)) B ⟨(va,vc),(ra,rc),(ea,ec),(ga,gc),(sa,sc),(ba,P)⟩ c:=K.o.keep ((aD _ _).alloc (G _) _) (G _);have S:=bB.MW (a:=a') (k:=k') j0 t0.o R;have T:=(j.o.keep ((aD m.heap.size m).alloc (G _) _) j.o.sz).row j0.b t0.o aC aC aC;have d:=D (T.put 5 (.slice a' (c.b.length+1) k'));have L:=D ((⟨S,_,T.k0⟩:g_ _ _ b _ _).put 5 (.slice a' (c.b.length+1) k')).c;obtain⟨b0,b1,b2,b3,b4,b5⟩:=ah T.k0;have f4:=aq T.k0 5
   clear R j0 S T)
  obtain⟨W2,F⟩:∃W2,f.setCell ⟨b,5,J⟩ (.slice a' (c.b.length+1) k')=W2:=⟨_,rfl⟩;rw[F]at d L;rw[F];clear F b0 b1 b2 b3 b4 b5 o0 o1 o2 o3 o4 o5 o6 o7 o8 o9 s f4;obtain⟨b0,b1,b2,b3,b4,b5⟩:=ah d.o.k0;obtain⟨r0,r1,r2,r3,r4,r5⟩:=ah d.o.k2;have f0:=aq d.o.k2 0;have f1:=aq d.o.k2 1;have f2:=aq d.o.k2 2;have f3:=aq d.o.k2 3;have f4:=aq d.o.k2 4;have f5:=aq d.o.k2 5;go_wp2;refine au (v:=.agg (di va c.v.length vc ra c.r.length rc ea c.e.length ec ga c.g.length gc sa c.s.length sc a' (c.b.length+1) k')) (by simp[results,results166,go_sem, *]) rfl ?_;refine⟨⟨(va,vc),(ra,rc),(ea,ec),(ga,gc),(sa,sc),(a',k')⟩,⟨c.v,c.r,c.e,c.g,c.s,putAt c.b i ⟨n,tx,v,(u,y,C)⟩⟩,by simp[dY.l,fO _ _ _ HI.o],?_,?_,?_⟩
  ·refine g_.c (b:=b+2) ?_
   repeat (apply g_.put)
   exact⟨L.o,_,d.o.k2⟩
  ·exact HF.o.TO (dW _) (by rw[fO _ _ _ HI.o];have:=HF.o.nb;omega) (yx HF.o.tb p0.o)
  ·repeat (refine cu ?_ (by have:=d.o.lo;show B≤b+2;omega) _)
   exact d.o.bl
 | true=>
  have hi:=H9.o.2 rfl;obtain⟨g,v0,C0,w0,E,l⟩:=K.o.b.at i hi;have x0:ba=I ⟨g,0,J⟩:=v0;subst x0;generalize hx:c.b[i]=x at*;have c3:m.cell? ⟨g,i*6+3,J⟩=I (.int .i64 x.d.1):=l 3 _ rfl;have c4:m.cell? ⟨g,i*6+4,J⟩=I (.int .i64 x.d.2.1):=l 4 _ rfl;have c5:m.cell? ⟨g,i*6+5,J⟩=I (.int .i64 x.d.2.2):=l 5 _ rfl;have y0:(i:Int)<c.b.length:=A
  have HX:=D hx;have HI:=D hi;have D0:=D w0;clear l E v0 hx w0;go_upto_region 5 with fail
  refine bT 8 (fun w'=>w'.heap[b]?=m.heap[b]? ∧w'.heap[b+1]?=m.heap[b+1]? ∧w'.heap[g]?=m.heap[g]?) aj ?_;obtain⟨W1,h0⟩:∃W1,m.drew=W1:=⟨_,rfl⟩;have z0:Hid (ae m.heap.size m W1):=D (by rw[←h0];exact(aD _ _).drew);have Q:W1.heap[b]?=m.heap[b]? ∧W1.heap[b+1]?=m.heap[b+1]? ∧W1.heap[g]?=m.heap[g]? :=by rw[←h0];exact⟨rfl,rfl,rfl⟩
  rw[h0];clear h0;refine stP 0 (.pointer (I ⟨b+1,0,J⟩)) Q ?_;refine stP 2 (.pointer (I ⟨b,5,J⟩)) Q ?_;refine stP 4 (.int .i64 i) Q ?_;refine lT 1 (.agg #[.int .i64 u,.int .i64 y,.int .i64 C]) rfl rfl (.inl ⟨rfl,fun w' hw=>?_⟩) Q ?_
  ·have hh:=hw.2.1.trans j.o.k1
   obtain⟨a0,a1,a2,a3,a4,a5,a6,a7,a8,a9,G0⟩:=bL hh;go_simp
  obtain⟨e0,e1,e2,e3,e4,e5⟩:=ah (Q.1.trans j.o.k0);refine dK 3 ?_;go_simp
  try refine⟨Q,?_⟩
  clear e0 e1 e2 e3 e4 e5;refine stP 5 (.pointer (I ⟨g,i*6,J⟩)) Q ?_;refine stP 6 (.pointer (I ⟨g,i*6+3,J⟩)) Q ?_;refine lT 7 (.agg #[.int .i64 x.d.1,.int .i64 x.d.2.1,.int .i64 x.d.2.2]) rfl rfl (.inl ⟨rfl,fun w' hw=>?_⟩) Q ?_
  ·have hh:=fun o=>LC o hw.2.2
   have a3:=(hh _).trans c3;have a4:=(hh _).trans c4;have a5:=(hh _).trans c5;go_simp
  refine f_ 8 ?_;go_simp;refine(zM _ _ _ _ _ _ _).mono ?_;rintro en f ⟨⟨r,rfl⟩,b10⟩;have H:=z0.o.trans (b10.mono z0.o.size);have X:=D H
  have Q:f.heap[b]?=m.heap[b]? ∧f.heap[b+1]?=m.heap[b+1]? ∧f.heap[g]?=m.heap[g]? :=by
   have:=j.o.sz;exact⟨H.block _ A,H.block _ A,H.block _ D0.o⟩
  clear b10 H;first | refine⟨Q,?_⟩ | refine⟨fun h=>by cases h,?_⟩ | skip
  refine dK 9 ?_;go_simp;refine dK 10 ?_;go_simp;refine jj ?_;clear Q;have j:=D (j.o.keep X.o j.o.sz);have K:=D (K.o.keep X.o (G _));have HQ:=D ((X.o.block p HQ.o.2.2).trans HQ.o.1);clear b0 b1 b2 b3 b4 b5 o0 o1 o2 o3 o4 o5 o6 o7 o8 o9 s q0 q1 q2 q3 q4 q5 c3 c4 c5
  cases hr:decide (r<0)with
  | false=>
   have d:=j;have L:=K;obtain⟨b0,b1,b2,b3,b4,b5⟩:=ah d.o.k0;obtain⟨r0,r1,r2,r3,r4,r5⟩:=ah d.o.k2;have f0:=aq d.o.k2 0;have f1:=aq d.o.k2 1;have f2:=aq d.o.k2 2;have f3:=aq d.o.k2 3;have f4:=aq d.o.k2 4;have f5:=aq d.o.k2 5;go_wp2;refine au (v:=.agg (di va c.v.length vc ra c.r.length rc ea c.e.length ec ga c.g.length gc sa c.s.length sc (I ⟨g,0,J⟩) c.b.length P)) (by simp[results,results166,go_sem, *]) rfl ?_;refine⟨⟨(va,vc),(ra,rc),(ea,ec),(ga,gc),(sa,sc),(I ⟨g,0,J⟩,P)⟩,⟨c.v,c.r,c.e,c.g,c.s,c.b⟩,by simp[dY.l],?_,?_,?_⟩
   ·refine g_.c (b:=b+2) ?_
    repeat (apply g_.put)
    exact⟨L.o,_,d.o.k2⟩
   ·exact HF.o.up (dW _)
   ·repeat (refine cu ?_ (by have:=d.o.lo;show B≤b+2;omega) _)
    exact d.o.bl
  | true=>
   obtain⟨b0,b1,b2,b3,b4,b5⟩:=ah j.o.k0;obtain⟨q0,q1,q2,q3,q4,q5⟩:=ah HQ.o;obtain⟨g',d0,-,-,E,l⟩:=K.o.b.at i HI.o;injection d0 with d0;injection d0 with d0 _;subst d0;have g0:=E (i*6);have g1:=E (i*6+1);have g2:=E (i*6+2);have g3:=E (i*6+3);have g4:=E (i*6+4);have g5:=E (i*6+5);have c0:f.cell? ⟨g,i*6,J⟩=I _:=l 0 _ rfl;have c1:f.cell? ⟨g,i*6+1,J⟩=I _:=l 1 _ rfl;have c2:f.cell? ⟨g,i*6+2,J⟩=I _:=l 2 _ rfl;have c3:f.cell? ⟨g,i*6+3,J⟩=I _:=l 3 _ rfl;have c4:f.cell? ⟨g,i*6+4,J⟩=I _:=l 4 _ rfl;have c5:f.cell? ⟨g,i*6+5,J⟩=I _:=l 5 _ rfl;clear l E;go_upto_region 7 with fail
   obtain⟨W2,F⟩:∃W2,qZ f g (i*6) (eV.f ⟨n,tx,v,(u,y,C)⟩)=W2:=⟨_,rfl⟩
   have R:eV.own W2 B (.slice (I ⟨g,0,J⟩) (c.b.set i ⟨n,tx,v,(u,y,C)⟩).length P) (c.b.set i ⟨n,tx,v,(u,y,C)⟩):=by
    rw[←F];exact EL.own.write K.o.b i HI.o ⟨n,tx,v,(u,y,C)⟩
   have k0:f.grownBy W2 (I g):=by rw[←F];exact qj _ _ _
   have S:=bB.MW (a:=I ⟨g,0,J⟩) (k:=P) K.o k0 R;have d:=D (j.o.row K.o.b k0 aC aC aC);have L:=D S;have l0:=F;simp only[qZ,oy]at l0;rw[l0];clear F l0 R k0 S b0 b1 b2 b3 b4 b5 q0 q1 q2 q3 q4 q5 g0 g1 g2 g3 g4 g5 c0 c1 c2 c3 c4 c5 y0 C0;obtain⟨b0,b1,b2,b3,b4,b5⟩:=ah d.o.k0;obtain⟨r0,r1,r2,r3,r4,r5⟩:=ah d.o.k2;have f0:=aq d.o.k2 0;have f1:=aq d.o.k2 1;have f2:=aq d.o.k2 2;have f3:=aq d.o.k2 3;have f4:=aq d.o.k2 4;have f5:=aq d.o.k2 5;go_wp2;refine au (v:=.agg (di va c.v.length vc ra c.r.length rc ea c.e.length ec ga c.g.length gc sa c.s.length sc (I ⟨g,0,J⟩) c.b.length P)) (by simp[results,results166,go_sem, *]) rfl ?_;refine⟨⟨(va,vc),(ra,rc),(ea,ec),(ga,gc),(sa,sc),(I ⟨g,0,J⟩,P)⟩,⟨c.v,c.r,c.e,c.g,c.s,c.b.set i ⟨n,tx,v,(u,y,C)⟩⟩,by simp[dY.l],?_,?_,?_⟩
   ·refine g_.c (b:=b+2) ?_
    repeat (apply g_.put)
    exact⟨L.o,_,d.o.k2⟩
   ·exact HF.o.TO (dW _) (by rw[eE];have:=HF.o.nb;omega) (tp HF.o.tb p0.o)
   ·repeat (refine cu ?_ (by have:=d.o.lo;show B≤b+2;omega) _)
    exact d.o.bl
def Ov(w:V)(B:Nat)(z:dY)(c:eo)(N:Nat)(j l m cl v k n t:Int)(o tx:List UInt8)(sl:Z)(h:bB w B z c)(hB:B≤w.heap.size)(hf:c.ok N)(hN:N<90000)(a0:o.length≤40)(c0:tx.length≤40):
  ar M 163 #[.agg ⟨z.l c⟩,.agg (pv j l m cl v k o tx n t sl)] w (Jh w B (N+1)):=by
 obtain⟨⟨u,x⟩,⟨y,rc⟩,⟨C,E⟩,⟨F,H⟩,⟨K,sc⟩,⟨L,P⟩⟩:=z;simp only[dY.l];obtain⟨b,hb⟩:∃b,w.heap.size=b:=⟨_,rfl⟩;obtain⟨W,hW⟩:∃W,((w.alloc (.cells (di u c.v.length x y c.r.length rc C c.e.length E F c.g.length H K c.s.length sc L c.b.length P) 47)).alloc (.cells (pv j l m cl v k o tx n t sl) 75)).alloc (.cells jR 47)=W:=⟨_,rfl⟩;have f:Hid (Three w W B b (di u c.v.length x y c.r.length rc C c.e.length E F c.g.length H K c.s.length sc L c.b.length P) (pv j l m cl v k o tx n t sl) jR 47 75 47):=D (by rw[←hW,←hb];exact Three.mk' _ _ hB _ _ _ _ _ _);have r:=D (h.keep (by rw[←hW];exact rT w _ _ _:ae w.heap.size w W) (G _));have p0:Hid (B≤b):=D (by rw[←hb];exact hB);have HF:=D hf;have HN:=D hN;have k0:=D a0;have l0:=D c0;have HW:=D hW;have HE:=D hb;clear h hB hf hN a0 c0 hW hb
 go_enter func163,ntmps163
 go_upto_region 1 with fail
 rw[HW.o,HE.o];clear HW;obtain⟨b0,b1,b2,b3,b4,b5⟩:=ah f.o.k0;obtain⟨o0,o1,o2,o3,o4,o5,o6,o7,o8,o9,g⟩:=bL f.o.k1;go_upto_region 2 with((go_at_call 228;refine(CM _ B ⟨(u,x),(y,rc),(C,E),(F,H),(K,sc),(L,P)⟩ c j l m r.o (HF.o.few (by have:=HN.o;omega))).mono ?_);rintro en w8 ⟨i0,q0,rfl,h8,b8⟩;have B8:=D b8.o;clear h8 b8)
 have f:=D (f.o.keep B8.o (by have:=f.o.sz;omega));have r:=D (r.o.keep B8.o (G _));clear b0 b1 b2 b3 b4 b5 o0 o1 o2 o3 o4 o5 o6 o7 o8 o9 g
 cases q0 with
 | true=>
  have d:=f;have s:=r;obtain⟨b0,b1,b2,b3,b4,b5⟩:=ah d.o.k0;obtain⟨r0,r1,r2,r3,r4,r5⟩:=ah d.o.k2;have f0:=aq d.o.k2 0;have f1:=aq d.o.k2 1;have f2:=aq d.o.k2 2;have f3:=aq d.o.k2 3;have f4:=aq d.o.k2 4;have f5:=aq d.o.k2 5;go_wp2;refine au (v:=.agg (di u c.v.length x y c.r.length rc C c.e.length E F c.g.length H K c.s.length sc L c.b.length P)) (by simp[results,results163,go_sem, *]) rfl ?_;refine⟨⟨(u,x),(y,rc),(C,E),(F,H),(K,sc),(L,P)⟩,⟨c.v,c.r,c.e,c.g,c.s,c.b⟩,by simp[dY.l],?_,?_,?_⟩
  ·refine g_.c (b:=b+2) ?_
   repeat (apply g_.put)
   exact⟨s.o,_,d.o.k2⟩
  ·exact HF.o.up (dW _)
  ·repeat (refine cu ?_ (by have:=d.o.lo;show B≤b+2;omega) _)
   exact d.o.bl
 | false=>
  obtain⟨b0,b1,b2,b3,b4,b5⟩:=ah f.o.k0;have HA:=D (SO f.o.k1);go_upto_region 5 with((go_at_call 229;refine(PZ _ c.e _ _ _ r.o.e.sl (by have:=HF.o.ne;have:=HN.o;omega) HA.o).mono ?_);rintro en Q ⟨i,q,rfl,h9,b9⟩;have H9:=D h9.o;have B9:=D b9.o;clear h9 b9)
  have f:=D (f.o.keep B9.o (by have:=f.o.sz;omega));have r:=D (r.o.keep B9.o (G _));clear b0 b1 b2 b3 b4 b5;obtain⟨b0,b1,b2,b3,b4,b5⟩:=ah f.o.k0;obtain⟨o0,o1,o2,o3,o4,o5,o6,o7,o8,o9,g⟩:=bL f.o.k1;have HI:=D H9.o.1;have HO:Hid (dD.own (Q.alloc (.cells (vR o tx v j l m) 206)) B (.slice C c.e.length E) c.e):=D (r.o.e.keep ((aD _ _).alloc (G _) _) (G _));have m0:Hid ((.slice C c.e.length E:Z).ownBlock≠I Q.heap.size):=D (fun e=>nn _ (jz r.o.e _ e).2);have f4:=aq f.o.k0 2
  go_upto_region 6 with(
   (go_at_call 233;refine(CU _ c.e.length i (ca dD.f c.e) (dD.f ⟨o,tx,v,(j,l,m)⟩) _ B Q.heap.size HO.o (jr dD.one _) (dD.one _) rfl (by have:=HF.o.ne;have:=HN.o;omega) HI.o (by have:=f.o.lo;have:=f.o.sz;simp;omega) (al Q _) m0.o).mono ?_)
   rintro en d0 ⟨v',rfl,g,e0,-⟩;obtain⟨R,S,rfl,-,-⟩:=bY g;have g0:=D e0;have n0:=D g;clear e0 g
   have h0:dD.own d0 B (.slice R (putAt c.e i ⟨o,tx,v,(j,l,m)⟩).length S) (putAt c.e i ⟨o,tx,v,(j,l,m)⟩):=by
    have h1:=mS dD c.e i ⟨o,tx,v,(j,l,m)⟩;have h2:=n0.o;show jc _ _ _ _ _ (putAt c.e i ⟨o,tx,v,(j,l,m)⟩).length _;rw[fO _ _ _ HI.o,←h1];exact h2
   have T:bB (Q.alloc (.cells (vR o tx v j l m) 206)) B ⟨(u,x),(y,rc),(C,E),(F,H),(K,sc),(L,P)⟩ c:=r.o.keep ((aD _ _).alloc (G _) _) (G _);have j0:=bB.G_ (a:=R) (k:=S) T g0.o h0;have p:=(f.o.keep ((aD Q.heap.size Q).alloc (G _) _) f.o.sz).row T.e g0.o aC aC aC;have d:=D (p.put 2 (.slice R (c.e.length+1) S));have s:=D ((⟨j0,_,p.k0⟩:g_ _ _ b _ _).put 2 (.slice R (c.e.length+1) S)).c;obtain⟨b0,b1,b2,b3,b4,b5⟩:=ah p.k0;have f4:=aq p.k0 2
   clear h0 T j0 p)
  obtain⟨W2,X⟩:∃W2,d0.setCell ⟨b,2,J⟩ (.slice R (c.e.length+1) S)=W2:=⟨_,rfl⟩;rw[X]at d s;rw[X];clear X b0 b1 b2 b3 b4 b5 o0 o1 o2 o3 o4 o5 o6 o7 o8 o9 g f4;obtain⟨b0,b1,b2,b3,b4,b5⟩:=ah d.o.k0;obtain⟨r0,r1,r2,r3,r4,r5⟩:=ah d.o.k2;have f0:=aq d.o.k2 0;have f1:=aq d.o.k2 1;have f2:=aq d.o.k2 2;have f3:=aq d.o.k2 3;have f4:=aq d.o.k2 4;have f5:=aq d.o.k2 5;go_wp2;refine au (v:=.agg (di u c.v.length x y c.r.length rc R (c.e.length+1) S F c.g.length H K c.s.length sc L c.b.length P)) (by simp[results,results163,go_sem, *]) rfl ?_;refine⟨⟨(u,x),(y,rc),(R,S),(F,H),(K,sc),(L,P)⟩,⟨c.v,c.r,putAt c.e i ⟨o,tx,v,(j,l,m)⟩,c.g,c.s,c.b⟩,by simp[dY.l,fO _ _ _ HI.o],?_,?_,?_⟩
  ·refine g_.c (b:=b+2) ?_
   repeat (apply g_.put)
   exact⟨s.o,_,d.o.k2⟩
  ·exact HF.o.P6 (dW _) (by rw[fO _ _ _ HI.o];have:=HF.o.ne;omega) (yx HF.o.te ⟨k0.o,l0.o⟩)
  ·repeat (refine cu ?_ (by have:=d.o.lo;show B≤b+2;omega) _)
   exact d.o.bl
def rV{p:Prop}[Decidable p]{a b:Bool}{w:V}:(if p then Result.ok (Bw a) w else Result.ok (Bw b) w)=Result.ok (Bw (if p then a else b)) w:=by split<;>rfl
def lU(w:V)(en:de)(w':V):Prop:=∃q,en=.returned (.bool q)∧ae w.heap.size w w'
def YI(x y:D3):∃q,∀w:V,fz M (dr .neq 202 (.agg (ku x).toArray) (.agg (ku y).toArray)) w=.ok (.bool q) w:=by
 have u3:= underlying3;have a3:= isAgg3;have c:= sizeOf3;have u4:= underlying9;have a4:= isAgg9;have d:= sizeOf9;have a: prog.underlying 202 =I (.struct (prog.fieldsOf 202)):=aj
 have b: prog.stoodInHeld 202 =U:=aj
 obtain⟨e,f,g⟩:=x;obtain⟨h,i,j⟩:=y;simp only[ku];apply kH;intro w;rw[ju,show(10000:Nat)=9999+1 from rfl,dO w 9999 202 _ _ a b];simp only[dB,underlying202];go_simp;simp only[rV];exact rfl
def Qf:GuardAt M 202 (fun x:D3=> .agg (ku x).toArray):=GuardAt.agg _ aj
def YJ(v v':Z)(d i:List D3)(w:V)(h:cc iH.f iH.E w v d)(r:cc iH.f iH.E w v' i):ar M 203 #[v,v'] w (lU w):=by
 obtain⟨ao,cap,rfl,E,W⟩:=Sl.shape h;obtain⟨X,j,rfl,e,F⟩:=Sl.shape r;by_cases f:d.length=i.length
 ·have m:=D f
  rw[←f]at r e⊢;clear f;have H':=D r;clear r
  go_enter func203,ntmps203
  go_wp2
  go_loopw[13] (fun s wr=>∃k:Nat,k≤d.length∧s=.int .i64 k∧ae w.heap.size w wr) (fun s _=>d.length-(bp s).toNat)
  case atStart=>exact⟨0,aw _,rfl,aD _ _⟩
  case round=>
   obtain⟨k,hk,rfl,n⟩:=hrel;by_cases o:k<d.length
   ·have p:k<i.length:=by rw[←m.o];exact o
    obtain⟨b,g,rfl,a0,t⟩:=cc.at h iH.len iH.pos n (G _) k o;obtain⟨z,c,rfl,H,u⟩:=cc.at (cap:=j) (l:=i) (by have K:=H'.o;rw[m.o]at K;exact K) iH.len iH.pos n (G _) k p;generalize d[k]=x at*;generalize i[k]=y at*;have b0:(k:Int)<d.length:=A
    obtain⟨L,N,P⟩:=x;obtain⟨Q,R,S⟩:=y;obtain⟨q,B⟩:= YI ⟨L,N,P⟩ ⟨Q,R,S⟩;have C:=fun op a b w=> Qf op a b ⟨L,N,P⟩ ⟨Q,R,S⟩ w
    have c0:wr.cell? ⟨b,g+k*3,J⟩=I _:=t 0 _ rfl;have d0:wr.cell? ⟨z,c+k*3,J⟩=I _:=u 0 _ rfl;have c1:wr.cell? ⟨b,g+k*3+1,J⟩=I _:=t 1 _ rfl;have d1:wr.cell? ⟨z,c+k*3+1,J⟩=I _:=u 1 _ rfl;have c2:wr.cell? ⟨b,g+k*3+2,J⟩=I _:=t 2 _ rfl;have d2:wr.cell? ⟨z,c+k*3+2,J⟩=I _:=u 2 _ rfl;clear t u;simp only[ku]at B C
    cases q with
    | false=>
     go_wp2_with fail
     go_quiet (fail)
     go_wp2;go_roundw
     case rel=>exact⟨k+1,by omega,by go_num,below_drewN n _⟩
     case measure=>simp[bp];omega
    | true=>
     go_wp2_with fail
     go_quiet (fail)
     go_wp2;go_ret;exact⟨_,rfl,below_drewN n _⟩
   ·have:k=d.length:=A
    subst this;go_wp2;go_ret;exact⟨_,rfl,n⟩
 ·have T:¬ (d.length:Int)=(i.length:Int):=A
  go_enter func203,ntmps203
  go_wp2;go_ret;exact⟨_,rfl,aD _ _⟩
def YK(x y:yp):∃q,∀w:V,fz M (dr .neq 204 (.agg (nw x).toArray) (.agg (nw y).toArray)) w=.ok (.bool q) w:=by
 have u3:= underlying3;have a3:= isAgg3;have e:= sizeOf3;have u4:= underlying9;have a4:= isAgg9;have f:= sizeOf9;have a5:= isAgg73;have g:= sizeOf73;have a:Hid (prog.underlying 73 =I (.struct (prog.fieldsOf 73))):=D aj;have b: prog.stoodInHeld 73 =U:=aj
 have c: prog.underlying 204 =I (.struct (prog.fieldsOf 204)):=aj
 have d: prog.stoodInHeld 204 =U:=aj
 obtain⟨h,i,j,k,l,m,n⟩:=x;obtain⟨o,p,r,s,t,u,v⟩:=y;simp only[nw];apply kH;intro w;rw[ju,show(10000:Nat)=9999+1 from rfl,dO w 9999 204 _ _ c d];simp only[dB,underlying204];go_simp;simp only[rV];exact rfl
def Qg:GuardAt M 204 (fun x:yp=> .agg (nw x).toArray):=GuardAt.agg _ aj
def YL(v v':Z)(e n:List yp)(w:V)(h:cc eJ.f eJ.E w v e)(z:cc eJ.f eJ.E w v' n):ar M 204 #[v,v'] w (lU w):=by
 obtain⟨ao,cap,rfl,E,b0⟩:=Sl.shape h;obtain⟨e0,o,rfl,i,F⟩:=Sl.shape z;by_cases j:e.length=n.length
 ·have p:=D j
  rw[←j]at z i⊢;clear j;have H':=D z;clear z
  go_enter func204,ntmps204
  go_wp2
  go_loopw[13] (fun s wr=>∃k:Nat,k≤e.length∧s=.int .i64 k∧ae w.heap.size w wr) (fun s _=>e.length-(bp s).toNat)
  case atStart=>exact⟨0,aw _,rfl,aD _ _⟩
  case round=>
   obtain⟨k,hk,rfl,r⟩:=hrel;by_cases t:k<e.length
   ·have u:k<n.length:=by rw[←p.o];exact t
    obtain⟨b,d,rfl,f0,f⟩:=cc.at h eJ.len eJ.pos r (G _) k t;obtain⟨m,c,rfl,H,g⟩:=cc.at (cap:=o) (l:=n) (by have K:=H'.o;rw[p.o]at K;exact K) eJ.len eJ.pos r (G _) k u;generalize e[k]=x at*;generalize n[k]=y at*;have g0:(k:Int)<e.length:=A
    obtain⟨L,N,P,Q,R,S,T⟩:=x;obtain⟨W,X,y2,y3,y4,y5,y6⟩:=y;obtain⟨q,B⟩:= YK ⟨L,N,P,Q,R,S,T⟩ ⟨W,X,y2,y3,y4,y5,y6⟩;have C:=fun op a b w=> Qg op a b ⟨L,N,P,Q,R,S,T⟩ ⟨W,X,y2,y3,y4,y5,y6⟩ w
    have c0:wr.cell? ⟨b,d+k*7,J⟩=I _:=f 0 _ rfl;have d0:wr.cell? ⟨m,c+k*7,J⟩=I _:=g 0 _ rfl;have c1:wr.cell? ⟨b,d+k*7+1,J⟩=I _:=f 1 _ rfl;have d1:wr.cell? ⟨m,c+k*7+1,J⟩=I _:=g 1 _ rfl;have c2:wr.cell? ⟨b,d+k*7+2,J⟩=I _:=f 2 _ rfl;have d2:wr.cell? ⟨m,c+k*7+2,J⟩=I _:=g 2 _ rfl;have c3:wr.cell? ⟨b,d+k*7+3,J⟩=I _:=f 3 _ rfl;have d3:wr.cell? ⟨m,c+k*7+3,J⟩=I _:=g 3 _ rfl;have c4:wr.cell? ⟨b,d+k*7+4,J⟩=I _:=f 4 _ rfl;have d4:wr.cell? ⟨m,c+k*7+4,J⟩=I _:=g 4 _ rfl;have c5:wr.cell? ⟨b,d+k*7+5,J⟩=I _:=f 5 _ rfl;have d5:wr.cell? ⟨m,c+k*7+5,J⟩=I _:=g 5 _ rfl;have c6:wr.cell? ⟨b,d+k*7+6,J⟩=I _:=f 6 _ rfl;have d6:wr.cell? ⟨m,c+k*7+6,J⟩=I _:=g 6 _ rfl;clear f g;simp only[nw]at B C
    cases q with
    | false=>
     go_wp2_with fail
     go_quiet (fail)
     go_wp2;go_roundw
     case rel=>exact⟨k+1,by omega,by go_num,below_drewN r _⟩
     case measure=>simp[bp];omega
    | true=>
     go_wp2_with fail
     go_quiet (fail)
     go_wp2;go_ret;exact⟨_,rfl,below_drewN r _⟩
   ·have:k=e.length:=A
    subst this;go_wp2;go_ret;exact⟨_,rfl,r⟩
 ·have a0:¬ (e.length:Int)=(n.length:Int):=A
  go_enter func204,ntmps204
  go_wp2;go_ret;exact⟨_,rfl,aD _ _⟩
def YM(x y:qW):∃q,∀w:V,fz M (dr .neq 206 (.agg (kv x).toArray) (.agg (kv y).toArray)) w=.ok (.bool q) w:=by
 have u3:= underlying3;have a3:= isAgg3;have e:= sizeOf3;have u4:= underlying9;have a4:= isAgg9;have f:= sizeOf9;have a5:= isAgg73;have g:= sizeOf73;have a:Hid (prog.underlying 73 =I (.struct (prog.fieldsOf 73))):=D aj;have b: prog.stoodInHeld 73 =U:=aj
 have c: prog.underlying 206 =I (.struct (prog.fieldsOf 206)):=aj
 have d: prog.stoodInHeld 206 =U:=aj
 obtain⟨h,i,j,k,l,m⟩:=x;obtain⟨n,o,p,r,s,t⟩:=y;simp only[kv];apply kH;intro w;rw[ju,show(10000:Nat)=9999+1 from rfl,dO w 9999 206 _ _ c d];simp only[dB,underlying206];go_simp;simp only[rV];exact rfl
def Qh:GuardAt M 206 (fun x:qW=> .agg (kv x).toArray):=GuardAt.agg _ aj
def YN(v v':Z)(e m:List qW)(w:V)(h:cc dD.f dD.E w v e)(z:cc dD.f dD.E w v' m):ar M 205 #[v,v'] w (lU w):=by
 obtain⟨ao,cap,rfl,E,b0⟩:=Sl.shape h;obtain⟨e0,o,rfl,f,F⟩:=Sl.shape z;by_cases g:e.length=m.length
 ·have p:=D g
  rw[←g]at z f⊢;clear g;have H':=D z;clear z
  go_enter func205,ntmps205
  go_wp2
  go_loopw[13] (fun s wr=>∃k:Nat,k≤e.length∧s=.int .i64 k∧ae w.heap.size w wr) (fun s _=>e.length-(bp s).toNat)
  case atStart=>exact⟨0,aw _,rfl,aD _ _⟩
  case round=>
   obtain⟨k,hk,rfl,r⟩:=hrel;by_cases t:k<e.length
   ·have u:k<m.length:=by rw[←p.o];exact t
    obtain⟨b,d,rfl,f0,i⟩:=cc.at h dD.len dD.pos r (G _) k t;obtain⟨n,c,rfl,H,j⟩:=cc.at (cap:=o) (l:=m) (by have K:=H'.o;rw[p.o]at K;exact K) dD.len dD.pos r (G _) k u;generalize e[k]=x at*;generalize m[k]=y at*;have g0:(k:Int)<e.length:=A
    obtain⟨L,N,P,Q,R,S⟩:=x;obtain⟨T,W,X,y3,y4,y5⟩:=y;obtain⟨q,B⟩:= YM ⟨L,N,P,Q,R,S⟩ ⟨T,W,X,y3,y4,y5⟩;have C:=fun op a b w=> Qh op a b ⟨L,N,P,Q,R,S⟩ ⟨T,W,X,y3,y4,y5⟩ w
    have c0:wr.cell? ⟨b,d+k*6,J⟩=I _:=i 0 _ rfl;have d0:wr.cell? ⟨n,c+k*6,J⟩=I _:=j 0 _ rfl;have c1:wr.cell? ⟨b,d+k*6+1,J⟩=I _:=i 1 _ rfl;have d1:wr.cell? ⟨n,c+k*6+1,J⟩=I _:=j 1 _ rfl;have c2:wr.cell? ⟨b,d+k*6+2,J⟩=I _:=i 2 _ rfl;have d2:wr.cell? ⟨n,c+k*6+2,J⟩=I _:=j 2 _ rfl;have c3:wr.cell? ⟨b,d+k*6+3,J⟩=I _:=i 3 _ rfl;have d3:wr.cell? ⟨n,c+k*6+3,J⟩=I _:=j 3 _ rfl;have c4:wr.cell? ⟨b,d+k*6+4,J⟩=I _:=i 4 _ rfl;have d4:wr.cell? ⟨n,c+k*6+4,J⟩=I _:=j 4 _ rfl;have c5:wr.cell? ⟨b,d+k*6+5,J⟩=I _:=i 5 _ rfl;have d5:wr.cell? ⟨n,c+k*6+5,J⟩=I _:=j 5 _ rfl;clear i j;simp only[kv]at B C
    cases q with
    | false=>
     go_wp2_with fail
     go_quiet (fail)
     go_wp2;go_roundw
     case rel=>exact⟨k+1,by omega,by go_num,below_drewN r _⟩
     case measure=>simp[bp];omega
    | true=>
     go_wp2_with fail
     go_quiet (fail)
     go_wp2;go_ret;exact⟨_,rfl,below_drewN r _⟩
   ·have:k=e.length:=A
    subst this;go_wp2;go_ret;exact⟨_,rfl,r⟩
 ·have a0:¬ (e.length:Int)=(m.length:Int):=A
  go_enter func205,ntmps205
  go_wp2;go_ret;exact⟨_,rfl,aD _ _⟩
def YO(x y:D3):∃q,∀w:V,fz M (dr .neq 73 (.agg (ku x).toArray) (.agg (ku y).toArray)) w=.ok (.bool q) w:=by
 have u3:= underlying3;have a3:= isAgg3;have c:= sizeOf3;have u4:= underlying9;have a4:= isAgg9;have d:= sizeOf9;have a: prog.underlying 73 =I (.struct (prog.fieldsOf 73)):=aj
 have b: prog.stoodInHeld 73 =U:=aj
 obtain⟨e,f,g⟩:=x;obtain⟨h,i,j⟩:=y;simp only[ku];apply kH;intro w;rw[ju,show(10000:Nat)=9999+1 from rfl,dO w 9999 73 _ _ a b];simp only[dB,underlying73];go_simp;simp only[rV];exact rfl
def LF:GuardAt M 73 (fun x:D3=> .agg (ku x).toArray):=GuardAt.agg _ aj
def LG(v v':Z)(d i:List D3)(w:V)(h:cc cn.f cn.E w v d)(r:cc cn.f cn.E w v' i):ar M 206 #[v,v'] w (lU w):=by
 obtain⟨ao,cap,rfl,E,W⟩:=Sl.shape h;obtain⟨X,j,rfl,e,F⟩:=Sl.shape r;by_cases f:d.length=i.length
 ·have m:=D f
  rw[←f]at r e⊢;clear f;have H':=D r;clear r
  go_enter func206,ntmps206
  go_wp2
  go_loopw[13] (fun s wr=>∃k:Nat,k≤d.length∧s=.int .i64 k∧ae w.heap.size w wr) (fun s _=>d.length-(bp s).toNat)
  case atStart=>exact⟨0,aw _,rfl,aD _ _⟩
  case round=>
   obtain⟨k,hk,rfl,n⟩:=hrel;by_cases o:k<d.length
   ·have p:k<i.length:=by rw[←m.o];exact o
    obtain⟨b,g,rfl,a0,t⟩:=cc.at h cn.len cn.pos n (G _) k o;obtain⟨z,c,rfl,H,u⟩:=cc.at (cap:=j) (l:=i) (by have K:=H'.o;rw[m.o]at K;exact K) cn.len cn.pos n (G _) k p;generalize d[k]=x at*;generalize i[k]=y at*;have b0:(k:Int)<d.length:=A
    obtain⟨L,N,P⟩:=x;obtain⟨Q,R,S⟩:=y;obtain⟨q,B⟩:= YO ⟨L,N,P⟩ ⟨Q,R,S⟩;have C:=fun op a b w=> LF op a b ⟨L,N,P⟩ ⟨Q,R,S⟩ w
    have c0:wr.cell? ⟨b,g+k*3,J⟩=I _:=t 0 _ rfl;have d0:wr.cell? ⟨z,c+k*3,J⟩=I _:=u 0 _ rfl;have c1:wr.cell? ⟨b,g+k*3+1,J⟩=I _:=t 1 _ rfl;have d1:wr.cell? ⟨z,c+k*3+1,J⟩=I _:=u 1 _ rfl;have c2:wr.cell? ⟨b,g+k*3+2,J⟩=I _:=t 2 _ rfl;have d2:wr.cell? ⟨z,c+k*3+2,J⟩=I _:=u 2 _ rfl;clear t u;simp only[ku]at B C
    cases q with
    | false=>
     go_wp2_with fail
     go_quiet (fail)
     go_wp2;go_roundw
     case rel=>exact⟨k+1,by omega,by go_num,below_drewN n _⟩
     case measure=>simp[bp];omega
    | true=>
     go_wp2_with fail
     go_quiet (fail)
     go_wp2;go_ret;exact⟨_,rfl,below_drewN n _⟩
   ·have:k=d.length:=A
    subst this;go_wp2;go_ret;exact⟨_,rfl,n⟩
 ·have T:¬ (d.length:Int)=(i.length:Int):=A
  go_enter func206,ntmps206
  go_wp2;go_ret;exact⟨_,rfl,aD _ _⟩
def YP(x y:yq):∃q,∀w:V,fz M (dr .neq 208 (.agg (ox x).toArray) (.agg (ox y).toArray)) w=.ok (.bool q) w:=by
 have u3:= underlying3;have a3:= isAgg3;have c:= sizeOf3;have u4:= underlying9;have a4:= isAgg9;have d:= sizeOf9;have a: prog.underlying 208 =I (.struct (prog.fieldsOf 208)):=aj
 have b: prog.stoodInHeld 208 =U:=aj
 obtain⟨e,f⟩:=x;obtain⟨g,h⟩:=y;simp only[ox];apply kH;intro w;rw[ju,show(10000:Nat)=9999+1 from rfl,dO w 9999 208 _ _ a b];simp only[dB,underlying208];go_simp;simp only[rV];exact rfl
def Qi:GuardAt M 208 (fun x:yq=> .agg (ox x).toArray):=GuardAt.agg _ aj
def YQ(v v':Z)(c g:List yq)(w:V)(h:cc fh.f fh.E w v c)(r:cc fh.f fh.E w v' g):ar M 207 #[v,v'] w (lU w):=by
 obtain⟨ao,cap,rfl,C,S⟩:=Sl.shape h;obtain⟨T,i,rfl,e,E⟩:=Sl.shape r;by_cases f:c.length=g.length
 ·have j:=D f
  rw[←f]at r e⊢;clear f;have W:=D r;clear r
  go_enter func207,ntmps207
  go_wp2
  go_loopw[13] (fun s wr=>∃k:Nat,k≤c.length∧s=.int .i64 k∧ae w.heap.size w wr) (fun s _=>c.length-(bp s).toNat)
  case atStart=>exact⟨0,aw _,rfl,aD _ _⟩
  case round=>
   obtain⟨k,hk,rfl,m⟩:=hrel;by_cases n:k<c.length
   ·have o:k<g.length:=by rw[←j.o];exact n
    obtain⟨b,p,rfl,X,t⟩:=cc.at h fh.len fh.pos m (G _) k n;obtain⟨F,d,rfl,H,u⟩:=cc.at (cap:=i) (l:=g) (by have K:=W.o;rw[j.o]at K;exact K) fh.len fh.pos m (G _) k o;generalize c[k]=x at*;generalize g[k]=y at*;have a0:(k:Int)<c.length:=A
    obtain⟨L,N⟩:=x;obtain⟨P,Q⟩:=y;obtain⟨q,z⟩:= YP ⟨L,N⟩ ⟨P,Q⟩;have B:=fun op a b w=> Qi op a b ⟨L,N⟩ ⟨P,Q⟩ w
    have c0:wr.cell? ⟨b,p+k*2,J⟩=I _:=t 0 _ rfl;have d0:wr.cell? ⟨F,d+k*2,J⟩=I _:=u 0 _ rfl;have c1:wr.cell? ⟨b,p+k*2+1,J⟩=I _:=t 1 _ rfl;have d1:wr.cell? ⟨F,d+k*2+1,J⟩=I _:=u 1 _ rfl;clear t u;simp only[ox]at z B
    cases q with
    | false=>
     go_wp2_with fail
     go_quiet (fail)
     go_wp2;go_roundw
     case rel=>exact⟨k+1,by omega,by go_num,below_drewN m _⟩
     case measure=>simp[bp];omega
    | true=>
     go_wp2_with fail
     go_quiet (fail)
     go_wp2;go_ret;exact⟨_,rfl,below_drewN m _⟩
   ·have:k=c.length:=A
    subst this;go_wp2;go_ret;exact⟨_,rfl,m⟩
 ·have R:¬ (c.length:Int)=(g.length:Int):=A
  go_enter func207,ntmps207
  go_wp2;go_ret;exact⟨_,rfl,aD _ _⟩
def YR(x y:yr):∃q,∀w:V,fz M (dr .neq 210 (.agg (oy x).toArray) (.agg (oy y).toArray)) w=.ok (.bool q) w:=by
 have u3:= underlying3;have a3:= isAgg3;have e:= sizeOf3;have u4:= underlying9;have a4:= isAgg9;have f:= sizeOf9;have a5:= isAgg73;have g:= sizeOf73;have a:Hid (prog.underlying 73 =I (.struct (prog.fieldsOf 73))):=D aj;have b: prog.stoodInHeld 73 =U:=aj
 have c: prog.underlying 210 =I (.struct (prog.fieldsOf 210)):=aj
 have d: prog.stoodInHeld 210 =U:=aj
 obtain⟨h,i,j,k,l,m⟩:=x;obtain⟨n,o,p,r,s,t⟩:=y;simp only[oy];apply kH;intro w;rw[ju,show(10000:Nat)=9999+1 from rfl,dO w 9999 210 _ _ c d];simp only[dB,underlying210];go_simp;simp only[rV];exact rfl
def Qj:GuardAt M 210 (fun x:yr=> .agg (oy x).toArray):=GuardAt.agg _ aj
def YS(v v':Z)(e m:List yr)(w:V)(h:cc eV.f eV.E w v e)(z:cc eV.f eV.E w v' m):ar M 208 #[v,v'] w (lU w):=by
 obtain⟨ao,cap,rfl,E,b0⟩:=Sl.shape h;obtain⟨e0,o,rfl,f,F⟩:=Sl.shape z;by_cases g:e.length=m.length
 ·have p:=D g
  rw[←g]at z f⊢;clear g;have H':=D z;clear z
  go_enter func208,ntmps208
  go_wp2
  go_loopw[13] (fun s wr=>∃k:Nat,k≤e.length∧s=.int .i64 k∧ae w.heap.size w wr) (fun s _=>e.length-(bp s).toNat)
  case atStart=>exact⟨0,aw _,rfl,aD _ _⟩
  case round=>
   obtain⟨k,hk,rfl,r⟩:=hrel;by_cases t:k<e.length
   ·have u:k<m.length:=by rw[←p.o];exact t
    obtain⟨b,d,rfl,f0,i⟩:=cc.at h eV.len eV.pos r (G _) k t;obtain⟨n,c,rfl,H,j⟩:=cc.at (cap:=o) (l:=m) (by have K:=H'.o;rw[p.o]at K;exact K) eV.len eV.pos r (G _) k u;generalize e[k]=x at*;generalize m[k]=y at*;have g0:(k:Int)<e.length:=A
    obtain⟨L,N,P,Q,R,S⟩:=x;obtain⟨T,W,X,y3,y4,y5⟩:=y;obtain⟨q,B⟩:= YR ⟨L,N,P,Q,R,S⟩ ⟨T,W,X,y3,y4,y5⟩;have C:=fun op a b w=> Qj op a b ⟨L,N,P,Q,R,S⟩ ⟨T,W,X,y3,y4,y5⟩ w
    have c0:wr.cell? ⟨b,d+k*6,J⟩=I _:=i 0 _ rfl;have d0:wr.cell? ⟨n,c+k*6,J⟩=I _:=j 0 _ rfl;have c1:wr.cell? ⟨b,d+k*6+1,J⟩=I _:=i 1 _ rfl;have d1:wr.cell? ⟨n,c+k*6+1,J⟩=I _:=j 1 _ rfl;have c2:wr.cell? ⟨b,d+k*6+2,J⟩=I _:=i 2 _ rfl;have d2:wr.cell? ⟨n,c+k*6+2,J⟩=I _:=j 2 _ rfl;have c3:wr.cell? ⟨b,d+k*6+3,J⟩=I _:=i 3 _ rfl;have d3:wr.cell? ⟨n,c+k*6+3,J⟩=I _:=j 3 _ rfl;have c4:wr.cell? ⟨b,d+k*6+4,J⟩=I _:=i 4 _ rfl;have d4:wr.cell? ⟨n,c+k*6+4,J⟩=I _:=j 4 _ rfl;have c5:wr.cell? ⟨b,d+k*6+5,J⟩=I _:=i 5 _ rfl;have d5:wr.cell? ⟨n,c+k*6+5,J⟩=I _:=j 5 _ rfl;clear i j;simp only[oy]at B C
    cases q with
    | false=>
     go_wp2_with fail
     go_quiet (fail)
     go_wp2;go_roundw
     case rel=>exact⟨k+1,by omega,by go_num,below_drewN r _⟩
     case measure=>simp[bp];omega
    | true=>
     go_wp2_with fail
     go_quiet (fail)
     go_wp2;go_ret;exact⟨_,rfl,below_drewN r _⟩
   ·have:k=e.length:=A
    subst this;go_wp2;go_ret;exact⟨_,rfl,r⟩
 ·have a0:¬ (e.length:Int)=(m.length:Int):=A
  go_enter func208,ntmps208
  go_wp2;go_ret;exact⟨_,rfl,aD _ _⟩
def Qk(args:Array Z)(W:V):(callFunc 236 args).run M W=.ok (.enter 236 args) W:=aj
def Tryz.LG(a b c x y z:Int):∃q,∀w:V,fz M (dr .eql 73 (.agg #[.int .i64 a,.int .i64 b,.int .i64 c]) (.agg #[.int .i64 x,.int .i64 y,.int .i64 z])) w=.ok (.bool q) w:=by
 have u3:= underlying3;have a3:= isAgg3;have f:= sizeOf3;have d: prog.underlying 73 =I (.struct (prog.fieldsOf 73)):=aj
 have e: prog.stoodInHeld 73 =U:=aj
 apply kH;intro w;rw[run_eql_struct,show(10000:Nat)=9999+1 from rfl,dO w 9999 73 _ _ d e];simp only[dB,underlying73];go_simp;simp only[rV];exact rfl
def Gu(W:V)(p:Nat)(c d f:Int)(x:qW)(h:W.heap[p]?=I (.cells #[.int .i64 c,.int .i64 d,.int .i64 f] 73 (0,0))):
  ar M 236 #[.agg (kv x).toArray,.pointer (I ⟨p,0,J⟩)] W (fun e l=>(∃q,e=.returned (.bool q))∧ae W.heap.size W l):=by
 obtain⟨c0,c1,c2,-,-,-,m⟩:=aW h;obtain⟨n,o,r,i,j,k⟩:=x;obtain⟨q,s⟩:= Tryz.LG i j k c d f;have g:=fun op a b w=> LF op a b (i,j,k) (c,d,f) w
 simp only[kv,ku]at g⊢;clear h
 go_enter func236,ntmps236
 go_wp2;go_ret;exact⟨⟨_,rfl⟩,(aD _ _).alloc (G _) _⟩
def SQ(v:Z)(l:List qW)(p:Nat)(o s t:Int)(w:V)(h:cc dD.f dD.E w v l)(u:l.length<100000)(y:w.heap[p]?=I (.cells #[.int .i64 o,.int .i64 s,.int .i64 t] 73 (0,0))):
  ar M 286 #[v,.func (.func 236) #[] #[.pointer (I ⟨p,0,J⟩)]] w (fun e w'=>(∃r:Int,e=.returned (.int .i64 r)∧(r= -1∨∃k:Nat,r=k∧k<l.length))∧ae w.heap.size w w'):=by
 obtain⟨ao,cap,rfl,z,hm⟩:=Sl.shape h;have B:=D y;have H:= Qk;have K:=D u;clear y u
 go_enter func286,ntmps286
 go_wp2
 go_loopw[8] (fun j wr=>∃k:Nat,k≤l.length∧j=.int .i64 k∧ae w.heap.size w wr) (fun j _=>l.length-(bp j).toNat)
 case atStart=>exact⟨0,aw _,rfl,aD _ _⟩
 case round=>
  obtain⟨k,L,rfl,f⟩:=hrel;rcases aL k l.length with c | C
  ·obtain⟨b,a,rfl,E,d⟩:=cc.at h dD.len dD.pos f (G _) k c
   have m:=D (Gu wr p o s t l[k] (ft B.o f (br B.o).1));generalize l[k]=x at*;obtain⟨N,P,Q,R,S,T⟩:=x;have c0:wr.cell? ⟨b,a+k*6,J⟩=I _:=d 0 _ rfl;have c1:wr.cell? ⟨b,a+k*6+1,J⟩=I _:=d 1 _ rfl;have c2:wr.cell? ⟨b,a+k*6+2,J⟩=I _:=d 2 _ rfl;have W:wr.cell? ⟨b,a+k*6+3,J⟩=I _:=d 3 _ rfl;have X:wr.cell? ⟨b,a+k*6+4,J⟩=I _:=d 4 _ rfl;have c5:wr.cell? ⟨b,a+k*6+5,J⟩=I _:=d 5 _ rfl;simp only[kv]at m;have F:(k:Int)<l.length:=A
   have n:=D c;clear d c;go_wp2_with fail
   refine m.o.mono ?_;rintro e w1 ⟨⟨q,rfl⟩,g⟩;have i:=f.trans (g.mono f.size);clear m g
   cases q with
   | true=>
    go_wp2;go_ret;exact⟨⟨_,rfl,.inr ⟨k,rfl,n.o⟩⟩,i⟩
   | false=>
    go_wp2;go_roundw
    case rel=>exact⟨k+1,by have:=n.o;omega,by go_num,i⟩
    case measure=>have:=n.o;simp[bp];omega
  ·go_wp2
   go_ret;exact⟨⟨_,rfl,.inl rfl⟩,f⟩
def M5(v:Z)(l:List qW)(p B:Nat)(d1 d2 d3:Int)(w:V)(h:dD.own w B v l)(hB:B≤w.heap.size)(hl:l.length<99000)(hp:w.heap[p]?=I (.cells #[.int .i64 d1,.int .i64 d2,.int .i64 d3] 73 (0,0))):
  ar M 235 #[v,.func (.func 236) #[] #[.pointer (I ⟨p,0,J⟩)]] w (fun e w'=>∃a k d,e=.returned (.slice a d.length k)∧dD.own w' B (.slice a d.length k) d∧w.grownBy w' v.ownBlock∧d.length≤l.length∧∀x∈d,x∈l):=by
 obtain⟨ao,c,rfl,k0,L0⟩:=h.shape;have HO:=D h;have HP:=D hp;have HL:=D hl;have HB:=D hB;have he:= Qk;clear h hp hl hB
 go_enter func235,ntmps235
 go_upto_region 2 with((go_at_call 286;refine(SQ _ l p d1 d2 d3 w HO.o.sl (by have:=HL.o;omega) HP.o).mono ?_);rintro en w9 ⟨⟨r,rfl,hr⟩,b9⟩;have K:=D b9;clear b9)
 have HO:=D (HO.o.keep K.o (G _));have HP:=D (ft HP.o K.o (br HP.o).1);rcases hr with rfl | ⟨k,rfl,z⟩
 ·go_wp2
  go_ret;exact⟨ao,c,l,rfl,HO.o,⟨K.o.os,K.o.tape,K.o.output,K.o.size,fun j hj _=>K.o.block j hj⟩,G _,fun x hx=>hx⟩
 ·obtain⟨g,hg,-⟩:=HO.o.at k z
  subst hg;have HG:Hid (w.grownBy w9 (I g)):=D ⟨K.o.os,K.o.tape,K.o.output,K.o.size,fun j hj _=>K.o.block j hj⟩;have e1:((k:Int)== -1)=U:=by rw[beq_eq_false_iff_ne];omega
  have e2:bi ((k:Int)+1)=(k:Int)+1:=ag _ (by have:=HL.o;omega);have HK:=D z;clear z;go_wp2;rw[e2];clear e1 e2
  go_loopw[5,6] (fun vi vj wr=>∃(i j:Nat)(d:List qW),vi=.int .i64 i∧vj=.int .i64 j∧Hid (i<j∧j≤l.length)∧Hid (d.length=l.length∧∀x∈d,x∈l)∧Hid (dD.own wr B (.slice (I ⟨g,0,J⟩) d.length c) d)∧Hid (wr.heap[p]?=I (.cells #[.int .i64 d1,.int .i64 d2,.int .i64 d3] 73 (0,0)))∧Hid (w.grownBy wr (I g))) (fun _ vj _=>l.length-(bp vj).toNat)
  case atStart=>exact⟨k,k+1,l,rfl,by simp,D ⟨Nat.lt_succ_self _,HK.o⟩,D ⟨rfl,fun x hx=>hx⟩,HO,HP,HG⟩
  case round=>
   obtain⟨i,j,d,rfl,rfl,f,HM,s,n,b⟩:=hrel;rcases aL j l.length with N | M0
   ·have e0:j<d.length:=by have:=HM.o.1;omega
    have l0:i<d.length:=by have:=f.o;omega
    obtain⟨g',o,-,m0,t,m⟩:=s.o.at j e0;injection o with o;injection o with o _;subst o;have HX:Hid (d[j]∈l):=D (HM.o.2 _ (List.getElem_mem e0));generalize d[j]=x at*;have HC:Hid (ar M 236 #[.agg (kv x).toArray,.pointer (I ⟨p,0,J⟩)] (wr.alloc (.cells (kv x).toArray 206)) _):=D (Gu (wr.alloc (.cells (kv x).toArray 206)) p d1 d2 d3 x (ft n.o ((aD wr.heap.size _).alloc (G _) _) (br n.o).1));have C:=D (al wr (.cells (kv x).toArray 206));obtain⟨Q,R,S,T,X,x5⟩:=x;have c0:wr.cell? ⟨g,j*6,J⟩=I _:=m 0 _ rfl;have c1:wr.cell? ⟨g,j*6+1,J⟩=I _:=m 1 _ rfl;have c2:wr.cell? ⟨g,j*6+2,J⟩=I _:=m 2 _ rfl;have c3:wr.cell? ⟨g,j*6+3,J⟩=I _:=m 3 _ rfl;have c4:wr.cell? ⟨g,j*6+4,J⟩=I _:=m 4 _ rfl;have c5:wr.cell? ⟨g,j*6+5,J⟩=I _:=m 5 _ rfl;simp only[kv]at HC C;have N0:(j:Int)<l.length:=A
    have HJ:=D N;have o0:=D l0;clear m t N e0 l0;have c9:(wr.alloc (.cells (vR Q R S T X x5) 206)).heap[wr.heap.size]?=I (.cells (vR Q R S T X x5) 206 (0,0)):=C.o;obtain⟨n0,n1,n2,n3,n4,n5⟩:=ah c9;clear c9;go_upto_region 8 with fail
    obtain⟨W,hW⟩:∃W,wr.alloc (.cells (vR Q R S T X x5) 206)=W:=⟨_,rfl⟩;obtain⟨nb,L⟩:∃nb,wr.heap.size=nb:=⟨_,rfl⟩;have y:ae wr.heap.size wr W:=by rw[←hW];exact(aD _ _).alloc (G _) _
    have s:=D (s.o.keep y (G _));have n:=D (ft n.o y (br n.o).1);have b:Hid (w.grownBy W (I g)):=D ⟨y.os.trans b.o.os,y.tape.trans b.o.tape,y.output.trans b.o.output,aa b.o.size y.size,fun k z u=>(y.block k (ac z b.o.size)).trans (b.o.block k z u)⟩;have y0:Hid (g<nb∧nb<W.heap.size):=D ⟨by rw[←L];exact m0,by rw[←hW,←L];simp⟩;rw[hW]at HC C n0 n1 n2 n3 n4 n5;rw[L]at C n0 n1 n2 n3 n4 n5;rw[hW,L];clear hW y c0 c1 c2 c3 c4 c5 m0 L;go_wp2_with fail
    refine HC.o.mono ?_;rintro en w1 ⟨⟨q,rfl⟩,b1⟩;have B1:=D b1;have s:=D (s.o.keep b1 (G _));have n:=D (ft n.o b1 (br n.o).1);have b:Hid (w.grownBy w1 (I g)):=D ⟨b1.os.trans b.o.os,b1.tape.trans b.o.tape,b1.output.trans b.o.output,aa b.o.size b1.size,fun k z u=>(b1.block k (ac z b.o.size)).trans (b.o.block k z u)⟩;have C:=D (ft C.o b1 y0.o.2);have e3:bi ((j:Int)+1)=(j:Int)+1:=ag _ (by have:=HL.o;have:=HJ.o;omega);clear b1 HC n0 n1 n2 n3 n4 n5
    cases q with
    | true=>
     go_wp2;go_roundw
     case rel=>exact⟨i,j+1,d,by go_num,by go_num,D (by have:=f.o;have:=HJ.o;omega),HM,s,n,b⟩
     case measure=>have:=HJ.o;simp[bp];omega
    | false=>
     obtain⟨n0,n1,n2,n3,n4,n5⟩:=ah C.o;obtain⟨g',o,-,-,t,m⟩:=s.o.at i o0.o;injection o with o;injection o with o _;subst o;have z0:(i:Int)<l.length:=by have:=f.o;omega
     have e4:bi ((i:Int)+1)=(i:Int)+1:=ag _ (by have:=HL.o;have:=HJ.o;have:=f.o;omega);have g0:=t (i*6);have c0:w1.cell? ⟨g,i*6,J⟩=I _:=m 0 _ rfl;have g1:=t (i*6+1);have c1:w1.cell? ⟨g,i*6+1,J⟩=I _:=m 1 _ rfl;have g2:=t (i*6+2);have c2:w1.cell? ⟨g,i*6+2,J⟩=I _:=m 2 _ rfl;have g3:=t (i*6+3);have c3:w1.cell? ⟨g,i*6+3,J⟩=I _:=m 3 _ rfl;have g4:=t (i*6+4);have c4:w1.cell? ⟨g,i*6+4,J⟩=I _:=m 4 _ rfl;have g5:=t (i*6+5);have c5:w1.cell? ⟨g,i*6+5,J⟩=I _:=m 5 _ rfl;clear m t;go_upto_region 10 with fail
     obtain⟨W2,a0⟩:∃W2,qZ w1 g (i*6) (dD.f ⟨Q,R,S,(T,X,x5)⟩)=W2:=⟨_,rfl⟩;have A0:Hid (dD.own W2 B (.slice (I ⟨g,0,J⟩) (d.set i ⟨Q,R,S,(T,X,x5)⟩).length c) (d.set i ⟨Q,R,S,(T,X,x5)⟩)):=D (by rw[←a0];exact EL.own.write s.o i o0.o ⟨Q,R,S,(T,X,x5)⟩);have E:w1.grownBy W2 (I g):=by rw[←a0];exact qj _ _ _
     have B0:=D ((E.block p (br n.o).1 (Ne.symm (s.o.ne n.o aC))).trans n.o);have C0:Hid (w.grownBy W2 (I g)):=D ⟨E.os.trans b.o.os,E.tape.trans b.o.tape,E.output.trans b.o.output,aa b.o.size E.size,fun k z u=>(E.block k (ac z b.o.size) u).trans (b.o.block k z u)⟩;have D0:Hid ((d.set i ⟨Q,R,S,(T,X,x5)⟩).length=l.length∧∀x∈d.set i ⟨Q,R,S,(T,X,x5)⟩,x∈l):=D ⟨by rw[eE];exact HM.o.1,tp HM.o.2 HX.o⟩;have f0:=a0;simp only[qZ,kv]at f0;rw[f0];clear a0 f0 E n0 n1 n2 n3 n4 n5 g0 g1 g2 g3 g4 g5 c0 c1 c2 c3 c4 c5;go_wp2;go_roundw
     case rel=>exact⟨i+1,j+1,_,by go_num,by go_num,D (by have:=f.o;have:=HJ.o;omega),D0,A0,B0,C0⟩
     case measure=>have:=HJ.o;simp[bp];omega
   ·have E0:j=l.length:=by have:=f.o;omega
    subst E0;obtain⟨h0,F,p0,q0,F0⟩:=fT P8;have b0:=HM.o.1;obtain⟨ao,r0,s0⟩:=ey (P:= M) 42 206 h0 6 underlying42 F q0 g 0 l.length c i (i:Int) rfl (by have:=f.o;omega) k0;have e9:=r0 (by have:=f.o;omega);subst e9;rw[cO]at s0;obtain⟨w2,zs,i0,G0,t0,H⟩:=CZ (P:= M) wr 42 206 h0 _ 6 underlying42 F p0 aC aC B g d.length c (i*6) (d.length-i) (c-i) _ s.o (by have:=f.o;omega) (by rw[←Nat.add_mul];exact bE _ (by have:=f.o;omega));rw[b0]at i0;have j0:=Oh t0 i (by have:=f.o;omega);have v0:(ca dD.f d).length=d.length*6:=ke dD.len d
    have d0:((ca dD.f d).take (i*6)++zs++(ca dD.f d).drop (i*6+(d.length-i)*6)).take (i*6)=ca dD.f (d.take i):=by
     rw[List.append_assoc,cQ (by rw[bN,v0];have:=f.o;omega),List.take_take,Nat.min_self];exact rL dD.len d i
    rw[d0]at j0;have H0:=D i0;have I0:=sP (P:= M) 42 206 h0 underlying42 F g l.length c i (i:Int) rfl (by have:=f.o;omega)
    have J0:Hid (dD.own w2 B (.slice (I ⟨g,0,J⟩) (d.take i).length c) (d.take i)):=D (by
     have N:(d.take i).length=i:=by rw[bN];have:=f.o;omega
     show jc _ _ _ _ (.slice (I ⟨g,0,J⟩) (d.take i).length c) (d.take i).length _;rw[N]
     exact j0)
    have K0:Hid (w.grownBy w2 (I g)):=D ⟨H.os.trans b.o.os,H.tape.trans b.o.tape,H.output.trans b.o.output,aa b.o.size H.size,fun k z u=>(H.block k (ac z b.o.size) u).trans (b.o.block k z u)⟩;have z0:(i:Int)≤l.length:=by have:=f.o;omega
    have w0:Hid ((d.take i).length=i∧(d.take i).length≤l.length∧∀x∈d.take i,x∈l):=D ⟨by rw[bN];have:=f.o;omega,by rw[bN];omega,fun x hx=>HM.o.2 x (List.mem_of_mem_take hx)⟩;clear i0 t0 H j0 d0 v0 G0 r0 b0 p0 q0 F0 F;go_wp2_with (refine yy rfl _ 42 rfl _ rfl (H0.o _) ?_)
    go_ret;exact⟨I ⟨g,0,J⟩,c,d.take i,by rw[w0.o.1];rfl,J0.o,K0.o,w0.o.2⟩
end Go.Proofs.YtdgllhcfablaoaaGreat
