/- What the law asks, in parts: LSh LNa LLa LRl. -/
import Derived.Deep.RegionHeld3
import Derived.IntWalk
import Derived.Test.YtlfopoimbbpfdaaGreatPk17
import Derived.Test.YtlfopoimbbpfdaaGreatPk6
import Derived.Test.YtlfopoimbbpfdaaGreatPk5
import Derived.Test.YtlfopoimbbpfdaaGreatPk1
set_option linter.all false
set_option maxRecDepth 100000
set_option maxHeartbeats 16000000
namespace Go.Proofs.YtlfopoimbbpfdaaGreat
open Go.RowKit
def jf (ls:List Ls):Nat→Int
 | 0=> -1
 | i+1=>((ls[i]?).map Ls.dev).getD 0
def yC (cs:List Ct) (ls:List Ls) (i:Nat) (l:Ls):Bool:=decide (jf ls i<l.dev)&&(decide (l.dev<6)&&(RY cs l.sl&&(decide (dw l.ids)&&(decide (iU l.used)&&Fz l.used l.ids))))
def rowsOf (b:Bk):List (List Rg):=b.free::b.ls.map Ls.ids
def zL (b:Bk):Bool:=decide (iT (yC b.cs b.ls) b.ls)&&(MU b.cs&&(DK b.cs b.ls&&(decide (dw b.free)&&(decide (iU b.bound)&&(qg [] (rowsOf b)&&!b.bound.any (oI (rowsOf b)))))))
structure Z7 (w:World) (x:dN) (b:Bk) (k:Nat) (v:Value) (ss:List Sv) (wr:World):Prop where
 all:fC (yC b.cs b.ls) b.ls k
 bC:Below w.heap.size w wr
 kb:wr.heap[w.heap.size]? =some (.cells #[x.c.v,x.f.v,x.l.v,x.b.v] 30 (0,0))
 kr:wr.heap[w.heap.size+2]? =some (.cells #[v] 92 (0,0))
 row:wr.ownsRow (w.heap.size+1) 26 1 v ss.length (aJ IQ ss)
 rd:bN (fun s l=>fD w s.v l) ss (b.free::(b.ls.take k).map Ls.ids)
structure Tq (b:Bk):Prop where
 nl:b.ls.length<1000000
 nr:(rowsOf b).flatten.length<1000000
 key:∀c∈b.cs,c.key.size≤maxLen
 up:∀l∈b.ls,∀s∈l.sl,s.up≤9223372036854775807∧s.down≤9223372036854775807
theorem one_cell {w:World} {b:Nat} {x:Value} {t:TypeId} (h:w.heap[b]? =some (.cells #[x] t (0,0))):
  w.cell? ⟨b,0,none⟩=some x∧w.frozen? ⟨b,0,none⟩=false∧b<w.heap.size:=by
 refine⟨?_,?_,(bq h).1⟩<;>simp[World.cell?,World.frozen?,h]
theorem Tt {w:World} {b:Nat} {x:Value} {t:TypeId} (h:w.heap[b]? =some (.cells #[x] t (0,0))) (u:Value):(w.setCell ⟨b,0,none⟩ u).heap[b]? =some (.cells #[u] t (0,0)):=by
 simp[World.setCell,Array.getElem?_modify,h]
theorem LC {cs:List Ct} {l:List Sc} (h:RY cs l=true) (hu:∀s∈l,s.up≤9223372036854775807∧s.down≤9223372036854775807):Lf l:=by
 intro s hs;obtain⟨i,hi,rfl⟩:=List.getElem_of_mem hs;unfold RY at h;rw[decide_eq_true_iff]at h;have h1:=h i hi;have h2:=hu _ (List.getElem_mem hi);unfold EA at h1;simp only[Bool.and_eq_true,decide_eq_true_iff]at h1;exact⟨h1.2.2.1,h1.2.2.2.1,h2.1,h1.2.2.2.2.1,h1.2.2.2.2.2,h2.2⟩
theorem Tv {cs:List Ct} (h:MU cs=true):∀c∈cs,CtN c:=by
 intro c hc;obtain⟨i,hi,rfl⟩:=List.getElem_of_mem hc;unfold MU at h;rw[Bool.and_eq_true,decide_eq_true_iff]at h;have h1:=h.1 i hi;unfold zG at h1;rw[Bool.and_eq_true]at h1;have h2:=tQ h1.1;simp only[Bool.and_eq_true,decide_eq_true_iff]at h1;exact⟨h2.1,h2.2.1,h2.2.2.1,h2.2.2.2,h1.2.2.1,h1.2.2.2.2.1,h1.2.2.2.1,h1.2.2.2.2.2⟩
theorem Nr {α:Type} {f:Nat→α→Bool} {l:List α} (h:iT f l):∀x∈l,∃i,f i x=true:=fun x hx=>by
 obtain⟨i,hi,rfl⟩:=List.getElem_of_mem hx;exact⟨i,h i hi⟩
theorem yD (x:dN) (b:Bk) (w:World) (h:iA w x b) (hB:Tq b):
  Calls Tryz.prog 12 #[iJ x] w fun e w'=>e= .returned (.bool (zL b))∧Below w.heap.size w w':=by
 obtain⟨⟨ca,cn,cc⟩,⟨fa,bD,fc⟩,⟨la,ln,lc⟩,⟨ba,bE,bc⟩⟩:=x;have HM:=ah h;have P8:=ah hB;obtain⟨a1,a2,a3,a4⟩:=b;obtain⟨hc,hf,⟨xs,hx,nR⟩,hu⟩:=h;have nl:=hB.nl;simp only[Sv.v]at hc hf hx hu nR nl;obtain⟨q1,_,_⟩:=Sl.lens (s:=⟨ca,cn,cc⟩) hc;obtain⟨q2,g1,g2⟩:=Sl.lens (s:=⟨fa,bD,fc⟩) hf;obtain⟨q3,g3,g4⟩:=Sl.lens (s:=⟨la,ln,lc⟩) hx;obtain⟨q4,g5,g6⟩:=Sl.lens (s:=⟨ba,bE,bc⟩) hu;simp only at q1 q2 q3 q4 g1 g2 g3 g4 g5 g6;subst q1 q2 q3 q4;have iL:=ah nR.len;have wE:=ah nR;have yR:xs.length<1000000:=by have:=iL.out;omega
 clear nR hB
 have uE:Z7 w ⟨⟨ca,a1.length,cc⟩,⟨fa,a2.length,fc⟩,⟨la,xs.length,lc⟩,⟨ba,a4.length,bc⟩⟩ ⟨a1,a2,a3,a4⟩ 0 (.slice (some ⟨w.heap.size+1,0,none⟩) 1 1) [⟨fa,a2.length,fc⟩]
   (((w.alloc (.cells #[.slice ca a1.length cc,.slice fa a2.length fc,.slice la xs.length lc,.slice ba a4.length bc] 30)).alloc (.cells #[.slice fa a2.length fc] 26)).alloc (.cells #[.slice (some ⟨w.heap.size+1,0,none⟩) 1 1] 92)):=by
  refine⟨iO _ _,(((aL _ _).alloc (aC _) _).alloc (by simp) _).alloc (by simp;omega) _,?_,?_,?_,⟨hf,trivial⟩⟩
  ·rw[Below.heap_alloc _ _ _ (by simp;omega)];exact bX _ _ _
  ·have:=heap_alloc_new ((w.alloc (.cells #[.slice ca a1.length cc,.slice fa a2.length fc,.slice la xs.length lc,.slice ba a4.length bc] 30)).alloc (.cells #[.slice fa a2.length fc] 26)) (.cells #[.slice (some ⟨w.heap.size+1,0,none⟩) 1 1] 92)
   simpa using this
  ·have h1:=dB (w.alloc (.cells #[.slice ca a1.length cc,.slice fa a2.length fc,.slice la xs.length lc,.slice ba a4.length bc] 30)) (w.heap.size+1) (w.heap.size+1) 26 1 #[.slice fa a2.length fc] 1 (by simp) (aC _) (by omega) rfl
   exact h1.alloc _
 change Calls Tryz.prog _ #[.agg #[.slice ca a1.length cc,.slice fa a2.length fc,.slice la xs.length lc,.slice ba a4.length bc]] w _;have uG:=ah uE;clear uE
 go_enter Tryz.func12,Tryz.ntmps12
 go_wp2
 go_loopw[5,14] (fun v5 FH wr=>∃ (k:Nat) (v:Value) (ss:List Sv),k≤xs.length∧FH= .int .i64 k∧v5= .int .i64 (jf a3 k)∧ss.length=k+1∧Z7 w ⟨⟨ca,a1.length,cc⟩,⟨fa,a2.length,fc⟩,⟨la,xs.length,lc⟩,⟨ba,a4.length,bc⟩⟩ ⟨a1,a2,a3,a4⟩ k v ss wr) (fun _ FH _=>xs.length-(intOf FH).toNat)
 case atStart=>exact⟨0,_,[⟨fa,a2.length,fc⟩],Nat.zero_le _,rfl,rfl,rfl,uG.out⟩
 case round=>
  obtain⟨k,v,ss,hk,rfl,rfl,LB,hS⟩:=hrel;clear uG;have HS:=ah hS;have aeh:=ah LB;have aei:ss.length≤k+1:=by omega
  have mG:w.heap.size+2<wr.heap.size:=(bq hS.kr).1;obtain⟨d0,d1,d2,d3,_⟩:=ay hS.kb;obtain⟨r0,OD,_⟩:=one_cell hS.kr;obtain⟨YM,zM,rfl,WM,WO⟩:=aO hS.row;simp only[Sv.v]at d0 d1 d2 d3;have hb:=hS.bC;clear hS LB;rcases Nat.lt_or_ge k xs.length with bA | gX
  ·have oQ:k<a3.length:=by rw[←iL.out];exact bA
   obtain⟨lb,lo,rfl,Ip,e0,e1,e2,e3,e4,e5,e6⟩:=dI.ls hx hb (aC _) k bA;have jK:(k:Int)<xs.length:=by omega
   have hM:=bN.at wE.out k bA oQ;have vg:Hid (yC a1 a3 k a3[k]=false→zL ⟨a1,a2,a3,a4⟩=false):=ah (fun hh=>by unfold zL;rw[lK (f:=yC a1 a3) oQ hh];rfl);have nU:Hid (yC a1 a3 k a3[k]=true→fC (yC a1 a3) a3 (k+1)):=ah (fC.step HS.out.all oQ);have lZ:Hid (yC a1 a3 k a3[k]=(decide (jf a3 k<a3[k].dev)&&(decide (a3[k].dev<6)&&(RY a1 a3[k].sl&&(decide (dw a3[k].ids)&&(decide (iU a3[k].used)&&Fz a3[k].used a3[k].ids)))))):=rfl;have WQ:Hid (jf a3 (k+1)=a3[k].dev):=by show _=_;simp[jf,List.getElem?_eq_getElem oQ]
   have Jp:Hid ((a3.take (k+1)).map Ls.ids=(a3.take k).map Ls.ids++ [a3[k].ids]):=by show _=_;rw[aS a3 k oQ,List.map_append];rfl
   have hMs:=hM.s;have UL:=hM.i;have hMu:=hM.u;have hMd:=hM.dev;have HMI:=ah hM.i;clear hM;generalize jf a3 k=pd at*;generalize yC a1 a3 k a3[k]=ok at*;generalize xs[k]=z at*;generalize a3[k]=l at*;obtain⟨z1,z2,z3,z4,⟨z5,z6,z7⟩,⟨z8,z9,dK⟩,⟨dU,eZ,dQ⟩⟩:=z;obtain⟨y1,y2,y3,y4,sl,ids,used⟩:=l;simp only[Sv.v]at e0 e1 e2 e3 e4 e5 e6 hMs UL hMu hMd;subst hMd;obtain⟨p1,p11,rE⟩:=Sl.lens (s:=⟨z5,z6,z7⟩) hMs;obtain⟨p2,UF,p22⟩:=Sl.lens (s:=⟨z8,z9,dK⟩) UL;obtain⟨p3,IE,p32⟩:=Sl.lens (s:=⟨dU,eZ,dQ⟩) hMu;simp only at p1 p11 rE p2 UF p22 p3 IE p32;subst p1 p2 p3;have eD:=hb.alloc (by omega) (.cells #[.int .i64 z1,.int .i64 z2,.int .i64 z3,.int .i64 z4,.slice z5 sl.length z7,.slice z8 ids.length dK,.slice dU used.length dQ] 48);have hbR:Below wr.heap.size wr (wr.alloc (.cells #[.int .i64 z1,.int .i64 z2,.int .i64 z3,.int .i64 z4,.slice z5 sl.length z7,.slice z8 ids.length dK,.slice dU used.length dQ] 48)):=(aL _ _).alloc (aC _) _;have Je:=ah eD;have Tw:=ah (heap_alloc_new wr (.cells #[.int .i64 z1,.int .i64 z2,.int .i64 z3,.int .i64 z4,.slice z5 sl.length z7,.slice z8 ids.length dK,.slice dU used.length dQ] 48));have Ns:=ah (aj HS.out.kb hbR (by omega));have Cc:=ah (aj HS.out.kr hbR (by omega));have aek:=ah (dI.keep hMs eD (aC _));have Z8:=ah (fD.keep UL eD (aC _));have Z9:=ah (jv.keep hMu eD (aC _));have Tx:=ah (dI.keep hc eD (aC _));have TA:=ah (aI HS.out.row hbR (aC _));have Pq:wr.heap.size<(wr.alloc (.cells #[.int .i64 z1,.int .i64 z2,.int .i64 z3,.int .i64 z4,.slice z5 sl.length z7,.slice z8 ids.length dK,.slice dU used.length dQ] 48)).heap.size:=by simp
   clear eD hbR hMs UL hMu;generalize hq1:RY a1 sl=q1 at*;generalize vW:decide (dw ids)=q2 at*;generalize CQ:decide (iU used)=q3 at*;generalize JJ:Fz used ids=q4 at*;have Gm:=ah hq1;have eF:=ah vW;have vJ:=ah CQ;have Z_:=ah JJ;clear hq1 vW CQ JJ;go_upto_region 7 with fail
   generalize wr.alloc (.cells #[.int .i64 z1,.int .i64 z2,.int .i64 z3,.int .i64 z4,.slice z5 sl.length z7,.slice z8 ids.length dK,.slice dU used.length dQ] 48)=w7 at*;clear e0 e1 e2 e3 e4 e5 e6 d0 d1 d2 d3 r0 OD;obtain⟨n0,n1,n2,n3,n4,n5,n6,_⟩:=aB Tw.out;obtain⟨d0,d1,d2,d3,_⟩:=ay Ns.out;obtain⟨r0,OD,_⟩:=one_cell Cc.out
   go_wp2_with (first
    | ((go_at_call 38;refine(Jm ⟨z1,z2,z3,z4,⟨z5,sl.length,z7⟩,⟨z8,ids.length,dK⟩,⟨dU,used.length,dQ⟩⟩ sl ⟨⟨ca,a1.length,cc⟩,⟨fa,a2.length,fc⟩,⟨some ⟨lb,lo,none⟩,xs.length,lc⟩,⟨ba,a4.length,bc⟩⟩ a1 _ aek.out Tx.out).mono ?_);rw[Gm.out];rintro e w1 ⟨rfl,hb⟩;have lF:=hb;obtain⟨n0,n1,n2,n3,n4,n5,n6,_⟩:=aB (aj Tw.out lF Pq);obtain⟨d0,d1,d2,d3,_⟩:=ay (aj Ns.out lF (by omega));obtain⟨r0,OD,_⟩:=one_cell (aj Cc.out lF (by omega));clear hb)
    | ((go_at_call 39;refine(DF _ ids _ (fD.keep Z8.out lF (aC _))).mono ?_);rw[eF.out];rintro e w2 ⟨rfl,hb⟩;have je:=lF.trans (hb.mono lF.size);obtain⟨n0,n1,n2,n3,n4,n5,n6,_⟩:=aB (aj Tw.out je Pq);obtain⟨d0,d1,d2,d3,_⟩:=ay (aj Ns.out je (by omega));obtain⟨r0,OD,_⟩:=one_cell (aj Cc.out je (by omega));clear hb)
    | ((go_at_call 40;refine(DC _ used _ (jv.keep Z9.out je (aC _))).mono ?_);rw[vJ.out];rintro e w3 ⟨rfl,hb⟩;have BX:=je.trans (hb.mono je.size);obtain⟨n0,n1,n2,n3,n4,n5,n6,_⟩:=aB (aj Tw.out BX Pq);obtain⟨d0,d1,d2,d3,_⟩:=ay (aj Ns.out BX (by omega));obtain⟨r0,OD,_⟩:=one_cell (aj Cc.out BX (by omega));clear hb)
    | ((go_at_call 41;refine(Dk _ _ used ids _ (jv.keep Z9.out BX (aC _)) (fD.keep Z8.out BX (aC _))).mono ?_);rw[Z_.out];rintro e w4 ⟨rfl,hb⟩;have zX:=BX.trans (hb.mono BX.size);obtain⟨n0,n1,n2,n3,n4,n5,n6,_⟩:=aB (aj Tw.out zX Pq);obtain⟨d0,d1,d2,d3,_⟩:=ay (aj Ns.out zX (by omega));obtain⟨r0,OD,_⟩:=one_cell (aj Cc.out zX (by omega));clear hb)
    | ((with_reducible refine aZ 60 ?_);refine yB rfl _ _ rfl (w.heap.size+1) _ ss.length ss rfl ((aI TA.out zX (aC _)).alloc _) _ 1 1 [⟨z8,ids.length,dK⟩] rfl rfl (tu _ _ rfl [.slice z8 ids.length dK] _) (by omega) (by simp;omega) ?_))
   all_goals first
    | (go_ret
       refine⟨aH (vg.out (by rw[lZ.out];first | (simp;omega) | (simp [*];done) | (simp [*];omega) | (cases q4<;>first | (simp;done) | (exfalso;rename_i hq;simp at hq;omega)))).symm,?_⟩
       first | exact Je.out.trans (zX.mono Je.out.size) | exact Je.out.trans (BX.mono Je.out.size) | exact Je.out.trans (je.mono Je.out.size) | exact Je.out.trans (lF.mono Je.out.size) | exact Je.out)
    | skip
   intro v6 w6 uf Dw Gj;have mP:=zX.size;have eP:=mF (aI TA.out zX (aC _)) (aj Cc.out zX (by omega)) (by decide);have kr6:=(Dw.block (w.heap.size+2) (by simp;omega) (fun e=>eP e.symm)).trans ((Below.heap_alloc _ _ _ (by omega)).trans (aj Cc.out zX (by omega)));have kb6:=(iC Dw (b:=w.heap.size) (B:=w.heap.size+1) (by simp;omega) (by omega) (bQ TA.out)).trans ((Below.heap_alloc _ _ _ (by omega)).trans (aj Ns.out zX (by omega)));have aad:=mF uf kr6 (by decide);have jw:Below w.heap.size w w6:=((Je.out.trans (zX.mono Je.out.size)).alloc (by omega) _).grown Dw (by simp;omega) (fun g hg=>by have:=bQ TA.out g hg;omega);have hd6:=(aB (aj Tw.out zX Pq)).1;obtain⟨I7,cap6,rfl,_,_⟩:=aO uf;obtain⟨r0,OD,_⟩:=one_cell kr6;have zx:=ah kr6;have WR:=ah kb6;have zC:=ah uf;have ael:=ah aad;clear kr6 kb6 uf Dw Gj eP aad n0 n1 n2 n3 n4 n5 n6 d0 d1 d2 d3 hd6 lF je BX zX;go_wp2;go_roundw
   case rel=>
    refine⟨k+1,.slice I7 (ss.length+1) cap6,ss++ [⟨z8,ids.length,dK⟩],by omega,by go_num,by rw[WQ.out],by simp[aeh.out],⟨nU.out (by rw[lZ.out];cases q4<;>first | (simp [*];done) | (simp [*];omega) | (exfalso;rename_i hq;simp at hq;done)),jw.setCell (by first | (simp;done) | (simp;omega)) _,?_,?_,?_,?_⟩⟩
    ·rw[aX _ _ _ (by simp;omega)];exact WR.out
    ·exact Tt zx.out _
    ·rw[List.length_append];exact gT zC.out (fun b hb=>aX _ _ _ (fun e=>hb e.symm) _) ael.out
    ·show bN _ _ (a2::(a3.take (k+1)).map Ls.ids)
     rw[Jp.out];exact bN.append HS.out.rd ⟨HMI.out,trivial⟩
   case measure=>simp[intOf];omega
  ·have dH:k=xs.length:=by omega
   subst dH;have EW:=ah (fC.all HS.out.all (Nat.le_of_eq (iL.out.symm)))
   have OE:Hid (Bc wr (.slice YM ss.length zM) (rowsOf ⟨a1,a2,a3,a4⟩)):=ah ⟨ss,aG HS.out.row,by
    have:=HS.out.rd;simp only at this;rw[List.take_of_length_le (Nat.le_of_eq iL.out.symm)]at this
    exact this.imp (fun _ _ r=>fD.keep r hb (aC _))⟩
   generalize hqa:MU a1=qa at*;generalize hqb:DK a1 a3=qb at*;generalize hqc:decide (dw a2)=qc at*;generalize hqd:decide (iU a4)=qd at*;generalize hqe:qg [] (rowsOf ⟨a1,a2,a3,a4⟩)=qe at*;generalize hqf:a4.any (oI (rowsOf ⟨a1,a2,a3,a4⟩))=qf at*;have DW:=ah hqa;have HQB:=ah hqb;have JK:=ah hqc;have HQD:=ah hqd;have HQE:=ah hqe;have HQF:=ah hqf;have aae:Hid (zL ⟨a1,a2,a3,a4⟩=(qa&&(qb&&(qc&&(qd&&(qe&&!qf)))))):=by show _=_;unfold zL;simp only[EW.out,DW.out,HQB.out,JK.out,HQD.out,HQE.out,HQF.out,Bool.true_and]
   clear hqa hqb hqc hqd hqe hqf;have hcc:=dI.keep hc hb (aC _);have hll:Ei wr (.slice la xs.length lc) a3:=Ei.keep ⟨xs,hx,wE.out⟩ hb (aC _);have hff:=fD.keep hf hb (aC _);have huu:=jv.keep hu hb (aC _)
   cases qa with
   | false=>
    go_wp2_with ((go_at_call 42;refine(wI ⟨⟨ca,a1.length,cc⟩,⟨fa,a2.length,fc⟩,⟨la,xs.length,lc⟩,⟨ba,a4.length,bc⟩⟩ a1 _ hcc P8.out.key).mono ?_);rw[DW.out];rintro e w1 ⟨rfl,bB⟩)
    go_ret;exact⟨aH (by rw[aae.out];rfl),hb.trans (bB.mono hb.size)⟩
   | true=>
    have aem:Hid (∀l∈a3,Lf l.sl):=ah (fun l hl=>by
     have:=EW.out;rw[decide_eq_true_iff]at this;obtain⟨i,hi⟩:=Nr this l hl;unfold yC at hi;simp only[Bool.and_eq_true]at hi
     exact LC hi.2.2.1 (P8.out.up l hl))
    have aen:=ah (Tv DW.out)
    go_wp2_with (first
     | ((go_at_call 42;refine(wI ⟨⟨ca,a1.length,cc⟩,⟨fa,a2.length,fc⟩,⟨la,xs.length,lc⟩,⟨ba,a4.length,bc⟩⟩ a1 _ hcc P8.out.key).mono ?_);rw[DW.out];rintro e w1 ⟨rfl,bB⟩;have lF:=bB;obtain⟨d0,d1,d2,d3,_⟩:=ay (aj HS.out.kb lF (by omega));obtain⟨r0,OD,_⟩:=one_cell (aj HS.out.kr lF (by omega));clear bB)
     | ((go_at_call 43;refine(Pz ⟨⟨ca,a1.length,cc⟩,⟨fa,a2.length,fc⟩,⟨la,xs.length,lc⟩,⟨ba,a4.length,bc⟩⟩ a1 a3 _ (dI.keep hcc lF (aC _)) (Ei.keep hll lF (aC _)) aen.out aem.out).mono ?_);rw[HQB.out];rintro e w2 ⟨rfl,bB⟩;have je:=lF.trans (bB.mono lF.size);obtain⟨d0,d1,d2,d3,_⟩:=ay (aj HS.out.kb je (by omega));obtain⟨r0,OD,_⟩:=one_cell (aj HS.out.kr je (by omega));clear bB)
     | ((go_at_call 39;refine(DF _ a2 _ (fD.keep hff je (aC _))).mono ?_);rw[JK.out];rintro e w3 ⟨rfl,bB⟩;have BX:=je.trans (bB.mono je.size);obtain⟨d0,d1,d2,d3,_⟩:=ay (aj HS.out.kb BX (by omega));obtain⟨r0,OD,_⟩:=one_cell (aj HS.out.kr BX (by omega));clear bB)
     | ((go_at_call 40;refine(DC _ a4 _ (jv.keep huu BX (aC _))).mono ?_);rw[HQD.out];rintro e w4 ⟨rfl,bB⟩;have zX:=BX.trans (bB.mono BX.size);obtain⟨d0,d1,d2,d3,_⟩:=ay (aj HS.out.kb zX (by omega));obtain⟨r0,OD,_⟩:=one_cell (aj HS.out.kr zX (by omega));clear bB)
     | ((go_at_call 44;refine(Nn _ _ _ (Bc.keep OE.out zX (aC _)) P8.out.nr).mono ?_);rw[HQE.out];rintro e w5 ⟨rfl,bB⟩;have WS:=zX.trans (bB.mono zX.size);obtain⟨d0,d1,d2,d3,_⟩:=ay (aj HS.out.kb WS (by omega));obtain⟨r0,OD,_⟩:=one_cell (aj HS.out.kr WS (by omega));clear bB)
     | ((go_at_call 45;refine(FL _ a4 _ _ _ _ (jv.keep huu WS (aC _)) (WL r0 (Bc.keep OE.out WS (aC _)) a4)).mono ?_);rw[HQF.out];rintro e w6 ⟨rfl,nG⟩;have hc6:=WS.trans (nG.mono WS.size)))
    all_goals
     go_ret;refine⟨aH (by rw[aae.out];first | rfl | (simp;done) | (simp [*];done) | (cases qe<;>first | (simp [*];done) | (rename_i hq;simp at hq;done))),?_⟩;first | exact hb.trans (hc6.mono hb.size) | exact hb.trans (WS.mono hb.size) | exact hb.trans (zX.mono hb.size) | exact hb.trans (BX.mono hb.size) | exact hb.trans (je.mono hb.size) | exact hb.trans (lF.mono hb.size)
theorem Qo (r:Rg):iF [] r= [r]:=rfl
theorem Qp (r:Rg):zy [] r= [r]:=rfl
theorem Nt (w:World):Calls Tryz.prog 66 #[.slice none 0 0,.agg #[.int .i64 0,.int .i64 0]] w (sO w 2 56 0 (aR [])):=by
 go_enter Tryz.func66,Tryz.ntmps66
 go_wp2;go_ret;exact⟨_,rfl,dB (w.alloc (.cells #[.int .i64 0,.int .i64 0] 56)) _ _ _ 2 #[] 0 (by simp) (by simp) (by omega) rfl,((aL w.heap.size w).alloc (aC _) _).alloc (by simp) _⟩
theorem JL (n:Int) (w:World) (h0:0≤n) (h1:n≤1000):Calls Tryz.prog 66 #[.slice none 0 0,.agg #[.int .i64 0,.int .i64 n]] w (sO w 2 56 (iM [] (0,n)).length (aR (iM [] (0,n)))):=by
 by_cases h:0<n
 ·have:=Au (.slice none 0 0) [] 0 n w (fD.nil w) (by simp) h (by omega) (by omega)
  rw[Qp]at this;have e:iM [] (0,n)= [(0,n)]:=by unfold iM;rw[if_neg (by simp only;omega),Qo]
  rw[e];exact this
 ·have e:n=0:=by omega
  subst e;exact Nt w
theorem Nu (v:Value) (l:List Ct) (ids:Int) (w:World) (h:oN w v l) (h4:4<l.length):
  Calls Tryz.prog 22 #[v,.int .i64 ids] w (uY w (newS l ids)):=by
 have HS:Hid (newS l ids=(⟨[],[],[],[]⟩,4)):=by show _=_;unfold newS;rw[if_pos h4]
 obtain⟨ao,cap,rfl,dO,hm⟩:=Sl.shape h;have g4:(4:Int)<l.length:=by omega
 clear h
 go_enter Tryz.func22,Tryz.ntmps22
 go_wp2;refine bodyPost_ret (v:=.tuple #[.agg #[.slice none 0 0,.slice none 0 0,.slice none 0 0,.slice none 0 0],.int .i64 4]) (by simp[results,Tryz.results22,go_sem]) rfl ⟨⟨⟨none,0,0⟩,⟨none,0,0⟩,⟨none,0,0⟩,⟨none,0,0⟩⟩,by rw[HS.out],by rw[HS.out];exact kT _,(aL _ _).alloc (aC _) _⟩
theorem Qq (v:Value) (l:List Ct) (ids:Int) (w:World) (h:oN w v l) (h4:l.length≤4) (uZ:∀c∈l,c.key.size≤maxLen):
  Calls Tryz.prog 22 #[v,.int .i64 ids] w (uY w (newS l ids)):=by
 obtain⟨ao,cap,rfl,dO,hm⟩:=Sl.shape h;have g4:decide (4<(l.length:Int))=false:=by simp;omega
 have g4':decide (4<l.length)=false:=by simp;omega
 have O7:Hid (∀n,(lG [] l).1=n→n≠0→newS l ids=(⟨[],[],[],[]⟩,n)):=fun n hn h0=>by
  unfold newS;rw[if_neg (by omega),if_pos (by rw[hn];exact h0),hn]
 have HKEY:=ah uZ;clear uZ
 go_enter Tryz.func22,Tryz.ntmps22
 go_upto_block 0 with fail
 have uE:MR w l 0 [] (.slice none 0 0) ((w.alloc (.cells #[.slice none 0 0,.slice none 0 0,.slice none 0 0,.slice none 0 0] 30)).alloc (.cells #[.slice none 0 0,.slice none 0 0,.slice none 0 0,.slice none 0 0] 30)):=
  ⟨Nat.zero_le _,rfl,rfl,World.ownsRow_nil _ _ _ _,bX _ _ _,bL _ _ _,((aL _ _).alloc (aC _) _).alloc (by simp) _⟩
 go_cut[7] (fun _ wx=>∃acc vc,MR w l l.length acc vc wx)
 case first=>
  go_wp2
  go_loopw[7] (fun vk wr=>∃ (k:Nat) (acc:List Ct) (vc:Value),vk= .int .i64 k∧MR w l k acc vc wr) (fun vk _=>l.length-(intOf vk).toNat)
  case atStart=>exact⟨0,[],_,rfl,uE⟩
  case round=>
   clear uE;obtain⟨k,acc,vc,rfl,hN⟩:=hrel;rcases Nat.lt_or_ge k l.length with bA | gX
   ·obtain⟨b,off,rfl,kZ,c0,c1,c2,c3,c4,c5,c6⟩:=h.ct hN.bC (aC _) k bA
    have HM:=ah (HKEY.out l[k] (List.getElem_mem bA));have Jc:=ah (Dn acc l k bA);have HIS:=ah (Ga acc l k bA);have uJ:=ah (Aq acc l k bA);have Jd:=ah (tQ (c:=l[k]));have jK:(k:Int)<l.length:=by omega
    have hz:=hN.bC.size;have mG:w.heap.size+1<wr.heap.size:=(bq hN.k2).1;have HN:=ah hN;obtain⟨d0,d1,d2,d3,_⟩:=ay hN.k1;have f0:=aA hN.k1 0;have f1:=aA hN.k1 1;have f2:=aA hN.k1 2;have f3:=aA hN.k1 3;clear hN;have Tx:=ah (fun W (hW:Below wr.heap.size wr W)=>h.ct (HN.out.bC.trans (hW.mono HN.out.bC.size)) (aC _) k bA);generalize l[k]=c at*;have zA:=ah (fun W=>FP c W);obtain⟨r1,r2,r3,r4,r5,r6,r7⟩:=c;simp only at c0 c1 c2 c3 c4 c5 c6;clear d0 d1 d2 d3 f0 f1 f2 f3;go_wp2_with fail
    obtain⟨mb,hmb⟩:∃mb,mX ⟨r1,r2,r3,r4,r5,r6,r7⟩=mb:=⟨_,rfl⟩;have hmay:=zA.out wr;rw[hmb]at hmay Jc HIS uJ Jd;refine hmay.mono ?_;rintro e w3 ⟨rfl,bT⟩;have lI:=ah bT;have oO:=bT.size;clear hmay hmb zA bT c0 c1 c2 c3 c4 c5 c6
    cases mb with
    | false=>
     have HS:Hid (newS l ids=(⟨[],[],[],[]⟩,1)):=O7.out 1 (by rw[HN.out.go,Jc.out (by first | rfl | trivial)]) (by omega);obtain⟨d0,d1,d2,d3,_⟩:=ay (aj HN.out.k1 lI.out (by omega));have f0:=aA (aj HN.out.k1 lI.out (by omega)) 0;have f1:=aA (aj HN.out.k1 lI.out (by omega)) 1;have f2:=aA (aj HN.out.k1 lI.out (by omega)) 2;have f3:=aA (aj HN.out.k1 lI.out (by omega)) 3;have jw:=HN.out.bC.trans (lI.out.mono HN.out.bC.size);go_wp2;refine bodyPost_ret (v:=.tuple #[.agg #[.slice none 0 0,.slice none 0 0,.slice none 0 0,.slice none 0 0],.int .i64 1]) (by simp[results,Tryz.results22,go_sem, *]) rfl ⟨⟨⟨none,0,0⟩,⟨none,0,0⟩,⟨none,0,0⟩,⟨none,0,0⟩⟩,by rw[HS.out],by rw[HS.out];exact kT _,?_⟩;exact(((jw.setCell (aC _) _).setCell (aC _) _).setCell (aC _) _).setCell (aC _) _
    | true=>
     obtain⟨b1,b2,b3,b4⟩:=Jd.out (by first | rfl | trivial);obtain⟨Ox,zB,rfl,_,_⟩:=aO HN.out.row;have HE2:=ah (aj HN.out.k2 lI.out mG);go_upto_region 9 with fail
     have AP:Below w3.heap.size w3 w3:=aL _ _
     have Nv:Hid (∀W,Below w3.heap.size w3 W→Calls Tryz.prog 50 #[.agg #[.slice Ox acc.length zB,.slice none 0 0,.slice none 0 0,.slice none 0 0],.string r1] W fun e w'=>e= .returned (.int .i64 (bJ acc r1))∧Below w3.heap.size w3 w'):=
      ah (fun W hW=>(mD ⟨⟨Ox,acc.length,zB⟩,⟨none,0,0⟩,⟨none,0,0⟩,⟨none,0,0⟩⟩ acc r1 W (aG (aI (aI HN.out.row lI.out (aC _)) hW (aC _)))).mono (fun _ _ ⟨he,hb⟩=>⟨he,hW.trans (hb.mono hW.size)⟩))
     have KS:Hid (∀W,Below w3.heap.size w3 W→(Below w3.heap.size w3 W∧W.cell? ⟨w.heap.size+1,0,none⟩=some (.slice Ox acc.length zB)∧W.cell? ⟨w.heap.size+1,1,none⟩=some (.slice none 0 0)∧W.cell? ⟨w.heap.size+1,2,none⟩=some (.slice none 0 0)∧W.cell? ⟨w.heap.size+1,3,none⟩=some (.slice none 0 0)∧W.cell? ⟨b,off+k*7,none⟩=some (.string r1))):=
      ah (fun W hW=>by
       obtain⟨e0,e1,e2,e3,_⟩:=ay (aj HE2.out hW (by omega));obtain⟨bb,oo,FB,aeo,c0,-⟩:=Tx.out W (lI.out.trans (hW.mono oO));injection FB with FB;injection FB with WT WU;subst WT WU
       exact⟨hW,e0,e1,e2,e3,c0⟩)
     go_cut[34] (fun v34 wx=>v34= .bool (decide (0≤bJ acc r1))∧Below w3.heap.size w3 wx)
     case first=>
      go_region_held3 (fun w'=>Below w3.heap.size w3 w'∧w'.cell? ⟨w.heap.size+1,0,none⟩=some (.slice Ox acc.length zB)∧w'.cell? ⟨w.heap.size+1,1,none⟩=some (.slice none 0 0)∧w'.cell? ⟨w.heap.size+1,2,none⟩=some (.slice none 0 0)∧w'.cell? ⟨w.heap.size+1,3,none⟩=some (.slice none 0 0)∧w'.cell? ⟨b,off+k*7,none⟩=some (.string r1))
       (first | assumption | exact KS.out _ (by assumption) | exact KS.out _ AP.drew)
       ((go_at_call 50;(with_reducible refine(Nv.out _ (by go_split_ands;assumption)).mono ?_);rintro en w9 ⟨rfl,jW⟩))
      all_goals
       go_wp2;go_meet;exact⟨by rfl,by first | assumption | exact AP.drew⟩
     case rest=>
     obtain⟨rfl,bR⟩:=hcut;clear Nv KS AP HE2;have lC:=ah bR;have ng:=ah (lI.out.trans (bR.mono oO));have mP:=ng.out.size;obtain⟨bb,oo,FB,aeo,c0,c1,c2,c3,c4,c5,c6⟩:=Tx.out wc ng.out;injection FB with FB;injection FB with WT WU;subst WT WU;clear bR;by_cases sQ:0≤bJ acc r1
     ·have HS:Hid (newS l ids=(⟨[],[],[],[]⟩,7)):=O7.out 7 (by rw[HN.out.go,HIS.out (by first | rfl | trivial) sQ]) (by omega)
      obtain⟨d0,d1,d2,d3,_⟩:=ay (aj HN.out.k1 ng.out (by omega));have f0:=aA (aj HN.out.k1 ng.out (by omega)) 0;have f1:=aA (aj HN.out.k1 ng.out (by omega)) 1;have f2:=aA (aj HN.out.k1 ng.out (by omega)) 2;have f3:=aA (aj HN.out.k1 ng.out (by omega)) 3;have jw:=HN.out.bC.trans (ng.out.mono HN.out.bC.size);have Yz:decide (0≤bJ acc r1)=true:=by simpa using sQ
      rw[Yz];clear sQ Yz;go_wp2;refine bodyPost_ret (v:=.tuple #[.agg #[.slice none 0 0,.slice none 0 0,.slice none 0 0,.slice none 0 0],.int .i64 7]) (by simp[results,Tryz.results22,go_sem, *]) rfl ⟨⟨⟨none,0,0⟩,⟨none,0,0⟩,⟨none,0,0⟩,⟨none,0,0⟩⟩,by rw[HS.out],by rw[HS.out];exact kT _,?_⟩;exact(((jw.setCell (aC _) _).setCell (aC _) _).setCell (aC _) _).setCell (aC _) _
     ·have Yz:decide (0≤bJ acc r1)=false:=by simpa using sQ
      rw[Yz];have Jf:=ah (uJ.out (by first | rfl | trivial) (by omega));have O9:=ah (aI HN.out.row ng.out (aC _));obtain⟨e0,e1,e2,e3,_⟩:=ay (aj HN.out.k2 ng.out mG);have u_:Hid (∀ (W:World) (B:Nat),W.heap.size=B→Rd (W.alloc (.cells #[.string r1,.int .i64 r2,.int .i64 r3,.int .i64 r4,.int .i64 r5,.int .i64 (r4-r5),.int .i64 (r5-r3)] 54)) (some ⟨B,0,none⟩) (aJ kY [fill ⟨r1,r2,r3,r4,r5,r6,r7⟩])):=fun W B hW=>tu W _ hW [.string r1,.int .i64 r2,.int .i64 r3,.int .i64 r4,.int .i64 r5,.int .i64 (r4-r5),.int .i64 (r5-r3)] _
      have kH:acc.length<4:=by have:=HN.out.len;omega
      have hzq:w.heap.size+1<wc.heap.size:=by omega
      clear uJ HIS Jc sQ Yz;go_wp2_with ((with_reducible refine aZ 56 ?_);refine nW rfl _ _ rfl (w.heap.size+2) _ acc.length acc rfl ((O9.out.alloc _).alloc _) _ 1 1 [fill ⟨r1,r2,r3,r4,r5,r6,r7⟩] rfl rfl (u_.out _ _ (by simp)) (by omega) (by simp;omega) ?_)
      intro v6 w6 uf Dw Gj
      have hbW:Below w.heap.size w ((wc.alloc (.cells #[.string r1,.int .i64 r2,.int .i64 r3,.int .i64 r4,.int .i64 r5,.int .i64 (r4-r5),.int .i64 (r5-r3)] 54)).alloc (.cells #[.string r1,.int .i64 r2,.int .i64 r3,.int .i64 r4,.int .i64 r5,.int .i64 (r4-r5),.int .i64 (r5-r3)] 54)):=
       ((HN.out.bC.trans (ng.out.mono HN.out.bC.size)).alloc (Nat.le_trans hz mP) _).alloc (by simp;omega) _
      have nG:Below w.heap.size w w6:=hbW.grown Dw (by simp;omega) (fun g hg=>by have:=bQ HN.out.row g hg;omega);have gL:=(iC Dw (b:=w.heap.size) (B:=w.heap.size+2) (by simp;omega) (by omega) (bQ HN.out.row)).trans ((Below.heap_alloc _ _ _ (by simp;omega)).trans ((Below.heap_alloc _ _ _ (by omega)).trans (aj HN.out.k1 ng.out (by omega))));have dH:=(iC Dw (b:=w.heap.size+1) (B:=w.heap.size+2) (by simp;omega) (by omega) (bQ HN.out.row)).trans ((Below.heap_alloc _ _ _ (by simp;omega)).trans ((Below.heap_alloc _ _ _ (by omega)).trans (aj HN.out.k2 ng.out mG)));obtain⟨I7,cap6,rfl,_,_⟩:=aO uf;obtain⟨g0,g1,g2,g3,_⟩:=ay dH;have g0f:=aA dH 0;have fJ:=ah gL;have eT:=ah dH;have zC:=ah uf;clear gL dH uf Dw Gj hbW e0 e1 e2 e3 c0 c1 c2 c3 c4 c5 c6;go_wp2;go_roundw
      case rel=>
       refine⟨k+1,acc++ [fill ⟨r1,r2,r3,r4,r5,r6,r7⟩],.slice I7 (acc.length+1) cap6,by go_num,⟨by omega,by rw[HN.out.go,Jf.out],by rw[List.length_append,HN.out.len];rfl,?_,?_,?_,?_⟩⟩
       ·rw[List.length_append];exact aM zC.out _ (by simp) _
       ·rw[aX _ _ _ (by simp)];exact fJ.out
       ·exact ow eT.out _
       ·exact nG.setCell (by simp) _
      case measure=>simp[intOf];omega
   ·have hk:k=l.length:=by have:=hN.le;omega
    subst hk;have HN:=ah hN;clear hN;go_wp2;go_meet;exact⟨acc,vc,HN.out⟩
 case rest=>
 obtain⟨acc,vc,hN⟩:=hcut;have xK:Hid (lG [] l=(0,acc)):=by show _=_;rw[hN.go,Dp _ _ _ (aC _)]
 have fP:acc.length≤4:=by rw[hN.len];exact h4
 have hz:=hN.bC.size;have mG:w.heap.size+1<wc.heap.size:=(bq hN.k2).1;have HN:=ah hN;clear hN uE g4 g4';by_cases hi:0≤ids∧ids≤1000
 ·obtain⟨hi0,hi1⟩:=hi
  have HS:Hid (newS l ids=(⟨acc,iM [] (0,ids),[],[]⟩,0)):=by show _=_;unfold newS;rw[if_neg (by omega),xK.out,if_neg (by simp),if_pos ⟨hi0,hi1⟩]
  obtain⟨Ox,zB,rfl,_,_⟩:=aO HN.out.row;obtain⟨e0,e1,e2,e3,_⟩:=ay HN.out.k2;have Zl:=aA HN.out.k2 1;go_wp2_with fail
  refine(JL ids _ hi0 hi1).mono ?_;rintro e w1 ⟨v1,rfl,nY,bB⟩;have dX:=bB.size;have dH:=aj HN.out.k2 bB mG;have eu:=aI HN.out.row bB (aC _);have jw:=HN.out.bC.trans (bB.mono HN.out.bC.size);obtain⟨Et,Cu,rfl,_,_⟩:=aO nY;clear e0 e1 e2 e3 Zl;obtain⟨e0,e1,e2,e3,_⟩:=ay dH;have Zl:=aA dH 1;have gL:=aj HN.out.k1 bB (by omega);obtain⟨d0,d1,d2,d3,_⟩:=ay gL;have f0:=aA gL 0;have f1:=aA gL 1;have f2:=aA gL 2;have f3:=aA gL 3;have HRW:=ah eu;have HO1:=ah nY;have hq:w.heap.size<w.heap.size+2:=by omega
  have vW:w.heap.size+1<w.heap.size+2:=by omega
  have CQ:w.heap.size<wc.heap.size:=by omega
  have JJ:w.heap.size+1<wc.heap.size:=by omega
  clear gL dH eu nY bB;go_wp2;refine bodyPost_ret (v:=.tuple #[.agg #[.slice Ox acc.length zB,.slice Et (iM [] (0,ids)).length Cu,.slice none 0 0,.slice none 0 0],.int .i64 0]) (by simp[results,Tryz.results22,go_sem, *]) rfl (show uY _ _ _ _ from ?_);refine⟨⟨⟨Ox,acc.length,zB⟩,⟨Et,(iM [] (0,ids)).length,Cu⟩,⟨none,0,0⟩,⟨none,0,0⟩⟩,by rw[HS.out],?_,?_⟩
  ·rw[HS.out]
   exact⟨aG (aM (aM (aM (aM (aM HRW.out _ vW _) _ hq _) _ hq _) _ hq _) _ hq _),aG (aM (aM (aM (aM (aM HO1.out _ JJ _) _ CQ _) _ CQ _) _ CQ _) _ CQ _),⟨[],dI.nil _ _ _,trivial⟩,Sl.nil _ _⟩
  ·exact((((jw.setCell (by simp) _).setCell (aC _) _).setCell (aC _) _).setCell (aC _) _).setCell (aC _) _
 ·have HS:Hid (newS l ids=(⟨[],[],[],[]⟩,1)):=by show _=_;unfold newS;rw[if_neg (by omega),xK.out,if_neg (by simp),if_neg hi]
  have hd:ids<0∨1000<ids:=by omega
  obtain⟨d0,d1,d2,d3,_⟩:=ay HN.out.k1;have f0:=aA HN.out.k1 0;have f1:=aA HN.out.k1 1;have f2:=aA HN.out.k1 2;have f3:=aA HN.out.k1 3;have jw:=HN.out.bC;clear hi;rcases hd with hd | hd
  all_goals
   go_wp2;refine bodyPost_ret (v:=.tuple #[.agg #[.slice none 0 0,.slice none 0 0,.slice none 0 0,.slice none 0 0],.int .i64 1]) (by simp[results,Tryz.results22,go_sem, *]) rfl ⟨⟨⟨none,0,0⟩,⟨none,0,0⟩,⟨none,0,0⟩,⟨none,0,0⟩⟩,by rw[HS.out],by rw[HS.out];exact kT _,?_⟩;exact(((jw.setCell (aC _) _).setCell (aC _) _).setCell (aC _) _).setCell (aC _) _
theorem Bf (a n:Int) (w:World) (hn:0<n) (uw:n≤4611686018427387904):
  Calls Tryz.prog 18 #[.int .i64 a,.int .i64 n] w fun e w'=>e= .returned (.int .i64 (a%n))∧w=w':=by
 have h2:=Int.emod_nonneg a (show n≠0 by omega);have h3:=Int.emod_lt_of_pos a hn;by_cases h:0≤a
 ·go_enter Tryz.func18,Tryz.ntmps18
  go_wp2;go_ret;exact⟨rfl,rfl⟩
 ·have h4:=ah (Dc a n hn (by omega))
  have h5:a.tmod n≤0:=by rw[←Int.neg_neg a,Int.neg_tmod];have:=Int.tmod_nonneg n (show 0≤ -a by omega);omega
  have h6: -n<a.tmod n:=by rw[←Int.neg_neg a,Int.neg_tmod];have:=Int.tmod_lt_of_pos (-a) hn;omega
  go_enter Tryz.func18,Tryz.ntmps18
  go_wp2;all_goals go_ret
  all_goals refine⟨eH ?_,rfl⟩
  ·rw[←h4.out,if_pos (by assumption)]
  ·rw[←h4.out,if_neg (by omega)]
theorem jm (a n:Int) (w:World) (hn:0<n) (uw:n≤4611686018427387904):
  Calls Tryz.prog 18 #[.int .i64 a,.int .i64 n] w fun e w'=>e= .returned (.int .i64 (a%n))∧w'=w:=
 (Bf a n w hn uw).mono fun _ _ ⟨h1,h2⟩=>⟨h1,h2.symm⟩
theorem TB (v:Value) (l:List Ct) (ids:Int) (w:World) (h:oN w v l) (uZ:∀c∈l,c.key.size≤maxLen):
  Calls Tryz.prog 20 #[v,.int .i64 ids] w (uY w (newS l ids)):=by
 by_cases h4:4<l.length
 ·exact O6 v l ids w h h4
 ·exact SS v l ids w h (by omega) uZ
theorem Qr (v:Value) (l:List Ct) (ids:Int) (w:World) (h:oN w v l) (uZ:∀c∈l,c.key.size≤maxLen):
  Calls Tryz.prog 22 #[v,.int .i64 ids] w (uY w (newS l ids)):=by
 by_cases h4:4<l.length
 ·exact Nu v l ids w h h4
 ·exact Qq v l ids w h (by omega) uZ
def kCt:Ct:=⟨⟨#[120]⟩,0,0,10,4,0,0⟩
def TD:Bk:=⟨[⟨⟨#[120]⟩,0,0,10,4,6,4⟩],[(0,5)],[],[]⟩
theorem Nw:newS [kCt] 5=(TD,0):=by decide +kernel
theorem Ny:zL TD=true:=by decide +kernel
theorem Nz (w:World):Calls Tryz.prog 7 #[] w fun e w'=>e= .returned (.bool true)∧Below w.heap.size w w':=by
 have bB:Below w.heap.size w (w.alloc (.cells #[.string ⟨#[120]⟩,.int .i64 0,.int .i64 0,.int .i64 10,.int .i64 4,.int .i64 0,.int .i64 0] 54)):=(aL _ _).alloc (aC _) _
 have HS:Hid (oN (w.alloc (.cells #[.string ⟨#[120]⟩,.int .i64 0,.int .i64 0,.int .i64 10,.int .i64 4,.int .i64 0,.int .i64 0] 54)) (.slice (some ⟨w.heap.size,0,none⟩) 1 1) [kCt]):=
  ah (aG (dB w w.heap.size w.heap.size 54 7 #[.string ⟨#[120]⟩,.int .i64 0,.int .i64 0,.int .i64 10,.int .i64 4,.int .i64 0,.int .i64 0] 1 rfl (aC _) (by omega) rfl))
 go_enter Tryz.func7,Tryz.ntmps7
 go_wp2_with fail
 refine(TB _ [kCt] 5 _ HS.out (by intro c hc;simp at hc;subst hc;unfold maxLen;decide)).mono ?_;rw[Nw];rintro e w2 ⟨⟨⟨ca,cn,cc⟩,⟨fa,fn,fc⟩,⟨la,ln,lc⟩,⟨ba,bn,bc⟩⟩,rfl,hm,bO⟩;have jw:=bB.trans (bO.mono bB.size);have eD:Below w2.heap.size w2 (w2.alloc (.cells #[.slice ca cn cc,.slice fa fn fc,.slice la ln lc,.slice ba bn bc] 30)):=(aL _ _).alloc (aC _) _;have HM:=ah (hm.keep eD (aC _));have hmc:=hm.c;have hx:=Sl.lens (s:=⟨ca,cn,cc⟩) hmc;obtain⟨e1,g1,g2⟩:=hx;simp only at e1 g1 g2;have e2:cn=1:=e1;subst e2;obtain⟨b,off,rfl,kZ,c0,c1,c2,c3,c4,c5,c6⟩:=dI.ct (l:=TD.cs) (ao:=ca) (cap:=cc) hmc (aL _ w2) (aC _) 0 (by decide);simp only[Nat.zero_mul,Nat.add_zero]at c0 c1 c2 c3 c4 c5 c6;simp only[TD,List.getElem_cons_zero]at c5 c6;have M5:Hid (Tq TD):=ah ⟨by decide,by decide,by intro c hc;simp[TD]at hc;subst hc;unfold maxLen;decide,by intro l hl;simp[TD]at hl⟩;have f_:=jw.size;simp only[TD,List.length_cons,List.length_nil,Nat.zero_add]at g1;clear hm hmc e1 HS bB bO c0 c1 c2 c3 c4 eD;go_wp2_with ((go_at_call 12;refine(yD ⟨⟨some ⟨b,off,none⟩,1,cc⟩,⟨fa,fn,fc⟩,⟨la,ln,lc⟩,⟨ba,bn,bc⟩⟩ TD _ HM.out M5.out).mono ?_);rw[Ny];rintro e w4 ⟨rfl,bR⟩)
 go_ret;exact⟨rfl,(jw.alloc f_ _).trans (bR.mono (by simp;omega))⟩
theorem Hg (v:Value) (l:List Rg) (w:World) (h:fD w v l) (hs:Small l) (hl:l.length<1000000):
  Calls Tryz.prog 13 #[v] w fun e w'=>e= .returned (.int .i64 (dG l))∧Below w.heap.size w w':=by
 obtain⟨ao,cap,rfl,dO,hm⟩:=Sl.shape h
 go_enter Tryz.func13,Tryz.ntmps13
 go_wp2
 go_loopw[3,4] (fun n i wr=>∃ (k:Nat) (N:Int),k≤l.length∧i= .int .i64 k∧n= .int .i64 N∧Hid (N=dG (l.take k))∧Below w.heap.size w wr) (fun _ i _=>l.length-(intOf i).toNat)
 case atStart=>exact⟨0,0,Nat.zero_le _,rfl,rfl,ah rfl,aL _ _⟩
 case round=>
  obtain⟨k,N,hk,rfl,rfl,HN,hb⟩:=hrel;by_cases bA:k<l.length
  ·obtain⟨b,off,rfl,kZ,lF,je⟩:=h.pair hb (aC _) k bA
   have hbd:=kR _ (hs.take k);rw[←HN.out]at hbd;have hr:=hs l[k] (List.getElem_mem _);have KQ:(l.take k).length≤k:=List.length_take_le _ _;have HT:=ah (sJ (l.take k) [l[k]]);have HS:=ah (aS l k bA);generalize l[k]=r at*;obtain⟨p,q⟩:=r;simp only at lF je hr;obtain⟨vQ,uH,KR⟩:=hr;obtain⟨Y9,Y_⟩:=hbd;have jK:(k:Int)<l.length:=by omega
   have i1:IntKind.i64.wrap (N+q)=N+q:=IntWalk.i64_in _ (by omega);have i2:IntKind.i64.wrap (N+q-p)=N+q-p:=IntWalk.i64_in _ (by omega);clear Y9 Y_ KQ;go_wp2_with fail
   go_quiet (fail)
   clear i1 i2;go_wp2;go_roundw
   case rel=>exact⟨k+1,N+q-p,by omega,by go_num,rfl,ah (by rw[HS.out,HT.out,HN.out];simp[dG];omega),below_drewN hb _⟩
   case measure=>simp[intOf];omega
  ·have HE:Hid (N=dG l):=ah (by rw[HN.out,List.take_of_length_le (by omega)])
   go_wp2;go_ret;exact⟨eH HE.out,hb⟩
end Go.Proofs.YtlfopoimbbpfdaaGreat
