/- What the law asks, in parts: ZI. -/
import Derived.Deep.DrawnRows
import Derived.Test.YtlfopoimbbpfdaaGreatPk19
import Derived.Test.YtlfopoimbbpfdaaGreatPk5
set_option linter.all false
set_option maxRecDepth 100000
set_option maxHeartbeats 16000000
namespace Go.Proofs.YtlfopoimbbpfdaaGreat
open Go.RowKit
section
theorem Ab.grown {w0 W W':World} {T T':TypeId} {E E':Nat} {v v':Value} {n n' base':Nat} {cs cs':List Value} (h:Ab w0 W T E v n cs) (hv:W.ownsRow base' T' E' v' n' cs') (hg:W.grownBy W' v'.ownBlock) (eP:T≠T'):Ab w0 W' T E v n cs:=by
 rcases h with h | h
 ·exact .inl h
 ·exact .inr (tJ h hv hg eP)
def rF (b:Bk) (d ep:Int):Bk×Int:=
 if (gJ b d ep).2=false then(b,2)
 else(⟨(gJ b d ep).1.sl.foldl fH b.cs,bK b.free ((gJ b d ep).1.used.foldl eU (gJ b d ep).1.ids),b.ls.eraseIdx (lg b.ls d).toNat,(gJ b d ep).1.used.foldl iy b.bound⟩,0)
structure Bh (b:Bk) (l:Ls):Prop where
 nc:b.cs.length<1000
 nf:b.free.length<10000
 nl:b.ls.length<10000
 nb:b.bound.length<10000
 ns:l.sl.length<1000
 nu:l.used.length<10000
 fr:dw b.free
 row:dw l.ids
 len:dG l.ids<10000
 ct:Jy 2199023255552 b.cs
 sc:∀s∈l.sl,Tf s
 used:∀n∈l.used,-1000000000000<n∧n<1000000000000
theorem JN (us:List Int):∀bd:List Int,(us.foldl iy bd).length=bd.length+us.length:=by
 induction us with
 | nil=>intro bd;simp
 | cons u us ih=>
  intro bd;rw[List.foldl_cons,ih]
  have h:(iy bd u).length=bd.length+1:=by
   unfold iy;rw[List.length_append,List.length_cons];have:=congrArg List.length (List.takeWhile_append_dropWhile (p:=fun x=>decide (x<u)) (l:=bd));rw[List.length_append]at this;omega
  rw[h,List.length_cons];omega
theorem wY (l:List cB) (k:Nat):(aJ j_ l).take (k*7)=aJ j_ (l.take k):=by
 induction l generalizing k with
 | nil=>simp[aJ]
 | cons x l ih=>
  cases k with
  | zero=>simp[aJ]
  | succ k=>
   have e:(k+1)*7=k*7+7:=by omega
   rw[List.take_succ_cons,aY,aY,←ih k,e];simp[j_]
theorem wZ (l:List cB) (k:Nat):(aJ j_ l).drop (k*7)=aJ j_ (l.drop k):=by
 induction l generalizing k with
 | nil=>simp[aJ]
 | cons x l ih=>
  cases k with
  | zero=>simp
  | succ k=>
   have e:(k+1)*7=k*7+7:=by omega
   rw[List.drop_succ_cons,aY,←ih k,e];simp[j_]
theorem Bj {l:List Rg} (rs:List Rg) (hl:dw l) (hr:dw rs):dw (bK l rs):=(sZ rs l hl (fun r h=>hr.1 r h)).1
attribute [local go_sem ↓] Go.wp_at_zero Go.wp_at_succ
theorem NG (x:dN) (b:Bk) (d ep:Int) (w:World) (h:iA w x b) (hl:Dl b) (hF:(gJ b d ep).2=true→Bh b (gJ b d ep).1):
  Calls Tryz.prog 29 #[iJ x,.int .i64 d,.int .i64 ep] w (nK w (rF b d ep)):=by
 obtain⟨⟨ca,cn,cc⟩,⟨fa,bD,fc⟩,⟨la,ln,lc⟩,⟨ba,bE,bc⟩⟩:=x;obtain⟨W3,zY,k0,k1,bB,dX⟩:∃W3,((w.alloc (.cells #[.slice ca cn cc,.slice fa bD fc,.slice la ln lc,.slice ba bE bc] 30)).alloc (.cells #[.slice none 0 0,.slice none 0 0,.slice none 0 0,.slice none 0 0] 30))=W3∧W3.heap[w.heap.size]? =some (.cells #[.slice ca cn cc,.slice fa bD fc,.slice la ln lc,.slice ba bE bc] 30 (0,0))∧W3.heap[w.heap.size+1]? =some (.cells #[.slice none 0 0,.slice none 0 0,.slice none 0 0,.slice none 0 0] 30 (0,0))∧Below w.heap.size w W3∧W3.heap.size=w.heap.size+2:=⟨_,rfl,bX _ _ _,bL _ _ _,((aL _ _).alloc (aC _) _).alloc (by simp) _,by simp⟩;have TF:=ah h;have HM:=ah (h.keep bB (aC _));have HB:=ah hl;have R7:=ah hF;have HW3:=ah zY;have FE:=ah dX;have uK:=ah k0;have eT:=ah k1;have eY:=ah bB;clear h hl hF zY dX k0 k1 bB;change Calls Tryz.prog _ #[.agg #[.slice ca cn cc,.slice fa bD fc,.slice la ln lc,.slice ba bE bc],.int .i64 d,.int .i64 ep] w _;obtain⟨c0,c1,c2,c3,_⟩:=ay uK.out
 go_enter Tryz.func29,Tryz.ntmps29
 go_upto_region 1 with fail
 rw[HW3.out];go_wp2_with fail
 refine(Dz ⟨⟨ca,cn,cc⟩,⟨fa,bD,fc⟩,⟨la,ln,lc⟩,⟨ba,bE,bc⟩⟩ b d ep _ HM.out HB.out).mono ?_;obtain⟨⟨l,q⟩,hlq⟩:∃r:Ls×Bool,gJ b d ep=r:=⟨_,rfl⟩;rw[hlq];rintro e w4 ⟨⟨y1,y2,y3,y4,⟨y5,y6,y7⟩,⟨y8,y9,dz⟩,⟨dA,dJ,cK⟩⟩,rfl,hy,bR⟩;simp only at hy;have HLQ:=ah hlq;clear hlq;obtain⟨q6,_,_⟩:=Sl.lens (s:=⟨y5,y6,y7⟩) (aG hy.s);obtain⟨q9,_,_⟩:=Sl.lens (s:=⟨y8,y9,dz⟩) (aG hy.i);obtain⟨ZK,_,_⟩:=Sl.lens (s:=⟨dA,dJ,cK⟩) (aG hy.u);simp only at q6 q9 ZK;subst q6 q9 ZK;have dX:=FE.out;have nH:=aj uK.out bR (by omega);have dH:=aj eT.out bR (by omega);have eD:Below w4.heap.size w4 (w4.alloc (.cells #[.int .i64 y1,.int .i64 y2,.int .i64 y3,.int .i64 y4,.slice y5 l.sl.length y7,.slice y8 l.ids.length dz,.slice dA l.used.length cK] 48)):=(aL _ _).alloc (aC _) _;have aah:=bR.trans (eD.mono bR.size);have HY:=ah ((hy.base (show w.heap.size≤W3.heap.size by omega)).keep eD (aC _));have sw:=ah (aj nH eD (bq nH).1);have eF:=ah (aj dH eD (bq dH).1);have HQ8:=ah (heap_alloc_new w4 (.cells #[.int .i64 y1,.int .i64 y2,.int .i64 y3,.int .i64 y4,.slice y5 l.sl.length y7,.slice y8 l.ids.length dz,.slice dA l.used.length cK] 48));have lC:=ah (eY.out.trans (aah.mono eY.out.size));have hs4:=bR.size;have mP:w.heap.size<(w4.alloc (.cells #[.int .i64 y1,.int .i64 y2,.int .i64 y3,.int .i64 y4,.slice y5 l.sl.length y7,.slice y8 l.ids.length dz,.slice dA l.used.length cK] 48)).heap.size:=by simp;omega
 have hp8:w.heap.size+2≤w4.heap.size:=by omega
 clear nH dH eD aah bR hy c0 c1 c2 c3 HM eY uK eT hs4 dX;go_upto_region 2 with fail
 generalize w4.alloc (.cells #[.int .i64 y1,.int .i64 y2,.int .i64 y3,.int .i64 y4,.slice y5 l.sl.length y7,.slice y8 l.ids.length dz,.slice dA l.used.length cK] 48)=w5 at*;generalize w4.heap.size=p8 at*
 cases q with
 | false=>
  have HF:Hid (rF b d ep=(b,2)):=ah (by unfold rF;rw[HLQ.out];rfl);obtain⟨d0,d1,d2,d3,_⟩:=ay sw.out;obtain⟨e0,e1,e2,e3,_⟩:=ay eF.out;have f0:=aA eF.out 0;have f1:=aA eF.out 1;have f2:=aA eF.out 2;have f3:=aA eF.out 3;go_wp2;refine bodyPost_ret (v:=.tuple #[.agg #[.slice ca cn cc,.slice fa bD fc,.slice la ln lc,.slice ba bE bc],.int .i64 2]) (by simp[results,Tryz.results29,go_sem, *]) rfl (show nK _ _ _ _ from ?_);have zi:=(((lC.out.setCell (p:=⟨w.heap.size+1,0,none⟩) (by simp) (.slice ca cn cc)).setCell (p:=⟨w.heap.size+1,1,none⟩) (by simp) (.slice fa bD fc)).setCell (p:=⟨w.heap.size+1,2,none⟩) (by simp) (.slice la ln lc)).setCell (p:=⟨w.heap.size+1,3,none⟩) (by simp) (.slice ba bE bc);rw[HF.out];exact⟨⟨⟨ca,cn,cc⟩,⟨fa,bD,fc⟩,⟨la,ln,lc⟩,⟨ba,bE,bc⟩⟩,rfl,TF.out.keep zi (aC _),zi⟩
 | true=>
  have rW:Hid (Bh b l):=ah (by have:=R7.out;rw[HLQ.out]at this;exact this rfl);have zR:=rW.out.nc;obtain⟨q3,q4,q5⟩:=Sl.lens (s:=⟨ca,cn,cc⟩) TF.out.c;simp only at q3 q4 q5;subst q3;have u_:=ah (dI.rd (f:=kY) (E:=7) (l:=b.cs) TF.out.c);obtain⟨d0,d1,d2,d3,_⟩:=ay sw.out;clear R7;go_upto_region 5 with((with_reducible refine aZ 31 ?_);refine nW rfl _ _ rfl w5.heap.size _ 0 [] rfl (dB _ _ _ _ 7 #[] 0 rfl (aC _) (by omega) rfl) ca b.cs.length cc b.cs rfl rfl ((u_.out.keep lC.out (aC _)).alloc _) (by omega) (by simp) ?_;intro v5 w6 gP hg5 m_;obtain⟨rP,cp,rfl,_,_⟩:=aO gP;have gD:=gZ hg5;have k5:=aj sw.out gD (by omega);obtain⟨d0,d1,d2,d3,_⟩:=ay k5;have f00:=aA k5 0)
  rw[Nat.zero_add,List.nil_append]at gP
  have aai:Hid (∀V,V=w6.setCell ⟨w.heap.size,0,none⟩ (.slice rP b.cs.length cp)→Rq w.heap.size (w.heap.size+1) p8 w V ⟨⟨rP,b.cs.length,cp⟩,⟨fa,bD,fc⟩,⟨la,ln,lc⟩,⟨ba,bE,bc⟩⟩ b ⟨y1,y2,y3,y4,⟨y5,l.sl.length,y7⟩,⟨y8,l.ids.length,dz⟩,⟨dA,l.used.length,cK⟩⟩ l):=ah (fun V hV=>by
   have aK:∀c,c≠w.heap.size→V.heap[c]? =w6.heap[c]? :=fun c hc=>by rw[hV];exact aX _ _ _ (fun e=>hc e.symm) _
   have mK:=(bq eF.out).1;have hs8:=(bq HQ8.out).1;have WZ:Below w.heap.size w V:=by rw[hV];exact(lC.out.trans (gD.mono lC.out.size)).setCell (aC _) _
   have xI:w.heap.size≤w5.heap.size:=by omega
   have DL:V.heap[p8]? =some _:=(aK p8 (by omega)).trans (aj HQ8.out gD hs8);have hy5:=(HY.out.keep gD (aC _)).other (W':=V) aK k5 (by decide) (by decide) (by decide)
   exact⟨WZ,by rw[hV];exact ow k5 _,(aK _ (by omega)).trans (aj eF.out gD mK),DL,aC _,by omega,by omega,by omega,aF (aN gP xI) aK k5 (by decide),.inl TF.out.f,TF.out.l,.inl TF.out.b,hy5⟩)
  have HRQ:=ah (aai.out _ rfl);clear aai gP hg5 m_ gD k5 d0 d1 d2 d3 f00 sw eF HQ8 lC HY u_;generalize w6.setCell ⟨w.heap.size,0,none⟩ (.slice rP b.cs.length cp)=W7 at*;have adZ:=rW.out.ns;obtain⟨e0,e1,e2,e3,e4,e5,e6,_⟩:=aB HRQ.out.k8;go_upto_block 0 with fail
  go_cut[] (fun wx=>Rq w.heap.size (w.heap.size+1) p8 w wx ⟨⟨rP,b.cs.length,cp⟩,⟨fa,bD,fc⟩,⟨la,ln,lc⟩,⟨ba,bE,bc⟩⟩ ⟨l.sl.foldl fH b.cs,b.free,b.ls,b.bound⟩ ⟨y1,y2,y3,y4,⟨y5,l.sl.length,y7⟩,⟨y8,l.ids.length,dz⟩,⟨dA,l.used.length,cK⟩⟩ l)
  case first=>
   go_wp2
   go_loopw[10] (fun xO wr=>∃j:Nat,j≤l.sl.length∧xO= .int .i64 j∧Rq w.heap.size (w.heap.size+1) p8 w wr ⟨⟨rP,b.cs.length,cp⟩,⟨fa,bD,fc⟩,⟨la,ln,lc⟩,⟨ba,bE,bc⟩⟩ ⟨(l.sl.take j).foldl fH b.cs,b.free,b.ls,b.bound⟩ ⟨y1,y2,y3,y4,⟨y5,l.sl.length,y7⟩,⟨y8,l.ids.length,dz⟩,⟨dA,l.used.length,cK⟩⟩ l) (fun xO _=>l.sl.length-(intOf xO).toNat)
   case atStart=>exact⟨0,Nat.zero_le _,rfl,HRQ.out⟩
   case round=>
    obtain⟨j,hj,rfl,IG⟩:=hrel;have qp:=ah IG;clear IG e0 e1 e2 e3 e4 e5 e6;obtain⟨e0,e1,e2,e3,e4,e5,e6,_⟩:=aB qp.out.k8;simp only[Sv.v]at e4 e5 e6;by_cases bA:j<l.sl.length
    ·have t_:(j:Int)<l.sl.length:=by omega
     have j0:(0:Int)≤(j:Int):=by omega
     obtain⟨sb,so,rfl,Lh,s0,s1,s2,s3,s4⟩:=dI.sc (aG qp.out.ly.s) (aL _ _) (aC _) j bA;have V8:=ah (rW.out.sc l.sl[j] (List.getElem_mem bA));have M5:=ah (mH fH l.sl b.cs j bA);have B_:=rC (l.sl.take j) 2199023255552 b.cs (by omega) rW.out.ct (fun s hs=>rW.out.sc s (List.mem_of_mem_take hs));have HUB:Hid (Jy 4400000000000000 ((l.sl.take j).foldl fH b.cs)):=ah (B_.1.mono (by rw[List.length_take];omega));have OV:Hid (((l.sl.take j).foldl fH b.cs).length=b.cs.length):=ah B_.2
     have TG:Hid (∀V,Below wr.heap.size wr V→V.cell? ⟨sb,so+j*5,none⟩=some (.string l.sl[j].key)∧V.cell? ⟨sb,so+j*5+1,none⟩=some (.int .i64 l.sl[j].up)∧V.cell? ⟨sb,so+j*5+2,none⟩=some (.int .i64 l.sl[j].down)∧V.cell? ⟨sb,so+j*5+3,none⟩=some (.int .i64 l.sl[j].uu)∧V.cell? ⟨sb,so+j*5+4,none⟩=some (.int .i64 l.sl[j].ud)):=ah (fun V hV=>by
      refine⟨?_,?_,?_,?_,?_⟩
      ·rw[hV.cell (p:=⟨sb,so+j*5,none⟩) Lh];exact s0
      ·rw[hV.cell (p:=⟨sb,so+j*5+1,none⟩) Lh];exact s1
      ·rw[hV.cell (p:=⟨sb,so+j*5+2,none⟩) Lh];exact s2
      ·rw[hV.cell (p:=⟨sb,so+j*5+3,none⟩) Lh];exact s3
      ·rw[hV.cell (p:=⟨sb,so+j*5+4,none⟩) Lh];exact s4)
     clear B_ s0 s1 s2 s3 s4;generalize kE:(l.sl.take j).foldl fH b.cs=cs at*;generalize hse:l.sl[j]=s at*;obtain⟨sk,su,sd,jD,mh⟩:=s;simp only at TG;obtain⟨c0,c1,c2,c3,_⟩:=ay qp.out.kb;simp only[Sv.v]at c0 c1 c2 c3;obtain⟨s0,_⟩:=TG.out _ (aL _ _)
     have KS:Hid (∀V,Below wr.heap.size wr V→(Below wr.heap.size wr V∧V.cell? ⟨w.heap.size,0,none⟩=some (.slice rP b.cs.length cp)∧V.cell? ⟨w.heap.size,1,none⟩=some (.slice fa bD fc)∧V.cell? ⟨w.heap.size,2,none⟩=some (.slice la ln lc)∧V.cell? ⟨w.heap.size,3,none⟩=some (.slice ba bE bc)∧V.cell? ⟨p8,4,none⟩=some (.slice (some ⟨sb,so,none⟩) l.sl.length y7)∧V.cell? ⟨sb,so+j*5,none⟩=some (.string sk))):=ah (fun V hV=>by
      obtain⟨a0,a1,a2,a3,_⟩:=ay (aj qp.out.kb hV qp.out.sz3);obtain⟨_,_,_,_,a4,_,_,_⟩:=aB (aj qp.out.k8 hV qp.out.sz8)
      exact⟨hV,a0,a1,a2,a3,a4,(TG.out _ hV).1⟩)
     have Nv:Hid (∀V,Below wr.heap.size wr V→Calls Tryz.prog 50 #[.agg #[.slice rP b.cs.length cp,.slice fa bD fc,.slice la ln lc,.slice ba bE bc],.string sk] V fun e w'=>e= .returned (.int .i64 (bJ cs sk))∧Below wr.heap.size wr w'):=
      ah (fun V hV=>(mD ⟨⟨rP,b.cs.length,cp⟩,⟨fa,bD,fc⟩,⟨la,ln,lc⟩,⟨ba,bE,bc⟩⟩ cs sk V (dI.keep qp.out.m.c hV (aC _))).mono (fun _ _ ⟨he,hb⟩=>⟨he,hV.trans (hb.mono hV.size)⟩))
     have AP:Below wr.heap.size wr wr:=aL _ _;go_upto_region 8 with fail
     go_cut[11] (fun v11 wx=>v11= .int .i64 (bJ cs sk)∧Below wr.heap.size wr wx)
     case first=>
      go_region_held3 (fun w'=>Below wr.heap.size wr w'∧w'.cell? ⟨w.heap.size,0,none⟩=some (.slice rP b.cs.length cp)∧w'.cell? ⟨w.heap.size,1,none⟩=some (.slice fa bD fc)∧w'.cell? ⟨w.heap.size,2,none⟩=some (.slice la ln lc)∧w'.cell? ⟨w.heap.size,3,none⟩=some (.slice ba bE bc)∧w'.cell? ⟨p8,4,none⟩=some (.slice (some ⟨sb,so,none⟩) l.sl.length y7)∧w'.cell? ⟨sb,so+j*5,none⟩=some (.string sk))
       (first | assumption | exact KS.out _ (by assumption) | exact KS.out _ AP.drew)
       ((go_at_call 50;(with_reducible refine(Nv.out _ (by go_split_ands;assumption)).mono ?_);rintro en w9 ⟨rfl,jW⟩))
      all_goals
       go_wp2;go_meet;exact⟨by rfl,by first | assumption | exact AP.drew⟩
     case rest=>
     obtain⟨rfl,gy⟩:=hcut;obtain⟨W9,WG⟩:∃W9,W9=wc:=⟨_,rfl⟩;subst WG;have mo:=ah (qp.out.keep gy);have HS9:=ah (TG.out _ gy);clear gy qp TG KS Nv AP c0 c1 c2 c3 s0 e0 e1 e2 e3 e4 e5 e6;rcases b_ (fun c:Ct=>decide (c.key=sk)) cs with⟨hi,_⟩ | ⟨i,hi,BZ,_,_⟩
     ·have Nh:Hid (fH cs ⟨sk,su,sd,jD,mh⟩=cs):=ah (G5 hi)
      rw[show bJ cs sk= -1 from hi];clear hi;go_wp2;go_roundw
      case rel=>exact⟨j+1,by omega,by go_num,by rw[M5.out,Nh.out];exact mo.out⟩
      case measure=>simp[intOf];omega
     ·have Nh:Hid (fH cs ⟨sk,su,sd,jD,mh⟩=(cs.set i ⟨cs[i].key,cs[i].coll,cs[i].lo,cs[i].hi,cs[i].start,cs[i].up+(su-jD),cs[i].down⟩).set i ⟨cs[i].key,cs[i].coll,cs[i].lo,cs[i].hi,cs[i].start,cs[i].up+(su-jD),cs[i].down+(sd-mh)⟩):=ah (GZ hi BZ)
      rw[show bJ cs sk=i from BZ];clear BZ;have vS:=ah (HUB.out cs[i] (List.getElem_mem hi));have Ca:=OV.out;obtain⟨cg,Ww,hcx⟩:=fT mo.out.rc (show 0<cs.length by omega)
      have Wx:rP=some ⟨cg,0,none⟩:=by
       simp only[Sv.v]at hcx;injection hcx
      subst Wx;have eu:=mo.out.rc;simp only[Sv.v]at eu;rw[←Ca]at eu;obtain⟨p1,p2,p3,p4,p5,p6,p7⟩:=bg eu;have u5:W9.cell? ⟨cg,i*7+5,none⟩=some (.int .i64 cs[i].up):=p7 _ _ (by rw[bV fG _ i hi 5 (by omega)];rfl);have g5:=p6 (i*7+5);have Lg:(i:Int)<b.cs.length:=by omega
      have i0:(0:Int)≤(i:Int):=by omega
      have Ba:Hid (Rq w.heap.size (w.heap.size+1) p8 w (W9.drew.setCell ⟨cg,i*7+5,none⟩ (.int .i64 (cs[i].up+(su-jD)))) ⟨⟨some ⟨cg,0,none⟩,b.cs.length,cp⟩,⟨fa,bD,fc⟩,⟨la,ln,lc⟩,⟨ba,bE,bc⟩⟩ ⟨cs.set i ⟨cs[i].key,cs[i].coll,cs[i].lo,cs[i].hi,cs[i].start,cs[i].up+(su-jD),cs[i].down⟩,b.free,b.ls,b.bound⟩ ⟨y1,y2,y3,y4,⟨some ⟨sb,so,none⟩,l.sl.length,y7⟩,⟨y8,l.ids.length,dz⟩,⟨dA,l.used.length,cK⟩⟩ l):=
       ah ((mo.out.keep (aL _ _).drew).zF rfl (i*7+5) (by show _<cs.length*7;omega) _ (wT cs i hi _) (by simp))
      have HDN:Hid ((cs.set i ⟨cs[i].key,cs[i].coll,cs[i].lo,cs[i].hi,cs[i].start,cs[i].up+(su-jD),cs[i].down⟩)[i]? =some ⟨cs[i].key,cs[i].coll,cs[i].lo,cs[i].hi,cs[i].start,cs[i].up+(su-jD),cs[i].down⟩):=ah (by rw[List.getElem?_set_self hi])
      have eP:cg≠sb:=fun e=>by
       obtain⟨cur,hg⟩:=eB eu;have h2:=mo.out.ly.s;obtain⟨aex,iY⟩:=lJ h2 (g:=sb) rfl;rw[e,iY]at hg;injection hg with hg;injection hg with _ hg _;exact absurd hg (by decide)
      have aaj:Hid ((W9.drew.setCell ⟨cg,i*7+5,none⟩ (.int .i64 (cs[i].up+(su-jD)))).cell? ⟨sb,so+j*5+2,none⟩=some (.int .i64 sd)∧(W9.drew.setCell ⟨cg,i*7+5,none⟩ (.int .i64 (cs[i].up+(su-jD)))).cell? ⟨sb,so+j*5+4,none⟩=some (.int .i64 mh)):=ah (by
       have hh:(W9.drew.setCell ⟨cg,i*7+5,none⟩ (.int .i64 (cs[i].up+(su-jD)))).heap[sb]? =W9.heap[sb]? :=aX W9.drew _ _ eP _;constructor
       ·have:=HS9.out.2.2.1
        simp only[World.cell?]at this⊢;rw[hh];exact this
       ·have:=HS9.out.2.2.2.2
        simp only[World.cell?]at this⊢
        rw[hh];exact this)
      have CJ:=V8.out;unfold Tf at CJ;simp only at CJ;obtain⟨r1,r2,r3,r4,r5,r6⟩:=CJ;obtain⟨o1,o2,o3,o4⟩:=vS.out;generalize hcu:cs[i].up=cu at*;generalize hcd:cs[i].down=cd at*;have i1:IntKind.i64.wrap (cu+su)=cu+su:=IntWalk.i64_in _ (by omega);have i2:IntKind.i64.wrap (cu+su-jD)=cu+(su-jD):=by rw[show cu+su-jD=cu+(su-jD)by omega];exact IntWalk.i64_in _ (by omega)
      have i3:IntKind.i64.wrap (cd+sd)=cd+sd:=IntWalk.i64_in _ (by omega);have i4:IntKind.i64.wrap (cd+sd-mh)=cd+(sd-mh):=by rw[show cd+sd-mh=cd+(sd-mh)by omega];exact IntWalk.i64_in _ (by omega)
      have Wy:=ah (And.intro i3 i4);clear vS r1 r2 r3 r4 r5 r6 o1 o2 o3 o4 i3 i4 eu p1 p2 p3 p4 p5 p6 p7 eP;obtain⟨c0,c1,c2,c3,_⟩:=ay mo.out.kb;simp only[Sv.v]at c0 c1 c2 c3;obtain⟨_,_,_,_,e4,_,_,_⟩:=aB mo.out.k8;simp only[Sv.v]at e4;obtain⟨s0,s1,s2,s3,s4⟩:=HS9.out;go_upto_region 10 with fail
      go_still_tail 25,(by kernel_rfl)
      change wpList _ _ _ _ _ W9.drew;go_upto_region 11 with fail
      rw[show (W9.setCell ⟨cg,i*7+5,none⟩ (.int .i64 (cu+(su-jD)))).drew=W9.drew.setCell ⟨cg,i*7+5,none⟩ (.int .i64 (cu+(su-jD)))from rfl];have JF:=Ba.out;have aey:=aaj.out;generalize hcs1:cs.set i ⟨cs[i].key,cs[i].coll,cs[i].lo,cs[i].hi,cs[i].start,cu+(su-jD),cd⟩=cs1 at*;have Ld:cs1.length=b.cs.length:=by rw[←hcs1,List.length_set];exact Ca
      have hi1:i<cs1.length:=by omega
      have FX:cs1[i]=⟨cs[i].key,cs[i].coll,cs[i].lo,cs[i].hi,cs[i].start,cu+(su-jD),cd⟩:=by
       have:=HDN.out;rw[List.getElem?_eq_getElem hi1]at this;injection this
      have eu:=JF.rc;simp only[Sv.v]at eu;rw[←Ld]at eu;obtain⟨p1,p2,p3,p4,p5,p6,p7⟩:=bg eu;have v6:(W9.drew.setCell ⟨cg,i*7+5,none⟩ (.int .i64 (cu+(su-jD)))).cell? ⟨cg,i*7+6,none⟩=some (.int .i64 cd):=p7 _ _ (by rw[bV fG _ i hi1 6 (by omega),FX];rfl);have g6:=p6 (i*7+6);have JE:=JF.kb;have DL:=JF.k8;have Ni:=ah ((JF.keep (aL _ _).drew).zF rfl (i*7+6) (by show _<cs1.length*7;omega) (.int .i64 (cd+(sd-mh))) (wU cs1 i hi1 _) (by simp));clear hcs1 JF eu p1 p2 p3 p4 p5 p6 p7 c0 c1 c2 c3 s0 s1 s2 s3 s4 e4 g5 u5 Ba aaj mo HS9;generalize W9.drew.setCell ⟨cg,i*7+5,none⟩ (.int .i64 (cu+(su-jD)))=V1 at*;obtain⟨c0,c1,c2,c3,_⟩:=ay JE;simp only[Sv.v]at c0 c1 c2 c3;obtain⟨_,_,_,_,e4,_,_,_⟩:=aB DL;simp only[Sv.v]at e4;obtain⟨s2,s4⟩:=aey;clear JE DL i1 i2;obtain⟨i3,i4⟩:=Wy.out;go_still_tail 25,(by kernel_rfl)
      change wpList _ _ _ _ _ V1.drew;go_wp2;rw[show (V1.setCell ⟨cg,i*7+6,none⟩ (.int .i64 (cd+(sd-mh)))).drew=V1.drew.setCell ⟨cg,i*7+6,none⟩ (.int .i64 (cd+(sd-mh)))from rfl];clear c0 c1 c2 c3 s2 s4 e4 i3 i4 g6 v6;go_roundw
      case rel=>
       refine⟨j+1,by omega,by go_num,?_⟩;have h11:=Ni.out;rw[FX]at h11;simp only at h11;rw[M5.out,Nh.out];exact h11
      case measure=>simp[intOf];omega
    ·have HE:Hid (j=l.sl.length):=ah (by omega)
     have t_:¬ (j:Int)<l.sl.length:=by omega
     go_wp2;go_meet;have h1:=qp.out;rw[HE.out,List.take_length]at h1;exact h1
  case rest=>
  obtain⟨W8,YJ⟩:∃W8,W8=wc:=⟨_,rfl⟩;subst YJ;have Lr:=ah hcut;have B_:=rC l.sl 2199023255552 b.cs (by omega) rW.out.ct rW.out.sc;have HC8:Hid ((l.sl.foldl fH b.cs).length=b.cs.length):=ah B_.2;clear hcut HRQ B_ e0 e1 e2 e3 e4 e5 e6;have P7:Hid (∃cs,l.sl.foldl fH b.cs=cs):=ah ⟨_,rfl⟩;obtain⟨cs,kE⟩:=P7.out;clear P7;rw[kE]at Lr HC8;have Wi:=ah kE;clear kE;have hnu:=rW.out.nu;have hnb:=rW.out.nb;have hll:=rW.out.len;go_upto_block 2 with fail
  go_cut[] (fun wx=>∃iv bv:Sv,Rq w.heap.size (w.heap.size+1) p8 w wx ⟨⟨rP,b.cs.length,cp⟩,⟨fa,bD,fc⟩,⟨la,ln,lc⟩,bv⟩ ⟨cs,b.free,b.ls,l.used.foldl iy b.bound⟩ ⟨y1,y2,y3,y4,⟨y5,l.sl.length,y7⟩,iv,⟨dA,l.used.length,cK⟩⟩ ⟨l.dev,l.epoch,l.bU,l.last,l.sl,l.used.foldl eU l.ids,l.used⟩)
  case first=>
   go_wp2
   go_loopw[12] (fun v12 wr=>∃ (j:Nat) (iv bv:Sv),j≤l.used.length∧v12= .int .i64 j∧Rq w.heap.size (w.heap.size+1) p8 w wr ⟨⟨rP,b.cs.length,cp⟩,⟨fa,bD,fc⟩,⟨la,ln,lc⟩,bv⟩ ⟨cs,b.free,b.ls,(l.used.take j).foldl iy b.bound⟩ ⟨y1,y2,y3,y4,⟨y5,l.sl.length,y7⟩,iv,⟨dA,l.used.length,cK⟩⟩ ⟨l.dev,l.epoch,l.bU,l.last,l.sl,(l.used.take j).foldl eU l.ids,l.used⟩) (fun v12 _=>l.used.length-(intOf v12).toNat)
   case atStart=>exact⟨0,⟨y8,l.ids.length,dz⟩,⟨ba,bE,bc⟩,Nat.zero_le _,rfl,Lr.out⟩
   case round=>
    obtain⟨j,⟨R8,UN,Qu⟩,⟨G6,G7,G8⟩,hj,rfl,IG⟩:=hrel;have qp:=ah IG;clear IG;obtain⟨e0,e1,e2,e3,e4,e5,e6,_⟩:=aB qp.out.k8;simp only[Sv.v]at e4 e5 e6;by_cases bA:j<l.used.length
    ·have t_:(j:Int)<l.used.length:=by omega
     have j0:(0:Int)≤(j:Int):=by omega
     obtain⟨ub,uo,rfl,B_,s0⟩:=jv.cell (aG qp.out.ly.u) (aL _ _) (aC _) j bA;have Lu:=oF (l.used.take j) l.ids rW.out.row;have qo:=pQ _ Lu.1.1;have EF:Hid (Small ((l.used.take j).foldl eU l.ids)):=ah Lu.1.1;have KQ:((l.used.take j).foldl eU l.ids).length<1000000:=by omega
     have kZ:((l.used.take j).foldl iy b.bound).length<100000:=by rw[JN,List.length_take];omega
     have Ti:=ah (rW.out.used l.used[j] (List.getElem_mem bA));have HSL:=ah (mH eU l.used l.ids j bA);have P8:=ah (mH iy l.used b.bound j bA)
     have TG:Hid (∀V,Below wr.heap.size wr V→V.cell? ⟨ub,uo+j,none⟩=some (.int .i64 l.used[j])):=ah (fun V hV=>by
      rw[hV.cell (p:=⟨ub,uo+j,none⟩) B_];exact s0)
     clear Lu qo;generalize (l.used.take j).foldl eU l.ids=left at*;generalize (l.used.take j).foldl iy b.bound=bd at*;generalize l.used[j]=u at*
     have KS:Hid (∀V,Below wr.heap.size wr V→(Below wr.heap.size wr V∧V.cell? ⟨p8,5,none⟩=some (.slice R8 UN Qu)∧V.cell? ⟨p8,6,none⟩=some (.slice (some ⟨ub,uo,none⟩) l.used.length cK)∧V.cell? ⟨ub,uo+j,none⟩=some (.int .i64 u))):=ah (fun V hV=>by
      obtain⟨_,_,_,_,_,a5,a6,_⟩:=aB (aj qp.out.k8 hV qp.out.sz8)
      exact⟨hV,a5,a6,TG.out _ hV⟩)
     have Nv:Hid (∀V,Below wr.heap.size wr V→Calls Tryz.prog 85 #[.slice R8 UN Qu,.int .i64 u] V fun e w'=>∃v',e= .returned (.tuple #[v',.bool (dM left u)])∧(dM left u=true→w'.ownsRow wr.heap.size 56 2 v' (cZ left u).length (aR (cZ left u)))∧Below wr.heap.size wr w'):=
      ah (fun V hV=>(ND _ left u V (fD.keep (aG qp.out.ly.i) hV (aC _)) EF.out KQ Ti.out.1 Ti.out.2).mono (fun _ _ ⟨v',he,ho,hb⟩=>⟨v',he,fun hh=>aN (ho hh) hV.size,hV.trans (hb.mono hV.size)⟩))
     have AP:Below wr.heap.size wr wr:=aL _ _;go_upto_region 15 with fail
     go_cut[13,14] (fun zh FH wx=>FH= .bool (dM left u)∧(dM left u=true→wx.ownsRow wr.heap.size 56 2 zh (cZ left u).length (aR (cZ left u)))∧Below wr.heap.size wr wx)
     case first=>
      go_region_held3 (fun w'=>Below wr.heap.size wr w'∧w'.cell? ⟨p8,5,none⟩=some (.slice R8 UN Qu)∧w'.cell? ⟨p8,6,none⟩=some (.slice (some ⟨ub,uo,none⟩) l.used.length cK)∧w'.cell? ⟨ub,uo+j,none⟩=some (.int .i64 u))
       (first | assumption | exact KS.out _ (by assumption) | exact KS.out _ AP.drew)
       ((go_at_call 85;(with_reducible refine(Nv.out _ (by go_split_ands;assumption)).mono ?_);rintro en w9 ⟨v9,rfl,Av,jW⟩))
      all_goals
       go_wp2;go_meet;exact⟨by rfl,Av,jW⟩
     case rest=>
     obtain⟨rfl,Av,gy⟩:=hcut;obtain⟨W9,WG⟩:∃W9,W9=wc:=⟨_,rfl⟩;subst WG;have mo:=ah (qp.out.keep gy);have HU9:=ah (TG.out _ gy);have aal:ub<W9.heap.size:=Nat.lt_of_lt_of_le B_ gy.size;have HO9:Hid (dM left u=true→W9.ownsRow w.heap.size 56 2 u13 (cZ left u).length (aR (cZ left u))):=ah (fun hh=>aN (Av hh) qp.out.bC.size);clear Av gy qp TG KS Nv AP e0 e1 e2 e3 e4 e5 e6 s0 B_;have WE:Hid (eU left u=if dM left u=true then cZ left u else left):=ah rfl;generalize dM left u=q at*;obtain⟨e0,e1,e2,e3,e4,e5,e6,_⟩:=aB mo.out.k8;simp only[Sv.v]at e4 e5 e6;have fr5:=ak mo.out.k8 5;go_upto_if 118 with fail
     go_cut[] (fun wx=>∃iv:Sv,Rq w.heap.size (w.heap.size+1) p8 w wx ⟨⟨rP,b.cs.length,cp⟩,⟨fa,bD,fc⟩,⟨la,ln,lc⟩,⟨G6,G7,G8⟩⟩ ⟨cs,b.free,b.ls,bd⟩ ⟨y1,y2,y3,y4,⟨y5,l.sl.length,y7⟩,iv,⟨some ⟨ub,uo,none⟩,l.used.length,cK⟩⟩ ⟨l.dev,l.epoch,l.bU,l.last,l.sl,eU left u,l.used⟩∧wx.cell? ⟨ub,uo+j,none⟩=some (.int .i64 u)∧ub<wx.heap.size)
     case first=>
      have hnp:ub≠p8:=fun e=>by
       obtain⟨aex,iY⟩:=lJ mo.out.ly.u (g:=ub) rfl;have hg:=mo.out.k8;rw[←e,iY]at hg;injection hg with hg;injection hg with _ hg _;exact absurd hg (by decide)
      cases q with
      | true=>
       have h1:=HO9.out rfl;obtain⟨Et,YK,rfl,_,_⟩:=aO h1;have Ba:=ah (mo.out.Pg (i':=⟨Et,_,YK⟩) h1)
       have Ca:(W9.setCell ⟨p8,5,none⟩ (.slice Et (cZ left u).length YK)).cell? ⟨ub,uo+j,none⟩=some (.int .i64 u):=by
        have hh:(W9.setCell ⟨p8,5,none⟩ (.slice Et (cZ left u).length YK)).heap[ub]? =W9.heap[ub]? :=aX W9 _ _ (fun e=>hnp e.symm) _;have:=HU9.out;simp only[World.cell?]at this⊢;rw[hh];exact this
       have aez:=ah Ca;clear h1 Ca;go_wp2;go_meet;exact⟨⟨Et,_,YK⟩,by rw[show eU left u=cZ left u by rw[WE.out];simp];exact Ba.out,aez.out,by simp[World.setCell];omega⟩
      | false=>
       go_wp2;go_meet;exact⟨⟨R8,UN,Qu⟩,by rw[show eU left u=left by rw[WE.out];simp];exact mo.out,HU9.out,aal⟩
     case rest=>
     obtain⟨⟨aeA,aeB,aeC⟩,hfc,hcu,aeD⟩:=hcut;obtain⟨vH,Qe⟩:∃vH,vH=wc:=⟨_,rfl⟩;subst Qe;have UO:=ah hfc;have aQ:Below vH.heap.size vH vH.drew:=(aL _ _).drew;clear hfc mo HU9 HO9 WE e0 e1 e2 e3 e4 e5 e6 fr5 aal;go_upto_region 18 with fail
     refine aW 9 (fun w'=>Below vH.heap.size vH w') (by kernel_rfl) ?_;refine aP (i:=0) (v:=.pointer (some ⟨w.heap.size,3,none⟩)) rfl rfl (by kernel_rfl) (fun _ _ _ h=>h) (.inl ⟨rfl,fun w' hw=>?_⟩) aQ ?_
     ·go_simp
     refine aP (i:=1) (v:=.slice G6 G7 G8) rfl rfl (by kernel_rfl) (fun _ _ _ h=>h) (.inl ⟨rfl,fun w' hw=>?_⟩) aQ ?_
     ·obtain⟨a0,a1,a2,a3,_⟩:=ay (aj UO.out.kb hw UO.out.sz3)
      simp only[Sv.v]at a0 a1 a2 a3;go_simp
     refine aP (i:=2) (v:=.pointer (some ⟨p8,6,none⟩)) rfl rfl (by kernel_rfl) (fun _ _ _ h=>h) (.inl ⟨rfl,fun w' hw=>?_⟩) aQ ?_
     ·go_simp
     refine aP (i:=3) (v:=.slice (some ⟨ub,uo,none⟩) l.used.length cK) rfl rfl (by kernel_rfl) (fun _ _ _ h=>h) (.inl ⟨rfl,fun w' hw=>?_⟩) aQ ?_
     ·obtain⟨a0,a1,a2,a3,a4,a5,a6,_⟩:=aB (aj UO.out.k8 hw UO.out.sz8)
      simp only[Sv.v]at a4 a5 a6;go_simp
     refine aP (i:=4) (v:=.int .i64 j) rfl rfl (by kernel_rfl) (fun _ _ _ h=>h) (.inl ⟨rfl,fun w' hw=>?_⟩) aQ ?_
     ·go_simp
     refine aP (i:=5) (v:=.pointer (some ⟨ub,uo+j,none⟩)) rfl rfl (by kernel_rfl) (fun _ _ _ h=>h) (.inl ⟨rfl,fun w' hw=>?_⟩) aQ ?_
     ·go_simp
     refine aP (i:=6) (v:=.int .i64 u) rfl rfl (by kernel_rfl) (fun _ _ _ h=>h) (.inl ⟨rfl,fun w' hw=>?_⟩) aQ ?_
     ·have a7:w'.cell? ⟨ub,uo+j,none⟩=some (.int .i64 u):=by rw[hw.cell (p:=⟨ub,uo+j,none⟩) aeD];exact hcu
      go_simp
     refine aD (i:=7) (by kernel_rfl) rfl rfl ?_;go_simp;refine(DR _ bd u _ ((UO.out.rb.sl UO.out.bC).keep (aL _ _).drew (aC _)) kZ).mono ?_;rintro e ES ⟨v',rfl,ho,sI⟩;obtain⟨kJ,cap',rfl,_,_⟩:=aO ho;have jP:Below vH.heap.size vH ES:=(aL vH.heap.size vH).drew.trans sI;refine⟨jP,?_⟩;have DT:=UO.out.keep jP;have Hr:=ah (DT.WY (b':=⟨kJ,_,cap'⟩) (aN ho (show w.heap.size≤vH.drew.heap.size from UO.out.bC.size)));obtain⟨a0,a1,a2,a3,_⟩:=ay DT.kb;have f3:=aA DT.kb 3;simp only[Sv.v]at a0 a1 a2 a3 Hr;have G9:=ah jP;clear DT ho sI jP;refine aD (i:=8) (by kernel_rfl) rfl rfl ?_;go_simp;refine⟨G9.out,?_⟩;refine aD (i:=9) (by kernel_rfl) rfl rfl ?_;go_simp;refine aU (by kernel_rfl) ?_;go_wp2;go_roundw
     case rel=>exact⟨j+1,⟨aeA,aeB,aeC⟩,⟨kJ,_,cap'⟩,by omega,by go_num,by rw[HSL.out,P8.out];exact Hr.out⟩
     case measure=>simp[intOf];omega
    ·have HE:Hid (j=l.used.length):=ah (by omega)
     have t_:¬ (j:Int)<l.used.length:=by omega
     go_wp2;go_meet;have h1:=qp.out;rw[HE.out,List.take_length]at h1;exact⟨_,_,h1⟩
  case rest=>
  obtain⟨⟨R8,UN,Qu⟩,⟨G6,G7,G8⟩,IG⟩:=hcut;obtain⟨W9,WG⟩:∃W9,W9=wc:=⟨_,rfl⟩;subst WG;have mo:=ah IG;clear IG Lr;have Lu:=oF l.used l.ids rW.out.row;have qo:=pQ _ Lu.1.1;have KQ:(l.used.foldl eU l.ids).length<10000:=by omega
  have HRW:=ah Lu.1;have hnf:=rW.out.nf
  have fO:Hid (rF b d ep=(⟨cs,bK b.free (l.used.foldl eU l.ids),b.ls.eraseIdx (lg b.ls d).toNat,l.used.foldl iy b.bound⟩,0)):=ah (by
   unfold rF;rw[HLQ.out];simp only
   rw[if_neg (by simp),Wi.out])
  clear Lu qo;generalize l.used.foldl eU l.ids=left at*;generalize l.used.foldl iy b.bound=bd at*;obtain⟨q9,_,_⟩:=Sl.lens (s:=⟨R8,UN,Qu⟩) (aG mo.out.ly.i);simp only at q9;subst q9;go_upto_block 4 with fail
  go_cut[] (fun wx=>∃fv:Sv,Rq w.heap.size (w.heap.size+1) p8 w wx ⟨⟨rP,b.cs.length,cp⟩,fv,⟨la,ln,lc⟩,⟨G6,G7,G8⟩⟩ ⟨cs,bK b.free left,b.ls,bd⟩ ⟨y1,y2,y3,y4,⟨y5,l.sl.length,y7⟩,⟨R8,left.length,Qu⟩,⟨dA,l.used.length,cK⟩⟩ ⟨l.dev,l.epoch,l.bU,l.last,l.sl,left,l.used⟩)
  case first=>
   go_wp2
   go_loopw[15] (fun v15 wr=>∃ (j:Nat) (fv:Sv),j≤left.length∧v15= .int .i64 j∧Rq w.heap.size (w.heap.size+1) p8 w wr ⟨⟨rP,b.cs.length,cp⟩,fv,⟨la,ln,lc⟩,⟨G6,G7,G8⟩⟩ ⟨cs,bK b.free (left.take j),b.ls,bd⟩ ⟨y1,y2,y3,y4,⟨y5,l.sl.length,y7⟩,⟨R8,left.length,Qu⟩,⟨dA,l.used.length,cK⟩⟩ ⟨l.dev,l.epoch,l.bU,l.last,l.sl,left,l.used⟩) (fun v15 _=>left.length-(intOf v15).toNat)
   case atStart=>exact⟨0,⟨fa,bD,fc⟩,Nat.zero_le _,rfl,mo.out⟩
   case round=>
    obtain⟨j,⟨Qa,Qb,Qc⟩,hj,rfl,IG⟩:=hrel;have qp:=ah IG;clear IG;obtain⟨e0,e1,e2,e3,e4,e5,e6,_⟩:=aB qp.out.k8;simp only[Sv.v]at e4 e5 e6;by_cases bA:j<left.length
    ·have t_:(j:Int)<left.length:=by omega
     have j0:(0:Int)≤(j:Int):=by omega
     obtain⟨rb,ro,rfl,tO,r0,r1⟩:=fD.pair (aG qp.out.ly.i) (aL _ _) (aC _) j bA;have HAS:Hid (bK b.free (left.take (j+1))=iM (bK b.free (left.take j)) left[j]):=ah (by rw[aS left j bA,pz]);have qR:=iN (left.take j) b.free;have Qd:(bK b.free (left.take j)).length<1000000:=by rw[List.length_take]at qR;omega
     have lZ:=ah (HRW.out.1 left[j] (List.getElem_mem bA))
     have HAR:Hid (zy (bK b.free (left.take j)) left[j]=iM (bK b.free (left.take j)) left[j]):=ah (by
      rw[K5 (Bj _ rW.out.fr (HRW.out.take j)) lZ.out.2.1,zW lZ.out])
     clear qR;generalize bK b.free (left.take j)=fr at*;generalize left[j]=r at*;obtain⟨p,q⟩:=r;simp only at r0 r1;have aQ:Below wr.heap.size wr wr.drew:=(aL _ _).drew;go_upto_region 22 with fail
     clear e0 e1 e2 e3 e4 e5 e6;refine aW 9 (fun w'=>Below wr.heap.size wr w') (by kernel_rfl) ?_;refine aP (i:=0) (v:=.pointer (some ⟨w.heap.size,1,none⟩)) rfl rfl (by kernel_rfl) (fun _ _ _ h=>h) (.inl ⟨rfl,fun w' hw=>?_⟩) aQ ?_
     ·go_simp
     refine aP (i:=1) (v:=.slice Qa Qb Qc) rfl rfl (by kernel_rfl) (fun _ _ _ h=>h) (.inl ⟨rfl,fun w' hw=>?_⟩) aQ ?_
     ·obtain⟨a0,a1,a2,a3,_⟩:=ay (aj qp.out.kb hw qp.out.sz3)
      simp only[Sv.v]at a0 a1 a2 a3;go_simp
     refine aP (i:=2) (v:=.pointer (some ⟨p8,5,none⟩)) rfl rfl (by kernel_rfl) (fun _ _ _ h=>h) (.inl ⟨rfl,fun w' hw=>?_⟩) aQ ?_
     ·go_simp
     refine aP (i:=3) (v:=.slice (some ⟨rb,ro,none⟩) left.length Qu) rfl rfl (by kernel_rfl) (fun _ _ _ h=>h) (.inl ⟨rfl,fun w' hw=>?_⟩) aQ ?_
     ·obtain⟨a0,a1,a2,a3,a4,a5,a6,_⟩:=aB (aj qp.out.k8 hw qp.out.sz8)
      simp only[Sv.v]at a4 a5 a6;go_simp
     refine aP (i:=4) (v:=.int .i64 j) rfl rfl (by kernel_rfl) (fun _ _ _ h=>h) (.inl ⟨rfl,fun w' hw=>?_⟩) aQ ?_
     ·go_simp
     refine aP (i:=5) (v:=.pointer (some ⟨rb,ro+j*2,none⟩)) rfl rfl (by kernel_rfl) (fun _ _ _ h=>h) (.inl ⟨rfl,fun w' hw=>?_⟩) aQ ?_
     ·go_simp
     refine aP (i:=6) (v:=.agg #[.int .i64 p,.int .i64 q]) rfl rfl (by kernel_rfl) (fun _ _ _ h=>h) (.inl ⟨rfl,fun w' hw=>?_⟩) aQ ?_
     ·have a7:w'.cell? ⟨rb,ro+j*2,none⟩=some (.int .i64 p):=by rw[hw.cell (p:=⟨rb,ro+j*2,none⟩) tO];exact r0
      have a8:w'.cell? ⟨rb,ro+j*2+1,none⟩=some (.int .i64 q):=by rw[hw.cell (p:=⟨rb,ro+j*2+1,none⟩) tO];exact r1
      go_simp
     refine aD (i:=7) (by kernel_rfl) rfl rfl ?_;go_simp;refine(Au _ fr p q _ ((qp.out.rf.sl qp.out.bC).keep (aL _ _).drew (aC _)) Qd lZ.out.2.1 lZ.out.1 lZ.out.2.2).mono ?_;rw[HAR.out];rintro e ES ⟨v',rfl,ho,sI⟩;obtain⟨kJ,cap',rfl,_,_⟩:=aO ho;have jP:Below wr.heap.size wr ES:=(aL wr.heap.size wr).drew.trans sI;refine⟨jP,?_⟩;have DT:=qp.out.keep jP;have Hr:=ah (DT.Ev (f':=⟨kJ,_,cap'⟩) (aN ho (show w.heap.size≤wr.drew.heap.size from qp.out.bC.size)));obtain⟨a0,a1,a2,a3,_⟩:=ay DT.kb;have f1:=aA DT.kb 1;simp only[Sv.v]at a0 a1 a2 a3 Hr;have G9:=ah jP;clear DT ho sI jP;refine aD (i:=8) (by kernel_rfl) rfl rfl ?_;go_simp;refine⟨G9.out,?_⟩;refine aD (i:=9) (by kernel_rfl) rfl rfl ?_;go_simp;refine aU (by kernel_rfl) ?_;go_wp2;go_roundw
     case rel=>exact⟨j+1,⟨kJ,_,cap'⟩,by omega,by go_num,by rw[HAS.out];exact Hr.out⟩
     case measure=>simp[intOf];omega
    ·have HE:Hid (j=left.length):=ah (by omega)
     have t_:¬ (j:Int)<left.length:=by omega
     go_wp2;go_meet;have h1:=qp.out;rw[HE.out,List.take_length]at h1;exact⟨_,h1⟩
  case rest=>
  obtain⟨⟨Qa,Qb,Qc⟩,IG⟩:=hcut;obtain⟨vH,Qe⟩:∃vH,vH=wc:=⟨_,rfl⟩;subst Qe;have aan:=ah IG;clear mo;generalize bK b.free left=fr at*;obtain⟨xs,hx,nR⟩:=TF.out.l;simp only[Sv.v]at hx;obtain⟨q3,g3,g4⟩:=Sl.lens (s:=⟨la,ln,lc⟩) hx;simp only at q3 g3 g4;subst q3;have wE:=ah nR;have wN:=ah (dI.rd hx);have HXL:=ah nR.len;have yR:xs.length<10000:=by have:=rW.out.nl;have:=HXL.out;omega
  have dO:xs.length≤lc:=g3;obtain⟨inf,gq,kK,dX,f_⟩:=info_parts Tryz.sU;have EJ:=ah (And.intro gq dX);have tO:=IG.m.l;obtain⟨d0,d1,d2,d3,_⟩:=ay IG.kb;simp only[Sv.v]at d0 d1 d2 d3;clear hx nR IG gq kK dX f_ g3
  have Qj:Hid (∃k:Nat,k<b.ls.length∧lg b.ls d=k):=ah (by
   have h1:=HLQ.out;unfold gJ at h1
   split at h1
   ·rename_i hh
    obtain⟨h2,_⟩:=hh;rcases b_ (fun c:Ls=>decide (c.dev=d)) b.ls with⟨hi,_⟩ | ⟨k,hk,hi,_,_⟩
    ·have:lg b.ls d= -1:=hi
     omega
    ·exact⟨k,hk,hi⟩
   ·exact absurd (congrArg Prod.snd h1) (by simp))
  obtain⟨k,hk,sQ⟩:=Qj.out;have HIK:=ah sQ;have xL:k<xs.length:=by have:=HXL.out;omega
  go_wp2_with fail
  refine(zV ⟨⟨rP,b.cs.length,cp⟩,⟨Qa,Qb,Qc⟩,⟨la,xs.length,lc⟩,⟨G6,G7,G8⟩⟩ b.ls d _ tO).mono ?_;rw[sQ];rintro e ES ⟨rfl,sI⟩;have TH:=ah (aan.out.keep sI);clear sI tO d0 d1 d2 d3 aan sQ Qj;obtain⟨d0,d1,d2,d3,_⟩:=ay TH.out.kb;simp only[Sv.v]at d0 d1 d2 d3;have K7:(xs.take k).length=k:=by rw[List.length_take];omega
  have NH:=ah K7;have hkd:(xs.drop (k+1)).length=xs.length-(k+1):=List.length_drop;have HKD:=ah hkd;have kw:IntKind.i64.wrap ((k:Int)+1)=(k:Int)+1:=IntWalk.i64_in _ (by omega);have jK:(k:Int)<xs.length:=by omega
  have ai4:(k:Int)+1≤xs.length:=by omega
  clear K7 hkd
  go_upto_region 25 with first
   | ((with_reducible refine aZ 153 ?_);refine kF rfl _ _ 27 rfl 48 inf 7 Tryz.underlying27 EJ.out.1 EJ.out.2 la xs.length lc k (aJ j_ xs) rfl rfl (by omega) ((wN.out.keep TH.out.bC (aC _)).alloc _) ?_;intro a1 wK;rw[wY]at wK)
   | ((with_reducible refine aZ 154 ?_);refine kS rfl _ _ rfl ES.heap.size _ 0 [] rfl (dB _ _ _ _ 7 #[] 0 rfl (aC _) (by omega) rfl) a1 k lc (xs.take k) rfl NH.out wK (by omega) (by simp) ?_;intro v3 w3 iq j4 nQ)
  rw[Nat.zero_add,List.nil_append]at iq;have bT:=gZ j4;have j5:=ah iq;have Bn:=ah (TH.out.keep bT);have CK:ES.heap.size≤w3.heap.size:=bT.size;clear iq j4 nQ wK d0 d1 d2 d3 TH;obtain⟨d0,d1,d2,d3,_⟩:=ay Bn.out.kb;have f2:=aA Bn.out.kb 2;simp only[Sv.v]at d0 d1 d2 d3;have aaq:w.heap.size≤ES.heap.size:=by have:=Bn.out.bC.size;have:=bT.size;omega
  go_upto_region 26 with first
   | ((with_reducible refine aZ 160 ?_);refine iD rfl _ _ 27 rfl 48 inf 7 Tryz.underlying27 EJ.out.1 EJ.out.2 la xs.length lc (k+1) (aJ j_ xs) rfl rfl (by omega) dO (wN.out.keep Bn.out.bC (aC _)) (bP iE _) ?_;intro a2 sV;rw[wZ]at sV)
   | ((with_reducible refine aZ 161 ?_);refine kS rfl _ _ rfl ES.heap.size v3 k (xs.take k) rfl j5.out a2 (xs.length-(k+1)) (lc-(k+1)) (xs.drop (k+1)) rfl HKD.out sV (by omega) CK ?_;intro v4 w4 ji hg4 jk;obtain⟨rQ,qU,rfl,_,_⟩:=aO ji;have k4:=A_ Bn.out.kb j5.out hg4 (by decide);obtain⟨d0,d1,d2,d3,_⟩:=ay k4;have f2:=aA k4 2)
  have hks:k+(xs.length-(k+1))=xs.length-1:=by omega
  rw[hks]at ji⊢;rw[←List.eraseIdx_eq_take_drop_succ]at ji;have aar:Below w.heap.size w w4:=Bn.out.bC.grown hg4 (Nat.le_trans aaq CK) (fun g hg=>Nat.le_trans aaq (j5.out.lt g hg).1);have rc4:=tJ Bn.out.rc j5.out hg4 (by decide);have rf4:=Bn.out.rf.grown j5.out hg4 (by decide);have rb4:=Bn.out.rb.grown j5.out hg4 (by decide);have k64:=A_ Bn.out.k6 j5.out hg4 (by decide);have DX:∀c,c≠w.heap.size→(w4.setCell ⟨w.heap.size,2,none⟩ (.slice rQ (xs.length-1) qU)).heap[c]? =w4.heap[c]? :=fun c hc=>aX _ _ _ (fun e=>hc e.symm) _
  have Bo:=ah (aar.setCell (p:=⟨w.heap.size,2,none⟩) (aC _) (.slice rQ (xs.length-1) qU));have HRC:=ah (aF rc4 DX k4 (by decide));have OC:=ah (rf4.other DX k4 (by decide));have MQ:=ah (rb4.other DX k4 (by decide));have UE:=ah (aF ji DX k4 (by decide));have zx:=ah ((DX (w.heap.size+1) (by omega)).trans k64);have wD:=ah (oH k4 (.slice rQ (xs.length-1) qU));clear ji hg4 jk aar rc4 rf4 rb4 k64 DX k4 d0 d1 d2 d3 f2 Bn sV;generalize w4.setCell ⟨w.heap.size,2,none⟩ (.slice rQ (xs.length-1) qU)=W5 at*;have kH:=wD.out;simp only[Sv.v]at kH;obtain⟨d0,d1,d2,d3,_⟩:=ay kH;obtain⟨e0,e1,e2,e3,_⟩:=ay zx.out;have f0:=aA zx.out 0;have f1:=aA zx.out 1;have f2:=aA zx.out 2;have f3:=aA zx.out 3;clear kH;go_wp2;refine bodyPost_ret (v:=.tuple #[.agg #[.slice rP b.cs.length cp,.slice Qa Qb Qc,.slice rQ (xs.length-1) qU,.slice G6 G7 G8],.int .i64 0]) (by simp[results,Tryz.results29,go_sem, *]) rfl (show nK _ _ _ _ from ?_);have zi:=(((Bo.out.setCell (p:=⟨w.heap.size+1,0,none⟩) (by simp) (.slice rP b.cs.length cp)).setCell (p:=⟨w.heap.size+1,1,none⟩) (by simp) (.slice Qa Qb Qc)).setCell (p:=⟨w.heap.size+1,2,none⟩) (by simp) (.slice rQ (xs.length-1) qU)).setCell (p:=⟨w.heap.size+1,3,none⟩) (by simp) (.slice G6 G7 G8);have LG:∀c,c≠w.heap.size+1→((((W5.setCell ⟨w.heap.size+1,0,none⟩ (.slice rP b.cs.length cp)).setCell ⟨w.heap.size+1,1,none⟩ (.slice Qa Qb Qc)).setCell ⟨w.heap.size+1,2,none⟩ (.slice rQ (xs.length-1) qU)).setCell ⟨w.heap.size+1,3,none⟩ (.slice G6 G7 G8)).heap[c]? =W5.heap[c]? :=fun c hc=>bM W5 (w.heap.size+1) c (fun e=>hc e.symm) _ _ _ _ 0 1 2 3
  rw[fO.out];refine⟨⟨⟨rP,b.cs.length,cp⟩,⟨Qa,Qb,Qc⟩,⟨rQ,xs.length-1,qU⟩,⟨G6,G7,G8⟩⟩,rfl,⟨aG (aF HRC.out LG zx.out (by decide)),(OC.out.other LG zx.out (by decide)).sl zi,⟨xs.eraseIdx k,?_,?_⟩,(MQ.out.other LG zx.out (by decide)).sl zi⟩,zi⟩
  ·have h9:=aG (aF UE.out LG zx.out (by decide))
   have fP:(xs.eraseIdx k).length=xs.length-1:=by rw[List.length_eraseIdx,if_pos xL]
   show Sl _ 7 (Value.slice rQ (xs.length-1) qU) (xs.eraseIdx k).length _;rw[fP];exact h9
  ·rw[HIK.out]
   exact(wE.out.imp (fun _ _ r=>r.keep zi (aC _))).erase k
end
end Go.Proofs.YtlfopoimbbpfdaaGreat
