/- What the law asks, in parts: ZL. -/
import Derived.Deep.DrawnRows
import Derived.Test.YtlfopoimbbpfdaaGreatPk21
set_option linter.all false
set_option maxRecDepth 100000
set_option maxHeartbeats 16000000
namespace Go.Proofs.YtlfopoimbbpfdaaGreat
open Go.RowKit
theorem Qx (gW:World) (x:dN) (b:Bk) (y:cB) (l:Ls) (wn:Wn) (w:World) (hr:Rr gW w x b y l) (hw:Hu b l wn) (hc:g_ b wn≠0):
  Calls Tryz.prog 78 #[iJ x,o9 y,Un wn] w (kV gW w b l wn):=by
 obtain⟨⟨ca,cn,cc⟩,⟨fa,bD,fc⟩,⟨la,ln,lc⟩,⟨ba,bE,bc⟩⟩:=x;obtain⟨y1,y2,y3,y4,⟨y5,y6,y7⟩,⟨y8,y9,dz⟩,⟨dA,dJ,cK⟩⟩:=y;obtain⟨wk,wu,wd,wi⟩:=wn;have hx:=hr.bk;have hy:=hr.ls;obtain⟨q3,q4,q5⟩:=Sl.lens (s:=⟨ca,cn,cc⟩) hx.c;obtain⟨r3,r4,r5⟩:=Sl.lens (s:=⟨y5,y6,y7⟩) hy.s;simp only at q3 q4 q5 r3 r4 r5;subst q3 r3;obtain⟨W5,JG,hq⟩:=Ht w ⟨⟨ca,b.cs.length,cc⟩,⟨fa,bD,fc⟩,⟨la,ln,lc⟩,⟨ba,bE,bc⟩⟩ ⟨y1,y2,y3,y4,⟨y5,l.sl.length,y7⟩,⟨y8,y9,dz⟩,⟨dA,dJ,cK⟩⟩ ⟨wk,wu,wd,wi⟩;simp only[Sv.v]at JG;have HQ:=ah hq;have Cb:=ah hr;have HX:=ah hx;have HY:=ah hy;have HB:=ah hw;have HC:=ah hc;have HW5:=ah JG;clear hr hx hy JG hw hc;change Calls Tryz.prog _ #[.agg #[.slice ca b.cs.length cc,.slice fa bD fc,.slice la ln lc,.slice ba bE bc],.agg #[.int .i64 y1,.int .i64 y2,.int .i64 y3,.int .i64 y4,.slice y5 l.sl.length y7,.slice y8 y9 dz,.slice dA dJ cK],.agg #[.string wk,.int .i64 wu,.int .i64 wd,.int .i64 wi]] w _;obtain⟨c0,c1,c2,c3,_⟩:=ay hq.k3;obtain⟨e0,e1,e2,e3,e4,e5,e6,_⟩:=aB hq.k4;obtain⟨w0,w1,w2,w3,_⟩:=ay hq.k5;simp only[Sv.v]at c0 c1 c2 c3 e4 e5 e6
 go_enter Tryz.func78,Tryz.ntmps78
 go_upto_region 1 with fail
 rw[HW5.out];clear hq HW5
 go_cut[42] (fun v42 wx=>v42= .bool (!(wJ ⟨wk,wu,wd,wi⟩))∧wx=W5)
 case first=>
  go_wp2;all_goals go_meet
  all_goals
   refine⟨congrArg Value.bool ?_,rfl⟩;rw[rG,Bool.eq_iff_iff]
   try simp
   try omega
 case rest=>
 obtain⟨rfl,rV⟩:=hcut;rw[rV];clear rV
 cases hB:wJ ⟨wk,wu,wd,wi⟩with
 | false=>
  go_upto_region 2 with fail
  have HE:Hid (dY b ⟨wk,wu,wd,wi⟩=1):=ah (by unfold dY g_;simp[hB]);refine aW 2 (fun w'=>Below W5.heap.size W5 w') (by kernel_rfl) ?_;have aQ:Below W5.heap.size W5 W5.drew:=(aL _ _).drew;refine aP (i:=0) (v:=.agg #[.slice ca b.cs.length cc,.slice fa bD fc,.slice la ln lc,.slice ba bE bc]) rfl rfl (by kernel_rfl) (fun _ _ _ h=>h) (.inl ⟨rfl,fun w' hw=>?_⟩) aQ ?_
  ·obtain⟨a0,a1,a2,a3,_⟩:=ay (HQ.out.keep hw).k3
   simp only[Sv.v]at a0 a1 a2 a3;go_simp
  obtain⟨a0,a1,a2,a3,_⟩:=ay HQ.out.k6;have f0:=aA HQ.out.k6 0;have f1:=aA HQ.out.k6 1;have f2:=aA HQ.out.k6 2;have f3:=aA HQ.out.k6 3;have H6:=ah (qD HQ.out);simp only[Sv.v]at H6;obtain⟨e0,e1,e2,e3,e4,e5,e6,_⟩:=aB HQ.out.k4;simp only[Sv.v]at e4 e5 e6;refine iZ (i:=1) (j:=2) (by kernel_rfl) rfl rfl rfl rfl ?_ ?_
  ·go_simp
   refine aD (i:=2) (by kernel_rfl) rfl rfl ?_;go_simp
   try rw[kN]
   generalize (((((W5).drew.setCell ⟨w.heap.size+1+1+1,0,none⟩ (.slice ca b.cs.length cc)).setCell ⟨w.heap.size+1+1+1,1,none⟩ (.slice fa bD fc)).setCell ⟨w.heap.size+1+1+1,2,none⟩ (.slice la ln lc)).setCell ⟨w.heap.size+1+1+1,3,none⟩ (.slice ba bE bc))=W6 at*;clear a0 a1 a2 a3 f0 f1 f2 f3;obtain⟨b0,b1,b2,b3,b4,b5,b6,_⟩:=aB H6.out.k7;have g0:=ak H6.out.k7 0;have g1:=ak H6.out.k7 1;have g2:=ak H6.out.k7 2;have g3:=ak H6.out.k7 3;have g4:=ak H6.out.k7 4;have g5:=ak H6.out.k7 5;have g6:=ak H6.out.k7 6;refine aD (i:=3) (by kernel_rfl) rfl rfl ?_;go_simp;have H7:=ah (i_ (x:=⟨⟨ca,b.cs.length,cc⟩,⟨fa,bD,fc⟩,⟨la,ln,lc⟩,⟨ba,bE,bc⟩⟩) (y:=⟨y1,y2,y3,y4,⟨y5,l.sl.length,y7⟩,⟨y8,y9,dz⟩,⟨dA,dJ,cK⟩⟩) H6.out);simp only[Sv.v]at H7;generalize (((((((W6.setCell ⟨w.heap.size+1+1+1+1,0,none⟩ (.int .i64 y1)).setCell ⟨w.heap.size+1+1+1+1,1,none⟩ (.int .i64 y2)).setCell ⟨w.heap.size+1+1+1+1,2,none⟩ (.int .i64 y3)).setCell ⟨w.heap.size+1+1+1+1,3,none⟩ (.int .i64 y4)).setCell ⟨w.heap.size+1+1+1+1,4,none⟩ (.slice y5 l.sl.length y7)).setCell ⟨w.heap.size+1+1+1+1,5,none⟩ (.slice y8 y9 dz)).setCell ⟨w.heap.size+1+1+1+1,6,none⟩ (.slice dA dJ cK))=W7 at*;clear b0 b1 b2 b3 b4 b5 b6 g0 g1 g2 g3 g4 g5 g6;refine aD (i:=4) (by kernel_rfl) rfl rfl ?_;go_simp;refine aU (by kernel_rfl) ?_;obtain⟨a0,a1,a2,a3,_⟩:=ay H7.out.k6;obtain⟨b0,b1,b2,b3,b4,b5,b6,_⟩:=aB H7.out.k7;simp only[Sv.v]at a0 a1 a2 a3 b4 b5 b6;go_wp2;refine bodyPost_ret (v:=.tuple #[.agg #[.slice ca b.cs.length cc,.slice fa bD fc,.slice la ln lc,.slice ba bE bc],.agg #[.int .i64 y1,.int .i64 y2,.int .i64 y3,.int .i64 y4,.slice y5 l.sl.length y7,.slice y8 y9 dz,.slice dA dJ cK],.int .i64 1]) (by simp[results,Tryz.results78,go_sem, *]) rfl (show kV _ _ _ _ _ _ _ from ?_);exact⟨⟨⟨ca,b.cs.length,cc⟩,⟨fa,bD,fc⟩,⟨la,ln,lc⟩,⟨ba,bE,bc⟩⟩,⟨y1,y2,y3,y4,⟨y5,l.sl.length,y7⟩,⟨y8,y9,dz⟩,⟨dA,dJ,cK⟩⟩,by rw[HE.out],H7.out.bC,fun h=>absurd h (by rw[HE.out];decide)⟩
  ·go_simp
   try rw[kN]
   generalize (((((W5).drew.setCell ⟨w.heap.size+1+1+1,0,none⟩ (.slice ca b.cs.length cc)).setCell ⟨w.heap.size+1+1+1,1,none⟩ (.slice fa bD fc)).setCell ⟨w.heap.size+1+1+1,2,none⟩ (.slice la ln lc)).setCell ⟨w.heap.size+1+1+1,3,none⟩ (.slice ba bE bc))=W6 at*;clear a0 a1 a2 a3 f0 f1 f2 f3 e0 e1 e2 e3 e4 e5 e6;obtain⟨e0,e1,e2,e3,e4,e5,e6,_⟩:=aB H6.out.k4;simp only[Sv.v]at e4 e5 e6;refine aD (i:=1) (by kernel_rfl) rfl rfl ?_;go_simp;obtain⟨b0,b1,b2,b3,b4,b5,b6,_⟩:=aB H6.out.k7;have g0:=ak H6.out.k7 0;have g1:=ak H6.out.k7 1;have g2:=ak H6.out.k7 2;have g3:=ak H6.out.k7 3;have g4:=ak H6.out.k7 4;have g5:=ak H6.out.k7 5;have g6:=ak H6.out.k7 6;refine aD (i:=3) (by kernel_rfl) rfl rfl ?_;go_simp;have H7:=ah (i_ (x:=⟨⟨ca,b.cs.length,cc⟩,⟨fa,bD,fc⟩,⟨la,ln,lc⟩,⟨ba,bE,bc⟩⟩) (y:=⟨y1,y2,y3,y4,⟨y5,l.sl.length,y7⟩,⟨y8,y9,dz⟩,⟨dA,dJ,cK⟩⟩) H6.out);simp only[Sv.v]at H7;generalize (((((((W6.setCell ⟨w.heap.size+1+1+1+1,0,none⟩ (.int .i64 y1)).setCell ⟨w.heap.size+1+1+1+1,1,none⟩ (.int .i64 y2)).setCell ⟨w.heap.size+1+1+1+1,2,none⟩ (.int .i64 y3)).setCell ⟨w.heap.size+1+1+1+1,3,none⟩ (.int .i64 y4)).setCell ⟨w.heap.size+1+1+1+1,4,none⟩ (.slice y5 l.sl.length y7)).setCell ⟨w.heap.size+1+1+1+1,5,none⟩ (.slice y8 y9 dz)).setCell ⟨w.heap.size+1+1+1+1,6,none⟩ (.slice dA dJ cK))=W7 at*;clear b0 b1 b2 b3 b4 b5 b6 g0 g1 g2 g3 g4 g5 g6;refine aD (i:=4) (by kernel_rfl) rfl rfl ?_;go_simp;refine aU (by kernel_rfl) ?_;obtain⟨a0,a1,a2,a3,_⟩:=ay H7.out.k6;obtain⟨b0,b1,b2,b3,b4,b5,b6,_⟩:=aB H7.out.k7;simp only[Sv.v]at a0 a1 a2 a3 b4 b5 b6;go_wp2;refine bodyPost_ret (v:=.tuple #[.agg #[.slice ca b.cs.length cc,.slice fa bD fc,.slice la ln lc,.slice ba bE bc],.agg #[.int .i64 y1,.int .i64 y2,.int .i64 y3,.int .i64 y4,.slice y5 l.sl.length y7,.slice y8 y9 dz,.slice dA dJ cK],.int .i64 1]) (by simp[results,Tryz.results78,go_sem, *]) rfl (show kV _ _ _ _ _ _ _ from ?_);exact⟨⟨⟨ca,b.cs.length,cc⟩,⟨fa,bD,fc⟩,⟨la,ln,lc⟩,⟨ba,bE,bc⟩⟩,⟨y1,y2,y3,y4,⟨y5,l.sl.length,y7⟩,⟨y8,y9,dz⟩,⟨dA,dJ,cK⟩⟩,by rw[HE.out],H7.out.bC,fun h=>absurd h (by rw[HE.out];decide)⟩
 | true=>
  have xM:=ah hB;clear hB;go_upto_block 0 with fail
  go_cut[9] (fun _v9 wx=>Below W5.heap.size W5 wx)
  case first=>
   go_wp2
   go_loopw[9] (fun i wr=>∃k:Nat,k≤l.sl.length∧i= .int .i64 k∧Below W5.heap.size W5 wr) (fun i _=>l.sl.length-(intOf i).toNat)
   case atStart=>exact⟨0,Nat.zero_le _,rfl,aL _ _⟩
   case round=>
    obtain⟨k,hk,rfl,hb⟩:=hrel;have Xc:=ah (HQ.out.keep hb);have hys:Eh w (.slice y5 l.sl.length y7) l.sl:=HY.out.s;clear c0 c1 c2 c3 e0 e1 e2 e3 e4 e5 e6 w0 w1 w2 w3;obtain⟨e0,e1,e2,e3,e4,e5,e6,_⟩:=aB Xc.out.k4;obtain⟨w0,w1,w2,w3,_⟩:=ay Xc.out.k5;simp only[Sv.v]at e4 e5 e6;by_cases bA:k<l.sl.length
    ·have jK:(k:Int)<l.sl.length:=by omega
     obtain⟨sb,so,rfl,Lh,s0,_⟩:=dI.sc hys Xc.out.bC (aC _) k bA;have HNW:=ah (fun h=>HB.out.new h l.sl[k] (List.getElem_mem _));generalize l.sl[k].key=sk at*;clear hys;have iw:IntKind.i64.wrap ((k:Int)+1)=(k:Int)+1:=IntWalk.i64_in _ (by have:=HB.out.ns;omega)
     cases hE:emp wk with
     | false=>
      obtain⟨m1,m2⟩:=yh hE
      have eP:(sk.toList==wk.toList)=false:=by
       have:=HNW.out hE;simp only[beq_eq_false_iff_ne,ne_eq];intro h;rw[ByteArray.toList_eq,ByteArray.toList_eq]at h;exact this (ByteArray.ext (Array.toList_inj.1 h))
      clear hE;go_wp2;go_quiet (fail)
      go_wp2;go_roundw
      case rel=>exact⟨k+1,by omega,by go_num,below_drewN hb _⟩
      case measure=>simp[intOf];omega
     | true=>
      have hwk:=rz hE;subst hwk;clear hE;go_wp2;go_quiet (fail)
      go_wp2;go_roundw
      case rel=>exact⟨k+1,by omega,by go_num,below_drewN hb _⟩
      case measure=>simp[intOf];omega
    ·have jK:¬ (k:Int)<l.sl.length:=by omega
     go_wp2;go_meet;exact hb
  case rest=>
  obtain⟨WA,Xb⟩:∃WA,WA=wc:=⟨_,rfl⟩;subst Xb;have DW:=ah (HQ.out.keep hcut);clear HQ hcut c0 c1 c2 c3 e0 e1 e2 e3 e4 e5 e6 w0 w1 w2 w3;obtain⟨c0,c1,c2,c3,_⟩:=ay DW.out.k3;obtain⟨w0,w1,w2,w3,_⟩:=ay DW.out.k5;simp only[Sv.v]at c0 c1 c2 c3;go_wp2_with fail
  refine(mD ⟨⟨ca,b.cs.length,cc⟩,⟨fa,bD,fc⟩,⟨la,ln,lc⟩,⟨ba,bE,bc⟩⟩ b.cs wk WA (dI.keep HX.out.c DW.out.bC (aC _))).mono ?_;rintro e WB ⟨rfl,hbp⟩;have HQ:=ah (DW.out.keep hbp);clear DW hbp c0 c1 c2 c3 w0 w1 w2 w3;obtain⟨c0,c1,c2,c3,_⟩:=ay HQ.out.k3;obtain⟨e0,e1,e2,e3,e4,e5,e6,_⟩:=aB HQ.out.k4;obtain⟨w0,w1,w2,w3,_⟩:=ay HQ.out.k5;simp only[Sv.v]at c0 c1 c2 c3 e4 e5 e6
  cases hE:emp wk with
  | false=>
   obtain⟨m1,m2⟩:=yh hE;have Xd:=ah hE;clear hE;by_cases hk:bJ b.cs wk<0
   ·have HE:Hid (dY b ⟨wk,wu,wd,wi⟩=2):=ah (by
     have h2:=AJ (w:=⟨wk,wu,wd,wi⟩) xM.out hk Xd.out;unfold dY;rw[h2]
     rfl)
    go_upto_region 10 with fail
    refine aW 2 (fun w'=>Below WB.heap.size WB w') (by kernel_rfl) ?_;have aQ:Below WB.heap.size WB WB.drew:=(aL _ _).drew;refine aP (i:=0) (v:=.agg #[.slice ca b.cs.length cc,.slice fa bD fc,.slice la ln lc,.slice ba bE bc]) rfl rfl (by kernel_rfl) (fun _ _ _ h=>h) (.inl ⟨rfl,fun w' hw=>?_⟩) aQ ?_
    ·obtain⟨a0,a1,a2,a3,_⟩:=ay (HQ.out.keep hw).k3
     simp only[Sv.v]at a0 a1 a2 a3;go_simp
    obtain⟨a0,a1,a2,a3,_⟩:=ay HQ.out.k6;have f0:=aA HQ.out.k6 0;have f1:=aA HQ.out.k6 1;have f2:=aA HQ.out.k6 2;have f3:=aA HQ.out.k6 3;have H6:=ah (qD HQ.out);simp only[Sv.v]at H6;obtain⟨e0,e1,e2,e3,e4,e5,e6,_⟩:=aB HQ.out.k4;simp only[Sv.v]at e4 e5 e6;refine iZ (i:=1) (j:=2) (by kernel_rfl) rfl rfl rfl rfl ?_ ?_
    ·go_simp
     refine aD (i:=2) (by kernel_rfl) rfl rfl ?_;go_simp
     try rw[kN]
     generalize (((((WB).drew.setCell ⟨w.heap.size+1+1+1,0,none⟩ (.slice ca b.cs.length cc)).setCell ⟨w.heap.size+1+1+1,1,none⟩ (.slice fa bD fc)).setCell ⟨w.heap.size+1+1+1,2,none⟩ (.slice la ln lc)).setCell ⟨w.heap.size+1+1+1,3,none⟩ (.slice ba bE bc))=W6 at*;clear a0 a1 a2 a3 f0 f1 f2 f3;obtain⟨b0,b1,b2,b3,b4,b5,b6,_⟩:=aB H6.out.k7;have g0:=ak H6.out.k7 0;have g1:=ak H6.out.k7 1;have g2:=ak H6.out.k7 2;have g3:=ak H6.out.k7 3;have g4:=ak H6.out.k7 4;have g5:=ak H6.out.k7 5;have g6:=ak H6.out.k7 6;refine aD (i:=3) (by kernel_rfl) rfl rfl ?_;go_simp;have H7:=ah (i_ (x:=⟨⟨ca,b.cs.length,cc⟩,⟨fa,bD,fc⟩,⟨la,ln,lc⟩,⟨ba,bE,bc⟩⟩) (y:=⟨y1,y2,y3,y4,⟨y5,l.sl.length,y7⟩,⟨y8,y9,dz⟩,⟨dA,dJ,cK⟩⟩) H6.out);simp only[Sv.v]at H7;generalize (((((((W6.setCell ⟨w.heap.size+1+1+1+1,0,none⟩ (.int .i64 y1)).setCell ⟨w.heap.size+1+1+1+1,1,none⟩ (.int .i64 y2)).setCell ⟨w.heap.size+1+1+1+1,2,none⟩ (.int .i64 y3)).setCell ⟨w.heap.size+1+1+1+1,3,none⟩ (.int .i64 y4)).setCell ⟨w.heap.size+1+1+1+1,4,none⟩ (.slice y5 l.sl.length y7)).setCell ⟨w.heap.size+1+1+1+1,5,none⟩ (.slice y8 y9 dz)).setCell ⟨w.heap.size+1+1+1+1,6,none⟩ (.slice dA dJ cK))=W7 at*;clear b0 b1 b2 b3 b4 b5 b6 g0 g1 g2 g3 g4 g5 g6;refine aD (i:=4) (by kernel_rfl) rfl rfl ?_;go_simp;refine aU (by kernel_rfl) ?_;obtain⟨a0,a1,a2,a3,_⟩:=ay H7.out.k6;obtain⟨b0,b1,b2,b3,b4,b5,b6,_⟩:=aB H7.out.k7;simp only[Sv.v]at a0 a1 a2 a3 b4 b5 b6;go_wp2;refine bodyPost_ret (v:=.tuple #[.agg #[.slice ca b.cs.length cc,.slice fa bD fc,.slice la ln lc,.slice ba bE bc],.agg #[.int .i64 y1,.int .i64 y2,.int .i64 y3,.int .i64 y4,.slice y5 l.sl.length y7,.slice y8 y9 dz,.slice dA dJ cK],.int .i64 2]) (by simp[results,Tryz.results78,go_sem, *]) rfl (show kV _ _ _ _ _ _ _ from ?_);exact⟨⟨⟨ca,b.cs.length,cc⟩,⟨fa,bD,fc⟩,⟨la,ln,lc⟩,⟨ba,bE,bc⟩⟩,⟨y1,y2,y3,y4,⟨y5,l.sl.length,y7⟩,⟨y8,y9,dz⟩,⟨dA,dJ,cK⟩⟩,by rw[HE.out],H7.out.bC,fun h=>absurd h (by rw[HE.out];decide)⟩
    ·go_simp
     try rw[kN]
     generalize (((((WB).drew.setCell ⟨w.heap.size+1+1+1,0,none⟩ (.slice ca b.cs.length cc)).setCell ⟨w.heap.size+1+1+1,1,none⟩ (.slice fa bD fc)).setCell ⟨w.heap.size+1+1+1,2,none⟩ (.slice la ln lc)).setCell ⟨w.heap.size+1+1+1,3,none⟩ (.slice ba bE bc))=W6 at*;clear a0 a1 a2 a3 f0 f1 f2 f3 e0 e1 e2 e3 e4 e5 e6;obtain⟨e0,e1,e2,e3,e4,e5,e6,_⟩:=aB H6.out.k4;simp only[Sv.v]at e4 e5 e6;refine aD (i:=1) (by kernel_rfl) rfl rfl ?_;go_simp;obtain⟨b0,b1,b2,b3,b4,b5,b6,_⟩:=aB H6.out.k7;have g0:=ak H6.out.k7 0;have g1:=ak H6.out.k7 1;have g2:=ak H6.out.k7 2;have g3:=ak H6.out.k7 3;have g4:=ak H6.out.k7 4;have g5:=ak H6.out.k7 5;have g6:=ak H6.out.k7 6;refine aD (i:=3) (by kernel_rfl) rfl rfl ?_;go_simp;have H7:=ah (i_ (x:=⟨⟨ca,b.cs.length,cc⟩,⟨fa,bD,fc⟩,⟨la,ln,lc⟩,⟨ba,bE,bc⟩⟩) (y:=⟨y1,y2,y3,y4,⟨y5,l.sl.length,y7⟩,⟨y8,y9,dz⟩,⟨dA,dJ,cK⟩⟩) H6.out);simp only[Sv.v]at H7;generalize (((((((W6.setCell ⟨w.heap.size+1+1+1+1,0,none⟩ (.int .i64 y1)).setCell ⟨w.heap.size+1+1+1+1,1,none⟩ (.int .i64 y2)).setCell ⟨w.heap.size+1+1+1+1,2,none⟩ (.int .i64 y3)).setCell ⟨w.heap.size+1+1+1+1,3,none⟩ (.int .i64 y4)).setCell ⟨w.heap.size+1+1+1+1,4,none⟩ (.slice y5 l.sl.length y7)).setCell ⟨w.heap.size+1+1+1+1,5,none⟩ (.slice y8 y9 dz)).setCell ⟨w.heap.size+1+1+1+1,6,none⟩ (.slice dA dJ cK))=W7 at*;clear b0 b1 b2 b3 b4 b5 b6 g0 g1 g2 g3 g4 g5 g6;refine aD (i:=4) (by kernel_rfl) rfl rfl ?_;go_simp;refine aU (by kernel_rfl) ?_;obtain⟨a0,a1,a2,a3,_⟩:=ay H7.out.k6;obtain⟨b0,b1,b2,b3,b4,b5,b6,_⟩:=aB H7.out.k7;simp only[Sv.v]at a0 a1 a2 a3 b4 b5 b6;go_wp2;refine bodyPost_ret (v:=.tuple #[.agg #[.slice ca b.cs.length cc,.slice fa bD fc,.slice la ln lc,.slice ba bE bc],.agg #[.int .i64 y1,.int .i64 y2,.int .i64 y3,.int .i64 y4,.slice y5 l.sl.length y7,.slice y8 y9 dz,.slice dA dJ cK],.int .i64 2]) (by simp[results,Tryz.results78,go_sem, *]) rfl (show kV _ _ _ _ _ _ _ from ?_);exact⟨⟨⟨ca,b.cs.length,cc⟩,⟨fa,bD,fc⟩,⟨la,ln,lc⟩,⟨ba,bE,bc⟩⟩,⟨y1,y2,y3,y4,⟨y5,l.sl.length,y7⟩,⟨y8,y9,dz⟩,⟨dA,dJ,cK⟩⟩,by rw[HE.out],H7.out.bC,fun h=>absurd h (by rw[HE.out];decide)⟩
   ·have nH:¬bJ b.cs wk<0:=hk
    obtain⟨jj,hjj,lq⟩:∃jj:Nat,bJ b.cs wk=jj∧jj<b.cs.length:=by
     rcases b_ (fun c:Ct=>decide (c.key=wk)) b.cs with⟨hi,_⟩ | ⟨i,hi,BZ,_,_⟩
     ·exact absurd (show bJ b.cs wk<0 by rw[show bJ b.cs wk= -1 from hi];decide) nH
     ·exact⟨i,BZ,hi⟩
    have O8:Hid (kL b ⟨wk,wu,wd,wi⟩=b.cs[jj]):=ah (by
     show b.cs.getD (bJ b.cs wk).toNat l8=_;rw[hjj,Int.toNat_natCast,List.getD_eq_getElem?_getD,List.getElem?_eq_getElem lq]
     rfl)
    by_cases hf:b.cs[jj].up<wu∨b.cs[jj].down<wd
    ·have HE:Hid (dY b ⟨wk,wu,wd,wi⟩=14):=ah (by
      have h2:=DI (w:=⟨wk,wu,wd,wi⟩) xM.out nH Xd.out (by rw[O8.out];exact hf);unfold dY;rw[h2]
      rfl)
     rw[hjj];have hmc:oN w (.slice ca b.cs.length cc) b.cs:=HX.out.c;obtain⟨pb,po,rfl,hpb,_,_,_,_,_,p5,p6⟩:=dI.ct hmc HQ.out.bC (aC _) jj lq;have aav:(jj:Int)<b.cs.length:=by omega
     have aaw:(0:Int)≤(jj:Int):=by omega
     generalize b.cs[jj].up=cu at*;generalize b.cs[jj].down=cd at*;have O8:=();clear hk nH hjj hmc O8;go_upto_region 13 with fail
     go_cut[119] (fun v wx=>v= .bool true∧Below WB.heap.size WB wx)
     case first=>
      by_cases h1:cu<wu
      ·go_wp2
       go_quiet (fail)
       go_wp2;go_meet;exact⟨rfl,below_drewN (aL _ _) _⟩
      ·have h2:cd<wd:=by omega
       have h1':decide (cu<wu)=false:=by simpa using h1
       go_wp2;go_quiet (fail)
       go_wp2;go_meet;exact⟨rfl,below_drewN (aL _ _) _⟩
     case rest=>
     obtain⟨rfl,hbc⟩:=hcut;obtain⟨WC,hWC⟩:∃WC,WC=wc:=⟨_,rfl⟩;subst hWC;have JK:=ah (HQ.out.keep hbc);clear HQ hbc c0 c1 c2 c3 e0 e1 e2 e3 e4 e5 e6 w0 w1 w2 w3 p5 p6;have HQ:=ah JK.out;clear JK;go_upto_region 14 with fail
     refine aW 2 (fun w'=>Below WC.heap.size WC w') (by kernel_rfl) ?_;have aQ:Below WC.heap.size WC WC.drew:=(aL _ _).drew;refine aP (i:=0) (v:=.agg #[.slice (some ⟨pb,po,none⟩) b.cs.length cc,.slice fa bD fc,.slice la ln lc,.slice ba bE bc]) rfl rfl (by kernel_rfl) (fun _ _ _ h=>h) (.inl ⟨rfl,fun w' hw=>?_⟩) aQ ?_
     ·obtain⟨a0,a1,a2,a3,_⟩:=ay (HQ.out.keep hw).k3
      simp only[Sv.v]at a0 a1 a2 a3;go_simp
     obtain⟨a0,a1,a2,a3,_⟩:=ay HQ.out.k6;have f0:=aA HQ.out.k6 0;have f1:=aA HQ.out.k6 1;have f2:=aA HQ.out.k6 2;have f3:=aA HQ.out.k6 3;have H6:=ah (qD HQ.out);simp only[Sv.v]at H6;obtain⟨e0,e1,e2,e3,e4,e5,e6,_⟩:=aB HQ.out.k4;simp only[Sv.v]at e4 e5 e6;refine iZ (i:=1) (j:=2) (by kernel_rfl) rfl rfl rfl rfl ?_ ?_
     ·go_simp
      refine aD (i:=2) (by kernel_rfl) rfl rfl ?_;go_simp
      try rw[kN]
      generalize (((((WC).drew.setCell ⟨w.heap.size+1+1+1,0,none⟩ (.slice (some ⟨pb,po,none⟩) b.cs.length cc)).setCell ⟨w.heap.size+1+1+1,1,none⟩ (.slice fa bD fc)).setCell ⟨w.heap.size+1+1+1,2,none⟩ (.slice la ln lc)).setCell ⟨w.heap.size+1+1+1,3,none⟩ (.slice ba bE bc))=W6 at*;clear a0 a1 a2 a3 f0 f1 f2 f3;obtain⟨b0,b1,b2,b3,b4,b5,b6,_⟩:=aB H6.out.k7;have g0:=ak H6.out.k7 0;have g1:=ak H6.out.k7 1;have g2:=ak H6.out.k7 2;have g3:=ak H6.out.k7 3;have g4:=ak H6.out.k7 4;have g5:=ak H6.out.k7 5;have g6:=ak H6.out.k7 6;refine aD (i:=3) (by kernel_rfl) rfl rfl ?_;go_simp;have H7:=ah (i_ (x:=⟨⟨some ⟨pb,po,none⟩,b.cs.length,cc⟩,⟨fa,bD,fc⟩,⟨la,ln,lc⟩,⟨ba,bE,bc⟩⟩) (y:=⟨y1,y2,y3,y4,⟨y5,l.sl.length,y7⟩,⟨y8,y9,dz⟩,⟨dA,dJ,cK⟩⟩) H6.out);simp only[Sv.v]at H7;generalize (((((((W6.setCell ⟨w.heap.size+1+1+1+1,0,none⟩ (.int .i64 y1)).setCell ⟨w.heap.size+1+1+1+1,1,none⟩ (.int .i64 y2)).setCell ⟨w.heap.size+1+1+1+1,2,none⟩ (.int .i64 y3)).setCell ⟨w.heap.size+1+1+1+1,3,none⟩ (.int .i64 y4)).setCell ⟨w.heap.size+1+1+1+1,4,none⟩ (.slice y5 l.sl.length y7)).setCell ⟨w.heap.size+1+1+1+1,5,none⟩ (.slice y8 y9 dz)).setCell ⟨w.heap.size+1+1+1+1,6,none⟩ (.slice dA dJ cK))=W7 at*;clear b0 b1 b2 b3 b4 b5 b6 g0 g1 g2 g3 g4 g5 g6;refine aD (i:=4) (by kernel_rfl) rfl rfl ?_;go_simp;refine aU (by kernel_rfl) ?_;obtain⟨a0,a1,a2,a3,_⟩:=ay H7.out.k6;obtain⟨b0,b1,b2,b3,b4,b5,b6,_⟩:=aB H7.out.k7;simp only[Sv.v]at a0 a1 a2 a3 b4 b5 b6;go_wp2;refine bodyPost_ret (v:=.tuple #[.agg #[.slice (some ⟨pb,po,none⟩) b.cs.length cc,.slice fa bD fc,.slice la ln lc,.slice ba bE bc],.agg #[.int .i64 y1,.int .i64 y2,.int .i64 y3,.int .i64 y4,.slice y5 l.sl.length y7,.slice y8 y9 dz,.slice dA dJ cK],.int .i64 14]) (by simp[results,Tryz.results78,go_sem, *]) rfl (show kV _ _ _ _ _ _ _ from ?_);exact⟨⟨⟨some ⟨pb,po,none⟩,b.cs.length,cc⟩,⟨fa,bD,fc⟩,⟨la,ln,lc⟩,⟨ba,bE,bc⟩⟩,⟨y1,y2,y3,y4,⟨y5,l.sl.length,y7⟩,⟨y8,y9,dz⟩,⟨dA,dJ,cK⟩⟩,by rw[HE.out],H7.out.bC,fun h=>absurd h (by rw[HE.out];decide)⟩
     ·go_simp
      try rw[kN]
      generalize (((((WC).drew.setCell ⟨w.heap.size+1+1+1,0,none⟩ (.slice (some ⟨pb,po,none⟩) b.cs.length cc)).setCell ⟨w.heap.size+1+1+1,1,none⟩ (.slice fa bD fc)).setCell ⟨w.heap.size+1+1+1,2,none⟩ (.slice la ln lc)).setCell ⟨w.heap.size+1+1+1,3,none⟩ (.slice ba bE bc))=W6 at*;clear a0 a1 a2 a3 f0 f1 f2 f3 e0 e1 e2 e3 e4 e5 e6;obtain⟨e0,e1,e2,e3,e4,e5,e6,_⟩:=aB H6.out.k4;simp only[Sv.v]at e4 e5 e6;refine aD (i:=1) (by kernel_rfl) rfl rfl ?_;go_simp;obtain⟨b0,b1,b2,b3,b4,b5,b6,_⟩:=aB H6.out.k7;have g0:=ak H6.out.k7 0;have g1:=ak H6.out.k7 1;have g2:=ak H6.out.k7 2;have g3:=ak H6.out.k7 3;have g4:=ak H6.out.k7 4;have g5:=ak H6.out.k7 5;have g6:=ak H6.out.k7 6;refine aD (i:=3) (by kernel_rfl) rfl rfl ?_;go_simp;have H7:=ah (i_ (x:=⟨⟨some ⟨pb,po,none⟩,b.cs.length,cc⟩,⟨fa,bD,fc⟩,⟨la,ln,lc⟩,⟨ba,bE,bc⟩⟩) (y:=⟨y1,y2,y3,y4,⟨y5,l.sl.length,y7⟩,⟨y8,y9,dz⟩,⟨dA,dJ,cK⟩⟩) H6.out);simp only[Sv.v]at H7;generalize (((((((W6.setCell ⟨w.heap.size+1+1+1+1,0,none⟩ (.int .i64 y1)).setCell ⟨w.heap.size+1+1+1+1,1,none⟩ (.int .i64 y2)).setCell ⟨w.heap.size+1+1+1+1,2,none⟩ (.int .i64 y3)).setCell ⟨w.heap.size+1+1+1+1,3,none⟩ (.int .i64 y4)).setCell ⟨w.heap.size+1+1+1+1,4,none⟩ (.slice y5 l.sl.length y7)).setCell ⟨w.heap.size+1+1+1+1,5,none⟩ (.slice y8 y9 dz)).setCell ⟨w.heap.size+1+1+1+1,6,none⟩ (.slice dA dJ cK))=W7 at*;clear b0 b1 b2 b3 b4 b5 b6 g0 g1 g2 g3 g4 g5 g6;refine aD (i:=4) (by kernel_rfl) rfl rfl ?_;go_simp;refine aU (by kernel_rfl) ?_;obtain⟨a0,a1,a2,a3,_⟩:=ay H7.out.k6;obtain⟨b0,b1,b2,b3,b4,b5,b6,_⟩:=aB H7.out.k7;simp only[Sv.v]at a0 a1 a2 a3 b4 b5 b6;go_wp2;refine bodyPost_ret (v:=.tuple #[.agg #[.slice (some ⟨pb,po,none⟩) b.cs.length cc,.slice fa bD fc,.slice la ln lc,.slice ba bE bc],.agg #[.int .i64 y1,.int .i64 y2,.int .i64 y3,.int .i64 y4,.slice y5 l.sl.length y7,.slice y8 y9 dz,.slice dA dJ cK],.int .i64 14]) (by simp[results,Tryz.results78,go_sem, *]) rfl (show kV _ _ _ _ _ _ _ from ?_);exact⟨⟨⟨some ⟨pb,po,none⟩,b.cs.length,cc⟩,⟨fa,bD,fc⟩,⟨la,ln,lc⟩,⟨ba,bE,bc⟩⟩,⟨y1,y2,y3,y4,⟨y5,l.sl.length,y7⟩,⟨y8,y9,dz⟩,⟨dA,dJ,cK⟩⟩,by rw[HE.out],H7.out.bC,fun h=>absurd h (by rw[HE.out];decide)⟩
    ·exact absurd (AO (w:=⟨wk,wu,wd,wi⟩) xM.out nH Xd.out (by rw[O8.out];exact fun h=>hf (.inl h)) (by rw[O8.out];exact fun h=>hf (.inr h))) HC.out
  | true=>
   have Xd:=ah hE;have hwk:=rz hE;subst hwk;clear hE
   have Qj:Hid (bJ b.cs ⟨#[]⟩= -1):=ah (by
    rcases b_ (fun c:Ct=>decide (c.key=(⟨#[]⟩:ByteArray))) b.cs with⟨hi,_⟩ | ⟨i,hi,BZ,hp,_⟩
    ·exact hi
    ·have h1:=HB.out.key b.cs[i] (List.getElem_mem hi)
     have h2:b.cs[i].key=⟨#[]⟩:=of_decide_eq_true hp;rw[h2,Xd.out]at h1
     cases h1)
   rw[Qj.out]
   have ajh:0≤wu∧0≤wd:=by
    have:=rG ⟨#[]⟩ wu wd wi;rw[xM.out]at this;simp at this;omega
   by_cases hud:0<wu+wd
   ·have HE:Hid (dY b ⟨⟨#[]⟩,wu,wd,wi⟩=1):=ah (by
     have h2:=vv (b:=b) (w:=⟨⟨#[]⟩,wu,wd,wi⟩) xM.out Xd.out hud;unfold dY;rw[h2]
     rfl)
    go_upto_region 11 with fail
    go_cut[93] (fun v wx=>v= .bool true∧wx=WB)
    case first=>
     by_cases h1:wu=0
     ·have h2:(wd != 0)=true:=by simp;omega
      have h1':(wu != 0)=false:=by simp[h1]
      go_wp2;go_meet;exact⟨rfl,rfl⟩
     ·have h1':(wu != 0)=true:=by simpa using h1
      go_wp2;go_meet;exact⟨rfl,rfl⟩
    case rest=>
    obtain⟨rfl,rV⟩:=hcut;rw[rV];clear rV;go_upto_region 12 with fail
    refine aW 2 (fun w'=>Below WB.heap.size WB w') (by kernel_rfl) ?_;have aQ:Below WB.heap.size WB WB.drew:=(aL _ _).drew;refine aP (i:=0) (v:=.agg #[.slice ca b.cs.length cc,.slice fa bD fc,.slice la ln lc,.slice ba bE bc]) rfl rfl (by kernel_rfl) (fun _ _ _ h=>h) (.inl ⟨rfl,fun w' hw=>?_⟩) aQ ?_
    ·obtain⟨a0,a1,a2,a3,_⟩:=ay (HQ.out.keep hw).k3
     simp only[Sv.v]at a0 a1 a2 a3;go_simp
    obtain⟨a0,a1,a2,a3,_⟩:=ay HQ.out.k6;have f0:=aA HQ.out.k6 0;have f1:=aA HQ.out.k6 1;have f2:=aA HQ.out.k6 2;have f3:=aA HQ.out.k6 3;have H6:=ah (qD HQ.out);simp only[Sv.v]at H6;obtain⟨e0,e1,e2,e3,e4,e5,e6,_⟩:=aB HQ.out.k4;simp only[Sv.v]at e4 e5 e6;refine iZ (i:=1) (j:=2) (by kernel_rfl) rfl rfl rfl rfl ?_ ?_
    ·go_simp
     refine aD (i:=2) (by kernel_rfl) rfl rfl ?_;go_simp
     try rw[kN]
     generalize (((((WB).drew.setCell ⟨w.heap.size+1+1+1,0,none⟩ (.slice ca b.cs.length cc)).setCell ⟨w.heap.size+1+1+1,1,none⟩ (.slice fa bD fc)).setCell ⟨w.heap.size+1+1+1,2,none⟩ (.slice la ln lc)).setCell ⟨w.heap.size+1+1+1,3,none⟩ (.slice ba bE bc))=W6 at*;clear a0 a1 a2 a3 f0 f1 f2 f3;obtain⟨b0,b1,b2,b3,b4,b5,b6,_⟩:=aB H6.out.k7;have g0:=ak H6.out.k7 0;have g1:=ak H6.out.k7 1;have g2:=ak H6.out.k7 2;have g3:=ak H6.out.k7 3;have g4:=ak H6.out.k7 4;have g5:=ak H6.out.k7 5;have g6:=ak H6.out.k7 6;refine aD (i:=3) (by kernel_rfl) rfl rfl ?_;go_simp;have H7:=ah (i_ (x:=⟨⟨ca,b.cs.length,cc⟩,⟨fa,bD,fc⟩,⟨la,ln,lc⟩,⟨ba,bE,bc⟩⟩) (y:=⟨y1,y2,y3,y4,⟨y5,l.sl.length,y7⟩,⟨y8,y9,dz⟩,⟨dA,dJ,cK⟩⟩) H6.out);simp only[Sv.v]at H7;generalize (((((((W6.setCell ⟨w.heap.size+1+1+1+1,0,none⟩ (.int .i64 y1)).setCell ⟨w.heap.size+1+1+1+1,1,none⟩ (.int .i64 y2)).setCell ⟨w.heap.size+1+1+1+1,2,none⟩ (.int .i64 y3)).setCell ⟨w.heap.size+1+1+1+1,3,none⟩ (.int .i64 y4)).setCell ⟨w.heap.size+1+1+1+1,4,none⟩ (.slice y5 l.sl.length y7)).setCell ⟨w.heap.size+1+1+1+1,5,none⟩ (.slice y8 y9 dz)).setCell ⟨w.heap.size+1+1+1+1,6,none⟩ (.slice dA dJ cK))=W7 at*;clear b0 b1 b2 b3 b4 b5 b6 g0 g1 g2 g3 g4 g5 g6;refine aD (i:=4) (by kernel_rfl) rfl rfl ?_;go_simp;refine aU (by kernel_rfl) ?_;obtain⟨a0,a1,a2,a3,_⟩:=ay H7.out.k6;obtain⟨b0,b1,b2,b3,b4,b5,b6,_⟩:=aB H7.out.k7;simp only[Sv.v]at a0 a1 a2 a3 b4 b5 b6;go_wp2;refine bodyPost_ret (v:=.tuple #[.agg #[.slice ca b.cs.length cc,.slice fa bD fc,.slice la ln lc,.slice ba bE bc],.agg #[.int .i64 y1,.int .i64 y2,.int .i64 y3,.int .i64 y4,.slice y5 l.sl.length y7,.slice y8 y9 dz,.slice dA dJ cK],.int .i64 1]) (by simp[results,Tryz.results78,go_sem, *]) rfl (show kV _ _ _ _ _ _ _ from ?_);exact⟨⟨⟨ca,b.cs.length,cc⟩,⟨fa,bD,fc⟩,⟨la,ln,lc⟩,⟨ba,bE,bc⟩⟩,⟨y1,y2,y3,y4,⟨y5,l.sl.length,y7⟩,⟨y8,y9,dz⟩,⟨dA,dJ,cK⟩⟩,by rw[HE.out],H7.out.bC,fun h=>absurd h (by rw[HE.out];decide)⟩
    ·go_simp
     try rw[kN]
     generalize (((((WB).drew.setCell ⟨w.heap.size+1+1+1,0,none⟩ (.slice ca b.cs.length cc)).setCell ⟨w.heap.size+1+1+1,1,none⟩ (.slice fa bD fc)).setCell ⟨w.heap.size+1+1+1,2,none⟩ (.slice la ln lc)).setCell ⟨w.heap.size+1+1+1,3,none⟩ (.slice ba bE bc))=W6 at*;clear a0 a1 a2 a3 f0 f1 f2 f3 e0 e1 e2 e3 e4 e5 e6;obtain⟨e0,e1,e2,e3,e4,e5,e6,_⟩:=aB H6.out.k4;simp only[Sv.v]at e4 e5 e6;refine aD (i:=1) (by kernel_rfl) rfl rfl ?_;go_simp;obtain⟨b0,b1,b2,b3,b4,b5,b6,_⟩:=aB H6.out.k7;have g0:=ak H6.out.k7 0;have g1:=ak H6.out.k7 1;have g2:=ak H6.out.k7 2;have g3:=ak H6.out.k7 3;have g4:=ak H6.out.k7 4;have g5:=ak H6.out.k7 5;have g6:=ak H6.out.k7 6;refine aD (i:=3) (by kernel_rfl) rfl rfl ?_;go_simp;have H7:=ah (i_ (x:=⟨⟨ca,b.cs.length,cc⟩,⟨fa,bD,fc⟩,⟨la,ln,lc⟩,⟨ba,bE,bc⟩⟩) (y:=⟨y1,y2,y3,y4,⟨y5,l.sl.length,y7⟩,⟨y8,y9,dz⟩,⟨dA,dJ,cK⟩⟩) H6.out);simp only[Sv.v]at H7;generalize (((((((W6.setCell ⟨w.heap.size+1+1+1+1,0,none⟩ (.int .i64 y1)).setCell ⟨w.heap.size+1+1+1+1,1,none⟩ (.int .i64 y2)).setCell ⟨w.heap.size+1+1+1+1,2,none⟩ (.int .i64 y3)).setCell ⟨w.heap.size+1+1+1+1,3,none⟩ (.int .i64 y4)).setCell ⟨w.heap.size+1+1+1+1,4,none⟩ (.slice y5 l.sl.length y7)).setCell ⟨w.heap.size+1+1+1+1,5,none⟩ (.slice y8 y9 dz)).setCell ⟨w.heap.size+1+1+1+1,6,none⟩ (.slice dA dJ cK))=W7 at*;clear b0 b1 b2 b3 b4 b5 b6 g0 g1 g2 g3 g4 g5 g6;refine aD (i:=4) (by kernel_rfl) rfl rfl ?_;go_simp;refine aU (by kernel_rfl) ?_;obtain⟨a0,a1,a2,a3,_⟩:=ay H7.out.k6;obtain⟨b0,b1,b2,b3,b4,b5,b6,_⟩:=aB H7.out.k7;simp only[Sv.v]at a0 a1 a2 a3 b4 b5 b6;go_wp2;refine bodyPost_ret (v:=.tuple #[.agg #[.slice ca b.cs.length cc,.slice fa bD fc,.slice la ln lc,.slice ba bE bc],.agg #[.int .i64 y1,.int .i64 y2,.int .i64 y3,.int .i64 y4,.slice y5 l.sl.length y7,.slice y8 y9 dz,.slice dA dJ cK],.int .i64 1]) (by simp[results,Tryz.results78,go_sem, *]) rfl (show kV _ _ _ _ _ _ _ from ?_);exact⟨⟨⟨ca,b.cs.length,cc⟩,⟨fa,bD,fc⟩,⟨la,ln,lc⟩,⟨ba,bE,bc⟩⟩,⟨y1,y2,y3,y4,⟨y5,l.sl.length,y7⟩,⟨y8,y9,dz⟩,⟨dA,dJ,cK⟩⟩,by rw[HE.out],H7.out.bC,fun h=>absurd h (by rw[HE.out];decide)⟩
   ·exact absurd (AL (w:=⟨⟨#[]⟩,wu,wd,wi⟩) xM.out Xd.out hud) HC.out
end Go.Proofs.YtlfopoimbbpfdaaGreat
