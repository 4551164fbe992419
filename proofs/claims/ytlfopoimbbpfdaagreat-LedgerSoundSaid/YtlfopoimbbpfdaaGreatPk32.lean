/- What the law asks, in parts: LSm LSn LBg Ba Da Fa. -/
import Derived.Test.YtlfopoimbbpfdaaGreatPk28
import Derived.Test.YtlfopoimbbpfdaaGreatPk2
import Derived.Test.YtlfopoimbbpfdaaGreatPk31
import Derived.Test.YtlfopoimbbpfdaaGreatPk18
import Derived.Test.YtlfopoimbbpfdaaGreatPk27
import Derived.Test.YtlfopoimbbpfdaaGreatPk30
import Derived.Test.YtlfopoimbbpfdaaGreatPk26
import Derived.Test.YtlfopoimbbpfdaaGreatPk25
set_option linter.all false
set_option maxRecDepth 100000
set_option maxHeartbeats 16000000
namespace Go.Proofs.YtlfopoimbbpfdaaGreat
open Go.RowKit
theorem Bv (x y:cB) (a b:Ls) (w:World) (h:nV w x a) (h':nV w y b):
  Calls Tryz.prog 58 #[o9 x,o9 y] w fun e w'=>e= .returned (.bool (decide (a=b)))∧Below w.heap.size w w':=by
 obtain⟨x1,x2,x3,x4,⟨x5,x6,x7⟩,⟨x8,x9,wh⟩,⟨wm,wz,wC⟩⟩:=x;obtain⟨y1,y2,y3,y4,⟨y5,y6,y7⟩,⟨y8,y9,dz⟩,⟨dA,dJ,cK⟩⟩:=y;obtain⟨a1,a2,a3,a4,a5,a6,a7⟩:=a;obtain⟨b1,b2,b3,b4,b5,b6,b7⟩:=b;obtain⟨e1,e2,e3,e4,hs,hi,hu⟩:=h;obtain⟨e1',e2',e3',e4',hs',hi',hu'⟩:=h';simp only at e1 e2 e3 e4 e1' e2' e3' e4';subst e1 e2 e3 e4 e1' e2' e3' e4';generalize ny:decide ((⟨x1,x2,x3,x4,a5,a6,a7⟩:Ls)=⟨y1,y2,y3,y4,b5,b6,b7⟩)=res;have fO:=ah ny;clear ny;have bB:Below w.heap.size w ((w.alloc (.cells #[.int .i64 x1,.int .i64 x2,.int .i64 x3,.int .i64 x4,.slice x5 x6 x7,.slice x8 x9 wh,.slice wm wz wC] 48)).alloc (.cells #[.int .i64 y1,.int .i64 y2,.int .i64 y3,.int .i64 y4,.slice y5 y6 y7,.slice y8 y9 dz,.slice dA dJ cK] 48)):=((aL _ _).alloc (aC _) _).alloc (by simp) _;have k1:=bX w (.cells #[.int .i64 x1,.int .i64 x2,.int .i64 x3,.int .i64 x4,.slice x5 x6 x7,.slice x8 x9 wh,.slice wm wz wC] 48) (.cells #[.int .i64 y1,.int .i64 y2,.int .i64 y3,.int .i64 y4,.slice y5 y6 y7,.slice y8 y9 dz,.slice dA dJ cK] 48);have k2:=bL w (.cells #[.int .i64 x1,.int .i64 x2,.int .i64 x3,.int .i64 x4,.slice x5 x6 x7,.slice x8 x9 wh,.slice wm wz wC] 48) (.cells #[.int .i64 y1,.int .i64 y2,.int .i64 y3,.int .i64 y4,.slice y5 y6 y7,.slice y8 y9 dz,.slice dA dJ cK] 48);have f_:w.heap.size+1<((w.alloc (.cells #[.int .i64 x1,.int .i64 x2,.int .i64 x3,.int .i64 x4,.slice x5 x6 x7,.slice x8 x9 wh,.slice wm wz wC] 48)).alloc (.cells #[.int .i64 y1,.int .i64 y2,.int .i64 y3,.int .i64 y4,.slice y5 y6 y7,.slice y8 y9 dz,.slice dA dJ cK] 48)).heap.size:=by simp
 change Calls Tryz.prog _ #[.agg #[.int .i64 x1,.int .i64 x2,.int .i64 x3,.int .i64 x4,.slice x5 x6 x7,.slice x8 x9 wh,.slice wm wz wC],.agg #[.int .i64 y1,.int .i64 y2,.int .i64 y3,.int .i64 y4,.slice y5 y6 y7,.slice y8 y9 dz,.slice dA dJ cK]] w _;have fJ:=ah k1;have eT:=ah k2;clear k1 k2
 go_enter Tryz.func58,Tryz.ntmps58
 go_upto_region 1 with fail
 have HS:=ah (dI.keep hs bB (aC _));have Y8:=ah (dI.keep hs' bB (aC _));have HI:=ah (fD.keep hi bB (aC _));have HI':=ah (fD.keep hi' bB (aC _));have HU:=ah (jv.keep hu bB (aC _));have HU':=ah (jv.keep hu' bB (aC _));clear hs hs' hi hi' hu hu';generalize (w.alloc (.cells #[.int .i64 x1,.int .i64 x2,.int .i64 x3,.int .i64 x4,.slice x5 x6 x7,.slice x8 x9 wh,.slice wm wz wC] 48)).alloc (.cells #[.int .i64 y1,.int .i64 y2,.int .i64 y3,.int .i64 y4,.slice y5 y6 y7,.slice y8 y9 dz,.slice dA dJ cK] 48)=W at*;have uO:=ah bB;clear bB;obtain⟨c0,c1,c2,c3,c4,c5,c6,_⟩:=aB fJ.out;obtain⟨d0,d1,d2,d3,d4,d5,d6,_⟩:=aB eT.out
 have KS:Hid (∀V,Below W.heap.size W V→((V.cell? ⟨w.heap.size,5,none⟩=some (.slice x8 x9 wh)∧V.cell? ⟨w.heap.size,6,none⟩=some (.slice wm wz wC))∧(V.cell? ⟨w.heap.size+1,5,none⟩=some (.slice y8 y9 dz)∧V.cell? ⟨w.heap.size+1,6,none⟩=some (.slice dA dJ cK)))):=ah (fun V hV=>by
  obtain⟨_,_,_,_,_,p5,p6,_⟩:=aB (aj fJ.out hV (by omega));obtain⟨_,_,_,_,_,q5,q6,_⟩:=aB (aj eT.out hV f_)
  exact⟨⟨p5,p6⟩,q5,q6⟩)
 have mM:Hid (¬ (x1=y1∧x2=y2∧x3=y3∧x4=y4∧a5=b5∧a6=b6∧a7=b7)→res=false):=ah (fun hh=>by
  rw[←fO.out,decide_eq_false_iff_not];intro e;injection e with e1 e2 e3 e4 e5 e6 e7
  exact hh ⟨e1,e2,e3,e4,e5,e6,e7⟩)
 by_cases g1:x1=y1
 case neg=>
  have s1:(x1==y1)=false:=by simpa using g1
  have HF:=ah (mM.out (fun h=>g1 h.1));clear g1;go_wp2;go_ret;exact⟨aH HF.out.symm,uO.out⟩
 subst g1;by_cases g2:x2=y2
 case neg=>
  have s1:(x2==y2)=false:=by simpa using g2
  have HF:=ah (mM.out (fun h=>g2 h.2.1));clear g2;go_wp2;go_ret;exact⟨aH HF.out.symm,uO.out⟩
 subst g2;by_cases g3:x3=y3
 case neg=>
  have s1:(x3==y3)=false:=by simpa using g3
  have HF:=ah (mM.out (fun h=>g3 h.2.2.1));clear g3;go_wp2;go_ret;exact⟨aH HF.out.symm,uO.out⟩
 subst g3;by_cases g4:x4=y4
 case neg=>
  have s1:(x4==y4)=false:=by simpa using g4
  have HF:=ah (mM.out (fun h=>g4 h.2.2.2.1));clear g4;go_wp2;go_ret;exact⟨aH HF.out.symm,uO.out⟩
 subst g4;go_wp2_with fail
 refine(QJ _ _ _ _ _ HS.out Y8.out).mono ?_;rintro e w3 ⟨rfl,bT⟩;obtain⟨⟨p5,p6⟩,q5,q6⟩:=KS.out _ bT;have HI3:=ah (fD.keep HI.out bT (aC _));have afh:=ah (fD.keep HI'.out bT (aC _));have lI:=ah (uO.out.trans (bT.mono uO.out.size));obtain⟨q,hq⟩:∃q,decide (a5=b5)=q:=⟨_,rfl⟩;rw[hq];have HQ:=ah hq;have aa6:=ah bT;clear hq bT
 cases q with
 | false=>
  have HF:=ah (mM.out (fun h=>by have:=HQ.out;rw[h.2.2.2.2.1]at this;simp at this));go_wp2;go_ret;exact⟨aH HF.out.symm,lI.out⟩
 | true=>
  clear p6 q6;go_wp2_with fail
  refine(Ic _ _ _ _ _ HI3.out afh.out).mono ?_;rintro e w4 ⟨rfl,bR⟩;have jX:=aa6.out.trans (bR.mono aa6.out.size);clear p5 q5;obtain⟨⟨p5,p6⟩,q5,q6⟩:=KS.out _ jX;have HU4:=ah (jv.keep HU.out jX (aC _));have afi:=ah (jv.keep HU'.out jX (aC _));have lC:=ah (uO.out.trans (jX.mono uO.out.size));obtain⟨q2,hq⟩:∃q,decide (a6=b6)=q:=⟨_,rfl⟩;rw[hq];have eF:=ah hq;clear hq bR jX
  cases q2 with
  | false=>
   have HF:=ah (mM.out (fun h=>by have:=eF.out;rw[h.2.2.2.2.2.1]at this;simp at this));go_wp2;go_ret;exact⟨aH HF.out.symm,lC.out⟩
  | true=>
   go_wp2_with fail
   refine(Ie _ _ _ _ _ HU4.out afi.out).mono ?_;rintro e w5 ⟨rfl,gD⟩;have Bo:=ah (lC.out.trans (gD.mono lC.out.size))
   have mI:Hid (decide (a7=b7)=res):=ah (by
    rw[←fO.out];have h1:=of_decide_eq_true HQ.out;have h2:=of_decide_eq_true eF.out;subst h1 h2
    congr 1
    simp)
   clear gD;rw[mI.out];go_wp2;go_ret;exact⟨rfl,Bo.out⟩
theorem QY (v v':Value) (xs ys:List cB) (a b:List Ls) (w:World) (h:dI j_ 7 w v xs) (h':dI j_ 7 w v' ys) (hx:bN (nV w) xs a) (hy:bN (nV w) ys b):
  Calls Tryz.prog 57 #[v,v',.func (.func 58) #[] #[]] w fun e w'=>e= .returned (.bool (decide (a=b)))∧Below w.heap.size w w':=by
 obtain⟨ao,cap,rfl,dO,qM⟩:=Sl.shape h;obtain⟨kJ,cap',rfl,mY,hcm'⟩:=Sl.shape h';have hlx:=hx.len;have U1:=hy.len;have HX:=ah hx;have HY:=ah hy;have OQ:=ah hlx;have YS:=ah U1;clear hx hy;by_cases hnm:xs.length=ys.length
 ·have Fb:=ah hnm
  rw[←hnm]at h' mY⊢;clear hnm;have H':=ah h';clear h' hlx U1
  go_enter Tryz.func57,Tryz.ntmps57
  go_wp2
  go_loopw[17] (fun s wr=>∃k:Nat,k≤xs.length∧s= .int .i64 k∧Hid (a.take k=b.take k)∧Below w.heap.size w wr) (fun s _=>xs.length-(intOf s).toNat)
  case atStart=>exact⟨0,Nat.zero_le _,rfl,ah rfl,aL _ _⟩
  case round=>
   obtain⟨k,hk,rfl,A,hb⟩:=hrel;by_cases bA:k<xs.length
   ·have hlt':k<ys.length:=by rw[←Fb.out];exact bA
    have hka:k<a.length:=by rw[←OQ.out];exact bA
    have mR:k<b.length:=by rw[←YS.out];exact hlt'
    obtain⟨b0,off,rfl,kZ,c0,c1,c2,c3,c4,c5,c6⟩:=dI.ls h hb (aC _) k bA;obtain⟨b0',off',rfl,Ck,d0,d1,d2,d3,d4,d5,d6⟩:=dI.ls (cap:=cap') (l:=ys) (by have h9:=H'.out;rw[Fb.out]at h9;exact h9) hb (aC _) k hlt';have HT:Hid (a[k]=b[k]→a.take (k+1)=b.take (k+1)):=ah (fun e=>by rw[aS a k hka,aS b k mR,A.out,e]);have HF:Hid (¬a[k]=b[k]→ ¬a=b):=ah (qG hka mR);have eD:Below wr.heap.size wr ((wr.alloc (.cells #[.int .i64 xs[k].dev,.int .i64 xs[k].epoch,.int .i64 xs[k].bU,.int .i64 xs[k].last,xs[k].s.v,xs[k].i.v,xs[k].u.v] 48)).alloc (.cells #[.int .i64 ys[k].dev,.int .i64 ys[k].epoch,.int .i64 ys[k].bU,.int .i64 ys[k].last,ys[k].s.v,ys[k].i.v,ys[k].u.v] 48)):=((aL _ _).alloc (aC _) _).alloc (by simp) _;have HMX:=ah ((HX.out.at k bA hka).keep (hb.trans (eD.mono hb.size)) (aC _));have HMY:=ah ((HY.out.at k hlt' mR).keep (hb.trans (eD.mono hb.size)) (aC _));have pF:=ah (hb.trans (eD.mono hb.size));clear eD;generalize xs[k]=x at*;generalize ys[k]=y at*;generalize a[k]=p at*;generalize b[k]=q at*;obtain⟨x1,x2,x3,x4,⟨x5,x6,x7⟩,⟨x8,x9,wh⟩,⟨wm,wz,wC⟩⟩:=x;obtain⟨y1,y2,y3,y4,⟨y5,y6,y7⟩,⟨y8,y9,dz⟩,⟨dA,dJ,cK⟩⟩:=y;simp only[Sv.v]at c0 c1 c2 c3 c4 c5 c6 d0 d1 d2 d3 d4 d5 d6;have jK:(k:Int)<xs.length:=by omega
    have xJ:b0'<wr.heap.size:=by have:=hb.size;omega
    have ajQ:b0<wr.heap.size:=by have:=hb.size;omega
    go_wp2_with fail
    refine(Bv ⟨x1,x2,x3,x4,⟨x5,x6,x7⟩,⟨x8,x9,wh⟩,⟨wm,wz,wC⟩⟩ ⟨y1,y2,y3,y4,⟨y5,y6,y7⟩,⟨y8,y9,dz⟩,⟨dA,dJ,cK⟩⟩ p q _ HMX.out HMY.out).mono ?_;rintro e w3 ⟨rfl,bT⟩;have lI:=ah (pF.out.trans (bT.mono pF.out.size));clear bT c0 c1 c2 c3 c4 c5 c6 d0 d1 d2 d3 d4 d5 d6;obtain⟨r,hr⟩:∃r,decide (p=q)=r:=⟨_,rfl⟩;rw[hr];have HR:=ah hr;clear hr
    cases r with
    | true=>
     have HE:=ah (HT.out (of_decide_eq_true HR.out));go_wp2;go_roundw
     case rel=>exact⟨k+1,by omega,by go_num,ah HE.out,lI.out⟩
     case measure=>simp[intOf];omega
    | false=>
     have HE:=ah (HF.out (of_decide_eq_false HR.out));go_wp2;go_ret;exact⟨aH (decide_eq_false HE.out).symm,lI.out⟩
   ·have:k=xs.length:=by omega
    subst this;have vR:=A.out;rw[OQ.out,List.take_length,←OQ.out,Fb.out,YS.out,List.take_length]at vR;have HL:=ah vR;clear vR;go_wp2;go_ret;exact⟨aH (decide_eq_true HL.out).symm,hb⟩
 ·have hnm':¬ (xs.length:Int)=(ys.length:Int):=by omega
  clear hlx U1
  go_enter Tryz.func57,Tryz.ntmps57
  go_wp2;go_ret;exact⟨aH (decide_eq_false (fun e=>hnm (by rw[OQ.out,YS.out,e]))).symm,aL _ _⟩
theorem D7 (x y:dN) (a b:Bk) (w:World) (h:iA w x a) (h':iA w y b):
  Calls Tryz.prog 16 #[iJ x,iJ y] w fun e w'=>e= .returned (.bool (decide (a=b)))∧Below w.heap.size w w':=by
 obtain⟨⟨ca,cn,cc⟩,⟨fa,bD,fc⟩,⟨la,ln,lc⟩,⟨ba,bE,bc⟩⟩:=x;obtain⟨⟨NZ,Xu,cc'⟩,⟨LW,xB,LX⟩,⟨LY,U6,IJ⟩,⟨ba',vL,bc'⟩⟩:=y;obtain⟨a1,a2,a3,a4⟩:=a;obtain⟨b1,b2,b3,b4⟩:=b;generalize ny:decide ((⟨a1,a2,a3,a4⟩:Bk)=⟨b1,b2,b3,b4⟩)=res;have fO:=ah ny;clear ny;have bB:Below w.heap.size w ((w.alloc (.cells #[.slice ca cn cc,.slice fa bD fc,.slice la ln lc,.slice ba bE bc] 30)).alloc (.cells #[.slice NZ Xu cc',.slice LW xB LX,.slice LY U6 IJ,.slice ba' vL bc'] 30)):=((aL _ _).alloc (aC _) _).alloc (by simp) _;have fJ:=ah (bX w (.cells #[.slice ca cn cc,.slice fa bD fc,.slice la ln lc,.slice ba bE bc] 30) (.cells #[.slice NZ Xu cc',.slice LW xB LX,.slice LY U6 IJ,.slice ba' vL bc'] 30));have eT:=ah (bL w (.cells #[.slice ca cn cc,.slice fa bD fc,.slice la ln lc,.slice ba bE bc] 30) (.cells #[.slice NZ Xu cc',.slice LW xB LX,.slice LY U6 IJ,.slice ba' vL bc'] 30));have f_:w.heap.size+1<((w.alloc (.cells #[.slice ca cn cc,.slice fa bD fc,.slice la ln lc,.slice ba bE bc] 30)).alloc (.cells #[.slice NZ Xu cc',.slice LW xB LX,.slice LY U6 IJ,.slice ba' vL bc'] 30)).heap.size:=by simp
 have HM:=ah (h.keep bB (aC _));have HM':=ah (h'.keep bB (aC _));clear h h';change Calls Tryz.prog _ #[.agg #[.slice ca cn cc,.slice fa bD fc,.slice la ln lc,.slice ba bE bc],.agg #[.slice NZ Xu cc',.slice LW xB LX,.slice LY U6 IJ,.slice ba' vL bc']] w _
 go_enter Tryz.func16,Tryz.ntmps16
 go_upto_region 1 with fail
 generalize (w.alloc (.cells #[.slice ca cn cc,.slice fa bD fc,.slice la ln lc,.slice ba bE bc] 30)).alloc (.cells #[.slice NZ Xu cc',.slice LW xB LX,.slice LY U6 IJ,.slice ba' vL bc'] 30)=W at*;have uO:=ah bB;clear bB;obtain⟨c0,c1,c2,c3,_⟩:=ay fJ.out;obtain⟨d0,d1,d2,d3,_⟩:=ay eT.out
 have KS:Hid (∀V,Below W.heap.size W V→((V.cell? ⟨w.heap.size,1,none⟩=some (.slice fa bD fc)∧V.cell? ⟨w.heap.size,2,none⟩=some (.slice la ln lc)∧V.cell? ⟨w.heap.size,3,none⟩=some (.slice ba bE bc))∧(V.cell? ⟨w.heap.size+1,1,none⟩=some (.slice LW xB LX)∧V.cell? ⟨w.heap.size+1,2,none⟩=some (.slice LY U6 IJ)∧V.cell? ⟨w.heap.size+1,3,none⟩=some (.slice ba' vL bc')))):=ah (fun V hV=>by
  obtain⟨_,p1,p2,p3,_⟩:=ay (aj fJ.out hV (by omega));obtain⟨_,q1,q2,q3,_⟩:=ay (aj eT.out hV f_)
  exact⟨⟨p1,p2,p3⟩,q1,q2,q3⟩)
 have mM:Hid (¬ (a1=b1∧a2=b2∧a3=b3∧a4=b4)→res=false):=ah (fun hh=>by
  rw[←fO.out,decide_eq_false_iff_not];intro e;injection e with e1 e2 e3 e4
  exact hh ⟨e1,e2,e3,e4⟩)
 go_wp2_with fail
 refine(QI _ _ _ _ _ HM.out.c HM'.out.c).mono ?_;rintro e w3 ⟨rfl,bT⟩;clear c0 c1 c2 c3 d0 d1 d2 d3;obtain⟨⟨p1,p2,p3⟩,q1,q2,q3⟩:=KS.out _ bT;have HM3:=ah (HM.out.keep bT (aC _));have afj:=ah (HM'.out.keep bT (aC _));have lI:=ah (uO.out.trans (bT.mono uO.out.size));have HW3:=ah bT;obtain⟨q,hq⟩:∃q,decide (a1=b1)=q:=⟨_,rfl⟩;simp only[hq];have HQ:=ah hq;clear hq bT
 cases q with
 | false=>
  have HF:=ah (mM.out (fun h=>by have:=HQ.out;rw[h.1]at this;simp at this));go_wp2;go_ret;exact⟨aH HF.out.symm,lI.out⟩
 | true=>
  go_wp2_with fail
  refine(Ic _ _ _ _ _ HM3.out.f afj.out.f).mono ?_;rintro e w4 ⟨rfl,bR⟩;have jX:=HW3.out.trans (bR.mono HW3.out.size);clear p1 p2 p3 q1 q2 q3;obtain⟨⟨p1,p2,p3⟩,q1,q2,q3⟩:=KS.out _ jX;have HM4:=ah (HM.out.keep jX (aC _));have afk:=ah (HM'.out.keep jX (aC _));have lC:=ah (uO.out.trans (jX.mono uO.out.size));have HW4:=ah jX;obtain⟨q2,hq⟩:∃q,decide (a2=b2)=q:=⟨_,rfl⟩;simp only[hq];have eF:=ah hq;clear hq bR jX
  cases q2 with
  | false=>
   have HF:=ah (mM.out (fun h=>by have:=eF.out;rw[h.2.1]at this;simp at this));go_wp2;go_ret;exact⟨aH HF.out.symm,lC.out⟩
  | true=>
   obtain⟨xs,hx,nR⟩:=HM4.out.l;obtain⟨ys,hy,oZ⟩:=afk.out.l;have HX:=ah hx;have HY:=ah hy;have wE:=ah nR;have pV:=ah oZ;clear hx hy nR oZ;go_wp2_with fail
   refine(QY _ _ xs ys a3 b3 _ HX.out HY.out wE.out pV.out).mono ?_;rintro e w5 ⟨rfl,gD⟩;have qX:=HW4.out.trans (gD.mono HW4.out.size);clear p1 p2 p3 q1 q2 q3;obtain⟨⟨p1,p2,p3⟩,q1,q2,q3⟩:=KS.out _ qX;have HM5:=ah (HM.out.keep qX (aC _));have afl:=ah (HM'.out.keep qX (aC _));have Bo:=ah (uO.out.trans (qX.mono uO.out.size));obtain⟨q3,hq⟩:∃q,decide (a3=b3)=q:=⟨_,rfl⟩;simp only[hq];have vJ:=ah hq;clear hq gD qX
   cases q3 with
   | false=>
    have HF:=ah (mM.out (fun h=>by have:=vJ.out;rw[h.2.2.1]at this;simp at this));go_wp2;go_ret;exact⟨aH HF.out.symm,Bo.out⟩
   | true=>
    go_wp2_with fail
    refine(Ie _ _ _ _ _ HM5.out.b afl.out.b).mono ?_;rintro e w6 ⟨rfl,nG⟩;have DU:=ah (Bo.out.trans (nG.mono Bo.out.size))
    have mI:Hid (decide (a4=b4)=res):=ah (by
     rw[←fO.out];have h1:=of_decide_eq_true HQ.out;have h2:=of_decide_eq_true eF.out;have h3:=of_decide_eq_true vJ.out;subst h1 h2 h3
     congr 1
     simp)
    clear nG;simp only[mI.out];go_wp2;go_ret;exact⟨rfl,DU.out⟩
theorem N7 (x:dN) (b:Bk) (dev ep un:Int) (v:Value) (ws:List Wn) (w:World) (h:iA w x b) (hG:Px b) (hv:sM w v ws):
  Calls Tryz.prog 25 #[iJ x,.int .i64 dev,.int .i64 ep,.int .i64 un,v] w (pU w (h_ b dev ep un ws)):=by
 cases hA:nA dev ep un ws.length with
 | false=>exact M4 x b dev ep un v ws w h hG hv hA
 | true=>exact J6 x b dev ep un v ws w h hG hv hA
def vN:Value→Bool
 | .slice _ _ _=>true
 | _=>false
theorem Sl.other {w w':World} {E:Nat} {v:Value} {n g:Nat} {cs:List Value} {cur:Array Value} {t:TypeId} {z:Nat×Nat} (h:Sl w E v n cs) (aK:∀c,c≠g→w'.heap[c]? =w.heap[c]?) (mK:w.heap.size≤w'.heap.size) (hg:w.heap[g]? =some (.cells cur t z))
  (hc:cs.all (fun c=>!vN c)=true) (hd:cur.toList.all vN=true):Sl w' E v n cs:=by
 obtain⟨h0,ao,cap,h1,h2,h3,h4,h5⟩:=h;refine⟨h0,ao,cap,h1,h2,h3,h4,fun j u hu=>?_⟩;obtain⟨b,off,g1,g2,g3⟩:=h5 j u hu;refine⟨b,off,g1,Nat.lt_of_lt_of_le g2 mK,?_⟩;by_cases hb:b=g
 ·subst hb
  simp only[World.cell?,hg]at g3
  have hm:u∈cur.toList:=by
   obtain⟨bA,he⟩:=bq (by simpa using g3);rw[←he];simp
  have e1:=List.all_eq_true.1 hc u (List.mem_of_getElem? hu);have e2:=List.all_eq_true.1 hd u hm;rw[e2]at e1;exact absurd e1 (by decide)
 ·simp only[World.cell?,aK b hb]at g3⊢
  exact g3
theorem D8 {w w':World} {E:Nat} {v:Value} (h:Sl w E v 0 []):Sl w' E v 0 []:=by
 obtain⟨h0,ao,cap,h1,h2,h3,h4,h5⟩:=h;exact⟨h0,ao,cap,h1,h2,h3,h4,fun j u hu=>by simp at hu⟩
theorem QZ {w w':World} {g:Nat} {x:dN} {b:Bk} {cur:Array Value} {t:TypeId} {z:Nat×Nat} (h:iA w x b) (hl:b.ls= []) (hb:b.bound= []) (aK:∀c,c≠g→w'.heap[c]? =w.heap[c]?) (mK:w.heap.size≤w'.heap.size) (hg:w.heap[g]? =some (.cells cur t z)) (hd:cur.toList.all vN=true)
  (hc:(aJ kY b.cs).all (fun c=>!vN c)=true) (hf:(aR b.free).all (fun c=>!vN c)=true):iA w' x b:=by
 obtain⟨h1,h2,⟨xs,h3,h4⟩,h5⟩:=h;obtain⟨b1,b2,b3,b4⟩:=b;simp only at hl hb hc hf;subst hl hb;have h6:=h4.len;obtain rfl:xs= []:=List.eq_nil_of_length_eq_zero h6;exact⟨Sl.other h1 aK mK hg hc hd,Sl.other h2 aK mK hg hf hd,⟨[],D8 h3,trivial⟩,D8 h5⟩
def Xv:Ct:=⟨⟨#[97]⟩,0,0,20,10,0,0⟩
def Xw:Ct:=⟨⟨#[98]⟩,1,-30,30,0,0,0⟩
def rY:Bk:=⟨[⟨⟨#[97]⟩,0,0,20,10,10,10⟩,⟨⟨#[98]⟩,1,-30,30,0,30,30⟩],[(0,40)],[],[]⟩
theorem N8:newS [Xv,Xw] 40=(rY,0):=by decide +kernel
def J8 (w:World) (b:Bk) (e:Ending) (w':World):Prop:=∃x:dN,e= .returned (iJ x)∧iA w' x b∧Below w.heap.size w w'
theorem N9 {w w2:World} {x:dN} (h:iA w2 x rY) (hb:Below w.heap.size w w2) (hz:w.heap.size<w2.heap.size) (hk:w2.heap[w.heap.size]? =some (.cells #[.slice none 0 0,.slice none 0 0,.slice none 0 0,.slice none 0 0] 30 (0,0))) (o:Obj):
  J8 w rY (.returned (iJ x)) (((((w2.setCell ⟨w.heap.size,0,none⟩ x.c.v).setCell ⟨w.heap.size,1,none⟩ x.f.v).setCell ⟨w.heap.size,2,none⟩ x.l.v).setCell ⟨w.heap.size,3,none⟩ x.b.v).alloc o):=by
 have hm:=QZ (w':=((((w2.setCell ⟨w.heap.size,0,none⟩ x.c.v).setCell ⟨w.heap.size,1,none⟩ x.f.v).setCell ⟨w.heap.size,2,none⟩ x.l.v).setCell ⟨w.heap.size,3,none⟩ x.b.v)) h rfl rfl (fun c hc=>bM _ w.heap.size c (fun e=>hc e.symm) _ _ _ _ 0 1 2 3) (by rw[jA];exact aC _) hk (by rfl) (by rfl) (by rfl);refine⟨x,rfl,hm.keep ((aL _ _).alloc (aC _) _) (aC _),?_⟩;exact((((hb.setCell (by simp) _).setCell (by simp) _).setCell (by simp) _).setCell (by simp) _).alloc (by rw[jA];exact Nat.le_of_lt hz) _
theorem N_ (w:World):Calls Tryz.prog 9 #[] w (J8 w rY):=by
 obtain⟨W1,z_,gL,bB,dX⟩:∃W1,w.alloc (.cells #[.slice none 0 0,.slice none 0 0,.slice none 0 0,.slice none 0 0] 30)=W1∧W1.heap[w.heap.size]? =some (.cells #[.slice none 0 0,.slice none 0 0,.slice none 0 0,.slice none 0 0] 30 (0,0))∧Below w.heap.size w W1∧W1.heap.size=w.heap.size+1:=⟨_,rfl,heap_alloc_new _ _,(aL _ _).alloc (aC _) _,by simp⟩;have HW1:=ah z_;have FE:=ah dX;have fJ:=ah gL;clear z_ dX gL;have eD:Below W1.heap.size W1 (W1.alloc (.cells #[.string ⟨#[97]⟩,.int .i64 0,.int .i64 0,.int .i64 20,.int .i64 10,.int .i64 0,.int .i64 0,.string ⟨#[98]⟩,.int .i64 1,.int .i64 (-30),.int .i64 30,.int .i64 0,.int .i64 0,.int .i64 0] 54)):=(aL _ _).alloc (aC _) _
 have HS:Hid (oN (W1.alloc (.cells #[.string ⟨#[97]⟩,.int .i64 0,.int .i64 0,.int .i64 20,.int .i64 10,.int .i64 0,.int .i64 0,.string ⟨#[98]⟩,.int .i64 1,.int .i64 (-30),.int .i64 30,.int .i64 0,.int .i64 0,.int .i64 0] 54)) (.slice (some ⟨W1.heap.size,0,none⟩) 2 2) [Xv,Xw]):=
  ah (aG (dB W1 W1.heap.size W1.heap.size 54 7 #[.string ⟨#[97]⟩,.int .i64 0,.int .i64 0,.int .i64 20,.int .i64 10,.int .i64 0,.int .i64 0,.string ⟨#[98]⟩,.int .i64 1,.int .i64 (-30),.int .i64 30,.int .i64 0,.int .i64 0,.int .i64 0] 2 rfl (aC _) (by omega) rfl))
 go_enter Tryz.func9,Tryz.ntmps9
 go_upto_region 1 with fail
 rw[HW1.out];go_wp2_with fail
 refine(Qr _ [Xv,Xw] 40 _ HS.out (by intro c hc;simp at hc;rcases hc with rfl | rfl<;>(unfold maxLen;decide))).mono ?_;rw[N8];rintro e w2 ⟨⟨⟨ca,cn,cc⟩,⟨fa,fn,fc⟩,⟨la,ln,lc⟩,⟨ba,bn,bc⟩⟩,rfl,hm,bO⟩;have J7:=eD.trans (bO.mono eD.size);have pE:w.heap.size<W1.heap.size:=by have:=FE.out;omega
 have dH:=aj fJ.out J7 pE;obtain⟨d0,d1,d2,d3,_⟩:=ay dH;have f0:=aA dH 0;have f1:=aA dH 1;have f2:=aA dH 2;have f3:=aA dH 3;have jw:=bB.trans (J7.mono bB.size);have eY:=ah jw;have HM:=ah hm;have f_:=jw.size;have UD:=ah dH;have Ir:=(bq dH).1;clear HS eD bO J7 dH hm jw bB;go_wp2;refine bodyPost_ret (v:=.agg #[.slice ca cn cc,.slice fa fn fc,.slice la ln lc,.slice ba bn bc]) (by simp[results,Tryz.results9,go_sem, *]) rfl (show J8 _ _ _ _ from ?_);exact N9 (x:=⟨⟨ca,cn,cc⟩,⟨fa,fn,fc⟩,⟨la,ln,lc⟩,⟨ba,bn,bc⟩⟩) HM.out eY.out Ir UD.out _
theorem Sl.over {w w':World} {E:Nat} {v:Value} {n g:Nat} {cs:List Value} {cur:Array Value} {t:TypeId} {z:Nat×Nat} (h:Sl w E v n cs) (aK:∀c,c≠g→w'.heap[c]? =w.heap[c]?) (mK:w.heap.size≤w'.heap.size) (hg:w.heap[g]? =some (.cells cur t z))
  (hc:∀u,cs[0]? =some u→vN u=false) (hd:cur.toList.all vN=true):Sl w' E v n cs:=by
 obtain⟨h0,ao,cap,h1,h2,h3,h4,h5⟩:=h;refine⟨h0,ao,cap,h1,h2,h3,h4,fun j u hu=>?_⟩;obtain⟨b,off,g1,g2,g3⟩:=h5 j u hu
 have hb:b≠g:=by
  have hpos:0<cs.length:=by have:=(List.getElem?_eq_some_iff.1 hu).1;omega
  obtain⟨b0,ajS,e1,_,e3⟩:=h5 0 cs[0] (List.getElem?_eq_getElem hpos);rw[g1]at e1;injection e1 with e1;injection e1 with e1 e2 _;subst e1 e2;rintro rfl;simp only[World.cell?,hg]at e3
  have hm:cs[0]∈cur.toList:=by
   obtain⟨bA,he⟩:=bq (by simpa using e3);rw[←he];simp
  have e4:=List.all_eq_true.1 hd _ hm;have e5:=hc _ (List.getElem?_eq_getElem hpos);rw[e5]at e4;exact absurd e4 (by decide)
 refine⟨b,off,g1,Nat.lt_of_lt_of_le g2 mK,?_⟩;simp only[World.cell?,aK b hb]at g3⊢;exact g3
theorem aa7 (l:List Ct):∀u,(aJ kY l)[0]? =some u→vN u=false:=by
 intro u hu;cases l with
 | nil=>simp[aJ]at hu
 | cons x l=>simp[aJ,kY]at hu;subst hu;rfl
theorem aa8 (l:List Sc):∀u,(aJ jL l)[0]? =some u→vN u=false:=by
 intro u hu;cases l with
 | nil=>simp[aJ]at hu
 | cons x l=>simp[aJ,jL]at hu;subst hu;rfl
theorem aa9 (l:List cB):∀u,(aJ j_ l)[0]? =some u→vN u=false:=by
 intro u hu;cases l with
 | nil=>simp[aJ]at hu
 | cons x l=>simp[aJ,j_]at hu;subst hu;rfl
theorem aa_ (l:List Rg):∀u,(aR l)[0]? =some u→vN u=false:=by
 intro u hu;cases l with
 | nil=>simp[aR]at hu
 | cons x l=>simp[aR]at hu;subst hu;rfl
theorem abb (l:List Int):∀u,(bS l)[0]? =some u→vN u=false:=by
 intro u hu;cases l with
 | nil=>simp[bS]at hu
 | cons x l=>simp[bS]at hu;subst hu;rfl
section
variable {w w':World} {g:Nat} {cur:Array Value} {t:TypeId} {z:Nat×Nat}
theorem nV.over {x:cB} {l:Ls} (h:nV w x l) (aK:∀c,c≠g→w'.heap[c]? =w.heap[c]?) (mK:w.heap.size≤w'.heap.size) (hg:w.heap[g]? =some (.cells cur t z)) (hd:cur.toList.all vN=true):nV w' x l:=
 ⟨h.dev,h.epoch,h.bU,h.last,Sl.over h.s aK mK hg (aa8 _) hd,Sl.over h.i aK mK hg (aa_ _) hd,Sl.over h.u aK mK hg (abb _) hd⟩
theorem iA.over {x:dN} {b:Bk} (h:iA w x b) (aK:∀c,c≠g→w'.heap[c]? =w.heap[c]?) (mK:w.heap.size≤w'.heap.size) (hg:w.heap[g]? =some (.cells cur t z)) (hd:cur.toList.all vN=true):iA w' x b:=by
 obtain⟨h1,h2,⟨xs,h3,h4⟩,h5⟩:=h;exact⟨Sl.over h1 aK mK hg (aa7 _) hd,Sl.over h2 aK mK hg (aa_ _) hd,⟨xs,Sl.over h3 aK mK hg (aa9 _) hd,h4.imp fun _ _ r=>nV.over r aK mK hg hd⟩,Sl.over h5 aK mK hg (abb _) hd⟩
end
structure Dq (w W:World) (x:uz) (ya yb:dN):Prop where
 bC:Below w.heap.size w W
 k3:W.heap[w.heap.size]? =some (.cells #[.int .i64 x.kind,.int .i64 x.dev,.int .i64 x.n,x.wants.v,.int .i64 x.o.dev,.int .i64 x.o.epoch,.int .i64 x.o.seq,.int .i64 x.o.coll,.int .i64 x.o.ver,.int .i64 x.o.kind,.string x.o.key,.string x.o.text,.int .i64 x.o.n,.int .i64 x.o.time,x.o.dots.v] 40 (0,0))
 k4:W.heap[w.heap.size+1]? =some (.cells #[ya.c.v,ya.f.v,ya.l.v,ya.b.v] 30 (0,0))
 k5:W.heap[w.heap.size+1+1]? =some (.cells #[yb.c.v,yb.f.v,yb.l.v,yb.b.v] 30 (0,0))
 k6:W.heap[w.heap.size+1+1+1]? =some (.cells #[.slice none 0 0,.slice none 0 0,.slice none 0 0,.slice none 0 0] 30 (0,0))
 k7:W.heap[w.heap.size+1+1+1+1]? =some (.cells #[.slice none 0 0,.slice none 0 0,.slice none 0 0,.slice none 0 0] 30 (0,0))
theorem Dq.keep {w W W':World} {x:uz} {ya yb:dN} (h:Dq w W x ya yb) (hb:Below W.heap.size W W'):Dq w W' x ya yb:=
 ⟨h.bC.trans (hb.mono h.bC.size),aj h.k3 hb (bq h.k3).1,aj h.k4 hb (bq h.k4).1,aj h.k5 hb (bq h.k5).1,aj h.k6 hb (bq h.k6).1,aj h.k7 hb (bq h.k7).1⟩
def qJ (w:World) (b:Bk) (e:Ending) (w':World):Prop:=∃ (y z:dN),e= .returned (.tuple #[iJ y,iJ z,.bool true])∧iA w' y b∧iA w' z b∧Below w.heap.size w w'
def Oa:dN:=⟨⟨none,0,0⟩,⟨none,0,0⟩,⟨none,0,0⟩,⟨none,0,0⟩⟩
def qK (p:Nat):Value:=.pointer (some ⟨p,0,none⟩)
abbrev Bx (w:World) (p:Nat) (x:dN):Prop:=w.heap[p]? =some (.cells #[x.c.v,x.f.v,x.l.v,x.b.v] 30 (0,0))
theorem vO (x:dN):(#[x.c.v,x.f.v,x.l.v,x.b.v]:Array Value).toList.all vN=true:=rfl
theorem Bx.lt {w:World} {p:Nat} {x:dN} (h:Bx w p x):p<w.heap.size:=(bq h).1
structure J9 (W:World) (b:Bk) (k:Nat) (D:Nat→Prop) (y z:dN) (p q:Nat) (vT vM vA vB vC vp vq vo:Value) (w:World):Prop where
 bC:Below W.heap.size W w
 c:D k→vT= .tuple #[iJ y,iJ z,.bool true]∧iA w y b∧iA w z b
 m:D (k+1)→D k∧vM= .tuple #[iJ y,iJ z,.bool true]
 e1:D (k+2)→D k∧vA=iJ y
 e2:D (k+3)→D k∧vB=iJ z
 e3:D (k+4)→D k∧vC= .bool true
 a1:D (k+5)→vp=qK p∧W.heap.size≤p∧ ∃x,Bx w p x∧(D (k+7)→x=y)
 a2:D (k+6)→vq=qK q∧W.heap.size≤q∧ ∃x,Bx w q x∧(D (k+8)→x=z)
 ne:D (k+5)→D (k+6)→p≠q
 s1:D (k+7)→D k∧D (k+5)
 s2:D (k+8)→D k∧D (k+6)
 o:D (k+9)→vo= .bool true
section
variable {W w w':World} {b:Bk} {k:Nat} {D:Nat→Prop} {y z:dN} {p q:Nat} {vT vM vA vB vC vp vq vo:Value}
theorem aT {i j:Nat} {D:Nat→Prop} (h:j=i∨D j) (eP:j≠i):D j:=h.resolve_left eP
theorem J9.call (h:J9 W b k D y z p q vT vM vA vB vC vp vq vo w) (hn:¬D k) {y' z':dN} (hy:iA w' y' b) (hz:iA w' z' b) (hb:Below w.heap.size w w'):
  J9 W b k (fun j=>j=k∨D j) y' z' p q (.tuple #[iJ y',iJ z',.bool true]) vM vA vB vC vp vq vo w':=by
 refine⟨h.bC.trans (hb.mono h.bC.size),fun _=>⟨rfl,hy,hz⟩,fun g=>absurd (h.m (aT g (by omega))).1 hn,fun g=>absurd (h.e1 (aT g (by omega))).1 hn,fun g=>absurd (h.e2 (aT g (by omega))).1 hn,fun g=>absurd (h.e3 (aT g (by omega))).1 hn,
  fun g=>?_,fun g=>?_,fun g g2=>h.ne (aT g (by omega)) (aT g2 (by omega)),fun g=>absurd (h.s1 (aT g (by omega))).1 hn,fun g=>absurd (h.s2 (aT g (by omega))).1 hn,fun g=>h.o (aT g (by omega))⟩
 ·obtain⟨g1,g2,x,g3,_⟩:=h.a1 (aT g (by omega))
  exact⟨g1,g2,x,aj g3 hb g3.lt,fun g=>absurd (h.s1 (aT g (by omega))).1 hn⟩
 ·obtain⟨g1,g2,x,g3,_⟩:=h.a2 (aT g (by omega))
  exact⟨g1,g2,x,aj g3 hb g3.lt,fun g=>absurd (h.s2 (aT g (by omega))).1 hn⟩
theorem J9.al1 (h:J9 W b k D y z p q vT vM vA vB vC vp vq vo w) (hn:¬D (k+5)):
  J9 W b k (fun j=>j=k+5∨D j) y z w.heap.size q vT vM vA vB vC (qK w.heap.size) vq vo (w.alloc (.cells #[.slice none 0 0,.slice none 0 0,.slice none 0 0,.slice none 0 0] 30)):=by
 have hb:Below w.heap.size w (w.alloc (.cells #[.slice none 0 0,.slice none 0 0,.slice none 0 0,.slice none 0 0] 30)):=(aL _ _).alloc (aC _) _
 refine⟨h.bC.trans (hb.mono h.bC.size),fun g=>?_,fun g=>(h.m (aT g (by omega))).imp .inr id,fun g=>(h.e1 (aT g (by omega))).imp .inr id,fun g=>(h.e2 (aT g (by omega))).imp .inr id,fun g=>(h.e3 (aT g (by omega))).imp .inr id,
  fun _=>⟨rfl,h.bC.size,Oa,heap_alloc_new w _,fun g=>absurd (h.s1 (aT g (by omega))).2 hn⟩,fun g=>?_,fun _ g2=>?_,fun g=>(h.s1 (aT g (by omega))).imp .inr .inr,fun g=>(h.s2 (aT g (by omega))).imp .inr .inr,fun g=>h.o (aT g (by omega))⟩
 ·obtain⟨g1,g2,g3⟩:=h.c (aT g (by omega))
  exact⟨g1,g2.keep hb (aC _),g3.keep hb (aC _)⟩
 ·obtain⟨g1,g2,x,g3,g4⟩:=h.a2 (aT g (by omega))
  exact⟨g1,g2,x,aj g3 hb g3.lt,fun g=>g4 (aT g (by omega))⟩
 ·obtain⟨_,_,x,g3,_⟩:=h.a2 (aT g2 (by omega))
  have:=g3.lt;omega
theorem J9.al2 (h:J9 W b k D y z p q vT vM vA vB vC vp vq vo w) (hn:¬D (k+6)):
  J9 W b k (fun j=>j=k+6∨D j) y z p w.heap.size vT vM vA vB vC vp (qK w.heap.size) vo (w.alloc (.cells #[.slice none 0 0,.slice none 0 0,.slice none 0 0,.slice none 0 0] 30)):=by
 have hb:Below w.heap.size w (w.alloc (.cells #[.slice none 0 0,.slice none 0 0,.slice none 0 0,.slice none 0 0] 30)):=(aL _ _).alloc (aC _) _
 refine⟨h.bC.trans (hb.mono h.bC.size),fun g=>?_,fun g=>(h.m (aT g (by omega))).imp .inr id,fun g=>(h.e1 (aT g (by omega))).imp .inr id,fun g=>(h.e2 (aT g (by omega))).imp .inr id,fun g=>(h.e3 (aT g (by omega))).imp .inr id,
  fun g=>?_,fun _=>⟨rfl,h.bC.size,Oa,heap_alloc_new w _,fun g=>absurd (h.s2 (aT g (by omega))).2 hn⟩,fun g2 _=>?_,fun g=>(h.s1 (aT g (by omega))).imp .inr .inr,fun g=>(h.s2 (aT g (by omega))).imp .inr .inr,fun g=>h.o (aT g (by omega))⟩
 ·obtain⟨g1,g2,g3⟩:=h.c (aT g (by omega))
  exact⟨g1,g2.keep hb (aC _),g3.keep hb (aC _)⟩
 ·obtain⟨g1,g2,x,g3,g4⟩:=h.a1 (aT g (by omega))
  exact⟨g1,g2,x,aj g3 hb g3.lt,fun g=>g4 (aT g (by omega))⟩
 ·obtain⟨_,_,x,g3,_⟩:=h.a1 (aT g2 (by omega))
  have:=g3.lt;omega
theorem J9.st1 (h:J9 W b k D y z p q vT vM vA vB vC vp vq vo w) (hk:D k) (h5:D (k+5)):
  J9 W b k (fun j=>j=k+7∨D j) y z p q vT vM vA vB vC vp vq vo ((((w.setCell ⟨p,0,none⟩ y.c.v).setCell ⟨p,1,none⟩ y.f.v).setCell ⟨p,2,none⟩ y.l.v).setCell ⟨p,3,none⟩ y.b.v):=by
 obtain⟨a1,a2,x,a3,_⟩:=h.a1 h5;have aK:∀c,c≠p→((((w.setCell ⟨p,0,none⟩ y.c.v).setCell ⟨p,1,none⟩ y.f.v).setCell ⟨p,2,none⟩ y.l.v).setCell ⟨p,3,none⟩ y.b.v).heap[c]? =w.heap[c]? :=fun c hc=>bM w p c (fun e=>hc e.symm) _ _ _ _ 0 1 2 3
 have mK:w.heap.size≤((((w.setCell ⟨p,0,none⟩ y.c.v).setCell ⟨p,1,none⟩ y.f.v).setCell ⟨p,2,none⟩ y.l.v).setCell ⟨p,3,none⟩ y.b.v).heap.size:=by rw[jA];exact aC _
 refine⟨oW h.bC a2 _ _ _ _,fun g=>?_,fun g=>(h.m (aT g (by omega))).imp .inr id,fun g=>(h.e1 (aT g (by omega))).imp .inr id,fun g=>(h.e2 (aT g (by omega))).imp .inr id,fun g=>(h.e3 (aT g (by omega))).imp .inr id,
  fun _=>⟨a1,a2,y,ku a3 _ _ _ _,fun _=>rfl⟩,fun g=>?_,fun g g2=>h.ne (aT g (by omega)) (aT g2 (by omega)),fun _=>⟨.inr hk,.inr h5⟩,fun g=>(h.s2 (aT g (by omega))).imp .inr .inr,fun g=>h.o (aT g (by omega))⟩
 ·obtain⟨g1,g2,g3⟩:=h.c (aT g (by omega))
  exact⟨g1,g2.over aK mK a3 (vO x),g3.over aK mK a3 (vO x)⟩
 ·have g':=aT g (by omega)
  obtain⟨g1,g2,x',g3,g4⟩:=h.a2 g';exact⟨g1,g2,x',(aK q (fun e=>h.ne h5 g' e.symm)).trans g3,fun g=>g4 (aT g (by omega))⟩
theorem J9.st2 (h:J9 W b k D y z p q vT vM vA vB vC vp vq vo w) (hk:D k) (h6:D (k+6)):
  J9 W b k (fun j=>j=k+8∨D j) y z p q vT vM vA vB vC vp vq vo ((((w.setCell ⟨q,0,none⟩ z.c.v).setCell ⟨q,1,none⟩ z.f.v).setCell ⟨q,2,none⟩ z.l.v).setCell ⟨q,3,none⟩ z.b.v):=by
 obtain⟨a1,a2,x,a3,_⟩:=h.a2 h6;have aK:∀c,c≠q→((((w.setCell ⟨q,0,none⟩ z.c.v).setCell ⟨q,1,none⟩ z.f.v).setCell ⟨q,2,none⟩ z.l.v).setCell ⟨q,3,none⟩ z.b.v).heap[c]? =w.heap[c]? :=fun c hc=>bM w q c (fun e=>hc e.symm) _ _ _ _ 0 1 2 3
 have mK:w.heap.size≤((((w.setCell ⟨q,0,none⟩ z.c.v).setCell ⟨q,1,none⟩ z.f.v).setCell ⟨q,2,none⟩ z.l.v).setCell ⟨q,3,none⟩ z.b.v).heap.size:=by rw[jA];exact aC _
 refine⟨oW h.bC a2 _ _ _ _,fun g=>?_,fun g=>(h.m (aT g (by omega))).imp .inr id,fun g=>(h.e1 (aT g (by omega))).imp .inr id,fun g=>(h.e2 (aT g (by omega))).imp .inr id,fun g=>(h.e3 (aT g (by omega))).imp .inr id,
  fun g=>?_,fun _=>⟨a1,a2,z,ku a3 _ _ _ _,fun _=>rfl⟩,fun g g2=>h.ne (aT g (by omega)) (aT g2 (by omega)),fun g=>(h.s1 (aT g (by omega))).imp .inr .inr,fun _=>⟨.inr hk,.inr h6⟩,fun g=>h.o (aT g (by omega))⟩
 ·obtain⟨g1,g2,g3⟩:=h.c (aT g (by omega))
  exact⟨g1,g2.over aK mK a3 (vO x),g3.over aK mK a3 (vO x)⟩
 ·have g':=aT g (by omega)
  obtain⟨g1,g2,x',g3,g4⟩:=h.a1 g';exact⟨g1,g2,x',(aK p (fun e=>h.ne g' h6 e)).trans g3,fun g=>g4 (aT g (by omega))⟩
theorem J9.mv (h:J9 W b k D y z p q vT vM vA vB vC vp vq vo w) (hk:D k) (i:Nat) (hi:i=k+1∨i=k+2∨i=k+3∨i=k+4∨i=k+9) {Xx Xy Xz XA XB:Value}
  (q1:i=k+1→Xx= .tuple #[iJ y,iJ z,.bool true]) (q2:i=k+2→Xy=iJ y) (q3:i=k+3→Xz=iJ z) (q4:i=k+4→XA= .bool true) (q5:i=k+9→XB= .bool true)
  (r1:i≠k+1→Xx=vM) (r2:i≠k+2→Xy=vA) (r3:i≠k+3→Xz=vB) (r4:i≠k+4→XA=vC) (r5:i≠k+9→XB=vo):
  J9 W b k (fun j=>j=i∨D j) y z p q vT Xx Xy Xz XA vp vq XB w:=by
 refine⟨h.bC,fun _=>h.c hk,fun g=>⟨.inr hk,?_⟩,fun g=>⟨.inr hk,?_⟩,fun g=>⟨.inr hk,?_⟩,fun g=>⟨.inr hk,?_⟩,fun g=>?_,fun g=>?_,fun g g2=>h.ne (aT g (by omega)) (aT g2 (by omega)),fun g=>(h.s1 (aT g (by omega))).imp .inr .inr,fun g=>(h.s2 (aT g (by omega))).imp .inr .inr,fun g=>?_⟩
 ·by_cases e:i=k+1
  ·exact q1 e
  ·rw[r1 e];exact(h.m (aT g (fun h=>e h.symm))).2
 ·by_cases e:i=k+2
  ·exact q2 e
  ·rw[r2 e];exact(h.e1 (aT g (fun h=>e h.symm))).2
 ·by_cases e:i=k+3
  ·exact q3 e
  ·rw[r3 e];exact(h.e2 (aT g (fun h=>e h.symm))).2
 ·by_cases e:i=k+4
  ·exact q4 e
  ·rw[r4 e];exact(h.e3 (aT g (fun h=>e h.symm))).2
 ·obtain⟨g1,g2,x',g3,g4⟩:=h.a1 (aT g (by omega))
  exact⟨g1,g2,x',g3,fun g=>g4 (aT g (by omega))⟩
 ·obtain⟨g1,g2,x',g3,g4⟩:=h.a2 (aT g (by omega))
  exact⟨g1,g2,x',g3,fun g=>g4 (aT g (by omega))⟩
 ·by_cases e:i=k+9
  ·exact q5 e
  ·rw[r5 e];exact h.o (aT g (fun h=>e h.symm))
theorem J9.start (h:Below W.heap.size W w) (hD:∀j,j<k+10→k≤j→ ¬D j):J9 W b k D y z p q vT vM vA vB vC vp vq vo w:=
 ⟨h,fun g=>absurd g (hD _ (by omega) (by omega)),fun g=>absurd g (hD _ (by omega) (by omega)),fun g=>absurd g (hD _ (by omega) (by omega)),fun g=>absurd g (hD _ (by omega) (by omega)),fun g=>absurd g (hD _ (by omega) (by omega)),fun g=>absurd g (hD _ (by omega) (by omega)),fun g=>absurd g (hD _ (by omega) (by omega)),
  fun g=>absurd g (hD _ (by omega) (by omega)),fun g=>absurd g (hD _ (by omega) (by omega)),fun g=>absurd g (hD _ (by omega) (by omega)),fun g=>absurd g (hD _ (by omega) (by omega))⟩
theorem J9.fin (h:J9 W b k D y z p q vT vM vA vB vC vp vq vo w) (hD:∀j,j<k+10→D j):
  vp=qK p∧vq=qK q∧vo= .bool true∧Bx w p y∧Bx w q z∧iA w y b∧iA w z b∧Below W.heap.size W w∧W.heap.size≤p∧W.heap.size≤q:=by
 obtain⟨c1,c2,c3⟩:=h.c (hD _ (by omega));obtain⟨p1,p2,x1,p3,p4⟩:=h.a1 (hD _ (by omega));obtain⟨q1,q2,x2,q3,q4⟩:=h.a2 (hD _ (by omega));obtain rfl:=p4 (hD _ (by omega));obtain rfl:=q4 (hD _ (by omega));exact⟨p1,q1,h.o (hD _ (by omega)),p3,q3,c2,c3,h.bC,p2,q2⟩
end
theorem rJ {α:Type} {f:α→List Value} {E:Nat} (hE:∀x,(f x).length=E):∀ (l:List α) (k:Nat) (hk:k<l.length) (j:Nat) (_:j<E) (u:Value) (y:α),(f l[k]).set j u=f y→(aJ f l).set (k*E+j) u=aJ f (l.set k y):=by
 intro l
 induction l with
 | nil=>intro k hk;simp at hk
 | cons x l ih=>
  intro k hk j hj u y hy
  cases k with
  | zero=>
   simp only[List.getElem_cons_zero]at hy;rw[Nat.zero_mul,Nat.zero_add,aY,List.set_append_left _ _ (by rw[hE];exact hj),hy,List.set_cons_zero,aY]
  | succ k=>
   simp only[List.getElem_cons_succ]at hy;have e:(k+1)*E+j-(f x).length=k*E+j:=by rw[hE,Nat.add_mul];omega
   rw[aY,List.set_append_right _ _ (by rw[hE,Nat.add_mul];omega),e,ih k (by simpa using hk) j hj u y hy,List.set_cons_succ,aY]
theorem blF {V:World} {p:Nat} {o:Obj} (h:V.heap[p]? =some o):p<V.heap.size:=(bq h).1
section
variable {w0 W W':World} {p:Nat} {y:dN} {x:Bk} {xs:List cB}
end
section
variable {w0 W W':World} {p:Nat} {y:dN} {x:Bk} {xs:List cB}
end
end Go.Proofs.YtlfopoimbbpfdaaGreat
