/- What the law asks, in parts: LSm LSn LBg Ba Da. -/
import Derived.Test.YtlfopoimbbpfdaaGreatPk29
import Derived.Test.YtlfopoimbbpfdaaGreatPk3
import Derived.Test.YtlfopoimbbpfdaaGreatPk32
import Derived.Test.YtlfopoimbbpfdaaGreatPk20
import Derived.Test.YtlfopoimbbpfdaaGreatPk27
import Derived.Test.YtlfopoimbbpfdaaGreatPk31
import Derived.Test.YtlfopoimbbpfdaaGreatPk0
set_option linter.all false
namespace Go.Proofs.YtlfopoimbbpfdaaGreat
open Go.RowKit
set_option maxRecDepth 100000 in
set_option maxHeartbeats 4000000 in
theorem xU (x y:bV) (a b:Ls) (w:World) (h:lW w x a) (h':lW w y b):
  Calls Tryz.prog 58 #[nI x,nI y] w fun e w'=>e= .returned (.bool (decide (a=b)))∧Below w.heap.size w w':=by
 obtain⟨x1,x2,x3,x4,⟨x5,x6,x7⟩,⟨x8,x9,qV⟩,⟨qW,qX,qY⟩⟩:=x
 obtain⟨y1,y2,y3,y4,⟨y5,y6,y7⟩,⟨y8,y9,bW⟩,⟨bX,cB,y13⟩⟩:=y
 obtain⟨a1,a2,a3,a4,a5,a6,a7⟩:=a
 obtain⟨b1,b2,b3,b4,b5,b6,b7⟩:=b
 obtain⟨e1,e2,e3,e4,hs,hi,hu⟩:=h
 obtain⟨e1',e2',e3',e4',hs',hi',hu'⟩:=h'
 simp only at e1 e2 e3 e4 e1' e2' e3' e4'
 subst e1 e2 e3 e4 e1' e2' e3' e4'
 generalize hres:decide ((⟨x1,x2,x3,x4,a5,a6,a7⟩:Ls)=⟨y1,y2,y3,y4,b5,b6,b7⟩)=res
 have eO:=ah hres
 clear hres
 have hb1:Below w.heap.size w ((w.alloc (.cells #[.int .i64 x1,.int .i64 x2,.int .i64 x3,.int .i64 x4,.slice x5 x6 x7,.slice x8 x9 qV,.slice qW qX qY] 48)).alloc (.cells #[.int .i64 y1,.int .i64 y2,.int .i64 y3,.int .i64 y4,.slice y5 y6 y7,.slice y8 y9 bW,.slice bX cB y13] 48)):=((aL _ _).alloc (aC _) _).alloc (by simp) _
 have k1:=bJ w (.cells #[.int .i64 x1,.int .i64 x2,.int .i64 x3,.int .i64 x4,.slice x5 x6 x7,.slice x8 x9 qV,.slice qW qX qY] 48) (.cells #[.int .i64 y1,.int .i64 y2,.int .i64 y3,.int .i64 y4,.slice y5 y6 y7,.slice y8 y9 bW,.slice bX cB y13] 48)
 have k2:=bE w (.cells #[.int .i64 x1,.int .i64 x2,.int .i64 x3,.int .i64 x4,.slice x5 x6 x7,.slice x8 x9 qV,.slice qW qX qY] 48) (.cells #[.int .i64 y1,.int .i64 y2,.int .i64 y3,.int .i64 y4,.slice y5 y6 y7,.slice y8 y9 bW,.slice bX cB y13] 48)
 have hz2:w.heap.size+1<((w.alloc (.cells #[.int .i64 x1,.int .i64 x2,.int .i64 x3,.int .i64 x4,.slice x5 x6 x7,.slice x8 x9 qV,.slice qW qX qY] 48)).alloc (.cells #[.int .i64 y1,.int .i64 y2,.int .i64 y3,.int .i64 y4,.slice y5 y6 y7,.slice y8 y9 bW,.slice bX cB y13] 48)).heap.size:=by simp
 change Calls Tryz.prog _ #[.agg #[.int .i64 x1,.int .i64 x2,.int .i64 x3,.int .i64 x4,.slice x5 x6 x7,.slice x8 x9 qV,.slice qW qX qY],.agg #[.int .i64 y1,.int .i64 y2,.int .i64 y3,.int .i64 y4,.slice y5 y6 y7,.slice y8 y9 bW,.slice bX cB y13]] w _
 have gF:=ah k1
 have fJ:=ah k2
 clear k1 k2
 go_enter Tryz.func58,Tryz.ntmps58
 go_upto_region 1 with fail
 have HS:=ah (cK.keep hs hb1 (aC _))
 have Uh:=ah (cK.keep hs' hb1 (aC _))
 have HI:=ah (fq.keep hi hb1 (aC _))
 have HI':=ah (fq.keep hi' hb1 (aC _))
 have HU:=ah (iW.keep hu hb1 (aC _))
 have HU':=ah (iW.keep hu' hb1 (aC _))
 clear hs hs' hi hi' hu hu'
 generalize (w.alloc (.cells #[.int .i64 x1,.int .i64 x2,.int .i64 x3,.int .i64 x4,.slice x5 x6 x7,.slice x8 x9 qV,.slice qW qX qY] 48)).alloc (.cells #[.int .i64 y1,.int .i64 y2,.int .i64 y3,.int .i64 y4,.slice y5 y6 y7,.slice y8 y9 bW,.slice bX cB y13] 48)=W at*
 have HB1:=ah hb1
 clear hb1
 obtain⟨c0,c1,c2,c3,c4,c5,c6,_⟩:=aB gF.out
 obtain⟨d0,d1,d2,d3,d4,d5,d6,_⟩:=aB fJ.out
 have KS:Hid (∀V,Below W.heap.size W V→((V.cell? ⟨w.heap.size,5,none⟩=some (.slice x8 x9 qV)∧V.cell? ⟨w.heap.size,6,none⟩=some (.slice qW qX qY))∧(V.cell? ⟨w.heap.size+1,5,none⟩=some (.slice y8 y9 bW)∧V.cell? ⟨w.heap.size+1,6,none⟩=some (.slice bX cB y13)))):=ah (fun V hV=>by
  obtain⟨_,_,_,_,_,p5,p6,_⟩:=aB (aj gF.out hV (by omega))
  obtain⟨_,_,_,_,_,q5,q6,_⟩:=aB (aj fJ.out hV hz2)
  exact⟨⟨p5,p6⟩,q5,q6⟩)
 have jk:Hid (¬ (x1=y1∧x2=y2∧x3=y3∧x4=y4∧a5=b5∧a6=b6∧a7=b7)→res=false):=ah (fun hh=>by
  rw[←eO.out,decide_eq_false_iff_not]
  intro e
  injection e with e1 e2 e3 e4 e5 e6 e7
  exact hh ⟨e1,e2,e3,e4,e5,e6,e7⟩)
 by_cases g1:x1=y1
 case neg=>
  have s1:(x1==y1)=false:=by simpa using g1
  have HF:=ah (jk.out (fun h=>g1 h.1))
  clear g1
  go_wp2
  go_ret
  exact⟨aN HF.out.symm,HB1.out⟩
 subst g1
 by_cases g2:x2=y2
 case neg=>
  have s1:(x2==y2)=false:=by simpa using g2
  have HF:=ah (jk.out (fun h=>g2 h.2.1))
  clear g2
  go_wp2
  go_ret
  exact⟨aN HF.out.symm,HB1.out⟩
 subst g2
 by_cases g3:x3=y3
 case neg=>
  have s1:(x3==y3)=false:=by simpa using g3
  have HF:=ah (jk.out (fun h=>g3 h.2.2.1))
  clear g3
  go_wp2
  go_ret
  exact⟨aN HF.out.symm,HB1.out⟩
 subst g3
 by_cases g4:x4=y4
 case neg=>
  have s1:(x4==y4)=false:=by simpa using g4
  have HF:=ah (jk.out (fun h=>g4 h.2.2.2.1))
  clear g4
  go_wp2
  go_ret
  exact⟨aN HF.out.symm,HB1.out⟩
 subst g4
 go_wp2_with fail
 refine(LQ _ _ _ _ _ HS.out Uh.out).mono ?_
 rintro e w3 ⟨rfl,hb3⟩
 obtain⟨⟨p5,p6⟩,q5,q6⟩:=KS.out _ hb3
 have HI3:=ah (fq.keep HI.out hb3 (aC _))
 have abq:=ah (fq.keep HI'.out hb3 (aC _))
 have HB3:=ah (HB1.out.trans (hb3.mono HB1.out.size))
 obtain⟨q,hq⟩:∃q,decide (a5=b5)=q:=⟨_,rfl⟩
 rw[hq]
 have HQ:=ah hq
 have WV:=ah hb3
 clear hq hb3
 cases q with
 | false=>
  have HF:=ah (jk.out (fun h=>by have:=HQ.out;rw[h.2.2.2.2.1]at this;simp at this))
  go_wp2
  go_ret
  exact⟨aN HF.out.symm,HB3.out⟩
 | true=>
  clear p6 q6
  go_wp2_with fail
  refine(DJ _ _ _ _ _ HI3.out abq.out).mono ?_
  rintro e w4 ⟨rfl,hb4⟩
  have iX:=WV.out.trans (hb4.mono WV.out.size)
  clear p5 q5
  obtain⟨⟨p5,p6⟩,q5,q6⟩:=KS.out _ iX
  have YC:=ah (iW.keep HU.out iX (aC _))
  have abr:=ah (iW.keep HU'.out iX (aC _))
  have jd:=ah (HB1.out.trans (iX.mono HB1.out.size))
  obtain⟨q2,hq⟩:∃q,decide (a6=b6)=q:=⟨_,rfl⟩
  rw[hq]
  have dO:=ah hq
  clear hq hb4 iX
  cases q2 with
  | false=>
   have HF:=ah (jk.out (fun h=>by have:=dO.out;rw[h.2.2.2.2.2.1]at this;simp at this))
   go_wp2
   go_ret
   exact⟨aN HF.out.symm,jd.out⟩
  | true=>
   go_wp2_with fail
   refine(DK _ _ _ _ _ YC.out abr.out).mono ?_
   rintro e w5 ⟨rfl,hb5⟩
   have vS:=ah (jd.out.trans (hb5.mono jd.out.size))
   have qF:Hid (decide (a7=b7)=res):=ah (by
    rw[←eO.out]
    have h1:=of_decide_eq_true HQ.out
    have h2:=of_decide_eq_true dO.out
    subst h1 h2
    congr 1
    simp)
   clear hb5
   rw[qF.out]
   go_wp2
   go_ret
   exact⟨rfl,vS.out⟩
end Go.Proofs.YtlfopoimbbpfdaaGreat
namespace Go.Proofs.YtlfopoimbbpfdaaGreat
open Go.RowKit
set_option maxRecDepth 100000 in
set_option maxHeartbeats 4000000 in
theorem Mf (v v':Value) (xs ys:List bV) (a b:List Ls) (w:World) (h:cK iZ 7 w v xs) (h':cK iZ 7 w v' ys) (hx:bI (lW w) xs a) (hy:bI (lW w) ys b):
  Calls Tryz.prog 57 #[v,v',.func (.func 58) #[] #[]] w fun e w'=>e= .returned (.bool (decide (a=b)))∧Below w.heap.size w w':=by
 obtain⟨ao,cap,rfl,hcap,hcm⟩:=Sl.shape h
 obtain⟨jl,cap',rfl,j6,hcm'⟩:=Sl.shape h'
 have hlx:=hx.len
 have PO:=hy.len
 have HX:=ah hx
 have HY:=ah hy
 have JR:=ah hlx
 have Ua:=ah PO
 clear hx hy
 by_cases hnm:xs.length=ys.length
 ·have Bp:=ah hnm
  rw[←hnm]at h' j6⊢
  clear hnm
  have H':=ah h'
  clear h' hlx PO
  go_enter Tryz.func57,Tryz.ntmps57
  go_wp2
  go_loopw[17] (fun s wr=>∃k:Nat,k≤xs.length∧s= .int .i64 k∧Hid (a.take k=b.take k)∧Below w.heap.size w wr) (fun s _=>xs.length-(intOf s).toNat)
  case atStart=>exact⟨0,Nat.zero_le _,rfl,ah rfl,aL _ _⟩
  case round=>
   obtain⟨k,hk,rfl,A,hb⟩:=hrel
   by_cases hlt:k<xs.length
   ·have hlt':k<ys.length:=by rw[←Bp.out];exact hlt
    have hka:k<a.length:=by rw[←JR.out];exact hlt
    have hkb:k<b.length:=by rw[←Ua.out];exact hlt'
    obtain⟨b0,off,rfl,hbl,c0,c1,c2,c3,c4,c5,c6⟩:=cK.ls h hb (aC _) k hlt
    obtain⟨b0',off',rfl,yD,d0,d1,d2,d3,d4,d5,d6⟩:=cK.ls (cap:=cap') (l:=ys) (by have h9:=H'.out;rw[Bp.out]at h9;exact h9) hb (aC _) k hlt'
    have HT:Hid (a[k]=b[k]→a.take (k+1)=b.take (k+1)):=ah (fun e=>by rw[aV a k hka,aV b k hkb,A.out,e])
    have HF:Hid (¬a[k]=b[k]→ ¬a=b):=ah (nk hka hkb)
    have dK:Below wr.heap.size wr ((wr.alloc (.cells #[.int .i64 xs[k].dev,.int .i64 xs[k].epoch,.int .i64 xs[k].bY,.int .i64 xs[k].last,xs[k].s.v,xs[k].i.v,xs[k].u.v] 48)).alloc (.cells #[.int .i64 ys[k].dev,.int .i64 ys[k].epoch,.int .i64 ys[k].bY,.int .i64 ys[k].last,ys[k].s.v,ys[k].i.v,ys[k].u.v] 48)):=((aL _ _).alloc (aC _) _).alloc (by simp) _
    have HMX:=ah ((HX.out.at k hlt hka).keep (hb.trans (dK.mono hb.size)) (aC _))
    have HMY:=ah ((HY.out.at k hlt' hkb).keep (hb.trans (dK.mono hb.size)) (aC _))
    have mX:=ah (hb.trans (dK.mono hb.size))
    clear dK
    generalize xs[k]=x at*
    generalize ys[k]=y at*
    generalize a[k]=p at*
    generalize b[k]=q at*
    obtain⟨x1,x2,x3,x4,⟨x5,x6,x7⟩,⟨x8,x9,qV⟩,⟨qW,qX,qY⟩⟩:=x
    obtain⟨y1,y2,y3,y4,⟨y5,y6,y7⟩,⟨y8,y9,bW⟩,⟨bX,cB,y13⟩⟩:=y
    simp only[Sv.v]at c0 c1 c2 c3 c4 c5 c6 d0 d1 d2 d3 d4 d5 d6
    have iG:(k:Int)<xs.length:=by omega
    have hbr:b0'<wr.heap.size:=by have:=hb.size;omega
    have afJ:b0<wr.heap.size:=by have:=hb.size;omega
    go_wp2_with fail
    refine(xU ⟨x1,x2,x3,x4,⟨x5,x6,x7⟩,⟨x8,x9,qV⟩,⟨qW,qX,qY⟩⟩ ⟨y1,y2,y3,y4,⟨y5,y6,y7⟩,⟨y8,y9,bW⟩,⟨bX,cB,y13⟩⟩ p q _ HMX.out HMY.out).mono ?_
    rintro e w3 ⟨rfl,hb3⟩
    have HB3:=ah (mX.out.trans (hb3.mono mX.out.size))
    clear hb3 c0 c1 c2 c3 c4 c5 c6 d0 d1 d2 d3 d4 d5 d6
    obtain⟨r,hr⟩:∃r,decide (p=q)=r:=⟨_,rfl⟩
    rw[hr]
    have HR:=ah hr
    clear hr
    cases r with
    | true=>
     have HE:=ah (HT.out (of_decide_eq_true HR.out))
     go_wp2
     go_roundw
     case rel=>exact⟨k+1,by omega,by go_num,ah HE.out,HB3.out⟩
     case measure=>simp[intOf];omega
    | false=>
     have HE:=ah (HF.out (of_decide_eq_false HR.out))
     go_wp2
     go_ret
     exact⟨aN (decide_eq_false HE.out).symm,HB3.out⟩
   ·have:k=xs.length:=by omega
    subst this
    have hl2:=A.out
    rw[JR.out,List.take_length,←JR.out,Bp.out,Ua.out,List.take_length]at hl2
    have HL:=ah hl2
    clear hl2
    go_wp2
    go_ret
    exact⟨aN (decide_eq_true HL.out).symm,hb⟩
 ·have hnm':¬ (xs.length:Int)=(ys.length:Int):=by omega
  clear hlx PO
  go_enter Tryz.func57,Tryz.ntmps57
  go_wp2
  go_ret
  exact⟨aN (decide_eq_false (fun e=>hnm (by rw[JR.out,Ua.out,e]))).symm,aL _ _⟩
set_option maxRecDepth 100000 in
set_option maxHeartbeats 4000000 in
theorem pE (x y:bZ) (a b:Bk) (w:World) (h:eD w x a) (h':eD w y b):
  Calls Tryz.prog 16 #[fT x,fT y] w fun e w'=>e= .returned (.bool (decide (a=b)))∧Below w.heap.size w w':=by
 obtain⟨⟨ca,cn,cc⟩,⟨fa,aX,fc⟩,⟨la,ln,lc⟩,⟨ba,b_n,bc⟩⟩:=x
 obtain⟨⟨Jl,R8,cc'⟩,⟨GH,sH,GI⟩,⟨GJ,PS,Ed⟩,⟨ba',qJ,bc'⟩⟩:=y
 obtain⟨a1,a2,a3,a4⟩:=a
 obtain⟨b1,b2,b3,b4⟩:=b
 generalize hres:decide ((⟨a1,a2,a3,a4⟩:Bk)=⟨b1,b2,b3,b4⟩)=res
 have eO:=ah hres
 clear hres
 have hb1:Below w.heap.size w ((w.alloc (.cells #[.slice ca cn cc,.slice fa aX fc,.slice la ln lc,.slice ba b_n bc] 30)).alloc (.cells #[.slice Jl R8 cc',.slice GH sH GI,.slice GJ PS Ed,.slice ba' qJ bc'] 30)):=((aL _ _).alloc (aC _) _).alloc (by simp) _
 have gF:=ah (bJ w (.cells #[.slice ca cn cc,.slice fa aX fc,.slice la ln lc,.slice ba b_n bc] 30) (.cells #[.slice Jl R8 cc',.slice GH sH GI,.slice GJ PS Ed,.slice ba' qJ bc'] 30))
 have fJ:=ah (bE w (.cells #[.slice ca cn cc,.slice fa aX fc,.slice la ln lc,.slice ba b_n bc] 30) (.cells #[.slice Jl R8 cc',.slice GH sH GI,.slice GJ PS Ed,.slice ba' qJ bc'] 30))
 have hz2:w.heap.size+1<((w.alloc (.cells #[.slice ca cn cc,.slice fa aX fc,.slice la ln lc,.slice ba b_n bc] 30)).alloc (.cells #[.slice Jl R8 cc',.slice GH sH GI,.slice GJ PS Ed,.slice ba' qJ bc'] 30)).heap.size:=by simp
 have HM:=ah (h.keep hb1 (aC _))
 have YD:=ah (h'.keep hb1 (aC _))
 clear h h'
 change Calls Tryz.prog _ #[.agg #[.slice ca cn cc,.slice fa aX fc,.slice la ln lc,.slice ba b_n bc],.agg #[.slice Jl R8 cc',.slice GH sH GI,.slice GJ PS Ed,.slice ba' qJ bc']] w _
 go_enter Tryz.func16,Tryz.ntmps16
 go_upto_region 1 with fail
 generalize (w.alloc (.cells #[.slice ca cn cc,.slice fa aX fc,.slice la ln lc,.slice ba b_n bc] 30)).alloc (.cells #[.slice Jl R8 cc',.slice GH sH GI,.slice GJ PS Ed,.slice ba' qJ bc'] 30)=W at*
 have HB1:=ah hb1
 clear hb1
 obtain⟨c0,c1,c2,c3,_⟩:=ay gF.out
 obtain⟨d0,d1,d2,d3,_⟩:=ay fJ.out
 have KS:Hid (∀V,Below W.heap.size W V→((V.cell? ⟨w.heap.size,1,none⟩=some (.slice fa aX fc)∧V.cell? ⟨w.heap.size,2,none⟩=some (.slice la ln lc)∧V.cell? ⟨w.heap.size,3,none⟩=some (.slice ba b_n bc))∧(V.cell? ⟨w.heap.size+1,1,none⟩=some (.slice GH sH GI)∧V.cell? ⟨w.heap.size+1,2,none⟩=some (.slice GJ PS Ed)∧V.cell? ⟨w.heap.size+1,3,none⟩=some (.slice ba' qJ bc')))):=ah (fun V hV=>by
  obtain⟨_,p1,p2,p3,_⟩:=ay (aj gF.out hV (by omega))
  obtain⟨_,q1,q2,q3,_⟩:=ay (aj fJ.out hV hz2)
  exact⟨⟨p1,p2,p3⟩,q1,q2,q3⟩)
 have jk:Hid (¬ (a1=b1∧a2=b2∧a3=b3∧a4=b4)→res=false):=ah (fun hh=>by
  rw[←eO.out,decide_eq_false_iff_not]
  intro e
  injection e with e1 e2 e3 e4
  exact hh ⟨e1,e2,e3,e4⟩)
 go_wp2_with fail
 refine(LP _ _ _ _ _ HM.out.c YD.out.c).mono ?_
 rintro e w3 ⟨rfl,hb3⟩
 clear c0 c1 c2 c3 d0 d1 d2 d3
 obtain⟨⟨p1,p2,p3⟩,q1,q2,q3⟩:=KS.out _ hb3
 have HM3:=ah (HM.out.keep hb3 (aC _))
 have abt:=ah (YD.out.keep hb3 (aC _))
 have HB3:=ah (HB1.out.trans (hb3.mono HB1.out.size))
 have HW3:=ah hb3
 obtain⟨q,hq⟩:∃q,decide (a1=b1)=q:=⟨_,rfl⟩
 simp only[hq]
 have HQ:=ah hq
 clear hq hb3
 cases q with
 | false=>
  have HF:=ah (jk.out (fun h=>by have:=HQ.out;rw[h.1]at this;simp at this))
  go_wp2
  go_ret
  exact⟨aN HF.out.symm,HB3.out⟩
 | true=>
  go_wp2_with fail
  refine(DJ _ _ _ _ _ HM3.out.f abt.out.f).mono ?_
  rintro e w4 ⟨rfl,hb4⟩
  have iX:=HW3.out.trans (hb4.mono HW3.out.size)
  clear p1 p2 p3 q1 q2 q3
  obtain⟨⟨p1,p2,p3⟩,q1,q2,q3⟩:=KS.out _ iX
  have HM4:=ah (HM.out.keep iX (aC _))
  have abu:=ah (YD.out.keep iX (aC _))
  have jd:=ah (HB1.out.trans (iX.mono HB1.out.size))
  have HW4:=ah iX
  obtain⟨q2,hq⟩:∃q,decide (a2=b2)=q:=⟨_,rfl⟩
  simp only[hq]
  have dO:=ah hq
  clear hq hb4 iX
  cases q2 with
  | false=>
   have HF:=ah (jk.out (fun h=>by have:=dO.out;rw[h.2.1]at this;simp at this))
   go_wp2
   go_ret
   exact⟨aN HF.out.symm,jd.out⟩
  | true=>
   obtain⟨xs,hx,hxa⟩:=HM4.out.l
   obtain⟨ys,hy,hya⟩:=abu.out.l
   have HX:=ah hx
   have HY:=ah hy
   have q_:=ah hxa
   have jU:=ah hya
   clear hx hy hxa hya
   go_wp2_with fail
   refine(Mf _ _ xs ys a3 b3 _ HX.out HY.out q_.out jU.out).mono ?_
   rintro e w5 ⟨rfl,hb5⟩
   have nL:=HW4.out.trans (hb5.mono HW4.out.size)
   clear p1 p2 p3 q1 q2 q3
   obtain⟨⟨p1,p2,p3⟩,q1,q2,q3⟩:=KS.out _ nL
   have YE:=ah (HM.out.keep nL (aC _))
   have abv:=ah (YD.out.keep nL (aC _))
   have vS:=ah (HB1.out.trans (nL.mono HB1.out.size))
   obtain⟨q3,hq⟩:∃q,decide (a3=b3)=q:=⟨_,rfl⟩
   simp only[hq]
   have vR:=ah hq
   clear hq hb5 nL
   cases q3 with
   | false=>
    have HF:=ah (jk.out (fun h=>by have:=vR.out;rw[h.2.2.1]at this;simp at this))
    go_wp2
    go_ret
    exact⟨aN HF.out.symm,vS.out⟩
   | true=>
    go_wp2_with fail
    refine(DK _ _ _ _ _ YE.out.b abv.out.b).mono ?_
    rintro e w6 ⟨rfl,hb6⟩
    have Ec:=ah (vS.out.trans (hb6.mono vS.out.size))
    have qF:Hid (decide (a4=b4)=res):=ah (by
     rw[←eO.out]
     have h1:=of_decide_eq_true HQ.out
     have h2:=of_decide_eq_true dO.out
     have h3:=of_decide_eq_true vR.out
     subst h1 h2 h3
     congr 1
     simp)
    clear hb6
    simp only[qF.out]
    go_wp2
    go_ret
    exact⟨rfl,Ec.out⟩
end Go.Proofs.YtlfopoimbbpfdaaGreat
namespace Go.Proofs.YtlfopoimbbpfdaaGreat
open Go.RowKit
theorem Jm (x:bZ) (b:Bk) (dev ep un:Int) (v:Value) (ws:List Wn) (w:World) (h:eD w x b) (hG:Kw b) (hv:oH w v ws):
  Calls Tryz.prog 25 #[fT x,.int .i64 dev,.int .i64 ep,.int .i64 un,v] w (mG w (fM b dev ep un ws)):=by
 cases hA:ku dev ep un ws.length with
 | false=>exact Il x b dev ep un v ws w h hG hv hA
 | true=>exact Fv x b dev ep un v ws w h hG hv hA
def qK:Value→Bool
 | .slice _ _ _=>true
 | _=>false
theorem Sl.other {w w':World} {E:Nat} {v:Value} {n g:Nat} {cs:List Value} {cur:Array Value} {t:TypeId} {z:Nat×Nat} (h:Sl w E v n cs) (hoth:∀c,c≠g→w'.heap[c]? =w.heap[c]?) (hsz:w.heap.size≤w'.heap.size) (hg:w.heap[g]? =some (.cells cur t z))
  (hc:cs.all (fun c=>!qK c)=true) (hd:cur.toList.all qK=true):Sl w' E v n cs:=by
 obtain⟨h0,ao,cap,h1,h2,h3,h4,h5⟩:=h
 refine⟨h0,ao,cap,h1,h2,h3,h4,fun j u hu=>?_⟩
 obtain⟨b,off,g1,g2,g3⟩:=h5 j u hu
 refine⟨b,off,g1,Nat.lt_of_lt_of_le g2 hsz,?_⟩
 by_cases hb:b=g
 ·subst hb
  simp only[World.cell?,hg]at g3
  have hm:u∈cur.toList:=by
   obtain⟨hlt,he⟩:=bg (by simpa using g3)
   rw[←he]
   simp
  have e1:=List.all_eq_true.1 hc u (List.mem_of_getElem? hu)
  have e2:=List.all_eq_true.1 hd u hm
  rw[e2]at e1
  exact absurd e1 (by decide)
 ·simp only[World.cell?,hoth b hb]at g3⊢
  exact g3
theorem Ah {w w':World} {E:Nat} {v:Value} (h:Sl w E v 0 []):Sl w' E v 0 []:=by
 obtain⟨h0,ao,cap,h1,h2,h3,h4,h5⟩:=h
 exact⟨h0,ao,cap,h1,h2,h3,h4,fun j u hu=>by simp at hu⟩
theorem Mg {w w':World} {g:Nat} {x:bZ} {b:Bk} {cur:Array Value} {t:TypeId} {z:Nat×Nat} (h:eD w x b) (hl:b.ls= []) (hb:b.bound= []) (hoth:∀c,c≠g→w'.heap[c]? =w.heap[c]?) (hsz:w.heap.size≤w'.heap.size) (hg:w.heap[g]? =some (.cells cur t z)) (hd:cur.toList.all qK=true)
  (hc:(aK jE b.cs).all (fun c=>!qK c)=true) (hf:(aR b.free).all (fun c=>!qK c)=true):eD w' x b:=by
 obtain⟨h1,h2,⟨xs,h3,h4⟩,h5⟩:=h
 obtain⟨b1,b2,b3,b4⟩:=b
 simp only at hl hb hc hf
 subst hl hb
 have h6:=h4.len
 obtain rfl:xs= []:=List.eq_nil_of_length_eq_zero h6
 exact⟨Sl.other h1 hoth hsz hg hc hd,Sl.other h2 hoth hsz hg hf hd,⟨[],Ah h3,trivial⟩,Ah h5⟩
def R9:Ct:=⟨⟨#[97]⟩,0,0,20,10,0,0⟩
def R_:Ct:=⟨⟨#[98]⟩,1,-30,30,0,0,0⟩
def mq:Bk:=⟨[⟨⟨#[97]⟩,0,0,20,10,10,10⟩,⟨⟨#[98]⟩,1,-30,30,0,30,30⟩],[(0,40)],[],[]⟩
theorem Jo:newS [R9,R_] 40=(mq,0):=by decide +kernel
def Fy (w:World) (b:Bk) (e:Ending) (w':World):Prop:=∃x:bZ,e= .returned (fT x)∧eD w' x b∧Below w.heap.size w w'
theorem Jp {w w2:World} {x:bZ} (h:eD w2 x mq) (hb:Below w.heap.size w w2) (hz:w.heap.size<w2.heap.size) (hk:w2.heap[w.heap.size]? =some (.cells #[.slice none 0 0,.slice none 0 0,.slice none 0 0,.slice none 0 0] 30 (0,0))) (o:Obj):
  Fy w mq (.returned (fT x)) (((((w2.setCell ⟨w.heap.size,0,none⟩ x.c.v).setCell ⟨w.heap.size,1,none⟩ x.f.v).setCell ⟨w.heap.size,2,none⟩ x.l.v).setCell ⟨w.heap.size,3,none⟩ x.b.v).alloc o):=by
 have hm:=Mg (w':=((((w2.setCell ⟨w.heap.size,0,none⟩ x.c.v).setCell ⟨w.heap.size,1,none⟩ x.f.v).setCell ⟨w.heap.size,2,none⟩ x.l.v).setCell ⟨w.heap.size,3,none⟩ x.b.v)) h rfl rfl (fun c hc=>bF _ w.heap.size c (fun e=>hc e.symm) _ _ _ _ 0 1 2 3) (by rw[fV];exact aC _) hk (by rfl) (by rfl) (by rfl)
 refine⟨x,rfl,hm.keep ((aL _ _).alloc (aC _) _) (aC _),?_⟩
 exact((((hb.setCell (by simp) _).setCell (by simp) _).setCell (by simp) _).setCell (by simp) _).alloc (by rw[fV];exact Nat.le_of_lt hz) _
set_option maxRecDepth 100000 in
set_option maxHeartbeats 1000000 in
theorem nC (w:World):Calls Tryz.prog 9 #[] w (Fy w mq):=by
 obtain⟨W1,hW1,hk1,hb1,hz1⟩:∃W1,w.alloc (.cells #[.slice none 0 0,.slice none 0 0,.slice none 0 0,.slice none 0 0] 30)=W1∧W1.heap[w.heap.size]? =some (.cells #[.slice none 0 0,.slice none 0 0,.slice none 0 0,.slice none 0 0] 30 (0,0))∧Below w.heap.size w W1∧W1.heap.size=w.heap.size+1:=⟨_,rfl,heap_alloc_new _ _,(aL _ _).alloc (aC _) _,by simp⟩
 have HW1:=ah hW1
 have HZ1:=ah hz1
 have gF:=ah hk1
 clear hW1 hz1 hk1
 have dK:Below W1.heap.size W1 (W1.alloc (.cells #[.string ⟨#[97]⟩,.int .i64 0,.int .i64 0,.int .i64 20,.int .i64 10,.int .i64 0,.int .i64 0,.string ⟨#[98]⟩,.int .i64 1,.int .i64 (-30),.int .i64 30,.int .i64 0,.int .i64 0,.int .i64 0] 54)):=(aL _ _).alloc (aC _) _
 have HS:Hid (mD (W1.alloc (.cells #[.string ⟨#[97]⟩,.int .i64 0,.int .i64 0,.int .i64 20,.int .i64 10,.int .i64 0,.int .i64 0,.string ⟨#[98]⟩,.int .i64 1,.int .i64 (-30),.int .i64 30,.int .i64 0,.int .i64 0,.int .i64 0] 54)) (.slice (some ⟨W1.heap.size,0,none⟩) 2 2) [R9,R_]):=
  ah (aI (cO W1 W1.heap.size W1.heap.size 54 7 #[.string ⟨#[97]⟩,.int .i64 0,.int .i64 0,.int .i64 20,.int .i64 10,.int .i64 0,.int .i64 0,.string ⟨#[98]⟩,.int .i64 1,.int .i64 (-30),.int .i64 30,.int .i64 0,.int .i64 0,.int .i64 0] 2 rfl (aC _) (by omega) rfl))
 go_enter Tryz.func9,Tryz.ntmps9
 go_upto_region 1 with fail
 rw[HW1.out]
 go_wp2_with fail
 refine(Lj _ [R9,R_] 40 _ HS.out (by intro c hc;simp at hc;rcases hc with rfl | rfl<;>(unfold maxLen;decide))).mono ?_
 rw[Jo]
 rintro e w2 ⟨⟨⟨ca,cn,cc⟩,⟨fa,fn,fc⟩,⟨la,ln,lc⟩,⟨ba,bn,bc⟩⟩,rfl,hm,hb2⟩
 have Fx:=dK.trans (hb2.mono dK.size)
 have hzz:w.heap.size<W1.heap.size:=by have:=HZ1.out;omega
 have hk2:=aj gF.out Fx hzz
 obtain⟨d0,d1,d2,d3,_⟩:=ay hk2
 have f0:=aA hk2 0
 have f1:=aA hk2 1
 have f2:=aA hk2 2
 have f3:=aA hk2 3
 have hbw:=hb1.trans (Fx.mono hb1.size)
 have dV:=ah hbw
 have HM:=ah hm
 have hz2:=hbw.size
 have TN:=ah hk2
 have D9:=(bg hk2).1
 clear HS dK hb2 Fx hk2 hm hbw hb1
 go_wp2
 refine bodyPost_ret (v:=.agg #[.slice ca cn cc,.slice fa fn fc,.slice la ln lc,.slice ba bn bc]) (by simp[results,Tryz.results9,go_sem, *]) rfl (show Fy _ _ _ _ from ?_)
 exact Jp (x:=⟨⟨ca,cn,cc⟩,⟨fa,fn,fc⟩,⟨la,ln,lc⟩,⟨ba,bn,bc⟩⟩) HM.out dV.out D9 TN.out _
end Go.Proofs.YtlfopoimbbpfdaaGreat
namespace Go.Proofs.YtlfopoimbbpfdaaGreat
open Go.RowKit
theorem Sl.over {w w':World} {E:Nat} {v:Value} {n g:Nat} {cs:List Value} {cur:Array Value} {t:TypeId} {z:Nat×Nat} (h:Sl w E v n cs) (hoth:∀c,c≠g→w'.heap[c]? =w.heap[c]?) (hsz:w.heap.size≤w'.heap.size) (hg:w.heap[g]? =some (.cells cur t z))
  (hc:∀u,cs[0]? =some u→qK u=false) (hd:cur.toList.all qK=true):Sl w' E v n cs:=by
 obtain⟨h0,ao,cap,h1,h2,h3,h4,h5⟩:=h
 refine⟨h0,ao,cap,h1,h2,h3,h4,fun j u hu=>?_⟩
 obtain⟨b,off,g1,g2,g3⟩:=h5 j u hu
 have hb:b≠g:=by
  have hpos:0<cs.length:=by have:=(List.getElem?_eq_some_iff.1 hu).1;omega
  obtain⟨b0,afL,e1,_,e3⟩:=h5 0 cs[0] (List.getElem?_eq_getElem hpos)
  rw[g1]at e1
  injection e1 with e1
  injection e1 with e1 e2 _
  subst e1 e2
  rintro rfl
  simp only[World.cell?,hg]at e3
  have hm:cs[0]∈cur.toList:=by
   obtain⟨hlt,he⟩:=bg (by simpa using e3)
   rw[←he]
   simp
  have e4:=List.all_eq_true.1 hd _ hm
  have e5:=hc _ (List.getElem?_eq_getElem hpos)
  rw[e5]at e4
  exact absurd e4 (by decide)
 refine⟨b,off,g1,Nat.lt_of_lt_of_le g2 hsz,?_⟩
 simp only[World.cell?,hoth b hb]at g3⊢
 exact g3
theorem WW (l:List Ct):∀u,(aK jE l)[0]? =some u→qK u=false:=by
 intro u hu;cases l with
 | nil=>simp[aK]at hu
 | cons x l=>simp[aK,jE]at hu;subst hu;rfl
theorem WX (l:List Sc):∀u,(aK jm l)[0]? =some u→qK u=false:=by
 intro u hu;cases l with
 | nil=>simp[aK]at hu
 | cons x l=>simp[aK,jm]at hu;subst hu;rfl
theorem WY (l:List bV):∀u,(aK iZ l)[0]? =some u→qK u=false:=by
 intro u hu;cases l with
 | nil=>simp[aK]at hu
 | cons x l=>simp[aK,iZ]at hu;subst hu;rfl
theorem WZ (l:List Rg):∀u,(aR l)[0]? =some u→qK u=false:=by
 intro u hu;cases l with
 | nil=>simp[aR]at hu
 | cons x l=>simp[aR]at hu;subst hu;rfl
theorem W_ (l:List Int):∀u,(bM l)[0]? =some u→qK u=false:=by
 intro u hu;cases l with
 | nil=>simp[bM]at hu
 | cons x l=>simp[bM]at hu;subst hu;rfl
section
variable {w w':World} {g:Nat} {cur:Array Value} {t:TypeId} {z:Nat×Nat}
theorem lW.over {x:bV} {l:Ls} (h:lW w x l) (hoth:∀c,c≠g→w'.heap[c]? =w.heap[c]?) (hsz:w.heap.size≤w'.heap.size) (hg:w.heap[g]? =some (.cells cur t z)) (hd:cur.toList.all qK=true):lW w' x l:=
 ⟨h.dev,h.epoch,h.bY,h.last,Sl.over h.s hoth hsz hg (WX _) hd,Sl.over h.i hoth hsz hg (WZ _) hd,Sl.over h.u hoth hsz hg (W_ _) hd⟩
theorem eD.over {x:bZ} {b:Bk} (h:eD w x b) (hoth:∀c,c≠g→w'.heap[c]? =w.heap[c]?) (hsz:w.heap.size≤w'.heap.size) (hg:w.heap[g]? =some (.cells cur t z)) (hd:cur.toList.all qK=true):eD w' x b:=by
 obtain⟨h1,h2,⟨xs,h3,h4⟩,h5⟩:=h
 exact⟨Sl.over h1 hoth hsz hg (WW _) hd,Sl.over h2 hoth hsz hg (WZ _) hd,⟨xs,Sl.over h3 hoth hsz hg (WY _) hd,h4.imp fun _ _ r=>lW.over r hoth hsz hg hd⟩,Sl.over h5 hoth hsz hg (W_ _) hd⟩
end
structure Dq (w W:World) (x:ow) (ya yb:bZ):Prop where
 aZ:Below w.heap.size w W
 k3:W.heap[w.heap.size]? =some (.cells #[.int .i64 x.kind,.int .i64 x.dev,.int .i64 x.n,x.wants.v,.int .i64 x.o.dev,.int .i64 x.o.epoch,.int .i64 x.o.seq,.int .i64 x.o.coll,.int .i64 x.o.ver,.int .i64 x.o.kind,.string x.o.key,.string x.o.text,.int .i64 x.o.n,.int .i64 x.o.time,x.o.dots.v] 40 (0,0))
 k4:W.heap[w.heap.size+1]? =some (.cells #[ya.c.v,ya.f.v,ya.l.v,ya.b.v] 30 (0,0))
 k5:W.heap[w.heap.size+1+1]? =some (.cells #[yb.c.v,yb.f.v,yb.l.v,yb.b.v] 30 (0,0))
 k6:W.heap[w.heap.size+1+1+1]? =some (.cells #[.slice none 0 0,.slice none 0 0,.slice none 0 0,.slice none 0 0] 30 (0,0))
 k7:W.heap[w.heap.size+1+1+1+1]? =some (.cells #[.slice none 0 0,.slice none 0 0,.slice none 0 0,.slice none 0 0] 30 (0,0))
theorem Dq.keep {w W W':World} {x:ow} {ya yb:bZ} (h:Dq w W x ya yb) (hb:Below W.heap.size W W'):Dq w W' x ya yb:=
 ⟨h.aZ.trans (hb.mono h.aZ.size),aj h.k3 hb (bg h.k3).1,aj h.k4 hb (bg h.k4).1,aj h.k5 hb (bg h.k5).1,aj h.k6 hb (bg h.k6).1,aj h.k7 hb (bg h.k7).1⟩
def nD (w:World) (b:Bk) (e:Ending) (w':World):Prop:=∃ (y z:bZ),e= .returned (.tuple #[fT y,fT z,.bool true])∧eD w' y b∧eD w' z b∧Below w.heap.size w w'
end Go.Proofs.YtlfopoimbbpfdaaGreat
namespace Go.Proofs.YtlfopoimbbpfdaaGreat
open Go.RowKit
def Mh:bZ:=⟨⟨none,0,0⟩,⟨none,0,0⟩,⟨none,0,0⟩,⟨none,0,0⟩⟩
def gZ (p:Nat):Value:=.pointer (some ⟨p,0,none⟩)
abbrev Bx (w:World) (p:Nat) (x:bZ):Prop:=w.heap[p]? =some (.cells #[x.c.v,x.f.v,x.l.v,x.b.v] 30 (0,0))
theorem jZ (x:bZ):(#[x.c.v,x.f.v,x.l.v,x.b.v]:Array Value).toList.all qK=true:=rfl
theorem Bx.lt {w:World} {p:Nat} {x:bZ} (h:Bx w p x):p<w.heap.size:=(bg h).1
structure J9 (W:World) (b:Bk) (k:Nat) (D:Nat→Prop) (y z:bZ) (p q:Nat) (vT vM vA vB vC vp vq vo:Value) (w:World):Prop where
 aZ:Below W.heap.size W w
 c:D k→vT= .tuple #[fT y,fT z,.bool true]∧eD w y b∧eD w z b
 m:D (k+1)→D k∧vM= .tuple #[fT y,fT z,.bool true]
 e1:D (k+2)→D k∧vA=fT y
 e2:D (k+3)→D k∧vB=fT z
 e3:D (k+4)→D k∧vC= .bool true
 a1:D (k+5)→vp=gZ p∧W.heap.size≤p∧ ∃x,Bx w p x∧(D (k+7)→x=y)
 a2:D (k+6)→vq=gZ q∧W.heap.size≤q∧ ∃x,Bx w q x∧(D (k+8)→x=z)
 ne:D (k+5)→D (k+6)→p≠q
 s1:D (k+7)→D k∧D (k+5)
 s2:D (k+8)→D k∧D (k+6)
 o:D (k+9)→vo= .bool true
section
variable {W w w':World} {b:Bk} {k:Nat} {D:Nat→Prop} {y z:bZ} {p q:Nat} {vT vM vA vB vC vp vq vo:Value}
theorem aQ {i j:Nat} {D:Nat→Prop} (h:j=i∨D j) (hne:j≠i):D j:=h.resolve_left hne
theorem J9.call (h:J9 W b k D y z p q vT vM vA vB vC vp vq vo w) (hn:¬D k) {y' z':bZ} (hy:eD w' y' b) (hz:eD w' z' b) (hb:Below w.heap.size w w'):
  J9 W b k (fun j=>j=k∨D j) y' z' p q (.tuple #[fT y',fT z',.bool true]) vM vA vB vC vp vq vo w':=by
 refine⟨h.aZ.trans (hb.mono h.aZ.size),fun _=>⟨rfl,hy,hz⟩,fun g=>absurd (h.m (aQ g (by omega))).1 hn,fun g=>absurd (h.e1 (aQ g (by omega))).1 hn,fun g=>absurd (h.e2 (aQ g (by omega))).1 hn,fun g=>absurd (h.e3 (aQ g (by omega))).1 hn,
  fun g=>?_,fun g=>?_,fun g g2=>h.ne (aQ g (by omega)) (aQ g2 (by omega)),fun g=>absurd (h.s1 (aQ g (by omega))).1 hn,fun g=>absurd (h.s2 (aQ g (by omega))).1 hn,fun g=>h.o (aQ g (by omega))⟩
 ·obtain⟨g1,g2,x,g3,_⟩:=h.a1 (aQ g (by omega))
  exact⟨g1,g2,x,aj g3 hb g3.lt,fun g=>absurd (h.s1 (aQ g (by omega))).1 hn⟩
 ·obtain⟨g1,g2,x,g3,_⟩:=h.a2 (aQ g (by omega))
  exact⟨g1,g2,x,aj g3 hb g3.lt,fun g=>absurd (h.s2 (aQ g (by omega))).1 hn⟩
theorem J9.PV (h:J9 W b k D y z p q vT vM vA vB vC vp vq vo w) (hn:¬D (k+5)):
  J9 W b k (fun j=>j=k+5∨D j) y z w.heap.size q vT vM vA vB vC (gZ w.heap.size) vq vo (w.alloc (.cells #[.slice none 0 0,.slice none 0 0,.slice none 0 0,.slice none 0 0] 30)):=by
 have hb:Below w.heap.size w (w.alloc (.cells #[.slice none 0 0,.slice none 0 0,.slice none 0 0,.slice none 0 0] 30)):=(aL _ _).alloc (aC _) _
 refine⟨h.aZ.trans (hb.mono h.aZ.size),fun g=>?_,fun g=>(h.m (aQ g (by omega))).imp .inr id,fun g=>(h.e1 (aQ g (by omega))).imp .inr id,fun g=>(h.e2 (aQ g (by omega))).imp .inr id,fun g=>(h.e3 (aQ g (by omega))).imp .inr id,
  fun _=>⟨rfl,h.aZ.size,Mh,heap_alloc_new w _,fun g=>absurd (h.s1 (aQ g (by omega))).2 hn⟩,fun g=>?_,fun _ g2=>?_,fun g=>(h.s1 (aQ g (by omega))).imp .inr .inr,fun g=>(h.s2 (aQ g (by omega))).imp .inr .inr,fun g=>h.o (aQ g (by omega))⟩
 ·obtain⟨g1,g2,g3⟩:=h.c (aQ g (by omega))
  exact⟨g1,g2.keep hb (aC _),g3.keep hb (aC _)⟩
 ·obtain⟨g1,g2,x,g3,g4⟩:=h.a2 (aQ g (by omega))
  exact⟨g1,g2,x,aj g3 hb g3.lt,fun g=>g4 (aQ g (by omega))⟩
 ·obtain⟨_,_,x,g3,_⟩:=h.a2 (aQ g2 (by omega))
  have:=g3.lt
  omega
theorem J9.PW (h:J9 W b k D y z p q vT vM vA vB vC vp vq vo w) (hn:¬D (k+6)):
  J9 W b k (fun j=>j=k+6∨D j) y z p w.heap.size vT vM vA vB vC vp (gZ w.heap.size) vo (w.alloc (.cells #[.slice none 0 0,.slice none 0 0,.slice none 0 0,.slice none 0 0] 30)):=by
 have hb:Below w.heap.size w (w.alloc (.cells #[.slice none 0 0,.slice none 0 0,.slice none 0 0,.slice none 0 0] 30)):=(aL _ _).alloc (aC _) _
 refine⟨h.aZ.trans (hb.mono h.aZ.size),fun g=>?_,fun g=>(h.m (aQ g (by omega))).imp .inr id,fun g=>(h.e1 (aQ g (by omega))).imp .inr id,fun g=>(h.e2 (aQ g (by omega))).imp .inr id,fun g=>(h.e3 (aQ g (by omega))).imp .inr id,
  fun g=>?_,fun _=>⟨rfl,h.aZ.size,Mh,heap_alloc_new w _,fun g=>absurd (h.s2 (aQ g (by omega))).2 hn⟩,fun g2 _=>?_,fun g=>(h.s1 (aQ g (by omega))).imp .inr .inr,fun g=>(h.s2 (aQ g (by omega))).imp .inr .inr,fun g=>h.o (aQ g (by omega))⟩
 ·obtain⟨g1,g2,g3⟩:=h.c (aQ g (by omega))
  exact⟨g1,g2.keep hb (aC _),g3.keep hb (aC _)⟩
 ·obtain⟨g1,g2,x,g3,g4⟩:=h.a1 (aQ g (by omega))
  exact⟨g1,g2,x,aj g3 hb g3.lt,fun g=>g4 (aQ g (by omega))⟩
 ·obtain⟨_,_,x,g3,_⟩:=h.a1 (aQ g2 (by omega))
  have:=g3.lt
  omega
theorem J9.st1 (h:J9 W b k D y z p q vT vM vA vB vC vp vq vo w) (hk:D k) (h5:D (k+5)):
  J9 W b k (fun j=>j=k+7∨D j) y z p q vT vM vA vB vC vp vq vo ((((w.setCell ⟨p,0,none⟩ y.c.v).setCell ⟨p,1,none⟩ y.f.v).setCell ⟨p,2,none⟩ y.l.v).setCell ⟨p,3,none⟩ y.b.v):=by
 obtain⟨a1,a2,x,a3,_⟩:=h.a1 h5
 have hoth:∀c,c≠p→((((w.setCell ⟨p,0,none⟩ y.c.v).setCell ⟨p,1,none⟩ y.f.v).setCell ⟨p,2,none⟩ y.l.v).setCell ⟨p,3,none⟩ y.b.v).heap[c]? =w.heap[c]? :=fun c hc=>bF w p c (fun e=>hc e.symm) _ _ _ _ 0 1 2 3
 have hsz:w.heap.size≤((((w.setCell ⟨p,0,none⟩ y.c.v).setCell ⟨p,1,none⟩ y.f.v).setCell ⟨p,2,none⟩ y.l.v).setCell ⟨p,3,none⟩ y.b.v).heap.size:=by rw[fV];exact aC _
 refine⟨kS h.aZ a2 _ _ _ _,fun g=>?_,fun g=>(h.m (aQ g (by omega))).imp .inr id,fun g=>(h.e1 (aQ g (by omega))).imp .inr id,fun g=>(h.e2 (aQ g (by omega))).imp .inr id,fun g=>(h.e3 (aQ g (by omega))).imp .inr id,
  fun _=>⟨a1,a2,y,gq a3 _ _ _ _,fun _=>rfl⟩,fun g=>?_,fun g g2=>h.ne (aQ g (by omega)) (aQ g2 (by omega)),fun _=>⟨.inr hk,.inr h5⟩,fun g=>(h.s2 (aQ g (by omega))).imp .inr .inr,fun g=>h.o (aQ g (by omega))⟩
 ·obtain⟨g1,g2,g3⟩:=h.c (aQ g (by omega))
  exact⟨g1,g2.over hoth hsz a3 (jZ x),g3.over hoth hsz a3 (jZ x)⟩
 ·have g':=aQ g (by omega)
  obtain⟨g1,g2,x',g3,g4⟩:=h.a2 g'
  exact⟨g1,g2,x',(hoth q (fun e=>h.ne h5 g' e.symm)).trans g3,fun g=>g4 (aQ g (by omega))⟩
theorem J9.st2 (h:J9 W b k D y z p q vT vM vA vB vC vp vq vo w) (hk:D k) (h6:D (k+6)):
  J9 W b k (fun j=>j=k+8∨D j) y z p q vT vM vA vB vC vp vq vo ((((w.setCell ⟨q,0,none⟩ z.c.v).setCell ⟨q,1,none⟩ z.f.v).setCell ⟨q,2,none⟩ z.l.v).setCell ⟨q,3,none⟩ z.b.v):=by
 obtain⟨a1,a2,x,a3,_⟩:=h.a2 h6
 have hoth:∀c,c≠q→((((w.setCell ⟨q,0,none⟩ z.c.v).setCell ⟨q,1,none⟩ z.f.v).setCell ⟨q,2,none⟩ z.l.v).setCell ⟨q,3,none⟩ z.b.v).heap[c]? =w.heap[c]? :=fun c hc=>bF w q c (fun e=>hc e.symm) _ _ _ _ 0 1 2 3
 have hsz:w.heap.size≤((((w.setCell ⟨q,0,none⟩ z.c.v).setCell ⟨q,1,none⟩ z.f.v).setCell ⟨q,2,none⟩ z.l.v).setCell ⟨q,3,none⟩ z.b.v).heap.size:=by rw[fV];exact aC _
 refine⟨kS h.aZ a2 _ _ _ _,fun g=>?_,fun g=>(h.m (aQ g (by omega))).imp .inr id,fun g=>(h.e1 (aQ g (by omega))).imp .inr id,fun g=>(h.e2 (aQ g (by omega))).imp .inr id,fun g=>(h.e3 (aQ g (by omega))).imp .inr id,
  fun g=>?_,fun _=>⟨a1,a2,z,gq a3 _ _ _ _,fun _=>rfl⟩,fun g g2=>h.ne (aQ g (by omega)) (aQ g2 (by omega)),fun g=>(h.s1 (aQ g (by omega))).imp .inr .inr,fun _=>⟨.inr hk,.inr h6⟩,fun g=>h.o (aQ g (by omega))⟩
 ·obtain⟨g1,g2,g3⟩:=h.c (aQ g (by omega))
  exact⟨g1,g2.over hoth hsz a3 (jZ x),g3.over hoth hsz a3 (jZ x)⟩
 ·have g':=aQ g (by omega)
  obtain⟨g1,g2,x',g3,g4⟩:=h.a1 g'
  exact⟨g1,g2,x',(hoth p (fun e=>h.ne g' h6 e)).trans g3,fun g=>g4 (aQ g (by omega))⟩
theorem J9.mv (h:J9 W b k D y z p q vT vM vA vB vC vp vq vo w) (hk:D k) (i:Nat) (hi:i=k+1∨i=k+2∨i=k+3∨i=k+4∨i=k+9) {Sb Sd Sg Si Sj:Value}
  (q1:i=k+1→Sb= .tuple #[fT y,fT z,.bool true]) (q2:i=k+2→Sd=fT y) (q3:i=k+3→Sg=fT z) (q4:i=k+4→Si= .bool true) (q5:i=k+9→Sj= .bool true)
  (r1:i≠k+1→Sb=vM) (r2:i≠k+2→Sd=vA) (r3:i≠k+3→Sg=vB) (r4:i≠k+4→Si=vC) (r5:i≠k+9→Sj=vo):
  J9 W b k (fun j=>j=i∨D j) y z p q vT Sb Sd Sg Si vp vq Sj w:=by
 refine⟨h.aZ,fun _=>h.c hk,fun g=>⟨.inr hk,?_⟩,fun g=>⟨.inr hk,?_⟩,fun g=>⟨.inr hk,?_⟩,fun g=>⟨.inr hk,?_⟩,fun g=>?_,fun g=>?_,fun g g2=>h.ne (aQ g (by omega)) (aQ g2 (by omega)),fun g=>(h.s1 (aQ g (by omega))).imp .inr .inr,fun g=>(h.s2 (aQ g (by omega))).imp .inr .inr,fun g=>?_⟩
 ·by_cases e:i=k+1
  ·exact q1 e
  ·rw[r1 e];exact(h.m (aQ g (fun h=>e h.symm))).2
 ·by_cases e:i=k+2
  ·exact q2 e
  ·rw[r2 e];exact(h.e1 (aQ g (fun h=>e h.symm))).2
 ·by_cases e:i=k+3
  ·exact q3 e
  ·rw[r3 e];exact(h.e2 (aQ g (fun h=>e h.symm))).2
 ·by_cases e:i=k+4
  ·exact q4 e
  ·rw[r4 e];exact(h.e3 (aQ g (fun h=>e h.symm))).2
 ·obtain⟨g1,g2,x',g3,g4⟩:=h.a1 (aQ g (by omega))
  exact⟨g1,g2,x',g3,fun g=>g4 (aQ g (by omega))⟩
 ·obtain⟨g1,g2,x',g3,g4⟩:=h.a2 (aQ g (by omega))
  exact⟨g1,g2,x',g3,fun g=>g4 (aQ g (by omega))⟩
 ·by_cases e:i=k+9
  ·exact q5 e
  ·rw[r5 e];exact h.o (aQ g (fun h=>e h.symm))
theorem J9.start (h:Below W.heap.size W w) (hD:∀j,j<k+10→k≤j→ ¬D j):J9 W b k D y z p q vT vM vA vB vC vp vq vo w:=
 ⟨h,fun g=>absurd g (hD _ (by omega) (by omega)),fun g=>absurd g (hD _ (by omega) (by omega)),fun g=>absurd g (hD _ (by omega) (by omega)),fun g=>absurd g (hD _ (by omega) (by omega)),fun g=>absurd g (hD _ (by omega) (by omega)),fun g=>absurd g (hD _ (by omega) (by omega)),fun g=>absurd g (hD _ (by omega) (by omega)),
  fun g=>absurd g (hD _ (by omega) (by omega)),fun g=>absurd g (hD _ (by omega) (by omega)),fun g=>absurd g (hD _ (by omega) (by omega)),fun g=>absurd g (hD _ (by omega) (by omega))⟩
theorem J9.fin (h:J9 W b k D y z p q vT vM vA vB vC vp vq vo w) (hD:∀j,j<k+10→D j):
  vp=gZ p∧vq=gZ q∧vo= .bool true∧Bx w p y∧Bx w q z∧eD w y b∧eD w z b∧Below W.heap.size W w∧W.heap.size≤p∧W.heap.size≤q:=by
 obtain⟨c1,c2,c3⟩:=h.c (hD _ (by omega))
 obtain⟨p1,p2,x1,p3,p4⟩:=h.a1 (hD _ (by omega))
 obtain⟨q1,q2,x2,q3,q4⟩:=h.a2 (hD _ (by omega))
 obtain rfl:=p4 (hD _ (by omega))
 obtain rfl:=q4 (hD _ (by omega))
 exact⟨p1,q1,h.o (hD _ (by omega)),p3,q3,c2,c3,h.aZ,p2,q2⟩
end
end Go.Proofs.YtlfopoimbbpfdaaGreat
