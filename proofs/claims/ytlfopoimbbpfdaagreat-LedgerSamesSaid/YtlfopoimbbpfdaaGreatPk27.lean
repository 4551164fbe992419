/- What the law asks, in parts: YD YE. -/
import Derived.Deep.DrawnRows
import Derived.Test.YtlfopoimbbpfdaaGreatPk26
set_option linter.all false
namespace Go.Proofs.YtlfopoimbbpfdaaGreat
open Go.RowKit
attribute [local go_sem ↓] Go.wp_at_zero Go.wp_at_succ
set_option maxRecDepth 100000 in
set_option maxHeartbeats 8000000 in
theorem DI (fI w W:World) (hw:Below fI.heap.size fI w) (gP gJ:Nat) (dev ep un:Int) (va:Option Addr) (vn vc:Nat) (ws:List Wn) (b0:Bk) (x0:bZ) (h:Gs gP gJ w W x0 x0 ⟨dev,ep,un,-1,⟨none,0,0⟩,⟨none,0,0⟩,⟨none,0,0⟩⟩) (hx:eD fI x0 b0) (hv:oH w (.slice va vn vc) ws) (h0:RI b0) (UQ:ws.length≤5) (r:Bk×Ls×Int) (hr:r=if (bD b0 (newL dev ep un) [] ws).2.2=0 then(⟨(bD b0 (newL dev ep un) [] ws).1.cs,(bD b0 (newL dev ep un) [] ws).1.free,og (bD b0 (newL dev ep un) [] ws).2.1 (bD b0 (newL dev ep un) [] ws).1.ls,(bD b0 (newL dev ep un) [] ws).1.bound⟩,(bD b0 (newL dev ep un) [] ws).2.1,0)else(b0,mK,(bD b0 (newL dev ep un) [] ws).2.2)) (u0 u2 u3 u6 u7 u8 u9 u12 u15 u16 u17 u18 u19 u20 u21 u22 u23 u24 u25 u26 u27 u28 u29 u30 u31 u32 u33 u34 u35 u36 u37 u38 u39 u40 u41 u42 u43 u44 u45 u46 u47 u48 u49 u50 u51 u52 u53 u54 u55 u56 u57 u58 u59 u60 u61 u62 u63 u64 u65 u66 u67 u68 u69 u70 u71 u72 u73 u74 u75 u76 u77 u78 u79 u80 u81 u82 u83 u84 u85 u86 u87 u88 u89 u90 u91 u92 u93 u94 u95 u96 u97 u98 u99 u100 u101 u102 u103 u104 u105 u106 u107 u108 u109 u110 u111 u112 u113 u114 u115 u116 u117 u118 u119 u120 u121 u122 u123 u124 u125 u126 u127 u128 u129 u130 u131 u132 u133 u134 u135 u136 u137 u138 u139 u140 u141 u142 u143 u144 u145 u146 u147 u148 u149 u150 u151 u152 u153 u154 u155 u156 u157 u158:Value):
  ∀c,Tryz.f26.body.bind (spine 4)=some c→Code.wp Tryz.prog c (bodyPost Tryz.prog Tryz.f26 (lJ fI w r)) ⟨#[u0,.int .i64 dev,u2,u3,.slice va vn vc,.pointer (some ⟨w.heap.size,0,none⟩),u6,u7,u8,u9,.pointer (some ⟨w.heap.size+1,0,none⟩),.pointer (some ⟨w.heap.size+1+1,0,none⟩),u12,.pointer (some ⟨gP,0,none⟩),.pointer (some ⟨gJ,0,none⟩),u15,u16,u17,u18,u19,u20,u21,u22,u23,u24,u25,u26,u27,u28,u29,u30,u31,u32,u33,u34,u35,u36,u37,u38,u39,u40,u41,u42,u43,u44,u45,u46,u47,u48,u49,u50,u51,u52,u53,u54,u55,u56,u57,u58,u59,u60,u61,u62,u63,u64,u65,u66,u67,u68,u69,u70,u71,u72,u73,u74,u75,u76,u77,u78,u79,u80,u81,u82,u83,u84,u85,u86,u87,u88,u89,u90,u91,u92,u93,u94,u95,u96,u97,u98,u99,u100,u101,u102,u103,u104,u105,u106,u107,u108,u109,u110,u111,u112,u113,u114,u115,u116,u117,u118,u119,u120,u121,u122,u123,u124,u125,u126,u127,u128,u129,u130,u131,u132,u133,u134,u135,u136,u137,u138,u139,u140,u141,u142,u143,u144,u145,u146,u147,u148,u149,u150,u151,u152,u153,u154,u155,u156,u157,u158],[]⟩ W:=by
 refine dH rfl ?_
 obtain⟨⟨ga,gn,gc⟩,⟨ha,h_n,hc⟩,⟨ia,dz,ic⟩,⟨ja,jn,jc⟩⟩:=x0
 obtain⟨q3,g3,g4⟩:=Sl.lens (s:=⟨va,vn,vc⟩) hv
 simp only at q3 g3 g4
 subst q3
 have HG:=ah h
 have HX0:=ah hx
 have HV:=ah hv
 have H0:=ah h0
 have Og:=ah hr
 clear h hx hv h0 hr
 go_upto_block 0 with fail
 go_cut[] (fun wx=>∃X Y b l,Gs gP gJ w wx ⟨⟨ga,gn,gc⟩,⟨ha,h_n,hc⟩,⟨ia,dz,ic⟩,⟨ja,jn,jc⟩⟩ X Y∧Rr fI wx X b Y l∧M7 ws.length b0 (newL dev ep un) ws b l∧bD b0 (newL dev ep un) [] ws=(b,l,0))
 case rest=>
  obtain⟨X,Y,b,l,hg,hrr,hgw,hgo⟩:=hcut
  rw[hgo]at Og
  simp only[if_true]at Og
  have HR2:=Og.out
  subst HR2
  go_step
  exact LC fI w _ hw gP gJ dev b l ⟨⟨ga,gn,gc⟩,⟨ha,h_n,hc⟩,⟨ia,dz,ic⟩,⟨ja,jn,jc⟩⟩ X Y hg hrr ⟨by have:=hgw.n.ns;omega,by have h1:=hgw.n.ni;have h2:=H0.out.nf;have:ws.length*b0.free.length≤5*b0.free.length:=Nat.mul_le_mul_right _ UQ;omega,by rw[hgw.n.used];simp⟩ (by rw[hgw.n.ls];exact H0.out.nl) hgw.n.dev _ _ _ _ _ _ _ _ _ _ _ _ _ _ _ _ _ _ _ _ _ _ _ _ _ _ _ _ _ _ _ _ _ _ _ _ _ _ _ _ _ _ _ _ _ _ _ _ _ _ _ _ _ _ _ _ _ _ _ _ _ _ _ _ _ _ _ _ _ _ _ _ _ _ _ _ _ _ _ _ _ _ _ _ _ _ _ _ _ _ _ _ _ _ _ _ _ _ _ _ _ _ _ _ _ _ _ _ _ _ _ _ _ _ _ _ _ _ _ _ _ _ _ _ _ _ _ _ _ _ _ _ _ _ _ _ _ _ _ _ _ _ _ _ _ _ _ _ _ _ _ _ _ _ rfl
 case first=>
 go_wp2
 go_loopw[15] (fun v15 wr=>∃ (i:Nat) (X:bZ) (Y:bV) (b:Bk) (l:Ls),i≤ws.length∧v15= .int .i64 i∧Gs gP gJ w wr ⟨⟨ga,gn,gc⟩,⟨ha,h_n,hc⟩,⟨ia,dz,ic⟩,⟨ja,jn,jc⟩⟩ X Y∧Rr fI wr X b Y l∧M7 i b0 (newL dev ep un) (ws.take i) b l∧bD b0 (newL dev ep un) [] ws=bD b l (ws.take i) (ws.drop i)) (fun v15 _=>ws.length-(intOf v15).toNat)
 case atStart=>exact⟨0,_,_,b0,newL dev ep un,Nat.zero_le _,rfl,HG.out,Rr.begin HX0.out ⟨rfl,rfl,rfl,rfl,(gX fI 0).m.s,(gX fI 0).m.i,(gX fI 0).m.u⟩ (hw.trans (HG.out.aZ.mono hw.size)),M7.zero H0.out,rfl⟩
 case round=>
  obtain⟨i,X,Y,b,l,hi,rfl,hg,hrr,hgw,hgo⟩:=hrel
  have j5:=ah hg
  have HRR:=ah hrr
  have V_:=ah hgw
  have sQ:=ah hgo
  clear hg hrr hgw hgo
  by_cases hlt:i<ws.length
  ·have Pk:(i:Int)<ws.length:=by omega
   have i0:(0:Int)≤(i:Int):=by omega
   obtain⟨vb,vo,rfl,hvb,c0,c1,c2,c3⟩:=cK.wn HV.out j5.out.aZ (aC _) i hlt
   have HTW:Hid (qw ws i=(ws.take i).any (fun x=>decide (x.key=ws[i].key))):=ah (by
    unfold qw
    rw[List.getD_eq_getElem?_getD,List.getElem?_eq_getElem hlt]
    rfl)
   have HDR:Hid (ws.drop i=ws[i]::ws.drop (i+1)):=ah (List.drop_eq_getElem_cons hlt)
   have Kr:Hid (ws.take (i+1)=ws.take i++ [ws[i]]):=ah (aV ws i hlt)
   have HGX:=ah j5.out
   generalize hwn:ws[i]=wn at*
   have afl:=ah (And.intro hlt True.intro)
   obtain⟨wk,wu,wd,wi⟩:=wn
   simp only at c0 c1 c2 c3
   obtain⟨⟨ca,cn,cc⟩,⟨fa,aX,fc⟩,⟨la,ln,lc⟩,⟨ba,b_n,bc⟩⟩:=X
   obtain⟨y1,y2,y3,y4,⟨y5,y6,y7⟩,⟨y8,y9,bW⟩,⟨bX,cB,y13⟩⟩:=Y
   have Lv:=j5.out.Lv
   have Lx:=j5.out.Lx
   go_upto_region 10 with fail
   have hb1:Below wr.heap.size wr (wr.alloc (.cells #[.string wk,.int .i64 wu,.int .i64 wd,.int .i64 wi] 65)):=(aL _ _).alloc (aC _) _
   have Ow:=ah (heap_alloc_new wr (.cells #[.string wk,.int .i64 wu,.int .i64 wd,.int .i64 wi] 65))
   have vG:=ah (j5.out.keep hb1)
   have HR1:=ah (HRR.out.keep hb1)
   clear hb1 j5 HRR c0 c1 c2 c3 HGX
   generalize wr.alloc (.cells #[.string wk,.int .i64 wu,.int .i64 wd,.int .i64 wi] 65)=W1 at*
   generalize wr.heap.size=p16 at*
   obtain⟨k0,k1,k2,k3,_⟩:=ay Ow.out
   go_cut[99] (fun v99 wx=>v99= .bool (!(rH ⟨wk,wu,wd,wi⟩))∧wx=W1)
   case first=>
    go_wp2
    all_goals go_meet
    all_goals
     refine⟨congrArg Value.bool ?_,rfl⟩
     rw[nT,Bool.eq_iff_iff]
     try simp
     try omega
   case rest=>
   obtain⟨rfl,hwc⟩:=hcut
   rw[hwc]
   clear hwc
   cases hB:rH ⟨wk,wu,wd,wi⟩with
   | false=>
    have eO:Hid (r=(b0,mK,1)):=ah (by
     have h1:dB b ⟨wk,wu,wd,wi⟩=1:=by
      unfold dB
      rw[mY hB]
      rfl
     rw[Og.out,sQ.out,HDR.out,lZ (by rw[hB];simp) (by rw[h1];decide),h1]
     rfl)
    clear k0 k1 k2 k3 hB
    obtain⟨r0,r1,r2,r3,_⟩:=ay vG.out.k5
    simp only[Sv.v]at r0 r1 r2 r3
    obtain⟨s0,s1,s2,s3,_⟩:=ay vG.out.k10
    obtain⟨m0,m1,m2,m3,m4,m5,m6,_⟩:=aB vG.out.k11
    have f0:=aA vG.out.k10 0
    have f1:=aA vG.out.k10 1
    have f2:=aA vG.out.k10 2
    have f3:=aA vG.out.k10 3
    have g0:=ak vG.out.k11 0
    have g1:=ak vG.out.k11 1
    have g2:=ak vG.out.k11 2
    have g3:=ak vG.out.k11 3
    have g4:=ak vG.out.k11 4
    have g5:=ak vG.out.k11 5
    have g6:=ak vG.out.k11 6
    go_wp2
    refine bodyPost_ret (v:=.tuple #[.agg #[.slice ga gn gc,.slice ha h_n hc,.slice ia dz ic,.slice ja jn jc],.agg #[.int .i64 0,.int .i64 0,.int .i64 0,.int .i64 0,.slice none 0 0,.slice none 0 0,.slice none 0 0],.int .i64 1]) (by simp[results,Tryz.results26,go_sem, *]) rfl (show lJ _ _ _ _ _ from ?_)
    have hbf:=zo (kS vG.out.aZ (p:=w.heap.size+1) (by omega) (.slice ga gn gc) (.slice ha h_n hc) (.slice ia dz ic) (.slice ja jn jc)) (p:=w.heap.size+1+1) (by omega) (.int .i64 0) (.int .i64 0) (.int .i64 0) (.int .i64 0) (.slice none 0 0) (.slice none 0 0) (.slice none 0 0)
    rw[eO.out]
    exact⟨⟨⟨ga,gn,gc⟩,⟨ha,h_n,hc⟩,⟨ia,dz,ic⟩,⟨ja,jn,jc⟩⟩,rD,rfl,⟨_,aC _,Rb.old HX0.out (hw.trans (hbf.mono hw.size))⟩,gX _ _,hbf⟩
   | true=>
    have sS:=ah hB
    clear hB
    go_wp2_with fail
    refine(Hy _ ws i W1 (cK.keep HV.out vG.out.aZ (aC _)) hlt (by omega)).mono ?_
    rintro e W2 ⟨rfl,hb2⟩
    rw[HTW.out]
    have HG2:=ah (vG.out.keep hb2)
    have HR2:=ah (HR1.out.keep hb2)
    have PL:=ah (aj Ow.out hb2 (bg Ow.out).1)
    clear vG HR1 Ow hb2 k0 k1 k2 k3
    cases hT:(ws.take i).any (fun x=>decide (x.key=wk))with
    | true=>
     have eO:Hid (r=(b0,mK,7)):=ah (by
      rw[Og.out,sQ.out,HDR.out,qC sS.out hT]
      rfl)
     clear hT
     obtain⟨r0,r1,r2,r3,_⟩:=ay HG2.out.k5
     simp only[Sv.v]at r0 r1 r2 r3
     obtain⟨s0,s1,s2,s3,_⟩:=ay HG2.out.k10
     obtain⟨m0,m1,m2,m3,m4,m5,m6,_⟩:=aB HG2.out.k11
     have f0:=aA HG2.out.k10 0
     have f1:=aA HG2.out.k10 1
     have f2:=aA HG2.out.k10 2
     have f3:=aA HG2.out.k10 3
     have g0:=ak HG2.out.k11 0
     have g1:=ak HG2.out.k11 1
     have g2:=ak HG2.out.k11 2
     have g3:=ak HG2.out.k11 3
     have g4:=ak HG2.out.k11 4
     have g5:=ak HG2.out.k11 5
     have g6:=ak HG2.out.k11 6
     go_wp2
     refine bodyPost_ret (v:=.tuple #[.agg #[.slice ga gn gc,.slice ha h_n hc,.slice ia dz ic,.slice ja jn jc],.agg #[.int .i64 0,.int .i64 0,.int .i64 0,.int .i64 0,.slice none 0 0,.slice none 0 0,.slice none 0 0],.int .i64 7]) (by simp[results,Tryz.results26,go_sem, *]) rfl (show lJ _ _ _ _ _ from ?_)
     have hbf:=zo (kS HG2.out.aZ (p:=w.heap.size+1) (by omega) (.slice ga gn gc) (.slice ha h_n hc) (.slice ia dz ic) (.slice ja jn jc)) (p:=w.heap.size+1+1) (by omega) (.int .i64 0) (.int .i64 0) (.int .i64 0) (.int .i64 0) (.slice none 0 0) (.slice none 0 0) (.slice none 0 0)
     rw[eO.out]
     exact⟨⟨⟨ga,gn,gc⟩,⟨ha,h_n,hc⟩,⟨ia,dz,ic⟩,⟨ja,jn,jc⟩⟩,rD,rfl,⟨_,aC _,Rb.old HX0.out (hw.trans (hbf.mono hw.size))⟩,gX _ _,hbf⟩
    | false=>
     have HT:=ah hT
     clear hT
     obtain⟨d0,d1,d2,d3,_⟩:=ay HG2.out.k13
     obtain⟨e0,e1,e2,e3,e4,e5,e6,_⟩:=aB HG2.out.k14
     obtain⟨k0,k1,k2,k3,_⟩:=ay PL.out
     simp only[Sv.v]at d0 d1 d2 d3 e4 e5 e6
     go_wp2_with fail
     refine(Jd fI ⟨⟨ca,cn,cc⟩,⟨fa,aX,fc⟩,⟨la,ln,lc⟩,⟨ba,b_n,bc⟩⟩ b ⟨y1,y2,y3,y4,⟨y5,y6,y7⟩,⟨y8,y9,bW⟩,⟨bX,cB,y13⟩⟩ l ⟨wk,wu,wd,wi⟩ W2 HR2.out (V_.out.aaM H0.out (by omega) HT.out)).mono ?_
     rintro e W3 ⟨⟨⟨oa,on,oc⟩,⟨pa,pn,pc⟩,⟨qa,qn,qc⟩,⟨ra,rn,rc⟩⟩,⟨z1,z2,z3,z4,⟨z5,z6,z7⟩,⟨z8,z9,dD⟩,⟨dI,z12,dJ⟩⟩,rfl,hb3,hok⟩
     have oP:=ah hok
     have hG3:=HG2.out.keep hb3
     clear hok d0 d1 d2 d3 e0 e1 e2 e3 e4 e5 e6 k0 k1 k2 k3 HR2 PL
     go_upto_region 15 with fail
     obtain⟨W4,Yk,k17,k18,hb4,jT⟩:∃W4,((W3.alloc (.cells #[.slice oa on oc,.slice pa pn pc,.slice qa qn qc,.slice ra rn rc] 30)).alloc (.cells #[.int .i64 z1,.int .i64 z2,.int .i64 z3,.int .i64 z4,.slice z5 z6 z7,.slice z8 z9 dD,.slice dI z12 dJ] 48))=W4∧W4.heap[W3.heap.size]? =some (.cells #[.slice oa on oc,.slice pa pn pc,.slice qa qn qc,.slice ra rn rc] 30 (0,0))∧W4.heap[W3.heap.size+1]? =some (.cells #[.int .i64 z1,.int .i64 z2,.int .i64 z3,.int .i64 z4,.slice z5 z6 z7,.slice z8 z9 dD,.slice dI z12 dJ] 48 (0,0))∧Below W3.heap.size W3 W4∧W4.heap.size=W3.heap.size+2:=⟨_,rfl,bJ _ _ _,bE _ _ _,((aL _ _).alloc (aC _) _).alloc (by simp) _,by simp⟩
     rw[Yk]
     have rJ:=ah (hG3.keep hb4)
     have Wh:=ah k17
     have Wi:=ah k18
     have Wj:=(bg hG3.k13).1
     have Wl:=(bg hG3.k14).1
     clear Yk k17 k18 HG2 jT hb3 hG3
     by_cases he:dB b ⟨wk,wu,wd,wi⟩=0
     ·have Wm:=ah ((oP.out he).keep hb4)
      have aaN:=ah (V_.out.step he)
      have aaO:Hid (bD b0 (newL dev ep un) [] ws=bD (gy b ⟨wk,wu,wd,wi⟩) (iE b l ⟨wk,wu,wd,wi⟩) (ws.take (i+1)) (ws.drop (i+1))):=ah (by
       rw[sQ.out,HDR.out,Kr.out]
       exact qD (by rw[HT.out];simp) he)
      rw[he]
      clear hb4 oP sQ V_
      generalize W3.heap.size=vV at*
      go_upto_region 17 with fail
      have yC:=ah (rJ.out.keep (aL _ _).drew)
      have vE:=ah (Wm.out.keep (aL _ _).drew)
      have Wo:W4.drew.heap[vV]? =some (.cells #[.slice oa on oc,.slice pa pn pc,.slice qa qn qc,.slice ra rn rc] 30 (0,0)):=Wh.out
      have Wp:W4.drew.heap[vV+1]? =some (.cells #[.int .i64 z1,.int .i64 z2,.int .i64 z3,.int .i64 z4,.slice z5 z6 z7,.slice z8 z9 dD,.slice dI z12 dJ] 48 (0,0)):=Wi.out
      have aaP:=ah Wo
      have aaQ:=ah Wp
      clear Wo Wp rJ Wm Wh Wi
      refine aS 3 (dR vV (vV+1) W4.drew) (by kernel_rfl) ?_
      have hS0:dR vV (vV+1) W4.drew W4.drew:=⟨rfl,rfl⟩
      generalize W4.drew=Wd at*
      refine aD (i:=0) (v:=.agg #[.slice oa on oc,.slice pa pn pc,.slice qa qn qc,.slice ra rn rc]) rfl rfl (by kernel_rfl) (by kernel_rfl) (by kernel_rfl) (by kernel_rfl) (by kernel_rfl) (by decide) (fun _ _ _ h=>h) (.inl ⟨rfl,fun w' hw=>?_⟩) hS0 ?_
      ·obtain⟨a0,a1,a2,a3,_⟩:=ay (hw.1.trans aaP.out)
       go_simp
      refine aD (i:=1) (v:=.agg #[.int .i64 z1,.int .i64 z2,.int .i64 z3,.int .i64 z4,.slice z5 z6 z7,.slice z8 z9 dD,.slice dI z12 dJ]) rfl rfl (by kernel_rfl) (by kernel_rfl) (by kernel_rfl) (by kernel_rfl) (by kernel_rfl) (by decide) (fun _ _ _ h=>h) (.inl ⟨rfl,fun w' hw=>?_⟩) hS0 ?_
      ·obtain⟨b0,b1,b2,b3,b4,b5,b6,_⟩:=aB (hw.2.trans aaQ.out)
       go_simp
      obtain⟨a0,a1,a2,a3,_⟩:=ay yC.out.k13
      have f0:=aA yC.out.k13 0
      have f1:=aA yC.out.k13 1
      have f2:=aA yC.out.k13 2
      have f3:=aA yC.out.k13 3
      simp only[Sv.v]at a0 a1 a2 a3
      have yQ:Hid (∀c,c≠gP→((((Wd.setCell ⟨gP,0,none⟩ (.slice oa on oc)).setCell ⟨gP,1,none⟩ (.slice pa pn pc)).setCell ⟨gP,2,none⟩ (.slice qa qn qc)).setCell ⟨gP,3,none⟩ (.slice ra rn rc)).heap[c]? =Wd.heap[c]?):=ah (fun c hc=>bF Wd gP c (fun e=>hc e.symm) _ _ _ _ 0 1 2 3)
      have vS:Hid (Below w.heap.size w ((((Wd.setCell ⟨gP,0,none⟩ (.slice oa on oc)).setCell ⟨gP,1,none⟩ (.slice pa pn pc)).setCell ⟨gP,2,none⟩ (.slice qa qn qc)).setCell ⟨gP,3,none⟩ (.slice ra rn rc))):=ah (kS yC.out.aZ (by omega) _ _ _ _)
      have uN:=ah (yC.out.LA (x':=⟨⟨oa,on,oc⟩,⟨pa,pn,pc⟩,⟨qa,qn,qc⟩,⟨ra,rn,rc⟩⟩) vS.out yQ.out (by
       have h6:=yC.out.k13
       simp[World.setCell,Array.getElem?_modify,h6]))
      have HR5:=ah (vE.out.other (hw.trans (vS.out.mono hw.size)) yQ.out yC.out.k13 (by decide) (by decide) (by decide))
      refine aF (i:=2) (by kernel_rfl) rfl rfl ?_
      go_simp
      generalize ((((Wd.setCell ⟨gP,0,none⟩ (.slice oa on oc)).setCell ⟨gP,1,none⟩ (.slice pa pn pc)).setCell ⟨gP,2,none⟩ (.slice qa qn qc)).setCell ⟨gP,3,none⟩ (.slice ra rn rc))=W5 at*
      have hS5:dR vV (vV+1) Wd W5:=⟨yQ.out _ (by omega),yQ.out _ (by omega)⟩
      first | refine⟨hS5,?_⟩ | skip
      clear a0 a1 a2 a3 f0 f1 f2 f3 yC vE
      obtain⟨b0',b1,b2,b3,b4,b5,b6,_⟩:=aB uN.out.k14
      simp only[Sv.v]at b4 b5 b6
      have g0:=ak uN.out.k14 0
      have g1:=ak uN.out.k14 1
      have g2:=ak uN.out.k14 2
      have g3:=ak uN.out.k14 3
      have g4:=ak uN.out.k14 4
      have g5:=ak uN.out.k14 5
      have g6:=ak uN.out.k14 6
      have wP:Hid (∀c,c≠gJ→(((((((W5.setCell ⟨gJ,0,none⟩ (.int .i64 z1)).setCell ⟨gJ,1,none⟩ (.int .i64 z2)).setCell ⟨gJ,2,none⟩ (.int .i64 z3)).setCell ⟨gJ,3,none⟩ (.int .i64 z4)).setCell ⟨gJ,4,none⟩ (.slice z5 z6 z7)).setCell ⟨gJ,5,none⟩ (.slice z8 z9 dD)).setCell ⟨gJ,6,none⟩ (.slice dI z12 dJ)).heap[c]? =W5.heap[c]?):=ah (fun c hc=>jf W5 gJ c hc _ _ _ _ _ _ _)
      have Ec:Hid (Below w.heap.size w (((((((W5.setCell ⟨gJ,0,none⟩ (.int .i64 z1)).setCell ⟨gJ,1,none⟩ (.int .i64 z2)).setCell ⟨gJ,2,none⟩ (.int .i64 z3)).setCell ⟨gJ,3,none⟩ (.int .i64 z4)).setCell ⟨gJ,4,none⟩ (.slice z5 z6 z7)).setCell ⟨gJ,5,none⟩ (.slice z8 z9 dD)).setCell ⟨gJ,6,none⟩ (.slice dI z12 dJ))):=ah (zo vS.out (by omega) _ _ _ _ _ _ _)
      have DC:=ah (uN.out.RH (y':=⟨z1,z2,z3,z4,⟨z5,z6,z7⟩,⟨z8,z9,dD⟩,⟨dI,z12,dJ⟩⟩) Ec.out wP.out (mV uN.out.k14 _ _ _ _ _ _ _))
      have TY:=ah (HR5.out.other (hw.trans (Ec.out.mono hw.size)) wP.out uN.out.k14 (by decide) (by decide) (by decide))
      refine aF (i:=3) (by kernel_rfl) rfl rfl ?_
      go_simp
      generalize (((((((W5.setCell ⟨gJ,0,none⟩ (.int .i64 z1)).setCell ⟨gJ,1,none⟩ (.int .i64 z2)).setCell ⟨gJ,2,none⟩ (.int .i64 z3)).setCell ⟨gJ,3,none⟩ (.int .i64 z4)).setCell ⟨gJ,4,none⟩ (.slice z5 z6 z7)).setCell ⟨gJ,5,none⟩ (.slice z8 z9 dD)).setCell ⟨gJ,6,none⟩ (.slice dI z12 dJ))=W6 at*
      refine aT (by kernel_rfl) ?_
      clear b0' b1 b2 b3 b4 b5 b6 g0 g1 g2 g3 g4 g5 g6 uN HR5
      go_wp2
      go_roundw
      case rel=>exact⟨i+1,⟨⟨oa,on,oc⟩,⟨pa,pn,pc⟩,⟨qa,qn,qc⟩,⟨ra,rn,rc⟩⟩,⟨z1,z2,z3,z4,⟨z5,z6,z7⟩,⟨z8,z9,dD⟩,⟨dI,z12,dJ⟩⟩,_,_,by omega,by go_num,DC.out,TY.out,by rw[Kr.out];exact aaN.out,aaO.out⟩
      case measure=>simp[intOf];omega
     ·have eO:Hid (r=(b0,mK,dB b ⟨wk,wu,wd,wi⟩)):=ah (by
       rw[Og.out,sQ.out,HDR.out,lZ (by rw[HT.out];simp) he]
       exact if_neg he)
      have hne:(dB b ⟨wk,wu,wd,wi⟩ != 0)=true:=by simpa using he
      clear hb4 oP sQ V_
      generalize dB b ⟨wk,wu,wd,wi⟩=ee at*
      obtain⟨r0,r1,r2,r3,_⟩:=ay rJ.out.k5
      simp only[Sv.v]at r0 r1 r2 r3
      obtain⟨s0,s1,s2,s3,_⟩:=ay rJ.out.k10
      obtain⟨m0,m1,m2,m3,m4,m5,m6,_⟩:=aB rJ.out.k11
      have f0:=aA rJ.out.k10 0
      have f1:=aA rJ.out.k10 1
      have f2:=aA rJ.out.k10 2
      have f3:=aA rJ.out.k10 3
      have g0:=ak rJ.out.k11 0
      have g1:=ak rJ.out.k11 1
      have g2:=ak rJ.out.k11 2
      have g3:=ak rJ.out.k11 3
      have g4:=ak rJ.out.k11 4
      have g5:=ak rJ.out.k11 5
      have g6:=ak rJ.out.k11 6
      go_wp2
      refine bodyPost_ret (v:=.tuple #[.agg #[.slice ga gn gc,.slice ha h_n hc,.slice ia dz ic,.slice ja jn jc],.agg #[.int .i64 0,.int .i64 0,.int .i64 0,.int .i64 0,.slice none 0 0,.slice none 0 0,.slice none 0 0],.int .i64 ee]) (by simp[results,Tryz.results26,go_sem, *]) rfl (show lJ _ _ _ _ _ from ?_)
      have hbf:=zo (kS rJ.out.aZ (p:=w.heap.size+1) (by omega) (.slice ga gn gc) (.slice ha h_n hc) (.slice ia dz ic) (.slice ja jn jc)) (p:=w.heap.size+1+1) (by omega) (.int .i64 0) (.int .i64 0) (.int .i64 0) (.int .i64 0) (.slice none 0 0) (.slice none 0 0) (.slice none 0 0)
      rw[eO.out]
      exact⟨⟨⟨ga,gn,gc⟩,⟨ha,h_n,hc⟩,⟨ia,dz,ic⟩,⟨ja,jn,jc⟩⟩,rD,rfl,⟨_,aC _,Rb.old HX0.out (hw.trans (hbf.mono hw.size))⟩,gX _ _,hbf⟩
  ·have hie:i=ws.length:=by omega
   have Pk:¬ (i:Int)<ws.length:=by omega
   have HE:=ah hie
   clear hie
   go_wp2
   go_meet
   have h1:=V_.out
   have h2:=sQ.out
   rw[HE.out]at h1 h2
   rw[List.take_length]at h1 h2
   rw[List.drop_length]at h2
   exact⟨X,Y,b,l,j5.out,HRR.out,h1,h2⟩
end Go.Proofs.YtlfopoimbbpfdaaGreat
namespace Go.Proofs.YtlfopoimbbpfdaaGreat
open Go.RowKit
attribute [local go_sem ↓] Go.wp_at_zero Go.wp_at_succ
theorem LH (ls:List Ls) (d:Int):(ls.any (fun l=>decide (l.dev=d))=true↔0≤jG ls d):=by
 rcases bQ (fun c:Ls=>decide (c.dev=d)) ls with⟨hi,hn⟩ | ⟨k,hk,hi,hp,_⟩
 ·have e:jG ls d= -1:=hi
  constructor
  ·intro h
   obtain⟨x,hx,hd⟩:=List.any_eq_true.1 h
   have:=hn x hx
   rw[hd]at this
   cases this
  ·intro h;omega
 ·have e:jG ls d=k:=hi
  exact⟨fun _=>by omega,fun _=>List.any_eq_true.2 ⟨_,List.getElem_mem hk,hp⟩⟩
set_option maxRecDepth 100000 in
set_option maxHeartbeats 8000000 in
theorem Fj (fI:World) (x0:bZ) (b0:Bk) (dev ep un:Int) (v:Value) (ws:List Wn) (w:World) (hw:Below fI.heap.size fI w) (h:eD fI x0 b0) (h0:RI b0) (hv:oH w v ws):
  Calls Tryz.prog 26 #[fT x0,.int .i64 dev,.int .i64 ep,.int .i64 un,v] w (lJ fI w (fM b0 dev ep un ws)):=by
 obtain⟨⟨ga,gn,gc⟩,⟨ha,h_n,hc⟩,⟨ia,dz,ic⟩,⟨ja,jn,jc⟩⟩:=x0
 obtain⟨va,vc,rfl,hvc,hvm⟩:=Sl.shape hv
 have hwl:ws.length≤9223372036854775807:=Nat.le_trans hvc hvm
 obtain⟨W3,hW3,k0,k1,k2,hb,hz⟩:=t_ w (.cells #[.slice ga gn gc,.slice ha h_n hc,.slice ia dz ic,.slice ja jn jc] 30) (.cells #[.slice none 0 0,.slice none 0 0,.slice none 0 0,.slice none 0 0] 30) (.cells #[.int .i64 0,.int .i64 0,.int .i64 0,.int .i64 0,.slice none 0 0,.slice none 0 0,.slice none 0 0] 48)
 have HX0:=ah h
 have H0:=ah h0
 have HV:=ah hv
 have HK:=ah (And.intro k0 (And.intro k1 k2))
 have HB3:=ah hb
 have HW3:=ah hW3
 clear h h0 hv k0 k1 k2 hb hW3
 obtain⟨r,hr⟩:∃r,r=fM b0 dev ep un ws:=⟨_,rfl⟩
 rw[←hr]
 have HR:=ah hr
 clear hr
 change Calls Tryz.prog _ #[.agg #[.slice ga gn gc,.slice ha h_n hc,.slice ia dz ic,.slice ja jn jc],.int .i64 dev,.int .i64 ep,.int .i64 un,.slice va ws.length vc] w _
 go_enter Tryz.func26,Tryz.ntmps26
 go_upto_region 1 with fail
 rw[HW3.out]
 go_cut[48] (fun v48 wx=>v48= .bool (!(ku dev ep un ws.length))∧wx=W3)
 case first=>
  go_wp2
  all_goals go_meet
  all_goals
   refine⟨congrArg Value.bool ?_,rfl⟩
   unfold ku
   rw[Bool.eq_iff_iff]
   try simp
   try omega
 case rest=>
 obtain⟨rfl,hwc⟩:=hcut
 rw[hwc]
 clear hwc HW3
 have Gc:Hid (∀gP gJ V X Y,Below W3.heap.size W3 V→V.heap[gP]? =some (.cells #[X.c.v,X.f.v,X.l.v,X.b.v] 30 (0,0))→V.heap[gJ]? =some (.cells #[.int .i64 Y.dev,.int .i64 Y.epoch,.int .i64 Y.bY,.int .i64 Y.last,Y.s.v,Y.i.v,Y.u.v] 48 (0,0))→W3.heap.size≤gP→W3.heap.size≤gJ→Gs gP gJ w V ⟨⟨ga,gn,gc⟩,⟨ha,h_n,hc⟩,⟨ia,dz,ic⟩,⟨ja,jn,jc⟩⟩ X Y):=ah (fun gP gJ V X Y hV Lv Lx hp hq=>
  ⟨HB3.out.trans (hV.mono HB3.out.size),aj HK.out.1 hV (by omega),aj HK.out.2.1 hV (by omega),aj HK.out.2.2 hV (by omega),Lv,Lx,by omega,by omega⟩)
 cases hA:ku dev ep un ws.length with
 | false=>
  have eO:Hid (r=(b0,mK,1)):=ah (by rw[HR.out];unfold fM;rw[if_pos hA])
  obtain⟨r0,r1,r2,r3,_⟩:=ay HK.out.1
  obtain⟨s0,s1,s2,s3,_⟩:=ay HK.out.2.1
  obtain⟨m0,m1,m2,m3,m4,m5,m6,_⟩:=aB HK.out.2.2
  have f0:=aA HK.out.2.1 0
  have f1:=aA HK.out.2.1 1
  have f2:=aA HK.out.2.1 2
  have f3:=aA HK.out.2.1 3
  have g0:=ak HK.out.2.2 0
  have g1:=ak HK.out.2.2 1
  have g2:=ak HK.out.2.2 2
  have g3:=ak HK.out.2.2 3
  have g4:=ak HK.out.2.2 4
  have g5:=ak HK.out.2.2 5
  have g6:=ak HK.out.2.2 6
  go_wp2
  refine bodyPost_ret (v:=.tuple #[.agg #[.slice ga gn gc,.slice ha h_n hc,.slice ia dz ic,.slice ja jn jc],.agg #[.int .i64 0,.int .i64 0,.int .i64 0,.int .i64 0,.slice none 0 0,.slice none 0 0,.slice none 0 0],.int .i64 1]) (by simp[results,Tryz.results26,go_sem, *]) rfl (show lJ _ _ _ _ _ from ?_)
  have hbf:=zo (kS HB3.out (p:=w.heap.size+1) (by omega) (.slice ga gn gc) (.slice ha h_n hc) (.slice ia dz ic) (.slice ja jn jc)) (p:=w.heap.size+1+1) (by omega) (.int .i64 0) (.int .i64 0) (.int .i64 0) (.int .i64 0) (.slice none 0 0) (.slice none 0 0) (.slice none 0 0)
  rw[eO.out]
  exact⟨⟨⟨ga,gn,gc⟩,⟨ha,h_n,hc⟩,⟨ia,dz,ic⟩,⟨ja,jn,jc⟩⟩,rD,rfl,⟨_,aC _,Rb.old HX0.out (hw.trans (hbf.mono hw.size))⟩,gX _ _,hbf⟩
 | true=>
  have HA:=ah hA
  clear hA
  obtain⟨r0,r1,r2,r3,_⟩:=ay HK.out.1
  go_wp2_with fail
  refine(vN ⟨⟨ga,gn,gc⟩,⟨ha,h_n,hc⟩,⟨ia,dz,ic⟩,⟨ja,jn,jc⟩⟩ b0.ls dev W3 (HX0.out.l.keep (hw.trans (HB3.out.mono hw.size)) (aC _))).mono ?_
  rintro e W4 ⟨rfl,hb4⟩
  have jd:=ah hb4
  have hk4:=aj HK.out.1 hb4 (by omega)
  have Fp:=aj HK.out.2.1 hb4 (by omega)
  have zq:=aj HK.out.2.2 hb4 (by omega)
  have jR:=HB3.out.trans (hb4.mono HB3.out.size)
  have jT:=hb4.size
  clear r0 r1 r2 r3 hb4
  obtain⟨r0,r1,r2,r3,_⟩:=ay hk4
  by_cases hd:0≤jG b0.ls dev
  ·have eO:Hid (r=(b0,mK,19)):=ah (by
    rw[HR.out]
    unfold fM
    rw[if_neg (by rw[HA.out];simp),if_pos ((LH _ _).2 hd)])
   obtain⟨s0,s1,s2,s3,_⟩:=ay Fp
   obtain⟨m0,m1,m2,m3,m4,m5,m6,_⟩:=aB zq
   have f0:=aA Fp 0
   have f1:=aA Fp 1
   have f2:=aA Fp 2
   have f3:=aA Fp 3
   have g0:=ak zq 0
   have g1:=ak zq 1
   have g2:=ak zq 2
   have g3:=ak zq 3
   have g4:=ak zq 4
   have g5:=ak zq 5
   have g6:=ak zq 6
   clear hk4 Fp zq
   go_wp2
   refine bodyPost_ret (v:=.tuple #[.agg #[.slice ga gn gc,.slice ha h_n hc,.slice ia dz ic,.slice ja jn jc],.agg #[.int .i64 0,.int .i64 0,.int .i64 0,.int .i64 0,.slice none 0 0,.slice none 0 0,.slice none 0 0],.int .i64 19]) (by simp[results,Tryz.results26,go_sem, *]) rfl (show lJ _ _ _ _ _ from ?_)
   have hbf:=zo (kS jR (p:=w.heap.size+1) (by omega) (.slice ga gn gc) (.slice ha h_n hc) (.slice ia dz ic) (.slice ja jn jc)) (p:=w.heap.size+1+1) (by omega) (.int .i64 0) (.int .i64 0) (.int .i64 0) (.int .i64 0) (.slice none 0 0) (.slice none 0 0) (.slice none 0 0)
   rw[eO.out]
   exact⟨⟨⟨ga,gn,gc⟩,⟨ha,h_n,hc⟩,⟨ia,dz,ic⟩,⟨ja,jn,jc⟩⟩,rD,rfl,⟨_,aC _,Rb.old HX0.out (hw.trans (hbf.mono hw.size))⟩,gX _ _,hbf⟩
  ·have HN:Hid (¬b0.ls.any (fun l=>decide (l.dev=dev))=true):=ah (fun h=>hd ((LH _ _).1 h))
   have eO:Hid (r=if (bD b0 (newL dev ep un) [] ws).2.2=0 then(⟨(bD b0 (newL dev ep un) [] ws).1.cs,(bD b0 (newL dev ep un) [] ws).1.free,og (bD b0 (newL dev ep un) [] ws).2.1 (bD b0 (newL dev ep un) [] ws).1.ls,(bD b0 (newL dev ep un) [] ws).1.bound⟩,(bD b0 (newL dev ep un) [] ws).2.1,0)else(b0,mK,(bD b0 (newL dev ep un) [] ws).2.2)):=ah (by
    rw[HR.out]
    unfold fM
    rw[if_neg (by rw[HA.out];simp),if_neg HN.out])
   have UQ:ws.length≤5:=by
    have:=HA.out
    unfold ku at this
    simp at this
    omega
   clear HR HN
   clear hk4 Fp zq
   go_upto_region 5 with fail
   go_cut[13,14] (fun v13 v14 wx=>∃gP gJ,v13= .pointer (some ⟨gP,0,none⟩)∧v14= .pointer (some ⟨gJ,0,none⟩)∧Gs gP gJ w wx ⟨⟨ga,gn,gc⟩,⟨ha,h_n,hc⟩,⟨ia,dz,ic⟩,⟨ja,jn,jc⟩⟩ ⟨⟨ga,gn,gc⟩,⟨ha,h_n,hc⟩,⟨ia,dz,ic⟩,⟨ja,jn,jc⟩⟩ ⟨dev,ep,un,-1,⟨none,0,0⟩,⟨none,0,0⟩,⟨none,0,0⟩⟩)
   case first=>
    go_wp2
    go_meet
    have hb5:Below W4.heap.size W4 ((W4.alloc (.cells #[.slice ga gn gc,.slice ha h_n hc,.slice ia dz ic,.slice ja jn jc] 30)).alloc (.cells #[.int .i64 dev,.int .i64 ep,.int .i64 un,.int .i64 (-1),.slice none 0 0,.slice none 0 0,.slice none 0 0] 48)):=((aL _ _).alloc (aC _) _).alloc (by simp) _
    exact⟨W4.heap.size,W4.heap.size+1,rfl,rfl,Gc.out _ _ _ ⟨⟨ga,gn,gc⟩,⟨ha,h_n,hc⟩,⟨ia,dz,ic⟩,⟨ja,jn,jc⟩⟩ ⟨dev,ep,un,-1,⟨none,0,0⟩,⟨none,0,0⟩,⟨none,0,0⟩⟩ (jd.out.trans (hb5.mono jT)) (bJ _ _ _) (bE _ _ _) jT (by omega)⟩
   case rest=>
   obtain⟨gP,gJ,rfl,rfl,hg⟩:=hcut
   go_step
   exact DI fI w _ hw gP gJ dev ep un va _ vc ws b0 _ hg HX0.out HV.out H0.out UQ r eO.out _ _ _ _ _ _ _ _ _ _ _ _ _ _ _ _ _ _ _ _ _ _ _ _ _ _ _ _ _ _ _ _ _ _ _ _ _ _ _ _ _ _ _ _ _ _ _ _ _ _ _ _ _ _ _ _ _ _ _ _ _ _ _ _ _ _ _ _ _ _ _ _ _ _ _ _ _ _ _ _ _ _ _ _ _ _ _ _ _ _ _ _ _ _ _ _ _ _ _ _ _ _ _ _ _ _ _ _ _ _ _ _ _ _ _ _ _ _ _ _ _ _ _ _ _ _ _ _ _ _ _ _ _ _ _ _ _ _ _ _ _ _ _ _ _ _ _ _ _ _ _ _ _ rfl
end Go.Proofs.YtlfopoimbbpfdaaGreat
