/- What the law asks, in parts: Bd Be. -/
import Derived.Deep.DrawnRows
import Derived.Test.YtlfopoimbbpfdaaGreatPk34
import Derived.Test.YtlfopoimbbpfdaaGreatPk3
import Derived.Test.YtlfopoimbbpfdaaGreatPk15
set_option linter.all false
namespace Go.Proofs.YtlfopoimbbpfdaaGreat
open Go.RowKit
attribute [local go_sem ↓] Go.wp_at_zero Go.wp_at_succ
set_option maxRecDepth 100000 in
set_option maxHeartbeats 8000000 in
theorem Ml (w W:World) (x:ow) (ya yb:bZ) (yl ym:bV) (b:Bk) (l:Ls) (o:pO) (nR iF p25 Bm:Nat) (h:Dq w W x ya yb) (hya:eD w ya b) (hyb:eD w yb b) (hk:W.heap[iF]? =some (.cells #[.int .i64 yl.dev,.int .i64 yl.epoch,.int .i64 yl.bY,.int .i64 yl.last,yl.s.v,yl.i.v,yl.u.v] 48 (0,0))) (hl:W.heap[p25]? =some (.cells #[.int .i64 ym.dev,.int .i64 ym.epoch,.int .i64 ym.bY,.int .i64 ym.last,ym.s.v,ym.i.v,ym.u.v] 48 (0,0))) (ho:W.heap[nR]? =some (.cells #[.int .i64 o.dev,.int .i64 o.epoch,.int .i64 o.seq,.int .i64 o.coll,.int .i64 o.ver,.int .i64 o.kind,.string o.key,.string o.text,.int .i64 o.n,.int .i64 o.time,o.dots.v] 38 (0,0))) (hyl:lW W yl l) (hym:iC W Bm ym l) (h23:iF<Bm) (Xb:iF<p25) (Xc:w.heap.size+1+1+1+1<iF) (hB:zN b) (hS:NS l o.kind o.n) (hE:dM l o.kind o.key o.n=bN l o.kind o.key o.n) (hP:kC b (bN l o.kind o.key o.n).1=kR b (bN l o.kind o.key o.n).1) (hL2:wJ (bN l o.kind o.key o.n).1) (b2:Bk) (hb2:b2=if (bN l o.kind o.key o.n).2=0 then(kR b (bN l o.kind o.key o.n).1).1 else b) (u0 u1 u2 u8 u9 u10 u11 u13 u14 u15 u16 u17 u18 u19 u20 u21 u22 u24 u26 u27 u28 u29 u30 u31 u32 u33 u34 u35 u36 u37 u38 u39 u40 u41 u42 u43 u44 u45 u46 u47 u48 u49 u50 u51 u52 u53 u54 u55 u56 u57 u58 u59 u60 u61 u62 u63 u64 u65 u66 u67 u68 u69 u70 u71 u72 u73 u74 u75 u76 u77 u78 u79 u80 u81 u82 u83 u84 u85 u86 u87 u88 u89 u90 u91 u92 u93 u94 u95 u96 u97 u98 u99 u100 u101 u102 u103 u104 u105 u106 u107 u108 u109 u110 u111 u112 u113 u114 u115 u116 u117 u118 u119 u120 u121 u122 u123 u124 u125 u126 u127 u128 u129 u130 u131 u132 u133 u134 u135 u136 u137 u138 u139 u140 u141 u142 u143 u144 u145 u146 u147 u148 u149 u150 u151 u152 u153 u154 u155 u156 u157 u158 u159 u160 u161 u162 u163 u164 u165 u166 u167 u168 u169 u170 u171 u172 u173 u174 u175 u176 u177 u178 u179 u180 u181 u182 u183 u184 u185 u186 u187 u188 u189 u190 u191 u192 u193 u194 u195 u196 u197 u198 u199 u200 u201 u202 u203 u204 u205 u206 u207 u208 u209 u210 u211 u212 u213 u214 u215 u216 u217 u218 u219 u220 u221 u222 u223 u224 u225 u226 u227 u228 u229 u230 u231 u232 u233 u234 u235 u236 u237 u238:Value):
  ∀c,Tryz.f10.body.bind (spine 10)=some c→Code.wp Tryz.prog c (bodyPost Tryz.prog Tryz.f10 (nD w b2)) ⟨#[u0,u1,u2,.pointer (some ⟨w.heap.size,0,none⟩),.pointer (some ⟨w.heap.size+1,0,none⟩),.pointer (some ⟨w.heap.size+1+1,0,none⟩),.pointer (some ⟨w.heap.size+1+1+1,0,none⟩),.pointer (some ⟨w.heap.size+1+1+1+1,0,none⟩),u8,u9,u10,u11,.pointer (some ⟨nR,0,none⟩),u13,u14,u15,u16,u17,u18,u19,u20,u21,u22,.pointer (some ⟨iF,0,none⟩),u24,.pointer (some ⟨p25,0,none⟩),u26,u27,u28,u29,u30,u31,u32,u33,u34,u35,u36,u37,u38,u39,u40,u41,u42,u43,u44,u45,u46,u47,u48,u49,u50,u51,u52,u53,u54,u55,u56,u57,u58,u59,u60,u61,u62,u63,u64,u65,u66,u67,u68,u69,u70,u71,u72,u73,u74,u75,u76,u77,u78,u79,u80,u81,u82,u83,u84,u85,u86,u87,u88,u89,u90,u91,u92,u93,u94,u95,u96,u97,u98,u99,u100,u101,u102,u103,u104,u105,u106,u107,u108,u109,u110,u111,u112,u113,u114,u115,u116,u117,u118,u119,u120,u121,u122,u123,u124,u125,u126,u127,u128,u129,u130,u131,u132,u133,u134,u135,u136,u137,u138,u139,u140,u141,u142,u143,u144,u145,u146,u147,u148,u149,u150,u151,u152,u153,u154,u155,u156,u157,u158,u159,u160,u161,u162,u163,u164,u165,u166,u167,u168,u169,u170,u171,u172,u173,u174,u175,u176,u177,u178,u179,u180,u181,u182,u183,u184,u185,u186,u187,u188,u189,u190,u191,u192,u193,u194,u195,u196,u197,u198,u199,u200,u201,u202,u203,u204,u205,u206,u207,u208,u209,u210,u211,u212,u213,u214,u215,u216,u217,u218,u219,u220,u221,u222,u223,u224,u225,u226,u227,u228,u229,u230,u231,u232,u233,u234,u235,u236,u237,u238],[]⟩ W:=by
 refine dH rfl ?_
 obtain⟨⟨ca,cn,cc⟩,⟨fa,aX,fc⟩,⟨la,ln,lc⟩,⟨ba,b_n,bc⟩⟩:=ya
 obtain⟨⟨ga,gn,gc⟩,⟨ha,h_n,hc⟩,⟨ia,dz,ic⟩,⟨ja,jn,jc⟩⟩:=yb
 obtain⟨y1,y2,y3,y4,⟨y5,y6,y7⟩,⟨y8,y9,bW⟩,⟨bX,cB,y13⟩⟩:=yl
 obtain⟨z1,z2,z3,z4,⟨z5,z6,z7⟩,⟨z8,z9,dD⟩,⟨dI,z12,dJ⟩⟩:=ym
 obtain⟨o1,o2,o3,o4,o5,kd,ky,tx,on,tm,⟨oa,dn,oc⟩⟩:=o
 simp only[Sv.v]at hk hl ho
 simp only at hS hE hP hL2 hb2
 have HQ:=ah h
 have jU:=ah hya
 have o_:=ah hyb
 have M_:=ah hyl
 have Gt:=ah hym
 have I9:=ah hk
 have PZ:=ah hl
 have Na:=ah ho
 have HB:=ah hB
 have HS:=ah hS
 have HE:=ah hE
 have HP:=ah (And.intro hP (And.intro hL2 hb2))
 obtain⟨d0,d1,d2,d3,d4,d5,d6,_⟩:=aB hk
 obtain⟨c0,c1,c2,c3,c4,c5,c6,c7,c8,c9,c10,_⟩:=bT ho
 have Xd:=(bg hk).1
 have Xe:=(bg hl).1
 clear h hya hyb hyl hym hk hl ho hB hS hE hP hL2 hb2
 go_wp2_with fail
 refine(Iz ⟨y1,y2,y3,y4,⟨y5,y6,y7⟩,⟨y8,y9,bW⟩,⟨bX,cB,y13⟩⟩ l ⟨o1,o2,o3,o4,o5,kd,ky,tx,on,tm,⟨oa,dn,oc⟩⟩ W M_.out HS.out).mono ?_
 obtain⟨⟨l2,e⟩,hsp⟩:∃r,bN l kd ky on=r:=⟨_,rfl⟩
 simp only
 rw[hsp]at HE HP⊢
 rintro en W2 ⟨⟨v_1,GK,GL,GN,⟨GQ,GR,GU⟩,⟨GV,GX,sI⟩,⟨sJ,sK,sM⟩⟩,rfl,hu2,hb2⟩
 have hk2:=aj I9.out hb2 Xd
 have Xf:=ah (aj PZ.out hb2 Xe)
 have Xg:=ah (aj Na.out hb2 (bg Na.out).1)
 have dO:=ah (HQ.out.keep hb2)
 have Xh:=ah (Gt.out.keep hb2 (aC _))
 have HU2:=ah hu2
 have hs2:=hb2.size
 clear d0 d1 d2 d3 d4 d5 d6 c0 c1 c2 c3 c4 c5 c6 c7 c8 c9 c10 hu2 hb2 M_
 obtain⟨d0,d1,d2,d3,d4,d5,d6,_⟩:=aB hk2
 have g0:=ak hk2 0
 have g1:=ak hk2 1
 have g2:=ak hk2 2
 have g3:=ak hk2 3
 have g4:=ak hk2 4
 have g5:=ak hk2 5
 have g6:=ak hk2 6
 go_upto_region 24 with fail
 clear d0 d1 d2 d3 d4 d5 d6 g0 g1 g2 g3 g4 g5 g6
 have iy:Hid (∀c,c≠iF→(((((((W2.setCell ⟨iF,0,none⟩ (.int .i64 v_1)).setCell ⟨iF,1,none⟩ (.int .i64 GK)).setCell ⟨iF,2,none⟩ (.int .i64 GL)).setCell ⟨iF,3,none⟩ (.int .i64 GN)).setCell ⟨iF,4,none⟩ (.slice GQ GR GU)).setCell ⟨iF,5,none⟩ (.slice GV GX sI)).setCell ⟨iF,6,none⟩ (.slice sJ sK sM)).heap[c]? =W2.heap[c]?):=ah (fun c hc=>jf W2 iF c hc _ _ _ _ _ _ _)
 have Jq:Hid ((((((((W2.setCell ⟨iF,0,none⟩ (.int .i64 v_1)).setCell ⟨iF,1,none⟩ (.int .i64 GK)).setCell ⟨iF,2,none⟩ (.int .i64 GL)).setCell ⟨iF,3,none⟩ (.int .i64 GN)).setCell ⟨iF,4,none⟩ (.slice GQ GR GU)).setCell ⟨iF,5,none⟩ (.slice GV GX sI)).setCell ⟨iF,6,none⟩ (.slice sJ sK sM)).heap[iF]? =some (.cells #[.int .i64 v_1,.int .i64 GK,.int .i64 GL,.int .i64 GN,.slice GQ GR GU,.slice GV GX sI,.slice sJ sK sM] 48 (0,0))):=ah (mV hk2 _ _ _ _ _ _ _)
 have HB3:Hid (Below w.heap.size w (((((((W2.setCell ⟨iF,0,none⟩ (.int .i64 v_1)).setCell ⟨iF,1,none⟩ (.int .i64 GK)).setCell ⟨iF,2,none⟩ (.int .i64 GL)).setCell ⟨iF,3,none⟩ (.int .i64 GN)).setCell ⟨iF,4,none⟩ (.slice GQ GR GU)).setCell ⟨iF,5,none⟩ (.slice GV GX sI)).setCell ⟨iF,6,none⟩ (.slice sJ sK sM))):=ah (zo dO.out.aZ (by omega) _ _ _ _ _ _ _)
 have afU:(((((((W2.setCell ⟨iF,0,none⟩ (.int .i64 v_1)).setCell ⟨iF,1,none⟩ (.int .i64 GK)).setCell ⟨iF,2,none⟩ (.int .i64 GL)).setCell ⟨iF,3,none⟩ (.int .i64 GN)).setCell ⟨iF,4,none⟩ (.slice GQ GR GU)).setCell ⟨iF,5,none⟩ (.slice GV GX sI)).setCell ⟨iF,6,none⟩ (.slice sJ sK sM)).heap.size=W2.heap.size:=by simp
 have HU3:Hid (iC (((((((W2.setCell ⟨iF,0,none⟩ (.int .i64 v_1)).setCell ⟨iF,1,none⟩ (.int .i64 GK)).setCell ⟨iF,2,none⟩ (.int .i64 GL)).setCell ⟨iF,3,none⟩ (.int .i64 GN)).setCell ⟨iF,4,none⟩ (.slice GQ GR GU)).setCell ⟨iF,5,none⟩ (.slice GV GX sI)).setCell ⟨iF,6,none⟩ (.slice sJ sK sM)) W.heap.size ⟨v_1,GK,GL,GN,⟨GQ,GR,GU⟩,⟨GV,GX,sI⟩,⟨sJ,sK,sM⟩⟩ l2):=ah (HU2.out.ne iy.out Xd)
 have OJ:Hid (iC (((((((W2.setCell ⟨iF,0,none⟩ (.int .i64 v_1)).setCell ⟨iF,1,none⟩ (.int .i64 GK)).setCell ⟨iF,2,none⟩ (.int .i64 GL)).setCell ⟨iF,3,none⟩ (.int .i64 GN)).setCell ⟨iF,4,none⟩ (.slice GQ GR GU)).setCell ⟨iF,5,none⟩ (.slice GV GX sI)).setCell ⟨iF,6,none⟩ (.slice sJ sK sM)) Bm ⟨z1,z2,z3,z4,⟨z5,z6,z7⟩,⟨z8,z9,dD⟩,⟨dI,z12,dJ⟩⟩ l):=ah (Xh.out.ne iy.out h23)
 clear hk2
 generalize (((((((W2.setCell ⟨iF,0,none⟩ (.int .i64 v_1)).setCell ⟨iF,1,none⟩ (.int .i64 GK)).setCell ⟨iF,2,none⟩ (.int .i64 GL)).setCell ⟨iF,3,none⟩ (.int .i64 GN)).setCell ⟨iF,4,none⟩ (.slice GQ GR GU)).setCell ⟨iF,5,none⟩ (.slice GV GX sI)).setCell ⟨iF,6,none⟩ (.slice sJ sK sM))=W3 at*
 have hq2:=dO.out
 have vR:Hid (Dq w W3 x ⟨⟨ca,cn,cc⟩,⟨fa,aX,fc⟩,⟨la,ln,lc⟩,⟨ba,b_n,bc⟩⟩ ⟨⟨ga,gn,gc⟩,⟨ha,h_n,hc⟩,⟨ia,dz,ic⟩,⟨ja,jn,jc⟩⟩):=ah ⟨HB3.out,(iy.out _ (by omega)).trans hq2.k3,(iy.out _ (by omega)).trans hq2.k4,(iy.out _ (by omega)).trans hq2.k5,(iy.out _ (by omega)).trans hq2.k6,(iy.out _ (by omega)).trans hq2.k7⟩
 have Xi:nR≠iF:=fun e=>by
  have h1:=Na.out
  rw[e,I9.out]at h1
  injection h1 with h1
  injection h1 with _ h1 _
  exact absurd h1 (by decide)
 have hk3:=(iy.out p25 (by omega)).trans Xf.out
 have ho3:=(iy.out nR Xi).trans Xg.out
 have qZ:=ah hk3
 obtain⟨d0,d1,d2,d3,d4,d5,d6,_⟩:=aB hk3
 obtain⟨c0,c1,c2,c3,c4,c5,c6,c7,c8,c9,c10,_⟩:=bT ho3
 clear hq2 hk3 ho3 Xf Xg HU2 Xh dO
 go_wp2_with fail
 refine(EZ ⟨z1,z2,z3,z4,⟨z5,z6,z7⟩,⟨z8,z9,dD⟩,⟨dI,z12,dJ⟩⟩ l ⟨o1,o2,o3,o4,o5,kd,ky,tx,on,tm,⟨oa,dn,oc⟩⟩ W3 OJ.out.m HS.out).mono ?_
 simp only
 rw[HE.out]
 rintro en W4 ⟨⟨x_1,x_2,x_3,Nb,⟨Nc,Nf,Ng⟩,⟨Nh,Ni,zx⟩,⟨zy,zA,zB⟩⟩,rfl,ht4,hb4⟩
 have P6:p25<W3.heap.size:=by omega
 have hk4:=aj qZ.out hb4 P6
 have Xj:=ah (aj Jq.out hb4 (bg Jq.out).1)
 have VE:=ah (vR.out.keep hb4)
 have YC:=ah (HU3.out.keep hb4 (aC _))
 have HT4:=ah ht4
 clear d0 d1 d2 d3 d4 d5 d6 c0 c1 c2 c3 c4 c5 c6 c7 c8 c9 c10 ht4 hb4
 obtain⟨d0,d1,d2,d3,d4,d5,d6,_⟩:=aB hk4
 have g0:=ak hk4 0
 have g1:=ak hk4 1
 have g2:=ak hk4 2
 have g3:=ak hk4 3
 have g4:=ak hk4 4
 have g5:=ak hk4 5
 have g6:=ak hk4 6
 go_upto_region 25 with fail
 clear d0 d1 d2 d3 d4 d5 d6 g0 g1 g2 g3 g4 g5 g6
 have yQ:Hid (∀c,c≠p25→(((((((W4.setCell ⟨p25,0,none⟩ (.int .i64 x_1)).setCell ⟨p25,1,none⟩ (.int .i64 x_2)).setCell ⟨p25,2,none⟩ (.int .i64 x_3)).setCell ⟨p25,3,none⟩ (.int .i64 Nb)).setCell ⟨p25,4,none⟩ (.slice Nc Nf Ng)).setCell ⟨p25,5,none⟩ (.slice Nh Ni zx)).setCell ⟨p25,6,none⟩ (.slice zy zA zB)).heap[c]? =W4.heap[c]?):=ah (fun c hc=>jf W4 p25 c hc _ _ _ _ _ _ _)
 have Fz:Hid ((((((((W4.setCell ⟨p25,0,none⟩ (.int .i64 x_1)).setCell ⟨p25,1,none⟩ (.int .i64 x_2)).setCell ⟨p25,2,none⟩ (.int .i64 x_3)).setCell ⟨p25,3,none⟩ (.int .i64 Nb)).setCell ⟨p25,4,none⟩ (.slice Nc Nf Ng)).setCell ⟨p25,5,none⟩ (.slice Nh Ni zx)).setCell ⟨p25,6,none⟩ (.slice zy zA zB)).heap[p25]? =some (.cells #[.int .i64 x_1,.int .i64 x_2,.int .i64 x_3,.int .i64 Nb,.slice Nc Nf Ng,.slice Nh Ni zx,.slice zy zA zB] 48 (0,0))):=ah (mV hk4 _ _ _ _ _ _ _)
 have vS:Hid (Below w.heap.size w (((((((W4.setCell ⟨p25,0,none⟩ (.int .i64 x_1)).setCell ⟨p25,1,none⟩ (.int .i64 x_2)).setCell ⟨p25,2,none⟩ (.int .i64 x_3)).setCell ⟨p25,3,none⟩ (.int .i64 Nb)).setCell ⟨p25,4,none⟩ (.slice Nc Nf Ng)).setCell ⟨p25,5,none⟩ (.slice Nh Ni zx)).setCell ⟨p25,6,none⟩ (.slice zy zA zB))):=ah (zo VE.out.aZ (by omega) _ _ _ _ _ _ _)
 have HT5:Hid (lW (((((((W4.setCell ⟨p25,0,none⟩ (.int .i64 x_1)).setCell ⟨p25,1,none⟩ (.int .i64 x_2)).setCell ⟨p25,2,none⟩ (.int .i64 x_3)).setCell ⟨p25,3,none⟩ (.int .i64 Nb)).setCell ⟨p25,4,none⟩ (.slice Nc Nf Ng)).setCell ⟨p25,5,none⟩ (.slice Nh Ni zx)).setCell ⟨p25,6,none⟩ (.slice zy zA zB)) ⟨x_1,x_2,x_3,Nb,⟨Nc,Nf,Ng⟩,⟨Nh,Ni,zx⟩,⟨zy,zA,zB⟩⟩ l2):=ah (HT4.out.ne yQ.out P6).m
 have HU5:Hid (lW (((((((W4.setCell ⟨p25,0,none⟩ (.int .i64 x_1)).setCell ⟨p25,1,none⟩ (.int .i64 x_2)).setCell ⟨p25,2,none⟩ (.int .i64 x_3)).setCell ⟨p25,3,none⟩ (.int .i64 Nb)).setCell ⟨p25,4,none⟩ (.slice Nc Nf Ng)).setCell ⟨p25,5,none⟩ (.slice Nh Ni zx)).setCell ⟨p25,6,none⟩ (.slice zy zA zB)) ⟨v_1,GK,GL,GN,⟨GQ,GR,GU⟩,⟨GV,GX,sI⟩,⟨sJ,sK,sM⟩⟩ l2):=ah (YC.out.ne yQ.out Xe).m
 clear hk4
 generalize (((((((W4.setCell ⟨p25,0,none⟩ (.int .i64 x_1)).setCell ⟨p25,1,none⟩ (.int .i64 x_2)).setCell ⟨p25,2,none⟩ (.int .i64 x_3)).setCell ⟨p25,3,none⟩ (.int .i64 Nb)).setCell ⟨p25,4,none⟩ (.slice Nc Nf Ng)).setCell ⟨p25,5,none⟩ (.slice Nh Ni zx)).setCell ⟨p25,6,none⟩ (.slice zy zA zB))=W5 at*
 have hq4:=VE.out
 have Xk:Hid (Dq w W5 x ⟨⟨ca,cn,cc⟩,⟨fa,aX,fc⟩,⟨la,ln,lc⟩,⟨ba,b_n,bc⟩⟩ ⟨⟨ga,gn,gc⟩,⟨ha,h_n,hc⟩,⟨ia,dz,ic⟩,⟨ja,jn,jc⟩⟩):=ah ⟨vS.out,(yQ.out _ (by omega)).trans hq4.k3,(yQ.out _ (by omega)).trans hq4.k4,(yQ.out _ (by omega)).trans hq4.k5,(yQ.out _ (by omega)).trans hq4.k6,(yQ.out _ (by omega)).trans hq4.k7⟩
 have FB:=ah ((yQ.out iF (by omega)).trans Xj.out)
 clear hq4 VE YC HT4 Xj qZ HU3 OJ vR Jq
 by_cases he:e=0
 ·subst he
  have hb2:=HP.out.2.2
  simp only[if_true]at hb2
  have HB2:=ah hb2
  clear hb2
  obtain⟨d0,d1,d2,d3,d4,d5,d6,_⟩:=aB FB.out
  obtain⟨e0,e1,e2,e3,e4,e5,e6,_⟩:=aB Fz.out
  go_upto_if 214 with((go_at_call 27;refine(j4 ⟨v_1,GK,GL,GN,⟨GQ,GR,GU⟩,⟨GV,GX,sI⟩,⟨sJ,sK,sM⟩⟩ ⟨x_1,x_2,x_3,Nb,⟨Nc,Nf,Ng⟩,⟨Nh,Ni,zx⟩,⟨zy,zA,zB⟩⟩ l2 l2 W5 HU5.out HT5.out).mono ?_);rw[decide_eq_true (rfl:l2=l2)];rintro en W6 ⟨rfl,hb6⟩)
  go_cut[] (fun wx=>wx=W6)
  case first=>
   go_wp2
   go_meet
   rfl
  case rest=>
  subst hcut
  go_step
  exact Sq w _ x ⟨⟨ca,cn,cc⟩,⟨fa,aX,fc⟩,⟨la,ln,lc⟩,⟨ba,b_n,bc⟩⟩ ⟨⟨ga,gn,gc⟩,⟨ha,h_n,hc⟩,⟨ia,dz,ic⟩,⟨ja,jn,jc⟩⟩ ⟨v_1,GK,GL,GN,⟨GQ,GR,GU⟩,⟨GV,GX,sI⟩,⟨sJ,sK,sM⟩⟩ ⟨x_1,x_2,x_3,Nb,⟨Nc,Nf,Ng⟩,⟨Nh,Ni,zx⟩,⟨zy,zA,zB⟩⟩ b l2 iF p25 (Xk.out.keep hb6) jU.out o_.out (aj FB.out hb6 (bg FB.out).1) (aj Fz.out hb6 (bg Fz.out).1) (HU5.out.keep hb6 (aC _)) (HT5.out.keep hb6 (aC _)) HB.out HP.out.2.1 HP.out.1 b2 HB2.out _ _ _ _ _ _ _ _ _ _ _ _ _ _ _ _ _ _ _ _ _ _ _ _ _ _ _ _ _ _ _ _ _ _ _ _ _ _ _ _ _ _ _ _ _ _ _ _ _ _ _ _ _ _ _ _ _ _ _ _ _ _ _ _ _ _ _ _ _ _ _ _ _ _ _ _ _ _ _ _ _ _ _ _ _ _ _ _ _ _ _ _ _ _ _ _ _ _ _ _ _ _ _ _ _ _ _ _ _ _ _ _ _ _ _ _ _ _ _ _ _ _ _ _ _ _ _ _ _ _ _ _ _ _ _ _ _ _ _ _ _ _ _ _ _ _ _ _ _ _ _ _ _ _ _ _ _ _ _ _ _ _ _ _ _ _ _ _ _ _ _ _ _ _ _ _ _ _ _ _ _ _ _ _ _ _ _ _ _ _ _ _ _ _ _ _ _ _ _ _ _ _ _ _ _ _ _ _ _ _ _ _ _ _ _ _ _ _ _ _ _ _ _ _ _ _ _ _ _ _ _ _ _ rfl
 ·have hb2:=HP.out.2.2
  rw[if_neg he]at hb2
  subst hb2
  have e1:(e==0)=false:=by simpa using he
  have e2:(e != 0)=true:=by simpa using he
  go_upto_region 28 with fail
  have dO:=ah (Xk.out.keep (aL _ _).drew)
  have Im:=ah (jU.out.keep dO.out.aZ (aC _))
  have HZ2:=ah (o_.out.keep dO.out.aZ (aC _))
  clear Xk jU o_
  refine aS 4 (dR (w.heap.size+1) (w.heap.size+1+1) W5.drew) (by kernel_rfl) ?_
  have hS0:dR (w.heap.size+1) (w.heap.size+1+1) W5.drew W5.drew:=⟨rfl,rfl⟩
  generalize W5.drew=Wd at*
  have hS2:=hS0
  refine aD (i:=0) (v:=.agg #[.slice ca cn cc,.slice fa aX fc,.slice la ln lc,.slice ba b_n bc]) rfl rfl (by kernel_rfl) (by kernel_rfl) (by kernel_rfl) (by kernel_rfl) (by kernel_rfl) (by decide) (fun _ _ _ h=>h) (.inl ⟨rfl,fun w' hw=>?_⟩) hS0 ?_
  ·obtain⟨a0,a1,a2,a3,_⟩:=ay (hw.1.trans dO.out.k4)
   simp only[Sv.v]at a0 a1 a2 a3
   go_simp
  refine aD (i:=1) (v:=.agg #[.slice ga gn gc,.slice ha h_n hc,.slice ia dz ic,.slice ja jn jc]) rfl rfl (by kernel_rfl) (by kernel_rfl) (by kernel_rfl) (by kernel_rfl) (by kernel_rfl) (by decide) (fun _ _ _ h=>h) (.inl ⟨rfl,fun w' hw=>?_⟩) hS0 ?_
  ·obtain⟨a0,a1,a2,a3,_⟩:=ay (hw.2.trans dO.out.k5)
   simp only[Sv.v]at a0 a1 a2 a3
   go_simp
  obtain⟨a0,a1,a2,a3,_⟩:=ay dO.out.k6
  have f0:=aA dO.out.k6 0
  have f1:=aA dO.out.k6 1
  have f2:=aA dO.out.k6 2
  have f3:=aA dO.out.k6 3
  have iy:Hid (∀c,c≠w.heap.size+1+1+1→((((Wd.setCell ⟨w.heap.size+1+1+1,0,none⟩ (.slice ca cn cc)).setCell ⟨w.heap.size+1+1+1,1,none⟩ (.slice fa aX fc)).setCell ⟨w.heap.size+1+1+1,2,none⟩ (.slice la ln lc)).setCell ⟨w.heap.size+1+1+1,3,none⟩ (.slice ba b_n bc)).heap[c]? =Wd.heap[c]?):=ah (fun c hc=>bF Wd (w.heap.size+1+1+1) c (fun e=>hc e.symm) _ _ _ _ 0 1 2 3)
  have qZ:Hid (((((Wd.setCell ⟨w.heap.size+1+1+1,0,none⟩ (.slice ca cn cc)).setCell ⟨w.heap.size+1+1+1,1,none⟩ (.slice fa aX fc)).setCell ⟨w.heap.size+1+1+1,2,none⟩ (.slice la ln lc)).setCell ⟨w.heap.size+1+1+1,3,none⟩ (.slice ba b_n bc)).heap[w.heap.size+1+1+1]? =some (.cells #[.slice ca cn cc,.slice fa aX fc,.slice la ln lc,.slice ba b_n bc] 30 (0,0))):=ah (by
   have h6:=dO.out.k6
   simp[World.setCell,Array.getElem?_modify,h6])
  have HB3:Hid (Below w.heap.size w ((((Wd.setCell ⟨w.heap.size+1+1+1,0,none⟩ (.slice ca cn cc)).setCell ⟨w.heap.size+1+1+1,1,none⟩ (.slice fa aX fc)).setCell ⟨w.heap.size+1+1+1,2,none⟩ (.slice la ln lc)).setCell ⟨w.heap.size+1+1+1,3,none⟩ (.slice ba b_n bc))):=ah (kS dO.out.aZ (by omega) _ _ _ _)
  have HZ3:Hid (Wd.heap.size≤((((Wd.setCell ⟨w.heap.size+1+1+1,0,none⟩ (.slice ca cn cc)).setCell ⟨w.heap.size+1+1+1,1,none⟩ (.slice fa aX fc)).setCell ⟨w.heap.size+1+1+1,2,none⟩ (.slice la ln lc)).setCell ⟨w.heap.size+1+1+1,3,none⟩ (.slice ba b_n bc)).heap.size):=ah (by simp)
  refine aF (i:=2) (by kernel_rfl) rfl rfl ?_
  go_simp
  try rw[jr]
  generalize ((((Wd.setCell ⟨w.heap.size+1+1+1,0,none⟩ (.slice ca cn cc)).setCell ⟨w.heap.size+1+1+1,1,none⟩ (.slice fa aX fc)).setCell ⟨w.heap.size+1+1+1,2,none⟩ (.slice la ln lc)).setCell ⟨w.heap.size+1+1+1,3,none⟩ (.slice ba b_n bc))=W3 at*
  have pU:dR (w.heap.size+1) (w.heap.size+1+1) Wd W3:=⟨(iy.out _ (by omega)).trans hS2.1,(iy.out _ (by omega)).trans hS2.2⟩
  first | refine⟨pU,?_⟩ | skip
  clear a0 a1 a2 a3 f0 f1 f2 f3
  have k7:=(iy.out (w.heap.size+1+1+1+1) (by omega)).trans dO.out.k7
  have qP:=ah k7
  obtain⟨a0,a1,a2,a3,_⟩:=ay k7
  have f0:=aA k7 0
  have f1:=aA k7 1
  have f2:=aA k7 2
  have f3:=aA k7 3
  have lM:Hid (∀c,c≠w.heap.size+1+1+1+1→((((W3.setCell ⟨w.heap.size+1+1+1+1,0,none⟩ (.slice ga gn gc)).setCell ⟨w.heap.size+1+1+1+1,1,none⟩ (.slice ha h_n hc)).setCell ⟨w.heap.size+1+1+1+1,2,none⟩ (.slice ia dz ic)).setCell ⟨w.heap.size+1+1+1+1,3,none⟩ (.slice ja jn jc)).heap[c]? =W3.heap[c]?):=ah (fun c hc=>bF W3 (w.heap.size+1+1+1+1) c (fun e=>hc e.symm) _ _ _ _ 0 1 2 3)
  have BH:Hid (((((W3.setCell ⟨w.heap.size+1+1+1+1,0,none⟩ (.slice ga gn gc)).setCell ⟨w.heap.size+1+1+1+1,1,none⟩ (.slice ha h_n hc)).setCell ⟨w.heap.size+1+1+1+1,2,none⟩ (.slice ia dz ic)).setCell ⟨w.heap.size+1+1+1+1,3,none⟩ (.slice ja jn jc)).heap[w.heap.size+1+1+1+1]? =some (.cells #[.slice ga gn gc,.slice ha h_n hc,.slice ia dz ic,.slice ja jn jc] 30 (0,0))):=ah (by
   have h6:=qP.out
   simp[World.setCell,Array.getElem?_modify,h6])
  have jd:Hid (Below w.heap.size w ((((W3.setCell ⟨w.heap.size+1+1+1+1,0,none⟩ (.slice ga gn gc)).setCell ⟨w.heap.size+1+1+1+1,1,none⟩ (.slice ha h_n hc)).setCell ⟨w.heap.size+1+1+1+1,2,none⟩ (.slice ia dz ic)).setCell ⟨w.heap.size+1+1+1+1,3,none⟩ (.slice ja jn jc))):=ah (kS HB3.out (by omega) _ _ _ _)
  have DR:Hid (W3.heap.size≤((((W3.setCell ⟨w.heap.size+1+1+1+1,0,none⟩ (.slice ga gn gc)).setCell ⟨w.heap.size+1+1+1+1,1,none⟩ (.slice ha h_n hc)).setCell ⟨w.heap.size+1+1+1+1,2,none⟩ (.slice ia dz ic)).setCell ⟨w.heap.size+1+1+1+1,3,none⟩ (.slice ja jn jc)).heap.size):=ah (by simp)
  clear k7
  refine aF (i:=3) (by kernel_rfl) rfl rfl ?_
  go_simp
  generalize ((((W3.setCell ⟨w.heap.size+1+1+1+1,0,none⟩ (.slice ga gn gc)).setCell ⟨w.heap.size+1+1+1+1,1,none⟩ (.slice ha h_n hc)).setCell ⟨w.heap.size+1+1+1+1,2,none⟩ (.slice ia dz ic)).setCell ⟨w.heap.size+1+1+1+1,3,none⟩ (.slice ja jn jc))=W4 at*
  have Ov:dR (w.heap.size+1) (w.heap.size+1+1) Wd W4:=⟨(lM.out _ (by omega)).trans pU.1,(lM.out _ (by omega)).trans pU.2⟩
  first | refine⟨Ov,?_⟩ | skip
  clear a0 a1 a2 a3 f0 f1 f2 f3
  refine aF (i:=4) (by kernel_rfl) rfl rfl ?_
  go_simp
  refine aT (by kernel_rfl) ?_
  obtain⟨a0,a1,a2,a3,_⟩:=ay ((lM.out (w.heap.size+1+1+1) (by omega)).trans qZ.out)
  obtain⟨b0,b1,b2,b3,_⟩:=ay BH.out
  go_wp2
  refine bodyPost_ret (v:=.tuple #[.agg #[.slice ca cn cc,.slice fa aX fc,.slice la ln lc,.slice ba b_n bc],.agg #[.slice ga gn gc,.slice ha h_n hc,.slice ia dz ic,.slice ja jn jc],.bool true]) (by simp[results,Tryz.results10,go_sem, *]) rfl (show nD _ _ _ _ from ?_)
  exact⟨⟨⟨ca,cn,cc⟩,⟨fa,aX,fc⟩,⟨la,ln,lc⟩,⟨ba,b_n,bc⟩⟩,⟨⟨ga,gn,gc⟩,⟨ha,h_n,hc⟩,⟨ia,dz,ic⟩,⟨ja,jn,jc⟩⟩,rfl,(Im.out.over iy.out HZ3.out dO.out.k6 rfl).over lM.out DR.out qP.out rfl,(HZ2.out.over iy.out HZ3.out dO.out.k6 rfl).over lM.out DR.out qP.out rfl,jd.out⟩
end Go.Proofs.YtlfopoimbbpfdaaGreat
namespace Go.Proofs.YtlfopoimbbpfdaaGreat
open Go.RowKit
attribute [local go_sem ↓] Go.wp_at_zero Go.wp_at_succ
set_option maxRecDepth 100000 in
set_option maxHeartbeats 8000000 in
theorem abE (w W:World) (x:ow) (ya yb:bZ) (yl ym:bV) (b:Bk) (l:Ls) (o:pO) (nR iF p25 Bl Bm:Nat) (h:Dq w W x ya yb) (hya:eD w ya b) (hyb:eD w yb b) (hk:W.heap[iF]? =some (.cells #[.int .i64 yl.dev,.int .i64 yl.epoch,.int .i64 yl.bY,.int .i64 yl.last,yl.s.v,yl.i.v,yl.u.v] 48 (0,0))) (hl:W.heap[p25]? =some (.cells #[.int .i64 ym.dev,.int .i64 ym.epoch,.int .i64 ym.bY,.int .i64 ym.last,ym.s.v,ym.i.v,ym.u.v] 48 (0,0))) (ho:W.heap[nR]? =some (.cells #[.int .i64 o.dev,.int .i64 o.epoch,.int .i64 o.seq,.int .i64 o.coll,.int .i64 o.ver,.int .i64 o.kind,.string o.key,.string o.text,.int .i64 o.n,.int .i64 o.time,o.dots.v] 38 (0,0))) (hyl:iC W Bl yl l) (hym:iC W Bm ym l) (abF:nR<Bl) (abG:nR<Bm) (h23:iF<Bm) (Xb:iF<p25) (FC:w.heap.size+1+1+1+1<nR) (Xc:w.heap.size+1+1+1+1<iF) (hid:∀r∈l.ids,0≤r.1∧r.1<r.2∧r.2≤1000) (n2:Int) (hn2:n2=if o.kind=5∧0<l.ids.length∧0<x.n.tmod 3 then(l.ids.getD 0 (0,0)).1+o.n%((l.ids.getD 0 (0,0)).2-(l.ids.getD 0 (0,0)).1)else o.n) (hB:zN b) (hS:NS l o.kind n2) (hE:dM l o.kind o.key n2=bN l o.kind o.key n2) (hP:kC b (bN l o.kind o.key n2).1=kR b (bN l o.kind o.key n2).1) (hL2:wJ (bN l o.kind o.key n2).1) (b2:Bk) (hb2:b2=if (bN l o.kind o.key n2).2=0 then(kR b (bN l o.kind o.key n2).1).1 else b) (u0 u1 u2 u8 u9 u10 u11 u13 u14 u15 u16 u17 u18 u19 u20 u21 u22 u24 u26 u27 u28 u29 u30 u31 u32 u33 u34 u35 u36 u37 u38 u39 u40 u41 u42 u43 u44 u45 u46 u47 u48 u49 u50 u51 u52 u53 u54 u55 u56 u57 u58 u59 u60 u61 u62 u63 u64 u65 u66 u67 u68 u69 u70 u71 u72 u73 u74 u75 u76 u77 u78 u79 u80 u81 u82 u83 u84 u85 u86 u87 u88 u89 u90 u91 u92 u93 u94 u95 u96 u97 u98 u99 u100 u101 u102 u103 u104 u105 u106 u107 u108 u109 u110 u111 u112 u113 u114 u115 u116 u117 u118 u119 u120 u121 u122 u123 u124 u125 u126 u127 u128 u129 u130 u131 u132 u133 u134 u135 u136 u137 u138 u139 u140 u141 u142 u143 u144 u145 u146 u147 u148 u149 u150 u151 u152 u153 u154 u155 u156 u157 u158 u159 u160 u161 u162 u163 u164 u165 u166 u167 u168 u169 u170 u171 u172 u173 u174 u175 u176 u177 u178 u179 u180 u181 u182 u183 u184 u185 u186 u187 u188 u189 u190 u191 u192 u193 u194 u195 u196 u197 u198 u199 u200 u201 u202 u203 u204 u205 u206 u207 u208 u209 u210 u211 u212 u213 u214 u215 u216 u217 u218 u219 u220 u221 u222 u223 u224 u225 u226 u227 u228 u229 u230 u231 u232 u233 u234 u235 u236 u237 u238:Value):
  ∀c,Tryz.f10.body.bind (spine 9)=some c→Code.wp Tryz.prog c (bodyPost Tryz.prog Tryz.f10 (nD w b2)) ⟨#[u0,u1,u2,.pointer (some ⟨w.heap.size,0,none⟩),.pointer (some ⟨w.heap.size+1,0,none⟩),.pointer (some ⟨w.heap.size+1+1,0,none⟩),.pointer (some ⟨w.heap.size+1+1+1,0,none⟩),.pointer (some ⟨w.heap.size+1+1+1+1,0,none⟩),u8,u9,u10,u11,.pointer (some ⟨nR,0,none⟩),u13,u14,u15,u16,u17,u18,u19,u20,u21,u22,.pointer (some ⟨iF,0,none⟩),u24,.pointer (some ⟨p25,0,none⟩),u26,u27,u28,u29,u30,u31,u32,u33,u34,u35,u36,u37,u38,u39,u40,u41,u42,u43,u44,u45,u46,u47,u48,u49,u50,u51,u52,u53,u54,u55,u56,u57,u58,u59,u60,u61,u62,u63,u64,u65,u66,u67,u68,u69,u70,u71,u72,u73,u74,u75,u76,u77,u78,u79,u80,u81,u82,u83,u84,u85,u86,u87,u88,u89,u90,u91,u92,u93,u94,u95,u96,u97,u98,u99,u100,u101,u102,u103,u104,u105,u106,u107,u108,u109,u110,u111,u112,u113,u114,u115,u116,u117,u118,u119,u120,u121,u122,u123,u124,u125,u126,u127,u128,u129,u130,u131,u132,u133,u134,u135,u136,u137,u138,u139,u140,u141,u142,u143,u144,u145,u146,u147,u148,u149,u150,u151,u152,u153,u154,u155,u156,u157,u158,u159,u160,u161,u162,u163,u164,u165,u166,u167,u168,u169,u170,u171,u172,u173,u174,u175,u176,u177,u178,u179,u180,u181,u182,u183,u184,u185,u186,u187,u188,u189,u190,u191,u192,u193,u194,u195,u196,u197,u198,u199,u200,u201,u202,u203,u204,u205,u206,u207,u208,u209,u210,u211,u212,u213,u214,u215,u216,u217,u218,u219,u220,u221,u222,u223,u224,u225,u226,u227,u228,u229,u230,u231,u232,u233,u234,u235,u236,u237,u238],[]⟩ W:=by
 refine dH rfl ?_
 obtain⟨⟨ca,cn,cc⟩,⟨fa,aX,fc⟩,⟨la,ln,lc⟩,⟨ba,b_n,bc⟩⟩:=ya
 obtain⟨⟨ga,gn,gc⟩,⟨ha,h_n,hc⟩,⟨ia,dz,ic⟩,⟨ja,jn,jc⟩⟩:=yb
 obtain⟨y1,y2,y3,y4,⟨y5,y6,y7⟩,⟨y8,y9,bW⟩,⟨bX,cB,y13⟩⟩:=yl
 obtain⟨z1,z2,z3,z4,⟨z5,z6,z7⟩,⟨z8,z9,dD⟩,⟨dI,z12,dJ⟩⟩:=ym
 obtain⟨o1,o2,o3,o4,o5,kd,ky,tx,on,tm,⟨oa,dn,oc⟩⟩:=o
 obtain⟨xk,xd,xn,⟨vZ,wh,wm⟩,xo⟩:=x
 simp only[Sv.v]at hk hl ho hn2
 simp only at hS hE hP hL2 hb2
 obtain⟨q9,q10,q11⟩:=Sl.lens (s:=⟨z8,z9,dD⟩) (aI hym.i)
 simp only at q9 q10 q11
 subst q9
 have HQ:=ah h
 have jU:=ah hya
 have o_:=ah hyb
 have M_:=ah hyl
 have Gt:=ah hym
 have I9:=ah hk
 have PZ:=ah hl
 have Na:=ah ho
 have oC:=ah hn2
 have HID:=ah hid
 have HP:=ah (And.intro hB (And.intro hS (And.intro hE (And.intro hP (And.intro hL2 hb2)))))
 have e2:W.cell? ⟨w.heap.size,2,none⟩=some (.int .i64 xn):=by
  have:=h.k3
  simp only[World.cell?,this]
  rfl
 obtain⟨d0,d1,d2,d3,d4,d5,d6,_⟩:=aB hl
 obtain⟨c0,c1,c2,c3,c4,c5,c6,c7,c8,c9,c10,hf⟩:=bT ho
 have f8:=hf 8
 have hlen:l.ids.length≤9223372036854775807:=by omega
 clear h hya hyb hyl hym hk hl ho hn2 hid hB hS hE hP hL2 hb2 hf
 go_upto_region 21 with fail
 dsimp only
 go_cut[164] (fun v164 wx=>v164= .bool (decide (kd=5∧0<l.ids.length∧0<xn.tmod 3))∧wx=W)
 case first=>
  by_cases h5:kd=5
  ·subst h5
   by_cases hl0:0<l.ids.length
   ·have hl1:(0:Int)<l.ids.length:=by omega
    by_cases ht:0<xn.tmod 3
    ·go_wp2
     go_meet
     exact⟨by simp[hl0,ht],rfl⟩
    ·go_wp2
     go_meet
     exact⟨by simp[hl0,ht],rfl⟩
   ·have hl1:¬ (0:Int)<l.ids.length:=by omega
    have hl2:l.ids.length=0:=by omega
    go_wp2
    go_meet
    exact⟨by simp[hl0],rfl⟩
  ·have h5':(kd==5)=false:=by simpa using h5
   go_wp2
   go_meet
   exact⟨by simp[h5],rfl⟩
 case rest=>
 obtain⟨rfl,hwc⟩:=hcut
 rw[hwc]
 clear hwc
 go_upto_if 164 with fail
 go_cut[] (fun wx=>Dq w wx ⟨xk,xd,xn,⟨vZ,wh,wm⟩,xo⟩ ⟨⟨ca,cn,cc⟩,⟨fa,aX,fc⟩,⟨la,ln,lc⟩,⟨ba,b_n,bc⟩⟩ ⟨⟨ga,gn,gc⟩,⟨ha,h_n,hc⟩,⟨ia,dz,ic⟩,⟨ja,jn,jc⟩⟩∧wx.heap[iF]? =some (.cells #[.int .i64 y1,.int .i64 y2,.int .i64 y3,.int .i64 y4,.slice y5 y6 y7,.slice y8 y9 bW,.slice bX cB y13] 48 (0,0))∧wx.heap[p25]? =some (.cells #[.int .i64 z1,.int .i64 z2,.int .i64 z3,.int .i64 z4,.slice z5 z6 z7,.slice z8 l.ids.length dD,.slice dI z12 dJ] 48 (0,0))∧wx.heap[nR]? =some (.cells #[.int .i64 o1,.int .i64 o2,.int .i64 o3,.int .i64 o4,.int .i64 o5,.int .i64 kd,.string ky,.string tx,.int .i64 n2,.int .i64 tm,.slice oa dn oc] 38 (0,0))∧lW wx ⟨y1,y2,y3,y4,⟨y5,y6,y7⟩,⟨y8,y9,bW⟩,⟨bX,cB,y13⟩⟩ l∧iC wx Bm ⟨z1,z2,z3,z4,⟨z5,z6,z7⟩,⟨z8,l.ids.length,dD⟩,⟨dI,z12,dJ⟩⟩ l)
 case rest=>
  obtain⟨r1,r2,r3,r4,r5,r6⟩:=hcut
  go_step
  exact Ml w _ _ ⟨⟨ca,cn,cc⟩,⟨fa,aX,fc⟩,⟨la,ln,lc⟩,⟨ba,b_n,bc⟩⟩ ⟨⟨ga,gn,gc⟩,⟨ha,h_n,hc⟩,⟨ia,dz,ic⟩,⟨ja,jn,jc⟩⟩ ⟨y1,y2,y3,y4,⟨y5,y6,y7⟩,⟨y8,y9,bW⟩,⟨bX,cB,y13⟩⟩ ⟨z1,z2,z3,z4,⟨z5,z6,z7⟩,⟨z8,l.ids.length,dD⟩,⟨dI,z12,dJ⟩⟩ b l ⟨o1,o2,o3,o4,o5,kd,ky,tx,n2,tm,⟨oa,dn,oc⟩⟩ nR iF p25 Bm r1 jU.out o_.out r2 r3 r4 r5 r6 h23 Xb Xc HP.out.1 HP.out.2.1 HP.out.2.2.1 HP.out.2.2.2.1 HP.out.2.2.2.2.1 b2 HP.out.2.2.2.2.2 _ _ _ _ _ _ _ _ _ _ _ _ _ _ _ _ _ _ _ _ _ _ _ _ _ _ _ _ _ _ _ _ _ _ _ _ _ _ _ _ _ _ _ _ _ _ _ _ _ _ _ _ _ _ _ _ _ _ _ _ _ _ _ _ _ _ _ _ _ _ _ _ _ _ _ _ _ _ _ _ _ _ _ _ _ _ _ _ _ _ _ _ _ _ _ _ _ _ _ _ _ _ _ _ _ _ _ _ _ _ _ _ _ _ _ _ _ _ _ _ _ _ _ _ _ _ _ _ _ _ _ _ _ _ _ _ _ _ _ _ _ _ _ _ _ _ _ _ _ _ _ _ _ _ _ _ _ _ _ _ _ _ _ _ _ _ _ _ _ _ _ _ _ _ _ _ _ _ _ _ _ _ _ _ _ _ _ _ _ _ _ _ _ _ _ _ _ _ _ _ _ _ _ _ _ _ _ _ _ _ _ _ _ _ _ _ _ _ _ _ _ _ _ _ _ _ _ _ _ _ _ _ rfl
 case first=>
 by_cases hc:kd=5∧0<l.ids.length∧0<xn.tmod 3
 case neg=>
  have hc2:decide (kd=5∧0<l.ids.length∧0<xn.tmod 3)=false:=by simpa using hc
  have hn:n2=on:=by rw[oC.out,if_neg hc]
  subst hn
  rw[hc2]
  clear hc hc2 c0 c1 c2 c3 c4 c5 c6 c7 c8 c9 c10 d0 d1 d2 d3 d4 d5 d6
  go_wp2
  go_meet
  exact⟨HQ.out,I9.out,PZ.out,Na.out,M_.out.m,Gt.out⟩
 have hc2:decide (kd=5∧0<l.ids.length∧0<xn.tmod 3)=true:=by simpa using hc
 obtain⟨rfl,hl0,ht⟩:=hc
 rw[hc2]
 obtain⟨ib,io,rfl,hib,r0,r1⟩:=fq.pair (aI Gt.out.i) (aL _ _) (aC _) 0 hl0
 have hri:=HID.out l.ids[0] (List.getElem_mem hl0)
 have hgd:l.ids.getD 0 (0,0)=l.ids[0]:=by rw[List.getD_eq_getElem?_getD,List.getElem?_eq_getElem hl0];rfl
 have hn:n2=l.ids[0].1+on%(l.ids[0].2-l.ids[0].1):=by rw[oC.out,if_pos ⟨rfl,hl0,ht⟩,hgd]
 have HNN:=ah hn
 clear hc2 hgd hn oC HID
 generalize l.ids[0]=r at*
 obtain⟨rp,rq⟩:=r
 simp only at hri r0 r1 HNN
 simp only[Nat.zero_mul,Nat.add_zero]at r0 r1
 obtain⟨i1,i2,i3⟩:=hri
 have j1:IntKind.i64.wrap (rq-rp)=rq-rp:=IntWalk.i64_in _ (by omega)
 have hm0:=Int.emod_nonneg on (show rq-rp≠0 by omega)
 have hm1:=Int.emod_lt_of_pos on (show 0<rq-rp by omega)
 have j2:IntKind.i64.wrap (rp+on%(rq-rp))=rp+on%(rq-rp):=IntWalk.i64_in _ (by omega)
 have hl1:(0:Int)<l.ids.length:=by omega
 clear hm0 hm1
 go_upto_region 22 with fail
 refine aS 21 (fun w'=>w'=W.drew) (by kernel_rfl) ?_
 have hS0:W.drew=W.drew:=rfl
 have Yp:=ah (HQ.out.keep (aL _ _).drew)
 have Xl:Hid (W.drew.heap[iF]? =_):=ah I9.out
 have Xm:Hid (W.drew.heap[p25]? =_):=ah PZ.out
 have Xn:Hid (W.drew.heap[nR]? =_):=ah Na.out
 have abH:=ah (M_.out.keep (aL _ _).drew (aC _))
 have abI:=ah (Gt.out.keep (aL _ _).drew (aC _))
 have s0:W.drew.cell? ⟨ib,io,none⟩=some (.int .i64 rp):=r0
 have s1:W.drew.cell? ⟨ib,io+1,none⟩=some (.int .i64 rq):=r1
 have s2:W.drew.cell? ⟨nR,8,none⟩=some (.int .i64 on):=c8
 have s3:W.drew.cell? ⟨p25,5,none⟩=some (.slice (some ⟨ib,io,none⟩) l.ids.length dD):=d5
 have s4:W.drew.frozen? ⟨nR,8,none⟩=false:=f8
 clear HQ I9 PZ Na M_ Gt r0 r1 c0 c1 c2 c3 c4 c5 c6 c7 c8 c9 c10 d0 d1 d2 d3 d4 d5 d6 f8 e2
 generalize W.drew=Wd at*
 refine aG (i:=0) (v:=.pointer (some ⟨p25,5,none⟩)) rfl (by kernel_rfl) (by kernel_rfl) (by kernel_rfl) (by decide) (fun _ _ _ h=>h) (.inl ⟨rfl,fun w' _=>?_⟩) hS0 ?_
 ·go_simp
 refine aD (i:=1) (v:=.slice (some ⟨ib,io,none⟩) l.ids.length dD) rfl rfl (by kernel_rfl) (by kernel_rfl) (by kernel_rfl) (by kernel_rfl) (by kernel_rfl) (by decide) (fun _ _ _ h=>h) (.inl ⟨rfl,fun w' hw=>?_⟩) hS0 ?_
 ·rw[hw]
  go_simp
 refine aG (i:=2) (v:=.pointer (some ⟨ib,io,none⟩)) rfl (by kernel_rfl) (by kernel_rfl) (by kernel_rfl) (by decide) (fun _ _ _ h=>h) (.inl ⟨rfl,fun w' _=>?_⟩) hS0 ?_
 ·go_simp
 refine aG (i:=3) (v:=.pointer (some ⟨ib,io,none⟩)) rfl (by kernel_rfl) (by kernel_rfl) (by kernel_rfl) (by decide) (fun _ _ _ h=>h) (.inl ⟨rfl,fun w' _=>?_⟩) hS0 ?_
 ·go_simp
 refine aD (i:=4) (v:=.int .i64 rp) rfl rfl (by kernel_rfl) (by kernel_rfl) (by kernel_rfl) (by kernel_rfl) (by kernel_rfl) (by decide) (fun _ _ _ h=>h) (.inl ⟨rfl,fun w' hw=>?_⟩) hS0 ?_
 ·rw[hw]
  go_simp
 refine aG (i:=5) (v:=.pointer (some ⟨nR,8,none⟩)) rfl (by kernel_rfl) (by kernel_rfl) (by kernel_rfl) (by decide) (fun _ _ _ h=>h) (.inl ⟨rfl,fun w' _=>?_⟩) hS0 ?_
 ·go_simp
 refine aD (i:=6) (v:=.int .i64 on) rfl rfl (by kernel_rfl) (by kernel_rfl) (by kernel_rfl) (by kernel_rfl) (by kernel_rfl) (by decide) (fun _ _ _ h=>h) (.inl ⟨rfl,fun w' hw=>?_⟩) hS0 ?_
 ·rw[hw]
  go_simp
 refine aG (i:=7) (v:=.pointer (some ⟨p25,5,none⟩)) rfl (by kernel_rfl) (by kernel_rfl) (by kernel_rfl) (by decide) (fun _ _ _ h=>h) (.inl ⟨rfl,fun w' _=>?_⟩) hS0 ?_
 ·go_simp
 refine aD (i:=8) (v:=.slice (some ⟨ib,io,none⟩) l.ids.length dD) rfl rfl (by kernel_rfl) (by kernel_rfl) (by kernel_rfl) (by kernel_rfl) (by kernel_rfl) (by decide) (fun _ _ _ h=>h) (.inl ⟨rfl,fun w' hw=>?_⟩) hS0 ?_
 ·rw[hw]
  go_simp
 refine aG (i:=9) (v:=.pointer (some ⟨ib,io,none⟩)) rfl (by kernel_rfl) (by kernel_rfl) (by kernel_rfl) (by decide) (fun _ _ _ h=>h) (.inl ⟨rfl,fun w' _=>?_⟩) hS0 ?_
 ·go_simp
 refine aG (i:=10) (v:=.pointer (some ⟨ib,io+1,none⟩)) rfl (by kernel_rfl) (by kernel_rfl) (by kernel_rfl) (by decide) (fun _ _ _ h=>h) (.inl ⟨rfl,fun w' _=>?_⟩) hS0 ?_
 ·go_simp
 refine aD (i:=11) (v:=.int .i64 rq) rfl rfl (by kernel_rfl) (by kernel_rfl) (by kernel_rfl) (by kernel_rfl) (by kernel_rfl) (by decide) (fun _ _ _ h=>h) (.inl ⟨rfl,fun w' hw=>?_⟩) hS0 ?_
 ·rw[hw]
  go_simp
 refine aG (i:=12) (v:=.pointer (some ⟨p25,5,none⟩)) rfl (by kernel_rfl) (by kernel_rfl) (by kernel_rfl) (by decide) (fun _ _ _ h=>h) (.inl ⟨rfl,fun w' _=>?_⟩) hS0 ?_
 ·go_simp
 refine aD (i:=13) (v:=.slice (some ⟨ib,io,none⟩) l.ids.length dD) rfl rfl (by kernel_rfl) (by kernel_rfl) (by kernel_rfl) (by kernel_rfl) (by kernel_rfl) (by decide) (fun _ _ _ h=>h) (.inl ⟨rfl,fun w' hw=>?_⟩) hS0 ?_
 ·rw[hw]
  go_simp
 refine aG (i:=14) (v:=.pointer (some ⟨ib,io,none⟩)) rfl (by kernel_rfl) (by kernel_rfl) (by kernel_rfl) (by decide) (fun _ _ _ h=>h) (.inl ⟨rfl,fun w' _=>?_⟩) hS0 ?_
 ·go_simp
 refine aG (i:=15) (v:=.pointer (some ⟨ib,io,none⟩)) rfl (by kernel_rfl) (by kernel_rfl) (by kernel_rfl) (by decide) (fun _ _ _ h=>h) (.inl ⟨rfl,fun w' _=>?_⟩) hS0 ?_
 ·go_simp
 refine aD (i:=16) (v:=.int .i64 rp) rfl rfl (by kernel_rfl) (by kernel_rfl) (by kernel_rfl) (by kernel_rfl) (by kernel_rfl) (by decide) (fun _ _ _ h=>h) (.inl ⟨rfl,fun w' hw=>?_⟩) hS0 ?_
 ·rw[hw]
  go_simp
 refine aG (i:=17) (v:=.int .i64 (rq-rp)) rfl (by kernel_rfl) (by kernel_rfl) (by kernel_rfl) (by decide) (fun _ _ _ h=>h) (.inl ⟨rfl,fun w' _=>?_⟩) hS0 ?_
 ·go_simp
 refine dP (i:=18) (v:=.int .i64 (on%(rq-rp))) rfl (by kernel_rfl) (by kernel_rfl) (by kernel_rfl) (by decide) (fun _ _ _ h=>h) ⟨rfl,18,#[.int .i64 on,.int .i64 (rq-rp)],fun w' _=>?_,fun w' _=>iI _ _ _ (by omega) (by omega)⟩ hS0 ?_
 ·go_simp
 refine aG (i:=19) (v:=.int .i64 (rp+on%(rq-rp))) rfl (by kernel_rfl) (by kernel_rfl) (by kernel_rfl) (by decide) (fun _ _ _ h=>h) (.inl ⟨rfl,fun w' _=>?_⟩) hS0 ?_
 ·go_simp
 refine aG (i:=20) (v:=.pointer (some ⟨nR,8,none⟩)) rfl (by kernel_rfl) (by kernel_rfl) (by kernel_rfl) (by decide) (fun _ _ _ h=>h) (.inl ⟨rfl,fun w' _=>?_⟩) hS0 ?_
 ·go_simp
 refine aF (i:=21) (by kernel_rfl) rfl rfl ?_
 go_simp
 refine aT (by kernel_rfl) ?_
 go_wp2
 go_meet
 have hoth:∀c,c≠nR→(Wd.setCell ⟨nR,8,none⟩ (.int .i64 (rp+on%(rq-rp)))).heap[c]? =Wd.heap[c]? :=fun c hc=>aW _ _ _ (fun e=>hc e.symm) _
 have hne:∀p cs T,Wd.heap[p]? =some (.cells cs T (0,0))→ 38 ≠T→p≠nR:=fun p cs T hp hT e=>by
  rw[e,Xn.out]at hp
  injection hp with hp
  injection hp with _ hp _
  exact hT hp
 have hq:=Yp.out
 refine⟨⟨hq.aZ.setCell (by show _≤nR;omega) _,(hoth _ (by omega)).trans hq.k3,(hoth _ (by omega)).trans hq.k4,(hoth _ (by omega)).trans hq.k5,(hoth _ (by omega)).trans hq.k6,(hoth _ (by omega)).trans hq.k7⟩,(hoth _ (hne _ _ _ Xl.out (by decide))).trans Xl.out,(hoth _ (hne _ _ _ Xm.out (by decide))).trans Xm.out,?_,(abH.out.ne hoth abF).m,abI.out.ne hoth abG⟩
 have h6:=Xn.out
 rw[HNN.out]
 simp[World.setCell,Array.getElem?_modify,h6]
end Go.Proofs.YtlfopoimbbpfdaaGreat
