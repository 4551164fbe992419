/- What the law asks, in parts: ZR ZV ZU ZM. -/
import Derived.Deep.DrawnRows
import Derived.Test.YtlfopoimbbpfdaaGreatPk21
import Derived.Test.YtlfopoimbbpfdaaGreatPk22
set_option linter.all false
set_option maxRecDepth 100000
set_option maxHeartbeats 16000000
namespace Go.Proofs.YtlfopoimbbpfdaaGreat
open Go.RowKit
section
attribute [local go_sem ↓] Go.wp_at_zero Go.wp_at_succ
theorem JO (gW w W:World) (b0:Bk) (l0:Ls) (wn:Wn) (x:dN) (y:cB) (h:Wq w W x y wn) (he:dY b0 wn=14) {u0 u1 u2 u8 u9 u10 u11 u12 u14 u15 u16 u17 u18 u19 u20 u21 u22 u23 u24 u25 u26 u27 u28 u29 u30 u31 u32 u33 u34 u35 u36 u37 u38 u39 u40 u41 u42 u43 u44 u45 u46 u47 u48 u49 u50 u51 u52 u53 u54 u55 u56 u57 u58 u59 u60 u61 u62 u63 u64 u65 u66 u67 u68 u69 u70 u71 u72 u73 u74 u75 u76 u77 u78 u79 u80 u81 u82 u83 u84 u85 u86 u87 u88 u89 u90 u91 u92 u93 u94 u95 u96 u97 u98 u99 u100 u101 u102 u103 u104 u105 u106 u107 u108 u109 u110 u111 u112 u113 u114 u115 u116 u117 u118 u119 u120 u121 u122 u123 u124 u125 u126 u127 u128 u129 u130 u131 u132 u133 u134 u135 u136 u137 u138 u139 u140 u141 u142 u143 u144 u145 u146 u147 u148 u149 u150 u151 u152 u153 u154 u155 u156 u157 u158 u159 u160 u161 u162 u163 u164 u165 u166 u167 u168 u169 u170 u171 u172 u173 u174 u175 u176 u177 u178 u179 u180 u181 u182 u183 u184 u185 u186 u187 u188 u189 u190 u191 u192 u193 u194 u195 u196 u197 u198 u199 u200 u201 u202:Value}:
  ∀c,Tryz.f78.body.bind (spine 8)=some c→Code.wp Tryz.prog c (bodyPost Tryz.prog Tryz.f78 (kV gW w b0 l0 wn)) ⟨#[u0,u1,u2,.pointer (some ⟨w.heap.size,0,none⟩),.pointer (some ⟨w.heap.size+1,0,none⟩),.pointer (some ⟨w.heap.size+1+1,0,none⟩),.pointer (some ⟨w.heap.size+1+1+1,0,none⟩),.pointer (some ⟨w.heap.size+1+1+1+1,0,none⟩),u8,u9,u10,u11,u12,.int .i64 14,u14,u15,u16,u17,u18,u19,u20,u21,u22,u23,u24,u25,u26,u27,u28,u29,u30,u31,u32,u33,u34,u35,u36,u37,u38,u39,u40,u41,u42,u43,u44,u45,u46,u47,u48,u49,u50,u51,u52,u53,u54,u55,u56,u57,u58,u59,u60,u61,u62,u63,u64,u65,u66,u67,u68,u69,u70,u71,u72,u73,u74,u75,u76,u77,u78,u79,u80,u81,u82,u83,u84,u85,u86,u87,u88,u89,u90,u91,u92,u93,u94,u95,u96,u97,u98,u99,u100,u101,u102,u103,u104,u105,u106,u107,u108,u109,u110,u111,u112,u113,u114,u115,u116,u117,u118,u119,u120,u121,u122,u123,u124,u125,u126,u127,u128,u129,u130,u131,u132,u133,u134,u135,u136,u137,u138,u139,u140,u141,u142,u143,u144,u145,u146,u147,u148,u149,u150,u151,u152,u153,u154,u155,u156,u157,u158,u159,u160,u161,u162,u163,u164,u165,u166,u167,u168,u169,u170,u171,u172,u173,u174,u175,u176,u177,u178,u179,u180,u181,u182,u183,u184,u185,u186,u187,u188,u189,u190,u191,u192,u193,u194,u195,u196,u197,u198,u199,u200,u201,u202],[]⟩ W:=by
 refine dP rfl ?_;obtain⟨⟨ca,cn,cc⟩,⟨fa,bD,fc⟩,⟨la,ln,lc⟩,⟨ba,bE,bc⟩⟩:=x;obtain⟨y1,y2,y3,y4,⟨y5,y6,y7⟩,⟨y8,y9,dz⟩,⟨dA,dJ,cK⟩⟩:=y;have HQ:=ah h;have HE:=ah he;clear h he;go_upto_region 17 with fail
 refine aW 5 (E5 (w.heap.size+1+1) W) (by kernel_rfl) ?_;have aQ:E5 (w.heap.size+1+1) W W.drew:=fun _ _=>rfl
 refine aP (i:=0) (v:=.agg #[.slice ca cn cc,.slice fa bD fc,.slice la ln lc,.slice ba bE bc]) rfl rfl (by kernel_rfl) (fun _ _ _ h=>h) (.inl ⟨rfl,fun w' hw=>?_⟩) aQ ?_
 ·obtain⟨a0,a1,a2,a3,_⟩:=ay ((hw _ (by omega)).trans HQ.out.k3)
  simp only[Sv.v]at a0 a1 a2 a3;go_simp
 refine aP (i:=1) (v:=.agg #[.int .i64 y1,.int .i64 y2,.int .i64 y3,.int .i64 y4,.slice y5 y6 y7,.slice y8 y9 dz,.slice dA dJ cK]) rfl rfl (by kernel_rfl) (fun _ _ _ h=>h) (.inl ⟨rfl,fun w' hw=>?_⟩) aQ ?_
 ·obtain⟨b0,b1,b2,b3,b4,b5,b6,_⟩:=aB ((hw _ (by omega)).trans HQ.out.k4)
  simp only[Sv.v]at b4 b5 b6;go_simp
 refine aP (i:=2) (v:=.int .i64 14) rfl rfl (by kernel_rfl) (fun _ _ _ h=>h) (.inl ⟨rfl,fun w' hw=>?_⟩) aQ ?_
 ·go_simp
 obtain⟨a0,a1,a2,a3,_⟩:=ay HQ.out.k6;have f0:=aA HQ.out.k6 0;have f1:=aA HQ.out.k6 1;have f2:=aA HQ.out.k6 2;have f3:=aA HQ.out.k6 3;have H6:=ah (qD HQ.out);simp only[Sv.v]at H6;have R_:E5 (w.heap.size+1+1) W (((((W).drew.setCell ⟨w.heap.size+1+1+1,0,none⟩ (.slice ca cn cc)).setCell ⟨w.heap.size+1+1+1,1,none⟩ (.slice fa bD fc)).setCell ⟨w.heap.size+1+1+1,2,none⟩ (.slice la ln lc)).setCell ⟨w.heap.size+1+1+1,3,none⟩ (.slice ba bE bc)):=fun c hc=>bM W.drew (w.heap.size+1+1+1) c (by omega) _ _ _ _ 0 1 2 3
 refine aD (i:=3) (by kernel_rfl) rfl rfl ?_;go_simp
 try rw[kN]
 generalize (((((W).drew.setCell ⟨w.heap.size+1+1+1,0,none⟩ (.slice ca cn cc)).setCell ⟨w.heap.size+1+1+1,1,none⟩ (.slice fa bD fc)).setCell ⟨w.heap.size+1+1+1,2,none⟩ (.slice la ln lc)).setCell ⟨w.heap.size+1+1+1,3,none⟩ (.slice ba bE bc))=W6 at*;first | refine⟨R_,?_⟩ | skip
 clear a0 a1 a2 a3 f0 f1 f2 f3;obtain⟨b0,b1,b2,b3,b4,b5,b6,_⟩:=aB H6.out.k7;have g0:=ak H6.out.k7 0;have g1:=ak H6.out.k7 1;have g2:=ak H6.out.k7 2;have g3:=ak H6.out.k7 3;have g4:=ak H6.out.k7 4;have g5:=ak H6.out.k7 5;have g6:=ak H6.out.k7 6;have hS7:E5 (w.heap.size+1+1) W (((((((W6.setCell ⟨w.heap.size+1+1+1+1,0,none⟩ (.int .i64 y1)).setCell ⟨w.heap.size+1+1+1+1,1,none⟩ (.int .i64 y2)).setCell ⟨w.heap.size+1+1+1+1,2,none⟩ (.int .i64 y3)).setCell ⟨w.heap.size+1+1+1+1,3,none⟩ (.int .i64 y4)).setCell ⟨w.heap.size+1+1+1+1,4,none⟩ (.slice y5 y6 y7)).setCell ⟨w.heap.size+1+1+1+1,5,none⟩ (.slice y8 y9 dz)).setCell ⟨w.heap.size+1+1+1+1,6,none⟩ (.slice dA dJ cK)):=fun c hc=>(kC W6 (w.heap.size+1+1+1+1) c (by omega) _ _ _ _ _ _ _).trans (R_ c hc)
 have H7:=ah (i_ (x:=⟨⟨ca,cn,cc⟩,⟨fa,bD,fc⟩,⟨la,ln,lc⟩,⟨ba,bE,bc⟩⟩) (y:=⟨y1,y2,y3,y4,⟨y5,y6,y7⟩,⟨y8,y9,dz⟩,⟨dA,dJ,cK⟩⟩) H6.out);simp only[Sv.v]at H7;refine aD (i:=4) (by kernel_rfl) rfl rfl ?_;go_simp;generalize (((((((W6.setCell ⟨w.heap.size+1+1+1+1,0,none⟩ (.int .i64 y1)).setCell ⟨w.heap.size+1+1+1+1,1,none⟩ (.int .i64 y2)).setCell ⟨w.heap.size+1+1+1+1,2,none⟩ (.int .i64 y3)).setCell ⟨w.heap.size+1+1+1+1,3,none⟩ (.int .i64 y4)).setCell ⟨w.heap.size+1+1+1+1,4,none⟩ (.slice y5 y6 y7)).setCell ⟨w.heap.size+1+1+1+1,5,none⟩ (.slice y8 y9 dz)).setCell ⟨w.heap.size+1+1+1+1,6,none⟩ (.slice dA dJ cK))=W7 at*;first | refine⟨hS7,?_⟩ | skip
 clear b0 b1 b2 b3 b4 b5 b6 g0 g1 g2 g3 g4 g5 g6;refine aD (i:=5) (by kernel_rfl) rfl rfl ?_;go_simp;refine aU (by kernel_rfl) ?_;obtain⟨a0,a1,a2,a3,_⟩:=ay H7.out.k6;obtain⟨b0,b1,b2,b3,b4,b5,b6,_⟩:=aB H7.out.k7;simp only[Sv.v]at a0 a1 a2 a3 b4 b5 b6;go_wp2;refine bodyPost_ret (v:=.tuple #[.agg #[.slice ca cn cc,.slice fa bD fc,.slice la ln lc,.slice ba bE bc],.agg #[.int .i64 y1,.int .i64 y2,.int .i64 y3,.int .i64 y4,.slice y5 y6 y7,.slice y8 y9 dz,.slice dA dJ cK],.int .i64 14]) (by simp[results,Tryz.results78,go_sem, *]) rfl (show kV _ _ _ _ _ _ _ from ?_);exact⟨⟨⟨ca,cn,cc⟩,⟨fa,bD,fc⟩,⟨la,ln,lc⟩,⟨ba,bE,bc⟩⟩,⟨y1,y2,y3,y4,⟨y5,y6,y7⟩,⟨y8,y9,dz⟩,⟨dA,dJ,cK⟩⟩,by rw[HE.out],H7.out.bC,fun h=>absurd h (by rw[HE.out];decide)⟩
end
section
attribute [local go_sem ↓] Go.wp_at_zero Go.wp_at_succ
theorem JQ (gW w W:World) (b0:Bk) (l0:Ls) (wn:Wn) (x:dN) (y:cB) (hq:Wq w W x y wn) (hr:Rr gW w x b0 y l0) (hw:Hu b0 l0 wn) (hc:g_ b0 wn=0) (hi:0≤wn.ids) {u0 u1 u2 u8 u9 u11 u12 u13 u14 u15 u16 u17 u18 u19 u20 u21 u22 u23 u24 u25 u26 u27 u28 u29 u30 u31 u32 u33 u34 u35 u36 u37 u38 u39 u40 u41 u42 u43 u44 u45 u46 u47 u48 u49 u50 u51 u52 u53 u54 u55 u56 u57 u58 u59 u60 u61 u62 u63 u64 u65 u66 u67 u68 u69 u70 u71 u72 u73 u74 u75 u76 u77 u78 u79 u80 u81 u82 u83 u84 u85 u86 u87 u88 u89 u90 u91 u92 u93 u94 u95 u96 u97 u98 u99 u100 u101 u102 u103 u104 u105 u106 u107 u108 u109 u110 u111 u112 u113 u114 u115 u116 u117 u118 u119 u120 u121 u122 u123 u124 u125 u126 u127 u128 u129 u130 u131 u132 u133 u134 u135 u136 u137 u138 u139 u140 u141 u142 u143 u144 u145 u146 u147 u148 u149 u150 u151 u152 u153 u154 u155 u156 u157 u158 u159 u160 u161 u162 u163 u164 u165 u166 u167 u168 u169 u170 u171 u172 u173 u174 u175 u176 u177 u178 u179 u180 u181 u182 u183 u184 u185 u186 u187 u188 u189 u190 u191 u192 u193 u194 u195 u196 u197 u198 u199 u200 u201 u202:Value}:
  ∀c,Tryz.f78.body.bind (spine 7)=some c→Code.wp Tryz.prog c (bodyPost Tryz.prog Tryz.f78 (kV gW w b0 l0 wn)) ⟨#[u0,u1,u2,.pointer (some ⟨w.heap.size,0,none⟩),.pointer (some ⟨w.heap.size+1,0,none⟩),.pointer (some ⟨w.heap.size+1+1,0,none⟩),.pointer (some ⟨w.heap.size+1+1+1,0,none⟩),.pointer (some ⟨w.heap.size+1+1+1+1,0,none⟩),u8,u9,.int .i64 (bJ b0.cs wn.key),u11,u12,u13,u14,u15,u16,u17,u18,u19,u20,u21,u22,u23,u24,u25,u26,u27,u28,u29,u30,u31,u32,u33,u34,u35,u36,u37,u38,u39,u40,u41,u42,u43,u44,u45,u46,u47,u48,u49,u50,u51,u52,u53,u54,u55,u56,u57,u58,u59,u60,u61,u62,u63,u64,u65,u66,u67,u68,u69,u70,u71,u72,u73,u74,u75,u76,u77,u78,u79,u80,u81,u82,u83,u84,u85,u86,u87,u88,u89,u90,u91,u92,u93,u94,u95,u96,u97,u98,u99,u100,u101,u102,u103,u104,u105,u106,u107,u108,u109,u110,u111,u112,u113,u114,u115,u116,u117,u118,u119,u120,u121,u122,u123,u124,u125,u126,u127,u128,u129,u130,u131,u132,u133,u134,u135,u136,u137,u138,u139,u140,u141,u142,u143,u144,u145,u146,u147,u148,u149,u150,u151,u152,u153,u154,u155,u156,u157,u158,u159,u160,u161,u162,u163,u164,u165,u166,u167,u168,u169,u170,u171,u172,u173,u174,u175,u176,u177,u178,u179,u180,u181,u182,u183,u184,u185,u186,u187,u188,u189,u190,u191,u192,u193,u194,u195,u196,u197,u198,u199,u200,u201,u202],[]⟩ W:=by
 refine dP rfl ?_;obtain⟨⟨ca,cn,cc⟩,⟨fa,bD,fc⟩,⟨la,ln,lc⟩,⟨ba,bE,bc⟩⟩:=x;obtain⟨y1,y2,y3,y4,⟨y5,y6,y7⟩,⟨y8,y9,dz⟩,⟨dA,dJ,cK⟩⟩:=y;obtain⟨wk,wu,wd,wi⟩:=wn;have hx:=hr.bk;have hy:=hr.ls;obtain⟨q3,q4,q5⟩:=Sl.lens (s:=⟨ca,cn,cc⟩) hx.c;obtain⟨r3,r4,r5⟩:=Sl.lens (s:=⟨y5,y6,y7⟩) hy.s;simp only at q3 q4 q5 r3 r4 r5;subst q3 r3;generalize b0=b at*;generalize l0=l at*;have Cb:=ah hr;have HX:=ah hx;have HY:=ah hy;have HB:=ah hw;have HC:=ah hc;have JK:=ah hq;have hw0:True∧0≤wi:=⟨trivial,hi⟩;obtain⟨WC,hWC⟩:∃WC,WC=W:=⟨_,rfl⟩;subst hWC;obtain⟨c0,c1,c2,c3,_⟩:=ay hq.k3;obtain⟨w0,w1,w2,w3,_⟩:=ay hq.k5;simp only[Sv.v]at c0 c1 c2 c3;clear hr hx hy hw hc hq;simp only;have OV:=ah HC.out;by_cases xI:dG b.free<wi
 ·have HE:Hid (dY b ⟨wk,wu,wd,wi⟩=14):=ah (by
   unfold dY
   rw[if_pos HC.out,if_pos xI])
  go_upto_region 15 with fail
  go_cut[11,12,13] (fun _ _ zh wx=>zh= .int .i64 14∧Below WC.heap.size WC wx)
  case first=>
   go_wp2_with fail
   refine(EY _ b.free wi WC (fD.keep HX.out.f JK.out.bC (aC _)) HB.out.fr.1 (by have:=HB.out.nf;omega) xI).mono ?_;rintro e w9 ⟨rfl,jW⟩;go_wp2;go_meet;exact⟨rfl,jW⟩
  case rest=>
  obtain⟨rfl,jW⟩:=hcut;go_step;exact JO gW w _ b l _ ⟨⟨ca,b.cs.length,cc⟩,⟨fa,bD,fc⟩,⟨la,ln,lc⟩,⟨ba,bE,bc⟩⟩ ⟨y1,y2,y3,y4,⟨y5,l.sl.length,y7⟩,⟨y8,y9,dz⟩,⟨dA,dJ,cK⟩⟩ (JK.out.keep jW) HE.out _ rfl
 ·have HE:Hid (dY b ⟨wk,wu,wd,wi⟩=0):=ah (by
   unfold dY
   rw[if_pos HC.out,if_neg xI])
  have hle':wi≤dG b.free:=by omega
  have h0:0≤wi:=hw0.2;go_upto_region 15 with fail
  go_cut[11,12,13] (fun v11 v12 zh wx=>zh= .int .i64 0∧Below WC.heap.size WC wx∧wx.ownsRow w.heap.size 56 2 v11 (bY b.free wi).1.length (aR (bY b.free wi).1)∧wx.ownsRow w.heap.size 56 2 v12 (bY b.free wi).2.length (aR (bY b.free wi).2))
  case first=>
   go_wp2_with fail
   refine(Qs _ b.free wi WC (fD.keep HX.out.f JK.out.bC (aC _)) HB.out.fr.1 (by have:=HB.out.nf;omega) h0 hle').mono ?_;rintro e w9 ⟨v1,v2,rfl,nY,qN,_,jW⟩;go_wp2;go_meet;exact⟨rfl,jW,aN nY JK.out.bC.size,aN qN JK.out.bC.size⟩
  case rest=>
  obtain⟨rfl,jW,nY,qN⟩:=hcut;obtain⟨Et,c1,rfl,_,_⟩:=aO nY;obtain⟨ao2,c2,rfl,_,_⟩:=aO qN;go_step;exact NK gW w _ b l _ ⟨⟨ca,b.cs.length,cc⟩,⟨fa,bD,fc⟩,⟨la,ln,lc⟩,⟨ba,bE,bc⟩⟩ ⟨y1,y2,y3,y4,⟨y5,l.sl.length,y7⟩,⟨y8,y9,dz⟩,⟨dA,dJ,cK⟩⟩ Et ao2 _ c1 _ c2 ⟨Cb.out.bC.size,JK.out.keep jW,Cb.out.keep (JK.out.keep jW).bC⟩ HB.out OV.out HE.out nY qN _ rfl
end
section
attribute [local go_sem ↓] Go.wp_at_zero Go.wp_at_succ
theorem NM (gW w W:World) (b0:Bk) (l0:Ls) (wn:Wn) (x:dN) (y:cB) (hq:Wq w W x y wn) (hr:Rr gW w x b0 y l0) (hw:Hu b0 l0 wn) (hc:g_ b0 wn=0) {u0 u1 u2 u8 u9 u10 u11 u12 u13 u14 u15 u16 u17 u18 u19 u20 u21 u22 u23 u24 u25 u26 u27 u28 u29 u30 u31 u32 u33 u34 u35 u36 u37 u38 u39 u40 u41 u42 u43 u44 u45 u46 u47 u48 u49 u50 u51 u52 u53 u54 u55 u56 u57 u58 u59 u60 u61 u62 u63 u64 u65 u66 u67 u68 u69 u70 u71 u72 u73 u74 u75 u76 u77 u78 u79 u80 u81 u82 u83 u84 u85 u86 u87 u88 u89 u90 u91 u92 u93 u94 u95 u96 u97 u98 u99 u100 u101 u102 u103 u104 u105 u106 u107 u108 u109 u110 u111 u112 u113 u114 u115 u116 u117 u118 u119 u120 u121 u122 u123 u124 u125 u126 u127 u128 u129 u130 u131 u132 u133 u134 u135 u136 u137 u138 u139 u140 u141 u142 u143 u144 u145 u146 u147 u148 u149 u150 u151 u152 u153 u154 u155 u156 u157 u158 u159 u160 u161 u162 u163 u164 u165 u166 u167 u168 u169 u170 u171 u172 u173 u174 u175 u176 u177 u178 u179 u180 u181 u182 u183 u184 u185 u186 u187 u188 u189 u190 u191 u192 u193 u194 u195 u196 u197 u198 u199 u200 u201 u202:Value}:
  ∀c,Tryz.f78.body.bind (spine 3)=some c→Code.wp Tryz.prog c (bodyPost Tryz.prog Tryz.f78 (kV gW w b0 l0 wn)) ⟨#[u0,u1,u2,.pointer (some ⟨w.heap.size,0,none⟩),.pointer (some ⟨w.heap.size+1,0,none⟩),.pointer (some ⟨w.heap.size+1+1,0,none⟩),.pointer (some ⟨w.heap.size+1+1+1,0,none⟩),.pointer (some ⟨w.heap.size+1+1+1+1,0,none⟩),u8,u9,u10,u11,u12,u13,u14,u15,u16,u17,u18,u19,u20,u21,u22,u23,u24,u25,u26,u27,u28,u29,u30,u31,u32,u33,u34,u35,u36,u37,u38,u39,u40,u41,u42,u43,u44,u45,u46,u47,u48,u49,u50,u51,u52,u53,u54,u55,u56,u57,u58,u59,u60,u61,u62,u63,u64,u65,u66,u67,u68,u69,u70,u71,u72,u73,u74,u75,u76,u77,u78,u79,u80,u81,u82,u83,u84,u85,u86,u87,u88,u89,u90,u91,u92,u93,u94,u95,u96,u97,u98,u99,u100,u101,u102,u103,u104,u105,u106,u107,u108,u109,u110,u111,u112,u113,u114,u115,u116,u117,u118,u119,u120,u121,u122,u123,u124,u125,u126,u127,u128,u129,u130,u131,u132,u133,u134,u135,u136,u137,u138,u139,u140,u141,u142,u143,u144,u145,u146,u147,u148,u149,u150,u151,u152,u153,u154,u155,u156,u157,u158,u159,u160,u161,u162,u163,u164,u165,u166,u167,u168,u169,u170,u171,u172,u173,u174,u175,u176,u177,u178,u179,u180,u181,u182,u183,u184,u185,u186,u187,u188,u189,u190,u191,u192,u193,u194,u195,u196,u197,u198,u199,u200,u201,u202],[]⟩ W:=by
 refine dP rfl ?_;obtain⟨⟨ca,cn,cc⟩,⟨fa,bD,fc⟩,⟨la,ln,lc⟩,⟨ba,bE,bc⟩⟩:=x;obtain⟨y1,y2,y3,y4,⟨y5,y6,y7⟩,⟨y8,y9,dz⟩,⟨dA,dJ,cK⟩⟩:=y;obtain⟨wk,wu,wd,wi⟩:=wn;have hx:=hr.bk;have hy:=hr.ls;obtain⟨q3,q4,q5⟩:=Sl.lens (s:=⟨ca,cn,cc⟩) hx.c;obtain⟨r3,r4,r5⟩:=Sl.lens (s:=⟨y5,y6,y7⟩) hy.s;simp only at q3 q4 q5 r3 r4 r5;subst q3 r3;generalize b0=b at*;generalize l0=l at*;have Cb:=ah hr;have HX:=ah hx;have HY:=ah hy;have HB:=ah hw;have HC:=ah hc;have xM:=ah (iP hc).1;have DW:=ah hq;obtain⟨WA,Xb⟩:∃WA,WA=W:=⟨_,rfl⟩;subst Xb;clear hr hx hy hw hc hq;obtain⟨c0,c1,c2,c3,_⟩:=ay DW.out.k3;obtain⟨w0,w1,w2,w3,_⟩:=ay DW.out.k5;simp only[Sv.v]at c0 c1 c2 c3;go_wp2_with fail
 refine(mD ⟨⟨ca,b.cs.length,cc⟩,⟨fa,bD,fc⟩,⟨la,ln,lc⟩,⟨ba,bE,bc⟩⟩ b.cs wk WA (dI.keep HX.out.c DW.out.bC (aC _))).mono ?_;rintro e WB ⟨rfl,hbp⟩;have HQ:=ah (DW.out.keep hbp);clear DW hbp c0 c1 c2 c3 w0 w1 w2 w3;obtain⟨c0,c1,c2,c3,_⟩:=ay HQ.out.k3;obtain⟨e0,e1,e2,e3,e4,e5,e6,_⟩:=aB HQ.out.k4;obtain⟨w0,w1,w2,w3,_⟩:=ay HQ.out.k5;simp only[Sv.v]at c0 c1 c2 c3 e4 e5 e6;have TI:=ah (iP HC.out)
 have hw0:(0≤wu∧0≤wd)∧0≤wi∧wi≤50:=by
  have:=rG wk wu wd wi;rw[xM.out]at this;simp at this;omega
 have HEK:Hid (emp wk=true→bJ b.cs wk= -1):=ah (fun hE=>by
  rcases b_ (fun c:Ct=>decide (c.key=wk)) b.cs with⟨hi,_⟩ | ⟨i,hi,BZ,hp,_⟩
  ·exact hi
  ·have h1:=HB.out.key b.cs[i] (List.getElem_mem hi)
   have h2:b.cs[i].key=wk:=of_decide_eq_true hp;rw[h2,hE]at h1
   cases h1)
 go_upto_region 9 with fail
 go_cut[78] (fun v wx=>v= .bool false∧wx=WB)
 case first=>
  cases hE:emp wk with
  | false=>
   have hk:=(TI.out.2.resolve_left (by rw[hE];simp)).2.1;have hk':(0:Int)≤bJ b.cs wk:=by omega
   go_wp2;go_meet;exact⟨rfl,rfl⟩
  | true=>
   have hk':bJ b.cs wk<0:=by rw[HEK.out hE];decide
   have dH:¬ (0:Int)≤bJ b.cs wk:=by omega
   have hwk:=rz hE;subst hwk;go_wp2;go_meet;exact⟨rfl,rfl⟩
 case rest=>
 obtain⟨rfl,rV⟩:=hcut;rw[rV];clear rV;go_upto_region 11 with fail
 go_cut[93] (fun v wx=>v= .bool false∧wx=WB)
 case first=>
  cases hE:emp wk with
  | false=>
   obtain⟨m1,m2⟩:=yh hE;clear hE;go_wp2;go_meet;exact⟨rfl,rfl⟩
  | true=>
   have hud:¬0<wu+wd:=fun h=>by
    have h2:=vv (b:=b) (w:=⟨wk,wu,wd,wi⟩) xM.out hE h;rw[HC.out]at h2
    cases h2
   have hu0:wu=0:=by omega
   have hd0:wd=0:=by omega
   subst hu0 hd0;have hwk:=rz hE;subst hwk;clear hE;go_wp2;go_meet;exact⟨rfl,rfl⟩
 case rest=>
 obtain⟨rfl,rV⟩:=hcut;rw[rV];clear rV;go_upto_region 13 with fail
 go_cut[119] (fun v wx=>v= .bool false∧Below WB.heap.size WB wx)
 case first=>
  cases hE:emp wk with
  | false=>
   obtain⟨_,sF,hu,hd⟩:=TI.out.2.resolve_left (by rw[hE];simp)
   obtain⟨jj,hjj,lq⟩:∃jj:Nat,bJ b.cs wk=jj∧jj<b.cs.length:=by
    rcases b_ (fun c:Ct=>decide (c.key=wk)) b.cs with⟨hi,_⟩ | ⟨i,hi,BZ,_,_⟩
    ·have hi':bJ b.cs wk= -1:=hi
     omega
    ·exact⟨i,BZ,hi⟩
   have hct:kL b ⟨wk,wu,wd,wi⟩=b.cs[jj]:=by
    show b.cs.getD (bJ b.cs wk).toNat l8=_;rw[hjj,Int.toNat_natCast,List.getD_eq_getElem?_getD,List.getElem?_eq_getElem lq];rfl
   rw[hct]at hu hd
   have hu':¬b.cs[jj].up<wu:=by
    have h:wu≤b.cs[jj].up:=by simpa using hu
    omega
   have hd':¬b.cs[jj].down<wd:=by
    have h:wd≤b.cs[jj].down:=by simpa using hd
    omega
   have hmc:oN w (.slice ca b.cs.length cc) b.cs:=HX.out.c;obtain⟨pb,po,rfl,hpb,_,_,_,_,_,p5,p6⟩:=dI.ct hmc HQ.out.bC (aC _) jj lq;have aav:(jj:Int)<b.cs.length:=by omega
   have aaw:(0:Int)≤(jj:Int):=by omega
   clear hct hmc sF hu hd HEK TI HC hE;generalize b.cs[jj].up=cu at*;generalize b.cs[jj].down=cd at*;generalize bJ b.cs wk=q at*;subst hjj;go_wp2;go_quiet (fail)
   go_wp2;go_meet;exact⟨by simp[hu',hd'],below_drewN (aL _ _) _⟩
  | true=>
   have hq:=HEK.out hE;clear HEK TI HC hE;generalize bJ b.cs wk=q at*;subst hq;go_wp2;go_quiet (fail)
   go_wp2;go_meet;exact⟨rfl,below_drewN (aL _ _) _⟩
 case rest=>
 obtain⟨rfl,hbc⟩:=hcut;obtain⟨WC,hWC⟩:∃WC,WC=wc:=⟨_,rfl⟩;subst hWC;have JK:=ah (HQ.out.keep hbc);go_upto_if 119 with fail
 go_cut[] (fun wx=>wx=WC)
 case first=>
  go_wp2;go_meet;rfl
 case rest=>
 subst hcut;go_step;exact JQ gW w _ b l _ ⟨⟨ca,b.cs.length,cc⟩,⟨fa,bD,fc⟩,⟨la,ln,lc⟩,⟨ba,bE,bc⟩⟩ ⟨y1,y2,y3,y4,⟨y5,l.sl.length,y7⟩,⟨y8,y9,dz⟩,⟨dA,dJ,cK⟩⟩ JK.out Cb.out HB.out HC.out hw0.2.1 _ rfl
end
theorem Qw (gW:World) (x:dN) (b:Bk) (y:cB) (l:Ls) (wn:Wn) (w:World) (hr:Rr gW w x b y l) (hw:Hu b l wn) (hc:g_ b wn=0):
  Calls Tryz.prog 78 #[iJ x,o9 y,Un wn] w (kV gW w b l wn):=by
 obtain⟨⟨ca,cn,cc⟩,⟨fa,bD,fc⟩,⟨la,ln,lc⟩,⟨ba,bE,bc⟩⟩:=x;obtain⟨y1,y2,y3,y4,⟨y5,y6,y7⟩,⟨y8,y9,dz⟩,⟨dA,dJ,cK⟩⟩:=y;obtain⟨wk,wu,wd,wi⟩:=wn;have hx:=hr.bk;have hy:=hr.ls;obtain⟨q3,q4,q5⟩:=Sl.lens (s:=⟨ca,cn,cc⟩) hx.c;obtain⟨r3,r4,r5⟩:=Sl.lens (s:=⟨y5,y6,y7⟩) hy.s;simp only at q3 q4 q5 r3 r4 r5;subst q3 r3;obtain⟨W5,JG,hq⟩:=Ht w ⟨⟨ca,b.cs.length,cc⟩,⟨fa,bD,fc⟩,⟨la,ln,lc⟩,⟨ba,bE,bc⟩⟩ ⟨y1,y2,y3,y4,⟨y5,l.sl.length,y7⟩,⟨y8,y9,dz⟩,⟨dA,dJ,cK⟩⟩ ⟨wk,wu,wd,wi⟩;simp only[Sv.v]at JG;have HQ:=ah hq;have Cb:=ah hr;have HX:=ah hx;have HY:=ah hy;have HB:=ah hw;have HC:=ah hc;have HW5:=ah JG;clear hr hx hy JG hw hc;change Calls Tryz.prog _ #[.agg #[.slice ca b.cs.length cc,.slice fa bD fc,.slice la ln lc,.slice ba bE bc],.agg #[.int .i64 y1,.int .i64 y2,.int .i64 y3,.int .i64 y4,.slice y5 l.sl.length y7,.slice y8 y9 dz,.slice dA dJ cK],.agg #[.string wk,.int .i64 wu,.int .i64 wd,.int .i64 wi]] w _;obtain⟨c0,c1,c2,c3,_⟩:=ay hq.k3;obtain⟨e0,e1,e2,e3,e4,e5,e6,_⟩:=aB hq.k4;obtain⟨w0,w1,w2,w3,_⟩:=ay hq.k5;simp only[Sv.v]at c0 c1 c2 c3 e4 e5 e6
 go_enter Tryz.func78,Tryz.ntmps78
 go_upto_region 1 with fail
 rw[HW5.out];clear hq HW5
 go_cut[42] (fun v42 wx=>v42= .bool (!(wJ ⟨wk,wu,wd,wi⟩))∧wx=W5)
 case first=>
  go_wp2;all_goals go_meet
  all_goals
   refine⟨congrArg Value.bool ?_,rfl⟩;rw[rG,Bool.eq_iff_iff]
   try simp
   try omega
 case rest=>
 obtain⟨rfl,rV⟩:=hcut;rw[rV];clear rV
 cases hB:wJ ⟨wk,wu,wd,wi⟩with
 | false=>exact absurd HC.out (by rw[qA hB];decide)
 | true=>
  have xM:=ah hB;clear hB;go_upto_block 0 with fail
  go_cut[9] (fun _v9 wx=>Below W5.heap.size W5 wx)
  case first=>
   go_wp2
   go_loopw[9] (fun i wr=>∃k:Nat,k≤l.sl.length∧i= .int .i64 k∧Below W5.heap.size W5 wr) (fun i _=>l.sl.length-(intOf i).toNat)
   case atStart=>exact⟨0,Nat.zero_le _,rfl,aL _ _⟩
   case round=>
    obtain⟨k,hk,rfl,hb⟩:=hrel;have Xc:=ah (HQ.out.keep hb);have hys:Eh w (.slice y5 l.sl.length y7) l.sl:=HY.out.s;clear c0 c1 c2 c3 e0 e1 e2 e3 e4 e5 e6 w0 w1 w2 w3;obtain⟨e0,e1,e2,e3,e4,e5,e6,_⟩:=aB Xc.out.k4;obtain⟨w0,w1,w2,w3,_⟩:=ay Xc.out.k5;simp only[Sv.v]at e4 e5 e6;by_cases bA:k<l.sl.length
    ·have jK:(k:Int)<l.sl.length:=by omega
     obtain⟨sb,so,rfl,Lh,s0,_⟩:=dI.sc hys Xc.out.bC (aC _) k bA;have HNW:=ah (fun h=>HB.out.new h l.sl[k] (List.getElem_mem _));generalize l.sl[k].key=sk at*;clear hys;have iw:IntKind.i64.wrap ((k:Int)+1)=(k:Int)+1:=IntWalk.i64_in _ (by have:=HB.out.ns;omega)
     cases hE:emp wk with
     | false=>
      obtain⟨m1,m2⟩:=yh hE
      have eP:(sk.toList==wk.toList)=false:=by
       have:=HNW.out hE;simp only[beq_eq_false_iff_ne,ne_eq];intro h;rw[ByteArray.toList_eq,ByteArray.toList_eq]at h;exact this (ByteArray.ext (Array.toList_inj.1 h))
      clear hE;go_wp2;go_quiet (fail)
      go_wp2;go_roundw
      case rel=>exact⟨k+1,by omega,by go_num,below_drewN hb _⟩
      case measure=>simp[intOf];omega
     | true=>
      have hwk:=rz hE;subst hwk;clear hE;go_wp2;go_quiet (fail)
      go_wp2;go_roundw
      case rel=>exact⟨k+1,by omega,by go_num,below_drewN hb _⟩
      case measure=>simp[intOf];omega
    ·have jK:¬ (k:Int)<l.sl.length:=by omega
     go_wp2;go_meet;exact hb
  case rest=>
  go_step;exact NM gW w _ b l _ ⟨⟨ca,b.cs.length,cc⟩,⟨fa,bD,fc⟩,⟨la,ln,lc⟩,⟨ba,bE,bc⟩⟩ ⟨y1,y2,y3,y4,⟨y5,l.sl.length,y7⟩,⟨y8,y9,dz⟩,⟨dA,dJ,cK⟩⟩ (HQ.out.keep hcut) Cb.out HB.out HC.out _ rfl
end Go.Proofs.YtlfopoimbbpfdaaGreat
