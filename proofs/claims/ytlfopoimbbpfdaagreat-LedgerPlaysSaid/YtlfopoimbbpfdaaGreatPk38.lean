/- What the law asks, in parts: Bj Bk Bl. -/
import Derived.Deep.DrawnRows
import Derived.Test.YtlfopoimbbpfdaaGreatPk37
import Derived.Test.YtlfopoimbbpfdaaGreatPk36
import Derived.Test.YtlfopoimbbpfdaaGreatPk16
set_option linter.all false
namespace Go.Proofs.YtlfopoimbbpfdaaGreat
open Go.RowKit
attribute [local go_sem ↓] Go.wp_at_zero Go.wp_at_succ
set_option maxRecDepth 100000 in
set_option maxHeartbeats 8000000 in
theorem Mq (w W:World) (x:ow) (ya yb:bZ) (b:Bk) (dev ep:Int) (va:Option Addr) (wn vc:Nat) (ws:List Wn) (h:Dq w W x ya yb) (hya:eD w ya b) (hyb:eD w yb b) (hws:oH W (.slice va wn vc) ws) (hG:Kw b) (hR:RI b) (hk:x.kind%8≤2) (b2:Bk) (hb2:b2=(fM b dev ep (x.n%100) ws).1) (u0 u1 u2 u8 u12 u13 u14 u15 u16 u17 u18 u19 u20 u21 u22 u23 u24 u25 u26 u27 u28 u29 u30 u31 u32 u33 u34 u35 u36 u37 u38 u39 u40 u41 u42 u43 u44 u45 u46 u47 u48 u49 u50 u51 u52 u53 u54 u55 u56 u57 u58 u59 u60 u61 u62 u63 u64 u65 u66 u67 u68 u69 u70 u71 u72 u73 u74 u75 u76 u77 u78 u79 u80 u81 u82 u83 u84 u85 u86 u87 u88 u89 u90 u91 u92 u93 u94 u95 u96 u97 u98 u99 u100 u101 u102 u103 u104 u105 u106 u107 u108 u109 u110 u111 u112 u113 u114 u115 u116 u117 u118 u119 u120 u121 u122 u123 u124 u125 u126 u127 u128 u129 u130 u131 u132 u133 u134 u135 u136 u137 u138 u139 u140 u141 u142 u143 u144 u145 u146 u147 u148 u149 u150 u151 u152 u153 u154 u155 u156 u157 u158 u159 u160 u161 u162 u163 u164 u165 u166 u167 u168 u169 u170 u171 u172 u173 u174 u175 u176 u177 u178 u179 u180 u181 u182 u183 u184 u185 u186 u187 u188 u189 u190 u191 u192 u193 u194 u195 u196 u197 u198 u199 u200 u201 u202 u203 u204 u205 u206 u207 u208 u209 u210 u211 u212 u213 u214 u215 u216 u217 u218 u219 u220 u221 u222 u223 u224 u225 u226 u227 u228 u229 u230 u231 u232 u233 u234 u235 u236 u237 u238:Value):
  ∀c,Tryz.f10.body.bind (spine 5)=some c→Code.wp Tryz.prog c (bodyPost Tryz.prog Tryz.f10 (nD w b2)) ⟨#[u0,u1,u2,.pointer (some ⟨w.heap.size,0,none⟩),.pointer (some ⟨w.heap.size+1,0,none⟩),.pointer (some ⟨w.heap.size+1+1,0,none⟩),.pointer (some ⟨w.heap.size+1+1+1,0,none⟩),.pointer (some ⟨w.heap.size+1+1+1+1,0,none⟩),u8,.int .i64 dev,.int .i64 ep,.slice va wn vc,u12,u13,u14,u15,u16,u17,u18,u19,u20,u21,u22,u23,u24,u25,u26,u27,u28,u29,u30,u31,u32,u33,u34,u35,u36,u37,u38,u39,u40,u41,u42,u43,u44,u45,u46,u47,u48,u49,u50,u51,u52,u53,u54,u55,u56,u57,u58,u59,u60,u61,u62,u63,u64,u65,u66,u67,u68,u69,u70,u71,u72,u73,u74,u75,u76,u77,u78,u79,u80,u81,u82,u83,u84,u85,u86,u87,u88,u89,u90,u91,u92,u93,u94,u95,u96,u97,u98,u99,u100,u101,u102,u103,u104,u105,u106,u107,u108,u109,u110,u111,u112,u113,u114,u115,u116,u117,u118,u119,u120,u121,u122,u123,u124,u125,u126,u127,u128,u129,u130,u131,u132,u133,u134,u135,u136,u137,u138,u139,u140,u141,u142,u143,u144,u145,u146,u147,u148,u149,u150,u151,u152,u153,u154,u155,u156,u157,u158,u159,u160,u161,u162,u163,u164,u165,u166,u167,u168,u169,u170,u171,u172,u173,u174,u175,u176,u177,u178,u179,u180,u181,u182,u183,u184,u185,u186,u187,u188,u189,u190,u191,u192,u193,u194,u195,u196,u197,u198,u199,u200,u201,u202,u203,u204,u205,u206,u207,u208,u209,u210,u211,u212,u213,u214,u215,u216,u217,u218,u219,u220,u221,u222,u223,u224,u225,u226,u227,u228,u229,u230,u231,u232,u233,u234,u235,u236,u237,u238],[]⟩ W:=by
 refine dH rfl ?_
 obtain⟨⟨ca,cn,cc⟩,⟨fa,aX,fc⟩,⟨la,ln,lc⟩,⟨ba,b_n,bc⟩⟩:=ya
 obtain⟨⟨ga,gn,gc⟩,⟨ha,h_n,hc⟩,⟨ia,dz,ic⟩,⟨ja,jn,jc⟩⟩:=yb
 obtain⟨xk,xd,xn,⟨vZ,wh,wm⟩,xo⟩:=x
 simp only at hk hb2
 obtain⟨⟨gb,gl,ge⟩,hgr⟩:∃g,fM b dev ep (xn%100) ws=g:=⟨_,rfl⟩
 rw[hgr]at hb2
 simp only at hb2
 subst hb2
 have n_:=ah h
 have jU:=ah hya
 have o_:=ah hyb
 have SA:=ah hws
 have Xp:=ah hG
 have MX:=ah hR
 have j5:=ah hgr
 have hk0:=Int.emod_nonneg xk (show (8:Int)≠0 by omega)
 have e0:W.cell? ⟨w.heap.size,0,none⟩=some (.int .i64 xk):=by
  have:=h.k3
  simp only[World.cell?,this]
  rfl
 have NV:=(bg h.k7).1
 clear h hya hyb hws hG hR hgr
 go_upto_if 56 with((go_at_call 18;refine(iI xk 8 W (by omega) (by omega)).mono ?_);rintro en w9 ⟨rfl,P7⟩;rw[P7];clear P7)
 go_cut[56] (fun v56 wx=>v56= .bool true∧wx=W)
 case first=>
  have hm:xk%8=0∨xk%8=1∨xk%8=2:=by omega
  generalize xk%8=m at*
  rcases hm with rfl | rfl | rfl
  all_goals go_wp2
  all_goals go_meet
  all_goals exact⟨rfl,rfl⟩
 case rest=>
 obtain⟨rfl,hwc⟩:=hcut
 rw[hwc]
 clear hwc e0 hk0 hk
 go_upto_region 10 with fail
 go_cut[13,14,15] (fun v13 v14 v15 wx=>∃ (gP gJ:Nat) (y:bZ) (z:bV),v13= .pointer (some ⟨gP,0,none⟩)∧v14= .pointer (some ⟨gJ,0,none⟩)∧v15= .int .i64 ge∧wx.heap[gP]? =some (.cells #[y.c.v,y.f.v,y.l.v,y.b.v] 30 (0,0))∧wx.heap[gJ]? =some (.cells #[.int .i64 z.dev,.int .i64 z.epoch,.int .i64 z.bY,.int .i64 z.last,z.s.v,z.i.v,z.u.v] 48 (0,0))∧eD wx y b2∧lW wx z gl∧Below W.heap.size W wx∧W.heap.size≤gP∧W.heap.size≤gJ)
 case first=>
  rename_i J K hJ hK
  refine wp_mono (Sw w W xk xd xn ⟨vZ,wh,wm⟩ xo ⟨⟨ca,cn,cc⟩,⟨fa,aX,fc⟩,⟨la,ln,lc⟩,⟨ba,b_n,bc⟩⟩ ⟨⟨ga,gn,gc⟩,⟨ha,h_n,hc⟩,⟨ia,dz,ic⟩,⟨ja,jn,jc⟩⟩ b dev ep va wn vc ws n_.out jU.out SA.out Xp.out b2 gl ge j5.out _ _ _ _ _ _ _ _ _ _ _ _ _ _ _ _ _ _ _ _ _ _ _ _ _ _ _ _ _ _ _ _ _ _ _ _ _ _ _ _ _ _ _ _ _ _ _ _ _ _ _ _ _ _ _ _ _ _ _ _ _ _ _ _ _ _ _ _ _ _ _ _ _ _ _ _ _ _ _ _ _ _ _ _ _ _ _ _ _ _ _ _ _ _ _ _ _ _ _ _ _ _ _ _ _ _ _ _ _ _ _ _ _ _ _ _ _ _ _ _ _ _ _ _ _ _ _ _ _ _ _ _ _ _ _ _ _ _ _ _ _ _ _ _ _ _ _ _ _ _ _ _ _ _ _ _ _ _ _ _ _ _ _ _ _ _ _ _ _ _ _ _ _ _ _ _ _ _ _ _ _ _ _ _ _ _ _ _ _ _ _ _ _ _ _ _ _ _ _ _ _ _ _ _ _ _ _ _ _ _ _ _ _ _ _ _ _ _ _ _ _ _ _ _ _ _ _ _ _ _ _ K (fun a' w' hq=>by
   obtain⟨v13,v14,v15,v60,v61,v62,v63,v64,v65,v66,v67,v68,v69,v70,v71,hrel,ha⟩:=hq
   dsimp only at ha
   subst ha
   refine hK _ _ (Met.intro (hJ _ _ ?_))
   (repeat apply Exists.intro)
   exact⟨hrel,rfl⟩) _ rfl) ?_
  intro e a' w' hq
  cases e with
  | normal=>exact hq
  | _=>exact hq.elim
 case rest=>
 obtain⟨gP,gJ,y,z,rfl,rfl,rfl,k13,k14,hy,hz,hb,af0,af2⟩:=hcut
 have Ac:=ah (n_.out.keep hb)
 have Xq:=ah (cK.keep SA.out hb (aC _))
 have SB:=ah k13
 have SC:=ah k14
 have Xr:=ah hy
 have Xt:=ah hz
 obtain⟨WA,RD⟩:∃WA,WA=wc:=⟨_,rfl⟩
 subst RD
 have wK:=hb.size
 clear k13 k14 hy hz hb n_ SA Xp jU
 go_upto_region 11 with fail
 go_cut[16,17,18] (fun v16 v17 v18 wx=>∃ (p16 vV:Nat) (y2:bZ) (z2:bV),v16= .pointer (some ⟨p16,0,none⟩)∧v17= .pointer (some ⟨vV,0,none⟩)∧v18= .int .i64 ge∧wx.heap[p16]? =some (.cells #[y2.c.v,y2.f.v,y2.l.v,y2.b.v] 30 (0,0))∧wx.heap[vV]? =some (.cells #[.int .i64 z2.dev,.int .i64 z2.epoch,.int .i64 z2.bY,.int .i64 z2.last,z2.s.v,z2.i.v,z2.u.v] 48 (0,0))∧eD wx y2 b2∧lW wx z2 gl∧Below WA.heap.size WA wx∧WA.heap.size≤p16∧WA.heap.size≤vV)
 case first=>
  rename_i J K hJ hK
  refine wp_mono (Sz w WA xk xd xn ⟨vZ,wh,wm⟩ xo ⟨⟨ca,cn,cc⟩,⟨fa,aX,fc⟩,⟨la,ln,lc⟩,⟨ba,b_n,bc⟩⟩ ⟨⟨ga,gn,gc⟩,⟨ha,h_n,hc⟩,⟨ia,dz,ic⟩,⟨ja,jn,jc⟩⟩ b dev ep va wn vc ws Ac.out o_.out Xq.out MX.out b2 gl ge j5.out _ _ _ _ _ _ _ _ _ _ _ _ _ _ _ _ _ _ _ _ _ _ _ _ _ _ _ _ _ _ _ _ _ _ _ _ _ _ _ _ _ _ _ _ _ _ _ _ _ _ _ _ _ _ _ _ _ _ _ _ _ _ _ _ _ _ _ _ _ _ _ _ _ _ _ _ _ _ _ _ _ _ _ _ _ _ _ _ _ _ _ _ _ _ _ _ _ _ _ _ _ _ _ _ _ _ _ _ _ _ _ _ _ _ _ _ _ _ _ _ _ _ _ _ _ _ _ _ _ _ _ _ _ _ _ _ _ _ _ _ _ _ _ _ _ _ _ _ _ _ _ _ _ _ _ _ _ _ _ _ _ _ _ _ _ _ _ _ _ _ _ _ _ _ _ _ _ _ _ _ _ _ _ _ _ _ _ _ _ _ _ _ _ _ _ _ _ _ _ _ _ _ _ _ _ _ _ _ _ _ _ _ _ _ _ _ _ _ _ _ _ _ _ _ _ _ _ _ _ _ _ K (fun a' w' hq=>by
   obtain⟨v16,v17,v18,v72,v73,v74,v75,v76,v77,v78,v79,v80,v81,v82,v83,hrel,ha⟩:=hq
   dsimp only at ha
   subst ha
   refine hK _ _ (Met.intro (hJ _ _ ?_))
   (repeat apply Exists.intro)
   exact⟨hrel,rfl⟩) _ rfl) ?_
  intro e a' w' hq
  cases e with
  | normal=>exact hq
  | _=>exact hq.elim
 case rest=>
 obtain⟨p16,vV,y2,z2,rfl,rfl,rfl,k16,k17,hy2,hz2,hb,af3,af4⟩:=hcut
 have HQ:=ah (Ac.out.keep hb)
 have Wj:=(bg SB.out).1
 have Wl:=(bg SC.out).1
 have P8:=ah (aj SB.out hb Wj)
 have SE:=ah (aj SC.out hb Wl)
 have HY:=ah (Xr.out.keep hb (aC _))
 have M_:=ah (Xt.out.keep hb (aC _))
 have P9:=ah k16
 have SF:=ah k17
 have HZ:=ah hy2
 have HZL:=ah hz2
 have adB:w.heap.size+1+1+1+1<gP:=by omega
 have adC:w.heap.size+1+1+1+1<gJ:=by omega
 have adD:w.heap.size+1+1+1+1<p16:=by omega
 have adE:w.heap.size+1+1+1+1<vV:=by omega
 obtain⟨WB,hWB⟩:∃WB,WB=wc:=⟨_,rfl⟩
 subst hWB
 clear k16 k17 hy2 hz2 hb Ac Xq SB SC Xr Xt MX j5
 obtain⟨⟨ca,cn,cc⟩,⟨fa,aX,fc⟩,⟨la,ln,lc⟩,⟨ba,b_n,bc⟩⟩:=y
 obtain⟨⟨ga,gn,gc⟩,⟨ha,h_n,hc⟩,⟨ia,dz,ic⟩,⟨ja,jn,jc⟩⟩:=y2
 obtain⟨y1,y2,y3,y4,⟨y5,y6,y7⟩,⟨y8,y9,bW⟩,⟨bX,cB,y13⟩⟩:=z
 obtain⟨z1,z2,z3,z4,⟨z5,z6,z7⟩,⟨z8,z9,dD⟩,⟨dI,z12,dJ⟩⟩:=z2
 go_upto_region 12 with fail
 refine aS 17 (fun w'=>dR gP p16 WB w'∧dR gJ vV WB w') (by kernel_rfl) ?_
 have hS0:dR gP p16 WB WB.drew∧dR gJ vV WB WB.drew:=⟨⟨rfl,rfl⟩,⟨rfl,rfl⟩⟩
 refine aD (i:=0) (v:=.agg #[.slice ca cn cc,.slice fa aX fc,.slice la ln lc,.slice ba b_n bc]) rfl rfl (by kernel_rfl) (by kernel_rfl) (by kernel_rfl) (by kernel_rfl) (by kernel_rfl) (by decide) (fun _ _ _ h=>h) (.inl ⟨rfl,fun w' hw=>?_⟩) hS0 ?_
 ·obtain⟨a0,a1,a2,a3,_⟩:=ay (hw.1.1.trans P8.out)
  simp only[Sv.v]at a0 a1 a2 a3
  go_simp
 refine aD (i:=1) (v:=.agg #[.slice ga gn gc,.slice ha h_n hc,.slice ia dz ic,.slice ja jn jc]) rfl rfl (by kernel_rfl) (by kernel_rfl) (by kernel_rfl) (by kernel_rfl) (by kernel_rfl) (by decide) (fun _ _ _ h=>h) (.inl ⟨rfl,fun w' hw=>?_⟩) hS0 ?_
 ·obtain⟨a0,a1,a2,a3,_⟩:=ay (hw.1.2.trans P9.out)
  simp only[Sv.v]at a0 a1 a2 a3
  go_simp
 refine aG (i:=2) (v:=.int .i64 ge) rfl (by kernel_rfl) (by kernel_rfl) (by kernel_rfl) (by decide) (fun _ _ _ h=>h) (.inl ⟨rfl,fun w' _=>?_⟩) hS0 ?_
 ·go_simp
 refine aG (i:=3) (v:=.int .i64 ge) rfl (by kernel_rfl) (by kernel_rfl) (by kernel_rfl) (by decide) (fun _ _ _ h=>h) (.inl ⟨rfl,fun w' _=>?_⟩) hS0 ?_
 ·go_simp
 refine aG (i:=4) (v:=.bool true) rfl (by kernel_rfl) (by kernel_rfl) (by kernel_rfl) (by decide) (fun _ _ _ h=>h) (.inl ⟨rfl,fun w' _=>?_⟩) hS0 ?_
 ·go_simp
 refine aG (i:=5) (v:=.bool true) rfl (by kernel_rfl) (by kernel_rfl) (by kernel_rfl) (by decide) (fun _ _ _ h=>h) (.inl ⟨rfl,fun w' _=>?_⟩) hS0 ?_
 ·go_simp
 refine aD (i:=6) (v:=.agg #[.int .i64 y1,.int .i64 y2,.int .i64 y3,.int .i64 y4,.slice y5 y6 y7,.slice y8 y9 bW,.slice bX cB y13]) rfl rfl (by kernel_rfl) (by kernel_rfl) (by kernel_rfl) (by kernel_rfl) (by kernel_rfl) (by decide) (fun _ _ _ h=>h) (.inl ⟨by go_simp,fun w' hw=>?_⟩) hS0 ?_
 ·obtain⟨a0,a1,a2,a3,a4,a5,a6,_⟩:=aB (hw.2.1.trans SE.out)
  simp only[Sv.v]at a4 a5 a6
  go_simp
 refine aD (i:=7) (v:=.agg #[.int .i64 z1,.int .i64 z2,.int .i64 z3,.int .i64 z4,.slice z5 z6 z7,.slice z8 z9 dD,.slice dI z12 dJ]) rfl rfl (by kernel_rfl) (by kernel_rfl) (by kernel_rfl) (by kernel_rfl) (by kernel_rfl) (by decide) (fun _ _ _ h=>h) (.inl ⟨by go_simp,fun w' hw=>?_⟩) hS0 ?_
 ·obtain⟨a0,a1,a2,a3,a4,a5,a6,_⟩:=aB (hw.2.2.trans SF.out)
  simp only[Sv.v]at a4 a5 a6
  go_simp
 refine kT (i:=8) (by kernel_rfl) rfl (by go_simp) ?_
 go_simp
 refine(j4 ⟨y1,y2,y3,y4,⟨y5,y6,y7⟩,⟨y8,y9,bW⟩,⟨bX,cB,y13⟩⟩ ⟨z1,z2,z3,z4,⟨z5,z6,z7⟩,⟨z8,z9,dD⟩,⟨dI,z12,dJ⟩⟩ gl gl WB.drew (M_.out.keep (aL _ _).drew (aC _)) (HZL.out.keep (aL _ _).drew (aC _))).mono ?_
 rw[decide_eq_true rfl]
 rintro en V1 ⟨rfl,hb_⟩
 have DT:Below WB.heap.size WB V1:=(aL WB.heap.size WB).drew.trans hb_
 have hS2:dR gP p16 WB V1∧dR gJ vV WB V1:=⟨⟨(aj P8.out DT (bg P8.out).1).trans P8.out.symm,(aj P9.out DT (bg P9.out).1).trans P9.out.symm⟩,⟨(aj SE.out DT (bg SE.out).1).trans SE.out.symm,(aj SF.out DT (bg SF.out).1).trans SF.out.symm⟩⟩
 refine⟨hS2,?_⟩
 have hS0:=hS2
 refine aG (i:=9) (v:=.bool true) rfl (by kernel_rfl) (by kernel_rfl) (by kernel_rfl) (by decide) (fun _ _ _ h=>h) (.inl ⟨rfl,fun w' _=>?_⟩) hS0 ?_
 ·go_simp
 refine aG (i:=10) (v:=.bool true) rfl (by kernel_rfl) (by kernel_rfl) (by kernel_rfl) (by decide) (fun _ _ _ h=>h) (.inl ⟨rfl,fun w' _=>?_⟩) hS0 ?_
 ·go_simp
 refine aD (i:=11) (v:=.agg #[.slice ca cn cc,.slice fa aX fc,.slice la ln lc,.slice ba b_n bc]) rfl rfl (by kernel_rfl) (by kernel_rfl) (by kernel_rfl) (by kernel_rfl) (by kernel_rfl) (by decide) (fun _ _ _ h=>h) (.inl ⟨by go_simp,fun w' hw=>?_⟩) hS0 ?_
 ·obtain⟨a0,a1,a2,a3,_⟩:=ay (hw.1.1.trans P8.out)
  simp only[Sv.v]at a0 a1 a2 a3
  go_simp
 refine aD (i:=12) (v:=.agg #[.slice ga gn gc,.slice ha h_n hc,.slice ia dz ic,.slice ja jn jc]) rfl rfl (by kernel_rfl) (by kernel_rfl) (by kernel_rfl) (by kernel_rfl) (by kernel_rfl) (by decide) (fun _ _ _ h=>h) (.inl ⟨by go_simp,fun w' hw=>?_⟩) hS0 ?_
 ·obtain⟨a0,a1,a2,a3,_⟩:=ay (hw.1.2.trans P9.out)
  simp only[Sv.v]at a0 a1 a2 a3
  go_simp
 refine kT (i:=13) (by kernel_rfl) rfl (by go_simp) ?_
 go_simp
 refine(pF ⟨⟨ca,cn,cc⟩,⟨fa,aX,fc⟩,⟨la,ln,lc⟩,⟨ba,b_n,bc⟩⟩ ⟨⟨ga,gn,gc⟩,⟨ha,h_n,hc⟩,⟨ia,dz,ic⟩,⟨ja,jn,jc⟩⟩ b2 b2 V1 (HY.out.keep DT (aC _)) (HZ.out.keep DT (aC _))).mono ?_
 rw[decide_eq_true rfl]
 rintro en W2 ⟨rfl,hb_⟩
 have hb2':Below WB.heap.size WB W2:=DT.trans (hb_.mono DT.size)
 have hS2:dR gP p16 WB W2∧dR gJ vV WB W2:=⟨⟨(aj P8.out hb2' (bg P8.out).1).trans P8.out.symm,(aj P9.out hb2' (bg P9.out).1).trans P9.out.symm⟩,⟨(aj SE.out hb2' (bg SE.out).1).trans SE.out.symm,(aj SF.out hb2' (bg SF.out).1).trans SF.out.symm⟩⟩
 refine⟨hS2,?_⟩
 have hS0:=hS2
 have dO:=ah (HQ.out.keep hb2')
 have Im:=ah (HY.out.keep hb2' (aC _))
 have HZ2:=ah (HZ.out.keep hb2' (aC _))
 refine aG (i:=14) (v:=.bool true) rfl (by kernel_rfl) (by kernel_rfl) (by kernel_rfl) (by decide) (fun _ _ _ h=>h) (.inl ⟨rfl,fun w' _=>?_⟩) hS0 ?_
 ·go_simp
 obtain⟨a0,a1,a2,a3,_⟩:=ay dO.out.k6
 have f0:=aA dO.out.k6 0
 have f1:=aA dO.out.k6 1
 have f2:=aA dO.out.k6 2
 have f3:=aA dO.out.k6 3
 have iy:Hid (∀c,c≠w.heap.size+1+1+1→((((W2.setCell ⟨w.heap.size+1+1+1,0,none⟩ (.slice ca cn cc)).setCell ⟨w.heap.size+1+1+1,1,none⟩ (.slice fa aX fc)).setCell ⟨w.heap.size+1+1+1,2,none⟩ (.slice la ln lc)).setCell ⟨w.heap.size+1+1+1,3,none⟩ (.slice ba b_n bc)).heap[c]? =W2.heap[c]?):=ah (fun c hc=>bF W2 (w.heap.size+1+1+1) c (fun e=>hc e.symm) _ _ _ _ 0 1 2 3)
 have qZ:Hid (((((W2.setCell ⟨w.heap.size+1+1+1,0,none⟩ (.slice ca cn cc)).setCell ⟨w.heap.size+1+1+1,1,none⟩ (.slice fa aX fc)).setCell ⟨w.heap.size+1+1+1,2,none⟩ (.slice la ln lc)).setCell ⟨w.heap.size+1+1+1,3,none⟩ (.slice ba b_n bc)).heap[w.heap.size+1+1+1]? =some (.cells #[.slice ca cn cc,.slice fa aX fc,.slice la ln lc,.slice ba b_n bc] 30 (0,0))):=ah (by
  have h6:=dO.out.k6
  simp[World.setCell,Array.getElem?_modify,h6])
 have HB3:Hid (Below w.heap.size w ((((W2.setCell ⟨w.heap.size+1+1+1,0,none⟩ (.slice ca cn cc)).setCell ⟨w.heap.size+1+1+1,1,none⟩ (.slice fa aX fc)).setCell ⟨w.heap.size+1+1+1,2,none⟩ (.slice la ln lc)).setCell ⟨w.heap.size+1+1+1,3,none⟩ (.slice ba b_n bc))):=ah (kS dO.out.aZ (by omega) _ _ _ _)
 have HZ3:Hid (W2.heap.size≤((((W2.setCell ⟨w.heap.size+1+1+1,0,none⟩ (.slice ca cn cc)).setCell ⟨w.heap.size+1+1+1,1,none⟩ (.slice fa aX fc)).setCell ⟨w.heap.size+1+1+1,2,none⟩ (.slice la ln lc)).setCell ⟨w.heap.size+1+1+1,3,none⟩ (.slice ba b_n bc)).heap.size):=ah (by simp)
 refine aF (i:=15) (by kernel_rfl) rfl rfl ?_
 go_simp
 try rw[jr]
 generalize ((((W2.setCell ⟨w.heap.size+1+1+1,0,none⟩ (.slice ca cn cc)).setCell ⟨w.heap.size+1+1+1,1,none⟩ (.slice fa aX fc)).setCell ⟨w.heap.size+1+1+1,2,none⟩ (.slice la ln lc)).setCell ⟨w.heap.size+1+1+1,3,none⟩ (.slice ba b_n bc))=W3 at*
 have pU:dR gP p16 WB W3∧dR gJ vV WB W3:=⟨⟨(iy.out _ (by omega)).trans hS2.1.1,(iy.out _ (by omega)).trans hS2.1.2⟩,⟨(iy.out _ (by omega)).trans hS2.2.1,(iy.out _ (by omega)).trans hS2.2.2⟩⟩
 first | refine⟨pU,?_⟩ | skip
 clear a0 a1 a2 a3 f0 f1 f2 f3
 have k7:=(iy.out (w.heap.size+1+1+1+1) (by omega)).trans dO.out.k7
 have qP:=ah k7
 obtain⟨a0,a1,a2,a3,_⟩:=ay k7
 have f0:=aA k7 0
 have f1:=aA k7 1
 have f2:=aA k7 2
 have f3:=aA k7 3
 have lM:Hid (∀c,c≠w.heap.size+1+1+1+1→((((W3.setCell ⟨w.heap.size+1+1+1+1,0,none⟩ (.slice ga gn gc)).setCell ⟨w.heap.size+1+1+1+1,1,none⟩ (.slice ha h_n hc)).setCell ⟨w.heap.size+1+1+1+1,2,none⟩ (.slice ia dz ic)).setCell ⟨w.heap.size+1+1+1+1,3,none⟩ (.slice ja jn jc)).heap[c]? =W3.heap[c]?):=ah (fun c hc=>bF W3 (w.heap.size+1+1+1+1) c (fun e=>hc e.symm) _ _ _ _ 0 1 2 3)
 have BH:Hid (((((W3.setCell ⟨w.heap.size+1+1+1+1,0,none⟩ (.slice ga gn gc)).setCell ⟨w.heap.size+1+1+1+1,1,none⟩ (.slice ha h_n hc)).setCell ⟨w.heap.size+1+1+1+1,2,none⟩ (.slice ia dz ic)).setCell ⟨w.heap.size+1+1+1+1,3,none⟩ (.slice ja jn jc)).heap[w.heap.size+1+1+1+1]? =some (.cells #[.slice ga gn gc,.slice ha h_n hc,.slice ia dz ic,.slice ja jn jc] 30 (0,0))):=ah (by
  have h6:=qP.out
  simp[World.setCell,Array.getElem?_modify,h6])
 have jd:Hid (Below w.heap.size w ((((W3.setCell ⟨w.heap.size+1+1+1+1,0,none⟩ (.slice ga gn gc)).setCell ⟨w.heap.size+1+1+1+1,1,none⟩ (.slice ha h_n hc)).setCell ⟨w.heap.size+1+1+1+1,2,none⟩ (.slice ia dz ic)).setCell ⟨w.heap.size+1+1+1+1,3,none⟩ (.slice ja jn jc))):=ah (kS HB3.out (by omega) _ _ _ _)
 have DR:Hid (W3.heap.size≤((((W3.setCell ⟨w.heap.size+1+1+1+1,0,none⟩ (.slice ga gn gc)).setCell ⟨w.heap.size+1+1+1+1,1,none⟩ (.slice ha h_n hc)).setCell ⟨w.heap.size+1+1+1+1,2,none⟩ (.slice ia dz ic)).setCell ⟨w.heap.size+1+1+1+1,3,none⟩ (.slice ja jn jc)).heap.size):=ah (by simp)
 clear k7
 refine aF (i:=16) (by kernel_rfl) rfl rfl ?_
 go_simp
 generalize ((((W3.setCell ⟨w.heap.size+1+1+1+1,0,none⟩ (.slice ga gn gc)).setCell ⟨w.heap.size+1+1+1+1,1,none⟩ (.slice ha h_n hc)).setCell ⟨w.heap.size+1+1+1+1,2,none⟩ (.slice ia dz ic)).setCell ⟨w.heap.size+1+1+1+1,3,none⟩ (.slice ja jn jc))=W4 at*
 have Ov:dR gP p16 WB W4∧dR gJ vV WB W4:=⟨⟨(lM.out _ (by omega)).trans pU.1.1,(lM.out _ (by omega)).trans pU.1.2⟩,⟨(lM.out _ (by omega)).trans pU.2.1,(lM.out _ (by omega)).trans pU.2.2⟩⟩
 first | refine⟨Ov,?_⟩ | skip
 clear a0 a1 a2 a3 f0 f1 f2 f3
 refine aF (i:=17) (by kernel_rfl) rfl rfl ?_
 go_simp
 refine aT (by kernel_rfl) ?_
 obtain⟨a0,a1,a2,a3,_⟩:=ay ((lM.out (w.heap.size+1+1+1) (by omega)).trans qZ.out)
 obtain⟨b0,b1,b2,b3,_⟩:=ay BH.out
 go_wp2
 refine bodyPost_ret (v:=.tuple #[.agg #[.slice ca cn cc,.slice fa aX fc,.slice la ln lc,.slice ba b_n bc],.agg #[.slice ga gn gc,.slice ha h_n hc,.slice ia dz ic,.slice ja jn jc],.bool true]) (by simp[results,Tryz.results10,go_sem, *]) rfl (show nD _ _ _ _ from ?_)
 exact⟨⟨⟨ca,cn,cc⟩,⟨fa,aX,fc⟩,⟨la,ln,lc⟩,⟨ba,b_n,bc⟩⟩,⟨⟨ga,gn,gc⟩,⟨ha,h_n,hc⟩,⟨ia,dz,ic⟩,⟨ja,jn,jc⟩⟩,rfl,(Im.out.over iy.out HZ3.out dO.out.k6 rfl).over lM.out DR.out qP.out rfl,(HZ2.out.over iy.out HZ3.out dO.out.k6 rfl).over lM.out DR.out qP.out rfl,jd.out⟩
end Go.Proofs.YtlfopoimbbpfdaaGreat
namespace Go.Proofs.YtlfopoimbbpfdaaGreat
open Go.RowKit
attribute [local go_sem ↓] Go.wp_at_zero Go.wp_at_succ
set_option maxRecDepth 100000 in
set_option maxHeartbeats 8000000 in
theorem OM (w W:World) (x:ow) (ya yb:bZ) (b:Bk) (dev ep:Int) (va:Option Addr) (wn vc:Nat) (h:Dq w W x ya yb) (hya:eD w ya b) (hyb:eD w yb b) (hB:zN b) (hF:∀k (hk:k<b.ls.length),jF b.ls dev ep=k→Gi b b.ls[k]) (hRF:(fD b dev ep).2=true→xO b (fD b dev ep).1) (hE:nS b dev ep=mg b dev ep) (hk:x.kind%8=7) (b2:Bk) (hb2:b2=(mg b dev ep).1) (u0 u1 u2 u8 u12 u13 u14 u15 u16 u17 u18 u19 u20 u21 u22 u23 u24 u25 u26 u27 u28 u29 u30 u31 u32 u33 u34 u35 u36 u37 u38 u39 u40 u41 u42 u43 u44 u45 u46 u47 u48 u49 u50 u51 u52 u53 u54 u55 u56 u57 u58 u59 u60 u61 u62 u63 u64 u65 u66 u67 u68 u69 u70 u71 u72 u73 u74 u75 u76 u77 u78 u79 u80 u81 u82 u83 u84 u85 u86 u87 u88 u89 u90 u91 u92 u93 u94 u95 u96 u97 u98 u99 u100 u101 u102 u103 u104 u105 u106 u107 u108 u109 u110 u111 u112 u113 u114 u115 u116 u117 u118 u119 u120 u121 u122 u123 u124 u125 u126 u127 u128 u129 u130 u131 u132 u133 u134 u135 u136 u137 u138 u139 u140 u141 u142 u143 u144 u145 u146 u147 u148 u149 u150 u151 u152 u153 u154 u155 u156 u157 u158 u159 u160 u161 u162 u163 u164 u165 u166 u167 u168 u169 u170 u171 u172 u173 u174 u175 u176 u177 u178 u179 u180 u181 u182 u183 u184 u185 u186 u187 u188 u189 u190 u191 u192 u193 u194 u195 u196 u197 u198 u199 u200 u201 u202 u203 u204 u205 u206 u207 u208 u209 u210 u211 u212 u213 u214 u215 u216 u217 u218 u219 u220 u221 u222 u223 u224 u225 u226 u227 u228 u229 u230 u231 u232 u233 u234 u235 u236 u237 u238:Value):
  ∀c,Tryz.f10.body.bind (spine 5)=some c→Code.wp Tryz.prog c (bodyPost Tryz.prog Tryz.f10 (nD w b2)) ⟨#[u0,u1,u2,.pointer (some ⟨w.heap.size,0,none⟩),.pointer (some ⟨w.heap.size+1,0,none⟩),.pointer (some ⟨w.heap.size+1+1,0,none⟩),.pointer (some ⟨w.heap.size+1+1+1,0,none⟩),.pointer (some ⟨w.heap.size+1+1+1+1,0,none⟩),u8,.int .i64 dev,.int .i64 ep,.slice va wn vc,u12,u13,u14,u15,u16,u17,u18,u19,u20,u21,u22,u23,u24,u25,u26,u27,u28,u29,u30,u31,u32,u33,u34,u35,u36,u37,u38,u39,u40,u41,u42,u43,u44,u45,u46,u47,u48,u49,u50,u51,u52,u53,u54,u55,u56,u57,u58,u59,u60,u61,u62,u63,u64,u65,u66,u67,u68,u69,u70,u71,u72,u73,u74,u75,u76,u77,u78,u79,u80,u81,u82,u83,u84,u85,u86,u87,u88,u89,u90,u91,u92,u93,u94,u95,u96,u97,u98,u99,u100,u101,u102,u103,u104,u105,u106,u107,u108,u109,u110,u111,u112,u113,u114,u115,u116,u117,u118,u119,u120,u121,u122,u123,u124,u125,u126,u127,u128,u129,u130,u131,u132,u133,u134,u135,u136,u137,u138,u139,u140,u141,u142,u143,u144,u145,u146,u147,u148,u149,u150,u151,u152,u153,u154,u155,u156,u157,u158,u159,u160,u161,u162,u163,u164,u165,u166,u167,u168,u169,u170,u171,u172,u173,u174,u175,u176,u177,u178,u179,u180,u181,u182,u183,u184,u185,u186,u187,u188,u189,u190,u191,u192,u193,u194,u195,u196,u197,u198,u199,u200,u201,u202,u203,u204,u205,u206,u207,u208,u209,u210,u211,u212,u213,u214,u215,u216,u217,u218,u219,u220,u221,u222,u223,u224,u225,u226,u227,u228,u229,u230,u231,u232,u233,u234,u235,u236,u237,u238],[]⟩ W:=by
 refine dH rfl ?_
 obtain⟨⟨ca,cn,cc⟩,⟨fa,aX,fc⟩,⟨la,ln,lc⟩,⟨ba,b_n,bc⟩⟩:=ya
 obtain⟨⟨ga,gn,gc⟩,⟨ha,h_n,hc⟩,⟨ia,dz,ic⟩,⟨ja,jn,jc⟩⟩:=yb
 obtain⟨xk,xd,xn,⟨vZ,wh,wm⟩,xo⟩:=x
 simp only at hk hb2
 obtain⟨⟨gb,ge⟩,hgr⟩:∃g,mg b dev ep=g:=⟨_,rfl⟩
 rw[hgr]at hb2 hE
 simp only at hb2
 subst hb2
 have n_:=ah h
 have jU:=ah hya
 have o_:=ah hyb
 have e0:W.cell? ⟨w.heap.size,0,none⟩=some (.int .i64 xk):=by
  have:=h.k3
  simp only[World.cell?,this]
  rfl
 have NV:=(bg h.k7).1
 have HP:=ah (And.intro hB (And.intro hF hRF))
 have j5:=ah (And.intro hgr hE)
 clear h hya hyb hB hF hRF hE hgr
 go_upto_if 56 with((go_at_call 18;refine(iI xk 8 W (by omega) (by omega)).mono ?_);rintro en w9 ⟨rfl,P7⟩;rw[P7];clear P7)
 go_cut[56] (fun v56 wx=>v56= .bool false∧wx=W)
 case first=>
  go_wp2
  go_meet
  exact⟨rfl,rfl⟩
 case rest=>
 obtain⟨rfl,hwc⟩:=hcut
 rw[hwc]
 clear hwc e0 hk
 obtain⟨a0,a1,a2,a3,_⟩:=ay n_.out.k4
 simp only[Sv.v]at a0 a1 a2 a3
 go_wp2_with fail
 refine(KN ⟨⟨ca,cn,cc⟩,⟨fa,aX,fc⟩,⟨la,ln,lc⟩,⟨ba,b_n,bc⟩⟩ b dev ep W (jU.out.keep n_.out.aZ (aC _)) HP.out.1 HP.out.2.1).mono ?_
 rw[j5.out.1]
 rintro en W2 ⟨⟨⟨oa,on,oc⟩,⟨pa,pn,pc⟩,⟨qa,qn,qc⟩,⟨ra,rn,rc⟩⟩,rfl,hc2,hb2⟩
 have dK:=(aL W2.heap.size W2).alloc (aC _) (.cells #[.slice oa on oc,.slice pa pn pc,.slice qa qn qc,.slice ra rn rc] 30)
 have hb3:=hb2.trans (dK.mono hb2.size)
 have HC:=ah (hc2.keep dK (aC _))
 have Ub:=ah (heap_alloc_new W2 (.cells #[.slice oa on oc,.slice pa pn pc,.slice qa qn qc,.slice ra rn rc] 30))
 have vR:=ah (n_.out.keep hb3)
 have hz2:=hb2.size
 clear hc2 dK hb2 hb3 a0 a1 a2 a3 n_
 go_upto_region 15 with fail
 generalize W2.alloc (.cells #[.slice oa on oc,.slice pa pn pc,.slice qa qn qc,.slice ra rn rc] 30)=W3 at*
 have af7:w.heap.size+1+1+1+1<W2.heap.size:=by omega
 generalize W2.heap.size=Xu at*
 obtain⟨a0,a1,a2,a3,_⟩:=ay vR.out.k5
 simp only[Sv.v]at a0 a1 a2 a3
 go_wp2_with fail
 refine(I8 ⟨⟨ga,gn,gc⟩,⟨ha,h_n,hc⟩,⟨ia,dz,ic⟩,⟨ja,jn,jc⟩⟩ b dev ep W3 (o_.out.keep vR.out.aZ (aC _)) HP.out.1 HP.out.2.2).mono ?_
 rw[j5.out.2]
 rintro en W4 ⟨⟨⟨sa,sn,sc⟩,⟨ta,tn,tc⟩,⟨ua,un,uc⟩,⟨xa,GY,xc⟩⟩,rfl,hd4,hb4⟩
 have yN:=(aL W4.heap.size W4).alloc (aC _) (.cells #[.slice sa sn sc,.slice ta tn tc,.slice ua un uc,.slice xa GY xc] 30)
 have hb5:=hb4.trans (yN.mono hb4.size)
 have abM:=(bg Ub.out).1
 have Mj:=ah (aj Ub.out hb5 abM)
 have Mk:=ah (heap_alloc_new W4 (.cells #[.slice sa sn sc,.slice ta tn tc,.slice ua un uc,.slice xa GY xc] 30))
 have HY:=ah (HC.out.keep hb5 (aC _))
 have HZ:=ah (hd4.keep yN (aC _))
 have HQ:=ah (vR.out.keep hb5)
 have jT:=hb4.size
 clear a0 a1 a2 a3 hd4 hb4 hb5 yN vR HC Ub HP j5 jU o_
 go_upto_region 16 with fail
 generalize W4.alloc (.cells #[.slice sa sn sc,.slice ta tn tc,.slice ua un uc,.slice xa GY xc] 30)=WB at*
 have af8:w.heap.size+1+1+1+1<W4.heap.size:=by omega
 generalize W4.heap.size=Po at*
 refine aS 12 (dR Xu Po WB) (by kernel_rfl) ?_
 have hS0:dR Xu Po WB WB.drew:=⟨rfl,rfl⟩
 refine aD (i:=0) (v:=.agg #[.slice oa on oc,.slice pa pn pc,.slice qa qn qc,.slice ra rn rc]) rfl rfl (by kernel_rfl) (by kernel_rfl) (by kernel_rfl) (by kernel_rfl) (by kernel_rfl) (by decide) (fun _ _ _ h=>h) (.inl ⟨rfl,fun w' hw=>?_⟩) hS0 ?_
 ·obtain⟨a0,a1,a2,a3,_⟩:=ay (hw.1.trans Mj.out)
  go_simp
 refine aD (i:=1) (v:=.agg #[.slice sa sn sc,.slice ta tn tc,.slice ua un uc,.slice xa GY xc]) rfl rfl (by kernel_rfl) (by kernel_rfl) (by kernel_rfl) (by kernel_rfl) (by kernel_rfl) (by decide) (fun _ _ _ h=>h) (.inl ⟨rfl,fun w' hw=>?_⟩) hS0 ?_
 ·obtain⟨a0,a1,a2,a3,_⟩:=ay (hw.2.trans Mk.out)
  go_simp
 refine aG (i:=2) (v:=.int .i64 ge) rfl (by kernel_rfl) (by kernel_rfl) (by kernel_rfl) (by decide) (fun _ _ _ h=>h) (.inl ⟨rfl,fun w' _=>?_⟩) hS0 ?_
 ·go_simp
 refine aG (i:=3) (v:=.int .i64 ge) rfl (by kernel_rfl) (by kernel_rfl) (by kernel_rfl) (by decide) (fun _ _ _ h=>h) (.inl ⟨rfl,fun w' _=>?_⟩) hS0 ?_
 ·go_simp
 refine aG (i:=4) (v:=.bool true) rfl (by kernel_rfl) (by kernel_rfl) (by kernel_rfl) (by decide) (fun _ _ _ h=>h) (.inl ⟨rfl,fun w' _=>?_⟩) hS0 ?_
 ·go_simp
 refine aG (i:=5) (v:=.bool true) rfl (by kernel_rfl) (by kernel_rfl) (by kernel_rfl) (by decide) (fun _ _ _ h=>h) (.inl ⟨rfl,fun w' _=>?_⟩) hS0 ?_
 ·go_simp
 refine aD (i:=6) (v:=.agg #[.slice oa on oc,.slice pa pn pc,.slice qa qn qc,.slice ra rn rc]) rfl rfl (by kernel_rfl) (by kernel_rfl) (by kernel_rfl) (by kernel_rfl) (by kernel_rfl) (by decide) (fun _ _ _ h=>h) (.inl ⟨by go_simp,fun w' hw=>?_⟩) hS0 ?_
 ·obtain⟨a0,a1,a2,a3,_⟩:=ay (hw.1.trans Mj.out)
  go_simp
 refine aD (i:=7) (v:=.agg #[.slice sa sn sc,.slice ta tn tc,.slice ua un uc,.slice xa GY xc]) rfl rfl (by kernel_rfl) (by kernel_rfl) (by kernel_rfl) (by kernel_rfl) (by kernel_rfl) (by decide) (fun _ _ _ h=>h) (.inl ⟨by go_simp,fun w' hw=>?_⟩) hS0 ?_
 ·obtain⟨a0,a1,a2,a3,_⟩:=ay (hw.2.trans Mk.out)
  go_simp
 refine kT (i:=8) (by kernel_rfl) rfl (by go_simp) ?_
 go_simp
 refine(pF ⟨⟨oa,on,oc⟩,⟨pa,pn,pc⟩,⟨qa,qn,qc⟩,⟨ra,rn,rc⟩⟩ ⟨⟨sa,sn,sc⟩,⟨ta,tn,tc⟩,⟨ua,un,uc⟩,⟨xa,GY,xc⟩⟩ b2 b2 WB.drew (HY.out.keep (aL _ _).drew (aC _)) (HZ.out.keep (aL _ _).drew (aC _))).mono ?_
 rw[decide_eq_true (rfl:b2=b2)]
 rintro e2 W2 ⟨rfl,hb2⟩
 have hb2':Below WB.heap.size WB W2:=(aL WB.heap.size WB).drew.trans hb2
 have hS2:dR Xu Po WB W2:=⟨(aj Mj.out hb2' (bg Mj.out).1).trans Mj.out.symm,(aj Mk.out hb2' (bg Mk.out).1).trans Mk.out.symm⟩
 refine⟨hS2,?_⟩
 have dO:=ah (HQ.out.keep hb2')
 have Im:=ah (HY.out.keep hb2' (aC _))
 have HZ2:=ah (HZ.out.keep hb2' (aC _))
 clear hb2 hb2'
 have hS0:=hS2
 refine aG (i:=9) (v:=.bool true) rfl (by kernel_rfl) (by kernel_rfl) (by kernel_rfl) (by decide) (fun _ _ _ h=>h) (.inl ⟨rfl,fun w' _=>?_⟩) hS0 ?_
 ·go_simp
 obtain⟨a0,a1,a2,a3,_⟩:=ay dO.out.k6
 have f0:=aA dO.out.k6 0
 have f1:=aA dO.out.k6 1
 have f2:=aA dO.out.k6 2
 have f3:=aA dO.out.k6 3
 have iy:Hid (∀c,c≠w.heap.size+1+1+1→((((W2.setCell ⟨w.heap.size+1+1+1,0,none⟩ (.slice oa on oc)).setCell ⟨w.heap.size+1+1+1,1,none⟩ (.slice pa pn pc)).setCell ⟨w.heap.size+1+1+1,2,none⟩ (.slice qa qn qc)).setCell ⟨w.heap.size+1+1+1,3,none⟩ (.slice ra rn rc)).heap[c]? =W2.heap[c]?):=ah (fun c hc=>bF W2 (w.heap.size+1+1+1) c (fun e=>hc e.symm) _ _ _ _ 0 1 2 3)
 have qZ:Hid (((((W2.setCell ⟨w.heap.size+1+1+1,0,none⟩ (.slice oa on oc)).setCell ⟨w.heap.size+1+1+1,1,none⟩ (.slice pa pn pc)).setCell ⟨w.heap.size+1+1+1,2,none⟩ (.slice qa qn qc)).setCell ⟨w.heap.size+1+1+1,3,none⟩ (.slice ra rn rc)).heap[w.heap.size+1+1+1]? =some (.cells #[.slice oa on oc,.slice pa pn pc,.slice qa qn qc,.slice ra rn rc] 30 (0,0))):=ah (by
  have h6:=dO.out.k6
  simp[World.setCell,Array.getElem?_modify,h6])
 have HB3:Hid (Below w.heap.size w ((((W2.setCell ⟨w.heap.size+1+1+1,0,none⟩ (.slice oa on oc)).setCell ⟨w.heap.size+1+1+1,1,none⟩ (.slice pa pn pc)).setCell ⟨w.heap.size+1+1+1,2,none⟩ (.slice qa qn qc)).setCell ⟨w.heap.size+1+1+1,3,none⟩ (.slice ra rn rc))):=ah (kS dO.out.aZ (by omega) _ _ _ _)
 have HZ3:Hid (W2.heap.size≤((((W2.setCell ⟨w.heap.size+1+1+1,0,none⟩ (.slice oa on oc)).setCell ⟨w.heap.size+1+1+1,1,none⟩ (.slice pa pn pc)).setCell ⟨w.heap.size+1+1+1,2,none⟩ (.slice qa qn qc)).setCell ⟨w.heap.size+1+1+1,3,none⟩ (.slice ra rn rc)).heap.size):=ah (by simp)
 refine aF (i:=10) (by kernel_rfl) rfl rfl ?_
 go_simp
 try rw[jr]
 generalize ((((W2.setCell ⟨w.heap.size+1+1+1,0,none⟩ (.slice oa on oc)).setCell ⟨w.heap.size+1+1+1,1,none⟩ (.slice pa pn pc)).setCell ⟨w.heap.size+1+1+1,2,none⟩ (.slice qa qn qc)).setCell ⟨w.heap.size+1+1+1,3,none⟩ (.slice ra rn rc))=W3 at*
 have pU:dR Xu Po WB W3:=⟨(iy.out _ (by omega)).trans hS2.1,(iy.out _ (by omega)).trans hS2.2⟩
 first | refine⟨pU,?_⟩ | skip
 clear a0 a1 a2 a3 f0 f1 f2 f3
 have k7:=(iy.out (w.heap.size+1+1+1+1) (by omega)).trans dO.out.k7
 have qP:=ah k7
 obtain⟨a0,a1,a2,a3,_⟩:=ay k7
 have f0:=aA k7 0
 have f1:=aA k7 1
 have f2:=aA k7 2
 have f3:=aA k7 3
 have lM:Hid (∀c,c≠w.heap.size+1+1+1+1→((((W3.setCell ⟨w.heap.size+1+1+1+1,0,none⟩ (.slice sa sn sc)).setCell ⟨w.heap.size+1+1+1+1,1,none⟩ (.slice ta tn tc)).setCell ⟨w.heap.size+1+1+1+1,2,none⟩ (.slice ua un uc)).setCell ⟨w.heap.size+1+1+1+1,3,none⟩ (.slice xa GY xc)).heap[c]? =W3.heap[c]?):=ah (fun c hc=>bF W3 (w.heap.size+1+1+1+1) c (fun e=>hc e.symm) _ _ _ _ 0 1 2 3)
 have BH:Hid (((((W3.setCell ⟨w.heap.size+1+1+1+1,0,none⟩ (.slice sa sn sc)).setCell ⟨w.heap.size+1+1+1+1,1,none⟩ (.slice ta tn tc)).setCell ⟨w.heap.size+1+1+1+1,2,none⟩ (.slice ua un uc)).setCell ⟨w.heap.size+1+1+1+1,3,none⟩ (.slice xa GY xc)).heap[w.heap.size+1+1+1+1]? =some (.cells #[.slice sa sn sc,.slice ta tn tc,.slice ua un uc,.slice xa GY xc] 30 (0,0))):=ah (by
  have h6:=qP.out
  simp[World.setCell,Array.getElem?_modify,h6])
 have jd:Hid (Below w.heap.size w ((((W3.setCell ⟨w.heap.size+1+1+1+1,0,none⟩ (.slice sa sn sc)).setCell ⟨w.heap.size+1+1+1+1,1,none⟩ (.slice ta tn tc)).setCell ⟨w.heap.size+1+1+1+1,2,none⟩ (.slice ua un uc)).setCell ⟨w.heap.size+1+1+1+1,3,none⟩ (.slice xa GY xc))):=ah (kS HB3.out (by omega) _ _ _ _)
 have DR:Hid (W3.heap.size≤((((W3.setCell ⟨w.heap.size+1+1+1+1,0,none⟩ (.slice sa sn sc)).setCell ⟨w.heap.size+1+1+1+1,1,none⟩ (.slice ta tn tc)).setCell ⟨w.heap.size+1+1+1+1,2,none⟩ (.slice ua un uc)).setCell ⟨w.heap.size+1+1+1+1,3,none⟩ (.slice xa GY xc)).heap.size):=ah (by simp)
 clear k7
 refine aF (i:=11) (by kernel_rfl) rfl rfl ?_
 go_simp
 generalize ((((W3.setCell ⟨w.heap.size+1+1+1+1,0,none⟩ (.slice sa sn sc)).setCell ⟨w.heap.size+1+1+1+1,1,none⟩ (.slice ta tn tc)).setCell ⟨w.heap.size+1+1+1+1,2,none⟩ (.slice ua un uc)).setCell ⟨w.heap.size+1+1+1+1,3,none⟩ (.slice xa GY xc))=W4 at*
 have Ov:dR Xu Po WB W4:=⟨(lM.out _ (by omega)).trans pU.1,(lM.out _ (by omega)).trans pU.2⟩
 first | refine⟨Ov,?_⟩ | skip
 clear a0 a1 a2 a3 f0 f1 f2 f3
 refine aF (i:=12) (by kernel_rfl) rfl rfl ?_
 go_simp
 refine aT (by kernel_rfl) ?_
 obtain⟨a0,a1,a2,a3,_⟩:=ay ((lM.out (w.heap.size+1+1+1) (by omega)).trans qZ.out)
 obtain⟨b0,b1,b2,b3,_⟩:=ay BH.out
 go_wp2
 refine bodyPost_ret (v:=.tuple #[.agg #[.slice oa on oc,.slice pa pn pc,.slice qa qn qc,.slice ra rn rc],.agg #[.slice sa sn sc,.slice ta tn tc,.slice ua un uc,.slice xa GY xc],.bool true]) (by simp[results,Tryz.results10,go_sem, *]) rfl (show nD _ _ _ _ from ?_)
 exact⟨⟨⟨oa,on,oc⟩,⟨pa,pn,pc⟩,⟨qa,qn,qc⟩,⟨ra,rn,rc⟩⟩,⟨⟨sa,sn,sc⟩,⟨ta,tn,tc⟩,⟨ua,un,uc⟩,⟨xa,GY,xc⟩⟩,rfl,(Im.out.over iy.out HZ3.out dO.out.k6 rfl).over lM.out DR.out qP.out rfl,(HZ2.out.over iy.out HZ3.out dO.out.k6 rfl).over lM.out DR.out qP.out rfl,jd.out⟩
end Go.Proofs.YtlfopoimbbpfdaaGreat
namespace Go.Proofs.YtlfopoimbbpfdaaGreat
open Go.RowKit
attribute [local go_sem ↓] Go.wp_at_zero Go.wp_at_succ
set_option maxRecDepth 100000 in
set_option maxHeartbeats 8000000 in
theorem OO (w W:World) (x:ow) (ya yb:bZ) (b:Bk) (l:Ls) (q:Bool) (dev ep:Int) (o:pO) (nR:Nat) (h:Dq w W x ya yb) (hya:eD w ya b) (hyb:eD w yb b) (ho:W.heap[nR]? =some (.cells #[.int .i64 o.dev,.int .i64 o.epoch,.int .i64 o.seq,.int .i64 o.coll,.int .i64 o.ver,.int .i64 o.kind,.string o.key,.string o.text,.int .i64 o.n,.int .i64 o.time,o.dots.v] 38 (0,0))) (FC:w.heap.size+1+1+1+1<nR) (hf:iT b dev ep=(l,q)) (hrf:fD b dev ep=(l,q)) (hid:∀r∈l.ids,0≤r.1∧r.1<r.2∧r.2≤1000) (n2:Int) (hn2:n2=if o.kind=5∧0<l.ids.length∧0<x.n.tmod 3 then(l.ids.getD 0 (0,0)).1+o.n%((l.ids.getD 0 (0,0)).2-(l.ids.getD 0 (0,0)).1)else o.n) (hB:zN b) (hS:NS l o.kind n2) (hE:dM l o.kind o.key n2=bN l o.kind o.key n2) (hP:kC b (bN l o.kind o.key n2).1=kR b (bN l o.kind o.key n2).1) (hL2:wJ (bN l o.kind o.key n2).1) (b2:Bk) (hb2:b2=if (bN l o.kind o.key n2).2=0 then(kR b (bN l o.kind o.key n2).1).1 else b) (hk:3≤x.kind%8∧x.kind%8≤6) (u0 u1 u2 u8 u11 u13 u14 u15 u16 u17 u18 u19 u20 u21 u22 u23 u24 u25 u26 u27 u28 u29 u30 u31 u32 u33 u34 u35 u36 u37 u38 u39 u40 u41 u42 u43 u44 u45 u46 u47 u48 u49 u50 u51 u52 u53 u54 u55 u56 u57 u58 u59 u60 u61 u62 u63 u64 u65 u66 u67 u68 u69 u70 u71 u72 u73 u74 u75 u76 u77 u78 u79 u80 u81 u82 u83 u84 u85 u86 u87 u88 u89 u90 u91 u92 u93 u94 u95 u96 u97 u98 u99 u100 u101 u102 u103 u104 u105 u106 u107 u108 u109 u110 u111 u112 u113 u114 u115 u116 u117 u118 u119 u120 u121 u122 u123 u124 u125 u126 u127 u128 u129 u130 u131 u132 u133 u134 u135 u136 u137 u138 u139 u140 u141 u142 u143 u144 u145 u146 u147 u148 u149 u150 u151 u152 u153 u154 u155 u156 u157 u158 u159 u160 u161 u162 u163 u164 u165 u166 u167 u168 u169 u170 u171 u172 u173 u174 u175 u176 u177 u178 u179 u180 u181 u182 u183 u184 u185 u186 u187 u188 u189 u190 u191 u192 u193 u194 u195 u196 u197 u198 u199 u200 u201 u202 u203 u204 u205 u206 u207 u208 u209 u210 u211 u212 u213 u214 u215 u216 u217 u218 u219 u220 u221 u222 u223 u224 u225 u226 u227 u228 u229 u230 u231 u232 u233 u234 u235 u236 u237 u238:Value):
  ∀c,Tryz.f10.body.bind (spine 5)=some c→Code.wp Tryz.prog c (bodyPost Tryz.prog Tryz.f10 (nD w b2)) ⟨#[u0,u1,u2,.pointer (some ⟨w.heap.size,0,none⟩),.pointer (some ⟨w.heap.size+1,0,none⟩),.pointer (some ⟨w.heap.size+1+1,0,none⟩),.pointer (some ⟨w.heap.size+1+1+1,0,none⟩),.pointer (some ⟨w.heap.size+1+1+1+1,0,none⟩),u8,.int .i64 dev,.int .i64 ep,u11,.pointer (some ⟨nR,0,none⟩),u13,u14,u15,u16,u17,u18,u19,u20,u21,u22,u23,u24,u25,u26,u27,u28,u29,u30,u31,u32,u33,u34,u35,u36,u37,u38,u39,u40,u41,u42,u43,u44,u45,u46,u47,u48,u49,u50,u51,u52,u53,u54,u55,u56,u57,u58,u59,u60,u61,u62,u63,u64,u65,u66,u67,u68,u69,u70,u71,u72,u73,u74,u75,u76,u77,u78,u79,u80,u81,u82,u83,u84,u85,u86,u87,u88,u89,u90,u91,u92,u93,u94,u95,u96,u97,u98,u99,u100,u101,u102,u103,u104,u105,u106,u107,u108,u109,u110,u111,u112,u113,u114,u115,u116,u117,u118,u119,u120,u121,u122,u123,u124,u125,u126,u127,u128,u129,u130,u131,u132,u133,u134,u135,u136,u137,u138,u139,u140,u141,u142,u143,u144,u145,u146,u147,u148,u149,u150,u151,u152,u153,u154,u155,u156,u157,u158,u159,u160,u161,u162,u163,u164,u165,u166,u167,u168,u169,u170,u171,u172,u173,u174,u175,u176,u177,u178,u179,u180,u181,u182,u183,u184,u185,u186,u187,u188,u189,u190,u191,u192,u193,u194,u195,u196,u197,u198,u199,u200,u201,u202,u203,u204,u205,u206,u207,u208,u209,u210,u211,u212,u213,u214,u215,u216,u217,u218,u219,u220,u221,u222,u223,u224,u225,u226,u227,u228,u229,u230,u231,u232,u233,u234,u235,u236,u237,u238],[]⟩ W:=by
 refine dH rfl ?_
 have HK:=ah hk
 have e0:W.cell? ⟨w.heap.size,0,none⟩=some (.int .i64 x.kind):=by
  have:=h.k3
  simp only[World.cell?,this]
  rfl
 have E8:=ah (fun (V:World) (hV:V=W)=>hV)
 have HH:=ah (And.intro h (And.intro hya (And.intro hyb (And.intro ho (And.intro FC (And.intro hf (And.intro hrf (And.intro hid (And.intro hn2 (And.intro hB (And.intro hS (And.intro hE (And.intro hP (And.intro hL2 hb2))))))))))))))
 clear h hya hyb ho hf hrf hid hn2 hB hS hE hP hL2 hb2 hk
 go_upto_block 0 with((go_at_call 18;refine(iI x.kind 8 W (by omega) (by omega)).mono ?_);rintro en w9 ⟨rfl,P7⟩;rw[P7];clear P7)
 go_cut[] (fun wx=>wx=W)
 case rest=>
  subst hcut
  obtain⟨h,hya,hyb,ho,FC,hf,hrf,hid,hn2,hB,hS,hE,hP,hL2,hb2⟩:=HH.out
  go_step
  exact OL w _ x ya yb b l q dev ep o nR h hya hyb ho FC hf hrf hid n2 hn2 hB hS hE hP hL2 b2 hb2 _ _ _ _ _ _ _ _ _ _ _ _ _ _ _ _ _ _ _ _ _ _ _ _ _ _ _ _ _ _ _ _ _ _ _ _ _ _ _ _ _ _ _ _ _ _ _ _ _ _ _ _ _ _ _ _ _ _ _ _ _ _ _ _ _ _ _ _ _ _ _ _ _ _ _ _ _ _ _ _ _ _ _ _ _ _ _ _ _ _ _ _ _ _ _ _ _ _ _ _ _ _ _ _ _ _ _ _ _ _ _ _ _ _ _ _ _ _ _ _ _ _ _ _ _ _ _ _ _ _ _ _ _ _ _ _ _ _ _ _ _ _ _ _ _ _ _ _ _ _ _ _ _ _ _ _ _ _ _ _ _ _ _ _ _ _ _ _ _ _ _ _ _ _ _ _ _ _ _ _ _ _ _ _ _ _ _ _ _ _ _ _ _ _ _ _ _ _ _ _ _ _ _ _ _ _ _ _ _ _ _ _ _ _ _ _ _ _ _ _ _ _ _ _ _ _ _ _ _ _ _ _ rfl
 case first=>
 have hm:x.kind%8=3∨x.kind%8=4∨x.kind%8=5∨x.kind%8=6:=by have:=HK.out;omega
 clear HK HH
 generalize x.kind%8=m at*
 rcases hm with rfl | rfl | rfl | rfl
 all_goals go_wp2
 all_goals go_meet
 all_goals rfl
end Go.Proofs.YtlfopoimbbpfdaaGreat
