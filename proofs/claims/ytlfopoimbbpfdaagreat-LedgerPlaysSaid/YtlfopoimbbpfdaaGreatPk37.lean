/- What the law asks, in parts: Bh Bi. -/
import Derived.Deep.DrawnRows
import Derived.Test.YtlfopoimbbpfdaaGreatPk36
import Derived.Test.YtlfopoimbbpfdaaGreatPk33
set_option linter.all false
namespace Go.Proofs.YtlfopoimbbpfdaaGreat
open Go.RowKit
attribute [local go_sem ↓] Go.wp_at_zero Go.wp_at_succ
def kF (n:Nat):Code→Option Code
 | .region m ops d=>if m=n then some (.region m ops d)else none
 | .seq a b=>(kF n a).orElse fun _=>kF n b
 | .cond _ a b=>(kF n a).orElse fun _=>kF n b
 | .block _ a=>kF n a
 | .loop a=>kF n a
 | .scope a=>kF n a
 | _=>none
theorem pq {P:Program} {b:Option Code} {n:Nat} {c':Code} {Q:Exit→Act→World→Prop} {a:Act} {w:World} (h:b.bind (kF n)=some c') (hw:Code.wp P c' Q a w):∀c,b.bind (kF n)=some c→Code.wp P c Q a w:=by
 intro c hc
 rw[h]at hc
 injection hc with hc
 subst hc
 exact hw
set_option maxRecDepth 100000 in
set_option maxHeartbeats 8000000 in
theorem Sw (w W:World) (xk xd xn:Int) (xw:Sv) (xo:pO) (ya yb:bZ) (b:Bk) (dev ep:Int) (va:Option Addr) (wn vc:Nat) (ws:List Wn) (h:Dq w W ⟨xk,xd,xn,xw,xo⟩ ya yb) (hya:eD w ya b) (hws:oH W (.slice va wn vc) ws) (hG:Kw b) (b2:Bk) (gl:Ls) (ge:Int) (hgr:fM b dev ep (xn%100) ws=(b2,gl,ge)) (u0 u1 u2 u8 u12 u13 u14 u15 u16 u17 u18 u19 u20 u21 u22 u23 u24 u25 u26 u27 u28 u29 u30 u31 u32 u33 u34 u35 u36 u37 u38 u39 u40 u41 u42 u43 u44 u45 u46 u47 u48 u49 u50 u51 u52 u53 u54 u55 u56 u57 u58 u59 u60 u61 u62 u63 u64 u65 u66 u67 u68 u69 u70 u71 u72 u73 u74 u75 u76 u77 u78 u79 u80 u81 u82 u83 u84 u85 u86 u87 u88 u89 u90 u91 u92 u93 u94 u95 u96 u97 u98 u99 u100 u101 u102 u103 u104 u105 u106 u107 u108 u109 u110 u111 u112 u113 u114 u115 u116 u117 u118 u119 u120 u121 u122 u123 u124 u125 u126 u127 u128 u129 u130 u131 u132 u133 u134 u135 u136 u137 u138 u139 u140 u141 u142 u143 u144 u145 u146 u147 u148 u149 u150 u151 u152 u153 u154 u155 u156 u157 u158 u159 u160 u161 u162 u163 u164 u165 u166 u167 u168 u169 u170 u171 u172 u173 u174 u175 u176 u177 u178 u179 u180 u181 u182 u183 u184 u185 u186 u187 u188 u189 u190 u191 u192 u193 u194 u195 u196 u197 u198 u199 u200 u201 u202 u203 u204 u205 u206 u207 u208 u209 u210 u211 u212 u213 u214 u215 u216 u217 u218 u219 u220 u221 u222 u223 u224 u225 u226 u227 u228 u229 u230 u231 u232 u233 u234 u235 u236 u237 u238:Value) (RR:Act→World→Prop) (hRR:∀a_ w_,(fun (a':Act) (wx:World)=>∃u13:Value,∃u14:Value,∃u15:Value,∃u60:Value,∃u61:Value,∃u62:Value,∃u63:Value,∃u64:Value,∃u65:Value,∃u66:Value,∃u67:Value,∃u68:Value,∃u69:Value,∃u70:Value,∃u71:Value,(∃ (gP gJ:Nat) (y:bZ) (z:bV),u13= .pointer (some ⟨gP,0,none⟩)∧u14= .pointer (some ⟨gJ,0,none⟩)∧u15= .int .i64 ge∧wx.heap[gP]? =some (.cells #[y.c.v,y.f.v,y.l.v,y.b.v] 30 (0,0))∧wx.heap[gJ]? =some (.cells #[.int .i64 z.dev,.int .i64 z.epoch,.int .i64 z.bY,.int .i64 z.last,z.s.v,z.i.v,z.u.v] 48 (0,0))∧eD wx y b2∧lW wx z gl∧Below W.heap.size W wx∧W.heap.size≤gP∧W.heap.size≤gJ)∧a'=⟨#[u0,u1,u2,.pointer (some ⟨w.heap.size,0,none⟩),.pointer (some ⟨w.heap.size+1,0,none⟩),.pointer (some ⟨w.heap.size+1+1,0,none⟩),.pointer (some ⟨w.heap.size+1+1+1,0,none⟩),.pointer (some ⟨w.heap.size+1+1+1+1,0,none⟩),u8,.int .i64 dev,.int .i64 ep,.slice va wn vc,u12,u13,u14,u15,u16,u17,u18,u19,u20,u21,u22,u23,u24,u25,u26,u27,u28,u29,u30,u31,u32,u33,u34,u35,u36,u37,u38,u39,u40,u41,u42,u43,u44,u45,u46,u47,u48,u49,u50,u51,u52,u53,u54,u55,u56,u57,u58,u59,u60,u61,u62,u63,u64,u65,u66,u67,u68,u69,u70,u71,u72,u73,u74,u75,u76,u77,u78,u79,u80,u81,u82,u83,u84,u85,u86,u87,u88,u89,u90,u91,u92,u93,u94,u95,u96,u97,u98,u99,u100,u101,u102,u103,u104,u105,u106,u107,u108,u109,u110,u111,u112,u113,u114,u115,u116,u117,u118,u119,u120,u121,u122,u123,u124,u125,u126,u127,u128,u129,u130,u131,u132,u133,u134,u135,u136,u137,u138,u139,u140,u141,u142,u143,u144,u145,u146,u147,u148,u149,u150,u151,u152,u153,u154,u155,u156,u157,u158,u159,u160,u161,u162,u163,u164,u165,u166,u167,u168,u169,u170,u171,u172,u173,u174,u175,u176,u177,u178,u179,u180,u181,u182,u183,u184,u185,u186,u187,u188,u189,u190,u191,u192,u193,u194,u195,u196,u197,u198,u199,u200,u201,u202,u203,u204,u205,u206,u207,u208,u209,u210,u211,u212,u213,u214,u215,u216,u217,u218,u219,u220,u221,u222,u223,u224,u225,u226,u227,u228,u229,u230,u231,u232,u233,u234,u235,u236,u237,u238],[]⟩) a_ w_→RR a_ w_):
  ∀c,Tryz.f10.body.bind (kF 10)=some c→Code.wp Tryz.prog c (Exit.then RR (fun _ _ _=>False)) ⟨#[u0,u1,u2,.pointer (some ⟨w.heap.size,0,none⟩),.pointer (some ⟨w.heap.size+1,0,none⟩),.pointer (some ⟨w.heap.size+1+1,0,none⟩),.pointer (some ⟨w.heap.size+1+1+1,0,none⟩),.pointer (some ⟨w.heap.size+1+1+1+1,0,none⟩),u8,.int .i64 dev,.int .i64 ep,.slice va wn vc,u12,u13,u14,u15,u16,u17,u18,u19,u20,u21,u22,u23,u24,u25,u26,u27,u28,u29,u30,u31,u32,u33,u34,u35,u36,u37,u38,u39,u40,u41,u42,u43,u44,u45,u46,u47,u48,u49,u50,u51,u52,u53,u54,u55,u56,u57,u58,u59,u60,u61,u62,u63,u64,u65,u66,u67,u68,u69,u70,u71,u72,u73,u74,u75,u76,u77,u78,u79,u80,u81,u82,u83,u84,u85,u86,u87,u88,u89,u90,u91,u92,u93,u94,u95,u96,u97,u98,u99,u100,u101,u102,u103,u104,u105,u106,u107,u108,u109,u110,u111,u112,u113,u114,u115,u116,u117,u118,u119,u120,u121,u122,u123,u124,u125,u126,u127,u128,u129,u130,u131,u132,u133,u134,u135,u136,u137,u138,u139,u140,u141,u142,u143,u144,u145,u146,u147,u148,u149,u150,u151,u152,u153,u154,u155,u156,u157,u158,u159,u160,u161,u162,u163,u164,u165,u166,u167,u168,u169,u170,u171,u172,u173,u174,u175,u176,u177,u178,u179,u180,u181,u182,u183,u184,u185,u186,u187,u188,u189,u190,u191,u192,u193,u194,u195,u196,u197,u198,u199,u200,u201,u202,u203,u204,u205,u206,u207,u208,u209,u210,u211,u212,u213,u214,u215,u216,u217,u218,u219,u220,u221,u222,u223,u224,u225,u226,u227,u228,u229,u230,u231,u232,u233,u234,u235,u236,u237,u238],[]⟩ W:=by
 dsimp only at hRR
 have HRR:=ah hRR
 clear hRR
 refine pq rfl ?_
 obtain⟨⟨ca,cn,cc⟩,⟨fa,aX,fc⟩,⟨la,ln,lc⟩,⟨ba,b_n,bc⟩⟩:=ya
 obtain⟨⟨ga,gn,gc⟩,⟨ha,h_n,hc⟩,⟨ia,dz,ic⟩,⟨ja,jn,jc⟩⟩:=yb
 obtain⟨vZ,wh,wm⟩:=xw
 have HQ:=ah h
 have jU:=ah hya
 have JH:=ah hws
 have tX:=ah hG
 have j5:=ah hgr
 clear h hya hws hG hgr
 refine aS 14 (fun w'=>Below W.heap.size W w') (by kernel_rfl) ?_
 have hS0:Below W.heap.size W W.drew:=(aL _ _).drew
 refine aD (i:=0) (v:=.agg #[.slice ca cn cc,.slice fa aX fc,.slice la ln lc,.slice ba b_n bc]) rfl rfl (by kernel_rfl) (by kernel_rfl) (by kernel_rfl) (by kernel_rfl) (by kernel_rfl) (by decide) (fun _ _ _ h=>h) (.inl ⟨rfl,fun w' hw=>?_⟩) hS0 ?_
 ·obtain⟨a0,a1,a2,a3,_⟩:=ay (HQ.out.keep hw).k4
  simp only[Sv.v]at a0 a1 a2 a3
  go_simp
 refine aG (i:=1) (v:=.int .i64 dev) rfl (by kernel_rfl) (by kernel_rfl) (by kernel_rfl) (by decide) (fun _ _ _ h=>h) (.inl ⟨rfl,fun w' _=>?_⟩) hS0 ?_
 ·go_simp
 refine aG (i:=2) (v:=.int .i64 ep) rfl (by kernel_rfl) (by kernel_rfl) (by kernel_rfl) (by decide) (fun _ _ _ h=>h) (.inl ⟨rfl,fun w' _=>?_⟩) hS0 ?_
 ·go_simp
 refine aG (i:=3) (v:=.pointer (some ⟨w.heap.size,2,none⟩)) rfl (by kernel_rfl) (by kernel_rfl) (by kernel_rfl) (by decide) (fun _ _ _ h=>h) (.inl ⟨rfl,fun w' _=>?_⟩) hS0 ?_
 ·go_simp
 refine aD (i:=4) (v:=.int .i64 xn) rfl rfl (by kernel_rfl) (by kernel_rfl) (by kernel_rfl) (by kernel_rfl) (by kernel_rfl) (by decide) (fun _ _ _ h=>h) (.inl ⟨rfl,fun w' hw=>?_⟩) hS0 ?_
 ·have e2:w'.cell? ⟨w.heap.size,2,none⟩=some (.int .i64 xn):=by
   have:=(HQ.out.keep hw).k3
   simp only[World.cell?,this]
   rfl
  go_simp
 refine dP (i:=5) (v:=.int .i64 (xn%100)) rfl (by kernel_rfl) (by kernel_rfl) (by kernel_rfl) (by decide) (fun _ _ _ h=>h) ⟨rfl,18,#[.int .i64 xn,.int .i64 100],fun w' _=>?_,fun w' _=>iI _ _ _ (by omega) (by omega)⟩ hS0 ?_
 ·go_simp
 refine aG (i:=6) (v:=.slice va wn vc) rfl (by kernel_rfl) (by kernel_rfl) (by kernel_rfl) (by decide) (fun _ _ _ h=>h) (.inl ⟨rfl,fun w' _=>?_⟩) hS0 ?_
 ·go_simp
 have hR:Rs W (fun y z B N V=>Jr V B N y b2∧Ee V B N z gl):=⟨fun h hb=>⟨h.1.keep hb,h.2.keep hb⟩,fun h hp _ _ hoth _=>⟨h.1.Nk hp hoth,h.2.Nk hp hoth⟩⟩
 refine mP (fun D a V=>∃ (y:bZ) (z:bV) (B N p q:Nat) (vT vM vA vB vC vp vq vo:Value),a=⟨#[u0,u1,u2,.pointer (some ⟨w.heap.size,0,none⟩),.pointer (some ⟨w.heap.size+1,0,none⟩),.pointer (some ⟨w.heap.size+1+1,0,none⟩),.pointer (some ⟨w.heap.size+1+1+1,0,none⟩),.pointer (some ⟨w.heap.size+1+1+1+1,0,none⟩),u8,.int .i64 dev,.int .i64 ep,.slice va wn vc,u12,vp,vq,vo,u16,u17,u18,u19,u20,u21,u22,u23,u24,u25,u26,u27,u28,u29,u30,u31,u32,u33,u34,u35,u36,u37,u38,u39,u40,u41,u42,u43,u44,u45,u46,u47,u48,u49,u50,u51,u52,u53,u54,u55,u56,u57,u58,u59,vM,fT ⟨⟨ca,cn,cc⟩,⟨fa,aX,fc⟩,⟨la,ln,lc⟩,⟨ba,b_n,bc⟩⟩,.int .i64 dev,.int .i64 ep,.pointer (some ⟨w.heap.size,2,none⟩),.int .i64 xn,.int .i64 (xn%100),.slice va wn vc,vT,vA,vB,vC,u72,u73,u74,u75,u76,u77,u78,u79,u80,u81,u82,u83,u84,u85,u86,u87,u88,u89,u90,u91,u92,u93,u94,u95,u96,u97,u98,u99,u100,u101,u102,u103,u104,u105,u106,u107,u108,u109,u110,u111,u112,u113,u114,u115,u116,u117,u118,u119,u120,u121,u122,u123,u124,u125,u126,u127,u128,u129,u130,u131,u132,u133,u134,u135,u136,u137,u138,u139,u140,u141,u142,u143,u144,u145,u146,u147,u148,u149,u150,u151,u152,u153,u154,u155,u156,u157,u158,u159,u160,u161,u162,u163,u164,u165,u166,u167,u168,u169,u170,u171,u172,u173,u174,u175,u176,u177,u178,u179,u180,u181,u182,u183,u184,u185,u186,u187,u188,u189,u190,u191,u192,u193,u194,u195,u196,u197,u198,u199,u200,u201,u202,u203,u204,u205,u206,u207,u208,u209,u210,u211,u212,u213,u214,u215,u216,u217,u218,u219,u220,u221,u222,u223,u224,u225,u226,u227,u228,u229,u230,u231,u232,u233,u234,u235,u236,u237,u238],[]⟩∧(∀j,j<7→D j)∧Jg W (fun y z B N V=>Jr V B N y b2∧Ee V B N z gl) ge 7 D y z B N p q vT vM vA vB vC vp vq vo V) (by kernel_rfl) (fun D a V h _=>by obtain⟨_,_,_,_,_,_,_,_,_,_,_,_,_,_,_,_,hJ⟩:=h;exact hJ.aZ) ?_ ?_ _ _ _ _ (of_decide_eq_true (by kernel_rfl)) (by kernel_rfl) ⟨Mh,rD,0,0,0,0,u68,u60,u69,u70,u71,u13,u14,u15,by go_simp,of_decide_eq_true (by kernel_rfl),Jg.start hS0 (of_decide_eq_true (by kernel_rfl))⟩
 ·intro i hi D a V hI hn hd
  obtain⟨y,z,B,N,p,q,vT,vM,vA,vB,vC,vp,vq,vo,rfl,h6,hJ⟩:=hI
  have Sy:i<17:=hi
  have hi7:7≤i:=by rcases Nat.lt_or_ge i 7 with h | h;exact absurd (h6 i h) hn;exact h
  have hcs:i=7∨i=8∨i=9∨i=10∨i=11∨i=12∨i=13∨i=14∨i=15∨i=16:=by omega
  have hV:=hJ.aZ
  clear hi Sy hi7
  rcases hcs with rfl | rfl | rfl | rfl | rfl | rfl | rfl | rfl | rfl | rfl
  ·refine bC rfl rfl ?_
   go_simp
   refine(Jm ⟨⟨ca,cn,cc⟩,⟨fa,aX,fc⟩,⟨la,ln,lc⟩,⟨ba,b_n,bc⟩⟩ b dev ep (xn%100) (.slice va wn vc) ws V (jU.out.keep (HQ.out.aZ.trans (hV.mono HQ.out.aZ.size)) (aC _)) tX.out (cK.keep JH.out hV (aC _))).mono ?_
   rw[j5.out]
   rintro en V1 ⟨y',z',xs,C,rfl,hbk,hC,hls,hb⟩
   exact⟨y',z',V.heap.size,V1.heap.size,p,q,_,_,_,_,_,_,_,_,(by first | rfl | (and_intros<;>rfl)),fun j hj=> .inr (h6 j hj),hJ.call hn ⟨Jr.of hbk hC,Ee.of hls⟩ (aC _) (aC _) hb⟩
  ·have g6:=hd 7 (of_decide_eq_true (by kernel_rfl))
   obtain⟨rfl,_,_⟩:=hJ.c g6
   refine bC rfl rfl ?_
   go_simp
   exact⟨y,z,B,N,p,q,_,_,_,_,_,_,_,_,(by first | rfl | (and_intros<;>rfl)),fun j hj=> .inr (h6 j hj),hJ.mv g6 8 (by omega) (by first | exact fun _=>rfl | exact fun h=>absurd h (by decide)) (by first | exact fun _=>rfl | exact fun h=>absurd h (by decide)) (by first | exact fun _=>rfl | exact fun h=>absurd h (by decide)) (by first | exact fun _=>rfl | exact fun h=>absurd h (by decide)) (by first | exact fun _=>rfl | exact fun h=>absurd h (by decide)) (by first | exact fun _=>rfl | exact fun h=>absurd h (by decide)) (by first | exact fun _=>rfl | exact fun h=>absurd h (by decide)) (by first | exact fun _=>rfl | exact fun h=>absurd h (by decide)) (by first | exact fun _=>rfl | exact fun h=>absurd h (by decide)) (by first | exact fun _=>rfl | exact fun h=>absurd h (by decide))⟩
  ·have g7:=hd 8 (of_decide_eq_true (by kernel_rfl))
   obtain⟨g6,rfl⟩:=hJ.m g7
   refine bC rfl rfl ?_
   go_simp
   exact⟨y,z,B,N,p,q,_,_,_,_,_,_,_,_,(by first | rfl | (and_intros<;>rfl)),fun j hj=> .inr (h6 j hj),hJ.mv g6 9 (by omega) (by first | exact fun _=>rfl | exact fun h=>absurd h (by decide)) (by first | exact fun _=>rfl | exact fun h=>absurd h (by decide)) (by first | exact fun _=>rfl | exact fun h=>absurd h (by decide)) (by first | exact fun _=>rfl | exact fun h=>absurd h (by decide)) (by first | exact fun _=>rfl | exact fun h=>absurd h (by decide)) (by first | exact fun _=>rfl | exact fun h=>absurd h (by decide)) (by first | exact fun _=>rfl | exact fun h=>absurd h (by decide)) (by first | exact fun _=>rfl | exact fun h=>absurd h (by decide)) (by first | exact fun _=>rfl | exact fun h=>absurd h (by decide)) (by first | exact fun _=>rfl | exact fun h=>absurd h (by decide))⟩
  ·have g7:=hd 8 (of_decide_eq_true (by kernel_rfl))
   obtain⟨g6,rfl⟩:=hJ.m g7
   refine bC rfl rfl ?_
   go_simp
   exact⟨y,z,B,N,p,q,_,_,_,_,_,_,_,_,(by first | rfl | (and_intros<;>rfl)),fun j hj=> .inr (h6 j hj),hJ.mv g6 10 (by omega) (by first | exact fun _=>rfl | exact fun h=>absurd h (by decide)) (by first | exact fun _=>rfl | exact fun h=>absurd h (by decide)) (by first | exact fun _=>rfl | exact fun h=>absurd h (by decide)) (by first | exact fun _=>rfl | exact fun h=>absurd h (by decide)) (by first | exact fun _=>rfl | exact fun h=>absurd h (by decide)) (by first | exact fun _=>rfl | exact fun h=>absurd h (by decide)) (by first | exact fun _=>rfl | exact fun h=>absurd h (by decide)) (by first | exact fun _=>rfl | exact fun h=>absurd h (by decide)) (by first | exact fun _=>rfl | exact fun h=>absurd h (by decide)) (by first | exact fun _=>rfl | exact fun h=>absurd h (by decide))⟩
  ·have g7:=hd 8 (of_decide_eq_true (by kernel_rfl))
   obtain⟨g6,rfl⟩:=hJ.m g7
   refine bC rfl rfl ?_
   go_simp
   exact⟨y,z,B,N,p,q,_,_,_,_,_,_,_,_,(by first | rfl | (and_intros<;>rfl)),fun j hj=> .inr (h6 j hj),hJ.mv g6 11 (by omega) (by first | exact fun _=>rfl | exact fun h=>absurd h (by decide)) (by first | exact fun _=>rfl | exact fun h=>absurd h (by decide)) (by first | exact fun _=>rfl | exact fun h=>absurd h (by decide)) (by first | exact fun _=>rfl | exact fun h=>absurd h (by decide)) (by first | exact fun _=>rfl | exact fun h=>absurd h (by decide)) (by first | exact fun _=>rfl | exact fun h=>absurd h (by decide)) (by first | exact fun _=>rfl | exact fun h=>absurd h (by decide)) (by first | exact fun _=>rfl | exact fun h=>absurd h (by decide)) (by first | exact fun _=>rfl | exact fun h=>absurd h (by decide)) (by first | exact fun _=>rfl | exact fun h=>absurd h (by decide))⟩
  ·refine bC rfl rfl ?_
   go_simp
   exact⟨y,z,B,N,V.heap.size,q,_,_,_,_,_,_,_,_,(by first | rfl | (and_intros<;>rfl)),fun j hj=> .inr (h6 j hj),hJ.PV hR hn⟩
  ·refine bC rfl rfl ?_
   go_simp
   exact⟨y,z,B,N,p,V.heap.size,_,_,_,_,_,_,_,_,(by first | rfl | (and_intros<;>rfl)),fun j hj=> .inr (h6 j hj),hJ.PW hR hn⟩
  ·have gA:=hd 12 (of_decide_eq_true (by kernel_rfl))
   have gB:=hd 9 (of_decide_eq_true (by kernel_rfl))
   obtain⟨rfl,_,_,x',gx,_⟩:=hJ.a1 gA
   obtain⟨g6,rfl⟩:=hJ.e1 gB
   obtain⟨⟨oa,on,oc⟩,⟨pa,pn,pc⟩,⟨qa,qn,qc⟩,⟨ra,rn,rc⟩⟩:=y
   obtain⟨a0,a1,a2,a3,_⟩:=ay gx
   have f0:=aA gx 0
   have f1:=aA gx 1
   have f2:=aA gx 2
   have f3:=aA gx 3
   unfold gZ
   have hJ2:=hJ.st1 hR g6 gA
   simp only[Sv.v]at hJ2
   refine bC rfl rfl ?_
   go_simp
   exact⟨_,_,B,N,p,q,_,_,_,_,_,_,_,_,(by first | rfl | (and_intros<;>rfl)),fun j hj=> .inr (h6 j hj),hJ2⟩
  ·have gA:=hd 13 (of_decide_eq_true (by kernel_rfl))
   have gB:=hd 10 (of_decide_eq_true (by kernel_rfl))
   obtain⟨rfl,_,_,x',gx,_⟩:=hJ.a2 gA
   obtain⟨g6,rfl⟩:=hJ.e2 gB
   obtain⟨v_1,GK,GL,GN,⟨GQ,GR,GU⟩,⟨GV,GX,sI⟩,⟨sJ,sK,sM⟩⟩:=z
   obtain⟨b0_,b1,b2_,b3,b4,b5,b6,_⟩:=aB gx
   have g0:=ak gx 0
   have g1:=ak gx 1
   have g2:=ak gx 2
   have g3:=ak gx 3
   have g4:=ak gx 4
   have g5:=ak gx 5
   have g6':=ak gx 6
   unfold gZ
   have hJ2:=hJ.st2 hR g6 gA
   simp only[Sv.v]at hJ2
   refine bC rfl rfl ?_
   go_simp
   exact⟨_,_,B,N,p,q,_,_,_,_,_,_,_,_,(by first | rfl | (and_intros<;>rfl)),fun j hj=> .inr (h6 j hj),hJ2⟩
  ·have g10:=hd 11 (of_decide_eq_true (by kernel_rfl))
   obtain⟨g6,rfl⟩:=hJ.e3 g10
   refine bC rfl rfl ?_
   go_simp
   exact⟨y,z,B,N,p,q,_,_,_,_,_,_,_,_,(by first | rfl | (and_intros<;>rfl)),fun j hj=> .inr (h6 j hj),hJ.mv g6 16 (by omega) (by first | exact fun _=>rfl | exact fun h=>absurd h (by decide)) (by first | exact fun _=>rfl | exact fun h=>absurd h (by decide)) (by first | exact fun _=>rfl | exact fun h=>absurd h (by decide)) (by first | exact fun _=>rfl | exact fun h=>absurd h (by decide)) (by first | exact fun _=>rfl | exact fun h=>absurd h (by decide)) (by first | exact fun _=>rfl | exact fun h=>absurd h (by decide)) (by first | exact fun _=>rfl | exact fun h=>absurd h (by decide)) (by first | exact fun _=>rfl | exact fun h=>absurd h (by decide)) (by first | exact fun _=>rfl | exact fun h=>absurd h (by decide)) (by first | exact fun _=>rfl | exact fun h=>absurd h (by decide))⟩
 ·intro D a V hI hall
  obtain⟨y,z,B,N,p,q,vT,vM,vA,vB,vC,vp,vq,vo,rfl,_,hJ⟩:=hI
  obtain⟨rfl,rfl,rfl,f1,f2,f3,f4,f5,f6⟩:=hJ.fin (fun j hj=>hall j hj)
  exact HRR.out _ _ ⟨_,_,_,_,_,_,_,_,_,_,_,_,_,_,_,⟨p,q,y,z,rfl,rfl,rfl,f1,f2,f3.1.m,f3.2.o.m,f4,f5,f6⟩,rfl⟩
end Go.Proofs.YtlfopoimbbpfdaaGreat
namespace Go.Proofs.YtlfopoimbbpfdaaGreat
open Go.RowKit
attribute [local go_sem ↓] Go.wp_at_zero Go.wp_at_succ
set_option maxRecDepth 100000 in
set_option maxHeartbeats 8000000 in
theorem Sz (w W:World) (xk xd xn:Int) (xw:Sv) (xo:pO) (ya yb:bZ) (b:Bk) (dev ep:Int) (va:Option Addr) (wn vc:Nat) (ws:List Wn) (h:Dq w W ⟨xk,xd,xn,xw,xo⟩ ya yb) (hyb:eD w yb b) (hws:oH W (.slice va wn vc) ws) (hG:RI b) (b2:Bk) (gl:Ls) (ge:Int) (hgr:fM b dev ep (xn%100) ws=(b2,gl,ge)) (u0 u1 u2 u8 u12 u13 u14 u15 u16 u17 u18 u19 u20 u21 u22 u23 u24 u25 u26 u27 u28 u29 u30 u31 u32 u33 u34 u35 u36 u37 u38 u39 u40 u41 u42 u43 u44 u45 u46 u47 u48 u49 u50 u51 u52 u53 u54 u55 u56 u57 u58 u59 u60 u61 u62 u63 u64 u65 u66 u67 u68 u69 u70 u71 u72 u73 u74 u75 u76 u77 u78 u79 u80 u81 u82 u83 u84 u85 u86 u87 u88 u89 u90 u91 u92 u93 u94 u95 u96 u97 u98 u99 u100 u101 u102 u103 u104 u105 u106 u107 u108 u109 u110 u111 u112 u113 u114 u115 u116 u117 u118 u119 u120 u121 u122 u123 u124 u125 u126 u127 u128 u129 u130 u131 u132 u133 u134 u135 u136 u137 u138 u139 u140 u141 u142 u143 u144 u145 u146 u147 u148 u149 u150 u151 u152 u153 u154 u155 u156 u157 u158 u159 u160 u161 u162 u163 u164 u165 u166 u167 u168 u169 u170 u171 u172 u173 u174 u175 u176 u177 u178 u179 u180 u181 u182 u183 u184 u185 u186 u187 u188 u189 u190 u191 u192 u193 u194 u195 u196 u197 u198 u199 u200 u201 u202 u203 u204 u205 u206 u207 u208 u209 u210 u211 u212 u213 u214 u215 u216 u217 u218 u219 u220 u221 u222 u223 u224 u225 u226 u227 u228 u229 u230 u231 u232 u233 u234 u235 u236 u237 u238:Value) (RR:Act→World→Prop) (hRR:∀a_ w_,(fun (a':Act) (wx:World)=>∃u16:Value,∃u17:Value,∃u18:Value,∃u72:Value,∃u73:Value,∃u74:Value,∃u75:Value,∃u76:Value,∃u77:Value,∃u78:Value,∃u79:Value,∃u80:Value,∃u81:Value,∃u82:Value,∃u83:Value,(∃ (p16 vV:Nat) (y:bZ) (z:bV),u16= .pointer (some ⟨p16,0,none⟩)∧u17= .pointer (some ⟨vV,0,none⟩)∧u18= .int .i64 ge∧wx.heap[p16]? =some (.cells #[y.c.v,y.f.v,y.l.v,y.b.v] 30 (0,0))∧wx.heap[vV]? =some (.cells #[.int .i64 z.dev,.int .i64 z.epoch,.int .i64 z.bY,.int .i64 z.last,z.s.v,z.i.v,z.u.v] 48 (0,0))∧eD wx y b2∧lW wx z gl∧Below W.heap.size W wx∧W.heap.size≤p16∧W.heap.size≤vV)∧a'=⟨#[u0,u1,u2,.pointer (some ⟨w.heap.size,0,none⟩),.pointer (some ⟨w.heap.size+1,0,none⟩),.pointer (some ⟨w.heap.size+1+1,0,none⟩),.pointer (some ⟨w.heap.size+1+1+1,0,none⟩),.pointer (some ⟨w.heap.size+1+1+1+1,0,none⟩),u8,.int .i64 dev,.int .i64 ep,.slice va wn vc,u12,u13,u14,u15,u16,u17,u18,u19,u20,u21,u22,u23,u24,u25,u26,u27,u28,u29,u30,u31,u32,u33,u34,u35,u36,u37,u38,u39,u40,u41,u42,u43,u44,u45,u46,u47,u48,u49,u50,u51,u52,u53,u54,u55,u56,u57,u58,u59,u60,u61,u62,u63,u64,u65,u66,u67,u68,u69,u70,u71,u72,u73,u74,u75,u76,u77,u78,u79,u80,u81,u82,u83,u84,u85,u86,u87,u88,u89,u90,u91,u92,u93,u94,u95,u96,u97,u98,u99,u100,u101,u102,u103,u104,u105,u106,u107,u108,u109,u110,u111,u112,u113,u114,u115,u116,u117,u118,u119,u120,u121,u122,u123,u124,u125,u126,u127,u128,u129,u130,u131,u132,u133,u134,u135,u136,u137,u138,u139,u140,u141,u142,u143,u144,u145,u146,u147,u148,u149,u150,u151,u152,u153,u154,u155,u156,u157,u158,u159,u160,u161,u162,u163,u164,u165,u166,u167,u168,u169,u170,u171,u172,u173,u174,u175,u176,u177,u178,u179,u180,u181,u182,u183,u184,u185,u186,u187,u188,u189,u190,u191,u192,u193,u194,u195,u196,u197,u198,u199,u200,u201,u202,u203,u204,u205,u206,u207,u208,u209,u210,u211,u212,u213,u214,u215,u216,u217,u218,u219,u220,u221,u222,u223,u224,u225,u226,u227,u228,u229,u230,u231,u232,u233,u234,u235,u236,u237,u238],[]⟩) a_ w_→RR a_ w_):
  ∀c,Tryz.f10.body.bind (kF 11)=some c→Code.wp Tryz.prog c (Exit.then RR (fun _ _ _=>False)) ⟨#[u0,u1,u2,.pointer (some ⟨w.heap.size,0,none⟩),.pointer (some ⟨w.heap.size+1,0,none⟩),.pointer (some ⟨w.heap.size+1+1,0,none⟩),.pointer (some ⟨w.heap.size+1+1+1,0,none⟩),.pointer (some ⟨w.heap.size+1+1+1+1,0,none⟩),u8,.int .i64 dev,.int .i64 ep,.slice va wn vc,u12,u13,u14,u15,u16,u17,u18,u19,u20,u21,u22,u23,u24,u25,u26,u27,u28,u29,u30,u31,u32,u33,u34,u35,u36,u37,u38,u39,u40,u41,u42,u43,u44,u45,u46,u47,u48,u49,u50,u51,u52,u53,u54,u55,u56,u57,u58,u59,u60,u61,u62,u63,u64,u65,u66,u67,u68,u69,u70,u71,u72,u73,u74,u75,u76,u77,u78,u79,u80,u81,u82,u83,u84,u85,u86,u87,u88,u89,u90,u91,u92,u93,u94,u95,u96,u97,u98,u99,u100,u101,u102,u103,u104,u105,u106,u107,u108,u109,u110,u111,u112,u113,u114,u115,u116,u117,u118,u119,u120,u121,u122,u123,u124,u125,u126,u127,u128,u129,u130,u131,u132,u133,u134,u135,u136,u137,u138,u139,u140,u141,u142,u143,u144,u145,u146,u147,u148,u149,u150,u151,u152,u153,u154,u155,u156,u157,u158,u159,u160,u161,u162,u163,u164,u165,u166,u167,u168,u169,u170,u171,u172,u173,u174,u175,u176,u177,u178,u179,u180,u181,u182,u183,u184,u185,u186,u187,u188,u189,u190,u191,u192,u193,u194,u195,u196,u197,u198,u199,u200,u201,u202,u203,u204,u205,u206,u207,u208,u209,u210,u211,u212,u213,u214,u215,u216,u217,u218,u219,u220,u221,u222,u223,u224,u225,u226,u227,u228,u229,u230,u231,u232,u233,u234,u235,u236,u237,u238],[]⟩ W:=by
 dsimp only at hRR
 have HRR:=ah hRR
 clear hRR
 refine pq rfl ?_
 obtain⟨⟨ca,cn,cc⟩,⟨fa,aX,fc⟩,⟨la,ln,lc⟩,⟨ba,b_n,bc⟩⟩:=ya
 obtain⟨⟨ga,gn,gc⟩,⟨ha,h_n,hc⟩,⟨ia,dz,ic⟩,⟨ja,jn,jc⟩⟩:=yb
 obtain⟨vZ,wh,wm⟩:=xw
 have HQ:=ah h
 have o_:=ah hyb
 have JH:=ah hws
 have tX:=ah hG
 have j5:=ah hgr
 clear h hyb hws hG hgr
 refine aS 14 (fun w'=>Below W.heap.size W w') (by kernel_rfl) ?_
 have hS0:Below W.heap.size W W.drew:=(aL _ _).drew
 refine aD (i:=0) (v:=.agg #[.slice ga gn gc,.slice ha h_n hc,.slice ia dz ic,.slice ja jn jc]) rfl rfl (by kernel_rfl) (by kernel_rfl) (by kernel_rfl) (by kernel_rfl) (by kernel_rfl) (by decide) (fun _ _ _ h=>h) (.inl ⟨rfl,fun w' hw=>?_⟩) hS0 ?_
 ·obtain⟨a0,a1,a2,a3,_⟩:=ay (HQ.out.keep hw).k5
  simp only[Sv.v]at a0 a1 a2 a3
  go_simp
 refine aG (i:=1) (v:=.int .i64 dev) rfl (by kernel_rfl) (by kernel_rfl) (by kernel_rfl) (by decide) (fun _ _ _ h=>h) (.inl ⟨rfl,fun w' _=>?_⟩) hS0 ?_
 ·go_simp
 refine aG (i:=2) (v:=.int .i64 ep) rfl (by kernel_rfl) (by kernel_rfl) (by kernel_rfl) (by decide) (fun _ _ _ h=>h) (.inl ⟨rfl,fun w' _=>?_⟩) hS0 ?_
 ·go_simp
 refine aG (i:=3) (v:=.pointer (some ⟨w.heap.size,2,none⟩)) rfl (by kernel_rfl) (by kernel_rfl) (by kernel_rfl) (by decide) (fun _ _ _ h=>h) (.inl ⟨rfl,fun w' _=>?_⟩) hS0 ?_
 ·go_simp
 refine aD (i:=4) (v:=.int .i64 xn) rfl rfl (by kernel_rfl) (by kernel_rfl) (by kernel_rfl) (by kernel_rfl) (by kernel_rfl) (by decide) (fun _ _ _ h=>h) (.inl ⟨rfl,fun w' hw=>?_⟩) hS0 ?_
 ·have e2:w'.cell? ⟨w.heap.size,2,none⟩=some (.int .i64 xn):=by
   have:=(HQ.out.keep hw).k3
   simp only[World.cell?,this]
   rfl
  go_simp
 refine dP (i:=5) (v:=.int .i64 (xn%100)) rfl (by kernel_rfl) (by kernel_rfl) (by kernel_rfl) (by decide) (fun _ _ _ h=>h) ⟨rfl,18,#[.int .i64 xn,.int .i64 100],fun w' _=>?_,fun w' _=>iI _ _ _ (by omega) (by omega)⟩ hS0 ?_
 ·go_simp
 refine aG (i:=6) (v:=.slice va wn vc) rfl (by kernel_rfl) (by kernel_rfl) (by kernel_rfl) (by decide) (fun _ _ _ h=>h) (.inl ⟨rfl,fun w' _=>?_⟩) hS0 ?_
 ·go_simp
 have hR:Rs W (fun y z B N V=>Js w V B N y b2∧Ee V B N z gl):=⟨fun h hb=>⟨h.1.keep hb,h.2.keep hb⟩,fun h hp hg ht hoth hb=>⟨h.1.Nk (HQ.out.aZ.trans (hb.mono HQ.out.aZ.size)) hp hoth hg (by rcases ht with rfl | rfl<;>decide) (by rcases ht with rfl | rfl<;>decide) (by rcases ht with rfl | rfl<;>decide) (by rcases ht with rfl | rfl<;>decide),h.2.Nk hp hoth⟩⟩
 refine mP (fun D a V=>∃ (y:bZ) (z:bV) (B N p q:Nat) (vT vM vA vB vC vp vq vo:Value),a=⟨#[u0,u1,u2,.pointer (some ⟨w.heap.size,0,none⟩),.pointer (some ⟨w.heap.size+1,0,none⟩),.pointer (some ⟨w.heap.size+1+1,0,none⟩),.pointer (some ⟨w.heap.size+1+1+1,0,none⟩),.pointer (some ⟨w.heap.size+1+1+1+1,0,none⟩),u8,.int .i64 dev,.int .i64 ep,.slice va wn vc,u12,u13,u14,u15,vp,vq,vo,u19,u20,u21,u22,u23,u24,u25,u26,u27,u28,u29,u30,u31,u32,u33,u34,u35,u36,u37,u38,u39,u40,u41,u42,u43,u44,u45,u46,u47,u48,u49,u50,u51,u52,u53,u54,u55,u56,u57,u58,u59,u60,u61,u62,u63,u64,u65,u66,u67,u68,u69,u70,u71,vM,fT ⟨⟨ga,gn,gc⟩,⟨ha,h_n,hc⟩,⟨ia,dz,ic⟩,⟨ja,jn,jc⟩⟩,.int .i64 dev,.int .i64 ep,.pointer (some ⟨w.heap.size,2,none⟩),.int .i64 xn,.int .i64 (xn%100),.slice va wn vc,vT,vA,vB,vC,u84,u85,u86,u87,u88,u89,u90,u91,u92,u93,u94,u95,u96,u97,u98,u99,u100,u101,u102,u103,u104,u105,u106,u107,u108,u109,u110,u111,u112,u113,u114,u115,u116,u117,u118,u119,u120,u121,u122,u123,u124,u125,u126,u127,u128,u129,u130,u131,u132,u133,u134,u135,u136,u137,u138,u139,u140,u141,u142,u143,u144,u145,u146,u147,u148,u149,u150,u151,u152,u153,u154,u155,u156,u157,u158,u159,u160,u161,u162,u163,u164,u165,u166,u167,u168,u169,u170,u171,u172,u173,u174,u175,u176,u177,u178,u179,u180,u181,u182,u183,u184,u185,u186,u187,u188,u189,u190,u191,u192,u193,u194,u195,u196,u197,u198,u199,u200,u201,u202,u203,u204,u205,u206,u207,u208,u209,u210,u211,u212,u213,u214,u215,u216,u217,u218,u219,u220,u221,u222,u223,u224,u225,u226,u227,u228,u229,u230,u231,u232,u233,u234,u235,u236,u237,u238],[]⟩∧(∀j,j<7→D j)∧Jg W (fun y z B N V=>Js w V B N y b2∧Ee V B N z gl) ge 7 D y z B N p q vT vM vA vB vC vp vq vo V) (by kernel_rfl) (fun D a V h _=>by obtain⟨_,_,_,_,_,_,_,_,_,_,_,_,_,_,_,_,hJ⟩:=h;exact hJ.aZ) ?_ ?_ _ _ _ _ (of_decide_eq_true (by kernel_rfl)) (by kernel_rfl) ⟨Mh,rD,0,0,0,0,u80,u72,u81,u82,u83,u16,u17,u18,by go_simp,of_decide_eq_true (by kernel_rfl),Jg.start hS0 (of_decide_eq_true (by kernel_rfl))⟩
 ·intro i hi D a V hI hn hd
  obtain⟨y,z,B,N,p,q,vT,vM,vA,vB,vC,vp,vq,vo,rfl,h6,hJ⟩:=hI
  have Sy:i<17:=hi
  have hi7:7≤i:=by rcases Nat.lt_or_ge i 7 with h | h;exact absurd (h6 i h) hn;exact h
  have hcs:i=7∨i=8∨i=9∨i=10∨i=11∨i=12∨i=13∨i=14∨i=15∨i=16:=by omega
  have hV:=hJ.aZ
  clear hi Sy hi7
  rcases hcs with rfl | rfl | rfl | rfl | rfl | rfl | rfl | rfl | rfl | rfl
  ·refine bC rfl rfl ?_
   go_simp
   refine(Fj w ⟨⟨ga,gn,gc⟩,⟨ha,h_n,hc⟩,⟨ia,dz,ic⟩,⟨ja,jn,jc⟩⟩ b dev ep (xn%100) (.slice va wn vc) ws V (HQ.out.aZ.trans (hV.mono HQ.out.aZ.size)) o_.out tX.out (cK.keep JH.out hV (aC _))).mono ?_
   rw[j5.out]
   rintro en V1 ⟨y',z',rfl,⟨B',hB,hbk⟩,hls,hb⟩
   have hbw:=Js.of hbk
   exact⟨y',z',V.heap.size,V1.heap.size,p,q,_,_,_,_,_,_,_,_,(by first | rfl | (and_intros<;>rfl)),fun j hj=> .inr (h6 j hj),hJ.call hn ⟨⟨hbw.aZ,hbw.rc,hbw.rf,hbw.rl.imp id (fun ⟨xs,h1,h2⟩=>⟨xs,⟨aO h1.1 hB,h1.2⟩,h2⟩),hbw.rb⟩,Ee.of hls⟩ (aC _) (aC _) hb⟩
  ·have g6:=hd 7 (of_decide_eq_true (by kernel_rfl))
   obtain⟨rfl,_,_⟩:=hJ.c g6
   refine bC rfl rfl ?_
   go_simp
   exact⟨y,z,B,N,p,q,_,_,_,_,_,_,_,_,(by first | rfl | (and_intros<;>rfl)),fun j hj=> .inr (h6 j hj),hJ.mv g6 8 (by omega) (by first | exact fun _=>rfl | exact fun h=>absurd h (by decide)) (by first | exact fun _=>rfl | exact fun h=>absurd h (by decide)) (by first | exact fun _=>rfl | exact fun h=>absurd h (by decide)) (by first | exact fun _=>rfl | exact fun h=>absurd h (by decide)) (by first | exact fun _=>rfl | exact fun h=>absurd h (by decide)) (by first | exact fun _=>rfl | exact fun h=>absurd h (by decide)) (by first | exact fun _=>rfl | exact fun h=>absurd h (by decide)) (by first | exact fun _=>rfl | exact fun h=>absurd h (by decide)) (by first | exact fun _=>rfl | exact fun h=>absurd h (by decide)) (by first | exact fun _=>rfl | exact fun h=>absurd h (by decide))⟩
  ·have g7:=hd 8 (of_decide_eq_true (by kernel_rfl))
   obtain⟨g6,rfl⟩:=hJ.m g7
   refine bC rfl rfl ?_
   go_simp
   exact⟨y,z,B,N,p,q,_,_,_,_,_,_,_,_,(by first | rfl | (and_intros<;>rfl)),fun j hj=> .inr (h6 j hj),hJ.mv g6 9 (by omega) (by first | exact fun _=>rfl | exact fun h=>absurd h (by decide)) (by first | exact fun _=>rfl | exact fun h=>absurd h (by decide)) (by first | exact fun _=>rfl | exact fun h=>absurd h (by decide)) (by first | exact fun _=>rfl | exact fun h=>absurd h (by decide)) (by first | exact fun _=>rfl | exact fun h=>absurd h (by decide)) (by first | exact fun _=>rfl | exact fun h=>absurd h (by decide)) (by first | exact fun _=>rfl | exact fun h=>absurd h (by decide)) (by first | exact fun _=>rfl | exact fun h=>absurd h (by decide)) (by first | exact fun _=>rfl | exact fun h=>absurd h (by decide)) (by first | exact fun _=>rfl | exact fun h=>absurd h (by decide))⟩
  ·have g7:=hd 8 (of_decide_eq_true (by kernel_rfl))
   obtain⟨g6,rfl⟩:=hJ.m g7
   refine bC rfl rfl ?_
   go_simp
   exact⟨y,z,B,N,p,q,_,_,_,_,_,_,_,_,(by first | rfl | (and_intros<;>rfl)),fun j hj=> .inr (h6 j hj),hJ.mv g6 10 (by omega) (by first | exact fun _=>rfl | exact fun h=>absurd h (by decide)) (by first | exact fun _=>rfl | exact fun h=>absurd h (by decide)) (by first | exact fun _=>rfl | exact fun h=>absurd h (by decide)) (by first | exact fun _=>rfl | exact fun h=>absurd h (by decide)) (by first | exact fun _=>rfl | exact fun h=>absurd h (by decide)) (by first | exact fun _=>rfl | exact fun h=>absurd h (by decide)) (by first | exact fun _=>rfl | exact fun h=>absurd h (by decide)) (by first | exact fun _=>rfl | exact fun h=>absurd h (by decide)) (by first | exact fun _=>rfl | exact fun h=>absurd h (by decide)) (by first | exact fun _=>rfl | exact fun h=>absurd h (by decide))⟩
  ·have g7:=hd 8 (of_decide_eq_true (by kernel_rfl))
   obtain⟨g6,rfl⟩:=hJ.m g7
   refine bC rfl rfl ?_
   go_simp
   exact⟨y,z,B,N,p,q,_,_,_,_,_,_,_,_,(by first | rfl | (and_intros<;>rfl)),fun j hj=> .inr (h6 j hj),hJ.mv g6 11 (by omega) (by first | exact fun _=>rfl | exact fun h=>absurd h (by decide)) (by first | exact fun _=>rfl | exact fun h=>absurd h (by decide)) (by first | exact fun _=>rfl | exact fun h=>absurd h (by decide)) (by first | exact fun _=>rfl | exact fun h=>absurd h (by decide)) (by first | exact fun _=>rfl | exact fun h=>absurd h (by decide)) (by first | exact fun _=>rfl | exact fun h=>absurd h (by decide)) (by first | exact fun _=>rfl | exact fun h=>absurd h (by decide)) (by first | exact fun _=>rfl | exact fun h=>absurd h (by decide)) (by first | exact fun _=>rfl | exact fun h=>absurd h (by decide)) (by first | exact fun _=>rfl | exact fun h=>absurd h (by decide))⟩
  ·refine bC rfl rfl ?_
   go_simp
   exact⟨y,z,B,N,V.heap.size,q,_,_,_,_,_,_,_,_,(by first | rfl | (and_intros<;>rfl)),fun j hj=> .inr (h6 j hj),hJ.PV hR hn⟩
  ·refine bC rfl rfl ?_
   go_simp
   exact⟨y,z,B,N,p,V.heap.size,_,_,_,_,_,_,_,_,(by first | rfl | (and_intros<;>rfl)),fun j hj=> .inr (h6 j hj),hJ.PW hR hn⟩
  ·have gA:=hd 12 (of_decide_eq_true (by kernel_rfl))
   have gB:=hd 9 (of_decide_eq_true (by kernel_rfl))
   obtain⟨rfl,_,_,x',gx,_⟩:=hJ.a1 gA
   obtain⟨g6,rfl⟩:=hJ.e1 gB
   obtain⟨⟨oa,on,oc⟩,⟨pa,pn,pc⟩,⟨qa,qn,qc⟩,⟨ra,rn,rc⟩⟩:=y
   obtain⟨a0,a1,a2,a3,_⟩:=ay gx
   have f0:=aA gx 0
   have f1:=aA gx 1
   have f2:=aA gx 2
   have f3:=aA gx 3
   unfold gZ
   have hJ2:=hJ.st1 hR g6 gA
   simp only[Sv.v]at hJ2
   refine bC rfl rfl ?_
   go_simp
   exact⟨_,_,B,N,p,q,_,_,_,_,_,_,_,_,(by first | rfl | (and_intros<;>rfl)),fun j hj=> .inr (h6 j hj),hJ2⟩
  ·have gA:=hd 13 (of_decide_eq_true (by kernel_rfl))
   have gB:=hd 10 (of_decide_eq_true (by kernel_rfl))
   obtain⟨rfl,_,_,x',gx,_⟩:=hJ.a2 gA
   obtain⟨g6,rfl⟩:=hJ.e2 gB
   obtain⟨v_1,GK,GL,GN,⟨GQ,GR,GU⟩,⟨GV,GX,sI⟩,⟨sJ,sK,sM⟩⟩:=z
   obtain⟨b0_,b1,b2_,b3,b4,b5,b6,_⟩:=aB gx
   have g0:=ak gx 0
   have g1:=ak gx 1
   have g2:=ak gx 2
   have g3:=ak gx 3
   have g4:=ak gx 4
   have g5:=ak gx 5
   have g6':=ak gx 6
   unfold gZ
   have hJ2:=hJ.st2 hR g6 gA
   simp only[Sv.v]at hJ2
   refine bC rfl rfl ?_
   go_simp
   exact⟨_,_,B,N,p,q,_,_,_,_,_,_,_,_,(by first | rfl | (and_intros<;>rfl)),fun j hj=> .inr (h6 j hj),hJ2⟩
  ·have g10:=hd 11 (of_decide_eq_true (by kernel_rfl))
   obtain⟨g6,rfl⟩:=hJ.e3 g10
   refine bC rfl rfl ?_
   go_simp
   exact⟨y,z,B,N,p,q,_,_,_,_,_,_,_,_,(by first | rfl | (and_intros<;>rfl)),fun j hj=> .inr (h6 j hj),hJ.mv g6 16 (by omega) (by first | exact fun _=>rfl | exact fun h=>absurd h (by decide)) (by first | exact fun _=>rfl | exact fun h=>absurd h (by decide)) (by first | exact fun _=>rfl | exact fun h=>absurd h (by decide)) (by first | exact fun _=>rfl | exact fun h=>absurd h (by decide)) (by first | exact fun _=>rfl | exact fun h=>absurd h (by decide)) (by first | exact fun _=>rfl | exact fun h=>absurd h (by decide)) (by first | exact fun _=>rfl | exact fun h=>absurd h (by decide)) (by first | exact fun _=>rfl | exact fun h=>absurd h (by decide)) (by first | exact fun _=>rfl | exact fun h=>absurd h (by decide)) (by first | exact fun _=>rfl | exact fun h=>absurd h (by decide))⟩
 ·intro D a V hI hall
  obtain⟨y,z,B,N,p,q,vT,vM,vA,vB,vC,vp,vq,vo,rfl,_,hJ⟩:=hI
  obtain⟨rfl,rfl,rfl,f1,f2,f3,f4,f5,f6⟩:=hJ.fin (fun j hj=>hall j hj)
  exact HRR.out _ _ ⟨_,_,_,_,_,_,_,_,_,_,_,_,_,_,_,⟨p,q,y,z,rfl,rfl,rfl,f1,f2,f3.1.m,f3.2.o.m,f4,f5,f6⟩,rfl⟩
end Go.Proofs.YtlfopoimbbpfdaaGreat
