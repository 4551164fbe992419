/- What the law asks, in parts: Bf Bg Bn. -/
import Derived.Deep.DrawnRows
import Derived.Test.YtlfopoimbbpfdaaGreatPk35
import Derived.Test.YtlfopoimbbpfdaaGreatPk33
set_option linter.all false
namespace Go.Proofs.YtlfopoimbbpfdaaGreat
open Go.RowKit
attribute [local go_sem ↓] Go.wp_at_zero Go.wp_at_succ
set_option maxRecDepth 100000 in
set_option maxHeartbeats 8000000 in
theorem OL (w W:World) (x:ow) (ya yb:bZ) (b:Bk) (l:Ls) (q:Bool) (dev ep:Int) (o:pO) (nR:Nat) (h:Dq w W x ya yb) (hya:eD w ya b) (hyb:eD w yb b) (ho:W.heap[nR]? =some (.cells #[.int .i64 o.dev,.int .i64 o.epoch,.int .i64 o.seq,.int .i64 o.coll,.int .i64 o.ver,.int .i64 o.kind,.string o.key,.string o.text,.int .i64 o.n,.int .i64 o.time,o.dots.v] 38 (0,0))) (FC:w.heap.size+1+1+1+1<nR) (hf:iT b dev ep=(l,q)) (hrf:fD b dev ep=(l,q)) (hid:∀r∈l.ids,0≤r.1∧r.1<r.2∧r.2≤1000) (n2:Int) (hn2:n2=if o.kind=5∧0<l.ids.length∧0<x.n.tmod 3 then(l.ids.getD 0 (0,0)).1+o.n%((l.ids.getD 0 (0,0)).2-(l.ids.getD 0 (0,0)).1)else o.n) (hB:zN b) (hS:NS l o.kind n2) (hE:dM l o.kind o.key n2=bN l o.kind o.key n2) (hP:kC b (bN l o.kind o.key n2).1=kR b (bN l o.kind o.key n2).1) (hL2:wJ (bN l o.kind o.key n2).1) (b2:Bk) (hb2:b2=if (bN l o.kind o.key n2).2=0 then(kR b (bN l o.kind o.key n2).1).1 else b) (u0 u1 u2 u8 u11 u13 u14 u15 u16 u17 u18 u19 u20 u21 u22 u23 u24 u25 u26 u27 u28 u29 u30 u31 u32 u33 u34 u35 u36 u37 u38 u39 u40 u41 u42 u43 u44 u45 u46 u47 u48 u49 u50 u51 u52 u53 u54 u55 u56 u57 u58 u59 u60 u61 u62 u63 u64 u65 u66 u67 u68 u69 u70 u71 u72 u73 u74 u75 u76 u77 u78 u79 u80 u81 u82 u83 u84 u85 u86 u87 u88 u89 u90 u91 u92 u93 u94 u95 u96 u97 u98 u99 u100 u101 u102 u103 u104 u105 u106 u107 u108 u109 u110 u111 u112 u113 u114 u115 u116 u117 u118 u119 u120 u121 u122 u123 u124 u125 u126 u127 u128 u129 u130 u131 u132 u133 u134 u135 u136 u137 u138 u139 u140 u141 u142 u143 u144 u145 u146 u147 u148 u149 u150 u151 u152 u153 u154 u155 u156 u157 u158 u159 u160 u161 u162 u163 u164 u165 u166 u167 u168 u169 u170 u171 u172 u173 u174 u175 u176 u177 u178 u179 u180 u181 u182 u183 u184 u185 u186 u187 u188 u189 u190 u191 u192 u193 u194 u195 u196 u197 u198 u199 u200 u201 u202 u203 u204 u205 u206 u207 u208 u209 u210 u211 u212 u213 u214 u215 u216 u217 u218 u219 u220 u221 u222 u223 u224 u225 u226 u227 u228 u229 u230 u231 u232 u233 u234 u235 u236 u237 u238:Value):
  ∀c,Tryz.f10.body.bind (spine 6)=some c→Code.wp Tryz.prog c (bodyPost Tryz.prog Tryz.f10 (nD w b2)) ⟨#[u0,u1,u2,.pointer (some ⟨w.heap.size,0,none⟩),.pointer (some ⟨w.heap.size+1,0,none⟩),.pointer (some ⟨w.heap.size+1+1,0,none⟩),.pointer (some ⟨w.heap.size+1+1+1,0,none⟩),.pointer (some ⟨w.heap.size+1+1+1+1,0,none⟩),u8,.int .i64 dev,.int .i64 ep,u11,.pointer (some ⟨nR,0,none⟩),u13,u14,u15,u16,u17,u18,u19,u20,u21,u22,u23,u24,u25,u26,u27,u28,u29,u30,u31,u32,u33,u34,u35,u36,u37,u38,u39,u40,u41,u42,u43,u44,u45,u46,u47,u48,u49,u50,u51,u52,u53,u54,u55,u56,u57,u58,u59,u60,u61,u62,u63,u64,u65,u66,u67,u68,u69,u70,u71,u72,u73,u74,u75,u76,u77,u78,u79,u80,u81,u82,u83,u84,u85,u86,u87,u88,u89,u90,u91,u92,u93,u94,u95,u96,u97,u98,u99,u100,u101,u102,u103,u104,u105,u106,u107,u108,u109,u110,u111,u112,u113,u114,u115,u116,u117,u118,u119,u120,u121,u122,u123,u124,u125,u126,u127,u128,u129,u130,u131,u132,u133,u134,u135,u136,u137,u138,u139,u140,u141,u142,u143,u144,u145,u146,u147,u148,u149,u150,u151,u152,u153,u154,u155,u156,u157,u158,u159,u160,u161,u162,u163,u164,u165,u166,u167,u168,u169,u170,u171,u172,u173,u174,u175,u176,u177,u178,u179,u180,u181,u182,u183,u184,u185,u186,u187,u188,u189,u190,u191,u192,u193,u194,u195,u196,u197,u198,u199,u200,u201,u202,u203,u204,u205,u206,u207,u208,u209,u210,u211,u212,u213,u214,u215,u216,u217,u218,u219,u220,u221,u222,u223,u224,u225,u226,u227,u228,u229,u230,u231,u232,u233,u234,u235,u236,u237,u238],[]⟩ W:=by
 refine dH rfl ?_
 obtain⟨⟨ca,cn,cc⟩,⟨fa,aX,fc⟩,⟨la,ln,lc⟩,⟨ba,b_n,bc⟩⟩:=ya
 obtain⟨⟨ga,gn,gc⟩,⟨ha,h_n,hc⟩,⟨ia,dz,ic⟩,⟨ja,jn,jc⟩⟩:=yb
 have HQ:=ah h
 have jU:=ah hya
 have o_:=ah hyb
 have Na:=ah ho
 have HF:=ah hf
 have JC:=ah hrf
 have HB:=ah hB
 have HP:=ah (And.intro hid (And.intro hn2 (And.intro hS (And.intro hE (And.intro hP (And.intro hL2 hb2))))))
 obtain⟨a0,a1,a2,a3,_⟩:=ay h.k4
 simp only[Sv.v]at a0 a1 a2 a3
 have yY:=(bg ho).1
 have NV:=(bg h.k7).1
 clear h hya hyb ho hf hrf hB hid hn2 hS hE hP hL2 hb2
 go_wp2_with fail
 refine(Ka ⟨⟨ca,cn,cc⟩,⟨fa,aX,fc⟩,⟨la,ln,lc⟩,⟨ba,b_n,bc⟩⟩ b dev ep W (jU.out.keep HQ.out.aZ (aC _)) HB.out).mono ?_
 rw[HF.out]
 rintro en W2 ⟨⟨y1,y2,y3,y4,⟨y5,y6,y7⟩,⟨y8,y9,bW⟩,⟨bX,cB,y13⟩⟩,rfl,hl2,hb2⟩
 have dK:=(aL W2.heap.size W2).alloc (aC _) (.cells #[.int .i64 y1,.int .i64 y2,.int .i64 y3,.int .i64 y4,.slice y5 y6 y7,.slice y8 y9 bW,.slice bX cB y13] 48)
 have hb3:=hb2.trans (dK.mono hb2.size)
 have HL3:=ah (hl2.keep dK (aC _))
 have Jq:=ah (heap_alloc_new W2 (.cells #[.int .i64 y1,.int .i64 y2,.int .i64 y3,.int .i64 y4,.slice y5 y6 y7,.slice y8 y9 bW,.slice bX cB y13] 48))
 have vR:=ah (HQ.out.keep hb3)
 have Sr:=ah (aj Na.out hb3 yY)
 have hz2:=hb2.size
 have hz3:W2.heap.size<(W2.alloc (.cells #[.int .i64 y1,.int .i64 y2,.int .i64 y3,.int .i64 y4,.slice y5 y6 y7,.slice y8 y9 bW,.slice bX cB y13] 48)).heap.size:=by simp
 clear a0 a1 a2 a3 hl2 hb2 hb3 dK HQ Na
 go_upto_region 18 with fail
 generalize W2.alloc (.cells #[.int .i64 y1,.int .i64 y2,.int .i64 y3,.int .i64 y4,.slice y5 y6 y7,.slice y8 y9 bW,.slice bX cB y13] 48)=W3 at*
 generalize W2.heap.size=iF at*
 obtain⟨a0,a1,a2,a3,_⟩:=ay vR.out.k5
 simp only[Sv.v]at a0 a1 a2 a3
 go_wp2_with fail
 refine(zU ⟨⟨ga,gn,gc⟩,⟨ha,h_n,hc⟩,⟨ia,dz,ic⟩,⟨ja,jn,jc⟩⟩ b dev ep W3 (o_.out.keep vR.out.aZ (aC _)) HB.out).mono ?_
 rw[JC.out]
 rintro en W4 ⟨⟨z1,z2,z3,z4,⟨z5,z6,z7⟩,⟨z8,z9,dD⟩,⟨dI,z12,dJ⟩⟩,rfl,Nj,hb4⟩
 have yN:=(aL W4.heap.size W4).alloc (aC _) (.cells #[.int .i64 z1,.int .i64 z2,.int .i64 z3,.int .i64 z4,.slice z5 z6 z7,.slice z8 z9 dD,.slice dI z12 dJ] 48)
 have hb5:=hb4.trans (yN.mono hb4.size)
 have YE:=ah (Nj.keep yN (aC _))
 have Fz:=ah (heap_alloc_new W4 (.cells #[.int .i64 z1,.int .i64 z2,.int .i64 z3,.int .i64 z4,.slice z5 z6 z7,.slice z8 z9 dD,.slice dI z12 dJ] 48))
 have M8:=ah (HL3.out.keep hb5 (aC _))
 have FB:=ah (aj Jq.out hb5 hz3)
 have Xk:=ah (vR.out.keep hb5)
 have Xo:=ah (aj Sr.out hb5 (bg Sr.out).1)
 have jT:=hb4.size
 clear a0 a1 a2 a3 Nj hb4 hb5 yN vR Sr HL3 Jq
 go_upto_region 19 with fail
 generalize W4.alloc (.cells #[.int .i64 z1,.int .i64 z2,.int .i64 z3,.int .i64 z4,.slice z5 z6 z7,.slice z8 z9 dD,.slice dI z12 dJ] 48)=W5 at*
 generalize W4.heap.size=p25 at*
 obtain⟨d0,d1,d2,d3,d4,d5,d6,_⟩:=aB FB.out
 obtain⟨e0,e1,e2,e3,e4,e5,e6,_⟩:=aB Fz.out
 have hqq:(binOp BinOp.neq 4 (.bool q) (.bool q)).run Tryz.prog=fun w=> .ok (.bool false) w:=by
  cases q<;>rfl
 go_upto_if 147 with((go_at_call 27;refine(j4 ⟨y1,y2,y3,y4,⟨y5,y6,y7⟩,⟨y8,y9,bW⟩,⟨bX,cB,y13⟩⟩ ⟨z1,z2,z3,z4,⟨z5,z6,z7⟩,⟨z8,z9,dD⟩,⟨dI,z12,dJ⟩⟩ l l W5 M8.out.m YE.out.m).mono ?_);rw[decide_eq_true (rfl:l=l)];rintro en W6 ⟨rfl,hb6⟩)
 go_cut[] (fun wx=>wx=W6)
 case first=>
  go_wp2
  go_meet
  rfl
 case rest=>
 subst hcut
 go_step
 have abJ:=(bg Fz.out).1
 exact abE w _ x ⟨⟨ca,cn,cc⟩,⟨fa,aX,fc⟩,⟨la,ln,lc⟩,⟨ba,b_n,bc⟩⟩ ⟨⟨ga,gn,gc⟩,⟨ha,h_n,hc⟩,⟨ia,dz,ic⟩,⟨ja,jn,jc⟩⟩ ⟨y1,y2,y3,y4,⟨y5,y6,y7⟩,⟨y8,y9,bW⟩,⟨bX,cB,y13⟩⟩ ⟨z1,z2,z3,z4,⟨z5,z6,z7⟩,⟨z8,z9,dD⟩,⟨dI,z12,dJ⟩⟩ b l o nR iF p25 W.heap.size W3.heap.size (Xk.out.keep hb6) jU.out o_.out (aj FB.out hb6 (bg FB.out).1) (aj Fz.out hb6 abJ) (aj Xo.out hb6 (bg Xo.out).1) (M8.out.keep hb6 (aC _)) (YE.out.keep hb6 (aC _)) yY (by omega) hz3 (by omega) FC (by omega) HP.out.1 n2 HP.out.2.1 HB.out HP.out.2.2.1 HP.out.2.2.2.1 HP.out.2.2.2.2.1 HP.out.2.2.2.2.2.1 b2 HP.out.2.2.2.2.2.2 _ _ _ _ _ _ _ _ _ _ _ _ _ _ _ _ _ _ _ _ _ _ _ _ _ _ _ _ _ _ _ _ _ _ _ _ _ _ _ _ _ _ _ _ _ _ _ _ _ _ _ _ _ _ _ _ _ _ _ _ _ _ _ _ _ _ _ _ _ _ _ _ _ _ _ _ _ _ _ _ _ _ _ _ _ _ _ _ _ _ _ _ _ _ _ _ _ _ _ _ _ _ _ _ _ _ _ _ _ _ _ _ _ _ _ _ _ _ _ _ _ _ _ _ _ _ _ _ _ _ _ _ _ _ _ _ _ _ _ _ _ _ _ _ _ _ _ _ _ _ _ _ _ _ _ _ _ _ _ _ _ _ _ _ _ _ _ _ _ _ _ _ _ _ _ _ _ _ _ _ _ _ _ _ _ _ _ _ _ _ _ _ _ _ _ _ _ _ _ _ _ _ _ _ _ _ _ _ _ _ _ _ _ _ _ _ _ _ _ _ _ _ _ _ _ _ _ _ _ _ _ _ rfl
end Go.Proofs.YtlfopoimbbpfdaaGreat
namespace Go.Proofs.YtlfopoimbbpfdaaGreat
open Go.RowKit
section
variable {W W':World} {B N p:Nat}
theorem kE {e:TypeId} {E:Nat} {v:Value} {n:Nat} {xs:List Value} (h:W.ownsRow B e E v n xs) (hN:∀g,v.ownBlock=some g→g<N) (hp:p<B∨N≤p) (hoth:∀c,c≠p→W'.heap[c]? =W.heap[c]?):W'.ownsRow B e E v n xs:=
 fF h hoth (fun e=>by have h1:=(h.lt p e).1;have h2:=hN p e;omega)
structure Ee (W:World) (B N:Nat) (y:bV) (l:Ls):Prop where
 o:iC W B y l
 s:∀g,y.s.v.ownBlock=some g→g<N
 i:∀g,y.i.v.ownBlock=some g→g<N
 u:∀g,y.u.v.ownBlock=some g→g<N
theorem Ee.of {y:bV} {l:Ls} (h:iC W B y l):Ee W B W.heap.size y l:=⟨h,fun g e=>(h.s.lt g e).2,fun g e=>(h.i.lt g e).2,fun g e=>(h.u.lt g e).2⟩
theorem Ee.keep {y:bV} {l:Ls} (h:Ee W B N y l) (hb:Below W.heap.size W W'):Ee W' B N y l:=⟨h.o.keep hb (aC _),h.s,h.i,h.u⟩
theorem Ee.Nk {y:bV} {l:Ls} (h:Ee W B N y l) (hp:p<B∨N≤p) (hoth:∀c,c≠p→W'.heap[c]? =W.heap[c]?):Ee W' B N y l:=
 ⟨⟨h.o.dev,h.o.epoch,h.o.bY,h.o.last,kE h.o.s h.s hp hoth,kE h.o.i h.i hp hoth,kE h.o.u h.u hp hoth⟩,h.s,h.i,h.u⟩
structure Jr (W:World) (B N:Nat) (x:bZ) (b:Bk):Prop where
 rc:W.ownsRow B 54 7 x.c.v b.cs.length (aK jE b.cs)
 rf:W.ownsRow B 56 2 x.f.v b.free.length (aR b.free)
 rl:∃xs:List bV,W.ownsRow B 48 7 x.l.v b.ls.length (aK iZ xs)∧bI (Ee W B N) xs b.ls
 rb:W.ownsRow B 3 1 x.b.v b.bound.length (bM b.bound)
 cl:∀g,x.c.v.ownBlock=some g→g<N
 fl:∀g,x.f.v.ownBlock=some g→g<N
 ll:∀g,x.l.v.ownBlock=some g→g<N
 bl:∀g,x.b.v.ownBlock=some g→g<N
theorem Jr.of {C:Nat} {x:bZ} {b:Bk} {xs:List bV} (h:pX W B C x b xs) (hC:B≤C):Jr W B W.heap.size x b:=
 ⟨h.rc,h.rf,⟨xs,h.rl,h.each.imp fun _ _ r=>Ee.of (r.base hC)⟩,h.rb,fun g e=>(h.rc.lt g e).2,fun g e=>(h.rf.lt g e).2,fun g e=>(h.rl.lt g e).2,fun g e=>(h.rb.lt g e).2⟩
theorem Jr.keep {x:bZ} {b:Bk} (h:Jr W B N x b) (hb:Below W.heap.size W W'):Jr W' B N x b:=by
 obtain⟨xs,h1,h2⟩:=h.rl
 exact⟨aJ h.rc hb (aC _),aJ h.rf hb (aC _),⟨xs,aJ h1 hb (aC _),h2.imp fun _ _ r=>r.keep hb⟩,aJ h.rb hb (aC _),h.cl,h.fl,h.ll,h.bl⟩
theorem Jr.Nk {x:bZ} {b:Bk} (h:Jr W B N x b) (hp:p<B∨N≤p) (hoth:∀c,c≠p→W'.heap[c]? =W.heap[c]?):Jr W' B N x b:=by
 obtain⟨xs,h1,h2⟩:=h.rl
 exact⟨kE h.rc h.cl hp hoth,kE h.rf h.fl hp hoth,⟨xs,kE h1 h.ll hp hoth,h2.imp fun _ _ r=>r.Nk hp hoth⟩,kE h.rb h.bl hp hoth,h.cl,h.fl,h.ll,h.bl⟩
theorem Jr.m {x:bZ} {b:Bk} (h:Jr W B N x b):eD W x b:=by
 obtain⟨xs,h1,h2⟩:=h.rl
 refine⟨aI h.rc,aI h.rf,⟨xs,?_,h2.imp fun _ _ r=>r.o.m⟩,aI h.rb⟩
 show Sl _ _ _ xs.length _
 rw[h2.len]
 exact aI h1
structure Js (w0 W:World) (B N:Nat) (x:bZ) (b:Bk):Prop where
 aZ:Below w0.heap.size w0 W
 rc:uT w0 W 54 7 x.c.v b.cs.length (aK jE b.cs)
 rf:uT w0 W 56 2 x.f.v b.free.length (aR b.free)
 rl:Aq w0 x.l.v b.ls∨ ∃xs:List bV,(W.ownsRow B 48 7 x.l.v b.ls.length (aK iZ xs)∧ ∀g,x.l.v.ownBlock=some g→g<N)∧bI (Re w0 W) xs b.ls
 rb:iW w0 x.b.v b.bound
variable {w0:World} {x:bZ} {b:Bk}
theorem Js.of (h:Rb B w0 W x b):Js w0 W B W.heap.size x b:=by
 refine⟨h.aZ,h.rc,h.rf,?_,h.rb⟩
 rcases h.rl with h0 | ⟨xs,h1,h2⟩
 ·exact .inl h0
 ·exact .inr ⟨xs,⟨h1,fun g e=>(h1.lt g e).2⟩,h2⟩
theorem Js.keep (h:Js w0 W B N x b) (hb:Below W.heap.size W W'):Js w0 W' B N x b:=by
 refine⟨h.aZ.trans (hb.mono h.aZ.size),h.rc.keep hb,h.rf.keep hb,?_,h.rb⟩
 rcases h.rl with h0 | ⟨xs,h1,h2⟩
 ·exact .inl h0
 ·exact .inr ⟨xs,⟨aJ h1.1 hb (aC _),h1.2⟩,h2.imp (fun _ _ r=>r.keep hb)⟩
theorem Js.Nk {T':TypeId} {cur:Array Value} {zz:Nat×Nat} (h:Js w0 W B N x b) (hb:Below w0.heap.size w0 W') (hp:p<B∨N≤p) (hoth:∀c,c≠p→W'.heap[c]? =W.heap[c]?) (hg:W.heap[p]? =some (.cells cur T' zz)) (h0: 54 ≠T') (h1: 88 ≠T') (h2: 56 ≠T') (h3: 3 ≠T'):Js w0 W' B N x b:=by
 refine⟨hb,h.rc.other hoth hg h0,h.rf.other hoth hg h2,?_,h.rb⟩
 rcases h.rl with h6 | ⟨xs,h4,h5⟩
 ·exact .inl h6
 ·exact .inr ⟨xs,⟨kE h4.1 h4.2 hp hoth,h4.2⟩,h5.imp (fun _ _ r=>r.other hoth hg h1 h2 h3)⟩
theorem Js.m (h:Js w0 W B N x b):eD W x b:=by
 rcases h.rl with h0 | ⟨xs,h1,h2⟩
 ·exact⟨h.rc.sl h.aZ,h.rf.sl h.aZ,h0.keep h.aZ (aC _),iW.keep h.rb h.aZ (aC _)⟩
 refine⟨h.rc.sl h.aZ,h.rf.sl h.aZ,⟨xs,?_,h2.imp (fun _ _ r=>r.m h.aZ)⟩,iW.keep h.rb h.aZ (aC _)⟩
 show Sl _ _ _ xs.length _
 rw[h2.len]
 exact aI h1.1
end
end Go.Proofs.YtlfopoimbbpfdaaGreat
namespace Go.Proofs.YtlfopoimbbpfdaaGreat
open Go.RowKit
abbrev Bl (w:World) (p:Nat) (x:bV):Prop:=w.heap[p]? =some (.cells #[.int .i64 x.dev,.int .i64 x.epoch,.int .i64 x.bY,.int .i64 x.last,x.s.v,x.i.v,x.u.v] 48 (0,0))
theorem Bl.lt {w:World} {p:Nat} {x:bV} (h:Bl w p x):p<w.heap.size:=(bg h).1
structure Rs (W:World) (R:bZ→bV→Nat→Nat→World→Prop):Prop where
 keep:∀ {y z B N w w'},R y z B N w→Below w.heap.size w w'→R y z B N w'
 Nk:∀ {y z B N w w' p cur t},R y z B N w→(p<B∨N≤p)→w.heap[p]? =some (.cells cur t (0,0))→(t= 30 ∨t= 48)→(∀c,c≠p→w'.heap[c]? =w.heap[c]?)→Below W.heap.size W w'→R y z B N w'
structure Jg (W:World) (R:bZ→bV→Nat→Nat→World→Prop) (ge:Int) (k:Nat) (D:Nat→Prop) (y:bZ) (z:bV) (B N p q:Nat) (vT vM vA vB vC vp vq vo:Value) (w:World):Prop where
 aZ:Below W.heap.size W w
 c:D k→vT= .tuple #[fT y,nI z,.int .i64 ge]∧R y z B N w∧N≤w.heap.size
 m:D (k+1)→D k∧vM= .tuple #[fT y,nI z,.int .i64 ge]
 e1:D (k+2)→D k∧vA=fT y
 e2:D (k+3)→D k∧vB=nI z
 e3:D (k+4)→D k∧vC= .int .i64 ge
 a1:D (k+5)→vp=gZ p∧W.heap.size≤p∧(D k→p<B∨N≤p)∧ ∃x,Bx w p x∧(D (k+7)→x=y)
 a2:D (k+6)→vq=gZ q∧W.heap.size≤q∧(D k→q<B∨N≤q)∧ ∃x,Bl w q x∧(D (k+8)→x=z)
 ne:D (k+5)→D (k+6)→p≠q
 s1:D (k+7)→D k∧D (k+5)
 s2:D (k+8)→D k∧D (k+6)
 o:D (k+9)→vo= .int .i64 ge
section
variable {W w w':World} {R:bZ→bV→Nat→Nat→World→Prop} {ge:Int} {k:Nat} {D:Nat→Prop} {y:bZ} {z:bV} {B N p q:Nat} {vT vM vA vB vC vp vq vo:Value}
theorem Jg.call (h:Jg W R ge k D y z B N p q vT vM vA vB vC vp vq vo w) (hn:¬D k) {y':bZ} {z':bV} {B' N':Nat} (hr:R y' z' B' N' w') (hB:w.heap.size≤B') (hN:N'≤w'.heap.size) (hb:Below w.heap.size w w'):
  Jg W R ge k (fun j=>j=k∨D j) y' z' B' N' p q (.tuple #[fT y',nI z',.int .i64 ge]) vM vA vB vC vp vq vo w':=by
 refine⟨h.aZ.trans (hb.mono h.aZ.size),fun _=>⟨rfl,hr,hN⟩,fun g=>absurd (h.m (aQ g (by omega))).1 hn,fun g=>absurd (h.e1 (aQ g (by omega))).1 hn,fun g=>absurd (h.e2 (aQ g (by omega))).1 hn,fun g=>absurd (h.e3 (aQ g (by omega))).1 hn,
  fun g=>?_,fun g=>?_,fun g g2=>h.ne (aQ g (by omega)) (aQ g2 (by omega)),fun g=>absurd (h.s1 (aQ g (by omega))).1 hn,fun g=>absurd (h.s2 (aQ g (by omega))).1 hn,fun g=>h.o (aQ g (by omega))⟩
 ·obtain⟨g1,g2,_,x,g3,_⟩:=h.a1 (aQ g (by omega))
  have:=Bx.lt g3
  exact⟨g1,g2,fun _=> .inl (by omega),x,aj g3 hb this,fun g=>absurd (h.s1 (aQ g (by omega))).1 hn⟩
 ·obtain⟨g1,g2,_,x,g3,_⟩:=h.a2 (aQ g (by omega))
  have:=Bl.lt g3
  exact⟨g1,g2,fun _=> .inl (by omega),x,aj g3 hb this,fun g=>absurd (h.s2 (aQ g (by omega))).1 hn⟩
theorem Jg.PV (hR:Rs W R) (h:Jg W R ge k D y z B N p q vT vM vA vB vC vp vq vo w) (hn:¬D (k+5)):
  Jg W R ge k (fun j=>j=k+5∨D j) y z B N w.heap.size q vT vM vA vB vC (gZ w.heap.size) vq vo (w.alloc (.cells #[.slice none 0 0,.slice none 0 0,.slice none 0 0,.slice none 0 0] 30)):=by
 have hb:Below w.heap.size w (w.alloc (.cells #[.slice none 0 0,.slice none 0 0,.slice none 0 0,.slice none 0 0] 30)):=(aL _ _).alloc (aC _) _
 refine⟨h.aZ.trans (hb.mono h.aZ.size),fun g=>?_,fun g=>(h.m (aQ g (by omega))).imp .inr id,fun g=>(h.e1 (aQ g (by omega))).imp .inr id,fun g=>(h.e2 (aQ g (by omega))).imp .inr id,fun g=>(h.e3 (aQ g (by omega))).imp .inr id,
  fun _=>⟨rfl,h.aZ.size,fun g=> .inr (h.c (aQ g (by omega))).2.2,Mh,heap_alloc_new w _,fun g=>absurd (h.s1 (aQ g (by omega))).2 hn⟩,fun g=>?_,fun _ g2=>?_,fun g=>(h.s1 (aQ g (by omega))).imp .inr .inr,fun g=>(h.s2 (aQ g (by omega))).imp .inr .inr,fun g=>h.o (aQ g (by omega))⟩
 ·obtain⟨g1,g2,g3⟩:=h.c (aQ g (by omega))
  exact⟨g1,hR.keep g2 hb,Nat.le_trans g3 hb.size⟩
 ·obtain⟨g1,g2,g5,x,g3,g4⟩:=h.a2 (aQ g (by omega))
  exact⟨g1,g2,fun g=>g5 (aQ g (by omega)),x,aj g3 hb (Bl.lt g3),fun g=>g4 (aQ g (by omega))⟩
 ·obtain⟨_,_,_,x,g3,_⟩:=h.a2 (aQ g2 (by omega))
  have:=Bl.lt g3
  omega
theorem Jg.PW (hR:Rs W R) (h:Jg W R ge k D y z B N p q vT vM vA vB vC vp vq vo w) (hn:¬D (k+6)):
  Jg W R ge k (fun j=>j=k+6∨D j) y z B N p w.heap.size vT vM vA vB vC vp (gZ w.heap.size) vo (w.alloc (.cells #[.int .i64 0,.int .i64 0,.int .i64 0,.int .i64 0,.slice none 0 0,.slice none 0 0,.slice none 0 0] 48)):=by
 have hb:Below w.heap.size w (w.alloc (.cells #[.int .i64 0,.int .i64 0,.int .i64 0,.int .i64 0,.slice none 0 0,.slice none 0 0,.slice none 0 0] 48)):=(aL _ _).alloc (aC _) _
 refine⟨h.aZ.trans (hb.mono h.aZ.size),fun g=>?_,fun g=>(h.m (aQ g (by omega))).imp .inr id,fun g=>(h.e1 (aQ g (by omega))).imp .inr id,fun g=>(h.e2 (aQ g (by omega))).imp .inr id,fun g=>(h.e3 (aQ g (by omega))).imp .inr id,
  fun g=>?_,fun _=>⟨rfl,h.aZ.size,fun g=> .inr (h.c (aQ g (by omega))).2.2,rD,heap_alloc_new w _,fun g=>absurd (h.s2 (aQ g (by omega))).2 hn⟩,fun g2 _=>?_,fun g=>(h.s1 (aQ g (by omega))).imp .inr .inr,fun g=>(h.s2 (aQ g (by omega))).imp .inr .inr,fun g=>h.o (aQ g (by omega))⟩
 ·obtain⟨g1,g2,g3⟩:=h.c (aQ g (by omega))
  exact⟨g1,hR.keep g2 hb,Nat.le_trans g3 hb.size⟩
 ·obtain⟨g1,g2,g5,x,g3,g4⟩:=h.a1 (aQ g (by omega))
  exact⟨g1,g2,fun g=>g5 (aQ g (by omega)),x,aj g3 hb (Bx.lt g3),fun g=>g4 (aQ g (by omega))⟩
 ·obtain⟨_,_,_,x,g3,_⟩:=h.a1 (aQ g2 (by omega))
  have:=Bx.lt g3
  omega
theorem Jg.st1 (hR:Rs W R) (h:Jg W R ge k D y z B N p q vT vM vA vB vC vp vq vo w) (hk:D k) (h5:D (k+5)):
  Jg W R ge k (fun j=>j=k+7∨D j) y z B N p q vT vM vA vB vC vp vq vo ((((w.setCell ⟨p,0,none⟩ y.c.v).setCell ⟨p,1,none⟩ y.f.v).setCell ⟨p,2,none⟩ y.l.v).setCell ⟨p,3,none⟩ y.b.v):=by
 obtain⟨a1,a2,a5,x,a3,_⟩:=h.a1 h5
 have hoth:∀c,c≠p→((((w.setCell ⟨p,0,none⟩ y.c.v).setCell ⟨p,1,none⟩ y.f.v).setCell ⟨p,2,none⟩ y.l.v).setCell ⟨p,3,none⟩ y.b.v).heap[c]? =w.heap[c]? :=fun c hc=>bF w p c (fun e=>hc e.symm) _ _ _ _ 0 1 2 3
 refine⟨kS h.aZ a2 _ _ _ _,fun g=>?_,fun g=>(h.m (aQ g (by omega))).imp .inr id,fun g=>(h.e1 (aQ g (by omega))).imp .inr id,fun g=>(h.e2 (aQ g (by omega))).imp .inr id,fun g=>(h.e3 (aQ g (by omega))).imp .inr id,
  fun _=>⟨a1,a2,fun _=>a5 hk,y,gq a3 _ _ _ _,fun _=>rfl⟩,fun g=>?_,fun g g2=>h.ne (aQ g (by omega)) (aQ g2 (by omega)),fun _=>⟨.inr hk,.inr h5⟩,fun g=>(h.s2 (aQ g (by omega))).imp .inr .inr,fun g=>h.o (aQ g (by omega))⟩
 ·obtain⟨g1,g2,g3⟩:=h.c hk
  exact⟨g1,hR.Nk g2 (a5 hk) a3 (.inl rfl) hoth (kS h.aZ a2 _ _ _ _),by rw[fV];exact g3⟩
 ·have g':=aQ g (by omega)
  obtain⟨g1,g2,g5,x',g3,g4⟩:=h.a2 g'
  exact⟨g1,g2,fun _=>g5 hk,x',(hoth q (fun e=>h.ne h5 g' e.symm)).trans g3,fun g=>g4 (aQ g (by omega))⟩
theorem Jg.st2 (hR:Rs W R) (h:Jg W R ge k D y z B N p q vT vM vA vB vC vp vq vo w) (hk:D k) (h6:D (k+6)):
  Jg W R ge k (fun j=>j=k+8∨D j) y z B N p q vT vM vA vB vC vp vq vo (((((((w.setCell ⟨q,0,none⟩ (.int .i64 z.dev)).setCell ⟨q,1,none⟩ (.int .i64 z.epoch)).setCell ⟨q,2,none⟩ (.int .i64 z.bY)).setCell ⟨q,3,none⟩ (.int .i64 z.last)).setCell ⟨q,4,none⟩ z.s.v).setCell ⟨q,5,none⟩ z.i.v).setCell ⟨q,6,none⟩ z.u.v):=by
 obtain⟨a1,a2,a5,x,a3,_⟩:=h.a2 h6
 have hoth:=fun c hc=>jf w q c hc (.int .i64 z.dev) (.int .i64 z.epoch) (.int .i64 z.bY) (.int .i64 z.last) z.s.v z.i.v z.u.v
 have BL:=zo h.aZ a2 (.int .i64 z.dev) (.int .i64 z.epoch) (.int .i64 z.bY) (.int .i64 z.last) z.s.v z.i.v z.u.v
 refine⟨BL,fun g=>?_,fun g=>(h.m (aQ g (by omega))).imp .inr id,fun g=>(h.e1 (aQ g (by omega))).imp .inr id,fun g=>(h.e2 (aQ g (by omega))).imp .inr id,fun g=>(h.e3 (aQ g (by omega))).imp .inr id,
  fun g=>?_,fun _=>⟨a1,a2,fun _=>a5 hk,z,Dp a3 _ _ _ _ _ _ _,fun _=>rfl⟩,fun g g2=>h.ne (aQ g (by omega)) (aQ g2 (by omega)),fun g=>(h.s1 (aQ g (by omega))).imp .inr .inr,fun _=>⟨.inr hk,.inr h6⟩,fun g=>h.o (aQ g (by omega))⟩
 ·obtain⟨g1,g2,g3⟩:=h.c hk
  exact⟨g1,hR.Nk g2 (a5 hk) a3 (.inr rfl) hoth BL,by simpa[World.setCell]using g3⟩
 ·have g':=aQ g (by omega)
  obtain⟨g1,g2,g5,x',g3,g4⟩:=h.a1 g'
  exact⟨g1,g2,fun _=>g5 hk,x',(hoth p (fun e=>h.ne g' h6 e)).trans g3,fun g=>g4 (aQ g (by omega))⟩
theorem Jg.mv (h:Jg W R ge k D y z B N p q vT vM vA vB vC vp vq vo w) (hk:D k) (i:Nat) (hi:i=k+1∨i=k+2∨i=k+3∨i=k+4∨i=k+9) {Sb Sd Sg Si Sj:Value}
  (q1:i=k+1→Sb= .tuple #[fT y,nI z,.int .i64 ge]) (q2:i=k+2→Sd=fT y) (q3:i=k+3→Sg=nI z) (q4:i=k+4→Si= .int .i64 ge) (q5:i=k+9→Sj= .int .i64 ge)
  (r1:i≠k+1→Sb=vM) (r2:i≠k+2→Sd=vA) (r3:i≠k+3→Sg=vB) (r4:i≠k+4→Si=vC) (r5:i≠k+9→Sj=vo):
  Jg W R ge k (fun j=>j=i∨D j) y z B N p q vT Sb Sd Sg Si vp vq Sj w:=by
 refine⟨h.aZ,fun _=>h.c hk,fun g=>⟨.inr hk,?_⟩,fun g=>⟨.inr hk,?_⟩,fun g=>⟨.inr hk,?_⟩,fun g=>⟨.inr hk,?_⟩,fun g=>?_,fun g=>?_,fun g g2=>h.ne (aQ g (by omega)) (aQ g2 (by omega)),fun g=>(h.s1 (aQ g (by omega))).imp .inr .inr,fun g=>(h.s2 (aQ g (by omega))).imp .inr .inr,fun g=>?_⟩
 ·by_cases e:i=k+1
  ·exact q1 e
  ·rw[r1 e];exact(h.m (aQ g (fun h=>e h.symm))).2
 ·by_cases e:i=k+2
  ·exact q2 e
  ·rw[r2 e];exact(h.e1 (aQ g (fun h=>e h.symm))).2
 ·by_cases e:i=k+3
  ·exact q3 e
  ·rw[r3 e];exact(h.e2 (aQ g (fun h=>e h.symm))).2
 ·by_cases e:i=k+4
  ·exact q4 e
  ·rw[r4 e];exact(h.e3 (aQ g (fun h=>e h.symm))).2
 ·obtain⟨g1,g2,g5,x',g3,g4⟩:=h.a1 (aQ g (by omega))
  exact⟨g1,g2,fun _=>g5 hk,x',g3,fun g=>g4 (aQ g (by omega))⟩
 ·obtain⟨g1,g2,g5,x',g3,g4⟩:=h.a2 (aQ g (by omega))
  exact⟨g1,g2,fun _=>g5 hk,x',g3,fun g=>g4 (aQ g (by omega))⟩
 ·by_cases e:i=k+9
  ·exact q5 e
  ·rw[r5 e];exact h.o (aQ g (fun h=>e h.symm))
theorem Jg.start (h:Below W.heap.size W w) (hD:∀j,j<k+10→k≤j→ ¬D j):Jg W R ge k D y z B N p q vT vM vA vB vC vp vq vo w:=
 have hn:∀ {j},j<k+10→k≤j→ ∀ {P:Prop},D j→P:=fun h1 h2 _ g=>absurd g (hD _ h1 h2)
 ⟨h,hn (by omega) (by omega),hn (by omega) (by omega),hn (by omega) (by omega),hn (by omega) (by omega),hn (by omega) (by omega),hn (by omega) (by omega),hn (by omega) (by omega),hn (by omega) (by omega),hn (by omega) (by omega),hn (by omega) (by omega),hn (by omega) (by omega)⟩
theorem Jg.fin (h:Jg W R ge k D y z B N p q vT vM vA vB vC vp vq vo w) (hD:∀j,j<k+10→D j):
  vp=gZ p∧vq=gZ q∧vo= .int .i64 ge∧Bx w p y∧Bl w q z∧R y z B N w∧Below W.heap.size W w∧W.heap.size≤p∧W.heap.size≤q:=by
 obtain⟨c1,c2,c3⟩:=h.c (hD _ (by omega))
 obtain⟨p1,p2,_,x1,p3,p4⟩:=h.a1 (hD _ (by omega))
 obtain⟨q1,q2,_,x2,q3,q4⟩:=h.a2 (hD _ (by omega))
 obtain rfl:=p4 (hD _ (by omega))
 obtain rfl:=q4 (hD _ (by omega))
 exact⟨p1,q1,h.o (hD _ (by omega)),p3,q3,c2,h.aZ,p2,q2⟩
end
end Go.Proofs.YtlfopoimbbpfdaaGreat
