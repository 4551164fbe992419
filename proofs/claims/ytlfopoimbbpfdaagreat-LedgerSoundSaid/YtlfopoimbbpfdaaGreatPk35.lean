/- What the law asks, in parts: Bf Bg Bn Bh. -/
import Derived.Deep.DrawnRows
import Derived.Test.YtlfopoimbbpfdaaGreatPk34
import Derived.Test.YtlfopoimbbpfdaaGreatPk32
set_option linter.all false
set_option maxRecDepth 100000
set_option maxHeartbeats 16000000
namespace Go.Proofs.YtlfopoimbbpfdaaGreat
open Go.RowKit
section
attribute [local go_sem ↓] Go.wp_at_zero Go.wp_at_succ
theorem T_ (w W:World) (x:uz) (ya yb:dN) (b:Bk) (l:Ls) (q:Bool) (dev ep:Int) (o:uq) (rE:Nat) (h:Dq w W x ya yb) (oZ:iA w ya b) (pY:iA w yb b) (ho:W.heap[rE]? =some (.cells #[.int .i64 o.dev,.int .i64 o.epoch,.int .i64 o.seq,.int .i64 o.coll,.int .i64 o.ver,.int .i64 o.kind,.string o.key,.string o.text,.int .i64 o.n,.int .i64 o.time,o.dots.v] 38 (0,0))) (Ke:w.heap.size+1+1+1+1<rE) (hf:jV b dev ep=(l,q)) (hrf:gJ b dev ep=(l,q)) (hid:∀r∈l.ids,0≤r.1∧r.1<r.2∧r.2≤1000) (n2:Int) (uw:n2=if o.kind=5∧0<l.ids.length∧0<x.n.tmod 3 then(l.ids.getD 0 (0,0)).1+o.n%((l.ids.getD 0 (0,0)).2-(l.ids.getD 0 (0,0)).1)else o.n) (hB:Dl b) (hS:UA l o.kind n2) (hE:eO l o.kind o.key n2=bW l o.kind o.key n2) (hP:nC b (bW l o.kind o.key n2).1=nT b (bW l o.kind o.key n2).1) (J_:Ap (bW l o.kind o.key n2).1) (b2:Bk) (bO:b2=if (bW l o.kind o.key n2).2=0 then(nT b (bW l o.kind o.key n2).1).1 else b) {u0 u1 u2 u8 u11 u13 u14 u15 u16 u17 u18 u19 u20 u21 u22 u23 u24 u25 u26 u27 u28 u29 u30 u31 u32 u33 u34 u35 u36 u37 u38 u39 u40 u41 u42 u43 u44 u45 u46 u47 u48 u49 u50 u51 u52 u53 u54 u55 u56 u57 u58 u59 u60 u61 u62 u63 u64 u65 u66 u67 u68 u69 u70 u71 u72 u73 u74 u75 u76 u77 u78 u79 u80 u81 u82 u83 u84 u85 u86 u87 u88 u89 u90 u91 u92 u93 u94 u95 u96 u97 u98 u99 u100 u101 u102 u103 u104 u105 u106 u107 u108 u109 u110 u111 u112 u113 u114 u115 u116 u117 u118 u119 u120 u121 u122 u123 u124 u125 u126 u127 u128 u129 u130 u131 u132 u133 u134 u135 u136 u137 u138 u139 u140 u141 u142 u143 u144 u145 u146 u147 u148 u149 u150 u151 u152 u153 u154 u155 u156 u157 u158 u159 u160 u161 u162 u163 u164 u165 u166 u167 u168 u169 u170 u171 u172 u173 u174 u175 u176 u177 u178 u179 u180 u181 u182 u183 u184 u185 u186 u187 u188 u189 u190 u191 u192 u193 u194 u195 u196 u197 u198 u199 u200 u201 u202 u203 u204 u205 u206 u207 u208 u209 u210 u211 u212 u213 u214 u215 u216 u217 u218 u219 u220 u221 u222 u223 u224 u225 u226 u227 u228 u229 u230 u231 u232 u233 u234 u235 u236 u237 u238:Value}:
  ∀c,Tryz.f10.body.bind (spine 6)=some c→Code.wp Tryz.prog c (bodyPost Tryz.prog Tryz.f10 (qJ w b2)) ⟨#[u0,u1,u2,.pointer (some ⟨w.heap.size,0,none⟩),.pointer (some ⟨w.heap.size+1,0,none⟩),.pointer (some ⟨w.heap.size+1+1,0,none⟩),.pointer (some ⟨w.heap.size+1+1+1,0,none⟩),.pointer (some ⟨w.heap.size+1+1+1+1,0,none⟩),u8,.int .i64 dev,.int .i64 ep,u11,.pointer (some ⟨rE,0,none⟩),u13,u14,u15,u16,u17,u18,u19,u20,u21,u22,u23,u24,u25,u26,u27,u28,u29,u30,u31,u32,u33,u34,u35,u36,u37,u38,u39,u40,u41,u42,u43,u44,u45,u46,u47,u48,u49,u50,u51,u52,u53,u54,u55,u56,u57,u58,u59,u60,u61,u62,u63,u64,u65,u66,u67,u68,u69,u70,u71,u72,u73,u74,u75,u76,u77,u78,u79,u80,u81,u82,u83,u84,u85,u86,u87,u88,u89,u90,u91,u92,u93,u94,u95,u96,u97,u98,u99,u100,u101,u102,u103,u104,u105,u106,u107,u108,u109,u110,u111,u112,u113,u114,u115,u116,u117,u118,u119,u120,u121,u122,u123,u124,u125,u126,u127,u128,u129,u130,u131,u132,u133,u134,u135,u136,u137,u138,u139,u140,u141,u142,u143,u144,u145,u146,u147,u148,u149,u150,u151,u152,u153,u154,u155,u156,u157,u158,u159,u160,u161,u162,u163,u164,u165,u166,u167,u168,u169,u170,u171,u172,u173,u174,u175,u176,u177,u178,u179,u180,u181,u182,u183,u184,u185,u186,u187,u188,u189,u190,u191,u192,u193,u194,u195,u196,u197,u198,u199,u200,u201,u202,u203,u204,u205,u206,u207,u208,u209,u210,u211,u212,u213,u214,u215,u216,u217,u218,u219,u220,u221,u222,u223,u224,u225,u226,u227,u228,u229,u230,u231,u232,u233,u234,u235,u236,u237,u238],[]⟩ W:=by
 refine dP rfl ?_;obtain⟨⟨ca,cn,cc⟩,⟨fa,bD,fc⟩,⟨la,ln,lc⟩,⟨ba,bE,bc⟩⟩:=ya;obtain⟨⟨ga,gn,gc⟩,⟨ha,fu,hc⟩,⟨ia,eX,ic⟩,⟨ja,jn,jc⟩⟩:=yb;have HQ:=ah h;have pV:=ah oZ;have zN:=ah pY;have Sj:=ah ho;have HF:=ah hf;have OC:=ah hrf;have HB:=ah hB;have HP:=ah (And.intro hid (And.intro uw (And.intro hS (And.intro hE (And.intro hP (And.intro J_ bO))))));obtain⟨a0,a1,a2,a3,_⟩:=ay h.k4;simp only[Sv.v]at a0 a1 a2 a3;have CK:=(bq ho).1;have Tj:=(bq h.k7).1;clear h oZ pY ho hf hrf hB hid uw hS hE hP J_ bO;go_wp2_with fail
 refine(O_ ⟨⟨ca,cn,cc⟩,⟨fa,bD,fc⟩,⟨la,ln,lc⟩,⟨ba,bE,bc⟩⟩ b dev ep W (pV.out.keep HQ.out.bC (aC _)) HB.out).mono ?_;rw[HF.out];rintro en W2 ⟨⟨y1,y2,y3,y4,⟨y5,y6,y7⟩,⟨y8,y9,dz⟩,⟨dA,dJ,cK⟩⟩,rfl,vR,bO⟩;have eD:=(aL W2.heap.size W2).alloc (aC _) (.cells #[.int .i64 y1,.int .i64 y2,.int .i64 y3,.int .i64 y4,.slice y5 y6 y7,.slice y8 y9 dz,.slice dA dJ cK] 48);have bT:=bO.trans (eD.mono bO.size);have HL3:=ah (vR.keep eD (aC _));have Ob:=ah (heap_alloc_new W2 (.cells #[.int .i64 y1,.int .i64 y2,.int .i64 y3,.int .i64 y4,.slice y5 y6 y7,.slice y8 y9 dz,.slice dA dJ cK] 48));have vJ:=ah (HQ.out.keep bT);have XG:=ah (aj Sj.out bT CK);have f_:=bO.size;have oO:W2.heap.size<(W2.alloc (.cells #[.int .i64 y1,.int .i64 y2,.int .i64 y3,.int .i64 y4,.slice y5 y6 y7,.slice y8 y9 dz,.slice dA dJ cK] 48)).heap.size:=by simp
 clear a0 a1 a2 a3 vR bO bT eD HQ Sj;go_upto_region 18 with fail
 generalize W2.alloc (.cells #[.int .i64 y1,.int .i64 y2,.int .i64 y3,.int .i64 y4,.slice y5 y6 y7,.slice y8 y9 dz,.slice dA dJ cK] 48)=W3 at*;generalize W2.heap.size=jH at*;obtain⟨a0,a1,a2,a3,_⟩:=ay vJ.out.k5;simp only[Sv.v]at a0 a1 a2 a3;go_wp2_with fail
 refine(Dz ⟨⟨ga,gn,gc⟩,⟨ha,fu,hc⟩,⟨ia,eX,ic⟩,⟨ja,jn,jc⟩⟩ b dev ep W3 (zN.out.keep vJ.out.bC (aC _)) HB.out).mono ?_;rw[OC.out];rintro en W4 ⟨⟨z1,z2,z3,z4,⟨z5,z6,z7⟩,⟨z8,z9,dK⟩,⟨dU,eZ,dQ⟩⟩,rfl,hm4,bR⟩;have Lc:=(aL W4.heap.size W4).alloc (aC _) (.cells #[.int .i64 z1,.int .i64 z2,.int .i64 z3,.int .i64 z4,.slice z5 z6 z7,.slice z8 z9 dK,.slice dU eZ dQ] 48);have gD:=bR.trans (Lc.mono bR.size);have HM5:=ah (hm4.keep Lc (aC _));have Ka:=ah (heap_alloc_new W4 (.cells #[.int .i64 z1,.int .i64 z2,.int .i64 z3,.int .i64 z4,.slice z5 z6 z7,.slice z8 z9 dK,.slice dU eZ dQ] 48));have Sd:=ah (HL3.out.keep gD (aC _));have Kc:=ah (aj Ob.out gD oO);have HQ5:=ah (vJ.out.keep gD);have abt:=ah (aj XG.out gD (bq XG.out).1);have mP:=bR.size;clear a0 a1 a2 a3 hm4 bR gD Lc vJ XG HL3 Ob;go_upto_region 19 with fail
 generalize W4.alloc (.cells #[.int .i64 z1,.int .i64 z2,.int .i64 z3,.int .i64 z4,.slice z5 z6 z7,.slice z8 z9 dK,.slice dU eZ dQ] 48)=W5 at*;generalize W4.heap.size=jZ at*;obtain⟨d0,d1,d2,d3,d4,d5,d6,_⟩:=aB Kc.out;obtain⟨e0,e1,e2,e3,e4,e5,e6,_⟩:=aB Ka.out
 have hqq:(binOp BinOp.neq 4 (.bool q) (.bool q)).run Tryz.prog=fun w=> .ok (.bool false) w:=by
  cases q<;>rfl
 go_upto_if 147 with((go_at_call 27;refine(mO ⟨y1,y2,y3,y4,⟨y5,y6,y7⟩,⟨y8,y9,dz⟩,⟨dA,dJ,cK⟩⟩ ⟨z1,z2,z3,z4,⟨z5,z6,z7⟩,⟨z8,z9,dK⟩,⟨dU,eZ,dQ⟩⟩ l l W5 Sd.out.m HM5.out.m).mono ?_);rw[decide_eq_true (rfl:l=l)];rintro en W6 ⟨rfl,nG⟩)
 go_cut[] (fun wx=>wx=W6)
 case first=>
  go_wp2;go_meet;rfl
 case rest=>
 subst hcut;go_step;have afB:=(bq Ka.out).1;exact afw w _ x ⟨⟨ca,cn,cc⟩,⟨fa,bD,fc⟩,⟨la,ln,lc⟩,⟨ba,bE,bc⟩⟩ ⟨⟨ga,gn,gc⟩,⟨ha,fu,hc⟩,⟨ia,eX,ic⟩,⟨ja,jn,jc⟩⟩ ⟨y1,y2,y3,y4,⟨y5,y6,y7⟩,⟨y8,y9,dz⟩,⟨dA,dJ,cK⟩⟩ ⟨z1,z2,z3,z4,⟨z5,z6,z7⟩,⟨z8,z9,dK⟩,⟨dU,eZ,dQ⟩⟩ b l o rE jH jZ W.heap.size W3.heap.size (HQ5.out.keep nG) pV.out zN.out (aj Kc.out nG (bq Kc.out).1) (aj Ka.out nG afB) (aj abt.out nG (bq abt.out).1) (Sd.out.keep nG (aC _)) (HM5.out.keep nG (aC _)) CK (by omega) oO (by omega) Ke (by omega) HP.out.1 n2 HP.out.2.1 HB.out HP.out.2.2.1 HP.out.2.2.2.1 HP.out.2.2.2.2.1 HP.out.2.2.2.2.2.1 b2 HP.out.2.2.2.2.2.2 _ rfl
end
section
variable {W W':World} {B N p:Nat}
theorem nE {e:TypeId} {E:Nat} {v:Value} {n:Nat} {xs:List Value} (h:W.ownsRow B e E v n xs) (hN:∀g,v.ownBlock=some g→g<N) (hp:p<B∨N≤p) (aK:∀c,c≠p→W'.heap[c]? =W.heap[c]?):W'.ownsRow B e E v n xs:=
 gT h aK (fun e=>by have h1:=(h.lt p e).1;have h2:=hN p e;omega)
structure IK (W:World) (B N:Nat) (y:cB) (l:Ls):Prop where
 o:jF W B y l
 s:∀g,y.s.v.ownBlock=some g→g<N
 i:∀g,y.i.v.ownBlock=some g→g<N
 u:∀g,y.u.v.ownBlock=some g→g<N
theorem IK.of {y:cB} {l:Ls} (h:jF W B y l):IK W B W.heap.size y l:=⟨h,fun g e=>(h.s.lt g e).2,fun g e=>(h.i.lt g e).2,fun g e=>(h.u.lt g e).2⟩
theorem IK.keep {y:cB} {l:Ls} (h:IK W B N y l) (hb:Below W.heap.size W W'):IK W' B N y l:=⟨h.o.keep hb (aC _),h.s,h.i,h.u⟩
theorem IK.Sy {y:cB} {l:Ls} (h:IK W B N y l) (hp:p<B∨N≤p) (aK:∀c,c≠p→W'.heap[c]? =W.heap[c]?):IK W' B N y l:=
 ⟨⟨h.o.dev,h.o.epoch,h.o.bU,h.o.last,nE h.o.s h.s hp aK,nE h.o.i h.i hp aK,nE h.o.u h.u hp aK⟩,h.s,h.i,h.u⟩
structure Oc (W:World) (B N:Nat) (x:dN) (b:Bk):Prop where
 rc:W.ownsRow B 54 7 x.c.v b.cs.length (aJ kY b.cs)
 rf:W.ownsRow B 56 2 x.f.v b.free.length (aR b.free)
 rl:∃xs:List cB,W.ownsRow B 48 7 x.l.v b.ls.length (aJ j_ xs)∧bN (IK W B N) xs b.ls
 rb:W.ownsRow B 3 1 x.b.v b.bound.length (bS b.bound)
 cl:∀g,x.c.v.ownBlock=some g→g<N
 fl:∀g,x.f.v.ownBlock=some g→g<N
 ll:∀g,x.l.v.ownBlock=some g→g<N
 bl:∀g,x.b.v.ownBlock=some g→g<N
theorem Oc.of {C:Nat} {x:dN} {b:Bk} {xs:List cB} (h:uI W B C x b xs) (hC:B≤C):Oc W B W.heap.size x b:=
 ⟨h.rc,h.rf,⟨xs,h.rl,h.each.imp fun _ _ r=>IK.of (r.base hC)⟩,h.rb,fun g e=>(h.rc.lt g e).2,fun g e=>(h.rf.lt g e).2,fun g e=>(h.rl.lt g e).2,fun g e=>(h.rb.lt g e).2⟩
theorem Oc.keep {x:dN} {b:Bk} (h:Oc W B N x b) (hb:Below W.heap.size W W'):Oc W' B N x b:=by
 obtain⟨xs,h1,h2⟩:=h.rl;exact⟨aI h.rc hb (aC _),aI h.rf hb (aC _),⟨xs,aI h1 hb (aC _),h2.imp fun _ _ r=>r.keep hb⟩,aI h.rb hb (aC _),h.cl,h.fl,h.ll,h.bl⟩
theorem Oc.Sy {x:dN} {b:Bk} (h:Oc W B N x b) (hp:p<B∨N≤p) (aK:∀c,c≠p→W'.heap[c]? =W.heap[c]?):Oc W' B N x b:=by
 obtain⟨xs,h1,h2⟩:=h.rl;exact⟨nE h.rc h.cl hp aK,nE h.rf h.fl hp aK,⟨xs,nE h1 h.ll hp aK,h2.imp fun _ _ r=>r.Sy hp aK⟩,nE h.rb h.bl hp aK,h.cl,h.fl,h.ll,h.bl⟩
theorem Oc.m {x:dN} {b:Bk} (h:Oc W B N x b):iA W x b:=by
 obtain⟨xs,h1,h2⟩:=h.rl;refine⟨aG h.rc,aG h.rf,⟨xs,?_,h2.imp fun _ _ r=>r.o.m⟩,aG h.rb⟩;show Sl _ _ _ xs.length _;rw[h2.len];exact aG h1
structure Od (w0 W:World) (B N:Nat) (x:dN) (b:Bk):Prop where
 bC:Below w0.heap.size w0 W
 rc:Ab w0 W 54 7 x.c.v b.cs.length (aJ kY b.cs)
 rf:Ab w0 W 56 2 x.f.v b.free.length (aR b.free)
 rl:Ei w0 x.l.v b.ls∨ ∃xs:List cB,(W.ownsRow B 48 7 x.l.v b.ls.length (aJ j_ xs)∧ ∀g,x.l.v.ownBlock=some g→g<N)∧bN (Re w0 W) xs b.ls
 rb:jv w0 x.b.v b.bound
variable {w0:World} {x:dN} {b:Bk}
theorem Od.of (h:Rb B w0 W x b):Od w0 W B W.heap.size x b:=by
 refine⟨h.bC,h.rc,h.rf,?_,h.rb⟩;rcases h.rl with h0 | ⟨xs,h1,h2⟩
 ·exact .inl h0
 ·exact .inr ⟨xs,⟨h1,fun g e=>(h1.lt g e).2⟩,h2⟩
theorem Od.keep (h:Od w0 W B N x b) (hb:Below W.heap.size W W'):Od w0 W' B N x b:=by
 refine⟨h.bC.trans (hb.mono h.bC.size),h.rc.keep hb,h.rf.keep hb,?_,h.rb⟩;rcases h.rl with h0 | ⟨xs,h1,h2⟩
 ·exact .inl h0
 ·exact .inr ⟨xs,⟨aI h1.1 hb (aC _),h1.2⟩,h2.imp (fun _ _ r=>r.keep hb)⟩
theorem Od.Sy {T':TypeId} {cur:Array Value} {zz:Nat×Nat} (h:Od w0 W B N x b) (hb:Below w0.heap.size w0 W') (hp:p<B∨N≤p) (aK:∀c,c≠p→W'.heap[c]? =W.heap[c]?) (hg:W.heap[p]? =some (.cells cur T' zz)) (h0: 54 ≠T') (h1: 88 ≠T') (h2: 56 ≠T') (h3: 3 ≠T'):Od w0 W' B N x b:=by
 refine⟨hb,h.rc.other aK hg h0,h.rf.other aK hg h2,?_,h.rb⟩;rcases h.rl with h6 | ⟨xs,h4,h5⟩
 ·exact .inl h6
 ·exact .inr ⟨xs,⟨nE h4.1 h4.2 hp aK,h4.2⟩,h5.imp (fun _ _ r=>r.other aK hg h1 h2 h3)⟩
theorem Od.m (h:Od w0 W B N x b):iA W x b:=by
 rcases h.rl with h0 | ⟨xs,h1,h2⟩
 ·exact⟨h.rc.sl h.bC,h.rf.sl h.bC,h0.keep h.bC (aC _),jv.keep h.rb h.bC (aC _)⟩
 refine⟨h.rc.sl h.bC,h.rf.sl h.bC,⟨xs,?_,h2.imp (fun _ _ r=>r.m h.bC)⟩,jv.keep h.rb h.bC (aC _)⟩;show Sl _ _ _ xs.length _;rw[h2.len];exact aG h1.1
end
abbrev Bl (w:World) (p:Nat) (x:cB):Prop:=w.heap[p]? =some (.cells #[.int .i64 x.dev,.int .i64 x.epoch,.int .i64 x.bU,.int .i64 x.last,x.s.v,x.i.v,x.u.v] 48 (0,0))
theorem Bl.lt {w:World} {p:Nat} {x:cB} (h:Bl w p x):p<w.heap.size:=(bq h).1
structure Rs (W:World) (R:dN→cB→Nat→Nat→World→Prop):Prop where
 keep:∀ {y z B N w w'},R y z B N w→Below w.heap.size w w'→R y z B N w'
 Sy:∀ {y z B N w w' p cur t},R y z B N w→(p<B∨N≤p)→w.heap[p]? =some (.cells cur t (0,0))→(t= 30 ∨t= 48)→(∀c,c≠p→w'.heap[c]? =w.heap[c]?)→Below W.heap.size W w'→R y z B N w'
structure Jg (W:World) (R:dN→cB→Nat→Nat→World→Prop) (ge:Int) (k:Nat) (D:Nat→Prop) (y:dN) (z:cB) (B N p q:Nat) (vT vM vA vB vC vp vq vo:Value) (w:World):Prop where
 bC:Below W.heap.size W w
 c:D k→vT= .tuple #[iJ y,o9 z,.int .i64 ge]∧R y z B N w∧N≤w.heap.size
 m:D (k+1)→D k∧vM= .tuple #[iJ y,o9 z,.int .i64 ge]
 e1:D (k+2)→D k∧vA=iJ y
 e2:D (k+3)→D k∧vB=o9 z
 e3:D (k+4)→D k∧vC= .int .i64 ge
 a1:D (k+5)→vp=qK p∧W.heap.size≤p∧(D k→p<B∨N≤p)∧ ∃x,Bx w p x∧(D (k+7)→x=y)
 a2:D (k+6)→vq=qK q∧W.heap.size≤q∧(D k→q<B∨N≤q)∧ ∃x,Bl w q x∧(D (k+8)→x=z)
 ne:D (k+5)→D (k+6)→p≠q
 s1:D (k+7)→D k∧D (k+5)
 s2:D (k+8)→D k∧D (k+6)
 o:D (k+9)→vo= .int .i64 ge
section
variable {W w w':World} {R:dN→cB→Nat→Nat→World→Prop} {ge:Int} {k:Nat} {D:Nat→Prop} {y:dN} {z:cB} {B N p q:Nat} {vT vM vA vB vC vp vq vo:Value}
theorem Jg.call (h:Jg W R ge k D y z B N p q vT vM vA vB vC vp vq vo w) (hn:¬D k) {y':dN} {z':cB} {B' N':Nat} (hr:R y' z' B' N' w') (hB:w.heap.size≤B') (hN:N'≤w'.heap.size) (hb:Below w.heap.size w w'):
  Jg W R ge k (fun j=>j=k∨D j) y' z' B' N' p q (.tuple #[iJ y',o9 z',.int .i64 ge]) vM vA vB vC vp vq vo w':=by
 refine⟨h.bC.trans (hb.mono h.bC.size),fun _=>⟨rfl,hr,hN⟩,fun g=>absurd (h.m (aT g (by omega))).1 hn,fun g=>absurd (h.e1 (aT g (by omega))).1 hn,fun g=>absurd (h.e2 (aT g (by omega))).1 hn,fun g=>absurd (h.e3 (aT g (by omega))).1 hn,
  fun g=>?_,fun g=>?_,fun g g2=>h.ne (aT g (by omega)) (aT g2 (by omega)),fun g=>absurd (h.s1 (aT g (by omega))).1 hn,fun g=>absurd (h.s2 (aT g (by omega))).1 hn,fun g=>h.o (aT g (by omega))⟩
 ·obtain⟨g1,g2,_,x,g3,_⟩:=h.a1 (aT g (by omega))
  have:=Bx.lt g3;exact⟨g1,g2,fun _=> .inl (by omega),x,aj g3 hb this,fun g=>absurd (h.s1 (aT g (by omega))).1 hn⟩
 ·obtain⟨g1,g2,_,x,g3,_⟩:=h.a2 (aT g (by omega))
  have:=Bl.lt g3;exact⟨g1,g2,fun _=> .inl (by omega),x,aj g3 hb this,fun g=>absurd (h.s2 (aT g (by omega))).1 hn⟩
theorem Jg.al1 (hR:Rs W R) (h:Jg W R ge k D y z B N p q vT vM vA vB vC vp vq vo w) (hn:¬D (k+5)):
  Jg W R ge k (fun j=>j=k+5∨D j) y z B N w.heap.size q vT vM vA vB vC (qK w.heap.size) vq vo (w.alloc (.cells #[.slice none 0 0,.slice none 0 0,.slice none 0 0,.slice none 0 0] 30)):=by
 have hb:Below w.heap.size w (w.alloc (.cells #[.slice none 0 0,.slice none 0 0,.slice none 0 0,.slice none 0 0] 30)):=(aL _ _).alloc (aC _) _
 refine⟨h.bC.trans (hb.mono h.bC.size),fun g=>?_,fun g=>(h.m (aT g (by omega))).imp .inr id,fun g=>(h.e1 (aT g (by omega))).imp .inr id,fun g=>(h.e2 (aT g (by omega))).imp .inr id,fun g=>(h.e3 (aT g (by omega))).imp .inr id,
  fun _=>⟨rfl,h.bC.size,fun g=> .inr (h.c (aT g (by omega))).2.2,Oa,heap_alloc_new w _,fun g=>absurd (h.s1 (aT g (by omega))).2 hn⟩,fun g=>?_,fun _ g2=>?_,fun g=>(h.s1 (aT g (by omega))).imp .inr .inr,fun g=>(h.s2 (aT g (by omega))).imp .inr .inr,fun g=>h.o (aT g (by omega))⟩
 ·obtain⟨g1,g2,g3⟩:=h.c (aT g (by omega))
  exact⟨g1,hR.keep g2 hb,Nat.le_trans g3 hb.size⟩
 ·obtain⟨g1,g2,g5,x,g3,g4⟩:=h.a2 (aT g (by omega))
  exact⟨g1,g2,fun g=>g5 (aT g (by omega)),x,aj g3 hb (Bl.lt g3),fun g=>g4 (aT g (by omega))⟩
 ·obtain⟨_,_,_,x,g3,_⟩:=h.a2 (aT g2 (by omega))
  have:=Bl.lt g3;omega
theorem Jg.al2 (hR:Rs W R) (h:Jg W R ge k D y z B N p q vT vM vA vB vC vp vq vo w) (hn:¬D (k+6)):
  Jg W R ge k (fun j=>j=k+6∨D j) y z B N p w.heap.size vT vM vA vB vC vp (qK w.heap.size) vo (w.alloc (.cells #[.int .i64 0,.int .i64 0,.int .i64 0,.int .i64 0,.slice none 0 0,.slice none 0 0,.slice none 0 0] 48)):=by
 have hb:Below w.heap.size w (w.alloc (.cells #[.int .i64 0,.int .i64 0,.int .i64 0,.int .i64 0,.slice none 0 0,.slice none 0 0,.slice none 0 0] 48)):=(aL _ _).alloc (aC _) _
 refine⟨h.bC.trans (hb.mono h.bC.size),fun g=>?_,fun g=>(h.m (aT g (by omega))).imp .inr id,fun g=>(h.e1 (aT g (by omega))).imp .inr id,fun g=>(h.e2 (aT g (by omega))).imp .inr id,fun g=>(h.e3 (aT g (by omega))).imp .inr id,
  fun g=>?_,fun _=>⟨rfl,h.bC.size,fun g=> .inr (h.c (aT g (by omega))).2.2,ug,heap_alloc_new w _,fun g=>absurd (h.s2 (aT g (by omega))).2 hn⟩,fun g2 _=>?_,fun g=>(h.s1 (aT g (by omega))).imp .inr .inr,fun g=>(h.s2 (aT g (by omega))).imp .inr .inr,fun g=>h.o (aT g (by omega))⟩
 ·obtain⟨g1,g2,g3⟩:=h.c (aT g (by omega))
  exact⟨g1,hR.keep g2 hb,Nat.le_trans g3 hb.size⟩
 ·obtain⟨g1,g2,g5,x,g3,g4⟩:=h.a1 (aT g (by omega))
  exact⟨g1,g2,fun g=>g5 (aT g (by omega)),x,aj g3 hb (Bx.lt g3),fun g=>g4 (aT g (by omega))⟩
 ·obtain⟨_,_,_,x,g3,_⟩:=h.a1 (aT g2 (by omega))
  have:=Bx.lt g3;omega
theorem Jg.st1 (hR:Rs W R) (h:Jg W R ge k D y z B N p q vT vM vA vB vC vp vq vo w) (hk:D k) (h5:D (k+5)):
  Jg W R ge k (fun j=>j=k+7∨D j) y z B N p q vT vM vA vB vC vp vq vo ((((w.setCell ⟨p,0,none⟩ y.c.v).setCell ⟨p,1,none⟩ y.f.v).setCell ⟨p,2,none⟩ y.l.v).setCell ⟨p,3,none⟩ y.b.v):=by
 obtain⟨a1,a2,a5,x,a3,_⟩:=h.a1 h5;have aK:∀c,c≠p→((((w.setCell ⟨p,0,none⟩ y.c.v).setCell ⟨p,1,none⟩ y.f.v).setCell ⟨p,2,none⟩ y.l.v).setCell ⟨p,3,none⟩ y.b.v).heap[c]? =w.heap[c]? :=fun c hc=>bM w p c (fun e=>hc e.symm) _ _ _ _ 0 1 2 3
 refine⟨oW h.bC a2 _ _ _ _,fun g=>?_,fun g=>(h.m (aT g (by omega))).imp .inr id,fun g=>(h.e1 (aT g (by omega))).imp .inr id,fun g=>(h.e2 (aT g (by omega))).imp .inr id,fun g=>(h.e3 (aT g (by omega))).imp .inr id,
  fun _=>⟨a1,a2,fun _=>a5 hk,y,ku a3 _ _ _ _,fun _=>rfl⟩,fun g=>?_,fun g g2=>h.ne (aT g (by omega)) (aT g2 (by omega)),fun _=>⟨.inr hk,.inr h5⟩,fun g=>(h.s2 (aT g (by omega))).imp .inr .inr,fun g=>h.o (aT g (by omega))⟩
 ·obtain⟨g1,g2,g3⟩:=h.c hk
  exact⟨g1,hR.Sy g2 (a5 hk) a3 (.inl rfl) aK (oW h.bC a2 _ _ _ _),by rw[jA];exact g3⟩
 ·have g':=aT g (by omega)
  obtain⟨g1,g2,g5,x',g3,g4⟩:=h.a2 g';exact⟨g1,g2,fun _=>g5 hk,x',(aK q (fun e=>h.ne h5 g' e.symm)).trans g3,fun g=>g4 (aT g (by omega))⟩
theorem Jg.st2 (hR:Rs W R) (h:Jg W R ge k D y z B N p q vT vM vA vB vC vp vq vo w) (hk:D k) (h6:D (k+6)):
  Jg W R ge k (fun j=>j=k+8∨D j) y z B N p q vT vM vA vB vC vp vq vo (((((((w.setCell ⟨q,0,none⟩ (.int .i64 z.dev)).setCell ⟨q,1,none⟩ (.int .i64 z.epoch)).setCell ⟨q,2,none⟩ (.int .i64 z.bU)).setCell ⟨q,3,none⟩ (.int .i64 z.last)).setCell ⟨q,4,none⟩ z.s.v).setCell ⟨q,5,none⟩ z.i.v).setCell ⟨q,6,none⟩ z.u.v):=by
 obtain⟨a1,a2,a5,x,a3,_⟩:=h.a2 h6;have aK:=fun c hc=>kC w q c hc (.int .i64 z.dev) (.int .i64 z.epoch) (.int .i64 z.bU) (.int .i64 z.last) z.s.v z.i.v z.u.v
 have J5:=CR h.bC a2 (.int .i64 z.dev) (.int .i64 z.epoch) (.int .i64 z.bU) (.int .i64 z.last) z.s.v z.i.v z.u.v
 refine⟨J5,fun g=>?_,fun g=>(h.m (aT g (by omega))).imp .inr id,fun g=>(h.e1 (aT g (by omega))).imp .inr id,fun g=>(h.e2 (aT g (by omega))).imp .inr id,fun g=>(h.e3 (aT g (by omega))).imp .inr id,
  fun g=>?_,fun _=>⟨a1,a2,fun _=>a5 hk,z,He a3 _ _ _ _ _ _ _,fun _=>rfl⟩,fun g g2=>h.ne (aT g (by omega)) (aT g2 (by omega)),fun g=>(h.s1 (aT g (by omega))).imp .inr .inr,fun _=>⟨.inr hk,.inr h6⟩,fun g=>h.o (aT g (by omega))⟩
 ·obtain⟨g1,g2,g3⟩:=h.c hk
  exact⟨g1,hR.Sy g2 (a5 hk) a3 (.inr rfl) aK J5,by simpa[World.setCell]using g3⟩
 ·have g':=aT g (by omega)
  obtain⟨g1,g2,g5,x',g3,g4⟩:=h.a1 g';exact⟨g1,g2,fun _=>g5 hk,x',(aK p (fun e=>h.ne g' h6 e)).trans g3,fun g=>g4 (aT g (by omega))⟩
theorem Jg.mv (h:Jg W R ge k D y z B N p q vT vM vA vB vC vp vq vo w) (hk:D k) (i:Nat) (hi:i=k+1∨i=k+2∨i=k+3∨i=k+4∨i=k+9) {Xx Xy Xz XA XB:Value}
  (q1:i=k+1→Xx= .tuple #[iJ y,o9 z,.int .i64 ge]) (q2:i=k+2→Xy=iJ y) (q3:i=k+3→Xz=o9 z) (q4:i=k+4→XA= .int .i64 ge) (q5:i=k+9→XB= .int .i64 ge)
  (r1:i≠k+1→Xx=vM) (r2:i≠k+2→Xy=vA) (r3:i≠k+3→Xz=vB) (r4:i≠k+4→XA=vC) (r5:i≠k+9→XB=vo):
  Jg W R ge k (fun j=>j=i∨D j) y z B N p q vT Xx Xy Xz XA vp vq XB w:=by
 refine⟨h.bC,fun _=>h.c hk,fun g=>⟨.inr hk,?_⟩,fun g=>⟨.inr hk,?_⟩,fun g=>⟨.inr hk,?_⟩,fun g=>⟨.inr hk,?_⟩,fun g=>?_,fun g=>?_,fun g g2=>h.ne (aT g (by omega)) (aT g2 (by omega)),fun g=>(h.s1 (aT g (by omega))).imp .inr .inr,fun g=>(h.s2 (aT g (by omega))).imp .inr .inr,fun g=>?_⟩
 ·by_cases e:i=k+1
  ·exact q1 e
  ·rw[r1 e];exact(h.m (aT g (fun h=>e h.symm))).2
 ·by_cases e:i=k+2
  ·exact q2 e
  ·rw[r2 e];exact(h.e1 (aT g (fun h=>e h.symm))).2
 ·by_cases e:i=k+3
  ·exact q3 e
  ·rw[r3 e];exact(h.e2 (aT g (fun h=>e h.symm))).2
 ·by_cases e:i=k+4
  ·exact q4 e
  ·rw[r4 e];exact(h.e3 (aT g (fun h=>e h.symm))).2
 ·obtain⟨g1,g2,g5,x',g3,g4⟩:=h.a1 (aT g (by omega))
  exact⟨g1,g2,fun _=>g5 hk,x',g3,fun g=>g4 (aT g (by omega))⟩
 ·obtain⟨g1,g2,g5,x',g3,g4⟩:=h.a2 (aT g (by omega))
  exact⟨g1,g2,fun _=>g5 hk,x',g3,fun g=>g4 (aT g (by omega))⟩
 ·by_cases e:i=k+9
  ·exact q5 e
  ·rw[r5 e];exact h.o (aT g (fun h=>e h.symm))
theorem Jg.start (h:Below W.heap.size W w) (hD:∀j,j<k+10→k≤j→ ¬D j):Jg W R ge k D y z B N p q vT vM vA vB vC vp vq vo w:=
 have hn:∀ {j},j<k+10→k≤j→ ∀ {P:Prop},D j→P:=fun h1 h2 _ g=>absurd g (hD _ h1 h2)
 ⟨h,hn (by omega) (by omega),hn (by omega) (by omega),hn (by omega) (by omega),hn (by omega) (by omega),hn (by omega) (by omega),hn (by omega) (by omega),hn (by omega) (by omega),hn (by omega) (by omega),hn (by omega) (by omega),hn (by omega) (by omega),hn (by omega) (by omega)⟩
theorem Jg.fin (h:Jg W R ge k D y z B N p q vT vM vA vB vC vp vq vo w) (hD:∀j,j<k+10→D j):
  vp=qK p∧vq=qK q∧vo= .int .i64 ge∧Bx w p y∧Bl w q z∧R y z B N w∧Below W.heap.size W w∧W.heap.size≤p∧W.heap.size≤q:=by
 obtain⟨c1,c2,c3⟩:=h.c (hD _ (by omega));obtain⟨p1,p2,_,x1,p3,p4⟩:=h.a1 (hD _ (by omega));obtain⟨q1,q2,_,x2,q3,q4⟩:=h.a2 (hD _ (by omega));obtain rfl:=p4 (hD _ (by omega));obtain rfl:=q4 (hD _ (by omega));exact⟨p1,q1,h.o (hD _ (by omega)),p3,q3,c2,h.bC,p2,q2⟩
end
section
attribute [local go_sem ↓] Go.wp_at_zero Go.wp_at_succ
def rZ (n:Nat):Code→Option Code
 | .region m ops d=>if m=n then some (.region m ops d)else none
 | .seq a b=>(rZ n a).orElse fun _=>rZ n b
 | .cond _ a b=>(rZ n a).orElse fun _=>rZ n b
 | .block _ a=>rZ n a
 | .loop a=>rZ n a
 | .scope a=>rZ n a
 | _=>none
theorem Kg {P:Program} {b:Option Code} {n:Nat} {c':Code} {Q:Exit→Act→World→Prop} {a:Act} {w:World} (h:b.bind (rZ n)=some c') (hw:Code.wp P c' Q a w):∀c,b.bind (rZ n)=some c→Code.wp P c Q a w:=by
 intro c hc;rw[h]at hc;injection hc with hc;subst hc;exact hw
theorem XH (w W:World) (xk xd xn:Int) (xw:Sv) (xo:uq) (ya yb:dN) (b:Bk) (dev ep:Int) (va:Option Addr) (wn vc:Nat) (ws:List Wn) (h:Dq w W ⟨xk,xd,xn,xw,xo⟩ ya yb) (oZ:iA w ya b) (Fu:sM W (.slice va wn vc) ws) (hG:Px b) (b2:Bk) (gl:Ls) (ge:Int) (Mf:h_ b dev ep (xn%100) ws=(b2,gl,ge)) {u0 u1 u2 u8 u12 u13 u14 u15 u16 u17 u18 u19 u20 u21 u22 u23 u24 u25 u26 u27 u28 u29 u30 u31 u32 u33 u34 u35 u36 u37 u38 u39 u40 u41 u42 u43 u44 u45 u46 u47 u48 u49 u50 u51 u52 u53 u54 u55 u56 u57 u58 u59 u60 u61 u62 u63 u64 u65 u66 u67 u68 u69 u70 u71 u72 u73 u74 u75 u76 u77 u78 u79 u80 u81 u82 u83 u84 u85 u86 u87 u88 u89 u90 u91 u92 u93 u94 u95 u96 u97 u98 u99 u100 u101 u102 u103 u104 u105 u106 u107 u108 u109 u110 u111 u112 u113 u114 u115 u116 u117 u118 u119 u120 u121 u122 u123 u124 u125 u126 u127 u128 u129 u130 u131 u132 u133 u134 u135 u136 u137 u138 u139 u140 u141 u142 u143 u144 u145 u146 u147 u148 u149 u150 u151 u152 u153 u154 u155 u156 u157 u158 u159 u160 u161 u162 u163 u164 u165 u166 u167 u168 u169 u170 u171 u172 u173 u174 u175 u176 u177 u178 u179 u180 u181 u182 u183 u184 u185 u186 u187 u188 u189 u190 u191 u192 u193 u194 u195 u196 u197 u198 u199 u200 u201 u202 u203 u204 u205 u206 u207 u208 u209 u210 u211 u212 u213 u214 u215 u216 u217 u218 u219 u220 u221 u222 u223 u224 u225 u226 u227 u228 u229 u230 u231 u232 u233 u234 u235 u236 u237 u238:Value} (RR:Act→World→Prop) (hRR:∀a_ w_,(fun (a':Act) (wx:World)=>∃u13:Value,∃u14:Value,∃u15:Value,∃u60:Value,∃u61:Value,∃u62:Value,∃u63:Value,∃u64:Value,∃u65:Value,∃u66:Value,∃u67:Value,∃u68:Value,∃u69:Value,∃u70:Value,∃u71:Value,(∃ (jd iK:Nat) (y:dN) (z:cB),u13= .pointer (some ⟨jd,0,none⟩)∧u14= .pointer (some ⟨iK,0,none⟩)∧u15= .int .i64 ge∧wx.heap[jd]? =some (.cells #[y.c.v,y.f.v,y.l.v,y.b.v] 30 (0,0))∧wx.heap[iK]? =some (.cells #[.int .i64 z.dev,.int .i64 z.epoch,.int .i64 z.bU,.int .i64 z.last,z.s.v,z.i.v,z.u.v] 48 (0,0))∧iA wx y b2∧nV wx z gl∧Below W.heap.size W wx∧W.heap.size≤jd∧W.heap.size≤iK)∧a'=⟨#[u0,u1,u2,.pointer (some ⟨w.heap.size,0,none⟩),.pointer (some ⟨w.heap.size+1,0,none⟩),.pointer (some ⟨w.heap.size+1+1,0,none⟩),.pointer (some ⟨w.heap.size+1+1+1,0,none⟩),.pointer (some ⟨w.heap.size+1+1+1+1,0,none⟩),u8,.int .i64 dev,.int .i64 ep,.slice va wn vc,u12,u13,u14,u15,u16,u17,u18,u19,u20,u21,u22,u23,u24,u25,u26,u27,u28,u29,u30,u31,u32,u33,u34,u35,u36,u37,u38,u39,u40,u41,u42,u43,u44,u45,u46,u47,u48,u49,u50,u51,u52,u53,u54,u55,u56,u57,u58,u59,u60,u61,u62,u63,u64,u65,u66,u67,u68,u69,u70,u71,u72,u73,u74,u75,u76,u77,u78,u79,u80,u81,u82,u83,u84,u85,u86,u87,u88,u89,u90,u91,u92,u93,u94,u95,u96,u97,u98,u99,u100,u101,u102,u103,u104,u105,u106,u107,u108,u109,u110,u111,u112,u113,u114,u115,u116,u117,u118,u119,u120,u121,u122,u123,u124,u125,u126,u127,u128,u129,u130,u131,u132,u133,u134,u135,u136,u137,u138,u139,u140,u141,u142,u143,u144,u145,u146,u147,u148,u149,u150,u151,u152,u153,u154,u155,u156,u157,u158,u159,u160,u161,u162,u163,u164,u165,u166,u167,u168,u169,u170,u171,u172,u173,u174,u175,u176,u177,u178,u179,u180,u181,u182,u183,u184,u185,u186,u187,u188,u189,u190,u191,u192,u193,u194,u195,u196,u197,u198,u199,u200,u201,u202,u203,u204,u205,u206,u207,u208,u209,u210,u211,u212,u213,u214,u215,u216,u217,u218,u219,u220,u221,u222,u223,u224,u225,u226,u227,u228,u229,u230,u231,u232,u233,u234,u235,u236,u237,u238],[]⟩) a_ w_→RR a_ w_):
  ∀c,Tryz.f10.body.bind (rZ 10)=some c→Code.wp Tryz.prog c (Exit.then RR (fun _ _ _=>False)) ⟨#[u0,u1,u2,.pointer (some ⟨w.heap.size,0,none⟩),.pointer (some ⟨w.heap.size+1,0,none⟩),.pointer (some ⟨w.heap.size+1+1,0,none⟩),.pointer (some ⟨w.heap.size+1+1+1,0,none⟩),.pointer (some ⟨w.heap.size+1+1+1+1,0,none⟩),u8,.int .i64 dev,.int .i64 ep,.slice va wn vc,u12,u13,u14,u15,u16,u17,u18,u19,u20,u21,u22,u23,u24,u25,u26,u27,u28,u29,u30,u31,u32,u33,u34,u35,u36,u37,u38,u39,u40,u41,u42,u43,u44,u45,u46,u47,u48,u49,u50,u51,u52,u53,u54,u55,u56,u57,u58,u59,u60,u61,u62,u63,u64,u65,u66,u67,u68,u69,u70,u71,u72,u73,u74,u75,u76,u77,u78,u79,u80,u81,u82,u83,u84,u85,u86,u87,u88,u89,u90,u91,u92,u93,u94,u95,u96,u97,u98,u99,u100,u101,u102,u103,u104,u105,u106,u107,u108,u109,u110,u111,u112,u113,u114,u115,u116,u117,u118,u119,u120,u121,u122,u123,u124,u125,u126,u127,u128,u129,u130,u131,u132,u133,u134,u135,u136,u137,u138,u139,u140,u141,u142,u143,u144,u145,u146,u147,u148,u149,u150,u151,u152,u153,u154,u155,u156,u157,u158,u159,u160,u161,u162,u163,u164,u165,u166,u167,u168,u169,u170,u171,u172,u173,u174,u175,u176,u177,u178,u179,u180,u181,u182,u183,u184,u185,u186,u187,u188,u189,u190,u191,u192,u193,u194,u195,u196,u197,u198,u199,u200,u201,u202,u203,u204,u205,u206,u207,u208,u209,u210,u211,u212,u213,u214,u215,u216,u217,u218,u219,u220,u221,u222,u223,u224,u225,u226,u227,u228,u229,u230,u231,u232,u233,u234,u235,u236,u237,u238],[]⟩ W:=by
 dsimp only at hRR;have Cb:=ah hRR;clear hRR;refine Kg rfl ?_;obtain⟨⟨ca,cn,cc⟩,⟨fa,bD,fc⟩,⟨la,ln,lc⟩,⟨ba,bE,bc⟩⟩:=ya;obtain⟨⟨ga,gn,gc⟩,⟨ha,fu,hc⟩,⟨ia,eX,ic⟩,⟨ja,jn,jc⟩⟩:=yb;obtain⟨Ch,Ci,Cj⟩:=xw;have HQ:=ah h;have pV:=ah oZ;have YU:=ah Fu;have yj:=ah hG;have mU:=ah Mf;clear h oZ Fu hG Mf;refine aW 14 (fun w'=>Below W.heap.size W w') (by kernel_rfl) ?_;have aQ:Below W.heap.size W W.drew:=(aL _ _).drew;refine aP (i:=0) (v:=.agg #[.slice ca cn cc,.slice fa bD fc,.slice la ln lc,.slice ba bE bc]) rfl rfl (by kernel_rfl) (fun _ _ _ h=>h) (.inl ⟨rfl,fun w' hw=>?_⟩) aQ ?_
 ·obtain⟨a0,a1,a2,a3,_⟩:=ay (HQ.out.keep hw).k4
  simp only[Sv.v]at a0 a1 a2 a3;go_simp
 refine aV (i:=1) (v:=.int .i64 dev) rfl (by kernel_rfl) (fun _ _ _ h=>h) (.inl ⟨rfl,fun w' _=>?_⟩) aQ ?_
 ·go_simp
 refine aV (i:=2) (v:=.int .i64 ep) rfl (by kernel_rfl) (fun _ _ _ h=>h) (.inl ⟨rfl,fun w' _=>?_⟩) aQ ?_
 ·go_simp
 refine aV (i:=3) (v:=.pointer (some ⟨w.heap.size,2,none⟩)) rfl (by kernel_rfl) (fun _ _ _ h=>h) (.inl ⟨rfl,fun w' _=>?_⟩) aQ ?_
 ·go_simp
 refine aP (i:=4) (v:=.int .i64 xn) rfl rfl (by kernel_rfl) (fun _ _ _ h=>h) (.inl ⟨rfl,fun w' hw=>?_⟩) aQ ?_
 ·have e2:w'.cell? ⟨w.heap.size,2,none⟩=some (.int .i64 xn):=by
   have:=(HQ.out.keep hw).k3;simp only[World.cell?,this];rfl
  go_simp
 refine fq (i:=5) (v:=.int .i64 (xn%100)) rfl (by kernel_rfl) (by kernel_rfl) (by kernel_rfl) (by decide) (fun _ _ _ h=>h) ⟨rfl,18,#[.int .i64 xn,.int .i64 100],fun w' _=>?_,fun w' _=>jm _ _ _ (by omega) (by omega)⟩ aQ ?_
 ·go_simp
 refine aV (i:=6) (v:=.slice va wn vc) rfl (by kernel_rfl) (fun _ _ _ h=>h) (.inl ⟨rfl,fun w' _=>?_⟩) aQ ?_
 ·go_simp
 have hR:Rs W (fun y z B N V=>Oc V B N y b2∧IK V B N z gl):=⟨fun h hb=>⟨h.1.keep hb,h.2.keep hb⟩,fun h hp _ _ aK _=>⟨h.1.Sy hp aK,h.2.Sy hp aK⟩⟩;refine Br (fun D a V=>∃ (y:dN) (z:cB) (B N p q:Nat) (vT vM vA vB vC vp vq vo:Value),a=⟨#[u0,u1,u2,.pointer (some ⟨w.heap.size,0,none⟩),.pointer (some ⟨w.heap.size+1,0,none⟩),.pointer (some ⟨w.heap.size+1+1,0,none⟩),.pointer (some ⟨w.heap.size+1+1+1,0,none⟩),.pointer (some ⟨w.heap.size+1+1+1+1,0,none⟩),u8,.int .i64 dev,.int .i64 ep,.slice va wn vc,u12,vp,vq,vo,u16,u17,u18,u19,u20,u21,u22,u23,u24,u25,u26,u27,u28,u29,u30,u31,u32,u33,u34,u35,u36,u37,u38,u39,u40,u41,u42,u43,u44,u45,u46,u47,u48,u49,u50,u51,u52,u53,u54,u55,u56,u57,u58,u59,vM,iJ ⟨⟨ca,cn,cc⟩,⟨fa,bD,fc⟩,⟨la,ln,lc⟩,⟨ba,bE,bc⟩⟩,.int .i64 dev,.int .i64 ep,.pointer (some ⟨w.heap.size,2,none⟩),.int .i64 xn,.int .i64 (xn%100),.slice va wn vc,vT,vA,vB,vC,u72,u73,u74,u75,u76,u77,u78,u79,u80,u81,u82,u83,u84,u85,u86,u87,u88,u89,u90,u91,u92,u93,u94,u95,u96,u97,u98,u99,u100,u101,u102,u103,u104,u105,u106,u107,u108,u109,u110,u111,u112,u113,u114,u115,u116,u117,u118,u119,u120,u121,u122,u123,u124,u125,u126,u127,u128,u129,u130,u131,u132,u133,u134,u135,u136,u137,u138,u139,u140,u141,u142,u143,u144,u145,u146,u147,u148,u149,u150,u151,u152,u153,u154,u155,u156,u157,u158,u159,u160,u161,u162,u163,u164,u165,u166,u167,u168,u169,u170,u171,u172,u173,u174,u175,u176,u177,u178,u179,u180,u181,u182,u183,u184,u185,u186,u187,u188,u189,u190,u191,u192,u193,u194,u195,u196,u197,u198,u199,u200,u201,u202,u203,u204,u205,u206,u207,u208,u209,u210,u211,u212,u213,u214,u215,u216,u217,u218,u219,u220,u221,u222,u223,u224,u225,u226,u227,u228,u229,u230,u231,u232,u233,u234,u235,u236,u237,u238],[]⟩∧(∀j,j<7→D j)∧Jg W (fun y z B N V=>Oc V B N y b2∧IK V B N z gl) ge 7 D y z B N p q vT vM vA vB vC vp vq vo V) (by kernel_rfl) (fun D a V h _=>by obtain⟨_,_,_,_,_,_,_,_,_,_,_,_,_,_,_,_,hJ⟩:=h;exact hJ.bC) ?_ ?_ _ _ _ _ (of_decide_eq_true (by kernel_rfl)) (by kernel_rfl) ⟨Oa,ug,0,0,0,0,u68,u60,u69,u70,u71,u13,u14,u15,by go_simp,of_decide_eq_true (by kernel_rfl),Jg.start aQ (of_decide_eq_true (by kernel_rfl))⟩
 ·intro i hi D a V hI hn hd
  obtain⟨y,z,B,N,p,q,vT,vM,vA,vB,vC,vp,vq,vo,rfl,h6,hJ⟩:=hI;have XI:i<17:=hi;have hi7:7≤i:=by rcases Nat.lt_or_ge i 7 with h | h;exact absurd (h6 i h) hn;exact h
  have kE:i=7∨i=8∨i=9∨i=10∨i=11∨i=12∨i=13∨i=14∨i=15∨i=16:=by omega
  have hV:=hJ.bC;clear hi XI hi7;rcases kE with rfl | rfl | rfl | rfl | rfl | rfl | rfl | rfl | rfl | rfl
  ·refine dW rfl rfl ?_
   go_simp;refine(N7 ⟨⟨ca,cn,cc⟩,⟨fa,bD,fc⟩,⟨la,ln,lc⟩,⟨ba,bE,bc⟩⟩ b dev ep (xn%100) (.slice va wn vc) ws V (pV.out.keep (HQ.out.bC.trans (hV.mono HQ.out.bC.size)) (aC _)) yj.out (dI.keep YU.out hV (aC _))).mono ?_;rw[mU.out];rintro en V1 ⟨y',z',xs,C,rfl,LP,hC,qo,hb⟩;exact⟨y',z',V.heap.size,V1.heap.size,p,q,_,_,_,_,_,_,_,_,(by first | rfl | (and_intros<;>rfl)),fun j hj=> .inr (h6 j hj),hJ.call hn ⟨Oc.of LP hC,IK.of qo⟩ (aC _) (aC _) hb⟩
  ·have g6:=hd 7 (of_decide_eq_true (by kernel_rfl))
   obtain⟨rfl,_,_⟩:=hJ.c g6;refine dW rfl rfl ?_;go_simp;exact⟨y,z,B,N,p,q,_,_,_,_,_,_,_,_,(by first | rfl | (and_intros<;>rfl)),fun j hj=> .inr (h6 j hj),hJ.mv g6 8 (by omega) (by first | exact fun _=>rfl | exact fun h=>absurd h (by decide)) (by first | exact fun _=>rfl | exact fun h=>absurd h (by decide)) (by first | exact fun _=>rfl | exact fun h=>absurd h (by decide)) (by first | exact fun _=>rfl | exact fun h=>absurd h (by decide)) (by first | exact fun _=>rfl | exact fun h=>absurd h (by decide)) (by first | exact fun _=>rfl | exact fun h=>absurd h (by decide)) (by first | exact fun _=>rfl | exact fun h=>absurd h (by decide)) (by first | exact fun _=>rfl | exact fun h=>absurd h (by decide)) (by first | exact fun _=>rfl | exact fun h=>absurd h (by decide)) (by first | exact fun _=>rfl | exact fun h=>absurd h (by decide))⟩
  ·have g7:=hd 8 (of_decide_eq_true (by kernel_rfl))
   obtain⟨g6,rfl⟩:=hJ.m g7;refine dW rfl rfl ?_;go_simp;exact⟨y,z,B,N,p,q,_,_,_,_,_,_,_,_,(by first | rfl | (and_intros<;>rfl)),fun j hj=> .inr (h6 j hj),hJ.mv g6 9 (by omega) (by first | exact fun _=>rfl | exact fun h=>absurd h (by decide)) (by first | exact fun _=>rfl | exact fun h=>absurd h (by decide)) (by first | exact fun _=>rfl | exact fun h=>absurd h (by decide)) (by first | exact fun _=>rfl | exact fun h=>absurd h (by decide)) (by first | exact fun _=>rfl | exact fun h=>absurd h (by decide)) (by first | exact fun _=>rfl | exact fun h=>absurd h (by decide)) (by first | exact fun _=>rfl | exact fun h=>absurd h (by decide)) (by first | exact fun _=>rfl | exact fun h=>absurd h (by decide)) (by first | exact fun _=>rfl | exact fun h=>absurd h (by decide)) (by first | exact fun _=>rfl | exact fun h=>absurd h (by decide))⟩
  ·have g7:=hd 8 (of_decide_eq_true (by kernel_rfl))
   obtain⟨g6,rfl⟩:=hJ.m g7;refine dW rfl rfl ?_;go_simp;exact⟨y,z,B,N,p,q,_,_,_,_,_,_,_,_,(by first | rfl | (and_intros<;>rfl)),fun j hj=> .inr (h6 j hj),hJ.mv g6 10 (by omega) (by first | exact fun _=>rfl | exact fun h=>absurd h (by decide)) (by first | exact fun _=>rfl | exact fun h=>absurd h (by decide)) (by first | exact fun _=>rfl | exact fun h=>absurd h (by decide)) (by first | exact fun _=>rfl | exact fun h=>absurd h (by decide)) (by first | exact fun _=>rfl | exact fun h=>absurd h (by decide)) (by first | exact fun _=>rfl | exact fun h=>absurd h (by decide)) (by first | exact fun _=>rfl | exact fun h=>absurd h (by decide)) (by first | exact fun _=>rfl | exact fun h=>absurd h (by decide)) (by first | exact fun _=>rfl | exact fun h=>absurd h (by decide)) (by first | exact fun _=>rfl | exact fun h=>absurd h (by decide))⟩
  ·have g7:=hd 8 (of_decide_eq_true (by kernel_rfl))
   obtain⟨g6,rfl⟩:=hJ.m g7;refine dW rfl rfl ?_;go_simp;exact⟨y,z,B,N,p,q,_,_,_,_,_,_,_,_,(by first | rfl | (and_intros<;>rfl)),fun j hj=> .inr (h6 j hj),hJ.mv g6 11 (by omega) (by first | exact fun _=>rfl | exact fun h=>absurd h (by decide)) (by first | exact fun _=>rfl | exact fun h=>absurd h (by decide)) (by first | exact fun _=>rfl | exact fun h=>absurd h (by decide)) (by first | exact fun _=>rfl | exact fun h=>absurd h (by decide)) (by first | exact fun _=>rfl | exact fun h=>absurd h (by decide)) (by first | exact fun _=>rfl | exact fun h=>absurd h (by decide)) (by first | exact fun _=>rfl | exact fun h=>absurd h (by decide)) (by first | exact fun _=>rfl | exact fun h=>absurd h (by decide)) (by first | exact fun _=>rfl | exact fun h=>absurd h (by decide)) (by first | exact fun _=>rfl | exact fun h=>absurd h (by decide))⟩
  ·refine dW rfl rfl ?_
   go_simp;exact⟨y,z,B,N,V.heap.size,q,_,_,_,_,_,_,_,_,(by first | rfl | (and_intros<;>rfl)),fun j hj=> .inr (h6 j hj),hJ.al1 hR hn⟩
  ·refine dW rfl rfl ?_
   go_simp;exact⟨y,z,B,N,p,V.heap.size,_,_,_,_,_,_,_,_,(by first | rfl | (and_intros<;>rfl)),fun j hj=> .inr (h6 j hj),hJ.al2 hR hn⟩
  ·have gA:=hd 12 (of_decide_eq_true (by kernel_rfl))
   have gB:=hd 9 (of_decide_eq_true (by kernel_rfl));obtain⟨rfl,_,_,x',gx,_⟩:=hJ.a1 gA;obtain⟨g6,rfl⟩:=hJ.e1 gB;obtain⟨⟨oa,on,oc⟩,⟨pa,pn,pc⟩,⟨qa,qn,qc⟩,⟨ra,rn,rc⟩⟩:=y;obtain⟨a0,a1,a2,a3,_⟩:=ay gx;have f0:=aA gx 0;have f1:=aA gx 1;have f2:=aA gx 2;have f3:=aA gx 3;unfold qK;have hJ2:=hJ.st1 hR g6 gA;simp only[Sv.v]at hJ2;refine dW rfl rfl ?_;go_simp;exact⟨_,_,B,N,p,q,_,_,_,_,_,_,_,_,(by first | rfl | (and_intros<;>rfl)),fun j hj=> .inr (h6 j hj),hJ2⟩
  ·have gA:=hd 13 (of_decide_eq_true (by kernel_rfl))
   have gB:=hd 10 (of_decide_eq_true (by kernel_rfl));obtain⟨rfl,_,_,x',gx,_⟩:=hJ.a2 gA;obtain⟨g6,rfl⟩:=hJ.e2 gB;obtain⟨v_1,L6,L8,L9,⟨L_,Ma,Mc⟩,⟨Md,Me,xC⟩,⟨xD,xE,xF⟩⟩:=z;obtain⟨b0_,b1,b2_,b3,b4,b5,b6,_⟩:=aB gx;have g0:=ak gx 0;have g1:=ak gx 1;have g2:=ak gx 2;have g3:=ak gx 3;have g4:=ak gx 4;have g5:=ak gx 5;have g6':=ak gx 6;unfold qK;have hJ2:=hJ.st2 hR g6 gA;simp only[Sv.v]at hJ2;refine dW rfl rfl ?_;go_simp;exact⟨_,_,B,N,p,q,_,_,_,_,_,_,_,_,(by first | rfl | (and_intros<;>rfl)),fun j hj=> .inr (h6 j hj),hJ2⟩
  ·have g10:=hd 11 (of_decide_eq_true (by kernel_rfl))
   obtain⟨g6,rfl⟩:=hJ.e3 g10;refine dW rfl rfl ?_;go_simp;exact⟨y,z,B,N,p,q,_,_,_,_,_,_,_,_,(by first | rfl | (and_intros<;>rfl)),fun j hj=> .inr (h6 j hj),hJ.mv g6 16 (by omega) (by first | exact fun _=>rfl | exact fun h=>absurd h (by decide)) (by first | exact fun _=>rfl | exact fun h=>absurd h (by decide)) (by first | exact fun _=>rfl | exact fun h=>absurd h (by decide)) (by first | exact fun _=>rfl | exact fun h=>absurd h (by decide)) (by first | exact fun _=>rfl | exact fun h=>absurd h (by decide)) (by first | exact fun _=>rfl | exact fun h=>absurd h (by decide)) (by first | exact fun _=>rfl | exact fun h=>absurd h (by decide)) (by first | exact fun _=>rfl | exact fun h=>absurd h (by decide)) (by first | exact fun _=>rfl | exact fun h=>absurd h (by decide)) (by first | exact fun _=>rfl | exact fun h=>absurd h (by decide))⟩
 ·intro D a V hI gY
  obtain⟨y,z,B,N,p,q,vT,vM,vA,vB,vC,vp,vq,vo,rfl,_,hJ⟩:=hI;obtain⟨rfl,rfl,rfl,f1,f2,f3,f4,f5,f6⟩:=hJ.fin (fun j hj=>gY j hj);exact Cb.out _ _ ⟨_,_,_,_,_,_,_,_,_,_,_,_,_,_,_,⟨p,q,y,z,rfl,rfl,rfl,f1,f2,f3.1.m,f3.2.o.m,f4,f5,f6⟩,rfl⟩
end
end Go.Proofs.YtlfopoimbbpfdaaGreat
