/- What the law asks, in parts: YA YB YC YP. -/
import Derived.Deep.DrawnRows
import Derived.Test.YtlfopoimbbpfdaaGreatPk24
import Derived.Test.YtlfopoimbbpfdaaGreatPk25
import Derived.Test.YtlfopoimbbpfdaaGreatPk12
import Derived.Test.YtlfopoimbbpfdaaGreatPk13
set_option linter.all false
namespace Go.Proofs.YtlfopoimbbpfdaaGreat
open Go.RowKit
attribute [local go_sem ↓] Go.wp_at_zero Go.wp_at_succ
theorem kS {B:Nat} {w W:World} (h:Below B w W) {p:Nat} (hp:B≤p) (a b c d:Value):Below B w ((((W.setCell ⟨p,0,none⟩ a).setCell ⟨p,1,none⟩ b).setCell ⟨p,2,none⟩ c).setCell ⟨p,3,none⟩ d):=(((h.setCell hp _).setCell hp _).setCell hp _).setCell hp _
theorem zo {B:Nat} {w W:World} (h:Below B w W) {p:Nat} (hp:B≤p) (a b c d e f g:Value):Below B w (((((((W.setCell ⟨p,0,none⟩ a).setCell ⟨p,1,none⟩ b).setCell ⟨p,2,none⟩ c).setCell ⟨p,3,none⟩ d).setCell ⟨p,4,none⟩ e).setCell ⟨p,5,none⟩ f).setCell ⟨p,6,none⟩ g):=((((((h.setCell hp _).setCell hp _).setCell hp _).setCell hp _).setCell hp _).setCell hp _).setCell hp _
structure Gs (gP gJ:Nat) (w W:World) (x0 x:bZ) (y:bV):Prop where
 aZ:Below w.heap.size w W
 k5:W.heap[w.heap.size]? =some (.cells #[x0.c.v,x0.f.v,x0.l.v,x0.b.v] 30 (0,0))
 k10:W.heap[w.heap.size+1]? =some (.cells #[.slice none 0 0,.slice none 0 0,.slice none 0 0,.slice none 0 0] 30 (0,0))
 k11:W.heap[w.heap.size+1+1]? =some (.cells #[.int .i64 0,.int .i64 0,.int .i64 0,.int .i64 0,.slice none 0 0,.slice none 0 0,.slice none 0 0] 48 (0,0))
 k13:W.heap[gP]? =some (.cells #[x.c.v,x.f.v,x.l.v,x.b.v] 30 (0,0))
 k14:W.heap[gJ]? =some (.cells #[.int .i64 y.dev,.int .i64 y.epoch,.int .i64 y.bY,.int .i64 y.last,y.s.v,y.i.v,y.u.v] 48 (0,0))
 Lv:w.heap.size+1+1<gP
 Lx:w.heap.size+1+1<gJ
section
variable {gP gJ:Nat} {w W W':World} {x0 x x':bZ} {y y':bV}
theorem Gs.keep (h:Gs gP gJ w W x0 x y) (hb:Below W.heap.size W W'):Gs gP gJ w W' x0 x y:=
 ⟨h.aZ.trans (hb.mono h.aZ.size),aj h.k5 hb (bg h.k5).1,aj h.k10 hb (bg h.k10).1,aj h.k11 hb (bg h.k11).1,aj h.k13 hb (bg h.k13).1,aj h.k14 hb (bg h.k14).1,h.Lv,h.Lx⟩
theorem Gs.nb (h:Gs gP gJ w W x0 x y):gP≠gJ:=fun e=>by
 have h1:=h.k13
 rw[e,h.k14]at h1
 injection h1 with h1
 injection h1 with _ h1 _
 exact absurd h1 (by decide)
theorem Gs.LA (h:Gs gP gJ w W x0 x y) (hb:Below w.heap.size w W') (hoth:∀c,c≠gP→W'.heap[c]? =W.heap[c]?) (hk:W'.heap[gP]? =some (.cells #[x'.c.v,x'.f.v,x'.l.v,x'.b.v] 30 (0,0))):Gs gP gJ w W' x0 x' y:=by
 have h1:=h.Lv
 exact⟨hb,(hoth _ (by omega)).trans h.k5,(hoth _ (by omega)).trans h.k10,(hoth _ (by omega)).trans h.k11,hk,(hoth _ (fun e=>h.nb e.symm)).trans h.k14,h1,h.Lx⟩
theorem Gs.RH (h:Gs gP gJ w W x0 x y) (hb:Below w.heap.size w W') (hoth:∀c,c≠gJ→W'.heap[c]? =W.heap[c]?) (hk:W'.heap[gJ]? =some (.cells #[.int .i64 y'.dev,.int .i64 y'.epoch,.int .i64 y'.bY,.int .i64 y'.last,y'.s.v,y'.i.v,y'.u.v] 48 (0,0))):Gs gP gJ w W' x0 x y':=by
 have h1:=h.Lx
 exact⟨hb,(hoth _ (by omega)).trans h.k5,(hoth _ (by omega)).trans h.k10,(hoth _ (by omega)).trans h.k11,(hoth _ h.nb).trans h.k13,hk,h.Lv,h1⟩
end
structure Re (w0 W:World) (z:bV) (l:Ls):Prop where
 dev:z.dev=l.dev
 epoch:z.epoch=l.epoch
 bY:z.bY=l.bY
 last:z.last=l.last
 s:uT w0 W 88 5 z.s.v l.sl.length (aK jm l.sl)
 i:uT w0 W 56 2 z.i.v l.ids.length (aR l.ids)
 u:uT w0 W 3 1 z.u.v l.used.length (bM l.used)
theorem Re.old {w0 W:World} {z:bV} {l:Ls} (h:lW w0 z l):Re w0 W z l:=⟨h.dev,h.epoch,h.bY,h.last,.inl h.s,.inl h.i,.inl h.u⟩
theorem Re.m {w0 W:World} {z:bV} {l:Ls} (h:Re w0 W z l) (hb:Below w0.heap.size w0 W):lW W z l:=⟨h.dev,h.epoch,h.bY,h.last,h.s.sl hb,h.i.sl hb,h.u.sl hb⟩
theorem Re.keep {w0 W W':World} {z:bV} {l:Ls} (h:Re w0 W z l) (hb:Below W.heap.size W W'):Re w0 W' z l:=⟨h.dev,h.epoch,h.bY,h.last,h.s.keep hb,h.i.keep hb,h.u.keep hb⟩
theorem Re.other {w0 W W':World} {z:bV} {l:Ls} {T':TypeId} {g:Nat} {cur:Array Value} {zz:Nat×Nat} (h:Re w0 W z l) (hoth:∀b,b≠g→W'.heap[b]? =W.heap[b]?) (hg:W.heap[g]? =some (.cells cur T' zz)) (h1: 88 ≠T') (h2: 56 ≠T') (h3: 3 ≠T'):Re w0 W' z l:=
 ⟨h.dev,h.epoch,h.bY,h.last,h.s.other hoth hg h1,h.i.other hoth hg h2,h.u.other hoth hg h3⟩
structure Rb (B:Nat) (w0 W:World) (x:bZ) (b:Bk):Prop where
 aZ:Below w0.heap.size w0 W
 rc:uT w0 W 54 7 x.c.v b.cs.length (aK jE b.cs)
 rf:uT w0 W 56 2 x.f.v b.free.length (aR b.free)
 rl:Aq w0 x.l.v b.ls∨ ∃xs:List bV,W.ownsRow B 48 7 x.l.v b.ls.length (aK iZ xs)∧bI (Re w0 W) xs b.ls
 rb:iW w0 x.b.v b.bound
theorem Rb.m {B:Nat} {w0 W:World} {x:bZ} {b:Bk} (h:Rb B w0 W x b):eD W x b:=by
 rcases h.rl with h0 | ⟨xs,h1,h2⟩
 ·exact⟨h.rc.sl h.aZ,h.rf.sl h.aZ,h0.keep h.aZ (aC _),iW.keep h.rb h.aZ (aC _)⟩
 refine⟨h.rc.sl h.aZ,h.rf.sl h.aZ,⟨xs,?_,h2.imp (fun _ _ r=>r.m h.aZ)⟩,iW.keep h.rb h.aZ (aC _)⟩
 show Sl _ _ _ xs.length _
 rw[h2.len]
 exact aI h1
theorem Rb.keep {B:Nat} {w0 W W':World} {x:bZ} {b:Bk} (h:Rb B w0 W x b) (hb:Below W.heap.size W W'):Rb B w0 W' x b:=by
 refine⟨h.aZ.trans (hb.mono h.aZ.size),h.rc.keep hb,h.rf.keep hb,?_,h.rb⟩
 rcases h.rl with h0 | ⟨xs,h1,h2⟩
 ·exact .inl h0
 ·exact .inr ⟨xs,aJ h1 hb (aC _),h2.imp (fun _ _ r=>r.keep hb)⟩
theorem Rb.other {B:Nat} {w0 W W':World} {x:bZ} {b:Bk} {T':TypeId} {g:Nat} {cur:Array Value} {zz:Nat×Nat} (h:Rb B w0 W x b) (hb:Below w0.heap.size w0 W') (hoth:∀b,b≠g→W'.heap[b]? =W.heap[b]?) (hg:W.heap[g]? =some (.cells cur T' zz)) (hB:g<B) (h0: 54 ≠T') (h1: 88 ≠T') (h2: 56 ≠T') (h3: 3 ≠T'):Rb B w0 W' x b:=by
 refine⟨hb,h.rc.other hoth hg h0,h.rf.other hoth hg h2,?_,h.rb⟩
 rcases h.rl with h6 | ⟨xs,h4,h5⟩
 ·exact .inl h6
 ·exact .inr ⟨xs,fF h4 hoth (fun e=>by have:=(h4.lt g e).1;omega),h5.imp (fun _ _ r=>r.other hoth hg h1 h2 h3)⟩
theorem Rb.old {B:Nat} {w0 W:World} {x:bZ} {b:Bk} (h:eD w0 x b) (hb:Below w0.heap.size w0 W):Rb B w0 W x b:=⟨hb,.inl h.c,.inl h.f,.inl h.l,h.b⟩
def lJ (fI w:World) (r:Bk×Ls×Int) (e:Ending) (w':World):Prop:=∃ (x':bZ) (y':bV),e= .returned (.tuple #[fT x',nI y',.int .i64 r.2.2])∧(∃B,w.heap.size≤B∧Rb B fI w' x' r.1)∧iC w' w.heap.size y' r.2.1∧Below w.heap.size w w'
def dR (p q:Nat) (W W':World):Prop:=W'.heap[p]? =W.heap[p]? ∧W'.heap[q]? =W.heap[q]?
set_option maxRecDepth 100000 in
set_option maxHeartbeats 8000000 in
theorem Fg (fI w W:World) (hw:Below fI.heap.size fI w) (gP gJ B:Nat) (r:Bk×Ls×Int) (x0 x:bZ) (y:bV) (h:Gs gP gJ w W x0 x y) (hb:Rb B fI W x r.1) (hp:w.heap.size+1+1<B) (hl:lW W y r.2.1) (hB:wJ r.2.1) (he:r.2.2=0) (u0 u1 u2 u3 u4 u6 u7 u8 u9 u12 u15 u16 u17 u18 u19 u20 u21 u22 u23 u24 u25 u26 u27 u28 u29 u30 u31 u32 u33 u34 u35 u36 u37 u38 u39 u40 u41 u42 u43 u44 u45 u46 u47 u48 u49 u50 u51 u52 u53 u54 u55 u56 u57 u58 u59 u60 u61 u62 u63 u64 u65 u66 u67 u68 u69 u70 u71 u72 u73 u74 u75 u76 u77 u78 u79 u80 u81 u82 u83 u84 u85 u86 u87 u88 u89 u90 u91 u92 u93 u94 u95 u96 u97 u98 u99 u100 u101 u102 u103 u104 u105 u106 u107 u108 u109 u110 u111 u112 u113 u114 u115 u116 u117 u118 u119 u120 u121 u122 u123 u124 u125 u126 u127 u128 u129 u130 u131 u132 u133 u134 u135 u136 u137 u138 u139 u140 u141 u142 u143 u144 u145 u146 u147 u148 u149 u150 u151 u152 u153 u154 u155 u156 u157 u158:Value):
  ∀c,Tryz.f26.body.bind (spine 10)=some c→Code.wp Tryz.prog c (bodyPost Tryz.prog Tryz.f26 (lJ fI w r)) ⟨#[u0,u1,u2,u3,u4,.pointer (some ⟨w.heap.size,0,none⟩),u6,u7,u8,u9,.pointer (some ⟨w.heap.size+1,0,none⟩),.pointer (some ⟨w.heap.size+1+1,0,none⟩),u12,.pointer (some ⟨gP,0,none⟩),.pointer (some ⟨gJ,0,none⟩),u15,u16,u17,u18,u19,u20,u21,u22,u23,u24,u25,u26,u27,u28,u29,u30,u31,u32,u33,u34,u35,u36,u37,u38,u39,u40,u41,u42,u43,u44,u45,u46,u47,u48,u49,u50,u51,u52,u53,u54,u55,u56,u57,u58,u59,u60,u61,u62,u63,u64,u65,u66,u67,u68,u69,u70,u71,u72,u73,u74,u75,u76,u77,u78,u79,u80,u81,u82,u83,u84,u85,u86,u87,u88,u89,u90,u91,u92,u93,u94,u95,u96,u97,u98,u99,u100,u101,u102,u103,u104,u105,u106,u107,u108,u109,u110,u111,u112,u113,u114,u115,u116,u117,u118,u119,u120,u121,u122,u123,u124,u125,u126,u127,u128,u129,u130,u131,u132,u133,u134,u135,u136,u137,u138,u139,u140,u141,u142,u143,u144,u145,u146,u147,u148,u149,u150,u151,u152,u153,u154,u155,u156,u157,u158],[]⟩ W:=by
 refine dH rfl ?_
 obtain⟨⟨ca,cn,cc⟩,⟨fa,aX,fc⟩,⟨la,ln,lc⟩,⟨ba,b_n,bc⟩⟩:=x
 obtain⟨y1,y2,y3,y4,⟨y5,y6,y7⟩,⟨y8,y9,bW⟩,⟨bX,cB,y13⟩⟩:=y
 have HG:=ah h
 have PI:=ah hb
 have AQ:=ah hl
 have pI:=ah hB
 have HE:=ah he
 clear h hb hl hB he
 go_upto_region 24 with fail
 refine aS 5 (dR gP gJ W) (by kernel_rfl) ?_
 have hS0:dR gP gJ W W.drew:=⟨rfl,rfl⟩
 refine aD (i:=0) (v:=.agg #[.slice ca cn cc,.slice fa aX fc,.slice la ln lc,.slice ba b_n bc]) rfl rfl (by kernel_rfl) (by kernel_rfl) (by kernel_rfl) (by kernel_rfl) (by kernel_rfl) (by decide) (fun _ _ _ h=>h) (.inl ⟨rfl,fun w' hw=>?_⟩) hS0 ?_
 ·obtain⟨a0,a1,a2,a3,_⟩:=ay (hw.1.trans HG.out.k13)
  simp only[Sv.v]at a0 a1 a2 a3
  go_simp
 refine aD (i:=1) (v:=.agg #[.int .i64 y1,.int .i64 y2,.int .i64 y3,.int .i64 y4,.slice y5 y6 y7,.slice y8 y9 bW,.slice bX cB y13]) rfl rfl (by kernel_rfl) (by kernel_rfl) (by kernel_rfl) (by kernel_rfl) (by kernel_rfl) (by decide) (fun _ _ _ h=>h) (.inl ⟨rfl,fun w' hw=>?_⟩) hS0 ?_
 ·obtain⟨b0,b1,b2,b3,b4,b5,b6,_⟩:=aB (hw.2.trans HG.out.k14)
  simp only[Sv.v]at b4 b5 b6
  go_simp
 refine aF (i:=2) (by kernel_rfl) rfl rfl ?_
 go_simp
 refine(nM ⟨y1,y2,y3,y4,⟨y5,y6,y7⟩,⟨y8,y9,bW⟩,⟨bX,cB,y13⟩⟩ r.2.1 W.drew (AQ.out.keep (aL _ _).drew (aC _)) pI.out).mono ?_
 rintro e W2 ⟨⟨z1,z2,z3,z4,⟨z5,z6,z7⟩,⟨z8,z9,dD⟩,⟨dI,z12,dJ⟩⟩,rfl,hz,hb2⟩
 have hb2':Below W.heap.size W W2:=(aL W.heap.size W).drew.trans hb2
 have hG2:=HG.out.keep hb2'
 have hS2:dR gP gJ W W2:=⟨hG2.k13.trans HG.out.k13.symm,hG2.k14.trans HG.out.k14.symm⟩
 have HZ:=ah hz
 refine⟨hS2,?_⟩
 have HG2:=ah hG2
 have HB2:=ah hb2'
 obtain⟨a0,a1,a2,a3,_⟩:=ay hG2.k10
 have f0:=aA hG2.k10 0
 have f1:=aA hG2.k10 1
 have f2:=aA hG2.k10 2
 have f3:=aA hG2.k10 3
 have Lv:=hG2.Lv
 have Lx:=hG2.Lx
 clear hz hb2 hb2' hG2
 have iy:Hid (∀c,c≠w.heap.size+1→((((W2.setCell ⟨w.heap.size+1,0,none⟩ (.slice ca cn cc)).setCell ⟨w.heap.size+1,1,none⟩ (.slice fa aX fc)).setCell ⟨w.heap.size+1,2,none⟩ (.slice la ln lc)).setCell ⟨w.heap.size+1,3,none⟩ (.slice ba b_n bc)).heap[c]? =W2.heap[c]?):=ah (fun c hc=>bF W2 (w.heap.size+1) c (fun e=>hc e.symm) _ _ _ _ 0 1 2 3)
 have qZ:Hid (((((W2.setCell ⟨w.heap.size+1,0,none⟩ (.slice ca cn cc)).setCell ⟨w.heap.size+1,1,none⟩ (.slice fa aX fc)).setCell ⟨w.heap.size+1,2,none⟩ (.slice la ln lc)).setCell ⟨w.heap.size+1,3,none⟩ (.slice ba b_n bc)).heap[w.heap.size+1]? =some (.cells #[.slice ca cn cc,.slice fa aX fc,.slice la ln lc,.slice ba b_n bc] 30 (0,0))):=ah (by
  have h6:=HG2.out.k10
  simp[World.setCell,Array.getElem?_modify,h6])
 have HB3:Hid (Below w.heap.size w ((((W2.setCell ⟨w.heap.size+1,0,none⟩ (.slice ca cn cc)).setCell ⟨w.heap.size+1,1,none⟩ (.slice fa aX fc)).setCell ⟨w.heap.size+1,2,none⟩ (.slice la ln lc)).setCell ⟨w.heap.size+1,3,none⟩ (.slice ba b_n bc))):=ah (kS HG2.out.aZ (by omega) _ _ _ _)
 refine aF (i:=3) (by kernel_rfl) rfl rfl ?_
 go_simp
 generalize ((((W2.setCell ⟨w.heap.size+1,0,none⟩ (.slice ca cn cc)).setCell ⟨w.heap.size+1,1,none⟩ (.slice fa aX fc)).setCell ⟨w.heap.size+1,2,none⟩ (.slice la ln lc)).setCell ⟨w.heap.size+1,3,none⟩ (.slice ba b_n bc))=W3 at*
 have pU:dR gP gJ W W3:=⟨(iy.out _ (by omega)).trans hS2.1,(iy.out _ (by omega)).trans hS2.2⟩
 first | refine⟨pU,?_⟩ | skip
 clear a0 a1 a2 a3 f0 f1 f2 f3
 have k11:=(iy.out _ (by omega)).trans HG2.out.k11
 have V8:=ah k11
 obtain⟨b0,b1,b2,b3,b4,b5,b6,_⟩:=aB k11
 have g0:=ak k11 0
 have g1:=ak k11 1
 have g2:=ak k11 2
 have g3:=ak k11 3
 have g4:=ak k11 4
 have g5:=ak k11 5
 have g6:=ak k11 6
 have lM:Hid (∀c,c≠w.heap.size+1+1→(((((((W3.setCell ⟨w.heap.size+1+1,0,none⟩ (.int .i64 z1)).setCell ⟨w.heap.size+1+1,1,none⟩ (.int .i64 z2)).setCell ⟨w.heap.size+1+1,2,none⟩ (.int .i64 z3)).setCell ⟨w.heap.size+1+1,3,none⟩ (.int .i64 z4)).setCell ⟨w.heap.size+1+1,4,none⟩ (.slice z5 z6 z7)).setCell ⟨w.heap.size+1+1,5,none⟩ (.slice z8 z9 dD)).setCell ⟨w.heap.size+1+1,6,none⟩ (.slice dI z12 dJ)).heap[c]? =W3.heap[c]?):=ah (fun c hc=>jf W3 (w.heap.size+1+1) c hc _ _ _ _ _ _ _)
 have BH:Hid ((((((((W3.setCell ⟨w.heap.size+1+1,0,none⟩ (.int .i64 z1)).setCell ⟨w.heap.size+1+1,1,none⟩ (.int .i64 z2)).setCell ⟨w.heap.size+1+1,2,none⟩ (.int .i64 z3)).setCell ⟨w.heap.size+1+1,3,none⟩ (.int .i64 z4)).setCell ⟨w.heap.size+1+1,4,none⟩ (.slice z5 z6 z7)).setCell ⟨w.heap.size+1+1,5,none⟩ (.slice z8 z9 dD)).setCell ⟨w.heap.size+1+1,6,none⟩ (.slice dI z12 dJ)).heap[w.heap.size+1+1]? =some (.cells #[.int .i64 z1,.int .i64 z2,.int .i64 z3,.int .i64 z4,.slice z5 z6 z7,.slice z8 z9 dD,.slice dI z12 dJ] 48 (0,0))):=ah (mV k11 _ _ _ _ _ _ _)
 have jd:Hid (Below w.heap.size w (((((((W3.setCell ⟨w.heap.size+1+1,0,none⟩ (.int .i64 z1)).setCell ⟨w.heap.size+1+1,1,none⟩ (.int .i64 z2)).setCell ⟨w.heap.size+1+1,2,none⟩ (.int .i64 z3)).setCell ⟨w.heap.size+1+1,3,none⟩ (.int .i64 z4)).setCell ⟨w.heap.size+1+1,4,none⟩ (.slice z5 z6 z7)).setCell ⟨w.heap.size+1+1,5,none⟩ (.slice z8 z9 dD)).setCell ⟨w.heap.size+1+1,6,none⟩ (.slice dI z12 dJ))):=ah (zo HB3.out (by omega) _ _ _ _ _ _ _)
 clear k11
 refine aF (i:=4) (by kernel_rfl) rfl rfl ?_
 go_simp
 generalize (((((((W3.setCell ⟨w.heap.size+1+1,0,none⟩ (.int .i64 z1)).setCell ⟨w.heap.size+1+1,1,none⟩ (.int .i64 z2)).setCell ⟨w.heap.size+1+1,2,none⟩ (.int .i64 z3)).setCell ⟨w.heap.size+1+1,3,none⟩ (.int .i64 z4)).setCell ⟨w.heap.size+1+1,4,none⟩ (.slice z5 z6 z7)).setCell ⟨w.heap.size+1+1,5,none⟩ (.slice z8 z9 dD)).setCell ⟨w.heap.size+1+1,6,none⟩ (.slice dI z12 dJ))=W4 at*
 have Ov:dR gP gJ W W4:=⟨(lM.out _ (by omega)).trans pU.1,(lM.out _ (by omega)).trans pU.2⟩
 first | refine⟨Ov,?_⟩ | skip
 clear b0 b1 b2 b3 b4 b5 b6 g0 g1 g2 g3 g4 g5 g6
 refine aF (i:=5) (by kernel_rfl) rfl rfl ?_
 go_simp
 refine aT (by kernel_rfl) ?_
 obtain⟨a0,a1,a2,a3,_⟩:=ay ((lM.out _ (by omega)).trans qZ.out)
 obtain⟨b0,b1,b2,b3,b4,b5,b6,_⟩:=aB BH.out
 go_wp2
 refine bodyPost_ret (v:=.tuple #[.agg #[.slice ca cn cc,.slice fa aX fc,.slice la ln lc,.slice ba b_n bc],.agg #[.int .i64 z1,.int .i64 z2,.int .i64 z3,.int .i64 z4,.slice z5 z6 z7,.slice z8 z9 dD,.slice dI z12 dJ],.int .i64 0]) (by simp[results,Tryz.results26,go_sem, *]) rfl (show lJ _ _ _ _ _ from ?_)
 have hZ4:iC W4 W.heap.size ⟨z1,z2,z3,z4,⟨z5,z6,z7⟩,⟨z8,z9,dD⟩,⟨dI,z12,dJ⟩⟩ r.2.1:=by
  have h0:=HZ.out
  have h1:iC W3 W.heap.size _ r.2.1:=h0.other iy.out HG2.out.k10 (by decide) (by decide) (by decide)
  exact h1.other lM.out V8.out (by decide) (by decide) (by decide)
 have hR4:Rb B fI W4 ⟨⟨ca,cn,cc⟩,⟨fa,aX,fc⟩,⟨la,ln,lc⟩,⟨ba,b_n,bc⟩⟩ r.1:=by
  have h0:=PI.out.keep HB2.out
  have h1:Rb B fI W3 _ r.1:=h0.other (hw.trans (HB3.out.mono hw.size)) iy.out HG2.out.k10 (by omega) (by decide) (by decide) (by decide) (by decide)
  exact h1.other (hw.trans (jd.out.mono hw.size)) lM.out V8.out (by omega) (by decide) (by decide) (by decide) (by decide)
 exact⟨⟨⟨ca,cn,cc⟩,⟨fa,aX,fc⟩,⟨la,ln,lc⟩,⟨ba,b_n,bc⟩⟩,⟨z1,z2,z3,z4,⟨z5,z6,z7⟩,⟨z8,z9,dD⟩,⟨dI,z12,dJ⟩⟩,by rw[HE.out],⟨B,by omega,hR4⟩,hZ4.base HG.out.aZ.size,jd.out⟩
end Go.Proofs.YtlfopoimbbpfdaaGreat
namespace Go.Proofs.YtlfopoimbbpfdaaGreat
open Go.RowKit
attribute [local go_sem ↓] Go.wp_at_zero Go.wp_at_succ
set_option maxRecDepth 100000 in
set_option maxHeartbeats 8000000 in
theorem Fh (fI w W:World) (hw:Below fI.heap.size fI w) (gP gJ k:Nat) (b:Bk) (l:Ls) (x0 x:bZ) (y:bV) (h:Gs gP gJ w W x0 x y) (hr:Rr fI W x b y l) (hB:wJ l) (hn:b.ls.length<10000) (hk:mF l.dev b.ls=k) (u0 u1 u2 u3 u4 u6 u7 u8 u9 u12 u15 u16 u17 u18 u19 u21 u22 u23 u24 u25 u26 u27 u28 u29 u30 u31 u32 u33 u34 u35 u36 u37 u38 u39 u40 u41 u42 u43 u44 u45 u46 u47 u48 u49 u50 u51 u52 u53 u54 u55 u56 u57 u58 u59 u60 u61 u62 u63 u64 u65 u66 u67 u68 u69 u70 u71 u72 u73 u74 u75 u76 u77 u78 u79 u80 u81 u82 u83 u84 u85 u86 u87 u88 u89 u90 u91 u92 u93 u94 u95 u96 u97 u98 u99 u100 u101 u102 u103 u104 u105 u106 u107 u108 u109 u110 u111 u112 u113 u114 u115 u116 u117 u118 u119 u120 u121 u122 u123 u124 u125 u126 u127 u128 u129 u130 u131 u132 u133 u134 u135 u136 u137 u138 u139 u140 u141 u142 u143 u144 u145 u146 u147 u148 u149 u150 u151 u152 u153 u154 u155 u156 u157 u158:Value):
  ∀c,Tryz.f26.body.bind (spine 7)=some c→Code.wp Tryz.prog c (bodyPost Tryz.prog Tryz.f26 (lJ fI w (⟨b.cs,b.free,og l b.ls,b.bound⟩,l,0))) ⟨#[u0,u1,u2,u3,u4,.pointer (some ⟨w.heap.size,0,none⟩),u6,u7,u8,u9,.pointer (some ⟨w.heap.size+1,0,none⟩),.pointer (some ⟨w.heap.size+1+1,0,none⟩),u12,.pointer (some ⟨gP,0,none⟩),.pointer (some ⟨gJ,0,none⟩),u15,u16,u17,u18,u19,.int .i64 k,u21,u22,u23,u24,u25,u26,u27,u28,u29,u30,u31,u32,u33,u34,u35,u36,u37,u38,u39,u40,u41,u42,u43,u44,u45,u46,u47,u48,u49,u50,u51,u52,u53,u54,u55,u56,u57,u58,u59,u60,u61,u62,u63,u64,u65,u66,u67,u68,u69,u70,u71,u72,u73,u74,u75,u76,u77,u78,u79,u80,u81,u82,u83,u84,u85,u86,u87,u88,u89,u90,u91,u92,u93,u94,u95,u96,u97,u98,u99,u100,u101,u102,u103,u104,u105,u106,u107,u108,u109,u110,u111,u112,u113,u114,u115,u116,u117,u118,u119,u120,u121,u122,u123,u124,u125,u126,u127,u128,u129,u130,u131,u132,u133,u134,u135,u136,u137,u138,u139,u140,u141,u142,u143,u144,u145,u146,u147,u148,u149,u150,u151,u152,u153,u154,u155,u156,u157,u158],[]⟩ W:=by
 refine dH rfl ?_
 obtain⟨⟨ca,cn,cc⟩,⟨fa,aX,fc⟩,⟨la,ln,lc⟩,⟨ba,b_n,bc⟩⟩:=x
 obtain⟨y1,y2,y3,y4,⟨y5,y6,y7⟩,⟨y8,y9,bW⟩,⟨bX,cB,y13⟩⟩:=y
 have HG:=ah h
 have HR:=ah hr
 have pI:=ah hB
 have HN:=ah hn
 have HKK:=ah hk
 obtain⟨xs,hx,hxa⟩:=hr.rl
 simp only[Sv.v]at hx
 obtain⟨q3,g3,g4⟩:=Sl.lens (s:=⟨la,ln,lc⟩) hx
 simp only at q3 g3 g4
 subst q3
 have q_:=ah hxa
 have xq:=ah (cK.rd hx)
 have TW:=ah hxa.len
 have hxl:xs.length<10000:=by have:=hxa.len;omega
 have hkx:k≤xs.length:=by have:=Gf l.dev b.ls;have:=hxa.len;omega
 have hcap:xs.length≤lc:=g3
 obtain⟨inf,eX,hz0,hz1,hz2⟩:=info_parts Tryz.oL
 have AV:=ah (And.intro eX hz1)
 have Lv:=h.Lv
 have Lx:=h.Lx
 have hsz:=(bg h.k13).1
 obtain⟨d0,d1,d2,d3,_⟩:=ay h.k13
 simp only[Sv.v]at d0 d1 d2 d3
 have hki:(k:Int)≤xs.length:=by omega
 have hk0:(0:Int)≤(k:Int):=by omega
 have I9:Hid ((xs.take k).length=k):=ah (by rw[List.length_take];omega)
 have VQ:Hid ((xs.drop k).length=xs.length-k):=ah List.length_drop
 clear h hr hB hn hk hx hxa eX hz0 hz1 hz2 g3
 go_upto_region 22 with first
  | ((with_reducible refine aY 143 ?_);refine jh rfl _ _ 27 rfl 48 inf 7 Tryz.underlying27 AV.out.1 AV.out.2 la xs.length lc k (aK iZ xs) rfl rfl (by omega) ((xq.out.keep HR.out.aZ (aC _)).alloc _) ?_;intro a1 ha1;rw[sw]at ha1)
  | ((with_reducible refine aY 144 ?_);refine iO rfl _ _ rfl W.heap.size _ 0 [] rfl (cO _ _ _ _ 7 #[] 0 rfl (aC _) (by omega) rfl) a1 k lc (xs.take k) rfl I9.out ha1 (by omega) (by simp) ?_;intro v3 w3 ho3 hg3 j_)
 rw[Nat.zero_add,List.nil_append]at ho3
 have hb3:Below W.heap.size W w3:=fB hg3
 have iy:=ah ho3
 have Gc:=ah (HG.out.keep hb3)
 have HR3:=ah (HR.out.keep hb3)
 have hz3:W.heap.size≤w3.heap.size:=hb3.size
 clear ho3 hg3 j_ ha1 d0 d1 d2 d3
 obtain⟨e0,e1,e2,e3,e4,e5,e6,_⟩:=aB Gc.out.k14
 simp only[Sv.v]at e4 e5 e6
 have HNK:Hid (w3.alloc (.cells #[.int .i64 y1,.int .i64 y2,.int .i64 y3,.int .i64 y4,.slice y5 y6 y7,.slice y8 y9 bW,.slice bX cB y13] 48)=w3.alloc (.cells #[.int .i64 y1,.int .i64 y2,.int .i64 y3,.int .i64 y4,.slice y5 y6 y7,.slice y8 y9 bW,.slice bX cB y13] 48)∧Rd (w3.alloc (.cells #[.int .i64 y1,.int .i64 y2,.int .i64 y3,.int .i64 y4,.slice y5 y6 y7,.slice y8 y9 bW,.slice bX cB y13] 48)) (some ⟨w3.heap.size,0,none⟩) (aK iZ [⟨y1,y2,y3,y4,⟨y5,y6,y7⟩,⟨y8,y9,bW⟩,⟨bX,cB,y13⟩⟩])):=ah ⟨rfl,fun j u hj=>by
  refine⟨⟨w3.heap.size,0,none⟩,rfl,?_⟩
  have e:(⟨w3.heap.size,0,none⟩:Addr).add j=⟨w3.heap.size,j,none⟩:=by
   cases j with
   | zero=>rfl
   | succ j=>simp[Addr.add]
  rw[e]
  simp only[World.cell?,heap_alloc_new]
  simpa[aK,iZ]using hj⟩
 go_upto_region 23 with((with_reducible refine aY 148 ?_);refine iO rfl _ _ rfl W.heap.size v3 k (xs.take k) rfl (aJ iy.out ((aL w3.heap.size w3).alloc (aC _) _) (aC _)) (some ⟨w3.heap.size,0,none⟩) 1 1 [⟨y1,y2,y3,y4,⟨y5,y6,y7⟩,⟨y8,y9,bW⟩,⟨bX,cB,y13⟩⟩] rfl rfl HNK.out.2 (by omega) (by simp;omega) ?_;intro v4 w4 iD hg4 iq)
 have hb4:Below W.heap.size W w4:=(hb3.alloc hz3 _).grown hg4 (by simp;omega) (fun g hg=>(iy.out.lt g hg).1)
 have lM:=ah iD
 have rJ:=ah (HG.out.keep hb4)
 have HR4:=ah (HR.out.keep hb4)
 have jT:W.heap.size≤w4.heap.size:=hb4.size
 clear iD hg4 iq HNK e0 e1 e2 e3 e4 e5 e6 Gc HR3 iy hb3
 obtain⟨d0,d1,d2,d3,_⟩:=ay rJ.out.k13
 have f2:=aA rJ.out.k13 2
 simp only[Sv.v]at d0 d1 d2 d3
 go_cut[] (fun wx=>∃x',Gs gP gJ w wx x0 x' ⟨y1,y2,y3,y4,⟨y5,y6,y7⟩,⟨y8,y9,bW⟩,⟨bX,cB,y13⟩⟩∧Rb W.heap.size fI wx x' ⟨b.cs,b.free,og l b.ls,b.bound⟩∧lW wx ⟨y1,y2,y3,y4,⟨y5,y6,y7⟩,⟨y8,y9,bW⟩,⟨bX,cB,y13⟩⟩ l)
 case rest=>
  obtain⟨x',hg,hrb,hls⟩:=hcut
  go_step
  exact Fg fI w _ hw gP gJ W.heap.size (⟨b.cs,b.free,og l b.ls,b.bound⟩,l,0) x0 x' _ hg hrb (by omega) hls pI.out rfl _ _ _ _ _ _ _ _ _ _ _ _ _ _ _ _ _ _ _ _ _ _ _ _ _ _ _ _ _ _ _ _ _ _ _ _ _ _ _ _ _ _ _ _ _ _ _ _ _ _ _ _ _ _ _ _ _ _ _ _ _ _ _ _ _ _ _ _ _ _ _ _ _ _ _ _ _ _ _ _ _ _ _ _ _ _ _ _ _ _ _ _ _ _ _ _ _ _ _ _ _ _ _ _ _ _ _ _ _ _ _ _ _ _ _ _ _ _ _ _ _ _ _ _ _ _ _ _ _ _ _ _ _ _ _ _ _ _ _ _ _ _ _ _ _ _ _ _ _ _ _ _ _ _ _ rfl
 case first=>
 go_wp2_with first
  | ((with_reducible refine aY 153 ?_);refine f_ rfl _ _ 27 rfl 48 inf 7 Tryz.underlying27 AV.out.1 AV.out.2 la xs.length lc k (aK iZ xs) rfl rfl (by omega) hcap (xq.out.keep HR4.out.aZ (aC _)) (bL iB _) ?_;intro a2 ha2;rw[sD]at ha2)
  | ((with_reducible refine aY 154 ?_);refine iO rfl _ _ rfl W.heap.size v4 (k+1) _ rfl lM.out a2 (xs.length-k) (lc-k) (xs.drop k) rfl VQ.out ha2 (by omega) jT ?_;intro v5 w5 fQ hg5 kP;obtain⟨uI,zm,rfl,_,_⟩:=aP fQ;have hb5:Below W.heap.size W w5:=hb4.grown hg5 jT (fun g hg=>(lM.out.lt g hg).1);have uN:=ah (HG.out.keep hb5);obtain⟨d0,d1,d2,d3,_⟩:=ay uN.out.k13;have f2:=aA uN.out.k13 2)
 go_meet
 have hoth:∀c,c≠gP→(w5.setCell ⟨gP,2,none⟩ (.slice uI (k+1+(xs.length-k)) zm)).heap[c]? =w5.heap[c]? :=fun c hc=>aW _ _ _ (fun e=>hc e.symm) _
 have hbs:Below w.heap.size w (w5.setCell ⟨gP,2,none⟩ (.slice uI (k+1+(xs.length-k)) zm)):=uN.out.aZ.setCell (by show _≤gP;omega) _
 have hR5:=HR.out.keep hb5
 have hRs:=hR5.other (hw.trans (hbs.mono hw.size)) hoth uN.out.k13 (by decide) (by decide) (by decide)
 refine⟨⟨⟨ca,cn,cc⟩,⟨fa,aX,fc⟩,⟨uI,k+1+(xs.length-k),zm⟩,⟨ba,b_n,bc⟩⟩,uN.out.LA hbs hoth (jq uN.out.k13 _),⟨hRs.aZ,hRs.rc,hRs.rf,.inr ⟨xs.take k++⟨y1,y2,y3,y4,⟨y5,y6,y7⟩,⟨y8,y9,bW⟩,⟨bX,cB,y13⟩⟩::xs.drop k,?_,?_⟩,hRs.rb⟩,hRs.ls⟩
 ·have h9:=fF fQ hoth (fun e=>by have:=(fQ.lt gP e).1;omega)
  have hl:(og l b.ls).length=k+1+(xs.length-k):=by
   unfold og
   rw[HKK.out]
   have:=TW.out
   rw[List.length_append,List.length_cons,List.length_take,List.length_drop]
   omega
  show World.ownsRow _ _ _ _ (.slice uI (k+1+(xs.length-k)) zm) (og l b.ls).length _
  rw[hl]
  rw[List.append_assoc]at h9
  exact h9
 ·unfold og
  rw[HKK.out]
  have hold:bI (Re fI (w5.setCell ⟨gP,2,none⟩ (.slice uI (k+1+(xs.length-k)) zm))) xs b.ls:=q_.out.imp (fun _ _ r=>Re.old r)
  exact(hold.take k).append ⟨⟨hRs.dev,hRs.epoch,hRs.bY,hRs.last,hRs.rs,hRs.ri,.inl hRs.ru⟩,hold.drop k⟩
end Go.Proofs.YtlfopoimbbpfdaaGreat
namespace Go.Proofs.YtlfopoimbbpfdaaGreat
open Go.RowKit
attribute [local go_sem ↓] Go.wp_at_zero Go.wp_at_succ
set_option maxRecDepth 100000 in
set_option maxHeartbeats 8000000 in
theorem LC (fI w W:World) (hw:Below fI.heap.size fI w) (gP gJ:Nat) (dev:Int) (b:Bk) (l:Ls) (x0 x:bZ) (y:bV) (h:Gs gP gJ w W x0 x y) (hr:Rr fI W x b y l) (hB:wJ l) (hn:b.ls.length<10000) (hd:l.dev=dev) (u0 u2 u3 u4 u6 u7 u8 u9 u12 u15 u16 u17 u18 u19 u20 u21 u22 u23 u24 u25 u26 u27 u28 u29 u30 u31 u32 u33 u34 u35 u36 u37 u38 u39 u40 u41 u42 u43 u44 u45 u46 u47 u48 u49 u50 u51 u52 u53 u54 u55 u56 u57 u58 u59 u60 u61 u62 u63 u64 u65 u66 u67 u68 u69 u70 u71 u72 u73 u74 u75 u76 u77 u78 u79 u80 u81 u82 u83 u84 u85 u86 u87 u88 u89 u90 u91 u92 u93 u94 u95 u96 u97 u98 u99 u100 u101 u102 u103 u104 u105 u106 u107 u108 u109 u110 u111 u112 u113 u114 u115 u116 u117 u118 u119 u120 u121 u122 u123 u124 u125 u126 u127 u128 u129 u130 u131 u132 u133 u134 u135 u136 u137 u138 u139 u140 u141 u142 u143 u144 u145 u146 u147 u148 u149 u150 u151 u152 u153 u154 u155 u156 u157 u158:Value):
  ∀c,Tryz.f26.body.bind (spine 5)=some c→Code.wp Tryz.prog c (bodyPost Tryz.prog Tryz.f26 (lJ fI w (⟨b.cs,b.free,og l b.ls,b.bound⟩,l,0))) ⟨#[u0,.int .i64 dev,u2,u3,u4,.pointer (some ⟨w.heap.size,0,none⟩),u6,u7,u8,u9,.pointer (some ⟨w.heap.size+1,0,none⟩),.pointer (some ⟨w.heap.size+1+1,0,none⟩),u12,.pointer (some ⟨gP,0,none⟩),.pointer (some ⟨gJ,0,none⟩),u15,u16,u17,u18,u19,u20,u21,u22,u23,u24,u25,u26,u27,u28,u29,u30,u31,u32,u33,u34,u35,u36,u37,u38,u39,u40,u41,u42,u43,u44,u45,u46,u47,u48,u49,u50,u51,u52,u53,u54,u55,u56,u57,u58,u59,u60,u61,u62,u63,u64,u65,u66,u67,u68,u69,u70,u71,u72,u73,u74,u75,u76,u77,u78,u79,u80,u81,u82,u83,u84,u85,u86,u87,u88,u89,u90,u91,u92,u93,u94,u95,u96,u97,u98,u99,u100,u101,u102,u103,u104,u105,u106,u107,u108,u109,u110,u111,u112,u113,u114,u115,u116,u117,u118,u119,u120,u121,u122,u123,u124,u125,u126,u127,u128,u129,u130,u131,u132,u133,u134,u135,u136,u137,u138,u139,u140,u141,u142,u143,u144,u145,u146,u147,u148,u149,u150,u151,u152,u153,u154,u155,u156,u157,u158],[]⟩ W:=by
 refine dH rfl ?_
 obtain⟨⟨ca,cn,cc⟩,⟨fa,aX,fc⟩,⟨la,ln,lc⟩,⟨ba,b_n,bc⟩⟩:=x
 have HG:=ah h
 have HR:=ah hr
 have pI:=ah hB
 have HN:=ah hn
 have HD:=ah hd
 obtain⟨xs,hx,hxa⟩:=hr.rl
 simp only[Sv.v]at hx
 obtain⟨q3,g3,g4⟩:=Sl.lens (s:=⟨la,ln,lc⟩) hx
 simp only at q3 g3 g4
 subst q3
 have HX:=ah hx
 have q_:=ah hxa
 have hxl:xs.length<10000:=by have:=hxa.len;omega
 have hxe:xs.length=b.ls.length:=hxa.len
 obtain⟨d0,d1,d2,d3,_⟩:=ay h.k13
 simp only[Sv.v]at d0 d1 d2 d3
 clear h hr hB hn hd hx hxa
 go_upto_block 2 with fail
 go_cut[20] (fun v20 wx=>v20= .int .i64 (mF l.dev b.ls)∧wx=W)
 case rest=>
  obtain⟨rfl,hwc⟩:=hcut
  rw[hwc]
  go_step
  exact Fh fI w _ hw gP gJ _ b l x0 _ y HG.out HR.out pI.out HN.out rfl _ _ _ _ _ _ _ _ _ _ _ _ _ _ _ _ _ _ _ _ _ _ _ _ _ _ _ _ _ _ _ _ _ _ _ _ _ _ _ _ _ _ _ _ _ _ _ _ _ _ _ _ _ _ _ _ _ _ _ _ _ _ _ _ _ _ _ _ _ _ _ _ _ _ _ _ _ _ _ _ _ _ _ _ _ _ _ _ _ _ _ _ _ _ _ _ _ _ _ _ _ _ _ _ _ _ _ _ _ _ _ _ _ _ _ _ _ _ _ _ _ _ _ _ _ _ _ _ _ _ _ _ _ _ _ _ _ _ _ _ _ _ _ _ _ _ _ _ _ _ _ _ _ _ rfl
 case first=>
 go_wp2
 go_loop[20] (fun v20=>∃k:Nat,k≤xs.length∧v20= .int .i64 k∧(∀j (hj:j<b.ls.length),j<k→b.ls[j].dev<dev)) (fun v20=>xs.length-(intOf v20).toNat)
 case atStart=>exact⟨0,Nat.zero_le _,rfl,fun j _ hj=>by omega⟩
 case round=>
  obtain⟨k,hk,rfl,hj⟩:=hrel
  have HJ:=ah hj
  clear hj
  have k0:(0:Int)≤(k:Int):=by omega
  by_cases hlt:k<xs.length
  ·have iG:(k:Int)<xs.length:=by omega
   obtain⟨lb,lo,rfl,hbl,c0,-⟩:=cK.ls HX.out HR.out.aZ (aC _) k hlt
   have hat:=(q_.out.at k hlt (by omega)).dev
   rw[hat]at c0
   by_cases hq:b.ls[k].dev<dev
   ·have wE:Hid (∀j (hj:j<b.ls.length),j<k+1→b.ls[j].dev<dev):=ah (fun j hj hjk=>by
     by_cases nJ:j=k
     ·subst nJ;exact hq
     ·exact HJ.out j hj (by omega))
    generalize b.ls[k].dev=dk at*
    clear hat HJ
    go_wp2
    go_round
    case rel=>exact⟨k+1,by omega,by go_num,wE.out⟩
    case measure=>simp[intOf];omega
   ·have HK:Hid (mF l.dev b.ls=k):=ah (vQ (by omega) (fun j hj hjk=>by rw[HD.out];exact HJ.out j hj hjk) (fun _=>by rw[HD.out];exact hq))
    generalize b.ls[k].dev=dk at*
    clear hat HJ
    go_wp2
    go_meet
    exact⟨by rw[HK.out],rfl⟩
  ·have HK:Hid (mF l.dev b.ls=k):=ah (vQ (by omega) (fun j hj hjk=>by rw[HD.out];exact HJ.out j hj hjk) (fun h=>absurd h (by omega)))
   have iG:¬ (k:Int)<xs.length:=by omega
   clear HJ
   go_wp2
   go_meet
   exact⟨by rw[HK.out],rfl⟩
end Go.Proofs.YtlfopoimbbpfdaaGreat
namespace Go.Proofs.YtlfopoimbbpfdaaGreat
open Go.RowKit
theorem Jd (fI:World) (x:bZ) (b:Bk) (y:bV) (l:Ls) (wn:Wn) (w:World) (hr:Rr fI w x b y l) (hw:Dz b l wn):
  Calls Tryz.prog 78 #[fT x,nI y,O5 wn] w (jC fI w b l wn):=by
 by_cases hc:fK b wn=0
 ·exact Lr fI x b y l wn w hr hw hc
 ·exact Lu fI x b y l wn w hr hw hc
structure RI (b:Bk):Prop where
 nc:b.cs.length<1000
 nf:b.free.length<1000
 nl:b.ls.length<10000
 fr:cZ b.free
 ct:ET 2199023255552 b.cs
 key:∀c∈b.cs,emp c.key=false
structure M7 (i:Nat) (b0:Bk) (l0:Ls) (pre:List Wn) (b:Bk) (l:Ls):Prop where
 n:Ij i b0 l0 b l
 fr:cZ b.free
 row:cZ l.ids
 key:∀c∈b.cs,emp c.key=false
 sub:∀s∈l.sl,∃p∈pre,p.key=s.key
theorem M7.zero {b:Bk} {d ep un:Int} (h:RI b):M7 0 b (newL d ep un) [] b (newL d ep un):=
 ⟨Ij.zero h.fr.1 h.ct,h.fr,rowP_nil,h.key,fun _ hs=>by simp[newL]at hs⟩
theorem M7.aaM {i:Nat} {b0 b:Bk} {l0 l:Ls} {pre:List Wn} {w:Wn} (h:M7 i b0 l0 pre b l) (h0:RI b0) (hi:i<5) (hn:pre.any (fun x=>decide (x.key=w.key))=false):Dz b l w:=by
 have h1:=h.n.nc
 have h2:=h.n.nf
 have h3:=h.n.ni
 have h4:=h.n.ns
 have h5:=h0.nc
 have h6:=h0.nf
 have:i*b0.free.length≤5*b0.free.length:=Nat.mul_le_mul_right _ (by omega)
 refine⟨by omega,by omega,by omega,by omega,h.key,fun _ s hs e=>?_,h.fr,h.row,h.n.ct⟩
 obtain⟨p,hp,hk⟩:=h.sub s hs
 rw[List.any_eq_false]at hn
 exact hn p hp (by simp[hk,e])
theorem LG {b:Bk} {w:Wn} (hk:∀c∈b.cs,emp c.key=false) (h0:¬bH b.cs w.key<0):emp (jo b w).key=false:=by
 rcases bQ (fun c:Ct=>decide (c.key=w.key)) b.cs with⟨hi,_⟩ | ⟨k,hkk,hi,_,_⟩
 ·exact absurd (by rw[show bH b.cs w.key= -1 from hi];decide) h0
 ·have e:jo b w=b.cs[k]:=by unfold jo;rw[show bH b.cs w.key=k from hi];simp[List.getD,List.getElem?_eq_getElem hkk]
  rw[e]
  exact hk _ (List.getElem_mem hkk)
theorem M7.step {i:Nat} {b0 b:Bk} {l0 l:Ls} {pre:List Wn} {w:Wn} (h:M7 i b0 l0 pre b l) (hw:dB b w=0):M7 (i+1) b0 l0 (pre++ [w]) (gy b w) (iE b l w):=by
 have hC:fK b w=0:=by
  unfold dB at hw
  split at hw
  ·assumption
  ·exact hw
 have hle:w.ids≤bR b.free:=by
  unfold dB at hw
  rw[if_pos hC]at hw
  split at hw
  ·cases hw
  ·omega
 obtain⟨hB,hk⟩:=gI hC
 obtain⟨⟨u1,u2⟩,⟨d1,d2⟩,i1,i2⟩:=AL hB
 obtain⟨t1,t2,_⟩:=qE b.free w.ids i1 hle h.fr
 refine⟨h.n.step hw,t2,xP _ h.row t1,?_,?_⟩
 ·unfold gy;simp only
  rcases hk with hk | ⟨hk,h0,_,_⟩
  ·rw[if_pos hk];exact h.key
  ·rw[if_neg (by rw[hk];simp)]
   intro c hc
   rcases List.mem_or_eq_of_mem_set hc with hc | rfl
   ·exact h.key c hc
   ·exact LG h.key h0
 ·unfold iE;simp only
  intro s hs
  split at hs
  ·obtain⟨p,hp,e⟩:=h.sub s hs
   exact⟨p,List.mem_append_left _ hp,e⟩
  ·rcases List.mem_append.1 hs with hs | hs
   ·obtain⟨p,hp,e⟩:=h.sub s hs
    exact⟨p,List.mem_append_left _ hp,e⟩
   ·simp only[List.mem_singleton]at hs
    subst hs
    exact⟨w,by simp,rfl⟩
end Go.Proofs.YtlfopoimbbpfdaaGreat
