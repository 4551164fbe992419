/- What the law asks, in parts: YA Held2 Held3 HeldD. -/
import Derived.Deep.DrawnRows
import Derived.Test.YtlfopoimbbpfdaaGreatPk23
import Derived.Test.YtlfopoimbbpfdaaGreatPk24
import Derived.Test.YtlfopoimbbpfdaaGreatPk3
set_option linter.all false
set_option maxRecDepth 100000
set_option maxHeartbeats 16000000
namespace Go.Proofs.YtlfopoimbbpfdaaGreat
open Go.RowKit
section
attribute [local go_sem ↓] Go.wp_at_zero Go.wp_at_succ
theorem oW {B:Nat} {w W:World} (h:Below B w W) {p:Nat} (hp:B≤p) (a b c d:Value):Below B w ((((W.setCell ⟨p,0,none⟩ a).setCell ⟨p,1,none⟩ b).setCell ⟨p,2,none⟩ c).setCell ⟨p,3,none⟩ d):=(((h.setCell hp _).setCell hp _).setCell hp _).setCell hp _
theorem CR {B:Nat} {w W:World} (h:Below B w W) {p:Nat} (hp:B≤p) (a b c d e f g:Value):Below B w (((((((W.setCell ⟨p,0,none⟩ a).setCell ⟨p,1,none⟩ b).setCell ⟨p,2,none⟩ c).setCell ⟨p,3,none⟩ d).setCell ⟨p,4,none⟩ e).setCell ⟨p,5,none⟩ f).setCell ⟨p,6,none⟩ g):=((((((h.setCell hp _).setCell hp _).setCell hp _).setCell hp _).setCell hp _).setCell hp _).setCell hp _
structure Gs (jd iK:Nat) (w W:World) (x0 x:dN) (y:cB):Prop where
 bC:Below w.heap.size w W
 k5:W.heap[w.heap.size]? =some (.cells #[x0.c.v,x0.f.v,x0.l.v,x0.b.v] 30 (0,0))
 k10:W.heap[w.heap.size+1]? =some (.cells #[.slice none 0 0,.slice none 0 0,.slice none 0 0,.slice none 0 0] 30 (0,0))
 k11:W.heap[w.heap.size+1+1]? =some (.cells #[.int .i64 0,.int .i64 0,.int .i64 0,.int .i64 0,.slice none 0 0,.slice none 0 0,.slice none 0 0] 48 (0,0))
 k13:W.heap[jd]? =some (.cells #[x.c.v,x.f.v,x.l.v,x.b.v] 30 (0,0))
 k14:W.heap[iK]? =some (.cells #[.int .i64 y.dev,.int .i64 y.epoch,.int .i64 y.bU,.int .i64 y.last,y.s.v,y.i.v,y.u.v] 48 (0,0))
 Qy:w.heap.size+1+1<jd
 Qz:w.heap.size+1+1<iK
section
variable {jd iK:Nat} {w W W':World} {x0 x x':dN} {y y':cB}
theorem Gs.keep (h:Gs jd iK w W x0 x y) (hb:Below W.heap.size W W'):Gs jd iK w W' x0 x y:=
 ⟨h.bC.trans (hb.mono h.bC.size),aj h.k5 hb (bq h.k5).1,aj h.k10 hb (bq h.k10).1,aj h.k11 hb (bq h.k11).1,aj h.k13 hb (bq h.k13).1,aj h.k14 hb (bq h.k14).1,h.Qy,h.Qz⟩
theorem Gs.nb (h:Gs jd iK w W x0 x y):jd≠iK:=fun e=>by
 have h1:=h.k13;rw[e,h.k14]at h1;injection h1 with h1;injection h1 with _ h1 _;exact absurd h1 (by decide)
theorem Gs.QA (h:Gs jd iK w W x0 x y) (hb:Below w.heap.size w W') (aK:∀c,c≠jd→W'.heap[c]? =W.heap[c]?) (hk:W'.heap[jd]? =some (.cells #[x'.c.v,x'.f.v,x'.l.v,x'.b.v] 30 (0,0))):Gs jd iK w W' x0 x' y:=by
 have h1:=h.Qy;exact⟨hb,(aK _ (by omega)).trans h.k5,(aK _ (by omega)).trans h.k10,(aK _ (by omega)).trans h.k11,hk,(aK _ (fun e=>h.nb e.symm)).trans h.k14,h1,h.Qz⟩
theorem Gs.Xe (h:Gs jd iK w W x0 x y) (hb:Below w.heap.size w W') (aK:∀c,c≠iK→W'.heap[c]? =W.heap[c]?) (hk:W'.heap[iK]? =some (.cells #[.int .i64 y'.dev,.int .i64 y'.epoch,.int .i64 y'.bU,.int .i64 y'.last,y'.s.v,y'.i.v,y'.u.v] 48 (0,0))):Gs jd iK w W' x0 x y':=by
 have h1:=h.Qz;exact⟨hb,(aK _ (by omega)).trans h.k5,(aK _ (by omega)).trans h.k10,(aK _ (by omega)).trans h.k11,(aK _ h.nb).trans h.k13,hk,h.Qy,h1⟩
end
structure Re (w0 W:World) (z:cB) (l:Ls):Prop where
 dev:z.dev=l.dev
 epoch:z.epoch=l.epoch
 bU:z.bU=l.bU
 last:z.last=l.last
 s:Ab w0 W 88 5 z.s.v l.sl.length (aJ jL l.sl)
 i:Ab w0 W 56 2 z.i.v l.ids.length (aR l.ids)
 u:Ab w0 W 3 1 z.u.v l.used.length (bS l.used)
theorem Re.old {w0 W:World} {z:cB} {l:Ls} (h:nV w0 z l):Re w0 W z l:=⟨h.dev,h.epoch,h.bU,h.last,.inl h.s,.inl h.i,.inl h.u⟩
theorem Re.m {w0 W:World} {z:cB} {l:Ls} (h:Re w0 W z l) (hb:Below w0.heap.size w0 W):nV W z l:=⟨h.dev,h.epoch,h.bU,h.last,h.s.sl hb,h.i.sl hb,h.u.sl hb⟩
theorem Re.keep {w0 W W':World} {z:cB} {l:Ls} (h:Re w0 W z l) (hb:Below W.heap.size W W'):Re w0 W' z l:=⟨h.dev,h.epoch,h.bU,h.last,h.s.keep hb,h.i.keep hb,h.u.keep hb⟩
theorem Re.other {w0 W W':World} {z:cB} {l:Ls} {T':TypeId} {g:Nat} {cur:Array Value} {zz:Nat×Nat} (h:Re w0 W z l) (aK:∀b,b≠g→W'.heap[b]? =W.heap[b]?) (hg:W.heap[g]? =some (.cells cur T' zz)) (h1: 88 ≠T') (h2: 56 ≠T') (h3: 3 ≠T'):Re w0 W' z l:=
 ⟨h.dev,h.epoch,h.bU,h.last,h.s.other aK hg h1,h.i.other aK hg h2,h.u.other aK hg h3⟩
structure Rb (B:Nat) (w0 W:World) (x:dN) (b:Bk):Prop where
 bC:Below w0.heap.size w0 W
 rc:Ab w0 W 54 7 x.c.v b.cs.length (aJ kY b.cs)
 rf:Ab w0 W 56 2 x.f.v b.free.length (aR b.free)
 rl:Ei w0 x.l.v b.ls∨ ∃xs:List cB,W.ownsRow B 48 7 x.l.v b.ls.length (aJ j_ xs)∧bN (Re w0 W) xs b.ls
 rb:jv w0 x.b.v b.bound
theorem Rb.keep {B:Nat} {w0 W W':World} {x:dN} {b:Bk} (h:Rb B w0 W x b) (hb:Below W.heap.size W W'):Rb B w0 W' x b:=by
 refine⟨h.bC.trans (hb.mono h.bC.size),h.rc.keep hb,h.rf.keep hb,?_,h.rb⟩;rcases h.rl with h0 | ⟨xs,h1,h2⟩
 ·exact .inl h0
 ·exact .inr ⟨xs,aI h1 hb (aC _),h2.imp (fun _ _ r=>r.keep hb)⟩
theorem Rb.other {B:Nat} {w0 W W':World} {x:dN} {b:Bk} {T':TypeId} {g:Nat} {cur:Array Value} {zz:Nat×Nat} (h:Rb B w0 W x b) (hb:Below w0.heap.size w0 W') (aK:∀b,b≠g→W'.heap[b]? =W.heap[b]?) (hg:W.heap[g]? =some (.cells cur T' zz)) (hB:g<B) (h0: 54 ≠T') (h1: 88 ≠T') (h2: 56 ≠T') (h3: 3 ≠T'):Rb B w0 W' x b:=by
 refine⟨hb,h.rc.other aK hg h0,h.rf.other aK hg h2,?_,h.rb⟩;rcases h.rl with h6 | ⟨xs,h4,h5⟩
 ·exact .inl h6
 ·exact .inr ⟨xs,gT h4 aK (fun e=>by have:=(h4.lt g e).1;omega),h5.imp (fun _ _ r=>r.other aK hg h1 h2 h3)⟩
theorem Rb.old {B:Nat} {w0 W:World} {x:dN} {b:Bk} (h:iA w0 x b) (hb:Below w0.heap.size w0 W):Rb B w0 W x b:=⟨hb,.inl h.c,.inl h.f,.inl h.l,h.b⟩
def oJ (gW w:World) (r:Bk×Ls×Int) (e:Ending) (w':World):Prop:=∃ (x':dN) (y':cB),e= .returned (.tuple #[iJ x',o9 y',.int .i64 r.2.2])∧(∃B,w.heap.size≤B∧Rb B gW w' x' r.1)∧jF w' w.heap.size y' r.2.1∧Below w.heap.size w w'
def gG (p q:Nat) (W W':World):Prop:=W'.heap[p]? =W.heap[p]? ∧W'.heap[q]? =W.heap[q]?
theorem JR (gW w W:World) (hw:Below gW.heap.size gW w) (jd iK B:Nat) (r:Bk×Ls×Int) (x0 x:dN) (y:cB) (h:Gs jd iK w W x0 x y) (hb:Rb B gW W x r.1) (hp:w.heap.size+1+1<B) (hl:nV W y r.2.1) (hB:Ap r.2.1) (he:r.2.2=0) {u0 u1 u2 u3 u4 u6 u7 u8 u9 u12 u15 u16 u17 u18 u19 u20 u21 u22 u23 u24 u25 u26 u27 u28 u29 u30 u31 u32 u33 u34 u35 u36 u37 u38 u39 u40 u41 u42 u43 u44 u45 u46 u47 u48 u49 u50 u51 u52 u53 u54 u55 u56 u57 u58 u59 u60 u61 u62 u63 u64 u65 u66 u67 u68 u69 u70 u71 u72 u73 u74 u75 u76 u77 u78 u79 u80 u81 u82 u83 u84 u85 u86 u87 u88 u89 u90 u91 u92 u93 u94 u95 u96 u97 u98 u99 u100 u101 u102 u103 u104 u105 u106 u107 u108 u109 u110 u111 u112 u113 u114 u115 u116 u117 u118 u119 u120 u121 u122 u123 u124 u125 u126 u127 u128 u129 u130 u131 u132 u133 u134 u135 u136 u137 u138 u139 u140 u141 u142 u143 u144 u145 u146 u147 u148 u149 u150 u151 u152 u153 u154 u155 u156 u157 u158:Value}:
  ∀c,Tryz.f26.body.bind (spine 10)=some c→Code.wp Tryz.prog c (bodyPost Tryz.prog Tryz.f26 (oJ gW w r)) ⟨#[u0,u1,u2,u3,u4,.pointer (some ⟨w.heap.size,0,none⟩),u6,u7,u8,u9,.pointer (some ⟨w.heap.size+1,0,none⟩),.pointer (some ⟨w.heap.size+1+1,0,none⟩),u12,.pointer (some ⟨jd,0,none⟩),.pointer (some ⟨iK,0,none⟩),u15,u16,u17,u18,u19,u20,u21,u22,u23,u24,u25,u26,u27,u28,u29,u30,u31,u32,u33,u34,u35,u36,u37,u38,u39,u40,u41,u42,u43,u44,u45,u46,u47,u48,u49,u50,u51,u52,u53,u54,u55,u56,u57,u58,u59,u60,u61,u62,u63,u64,u65,u66,u67,u68,u69,u70,u71,u72,u73,u74,u75,u76,u77,u78,u79,u80,u81,u82,u83,u84,u85,u86,u87,u88,u89,u90,u91,u92,u93,u94,u95,u96,u97,u98,u99,u100,u101,u102,u103,u104,u105,u106,u107,u108,u109,u110,u111,u112,u113,u114,u115,u116,u117,u118,u119,u120,u121,u122,u123,u124,u125,u126,u127,u128,u129,u130,u131,u132,u133,u134,u135,u136,u137,u138,u139,u140,u141,u142,u143,u144,u145,u146,u147,u148,u149,u150,u151,u152,u153,u154,u155,u156,u157,u158],[]⟩ W:=by
 refine dP rfl ?_
 obtain⟨⟨ca,cn,cc⟩,⟨fa,bD,fc⟩,⟨la,ln,lc⟩,⟨ba,bE,bc⟩⟩:=x;obtain⟨y1,y2,y3,y4,⟨y5,y6,y7⟩,⟨y8,y9,dz⟩,⟨dA,dJ,cK⟩⟩:=y;have HG:=ah h;have UU:=ah hb;have EF:=ah hl;have uj:=ah hB;have HE:=ah he;clear h hb hl hB he;go_upto_region 24 with fail
 refine aW 5 (gG jd iK W) (by kernel_rfl) ?_;have aQ:gG jd iK W W.drew:=⟨rfl,rfl⟩;refine aP (i:=0) (v:=.agg #[.slice ca cn cc,.slice fa bD fc,.slice la ln lc,.slice ba bE bc]) rfl rfl (by kernel_rfl) (fun _ _ _ h=>h) (.inl ⟨rfl,fun w' hw=>?_⟩) aQ ?_
 ·obtain⟨a0,a1,a2,a3,_⟩:=ay (hw.1.trans HG.out.k13)
  simp only[Sv.v]at a0 a1 a2 a3;go_simp
 refine aP (i:=1) (v:=.agg #[.int .i64 y1,.int .i64 y2,.int .i64 y3,.int .i64 y4,.slice y5 y6 y7,.slice y8 y9 dz,.slice dA dJ cK]) rfl rfl (by kernel_rfl) (fun _ _ _ h=>h) (.inl ⟨rfl,fun w' hw=>?_⟩) aQ ?_
 ·obtain⟨b0,b1,b2,b3,b4,b5,b6,_⟩:=aB (hw.2.trans HG.out.k14)
  simp only[Sv.v]at b4 b5 b6;go_simp
 refine aD (i:=2) (by kernel_rfl) rfl rfl ?_;go_simp;refine(qY ⟨y1,y2,y3,y4,⟨y5,y6,y7⟩,⟨y8,y9,dz⟩,⟨dA,dJ,cK⟩⟩ r.2.1 W.drew (EF.out.keep (aL _ _).drew (aC _)) uj.out).mono ?_;rintro e W2 ⟨⟨z1,z2,z3,z4,⟨z5,z6,z7⟩,⟨z8,z9,dK⟩,⟨dU,eZ,dQ⟩⟩,rfl,hz,bO⟩;have hb2':Below W.heap.size W W2:=(aL W.heap.size W).drew.trans bO;have hG2:=HG.out.keep hb2';have dF:gG jd iK W W2:=⟨hG2.k13.trans HG.out.k13.symm,hG2.k14.trans HG.out.k14.symm⟩;have HZ:=ah hz;refine⟨dF,?_⟩;have rA:=ah hG2;have jI:=ah hb2';obtain⟨a0,a1,a2,a3,_⟩:=ay hG2.k10;have f0:=aA hG2.k10 0;have f1:=aA hG2.k10 1;have f2:=aA hG2.k10 2;have f3:=aA hG2.k10 3;have Qy:=hG2.Qy;have Qz:=hG2.Qz;clear hz bO hb2' hG2;have j5:Hid (∀c,c≠w.heap.size+1→((((W2.setCell ⟨w.heap.size+1,0,none⟩ (.slice ca cn cc)).setCell ⟨w.heap.size+1,1,none⟩ (.slice fa bD fc)).setCell ⟨w.heap.size+1,2,none⟩ (.slice la ln lc)).setCell ⟨w.heap.size+1,3,none⟩ (.slice ba bE bc)).heap[c]? =W2.heap[c]?):=ah (fun c hc=>bM W2 (w.heap.size+1) c (fun e=>hc e.symm) _ _ _ _ 0 1 2 3)
 have wD:Hid (((((W2.setCell ⟨w.heap.size+1,0,none⟩ (.slice ca cn cc)).setCell ⟨w.heap.size+1,1,none⟩ (.slice fa bD fc)).setCell ⟨w.heap.size+1,2,none⟩ (.slice la ln lc)).setCell ⟨w.heap.size+1,3,none⟩ (.slice ba bE bc)).heap[w.heap.size+1]? =some (.cells #[.slice ca cn cc,.slice fa bD fc,.slice la ln lc,.slice ba bE bc] 30 (0,0))):=ah (by
  have h6:=rA.out.k10
  simp[World.setCell,Array.getElem?_modify,h6])
 have lI:Hid (Below w.heap.size w ((((W2.setCell ⟨w.heap.size+1,0,none⟩ (.slice ca cn cc)).setCell ⟨w.heap.size+1,1,none⟩ (.slice fa bD fc)).setCell ⟨w.heap.size+1,2,none⟩ (.slice la ln lc)).setCell ⟨w.heap.size+1,3,none⟩ (.slice ba bE bc))):=ah (oW rA.out.bC (by omega) _ _ _ _);refine aD (i:=3) (by kernel_rfl) rfl rfl ?_;go_simp;generalize ((((W2.setCell ⟨w.heap.size+1,0,none⟩ (.slice ca cn cc)).setCell ⟨w.heap.size+1,1,none⟩ (.slice fa bD fc)).setCell ⟨w.heap.size+1,2,none⟩ (.slice la ln lc)).setCell ⟨w.heap.size+1,3,none⟩ (.slice ba bE bc))=W3 at*;have qh:gG jd iK W W3:=⟨(j5.out _ (by omega)).trans dF.1,(j5.out _ (by omega)).trans dF.2⟩;first | refine⟨qh,?_⟩ | skip
 clear a0 a1 a2 a3 f0 f1 f2 f3;have k11:=(j5.out _ (by omega)).trans rA.out.k11;have aaz:=ah k11;obtain⟨b0,b1,b2,b3,b4,b5,b6,_⟩:=aB k11;have g0:=ak k11 0;have g1:=ak k11 1;have g2:=ak k11 2;have g3:=ak k11 3;have g4:=ak k11 4;have g5:=ak k11 5;have g6:=ak k11 6;have sH:Hid (∀c,c≠w.heap.size+1+1→(((((((W3.setCell ⟨w.heap.size+1+1,0,none⟩ (.int .i64 z1)).setCell ⟨w.heap.size+1+1,1,none⟩ (.int .i64 z2)).setCell ⟨w.heap.size+1+1,2,none⟩ (.int .i64 z3)).setCell ⟨w.heap.size+1+1,3,none⟩ (.int .i64 z4)).setCell ⟨w.heap.size+1+1,4,none⟩ (.slice z5 z6 z7)).setCell ⟨w.heap.size+1+1,5,none⟩ (.slice z8 z9 dK)).setCell ⟨w.heap.size+1+1,6,none⟩ (.slice dU eZ dQ)).heap[c]? =W3.heap[c]?):=ah (fun c hc=>kC W3 (w.heap.size+1+1) c hc _ _ _ _ _ _ _);have KW:Hid ((((((((W3.setCell ⟨w.heap.size+1+1,0,none⟩ (.int .i64 z1)).setCell ⟨w.heap.size+1+1,1,none⟩ (.int .i64 z2)).setCell ⟨w.heap.size+1+1,2,none⟩ (.int .i64 z3)).setCell ⟨w.heap.size+1+1,3,none⟩ (.int .i64 z4)).setCell ⟨w.heap.size+1+1,4,none⟩ (.slice z5 z6 z7)).setCell ⟨w.heap.size+1+1,5,none⟩ (.slice z8 z9 dK)).setCell ⟨w.heap.size+1+1,6,none⟩ (.slice dU eZ dQ)).heap[w.heap.size+1+1]? =some (.cells #[.int .i64 z1,.int .i64 z2,.int .i64 z3,.int .i64 z4,.slice z5 z6 z7,.slice z8 z9 dK,.slice dU eZ dQ] 48 (0,0))):=ah (qy k11 _ _ _ _ _ _ _);have lC:Hid (Below w.heap.size w (((((((W3.setCell ⟨w.heap.size+1+1,0,none⟩ (.int .i64 z1)).setCell ⟨w.heap.size+1+1,1,none⟩ (.int .i64 z2)).setCell ⟨w.heap.size+1+1,2,none⟩ (.int .i64 z3)).setCell ⟨w.heap.size+1+1,3,none⟩ (.int .i64 z4)).setCell ⟨w.heap.size+1+1,4,none⟩ (.slice z5 z6 z7)).setCell ⟨w.heap.size+1+1,5,none⟩ (.slice z8 z9 dK)).setCell ⟨w.heap.size+1+1,6,none⟩ (.slice dU eZ dQ))):=ah (CR lI.out (by omega) _ _ _ _ _ _ _);clear k11;refine aD (i:=4) (by kernel_rfl) rfl rfl ?_;go_simp;generalize (((((((W3.setCell ⟨w.heap.size+1+1,0,none⟩ (.int .i64 z1)).setCell ⟨w.heap.size+1+1,1,none⟩ (.int .i64 z2)).setCell ⟨w.heap.size+1+1,2,none⟩ (.int .i64 z3)).setCell ⟨w.heap.size+1+1,3,none⟩ (.int .i64 z4)).setCell ⟨w.heap.size+1+1,4,none⟩ (.slice z5 z6 z7)).setCell ⟨w.heap.size+1+1,5,none⟩ (.slice z8 z9 dK)).setCell ⟨w.heap.size+1+1,6,none⟩ (.slice dU eZ dQ))=W4 at*;have Hz:gG jd iK W W4:=⟨(sH.out _ (by omega)).trans qh.1,(sH.out _ (by omega)).trans qh.2⟩;first | refine⟨Hz,?_⟩ | skip
 clear b0 b1 b2 b3 b4 b5 b6 g0 g1 g2 g3 g4 g5 g6;refine aD (i:=5) (by kernel_rfl) rfl rfl ?_;go_simp;refine aU (by kernel_rfl) ?_;obtain⟨a0,a1,a2,a3,_⟩:=ay ((sH.out _ (by omega)).trans wD.out);obtain⟨b0,b1,b2,b3,b4,b5,b6,_⟩:=aB KW.out;go_wp2;refine bodyPost_ret (v:=.tuple #[.agg #[.slice ca cn cc,.slice fa bD fc,.slice la ln lc,.slice ba bE bc],.agg #[.int .i64 z1,.int .i64 z2,.int .i64 z3,.int .i64 z4,.slice z5 z6 z7,.slice z8 z9 dK,.slice dU eZ dQ],.int .i64 0]) (by simp[results,Tryz.results26,go_sem, *]) rfl (show oJ _ _ _ _ _ from ?_)
 have hZ4:jF W4 W.heap.size ⟨z1,z2,z3,z4,⟨z5,z6,z7⟩,⟨z8,z9,dK⟩,⟨dU,eZ,dQ⟩⟩ r.2.1:=by
  have h0:=HZ.out;have h1:jF W3 W.heap.size _ r.2.1:=h0.other j5.out rA.out.k10 (by decide) (by decide) (by decide);exact h1.other sH.out aaz.out (by decide) (by decide) (by decide)
 have hR4:Rb B gW W4 ⟨⟨ca,cn,cc⟩,⟨fa,bD,fc⟩,⟨la,ln,lc⟩,⟨ba,bE,bc⟩⟩ r.1:=by
  have h0:=UU.out.keep jI.out;have h1:Rb B gW W3 _ r.1:=h0.other (hw.trans (lI.out.mono hw.size)) j5.out rA.out.k10 (by omega) (by decide) (by decide) (by decide) (by decide);exact h1.other (hw.trans (lC.out.mono hw.size)) sH.out aaz.out (by omega) (by decide) (by decide) (by decide) (by decide)
 exact⟨⟨⟨ca,cn,cc⟩,⟨fa,bD,fc⟩,⟨la,ln,lc⟩,⟨ba,bE,bc⟩⟩,⟨z1,z2,z3,z4,⟨z5,z6,z7⟩,⟨z8,z9,dK⟩,⟨dU,eZ,dQ⟩⟩,by rw[HE.out],⟨B,by omega,hR4⟩,hZ4.base HG.out.bC.size,lC.out⟩
end
section
variable {P:Program} {ops:Array Oper} {Q:Exit→Act→World→Prop} {md:Region.Mode} {S:World→Prop} {s:Nat}
def iI (P:Program) (ops:Array Oper) (S:World→Prop) (o:Oper) (v:Value) (a:Act):Prop:=
 Region.wanted o (yielded ops a.tmps)=true∧ ∃fn args,(∀w,S w→(execOp a.eval o).run P w= .ok (.enter fn args) w)∧ ∀w,S w→Calls P fn args w fun e w'=>e= .returned v∧w'=w
theorem iI.wpOp {i:Nat} {o:Oper} {v:Value} {a:Act} (hi:ops[i]? =some o) (hy:iI P ops S o v a)
  {K:Act→World→Prop} {w:World} (hS:S w) (h:K (a.put o.dst v) w):wpOp P ops Q i K a w:=by
 unfold Go.wpOp;simp only[hi];obtain⟨hw,fn,args,h1,h2⟩:=hy;simp only[hw,if_true,Oper.wp,h1 w hS,Oper.upon];refine .inl ((h2 w hS).mono ?_);rintro e w' ⟨rfl,rfl⟩;exact h
theorem iI.of_same {o:Oper} {v:Value} {a a':Act} (hy:iI P ops S o v a) (he:execOp a'.eval o=execOp a.eval o)
  (hw:Region.wanted o (yielded ops a'.tmps)=Region.wanted o (yielded ops a.tmps)):iI P ops S o v a':=by
 unfold iI at*;rw[he,hw];exact hy
theorem yE {j:Nat} {oi oj:Oper} {v:Value} (hj:ops[j]? =some oj) (ou:oi.apart ops oj=true)
  (hsi:∀cs b,oi.op≠ .select cs b) (hsj:∀cs b,oj.op≠ .select cs b)
  (hQ:∀c a w,Q (.panic c) (a.put oi.dst v) w→Q (.panic c) a w) {K:Act→World→Prop} {a:Act} {w:World}
  (hy:iI P ops S oi v a) (h:wpOp P ops Q j K (a.put oi.dst v) w):
  wpOp P ops Q j (fun a' w'=>iI P ops S oi v a'∧K (a'.put oi.dst v) w') a w:=by
 obtain⟨h1,h2,h3⟩:=Oper.apart_spec ou
 have keep:∀ (a:Act),iI P ops S oi v a→ ∀u,iI P ops S oi v (a.put oj.dst u):=fun a hy u=>
  hy.of_same (execOp_put oi hsi a oj.dst u h3) (wanted_put oi a oj.dst u h3)
 have keepD:∀d,iI P ops S oi v { a with defers:=d::a.defers }:=fun d=>hy.of_same rfl rfl
 unfold wpOp at*;simp only[hj]at*;rw[wanted_put oj a oi.dst v h1]at h
 split
 ·rename_i hw
  simp only[hw,if_true]at h;rcases h with h | ⟨hasks,hlets⟩
  case inr=>exact .inr ⟨by unfold Oper.asks at *;rw[execOp_put oj hsj a oi.dst v h1]at hasks;exact hasks,hlets⟩
  refine .inl ?_;unfold Oper.wp at*;rw[execOp_put oj hsj a oi.dst v h1]at h;generalize (execOp a.eval oj).run P w=r at*
  cases r with
  | ok n w'=>
   cases n<;>simp only[Oper.upon]at h⊢
   case value u=>exact⟨keep a hy u,by rw[←Act.put_comm a v u h2];exact h⟩
   case skip=>exact⟨keep a hy _,by rw[←Act.put_comm a v undef h2];exact h⟩
   case defer d=>
    refine⟨keep _ (keepD d) _,?_⟩;rw[←Act.put_comm _ v undef h2,←Act.put_defers];exact h
   case enter f args=>
    refine Calls.mono h fun e w'' he=>?_
    cases e with
    | returned u=>exact⟨keep a hy u,by rw[←Act.put_comm a v u h2];exact he⟩
    | panicked c=>exact hQ _ _ _ he
    | outgrown=>exact he
   case row row args=>exact Rows.mono h fun u w'' he=>⟨keep a hy u,by rw[←Act.put_comm a v u h2];exact he⟩
  | halt x w'=>
   cases x<;>simp only[Oper.upon]at h⊢
   case panic u=>exact hQ _ _ _ h
 ·rename_i hw
  simp only[hw]at h;exact⟨keep a hy _,by rw[←Act.put_comm a v undef h2];exact h⟩
theorem H8 {i:Nat} {oi os:Oper} {v:Value} (hi:ops[i]? =some oi) (jT:∀ (j:Nat) (o:Oper) cs b,ops[j]? =some o→o.op≠ .select cs b)
  (hQ:∀c a w,Q (.panic c) (a.put oi.dst v) w→Q (.panic c) a w) (hos:ops[s]? =some os) (nP:∃e∈os.after,Region.binds md e=true∧e.on=i) (eP:i≠s):
  ∀ (n:Nat) (l:Array Bool) (a:Act) (w:World),
   (∀j oj,ops[j]? =some oj→j≠i→l.getD j true=false→(∀e∈oj.after,Region.binds md e=true→e.on≠i)→oi.apart ops oj=true)→
   i∈Region.ready md ops l→l.getD s true=false→iI P ops S oi v a→S w→
   iV P md ops Q S s n (l.setIfInBounds i true) (a.put oi.dst v) w→iV P md ops Q S s (n+1) l a w:=by
 intro n
 induction n with
 | zero=>
  intro l a w _ hr _ hy hS H;refine⟨fun h=>(by rw[h]at hr;cases hr),fun j hj=>?_⟩;by_cases hji:j=i
  ·subst hji;exact hy.wpOp hi hS ⟨fun _=>hS,H⟩
  ·have h1:=ready_mono hj hji
   rw[H.1]at h1
   cases h1
 | succ n ih=>
  intro l a w o_ hr qo hy hS H;refine⟨fun h=>(by rw[h]at hr;cases hr),fun j hj=>?_⟩;by_cases hji:j=i
  ·subst hji;exact hy.wpOp hi hS ⟨fun _=>hS,H⟩
  have nJ:=(mem_ready.1 hr).1
  have Eo:l.getD i false≠true:=by
   intro h;rcases Nat.lt_or_ge i l.size with bA | gX
   ·simp[bA]at nJ h;rw[nJ]at h;cases h
   ·simp[Array.getElem?_eq_none gX]at h
  obtain⟨lq,oj,nX,gY⟩:=mem_ready.1 hj
  have hjs:j≠s:=by
   rintro rfl;rw[hos]at nX;injection nX with nX;subst nX;obtain⟨e,he,hb,Cn⟩:=nP;exact Eo (Cn▸gY e he hb)
  have hnot:∀e∈oj.after,Region.binds md e=true→e.on≠i:=fun e he hb Cn=>Eo (Cn▸gY e he hb)
  have h2:=yE nX (o_ j oj nX hji lq hnot) (fun cs b=>jT i oi cs b hi) (fun cs b=>jT j oj cs b nX) hQ hy (H.2 j (ready_mono hj hji));refine wpOp_mono (fun a' w' k=>?_) h2;have hc:((l.setIfInBounds i true).setIfInBounds j true).getD s true=false:=by rw[getD_set_ne true hjs,getD_set_ne true eP];exact qo
  have hSw:=k.2.1 hc;refine⟨fun _=>hSw,ih (l.setIfInBounds j true) a' w' (fun q oq hq hqi KT SK=>?_) (ready_mono hr (Ne.symm hji)) (by rw[getD_set_ne true hjs];exact qo) k.1 hSw ?_⟩
  ·refine o_ q oq hq hqi ?_ SK
   by_cases F7:j=q
   ·subst F7;exact lq
   ·rw[getD_set_ne true F7]at KT;exact KT
  ·rw[Array.setIfInBounds_comm _ _ hji];exact k.2.2
theorem yF {i:Nat} {oi os:Oper} {v:Value} {n:Nat} {l:Array Bool} {a:Act} {w:World} (hi:ops[i]? =some oi) (hos:ops[s]? =some os) (jT:Region.noSelect ops=true)
  (hf:Region.free md ops l i=true) (hr:(Region.ready md ops l).contains i=true) (qo:l.getD s true=false) (nP:os.after.any (fun e=>Region.binds md e&&e.on==i)=true) (eP:i≠s)
  (hQ:∀c a w,Q (.panic c) (a.put oi.dst v) w→Q (.panic c) a w) (hy:iI P ops S oi v a) (hS:S w)
  (h:iV P md ops Q S s n (l.setIfInBounds i true) (a.put oi.dst v) w):iV P md ops Q S s (n+1) l a w:=by
 refine H8 hi (Region.noSelect_spec jT) hQ hos ?_ eP n l a w (Region.free_spec hi hf) (by simpa using hr) qo hy hS h;rw[Array.any_eq_true']at nP;obtain⟨e,he,hh⟩:=nP;rw[Bool.and_eq_true]at hh;exact⟨e,he,hh.1,by simpa using hh.2⟩
theorem vK {n:Nat} {l:Array Bool} {a:Act} {w:World} {F:World→Prop} (hF:F w) (h:∀V,F V→iV P md ops Q S s n l a V):iV P md ops Q S s n l a w:=h w hF
end
section
variable {P:Program} {ops:Array Oper} {Q:Exit→Act→World→Prop} {md:Region.Mode} {S:World→Prop} {s:Nat}
theorem JU {i:Nat} {oi:Oper} {v:Value} (hi:ops[i]? =some oi) (jT:∀ (j:Nat) (o:Oper) cs b,ops[j]? =some o→o.op≠ .select cs b)
  (hQ:∀c a w,Q (.panic c) (a.put oi.dst v) w→Q (.panic c) a w) (eP:i≠s):
  ∀ (n:Nat) (l:Array Bool) (a:Act) (w:World),
   (∀j oj,ops[j]? =some oj→j≠i→l.getD j true=false→(∀e∈oj.after,Region.binds md e=true→e.on≠i)→oi.apart ops oj=true)→
   i∈Region.ready md ops l→YieldsIf P ops (fun _=>True) oi v a→(l.getD s true=false→S w)→
   iV P md ops Q S s n (l.setIfInBounds i true) (a.put oi.dst v) w→iV P md ops Q S s (n+1) l a w:=by
 intro n
 induction n with
 | zero=>
  intro l a w _ hr hy hS H;refine⟨fun h=>(by rw[h]at hr;cases hr),fun j hj=>?_⟩;by_cases hji:j=i
  ·subst hji;exact hy.wpOp hi trivial ⟨fun h=>hS (by rw[getD_set_ne true eP]at h;exact h),H⟩
  ·have h1:=ready_mono hj hji
   rw[H.1]at h1
   cases h1
 | succ n ih=>
  intro l a w o_ hr hy hS H;refine⟨fun h=>(by rw[h]at hr;cases hr),fun j hj=>?_⟩;by_cases hji:j=i
  ·subst hji;exact hy.wpOp hi trivial ⟨fun h=>hS (by rw[getD_set_ne true eP]at h;exact h),H⟩
  have nJ:=(mem_ready.1 hr).1
  have Eo:l.getD i false≠true:=by
   intro h;rcases Nat.lt_or_ge i l.size with bA | gX
   ·simp[bA]at nJ h;rw[nJ]at h;cases h
   ·simp[Array.getElem?_eq_none gX]at h
  obtain⟨lq,oj,nX,gY⟩:=mem_ready.1 hj;have hnot:∀e∈oj.after,Region.binds md e=true→e.on≠i:=fun e he hb Cn=>Eo (Cn▸gY e he hb)
  have h2:=wpOp_putIf nX (o_ j oj nX hji lq hnot) (fun cs b=>jT i oi cs b hi) (fun cs b=>jT j oj cs b nX) hQ hy (H.2 j (ready_mono hj hji));refine wpOp_mono (fun a' w' k=>?_) h2
  have hsame:((l.setIfInBounds i true).setIfInBounds j true).getD s true=(l.setIfInBounds j true).getD s true:=by
   rw[←Array.setIfInBounds_comm _ _ hji,getD_set_ne true eP]
  have hSw:(l.setIfInBounds j true).getD s true=false→S w':=fun h=>k.2.1 (by rw[hsame];exact h)
  refine⟨hSw,ih (l.setIfInBounds j true) a' w' (fun q oq hq hqi KT SK=>?_) (ready_mono hr (Ne.symm hji)) k.1 hSw ?_⟩
  ·refine o_ q oq hq hqi ?_ SK
   by_cases F7:j=q
   ·subst F7;exact lq
   ·rw[getD_set_ne true F7]at KT;exact KT
  ·rw[Array.setIfInBounds_comm _ _ hji];exact k.2.2
theorem H9 {i:Nat} {oi:Oper} {v:Value} (hi:ops[i]? =some oi) (jT:∀ (j:Nat) (o:Oper) cs b,ops[j]? =some o→o.op≠ .select cs b)
  (hQ:∀c a w,Q (.panic c) (a.put oi.dst v) w→Q (.panic c) a w) (eP:i≠s):
  ∀ (n:Nat) (l:Array Bool) (a:Act) (w:World),
   (∀j oj,ops[j]? =some oj→j≠i→l.getD j true=false→(∀e∈oj.after,Region.binds md e=true→e.on≠i)→oi.apart ops oj=true)→
   i∈Region.ready md ops l→iI P ops (fun _=>True) oi v a→(l.getD s true=false→S w)→
   iV P md ops Q S s n (l.setIfInBounds i true) (a.put oi.dst v) w→iV P md ops Q S s (n+1) l a w:=by
 intro n
 induction n with
 | zero=>
  intro l a w _ hr hy hS H;refine⟨fun h=>(by rw[h]at hr;cases hr),fun j hj=>?_⟩;by_cases hji:j=i
  ·subst hji;exact hy.wpOp hi trivial ⟨fun h=>hS (by rw[getD_set_ne true eP]at h;exact h),H⟩
  ·have h1:=ready_mono hj hji
   rw[H.1]at h1
   cases h1
 | succ n ih=>
  intro l a w o_ hr hy hS H;refine⟨fun h=>(by rw[h]at hr;cases hr),fun j hj=>?_⟩;by_cases hji:j=i
  ·subst hji;exact hy.wpOp hi trivial ⟨fun h=>hS (by rw[getD_set_ne true eP]at h;exact h),H⟩
  have nJ:=(mem_ready.1 hr).1
  have Eo:l.getD i false≠true:=by
   intro h;rcases Nat.lt_or_ge i l.size with bA | gX
   ·simp[bA]at nJ h;rw[nJ]at h;cases h
   ·simp[Array.getElem?_eq_none gX]at h
  obtain⟨lq,oj,nX,gY⟩:=mem_ready.1 hj;have hnot:∀e∈oj.after,Region.binds md e=true→e.on≠i:=fun e he hb Cn=>Eo (Cn▸gY e he hb)
  have h2:=yE nX (o_ j oj nX hji lq hnot) (fun cs b=>jT i oi cs b hi) (fun cs b=>jT j oj cs b nX) hQ hy (H.2 j (ready_mono hj hji));refine wpOp_mono (fun a' w' k=>?_) h2
  have hsame:((l.setIfInBounds i true).setIfInBounds j true).getD s true=(l.setIfInBounds j true).getD s true:=by
   rw[←Array.setIfInBounds_comm _ _ hji,getD_set_ne true eP]
  have hSw:(l.setIfInBounds j true).getD s true=false→S w':=fun h=>k.2.1 (by rw[hsame];exact h)
  refine⟨hSw,ih (l.setIfInBounds j true) a' w' (fun q oq hq hqi KT SK=>?_) (ready_mono hr (Ne.symm hji)) k.1 hSw ?_⟩
  ·refine o_ q oq hq hqi ?_ SK
   by_cases F7:j=q
   ·subst F7;exact lq
   ·rw[getD_set_ne true F7]at KT;exact KT
  ·rw[Array.setIfInBounds_comm _ _ hji];exact k.2.2
theorem NN {i:Nat} {oi:Oper} {v:Value} {n:Nat} {l:Array Bool} {a:Act} {w:World} (hi:ops[i]? =some oi) (jT:Region.noSelect ops=true)
  (hf:Region.free md ops l i=true) (hr:(Region.ready md ops l).contains i=true) (eP:i≠s)
  (hQ:∀c a w,Q (.panic c) (a.put oi.dst v) w→Q (.panic c) a w) (hy:YieldsIf P ops (fun _=>True) oi v a) (hS:S w)
  (h:iV P md ops Q S s n (l.setIfInBounds i true) (a.put oi.dst v) w):iV P md ops Q S s (n+1) l a w:=
 JU hi (Region.noSelect_spec jT) hQ eP n l a w (Region.free_spec hi hf) (by simpa using hr) hy (fun _=>hS) h
theorem fq {i:Nat} {oi:Oper} {v:Value} {n:Nat} {l:Array Bool} {a:Act} {w:World} (hi:ops[i]? =some oi) (jT:Region.noSelect ops=true)
  (hf:Region.free md ops l i=true) (hr:(Region.ready md ops l).contains i=true) (eP:i≠s)
  (hQ:∀c a w,Q (.panic c) (a.put oi.dst v) w→Q (.panic c) a w) (hy:iI P ops (fun _=>True) oi v a) (hS:S w)
  (h:iV P md ops Q S s n (l.setIfInBounds i true) (a.put oi.dst v) w):iV P md ops Q S s (n+1) l a w:=
 H9 hi (Region.noSelect_spec jT) hQ eP n l a w (Region.free_spec hi hf) (by simpa using hr) hy (fun _=>hS) h
theorem JV {i j k:Nat} {oi oj ok:Oper} {n:Nat} {l:Array Bool} {a:Act} {w:World} (hr:Region.ready md ops l= [i,j,k]) (hi:ops[i]? =some oi) (hj:ops[j]? =some oj) (hk:ops[k]? =some ok) (hgi:oi.guard=none) (hgj:oj.guard=none) (hgk:ok.guard=none)
  (h1:Oper.wp P oi a w (fun a' w'=>((l.setIfInBounds i true).getD s true=false→S w')∧iV P md ops Q S s n (l.setIfInBounds i true) a' w') Q)
  (h2:Oper.wp P oj a w (fun a' w'=>((l.setIfInBounds j true).getD s true=false→S w')∧iV P md ops Q S s n (l.setIfInBounds j true) a' w') Q)
  (h3:Oper.wp P ok a w (fun a' w'=>((l.setIfInBounds k true).getD s true=false→S w')∧iV P md ops Q S s n (l.setIfInBounds k true) a' w') Q):iV P md ops Q S s (n+1) l a w:=by
 refine⟨fun h0=>(by rw[hr]at h0;cases h0),fun q hq=>?_⟩;rw[hr]at hq;have:q=i∨q=j∨q=k:=by simpa using hq
 rcases this with rfl | rfl | rfl
 ·unfold wpOp
  simp only[hi];rw[if_pos (by simp[Region.wanted,hgi])];exact .inl h1
 ·unfold wpOp
  simp only[hj];rw[if_pos (by simp[Region.wanted,hgj])];exact .inl h2
 ·unfold wpOp
  simp only[hk];rw[if_pos (by simp[Region.wanted,hgk])];exact .inl h3
theorem n_ {i:Nat} {oi:Oper} {n:Nat} {l:Array Bool} {a:Act} {w:World} (hr:Region.ready md ops l= [i]) (hi:ops[i]? =some oi) (hg:Region.wanted oi (yielded ops a.tmps)=true)
  (h:Oper.wp P oi a w (fun a' w'=>((l.setIfInBounds i true).getD s true=false→S w')∧iV P md ops Q S s n (l.setIfInBounds i true) a' w') Q):iV P md ops Q S s (n+1) l a w:=by
 refine⟨fun h0=>(by rw[hr]at h0;cases h0),fun j hj=>?_⟩;rw[hr]at hj;have:j=i:=by simpa using hj
 subst this;unfold wpOp;simp only[hi];rw[if_pos hg];exact .inl h
end
theorem aV {P:Program} {ops:Array Oper} {Q:Exit→Act→World→Prop} {md:Region.Mode} {S:World→Prop} {s i n:Nat} {oi:Oper} {v:Value} {l:Array Bool} {a:Act} {w:World} (hi:ops[i]? =some oi) (hb:(Region.noSelect ops&&(Region.free md ops l i&&((Region.ready md ops l).contains i&&decide (i≠s))))=true) (hQ:∀c a w,Q (.panic c) (a.put oi.dst v) w→Q (.panic c) a w) (hy:YieldsIf P ops (fun _=>True) oi v a) (hS:S w) (h:iV P md ops Q S s n (l.setIfInBounds i true) (a.put oi.dst v) w):iV P md ops Q S s (n+1) l a w:=by
 simp only[Bool.and_eq_true,decide_eq_true_eq]at hb;exact NN hi hb.1 hb.2.1 hb.2.2.1 hb.2.2.2 hQ hy hS h
section
variable {P:Program} {ops:Array Oper} {Q:Exit→Act→World→Prop} {md:Region.Mode} {S T:World→Prop} {s t:Nat}
def lU (s:Nat) (S:World→Prop) (t:Nat) (T:World→Prop) (l:Array Bool) (w:World):Prop:=(l.getD s true=false→S w)∧(l.getD t true=false→T w)
def kP (P:Program) (md:Region.Mode) (ops:Array Oper) (Q:Exit→Act→World→Prop) (s:Nat) (S:World→Prop) (t:Nat) (T:World→Prop):Nat→Array Bool→Act→World→Prop
 | 0,l,a,w=>Region.ready md ops l= []∧Q .normal a w
 | n+1,l,a,w=>(Region.ready md ops l= []→Q .normal a w)∧
  ∀i∈Region.ready md ops l,wpOp P ops Q i (fun a' w'=>lU s S t T (l.setIfInBounds i true) w'∧kP P md ops Q s S t T n (l.setIfInBounds i true) a' w') a w
theorem H_:∀ (n:Nat) (l:Array Bool) (a:Act) (w:World),kP P md ops Q s S t T n l a w→wpAny P md ops Q n l a w
 | 0,_,_,_,h=>h
 | n+1,_,_,_,h=>⟨h.1,fun i hi=>wpOp_mono (fun a' w' k=>H_ n _ a' w' k.2) (h.2 i hi)⟩
theorem JW {i:Nat} {l:Array Bool} {w:World} (h1:i≠s) (h2:i≠t) (h:lU s S t T (l.setIfInBounds i true) w):lU s S t T l w:=
 ⟨fun e=>h.1 (by rw[getD_set_ne true h1];exact e),fun e=>h.2 (by rw[getD_set_ne true h2];exact e)⟩
theorem DZ {i z j:Nat} {oz:Oper} {l:Array Bool} (hoz:ops[z]? =some oz) (nP:oz.after.any (fun e=>Region.binds md e&&e.on==i)=true) (hl:l.getD z true=false)
  (hj:j∈Region.ready md ops l) (hr:i∈Region.ready md ops l):(l.setIfInBounds j true).getD z true=false:=by
 have nJ:=(mem_ready.1 hr).1
 have Eo:l.getD i false≠true:=by
  intro h;rcases Nat.lt_or_ge i l.size with bA | gX
  ·simp[bA]at nJ h;rw[nJ]at h;cases h
  ·simp[Array.getElem?_eq_none gX]at h
 obtain⟨_,oj,nX,gY⟩:=mem_ready.1 hj
 have hjz:j≠z:=by
  rintro rfl;rw[hoz]at nX;injection nX with nX;subst nX;rw[Array.any_eq_true']at nP;obtain⟨e,he,hh⟩:=nP;rw[Bool.and_eq_true]at hh;have Cn:e.on=i:=by simpa using hh.2
  exact Eo (Cn▸gY e he hh.1)
 rw[getD_set_ne true hjz];exact hl
theorem oK {i:Nat} {oi:Oper} {v:Value} {U:World→Prop} {Y:Act→Prop} {N:Array Bool→Prop} (hi:ops[i]? =some oi)
  (hYi:∀ {K:Act→World→Prop} {a:Act} {w:World},Y a→U w→K (a.put oi.dst v) w→wpOp P ops Q i K a w)
  (hYj:∀ {j:Nat} {oj:Oper} {K:Act→World→Prop} {a:Act} {w:World},ops[j]? =some oj→oi.apart ops oj=true→Y a→wpOp P ops Q j K (a.put oi.dst v) w→wpOp P ops Q j (fun a' w'=>Y a'∧K (a'.put oi.dst v) w') a w)
  (h1:i≠s) (h2:i≠t) (hU:∀l w,N l→lU s S t T l w→U w) (hN:∀l j,N l→j∈Region.ready md ops l→i∈Region.ready md ops l→j≠i→N (l.setIfInBounds j true)):
  ∀ (n:Nat) (l:Array Bool) (a:Act) (w:World),
   (∀j oj,ops[j]? =some oj→j≠i→l.getD j true=false→(∀e∈oj.after,Region.binds md e=true→e.on≠i)→oi.apart ops oj=true)→
   i∈Region.ready md ops l→N l→Y a→lU s S t T l w→
   kP P md ops Q s S t T n (l.setIfInBounds i true) (a.put oi.dst v) w→kP P md ops Q s S t T (n+1) l a w:=by
 intro n
 have iW:∀ {l:Array Bool} {w:World},lU s S t T l w→lU s S t T (l.setIfInBounds i true) w:=fun h=>
  ⟨fun e=>h.1 (by rw[getD_set_ne true h1]at e;exact e),fun e=>h.2 (by rw[getD_set_ne true h2]at e;exact e)⟩
 induction n with
 | zero=>
  intro l a w _ hr hNl hy hS H;refine⟨fun h=>(by rw[h]at hr;cases hr),fun j hj=>?_⟩;by_cases hji:j=i
  ·subst hji;exact hYi hy (hU l w hNl hS) ⟨iW hS,H⟩
  ·have h1:=ready_mono hj hji
   rw[H.1]at h1
   cases h1
 | succ n ih=>
  intro l a w o_ hr hNl hy hS H;refine⟨fun h=>(by rw[h]at hr;cases hr),fun j hj=>?_⟩;by_cases hji:j=i
  ·subst hji;exact hYi hy (hU l w hNl hS) ⟨iW hS,H⟩
  have nJ:=(mem_ready.1 hr).1
  have Eo:l.getD i false≠true:=by
   intro h;rcases Nat.lt_or_ge i l.size with bA | gX
   ·simp[bA]at nJ h;rw[nJ]at h;cases h
   ·simp[Array.getElem?_eq_none gX]at h
  obtain⟨lq,oj,nX,gY⟩:=mem_ready.1 hj;have hnot:∀e∈oj.after,Region.binds md e=true→e.on≠i:=fun e he hb Cn=>Eo (Cn▸gY e he hb)
  have h3:=hYj nX (o_ j oj nX hji lq hnot) hy (H.2 j (ready_mono hj hji));refine wpOp_mono (fun a' w' k=>?_) h3
  have hc:lU s S t T (l.setIfInBounds j true) w':=by
   have h4:=k.2.1;rw[←Array.setIfInBounds_comm _ _ hji]at h4;exact JW h1 h2 h4
  refine⟨hc,ih (l.setIfInBounds j true) a' w' (fun q oq hq hqi KT SK=>?_) (ready_mono hr (Ne.symm hji)) (hN l j hNl hj hr hji) k.1 hc ?_⟩
  ·refine o_ q oq hq hqi ?_ SK
   by_cases F7:j=q
   ·subst F7;exact lq
   ·rw[getD_set_ne true F7]at KT;exact KT
  ·rw[Array.setIfInBounds_comm _ _ hji];exact k.2.2
section
variable {i n:Nat} {oi:Oper} {v:Value} {l:Array Bool} {a:Act} {w:World}
theorem JX {os:Oper} (hi:ops[i]? =some oi) (hos:ops[s]? =some os) (jT:Region.noSelect ops=true) (hf:Region.free md ops l i=true) (hr:(Region.ready md ops l).contains i=true)
  (qo:l.getD s true=false) (nP:os.after.any (fun e=>Region.binds md e&&e.on==i)=true) (h1:i≠s) (h2:i≠t)
  (hQ:∀c a w,Q (.panic c) (a.put oi.dst v) w→Q (.panic c) a w) (hy:YieldsIf P ops S oi v a) (hC:lU s S t T l w)
  (h:kP P md ops Q s S t T n (l.setIfInBounds i true) (a.put oi.dst v) w):kP P md ops Q s S t T (n+1) l a w:=
 oK (U:=S) (Y:=YieldsIf P ops S oi v) (N:=fun l=>l.getD s true=false) hi (fun hy hS h=>hy.wpOp hi hS h)
  (fun nX ou hy h=>wpOp_putIf nX ou (fun cs b=>Region.noSelect_spec jT i oi cs b hi) (fun cs b=>Region.noSelect_spec jT _ _ cs b nX) hQ hy h) h1 h2 (fun _ _ hN hc=>hc.1 hN)
  (fun l j hN hj hir _=>DZ hos nP hN hj hir) n l a w (Region.free_spec hi hf) (by simpa using hr) qo hy hC h
theorem oL {ot:Oper} (hi:ops[i]? =some oi) (hot:ops[t]? =some ot) (jT:Region.noSelect ops=true) (hf:Region.free md ops l i=true) (hr:(Region.ready md ops l).contains i=true)
  (bA:l.getD t true=false) (nP:ot.after.any (fun e=>Region.binds md e&&e.on==i)=true) (h1:i≠s) (h2:i≠t)
  (hQ:∀c a w,Q (.panic c) (a.put oi.dst v) w→Q (.panic c) a w) (hy:YieldsIf P ops T oi v a) (hC:lU s S t T l w)
  (h:kP P md ops Q s S t T n (l.setIfInBounds i true) (a.put oi.dst v) w):kP P md ops Q s S t T (n+1) l a w:=
 oK (U:=T) (Y:=YieldsIf P ops T oi v) (N:=fun l=>l.getD t true=false) hi (fun hy hS h=>hy.wpOp hi hS h)
  (fun nX ou hy h=>wpOp_putIf nX ou (fun cs b=>Region.noSelect_spec jT i oi cs b hi) (fun cs b=>Region.noSelect_spec jT _ _ cs b nX) hQ hy h) h1 h2 (fun _ _ hN hc=>hc.2 hN)
  (fun l j hN hj hir _=>DZ hot nP hN hj hir) n l a w (Region.free_spec hi hf) (by simpa using hr) bA hy hC h
theorem NP (hi:ops[i]? =some oi) (jT:Region.noSelect ops=true) (hf:Region.free md ops l i=true) (hr:(Region.ready md ops l).contains i=true) (h1:i≠s) (h2:i≠t)
  (hQ:∀c a w,Q (.panic c) (a.put oi.dst v) w→Q (.panic c) a w) (hy:YieldsIf P ops (fun _=>True) oi v a) (hC:lU s S t T l w)
  (h:kP P md ops Q s S t T n (l.setIfInBounds i true) (a.put oi.dst v) w):kP P md ops Q s S t T (n+1) l a w:=
 oK (U:=fun _=>True) (Y:=YieldsIf P ops (fun _=>True) oi v) (N:=fun _=>True) hi (fun hy hS h=>hy.wpOp hi hS h)
  (fun nX ou hy h=>wpOp_putIf nX ou (fun cs b=>Region.noSelect_spec jT i oi cs b hi) (fun cs b=>Region.noSelect_spec jT _ _ cs b nX) hQ hy h) h1 h2 (fun _ _ _ _=>trivial)
  (fun _ _ _ _ _ _=>trivial) n l a w (Region.free_spec hi hf) (by simpa using hr) trivial hy hC h
theorem Bq (hi:ops[i]? =some oi) (jT:Region.noSelect ops=true) (hf:Region.free md ops l i=true) (hr:(Region.ready md ops l).contains i=true) (h1:i≠s) (h2:i≠t)
  (hQ:∀c a w,Q (.panic c) (a.put oi.dst v) w→Q (.panic c) a w) (hy:iI P ops (fun _=>True) oi v a) (hC:lU s S t T l w)
  (h:kP P md ops Q s S t T n (l.setIfInBounds i true) (a.put oi.dst v) w):kP P md ops Q s S t T (n+1) l a w:=
 oK (U:=fun _=>True) (Y:=iI P ops (fun _=>True) oi v) (N:=fun _=>True) hi (fun hy hS h=>hy.wpOp hi hS h)
  (fun nX ou hy h=>yE nX ou (fun cs b=>Region.noSelect_spec jT i oi cs b hi) (fun cs b=>Region.noSelect_spec jT _ _ cs b nX) hQ hy h) h1 h2 (fun _ _ _ _=>trivial)
  (fun _ _ _ _ _ _=>trivial) n l a w (Region.free_spec hi hf) (by simpa using hr) trivial hy hC h
theorem bZ (hr:Region.ready md ops l= [i]) (hi:ops[i]? =some oi) (hg:oi.guard=none)
  (h:Oper.wp P oi a w (fun a' w'=>lU s S t T (l.setIfInBounds i true) w'∧kP P md ops Q s S t T n (l.setIfInBounds i true) a' w') Q):kP P md ops Q s S t T (n+1) l a w:=by
 refine⟨fun h0=>(by rw[hr]at h0;cases h0),fun j hj=>?_⟩;rw[hr]at hj;have:j=i:=by simpa using hj
 subst this;unfold wpOp;simp only[hi];rw[if_pos (by simp[Region.wanted,hg])];exact .inl h
theorem Ia {j:Nat} {oj:Oper} (hr:Region.ready md ops l= [i,j]) (hi:ops[i]? =some oi) (hj:ops[j]? =some oj) (hgi:oi.guard=none) (hgj:oj.guard=none)
  (h1:Oper.wp P oi a w (fun a' w'=>lU s S t T (l.setIfInBounds i true) w'∧kP P md ops Q s S t T n (l.setIfInBounds i true) a' w') Q)
  (h2:Oper.wp P oj a w (fun a' w'=>lU s S t T (l.setIfInBounds j true) w'∧kP P md ops Q s S t T n (l.setIfInBounds j true) a' w') Q):kP P md ops Q s S t T (n+1) l a w:=by
 refine⟨fun h0=>(by rw[hr]at h0;cases h0),fun k hk=>?_⟩;rw[hr]at hk;have:k=i∨k=j:=by simpa using hk
 rcases this with rfl | rfl
 ·unfold wpOp
  simp only[hi];rw[if_pos (by simp[Region.wanted,hgi])];exact .inl h1
 ·unfold wpOp
  simp only[hj];rw[if_pos (by simp[Region.wanted,hgj])];exact .inl h2
theorem kW (hr:Region.ready md ops l= []) (h:Q .normal a w):kP P md ops Q s S t T n l a w:=by
 cases n with
 | zero=>exact⟨hr,h⟩
 | succ n=>exact⟨fun _=>h,by rw[hr];simp⟩
theorem qE {S' T':World→Prop} (hS:∀w,S' w→S w) (hT:∀w,T' w→T w):∀ (n:Nat) (l:Array Bool) (a:Act) (w:World),kP P md ops Q s S' t T' n l a w→kP P md ops Q s S t T n l a w
 | 0,_,_,_,h=>h
 | n+1,_,_,_,h=>⟨h.1,fun i hi=>wpOp_mono (fun a' w' k=>⟨⟨fun hl=>hS _ (k.1.1 hl),fun hl=>hT _ (k.1.2 hl)⟩,qE hS hT n _ a' w' k.2⟩) (h.2 i hi)⟩
theorem kX {id:Nat} (s:Nat) (S:World→Prop) (t:Nat) (T:World→Prop) (hm:P.follows .mixedOrders=true)
  (h:kP P .any ops Q s S t T ops.size (Array.replicate ops.size false) a w.drew):(Code.region id ops true).wp P Q a w:=
 wp_region_any hm (H_ _ _ _ _ h)
end
end
theorem bF {P:Program} {ops:Array Oper} {Q:Exit→Act→World→Prop} {md:Region.Mode} {S:World→Prop} {s i n:Nat} {oi:Oper} {T:World→Prop} {t:Nat} {v:Value} {l:Array Bool} {a:Act} {w:World} (hi:ops[i]? =some oi) (hb:(Region.noSelect ops&&(Region.free md ops l i&&((Region.ready md ops l).contains i&&(decide (i≠s)&&decide (i≠t)))))=true) (hQ:∀c a w,Q (.panic c) (a.put oi.dst v) w→Q (.panic c) a w) (hy:YieldsIf P ops (fun _=>True) oi v a) (hC:lU s S t T l w) (h:kP P md ops Q s S t T n (l.setIfInBounds i true) (a.put oi.dst v) w):kP P md ops Q s S t T (n+1) l a w:=by
 simp only[Bool.and_eq_true,decide_eq_true_eq]at hb;exact NP hi hb.1 hb.2.1 hb.2.2.1 hb.2.2.2.1 hb.2.2.2.2 hQ hy hC h
end Go.Proofs.YtlfopoimbbpfdaaGreat
