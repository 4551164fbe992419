/- What the law asks, in parts: ZO ZQ. -/
import Derived.Deep.DrawnRows
import Derived.Test.YtlfopoimbbpfdaaGreatPk22
import Derived.Test.YtlfopoimbbpfdaaGreatPk13
set_option linter.all false
namespace Go.Proofs.YtlfopoimbbpfdaaGreat
open Go.RowKit
attribute [local go_sem ↓] Go.wp_at_zero Go.wp_at_succ
set_option maxRecDepth 100000 in
set_option maxHeartbeats 8000000 in
theorem I_ (fI w W:World) (b0:Bk) (l0:Ls) (wn:Wn) (x:bZ) (y:bV) (h:Rt fI w W x ⟨b0.cs,(bO b0.free wn.ids).2,b0.ls,b0.bound⟩ y ⟨l0.dev,l0.epoch,l0.bY,l0.last,l0.sl,bG l0.ids (bO b0.free wn.ids).1,l0.used⟩ wn) (hw:Dz b0 l0 wn) (hc:fK b0 wn=0) (he:dB b0 wn=0) (u0 u1 u2 u8 u9 u11 u12 u13 u14 u15 u16 u17 u18 u19 u20 u21 u22 u23 u24 u25 u26 u27 u28 u29 u30 u31 u32 u33 u34 u35 u36 u37 u38 u39 u40 u41 u42 u43 u44 u45 u46 u47 u48 u49 u50 u51 u52 u53 u54 u55 u56 u57 u58 u59 u60 u61 u62 u63 u64 u65 u66 u67 u68 u69 u70 u71 u72 u73 u74 u75 u76 u77 u78 u79 u80 u81 u82 u83 u84 u85 u86 u87 u88 u89 u90 u91 u92 u93 u94 u95 u96 u97 u98 u99 u100 u101 u102 u103 u104 u105 u106 u107 u108 u109 u110 u111 u112 u113 u114 u115 u116 u117 u118 u119 u120 u121 u122 u123 u124 u125 u126 u127 u128 u129 u130 u131 u132 u133 u134 u135 u136 u137 u138 u139 u140 u141 u142 u143 u144 u145 u146 u147 u148 u149 u150 u151 u152 u153 u154 u155 u156 u157 u158 u159 u160 u161 u162 u163 u164 u165 u166 u167 u168 u169 u170 u171 u172 u173 u174 u175 u176 u177 u178 u179 u180 u181 u182 u183 u184 u185 u186 u187 u188 u189 u190 u191 u192 u193 u194 u195 u196 u197 u198 u199 u200 u201 u202:Value):
  ∀c,Tryz.f78.body.bind (spine 11)=some c→Code.wp Tryz.prog c (bodyPost Tryz.prog Tryz.f78 (jC fI w b0 l0 wn)) ⟨#[u0,u1,u2,.pointer (some ⟨w.heap.size,0,none⟩),.pointer (some ⟨w.heap.size+1,0,none⟩),.pointer (some ⟨w.heap.size+1+1,0,none⟩),.pointer (some ⟨w.heap.size+1+1+1,0,none⟩),.pointer (some ⟨w.heap.size+1+1+1+1,0,none⟩),u8,u9,.int .i64 (bH b0.cs wn.key),u11,u12,u13,u14,u15,u16,u17,u18,u19,u20,u21,u22,u23,u24,u25,u26,u27,u28,u29,u30,u31,u32,u33,u34,u35,u36,u37,u38,u39,u40,u41,u42,u43,u44,u45,u46,u47,u48,u49,u50,u51,u52,u53,u54,u55,u56,u57,u58,u59,u60,u61,u62,u63,u64,u65,u66,u67,u68,u69,u70,u71,u72,u73,u74,u75,u76,u77,u78,u79,u80,u81,u82,u83,u84,u85,u86,u87,u88,u89,u90,u91,u92,u93,u94,u95,u96,u97,u98,u99,u100,u101,u102,u103,u104,u105,u106,u107,u108,u109,u110,u111,u112,u113,u114,u115,u116,u117,u118,u119,u120,u121,u122,u123,u124,u125,u126,u127,u128,u129,u130,u131,u132,u133,u134,u135,u136,u137,u138,u139,u140,u141,u142,u143,u144,u145,u146,u147,u148,u149,u150,u151,u152,u153,u154,u155,u156,u157,u158,u159,u160,u161,u162,u163,u164,u165,u166,u167,u168,u169,u170,u171,u172,u173,u174,u175,u176,u177,u178,u179,u180,u181,u182,u183,u184,u185,u186,u187,u188,u189,u190,u191,u192,u193,u194,u195,u196,u197,u198,u199,u200,u201,u202],[]⟩ W:=by
 refine dH rfl ?_
 obtain⟨wk,wu,wd,wi⟩:=wn
 have HE:=ah he
 have Oq:=ah (gI hc)
 have HB:=ah hw
 have Gy:=ah h
 clear h he hc hw
 cases hE:emp wk with
 | true=>
  have La:Hid (bH b0.cs wk= -1):=ah (by
   rcases bQ (fun c:Ct=>decide (c.key=wk)) b0.cs with⟨hi,_⟩ | ⟨i,hi,hie,hp,_⟩
   ·exact hi
   ·have h1:=HB.out.key b0.cs[i] (List.getElem_mem hi)
    have h2:b0.cs[i].key=wk:=of_decide_eq_true hp
    rw[h2,hE]at h1
    cases h1)
  simp only
  rw[La.out]
  have HBT:Hid (Rt fI w W x (gy b0 ⟨wk,wu,wd,wi⟩) y (iE b0 l0 ⟨wk,wu,wd,wi⟩) ⟨wk,wu,wd,wi⟩):=ah (by
   have h1:=Gy.out
   unfold gy iE
   simp only[hE,if_true]
   exact h1)
  clear La hE Gy Oq HB
  go_upto_if 153 with fail
  go_cut[] (fun wx=>wx=W)
  case first=>
   go_wp2
   go_meet
   rfl
  case rest=>
  subst hcut
  go_step
  exact Ae fI w _ b0 l0 _ x y HBT.out HE.out _ _ _ _ _ _ _ _ _ _ _ _ _ _ _ _ _ _ _ _ _ _ _ _ _ _ _ _ _ _ _ _ _ _ _ _ _ _ _ _ _ _ _ _ _ _ _ _ _ _ _ _ _ _ _ _ _ _ _ _ _ _ _ _ _ _ _ _ _ _ _ _ _ _ _ _ _ _ _ _ _ _ _ _ _ _ _ _ _ _ _ _ _ _ _ _ _ _ _ _ _ _ _ _ _ _ _ _ _ _ _ _ _ _ _ _ _ _ _ _ _ _ _ _ _ _ _ _ _ _ _ _ _ _ _ _ _ _ _ _ _ _ _ _ _ _ _ _ _ _ _ _ _ _ _ _ _ _ _ _ _ _ _ _ _ _ _ _ _ _ _ _ _ _ _ _ _ _ _ _ _ _ _ _ _ _ _ _ _ _ _ _ _ _ _ _ _ _ _ rfl
 | false=>
  obtain⟨_,hkk,hu,hd⟩:=Oq.out.2.resolve_left (by rw[hE];simp)
  have hkk':¬bH b0.cs wk<0:=hkk
  obtain⟨jj,hjj,hjl⟩:∃jj:Nat,bH b0.cs wk=jj∧jj<b0.cs.length:=by
   rcases bQ (fun c:Ct=>decide (c.key=wk)) b0.cs with⟨hi,_⟩ | ⟨i,hi,hie,_,_⟩
   ·have hi':bH b0.cs wk= -1:=hi
    omega
   ·exact⟨i,hie,hi⟩
  have hct:jo b0 ⟨wk,wu,wd,wi⟩=b0.cs[jj]:=by
   show b0.cs.getD (bH b0.cs wk).toNat pJ=_
   rw[hjj,Int.toNat_natCast,List.getD_eq_getElem?_getD,List.getElem?_eq_getElem hjl]
   rfl
  rw[hct]at hu hd
  have sS:Hid (gy b0 ⟨wk,wu,wd,wi⟩=⟨b0.cs.set jj ⟨b0.cs[jj].key,b0.cs[jj].coll,b0.cs[jj].lo,b0.cs[jj].hi,b0.cs[jj].start,b0.cs[jj].up-wu,b0.cs[jj].down-wd⟩,(bO b0.free wi).2,b0.ls,b0.bound⟩∧iE b0 l0 ⟨wk,wu,wd,wi⟩=⟨l0.dev,l0.epoch,l0.bY,l0.last,l0.sl++ [⟨wk,wu,wd,0,0⟩],bG l0.ids (bO b0.free wi).1,l0.used⟩):=ah (by
   constructor
   ·unfold gy
    rw[hct]
    simp[hE,hjj]
   ·unfold iE
    simp[hE])
  have hwb:(0≤wu∧wu≤2199023255552)∧0≤wd∧wd≤2199023255552:=by
   have h1:=nT wk wu wd wi
   rw[Oq.out.1]at h1
   simp at h1
   omega
  obtain⟨o1,o2,o3,o4⟩:=HB.out.ct b0.cs[jj] (List.getElem_mem hjl)
  have i1:IntKind.i64.wrap (b0.cs[jj].up-wu)=b0.cs[jj].up-wu:=IntWalk.i64_in _ (by omega)
  have i2:IntKind.i64.wrap (b0.cs[jj].down-wd)=b0.cs[jj].down-wd:=IntWalk.i64_in _ (by omega)
  have HI:=ah (And.intro i1 i2)
  have hnc:=HB.out.nc
  have HNS:=ah HB.out.ns
  have VX:(jj:Int)<b0.cs.length:=by omega
  have VY:(0:Int)≤(jj:Int):=by omega
  clear hct hkk hkk' hu hd hwb o1 o2 o3 o4 i1 i2 Oq hE HB
  simp only
  rw[hjj]
  clear hjj
  obtain⟨⟨ca,cn,cc⟩,⟨fa,aX,fc⟩,⟨la,ln,lc⟩,⟨ba,b_n,bc⟩⟩:=x
  obtain⟨y1,y2,y3,y4,⟨y5,y6,y7⟩,⟨y8,y9,bW⟩,⟨bX,cB,y13⟩⟩:=y
  obtain⟨q3,q4,q5⟩:=Sl.lens (s:=⟨ca,cn,cc⟩) (Gy.out.r.rc.sl Gy.out.r.aZ)
  obtain⟨r3,r4,r5⟩:=Sl.lens (s:=⟨y5,y6,y7⟩) (Gy.out.r.rs.sl Gy.out.r.aZ)
  simp only at q3 q4 q5 r3 r4 r5
  subst q3 r3
  generalize (bO b0.free wi).2=fr at*
  generalize bG l0.ids (bO b0.free wi).1=ids at*
  have vE:=ah (cK.rd (f:=jE) (E:=7) (l:=b0.cs) (Gy.out.r.rc.sl Gy.out.r.aZ))
  obtain⟨c0,c1,c2,c3,_⟩:=ay Gy.out.q.k3
  simp only[Sv.v]at c0 c1 c2 c3
  go_upto_if 153 with fail
  go_cut[] (fun wx=>∃x' y',Rt fI w wx x' (gy b0 ⟨wk,wu,wd,wi⟩) y' (iE b0 l0 ⟨wk,wu,wd,wi⟩) ⟨wk,wu,wd,wi⟩)
  case rest=>
   obtain⟨x',y',hrt⟩:=hcut
   go_step
   exact Ae fI w _ b0 l0 _ x' y' hrt HE.out _ _ _ _ _ _ _ _ _ _ _ _ _ _ _ _ _ _ _ _ _ _ _ _ _ _ _ _ _ _ _ _ _ _ _ _ _ _ _ _ _ _ _ _ _ _ _ _ _ _ _ _ _ _ _ _ _ _ _ _ _ _ _ _ _ _ _ _ _ _ _ _ _ _ _ _ _ _ _ _ _ _ _ _ _ _ _ _ _ _ _ _ _ _ _ _ _ _ _ _ _ _ _ _ _ _ _ _ _ _ _ _ _ _ _ _ _ _ _ _ _ _ _ _ _ _ _ _ _ _ _ _ _ _ _ _ _ _ _ _ _ _ _ _ _ _ _ _ _ _ _ _ _ _ _ _ _ _ _ _ _ _ _ _ _ _ _ _ _ _ _ _ _ _ _ _ _ _ _ _ _ _ _ _ _ _ _ _ _ _ _ _ _ _ _ _ _ _ _ rfl
  case first=>
  go_upto_region 25 with((with_reducible refine aY 157 ?_);refine kU rfl _ _ rfl W.heap.size _ 0 [] rfl (cO _ _ _ _ 7 #[] 0 rfl (aC _) (by omega) rfl) ca b0.cs.length cc b0.cs rfl rfl (vE.out.alloc _) (by omega) (by simp) ?_;intro v5 w6 fQ hg5 kP;obtain⟨nZ,cp,rfl,_,_⟩:=aP fQ;have hb5:=fB hg5;have k5:=aj Gy.out.q.k3 hb5 (bg Gy.out.q.k3).1;obtain⟨d0,d1,d2,d3,_⟩:=ay k5;have f00:=aA k5 0)
  rw[Nat.zero_add,List.nil_append]at fQ
  have yA:=ah ((Gy.out.keep hb5).VU (c':=⟨nZ,b0.cs.length,cp⟩) (aO fQ Gy.out.q.aZ.size))
  simp only[Sv.v]at yA
  clear fQ hg5 kP hb5 k5 d0 d1 d2 d3 f00 c0 c1 c2 c3 vE Gy
  generalize w6.setCell ⟨w.heap.size,0,none⟩ (.slice nZ b0.cs.length cp)=W7 at*
  obtain⟨cg,Q9,hcx⟩:=fu yA.out.2 (show 0<b0.cs.length by omega)
  injection hcx with hcx ae_ aaJ
  subst hcx aaJ
  have RA:Hid (Rt fI w ((W7.drew.setCell ⟨cg,jj*7+5,none⟩ (.int .i64 (b0.cs[jj].up-wu))).setCell ⟨cg,jj*7+6,none⟩ (.int .i64 (b0.cs[jj].down-wd))) ⟨⟨some ⟨cg,0,none⟩,b0.cs.length,cp⟩,⟨fa,aX,fc⟩,⟨la,ln,lc⟩,⟨ba,b_n,bc⟩⟩ (gy b0 ⟨wk,wu,wd,wi⟩) ⟨y1,y2,y3,y4,⟨y5,l0.sl.length,y7⟩,⟨y8,y9,bW⟩,⟨bX,cB,y13⟩⟩ ⟨l0.dev,l0.epoch,l0.bY,l0.last,l0.sl,ids,l0.used⟩ ⟨wk,wu,wd,wi⟩):=ah (by
   rw[sS.out.1]
   exact(yA.out.1.keep (aL _ _).drew).VW (aJ yA.out.2 (aL _ _).drew (aC _)) rfl jj hjl _ _)
  obtain⟨p1,p2,p3,p4,p5,p6,p7⟩:=bq yA.out.2
  have u5:W7.drew.cell? ⟨cg,jj*7+5,none⟩=some (.int .i64 b0.cs[jj].up):=p7 _ _ (by rw[bP dX _ jj hjl 5 (by omega)];rfl)
  have u6:W7.drew.cell? ⟨cg,jj*7+6,none⟩=some (.int .i64 b0.cs[jj].down):=p7 _ _ (by rw[bP dX _ jj hjl 6 (by omega)];rfl)
  have g5:W7.drew.frozen? ⟨cg,jj*7+5,none⟩=false:=p6 (jj*7+5)
  have g7:W7.drew.frozen? ⟨cg,jj*7+6,none⟩=false:=p6 (jj*7+6)
  have DC:Hid (∀u:Value,(W7.drew.setCell ⟨cg,jj*7+5,none⟩ u).frozen? ⟨cg,jj*7+6,none⟩=false∧(W7.drew.setCell ⟨cg,jj*7+5,none⟩ u).cell? ⟨cg,jj*7+6,none⟩=some (.int .i64 b0.cs[jj].down)):=ah (fun u=>by
   have o1:=dF (aJ yA.out.2 (aL _ _).drew (aC _)) (jj*7+5) (by rw[bL dX];omega) u
   obtain⟨_,_,_,_,_,t6,t7⟩:=bq o1
   exact⟨t6 (jj*7+6),t7 _ _ (by rw[List.getElem?_set_ne (by omega),bP dX _ jj hjl 6 (by omega)];rfl)⟩)
  have HS:Hid (∀V:World,(∀c,c≠cg→V.heap[c]? =W7.heap[c]?)→V.cell? ⟨w.heap.size,0,none⟩=some (.slice (some ⟨cg,0,none⟩) b0.cs.length cp)∧V.cell? ⟨w.heap.size+1+1,1,none⟩=some (.int .i64 wu)∧V.cell? ⟨w.heap.size+1+1,2,none⟩=some (.int .i64 wd)):=ah (fun V hV=>by
   obtain⟨cur,hcur⟩:=eu yA.out.2
   have a:=lI yA.out.1.q.k3 hV hcur (by decide)
   have b:=lI yA.out.1.q.k5 hV hcur (by decide)
   obtain⟨a0,_⟩:=ay a
   obtain⟨_,b1,b2,_⟩:=ay b
   exact⟨a0,b1,b2⟩)
  clear p1 p2 p3 p4 p5 p6 p7
  generalize b0.cs[jj].up=cu at*
  generalize b0.cs[jj].down=cd at*
  obtain⟨i1,i2⟩:=HI.out
  go_cut[] (fun wx=>wx=((W7.drew.setCell ⟨cg,jj*7+5,none⟩ (.int .i64 (cu-wu))).setCell ⟨cg,jj*7+6,none⟩ (.int .i64 (cd-wd))))
  case first=>
   refine aS 29 (fun w'=>w'.cell? ⟨w.heap.size,0,none⟩=some (.slice (some ⟨cg,0,none⟩) b0.cs.length cp)∧w'.cell? ⟨w.heap.size+1+1,1,none⟩=some (.int .i64 wu)∧w'.cell? ⟨w.heap.size+1+1,2,none⟩=some (.int .i64 wd)) (by kernel_rfl) ?_
   have hS0:=HS.out W7.drew (fun c _=>rfl)
   refine aD (i:=0) (v:=.pointer (some ⟨w.heap.size,0,none⟩)) rfl rfl (by kernel_rfl) (by kernel_rfl) (by kernel_rfl) (by kernel_rfl) (by kernel_rfl) (by decide) (fun _ _ _ h=>h) (.inl ⟨rfl,fun w' hw=>?_⟩) hS0 ?_
   ·obtain⟨h0,h1,h2⟩:=hw
    go_simp
   refine aD (i:=1) (v:=.slice (some ⟨cg,0,none⟩) b0.cs.length cp) rfl rfl (by kernel_rfl) (by kernel_rfl) (by kernel_rfl) (by kernel_rfl) (by kernel_rfl) (by decide) (fun _ _ _ h=>h) (.inl ⟨rfl,fun w' hw=>?_⟩) hS0 ?_
   ·obtain⟨h0,h1,h2⟩:=hw
    go_simp
   refine aD (i:=2) (v:=.int .i64 jj) rfl rfl (by kernel_rfl) (by kernel_rfl) (by kernel_rfl) (by kernel_rfl) (by kernel_rfl) (by decide) (fun _ _ _ h=>h) (.inl ⟨rfl,fun w' hw=>?_⟩) hS0 ?_
   ·obtain⟨h0,h1,h2⟩:=hw
    go_simp
   refine aD (i:=3) (v:=.pointer (some ⟨w.heap.size,0,none⟩)) rfl rfl (by kernel_rfl) (by kernel_rfl) (by kernel_rfl) (by kernel_rfl) (by kernel_rfl) (by decide) (fun _ _ _ h=>h) (.inl ⟨rfl,fun w' hw=>?_⟩) hS0 ?_
   ·obtain⟨h0,h1,h2⟩:=hw
    go_simp
   refine aD (i:=4) (v:=.slice (some ⟨cg,0,none⟩) b0.cs.length cp) rfl rfl (by kernel_rfl) (by kernel_rfl) (by kernel_rfl) (by kernel_rfl) (by kernel_rfl) (by decide) (fun _ _ _ h=>h) (.inl ⟨rfl,fun w' hw=>?_⟩) hS0 ?_
   ·obtain⟨h0,h1,h2⟩:=hw
    go_simp
   refine aD (i:=5) (v:=.int .i64 jj) rfl rfl (by kernel_rfl) (by kernel_rfl) (by kernel_rfl) (by kernel_rfl) (by kernel_rfl) (by decide) (fun _ _ _ h=>h) (.inl ⟨rfl,fun w' hw=>?_⟩) hS0 ?_
   ·obtain⟨h0,h1,h2⟩:=hw
    go_simp
   refine aD (i:=6) (v:=.pointer (some ⟨w.heap.size,0,none⟩)) rfl rfl (by kernel_rfl) (by kernel_rfl) (by kernel_rfl) (by kernel_rfl) (by kernel_rfl) (by decide) (fun _ _ _ h=>h) (.inl ⟨rfl,fun w' hw=>?_⟩) hS0 ?_
   ·obtain⟨h0,h1,h2⟩:=hw
    go_simp
   refine aD (i:=7) (v:=.slice (some ⟨cg,0,none⟩) b0.cs.length cp) rfl rfl (by kernel_rfl) (by kernel_rfl) (by kernel_rfl) (by kernel_rfl) (by kernel_rfl) (by decide) (fun _ _ _ h=>h) (.inl ⟨rfl,fun w' hw=>?_⟩) hS0 ?_
   ·obtain⟨h0,h1,h2⟩:=hw
    go_simp
   refine aD (i:=8) (v:=.int .i64 jj) rfl rfl (by kernel_rfl) (by kernel_rfl) (by kernel_rfl) (by kernel_rfl) (by kernel_rfl) (by decide) (fun _ _ _ h=>h) (.inl ⟨rfl,fun w' hw=>?_⟩) hS0 ?_
   ·obtain⟨h0,h1,h2⟩:=hw
    go_simp
   refine aD (i:=9) (v:=.pointer (some ⟨cg,jj*7,none⟩)) rfl rfl (by kernel_rfl) (by kernel_rfl) (by kernel_rfl) (by kernel_rfl) (by kernel_rfl) (by decide) (fun _ _ _ h=>h) (.inl ⟨rfl,fun w' hw=>?_⟩) hS0 ?_
   ·obtain⟨h0,h1,h2⟩:=hw
    go_simp
   refine aD (i:=10) (v:=.pointer (some ⟨cg,jj*7+5,none⟩)) rfl rfl (by kernel_rfl) (by kernel_rfl) (by kernel_rfl) (by kernel_rfl) (by kernel_rfl) (by decide) (fun _ _ _ h=>h) (.inl ⟨rfl,fun w' hw=>?_⟩) hS0 ?_
   ·obtain⟨h0,h1,h2⟩:=hw
    go_simp
   refine aD (i:=12) (v:=.pointer (some ⟨w.heap.size+1+1,1,none⟩)) rfl rfl (by kernel_rfl) (by kernel_rfl) (by kernel_rfl) (by kernel_rfl) (by kernel_rfl) (by decide) (fun _ _ _ h=>h) (.inl ⟨rfl,fun w' hw=>?_⟩) hS0 ?_
   ·obtain⟨h0,h1,h2⟩:=hw
    go_simp
   refine aD (i:=13) (v:=.int .i64 wu) rfl rfl (by kernel_rfl) (by kernel_rfl) (by kernel_rfl) (by kernel_rfl) (by kernel_rfl) (by decide) (fun _ _ _ h=>h) (.inl ⟨rfl,fun w' hw=>?_⟩) hS0 ?_
   ·obtain⟨h0,h1,h2⟩:=hw
    go_simp
   refine aD (i:=15) (v:=.pointer (some ⟨w.heap.size,0,none⟩)) rfl rfl (by kernel_rfl) (by kernel_rfl) (by kernel_rfl) (by kernel_rfl) (by kernel_rfl) (by decide) (fun _ _ _ h=>h) (.inl ⟨rfl,fun w' hw=>?_⟩) hS0 ?_
   ·obtain⟨h0,h1,h2⟩:=hw
    go_simp
   refine aD (i:=16) (v:=.slice (some ⟨cg,0,none⟩) b0.cs.length cp) rfl rfl (by kernel_rfl) (by kernel_rfl) (by kernel_rfl) (by kernel_rfl) (by kernel_rfl) (by decide) (fun _ _ _ h=>h) (.inl ⟨rfl,fun w' hw=>?_⟩) hS0 ?_
   ·obtain⟨h0,h1,h2⟩:=hw
    go_simp
   refine aD (i:=17) (v:=.int .i64 jj) rfl rfl (by kernel_rfl) (by kernel_rfl) (by kernel_rfl) (by kernel_rfl) (by kernel_rfl) (by decide) (fun _ _ _ h=>h) (.inl ⟨rfl,fun w' hw=>?_⟩) hS0 ?_
   ·obtain⟨h0,h1,h2⟩:=hw
    go_simp
   refine aD (i:=18) (v:=.pointer (some ⟨cg,jj*7,none⟩)) rfl rfl (by kernel_rfl) (by kernel_rfl) (by kernel_rfl) (by kernel_rfl) (by kernel_rfl) (by decide) (fun _ _ _ h=>h) (.inl ⟨rfl,fun w' hw=>?_⟩) hS0 ?_
   ·obtain⟨h0,h1,h2⟩:=hw
    go_simp
   refine aD (i:=19) (v:=.pointer (some ⟨cg,jj*7+6,none⟩)) rfl rfl (by kernel_rfl) (by kernel_rfl) (by kernel_rfl) (by kernel_rfl) (by kernel_rfl) (by decide) (fun _ _ _ h=>h) (.inl ⟨rfl,fun w' hw=>?_⟩) hS0 ?_
   ·obtain⟨h0,h1,h2⟩:=hw
    go_simp
   refine aD (i:=21) (v:=.pointer (some ⟨w.heap.size+1+1,2,none⟩)) rfl rfl (by kernel_rfl) (by kernel_rfl) (by kernel_rfl) (by kernel_rfl) (by kernel_rfl) (by decide) (fun _ _ _ h=>h) (.inl ⟨rfl,fun w' hw=>?_⟩) hS0 ?_
   ·obtain⟨h0,h1,h2⟩:=hw
    go_simp
   refine aD (i:=22) (v:=.int .i64 wd) rfl rfl (by kernel_rfl) (by kernel_rfl) (by kernel_rfl) (by kernel_rfl) (by kernel_rfl) (by decide) (fun _ _ _ h=>h) (.inl ⟨rfl,fun w' hw=>?_⟩) hS0 ?_
   ·obtain⟨h0,h1,h2⟩:=hw
    go_simp
   refine gW (i:=11) (j:=20) (by kernel_rfl) rfl rfl rfl rfl ?_ ?_
   ·go_simp
    try refine⟨hS0,?_⟩
    refine aD (i:=14) (v:=.int .i64 (cu-wu)) rfl rfl (by kernel_rfl) (by kernel_rfl) (by kernel_rfl) (by kernel_rfl) (by kernel_rfl) (by decide) (fun _ _ _ h=>h) (.inl ⟨rfl,fun w' hw=>?_⟩) hS0 ?_
    ·obtain⟨h0,h1,h2⟩:=hw
     go_simp
    refine aF (i:=20) (by kernel_rfl) rfl rfl ?_
    go_simp
    try refine⟨hS0,?_⟩
    refine aD (i:=23) (v:=.int .i64 (cd-wd)) rfl rfl (by kernel_rfl) (by kernel_rfl) (by kernel_rfl) (by kernel_rfl) (by kernel_rfl) (by decide) (fun _ _ _ h=>h) (.inl ⟨rfl,fun w' hw=>?_⟩) hS0 ?_
    ·obtain⟨h0,h1,h2⟩:=hw
     go_simp
    refine aF (i:=24) (by kernel_rfl) rfl rfl ?_
    go_simp
    try refine⟨hS0,?_⟩
    refine aF (i:=25) (by kernel_rfl) rfl rfl ?_
    go_simp
    try refine⟨hS0,?_⟩
    refine aF (i:=26) (by kernel_rfl) rfl rfl ?_
    go_simp
    have hS1:=HS.out (W7.drew.setCell ⟨cg,jj*7+5,none⟩ (.int .i64 (cu-wu))) (fun c hc=>aW W7.drew _ _ (fun e=>hc e.symm) _)
    obtain⟨g6,u6'⟩:=DC.out (.int .i64 (cu-wu))
    have v6:W7.cell? ⟨cg,jj*7+6,none⟩=some (.int .i64 cd):=u6
    have gg6:W7.frozen? ⟨cg,jj*7+6,none⟩=false:=g7
    clear u5 u6 g5 hS0
    first | refine⟨HS.out W7 (fun _ _=>rfl),?_⟩ | refine⟨hS1,?_⟩ | skip
    refine aF (i:=27) (by kernel_rfl) rfl rfl ?_
    go_simp
    first | refine⟨HS.out W7 (fun _ _=>rfl),?_⟩ | refine⟨hS1,?_⟩ | skip
    refine aF (i:=28) (by kernel_rfl) rfl rfl ?_
    go_simp
    first | refine⟨HS.out W7 (fun _ _=>rfl),?_⟩ | refine⟨hS1,?_⟩ | skip
    refine aF (i:=29) (by kernel_rfl) rfl rfl ?_
    go_simp
    refine aT (by kernel_rfl) ?_
    go_wp2
    go_meet
    rfl
   ·go_simp
    try refine⟨hS0,?_⟩
    refine aD (i:=23) (v:=.int .i64 (cd-wd)) rfl rfl (by kernel_rfl) (by kernel_rfl) (by kernel_rfl) (by kernel_rfl) (by kernel_rfl) (by decide) (fun _ _ _ h=>h) (.inl ⟨rfl,fun w' hw=>?_⟩) hS0 ?_
    ·obtain⟨h0,h1,h2⟩:=hw
     go_simp
    refine aF (i:=11) (by kernel_rfl) rfl rfl ?_
    go_simp
    try refine⟨hS0,?_⟩
    refine aD (i:=14) (v:=.int .i64 (cu-wu)) rfl rfl (by kernel_rfl) (by kernel_rfl) (by kernel_rfl) (by kernel_rfl) (by kernel_rfl) (by decide) (fun _ _ _ h=>h) (.inl ⟨rfl,fun w' hw=>?_⟩) hS0 ?_
    ·obtain⟨h0,h1,h2⟩:=hw
     go_simp
    refine aF (i:=24) (by kernel_rfl) rfl rfl ?_
    go_simp
    try refine⟨hS0,?_⟩
    refine aF (i:=25) (by kernel_rfl) rfl rfl ?_
    go_simp
    try refine⟨hS0,?_⟩
    refine aF (i:=26) (by kernel_rfl) rfl rfl ?_
    go_simp
    have hS1:=HS.out (W7.drew.setCell ⟨cg,jj*7+5,none⟩ (.int .i64 (cu-wu))) (fun c hc=>aW W7.drew _ _ (fun e=>hc e.symm) _)
    obtain⟨g6,u6'⟩:=DC.out (.int .i64 (cu-wu))
    have v6:W7.cell? ⟨cg,jj*7+6,none⟩=some (.int .i64 cd):=u6
    have gg6:W7.frozen? ⟨cg,jj*7+6,none⟩=false:=g7
    clear u5 u6 g5 hS0
    first | refine⟨HS.out W7 (fun _ _=>rfl),?_⟩ | refine⟨hS1,?_⟩ | skip
    refine aF (i:=27) (by kernel_rfl) rfl rfl ?_
    go_simp
    first | refine⟨HS.out W7 (fun _ _=>rfl),?_⟩ | refine⟨hS1,?_⟩ | skip
    refine aF (i:=28) (by kernel_rfl) rfl rfl ?_
    go_simp
    first | refine⟨HS.out W7 (fun _ _=>rfl),?_⟩ | refine⟨hS1,?_⟩ | skip
    refine aF (i:=29) (by kernel_rfl) rfl rfl ?_
    go_simp
    refine aT (by kernel_rfl) ?_
    go_wp2
    go_meet
    rfl
  case rest=>
  subst hcut
  obtain⟨W8,TQ⟩:∃W8,W8=(W7.drew.setCell ⟨cg,jj*7+5,none⟩ (.int .i64 (cu-wu))).setCell ⟨cg,jj*7+6,none⟩ (.int .i64 (cd-wd)):=⟨_,rfl⟩
  rw[←TQ]at RA⊢
  have Pz:=RA
  clear TQ RA u5 u6 g5 g7 DC HS yA HI i1 i2
  have vE:=ah (cK.rd (f:=jm) (E:=5) (l:=l0.sl) (Pz.out.r.rs.sl Pz.out.r.aZ))
  have Uz:=ah Pz.out.q.aZ
  have hns:=HNS.out
  have qF:Hid (∀ (V:World) (v3 v4:Value) (w4:World),Below W8.heap.size W8 V→V.ownsRow W8.heap.size 88 5 v3 l0.sl.length (aK jm l0.sl)→w4.ownsRow W8.heap.size 88 5 v4 (l0.sl.length+1) (aK jm (l0.sl++ [⟨wk,wu,wd,0,0⟩]))→V.grownBy w4 v3.ownBlock→Below W8.heap.size W8 w4∧ ∃ao ck,v4= .slice ao (l0.sl.length+1) ck∧w4.cell? ⟨w.heap.size+1,4,none⟩=some (.slice y5 l0.sl.length y7)∧w4.frozen? ⟨w.heap.size+1,4,none⟩=false∧Rt fI w (w4.setCell ⟨w.heap.size+1,4,none⟩ (.slice ao (l0.sl.length+1) ck)) ⟨⟨some ⟨cg,0,none⟩,b0.cs.length,cp⟩,⟨fa,aX,fc⟩,⟨la,ln,lc⟩,⟨ba,b_n,bc⟩⟩ (gy b0 ⟨wk,wu,wd,wi⟩) ⟨y1,y2,y3,y4,⟨ao,l0.sl.length+1,ck⟩,⟨y8,y9,bW⟩,⟨bX,cB,y13⟩⟩ (iE b0 l0 ⟨wk,wu,wd,wi⟩) ⟨wk,wu,wd,wi⟩):=ah (fun V v3 v4 w4 hV h3 h4 hg=>by
   have hb4:Below W8.heap.size W8 w4:=hV.grown hg hV.size (fun g hg=>(h3.lt g hg).1)
   obtain⟨ao,ck,rfl,_,_⟩:=aP h4
   have hr:=Pz.out.keep hb4
   obtain⟨_,_,_,_,a4,_⟩:=aB hr.q.k4
   refine⟨hb4,ao,ck,rfl,a4,ak hr.q.k4 4,?_⟩
   rw[sS.out.2]
   have hl:(l0.sl++ [(⟨wk,wu,wd,0,0⟩:Sc)]).length=l0.sl.length+1:=by simp
   exact hr.KI (s':=⟨ao,l0.sl.length+1,ck⟩) (sl':=l0.sl++ [⟨wk,wu,wd,0,0⟩]) (by rw[hl];exact aO h4 Uz.out.size))
  have RB:Hid (∀ (V:World) (p:Nat),V.heap[p]? =some (.cells #[.string wk,.int .i64 wu,.int .i64 wd,.int .i64 0,.int .i64 0] 88 (0,0))→Rd V (some ⟨p,0,none⟩) (aK jm [⟨wk,wu,wd,0,0⟩])):=ah (fun V p hk j u hj=>by
   refine⟨⟨p,0,none⟩,rfl,?_⟩
   have e:(⟨p,0,none⟩:Addr).add j=⟨p,j,none⟩:=by
    cases j with
    | zero=>rfl
    | succ j=>simp[Addr.add]
   rw[e]
   simp only[World.cell?,hk]
   simpa[aK,jm]using hj)
  go_upto_region 26 with fail
  refine aS 14 (fun w'=>Below W8.heap.size W8 w') (by kernel_rfl) ?_
  have hS0:Below W8.heap.size W8 W8.drew:=(aL _ _).drew
  generalize W8.drew=Wd at*
  refine aD (i:=1) (v:=.pointer (some ⟨w.heap.size+1,4,none⟩)) rfl rfl (by kernel_rfl) (by kernel_rfl) (by kernel_rfl) (by kernel_rfl) (by kernel_rfl) (by decide) (fun _ _ _ h=>h) (.inl ⟨rfl,fun w' hw=>?_⟩) hS0 ?_
  ·go_simp
  refine aD (i:=2) (v:=.slice y5 l0.sl.length y7) rfl rfl (by kernel_rfl) (by kernel_rfl) (by kernel_rfl) (by kernel_rfl) (by kernel_rfl) (by decide) (fun _ _ _ h=>h) (.inl ⟨rfl,fun w' hw=>?_⟩) hS0 ?_
  ·obtain⟨_,_,_,_,a4,_⟩:=aB (Pz.out.q.keep hw).k4
   simp only[Sv.v]at a4
   go_simp
  refine aD (i:=4) (v:=.pointer (some ⟨w.heap.size+1+1,0,none⟩)) rfl rfl (by kernel_rfl) (by kernel_rfl) (by kernel_rfl) (by kernel_rfl) (by kernel_rfl) (by decide) (fun _ _ _ h=>h) (.inl ⟨rfl,fun w' hw=>?_⟩) hS0 ?_
  ·go_simp
  refine aD (i:=5) (v:=.string wk) rfl rfl (by kernel_rfl) (by kernel_rfl) (by kernel_rfl) (by kernel_rfl) (by kernel_rfl) (by decide) (fun _ _ _ h=>h) (.inl ⟨rfl,fun w' hw=>?_⟩) hS0 ?_
  ·obtain⟨a0,a1,a2,a3,_⟩:=ay (Pz.out.q.keep hw).k5
   go_simp
  refine aD (i:=6) (v:=.pointer (some ⟨w.heap.size+1+1,1,none⟩)) rfl rfl (by kernel_rfl) (by kernel_rfl) (by kernel_rfl) (by kernel_rfl) (by kernel_rfl) (by decide) (fun _ _ _ h=>h) (.inl ⟨rfl,fun w' hw=>?_⟩) hS0 ?_
  ·go_simp
  refine aD (i:=7) (v:=.int .i64 wu) rfl rfl (by kernel_rfl) (by kernel_rfl) (by kernel_rfl) (by kernel_rfl) (by kernel_rfl) (by decide) (fun _ _ _ h=>h) (.inl ⟨rfl,fun w' hw=>?_⟩) hS0 ?_
  ·obtain⟨a0,a1,a2,a3,_⟩:=ay (Pz.out.q.keep hw).k5
   go_simp
  refine aD (i:=8) (v:=.pointer (some ⟨w.heap.size+1+1,2,none⟩)) rfl rfl (by kernel_rfl) (by kernel_rfl) (by kernel_rfl) (by kernel_rfl) (by kernel_rfl) (by decide) (fun _ _ _ h=>h) (.inl ⟨rfl,fun w' hw=>?_⟩) hS0 ?_
  ·go_simp
  refine aD (i:=9) (v:=.int .i64 wd) rfl rfl (by kernel_rfl) (by kernel_rfl) (by kernel_rfl) (by kernel_rfl) (by kernel_rfl) (by decide) (fun _ _ _ h=>h) (.inl ⟨rfl,fun w' hw=>?_⟩) hS0 ?_
  ·obtain⟨a0,a1,a2,a3,_⟩:=ay (Pz.out.q.keep hw).k5
   go_simp
  refine aD (i:=10) (v:=.agg #[.string wk,.int .i64 wu,.int .i64 wd,.int .i64 0,.int .i64 0]) rfl rfl (by kernel_rfl) (by kernel_rfl) (by kernel_rfl) (by kernel_rfl) (by kernel_rfl) (by decide) (fun _ _ _ h=>h) (.inl ⟨rfl,fun w' hw=>?_⟩) hS0 ?_
  ·go_simp
  refine gW (i:=0) (j:=11) (by kernel_rfl) rfl rfl rfl rfl ?_ ?_
  ·go_simp
   have Ot:(Wd.alloc (.cells #[] 88)).ownsRow W8.heap.size 88 5 (.slice (some ⟨Wd.heap.size,0,none⟩) 0 0) 0 []:=cO _ _ _ _ 5 #[] 0 rfl hS0.size (by omega) rfl
   have hV1:=hS0.alloc hS0.size (.cells #[] 88)
   have hs1:Wd.heap.size<(Wd.alloc (.cells #[] 88)).heap.size:=by simp
   refine⟨hV1,?_⟩
   have hz0:W8.heap.size≤Wd.heap.size:=hS0.size
   generalize Wd.alloc (.cells #[] 88)=V1 at*
   refine gW (i:=3) (j:=11) (by kernel_rfl) rfl rfl rfl rfl ?_ ?_
   ·refine iQ _ _ rfl W8.heap.size _ 0 [] rfl Ot y5 l0.sl.length y7 l0.sl rfl rfl (vE.out.keep hV1 (aC _)) (by omega) hV1.size ?_
    intro v3 V3 h3 hg3 _
    rw[Nat.zero_add,List.nil_append]at h3
    have Ja:Below W8.heap.size W8 V3:=hV1.grown hg3 hV1.size (fun g hg=>(Ot.lt g hg).1)
    refine⟨fun _=>Ja,?_⟩
    refine aF (i:=11) (by kernel_rfl) rfl rfl ?_
    go_simp
    have hk1:=heap_alloc_new V3 (.cells #[.string wk,.int .i64 wu,.int .i64 wd,.int .i64 0,.int .i64 0] 88)
    have Ou:=Ja.alloc Ja.size (.cells #[.string wk,.int .i64 wu,.int .i64 wd,.int .i64 0,.int .i64 0] 88)
    have hp1:V3.heap.size<(V3.alloc (.cells #[.string wk,.int .i64 wu,.int .i64 wd,.int .i64 0,.int .i64 0] 88)).heap.size:=by simp
    have h3:=aJ h3 ((aL V3.heap.size V3).alloc (aC _) (.cells #[.string wk,.int .i64 wu,.int .i64 wd,.int .i64 0,.int .i64 0] 88)) (aC _)
    refine⟨Ou,?_⟩
    generalize V3.alloc (.cells #[.string wk,.int .i64 wu,.int .i64 wd,.int .i64 0,.int .i64 0] 88)=V5 at*
    refine aF (i:=12) (by kernel_rfl) rfl rfl ?_
    refine iQ _ _ rfl W8.heap.size v3 l0.sl.length l0.sl rfl h3 (some ⟨V3.heap.size,0,none⟩) 1 1 [⟨wk,wu,wd,0,0⟩] rfl rfl (RB.out V5 _ hk1) (by omega) Ou.size ?_
    intro v4 V4 h4 hg4 _
    obtain⟨hb4,ao,ck,rfl,x4,f4,hrt⟩:=qF.out V5 v3 v4 V4 Ou h3 h4 hg4
    refine⟨fun _=>hb4,?_⟩
    refine aF (i:=13) (by kernel_rfl) rfl rfl ?_
    go_simp
    first | refine⟨hb4,?_⟩ | skip
    refine aF (i:=14) (by kernel_rfl) rfl rfl ?_
    go_simp
    refine aT (by kernel_rfl) ?_
    go_wp2
    go_meet
    exact⟨_,_,hrt⟩
   ·go_simp
    have hk1:=heap_alloc_new V1 (.cells #[.string wk,.int .i64 wu,.int .i64 wd,.int .i64 0,.int .i64 0] 88)
    have Ou:=hV1.alloc hV1.size (.cells #[.string wk,.int .i64 wu,.int .i64 wd,.int .i64 0,.int .i64 0] 88)
    have hp1:V1.heap.size<(V1.alloc (.cells #[.string wk,.int .i64 wu,.int .i64 wd,.int .i64 0,.int .i64 0] 88)).heap.size:=by simp
    have Ot:=aJ Ot ((aL V1.heap.size V1).alloc (aC _) (.cells #[.string wk,.int .i64 wu,.int .i64 wd,.int .i64 0,.int .i64 0] 88)) (aC _)
    have hz1:Wd.heap.size<V1.heap.size:=hs1
    refine⟨Ou,?_⟩
    generalize V1.alloc (.cells #[.string wk,.int .i64 wu,.int .i64 wd,.int .i64 0,.int .i64 0] 88)=V5 at*
    refine aF (i:=3) (by kernel_rfl) rfl rfl ?_
    refine iQ _ _ rfl W8.heap.size _ 0 [] rfl Ot y5 l0.sl.length y7 l0.sl rfl rfl (vE.out.keep Ou (aC _)) (by omega) Ou.size ?_
    intro v3 V3 h3 hg3 _
    rw[Nat.zero_add,List.nil_append]at h3
    have Ja:Below W8.heap.size W8 V3:=Ou.grown hg3 Ou.size (fun g hg=>(Ot.lt g hg).1)
    have hk1:=(hg3.block V1.heap.size hp1 (fun e=>by have e2:V1.heap.size=Wd.heap.size:=Option.some.inj e;omega)).trans hk1
    refine⟨fun _=>Ja,?_⟩
    refine aF (i:=12) (by kernel_rfl) rfl rfl ?_
    refine iQ _ _ rfl W8.heap.size v3 l0.sl.length l0.sl rfl h3 (some ⟨V1.heap.size,0,none⟩) 1 1 [⟨wk,wu,wd,0,0⟩] rfl rfl (RB.out V3 _ hk1) (by omega) Ja.size ?_
    intro v4 V4 h4 hg4 _
    obtain⟨hb4,ao,ck,rfl,x4,f4,hrt⟩:=qF.out V3 v3 v4 V4 Ja h3 h4 hg4
    refine⟨fun _=>hb4,?_⟩
    refine aF (i:=13) (by kernel_rfl) rfl rfl ?_
    go_simp
    first | refine⟨hb4,?_⟩ | skip
    refine aF (i:=14) (by kernel_rfl) rfl rfl ?_
    go_simp
    refine aT (by kernel_rfl) ?_
    go_wp2
    go_meet
    exact⟨_,_,hrt⟩
  ·go_simp
   have hk1:=heap_alloc_new Wd (.cells #[.string wk,.int .i64 wu,.int .i64 wd,.int .i64 0,.int .i64 0] 88)
   have hV1:=hS0.alloc hS0.size (.cells #[.string wk,.int .i64 wu,.int .i64 wd,.int .i64 0,.int .i64 0] 88)
   have hp1:Wd.heap.size<(Wd.alloc (.cells #[.string wk,.int .i64 wu,.int .i64 wd,.int .i64 0,.int .i64 0] 88)).heap.size:=by simp
   refine⟨hV1,?_⟩
   generalize Wd.alloc (.cells #[.string wk,.int .i64 wu,.int .i64 wd,.int .i64 0,.int .i64 0] 88)=V1 at*
   refine aF (i:=0) (by kernel_rfl) rfl rfl ?_
   go_simp
   have Ot:(V1.alloc (.cells #[] 88)).ownsRow W8.heap.size 88 5 (.slice (some ⟨V1.heap.size,0,none⟩) 0 0) 0 []:=cO _ _ _ _ 5 #[] 0 rfl hV1.size (by omega) rfl
   have hV2:=hV1.alloc hV1.size (.cells #[] 88)
   have hk1:=aj hk1 ((aL V1.heap.size V1).alloc (aC _) (.cells #[] 88)) hp1
   have hp2:V1.heap.size<(V1.alloc (.cells #[] 88)).heap.size:=by simp
   refine⟨hV2,?_⟩
   have hz0:W8.heap.size≤V1.heap.size:=hV1.size
   generalize V1.alloc (.cells #[] 88)=V2 at*
   refine aF (i:=3) (by kernel_rfl) rfl rfl ?_
   refine iQ _ _ rfl W8.heap.size _ 0 [] rfl Ot y5 l0.sl.length y7 l0.sl rfl rfl (vE.out.keep hV2 (aC _)) (by omega) hV2.size ?_
   intro v3 V3 h3 hg3 _
   rw[Nat.zero_add,List.nil_append]at h3
   have Ja:Below W8.heap.size W8 V3:=hV2.grown hg3 hV2.size (fun g hg=>(Ot.lt g hg).1)
   have hk1:=(hg3.block Wd.heap.size (by omega) (fun e=>by have e2:Wd.heap.size=V1.heap.size:=Option.some.inj e;omega)).trans hk1
   refine⟨fun _=>Ja,?_⟩
   refine aF (i:=12) (by kernel_rfl) rfl rfl ?_
   refine iQ _ _ rfl W8.heap.size v3 l0.sl.length l0.sl rfl h3 (some ⟨Wd.heap.size,0,none⟩) 1 1 [⟨wk,wu,wd,0,0⟩] rfl rfl (RB.out V3 _ hk1) (by omega) Ja.size ?_
   intro v4 V4 h4 hg4 _
   obtain⟨hb4,ao,ck,rfl,x4,f4,hrt⟩:=qF.out V3 v3 v4 V4 Ja h3 h4 hg4
   refine⟨fun _=>hb4,?_⟩
   refine aF (i:=13) (by kernel_rfl) rfl rfl ?_
   go_simp
   first | refine⟨hb4,?_⟩ | skip
   refine aF (i:=14) (by kernel_rfl) rfl rfl ?_
   go_simp
   refine aT (by kernel_rfl) ?_
   go_wp2
   go_meet
   exact⟨_,_,hrt⟩
end Go.Proofs.YtlfopoimbbpfdaaGreat
namespace Go.Proofs.YtlfopoimbbpfdaaGreat
open Go.RowKit
attribute [local go_sem ↓] Go.wp_at_zero Go.wp_at_succ
set_option maxRecDepth 100000 in
set_option maxHeartbeats 8000000 in
theorem Jb (fI w W:World) (b0:Bk) (l0:Ls) (wn:Wn) (x:bZ) (y:bV) (Yv PE:Option Addr) (an ac fn DF:Nat) (h:Rt fI w W x b0 y l0 wn) (hw:Dz b0 l0 wn) (hc:fK b0 wn=0) (he:dB b0 wn=0) (h1:W.ownsRow w.heap.size 56 2 (.slice Yv an ac) (bO b0.free wn.ids).1.length (aR (bO b0.free wn.ids).1)) (h2:W.ownsRow w.heap.size 56 2 (.slice PE fn DF) (bO b0.free wn.ids).2.length (aR (bO b0.free wn.ids).2)) (u0 u1 u2 u8 u9 u14 u15 u16 u17 u18 u19 u20 u21 u22 u23 u24 u25 u26 u27 u28 u29 u30 u31 u32 u33 u34 u35 u36 u37 u38 u39 u40 u41 u42 u43 u44 u45 u46 u47 u48 u49 u50 u51 u52 u53 u54 u55 u56 u57 u58 u59 u60 u61 u62 u63 u64 u65 u66 u67 u68 u69 u70 u71 u72 u73 u74 u75 u76 u77 u78 u79 u80 u81 u82 u83 u84 u85 u86 u87 u88 u89 u90 u91 u92 u93 u94 u95 u96 u97 u98 u99 u100 u101 u102 u103 u104 u105 u106 u107 u108 u109 u110 u111 u112 u113 u114 u115 u116 u117 u118 u119 u120 u121 u122 u123 u124 u125 u126 u127 u128 u129 u130 u131 u132 u133 u134 u135 u136 u137 u138 u139 u140 u141 u142 u143 u144 u145 u146 u147 u148 u149 u150 u151 u152 u153 u154 u155 u156 u157 u158 u159 u160 u161 u162 u163 u164 u165 u166 u167 u168 u169 u170 u171 u172 u173 u174 u175 u176 u177 u178 u179 u180 u181 u182 u183 u184 u185 u186 u187 u188 u189 u190 u191 u192 u193 u194 u195 u196 u197 u198 u199 u200 u201 u202:Value):
  ∀c,Tryz.f78.body.bind (spine 8)=some c→Code.wp Tryz.prog c (bodyPost Tryz.prog Tryz.f78 (jC fI w b0 l0 wn)) ⟨#[u0,u1,u2,.pointer (some ⟨w.heap.size,0,none⟩),.pointer (some ⟨w.heap.size+1,0,none⟩),.pointer (some ⟨w.heap.size+1+1,0,none⟩),.pointer (some ⟨w.heap.size+1+1+1,0,none⟩),.pointer (some ⟨w.heap.size+1+1+1+1,0,none⟩),u8,u9,.int .i64 (bH b0.cs wn.key),.slice Yv an ac,.slice PE fn DF,.int .i64 0,u14,u15,u16,u17,u18,u19,u20,u21,u22,u23,u24,u25,u26,u27,u28,u29,u30,u31,u32,u33,u34,u35,u36,u37,u38,u39,u40,u41,u42,u43,u44,u45,u46,u47,u48,u49,u50,u51,u52,u53,u54,u55,u56,u57,u58,u59,u60,u61,u62,u63,u64,u65,u66,u67,u68,u69,u70,u71,u72,u73,u74,u75,u76,u77,u78,u79,u80,u81,u82,u83,u84,u85,u86,u87,u88,u89,u90,u91,u92,u93,u94,u95,u96,u97,u98,u99,u100,u101,u102,u103,u104,u105,u106,u107,u108,u109,u110,u111,u112,u113,u114,u115,u116,u117,u118,u119,u120,u121,u122,u123,u124,u125,u126,u127,u128,u129,u130,u131,u132,u133,u134,u135,u136,u137,u138,u139,u140,u141,u142,u143,u144,u145,u146,u147,u148,u149,u150,u151,u152,u153,u154,u155,u156,u157,u158,u159,u160,u161,u162,u163,u164,u165,u166,u167,u168,u169,u170,u171,u172,u173,u174,u175,u176,u177,u178,u179,u180,u181,u182,u183,u184,u185,u186,u187,u188,u189,u190,u191,u192,u193,u194,u195,u196,u197,u198,u199,u200,u201,u202],[]⟩ W:=by
 refine dH rfl ?_
 obtain⟨⟨ca,cn,cc⟩,⟨fa,aX,fc⟩,⟨la,ln,lc⟩,⟨ba,b_n,bc⟩⟩:=x
 obtain⟨y1,y2,y3,y4,⟨y5,y6,y7⟩,⟨y8,y9,bW⟩,⟨bX,cB,y13⟩⟩:=y
 have HE:=ah he
 have HC:=ah hc
 have HB:=ah hw
 have hTs:=qE b0.free wn.ids (by
  have h1:=nT wn.key wn.up wn.down wn.ids
  rw[show (⟨wn.key,wn.up,wn.down,wn.ids⟩:Wn)=wn from rfl,(gI hc).1]at h1
  simp at h1
  omega) (by
  by_cases hle:bR b0.free<wn.ids
  ·unfold dB at he
   rw[if_pos hc,if_pos hle]at he
   cases he
  ·omega) HB.out.fr
 have HTR:=ah hTs.1
 have hlen:=nN b0.free wn.ids
 have hnf:=HB.out.nf
 have hni:=HB.out.ni
 have HW8:=ah ((h.Az (f':=⟨PE,fn,DF⟩) h2))
 have HO1:=ah (aH h1 (fun c hc=>aW W _ _ (fun e=>hc e.symm) (.slice PE fn DF):∀c,c≠w.heap.size→(W.setCell ⟨w.heap.size,1,none⟩ (.slice PE fn DF)).heap[c]? =W.heap[c]?) h.q.k3 (by decide))
 obtain⟨q9,_,_⟩:=Sl.lens (s:=⟨Yv,an,ac⟩) (aI h1)
 simp only at q9
 subst q9
 obtain⟨c0,c1,c2,c3,_⟩:=ay h.q.k3
 simp only[Sv.v]at c0 c1 c2 c3
 have f1:=aA h.q.k3 1
 clear h hw he h1 h2 hTs hc
 go_upto_block 2 with fail
 simp only[Sv.v]at HW8
 clear c0 c1 c2 c3 f1
 generalize W.setCell ⟨w.heap.size,1,none⟩ (.slice PE fn DF)=W8 at*
 generalize Yw:(bO b0.free wn.ids).1=ta at*
 go_cut[] (fun wx=>∃y',Rt fI w wx ⟨⟨ca,cn,cc⟩,⟨PE,fn,DF⟩,⟨la,ln,lc⟩,⟨ba,b_n,bc⟩⟩ ⟨b0.cs,(bO b0.free wn.ids).2,b0.ls,b0.bound⟩ y' ⟨l0.dev,l0.epoch,l0.bY,l0.last,l0.sl,bG l0.ids ta,l0.used⟩ wn)
 case rest=>
  obtain⟨y',hrt⟩:=hcut
  go_step
  exact I_ fI w _ b0 l0 wn _ y' (by rw[Yw];exact hrt) HB.out HC.out HE.out _ _ _ _ _ _ _ _ _ _ _ _ _ _ _ _ _ _ _ _ _ _ _ _ _ _ _ _ _ _ _ _ _ _ _ _ _ _ _ _ _ _ _ _ _ _ _ _ _ _ _ _ _ _ _ _ _ _ _ _ _ _ _ _ _ _ _ _ _ _ _ _ _ _ _ _ _ _ _ _ _ _ _ _ _ _ _ _ _ _ _ _ _ _ _ _ _ _ _ _ _ _ _ _ _ _ _ _ _ _ _ _ _ _ _ _ _ _ _ _ _ _ _ _ _ _ _ _ _ _ _ _ _ _ _ _ _ _ _ _ _ _ _ _ _ _ _ _ _ _ _ _ _ _ _ _ _ _ _ _ _ _ _ _ _ _ _ _ _ _ _ _ _ _ _ _ _ _ _ _ _ _ _ _ _ _ _ _ _ _ _ _ _ _ _ _ _ _ rfl
 case first=>
 go_wp2
 go_loopw[14] (fun v14 wr=>∃ (j:Nat) (iv:Sv),j≤ta.length∧v14= .int .i64 j∧Rt fI w wr ⟨⟨ca,cn,cc⟩,⟨PE,fn,DF⟩,⟨la,ln,lc⟩,⟨ba,b_n,bc⟩⟩ ⟨b0.cs,(bO b0.free wn.ids).2,b0.ls,b0.bound⟩ ⟨y1,y2,y3,y4,⟨y5,y6,y7⟩,iv,⟨bX,cB,y13⟩⟩ ⟨l0.dev,l0.epoch,l0.bY,l0.last,l0.sl,bG l0.ids (ta.take j),l0.used⟩ wn∧wr.ownsRow w.heap.size 56 2 (.slice Yv ta.length ac) ta.length (aR ta)) (fun v14 _=>ta.length-(intOf v14).toNat)
 case atStart=>exact⟨0,⟨y8,y9,bW⟩,Nat.zero_le _,rfl,HW8.out,HO1.out⟩
 case round=>
  obtain⟨j,⟨M6,Px,Lp⟩,hj,rfl,hrt,hto⟩:=hrel
  have nG:=ah hrt
  have JF:=ah hto
  clear hrt hto
  by_cases hlt:j<ta.length
  ·have uF:(j:Int)<ta.length:=by omega
   have j0:(0:Int)≤(j:Int):=by omega
   obtain⟨rb,ro,rfl,hrb,r0,r1⟩:=fq.pair (aI JF.out) (aL _ _) (aC _) j hlt
   have HAS:Hid (bG l0.ids (ta.take (j+1))=gG (bG l0.ids (ta.take j)) ta[j]):=ah (by rw[aV ta j hlt,lY])
   have hal:=gH (ta.take j) l0.ids
   have KV:(bG l0.ids (ta.take j)).length<1000000:=by rw[List.length_take]at hal;omega
   have oP:=ah (HTR.out.1 ta[j] (List.getElem_mem hlt))
   have HAR:Hid (vw (bG l0.ids (ta.take j)) ta[j]=gG (bG l0.ids (ta.take j)) ta[j]):=ah (by
    rw[Ga (xP _ HB.out.row (HTR.out.take j)) oP.out.2.1,vO oP.out])
   clear hal
   generalize hfr:bG l0.ids (ta.take j)=fr at*
   generalize ta[j]=r at*
   obtain⟨p,q⟩:=r
   simp only at r0 r1
   go_upto_region 22 with fail
   refine aS 8 (fun w'=>Below wr.heap.size wr w') (by kernel_rfl) ?_
   have hS0:Below wr.heap.size wr wr.drew:=(aL _ _).drew
   refine aD (i:=0) (v:=.pointer (some ⟨w.heap.size+1,5,none⟩)) rfl rfl (by kernel_rfl) (by kernel_rfl) (by kernel_rfl) (by kernel_rfl) (by kernel_rfl) (by decide) (fun _ _ _ h=>h) (.inl ⟨rfl,fun w' hw=>?_⟩) hS0 ?_
   ·go_simp
   refine aD (i:=1) (v:=.slice M6 Px Lp) rfl rfl (by kernel_rfl) (by kernel_rfl) (by kernel_rfl) (by kernel_rfl) (by kernel_rfl) (by decide) (fun _ _ _ h=>h) (.inl ⟨rfl,fun w' hw=>?_⟩) hS0 ?_
   ·obtain⟨_,_,_,_,_,a5,_⟩:=aB (nG.out.q.keep hw).k4
    simp only[Sv.v]at a5
    go_simp
   refine aD (i:=2) (v:=.slice (some ⟨rb,ro,none⟩) ta.length ac) rfl rfl (by kernel_rfl) (by kernel_rfl) (by kernel_rfl) (by kernel_rfl) (by kernel_rfl) (by decide) (fun _ _ _ h=>h) (.inl ⟨rfl,fun w' hw=>?_⟩) hS0 ?_
   ·go_simp
   refine aD (i:=3) (v:=.int .i64 j) rfl rfl (by kernel_rfl) (by kernel_rfl) (by kernel_rfl) (by kernel_rfl) (by kernel_rfl) (by decide) (fun _ _ _ h=>h) (.inl ⟨rfl,fun w' hw=>?_⟩) hS0 ?_
   ·go_simp
   refine aD (i:=4) (v:=.pointer (some ⟨rb,ro+j*2,none⟩)) rfl rfl (by kernel_rfl) (by kernel_rfl) (by kernel_rfl) (by kernel_rfl) (by kernel_rfl) (by decide) (fun _ _ _ h=>h) (.inl ⟨rfl,fun w' hw=>?_⟩) hS0 ?_
   ·go_simp
   refine aD (i:=5) (v:=.agg #[.int .i64 p,.int .i64 q]) rfl rfl (by kernel_rfl) (by kernel_rfl) (by kernel_rfl) (by kernel_rfl) (by kernel_rfl) (by decide) (fun _ _ _ h=>h) (.inl ⟨rfl,fun w' hw=>?_⟩) hS0 ?_
   ·have a7:w'.cell? ⟨rb,ro+j*2,none⟩=some (.int .i64 p):=by rw[hw.cell (p:=⟨rb,ro+j*2,none⟩) hrb];exact r0
    have a8:w'.cell? ⟨rb,ro+j*2+1,none⟩=some (.int .i64 q):=by rw[hw.cell (p:=⟨rb,ro+j*2+1,none⟩) hrb];exact r1
    go_simp
   refine aF (i:=6) (by kernel_rfl) rfl rfl ?_
   go_simp
   refine(wN _ fr p q _ ((nG.out.r.ri.sl nG.out.r.aZ).keep (aL _ _).drew (aC _)) KV oP.out.2.1 oP.out.1 oP.out.2.2).mono ?_
   rw[HAR.out]
   rintro e Ba ⟨v',rfl,ho,ou⟩
   obtain⟨jl,cap',rfl,_,_⟩:=aP ho
   have iK:Below wr.heap.size wr Ba:=(aL wr.heap.size wr).drew.trans ou
   refine⟨iK,?_⟩
   have Aa:=nG.out.keep iK
   have Dx:=ah (Aa.Kg (i':=⟨jl,_,cap'⟩) (aO ho (show w.heap.size≤wr.drew.heap.size from nG.out.q.aZ.size)))
   have aaK:=ah (aH (aJ JF.out iK (aC _)) (fun c hc=>aW Ba _ _ (fun e=>hc e.symm) (.slice jl _ cap'):∀c,c≠w.heap.size+1→(Ba.setCell ⟨w.heap.size+1,5,none⟩ (.slice jl (gG fr (p,q)).length cap')).heap[c]? =Ba.heap[c]?) Aa.q.k4 (by decide))
   obtain⟨_,_,_,_,_,a5,_⟩:=aB Aa.q.k4
   have f5:=ak Aa.q.k4 5
   simp only[Sv.v]at a5 Dx
   have Dm:=ah iK
   clear Aa ho ou iK
   refine aF (i:=7) (by kernel_rfl) rfl rfl ?_
   go_simp
   refine⟨Dm.out,?_⟩
   refine aF (i:=8) (by kernel_rfl) rfl rfl ?_
   go_simp
   refine aT (by kernel_rfl) ?_
   go_wp2
   go_roundw
   case rel=>exact⟨j+1,⟨jl,_,cap'⟩,by omega,by go_num,by rw[HAS.out];exact Dx.out,aaK.out⟩
   case measure=>simp[intOf];omega
  ·have HE2:Hid (j=ta.length):=ah (by omega)
   have uF:¬ (j:Int)<ta.length:=by omega
   go_wp2
   go_meet
   have h1:=nG.out
   rw[HE2.out,List.take_length]at h1
   exact⟨_,h1⟩
end Go.Proofs.YtlfopoimbbpfdaaGreat
