/- What the law asks, in parts: ZO ZQ. -/
import Derived.Deep.DrawnRows
import Derived.Test.YtlfopoimbbpfdaaGreatPk21
import Derived.Test.YtlfopoimbbpfdaaGreatPk12
set_option linter.all false
set_option maxRecDepth 100000
set_option maxHeartbeats 16000000
namespace Go.Proofs.YtlfopoimbbpfdaaGreat
open Go.RowKit
section
attribute [local go_sem ↓] Go.wp_at_zero Go.wp_at_succ
theorem NI (gW w W:World) (b0:Bk) (l0:Ls) (wn:Wn) (x:dN) (y:cB) (h:Rt gW w W x ⟨b0.cs,(bY b0.free wn.ids).2,b0.ls,b0.bound⟩ y ⟨l0.dev,l0.epoch,l0.bU,l0.last,l0.sl,bK l0.ids (bY b0.free wn.ids).1,l0.used⟩ wn) (hw:Hu b0 l0 wn) (hc:g_ b0 wn=0) (he:dY b0 wn=0) {u0 u1 u2 u8 u9 u11 u12 u13 u14 u15 u16 u17 u18 u19 u20 u21 u22 u23 u24 u25 u26 u27 u28 u29 u30 u31 u32 u33 u34 u35 u36 u37 u38 u39 u40 u41 u42 u43 u44 u45 u46 u47 u48 u49 u50 u51 u52 u53 u54 u55 u56 u57 u58 u59 u60 u61 u62 u63 u64 u65 u66 u67 u68 u69 u70 u71 u72 u73 u74 u75 u76 u77 u78 u79 u80 u81 u82 u83 u84 u85 u86 u87 u88 u89 u90 u91 u92 u93 u94 u95 u96 u97 u98 u99 u100 u101 u102 u103 u104 u105 u106 u107 u108 u109 u110 u111 u112 u113 u114 u115 u116 u117 u118 u119 u120 u121 u122 u123 u124 u125 u126 u127 u128 u129 u130 u131 u132 u133 u134 u135 u136 u137 u138 u139 u140 u141 u142 u143 u144 u145 u146 u147 u148 u149 u150 u151 u152 u153 u154 u155 u156 u157 u158 u159 u160 u161 u162 u163 u164 u165 u166 u167 u168 u169 u170 u171 u172 u173 u174 u175 u176 u177 u178 u179 u180 u181 u182 u183 u184 u185 u186 u187 u188 u189 u190 u191 u192 u193 u194 u195 u196 u197 u198 u199 u200 u201 u202:Value}:
  ∀c,Tryz.f78.body.bind (spine 11)=some c→Code.wp Tryz.prog c (bodyPost Tryz.prog Tryz.f78 (kV gW w b0 l0 wn)) ⟨#[u0,u1,u2,.pointer (some ⟨w.heap.size,0,none⟩),.pointer (some ⟨w.heap.size+1,0,none⟩),.pointer (some ⟨w.heap.size+1+1,0,none⟩),.pointer (some ⟨w.heap.size+1+1+1,0,none⟩),.pointer (some ⟨w.heap.size+1+1+1+1,0,none⟩),u8,u9,.int .i64 (bJ b0.cs wn.key),u11,u12,u13,u14,u15,u16,u17,u18,u19,u20,u21,u22,u23,u24,u25,u26,u27,u28,u29,u30,u31,u32,u33,u34,u35,u36,u37,u38,u39,u40,u41,u42,u43,u44,u45,u46,u47,u48,u49,u50,u51,u52,u53,u54,u55,u56,u57,u58,u59,u60,u61,u62,u63,u64,u65,u66,u67,u68,u69,u70,u71,u72,u73,u74,u75,u76,u77,u78,u79,u80,u81,u82,u83,u84,u85,u86,u87,u88,u89,u90,u91,u92,u93,u94,u95,u96,u97,u98,u99,u100,u101,u102,u103,u104,u105,u106,u107,u108,u109,u110,u111,u112,u113,u114,u115,u116,u117,u118,u119,u120,u121,u122,u123,u124,u125,u126,u127,u128,u129,u130,u131,u132,u133,u134,u135,u136,u137,u138,u139,u140,u141,u142,u143,u144,u145,u146,u147,u148,u149,u150,u151,u152,u153,u154,u155,u156,u157,u158,u159,u160,u161,u162,u163,u164,u165,u166,u167,u168,u169,u170,u171,u172,u173,u174,u175,u176,u177,u178,u179,u180,u181,u182,u183,u184,u185,u186,u187,u188,u189,u190,u191,u192,u193,u194,u195,u196,u197,u198,u199,u200,u201,u202],[]⟩ W:=by
 refine dP rfl ?_;obtain⟨wk,wu,wd,wi⟩:=wn;have HE:=ah he;have TI:=ah (iP hc);have HB:=ah hw;have LK:=ah h;clear h he hc hw
 cases hE:emp wk with
 | true=>
  have Qj:Hid (bJ b0.cs wk= -1):=ah (by
   rcases b_ (fun c:Ct=>decide (c.key=wk)) b0.cs with⟨hi,_⟩ | ⟨i,hi,BZ,hp,_⟩
   ·exact hi
   ·have h1:=HB.out.key b0.cs[i] (List.getElem_mem hi)
    have h2:b0.cs[i].key=wk:=of_decide_eq_true hp;rw[h2,hE]at h1
    cases h1)
  simp only;rw[Qj.out]
  have HBT:Hid (Rt gW w W x (iG b0 ⟨wk,wu,wd,wi⟩) y (jG b0 l0 ⟨wk,wu,wd,wi⟩) ⟨wk,wu,wd,wi⟩):=ah (by
   have h1:=LK.out;unfold iG jG;simp only[hE,if_true]
   exact h1)
  clear Qj hE LK TI HB;go_upto_if 153 with fail
  go_cut[] (fun wx=>wx=W)
  case first=>
   go_wp2;go_meet;rfl
  case rest=>
  subst hcut;go_step;exact DY gW w _ b0 l0 _ x y HBT.out HE.out _ rfl
 | false=>
  obtain⟨_,sF,hu,hd⟩:=TI.out.2.resolve_left (by rw[hE];simp);have hkk':¬bJ b0.cs wk<0:=sF
  obtain⟨jj,hjj,lq⟩:∃jj:Nat,bJ b0.cs wk=jj∧jj<b0.cs.length:=by
   rcases b_ (fun c:Ct=>decide (c.key=wk)) b0.cs with⟨hi,_⟩ | ⟨i,hi,BZ,_,_⟩
   ·have hi':bJ b0.cs wk= -1:=hi
    omega
   ·exact⟨i,BZ,hi⟩
  have hct:kL b0 ⟨wk,wu,wd,wi⟩=b0.cs[jj]:=by
   show b0.cs.getD (bJ b0.cs wk).toNat l8=_;rw[hjj,Int.toNat_natCast,List.getD_eq_getElem?_getD,List.getElem?_eq_getElem lq];rfl
  rw[hct]at hu hd
  have xM:Hid (iG b0 ⟨wk,wu,wd,wi⟩=⟨b0.cs.set jj ⟨b0.cs[jj].key,b0.cs[jj].coll,b0.cs[jj].lo,b0.cs[jj].hi,b0.cs[jj].start,b0.cs[jj].up-wu,b0.cs[jj].down-wd⟩,(bY b0.free wi).2,b0.ls,b0.bound⟩∧jG b0 l0 ⟨wk,wu,wd,wi⟩=⟨l0.dev,l0.epoch,l0.bU,l0.last,l0.sl++ [⟨wk,wu,wd,0,0⟩],bK l0.ids (bY b0.free wi).1,l0.used⟩):=ah (by
   constructor
   ·unfold iG
    rw[hct];simp[hE,hjj]
   ·unfold jG
    simp[hE])
  have hwb:(0≤wu∧wu≤2199023255552)∧0≤wd∧wd≤2199023255552:=by
   have h1:=rG wk wu wd wi;rw[TI.out.1]at h1;simp at h1;omega
  obtain⟨o1,o2,o3,o4⟩:=HB.out.ct b0.cs[jj] (List.getElem_mem lq);have i1:IntKind.i64.wrap (b0.cs[jj].up-wu)=b0.cs[jj].up-wu:=IntWalk.i64_in _ (by omega);have i2:IntKind.i64.wrap (b0.cs[jj].down-wd)=b0.cs[jj].down-wd:=IntWalk.i64_in _ (by omega);have HI:=ah (And.intro i1 i2);have zR:=HB.out.nc;have HNS:=ah HB.out.ns;have aav:(jj:Int)<b0.cs.length:=by omega
  have aaw:(0:Int)≤(jj:Int):=by omega
  clear hct sF hkk' hu hd hwb o1 o2 o3 o4 i1 i2 TI hE HB;simp only;rw[hjj];clear hjj;obtain⟨⟨ca,cn,cc⟩,⟨fa,bD,fc⟩,⟨la,ln,lc⟩,⟨ba,bE,bc⟩⟩:=x;obtain⟨y1,y2,y3,y4,⟨y5,y6,y7⟩,⟨y8,y9,dz⟩,⟨dA,dJ,cK⟩⟩:=y;obtain⟨q3,q4,q5⟩:=Sl.lens (s:=⟨ca,cn,cc⟩) (LK.out.r.rc.sl LK.out.r.bC);obtain⟨r3,r4,r5⟩:=Sl.lens (s:=⟨y5,y6,y7⟩) (LK.out.r.rs.sl LK.out.r.bC);simp only at q3 q4 q5 r3 r4 r5;subst q3 r3;generalize (bY b0.free wi).2=fr at*;generalize bK l0.ids (bY b0.free wi).1=ids at*;have u_:=ah (dI.rd (f:=kY) (E:=7) (l:=b0.cs) (LK.out.r.rc.sl LK.out.r.bC));obtain⟨c0,c1,c2,c3,_⟩:=ay LK.out.q.k3;simp only[Sv.v]at c0 c1 c2 c3;go_upto_if 153 with fail
  go_cut[] (fun wx=>∃x' y',Rt gW w wx x' (iG b0 ⟨wk,wu,wd,wi⟩) y' (jG b0 l0 ⟨wk,wu,wd,wi⟩) ⟨wk,wu,wd,wi⟩)
  case rest=>
   obtain⟨x',y',hrt⟩:=hcut;go_step;exact DY gW w _ b0 l0 _ x' y' hrt HE.out _ rfl
  case first=>
  go_upto_region 25 with((with_reducible refine aZ 157 ?_);refine nW rfl _ _ rfl W.heap.size _ 0 [] rfl (dB _ _ _ _ 7 #[] 0 rfl (aC _) (by omega) rfl) ca b0.cs.length cc b0.cs rfl rfl (u_.out.alloc _) (by omega) (by simp) ?_;intro v5 w6 gP hg5 m_;obtain⟨rP,cp,rfl,_,_⟩:=aO gP;have gD:=gZ hg5;have k5:=aj LK.out.q.k3 gD (bq LK.out.q.k3).1;obtain⟨d0,d1,d2,d3,_⟩:=ay k5;have f00:=aA k5 0)
  rw[Nat.zero_add,List.nil_append]at gP;have Cc:=ah ((LK.out.keep gD).aat (c':=⟨rP,b0.cs.length,cp⟩) (aN gP LK.out.q.bC.size));simp only[Sv.v]at Cc;clear gP hg5 m_ gD k5 d0 d1 d2 d3 f00 c0 c1 c2 c3 u_ LK;generalize w6.setCell ⟨w.heap.size,0,none⟩ (.slice rP b0.cs.length cp)=W7 at*;obtain⟨cg,Ww,hcx⟩:=fT Cc.out.2 (show 0<b0.cs.length by omega);injection hcx with hcx aja aeG;subst hcx aeG
  have W_:Hid (Rt gW w ((W7.drew.setCell ⟨cg,jj*7+5,none⟩ (.int .i64 (b0.cs[jj].up-wu))).setCell ⟨cg,jj*7+6,none⟩ (.int .i64 (b0.cs[jj].down-wd))) ⟨⟨some ⟨cg,0,none⟩,b0.cs.length,cp⟩,⟨fa,bD,fc⟩,⟨la,ln,lc⟩,⟨ba,bE,bc⟩⟩ (iG b0 ⟨wk,wu,wd,wi⟩) ⟨y1,y2,y3,y4,⟨y5,l0.sl.length,y7⟩,⟨y8,y9,dz⟩,⟨dA,dJ,cK⟩⟩ ⟨l0.dev,l0.epoch,l0.bU,l0.last,l0.sl,ids,l0.used⟩ ⟨wk,wu,wd,wi⟩):=ah (by
   rw[xM.out.1]
   exact(Cc.out.1.keep (aL _ _).drew).aau (aI Cc.out.2 (aL _ _).drew (aC _)) rfl jj lq _ _)
  obtain⟨p1,p2,p3,p4,p5,p6,p7⟩:=bg Cc.out.2;have u5:W7.drew.cell? ⟨cg,jj*7+5,none⟩=some (.int .i64 b0.cs[jj].up):=p7 _ _ (by rw[bV fG _ jj lq 5 (by omega)];rfl);have u6:W7.drew.cell? ⟨cg,jj*7+6,none⟩=some (.int .i64 b0.cs[jj].down):=p7 _ _ (by rw[bV fG _ jj lq 6 (by omega)];rfl);have g5:W7.drew.frozen? ⟨cg,jj*7+5,none⟩=false:=p6 (jj*7+5);have g7:W7.drew.frozen? ⟨cg,jj*7+6,none⟩=false:=p6 (jj*7+6)
  have Hw:Hid (∀u:Value,(W7.drew.setCell ⟨cg,jj*7+5,none⟩ u).frozen? ⟨cg,jj*7+6,none⟩=false∧(W7.drew.setCell ⟨cg,jj*7+5,none⟩ u).cell? ⟨cg,jj*7+6,none⟩=some (.int .i64 b0.cs[jj].down)):=ah (fun u=>by
   have o1:=dV (aI Cc.out.2 (aL _ _).drew (aC _)) (jj*7+5) (by rw[bP fG];omega) u;obtain⟨_,_,_,_,_,t6,t7⟩:=bg o1
   exact⟨t6 (jj*7+6),t7 _ _ (by rw[List.getElem?_set_ne (by omega),bV fG _ jj lq 6 (by omega)];rfl)⟩)
  have HS:Hid (∀V:World,(∀c,c≠cg→V.heap[c]? =W7.heap[c]?)→V.cell? ⟨w.heap.size,0,none⟩=some (.slice (some ⟨cg,0,none⟩) b0.cs.length cp)∧V.cell? ⟨w.heap.size+1+1,1,none⟩=some (.int .i64 wu)∧V.cell? ⟨w.heap.size+1+1,2,none⟩=some (.int .i64 wd)):=ah (fun V hV=>by
   obtain⟨cur,rD⟩:=eB Cc.out.2;have a:=oG Cc.out.1.q.k3 hV rD (by decide);have b:=oG Cc.out.1.q.k5 hV rD (by decide);obtain⟨a0,_⟩:=ay a;obtain⟨_,b1,b2,_⟩:=ay b
   exact⟨a0,b1,b2⟩)
  clear p1 p2 p3 p4 p5 p6 p7;generalize b0.cs[jj].up=cu at*;generalize b0.cs[jj].down=cd at*;obtain⟨i1,i2⟩:=HI.out
  go_cut[] (fun wx=>wx=((W7.drew.setCell ⟨cg,jj*7+5,none⟩ (.int .i64 (cu-wu))).setCell ⟨cg,jj*7+6,none⟩ (.int .i64 (cd-wd))))
  case first=>
   refine aW 29 (fun w'=>w'.cell? ⟨w.heap.size,0,none⟩=some (.slice (some ⟨cg,0,none⟩) b0.cs.length cp)∧w'.cell? ⟨w.heap.size+1+1,1,none⟩=some (.int .i64 wu)∧w'.cell? ⟨w.heap.size+1+1,2,none⟩=some (.int .i64 wd)) (by kernel_rfl) ?_;have aQ:=HS.out W7.drew (fun c _=>rfl);refine aP (i:=0) (v:=.pointer (some ⟨w.heap.size,0,none⟩)) rfl rfl (by kernel_rfl) (fun _ _ _ h=>h) (.inl ⟨rfl,fun w' hw=>?_⟩) aQ ?_
   ·obtain⟨h0,h1,h2⟩:=hw
    go_simp
   refine aP (i:=1) (v:=.slice (some ⟨cg,0,none⟩) b0.cs.length cp) rfl rfl (by kernel_rfl) (fun _ _ _ h=>h) (.inl ⟨rfl,fun w' hw=>?_⟩) aQ ?_
   ·obtain⟨h0,h1,h2⟩:=hw
    go_simp
   refine aP (i:=2) (v:=.int .i64 jj) rfl rfl (by kernel_rfl) (fun _ _ _ h=>h) (.inl ⟨rfl,fun w' hw=>?_⟩) aQ ?_
   ·obtain⟨h0,h1,h2⟩:=hw
    go_simp
   refine aP (i:=3) (v:=.pointer (some ⟨w.heap.size,0,none⟩)) rfl rfl (by kernel_rfl) (fun _ _ _ h=>h) (.inl ⟨rfl,fun w' hw=>?_⟩) aQ ?_
   ·obtain⟨h0,h1,h2⟩:=hw
    go_simp
   refine aP (i:=4) (v:=.slice (some ⟨cg,0,none⟩) b0.cs.length cp) rfl rfl (by kernel_rfl) (fun _ _ _ h=>h) (.inl ⟨rfl,fun w' hw=>?_⟩) aQ ?_
   ·obtain⟨h0,h1,h2⟩:=hw
    go_simp
   refine aP (i:=5) (v:=.int .i64 jj) rfl rfl (by kernel_rfl) (fun _ _ _ h=>h) (.inl ⟨rfl,fun w' hw=>?_⟩) aQ ?_
   ·obtain⟨h0,h1,h2⟩:=hw
    go_simp
   refine aP (i:=6) (v:=.pointer (some ⟨w.heap.size,0,none⟩)) rfl rfl (by kernel_rfl) (fun _ _ _ h=>h) (.inl ⟨rfl,fun w' hw=>?_⟩) aQ ?_
   ·obtain⟨h0,h1,h2⟩:=hw
    go_simp
   refine aP (i:=7) (v:=.slice (some ⟨cg,0,none⟩) b0.cs.length cp) rfl rfl (by kernel_rfl) (fun _ _ _ h=>h) (.inl ⟨rfl,fun w' hw=>?_⟩) aQ ?_
   ·obtain⟨h0,h1,h2⟩:=hw
    go_simp
   refine aP (i:=8) (v:=.int .i64 jj) rfl rfl (by kernel_rfl) (fun _ _ _ h=>h) (.inl ⟨rfl,fun w' hw=>?_⟩) aQ ?_
   ·obtain⟨h0,h1,h2⟩:=hw
    go_simp
   refine aP (i:=9) (v:=.pointer (some ⟨cg,jj*7,none⟩)) rfl rfl (by kernel_rfl) (fun _ _ _ h=>h) (.inl ⟨rfl,fun w' hw=>?_⟩) aQ ?_
   ·obtain⟨h0,h1,h2⟩:=hw
    go_simp
   refine aP (i:=10) (v:=.pointer (some ⟨cg,jj*7+5,none⟩)) rfl rfl (by kernel_rfl) (fun _ _ _ h=>h) (.inl ⟨rfl,fun w' hw=>?_⟩) aQ ?_
   ·obtain⟨h0,h1,h2⟩:=hw
    go_simp
   refine aP (i:=12) (v:=.pointer (some ⟨w.heap.size+1+1,1,none⟩)) rfl rfl (by kernel_rfl) (fun _ _ _ h=>h) (.inl ⟨rfl,fun w' hw=>?_⟩) aQ ?_
   ·obtain⟨h0,h1,h2⟩:=hw
    go_simp
   refine aP (i:=13) (v:=.int .i64 wu) rfl rfl (by kernel_rfl) (fun _ _ _ h=>h) (.inl ⟨rfl,fun w' hw=>?_⟩) aQ ?_
   ·obtain⟨h0,h1,h2⟩:=hw
    go_simp
   refine aP (i:=15) (v:=.pointer (some ⟨w.heap.size,0,none⟩)) rfl rfl (by kernel_rfl) (fun _ _ _ h=>h) (.inl ⟨rfl,fun w' hw=>?_⟩) aQ ?_
   ·obtain⟨h0,h1,h2⟩:=hw
    go_simp
   refine aP (i:=16) (v:=.slice (some ⟨cg,0,none⟩) b0.cs.length cp) rfl rfl (by kernel_rfl) (fun _ _ _ h=>h) (.inl ⟨rfl,fun w' hw=>?_⟩) aQ ?_
   ·obtain⟨h0,h1,h2⟩:=hw
    go_simp
   refine aP (i:=17) (v:=.int .i64 jj) rfl rfl (by kernel_rfl) (fun _ _ _ h=>h) (.inl ⟨rfl,fun w' hw=>?_⟩) aQ ?_
   ·obtain⟨h0,h1,h2⟩:=hw
    go_simp
   refine aP (i:=18) (v:=.pointer (some ⟨cg,jj*7,none⟩)) rfl rfl (by kernel_rfl) (fun _ _ _ h=>h) (.inl ⟨rfl,fun w' hw=>?_⟩) aQ ?_
   ·obtain⟨h0,h1,h2⟩:=hw
    go_simp
   refine aP (i:=19) (v:=.pointer (some ⟨cg,jj*7+6,none⟩)) rfl rfl (by kernel_rfl) (fun _ _ _ h=>h) (.inl ⟨rfl,fun w' hw=>?_⟩) aQ ?_
   ·obtain⟨h0,h1,h2⟩:=hw
    go_simp
   refine aP (i:=21) (v:=.pointer (some ⟨w.heap.size+1+1,2,none⟩)) rfl rfl (by kernel_rfl) (fun _ _ _ h=>h) (.inl ⟨rfl,fun w' hw=>?_⟩) aQ ?_
   ·obtain⟨h0,h1,h2⟩:=hw
    go_simp
   refine aP (i:=22) (v:=.int .i64 wd) rfl rfl (by kernel_rfl) (fun _ _ _ h=>h) (.inl ⟨rfl,fun w' hw=>?_⟩) aQ ?_
   ·obtain⟨h0,h1,h2⟩:=hw
    go_simp
   refine iZ (i:=11) (j:=20) (by kernel_rfl) rfl rfl rfl rfl ?_ ?_
   ·go_simp
    try refine⟨aQ,?_⟩
    refine aP (i:=14) (v:=.int .i64 (cu-wu)) rfl rfl (by kernel_rfl) (fun _ _ _ h=>h) (.inl ⟨rfl,fun w' hw=>?_⟩) aQ ?_
    ·obtain⟨h0,h1,h2⟩:=hw
     go_simp
    refine aD (i:=20) (by kernel_rfl) rfl rfl ?_;go_simp
    try refine⟨aQ,?_⟩
    refine aP (i:=23) (v:=.int .i64 (cd-wd)) rfl rfl (by kernel_rfl) (fun _ _ _ h=>h) (.inl ⟨rfl,fun w' hw=>?_⟩) aQ ?_
    ·obtain⟨h0,h1,h2⟩:=hw
     go_simp
    refine aD (i:=24) (by kernel_rfl) rfl rfl ?_;go_simp
    try refine⟨aQ,?_⟩
    refine aD (i:=25) (by kernel_rfl) rfl rfl ?_;go_simp
    try refine⟨aQ,?_⟩
    refine aD (i:=26) (by kernel_rfl) rfl rfl ?_;go_simp;have mq:=HS.out (W7.drew.setCell ⟨cg,jj*7+5,none⟩ (.int .i64 (cu-wu))) (fun c hc=>aX W7.drew _ _ (fun e=>hc e.symm) _);obtain⟨g6,u6'⟩:=Hw.out (.int .i64 (cu-wu));have v6:W7.cell? ⟨cg,jj*7+6,none⟩=some (.int .i64 cd):=u6;have gg6:W7.frozen? ⟨cg,jj*7+6,none⟩=false:=g7;clear u5 u6 g5 aQ;first | refine⟨HS.out W7 (fun _ _=>rfl),?_⟩ | refine⟨mq,?_⟩ | skip
    refine aD (i:=27) (by kernel_rfl) rfl rfl ?_;go_simp;first | refine⟨HS.out W7 (fun _ _=>rfl),?_⟩ | refine⟨mq,?_⟩ | skip
    refine aD (i:=28) (by kernel_rfl) rfl rfl ?_;go_simp;first | refine⟨HS.out W7 (fun _ _=>rfl),?_⟩ | refine⟨mq,?_⟩ | skip
    refine aD (i:=29) (by kernel_rfl) rfl rfl ?_;go_simp;refine aU (by kernel_rfl) ?_;go_wp2;go_meet;rfl
   ·go_simp
    try refine⟨aQ,?_⟩
    refine aP (i:=23) (v:=.int .i64 (cd-wd)) rfl rfl (by kernel_rfl) (fun _ _ _ h=>h) (.inl ⟨rfl,fun w' hw=>?_⟩) aQ ?_
    ·obtain⟨h0,h1,h2⟩:=hw
     go_simp
    refine aD (i:=11) (by kernel_rfl) rfl rfl ?_;go_simp
    try refine⟨aQ,?_⟩
    refine aP (i:=14) (v:=.int .i64 (cu-wu)) rfl rfl (by kernel_rfl) (fun _ _ _ h=>h) (.inl ⟨rfl,fun w' hw=>?_⟩) aQ ?_
    ·obtain⟨h0,h1,h2⟩:=hw
     go_simp
    refine aD (i:=24) (by kernel_rfl) rfl rfl ?_;go_simp
    try refine⟨aQ,?_⟩
    refine aD (i:=25) (by kernel_rfl) rfl rfl ?_;go_simp
    try refine⟨aQ,?_⟩
    refine aD (i:=26) (by kernel_rfl) rfl rfl ?_;go_simp;have mq:=HS.out (W7.drew.setCell ⟨cg,jj*7+5,none⟩ (.int .i64 (cu-wu))) (fun c hc=>aX W7.drew _ _ (fun e=>hc e.symm) _);obtain⟨g6,u6'⟩:=Hw.out (.int .i64 (cu-wu));have v6:W7.cell? ⟨cg,jj*7+6,none⟩=some (.int .i64 cd):=u6;have gg6:W7.frozen? ⟨cg,jj*7+6,none⟩=false:=g7;clear u5 u6 g5 aQ;first | refine⟨HS.out W7 (fun _ _=>rfl),?_⟩ | refine⟨mq,?_⟩ | skip
    refine aD (i:=27) (by kernel_rfl) rfl rfl ?_;go_simp;first | refine⟨HS.out W7 (fun _ _=>rfl),?_⟩ | refine⟨mq,?_⟩ | skip
    refine aD (i:=28) (by kernel_rfl) rfl rfl ?_;go_simp;first | refine⟨HS.out W7 (fun _ _=>rfl),?_⟩ | refine⟨mq,?_⟩ | skip
    refine aD (i:=29) (by kernel_rfl) rfl rfl ?_;go_simp;refine aU (by kernel_rfl) ?_;go_wp2;go_meet;rfl
  case rest=>
  subst hcut;obtain⟨W8,YJ⟩:∃W8,W8=(W7.drew.setCell ⟨cg,jj*7+5,none⟩ (.int .i64 (cu-wu))).setCell ⟨cg,jj*7+6,none⟩ (.int .i64 (cd-wd)):=⟨_,rfl⟩;rw[←YJ]at W_⊢;have UQ:=W_;clear YJ W_ u5 u6 g5 g7 Hw HS Cc HI i1 i2;have u_:=ah (dI.rd (f:=jL) (E:=5) (l:=l0.sl) (UQ.out.r.rs.sl UQ.out.r.bC));have Eu:=ah UQ.out.q.bC;have hns:=HNS.out
  have mI:Hid (∀ (V:World) (v3 v4:Value) (w4:World),Below W8.heap.size W8 V→V.ownsRow W8.heap.size 88 5 v3 l0.sl.length (aJ jL l0.sl)→w4.ownsRow W8.heap.size 88 5 v4 (l0.sl.length+1) (aJ jL (l0.sl++ [⟨wk,wu,wd,0,0⟩]))→V.grownBy w4 v3.ownBlock→Below W8.heap.size W8 w4∧ ∃ao ck,v4= .slice ao (l0.sl.length+1) ck∧w4.cell? ⟨w.heap.size+1,4,none⟩=some (.slice y5 l0.sl.length y7)∧w4.frozen? ⟨w.heap.size+1,4,none⟩=false∧Rt gW w (w4.setCell ⟨w.heap.size+1,4,none⟩ (.slice ao (l0.sl.length+1) ck)) ⟨⟨some ⟨cg,0,none⟩,b0.cs.length,cp⟩,⟨fa,bD,fc⟩,⟨la,ln,lc⟩,⟨ba,bE,bc⟩⟩ (iG b0 ⟨wk,wu,wd,wi⟩) ⟨y1,y2,y3,y4,⟨ao,l0.sl.length+1,ck⟩,⟨y8,y9,dz⟩,⟨dA,dJ,cK⟩⟩ (jG b0 l0 ⟨wk,wu,wd,wi⟩) ⟨wk,wu,wd,wi⟩):=ah (fun V v3 v4 w4 hV h3 h4 hg=>by
   have bR:Below W8.heap.size W8 w4:=hV.grown hg hV.size (fun g hg=>(h3.lt g hg).1);obtain⟨ao,ck,rfl,_,_⟩:=aO h4;have hr:=UQ.out.keep bR;obtain⟨_,_,_,_,a4,_⟩:=aB hr.q.k4;refine⟨bR,ao,ck,rfl,a4,ak hr.q.k4 4,?_⟩;rw[xM.out.2];have hl:(l0.sl++ [(⟨wk,wu,wd,0,0⟩:Sc)]).length=l0.sl.length+1:=by simp
   exact hr.GV (s':=⟨ao,l0.sl.length+1,ck⟩) (sl':=l0.sl++ [⟨wk,wu,wd,0,0⟩]) (by rw[hl];exact aN h4 Eu.out.size))
  have Xa:Hid (∀ (V:World) (p:Nat),V.heap[p]? =some (.cells #[.string wk,.int .i64 wu,.int .i64 wd,.int .i64 0,.int .i64 0] 88 (0,0))→Rd V (some ⟨p,0,none⟩) (aJ jL [⟨wk,wu,wd,0,0⟩])):=ah (fun V p hk j u hj=>by
   refine⟨⟨p,0,none⟩,rfl,?_⟩
   have e:(⟨p,0,none⟩:Addr).add j=⟨p,j,none⟩:=by
    cases j with
    | zero=>rfl
    | succ j=>simp[Addr.add]
   rw[e];simp only[World.cell?,hk]
   simpa[aJ,jL]using hj)
  go_upto_region 26 with fail
  refine aW 14 (fun w'=>Below W8.heap.size W8 w') (by kernel_rfl) ?_;have aQ:Below W8.heap.size W8 W8.drew:=(aL _ _).drew;generalize W8.drew=Wd at*;refine aP (i:=1) (v:=.pointer (some ⟨w.heap.size+1,4,none⟩)) rfl rfl (by kernel_rfl) (fun _ _ _ h=>h) (.inl ⟨rfl,fun w' hw=>?_⟩) aQ ?_
  ·go_simp
  refine aP (i:=2) (v:=.slice y5 l0.sl.length y7) rfl rfl (by kernel_rfl) (fun _ _ _ h=>h) (.inl ⟨rfl,fun w' hw=>?_⟩) aQ ?_
  ·obtain⟨_,_,_,_,a4,_⟩:=aB (UQ.out.q.keep hw).k4
   simp only[Sv.v]at a4;go_simp
  refine aP (i:=4) (v:=.pointer (some ⟨w.heap.size+1+1,0,none⟩)) rfl rfl (by kernel_rfl) (fun _ _ _ h=>h) (.inl ⟨rfl,fun w' hw=>?_⟩) aQ ?_
  ·go_simp
  refine aP (i:=5) (v:=.string wk) rfl rfl (by kernel_rfl) (fun _ _ _ h=>h) (.inl ⟨rfl,fun w' hw=>?_⟩) aQ ?_
  ·obtain⟨a0,a1,a2,a3,_⟩:=ay (UQ.out.q.keep hw).k5
   go_simp
  refine aP (i:=6) (v:=.pointer (some ⟨w.heap.size+1+1,1,none⟩)) rfl rfl (by kernel_rfl) (fun _ _ _ h=>h) (.inl ⟨rfl,fun w' hw=>?_⟩) aQ ?_
  ·go_simp
  refine aP (i:=7) (v:=.int .i64 wu) rfl rfl (by kernel_rfl) (fun _ _ _ h=>h) (.inl ⟨rfl,fun w' hw=>?_⟩) aQ ?_
  ·obtain⟨a0,a1,a2,a3,_⟩:=ay (UQ.out.q.keep hw).k5
   go_simp
  refine aP (i:=8) (v:=.pointer (some ⟨w.heap.size+1+1,2,none⟩)) rfl rfl (by kernel_rfl) (fun _ _ _ h=>h) (.inl ⟨rfl,fun w' hw=>?_⟩) aQ ?_
  ·go_simp
  refine aP (i:=9) (v:=.int .i64 wd) rfl rfl (by kernel_rfl) (fun _ _ _ h=>h) (.inl ⟨rfl,fun w' hw=>?_⟩) aQ ?_
  ·obtain⟨a0,a1,a2,a3,_⟩:=ay (UQ.out.q.keep hw).k5
   go_simp
  refine aP (i:=10) (v:=.agg #[.string wk,.int .i64 wu,.int .i64 wd,.int .i64 0,.int .i64 0]) rfl rfl (by kernel_rfl) (fun _ _ _ h=>h) (.inl ⟨rfl,fun w' hw=>?_⟩) aQ ?_
  ·go_simp
  refine iZ (i:=0) (j:=11) (by kernel_rfl) rfl rfl rfl rfl ?_ ?_
  ·go_simp
   have TJ:(Wd.alloc (.cells #[] 88)).ownsRow W8.heap.size 88 5 (.slice (some ⟨Wd.heap.size,0,none⟩) 0 0) 0 []:=dB _ _ _ _ 5 #[] 0 rfl aQ.size (by omega) rfl;have hV1:=aQ.alloc aQ.size (.cells #[] 88);have hs1:Wd.heap.size<(Wd.alloc (.cells #[] 88)).heap.size:=by simp
   refine⟨hV1,?_⟩;have kK:W8.heap.size≤Wd.heap.size:=aQ.size;generalize Wd.alloc (.cells #[] 88)=V1 at*;refine iZ (i:=3) (j:=11) (by kernel_rfl) rfl rfl rfl rfl ?_ ?_
   ·refine jg _ _ rfl W8.heap.size _ 0 [] rfl TJ y5 l0.sl.length y7 l0.sl rfl rfl (u_.out.keep hV1 (aC _)) (by omega) hV1.size ?_
    intro v3 V3 h3 j4 _;rw[Nat.zero_add,List.nil_append]at h3;have NJ:Below W8.heap.size W8 V3:=hV1.grown j4 hV1.size (fun g hg=>(TJ.lt g hg).1);refine⟨fun _=>NJ,?_⟩;refine aD (i:=11) (by kernel_rfl) rfl rfl ?_;go_simp;have gL:=heap_alloc_new V3 (.cells #[.string wk,.int .i64 wu,.int .i64 wd,.int .i64 0,.int .i64 0] 88);have TK:=NJ.alloc NJ.size (.cells #[.string wk,.int .i64 wu,.int .i64 wd,.int .i64 0,.int .i64 0] 88);have hp1:V3.heap.size<(V3.alloc (.cells #[.string wk,.int .i64 wu,.int .i64 wd,.int .i64 0,.int .i64 0] 88)).heap.size:=by simp
    have h3:=aI h3 ((aL V3.heap.size V3).alloc (aC _) (.cells #[.string wk,.int .i64 wu,.int .i64 wd,.int .i64 0,.int .i64 0] 88)) (aC _);refine⟨TK,?_⟩;generalize V3.alloc (.cells #[.string wk,.int .i64 wu,.int .i64 wd,.int .i64 0,.int .i64 0] 88)=V5 at*;refine aD (i:=12) (by kernel_rfl) rfl rfl ?_;refine jg _ _ rfl W8.heap.size v3 l0.sl.length l0.sl rfl h3 (some ⟨V3.heap.size,0,none⟩) 1 1 [⟨wk,wu,wd,0,0⟩] rfl rfl (Xa.out V5 _ gL) (by omega) TK.size ?_;intro v4 V4 h4 hg4 _;obtain⟨bR,ao,ck,rfl,x4,f4,hrt⟩:=mI.out V5 v3 v4 V4 TK h3 h4 hg4;refine⟨fun _=>bR,?_⟩;refine aD (i:=13) (by kernel_rfl) rfl rfl ?_;go_simp;first | refine⟨bR,?_⟩ | skip
    refine aD (i:=14) (by kernel_rfl) rfl rfl ?_;go_simp;refine aU (by kernel_rfl) ?_;go_wp2;go_meet;exact⟨_,_,hrt⟩
   ·go_simp
    have gL:=heap_alloc_new V1 (.cells #[.string wk,.int .i64 wu,.int .i64 wd,.int .i64 0,.int .i64 0] 88);have TK:=hV1.alloc hV1.size (.cells #[.string wk,.int .i64 wu,.int .i64 wd,.int .i64 0,.int .i64 0] 88);have hp1:V1.heap.size<(V1.alloc (.cells #[.string wk,.int .i64 wu,.int .i64 wd,.int .i64 0,.int .i64 0] 88)).heap.size:=by simp
    have TJ:=aI TJ ((aL V1.heap.size V1).alloc (aC _) (.cells #[.string wk,.int .i64 wu,.int .i64 wd,.int .i64 0,.int .i64 0] 88)) (aC _);have dX:Wd.heap.size<V1.heap.size:=hs1;refine⟨TK,?_⟩;generalize V1.alloc (.cells #[.string wk,.int .i64 wu,.int .i64 wd,.int .i64 0,.int .i64 0] 88)=V5 at*;refine aD (i:=3) (by kernel_rfl) rfl rfl ?_;refine jg _ _ rfl W8.heap.size _ 0 [] rfl TJ y5 l0.sl.length y7 l0.sl rfl rfl (u_.out.keep TK (aC _)) (by omega) TK.size ?_;intro v3 V3 h3 j4 _;rw[Nat.zero_add,List.nil_append]at h3;have NJ:Below W8.heap.size W8 V3:=TK.grown j4 TK.size (fun g hg=>(TJ.lt g hg).1);have gL:=(j4.block V1.heap.size hp1 (fun e=>by have e2:V1.heap.size=Wd.heap.size:=Option.some.inj e;omega)).trans gL;refine⟨fun _=>NJ,?_⟩;refine aD (i:=12) (by kernel_rfl) rfl rfl ?_;refine jg _ _ rfl W8.heap.size v3 l0.sl.length l0.sl rfl h3 (some ⟨V1.heap.size,0,none⟩) 1 1 [⟨wk,wu,wd,0,0⟩] rfl rfl (Xa.out V3 _ gL) (by omega) NJ.size ?_;intro v4 V4 h4 hg4 _;obtain⟨bR,ao,ck,rfl,x4,f4,hrt⟩:=mI.out V3 v3 v4 V4 NJ h3 h4 hg4;refine⟨fun _=>bR,?_⟩;refine aD (i:=13) (by kernel_rfl) rfl rfl ?_;go_simp;first | refine⟨bR,?_⟩ | skip
    refine aD (i:=14) (by kernel_rfl) rfl rfl ?_;go_simp;refine aU (by kernel_rfl) ?_;go_wp2;go_meet;exact⟨_,_,hrt⟩
  ·go_simp
   have gL:=heap_alloc_new Wd (.cells #[.string wk,.int .i64 wu,.int .i64 wd,.int .i64 0,.int .i64 0] 88);have hV1:=aQ.alloc aQ.size (.cells #[.string wk,.int .i64 wu,.int .i64 wd,.int .i64 0,.int .i64 0] 88);have hp1:Wd.heap.size<(Wd.alloc (.cells #[.string wk,.int .i64 wu,.int .i64 wd,.int .i64 0,.int .i64 0] 88)).heap.size:=by simp
   refine⟨hV1,?_⟩;generalize Wd.alloc (.cells #[.string wk,.int .i64 wu,.int .i64 wd,.int .i64 0,.int .i64 0] 88)=V1 at*;refine aD (i:=0) (by kernel_rfl) rfl rfl ?_;go_simp;have TJ:(V1.alloc (.cells #[] 88)).ownsRow W8.heap.size 88 5 (.slice (some ⟨V1.heap.size,0,none⟩) 0 0) 0 []:=dB _ _ _ _ 5 #[] 0 rfl hV1.size (by omega) rfl;have hV2:=hV1.alloc hV1.size (.cells #[] 88);have gL:=aj gL ((aL V1.heap.size V1).alloc (aC _) (.cells #[] 88)) hp1;have hp2:V1.heap.size<(V1.alloc (.cells #[] 88)).heap.size:=by simp
   refine⟨hV2,?_⟩;have kK:W8.heap.size≤V1.heap.size:=hV1.size;generalize V1.alloc (.cells #[] 88)=V2 at*;refine aD (i:=3) (by kernel_rfl) rfl rfl ?_;refine jg _ _ rfl W8.heap.size _ 0 [] rfl TJ y5 l0.sl.length y7 l0.sl rfl rfl (u_.out.keep hV2 (aC _)) (by omega) hV2.size ?_;intro v3 V3 h3 j4 _;rw[Nat.zero_add,List.nil_append]at h3;have NJ:Below W8.heap.size W8 V3:=hV2.grown j4 hV2.size (fun g hg=>(TJ.lt g hg).1);have gL:=(j4.block Wd.heap.size (by omega) (fun e=>by have e2:Wd.heap.size=V1.heap.size:=Option.some.inj e;omega)).trans gL;refine⟨fun _=>NJ,?_⟩;refine aD (i:=12) (by kernel_rfl) rfl rfl ?_;refine jg _ _ rfl W8.heap.size v3 l0.sl.length l0.sl rfl h3 (some ⟨Wd.heap.size,0,none⟩) 1 1 [⟨wk,wu,wd,0,0⟩] rfl rfl (Xa.out V3 _ gL) (by omega) NJ.size ?_;intro v4 V4 h4 hg4 _;obtain⟨bR,ao,ck,rfl,x4,f4,hrt⟩:=mI.out V3 v3 v4 V4 NJ h3 h4 hg4;refine⟨fun _=>bR,?_⟩;refine aD (i:=13) (by kernel_rfl) rfl rfl ?_;go_simp;first | refine⟨bR,?_⟩ | skip
   refine aD (i:=14) (by kernel_rfl) rfl rfl ?_;go_simp;refine aU (by kernel_rfl) ?_;go_wp2;go_meet;exact⟨_,_,hrt⟩
end
section
attribute [local go_sem ↓] Go.wp_at_zero Go.wp_at_succ
theorem NK (gW w W:World) (b0:Bk) (l0:Ls) (wn:Wn) (x:dN) (y:cB) (aao UR:Option Addr) (an ac fn Hy:Nat) (h:Rt gW w W x b0 y l0 wn) (hw:Hu b0 l0 wn) (hc:g_ b0 wn=0) (he:dY b0 wn=0) (h1:W.ownsRow w.heap.size 56 2 (.slice aao an ac) (bY b0.free wn.ids).1.length (aR (bY b0.free wn.ids).1)) (h2:W.ownsRow w.heap.size 56 2 (.slice UR fn Hy) (bY b0.free wn.ids).2.length (aR (bY b0.free wn.ids).2)) {u0 u1 u2 u8 u9 u14 u15 u16 u17 u18 u19 u20 u21 u22 u23 u24 u25 u26 u27 u28 u29 u30 u31 u32 u33 u34 u35 u36 u37 u38 u39 u40 u41 u42 u43 u44 u45 u46 u47 u48 u49 u50 u51 u52 u53 u54 u55 u56 u57 u58 u59 u60 u61 u62 u63 u64 u65 u66 u67 u68 u69 u70 u71 u72 u73 u74 u75 u76 u77 u78 u79 u80 u81 u82 u83 u84 u85 u86 u87 u88 u89 u90 u91 u92 u93 u94 u95 u96 u97 u98 u99 u100 u101 u102 u103 u104 u105 u106 u107 u108 u109 u110 u111 u112 u113 u114 u115 u116 u117 u118 u119 u120 u121 u122 u123 u124 u125 u126 u127 u128 u129 u130 u131 u132 u133 u134 u135 u136 u137 u138 u139 u140 u141 u142 u143 u144 u145 u146 u147 u148 u149 u150 u151 u152 u153 u154 u155 u156 u157 u158 u159 u160 u161 u162 u163 u164 u165 u166 u167 u168 u169 u170 u171 u172 u173 u174 u175 u176 u177 u178 u179 u180 u181 u182 u183 u184 u185 u186 u187 u188 u189 u190 u191 u192 u193 u194 u195 u196 u197 u198 u199 u200 u201 u202:Value}:
  ∀c,Tryz.f78.body.bind (spine 8)=some c→Code.wp Tryz.prog c (bodyPost Tryz.prog Tryz.f78 (kV gW w b0 l0 wn)) ⟨#[u0,u1,u2,.pointer (some ⟨w.heap.size,0,none⟩),.pointer (some ⟨w.heap.size+1,0,none⟩),.pointer (some ⟨w.heap.size+1+1,0,none⟩),.pointer (some ⟨w.heap.size+1+1+1,0,none⟩),.pointer (some ⟨w.heap.size+1+1+1+1,0,none⟩),u8,u9,.int .i64 (bJ b0.cs wn.key),.slice aao an ac,.slice UR fn Hy,.int .i64 0,u14,u15,u16,u17,u18,u19,u20,u21,u22,u23,u24,u25,u26,u27,u28,u29,u30,u31,u32,u33,u34,u35,u36,u37,u38,u39,u40,u41,u42,u43,u44,u45,u46,u47,u48,u49,u50,u51,u52,u53,u54,u55,u56,u57,u58,u59,u60,u61,u62,u63,u64,u65,u66,u67,u68,u69,u70,u71,u72,u73,u74,u75,u76,u77,u78,u79,u80,u81,u82,u83,u84,u85,u86,u87,u88,u89,u90,u91,u92,u93,u94,u95,u96,u97,u98,u99,u100,u101,u102,u103,u104,u105,u106,u107,u108,u109,u110,u111,u112,u113,u114,u115,u116,u117,u118,u119,u120,u121,u122,u123,u124,u125,u126,u127,u128,u129,u130,u131,u132,u133,u134,u135,u136,u137,u138,u139,u140,u141,u142,u143,u144,u145,u146,u147,u148,u149,u150,u151,u152,u153,u154,u155,u156,u157,u158,u159,u160,u161,u162,u163,u164,u165,u166,u167,u168,u169,u170,u171,u172,u173,u174,u175,u176,u177,u178,u179,u180,u181,u182,u183,u184,u185,u186,u187,u188,u189,u190,u191,u192,u193,u194,u195,u196,u197,u198,u199,u200,u201,u202],[]⟩ W:=by
 refine dP rfl ?_;obtain⟨⟨ca,cn,cc⟩,⟨fa,bD,fc⟩,⟨la,ln,lc⟩,⟨ba,bE,bc⟩⟩:=x;obtain⟨y1,y2,y3,y4,⟨y5,y6,y7⟩,⟨y8,y9,dz⟩,⟨dA,dJ,cK⟩⟩:=y;have HE:=ah he;have HC:=ah hc;have HB:=ah hw
 have hTs:=vE b0.free wn.ids (by
  have h1:=rG wn.key wn.up wn.down wn.ids;rw[show (⟨wn.key,wn.up,wn.down,wn.ids⟩:Wn)=wn from rfl,(iP hc).1]at h1;simp at h1;omega) (by
  by_cases xI:dG b0.free<wn.ids
  ·unfold dY at he
   rw[if_pos hc,if_pos xI]at he
   cases he
  ·omega) HB.out.fr
 have HTR:=ah hTs.1;have fP:=q_ b0.free wn.ids;have hnf:=HB.out.nf;have hni:=HB.out.ni;have HW8:=ah ((h.Ev (f':=⟨UR,fn,Hy⟩) h2));have HO1:=ah (aF h1 (fun c hc=>aX W _ _ (fun e=>hc e.symm) (.slice UR fn Hy):∀c,c≠w.heap.size→(W.setCell ⟨w.heap.size,1,none⟩ (.slice UR fn Hy)).heap[c]? =W.heap[c]?) h.q.k3 (by decide));obtain⟨q9,_,_⟩:=Sl.lens (s:=⟨aao,an,ac⟩) (aG h1);simp only at q9;subst q9;obtain⟨c0,c1,c2,c3,_⟩:=ay h.q.k3;simp only[Sv.v]at c0 c1 c2 c3;have f1:=aA h.q.k3 1;clear h hw he h1 h2 hTs hc;go_upto_block 2 with fail
 simp only[Sv.v]at HW8;clear c0 c1 c2 c3 f1;generalize W.setCell ⟨w.heap.size,1,none⟩ (.slice UR fn Hy)=W8 at*;generalize hta:(bY b0.free wn.ids).1=ta at*
 go_cut[] (fun wx=>∃y',Rt gW w wx ⟨⟨ca,cn,cc⟩,⟨UR,fn,Hy⟩,⟨la,ln,lc⟩,⟨ba,bE,bc⟩⟩ ⟨b0.cs,(bY b0.free wn.ids).2,b0.ls,b0.bound⟩ y' ⟨l0.dev,l0.epoch,l0.bU,l0.last,l0.sl,bK l0.ids ta,l0.used⟩ wn)
 case rest=>
  obtain⟨y',hrt⟩:=hcut;go_step;exact NI gW w _ b0 l0 wn _ y' (by rw[hta];exact hrt) HB.out HC.out HE.out _ rfl
 case first=>
 go_wp2
 go_loopw[14] (fun FH wr=>∃ (j:Nat) (iv:Sv),j≤ta.length∧FH= .int .i64 j∧Rt gW w wr ⟨⟨ca,cn,cc⟩,⟨UR,fn,Hy⟩,⟨la,ln,lc⟩,⟨ba,bE,bc⟩⟩ ⟨b0.cs,(bY b0.free wn.ids).2,b0.ls,b0.bound⟩ ⟨y1,y2,y3,y4,⟨y5,y6,y7⟩,iv,⟨dA,dJ,cK⟩⟩ ⟨l0.dev,l0.epoch,l0.bU,l0.last,l0.sl,bK l0.ids (ta.take j),l0.used⟩ wn∧wr.ownsRow w.heap.size 56 2 (.slice aao ta.length ac) ta.length (aR ta)) (fun FH _=>ta.length-(intOf FH).toNat)
 case atStart=>exact⟨0,⟨y8,y9,dz⟩,Nat.zero_le _,rfl,HW8.out,HO1.out⟩
 case round=>
  obtain⟨j,⟨R8,UN,Qu⟩,hj,rfl,hrt,hto⟩:=hrel;have qp:=ah hrt;have YO:=ah hto;clear hrt hto;by_cases bA:j<ta.length
  ·have t_:(j:Int)<ta.length:=by omega
   have j0:(0:Int)≤(j:Int):=by omega
   obtain⟨rb,ro,rfl,tO,r0,r1⟩:=fD.pair (aG YO.out) (aL _ _) (aC _) j bA;have HAS:Hid (bK l0.ids (ta.take (j+1))=iM (bK l0.ids (ta.take j)) ta[j]):=ah (by rw[aS ta j bA,pz]);have qR:=iN (ta.take j) l0.ids;have Qd:(bK l0.ids (ta.take j)).length<1000000:=by rw[List.length_take]at qR;omega
   have lZ:=ah (HTR.out.1 ta[j] (List.getElem_mem bA))
   have HAR:Hid (zy (bK l0.ids (ta.take j)) ta[j]=iM (bK l0.ids (ta.take j)) ta[j]):=ah (by
    rw[K5 (Bj _ HB.out.row (HTR.out.take j)) lZ.out.2.1,zW lZ.out])
   clear qR;generalize IB:bK l0.ids (ta.take j)=fr at*;generalize ta[j]=r at*;obtain⟨p,q⟩:=r;simp only at r0 r1;go_upto_region 22 with fail
   refine aW 8 (fun w'=>Below wr.heap.size wr w') (by kernel_rfl) ?_;have aQ:Below wr.heap.size wr wr.drew:=(aL _ _).drew;refine aP (i:=0) (v:=.pointer (some ⟨w.heap.size+1,5,none⟩)) rfl rfl (by kernel_rfl) (fun _ _ _ h=>h) (.inl ⟨rfl,fun w' hw=>?_⟩) aQ ?_
   ·go_simp
   refine aP (i:=1) (v:=.slice R8 UN Qu) rfl rfl (by kernel_rfl) (fun _ _ _ h=>h) (.inl ⟨rfl,fun w' hw=>?_⟩) aQ ?_
   ·obtain⟨_,_,_,_,_,a5,_⟩:=aB (qp.out.q.keep hw).k4
    simp only[Sv.v]at a5;go_simp
   refine aP (i:=2) (v:=.slice (some ⟨rb,ro,none⟩) ta.length ac) rfl rfl (by kernel_rfl) (fun _ _ _ h=>h) (.inl ⟨rfl,fun w' hw=>?_⟩) aQ ?_
   ·go_simp
   refine aP (i:=3) (v:=.int .i64 j) rfl rfl (by kernel_rfl) (fun _ _ _ h=>h) (.inl ⟨rfl,fun w' hw=>?_⟩) aQ ?_
   ·go_simp
   refine aP (i:=4) (v:=.pointer (some ⟨rb,ro+j*2,none⟩)) rfl rfl (by kernel_rfl) (fun _ _ _ h=>h) (.inl ⟨rfl,fun w' hw=>?_⟩) aQ ?_
   ·go_simp
   refine aP (i:=5) (v:=.agg #[.int .i64 p,.int .i64 q]) rfl rfl (by kernel_rfl) (fun _ _ _ h=>h) (.inl ⟨rfl,fun w' hw=>?_⟩) aQ ?_
   ·have a7:w'.cell? ⟨rb,ro+j*2,none⟩=some (.int .i64 p):=by rw[hw.cell (p:=⟨rb,ro+j*2,none⟩) tO];exact r0
    have a8:w'.cell? ⟨rb,ro+j*2+1,none⟩=some (.int .i64 q):=by rw[hw.cell (p:=⟨rb,ro+j*2+1,none⟩) tO];exact r1
    go_simp
   refine aD (i:=6) (by kernel_rfl) rfl rfl ?_;go_simp;refine(Au _ fr p q _ ((qp.out.r.ri.sl qp.out.r.bC).keep (aL _ _).drew (aC _)) Qd lZ.out.2.1 lZ.out.1 lZ.out.2.2).mono ?_;rw[HAR.out];rintro e ES ⟨v',rfl,ho,sI⟩;obtain⟨kJ,cap',rfl,_,_⟩:=aO ho;have jP:Below wr.heap.size wr ES:=(aL wr.heap.size wr).drew.trans sI;refine⟨jP,?_⟩;have DT:=qp.out.keep jP;have Hr:=ah (DT.Pg (i':=⟨kJ,_,cap'⟩) (aN ho (show w.heap.size≤wr.drew.heap.size from qp.out.q.bC.size)));have aeH:=ah (aF (aI YO.out jP (aC _)) (fun c hc=>aX ES _ _ (fun e=>hc e.symm) (.slice kJ _ cap'):∀c,c≠w.heap.size+1→(ES.setCell ⟨w.heap.size+1,5,none⟩ (.slice kJ (iM fr (p,q)).length cap')).heap[c]? =ES.heap[c]?) DT.q.k4 (by decide));obtain⟨_,_,_,_,_,a5,_⟩:=aB DT.q.k4;have f5:=ak DT.q.k4 5;simp only[Sv.v]at a5 Hr;have G9:=ah jP;clear DT ho sI jP;refine aD (i:=7) (by kernel_rfl) rfl rfl ?_;go_simp;refine⟨G9.out,?_⟩;refine aD (i:=8) (by kernel_rfl) rfl rfl ?_;go_simp;refine aU (by kernel_rfl) ?_;go_wp2;go_roundw
   case rel=>exact⟨j+1,⟨kJ,_,cap'⟩,by omega,by go_num,by rw[HAS.out];exact Hr.out,aeH.out⟩
   case measure=>simp[intOf];omega
  ·have HE2:Hid (j=ta.length):=ah (by omega)
   have t_:¬ (j:Int)<ta.length:=by omega
   go_wp2;go_meet;have h1:=qp.out;rw[HE2.out,List.take_length]at h1;exact⟨_,h1⟩
end
end Go.Proofs.YtlfopoimbbpfdaaGreat
