/- What the law asks, in parts: Fk Fl Fd WkE. -/
import Derived.Deep.DrawnRows
import Derived.Test.YtlfopoimbbpfdaaGreatPk38
import Derived.Test.YtlfopoimbbpfdaaGreatPk21
import Derived.Test.YtlfopoimbbpfdaaGreatPk18
import Derived.Test.YtlfopoimbbpfdaaGreatPk25
import Derived.Test.YtlfopoimbbpfdaaGreatPk2
import Derived.Test.YtlfopoimbbpfdaaGreatPk0
set_option linter.all false
set_option maxRecDepth 100000
set_option maxHeartbeats 16000000
namespace Go.Proofs.YtlfopoimbbpfdaaGreat
open Go.RowKit
section
attribute [local go_sem ↓] Go.wp_at_zero Go.wp_at_succ
theorem Oh (w W:World) (m0 at_ n:Int) (m:Nat) (BK:m<12) (hmm:m0%12=m) (xs:List cB) (ls:List Ls) (i:Nat) (Iu:xs.length<1000) (fP:xs.length=ls.length) (hi:(at_%ls.length).toNat=i) (yT:∀l∈ls,l.sl.length<1000∧l.ids.length<1000∧l.used.length<1000) {l:Ls} (hlg:ls.getD i oD=l) (y:dN) (cs:List Ct) (fr:List Rg) (bd:List Int) (z:cB) (_l:Ls) (h:Tz w W (w.heap.size+2) w.heap.size (w.heap.size+1) xs ls i y cs fr bd z l) {u0 u5 u6 u7 u9 u10 u11 u12 u13 u14 u15 u16 u17 u18 u19 u20 u21 u22 u23 u24 u25 u26 u27 u28 u29 u30 u31 u32 u33 u34 u35 u36 u37 u38 u39 u40 u41 u42 u43 u44 u45 u46 u47 u48 u49 u50 u51 u52 u53 u54 u55 u56 u57 u58 u59 u60 u61 u62 u63 u64 u65 u66 u67 u68 u69 u70 u71 u72 u73 u74 u75 u76 u77 u78 u79 u80 u81 u82 u83 u84 u85 u86 u87 u88 u89 u90 u91 u92 u93 u94 u95 u96 u97 u98 u99 u100 u101 u102 u103 u104 u105 u106 u107 u108 u109 u110 u111 u112 u113 u114 u115 u116 u117 u118 u119 u120 u121 u122 u123 u124 u125 u126 u127 u128 u129 u130 u131 u132 u133 u134 u135 u136 u137 u138 u139 u140 u141 u142 u143 u144 u145 u146 u147 u148 u149 u150 u151 u152 u153 u154 u155 u156 u157 u158 u159 u160 u161 u162 u163 u164 u165 u166 u167 u168 u169 u170 u171 u172 u173 u174 u175 u176 u177 u178 u179 u180 u181:Value}:
  ∀c,Tryz.f14.body.bind (spine 5)=some c→Code.wp Tryz.prog c (bodyPost Tryz.prog Tryz.f14 (BJ w ⟨cs,fr,ls.set i (jE m n (jQ m n l)),bd⟩)) ⟨#[u0,.int .i64 m0,.int .i64 at_,.int .i64 n,.pointer (some ⟨w.heap.size,0,none⟩),u5,u6,u7,.pointer (some ⟨w.heap.size+1,0,none⟩),u9,u10,u11,u12,u13,u14,u15,u16,u17,u18,u19,u20,u21,u22,u23,u24,u25,u26,u27,u28,u29,u30,u31,u32,u33,u34,u35,u36,u37,u38,u39,u40,u41,u42,u43,u44,u45,u46,u47,u48,u49,u50,u51,u52,u53,u54,u55,u56,u57,u58,u59,u60,u61,u62,u63,u64,u65,u66,u67,u68,u69,u70,u71,u72,u73,u74,u75,u76,u77,u78,u79,u80,u81,u82,u83,u84,u85,u86,u87,u88,u89,u90,u91,u92,u93,u94,u95,u96,u97,u98,u99,u100,u101,u102,u103,u104,u105,u106,u107,u108,u109,u110,u111,u112,u113,u114,u115,u116,u117,u118,u119,u120,u121,u122,u123,u124,u125,u126,u127,u128,u129,u130,u131,u132,u133,u134,u135,u136,u137,u138,u139,u140,u141,u142,u143,u144,u145,u146,u147,u148,u149,u150,u151,u152,u153,u154,u155,u156,u157,u158,u159,u160,u161,u162,u163,u164,u165,u166,u167,u168,u169,u170,u171,u172,u173,u174,u175,u176,u177,u178,u179,u180,u181],[]⟩ W:=by
 refine dP rfl ?_;obtain⟨⟨ga,gn,gc⟩,⟨ha,fu,hc⟩,⟨ia,eX,ic⟩,⟨ja,jn,jc⟩⟩:=y
 have hjn:eX=xs.length:=by
  have h1:=h.rl;obtain⟨_,_,he,_,_⟩:=aO h1;injection he with _ he _
 subst hjn;have HT:=ah h;have iL:=ah fP;have HI:=ah hi;have Ve:=ah hmm;have HLG:=ah hlg;have HEA:=ah yT;clear fP hi hmm hlg yT;obtain⟨d0,d1,d2,d3,jJ⟩:=ay h.kb;clear h jJ;simp only[Sv.v]at d0 d1 d2 d3;obtain⟨W4,UH⟩:∃W4,W4=W:=⟨_,rfl⟩;subst UH;go_upto_region 17 with fail
 by_cases hx0:xs.length=0
 ·have Dx:(xs.length:Int)=0:=by omega
  have HE0:Hid (ls.set i (jE m n (jQ m n l))=ls.set i l):=ah (by
   have kZ:ls= []:=List.eq_nil_of_length_eq_zero (by have:=iL.out;omega);rw[kZ]
   rfl)
  clear hx0;have yt:Hid (∀c,c≠w.heap.size+1→((((W4.setCell ⟨w.heap.size+1,0,none⟩ (.slice ga gn gc)).setCell ⟨w.heap.size+1,1,none⟩ (.slice ha fu hc)).setCell ⟨w.heap.size+1,2,none⟩ (.slice ia xs.length ic)).setCell ⟨w.heap.size+1,3,none⟩ (.slice ja jn jc)).heap[c]? =W4.heap[c]?):=ah (fun c hc=>bM W4 (w.heap.size+1) c (fun e=>hc e.symm) _ _ _ _ 0 1 2 3);have Oy:Hid (W4.heap.size≤((((W4.setCell ⟨w.heap.size+1,0,none⟩ (.slice ga gn gc)).setCell ⟨w.heap.size+1,1,none⟩ (.slice ha fu hc)).setCell ⟨w.heap.size+1,2,none⟩ (.slice ia xs.length ic)).setCell ⟨w.heap.size+1,3,none⟩ (.slice ja jn jc)).heap.size):=ah (by rw[jA];exact aC _);have HFM:=ah (HT.out.m.over yt.out Oy.out HT.out.kr (vO Oa));have R7:=ah (oW HT.out.bC (show w.heap.size≤w.heap.size+1 by omega) (.slice ga gn gc) (.slice ha fu hc) (.slice ia xs.length ic) (.slice ja jn jc));obtain⟨c0,c1,c2,c3,jJ⟩:=ay HT.out.kb;obtain⟨e0,e1,e2,e3,jJ⟩:=ay HT.out.kr;have f0:=aA HT.out.kr 0;have f1:=aA HT.out.kr 1;have f2:=aA HT.out.kr 2;have f3:=aA HT.out.kr 3;clear jJ yt Oy;simp only[Sv.v,Oa]at c0 c1 c2 c3 e0 e1 e2 e3;go_wp2;refine bodyPost_ret (v:=.agg #[.slice ga gn gc,.slice ha fu hc,.slice ia xs.length ic,.slice ja jn jc]) (by simp[results,Tryz.results14,go_sem, *]) rfl (show BJ _ _ _ _ from⟨⟨⟨ga,gn,gc⟩,⟨ha,fu,hc⟩,⟨ia,xs.length,ic⟩,⟨ja,jn,jc⟩⟩,rfl,?_,R7.out⟩);rw[HE0.out];exact HFM.out
 have Dx:¬ (xs.length:Int)=0:=by omega
 have hxp:(0:Int)<(xs.length:Int):=by omega
 have HII:Hid (at_%(xs.length:Int)=(i:Int)):=ah (by
  have h1:=HI.out;rw[←iL.out]at h1;have h2:=Int.emod_nonneg at_ (show (xs.length:Int)≠0 by omega)
  omega)
 have sQ:i<xs.length:=by
  have h2:=Int.emod_lt_of_pos at_ hxp;rw[HII.out]at h2;omega
 have Lg:(i:Int)<xs.length:=by omega
 have i0:(0:Int)≤(i:Int):=by omega
 obtain⟨g,cap',yR,lF,je,pq,Tg,Mf,Ay,hgB,iQ⟩:=HT.out.cellL sQ;injection yR with rM Kl Km;subst rM Km;clear Kl hx0;go_upto_region 19 with fail
 go_cut[10] (fun xO wx=>xO= .pointer (some ⟨g,i*7,none⟩)∧Below W4.heap.size W4 wx)
 case first=>
  refine wp_region_still_tail 8 (by kernel_rfl) (by kernel_rfl) ?_;simp only[List.take_succ_cons,List.take_zero,List.drop_succ_cons,List.drop_zero];have HWI:∀V,Calls Tryz.prog 18 #[.int .i64 at_,.int .i64 xs.length] V fun e w'=>e= .returned (.int .i64 i)∧w'=V:=fun V=>(jm at_ xs.length V hxp (by omega)).mono fun e w' ⟨h1,h2⟩=>⟨by rw[h1,HII.out],h2⟩
  repeat (first | still_call (HWI _) | still_step)
  refine wpStill_nil ?_;go_wp2;go_meet;exact⟨rfl,(aL _ _).drew⟩
 case rest=>
 obtain⟨rfl,gy⟩:=hcut;have nJ:i<ls.length:=by rw[←iL.out];exact sQ
 have hee:l.sl.length<1000∧l.ids.length<1000∧l.used.length<1000:=by
  have h1:=HLG.out;rw[List.getD_eq_getElem?_getD,List.getElem?_eq_getElem nJ]at h1;rw[←h1];exact HEA.out _ (List.getElem_mem nJ)
 go_step;exact Rm w _ m0 n m BK Ve.out xs ls i g sQ Iu ga gn gc ha fu hc _ ja jn jc cs fr bd z l hee (HT.out.keep gy) _ rfl
end
section
attribute [local go_sem ↓] Go.wp_at_zero Go.wp_at_succ
theorem Rn (w0 W:World) (B:Nat):Rz B w0 W ug oD:=⟨rfl,rfl,rfl,rfl,.inl (dI.nil _ _ _),.inl (fD.nil _),.inl (Sl.nil _ _)⟩
theorem Ko (x:dN) (b:Bk) (m0 at_ n:Int) (w:World) (h:iA w x b) (hB:TuB b):
  Calls Tryz.prog 14 #[iJ x,.int .i64 m0,.int .i64 at_,.int .i64 n] w (BJ w (lY b m0 at_ n)):=by
 obtain⟨⟨ca,cn,cc⟩,⟨fa,bD,fc⟩,⟨la,ln,lc⟩,⟨ba,bE,bc⟩⟩:=x;have hM:=h;obtain⟨xs,hx,xW⟩:=h.l;obtain⟨q0,g7,g8⟩:=Sl.lens (s:=⟨ca,cn,cc⟩) h.c;obtain⟨q1,g1,g2⟩:=Sl.lens (s:=⟨fa,bD,fc⟩) h.f;obtain⟨q2,g3,g4⟩:=Sl.lens (s:=⟨la,ln,lc⟩) hx;obtain⟨q3,g5,g6⟩:=Sl.lens (s:=⟨ba,bE,bc⟩) h.b;simp only at q0 q1 q2 q3 g1 g2 g3 g4 g5 g6 g7 g8;subst q0 q1 q2 q3;have iL:=ah xW.len;have K8:=ah xW;have YX:=ah hB;have HM:=ah hM;have Iu:xs.length<1000:=by rw[xW.len];exact hB.ls
 have hcs2:b.cs.length<1000:=by have:=hB.cs;omega
 have abB:=ah hB.cs;have HRC:=ah (dI.rd h.c);have OC:=ah (Sl.rd h.f);have UE:=ah (dI.rd hx);have MQ:=ah (Sl.rd h.b);have k1:=bX w (.cells #[.slice ca b.cs.length cc,.slice fa b.free.length fc,.slice la xs.length lc,.slice ba b.bound.length bc] 30) (.cells #[.slice none 0 0,.slice none 0 0,.slice none 0 0,.slice none 0 0] 30);have k2:=bL w (.cells #[.slice ca b.cs.length cc,.slice fa b.free.length fc,.slice la xs.length lc,.slice ba b.bound.length bc] 30) (.cells #[.slice none 0 0,.slice none 0 0,.slice none 0 0,.slice none 0 0] 30);have bB:Below w.heap.size w ((w.alloc (.cells #[.slice ca b.cs.length cc,.slice fa b.free.length fc,.slice la xs.length lc,.slice ba b.bound.length bc] 30)).alloc (.cells #[.slice none 0 0,.slice none 0 0,.slice none 0 0,.slice none 0 0] 30)):=((aL _ _).alloc (aC _) _).alloc (by simp) _;have dX:w.heap.size+2≤((w.alloc (.cells #[.slice ca b.cs.length cc,.slice fa b.free.length fc,.slice la xs.length lc,.slice ba b.bound.length bc] 30)).alloc (.cells #[.slice none 0 0,.slice none 0 0,.slice none 0 0,.slice none 0 0] 30)).heap.size:=by simp
 clear h hM hx xW hB;change Calls Tryz.prog _ #[.agg #[.slice ca b.cs.length cc,.slice fa b.free.length fc,.slice la xs.length lc,.slice ba b.bound.length bc],.int .i64 m0,.int .i64 at_,.int .i64 n] w _
 go_enter Tryz.func14,Tryz.ntmps14
 go_upto_region 1 with fail
 generalize (w.alloc (.cells #[.slice ca b.cs.length cc,.slice fa b.free.length fc,.slice la xs.length lc,.slice ba b.bound.length bc] 30)).alloc (.cells #[.slice none 0 0,.slice none 0 0,.slice none 0 0,.slice none 0 0] 30)=W1 at*;have uO:=ah bB;have fJ:=ah k1;have eT:=ah k2;have hpl:w.heap.size<W1.heap.size:=by omega
 have uW:w.heap.size+1<W1.heap.size:=by omega
 obtain⟨a0,a1,a2,a3,jJ⟩:=ay k1;clear bB k1 k2 jJ;go_upto_region 2 with((with_reducible refine aZ 14 ?_);refine nW rfl _ _ rfl W1.heap.size _ 0 [] rfl (dB _ _ _ _ 7 #[] 0 rfl (aC _) (by omega) rfl) ca b.cs.length cc b.cs rfl rfl ((HRC.out.keep uO.out (aC _)).alloc _) (by omega) (by simp) ?_;intro v5 w6 gP hg5 m_;obtain⟨rP,BU,rfl,_,_⟩:=aO gP;have gD:=gZ hg5;have k5:=aj fJ.out gD hpl;obtain⟨d0,d1,d2,d3,jJ⟩:=ay k5;have f0:=aA k5 0;clear jJ)
 rw[Nat.zero_add,List.nil_append]at gP;have uP:∀c,c≠w.heap.size→(w6.setCell ⟨w.heap.size,0,none⟩ (.slice rP (0+b.cs.length) BU)).heap[c]? =w6.heap[c]? :=fun c hc=>aX _ _ _ (fun e=>hc e.symm) _
 have YZ:=ah (aF (aN gP dX) uP k5 (by decide));have KV:=ah (ow k5 (.slice rP (0+b.cs.length) BU));have YP:=ah ((uP (w.heap.size+1) (by omega)).trans (aj eT.out gD uW));have Bo:=ah ((uO.out.trans (gD.mono uO.out.size)).setCell (p:=⟨w.heap.size,0,none⟩) (aC _) (.slice rP (0+b.cs.length) BU));have Uq:w.heap.size+2≤(w6.setCell ⟨w.heap.size,0,none⟩ (.slice rP (0+b.cs.length) BU)).heap.size:=by have:=gD.size;simp[World.setCell];omega
 simp only[Nat.zero_add]at YZ KV Bo YP Uq uP;clear gP hg5 m_ gD k5 uP d0 d1 d2 d3 f0 a0 a1 a2 a3 fJ uO eT hpl uW
 try simp only[Nat.zero_add]
 generalize w6.setCell ⟨w.heap.size,0,none⟩ (.slice rP b.cs.length BU)=W2 at*;have hpl:w.heap.size<W2.heap.size:=by omega
 have uW:w.heap.size+1<W2.heap.size:=by omega
 obtain⟨a0,a1,a2,a3,jJ⟩:=ay KV.out;clear jJ;go_upto_region 3 with((with_reducible refine aZ 19 ?_);refine kS rfl _ _ rfl W2.heap.size _ 0 [] rfl (dB _ _ _ _ 7 #[] 0 rfl (aC _) (by omega) rfl) la xs.length lc xs rfl rfl ((UE.out.keep Bo.out (aC _)).alloc _) (by omega) (by simp) ?_;intro v5 w6 gP hg5 m_;obtain⟨I7,Us,rfl,_,_⟩:=aO gP;have gD:=gZ hg5;have k5:=aj KV.out gD hpl;obtain⟨d0,d1,d2,d3,jJ⟩:=ay k5;have f2:=aA k5 2;clear jJ)
 rw[Nat.zero_add,List.nil_append]at gP;have uP:∀c,c≠w.heap.size→(w6.setCell ⟨w.heap.size,2,none⟩ (.slice I7 (0+xs.length) Us)).heap[c]? =w6.heap[c]? :=fun c hc=>aX _ _ _ (fun e=>hc e.symm) _
 have Sd:=ah (aF (aN gP Uq) uP k5 (by decide));have V_:=ah (aF (aI YZ.out gD (aC _)) uP k5 (by decide));have zx:=ah (oH k5 (.slice I7 (0+xs.length) Us));have R9:=ah ((uP (w.heap.size+1) (by omega)).trans (aj YP.out gD uW));have DU:=ah ((Bo.out.trans (gD.mono Bo.out.size)).setCell (p:=⟨w.heap.size,2,none⟩) (aC _) (.slice I7 (0+xs.length) Us));have Uh:Hid (w.heap.size+2≤(w6.setCell ⟨w.heap.size,2,none⟩ (.slice I7 (0+xs.length) Us)).heap.size):=ah (by have:=gD.size;simp[World.setCell];omega);simp only[Nat.zero_add]at Sd V_ zx DU R9 uP Uh;clear gP hg5 m_ gD k5 uP d0 d1 d2 d3 f2 a0 a1 a2 a3 KV Bo YZ YP dX Uq hpl uW
 try simp only[Nat.zero_add]
 generalize w6.setCell ⟨w.heap.size,2,none⟩ (.slice I7 xs.length Us)=W3 at*;obtain⟨i,hi⟩:∃i,(at_%b.ls.length).toNat=i:=⟨_,rfl⟩
 obtain⟨z,l,Gw,iW,hlg⟩:∃ (z:cB) (l:Ls),Rz (w.heap.size+2) w W3 z l∧xs.set i z=xs∧b.ls.getD i oD=l:=by
  by_cases sQ:i<xs.length
  ·have nJ:i<b.ls.length:=by rw[←iL.out];exact sQ
   refine⟨xs[i],b.ls[i],Rz.old (bN.at K8.out i sQ nJ),List.set_getElem_self _,by simp[List.getD,List.getElem?_eq_getElem nJ]⟩
  ·have nJ:¬i<b.ls.length:=by rw[←iL.out];exact sQ
   exact⟨ug,oD,Rn _ _ _,List.set_eq_of_length_le (by omega),by simp[List.getD,List.getElem?_eq_none (Nat.le_of_not_lt nJ)]⟩
 have HT:Hid (Tz w W3 (w.heap.size+2) w.heap.size (w.heap.size+1) xs b.ls i ⟨⟨rP,b.cs.length,BU⟩,⟨fa,b.free.length,fc⟩,⟨I7,xs.length,Us⟩,⟨ba,b.bound.length,bc⟩⟩ b.cs b.free b.bound z l):=
  ah ⟨DU.out,zx.out,R9.out,aC _,by omega,by omega,by omega,by omega,V_.out,by rw[iW];exact Sd.out,.inl HM.out.f,.inl HM.out.b,K8.out,Gw⟩
 have HI:=ah hi;have HLG:=ah hlg;clear DU zx R9 V_ Sd Gw iW hlg hi;go_wp2_with fail
 refine(Bf at_ 2 _ (by omega) (by omega)).mono ?_;rintro e w7 ⟨rfl,rfl⟩;obtain⟨kk,XY⟩:∃kk:Nat,at_%2=kk:=⟨(at_%2).toNat,by omega⟩;have akq:kk<2:=by omega
 have HKK:=ah XY;rw[XY];clear XY;go_wp2_with fail
 refine(Bf m0 12 _ (by omega) (by omega)).mono ?_;rintro e w7 ⟨rfl,rfl⟩;obtain⟨m,hm0⟩:∃m:Nat,m0%12=m:=⟨(m0%12).toNat,by omega⟩;have BK:m<12:=by omega
 have Ve:=ah hm0;have HTU:Hid (lY b m0 at_ n=⟨r_ m n b.cs kk,D_ m n at_ b.free,b.ls.set i (jE m n (jQ m n l)),Mj m n b.bound⟩):=ah (by unfold lY;rw[hm0,HKK.out,HI.out,HLG.out];rfl);rw[hm0];clear hm0;have sF:kk<b.cs.length:=by have:=abB.out;omega
 have jK:(kk:Int)<b.cs.length:=by omega
 have k0:(0:Int)≤(kk:Int):=by omega
 go_upto_block 0 with fail
 go_cut[] (fun wx=>∃ (y':dN),Tz w wx (w.heap.size+2) w.heap.size (w.heap.size+1) xs b.ls i y' (r_ m n b.cs kk) (D_ m n at_ b.free) (Mj m n b.bound) z l)
 case first=>
  obtain⟨d0,d1,d2,d3,jJ⟩:=ay HT.out.kb;have f1:=aA HT.out.kb 1;have f3:=aA HT.out.kb 3;have hpl:w.heap.size<W3.heap.size:=HT.out.lt;clear jJ;simp only[Sv.v]at d0 d1 d2 d3;obtain⟨g,cap',hxc,lF,je,pq,iQ⟩:=HT.out.cellC (by omega);injection hxc with Dx tN hx3;subst Dx hx3;clear tN;have HTC:∀ {wx:World} {y':dN} {F:List Rg} {D:List Int} (C:List Ct) {C':List Ct},C'=C→Tz w wx (w.heap.size+2) w.heap.size (w.heap.size+1) xs b.ls i y' C' F D z l→Tz w wx (w.heap.size+2) w.heap.size (w.heap.size+1) xs b.ls i y' C F D z l:=fun C _ e hh=>e▸hh
  rcases Rj BK with rfl | rfl | rfl | rfl | rfl | rfl | rfl | rfl | rfl | rfl | rfl | rfl
  ·have La:=fun j u hj hu=>iQ kk sF j u hj hu
   have x0:=La 5 (.int .i64 b.cs[kk].up) (by omega) rfl;have z0:=pq (kk*7+5);have T:=HT.out.zF (g:=g) rfl kk sF 5 (by omega) (.int .i64 n) ⟨b.cs[kk].key,b.cs[kk].coll,b.cs[kk].lo,b.cs[kk].hi,b.cs[kk].start,n,b.cs[kk].down⟩ rfl;have IL:=ah T;clear iQ pq T La;go_wp2;go_meet;refine⟨_,HTC _ ?_ IL.out⟩;simp[r_,List.getD,List.getElem?_eq_getElem sF]
  ·have La:=fun j u hj hu=>iQ kk sF j u hj hu
   have x0:=La 6 (.int .i64 b.cs[kk].down) (by omega) rfl;have z0:=pq (kk*7+6);have T:=HT.out.zF (g:=g) rfl kk sF 6 (by omega) (.int .i64 n) ⟨b.cs[kk].key,b.cs[kk].coll,b.cs[kk].lo,b.cs[kk].hi,b.cs[kk].start,b.cs[kk].up,n⟩ rfl;have IL:=ah T;clear iQ pq T La;go_wp2;go_meet;refine⟨_,HTC _ ?_ IL.out⟩;simp[r_,List.getD,List.getElem?_eq_getElem sF]
  ·have La:=fun j u hj hu=>iQ kk sF j u hj hu
   have x0:=La 3 (.int .i64 b.cs[kk].hi) (by omega) rfl;have z0:=pq (kk*7+3);have T:=HT.out.zF (g:=g) rfl kk sF 3 (by omega) (.int .i64 n) ⟨b.cs[kk].key,b.cs[kk].coll,b.cs[kk].lo,n,b.cs[kk].start,b.cs[kk].up,b.cs[kk].down⟩ rfl;have IL:=ah T;clear iQ pq T La;go_wp2;go_meet;refine⟨_,HTC _ ?_ IL.out⟩;simp[r_,List.getD,List.getElem?_eq_getElem sF]
  ·have hkj:1-kk<b.cs.length:=by have:=abB.out;omega
   have x0:=iQ kk sF 0 (.string b.cs[kk].key) (by omega) rfl;have x1:=iQ (1-kk) hkj 0 (.string b.cs[1-kk].key) (by omega) rfl;have z0:=pq (kk*7);have T:=(HT.out.keep ((aL W3.heap.size W3).drew)).zF (g:=g) rfl kk sF 0 (by omega) (.string b.cs[1-kk].key) ⟨b.cs[1-kk].key,b.cs[kk].coll,b.cs[kk].lo,b.cs[kk].hi,b.cs[kk].start,b.cs[kk].up,b.cs[kk].down⟩ rfl;have i1:IntKind.i64.wrap (1-(kk:Int))=((1-kk:Nat):Int):=by rw[show (1-(kk:Int))=((1-kk:Nat):Int)by omega];exact IntWalk.i64_in _ (by omega)
   have aks:((1-kk:Nat):Int)<b.cs.length:=by omega
   simp only[Nat.add_zero]at x0 x1 T;have IL:=ah T;clear iQ pq T;generalize hkq:1-kk=kq at*;go_upto_region 12 with fail
   go_still_tail 12,(by kernel_rfl)
   go_wp2;go_meet;refine⟨_,HTC _ ?_ (IL.out)⟩;subst hkq;simp[r_,List.getD,List.getElem?_eq_getElem sF,List.getElem?_eq_getElem hkj]
  ·have kZ:b.bound.length<1000:=YX.out.bd
   go_wp2_with ((with_reducible refine aZ 69 ?_);refine mE rfl _ _ rfl W3.heap.size _ 1 [n] rfl (dB _ _ _ _ 1 #[.int .i64 n] 1 rfl (aC _) (by omega) rfl) ba b.bound.length bc b.bound rfl rfl ((MQ.out.keep HT.out.bC (aC _)).alloc _) (by omega) (by simp) ?_;intro v4 w4 ji hg4 jk;obtain⟨rQ,qU,rfl,_,_⟩:=aO ji;have bR:Below W3.heap.size W3 w4:=((aL W3.heap.size W3).alloc (aC _) _).grown hg4 (by simp) (fun g hg=>(by have iY:some W3.heap.size=some g:=hg;injection iY with iY;omega));have k4:=aj HT.out.kb bR HT.out.lt;obtain⟨d0,d1,d2,d3,jJ⟩:=ay k4;have f3:=aA k4 3;clear jJ)
   have T:=(HT.out.keep bR).WY (b':=⟨rQ,1+b.bound.length,qU⟩) (bd':=n::b.bound) (by rw[List.length_cons,Nat.add_comm b.bound.length 1];exact aN ji Uh.out);go_meet;exact⟨_,T⟩
  ·have hfl:b.free.length<1000:=YX.out.fr
   go_wp2_with ((with_reducible refine aZ 79 ?_);refine qx rfl _ _ rfl W3.heap.size _ 1 [(n,at_)] rfl (dB _ _ _ _ 2 #[.int .i64 n,.int .i64 at_] 1 rfl (aC _) (by omega) rfl) fa b.free.length fc b.free rfl rfl ((OC.out.keep HT.out.bC (aC _)).alloc _) (by omega) (by simp) ?_;intro v4 w4 ji hg4 jk;obtain⟨rQ,qU,rfl,_,_⟩:=aO ji;have bR:Below W3.heap.size W3 w4:=((aL W3.heap.size W3).alloc (aC _) _).grown hg4 (by simp) (fun g hg=>(by have iY:some W3.heap.size=some g:=hg;injection iY with iY;omega));have k4:=aj HT.out.kb bR HT.out.lt;obtain⟨d0,d1,d2,d3,jJ⟩:=ay k4;have f1:=aA k4 1;clear jJ)
   have T:=(HT.out.keep bR).Ev (f':=⟨rQ,1+b.free.length,qU⟩) (fr':=(n,at_)::b.free) (by rw[List.length_cons,Nat.add_comm b.free.length 1];exact aN ji Uh.out);go_meet;exact⟨_,T⟩
  ·clear iQ pq
   go_wp2;go_meet;exact⟨_,HT.out⟩
  ·clear iQ pq
   go_wp2;go_meet;exact⟨_,HT.out⟩
  ·clear iQ pq
   go_wp2;go_meet;exact⟨_,HT.out⟩
  ·clear iQ pq
   go_wp2;go_meet;exact⟨_,HT.out⟩
  ·clear iQ pq
   go_wp2;go_meet;exact⟨_,HT.out⟩
  ·clear iQ pq
   go_wp2;go_meet;exact⟨_,HT.out⟩
 case rest=>
 obtain⟨y9,ht⟩:=hcut;have HT4:=ah ht;clear ht HT Uh;go_step;rw[HTU.out];exact Oh w _ m0 at_ n m BK Ve.out xs b.ls i Iu iL.out HI.out (fun l hl=>YX.out.each l hl) HLG.out y9 (r_ m n b.cs kk) (D_ m n at_ b.free) (Mj m n b.bound) z l HT4.out _ rfl
end
section
attribute [local go_sem ↓] Go.wp_at_zero Go.wp_at_succ
def BL (rows:List (List Rg)) (bd:List Int) (i:Nat) (r:List Rg):Bool:=!(rows.take i).any (fun q=>lT r q)&&!bd.any (fun n=>dM r n)
def Ik (rows:List (List Rg)) (bd:List Int):Bool:=decide (iT (BL rows bd) rows)
theorem Il {α:Type} (f:α→Bool) (l:List α) (k:Nat) (hk:k<l.length):(l.take (k+1)).any f=((l.take k).any f||f l[k]):=by rw[aS l k hk,List.any_append];simp
theorem Kq (x:dN) (b:Bk) (w:World) (h:iA w x b) (hn:b.ls.length<1000000):
  Calls Tryz.prog 54 #[iJ x] w fun e w'=>e= .returned (.bool (Ik (rowsOf b) b.bound))∧Below w.heap.size w w':=by
 obtain⟨⟨ca,cn,cc⟩,⟨fa,bD,fc⟩,⟨la,ln,lc⟩,⟨ba,bE,bc⟩⟩:=x;obtain⟨xs,hx,xW⟩:=h.l;obtain⟨q1,g1,g2⟩:=Sl.lens (s:=⟨fa,bD,fc⟩) h.f;obtain⟨q2,g3,g4⟩:=Sl.lens (s:=⟨la,ln,lc⟩) hx;obtain⟨q3,g5,g6⟩:=Sl.lens (s:=⟨ba,bE,bc⟩) h.b;simp only at q1 q2 q3 g1 g2 g3 g4 g5 g6;subst q1 q2 q3;have iL:=ah xW.len;have Iu:xs.length<1000000:=by rw[xW.len];exact hn
 have K8:=ah xW;have HX:=ah hx;have HF:=ah h.f;have HB:=ah h.b;have bB:Below w.heap.size w (w.alloc (.cells #[.slice ca cn cc,.slice fa b.free.length fc,.slice la xs.length lc,.slice ba b.bound.length bc] 30)):=(aL _ _).alloc (aC _) _;have k1:=heap_alloc_new w (.cells #[.slice ca cn cc,.slice fa b.free.length fc,.slice la xs.length lc,.slice ba b.bound.length bc] 30);have dX:(w.alloc (.cells #[.slice ca cn cc,.slice fa b.free.length fc,.slice la xs.length lc,.slice ba b.bound.length bc] 30)).heap.size=w.heap.size+1:=by simp
 obtain⟨gH,hrows⟩:∃gH,rowsOf b=gH:=⟨_,rfl⟩;have Mk:=ah hrows;clear h hx xW hn hrows;change Calls Tryz.prog _ #[.agg #[.slice ca cn cc,.slice fa b.free.length fc,.slice la xs.length lc,.slice ba b.bound.length bc]] w _
 go_enter Tryz.func54,Tryz.ntmps54
 go_upto_region 2 with fail
 generalize w.alloc (.cells #[.slice ca cn cc,.slice fa b.free.length fc,.slice la xs.length lc,.slice ba b.bound.length bc] 30)=W1 at*;have uO:=ah bB;have fJ:=ah k1;clear bB k1;obtain⟨d0,d1,d2,d3,jJ⟩:=ay fJ.out;clear jJ;go_upto_region 3 with((with_reducible refine aZ 12 ?_);refine yB rfl _ _ rfl (w.heap.size+1) _ 0 [] rfl (World.ownsRow_nil _ _ _ _) _ 1 1 [⟨fa,b.free.length,fc⟩] rfl rfl (tu _ _ dX [.slice fa b.free.length fc] _) (by omega) (by simp;omega) ?_;intro v3 w3 iq j4 nQ;obtain⟨Yp,cp3,rfl,_,_⟩:=aO iq)
 rw[Nat.zero_add,List.nil_append]at iq;have eD:Below W1.heap.size W1 (W1.alloc (.cells #[.slice fa b.free.length fc] 26)):=(aL _ _).alloc (aC _) _;have bT:Below W1.heap.size W1 w3:=eD.grown j4 (by simp) (fun k hk=>by cases hk);have j5:=ah iq;have wD:=ah (aj fJ.out bT (by omega));have lI:=ah (uO.out.trans (bT.mono uO.out.size));have oO:w.heap.size+1≤w3.heap.size:=by have:=bT.size;omega
 clear iq j4 nQ eD bT d0 d1 d2 d3 uO fJ;go_upto_block 0 with fail
 go_cut[3] (fun v3 wx=>∃ (ss:List Sv) (ao:Option Addr) (zM:Nat),v3= .slice ao ss.length zM∧ss.length=xs.length+1∧dI IQ 1 wx (.slice ao ss.length zM) ss∧bN (fun s l=>fD wx s.v l) ss gH∧Below w.heap.size w wx∧wx.heap[w.heap.size]? =some (.cells #[.slice ca cn cc,.slice fa b.free.length fc,.slice la xs.length lc,.slice ba b.bound.length bc] 30 (0,0)))
 case first=>
  go_wp2
  go_loopw[3,4] (fun v3 v4 wr=>∃ (k:Nat) (v:Value) (ss:List Sv),k≤xs.length∧v3=v∧v4= .int .i64 k∧ss.length=k+1∧wr.ownsRow (w.heap.size+1) 26 1 v ss.length (aJ IQ ss)∧bN (fun s l=>fD w s.v l) ss (b.free::(b.ls.take k).map Ls.ids)∧Below w.heap.size w wr∧wr.heap[w.heap.size]? =some (.cells #[.slice ca cn cc,.slice fa b.free.length fc,.slice la xs.length lc,.slice ba b.bound.length bc] 30 (0,0))) (fun _ v4 _=>xs.length-(intOf v4).toNat)
  case atStart=>exact⟨0,_,[⟨fa,b.free.length,fc⟩],Nat.zero_le _,rfl,rfl,rfl,j5.out,⟨HF.out,trivial⟩,lI.out,wD.out⟩
  case round=>
   clear j5 wD lI oO;obtain⟨k,v,ss,hk,rfl,rfl,LB,ho,qw,hb,mR⟩:=hrel;have HO:=ah ho;have u_:=ah qw;have CO:=ah hb;have HKB:=ah mR;have UK:=ah LB;have aei:ss.length≤k+1:=by omega
   have mG:w.heap.size<wr.heap.size:=(bq mR).1;obtain⟨d0,d1,d2,d3,jJ⟩:=ay mR;obtain⟨YM,zM,rfl,WM,WO⟩:=aO ho;clear ho qw mR jJ LB;rcases Nat.lt_or_ge k xs.length with bA | gX
   ·have oQ:k<b.ls.length:=by rw[←iL.out];exact bA
    obtain⟨lb,lo,rfl,Ip,e0,e1,e2,e3,e4,e5,e6⟩:=dI.ls HX.out hb (aC _) k bA;have jK:(k:Int)<xs.length:=by omega
    have UL:=(bN.at K8.out k bA oQ).i;have Jp:Hid ((b.ls.take (k+1)).map Ls.ids=(b.ls.take k).map Ls.ids++ [b.ls[k].ids]):=by show _=_;rw[aS b.ls k oQ,List.map_append];rfl
    generalize b.ls[k]=l at*;generalize xs[k]=z at*;obtain⟨z1,z2,z3,z4,⟨z5,z6,z7⟩,⟨z8,z9,dK⟩,⟨dU,eZ,dQ⟩⟩:=z;simp only[Sv.v]at e0 e1 e2 e3 e4 e5 e6 UL;have HMI:=ah UL;clear UL hb e0 e1 e2 e3 e4 e6;go_wp2_with ((with_reducible refine aZ 28 ?_);refine yB rfl _ _ rfl (w.heap.size+1) _ ss.length ss rfl (HO.out.alloc _) _ 1 1 [⟨z8,z9,dK⟩] rfl rfl (tu _ _ rfl [.slice z8 z9 dK] _) (by omega) (by simp;omega) ?_;intro v6 w6 uf Dw Gj)
    have kb6:=(iC Dw (b:=w.heap.size) (B:=w.heap.size+1) (by simp;omega) (by omega) (bQ HO.out)).trans ((Below.heap_alloc _ _ _ (by omega)).trans HKB.out);have jw:Below w.heap.size w w6:=(CO.out.alloc (by omega) _).grown Dw (by simp;omega) (fun g hg=>by have:=bQ HO.out g hg;omega);have zC:=ah uf;have WR:=ah kb6;have eY:=ah jw;clear uf Dw Gj kb6 jw e5;go_roundw
    case rel=>
     refine⟨k+1,v6,ss++ [⟨z8,z9,dK⟩],by omega,rfl,by go_num,by simp[UK.out],by rw[List.length_append];exact zC.out,?_,eY.out,WR.out⟩;rw[Jp.out,←List.cons_append];exact u_.out.append ⟨HMI.out,trivial⟩
    case measure=>simp[intOf];omega
   ·have hke:k=xs.length:=by omega
    have HT:Hid (b.free::(b.ls.take k).map Ls.ids=gH):=ah (by rw[←Mk.out,List.take_of_length_le (by have:=iL.out;omega)];rfl);have HH:Hid (dI IQ 1 wr (.slice YM ss.length zM) ss∧bN (fun s l=>fD wr s.v l) ss gH):=ah ⟨aG HO.out,by rw[←HT.out];exact u_.out.imp fun _ _ r=>fD.keep r CO.out (aC _)⟩;have Vv:Hid (ss.length=xs.length+1):=ah (by rw[UK.out,hke]);go_wp2;go_meet;exact⟨ss,YM,zM,rfl,Vv.out,HH.out.1,HH.out.2,CO.out,HKB.out⟩
 case rest=>
 clear j5 wD lI oO;obtain⟨ss,YM,zM,rfl,afQ,eu,qw,jw,mR⟩:=hcut;obtain⟨W,hW⟩:∃W,W=wc:=⟨_,rfl⟩;subst hW;have Np:=ah eu;have u_:=ah qw;have eY:=ah jw;have HKB:=ah mR;have UE:=ah qw.len;have hsn:ss.length<1000001:=by omega
 obtain⟨_,WM,WO⟩:=Sl.lens (s:=⟨YM,ss.length,zM⟩) eu;simp only at WM WO;have HNI:=ah (jv.keep HB.out jw (aC _));have OG:w.heap.size<W.heap.size:=(bq mR).1;clear eu qw jw mR afQ HX K8 HF HB;go_wp2
 go_loopw[5] (fun v5 wr=>∃i:Nat,i≤ss.length∧v5= .int .i64 i∧fC (BL gH b.bound) gH i∧Below W.heap.size W wr) (fun v5 _=>ss.length-(intOf v5).toNat)
 case atStart=>exact⟨0,Nat.zero_le _,rfl,iO _ _,aL _ _⟩
 case round=>
  obtain⟨i,hi,rfl,hA,hb⟩:=hrel;have HA:=ah hA;have CO:=ah hb;clear hA;rcases Nat.lt_or_ge i ss.length with bA | gX
  ·obtain⟨rb,ro,rfl,tO,_⟩:=dI.sv Np.out hb (aC _) i bA
   have XZ:i<gH.length:=by rw[←UE.out];exact bA
   have Lg:(i:Int)<ss.length:=by omega
   have vg:=ah (lK (f:=BL gH b.bound) XZ);have nU:=ah (fC.step HA.out XZ);have lZ:Hid (BL gH b.bound i gH[i]=(!(gH.take i).any (fun q=>lT gH[i] q)&&!b.bound.any (fun n=>dM gH[i] n))):=rfl;have abD:Hid (fD W ss[i].v gH[i]):=ah (bN.at u_.out i bA XZ)
   have Ak:Hid (∀V,Below W.heap.size W V→ ∀j (hj:j<ss.length),V.cell? ⟨rb,ro+j,none⟩=some ss[j].v):=ah (fun V hV j hj=>by
    obtain⟨rb',ro',he,_,hc⟩:=dI.sv Np.out hV (aC _) j hj;injection he with he;injection he with e1 e2 _;subst e1 e2
    exact hc)
   have afS:Hid (∀j (hj:j<ss.length) (hj2:j<gH.length),fD W ss[j].v gH[j]):=ah (fun j hj hj2=>bN.at u_.out j hj hj2);have mI:Hid (Ik gH b.bound=decide (iT (BL gH b.bound) gH)):=rfl;generalize BL gH b.bound i gH[i]=ok at*;generalize hri:gH[i]=r at*;clear hri hb;go_upto_block 4 with fail
   go_cut[] (fun wx=>(gH.take i).any (fun q=>lT r q)=false∧Below W.heap.size W wx)
   case first=>
    go_wp2
    go_loopw[6] (fun v6 wq=>∃j:Nat,j≤i∧v6= .int .i64 j∧(gH.take j).any (fun q=>lT r q)=false∧Below W.heap.size W wq) (fun v6 _=>i-(intOf v6).toNat)
    case atStart=>exact⟨0,Nat.zero_le _,rfl,rfl,CO.out⟩
    case round=>
     obtain⟨j,hj,rfl,hm,gy⟩:=hrel;have HM:=ah hm;clear hm;rcases Nat.lt_or_ge j i with hji | YF
     ·have t_:(j:Int)<i:=by omega
      have hjs:j<ss.length:=by omega
      have hjr:j<gH.length:=by omega
      have afT:(j:Int)<ss.length:=by omega
      have RZ:=ah (fD.keep abD.out gy (aC _));have qp:=ah (fD.keep (afS.out j hjs hjr) gy (aC _));have X0:Hid ((gH.take (j+1)).any (fun q=>lT r q)=((gH.take j).any (fun q=>lT r q)||lT r gH[j])):=ah (Il _ _ j hjr)
      have X6:Hid (lT r gH[j]=true→(gH.take i).any (fun q=>lT r q)=true):=ah (fun hh=>by
       rw[List.any_eq_true]
       exact⟨gH[j],List.mem_take_iff_getElem.2 ⟨j,by omega,rfl⟩,hh⟩)
      obtain⟨U,hU⟩:∃U,U=wr:=⟨_,rfl⟩;subst hU;have vS:Hid (∀V,Below U.heap.size U V→V.cell? ⟨rb,ro+i,none⟩=some ss[i].v):=ah (fun V hV=>Ak.out V (gy.trans (hV.mono gy.size)) i bA);have HCJ:Hid (∀V,Below U.heap.size U V→V.cell? ⟨rb,ro+j,none⟩=some ss[j].v):=ah (fun V hV=>Ak.out V (gy.trans (hV.mono gy.size)) j hjs);have Im:=ah gy;clear gy;generalize gH[j]=q at*;obtain⟨qm,hqm⟩:∃qm,lT r q=qm:=⟨_,rfl⟩;have Ro:=ah hqm;clear hqm;go_upto_region 13 with fail
      go_cut[48] (fun v48 wx=>v48= .bool qm∧Below U.heap.size U wx)
      case first=>
       refine aW 8 (fun w'=>Below U.heap.size U w') (by kernel_rfl) ?_;have aQ:Below U.heap.size U U.drew:=(aL _ _).drew;refine aV (i:=0) (v:=.slice (some ⟨rb,ro,none⟩) ss.length zM) rfl (by kernel_rfl) (fun _ _ _ h=>h) (.inl ⟨rfl,fun w' _=>?_⟩) aQ ?_
       ·go_simp
       refine aV (i:=1) (v:=.int .i64 i) rfl (by kernel_rfl) (fun _ _ _ h=>h) (.inl ⟨rfl,fun w' _=>?_⟩) aQ ?_
       ·go_simp
       refine aV (i:=2) (v:=.pointer (some ⟨rb,ro+i,none⟩)) rfl (by kernel_rfl) (fun _ _ _ h=>h) (.inl ⟨rfl,fun w' _=>?_⟩) aQ ?_
       ·go_simp
       refine aP (i:=3) (v:=ss[i].v) rfl rfl (by kernel_rfl) (fun _ _ _ h=>h) (.inl ⟨rfl,fun w' hw=>?_⟩) aQ ?_
       ·have e1:=vS.out w' hw
        go_simp
       refine aV (i:=4) (v:=.slice (some ⟨rb,ro,none⟩) ss.length zM) rfl (by kernel_rfl) (fun _ _ _ h=>h) (.inl ⟨rfl,fun w' _=>?_⟩) aQ ?_
       ·go_simp
       refine aV (i:=5) (v:=.int .i64 j) rfl (by kernel_rfl) (fun _ _ _ h=>h) (.inl ⟨rfl,fun w' _=>?_⟩) aQ ?_
       ·go_simp
       refine aV (i:=6) (v:=.pointer (some ⟨rb,ro+j,none⟩)) rfl (by kernel_rfl) (fun _ _ _ h=>h) (.inl ⟨rfl,fun w' _=>?_⟩) aQ ?_
       ·go_simp
       refine aP (i:=7) (v:=ss[j].v) rfl rfl (by kernel_rfl) (fun _ _ _ h=>h) (.inl ⟨rfl,fun w' hw=>?_⟩) aQ ?_
       ·have e1:=HCJ.out w' hw
        go_simp
       refine aD (i:=8) (by kernel_rfl) rfl rfl ?_;go_simp;refine(Qv _ _ r q _ (fD.keep RZ.out aQ (aC _)) (fD.keep qp.out aQ (aC _))).mono ?_;rw[Ro.out];rintro e V ⟨rfl,hb⟩;have mq:=aQ.trans (hb.mono aQ.size);refine aU (by kernel_rfl) ?_;go_wp2;go_meet;exact⟨rfl,mq⟩
      case rest=>
      obtain⟨rfl,jW⟩:=hcut;have I8:=ah (Im.out.trans (jW.mono Im.out.size));clear jW
      cases qm with
      | true=>
       have qQ:ok=false:=by rw[lZ.out,X6.out Ro.out];rfl
       have mo:=ah (vg.out qQ);clear qQ;go_wp2;go_ret;exact⟨aH (by rw[Mk.out,mI.out];exact mo.out.symm),eY.out.trans (I8.out.mono eY.out.size)⟩
      | false=>
       go_wp2;go_roundw
       case rel=>exact⟨j+1,by omega,by go_num,by rw[X0.out,HM.out,Ro.out];rfl,I8.out⟩
       case measure=>simp[intOf];omega
     ·have t_:¬ (j:Int)<i:=by omega
      have Te:j=i:=by omega
      subst Te;go_wp2;go_meet;exact⟨HM.out,gy⟩
   case rest=>
   obtain⟨hm,gy⟩:=hcut;have HM:=ah hm;have Im:=ah gy;clear hm gy CO;go_wp2
   go_loopw[7] (fun v7 wq=>∃j:Nat,j≤b.bound.length∧v7= .int .i64 j∧(b.bound.take j).any (fun n=>dM r n)=false∧Below W.heap.size W wq) (fun v7 _=>b.bound.length-(intOf v7).toNat)
   case atStart=>exact⟨0,Nat.zero_le _,rfl,rfl,Im.out⟩
   case round=>
    obtain⟨j,hj,rfl,hm,gy⟩:=hrel;have HMJ:=ah hm;clear hm Im;have JE:=aj HKB.out gy OG;obtain⟨d0,d1,d2,d3,jJ⟩:=ay JE;clear JE jJ;rcases Nat.lt_or_ge j b.bound.length with hji | YF
    ·obtain⟨nb,no,rfl,hnb,_⟩:=jv.cell HNI.out gy (aC _) j hji
     have t_:(j:Int)<b.bound.length:=by omega
     have RZ:=ah (fD.keep abD.out gy (aC _));have X0:Hid ((b.bound.take (j+1)).any (fun n=>dM r n)=((b.bound.take j).any (fun n=>dM r n)||dM r b.bound[j])):=ah (Il _ _ j hji)
     have X6:Hid (dM r b.bound[j]=true→b.bound.any (fun n=>dM r n)=true):=ah (fun hh=>by
      rw[List.any_eq_true]
      exact⟨b.bound[j],List.getElem_mem hji,hh⟩)
     obtain⟨U,hU⟩:∃U,U=wr:=⟨_,rfl⟩;subst hU;have vS:Hid (∀V,Below U.heap.size U V→V.cell? ⟨rb,ro+i,none⟩=some ss[i].v):=ah (fun V hV=>Ak.out V (gy.trans (hV.mono gy.size)) i bA);have HC3:Hid (∀V,Below U.heap.size U V→V.cell? ⟨w.heap.size,3,none⟩=some (.slice (some ⟨nb,no,none⟩) b.bound.length bc)):=ah (fun V hV=>(ay (aj HKB.out (gy.trans (hV.mono gy.size)) OG)).2.2.2.1)
     have HCN:Hid (∀V,Below U.heap.size U V→V.cell? ⟨nb,no+j,none⟩=some (.int .i64 b.bound[j])):=ah (fun V hV=>by
      obtain⟨nb',no',he,_,hc⟩:=jv.cell HNI.out (gy.trans (hV.mono gy.size)) (aC _) j hji;injection he with he;injection he with e1 e2 _;subst e1 e2
      exact hc)
     have Im:=ah gy;clear gy;generalize b.bound[j]=n at*;obtain⟨qm,hqm⟩:∃qm,dM r n=qm:=⟨_,rfl⟩;have Ro:=ah hqm;clear hqm;go_upto_region 18 with fail
     clear d0 d1 d2 d3
     go_cut[65] (fun v65 wx=>v65= .bool qm∧Below U.heap.size U wx)
     case first=>
      refine aW 9 (fun w'=>Below U.heap.size U w') (by kernel_rfl) ?_;have aQ:Below U.heap.size U U.drew:=(aL _ _).drew;refine aV (i:=0) (v:=.slice (some ⟨rb,ro,none⟩) ss.length zM) rfl (by kernel_rfl) (fun _ _ _ h=>h) (.inl ⟨rfl,fun w' _=>?_⟩) aQ ?_
      ·go_simp
      refine aV (i:=1) (v:=.int .i64 i) rfl (by kernel_rfl) (fun _ _ _ h=>h) (.inl ⟨rfl,fun w' _=>?_⟩) aQ ?_
      ·go_simp
      refine aV (i:=2) (v:=.pointer (some ⟨rb,ro+i,none⟩)) rfl (by kernel_rfl) (fun _ _ _ h=>h) (.inl ⟨rfl,fun w' _=>?_⟩) aQ ?_
      ·go_simp
      refine aP (i:=3) (v:=ss[i].v) rfl rfl (by kernel_rfl) (fun _ _ _ h=>h) (.inl ⟨rfl,fun w' hw=>?_⟩) aQ ?_
      ·have e1:=vS.out w' hw
       go_simp
      refine aV (i:=4) (v:=.pointer (some ⟨w.heap.size,3,none⟩)) rfl (by kernel_rfl) (fun _ _ _ h=>h) (.inl ⟨rfl,fun w' _=>?_⟩) aQ ?_
      ·go_simp
      refine aV (i:=6) (v:=.int .i64 j) rfl (by kernel_rfl) (fun _ _ _ h=>h) (.inl ⟨rfl,fun w' _=>?_⟩) aQ ?_
      ·go_simp
      have e1:=HC3.out U.drew aQ;have e2:=HCN.out U.drew aQ;refine aD (i:=5) (by kernel_rfl) rfl rfl ?_;go_simp;refine aD (i:=7) (by kernel_rfl) rfl rfl ?_;go_simp;refine aD (i:=8) (by kernel_rfl) rfl rfl ?_;go_simp;refine aD (i:=9) (by kernel_rfl) rfl rfl ?_;go_simp;refine(sP _ r n _ (fD.keep RZ.out aQ (aC _))).mono ?_;rw[Ro.out];rintro e V ⟨rfl,rfl⟩;refine aU (by kernel_rfl) ?_;go_wp2;go_meet;exact⟨rfl,aQ⟩
     case rest=>
     obtain⟨rfl,jW⟩:=hcut;have I8:=ah (Im.out.trans (jW.mono Im.out.size));clear jW
     cases qm with
     | true=>
      have qQ:ok=false:=by rw[lZ.out,X6.out Ro.out];simp
      have mo:=ah (vg.out qQ);clear qQ;go_wp2;go_ret;exact⟨aH (by rw[Mk.out,mI.out];exact mo.out.symm),eY.out.trans (I8.out.mono eY.out.size)⟩
     | false=>
      go_wp2;go_roundw
      case rel=>exact⟨j+1,by omega,by go_num,by rw[X0.out,HMJ.out,Ro.out];rfl,I8.out⟩
      case measure=>simp[intOf];omega
    ·have t_:¬ (j:Int)<b.bound.length:=by omega
     have HE:Hid (b.bound.any (fun n=>dM r n)=false):=ah (by have h1:=HMJ.out;rw[List.take_of_length_le (by omega)]at h1;exact h1);have qQ:ok=true:=by rw[lZ.out,HM.out,HE.out];rfl
     have HY:=ah (nU.out qQ);have afV:=ah gy;clear qQ gy;go_wp2;go_roundw
     case rel=>exact⟨i+1,by omega,by go_num,HY.out,afV.out⟩
     case measure=>simp[intOf];omega
  ·have Lg:¬ (i:Int)<ss.length:=by omega
   have mI:Hid (true=Ik gH b.bound):=ah ((fC.all HA.out (by have:=UE.out;omega)).symm);go_wp2;go_ret;exact⟨aH (by rw[Mk.out];exact mI.out),eY.out.trans (CO.out.mono eY.out.size)⟩
end
theorem Ml (v:Value) (l:List Rg) (w:World) (h:fD w v l):
  Calls Tryz.prog 52 #[v] w fun e w'=>e= .returned (.bool (decide (dw l)))∧Below w.heap.size w w':=by
 obtain⟨ao,cap,rfl,dO,hm⟩:=Sl.shape h
 go_enter Tryz.func52,Tryz.ntmps52
 go_wp2
 go_loopw[3] (fun i wr=>∃k:Nat,k≤l.length∧i= .int .i64 k∧dw (l.take k)∧Below w.heap.size w wr) (fun i _=>l.length-(intOf i).toNat)
 case atStart=>exact⟨0,Nat.zero_le _,rfl,⟨by simp[Small],by simp⟩,aL _ _⟩
 case round=>
  obtain⟨k,hk,rfl,hh,hb⟩:=hrel;have HH:=ah hh;clear hh;rcases Nat.lt_or_ge k l.length with bA | gX
  ·obtain⟨b,off,rfl,kZ,lF,je⟩:=h.pair hb (aC _) k bA
   have HS:=ah (aS l k bA);rcases Nat.eq_zero_or_pos k with rfl | hpos
   ·simp only[Nat.zero_mul,Nat.add_zero]at lF je
    have HR:Hid (dw l→dw [l[0]]):=fun h=>by have:=h.take 1;rw[HS.out]at this;simpa using this
    generalize l[0]=r at*;obtain⟨x,y⟩:=r;simp only at lF je;by_cases d1:x<0
    ·go_wp2
     go_quiet (fail)
     go_wp2;go_ret;exact⟨aH (by symm;rw[decide_eq_false_iff_not];intro hr;have:=(mV x y).1 (HR.out hr);omega),below_drewN hb _⟩
    have e1:decide (x<0)=false:=by simpa using d1
    by_cases d2:y≤x
    ·go_wp2
     go_quiet (fail)
     go_wp2;go_ret;exact⟨aH (by symm;rw[decide_eq_false_iff_not];intro hr;have:=(mV x y).1 (HR.out hr);omega),below_drewN hb _⟩
    have e2:decide (y≤x)=false:=by simpa using d2
    by_cases d3:1073741824<y
    ·go_wp2
     go_quiet (fail)
     go_wp2;go_ret;exact⟨aH (by symm;rw[decide_eq_false_iff_not];intro hr;have:=(mV x y).1 (HR.out hr);omega),below_drewN hb _⟩
    have e3:decide (1073741824<y)=false:=by simpa using d3
    go_wp2;go_quiet (fail)
    go_wp2;go_roundw
    case rel=>exact⟨1,by omega,by go_num,by rw[HS.out];exact(mV x y).2 (by omega),below_drewN hb _⟩
    case measure=>simp[intOf];omega
   ·obtain⟨j,rfl⟩:∃j,k=j+1:=⟨k-1,by omega⟩
    have oU:j<l.length:=by omega
    obtain⟨b',off',FB,_,BX,zX⟩:=h.pair hb (aC _) j oU
    cases FB
    have HR:Hid (dw l→dw (l.take j++ [l[j]]++ [l[j+1]])):=fun h=>by have:=h.take (j+1+1);rw[HS.out,aS l j oU]at this;exact this
    have HJ:=ah (aS l j oU);generalize l[j+1]=r at*;generalize l[j]=r0 at*;obtain⟨x,y⟩:=r;obtain⟨x0,y0⟩:=r0;simp only at lF je BX zX;clear hpos BX;by_cases d1:x<0
    ·go_wp2
     go_quiet (fail)
     go_wp2;go_ret;exact⟨aH (by symm;rw[decide_eq_false_iff_not];intro hr;have:=(jr _ x0 y0 x y).1 (HR.out hr);omega),below_drewN hb _⟩
    have e1:decide (x<0)=false:=by simpa using d1
    by_cases d2:y≤x
    ·go_wp2
     go_quiet (fail)
     go_wp2;go_ret;exact⟨aH (by symm;rw[decide_eq_false_iff_not];intro hr;have:=(jr _ x0 y0 x y).1 (HR.out hr);omega),below_drewN hb _⟩
    have e2:decide (y≤x)=false:=by simpa using d2
    by_cases d3:1073741824<y
    ·go_wp2
     go_quiet (fail)
     go_wp2;go_ret;exact⟨aH (by symm;rw[decide_eq_false_iff_not];intro hr;have:=(jr _ x0 y0 x y).1 (HR.out hr);omega),below_drewN hb _⟩
    have e3:decide (1073741824<y)=false:=by simpa using d3
    by_cases d4:x≤y0
    ·go_wp2
     go_quiet (fail)
     go_wp2;go_ret;exact⟨aH (by symm;rw[decide_eq_false_iff_not];intro hr;have:=(jr _ x0 y0 x y).1 (HR.out hr);omega),below_drewN hb _⟩
    have e4:decide (x≤y0)=false:=by simpa using d4
    go_wp2;go_quiet (fail)
    go_wp2;go_roundw
    case rel=>exact⟨j+1+1,by omega,by go_num,by rw[HS.out,HJ.out];have h9:=HH.out;rw[HJ.out]at h9;exact(jr _ x0 y0 x y).2 ⟨h9,by omega⟩,below_drewN hb _⟩
    case measure=>simp[intOf];omega
  ·go_wp2
   go_ret;exact⟨aH (by symm;rw[decide_eq_true_iff];have:=HH.out;rw[List.take_of_length_le gX]at this;exact this),hb⟩
end Go.Proofs.YtlfopoimbbpfdaaGreat
