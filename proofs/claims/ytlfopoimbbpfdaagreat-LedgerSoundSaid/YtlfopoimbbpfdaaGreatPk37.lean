/- What the law asks, in parts: Bk Bl Bm Ca Cb Cc. -/
import Derived.Deep.DrawnRows
import Derived.Test.YtlfopoimbbpfdaaGreatPk35
import Derived.Test.YtlfopoimbbpfdaaGreatPk15
import Derived.Test.YtlfopoimbbpfdaaGreatPk36
import Derived.Test.YtlfopoimbbpfdaaGreatPk27
set_option linter.all false
set_option maxRecDepth 100000
set_option maxHeartbeats 16000000
namespace Go.Proofs.YtlfopoimbbpfdaaGreat
open Go.RowKit
section
attribute [local go_sem ↓] Go.wp_at_zero Go.wp_at_succ
theorem Ua (w W:World) (x:uz) (ya yb:dN) (b:Bk) (dev ep:Int) (va:Option Addr) (wn vc:Nat) (h:Dq w W x ya yb) (oZ:iA w ya b) (pY:iA w yb b) (hB:Dl b) (hF:∀k (hk:k<b.ls.length),k_ b.ls dev ep=k→Li b b.ls[k]) (hRF:(gJ b dev ep).2=true→Bh b (gJ b dev ep).1) (hE:rF b dev ep=pK b dev ep) (hk:x.kind%8=7) (b2:Bk) (bO:b2=(pK b dev ep).1) {u0 u1 u2 u8 u12 u13 u14 u15 u16 u17 u18 u19 u20 u21 u22 u23 u24 u25 u26 u27 u28 u29 u30 u31 u32 u33 u34 u35 u36 u37 u38 u39 u40 u41 u42 u43 u44 u45 u46 u47 u48 u49 u50 u51 u52 u53 u54 u55 u56 u57 u58 u59 u60 u61 u62 u63 u64 u65 u66 u67 u68 u69 u70 u71 u72 u73 u74 u75 u76 u77 u78 u79 u80 u81 u82 u83 u84 u85 u86 u87 u88 u89 u90 u91 u92 u93 u94 u95 u96 u97 u98 u99 u100 u101 u102 u103 u104 u105 u106 u107 u108 u109 u110 u111 u112 u113 u114 u115 u116 u117 u118 u119 u120 u121 u122 u123 u124 u125 u126 u127 u128 u129 u130 u131 u132 u133 u134 u135 u136 u137 u138 u139 u140 u141 u142 u143 u144 u145 u146 u147 u148 u149 u150 u151 u152 u153 u154 u155 u156 u157 u158 u159 u160 u161 u162 u163 u164 u165 u166 u167 u168 u169 u170 u171 u172 u173 u174 u175 u176 u177 u178 u179 u180 u181 u182 u183 u184 u185 u186 u187 u188 u189 u190 u191 u192 u193 u194 u195 u196 u197 u198 u199 u200 u201 u202 u203 u204 u205 u206 u207 u208 u209 u210 u211 u212 u213 u214 u215 u216 u217 u218 u219 u220 u221 u222 u223 u224 u225 u226 u227 u228 u229 u230 u231 u232 u233 u234 u235 u236 u237 u238:Value}:
  ∀c,Tryz.f10.body.bind (spine 5)=some c→Code.wp Tryz.prog c (bodyPost Tryz.prog Tryz.f10 (qJ w b2)) ⟨#[u0,u1,u2,.pointer (some ⟨w.heap.size,0,none⟩),.pointer (some ⟨w.heap.size+1,0,none⟩),.pointer (some ⟨w.heap.size+1+1,0,none⟩),.pointer (some ⟨w.heap.size+1+1+1,0,none⟩),.pointer (some ⟨w.heap.size+1+1+1+1,0,none⟩),u8,.int .i64 dev,.int .i64 ep,.slice va wn vc,u12,u13,u14,u15,u16,u17,u18,u19,u20,u21,u22,u23,u24,u25,u26,u27,u28,u29,u30,u31,u32,u33,u34,u35,u36,u37,u38,u39,u40,u41,u42,u43,u44,u45,u46,u47,u48,u49,u50,u51,u52,u53,u54,u55,u56,u57,u58,u59,u60,u61,u62,u63,u64,u65,u66,u67,u68,u69,u70,u71,u72,u73,u74,u75,u76,u77,u78,u79,u80,u81,u82,u83,u84,u85,u86,u87,u88,u89,u90,u91,u92,u93,u94,u95,u96,u97,u98,u99,u100,u101,u102,u103,u104,u105,u106,u107,u108,u109,u110,u111,u112,u113,u114,u115,u116,u117,u118,u119,u120,u121,u122,u123,u124,u125,u126,u127,u128,u129,u130,u131,u132,u133,u134,u135,u136,u137,u138,u139,u140,u141,u142,u143,u144,u145,u146,u147,u148,u149,u150,u151,u152,u153,u154,u155,u156,u157,u158,u159,u160,u161,u162,u163,u164,u165,u166,u167,u168,u169,u170,u171,u172,u173,u174,u175,u176,u177,u178,u179,u180,u181,u182,u183,u184,u185,u186,u187,u188,u189,u190,u191,u192,u193,u194,u195,u196,u197,u198,u199,u200,u201,u202,u203,u204,u205,u206,u207,u208,u209,u210,u211,u212,u213,u214,u215,u216,u217,u218,u219,u220,u221,u222,u223,u224,u225,u226,u227,u228,u229,u230,u231,u232,u233,u234,u235,u236,u237,u238],[]⟩ W:=by
 refine dP rfl ?_;obtain⟨⟨ca,cn,cc⟩,⟨fa,bD,fc⟩,⟨la,ln,lc⟩,⟨ba,bE,bc⟩⟩:=ya;obtain⟨⟨ga,gn,gc⟩,⟨ha,fu,hc⟩,⟨ia,eX,ic⟩,⟨ja,jn,jc⟩⟩:=yb;obtain⟨xk,xd,xn,⟨Ch,Ci,Cj⟩,xo⟩:=x;simp only at hk bO;obtain⟨⟨gb,ge⟩,Mf⟩:∃g,pK b dev ep=g:=⟨_,rfl⟩;rw[Mf]at bO hE;simp only at bO;subst bO;have sw:=ah h;have pV:=ah oZ;have zN:=ah pY
 have e0:W.cell? ⟨w.heap.size,0,none⟩=some (.int .i64 xk):=by
  have:=h.k3;simp only[World.cell?,this];rfl
 have Tj:=(bq h.k7).1;have HP:=ah (And.intro hB (And.intro hF hRF));have mU:=ah (And.intro Mf hE);clear h oZ pY hB hF hRF hE Mf;go_upto_if 56 with((go_at_call 18;refine(jm xk 8 W (by omega) (by omega)).mono ?_);rintro en w9 ⟨rfl,Va⟩;rw[Va];clear Va)
 go_cut[56] (fun v56 wx=>v56= .bool false∧wx=W)
 case first=>
  go_wp2;go_meet;exact⟨rfl,rfl⟩
 case rest=>
 obtain⟨rfl,rV⟩:=hcut;rw[rV];clear rV e0 hk;obtain⟨a0,a1,a2,a3,_⟩:=ay sw.out.k4;simp only[Sv.v]at a0 a1 a2 a3;go_wp2_with fail
 refine(P6 ⟨⟨ca,cn,cc⟩,⟨fa,bD,fc⟩,⟨la,ln,lc⟩,⟨ba,bE,bc⟩⟩ b dev ep W (pV.out.keep sw.out.bC (aC _)) HP.out.1 HP.out.2.1).mono ?_;rw[mU.out.1];rintro en W2 ⟨⟨⟨oa,on,oc⟩,⟨pa,pn,pc⟩,⟨qa,qn,qc⟩,⟨ra,rn,rc⟩⟩,rfl,je,bO⟩;have eD:=(aL W2.heap.size W2).alloc (aC _) (.cells #[.slice oa on oc,.slice pa pn pc,.slice qa qn qc,.slice ra rn rc] 30);have bT:=bO.trans (eD.mono bO.size);have HC:=ah (je.keep eD (aC _));have YT:=ah (heap_alloc_new W2 (.cells #[.slice oa on oc,.slice pa pn pc,.slice qa qn qc,.slice ra rn rc] 30));have vJ:=ah (sw.out.keep bT);have f_:=bO.size;clear je eD bO bT a0 a1 a2 a3 sw;go_upto_region 15 with fail
 generalize W2.alloc (.cells #[.slice oa on oc,.slice pa pn pc,.slice qa qn qc,.slice ra rn rc] 30)=W3 at*;have akc:w.heap.size+1+1+1+1<W2.heap.size:=by omega
 generalize W2.heap.size=p19 at*;obtain⟨a0,a1,a2,a3,_⟩:=ay vJ.out.k5;simp only[Sv.v]at a0 a1 a2 a3;go_wp2_with fail
 refine(NG ⟨⟨ga,gn,gc⟩,⟨ha,fu,hc⟩,⟨ia,eX,ic⟩,⟨ja,jn,jc⟩⟩ b dev ep W3 (zN.out.keep vJ.out.bC (aC _)) HP.out.1 HP.out.2.2).mono ?_;rw[mU.out.2];rintro en W4 ⟨⟨⟨sa,sn,sc⟩,⟨ta,tn,tc⟩,⟨ua,un,uc⟩,⟨xa,Mg,xc⟩⟩,rfl,hd4,bR⟩;have Lc:=(aL W4.heap.size W4).alloc (aC _) (.cells #[.slice sa sn sc,.slice ta tn tc,.slice ua un uc,.slice xa Mg xc] 30);have gD:=bR.trans (Lc.mono bR.size);have afE:=(bq YT.out).1;have Q5:=ah (aj YT.out gD afE);have Q6:=ah (heap_alloc_new W4 (.cells #[.slice sa sn sc,.slice ta tn tc,.slice ua un uc,.slice xa Mg xc] 30));have HY:=ah (HC.out.keep gD (aC _));have HZ:=ah (hd4.keep Lc (aC _));have HQ:=ah (vJ.out.keep gD);have mP:=bR.size;clear a0 a1 a2 a3 hd4 bR gD Lc vJ HC YT HP mU pV zN;go_upto_region 16 with fail
 generalize W4.alloc (.cells #[.slice sa sn sc,.slice ta tn tc,.slice ua un uc,.slice xa Mg xc] 30)=WB at*;have akd:w.heap.size+1+1+1+1<W4.heap.size:=by omega
 generalize W4.heap.size=UF at*;refine aW 12 (gG p19 UF WB) (by kernel_rfl) ?_;have aQ:gG p19 UF WB WB.drew:=⟨rfl,rfl⟩;refine aP (i:=0) (v:=.agg #[.slice oa on oc,.slice pa pn pc,.slice qa qn qc,.slice ra rn rc]) rfl rfl (by kernel_rfl) (fun _ _ _ h=>h) (.inl ⟨rfl,fun w' hw=>?_⟩) aQ ?_
 ·obtain⟨a0,a1,a2,a3,_⟩:=ay (hw.1.trans Q5.out)
  go_simp
 refine aP (i:=1) (v:=.agg #[.slice sa sn sc,.slice ta tn tc,.slice ua un uc,.slice xa Mg xc]) rfl rfl (by kernel_rfl) (fun _ _ _ h=>h) (.inl ⟨rfl,fun w' hw=>?_⟩) aQ ?_
 ·obtain⟨a0,a1,a2,a3,_⟩:=ay (hw.2.trans Q6.out)
  go_simp
 refine aV (i:=2) (v:=.int .i64 ge) rfl (by kernel_rfl) (fun _ _ _ h=>h) (.inl ⟨rfl,fun w' _=>?_⟩) aQ ?_
 ·go_simp
 refine aV (i:=3) (v:=.int .i64 ge) rfl (by kernel_rfl) (fun _ _ _ h=>h) (.inl ⟨rfl,fun w' _=>?_⟩) aQ ?_
 ·go_simp
 refine aV (i:=4) (v:=.bool true) rfl (by kernel_rfl) (fun _ _ _ h=>h) (.inl ⟨rfl,fun w' _=>?_⟩) aQ ?_
 ·go_simp
 refine aV (i:=5) (v:=.bool true) rfl (by kernel_rfl) (fun _ _ _ h=>h) (.inl ⟨rfl,fun w' _=>?_⟩) aQ ?_
 ·go_simp
 refine aP (i:=6) (v:=.agg #[.slice oa on oc,.slice pa pn pc,.slice qa qn qc,.slice ra rn rc]) rfl rfl (by kernel_rfl) (fun _ _ _ h=>h) (.inl ⟨by go_simp,fun w' hw=>?_⟩) aQ ?_
 ·obtain⟨a0,a1,a2,a3,_⟩:=ay (hw.1.trans Q5.out)
  go_simp
 refine aP (i:=7) (v:=.agg #[.slice sa sn sc,.slice ta tn tc,.slice ua un uc,.slice xa Mg xc]) rfl rfl (by kernel_rfl) (fun _ _ _ h=>h) (.inl ⟨by go_simp,fun w' hw=>?_⟩) aQ ?_
 ·obtain⟨a0,a1,a2,a3,_⟩:=ay (hw.2.trans Q6.out)
  go_simp
 refine n_ (i:=8) (by kernel_rfl) rfl (by go_simp) ?_;go_simp;refine(tY ⟨⟨oa,on,oc⟩,⟨pa,pn,pc⟩,⟨qa,qn,qc⟩,⟨ra,rn,rc⟩⟩ ⟨⟨sa,sn,sc⟩,⟨ta,tn,tc⟩,⟨ua,un,uc⟩,⟨xa,Mg,xc⟩⟩ b2 b2 WB.drew (HY.out.keep (aL _ _).drew (aC _)) (HZ.out.keep (aL _ _).drew (aC _))).mono ?_;rw[decide_eq_true (rfl:b2=b2)];rintro e2 W2 ⟨rfl,bO⟩;have hb2':Below WB.heap.size WB W2:=(aL WB.heap.size WB).drew.trans bO;have dF:gG p19 UF WB W2:=⟨(aj Q5.out hb2' (bq Q5.out).1).trans Q5.out.symm,(aj Q6.out hb2' (bq Q6.out).1).trans Q6.out.symm⟩;refine⟨dF,?_⟩;have eF:=ah (HQ.out.keep hb2');have PK:=ah (HY.out.keep hb2' (aC _));have Dy:=ah (HZ.out.keep hb2' (aC _));clear bO hb2';have aQ:=dF;refine aV (i:=9) (v:=.bool true) rfl (by kernel_rfl) (fun _ _ _ h=>h) (.inl ⟨rfl,fun w' _=>?_⟩) aQ ?_
 ·go_simp
 obtain⟨a0,a1,a2,a3,_⟩:=ay eF.out.k6;have f0:=aA eF.out.k6 0;have f1:=aA eF.out.k6 1;have f2:=aA eF.out.k6 2;have f3:=aA eF.out.k6 3;have j5:Hid (∀c,c≠w.heap.size+1+1+1→((((W2.setCell ⟨w.heap.size+1+1+1,0,none⟩ (.slice oa on oc)).setCell ⟨w.heap.size+1+1+1,1,none⟩ (.slice pa pn pc)).setCell ⟨w.heap.size+1+1+1,2,none⟩ (.slice qa qn qc)).setCell ⟨w.heap.size+1+1+1,3,none⟩ (.slice ra rn rc)).heap[c]? =W2.heap[c]?):=ah (fun c hc=>bM W2 (w.heap.size+1+1+1) c (fun e=>hc e.symm) _ _ _ _ 0 1 2 3)
 have wD:Hid (((((W2.setCell ⟨w.heap.size+1+1+1,0,none⟩ (.slice oa on oc)).setCell ⟨w.heap.size+1+1+1,1,none⟩ (.slice pa pn pc)).setCell ⟨w.heap.size+1+1+1,2,none⟩ (.slice qa qn qc)).setCell ⟨w.heap.size+1+1+1,3,none⟩ (.slice ra rn rc)).heap[w.heap.size+1+1+1]? =some (.cells #[.slice oa on oc,.slice pa pn pc,.slice qa qn qc,.slice ra rn rc] 30 (0,0))):=ah (by
  have h6:=eF.out.k6
  simp[World.setCell,Array.getElem?_modify,h6])
 have lI:Hid (Below w.heap.size w ((((W2.setCell ⟨w.heap.size+1+1+1,0,none⟩ (.slice oa on oc)).setCell ⟨w.heap.size+1+1+1,1,none⟩ (.slice pa pn pc)).setCell ⟨w.heap.size+1+1+1,2,none⟩ (.slice qa qn qc)).setCell ⟨w.heap.size+1+1+1,3,none⟩ (.slice ra rn rc))):=ah (oW eF.out.bC (by omega) _ _ _ _);have HZ3:Hid (W2.heap.size≤((((W2.setCell ⟨w.heap.size+1+1+1,0,none⟩ (.slice oa on oc)).setCell ⟨w.heap.size+1+1+1,1,none⟩ (.slice pa pn pc)).setCell ⟨w.heap.size+1+1+1,2,none⟩ (.slice qa qn qc)).setCell ⟨w.heap.size+1+1+1,3,none⟩ (.slice ra rn rc)).heap.size):=ah (by simp);refine aD (i:=10) (by kernel_rfl) rfl rfl ?_;go_simp
 try rw[kN]
 generalize ((((W2.setCell ⟨w.heap.size+1+1+1,0,none⟩ (.slice oa on oc)).setCell ⟨w.heap.size+1+1+1,1,none⟩ (.slice pa pn pc)).setCell ⟨w.heap.size+1+1+1,2,none⟩ (.slice qa qn qc)).setCell ⟨w.heap.size+1+1+1,3,none⟩ (.slice ra rn rc))=W3 at*;have qh:gG p19 UF WB W3:=⟨(j5.out _ (by omega)).trans dF.1,(j5.out _ (by omega)).trans dF.2⟩;first | refine⟨qh,?_⟩ | skip
 clear a0 a1 a2 a3 f0 f1 f2 f3;have k7:=(j5.out (w.heap.size+1+1+1+1) (by omega)).trans eF.out.k7;have vV:=ah k7;obtain⟨a0,a1,a2,a3,_⟩:=ay k7;have f0:=aA k7 0;have f1:=aA k7 1;have f2:=aA k7 2;have f3:=aA k7 3;have sH:Hid (∀c,c≠w.heap.size+1+1+1+1→((((W3.setCell ⟨w.heap.size+1+1+1+1,0,none⟩ (.slice sa sn sc)).setCell ⟨w.heap.size+1+1+1+1,1,none⟩ (.slice ta tn tc)).setCell ⟨w.heap.size+1+1+1+1,2,none⟩ (.slice ua un uc)).setCell ⟨w.heap.size+1+1+1+1,3,none⟩ (.slice xa Mg xc)).heap[c]? =W3.heap[c]?):=ah (fun c hc=>bM W3 (w.heap.size+1+1+1+1) c (fun e=>hc e.symm) _ _ _ _ 0 1 2 3)
 have KW:Hid (((((W3.setCell ⟨w.heap.size+1+1+1+1,0,none⟩ (.slice sa sn sc)).setCell ⟨w.heap.size+1+1+1+1,1,none⟩ (.slice ta tn tc)).setCell ⟨w.heap.size+1+1+1+1,2,none⟩ (.slice ua un uc)).setCell ⟨w.heap.size+1+1+1+1,3,none⟩ (.slice xa Mg xc)).heap[w.heap.size+1+1+1+1]? =some (.cells #[.slice sa sn sc,.slice ta tn tc,.slice ua un uc,.slice xa Mg xc] 30 (0,0))):=ah (by
  have h6:=vV.out
  simp[World.setCell,Array.getElem?_modify,h6])
 have lC:Hid (Below w.heap.size w ((((W3.setCell ⟨w.heap.size+1+1+1+1,0,none⟩ (.slice sa sn sc)).setCell ⟨w.heap.size+1+1+1+1,1,none⟩ (.slice ta tn tc)).setCell ⟨w.heap.size+1+1+1+1,2,none⟩ (.slice ua un uc)).setCell ⟨w.heap.size+1+1+1+1,3,none⟩ (.slice xa Mg xc))):=ah (oW lI.out (by omega) _ _ _ _);have Q7:Hid (W3.heap.size≤((((W3.setCell ⟨w.heap.size+1+1+1+1,0,none⟩ (.slice sa sn sc)).setCell ⟨w.heap.size+1+1+1+1,1,none⟩ (.slice ta tn tc)).setCell ⟨w.heap.size+1+1+1+1,2,none⟩ (.slice ua un uc)).setCell ⟨w.heap.size+1+1+1+1,3,none⟩ (.slice xa Mg xc)).heap.size):=ah (by simp);clear k7;refine aD (i:=11) (by kernel_rfl) rfl rfl ?_;go_simp;generalize ((((W3.setCell ⟨w.heap.size+1+1+1+1,0,none⟩ (.slice sa sn sc)).setCell ⟨w.heap.size+1+1+1+1,1,none⟩ (.slice ta tn tc)).setCell ⟨w.heap.size+1+1+1+1,2,none⟩ (.slice ua un uc)).setCell ⟨w.heap.size+1+1+1+1,3,none⟩ (.slice xa Mg xc))=W4 at*;have Hz:gG p19 UF WB W4:=⟨(sH.out _ (by omega)).trans qh.1,(sH.out _ (by omega)).trans qh.2⟩;first | refine⟨Hz,?_⟩ | skip
 clear a0 a1 a2 a3 f0 f1 f2 f3;refine aD (i:=12) (by kernel_rfl) rfl rfl ?_;go_simp;refine aU (by kernel_rfl) ?_;obtain⟨a0,a1,a2,a3,_⟩:=ay ((sH.out (w.heap.size+1+1+1) (by omega)).trans wD.out);obtain⟨b0,b1,b2,b3,_⟩:=ay KW.out;go_wp2;refine bodyPost_ret (v:=.tuple #[.agg #[.slice oa on oc,.slice pa pn pc,.slice qa qn qc,.slice ra rn rc],.agg #[.slice sa sn sc,.slice ta tn tc,.slice ua un uc,.slice xa Mg xc],.bool true]) (by simp[results,Tryz.results10,go_sem, *]) rfl (show qJ _ _ _ _ from ?_);exact⟨⟨⟨oa,on,oc⟩,⟨pa,pn,pc⟩,⟨qa,qn,qc⟩,⟨ra,rn,rc⟩⟩,⟨⟨sa,sn,sc⟩,⟨ta,tn,tc⟩,⟨ua,un,uc⟩,⟨xa,Mg,xc⟩⟩,rfl,(PK.out.over j5.out HZ3.out eF.out.k6 rfl).over sH.out Q7.out vV.out rfl,(Dy.out.over j5.out HZ3.out eF.out.k6 rfl).over sH.out Q7.out vV.out rfl,lC.out⟩
end
section
attribute [local go_sem ↓] Go.wp_at_zero Go.wp_at_succ
theorem Ub (w W:World) (x:uz) (ya yb:dN) (b:Bk) (l:Ls) (q:Bool) (dev ep:Int) (o:uq) (rE:Nat) (h:Dq w W x ya yb) (oZ:iA w ya b) (pY:iA w yb b) (ho:W.heap[rE]? =some (.cells #[.int .i64 o.dev,.int .i64 o.epoch,.int .i64 o.seq,.int .i64 o.coll,.int .i64 o.ver,.int .i64 o.kind,.string o.key,.string o.text,.int .i64 o.n,.int .i64 o.time,o.dots.v] 38 (0,0))) (Ke:w.heap.size+1+1+1+1<rE) (hf:jV b dev ep=(l,q)) (hrf:gJ b dev ep=(l,q)) (hid:∀r∈l.ids,0≤r.1∧r.1<r.2∧r.2≤1000) (n2:Int) (uw:n2=if o.kind=5∧0<l.ids.length∧0<x.n.tmod 3 then(l.ids.getD 0 (0,0)).1+o.n%((l.ids.getD 0 (0,0)).2-(l.ids.getD 0 (0,0)).1)else o.n) (hB:Dl b) (hS:UA l o.kind n2) (hE:eO l o.kind o.key n2=bW l o.kind o.key n2) (hP:nC b (bW l o.kind o.key n2).1=nT b (bW l o.kind o.key n2).1) (J_:Ap (bW l o.kind o.key n2).1) (b2:Bk) (bO:b2=if (bW l o.kind o.key n2).2=0 then(nT b (bW l o.kind o.key n2).1).1 else b) (hk:3≤x.kind%8∧x.kind%8≤6) {u0 u1 u2 u8 u11 u13 u14 u15 u16 u17 u18 u19 u20 u21 u22 u23 u24 u25 u26 u27 u28 u29 u30 u31 u32 u33 u34 u35 u36 u37 u38 u39 u40 u41 u42 u43 u44 u45 u46 u47 u48 u49 u50 u51 u52 u53 u54 u55 u56 u57 u58 u59 u60 u61 u62 u63 u64 u65 u66 u67 u68 u69 u70 u71 u72 u73 u74 u75 u76 u77 u78 u79 u80 u81 u82 u83 u84 u85 u86 u87 u88 u89 u90 u91 u92 u93 u94 u95 u96 u97 u98 u99 u100 u101 u102 u103 u104 u105 u106 u107 u108 u109 u110 u111 u112 u113 u114 u115 u116 u117 u118 u119 u120 u121 u122 u123 u124 u125 u126 u127 u128 u129 u130 u131 u132 u133 u134 u135 u136 u137 u138 u139 u140 u141 u142 u143 u144 u145 u146 u147 u148 u149 u150 u151 u152 u153 u154 u155 u156 u157 u158 u159 u160 u161 u162 u163 u164 u165 u166 u167 u168 u169 u170 u171 u172 u173 u174 u175 u176 u177 u178 u179 u180 u181 u182 u183 u184 u185 u186 u187 u188 u189 u190 u191 u192 u193 u194 u195 u196 u197 u198 u199 u200 u201 u202 u203 u204 u205 u206 u207 u208 u209 u210 u211 u212 u213 u214 u215 u216 u217 u218 u219 u220 u221 u222 u223 u224 u225 u226 u227 u228 u229 u230 u231 u232 u233 u234 u235 u236 u237 u238:Value}:
  ∀c,Tryz.f10.body.bind (spine 5)=some c→Code.wp Tryz.prog c (bodyPost Tryz.prog Tryz.f10 (qJ w b2)) ⟨#[u0,u1,u2,.pointer (some ⟨w.heap.size,0,none⟩),.pointer (some ⟨w.heap.size+1,0,none⟩),.pointer (some ⟨w.heap.size+1+1,0,none⟩),.pointer (some ⟨w.heap.size+1+1+1,0,none⟩),.pointer (some ⟨w.heap.size+1+1+1+1,0,none⟩),u8,.int .i64 dev,.int .i64 ep,u11,.pointer (some ⟨rE,0,none⟩),u13,u14,u15,u16,u17,u18,u19,u20,u21,u22,u23,u24,u25,u26,u27,u28,u29,u30,u31,u32,u33,u34,u35,u36,u37,u38,u39,u40,u41,u42,u43,u44,u45,u46,u47,u48,u49,u50,u51,u52,u53,u54,u55,u56,u57,u58,u59,u60,u61,u62,u63,u64,u65,u66,u67,u68,u69,u70,u71,u72,u73,u74,u75,u76,u77,u78,u79,u80,u81,u82,u83,u84,u85,u86,u87,u88,u89,u90,u91,u92,u93,u94,u95,u96,u97,u98,u99,u100,u101,u102,u103,u104,u105,u106,u107,u108,u109,u110,u111,u112,u113,u114,u115,u116,u117,u118,u119,u120,u121,u122,u123,u124,u125,u126,u127,u128,u129,u130,u131,u132,u133,u134,u135,u136,u137,u138,u139,u140,u141,u142,u143,u144,u145,u146,u147,u148,u149,u150,u151,u152,u153,u154,u155,u156,u157,u158,u159,u160,u161,u162,u163,u164,u165,u166,u167,u168,u169,u170,u171,u172,u173,u174,u175,u176,u177,u178,u179,u180,u181,u182,u183,u184,u185,u186,u187,u188,u189,u190,u191,u192,u193,u194,u195,u196,u197,u198,u199,u200,u201,u202,u203,u204,u205,u206,u207,u208,u209,u210,u211,u212,u213,u214,u215,u216,u217,u218,u219,u220,u221,u222,u223,u224,u225,u226,u227,u228,u229,u230,u231,u232,u233,u234,u235,u236,u237,u238],[]⟩ W:=by
 refine dP rfl ?_;have HK:=ah hk
 have e0:W.cell? ⟨w.heap.size,0,none⟩=some (.int .i64 x.kind):=by
  have:=h.k3;simp only[World.cell?,this];rfl
 have EW:=ah (fun (V:World) (hV:V=W)=>hV);have HH:=ah (And.intro h (And.intro oZ (And.intro pY (And.intro ho (And.intro Ke (And.intro hf (And.intro hrf (And.intro hid (And.intro uw (And.intro hB (And.intro hS (And.intro hE (And.intro hP (And.intro J_ bO))))))))))))));clear h oZ pY ho hf hrf hid uw hB hS hE hP J_ bO hk;go_upto_block 0 with((go_at_call 18;refine(jm x.kind 8 W (by omega) (by omega)).mono ?_);rintro en w9 ⟨rfl,Va⟩;rw[Va];clear Va)
 go_cut[] (fun wx=>wx=W)
 case rest=>
  subst hcut;obtain⟨h,oZ,pY,ho,Ke,hf,hrf,hid,uw,hB,hS,hE,hP,J_,bO⟩:=HH.out;go_step;exact T_ w _ x ya yb b l q dev ep o rE h oZ pY ho Ke hf hrf hid n2 uw hB hS hE hP J_ b2 bO _ rfl
 case first=>
 have hm:x.kind%8=3∨x.kind%8=4∨x.kind%8=5∨x.kind%8=6:=by have:=HK.out;omega
 clear HK HH;generalize x.kind%8=m at*;rcases hm with rfl | rfl | rfl | rfl
 all_goals go_wp2
 all_goals go_meet
 all_goals rfl
end
section
attribute [local go_sem ↓] Go.wp_at_zero Go.wp_at_succ
def C9 (n:Int):Int:=1+n%6/5
def Uc (x:uz) (ws:List Wn):List Wn:=if x.n.tmod 7=0 then ws else E_ ws
def Fv (x:uz) (l:Ls):Int:=if nD x.o=5∧0<l.ids.length∧0<x.n.tmod 3 then(l.ids.getD 0 (0,0)).1+gN x.o%((l.ids.getD 0 (0,0)).2-(l.ids.getD 0 (0,0)).1)else gN x.o
def zO (b:Bk) (x:uz):Ls:=(jV b (x.dev%6) (C9 x.n)).1
def Bz (b:Bk) (x:uz):Ls×Int:=bW (zO b x) (nD x.o) (CV x.o) (Fv x (zO b x))
def BA (b:Bk) (x:uz) (ws:List Wn):Bk:=
 if x.kind%8≤2 then(h_ b (x.dev%6) (C9 x.n) (x.n%100) (Uc x ws)).1
 else if x.kind%8=7 then(pK b (x.dev%6) (C9 x.n)).1
 else if (Bz b x).2=0 then(nT b (Bz b x).1).1 else b
structure DoB (b:Bk) (x:uz):Prop where
 gr:Px b
 rg:Xf b
 bk:Dl b
 fr:∀k (hk:k<b.ls.length),k_ b.ls (x.dev%6) (C9 x.n)=k→Li b b.ls[k]
 rfr:(gJ b (x.dev%6) (C9 x.n)).2=true→Bh b (gJ b (x.dev%6) (C9 x.n)).1
 eqF:gJ b (x.dev%6) (C9 x.n)=jV b (x.dev%6) (C9 x.n)
 eqR:rF b (x.dev%6) (C9 x.n)=pK b (x.dev%6) (C9 x.n)
 ids:∀r∈(zO b x).ids,0≤r.1∧r.1<r.2∧r.2≤1000
 sp:UA (zO b x) (nD x.o) (Fv x (zO b x))
 eqS:eO (zO b x) (nD x.o) (CV x.o) (Fv x (zO b x))=Bz b x
 eqP:nC b (Bz b x).1=nT b (Bz b x).1
 lsb:Ap (Bz b x).1
theorem qj {w:World} {b:Nat} {a0 a1 a2 a3 a4 a5 a6 a7 a8 a9 NT a11 a12 a13 a14:Value} {t:TypeId} (h:w.heap[b]? =some (.cells #[a0,a1,a2,a3,a4,a5,a6,a7,a8,a9,NT,a11,a12,a13,a14] t (0,0))):
  w.cell? ⟨b,0,none⟩=some a0∧w.cell? ⟨b,1,none⟩=some a1∧w.cell? ⟨b,2,none⟩=some a2∧w.cell? ⟨b,3,none⟩=some a3∧w.cell? ⟨b,4,none⟩=some a4∧w.cell? ⟨b,5,none⟩=some a5∧w.cell? ⟨b,6,none⟩=some a6∧w.cell? ⟨b,7,none⟩=some a7∧w.cell? ⟨b,8,none⟩=some a8∧w.cell? ⟨b,9,none⟩=some a9∧w.cell? ⟨b,10,none⟩=some NT∧w.cell? ⟨b,11,none⟩=some a11∧w.cell? ⟨b,12,none⟩=some a12∧w.cell? ⟨b,13,none⟩=some a13∧w.cell? ⟨b,14,none⟩=some a14:=by
 simp[World.cell?,h]
theorem XQ (x:uz) (ws:List Wn) (ya yb:dN) (b:Bk) (w:World) (hM:UY w x ws) (oZ:iA w ya b) (pY:iA w yb b) (hD:DoB b x):
  Calls Tryz.prog 10 #[aAc x,iJ ya,iJ yb] w (qJ w (BA b x ws)):=by
 obtain⟨b2,bO⟩:∃b2,b2=BA b x ws:=⟨_,rfl⟩;rw[←bO];obtain⟨⟨ca,cn,cc⟩,⟨fa,bD,fc⟩,⟨la,ln,lc⟩,⟨ba,bE,bc⟩⟩:=ya;obtain⟨⟨ga,gn,gc⟩,⟨ha,fu,hc⟩,⟨ia,eX,ic⟩,⟨ja,jn,jc⟩⟩:=yb;obtain⟨xk,xd,xn,⟨Ch,Ci,Cj⟩,⟨o1,o2,o3,o4,o5,kd,ky,tx,on,tm,⟨oa,dn,oc⟩⟩⟩:=x;obtain⟨ds,hds⟩:=hM.dt;have HWN:=ah hM.wn;have HDS:=ah hds;have pV:=ah oZ;have zN:=ah pY;have HD:=ah hD;have jI:=ah bO
 have hq:Dq w (((((w.alloc (.cells #[.int .i64 xk,.int .i64 xd,.int .i64 xn,.slice Ch Ci Cj,.int .i64 o1,.int .i64 o2,.int .i64 o3,.int .i64 o4,.int .i64 o5,.int .i64 kd,.string ky,.string tx,.int .i64 on,.int .i64 tm,.slice oa dn oc] 40)).alloc (.cells #[.slice ca cn cc,.slice fa bD fc,.slice la ln lc,.slice ba bE bc] 30)).alloc (.cells #[.slice ga gn gc,.slice ha fu hc,.slice ia eX ic,.slice ja jn jc] 30)).alloc (.cells #[.slice none 0 0,.slice none 0 0,.slice none 0 0,.slice none 0 0] 30)).alloc (.cells #[.slice none 0 0,.slice none 0 0,.slice none 0 0,.slice none 0 0] 30)) ⟨xk,xd,xn,⟨Ch,Ci,Cj⟩,⟨o1,o2,o3,o4,o5,kd,ky,tx,on,tm,⟨oa,dn,oc⟩⟩⟩ ⟨⟨ca,cn,cc⟩,⟨fa,bD,fc⟩,⟨la,ln,lc⟩,⟨ba,bE,bc⟩⟩ ⟨⟨ga,gn,gc⟩,⟨ha,fu,hc⟩,⟨ia,eX,ic⟩,⟨ja,jn,jc⟩⟩:=by
  obtain⟨V3,NJ,k0,k1,k2,bT,oO⟩:=yA w (.cells #[.int .i64 xk,.int .i64 xd,.int .i64 xn,.slice Ch Ci Cj,.int .i64 o1,.int .i64 o2,.int .i64 o3,.int .i64 o4,.int .i64 o5,.int .i64 kd,.string ky,.string tx,.int .i64 on,.int .i64 tm,.slice oa dn oc] 40) (.cells #[.slice ca cn cc,.slice fa bD fc,.slice la ln lc,.slice ba bE bc] 30) (.cells #[.slice ga gn gc,.slice ha fu hc,.slice ia eX ic,.slice ja jn jc] 30);rw[NJ];have gD:Below V3.heap.size V3 ((V3.alloc (.cells #[.slice none 0 0,.slice none 0 0,.slice none 0 0,.slice none 0 0] 30)).alloc (.cells #[.slice none 0 0,.slice none 0 0,.slice none 0 0,.slice none 0 0] 30)):=((aL _ _).alloc (aC _) _).alloc (by simp) _;refine⟨bT.trans (gD.mono bT.size),aj k0 gD (by omega),aj k1 gD (by omega),aj k2 gD (by omega),?_,?_⟩
  ·rw[show w.heap.size+1+1+1=V3.heap.size by omega]
   exact aj (heap_alloc_new V3 _) ((aL _ _).alloc (aC _) _) (by simp)
  ·rw[show w.heap.size+1+1+1+1=V3.heap.size+1 by omega]
   exact bL _ _ _
 have sw:=ah hq;clear hM hds oZ pY hD bO hq;change Calls Tryz.prog _ #[.agg #[.int .i64 xk,.int .i64 xd,.int .i64 xn,.slice Ch Ci Cj,.int .i64 o1,.int .i64 o2,.int .i64 o3,.int .i64 o4,.int .i64 o5,.int .i64 kd,.string ky,.string tx,.int .i64 on,.int .i64 tm,.slice oa dn oc],.agg #[.slice ca cn cc,.slice fa bD fc,.slice la ln lc,.slice ba bE bc],.agg #[.slice ga gn gc,.slice ha fu hc,.slice ia eX ic,.slice ja jn jc]] w _
 go_enter Tryz.func10,Tryz.ntmps10
 go_upto_region 1 with fail
 generalize (((((w.alloc (.cells #[.int .i64 xk,.int .i64 xd,.int .i64 xn,.slice Ch Ci Cj,.int .i64 o1,.int .i64 o2,.int .i64 o3,.int .i64 o4,.int .i64 o5,.int .i64 kd,.string ky,.string tx,.int .i64 on,.int .i64 tm,.slice oa dn oc] 40)).alloc (.cells #[.slice ca cn cc,.slice fa bD fc,.slice la ln lc,.slice ba bE bc] 30)).alloc (.cells #[.slice ga gn gc,.slice ha fu hc,.slice ia eX ic,.slice ja jn jc] 30)).alloc (.cells #[.slice none 0 0,.slice none 0 0,.slice none 0 0,.slice none 0 0] 30)).alloc (.cells #[.slice none 0 0,.slice none 0 0,.slice none 0 0,.slice none 0 0] 30))=W5 at*
 go_cut[9,10] (fun v9 xO wx=>v9= .int .i64 (xd%6)∧xO= .int .i64 (C9 xn)∧Below W5.heap.size W5 wx)
 case first=>
  have Jd:=ah (aL W5.heap.size W5).drew;have kH:W5.drew.heap[w.heap.size]? =_:=sw.out.k3;obtain⟨e0,e1,e2,e3,e4,e5,e6,e7,e8,e9,e10,e11,e12,e13,e14⟩:=qj kH;simp only[Sv.v]at e3 e14;clear kH sw;refine aW 9 (fun w'=>w'=W5.drew) (by kernel_rfl) ?_;have aQ:W5.drew=W5.drew:=rfl;generalize W5.drew=Wd at*;refine aV (i:=0) (v:=.pointer (some ⟨w.heap.size,1,none⟩)) rfl (by kernel_rfl) (fun _ _ _ h=>h) (.inl ⟨rfl,fun w' _=>?_⟩) aQ ?_
  ·go_simp
  refine aP (i:=1) (v:=.int .i64 xd) rfl rfl (by kernel_rfl) (fun _ _ _ h=>h) (.inl ⟨rfl,fun w' hw=>?_⟩) aQ ?_
  ·rw[hw]
   go_simp
  refine fq (i:=2) (v:=.int .i64 (xd%6)) rfl (by kernel_rfl) (by kernel_rfl) (by kernel_rfl) (by decide) (fun _ _ _ h=>h) ⟨rfl,18,#[.int .i64 xd,.int .i64 6],fun w' _=>?_,fun w' _=>jm _ _ _ (by omega) (by omega)⟩ aQ ?_
  ·go_simp
  refine aV (i:=3) (v:=.pointer (some ⟨w.heap.size,2,none⟩)) rfl (by kernel_rfl) (fun _ _ _ h=>h) (.inl ⟨rfl,fun w' _=>?_⟩) aQ ?_
  ·go_simp
  refine aP (i:=4) (v:=.int .i64 xn) rfl rfl (by kernel_rfl) (fun _ _ _ h=>h) (.inl ⟨rfl,fun w' hw=>?_⟩) aQ ?_
  ·rw[hw]
   go_simp
  refine fq (i:=5) (v:=.int .i64 (xn%6)) rfl (by kernel_rfl) (by kernel_rfl) (by kernel_rfl) (by decide) (fun _ _ _ h=>h) ⟨rfl,18,#[.int .i64 xn,.int .i64 6],fun w' _=>?_,fun w' _=>jm _ _ _ (by omega) (by omega)⟩ aQ ?_
  ·go_simp
  have w0_:IntKind.i64.wrap 0=0:=by decide
  have w1_:IntKind.i64.wrap 1=1:=by decide
  have w2_:IntKind.i64.wrap 2=2:=by decide
  have hm:xn%6=0∨xn%6=1∨xn%6=2∨xn%6=3∨xn%6=4∨xn%6=5:=by omega
  rcases hm with hm | hm | hm | hm | hm | hm
  ·rw[hm]
   refine aV (i:=6) (v:=.int .i64 0) rfl (by kernel_rfl) (fun _ _ _ h=>h) (.inl ⟨rfl,fun w' _=>?_⟩) aQ ?_
   ·go_simp
   refine aV (i:=7) (v:=.int .i64 1) rfl (by kernel_rfl) (fun _ _ _ h=>h) (.inl ⟨rfl,fun w' _=>?_⟩) aQ ?_
   ·go_simp
   refine aD (i:=8) (by kernel_rfl) rfl rfl ?_;go_simp;first | refine⟨aQ,?_⟩ | skip
   refine aD (i:=9) (by kernel_rfl) rfl rfl ?_;go_simp;refine aU (by kernel_rfl) ?_;go_wp2;go_meet;exact⟨rfl,by unfold C9;rw[hm];rfl,Jd.out⟩
  ·rw[hm]
   refine aV (i:=6) (v:=.int .i64 0) rfl (by kernel_rfl) (fun _ _ _ h=>h) (.inl ⟨rfl,fun w' _=>?_⟩) aQ ?_
   ·go_simp
   refine aV (i:=7) (v:=.int .i64 1) rfl (by kernel_rfl) (fun _ _ _ h=>h) (.inl ⟨rfl,fun w' _=>?_⟩) aQ ?_
   ·go_simp
   refine aD (i:=8) (by kernel_rfl) rfl rfl ?_;go_simp;first | refine⟨aQ,?_⟩ | skip
   refine aD (i:=9) (by kernel_rfl) rfl rfl ?_;go_simp;refine aU (by kernel_rfl) ?_;go_wp2;go_meet;exact⟨rfl,by unfold C9;rw[hm];rfl,Jd.out⟩
  ·rw[hm]
   refine aV (i:=6) (v:=.int .i64 0) rfl (by kernel_rfl) (fun _ _ _ h=>h) (.inl ⟨rfl,fun w' _=>?_⟩) aQ ?_
   ·go_simp
   refine aV (i:=7) (v:=.int .i64 1) rfl (by kernel_rfl) (fun _ _ _ h=>h) (.inl ⟨rfl,fun w' _=>?_⟩) aQ ?_
   ·go_simp
   refine aD (i:=8) (by kernel_rfl) rfl rfl ?_;go_simp;first | refine⟨aQ,?_⟩ | skip
   refine aD (i:=9) (by kernel_rfl) rfl rfl ?_;go_simp;refine aU (by kernel_rfl) ?_;go_wp2;go_meet;exact⟨rfl,by unfold C9;rw[hm];rfl,Jd.out⟩
  ·rw[hm]
   refine aV (i:=6) (v:=.int .i64 0) rfl (by kernel_rfl) (fun _ _ _ h=>h) (.inl ⟨rfl,fun w' _=>?_⟩) aQ ?_
   ·go_simp
   refine aV (i:=7) (v:=.int .i64 1) rfl (by kernel_rfl) (fun _ _ _ h=>h) (.inl ⟨rfl,fun w' _=>?_⟩) aQ ?_
   ·go_simp
   refine aD (i:=8) (by kernel_rfl) rfl rfl ?_;go_simp;first | refine⟨aQ,?_⟩ | skip
   refine aD (i:=9) (by kernel_rfl) rfl rfl ?_;go_simp;refine aU (by kernel_rfl) ?_;go_wp2;go_meet;exact⟨rfl,by unfold C9;rw[hm];rfl,Jd.out⟩
  ·rw[hm]
   refine aV (i:=6) (v:=.int .i64 0) rfl (by kernel_rfl) (fun _ _ _ h=>h) (.inl ⟨rfl,fun w' _=>?_⟩) aQ ?_
   ·go_simp
   refine aV (i:=7) (v:=.int .i64 1) rfl (by kernel_rfl) (fun _ _ _ h=>h) (.inl ⟨rfl,fun w' _=>?_⟩) aQ ?_
   ·go_simp
   refine aD (i:=8) (by kernel_rfl) rfl rfl ?_;go_simp;first | refine⟨aQ,?_⟩ | skip
   refine aD (i:=9) (by kernel_rfl) rfl rfl ?_;go_simp;refine aU (by kernel_rfl) ?_;go_wp2;go_meet;exact⟨rfl,by unfold C9;rw[hm];rfl,Jd.out⟩
  ·rw[hm]
   refine aV (i:=6) (v:=.int .i64 1) rfl (by kernel_rfl) (fun _ _ _ h=>h) (.inl ⟨rfl,fun w' _=>?_⟩) aQ ?_
   ·go_simp
   refine aV (i:=7) (v:=.int .i64 2) rfl (by kernel_rfl) (fun _ _ _ h=>h) (.inl ⟨rfl,fun w' _=>?_⟩) aQ ?_
   ·go_simp
   refine aD (i:=8) (by kernel_rfl) rfl rfl ?_;go_simp;first | refine⟨aQ,?_⟩ | skip
   refine aD (i:=9) (by kernel_rfl) rfl rfl ?_;go_simp;refine aU (by kernel_rfl) ?_;go_wp2;go_meet;exact⟨rfl,by unfold C9;rw[hm];rfl,Jd.out⟩
 case rest=>
 obtain⟨rfl,rfl,nG⟩:=hcut;obtain⟨W6,Zw⟩:∃W6,W6=wc:=⟨_,rfl⟩;subst Zw;have UG:=ah (sw.out.keep nG);clear sw nG;obtain⟨e0,e1,e2,e3,e4,e5,e6,e7,e8,e9,e10,e11,e12,e13,e14⟩:=qj UG.out.k3;simp only[Sv.v]at e3 e14;go_wp2_with fail
 refine(NR (.slice Ch Ci Cj) ws W6 (dI.keep HWN.out UG.out.bC (aC _))).mono ?_;rintro en W7 ⟨v,rfl,hv,J5⟩;obtain⟨va,vc,rfl,_,_⟩:=Sl.shape hv;have HV7:=ah hv;have Ud:=ah (UG.out.keep J5);clear e0 e1 e2 e3 e4 e5 e6 e7 e8 e9 e10 e11 e12 e13 e14 hv J5 UG;obtain⟨e0,e1,e2,e3,e4,e5,e6,e7,e8,e9,e10,e11,e12,e13,e14⟩:=qj Ud.out.k3;simp only[Sv.v]at e3 e14;go_upto_if 47 with fail
 go_cut[11] (fun v11 wx=>wx=W7∧ ∃ (ua:Option Addr) (un uc:Nat),v11= .slice ua un uc∧sM W7 (.slice ua un uc) (Uc ⟨xk,xd,xn,⟨Ch,Ci,Cj⟩,⟨o1,o2,o3,o4,o5,kd,ky,tx,on,tm,⟨oa,dn,oc⟩⟩⟩ ws))
 case first=>
  by_cases h7:xn.tmod 7=0
  ·have h7':(xn.tmod 7==0)=true:=by simpa using h7
   go_wp2;go_meet;exact⟨rfl,_,_,_,rfl,by unfold Uc;rw[if_pos h7];exact dI.keep HWN.out Ud.out.bC (aC _)⟩
  ·have h7':(xn.tmod 7==0)=false:=by simpa using h7
   go_wp2;go_meet;exact⟨rfl,_,_,_,rfl,by unfold Uc;rw[if_neg h7];exact HV7.out⟩
 case rest=>
 obtain⟨rV,ua,un,uc,rfl,hu⟩:=hcut;rw[rV];clear rV HV7;have HU:=ah hu;clear hu;go_upto_region 5 with fail
 go_cut[12] (fun v12 wx=>∃ (rE:Nat) (o:uq),v12= .pointer (some ⟨rE,0,none⟩)∧wx.heap[rE]? =some (.cells #[.int .i64 o.dev,.int .i64 o.epoch,.int .i64 o.seq,.int .i64 o.coll,.int .i64 o.ver,.int .i64 o.kind,.string o.key,.string o.text,.int .i64 o.n,.int .i64 o.time,o.dots.v] 38 (0,0))∧o.kind=nD ⟨o1,o2,o3,o4,o5,kd,ky,tx,on,tm,⟨oa,dn,oc⟩⟩∧o.key=CV ⟨o1,o2,o3,o4,o5,kd,ky,tx,on,tm,⟨oa,dn,oc⟩⟩∧o.n=gN ⟨o1,o2,o3,o4,o5,kd,ky,tx,on,tm,⟨oa,dn,oc⟩⟩∧Below W7.heap.size W7 wx∧W7.heap.size≤rE)
 case first=>
  go_wp2_with fail
  refine(QL ⟨o1,o2,o3,o4,o5,kd,ky,tx,on,tm,⟨oa,dn,oc⟩⟩ ds W7 (dI.keep HDS.out Ud.out.bC (aC _))).mono ?_;rintro en W8 ⟨⟨u1,u2,u3,u4,u5,ud,uy,ux,um,ut,⟨ga_,gn_,gc_⟩⟩,rfl,qP,h1,h2,h3⟩;have H1:=ah h1;have H2:=ah h2;have H3:=ah h3;clear h1 h2 h3;clear e0 e1 e2 e3 e4 e5 e6 e7 e8 e9 e10 e11 e12 e13 e14;go_wp2;go_meet;have qR:=(aL W8.heap.size W8).alloc (aC _) (.cells #[.int .i64 u1,.int .i64 u2,.int .i64 u3,.int .i64 u4,.int .i64 u5,.int .i64 ud,.string uy,.string ux,.int .i64 um,.int .i64 ut,.slice ga_ gn_ gc_] 38);exact⟨W8.heap.size,⟨u1,u2,u3,u4,u5,ud,uy,ux,um,ut,⟨ga_,gn_,gc_⟩⟩,rfl,heap_alloc_new W8 _,H1.out,H2.out,H3.out,qP.trans (qR.mono qP.size),qP.size⟩
 case rest=>
 obtain⟨rE,o,rfl,ho,gL,dH,kH,qP,Ke⟩:=hcut;have Tj:=(bq Ud.out.k7).1;have hd:=HD.out;have h2:=jI.out;unfold BA at h2;simp only at h2;go_step;by_cases hg:xk%8≤2
 ·rw[if_pos hg]at h2
  exact Q9 w _ ⟨xk,xd,xn,⟨Ch,Ci,Cj⟩,⟨o1,o2,o3,o4,o5,kd,ky,tx,on,tm,⟨oa,dn,oc⟩⟩⟩ ⟨⟨ca,cn,cc⟩,⟨fa,bD,fc⟩,⟨la,ln,lc⟩,⟨ba,bE,bc⟩⟩ ⟨⟨ga,gn,gc⟩,⟨ha,fu,hc⟩,⟨ia,eX,ic⟩,⟨ja,jn,jc⟩⟩ b (xd%6) (C9 xn) ua un uc _ (Ud.out.keep qP) pV.out zN.out (dI.keep HU.out qP (aC _)) hd.gr hd.rg hg b2 h2 _ rfl
 ·rw[if_neg hg]at h2
  by_cases hf:xk%8=7
  ·rw[if_pos hf]at h2
   exact Ua w _ ⟨xk,xd,xn,⟨Ch,Ci,Cj⟩,⟨o1,o2,o3,o4,o5,kd,ky,tx,on,tm,⟨oa,dn,oc⟩⟩⟩ ⟨⟨ca,cn,cc⟩,⟨fa,bD,fc⟩,⟨la,ln,lc⟩,⟨ba,bE,bc⟩⟩ ⟨⟨ga,gn,gc⟩,⟨ha,fu,hc⟩,⟨ia,eX,ic⟩,⟨ja,jn,jc⟩⟩ b (xd%6) (C9 xn) ua un uc (Ud.out.keep qP) pV.out zN.out hd.bk hd.fr hd.rfr hd.eqR hf b2 h2 _ rfl
  ·rw[if_neg hf]at h2
   have hx0:=Int.emod_nonneg xk (show (8:Int)≠0 by omega);have Dx:=Int.emod_lt_of_pos xk (show (0:Int)<8 by omega);refine Ub w _ ⟨xk,xd,xn,⟨Ch,Ci,Cj⟩,⟨o1,o2,o3,o4,o5,kd,ky,tx,on,tm,⟨oa,dn,oc⟩⟩⟩ ⟨⟨ca,cn,cc⟩,⟨fa,bD,fc⟩,⟨la,ln,lc⟩,⟨ba,bE,bc⟩⟩ ⟨⟨ga,gn,gc⟩,⟨ha,fu,hc⟩,⟨ia,eX,ic⟩,⟨ja,jn,jc⟩⟩ b (zO b ⟨xk,xd,xn,⟨Ch,Ci,Cj⟩,⟨o1,o2,o3,o4,o5,kd,ky,tx,on,tm,⟨oa,dn,oc⟩⟩⟩) (jV b (xd%6) (C9 xn)).2 (xd%6) (C9 xn) o rE (Ud.out.keep qP) pV.out zN.out ho (by omega) rfl hd.eqF hd.ids (Fv ⟨xk,xd,xn,⟨Ch,Ci,Cj⟩,⟨o1,o2,o3,o4,o5,kd,ky,tx,on,tm,⟨oa,dn,oc⟩⟩⟩ (zO b ⟨xk,xd,xn,⟨Ch,Ci,Cj⟩,⟨o1,o2,o3,o4,o5,kd,ky,tx,on,tm,⟨oa,dn,oc⟩⟩⟩)) ?_ hd.bk (by rw[gL];exact hd.sp) ?_ ?_ ?_ b2 ?_ ⟨show 3≤xk%8 by omega,show xk%8≤6 by omega⟩ _ rfl
   ·rw[gL,kH];rfl
   ·rw[gL,dH];exact hd.eqS
   ·rw[gL,dH];exact hd.eqP
   ·rw[gL,dH];exact hd.lsb
   ·rw[gL,dH];exact h2
end
abbrev kA:ByteArray:=⟨#[97]⟩
abbrev kB:ByteArray:=⟨#[98]⟩
def jo (u0 d0 u1 d1:Int):List Ct:=[⟨kA,0,0,20,10,u0,d0⟩,⟨kB,1,-30,30,0,u1,d1⟩]
def XR (a b:List Rg):Prop:=∀n,fQ a n→ ¬fQ b n
structure yH (l:Ls):Prop where
 dev:0≤l.dev∧l.dev<6
 key:∀s∈l.sl,s.key=kA∨s.key=kB
 one:l.sl.Pairwise (fun s t=>s.key≠t.key)
 sc:∀s∈l.sl,(0≤s.uu∧s.uu≤s.up∧s.up≤30)∧0≤s.ud∧s.ud≤s.down∧s.down≤30
 row:dw l.ids
 top:∀r∈l.ids,r.2≤40
 rise:l.used.Pairwise (· < ·)
 sub:∀n∈l.used,fQ l.ids n
def zo (ls:List Ls):Int:=(ls.map (fun l=>dG l.ids)).sum
structure yI (C:List Ct) (F:List Rg) (L:List Ls) (D:List Int):Prop where
 cs:∃u0 d0 u1 d1,C=jo u0 d0 u1 d1∧(0≤u0∧u0+bG kA L≤10)∧(0≤d0∧d0+bH kA L≤10)∧(0≤u1∧u1+bG kB L≤30)∧0≤d1∧d1+bH kB L≤30
 ls:∀l∈L,yH l
 Sz:∀l∈L,1≤l.epoch
 fr:dw F
 top:∀r∈F,r.2≤40
 bd:D.Pairwise (· < ·)
 fi:∀l∈L,XR F l.ids
 ii:L.Pairwise (fun l m=>XR l.ids m.ids)
 bf:∀n∈D,¬fQ F n
 bi:∀n∈D,∀l∈L,¬fQ l.ids n
 br:∀n∈D,0≤n∧n<40
 tot:dG F+zo L+D.length=40
structure Inv (b:Bk):Prop extends yI b.cs b.free b.ls b.bound where
 C_:b.ls.Pairwise (fun l m=>l.dev<m.dev)
theorem Ue:Inv rY:=by
 refine⟨⟨⟨10,10,30,30,rfl,by decide,by decide,by decide,by decide⟩,fun l hl=>by simp[rY]at hl,fun l hl=>by simp[rY]at hl,?_,?_,List.Pairwise.nil,fun l hl=>by simp[rY]at hl,List.Pairwise.nil,fun n hn=>by simp[rY]at hn,fun n hn=>by simp[rY]at hn,fun n hn=>by simp[rY]at hn,by decide⟩,List.Pairwise.nil⟩
 ·show dw [((0:Int),40)]
  decide
 ·intro r hr
  have:r∈ [((0:Int),(40:Int))]:=hr;simp at this;subst this;decide
theorem Mh {ls:List Ls} (h:ls.Pairwise (fun l m=>l.dev<m.dev)) {i j:Nat} (hi:i<ls.length) (hj:j<ls.length) (e:ls[i].dev=ls[j].dev):i=j:=by
 rw[List.pairwise_iff_getElem]at h;rcases Nat.lt_trichotomy i j with bA | he | hgt
 ·have:=h i j hi hj bA;omega
 ·exact he
 ·have:=h j i hj hi hgt;omega
theorem Q_ {ls:List Ls} (h:ls.Pairwise (fun l m=>l.dev<m.dev)) (d ep:Int):
  (∃k:Nat,∃hk:k<ls.length,lg ls d=k∧k_ ls d ep=k∧ls[k].dev=d∧ls[k].epoch=ep)∨
  (k_ ls d ep= -1∧ ¬ (0≤lg ls d∧(ls.getD (lg ls d).toNat oD).epoch=ep)):=by
 rcases b_ (fun c:Ls=>decide (c.dev=d)) ls with⟨hi,hn⟩ | ⟨k,hk,hi,hp,hj⟩
 ·right
  have e:lg ls d= -1:=hi;refine⟨gF (fun x hx=>?_),fun h=>by rw[e]at h;omega⟩;have:=hn x hx;simp only[decide_eq_false_iff_not]at this;simp[this]
 ·have e:lg ls d=k:=hi
  have hd:ls[k].dev=d:=of_decide_eq_true hp;have hg:ls.getD (lg ls d).toNat oD=ls[k]:=by rw[e];simp[List.getD,List.getElem?_eq_getElem hk]
  by_cases he:ls[k].epoch=ep
  ·left
   refine⟨k,hk,e,kG k hk (fun j hj2=>?_) (by simp[hd,he]),hd,he⟩;have lq:j<ls.length:=by omega
   have:ls[j].dev≠d:=fun e2=>by have:=Mh h lq hk (e2.trans hd.symm);omega
   simp[this]
  ·right
   refine⟨gF (fun x hx=>?_),fun h=>he (by rw[←hg];exact h.2)⟩;obtain⟨j,hj3,rfl⟩:=List.getElem_of_mem hx;by_cases tN:ls[j].dev=d
   ·have:j=k:=Mh h hj3 hk (tN.trans hd.symm)
    subst this;simp[he]
   ·simp[tN]
theorem find_eq {b:Bk} (h:b.ls.Pairwise (fun l m=>l.dev<m.dev)) (d ep:Int):gJ b d ep=jV b d ep:=by
 unfold gJ jV;rcases Q_ h d ep with⟨k,hk,h1,h2,h3,h4⟩ | ⟨h1,h2⟩
 ·have hg:b.ls.getD k oD=b.ls[k]:=by simp[List.getD,List.getElem?_eq_getElem hk]
  rw[h1,h2];simp only[Int.toNat_natCast,hg];rw[if_pos ⟨by omega,h4⟩,if_pos (by omega)]
 ·rw[if_neg h2,h1,if_neg (by decide)]
theorem put_eq {b:Bk} (h:b.ls.Pairwise (fun l m=>l.dev<m.dev)) (l:Ls):nC b l=nT b l:=by
 unfold nC nT;rcases Q_ h l.dev l.epoch with⟨k,hk,h1,h2,h3,h4⟩ | ⟨h1,h2⟩
 ·have hg:b.ls.getD k oD=b.ls[k]:=by simp[List.getD,List.getElem?_eq_getElem hk]
  rw[h1,h2];simp only[Int.toNat_natCast,hg];rw[if_pos ⟨by omega,h4⟩,if_pos (by omega)]
 ·rw[if_neg h2,h1,if_neg (by decide)]
theorem Kh {l:List Int} (h:l.Pairwise (· < ·)) (n:Int):l.takeWhile (fun x=>decide (x<n))=l.take (l.countP (· <n))∧l.dropWhile (fun x=>decide (x<n))=l.drop (l.countP (· <n)):=by
 induction l with
 | nil=>simp
 | cons x l ih=>
  obtain⟨h1,h2⟩:=List.pairwise_cons.1 h;by_cases hx:x<n
  ·obtain⟨i1,i2⟩:=ih h2
   rw[List.takeWhile_cons_of_pos (by simpa using hx),List.dropWhile_cons_of_pos (by simpa using hx),List.countP_cons_of_pos (by simpa using hx),List.take_succ_cons,List.drop_succ_cons,i1,i2];exact⟨rfl,rfl⟩
  ·have h0:(x::l).countP (fun x=>decide (x<n))=0:=by
    rw[List.countP_eq_zero];intro y hy;rcases List.mem_cons.1 hy with rfl | hy
    ·simpa using hx
    ·have:=h1 y hy
     simp;omega
   rw[List.takeWhile_cons_of_neg (by simpa using hx),List.dropWhile_cons_of_neg (by simpa using hx),h0];exact⟨rfl,rfl⟩
theorem Fw {l:List Int} (h:l.Pairwise (· < ·)) (n:Int):iy l n=rise l n:=by
 obtain⟨h1,h2⟩:=Kh h n;unfold iy rise;rw[h1,h2]
theorem XT (s:Sc) (n:Int):G_ s n=EG s n:=by
 unfold G_ EG;by_cases h:0<n
 ·rw[if_pos h]
  have e1:max n 0=n:=by omega
  have e2:max (-n) 0=0:=by omega
  rw[e1,e2,Int.add_zero]
 ·rw[if_neg h]
  have e1:max n 0=0:=by omega
  have e2:max (-n) 0= -n:=by omega
  rw[e1,e2,Int.add_zero];rfl
theorem Ra {l:Ls} (hs:∀s∈l.sl,s.uu≤s.up∧s.ud≤s.down) (hu:l.used.Pairwise (· < ·)) (kind:Int) (key:ByteArray) (n:Int):eO l kind key n=bW l kind key n:=by
 unfold eO bW;by_cases h4:kind=4
 ·rw[if_pos h4,if_pos h4]
  unfold tX pW;by_cases hk:nO l.sl key<0
  ·rw[if_pos hk,if_pos hk]
  ·rw[if_neg hk,if_neg hk]
   have hm:l.sl.getD (nO l.sl key).toNat DN∈l.sl:=by
    rcases b_ (fun c:Sc=>decide (c.key=key)) l.sl with⟨hi,_⟩ | ⟨k,sF,hi,_,_⟩
    ·exact absurd (by rw[show nO l.sl key= -1 from hi];decide) hk
    ·rw[show nO l.sl key=k from hi]
     simp only[Int.toNat_natCast];rw[List.getD_eq_getElem?_getD,List.getElem?_eq_getElem sF];exact List.getElem_mem sF
   generalize l.sl.getD (nO l.sl key).toNat DN=s at*;have hh:=hs s hm
   have hiff:oV s n↔(s.up-s.uu<n∨s.down-s.ud< -n):=by
    unfold oV;omega
   by_cases hf:oV s n
   ·rw[if_pos hf,if_pos (hiff.1 hf)]
   ·rw[if_neg hf,if_neg (fun h=>hf (hiff.2 h)),XT]
 ·rw[if_neg h4,if_neg h4]
  by_cases h5:kind=5
  ·rw[if_pos h5,if_pos h5]
   unfold wV pX;rw[Fw hu]
  ·rw[if_neg h5,if_neg h5]
end Go.Proofs.YtlfopoimbbpfdaaGreat
