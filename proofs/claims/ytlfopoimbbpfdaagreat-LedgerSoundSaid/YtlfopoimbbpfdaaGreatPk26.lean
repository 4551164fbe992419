/- What the law asks, in parts: HeldI YB YC YP YD. -/
import Derived.Deep.DrawnRows
import Derived.Test.YtlfopoimbbpfdaaGreatPk25
import Derived.Test.YtlfopoimbbpfdaaGreatPk23
import Derived.Test.YtlfopoimbbpfdaaGreatPk24
import Derived.Test.YtlfopoimbbpfdaaGreatPk11
import Derived.Test.YtlfopoimbbpfdaaGreatPk12
set_option linter.all false
set_option maxRecDepth 100000
set_option maxHeartbeats 16000000
namespace Go.Proofs.YtlfopoimbbpfdaaGreat
open Go.RowKit
section
variable {P:Program} {ops:Array Oper} {Q:Exit→Act→World→Prop} {md:Region.Mode} {S:World→Prop} {s:Nat}
def dps (md:Region.Mode) (ops:Array Oper) (i:Nat):List Nat:=((ops[i]?.map (fun o=>(o.after.toList.filter (fun e=>Region.binds md e)).map (fun e=>e.on))).getD [])
def early (md:Region.Mode) (ops:Array Oper):Bool:=(List.range ops.size).all fun i=>(dps md ops i).all (fun k=>decide (k<i))
def toCome (l:Array Bool):Nat:=l.toList.countP (fun b=>!b)
theorem TL (l:List Bool):∀i:Nat,l[i]? =some false→(l.set i true).countP (fun b=>!b)+1=l.countP (fun b=>!b):=by
 induction l with
 | nil=>intro i h;simp at h
 | cons x l ih=>
  intro i h
  cases i with
  | zero=>
   simp only[List.getElem?_cons_zero,Option.some.injEq]at h;subst h;simp
  | succ i=>
   have:=ih i (by simpa using h);simp only[List.set_cons_succ,List.countP_cons];omega
theorem toCome_set {l:Array Bool} {i:Nat} (h:l.getD i true=false):toCome (l.setIfInBounds i true)+1=toCome l:=by
 unfold toCome;rw[Array.toList_setIfInBounds];refine TL _ i ?_;rw[Array.getElem?_toList];rw[Array.getD_eq_getD_getElem?]at h
 cases hq:l[i]? with
 | none=>rw[hq]at h;cases h
 | some b=>rw[hq]at h;exact congrArg some h
theorem getD_some {l:Array Bool} {k:Nat} (h:k<l.size) (d e:Bool):l.getD k d=l.getD k e:=by
 simp[Array.getD,h]
theorem JY {l:Array Bool} {k:Nat} (h:l.getD k false=true):l.getD k true=true:=by
 by_cases hk:k<l.size
 ·rw[getD_some hk true false];exact h
 ·simp[Array.getD,hk]
theorem E8 {l:Array Bool} {i k:Nat} (hi:i<l.size):((l.setIfInBounds i true).getD k true=true)=(k=i∨l.getD k true=true):=by
 by_cases hk:k=i
 ·subst hk
  simp[hi]
 ·have:i≠k:=fun e=>hk e.symm
  simp[hk,Array.getElem?_setIfInBounds_ne this]
theorem QB {l:Array Bool} (he:early md ops=true) (mK:l.size=ops.size) (hr:Region.ready md ops l= []):∀i,i<ops.size→l.getD i true=true:=by
 intro i
 induction i using Nat.strongRecOn with
 | ind i ih=>
  intro hi
  cases hq:l.getD i true with
  | true=>rfl
  | false=>
   exfalso
   have hm:i∈Region.ready md ops l:=by
    refine mem_ready.2 ⟨hq,ops[i],Array.getElem?_eq_getElem hi,fun e aaA hb=>?_⟩
    have Cn:e.on<i:=by
     unfold early at he;rw[List.all_eq_true]at he;have h1:=he i (List.mem_range.2 hi);rw[List.all_eq_true]at h1
     have h2:=h1 e.on (by
      unfold dps;rw[Array.getElem?_eq_getElem hi];simp only[Option.map_some,Option.getD_some,List.mem_map,List.mem_filter,Array.mem_toList_iff]
      exact⟨e,⟨aaA,hb⟩,rfl⟩)
     simpa using h2
    have:=ih e.on Cn (by omega);rw[getD_some (by omega) false true];exact this
   rw[hr]at hm
   cases hm
theorem Br (I:(Nat→Prop)→Act→World→Prop) (he:early md ops=true) (hS:∀D a w,I D a w→ ¬D s→S w)
  (hstep:∀i,i<ops.size→ ∀D a w,I D a w→ ¬D i→(∀k∈dps md ops i,D k)→wpOp P ops Q i (fun a' w'=>I (fun k=>k=i∨D k) a' w') a w)
  (hend:∀D a w,I D a w→(∀k,k<ops.size→D k)→Q .normal a w):
  ∀ (n:Nat) (l:Array Bool) (a:Act) (w:World),toCome l≤n→l.size=ops.size→I (fun k=>l.getD k true=true) a w→iV P md ops Q S s n l a w:=by
 intro n
 have qw:∀ (l:Array Bool) a w,l.size=ops.size→I (fun k=>l.getD k true=true) a w→Region.ready md ops l= []→Q .normal a w:=fun l a w hl h hr=>
  hend _ a w h (fun k hk=>QB he hl hr k hk)
 induction n with
 | zero=>
  intro l a w hn hl h
  have hr:Region.ready md ops l= []:=by
   rw[List.eq_nil_iff_forall_not_mem];intro i hi;have:=toCome_set (mem_ready.1 hi).1;omega
  exact⟨hr,qw l a w hl h hr⟩
 | succ n ih=>
  intro l a w hn hl h;refine⟨qw l a w hl h,fun i hi=>?_⟩;obtain⟨h1,o,ho,gY⟩:=mem_ready.1 hi;have bA:i<ops.size:=(Array.getElem?_eq_some_iff.1 ho).1;have iW:(fun k=>k=i∨l.getD k true=true)=(fun k=>(l.setIfInBounds i true).getD k true=true):=funext fun k=>(E8 (by omega)).symm
  have uE:=hstep i bA _ a w h (by rw[h1];decide) (fun k hk=>by
   unfold dps at hk;rw[ho]at hk;simp only[Option.map_some,Option.getD_some,List.mem_map,List.mem_filter,Array.mem_toList_iff]at hk;obtain⟨e,⟨g1,g2⟩,rfl⟩:=hk
   exact JY (gY e g1 g2))
  rw[iW]at uE;refine wpOp_mono (fun a' w' k=>⟨fun hf=>hS _ a' w' k (by rw[hf];decide),ih _ a' w' ?_ (by simpa using hl) k⟩) uE;have:=toCome_set h1;omega
theorem dW {i:Nat} {oi:Oper} {K:Act→World→Prop} {a:Act} {w:World} (hi:ops[i]? =some oi) (hg:oi.guard=none) (h:Oper.wp P oi a w K Q):wpOp P ops Q i K a w:=by
 unfold wpOp;simp only[hi];rw[if_pos (by simp[Region.wanted,hg])];exact .inl h
end
section
attribute [local go_sem ↓] Go.wp_at_zero Go.wp_at_succ
theorem JZ (gW w W:World) (hw:Below gW.heap.size gW w) (jd iK k:Nat) (b:Bk) (l:Ls) (x0 x:dN) (y:cB) (h:Gs jd iK w W x0 x y) (hr:Rr gW W x b y l) (hB:Ap l) (hn:b.ls.length<10000) (hk:pR l.dev b.ls=k) {u0 u1 u2 u3 u4 u6 u7 u8 u9 u12 u15 u16 u17 u18 u19 u21 u22 u23 u24 u25 u26 u27 u28 u29 u30 u31 u32 u33 u34 u35 u36 u37 u38 u39 u40 u41 u42 u43 u44 u45 u46 u47 u48 u49 u50 u51 u52 u53 u54 u55 u56 u57 u58 u59 u60 u61 u62 u63 u64 u65 u66 u67 u68 u69 u70 u71 u72 u73 u74 u75 u76 u77 u78 u79 u80 u81 u82 u83 u84 u85 u86 u87 u88 u89 u90 u91 u92 u93 u94 u95 u96 u97 u98 u99 u100 u101 u102 u103 u104 u105 u106 u107 u108 u109 u110 u111 u112 u113 u114 u115 u116 u117 u118 u119 u120 u121 u122 u123 u124 u125 u126 u127 u128 u129 u130 u131 u132 u133 u134 u135 u136 u137 u138 u139 u140 u141 u142 u143 u144 u145 u146 u147 u148 u149 u150 u151 u152 u153 u154 u155 u156 u157 u158:Value}:
  ∀c,Tryz.f26.body.bind (spine 7)=some c→Code.wp Tryz.prog c (bodyPost Tryz.prog Tryz.f26 (oJ gW w (⟨b.cs,b.free,sD l b.ls,b.bound⟩,l,0))) ⟨#[u0,u1,u2,u3,u4,.pointer (some ⟨w.heap.size,0,none⟩),u6,u7,u8,u9,.pointer (some ⟨w.heap.size+1,0,none⟩),.pointer (some ⟨w.heap.size+1+1,0,none⟩),u12,.pointer (some ⟨jd,0,none⟩),.pointer (some ⟨iK,0,none⟩),u15,u16,u17,u18,u19,.int .i64 k,u21,u22,u23,u24,u25,u26,u27,u28,u29,u30,u31,u32,u33,u34,u35,u36,u37,u38,u39,u40,u41,u42,u43,u44,u45,u46,u47,u48,u49,u50,u51,u52,u53,u54,u55,u56,u57,u58,u59,u60,u61,u62,u63,u64,u65,u66,u67,u68,u69,u70,u71,u72,u73,u74,u75,u76,u77,u78,u79,u80,u81,u82,u83,u84,u85,u86,u87,u88,u89,u90,u91,u92,u93,u94,u95,u96,u97,u98,u99,u100,u101,u102,u103,u104,u105,u106,u107,u108,u109,u110,u111,u112,u113,u114,u115,u116,u117,u118,u119,u120,u121,u122,u123,u124,u125,u126,u127,u128,u129,u130,u131,u132,u133,u134,u135,u136,u137,u138,u139,u140,u141,u142,u143,u144,u145,u146,u147,u148,u149,u150,u151,u152,u153,u154,u155,u156,u157,u158],[]⟩ W:=by
 refine dP rfl ?_;obtain⟨⟨ca,cn,cc⟩,⟨fa,bD,fc⟩,⟨la,ln,lc⟩,⟨ba,bE,bc⟩⟩:=x;obtain⟨y1,y2,y3,y4,⟨y5,y6,y7⟩,⟨y8,y9,dz⟩,⟨dA,dJ,cK⟩⟩:=y;have HG:=ah h;have HR:=ah hr;have uj:=ah hB;have HN:=ah hn;have HKK:=ah hk;obtain⟨xs,hx,nR⟩:=hr.rl;simp only[Sv.v]at hx;obtain⟨q3,g3,g4⟩:=Sl.lens (s:=⟨la,ln,lc⟩) hx;simp only at q3 g3 g4;subst q3;have wE:=ah nR;have wN:=ah (dI.rd hx);have HXL:=ah nR.len;have yR:xs.length<10000:=by have:=nR.len;omega
 have xL:k≤xs.length:=by have:=Le l.dev b.ls;have:=nR.len;omega
 have dO:xs.length≤lc:=g3;obtain⟨inf,gq,kK,dX,f_⟩:=info_parts Tryz.sU;have EJ:=ah (And.intro gq dX);have Qy:=h.Qy;have Qz:=h.Qz;have mK:=(bq h.k13).1;obtain⟨d0,d1,d2,d3,_⟩:=ay h.k13;simp only[Sv.v]at d0 d1 d2 d3;have hki:(k:Int)≤xs.length:=by omega
 have nH:(0:Int)≤(k:Int):=by omega
 have NH:Hid ((xs.take k).length=k):=ah (by rw[List.length_take];omega);have HKD:Hid ((xs.drop k).length=xs.length-k):=ah List.length_drop;clear h hr hB hn hk hx nR gq kK dX f_ g3
 go_upto_region 22 with first
  | ((with_reducible refine aZ 143 ?_);refine kF rfl _ _ 27 rfl 48 inf 7 Tryz.underlying27 EJ.out.1 EJ.out.2 la xs.length lc k (aJ j_ xs) rfl rfl (by omega) ((wN.out.keep HR.out.bC (aC _)).alloc _) ?_;intro a1 wK;rw[wY]at wK)
  | ((with_reducible refine aZ 144 ?_);refine kS rfl _ _ rfl W.heap.size _ 0 [] rfl (dB _ _ _ _ 7 #[] 0 rfl (aC _) (by omega) rfl) a1 k lc (xs.take k) rfl NH.out wK (by omega) (by simp) ?_;intro v3 w3 iq j4 nQ)
 rw[Nat.zero_add,List.nil_append]at iq;have bT:Below W.heap.size W w3:=gZ j4;have j5:=ah iq;have Lb:=ah (HG.out.keep bT);have HR3:=ah (HR.out.keep bT);have oO:W.heap.size≤w3.heap.size:=bT.size;clear iq j4 nQ wK d0 d1 d2 d3;obtain⟨e0,e1,e2,e3,e4,e5,e6,_⟩:=aB Lb.out.k14;simp only[Sv.v]at e4 e5 e6
 have HNK:Hid (w3.alloc (.cells #[.int .i64 y1,.int .i64 y2,.int .i64 y3,.int .i64 y4,.slice y5 y6 y7,.slice y8 y9 dz,.slice dA dJ cK] 48)=w3.alloc (.cells #[.int .i64 y1,.int .i64 y2,.int .i64 y3,.int .i64 y4,.slice y5 y6 y7,.slice y8 y9 dz,.slice dA dJ cK] 48)∧Rd (w3.alloc (.cells #[.int .i64 y1,.int .i64 y2,.int .i64 y3,.int .i64 y4,.slice y5 y6 y7,.slice y8 y9 dz,.slice dA dJ cK] 48)) (some ⟨w3.heap.size,0,none⟩) (aJ j_ [⟨y1,y2,y3,y4,⟨y5,y6,y7⟩,⟨y8,y9,dz⟩,⟨dA,dJ,cK⟩⟩])):=ah ⟨rfl,fun j u hj=>by
  refine⟨⟨w3.heap.size,0,none⟩,rfl,?_⟩
  have e:(⟨w3.heap.size,0,none⟩:Addr).add j=⟨w3.heap.size,j,none⟩:=by
   cases j with
   | zero=>rfl
   | succ j=>simp[Addr.add]
  rw[e];simp only[World.cell?,heap_alloc_new]
  simpa[aJ,j_]using hj⟩
 go_upto_region 23 with((with_reducible refine aZ 148 ?_);refine kS rfl _ _ rfl W.heap.size v3 k (xs.take k) rfl (aI j5.out ((aL w3.heap.size w3).alloc (aC _) _) (aC _)) (some ⟨w3.heap.size,0,none⟩) 1 1 [⟨y1,y2,y3,y4,⟨y5,y6,y7⟩,⟨y8,y9,dz⟩,⟨dA,dJ,cK⟩⟩] rfl rfl HNK.out.2 (by omega) (by simp;omega) ?_;intro v4 w4 ji hg4 jk)
 have bR:Below W.heap.size W w4:=(bT.alloc oO _).grown hg4 (by simp;omega) (fun g hg=>(j5.out.lt g hg).1);have sH:=ah ji;have wL:=ah (HG.out.keep bR);have HR4:=ah (HR.out.keep bR);have mP:W.heap.size≤w4.heap.size:=bR.size;clear ji hg4 jk HNK e0 e1 e2 e3 e4 e5 e6 Lb HR3 j5 bT;obtain⟨d0,d1,d2,d3,_⟩:=ay wL.out.k13;have f2:=aA wL.out.k13 2;simp only[Sv.v]at d0 d1 d2 d3
 go_cut[] (fun wx=>∃x',Gs jd iK w wx x0 x' ⟨y1,y2,y3,y4,⟨y5,y6,y7⟩,⟨y8,y9,dz⟩,⟨dA,dJ,cK⟩⟩∧Rb W.heap.size gW wx x' ⟨b.cs,b.free,sD l b.ls,b.bound⟩∧nV wx ⟨y1,y2,y3,y4,⟨y5,y6,y7⟩,⟨y8,y9,dz⟩,⟨dA,dJ,cK⟩⟩ l)
 case rest=>
  obtain⟨x',hg,tO,qo⟩:=hcut;go_step;exact JR gW w _ hw jd iK W.heap.size (⟨b.cs,b.free,sD l b.ls,b.bound⟩,l,0) x0 x' _ hg tO (by omega) qo uj.out rfl _ rfl
 case first=>
 go_wp2_with first
  | ((with_reducible refine aZ 153 ?_);refine iD rfl _ _ 27 rfl 48 inf 7 Tryz.underlying27 EJ.out.1 EJ.out.2 la xs.length lc k (aJ j_ xs) rfl rfl (by omega) dO (wN.out.keep HR4.out.bC (aC _)) (bP iE _) ?_;intro a2 sV;rw[wZ]at sV)
  | ((with_reducible refine aZ 154 ?_);refine kS rfl _ _ rfl W.heap.size v4 (k+1) _ rfl sH.out a2 (xs.length-k) (lc-k) (xs.drop k) rfl HKD.out sV (by omega) mP ?_;intro v5 w5 gP hg5 m_;obtain⟨rQ,qU,rfl,_,_⟩:=aO gP;have gD:Below W.heap.size W w5:=bR.grown hg5 mP (fun g hg=>(sH.out.lt g hg).1);have yU:=ah (HG.out.keep gD);obtain⟨d0,d1,d2,d3,_⟩:=ay yU.out.k13;have f2:=aA yU.out.k13 2)
 go_meet;have aK:∀c,c≠jd→(w5.setCell ⟨jd,2,none⟩ (.slice rQ (k+1+(xs.length-k)) qU)).heap[c]? =w5.heap[c]? :=fun c hc=>aX _ _ _ (fun e=>hc e.symm) _
 have KX:Below w.heap.size w (w5.setCell ⟨jd,2,none⟩ (.slice rQ (k+1+(xs.length-k)) qU)):=yU.out.bC.setCell (by show _≤jd;omega) _;have hR5:=HR.out.keep gD;have hRs:=hR5.other (hw.trans (KX.mono hw.size)) aK yU.out.k13 (by decide) (by decide) (by decide);refine⟨⟨⟨ca,cn,cc⟩,⟨fa,bD,fc⟩,⟨rQ,k+1+(xs.length-k),qU⟩,⟨ba,bE,bc⟩⟩,yU.out.QA KX aK (oH yU.out.k13 _),⟨hRs.bC,hRs.rc,hRs.rf,.inr ⟨xs.take k++⟨y1,y2,y3,y4,⟨y5,y6,y7⟩,⟨y8,y9,dz⟩,⟨dA,dJ,cK⟩⟩::xs.drop k,?_,?_⟩,hRs.rb⟩,hRs.ls⟩
 ·have h9:=gT gP aK (fun e=>by have:=(gP.lt jd e).1;omega)
  have hl:(sD l b.ls).length=k+1+(xs.length-k):=by
   unfold sD;rw[HKK.out];have:=HXL.out;rw[List.length_append,List.length_cons,List.length_take,List.length_drop];omega
  show World.ownsRow _ _ _ _ (.slice rQ (k+1+(xs.length-k)) qU) (sD l b.ls).length _;rw[hl];rw[List.append_assoc]at h9;exact h9
 ·unfold sD
  rw[HKK.out];have hold:bN (Re gW (w5.setCell ⟨jd,2,none⟩ (.slice rQ (k+1+(xs.length-k)) qU))) xs b.ls:=wE.out.imp (fun _ _ r=>Re.old r);exact(hold.take k).append ⟨⟨hRs.dev,hRs.epoch,hRs.bU,hRs.last,hRs.rs,hRs.ri,.inl hRs.ru⟩,hold.drop k⟩
end
section
attribute [local go_sem ↓] Go.wp_at_zero Go.wp_at_succ
theorem QC (gW w W:World) (hw:Below gW.heap.size gW w) (jd iK:Nat) (dev:Int) (b:Bk) (l:Ls) (x0 x:dN) (y:cB) (h:Gs jd iK w W x0 x y) (hr:Rr gW W x b y l) (hB:Ap l) (hn:b.ls.length<10000) (hd:l.dev=dev) {u0 u2 u3 u4 u6 u7 u8 u9 u12 u15 u16 u17 u18 u19 u20 u21 u22 u23 u24 u25 u26 u27 u28 u29 u30 u31 u32 u33 u34 u35 u36 u37 u38 u39 u40 u41 u42 u43 u44 u45 u46 u47 u48 u49 u50 u51 u52 u53 u54 u55 u56 u57 u58 u59 u60 u61 u62 u63 u64 u65 u66 u67 u68 u69 u70 u71 u72 u73 u74 u75 u76 u77 u78 u79 u80 u81 u82 u83 u84 u85 u86 u87 u88 u89 u90 u91 u92 u93 u94 u95 u96 u97 u98 u99 u100 u101 u102 u103 u104 u105 u106 u107 u108 u109 u110 u111 u112 u113 u114 u115 u116 u117 u118 u119 u120 u121 u122 u123 u124 u125 u126 u127 u128 u129 u130 u131 u132 u133 u134 u135 u136 u137 u138 u139 u140 u141 u142 u143 u144 u145 u146 u147 u148 u149 u150 u151 u152 u153 u154 u155 u156 u157 u158:Value}:
  ∀c,Tryz.f26.body.bind (spine 5)=some c→Code.wp Tryz.prog c (bodyPost Tryz.prog Tryz.f26 (oJ gW w (⟨b.cs,b.free,sD l b.ls,b.bound⟩,l,0))) ⟨#[u0,.int .i64 dev,u2,u3,u4,.pointer (some ⟨w.heap.size,0,none⟩),u6,u7,u8,u9,.pointer (some ⟨w.heap.size+1,0,none⟩),.pointer (some ⟨w.heap.size+1+1,0,none⟩),u12,.pointer (some ⟨jd,0,none⟩),.pointer (some ⟨iK,0,none⟩),u15,u16,u17,u18,u19,u20,u21,u22,u23,u24,u25,u26,u27,u28,u29,u30,u31,u32,u33,u34,u35,u36,u37,u38,u39,u40,u41,u42,u43,u44,u45,u46,u47,u48,u49,u50,u51,u52,u53,u54,u55,u56,u57,u58,u59,u60,u61,u62,u63,u64,u65,u66,u67,u68,u69,u70,u71,u72,u73,u74,u75,u76,u77,u78,u79,u80,u81,u82,u83,u84,u85,u86,u87,u88,u89,u90,u91,u92,u93,u94,u95,u96,u97,u98,u99,u100,u101,u102,u103,u104,u105,u106,u107,u108,u109,u110,u111,u112,u113,u114,u115,u116,u117,u118,u119,u120,u121,u122,u123,u124,u125,u126,u127,u128,u129,u130,u131,u132,u133,u134,u135,u136,u137,u138,u139,u140,u141,u142,u143,u144,u145,u146,u147,u148,u149,u150,u151,u152,u153,u154,u155,u156,u157,u158],[]⟩ W:=by
 refine dP rfl ?_;obtain⟨⟨ca,cn,cc⟩,⟨fa,bD,fc⟩,⟨la,ln,lc⟩,⟨ba,bE,bc⟩⟩:=x;have HG:=ah h;have HR:=ah hr;have uj:=ah hB;have HN:=ah hn;have HD:=ah hd;obtain⟨xs,hx,nR⟩:=hr.rl;simp only[Sv.v]at hx;obtain⟨q3,g3,g4⟩:=Sl.lens (s:=⟨la,ln,lc⟩) hx;simp only at q3 g3 g4;subst q3;have HX:=ah hx;have wE:=ah nR;have yR:xs.length<10000:=by have:=nR.len;omega
 have hxe:xs.length=b.ls.length:=nR.len;obtain⟨d0,d1,d2,d3,_⟩:=ay h.k13;simp only[Sv.v]at d0 d1 d2 d3;clear h hr hB hn hd hx nR;go_upto_block 2 with fail
 go_cut[20] (fun v20 wx=>v20= .int .i64 (pR l.dev b.ls)∧wx=W)
 case rest=>
  obtain⟨rfl,rV⟩:=hcut;rw[rV];go_step;exact JZ gW w _ hw jd iK _ b l x0 _ y HG.out HR.out uj.out HN.out rfl _ rfl
 case first=>
 go_wp2
 go_loop[20] (fun v20=>∃k:Nat,k≤xs.length∧v20= .int .i64 k∧(∀j (hj:j<b.ls.length),j<k→b.ls[j].dev<dev)) (fun v20=>xs.length-(intOf v20).toNat)
 case atStart=>exact⟨0,Nat.zero_le _,rfl,fun j _ hj=>by omega⟩
 case round=>
  obtain⟨k,hk,rfl,hj⟩:=hrel;have HJ:=ah hj;clear hj;have k0:(0:Int)≤(k:Int):=by omega
  by_cases bA:k<xs.length
  ·have jK:(k:Int)<xs.length:=by omega
   obtain⟨lb,lo,rfl,kZ,c0,-⟩:=dI.ls HX.out HR.out.bC (aC _) k bA;have iQ:=(wE.out.at k bA (by omega)).dev;rw[iQ]at c0;by_cases hq:b.ls[k].dev<dev
   ·have zU:Hid (∀j (hj:j<b.ls.length),j<k+1→b.ls[j].dev<dev):=ah (fun j hj Df=>by
     by_cases qV:j=k
     ·subst qV;exact hq
     ·exact HJ.out j hj (by omega))
    generalize b.ls[k].dev=dk at*;clear iQ HJ;go_wp2;go_round
    case rel=>exact⟨k+1,by omega,by go_num,zU.out⟩
    case measure=>simp[intOf];omega
   ·have HK:Hid (pR l.dev b.ls=k):=ah (zZ (by omega) (fun j hj Df=>by rw[HD.out];exact HJ.out j hj Df) (fun _=>by rw[HD.out];exact hq))
    generalize b.ls[k].dev=dk at*;clear iQ HJ;go_wp2;go_meet;exact⟨by rw[HK.out],rfl⟩
  ·have HK:Hid (pR l.dev b.ls=k):=ah (zZ (by omega) (fun j hj Df=>by rw[HD.out];exact HJ.out j hj Df) (fun h=>absurd h (by omega)))
   have jK:¬ (k:Int)<xs.length:=by omega
   clear HJ;go_wp2;go_meet;exact⟨by rw[HK.out],rfl⟩
end
theorem NQ (gW:World) (x:dN) (b:Bk) (y:cB) (l:Ls) (wn:Wn) (w:World) (hr:Rr gW w x b y l) (hw:Hu b l wn):
  Calls Tryz.prog 78 #[iJ x,o9 y,Un wn] w (kV gW w b l wn):=by
 by_cases hc:g_ b wn=0
 ·exact Qw gW x b y l wn w hr hw hc
 ·exact Qx gW x b y l wn w hr hw hc
structure Xf (b:Bk):Prop where
 nc:b.cs.length<1000
 nf:b.free.length<1000
 nl:b.ls.length<10000
 fr:dw b.free
 ct:Jy 2199023255552 b.cs
 key:∀c∈b.cs,emp c.key=false
structure Sb (i:Nat) (b0:Bk) (l0:Ls) (pre:List Wn) (b:Bk) (l:Ls):Prop where
 n:MZ i b0 l0 b l
 fr:dw b.free
 row:dw l.ids
 key:∀c∈b.cs,emp c.key=false
 sub:∀s∈l.sl,∃p∈pre,p.key=s.key
theorem Sb.zero {b:Bk} {d ep un:Int} (h:Xf b):Sb 0 b (newL d ep un) [] b (newL d ep un):=
 ⟨MZ.zero h.fr.1 h.ct,h.fr,rowP_nil,h.key,fun _ hs=>by simp[newL]at hs⟩
theorem Sb.aeJ {i:Nat} {b0 b:Bk} {l0 l:Ls} {pre:List Wn} {w:Wn} (h:Sb i b0 l0 pre b l) (h0:Xf b0) (hi:i<5) (hn:pre.any (fun x=>decide (x.key=w.key))=false):Hu b l w:=by
 have h1:=h.n.nc;have h2:=h.n.nf;have h3:=h.n.ni;have h4:=h.n.ns;have h5:=h0.nc;have h6:=h0.nf;have:i*b0.free.length≤5*b0.free.length:=Nat.mul_le_mul_right _ (by omega);refine⟨by omega,by omega,by omega,by omega,h.key,fun _ s hs e=>?_,h.fr,h.row,h.n.ct⟩;obtain⟨p,hp,hk⟩:=h.sub s hs;rw[List.any_eq_false]at hn;exact hn p hp (by simp[hk,e])
theorem QD {b:Bk} {w:Wn} (hk:∀c∈b.cs,emp c.key=false) (h0:¬bJ b.cs w.key<0):emp (kL b w).key=false:=by
 rcases b_ (fun c:Ct=>decide (c.key=w.key)) b.cs with⟨hi,_⟩ | ⟨k,sF,hi,_,_⟩
 ·exact absurd (by rw[show bJ b.cs w.key= -1 from hi];decide) h0
 ·have e:kL b w=b.cs[k]:=by unfold kL;rw[show bJ b.cs w.key=k from hi];simp[List.getD,List.getElem?_eq_getElem sF]
  rw[e];exact hk _ (List.getElem_mem sF)
theorem Sb.step {i:Nat} {b0 b:Bk} {l0 l:Ls} {pre:List Wn} {w:Wn} (h:Sb i b0 l0 pre b l) (hw:dY b w=0):Sb (i+1) b0 l0 (pre++ [w]) (iG b w) (jG b l w):=by
 have hC:g_ b w=0:=by
  unfold dY at hw
  split at hw
  ·assumption
  ·exact hw
 have xI:w.ids≤dG b.free:=by
  unfold dY at hw;rw[if_pos hC]at hw
  split at hw
  ·cases hw
  ·omega
 obtain⟨hB,hk⟩:=iP hC;obtain⟨⟨u1,u2⟩,⟨d1,d2⟩,i1,i2⟩:=EB hB;obtain⟨t1,t2,_⟩:=vE b.free w.ids i1 xI h.fr;refine⟨h.n.step hw,t2,Bj _ h.row t1,?_,?_⟩
 ·unfold iG;simp only
  rcases hk with hk | ⟨hk,h0,_,_⟩
  ·rw[if_pos hk];exact h.key
  ·rw[if_neg (by rw[hk];simp)]
   intro c hc;rcases List.mem_or_eq_of_mem_set hc with hc | rfl
   ·exact h.key c hc
   ·exact QD h.key h0
 ·unfold jG;simp only
  intro s hs
  split at hs
  ·obtain⟨p,hp,e⟩:=h.sub s hs
   exact⟨p,List.mem_append_left _ hp,e⟩
  ·rcases List.mem_append.1 hs with hs | hs
   ·obtain⟨p,hp,e⟩:=h.sub s hs
    exact⟨p,List.mem_append_left _ hp,e⟩
   ·simp only[List.mem_singleton]at hs
    subst hs;exact⟨w,by simp,rfl⟩
section
attribute [local go_sem ↓] Go.wp_at_zero Go.wp_at_succ
theorem Ib (gW w W:World) (hw:Below gW.heap.size gW w) (jd iK:Nat) (dev ep un:Int) (va:Option Addr) (vn vc:Nat) (ws:List Wn) (b0:Bk) (x0:dN) (h:Gs jd iK w W x0 x0 ⟨dev,ep,un,-1,⟨none,0,0⟩,⟨none,0,0⟩,⟨none,0,0⟩⟩) (hx:iA gW x0 b0) (hv:sM w (.slice va vn vc) ws) (h0:Xf b0) (Zz:ws.length≤5) (r:Bk×Ls×Int) (hr:r=if (bI b0 (newL dev ep un) [] ws).2.2=0 then(⟨(bI b0 (newL dev ep un) [] ws).1.cs,(bI b0 (newL dev ep un) [] ws).1.free,sD (bI b0 (newL dev ep un) [] ws).2.1 (bI b0 (newL dev ep un) [] ws).1.ls,(bI b0 (newL dev ep un) [] ws).1.bound⟩,(bI b0 (newL dev ep un) [] ws).2.1,0)else(b0,oD,(bI b0 (newL dev ep un) [] ws).2.2)) {u0 u2 u3 u6 u7 u8 u9 u12 u15 u16 u17 u18 u19 u20 u21 u22 u23 u24 u25 u26 u27 u28 u29 u30 u31 u32 u33 u34 u35 u36 u37 u38 u39 u40 u41 u42 u43 u44 u45 u46 u47 u48 u49 u50 u51 u52 u53 u54 u55 u56 u57 u58 u59 u60 u61 u62 u63 u64 u65 u66 u67 u68 u69 u70 u71 u72 u73 u74 u75 u76 u77 u78 u79 u80 u81 u82 u83 u84 u85 u86 u87 u88 u89 u90 u91 u92 u93 u94 u95 u96 u97 u98 u99 u100 u101 u102 u103 u104 u105 u106 u107 u108 u109 u110 u111 u112 u113 u114 u115 u116 u117 u118 u119 u120 u121 u122 u123 u124 u125 u126 u127 u128 u129 u130 u131 u132 u133 u134 u135 u136 u137 u138 u139 u140 u141 u142 u143 u144 u145 u146 u147 u148 u149 u150 u151 u152 u153 u154 u155 u156 u157 u158:Value}:
  ∀c,Tryz.f26.body.bind (spine 4)=some c→Code.wp Tryz.prog c (bodyPost Tryz.prog Tryz.f26 (oJ gW w r)) ⟨#[u0,.int .i64 dev,u2,u3,.slice va vn vc,.pointer (some ⟨w.heap.size,0,none⟩),u6,u7,u8,u9,.pointer (some ⟨w.heap.size+1,0,none⟩),.pointer (some ⟨w.heap.size+1+1,0,none⟩),u12,.pointer (some ⟨jd,0,none⟩),.pointer (some ⟨iK,0,none⟩),u15,u16,u17,u18,u19,u20,u21,u22,u23,u24,u25,u26,u27,u28,u29,u30,u31,u32,u33,u34,u35,u36,u37,u38,u39,u40,u41,u42,u43,u44,u45,u46,u47,u48,u49,u50,u51,u52,u53,u54,u55,u56,u57,u58,u59,u60,u61,u62,u63,u64,u65,u66,u67,u68,u69,u70,u71,u72,u73,u74,u75,u76,u77,u78,u79,u80,u81,u82,u83,u84,u85,u86,u87,u88,u89,u90,u91,u92,u93,u94,u95,u96,u97,u98,u99,u100,u101,u102,u103,u104,u105,u106,u107,u108,u109,u110,u111,u112,u113,u114,u115,u116,u117,u118,u119,u120,u121,u122,u123,u124,u125,u126,u127,u128,u129,u130,u131,u132,u133,u134,u135,u136,u137,u138,u139,u140,u141,u142,u143,u144,u145,u146,u147,u148,u149,u150,u151,u152,u153,u154,u155,u156,u157,u158],[]⟩ W:=by
 refine dP rfl ?_;obtain⟨⟨ga,gn,gc⟩,⟨ha,fu,hc⟩,⟨ia,eX,ic⟩,⟨ja,jn,jc⟩⟩:=x0;obtain⟨q3,g3,g4⟩:=Sl.lens (s:=⟨va,vn,vc⟩) hv;simp only at q3 g3 g4;subst q3;have HG:=ah h;have HX0:=ah hx;have HV:=ah hv;have H0:=ah h0;have OE:=ah hr;clear h hx hv h0 hr;go_upto_block 0 with fail
 go_cut[] (fun wx=>∃X Y b l,Gs jd iK w wx ⟨⟨ga,gn,gc⟩,⟨ha,fu,hc⟩,⟨ia,eX,ic⟩,⟨ja,jn,jc⟩⟩ X Y∧Rr gW wx X b Y l∧Sb ws.length b0 (newL dev ep un) ws b l∧bI b0 (newL dev ep un) [] ws=(b,l,0))
 case rest=>
  obtain⟨X,Y,b,l,hg,hrr,hgw,EK⟩:=hcut;rw[EK]at OE;simp only[if_true]at OE;have xP:=OE.out;subst xP;go_step;exact QC gW w _ hw jd iK dev b l ⟨⟨ga,gn,gc⟩,⟨ha,fu,hc⟩,⟨ia,eX,ic⟩,⟨ja,jn,jc⟩⟩ X Y hg hrr ⟨by have:=hgw.n.ns;omega,by have h1:=hgw.n.ni;have h2:=H0.out.nf;have:ws.length*b0.free.length≤5*b0.free.length:=Nat.mul_le_mul_right _ Zz;omega,by rw[hgw.n.used];simp⟩ (by rw[hgw.n.ls];exact H0.out.nl) hgw.n.dev _ rfl
 case first=>
 go_wp2
 go_loopw[15] (fun v15 wr=>∃ (i:Nat) (X:dN) (Y:cB) (b:Bk) (l:Ls),i≤ws.length∧v15= .int .i64 i∧Gs jd iK w wr ⟨⟨ga,gn,gc⟩,⟨ha,fu,hc⟩,⟨ia,eX,ic⟩,⟨ja,jn,jc⟩⟩ X Y∧Rr gW wr X b Y l∧Sb i b0 (newL dev ep un) (ws.take i) b l∧bI b0 (newL dev ep un) [] ws=bI b l (ws.take i) (ws.drop i)) (fun v15 _=>ws.length-(intOf v15).toNat)
 case atStart=>exact⟨0,_,_,b0,newL dev ep un,Nat.zero_le _,rfl,HG.out,Rr.begin HX0.out ⟨rfl,rfl,rfl,rfl,(jl gW 0).m.s,(jl gW 0).m.i,(jl gW 0).m.u⟩ (hw.trans (HG.out.bC.mono hw.size)),Sb.zero H0.out,rfl⟩
 case round=>
  obtain⟨i,X,Y,b,l,hi,rfl,hg,hrr,hgw,EK⟩:=hrel;have mU:=ah hg;have Cb:=ah hrr;have HGW:=ah hgw;have xK:=ah EK;clear hg hrr hgw EK;by_cases bA:i<ws.length
  ·have Lg:(i:Int)<ws.length:=by omega
   have i0:(0:Int)≤(i:Int):=by omega
   obtain⟨vb,vo,rfl,hvb,c0,c1,c2,c3⟩:=dI.wn HV.out mU.out.bC (aC _) i bA
   have HTW:Hid (uT ws i=(ws.take i).any (fun x=>decide (x.key=ws[i].key))):=ah (by
    unfold uT;rw[List.getD_eq_getElem?_getD,List.getElem?_eq_getElem bA]
    rfl)
   have HDR:Hid (ws.drop i=ws[i]::ws.drop (i+1)):=ah (List.drop_eq_getElem_cons bA);have Jp:Hid (ws.take (i+1)=ws.take i++ [ws[i]]):=ah (aS ws i bA);have HGX:=ah mU.out;generalize hwn:ws[i]=wn at*;have ajq:=ah (And.intro bA True.intro);obtain⟨wk,wu,wd,wi⟩:=wn;simp only at c0 c1 c2 c3;obtain⟨⟨ca,cn,cc⟩,⟨fa,bD,fc⟩,⟨la,ln,lc⟩,⟨ba,bE,bc⟩⟩:=X;obtain⟨y1,y2,y3,y4,⟨y5,y6,y7⟩,⟨y8,y9,dz⟩,⟨dA,dJ,cK⟩⟩:=Y;have Qy:=mU.out.Qy;have Qz:=mU.out.Qz;go_upto_region 10 with fail
   have bB:Below wr.heap.size wr (wr.alloc (.cells #[.string wk,.int .i64 wu,.int .i64 wd,.int .i64 wi] 65)):=(aL _ _).alloc (aC _) _;have TM:=ah (heap_alloc_new wr (.cells #[.string wk,.int .i64 wu,.int .i64 wd,.int .i64 wi] 65));have zH:=ah (mU.out.keep bB);have HR1:=ah (Cb.out.keep bB);clear bB mU Cb c0 c1 c2 c3 HGX;generalize wr.alloc (.cells #[.string wk,.int .i64 wu,.int .i64 wd,.int .i64 wi] 65)=W1 at*;generalize wr.heap.size=II at*;obtain⟨k0,k1,k2,k3,_⟩:=ay TM.out
   go_cut[99] (fun v99 wx=>v99= .bool (!(wJ ⟨wk,wu,wd,wi⟩))∧wx=W1)
   case first=>
    go_wp2;all_goals go_meet
    all_goals
     refine⟨congrArg Value.bool ?_,rfl⟩;rw[rG,Bool.eq_iff_iff]
     try simp
     try omega
   case rest=>
   obtain⟨rfl,rV⟩:=hcut;rw[rV];clear rV
   cases hB:wJ ⟨wk,wu,wd,wi⟩with
   | false=>
    have fO:Hid (r=(b0,oD,1)):=ah (by
     have h1:dY b ⟨wk,wu,wd,wi⟩=1:=by
      unfold dY;rw[qA hB];rfl
     rw[OE.out,xK.out,HDR.out,pI (by rw[hB];simp) (by rw[h1];decide),h1]
     rfl)
    clear k0 k1 k2 k3 hB;obtain⟨r0,r1,r2,r3,_⟩:=ay zH.out.k5;simp only[Sv.v]at r0 r1 r2 r3;obtain⟨s0,s1,s2,s3,_⟩:=ay zH.out.k10;obtain⟨m0,m1,m2,m3,m4,m5,m6,_⟩:=aB zH.out.k11;have f0:=aA zH.out.k10 0;have f1:=aA zH.out.k10 1;have f2:=aA zH.out.k10 2;have f3:=aA zH.out.k10 3;have g0:=ak zH.out.k11 0;have g1:=ak zH.out.k11 1;have g2:=ak zH.out.k11 2;have g3:=ak zH.out.k11 3;have g4:=ak zH.out.k11 4;have g5:=ak zH.out.k11 5;have g6:=ak zH.out.k11 6;go_wp2;refine bodyPost_ret (v:=.tuple #[.agg #[.slice ga gn gc,.slice ha fu hc,.slice ia eX ic,.slice ja jn jc],.agg #[.int .i64 0,.int .i64 0,.int .i64 0,.int .i64 0,.slice none 0 0,.slice none 0 0,.slice none 0 0],.int .i64 1]) (by simp[results,Tryz.results26,go_sem, *]) rfl (show oJ _ _ _ _ _ from ?_);have zi:=CR (oW zH.out.bC (p:=w.heap.size+1) (by omega) (.slice ga gn gc) (.slice ha fu hc) (.slice ia eX ic) (.slice ja jn jc)) (p:=w.heap.size+1+1) (by omega) (.int .i64 0) (.int .i64 0) (.int .i64 0) (.int .i64 0) (.slice none 0 0) (.slice none 0 0) (.slice none 0 0);rw[fO.out];exact⟨⟨⟨ga,gn,gc⟩,⟨ha,fu,hc⟩,⟨ia,eX,ic⟩,⟨ja,jn,jc⟩⟩,ug,rfl,⟨_,aC _,Rb.old HX0.out (hw.trans (zi.mono hw.size))⟩,jl _ _,zi⟩
   | true=>
    have xM:=ah hB;clear hB;go_wp2_with fail
    refine(MJ _ ws i W1 (dI.keep HV.out zH.out.bC (aC _)) bA (by omega)).mono ?_;rintro e W2 ⟨rfl,bO⟩;rw[HTW.out];have rA:=ah (zH.out.keep bO);have xP:=ah (HR1.out.keep bO);have UW:=ah (aj TM.out bO (bq TM.out).1);clear zH HR1 TM bO k0 k1 k2 k3
    cases hT:(ws.take i).any (fun x=>decide (x.key=wk))with
    | true=>
     have fO:Hid (r=(b0,oD,7)):=ah (by
      rw[OE.out,xK.out,HDR.out,vw xM.out hT]
      rfl)
     clear hT;obtain⟨r0,r1,r2,r3,_⟩:=ay rA.out.k5;simp only[Sv.v]at r0 r1 r2 r3;obtain⟨s0,s1,s2,s3,_⟩:=ay rA.out.k10;obtain⟨m0,m1,m2,m3,m4,m5,m6,_⟩:=aB rA.out.k11;have f0:=aA rA.out.k10 0;have f1:=aA rA.out.k10 1;have f2:=aA rA.out.k10 2;have f3:=aA rA.out.k10 3;have g0:=ak rA.out.k11 0;have g1:=ak rA.out.k11 1;have g2:=ak rA.out.k11 2;have g3:=ak rA.out.k11 3;have g4:=ak rA.out.k11 4;have g5:=ak rA.out.k11 5;have g6:=ak rA.out.k11 6;go_wp2;refine bodyPost_ret (v:=.tuple #[.agg #[.slice ga gn gc,.slice ha fu hc,.slice ia eX ic,.slice ja jn jc],.agg #[.int .i64 0,.int .i64 0,.int .i64 0,.int .i64 0,.slice none 0 0,.slice none 0 0,.slice none 0 0],.int .i64 7]) (by simp[results,Tryz.results26,go_sem, *]) rfl (show oJ _ _ _ _ _ from ?_);have zi:=CR (oW rA.out.bC (p:=w.heap.size+1) (by omega) (.slice ga gn gc) (.slice ha fu hc) (.slice ia eX ic) (.slice ja jn jc)) (p:=w.heap.size+1+1) (by omega) (.int .i64 0) (.int .i64 0) (.int .i64 0) (.int .i64 0) (.slice none 0 0) (.slice none 0 0) (.slice none 0 0);rw[fO.out];exact⟨⟨⟨ga,gn,gc⟩,⟨ha,fu,hc⟩,⟨ia,eX,ic⟩,⟨ja,jn,jc⟩⟩,ug,rfl,⟨_,aC _,Rb.old HX0.out (hw.trans (zi.mono hw.size))⟩,jl _ _,zi⟩
    | false=>
     have HT:=ah hT;clear hT;obtain⟨d0,d1,d2,d3,_⟩:=ay rA.out.k13;obtain⟨e0,e1,e2,e3,e4,e5,e6,_⟩:=aB rA.out.k14;obtain⟨k0,k1,k2,k3,_⟩:=ay UW.out;simp only[Sv.v]at d0 d1 d2 d3 e4 e5 e6;go_wp2_with fail
     refine(NQ gW ⟨⟨ca,cn,cc⟩,⟨fa,bD,fc⟩,⟨la,ln,lc⟩,⟨ba,bE,bc⟩⟩ b ⟨y1,y2,y3,y4,⟨y5,y6,y7⟩,⟨y8,y9,dz⟩,⟨dA,dJ,cK⟩⟩ l ⟨wk,wu,wd,wi⟩ W2 xP.out (HGW.out.aeJ H0.out (by omega) HT.out)).mono ?_;rintro e W3 ⟨⟨⟨oa,on,oc⟩,⟨pa,pn,pc⟩,⟨qa,qn,qc⟩,⟨ra,rn,rc⟩⟩,⟨z1,z2,z3,z4,⟨z5,z6,z7⟩,⟨z8,z9,dK⟩,⟨dU,eZ,dQ⟩⟩,rfl,bT,qQ⟩;have lZ:=ah qQ;have hG3:=rA.out.keep bT;clear qQ d0 d1 d2 d3 e0 e1 e2 e3 e4 e5 e6 k0 k1 k2 k3 xP UW;go_upto_region 15 with fail
     obtain⟨W4,UH,k17,k18,bR,mP⟩:∃W4,((W3.alloc (.cells #[.slice oa on oc,.slice pa pn pc,.slice qa qn qc,.slice ra rn rc] 30)).alloc (.cells #[.int .i64 z1,.int .i64 z2,.int .i64 z3,.int .i64 z4,.slice z5 z6 z7,.slice z8 z9 dK,.slice dU eZ dQ] 48))=W4∧W4.heap[W3.heap.size]? =some (.cells #[.slice oa on oc,.slice pa pn pc,.slice qa qn qc,.slice ra rn rc] 30 (0,0))∧W4.heap[W3.heap.size+1]? =some (.cells #[.int .i64 z1,.int .i64 z2,.int .i64 z3,.int .i64 z4,.slice z5 z6 z7,.slice z8 z9 dK,.slice dU eZ dQ] 48 (0,0))∧Below W3.heap.size W3 W4∧W4.heap.size=W3.heap.size+2:=⟨_,rfl,bX _ _ _,bL _ _ _,((aL _ _).alloc (aC _) _).alloc (by simp) _,by simp⟩;rw[UH];have wL:=ah (hG3.keep bR);have aaC:=ah k17;have aaD:=ah k18;have aaE:=(bq hG3.k13).1;have aaF:=(bq hG3.k14).1;clear UH k17 k18 rA mP bT hG3;by_cases he:dY b ⟨wk,wu,wd,wi⟩=0
     ·have aaG:=ah ((lZ.out he).keep bR)
      have aeK:=ah (HGW.out.step he)
      have aeL:Hid (bI b0 (newL dev ep un) [] ws=bI (iG b ⟨wk,wu,wd,wi⟩) (jG b l ⟨wk,wu,wd,wi⟩) (ws.take (i+1)) (ws.drop (i+1))):=ah (by
       rw[xK.out,HDR.out,Jp.out]
       exact vD (by rw[HT.out];simp) he)
      rw[he];clear bR lZ xK HGW;generalize W3.heap.size=Ac at*;go_upto_region 17 with fail
      have Cg:=ah (wL.out.keep (aL _ _).drew);have u_:=ah (aaG.out.keep (aL _ _).drew);have aaH:W4.drew.heap[Ac]? =some (.cells #[.slice oa on oc,.slice pa pn pc,.slice qa qn qc,.slice ra rn rc] 30 (0,0)):=aaC.out;have aaI:W4.drew.heap[Ac+1]? =some (.cells #[.int .i64 z1,.int .i64 z2,.int .i64 z3,.int .i64 z4,.slice z5 z6 z7,.slice z8 z9 dK,.slice dU eZ dQ] 48 (0,0)):=aaD.out;have aeM:=ah aaH;have aeN:=ah aaI;clear aaH aaI wL aaG aaC aaD;refine aW 3 (gG Ac (Ac+1) W4.drew) (by kernel_rfl) ?_;have aQ:gG Ac (Ac+1) W4.drew W4.drew:=⟨rfl,rfl⟩;generalize W4.drew=Wd at*;refine aP (i:=0) (v:=.agg #[.slice oa on oc,.slice pa pn pc,.slice qa qn qc,.slice ra rn rc]) rfl rfl (by kernel_rfl) (fun _ _ _ h=>h) (.inl ⟨rfl,fun w' hw=>?_⟩) aQ ?_
      ·obtain⟨a0,a1,a2,a3,_⟩:=ay (hw.1.trans aeM.out)
       go_simp
      refine aP (i:=1) (v:=.agg #[.int .i64 z1,.int .i64 z2,.int .i64 z3,.int .i64 z4,.slice z5 z6 z7,.slice z8 z9 dK,.slice dU eZ dQ]) rfl rfl (by kernel_rfl) (fun _ _ _ h=>h) (.inl ⟨rfl,fun w' hw=>?_⟩) aQ ?_
      ·obtain⟨b0,b1,b2,b3,b4,b5,b6,_⟩:=aB (hw.2.trans aeN.out)
       go_simp
      obtain⟨a0,a1,a2,a3,_⟩:=ay Cg.out.k13;have f0:=aA Cg.out.k13 0;have f1:=aA Cg.out.k13 1;have f2:=aA Cg.out.k13 2;have f3:=aA Cg.out.k13 3;simp only[Sv.v]at a0 a1 a2 a3;have yt:Hid (∀c,c≠jd→((((Wd.setCell ⟨jd,0,none⟩ (.slice oa on oc)).setCell ⟨jd,1,none⟩ (.slice pa pn pc)).setCell ⟨jd,2,none⟩ (.slice qa qn qc)).setCell ⟨jd,3,none⟩ (.slice ra rn rc)).heap[c]? =Wd.heap[c]?):=ah (fun c hc=>bM Wd jd c (fun e=>hc e.symm) _ _ _ _ 0 1 2 3);have Bo:Hid (Below w.heap.size w ((((Wd.setCell ⟨jd,0,none⟩ (.slice oa on oc)).setCell ⟨jd,1,none⟩ (.slice pa pn pc)).setCell ⟨jd,2,none⟩ (.slice qa qn qc)).setCell ⟨jd,3,none⟩ (.slice ra rn rc))):=ah (oW Cg.out.bC (by omega) _ _ _ _)
      have yU:=ah (Cg.out.QA (x':=⟨⟨oa,on,oc⟩,⟨pa,pn,pc⟩,⟨qa,qn,qc⟩,⟨ra,rn,rc⟩⟩) Bo.out yt.out (by
       have h6:=Cg.out.k13
       simp[World.setCell,Array.getElem?_modify,h6]))
      have YP:=ah (u_.out.other (hw.trans (Bo.out.mono hw.size)) yt.out Cg.out.k13 (by decide) (by decide) (by decide));refine aD (i:=2) (by kernel_rfl) rfl rfl ?_;go_simp;generalize ((((Wd.setCell ⟨jd,0,none⟩ (.slice oa on oc)).setCell ⟨jd,1,none⟩ (.slice pa pn pc)).setCell ⟨jd,2,none⟩ (.slice qa qn qc)).setCell ⟨jd,3,none⟩ (.slice ra rn rc))=W5 at*;have E9:gG Ac (Ac+1) Wd W5:=⟨yt.out _ (by omega),yt.out _ (by omega)⟩;first | refine⟨E9,?_⟩ | skip
      clear a0 a1 a2 a3 f0 f1 f2 f3 Cg u_;obtain⟨b0',b1,b2,b3,b4,b5,b6,_⟩:=aB yU.out.k14;simp only[Sv.v]at b4 b5 b6;have g0:=ak yU.out.k14 0;have g1:=ak yU.out.k14 1;have g2:=ak yU.out.k14 2;have g3:=ak yU.out.k14 3;have g4:=ak yU.out.k14 4;have g5:=ak yU.out.k14 5;have g6:=ak yU.out.k14 6;have zC:Hid (∀c,c≠iK→(((((((W5.setCell ⟨iK,0,none⟩ (.int .i64 z1)).setCell ⟨iK,1,none⟩ (.int .i64 z2)).setCell ⟨iK,2,none⟩ (.int .i64 z3)).setCell ⟨iK,3,none⟩ (.int .i64 z4)).setCell ⟨iK,4,none⟩ (.slice z5 z6 z7)).setCell ⟨iK,5,none⟩ (.slice z8 z9 dK)).setCell ⟨iK,6,none⟩ (.slice dU eZ dQ)).heap[c]? =W5.heap[c]?):=ah (fun c hc=>kC W5 iK c hc _ _ _ _ _ _ _);have DU:Hid (Below w.heap.size w (((((((W5.setCell ⟨iK,0,none⟩ (.int .i64 z1)).setCell ⟨iK,1,none⟩ (.int .i64 z2)).setCell ⟨iK,2,none⟩ (.int .i64 z3)).setCell ⟨iK,3,none⟩ (.int .i64 z4)).setCell ⟨iK,4,none⟩ (.slice z5 z6 z7)).setCell ⟨iK,5,none⟩ (.slice z8 z9 dK)).setCell ⟨iK,6,none⟩ (.slice dU eZ dQ))):=ah (CR Bo.out (by omega) _ _ _ _ _ _ _);have Hw:=ah (yU.out.Xe (y':=⟨z1,z2,z3,z4,⟨z5,z6,z7⟩,⟨z8,z9,dK⟩,⟨dU,eZ,dQ⟩⟩) DU.out zC.out (qy yU.out.k14 _ _ _ _ _ _ _));have R9:=ah (YP.out.other (hw.trans (DU.out.mono hw.size)) zC.out yU.out.k14 (by decide) (by decide) (by decide));refine aD (i:=3) (by kernel_rfl) rfl rfl ?_;go_simp;generalize (((((((W5.setCell ⟨iK,0,none⟩ (.int .i64 z1)).setCell ⟨iK,1,none⟩ (.int .i64 z2)).setCell ⟨iK,2,none⟩ (.int .i64 z3)).setCell ⟨iK,3,none⟩ (.int .i64 z4)).setCell ⟨iK,4,none⟩ (.slice z5 z6 z7)).setCell ⟨iK,5,none⟩ (.slice z8 z9 dK)).setCell ⟨iK,6,none⟩ (.slice dU eZ dQ))=W6 at*;refine aU (by kernel_rfl) ?_;clear b0' b1 b2 b3 b4 b5 b6 g0 g1 g2 g3 g4 g5 g6 yU YP;go_wp2;go_roundw
      case rel=>exact⟨i+1,⟨⟨oa,on,oc⟩,⟨pa,pn,pc⟩,⟨qa,qn,qc⟩,⟨ra,rn,rc⟩⟩,⟨z1,z2,z3,z4,⟨z5,z6,z7⟩,⟨z8,z9,dK⟩,⟨dU,eZ,dQ⟩⟩,_,_,by omega,by go_num,Hw.out,R9.out,by rw[Jp.out];exact aeK.out,aeL.out⟩
      case measure=>simp[intOf];omega
     ·have fO:Hid (r=(b0,oD,dY b ⟨wk,wu,wd,wi⟩)):=ah (by
       rw[OE.out,xK.out,HDR.out,pI (by rw[HT.out];simp) he]
       exact if_neg he)
      have eP:(dY b ⟨wk,wu,wd,wi⟩ != 0)=true:=by simpa using he
      clear bR lZ xK HGW;generalize dY b ⟨wk,wu,wd,wi⟩=ee at*;obtain⟨r0,r1,r2,r3,_⟩:=ay wL.out.k5;simp only[Sv.v]at r0 r1 r2 r3;obtain⟨s0,s1,s2,s3,_⟩:=ay wL.out.k10;obtain⟨m0,m1,m2,m3,m4,m5,m6,_⟩:=aB wL.out.k11;have f0:=aA wL.out.k10 0;have f1:=aA wL.out.k10 1;have f2:=aA wL.out.k10 2;have f3:=aA wL.out.k10 3;have g0:=ak wL.out.k11 0;have g1:=ak wL.out.k11 1;have g2:=ak wL.out.k11 2;have g3:=ak wL.out.k11 3;have g4:=ak wL.out.k11 4;have g5:=ak wL.out.k11 5;have g6:=ak wL.out.k11 6;go_wp2;refine bodyPost_ret (v:=.tuple #[.agg #[.slice ga gn gc,.slice ha fu hc,.slice ia eX ic,.slice ja jn jc],.agg #[.int .i64 0,.int .i64 0,.int .i64 0,.int .i64 0,.slice none 0 0,.slice none 0 0,.slice none 0 0],.int .i64 ee]) (by simp[results,Tryz.results26,go_sem, *]) rfl (show oJ _ _ _ _ _ from ?_);have zi:=CR (oW wL.out.bC (p:=w.heap.size+1) (by omega) (.slice ga gn gc) (.slice ha fu hc) (.slice ia eX ic) (.slice ja jn jc)) (p:=w.heap.size+1+1) (by omega) (.int .i64 0) (.int .i64 0) (.int .i64 0) (.int .i64 0) (.slice none 0 0) (.slice none 0 0) (.slice none 0 0);rw[fO.out];exact⟨⟨⟨ga,gn,gc⟩,⟨ha,fu,hc⟩,⟨ia,eX,ic⟩,⟨ja,jn,jc⟩⟩,ug,rfl,⟨_,aC _,Rb.old HX0.out (hw.trans (zi.mono hw.size))⟩,jl _ _,zi⟩
  ·have BZ:i=ws.length:=by omega
   have Lg:¬ (i:Int)<ws.length:=by omega
   have HE:=ah BZ;clear BZ;go_wp2;go_meet;have h1:=HGW.out;have h2:=xK.out;rw[HE.out]at h1 h2;rw[List.take_length]at h1 h2;rw[List.drop_length]at h2;exact⟨X,Y,b,l,mU.out,Cb.out,h1,h2⟩
end
end Go.Proofs.YtlfopoimbbpfdaaGreat
