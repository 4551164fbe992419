/- What the law asks, in parts: Ec Ed. -/
import Derived.Deep.DrawnRows
import Derived.Test.YtlfopoimbbpfdaaGreatPk46
import Derived.Test.YtlfopoimbbpfdaaGreatPk41
import Derived.Test.YtlfopoimbbpfdaaGreatPk33
import Derived.Test.YtlfopoimbbpfdaaGreatPk34
import Derived.Test.YtlfopoimbbpfdaaGreatPk20
set_option linter.all false
namespace Go.Proofs.YtlfopoimbbpfdaaGreat
open Go.RowKit
attribute [local go_sem ↓] Go.wp_at_zero Go.wp_at_succ
set_option maxRecDepth 100000 in
set_option maxHeartbeats 8000000 in
theorem MV (W:World) (p5 p6 p9 Qc:Nat) (ya yb y z:bZ) (b b2:Bk) (h5:Bx W p5 ya) (h6:Bx W p6 yb) (h9:Bx W p9 y) (h10:Bx W Qc z) (hya:eD W ya b) (hyb:eD W yb b) (hy:eD W y b2) (hz:eD W z b2) (hB:N8 b2) (hs:Bf b2=true) (u0 u1 u2 u3 u4 u7 u8 u12 u13 u14 u15 u16 u17 u18 u19 u20 u21 u22 u23 u24 u25 u26 u27 u28 u29 u30 u31 u32 u33 u34 u35 u36 u37 u38 u39 u40 u41 u42 u43 u44 u45 u46 u47 u48 u49 u50 u51 u52 u53 u54 u55 u56 u57 u58 u59 u60 u61 u62 u63 u64 u65 u66 u67 u68 u69 u70 u71 u72 u73 u74 u75 u76 u77 u78:Value) (RR:Act→World→Prop)
  (hRR:∀a' w',(∃v44 v45 v46 v47 v48 v49 v50 v51 v52 v53 v54 v55 v56 v57 v58 v59,(v59= .bool false∧Below W.heap.size W w')∧a'=⟨#[u0,u1,u2,u3,u4,.pointer (some ⟨p5,0,none⟩),.pointer (some ⟨p6,0,none⟩),u7,u8,.pointer (some ⟨p9,0,none⟩),.pointer (some ⟨Qc,0,none⟩),.bool true,u12,u13,u14,u15,u16,u17,u18,u19,u20,u21,u22,u23,u24,u25,u26,u27,u28,u29,u30,u31,u32,u33,u34,u35,u36,u37,u38,u39,u40,u41,u42,u43,v44,v45,v46,v47,v48,v49,v50,v51,v52,v53,v54,v55,v56,v57,v58,v59,u60,u61,u62,u63,u64,u65,u66,u67,u68,u69,u70,u71,u72,u73,u74,u75,u76,u77,u78],[]⟩)→RR a' w'):
  ∀c,Tryz.f6.body.bind (kF 11)=some c→Code.wp Tryz.prog c (Exit.then RR (fun _ _ _=>False)) ⟨#[u0,u1,u2,u3,u4,.pointer (some ⟨p5,0,none⟩),.pointer (some ⟨p6,0,none⟩),u7,u8,.pointer (some ⟨p9,0,none⟩),.pointer (some ⟨Qc,0,none⟩),.bool true,u12,u13,u14,u15,u16,u17,u18,u19,u20,u21,u22,u23,u24,u25,u26,u27,u28,u29,u30,u31,u32,u33,u34,u35,u36,u37,u38,u39,u40,u41,u42,u43,u44,u45,u46,u47,u48,u49,u50,u51,u52,u53,u54,u55,u56,u57,u58,u59,u60,u61,u62,u63,u64,u65,u66,u67,u68,u69,u70,u71,u72,u73,u74,u75,u76,u77,u78],[]⟩ W:=by
 refine pq rfl ?_
 have H5:=ah h5
 have H6:=ah h6
 have H9:=ah h9
 have H10:=ah h10
 have jU:=ah hya
 have o_:=ah hyb
 have HY:=ah hy
 have HZ:=ah hz
 have HB:=ah hB
 have HS:=ah hs
 have HRR:=ah hRR
 have l5:=h5.lt
 have l6:=h6.lt
 have l9:=h9.lt
 have l10:=h10.lt
 obtain⟨q,hq⟩:∃q,decide (b2=b)=q:=⟨_,rfl⟩
 have HQ:=ah hq
 clear h5 h6 h9 h10 hya hyb hy hz hB hs hRR hq
 refine oD 5 (fun w'=>Below W.heap.size W w') 8 (fun w'=>Below W.heap.size W w') (by kernel_rfl) ?_
 have hS0:Below W.heap.size W W.drew:=(aL _ _).drew
 refine dA (i:=0) (v:=.bool true) rfl (by kernel_rfl) (by kernel_rfl) (by kernel_rfl) (by decide) (by decide) (fun _ _ _ h=>h) (.inl ⟨rfl,fun w' _=>?_⟩) ⟨fun _=>hS0,fun _=>hS0⟩ ?_
 ·go_simp
 refine dA (i:=1) (v:=.bool false) rfl (by kernel_rfl) (by kernel_rfl) (by kernel_rfl) (by decide) (by decide) (fun _ _ _ h=>h) (.inl ⟨rfl,fun w' _=>?_⟩) ⟨fun _=>hS0,fun _=>hS0⟩ ?_
 ·go_simp
 refine dA (i:=2) (v:=.bool false) rfl (by kernel_rfl) (by kernel_rfl) (by kernel_rfl) (by decide) (by decide) (fun _ _ _ h=>h) (.inl ⟨rfl,fun w' _=>?_⟩) ⟨fun _=>hS0,fun _=>hS0⟩ ?_
 ·go_simp
 refine kY (i:=3) (v:=fT y) rfl rfl (by kernel_rfl) (by kernel_rfl) (by kernel_rfl) (by kernel_rfl) (by kernel_rfl) (by decide) (by decide) (fun _ _ _ h=>h) (.inl ⟨(by go_simp),fun w' hw=>?_⟩) ⟨fun _=>hS0,fun _=>hS0⟩ ?_
 ·obtain⟨⟨ca,cn,cc⟩,⟨fa,aX,fc⟩,⟨la,ln,lc⟩,⟨ba,b_n,bc⟩⟩:=y
  obtain⟨a0,a1,a2,a3,_⟩:=ay (aj H9.out hw l9)
  simp only[Sv.v]at a0 a1 a2 a3
  go_simp
 refine kY (i:=4) (v:=fT ya) rfl rfl (by kernel_rfl) (by kernel_rfl) (by kernel_rfl) (by kernel_rfl) (by kernel_rfl) (by decide) (by decide) (fun _ _ _ h=>h) (.inl ⟨(by go_simp),fun w' hw=>?_⟩) ⟨fun _=>hS0,fun _=>hS0⟩ ?_
 ·obtain⟨⟨ca,cn,cc⟩,⟨fa,aX,fc⟩,⟨la,ln,lc⟩,⟨ba,b_n,bc⟩⟩:=ya
  obtain⟨a0,a1,a2,a3,_⟩:=ay (aj H5.out hw l5)
  simp only[Sv.v]at a0 a1 a2 a3
  go_simp
 refine gT (i:=6) (v:=fT z) rfl rfl (by kernel_rfl) (by kernel_rfl) (by kernel_rfl) (by kernel_rfl) (by kernel_rfl) (by decide) (by decide) (fun _ _ _ h=>h) (.inl ⟨(by go_simp),fun w' hw=>?_⟩) ⟨fun _=>hS0,fun _=>hS0⟩ ?_
 ·obtain⟨⟨ca,cn,cc⟩,⟨fa,aX,fc⟩,⟨la,ln,lc⟩,⟨ba,b_n,bc⟩⟩:=z
  obtain⟨a0,a1,a2,a3,_⟩:=ay (aj H10.out hw l10)
  simp only[Sv.v]at a0 a1 a2 a3
  go_simp
 refine gT (i:=7) (v:=fT yb) rfl rfl (by kernel_rfl) (by kernel_rfl) (by kernel_rfl) (by kernel_rfl) (by kernel_rfl) (by decide) (by decide) (fun _ _ _ h=>h) (.inl ⟨(by go_simp),fun w' hw=>?_⟩) ⟨fun _=>hS0,fun _=>hS0⟩ ?_
 ·obtain⟨⟨ca,cn,cc⟩,⟨fa,aX,fc⟩,⟨la,ln,lc⟩,⟨ba,b_n,bc⟩⟩:=yb
  obtain⟨a0,a1,a2,a3,_⟩:=ay (aj H6.out hw l6)
  simp only[Sv.v]at a0 a1 a2 a3
  go_simp
 refine kW (i:=5) (by kernel_rfl) rfl (by go_simp) ?_
 go_simp
 refine(pE y ya b2 b _ (HY.out.keep hS0 (aC _)) (jU.out.keep hS0 (aC _))).mono ?_
 rw[HQ.out]
 rintro e V1 ⟨rfl,hb⟩
 have hS1:=hS0.trans (hb.mono hS0.size)
 clear hb hS0
 refine⟨⟨fun _=>hS1,fun _=>hS1⟩,?_⟩
 refine kW (i:=8) (by kernel_rfl) rfl (by go_simp) ?_
 go_simp
 refine(pF z yb b2 b _ (HZ.out.keep hS1 (aC _)) (o_.out.keep hS1 (aC _))).mono ?_
 rw[HQ.out]
 rintro e V2 ⟨rfl,hb⟩
 have hS2:=hS1.trans (hb.mono hS1.size)
 clear hb hS1 HQ
 refine⟨⟨fun _=>hS2,fun _=>hS2⟩,?_⟩
 have hne:∀U:World,(binOp .neq 4 (.bool q) (.bool q)).run Tryz.prog U= .ok (.bool false) U:=fun U=>by cases q<;>go_simp
 refine kW (i:=9) (by kernel_rfl) rfl (by go_simp) ?_
 go_simp
 refine⟨⟨fun _=>hS2,fun _=>hS2⟩,?_⟩
 refine eY (i:=10) (by kernel_rfl) rfl rfl ?_
 go_simp
 refine⟨⟨fun _=>hS2,fun _=>hS2⟩,?_⟩
 refine eY (i:=11) (by kernel_rfl) rfl rfl ?_
 go_simp
 refine⟨⟨fun _=>hS2,fun _=>hS2⟩,?_⟩
 have hc9:∃cy:Array Value,cy= #[]:=⟨_,rfl⟩
 clear hc9
 obtain⟨a0,a1,a2,a3,iN⟩:=ay (aj H9.out hS2 l9)
 clear iN
 refine kW (i:=12) (by kernel_rfl) rfl (by go_simp) ?_
 go_simp
 refine⟨⟨fun _=>hS2,fun _=>hS2⟩,?_⟩
 clear a0 a1 a2 a3
 refine kW (i:=13) (by kernel_rfl) rfl (by go_simp) ?_
 go_simp
 refine(uf y b2 _ (HY.out.keep hS2 (aC _)) HB.out).mono ?_
 rw[HS.out]
 rintro e V3 ⟨rfl,hb⟩
 have pU:=hS2.trans (hb.mono hS2.size)
 clear hb hS2
 refine⟨⟨fun _=>pU,fun _=>pU⟩,?_⟩
 refine kW (i:=14) (by kernel_rfl) rfl (by go_simp) ?_
 go_simp
 refine⟨⟨fun _=>pU,fun _=>pU⟩,?_⟩
 refine eY (i:=15) (by kernel_rfl) rfl rfl ?_
 go_simp
 refine⟨⟨fun _=>pU,fun _=>pU⟩,?_⟩
 refine mM (by kernel_rfl) ?_
 exact HRR.out _ _ ⟨_,_,_,_,_,_,_,_,_,_,_,_,_,_,_,_,⟨rfl,pU⟩,rfl⟩
set_option maxRecDepth 100000 in
set_option maxHeartbeats 8000000 in
theorem MW (W:World) (p9 Qc gk j:Nat) (hj:j<3) (key:ByteArray) (y z:bZ) (b:Bk) (h9:Bx W p9 y) (h10:Bx W Qc z) (hy:eD W y b) (hz:eD W z b) (hk:∀w',Below W.heap.size W w'→w'.cell? ⟨gk,j,none⟩=some (.string key)) (hB:Mt b key) (hU:∀l∈b.ls,∀s∈l.sl,s.up≤2199023255552∧s.down≤2199023255552) (u0 u1 u2 u3 u4 u5 u6 u8 u11 u13 u14 u15 u16 u17 u18 u19 u20 u21 u22 u23 u24 u25 u26 u27 u28 u29 u30 u31 u32 u33 u34 u35 u36 u37 u38 u39 u40 u41 u42 u43 u44 u45 u46 u47 u48 u49 u50 u51 u52 u53 u54 u55 u56 u57 u58 u59 u60 u61 u62 u63 u64 u65 u66 u67 u68 u69 u70 u71 u72 u73 u74 u75 u76 u77 u78:Value) (RR:Act→World→Prop)
  (hRR:∀a' w',(∃v64 v65 v66 v67 v68 v69 v70 v71 v72 v73 v74 v75 v76,(v76= .bool false∧Below W.heap.size W w')∧a'=⟨#[u0,u1,u2,u3,u4,u5,u6,.slice (some ⟨gk,0,none⟩) 3 3,u8,.pointer (some ⟨p9,0,none⟩),.pointer (some ⟨Qc,0,none⟩),u11,.int .i64 j,u13,u14,u15,u16,u17,u18,u19,u20,u21,u22,u23,u24,u25,u26,u27,u28,u29,u30,u31,u32,u33,u34,u35,u36,u37,u38,u39,u40,u41,u42,u43,u44,u45,u46,u47,u48,u49,u50,u51,u52,u53,u54,u55,u56,u57,u58,u59,u60,u61,u62,u63,v64,v65,v66,v67,v68,v69,v70,v71,v72,v73,v74,v75,v76,u77,u78],[]⟩)→RR a' w'):
  ∀c,Tryz.f6.body.bind (kF 16)=some c→Code.wp Tryz.prog c (Exit.then RR (fun _ _ _=>False)) ⟨#[u0,u1,u2,u3,u4,u5,u6,.slice (some ⟨gk,0,none⟩) 3 3,u8,.pointer (some ⟨p9,0,none⟩),.pointer (some ⟨Qc,0,none⟩),u11,.int .i64 j,u13,u14,u15,u16,u17,u18,u19,u20,u21,u22,u23,u24,u25,u26,u27,u28,u29,u30,u31,u32,u33,u34,u35,u36,u37,u38,u39,u40,u41,u42,u43,u44,u45,u46,u47,u48,u49,u50,u51,u52,u53,u54,u55,u56,u57,u58,u59,u60,u61,u62,u63,u64,u65,u66,u67,u68,u69,u70,u71,u72,u73,u74,u75,u76,u77,u78],[]⟩ W:=by
 refine pq rfl ?_
 have uF:(j:Int)<3:=by omega
 have H9:=ah h9
 have H10:=ah h10
 have HY:=ah hy
 have HZ:=ah hz
 have HK:=ah hk
 have HB:=ah hB
 have HU:=ah hU
 have HRR:=ah hRR
 have l9:=h9.lt
 have l10:=h10.lt
 obtain⟨t0,t1,t2,t3,t4,t5,ht⟩:=OY b key
 have HT:=ah ht
 clear h9 h10 hy hz hk hB hU hRR ht
 refine oD 5 (fun w'=>Below W.heap.size W w') 11 (fun w'=>Below W.heap.size W w') (by kernel_rfl) ?_
 have hS0:Below W.heap.size W W.drew:=(aL _ _).drew
 refine kY (i:=0) (v:=fT y) rfl rfl (by kernel_rfl) (by kernel_rfl) (by kernel_rfl) (by kernel_rfl) (by kernel_rfl) (by decide) (by decide) (fun _ _ _ h=>h) (.inl ⟨rfl,fun w' hw=>?_⟩) ⟨fun _=>hS0,fun _=>hS0⟩ ?_
 ·obtain⟨⟨ca,cn,cc⟩,⟨fa,aX,fc⟩,⟨la,ln,lc⟩,⟨ba,b_n,bc⟩⟩:=y
  obtain⟨a0,a1,a2,a3,_⟩:=ay (aj H9.out hw l9)
  simp only[Sv.v]at a0 a1 a2 a3
  go_simp
 refine dA (i:=1) (v:=.slice (some ⟨gk,0,none⟩) 3 3) rfl (by kernel_rfl) (by kernel_rfl) (by kernel_rfl) (by decide) (by decide) (fun _ _ _ h=>h) (.inl ⟨rfl,fun w' _=>?_⟩) ⟨fun _=>hS0,fun _=>hS0⟩ ?_
 ·go_simp
 refine dA (i:=2) (v:=.int .i64 j) rfl (by kernel_rfl) (by kernel_rfl) (by kernel_rfl) (by decide) (by decide) (fun _ _ _ h=>h) (.inl ⟨rfl,fun w' _=>?_⟩) ⟨fun _=>hS0,fun _=>hS0⟩ ?_
 ·go_simp
 refine dA (i:=3) (v:=.pointer (some ⟨gk,j,none⟩)) rfl (by kernel_rfl) (by kernel_rfl) (by kernel_rfl) (by decide) (by decide) (fun _ _ _ h=>h) (.inl ⟨rfl,fun w' _=>?_⟩) ⟨fun _=>hS0,fun _=>hS0⟩ ?_
 ·go_simp
 refine kY (i:=4) (v:=.string key) rfl rfl (by kernel_rfl) (by kernel_rfl) (by kernel_rfl) (by kernel_rfl) (by kernel_rfl) (by decide) (by decide) (fun _ _ _ h=>h) (.inl ⟨rfl,fun w' hw=>?_⟩) ⟨fun _=>hS0,fun _=>hS0⟩ ?_
 ·have e1:=HK.out w' hw
  go_simp
 refine gT (i:=6) (v:=fT z) rfl rfl (by kernel_rfl) (by kernel_rfl) (by kernel_rfl) (by kernel_rfl) (by kernel_rfl) (by decide) (by decide) (fun _ _ _ h=>h) (.inl ⟨rfl,fun w' hw=>?_⟩) ⟨fun _=>hS0,fun _=>hS0⟩ ?_
 ·obtain⟨⟨ca,cn,cc⟩,⟨fa,aX,fc⟩,⟨la,ln,lc⟩,⟨ba,b_n,bc⟩⟩:=z
  obtain⟨a0,a1,a2,a3,_⟩:=ay (aj H10.out hw l10)
  simp only[Sv.v]at a0 a1 a2 a3
  go_simp
 refine dA (i:=7) (v:=.slice (some ⟨gk,0,none⟩) 3 3) rfl (by kernel_rfl) (by kernel_rfl) (by kernel_rfl) (by decide) (by decide) (fun _ _ _ h=>h) (.inl ⟨rfl,fun w' _=>?_⟩) ⟨fun _=>hS0,fun _=>hS0⟩ ?_
 ·go_simp
 refine dA (i:=8) (v:=.int .i64 j) rfl (by kernel_rfl) (by kernel_rfl) (by kernel_rfl) (by decide) (by decide) (fun _ _ _ h=>h) (.inl ⟨rfl,fun w' _=>?_⟩) ⟨fun _=>hS0,fun _=>hS0⟩ ?_
 ·go_simp
 refine dA (i:=9) (v:=.pointer (some ⟨gk,j,none⟩)) rfl (by kernel_rfl) (by kernel_rfl) (by kernel_rfl) (by decide) (by decide) (fun _ _ _ h=>h) (.inl ⟨rfl,fun w' _=>?_⟩) ⟨fun _=>hS0,fun _=>hS0⟩ ?_
 ·go_simp
 refine gT (i:=10) (v:=.string key) rfl rfl (by kernel_rfl) (by kernel_rfl) (by kernel_rfl) (by kernel_rfl) (by kernel_rfl) (by decide) (by decide) (fun _ _ _ h=>h) (.inl ⟨rfl,fun w' hw=>?_⟩) ⟨fun _=>hS0,fun _=>hS0⟩ ?_
 ·have e1:=HK.out w' hw
  go_simp
 refine eY (i:=5) (by kernel_rfl) rfl rfl ?_
 go_simp
 refine(qL y b key _ (HY.out.keep hS0 (aC _)) HB.out).mono ?_
 rw[HT.out]
 rintro e V1 ⟨rfl,hb⟩
 have hS1:=hS0.trans (hb.mono hS0.size)
 clear hb hS0
 refine⟨⟨fun _=>hS1,fun _=>hS1⟩,?_⟩
 refine eY (i:=11) (by kernel_rfl) rfl rfl ?_
 go_simp
 refine(D7 z b key _ (HZ.out.keep hS1 (aC _)) HB.out HU.out).mono ?_
 rw[HT.out]
 rintro e V2 ⟨rfl,hb⟩
 have hS2:=hS1.trans (hb.mono hS1.size)
 clear hb hS1
 refine⟨⟨fun _=>hS2,fun _=>hS2⟩,?_⟩
 have hne:= Tryz.XP t0 t1 t2 t3 t4 t5
 refine eY (i:=12) (by kernel_rfl) rfl rfl ?_
 go_simp
 refine⟨⟨fun _=>hS2,fun _=>hS2⟩,?_⟩
 refine mM (by kernel_rfl) ?_
 exact HRR.out _ _ ⟨_,_,_,_,_,_,_,_,_,_,_,_,_,⟨rfl,hS2⟩,rfl⟩
end Go.Proofs.YtlfopoimbbpfdaaGreat
namespace Go.Proofs.YtlfopoimbbpfdaaGreat
open Go.RowKit
attribute [local go_sem ↓] Go.wp_at_zero Go.wp_at_succ
theorem blt {V:World} {p:Nat} {o:Obj} (h:V.heap[p]? =some o):p<V.heap.size:=(bg h).1
theorem OZ {V:World} {g:Nat} {key:ByteArray} (h:V.heap[g]? =some (.cells #[.string ⟨#[97]⟩,.string ⟨#[98]⟩,.string key] 9 (0,0))) (j:Nat) (hj:j<3):V.cell? ⟨g,j,none⟩=some (.string ([kA,kB,key].getD j kA)):=by
 have:j=0∨j=1∨j=2:=by omega
 rcases this with rfl | rfl | rfl<;>simp[World.cell?,h]
def TP (w:World) (key:ByteArray) (gk p3 p4:Nat) (wr:World):Prop:=∃ (b:Bk) (ya yb:bZ),Inv b∧Bx wr p3 ya∧Bx wr p4 yb∧eD wr ya b∧eD wr yb b∧Below w.heap.size w wr∧wr.heap[gk]? =some (.cells #[.string ⟨#[97]⟩,.string ⟨#[98]⟩,.string key] 9 (0,0))
set_option maxRecDepth 100000 in
set_option maxHeartbeats 16000000 in
theorem FR (v0:Value) (l:List ow) (key:ByteArray) (w:World) (h:vK w v0 l) (hM:∀a∈l,∃ws,JG w a ws):Calls Tryz.prog 6 #[v0,.string key] w fun e w'=>e= .returned (.bool true)∧Below w.heap.size w w':=by
 obtain⟨ao,cap,rfl,hcap,hcm⟩:=Sl.shape h
 have H:=ah h
 have HM:=ah hM
 clear h hM
 go_enter Tryz.func6,Tryz.ntmps6
 go_wp2_with fail
 refine(ug _).mono ?_
 rintro e w1 ⟨rfl,hb1⟩
 go_wp2_with fail
 refine(uj _ l w1 (cK.keep H.out hb1 (aC _)) (fun a ha=>(HM.out a ha).imp fun _ h=>h.keep hb1 (aC _))).mono ?_
 rintro e w2 ⟨q,rfl,hb2⟩
 have hbw2:=hb1.trans (hb2.mono hb1.size)
 clear hb1 hb2
 cases q with
 | false=>
  go_wp2
  go_ret
  exact⟨rfl,hbw2⟩
 | true=>
 by_cases h60:(60:Int)<key.size
 ·go_wp2
  go_ret
  exact⟨rfl,hbw2⟩
 go_wp2_with fail
 refine(nC _).mono ?_
 rintro e W3 ⟨⟨⟨ca,cn,cc⟩,⟨fa,aX,fc⟩,⟨la,ln,lc⟩,⟨ba,b_n,bc⟩⟩,rfl,DL,hb3⟩
 go_wp2_with fail
 refine(nC _).mono ?_
 rintro e W4 ⟨⟨⟨ga,gn,gc⟩,⟨ha,h_n,hc⟩,⟨ia,dz,ic⟩,⟨ja,jn,jc⟩⟩,rfl,Nj,hb4⟩
 have jR:=(hbw2.trans (hb3.mono hbw2.size)).trans (hb4.mono (hbw2.trans (hb3.mono hbw2.size)).size)
 have DL:=DL.keep hb4 (aC _)
 clear hbw2 hb3 hb4
 have hk3:=bJ W4 (.cells #[.slice ca cn cc,.slice fa aX fc,.slice la ln lc,.slice ba b_n bc] 30) (.cells #[.slice ga gn gc,.slice ha h_n hc,.slice ia dz ic,.slice ja jn jc] 30)
 have hk4:=bE W4 (.cells #[.slice ca cn cc,.slice fa aX fc,.slice la ln lc,.slice ba b_n bc] 30) (.cells #[.slice ga gn gc,.slice ha h_n hc,.slice ia dz ic,.slice ja jn jc] 30)
 have dK:Below W4.heap.size W4 ((W4.alloc (.cells #[.slice ca cn cc,.slice fa aX fc,.slice la ln lc,.slice ba b_n bc] 30)).alloc (.cells #[.slice ga gn gc,.slice ha h_n hc,.slice ia dz ic,.slice ja jn jc] 30)):=((aL _ _).alloc (aC _) _).alloc (by simp) _
 have hsz:((W4.alloc (.cells #[.slice ca cn cc,.slice fa aX fc,.slice la ln lc,.slice ba b_n bc] 30)).alloc (.cells #[.slice ga gn gc,.slice ha h_n hc,.slice ia dz ic,.slice ja jn jc] 30)).heap.size=W4.heap.size+2:=by simp
 obtain⟨W5,Bb⟩:∃W5,(W4.alloc (.cells #[.slice ca cn cc,.slice fa aX fc,.slice la ln lc,.slice ba b_n bc] 30)).alloc (.cells #[.slice ga gn gc,.slice ha h_n hc,.slice ia dz ic,.slice ja jn jc] 30)=W5:=⟨_,rfl⟩
 rw[Bb]at hk3 hk4 dK hsz
 have yN:Below W5.heap.size W5 (W5.alloc (.cells #[.string ⟨#[97]⟩,.string ⟨#[98]⟩,.string key] 9)):=(aL _ _).alloc (aC _) _
 have JF:Hid (TP w key W5.heap.size W4.heap.size (W4.heap.size+1) (W5.alloc (.cells #[.string ⟨#[97]⟩,.string ⟨#[98]⟩,.string key] 9))):=
  ah ⟨mq,⟨⟨ca,cn,cc⟩,⟨fa,aX,fc⟩,⟨la,ln,lc⟩,⟨ba,b_n,bc⟩⟩,⟨⟨ga,gn,gc⟩,⟨ha,h_n,hc⟩,⟨ia,dz,ic⟩,⟨ja,jn,jc⟩⟩,BA,aj hk3 yN (by omega),aj hk4 yN (by omega),(DL.keep dK (aC _)).keep yN (aC _),(Nj.keep dK (aC _)).keep yN (aC _),(jR.trans (dK.mono jR.size)).trans (yN.mono (jR.trans (dK.mono jR.size)).size),heap_alloc_new W5 _⟩
 have hp3:w.heap.size≤W4.heap.size:=jR.size
 have Vp:w.heap.size≤W4.heap.size+1:=by omega
 have MQ:W4.heap.size≠W4.heap.size+1:=by omega
 have hg3:W5.heap.size≠W4.heap.size:=by omega
 have hg4:W5.heap.size≠W4.heap.size+1:=by omega
 have PG:=ah Bb
 clear DL Nj hk3 hk4 dK yN jR hsz Bb
 go_upto_region 6 with fail
 rw[PG.out]
 clear PG
 go_upto_block 0 with fail
 generalize W5.alloc (.cells #[.string ⟨#[97]⟩,.string ⟨#[98]⟩,.string key] 9)=W6 at*
 generalize W4.heap.size+1=p4 at*
 generalize W4.heap.size=p3 at*
 generalize W5.heap.size=gk at*
 go_cut[] (fun wx=>Below w.heap.size w wx)
 case rest=>
  go_wp2
  go_ret
  exact⟨rfl,hcut⟩
 case first=>
 go_wp2
 go_loopw[8] (fun v8 wr=>∃k:Nat,k≤l.length∧v8= .int .i64 k∧TP w key gk p3 p4 wr) (fun v8 _=>l.length-(intOf v8).toNat)
 case atStart=>exact⟨0,Nat.zero_le _,rfl,JF.out⟩
 case round=>
  clear JF
  obtain⟨k,hk,rfl,hto⟩:=hrel
  by_cases hlt:k<l.length
  ·obtain⟨b,⟨⟨ca,cn,cc⟩,⟨fa,aX,fc⟩,⟨la,ln,lc⟩,⟨ba,b_n,bc⟩⟩,⟨⟨ga,gn,gc⟩,⟨ha,h_n,hc⟩,⟨ia,dz,ic⟩,⟨ja,jn,jc⟩⟩,hinv,h3,h4,hya,hyb,hbw,FX⟩:=hto
   have iG:(k:Int)<l.length:=by omega
   obtain⟨ws,DZ⟩:=HM.out l[k] (List.getElem_mem hlt)
   have hws:=DZ.keep hbw (aC _)
   have sP:=ah hinv
   have H3:=ah h3
   have H4:=ah h4
   have jU:=ah hya
   have o_:=ah hyb
   have dV:=ah hbw
   have JH:=ah hws
   have FT:=ah FX
   have D5:p3<wr.heap.size:=h3.lt
   have D6:p4<wr.heap.size:=h4.lt
   have XQ:gk<wr.heap.size:=(bg FX).1
   clear hinv h3 h4 hya hyb hbw hws DZ FX
   obtain⟨W,hW⟩:∃W,W=wr:=⟨_,rfl⟩
   subst hW
   go_upto_region 10 with fail
   go_cut[9,10,11] (fun v9 v10 v11 wx=>∃ (y z:bZ) (p q:Nat),v9= .pointer (some ⟨p,0,none⟩)∧v10= .pointer (some ⟨q,0,none⟩)∧v11= .bool true∧Bx wx p y∧Bx wx q z∧eD wx y (lK b l[k] ws)∧eD wx z (lK b l[k] ws)∧Below W.heap.size W wx∧W.heap.size≤p∧W.heap.size≤q)
   case first=>
    rename_i J K hJ hK
    refine wp_mono (MU W _ cap l k hlt ws p3 p4 ⟨⟨ca,cn,cc⟩,⟨fa,aX,fc⟩,⟨la,ln,lc⟩,⟨ba,b_n,bc⟩⟩ ⟨⟨ga,gn,gc⟩,⟨ha,h_n,hc⟩,⟨ia,dz,ic⟩,⟨ja,jn,jc⟩⟩ b (cK.keep H.out dV.out (aC _)) JH.out H3.out H4.out jU.out o_.out (sP.out.doB _) _ _ _ _ _ _ _ _ _ _ _ _ _ _ _ _ _ _ _ _ _ _ _ _ _ _ _ _ _ _ _ _ _ _ _ _ _ _ _ _ _ _ _ _ _ _ _ _ _ _ _ _ _ _ _ _ _ _ _ _ _ _ _ _ _ _ _ _ _ _ _ _ _ _ _ K (fun a' w' hq=>by
     obtain⟨v9,v10,v11,v34,v35,v36,v37,v38,v39,v40,v33,v41,v42,v43,hrel,ha⟩:=hq
     dsimp only at ha
     subst ha
     refine hK _ _ (Met.intro (hJ _ _ ?_))
     (repeat apply Exists.intro)
     exact⟨hrel,rfl⟩) _ rfl) ?_
    intro e a' w' hq
    cases e with
    | normal=>exact hq
    | _=>exact hq.elim
   case rest=>
   have h3x:∃X:bZ,Bx W p3 X∧eD W X b:=⟨_,H3.out,jU.out⟩
   have h4x:∃X:bZ,Bx W p4 X∧eD W X b:=⟨_,H4.out,o_.out⟩
   obtain⟨⟨⟨ca,cn,cc⟩,⟨fa,aX,fc⟩,⟨la,ln,lc⟩,⟨ba,b_n,bc⟩⟩,⟨⟨ga,gn,gc⟩,⟨ha,h_n,hc⟩,⟨ia,dz,ic⟩,⟨ja,jn,jc⟩⟩,p6,p7,rfl,rfl,rfl,h6,h7,hy,hz,hb,JA,YH⟩:=hcut
   obtain⟨X3,H3,hx3⟩:=h3x
   obtain⟨X4,H4,hx4⟩:=h4x
   have iV:=ah (sP.out.act l[k] ws)
   have qM:=ah (dV.out.trans (hb.mono dV.out.size))
   have h3:=aj H3 hb D5
   have h4:=aj H4 hb D6
   have XR:=ah (hx3.keep hb (aC _))
   have XT:=ah (hx4.keep hb (aC _))
   have FX:=aj FT.out hb XQ
   obtain⟨V,hV⟩:∃V,V=wc:=⟨_,rfl⟩
   subst hV
   clear sP dV H3 H4 jU o_ JH hb FT hx3 hx4
   generalize lK b l[k] ws=b2 at*
   have SX:p3≠p6:=by omega
   have SY:p3≠p7:=by omega
   have H6:=ah h6
   have H7:=ah h7
   have H3:=ah h3
   have H4:=ah h4
   have HY:=ah hy
   have HZ:=ah hz
   have FT:=ah FX
   clear h6 h7 h3 h4 hy hz JA YH D5 D6 FX XQ
   go_upto_region 11 with fail
   go_cut[59] (fun v59 wx=>v59= .bool false∧Below V.heap.size V wx)
   case first=>
    rename_i J K hJ hK
    refine wp_mono (MV V p3 p4 p6 p7 X3 X4 ⟨⟨ca,cn,cc⟩,⟨fa,aX,fc⟩,⟨la,ln,lc⟩,⟨ba,b_n,bc⟩⟩ ⟨⟨ga,gn,gc⟩,⟨ha,h_n,hc⟩,⟨ia,dz,ic⟩,⟨ja,jn,jc⟩⟩ b b2 H3.out H4.out H6.out H7.out XR.out XT.out HY.out HZ.out iV.out.XH iV.out.snd _ _ _ _ _ _ _ _ _ _ _ _ _ _ _ _ _ _ _ _ _ _ _ _ _ _ _ _ _ _ _ _ _ _ _ _ _ _ _ _ _ _ _ _ _ _ _ _ _ _ _ _ _ _ _ _ _ _ _ _ _ _ _ _ _ _ _ _ _ _ _ _ _ _ K (fun a' w' hq=>by
     obtain⟨v44,v45,v46,v47,v48,v49,v50,v51,v52,v53,v54,v55,v56,v57,v58,v59,hrel,ha⟩:=hq
     dsimp only at ha
     subst ha
     refine hK _ _ (Met.intro (hJ _ _ ?_))
     (repeat apply Exists.intro)
     exact⟨hrel,rfl⟩) _ rfl) ?_
    intro e a' w' hq
    cases e with
    | normal=>exact hq
    | _=>exact hq.elim
   case rest=>
   obtain⟨rfl,hb⟩:=hcut
   have h3:=aj H3.out hb (blt H3.out)
   have h4:=aj H4.out hb (blt H4.out)
   have h6:=aj H6.out hb (blt H6.out)
   have h7:=aj H7.out hb (blt H7.out)
   have hy:=HY.out.keep hb (aC _)
   have hz:=HZ.out.keep hb (aC _)
   have FX:=aj FT.out hb (bg FT.out).1
   have hbw2:=qM.out.trans (hb.mono qM.out.size)
   obtain⟨V,hV⟩:∃V,V=wc:=⟨_,rfl⟩
   subst hV
   clear XR XT H3 H4 H6 H7 HY HZ FT qM hb
   obtain⟨⟨xa,xn,xc⟩,⟨xd,xe,xf⟩,⟨xg,xh,xi⟩,⟨xj,xk,xl⟩⟩:=X3
   obtain⟨⟨za,zn,zc⟩,⟨zd,ze,zf⟩,⟨zg,zh,zi⟩,⟨zj,zk,zl⟩⟩:=X4
   have H3:=ah h3
   have H4:=ah h4
   have H6:=ah h6
   have H7:=ah h7
   have HY:=ah hy
   have HZ:=ah hz
   have FT:=ah FX
   have qM:=ah hbw2
   have HUP:Hid (∀l∈b2.ls,∀s∈l.sl,s.up≤2199023255552∧s.down≤2199023255552):=ah (fun l hl s hs=>by have:=(iV.out.ls l hl).sc s hs;omega)
   clear h3 h4 h6 h7 hy hz FX hbw2
   go_upto_block 2 with fail
   go_cut[] (fun wx=>Below V.heap.size V wx)
   case first=>
    have l6:p6<V.heap.size:=blt H6.out
    have l7:p7<V.heap.size:=blt H7.out
    have lg:gk<V.heap.size:=(bg FT.out).1
    clear H3 H4 qM
    go_wp2
    go_loopw[12] (fun v12 wq=>∃j:Nat,j≤3∧v12= .int .i64 j∧Below V.heap.size V wq) (fun v12 _=>3-(intOf v12).toNat)
    case atStart=>exact⟨0,by omega,rfl,aL _ _⟩
    case round=>
     obtain⟨j,hj,rfl,hbu⟩:=hrel
     by_cases hj3:j<3
     ·have uF:(j:Int)<3:=by omega
      obtain⟨U,hU⟩:∃U,U=wr:=⟨_,rfl⟩
      subst hU
      have rV:=ah hbu
      go_upto_region 16 with fail
      go_cut[76] (fun v76 wx=>v76= .bool false∧Below U.heap.size U wx)
      case first=>
       rename_i J K hJ hK
       refine wp_mono (MW U p6 p7 gk j hj3 ([kA,kB,key].getD j kA) ⟨⟨ca,cn,cc⟩,⟨fa,aX,fc⟩,⟨la,ln,lc⟩,⟨ba,b_n,bc⟩⟩ ⟨⟨ga,gn,gc⟩,⟨ha,h_n,hc⟩,⟨ia,dz,ic⟩,⟨ja,jn,jc⟩⟩ b2 (aj H6.out hbu l6) (aj H7.out hbu l7) (HY.out.keep hbu (aC _)) (HZ.out.keep hbu (aC _)) (fun w' hw=>OZ (aj (aj FT.out hbu lg) hw (Nat.lt_of_lt_of_le lg hbu.size)) j hj3) (iV.out.XI _) HUP.out _ _ _ _ _ _ _ _ _ _ _ _ _ _ _ _ _ _ _ _ _ _ _ _ _ _ _ _ _ _ _ _ _ _ _ _ _ _ _ _ _ _ _ _ _ _ _ _ _ _ _ _ _ _ _ _ _ _ _ _ _ _ _ _ _ _ _ _ _ _ _ _ _ _ _ K (fun a' w' hq=>by
        obtain⟨v64,v65,v66,v67,v68,v69,v70,v71,v72,v73,v74,v75,v76,hrel,ha⟩:=hq
        dsimp only at ha
        subst ha
        refine hK _ _ (Met.intro (hJ _ _ ?_))
        (repeat apply Exists.intro)
        exact⟨hrel,rfl⟩) _ rfl) ?_
       intro e a' w' hq
       cases e with
       | normal=>exact hq
       | _=>exact hq.elim
      case rest=>
      obtain⟨rfl,hb⟩:=hcut
      have O9:=ah (rV.out.trans (hb.mono rV.out.size))
      clear hb hbu rV
      go_wp2
      go_roundw
      case rel=>exact⟨j+1,by omega,by go_num,O9.out⟩
      case measure=>simp[intOf];omega
     ·have uF:¬ (j:Int)<3:=by omega
      go_wp2
      go_meet
      exact hbu
   case rest=>
   have h3:=aj H3.out hcut (blt H3.out)
   have h4:=aj H4.out hcut (blt H4.out)
   have h6:=aj H6.out hcut (blt H6.out)
   have h7:=aj H7.out hcut (blt H7.out)
   have hy:=HY.out.keep hcut (aC _)
   have hz:=HZ.out.keep hcut (aC _)
   have FX:=aj FT.out hcut (bg FT.out).1
   have hbw2:=qM.out.trans (hcut.mono qM.out.size)
   clear H3 H4 H6 H7 HY HZ FT qM hcut HUP
   obtain⟨V,hV⟩:∃V,V=wc:=⟨_,rfl⟩
   subst hV
   have H3:=ah h3
   have H4:=ah h4
   have H6:=ah h6
   have H7:=ah h7
   have HY:=ah hy
   have HZ:=ah hz
   have FT:=ah FX
   have qM:=ah hbw2
   clear h3 h4 h6 h7 hy hz FX hbw2
   go_upto_region 18 with fail
   refine aS 3 (dR p6 p7 V) (by kernel_rfl) ?_
   have hS0:dR p6 p7 V V.drew:=⟨rfl,rfl⟩
   refine aD (i:=0) (v:=fT ⟨⟨ca,cn,cc⟩,⟨fa,aX,fc⟩,⟨la,ln,lc⟩,⟨ba,b_n,bc⟩⟩) rfl rfl (by kernel_rfl) (by kernel_rfl) (by kernel_rfl) (by kernel_rfl) (by kernel_rfl) (by decide) (fun _ _ _ h=>h) (.inl ⟨rfl,fun w' hw=>?_⟩) hS0 ?_
   ·obtain⟨a0,a1,a2,a3,_⟩:=ay (hw.1.trans H6.out)
    simp only[Sv.v]at a0 a1 a2 a3
    go_simp
   refine aD (i:=1) (v:=fT ⟨⟨ga,gn,gc⟩,⟨ha,h_n,hc⟩,⟨ia,dz,ic⟩,⟨ja,jn,jc⟩⟩) rfl rfl (by kernel_rfl) (by kernel_rfl) (by kernel_rfl) (by kernel_rfl) (by kernel_rfl) (by decide) (fun _ _ _ h=>h) (.inl ⟨rfl,fun w' hw=>?_⟩) hS0 ?_
   ·obtain⟨a0,a1,a2,a3,_⟩:=ay (hw.2.trans H7.out)
    simp only[Sv.v]at a0 a1 a2 a3
    go_simp
   have q3:Bx V.drew p3 _:=H3.out
   have q4:Bx V.drew p4 _:=H4.out
   have hy:=HY.out.keep (aL V.heap.size V).drew (aC _)
   have hz:=HZ.out.keep (aL V.heap.size V).drew (aC _)
   have hbw:=qM.out.drew
   have hsz:V.heap.size=V.drew.heap.size:=rfl
   have qg:V.drew.heap[gk]? =some (.cells #[.string ⟨#[97]⟩,.string ⟨#[98]⟩,.string key] 9 (0,0)):=FT.out
   clear H3 H4 HY HZ qM FT
   generalize V.drew=V0 at*
   have HY:=ah hy
   have HZ:=ah hz
   obtain⟨b0,b1,b2',b3,iN⟩:=ay q3
   have f0:=aA q3 0
   have f1:=aA q3 1
   have f2:=aA q3 2
   have f3:=aA q3 3
   have H3:=ah q3
   have H4:=ah q4
   clear iN q3 q4 hy hz hsz
   have HG0:=ah qg
   clear qg
   simp only[Sv.v]at b0 b1 b2' b3
   have iy:Hid (∀c,c≠p3→((((V0.setCell ⟨p3,0,none⟩ (.slice ca cn cc)).setCell ⟨p3,1,none⟩ (.slice fa aX fc)).setCell ⟨p3,2,none⟩ (.slice la ln lc)).setCell ⟨p3,3,none⟩ (.slice ba b_n bc)).heap[c]? =V0.heap[c]?):=ah (fun c hc=>bF V0 p3 c (fun e=>hc e.symm) _ _ _ _ 0 1 2 3)
   have HZ3:Hid (V0.heap.size≤((((V0.setCell ⟨p3,0,none⟩ (.slice ca cn cc)).setCell ⟨p3,1,none⟩ (.slice fa aX fc)).setCell ⟨p3,2,none⟩ (.slice la ln lc)).setCell ⟨p3,3,none⟩ (.slice ba b_n bc)).heap.size):=ah (by rw[fV];exact aC _)
   have qZ:=ah (gq H3.out (.slice ca cn cc) (.slice fa aX fc) (.slice la ln lc) (.slice ba b_n bc))
   have HB3:=ah (kS hbw hp3 (.slice ca cn cc) (.slice fa aX fc) (.slice la ln lc) (.slice ba b_n bc))
   clear hbw
   refine aF (i:=2) (by kernel_rfl) rfl rfl ?_
   go_simp
   clear b0 b1 b2' b3 f0 f1 f2 f3
   generalize ((((V0.setCell ⟨p3,0,none⟩ (.slice ca cn cc)).setCell ⟨p3,1,none⟩ (.slice fa aX fc)).setCell ⟨p3,2,none⟩ (.slice la ln lc)).setCell ⟨p3,3,none⟩ (.slice ba b_n bc))=V3 at*
   have pU:dR p6 p7 V V3:=⟨(iy.out _ (fun e=>SX e.symm)).trans hS0.1,(iy.out _ (fun e=>SY e.symm)).trans hS0.2⟩
   refine⟨pU,?_⟩
   have q4:=(iy.out p4 (fun e=>MQ e.symm)).trans H4.out
   have Gl:=ah (HY.out.over iy.out HZ3.out H3.out (jZ _))
   have S9:=ah (HZ.out.over iy.out HZ3.out H3.out (jZ _))
   have lM:Hid (∀c,c≠p4→((((V3.setCell ⟨p4,0,none⟩ (.slice ga gn gc)).setCell ⟨p4,1,none⟩ (.slice ha h_n hc)).setCell ⟨p4,2,none⟩ (.slice ia dz ic)).setCell ⟨p4,3,none⟩ (.slice ja jn jc)).heap[c]? =V3.heap[c]?):=ah (fun c hc=>bF V3 p4 c (fun e=>hc e.symm) _ _ _ _ 0 1 2 3)
   have DR:Hid (V3.heap.size≤((((V3.setCell ⟨p4,0,none⟩ (.slice ga gn gc)).setCell ⟨p4,1,none⟩ (.slice ha h_n hc)).setCell ⟨p4,2,none⟩ (.slice ia dz ic)).setCell ⟨p4,3,none⟩ (.slice ja jn jc)).heap.size):=ah (by rw[fV];exact aC _)
   have BH:=ah (gq q4 (.slice ga gn gc) (.slice ha h_n hc) (.slice ia dz ic) (.slice ja jn jc))
   have jd:=ah (kS HB3.out Vp (.slice ga gn gc) (.slice ha h_n hc) (.slice ia dz ic) (.slice ja jn jc))
   have JD:=ah (Gl.out.over lM.out DR.out q4 (jZ _))
   have S_:=ah (S9.out.over lM.out DR.out q4 (jZ _))
   have HQG:=ah ((lM.out gk hg4).trans ((iy.out gk hg3).trans HG0.out))
   have Ta:=ah ((lM.out p3 MQ).trans qZ.out)
   obtain⟨b0,b1,b2',b3,iN⟩:=ay q4
   have f0:=aA q4 0
   have f1:=aA q4 1
   have f2:=aA q4 2
   have f3:=aA q4 3
   clear iN q4
   simp only[Sv.v]at b0 b1 b2' b3
   refine aF (i:=3) (by kernel_rfl) rfl rfl ?_
   go_simp
   refine aT (by kernel_rfl) ?_
   go_wp2
   go_roundw
   case rel=>exact⟨k+1,by omega,by go_num,b2,_,_,iV.out,Ta.out,BH.out,JD.out,S_.out,jd.out,HQG.out⟩
   case measure=>simp[intOf];omega
  ·obtain⟨_,_,_,_,_,_,_,_,hbw,_⟩:=hto
   have iG:¬ (k:Int)<l.length:=by omega
   go_wp2
   go_meet
   exact hbw
end Go.Proofs.YtlfopoimbbpfdaaGreat
