/- What the law asks, in parts: Bm Ab LGe. -/
import Derived.Deep.DrawnRows
import Derived.Test.YtlfopoimbbpfdaaGreatPk38
import Derived.Test.YtlfopoimbbpfdaaGreatPk28
import Derived.Test.YtlfopoimbbpfdaaGreatPk12
import Derived.Test.YtlfopoimbbpfdaaGreatPk7
set_option linter.all false
namespace Go.Proofs.YtlfopoimbbpfdaaGreat
open Go.RowKit
attribute [local go_sem ↓] Go.wp_at_zero Go.wp_at_succ
def zC (n:Int):Int:=1+n%6/5
def OP (x:ow) (ws:List Wn):List Wn:=if x.n.tmod 7=0 then ws else Bn ws
def Bw (x:ow) (l:Ls):Int:=if kD x.o=5∧0<l.ids.length∧0<x.n.tmod 3 then(l.ids.getD 0 (0,0)).1+gN x.o%((l.ids.getD 0 (0,0)).2-(l.ids.getD 0 (0,0)).1)else gN x.o
def vJ (b:Bk) (x:ow):Ls:=(iT b (x.dev%6) (zC x.n)).1
def xV (b:Bk) (x:ow):Ls×Int:=bN (vJ b x) (kD x.o) (zw x.o) (Bw x (vJ b x))
def lK (b:Bk) (x:ow) (ws:List Wn):Bk:=
 if x.kind%8≤2 then(fM b (x.dev%6) (zC x.n) (x.n%100) (OP x ws)).1
 else if x.kind%8=7 then(mg b (x.dev%6) (zC x.n)).1
 else if (xV b x).2=0 then(kR b (xV b x).1).1 else b
structure Xv (b:Bk) (x:ow):Prop where
 gr:Kw b
 rg:RI b
 bk:zN b
 fr:∀k (hk:k<b.ls.length),jF b.ls (x.dev%6) (zC x.n)=k→Gi b b.ls[k]
 rfr:(fD b (x.dev%6) (zC x.n)).2=true→xO b (fD b (x.dev%6) (zC x.n)).1
 eqF:fD b (x.dev%6) (zC x.n)=iT b (x.dev%6) (zC x.n)
 eqR:nS b (x.dev%6) (zC x.n)=mg b (x.dev%6) (zC x.n)
 ids:∀r∈(vJ b x).ids,0≤r.1∧r.1<r.2∧r.2≤1000
 sp:NS (vJ b x) (kD x.o) (Bw x (vJ b x))
 eqS:dM (vJ b x) (kD x.o) (zw x.o) (Bw x (vJ b x))=xV b x
 eqP:kC b (xV b x).1=kR b (xV b x).1
 lsb:wJ (xV b x).1
theorem mJ {w:World} {b:Nat} {a0 a1 a2 a3 a4 a5 a6 a7 a8 a9 Fu YF a12 a13 a14:Value} {t:TypeId} (h:w.heap[b]? =some (.cells #[a0,a1,a2,a3,a4,a5,a6,a7,a8,a9,Fu,YF,a12,a13,a14] t (0,0))):
  w.cell? ⟨b,0,none⟩=some a0∧w.cell? ⟨b,1,none⟩=some a1∧w.cell? ⟨b,2,none⟩=some a2∧w.cell? ⟨b,3,none⟩=some a3∧w.cell? ⟨b,4,none⟩=some a4∧w.cell? ⟨b,5,none⟩=some a5∧w.cell? ⟨b,6,none⟩=some a6∧w.cell? ⟨b,7,none⟩=some a7∧w.cell? ⟨b,8,none⟩=some a8∧w.cell? ⟨b,9,none⟩=some a9∧w.cell? ⟨b,10,none⟩=some Fu∧w.cell? ⟨b,11,none⟩=some YF∧w.cell? ⟨b,12,none⟩=some a12∧w.cell? ⟨b,13,none⟩=some a13∧w.cell? ⟨b,14,none⟩=some a14:=by
 simp[World.cell?,h]
set_option maxRecDepth 100000 in
set_option maxHeartbeats 8000000 in
theorem FD (x:ow) (ws:List Wn) (ya yb:bZ) (b:Bk) (w:World) (hM:JG w x ws) (hya:eD w ya b) (hyb:eD w yb b) (hD:Xv b x):
  Calls Tryz.prog 10 #[RN x,fT ya,fT yb] w (nD w (lK b x ws)):=by
 obtain⟨b2,hb2⟩:∃b2,b2=lK b x ws:=⟨_,rfl⟩
 rw[←hb2]
 obtain⟨⟨ca,cn,cc⟩,⟨fa,aX,fc⟩,⟨la,ln,lc⟩,⟨ba,b_n,bc⟩⟩:=ya
 obtain⟨⟨ga,gn,gc⟩,⟨ha,h_n,hc⟩,⟨ia,dz,ic⟩,⟨ja,jn,jc⟩⟩:=yb
 obtain⟨xk,xd,xn,⟨vZ,wh,wm⟩,⟨o1,o2,o3,o4,o5,kd,ky,tx,on,tm,⟨oa,dn,oc⟩⟩⟩:=x
 obtain⟨ds,hds⟩:=hM.dt
 have Yz:=ah hM.wn
 have HDS:=ah hds
 have jU:=ah hya
 have o_:=ah hyb
 have HD:=ah hD
 have HB2:=ah hb2
 have hq:Dq w (((((w.alloc (.cells #[.int .i64 xk,.int .i64 xd,.int .i64 xn,.slice vZ wh wm,.int .i64 o1,.int .i64 o2,.int .i64 o3,.int .i64 o4,.int .i64 o5,.int .i64 kd,.string ky,.string tx,.int .i64 on,.int .i64 tm,.slice oa dn oc] 40)).alloc (.cells #[.slice ca cn cc,.slice fa aX fc,.slice la ln lc,.slice ba b_n bc] 30)).alloc (.cells #[.slice ga gn gc,.slice ha h_n hc,.slice ia dz ic,.slice ja jn jc] 30)).alloc (.cells #[.slice none 0 0,.slice none 0 0,.slice none 0 0,.slice none 0 0] 30)).alloc (.cells #[.slice none 0 0,.slice none 0 0,.slice none 0 0,.slice none 0 0] 30)) ⟨xk,xd,xn,⟨vZ,wh,wm⟩,⟨o1,o2,o3,o4,o5,kd,ky,tx,on,tm,⟨oa,dn,oc⟩⟩⟩ ⟨⟨ca,cn,cc⟩,⟨fa,aX,fc⟩,⟨la,ln,lc⟩,⟨ba,b_n,bc⟩⟩ ⟨⟨ga,gn,gc⟩,⟨ha,h_n,hc⟩,⟨ia,dz,ic⟩,⟨ja,jn,jc⟩⟩:=by
  obtain⟨V3,Ja,k0,k1,k2,hb3,hz3⟩:=t_ w (.cells #[.int .i64 xk,.int .i64 xd,.int .i64 xn,.slice vZ wh wm,.int .i64 o1,.int .i64 o2,.int .i64 o3,.int .i64 o4,.int .i64 o5,.int .i64 kd,.string ky,.string tx,.int .i64 on,.int .i64 tm,.slice oa dn oc] 40) (.cells #[.slice ca cn cc,.slice fa aX fc,.slice la ln lc,.slice ba b_n bc] 30) (.cells #[.slice ga gn gc,.slice ha h_n hc,.slice ia dz ic,.slice ja jn jc] 30)
  rw[Ja]
  have hb5:Below V3.heap.size V3 ((V3.alloc (.cells #[.slice none 0 0,.slice none 0 0,.slice none 0 0,.slice none 0 0] 30)).alloc (.cells #[.slice none 0 0,.slice none 0 0,.slice none 0 0,.slice none 0 0] 30)):=((aL _ _).alloc (aC _) _).alloc (by simp) _
  refine⟨hb3.trans (hb5.mono hb3.size),aj k0 hb5 (by omega),aj k1 hb5 (by omega),aj k2 hb5 (by omega),?_,?_⟩
  ·rw[show w.heap.size+1+1+1=V3.heap.size by omega]
   exact aj (heap_alloc_new V3 _) ((aL _ _).alloc (aC _) _) (by simp)
  ·rw[show w.heap.size+1+1+1+1=V3.heap.size+1 by omega]
   exact bE _ _ _
 have n_:=ah hq
 clear hM hds hya hyb hD hb2 hq
 change Calls Tryz.prog _ #[.agg #[.int .i64 xk,.int .i64 xd,.int .i64 xn,.slice vZ wh wm,.int .i64 o1,.int .i64 o2,.int .i64 o3,.int .i64 o4,.int .i64 o5,.int .i64 kd,.string ky,.string tx,.int .i64 on,.int .i64 tm,.slice oa dn oc],.agg #[.slice ca cn cc,.slice fa aX fc,.slice la ln lc,.slice ba b_n bc],.agg #[.slice ga gn gc,.slice ha h_n hc,.slice ia dz ic,.slice ja jn jc]] w _
 go_enter Tryz.func10,Tryz.ntmps10
 go_upto_region 1 with fail
 generalize (((((w.alloc (.cells #[.int .i64 xk,.int .i64 xd,.int .i64 xn,.slice vZ wh wm,.int .i64 o1,.int .i64 o2,.int .i64 o3,.int .i64 o4,.int .i64 o5,.int .i64 kd,.string ky,.string tx,.int .i64 on,.int .i64 tm,.slice oa dn oc] 40)).alloc (.cells #[.slice ca cn cc,.slice fa aX fc,.slice la ln lc,.slice ba b_n bc] 30)).alloc (.cells #[.slice ga gn gc,.slice ha h_n hc,.slice ia dz ic,.slice ja jn jc] 30)).alloc (.cells #[.slice none 0 0,.slice none 0 0,.slice none 0 0,.slice none 0 0] 30)).alloc (.cells #[.slice none 0 0,.slice none 0 0,.slice none 0 0,.slice none 0 0] 30))=W5 at*
 go_cut[9,10] (fun v9 v10 wx=>v9= .int .i64 (xd%6)∧v10= .int .i64 (zC xn)∧Below W5.heap.size W5 wx)
 case first=>
  have BI:=ah (aL W5.heap.size W5).drew
  have hk3:W5.drew.heap[w.heap.size]? =_:=n_.out.k3
  obtain⟨e0,e1,e2,e3,e4,e5,e6,e7,e8,e9,e10,e11,e12,e13,e14⟩:=mJ hk3
  simp only[Sv.v]at e3 e14
  clear hk3 n_
  refine aS 9 (fun w'=>w'=W5.drew) (by kernel_rfl) ?_
  have hS0:W5.drew=W5.drew:=rfl
  generalize W5.drew=Wd at*
  refine aG (i:=0) (v:=.pointer (some ⟨w.heap.size,1,none⟩)) rfl (by kernel_rfl) (by kernel_rfl) (by kernel_rfl) (by decide) (fun _ _ _ h=>h) (.inl ⟨rfl,fun w' _=>?_⟩) hS0 ?_
  ·go_simp
  refine aD (i:=1) (v:=.int .i64 xd) rfl rfl (by kernel_rfl) (by kernel_rfl) (by kernel_rfl) (by kernel_rfl) (by kernel_rfl) (by decide) (fun _ _ _ h=>h) (.inl ⟨rfl,fun w' hw=>?_⟩) hS0 ?_
  ·rw[hw]
   go_simp
  refine dP (i:=2) (v:=.int .i64 (xd%6)) rfl (by kernel_rfl) (by kernel_rfl) (by kernel_rfl) (by decide) (fun _ _ _ h=>h) ⟨rfl,18,#[.int .i64 xd,.int .i64 6],fun w' _=>?_,fun w' _=>iI _ _ _ (by omega) (by omega)⟩ hS0 ?_
  ·go_simp
  refine aG (i:=3) (v:=.pointer (some ⟨w.heap.size,2,none⟩)) rfl (by kernel_rfl) (by kernel_rfl) (by kernel_rfl) (by decide) (fun _ _ _ h=>h) (.inl ⟨rfl,fun w' _=>?_⟩) hS0 ?_
  ·go_simp
  refine aD (i:=4) (v:=.int .i64 xn) rfl rfl (by kernel_rfl) (by kernel_rfl) (by kernel_rfl) (by kernel_rfl) (by kernel_rfl) (by decide) (fun _ _ _ h=>h) (.inl ⟨rfl,fun w' hw=>?_⟩) hS0 ?_
  ·rw[hw]
   go_simp
  refine dP (i:=5) (v:=.int .i64 (xn%6)) rfl (by kernel_rfl) (by kernel_rfl) (by kernel_rfl) (by decide) (fun _ _ _ h=>h) ⟨rfl,18,#[.int .i64 xn,.int .i64 6],fun w' _=>?_,fun w' _=>iI _ _ _ (by omega) (by omega)⟩ hS0 ?_
  ·go_simp
  have w0_:IntKind.i64.wrap 0=0:=by decide
  have w1_:IntKind.i64.wrap 1=1:=by decide
  have w2_:IntKind.i64.wrap 2=2:=by decide
  have hm:xn%6=0∨xn%6=1∨xn%6=2∨xn%6=3∨xn%6=4∨xn%6=5:=by omega
  rcases hm with hm | hm | hm | hm | hm | hm
  ·rw[hm]
   refine aG (i:=6) (v:=.int .i64 0) rfl (by kernel_rfl) (by kernel_rfl) (by kernel_rfl) (by decide) (fun _ _ _ h=>h) (.inl ⟨rfl,fun w' _=>?_⟩) hS0 ?_
   ·go_simp
   refine aG (i:=7) (v:=.int .i64 1) rfl (by kernel_rfl) (by kernel_rfl) (by kernel_rfl) (by decide) (fun _ _ _ h=>h) (.inl ⟨rfl,fun w' _=>?_⟩) hS0 ?_
   ·go_simp
   refine aF (i:=8) (by kernel_rfl) rfl rfl ?_
   go_simp
   first | refine⟨hS0,?_⟩ | skip
   refine aF (i:=9) (by kernel_rfl) rfl rfl ?_
   go_simp
   refine aT (by kernel_rfl) ?_
   go_wp2
   go_meet
   exact⟨rfl,by unfold zC;rw[hm];rfl,BI.out⟩
  ·rw[hm]
   refine aG (i:=6) (v:=.int .i64 0) rfl (by kernel_rfl) (by kernel_rfl) (by kernel_rfl) (by decide) (fun _ _ _ h=>h) (.inl ⟨rfl,fun w' _=>?_⟩) hS0 ?_
   ·go_simp
   refine aG (i:=7) (v:=.int .i64 1) rfl (by kernel_rfl) (by kernel_rfl) (by kernel_rfl) (by decide) (fun _ _ _ h=>h) (.inl ⟨rfl,fun w' _=>?_⟩) hS0 ?_
   ·go_simp
   refine aF (i:=8) (by kernel_rfl) rfl rfl ?_
   go_simp
   first | refine⟨hS0,?_⟩ | skip
   refine aF (i:=9) (by kernel_rfl) rfl rfl ?_
   go_simp
   refine aT (by kernel_rfl) ?_
   go_wp2
   go_meet
   exact⟨rfl,by unfold zC;rw[hm];rfl,BI.out⟩
  ·rw[hm]
   refine aG (i:=6) (v:=.int .i64 0) rfl (by kernel_rfl) (by kernel_rfl) (by kernel_rfl) (by decide) (fun _ _ _ h=>h) (.inl ⟨rfl,fun w' _=>?_⟩) hS0 ?_
   ·go_simp
   refine aG (i:=7) (v:=.int .i64 1) rfl (by kernel_rfl) (by kernel_rfl) (by kernel_rfl) (by decide) (fun _ _ _ h=>h) (.inl ⟨rfl,fun w' _=>?_⟩) hS0 ?_
   ·go_simp
   refine aF (i:=8) (by kernel_rfl) rfl rfl ?_
   go_simp
   first | refine⟨hS0,?_⟩ | skip
   refine aF (i:=9) (by kernel_rfl) rfl rfl ?_
   go_simp
   refine aT (by kernel_rfl) ?_
   go_wp2
   go_meet
   exact⟨rfl,by unfold zC;rw[hm];rfl,BI.out⟩
  ·rw[hm]
   refine aG (i:=6) (v:=.int .i64 0) rfl (by kernel_rfl) (by kernel_rfl) (by kernel_rfl) (by decide) (fun _ _ _ h=>h) (.inl ⟨rfl,fun w' _=>?_⟩) hS0 ?_
   ·go_simp
   refine aG (i:=7) (v:=.int .i64 1) rfl (by kernel_rfl) (by kernel_rfl) (by kernel_rfl) (by decide) (fun _ _ _ h=>h) (.inl ⟨rfl,fun w' _=>?_⟩) hS0 ?_
   ·go_simp
   refine aF (i:=8) (by kernel_rfl) rfl rfl ?_
   go_simp
   first | refine⟨hS0,?_⟩ | skip
   refine aF (i:=9) (by kernel_rfl) rfl rfl ?_
   go_simp
   refine aT (by kernel_rfl) ?_
   go_wp2
   go_meet
   exact⟨rfl,by unfold zC;rw[hm];rfl,BI.out⟩
  ·rw[hm]
   refine aG (i:=6) (v:=.int .i64 0) rfl (by kernel_rfl) (by kernel_rfl) (by kernel_rfl) (by decide) (fun _ _ _ h=>h) (.inl ⟨rfl,fun w' _=>?_⟩) hS0 ?_
   ·go_simp
   refine aG (i:=7) (v:=.int .i64 1) rfl (by kernel_rfl) (by kernel_rfl) (by kernel_rfl) (by decide) (fun _ _ _ h=>h) (.inl ⟨rfl,fun w' _=>?_⟩) hS0 ?_
   ·go_simp
   refine aF (i:=8) (by kernel_rfl) rfl rfl ?_
   go_simp
   first | refine⟨hS0,?_⟩ | skip
   refine aF (i:=9) (by kernel_rfl) rfl rfl ?_
   go_simp
   refine aT (by kernel_rfl) ?_
   go_wp2
   go_meet
   exact⟨rfl,by unfold zC;rw[hm];rfl,BI.out⟩
  ·rw[hm]
   refine aG (i:=6) (v:=.int .i64 1) rfl (by kernel_rfl) (by kernel_rfl) (by kernel_rfl) (by decide) (fun _ _ _ h=>h) (.inl ⟨rfl,fun w' _=>?_⟩) hS0 ?_
   ·go_simp
   refine aG (i:=7) (v:=.int .i64 2) rfl (by kernel_rfl) (by kernel_rfl) (by kernel_rfl) (by decide) (fun _ _ _ h=>h) (.inl ⟨rfl,fun w' _=>?_⟩) hS0 ?_
   ·go_simp
   refine aF (i:=8) (by kernel_rfl) rfl rfl ?_
   go_simp
   first | refine⟨hS0,?_⟩ | skip
   refine aF (i:=9) (by kernel_rfl) rfl rfl ?_
   go_simp
   refine aT (by kernel_rfl) ?_
   go_wp2
   go_meet
   exact⟨rfl,by unfold zC;rw[hm];rfl,BI.out⟩
 case rest=>
 obtain⟨rfl,rfl,hb6⟩:=hcut
 obtain⟨W6,UM⟩:∃W6,W6=wc:=⟨_,rfl⟩
 subst UM
 have Pp:=ah (n_.out.keep hb6)
 clear n_ hb6
 obtain⟨e0,e1,e2,e3,e4,e5,e6,e7,e8,e9,e10,e11,e12,e13,e14⟩:=mJ Pp.out.k3
 simp only[Sv.v]at e3 e14
 go_wp2_with fail
 refine(Je (.slice vZ wh wm) ws W6 (cK.keep Yz.out Pp.out.aZ (aC _))).mono ?_
 rintro en W7 ⟨v,rfl,hv,BL⟩
 obtain⟨va,vc,rfl,_,_⟩:=Sl.shape hv
 have HV7:=ah hv
 have SG:=ah (Pp.out.keep BL)
 clear e0 e1 e2 e3 e4 e5 e6 e7 e8 e9 e10 e11 e12 e13 e14 hv BL Pp
 obtain⟨e0,e1,e2,e3,e4,e5,e6,e7,e8,e9,e10,e11,e12,e13,e14⟩:=mJ SG.out.k3
 simp only[Sv.v]at e3 e14
 go_upto_if 47 with fail
 go_cut[11] (fun v11 wx=>wx=W7∧ ∃ (ua:Option Addr) (un uc:Nat),v11= .slice ua un uc∧oH W7 (.slice ua un uc) (OP ⟨xk,xd,xn,⟨vZ,wh,wm⟩,⟨o1,o2,o3,o4,o5,kd,ky,tx,on,tm,⟨oa,dn,oc⟩⟩⟩ ws))
 case first=>
  by_cases h7:xn.tmod 7=0
  ·have h7':(xn.tmod 7==0)=true:=by simpa using h7
   go_wp2
   go_meet
   exact⟨rfl,_,_,_,rfl,by unfold OP;rw[if_pos h7];exact cK.keep Yz.out SG.out.aZ (aC _)⟩
  ·have h7':(xn.tmod 7==0)=false:=by simpa using h7
   go_wp2
   go_meet
   exact⟨rfl,_,_,_,rfl,by unfold OP;rw[if_neg h7];exact HV7.out⟩
 case rest=>
 obtain⟨hwc,ua,un,uc,rfl,hu⟩:=hcut
 rw[hwc]
 clear hwc HV7
 have HU:=ah hu
 clear hu
 go_upto_region 5 with fail
 go_cut[12] (fun v12 wx=>∃ (nR:Nat) (o:pO),v12= .pointer (some ⟨nR,0,none⟩)∧wx.heap[nR]? =some (.cells #[.int .i64 o.dev,.int .i64 o.epoch,.int .i64 o.seq,.int .i64 o.coll,.int .i64 o.ver,.int .i64 o.kind,.string o.key,.string o.text,.int .i64 o.n,.int .i64 o.time,o.dots.v] 38 (0,0))∧o.kind=kD ⟨o1,o2,o3,o4,o5,kd,ky,tx,on,tm,⟨oa,dn,oc⟩⟩∧o.key=zw ⟨o1,o2,o3,o4,o5,kd,ky,tx,on,tm,⟨oa,dn,oc⟩⟩∧o.n=gN ⟨o1,o2,o3,o4,o5,kd,ky,tx,on,tm,⟨oa,dn,oc⟩⟩∧Below W7.heap.size W7 wx∧W7.heap.size≤nR)
 case first=>
  go_wp2_with fail
  refine(LW ⟨o1,o2,o3,o4,o5,kd,ky,tx,on,tm,⟨oa,dn,oc⟩⟩ ds W7 (cK.keep HDS.out SG.out.aZ (aC _))).mono ?_
  rintro en W8 ⟨⟨u1,u2,u3,u4,u5,ud,uy,ux,um,ut,⟨ga_,gn_,gc_⟩⟩,rfl,nE,h1,h2,h3⟩
  have H1:=ah h1
  have H2:=ah h2
  have H3:=ah h3
  clear h1 h2 h3
  clear e0 e1 e2 e3 e4 e5 e6 e7 e8 e9 e10 e11 e12 e13 e14
  go_wp2
  go_meet
  have hal:=(aL W8.heap.size W8).alloc (aC _) (.cells #[.int .i64 u1,.int .i64 u2,.int .i64 u3,.int .i64 u4,.int .i64 u5,.int .i64 ud,.string uy,.string ux,.int .i64 um,.int .i64 ut,.slice ga_ gn_ gc_] 38)
  exact⟨W8.heap.size,⟨u1,u2,u3,u4,u5,ud,uy,ux,um,ut,⟨ga_,gn_,gc_⟩⟩,rfl,heap_alloc_new W8 _,H1.out,H2.out,H3.out,nE.trans (hal.mono nE.size),nE.size⟩
 case rest=>
 obtain⟨nR,o,rfl,ho,hk1,hk2,hk3,nE,FC⟩:=hcut
 have NV:=(bg SG.out.k7).1
 have hd:=HD.out
 have h2:=HB2.out
 unfold lK at h2
 simp only at h2
 go_step
 by_cases hg:xk%8≤2
 ·rw[if_pos hg]at h2
  exact Mq w _ ⟨xk,xd,xn,⟨vZ,wh,wm⟩,⟨o1,o2,o3,o4,o5,kd,ky,tx,on,tm,⟨oa,dn,oc⟩⟩⟩ ⟨⟨ca,cn,cc⟩,⟨fa,aX,fc⟩,⟨la,ln,lc⟩,⟨ba,b_n,bc⟩⟩ ⟨⟨ga,gn,gc⟩,⟨ha,h_n,hc⟩,⟨ia,dz,ic⟩,⟨ja,jn,jc⟩⟩ b (xd%6) (zC xn) ua un uc _ (SG.out.keep nE) jU.out o_.out (cK.keep HU.out nE (aC _)) hd.gr hd.rg hg b2 h2 _ _ _ _ _ _ _ _ _ _ _ _ _ _ _ _ _ _ _ _ _ _ _ _ _ _ _ _ _ _ _ _ _ _ _ _ _ _ _ _ _ _ _ _ _ _ _ _ _ _ _ _ _ _ _ _ _ _ _ _ _ _ _ _ _ _ _ _ _ _ _ _ _ _ _ _ _ _ _ _ _ _ _ _ _ _ _ _ _ _ _ _ _ _ _ _ _ _ _ _ _ _ _ _ _ _ _ _ _ _ _ _ _ _ _ _ _ _ _ _ _ _ _ _ _ _ _ _ _ _ _ _ _ _ _ _ _ _ _ _ _ _ _ _ _ _ _ _ _ _ _ _ _ _ _ _ _ _ _ _ _ _ _ _ _ _ _ _ _ _ _ _ _ _ _ _ _ _ _ _ _ _ _ _ _ _ _ _ _ _ _ _ _ _ _ _ _ _ _ _ _ _ _ _ _ _ _ _ _ _ _ _ _ _ _ _ _ _ _ _ _ _ _ _ _ _ _ _ _ _ _ _ rfl
 ·rw[if_neg hg]at h2
  by_cases hf:xk%8=7
  ·rw[if_pos hf]at h2
   exact OM w _ ⟨xk,xd,xn,⟨vZ,wh,wm⟩,⟨o1,o2,o3,o4,o5,kd,ky,tx,on,tm,⟨oa,dn,oc⟩⟩⟩ ⟨⟨ca,cn,cc⟩,⟨fa,aX,fc⟩,⟨la,ln,lc⟩,⟨ba,b_n,bc⟩⟩ ⟨⟨ga,gn,gc⟩,⟨ha,h_n,hc⟩,⟨ia,dz,ic⟩,⟨ja,jn,jc⟩⟩ b (xd%6) (zC xn) ua un uc (SG.out.keep nE) jU.out o_.out hd.bk hd.fr hd.rfr hd.eqR hf b2 h2 _ _ _ _ _ _ _ _ _ _ _ _ _ _ _ _ _ _ _ _ _ _ _ _ _ _ _ _ _ _ _ _ _ _ _ _ _ _ _ _ _ _ _ _ _ _ _ _ _ _ _ _ _ _ _ _ _ _ _ _ _ _ _ _ _ _ _ _ _ _ _ _ _ _ _ _ _ _ _ _ _ _ _ _ _ _ _ _ _ _ _ _ _ _ _ _ _ _ _ _ _ _ _ _ _ _ _ _ _ _ _ _ _ _ _ _ _ _ _ _ _ _ _ _ _ _ _ _ _ _ _ _ _ _ _ _ _ _ _ _ _ _ _ _ _ _ _ _ _ _ _ _ _ _ _ _ _ _ _ _ _ _ _ _ _ _ _ _ _ _ _ _ _ _ _ _ _ _ _ _ _ _ _ _ _ _ _ _ _ _ _ _ _ _ _ _ _ _ _ _ _ _ _ _ _ _ _ _ _ _ _ _ _ _ _ _ _ _ _ _ _ _ _ _ _ _ _ _ _ _ _ _ rfl
  ·rw[if_neg hf]at h2
   have hx0:=Int.emod_nonneg xk (show (8:Int)≠0 by omega)
   have hx1:=Int.emod_lt_of_pos xk (show (0:Int)<8 by omega)
   refine OO w _ ⟨xk,xd,xn,⟨vZ,wh,wm⟩,⟨o1,o2,o3,o4,o5,kd,ky,tx,on,tm,⟨oa,dn,oc⟩⟩⟩ ⟨⟨ca,cn,cc⟩,⟨fa,aX,fc⟩,⟨la,ln,lc⟩,⟨ba,b_n,bc⟩⟩ ⟨⟨ga,gn,gc⟩,⟨ha,h_n,hc⟩,⟨ia,dz,ic⟩,⟨ja,jn,jc⟩⟩ b (vJ b ⟨xk,xd,xn,⟨vZ,wh,wm⟩,⟨o1,o2,o3,o4,o5,kd,ky,tx,on,tm,⟨oa,dn,oc⟩⟩⟩) (iT b (xd%6) (zC xn)).2 (xd%6) (zC xn) o nR (SG.out.keep nE) jU.out o_.out ho (by omega) rfl hd.eqF hd.ids (Bw ⟨xk,xd,xn,⟨vZ,wh,wm⟩,⟨o1,o2,o3,o4,o5,kd,ky,tx,on,tm,⟨oa,dn,oc⟩⟩⟩ (vJ b ⟨xk,xd,xn,⟨vZ,wh,wm⟩,⟨o1,o2,o3,o4,o5,kd,ky,tx,on,tm,⟨oa,dn,oc⟩⟩⟩)) ?_ hd.bk (by rw[hk1];exact hd.sp) ?_ ?_ ?_ b2 ?_ ⟨show 3≤xk%8 by omega,show xk%8≤6 by omega⟩ _ _ _ _ _ _ _ _ _ _ _ _ _ _ _ _ _ _ _ _ _ _ _ _ _ _ _ _ _ _ _ _ _ _ _ _ _ _ _ _ _ _ _ _ _ _ _ _ _ _ _ _ _ _ _ _ _ _ _ _ _ _ _ _ _ _ _ _ _ _ _ _ _ _ _ _ _ _ _ _ _ _ _ _ _ _ _ _ _ _ _ _ _ _ _ _ _ _ _ _ _ _ _ _ _ _ _ _ _ _ _ _ _ _ _ _ _ _ _ _ _ _ _ _ _ _ _ _ _ _ _ _ _ _ _ _ _ _ _ _ _ _ _ _ _ _ _ _ _ _ _ _ _ _ _ _ _ _ _ _ _ _ _ _ _ _ _ _ _ _ _ _ _ _ _ _ _ _ _ _ _ _ _ _ _ _ _ _ _ _ _ _ _ _ _ _ _ _ _ _ _ _ _ _ _ _ _ _ _ _ _ _ _ _ _ _ _ _ _ _ _ _ _ _ _ _ _ _ _ _ _ _ rfl
   ·rw[hk1,hk3];rfl
   ·rw[hk1,hk2];exact hd.eqS
   ·rw[hk1,hk2];exact hd.eqP
   ·rw[hk1,hk2];exact hd.lsb
   ·rw[hk1,hk2];exact h2
end Go.Proofs.YtlfopoimbbpfdaaGreat
namespace Go.Proofs.YtlfopoimbbpfdaaGreat
open Go.RowKit
abbrev vK (w:World) (v:Value) (l:List ow):Prop:=cK OA 15 w v l
theorem cK.ac {w wr:World} {l:List ow} {ao:Option Addr} {cap B:Nat} (h:vK w (.slice ao l.length cap) l) (hb:Below B w wr) (hB:w.heap.size≤B) (k:Nat) (hk:k<l.length):
  ∃b off,ao=some ⟨b,off,none⟩∧b<w.heap.size∧ ∀j u,(OA l[k])[j]? =some u→wr.cell? ⟨b,off+k*15+j,none⟩=some u:=
 cK.at h Bo (by omega) hb hB k hk
set_option maxRecDepth 100000 in
set_option maxHeartbeats 4000000 in
theorem uj (v:Value) (l:List ow) (w:World) (h:vK w v l) (hM:∀a∈l,∃ws,JG w a ws):
  Calls Tryz.prog 8 #[v] w (RO w):=by
 obtain⟨ao,cap,rfl,hcap,hcm⟩:=Sl.shape h
 have hlen:l.length≤9223372036854775807:=Nat.le_trans hcap hcm
 have H:=ah h
 have HM:=ah hM
 clear h hM
 go_enter Tryz.func8,Tryz.ntmps8
 go_upto_block 0 with fail
 go_cut[] (fun wx=>Below w.heap.size w wx)
 case rest=>
  go_wp2
  go_ret
  exact⟨_,rfl,hcut⟩
 case first=>
 go_wp2
 go_loopw[3] (fun v3 wr=>∃k:Nat,k≤l.length∧v3= .int .i64 k∧Below w.heap.size w wr) (fun v3 _=>l.length-(intOf v3).toNat)
 case atStart=>exact⟨0,Nat.zero_le _,rfl,aL _ _⟩
 case round=>
  obtain⟨k,hk,rfl,hb⟩:=hrel
  by_cases hlt:k<l.length
  ·have iG:(k:Int)<l.length:=by omega
   have k0:(0:Int)≤(k:Int):=by omega
   obtain⟨ab,lT,rfl,hab,hc⟩:=cK.ac H.out hb (aC _) k hlt
   obtain⟨ws,hws,ds,hds⟩:=HM.out l[k] (List.getElem_mem hlt)
   have HC:Hid (∀V,Below w.heap.size w V→ ∀j u,(OA l[k])[j]? =some u→V.cell? ⟨ab,lT+k*15+j,none⟩=some u):=ah (fun V hV j u hj=>by
    obtain⟨ab',Mr,he,_,hc'⟩:=cK.ac H.out hV (aC _) k hlt
    injection he with he
    injection he with e1 e2 _
    subst e1 e2
    exact hc' j u hj)
   clear hc
   obtain⟨x,hx⟩:∃x,l[k]=x:=⟨_,rfl⟩
   rw[hx]at hws hds HC
   clear hx
   obtain⟨a1,a2,a3,⟨wa,wn,wc⟩,⟨o1,o2,o3,o4,o5,kind,key,text,n,time,⟨oa,on,oc⟩⟩⟩:=x
   obtain⟨q3,q4,q5⟩:=Sl.lens (s:=⟨wa,wn,wc⟩) hws
   obtain⟨r3,r4,r5⟩:=Sl.lens (s:=⟨oa,on,oc⟩) hds
   simp only at q3 q4 q5 r3 r4 r5 hws hds
   subst q3 r3
   have HW:=ah hws
   clear hws hds
   have hb0:=hb
   have HB:=ah hb
   clear hb
   have hc:=HC.out wr hb0
   have c3:=hc 3 _ rfl
   have c4:=hc 4 _ rfl
   have c5:=hc 5 _ rfl
   have c6:=hc 6 _ rfl
   have c7:=hc 7 _ rfl
   have c8:=hc 8 _ rfl
   have c9:=hc 9 _ rfl
   have c10:=hc 10 _ rfl
   have c11:=hc 11 _ rfl
   have c12:=hc 12 _ rfl
   have c13:=hc 13 _ rfl
   have c14:=hc 14 _ rfl
   simp only[Sv.v]at c3 c14
   clear hc hb0
   have hon:ds.length≤9223372036854775807:=by omega
   go_upto_region 4 with fail
   go_cut[26] (fun v26 wx=>∃q:Bool,v26= .bool q∧Below w.heap.size w wx)
   case first=>
    go_wp2_with ((go_at_call 21;refine(LJ ⟨o1,o2,o3,o4,o5,kind,key,text,n,time,⟨oa,ds.length,oc⟩⟩ wr hon).mono ?_);rintro e w9 ⟨q,rfl,lN⟩)
    all_goals go_meet
    ·exact⟨_,rfl,HB.out.trans (lN.mono HB.out.size)⟩
    ·exact⟨_,rfl,HB.out⟩
   case rest=>
   obtain⟨q,rfl,hbc⟩:=hcut
   have IE:=ah hbc
   clear c3 c4 c5 c6 c7 c8 c9 c10 c11 c12 c13 c14 hbc
   cases q with
   | true=>
    go_wp2
    go_ret
    exact⟨_,rfl,IE.out⟩
   | false=>
    go_wp2
    have c3:=HC.out wc IE.out 3 _ rfl
    simp only[Sv.v]at c3
    go_loop[4] (fun v4=>∃j:Nat,j≤ws.length∧v4= .int .i64 j) (fun v4=>ws.length-(intOf v4).toNat)
    case atStart=>exact⟨0,Nat.zero_le _,rfl⟩
    case round=>
     obtain⟨j,hj,rfl⟩:=hrel
     have j0:(0:Int)≤(j:Int):=by omega
     by_cases hjl:j<ws.length
     ·have uF:(j:Int)<ws.length:=by omega
      obtain⟨wb,wo,rfl,hwb,w0,-⟩:=cK.wn HW.out IE.out (aC _) j hjl
      go_wp2
      ·go_ret
       exact⟨_,rfl,IE.out⟩
      ·go_round
       case rel=>exact⟨j+1,by omega,by go_num⟩
       case measure=>simp[intOf];omega
     ·have uF:¬ (j:Int)<ws.length:=by omega
      go_wp2
      go_roundw
      case rel=>exact⟨k+1,by omega,by go_num,IE.out⟩
      case measure=>simp[intOf];omega
  ·have iG:¬ (k:Int)<l.length:=by omega
   go_wp2
   go_meet
   exact hb
end Go.Proofs.YtlfopoimbbpfdaaGreat
namespace Go.Proofs.YtlfopoimbbpfdaaGreat
open Go.RowKit
set_option maxHeartbeats 1000000 in
theorem FE (s:Sc) (w:World) (h1: -9223372036854775808≤s.up-s.uu∧s.up-s.uu≤9223372036854775807) (h2: -9223372036854775808≤s.down-s.ud∧s.down-s.ud≤9223372036854775807):
  Calls Tryz.prog 37 #[Qi s] w fun e w'=>e= .returned (.agg #[.int .i64 (s.up-s.uu),.int .i64 (s.down-s.ud)])∧Below w.heap.size w w':=by
 obtain⟨s1,s2,s3,s4,s5⟩:=s
 obtain⟨a1,a2⟩:=h1
 obtain⟨b1,b2⟩:=h2
 simp only at a1 a2 b1 b2
 go_enter Tryz.func37,Tryz.ntmps37
 go_wp2
 refine bodyPost_ret (v:=.agg #[.int .i64 (s2-s4),.int .i64 (s3-s5)]) (by simp[results,Tryz.results37,go_sem, *]) rfl ⟨rfl,((aL _ _).alloc (aC _) _).alloc (by simp) _⟩
end Go.Proofs.YtlfopoimbbpfdaaGreat
