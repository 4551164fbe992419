/- What the law asks, in parts: Fc. -/
import Derived.Deep.DrawnRows
import Derived.Test.YtlfopoimbbpfdaaGreatPk49
import Derived.Test.YtlfopoimbbpfdaaGreatPk41
import Derived.Test.YtlfopoimbbpfdaaGreatPk20
import Derived.Test.YtlfopoimbbpfdaaGreatPk33
set_option linter.all false
namespace Go.Proofs.YtlfopoimbbpfdaaGreat
open Go.RowKit
attribute [local go_sem ↓] Go.wp_at_zero Go.wp_at_succ
def TS (w:World) (p5:Nat) (wr:World):Prop:=∃ (b:Bk) (ya:bZ),Inv b∧Bx wr p5 ya∧eD wr ya b∧Below w.heap.size w wr
theorem FU (x y:bZ) (b:Bk) (w:World) (h:eD w x b) (h':eD w y b):
  Calls Tryz.prog 16 #[fT x,fT y] w fun e w'=>e= .returned (.bool true)∧Below w.heap.size w w':=
 (pE x y b b w h h').mono fun e w' ⟨h1,h2⟩=>⟨by rw[h1];simp,h2⟩
theorem O3 (u:Int):IntKind.i64.wrap (u+1)≠u:=by
 unfold IntKind.wrap
 simp[IntKind.signed,IntKind.bits]
 omega
set_option maxRecDepth 100000 in
set_option maxHeartbeats 16000000 in
theorem FV (v0:Value) (l:List ow) (n1:Int) (w:World) (h:vK w v0 l) (hM:∀a∈l,∃ws,JG w a ws):Calls Tryz.prog 5 #[v0,.int .i64 n1] w fun e w'=>e= .returned (.bool true)∧Below w.heap.size w w':=by
 obtain⟨ao,cap,rfl,hcap,hcm⟩:=Sl.shape h
 have H:=ah h
 have HM:=ah hM
 clear h hM
 go_enter Tryz.func5,Tryz.ntmps5
 go_wp2_with fail
 refine(ug _).mono ?_
 rintro e w1 ⟨rfl,hb1⟩
 go_wp2_with fail
 refine(uj _ l w1 (cK.keep H.out hb1 (aC _)) (fun a ha=>(HM.out a ha).imp fun _ h=>h.keep hb1 (aC _))).mono ?_
 rintro e w2 ⟨q,rfl,hb2⟩
 have hbw2:=hb1.trans (hb2.mono hb1.size)
 clear hb1 hb2
 cases q with
 | false=>
  go_wp2
  go_ret
  exact⟨rfl,hbw2⟩
 | true=>
 go_wp2_with fail
 refine(nC _).mono ?_
 rintro e W4 ⟨⟨⟨ca,cn,cc⟩,⟨fa,aX,fc⟩,⟨la,ln,lc⟩,⟨ba,b_n,bc⟩⟩,rfl,DL,hb3⟩
 have jR:=hbw2.trans (hb3.mono hbw2.size)
 clear hbw2 hb3
 have hk3:=heap_alloc_new W4 (.cells #[.slice ca cn cc,.slice fa aX fc,.slice la ln lc,.slice ba b_n bc] 30)
 have dK:Below W4.heap.size W4 (W4.alloc (.cells #[.slice ca cn cc,.slice fa aX fc,.slice la ln lc,.slice ba b_n bc] 30)):=(aL _ _).alloc (aC _) _
 have JF:Hid (TS w W4.heap.size (W4.alloc (.cells #[.slice ca cn cc,.slice fa aX fc,.slice la ln lc,.slice ba b_n bc] 30))):=ah ⟨mq,⟨⟨ca,cn,cc⟩,⟨fa,aX,fc⟩,⟨la,ln,lc⟩,⟨ba,b_n,bc⟩⟩,BA,hk3,DL.keep dK (aC _),jR.trans (dK.mono jR.size)⟩
 have T9:w.heap.size≤W4.heap.size:=jR.size
 clear DL hk3 dK jR
 go_upto_block 0 with fail
 generalize W4.alloc (.cells #[.slice ca cn cc,.slice fa aX fc,.slice la ln lc,.slice ba b_n bc] 30)=W5 at*
 generalize W4.heap.size=p5 at*
 go_cut[] (fun wx=>TS w p5 wx)
 case first=>
  go_wp2
  go_loopw[6] (fun vi wr=>∃k:Nat,k≤l.length∧vi= .int .i64 k∧TS w p5 wr) (fun vi _=>l.length-(intOf vi).toNat)
  case atStart=>exact⟨0,Nat.zero_le _,rfl,JF.out⟩
  case round=>
   clear JF
   obtain⟨k,hk,rfl,hto⟩:=hrel
   by_cases hlt:k<l.length
   ·obtain⟨b,⟨⟨ca,cn,cc⟩,⟨fa,aX,fc⟩,⟨la,ln,lc⟩,⟨ba,b_n,bc⟩⟩,hinv,h5,hya,hbw⟩:=hto
    have iG:(k:Int)<l.length:=by omega
    obtain⟨ws,DZ⟩:=HM.out l[k] (List.getElem_mem hlt)
    have hws:=DZ.keep hbw (aC _)
    have sP:=ah hinv
    have H5:=ah h5
    have jU:=ah hya
    have dV:=ah hbw
    have JH:=ah hws
    have Ju:p5<wr.heap.size:=h5.lt
    clear hinv h5 hya hbw hws DZ
    obtain⟨W,hW⟩:∃W,W=wr:=⟨_,rfl⟩
    subst hW
    go_upto_region 9 with fail
    go_cut[7,8,9] (fun v7 v8 v9 wx=>∃ (y z:bZ) (p q:Nat),v7= .pointer (some ⟨p,0,none⟩)∧v8= .pointer (some ⟨q,0,none⟩)∧v9= .bool true∧Bx wx p y∧Bx wx q z∧eD wx y (lK b l[k] ws)∧eD wx z (lK b l[k] ws)∧Below W.heap.size W wx∧W.heap.size≤p∧W.heap.size≤q)
    case first=>
     rename_i J K hJ hK
     refine wp_mono (O1 W _ cap l k hlt ws p5 p5 ⟨⟨ca,cn,cc⟩,⟨fa,aX,fc⟩,⟨la,ln,lc⟩,⟨ba,b_n,bc⟩⟩ ⟨⟨ca,cn,cc⟩,⟨fa,aX,fc⟩,⟨la,ln,lc⟩,⟨ba,b_n,bc⟩⟩ b (cK.keep H.out dV.out (aC _)) JH.out H5.out H5.out jU.out jU.out (sP.out.doB _) _ _ _ _ _ _ _ _ _ _ _ _ _ _ _ _ _ _ _ _ _ _ _ _ _ _ _ _ _ _ _ _ _ _ _ _ _ _ _ _ _ _ _ _ _ _ _ _ _ _ _ _ _ _ _ _ _ _ _ _ _ _ _ _ _ _ _ _ _ _ _ _ _ _ _ _ _ _ _ _ _ _ _ _ _ _ _ _ _ _ _ _ _ _ _ _ _ _ _ _ _ _ _ _ _ _ _ _ _ _ _ K (fun a' w' hq=>by
      obtain⟨v7,v8,v9,v24,v25,v26,v27,v28,v29,v30,v23,v31,v32,v33,hrel,ha⟩:=hq
      dsimp only at ha
      subst ha
      refine hK _ _ (Met.intro (hJ _ _ ?_))
      (repeat apply Exists.intro)
      exact⟨hrel,rfl⟩) _ rfl) ?_
     intro e a' w' hq
     cases e with
     | normal=>exact hq
     | _=>exact hq.elim
    case rest=>
    have h5x:∃X:bZ,Bx W p5 X:=⟨_,H5.out⟩
    obtain⟨y6,⟨⟨ga,gn,gc⟩,⟨ha,h_n,hc⟩,⟨ia,dz,ic⟩,⟨ja,jn,jc⟩⟩,p6,p7,rfl,rfl,rfl,h6,h7,hy,hz,hb,JA,YH⟩:=hcut
    obtain⟨X5,H5⟩:=h5x
    have iV:=ah (sP.out.act l[k] ws)
    have hbw2:=dV.out.trans (hb.mono dV.out.size)
    have h5:=aj H5 hb Ju
    obtain⟨V,hV⟩:∃V,V=wc:=⟨_,rfl⟩
    subst hV
    clear sP dV H5 jU JH hb h6 hy
    obtain⟨⟨xa,xn,xc⟩,⟨xd,xe,xf⟩,⟨xg,xh,xi⟩,⟨xj,xk,xl⟩⟩:=X5
    generalize lK b l[k] ws=b2 at*
    have agw:p7≠p5:=by omega
    have yQ:Hid (∀c,c≠p5→((((V.setCell ⟨p5,0,none⟩ (.slice ga gn gc)).setCell ⟨p5,1,none⟩ (.slice ha h_n hc)).setCell ⟨p5,2,none⟩ (.slice ia dz ic)).setCell ⟨p5,3,none⟩ (.slice ja jn jc)).heap[c]? =V.heap[c]?):=ah (fun c hc=>bF V p5 c (fun e=>hc e.symm) _ _ _ _ 0 1 2 3)
    have X6:Hid (V.heap.size≤((((V.setCell ⟨p5,0,none⟩ (.slice ga gn gc)).setCell ⟨p5,1,none⟩ (.slice ha h_n hc)).setCell ⟨p5,2,none⟩ (.slice ia dz ic)).setCell ⟨p5,3,none⟩ (.slice ja jn jc)).heap.size):=ah (by rw[fV];exact aC _)
    have hTS:TS w p5 ((((V.setCell ⟨p5,0,none⟩ (.slice ga gn gc)).setCell ⟨p5,1,none⟩ (.slice ha h_n hc)).setCell ⟨p5,2,none⟩ (.slice ia dz ic)).setCell ⟨p5,3,none⟩ (.slice ja jn jc)):=⟨b2,⟨⟨ga,gn,gc⟩,⟨ha,h_n,hc⟩,⟨ia,dz,ic⟩,⟨ja,jn,jc⟩⟩,iV.out,gq h5 (.slice ga gn gc) (.slice ha h_n hc) (.slice ia dz ic) (.slice ja jn jc),hz.over yQ.out X6.out h5 (jZ _),kS hbw2 T9 (.slice ga gn gc) (.slice ha h_n hc) (.slice ia dz ic) (.slice ja jn jc)⟩
    have HTS:=ah hTS
    obtain⟨a0,a1,a2,a3,hx8⟩:=ay h7
    obtain⟨b0,b1,b2',b3,iN⟩:=ay h5
    have f0:=aA h5 0
    have f1:=aA h5 1
    have f2:=aA h5 2
    have f3:=aA h5 3
    clear hx8 iN h5 h7 hz hTS yQ X6 hbw2
    simp only[Sv.v]at a0 a1 a2 a3 b0 b1 b2' b3
    go_wp2
    go_roundw
    case rel=>exact⟨k+1,by omega,by go_num,HTS.out⟩
    case measure=>simp[intOf];omega
   ·have iG:¬ (k:Int)<l.length:=by omega
    go_wp2
    go_meet
    exact hto
 case rest=>
 clear JF
 obtain⟨b,⟨⟨ca,cn,cc⟩,⟨fa,aX,fc⟩,⟨la,ln,lc⟩,⟨ba,b_n,bc⟩⟩,hinv,h5,hya,hbw⟩:=hcut
 obtain⟨W,hW⟩:∃W,W=wc:=⟨_,rfl⟩
 subst hW
 obtain⟨xs,hxl,hxs⟩:=hya.l
 obtain⟨hln,zO,Gh⟩:=Sl.lens hxl
 obtain⟨hcn,adW,adX⟩:=Sl.lens hya.c
 obtain⟨hfn,adY,adZ⟩:=Sl.lens hya.f
 obtain⟨hbn,Qd,Qe⟩:=Sl.lens hya.b
 simp only at hln hcn hfn hbn hxl
 subst hln hcn hfn hbn
 obtain⟨hlc,hlf,hll,hlb⟩:=hinv.lens
 have hxn:xs.length≤6:=by rw[hxs.len];exact hll
 have jU:=ah hya
 have sP:=ah hinv
 have H5:=ah h5
 have Kk:=ah hxs
 have HLC:=ah hlc
 have HLL:=ah hxs.len
 have dV:=ah hbw
 have HRC:=ah (cK.rd hya.c)
 have JC:=ah (Sl.rd hya.f)
 have Vl:=ah (cK.rd hxl)
 have MX:=ah (Sl.rd hya.b)
 have hcs2:b.cs.length<1000:=by omega
 clear hya hinv h5 hxs hlc hll hbw hxl
 obtain⟨a0,a1,a2,a3,iN⟩:=ay H5.out
 clear iN
 simp only[Sv.v]at a0 a1 a2 a3
 go_upto_region 12 with fail
 have hb1:Below W.heap.size W (W.alloc (.cells #[.slice ca b.cs.length cc,.slice fa b.free.length fc,.slice la xs.length lc,.slice ba b.bound.length bc] 30)):=(aL _ _).alloc (aC _) _
 have k1:=heap_alloc_new W (.cells #[.slice ca b.cs.length cc,.slice fa b.free.length fc,.slice la xs.length lc,.slice ba b.bound.length bc] 30)
 obtain⟨W1,hW1⟩:∃W1,W.alloc (.cells #[.slice ca b.cs.length cc,.slice fa b.free.length fc,.slice la xs.length lc,.slice ba b.bound.length bc] 30)=W1:=⟨_,rfl⟩
 have hz1:W.heap.size<W1.heap.size:=by rw[←hW1];simp
 rw[hW1]at hb1 k1
 rw[hW1]
 have HB1:=ah hb1
 have gF:=ah k1
 have Ju:p5<W.heap.size:=O0 H5.out
 have K5:=ah (aj H5.out hb1 Ju)
 clear hb1 k1 a0 a1 a2 a3 hW1
 obtain⟨a0,a1,a2,a3,iN⟩:=ay K5.out
 clear iN
 simp only[Sv.v]at a0 a1 a2 a3
 have agz:p5<W1.heap.size:=O0 K5.out
 go_upto_region 13 with((with_reducible refine aY 39 ?_);refine kU rfl _ _ rfl W1.heap.size _ 0 [] rfl (cO _ _ _ _ 7 #[] 0 rfl (aC _) (by omega) rfl) ca b.cs.length cc b.cs rfl rfl ((HRC.out.keep HB1.out (aC _)).alloc _) (by omega) (by simp) ?_;intro v5 w6 fQ hg5 kP;obtain⟨nZ,yF,rfl,_,_⟩:=aP fQ;have hb5:=fB hg5;have k5:=aj gF.out hb5 hz1;obtain⟨d0,d1,d2,d3,iN⟩:=ay k5;have f0:=aA k5 0;clear iN)
 rw[Nat.zero_add,List.nil_append]at fQ
 have u_:∀c,c≠W.heap.size→(w6.setCell ⟨W.heap.size,0,none⟩ (.slice nZ (0+b.cs.length) yF)).heap[c]? =w6.heap[c]? :=fun c hc=>aW _ _ _ (fun e=>hc e.symm) _
 have HC5:=ah (aH (aO fQ (Nat.le_of_lt hz1)) u_ k5 (by decide))
 have F6:=ah (lu k5 (.slice nZ (0+b.cs.length) yF))
 have vS:=ah ((HB1.out.trans (hb5.mono HB1.out.size)).setCell (p:=⟨W.heap.size,0,none⟩) (aC _) (.slice nZ (0+b.cs.length) yF))
 simp only[Nat.zero_add]at HC5 F6 vS u_
 clear fQ hg5 kP hb5 k5 u_ d0 d1 d2 d3 f0 a0 a1 a2 a3 K5 gF HB1
 try simp only[Nat.zero_add]
 generalize w6.setCell ⟨W.heap.size,0,none⟩ (.slice nZ b.cs.length yF)=W6 at*
 have Tj:W.heap.size<W6.heap.size:=O0 F6.out
 have K5:=ah (aj H5.out vS.out Ju)
 obtain⟨a0,a1,a2,a3,iN⟩:=ay K5.out
 clear iN
 simp only[Sv.v]at a0 a1 a2 a3
 have agA:p5<W6.heap.size:=O0 K5.out
 go_upto_region 14 with((with_reducible refine aY 44 ?_);refine iO rfl _ _ rfl W6.heap.size _ 0 [] rfl (cO _ _ _ _ 7 #[] 0 rfl (aC _) (by omega) rfl) la xs.length lc xs rfl rfl ((Vl.out.keep vS.out (aC _)).alloc _) (by omega) (by simp) ?_;intro v5 w6 fQ hg5 kP;obtain⟨F7,Qx,rfl,_,_⟩:=aP fQ;have hb5:=fB hg5;have k5:=aj F6.out hb5 Tj;obtain⟨d0,d1,d2,d3,iN⟩:=ay k5;have f2:=aA k5 2;clear iN)
 rw[Nat.zero_add,List.nil_append]at fQ
 have u_:∀c,c≠W.heap.size→(w6.setCell ⟨W.heap.size,2,none⟩ (.slice F7 (0+xs.length) Qx)).heap[c]? =w6.heap[c]? :=fun c hc=>aW _ _ _ (fun e=>hc e.symm) _
 have M8:=ah (aH (aO fQ (Nat.le_of_lt Tj)) u_ k5 (by decide))
 have UN:=ah (aH (aJ HC5.out hb5 (aC _)) u_ k5 (by decide))
 have vv:=ah (jq k5 (.slice F7 (0+xs.length) Qx))
 have Ec:=ah ((vS.out.trans (hb5.mono vS.out.size)).setCell (p:=⟨W.heap.size,2,none⟩) (aC _) (.slice F7 (0+xs.length) Qx))
 simp only[Nat.zero_add]at M8 UN vv Ec u_
 clear fQ hg5 kP hb5 k5 u_ d0 d1 d2 d3 f2 a0 a1 a2 a3 K5 F6 vS HC5
 try simp only[Nat.zero_add]
 generalize w6.setCell ⟨W.heap.size,2,none⟩ (.slice F7 xs.length Qx)=W9 at*
 have HT:Hid (Tn W W9 W.heap.size ⟨⟨nZ,b.cs.length,yF⟩,⟨fa,b.free.length,fc⟩,⟨F7,xs.length,Qx⟩,⟨ba,b.bound.length,bc⟩⟩ b xs):=ah ⟨Ec.out,vv.out,aC _,UN.out,.inl jU.out.f,M8.out,Kk.out.imp fun _ _ r=>Re.old r,.inl jU.out.b⟩
 clear Ec vv UN M8
 go_wp2_with fail
 refine(Li n1 5 _ (by omega) (by omega)).mono ?_
 rintro e w7 ⟨rfl,rfl⟩
 have hm0:=Int.emod_nonneg n1 (show (5:Int)≠0 by omega)
 have X0:=Int.emod_lt_of_pos n1 (show (0:Int)<5 by omega)
 generalize n1%5=m at*
 have D9:W.heap.size<W9.heap.size:=HT.out.lt
 have K5:=ah (aj H5.out HT.out.aZ Ju)
 have agB:p5<W9.heap.size:=O0 K5.out
 go_upto_block 2 with fail
 go_cut[] (fun wx=>∃ (y':bZ) (x':Bk),Bx wx W.heap.size y'∧eD wx y' x'∧x'≠b∧Below W.heap.size W wx)
 case first=>
  obtain⟨a0,a1,a2,a3,iN⟩:=ay K5.out
  obtain⟨d0,d1,d2,d3,iN⟩:=ay HT.out.kb
  have f0:=aA HT.out.kb 0
  have f1:=aA HT.out.kb 1
  have f2:=aA HT.out.kb 2
  have f3:=aA HT.out.kb 3
  clear iN
  simp only[Sv.v]at a0 a1 a2 a3 d0 d1 d2 d3
  have hms:m=0∨m=1∨m=2∨m=3∨m=4:=by omega
  clear hm0 X0
  rcases hms with rfl | rfl | rfl | rfl | rfl
  ·obtain⟨u0,e0,u1,e1,hcs,⟨q1,q2⟩,⟨q3,q4⟩,_,_,_⟩:=sP.out.cs
   have hnn:=fP kA sP.out.ls
   have hk:0<b.cs.length:=by rw[hcs];simp[fE]
   have hc0:b.cs[0]=⟨kA,0,0,20,10,u0,e0⟩:=by simp[hcs,fE]
   have hd1:IntKind.i64.wrap (e0+1)=e0+1:=IntWalk.i64_in _ (by omega)
   obtain⟨g,cap',hx,hc1,hc2,hg1,hg2,hg3,hfz,hat⟩:=HT.out.cellC 0 hk
   injection hx with hx1 hx2 hx3
   subst hx1 hx3
   have c6:=hat 6 (.int .i64 e0) (by omega) (by rw[hc0];rfl)
   have fz6:=hfz 6
   have T:=HT.out.AB (g:=g) rfl 0 hk 6 (by omega) (.int .i64 (e0+1)) ⟨kA,0,0,20,10,u0,e0+1⟩ (by rw[hc0];rfl)
   have hne:(⟨b.cs.set 0 ⟨kA,0,0,20,10,u0,e0+1⟩,b.free,b.ls,b.bound⟩:Bk)≠b:=fun e=>by
    have h1:=congrArg (fun z:Bk=>(z.cs[0]?).map Ct.down) e
    simp[hk,hc0]at h1
    try omega
   have HT2:=ah T
   have jk:=ah hne
   have iG:(0:Int)<b.cs.length:=by omega
   clear hat hfz T hne hcs hc0 q1 q2 q3 q4 hnn hx2
   go_wp2
   go_meet
   exact⟨_,_,HT2.out.kb,HT2.out.m,jk.out,HT2.out.aZ⟩
  ·have hbl:b.bound.length<1000:=by omega
   have jk:Hid ((⟨b.cs,b.free,b.ls,b.bound++ [999]⟩:Bk)≠b):=ah (fun e=>by
    have h1:=congrArg (fun z:Bk=>z.bound.length) e
    simp at h1)
   go_wp2_with first
    | ((with_reducible refine aY 63 ?_);refine jV rfl _ _ rfl W9.heap.size _ 0 [] rfl (cO _ _ _ _ 1 #[] 0 rfl (aC _) (by omega) rfl) ba b.bound.length bc b.bound rfl rfl ((MX.out.keep HT.out.aZ (aC _)).alloc _) (by omega) (by simp) ?_;intro v3 w3 ho3 hg3 j_;have hb3:=fB hg3;rw[Nat.zero_add,List.nil_append]at ho3;clear hg3 j_)
    | ((with_reducible refine aY 65 ?_);refine jV rfl _ _ rfl W9.heap.size v3 b.bound.length b.bound rfl (aJ ho3 ((aL w3.heap.size w3).alloc (aC _) _) (aC _)) (some ⟨w3.heap.size,0,none⟩) 1 1 [999] rfl rfl (je (heap_alloc_new w3 _)) (by omega) (by have:=hb3.size;simp;omega) ?_;intro v4 w4 iD hg4 iq;obtain⟨uI,zm,rfl,_,_⟩:=aP iD;have hb4:Below W9.heap.size W9 w4:=(hb3.trans (((aL w3.heap.size w3).alloc (aC _) _).mono hb3.size)).grown hg4 (by have:=hb3.size;simp;omega) (fun g hg=>(ho3.lt g hg).1);have k4:=aj HT.out.kb hb4 D9;obtain⟨d0,d1,d2,d3,iN⟩:=ay k4;have f3:=aA k4 3;clear iN)
   have T:=(HT.out.keep hb4).Ry (b':=⟨uI,b.bound.length+1,zm⟩) (bd:=b.bound++ [999]) (by rw[List.length_append];exact aO iD HT.out.aZ.size)
   go_meet
   exact⟨_,_,T.kb,T.m,jk.out,T.aZ⟩
  ·have hfl:b.free.length<1000:=by omega
   have jk:Hid ((⟨b.cs,b.free++ [(2000,2001)],b.ls,b.bound⟩:Bk)≠b):=ah (fun e=>by
    have h1:=congrArg (fun z:Bk=>z.free.length) e
    simp at h1)
   go_wp2_with first
    | ((with_reducible refine aY 72 ?_);refine mU rfl _ _ rfl W9.heap.size _ 0 [] rfl (cO _ _ _ _ 2 #[] 0 rfl (aC _) (by omega) rfl) fa b.free.length fc b.free rfl rfl ((JC.out.keep HT.out.aZ (aC _)).alloc _) (by omega) (by simp) ?_;intro v3 w3 ho3 hg3 j_;have hb3:=fB hg3;rw[Nat.zero_add,List.nil_append]at ho3;clear hg3 j_)
    | ((with_reducible refine aY 75 ?_);refine mU rfl _ _ rfl W9.heap.size v3 b.free.length b.free rfl (aJ ho3 ((aL w3.heap.size w3).alloc (aC _) _) (aC _)) (some ⟨w3.heap.size,0,none⟩) 1 1 [(2000,2001)] rfl rfl (je (heap_alloc_new w3 _)) (by omega) (by have:=hb3.size;simp;omega) ?_;intro v4 w4 iD hg4 iq;obtain⟨uI,zm,rfl,_,_⟩:=aP iD;have hb4:Below W9.heap.size W9 w4:=(hb3.trans (((aL w3.heap.size w3).alloc (aC _) _).mono hb3.size)).grown hg4 (by have:=hb3.size;simp;omega) (fun g hg=>(ho3.lt g hg).1);have k4:=aj HT.out.kb hb4 D9;obtain⟨d0,d1,d2,d3,iN⟩:=ay k4;have f1:=aA k4 1;clear iN)
   have T:=(HT.out.keep hb4).Az (f':=⟨uI,b.free.length+1,zm⟩) (fr:=b.free++ [(2000,2001)]) (by rw[List.length_append];exact aO iD HT.out.aZ.size)
   go_meet
   exact⟨_,_,T.kb,T.m,jk.out,T.aZ⟩
  ·have jk:Hid ((⟨b.cs,b.free,b.ls++ [⟨5,0,0,0,[],[],[]⟩],b.bound⟩:Bk)≠b):=ah (fun e=>by
    have h1:=congrArg (fun z:Bk=>z.ls.length) e
    simp at h1)
   have dK:Below W9.heap.size W9 (W9.alloc (.cells #[.int .i64 5,.int .i64 0,.int .i64 0,.int .i64 0,.slice none 0 0,.slice none 0 0,.slice none 0 0] 48)):=(aL _ _).alloc (aC _) _
   have NR:=je (heap_alloc_new W9 (.cells #[.int .i64 5,.int .i64 0,.int .i64 0,.int .i64 0,.slice none 0 0,.slice none 0 0,.slice none 0 0] 48))
   have O4:=ah (HT.out.keep dK)
   have wK:W.heap.size≤(W9.alloc (.cells #[.int .i64 5,.int .i64 0,.int .i64 0,.int .i64 0,.slice none 0 0,.slice none 0 0,.slice none 0 0] 48)).heap.size:=O4.out.aZ.size
   go_wp2_with ((with_reducible refine aY 83 ?_);refine iO rfl _ _ rfl W.heap.size _ xs.length xs rfl O4.out.rl (some ⟨W9.heap.size,0,none⟩) 1 1 [⟨5,0,0,0,⟨none,0,0⟩,⟨none,0,0⟩,⟨none,0,0⟩⟩] rfl rfl NR (by omega) wK ?_;intro v4 w4 iD hg4 iq;obtain⟨uI,zm,rfl,_,_⟩:=aP iD;have hb4:Below W.heap.size W w4:=O4.out.aZ.grown hg4 wK (fun g hg=>(O4.out.rl.lt g hg).1);have k4:=yV O4.out.kb O4.out.rl hg4 (by decide);obtain⟨d0,d1,d2,d3,iN⟩:=ay k4;have f2:=aA k4 2;clear iN)
   have T:=O4.out.ab3 (l':=⟨uI,xs.length+1,zm⟩) (xs':=xs++ [⟨5,0,0,0,⟨none,0,0⟩,⟨none,0,0⟩,⟨none,0,0⟩⟩]) (ls':=b.ls++ [⟨5,0,0,0,[],[],[]⟩]) O4.out.rl hg4 hb4 (by rw[List.length_append];exact iD) (O4.out.each.append ⟨⟨rfl,rfl,rfl,rfl,.inl (Sl.nil _ 5),.inl (Sl.nil _ 2),.inl (Sl.nil _ 1)⟩,trivial⟩)
   go_meet
   exact⟨_,_,T.kb,T.m,jk.out,T.aZ⟩
  ·by_cases hx0:xs.length=0
   ·have hx1:(xs.length:Int)=0:=by omega
    go_wp2
    go_ret
    exact⟨rfl,dV.out.trans (HT.out.aZ.mono dV.out.size)⟩
   have hx1:¬ (xs.length:Int)=0:=by omega
   have hk:0<xs.length:=by omega
   have hkl:0<b.ls.length:=by rw[←HLL.out];exact hk
   have hM0:=bI.at HT.out.each 0 hk hkl
   obtain⟨uu,Yq⟩:∃uu,IntKind.i64.wrap (b.ls[0].bY+1)=uu:=⟨_,rfl⟩
   have hun:uu≠b.ls[0].bY:=by rw[←Yq];exact O3 _
   have jk:Hid ((⟨b.cs,b.free,b.ls.set 0 ⟨b.ls[0].dev,b.ls[0].epoch,uu,b.ls[0].last,b.ls[0].sl,b.ls[0].ids,b.ls[0].used⟩,b.bound⟩:Bk)≠b):=ah (fun e=>by
    have h1:=congrArg (fun z:Bk=>(z.ls[0]?).map Ls.bY) e
    simp[hkl]at h1
    exact hun h1)
   obtain⟨g,cap',hx,hc1,hc2,hg1,hg2,hg3,hfz,hat⟩:=HT.out.cellL 0 hk
   injection hx with hq1 hq2 hq3
   subst hq1 hq3
   have c2:=hat 2 (.int .i64 b.ls[0].bY) (by omega) (by rw[←hM0.bY];rfl)
   have fz2:=hfz 2
   have T:=HT.out.QF (g:=g) rfl 0 hk 2 (by omega) (.int .i64 (uu)) ⟨xs[0].dev,xs[0].epoch,uu,xs[0].last,xs[0].s,xs[0].i,xs[0].u⟩ ⟨b.ls[0].dev,b.ls[0].epoch,uu,b.ls[0].last,b.ls[0].sl,b.ls[0].ids,b.ls[0].used⟩ rfl ⟨hM0.dev,hM0.epoch,rfl,hM0.last,hM0.s,hM0.i,hM0.u⟩
   have HT2:=ah T
   have iG:(0:Int)<xs.length:=by omega
   clear hat hfz T hM0 hq2 hx0 hun
   go_wp2
   go_meet
   exact⟨_,_,HT2.out.kb,HT2.out.m,jk.out,HT2.out.aZ⟩
 case rest=>
 obtain⟨⟨⟨ga,gn,gc⟩,⟨ha,h_n,hc⟩,⟨ia,dz,ic⟩,⟨ja,jn,jc⟩⟩,x',hk,hm,hne,hb⟩:=hcut
 obtain⟨V,hV⟩:∃V,V=wc:=⟨_,rfl⟩
 subst hV
 have P5:=ah (aj H5.out hb Ju)
 have PK:=ah hk
 have PM:=ah hm
 have PB:=ah hb
 have PY:=ah (jU.out.keep hb (aC _))
 have n2':decide (b=x')=false:=by simpa using fun e=>hne e.symm
 have n3':decide (x'=b)=false:=by simpa using hne
 clear hk hm hne hb HT K5
 obtain⟨a0,a1,a2,a3,iN⟩:=ay P5.out
 clear iN
 simp only[Sv.v]at a0 a1 a2 a3
 go_wp2_with fail
 refine(FU _ _ b _ PY.out PY.out).mono ?_
 rintro e V1 ⟨rfl,hb1⟩
 have HV1:=ah hb1
 have YI:=ah (aj P5.out hb1 (O0 P5.out))
 have YJ:=ah (aj PK.out hb1 (O0 PK.out))
 have PM1:=ah (PM.out.keep hb1 (aC _))
 have PY1:=ah (PY.out.keep hb1 (aC _))
 have PB1:=ah (PB.out.trans (hb1.mono PB.out.size))
 clear hb1 a0 a1 a2 a3 HV1 P5 PK PM PY PB
 obtain⟨a0,a1,a2,a3,iN⟩:=ay YI.out
 obtain⟨d0,d1,d2,d3,iN⟩:=ay YJ.out
 clear iN
 simp only[Sv.v]at a0 a1 a2 a3 d0 d1 d2 d3
 go_wp2_with fail
 refine(pE _ ⟨⟨ga,gn,gc⟩,⟨ha,h_n,hc⟩,⟨ia,dz,ic⟩,⟨ja,jn,jc⟩⟩ b x' _ PY1.out PM1.out).mono ?_
 rw[n2']
 rintro e V2 ⟨rfl,hb1⟩
 have P52:=ah (aj YI.out hb1 (O0 YI.out))
 have PK2:=ah (aj YJ.out hb1 (O0 YJ.out))
 have PM2:=ah (PM1.out.keep hb1 (aC _))
 have PY2:=ah (PY1.out.keep hb1 (aC _))
 have PB2:=ah (PB1.out.trans (hb1.mono PB1.out.size))
 clear hb1 a0 a1 a2 a3 d0 d1 d2 d3 YI YJ PM1 PY1 PB1
 obtain⟨a0,a1,a2,a3,iN⟩:=ay P52.out
 obtain⟨d0,d1,d2,d3,iN⟩:=ay PK2.out
 clear iN
 simp only[Sv.v]at a0 a1 a2 a3 d0 d1 d2 d3
 go_wp2_with fail
 refine(pE ⟨⟨ga,gn,gc⟩,⟨ha,h_n,hc⟩,⟨ia,dz,ic⟩,⟨ja,jn,jc⟩⟩ _ x' b _ PM2.out PY2.out).mono ?_
 rw[n3']
 rintro e V3 ⟨rfl,hb1⟩
 have PB3:=ah (dV.out.trans ((PB2.out.trans (hb1.mono PB2.out.size)).mono dV.out.size))
 clear hb1 a0 a1 a2 a3 d0 d1 d2 d3
 go_wp2
 go_ret
 exact⟨rfl,PB3.out⟩
end Go.Proofs.YtlfopoimbbpfdaaGreat
