/- What the law asks, in parts: De. -/
import Derived.Deep.DrawnRows
import Derived.Test.YtlfopoimbbpfdaaGreatPk43
import Derived.Test.YtlfopoimbbpfdaaGreatPk41
import Derived.Test.YtlfopoimbbpfdaaGreatPk20
set_option linter.all false
namespace Go.Proofs.YtlfopoimbbpfdaaGreat
open Go.RowKit
attribute [local go_sem ↓] Go.wp_at_zero Go.wp_at_succ
theorem sO (a b:List Ls):iU (a++b)=iU a+iU b:=by simp[iU]
def TO (w:World) (p3 p4:Nat) (wr:World):Prop:=∃ (b:Bk) (ya yb:bZ),Inv b∧Bx wr p3 ya∧Bx wr p4 yb∧eD wr ya b∧eD wr yb b∧Below w.heap.size w wr
set_option maxRecDepth 100000 in
set_option maxHeartbeats 16000000 in
theorem DY (v0:Value) (l:List ow) (w:World) (h:vK w v0 l) (hM:∀a∈l,∃ws,JG w a ws):Calls Tryz.prog 3 #[v0] w fun e w'=>e= .returned (.bool true)∧Below w.heap.size w w':=by
 obtain⟨ao,cap,rfl,hcap,hcm⟩:=Sl.shape h
 have H:=ah h
 have HM:=ah hM
 clear h hM
 go_enter Tryz.func3,Tryz.ntmps3
 go_wp2_with fail
 refine(ug _).mono ?_
 rintro e w1 ⟨rfl,hb1⟩
 go_wp2_with fail
 refine(uj _ l w1 (cK.keep H.out hb1 (aC _)) (fun a ha=>(HM.out a ha).imp fun _ h=>h.keep hb1 (aC _))).mono ?_
 rintro e w2 ⟨q,rfl,hb2⟩
 have hbw2:=hb1.trans (hb2.mono hb1.size)
 clear hb1 hb2
 cases q with
 | false=>
  go_wp2
  go_ret
  exact⟨rfl,hbw2⟩
 | true=>
 go_wp2_with fail
 refine(nC _).mono ?_
 rintro e W3 ⟨⟨⟨ca,cn,cc⟩,⟨fa,aX,fc⟩,⟨la,ln,lc⟩,⟨ba,b_n,bc⟩⟩,rfl,DL,hb3⟩
 go_wp2_with fail
 refine(nC _).mono ?_
 rintro e W4 ⟨⟨⟨ga,gn,gc⟩,⟨ha,h_n,hc⟩,⟨ia,dz,ic⟩,⟨ja,jn,jc⟩⟩,rfl,Nj,hb4⟩
 have jR:=(hbw2.trans (hb3.mono hbw2.size)).trans (hb4.mono (hbw2.trans (hb3.mono hbw2.size)).size)
 have DL:=DL.keep hb4 (aC _)
 clear hbw2 hb3 hb4
 have hk3:=bJ W4 (.cells #[.slice ca cn cc,.slice fa aX fc,.slice la ln lc,.slice ba b_n bc] 30) (.cells #[.slice ga gn gc,.slice ha h_n hc,.slice ia dz ic,.slice ja jn jc] 30)
 have hk4:=bE W4 (.cells #[.slice ca cn cc,.slice fa aX fc,.slice la ln lc,.slice ba b_n bc] 30) (.cells #[.slice ga gn gc,.slice ha h_n hc,.slice ia dz ic,.slice ja jn jc] 30)
 have dK:Below W4.heap.size W4 ((W4.alloc (.cells #[.slice ca cn cc,.slice fa aX fc,.slice la ln lc,.slice ba b_n bc] 30)).alloc (.cells #[.slice ga gn gc,.slice ha h_n hc,.slice ia dz ic,.slice ja jn jc] 30)):=((aL _ _).alloc (aC _) _).alloc (by simp) _
 have JF:Hid (TO w W4.heap.size (W4.heap.size+1) ((W4.alloc (.cells #[.slice ca cn cc,.slice fa aX fc,.slice la ln lc,.slice ba b_n bc] 30)).alloc (.cells #[.slice ga gn gc,.slice ha h_n hc,.slice ia dz ic,.slice ja jn jc] 30))):=
  ah ⟨mq,⟨⟨ca,cn,cc⟩,⟨fa,aX,fc⟩,⟨la,ln,lc⟩,⟨ba,b_n,bc⟩⟩,⟨⟨ga,gn,gc⟩,⟨ha,h_n,hc⟩,⟨ia,dz,ic⟩,⟨ja,jn,jc⟩⟩,BA,hk3,hk4,DL.keep dK (aC _),Nj.keep dK (aC _),jR.trans (dK.mono jR.size)⟩
 have hp3:w.heap.size≤W4.heap.size:=jR.size
 have Vp:w.heap.size≤W4.heap.size+1:=by omega
 have MQ:W4.heap.size≠W4.heap.size+1:=by omega
 clear DL Nj hk3 hk4 dK jR
 go_upto_block 0 with fail
 generalize ((W4.alloc (.cells #[.slice ca cn cc,.slice fa aX fc,.slice la ln lc,.slice ba b_n bc] 30)).alloc (.cells #[.slice ga gn gc,.slice ha h_n hc,.slice ia dz ic,.slice ja jn jc] 30))=W5 at*
 generalize W4.heap.size+1=p4 at*
 generalize W4.heap.size=p3 at*
 go_cut[] (fun wx=>Below w.heap.size w wx)
 case rest=>
  go_wp2
  go_ret
  exact⟨rfl,hcut⟩
 case first=>
 go_wp2
 go_loopw[5] (fun v5 wr=>∃k:Nat,k≤l.length∧v5= .int .i64 k∧TO w p3 p4 wr) (fun v5 _=>l.length-(intOf v5).toNat)
 case atStart=>exact⟨0,Nat.zero_le _,rfl,JF.out⟩
 case round=>
  clear JF
  obtain⟨k,hk,rfl,hto⟩:=hrel
  by_cases hlt:k<l.length
  ·obtain⟨b,⟨⟨ca,cn,cc⟩,⟨fa,aX,fc⟩,⟨la,ln,lc⟩,⟨ba,b_n,bc⟩⟩,⟨⟨ga,gn,gc⟩,⟨ha,h_n,hc⟩,⟨ia,dz,ic⟩,⟨ja,jn,jc⟩⟩,hinv,h3,h4,hya,hyb,hbw⟩:=hto
   have iG:(k:Int)<l.length:=by omega
   obtain⟨ws,DZ⟩:=HM.out l[k] (List.getElem_mem hlt)
   have hws:=DZ.keep hbw (aC _)
   have sP:=ah hinv
   have H3:=ah h3
   have H4:=ah h4
   have jU:=ah hya
   have o_:=ah hyb
   have dV:=ah hbw
   have JH:=ah hws
   have D5:p3<wr.heap.size:=h3.lt
   have D6:p4<wr.heap.size:=h4.lt
   clear hinv h3 h4 hya hyb hbw hws DZ
   obtain⟨W,hW⟩:∃W,W=wr:=⟨_,rfl⟩
   subst hW
   go_upto_region 9 with fail
   go_cut[6,7,8] (fun v6 v7 v8 wx=>∃ (y z:bZ) (p q:Nat),v6= .pointer (some ⟨p,0,none⟩)∧v7= .pointer (some ⟨q,0,none⟩)∧v8= .bool true∧Bx wx p y∧Bx wx q z∧eD wx y (lK b l[k] ws)∧eD wx z (lK b l[k] ws)∧Below W.heap.size W wx∧W.heap.size≤p∧W.heap.size≤q)
   case first=>
    rename_i J K hJ hK
    refine wp_mono (SH W _ cap l k hlt ws p3 p4 ⟨⟨ca,cn,cc⟩,⟨fa,aX,fc⟩,⟨la,ln,lc⟩,⟨ba,b_n,bc⟩⟩ ⟨⟨ga,gn,gc⟩,⟨ha,h_n,hc⟩,⟨ia,dz,ic⟩,⟨ja,jn,jc⟩⟩ b (cK.keep H.out dV.out (aC _)) JH.out H3.out H4.out jU.out o_.out (sP.out.doB _) _ _ _ _ _ _ _ _ _ _ _ _ _ _ _ _ _ _ _ _ _ _ _ _ _ _ _ _ _ _ _ _ _ _ _ _ _ _ _ _ _ _ _ _ _ _ _ _ _ _ _ _ _ _ _ _ _ _ _ _ _ _ _ _ _ _ _ _ _ _ _ _ _ _ _ _ _ _ _ _ _ _ _ _ _ _ _ _ _ _ _ _ _ _ _ _ _ _ _ _ _ _ _ _ _ _ _ _ _ _ _ _ _ _ _ _ _ _ _ _ _ _ _ _ _ _ K (fun a' w' hq=>by
     obtain⟨v6,v7,v8,v28,v29,v30,v31,v32,v33,v34,v27,v35,v36,v37,hrel,ha⟩:=hq
     dsimp only at ha
     subst ha
     refine hK _ _ (Met.intro (hJ _ _ ?_))
     (repeat apply Exists.intro)
     exact⟨hrel,rfl⟩) _ rfl) ?_
    intro e a' w' hq
    cases e with
    | normal=>exact hq
    | _=>exact hq.elim
   case rest=>
   have h3x:∃X:bZ,Bx W p3 X:=⟨_,H3.out⟩
   have h4x:∃X:bZ,Bx W p4 X:=⟨_,H4.out⟩
   obtain⟨⟨⟨ca,cn,cc⟩,⟨fa,aX,fc⟩,⟨la,ln,lc⟩,⟨ba,b_n,bc⟩⟩,⟨⟨ga,gn,gc⟩,⟨ha,h_n,hc⟩,⟨ia,dz,ic⟩,⟨ja,jn,jc⟩⟩,p6,p7,rfl,rfl,rfl,h6,h7,hy,hz,hb,JA,YH⟩:=hcut
   obtain⟨X3,H3⟩:=h3x
   obtain⟨X4,H4⟩:=h4x
   have iV:=ah (sP.out.act l[k] ws)
   have qM:=ah (dV.out.trans (hb.mono dV.out.size))
   have h3:=aj H3 hb D5
   have h4:=aj H4 hb D6
   obtain⟨V,hV⟩:∃V,V=wc:=⟨_,rfl⟩
   subst hV
   clear sP dV H3 H4 jU o_ JH hb
   obtain⟨⟨xa,xn,xc⟩,⟨xd,xe,xf⟩,⟨xg,xh,xi⟩,⟨xj,xk,xl⟩⟩:=X3
   obtain⟨⟨za,zn,zc⟩,⟨zd,ze,zf⟩,⟨zg,zh,zi⟩,⟨zj,zk,zl⟩⟩:=X4
   generalize lK b l[k] ws=b2 at*
   have SX:p3≠p6:=by omega
   have SY:p3≠p7:=by omega
   have H6:=ah h6
   have H7:=ah h7
   have H3:=ah h3
   have H4:=ah h4
   have HY:=ah hy
   have HZ:=ah hz
   clear h6 h7 h3 h4 hy hz JA YH D5 D6
   go_upto_region 10 with fail
   go_cut[] (fun wx=>Bx wx p3 ⟨⟨ca,cn,cc⟩,⟨fa,aX,fc⟩,⟨la,ln,lc⟩,⟨ba,b_n,bc⟩⟩∧Bx wx p4 ⟨⟨ga,gn,gc⟩,⟨ha,h_n,hc⟩,⟨ia,dz,ic⟩,⟨ja,jn,jc⟩⟩∧eD wx ⟨⟨ca,cn,cc⟩,⟨fa,aX,fc⟩,⟨la,ln,lc⟩,⟨ba,b_n,bc⟩⟩ b2∧eD wx ⟨⟨ga,gn,gc⟩,⟨ha,h_n,hc⟩,⟨ia,dz,ic⟩,⟨ja,jn,jc⟩⟩ b2∧Below w.heap.size w wx)
   case first=>
    refine aS 3 (dR p6 p7 V) (by kernel_rfl) ?_
    have hS0:dR p6 p7 V V.drew:=⟨rfl,rfl⟩
    refine aD (i:=0) (v:=fT ⟨⟨ca,cn,cc⟩,⟨fa,aX,fc⟩,⟨la,ln,lc⟩,⟨ba,b_n,bc⟩⟩) rfl rfl (by kernel_rfl) (by kernel_rfl) (by kernel_rfl) (by kernel_rfl) (by kernel_rfl) (by decide) (fun _ _ _ h=>h) (.inl ⟨rfl,fun w' hw=>?_⟩) hS0 ?_
    ·obtain⟨a0,a1,a2,a3,_⟩:=ay (hw.1.trans H6.out)
     simp only[Sv.v]at a0 a1 a2 a3
     go_simp
    refine aD (i:=1) (v:=fT ⟨⟨ga,gn,gc⟩,⟨ha,h_n,hc⟩,⟨ia,dz,ic⟩,⟨ja,jn,jc⟩⟩) rfl rfl (by kernel_rfl) (by kernel_rfl) (by kernel_rfl) (by kernel_rfl) (by kernel_rfl) (by decide) (fun _ _ _ h=>h) (.inl ⟨rfl,fun w' hw=>?_⟩) hS0 ?_
    ·obtain⟨a0,a1,a2,a3,_⟩:=ay (hw.2.trans H7.out)
     simp only[Sv.v]at a0 a1 a2 a3
     go_simp
    have q3:Bx V.drew p3 _:=H3.out
    have q4:Bx V.drew p4 _:=H4.out
    have hy:=HY.out.keep (aL V.heap.size V).drew (aC _)
    have hz:=HZ.out.keep (aL V.heap.size V).drew (aC _)
    have hbw:=qM.out.drew
    have hsz:V.heap.size=V.drew.heap.size:=rfl
    clear H3 H4 HY HZ qM
    generalize V.drew=V0 at*
    have HY:=ah hy
    have HZ:=ah hz
    obtain⟨b0,b1,b2',b3,iN⟩:=ay q3
    have f0:=aA q3 0
    have f1:=aA q3 1
    have f2:=aA q3 2
    have f3:=aA q3 3
    have H3:=ah q3
    have H4:=ah q4
    clear iN q3 q4 hy hz hsz
    simp only[Sv.v]at b0 b1 b2' b3
    have iy:Hid (∀c,c≠p3→((((V0.setCell ⟨p3,0,none⟩ (.slice ca cn cc)).setCell ⟨p3,1,none⟩ (.slice fa aX fc)).setCell ⟨p3,2,none⟩ (.slice la ln lc)).setCell ⟨p3,3,none⟩ (.slice ba b_n bc)).heap[c]? =V0.heap[c]?):=ah (fun c hc=>bF V0 p3 c (fun e=>hc e.symm) _ _ _ _ 0 1 2 3)
    have HZ3:Hid (V0.heap.size≤((((V0.setCell ⟨p3,0,none⟩ (.slice ca cn cc)).setCell ⟨p3,1,none⟩ (.slice fa aX fc)).setCell ⟨p3,2,none⟩ (.slice la ln lc)).setCell ⟨p3,3,none⟩ (.slice ba b_n bc)).heap.size):=ah (by rw[fV];exact aC _)
    have qZ:=ah (gq H3.out (.slice ca cn cc) (.slice fa aX fc) (.slice la ln lc) (.slice ba b_n bc))
    have HB3:=ah (kS hbw hp3 (.slice ca cn cc) (.slice fa aX fc) (.slice la ln lc) (.slice ba b_n bc))
    clear hbw
    refine aF (i:=2) (by kernel_rfl) rfl rfl ?_
    go_simp
    clear b0 b1 b2' b3 f0 f1 f2 f3
    generalize ((((V0.setCell ⟨p3,0,none⟩ (.slice ca cn cc)).setCell ⟨p3,1,none⟩ (.slice fa aX fc)).setCell ⟨p3,2,none⟩ (.slice la ln lc)).setCell ⟨p3,3,none⟩ (.slice ba b_n bc))=V3 at*
    have pU:dR p6 p7 V V3:=⟨(iy.out _ (fun e=>SX e.symm)).trans hS0.1,(iy.out _ (fun e=>SY e.symm)).trans hS0.2⟩
    refine⟨pU,?_⟩
    have q4:=(iy.out p4 (fun e=>MQ e.symm)).trans H4.out
    have Gl:=ah (HY.out.over iy.out HZ3.out H3.out (jZ _))
    have S9:=ah (HZ.out.over iy.out HZ3.out H3.out (jZ _))
    have lM:Hid (∀c,c≠p4→((((V3.setCell ⟨p4,0,none⟩ (.slice ga gn gc)).setCell ⟨p4,1,none⟩ (.slice ha h_n hc)).setCell ⟨p4,2,none⟩ (.slice ia dz ic)).setCell ⟨p4,3,none⟩ (.slice ja jn jc)).heap[c]? =V3.heap[c]?):=ah (fun c hc=>bF V3 p4 c (fun e=>hc e.symm) _ _ _ _ 0 1 2 3)
    have DR:Hid (V3.heap.size≤((((V3.setCell ⟨p4,0,none⟩ (.slice ga gn gc)).setCell ⟨p4,1,none⟩ (.slice ha h_n hc)).setCell ⟨p4,2,none⟩ (.slice ia dz ic)).setCell ⟨p4,3,none⟩ (.slice ja jn jc)).heap.size):=ah (by rw[fV];exact aC _)
    have BH:=ah (gq q4 (.slice ga gn gc) (.slice ha h_n hc) (.slice ia dz ic) (.slice ja jn jc))
    have jd:=ah (kS HB3.out Vp (.slice ga gn gc) (.slice ha h_n hc) (.slice ia dz ic) (.slice ja jn jc))
    have JD:=ah (Gl.out.over lM.out DR.out q4 (jZ _))
    have S_:=ah (S9.out.over lM.out DR.out q4 (jZ _))
    have Ta:=ah ((lM.out p3 MQ).trans qZ.out)
    obtain⟨b0,b1,b2',b3,iN⟩:=ay q4
    have f0:=aA q4 0
    have f1:=aA q4 1
    have f2:=aA q4 2
    have f3:=aA q4 3
    clear iN q4
    simp only[Sv.v]at b0 b1 b2' b3
    refine aF (i:=3) (by kernel_rfl) rfl rfl ?_
    go_simp
    refine aT (by kernel_rfl) ?_
    go_wp2
    go_meet
    exact⟨Ta.out,BH.out,JD.out,S_.out,jd.out⟩
   case rest=>
   obtain⟨h3,h4,hy,hz,hbw⟩:=hcut
   obtain⟨W2,hW2⟩:∃W2,W2=wc:=⟨_,rfl⟩
   subst hW2
   have H3:=ah h3
   have H4:=ah h4
   have HY:=ah hy
   have HZ:=ah hz
   have dV:=ah hbw
   have D5:p3<W2.heap.size:=h3.lt
   have D6:p4<W2.heap.size:=h4.lt
   clear h3 h4 hy hz hbw H6 H7 qM
   obtain⟨t0,t1,t2,t3,t4,t5,hT,Yw,htb,⟨hn0,hn1,hn2⟩,X_,hn4,TH⟩:=iV.out.abX
   obtain⟨x0,x1,x2,x3,x4,x5,hU,hua,hub,⟨hm0,hm1,hm2⟩,DL,Nj,X0⟩:=iV.out.abY
   have HTT:=ah hT
   have HUU:=ah hU
   clear hT hU
   go_upto_region 11 with fail
   go_cut[9,10] (fun v9 v10 wx=>∃ (p q:Nat),v9= .pointer (some ⟨p,0,none⟩)∧v10= .pointer (some ⟨q,0,none⟩)∧Bs wx p ⟨t0,t1,t2,t3,t4,t5⟩∧Bs wx q ⟨x0,x1,x2,x3,x4,x5⟩∧Below W2.heap.size W2 wx∧W2.heap.size≤p∧W2.heap.size≤q)
   case first=>
    rename_i J K hJ hK
    refine wp_mono (OV W2 p3 ⟨⟨ca,cn,cc⟩,⟨fa,aX,fc⟩,⟨la,ln,lc⟩,⟨ba,b_n,bc⟩⟩ b2 ⟨t0,t1,t2,t3,t4,t5⟩ ⟨x0,x1,x2,x3,x4,x5⟩ HTT.out HUU.out H3.out HY.out iV.out.XI _ _ _ _ _ _ _ _ _ _ _ _ _ _ _ _ _ _ _ _ _ _ _ _ _ _ _ _ _ _ _ _ _ _ _ _ _ _ _ _ _ _ _ _ _ _ _ _ _ _ _ _ _ _ _ _ _ _ _ _ _ _ _ _ _ _ _ _ _ _ _ _ _ _ _ _ _ _ _ _ _ _ _ _ _ _ _ _ _ _ _ _ _ _ _ _ _ _ _ _ _ _ _ _ _ _ _ _ _ _ _ _ _ _ _ _ _ _ _ _ _ _ _ _ _ _ _ _ _ K (fun a' w' hq=>by
     obtain⟨v9,v10,v40,v41,v42,v43,hrel,ha⟩:=hq
     dsimp only at ha
     subst ha
     refine hK _ _ (Met.intro (hJ _ _ ?_))
     (repeat apply Exists.intro)
     exact⟨hrel,rfl⟩) _ rfl) ?_
    intro e a' w' hq
    cases e with
    | normal=>exact hq
    | _=>exact hq.elim
   case rest=>
   obtain⟨p9,Qc,rfl,rfl,h9,h10,hb,_,_⟩:=hcut
   obtain⟨W3,hW3⟩:∃W3,W3=wc:=⟨_,rfl⟩
   subst hW3
   have K3:=ah (aj H3.out hb D5)
   have K4:=ah (aj H4.out hb D6)
   have KY:=ah (HY.out.keep hb (aC _))
   have KZ:=ah (HZ.out.keep hb (aC _))
   have KB:=ah (dV.out.trans (hb.mono dV.out.size))
   have K9:=ah h9
   have K10:=ah h10
   clear H3 H4 HY HZ dV hb h9 h10 HTT HUU D5 D6
   obtain⟨a0,a1,a2,a3,iN⟩:=ay K3.out
   clear iN
   simp only[Sv.v]at a0 a1 a2 a3
   go_wp2_with fail
   refine(uf ⟨⟨ca,cn,cc⟩,⟨fa,aX,fc⟩,⟨la,ln,lc⟩,⟨ba,b_n,bc⟩⟩ b2 W3 KY.out iV.out.XH).mono ?_
   rw[iV.out.snd]
   rintro e W6 ⟨rfl,hb⟩
   clear a0 a1 a2 a3
   have hl3:=(bg K3.out).1
   have hl4:=(bg K4.out).1
   have L3:=ah (aj K3.out hb hl3)
   have L4:=ah (aj K4.out hb hl4)
   have LY:=ah (KY.out.keep hb (aC _))
   have LZ:=ah (KZ.out.keep hb (aC _))
   have LB:=ah (KB.out.trans (hb.mono KB.out.size))
   obtain⟨⟨d0,d1,d2,d3,d4,d5⟩,_⟩:=jD (aj K9.out hb (Bs.lt K9.out))
   obtain⟨⟨e0,e1,e2,e3,e4,e5⟩,_⟩:=jD (aj K10.out hb (Bs.lt K10.out))
   clear K3 K4 KY KZ KB K9 K10 hb hl3 hl4
   have i1:IntKind.i64.wrap (t0+t1)=t0+t1:=IntWalk.i64_in _ (by omega)
   have i2:IntKind.i64.wrap (t0+t1+t2)=10:=by rw[Yw];decide
   have i3:IntKind.i64.wrap (t3+t4)=t3+t4:=IntWalk.i64_in _ (by omega)
   have i4:IntKind.i64.wrap (t3+t4+t5)=10:=by rw[htb];decide
   have i5:IntKind.i64.wrap (x0+x1)=x0+x1:=IntWalk.i64_in _ (by omega)
   have i6:IntKind.i64.wrap (x0+x1+x2)=30:=by rw[hua];decide
   have i7:IntKind.i64.wrap (x3+x4)=x3+x4:=IntWalk.i64_in _ (by omega)
   have i8:IntKind.i64.wrap (x3+x4+x5)=30:=by rw[hub];decide
   have n0:¬t0<0:=by omega
   have n1:¬t1<0:=by omega
   have n2:¬t2<0:=by omega
   have n3:¬t3<0:=by omega
   have n4:¬t4<0:=by omega
   have n5:¬t5<0:=by omega
   have o0:¬x0<0:=by omega
   have o1:¬x1<0:=by omega
   have o2:¬x2<0:=by omega
   have o3:¬x3<0:=by omega
   have o4:¬x4<0:=by omega
   have o5:¬x5<0:=by omega
   clear hn0 hn1 hn2 X_ hn4 TH hm0 hm1 hm2 DL Nj X0 Yw htb hua hub
   go_upto_block 2 with fail
   go_cut[] (fun wx=>wx=W6)
   case first=>
    clear i1 i2 i3 i4 i5 i6 i7 i8
    go_wp2
    go_loopw[11] (fun v11 wr=>∃j:Nat,j≤6∧v11= .int .i64 j∧wr=W6) (fun v11 _=>6-(intOf v11).toNat)
    case atStart=>exact⟨0,by omega,rfl,rfl⟩
    case round=>
     obtain⟨j,hj,rfl,hwr⟩:=hrel
     rw[hwr]
     clear hwr
     have hjc:j=0∨j=1∨j=2∨j=3∨j=4∨j=5∨j=6:=by omega
     clear hj
     rcases hjc with rfl | rfl | rfl | rfl | rfl | rfl | rfl
     ·go_wp2
      go_roundw
      case rel=>exact⟨1,by omega,by go_num,by first | rfl | trivial⟩
      case measure=>simp[intOf]
     ·go_wp2
      go_roundw
      case rel=>exact⟨2,by omega,by go_num,by first | rfl | trivial⟩
      case measure=>simp[intOf]
     ·go_wp2
      go_roundw
      case rel=>exact⟨3,by omega,by go_num,by first | rfl | trivial⟩
      case measure=>simp[intOf]
     ·go_wp2
      go_roundw
      case rel=>exact⟨4,by omega,by go_num,by first | rfl | trivial⟩
      case measure=>simp[intOf]
     ·go_wp2
      go_roundw
      case rel=>exact⟨5,by omega,by go_num,by first | rfl | trivial⟩
      case measure=>simp[intOf]
     ·go_wp2
      go_roundw
      case rel=>exact⟨6,by omega,by go_num,by first | rfl | trivial⟩
      case measure=>simp[intOf]
     ·go_wp2
      go_meet
      rfl
   case rest=>
   rw[hcut]
   clear hcut
   clear i1 i2 i3 i4 i5 i6 i7 i8 n0 n1 n2 n3 n4 n5 o0 o1 o2 o3 o4 o5 d0 d1 d2 d3 d4 d5 e0 e1 e2 e3 e4 e5
   have HF:=ah LY.out.f
   have BI:=LY.out.b
   obtain⟨xs,hxl,hxs⟩:=LY.out.l
   have Kk:=ah hxs
   have HLEN:=ah hxs.len
   obtain⟨hln,zO,Gh⟩:=Sl.lens hxl
   obtain⟨hbn,Qd,Qe⟩:=Sl.lens BI
   simp only at hln zO Gh hxl hbn Qd Qe
   subst hln hbn
   have TW:=ah hxl
   have TG:=ah iV.out.lens
   have XJ:=ah iV.out.tot
   have HP:Hid (∀i,i≤xs.length→0≤bR b2.free∧0≤iU (b2.ls.take i)∧bR b2.free+iU (b2.ls.take i)+b2.bound.length≤40):=ah (fun i hi=>by
    have h0:=(pG iV.out.fr iV.out.top).2
    have h1:=yw (L:=b2.ls.take i) (fun x hx=>iV.out.ls x (List.mem_of_mem_take hx))
    have h2:=yw (L:=b2.ls.drop i) (fun x hx=>iV.out.ls x (List.mem_of_mem_drop hx))
    have h3:iU b2.ls=iU (b2.ls.take i)+iU (b2.ls.drop i):=by
     rw[←sO,List.take_append_drop]
    have:=XJ.out
    omega)
   have hl3:=(bg L3.out).1
   clear hxs hxl BI
   generalize hfl:bR b2.free=FL at*
   generalize hbl:b2.bound.length=bl at*
   have HFL:=ah hfl
   obtain⟨hP0,hP1,hP2⟩:=HP.out 0 (Nat.zero_le _)
   clear hfl hbl
   go_upto_region 19 with fail
   go_cut[12] (fun v12 wx=>v12= .int .i64 (FL+bl)∧Below W6.heap.size W6 wx)
   case first=>
    refine aS 7 (fun w'=>Below W6.heap.size W6 w') (by kernel_rfl) ?_
    have hS0:Below W6.heap.size W6 W6.drew:=(aL _ _).drew
    have Yb:Hid (∀w',Below W6.heap.size W6 w'→w'.cell? ⟨p3,1,none⟩=some (.slice fa aX fc)∧w'.cell? ⟨p3,3,none⟩=some (.slice ba bl bc)):=ah (fun w' hw=>by
     obtain⟨_,a1,_,a3,_⟩:=ay (aj L3.out hw hl3)
     exact⟨a1,a3⟩)
    refine aG (i:=0) (v:=.pointer (some ⟨p3,1,none⟩)) rfl (by kernel_rfl) (by kernel_rfl) (by kernel_rfl) (by decide) (fun _ _ _ h=>h) (.inl ⟨rfl,fun w' _=>?_⟩) hS0 ?_
    ·go_simp
    refine aD (i:=1) (v:=.slice fa aX fc) rfl rfl (by kernel_rfl) (by kernel_rfl) (by kernel_rfl) (by kernel_rfl) (by kernel_rfl) (by decide) (fun _ _ _ h=>h) (.inl ⟨rfl,fun w' hw=>?_⟩) hS0 ?_
    ·have e1:=(Yb.out w' hw).1
     go_simp
    refine aG (i:=3) (v:=.pointer (some ⟨p3,3,none⟩)) rfl (by kernel_rfl) (by kernel_rfl) (by kernel_rfl) (by decide) (fun _ _ _ h=>h) (.inl ⟨rfl,fun w' _=>?_⟩) hS0 ?_
    ·go_simp
    refine aD (i:=4) (v:=.slice ba bl bc) rfl rfl (by kernel_rfl) (by kernel_rfl) (by kernel_rfl) (by kernel_rfl) (by kernel_rfl) (by decide) (fun _ _ _ h=>h) (.inl ⟨rfl,fun w' hw=>?_⟩) hS0 ?_
    ·have e1:=(Yb.out w' hw).2
     go_simp
    refine aG (i:=5) (v:=.int .i64 bl) rfl (by kernel_rfl) (by kernel_rfl) (by kernel_rfl) (by decide) (fun _ _ _ h=>h) (.inl ⟨rfl,fun w' _=>?_⟩) hS0 ?_
    ·go_simp
    refine aF (i:=2) (by kernel_rfl) rfl rfl ?_
    go_simp
    refine(rZ _ b2.free _ (fq.keep HF.out hS0 (aC _)) iV.out.fr.1 (by have:=TG.out;omega)).mono ?_
    rw[HFL.out]
    rintro e V ⟨rfl,hb⟩
    have hS1:=hS0.trans (hb.mono hS0.size)
    refine⟨hS1,?_⟩
    have i1:IntKind.i64.wrap (FL+bl)=FL+bl:=IntWalk.i64_in _ (by omega)
    refine aF (i:=6) (by kernel_rfl) rfl rfl ?_
    go_simp
    first | refine⟨hS1,?_⟩ | skip
    refine aF (i:=7) (by kernel_rfl) rfl rfl ?_
    go_simp
    refine aT (by kernel_rfl) ?_
    go_wp2
    go_meet
    exact⟨rfl,hS1⟩
   case rest=>
   obtain⟨rfl,BL⟩:=hcut
   have BJ:=ah BL
   clear BL hP0 hP1 hP2
   go_wp2
   go_loopw[12,13] (fun v12 v13 wq=>∃ (i:Nat) (N:Int),i≤xs.length∧v13= .int .i64 i∧v12= .int .i64 N∧Hid (N=FL+iU (b2.ls.take i)+bl)∧Below W6.heap.size W6 wq) (fun _ v13 _=>xs.length-(intOf v13).toNat)
   case atStart=>exact⟨0,FL+bl,Nat.zero_le _,rfl,rfl,ah (by simp[iU]),BJ.out⟩
   case round=>
    clear BJ
    obtain⟨i,N,hi,rfl,rfl,HN,hbq⟩:=hrel
    obtain⟨a0,a1,a2,a3,iN⟩:=ay (aj L3.out hbq hl3)
    clear iN
    simp only[Sv.v]at a0 a1 a2 a3
    have Qf:=ah hbq
    by_cases hil:i<xs.length
    ·have Pk:(i:Int)<xs.length:=by omega
     have pK:i<b2.ls.length:=by rw[←HLEN.out];exact hil
     obtain⟨lb,lo,rfl,hlb,e0,e1,e2,e3,e4,e5,e6⟩:=cK.ls TW.out hbq (aC _) i hil
     have Pq:=(bI.at Kk.out i hil pK).i
     have HL:=ah (iV.out.ls _ (List.getElem_mem pK))
     have wE:Hid (iU (b2.ls.take (i+1))=iU (b2.ls.take i)+bR b2.ls[i].ids):=ah (by rw[aV _ i pK,sO];simp[iU])
     have HPX:=ah (HP.out (i+1) (by omega))
     generalize b2.ls[i]=li at*
     generalize xs[i]=zi at*
     obtain⟨z1,z2,z3,z4,⟨z5,z6,z7⟩,⟨z8,z9,dD⟩,⟨dI,z12,dJ⟩⟩:=zi
     simp only[Sv.v]at e0 e1 e2 e3 e4 e5 e6 Pq
     have HMI:=ah Pq
     clear Pq e0 e1 e2 e3 e4 e6
     go_wp2_with fail
     refine(rZ _ li.ids _ (fq.keep HMI.out Qf.out (aC _)) HL.out.row.1 (by have:=HL.out.lens;omega)).mono ?_
     rintro e V ⟨rfl,hb⟩
     have HV:=ah (Qf.out.trans (hb.mono Qf.out.size))
     have NU:=ah HL.out.lens
     have hr0:=(pG HL.out.row HL.out.top).2
     have hnb:0≤N∧N≤40:=by
      have h1:=HN.out
      have h2:=HP.out i hi
      omega
     have i1:IntKind.i64.wrap (N+bR li.ids)=N+bR li.ids:=IntWalk.i64_in _ (by have:=NU.out;omega)
     clear a0 a1 a2 a3 hb hr0 hnb e5
     go_wp2
     go_roundw
     case rel=>exact⟨i+1,N+bR li.ids,by omega,by go_num,by go_num,ah (by have h1:=HN.out;have h2:=wE.out;omega),HV.out⟩
     case measure=>simp[intOf];omega
    ·have Pk:¬ (i:Int)<xs.length:=by omega
     have hN:N=40:=by
      have h1:=HN.out
      have h2:=XJ.out
      have h3:=HLEN.out
      have h4:b2.ls.take i=b2.ls:=List.take_of_length_le (by omega)
      rw[h4]at h1
      omega
     clear HN
     subst hN
     go_wp2
     go_roundw
     case rel=>exact⟨k+1,by omega,by go_num,b2,_,_,iV.out,aj L3.out Qf.out hl3,aj L4.out Qf.out (bg L4.out).1,LY.out.keep Qf.out (aC _),LZ.out.keep Qf.out (aC _),LB.out.trans (Qf.out.mono LB.out.size)⟩
     case measure=>simp[intOf];omega
  ·obtain⟨_,_,_,_,_,_,_,_,hbw⟩:=hto
   have iG:¬ (k:Int)<l.length:=by omega
   go_wp2
   go_meet
   exact hbw
end Go.Proofs.YtlfopoimbbpfdaaGreat
