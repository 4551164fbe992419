/- What the law asks, in parts: ZD. -/
import Derived.Test.YtlfopoimbbpfdaaGreatPk8
import Derived.Test.YtlfopoimbbpfdaaGreatPk16
set_option linter.all false
namespace Go.Proofs.YtlfopoimbbpfdaaGreat
open Go.RowKit
def kC (b:Bk) (l:Ls):Bk×Int:=if 0≤jG b.ls l.dev∧(b.ls.getD (jG b.ls l.dev).toNat mK).epoch=l.epoch then(⟨b.cs,b.free,b.ls.set (jG b.ls l.dev).toNat l,b.bound⟩,0)else(b,2)
theorem iC.up {W W':World} {B g:Nat} {y:bV} {l:Ls} (h:iC W B y l) (hoth:∀c,c≠g→W'.heap[c]? =W.heap[c]?) (hg:g<B):iC W' B y l:=h.ne hoth hg
set_option maxRecDepth 100000 in
set_option maxHeartbeats 8000000 in
theorem KX (x:bZ) (b:Bk) (z:bV) (l:Ls) (w:World) (h:eD w x b) (hl:zN b) (hz:lW w z l) (hlb:wJ l):
  Calls Tryz.prog 35 #[fT x,nI z] w (kH w (kC b l)):=by
 obtain⟨⟨ca,cn,cc⟩,⟨fa,aX,fc⟩,⟨la,ln,lc⟩,⟨ba,b_n,bc⟩⟩:=x
 obtain⟨z1,z2,z3,z4,⟨z5,z6,z7⟩,⟨z8,z9,dD⟩,⟨dI,z12,dJ⟩⟩:=z
 have hd1:z1=l.dev:=hz.dev
 have hd2:z2=l.epoch:=hz.epoch
 subst hd1 hd2
 have hls:=h.l
 obtain⟨xs,hx,hxa⟩:=hls
 simp only[Sv.v]at hx
 obtain⟨q3,g3,g4⟩:=Sl.lens (s:=⟨la,ln,lc⟩) hx
 simp only at q3 g3 g4
 subst q3
 obtain⟨w3,hw3,k0,k1,k2,hb1,hz1⟩:∃W,(((w.alloc (.cells #[.slice ca cn cc,.slice fa aX fc,.slice la xs.length lc,.slice ba b_n bc] 30)).alloc (.cells #[.int .i64 l.dev,.int .i64 l.epoch,.int .i64 z3,.int .i64 z4,.slice z5 z6 z7,.slice z8 z9 dD,.slice dI z12 dJ] 48)).alloc (.cells #[.slice none 0 0,.slice none 0 0,.slice none 0 0,.slice none 0 0] 30))=W∧W.heap[w.heap.size]? =some (.cells #[.slice ca cn cc,.slice fa aX fc,.slice la xs.length lc,.slice ba b_n bc] 30 (0,0))∧W.heap[w.heap.size+1]? =some (.cells #[.int .i64 l.dev,.int .i64 l.epoch,.int .i64 z3,.int .i64 z4,.slice z5 z6 z7,.slice z8 z9 dD,.slice dI z12 dJ] 48 (0,0))∧W.heap[w.heap.size+2]? =some (.cells #[.slice none 0 0,.slice none 0 0,.slice none 0 0,.slice none 0 0] 30 (0,0))∧Below w.heap.size w W∧W.heap.size=w.heap.size+3:=t_ w _ _ _
 have q_:=ah hxa
 have HX:=ah hx
 have HM:=ah h
 have HZ:=ah hz
 have HB:=ah hl
 have pI:=ah hlb
 have HW3:=ah hw3
 have qh:=ah k0
 have gF:=ah k1
 have fJ:=ah k2
 have dV:=ah hb1
 have HZ1:=ah hz1
 have HLEN:=ah hxa.len
 clear hxa hx h hz hl hlb hw3 k0 k1 k2 hb1 hz1
 obtain⟨c0,c1,c2,c3,_⟩:=ay qh.out
 obtain⟨n0,n1,n2,n3,n4,n5,n6,_⟩:=aB gF.out
 change Calls Tryz.prog _ #[.agg #[.slice ca cn cc,.slice fa aX fc,.slice la xs.length lc,.slice ba b_n bc],.agg #[.int .i64 l.dev,.int .i64 l.epoch,.int .i64 z3,.int .i64 z4,.slice z5 z6 z7,.slice z8 z9 dD,.slice dI z12 dJ]] w _
 go_enter Tryz.func35,Tryz.ntmps35
 go_upto_region 1 with fail
 rw[HW3.out]
 go_wp2_with fail
 refine(vN ⟨⟨ca,cn,cc⟩,⟨fa,aX,fc⟩,⟨la,xs.length,lc⟩,⟨ba,b_n,bc⟩⟩ b.ls l.dev _ (Aq.keep ⟨xs,HX.out,q_.out⟩ dV.out (aC _))).mono ?_
 rintro e w4 ⟨rfl,hb4⟩
 have hzz:=HZ1.out
 have n_:=ah (aj qh.out hb4 (by omega))
 have EC:=ah (aj gF.out hb4 (by omega))
 have dO:=ah (aj fJ.out hb4 (by omega))
 have II:=ah (dV.out.trans (hb4.mono dV.out.size))
 have jT:w.heap.size+2<w4.heap.size:=by have:=hb4.size;omega
 clear hb4 qh gF fJ dV HZ1 hzz c0 c1 c2 c3 n0 n1 n2 n3 n4 n5 n6 HW3
 obtain⟨d0,d1,d2,d3,_⟩:=ay n_.out
 obtain⟨n0,n1,n2,n3,n4,n5,n6,_⟩:=aB EC.out
 obtain⟨e0,e1,e2,e3,_⟩:=ay dO.out
 have f0:=aA dO.out 0
 have f1:=aA dO.out 1
 have f2:=aA dO.out 2
 have f3:=aA dO.out 3
 have f02:=aA n_.out 2
 have Vn:Hid (∀V,Below w.heap.size w V→kC b l=(b,2)→kH w (kC b l) (.returned (.tuple #[.agg #[.slice ca cn cc,.slice fa aX fc,.slice la xs.length lc,.slice ba b_n bc],.int .i64 2])) ((((V.setCell ⟨w.heap.size+2,0,none⟩ (.slice ca cn cc)).setCell ⟨w.heap.size+2,1,none⟩ (.slice fa aX fc)).setCell ⟨w.heap.size+2,2,none⟩ (.slice la xs.length lc)).setCell ⟨w.heap.size+2,3,none⟩ (.slice ba b_n bc))):=ah (fun V hV he=>by
  have hb:=(((hV.setCell (p:=⟨w.heap.size+2,0,none⟩) (by simp) (.slice ca cn cc)).setCell (p:=⟨w.heap.size+2,1,none⟩) (by simp) (.slice fa aX fc)).setCell (p:=⟨w.heap.size+2,2,none⟩) (by simp) (.slice la xs.length lc)).setCell (p:=⟨w.heap.size+2,3,none⟩) (by simp) (.slice ba b_n bc)
  rw[he]
  exact⟨⟨⟨ca,cn,cc⟩,⟨fa,aX,fc⟩,⟨la,xs.length,lc⟩,⟨ba,b_n,bc⟩⟩,rfl,HM.out.keep hb (aC _),hb⟩)
 rcases bQ (fun c:Ls=>decide (c.dev=l.dev)) b.ls with⟨hi,_⟩ | ⟨k,hk,hi,_,_⟩
 ·have HF:Hid (kC b l=(b,2)):=by show _=_;unfold kC jG;simp only[hi];rw[if_neg (by omega)]
  rw[show jG b.ls l.dev= -1 from hi]
  clear hi
  go_upto_region 2 with fail
  go_quiet (fail)
  go_wp2
  refine bodyPost_ret (v:=.tuple #[.agg #[.slice ca cn cc,.slice fa aX fc,.slice la xs.length lc,.slice ba b_n bc],.int .i64 2]) (by simp[results,Tryz.results35,go_sem, *]) rfl (show kH _ _ _ _ from Vn.out _ (below_drewN II.out _) HF.out)
 ·rw[show jG b.ls l.dev=k from hi]
  have hkx:k<xs.length:=by rw[HLEN.out];exact hk
  obtain⟨lb,lo,rfl,hlb,h0,h1,h2,h3,h4,h5,h6⟩:=cK.ls HX.out II.out (aC _) k hkx
  have HF:Hid (kC b l=if b.ls[k].epoch=l.epoch then(⟨b.cs,b.free,b.ls.set k l,b.bound⟩,0)else(b,2)):=by
   show _=_
   unfold kC jG
   simp only[hi]
   simp[List.getD,List.getElem?_eq_getElem hk]
  have he:xs[k].epoch=b.ls[k].epoch:=(bI.at q_.out k hkx hk).epoch
  rw[he]at h1
  have iG:(k:Int)<xs.length:=by omega
  have kd:decide ((k:Int)<0)=false:=by simp
  have hnl:=HB.out.nl
  have hxl:xs.length<1000000:=by have:=HLEN.out;omega
  by_cases hq:b.ls[k].epoch=l.epoch
  case neg=>
   have oK:Hid (kC b l=(b,2)):=ah (by rw[HF.out,if_neg hq])
   have hq1:(b.ls[k].epoch != l.epoch)=true:=by simpa using hq
   have hq2:(b.ls[k].epoch==l.epoch)=false:=by simpa using hq
   clear hq hi HF
   have HF:=ah oK.out
   clear oK
   go_upto_region 2 with fail
   go_quiet (fail)
   go_wp2
   refine bodyPost_ret (v:=.tuple #[.agg #[.slice ca cn cc,.slice fa aX fc,.slice (some ⟨lb,lo,none⟩) xs.length lc,.slice ba b_n bc],.int .i64 2]) (by simp[results,Tryz.results35,go_sem, *]) rfl (show kH _ _ _ _ from Vn.out _ (below_drewN II.out _) HF.out)
  case pos=>
   have oK:Hid (kC b l=(⟨b.cs,b.free,b.ls.set k l,b.bound⟩,0)):=ah (by rw[HF.out,if_pos hq])
   rw[hq]at h1
   clear hi HF hq
   have vE:=ah (cK.rd HX.out)
   go_upto_region 2 with fail
   go_cut[23] (fun v23 wx=>v23= .bool false∧Below w4.heap.size w4 wx)
   case first=>
    go_quiet (fail)
    go_wp2
    go_meet
    exact⟨rfl,below_drewN (aL _ _) _⟩
   case rest=>
   obtain⟨rfl,hbq⟩:=hcut
   obtain⟨W5,Bb⟩:∃W5,W5=wc:=⟨_,rfl⟩
   subst Bb
   have Ki:=ah (aj n_.out hbq (by omega))
   have Vo:=ah (aj EC.out hbq (by omega))
   have CG:=ah (aj dO.out hbq (by omega))
   have tQ:=ah (II.out.trans (hbq.mono II.out.size))
   have XW:w.heap.size+2<W5.heap.size:=by have:=hbq.size;omega
   clear hbq n_ EC dO II d0 d1 d2 d3 n0 n1 n2 n3 n4 n5 n6 e0 e1 e2 e3 f0 f1 f2 f3 f02 h0 h1 h2 h3 h4 h5 h6
   obtain⟨d0,d1,d2,d3,_⟩:=ay Ki.out
   go_upto_region 5 with((with_reducible refine aY 28 ?_);refine iO rfl _ _ rfl W5.heap.size _ 0 [] rfl (cO _ _ _ _ 7 #[] 0 rfl (aC _) (by omega) rfl) (some ⟨lb,lo,none⟩) xs.length lc xs rfl rfl ((vE.out.keep tQ.out (aC _)).alloc _) (by omega) (by simp) ?_;intro v5 w6 fQ hg5 kP;obtain⟨nZ,yF,rfl,_,_⟩:=aP fQ;have hb5:=fB hg5;have k5:=aj Ki.out hb5 (by omega);obtain⟨d0,d1,d2,d3,_⟩:=ay k5;have f02:=aA k5 2)
   rw[Nat.zero_add,List.nil_append]at fQ
   have hsome:=fu fQ (by omega)
   obtain⟨g,cap,hv⟩:=hsome
   injection hv with hv1 hv2 hv3
   subst hv1 hv3
   have hgt:W5.heap.size≤g:=(fQ.lt g rfl).1
   have hoth:∀c,c≠w.heap.size→(w6.setCell ⟨w.heap.size,2,none⟩ (.slice (some ⟨g,0,none⟩) xs.length yF)).heap[c]? =w6.heap[c]? :=fun c hc=>aW _ _ _ (fun e=>hc e.symm) _
   have HOR:=ah (aH fQ hoth k5 (by decide))
   have qh:=ah (jq k5 (.slice (some ⟨g,0,none⟩) xs.length yF))
   have gF:=ah ((hoth (w.heap.size+1) (by omega)).trans (aj Vo.out hb5 (by omega)))
   have fJ:=ah ((hoth (w.heap.size+2) (by omega)).trans (aj CG.out hb5 (by omega)))
   have Ec:=ah ((tQ.out.trans (hb5.mono tQ.out.size)).setCell (p:=⟨w.heap.size,2,none⟩) (aC _) (.slice (some ⟨g,0,none⟩) xs.length yF))
   clear fQ hg5 kP hb5 k5 hoth d0 d1 d2 d3 f02 Ki Vo CG tQ hv2
   generalize w6.setCell ⟨w.heap.size,2,none⟩ (.slice (some ⟨g,0,none⟩) xs.length yF)=W7 at*
   have NV:w.heap.size+2<W7.heap.size:=(bg fJ.out).1
   have Y_:=ah (HZ.out.keep Ec.out (aC _))
   have hS0:Below W7.heap.size W7 W7.drew:=(aL _ _).drew
   refine aS 6 (fun w'=>Below W7.heap.size W7 w') (by kernel_rfl) ?_
   refine aD (i:=0) (v:=.pointer (some ⟨w.heap.size,2,none⟩)) rfl rfl (by kernel_rfl) (by kernel_rfl) (by kernel_rfl) (by kernel_rfl) (by kernel_rfl) (by decide) (fun _ _ _ h=>h) (.inl ⟨rfl,fun w' hw=>?_⟩) hS0 ?_
   ·go_simp
   refine aD (i:=1) (v:=.slice (some ⟨g,0,none⟩) xs.length yF) rfl rfl (by kernel_rfl) (by kernel_rfl) (by kernel_rfl) (by kernel_rfl) (by kernel_rfl) (by decide) (fun _ _ _ h=>h) (.inl ⟨rfl,fun w' hw=>?_⟩) hS0 ?_
   ·obtain⟨_,_,c2,_,_⟩:=ay (aj qh.out hw (by omega))
    go_simp
   refine aD (i:=2) (v:=.int .i64 k) rfl rfl (by kernel_rfl) (by kernel_rfl) (by kernel_rfl) (by kernel_rfl) (by kernel_rfl) (by decide) (fun _ _ _ h=>h) (.inl ⟨rfl,fun w' hw=>?_⟩) hS0 ?_
   ·go_simp
   refine aD (i:=3) (v:=.agg #[.int .i64 l.dev,.int .i64 l.epoch,.int .i64 z3,.int .i64 z4,.slice z5 z6 z7,.slice z8 z9 dD,.slice dI z12 dJ]) rfl rfl (by kernel_rfl) (by kernel_rfl) (by kernel_rfl) (by kernel_rfl) (by kernel_rfl) (by decide) (fun _ _ _ h=>h) (.inl ⟨rfl,fun w' hw=>?_⟩) hS0 ?_
   ·obtain⟨c0,c1,c2,c3,c4,c5,c6,_⟩:=aB (aj gF.out hw (by omega))
    go_simp
   refine aF (i:=4) (by kernel_rfl) rfl rfl ?_
   go_simp
   refine(nM ⟨l.dev,l.epoch,z3,z4,⟨z5,z6,z7⟩,⟨z8,z9,dD⟩,⟨dI,z12,dJ⟩⟩ l _ (Y_.out.keep (aL _ _).drew (aC _)) pI.out).mono ?_
   rintro e w8 ⟨⟨y1,y2,y3,y4,⟨y5,y6,y7⟩,⟨y8,y9,bW⟩,⟨bX,cB,y13⟩⟩,rfl,hy,nE⟩
   have lQ:Below W7.heap.size W7 w8:=(aL W7.heap.size W7).drew.trans nE
   refine⟨lQ,?_⟩
   have K8:=aJ HOR.out lQ (aC _)
   have hset:=tN K8 k hkx ⟨y1,y2,y3,y4,⟨y5,y6,y7⟩,⟨y8,y9,bW⟩,⟨bX,cB,y13⟩⟩
   obtain⟨p1,p2,p3,p4,p5,p6,p7⟩:=bq K8
   have hat:∀j u,j<7→(iZ xs[k])[j]? =some u→w8.cell? ⟨g,k*7+j,none⟩=some u:=fun j u hj hu=>p7 _ _ (by rw[bP iB _ k hkx j hj];exact hu)
   have c0:=hat 0 _ (by omega) rfl
   have c1:=hat 1 _ (by omega) rfl
   have c2:=hat 2 _ (by omega) rfl
   have c3:=hat 3 _ (by omega) rfl
   have c4:=hat 4 _ (by omega) rfl
   have c5:=hat 5 _ (by omega) rfl
   have c6:=hat 6 _ (by omega) rfl
   simp only[Nat.add_zero]at c0
   have f0:=p6 (k*7)
   have f1:=p6 (k*7+1)
   have f2:=p6 (k*7+2)
   have f3:=p6 (k*7+3)
   have f4:=p6 (k*7+4)
   have f5:=p6 (k*7+5)
   have f6:=p6 (k*7+6)
   have hyo:iC w8 W7.heap.size _ l:=hy
   have Kh:=Ec.out.trans (lQ.mono Ec.out.size)
   have hB0:w.heap.size≤g:=by omega
   have QG:Hid (Below w.heap.size w (((((((w8.setCell ⟨g,k*7,none⟩ (.int .i64 y1)).setCell ⟨g,k*7+1,none⟩ (.int .i64 y2)).setCell ⟨g,k*7+2,none⟩ (.int .i64 y3)).setCell ⟨g,k*7+3,none⟩ (.int .i64 y4)).setCell ⟨g,k*7+4,none⟩ (.slice y5 y6 y7)).setCell ⟨g,k*7+5,none⟩ (.slice y8 y9 bW)).setCell ⟨g,k*7+6,none⟩ (.slice bX cB y13))):=ah (((((((Kh.setCell hB0 _).setCell hB0 _).setCell hB0 _).setCell hB0 _).setCell hB0 _).setCell hB0 _).setCell hB0 _)
   have hoth:∀c,c≠g→((((((((w8.setCell ⟨g,k*7,none⟩ (.int .i64 y1)).setCell ⟨g,k*7+1,none⟩ (.int .i64 y2)).setCell ⟨g,k*7+2,none⟩ (.int .i64 y3)).setCell ⟨g,k*7+3,none⟩ (.int .i64 y4)).setCell ⟨g,k*7+4,none⟩ (.slice y5 y6 y7)).setCell ⟨g,k*7+5,none⟩ (.slice y8 y9 bW)).setCell ⟨g,k*7+6,none⟩ (.slice bX cB y13))).heap[c]? =w8.heap[c]? :=fun c hc=>lq w8 g c hc (k*7) _ _ _ _ _ _ _
   have hge:g<W7.heap.size:=(HOR.out.lt g rfl).2
   have HYO:=ah (iC.up hyo hoth hge)
   have n_:=ah ((hoth w.heap.size (by omega)).trans (aj qh.out lQ (by omega)))
   have dO:=ah ((hoth (w.heap.size+2) (by omega)).trans (aj fJ.out lQ (by omega)))
   have Vb:=ah hset
   have aae:=ah lQ
   clear hy hyo hset nE lQ Kh hoth p1 p2 p3 p4 p5 p6 p7 hat K8 qh gF fJ HOR Ec
   generalize hxk:xs[k]=t at*
   obtain⟨t1,t2,t3,t4,⟨t5,t6,t7⟩,⟨t8,t9,t10⟩,⟨t11,t12,Zc⟩⟩:=t
   simp only[Sv.v]at c4 c5 c6
   refine aF (i:=5) (by kernel_rfl) rfl rfl ?_
   go_simp
   refine⟨aae.out,?_⟩
   refine aF (i:=6) (by kernel_rfl) rfl rfl ?_
   go_simp
   refine aT (by kernel_rfl) ?_
   generalize (((((((w8.setCell ⟨g,k*7,none⟩ (.int .i64 y1)).setCell ⟨g,k*7+1,none⟩ (.int .i64 y2)).setCell ⟨g,k*7+2,none⟩ (.int .i64 y3)).setCell ⟨g,k*7+3,none⟩ (.int .i64 y4)).setCell ⟨g,k*7+4,none⟩ (.slice y5 y6 y7)).setCell ⟨g,k*7+5,none⟩ (.slice y8 y9 bW)).setCell ⟨g,k*7+6,none⟩ (.slice bX cB y13))=W9 at*
   clear c0 c1 c2 c3 c4 c5 c6 f0 f1 f2 f3 f4 f5 f6
   obtain⟨d0,d1,d2,d3,_⟩:=ay n_.out
   obtain⟨e0,e1,e2,e3,_⟩:=ay dO.out
   have f0:=aA dO.out 0
   have f1:=aA dO.out 1
   have f2:=aA dO.out 2
   have f3:=aA dO.out 3
   go_wp2
   refine bodyPost_ret (v:=.tuple #[.agg #[.slice ca cn cc,.slice fa aX fc,.slice (some ⟨g,0,none⟩) xs.length yF,.slice ba b_n bc],.int .i64 0]) (by simp[results,Tryz.results35,go_sem, *]) rfl (show kH _ _ _ _ from ?_)
   have D9:w.heap.size+2<W9.heap.size:=(bg dO.out).1
   have hbf:=(((QG.out.setCell (p:=⟨w.heap.size+2,0,none⟩) (by simp) (.slice ca cn cc)).setCell (p:=⟨w.heap.size+2,1,none⟩) (by simp) (.slice fa aX fc)).setCell (p:=⟨w.heap.size+2,2,none⟩) (by simp) (.slice (some ⟨g,0,none⟩) xs.length yF)).setCell (p:=⟨w.heap.size+2,3,none⟩) (by simp) (.slice ba b_n bc)
   have hm:=HM.out.keep hbf (aC _)
   have hnp:w.heap.size+2<W5.heap.size:=XW
   have aaf:W5.heap.size≤W5.heap.size:=aC _
   rw[oK.out]
   refine⟨⟨⟨ca,cn,cc⟩,⟨fa,aX,fc⟩,⟨some ⟨g,0,none⟩,xs.length,yF⟩,⟨ba,b_n,bc⟩⟩,rfl,⟨hm.c,hm.f,⟨xs.set k ⟨y1,y2,y3,y4,⟨y5,y6,y7⟩,⟨y8,y9,bW⟩,⟨bX,cB,y13⟩⟩,?_,(q_.out.imp (fun _ _ r=>r.keep hbf (aC _))).set k ?_⟩,hm.b⟩,hbf⟩
   ·have h9:=aI (aM (aM (aM (aM (aO Vb.out aaf) ⟨w.heap.size+2,0,none⟩ hnp (.slice ca cn cc)) ⟨w.heap.size+2,1,none⟩ hnp (.slice fa aX fc)) ⟨w.heap.size+2,2,none⟩ hnp (.slice (some ⟨g,0,none⟩) xs.length yF)) ⟨w.heap.size+2,3,none⟩ hnp (.slice ba b_n bc))
    show Sl _ 7 (Value.slice (some ⟨g,0,none⟩) xs.length yF) (xs.set k _).length _
    rw[List.length_set]
    exact h9
   ·exact((((HYO.out.put ⟨w.heap.size+2,0,none⟩ NV (.slice ca cn cc)).put ⟨w.heap.size+2,1,none⟩ NV (.slice fa aX fc)).put ⟨w.heap.size+2,2,none⟩ NV (.slice (some ⟨g,0,none⟩) xs.length yF)).put ⟨w.heap.size+2,3,none⟩ NV (.slice ba b_n bc)).m
end Go.Proofs.YtlfopoimbbpfdaaGreat
