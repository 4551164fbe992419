/- What the law asks, in parts: ZI. -/
import Derived.Deep.DrawnRows
import Derived.Test.YtlfopoimbbpfdaaGreatPk20
import Derived.Test.YtlfopoimbbpfdaaGreatPk6
set_option linter.all false
namespace Go.Proofs.YtlfopoimbbpfdaaGreat
open Go.RowKit
theorem uT.grown {w0 W W':World} {T T':TypeId} {E E':Nat} {v v':Value} {n n' base':Nat} {cs cs':List Value} (h:uT w0 W T E v n cs) (hv:W.ownsRow base' T' E' v' n' cs') (hg:W.grownBy W' v'.ownBlock) (hne:T≠T'):uT w0 W' T E v n cs:=by
 rcases h with h | h
 ·exact .inl h
 ·exact .inr (qG h hv hg hne)
def nS (b:Bk) (d ep:Int):Bk×Int:=
 if (fD b d ep).2=false then(b,2)
 else(⟨(fD b d ep).1.sl.foldl dY b.cs,bG b.free ((fD b d ep).1.used.foldl dN (fD b d ep).1.ids),b.ls.eraseIdx (jG b.ls d).toNat,(fD b d ep).1.used.foldl fU b.bound⟩,0)
structure xO (b:Bk) (l:Ls):Prop where
 nc:b.cs.length<1000
 nf:b.free.length<10000
 nl:b.ls.length<10000
 nb:b.bound.length<10000
 ns:l.sl.length<1000
 nu:l.used.length<10000
 fr:cZ b.free
 row:cZ l.ids
 len:bR l.ids<10000
 ct:ET 2199023255552 b.cs
 sc:∀s∈l.sl,NP s
 used:∀n∈l.used,-1000000000000<n∧n<1000000000000
theorem Fa (us:List Int):∀bd:List Int,(us.foldl fU bd).length=bd.length+us.length:=by
 induction us with
 | nil=>intro bd;simp
 | cons u us ih=>
  intro bd
  rw[List.foldl_cons,ih]
  have h:(fU bd u).length=bd.length+1:=by
   unfold fU
   rw[List.length_append,List.length_cons]
   have:=congrArg List.length (List.takeWhile_append_dropWhile (p:=fun x=>decide (x<u)) (l:=bd))
   rw[List.length_append]at this
   omega
  rw[h,List.length_cons]
  omega
theorem sw (l:List bV) (k:Nat):(aK iZ l).take (k*7)=aK iZ (l.take k):=by
 induction l generalizing k with
 | nil=>simp[aK]
 | cons x l ih=>
  cases k with
  | zero=>simp[aK]
  | succ k=>
   have e:(k+1)*7=k*7+7:=by omega
   rw[List.take_succ_cons,aU,aU,←ih k,e]
   simp[iZ]
theorem sD (l:List bV) (k:Nat):(aK iZ l).drop (k*7)=aK iZ (l.drop k):=by
 induction l generalizing k with
 | nil=>simp[aK]
 | cons x l ih=>
  cases k with
  | zero=>simp
  | succ k=>
   have e:(k+1)*7=k*7+7:=by omega
   rw[List.drop_succ_cons,aU,←ih k,e]
   simp[iZ]
theorem xP {l:List Rg} (rs:List Rg) (hl:cZ l) (hr:cZ rs):cZ (bG l rs):=(oN rs l hl (fun r h=>hr.1 r h)).1
attribute [local go_sem ↓] Go.wp_at_zero Go.wp_at_succ
set_option maxRecDepth 100000 in
set_option maxHeartbeats 8000000 in
theorem I8 (x:bZ) (b:Bk) (d ep:Int) (w:World) (h:eD w x b) (hl:zN b) (hF:(fD b d ep).2=true→xO b (fD b d ep).1):
  Calls Tryz.prog 29 #[fT x,.int .i64 d,.int .i64 ep] w (kH w (nS b d ep)):=by
 obtain⟨⟨ca,cn,cc⟩,⟨fa,aX,fc⟩,⟨la,ln,lc⟩,⟨ba,b_n,bc⟩⟩:=x
 obtain⟨W3,hW3,k0,k1,hb1,hz1⟩:∃W3,((w.alloc (.cells #[.slice ca cn cc,.slice fa aX fc,.slice la ln lc,.slice ba b_n bc] 30)).alloc (.cells #[.slice none 0 0,.slice none 0 0,.slice none 0 0,.slice none 0 0] 30))=W3∧W3.heap[w.heap.size]? =some (.cells #[.slice ca cn cc,.slice fa aX fc,.slice la ln lc,.slice ba b_n bc] 30 (0,0))∧W3.heap[w.heap.size+1]? =some (.cells #[.slice none 0 0,.slice none 0 0,.slice none 0 0,.slice none 0 0] 30 (0,0))∧Below w.heap.size w W3∧W3.heap.size=w.heap.size+2:=⟨_,rfl,bJ _ _ _,bE _ _ _,((aL _ _).alloc (aC _) _).alloc (by simp) _,by simp⟩
 have Ol:=ah h
 have HM:=ah (h.keep hb1 (aC _))
 have HB:=ah hl
 have TM:=ah hF
 have HW3:=ah hW3
 have HZ1:=ah hz1
 have qh:=ah k0
 have fJ:=ah k1
 have dV:=ah hb1
 clear h hl hF hW3 hz1 k0 k1 hb1
 change Calls Tryz.prog _ #[.agg #[.slice ca cn cc,.slice fa aX fc,.slice la ln lc,.slice ba b_n bc],.int .i64 d,.int .i64 ep] w _
 obtain⟨c0,c1,c2,c3,_⟩:=ay qh.out
 go_enter Tryz.func29,Tryz.ntmps29
 go_upto_region 1 with fail
 rw[HW3.out]
 go_wp2_with fail
 refine(zU ⟨⟨ca,cn,cc⟩,⟨fa,aX,fc⟩,⟨la,ln,lc⟩,⟨ba,b_n,bc⟩⟩ b d ep _ HM.out HB.out).mono ?_
 obtain⟨⟨l,q⟩,hlq⟩:∃r:Ls×Bool,fD b d ep=r:=⟨_,rfl⟩
 rw[hlq]
 rintro e w4 ⟨⟨y1,y2,y3,y4,⟨y5,y6,y7⟩,⟨y8,y9,bW⟩,⟨bX,cB,y13⟩⟩,rfl,hy,hb4⟩
 simp only at hy
 have Yt:=ah hlq
 clear hlq
 obtain⟨q6,_,_⟩:=Sl.lens (s:=⟨y5,y6,y7⟩) (aI hy.s)
 obtain⟨q9,_,_⟩:=Sl.lens (s:=⟨y8,y9,bW⟩) (aI hy.i)
 obtain⟨Vd,_,_⟩:=Sl.lens (s:=⟨bX,cB,y13⟩) (aI hy.u)
 simp only at q6 q9 Vd
 subst q6 q9 Vd
 have hz1:=HZ1.out
 have hk0:=aj qh.out hb4 (by omega)
 have hk2:=aj fJ.out hb4 (by omega)
 have dK:Below w4.heap.size w4 (w4.alloc (.cells #[.int .i64 y1,.int .i64 y2,.int .i64 y3,.int .i64 y4,.slice y5 l.sl.length y7,.slice y8 l.ids.length bW,.slice bX l.used.length y13] 48)):=(aL _ _).alloc (aC _) _
 have VI:=hb4.trans (dK.mono hb4.size)
 have HY:=ah ((hy.base (show w.heap.size≤W3.heap.size by omega)).keep dK (aC _))
 have n_:=ah (aj hk0 dK (bg hk0).1)
 have dO:=ah (aj hk2 dK (bg hk2).1)
 have HQ8:=ah (heap_alloc_new w4 (.cells #[.int .i64 y1,.int .i64 y2,.int .i64 y3,.int .i64 y4,.slice y5 l.sl.length y7,.slice y8 l.ids.length bW,.slice bX l.used.length y13] 48))
 have jd:=ah (dV.out.trans (VI.mono dV.out.size))
 have hs4:=hb4.size
 have jT:w.heap.size<(w4.alloc (.cells #[.int .i64 y1,.int .i64 y2,.int .i64 y3,.int .i64 y4,.slice y5 l.sl.length y7,.slice y8 l.ids.length bW,.slice bX l.used.length y13] 48)).heap.size:=by simp;omega
 have hp8:w.heap.size+2≤w4.heap.size:=by omega
 clear hk0 hk2 dK VI hb4 hy c0 c1 c2 c3 HM dV qh fJ hs4 hz1
 go_upto_region 2 with fail
 generalize w4.alloc (.cells #[.int .i64 y1,.int .i64 y2,.int .i64 y3,.int .i64 y4,.slice y5 l.sl.length y7,.slice y8 l.ids.length bW,.slice bX l.used.length y13] 48)=w5 at*
 generalize w4.heap.size=p8 at*
 cases q with
 | false=>
  have HF:Hid (nS b d ep=(b,2)):=ah (by unfold nS;rw[Yt.out];rfl)
  obtain⟨d0,d1,d2,d3,_⟩:=ay n_.out
  obtain⟨e0,e1,e2,e3,_⟩:=ay dO.out
  have f0:=aA dO.out 0
  have f1:=aA dO.out 1
  have f2:=aA dO.out 2
  have f3:=aA dO.out 3
  go_wp2
  refine bodyPost_ret (v:=.tuple #[.agg #[.slice ca cn cc,.slice fa aX fc,.slice la ln lc,.slice ba b_n bc],.int .i64 2]) (by simp[results,Tryz.results29,go_sem, *]) rfl (show kH _ _ _ _ from ?_)
  have hbf:=(((jd.out.setCell (p:=⟨w.heap.size+1,0,none⟩) (by simp) (.slice ca cn cc)).setCell (p:=⟨w.heap.size+1,1,none⟩) (by simp) (.slice fa aX fc)).setCell (p:=⟨w.heap.size+1,2,none⟩) (by simp) (.slice la ln lc)).setCell (p:=⟨w.heap.size+1,3,none⟩) (by simp) (.slice ba b_n bc)
  rw[HF.out]
  exact⟨⟨⟨ca,cn,cc⟩,⟨fa,aX,fc⟩,⟨la,ln,lc⟩,⟨ba,b_n,bc⟩⟩,rfl,Ol.out.keep hbf (aC _),hbf⟩
 | true=>
  have nY:Hid (xO b l):=ah (by have:=TM.out;rw[Yt.out]at this;exact this rfl)
  have hnc:=nY.out.nc
  obtain⟨q3,q4,q5⟩:=Sl.lens (s:=⟨ca,cn,cc⟩) Ol.out.c
  simp only at q3 q4 q5
  subst q3
  have vE:=ah (cK.rd (f:=jE) (E:=7) (l:=b.cs) Ol.out.c)
  obtain⟨d0,d1,d2,d3,_⟩:=ay n_.out
  clear TM
  go_upto_region 5 with((with_reducible refine aY 31 ?_);refine kU rfl _ _ rfl w5.heap.size _ 0 [] rfl (cO _ _ _ _ 7 #[] 0 rfl (aC _) (by omega) rfl) ca b.cs.length cc b.cs rfl rfl ((vE.out.keep jd.out (aC _)).alloc _) (by omega) (by simp) ?_;intro v5 w6 fQ hg5 kP;obtain⟨nZ,cp,rfl,_,_⟩:=aP fQ;have hb5:=fB hg5;have k5:=aj n_.out hb5 (by omega);obtain⟨d0,d1,d2,d3,_⟩:=ay k5;have f00:=aA k5 0)
  rw[Nat.zero_add,List.nil_append]at fQ
  have VJ:Hid (∀V,V=w6.setCell ⟨w.heap.size,0,none⟩ (.slice nZ b.cs.length cp)→Rq w.heap.size (w.heap.size+1) p8 w V ⟨⟨nZ,b.cs.length,cp⟩,⟨fa,aX,fc⟩,⟨la,ln,lc⟩,⟨ba,b_n,bc⟩⟩ b ⟨y1,y2,y3,y4,⟨y5,l.sl.length,y7⟩,⟨y8,l.ids.length,bW⟩,⟨bX,l.used.length,y13⟩⟩ l):=ah (fun V hV=>by
   have hoth:∀c,c≠w.heap.size→V.heap[c]? =w6.heap[c]? :=fun c hc=>by rw[hV];exact aW _ _ _ (fun e=>hc e.symm) _
   have hsz:=(bg dO.out).1
   have hs8:=(bg HQ8.out).1
   have Rz:Below w.heap.size w V:=by rw[hV];exact(jd.out.trans (hb5.mono jd.out.size)).setCell (aC _) _
   have hle:w.heap.size≤w5.heap.size:=by omega
   have zZ:V.heap[p8]? =some _:=(hoth p8 (by omega)).trans (aj HQ8.out hb5 hs8)
   have hy5:=(HY.out.keep hb5 (aC _)).other (W':=V) hoth k5 (by decide) (by decide) (by decide)
   exact⟨Rz,by rw[hV];exact lu k5 _,(hoth _ (by omega)).trans (aj dO.out hb5 hsz),zZ,aC _,by omega,by omega,by omega,aH (aO fQ hle) hoth k5 (by decide),.inl Ol.out.f,Ol.out.l,.inl Ol.out.b,hy5⟩)
  have HRQ:=ah (VJ.out _ rfl)
  clear VJ fQ hg5 kP hb5 k5 d0 d1 d2 d3 f00 n_ dO HQ8 jd HY vE
  generalize w6.setCell ⟨w.heap.size,0,none⟩ (.slice nZ b.cs.length cp)=W7 at*
  have ZW:=nY.out.ns
  obtain⟨e0,e1,e2,e3,e4,e5,e6,_⟩:=aB HRQ.out.k8
  go_upto_block 0 with fail
  go_cut[] (fun wx=>Rq w.heap.size (w.heap.size+1) p8 w wx ⟨⟨nZ,b.cs.length,cp⟩,⟨fa,aX,fc⟩,⟨la,ln,lc⟩,⟨ba,b_n,bc⟩⟩ ⟨l.sl.foldl dY b.cs,b.free,b.ls,b.bound⟩ ⟨y1,y2,y3,y4,⟨y5,l.sl.length,y7⟩,⟨y8,l.ids.length,bW⟩,⟨bX,l.used.length,y13⟩⟩ l)
  case first=>
   go_wp2
   go_loopw[10] (fun v10 wr=>∃j:Nat,j≤l.sl.length∧v10= .int .i64 j∧Rq w.heap.size (w.heap.size+1) p8 w wr ⟨⟨nZ,b.cs.length,cp⟩,⟨fa,aX,fc⟩,⟨la,ln,lc⟩,⟨ba,b_n,bc⟩⟩ ⟨(l.sl.take j).foldl dY b.cs,b.free,b.ls,b.bound⟩ ⟨y1,y2,y3,y4,⟨y5,l.sl.length,y7⟩,⟨y8,l.ids.length,bW⟩,⟨bX,l.used.length,y13⟩⟩ l) (fun v10 _=>l.sl.length-(intOf v10).toNat)
   case atStart=>exact⟨0,Nat.zero_le _,rfl,HRQ.out⟩
   case round=>
    obtain⟨j,hj,rfl,hrq⟩:=hrel
    have nG:=ah hrq
    clear hrq e0 e1 e2 e3 e4 e5 e6
    obtain⟨e0,e1,e2,e3,e4,e5,e6,_⟩:=aB nG.out.k8
    simp only[Sv.v]at e4 e5 e6
    by_cases hlt:j<l.sl.length
    ·have uF:(j:Int)<l.sl.length:=by omega
     have j0:(0:Int)≤(j:Int):=by omega
     obtain⟨sb,so,rfl,hsb,s0,s1,s2,s3,s4⟩:=cK.sc (aI nG.out.ly.s) (aL _ _) (aC _) j hlt
     have QV:=ah (nY.out.sc l.sl[j] (List.getElem_mem hlt))
     have Eb:=ah (jY dY l.sl b.cs j hlt)
     have hub:=nP (l.sl.take j) 2199023255552 b.cs (by omega) nY.out.ct (fun s hs=>nY.out.sc s (List.mem_of_mem_take hs))
     have ZX:Hid (ET 4400000000000000 ((l.sl.take j).foldl dY b.cs)):=ah (hub.1.mono (by rw[List.length_take];omega))
     have JU:Hid (((l.sl.take j).foldl dY b.cs).length=b.cs.length):=ah hub.2
     have Om:Hid (∀V,Below wr.heap.size wr V→V.cell? ⟨sb,so+j*5,none⟩=some (.string l.sl[j].key)∧V.cell? ⟨sb,so+j*5+1,none⟩=some (.int .i64 l.sl[j].up)∧V.cell? ⟨sb,so+j*5+2,none⟩=some (.int .i64 l.sl[j].down)∧V.cell? ⟨sb,so+j*5+3,none⟩=some (.int .i64 l.sl[j].uu)∧V.cell? ⟨sb,so+j*5+4,none⟩=some (.int .i64 l.sl[j].ud)):=ah (fun V hV=>by
      refine⟨?_,?_,?_,?_,?_⟩
      ·rw[hV.cell (p:=⟨sb,so+j*5,none⟩) hsb];exact s0
      ·rw[hV.cell (p:=⟨sb,so+j*5+1,none⟩) hsb];exact s1
      ·rw[hV.cell (p:=⟨sb,so+j*5+2,none⟩) hsb];exact s2
      ·rw[hV.cell (p:=⟨sb,so+j*5+3,none⟩) hsb];exact s3
      ·rw[hV.cell (p:=⟨sb,so+j*5+4,none⟩) hsb];exact s4)
     clear hub s0 s1 s2 s3 s4
     generalize hcs:(l.sl.take j).foldl dY b.cs=cs at*
     generalize hse:l.sl[j]=s at*
     obtain⟨sk,su,sd,iA,jS⟩:=s
     simp only at Om
     obtain⟨c0,c1,c2,c3,_⟩:=ay nG.out.kb
     simp only[Sv.v]at c0 c1 c2 c3
     obtain⟨s0,_⟩:=Om.out _ (aL _ _)
     have KS:Hid (∀V,Below wr.heap.size wr V→(Below wr.heap.size wr V∧V.cell? ⟨w.heap.size,0,none⟩=some (.slice nZ b.cs.length cp)∧V.cell? ⟨w.heap.size,1,none⟩=some (.slice fa aX fc)∧V.cell? ⟨w.heap.size,2,none⟩=some (.slice la ln lc)∧V.cell? ⟨w.heap.size,3,none⟩=some (.slice ba b_n bc)∧V.cell? ⟨p8,4,none⟩=some (.slice (some ⟨sb,so,none⟩) l.sl.length y7)∧V.cell? ⟨sb,so+j*5,none⟩=some (.string sk))):=ah (fun V hV=>by
      obtain⟨a0,a1,a2,a3,_⟩:=ay (aj nG.out.kb hV nG.out.Yr)
      obtain⟨_,_,_,_,a4,_,_,_⟩:=aB (aj nG.out.k8 hV nG.out.VH)
      exact⟨hV,a0,a1,a2,a3,a4,(Om.out _ hV).1⟩)
     have Pt:Hid (∀V,Below wr.heap.size wr V→Calls Tryz.prog 50 #[.agg #[.slice nZ b.cs.length cp,.slice fa aX fc,.slice la ln lc,.slice ba b_n bc],.string sk] V fun e w'=>e= .returned (.int .i64 (bH cs sk))∧Below wr.heap.size wr w'):=
      ah (fun V hV=>(mR ⟨⟨nZ,b.cs.length,cp⟩,⟨fa,aX,fc⟩,⟨la,ln,lc⟩,⟨ba,b_n,bc⟩⟩ cs sk V (cK.keep nG.out.m.c hV (aC _))).mono (fun _ _ ⟨he,hb⟩=>⟨he,hV.trans (hb.mono hV.size)⟩))
     have hr0:Below wr.heap.size wr wr:=aL _ _
     go_upto_region 8 with fail
     go_cut[11] (fun v11 wx=>v11= .int .i64 (bH cs sk)∧Below wr.heap.size wr wx)
     case first=>
      go_region_held3 (fun w'=>Below wr.heap.size wr w'∧w'.cell? ⟨w.heap.size,0,none⟩=some (.slice nZ b.cs.length cp)∧w'.cell? ⟨w.heap.size,1,none⟩=some (.slice fa aX fc)∧w'.cell? ⟨w.heap.size,2,none⟩=some (.slice la ln lc)∧w'.cell? ⟨w.heap.size,3,none⟩=some (.slice ba b_n bc)∧w'.cell? ⟨p8,4,none⟩=some (.slice (some ⟨sb,so,none⟩) l.sl.length y7)∧w'.cell? ⟨sb,so+j*5,none⟩=some (.string sk))
       (first | assumption | exact KS.out _ (by assumption) | exact KS.out _ hr0.drew)
       ((go_at_call 50;(with_reducible refine(Pt.out _ (by go_split_ands;assumption)).mono ?_);rintro en w9 ⟨rfl,lN⟩))
      all_goals
       go_wp2
       go_meet
       exact⟨by rfl,by first | assumption | exact hr0.drew⟩
     case rest=>
     obtain⟨rfl,hbq⟩:=hcut
     obtain⟨W9,Rf⟩:∃W9,W9=wc:=⟨_,rfl⟩
     subst Rf
     have o7:=ah (nG.out.keep hbq)
     have Yu:=ah (Om.out _ hbq)
     clear hbq nG Om KS Pt hr0 c0 c1 c2 c3 s0 e0 e1 e2 e3 e4 e5 e6
     rcases bQ (fun c:Ct=>decide (c.key=sk)) cs with⟨hi,_⟩ | ⟨i,hi,hie,_,_⟩
     ·have IE:Hid (dY cs ⟨sk,su,sd,iA,jS⟩=cs):=ah (Di hi)
      rw[show bH cs sk= -1 from hi]
      clear hi
      go_wp2
      go_roundw
      case rel=>exact⟨j+1,by omega,by go_num,by rw[Eb.out,IE.out];exact o7.out⟩
      case measure=>simp[intOf];omega
     ·have IE:Hid (dY cs ⟨sk,su,sd,iA,jS⟩=(cs.set i ⟨cs[i].key,cs[i].coll,cs[i].lo,cs[i].hi,cs[i].start,cs[i].up+(su-iA),cs[i].down⟩).set i ⟨cs[i].key,cs[i].coll,cs[i].lo,cs[i].hi,cs[i].start,cs[i].up+(su-iA),cs[i].down+(sd-jS)⟩):=ah (Dh hi hie)
      rw[show bH cs sk=i from hie]
      clear hie
      have zX:=ah (ZX.out cs[i] (List.getElem_mem hi))
      have hcl:=JU.out
      obtain⟨cg,Q9,hcx⟩:=fu o7.out.rc (show 0<cs.length by omega)
      have Q_:nZ=some ⟨cg,0,none⟩:=by
       simp only[Sv.v]at hcx
       injection hcx
      subst Q_
      have hrow:=o7.out.rc
      simp only[Sv.v]at hrow
      rw[←hcl]at hrow
      obtain⟨p1,p2,p3,p4,p5,p6,p7⟩:=bq hrow
      have u5:W9.cell? ⟨cg,i*7+5,none⟩=some (.int .i64 cs[i].up):=p7 _ _ (by rw[bP dX _ i hi 5 (by omega)];rfl)
      have g5:=p6 (i*7+5)
      have Pk:(i:Int)<b.cs.length:=by omega
      have i0:(0:Int)≤(i:Int):=by omega
      have xH:Hid (Rq w.heap.size (w.heap.size+1) p8 w (W9.drew.setCell ⟨cg,i*7+5,none⟩ (.int .i64 (cs[i].up+(su-iA)))) ⟨⟨some ⟨cg,0,none⟩,b.cs.length,cp⟩,⟨fa,aX,fc⟩,⟨la,ln,lc⟩,⟨ba,b_n,bc⟩⟩ ⟨cs.set i ⟨cs[i].key,cs[i].coll,cs[i].lo,cs[i].hi,cs[i].start,cs[i].up+(su-iA),cs[i].down⟩,b.free,b.ls,b.bound⟩ ⟨y1,y2,y3,y4,⟨some ⟨sb,so,none⟩,l.sl.length,y7⟩,⟨y8,l.ids.length,bW⟩,⟨bX,l.used.length,y13⟩⟩ l):=
       ah ((o7.out.keep (aL _ _).drew).AB rfl (i*7+5) (by show _<cs.length*7;omega) _ (rW cs i hi _) (by simp))
      have ZY:Hid ((cs.set i ⟨cs[i].key,cs[i].coll,cs[i].lo,cs[i].hi,cs[i].start,cs[i].up+(su-iA),cs[i].down⟩)[i]? =some ⟨cs[i].key,cs[i].coll,cs[i].lo,cs[i].hi,cs[i].start,cs[i].up+(su-iA),cs[i].down⟩):=ah (by rw[List.getElem?_set_self hi])
      have hne:cg≠sb:=fun e=>by
       obtain⟨cur,hg⟩:=eu hrow
       have h2:=o7.out.ly.s
       obtain⟨aaA,hg2⟩:=jK h2 (g:=sb) rfl
       rw[e,hg2]at hg
       injection hg with hg
       injection hg with _ hg _
       exact absurd hg (by decide)
      have VK:Hid ((W9.drew.setCell ⟨cg,i*7+5,none⟩ (.int .i64 (cs[i].up+(su-iA)))).cell? ⟨sb,so+j*5+2,none⟩=some (.int .i64 sd)∧(W9.drew.setCell ⟨cg,i*7+5,none⟩ (.int .i64 (cs[i].up+(su-iA)))).cell? ⟨sb,so+j*5+4,none⟩=some (.int .i64 jS)):=ah (by
       have hh:(W9.drew.setCell ⟨cg,i*7+5,none⟩ (.int .i64 (cs[i].up+(su-iA)))).heap[sb]? =W9.heap[sb]? :=aW W9.drew _ _ hne _
       constructor
       ·have:=Yu.out.2.2.1
        simp only[World.cell?]at this⊢
        rw[hh];exact this
       ·have:=Yu.out.2.2.2.2
        simp only[World.cell?]at this⊢
        rw[hh];exact this)
      have hsc:=QV.out
      unfold NP at hsc
      simp only at hsc
      obtain⟨r1,r2,r3,r4,r5,r6⟩:=hsc
      obtain⟨o1,o2,o3,o4⟩:=zX.out
      generalize Z4:cs[i].up=cu at*
      generalize hcd:cs[i].down=cd at*
      have i1:IntKind.i64.wrap (cu+su)=cu+su:=IntWalk.i64_in _ (by omega)
      have i2:IntKind.i64.wrap (cu+su-iA)=cu+(su-iA):=by rw[show cu+su-iA=cu+(su-iA)by omega];exact IntWalk.i64_in _ (by omega)
      have i3:IntKind.i64.wrap (cd+sd)=cd+sd:=IntWalk.i64_in _ (by omega)
      have i4:IntKind.i64.wrap (cd+sd-jS)=cd+(sd-jS):=by rw[show cd+sd-jS=cd+(sd-jS)by omega];exact IntWalk.i64_in _ (by omega)
      have Ra:=ah (And.intro i3 i4)
      clear zX r1 r2 r3 r4 r5 r6 o1 o2 o3 o4 i3 i4 hrow p1 p2 p3 p4 p5 p6 p7 hne
      obtain⟨c0,c1,c2,c3,_⟩:=ay o7.out.kb
      simp only[Sv.v]at c0 c1 c2 c3
      obtain⟨_,_,_,_,e4,_,_,_⟩:=aB o7.out.k8
      simp only[Sv.v]at e4
      obtain⟨s0,s1,s2,s3,s4⟩:=Yu.out
      go_upto_region 10 with fail
      go_still_tail 25,(by kernel_rfl)
      change wpList _ _ _ _ _ W9.drew
      go_upto_region 11 with fail
      rw[show (W9.setCell ⟨cg,i*7+5,none⟩ (.int .i64 (cu+(su-iA)))).drew=W9.drew.setCell ⟨cg,i*7+5,none⟩ (.int .i64 (cu+(su-iA)))from rfl]
      have h10:=xH.out
      have aaB:=VK.out
      generalize hcs1:cs.set i ⟨cs[i].key,cs[i].coll,cs[i].lo,cs[i].hi,cs[i].start,cu+(su-iA),cd⟩=cs1 at*
      have hl1:cs1.length=b.cs.length:=by rw[←hcs1,List.length_set];exact hcl
      have hi1:i<cs1.length:=by omega
      have he1:cs1[i]=⟨cs[i].key,cs[i].coll,cs[i].lo,cs[i].hi,cs[i].start,cu+(su-iA),cd⟩:=by
       have:=ZY.out
       rw[List.getElem?_eq_getElem hi1]at this
       injection this
      have hrow:=h10.rc
      simp only[Sv.v]at hrow
      rw[←hl1]at hrow
      obtain⟨p1,p2,p3,p4,p5,p6,p7⟩:=bq hrow
      have v6:(W9.drew.setCell ⟨cg,i*7+5,none⟩ (.int .i64 (cu+(su-iA)))).cell? ⟨cg,i*7+6,none⟩=some (.int .i64 cd):=p7 _ _ (by rw[bP dX _ i hi1 6 (by omega),he1];rfl)
      have g6:=p6 (i*7+6)
      have JB:=h10.kb
      have zZ:=h10.k8
      have IG:=ah ((h10.keep (aL _ _).drew).AB rfl (i*7+6) (by show _<cs1.length*7;omega) (.int .i64 (cd+(sd-jS))) (rX cs1 i hi1 _) (by simp))
      clear hcs1 h10 hrow p1 p2 p3 p4 p5 p6 p7 c0 c1 c2 c3 s0 s1 s2 s3 s4 e4 g5 u5 xH VK o7 Yu
      generalize W9.drew.setCell ⟨cg,i*7+5,none⟩ (.int .i64 (cu+(su-iA)))=V1 at*
      obtain⟨c0,c1,c2,c3,_⟩:=ay JB
      simp only[Sv.v]at c0 c1 c2 c3
      obtain⟨_,_,_,_,e4,_,_,_⟩:=aB zZ
      simp only[Sv.v]at e4
      obtain⟨s2,s4⟩:=aaB
      clear JB zZ i1 i2
      obtain⟨i3,i4⟩:=Ra.out
      go_still_tail 25,(by kernel_rfl)
      change wpList _ _ _ _ _ V1.drew
      go_wp2
      rw[show (V1.setCell ⟨cg,i*7+6,none⟩ (.int .i64 (cd+(sd-jS)))).drew=V1.drew.setCell ⟨cg,i*7+6,none⟩ (.int .i64 (cd+(sd-jS)))from rfl]
      clear c0 c1 c2 c3 s2 s4 e4 i3 i4 g6 v6
      go_roundw
      case rel=>
       refine⟨j+1,by omega,by go_num,?_⟩
       have h11:=IG.out
       rw[he1]at h11
       simp only at h11
       rw[Eb.out,IE.out]
       exact h11
      case measure=>simp[intOf];omega
    ·have HE:Hid (j=l.sl.length):=ah (by omega)
     have uF:¬ (j:Int)<l.sl.length:=by omega
     go_wp2
     go_meet
     have h1:=nG.out
     rw[HE.out,List.take_length]at h1
     exact h1
  case rest=>
  obtain⟨W8,TQ⟩:∃W8,W8=wc:=⟨_,rfl⟩
  subst TQ
  have Gp:=ah hcut
  have hub:=nP l.sl 2199023255552 b.cs (by omega) nY.out.ct nY.out.sc
  have Ye:Hid ((l.sl.foldl dY b.cs).length=b.cs.length):=ah hub.2
  clear hcut HRQ hub e0 e1 e2 e3 e4 e5 e6
  have KP:Hid (∃cs,l.sl.foldl dY b.cs=cs):=ah ⟨_,rfl⟩
  obtain⟨cs,hcs⟩:=KP.out
  clear KP
  rw[hcs]at Gp Ye
  have UY:=ah hcs
  clear hcs
  have hnu:=nY.out.nu
  have hnb:=nY.out.nb
  have hll:=nY.out.len
  go_upto_block 2 with fail
  go_cut[] (fun wx=>∃iv bv:Sv,Rq w.heap.size (w.heap.size+1) p8 w wx ⟨⟨nZ,b.cs.length,cp⟩,⟨fa,aX,fc⟩,⟨la,ln,lc⟩,bv⟩ ⟨cs,b.free,b.ls,l.used.foldl fU b.bound⟩ ⟨y1,y2,y3,y4,⟨y5,l.sl.length,y7⟩,iv,⟨bX,l.used.length,y13⟩⟩ ⟨l.dev,l.epoch,l.bY,l.last,l.sl,l.used.foldl dN l.ids,l.used⟩)
  case first=>
   go_wp2
   go_loopw[12] (fun v12 wr=>∃ (j:Nat) (iv bv:Sv),j≤l.used.length∧v12= .int .i64 j∧Rq w.heap.size (w.heap.size+1) p8 w wr ⟨⟨nZ,b.cs.length,cp⟩,⟨fa,aX,fc⟩,⟨la,ln,lc⟩,bv⟩ ⟨cs,b.free,b.ls,(l.used.take j).foldl fU b.bound⟩ ⟨y1,y2,y3,y4,⟨y5,l.sl.length,y7⟩,iv,⟨bX,l.used.length,y13⟩⟩ ⟨l.dev,l.epoch,l.bY,l.last,l.sl,(l.used.take j).foldl dN l.ids,l.used⟩) (fun v12 _=>l.used.length-(intOf v12).toNat)
   case atStart=>exact⟨0,⟨y8,l.ids.length,bW⟩,⟨ba,b_n,bc⟩,Nat.zero_le _,rfl,Gp.out⟩
   case round=>
    obtain⟨j,⟨M6,Px,Lp⟩,⟨Dj,Dk,Dl⟩,hj,rfl,hrq⟩:=hrel
    have nG:=ah hrq
    clear hrq
    obtain⟨e0,e1,e2,e3,e4,e5,e6,_⟩:=aB nG.out.k8
    simp only[Sv.v]at e4 e5 e6
    by_cases hlt:j<l.used.length
    ·have uF:(j:Int)<l.used.length:=by omega
     have j0:(0:Int)≤(j:Int):=by omega
     obtain⟨ub,uo,rfl,hub,s0⟩:=iW.cell (aI nG.out.ly.u) (aL _ _) (aC _) j hlt
     have hkp:=lH (l.used.take j) l.ids nY.out.row
     have hls:=mo _ hkp.1.1
     have AQ:Hid (Small ((l.used.take j).foldl dN l.ids)):=ah hkp.1.1
     have hln:((l.used.take j).foldl dN l.ids).length<1000000:=by omega
     have hbl:((l.used.take j).foldl fU b.bound).length<100000:=by rw[Fa,List.length_take];omega
     have Vi:=ah (nY.out.used l.used[j] (List.getElem_mem hlt))
     have HSL:=ah (jY dN l.used l.ids j hlt)
     have NT:=ah (jY fU l.used b.bound j hlt)
     have Om:Hid (∀V,Below wr.heap.size wr V→V.cell? ⟨ub,uo+j,none⟩=some (.int .i64 l.used[j])):=ah (fun V hV=>by
      rw[hV.cell (p:=⟨ub,uo+j,none⟩) hub];exact s0)
     clear hkp hls
     generalize (l.used.take j).foldl dN l.ids=left at*
     generalize (l.used.take j).foldl fU b.bound=bd at*
     generalize l.used[j]=u at*
     have KS:Hid (∀V,Below wr.heap.size wr V→(Below wr.heap.size wr V∧V.cell? ⟨p8,5,none⟩=some (.slice M6 Px Lp)∧V.cell? ⟨p8,6,none⟩=some (.slice (some ⟨ub,uo,none⟩) l.used.length y13)∧V.cell? ⟨ub,uo+j,none⟩=some (.int .i64 u))):=ah (fun V hV=>by
      obtain⟨_,_,_,_,_,a5,a6,_⟩:=aB (aj nG.out.k8 hV nG.out.VH)
      exact⟨hV,a5,a6,Om.out _ hV⟩)
     have Pt:Hid (∀V,Below wr.heap.size wr V→Calls Tryz.prog 85 #[.slice M6 Px Lp,.int .i64 u] V fun e w'=>∃v',e= .returned (.tuple #[v',.bool (eB left u)])∧(eB left u=true→w'.ownsRow wr.heap.size 56 2 v' (bU left u).length (aR (bU left u)))∧Below wr.heap.size wr w'):=
      ah (fun V hV=>(I7 _ left u V (fq.keep (aI nG.out.ly.i) hV (aC _)) AQ.out hln Vi.out.1 Vi.out.2).mono (fun _ _ ⟨v',he,ho,hb⟩=>⟨v',he,fun hh=>aO (ho hh) hV.size,hV.trans (hb.mono hV.size)⟩))
     have hr0:Below wr.heap.size wr wr:=aL _ _
     go_upto_region 15 with fail
     go_cut[13,14] (fun v13 v14 wx=>v14= .bool (eB left u)∧(eB left u=true→wx.ownsRow wr.heap.size 56 2 v13 (bU left u).length (aR (bU left u)))∧Below wr.heap.size wr wx)
     case first=>
      go_region_held3 (fun w'=>Below wr.heap.size wr w'∧w'.cell? ⟨p8,5,none⟩=some (.slice M6 Px Lp)∧w'.cell? ⟨p8,6,none⟩=some (.slice (some ⟨ub,uo,none⟩) l.used.length y13)∧w'.cell? ⟨ub,uo+j,none⟩=some (.int .i64 u))
       (first | assumption | exact KS.out _ (by assumption) | exact KS.out _ hr0.drew)
       ((go_at_call 85;(with_reducible refine(Pt.out _ (by go_split_ands;assumption)).mono ?_);rintro en w9 ⟨v9,rfl,wO,lN⟩))
      all_goals
       go_wp2
       go_meet
       exact⟨by rfl,wO,lN⟩
     case rest=>
     obtain⟨rfl,wO,hbq⟩:=hcut
     obtain⟨W9,Rf⟩:∃W9,W9=wc:=⟨_,rfl⟩
     subst Rf
     have o7:=ah (nG.out.keep hbq)
     have VL:=ah (Om.out _ hbq)
     have VN:ub<W9.heap.size:=Nat.lt_of_lt_of_le hub hbq.size
     have VO:Hid (eB left u=true→W9.ownsRow w.heap.size 56 2 u13 (bU left u).length (aR (bU left u))):=ah (fun hh=>aO (wO hh) nG.out.aZ.size)
     clear wO hbq nG Om KS Pt hr0 e0 e1 e2 e3 e4 e5 e6 s0 hub
     have NU:Hid (dN left u=if eB left u=true then bU left u else left):=ah rfl
     generalize eB left u=q at*
     obtain⟨e0,e1,e2,e3,e4,e5,e6,_⟩:=aB o7.out.k8
     simp only[Sv.v]at e4 e5 e6
     have fr5:=ak o7.out.k8 5
     go_upto_if 118 with fail
     go_cut[] (fun wx=>∃iv:Sv,Rq w.heap.size (w.heap.size+1) p8 w wx ⟨⟨nZ,b.cs.length,cp⟩,⟨fa,aX,fc⟩,⟨la,ln,lc⟩,⟨Dj,Dk,Dl⟩⟩ ⟨cs,b.free,b.ls,bd⟩ ⟨y1,y2,y3,y4,⟨y5,l.sl.length,y7⟩,iv,⟨some ⟨ub,uo,none⟩,l.used.length,y13⟩⟩ ⟨l.dev,l.epoch,l.bY,l.last,l.sl,dN left u,l.used⟩∧wx.cell? ⟨ub,uo+j,none⟩=some (.int .i64 u)∧ub<wx.heap.size)
     case first=>
      have hnp:ub≠p8:=fun e=>by
       obtain⟨aaA,hg2⟩:=jK o7.out.ly.u (g:=ub) rfl
       have hg:=o7.out.k8
       rw[←e,hg2]at hg
       injection hg with hg
       injection hg with _ hg _
       exact absurd hg (by decide)
      cases q with
      | true=>
       have h1:=VO.out rfl
       obtain⟨Ay,TR,rfl,_,_⟩:=aP h1
       have xH:=ah (o7.out.Kg (i':=⟨Ay,_,TR⟩) h1)
       have hcl:(W9.setCell ⟨p8,5,none⟩ (.slice Ay (bU left u).length TR)).cell? ⟨ub,uo+j,none⟩=some (.int .i64 u):=by
        have hh:(W9.setCell ⟨p8,5,none⟩ (.slice Ay (bU left u).length TR)).heap[ub]? =W9.heap[ub]? :=aW W9 _ _ (fun e=>hnp e.symm) _
        have:=VL.out
        simp only[World.cell?]at this⊢
        rw[hh];exact this
       have aaC:=ah hcl
       clear h1 hcl
       go_wp2
       go_meet
       exact⟨⟨Ay,_,TR⟩,by rw[show dN left u=bU left u by rw[NU.out];simp];exact xH.out,aaC.out,by simp[World.setCell];omega⟩
      | false=>
       go_wp2
       go_meet
       exact⟨⟨M6,Px,Lp⟩,by rw[show dN left u=left by rw[NU.out];simp];exact o7.out,VL.out,VN⟩
     case rest=>
     obtain⟨⟨aaD,aaE,aaF⟩,hfc,Z4,aaG⟩:=hcut
     obtain⟨qI,KW⟩:∃qI,qI=wc:=⟨_,rfl⟩
     subst KW
     have Py:=ah hfc
     have hS0:Below qI.heap.size qI qI.drew:=(aL _ _).drew
     clear hfc o7 VL VO NU e0 e1 e2 e3 e4 e5 e6 fr5 VN
     go_upto_region 18 with fail
     refine aS 9 (fun w'=>Below qI.heap.size qI w') (by kernel_rfl) ?_
     refine aD (i:=0) (v:=.pointer (some ⟨w.heap.size,3,none⟩)) rfl rfl (by kernel_rfl) (by kernel_rfl) (by kernel_rfl) (by kernel_rfl) (by kernel_rfl) (by decide) (fun _ _ _ h=>h) (.inl ⟨rfl,fun w' hw=>?_⟩) hS0 ?_
     ·go_simp
     refine aD (i:=1) (v:=.slice Dj Dk Dl) rfl rfl (by kernel_rfl) (by kernel_rfl) (by kernel_rfl) (by kernel_rfl) (by kernel_rfl) (by decide) (fun _ _ _ h=>h) (.inl ⟨rfl,fun w' hw=>?_⟩) hS0 ?_
     ·obtain⟨a0,a1,a2,a3,_⟩:=ay (aj Py.out.kb hw Py.out.Yr)
      simp only[Sv.v]at a0 a1 a2 a3
      go_simp
     refine aD (i:=2) (v:=.pointer (some ⟨p8,6,none⟩)) rfl rfl (by kernel_rfl) (by kernel_rfl) (by kernel_rfl) (by kernel_rfl) (by kernel_rfl) (by decide) (fun _ _ _ h=>h) (.inl ⟨rfl,fun w' hw=>?_⟩) hS0 ?_
     ·go_simp
     refine aD (i:=3) (v:=.slice (some ⟨ub,uo,none⟩) l.used.length y13) rfl rfl (by kernel_rfl) (by kernel_rfl) (by kernel_rfl) (by kernel_rfl) (by kernel_rfl) (by decide) (fun _ _ _ h=>h) (.inl ⟨rfl,fun w' hw=>?_⟩) hS0 ?_
     ·obtain⟨a0,a1,a2,a3,a4,a5,a6,_⟩:=aB (aj Py.out.k8 hw Py.out.VH)
      simp only[Sv.v]at a4 a5 a6
      go_simp
     refine aD (i:=4) (v:=.int .i64 j) rfl rfl (by kernel_rfl) (by kernel_rfl) (by kernel_rfl) (by kernel_rfl) (by kernel_rfl) (by decide) (fun _ _ _ h=>h) (.inl ⟨rfl,fun w' hw=>?_⟩) hS0 ?_
     ·go_simp
     refine aD (i:=5) (v:=.pointer (some ⟨ub,uo+j,none⟩)) rfl rfl (by kernel_rfl) (by kernel_rfl) (by kernel_rfl) (by kernel_rfl) (by kernel_rfl) (by decide) (fun _ _ _ h=>h) (.inl ⟨rfl,fun w' hw=>?_⟩) hS0 ?_
     ·go_simp
     refine aD (i:=6) (v:=.int .i64 u) rfl rfl (by kernel_rfl) (by kernel_rfl) (by kernel_rfl) (by kernel_rfl) (by kernel_rfl) (by decide) (fun _ _ _ h=>h) (.inl ⟨rfl,fun w' hw=>?_⟩) hS0 ?_
     ·have a7:w'.cell? ⟨ub,uo+j,none⟩=some (.int .i64 u):=by rw[hw.cell (p:=⟨ub,uo+j,none⟩) aaG];exact Z4
      go_simp
     refine aF (i:=7) (by kernel_rfl) rfl rfl ?_
     go_simp
     refine(z_ _ bd u _ ((Py.out.rb.sl Py.out.aZ).keep (aL _ _).drew (aC _)) hbl).mono ?_
     rintro e Ba ⟨v',rfl,ho,ou⟩
     obtain⟨jl,cap',rfl,_,_⟩:=aP ho
     have iK:Below qI.heap.size qI Ba:=(aL qI.heap.size qI).drew.trans ou
     refine⟨iK,?_⟩
     have Aa:=Py.out.keep iK
     have Dx:=ah (Aa.Ry (b':=⟨jl,_,cap'⟩) (aO ho (show w.heap.size≤qI.drew.heap.size from Py.out.aZ.size)))
     obtain⟨a0,a1,a2,a3,_⟩:=ay Aa.kb
     have f3:=aA Aa.kb 3
     simp only[Sv.v]at a0 a1 a2 a3 Dx
     have Dm:=ah iK
     clear Aa ho ou iK
     refine aF (i:=8) (by kernel_rfl) rfl rfl ?_
     go_simp
     refine⟨Dm.out,?_⟩
     refine aF (i:=9) (by kernel_rfl) rfl rfl ?_
     go_simp
     refine aT (by kernel_rfl) ?_
     go_wp2
     go_roundw
     case rel=>exact⟨j+1,⟨aaD,aaE,aaF⟩,⟨jl,_,cap'⟩,by omega,by go_num,by rw[HSL.out,NT.out];exact Dx.out⟩
     case measure=>simp[intOf];omega
    ·have HE:Hid (j=l.used.length):=ah (by omega)
     have uF:¬ (j:Int)<l.used.length:=by omega
     go_wp2
     go_meet
     have h1:=nG.out
     rw[HE.out,List.take_length]at h1
     exact⟨_,_,h1⟩
  case rest=>
  obtain⟨⟨M6,Px,Lp⟩,⟨Dj,Dk,Dl⟩,hrq⟩:=hcut
  obtain⟨W9,Rf⟩:∃W9,W9=wc:=⟨_,rfl⟩
  subst Rf
  have o7:=ah hrq
  clear hrq Gp
  have hkp:=lH l.used l.ids nY.out.row
  have hls:=mo _ hkp.1.1
  have hln:(l.used.foldl dN l.ids).length<10000:=by omega
  have HRW:=ah hkp.1
  have hnf:=nY.out.nf
  have eO:Hid (nS b d ep=(⟨cs,bG b.free (l.used.foldl dN l.ids),b.ls.eraseIdx (jG b.ls d).toNat,l.used.foldl fU b.bound⟩,0)):=ah (by
   unfold nS
   rw[Yt.out]
   simp only
   rw[if_neg (by simp),UY.out])
  clear hkp hls
  generalize l.used.foldl dN l.ids=left at*
  generalize l.used.foldl fU b.bound=bd at*
  obtain⟨q9,_,_⟩:=Sl.lens (s:=⟨M6,Px,Lp⟩) (aI o7.out.ly.i)
  simp only at q9
  subst q9
  go_upto_block 4 with fail
  go_cut[] (fun wx=>∃fv:Sv,Rq w.heap.size (w.heap.size+1) p8 w wx ⟨⟨nZ,b.cs.length,cp⟩,fv,⟨la,ln,lc⟩,⟨Dj,Dk,Dl⟩⟩ ⟨cs,bG b.free left,b.ls,bd⟩ ⟨y1,y2,y3,y4,⟨y5,l.sl.length,y7⟩,⟨M6,left.length,Lp⟩,⟨bX,l.used.length,y13⟩⟩ ⟨l.dev,l.epoch,l.bY,l.last,l.sl,left,l.used⟩)
  case first=>
   go_wp2
   go_loopw[15] (fun v15 wr=>∃ (j:Nat) (fv:Sv),j≤left.length∧v15= .int .i64 j∧Rq w.heap.size (w.heap.size+1) p8 w wr ⟨⟨nZ,b.cs.length,cp⟩,fv,⟨la,ln,lc⟩,⟨Dj,Dk,Dl⟩⟩ ⟨cs,bG b.free (left.take j),b.ls,bd⟩ ⟨y1,y2,y3,y4,⟨y5,l.sl.length,y7⟩,⟨M6,left.length,Lp⟩,⟨bX,l.used.length,y13⟩⟩ ⟨l.dev,l.epoch,l.bY,l.last,l.sl,left,l.used⟩) (fun v15 _=>left.length-(intOf v15).toNat)
   case atStart=>exact⟨0,⟨fa,aX,fc⟩,Nat.zero_le _,rfl,o7.out⟩
   case round=>
    obtain⟨j,⟨KR,KT,KU⟩,hj,rfl,hrq⟩:=hrel
    have nG:=ah hrq
    clear hrq
    obtain⟨e0,e1,e2,e3,e4,e5,e6,_⟩:=aB nG.out.k8
    simp only[Sv.v]at e4 e5 e6
    by_cases hlt:j<left.length
    ·have uF:(j:Int)<left.length:=by omega
     have j0:(0:Int)≤(j:Int):=by omega
     obtain⟨rb,ro,rfl,hrb,r0,r1⟩:=fq.pair (aI nG.out.ly.i) (aL _ _) (aC _) j hlt
     have HAS:Hid (bG b.free (left.take (j+1))=gG (bG b.free (left.take j)) left[j]):=ah (by rw[aV left j hlt,lY])
     have hal:=gH (left.take j) b.free
     have KV:(bG b.free (left.take j)).length<1000000:=by rw[List.length_take]at hal;omega
     have oP:=ah (HRW.out.1 left[j] (List.getElem_mem hlt))
     have HAR:Hid (vw (bG b.free (left.take j)) left[j]=gG (bG b.free (left.take j)) left[j]):=ah (by
      rw[Ga (xP _ nY.out.fr (HRW.out.take j)) oP.out.2.1,vO oP.out])
     clear hal
     generalize bG b.free (left.take j)=fr at*
     generalize left[j]=r at*
     obtain⟨p,q⟩:=r
     simp only at r0 r1
     have hS0:Below wr.heap.size wr wr.drew:=(aL _ _).drew
     go_upto_region 22 with fail
     clear e0 e1 e2 e3 e4 e5 e6
     refine aS 9 (fun w'=>Below wr.heap.size wr w') (by kernel_rfl) ?_
     refine aD (i:=0) (v:=.pointer (some ⟨w.heap.size,1,none⟩)) rfl rfl (by kernel_rfl) (by kernel_rfl) (by kernel_rfl) (by kernel_rfl) (by kernel_rfl) (by decide) (fun _ _ _ h=>h) (.inl ⟨rfl,fun w' hw=>?_⟩) hS0 ?_
     ·go_simp
     refine aD (i:=1) (v:=.slice KR KT KU) rfl rfl (by kernel_rfl) (by kernel_rfl) (by kernel_rfl) (by kernel_rfl) (by kernel_rfl) (by decide) (fun _ _ _ h=>h) (.inl ⟨rfl,fun w' hw=>?_⟩) hS0 ?_
     ·obtain⟨a0,a1,a2,a3,_⟩:=ay (aj nG.out.kb hw nG.out.Yr)
      simp only[Sv.v]at a0 a1 a2 a3
      go_simp
     refine aD (i:=2) (v:=.pointer (some ⟨p8,5,none⟩)) rfl rfl (by kernel_rfl) (by kernel_rfl) (by kernel_rfl) (by kernel_rfl) (by kernel_rfl) (by decide) (fun _ _ _ h=>h) (.inl ⟨rfl,fun w' hw=>?_⟩) hS0 ?_
     ·go_simp
     refine aD (i:=3) (v:=.slice (some ⟨rb,ro,none⟩) left.length Lp) rfl rfl (by kernel_rfl) (by kernel_rfl) (by kernel_rfl) (by kernel_rfl) (by kernel_rfl) (by decide) (fun _ _ _ h=>h) (.inl ⟨rfl,fun w' hw=>?_⟩) hS0 ?_
     ·obtain⟨a0,a1,a2,a3,a4,a5,a6,_⟩:=aB (aj nG.out.k8 hw nG.out.VH)
      simp only[Sv.v]at a4 a5 a6
      go_simp
     refine aD (i:=4) (v:=.int .i64 j) rfl rfl (by kernel_rfl) (by kernel_rfl) (by kernel_rfl) (by kernel_rfl) (by kernel_rfl) (by decide) (fun _ _ _ h=>h) (.inl ⟨rfl,fun w' hw=>?_⟩) hS0 ?_
     ·go_simp
     refine aD (i:=5) (v:=.pointer (some ⟨rb,ro+j*2,none⟩)) rfl rfl (by kernel_rfl) (by kernel_rfl) (by kernel_rfl) (by kernel_rfl) (by kernel_rfl) (by decide) (fun _ _ _ h=>h) (.inl ⟨rfl,fun w' hw=>?_⟩) hS0 ?_
     ·go_simp
     refine aD (i:=6) (v:=.agg #[.int .i64 p,.int .i64 q]) rfl rfl (by kernel_rfl) (by kernel_rfl) (by kernel_rfl) (by kernel_rfl) (by kernel_rfl) (by decide) (fun _ _ _ h=>h) (.inl ⟨rfl,fun w' hw=>?_⟩) hS0 ?_
     ·have a7:w'.cell? ⟨rb,ro+j*2,none⟩=some (.int .i64 p):=by rw[hw.cell (p:=⟨rb,ro+j*2,none⟩) hrb];exact r0
      have a8:w'.cell? ⟨rb,ro+j*2+1,none⟩=some (.int .i64 q):=by rw[hw.cell (p:=⟨rb,ro+j*2+1,none⟩) hrb];exact r1
      go_simp
     refine aF (i:=7) (by kernel_rfl) rfl rfl ?_
     go_simp
     refine(wN _ fr p q _ ((nG.out.rf.sl nG.out.aZ).keep (aL _ _).drew (aC _)) KV oP.out.2.1 oP.out.1 oP.out.2.2).mono ?_
     rw[HAR.out]
     rintro e Ba ⟨v',rfl,ho,ou⟩
     obtain⟨jl,cap',rfl,_,_⟩:=aP ho
     have iK:Below wr.heap.size wr Ba:=(aL wr.heap.size wr).drew.trans ou
     refine⟨iK,?_⟩
     have Aa:=nG.out.keep iK
     have Dx:=ah (Aa.Az (f':=⟨jl,_,cap'⟩) (aO ho (show w.heap.size≤wr.drew.heap.size from nG.out.aZ.size)))
     obtain⟨a0,a1,a2,a3,_⟩:=ay Aa.kb
     have f1:=aA Aa.kb 1
     simp only[Sv.v]at a0 a1 a2 a3 Dx
     have Dm:=ah iK
     clear Aa ho ou iK
     refine aF (i:=8) (by kernel_rfl) rfl rfl ?_
     go_simp
     refine⟨Dm.out,?_⟩
     refine aF (i:=9) (by kernel_rfl) rfl rfl ?_
     go_simp
     refine aT (by kernel_rfl) ?_
     go_wp2
     go_roundw
     case rel=>exact⟨j+1,⟨jl,_,cap'⟩,by omega,by go_num,by rw[HAS.out];exact Dx.out⟩
     case measure=>simp[intOf];omega
    ·have HE:Hid (j=left.length):=ah (by omega)
     have uF:¬ (j:Int)<left.length:=by omega
     go_wp2
     go_meet
     have h1:=nG.out
     rw[HE.out,List.take_length]at h1
     exact⟨_,h1⟩
  case rest=>
  obtain⟨⟨KR,KT,KU⟩,hrq⟩:=hcut
  obtain⟨qI,KW⟩:∃qI,qI=wc:=⟨_,rfl⟩
  subst KW
  have VP:=ah hrq
  clear o7
  generalize bG b.free left=fr at*
  obtain⟨xs,hx,hxa⟩:=Ol.out.l
  simp only[Sv.v]at hx
  obtain⟨q3,g3,g4⟩:=Sl.lens (s:=⟨la,ln,lc⟩) hx
  simp only at q3 g3 g4
  subst q3
  have q_:=ah hxa
  have xq:=ah (cK.rd hx)
  have TW:=ah hxa.len
  have hxl:xs.length<10000:=by have:=nY.out.nl;have:=TW.out;omega
  have hcap:xs.length≤lc:=g3
  obtain⟨inf,eX,hz0,hz1,hz2⟩:=info_parts Tryz.oL
  have AV:=ah (And.intro eX hz1)
  have hrb:=hrq.m.l
  obtain⟨d0,d1,d2,d3,_⟩:=ay hrq.kb
  simp only[Sv.v]at d0 d1 d2 d3
  clear hx hxa hrq eX hz0 hz1 hz2 g3
  have La:Hid (∃k:Nat,k<b.ls.length∧jG b.ls d=k):=ah (by
   have h1:=Yt.out
   unfold fD at h1
   split at h1
   ·rename_i hh
    obtain⟨h2,_⟩:=hh
    rcases bQ (fun c:Ls=>decide (c.dev=d)) b.ls with⟨hi,_⟩ | ⟨k,hk,hi,_,_⟩
    ·have:jG b.ls d= -1:=hi
     omega
    ·exact⟨k,hk,hi⟩
   ·exact absurd (congrArg Prod.snd h1) (by simp))
  obtain⟨k,hk,hix⟩:=La.out
  have HIK:=ah hix
  have hkx:k<xs.length:=by have:=TW.out;omega
  go_wp2_with fail
  refine(vN ⟨⟨nZ,b.cs.length,cp⟩,⟨KR,KT,KU⟩,⟨la,xs.length,lc⟩,⟨Dj,Dk,Dl⟩⟩ b.ls d _ hrb).mono ?_
  rw[hix]
  rintro e Ba ⟨rfl,ou⟩
  have Oo:=ah (VP.out.keep ou)
  clear ou hrb d0 d1 d2 d3 VP hix La
  obtain⟨d0,d1,d2,d3,_⟩:=ay Oo.out.kb
  simp only[Sv.v]at d0 d1 d2 d3
  have hkl:(xs.take k).length=k:=by rw[List.length_take];omega
  have I9:=ah hkl
  have hkd:(xs.drop (k+1)).length=xs.length-(k+1):=List.length_drop
  have VQ:=ah hkd
  have kw:IntKind.i64.wrap ((k:Int)+1)=(k:Int)+1:=IntWalk.i64_in _ (by omega)
  have iG:(k:Int)<xs.length:=by omega
  have ae7:(k:Int)+1≤xs.length:=by omega
  clear hkl hkd
  go_upto_region 25 with first
   | ((with_reducible refine aY 153 ?_);refine jh rfl _ _ 27 rfl 48 inf 7 Tryz.underlying27 AV.out.1 AV.out.2 la xs.length lc k (aK iZ xs) rfl rfl (by omega) ((xq.out.keep Oo.out.aZ (aC _)).alloc _) ?_;intro a1 ha1;rw[sw]at ha1)
   | ((with_reducible refine aY 154 ?_);refine iO rfl _ _ rfl Ba.heap.size _ 0 [] rfl (cO _ _ _ _ 7 #[] 0 rfl (aC _) (by omega) rfl) a1 k lc (xs.take k) rfl I9.out ha1 (by omega) (by simp) ?_;intro v3 w3 ho3 hg3 j_)
  rw[Nat.zero_add,List.nil_append]at ho3
  have hb3:=fB hg3
  have iy:=ah ho3
  have xQ:=ah (Oo.out.keep hb3)
  have yY:Ba.heap.size≤w3.heap.size:=hb3.size
  clear ho3 hg3 j_ ha1 d0 d1 d2 d3 Oo
  obtain⟨d0,d1,d2,d3,_⟩:=ay xQ.out.kb
  have f2:=aA xQ.out.kb 2
  simp only[Sv.v]at d0 d1 d2 d3
  have VR:w.heap.size≤Ba.heap.size:=by have:=xQ.out.aZ.size;have:=hb3.size;omega
  go_upto_region 26 with first
   | ((with_reducible refine aY 160 ?_);refine f_ rfl _ _ 27 rfl 48 inf 7 Tryz.underlying27 AV.out.1 AV.out.2 la xs.length lc (k+1) (aK iZ xs) rfl rfl (by omega) hcap (xq.out.keep xQ.out.aZ (aC _)) (bL iB _) ?_;intro a2 ha2;rw[sD]at ha2)
   | ((with_reducible refine aY 161 ?_);refine iO rfl _ _ rfl Ba.heap.size v3 k (xs.take k) rfl iy.out a2 (xs.length-(k+1)) (lc-(k+1)) (xs.drop (k+1)) rfl VQ.out ha2 (by omega) yY ?_;intro v4 w4 iD hg4 iq;obtain⟨uI,zm,rfl,_,_⟩:=aP iD;have k4:=yV xQ.out.kb iy.out hg4 (by decide);obtain⟨d0,d1,d2,d3,_⟩:=ay k4;have f2:=aA k4 2)
  have hks:k+(xs.length-(k+1))=xs.length-1:=by omega
  rw[hks]at iD⊢
  rw[←List.eraseIdx_eq_take_drop_succ]at iD
  have VT:Below w.heap.size w w4:=xQ.out.aZ.grown hg4 (Nat.le_trans VR yY) (fun g hg=>Nat.le_trans VR (iy.out.lt g hg).1)
  have rc4:=qG xQ.out.rc iy.out hg4 (by decide)
  have rf4:=xQ.out.rf.grown iy.out hg4 (by decide)
  have rb4:=xQ.out.rb.grown iy.out hg4 (by decide)
  have k64:=yV xQ.out.k6 iy.out hg4 (by decide)
  have Ad:∀c,c≠w.heap.size→(w4.setCell ⟨w.heap.size,2,none⟩ (.slice uI (xs.length-1) zm)).heap[c]? =w4.heap[c]? :=fun c hc=>aW _ _ _ (fun e=>hc e.symm) _
  have vS:=ah (VT.setCell (p:=⟨w.heap.size,2,none⟩) (aC _) (.slice uI (xs.length-1) zm))
  have HRC:=ah (aH rc4 Ad k4 (by decide))
  have JC:=ah (rf4.other Ad k4 (by decide))
  have MX:=ah (rb4.other Ad k4 (by decide))
  have Vl:=ah (aH iD Ad k4 (by decide))
  have vv:=ah ((Ad (w.heap.size+1) (by omega)).trans k64)
  have qZ:=ah (jq k4 (.slice uI (xs.length-1) zm))
  clear iD hg4 iq VT rc4 rf4 rb4 k64 Ad k4 d0 d1 d2 d3 f2 xQ ha2
  generalize w4.setCell ⟨w.heap.size,2,none⟩ (.slice uI (xs.length-1) zm)=W5 at*
  have hk3:=qZ.out
  simp only[Sv.v]at hk3
  obtain⟨d0,d1,d2,d3,_⟩:=ay hk3
  obtain⟨e0,e1,e2,e3,_⟩:=ay vv.out
  have f0:=aA vv.out 0
  have f1:=aA vv.out 1
  have f2:=aA vv.out 2
  have f3:=aA vv.out 3
  clear hk3
  go_wp2
  refine bodyPost_ret (v:=.tuple #[.agg #[.slice nZ b.cs.length cp,.slice KR KT KU,.slice uI (xs.length-1) zm,.slice Dj Dk Dl],.int .i64 0]) (by simp[results,Tryz.results29,go_sem, *]) rfl (show kH _ _ _ _ from ?_)
  have hbf:=(((vS.out.setCell (p:=⟨w.heap.size+1,0,none⟩) (by simp) (.slice nZ b.cs.length cp)).setCell (p:=⟨w.heap.size+1,1,none⟩) (by simp) (.slice KR KT KU)).setCell (p:=⟨w.heap.size+1,2,none⟩) (by simp) (.slice uI (xs.length-1) zm)).setCell (p:=⟨w.heap.size+1,3,none⟩) (by simp) (.slice Dj Dk Dl)
  have Gv:∀c,c≠w.heap.size+1→((((W5.setCell ⟨w.heap.size+1,0,none⟩ (.slice nZ b.cs.length cp)).setCell ⟨w.heap.size+1,1,none⟩ (.slice KR KT KU)).setCell ⟨w.heap.size+1,2,none⟩ (.slice uI (xs.length-1) zm)).setCell ⟨w.heap.size+1,3,none⟩ (.slice Dj Dk Dl)).heap[c]? =W5.heap[c]? :=fun c hc=>bF W5 (w.heap.size+1) c (fun e=>hc e.symm) _ _ _ _ 0 1 2 3
  rw[eO.out]
  refine⟨⟨⟨nZ,b.cs.length,cp⟩,⟨KR,KT,KU⟩,⟨uI,xs.length-1,zm⟩,⟨Dj,Dk,Dl⟩⟩,rfl,⟨aI (aH HRC.out Gv vv.out (by decide)),(JC.out.other Gv vv.out (by decide)).sl hbf,⟨xs.eraseIdx k,?_,?_⟩,(MX.out.other Gv vv.out (by decide)).sl hbf⟩,hbf⟩
  ·have h9:=aI (aH Vl.out Gv vv.out (by decide))
   have hlen:(xs.eraseIdx k).length=xs.length-1:=by rw[List.length_eraseIdx,if_pos hkx]
   show Sl _ 7 (Value.slice uI (xs.length-1) zm) (xs.eraseIdx k).length _
   rw[hlen]
   exact h9
  ·rw[HIK.out]
   exact(q_.out.imp (fun _ _ r=>r.keep hbf (aC _))).erase k
end Go.Proofs.YtlfopoimbbpfdaaGreat
