/- What the law asks, in parts: LTo Ca Cb Cc Cd Ce Cf. -/
import Derived.ChangeKeysEq
import Derived.Test.YtlfopoimbbpfdaaGreatPk12
import Derived.Test.YtlfopoimbbpfdaaGreatPk39
import Derived.Test.YtlfopoimbbpfdaaGreatPk4
set_option linter.all false
namespace Go.Proofs.YtlfopoimbbpfdaaGreat
open Go.RowKit
structure Mt (b:Bk) (key:ByteArray):Prop where
 ls:∀x∈b.ls,Pj x.sl
 su:bA key b.ls≤4611686018427387903
 sd:bB key b.ls≤4611686018427387903
 ct:∀c∈b.cs,(-2199023255552≤c.lo∧c.lo≤2199023255552)∧(-2199023255552≤c.hi∧c.hi≤2199023255552)∧(-2199023255552≤c.start∧c.start≤2199023255552)∧(-2199023255552≤c.up∧c.up≤2199023255552)∧ -2199023255552≤c.down∧c.down≤2199023255552
def uq (w:World) (l:List Int) (e:Ending) (w':World):Prop:=e= .returned (.agg (l.map (Value.int .i64)).toArray)∧Below w.heap.size w w'
theorem OT {w:World} {b:Nat} {x y:Value} {t:TypeId} (h:w.heap[b]? =some (.cells #[x,y] t (0,0))) (u v:Value):((w.setCell ⟨b,0,none⟩ u).setCell ⟨b,1,none⟩ v).heap[b]? =some (.cells #[u,v] t (0,0)):=by
 simp[World.setCell,Array.getElem?_modify,h]
theorem jD {w:World} {b:Nat} {a0 a1 a2 a3 a4 a5:Value} {t:TypeId} (h:w.heap[b]? =some (.cells #[a0,a1,a2,a3,a4,a5] t (0,0))):
  (w.cell? ⟨b,0,none⟩=some a0∧w.cell? ⟨b,1,none⟩=some a1∧w.cell? ⟨b,2,none⟩=some a2∧w.cell? ⟨b,3,none⟩=some a3∧w.cell? ⟨b,4,none⟩=some a4∧w.cell? ⟨b,5,none⟩=some a5)∧ ∀o,w.frozen? ⟨b,o,none⟩=false:=by
 refine⟨⟨?_,?_,?_,?_,?_,?_⟩,fun o=>?_⟩<;>simp[World.cell?,World.frozen?,h]
theorem Tryz.Xx (a b:Int) (w:World):(binOp .neq 86 (.agg #[.int .i64 a,.int .i64 b]) (.agg #[.int .i64 0,.int .i64 0])).run Tryz.prog w= .ok (.bool (!(decide (a=0)&&decide (b=0)))) w:=by
 have u3:= Tryz.underlying3
 have a3:= Tryz.isAgg3
 have z3:= Tryz.sizeOf3
 obtain⟨i,hi,_,_,_⟩:=info_parts Tryz.oM
 have hc: Tryz.prog.cellsOf 3 =1:=by kernel_rfl
 rw[run_neq_struct,show(10000:Nat)=9999+1 from rfl,run_equalIn_array w 9999 _ _ Tryz.underlying86 hi,hc,show List.range 2= [0,1]from rfl]
 simp only[Op.eqItems]
 go_simp
 by_cases g1:a=0<;>by_cases g2:b=0<;>simp[g1,g2]
set_option maxRecDepth 100000 in
set_option maxHeartbeats 8000000 in
theorem qL (x:bZ) (b:Bk) (key:ByteArray) (w:World) (h:eD w x b) (hB:Mt b key):
  Calls Tryz.prog 11 #[fT x,.string key] w (uq w (oh b key)):=by
 obtain⟨⟨ca,cn,cc⟩,⟨fa,aX,fc⟩,⟨la,ln,lc⟩,⟨ba,b_n,bc⟩⟩:=x
 obtain⟨xs,hx,hxs⟩:=h.l
 have HLEN:=ah hxs.len
 obtain⟨hn2,hcap2,hm2⟩:=Sl.lens hx
 simp only at hn2 hcap2 hm2 hx
 subst hn2
 have Kk:=ah hxs
 have HX:=ah hx
 have HC:=ah h.c
 obtain⟨hn1,hcap1,hm1⟩:=Sl.lens h.c
 simp only at hn1 hcap1 hm1
 subst hn1
 have HB:=ah hB
 have hb1:Below w.heap.size w ((w.alloc (.cells #[.slice ca b.cs.length cc,.slice fa aX fc,.slice la xs.length lc,.slice ba b_n bc] 30)).alloc (.cells #[.int .i64 0,.int .i64 0,.int .i64 0,.int .i64 0,.int .i64 0,.int .i64 0] 42)):=((aL _ _).alloc (aC _) _).alloc (by simp) _
 have k2:=bJ w (.cells #[.slice ca b.cs.length cc,.slice fa aX fc,.slice la xs.length lc,.slice ba b_n bc] 30) (.cells #[.int .i64 0,.int .i64 0,.int .i64 0,.int .i64 0,.int .i64 0,.int .i64 0] 42)
 have k4:=bE w (.cells #[.slice ca b.cs.length cc,.slice fa aX fc,.slice la xs.length lc,.slice ba b_n bc] 30) (.cells #[.int .i64 0,.int .i64 0,.int .i64 0,.int .i64 0,.int .i64 0,.int .i64 0] 42)
 have HM:=ah (h.c.keep hb1 (aC _))
 clear h hx hxs hB
 change Calls Tryz.prog _ #[.agg #[.slice ca b.cs.length cc,.slice fa aX fc,.slice la xs.length lc,.slice ba b_n bc],.string key] w _
 go_enter Tryz.func11,Tryz.ntmps11
 go_upto_region 1 with fail
 generalize (w.alloc (.cells #[.slice ca b.cs.length cc,.slice fa aX fc,.slice la xs.length lc,.slice ba b_n bc] 30)).alloc (.cells #[.int .i64 0,.int .i64 0,.int .i64 0,.int .i64 0,.int .i64 0,.int .i64 0] 42)=W1 at*
 obtain⟨d0,d1,d2,d3,iN⟩:=ay k2
 clear iN
 go_wp2_with fail
 refine(jy ⟨⟨ca,b.cs.length,cc⟩,⟨fa,aX,fc⟩,⟨la,xs.length,lc⟩,⟨ba,b_n,bc⟩⟩ b.cs key _ HM.out).mono ?_
 rintro e W2 ⟨rfl,hb2⟩
 have hz1:w.heap.size+1<W1.heap.size:=(bg k4).1
 have K2:=ah (aj k2 hb2 (by omega))
 have K4:=ah (aj k4 hb2 hz1)
 have dV:=ah (hb1.trans (hb2.mono hb1.size))
 clear d0 d1 d2 d3 k2 k4 hb1 hb2 HM hz1
 obtain⟨d0,d1,d2,d3,hz2⟩:=ay K2.out
 obtain⟨⟨r0,r1,r2,r3,r4,r5⟩,rf⟩:=jD K4.out
 have f0:=rf 0
 have f1:=rf 1
 have f2:=rf 2
 have f3:=rf 3
 have f4:=rf 4
 have f5:=rf 5
 have jT:w.heap.size+1<W2.heap.size:=(bg K4.out).1
 clear rf
 rcases bQ (fun c:Ct=>decide (c.key=key)) b.cs with⟨hi,_⟩ | ⟨k,hk,hi,_,_⟩
 ·have HF:Hid (oh b key= [0,0,0,0,0,0]):=by show _=_;unfold oh;rw[show bH b.cs key= -1 from hi];rfl
  rw[show bH b.cs key= -1 from hi]
  clear hi
  go_wp2
  refine bodyPost_ret (v:=.agg #[.int .i64 0,.int .i64 0,.int .i64 0,.int .i64 0,.int .i64 0,.int .i64 0]) (by simp[results,Tryz.results11,go_sem, *]) rfl (show uq _ _ _ _ from ?_)
  rw[HF.out]
  exact⟨rfl,(((((dV.out.setCell (by simp) _).setCell (by simp) _).setCell (by simp) _).setCell (by simp) _).setCell (by simp) _).setCell (by simp) _⟩
 ·rw[show bH b.cs key=k from hi]
  have HF:Hid (oh b key= [b.cs[k].up,bA key b.ls,b.cs[k].hi-b.cs[k].start-b.cs[k].up-bA key b.ls,b.cs[k].down,bB key b.ls,b.cs[k].start-b.cs[k].lo-b.cs[k].down-bB key b.ls]):=by
   show _=_
   unfold oh
   rw[show bH b.cs key=k from hi,if_neg (by omega)]
   simp[List.getD,List.getElem?_eq_getElem hk]
  obtain⟨cb,co,rfl,hcb,c0,c1,c2,c3,c4,c5,c6⟩:=cK.ct HC.out dV.out (aC _) k hk
  have SI:=HB.out.ct b.cs[k] (List.getElem_mem hk)
  obtain⟨⟨t1,t2⟩,⟨t3,t4⟩,⟨t5,t6⟩,⟨t7,t8⟩,t9,t10⟩:=SI
  have iG:(k:Int)<b.cs.length:=by omega
  clear hi
  generalize M5:bA key b.ls=LU at*
  generalize hld:bB key b.ls=LD at*
  have Xy:=ah M5
  have R5:=ah hld
  have hsu:=HB.out.su
  have hsd:=HB.out.sd
  rw[M5]at hsu
  rw[hld]at hsd
  have hnn:=kV key b.ls HB.out.ls
  rw[M5,hld]at hnn
  obtain⟨hn1,hn2⟩:=hnn
  clear M5 hld
  generalize b.cs[k]=c at*
  obtain⟨q1,q2,q3,q4,q5,q6,q7⟩:=c
  simp only at c0 c1 c2 c3 c4 c5 c6 t1 t2 t3 t4 t5 t6 t7 t8 t9 t10 HF
  obtain⟨W3,hW3⟩:∃W3,(W2.alloc (.cells #[.string q1,.int .i64 q2,.int .i64 q3,.int .i64 q4,.int .i64 q5,.int .i64 q6,.int .i64 q7] 54)).alloc (.cells #[.int .i64 0,.int .i64 0] 86)=W3:=⟨_,rfl⟩
  have hb3:Below W2.heap.size W2 W3:=by rw[←hW3];exact((aL _ _).alloc (aC _) _).alloc (by simp) _
  have K6:Hid (W3.heap[W2.heap.size]? =some (.cells #[.string q1,.int .i64 q2,.int .i64 q3,.int .i64 q4,.int .i64 q5,.int .i64 q6,.int .i64 q7] 54 (0,0))):=ah (by rw[←hW3];exact bJ _ _ _)
  have K7:Hid (W3.heap[W2.heap.size+1]? =some (.cells #[.int .i64 0,.int .i64 0] 86 (0,0))):=ah (by rw[←hW3];exact bE _ _ _)
  have P_:=ah (aj K2.out hb3 (by omega))
  have SK:=ah (aj K4.out hb3 jT)
  have HB3:=ah (dV.out.trans (hb3.mono dV.out.size))
  have HW3:=ah hW3
  have abP:cb<W2.heap.size:=by omega
  clear hW3 hb3 K2 K4 dV f0 f1 f2 f3 f4 f5 r0 r1 r2 r3 r4 r5
  go_upto_region 6 with fail
  rw[HW3.out]
  generalize hG:W2.heap.size=G at*
  have HG:=ah hG
  clear hG c0 c1 c2 c3 c4 c5 c6 d0 d1 d2 d3 hz2
  obtain⟨d0,d1,d2,d3,iN⟩:=ay P_.out
  clear iN
  have CX:=ah (oW key b.ls HB.out.ls)
  have DV:Hid (bA key (b.ls.take xs.length)=LU∧bB key (b.ls.take xs.length)=LD):=ah (by rw[HLEN.out,List.take_length];exact⟨Xy.out,R5.out⟩)
  go_upto_block 0 with fail
  go_cut[] (fun wx=>Below w.heap.size w wx∧wx.heap[w.heap.size+1]? =some (.cells #[.int .i64 0,.int .i64 0,.int .i64 0,.int .i64 0,.int .i64 0,.int .i64 0] 42 (0,0))∧wx.heap[G]? =some (.cells #[.string q1,.int .i64 q2,.int .i64 q3,.int .i64 q4,.int .i64 q5,.int .i64 q6,.int .i64 q7] 54 (0,0))∧wx.heap[G+1]? =some (.cells #[.int .i64 LU,.int .i64 LD] 86 (0,0)))
  case first=>
   go_wp2
   go_loopw[27] (fun v27 wr=>∃ (i:Nat) (PU PD:Int),i≤xs.length∧v27= .int .i64 i∧PU=bA key (b.ls.take i)∧PD=bB key (b.ls.take i)∧Below w.heap.size w wr∧wr.heap[w.heap.size]? =some (.cells #[.slice (some ⟨cb,co,none⟩) b.cs.length cc,.slice fa aX fc,.slice la xs.length lc,.slice ba b_n bc] 30 (0,0))∧wr.heap[w.heap.size+1]? =some (.cells #[.int .i64 0,.int .i64 0,.int .i64 0,.int .i64 0,.int .i64 0,.int .i64 0] 42 (0,0))∧
    wr.heap[G]? =some (.cells #[.string q1,.int .i64 q2,.int .i64 q3,.int .i64 q4,.int .i64 q5,.int .i64 q6,.int .i64 q7] 54 (0,0))∧wr.heap[G+1]? =some (.cells #[.int .i64 PU,.int .i64 PD] 86 (0,0))) (fun v27 _=>xs.length-(intOf v27).toNat)
   case atStart=>exact⟨0,0,0,Nat.zero_le _,rfl,by simp[bA],by simp[bB],HB3.out,P_.out,SK.out,K6.out,K7.out⟩
   case round=>
    obtain⟨i,PU,PD,abQ,rfl,Xz,XA,hb,hk2,hk4,pQ,tT⟩:=hrel
    have SL:=ah Xz
    have Ob:=ah XA
    have R2:=ah hk2
    have R4:=ah hk4
    have R6:=ah pQ
    have R7:=ah tT
    have lX:G+1<wr.heap.size:=(bg tT).1
    have Pv:w.heap.size+1<wr.heap.size:=(bg hk4).1
    clear Xz XA hk2 hk4 pQ tT P_ SK K6 K7 HB3 d0 d1 d2 d3
    rcases Nat.lt_or_ge i xs.length with hil | hig
    ·have pK:i<b.ls.length:=by rw[←HLEN.out];exact hil
     obtain⟨lb,lo,rfl,hlb,e0,e1,e2,e3,e4,e5,e6⟩:=cK.ls HX.out hb (aC _) i hil
     have Pk:(i:Int)<xs.length:=by omega
     have hM:=(bI.at Kk.out i hil pK).s
     have M0:=HB.out.ls b.ls[i] (List.getElem_mem pK)
     have HST:=ah (oZ key b.ls i pK)
     have UZ:=ah (CX.out (i+1))
     have TF:=ah (tY key b.ls[i].sl M0)
     have Eb:=ah M0
     have U6:=ah (kV key (b.ls.take i) (fun x hx=>HB.out.ls x (List.mem_of_mem_take hx)))
     generalize b.ls[i].sl=sl at*
     generalize xs[i]=z at*
     obtain⟨z1,z2,z3,z4,⟨z5,z6,z7⟩,⟨z8,z9,dD⟩,⟨dI,z12,dJ⟩⟩:=z
     simp only[Sv.v]at e0 e1 e2 e3 e4 e5 e6 hM
     obtain⟨hzn,CY,CZ⟩:=Sl.lens (s:=⟨z5,z6,z7⟩) hM
     simp only at hzn CY CZ
     subst hzn
     have hA:Below wr.heap.size wr (wr.alloc (.cells #[.int .i64 z1,.int .i64 z2,.int .i64 z3,.int .i64 z4,.slice z5 sl.length z7,.slice z8 z9 dD,.slice dI z12 dJ] 48)):=(aL _ _).alloc (aC _) _
     have A2:=ah (aj R2.out hA (by omega))
     have A4:=ah (aj R4.out hA Pv)
     have A6:=ah (aj R6.out hA (by omega))
     have A7:=ah (aj R7.out hA lX)
     have mX:=ah (hb.trans (hA.mono hb.size))
     go_wp2
     generalize wr.alloc (.cells #[.int .i64 z1,.int .i64 z2,.int .i64 z3,.int .i64 z4,.slice z5 sl.length z7,.slice z8 z9 dD,.slice dI z12 dJ] 48)=w9 at*
     clear hA e0 e1 e2 e3 e4 e5 e6 R2 R4 R6 R7 hb M0
     go_loopw[34] (fun v34 wr=>∃ (j:Nat) (X Y:Int),j≤sl.length∧v34= .int .i64 j∧X=PU+bS key (sl.take j)∧Y=PD+leftD key (sl.take j)∧Below w.heap.size w wr∧wr.heap[w.heap.size]? =some (.cells #[.slice (some ⟨cb,co,none⟩) b.cs.length cc,.slice fa aX fc,.slice (some ⟨lb,lo,none⟩) xs.length lc,.slice ba b_n bc] 30 (0,0))∧wr.heap[w.heap.size+1]? =some (.cells #[.int .i64 0,.int .i64 0,.int .i64 0,.int .i64 0,.int .i64 0,.int .i64 0] 42 (0,0))∧
      wr.heap[G]? =some (.cells #[.string q1,.int .i64 q2,.int .i64 q3,.int .i64 q4,.int .i64 q5,.int .i64 q6,.int .i64 q7] 54 (0,0))∧wr.heap[G+1]? =some (.cells #[.int .i64 X,.int .i64 Y] 86 (0,0))) (fun v34 _=>sl.length-(intOf v34).toNat)
     case atStart=>exact⟨0,PU,PD,Nat.zero_le _,rfl,by simp[bS],by simp[leftD],mX.out,A2.out,A4.out,A6.out,A7.out⟩
     case round=>
      clear mX A2 A4 A6 A7
      obtain⟨j,X,Y,hj,rfl,hX,hY,hb,hk2,hk4,pQ,tT⟩:=hrel
      have Nl:=ah hX
      have Nn:=ah hY
      have R2:=ah hk2
      have R4:=ah hk4
      have R6:=ah pQ
      have R7:=ah tT
      have lX:G+1<wr.heap.size:=(bg tT).1
      have Pv:w.heap.size+1<wr.heap.size:=(bg hk4).1
      clear hX hY hk2 hk4 pQ tT
      rcases Nat.lt_or_ge j sl.length with hjl | ZK
      ·obtain⟨sb,so,rfl,hsb,e0,e1,e2,e3,e4⟩:=cK.sc hM hb (aC _) j hjl
       have uF:(j:Int)<sl.length:=by omega
       have vI:=ah (left_step key sl j hjl)
       have KA:=ah (TF.out (j+1))
       obtain⟨p1,p2,p3,p4,p5,p6⟩:=Eb.out sl[j] (List.getElem_mem hjl)
       have U8:=rQ key (sl.take j) (fun x hx=>Eb.out x (List.mem_of_mem_take hx))
       have TG:=ah U8
       clear U8
       have hbd:0≤X∧0≤Y∧(sl[j].key=key→X+(sl[j].up-sl[j].uu)≤4611686018427387903∧Y+(sl[j].down-sl[j].ud)≤4611686018427387903):=by
        have a1:=Nl.out;have a2:=Nn.out;have a3:=U6.out;have a4:=TG.out;have a5:=KA.out;have a6:=UZ.out;have a7:=HST.out;have a8:=SL.out;have a9:=Ob.out;have Fu:=vI.out;have YF:=Xy.out;have a12:=R5.out
        refine⟨by omega,by omega,fun hkk=>?_⟩
        rw[if_pos hkk,if_pos hkk]at Fu
        omega
       obtain⟨hX0,hY0,XB⟩:=hbd
       have Oj:=ah XB
       clear XB
       generalize sl[j]=t at*
       have NQ:Hid (∀V,Calls Tryz.prog 37 #[Qi t] V fun e w'=>e= .returned (.agg #[.int .i64 (t.up-t.uu),.int .i64 (t.down-t.ud)])∧Below V.heap.size V w'):=ah (fun V=>FE t V (by omega) (by omega))
       obtain⟨t1',sU,sV,uX,uY⟩:=t
       simp only at e0 e1 e2 e3 e4 p1 p2 p3 p4 p5 p6
       have Pm:=ah (key_eq t1' key)
       have hA:Below wr.heap.size wr (wr.alloc (.cells #[.string t1',.int .i64 sU,.int .i64 sV,.int .i64 uX,.int .i64 uY] 88)):=(aL _ _).alloc (aC _) _
       have ks:=heap_alloc_new wr (.cells #[.string t1',.int .i64 sU,.int .i64 sV,.int .i64 uX,.int .i64 uY] 88)
       have hzs:wr.heap.size<(wr.alloc (.cells #[.string t1',.int .i64 sU,.int .i64 sV,.int .i64 uX,.int .i64 uY] 88)).heap.size:=by simp
       go_wp2_with fail
       refine(NQ.out _).mono ?_
       rintro e U1 ⟨rfl,XC⟩
       generalize wr.alloc (.cells #[.string t1',.int .i64 sU,.int .i64 sV,.int .i64 uX,.int .i64 uY] 88)=U0 at*
       have hAU:=hA.trans (XC.mono hA.size)
       have hB2:Below U1.heap.size U1 (U1.alloc (.cells #[.int .i64 (sU-uX),.int .i64 (sV-uY)] 86)):=(aL _ _).alloc (aC _) _
       have k12:=heap_alloc_new U1 (.cells #[.int .i64 (sU-uX),.int .i64 (sV-uY)] 86)
       have Uc:=hAU.trans (hB2.mono hAU.size)
       have A2:=ah (aj R2.out Uc (by omega))
       have A4:=ah (aj R4.out Uc Pv)
       have A6:=ah (aj R6.out Uc (by omega))
       have a7:=aj R7.out Uc lX
       have ks2:=aj (aj ks XC hzs) hB2 (by have:=XC.size;omega)
       have mX:=ah (hb.trans (Uc.mono hb.size))
       have agh:wr.heap.size<U1.heap.size:=by have:=XC.size;omega
       clear e0 e1 e2 e3 e4 hA XC hAU hB2 Uc ks R2 R4 R6 R7 NQ hb
       go_upto_region 13 with fail
       generalize U1.alloc (.cells #[.int .i64 (sU-uX),.int .i64 (sV-uY)] 86)=U2 at*
       generalize hgs:wr.heap.size=gs at*
       generalize abS:U1.heap.size=g12 at*
       clear hgs abS
       obtain⟨x0,x1,x2,x3,_⟩:=eP k12
       obtain⟨y0,y1,y2,y3,_⟩:=eP a7
       have s0:U2.cell? ⟨gs,0,none⟩=some (.string t1'):=by simp[World.cell?,ks2]
       have hgg:G+1≠g12:=by omega
       have agi:g12≠G+1:=by omega
       have hG0:w.heap.size≤G+1:=by have:=HG.out;omega
       have B2:=ah a7
       clear ks2
       by_cases he:t1'=key
       ·have de:(t1'.toList==key.toList)=true:=by rw[Pm.out];simpa using he
        obtain⟨hX1,hY1⟩:=Oj.out he
        have HS2:Hid (bS key (sl.take (j+1))=bS key (sl.take j)+(sU-uX)∧leftD key (sl.take (j+1))=leftD key (sl.take j)+(sV-uY)):=by have:=vI.out;simp only[he,if_true]at this;exact ah this
        have hne:=fun V=> Tryz.Xx (sU-uX) (sV-uY) V
        clear he Oj
        by_cases hz:sU-uX=0∧sV-uY=0
        ·have hq:(decide (sU-uX=0)&&decide (sV-uY=0))=true:=by simp[hz]
         simp only[hq]at hne
         have HZ:=ah hz
         clear hz hq
         go_wp2
         go_roundw
         case rel=>exact⟨j+1,X,Y,by omega,by go_num,by rw[HS2.out.1,HZ.out.1,Int.add_zero];exact Nl.out,by rw[HS2.out.2,HZ.out.2,Int.add_zero];exact Nn.out,mX.out,A2.out,A4.out,A6.out,B2.out⟩
         case measure=>simp[intOf];omega
        ·have hq:(decide (sU-uX=0)&&decide (sV-uY=0))=false:=by
          rw[Bool.and_eq_false_iff,decide_eq_false_iff_not,decide_eq_false_iff_not];omega
         simp only[hq]at hne
         clear hz hq
         have C7:=ah (OT a7 (.int .i64 (X+(sU-uX))) (.int .i64 (Y+(sV-uY))))
         have C2:=ah ((iP U2 (G+1) w.heap.size (by omega) 0 1 (.int .i64 (X+(sU-uX))) (.int .i64 (Y+(sV-uY)))).trans A2.out)
         have C4:=ah ((iP U2 (G+1) (w.heap.size+1) (by omega) 0 1 (.int .i64 (X+(sU-uX))) (.int .i64 (Y+(sV-uY)))).trans A4.out)
         have C6:=ah ((iP U2 (G+1) G (by omega) 0 1 (.int .i64 (X+(sU-uX))) (.int .i64 (Y+(sV-uY)))).trans A6.out)
         have CB:=ah ((mX.out.setCell (p:=⟨G+1,0,none⟩) hG0 (.int .i64 (X+(sU-uX)))).setCell (p:=⟨G+1,1,none⟩) hG0 (.int .i64 (Y+(sV-uY))))
         clear a7
         go_wp2
         go_roundw
         case rel=>exact⟨j+1,_,_,by omega,by go_num,by rw[HS2.out.1,Nl.out];omega,by rw[HS2.out.2,Nn.out];omega,CB.out,C2.out,C4.out,C6.out,C7.out⟩
         case measure=>simp[intOf];omega
       ·have de:(t1'.toList==key.toList)=false:=by rw[Pm.out];simpa using he
        have HS2:Hid (bS key (sl.take (j+1))=bS key (sl.take j)∧leftD key (sl.take (j+1))=leftD key (sl.take j)):=by have:=vI.out;simp only[if_neg he,Int.add_zero]at this;exact ah this
        clear he Oj a7
        go_wp2
        go_roundw
        case rel=>exact⟨j+1,X,Y,by omega,by go_num,by rw[HS2.out.1];exact Nl.out,by rw[HS2.out.2];exact Nn.out,mX.out,A2.out,A4.out,A6.out,B2.out⟩
        case measure=>simp[intOf];omega
      ·have QX:j=sl.length:=by omega
       subst QX
       have NN:Hid (X=bA key (b.ls.take (i+1))):=by show _=_;rw[HST.out.1,Nl.out,List.take_length,SL.out]
       have Im:Hid (Y=bB key (b.ls.take (i+1))):=by show _=_;rw[HST.out.2,Nn.out,List.take_length,Ob.out]
       go_wp2
       go_roundw
       case rel=>exact⟨i+1,X,Y,by omega,by go_num,NN.out,Im.out,hb,R2.out,R4.out,R6.out,R7.out⟩
       case measure=>simp[intOf];omega
    ·have hie:i=xs.length:=by omega
     subst hie
     have HU:Hid (PU=LU∧PD=LD):=ah ⟨by rw[SL.out];exact DV.out.1,by rw[Ob.out];exact DV.out.2⟩
     obtain⟨e1,e2⟩:=HU.out
     subst e1 e2
     go_wp2
     go_meet
     exact⟨hb,R4.out,R6.out,R7.out⟩
  case rest=>
  obtain⟨hb,hk4,pQ,tT⟩:=hcut
  obtain⟨W5,Bb⟩:∃W5,W5=wc:=⟨_,rfl⟩
  subst Bb
  obtain⟨c0,c1,c2,c3,c4,c5,c6,iN⟩:=aB pQ
  obtain⟨x0,x1,_,_,_⟩:=eP tT
  obtain⟨⟨r0,r1,r2,r3,r4,r5⟩,rf⟩:=jD hk4
  have f0:=rf 0
  have f1:=rf 1
  have f2:=rf 2
  have f3:=rf 3
  have f4:=rf 4
  have f5:=rf 5
  have Df:=ah hb
  clear rf iN hk4 pQ tT hb P_ SK K6 K7 HB3 d0 d1 d2 d3
  go_wp2
  refine bodyPost_ret (v:=.agg #[.int .i64 q6,.int .i64 LU,.int .i64 (q4-q5-q6-LU),.int .i64 q7,.int .i64 LD,.int .i64 (q5-q3-q7-LD)]) (by simp[results,Tryz.results11,go_sem, *]) rfl (show uq _ _ _ _ from ?_)
  rw[HF.out]
  exact⟨rfl,(((((Df.out.setCell (by simp) _).setCell (by simp) _).setCell (by simp) _).setCell (by simp) _).setCell (by simp) _).setCell (by simp) _⟩
end Go.Proofs.YtlfopoimbbpfdaaGreat
namespace Go.Proofs.YtlfopoimbbpfdaaGreat
open Go.RowKit
abbrev kA:ByteArray:=⟨#[97]⟩
abbrev kB:ByteArray:=⟨#[98]⟩
def fE (u0 d0 u1 d1:Int):List Ct:=[⟨kA,0,0,20,10,u0,d0⟩,⟨kB,1,-30,30,0,u1,d1⟩]
def SN (a b:List Rg):Prop:=∀n,eH a n→ ¬eH b n
structure sW (l:Ls):Prop where
 dev:0≤l.dev∧l.dev<6
 key:∀s∈l.sl,s.key=kA∨s.key=kB
 one:l.sl.Pairwise (fun s t=>s.key≠t.key)
 sc:∀s∈l.sl,(0≤s.uu∧s.uu≤s.up∧s.up≤30)∧0≤s.ud∧s.ud≤s.down∧s.down≤30
 row:cZ l.ids
 top:∀r∈l.ids,r.2≤40
 rise:l.used.Pairwise (· < ·)
 sub:∀n∈l.used,eH l.ids n
def iU (ls:List Ls):Int:=(ls.map (fun l=>bR l.ids)).sum
structure uw (C:List Ct) (F:List Rg) (L:List Ls) (D:List Int):Prop where
 cs:∃u0 d0 u1 d1,C=fE u0 d0 u1 d1∧(0≤u0∧u0+bA kA L≤10)∧(0≤d0∧d0+bB kA L≤10)∧(0≤u1∧u1+bA kB L≤30)∧0≤d1∧d1+bB kB L≤30
 ls:∀l∈L,sW l
 Np:∀l∈L,1≤l.epoch
 fr:cZ F
 top:∀r∈F,r.2≤40
 bd:D.Pairwise (· < ·)
 fi:∀l∈L,SN F l.ids
 ii:L.Pairwise (fun l m=>SN l.ids m.ids)
 bf:∀n∈D,¬eH F n
 bi:∀n∈D,∀l∈L,¬eH l.ids n
 br:∀n∈D,0≤n∧n<40
 tot:bR F+iU L+D.length=40
structure Inv (b:Bk):Prop extends uw b.cs b.free b.ls b.bound where
 zF:b.ls.Pairwise (fun l m=>l.dev<m.dev)
theorem BA:Inv mq:=by
 refine⟨⟨⟨10,10,30,30,rfl,by decide,by decide,by decide,by decide⟩,fun l hl=>by simp[mq]at hl,fun l hl=>by simp[mq]at hl,?_,?_,List.Pairwise.nil,fun l hl=>by simp[mq]at hl,List.Pairwise.nil,fun n hn=>by simp[mq]at hn,fun n hn=>by simp[mq]at hn,fun n hn=>by simp[mq]at hn,by decide⟩,List.Pairwise.nil⟩
 ·show cZ [((0:Int),40)]
  decide
 ·intro r hr
  have:r∈ [((0:Int),(40:Int))]:=hr
  simp at this
  subst this
  decide
end Go.Proofs.YtlfopoimbbpfdaaGreat
namespace Go.Proofs.YtlfopoimbbpfdaaGreat
open Go.RowKit
theorem G5 {ls:List Ls} (h:ls.Pairwise (fun l m=>l.dev<m.dev)) {i j:Nat} (hi:i<ls.length) (hj:j<ls.length) (e:ls[i].dev=ls[j].dev):i=j:=by
 rw[List.pairwise_iff_getElem]at h
 rcases Nat.lt_trichotomy i j with hlt | he | hgt
 ·have:=h i j hi hj hlt;omega
 ·exact he
 ·have:=h j i hj hi hgt;omega
theorem Mv {ls:List Ls} (h:ls.Pairwise (fun l m=>l.dev<m.dev)) (d ep:Int):
  (∃k:Nat,∃hk:k<ls.length,jG ls d=k∧jF ls d ep=k∧ls[k].dev=d∧ls[k].epoch=ep)∨
  (jF ls d ep= -1∧ ¬ (0≤jG ls d∧(ls.getD (jG ls d).toNat mK).epoch=ep)):=by
 rcases bQ (fun c:Ls=>decide (c.dev=d)) ls with⟨hi,hn⟩ | ⟨k,hk,hi,hp,hj⟩
 ·right
  have e:jG ls d= -1:=hi
  refine⟨fA (fun x hx=>?_),fun h=>by rw[e]at h;omega⟩
  have:=hn x hx
  simp only[decide_eq_false_iff_not]at this
  simp[this]
 ·have e:jG ls d=k:=hi
  have hd:ls[k].dev=d:=of_decide_eq_true hp
  have hg:ls.getD (jG ls d).toNat mK=ls[k]:=by rw[e];simp[List.getD,List.getElem?_eq_getElem hk]
  by_cases he:ls[k].epoch=ep
  ·left
   refine⟨k,hk,e,ji k hk (fun j hj2=>?_) (by simp[hd,he]),hd,he⟩
   have hjl:j<ls.length:=by omega
   have:ls[j].dev≠d:=fun e2=>by have:=G5 h hjl hk (e2.trans hd.symm);omega
   simp[this]
  ·right
   refine⟨fA (fun x hx=>?_),fun h=>he (by rw[←hg];exact h.2)⟩
   obtain⟨j,hj3,rfl⟩:=List.getElem_of_mem hx
   by_cases hx2:ls[j].dev=d
   ·have:j=k:=G5 h hj3 hk (hx2.trans hd.symm)
    subst this
    simp[he]
   ·simp[hx2]
theorem find_eq {b:Bk} (h:b.ls.Pairwise (fun l m=>l.dev<m.dev)) (d ep:Int):fD b d ep=iT b d ep:=by
 unfold fD iT
 rcases Mv h d ep with⟨k,hk,h1,h2,h3,h4⟩ | ⟨h1,h2⟩
 ·have hg:b.ls.getD k mK=b.ls[k]:=by simp[List.getD,List.getElem?_eq_getElem hk]
  rw[h1,h2]
  simp only[Int.toNat_natCast,hg]
  rw[if_pos ⟨by omega,h4⟩,if_pos (by omega)]
 ·rw[if_neg h2,h1,if_neg (by decide)]
theorem put_eq {b:Bk} (h:b.ls.Pairwise (fun l m=>l.dev<m.dev)) (l:Ls):kC b l=kR b l:=by
 unfold kC kR
 rcases Mv h l.dev l.epoch with⟨k,hk,h1,h2,h3,h4⟩ | ⟨h1,h2⟩
 ·have hg:b.ls.getD k mK=b.ls[k]:=by simp[List.getD,List.getElem?_eq_getElem hk]
  rw[h1,h2]
  simp only[Int.toNat_natCast,hg]
  rw[if_pos ⟨by omega,h4⟩,if_pos (by omega)]
 ·rw[if_neg h2,h1,if_neg (by decide)]
end Go.Proofs.YtlfopoimbbpfdaaGreat
namespace Go.Proofs.YtlfopoimbbpfdaaGreat
open Go.RowKit
theorem FH {l:List Int} (h:l.Pairwise (· < ·)) (n:Int):l.takeWhile (fun x=>decide (x<n))=l.take (l.countP (· <n))∧l.dropWhile (fun x=>decide (x<n))=l.drop (l.countP (· <n)):=by
 induction l with
 | nil=>simp
 | cons x l ih=>
  obtain⟨h1,h2⟩:=List.pairwise_cons.1 h
  by_cases hx:x<n
  ·obtain⟨i1,i2⟩:=ih h2
   rw[List.takeWhile_cons_of_pos (by simpa using hx),List.dropWhile_cons_of_pos (by simpa using hx),List.countP_cons_of_pos (by simpa using hx),List.take_succ_cons,List.drop_succ_cons,i1,i2]
   exact⟨rfl,rfl⟩
  ·have h0:(x::l).countP (fun x=>decide (x<n))=0:=by
    rw[List.countP_eq_zero]
    intro y hy
    rcases List.mem_cons.1 hy with rfl | hy
    ·simpa using hx
    ·have:=h1 y hy
     simp
     omega
   rw[List.takeWhile_cons_of_neg (by simpa using hx),List.dropWhile_cons_of_neg (by simpa using hx),h0]
   exact⟨rfl,rfl⟩
theorem BD {l:List Int} (h:l.Pairwise (· < ·)) (n:Int):fU l n=rise l n:=by
 obtain⟨h1,h2⟩:=FH h n
 unfold fU rise
 rw[h1,h2]
theorem SQ (s:Sc) (n:Int):Dn s n=AR s n:=by
 unfold Dn AR
 by_cases h:0<n
 ·rw[if_pos h]
  have e1:max n 0=n:=by omega
  have e2:max (-n) 0=0:=by omega
  rw[e1,e2,Int.add_zero]
 ·rw[if_neg h]
  have e1:max n 0=0:=by omega
  have e2:max (-n) 0= -n:=by omega
  rw[e1,e2,Int.add_zero]
  rfl
theorem Mw {l:Ls} (hs:∀s∈l.sl,s.uu≤s.up∧s.ud≤s.down) (hu:l.used.Pairwise (· < ·)) (kind:Int) (key:ByteArray) (n:Int):dM l kind key n=bN l kind key n:=by
 unfold dM bN
 by_cases h4:kind=4
 ·rw[if_pos h4,if_pos h4]
  unfold pz mH
  by_cases hk:kL l.sl key<0
  ·rw[if_pos hk,if_pos hk]
  ·rw[if_neg hk,if_neg hk]
   have hm:l.sl.getD (kL l.sl key).toNat Jz∈l.sl:=by
    rcases bQ (fun c:Sc=>decide (c.key=key)) l.sl with⟨hi,_⟩ | ⟨k,hkk,hi,_,_⟩
    ·exact absurd (by rw[show kL l.sl key= -1 from hi];decide) hk
    ·rw[show kL l.sl key=k from hi]
     simp only[Int.toNat_natCast]
     rw[List.getD_eq_getElem?_getD,List.getElem?_eq_getElem hkk]
     exact List.getElem_mem hkk
   generalize l.sl.getD (kL l.sl key).toNat Jz=s at*
   have hh:=hs s hm
   have hiff:lS s n↔(s.up-s.uu<n∨s.down-s.ud< -n):=by
    unfold lS
    omega
   by_cases hf:lS s n
   ·rw[if_pos hf,if_pos (hiff.1 hf)]
   ·rw[if_neg hf,if_neg (fun h=>hf (hiff.2 h)),SQ]
 ·rw[if_neg h4,if_neg h4]
  by_cases h5:kind=5
  ·rw[if_pos h5,if_pos h5]
   unfold rY mI
   rw[BD hu]
  ·rw[if_neg h5,if_neg h5]
end Go.Proofs.YtlfopoimbbpfdaaGreat
namespace Go.Proofs.YtlfopoimbbpfdaaGreat
open Go.RowKit
theorem xX (l:List Int) (n m:Int):m∈rise l n↔m∈l∨m=n:=by
 unfold rise
 rw[List.mem_append,List.mem_cons]
 have h:m∈l↔m∈l.take (l.countP (· <n))∨m∈l.drop (l.countP (· <n)):=by
  rw[←List.mem_append,List.take_append_drop]
 rw[h]
 constructor
 ·rintro(h | rfl | h)
  ·exact .inl (.inl h)
  ·exact .inr rfl
  ·exact .inl (.inr h)
 ·rintro((h | h) | rfl)
  ·exact .inl h
  ·exact .inr (.inr h)
  ·exact .inr (.inl rfl)
theorem Ai {l:List Int} (h:l.Pairwise (· < ·)) {n:Int} (hn:n∉l):(rise l n).Pairwise (· < ·):=by
 rw[←BD h]
 unfold fU
 induction l with
 | nil=>simp
 | cons x l ih=>
  obtain⟨h1,h2⟩:=List.pairwise_cons.1 h
  have hn2:n∉l:=fun hm=>hn (List.mem_cons_of_mem _ hm)
  have hnx:n≠x:=fun e=>hn (by rw[e];exact List.mem_cons_self)
  by_cases hx:x<n
  ·rw[List.takeWhile_cons_of_pos (by simpa using hx),List.dropWhile_cons_of_pos (by simpa using hx),List.cons_append,List.pairwise_cons]
   refine⟨fun y hy=>?_,ih h2 hn2⟩
   rw[List.mem_append,List.mem_cons]at hy
   rcases hy with hy | rfl | hy
   ·exact h1 y (List.takeWhile_sublist _ |>.subset hy)
   ·exact hx
   ·exact h1 y (List.dropWhile_sublist _ |>.subset hy)
  ·rw[List.takeWhile_cons_of_neg (by simpa using hx),List.dropWhile_cons_of_neg (by simpa using hx),List.nil_append,List.pairwise_cons]
   refine⟨fun y hy=>?_,h⟩
   rcases List.mem_cons.1 hy with rfl | hy
   ·omega
   ·have:=h1 y hy;omega
theorem xY (us:List Int):∀bd:List Int,bd.Pairwise (· < ·)→us.Pairwise (· < ·)→(∀u∈us,u∉bd)→
  us.foldl fU bd=us.foldl fH bd∧(us.foldl fH bd).Pairwise (· < ·)∧(∀m,m∈us.foldl fH bd↔m∈bd∨m∈us)∧(us.foldl fH bd).length=bd.length+us.length:=by
 induction us with
 | nil=>intro bd hb _ _;exact⟨rfl,hb,fun m=>by simp,by simp⟩
 | cons u us ih=>
  intro bd hb hu hd
  obtain⟨h1,h2⟩:=List.pairwise_cons.1 hu
  have hub:u∉bd:=hd u List.mem_cons_self
  have e:fH bd u=rise bd u:=by
   unfold fH
   rw[if_neg]
   simpa using hub
  rw[List.foldl_cons,List.foldl_cons,e,BD hb]
  obtain⟨i1,i2,i3,i4⟩:=ih (rise bd u) (Ai hb hub) h2 (fun v hv hm=>by
   rcases(xX bd u v).1 hm with hm | rfl
   ·exact hd v (List.mem_cons_of_mem _ hv) hm
   ·have:=h1 v hv;omega)
  refine⟨i1,i2,fun m=>?_,?_⟩
  ·rw[i3 m,xX,List.mem_cons]
   constructor
   ·rintro((h | h) | h)
    ·exact .inl h
    ·exact .inr (.inl h)
    ·exact .inr (.inr h)
   ·rintro(h | h | h)
    ·exact .inl (.inl h)
    ·exact .inl (.inr h)
    ·exact .inr h
  ·rw[i4]
   have:(rise bd u).length=bd.length+1:=by
    unfold rise
    have h0:bd.countP (fun x=>decide (x<u))≤bd.length:=List.countP_le_length
    rw[List.length_append,List.length_cons,List.length_take,List.length_drop]
    omega
   rw[this,List.length_cons]
   omega
theorem free_eq {b:Bk} (h:Inv b) (d ep:Int):nS b d ep=mg b d ep:=by
 unfold nS mg
 rw[find_eq h.zF]
 rcases Mv h.zF d ep with⟨k,hk,h1,h2,h3,h4⟩ | ⟨h1,h2⟩
 ·have hg:b.ls.getD k mK=b.ls[k]:=by simp[List.getD,List.getElem?_eq_getElem hk]
  have hf:iT b d ep=(b.ls[k],true):=by
   unfold iT
   rw[h2,if_pos (by omega)]
   simp only[Int.toNat_natCast,hg]
  rw[hf,h1,h2,if_neg (by simp),if_neg (by omega)]
  simp only[Int.toNat_natCast,hg]
  unfold KC
  have hl:=h.ls b.ls[k] (List.getElem_mem hk)
  rw[(xY b.ls[k].used b.bound h.bd hl.rise (fun u hu hm=>h.bi u hm _ (List.getElem_mem hk) (hl.sub u hu))).1]
 ·have hf:iT b d ep=(mK,false):=by
   unfold iT
   rw[h1,if_neg (by decide)]
  rw[hf,if_pos rfl,h1,if_pos (by decide)]
end Go.Proofs.YtlfopoimbbpfdaaGreat
namespace Go.Proofs.YtlfopoimbbpfdaaGreat
open Go.RowKit
theorem Mx {M:Int} {l:List Rg} (hl:cZ l) (m:Int) (hm:m≤M) (h:∀r∈l,m≤r.1∧r.2≤M):bR l≤M-m∧(l.length:Int)≤bR l:=by
 induction l generalizing m with
 | nil=>simp[bR];omega
 | cons r l ih=>
  obtain⟨a1,a2,a3⟩:=(dh r l).1 hl
  have h1:=h r (by simp)
  have h2:=ih a3 r.2 h1.2 (fun x hx=>⟨by have:=a2 x hx;omega,(h x (by simp[hx])).2⟩)
  simp only[bR,List.length_cons]
  omega
theorem xZ (l:List Int):∀a M:Int,l.Pairwise (· < ·)→(∀n∈l,a≤n∧n<M)→a≤M→(l.length:Int)≤M-a:=by
 induction l with
 | nil=>intro a M _ _ h;simp;omega
 | cons x l ih=>
  intro a M h hm ha
  obtain⟨h1,h2⟩:=List.pairwise_cons.1 h
  have hx:=hm x List.mem_cons_self
  have:=ih (x+1) M h2 (fun n hn=>⟨by have:=h1 n hn;omega,(hm n (List.mem_cons_of_mem _ hn)).2⟩) (by omega)
  rw[List.length_cons]
  omega
theorem pG {l:List Rg} (h:cZ l) (ht:∀r∈l,r.2≤40):bR l≤40∧(l.length:Int)≤bR l:=by
 have:=Mx (M:=40) h 0 (by omega) (fun r hr=>⟨(h.1 r hr).1,ht r hr⟩)
 omega
theorem G6 {l:List Rg} (h:cZ l) (ht:∀r∈l,r.2≤40) {n:Int} (hn:eH l n):0≤n∧n<40:=by
 obtain⟨r,hr,h1,h2⟩:=hn
 have:=h.1 r hr
 have:=ht r hr
 omega
theorem sW.lens {l:Ls} (h:sW l):l.sl.length≤2∧l.ids.length≤40∧bR l.ids≤40∧l.used.length≤40:=by
 have hr:=pG h.row h.top
 have hu:=xZ l.used 0 40 h.rise (fun n hn=>G6 h.row h.top (h.sub n hn)) (by omega)
 refine⟨?_,by omega,hr.1,by omega⟩
 have hk:=h.key
 have ho:=h.one
 match hl:l.sl with
 | []=>simp
 | [_]=>simp
 | [_,_]=>simp
 | x::y::z::t=>
  exfalso
  rw[hl]at hk ho
  have kx:=hk x (by simp)
  have ky:=hk y (by simp)
  have kz:=hk z (by simp)
  simp only[List.pairwise_cons,List.mem_cons]at ho
  have xy:=ho.1 y (.inl rfl)
  have xz:=ho.1 z (.inr (.inl rfl))
  have yz:=ho.2.1 z (.inl rfl)
  rcases kx with kx | kx<;>rcases ky with ky | ky<;>rcases kz with kz | kz<;>simp_all
theorem MB (ls:List Ls):∀a:Int,ls.Pairwise (fun l m=>l.dev<m.dev)→(∀l∈ls,a≤l.dev∧l.dev<6)→a≤6→(ls.length:Int)≤6-a:=by
 induction ls with
 | nil=>intro a _ _ h;simp;omega
 | cons x l ih=>
  intro a h hm ha
  obtain⟨h1,h2⟩:=List.pairwise_cons.1 h
  have hx:=hm x List.mem_cons_self
  have:=ih (x.dev+1) h2 (fun n hn=>⟨by have:=h1 n hn;omega,(hm n (List.mem_cons_of_mem _ hn)).2⟩) (by omega)
  rw[List.length_cons]
  omega
theorem Inv.lens {b:Bk} (h:Inv b):b.cs.length=2∧b.free.length≤40∧b.ls.length≤6∧b.bound.length≤40:=by
 obtain⟨u0,d0,u1,d1,hc,_⟩:=h.cs
 have hr:=pG h.fr h.top
 have hb:=xZ b.bound 0 40 h.bd h.br (by omega)
 have hl:=MB b.ls 0 h.zF (fun l hl=>(h.ls l hl).dev) (by omega)
 refine⟨by rw[hc];rfl,by omega,by omega,by omega⟩
theorem yc {l:List Sc} (key:ByteArray) (h:∀s∈l,s.uu≤s.up∧s.ud≤s.down):0≤bS key l∧0≤leftD key l:=by
 induction l with
 | nil=>exact⟨by simp[bS],by simp[leftD]⟩
 | cons s l ih=>
  have h1:=h s List.mem_cons_self
  have h2:=ih (fun t ht=>h t (List.mem_cons_of_mem _ ht))
  simp only[bS,leftD]
  constructor<;>split<;>omega
theorem fP {ls:List Ls} (key:ByteArray) (h:∀l∈ls,sW l):0≤bA key ls∧0≤bB key ls:=by
 induction ls with
 | nil=>exact⟨by simp[bA],by simp[bB]⟩
 | cons l ls ih=>
  have h1:=yc key (l:=l.sl) (fun s hs=>by have:=(h l List.mem_cons_self).sc s hs;omega)
  have h2:=ih (fun m hm=>h m (List.mem_cons_of_mem _ hm))
  simp only[bA,bB]
  omega
end Go.Proofs.YtlfopoimbbpfdaaGreat
namespace Go.Proofs.YtlfopoimbbpfdaaGreat
open Go.RowKit
theorem DW:sW mK:=
 ⟨⟨Int.le_refl _,by decide⟩,fun s hs=>absurd hs (by simp[mK]),List.Pairwise.nil,fun s hs=>absurd hs (by simp[mK]),rowP_nil,fun r hr=>absurd hr (by simp[mK]),List.Pairwise.nil,fun n hn=>absurd hn (by simp[mK])⟩
theorem sN (b:Bk) (d ep:Int):(jF b.ls d ep= -1∧iT b d ep=(mK,false))∨ ∃k:Nat,∃hk:k<b.ls.length,jF b.ls d ep=k∧iT b d ep=(b.ls[k],true)∧b.ls[k].dev=d∧b.ls[k].epoch=ep:=by
 unfold iT
 rcases bQ (fun c:Ls=>decide (c.dev=d)&&decide (c.epoch=ep)) b.ls with⟨hi,_⟩ | ⟨k,hk,hi,hp,_⟩
 ·left
  have e:jF b.ls d ep= -1:=hi
  exact⟨e,by rw[e,if_neg (by decide)]⟩
 ·right
  have e:jF b.ls d ep=k:=hi
  have hg:b.ls.getD k mK=b.ls[k]:=by simp[List.getD,List.getElem?_eq_getElem hk]
  simp only[Bool.and_eq_true,decide_eq_true_eq]at hp
  refine⟨k,hk,e,?_,hp.1,hp.2⟩
  rw[e,if_pos (by omega)]
  simp only[Int.toNat_natCast,hg]
theorem Inv.Qa {b:Bk} (h:Inv b) (d ep:Int):sW (iT b d ep).1:=by
 rcases sN b d ep with⟨_,e⟩ | ⟨k,hk,_,e,_⟩
 ·rw[e];exact DW
 ·rw[e];exact h.ls _ (List.getElem_mem hk)
theorem Inv.ct {b:Bk} (h:Inv b):ET 30 b.cs:=by
 obtain⟨u0,d0,u1,d1,hc,h1,h2,h3,h4,h5⟩:=h.cs
 have n1:=fP kA h.ls
 have n2:=fP kB h.ls
 rw[hc]
 intro c hcm
 simp only[fE,List.mem_cons,List.not_mem_nil,or_false]at hcm
 rcases hcm with rfl | rfl
 ·show 0≤u0∧u0≤30∧0≤d0∧d0≤30
  omega
 ·show 0≤u1∧u1≤30∧0≤d1∧d1≤30
  omega
theorem Inv.YG {b:Bk} (h:Inv b):ET 2199023255552 b.cs:=h.ct.mono (by omega)
theorem Inv.grB {b:Bk} (h:Inv b):Kw b:=by
 obtain⟨n1,n2,n3,n4⟩:=h.lens
 refine⟨by omega,by omega,by omega,by omega,fun l hl=>?_,h.fr.1,h.YG⟩
 have:=(h.ls l hl).lens
 omega
theorem Inv.key {b:Bk} (h:Inv b):∀c∈b.cs,emp c.key=false:=by
 obtain⟨u0,d0,u1,d1,hc,_⟩:=h.cs
 rw[hc]
 intro c hcm
 simp only[fE,List.mem_cons,List.not_mem_nil,or_false]at hcm
 rcases hcm with rfl | rfl
 ·show emp kA=false;decide +kernel
 ·show emp kB=false;decide +kernel
theorem sW.scU {l:Ls} (h:sW l):∀s∈l.sl,NP s:=fun s hs=>by
 have:=h.sc s hs
 unfold NP
 omega
theorem sW.MC {l:Ls} (h:sW l):∀n∈l.used,0≤n∧n<40:=fun n hn=>G6 h.row h.top (h.sub n hn)
theorem Inv.XE {b:Bk} (h:Inv b) {l:Ls} (hl:sW l):Gi b l:=by
 obtain⟨n1,n2,n3,n4⟩:=h.lens
 have hn:=hl.lens
 refine⟨by omega,by omega,by omega,by omega,fun m hm=>?_,hl.row,by omega,h.YG,hl.scU,fun n hn=>by have:=hl.MC n hn;omega,h.bd.imp (fun hh=>by omega)⟩
 have:=(h.ls m hm).lens
 omega
theorem Inv.SS {b:Bk} (h:Inv b) {l:Ls} (hl:sW l):xO b l:=by
 obtain⟨n1,n2,n3,n4⟩:=h.lens
 have hn:=hl.lens
 exact⟨by omega,by omega,by omega,by omega,by omega,by omega,h.fr,hl.row,by omega,h.YG,hl.scU,fun n hn=>by have:=hl.MC n hn;omega⟩
theorem XF (o:pO) (h:kD o=4): -6≤gN o∧gN o≤6:=by
 unfold gN
 rw[if_pos h]
 split<;>omega
theorem OW (x:ow) (l:Ls) (h:kD x.o=4): -1099511627776≤Bw x l∧Bw x l≤1099511627776:=by
 unfold Bw
 rw[if_neg (by rw[h];omega)]
 have:=XF x.o h
 omega
theorem sW.spK {l:Ls} (h:sW l) (x:ow):NS l (kD x.o) (Bw x l):=by
 have hn:=h.lens
 refine⟨by omega,by omega,by omega,OW x l,fun s hs=>?_,h.rise.imp (fun hh=>by omega)⟩
 have:=h.sc s hs
 omega
theorem FJ (l:Ls) (kind:Int) (key:ByteArray) (n:Int):(bN l kind key n).1.sl.length=l.sl.length∧(bN l kind key n).1.ids=l.ids∧(bN l kind key n).1.used.length≤l.used.length+1:=by
 unfold bN
 split
 ·unfold mH
  split
  ·exact⟨rfl,rfl,Nat.le_succ _⟩
  ·split
   ·exact⟨rfl,rfl,Nat.le_succ _⟩
   ·exact⟨by simp,rfl,Nat.le_succ _⟩
 ·split
  ·unfold mI
   split
   ·exact⟨rfl,rfl,Nat.le_succ _⟩
   ·split
    ·exact⟨rfl,rfl,Nat.le_succ _⟩
    ·exact⟨rfl,rfl,by rw[rT];exact aC _⟩
  ·exact⟨rfl,rfl,Nat.le_succ _⟩
theorem Inv.doB {b:Bk} (h:Inv b) (x:ow):Xv b x:=by
 obtain⟨n1,n2,n3,n4⟩:=h.lens
 have hL:sW (vJ b x):=h.Qa _ _
 refine⟨h.grB,⟨by omega,by omega,by omega,h.fr,h.YG,h.key⟩,h.grB.UR,fun k hk _=>h.XE (h.ls _ (List.getElem_mem hk)),fun _=>?_,find_eq h.zF _ _,free_eq h _ _,fun r hr=>?_,hL.spK x,?_,put_eq h.zF _,?_⟩
 ·rw[find_eq h.zF]
  exact h.SS (h.Qa _ _)
 ·have h1:=hL.row.1 r hr
  have h2:=hL.top r hr
  omega
 ·exact Mw (fun s hs=>by have:=hL.sc s hs;omega) hL.rise _ _ _
 ·obtain⟨s1,s2,s3⟩:=FJ (vJ b x) (kD x.o) (zw x.o) (Bw x (vJ b x))
  have hn:=hL.lens
  unfold xV
  exact⟨by omega,by rw[s2];omega,by omega⟩
end Go.Proofs.YtlfopoimbbpfdaaGreat
