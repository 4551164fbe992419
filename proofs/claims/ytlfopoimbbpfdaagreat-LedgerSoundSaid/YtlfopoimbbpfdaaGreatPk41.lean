/- What the law asks, in parts: Ff. -/
import Derived.Deep.DrawnRows
import Derived.Test.YtlfopoimbbpfdaaGreatPk39
import Derived.Test.YtlfopoimbbpfdaaGreatPk38
import Derived.Test.YtlfopoimbbpfdaaGreatPk40
set_option linter.all false
set_option maxRecDepth 100000
set_option maxHeartbeats 16000000
namespace Go.Proofs.YtlfopoimbbpfdaaGreat
open Go.RowKit
section
attribute [local go_sem ↓] Go.wp_at_zero Go.wp_at_succ
def tL (cs:List Ct) (i:Nat) (c:Ct):Bool:=mX c&&(decide (bJ cs c.key=i)&&(decide (0≤c.up)&&(decide (0≤c.down)&&(decide (c.up≤2199023255552)&&decide (c.down≤2199023255552)))))
def zQ (cs:List Ct) (ls:List Ls) (i:Nat) (l:Ls):Bool:=zP cs l&&decide (jf ls i<l.dev)
def BM (b:Bk) (c:Ct):Bool:=decide (0≤(zK b c.key).getD 2 0)&&decide (0≤(zK b c.key).getD 5 0)
def BN (b:Bk):Bool:=decide (iT (tL b.cs) b.cs)&&(decide (iT (zQ b.cs b.ls) b.ls)&&(decide (iT (fun _ c=>BM b c) b.cs)&&(decide (dw b.free)&&(decide (iU b.bound)&&Ik (rowsOf b) b.bound))))
structure RsB (b:Bk):Prop where
 nl:b.ls.length<1000000
 ns:(b.ls.map (fun l=>l.sl.length)).sum≤1000000
theorem Kw {cs:List Ct} {l:Ls} (h:zP cs l=true):(∀s∈l.sl,(0≤s.uu∧s.uu≤s.up∧s.up≤2199023255552)∧0≤s.ud∧s.ud≤s.down∧s.down≤2199023255552)∧0≤l.dev:=by
 unfold zP Kt at h;simp only[Bool.and_eq_true,decide_eq_true_eq]at h;refine⟨fun s hs=>?_,h.2.1.1⟩;obtain⟨i,hi,rfl⟩:=List.getElem_of_mem hs;have h1:=h.1 i hi;unfold uQ Kr at h1;simp only[Bool.and_eq_true,decide_eq_true_eq]at h1;omega
theorem Ui (key:ByteArray) (l:List Sc) (h:∀s∈l,(0≤s.uu∧s.uu≤s.up∧s.up≤2199023255552)∧0≤s.ud∧s.ud≤s.down∧s.down≤2199023255552):dh key l≤2199023255552*l.length∧leftD key l≤2199023255552*l.length:=by
 induction l with
 | nil=>simp[dh,leftD]
 | cons s t ih=>
  obtain⟨i1,i2⟩:=ih (fun x hx=>h x (List.mem_cons_of_mem _ hx));have h1:=h s List.mem_cons_self;simp only[dh,leftD,List.length_cons];constructor<;>split<;>omega
theorem Oj (key:ByteArray) (ls:List Ls) (h:∀l∈ls,∀s∈l.sl,(0≤s.uu∧s.uu≤s.up∧s.up≤2199023255552)∧0≤s.ud∧s.ud≤s.down∧s.down≤2199023255552):bG key ls≤2199023255552*((ls.map (fun l=>l.sl.length)).sum:Nat)∧bH key ls≤2199023255552*((ls.map (fun l=>l.sl.length)).sum:Nat):=by
 induction ls with
 | nil=>simp[bG,bH]
 | cons l t ih=>
  obtain⟨i1,i2⟩:=ih (fun x hx=>h x (List.mem_cons_of_mem _ hx));obtain⟨j1,j2⟩:=Ui key l.sl (h l List.mem_cons_self);simp only[bG,bH,List.map_cons,List.sum_cons];omega
theorem Ru (b:Bk) (key:ByteArray):∃t0 t1 t2 t3 t4 t5:Int,zK b key= [t0,t1,t2,t3,t4,t5]:=by
 unfold zK
 split
 ·exact⟨_,_,_,_,_,_,rfl⟩
 ·exact⟨_,_,_,_,_,_,rfl⟩
theorem X7 {b:Bk} (hB:RsB b) (h1:decide (iT (tL b.cs) b.cs)=true) (h2:decide (iT (zQ b.cs b.ls) b.ls)=true) (key:ByteArray):abG b key∧ ∀l∈b.ls,∀s∈l.sl,s.up≤2199023255552∧s.down≤2199023255552:=by
 rw[decide_eq_true_iff]at h1 h2
 have hl:∀l∈b.ls,∀s∈l.sl,(0≤s.uu∧s.uu≤s.up∧s.up≤2199023255552)∧0≤s.ud∧s.ud≤s.down∧s.down≤2199023255552:=by
  intro l hl;obtain⟨i,hi,rfl⟩:=List.getElem_of_mem hl;have h3:=h2 i hi;unfold zQ at h3;rw[Bool.and_eq_true]at h3;exact(Kw h3.1).1
 have xI:=Oj key b.ls hl;have hns:=hB.ns;refine⟨⟨fun x hx s hs=>?_,by omega,by omega,fun c hc=>?_⟩,fun l hm s hs=>?_⟩
 ·have:=hl x hx s hs
  omega
 ·obtain⟨i,hi,rfl⟩:=List.getElem_of_mem hc
  have h3:=h1 i hi;unfold tL at h3;simp only[Bool.and_eq_true,decide_eq_true_eq]at h3;have:=tQ h3.1;omega
 ·have:=hl l hm s hs
  omega
theorem Ky (x:dN) (b:Bk) (w:World) (h:iA w x b) (hB:RsB b):
  Calls Tryz.prog 15 #[iJ x] w fun e w'=>e= .returned (.bool (BN b))∧Below w.heap.size w w':=by
 obtain⟨⟨ca,cn,cc⟩,⟨fa,bD,fc⟩,⟨la,ln,lc⟩,⟨ba,bE,bc⟩⟩:=x;have hM:=h;obtain⟨xs,hx,xW⟩:=h.l;obtain⟨q0,g7,g8⟩:=Sl.lens (s:=⟨ca,cn,cc⟩) h.c;obtain⟨q1,g1,g2⟩:=Sl.lens (s:=⟨fa,bD,fc⟩) h.f;obtain⟨q2,g3,g4⟩:=Sl.lens (s:=⟨la,ln,lc⟩) hx;obtain⟨q3,g5,g6⟩:=Sl.lens (s:=⟨ba,bE,bc⟩) h.b;simp only at q0 q1 q2 q3 g1 g2 g3 g4 g5 g6 g7 g8;subst q0 q1 q2 q3;have iL:=ah xW.len;have K8:=ah xW;have HX:=ah hx;have HC:=ah h.c;have HM:=ah hM;have MQ:=ah hB;have bB:Below w.heap.size w (w.alloc (.cells #[.slice ca b.cs.length cc,.slice fa b.free.length fc,.slice la xs.length lc,.slice ba b.bound.length bc] 30)):=(aL _ _).alloc (aC _) _;have k1:=heap_alloc_new w (.cells #[.slice ca b.cs.length cc,.slice fa b.free.length fc,.slice la xs.length lc,.slice ba b.bound.length bc] 30);have uO:=ah bB;have fJ:=ah k1;have IC:Hid (BN b=(decide (iT (tL b.cs) b.cs)&&(decide (iT (zQ b.cs b.ls) b.ls)&&(decide (iT (fun _ c=>BM b c) b.cs)&&(decide (dw b.free)&&(decide (iU b.bound)&&Ik (rowsOf b) b.bound)))))):=rfl;clear h hM hx xW hB bB k1;change Calls Tryz.prog _ #[.agg #[.slice ca b.cs.length cc,.slice fa b.free.length fc,.slice la xs.length lc,.slice ba b.bound.length bc]] w _
 go_enter Tryz.func15,Tryz.ntmps15
 go_upto_block 0 with fail
 generalize w.alloc (.cells #[.slice ca b.cs.length cc,.slice fa b.free.length fc,.slice la xs.length lc,.slice ba b.bound.length bc] 30)=W1 at*
 go_cut[] (fun wx=>decide (iT (tL b.cs) b.cs)=true∧Below w.heap.size w wx∧wx.heap[w.heap.size]? =some (.cells #[.slice ca b.cs.length cc,.slice fa b.free.length fc,.slice la xs.length lc,.slice ba b.bound.length bc] 30 (0,0)))
 case first=>
  go_wp2
  go_loopw[3] (fun v3 wr=>∃k:Nat,k≤b.cs.length∧v3= .int .i64 k∧fC (tL b.cs) b.cs k∧Below w.heap.size w wr∧wr.heap[w.heap.size]? =some (.cells #[.slice ca b.cs.length cc,.slice fa b.free.length fc,.slice la xs.length lc,.slice ba b.bound.length bc] 30 (0,0))) (fun v3 _=>b.cs.length-(intOf v3).toNat)
  case atStart=>exact⟨0,Nat.zero_le _,rfl,iO _ _,uO.out,fJ.out⟩
  case round=>
   clear uO fJ;obtain⟨k,hk,rfl,hA,hb,gL⟩:=hrel;have HA:=ah hA;have CO:=ah hb;have fJ:=ah gL;have mG:w.heap.size<wr.heap.size:=(bq gL).1;obtain⟨d0,d1,d2,d3,jJ⟩:=ay gL;clear hA gL jJ;rcases Nat.lt_or_ge k b.cs.length with bA | gX
   ·obtain⟨bb,off,rfl,kZ,e0,e1,e2,e3,e4,e5,e6⟩:=dI.ct HC.out hb (aC _) k bA
    have jK:(k:Int)<b.cs.length:=by omega
    have vg:=ah (lK (f:=tL b.cs) bA);have nU:=ah (fC.step HA.out bA);have lZ:Hid (tL b.cs k b.cs[k]=(mX b.cs[k]&&(decide (bJ b.cs b.cs[k].key=k)&&(decide (0≤b.cs[k].up)&&(decide (0≤b.cs[k].down)&&(decide (b.cs[k].up≤2199023255552)&&decide (b.cs[k].down≤2199023255552))))))):=rfl;generalize tL b.cs k b.cs[k]=ok at*;generalize La:b.cs[k]=c at*;clear La;have zA:=ah (fun V=>FP c V);generalize hmy:mX c=my at*;obtain⟨c1,c2,c3,c4,c5,c6,c7⟩:=c;simp only at e0 e1 e2 e3 e4 e5 e6 lZ zA;have hA:Below wr.heap.size wr (wr.alloc (.cells #[.string c1,.int .i64 c2,.int .i64 c3,.int .i64 c4,.int .i64 c5,.int .i64 c6,.int .i64 c7] 54)):=(aL _ _).alloc (aC _) _;have ks:=heap_alloc_new wr (.cells #[.string c1,.int .i64 c2,.int .i64 c3,.int .i64 c4,.int .i64 c5,.int .i64 c6,.int .i64 c7] 54);have A1:=ah (aj fJ.out hA (by omega));have pF:=ah (hb.trans (hA.mono hb.size));go_upto_region 5 with fail
    generalize wr.alloc (.cells #[.string c1,.int .i64 c2,.int .i64 c3,.int .i64 c4,.int .i64 c5,.int .i64 c6,.int .i64 c7] 54)=U0 at*;have hgs:w.heap.size<wr.heap.size:=mG;generalize wr.heap.size=gs at*;have KS:=ah ks;obtain⟨m0,m1,m2,m3,m4,m5,m6,hx8⟩:=aB ks;obtain⟨d0,d1,d2,d3,jJ⟩:=ay A1.out;have Ay:gs<U0.heap.size:=(bq ks).1;have S_:=ah (dI.keep HC.out pF.out (aC _));clear e0 e1 e2 e3 e4 e5 e6 hA fJ hb ks hx8 jJ CO hmy;generalize K9:bJ b.cs c1=ci at*;have vS:=ah K9;clear K9
    go_cut[50] (fun v50 wx=>v50= .bool (!ok)∧Below U0.heap.size U0 wx)
    case first=>
     go_wp2_with fail
     refine(zA.out _).mono ?_;rintro e w1 ⟨rfl,jW⟩;obtain⟨m0,m1,m2,m3,m4,m5,m6,_⟩:=aB (aj KS.out jW Ay);obtain⟨d0,d1,d2,d3,_⟩:=ay (aj A1.out jW (by omega));have HC2:=ah (dI.keep S_.out jW (aC _))
     cases my with
     | false=>
      go_wp2;go_meet;exact⟨by rw[lZ.out];rfl,jW⟩
     | true=>
     go_wp2_with fail
     refine(mD ⟨⟨some ⟨bb,off,none⟩,b.cs.length,cc⟩,⟨fa,b.free.length,fc⟩,⟨la,xs.length,lc⟩,⟨ba,b.bound.length,bc⟩⟩ b.cs c1 _ HC2.out).mono ?_;rw[vS.out];rintro e w2 ⟨rfl,bO⟩;have gy:=jW.trans (bO.mono jW.size);obtain⟨m0,m1,m2,m3,m4,m5,m6,_⟩:=aB (aj KS.out gy Ay);clear jW bO;by_cases hq:ci=k
     ·have dq:(ci==(k:Int))=true:=by simpa using hq
      have dq2:(ci != (k:Int))=false:=by simpa using hq
      have HQ:=ah hq;clear hq;go_wp2;all_goals go_meet
      all_goals refine⟨?_,gy⟩
      all_goals rw[lZ.out,HQ.out]
      all_goals first | (simp;omega) | (simp [*];done) | (simp [*];omega) | (by_cases hd:c7≤2199023255552<;>simp[*]<;>omega)
     ·have dq:(ci==(k:Int))=false:=by simpa using hq
      have dq2:(ci != (k:Int))=true:=by simpa using hq
      have HQ:Hid (decide (ci=(k:Int))=false):=ah (by simpa using hq);clear hq;go_wp2;go_meet;exact⟨by rw[lZ.out,HQ.out];rfl,gy⟩
    case rest=>
    obtain⟨rfl,bO⟩:=hcut;have B1:=ah (aj A1.out bO (by omega));have Eu:=ah (pF.out.trans (bO.mono pF.out.size));clear bO KS A1 pF m0 m1 m2 m3 m4 m5 m6 d0 d1 d2 d3 S_ vS zA
    cases ok with
    | false=>
     have mo:=ah (vg.out (by first | rfl | trivial));go_wp2;go_ret;exact⟨aH (by rw[IC.out,mo.out];rfl),Eu.out⟩
    | true=>
     have HY:=ah (nU.out (by first | rfl | trivial));go_wp2;go_roundw
     case rel=>exact⟨k+1,by omega,by go_num,HY.out,Eu.out,B1.out⟩
     case measure=>simp[intOf];omega
   ·have jK:¬ (k:Int)<b.cs.length:=by omega
    go_wp2;go_meet;exact⟨fC.all HA.out gX,hb,fJ.out⟩
 case rest=>
 clear uO fJ;obtain⟨gY,hb,gL⟩:=hcut;obtain⟨W,hW⟩:∃W,W=wc:=⟨_,rfl⟩;subst hW;have Vj:=ah gY;have eY:=ah hb;have eT:=ah gL;clear gY hb gL;go_upto_block 2 with fail
 go_cut[] (fun wx=>decide (iT (zQ b.cs b.ls) b.ls)=true∧Below w.heap.size w wx∧wx.heap[w.heap.size]? =some (.cells #[.slice ca b.cs.length cc,.slice fa b.free.length fc,.slice la xs.length lc,.slice ba b.bound.length bc] 30 (0,0)))
 case first=>
  go_wp2
  go_loopw[5] (fun v5 wr=>∃i:Nat,i≤xs.length∧v5= .int .i64 i∧fC (zQ b.cs b.ls) b.ls i∧Below w.heap.size w wr∧wr.heap[w.heap.size]? =some (.cells #[.slice ca b.cs.length cc,.slice fa b.free.length fc,.slice la xs.length lc,.slice ba b.bound.length bc] 30 (0,0))) (fun v5 _=>xs.length-(intOf v5).toNat)
  case atStart=>exact⟨0,Nat.zero_le _,rfl,iO _ _,eY.out,eT.out⟩
  case round=>
   clear eY eT;obtain⟨i,hi,rfl,hA,hb,gL⟩:=hrel;have HA:=ah hA;have CO:=ah hb;have fJ:=ah gL;have mG:w.heap.size<wr.heap.size:=(bq gL).1;obtain⟨d0,d1,d2,d3,jJ⟩:=ay gL;clear hA gL jJ;rcases Nat.lt_or_ge i xs.length with bA | gX
   ·have oQ:i<b.ls.length:=by rw[←iL.out];exact bA
    have Lg:(i:Int)<xs.length:=by omega
    have vg:=ah (lK (f:=zQ b.cs b.ls) oQ);have nU:=ah (fC.step HA.out oQ);have lZ:Hid (zQ b.cs b.ls i b.ls[i]=(zP b.cs b.ls[i]&&decide (jf b.ls i<b.ls[i].dev))):=rfl;obtain⟨lb,lo,rfl,Ip,_⟩:=dI.ls HX.out hb (aC _) i bA;obtain⟨U,hU⟩:∃U,U=wr:=⟨_,rfl⟩;subst hU
    have X8:Hid (∀V,Below w.heap.size w V→ ∀j (hj:j<xs.length),∀m u,(j_ xs[j])[m]? =some u→V.cell? ⟨lb,lo+j*7+m,none⟩=some u):=ah (fun V hV j hj m u hu=>by
     obtain⟨rb',ro',he,_,hc⟩:=dI.at HX.out iE (by omega) hV (aC _) j hj;injection he with he;injection he with e1 e2 _;subst e1 e2
     exact hc m u hu)
    have hMI:=(bN.at K8.out i bA oQ)
    have GY:Hid (∀V,Below U.heap.size U V→V.cell? ⟨w.heap.size,0,none⟩=some (.slice ca b.cs.length cc)∧V.cell? ⟨w.heap.size,1,none⟩=some (.slice fa b.free.length fc)∧V.cell? ⟨w.heap.size,2,none⟩=some (.slice (some ⟨lb,lo,none⟩) xs.length lc)∧V.cell? ⟨w.heap.size,3,none⟩=some (.slice ba b.bound.length bc)):=ah (fun V hV=>by
     obtain⟨a0,a1,a2,a3,_⟩:=ay (aj fJ.out hV mG)
     exact⟨a0,a1,a2,a3⟩)
    have HDV:Hid (∀j,∀hj:j<i,∀V,Below w.heap.size w V→V.cell? ⟨lb,lo+j*7,none⟩=some (.int .i64 ((b.ls[j]'(by omega)).dev))):=ah (fun j hj V hV=>by
     have hjx:j<xs.length:=by omega
     have lq:j<b.ls.length:=by omega
     rw[← (bN.at K8.out j hjx lq).dev]
     exact X8.out V hV j hjx 0 _ rfl)
    have WQ:Hid (∀j,∀hj:j<b.ls.length,jf b.ls (j+1)=b.ls[j].dev):=ah (fun j hj=>by simp[jf,List.getElem?_eq_getElem hj]);have abI:Hid (zP b.cs b.ls[i]=true→0≤b.ls[i].dev):=ah (fun hh=>(Kw hh).2);have HM1:=ah (hMI.keep hb (aC _));have hdv:xs[i].dev=b.ls[i].dev:=hMI.dev;have Ow:=ah (fun V (hV:Below U.heap.size U V) m u hu=>X8.out V (hb.trans (hV.mono hb.size)) i bA m u hu);have HCC:=ah (dI.keep HC.out hb (aC _));clear hMI hb;generalize zQ b.cs b.ls i b.ls[i]=ok at*;generalize b.ls[i]=l at*;generalize xs[i]=z at*;obtain⟨z1,z2,z3,z4,⟨z5,z6,z7⟩,⟨z8,z9,dK⟩,⟨dU,eZ,dQ⟩⟩:=z;simp only at hdv;subst hdv;have Pn:Hid (∀V,Below U.heap.size U V→V.cell? ⟨lb,lo+i*7,none⟩=some (.int .i64 l.dev)∧V.cell? ⟨lb,lo+i*7+1,none⟩=some (.int .i64 z2)∧V.cell? ⟨lb,lo+i*7+2,none⟩=some (.int .i64 z3)∧V.cell? ⟨lb,lo+i*7+3,none⟩=some (.int .i64 z4)∧V.cell? ⟨lb,lo+i*7+4,none⟩=some (.slice z5 z6 z7)∧V.cell? ⟨lb,lo+i*7+5,none⟩=some (.slice z8 z9 dK)∧V.cell? ⟨lb,lo+i*7+6,none⟩=some (.slice dU eZ dQ)):=ah (fun V hV=>⟨Ow.out V hV 0 _ rfl,Ow.out V hV 1 _ rfl,Ow.out V hV 2 _ rfl,Ow.out V hV 3 _ rfl,Ow.out V hV 4 _ rfl,Ow.out V hV 5 _ rfl,Ow.out V hV 6 _ rfl⟩);obtain⟨q,hq⟩:∃q,zP b.cs l=q:=⟨_,rfl⟩;rw[hq]at lZ abI;have Nv:Hid (∀V,Below U.heap.size U V→Calls Tryz.prog 51 #[iJ ⟨⟨ca,b.cs.length,cc⟩,⟨fa,b.free.length,fc⟩,⟨some ⟨lb,lo,none⟩,xs.length,lc⟩,⟨ba,b.bound.length,bc⟩⟩,o9 ⟨l.dev,z2,z3,z4,⟨z5,z6,z7⟩,⟨z8,z9,dK⟩,⟨dU,eZ,dQ⟩⟩] V fun e w'=>e= .returned (.bool q)∧Below U.heap.size U w'):=ah (fun V hV=>(Ku ⟨⟨ca,b.cs.length,cc⟩,⟨fa,b.free.length,fc⟩,⟨some ⟨lb,lo,none⟩,xs.length,lc⟩,⟨ba,b.bound.length,bc⟩⟩ b.cs ⟨l.dev,z2,z3,z4,⟨z5,z6,z7⟩,⟨z8,z9,dK⟩,⟨dU,eZ,dQ⟩⟩ l V (dI.keep HCC.out hV (aC _)) (HM1.out.keep hV (aC _))).mono (fun _ _ ⟨h1,h2⟩=>⟨by rw[h1,hq],hV.trans (h2.mono hV.size)⟩));clear hq Ow X8;go_upto_region 10 with fail
    clear d0 d1 d2 d3
    go_cut[85] (fun v85 wx=>v85= .bool (!ok)∧Below U.heap.size U wx)
    case first=>
     have AP:Below U.heap.size U U:=aL _ _
     cases q with
     | false=>
      refine kX 27 (fun w'=>Below U.heap.size U w') 27 (fun w'=>Below U.heap.size U w') (by kernel_rfl) ?_;have aQ:Below U.heap.size U U.drew:=(aL _ _).drew;refine gK (i:=0) (v:=iJ ⟨⟨ca,b.cs.length,cc⟩,⟨fa,b.free.length,fc⟩,⟨some ⟨lb,lo,none⟩,xs.length,lc⟩,⟨ba,b.bound.length,bc⟩⟩) (ks:=[6,7,8,27]) rfl (by kernel_rfl) (fun _ _ _ h=>h) (.inl ⟨rfl,fun w' hw=>?_⟩) ⟨fun _=>aQ,fun _=>aQ⟩ ?_
      ·obtain⟨g0,g1,g2,g3⟩:=GY.out w' hw
       go_simp
      refine bF (i:=1) (v:=.pointer (some ⟨w.heap.size,2,none⟩)) rfl (by kernel_rfl) (fun _ _ _ h=>h) (.inl ⟨rfl,fun w' _=>?_⟩) ⟨fun _=>aQ,fun _=>aQ⟩ ?_
      ·go_simp
      refine bF (i:=3) (v:=.int .i64 i) rfl (by kernel_rfl) (fun _ _ _ h=>h) (.inl ⟨rfl,fun w' _=>?_⟩) ⟨fun _=>aQ,fun _=>aQ⟩ ?_
      ·go_simp
      refine gK (i:=2) (v:=.slice (some ⟨lb,lo,none⟩) xs.length lc) (ks:=[4,5,6,7,8,27]) rfl (by kernel_rfl) (fun _ _ _ h=>h) (.inl ⟨rfl,fun w' hw=>?_⟩) ⟨fun _=>aQ,fun _=>aQ⟩ ?_
      ·obtain⟨g0,g1,g2,g3⟩:=GY.out w' hw
       go_simp
      refine bF (i:=4) (v:=.pointer (some ⟨lb,lo+i*7,none⟩)) rfl (by kernel_rfl) (fun _ _ _ h=>h) (.inl ⟨rfl,fun w' _=>?_⟩) ⟨fun _=>aQ,fun _=>aQ⟩ ?_
      ·go_simp
      refine gK (i:=5) (v:=o9 ⟨l.dev,z2,z3,z4,⟨z5,z6,z7⟩,⟨z8,z9,dK⟩,⟨dU,eZ,dQ⟩⟩) (ks:=[6,7,8,27]) rfl (by kernel_rfl) (fun _ _ _ h=>h) (.inl ⟨rfl,fun w' hw=>?_⟩) ⟨fun _=>aQ,fun _=>aQ⟩ ?_
      ·obtain⟨m0,m1,m2,m3,m4,m5,m6⟩:=Pn.out w' hw
       go_simp
      refine bZ (i:=6) (by kernel_rfl) rfl rfl ?_;go_simp;refine(Nv.out _ aQ).mono ?_;rintro e V ⟨rfl,dF⟩;refine⟨⟨fun _=>dF,fun _=>dF⟩,?_⟩;refine bZ (i:=7) (by kernel_rfl) rfl rfl ?_;go_simp;refine⟨⟨fun _=>dF,fun _=>dF⟩,?_⟩;refine bZ (i:=8) (by kernel_rfl) rfl rfl ?_;go_simp;refine⟨⟨fun _=>dF,fun _=>dF⟩,?_⟩;refine bF (i:=9) (v:=undef) rfl (by kernel_rfl) (fun _ _ _ h=>h) (.inr ⟨(by go_simp;first | done | (simp [undef];done) | (intro hh;cases hh)),rfl⟩) ⟨fun _=>dF,fun _=>dF⟩ ?_;refine bF (i:=10) (v:=undef) rfl (by kernel_rfl) (fun _ _ _ h=>h) (.inr ⟨(by go_simp;first | done | (simp [undef];done) | (intro hh;cases hh)),rfl⟩) ⟨fun _=>dF,fun _=>dF⟩ ?_;refine bF (i:=11) (v:=undef) rfl (by kernel_rfl) (fun _ _ _ h=>h) (.inr ⟨(by go_simp;first | done | (simp [undef];done) | (intro hh;cases hh)),rfl⟩) ⟨fun _=>dF,fun _=>dF⟩ ?_;refine bF (i:=12) (v:=undef) rfl (by kernel_rfl) (fun _ _ _ h=>h) (.inr ⟨(by go_simp;first | done | (simp [undef];done) | (intro hh;cases hh)),rfl⟩) ⟨fun _=>dF,fun _=>dF⟩ ?_;refine bF (i:=13) (v:=undef) rfl (by kernel_rfl) (fun _ _ _ h=>h) (.inr ⟨(by go_simp;first | done | (simp [undef];done) | (intro hh;cases hh)),rfl⟩) ⟨fun _=>dF,fun _=>dF⟩ ?_;refine bF (i:=14) (v:=undef) rfl (by kernel_rfl) (fun _ _ _ h=>h) (.inr ⟨(by go_simp;first | done | (simp [undef];done) | (intro hh;cases hh)),rfl⟩) ⟨fun _=>dF,fun _=>dF⟩ ?_;refine bF (i:=15) (v:=undef) rfl (by kernel_rfl) (fun _ _ _ h=>h) (.inr ⟨(by go_simp;first | done | (simp [undef];done) | (intro hh;cases hh)),rfl⟩) ⟨fun _=>dF,fun _=>dF⟩ ?_;refine bF (i:=16) (v:=undef) rfl (by kernel_rfl) (fun _ _ _ h=>h) (.inr ⟨(by go_simp;first | done | (simp [undef];done) | (intro hh;cases hh)),rfl⟩) ⟨fun _=>dF,fun _=>dF⟩ ?_;refine bF (i:=17) (v:=undef) rfl (by kernel_rfl) (fun _ _ _ h=>h) (.inr ⟨(by go_simp;first | done | (simp [undef];done) | (intro hh;cases hh)),rfl⟩) ⟨fun _=>dF,fun _=>dF⟩ ?_;refine bF (i:=18) (v:=undef) rfl (by kernel_rfl) (fun _ _ _ h=>h) (.inr ⟨(by go_simp;first | done | (simp [undef];done) | (intro hh;cases hh)),rfl⟩) ⟨fun _=>dF,fun _=>dF⟩ ?_;refine bF (i:=19) (v:=undef) rfl (by kernel_rfl) (fun _ _ _ h=>h) (.inr ⟨(by go_simp;first | done | (simp [undef];done) | (intro hh;cases hh)),rfl⟩) ⟨fun _=>dF,fun _=>dF⟩ ?_;refine bF (i:=20) (v:=undef) rfl (by kernel_rfl) (fun _ _ _ h=>h) (.inr ⟨(by go_simp;first | done | (simp [undef];done) | (intro hh;cases hh)),rfl⟩) ⟨fun _=>dF,fun _=>dF⟩ ?_;refine bF (i:=21) (v:=undef) rfl (by kernel_rfl) (fun _ _ _ h=>h) (.inr ⟨(by go_simp;first | done | (simp [undef];done) | (intro hh;cases hh)),rfl⟩) ⟨fun _=>dF,fun _=>dF⟩ ?_;refine bF (i:=22) (v:=undef) rfl (by kernel_rfl) (fun _ _ _ h=>h) (.inr ⟨(by go_simp;first | done | (simp [undef];done) | (intro hh;cases hh)),rfl⟩) ⟨fun _=>dF,fun _=>dF⟩ ?_;refine bF (i:=23) (v:=undef) rfl (by kernel_rfl) (fun _ _ _ h=>h) (.inr ⟨(by go_simp;first | done | (simp [undef];done) | (intro hh;cases hh)),rfl⟩) ⟨fun _=>dF,fun _=>dF⟩ ?_;refine bF (i:=24) (v:=undef) rfl (by kernel_rfl) (fun _ _ _ h=>h) (.inr ⟨(by go_simp;first | done | (simp [undef];done) | (intro hh;cases hh)),rfl⟩) ⟨fun _=>dF,fun _=>dF⟩ ?_;refine bF (i:=25) (v:=undef) rfl (by kernel_rfl) (fun _ _ _ h=>h) (.inr ⟨(by go_simp;first | done | (simp [undef];done) | (intro hh;cases hh)),rfl⟩) ⟨fun _=>dF,fun _=>dF⟩ ?_;refine bF (i:=26) (v:=undef) rfl (by kernel_rfl) (fun _ _ _ h=>h) (.inr ⟨(by go_simp;first | done | (simp [undef];done) | (intro hh;cases hh)),rfl⟩) ⟨fun _=>dF,fun _=>dF⟩ ?_;refine bZ (i:=27) (by kernel_rfl) rfl rfl ?_;go_simp;refine⟨⟨fun _=>dF,fun _=>dF⟩,?_⟩;refine kW (by kernel_rfl) ?_;go_wp2;go_meet;exact⟨by rw[lZ.out];rfl,dF⟩
     | true=>
      have hd0:=abI.out (by first | rfl | trivial);rcases Nat.eq_zero_or_pos i with hi0 | hi0
      ·have hg0:¬ (0:Int)<(i:Int):=by omega
       have X9:Hid (ok=true):=ah (by rw[lZ.out,hi0];show(true&&decide (-1<l.dev))=true;simp;omega);have HI0:=ah hi0;clear hi0 hd0;refine kX 27 (fun w'=>Below U.heap.size U w') 27 (fun w'=>Below U.heap.size U w') (by kernel_rfl) ?_;have aQ:Below U.heap.size U U.drew:=(aL _ _).drew;refine gK (i:=0) (v:=iJ ⟨⟨ca,b.cs.length,cc⟩,⟨fa,b.free.length,fc⟩,⟨some ⟨lb,lo,none⟩,xs.length,lc⟩,⟨ba,b.bound.length,bc⟩⟩) (ks:=[6,7,8,27]) rfl (by kernel_rfl) (fun _ _ _ h=>h) (.inl ⟨rfl,fun w' hw=>?_⟩) ⟨fun _=>aQ,fun _=>aQ⟩ ?_
       ·obtain⟨g0,g1,g2,g3⟩:=GY.out w' hw
        go_simp
       refine bF (i:=1) (v:=.pointer (some ⟨w.heap.size,2,none⟩)) rfl (by kernel_rfl) (fun _ _ _ h=>h) (.inl ⟨rfl,fun w' _=>?_⟩) ⟨fun _=>aQ,fun _=>aQ⟩ ?_
       ·go_simp
       refine bF (i:=3) (v:=.int .i64 i) rfl (by kernel_rfl) (fun _ _ _ h=>h) (.inl ⟨rfl,fun w' _=>?_⟩) ⟨fun _=>aQ,fun _=>aQ⟩ ?_
       ·go_simp
       refine gK (i:=2) (v:=.slice (some ⟨lb,lo,none⟩) xs.length lc) (ks:=[4,5,6,7,8,27]) rfl (by kernel_rfl) (fun _ _ _ h=>h) (.inl ⟨rfl,fun w' hw=>?_⟩) ⟨fun _=>aQ,fun _=>aQ⟩ ?_
       ·obtain⟨g0,g1,g2,g3⟩:=GY.out w' hw
        go_simp
       refine bF (i:=4) (v:=.pointer (some ⟨lb,lo+i*7,none⟩)) rfl (by kernel_rfl) (fun _ _ _ h=>h) (.inl ⟨rfl,fun w' _=>?_⟩) ⟨fun _=>aQ,fun _=>aQ⟩ ?_
       ·go_simp
       refine gK (i:=5) (v:=o9 ⟨l.dev,z2,z3,z4,⟨z5,z6,z7⟩,⟨z8,z9,dK⟩,⟨dU,eZ,dQ⟩⟩) (ks:=[6,7,8,27]) rfl (by kernel_rfl) (fun _ _ _ h=>h) (.inl ⟨rfl,fun w' hw=>?_⟩) ⟨fun _=>aQ,fun _=>aQ⟩ ?_
       ·obtain⟨m0,m1,m2,m3,m4,m5,m6⟩:=Pn.out w' hw
        go_simp
       refine bZ (i:=6) (by kernel_rfl) rfl rfl ?_;go_simp;refine(Nv.out _ aQ).mono ?_;rintro e V ⟨rfl,dF⟩;refine⟨⟨fun _=>dF,fun _=>dF⟩,?_⟩;refine bZ (i:=7) (by kernel_rfl) rfl rfl ?_;go_simp;refine⟨⟨fun _=>dF,fun _=>dF⟩,?_⟩;refine bZ (i:=8) (by kernel_rfl) rfl rfl ?_;go_simp;refine⟨⟨fun _=>dF,fun _=>dF⟩,?_⟩;refine bF (i:=9) (v:=.int .i64 i) rfl (by kernel_rfl) (fun _ _ _ h=>h) (.inl ⟨(by go_simp),fun w' _=>?_⟩) ⟨fun _=>dF,fun _=>dF⟩ ?_
       ·go_simp
       refine bF (i:=10) (v:=.bool false) rfl (by kernel_rfl) (fun _ _ _ h=>h) (.inl ⟨(by go_simp),fun w' _=>?_⟩) ⟨fun _=>dF,fun _=>dF⟩ ?_
       ·go_simp;first | done | exact HI0.out
       refine bF (i:=11) (v:=.bool false) rfl (by kernel_rfl) (fun _ _ _ h=>h) (.inl ⟨(by go_simp),fun w' _=>?_⟩) ⟨fun _=>dF,fun _=>dF⟩ ?_
       ·go_simp
       refine bF (i:=12) (v:=undef) rfl (by kernel_rfl) (fun _ _ _ h=>h) (.inr ⟨(by go_simp;first | done | (simp [undef];done) | (intro hh;cases hh)),rfl⟩) ⟨fun _=>dF,fun _=>dF⟩ ?_;refine bF (i:=13) (v:=undef) rfl (by kernel_rfl) (fun _ _ _ h=>h) (.inr ⟨(by go_simp;first | done | (simp [undef];done) | (intro hh;cases hh)),rfl⟩) ⟨fun _=>dF,fun _=>dF⟩ ?_;refine bF (i:=14) (v:=undef) rfl (by kernel_rfl) (fun _ _ _ h=>h) (.inr ⟨(by go_simp;first | done | (simp [undef];done) | (intro hh;cases hh)),rfl⟩) ⟨fun _=>dF,fun _=>dF⟩ ?_;refine bF (i:=15) (v:=undef) rfl (by kernel_rfl) (fun _ _ _ h=>h) (.inr ⟨(by go_simp;first | done | (simp [undef];done) | (intro hh;cases hh)),rfl⟩) ⟨fun _=>dF,fun _=>dF⟩ ?_;refine bF (i:=16) (v:=undef) rfl (by kernel_rfl) (fun _ _ _ h=>h) (.inr ⟨(by go_simp;first | done | (simp [undef];done) | (intro hh;cases hh)),rfl⟩) ⟨fun _=>dF,fun _=>dF⟩ ?_;refine bF (i:=17) (v:=undef) rfl (by kernel_rfl) (fun _ _ _ h=>h) (.inr ⟨(by go_simp;first | done | (simp [undef];done) | (intro hh;cases hh)),rfl⟩) ⟨fun _=>dF,fun _=>dF⟩ ?_;refine bF (i:=18) (v:=undef) rfl (by kernel_rfl) (fun _ _ _ h=>h) (.inr ⟨(by go_simp;first | done | (simp [undef];done) | (intro hh;cases hh)),rfl⟩) ⟨fun _=>dF,fun _=>dF⟩ ?_;refine bF (i:=19) (v:=undef) rfl (by kernel_rfl) (fun _ _ _ h=>h) (.inr ⟨(by go_simp;first | done | (simp [undef];done) | (intro hh;cases hh)),rfl⟩) ⟨fun _=>dF,fun _=>dF⟩ ?_;refine bF (i:=20) (v:=undef) rfl (by kernel_rfl) (fun _ _ _ h=>h) (.inr ⟨(by go_simp;first | done | (simp [undef];done) | (intro hh;cases hh)),rfl⟩) ⟨fun _=>dF,fun _=>dF⟩ ?_;refine bF (i:=21) (v:=undef) rfl (by kernel_rfl) (fun _ _ _ h=>h) (.inr ⟨(by go_simp;first | done | (simp [undef];done) | (intro hh;cases hh)),rfl⟩) ⟨fun _=>dF,fun _=>dF⟩ ?_;refine bF (i:=22) (v:=undef) rfl (by kernel_rfl) (fun _ _ _ h=>h) (.inr ⟨(by go_simp;first | done | (simp [undef];done) | (intro hh;cases hh)),rfl⟩) ⟨fun _=>dF,fun _=>dF⟩ ?_;refine bF (i:=23) (v:=undef) rfl (by kernel_rfl) (fun _ _ _ h=>h) (.inr ⟨(by go_simp;first | done | (simp [undef];done) | (intro hh;cases hh)),rfl⟩) ⟨fun _=>dF,fun _=>dF⟩ ?_;refine bF (i:=24) (v:=undef) rfl (by kernel_rfl) (fun _ _ _ h=>h) (.inr ⟨(by go_simp;first | done | (simp [undef];done) | (intro hh;cases hh)),rfl⟩) ⟨fun _=>dF,fun _=>dF⟩ ?_;refine bF (i:=25) (v:=undef) rfl (by kernel_rfl) (fun _ _ _ h=>h) (.inr ⟨(by go_simp;first | done | (simp [undef];done) | (intro hh;cases hh)),rfl⟩) ⟨fun _=>dF,fun _=>dF⟩ ?_;refine jC (i:=26) (by kernel_rfl) rfl (by go_simp) ?_;go_simp;refine⟨⟨fun _=>dF,fun _=>dF⟩,?_⟩;refine bZ (i:=27) (by kernel_rfl) rfl rfl ?_;go_simp;refine⟨⟨fun _=>dF,fun _=>dF⟩,?_⟩;refine kW (by kernel_rfl) ?_;go_wp2;go_meet;exact⟨by rw[X9.out];rfl,dF⟩
      ·obtain⟨j,hij⟩:∃j,i=j+1:=⟨i-1,by omega⟩
       have lq:j<b.ls.length:=by omega
       have HPJ:=ah (fun V (hV:Below U.heap.size U V)=>HDV.out j (by omega) V (CO.out.trans (hV.mono CO.out.size)));have HPE:=ah (WQ.out j lq);have t_:(j:Int)<xs.length:=by omega
       have hg0:(0:Int)<(i:Int):=by omega
       have hi1:IntKind.i64.wrap ((i:Int)-1)=j:=by rw[show ((i:Int)-1)=j by omega];exact IntWalk.i64_in _ (by omega)
       generalize b.ls[j].dev=pd at*;obtain⟨lt,abJ⟩:∃lt,decide (l.dev≤pd)=lt:=⟨_,rfl⟩;have X9:Hid (ok=!lt):=ah (by rw[lZ.out,hij,HPE.out,←abJ];by_cases hh:l.dev≤pd<;>simp[hh]<;>omega);have HI0:=ah hi0;clear hij hi0 hd0;refine kX 27 (fun w'=>Below U.heap.size U w') 27 (fun w'=>Below U.heap.size U w') (by kernel_rfl) ?_;have aQ:Below U.heap.size U U.drew:=(aL _ _).drew;refine gK (i:=0) (v:=iJ ⟨⟨ca,b.cs.length,cc⟩,⟨fa,b.free.length,fc⟩,⟨some ⟨lb,lo,none⟩,xs.length,lc⟩,⟨ba,b.bound.length,bc⟩⟩) (ks:=[6,7,8,27]) rfl (by kernel_rfl) (fun _ _ _ h=>h) (.inl ⟨rfl,fun w' hw=>?_⟩) ⟨fun _=>aQ,fun _=>aQ⟩ ?_
       ·obtain⟨g0,g1,g2,g3⟩:=GY.out w' hw
        go_simp
       refine bF (i:=1) (v:=.pointer (some ⟨w.heap.size,2,none⟩)) rfl (by kernel_rfl) (fun _ _ _ h=>h) (.inl ⟨rfl,fun w' _=>?_⟩) ⟨fun _=>aQ,fun _=>aQ⟩ ?_
       ·go_simp
       refine bF (i:=3) (v:=.int .i64 i) rfl (by kernel_rfl) (fun _ _ _ h=>h) (.inl ⟨rfl,fun w' _=>?_⟩) ⟨fun _=>aQ,fun _=>aQ⟩ ?_
       ·go_simp
       refine gK (i:=2) (v:=.slice (some ⟨lb,lo,none⟩) xs.length lc) (ks:=[4,5,6,7,8,27]) rfl (by kernel_rfl) (fun _ _ _ h=>h) (.inl ⟨rfl,fun w' hw=>?_⟩) ⟨fun _=>aQ,fun _=>aQ⟩ ?_
       ·obtain⟨g0,g1,g2,g3⟩:=GY.out w' hw
        go_simp
       refine bF (i:=4) (v:=.pointer (some ⟨lb,lo+i*7,none⟩)) rfl (by kernel_rfl) (fun _ _ _ h=>h) (.inl ⟨rfl,fun w' _=>?_⟩) ⟨fun _=>aQ,fun _=>aQ⟩ ?_
       ·go_simp
       refine gK (i:=5) (v:=o9 ⟨l.dev,z2,z3,z4,⟨z5,z6,z7⟩,⟨z8,z9,dK⟩,⟨dU,eZ,dQ⟩⟩) (ks:=[6,7,8,27]) rfl (by kernel_rfl) (fun _ _ _ h=>h) (.inl ⟨rfl,fun w' hw=>?_⟩) ⟨fun _=>aQ,fun _=>aQ⟩ ?_
       ·obtain⟨m0,m1,m2,m3,m4,m5,m6⟩:=Pn.out w' hw
        go_simp
       refine bZ (i:=6) (by kernel_rfl) rfl rfl ?_;go_simp;refine(Nv.out _ aQ).mono ?_;rintro e V ⟨rfl,dF⟩;refine⟨⟨fun _=>dF,fun _=>dF⟩,?_⟩;refine bZ (i:=7) (by kernel_rfl) rfl rfl ?_;go_simp;refine⟨⟨fun _=>dF,fun _=>dF⟩,?_⟩;refine bZ (i:=8) (by kernel_rfl) rfl rfl ?_;go_simp;refine⟨⟨fun _=>dF,fun _=>dF⟩,?_⟩;refine bF (i:=9) (v:=.int .i64 i) rfl (by kernel_rfl) (fun _ _ _ h=>h) (.inl ⟨(by go_simp),fun w' _=>?_⟩) ⟨fun _=>dF,fun _=>dF⟩ ?_
       ·go_simp
       refine bF (i:=10) (v:=.bool true) rfl (by kernel_rfl) (fun _ _ _ h=>h) (.inl ⟨(by go_simp),fun w' _=>?_⟩) ⟨fun _=>dF,fun _=>dF⟩ ?_
       ·go_simp;first | done | exact HI0.out
       refine bF (i:=11) (v:=.bool true) rfl (by kernel_rfl) (fun _ _ _ h=>h) (.inl ⟨(by go_simp),fun w' _=>?_⟩) ⟨fun _=>dF,fun _=>dF⟩ ?_
       ·go_simp
       refine bF (i:=12) (v:=.pointer (some ⟨w.heap.size,2,none⟩)) rfl (by kernel_rfl) (fun _ _ _ h=>h) (.inl ⟨(by go_simp),fun w' _=>?_⟩) ⟨fun _=>dF,fun _=>dF⟩ ?_
       ·go_simp
       refine gK (i:=13) (v:=.slice (some ⟨lb,lo,none⟩) xs.length lc) (ks:=[16,17,18,25,26,27]) rfl (by kernel_rfl) (fun _ _ _ h=>h) (.inl ⟨(by go_simp),fun w' hw=>?_⟩) ⟨fun _=>dF,fun _=>dF⟩ ?_
       ·obtain⟨g0,g1,g2,g3⟩:=GY.out w' hw
        go_simp
       refine bF (i:=14) (v:=.int .i64 i) rfl (by kernel_rfl) (fun _ _ _ h=>h) (.inl ⟨(by go_simp),fun w' _=>?_⟩) ⟨fun _=>dF,fun _=>dF⟩ ?_
       ·go_simp
       refine bF (i:=15) (v:=.int .i64 j) rfl (by kernel_rfl) (fun _ _ _ h=>h) (.inl ⟨(by go_simp),fun w' _=>?_⟩) ⟨fun _=>dF,fun _=>dF⟩ ?_
       ·go_simp
       refine bF (i:=16) (v:=.pointer (some ⟨lb,lo+j*7,none⟩)) rfl (by kernel_rfl) (fun _ _ _ h=>h) (.inl ⟨(by go_simp),fun w' _=>?_⟩) ⟨fun _=>dF,fun _=>dF⟩ ?_
       ·go_simp
       refine bF (i:=17) (v:=.pointer (some ⟨lb,lo+j*7,none⟩)) rfl (by kernel_rfl) (fun _ _ _ h=>h) (.inl ⟨(by go_simp),fun w' _=>?_⟩) ⟨fun _=>dF,fun _=>dF⟩ ?_
       ·go_simp
       refine gK (i:=18) (v:=.int .i64 pd) (ks:=[25,26,27]) rfl (by kernel_rfl) (fun _ _ _ h=>h) (.inl ⟨(by go_simp),fun w' hw=>?_⟩) ⟨fun _=>dF,fun _=>dF⟩ ?_
       ·have p0:=HPJ.out w' hw
        go_simp
       refine bF (i:=19) (v:=.pointer (some ⟨w.heap.size,2,none⟩)) rfl (by kernel_rfl) (fun _ _ _ h=>h) (.inl ⟨(by go_simp),fun w' _=>?_⟩) ⟨fun _=>dF,fun _=>dF⟩ ?_
       ·go_simp
       refine gK (i:=20) (v:=.slice (some ⟨lb,lo,none⟩) xs.length lc) (ks:=[22,23,24,25,26,27]) rfl (by kernel_rfl) (fun _ _ _ h=>h) (.inl ⟨(by go_simp),fun w' hw=>?_⟩) ⟨fun _=>dF,fun _=>dF⟩ ?_
       ·obtain⟨g0,g1,g2,g3⟩:=GY.out w' hw
        go_simp
       refine bF (i:=21) (v:=.int .i64 i) rfl (by kernel_rfl) (fun _ _ _ h=>h) (.inl ⟨(by go_simp),fun w' _=>?_⟩) ⟨fun _=>dF,fun _=>dF⟩ ?_
       ·go_simp
       refine bF (i:=22) (v:=.pointer (some ⟨lb,lo+i*7,none⟩)) rfl (by kernel_rfl) (fun _ _ _ h=>h) (.inl ⟨(by go_simp),fun w' _=>?_⟩) ⟨fun _=>dF,fun _=>dF⟩ ?_
       ·go_simp
       refine bF (i:=23) (v:=.pointer (some ⟨lb,lo+i*7,none⟩)) rfl (by kernel_rfl) (fun _ _ _ h=>h) (.inl ⟨(by go_simp),fun w' _=>?_⟩) ⟨fun _=>dF,fun _=>dF⟩ ?_
       ·go_simp
       refine gK (i:=24) (v:=.int .i64 l.dev) (ks:=[25,26,27]) rfl (by kernel_rfl) (fun _ _ _ h=>h) (.inl ⟨(by go_simp),fun w' hw=>?_⟩) ⟨fun _=>dF,fun _=>dF⟩ ?_
       ·obtain⟨m0,_,_,_,_,_,_⟩:=Pn.out w' hw
        go_simp
       refine jC (i:=25) (by kernel_rfl) rfl (by go_simp) ?_;go_simp;refine⟨⟨fun _=>dF,fun _=>dF⟩,?_⟩;refine jC (i:=26) (by kernel_rfl) rfl (by go_simp) ?_;go_simp;refine⟨⟨fun _=>dF,fun _=>dF⟩,?_⟩;refine bZ (i:=27) (by kernel_rfl) rfl rfl ?_;go_simp;refine⟨⟨fun _=>dF,fun _=>dF⟩,?_⟩;refine kW (by kernel_rfl) ?_;go_wp2;go_meet;exact⟨by rw[X9.out,←abJ];simp,dF⟩
    case rest=>
    obtain⟨rfl,bO⟩:=hcut;have B1:=ah (aj fJ.out bO mG);have Eu:=ah (CO.out.trans (bO.mono CO.out.size));clear bO GY Pn Nv HDV HM1 HCC
    cases ok with
    | false=>
     have mo:=ah (vg.out (by first | rfl | trivial));go_wp2;go_ret;exact⟨aH (by rw[IC.out,mo.out];simp),Eu.out⟩
    | true=>
     have HY:=ah (nU.out (by first | rfl | trivial));go_wp2;go_roundw
     case rel=>exact⟨i+1,by omega,by go_num,HY.out,Eu.out,B1.out⟩
     case measure=>simp[intOf];omega
   ·have Lg:¬ (i:Int)<xs.length:=by omega
    have mo:=ah (fC.all HA.out (by have:=iL.out;omega));go_wp2;go_meet;exact⟨mo.out,hb,fJ.out⟩
 case rest=>
 clear eY eT;obtain⟨gY,hb,gL⟩:=hcut;obtain⟨W3,zY⟩:∃W3,W3=wc:=⟨_,rfl⟩;subst zY;have Vk:=ah gY;have eY:=ah hb;have eT:=ah gL;have abK:=ah (fun key=>X7 MQ.out Vj.out Vk.out key);clear gY hb gL;go_upto_block 4 with fail
 go_cut[] (fun wx=>decide (iT (fun _ c=>BM b c) b.cs)=true∧Below w.heap.size w wx∧wx.heap[w.heap.size]? =some (.cells #[.slice ca b.cs.length cc,.slice fa b.free.length fc,.slice la xs.length lc,.slice ba b.bound.length bc] 30 (0,0)))
 case first=>
  go_wp2
  go_loopw[6] (fun v6 wr=>∃i:Nat,i≤b.cs.length∧v6= .int .i64 i∧fC (fun _ c=>BM b c) b.cs i∧Below w.heap.size w wr∧wr.heap[w.heap.size]? =some (.cells #[.slice ca b.cs.length cc,.slice fa b.free.length fc,.slice la xs.length lc,.slice ba b.bound.length bc] 30 (0,0))) (fun v6 _=>b.cs.length-(intOf v6).toNat)
  case atStart=>exact⟨0,Nat.zero_le _,rfl,iO _ _,eY.out,eT.out⟩
  case round=>
   clear eY eT;obtain⟨i,hi,rfl,hA,hb,gL⟩:=hrel;have HA:=ah hA;have uN:=ah hb;have fJ:=ah gL;have mG:w.heap.size<wr.heap.size:=(bq gL).1;obtain⟨d0,d1,d2,d3,jJ⟩:=ay gL;clear hA gL jJ;rcases Nat.lt_or_ge i b.cs.length with bA | gX
   ·have Lg:(i:Int)<b.cs.length:=by omega
    have vg:=ah (lK (f:=fun _ c=>BM b c) bA);have nU:=ah (fC.step HA.out bA);obtain⟨t0,t1,t2,t3,t4,t5,ht⟩:=Ru b b.cs[i].key;have lZ:Hid (BM b b.cs[i]=(decide (0≤t2)&&decide (0≤t5))):=ah (by unfold BM;rw[ht];rfl);have HT:=ah ht;obtain⟨kb,ko,rfl,Ip,_⟩:=dI.ct HC.out hb (aC _) i bA;obtain⟨U,hU⟩:∃U,U=wr:=⟨_,rfl⟩;subst hU
    have HCK:Hid (∀V,Below U.heap.size U V→V.cell? ⟨kb,ko+i*7,none⟩=some (.string b.cs[i].key)):=ah (fun V hV=>by
     obtain⟨rb',ro',he,_,hc,_⟩:=dI.ct HC.out (hb.trans (hV.mono hb.size)) (aC _) i bA;injection he with he;injection he with e1 e2 _;subst e1 e2
     exact hc)
    have GY:Hid (∀V,Below U.heap.size U V→V.cell? ⟨w.heap.size,0,none⟩=some (.slice (some ⟨kb,ko,none⟩) b.cs.length cc)∧V.cell? ⟨w.heap.size,1,none⟩=some (.slice fa b.free.length fc)∧V.cell? ⟨w.heap.size,2,none⟩=some (.slice la xs.length lc)∧V.cell? ⟨w.heap.size,3,none⟩=some (.slice ba b.bound.length bc)):=ah (fun V hV=>by
     obtain⟨a0,a1,a2,a3,_⟩:=ay (aj fJ.out hV mG)
     exact⟨a0,a1,a2,a3⟩)
    have YX:=ah (abK.out b.cs[i].key).1;have HUP:=ah (abK.out b.cs[i].key).2;clear hb ht;generalize BM b b.cs[i]=ok at*;generalize b.cs[i].key=key at*;go_upto_region 15 with fail
    clear d0 d1 d2 d3
    go_cut[7] (fun v7 wx=>∃p,v7= .pointer (some ⟨p,0,none⟩)∧Bs wx p ⟨t0,t1,t2,t3,t4,t5⟩∧Below U.heap.size U wx)
    case first=>
     refine aW 9 (fun w'=>Below U.heap.size U w') (by kernel_rfl) ?_;have aQ:Below U.heap.size U U.drew:=(aL _ _).drew;refine aP (i:=0) (v:=iJ ⟨⟨some ⟨kb,ko,none⟩,b.cs.length,cc⟩,⟨fa,b.free.length,fc⟩,⟨la,xs.length,lc⟩,⟨ba,b.bound.length,bc⟩⟩) rfl rfl (by kernel_rfl) (fun _ _ _ h=>h) (.inl ⟨rfl,fun w' hw=>?_⟩) aQ ?_
     ·obtain⟨g0,g1,g2,g3⟩:=GY.out w' hw
      go_simp
     refine aV (i:=1) (v:=.pointer (some ⟨w.heap.size,0,none⟩)) rfl (by kernel_rfl) (fun _ _ _ h=>h) (.inl ⟨rfl,fun w' _=>?_⟩) aQ ?_
     ·go_simp
     refine aP (i:=2) (v:=.slice (some ⟨kb,ko,none⟩) b.cs.length cc) rfl rfl (by kernel_rfl) (fun _ _ _ h=>h) (.inl ⟨rfl,fun w' hw=>?_⟩) aQ ?_
     ·obtain⟨g0,g1,g2,g3⟩:=GY.out w' hw
      go_simp
     refine aV (i:=3) (v:=.int .i64 i) rfl (by kernel_rfl) (fun _ _ _ h=>h) (.inl ⟨rfl,fun w' _=>?_⟩) aQ ?_
     ·go_simp
     refine aV (i:=4) (v:=.pointer (some ⟨kb,ko+i*7,none⟩)) rfl (by kernel_rfl) (fun _ _ _ h=>h) (.inl ⟨rfl,fun w' _=>?_⟩) aQ ?_
     ·go_simp
     refine aV (i:=5) (v:=.pointer (some ⟨kb,ko+i*7,none⟩)) rfl (by kernel_rfl) (fun _ _ _ h=>h) (.inl ⟨rfl,fun w' _=>?_⟩) aQ ?_
     ·go_simp
     refine aP (i:=6) (v:=.string key) rfl rfl (by kernel_rfl) (fun _ _ _ h=>h) (.inl ⟨rfl,fun w' hw=>?_⟩) aQ ?_
     ·have g0:=HCK.out w' hw
      go_simp
     have aQ:=aQ;generalize U.drew=U0 at*;refine iZ (i:=7) (j:=8) (by kernel_rfl) rfl rfl rfl rfl ?_ ?_
     ·go_simp
      refine(zq ⟨⟨some ⟨kb,ko,none⟩,b.cs.length,cc⟩,⟨fa,b.free.length,fc⟩,⟨la,xs.length,lc⟩,⟨ba,b.bound.length,bc⟩⟩ b key _ (HM.out.keep (uN.out.trans (aQ.mono uN.out.size)) (aC _)) YX.out HUP.out).mono ?_;rw[HT.out];rintro e V ⟨rfl,hb⟩;have mq:=aQ.trans (hb.mono aQ.size);refine⟨mq,?_⟩;have hA:Below V.heap.size V (V.alloc (.cells #[.int .i64 0,.int .i64 0,.int .i64 0,.int .i64 0,.int .i64 0,.int .i64 0] 42)):=(aL _ _).alloc (aC _) _;have kz:=heap_alloc_new V (.cells #[.int .i64 0,.int .i64 0,.int .i64 0,.int .i64 0,.int .i64 0,.int .i64 0] 42);have dF:=mq.trans (hA.mono mq.size);have hps:U.heap.size≤V.heap.size:=mq.size;refine aD (i:=8) (by kernel_rfl) rfl rfl ?_;go_simp;first | refine⟨dF,?_⟩ | skip
      generalize V.alloc (.cells #[.int .i64 0,.int .i64 0,.int .i64 0,.int .i64 0,.int .i64 0,.int .i64 0] 42)=V2 at*;generalize V.heap.size=p at*;obtain⟨⟨a0,a1,a2,a3,a4,a5⟩,fz⟩:=qL kz;have f0:=fz 0;have f1:=fz 1;have f2:=fz 2;have f3:=fz 3;have f4:=fz 4;have f5:=fz 5;have HS6:=ah (Mq (x:=zSx) kz ⟨t0,t1,t2,t3,t4,t5⟩);have DU:=ah (abH dF hps (.int .i64 t0) (.int .i64 t1) (.int .i64 t2) (.int .i64 t3) (.int .i64 t4) (.int .i64 t5));refine aD (i:=9) (by kernel_rfl) rfl rfl ?_;go_simp;refine aU (by kernel_rfl) ?_;go_wp2;go_meet;exact⟨p,rfl,HS6.out,DU.out⟩
     ·go_simp
      have hA:Below U0.heap.size U0 (U0.alloc (.cells #[.int .i64 0,.int .i64 0,.int .i64 0,.int .i64 0,.int .i64 0,.int .i64 0] 42)):=(aL _ _).alloc (aC _) _;have kz:=heap_alloc_new U0 (.cells #[.int .i64 0,.int .i64 0,.int .i64 0,.int .i64 0,.int .i64 0,.int .i64 0] 42);have hps:U.heap.size≤U0.heap.size:=aQ.size;have hpl:U0.heap.size<(U0.alloc (.cells #[.int .i64 0,.int .i64 0,.int .i64 0,.int .i64 0,.int .i64 0,.int .i64 0] 42)).heap.size:=by simp
      have mq:=aQ.trans (hA.mono aQ.size);generalize U0.alloc (.cells #[.int .i64 0,.int .i64 0,.int .i64 0,.int .i64 0,.int .i64 0,.int .i64 0] 42)=V at*;generalize U0.heap.size=p at*;first | refine⟨mq,?_⟩ | skip
      refine aD (i:=7) (by kernel_rfl) rfl rfl ?_;go_simp;refine(zq ⟨⟨some ⟨kb,ko,none⟩,b.cs.length,cc⟩,⟨fa,b.free.length,fc⟩,⟨la,xs.length,lc⟩,⟨ba,b.bound.length,bc⟩⟩ b key _ (HM.out.keep (uN.out.trans (mq.mono uN.out.size)) (aC _)) YX.out HUP.out).mono ?_;rw[HT.out];rintro e V2 ⟨rfl,hb⟩;have dF:=mq.trans (hb.mono mq.size);refine⟨dF,?_⟩;have kz2:=aj kz hb hpl;obtain⟨⟨a0,a1,a2,a3,a4,a5⟩,fz⟩:=qL kz2;have f0:=fz 0;have f1:=fz 1;have f2:=fz 2;have f3:=fz 3;have f4:=fz 4;have f5:=fz 5;have HS6:=ah (Mq (x:=zSx) kz2 ⟨t0,t1,t2,t3,t4,t5⟩);have DU:=ah (abH dF hps (.int .i64 t0) (.int .i64 t1) (.int .i64 t2) (.int .i64 t3) (.int .i64 t4) (.int .i64 t5));refine aD (i:=9) (by kernel_rfl) rfl rfl ?_;go_simp;refine aU (by kernel_rfl) ?_;go_wp2;go_meet;exact⟨p,rfl,HS6.out,DU.out⟩
    case rest=>
    obtain⟨p,rfl,h6,bO⟩:=hcut;have B1:=ah (aj fJ.out bO mG);have Eu:=ah (uN.out.trans (bO.mono uN.out.size));obtain⟨⟨a0,a1,a2,a3,a4,a5⟩,_⟩:=qL h6;clear bO GY HCK h6;by_cases h2:t2<0
    ·have qQ:ok=false:=by rw[lZ.out];simp;omega
     have mo:=ah (vg.out qQ);clear qQ;go_wp2;go_ret;exact⟨aH (by rw[IC.out,mo.out];simp),Eu.out⟩
    by_cases h5:t5<0
    ·have qQ:ok=false:=by rw[lZ.out];simp;omega
     have mo:=ah (vg.out qQ);clear qQ;go_wp2;go_ret;exact⟨aH (by rw[IC.out,mo.out];simp),Eu.out⟩
    ·have qQ:ok=true:=by rw[lZ.out];simp;omega
     have HY:=ah (nU.out qQ);clear qQ;go_wp2;go_roundw
     case rel=>exact⟨i+1,by omega,by go_num,HY.out,Eu.out,B1.out⟩
     case measure=>simp[intOf];omega
   ·have Lg:¬ (i:Int)<b.cs.length:=by omega
    have mo:=ah (fC.all HA.out gX);go_wp2;go_meet;exact⟨mo.out,hb,fJ.out⟩
 case rest=>
 clear eY eT;obtain⟨gY,hb,gL⟩:=hcut;obtain⟨W4,UH⟩:∃W4,W4=wc:=⟨_,rfl⟩;subst UH;have eY:=ah hb;have eT:=ah gL;have mI:Hid (BN b=(decide (dw b.free)&&(decide (iU b.bound)&&Ik (rowsOf b) b.bound))):=ah (by rw[IC.out,Vj.out,Vk.out,gY];simp);have mG:w.heap.size<W4.heap.size:=(bq gL).1;obtain⟨d0,d1,d2,d3,jJ⟩:=ay gL;have HMW:=ah (HM.out.keep hb (aC _));clear gY hb gL jJ;generalize vW:decide (dw b.free)=q2 at*;generalize CQ:decide (iU b.bound)=q3 at*;have eF:=ah vW;have vJ:=ah CQ;clear vW CQ;go_wp2_with fail
 refine(Ml _ b.free _ HMW.out.f).mono ?_;rw[eF.out];rintro e V1 ⟨rfl,bB⟩;obtain⟨d0,d1,d2,d3,_⟩:=ay (aj eT.out bB mG)
 cases q2 with
 | false=>
  go_wp2;go_ret;exact⟨aH (by rw[mI.out];rfl),eY.out.trans (bB.mono eY.out.size)⟩
 | true=>
 go_wp2_with fail
 refine(Bp _ b.bound _ (jv.keep HMW.out.b bB (aC _))).mono ?_;rw[vJ.out];rintro e V2 ⟨rfl,bO⟩;have bT:=bB.trans (bO.mono bB.size);obtain⟨d0,d1,d2,d3,_⟩:=ay (aj eT.out bT mG);clear bB bO
 cases q3 with
 | false=>
  go_wp2;go_ret;exact⟨aH (by rw[mI.out];rfl),eY.out.trans (bT.mono eY.out.size)⟩
 | true=>
 go_wp2_with fail
 refine(Kq ⟨⟨ca,b.cs.length,cc⟩,⟨fa,b.free.length,fc⟩,⟨la,xs.length,lc⟩,⟨ba,b.bound.length,bc⟩⟩ b _ (HMW.out.keep bT (aC _)) MQ.out.nl).mono ?_;rintro e V3 ⟨rfl,bR⟩;have gD:=bT.trans (bR.mono bT.size);clear bT bR;go_wp2;go_ret;exact⟨aH (by rw[mI.out];rfl),eY.out.trans (gD.mono eY.out.size)⟩
end
end Go.Proofs.YtlfopoimbbpfdaaGreat
