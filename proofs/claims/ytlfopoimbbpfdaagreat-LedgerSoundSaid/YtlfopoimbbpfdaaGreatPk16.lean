/- What the law asks, in parts: ZD. -/
import Derived.Test.YtlfopoimbbpfdaaGreatPk7
import Derived.Test.YtlfopoimbbpfdaaGreatPk15
set_option linter.all false
set_option maxRecDepth 100000
set_option maxHeartbeats 16000000
namespace Go.Proofs.YtlfopoimbbpfdaaGreat
open Go.RowKit
def nC (b:Bk) (l:Ls):Bk×Int:=if 0≤lg b.ls l.dev∧(b.ls.getD (lg b.ls l.dev).toNat oD).epoch=l.epoch then(⟨b.cs,b.free,b.ls.set (lg b.ls l.dev).toNat l,b.bound⟩,0)else(b,2)
theorem jF.up {W W':World} {B g:Nat} {y:cB} {l:Ls} (h:jF W B y l) (aK:∀c,c≠g→W'.heap[c]? =W.heap[c]?) (hg:g<B):jF W' B y l:=h.ne aK hg
theorem Qf (x:dN) (b:Bk) (z:cB) (l:Ls) (w:World) (h:iA w x b) (hl:Dl b) (hz:nV w z l) (Ip:Ap l):
  Calls Tryz.prog 35 #[iJ x,o9 z] w (nK w (nC b l)):=by
 obtain⟨⟨ca,cn,cc⟩,⟨fa,bD,fc⟩,⟨la,ln,lc⟩,⟨ba,bE,bc⟩⟩:=x;obtain⟨z1,z2,z3,z4,⟨z5,z6,z7⟩,⟨z8,z9,dK⟩,⟨dU,eZ,dQ⟩⟩:=z;have KY:z1=l.dev:=hz.dev;have hd2:z2=l.epoch:=hz.epoch;subst KY hd2;have qo:=h.l;obtain⟨xs,hx,nR⟩:=qo;simp only[Sv.v]at hx;obtain⟨q3,g3,g4⟩:=Sl.lens (s:=⟨la,ln,lc⟩) hx;simp only at q3 g3 g4;subst q3;obtain⟨w3,hw3,k0,k1,k2,bB,dX⟩:∃W,(((w.alloc (.cells #[.slice ca cn cc,.slice fa bD fc,.slice la xs.length lc,.slice ba bE bc] 30)).alloc (.cells #[.int .i64 l.dev,.int .i64 l.epoch,.int .i64 z3,.int .i64 z4,.slice z5 z6 z7,.slice z8 z9 dK,.slice dU eZ dQ] 48)).alloc (.cells #[.slice none 0 0,.slice none 0 0,.slice none 0 0,.slice none 0 0] 30))=W∧W.heap[w.heap.size]? =some (.cells #[.slice ca cn cc,.slice fa bD fc,.slice la xs.length lc,.slice ba bE bc] 30 (0,0))∧W.heap[w.heap.size+1]? =some (.cells #[.int .i64 l.dev,.int .i64 l.epoch,.int .i64 z3,.int .i64 z4,.slice z5 z6 z7,.slice z8 z9 dK,.slice dU eZ dQ] 48 (0,0))∧W.heap[w.heap.size+2]? =some (.cells #[.slice none 0 0,.slice none 0 0,.slice none 0 0,.slice none 0 0] 30 (0,0))∧Below w.heap.size w W∧W.heap.size=w.heap.size+3:=yA w _ _ _;have wE:=ah nR;have HX:=ah hx;have HM:=ah h;have HZ:=ah hz;have HB:=ah hl;have uj:=ah Ip;have HW3:=ah hw3;have uK:=ah k0;have fJ:=ah k1;have eT:=ah k2;have eY:=ah bB;have FE:=ah dX;have iL:=ah nR.len;clear nR hx h hz hl Ip hw3 k0 k1 k2 bB dX;obtain⟨c0,c1,c2,c3,_⟩:=ay uK.out;obtain⟨n0,n1,n2,n3,n4,n5,n6,_⟩:=aB fJ.out;change Calls Tryz.prog _ #[.agg #[.slice ca cn cc,.slice fa bD fc,.slice la xs.length lc,.slice ba bE bc],.agg #[.int .i64 l.dev,.int .i64 l.epoch,.int .i64 z3,.int .i64 z4,.slice z5 z6 z7,.slice z8 z9 dK,.slice dU eZ dQ]] w _
 go_enter Tryz.func35,Tryz.ntmps35
 go_upto_region 1 with fail
 rw[HW3.out];go_wp2_with fail
 refine(zV ⟨⟨ca,cn,cc⟩,⟨fa,bD,fc⟩,⟨la,xs.length,lc⟩,⟨ba,bE,bc⟩⟩ b.ls l.dev _ (Ei.keep ⟨xs,HX.out,wE.out⟩ eY.out (aC _))).mono ?_;rintro e w4 ⟨rfl,bR⟩;have pE:=FE.out;have sw:=ah (aj uK.out bR (by omega));have Gm:=ah (aj fJ.out bR (by omega));have eF:=ah (aj eT.out bR (by omega));have Nj:=ah (eY.out.trans (bR.mono eY.out.size));have mP:w.heap.size+2<w4.heap.size:=by have:=bR.size;omega
 clear bR uK fJ eT eY FE pE c0 c1 c2 c3 n0 n1 n2 n3 n4 n5 n6 HW3;obtain⟨d0,d1,d2,d3,_⟩:=ay sw.out;obtain⟨n0,n1,n2,n3,n4,n5,n6,_⟩:=aB Gm.out;obtain⟨e0,e1,e2,e3,_⟩:=ay eF.out;have f0:=aA eF.out 0;have f1:=aA eF.out 1;have f2:=aA eF.out 2;have f3:=aA eF.out 3;have f02:=aA sw.out 2
 have ZT:Hid (∀V,Below w.heap.size w V→nC b l=(b,2)→nK w (nC b l) (.returned (.tuple #[.agg #[.slice ca cn cc,.slice fa bD fc,.slice la xs.length lc,.slice ba bE bc],.int .i64 2])) ((((V.setCell ⟨w.heap.size+2,0,none⟩ (.slice ca cn cc)).setCell ⟨w.heap.size+2,1,none⟩ (.slice fa bD fc)).setCell ⟨w.heap.size+2,2,none⟩ (.slice la xs.length lc)).setCell ⟨w.heap.size+2,3,none⟩ (.slice ba bE bc))):=ah (fun V hV he=>by
  have hb:=(((hV.setCell (p:=⟨w.heap.size+2,0,none⟩) (by simp) (.slice ca cn cc)).setCell (p:=⟨w.heap.size+2,1,none⟩) (by simp) (.slice fa bD fc)).setCell (p:=⟨w.heap.size+2,2,none⟩) (by simp) (.slice la xs.length lc)).setCell (p:=⟨w.heap.size+2,3,none⟩) (by simp) (.slice ba bE bc);rw[he]
  exact⟨⟨⟨ca,cn,cc⟩,⟨fa,bD,fc⟩,⟨la,xs.length,lc⟩,⟨ba,bE,bc⟩⟩,rfl,HM.out.keep hb (aC _),hb⟩)
 rcases b_ (fun c:Ls=>decide (c.dev=l.dev)) b.ls with⟨hi,_⟩ | ⟨k,hk,hi,_,_⟩
 ·have HF:Hid (nC b l=(b,2)):=by show _=_;unfold nC lg;simp only[hi];rw[if_neg (by omega)]
  rw[show lg b.ls l.dev= -1 from hi];clear hi;go_upto_region 2 with fail
  go_quiet (fail)
  go_wp2;refine bodyPost_ret (v:=.tuple #[.agg #[.slice ca cn cc,.slice fa bD fc,.slice la xs.length lc,.slice ba bE bc],.int .i64 2]) (by simp[results,Tryz.results35,go_sem, *]) rfl (show nK _ _ _ _ from ZT.out _ (below_drewN Nj.out _) HF.out)
 ·rw[show lg b.ls l.dev=k from hi]
  have xL:k<xs.length:=by rw[iL.out];exact hk
  obtain⟨lb,lo,rfl,Ip,h0,h1,h2,h3,h4,h5,h6⟩:=dI.ls HX.out Nj.out (aC _) k xL
  have HF:Hid (nC b l=if b.ls[k].epoch=l.epoch then(⟨b.cs,b.free,b.ls.set k l,b.bound⟩,0)else(b,2)):=by
   show _=_;unfold nC lg;simp only[hi];simp[List.getD,List.getElem?_eq_getElem hk]
  have he:xs[k].epoch=b.ls[k].epoch:=(bN.at wE.out k xL hk).epoch;rw[he]at h1;have jK:(k:Int)<xs.length:=by omega
  have kd:decide ((k:Int)<0)=false:=by simp
  have hnl:=HB.out.nl;have yR:xs.length<1000000:=by have:=iL.out;omega
  by_cases hq:b.ls[k].epoch=l.epoch
  case neg=>
   have sS:Hid (nC b l=(b,2)):=ah (by rw[HF.out,if_neg hq]);have hq1:(b.ls[k].epoch != l.epoch)=true:=by simpa using hq
   have vW:(b.ls[k].epoch==l.epoch)=false:=by simpa using hq
   clear hq hi HF;have HF:=ah sS.out;clear sS;go_upto_region 2 with fail
   go_quiet (fail)
   go_wp2;refine bodyPost_ret (v:=.tuple #[.agg #[.slice ca cn cc,.slice fa bD fc,.slice (some ⟨lb,lo,none⟩) xs.length lc,.slice ba bE bc],.int .i64 2]) (by simp[results,Tryz.results35,go_sem, *]) rfl (show nK _ _ _ _ from ZT.out _ (below_drewN Nj.out _) HF.out)
  case pos=>
   have sS:Hid (nC b l=(⟨b.cs,b.free,b.ls.set k l,b.bound⟩,0)):=ah (by rw[HF.out,if_pos hq]);rw[hq]at h1;clear hi HF hq;have u_:=ah (dI.rd HX.out);go_upto_region 2 with fail
   go_cut[23] (fun v23 wx=>v23= .bool false∧Below w4.heap.size w4 wx)
   case first=>
    go_quiet (fail)
    go_wp2;go_meet;exact⟨rfl,below_drewN (aL _ _) _⟩
   case rest=>
   obtain⟨rfl,gy⟩:=hcut;obtain⟨W5,JG⟩:∃W5,W5=wc:=⟨_,rfl⟩;subst JG;have Pj:=ah (aj sw.out gy (by omega));have ZU:=ah (aj Gm.out gy (by omega));have Gp:=ah (aj eF.out gy (by omega));have yg:=ah (Nj.out.trans (gy.mono Nj.out.size));have Uq:w.heap.size+2<W5.heap.size:=by have:=gy.size;omega
   clear gy sw Gm eF Nj d0 d1 d2 d3 n0 n1 n2 n3 n4 n5 n6 e0 e1 e2 e3 f0 f1 f2 f3 f02 h0 h1 h2 h3 h4 h5 h6;obtain⟨d0,d1,d2,d3,_⟩:=ay Pj.out;go_upto_region 5 with((with_reducible refine aZ 28 ?_);refine kS rfl _ _ rfl W5.heap.size _ 0 [] rfl (dB _ _ _ _ 7 #[] 0 rfl (aC _) (by omega) rfl) (some ⟨lb,lo,none⟩) xs.length lc xs rfl rfl ((u_.out.keep yg.out (aC _)).alloc _) (by omega) (by simp) ?_;intro v5 w6 gP hg5 m_;obtain⟨rP,BU,rfl,_,_⟩:=aO gP;have gD:=gZ hg5;have k5:=aj Pj.out gD (by omega);obtain⟨d0,d1,d2,d3,_⟩:=ay k5;have f02:=aA k5 2)
   rw[Nat.zero_add,List.nil_append]at gP;have hsome:=fT gP (by omega);obtain⟨g,cap,hv⟩:=hsome;injection hv with hv1 hv2 hv3;subst hv1 hv3;have hgt:W5.heap.size≤g:=(gP.lt g rfl).1;have aK:∀c,c≠w.heap.size→(w6.setCell ⟨w.heap.size,2,none⟩ (.slice (some ⟨g,0,none⟩) xs.length BU)).heap[c]? =w6.heap[c]? :=fun c hc=>aX _ _ _ (fun e=>hc e.symm) _
   have HOR:=ah (aF gP aK k5 (by decide));have uK:=ah (oH k5 (.slice (some ⟨g,0,none⟩) xs.length BU));have fJ:=ah ((aK (w.heap.size+1) (by omega)).trans (aj ZU.out gD (by omega)));have eT:=ah ((aK (w.heap.size+2) (by omega)).trans (aj Gp.out gD (by omega)));have DU:=ah ((yg.out.trans (gD.mono yg.out.size)).setCell (p:=⟨w.heap.size,2,none⟩) (aC _) (.slice (some ⟨g,0,none⟩) xs.length BU));clear gP hg5 m_ gD k5 aK d0 d1 d2 d3 f02 Pj ZU Gp yg hv2;generalize w6.setCell ⟨w.heap.size,2,none⟩ (.slice (some ⟨g,0,none⟩) xs.length BU)=W7 at*;have Tj:w.heap.size+2<W7.heap.size:=(bq eT.out).1;have HZ6:=ah (HZ.out.keep DU.out (aC _));have aQ:Below W7.heap.size W7 W7.drew:=(aL _ _).drew;refine aW 6 (fun w'=>Below W7.heap.size W7 w') (by kernel_rfl) ?_;refine aP (i:=0) (v:=.pointer (some ⟨w.heap.size,2,none⟩)) rfl rfl (by kernel_rfl) (fun _ _ _ h=>h) (.inl ⟨rfl,fun w' hw=>?_⟩) aQ ?_
   ·go_simp
   refine aP (i:=1) (v:=.slice (some ⟨g,0,none⟩) xs.length BU) rfl rfl (by kernel_rfl) (fun _ _ _ h=>h) (.inl ⟨rfl,fun w' hw=>?_⟩) aQ ?_
   ·obtain⟨_,_,c2,_,_⟩:=ay (aj uK.out hw (by omega))
    go_simp
   refine aP (i:=2) (v:=.int .i64 k) rfl rfl (by kernel_rfl) (fun _ _ _ h=>h) (.inl ⟨rfl,fun w' hw=>?_⟩) aQ ?_
   ·go_simp
   refine aP (i:=3) (v:=.agg #[.int .i64 l.dev,.int .i64 l.epoch,.int .i64 z3,.int .i64 z4,.slice z5 z6 z7,.slice z8 z9 dK,.slice dU eZ dQ]) rfl rfl (by kernel_rfl) (fun _ _ _ h=>h) (.inl ⟨rfl,fun w' hw=>?_⟩) aQ ?_
   ·obtain⟨c0,c1,c2,c3,c4,c5,c6,_⟩:=aB (aj fJ.out hw (by omega))
    go_simp
   refine aD (i:=4) (by kernel_rfl) rfl rfl ?_;go_simp;refine(qY ⟨l.dev,l.epoch,z3,z4,⟨z5,z6,z7⟩,⟨z8,z9,dK⟩,⟨dU,eZ,dQ⟩⟩ l _ (HZ6.out.keep (aL _ _).drew (aC _)) uj.out).mono ?_;rintro e w8 ⟨⟨y1,y2,y3,y4,⟨y5,y6,y7⟩,⟨y8,y9,dz⟩,⟨dA,dJ,cK⟩⟩,rfl,hy,qP⟩;have oP:Below W7.heap.size W7 w8:=(aL W7.heap.size W7).drew.trans qP;refine⟨oP,?_⟩;have Qg:=aI HOR.out oP (aC _);have iW:=yc Qg k xL ⟨y1,y2,y3,y4,⟨y5,y6,y7⟩,⟨y8,y9,dz⟩,⟨dA,dJ,cK⟩⟩;obtain⟨p1,p2,p3,p4,p5,p6,p7⟩:=bg Qg;have iQ:∀j u,j<7→(j_ xs[k])[j]? =some u→w8.cell? ⟨g,k*7+j,none⟩=some u:=fun j u hj hu=>p7 _ _ (by rw[bV iE _ k xL j hj];exact hu)
   have c0:=iQ 0 _ (by omega) rfl;have c1:=iQ 1 _ (by omega) rfl;have c2:=iQ 2 _ (by omega) rfl;have c3:=iQ 3 _ (by omega) rfl;have c4:=iQ 4 _ (by omega) rfl;have c5:=iQ 5 _ (by omega) rfl;have c6:=iQ 6 _ (by omega) rfl;simp only[Nat.add_zero]at c0;have f0:=p6 (k*7);have f1:=p6 (k*7+1);have f2:=p6 (k*7+2);have f3:=p6 (k*7+3);have f4:=p6 (k*7+4);have f5:=p6 (k*7+5);have f6:=p6 (k*7+6);have hyo:jF w8 W7.heap.size _ l:=hy;have Ph:=DU.out.trans (oP.mono DU.out.size);have Jl:w.heap.size≤g:=by omega
   have VN:Hid (Below w.heap.size w (((((((w8.setCell ⟨g,k*7,none⟩ (.int .i64 y1)).setCell ⟨g,k*7+1,none⟩ (.int .i64 y2)).setCell ⟨g,k*7+2,none⟩ (.int .i64 y3)).setCell ⟨g,k*7+3,none⟩ (.int .i64 y4)).setCell ⟨g,k*7+4,none⟩ (.slice y5 y6 y7)).setCell ⟨g,k*7+5,none⟩ (.slice y8 y9 dz)).setCell ⟨g,k*7+6,none⟩ (.slice dA dJ cK))):=ah (((((((Ph.setCell Jl _).setCell Jl _).setCell Jl _).setCell Jl _).setCell Jl _).setCell Jl _).setCell Jl _);have aK:∀c,c≠g→((((((((w8.setCell ⟨g,k*7,none⟩ (.int .i64 y1)).setCell ⟨g,k*7+1,none⟩ (.int .i64 y2)).setCell ⟨g,k*7+2,none⟩ (.int .i64 y3)).setCell ⟨g,k*7+3,none⟩ (.int .i64 y4)).setCell ⟨g,k*7+4,none⟩ (.slice y5 y6 y7)).setCell ⟨g,k*7+5,none⟩ (.slice y8 y9 dz)).setCell ⟨g,k*7+6,none⟩ (.slice dA dJ cK))).heap[c]? =w8.heap[c]? :=fun c hc=>om w8 g c hc (k*7) _ _ _ _ _ _ _
   have gX:g<W7.heap.size:=(HOR.out.lt g rfl).2;have HYO:=ah (jF.up hyo aK gX);have sw:=ah ((aK w.heap.size (by omega)).trans (aj uK.out oP (by omega)));have eF:=ah ((aK (w.heap.size+2) (by omega)).trans (aj eT.out oP (by omega)));have ZI:=ah iW;have aec:=ah oP;clear hy hyo iW qP oP Ph aK p1 p2 p3 p4 p5 p6 p7 iQ Qg uK fJ eT HOR DU;generalize hxk:xs[k]=t at*;obtain⟨t1,t2,t3,t4,⟨t5,t6,t7⟩,⟨t8,t9,t10⟩,⟨t11,t12,t13⟩⟩:=t;simp only[Sv.v]at c4 c5 c6;refine aD (i:=5) (by kernel_rfl) rfl rfl ?_;go_simp;refine⟨aec.out,?_⟩;refine aD (i:=6) (by kernel_rfl) rfl rfl ?_;go_simp;refine aU (by kernel_rfl) ?_;generalize (((((((w8.setCell ⟨g,k*7,none⟩ (.int .i64 y1)).setCell ⟨g,k*7+1,none⟩ (.int .i64 y2)).setCell ⟨g,k*7+2,none⟩ (.int .i64 y3)).setCell ⟨g,k*7+3,none⟩ (.int .i64 y4)).setCell ⟨g,k*7+4,none⟩ (.slice y5 y6 y7)).setCell ⟨g,k*7+5,none⟩ (.slice y8 y9 dz)).setCell ⟨g,k*7+6,none⟩ (.slice dA dJ cK))=W9 at*;clear c0 c1 c2 c3 c4 c5 c6 f0 f1 f2 f3 f4 f5 f6;obtain⟨d0,d1,d2,d3,_⟩:=ay sw.out;obtain⟨e0,e1,e2,e3,_⟩:=ay eF.out;have f0:=aA eF.out 0;have f1:=aA eF.out 1;have f2:=aA eF.out 2;have f3:=aA eF.out 3;go_wp2;refine bodyPost_ret (v:=.tuple #[.agg #[.slice ca cn cc,.slice fa bD fc,.slice (some ⟨g,0,none⟩) xs.length BU,.slice ba bE bc],.int .i64 0]) (by simp[results,Tryz.results35,go_sem, *]) rfl (show nK _ _ _ _ from ?_);have Ir:w.heap.size+2<W9.heap.size:=(bq eF.out).1;have zi:=(((VN.out.setCell (p:=⟨w.heap.size+2,0,none⟩) (by simp) (.slice ca cn cc)).setCell (p:=⟨w.heap.size+2,1,none⟩) (by simp) (.slice fa bD fc)).setCell (p:=⟨w.heap.size+2,2,none⟩) (by simp) (.slice (some ⟨g,0,none⟩) xs.length BU)).setCell (p:=⟨w.heap.size+2,3,none⟩) (by simp) (.slice ba bE bc);have hm:=HM.out.keep zi (aC _);have hnp:w.heap.size+2<W5.heap.size:=Uq;have aed:W5.heap.size≤W5.heap.size:=aC _;rw[sS.out];refine⟨⟨⟨ca,cn,cc⟩,⟨fa,bD,fc⟩,⟨some ⟨g,0,none⟩,xs.length,BU⟩,⟨ba,bE,bc⟩⟩,rfl,⟨hm.c,hm.f,⟨xs.set k ⟨y1,y2,y3,y4,⟨y5,y6,y7⟩,⟨y8,y9,dz⟩,⟨dA,dJ,cK⟩⟩,?_,(wE.out.imp (fun _ _ r=>r.keep zi (aC _))).set k ?_⟩,hm.b⟩,zi⟩
   ·have h9:=aG (aM (aM (aM (aM (aN ZI.out aed) ⟨w.heap.size+2,0,none⟩ hnp (.slice ca cn cc)) ⟨w.heap.size+2,1,none⟩ hnp (.slice fa bD fc)) ⟨w.heap.size+2,2,none⟩ hnp (.slice (some ⟨g,0,none⟩) xs.length BU)) ⟨w.heap.size+2,3,none⟩ hnp (.slice ba bE bc))
    show Sl _ 7 (Value.slice (some ⟨g,0,none⟩) xs.length BU) (xs.set k _).length _;rw[List.length_set];exact h9
   ·exact((((HYO.out.put ⟨w.heap.size+2,0,none⟩ Tj (.slice ca cn cc)).put ⟨w.heap.size+2,1,none⟩ Tj (.slice fa bD fc)).put ⟨w.heap.size+2,2,none⟩ Tj (.slice (some ⟨g,0,none⟩) xs.length BU)).put ⟨w.heap.size+2,3,none⟩ Tj (.slice ba bE bc)).m
end Go.Proofs.YtlfopoimbbpfdaaGreat
