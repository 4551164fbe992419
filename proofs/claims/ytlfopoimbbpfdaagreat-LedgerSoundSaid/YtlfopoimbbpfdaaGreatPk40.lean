/- What the law asks, in parts: Fe LGe LTo Ea Dc. -/
import Derived.Deep.DrawnRows
import Derived.ChangeKeysEq
import Derived.Test.YtlfopoimbbpfdaaGreatPk21
import Derived.Test.YtlfopoimbbpfdaaGreatPk1
import Derived.Test.YtlfopoimbbpfdaaGreatPk39
import Derived.Test.YtlfopoimbbpfdaaGreatPk8
import Derived.Test.YtlfopoimbbpfdaaGreatPk25
import Derived.Test.YtlfopoimbbpfdaaGreatPk11
import Derived.Test.YtlfopoimbbpfdaaGreatPk6
import Derived.Test.YtlfopoimbbpfdaaGreatPk3
import Derived.Test.YtlfopoimbbpfdaaGreatPk32
set_option linter.all false
set_option maxRecDepth 100000
set_option maxHeartbeats 16000000
namespace Go.Proofs.YtlfopoimbbpfdaaGreat
open Go.RowKit
section
attribute [local go_sem ↓] Go.wp_at_zero Go.wp_at_succ
def Kr (cs:List Ct) (s:Sc):Bool:=decide (0≤bJ cs s.key)&&(decide (0≤s.uu)&&(decide (s.uu≤s.up)&&(decide (0≤s.ud)&&(decide (s.ud≤s.down)&&(decide (s.up≤2199023255552)&&decide (s.down≤2199023255552))))))
def uQ (cs:List Ct) (l:List Sc) (i:Nat) (s:Sc):Bool:=Kr cs s&&!(l.take i).any (fun t=>decide (t.key=s.key))
def Kt (l:Ls):Bool:=decide (0≤l.dev)&&(decide (l.dev<6)&&(decide (dw l.ids)&&decide (iU l.used)))
def zP (cs:List Ct) (l:Ls):Bool:=decide (iT (uQ cs l.sl) l.sl)&&(Kt l&&l.used.all (dM l.ids))
theorem Rp {α:Type} (f:α→Bool) (l:List α) (k:Nat) (hk:k<l.length):(l.take (k+1)).all f=((l.take k).all f&&f l[k]):=by rw[aS l k hk,List.all_append];simp
theorem Oi {α:Type} (f:α→Bool) (l:List α) (k:Nat) (hk:k<l.length):(l.take (k+1)).any f=((l.take k).any f||f l[k]):=by rw[aS l k hk,List.any_append];simp
theorem Ku (x:dN) (cs:List Ct) (z:cB) (l:Ls) (w:World) (h:oN w x.c.v cs) (hz:nV w z l):
  Calls Tryz.prog 51 #[iJ x,o9 z] w fun e w'=>e= .returned (.bool (zP cs l))∧Below w.heap.size w w':=by
 obtain⟨⟨ca,cn,cc⟩,⟨fa,bD,fc⟩,⟨la,ln,lc⟩,⟨ba,bE,bc⟩⟩:=x;obtain⟨z1,z2,z3,z4,⟨z5,z6,z7⟩,⟨z8,z9,dK⟩,⟨dU,eZ,dQ⟩⟩:=z;obtain⟨KY,hd2,hd3,hd4,hs,hi,hu⟩:=hz;simp only at KY hd2 hd3 hd4;subst KY hd2 hd3 hd4;obtain⟨q0,_,_⟩:=Sl.lens (s:=⟨ca,cn,cc⟩) h;obtain⟨q1,g1,g2⟩:=Sl.lens (s:=⟨z5,z6,z7⟩) hs;obtain⟨q2,g3,g4⟩:=Sl.lens (s:=⟨z8,z9,dK⟩) hi;obtain⟨q3,g5,g6⟩:=Sl.lens (s:=⟨dU,eZ,dQ⟩) hu;simp only at q0 q1 q2 q3 g1 g2 g3 g4 g5 g6;subst q0 q1 q2 q3;have k1:=bX w (.cells #[.slice ca cs.length cc,.slice fa bD fc,.slice la ln lc,.slice ba bE bc] 30) (.cells #[.int .i64 l.dev,.int .i64 l.epoch,.int .i64 l.bU,.int .i64 l.last,.slice z5 l.sl.length z7,.slice z8 l.ids.length dK,.slice dU l.used.length dQ] 48);have k2:=bL w (.cells #[.slice ca cs.length cc,.slice fa bD fc,.slice la ln lc,.slice ba bE bc] 30) (.cells #[.int .i64 l.dev,.int .i64 l.epoch,.int .i64 l.bU,.int .i64 l.last,.slice z5 l.sl.length z7,.slice z8 l.ids.length dK,.slice dU l.used.length dQ] 48);have bB:Below w.heap.size w ((w.alloc (.cells #[.slice ca cs.length cc,.slice fa bD fc,.slice la ln lc,.slice ba bE bc] 30)).alloc (.cells #[.int .i64 l.dev,.int .i64 l.epoch,.int .i64 l.bU,.int .i64 l.last,.slice z5 l.sl.length z7,.slice z8 l.ids.length dK,.slice dU l.used.length dQ] 48)):=((aL _ _).alloc (aC _) _).alloc (by simp) _;have fJ:=ah k1;have eT:=ah k2;have uO:=ah bB;have Wi:=ah h;have HSL:=ah hs;have abE:=ah hi;have Ti:=ah hu;obtain⟨res,ny⟩:∃res,zP cs l=res:=⟨_,rfl⟩;have fO:=ah ny;have IC:Hid (zP cs l=(decide (iT (uQ cs l.sl) l.sl)&&(Kt l&&l.used.all (dM l.ids)))):=rfl;clear k1 k2 bB h hs hi hu ny;change Calls Tryz.prog _ #[.agg #[.slice ca cs.length cc,.slice fa bD fc,.slice la ln lc,.slice ba bE bc],.agg #[.int .i64 l.dev,.int .i64 l.epoch,.int .i64 l.bU,.int .i64 l.last,.slice z5 l.sl.length z7,.slice z8 l.ids.length dK,.slice dU l.used.length dQ]] w _
 go_enter Tryz.func51,Tryz.ntmps51
 go_upto_block 0 with fail
 generalize (w.alloc (.cells #[.slice ca cs.length cc,.slice fa bD fc,.slice la ln lc,.slice ba bE bc] 30)).alloc (.cells #[.int .i64 l.dev,.int .i64 l.epoch,.int .i64 l.bU,.int .i64 l.last,.slice z5 l.sl.length z7,.slice z8 l.ids.length dK,.slice dU l.used.length dQ] 48)=W1 at*
 go_cut[] (fun wx=>decide (iT (uQ cs l.sl) l.sl)=true∧Below w.heap.size w wx∧wx.heap[w.heap.size+1]? =some (.cells #[.int .i64 l.dev,.int .i64 l.epoch,.int .i64 l.bU,.int .i64 l.last,.slice z5 l.sl.length z7,.slice z8 l.ids.length dK,.slice dU l.used.length dQ] 48 (0,0)))
 case first=>
  go_wp2
  go_loopw[5] (fun v5 wr=>∃k:Nat,k≤l.sl.length∧v5= .int .i64 k∧fC (uQ cs l.sl) l.sl k∧Below w.heap.size w wr∧wr.heap[w.heap.size]? =some (.cells #[.slice ca cs.length cc,.slice fa bD fc,.slice la ln lc,.slice ba bE bc] 30 (0,0))∧wr.heap[w.heap.size+1]? =some (.cells #[.int .i64 l.dev,.int .i64 l.epoch,.int .i64 l.bU,.int .i64 l.last,.slice z5 l.sl.length z7,.slice z8 l.ids.length dK,.slice dU l.used.length dQ] 48 (0,0))) (fun v5 _=>l.sl.length-(intOf v5).toNat)
  case atStart=>exact⟨0,Nat.zero_le _,rfl,iO _ _,uO.out,fJ.out,eT.out⟩
  case round=>
   clear uO fJ eT;obtain⟨k,hk,rfl,hA,hb,gL,dH⟩:=hrel;have HA:=ah hA;have CO:=ah hb;have fJ:=ah gL;have eT:=ah dH;have mG:w.heap.size+1<wr.heap.size:=(bq dH).1;obtain⟨n0,n1,n2,n3,n4,n5,n6,jJ⟩:=aB dH;clear hA gL dH jJ;rcases Nat.lt_or_ge k l.sl.length with bA | gX
   ·obtain⟨bb,off,rfl,kZ,e0,e1,e2,e3,e4⟩:=dI.sc HSL.out hb (aC _) k bA
    have jK:(k:Int)<l.sl.length:=by omega
    have vg:=ah (lK (f:=uQ cs l.sl) bA);have nU:=ah (fC.step HA.out bA);have lZ:Hid (uQ cs l.sl k l.sl[k]=(Kr cs l.sl[k]&&!(l.sl.take k).any (fun t=>decide (t.key=l.sl[k].key)))):=rfl;have abF:Hid (Kr cs l.sl[k]=(decide (0≤bJ cs l.sl[k].key)&&(decide (0≤l.sl[k].uu)&&(decide (l.sl[k].uu≤l.sl[k].up)&&(decide (0≤l.sl[k].ud)&&(decide (l.sl[k].ud≤l.sl[k].down)&&(decide (l.sl[k].up≤2199023255552)&&decide (l.sl[k].down≤2199023255552)))))))):=rfl
    have Ak:Hid (∀V,Below w.heap.size w V→ ∀j (hj:j<l.sl.length),V.cell? ⟨bb,off+j*5,none⟩=some (.string l.sl[j].key)):=ah (fun V hV j hj=>by
     obtain⟨rb',ro',he,_,hc,_⟩:=dI.sc HSL.out hV (aC _) j hj;injection he with he;injection he with e1 e2 _;subst e1 e2
     exact hc)
    generalize uQ cs l.sl k l.sl[k]=ok at*;generalize Kr cs l.sl[k]=ok1 at*;generalize hsk:l.sl[k]=s at*;clear hsk;obtain⟨s1,s2,s3,s4,s5⟩:=s;simp only at e0 e1 e2 e3 e4 lZ abF;have hA:Below wr.heap.size wr (wr.alloc (.cells #[.string s1,.int .i64 s2,.int .i64 s3,.int .i64 s4,.int .i64 s5] 88)):=(aL _ _).alloc (aC _) _;have ks:=heap_alloc_new wr (.cells #[.string s1,.int .i64 s2,.int .i64 s3,.int .i64 s4,.int .i64 s5] 88);have A1:=ah (aj fJ.out hA (by omega));have A2:=ah (aj eT.out hA mG);have pF:=ah (hb.trans (hA.mono hb.size));go_upto_region 5 with fail
    generalize wr.alloc (.cells #[.string s1,.int .i64 s2,.int .i64 s3,.int .i64 s4,.int .i64 s5] 88)=U0 at*;have hgs:w.heap.size+1<wr.heap.size:=mG;generalize wr.heap.size=gs at*;have KS:=ah ks;obtain⟨m0,m1,m2,m3,m4⟩:=jM ks;obtain⟨d0,d1,d2,d3,jJ⟩:=ay A1.out;have Ay:gs<U0.heap.size:=(bq ks).1;have S_:=ah (dI.keep Wi.out pF.out (aC _));clear e0 e1 e2 e3 e4 hA fJ eT hb ks jJ CO n0 n1 n2 n3 n4 n5 n6;generalize K9:bJ cs s1=ci at*;have vS:=ah K9;clear K9
    go_cut[59] (fun v59 wx=>v59= .bool (!ok1)∧Below U0.heap.size U0 wx)
    case first=>
     go_wp2_with ((go_at_call 50;refine(mD ⟨⟨ca,cs.length,cc⟩,⟨fa,bD,fc⟩,⟨la,ln,lc⟩,⟨ba,bE,bc⟩⟩ cs s1 _ S_.out).mono ?_);rw[vS.out];rintro e w2 ⟨rfl,bO⟩;obtain⟨m0,m1,m2,m3,m4⟩:=jM (aj KS.out bO Ay))
     all_goals go_meet
     all_goals refine⟨?_,bO⟩
     all_goals rw[abF.out]
     all_goals first | (simp;omega) | (simp [*];done) | (simp [*];omega) | (by_cases hd:s3≤2199023255552<;>simp[*]<;>omega)
    case rest=>
    obtain⟨rfl,bO⟩:=hcut;have KS2:=ah (aj KS.out bO Ay);have B1:=ah (aj A1.out bO (by omega));have B2:=ah (aj A2.out bO (by omega));have Eu:=ah (pF.out.trans (bO.mono pF.out.size));clear bO KS A1 A2 pF m0 m1 m2 m3 m4 d0 d1 d2 d3 S_ vS
    cases ok1 with
    | false=>
     have qQ:ok=false:=by rw[lZ.out];rfl
     have mo:=ah (vg.out qQ);clear qQ;go_wp2;go_ret;exact⟨aH (by rw[IC.out,mo.out];rfl),Eu.out⟩
    | true=>
    go_wp2
    go_loopw[7] (fun v7 wq=>∃j:Nat,j≤k∧v7= .int .i64 j∧(l.sl.take j).any (fun t=>decide (t.key=s1))=false∧Below w.heap.size w wq∧wq.heap[w.heap.size]? =some (.cells #[.slice ca cs.length cc,.slice fa bD fc,.slice la ln lc,.slice ba bE bc] 30 (0,0))∧wq.heap[w.heap.size+1]? =some (.cells #[.int .i64 l.dev,.int .i64 l.epoch,.int .i64 l.bU,.int .i64 l.last,.slice (some ⟨bb,off,none⟩) l.sl.length z7,.slice z8 l.ids.length dK,.slice dU l.used.length dQ] 48 (0,0))∧wq.heap[gs]? =some (.cells #[.string s1,.int .i64 s2,.int .i64 s3,.int .i64 s4,.int .i64 s5] 88 (0,0))) (fun v7 _=>k-(intOf v7).toNat)
    case atStart=>exact⟨0,Nat.zero_le _,rfl,rfl,Eu.out,B1.out,B2.out,KS2.out⟩
    case round=>
     clear Eu B1 B2 KS2;obtain⟨j,hj,rfl,hm,gy,gL,dH,hks⟩:=hrel;have HM:=ah hm;have Im:=ah gy;have fJ:=ah gL;have eT:=ah dH;have HKS:=ah hks;obtain⟨m0,m1,m2,m3,m4⟩:=jM hks;obtain⟨n0,n1,n2,n3,n4,n5,n6,jJ⟩:=aB dH;clear hm gL dH hks jJ m1 m2 m3 m4 n0 n1 n2 n3 n5 n6;rcases Nat.lt_or_ge j k with hji | YF
     ·have t_:(j:Int)<k:=by omega
      have hjs:j<l.sl.length:=by omega
      have afT:(j:Int)<l.sl.length:=by omega
      have c0:=Ak.out wr gy j hjs;have X0:Hid ((l.sl.take (j+1)).any (fun t=>decide (t.key=s1))=((l.sl.take j).any (fun t=>decide (t.key=s1))||decide (l.sl[j].key=s1))):=ah (Oi _ _ j hjs)
      have X6:Hid (decide (l.sl[j].key=s1)=true→(l.sl.take k).any (fun t=>decide (t.key=s1))=true):=ah (fun hh=>by
       rw[List.any_eq_true]
       exact⟨l.sl[j],List.mem_take_iff_getElem.2 ⟨j,by omega,rfl⟩,hh⟩)
      have Uz:=ah (key_eq l.sl[j].key s1);generalize l.sl[j].key=kj at*;clear gy;by_cases he:kj=s1
      ·have de:(kj.toList==s1.toList)=true:=by rw[Uz.out];simpa using he
       have qQ:ok=false:=by rw[lZ.out,X6.out (by simpa using he)];rfl
       have mo:=ah (vg.out qQ);clear qQ he;go_wp2_with fail
       go_quiet (fail)
       go_wp2;go_ret;exact⟨aH (by rw[IC.out,mo.out];rfl),below_drewN Im.out _⟩
      ·have de:(kj.toList==s1.toList)=false:=by rw[Uz.out];simpa using he
       have HD:Hid (decide (kj=s1)=false):=ah (by simpa using he);clear he;go_wp2_with fail
       go_quiet (fail)
       go_wp2;go_roundw
       case rel=>exact⟨j+1,by omega,by go_num,by rw[X0.out,HM.out,HD.out];rfl,below_drewN Im.out _,fJ.out,eT.out,HKS.out⟩
       case measure=>simp[intOf];omega
     ·have t_:¬ (j:Int)<k:=by omega
      have Te:j=k:=by omega
      subst Te;have qQ:ok=true:=by rw[lZ.out,HM.out];rfl
      have HY:=ah (nU.out qQ);clear qQ;go_wp2;go_roundw
      case rel=>exact⟨j+1,by omega,by go_num,HY.out,Im.out,fJ.out,eT.out⟩
      case measure=>simp[intOf];omega
   ·have jK:¬ (k:Int)<l.sl.length:=by omega
    go_wp2;go_meet;exact⟨fC.all HA.out gX,hb,eT.out⟩
 case rest=>
 clear uO fJ eT;obtain⟨gY,hb,dH⟩:=hcut;obtain⟨W,hW⟩:∃W,W=wc:=⟨_,rfl⟩;subst hW;have EW:=ah gY;have eY:=ah hb;have eT:=ah dH;have OG:w.heap.size+1<W.heap.size:=(bq dH).1;obtain⟨n0,n1,n2,n3,n4,n5,n6,jJ⟩:=aB dH;clear gY hb dH jJ;have xP:Hid (Kt l=(decide (0≤l.dev)&&(decide (l.dev<6)&&(decide (dw l.ids)&&decide (iU l.used))))):=rfl;have HIW:=ah (fD.keep abE.out eY.out (aC _));have HUW:=ah (jv.keep Ti.out eY.out (aC _));generalize uH:Kt l=r2 at*;have akw:=ah uH;generalize vW:decide (dw l.ids)=qr at*;generalize CQ:decide (iU l.used)=qu at*;have eF:=ah vW;have vJ:=ah CQ;clear uH vW CQ;generalize l.dev=dev at*;go_upto_region 12 with fail
 go_cut[93] (fun v93 wx=>v93= .bool (!r2)∧Below W.heap.size W wx)
 case first=>
  have jW:Below W.heap.size W W:=aL _ _
  go_wp2_with (first
   | ((go_at_call 52;refine(Ml _ l.ids _ HIW.out).mono ?_);rw[eF.out];rintro e w2 ⟨rfl,bO⟩;obtain⟨n0,n1,n2,n3,n4,n5,n6,_⟩:=aB (aj eT.out bO OG);have jW:=bO)
   | ((go_at_call 53;refine(Bp _ l.used _ (jv.keep HUW.out bO (aC _))).mono ?_);rw[vJ.out];rintro e w3 ⟨rfl,bT⟩;have jW:=bO.trans (bT.mono bO.size)))
  all_goals go_meet
  all_goals refine⟨?_,jW⟩
  all_goals rw[xP.out]
  all_goals first | (simp;omega) | (simp [*];done) | (simp [*];omega) | (cases qu<;>first | (simp;done) | (simp [*];done))
 case rest=>
 obtain⟨rfl,bO⟩:=hcut;have K2:=ah (aj eT.out bO OG);have HBV:=ah (eY.out.trans (bO.mono eY.out.size));clear bO n0 n1 n2 n3 n4 n5 n6 HIW HUW eT OG
 cases r2 with
 | false=>
  go_wp2;go_ret;exact⟨aH (by rw[IC.out];simp),HBV.out⟩
 | true=>
 have mI:Hid (zP cs l=l.used.all (dM l.ids)):=ah (by rw[IC.out,EW.out];simp);obtain⟨W2,hW2⟩:∃W2,W2=wc:=⟨_,rfl⟩;subst hW2;have OG:w.heap.size+1<W2.heap.size:=(bq K2.out).1;go_wp2
 go_loopw[8] (fun v8 wq=>∃j:Nat,j≤l.used.length∧v8= .int .i64 j∧(l.used.take j).all (dM l.ids)=true∧Below w.heap.size w wq∧wq.heap[w.heap.size+1]? =some (.cells #[.int .i64 dev,.int .i64 l.epoch,.int .i64 l.bU,.int .i64 l.last,.slice z5 l.sl.length z7,.slice z8 l.ids.length dK,.slice dU l.used.length dQ] 48 (0,0))) (fun v8 _=>l.used.length-(intOf v8).toNat)
 case atStart=>exact⟨0,Nat.zero_le _,rfl,rfl,HBV.out,K2.out⟩
 case round=>
  clear K2 HBV OG;obtain⟨j,hj,rfl,hm,gy,dH⟩:=hrel;have HM:=ah hm;have Im:=ah gy;have eT:=ah dH;obtain⟨n0,n1,n2,n3,n4,n5,n6,jJ⟩:=aB dH;have OG:w.heap.size+1<wr.heap.size:=(bq dH).1;clear hm dH jJ n0 n1 n2 n3 n4 n5;rcases Nat.lt_or_ge j l.used.length with hji | YF
  ·obtain⟨nb,no,rfl,hnb,_⟩:=jv.cell Ti.out gy (aC _) j hji
   have t_:(j:Int)<l.used.length:=by omega
   have X0:Hid ((l.used.take (j+1)).all (dM l.ids)=((l.used.take j).all (dM l.ids)&&dM l.ids l.used[j])):=ah (Rp _ _ j hji)
   have X6:Hid (dM l.ids l.used[j]=false→l.used.all (dM l.ids)=false):=ah (fun hh=>by
    rw[List.all_eq_false]
    exact⟨l.used[j],List.getElem_mem hji,by rw[hh];simp⟩)
   obtain⟨U,hU⟩:∃U,U=wr:=⟨_,rfl⟩;subst hU;have YZ:Hid (∀V,Below U.heap.size U V→V.cell? ⟨w.heap.size+1,5,none⟩=some (.slice z8 l.ids.length dK)):=ah (fun V hV=>(aB (aj eT.out hV OG)).2.2.2.2.2.1);have V_:Hid (∀V,Below U.heap.size U V→V.cell? ⟨w.heap.size+1,6,none⟩=some (.slice (some ⟨nb,no,none⟩) l.used.length dQ)):=ah (fun V hV=>(aB (aj eT.out hV OG)).2.2.2.2.2.2.1)
   have HCN:Hid (∀V,Below U.heap.size U V→V.cell? ⟨nb,no+j,none⟩=some (.int .i64 l.used[j])):=ah (fun V hV=>by
    obtain⟨nb',no',he,_,hc⟩:=jv.cell Ti.out (gy.trans (hV.mono gy.size)) (aC _) j hji;injection he with he;injection he with e1 e2 _;subst e1 e2
    exact hc)
   clear gy;generalize l.used[j]=n at*;obtain⟨qm,hqm⟩:∃qm,dM l.ids n=qm:=⟨_,rfl⟩;have Ro:=ah hqm;clear hqm;go_upto_region 17 with fail
   clear n6
   go_cut[109] (fun v109 wx=>v109= .bool (!qm)∧Below U.heap.size U wx)
   case first=>
    refine aW 7 (fun w'=>Below U.heap.size U w') (by kernel_rfl) ?_;have aQ:Below U.heap.size U U.drew:=(aL _ _).drew;have e5:=YZ.out U.drew aQ;have e6:=V_.out U.drew aQ;have e7:=HCN.out U.drew aQ;refine aV (i:=0) (v:=.pointer (some ⟨w.heap.size+1,5,none⟩)) rfl (by kernel_rfl) (fun _ _ _ h=>h) (.inl ⟨rfl,fun w' _=>?_⟩) aQ ?_
    ·go_simp
    refine aP (i:=1) (v:=.slice z8 l.ids.length dK) rfl rfl (by kernel_rfl) (fun _ _ _ h=>h) (.inl ⟨rfl,fun w' hw=>?_⟩) aQ ?_
    ·have e1:=YZ.out w' hw
     go_simp
    refine aV (i:=2) (v:=.pointer (some ⟨w.heap.size+1,6,none⟩)) rfl (by kernel_rfl) (fun _ _ _ h=>h) (.inl ⟨rfl,fun w' _=>?_⟩) aQ ?_
    ·go_simp
    refine aV (i:=4) (v:=.int .i64 j) rfl (by kernel_rfl) (fun _ _ _ h=>h) (.inl ⟨rfl,fun w' _=>?_⟩) aQ ?_
    ·go_simp
    refine aD (i:=3) (by kernel_rfl) rfl rfl ?_;go_simp;refine aD (i:=5) (by kernel_rfl) rfl rfl ?_;go_simp;refine aD (i:=6) (by kernel_rfl) rfl rfl ?_;go_simp;refine aD (i:=7) (by kernel_rfl) rfl rfl ?_;go_simp;refine(sP _ l.ids n _ (fD.keep abE.out ((Im.out.trans (aQ.mono Im.out.size))) (aC _))).mono ?_;rw[Ro.out];rintro e V ⟨rfl,rfl⟩;refine aD (i:=8) (by kernel_rfl) rfl rfl ?_;go_simp;refine aU (by kernel_rfl) ?_;go_wp2;go_meet;exact⟨rfl,aQ⟩
   case rest=>
   obtain⟨rfl,jW⟩:=hcut;have I8:=ah (Im.out.trans (jW.mono Im.out.size));have UD:=ah (aj eT.out jW OG);clear jW
   cases qm with
   | false=>
    have mo:=ah (X6.out Ro.out);go_wp2;go_ret;exact⟨aH (by rw[mI.out];exact mo.out.symm),I8.out⟩
   | true=>
    go_wp2;go_roundw
    case rel=>exact⟨j+1,by omega,by go_num,by rw[X0.out,HM.out,Ro.out];rfl,I8.out,UD.out⟩
    case measure=>simp[intOf];omega
  ·have t_:¬ (j:Int)<l.used.length:=by omega
   have HE:Hid (l.used.all (dM l.ids)=true):=ah (by have h1:=HM.out;rw[List.take_of_length_le (by omega)]at h1;exact h1);go_wp2;go_ret;exact⟨aH (by rw[mI.out];exact HE.out.symm),gy⟩
end
structure abG (b:Bk) (key:ByteArray):Prop where
 ls:∀x∈b.ls,Lf x.sl
 su:bG key b.ls≤4611686018427387903
 sd:bH key b.ls≤4611686018427387903
 ct:∀c∈b.cs,(-2199023255552≤c.lo∧c.lo≤2199023255552)∧(-2199023255552≤c.hi∧c.hi≤2199023255552)∧(-2199023255552≤c.start∧c.start≤2199023255552)∧(-2199023255552≤c.up∧c.up≤2199023255552)∧ -2199023255552≤c.down∧c.down≤2199023255552
def Kv (w:World) (l:List Int) (e:Ending) (w':World):Prop:=e= .returned (.agg (l.map (Value.int .i64)).toArray)∧Below w.heap.size w w'
theorem qL {w:World} {b:Nat} {a0 a1 a2 a3 a4 a5:Value} {t:TypeId} (h:w.heap[b]? =some (.cells #[a0,a1,a2,a3,a4,a5] t (0,0))):
  (w.cell? ⟨b,0,none⟩=some a0∧w.cell? ⟨b,1,none⟩=some a1∧w.cell? ⟨b,2,none⟩=some a2∧w.cell? ⟨b,3,none⟩=some a3∧w.cell? ⟨b,4,none⟩=some a4∧w.cell? ⟨b,5,none⟩=some a5)∧ ∀o,w.frozen? ⟨b,o,none⟩=false:=by
 refine⟨⟨?_,?_,?_,?_,?_,?_⟩,fun o=>?_⟩<;>simp[World.cell?,World.frozen?,h]
theorem zq (x:dN) (b:Bk) (key:ByteArray) (w:World) (h:iA w x b) (hB:abG b key) (hU:∀l∈b.ls,∀s∈l.sl,s.up≤2199023255552∧s.down≤2199023255552):
  Calls Tryz.prog 19 #[iJ x,.string key] w (Kv w (zK b key)):=by
 obtain⟨⟨ca,cn,cc⟩,⟨fa,bD,fc⟩,⟨la,ln,lc⟩,⟨ba,bE,bc⟩⟩:=x;obtain⟨xs,hx,xW⟩:=h.l;have iL:=ah xW.len;obtain⟨uw,hcap2,hm2⟩:=Sl.lens hx;simp only at uw hcap2 hm2 hx;subst uw;have K8:=ah xW;have HX:=ah hx;have HC:=ah h.c;obtain⟨Gh,hcap1,hm1⟩:=Sl.lens h.c;simp only at Gh hcap1 hm1;subst Gh;have HB:=ah hB;have HU:=ah hU;have bB:Below w.heap.size w ((w.alloc (.cells #[.slice ca b.cs.length cc,.slice fa bD fc,.slice la xs.length lc,.slice ba bE bc] 30)).alloc (.cells #[.int .i64 0,.int .i64 0,.int .i64 0,.int .i64 0,.int .i64 0,.int .i64 0] 42)):=((aL _ _).alloc (aC _) _).alloc (by simp) _;have k2:=bX w (.cells #[.slice ca b.cs.length cc,.slice fa bD fc,.slice la xs.length lc,.slice ba bE bc] 30) (.cells #[.int .i64 0,.int .i64 0,.int .i64 0,.int .i64 0,.int .i64 0,.int .i64 0] 42);have k4:=bL w (.cells #[.slice ca b.cs.length cc,.slice fa bD fc,.slice la xs.length lc,.slice ba bE bc] 30) (.cells #[.int .i64 0,.int .i64 0,.int .i64 0,.int .i64 0,.int .i64 0,.int .i64 0] 42);have HM:=ah (h.c.keep bB (aC _));clear h hx xW hB hU;change Calls Tryz.prog _ #[.agg #[.slice ca b.cs.length cc,.slice fa bD fc,.slice la xs.length lc,.slice ba bE bc],.string key] w _
 go_enter Tryz.func19,Tryz.ntmps19
 go_upto_region 1 with fail
 generalize (w.alloc (.cells #[.slice ca b.cs.length cc,.slice fa bD fc,.slice la xs.length lc,.slice ba bE bc] 30)).alloc (.cells #[.int .i64 0,.int .i64 0,.int .i64 0,.int .i64 0,.int .i64 0,.int .i64 0] 42)=W1 at*;obtain⟨d0,d1,d2,d3,jJ⟩:=ay k2;clear jJ;go_wp2_with fail
 refine(mD ⟨⟨ca,b.cs.length,cc⟩,⟨fa,bD,fc⟩,⟨la,xs.length,lc⟩,⟨ba,bE,bc⟩⟩ b.cs key _ HM.out).mono ?_;rintro e W2 ⟨rfl,bO⟩;have dX:w.heap.size+1<W1.heap.size:=(bq k4).1;have K2:=ah (aj k2 bO (by omega));have K4:=ah (aj k4 bO dX);have eY:=ah (bB.trans (bO.mono bB.size));clear d0 d1 d2 d3 k2 k4 bB bO HM dX;obtain⟨d0,d1,d2,d3,f_⟩:=ay K2.out;obtain⟨⟨r0,r1,r2,r3,r4,r5⟩,rf⟩:=qL K4.out;have f0:=rf 0;have f1:=rf 1;have f2:=rf 2;have f3:=rf 3;have f4:=rf 4;have f5:=rf 5;have mP:w.heap.size+1<W2.heap.size:=(bq K4.out).1;clear rf;rcases b_ (fun c:Ct=>decide (c.key=key)) b.cs with⟨hi,_⟩ | ⟨k,hk,hi,_,_⟩
 ·have HF:Hid (zK b key= [0,0,0,0,0,0]):=by show _=_;unfold zK;rw[show bJ b.cs key= -1 from hi];rfl
  rw[show bJ b.cs key= -1 from hi];clear hi;go_wp2;refine bodyPost_ret (v:=.agg #[.int .i64 0,.int .i64 0,.int .i64 0,.int .i64 0,.int .i64 0,.int .i64 0]) (by simp[results,Tryz.results19,go_sem, *]) rfl (show Kv _ _ _ _ from ?_);rw[HF.out];exact⟨rfl,(((((eY.out.setCell (by simp) _).setCell (by simp) _).setCell (by simp) _).setCell (by simp) _).setCell (by simp) _).setCell (by simp) _⟩
 ·rw[show bJ b.cs key=k from hi]
  have HF:Hid (zK b key= [b.cs[k].up,bG key b.ls,b.cs[k].hi-b.cs[k].start-b.cs[k].up-bG key b.ls,b.cs[k].down,bH key b.ls,b.cs[k].start-b.cs[k].lo-b.cs[k].down-bH key b.ls]):=by
   show _=_;unfold zK;rw[show bJ b.cs key=k from hi,if_neg (by omega)];simp[List.getD,List.getElem?_eq_getElem hk]
  obtain⟨cb,co,rfl,hcb,c0,c1,c2,c3,c4,c5,c6⟩:=dI.ct HC.out eY.out (aC _) k hk;have afX:=HB.out.ct b.cs[k] (List.getElem_mem hk);obtain⟨⟨t1,t2⟩,⟨t3,t4⟩,⟨t5,t6⟩,⟨t7,t8⟩,t9,t10⟩:=afX;have jK:(k:Int)<b.cs.length:=by omega
  clear hi;generalize ZJ:bG key b.ls=LU at*;generalize hld:bH key b.ls=LD at*;have HLU:=ah ZJ;have HLD:=ah hld;have wS:=HB.out.su;have hsd:=HB.out.sd;rw[ZJ]at wS;rw[hld]at hsd;have hnn:=nZ key b.ls HB.out.ls;rw[ZJ,hld]at hnn;obtain⟨Gh,uw⟩:=hnn;clear ZJ hld;generalize b.cs[k]=c at*;obtain⟨q1,q2,q3,q4,q5,q6,q7⟩:=c;simp only at c0 c1 c2 c3 c4 c5 c6 t1 t2 t3 t4 t5 t6 t7 t8 t9 t10 HF;have bT:Below W2.heap.size W2 (W2.alloc (.cells #[.string q1,.int .i64 q2,.int .i64 q3,.int .i64 q4,.int .i64 q5,.int .i64 q6,.int .i64 q7] 54)):=(aL _ _).alloc (aC _) _;have K6:=ah (heap_alloc_new W2 (.cells #[.string q1,.int .i64 q2,.int .i64 q3,.int .i64 q4,.int .i64 q5,.int .i64 q6,.int .i64 q7] 54));have K2':=ah (aj K2.out bT (by omega));have K4':=ah (aj K4.out bT mP);have lI:=ah (eY.out.trans (bT.mono eY.out.size));have akx:cb<W2.heap.size:=by omega
  clear bT K2 K4 eY f0 f1 f2 f3 f4 f5 r0 r1 r2 r3 r4 r5;go_upto_region 5 with fail
  generalize hG:W2.heap.size=G at*;have HG:=ah hG;generalize W2.alloc (.cells #[.string q1,.int .i64 q2,.int .i64 q3,.int .i64 q4,.int .i64 q5,.int .i64 q6,.int .i64 q7] 54)=W3 at*;clear hG c0 c1 c2 c3 c4 c5 c6 d0 d1 d2 d3 f_;have PE:=ah (yV key b.ls HB.out.ls);have Vg:Hid (bG key (b.ls.take xs.length)=LU∧bH key (b.ls.take xs.length)=LD):=ah (by rw[iL.out,List.take_length];exact⟨HLU.out,HLD.out⟩);go_upto_block 0 with fail
  go_cut[7,8] (fun v7 v8 wx=>v7= .int .i64 LU∧v8= .int .i64 LD∧Below w.heap.size w wx∧wx.heap[w.heap.size+1]? =some (.cells #[.int .i64 0,.int .i64 0,.int .i64 0,.int .i64 0,.int .i64 0,.int .i64 0] 42 (0,0))∧wx.heap[G]? =some (.cells #[.string q1,.int .i64 q2,.int .i64 q3,.int .i64 q4,.int .i64 q5,.int .i64 q6,.int .i64 q7] 54 (0,0)))
  case first=>
   go_wp2
   go_loopw[7,8,9] (fun v7 v8 v9 wr=>∃ (i:Nat) (PU PD:Int),i≤xs.length∧v7= .int .i64 PU∧v8= .int .i64 PD∧v9= .int .i64 i∧PU=bG key (b.ls.take i)∧PD=bH key (b.ls.take i)∧Below w.heap.size w wr∧wr.heap[w.heap.size]? =some (.cells #[.slice (some ⟨cb,co,none⟩) b.cs.length cc,.slice fa bD fc,.slice la xs.length lc,.slice ba bE bc] 30 (0,0))∧wr.heap[w.heap.size+1]? =some (.cells #[.int .i64 0,.int .i64 0,.int .i64 0,.int .i64 0,.int .i64 0,.int .i64 0] 42 (0,0))∧
    wr.heap[G]? =some (.cells #[.string q1,.int .i64 q2,.int .i64 q3,.int .i64 q4,.int .i64 q5,.int .i64 q6,.int .i64 q7] 54 (0,0))) (fun _ _ v9 _=>xs.length-(intOf v9).toNat)
   case atStart=>exact⟨0,0,0,Nat.zero_le _,rfl,rfl,rfl,by simp[bG],by simp[bH],lI.out,K2'.out,K4'.out,K6.out⟩
   case round=>
    obtain⟨i,PU,PD,aky,rfl,rfl,rfl,hPU,hPD,hb,dH,eG,Aa⟩:=hrel;have HPU:=ah hPU;have WQ:=ah hPD;have R2:=ah dH;have R4:=ah eG;have R6:=ah Aa;have mG:G<wr.heap.size:=(bq Aa).1;have hzq:w.heap.size+1<wr.heap.size:=(bq eG).1;obtain⟨d0,d1,d2,d3,jJ⟩:=ay dH;clear hPU hPD dH eG Aa K2' K4' K6 lI jJ;rcases Nat.lt_or_ge i xs.length with nJ | hig
    ·have GJ:i<b.ls.length:=by rw[←iL.out];exact nJ
     have EF:=ah (fun V (hV:Below w.heap.size w V)=>dI.ls HX.out hV (aC _) i nJ);obtain⟨lb,lo,rfl,Ip,e0,e1,e2,e3,e4,e5,e6⟩:=dI.ls HX.out hb (aC _) i nJ;have Lg:(i:Int)<xs.length:=by omega
     have hM:=(bN.at K8.out i nJ GJ).s;have YE:=HB.out.ls b.ls[i] (List.getElem_mem GJ);have uG:=ah (yX key b.ls i GJ);have HPT:=ah (PE.out (i+1));have HPP:=ah (DJ key b.ls[i].sl YE);have M5:=ah YE;have HUI:=ah (HU.out b.ls[i] (List.getElem_mem GJ));have HPN:=ah (nZ key (b.ls.take i) (fun x hx=>HB.out.ls x (List.mem_of_mem_take hx)));generalize b.ls[i].sl=sl at*;generalize xs[i]=z at*;obtain⟨z1,z2,z3,z4,⟨z5,z6,z7⟩,⟨z8,z9,dK⟩,⟨dU,eZ,dQ⟩⟩:=z;simp only[Sv.v]at e0 e1 e2 e3 e4 e5 e6 hM EF;obtain⟨hzn,PG,PI⟩:=Sl.lens (s:=⟨z5,z6,z7⟩) hM;simp only at hzn PG PI;subst hzn
     have Ow:Hid (∀V,Below w.heap.size w V→V.cell? ⟨lb,lo+i*7+4,none⟩=some (.slice z5 sl.length z7)):=ah (fun V hV=>by
      obtain⟨lb',lo',he,_,_,_,_,_,h4,_⟩:=EF.out V hV;injection he with he;injection he with e1 e2 _;subst e1 e2
      exact h4)
     have pF:=ah hb;clear e0 e1 e2 e3 e4 e5 e6 hb YE EF;go_wp2
     go_loopw[7,8,10] (fun v7 v8 xO wq=>∃ (j:Nat) (X Y:Int),j≤sl.length∧v7= .int .i64 X∧v8= .int .i64 Y∧xO= .int .i64 j∧X=PU+dh key (sl.take j)∧Y=PD+leftD key (sl.take j)∧Below w.heap.size w wq∧wq.heap[w.heap.size]? =some (.cells #[.slice (some ⟨cb,co,none⟩) b.cs.length cc,.slice fa bD fc,.slice (some ⟨lb,lo,none⟩) xs.length lc,.slice ba bE bc] 30 (0,0))∧wq.heap[w.heap.size+1]? =some (.cells #[.int .i64 0,.int .i64 0,.int .i64 0,.int .i64 0,.int .i64 0,.int .i64 0] 42 (0,0))∧
      wq.heap[G]? =some (.cells #[.string q1,.int .i64 q2,.int .i64 q3,.int .i64 q4,.int .i64 q5,.int .i64 q6,.int .i64 q7] 54 (0,0))) (fun _ _ xO _=>sl.length-(intOf xO).toNat)
     case atStart=>exact⟨0,PU,PD,Nat.zero_le _,rfl,rfl,rfl,by simp[dh],by simp[leftD],pF.out,R2.out,R4.out,R6.out⟩
     case round=>
      clear pF R2 R4 R6 d0 d1 d2 d3 mG hzq;obtain⟨j,X,Y,hj,rfl,rfl,rfl,hX,hY,hb,dH,eG,Aa⟩:=hrel;have HX':=ah hX;have HY':=ah hY;have R2:=ah dH;have R4:=ah eG;have R6:=ah Aa;have mG:G<wr.heap.size:=(bq Aa).1;have hzq:w.heap.size+1<wr.heap.size:=(bq eG).1;obtain⟨d0,d1,d2,d3,jJ⟩:=ay dH;have e4:=Ow.out wr hb;clear hX hY dH eG Aa jJ;rcases Nat.lt_or_ge j sl.length with lq | YF
      ·obtain⟨sb,so,rfl,Lh,g0,g1,g2,g3,g4⟩:=dI.sc hM hb (aC _) j lq
       have t_:(j:Int)<sl.length:=by omega
       have GK:=ah (left_step key sl j lq);have Wj:=ah (HPP.out (j+1));obtain⟨p1,p2,p3,p4,p5,p6⟩:=M5.out sl[j] (List.getElem_mem lq);obtain⟨p7,p8⟩:=HUI.out sl[j] (List.getElem_mem lq);have HLN:=ah (tV key (sl.take j) (fun x hx=>M5.out x (List.mem_of_mem_take hx)))
       have hbd:0≤X∧0≤Y∧X≤4611686018427387903∧Y≤4611686018427387903∧(sl[j].key=key→X+(sl[j].up-sl[j].uu)≤4611686018427387903∧Y+(sl[j].down-sl[j].ud)≤4611686018427387903):=by
        have a1:=HX'.out;have a2:=HY'.out;have a3:=HPN.out;have a4:=HLN.out;have a5:=Wj.out;have a6:=HPT.out;have a7:=uG.out;have a8:=HPU.out;have a9:=WQ.out;have NT:=GK.out;have a11:=HLU.out;have a12:=HLD.out;have a13:=HPP.out j;refine⟨by omega,by omega,by omega,by omega,fun sF=>?_⟩;rw[if_pos sF,if_pos sF]at NT;omega
       obtain⟨hX0,hY0,hX9,hY9,hXY⟩:=hbd;have HXY:=ah hXY;clear hXY;generalize sl[j]=t at*;obtain⟨t1',SA,SB,Vh,Vi⟩:=t;simp only at g0 g1 g2 g3 g4 p1 p2 p3 p4 p5 p6 p7 p8;have Uz:=ah (key_eq t1' key);have hA:Below wr.heap.size wr (wr.alloc (.cells #[.string t1',.int .i64 SA,.int .i64 SB,.int .i64 Vh,.int .i64 Vi] 88)):=(aL _ _).alloc (aC _) _;have ks:=heap_alloc_new wr (.cells #[.string t1',.int .i64 SA,.int .i64 SB,.int .i64 Vh,.int .i64 Vi] 88);have A2:=ah (aj R2.out hA (by omega));have A4:=ah (aj R4.out hA hzq);have A6:=ah (aj R6.out hA mG);have pF:=ah (hb.trans (hA.mono hb.size));go_upto_region 13 with fail
       generalize wr.alloc (.cells #[.string t1',.int .i64 SA,.int .i64 SB,.int .i64 Vh,.int .i64 Vi] 88)=U0 at*;generalize wr.heap.size=gs at*;have s0:U0.cell? ⟨gs,0,none⟩=some (.string t1'):=by simp[World.cell?,ks]
       have s1:U0.cell? ⟨gs,1,none⟩=some (.int .i64 SA):=by simp[World.cell?,ks]
       have s2:U0.cell? ⟨gs,2,none⟩=some (.int .i64 SB):=by simp[World.cell?,ks]
       have s3:U0.cell? ⟨gs,3,none⟩=some (.int .i64 Vh):=by simp[World.cell?,ks]
       have s4:U0.cell? ⟨gs,4,none⟩=some (.int .i64 Vi):=by simp[World.cell?,ks]
       clear g0 g1 g2 g3 g4 e4 d0 d1 d2 d3 hA R2 R4 R6 hb ks;by_cases he:t1'=key
       ·have de:(t1'.toList==key.toList)=true:=by rw[Uz.out];simpa using he
        obtain⟨hX1,hY1⟩:=HXY.out he;have qB:Hid (dh key (sl.take (j+1))=dh key (sl.take j)+(SA-Vh)∧leftD key (sl.take (j+1))=leftD key (sl.take j)+(SB-Vi)):=by have:=GK.out;simp only[he,if_true]at this;exact ah this
        have i1:IntKind.i64.wrap (X+SA)=X+SA:=IntWalk.i64_in _ (by omega);have i2:IntKind.i64.wrap (X+SA-Vh)=X+SA-Vh:=IntWalk.i64_in _ (by omega);have i3:IntKind.i64.wrap (Y+SB)=Y+SB:=IntWalk.i64_in _ (by omega);have i4:IntKind.i64.wrap (Y+SB-Vi)=Y+SB-Vi:=IntWalk.i64_in _ (by omega);clear HXY;go_wp2_with fail
        go_quiet (fail)
        clear i1 i2 i3 i4;go_wp2;go_roundw
        case rel=>exact⟨j+1,X+SA-Vh,Y+SB-Vi,by omega,by go_num,by go_num,by go_num,by rw[qB.out.1,HX'.out];omega,by rw[qB.out.2,HY'.out];omega,below_drewN pF.out _,A2.out,A4.out,A6.out⟩
        case measure=>simp[intOf];omega
       ·have de:(t1'.toList==key.toList)=false:=by rw[Uz.out];simpa using he
        have qB:Hid (dh key (sl.take (j+1))=dh key (sl.take j)∧leftD key (sl.take (j+1))=leftD key (sl.take j)):=by have:=GK.out;simp only[if_neg he,Int.add_zero]at this;exact ah this
        clear HXY;go_wp2;go_roundw
        case rel=>exact⟨j+1,X,Y,by omega,by go_num,by go_num,by go_num,by rw[qB.out.1];exact HX'.out,by rw[qB.out.2];exact HY'.out,pF.out,A2.out,A4.out,A6.out⟩
        case measure=>simp[intOf];omega
      ·have Te:j=sl.length:=by omega
       subst Te;have Wl:Hid (X=bG key (b.ls.take (i+1))):=by show _=_;rw[uG.out.1,HX'.out,List.take_length,HPU.out]
       have PK:Hid (Y=bH key (b.ls.take (i+1))):=by show _=_;rw[uG.out.2,HY'.out,List.take_length,WQ.out]
       go_wp2;go_roundw
       case rel=>exact⟨i+1,X,Y,by omega,by go_num,by go_num,by go_num,Wl.out,PK.out,hb,R2.out,R4.out,R6.out⟩
       case measure=>simp[intOf];omega
    ·have BZ:i=xs.length:=by omega
     subst BZ;have HU9:Hid (PU=LU∧PD=LD):=ah ⟨by rw[HPU.out];exact Vg.out.1,by rw[WQ.out];exact Vg.out.2⟩;obtain⟨e1,e2⟩:=HU9.out;subst e1 e2;go_wp2;go_meet;exact⟨rfl,rfl,hb,R4.out,R6.out⟩
  case rest=>
  obtain⟨rfl,rfl,hb,eG,Aa⟩:=hcut;obtain⟨W5,JG⟩:∃W5,W5=wc:=⟨_,rfl⟩;subst JG;obtain⟨c0,c1,c2,c3,c4,c5,c6,jJ⟩:=aB Aa;obtain⟨⟨r0,r1,r2,r3,r4,r5⟩,rf⟩:=qL eG;have f0:=rf 0;have f1:=rf 1;have f2:=rf 2;have f3:=rf 3;have f4:=rf 4;have f5:=rf 5;have JD:=ah hb;clear rf jJ eG Aa hb K2' K4' K6 lI;go_wp2;refine bodyPost_ret (v:=.agg #[.int .i64 q6,.int .i64 LU,.int .i64 (q4-q5-q6-LU),.int .i64 q7,.int .i64 LD,.int .i64 (q5-q3-q7-LD)]) (by simp[results,Tryz.results19,go_sem, *]) rfl (show Kv _ _ _ _ from ?_);rw[HF.out];exact⟨rfl,(((((JD.out.setCell (by simp) _).setCell (by simp) _).setCell (by simp) _).setCell (by simp) _).setCell (by simp) _).setCell (by simp) _⟩
structure Sx where
 a:Int
 b:Int
 c:Int
 d:Int
 e:Int
 f:Int
abbrev Bs (w:World) (p:Nat) (x:Sx):Prop:=w.heap[p]? =some (.cells #[.int .i64 x.a,.int .i64 x.b,.int .i64 x.c,.int .i64 x.d,.int .i64 x.e,.int .i64 x.f] 42 (0,0))
def zSx:Sx:=⟨0,0,0,0,0,0⟩
theorem Mq {w:World} {p:Nat} {x:Sx} (h:Bs w p x) (y:Sx):Bs ((((((w.setCell ⟨p,0,none⟩ (.int .i64 y.a)).setCell ⟨p,1,none⟩ (.int .i64 y.b)).setCell ⟨p,2,none⟩ (.int .i64 y.c)).setCell ⟨p,3,none⟩ (.int .i64 y.d)).setCell ⟨p,4,none⟩ (.int .i64 y.e)).setCell ⟨p,5,none⟩ (.int .i64 y.f)) p y:=by
 simp[Bs,World.setCell,Array.getElem?_modify,h]
theorem abH {B:Nat} {w W:World} (h:Below B w W) {p:Nat} (hp:B≤p) (x0 x1 x2 x3 x4 x5:Value):Below B w ((((((W.setCell ⟨p,0,none⟩ x0).setCell ⟨p,1,none⟩ x1).setCell ⟨p,2,none⟩ x2).setCell ⟨p,3,none⟩ x3).setCell ⟨p,4,none⟩ x4).setCell ⟨p,5,none⟩ x5):=(((((h.setCell hp _).setCell hp _).setCell hp _).setCell hp _).setCell hp _).setCell hp _
section
variable {W w w':World} {T U:Sx} {D:Nat→Prop} {p q:Nat} {vT vU vp vq:Value}
end
end Go.Proofs.YtlfopoimbbpfdaaGreat
