/- What the law asks, in parts: Fp Df. -/
import Derived.Deep.DrawnRows
import Derived.ProofKit
import Derived.OpenShut
import Derived.ShutString
import Derived.ChangeOld
import Derived.Below
import Derived.Lib.SmallJoins
import Derived.Deep.Slices
import Derived.Deep.Fields
import Derived.ChangeSame
import Derived.Test.YtlfopoimbbpfdaaGreatPk39
import Derived.Test.YtlfopoimbbpfdaaGreatPk43
import Derived.Test.YtlfopoimbbpfdaaGreatPk32
import Derived.Test.YtlfopoimbbpfdaaGreatPk33
set_option linter.all false
set_option maxRecDepth 100000
set_option maxHeartbeats 16000000
namespace Go.Proofs.YtlfopoimbbpfdaaGreat
open Go.RowKit
section
attribute [local go_sem ↓] Go.wp_at_zero Go.wp_at_succ
def TSo (w:World) (p5:Nat) (wr:World):Prop:=∃ (b:Bk) (ya:dN),Inv b∧Bx wr p5 ya∧iA wr ya b∧Below w.heap.size w wr
theorem Ou (x y:dN) (b:Bk) (w:World) (h:iA w x b) (h':iA w y b):
  Calls Tryz.prog 16 #[iJ x,iJ y] w fun e w'=>e= .returned (.bool true)∧Below w.heap.size w w':=
 (D7 x y b b w h h').mono fun e w' ⟨h1,h2⟩=>⟨by rw[h1];simp,h2⟩
theorem RV (v0:Value) (l:List uz) (n1 n2 n3:Int) (w:World) (h:Oq w v0 l) (hM:∀a∈l,∃ws,UY w a ws) (Zy:n3≤9223372036854775807):Calls Tryz.prog 4 #[v0,.int .i64 n1,.int .i64 n2,.int .i64 n3] w fun e w'=>e= .returned (.bool true)∧Below w.heap.size w w':=by
 obtain⟨ao,cap,rfl,dO,qM⟩:=Sl.shape h;have H:=ah h;have HM:=ah hM;clear h hM
 go_enter Tryz.func4,Tryz.ntmps4
 go_wp2_with fail
 refine(Nz _).mono ?_;rintro e w1 ⟨rfl,bB⟩;go_wp2_with fail
 refine(Ot _ l w1 (dI.keep H.out bB (aC _)) (fun a ha=>(HM.out a ha).imp fun _ h=>h.keep bB (aC _))).mono ?_;rintro e w2 ⟨q,rfl,bO⟩;have hbw2:=bB.trans (bO.mono bB.size);clear bB bO
 cases q with
 | false=>
  go_wp2;go_ret;exact⟨rfl,hbw2⟩
 | true=>
 go_wp2_with fail
 refine(N_ _).mono ?_;rintro e W4 ⟨⟨⟨ca,cn,cc⟩,⟨fa,bD,fc⟩,⟨la,ln,lc⟩,⟨ba,bE,bc⟩⟩,rfl,hm3,bT⟩;have uh:=hbw2.trans (bT.mono hbw2.size);clear hbw2 bT;have kH:=heap_alloc_new W4 (.cells #[.slice ca cn cc,.slice fa bD fc,.slice la ln lc,.slice ba bE bc] 30);have eD:Below W4.heap.size W4 (W4.alloc (.cells #[.slice ca cn cc,.slice fa bD fc,.slice la ln lc,.slice ba bE bc] 30)):=(aL _ _).alloc (aC _) _;have YO:Hid (TSo w W4.heap.size (W4.alloc (.cells #[.slice ca cn cc,.slice fa bD fc,.slice la ln lc,.slice ba bE bc] 30))):=ah ⟨rY,⟨⟨ca,cn,cc⟩,⟨fa,bD,fc⟩,⟨la,ln,lc⟩,⟨ba,bE,bc⟩⟩,Ue,kH,hm3.keep eD (aC _),uh.trans (eD.mono uh.size)⟩;have YQ:w.heap.size≤W4.heap.size:=uh.size;clear hm3 kH eD uh;go_upto_block 0 with fail
 generalize W4.alloc (.cells #[.slice ca cn cc,.slice fa bD fc,.slice la ln lc,.slice ba bE bc] 30)=W5 at*;generalize W4.heap.size=p5 at*
 go_cut[] (fun wx=>TSo w p5 wx)
 case first=>
  go_wp2
  go_loopw[10] (fun vi wr=>∃k:Nat,k≤l.length∧vi= .int .i64 k∧TSo w p5 wr) (fun vi _=>l.length-(intOf vi).toNat)
  case atStart=>exact⟨0,Nat.zero_le _,rfl,YO.out⟩
  case round=>
   clear YO;obtain⟨k,hk,rfl,hto⟩:=hrel;by_cases bA:k<l.length
   ·obtain⟨b,⟨⟨ca,cn,cc⟩,⟨fa,bD,fc⟩,⟨la,ln,lc⟩,⟨ba,bE,bc⟩⟩,hinv,h5,oZ,jw⟩:=hto
    have jK:(k:Int)<l.length:=by omega
    obtain⟨ws,abR⟩:=HM.out l[k] (List.getElem_mem bA);have Fu:=abR.keep jw (aC _);have Db:=ah hinv;have H5:=ah h5;have pV:=ah oZ;have eY:=ah jw;have YU:=ah Fu;have Um:p5<wr.heap.size:=h5.lt;clear hinv h5 oZ jw Fu abR;obtain⟨W,hW⟩:∃W,W=wr:=⟨_,rfl⟩;subst hW;go_upto_region 9 with fail
    go_cut[11,12,13] (fun v11 v12 zh wx=>∃ (y z:dN) (p q:Nat),v11= .pointer (some ⟨p,0,none⟩)∧v12= .pointer (some ⟨q,0,none⟩)∧zh= .bool true∧Bx wx p y∧Bx wx q z∧iA wx y (BA b l[k] ws)∧iA wx z (BA b l[k] ws)∧Below W.heap.size W wx∧W.heap.size≤p∧W.heap.size≤q)
    case first=>
     rename_i J K hJ hK
     refine wp_mono (Yh W _ cap l k bA ws p5 p5 ⟨⟨ca,cn,cc⟩,⟨fa,bD,fc⟩,⟨la,ln,lc⟩,⟨ba,bE,bc⟩⟩ ⟨⟨ca,cn,cc⟩,⟨fa,bD,fc⟩,⟨la,ln,lc⟩,⟨ba,bE,bc⟩⟩ b (dI.keep H.out eY.out (aC _)) YU.out H5.out H5.out pV.out pV.out (Db.out.doB _) K (fun a' w' hq=>by
      obtain⟨v11,v12,zh,v28,v29,v30,v31,v32,v33,v34,v27,v35,v36,v37,hrel,ha⟩:=hq;dsimp only at ha;subst ha;refine hK _ _ (Met.intro (hJ _ _ ?_))
      (repeat apply Exists.intro)
      exact⟨hrel,rfl⟩) _ rfl) ?_
     intro e a' w' hq
     cases e with
     | normal=>exact hq
     | _=>exact hq.elim
    case rest=>
    have h5x:∃X:dN,Bx W p5 X:=⟨_,H5.out⟩;obtain⟨y6,⟨⟨ga,gn,gc⟩,⟨ha,fu,hc⟩,⟨ia,eX,ic⟩,⟨ja,jn,jc⟩⟩,p6,p7,rfl,rfl,rfl,h6,h7,hy,hz,hb,UC,hp7⟩:=hcut;obtain⟨X5,H5⟩:=h5x;have abS:=ah (Db.out.act l[k] ws);have hbw2:=eY.out.trans (hb.mono eY.out.size);have h5:=aj H5 hb Um;obtain⟨V,hV⟩:∃V,V=wc:=⟨_,rfl⟩;subst hV;clear Db eY H5 pV YU hb h6 hy;obtain⟨⟨xa,xn,xc⟩,⟨xd,xe,xf⟩,⟨xg,xh,xi⟩,⟨xj,xk,xl⟩⟩:=X5;generalize BA b l[k] ws=b2 at*;have akL:p7≠p5:=by omega
    have yt:Hid (∀c,c≠p5→((((V.setCell ⟨p5,0,none⟩ (.slice ga gn gc)).setCell ⟨p5,1,none⟩ (.slice ha fu hc)).setCell ⟨p5,2,none⟩ (.slice ia eX ic)).setCell ⟨p5,3,none⟩ (.slice ja jn jc)).heap[c]? =V.heap[c]?):=ah (fun c hc=>bM V p5 c (fun e=>hc e.symm) _ _ _ _ 0 1 2 3);have Oy:Hid (V.heap.size≤((((V.setCell ⟨p5,0,none⟩ (.slice ga gn gc)).setCell ⟨p5,1,none⟩ (.slice ha fu hc)).setCell ⟨p5,2,none⟩ (.slice ia eX ic)).setCell ⟨p5,3,none⟩ (.slice ja jn jc)).heap.size):=ah (by rw[jA];exact aC _);have hTS:TSo w p5 ((((V.setCell ⟨p5,0,none⟩ (.slice ga gn gc)).setCell ⟨p5,1,none⟩ (.slice ha fu hc)).setCell ⟨p5,2,none⟩ (.slice ia eX ic)).setCell ⟨p5,3,none⟩ (.slice ja jn jc)):=⟨b2,⟨⟨ga,gn,gc⟩,⟨ha,fu,hc⟩,⟨ia,eX,ic⟩,⟨ja,jn,jc⟩⟩,abS.out,ku h5 (.slice ga gn gc) (.slice ha fu hc) (.slice ia eX ic) (.slice ja jn jc),hz.over yt.out Oy.out h5 (vO _),oW hbw2 YQ (.slice ga gn gc) (.slice ha fu hc) (.slice ia eX ic) (.slice ja jn jc)⟩;have HTS:=ah hTS;obtain⟨a0,a1,a2,a3,hx8⟩:=ay h7;obtain⟨b0,b1,b2',b3,jJ⟩:=ay h5;have f0:=aA h5 0;have f1:=aA h5 1;have f2:=aA h5 2;have f3:=aA h5 3;clear hx8 jJ h5 h7 hz hTS yt Oy hbw2;simp only[Sv.v]at a0 a1 a2 a3 b0 b1 b2' b3;go_wp2;go_roundw
    case rel=>exact⟨k+1,by omega,by go_num,HTS.out⟩
    case measure=>simp[intOf];omega
   ·have jK:¬ (k:Int)<l.length:=by omega
    go_wp2;go_meet;exact hto
 case rest=>
 clear YO;obtain⟨b,yb,hinv,h5,oZ,jw⟩:=hcut;obtain⟨W,hW⟩:∃W,W=wc:=⟨_,rfl⟩;subst hW;have Db:=ah hinv;have pV:=ah oZ;have eY:=ah jw;have H5:=ah h5;have Um:p5<W.heap.size:=h5.lt;clear hinv h5 oZ jw;obtain⟨⟨⟨ca,cn,cc⟩,⟨fa,bD,fc⟩,⟨la,ln,lc⟩,⟨ba,bE,bc⟩⟩,pY⟩:∃y,y=yb:=⟨_,rfl⟩;have zN:=ah pY;have h5:=H5.out;rw[←pY]at h5;obtain⟨a0,a1,a2,a3,jJ⟩:=ay h5;clear jJ h5 pY;simp only[Sv.v]at a0 a1 a2 a3;go_wp2_with fail
 refine(Ko ⟨⟨ca,cn,cc⟩,⟨fa,bD,fc⟩,⟨la,ln,lc⟩,⟨ba,bE,bc⟩⟩ b n1 n2 n3 W (by rw[zN.out];exact pV.out) (Yg Db.out)).mono ?_;rintro e V ⟨⟨⟨ga,gn,gc⟩,⟨ha,fu,hc⟩,⟨ia,eX,ic⟩,⟨ja,jn,jc⟩⟩,rfl,Lj,hb⟩;clear a0 a1 a2 a3;have hsn:=RU Db.out n1 n2 n3 Zy;obtain⟨Lh,tO⟩:=Oo Db.out n1 n2 n3 Zy;generalize lY b n1 n2 n3=x at*;have P9v:=aj H5.out hb Um;have PBv:=pV.out.keep hb (aC _);have eD:Below V.heap.size V (V.alloc (.cells #[.slice ga gn gc,.slice ha fu hc,.slice ia eX ic,.slice ja jn jc] 30)):=(aL _ _).alloc (aC _) _;have k14:=heap_alloc_new V (.cells #[.slice ga gn gc,.slice ha fu hc,.slice ia eX ic,.slice ja jn jc] 30);have P9:=ah (aj P9v eD (Nat.lt_of_lt_of_le Um hb.size));have PB:=ah (PBv.keep eD (aC _));have PX:=ah (Lj.keep eD (aC _));have hbv:=hb.mono eY.out.size;have abT:=ah ((eY.out.trans hbv).trans (eD.mono (eY.out.trans hbv).size));have P8:=ah Db.out.af7;have Ih:=ah Db.out.snd;have HSX:=ah Lh;have wN:=ah tO;obtain⟨q1,hq1⟩:∃q,zL x=q:=⟨_,rfl⟩;obtain⟨q2,vW⟩:∃q,decide (b=x)=q:=⟨_,rfl⟩;have Gm:=ah hq1;have eF:Hid (BN x=q1):=ah (by rw[hsn,hq1]);have vJ:=ah vW;clear hsn Lh tO hq1 vW P9v PBv eD Lj hb hbv H5 pV eY zN Db;go_upto_region 12 with fail
 generalize abv:V.heap.size=iK at*;clear abv;generalize V.alloc (.cells #[.slice ga gn gc,.slice ha fu hc,.slice ia eX ic,.slice ja jn jc] 30)=U at*;obtain⟨yx,Lj⟩:∃y:dN,y=⟨⟨ga,gn,gc⟩,⟨ha,fu,hc⟩,⟨ia,eX,ic⟩,⟨ja,jn,jc⟩⟩:=⟨_,rfl⟩;rw[←Lj]at PX;have Yi:Hid (Bx U iK yx):=ah (by rw[Lj];exact k14);have l9:p5<U.heap.size:=blF P9.out;have Y0:iK<U.heap.size:=blF Yi.out;clear k14 Lj;refine kX 23 (fun w'=>Below U.heap.size U w') 23 (fun w'=>Below U.heap.size U w') (by kernel_rfl) ?_;have aQ:Below U.heap.size U U.drew:=(aL _ _).drew;refine gK (i:=0) (v:=iJ yb) (ks:=[23]) rfl (by kernel_rfl) (fun _ _ _ h=>h) (.inl ⟨rfl,fun w' hw=>?_⟩) ⟨fun _=>aQ,fun _=>aQ⟩ ?_
 ·obtain⟨⟨ca,cn,cc⟩,⟨fa,bD,fc⟩,⟨la,ln,lc⟩,⟨ba,bE,bc⟩⟩:=yb
  obtain⟨a0,a1,a2,a3,_⟩:=ay (aj P9.out hw l9);simp only[Sv.v]at a0 a1 a2 a3;go_simp
 refine bZ (i:=1) (by kernel_rfl) rfl rfl ?_;go_simp;refine(yD yb b _ (PB.out.keep aQ (aC _)) P8.out).mono ?_;rw[Ih.out];rintro e V1 ⟨rfl,hb⟩;have mq:=aQ.trans (hb.mono aQ.size);clear hb aQ;refine⟨⟨fun _=>mq,fun _=>mq⟩,?_⟩;refine bZ (i:=2) (by kernel_rfl) rfl rfl ?_;go_simp;refine⟨⟨fun _=>mq,fun _=>mq⟩,?_⟩;refine gK (i:=3) (v:=iJ yx) (ks:=[23]) rfl (by kernel_rfl) (fun _ _ _ h=>h) (.inl ⟨(by go_simp),fun w' hw=>?_⟩) ⟨fun _=>mq,fun _=>mq⟩ ?_
 ·obtain⟨⟨ca,cn,cc⟩,⟨fa,bD,fc⟩,⟨la,ln,lc⟩,⟨ba,bE,bc⟩⟩:=yx
  obtain⟨a0,a1,a2,a3,_⟩:=ay (aj Yi.out hw Y0);simp only[Sv.v]at a0 a1 a2 a3;go_simp
 refine gK (i:=5) (v:=iJ yx) (ks:=[23]) rfl (by kernel_rfl) (fun _ _ _ h=>h) (.inl ⟨(by go_simp),fun w' hw=>?_⟩) ⟨fun _=>mq,fun _=>mq⟩ ?_
 ·obtain⟨⟨ca,cn,cc⟩,⟨fa,bD,fc⟩,⟨la,ln,lc⟩,⟨ba,bE,bc⟩⟩:=yx
  obtain⟨a0,a1,a2,a3,_⟩:=ay (aj Yi.out hw Y0);simp only[Sv.v]at a0 a1 a2 a3;go_simp
 refine jC (i:=4) (by kernel_rfl) rfl (by go_simp) ?_;go_simp;refine(yD yx x _ (PX.out.keep mq (aC _)) HSX.out).mono ?_;rw[Gm.out];rintro e V2 ⟨rfl,hb⟩;have dF:=mq.trans (hb.mono mq.size);clear hb mq;refine⟨⟨fun _=>dF,fun _=>dF⟩,?_⟩;refine jC (i:=6) (by kernel_rfl) rfl (by go_simp) ?_;go_simp;refine(Ky yx x _ (PX.out.keep dF (aC _)) wN.out).mono ?_;rw[eF.out];rintro e V3 ⟨rfl,hb⟩;have qh:=dF.trans (hb.mono dF.size);clear hb dF;refine⟨⟨fun _=>qh,fun _=>qh⟩,?_⟩;have FX:∀U:World,(binOp .eql 4 (.bool q1) (.bool q1)).run Tryz.prog U= .ok (.bool true) U:=fun U=>by cases q1<;>go_simp
 have he2:∀U:World,(binOp .eql 4 (.bool q2) (.bool q2)).run Tryz.prog U= .ok (.bool true) U:=fun U=>by cases q2<;>go_simp
 refine jC (i:=7) (by kernel_rfl) rfl (by go_simp) ?_;go_simp;refine⟨⟨fun _=>qh,fun _=>qh⟩,?_⟩;refine bZ (i:=8) (by kernel_rfl) rfl rfl ?_;go_simp;refine⟨⟨fun _=>qh,fun _=>qh⟩,?_⟩;refine bZ (i:=9) (by kernel_rfl) rfl rfl ?_;go_simp;refine⟨⟨fun _=>qh,fun _=>qh⟩,?_⟩;refine gK (i:=10) (v:=iJ yb) (ks:=[23]) rfl (by kernel_rfl) (fun _ _ _ h=>h) (.inl ⟨(by go_simp),fun w' hw=>?_⟩) ⟨fun _=>qh,fun _=>qh⟩ ?_
 ·obtain⟨⟨ca,cn,cc⟩,⟨fa,bD,fc⟩,⟨la,ln,lc⟩,⟨ba,bE,bc⟩⟩:=yb
  obtain⟨a0,a1,a2,a3,_⟩:=ay (aj P9.out hw l9);simp only[Sv.v]at a0 a1 a2 a3;go_simp
 refine gK (i:=13) (v:=iJ yb) (ks:=[23]) rfl (by kernel_rfl) (fun _ _ _ h=>h) (.inl ⟨(by go_simp),fun w' hw=>?_⟩) ⟨fun _=>qh,fun _=>qh⟩ ?_
 ·obtain⟨⟨ca,cn,cc⟩,⟨fa,bD,fc⟩,⟨la,ln,lc⟩,⟨ba,bE,bc⟩⟩:=yb
  obtain⟨a0,a1,a2,a3,_⟩:=ay (aj P9.out hw l9);simp only[Sv.v]at a0 a1 a2 a3;go_simp
 refine gK (i:=11) (v:=iJ yx) (ks:=[23]) rfl (by kernel_rfl) (fun _ _ _ h=>h) (.inl ⟨(by go_simp),fun w' hw=>?_⟩) ⟨fun _=>qh,fun _=>qh⟩ ?_
 ·obtain⟨⟨ca,cn,cc⟩,⟨fa,bD,fc⟩,⟨la,ln,lc⟩,⟨ba,bE,bc⟩⟩:=yx
  obtain⟨a0,a1,a2,a3,_⟩:=ay (aj Yi.out hw Y0);simp only[Sv.v]at a0 a1 a2 a3;go_simp
 refine gK (i:=14) (v:=iJ yx) (ks:=[23]) rfl (by kernel_rfl) (fun _ _ _ h=>h) (.inl ⟨(by go_simp),fun w' hw=>?_⟩) ⟨fun _=>qh,fun _=>qh⟩ ?_
 ·obtain⟨⟨ca,cn,cc⟩,⟨fa,bD,fc⟩,⟨la,ln,lc⟩,⟨ba,bE,bc⟩⟩:=yx
  obtain⟨a0,a1,a2,a3,_⟩:=ay (aj Yi.out hw Y0);simp only[Sv.v]at a0 a1 a2 a3;go_simp
 refine jC (i:=12) (by kernel_rfl) rfl (by go_simp) ?_;go_simp;refine(D7 yb yx b x _ (PB.out.keep qh (aC _)) (PX.out.keep qh (aC _))).mono ?_;rw[vJ.out];rintro e V4 ⟨rfl,hb⟩;have Hz:=qh.trans (hb.mono qh.size);clear hb qh;refine⟨⟨fun _=>Hz,fun _=>Hz⟩,?_⟩;refine jC (i:=15) (by kernel_rfl) rfl (by go_simp) ?_;go_simp;refine(tY yb yx b x _ (PB.out.keep Hz (aC _)) (PX.out.keep Hz (aC _))).mono ?_;rw[vJ.out];rintro e V5 ⟨rfl,hb⟩;have E9:=Hz.trans (hb.mono Hz.size);clear hb Hz;refine⟨⟨fun _=>E9,fun _=>E9⟩,?_⟩;refine jC (i:=16) (by kernel_rfl) rfl (by go_simp) ?_;go_simp;refine⟨⟨fun _=>E9,fun _=>E9⟩,?_⟩;refine bZ (i:=17) (by kernel_rfl) rfl rfl ?_;go_simp;refine⟨⟨fun _=>E9,fun _=>E9⟩,?_⟩;refine bZ (i:=18) (by kernel_rfl) rfl rfl ?_;go_simp;refine⟨⟨fun _=>E9,fun _=>E9⟩,?_⟩;refine gK (i:=19) (v:=iJ yx) (ks:=[23]) rfl (by kernel_rfl) (fun _ _ _ h=>h) (.inl ⟨(by go_simp),fun w' hw=>?_⟩) ⟨fun _=>E9,fun _=>E9⟩ ?_
 ·obtain⟨⟨ca,cn,cc⟩,⟨fa,bD,fc⟩,⟨la,ln,lc⟩,⟨ba,bE,bc⟩⟩:=yx
  obtain⟨a0,a1,a2,a3,_⟩:=ay (aj Yi.out hw Y0);simp only[Sv.v]at a0 a1 a2 a3;go_simp
 refine gK (i:=20) (v:=iJ yx) (ks:=[23]) rfl (by kernel_rfl) (fun _ _ _ h=>h) (.inl ⟨(by go_simp),fun w' hw=>?_⟩) ⟨fun _=>E9,fun _=>E9⟩ ?_
 ·obtain⟨⟨ca,cn,cc⟩,⟨fa,bD,fc⟩,⟨la,ln,lc⟩,⟨ba,bE,bc⟩⟩:=yx
  obtain⟨a0,a1,a2,a3,_⟩:=ay (aj Yi.out hw Y0);simp only[Sv.v]at a0 a1 a2 a3;go_simp
 refine jC (i:=21) (by kernel_rfl) rfl (by go_simp) ?_;go_simp;refine(Ou yx yx x _ (PX.out.keep E9 (aC _)) (PX.out.keep E9 (aC _))).mono ?_;rintro e V6 ⟨rfl,hb⟩;have R_:=E9.trans (hb.mono E9.size);clear hb E9;refine⟨⟨fun _=>R_,fun _=>R_⟩,?_⟩;refine bZ (i:=22) (by kernel_rfl) rfl rfl ?_;go_simp;refine⟨⟨fun _=>R_,fun _=>R_⟩,?_⟩;refine bZ (i:=23) (by kernel_rfl) rfl rfl ?_;go_simp;refine⟨⟨fun _=>R_,fun _=>R_⟩,?_⟩;refine kW (by kernel_rfl) ?_;go_wp2;go_ret;exact⟨rfl,abT.out.trans (R_.mono abT.out.size)⟩
end
end Go.Proofs.YtlfopoimbbpfdaaGreat
namespace Go.Proofs.YtlfopoimbbpfdaaGreat
open Go.ChangeShapes Go.WideShapes Go.ChangeAt Go.RowKit Go.Deep
theorem Tryz.own:ownKnob Tryz.prog.godebug=none:=by kernel_rfl
theorem Tryz.laidOut:laidOutB Tryz.prog=true:=by kernel_rfl
theorem yJ {n:Int} (h:(Lit.int .i64 n).wf=true): -9223372036854775808≤n∧n≤9223372036854775807:=bounds_i64 h
theorem zu {H:Type} {enc:TypeId×Value→H} {P:Program} {w:World} {base:Nat} {spare:Nat→Bool} {held:Bool} {t e:TypeId} {fs:Array Field} {fuel:Nat} {cs:List Value} {x:DataW H×List MemPlace} (ht:P.underlying t=some (.slice e)) (he:P.underlying e=some (.struct fs))
  (hone:oneCellFields P fs=true) (hC:P.cellsOf e=fs.size) (h:DataW.trod enc P w base spare held fuel t cs=some x):
  cs= [.slice none 0 0]∨
  ∃ (a:Addr) (len cap:Nat),cs= [.slice (some a) len cap]∧len≤cap∧cap≤maxLen∧
   ∀i,i<len→ ∃n:Nat,∀ (j:Nat) (f:Field),fs[j]? =some f→ ∃ (v:Value) (y:DataW H×List MemPlace),w.cell? (a.add (i*fs.size+j))=some v∧DataW.trod enc P w base spare held n f.type [v]=some y:=by
 rcases open_slice ht h with h0 | ⟨a,len,cap,m,n,D,Pl,kE,hb,hl,hm,hmm,hx,hi⟩
 ·exact .inl h0.1
 ·refine .inr ⟨a,len,cap,kE,hl,hm,fun i nJ=>?_⟩
  have him:i<m:=by rw[hmm];split<;>omega
  obtain⟨cs',hc,ht'⟩:=hi i him;rw[hC]at hc;obtain⟨ys,n',hn',hy,fP,zJ,hf⟩:=DataW.trod_struct he ht';obtain⟨_,Ca,iQ⟩:=World.cells?_some hc;refine⟨n',fun j f hj=>?_⟩;obtain⟨ho,hk⟩:=hone_of hone j f hj;have lq:j<fs.size:=(bq hj).1;have hcell:=iQ j lq;have hv:cs'[j]? =some (cs'[j]'(by omega)):=List.getElem?_eq_getElem (by omega);have h1:=hf j f hj;rw[ho,hk]at h1
  have abU:(cs'.drop j).take 1= [cs'[j]'(by omega)]:=by
   rw[List.drop_eq_getElem_cons (by omega)];rfl
  rw[abU]at h1;have hys:ys[j]? =some (ys[j]'(by omega)):=List.getElem?_eq_getElem (by omega);refine⟨_,_,?_,h1.trans hys⟩;rw[←Go.Deep.add_add,hcell,hv]
theorem rO {α:Type} {f:α→List Value} {E:Nat} (hE:∀x,(f x).length=E) (hp:0<E) {w:World} {a:Addr} {len cap:Nat} (hl:len≤cap) (hm:cap≤maxLen) {Q:α→Prop}
  (h:∀i,i<len→ ∃y:α,Q y∧ ∀j u,(f y)[j]? =some u→w.cell? (a.add (i*E+j))=some u):∃l:List α,dI f E w (.slice (some a) len cap) l∧ ∀y∈l,Q y:=by
 have h':∀i:Fin len,∃y:α,Q y∧ ∀j u,(f y)[j]? =some u→w.cell? (a.add (i.1*E+j))=some u:=fun i=>h i.1 i.2
 let g:Fin len→α:=fun i=>Classical.choose (h' i)
 have hg:∀i,Q (g i)∧ ∀j u,(f (g i))[j]? =some u→w.cell? (a.add (i.1*E+j))=some u:=fun i=>Classical.choose_spec (h' i)
 refine⟨List.ofFn g,?_,fun y hy=>?_⟩
 ·have fP:(List.ofFn g).length=len:=List.length_ofFn
  have Ca:(aJ f (List.ofFn g)).length=len*E:=by rw[bP hE,fP]
  unfold dI;rw[fP];refine⟨Ca,some a,cap,rfl,hl,hm,(fun h=>by cases h),fun j u hu=>?_⟩;have hj:j<len*E:=by rw[←Ca];exact(List.getElem?_eq_some_iff.1 hu).1
  have hlp:0<len:=Nat.pos_of_ne_zero (fun e=>by subst e;simp at hj);have hq:j/E<len:=(Nat.div_lt_iff_lt_mul hp).2 hj;have hr:j%E<E:=Nat.mod_lt _ hp;have F7:j/E*E+j%E=j:=Nat.div_add_mod' j E
  have FZ:(f (g ⟨j/E,hq⟩))[j%E]? =some u:=by
   have:=bV hE (List.ofFn g) (j/E) (by rw[fP];exact hq) (j%E) hr;rw[F7,hu]at this;rw[List.getElem_ofFn]at this;exact this.symm
  have hc:=(hg ⟨j/E,hq⟩).2 _ _ FZ;simp only[F7]at hc;have h00:=(hg ⟨0,hlp⟩).2 0 ((f (g ⟨0,hlp⟩))[0]'(by rw[hE];exact hp)) (List.getElem?_eq_getElem _);simp only[Nat.zero_mul,Nat.zero_add]at h00
  have hspot:a.spot=none:=by
   cases hs:a.spot with
   | none=>rfl
   | some q=>
    exfalso;simp only[Addr.add,if_true,World.cell?]at h00
    split at h00
    ·simp[hs]at h00
    ·cases h00
  obtain⟨b,off,spot⟩:=a;simp only at hspot;subst hspot;rw[Addr.add_lit]at hc;exact⟨b,off,rfl,World.block_lt_of_cell? w _ hc,hc⟩
 ·obtain⟨i,hi⟩:=(List.mem_ofFn).1 hy
  rw[←hi];exact(hg i).1
def AcI (w:World) (x:uz):Prop:=∃ws,UY w x ws
section
variable {H:Type} {enc:TypeId×Value→H} {w:World} {base:Nat} {spare:Nat→Bool} {held:Bool} {fuel:Nat} {x:DataW H×List MemPlace}
theorem take_one {cs:List Value} {k:Nat} (hk:k<cs.length):(cs.drop k).take 1= [cs[k]]:=by
 rw[List.drop_eq_getElem_cons hk];rfl
theorem kQ {P:Program} {fs:Array Field} {cs:List Value} {n:Nat} (hf:∀ (i:Nat) (f:Field),fs[i]? =some f→ ∃y,DataW.trod enc P w base spare held n f.type ((cs.drop f.offset).take (P.cellsOf f.type))=some y)
  (i k:Nat) {f:Field} (hi:fs[i]? =some f) (ho:f.offset=k) (hc:P.cellsOf f.type=1) (hk:k<cs.length):∃y,DataW.trod enc P w base spare held n f.type [cs[k]]=some y:=by
 have h:=hf i f hi;rw[ho,hc,take_one hk]at h;exact h
theorem RX {P:Program} {fs:Array Field} {cs:List Value} {n:Nat} (hf:∀ (i:Nat) (f:Field),fs[i]? =some f→ ∃y,DataW.trod enc P w base spare held n f.type ((cs.drop f.offset).take (P.cellsOf f.type))=some y)
  (i k m:Nat) (t:TypeId) {f:Field} (hi:fs[i]? =some f) (ho:f.offset=k) (ht:f.type=t) (hc:P.cellsOf t=m):∃y,DataW.trod enc P w base spare held n t ((cs.drop k).take m)=some y:=by
 have h:=hf i f hi;rw[ho,ht,hc]at h;exact h
theorem vP {P:Program} {t:TypeId} {fs:Array Field} {cs:List Value} (ht:P.underlying t=some (.struct fs)) (h:DataW.trod enc P w base spare held fuel t cs=some x):
  cs.length=P.cellsOf t∧ ∃n,∀ (i:Nat) (f:Field),fs[i]? =some f→ ∃y,DataW.trod enc P w base spare held n f.type ((cs.drop f.offset).take (P.cellsOf f.type))=some y:=by
 obtain⟨xs,n,_,_,hl,hx,hf⟩:=DataW.trod_struct ht h;refine⟨hl,n,fun i f hi=>?_⟩;have bA:i<xs.length:=by rw[hx];exact(bq hi).1
 exact⟨xs[i],(hf i f hi).trans (List.getElem?_eq_getElem bA)⟩
theorem jS {v:Value} (h:DataW.trod enc Tryz.prog w base spare held fuel 3 [v]=some x):∃n:Int,v= .int .i64 n:=by
 obtain⟨n,e,_,_⟩:=DataW.trod_int Tryz.underlying3 h;simp at e;exact⟨n,e⟩
theorem KI {v:Value} (h:DataW.trod enc Tryz.prog w base spare held fuel 9 [v]=some x):∃s:ByteArray,v= .string s:=by
 obtain⟨n,e,_,_⟩:=DataW.trod_string Tryz.underlying9 h;simp at e;exact⟨n,e⟩
theorem Yj {v:Value} (h:DataW.trod enc Tryz.prog w base spare held fuel 33 [v]=some x):∃s:Sv,v=s.v∧ ∃l,sM w s.v l:=by
 rcases zu Tryz.underlying33 Tryz.underlying65 (by kernel_rfl) (by kernel_rfl) h with kE | ⟨b,l,c,kE,hl,hm,hi⟩
 ·simp at kE
  exact⟨⟨none,0,0⟩,kE,[],dI.nil _ _ _⟩
 ·simp at kE
  refine⟨⟨some b,l,c⟩,kE,?_⟩
  obtain⟨zs,hz,_⟩:=rO (α:=Wn) (w:=w) (a:=b) (len:=l) (cap:=c) Ee (by omega) hl hm (Q:=fun _=>True) (fun i nJ=>by
   obtain⟨n,hf⟩:=hi i nJ;obtain⟨v0,y0,k0,t0⟩:=hf 0 _ rfl;obtain⟨v1,y1,k1,t1⟩:=hf 1 _ rfl;obtain⟨v2,y2,k2,t2⟩:=hf 2 _ rfl;obtain⟨v3,y3,k3,t3⟩:=hf 3 _ rfl;obtain⟨s,rfl⟩:=KI t0;obtain⟨n1,rfl⟩:=jS t1;obtain⟨n2,rfl⟩:=jS t2;obtain⟨n3,rfl⟩:=jS t3;refine⟨⟨s,n1,n2,n3⟩,trivial,fun j u hu=>?_⟩
   match j,hu with
   | 0,hu=>cases hu;exact k0
   | 1,hu=>cases hu;exact k1
   | 2,hu=>cases hu;exact k2
   | 3,hu=>cases hu;exact k3
   | j+4,hu=>cases hu)
  exact⟨zs,hz⟩
theorem Yk {v:Value} (h:DataW.trod enc Tryz.prog w base spare held fuel 36 [v]=some x):∃s:Sv,v=s.v∧ ∃l,J4 w s.v l:=by
 rcases zu Tryz.underlying36 Tryz.underlying35 (by kernel_rfl) (by kernel_rfl) h with kE | ⟨b,l,c,kE,hl,hm,hi⟩
 ·simp at kE
  exact⟨⟨none,0,0⟩,kE,[],dI.nil _ _ _⟩
 ·simp at kE
  refine⟨⟨some b,l,c⟩,kE,?_⟩
  obtain⟨zs,hz,_⟩:=rO (α:=Dt) (w:=w) (a:=b) (len:=l) (cap:=c) Ad (by omega) hl hm (Q:=fun _=>True) (fun i nJ=>by
   obtain⟨n,hf⟩:=hi i nJ;obtain⟨v0,y0,k0,t0⟩:=hf 0 _ rfl;obtain⟨v1,y1,k1,t1⟩:=hf 1 _ rfl;obtain⟨v2,y2,k2,t2⟩:=hf 2 _ rfl;obtain⟨n0,rfl⟩:=jS t0;obtain⟨n1,rfl⟩:=jS t1;obtain⟨n2,rfl⟩:=jS t2;refine⟨⟨n0,n1,n2⟩,trivial,fun j u hu=>?_⟩
   match j,hu with
   | 0,hu=>cases hu;exact k0
   | 1,hu=>cases hu;exact k1
   | 2,hu=>cases hu;exact k2
   | j+3,hu=>cases hu)
  exact⟨zs,hz⟩
theorem abV {cs:List Value} (h:DataW.trod enc Tryz.prog w base spare held fuel 38 cs=some x):∃o:uq,cs=cOp o∧ ∃ds,J4 w o.dots.v ds:=by
 obtain⟨hl,n,hf⟩:=vP Tryz.underlying38 h;rw[show Tryz.prog.cellsOf 38 =11 by kernel_rfl]at hl;obtain⟨y0,t0⟩:=RX hf 0 0 3 35 rfl rfl rfl (by kernel_rfl);rw[List.drop_zero]at t0;obtain⟨En,n0,hf0⟩:=vP Tryz.underlying35 t0;obtain⟨_,d0⟩:=kQ hf0 0 0 rfl rfl (by kernel_rfl) (by rw[List.length_take];omega);obtain⟨_,d1⟩:=kQ hf0 1 1 rfl rfl (by kernel_rfl) (by rw[List.length_take];omega);obtain⟨_,d2⟩:=kQ hf0 2 2 rfl rfl (by kernel_rfl) (by rw[List.length_take];omega);simp only[List.getElem_take]at d0 d1 d2;obtain⟨a0,e0⟩:=jS d0;obtain⟨a1,e1⟩:=jS d1;obtain⟨a2,e2⟩:=jS d2;obtain⟨_,d3⟩:=kQ hf 1 3 rfl rfl (by kernel_rfl) (by omega);obtain⟨_,d4⟩:=kQ hf 2 4 rfl rfl (by kernel_rfl) (by omega);obtain⟨_,d5⟩:=kQ hf 3 5 rfl rfl (by kernel_rfl) (by omega);obtain⟨_,d6⟩:=kQ hf 4 6 rfl rfl (by kernel_rfl) (by omega);obtain⟨_,d7⟩:=kQ hf 5 7 rfl rfl (by kernel_rfl) (by omega);obtain⟨_,d8⟩:=kQ hf 6 8 rfl rfl (by kernel_rfl) (by omega);obtain⟨_,d9⟩:=kQ hf 7 9 rfl rfl (by kernel_rfl) (by omega);obtain⟨_,d10⟩:=kQ hf 8 10 rfl rfl (by kernel_rfl) (by omega);obtain⟨a3,e3⟩:=jS d3;obtain⟨a4,e4⟩:=jS d4;obtain⟨a5,e5⟩:=jS d5;obtain⟨a6,e6⟩:=KI d6;obtain⟨a7,e7⟩:=KI d7;obtain⟨a8,e8⟩:=jS d8;obtain⟨a9,e9⟩:=jS d9;obtain⟨s,e10,ds,hds⟩:=Yk d10;refine⟨⟨a0,a1,a2,a3,a4,a5,a6,a7,a8,a9,s⟩,?_,ds,hds⟩
 obtain⟨c0,c1,c2,c3,c4,c5,c6,c7,c8,c9,xq,rfl⟩:∃c0 c1 c2 c3 c4 c5 c6 c7 c8 c9 xq,cs= [c0,c1,c2,c3,c4,c5,c6,c7,c8,c9,xq]:=by
  match cs,hl with
  | [c0,c1,c2,c3,c4,c5,c6,c7,c8,c9,xq],_=>exact⟨_,_,_,_,_,_,_,_,_,_,_,rfl⟩
 simp only[List.getElem_cons_zero,List.getElem_cons_succ]at e0 e1 e2 e3 e4 e5 e6 e7 e8 e9 e10;subst e0 e1 e2 e3 e4 e5 e6 e7 e8 e9 e10;rfl
theorem Yl {cs:List Value} (h:DataW.trod enc Tryz.prog w base spare held fuel 40 cs=some x):∃o:uz,cs=Xi o∧AcI w o:=by
 obtain⟨hl,n,hf⟩:=vP Tryz.underlying40 h;rw[show Tryz.prog.cellsOf 40 =15 by kernel_rfl]at hl;obtain⟨_,d0⟩:=kQ hf 0 0 rfl rfl (by kernel_rfl) (by omega);obtain⟨_,d1⟩:=kQ hf 1 1 rfl rfl (by kernel_rfl) (by omega);obtain⟨_,d2⟩:=kQ hf 2 2 rfl rfl (by kernel_rfl) (by omega);obtain⟨_,d3⟩:=kQ hf 3 3 rfl rfl (by kernel_rfl) (by omega);obtain⟨y4,t4⟩:=RX hf 4 4 11 38 rfl rfl rfl (by kernel_rfl);obtain⟨o,eo,ds,hds⟩:=abV t4;obtain⟨a0,e0⟩:=jS d0;obtain⟨a1,e1⟩:=jS d1;obtain⟨a2,e2⟩:=jS d2;obtain⟨s,e3,ws,Fu⟩:=Yj d3;refine⟨⟨a0,a1,a2,s,o⟩,?_,ws,Fu,ds,hds⟩
 obtain⟨c0,c1,c2,c3,c4,c5,c6,c7,c8,c9,xq,c11,c12,c13,c14,rfl⟩:∃c0 c1 c2 c3 c4 c5 c6 c7 c8 c9 xq c11 c12 c13 c14,cs= [c0,c1,c2,c3,c4,c5,c6,c7,c8,c9,xq,c11,c12,c13,c14]:=by
  match cs,hl with
  | [c0,c1,c2,c3,c4,c5,c6,c7,c8,c9,xq,c11,c12,c13,c14],_=>exact⟨_,_,_,_,_,_,_,_,_,_,_,_,_,_,_,rfl⟩
 simp only[List.getElem_cons_zero,List.getElem_cons_succ]at e0 e1 e2 e3;subst e0 e1 e2 e3;have eo':[c4,c5,c6,c7,c8,c9,xq,c11,c12,c13,c14]=cOp o:=eo;unfold Xi;rw[←eo']
theorem Ov {a:Option Addr} {len cap:Nat} (h:DataW.trod enc Tryz.prog w base spare held fuel 22 (Value.slice a len cap).cells.toList=some x):∃l,Oq w (.slice a len cap) l∧ ∀c∈l,AcI w c:=by
 have h':DataW.trod enc Tryz.prog w base spare held fuel 22 [.slice a len cap]=some x:=by simpa[Value.cells]using h
 rcases open_slice Tryz.underlying22 h' with h0 | ⟨b,l,c,m,n,D,Pl,kE,hb,hl,hm,hmm,hx,hi⟩
 ·have kE:=h0.1
  simp at kE;obtain⟨rfl,rfl,rfl⟩:=kE;exact⟨[],dI.nil _ _ _,by simp⟩
 ·simp at kE
  obtain⟨rfl,rfl,rfl⟩:=kE;refine rO Fa (by omega) hl hm (fun i nJ=>?_);have him:i<m:=by rw[hmm];split<;>omega
  obtain⟨cs',hc,ht'⟩:=hi i him;obtain⟨o,rfl,ho⟩:=Yl ht';rw[show Tryz.prog.cellsOf 40 =15 by kernel_rfl]at hc;obtain⟨_,_,iQ⟩:=World.cells?_some hc;refine⟨o,ho,fun j u hu=>?_⟩;have hj:j<15:=by have:=(List.getElem?_eq_some_iff.1 hu).1;rw[Fa]at this;exact this
  have:=iQ j hj;rw[hu]at this;rw[←Go.Deep.add_add];exact this
end
end Go.Proofs.YtlfopoimbbpfdaaGreat
