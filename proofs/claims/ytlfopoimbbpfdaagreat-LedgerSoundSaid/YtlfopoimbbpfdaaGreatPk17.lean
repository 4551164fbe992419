/- What the law asks, in parts: ZE LSf LSg. -/
import Derived.Test.YtlfopoimbbpfdaaGreatPk12
import Derived.Test.YtlfopoimbbpfdaaGreatPk16
import Derived.Test.YtlfopoimbbpfdaaGreatPk8
import Derived.Test.YtlfopoimbbpfdaaGreatPk3
import Derived.Test.YtlfopoimbbpfdaaGreatPk11
set_option linter.all false
set_option maxRecDepth 100000
set_option maxHeartbeats 16000000
namespace Go.Proofs.YtlfopoimbbpfdaaGreat
open Go.RowKit
def G_ (s:Sc) (n:Int):Sc:=if 0<n then⟨s.key,s.up,s.down,s.uu+n,s.ud⟩else⟨s.key,s.up,s.down,s.uu,s.ud-n⟩
def oV (s:Sc) (n:Int):Prop:=(0<n∧s.up-s.uu<n)∨(n<0∧s.down-s.ud< -n)
instance (s:Sc) (n:Int):Decidable (oV s n):=by unfold oV;exact inferInstance
def tX (l:Ls) (key:ByteArray) (n:Int):Ls×Int:=
 if nO l.sl key<0 then(l,14)
 else if oV (l.sl.getD (nO l.sl key).toNat DN) n then(l,14)
 else(⟨l.dev,l.epoch,l.bU,l.last,l.sl.set (nO l.sl key).toNat (G_ (l.sl.getD (nO l.sl key).toNat DN) n),l.ids,l.used⟩,0)
def wV (l:Ls) (n:Int):Ls×Int:=
 if dM l.ids n=false then(l,14)else if l.used.contains n=true then(l,7)
 else(⟨l.dev,l.epoch,l.bU,l.last,l.sl,l.ids,iy l.used n⟩,0)
def eO (l:Ls) (kind:Int) (key:ByteArray) (n:Int):Ls×Int:=
 if kind=4 then tX l key n else if kind=5 then wV l n else(l,0)
theorem Tk {w W:World} {B p:Nat} {l:Ls} {y:cB} {n:Int} {r:Ls×Int} (hr:r=(l,n)) (hw:Below w.heap.size w W) (hy:jF W B y l) (hp:w.heap.size≤p) (Qh:p<B):
  ig w r (.returned (.tuple #[o9 y,.int .i64 n])) (((((((W.setCell ⟨p,0,none⟩ (.int .i64 y.dev)).setCell ⟨p,1,none⟩ (.int .i64 y.epoch)).setCell ⟨p,2,none⟩ (.int .i64 y.bU)).setCell ⟨p,3,none⟩ (.int .i64 y.last)).setCell ⟨p,4,none⟩ y.s.v).setCell ⟨p,5,none⟩ y.i.v).setCell ⟨p,6,none⟩ y.u.v):=by
 subst hr;have g2:=(((((((hy.put ⟨p,0,none⟩ Qh (.int .i64 y.dev)).put ⟨p,1,none⟩ Qh (.int .i64 y.epoch)).put ⟨p,2,none⟩ Qh (.int .i64 y.bU)).put ⟨p,3,none⟩ Qh (.int .i64 y.last)).put ⟨p,4,none⟩ Qh y.s.v).put ⟨p,5,none⟩ Qh y.i.v).put ⟨p,6,none⟩ Qh y.u.v);exact⟨y,rfl,g2.base (by omega),((((((hw.setCell hp _).setCell hp _).setCell hp _).setCell hp _).setCell hp _).setCell hp _).setCell hp _⟩
theorem He {w:World} {b:Nat} {a0 a1 a2 a3 a4 a5 a6:Value} {t:TypeId} (h:w.heap[b]? =some (.cells #[a0,a1,a2,a3,a4,a5,a6] t (0,0))) (x0 x1 x2 x3 x4 x5 x6:Value):
  (((((((w.setCell ⟨b,0,none⟩ x0).setCell ⟨b,1,none⟩ x1).setCell ⟨b,2,none⟩ x2).setCell ⟨b,3,none⟩ x3).setCell ⟨b,4,none⟩ x4).setCell ⟨b,5,none⟩ x5).setCell ⟨b,6,none⟩ x6).heap[b]? =some (.cells #[x0,x1,x2,x3,x4,x5,x6] t (0,0)):=by
 simp[World.setCell,Array.getElem?_modify,h]
theorem kC (w:World) (b c:Nat) (h:c≠b) (x0 x1 x2 x3 x4 x5 x6:Value):
  (((((((w.setCell ⟨b,0,none⟩ x0).setCell ⟨b,1,none⟩ x1).setCell ⟨b,2,none⟩ x2).setCell ⟨b,3,none⟩ x3).setCell ⟨b,4,none⟩ x4).setCell ⟨b,5,none⟩ x5).setCell ⟨b,6,none⟩ x6).heap[c]? =w.heap[c]? :=by
 have h':¬b=c:=fun e=>h e.symm
 simp[World.setCell,Array.getElem?_modify,h']
theorem ET (l:List Sc) (k:Nat) (hk:k<l.length) (u:Int):
  (aJ jL l).set (k*5+3) (.int .i64 u)=aJ jL (l.set k ⟨l[k].key,l[k].up,l[k].down,u,l[k].ud⟩):=by
 induction l generalizing k with
 | nil=>simp at hk
 | cons x l ih=>
  cases k with
  | zero=>simp[aY,jL]
  | succ k=>
   have e:∀j,(k+1)*5+j=k*5+j+5:=fun j=>by omega
   rw[List.set_cons_succ,aY,aY,List.getElem_cons_succ,←ih k (by simpa using hk)];simp only[e];simp[jL]
theorem EU (l:List Sc) (k:Nat) (hk:k<l.length) (u:Int):
  (aJ jL l).set (k*5+4) (.int .i64 u)=aJ jL (l.set k ⟨l[k].key,l[k].up,l[k].down,l[k].uu,u⟩):=by
 induction l generalizing k with
 | nil=>simp at hk
 | cons x l ih=>
  cases k with
  | zero=>simp[aY,jL]
  | succ k=>
   have e:∀j,(k+1)*5+j=k*5+j+5:=fun j=>by omega
   rw[List.set_cons_succ,aY,aY,List.getElem_cons_succ,←ih k (by simpa using hk)];simp only[e];simp[jL]
theorem jF.Qi {w:World} {B g n cap:Nat} {y:cB} {l:Ls} (h:jF w B y l) (hy:y.s=⟨some ⟨g,0,none⟩,n,cap⟩) (j:Nat) (hj:j<l.sl.length*5) (u:Value) {sl':List Sc} (hs:(aJ jL l.sl).set j u=aJ jL sl') (hl:sl'.length=l.sl.length):
  jF (w.setCell ⟨g,j,none⟩ u) B y ⟨l.dev,l.epoch,l.bU,l.last,sl',l.ids,l.used⟩:=by
 have aK:∀c,c≠g→(w.setCell ⟨g,j,none⟩ u).heap[c]? =w.heap[c]? :=fun c hc=>aX _ _ _ (fun e=>hc e.symm) _
 have eu:=h.s;rw[hy]at eu;simp only[Sv.v]at eu
 have hn:n=l.sl.length:=by
  obtain⟨_,_,he,_,_⟩:=aO eu;injection he with _ he _
 subst hn;obtain⟨cur,hg⟩:=eB eu;have iW:=dV eu j (by rw[bP gQ];exact hj) u;rw[hs]at iW;refine⟨h.dev,h.epoch,h.bU,h.last,?_,aF h.i aK hg (by decide),aF h.u aK hg (by decide)⟩;rw[hy];show World.ownsRow _ _ _ _ _ sl'.length _;rw[hl];exact iW
theorem JH (x:cB) (l:Ls) (o:uq) (w:World) (h:nV w x l) (hB:UA l o.kind o.n):
  Calls Tryz.prog 33 #[o9 x,YG o] w (ig w (eO l o.kind o.key o.n)):=by
 obtain⟨x1,x2,x3,x4,⟨x5,x6,x7⟩,⟨x8,x9,wh⟩,⟨wm,wz,wC⟩⟩:=x;obtain⟨o1,o2,o3,o4,o5,kind,key,text,n,time,⟨oa,on,oc⟩⟩:=o;simp only;obtain⟨W1,z_,k0,k1,k2,bB,dX⟩:=yA w (.cells #[.int .i64 x1,.int .i64 x2,.int .i64 x3,.int .i64 x4,.slice x5 x6 x7,.slice x8 x9 wh,.slice wm wz wC] 48) (.cells #[.int .i64 o1,.int .i64 o2,.int .i64 o3,.int .i64 o4,.int .i64 o5,.int .i64 kind,.string key,.string text,.int .i64 n,.int .i64 time,.slice oa on oc] 38) (.cells #[.int .i64 0,.int .i64 0,.int .i64 0,.int .i64 0,.slice none 0 0,.slice none 0 0,.slice none 0 0] 48);have HW1:=ah z_;have FE:=ah dX;have K0:=ah k0;have K1:=ah k1;have K2:=ah k2;have HM:=ah (h.keep bB (aC _));have eY:=ah bB;have HB:=ah hB;have uj:Hid (Ap l):=ah ⟨hB.s,hB.i,by have:=hB.u;omega⟩;clear z_ dX k0 k1 k2 bB h hB;change Calls Tryz.prog _ #[.agg #[.int .i64 x1,.int .i64 x2,.int .i64 x3,.int .i64 x4,.slice x5 x6 x7,.slice x8 x9 wh,.slice wm wz wC],.agg #[.int .i64 o1,.int .i64 o2,.int .i64 o3,.int .i64 o4,.int .i64 o5,.int .i64 kind,.string key,.string text,.int .i64 n,.int .i64 time,.slice oa on oc]] w _
 go_enter Tryz.func33,Tryz.ntmps33
 go_upto_region 1 with fail
 rw[HW1.out];obtain⟨d0,d1,d2,d3,d4,d5,d6,_⟩:=aB K0.out;go_wp2_with fail
 refine(qY ⟨x1,x2,x3,x4,⟨x5,x6,x7⟩,⟨x8,x9,wh⟩,⟨wm,wz,wC⟩⟩ l _ HM.out uj.out).mono ?_;rintro e U0 ⟨⟨y1,y2,y3,y4,⟨y5,y6,y7⟩,⟨y8,y9,dz⟩,⟨dA,dJ,cK⟩⟩,rfl,hy,sj⟩;clear d0 d1 d2 d3 d4 d5 d6;have dX:=FE.out;have nH:=aj K0.out sj (by omega);have hp0:w.heap.size<W1.heap.size:=by omega
 obtain⟨d0,d1,d2,d3,d4,d5,d6,_⟩:=aB nH;have f0:=ak nH 0;have f1:=ak nH 1;have f2:=ak nH 2;have f3:=ak nH 3;have f4:=ak nH 4;have f5:=ak nH 5;have f6:=ak nH 6;have HY:=ah (((((((hy.put ⟨w.heap.size,0,none⟩ hp0 (.int .i64 y1)).put ⟨w.heap.size,1,none⟩ hp0 (.int .i64 y2)).put ⟨w.heap.size,2,none⟩ hp0 (.int .i64 y3)).put ⟨w.heap.size,3,none⟩ hp0 (.int .i64 y4)).put ⟨w.heap.size,4,none⟩ hp0 (.slice y5 y6 y7)).put ⟨w.heap.size,5,none⟩ hp0 (.slice y8 y9 dz)).put ⟨w.heap.size,6,none⟩ hp0 (.slice dA dJ cK));have uK:=ah (He nH (.int .i64 y1) (.int .i64 y2) (.int .i64 y3) (.int .i64 y4) (.slice y5 y6 y7) (.slice y8 y9 dz) (.slice dA dJ cK));have fJ:=ah ((kC U0 w.heap.size (w.heap.size+1) (by omega) (.int .i64 y1) (.int .i64 y2) (.int .i64 y3) (.int .i64 y4) (.slice y5 y6 y7) (.slice y8 y9 dz) (.slice dA dJ cK)).trans (aj K1.out sj (by omega)));have eT:=ah ((kC U0 w.heap.size (w.heap.size+2) (by omega) (.int .i64 y1) (.int .i64 y2) (.int .i64 y3) (.int .i64 y4) (.slice y5 y6 y7) (.slice y8 y9 dz) (.slice dA dJ cK)).trans (aj K2.out sj (by omega)));have jw:=eY.out.trans (sj.mono eY.out.size);have jI:=ah (((((((jw.setCell (p:=⟨w.heap.size,0,none⟩) (aC _) (.int .i64 y1)).setCell (p:=⟨w.heap.size,1,none⟩) (aC _) (.int .i64 y2)).setCell (p:=⟨w.heap.size,2,none⟩) (aC _) (.int .i64 y3)).setCell (p:=⟨w.heap.size,3,none⟩) (aC _) (.int .i64 y4)).setCell (p:=⟨w.heap.size,4,none⟩) (aC _) (.slice y5 y6 y7)).setCell (p:=⟨w.heap.size,5,none⟩) (aC _) (.slice y8 y9 dz)).setCell (p:=⟨w.heap.size,6,none⟩) (aC _) (.slice dA dJ cK));clear nH hy sj jw K0 K1 K2 eY HM HW1;go_upto_region 2 with fail
 generalize (((((((U0.setCell ⟨w.heap.size,0,none⟩ (.int .i64 y1)).setCell ⟨w.heap.size,1,none⟩ (.int .i64 y2)).setCell ⟨w.heap.size,2,none⟩ (.int .i64 y3)).setCell ⟨w.heap.size,3,none⟩ (.int .i64 y4)).setCell ⟨w.heap.size,4,none⟩ (.slice y5 y6 y7)).setCell ⟨w.heap.size,5,none⟩ (.slice y8 y9 dz)).setCell ⟨w.heap.size,6,none⟩ (.slice dA dJ cK))=W2 at*;clear d0 d1 d2 d3 d4 d5 d6 f0 f1 f2 f3 f4 f5 f6 dX;have hp4:w.heap.size+2<W1.heap.size:=by have:=FE.out;omega
 have Bb:Hid (∀ (V:World) (l':Ls) (e:Int) (u5 u8 u11:Option Addr) (u6 u7 u9 u10 u12 u13:Nat),eO l kind key n=(l',e)→Below w.heap.size w V→jF V W1.heap.size ⟨y1,y2,y3,y4,⟨u5,u6,u7⟩,⟨u8,u9,u10⟩,⟨u11,u12,u13⟩⟩ l'→
   ig w (eO l kind key n) (.returned (.tuple #[.agg #[.int .i64 y1,.int .i64 y2,.int .i64 y3,.int .i64 y4,.slice u5 u6 u7,.slice u8 u9 u10,.slice u11 u12 u13],.int .i64 e])) (((((((V.setCell ⟨w.heap.size+2,0,none⟩ (.int .i64 y1)).setCell ⟨w.heap.size+2,1,none⟩ (.int .i64 y2)).setCell ⟨w.heap.size+2,2,none⟩ (.int .i64 y3)).setCell ⟨w.heap.size+2,3,none⟩ (.int .i64 y4)).setCell ⟨w.heap.size+2,4,none⟩ (.slice u5 u6 u7)).setCell ⟨w.heap.size+2,5,none⟩ (.slice u8 u9 u10)).setCell ⟨w.heap.size+2,6,none⟩ (.slice u11 u12 u13))):=
  ah (fun V l' e u5 u8 u11 u6 u7 u9 u10 u12 u13 hr hV hl=>Tk (y:=⟨y1,y2,y3,y4,⟨u5,u6,u7⟩,⟨u8,u9,u10⟩,⟨u11,u12,u13⟩⟩) hr hV hl (by omega) hp4)
 have gL:=fJ.out;have e5:W2.cell? ⟨w.heap.size+1,5,none⟩=some (.int .i64 kind):=by simp[World.cell?,gL]
 have e6:W2.cell? ⟨w.heap.size+1,6,none⟩=some (.string key):=by simp[World.cell?,gL]
 have e8:W2.cell? ⟨w.heap.size+1,8,none⟩=some (.int .i64 n):=by simp[World.cell?,gL]
 clear gL;obtain⟨d0,d1,d2,d3,d4,d5,d6,_⟩:=aB uK.out;by_cases hkd:kind=4
 ·subst hkd
  obtain⟨Gh,uw⟩:=HB.out.n rfl;obtain⟨q6,q7,q8⟩:=Sl.lens (s:=⟨y5,y6,y7⟩) (aG HY.out.s);simp only at q6 q7 q8;subst q6;have Ed:=HB.out.s;go_upto_region 4 with fail
  go_wp2
  go_loopw[6] (fun v6 wr=>∃k:Nat,k≤l.sl.length∧v6= .int .i64 k∧Hid (∀j (hj:j<l.sl.length),j<k→decide (l.sl[j].key=key)=false)∧Below W2.heap.size W2 wr) (fun v6 _=>l.sl.length-(intOf v6).toNat)
  case atStart=>exact⟨0,Nat.zero_le _,rfl,ah (fun j _ hj=>by omega),aL _ _⟩
  case round=>
   obtain⟨k,hk,rfl,HJ,hb⟩:=hrel;have ZV:=ah (HY.out.keep hb (aC _));have IC:=ah (aj uK.out hb (bq uK.out).1);have vQ:=aj fJ.out hb (bq fJ.out).1;have xP:=ah (aj eT.out hb (bq eT.out).1);have CO:=ah (jI.out.trans (hb.mono jI.out.size));have Cb:=ah hb;clear d0 d1 d2 d3 d4 d5 d6 e5 e6 e8;have e5:wr.cell? ⟨w.heap.size+1,5,none⟩=some (.int .i64 4):=by simp[World.cell?,vQ]
   have e6:wr.cell? ⟨w.heap.size+1,4,none⟩=some (.int .i64 o5):=by simp[World.cell?,vQ]
   clear e6;have e6:wr.cell? ⟨w.heap.size+1,6,none⟩=some (.string key):=by simp[World.cell?,vQ]
   have e8:wr.cell? ⟨w.heap.size+1,8,none⟩=some (.int .i64 n):=by simp[World.cell?,vQ]
   clear vQ hb;obtain⟨d0,d1,d2,d3,d4,d5,d6,_⟩:=aB IC.out;by_cases bA:k<l.sl.length
   ·have jK:(k:Int)<l.sl.length:=by omega
    obtain⟨sb,cap,hys⟩:=fT ZV.out.s (by omega);injection hys with Wo Wp Ws;subst Wo Ws;have eu:=ZV.out.s;simp only[Sv.v]at eu;obtain⟨p1,p2,p3,p4,p5,p6,p7⟩:=bg eu;have iQ:∀j u,j<5→(jL l.sl[k])[j]? =some u→wr.cell? ⟨sb,k*5+j,none⟩=some u:=fun j u hj hu=>p7 _ _ (by rw[bV gQ _ k bA j hj];exact hu)
    have s0:=iQ 0 _ (by omega) rfl;have s1:=iQ 1 _ (by omega) rfl;have s2:=iQ 2 _ (by omega) rfl;have s3:=iQ 3 _ (by omega) rfl;have s4:=iQ 4 _ (by omega) rfl;simp only[Nat.add_zero]at s0;have fr3:=p6 (k*5+3);have fr4:=p6 (k*5+4);have HE:=ah (key_eq l.sl[k].key key);obtain⟨b1,b2,b3,b4⟩:=HB.out.sc l.sl[k] (List.getElem_mem bA);clear eu p1 p2 p3 p4 p5 p6 p7 iQ Wp;by_cases hq:l.sl[k].key=key
    ·have Qj:Hid (nO l.sl key=k):=ah (kG (p:=fun c:Sc=>decide (c.key=key)) (l:=l.sl) k bA (fun j hj=>HJ.out j (by omega) hj) (by simpa using hq))
     rw[hq]at s0;have HKQ:=ah hq;clear hq HJ HE;have OB:Hid (∃su sd jD mh,l.sl[k].up=su∧l.sl[k].down=sd∧l.sl[k].uu=jD∧l.sl[k].ud=mh):=ah ⟨_,_,_,_,rfl,rfl,rfl,rfl⟩;obtain⟨su,sd,jD,mh,h1,h2,h3,h4⟩:=OB.out;rw[h1]at s1 b1;rw[h2]at s2 b2;rw[h3]at s3 b3;rw[h4]at s4 b4;have ZW:=ah (And.intro h1 (And.intro h2 (And.intro h3 h4)));have OC:Hid (oV l.sl[k] n↔oV ⟨key,su,sd,jD,mh⟩ n):=ah (by unfold oV;rw[h1,h2,h3,h4]);obtain⟨FC,FD⟩:=b1;obtain⟨b21,b22⟩:=b2;obtain⟨b31,b32⟩:=b3;obtain⟨b41,b42⟩:=b4;clear OB h1 h2 h3 h4;have i1:IntKind.i64.wrap (su-jD)=su-jD:=IntWalk.i64_in _ (by omega);have i2:IntKind.i64.wrap (sd-mh)=sd-mh:=IntWalk.i64_in _ (by omega);have i3:IntKind.i64.wrap (0-n)=0-n:=IntWalk.i64_in _ (by omega);have i4:IntKind.i64.wrap (-n)= -n:=IntWalk.i64_in _ (by omega);go_upto_region 8 with fail
     go_quiet (fail)
     go_upto_region 9 with fail
     go_cut[68] (fun v68 wx=>v68= .bool (decide (oV ⟨key,su,sd,jD,mh⟩ n))∧Below wr.heap.size wr wx)
     case first=>
      rcases Int.lt_trichotomy n 0 with hn | hn | hn
      ·have hn0:¬0<n:=by omega
       by_cases hc:sd-mh< -n
       ·have hd:Hid (decide (oV ⟨key,su,sd,jD,mh⟩ n)=true):=ah (by rw[decide_eq_true_iff];exact .inr ⟨hn,hc⟩)
        have je:sd-mh<0-n:=by omega
        go_quiet (fail)
        go_wp2;go_meet;exact⟨by rw[hd.out],below_drewN (aL _ _) _⟩
       ·have hd:Hid (decide (oV ⟨key,su,sd,jD,mh⟩ n)=false):=ah (by rw[decide_eq_false_iff_not];unfold oV;simp only;omega)
        have je:¬sd-mh<0-n:=by omega
        go_quiet (fail)
        go_wp2;go_meet;exact⟨by rw[hd.out],below_drewN (aL _ _) _⟩
      ·have hd:Hid (decide (oV ⟨key,su,sd,jD,mh⟩ n)=false):=ah (by rw[decide_eq_false_iff_not];unfold oV;simp only;omega)
       subst hn;go_quiet (fail)
       go_wp2;go_meet;exact⟨by rw[hd.out],by first | exact below_drewN (aL _ _) _ | exact below_drewN (below_drewN (aL _ _) _) _⟩
      ·have hn0:¬n<0:=by omega
       by_cases hc:su-jD<n
       ·have hd:Hid (decide (oV ⟨key,su,sd,jD,mh⟩ n)=true):=ah (by rw[decide_eq_true_iff];exact .inl ⟨hn,hc⟩)
        go_quiet (fail)
        go_wp2;go_meet;exact⟨by rw[hd.out],below_drewN (aL _ _) _⟩
       ·have hd:Hid (decide (oV ⟨key,su,sd,jD,mh⟩ n)=false):=ah (by rw[decide_eq_false_iff_not];unfold oV;simp only;omega)
        go_quiet (fail)
        go_wp2;go_meet;exact⟨by rw[hd.out],below_drewN (aL _ _) _⟩
     case rest=>
     obtain⟨rfl,bR⟩:=hcut;obtain⟨W4,UH⟩:∃W4,W4=wc:=⟨_,rfl⟩;subst UH;have UJ:=ah (ZV.out.keep bR (aC _));have Tm:=ah (aj IC.out bR (bq IC.out).1);have CP:=ah (aj xP.out bR (bq xP.out).1);have lC:=ah (CO.out.trans (bR.mono CO.out.size));have Tn:=aj fJ.out (Cb.out.trans (bR.mono Cb.out.size)) (bq fJ.out).1;have eu:=UJ.out.s;simp only[Sv.v]at eu;obtain⟨p1,p2,p3,p4,p5,p6,p7⟩:=bg eu;have iQ:∀j u,j<5→(jL l.sl[k])[j]? =some u→W4.cell? ⟨sb,k*5+j,none⟩=some u:=fun j u hj hu=>p7 _ _ (by rw[bV gQ _ k bA j hj];exact hu)
     clear d0 d1 d2 d3 d4 d5 d6 s0 s1 s2 s3 s4 fr3 fr4 e5 e6 e8 i1 i2 i3 i4;have s0:=iQ 0 _ (by omega) rfl;have s1:=iQ 1 _ (by omega) rfl;have s2:=iQ 2 _ (by omega) rfl;have s3:=iQ 3 _ (by omega) rfl;have s4:=iQ 4 _ (by omega) rfl;have wS:=ZW.out;rw[wS.1]at s1;rw[wS.2.1]at s2;rw[wS.2.2.1]at s3;rw[wS.2.2.2]at s4;have fr3:=p6 (k*5+3);have fr4:=p6 (k*5+4);have e5:W4.cell? ⟨w.heap.size+1,5,none⟩=some (.int .i64 4):=by simp[World.cell?,Tn]
     have e6:W4.cell? ⟨w.heap.size+1,6,none⟩=some (.string key):=by simp[World.cell?,Tn]
     have e8:W4.cell? ⟨w.heap.size+1,8,none⟩=some (.int .i64 n):=by simp[World.cell?,Tn]
     obtain⟨d0,d1,d2,d3,d4,d5,d6,_⟩:=aB Tm.out;have Lv:=ah wS;clear wS eu p1 p2 p3 p4 p5 p6 p7 iQ Tn bR ZW ZV IC xP CO Cb;by_cases Nk:oV ⟨key,su,sd,jD,mh⟩ n
     ·have hdf:decide (oV ⟨key,su,sd,jD,mh⟩ n)=true:=by simpa using Nk
      rw[hdf]
      have hr:Hid (eO l 4 key n=(l,14)):=ah (by
       unfold eO tX
       rw[if_pos rfl,Qj.out,if_neg (by omega),if_pos (by simp only[Int.toNat_natCast,List.getD,List.getElem?_eq_getElem bA,Option.getD_some];exact OC.out.2 Nk)])
      clear d0 d1 d2 d3 d4 d5 d6 Nk hdf;obtain⟨d0,d1,d2,d3,d4,d5,d6,_⟩:=aB Tm.out;obtain⟨g0,g1,g2,g3,g4,g5,g6,_⟩:=aB CP.out;have f0:=ak CP.out 0;have f1:=ak CP.out 1;have f2:=ak CP.out 2;have f3:=ak CP.out 3;have f4:=ak CP.out 4;have f5:=ak CP.out 5;have f6:=ak CP.out 6;go_wp2;refine bodyPost_ret (v:=.tuple #[.agg #[.int .i64 y1,.int .i64 y2,.int .i64 y3,.int .i64 y4,.slice (some ⟨sb,0,none⟩) l.sl.length y7,.slice y8 y9 dz,.slice dA dJ cK],.int .i64 14]) (by simp[results,Tryz.results33,go_sem, *]) rfl (show ig _ _ _ _ from Bb.out _ _ _ _ _ _ _ _ _ _ _ _ hr.out lC.out UJ.out)
     ·have hdf:decide (oV ⟨key,su,sd,jD,mh⟩ n)=false:=by simpa using Nk
      rw[hdf];have ZX:Hid (¬oV l.sl[k] n):=ah (fun h=>Nk (OC.out.1 h));clear OC Nk hdf;have OC:=ah ZX.out;clear ZX;by_cases hn:0<n
      ·have wS:=Lv.out
       have hru:Hid (eO l 4 key n=(⟨l.dev,l.epoch,l.bU,l.last,l.sl.set k ⟨l.sl[k].key,su,sd,jD+n,mh⟩,l.ids,l.used⟩,0)):=ah (by
        unfold eO tX;rw[if_pos rfl,Qj.out,if_neg (by omega),if_neg (by simp only[Int.toNat_natCast,List.getD,List.getElem?_eq_getElem bA,Option.getD_some];exact OC.out)];simp only[Int.toNat_natCast,List.getD,List.getElem?_eq_getElem bA,Option.getD_some];unfold G_
        rw[if_pos hn,wS.1,wS.2.1,wS.2.2.1,wS.2.2.2])
       have ZY:=UJ.out.keep (aL W4.heap.size W4).drew (aC _);have WJ:=ah (ZY.Qi (g:=sb) (n:=l.sl.length) (cap:=y7) rfl (k*5+3) (by omega) (.int .i64 (jD+n)) (ET l.sl k bA (jD+n)) (by simp));have hrw:=UJ.out.s;simp only[Sv.v]at hrw;obtain⟨cur,rD⟩:=eB hrw;have aK:∀c,c≠sb→(W4.drew.setCell ⟨sb,k*5+3,none⟩ (.int .i64 (jD+n))).heap[c]? =W4.heap[c]? :=fun c hc=>aX W4.drew _ _ (fun e=>hc e.symm) _
       have YL:=ah (oG Tm.out aK rD (by decide));have qO:=ah (oG CP.out aK rD (by decide));have gX:w.heap.size≤sb:=by have h1:=(UJ.out.s.lt sb rfl).1;have h2:=FE.out;omega
       have Z0:=ah ((lC.out.drew).setCell (p:=⟨sb,k*5+3,none⟩) gX (.int .i64 (jD+n)));have iw:IntKind.i64.wrap (jD+n)=jD+n:=IntWalk.i64_in _ (by omega);have Lx:=WJ;rw[wS.1,wS.2.1,wS.2.2.2]at Lx;clear ZY hrw rD aK gX WJ wS Lv;go_upto_region 12 with fail
       go_still_tail 10,(by kernel_rfl)
       change wpList _ _ _ _ _ W4.drew;go_upto_region 14 with fail
       rw[show (W4.setCell ⟨sb,k*5+3,none⟩ (.int .i64 (jD+n))).drew=(W4.drew.setCell ⟨sb,k*5+3,none⟩ (.int .i64 (jD+n)))from rfl];generalize (W4.drew.setCell ⟨sb,k*5+3,none⟩ (.int .i64 (jD+n)))=W5 at*;clear iw d0 d1 d2 d3 d4 d5 d6 s0 s1 s2 s3 s4 fr3 fr4 e5 e6 e8;obtain⟨d0,d1,d2,d3,d4,d5,d6,_⟩:=aB YL.out;obtain⟨g0,g1,g2,g3,g4,g5,g6,_⟩:=aB qO.out;have f0:=ak qO.out 0;have f1:=ak qO.out 1;have f2:=ak qO.out 2;have f3:=ak qO.out 3;have f4:=ak qO.out 4;have f5:=ak qO.out 5;have f6:=ak qO.out 6;go_wp2;refine bodyPost_ret (v:=.tuple #[.agg #[.int .i64 y1,.int .i64 y2,.int .i64 y3,.int .i64 y4,.slice (some ⟨sb,0,none⟩) l.sl.length y7,.slice y8 y9 dz,.slice dA dJ cK],.int .i64 0]) (by simp[results,Tryz.results33,go_sem, *]) rfl (show ig _ _ _ _ from Bb.out _ _ _ _ _ _ _ _ _ _ _ _ hru.out Z0.out Lx.out)
      ·have wS:=Lv.out
       have hru:Hid (eO l 4 key n=(⟨l.dev,l.epoch,l.bU,l.last,l.sl.set k ⟨l.sl[k].key,su,sd,jD,mh-n⟩,l.ids,l.used⟩,0)):=ah (by
        unfold eO tX;rw[if_pos rfl,Qj.out,if_neg (by omega),if_neg (by simp only[Int.toNat_natCast,List.getD,List.getElem?_eq_getElem bA,Option.getD_some];exact OC.out)];simp only[Int.toNat_natCast,List.getD,List.getElem?_eq_getElem bA,Option.getD_some];unfold G_
        rw[if_neg hn,wS.1,wS.2.1,wS.2.2.1,wS.2.2.2])
       have ZY:=UJ.out.keep (aL W4.heap.size W4).drew (aC _);have WJ:=ah (ZY.Qi (g:=sb) (n:=l.sl.length) (cap:=y7) rfl (k*5+4) (by omega) (.int .i64 (mh-n)) (EU l.sl k bA (mh-n)) (by simp));have hrw:=UJ.out.s;simp only[Sv.v]at hrw;obtain⟨cur,rD⟩:=eB hrw;have aK:∀c,c≠sb→(W4.drew.setCell ⟨sb,k*5+4,none⟩ (.int .i64 (mh-n))).heap[c]? =W4.heap[c]? :=fun c hc=>aX W4.drew _ _ (fun e=>hc e.symm) _
       have YL:=ah (oG Tm.out aK rD (by decide));have qO:=ah (oG CP.out aK rD (by decide));have gX:w.heap.size≤sb:=by have h1:=(UJ.out.s.lt sb rfl).1;have h2:=FE.out;omega
       have Z0:=ah ((lC.out.drew).setCell (p:=⟨sb,k*5+4,none⟩) gX (.int .i64 (mh-n)));have iw:IntKind.i64.wrap (mh-n)=mh-n:=IntWalk.i64_in _ (by omega);have Lx:=WJ;rw[wS.1,wS.2.1,wS.2.2.1]at Lx;clear ZY hrw rD aK gX WJ wS Lv;go_upto_region 13 with fail
       go_still_tail 10,(by kernel_rfl)
       change wpList _ _ _ _ _ W4.drew;go_upto_region 14 with fail
       rw[show (W4.setCell ⟨sb,k*5+4,none⟩ (.int .i64 (mh-n))).drew=(W4.drew.setCell ⟨sb,k*5+4,none⟩ (.int .i64 (mh-n)))from rfl];generalize (W4.drew.setCell ⟨sb,k*5+4,none⟩ (.int .i64 (mh-n)))=W5 at*;clear iw d0 d1 d2 d3 d4 d5 d6 s0 s1 s2 s3 s4 fr3 fr4 e5 e6 e8;obtain⟨d0,d1,d2,d3,d4,d5,d6,_⟩:=aB YL.out;obtain⟨g0,g1,g2,g3,g4,g5,g6,_⟩:=aB qO.out;have f0:=ak qO.out 0;have f1:=ak qO.out 1;have f2:=ak qO.out 2;have f3:=ak qO.out 3;have f4:=ak qO.out 4;have f5:=ak qO.out 5;have f6:=ak qO.out 6;go_wp2;refine bodyPost_ret (v:=.tuple #[.agg #[.int .i64 y1,.int .i64 y2,.int .i64 y3,.int .i64 y4,.slice (some ⟨sb,0,none⟩) l.sl.length y7,.slice y8 y9 dz,.slice dA dJ cK],.int .i64 0]) (by simp[results,Tryz.results33,go_sem, *]) rfl (show ig _ _ _ _ from Bb.out _ _ _ _ _ _ _ _ _ _ _ _ hru.out Z0.out Lx.out)
    ·have zU:Hid (∀j (hj:j<l.sl.length),j<k+1→decide (l.sl[j].key=key)=false):=ah (fun j hj Df=>by
      by_cases e:j=k
      ·subst e;simpa using hq
      ·exact HJ.out j hj (by omega))
     have HE2:Hid _:=ah (show decide (l.sl[k].key=key)=false by simpa using hq);rw[HE2.out]at HE;have e1:=HE.out;clear hq HE HE2 HJ;generalize l.sl[k]=s at*;go_wp2_with fail
     go_quiet (fail)
     go_wp2;go_roundw
     case rel=>exact⟨k+1,by omega,by go_num,zU,below_drewN Cb.out _⟩
     case measure=>simp[intOf];omega
   ·have hr:Hid (eO l 4 key n=(l,14)):=ah (by
     have hi:nO l.sl key= -1:=gF (fun x hx=>by obtain⟨j,hj,rfl⟩:=List.getElem_of_mem hx;exact HJ.out j hj (by omega))
     unfold eO tX;rw[if_pos rfl,hi,if_pos (by omega)])
    have jK:¬ (k:Int)<l.sl.length:=by omega
    clear d0 d1 d2 d3 d4 d5 d6;obtain⟨d0,d1,d2,d3,d4,d5,d6,_⟩:=aB IC.out;obtain⟨g0,g1,g2,g3,g4,g5,g6,_⟩:=aB xP.out;have f0:=ak xP.out 0;have f1:=ak xP.out 1;have f2:=ak xP.out 2;have f3:=ak xP.out 3;have f4:=ak xP.out 4;have f5:=ak xP.out 5;have f6:=ak xP.out 6;go_wp2;refine bodyPost_ret (v:=.tuple #[.agg #[.int .i64 y1,.int .i64 y2,.int .i64 y3,.int .i64 y4,.slice y5 l.sl.length y7,.slice y8 y9 dz,.slice dA dJ cK],.int .i64 14]) (by simp[results,Tryz.results33,go_sem, *]) rfl (show ig _ _ _ _ from Bb.out _ _ _ _ _ _ _ _ _ _ _ _ hr.out CO.out ZV.out)
 ·by_cases EP:kind=5
  ·subst EP
   go_wp2_with fail
   refine(sP _ l.ids n _ (aG HY.out.i)).mono ?_;rintro e W3 ⟨rfl,rfl⟩
   cases hq:dM l.ids n with
   | false=>
    have hr:Hid (eO l 5 key n=(l,14)):=ah (by unfold eO wV;rw[if_neg (by omega),if_pos rfl,if_pos hq]);clear d0 d1 d2 d3 d4 d5 d6 hq;obtain⟨d0,d1,d2,d3,d4,d5,d6,_⟩:=aB uK.out;obtain⟨g0,g1,g2,g3,g4,g5,g6,_⟩:=aB eT.out;have f0:=ak eT.out 0;have f1:=ak eT.out 1;have f2:=ak eT.out 2;have f3:=ak eT.out 3;have f4:=ak eT.out 4;have f5:=ak eT.out 5;have f6:=ak eT.out 6;go_wp2;refine bodyPost_ret (v:=.tuple #[.agg #[.int .i64 y1,.int .i64 y2,.int .i64 y3,.int .i64 y4,.slice y5 y6 y7,.slice y8 y9 dz,.slice dA dJ cK],.int .i64 14]) (by simp[results,Tryz.results33,go_sem, *]) rfl (show ig _ _ _ _ from Bb.out _ _ _ _ _ _ _ _ _ _ _ _ hr.out jI.out HY.out)
   | true=>
    have HQ:=ah hq;clear hq;go_wp2_with fail
    refine(Vs _ l.used n _ (aG HY.out.u)).mono ?_;rintro e W4 ⟨rfl,rfl⟩
    cases hq:l.used.contains n with
    | true=>
     have hr:Hid (eO l 5 key n=(l,7)):=ah (by unfold eO wV;rw[if_neg (by omega),if_pos rfl,if_neg (by rw[HQ.out];simp),if_pos hq]);clear d0 d1 d2 d3 d4 d5 d6 hq;obtain⟨d0,d1,d2,d3,d4,d5,d6,_⟩:=aB uK.out;obtain⟨g0,g1,g2,g3,g4,g5,g6,_⟩:=aB eT.out;have f0:=ak eT.out 0;have f1:=ak eT.out 1;have f2:=ak eT.out 2;have f3:=ak eT.out 3;have f4:=ak eT.out 4;have f5:=ak eT.out 5;have f6:=ak eT.out 6;go_wp2;refine bodyPost_ret (v:=.tuple #[.agg #[.int .i64 y1,.int .i64 y2,.int .i64 y3,.int .i64 y4,.slice y5 y6 y7,.slice y8 y9 dz,.slice dA dJ cK],.int .i64 7]) (by simp[results,Tryz.results33,go_sem, *]) rfl (show ig _ _ _ _ from Bb.out _ _ _ _ _ _ _ _ _ _ _ _ hr.out jI.out HY.out)
    | false=>
     have hr:Hid (eO l 5 key n=(⟨l.dev,l.epoch,l.bU,l.last,l.sl,l.ids,iy l.used n⟩,0)):=ah (by unfold eO wV;rw[if_neg (by omega),if_pos rfl,if_neg (by rw[HQ.out];simp),if_neg (by rw[hq];simp)]);clear hq;have hul:=HB.out.u;go_wp2_with fail
     refine(DR _ l.used n _ (aG HY.out.u) (by omega)).mono ?_;rintro e W5 ⟨v',rfl,ho,gD⟩;obtain⟨kJ,cap',rfl,_,_⟩:=aO ho;have nH:=aj uK.out gD (bq uK.out).1;have dH:=aj eT.out gD (bq eT.out).1;have aK:∀c,c≠w.heap.size→(W5.setCell ⟨w.heap.size,6,none⟩ (.slice kJ (iy l.used n).length cap')).heap[c]? =W5.heap[c]? :=fun c hc=>aX _ _ _ (fun e=>hc e.symm) _
     have Gn:=ah (Pk nH (.slice kJ (iy l.used n).length cap'));have nL:=ah ((aK (w.heap.size+2) (by omega)).trans dH);have hyk:=HY.out.keep gD (aC _);have mK:=jI.out.size
     have z_:W1.heap.size≤W4.heap.size:=by
      have h1:=(bq eT.out).1;have h2:=FE.out;omega
     have WJ:Hid (jF (W5.setCell ⟨w.heap.size,6,none⟩ (.slice kJ (iy l.used n).length cap')) W1.heap.size ⟨y1,y2,y3,y4,⟨y5,y6,y7⟩,⟨y8,y9,dz⟩,⟨kJ,(iy l.used n).length,cap'⟩⟩ ⟨l.dev,l.epoch,l.bU,l.last,l.sl,l.ids,iy l.used n⟩):=
      ah ⟨hyk.dev,hyk.epoch,hyk.bU,hyk.last,aF hyk.s aK nH (by decide),aF hyk.i aK nH (by decide),aF (aN ho z_) aK nH (by decide)⟩
     have Z0:=ah ((jI.out.trans (gD.mono jI.out.size)).setCell (p:=⟨w.heap.size,6,none⟩) (aC _) (.slice kJ (iy l.used n).length cap'));clear d0 d1 d2 d3 d4 d5 d6 ho gD aK hyk dH e5 e6 e8;obtain⟨d0,d1,d2,d3,d4,d5,d6,_⟩:=aB nH;have f6:=ak nH 6;clear nH;go_upto_region 22 with fail
     generalize W5.setCell ⟨w.heap.size,6,none⟩ (.slice kJ (iy l.used n).length cap')=W6 at*;clear d0 d1 d2 d3 d4 d5 d6 f6;obtain⟨d0,d1,d2,d3,d4,d5,d6,_⟩:=aB Gn.out;obtain⟨g0,g1,g2,g3,g4,g5,g6,_⟩:=aB nL.out;have f0:=ak nL.out 0;have f1:=ak nL.out 1;have f2:=ak nL.out 2;have f3:=ak nL.out 3;have f4:=ak nL.out 4;have f5:=ak nL.out 5;have f6:=ak nL.out 6;go_wp2;refine bodyPost_ret (v:=.tuple #[.agg #[.int .i64 y1,.int .i64 y2,.int .i64 y3,.int .i64 y4,.slice y5 y6 y7,.slice y8 y9 dz,.slice kJ (iy l.used n).length cap'],.int .i64 0]) (by simp[results,Tryz.results33,go_sem, *]) rfl (show ig _ _ _ _ from Bb.out _ _ _ _ _ _ _ _ _ _ _ _ hr.out Z0.out WJ.out)
  ·have hr:Hid (eO l kind key n=(l,0)):=ah (by unfold eO;rw[if_neg hkd,if_neg EP])
   have q4:(kind==4)=false:=by simpa using hkd
   have q5:(kind==5)=false:=by simpa using EP
   obtain⟨g0,g1,g2,g3,g4,g5,g6,_⟩:=aB eT.out;have f0:=ak eT.out 0;have f1:=ak eT.out 1;have f2:=ak eT.out 2;have f3:=ak eT.out 3;have f4:=ak eT.out 4;have f5:=ak eT.out 5;have f6:=ak eT.out 6;clear hkd EP;go_wp2;refine bodyPost_ret (v:=.tuple #[.agg #[.int .i64 y1,.int .i64 y2,.int .i64 y3,.int .i64 y4,.slice y5 y6 y7,.slice y8 y9 dz,.slice dA dJ cK],.int .i64 0]) (by simp[results,Tryz.results33,go_sem, *]) rfl (show ig _ _ _ _ from Bb.out _ _ _ _ _ _ _ _ _ _ _ _ hr.out jI.out HY.out)
def vI (acc:List Rg) (r:Rg):Bool:=acc.any (fun x=>decide (x.1<r.2)&&decide (r.1<x.2))
def qg:List Rg→List (List Rg)→Bool
 | _,[]=>true
 | acc,l::t=>if l.any (vI acc)then false else qg (acc++l) t
theorem Qk {acc:List Rg} {rows:List (List Rg)} {k j:Nat} (hk:k<rows.length) (hj:j<rows[k].length) (h:vI acc rows[k][j]=true):qg acc (rows.drop k)=false:=by
 rw[List.drop_eq_getElem_cons hk,qg,if_pos];rw[List.any_eq_true];exact⟨_,List.getElem_mem hj,h⟩
theorem Nl {acc:List Rg} {rows:List (List Rg)} {k:Nat} (hk:k<rows.length) (h:fC (fun _ r=>!vI acc r) rows[k] rows[k].length):qg acc (rows.drop k)=qg (acc++rows[k]) (rows.drop (k+1)):=by
 rw[List.drop_eq_getElem_cons hk,qg,if_neg];rw[List.any_eq_true];rintro⟨r,hr,hh⟩;obtain⟨j,hj,rfl⟩:=List.getElem_of_mem hr;have:(!vI acc rows[k][j])=true:=h j hj hj;rw[hh]at this
 cases this
theorem Ql {acc:List Rg} {rows:List (List Rg)} {k:Nat} (hk:rows.length≤k):qg acc (rows.drop k)=true:=by
 rw[List.drop_of_length_le hk,qg]
theorem LA (rows:List (List Rg)) (k:Nat):(rows.take k).flatten.length≤rows.flatten.length:=by
 conv=>rhs;rw[←List.take_append_drop k rows,List.flatten_append,List.length_append]
 omega
theorem DV (rows:List (List Rg)) (k:Nat) (hk:k<rows.length):(rows.take (k+1)).flatten=(rows.take k).flatten++rows[k]:=by
 rw[aS rows k hk,List.flatten_append];simp
def Bc (w:World) (v:Value) (rows:List (List Rg)):Prop:=∃ss:List Sv,dI IQ 1 w v ss∧bN (fun s l=>fD w s.v l) ss rows
theorem Bc.keep {w w':World} {v:Value} {l:List (List Rg)} {B:Nat} (h:Bc w v l) (hb:Below B w w') (hB:w.heap.size≤B):Bc w' v l:=by
 obtain⟨ss,h1,h2⟩:=h;exact⟨ss,dI.keep h1 hb hB,h2.imp (fun _ _ r=>fD.keep r hb hB)⟩
theorem Nn (v:Value) (rows:List (List Rg)) (w:World) (h:Bc w v rows) (fP:rows.flatten.length<1000000):
  Calls Tryz.prog 44 #[v] w fun e w'=>e= .returned (.bool (qg [] rows))∧Below w.heap.size w w':=by
 obtain⟨ss,hs,LB⟩:=h;obtain⟨ao,cap,rfl,dO,hm⟩:=Sl.shape hs;have iL:=ah LB.len;have UK:=ah LB;clear LB
 go_enter Tryz.func44,Tryz.ntmps44
 go_wp2
 go_loopw[3,10] (fun v3 xO wr=>∃ (k:Nat) (acc:List Rg),k≤ss.length∧xO= .int .i64 k∧acc=(rows.take k).flatten∧qg [] rows=qg acc (rows.drop k)∧wr.ownsRow w.heap.size 56 2 v3 acc.length (aR acc)∧Below w.heap.size w wr) (fun _ xO _=>ss.length-(intOf xO).toNat)
 case atStart=>exact⟨0,[],Nat.zero_le _,rfl,by simp,rfl,World.ownsRow_nil _ _ _ _,aL _ _⟩
 case round=>
  obtain⟨k,acc,hk,rfl,hacc,EK,eu,hb⟩:=hrel;have qR:acc.length<1000000:=by rw[hacc];exact Nat.lt_of_le_of_lt (LA _ _) fP
  have aef:=ah hacc;have xK:=ah EK;clear hacc EK;rcases Nat.lt_or_ge k ss.length with bA | gX
  ·have oQ:k<rows.length:=by rw[←iL.out];exact bA
   obtain⟨b,off,rfl,kZ,c0⟩:=dI.sv hs hb (aC _) k bA;have jK:(k:Int)<ss.length:=by omega
   have hrk:=fD.keep (bN.at UK.out k bA oQ) hb (aC _);have Z4:=ah (fun j hj=>Qk (acc:=acc) (k:=k) (j:=j) oQ hj);have uJ:=ah (Nl (acc:=acc) oQ);have HFL:=ah (DV rows k oQ)
   have uW:rows[k].length<1000000:=by
    have:=LA rows (k+1);rw[DV rows k oQ,List.length_append]at this;omega
   generalize rows[k]=l at*;generalize ss[k]=s at*;obtain⟨s1,s2,s3⟩:=s;simp only[Sv.v]at c0 hrk;obtain⟨hsn,Z5,Z6⟩:=Sl.lens (s:=⟨s1,s2,s3⟩) hrk;simp only at hsn Z5 Z6;subst hsn;obtain⟨Yp,aiS,rfl,_,_⟩:=aO eu;obtain⟨W,hW⟩:∃W,W=wr:=⟨_,rfl⟩;subst hW;have Np:=ah eu;have HB:=ah hb;have HRK:=ah hrk;go_wp2
   go_loopw[16] (fun v16 wr=>∃ (j:Nat),j≤l.length∧v16= .int .i64 j∧fC (fun _ r=>!vI acc r) l j∧Below W.heap.size W wr) (fun v16 _=>l.length-(intOf v16).toNat)
   case atStart=>exact⟨0,Nat.zero_le _,rfl,iO _ _,aL _ _⟩
   case round=>
    obtain⟨j,hj,rfl,hA,bO⟩:=hrel;have HA:=ah hA;clear hA c0 eu hb;have f_:=bO.size;have dX:=HB.out.size;rcases Nat.lt_or_ge j l.length with lq | YF
    ·obtain⟨b2,off2,rfl,ac1,e0,e1⟩:=fD.pair hrk bO (aC _) j lq
     have t_:(j:Int)<l.length:=by omega
     have nU:Hid (vI acc l[j]=false→fC (fun _ r=>!vI acc r) l (j+1)):=ah (fun h=>fC.step HA.out lq (by show(!vI acc l[j])=true;rw[h];rfl));have vg:=ah (Z4.out j lq);have lZ:Hid (vI acc l[j]=acc.any (fun x=>decide (x.1<l[j].2)&&decide (l[j].1<x.2))):=rfl;generalize vI acc l[j]=q at*;generalize l[j]=r at*;obtain⟨p1,p2⟩:=r;simp only at e0 e1;have eD:Below W.heap.size W (wr.alloc (.cells #[.int .i64 p1,.int .i64 p2] 56)):=bO.alloc f_ _;have hn:=heap_alloc_new wr (.cells #[.int .i64 p1,.int .i64 p2] 56);have HRA:=ah (aG (aI Np.out eD (aC _)));obtain⟨n0,n1,_⟩:=iB hn;have YL:=ah n0;have YD:=ah n1;have pF:=ah eD;clear hn n0 n1 eD;go_wp2_with fail
     generalize wr.alloc (.cells #[.int .i64 p1,.int .i64 p2] 56)=w7 at*;refine(Di _ acc _ _ _ _ HRA.out (SH YL.out YD.out acc)).mono ?_;rintro e w8 ⟨rfl,qP⟩;have e2:(acc.any fun x=>decide (x.1<p2)&&decide (p1<x.2))=q:=lZ.out.symm;rw[e2];have HB8:=ah (pF.out.trans (qP.mono pF.out.size));clear lZ e2 qP HRA YL YD pF e0 e1
     cases q with
     | true=>
      go_wp2;go_ret;exact⟨aH (by rw[xK.out,vg.out (by first | rfl | trivial)]),HB.out.trans (HB8.out.mono dX)⟩
     | false=>
      go_wp2;go_roundw
      case rel=>exact⟨j+1,by omega,by go_num,nU.out (by first | rfl | trivial),HB8.out⟩
      case measure=>simp[intOf];omega
    ·have Te:j=l.length:=by omega
     subst Te;have GK:=ah (uJ.out HA.out);have hrow2:=aI Np.out bO (aC _);have aeg:=(fD.keep HRK.out bO (aC _)).rd;have jw:=HB.out.trans (bO.mono dX);clear uJ Z4;go_wp2_with ((with_reducible refine aZ 26 ?_);refine qx rfl _ _ rfl w.heap.size _ acc.length acc rfl hrow2 s1 l.length s3 l rfl rfl aeg (by omega) (by omega) ?_;intro v6 w6 uf Dw Gj)
     have nG:=jw.grown Dw (by omega) (fun g hg=>by have:=bQ Np.out g hg;omega);rw[←List.length_append]at uf;go_roundw
     case rel=>exact⟨k+1,acc++l,by omega,by go_num,by rw[HFL.out,aef.out],by rw[xK.out,GK.out],uf,nG⟩
     case measure=>simp[intOf];omega
  ·go_wp2
   go_ret;exact⟨aH (by rw[xK.out,Ql (by rw[←iL.out];exact gX)]),hb⟩
theorem Tryz.WK:(Tryz.prog.info? 26).map (fun i=>(i.zero,i.size,i.bytes))=some (some (.slice none 0 0),1,24):=by kernel_rfl
theorem yB {w:World} {ops:Array Oper} {rest:List Oper} {o:Oper} {a:Act} {Q:Exit→Act→World→Prop} (oM:o.guard=none) (s x:Operand)
  (ho:o.op= .call { callee:=.builtin .append,args:= #[s,x],argTypes:= #[92,92] })
  (base:Nat) (v:Value) (n:Nat) (l:List Sv) (hs:a.eval s=v) (dD:w.ownsRow base 26 1 v n ((aJ IQ) l))
  (ao:Option Addr) (m c:Nat) (p:List Sv) (hx:a.eval x= .slice ao m c) (hm:p.length=m) (fZ:Rd w ao ((aJ IQ) p))
  (hn:n+m<1000000000) (gM:base≤w.heap.size)
  (h:∀v' w',w'.ownsRow base 26 1 v' (n+m) ((aJ IQ) (l++p))→w.grownBy w' v.ownBlock→(v'.ownBlock=v.ownBlock∨v'.ownBlock=some w.heap.size)→wpList Tryz.prog ops Q rest (a.put o.dst v') w'):wpList Tryz.prog ops Q (o::rest) a w:=by
 obtain⟨i,hi,kK,dX,f_⟩:=info_parts Tryz.WK;refine dL oM s x 92 ho base 26 i _ 1 24 Tryz.underlying92 hi kK dX f_ rfl (by decide) v n _ hs dD ao m c ((aJ IQ) p) hx (by rw[bP KM,hm]) fZ (gu SE p) (by unfold maxLen;omega) (by omega) gM ?_;intro v' w' h1 h2 h3;exact h v' w' (by rw[fE];exact h1) h2 h3
theorem Tryz.Nq (args:Array Value) (W:World):(callFunc 48 args).run Tryz.prog W= .ok (.enter 48 args) W:=by kernel_rfl
theorem Tryz.Qm (args:Array Value) (W:World):(callFunc 46 args).run Tryz.prog W= .ok (.enter 46 args) W:=by kernel_rfl
theorem Hf (s:Sv) (l:List Rg) (b1:Nat) (n:Int) (w:World) (h1:w.cell? ⟨b1,0,none⟩=some (.int .i64 n)) (aiU:b1<w.heap.size) (h:fD w s.v l):
  Calls Tryz.prog 48 #[s.v,.pointer (some ⟨b1,0,none⟩)] w fun e w'=>e= .returned (.bool (Fz [n] l))∧Below w.heap.size w w':=by
 obtain⟨s1,s2,s3⟩:=s;have bO:Below w.heap.size w (w.alloc (.cells #[.int .i64 n] 3)):=(aL _ _).alloc (aC _) _;have HS:=ah (fD.keep h bO (aC _))
 have HU:Hid (jv (w.alloc (.cells #[.int .i64 n] 3)) (.slice (some ⟨w.heap.size,0,none⟩) 1 1) [n]):=ah ⟨rfl,_,1,rfl,aC _,by unfold maxLen;omega,(fun h=>by cases h),fun j u hu=>⟨_,0,rfl,by simp,by
  have:=tu w _ rfl [.int .i64 n] 3 j u hu;obtain⟨a,ha,hc⟩:=this;injection ha with ha;subst ha;rw[Addr.add_lit]at hc
  exact hc⟩⟩
 obtain⟨q,hq⟩:∃q,Fz [n] l=q:=⟨_,rfl⟩;have HQ:=ah hq;clear hq h;change Calls Tryz.prog _ #[.slice s1 s2 s3,.pointer (some ⟨b1,0,none⟩)] w _
 go_enter Tryz.func48,Tryz.ntmps48
 go_wp2_with fail
 refine(Dk _ _ [n] l _ HU.out HS.out).mono ?_;rw[HQ.out];rintro e w1 ⟨rfl,bT⟩;have bR:=bO.trans (bT.mono bO.size);clear HS HU bO bT;go_wp2;go_ret;exact⟨aH HQ.out.symm,bR⟩
theorem Sl.uniq {w:World} {E n n':Nat} {v:Value} {cs cs':List Value} (h:Sl w E v n cs) (h':Sl w E v n' cs'):cs=cs':=by
 obtain⟨h1,ao,cap,rfl,_,_,_,h2⟩:=h;obtain⟨h1',kJ,cap',he,_,_,_,h2'⟩:=h';injection he with e1 e2 e3;subst e1 e2 e3;refine List.ext_getElem (by omega) (fun j hj hj'=>?_);obtain⟨b,off,ha,_,hc⟩:=h2 j cs[j] (by simp[hj]);obtain⟨b',off',ha',_,hc'⟩:=h2' j cs'[j] (by simp[hj']);rw[ha]at ha';injection ha' with ha';injection ha' with q1 q2;subst q1 q2;rw[hc]at hc';injection hc'
theorem Bd:∀ {l m:List Rg},aR l=aR m→l=m
 | [],[],_=>rfl
 | [],_::_,h=>by simp[aR]at h
 | _::_,[],h=>by simp[aR]at h
 | (a,b)::l,(c,d)::m,h=>by
  simp only[aR,List.flatMap_cons,List.cons_append,List.nil_append,List.cons.injEq,Value.int.injEq,true_and]at h;obtain⟨h1,h2,h3⟩:=h;rw[h1,h2,Bd h3]
theorem fD.uniq {w:World} {v:Value} {l m:List Rg} (h:fD w v l) (h':fD w v m):l=m:=Bd (Sl.uniq h h')
def oI (rows:List (List Rg)) (n:Int):Bool:=rows.any (fun l=>Fz [n] l)
theorem Qn {w:World} {n:Int} {ss:List Sv} {rows:List (List Rg)} (h:bN (fun s l=>fD w s.v l) ss rows):ss.any (fun s=> @decide (∃l,fD w s.v l∧Fz [n] l=true) (Classical.propDecidable _))=oI rows n:=
 Am h (fun s l r=>by
  rw[Bool.eq_iff_iff,@decide_eq_true_iff _ (Classical.propDecidable _)]
  exact⟨fun ⟨m,hm,hh⟩=>by rw[fD.uniq r hm];exact hh,fun hh=>⟨l,r,hh⟩⟩)
theorem Tp {w:World} {b1:Nat} {n:Int} (h1:w.cell? ⟨b1,0,none⟩=some (.int .i64 n)) {ss:List Sv} {rows:List (List Rg)} (h:bN (fun s l=>fD w s.v l) ss rows):og Tryz.prog w 48 #[.pointer (some ⟨b1,0,none⟩)] Sv.v (fun s=> @decide (∃l,fD w s.v l∧Fz [n] l=true) (Classical.propDecidable _)) ss:=by
 have bB:b1<w.heap.size:=World.block_lt_of_cell? w _ h1;refine⟨Tryz.Nq,fun W hW x hx=>?_⟩;obtain⟨j,hj,rfl⟩:=List.getElem_of_mem hx;have hr:=bN.at h j hj (by rw[←h.len];exact hj);generalize rows[j]'(by rw[←h.len];exact hj)=l at*;refine(Hf ss[j] l b1 n W (fU h1 hW bB) (Nat.lt_of_lt_of_le bB hW.size) (fD.keep hr hW (aC _))).mono ?_;rintro e w1 ⟨rfl,hb⟩;refine⟨aH ?_,hb⟩;rw[Bool.eq_iff_iff,@decide_eq_true_iff _ (Classical.propDecidable _)];exact⟨fun hh=>⟨l,hr,hh⟩,fun⟨m,hm,hh⟩=>by rw[fD.uniq hr hm];exact hh⟩
theorem JI (n:Int) (b1:Nat) (v:Value) (rows:List (List Rg)) (w:World) (h1:w.cell? ⟨b1,0,none⟩=some v) (bB:b1<w.heap.size) (h:Bc w v rows):
  Calls Tryz.prog 46 #[.int .i64 n,.pointer (some ⟨b1,0,none⟩)] w fun e w'=>e= .returned (.bool (oI rows n))∧Below w.heap.size w w':=by
 have bO:Below w.heap.size w (w.alloc (.cells #[.int .i64 n] 3)):=(aL _ _).alloc (aC _) _;obtain⟨ss,hs,LB⟩:=Bc.keep h bO (aC _);have HC:Hid ((w.alloc (.cells #[.int .i64 n] 3)).cell? ⟨w.heap.size,0,none⟩=some (.int .i64 n)):=by show _=_;simp[go_sem]
 obtain⟨ao,cap,rfl,dO,hm⟩:=Sl.shape hs;have HS:=ah hs;have UK:=ah LB;obtain⟨q,hq⟩:∃q,oI rows n=q:=⟨_,rfl⟩;have HQ:=ah hq;clear hq h hs LB
 go_enter Tryz.func46,Tryz.ntmps46
 go_wp2_with fail
 refine(MF _ ss _ _ _ _ HS.out (Tp HC.out UK.out)).mono ?_;rw[Qn UK.out,HQ.out];rintro e w1 ⟨rfl,bT⟩;have bR:=bO.trans (bT.mono bO.size);clear HS HC UK bO bT;go_wp2;go_ret;exact⟨aH HQ.out.symm,bR⟩
theorem WL {w:World} {b1:Nat} {v:Value} {rows:List (List Rg)} (h1:w.cell? ⟨b1,0,none⟩=some v) (h:Bc w v rows) (l:List Int):og Tryz.prog w 46 #[.pointer (some ⟨b1,0,none⟩)] (fun n=> .int .i64 n) (oI rows) l:=by
 have bB:b1<w.heap.size:=World.block_lt_of_cell? w _ h1;exact⟨Tryz.Qm,fun W hW x _=>JI x b1 v rows W (fU h1 hW bB) (Nat.lt_of_lt_of_le bB hW.size) (Bc.keep h hW (aC _))⟩
end Go.Proofs.YtlfopoimbbpfdaaGreat
