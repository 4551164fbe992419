/- What the law asks, in parts: ZE LSf. -/
import Derived.Test.YtlfopoimbbpfdaaGreatPk13
import Derived.Test.YtlfopoimbbpfdaaGreatPk17
import Derived.Test.YtlfopoimbbpfdaaGreatPk9
import Derived.Test.YtlfopoimbbpfdaaGreatPk4
set_option linter.all false
namespace Go.Proofs.YtlfopoimbbpfdaaGreat
open Go.RowKit
def Dn (s:Sc) (n:Int):Sc:=if 0<n then⟨s.key,s.up,s.down,s.uu+n,s.ud⟩else⟨s.key,s.up,s.down,s.uu,s.ud-n⟩
def lS (s:Sc) (n:Int):Prop:=(0<n∧s.up-s.uu<n)∨(n<0∧s.down-s.ud< -n)
instance (s:Sc) (n:Int):Decidable (lS s n):=by unfold lS;exact inferInstance
def pz (l:Ls) (key:ByteArray) (n:Int):Ls×Int:=
 if kL l.sl key<0 then(l,14)
 else if lS (l.sl.getD (kL l.sl key).toNat Jz) n then(l,14)
 else(⟨l.dev,l.epoch,l.bY,l.last,l.sl.set (kL l.sl key).toNat (Dn (l.sl.getD (kL l.sl key).toNat Jz) n),l.ids,l.used⟩,0)
def rY (l:Ls) (n:Int):Ls×Int:=
 if eB l.ids n=false then(l,14)else if l.used.contains n=true then(l,7)
 else(⟨l.dev,l.epoch,l.bY,l.last,l.sl,l.ids,fU l.used n⟩,0)
def dM (l:Ls) (kind:Int) (key:ByteArray) (n:Int):Ls×Int:=
 if kind=4 then pz l key n else if kind=5 then rY l n else(l,0)
theorem NW {w W:World} {B p:Nat} {l:Ls} {y:bV} {n:Int} {r:Ls×Int} (hr:r=(l,n)) (hw:Below w.heap.size w W) (hy:iC W B y l) (hp:w.heap.size≤p) (Rj:p<B):
  fO w r (.returned (.tuple #[nI y,.int .i64 n])) (((((((W.setCell ⟨p,0,none⟩ (.int .i64 y.dev)).setCell ⟨p,1,none⟩ (.int .i64 y.epoch)).setCell ⟨p,2,none⟩ (.int .i64 y.bY)).setCell ⟨p,3,none⟩ (.int .i64 y.last)).setCell ⟨p,4,none⟩ y.s.v).setCell ⟨p,5,none⟩ y.i.v).setCell ⟨p,6,none⟩ y.u.v):=by
 subst hr
 have g2:=(((((((hy.put ⟨p,0,none⟩ Rj (.int .i64 y.dev)).put ⟨p,1,none⟩ Rj (.int .i64 y.epoch)).put ⟨p,2,none⟩ Rj (.int .i64 y.bY)).put ⟨p,3,none⟩ Rj (.int .i64 y.last)).put ⟨p,4,none⟩ Rj y.s.v).put ⟨p,5,none⟩ Rj y.i.v).put ⟨p,6,none⟩ Rj y.u.v)
 exact⟨y,rfl,g2.base (by omega),((((((hw.setCell hp _).setCell hp _).setCell hp _).setCell hp _).setCell hp _).setCell hp _).setCell hp _⟩
theorem Dp {w:World} {b:Nat} {a0 a1 a2 a3 a4 a5 a6:Value} {t:TypeId} (h:w.heap[b]? =some (.cells #[a0,a1,a2,a3,a4,a5,a6] t (0,0))) (x0 x1 x2 x3 x4 x5 x6:Value):
  (((((((w.setCell ⟨b,0,none⟩ x0).setCell ⟨b,1,none⟩ x1).setCell ⟨b,2,none⟩ x2).setCell ⟨b,3,none⟩ x3).setCell ⟨b,4,none⟩ x4).setCell ⟨b,5,none⟩ x5).setCell ⟨b,6,none⟩ x6).heap[b]? =some (.cells #[x0,x1,x2,x3,x4,x5,x6] t (0,0)):=by
 simp[World.setCell,Array.getElem?_modify,h]
theorem jf (w:World) (b c:Nat) (h:c≠b) (x0 x1 x2 x3 x4 x5 x6:Value):
  (((((((w.setCell ⟨b,0,none⟩ x0).setCell ⟨b,1,none⟩ x1).setCell ⟨b,2,none⟩ x2).setCell ⟨b,3,none⟩ x3).setCell ⟨b,4,none⟩ x4).setCell ⟨b,5,none⟩ x5).setCell ⟨b,6,none⟩ x6).heap[c]? =w.heap[c]? :=by
 have h':¬b=c:=fun e=>h e.symm
 simp[World.setCell,Array.getElem?_modify,h']
theorem Bc (l:List Sc) (k:Nat) (hk:k<l.length) (u:Int):
  (aK jm l).set (k*5+3) (.int .i64 u)=aK jm (l.set k ⟨l[k].key,l[k].up,l[k].down,u,l[k].ud⟩):=by
 induction l generalizing k with
 | nil=>simp at hk
 | cons x l ih=>
  cases k with
  | zero=>simp[aU,jm]
  | succ k=>
   have e:∀j,(k+1)*5+j=k*5+j+5:=fun j=>by omega
   rw[List.set_cons_succ,aU,aU,List.getElem_cons_succ,←ih k (by simpa using hk)]
   simp only[e]
   simp[jm]
theorem Bd (l:List Sc) (k:Nat) (hk:k<l.length) (u:Int):
  (aK jm l).set (k*5+4) (.int .i64 u)=aK jm (l.set k ⟨l[k].key,l[k].up,l[k].down,l[k].uu,u⟩):=by
 induction l generalizing k with
 | nil=>simp at hk
 | cons x l ih=>
  cases k with
  | zero=>simp[aU,jm]
  | succ k=>
   have e:∀j,(k+1)*5+j=k*5+j+5:=fun j=>by omega
   rw[List.set_cons_succ,aU,aU,List.getElem_cons_succ,←ih k (by simpa using hk)]
   simp only[e]
   simp[jm]
theorem iC.K_ {w:World} {B g n cap:Nat} {y:bV} {l:Ls} (h:iC w B y l) (hy:y.s=⟨some ⟨g,0,none⟩,n,cap⟩) (j:Nat) (hj:j<l.sl.length*5) (u:Value) {sl':List Sc} (hs:(aK jm l.sl).set j u=aK jm sl') (hl:sl'.length=l.sl.length):
  iC (w.setCell ⟨g,j,none⟩ u) B y ⟨l.dev,l.epoch,l.bY,l.last,sl',l.ids,l.used⟩:=by
 have hoth:∀c,c≠g→(w.setCell ⟨g,j,none⟩ u).heap[c]? =w.heap[c]? :=fun c hc=>aW _ _ _ (fun e=>hc e.symm) _
 have hrow:=h.s
 rw[hy]at hrow
 simp only[Sv.v]at hrow
 have hn:n=l.sl.length:=by
  obtain⟨_,_,he,_,_⟩:=aP hrow
  injection he with _ he _
 subst hn
 obtain⟨cur,hg⟩:=eu hrow
 have hset:=dF hrow j (by rw[bL gK];exact hj) u
 rw[hs]at hset
 refine⟨h.dev,h.epoch,h.bY,h.last,?_,aH h.i hoth hg (by decide),aH h.u hoth hg (by decide)⟩
 rw[hy]
 show World.ownsRow _ _ _ _ _ sl'.length _
 rw[hl]
 exact hset
set_option maxRecDepth 100000 in
set_option maxHeartbeats 8000000 in
theorem EZ (x:bV) (l:Ls) (o:pO) (w:World) (h:lW w x l) (hB:NS l o.kind o.n):
  Calls Tryz.prog 33 #[nI x,TI o] w (fO w (dM l o.kind o.key o.n)):=by
 obtain⟨x1,x2,x3,x4,⟨x5,x6,x7⟩,⟨x8,x9,qV⟩,⟨qW,qX,qY⟩⟩:=x
 obtain⟨o1,o2,o3,o4,o5,kind,key,text,n,time,⟨oa,on,oc⟩⟩:=o
 simp only
 obtain⟨W1,hW1,k0,k1,k2,hb1,hz1⟩:=t_ w (.cells #[.int .i64 x1,.int .i64 x2,.int .i64 x3,.int .i64 x4,.slice x5 x6 x7,.slice x8 x9 qV,.slice qW qX qY] 48) (.cells #[.int .i64 o1,.int .i64 o2,.int .i64 o3,.int .i64 o4,.int .i64 o5,.int .i64 kind,.string key,.string text,.int .i64 n,.int .i64 time,.slice oa on oc] 38) (.cells #[.int .i64 0,.int .i64 0,.int .i64 0,.int .i64 0,.slice none 0 0,.slice none 0 0,.slice none 0 0] 48)
 have HW1:=ah hW1
 have HZ1:=ah hz1
 have K0:=ah k0
 have K1:=ah k1
 have K2:=ah k2
 have HM:=ah (h.keep hb1 (aC _))
 have dV:=ah hb1
 have HB:=ah hB
 have pI:Hid (wJ l):=ah ⟨hB.s,hB.i,by have:=hB.u;omega⟩
 clear hW1 hz1 k0 k1 k2 hb1 h hB
 change Calls Tryz.prog _ #[.agg #[.int .i64 x1,.int .i64 x2,.int .i64 x3,.int .i64 x4,.slice x5 x6 x7,.slice x8 x9 qV,.slice qW qX qY],.agg #[.int .i64 o1,.int .i64 o2,.int .i64 o3,.int .i64 o4,.int .i64 o5,.int .i64 kind,.string key,.string text,.int .i64 n,.int .i64 time,.slice oa on oc]] w _
 go_enter Tryz.func33,Tryz.ntmps33
 go_upto_region 1 with fail
 rw[HW1.out]
 obtain⟨d0,d1,d2,d3,d4,d5,d6,_⟩:=aB K0.out
 go_wp2_with fail
 refine(nM ⟨x1,x2,x3,x4,⟨x5,x6,x7⟩,⟨x8,x9,qV⟩,⟨qW,qX,qY⟩⟩ l _ HM.out pI.out).mono ?_
 rintro e U0 ⟨⟨y1,y2,y3,y4,⟨y5,y6,y7⟩,⟨y8,y9,bW⟩,⟨bX,cB,y13⟩⟩,rfl,hy,hb0⟩
 clear d0 d1 d2 d3 d4 d5 d6
 have hz1:=HZ1.out
 have hk0:=aj K0.out hb0 (by omega)
 have hp0:w.heap.size<W1.heap.size:=by omega
 obtain⟨d0,d1,d2,d3,d4,d5,d6,_⟩:=aB hk0
 have f0:=ak hk0 0
 have f1:=ak hk0 1
 have f2:=ak hk0 2
 have f3:=ak hk0 3
 have f4:=ak hk0 4
 have f5:=ak hk0 5
 have f6:=ak hk0 6
 have HY:=ah (((((((hy.put ⟨w.heap.size,0,none⟩ hp0 (.int .i64 y1)).put ⟨w.heap.size,1,none⟩ hp0 (.int .i64 y2)).put ⟨w.heap.size,2,none⟩ hp0 (.int .i64 y3)).put ⟨w.heap.size,3,none⟩ hp0 (.int .i64 y4)).put ⟨w.heap.size,4,none⟩ hp0 (.slice y5 y6 y7)).put ⟨w.heap.size,5,none⟩ hp0 (.slice y8 y9 bW)).put ⟨w.heap.size,6,none⟩ hp0 (.slice bX cB y13))
 have qh:=ah (Dp hk0 (.int .i64 y1) (.int .i64 y2) (.int .i64 y3) (.int .i64 y4) (.slice y5 y6 y7) (.slice y8 y9 bW) (.slice bX cB y13))
 have gF:=ah ((jf U0 w.heap.size (w.heap.size+1) (by omega) (.int .i64 y1) (.int .i64 y2) (.int .i64 y3) (.int .i64 y4) (.slice y5 y6 y7) (.slice y8 y9 bW) (.slice bX cB y13)).trans (aj K1.out hb0 (by omega)))
 have fJ:=ah ((jf U0 w.heap.size (w.heap.size+2) (by omega) (.int .i64 y1) (.int .i64 y2) (.int .i64 y3) (.int .i64 y4) (.slice y5 y6 y7) (.slice y8 y9 bW) (.slice bX cB y13)).trans (aj K2.out hb0 (by omega)))
 have hbw:=dV.out.trans (hb0.mono dV.out.size)
 have HB2:=ah (((((((hbw.setCell (p:=⟨w.heap.size,0,none⟩) (aC _) (.int .i64 y1)).setCell (p:=⟨w.heap.size,1,none⟩) (aC _) (.int .i64 y2)).setCell (p:=⟨w.heap.size,2,none⟩) (aC _) (.int .i64 y3)).setCell (p:=⟨w.heap.size,3,none⟩) (aC _) (.int .i64 y4)).setCell (p:=⟨w.heap.size,4,none⟩) (aC _) (.slice y5 y6 y7)).setCell (p:=⟨w.heap.size,5,none⟩) (aC _) (.slice y8 y9 bW)).setCell (p:=⟨w.heap.size,6,none⟩) (aC _) (.slice bX cB y13))
 clear hk0 hy hb0 hbw K0 K1 K2 dV HM HW1
 go_upto_region 2 with fail
 generalize (((((((U0.setCell ⟨w.heap.size,0,none⟩ (.int .i64 y1)).setCell ⟨w.heap.size,1,none⟩ (.int .i64 y2)).setCell ⟨w.heap.size,2,none⟩ (.int .i64 y3)).setCell ⟨w.heap.size,3,none⟩ (.int .i64 y4)).setCell ⟨w.heap.size,4,none⟩ (.slice y5 y6 y7)).setCell ⟨w.heap.size,5,none⟩ (.slice y8 y9 bW)).setCell ⟨w.heap.size,6,none⟩ (.slice bX cB y13))=W2 at*
 clear d0 d1 d2 d3 d4 d5 d6 f0 f1 f2 f3 f4 f5 f6 hz1
 have Vp:w.heap.size+2<W1.heap.size:=by have:=HZ1.out;omega
 have xI:Hid (∀ (V:World) (l':Ls) (e:Int) (u5 u8 u11:Option Addr) (u6 u7 u9 u10 u12 u13:Nat),dM l kind key n=(l',e)→Below w.heap.size w V→iC V W1.heap.size ⟨y1,y2,y3,y4,⟨u5,u6,u7⟩,⟨u8,u9,u10⟩,⟨u11,u12,u13⟩⟩ l'→
   fO w (dM l kind key n) (.returned (.tuple #[.agg #[.int .i64 y1,.int .i64 y2,.int .i64 y3,.int .i64 y4,.slice u5 u6 u7,.slice u8 u9 u10,.slice u11 u12 u13],.int .i64 e])) (((((((V.setCell ⟨w.heap.size+2,0,none⟩ (.int .i64 y1)).setCell ⟨w.heap.size+2,1,none⟩ (.int .i64 y2)).setCell ⟨w.heap.size+2,2,none⟩ (.int .i64 y3)).setCell ⟨w.heap.size+2,3,none⟩ (.int .i64 y4)).setCell ⟨w.heap.size+2,4,none⟩ (.slice u5 u6 u7)).setCell ⟨w.heap.size+2,5,none⟩ (.slice u8 u9 u10)).setCell ⟨w.heap.size+2,6,none⟩ (.slice u11 u12 u13))):=
  ah (fun V l' e u5 u8 u11 u6 u7 u9 u10 u12 u13 hr hV hl=>NW (y:=⟨y1,y2,y3,y4,⟨u5,u6,u7⟩,⟨u8,u9,u10⟩,⟨u11,u12,u13⟩⟩) hr hV hl (by omega) Vp)
 have hk1:=gF.out
 have e5:W2.cell? ⟨w.heap.size+1,5,none⟩=some (.int .i64 kind):=by simp[World.cell?,hk1]
 have e6:W2.cell? ⟨w.heap.size+1,6,none⟩=some (.string key):=by simp[World.cell?,hk1]
 have e8:W2.cell? ⟨w.heap.size+1,8,none⟩=some (.int .i64 n):=by simp[World.cell?,hk1]
 clear hk1
 obtain⟨d0,d1,d2,d3,d4,d5,d6,_⟩:=aB qh.out
 by_cases hkd:kind=4
 ·subst hkd
  obtain⟨hn1,hn2⟩:=HB.out.n rfl
  obtain⟨q6,q7,q8⟩:=Sl.lens (s:=⟨y5,y6,y7⟩) (aI HY.out.s)
  simp only at q6 q7 q8
  subst q6
  have hsl:=HB.out.s
  go_upto_region 4 with fail
  go_wp2
  go_loopw[6] (fun v6 wr=>∃k:Nat,k≤l.sl.length∧v6= .int .i64 k∧Hid (∀j (hj:j<l.sl.length),j<k→decide (l.sl[j].key=key)=false)∧Below W2.heap.size W2 wr) (fun v6 _=>l.sl.length-(intOf v6).toNat)
  case atStart=>exact⟨0,Nat.zero_le _,rfl,ah (fun j _ hj=>by omega),aL _ _⟩
  case round=>
   obtain⟨k,hk,rfl,HJ,hb⟩:=hrel
   have Vq:=ah (HY.out.keep hb (aC _))
   have Vr:=ah (aj qh.out hb (bg qh.out).1)
   have hr1:=aj gF.out hb (bg gF.out).1
   have HR2:=ah (aj fJ.out hb (bg fJ.out).1)
   have Yh:=ah (HB2.out.trans (hb.mono HB2.out.size))
   have HRR:=ah hb
   clear d0 d1 d2 d3 d4 d5 d6 e5 e6 e8
   have e5:wr.cell? ⟨w.heap.size+1,5,none⟩=some (.int .i64 4):=by simp[World.cell?,hr1]
   have e6:wr.cell? ⟨w.heap.size+1,4,none⟩=some (.int .i64 o5):=by simp[World.cell?,hr1]
   clear e6
   have e6:wr.cell? ⟨w.heap.size+1,6,none⟩=some (.string key):=by simp[World.cell?,hr1]
   have e8:wr.cell? ⟨w.heap.size+1,8,none⟩=some (.int .i64 n):=by simp[World.cell?,hr1]
   clear hr1 hb
   obtain⟨d0,d1,d2,d3,d4,d5,d6,_⟩:=aB Vr.out
   by_cases hlt:k<l.sl.length
   ·have iG:(k:Int)<l.sl.length:=by omega
    obtain⟨sb,cap,hys⟩:=fu Vq.out.s (by omega)
    injection hys with QZ Q0 Q5
    subst QZ Q5
    have hrow:=Vq.out.s
    simp only[Sv.v]at hrow
    obtain⟨p1,p2,p3,p4,p5,p6,p7⟩:=bq hrow
    have hat:∀j u,j<5→(jm l.sl[k])[j]? =some u→wr.cell? ⟨sb,k*5+j,none⟩=some u:=fun j u hj hu=>p7 _ _ (by rw[bP gK _ k hlt j hj];exact hu)
    have s0:=hat 0 _ (by omega) rfl
    have s1:=hat 1 _ (by omega) rfl
    have s2:=hat 2 _ (by omega) rfl
    have s3:=hat 3 _ (by omega) rfl
    have s4:=hat 4 _ (by omega) rfl
    simp only[Nat.add_zero]at s0
    have Yi:=p6 (k*5+3)
    have Yj:=p6 (k*5+4)
    have HE:=ah (key_eq l.sl[k].key key)
    obtain⟨b1,b2,b3,b4⟩:=HB.out.sc l.sl[k] (List.getElem_mem hlt)
    clear hrow p1 p2 p3 p4 p5 p6 p7 hat Q0
    by_cases hq:l.sl[k].key=key
    ·have La:Hid (kL l.sl key=k):=ah (ji (p:=fun c:Sc=>decide (c.key=key)) (l:=l.sl) k hlt (fun j hj=>HJ.out j (by omega) hj) (by simpa using hq))
     rw[hq]at s0
     have HKQ:=ah hq
     clear hq HJ HE
     have TK:Hid (∃su sd iA jS,l.sl[k].up=su∧l.sl[k].down=sd∧l.sl[k].uu=iA∧l.sl[k].ud=jS):=ah ⟨_,_,_,_,rfl,rfl,rfl,rfl⟩
     obtain⟨su,sd,iA,jS,h1,h2,h3,h4⟩:=TK.out
     rw[h1]at s1 b1
     rw[h2]at s2 b2
     rw[h3]at s3 b3
     rw[h4]at s4 b4
     have Vs:=ah (And.intro h1 (And.intro h2 (And.intro h3 h4)))
     have JC:Hid (lS l.sl[k] n↔lS ⟨key,su,sd,iA,jS⟩ n):=ah (by unfold lS;rw[h1,h2,h3,h4])
     obtain⟨b11,b12⟩:=b1
     obtain⟨b21,b22⟩:=b2
     obtain⟨b31,b32⟩:=b3
     obtain⟨b41,b42⟩:=b4
     clear TK h1 h2 h3 h4
     have i1:IntKind.i64.wrap (su-iA)=su-iA:=IntWalk.i64_in _ (by omega)
     have i2:IntKind.i64.wrap (sd-jS)=sd-jS:=IntWalk.i64_in _ (by omega)
     have i3:IntKind.i64.wrap (0-n)=0-n:=IntWalk.i64_in _ (by omega)
     have i4:IntKind.i64.wrap (-n)= -n:=IntWalk.i64_in _ (by omega)
     go_upto_region 8 with fail
     go_quiet (fail)
     go_upto_region 9 with fail
     go_cut[68] (fun v68 wx=>v68= .bool (decide (lS ⟨key,su,sd,iA,jS⟩ n))∧Below wr.heap.size wr wx)
     case first=>
      rcases Int.lt_trichotomy n 0 with hn | hn | hn
      ·have hn0:¬0<n:=by omega
       by_cases hc:sd-jS< -n
       ·have hd:Hid (decide (lS ⟨key,su,sd,iA,jS⟩ n)=true):=ah (by rw[decide_eq_true_iff];exact .inr ⟨hn,hc⟩)
        have hc2:sd-jS<0-n:=by omega
        go_quiet (fail)
        go_wp2
        go_meet
        exact⟨by rw[hd.out],below_drewN (aL _ _) _⟩
       ·have hd:Hid (decide (lS ⟨key,su,sd,iA,jS⟩ n)=false):=ah (by rw[decide_eq_false_iff_not];unfold lS;simp only;omega)
        have hc2:¬sd-jS<0-n:=by omega
        go_quiet (fail)
        go_wp2
        go_meet
        exact⟨by rw[hd.out],below_drewN (aL _ _) _⟩
      ·have hd:Hid (decide (lS ⟨key,su,sd,iA,jS⟩ n)=false):=ah (by rw[decide_eq_false_iff_not];unfold lS;simp only;omega)
       subst hn
       go_quiet (fail)
       go_wp2
       go_meet
       exact⟨by rw[hd.out],by first | exact below_drewN (aL _ _) _ | exact below_drewN (below_drewN (aL _ _) _) _⟩
      ·have hn0:¬n<0:=by omega
       by_cases hc:su-iA<n
       ·have hd:Hid (decide (lS ⟨key,su,sd,iA,jS⟩ n)=true):=ah (by rw[decide_eq_true_iff];exact .inl ⟨hn,hc⟩)
        go_quiet (fail)
        go_wp2
        go_meet
        exact⟨by rw[hd.out],below_drewN (aL _ _) _⟩
       ·have hd:Hid (decide (lS ⟨key,su,sd,iA,jS⟩ n)=false):=ah (by rw[decide_eq_false_iff_not];unfold lS;simp only;omega)
        go_quiet (fail)
        go_wp2
        go_meet
        exact⟨by rw[hd.out],below_drewN (aL _ _) _⟩
     case rest=>
     obtain⟨rfl,hb4⟩:=hcut
     obtain⟨W4,Yk⟩:∃W4,W4=wc:=⟨_,rfl⟩
     subst Yk
     have JD:=ah (Vq.out.keep hb4 (aC _))
     have NY:=ah (aj Vr.out hb4 (bg Vr.out).1)
     have yZ:=ah (aj HR2.out hb4 (bg HR2.out).1)
     have jd:=ah (Yh.out.trans (hb4.mono Yh.out.size))
     have NZ:=aj gF.out (HRR.out.trans (hb4.mono HRR.out.size)) (bg gF.out).1
     have hrow:=JD.out.s
     simp only[Sv.v]at hrow
     obtain⟨p1,p2,p3,p4,p5,p6,p7⟩:=bq hrow
     have hat:∀j u,j<5→(jm l.sl[k])[j]? =some u→W4.cell? ⟨sb,k*5+j,none⟩=some u:=fun j u hj hu=>p7 _ _ (by rw[bP gK _ k hlt j hj];exact hu)
     clear d0 d1 d2 d3 d4 d5 d6 s0 s1 s2 s3 s4 Yi Yj e5 e6 e8 i1 i2 i3 i4
     have s0:=hat 0 _ (by omega) rfl
     have s1:=hat 1 _ (by omega) rfl
     have s2:=hat 2 _ (by omega) rfl
     have s3:=hat 3 _ (by omega) rfl
     have s4:=hat 4 _ (by omega) rfl
     have hsu:=Vs.out
     rw[hsu.1]at s1
     rw[hsu.2.1]at s2
     rw[hsu.2.2.1]at s3
     rw[hsu.2.2.2]at s4
     have Yi:=p6 (k*5+3)
     have Yj:=p6 (k*5+4)
     have e5:W4.cell? ⟨w.heap.size+1,5,none⟩=some (.int .i64 4):=by simp[World.cell?,NZ]
     have e6:W4.cell? ⟨w.heap.size+1,6,none⟩=some (.string key):=by simp[World.cell?,NZ]
     have e8:W4.cell? ⟨w.heap.size+1,8,none⟩=some (.int .i64 n):=by simp[World.cell?,NZ]
     obtain⟨d0,d1,d2,d3,d4,d5,d6,_⟩:=aB NY.out
     have Gq:=ah hsu
     clear hsu hrow p1 p2 p3 p4 p5 p6 p7 hat NZ hb4 Vs Vq Vr HR2 Yh HRR
     by_cases IJ:lS ⟨key,su,sd,iA,jS⟩ n
     ·have hdf:decide (lS ⟨key,su,sd,iA,jS⟩ n)=true:=by simpa using IJ
      rw[hdf]
      have hr:Hid (dM l 4 key n=(l,14)):=ah (by
       unfold dM pz
       rw[if_pos rfl,La.out,if_neg (by omega),if_pos (by simp only[Int.toNat_natCast,List.getD,List.getElem?_eq_getElem hlt,Option.getD_some];exact JC.out.2 IJ)])
      clear d0 d1 d2 d3 d4 d5 d6 IJ hdf
      obtain⟨d0,d1,d2,d3,d4,d5,d6,_⟩:=aB NY.out
      obtain⟨g0,g1,g2,g3,g4,g5,g6,_⟩:=aB yZ.out
      have f0:=ak yZ.out 0
      have f1:=ak yZ.out 1
      have f2:=ak yZ.out 2
      have f3:=ak yZ.out 3
      have f4:=ak yZ.out 4
      have f5:=ak yZ.out 5
      have f6:=ak yZ.out 6
      go_wp2
      refine bodyPost_ret (v:=.tuple #[.agg #[.int .i64 y1,.int .i64 y2,.int .i64 y3,.int .i64 y4,.slice (some ⟨sb,0,none⟩) l.sl.length y7,.slice y8 y9 bW,.slice bX cB y13],.int .i64 14]) (by simp[results,Tryz.results33,go_sem, *]) rfl (show fO _ _ _ _ from xI.out _ _ _ _ _ _ _ _ _ _ _ _ hr.out jd.out JD.out)
     ·have hdf:decide (lS ⟨key,su,sd,iA,jS⟩ n)=false:=by simpa using IJ
      rw[hdf]
      have Vt:Hid (¬lS l.sl[k] n):=ah (fun h=>IJ (JC.out.1 h))
      clear JC IJ hdf
      have JC:=ah Vt.out
      clear Vt
      by_cases hn:0<n
      ·have hsu:=Gq.out
       have hru:Hid (dM l 4 key n=(⟨l.dev,l.epoch,l.bY,l.last,l.sl.set k ⟨l.sl[k].key,su,sd,iA+n,jS⟩,l.ids,l.used⟩,0)):=ah (by
        unfold dM pz
        rw[if_pos rfl,La.out,if_neg (by omega),if_neg (by simp only[Int.toNat_natCast,List.getD,List.getElem?_eq_getElem hlt,Option.getD_some];exact JC.out)]
        simp only[Int.toNat_natCast,List.getD,List.getElem?_eq_getElem hlt,Option.getD_some]
        unfold Dn
        rw[if_pos hn,hsu.1,hsu.2.1,hsu.2.2.1,hsu.2.2.2])
       have Vu:=JD.out.keep (aL W4.heap.size W4).drew (aC _)
       have Rk:=ah (Vu.K_ (g:=sb) (n:=l.sl.length) (cap:=y7) rfl (k*5+3) (by omega) (.int .i64 (iA+n)) (Bc l.sl k hlt (iA+n)) (by simp))
       have hrw:=JD.out.s
       simp only[Sv.v]at hrw
       obtain⟨cur,hcur⟩:=eu hrw
       have hoth:∀c,c≠sb→(W4.drew.setCell ⟨sb,k*5+3,none⟩ (.int .i64 (iA+n))).heap[c]? =W4.heap[c]? :=fun c hc=>aW W4.drew _ _ (fun e=>hc e.symm) _
       have TU:=ah (lI NY.out hoth hcur (by decide))
       have oC:=ah (lI yZ.out hoth hcur (by decide))
       have hge:w.heap.size≤sb:=by have h1:=(JD.out.s.lt sb rfl).1;have h2:=HZ1.out;omega
       have Vv:=ah ((jd.out.drew).setCell (p:=⟨sb,k*5+3,none⟩) hge (.int .i64 (iA+n)))
       have iw:IntKind.i64.wrap (iA+n)=iA+n:=IntWalk.i64_in _ (by omega)
       have Gt:=Rk
       rw[hsu.1,hsu.2.1,hsu.2.2.2]at Gt
       clear Vu hrw hcur hoth hge Rk hsu Gq
       go_upto_region 12 with fail
       go_still_tail 10,(by kernel_rfl)
       change wpList _ _ _ _ _ W4.drew
       go_upto_region 14 with fail
       rw[show (W4.setCell ⟨sb,k*5+3,none⟩ (.int .i64 (iA+n))).drew=(W4.drew.setCell ⟨sb,k*5+3,none⟩ (.int .i64 (iA+n)))from rfl]
       generalize (W4.drew.setCell ⟨sb,k*5+3,none⟩ (.int .i64 (iA+n)))=W5 at*
       clear iw d0 d1 d2 d3 d4 d5 d6 s0 s1 s2 s3 s4 Yi Yj e5 e6 e8
       obtain⟨d0,d1,d2,d3,d4,d5,d6,_⟩:=aB TU.out
       obtain⟨g0,g1,g2,g3,g4,g5,g6,_⟩:=aB oC.out
       have f0:=ak oC.out 0
       have f1:=ak oC.out 1
       have f2:=ak oC.out 2
       have f3:=ak oC.out 3
       have f4:=ak oC.out 4
       have f5:=ak oC.out 5
       have f6:=ak oC.out 6
       go_wp2
       refine bodyPost_ret (v:=.tuple #[.agg #[.int .i64 y1,.int .i64 y2,.int .i64 y3,.int .i64 y4,.slice (some ⟨sb,0,none⟩) l.sl.length y7,.slice y8 y9 bW,.slice bX cB y13],.int .i64 0]) (by simp[results,Tryz.results33,go_sem, *]) rfl (show fO _ _ _ _ from xI.out _ _ _ _ _ _ _ _ _ _ _ _ hru.out Vv.out Gt.out)
      ·have hsu:=Gq.out
       have hru:Hid (dM l 4 key n=(⟨l.dev,l.epoch,l.bY,l.last,l.sl.set k ⟨l.sl[k].key,su,sd,iA,jS-n⟩,l.ids,l.used⟩,0)):=ah (by
        unfold dM pz
        rw[if_pos rfl,La.out,if_neg (by omega),if_neg (by simp only[Int.toNat_natCast,List.getD,List.getElem?_eq_getElem hlt,Option.getD_some];exact JC.out)]
        simp only[Int.toNat_natCast,List.getD,List.getElem?_eq_getElem hlt,Option.getD_some]
        unfold Dn
        rw[if_neg hn,hsu.1,hsu.2.1,hsu.2.2.1,hsu.2.2.2])
       have Vu:=JD.out.keep (aL W4.heap.size W4).drew (aC _)
       have Rk:=ah (Vu.K_ (g:=sb) (n:=l.sl.length) (cap:=y7) rfl (k*5+4) (by omega) (.int .i64 (jS-n)) (Bd l.sl k hlt (jS-n)) (by simp))
       have hrw:=JD.out.s
       simp only[Sv.v]at hrw
       obtain⟨cur,hcur⟩:=eu hrw
       have hoth:∀c,c≠sb→(W4.drew.setCell ⟨sb,k*5+4,none⟩ (.int .i64 (jS-n))).heap[c]? =W4.heap[c]? :=fun c hc=>aW W4.drew _ _ (fun e=>hc e.symm) _
       have TU:=ah (lI NY.out hoth hcur (by decide))
       have oC:=ah (lI yZ.out hoth hcur (by decide))
       have hge:w.heap.size≤sb:=by have h1:=(JD.out.s.lt sb rfl).1;have h2:=HZ1.out;omega
       have Vv:=ah ((jd.out.drew).setCell (p:=⟨sb,k*5+4,none⟩) hge (.int .i64 (jS-n)))
       have iw:IntKind.i64.wrap (jS-n)=jS-n:=IntWalk.i64_in _ (by omega)
       have Gt:=Rk
       rw[hsu.1,hsu.2.1,hsu.2.2.1]at Gt
       clear Vu hrw hcur hoth hge Rk hsu Gq
       go_upto_region 13 with fail
       go_still_tail 10,(by kernel_rfl)
       change wpList _ _ _ _ _ W4.drew
       go_upto_region 14 with fail
       rw[show (W4.setCell ⟨sb,k*5+4,none⟩ (.int .i64 (jS-n))).drew=(W4.drew.setCell ⟨sb,k*5+4,none⟩ (.int .i64 (jS-n)))from rfl]
       generalize (W4.drew.setCell ⟨sb,k*5+4,none⟩ (.int .i64 (jS-n)))=W5 at*
       clear iw d0 d1 d2 d3 d4 d5 d6 s0 s1 s2 s3 s4 Yi Yj e5 e6 e8
       obtain⟨d0,d1,d2,d3,d4,d5,d6,_⟩:=aB TU.out
       obtain⟨g0,g1,g2,g3,g4,g5,g6,_⟩:=aB oC.out
       have f0:=ak oC.out 0
       have f1:=ak oC.out 1
       have f2:=ak oC.out 2
       have f3:=ak oC.out 3
       have f4:=ak oC.out 4
       have f5:=ak oC.out 5
       have f6:=ak oC.out 6
       go_wp2
       refine bodyPost_ret (v:=.tuple #[.agg #[.int .i64 y1,.int .i64 y2,.int .i64 y3,.int .i64 y4,.slice (some ⟨sb,0,none⟩) l.sl.length y7,.slice y8 y9 bW,.slice bX cB y13],.int .i64 0]) (by simp[results,Tryz.results33,go_sem, *]) rfl (show fO _ _ _ _ from xI.out _ _ _ _ _ _ _ _ _ _ _ _ hru.out Vv.out Gt.out)
    ·have wE:Hid (∀j (hj:j<l.sl.length),j<k+1→decide (l.sl[j].key=key)=false):=ah (fun j hj hjk=>by
      by_cases e:j=k
      ·subst e;simpa using hq
      ·exact HJ.out j hj (by omega))
     have HE2:Hid _:=ah (show decide (l.sl[k].key=key)=false by simpa using hq)
     rw[HE2.out]at HE
     have e1:=HE.out
     clear hq HE HE2 HJ
     generalize l.sl[k]=s at*
     go_wp2_with fail
     go_quiet (fail)
     go_wp2
     go_roundw
     case rel=>exact⟨k+1,by omega,by go_num,wE,below_drewN HRR.out _⟩
     case measure=>simp[intOf];omega
   ·have hr:Hid (dM l 4 key n=(l,14)):=ah (by
     have hi:kL l.sl key= -1:=fA (fun x hx=>by obtain⟨j,hj,rfl⟩:=List.getElem_of_mem hx;exact HJ.out j hj (by omega))
     unfold dM pz;rw[if_pos rfl,hi,if_pos (by omega)])
    have iG:¬ (k:Int)<l.sl.length:=by omega
    clear d0 d1 d2 d3 d4 d5 d6
    obtain⟨d0,d1,d2,d3,d4,d5,d6,_⟩:=aB Vr.out
    obtain⟨g0,g1,g2,g3,g4,g5,g6,_⟩:=aB HR2.out
    have f0:=ak HR2.out 0
    have f1:=ak HR2.out 1
    have f2:=ak HR2.out 2
    have f3:=ak HR2.out 3
    have f4:=ak HR2.out 4
    have f5:=ak HR2.out 5
    have f6:=ak HR2.out 6
    go_wp2
    refine bodyPost_ret (v:=.tuple #[.agg #[.int .i64 y1,.int .i64 y2,.int .i64 y3,.int .i64 y4,.slice y5 l.sl.length y7,.slice y8 y9 bW,.slice bX cB y13],.int .i64 14]) (by simp[results,Tryz.results33,go_sem, *]) rfl (show fO _ _ _ _ from xI.out _ _ _ _ _ _ _ _ _ _ _ _ hr.out Yh.out Vq.out)
 ·by_cases A9:kind=5
  ·subst A9
   go_wp2_with fail
   refine(wH _ l.ids n _ (aI HY.out.i)).mono ?_
   rintro e W3 ⟨rfl,rfl⟩
   cases hq:eB l.ids n with
   | false=>
    have hr:Hid (dM l 5 key n=(l,14)):=ah (by unfold dM rY;rw[if_neg (by omega),if_pos rfl,if_pos hq])
    clear d0 d1 d2 d3 d4 d5 d6 hq
    obtain⟨d0,d1,d2,d3,d4,d5,d6,_⟩:=aB qh.out
    obtain⟨g0,g1,g2,g3,g4,g5,g6,_⟩:=aB fJ.out
    have f0:=ak fJ.out 0
    have f1:=ak fJ.out 1
    have f2:=ak fJ.out 2
    have f3:=ak fJ.out 3
    have f4:=ak fJ.out 4
    have f5:=ak fJ.out 5
    have f6:=ak fJ.out 6
    go_wp2
    refine bodyPost_ret (v:=.tuple #[.agg #[.int .i64 y1,.int .i64 y2,.int .i64 y3,.int .i64 y4,.slice y5 y6 y7,.slice y8 y9 bW,.slice bX cB y13],.int .i64 14]) (by simp[results,Tryz.results33,go_sem, *]) rfl (show fO _ _ _ _ from xI.out _ _ _ _ _ _ _ _ _ _ _ _ hr.out HB2.out HY.out)
   | true=>
    have HQ:=ah hq
    clear hq
    go_wp2_with fail
    refine(Qm _ l.used n _ (aI HY.out.u)).mono ?_
    rintro e W4 ⟨rfl,rfl⟩
    cases hq:l.used.contains n with
    | true=>
     have hr:Hid (dM l 5 key n=(l,7)):=ah (by unfold dM rY;rw[if_neg (by omega),if_pos rfl,if_neg (by rw[HQ.out];simp),if_pos hq])
     clear d0 d1 d2 d3 d4 d5 d6 hq
     obtain⟨d0,d1,d2,d3,d4,d5,d6,_⟩:=aB qh.out
     obtain⟨g0,g1,g2,g3,g4,g5,g6,_⟩:=aB fJ.out
     have f0:=ak fJ.out 0
     have f1:=ak fJ.out 1
     have f2:=ak fJ.out 2
     have f3:=ak fJ.out 3
     have f4:=ak fJ.out 4
     have f5:=ak fJ.out 5
     have f6:=ak fJ.out 6
     go_wp2
     refine bodyPost_ret (v:=.tuple #[.agg #[.int .i64 y1,.int .i64 y2,.int .i64 y3,.int .i64 y4,.slice y5 y6 y7,.slice y8 y9 bW,.slice bX cB y13],.int .i64 7]) (by simp[results,Tryz.results33,go_sem, *]) rfl (show fO _ _ _ _ from xI.out _ _ _ _ _ _ _ _ _ _ _ _ hr.out HB2.out HY.out)
    | false=>
     have hr:Hid (dM l 5 key n=(⟨l.dev,l.epoch,l.bY,l.last,l.sl,l.ids,fU l.used n⟩,0)):=ah (by unfold dM rY;rw[if_neg (by omega),if_pos rfl,if_neg (by rw[HQ.out];simp),if_neg (by rw[hq];simp)])
     clear hq
     have hul:=HB.out.u
     go_wp2_with fail
     refine(z_ _ l.used n _ (aI HY.out.u) (by omega)).mono ?_
     rintro e W5 ⟨v',rfl,ho,hb5⟩
     obtain⟨jl,cap',rfl,_,_⟩:=aP ho
     have hk0:=aj qh.out hb5 (bg qh.out).1
     have hk2:=aj fJ.out hb5 (bg fJ.out).1
     have hoth:∀c,c≠w.heap.size→(W5.setCell ⟨w.heap.size,6,none⟩ (.slice jl (fU l.used n).length cap')).heap[c]? =W5.heap[c]? :=fun c hc=>aW _ _ _ (fun e=>hc e.symm) _
     have CF:=ah (Kj hk0 (.slice jl (fU l.used n).length cap'))
     have kI:=ah ((hoth (w.heap.size+2) (by omega)).trans hk2)
     have hyk:=HY.out.keep hb5 (aC _)
     have hsz:=HB2.out.size
     have hW1:W1.heap.size≤W4.heap.size:=by
      have h1:=(bg fJ.out).1
      have h2:=HZ1.out
      omega
     have Rk:Hid (iC (W5.setCell ⟨w.heap.size,6,none⟩ (.slice jl (fU l.used n).length cap')) W1.heap.size ⟨y1,y2,y3,y4,⟨y5,y6,y7⟩,⟨y8,y9,bW⟩,⟨jl,(fU l.used n).length,cap'⟩⟩ ⟨l.dev,l.epoch,l.bY,l.last,l.sl,l.ids,fU l.used n⟩):=
      ah ⟨hyk.dev,hyk.epoch,hyk.bY,hyk.last,aH hyk.s hoth hk0 (by decide),aH hyk.i hoth hk0 (by decide),aH (aO ho hW1) hoth hk0 (by decide)⟩
     have Vv:=ah ((HB2.out.trans (hb5.mono HB2.out.size)).setCell (p:=⟨w.heap.size,6,none⟩) (aC _) (.slice jl (fU l.used n).length cap'))
     clear d0 d1 d2 d3 d4 d5 d6 ho hb5 hoth hyk hk2 e5 e6 e8
     obtain⟨d0,d1,d2,d3,d4,d5,d6,_⟩:=aB hk0
     have f6:=ak hk0 6
     clear hk0
     go_upto_region 22 with fail
     generalize W5.setCell ⟨w.heap.size,6,none⟩ (.slice jl (fU l.used n).length cap')=W6 at*
     clear d0 d1 d2 d3 d4 d5 d6 f6
     obtain⟨d0,d1,d2,d3,d4,d5,d6,_⟩:=aB CF.out
     obtain⟨g0,g1,g2,g3,g4,g5,g6,_⟩:=aB kI.out
     have f0:=ak kI.out 0
     have f1:=ak kI.out 1
     have f2:=ak kI.out 2
     have f3:=ak kI.out 3
     have f4:=ak kI.out 4
     have f5:=ak kI.out 5
     have f6:=ak kI.out 6
     go_wp2
     refine bodyPost_ret (v:=.tuple #[.agg #[.int .i64 y1,.int .i64 y2,.int .i64 y3,.int .i64 y4,.slice y5 y6 y7,.slice y8 y9 bW,.slice jl (fU l.used n).length cap'],.int .i64 0]) (by simp[results,Tryz.results33,go_sem, *]) rfl (show fO _ _ _ _ from xI.out _ _ _ _ _ _ _ _ _ _ _ _ hr.out Vv.out Rk.out)
  ·have hr:Hid (dM l kind key n=(l,0)):=ah (by unfold dM;rw[if_neg hkd,if_neg A9])
   have q4:(kind==4)=false:=by simpa using hkd
   have q5:(kind==5)=false:=by simpa using A9
   obtain⟨g0,g1,g2,g3,g4,g5,g6,_⟩:=aB fJ.out
   have f0:=ak fJ.out 0
   have f1:=ak fJ.out 1
   have f2:=ak fJ.out 2
   have f3:=ak fJ.out 3
   have f4:=ak fJ.out 4
   have f5:=ak fJ.out 5
   have f6:=ak fJ.out 6
   clear hkd A9
   go_wp2
   refine bodyPost_ret (v:=.tuple #[.agg #[.int .i64 y1,.int .i64 y2,.int .i64 y3,.int .i64 y4,.slice y5 y6 y7,.slice y8 y9 bW,.slice bX cB y13],.int .i64 0]) (by simp[results,Tryz.results33,go_sem, *]) rfl (show fO _ _ _ _ from xI.out _ _ _ _ _ _ _ _ _ _ _ _ hr.out HB2.out HY.out)
end Go.Proofs.YtlfopoimbbpfdaaGreat
namespace Go.Proofs.YtlfopoimbbpfdaaGreat
open Go.RowKit
def hits (acc:List Rg) (r:Rg):Bool:=acc.any (fun x=>decide (x.1<r.2)&&decide (r.1<x.2))
def pR:List Rg→List (List Rg)→Bool
 | _,[]=>true
 | acc,l::t=>if l.any (hits acc)then false else pR (acc++l) t
theorem Lb {acc:List Rg} {rows:List (List Rg)} {k j:Nat} (hk:k<rows.length) (hj:j<rows[k].length) (h:hits acc rows[k][j]=true):pR acc (rows.drop k)=false:=by
 rw[List.drop_eq_getElem_cons hk,pR,if_pos]
 rw[List.any_eq_true];exact⟨_,List.getElem_mem hj,h⟩
theorem IK {acc:List Rg} {rows:List (List Rg)} {k:Nat} (hk:k<rows.length) (h:gY (fun _ r=>!hits acc r) rows[k] rows[k].length):pR acc (rows.drop k)=pR (acc++rows[k]) (rows.drop (k+1)):=by
 rw[List.drop_eq_getElem_cons hk,pR,if_neg]
 rw[List.any_eq_true]
 rintro⟨r,hr,hh⟩
 obtain⟨j,hj,rfl⟩:=List.getElem_of_mem hr
 have:(!hits acc rows[k][j])=true:=h j hj hj
 rw[hh]at this
 cases this
theorem Lc {acc:List Rg} {rows:List (List Rg)} {k:Nat} (hk:rows.length≤k):pR acc (rows.drop k)=true:=by
 rw[List.drop_of_length_le hk,pR]
theorem Gu (rows:List (List Rg)) (k:Nat):(rows.take k).flatten.length≤rows.flatten.length:=by
 conv=>rhs;rw[←List.take_append_drop k rows,List.flatten_append,List.length_append]
 omega
theorem Ab (rows:List (List Rg)) (k:Nat) (hk:k<rows.length):(rows.take (k+1)).flatten=(rows.take k).flatten++rows[k]:=by
 rw[aV rows k hk,List.flatten_append];simp
def xJ (w:World) (v:Value) (rows:List (List Rg)):Prop:=∃ss:List Sv,cK Jv 1 w v ss∧bI (fun s l=>fq w s.v l) ss rows
theorem xJ.keep {w w':World} {v:Value} {l:List (List Rg)} {B:Nat} (h:xJ w v l) (hb:Below B w w') (hB:w.heap.size≤B):xJ w' v l:=by
 obtain⟨ss,h1,h2⟩:=h
 exact⟨ss,cK.keep h1 hb hB,h2.imp (fun _ _ r=>fq.keep r hb hB)⟩
set_option maxRecDepth 100000 in
set_option maxHeartbeats 4000000 in
theorem IL (v:Value) (rows:List (List Rg)) (w:World) (h:xJ w v rows) (hlen:rows.flatten.length<1000000):
  Calls Tryz.prog 44 #[v] w fun e w'=>e= .returned (.bool (pR [] rows))∧Below w.heap.size w w':=by
 obtain⟨ss,hs,hss⟩:=h
 obtain⟨ao,cap,rfl,hcap,hm⟩:=Sl.shape hs
 have HLEN:=ah hss.len
 have Vw:=ah hss
 clear hss
 go_enter Tryz.func44,Tryz.ntmps44
 go_wp2
 go_loopw[3,10] (fun v3 v10 wr=>∃ (k:Nat) (acc:List Rg),k≤ss.length∧v10= .int .i64 k∧acc=(rows.take k).flatten∧pR [] rows=pR acc (rows.drop k)∧wr.ownsRow w.heap.size 56 2 v3 acc.length (aR acc)∧Below w.heap.size w wr) (fun _ v10 _=>ss.length-(intOf v10).toNat)
 case atStart=>exact⟨0,[],Nat.zero_le _,rfl,by simp,rfl,World.ownsRow_nil _ _ _ _,aL _ _⟩
 case round=>
  obtain⟨k,acc,hk,rfl,hacc,hgo,hrow,hb⟩:=hrel
  have hal:acc.length<1000000:=by rw[hacc];exact Nat.lt_of_le_of_lt (Gu _ _) hlen
  have aah:=ah hacc
  have sQ:=ah hgo
  clear hacc hgo
  rcases Nat.lt_or_ge k ss.length with hlt | hge
  ·have hlt2:k<rows.length:=by rw[←HLEN.out];exact hlt
   obtain⟨b,off,rfl,hbl,c0⟩:=cK.sv hs hb (aC _) k hlt
   have iG:(k:Int)<ss.length:=by omega
   have Yl:=fq.keep (bI.at Vw.out k hlt hlt2) hb (aC _)
   have Vx:=ah (fun j hj=>Lb (acc:=acc) (k:=k) (j:=j) hlt2 hj)
   have pY:=ah (IK (acc:=acc) hlt2)
   have HFL:=ah (Ab rows k hlt2)
   have hrl:rows[k].length<1000000:=by
    have:=Gu rows (k+1);rw[Ab rows k hlt2,List.length_append]at this;omega
   generalize rows[k]=l at*
   generalize ss[k]=s at*
   obtain⟨s1,s2,s3⟩:=s
   simp only[Sv.v]at c0 Yl
   obtain⟨hsn,Vy,Vz⟩:=Sl.lens (s:=⟨s1,s2,s3⟩) Yl
   simp only at hsn Vy Vz
   subst hsn
   obtain⟨Ut,aeR,rfl,_,_⟩:=aP hrow
   obtain⟨W,hW⟩:∃W,W=wr:=⟨_,rfl⟩
   subst hW
   have Rl:=ah hrow
   have HB:=ah hb
   have HRK:=ah Yl
   go_wp2
   go_loopw[16] (fun v16 wr=>∃ (j:Nat),j≤l.length∧v16= .int .i64 j∧gY (fun _ r=>!hits acc r) l j∧Below W.heap.size W wr) (fun v16 _=>l.length-(intOf v16).toNat)
   case atStart=>exact⟨0,Nat.zero_le _,rfl,lD _ _,aL _ _⟩
   case round=>
    obtain⟨j,hj,rfl,hA,hb2⟩:=hrel
    have HA:=ah hA
    clear hA c0 hrow hb
    have hz2:=hb2.size
    have hz1:=HB.out.size
    rcases Nat.lt_or_ge j l.length with hjl | ZK
    ·obtain⟨b2,off2,rfl,YT,e0,e1⟩:=fq.pair Yl hb2 (aC _) j hjl
     have uF:(j:Int)<l.length:=by omega
     have rF:Hid (hits acc l[j]=false→gY (fun _ r=>!hits acc r) l (j+1)):=ah (fun h=>gY.step HA.out hjl (by show(!hits acc l[j])=true;rw[h];rfl))
     have BK:=ah (Vx.out j hjl)
     have oP:Hid (hits acc l[j]=acc.any (fun x=>decide (x.1<l[j].2)&&decide (l[j].1<x.2))):=rfl
     generalize hits acc l[j]=q at*
     generalize l[j]=r at*
     obtain⟨p1,p2⟩:=r
     simp only at e0 e1
     have dK:Below W.heap.size W (wr.alloc (.cells #[.int .i64 p1,.int .i64 p2] 56)):=hb2.alloc hz2 _
     have hn:=heap_alloc_new wr (.cells #[.int .i64 p1,.int .i64 p2] 56)
     have HRA:=ah (aI (aJ Rl.out dK (aC _)))
     obtain⟨n0,n1,_⟩:=eP hn
     have TU:=ah n0
     have TD:=ah n1
     have mX:=ah dK
     clear hn n0 n1 dK
     go_wp2_with fail
     generalize wr.alloc (.cells #[.int .i64 p1,.int .i64 p2] 56)=w7 at*
     refine(zJ _ acc _ _ _ _ HRA.out (Nw TU.out TD.out acc)).mono ?_
     rintro e w8 ⟨rfl,nE⟩
     have e2:(acc.any fun x=>decide (x.1<p2)&&decide (p1<x.2))=q:=oP.out.symm
     rw[e2]
     have Ym:=ah (mX.out.trans (nE.mono mX.out.size))
     clear oP e2 nE HRA TU TD mX e0 e1
     cases q with
     | true=>
      go_wp2
      go_ret
      exact⟨aN (by rw[sQ.out,BK.out (by first | rfl | trivial)]),HB.out.trans (Ym.out.mono hz1)⟩
     | false=>
      go_wp2
      go_roundw
      case rel=>exact⟨j+1,by omega,by go_num,rF.out (by first | rfl | trivial),Ym.out⟩
      case measure=>simp[intOf];omega
    ·have QX:j=l.length:=by omega
     subst QX
     have vI:=ah (pY.out HA.out)
     have hrow2:=aJ Rl.out hb2 (aC _)
     have aaj:=(fq.keep HRK.out hb2 (aC _)).rd
     have hbw:=HB.out.trans (hb2.mono hz1)
     clear pY Vx
     go_wp2_with ((with_reducible refine aY 26 ?_);refine mU rfl _ _ rfl w.heap.size _ acc.length acc rfl hrow2 s1 l.length s3 l rfl rfl aaj (by omega) (by omega) ?_;intro v6 w6 qO D8 Ic)
     have hb6:=hbw.grown D8 (by omega) (fun g hg=>by have:=bK Rl.out g hg;omega)
     rw[←List.length_append]at qO
     go_roundw
     case rel=>exact⟨k+1,acc++l,by omega,by go_num,by rw[HFL.out,aah.out],by rw[sQ.out,vI.out],qO,hb6⟩
     case measure=>simp[intOf];omega
  ·go_wp2
   go_ret
   exact⟨aN (by rw[sQ.out,Lc (by rw[←HLEN.out];exact hge)]),hb⟩
end Go.Proofs.YtlfopoimbbpfdaaGreat
