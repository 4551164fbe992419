/- What the law asks, in parts: LGf LSe LPs. -/
import Derived.IntWalk
import Derived.Test.YtlfopoimbbpfdaaGreatPk10
import Derived.Test.YtlfopoimbbpfdaaGreatPk11
import Derived.Test.YtlfopoimbbpfdaaGreatPk8
import Derived.Test.YtlfopoimbbpfdaaGreatPk9
set_option linter.all false
namespace Go.Proofs.YtlfopoimbbpfdaaGreat
open Go.RowKit
def bD (b:Bk) (l:Ls) (pre:List Wn):List Wn→Bk×Ls×Int
 | []=>(b,l,0)
 | w::ws=>if rH w=true∧pre.any (fun x=>decide (x.key=w.key))=true then(b,l,7)
  else if dB b w=0 then bD (gy b w) (iE b l w) (pre++ [w]) ws else(b,l,dB b w)
def mF (d:Int) (ls:List Ls):Nat:=(ls.takeWhile (fun x=>decide (x.dev<d))).length
def og (l:Ls) (ls:List Ls):List Ls:=ls.take (mF l.dev ls)++l::ls.drop (mF l.dev ls)
def newL (d ep un:Int):Ls:=⟨d,ep,un,-1,[],[],[]⟩
def ku (d ep un:Int) (n:Nat):Bool:=(decide (0≤d)&&decide (d≤5))&&((decide (1≤ep)&&decide (ep≤1073741824))&&((decide (0≤un)&&decide (un≤2199023255552))&&decide (n≤5)))
def fM (b:Bk) (d ep un:Int) (ws:List Wn):Bk×Ls×Int:=
 if ku d ep un ws.length=false then(b,mK,1)
 else if b.ls.any (fun l=>decide (l.dev=d))=true then(b,mK,19)
 else if (bD b (newL d ep un) [] ws).2.2=0 then
  (⟨(bD b (newL d ep un) [] ws).1.cs,(bD b (newL d ep un) [] ws).1.free,og (bD b (newL d ep un) [] ws).2.1 (bD b (newL d ep un) [] ws).1.ls,(bD b (newL d ep un) [] ws).1.bound⟩,(bD b (newL d ep un) [] ws).2.1,0)
 else(b,mK,(bD b (newL d ep un) [] ws).2.2)
theorem qC {b:Bk} {l:Ls} {pre ws:List Wn} {w:Wn} (h1:rH w=true) (h2:pre.any (fun x=>decide (x.key=w.key))=true):bD b l pre (w::ws)=(b,l,7):=by rw[bD,if_pos ⟨h1,h2⟩]
theorem lZ {b:Bk} {l:Ls} {pre ws:List Wn} {w:Wn} (h1:¬ (rH w=true∧pre.any (fun x=>decide (x.key=w.key))=true)) (h2:dB b w≠0):bD b l pre (w::ws)=(b,l,dB b w):=by rw[bD,if_neg h1,if_neg h2]
theorem qD {b:Bk} {l:Ls} {pre ws:List Wn} {w:Wn} (h1:¬ (rH w=true∧pre.any (fun x=>decide (x.key=w.key))=true)) (h2:dB b w=0):bD b l pre (w::ws)=bD (gy b w) (iE b l w) (pre++ [w]) ws:=by rw[bD,if_neg h1,if_pos h2]
theorem CV (l:List Rg):∀n,0≤n→Small l→Small (bO l n).1∧Small (bO l n).2:=by
 induction l with
 | nil=>intro n _ h;exact⟨h,h⟩
 | cons r l ih=>
  intro n hn h
  have hr:=h r (by simp)
  have hl:Small l:=fun x hx=>h x (by simp[hx])
  unfold bO
  split
  ·exact⟨fun x hx=>by simp at hx,h⟩
  ·split
   ·refine⟨fun x hx=>?_,fun x hx=>?_⟩
    ·simp at hx;subst hx;simp only;omega
    ·rcases List.mem_cons.1 hx with rfl | hx
     ·simp only;omega
     ·exact hl x hx
   ·obtain⟨i1,i2⟩:=ih (n-(r.2-r.1)) (by omega) hl
    refine⟨fun x hx=>?_,i2⟩
    rcases List.mem_cons.1 hx with rfl | hx
    ·exact hr
    ·exact i1 x hx
structure Ij (i:Nat) (b0:Bk) (l0:Ls) (b:Bk) (l:Ls):Prop where
 nc:b.cs.length=b0.cs.length
 nf:b.free.length≤b0.free.length
 ni:l.ids.length≤i*b0.free.length
 ns:l.sl.length≤i
 small:Small b.free
 ct:∀c∈b.cs,0≤c.up∧c.up≤2199023255552∧0≤c.down∧c.down≤2199023255552
 ls:b.ls=b0.ls
 bound:b.bound=b0.bound
 dev:l.dev=l0.dev
 epoch:l.epoch=l0.epoch
 bY:l.bY=l0.bY
 last:l.last=l0.last
 used:l.used= []
theorem Ij.zero {b:Bk} {d ep un:Int} (hs:Small b.free) (hc:∀c∈b.cs,0≤c.up∧c.up≤2199023255552∧0≤c.down∧c.down≤2199023255552):Ij 0 b (newL d ep un) b (newL d ep un):=
 ⟨rfl,aC _,by simp[newL],by simp[newL],hs,hc,rfl,rfl,rfl,rfl,rfl,rfl,rfl⟩
theorem Ij.step {i:Nat} {b0 b:Bk} {l0 l:Ls} {w:Wn} (h:Ij i b0 l0 b l) (hw:dB b w=0):Ij (i+1) b0 l0 (gy b w) (iE b l w):=by
 have hC:fK b w=0:=by
  unfold dB at hw
  split at hw
  ·assumption
  ·exact hw
 obtain⟨hB,hk⟩:=gI hC
 obtain⟨⟨u1,u2⟩,⟨d1,d2⟩,i1,i2⟩:=AL hB
 have hlen:=nN b.free w.ids
 have hadd:=gH (bO b.free w.ids).1 l.ids
 have hsm:=CV b.free w.ids i1 h.small
 have hnf:=h.nf
 have hni:=h.ni
 have hns:=h.ns
 refine⟨?_,?_,?_,?_,hsm.2,?_,h.ls,h.bound,h.dev,h.epoch,h.bY,h.last,h.used⟩
 ·unfold gy;simp only
  split
  ·exact h.nc
  ·rw[List.length_set];exact h.nc
 ·show(bO b.free w.ids).2.length≤_
  omega
 ·show(bG l.ids (bO b.free w.ids).1).length≤_
  rw[Nat.add_mul];omega
 ·unfold iE;simp only
  split
  ·omega
  ·simp;omega
 ·unfold gy;simp only
  rcases hk with hk | ⟨hk,h0,h1,h2⟩
  ·rw[if_pos hk];exact h.ct
  ·rw[if_neg (by rw[hk];simp)]
   intro c hc
   rcases List.mem_or_eq_of_mem_set hc with hc | rfl
   ·exact h.ct c hc
   ·rcases bQ (fun c:Ct=>decide (c.key=w.key)) b.cs with⟨hi,_⟩ | ⟨k,hkk,hi,_,_⟩
    ·exact absurd (by rw[show bH b.cs w.key= -1 from hi];decide) h0
    ·have e:jo b w=b.cs[k]:=by unfold jo;rw[show bH b.cs w.key=k from hi];simp[List.getD,List.getElem?_eq_getElem hkk]
     rw[e]at h1 h2
     have:=h.ct b.cs[k] (List.getElem_mem hkk)
     simp only[e]
     omega
theorem Ij.wtB {i:Nat} {b0 b:Bk} {l0 l:Ls} (h:Ij i b0 l0 b l) (hi:i<5) (hc:b0.cs.length<1000) (hf:b0.free.length<10000):WtB b l:=by
 have h1:=h.nc
 have h2:=h.nf
 have h3:=h.ni
 have h4:=h.ns
 have:i*b0.free.length≤5*b0.free.length:=Nat.mul_le_mul_right _ (by omega)
 exact⟨by omega,by omega,by omega,by omega,h.small,h.ct⟩
theorem Gf (d:Int) (ls:List Ls):mF d ls≤ls.length:=by unfold mF;exact(List.takeWhile_sublist _).length_le
theorem vQ {d:Int}:∀ {ls:List Ls} {k:Nat},k≤ls.length→(∀j (hj:j<ls.length),j<k→ls[j].dev<d)→(∀h:k<ls.length,¬ls[k].dev<d)→mF d ls=k:=by
 intro ls
 induction ls with
 | nil=>intro k hk _ _;simp at hk;subst hk;rfl
 | cons x ls ih=>
  intro k hk h1 h2
  cases k with
  | zero=>
   have:=h2 (by simp)
   simp only[List.getElem_cons_zero]at this
   unfold mF
   rw[List.takeWhile_cons_of_neg (by simpa using this)]
   rfl
  | succ k=>
   have hx:=h1 0 (by simp) (by omega)
   simp only[List.getElem_cons_zero]at hx
   unfold mF
   rw[List.takeWhile_cons_of_pos (by simpa using hx),List.length_cons]
   congr 1
   exact ih (by simpa using hk) (fun j hj hjk=>by have:=h1 (j+1) (by simpa using hj) (by omega);simpa using this) (fun hh=>by have:=h2 (by simpa using hh);simpa using this)
end Go.Proofs.YtlfopoimbbpfdaaGreat
namespace Go.Proofs.YtlfopoimbbpfdaaGreat
open Go.RowKit
def mG (w:World) (r:Bk×Ls×Int) (e:Ending) (w':World):Prop:=∃ (x':bZ) (y':bV) (xs:List bV) (C:Nat),e= .returned (.tuple #[fT x',nI y',.int .i64 r.2.2])∧pX w' w.heap.size C x' r.1 xs∧w.heap.size≤C∧iC w' w.heap.size y' r.2.1∧Below w.heap.size w w'
structure Kw (b:Bk):Prop where
 nc:b.cs.length<1000
 nf:b.free.length<10000
 nl:b.ls.length<10000
 nb:b.bound.length<100000
 each:∀l∈b.ls,l.sl.length<1000∧l.ids.length<100000∧l.used.length<100000
 small:Small b.free
 ct:∀c∈b.cs,0≤c.up∧c.up≤2199023255552∧0≤c.down∧c.down≤2199023255552
theorem Kw.UR {b:Bk} (h:Kw b):zN b:=⟨by have:=h.nc;omega,by have:=h.nf;omega,by have:=h.nl;omega,by have:=h.nb;omega,fun l hl=>by have:=h.each l hl;exact⟨by omega,by omega,by omega⟩⟩
theorem Ky (w:World) (a b c d:Obj):∃W,((((w.alloc a).alloc b).alloc c).alloc d)=W∧W.heap[w.heap.size]? =some a∧W.heap[w.heap.size+1]? =some b∧W.heap[w.heap.size+2]? =some c∧W.heap[w.heap.size+3]? =some d∧Below w.heap.size w W∧W.heap.size=w.heap.size+4:=by
 refine⟨_,rfl,?_,?_,?_,?_,?_,?_⟩
 ·rw[Below.heap_alloc _ _ _ (by simp;omega)];exact wR w a b c
 ·rw[Below.heap_alloc _ _ _ (by first | (simp;done) | (simp;omega))];exact wS w a b c
 ·rw[Below.heap_alloc _ _ _ (by first | (simp;done) | (simp;omega))];exact wT w a b c
 ·have h:=heap_alloc_new (((w.alloc a).alloc b).alloc c) d
  simpa using h
 ·exact((((aL _ _).alloc (aC _) _).alloc (by simp) _).alloc (by simp;omega) _).alloc (by simp;omega) _
 ·simp
theorem EP {b:Bk} {d ep un:Int} {ws:List Wn} (h:ku d ep un ws.length=false):fM b d ep un ws=(b,mK,1):=by unfold fM;rw[if_pos h]
theorem CW {b:Bk} {d ep un:Int} {ws:List Wn} (h:ku d ep un ws.length=true) (h2:b.ls.any (fun l=>decide (l.dev=d))=true):fM b d ep un ws=(b,mK,19):=by unfold fM;rw[if_neg (by rw[h];simp),if_pos h2]
theorem xB {b:Bk} {d ep un:Int} {ws:List Wn} {n:Int} (h:ku d ep un ws.length=true) (h2:b.ls.any (fun l=>decide (l.dev=d))=false) (h3:(bD b (newL d ep un) [] ws).2.2=n) (hn:n≠0):fM b d ep un ws=(b,mK,n):=by
 unfold fM;rw[if_neg (by rw[h];simp),if_neg (by rw[h2];simp),h3,if_neg hn]
theorem Ik {b b':Bk} {l':Ls} {d ep un:Int} {ws:List Wn} (h:ku d ep un ws.length=true) (h2:b.ls.any (fun l=>decide (l.dev=d))=false) (h3:bD b (newL d ep un) [] ws=(b',l',0)):fM b d ep un ws=(⟨b'.cs,b'.free,og l' b'.ls,b'.bound⟩,l',0):=by
 unfold fM;rw[if_neg (by rw[h];simp),if_neg (by rw[h2];simp),h3,if_pos rfl]
theorem l8 {w U U2:World} {b:Bk} {x:bZ} {xs:List bV} {C p:Nat} {n:Int} (hw:Below w.heap.size w U) (hb:Below U.heap.size U U2) (ho:pX U2 U.heap.size C x b xs) (hC:U.heap.size≤C) (hp:w.heap.size≤p) (NM:p+1<U.heap.size) (y0 y1 y2 y3 y4 y5 y6:Value):
  mG w (b,mK,n) (.returned (.tuple #[fT x,nI rD,.int .i64 n])) (((((((((((U2.setCell ⟨p,0,none⟩ x.c.v).setCell ⟨p,1,none⟩ x.f.v).setCell ⟨p,2,none⟩ x.l.v).setCell ⟨p,3,none⟩ x.b.v).setCell ⟨p+1,0,none⟩ y0).setCell ⟨p+1,1,none⟩ y1).setCell ⟨p+1,2,none⟩ y2).setCell ⟨p+1,3,none⟩ y3).setCell ⟨p+1,4,none⟩ y4).setCell ⟨p+1,5,none⟩ y5).setCell ⟨p+1,6,none⟩ y6):=by
 have h1:=(((ho.put hC ⟨p,0,none⟩ (by simp;omega) x.c.v).put hC ⟨p,1,none⟩ (by simp;omega) x.f.v).put hC ⟨p,2,none⟩ (by simp;omega) x.l.v).put hC ⟨p,3,none⟩ (by simp;omega) x.b.v
 have h2:=(((((((h1.put hC ⟨p+1,0,none⟩ (by simp;omega) y0).put hC ⟨p+1,1,none⟩ (by simp;omega) y1).put hC ⟨p+1,2,none⟩ (by simp;omega) y2).put hC ⟨p+1,3,none⟩ (by simp;omega) y3).put hC ⟨p+1,4,none⟩ (by simp;omega) y4).put hC ⟨p+1,5,none⟩ (by simp;omega) y5).put hC ⟨p+1,6,none⟩ (by simp;omega) y6)
 refine⟨x,rD,xs,C,rfl,h2.base hw.size,Nat.le_trans hw.size hC,gX _ _,?_⟩
 have hbw:=hw.trans (hb.mono hw.size)
 exact(((((((((((hbw.setCell (by simp;omega) _).setCell (by simp;omega) _).setCell (by simp;omega) _).setCell (by simp;omega) _).setCell (by simp;omega) _).setCell (by simp;omega) _).setCell (by simp;omega) _).setCell (by simp;omega) _).setCell (by simp;omega) _).setCell (by simp;omega) _).setCell (by simp;omega) _)
set_option maxRecDepth 100000 in
set_option maxHeartbeats 8000000 in
theorem Il (x:bZ) (b:Bk) (dev ep un:Int) (v:Value) (ws:List Wn) (w:World) (h:eD w x b) (hG:Kw b) (hv:oH w v ws) (hA:ku dev ep un ws.length=false):
  Calls Tryz.prog 25 #[fT x,.int .i64 dev,.int .i64 ep,.int .i64 un,v] w (mG w (fM b dev ep un ws)):=by
 obtain⟨⟨ca,cn,cc⟩,⟨fa,aX,fc⟩,⟨la,ln,lc⟩,⟨ba,b_n,bc⟩⟩:=x
 obtain⟨ao,cap,rfl,hcap,hcm⟩:=Sl.shape hv
 rw[EP hA]
 obtain⟨a1,ha1⟩:∃a1,(decide (0≤dev)&&decide (dev≤5))=a1:=⟨_,rfl⟩
 obtain⟨a2,ha2⟩:∃a2,(decide (1≤ep)&&decide (ep≤1073741824))=a2:=⟨_,rfl⟩
 obtain⟨a3,Ii⟩:∃a3,(decide (0≤un)&&decide (un≤2199023255552))=a3:=⟨_,rfl⟩
 have HA1:=ah ha1
 have HA2:=ah ha2
 have D_:=ah Ii
 unfold ku at hA
 rw[ha1,ha2,Ii]at hA
 have Zq:=ah hA
 clear ha1 ha2 Ii hA
 obtain⟨W1,hW1,k0,k1,k2,k3,hb1,hz1⟩:=Ky w (.cells #[.slice ca cn cc,.slice fa aX fc,.slice la ln lc,.slice ba b_n bc] 30) (.cells #[.int .i64 dev] 3) (.cells #[.slice none 0 0,.slice none 0 0,.slice none 0 0,.slice none 0 0] 30) (.cells #[.int .i64 0,.int .i64 0,.int .i64 0,.int .i64 0,.slice none 0 0,.slice none 0 0,.slice none 0 0] 48)
 have HW1:=ah hW1
 have HZ1:=ah hz1
 have hz1':w.heap.size+3<W1.heap.size:=by omega
 have K0:=ah k0
 have K1:=ah k1
 have K2:=ah k2
 have K3:=ah k3
 have HM:=ah (h.keep hb1 (aC _))
 have dV:=ah hb1
 have HB:=ah hG.UR
 clear hW1 hz1 k0 k1 k2 k3 hb1 h hG hv
 change Calls Tryz.prog _ #[.agg #[.slice ca cn cc,.slice fa aX fc,.slice la ln lc,.slice ba b_n bc],.int .i64 dev,.int .i64 ep,.int .i64 un,.slice ao ws.length cap] w _
 go_enter Tryz.func25,Tryz.ntmps25
 go_upto_region 1 with fail
 rw[HW1.out]
 obtain⟨d0,d1,d2,d3,_⟩:=ay K0.out
 have e0:W1.cell? ⟨w.heap.size+1,0,none⟩=some (.int .i64 dev):=by simp[World.cell?,K1.out]
 have d4:decide (5<ws.length)=!decide (ws.length≤5):=by rw[←decide_not];congr 1;simp
 generalize hnl:decide (ws.length≤5)=a4 at*
 have UJ:=ah hnl
 clear hnl
 cases a1
 case' true=>cases a2
 case' true.true=>cases a3
 case' true.true.true=>cases a4
 case true.true.true.true=>exact absurd Zq.out (by decide)
 all_goals
  clear d4
  try (have h5:5<ws.length:=by simpa using UJ.out)
  try (have h6:(5:Int)<ws.length:=by omega)
  go_wp2_with (first
   | ((go_at_call 63;refine(dG _ _ _ _).mono ?_);(first | rw[HA1.out] | rw[HA2.out] | rw[D_.out]);rintro e w9 ⟨rfl,rfl⟩)
   | fail)
  refine(h_ ⟨⟨ca,cn,cc⟩,⟨fa,aX,fc⟩,⟨la,ln,lc⟩,⟨ba,b_n,bc⟩⟩ b _ HM.out HB.out).mono ?_
  rintro e U2 ⟨⟨⟨da,dn,dc⟩,⟨ea,e_n,ec⟩,⟨ma,mn,mc⟩,⟨na,jB,nc⟩⟩,xs,C,rfl,ho,hC,hb4⟩
  have HO:=ah ho
  have HC:=ah hC
  have jd:=ah hb4
  have hk2:=aj K2.out hb4 (by omega)
  have hk3:=aj K3.out hb4 (by omega)
  obtain⟨r0,r1,r2,r3,_⟩:=ay hk2
  have f0:=aA hk2 0
  have f1:=aA hk2 1
  have f2:=aA hk2 2
  have f3:=aA hk2 3
  obtain⟨q0,q1,q2,q3,q4,q5,q6,_⟩:=aB hk3
  have f4:=ak hk3 0
  have f5:=ak hk3 1
  have f6:=ak hk3 2
  have f7:=ak hk3 3
  have f8:=ak hk3 4
  have f9:=ak hk3 5
  have f10:=ak hk3 6
  clear hb4 hk2 hk3 ho hC
  go_wp2
  refine bodyPost_ret (v:=.tuple #[.agg #[.slice da dn dc,.slice ea e_n ec,.slice ma mn mc,.slice na jB nc],.agg #[.int .i64 0,.int .i64 0,.int .i64 0,.int .i64 0,.slice none 0 0,.slice none 0 0,.slice none 0 0],.int .i64 1]) (by simp[results,Tryz.results25,go_sem, *]) rfl (show mG _ _ _ _ from ?_)
  exact l8 (x:=⟨⟨da,dn,dc⟩,⟨ea,e_n,ec⟩,⟨ma,mn,mc⟩,⟨na,jB,nc⟩⟩) (p:=w.heap.size+2) dV.out jd.out HO.out HC.out (by omega) (by omega) _ _ _ _ _ _ _
end Go.Proofs.YtlfopoimbbpfdaaGreat
namespace Go.Proofs.YtlfopoimbbpfdaaGreat
open Go.RowKit
theorem cK.take {α:Type} {f:α→List Value} {E:Nat} (hE:∀x,(f x).length=E) {w:World} {ao:Option Addr} {cap:Nat} {l:List α} (h:cK f E w (.slice ao l.length cap) l) (k:Nat) (hk:k≤l.length):cK f E w (.slice ao k cap) (l.take k):=by
 obtain⟨h0,jl,cap',h1,h2,h3,h4,h5⟩:=h
 injection h1 with h1 _ h1c
 subst h1 h1c
 have hl:(l.take k).length=k:=by rw[List.length_take];omega
 refine⟨bL hE _,ao,cap,by rw[hl],by omega,h3,fun e=>⟨by rw[hl];have:=(h4 e).1;omega,(h4 e).2⟩,fun j u hu=>h5 j u ?_⟩
 rw[←uE hE,List.getElem?_take]at hu
 split at hu
 ·exact hu
 ·cases hu
theorem Gr.QW {B D pb pl:Nat} {w0 W:World} {x:bZ} {b:Bk} {xs:List bV} {y:bV} {l:Ls} (h:Gr B D pb pl w0 W x b xs y l) (k:Nat) (hk:k<b.ls.length):∃g cap,x.l=⟨some ⟨g,0,none⟩,b.ls.length,cap⟩∧b.ls.length≤cap∧cap≤9223372036854775807∧g<W.heap.size∧
  W.cell? ⟨g,k*7,none⟩=some (.int .i64 b.ls[k].dev):=by
 obtain⟨g,cap,he⟩:=fu h.rl (by omega)
 have hrl:=h.rl
 rw[he]at hrl
 obtain⟨p1,p2,p3,p4,p5,p6,p7⟩:=bq hrl
 have hkx:k<xs.length:=by rw[h.each.len];exact hk
 refine⟨g,cap,?_,p3,p4,p2,?_⟩
 ·obtain⟨_,_,⟨c1,c2,c3⟩,_⟩:=x
  injection he with e1 e2 e3
  simp only at e1 e2 e3
  subst e1 e2 e3
  rfl
 ·rw[← (h.each.at k hkx hk).dev]
  exact p7 _ _ (by rw[←Nat.add_zero (k*7),bP iB _ k hkx 0 (by omega)];rfl)
theorem Gr.UW {B D pb pl:Nat} {w0 W:World} {x:bZ} {b:Bk} {xs:List bV} {y:bV} {l:Ls} (h:Gr B D pb pl w0 W x b xs y l):x.l.n=b.ls.length∧b.ls.length≤x.l.cap∧x.l.cap≤9223372036854775807:=Sl.lens (aI h.rl)
theorem Gr.ins {B D pb pl:Nat} {w0 W W8 W9:World} {x:bZ} {b:Bk} {xs:List bV} {y y2:bV} {l:Ls} {v':Sv} {k:Nat} (h:Gr B D pb pl w0 W x b xs y l) (nE:Below W.heap.size W W8) (hy:iC W8 B y2 l)
  (ho:W9.ownsRow B 48 7 v'.v (b.ls.length+1) ((aK iZ xs).take (k*7)++iZ y2++(aK iZ xs).drop (k*7))) (hg:W8.grownBy W9 x.l.v.ownBlock) (hk:k≤b.ls.length)
  (acz:v'.v.ownBlock=x.l.v.ownBlock∨ ∃g,v'.v.ownBlock=some g∧W8.heap.size≤g):
  eD (W9.setCell ⟨pb,2,none⟩ v'.v) ⟨x.c,x.f,v',x.b⟩ ⟨b.cs,b.free,b.ls.take k++l::b.ls.drop k,b.bound⟩∧lW (W9.setCell ⟨pb,2,none⟩ v'.v) y l∧
   (W9.setCell ⟨pb,2,none⟩ v'.v).heap[pb]? =some (.cells #[x.c.v,x.f.v,v'.v,x.b.v] 30 (0,0))∧
   (W9.setCell ⟨pb,2,none⟩ v'.v).heap[pl]? =some (.cells #[.int .i64 y.dev,.int .i64 y.epoch,.int .i64 y.bY,.int .i64 y.last,y.s.v,y.i.v,y.u.v] 48 (0,0))∧Below B w0 (W9.setCell ⟨pb,2,none⟩ v'.v)∧
   W9.heap[pb]? =some (.cells #[x.c.v,x.f.v,x.l.v,x.b.v] 30 (0,0))∧W9.heap[pl]? =some (.cells #[.int .i64 y.dev,.int .i64 y.epoch,.int .i64 y.bY,.int .i64 y.last,y.s.v,y.i.v,y.u.v] 48 (0,0)):=by
 have h8:=h.keep nE
 have hne:∀ {base e E v n zs},W8.ownsRow base e E v n zs→e≠ 48 →W9.ownsRow base e E v n zs:=fun {base e E v n zs} hr he=>by
  refine hr.kept hg ?_
  cases hv:v.ownBlock with
  | none=>exact .inl rfl
  | some q=>
   refine .inr (fun hq=>?_)
   rcases hy:x.l.v.ownBlock with _ | q2
   ·rw[hy]at hq;cases hq
   ·rw[hy]at hq
    obtain⟨cur,hc⟩:=jK h8.rl hy
    injection hq with hq
    subst hq
    exact jW hr hc he hv
 have hpb:W9.heap[pb]? =some (.cells #[x.c.v,x.f.v,x.l.v,x.b.v] 30 (0,0)):=by
  rw[hg.block pb (bg h8.kb).1 (fun e=>by
   obtain⟨cur,hc⟩:=jK h8.rl e.symm
   rw[h8.kb]at hc
   injection hc with hc
   injection hc with _ hc _
   exact absurd hc (by decide))]
  exact h8.kb
 have hpl:W9.heap[pl]? =some (.cells #[.int .i64 y.dev,.int .i64 y.epoch,.int .i64 y.bY,.int .i64 y.last,y.s.v,y.i.v,y.u.v] 48 (0,0)):=by
  rw[hg.block pl (bg h8.kl).1 (fun e=>h8.NG e.symm)]
  exact h8.kl
 have hbel:Below B w0 W9:=h8.aZ.grown hg (Nat.le_trans h.hb (Nat.le_of_lt h8.Ie)) (fun g' hg'=>(h8.rl.lt g' hg').1)
 have hoth:∀c,c≠pb→(W9.setCell ⟨pb,2,none⟩ v'.v).heap[c]? =W9.heap[c]? :=fun c hc=>aW _ _ _ (fun e=>hc e.symm) _
 have hkb:(W9.setCell ⟨pb,2,none⟩ v'.v).heap[pb]? =some (.cells #[x.c.v,x.f.v,v'.v,x.b.v] 30 (0,0)):=by simp[World.setCell,Array.getElem?_modify,hpb]
 have ZJ:∀ {z:bV} {m:Ls},iC W8 B z m→lW (W9.setCell ⟨pb,2,none⟩ v'.v) z m:=fun {z m} hz=>
  iC.m (B:=B) ⟨hz.dev,hz.epoch,hz.bY,hz.last,aH (hne hz.s (by decide)) hoth hpb (by decide),aH (hne hz.i (by decide)) hoth hpb (by decide),aH (hne hz.u (by decide)) hoth hpb (by decide)⟩
 have hkx:k≤xs.length:=by rw[h.each.len];exact hk
 have hrow:=aI (aH ho hoth hpb (by decide))
 rw[uE iB,BU iB,List.append_assoc,←aU,←dU]at hrow
 refine⟨⟨aI (aH (hne h8.rc (by decide)) hoth hpb (by decide)),aI (aH (hne h8.rf (by decide)) hoth hpb (by decide)),⟨xs.take k++y2::xs.drop k,?_,?_⟩,aI (aH (hne h8.rb (by decide)) hoth hpb (by decide))⟩,?_,hkb,(hoth pl (fun e=>h.ne e.symm)).trans hpl,hbel.setCell h.hb _,hpb,hpl⟩
 ·show Sl _ _ _ _ _
  rw[show (xs.take k++y2::xs.drop k).length=b.ls.length+1 by simp only[List.length_append,List.length_take,List.length_cons,List.length_drop];have:=h.each.len;omega]
  exact hrow
 ·exact bI.append ((h8.each.take k).imp (fun _ _ r=>ZJ r)) ⟨ZJ hy,(h8.each.drop k).imp (fun _ _ r=>ZJ r)⟩
 ·exact⟨h.dev,h.epoch,h.bY,h.last,aI (aH (hne h8.ys (by decide)) hoth hpb (by decide)),aI (aH (hne h8.yi (by decide)) hoth hpb (by decide)),by rw[h.yu,h.used];exact Sl.nil _ _⟩
end Go.Proofs.YtlfopoimbbpfdaaGreat
namespace Go.Proofs.YtlfopoimbbpfdaaGreat
open Go.RowKit
def bS (key:ByteArray):List Sc→Int
 | []=>0
 | s::t=>(if s.key=key then s.up-s.uu else 0)+bS key t
def leftD (key:ByteArray):List Sc→Int
 | []=>0
 | s::t=>(if s.key=key then s.down-s.ud else 0)+leftD key t
def bA (key:ByteArray):List Ls→Int
 | []=>0
 | l::t=>bS key l.sl+bA key t
def bB (key:ByteArray):List Ls→Int
 | []=>0
 | l::t=>leftD key l.sl+bB key t
def Pj (l:List Sc):Prop:=∀s∈l,0≤s.uu∧s.uu≤s.up∧s.up≤9223372036854775807∧0≤s.ud∧s.ud≤s.down∧s.down≤9223372036854775807
theorem rO (key:ByteArray) (a b:List Sc):bS key (a++b)=bS key a+bS key b:=by
 induction a with
 | nil=>simp[bS]
 | cons s t ih=>simp only[List.cons_append,bS,ih];omega
theorem rP (key:ByteArray) (a b:List Sc):leftD key (a++b)=leftD key a+leftD key b:=by
 induction a with
 | nil=>simp[leftD]
 | cons s t ih=>simp only[List.cons_append,leftD,ih];omega
theorem oU (key:ByteArray) (a b:List Ls):bA key (a++b)=bA key a+bA key b:=by
 induction a with
 | nil=>simp[bA]
 | cons s t ih=>simp only[List.cons_append,bA,ih];omega
theorem oV (key:ByteArray) (a b:List Ls):bB key (a++b)=bB key a+bB key b:=by
 induction a with
 | nil=>simp[bB]
 | cons s t ih=>simp only[List.cons_append,bB,ih];omega
theorem rQ (key:ByteArray) (l:List Sc) (h:Pj l):0≤bS key l∧0≤leftD key l:=by
 induction l with
 | nil=>exact⟨Int.le_refl _,Int.le_refl _⟩
 | cons s t ih=>
  have h1:=h s (by simp)
  have h2:=ih (fun x hx=>h x (by simp[hx]))
  simp only[bS,leftD]
  split<;>omega
theorem kV (key:ByteArray) (l:List Ls) (h:∀x∈l,Pj x.sl):0≤bA key l∧0≤bB key l:=by
 induction l with
 | nil=>exact⟨Int.le_refl _,Int.le_refl _⟩
 | cons s t ih=>
  have h1:=rQ key s.sl (h s (by simp))
  have h2:=ih (fun x hx=>h x (by simp[hx]))
  simp only[bA,bB]
  omega
theorem tY (key:ByteArray) (l:List Sc) (h:Pj l) (k:Nat):bS key (l.take k)≤bS key l∧leftD key (l.take k)≤leftD key l:=by
 have h1:=rO key (l.take k) (l.drop k)
 have h2:=rP key (l.take k) (l.drop k)
 rw[List.take_append_drop]at h1 h2
 have h3:=rQ key (l.drop k) (fun x hx=>h x (List.mem_of_mem_drop hx))
 omega
theorem oW (key:ByteArray) (l:List Ls) (h:∀x∈l,Pj x.sl) (k:Nat):bA key (l.take k)≤bA key l∧bB key (l.take k)≤bB key l:=by
 have h1:=oU key (l.take k) (l.drop k)
 have h2:=oV key (l.take k) (l.drop k)
 rw[List.take_append_drop]at h1 h2
 have h3:=kV key (l.drop k) (fun x hx=>h x (List.mem_of_mem_drop hx))
 omega
theorem oZ (key:ByteArray) (l:List Ls) (k:Nat) (hk:k<l.length):bA key (l.take (k+1))=bA key (l.take k)+bS key l[k].sl∧bB key (l.take (k+1))=bB key (l.take k)+leftD key l[k].sl:=by
 rw[aV l k hk,oU,oV];simp[bA,bB]
theorem left_step (key:ByteArray) (l:List Sc) (k:Nat) (hk:k<l.length):bS key (l.take (k+1))=bS key (l.take k)+(if l[k].key=key then l[k].up-l[k].uu else 0)∧leftD key (l.take (k+1))=leftD key (l.take k)+(if l[k].key=key then l[k].down-l[k].ud else 0):=by
 rw[aV l k hk,rO,rP];simp[bS,leftD]
def jX (ls:List Ls) (c:Ct):Bool:=decide (bA c.key ls≤c.hi-c.start-c.up)&&decide (bB c.key ls≤c.start-c.lo-c.down)
def Gg (cs:List Ct) (ls:List Ls):Bool:=decide (oO (fun _ c=>jX ls c) cs)
def CtN (c:Ct):Prop:= -1099511627776≤c.lo∧c.lo≤c.start∧c.start≤c.hi∧c.hi≤1099511627776∧0≤c.up∧c.up≤c.hi-c.start∧0≤c.down∧c.down≤c.start-c.lo
set_option maxRecDepth 100000 in
set_option maxHeartbeats 4000000 in
theorem Kz (b:bZ) (cs:List Ct) (ls:List Ls) (w:World) (hc:mD w b.c.v cs) (hl:Aq w b.l.v ls) (hcs:∀c∈cs,CtN c) (hls:∀x∈ls,Pj x.sl):
  Calls Tryz.prog 43 #[fT b] w fun e w'=>e= .returned (.bool (Gg cs ls))∧Below w.heap.size w w':=by
 obtain⟨⟨b1,b2,b3⟩,⟨b4,b5,b6⟩,⟨b7,b8,b9⟩,⟨b10,b11,b12⟩⟩:=b
 obtain⟨xs,hx,hxs⟩:=hl
 simp only[Sv.v]at hc hx
 obtain⟨hxn,hcap,hmax⟩:=Sl.lens (s:=⟨b1,b2,b3⟩) hc
 obtain⟨hln,zO,Gh⟩:=Sl.lens (s:=⟨b7,b8,b9⟩) hx
 simp only at hxn hcap hmax hln zO Gh
 subst hxn hln
 have UY:=ah hcs
 have AQ:=ah hls
 have HLEN:=ah hxs.len
 have Kk:=ah hxs
 clear hcs hls hxs
 have qh:=ah (heap_alloc_new w (.cells #[.slice b1 cs.length b3,.slice b4 b5 b6,.slice b7 xs.length b9,.slice b10 b11 b12] 30))
 change Calls Tryz.prog _ #[.agg #[.slice b1 cs.length b3,.slice b4 b5 b6,.slice b7 xs.length b9,.slice b10 b11 b12]] w _
 go_enter Tryz.func43,Tryz.ntmps43
 go_wp2
 go_loopw[14] (fun vk wr=>∃k:Nat,k≤cs.length∧vk= .int .i64 k∧gY (fun _ c=>jX ls c) cs k∧Below w.heap.size w wr∧wr.heap[w.heap.size]? =some (.cells #[.slice b1 cs.length b3,.slice b4 b5 b6,.slice b7 xs.length b9,.slice b10 b11 b12] 30 (0,0))) (fun vk _=>cs.length-(intOf vk).toNat)
 case atStart=>exact⟨0,Nat.zero_le _,rfl,lD _ _,(aL _ _).alloc (aC _) _,qh.out⟩
 case round=>
  obtain⟨k,hk,rfl,hA,hb,hk1⟩:=hrel
  have HA:=ah hA
  clear qh
  obtain⟨d0,d1,d2,d3,_⟩:=ay hk1
  have lX:w.heap.size<wr.heap.size:=(bg hk1).1
  have gF:=ah hk1
  clear hA hk1
  rcases Nat.lt_or_ge k cs.length with hlt | hge
  ·obtain⟨bb,off,rfl,hbl,e0,e1,e2,e3,e4,e5,e6⟩:=cK.ct hc hb (aC _) k hlt
   have iG:(k:Int)<cs.length:=by omega
   have BK:Hid (jX ls cs[k]=false→decide (oO (fun _ c=>jX ls c) cs)=false):=ah (rE (f:=fun _ c=>jX ls c) hlt)
   have rF:Hid (jX ls cs[k]=true→gY (fun _ c=>jX ls c) cs (k+1)):=ah (gY.step HA.out hlt)
   have oP:Hid (jX ls cs[k]=(decide (bA cs[k].key ls≤cs[k].hi-cs[k].start-cs[k].up)&&decide (bB cs[k].key ls≤cs[k].start-cs[k].lo-cs[k].down))):=rfl
   obtain⟨g1,g2,g3,g4,g5,g6,g7,g8⟩:=UY.out cs[k] (List.getElem_mem hlt)
   generalize jX ls cs[k]=ok at*
   generalize cs[k]=c at*
   obtain⟨r1,r2,r3,r4,r5,r6,r7⟩:=c
   simp only at e0 e1 e2 e3 e4 e5 e6 g1 g2 g3 g4 g5 g6 g7 g8
   have dK:Below w.heap.size w (wr.alloc (.cells #[.string r1,.int .i64 r2,.int .i64 r3,.int .i64 r4,.int .i64 r5,.int .i64 r6,.int .i64 r7] 54)):=hb.alloc (by omega) _
   have mX:=ah dK
   have HA1:=ah ((Below.heap_alloc wr (.cells #[.string r1,.int .i64 r2,.int .i64 r3,.int .i64 r4,.int .i64 r5,.int .i64 r6,.int .i64 r7] 54) w.heap.size lX).trans gF.out)
   have qy:=ah (heap_alloc_new wr (.cells #[.string r1,.int .i64 r2,.int .i64 r3,.int .i64 r4,.int .i64 r5,.int .i64 r6,.int .i64 r7] 54))
   have wK:wr.heap.size<(wr.alloc (.cells #[.string r1,.int .i64 r2,.int .i64 r3,.int .i64 r4,.int .i64 r5,.int .i64 r6,.int .i64 r7] 54)).heap.size:=by simp
   clear dK gF
   have i1:IntKind.i64.wrap (r4-r5)=r4-r5:=IntWalk.i64_in _ (by omega)
   have i2:IntKind.i64.wrap (r4-r5-r6)=r4-r5-r6:=IntWalk.i64_in _ (by omega)
   have i3:IntKind.i64.wrap (r5-r3)=r5-r3:=IntWalk.i64_in _ (by omega)
   have i4:IntKind.i64.wrap (r5-r3-r7)=r5-r3-r7:=IntWalk.i64_in _ (by omega)
   go_wp2
   generalize wr.alloc (.cells #[.string r1,.int .i64 r2,.int .i64 r3,.int .i64 r4,.int .i64 r5,.int .i64 r6,.int .i64 r7] 54)=w7 at*
   clear e0 e1 e2 e3 e4 e5 e6 d0 d1 d2 d3
   obtain⟨n0,n1,n2,n3,n4,n5,n6,_⟩:=aB qy.out
   go_quiet (fail)
   clear i1 i2 i3 i4
   obtain⟨d0,d1,d2,d3,_⟩:=ay HA1.out
   go_wp2
   have HD7:=ah (below_drewN mX.out nq)
   have tT:(w7.drewN nq).heap[wr.heap.size]? =some (.cells #[.string r1,.int .i64 r2,.int .i64 r3,.int .i64 r4,.int .i64 r5,.int .i64 r6,.int .i64 r7] 54 (0,0)):=qy.out
   have zZ:(w7.drewN nq).heap[w.heap.size]? =some (.cells #[.slice (some ⟨bb,off,none⟩) cs.length b3,.slice b4 b5 b6,.slice b7 xs.length b9,.slice b10 b11 b12] 30 (0,0)):=HA1.out
   have qP:=ah tT
   have yP:=ah zZ
   generalize w7.drewN nq=w8 at*
   generalize wr.heap.size=G at*
   clear tT zZ n0 n1 n2 n3 n4 n5 n6 d0 d1 d2 d3 qy HA1 mX hb
   have CX:=ah (oW r1 ls AQ.out)
   go_loopw[5,6,37] (fun v5 v6 v37 wr=>∃ (i:Nat) (X Y:Int),i≤xs.length∧v37= .int .i64 i∧v5= .int .i64 X∧v6= .int .i64 Y∧X=r4-r5-r6-bA r1 (ls.take i)∧Y=r5-r3-r7-bB r1 (ls.take i)∧0≤X∧0≤Y∧Below w.heap.size w wr∧
    wr.heap[w.heap.size]? =some (.cells #[.slice (some ⟨bb,off,none⟩) cs.length b3,.slice b4 b5 b6,.slice b7 xs.length b9,.slice b10 b11 b12] 30 (0,0))∧wr.heap[G]? =some (.cells #[.string r1,.int .i64 r2,.int .i64 r3,.int .i64 r4,.int .i64 r5,.int .i64 r6,.int .i64 r7] 54 (0,0))) (fun _ _ v37 _=>xs.length-(intOf v37).toNat)
   case atStart=>exact⟨0,_,_,Nat.zero_le _,rfl,rfl,rfl,by simp[bA],by simp[bB],by omega,by omega,HD7.out,yP.out,qP.out⟩
   case round=>
    obtain⟨i,X,Y,hi,rfl,rfl,rfl,hX,hY,hX0,hY0,hb,zZ,tT⟩:=hrel
    have HX:=ah hX
    have HY:=ah hY
    clear hX hY HD7 qP yP
    have qP:=ah tT
    have yP:=ah zZ
    clear tT zZ
    have lX:w.heap.size<wr.heap.size:=(bg yP.out).1
    have hzg:G<wr.heap.size:=(bg qP.out).1
    rcases Nat.lt_or_ge i xs.length with hil | hig
    ·have pK:i<ls.length:=by rw[←HLEN.out];exact hil
     obtain⟨lb,lo,rfl,hlb,e0,e1,e2,e3,e4,e5,e6⟩:=cK.ls hx hb (aC _) i hil
     have Pk:(i:Int)<xs.length:=by omega
     have hM:=(bI.at Kk.out i hil pK).s
     have M0:=AQ.out ls[i] (List.getElem_mem pK)
     have HST:=ah (oZ r1 ls i pK)
     have UZ:=ah (CX.out (i+1))
     have TF:=ah (tY r1 ls[i].sl M0)
     have Eb:=ah M0
     have U6:=ah (kV r1 (ls.take i) (fun x hx=>AQ.out x (List.mem_of_mem_take hx)))
     generalize bA r1 (ls.take i)=PU at*
     generalize bB r1 (ls.take i)=PD at*
     generalize ls[i].sl=sl at*
     generalize xs[i]=z at*
     obtain⟨z1,z2,z3,z4,⟨z5,z6,z7⟩,⟨z8,z9,dD⟩,⟨dI,z12,dJ⟩⟩:=z
     simp only[Sv.v]at e0 e1 e2 e3 e4 e5 e6 hM
     obtain⟨hzn,CY,CZ⟩:=Sl.lens (s:=⟨z5,z6,z7⟩) hM
     simp only at hzn CY CZ
     subst hzn
     have dK:=hb.alloc (Nat.le_of_lt lX) (.cells #[.int .i64 z1,.int .i64 z2,.int .i64 z3,.int .i64 z4,.slice z5 sl.length z7,.slice z8 z9 dD,.slice dI z12 dJ] 48)
     have mX:=ah dK
     have HA1:=ah ((Below.heap_alloc wr (.cells #[.int .i64 z1,.int .i64 z2,.int .i64 z3,.int .i64 z4,.slice z5 sl.length z7,.slice z8 z9 dD,.slice dI z12 dJ] 48) w.heap.size lX).trans yP.out)
     have HA2:=ah ((Below.heap_alloc wr (.cells #[.int .i64 z1,.int .i64 z2,.int .i64 z3,.int .i64 z4,.slice z5 sl.length z7,.slice z8 z9 dD,.slice dI z12 dJ] 48) G hzg).trans qP.out)
     go_wp2
     generalize wr.alloc (.cells #[.int .i64 z1,.int .i64 z2,.int .i64 z3,.int .i64 z4,.slice z5 sl.length z7,.slice z8 z9 dD,.slice dI z12 dJ] 48)=w9 at*
     clear dK e0 e1 e2 e3 e4 e5 e6 qP yP hb
     go_loopw[5,6,44] (fun v5 v6 v44 wr=>∃ (j:Nat) (X Y:Int),j≤sl.length∧v44= .int .i64 j∧v5= .int .i64 X∧v6= .int .i64 Y∧X=r4-r5-r6-(PU+bS r1 (sl.take j))∧Y=r5-r3-r7-(PD+leftD r1 (sl.take j))∧0≤X∧0≤Y∧Below w.heap.size w wr∧
      wr.heap[w.heap.size]? =some (.cells #[.slice (some ⟨bb,off,none⟩) cs.length b3,.slice b4 b5 b6,.slice (some ⟨lb,lo,none⟩) xs.length b9,.slice b10 b11 b12] 30 (0,0))∧wr.heap[G]? =some (.cells #[.string r1,.int .i64 r2,.int .i64 r3,.int .i64 r4,.int .i64 r5,.int .i64 r6,.int .i64 r7] 54 (0,0))) (fun _ _ v44 _=>sl.length-(intOf v44).toNat)
     case atStart=>exact⟨0,X,Y,Nat.zero_le _,rfl,rfl,rfl,by rw[HX.out];simp[bS],by rw[HY.out];simp[leftD],hX0,hY0,mX.out,HA1.out,HA2.out⟩
     case round=>
      clear HX HY mX HA1 HA2 hX0 hY0
      obtain⟨j,X,Y,hj,rfl,rfl,rfl,hX,hY,hX0,hY0,hb,zZ,tT⟩:=hrel
      have HX:=ah hX
      have HY:=ah hY
      have qP:=ah tT
      have yP:=ah zZ
      clear hX hY tT zZ
      have lX:w.heap.size<wr.heap.size:=(bg yP.out).1
      have hzg:G<wr.heap.size:=(bg qP.out).1
      rcases Nat.lt_or_ge j sl.length with hjl | ZK
      ·obtain⟨sb,so,rfl,hsb,e0,e1,e2,e3,e4⟩:=cK.sc hM hb (aC _) j hjl
       have uF:(j:Int)<sl.length:=by omega
       have vI:=ah (left_step r1 sl j hjl)
       have KA:=ah (TF.out (j+1))
       obtain⟨q1,q2,q3,q4,q5,q6⟩:=Eb.out sl[j] (List.getElem_mem hjl)
       have U8:=rQ r1 (sl.take j) (fun x hx=>Eb.out x (List.mem_of_mem_take hx))
       have hXB:X≤2199023255552∧Y≤2199023255552:=by have:=HX.out;have:=HY.out;have:=U6.out;omega
       obtain⟨hXB,hYB⟩:=hXB
       have TG:=ah U8
       clear U8
       generalize bS r1 (sl.take j)=LU at*
       generalize leftD r1 (sl.take j)=LD at*
       generalize sl[j]=t at*
       obtain⟨t1,t2,t3,t4,t5⟩:=t
       simp only at e0 e1 e2 e3 e4 q1 q2 q3 q4 q5 q6
       have dK:=hb.alloc (Nat.le_of_lt lX) (.cells #[.string t1,.int .i64 t2,.int .i64 t3,.int .i64 t4,.int .i64 t5] 88)
       have mX:=ah dK
       have HA1:=ah ((Below.heap_alloc wr (.cells #[.string t1,.int .i64 t2,.int .i64 t3,.int .i64 t4,.int .i64 t5] 88) w.heap.size lX).trans yP.out)
       have HA2:=ah ((Below.heap_alloc wr (.cells #[.string t1,.int .i64 t2,.int .i64 t3,.int .i64 t4,.int .i64 t5] 88) G hzg).trans qP.out)
       obtain⟨n0,n1,n2,n3,n4,n5,n6,_⟩:=aB qP.out
       have Pm:=ah (key_eq t1 r1)
       clear dK
       by_cases he:t1=r1
       ·have de:(t1.toList==r1.toList)=true:=by rw[Pm.out];simpa using he
        have de2:(t1.toList != r1.toList)=false:=by simp[bne,de]
        have HE:=ah he
        clear he
        have HS2:Hid (bS r1 (sl.take (j+1))=LU+(t2-t4)∧leftD r1 (sl.take (j+1))=LD+(t3-t5)):=by have:=vI.out;simp only[HE.out,if_true]at this;exact ah this
        go_wp2
        all_goals first
         | (go_ret
            exact⟨aN (BK.out (by rw[oP.out];have h1:=HX.out;have h2:=HY.out;have h3:=HS2.out;have h4:=KA.out;have h5:=UZ.out;have h6:=HST.out;rw[Bool.and_eq_false_iff,decide_eq_false_iff_not,decide_eq_false_iff_not];omega)).symm,mX.out⟩)
         | (go_roundw
            case rel=>exact⟨j+1,X-(t2-t4),Y-(t3-t5),by omega,by go_num,rfl,rfl,by rw[HS2.out.1,HX.out];omega,by rw[HS2.out.2,HY.out];omega,by omega,by omega,mX.out,HA1.out,HA2.out⟩
            case measure=>simp[intOf];omega)
       ·have de:(t1.toList==r1.toList)=false:=by rw[Pm.out];simpa using he
        have de2:(t1.toList != r1.toList)=true:=by simp[bne,de]
        have HS2:Hid (bS r1 (sl.take (j+1))=LU∧leftD r1 (sl.take (j+1))=LD):=by have:=vI.out;simp only[if_neg he,Int.add_zero]at this;exact ah this
        clear he
        go_wp2
        go_roundw
        case rel=>exact⟨j+1,X,Y,by omega,by go_num,rfl,rfl,by rw[HS2.out.1];exact HX.out,by rw[HS2.out.2];exact HY.out,hX0,hY0,mX.out,HA1.out,HA2.out⟩
        case measure=>simp[intOf];omega
      ·have QX:j=sl.length:=by omega
       subst QX
       have NN:Hid (X=r4-r5-r6-bA r1 (ls.take (i+1))):=by show _=_;rw[HST.out.1,HX.out,List.take_length]
       have Im:Hid (Y=r5-r3-r7-bB r1 (ls.take (i+1))):=by show _=_;rw[HST.out.2,HY.out,List.take_length]
       go_wp2
       go_roundw
       case rel=>exact⟨i+1,X,Y,by omega,by go_num,rfl,rfl,NN.out,Im.out,hX0,hY0,hb,yP.out,qP.out⟩
       case measure=>simp[intOf];omega
    ·have q_:Hid (X=r4-r5-r6-bA r1 ls):=by show _=_;rw[HX.out,List.take_of_length_le (by rw[←HLEN.out];exact hig)]
     have jU:Hid (Y=r5-r3-r7-bB r1 ls):=by show _=_;rw[HY.out,List.take_of_length_le (by rw[←HLEN.out];exact hig)]
     go_wp2
     go_roundw
     case rel=>exact⟨k+1,by omega,by go_num,rF.out (by rw[oP.out];have:=q_.out;have:=jU.out;simp;omega),hb,yP.out⟩
     case measure=>simp[intOf];omega
  ·go_wp2
   go_ret
   exact⟨aN (gY.all HA.out hge).symm,hb⟩
end Go.Proofs.YtlfopoimbbpfdaaGreat
namespace Go.Proofs.YtlfopoimbbpfdaaGreat
open Go.RowKit
structure pO where
 dev:Int
 epoch:Int
 seq:Int
 coll:Int
 ver:Int
 kind:Int
 key:ByteArray
 text:ByteArray
 n:Int
 time:Int
 dots:Sv
def kL (l:List Sc) (key:ByteArray):Int:=dS (fun c=>decide (c.key=key)) l
def Jz:Sc:=⟨⟨#[]⟩,0,0,0,0⟩
def rise (l:List Int) (n:Int):List Int:=l.take (l.countP (· <n))++n::l.drop (l.countP (· <n))
def AR (s:Sc) (n:Int):Sc:=⟨s.key,s.up,s.down,s.uu+max n 0,s.ud+max (-n) 0⟩
def mH (l:Ls) (key:ByteArray) (n:Int):Ls×Int:=
 if kL l.sl key<0 then(l,14)
 else if (l.sl.getD (kL l.sl key).toNat Jz).up-(l.sl.getD (kL l.sl key).toNat Jz).uu<n∨(l.sl.getD (kL l.sl key).toNat Jz).down-(l.sl.getD (kL l.sl key).toNat Jz).ud< -n then(l,14)
 else(⟨l.dev,l.epoch,l.bY,l.last,l.sl.set (kL l.sl key).toNat (AR (l.sl.getD (kL l.sl key).toNat Jz) n),l.ids,l.used⟩,0)
def mI (l:Ls) (n:Int):Ls×Int:=
 if eB l.ids n=false then(l,14)else if l.used.contains n=true then(l,7)
 else(⟨l.dev,l.epoch,l.bY,l.last,l.sl,l.ids,rise l.used n⟩,0)
def bN (l:Ls) (kind:Int) (key:ByteArray) (n:Int):Ls×Int:=
 if kind=4 then mH l key n else if kind=5 then mI l n else(l,0)
def dY (cs:List Ct) (s:Sc):List Ct:=
 if bH cs s.key<0 then cs
 else cs.set (bH cs s.key).toNat ⟨(cs.getD (bH cs s.key).toNat pJ).key,(cs.getD (bH cs s.key).toNat pJ).coll,(cs.getD (bH cs s.key).toNat pJ).lo,(cs.getD (bH cs s.key).toNat pJ).hi,(cs.getD (bH cs s.key).toNat pJ).start,
  (cs.getD (bH cs s.key).toNat pJ).up+(s.up-s.uu),(cs.getD (bH cs s.key).toNat pJ).down+(s.down-s.ud)⟩
def dN (ids:List Rg) (n:Int):List Rg:=if eB ids n=true then bU ids n else ids
def fH (l:List Int) (n:Int):List Int:=if l.contains n=true then l else rise l n
def KC (b:Bk) (i:Nat) (l:Ls):Bk:=⟨l.sl.foldl dY b.cs,bG b.free (l.used.foldl dN l.ids),b.ls.eraseIdx i,l.used.foldl fH b.bound⟩
def mg (b:Bk) (d ep:Int):Bk×Int:=if jF b.ls d ep<0 then(b,2)else(KC b (jF b.ls d ep).toNat (b.ls.getD (jF b.ls d ep).toNat mK),0)
def oh (b:Bk) (key:ByteArray):List Int:=
 if bH b.cs key<0 then [0,0,0,0,0,0]
 else [(b.cs.getD (bH b.cs key).toNat pJ).up,bA key b.ls,(b.cs.getD (bH b.cs key).toNat pJ).hi-(b.cs.getD (bH b.cs key).toNat pJ).start-(b.cs.getD (bH b.cs key).toNat pJ).up-bA key b.ls,
  (b.cs.getD (bH b.cs key).toNat pJ).down,bB key b.ls,(b.cs.getD (bH b.cs key).toNat pJ).start-(b.cs.getD (bH b.cs key).toNat pJ).lo-(b.cs.getD (bH b.cs key).toNat pJ).down-bB key b.ls]
end Go.Proofs.YtlfopoimbbpfdaaGreat
