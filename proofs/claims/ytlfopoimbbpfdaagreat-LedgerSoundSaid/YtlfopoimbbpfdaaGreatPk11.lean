/- What the law asks, in parts: LGf LSe LPs. -/
import Derived.IntWalk
import Derived.Test.YtlfopoimbbpfdaaGreatPk9
import Derived.Test.YtlfopoimbbpfdaaGreatPk10
import Derived.Test.YtlfopoimbbpfdaaGreatPk7
import Derived.Test.YtlfopoimbbpfdaaGreatPk8
set_option linter.all false
set_option maxRecDepth 100000
set_option maxHeartbeats 16000000
namespace Go.Proofs.YtlfopoimbbpfdaaGreat
open Go.RowKit
def bI (b:Bk) (l:Ls) (pre:List Wn):List Wn→Bk×Ls×Int
 | []=>(b,l,0)
 | w::ws=>if wJ w=true∧pre.any (fun x=>decide (x.key=w.key))=true then(b,l,7)
  else if dY b w=0 then bI (iG b w) (jG b l w) (pre++ [w]) ws else(b,l,dY b w)
def pR (d:Int) (ls:List Ls):Nat:=(ls.takeWhile (fun x=>decide (x.dev<d))).length
def sD (l:Ls) (ls:List Ls):List Ls:=ls.take (pR l.dev ls)++l::ls.drop (pR l.dev ls)
def newL (d ep un:Int):Ls:=⟨d,ep,un,-1,[],[],[]⟩
def nA (d ep un:Int) (n:Nat):Bool:=(decide (0≤d)&&decide (d≤5))&&((decide (1≤ep)&&decide (ep≤1073741824))&&((decide (0≤un)&&decide (un≤2199023255552))&&decide (n≤5)))
def h_ (b:Bk) (d ep un:Int) (ws:List Wn):Bk×Ls×Int:=
 if nA d ep un ws.length=false then(b,oD,1)
 else if b.ls.any (fun l=>decide (l.dev=d))=true then(b,oD,19)
 else if (bI b (newL d ep un) [] ws).2.2=0 then
  (⟨(bI b (newL d ep un) [] ws).1.cs,(bI b (newL d ep un) [] ws).1.free,sD (bI b (newL d ep un) [] ws).2.1 (bI b (newL d ep un) [] ws).1.ls,(bI b (newL d ep un) [] ws).1.bound⟩,(bI b (newL d ep un) [] ws).2.1,0)
 else(b,oD,(bI b (newL d ep un) [] ws).2.2)
theorem vw {b:Bk} {l:Ls} {pre ws:List Wn} {w:Wn} (h1:wJ w=true) (h2:pre.any (fun x=>decide (x.key=w.key))=true):bI b l pre (w::ws)=(b,l,7):=by rw[bI,if_pos ⟨h1,h2⟩]
theorem pI {b:Bk} {l:Ls} {pre ws:List Wn} {w:Wn} (h1:¬ (wJ w=true∧pre.any (fun x=>decide (x.key=w.key))=true)) (h2:dY b w≠0):bI b l pre (w::ws)=(b,l,dY b w):=by rw[bI,if_neg h1,if_neg h2]
theorem vD {b:Bk} {l:Ls} {pre ws:List Wn} {w:Wn} (h1:¬ (wJ w=true∧pre.any (fun x=>decide (x.key=w.key))=true)) (h2:dY b w=0):bI b l pre (w::ws)=bI (iG b w) (jG b l w) (pre++ [w]) ws:=by rw[bI,if_neg h1,if_pos h2]
theorem GH (l:List Rg):∀n,0≤n→Small l→Small (bY l n).1∧Small (bY l n).2:=by
 induction l with
 | nil=>intro n _ h;exact⟨h,h⟩
 | cons r l ih=>
  intro n hn h;have hr:=h r (by simp);have hl:Small l:=fun x hx=>h x (by simp[hx])
  unfold bY
  split
  ·exact⟨fun x hx=>by simp at hx,h⟩
  ·split
   ·refine⟨fun x hx=>?_,fun x hx=>?_⟩
    ·simp at hx;subst hx;simp only;omega
    ·rcases List.mem_cons.1 hx with rfl | hx
     ·simp only;omega
     ·exact hl x hx
   ·obtain⟨i1,i2⟩:=ih (n-(r.2-r.1)) (by omega) hl
    refine⟨fun x hx=>?_,i2⟩;rcases List.mem_cons.1 hx with rfl | hx
    ·exact hr
    ·exact i1 x hx
structure MZ (i:Nat) (b0:Bk) (l0:Ls) (b:Bk) (l:Ls):Prop where
 nc:b.cs.length=b0.cs.length
 nf:b.free.length≤b0.free.length
 ni:l.ids.length≤i*b0.free.length
 ns:l.sl.length≤i
 small:Small b.free
 ct:∀c∈b.cs,0≤c.up∧c.up≤2199023255552∧0≤c.down∧c.down≤2199023255552
 ls:b.ls=b0.ls
 bound:b.bound=b0.bound
 dev:l.dev=l0.dev
 epoch:l.epoch=l0.epoch
 bU:l.bU=l0.bU
 last:l.last=l0.last
 used:l.used= []
theorem MZ.zero {b:Bk} {d ep un:Int} (hs:Small b.free) (hc:∀c∈b.cs,0≤c.up∧c.up≤2199023255552∧0≤c.down∧c.down≤2199023255552):MZ 0 b (newL d ep un) b (newL d ep un):=
 ⟨rfl,aC _,by simp[newL],by simp[newL],hs,hc,rfl,rfl,rfl,rfl,rfl,rfl,rfl⟩
theorem MZ.step {i:Nat} {b0 b:Bk} {l0 l:Ls} {w:Wn} (h:MZ i b0 l0 b l) (hw:dY b w=0):MZ (i+1) b0 l0 (iG b w) (jG b l w):=by
 have hC:g_ b w=0:=by
  unfold dY at hw
  split at hw
  ·assumption
  ·exact hw
 obtain⟨hB,hk⟩:=iP hC;obtain⟨⟨u1,u2⟩,⟨d1,d2⟩,i1,i2⟩:=EB hB;have fP:=q_ b.free w.ids;have hadd:=iN (bY b.free w.ids).1 l.ids;have hsm:=GH b.free w.ids i1 h.small;have hnf:=h.nf;have hni:=h.ni;have hns:=h.ns;refine⟨?_,?_,?_,?_,hsm.2,?_,h.ls,h.bound,h.dev,h.epoch,h.bU,h.last,h.used⟩
 ·unfold iG;simp only
  split
  ·exact h.nc
  ·rw[List.length_set];exact h.nc
 ·show(bY b.free w.ids).2.length≤_
  omega
 ·show(bK l.ids (bY b.free w.ids).1).length≤_
  rw[Nat.add_mul];omega
 ·unfold jG;simp only
  split
  ·omega
  ·simp;omega
 ·unfold iG;simp only
  rcases hk with hk | ⟨hk,h0,h1,h2⟩
  ·rw[if_pos hk];exact h.ct
  ·rw[if_neg (by rw[hk];simp)]
   intro c hc;rcases List.mem_or_eq_of_mem_set hc with hc | rfl
   ·exact h.ct c hc
   ·rcases b_ (fun c:Ct=>decide (c.key=w.key)) b.cs with⟨hi,_⟩ | ⟨k,sF,hi,_,_⟩
    ·exact absurd (by rw[show bJ b.cs w.key= -1 from hi];decide) h0
    ·have e:kL b w=b.cs[k]:=by unfold kL;rw[show bJ b.cs w.key=k from hi];simp[List.getD,List.getElem?_eq_getElem sF]
     rw[e]at h1 h2;have:=h.ct b.cs[k] (List.getElem_mem sF);simp only[e];omega
theorem MZ.wtB {i:Nat} {b0 b:Bk} {l0 l:Ls} (h:MZ i b0 l0 b l) (hi:i<5) (hc:b0.cs.length<1000) (hf:b0.free.length<10000):WtB b l:=by
 have h1:=h.nc;have h2:=h.nf;have h3:=h.ni;have h4:=h.ns;have:i*b0.free.length≤5*b0.free.length:=Nat.mul_le_mul_right _ (by omega);exact⟨by omega,by omega,by omega,by omega,h.small,h.ct⟩
theorem Le (d:Int) (ls:List Ls):pR d ls≤ls.length:=by unfold pR;exact(List.takeWhile_sublist _).length_le
theorem zZ {d:Int}:∀ {ls:List Ls} {k:Nat},k≤ls.length→(∀j (hj:j<ls.length),j<k→ls[j].dev<d)→(∀h:k<ls.length,¬ls[k].dev<d)→pR d ls=k:=by
 intro ls
 induction ls with
 | nil=>intro k hk _ _;simp at hk;subst hk;rfl
 | cons x ls ih=>
  intro k hk h1 h2
  cases k with
  | zero=>
   have:=h2 (by simp);simp only[List.getElem_cons_zero]at this;unfold pR;rw[List.takeWhile_cons_of_neg (by simpa using this)];rfl
  | succ k=>
   have hx:=h1 0 (by simp) (by omega);simp only[List.getElem_cons_zero]at hx;unfold pR;rw[List.takeWhile_cons_of_pos (by simpa using hx),List.length_cons]
   congr 1
   exact ih (by simpa using hk) (fun j hj Df=>by have:=h1 (j+1) (by simpa using hj) (by omega);simpa using this) (fun hh=>by have:=h2 (by simpa using hh);simpa using this)
end Go.Proofs.YtlfopoimbbpfdaaGreat
namespace Go.Proofs.YtlfopoimbbpfdaaGreat
open Go.RowKit
def pU (w:World) (r:Bk×Ls×Int) (e:Ending) (w':World):Prop:=∃ (x':dN) (y':cB) (xs:List cB) (C:Nat),e= .returned (.tuple #[iJ x',o9 y',.int .i64 r.2.2])∧uI w' w.heap.size C x' r.1 xs∧w.heap.size≤C∧jF w' w.heap.size y' r.2.1∧Below w.heap.size w w'
structure Px (b:Bk):Prop where
 nc:b.cs.length<1000
 nf:b.free.length<10000
 nl:b.ls.length<10000
 nb:b.bound.length<100000
 each:∀l∈b.ls,l.sl.length<1000∧l.ids.length<100000∧l.used.length<100000
 small:Small b.free
 ct:∀c∈b.cs,0≤c.up∧c.up≤2199023255552∧0≤c.down∧c.down≤2199023255552
theorem Px.ZA {b:Bk} (h:Px b):Dl b:=⟨by have:=h.nc;omega,by have:=h.nf;omega,by have:=h.nl;omega,by have:=h.nb;omega,fun l hl=>by have:=h.each l hl;exact⟨by omega,by omega,by omega⟩⟩
theorem Py (w:World) (a b c d:Obj):∃W,((((w.alloc a).alloc b).alloc c).alloc d)=W∧W.heap[w.heap.size]? =some a∧W.heap[w.heap.size+1]? =some b∧W.heap[w.heap.size+2]? =some c∧W.heap[w.heap.size+3]? =some d∧Below w.heap.size w W∧W.heap.size=w.heap.size+4:=by
 refine⟨_,rfl,?_,?_,?_,?_,?_,?_⟩
 ·rw[Below.heap_alloc _ _ _ (by simp;omega)];exact Az w a b c
 ·rw[Below.heap_alloc _ _ _ (by first | (simp;done) | (simp;omega))];exact AA w a b c
 ·rw[Below.heap_alloc _ _ _ (by first | (simp;done) | (simp;omega))];exact AB w a b c
 ·have h:=heap_alloc_new (((w.alloc a).alloc b).alloc c) d
  simpa using h
 ·exact((((aL _ _).alloc (aC _) _).alloc (by simp) _).alloc (by simp;omega) _).alloc (by simp;omega) _
 ·simp
theorem Ju {b:Bk} {d ep un:Int} {ws:List Wn} (h:nA d ep un ws.length=false):h_ b d ep un ws=(b,oD,1):=by unfold h_;rw[if_pos h]
theorem GI {b:Bk} {d ep un:Int} {ws:List Wn} (h:nA d ep un ws.length=true) (h2:b.ls.any (fun l=>decide (l.dev=d))=true):h_ b d ep un ws=(b,oD,19):=by unfold h_;rw[if_neg (by rw[h];simp),if_pos h2]
theorem AV {b:Bk} {d ep un:Int} {ws:List Wn} {n:Int} (h:nA d ep un ws.length=true) (h2:b.ls.any (fun l=>decide (l.dev=d))=false) (h3:(bI b (newL d ep un) [] ws).2.2=n) (hn:n≠0):h_ b d ep un ws=(b,oD,n):=by
 unfold h_;rw[if_neg (by rw[h];simp),if_neg (by rw[h2];simp),h3,if_neg hn]
theorem M0 {b b':Bk} {l':Ls} {d ep un:Int} {ws:List Wn} (h:nA d ep un ws.length=true) (h2:b.ls.any (fun l=>decide (l.dev=d))=false) (h3:bI b (newL d ep un) [] ws=(b',l',0)):h_ b d ep un ws=(⟨b'.cs,b'.free,sD l' b'.ls,b'.bound⟩,l',0):=by
 unfold h_;rw[if_neg (by rw[h];simp),if_neg (by rw[h2];simp),h3,if_pos rfl]
theorem pJ {w U U2:World} {b:Bk} {x:dN} {xs:List cB} {C p:Nat} {n:Int} (hw:Below w.heap.size w U) (hb:Below U.heap.size U U2) (ho:uI U2 U.heap.size C x b xs) (hC:U.heap.size≤C) (hp:w.heap.size≤p) (Td:p+1<U.heap.size) (y0 y1 y2 y3 y4 y5 y6:Value):
  pU w (b,oD,n) (.returned (.tuple #[iJ x,o9 ug,.int .i64 n])) (((((((((((U2.setCell ⟨p,0,none⟩ x.c.v).setCell ⟨p,1,none⟩ x.f.v).setCell ⟨p,2,none⟩ x.l.v).setCell ⟨p,3,none⟩ x.b.v).setCell ⟨p+1,0,none⟩ y0).setCell ⟨p+1,1,none⟩ y1).setCell ⟨p+1,2,none⟩ y2).setCell ⟨p+1,3,none⟩ y3).setCell ⟨p+1,4,none⟩ y4).setCell ⟨p+1,5,none⟩ y5).setCell ⟨p+1,6,none⟩ y6):=by
 have h1:=(((ho.put hC ⟨p,0,none⟩ (by simp;omega) x.c.v).put hC ⟨p,1,none⟩ (by simp;omega) x.f.v).put hC ⟨p,2,none⟩ (by simp;omega) x.l.v).put hC ⟨p,3,none⟩ (by simp;omega) x.b.v;have h2:=(((((((h1.put hC ⟨p+1,0,none⟩ (by simp;omega) y0).put hC ⟨p+1,1,none⟩ (by simp;omega) y1).put hC ⟨p+1,2,none⟩ (by simp;omega) y2).put hC ⟨p+1,3,none⟩ (by simp;omega) y3).put hC ⟨p+1,4,none⟩ (by simp;omega) y4).put hC ⟨p+1,5,none⟩ (by simp;omega) y5).put hC ⟨p+1,6,none⟩ (by simp;omega) y6);refine⟨x,ug,xs,C,rfl,h2.base hw.size,Nat.le_trans hw.size hC,jl _ _,?_⟩;have jw:=hw.trans (hb.mono hw.size);exact(((((((((((jw.setCell (by simp;omega) _).setCell (by simp;omega) _).setCell (by simp;omega) _).setCell (by simp;omega) _).setCell (by simp;omega) _).setCell (by simp;omega) _).setCell (by simp;omega) _).setCell (by simp;omega) _).setCell (by simp;omega) _).setCell (by simp;omega) _).setCell (by simp;omega) _)
theorem M4 (x:dN) (b:Bk) (dev ep un:Int) (v:Value) (ws:List Wn) (w:World) (h:iA w x b) (hG:Px b) (hv:sM w v ws) (hA:nA dev ep un ws.length=false):
  Calls Tryz.prog 25 #[iJ x,.int .i64 dev,.int .i64 ep,.int .i64 un,v] w (pU w (h_ b dev ep un ws)):=by
 obtain⟨⟨ca,cn,cc⟩,⟨fa,bD,fc⟩,⟨la,ln,lc⟩,⟨ba,bE,bc⟩⟩:=x;obtain⟨ao,cap,rfl,dO,qM⟩:=Sl.shape hv;rw[Ju hA];obtain⟨a1,wK⟩:∃a1,(decide (0≤dev)&&decide (dev≤5))=a1:=⟨_,rfl⟩;obtain⟨a2,sV⟩:∃a2,(decide (1≤ep)&&decide (ep≤1073741824))=a2:=⟨_,rfl⟩;obtain⟨a3,MX⟩:∃a3,(decide (0≤un)&&decide (un≤2199023255552))=a3:=⟨_,rfl⟩;have uL:=ah wK;have sW:=ah sV;have Iy:=ah MX;unfold nA at hA;rw[wK,sV,MX]at hA;have HAA:=ah hA;clear wK sV MX hA;obtain⟨W1,z_,k0,k1,k2,k3,bB,dX⟩:=Py w (.cells #[.slice ca cn cc,.slice fa bD fc,.slice la ln lc,.slice ba bE bc] 30) (.cells #[.int .i64 dev] 3) (.cells #[.slice none 0 0,.slice none 0 0,.slice none 0 0,.slice none 0 0] 30) (.cells #[.int .i64 0,.int .i64 0,.int .i64 0,.int .i64 0,.slice none 0 0,.slice none 0 0,.slice none 0 0] 48);have HW1:=ah z_;have FE:=ah dX;have hz1':w.heap.size+3<W1.heap.size:=by omega
 have K0:=ah k0;have K1:=ah k1;have K2:=ah k2;have K3:=ah k3;have HM:=ah (h.keep bB (aC _));have eY:=ah bB;have HB:=ah hG.ZA;clear z_ dX k0 k1 k2 k3 bB h hG hv;change Calls Tryz.prog _ #[.agg #[.slice ca cn cc,.slice fa bD fc,.slice la ln lc,.slice ba bE bc],.int .i64 dev,.int .i64 ep,.int .i64 un,.slice ao ws.length cap] w _
 go_enter Tryz.func25,Tryz.ntmps25
 go_upto_region 1 with fail
 rw[HW1.out];obtain⟨d0,d1,d2,d3,_⟩:=ay K0.out;have e0:W1.cell? ⟨w.heap.size+1,0,none⟩=some (.int .i64 dev):=by simp[World.cell?,K1.out]
 have d4:decide (5<ws.length)=!decide (ws.length≤5):=by rw[←decide_not];congr 1;simp
 generalize hnl:decide (ws.length≤5)=a4 at*;have Zt:=ah hnl;clear hnl
 cases a1
 case' true=>cases a2
 case' true.true=>cases a3
 case' true.true.true=>cases a4
 case true.true.true.true=>exact absurd HAA.out (by decide)
 all_goals
  clear d4
  try (have h5:5<ws.length:=by simpa using Zt.out)
  try (have h6:(5:Int)<ws.length:=by omega)
  go_wp2_with (first
   | ((go_at_call 63;refine(dZ _ _ _ _).mono ?_);(first | rw[uL.out] | rw[sW.out] | rw[Iy.out]);rintro e w9 ⟨rfl,rfl⟩)
   | fail)
  refine(jy ⟨⟨ca,cn,cc⟩,⟨fa,bD,fc⟩,⟨la,ln,lc⟩,⟨ba,bE,bc⟩⟩ b _ HM.out HB.out).mono ?_;rintro e U2 ⟨⟨⟨da,dn,dc⟩,⟨ea,kI,ec⟩,⟨ma,mn,mc⟩,⟨na,kU,nc⟩⟩,xs,C,rfl,ho,hC,bR⟩;have HO:=ah ho;have HC:=ah hC;have lC:=ah bR;have dH:=aj K2.out bR (by omega);have kH:=aj K3.out bR (by omega);obtain⟨r0,r1,r2,r3,_⟩:=ay dH;have f0:=aA dH 0;have f1:=aA dH 1;have f2:=aA dH 2;have f3:=aA dH 3;obtain⟨q0,q1,q2,q3,q4,q5,q6,_⟩:=aB kH;have f4:=ak kH 0;have f5:=ak kH 1;have f6:=ak kH 2;have f7:=ak kH 3;have f8:=ak kH 4;have f9:=ak kH 5;have f10:=ak kH 6;clear bR dH kH ho hC;go_wp2;refine bodyPost_ret (v:=.tuple #[.agg #[.slice da dn dc,.slice ea kI ec,.slice ma mn mc,.slice na kU nc],.agg #[.int .i64 0,.int .i64 0,.int .i64 0,.int .i64 0,.slice none 0 0,.slice none 0 0,.slice none 0 0],.int .i64 1]) (by simp[results,Tryz.results25,go_sem, *]) rfl (show pU _ _ _ _ from ?_);exact pJ (x:=⟨⟨da,dn,dc⟩,⟨ea,kI,ec⟩,⟨ma,mn,mc⟩,⟨na,kU,nc⟩⟩) (p:=w.heap.size+2) eY.out lC.out HO.out HC.out (by omega) (by omega) _ _ _ _ _ _ _
end Go.Proofs.YtlfopoimbbpfdaaGreat
namespace Go.Proofs.YtlfopoimbbpfdaaGreat
open Go.RowKit
theorem dI.take {α:Type} {f:α→List Value} {E:Nat} (hE:∀x,(f x).length=E) {w:World} {ao:Option Addr} {cap:Nat} {l:List α} (h:dI f E w (.slice ao l.length cap) l) (k:Nat) (hk:k≤l.length):dI f E w (.slice ao k cap) (l.take k):=by
 obtain⟨h0,kJ,cap',h1,h2,h3,h4,h5⟩:=h;injection h1 with h1 _ h1c;subst h1 h1c;have hl:(l.take k).length=k:=by rw[List.length_take];omega
 refine⟨bP hE _,ao,cap,by rw[hl],by omega,h3,fun e=>⟨by rw[hl];have:=(h4 e).1;omega,(h4 e).2⟩,fun j u hu=>h5 j u ?_⟩;rw[←yL hE,List.getElem?_take]at hu
 split at hu
 ·exact hu
 ·cases hu
theorem Gr.Wh {B D pb pl:Nat} {w0 W:World} {x:dN} {b:Bk} {xs:List cB} {y:cB} {l:Ls} (h:Gr B D pb pl w0 W x b xs y l) (k:Nat) (hk:k<b.ls.length):∃g cap,x.l=⟨some ⟨g,0,none⟩,b.ls.length,cap⟩∧b.ls.length≤cap∧cap≤9223372036854775807∧g<W.heap.size∧
  W.cell? ⟨g,k*7,none⟩=some (.int .i64 b.ls[k].dev):=by
 obtain⟨g,cap,he⟩:=fT h.rl (by omega);have uW:=h.rl;rw[he]at uW;obtain⟨p1,p2,p3,p4,p5,p6,p7⟩:=bg uW;have xL:k<xs.length:=by rw[h.each.len];exact hk
 refine⟨g,cap,?_,p3,p4,p2,?_⟩
 ·obtain⟨_,_,⟨c1,c2,c3⟩,_⟩:=x
  injection he with e1 e2 e3;simp only at e1 e2 e3;subst e1 e2 e3;rfl
 ·rw[← (h.each.at k xL hk).dev]
  exact p7 _ _ (by rw[←Nat.add_zero (k*7),bV iE _ k xL 0 (by omega)];rfl)
theorem Gr.ZB {B D pb pl:Nat} {w0 W:World} {x:dN} {b:Bk} {xs:List cB} {y:cB} {l:Ls} (h:Gr B D pb pl w0 W x b xs y l):x.l.n=b.ls.length∧b.ls.length≤x.l.cap∧x.l.cap≤9223372036854775807:=Sl.lens (aG h.rl)
theorem Gr.ins {B D pb pl:Nat} {w0 W W8 W9:World} {x:dN} {b:Bk} {xs:List cB} {y y2:cB} {l:Ls} {v':Sv} {k:Nat} (h:Gr B D pb pl w0 W x b xs y l) (qP:Below W.heap.size W W8) (hy:jF W8 B y2 l)
  (ho:W9.ownsRow B 48 7 v'.v (b.ls.length+1) ((aJ j_ xs).take (k*7)++j_ y2++(aJ j_ xs).drop (k*7))) (hg:W8.grownBy W9 x.l.v.ownBlock) (hk:k≤b.ls.length)
  (agv:v'.v.ownBlock=x.l.v.ownBlock∨ ∃g,v'.v.ownBlock=some g∧W8.heap.size≤g):
  iA (W9.setCell ⟨pb,2,none⟩ v'.v) ⟨x.c,x.f,v',x.b⟩ ⟨b.cs,b.free,b.ls.take k++l::b.ls.drop k,b.bound⟩∧nV (W9.setCell ⟨pb,2,none⟩ v'.v) y l∧
   (W9.setCell ⟨pb,2,none⟩ v'.v).heap[pb]? =some (.cells #[x.c.v,x.f.v,v'.v,x.b.v] 30 (0,0))∧
   (W9.setCell ⟨pb,2,none⟩ v'.v).heap[pl]? =some (.cells #[.int .i64 y.dev,.int .i64 y.epoch,.int .i64 y.bU,.int .i64 y.last,y.s.v,y.i.v,y.u.v] 48 (0,0))∧Below B w0 (W9.setCell ⟨pb,2,none⟩ v'.v)∧
   W9.heap[pb]? =some (.cells #[x.c.v,x.f.v,x.l.v,x.b.v] 30 (0,0))∧W9.heap[pl]? =some (.cells #[.int .i64 y.dev,.int .i64 y.epoch,.int .i64 y.bU,.int .i64 y.last,y.s.v,y.i.v,y.u.v] 48 (0,0)):=by
 have h8:=h.keep qP
 have eP:∀ {base e E v n zs},W8.ownsRow base e E v n zs→e≠ 48 →W9.ownsRow base e E v n zs:=fun {base e E v n zs} hr he=>by
  refine hr.kept hg ?_
  cases hv:v.ownBlock with
  | none=>exact .inl rfl
  | some q=>
   refine .inr (fun hq=>?_);rcases hy:x.l.v.ownBlock with _ | q2
   ·rw[hy]at hq;cases hq
   ·rw[hy]at hq
    obtain⟨cur,hc⟩:=lJ h8.rl hy;injection hq with hq;subst hq;exact mF hr hc he hv
 have hpb:W9.heap[pb]? =some (.cells #[x.c.v,x.f.v,x.l.v,x.b.v] 30 (0,0)):=by
  rw[hg.block pb (bq h8.kb).1 (fun e=>by
   obtain⟨cur,hc⟩:=lJ h8.rl e.symm;rw[h8.kb]at hc;injection hc with hc;injection hc with _ hc _
   exact absurd hc (by decide))]
  exact h8.kb
 have hpl:W9.heap[pl]? =some (.cells #[.int .i64 y.dev,.int .i64 y.epoch,.int .i64 y.bU,.int .i64 y.last,y.s.v,y.i.v,y.u.v] 48 (0,0)):=by
  rw[hg.block pl (bq h8.kl).1 (fun e=>h8.SV e.symm)];exact h8.kl
 have hbel:Below B w0 W9:=h8.bC.grown hg (Nat.le_trans h.hb (Nat.le_of_lt h8.MS)) (fun g' hg'=>(h8.rl.lt g' hg').1);have aK:∀c,c≠pb→(W9.setCell ⟨pb,2,none⟩ v'.v).heap[c]? =W9.heap[c]? :=fun c hc=>aX _ _ _ (fun e=>hc e.symm) _
 have mR:(W9.setCell ⟨pb,2,none⟩ v'.v).heap[pb]? =some (.cells #[x.c.v,x.f.v,v'.v,x.b.v] 30 (0,0)):=by simp[World.setCell,Array.getElem?_modify,hpb]
 have hLs:∀ {z:cB} {m:Ls},jF W8 B z m→nV (W9.setCell ⟨pb,2,none⟩ v'.v) z m:=fun {z m} hz=>
  jF.m (B:=B) ⟨hz.dev,hz.epoch,hz.bU,hz.last,aF (eP hz.s (by decide)) aK hpb (by decide),aF (eP hz.i (by decide)) aK hpb (by decide),aF (eP hz.u (by decide)) aK hpb (by decide)⟩
 have xL:k≤xs.length:=by rw[h.each.len];exact hk
 have eu:=aG (aF ho aK hpb (by decide));rw[yL iE,FK iE,List.append_assoc,←aY,←fE]at eu;refine⟨⟨aG (aF (eP h8.rc (by decide)) aK hpb (by decide)),aG (aF (eP h8.rf (by decide)) aK hpb (by decide)),⟨xs.take k++y2::xs.drop k,?_,?_⟩,aG (aF (eP h8.rb (by decide)) aK hpb (by decide))⟩,?_,mR,(aK pl (fun e=>h.ne e.symm)).trans hpl,hbel.setCell h.hb _,hpb,hpl⟩
 ·show Sl _ _ _ _ _
  rw[show (xs.take k++y2::xs.drop k).length=b.ls.length+1 by simp only[List.length_append,List.length_take,List.length_cons,List.length_drop];have:=h.each.len;omega];exact eu
 ·exact bN.append ((h8.each.take k).imp (fun _ _ r=>hLs r)) ⟨hLs hy,(h8.each.drop k).imp (fun _ _ r=>hLs r)⟩
 ·exact⟨h.dev,h.epoch,h.bU,h.last,aG (aF (eP h8.ys (by decide)) aK hpb (by decide)),aG (aF (eP h8.yi (by decide)) aK hpb (by decide)),by rw[h.yu,h.used];exact Sl.nil _ _⟩
end Go.Proofs.YtlfopoimbbpfdaaGreat
namespace Go.Proofs.YtlfopoimbbpfdaaGreat
open Go.RowKit
def dh (key:ByteArray):List Sc→Int
 | []=>0
 | s::t=>(if s.key=key then s.up-s.uu else 0)+dh key t
def leftD (key:ByteArray):List Sc→Int
 | []=>0
 | s::t=>(if s.key=key then s.down-s.ud else 0)+leftD key t
def bG (key:ByteArray):List Ls→Int
 | []=>0
 | l::t=>dh key l.sl+bG key t
def bH (key:ByteArray):List Ls→Int
 | []=>0
 | l::t=>leftD key l.sl+bH key t
def Lf (l:List Sc):Prop:=∀s∈l,0≤s.uu∧s.uu≤s.up∧s.up≤9223372036854775807∧0≤s.ud∧s.ud≤s.down∧s.down≤9223372036854775807
theorem wO (key:ByteArray) (a b:List Sc):dh key (a++b)=dh key a+dh key b:=by
 induction a with
 | nil=>simp[dh]
 | cons s t ih=>simp only[List.cons_append,dh,ih];omega
theorem wP (key:ByteArray) (a b:List Sc):leftD key (a++b)=leftD key a+leftD key b:=by
 induction a with
 | nil=>simp[leftD]
 | cons s t ih=>simp only[List.cons_append,leftD,ih];omega
theorem tF (key:ByteArray) (a b:List Ls):bG key (a++b)=bG key a+bG key b:=by
 induction a with
 | nil=>simp[bG]
 | cons s t ih=>simp only[List.cons_append,bG,ih];omega
theorem tH (key:ByteArray) (a b:List Ls):bH key (a++b)=bH key a+bH key b:=by
 induction a with
 | nil=>simp[bH]
 | cons s t ih=>simp only[List.cons_append,bH,ih];omega
theorem tV (key:ByteArray) (l:List Sc) (h:Lf l):0≤dh key l∧0≤leftD key l:=by
 induction l with
 | nil=>exact⟨Int.le_refl _,Int.le_refl _⟩
 | cons s t ih=>
  have h1:=h s (by simp);have h2:=ih (fun x hx=>h x (by simp[hx]));simp only[dh,leftD]
  split<;>omega
theorem nZ (key:ByteArray) (l:List Ls) (h:∀x∈l,Lf x.sl):0≤bG key l∧0≤bH key l:=by
 induction l with
 | nil=>exact⟨Int.le_refl _,Int.le_refl _⟩
 | cons s t ih=>
  have h1:=tV key s.sl (h s (by simp));have h2:=ih (fun x hx=>h x (by simp[hx]));simp only[bG,bH];omega
theorem DJ (key:ByteArray) (l:List Sc) (h:Lf l) (k:Nat):dh key (l.take k)≤dh key l∧leftD key (l.take k)≤leftD key l:=by
 have h1:=wO key (l.take k) (l.drop k);have h2:=wP key (l.take k) (l.drop k);rw[List.take_append_drop]at h1 h2;have h3:=tV key (l.drop k) (fun x hx=>h x (List.mem_of_mem_drop hx));omega
theorem yV (key:ByteArray) (l:List Ls) (h:∀x∈l,Lf x.sl) (k:Nat):bG key (l.take k)≤bG key l∧bH key (l.take k)≤bH key l:=by
 have h1:=tF key (l.take k) (l.drop k);have h2:=tH key (l.take k) (l.drop k);rw[List.take_append_drop]at h1 h2;have h3:=nZ key (l.drop k) (fun x hx=>h x (List.mem_of_mem_drop hx));omega
theorem yX (key:ByteArray) (l:List Ls) (k:Nat) (hk:k<l.length):bG key (l.take (k+1))=bG key (l.take k)+dh key l[k].sl∧bH key (l.take (k+1))=bH key (l.take k)+leftD key l[k].sl:=by
 rw[aS l k hk,tF,tH];simp[bG,bH]
theorem left_step (key:ByteArray) (l:List Sc) (k:Nat) (hk:k<l.length):dh key (l.take (k+1))=dh key (l.take k)+(if l[k].key=key then l[k].up-l[k].uu else 0)∧leftD key (l.take (k+1))=leftD key (l.take k)+(if l[k].key=key then l[k].down-l[k].ud else 0):=by
 rw[aS l k hk,wO,wP];simp[dh,leftD]
def kM (ls:List Ls) (c:Ct):Bool:=decide (bG c.key ls≤c.hi-c.start-c.up)&&decide (bH c.key ls≤c.start-c.lo-c.down)
def DK (cs:List Ct) (ls:List Ls):Bool:=decide (iT (fun _ c=>kM ls c) cs)
def CtN (c:Ct):Prop:= -1099511627776≤c.lo∧c.lo≤c.start∧c.start≤c.hi∧c.hi≤1099511627776∧0≤c.up∧c.up≤c.hi-c.start∧0≤c.down∧c.down≤c.start-c.lo
theorem Pz (b:dN) (cs:List Ct) (ls:List Ls) (w:World) (hc:oN w b.c.v cs) (hl:Ei w b.l.v ls) (kE:∀c∈cs,CtN c) (qo:∀x∈ls,Lf x.sl):
  Calls Tryz.prog 43 #[iJ b] w fun e w'=>e= .returned (.bool (DK cs ls))∧Below w.heap.size w w':=by
 obtain⟨⟨b1,b2,b3⟩,⟨b4,b5,b6⟩,⟨b7,b8,b9⟩,⟨Gu,FC,FD⟩⟩:=b;obtain⟨xs,hx,xW⟩:=hl;simp only[Sv.v]at hc hx;obtain⟨Iu,dO,hmax⟩:=Sl.lens (s:=⟨b1,b2,b3⟩) hc;obtain⟨KQ,OT,ZC⟩:=Sl.lens (s:=⟨b7,b8,b9⟩) hx;simp only at Iu dO hmax KQ OT ZC;subst Iu KQ;have Wi:=ah kE;have EF:=ah qo;have iL:=ah xW.len;have K8:=ah xW;clear kE qo xW;have uK:=ah (heap_alloc_new w (.cells #[.slice b1 cs.length b3,.slice b4 b5 b6,.slice b7 xs.length b9,.slice Gu FC FD] 30));change Calls Tryz.prog _ #[.agg #[.slice b1 cs.length b3,.slice b4 b5 b6,.slice b7 xs.length b9,.slice Gu FC FD]] w _
 go_enter Tryz.func43,Tryz.ntmps43
 go_wp2
 go_loopw[14] (fun vk wr=>∃k:Nat,k≤cs.length∧vk= .int .i64 k∧fC (fun _ c=>kM ls c) cs k∧Below w.heap.size w wr∧wr.heap[w.heap.size]? =some (.cells #[.slice b1 cs.length b3,.slice b4 b5 b6,.slice b7 xs.length b9,.slice Gu FC FD] 30 (0,0))) (fun vk _=>cs.length-(intOf vk).toNat)
 case atStart=>exact⟨0,Nat.zero_le _,rfl,iO _ _,(aL _ _).alloc (aC _) _,uK.out⟩
 case round=>
  obtain⟨k,hk,rfl,hA,hb,gL⟩:=hrel;have HA:=ah hA;clear uK;obtain⟨d0,d1,d2,d3,_⟩:=ay gL;have mG:w.heap.size<wr.heap.size:=(bq gL).1;have fJ:=ah gL;clear hA gL;rcases Nat.lt_or_ge k cs.length with bA | gX
  ·obtain⟨bb,off,rfl,kZ,e0,e1,e2,e3,e4,e5,e6⟩:=dI.ct hc hb (aC _) k bA
   have jK:(k:Int)<cs.length:=by omega
   have vg:Hid (kM ls cs[k]=false→decide (iT (fun _ c=>kM ls c) cs)=false):=ah (lK (f:=fun _ c=>kM ls c) bA);have nU:Hid (kM ls cs[k]=true→fC (fun _ c=>kM ls c) cs (k+1)):=ah (fC.step HA.out bA);have lZ:Hid (kM ls cs[k]=(decide (bG cs[k].key ls≤cs[k].hi-cs[k].start-cs[k].up)&&decide (bH cs[k].key ls≤cs[k].start-cs[k].lo-cs[k].down))):=rfl;obtain⟨g1,g2,g3,g4,g5,g6,g7,g8⟩:=Wi.out cs[k] (List.getElem_mem bA);generalize kM ls cs[k]=ok at*;generalize cs[k]=c at*;obtain⟨r1,r2,r3,r4,r5,r6,r7⟩:=c;simp only at e0 e1 e2 e3 e4 e5 e6 g1 g2 g3 g4 g5 g6 g7 g8;have eD:Below w.heap.size w (wr.alloc (.cells #[.string r1,.int .i64 r2,.int .i64 r3,.int .i64 r4,.int .i64 r5,.int .i64 r6,.int .i64 r7] 54)):=hb.alloc (by omega) _;have pF:=ah eD;have uL:=ah ((Below.heap_alloc wr (.cells #[.string r1,.int .i64 r2,.int .i64 r3,.int .i64 r4,.int .i64 r5,.int .i64 r6,.int .i64 r7] 54) w.heap.size mG).trans fJ.out);have uV:=ah (heap_alloc_new wr (.cells #[.string r1,.int .i64 r2,.int .i64 r3,.int .i64 r4,.int .i64 r5,.int .i64 r6,.int .i64 r7] 54));have Dm:wr.heap.size<(wr.alloc (.cells #[.string r1,.int .i64 r2,.int .i64 r3,.int .i64 r4,.int .i64 r5,.int .i64 r6,.int .i64 r7] 54)).heap.size:=by simp
   clear eD fJ;have i1:IntKind.i64.wrap (r4-r5)=r4-r5:=IntWalk.i64_in _ (by omega);have i2:IntKind.i64.wrap (r4-r5-r6)=r4-r5-r6:=IntWalk.i64_in _ (by omega);have i3:IntKind.i64.wrap (r5-r3)=r5-r3:=IntWalk.i64_in _ (by omega);have i4:IntKind.i64.wrap (r5-r3-r7)=r5-r3-r7:=IntWalk.i64_in _ (by omega);go_wp2;generalize wr.alloc (.cells #[.string r1,.int .i64 r2,.int .i64 r3,.int .i64 r4,.int .i64 r5,.int .i64 r6,.int .i64 r7] 54)=w7 at*;clear e0 e1 e2 e3 e4 e5 e6 d0 d1 d2 d3;obtain⟨n0,n1,n2,n3,n4,n5,n6,_⟩:=aB uV.out;go_quiet (fail)
   clear i1 i2 i3 i4;obtain⟨d0,d1,d2,d3,_⟩:=ay uL.out;go_wp2;have HD7:=ah (below_drewN pF.out nq);have Iw:(w7.drewN nq).heap[wr.heap.size]? =some (.cells #[.string r1,.int .i64 r2,.int .i64 r3,.int .i64 r4,.int .i64 r5,.int .i64 r6,.int .i64 r7] 54 (0,0)):=uV.out;have DL:(w7.drewN nq).heap[w.heap.size]? =some (.cells #[.slice (some ⟨bb,off,none⟩) cs.length b3,.slice b4 b5 b6,.slice b7 xs.length b9,.slice Gu FC FD] 30 (0,0)):=uL.out;have vV:=ah Iw;have Cx:=ah DL;generalize w7.drewN nq=w8 at*;generalize wr.heap.size=G at*;clear Iw DL n0 n1 n2 n3 n4 n5 n6 d0 d1 d2 d3 uV uL pF hb;have PE:=ah (yV r1 ls EF.out)
   go_loopw[5,6,37] (fun v5 v6 v37 wr=>∃ (i:Nat) (X Y:Int),i≤xs.length∧v37= .int .i64 i∧v5= .int .i64 X∧v6= .int .i64 Y∧X=r4-r5-r6-bG r1 (ls.take i)∧Y=r5-r3-r7-bH r1 (ls.take i)∧0≤X∧0≤Y∧Below w.heap.size w wr∧
    wr.heap[w.heap.size]? =some (.cells #[.slice (some ⟨bb,off,none⟩) cs.length b3,.slice b4 b5 b6,.slice b7 xs.length b9,.slice Gu FC FD] 30 (0,0))∧wr.heap[G]? =some (.cells #[.string r1,.int .i64 r2,.int .i64 r3,.int .i64 r4,.int .i64 r5,.int .i64 r6,.int .i64 r7] 54 (0,0))) (fun _ _ v37 _=>xs.length-(intOf v37).toNat)
   case atStart=>exact⟨0,_,_,Nat.zero_le _,rfl,rfl,rfl,by simp[bG],by simp[bH],by omega,by omega,HD7.out,Cx.out,vV.out⟩
   case round=>
    obtain⟨i,X,Y,hi,rfl,rfl,rfl,hX,hY,hX0,hY0,hb,DL,Iw⟩:=hrel;have HX:=ah hX;have HY:=ah hY;clear hX hY HD7 vV Cx;have vV:=ah Iw;have Cx:=ah DL;clear Iw DL;have mG:w.heap.size<wr.heap.size:=(bq Cx.out).1;have hzg:G<wr.heap.size:=(bq vV.out).1;rcases Nat.lt_or_ge i xs.length with nJ | hig
    ·have GJ:i<ls.length:=by rw[←iL.out];exact nJ
     obtain⟨lb,lo,rfl,Ip,e0,e1,e2,e3,e4,e5,e6⟩:=dI.ls hx hb (aC _) i nJ;have Lg:(i:Int)<xs.length:=by omega
     have hM:=(bN.at K8.out i nJ GJ).s;have YE:=EF.out ls[i] (List.getElem_mem GJ);have uG:=ah (yX r1 ls i GJ);have HPT:=ah (PE.out (i+1));have HPP:=ah (DJ r1 ls[i].sl YE);have M5:=ah YE;have HPN:=ah (nZ r1 (ls.take i) (fun x hx=>EF.out x (List.mem_of_mem_take hx)));generalize bG r1 (ls.take i)=PU at*;generalize bH r1 (ls.take i)=PD at*;generalize ls[i].sl=sl at*;generalize xs[i]=z at*;obtain⟨z1,z2,z3,z4,⟨z5,z6,z7⟩,⟨z8,z9,dK⟩,⟨dU,eZ,dQ⟩⟩:=z;simp only[Sv.v]at e0 e1 e2 e3 e4 e5 e6 hM;obtain⟨hzn,PG,PI⟩:=Sl.lens (s:=⟨z5,z6,z7⟩) hM;simp only at hzn PG PI;subst hzn;have eD:=hb.alloc (Nat.le_of_lt mG) (.cells #[.int .i64 z1,.int .i64 z2,.int .i64 z3,.int .i64 z4,.slice z5 sl.length z7,.slice z8 z9 dK,.slice dU eZ dQ] 48);have pF:=ah eD;have uL:=ah ((Below.heap_alloc wr (.cells #[.int .i64 z1,.int .i64 z2,.int .i64 z3,.int .i64 z4,.slice z5 sl.length z7,.slice z8 z9 dK,.slice dU eZ dQ] 48) w.heap.size mG).trans Cx.out);have sW:=ah ((Below.heap_alloc wr (.cells #[.int .i64 z1,.int .i64 z2,.int .i64 z3,.int .i64 z4,.slice z5 sl.length z7,.slice z8 z9 dK,.slice dU eZ dQ] 48) G hzg).trans vV.out);go_wp2;generalize wr.alloc (.cells #[.int .i64 z1,.int .i64 z2,.int .i64 z3,.int .i64 z4,.slice z5 sl.length z7,.slice z8 z9 dK,.slice dU eZ dQ] 48)=w9 at*;clear eD e0 e1 e2 e3 e4 e5 e6 vV Cx hb
     go_loopw[5,6,44] (fun v5 v6 v44 wr=>∃ (j:Nat) (X Y:Int),j≤sl.length∧v44= .int .i64 j∧v5= .int .i64 X∧v6= .int .i64 Y∧X=r4-r5-r6-(PU+dh r1 (sl.take j))∧Y=r5-r3-r7-(PD+leftD r1 (sl.take j))∧0≤X∧0≤Y∧Below w.heap.size w wr∧
      wr.heap[w.heap.size]? =some (.cells #[.slice (some ⟨bb,off,none⟩) cs.length b3,.slice b4 b5 b6,.slice (some ⟨lb,lo,none⟩) xs.length b9,.slice Gu FC FD] 30 (0,0))∧wr.heap[G]? =some (.cells #[.string r1,.int .i64 r2,.int .i64 r3,.int .i64 r4,.int .i64 r5,.int .i64 r6,.int .i64 r7] 54 (0,0))) (fun _ _ v44 _=>sl.length-(intOf v44).toNat)
     case atStart=>exact⟨0,X,Y,Nat.zero_le _,rfl,rfl,rfl,by rw[HX.out];simp[dh],by rw[HY.out];simp[leftD],hX0,hY0,pF.out,uL.out,sW.out⟩
     case round=>
      clear HX HY pF uL sW hX0 hY0;obtain⟨j,X,Y,hj,rfl,rfl,rfl,hX,hY,hX0,hY0,hb,DL,Iw⟩:=hrel;have HX:=ah hX;have HY:=ah hY;have vV:=ah Iw;have Cx:=ah DL;clear hX hY Iw DL;have mG:w.heap.size<wr.heap.size:=(bq Cx.out).1;have hzg:G<wr.heap.size:=(bq vV.out).1;rcases Nat.lt_or_ge j sl.length with lq | YF
      ·obtain⟨sb,so,rfl,Lh,e0,e1,e2,e3,e4⟩:=dI.sc hM hb (aC _) j lq
       have t_:(j:Int)<sl.length:=by omega
       have GK:=ah (left_step r1 sl j lq);have Wj:=ah (HPP.out (j+1));obtain⟨q1,q2,q3,q4,q5,q6⟩:=M5.out sl[j] (List.getElem_mem lq);have hLN:=tV r1 (sl.take j) (fun x hx=>M5.out x (List.mem_of_mem_take hx));have hXB:X≤2199023255552∧Y≤2199023255552:=by have:=HX.out;have:=HY.out;have:=HPN.out;omega
       obtain⟨hXB,hYB⟩:=hXB;have HLN:=ah hLN;clear hLN;generalize dh r1 (sl.take j)=LU at*;generalize leftD r1 (sl.take j)=LD at*;generalize sl[j]=t at*;obtain⟨t1,t2,t3,t4,t5⟩:=t;simp only at e0 e1 e2 e3 e4 q1 q2 q3 q4 q5 q6;have eD:=hb.alloc (Nat.le_of_lt mG) (.cells #[.string t1,.int .i64 t2,.int .i64 t3,.int .i64 t4,.int .i64 t5] 88);have pF:=ah eD;have uL:=ah ((Below.heap_alloc wr (.cells #[.string t1,.int .i64 t2,.int .i64 t3,.int .i64 t4,.int .i64 t5] 88) w.heap.size mG).trans Cx.out);have sW:=ah ((Below.heap_alloc wr (.cells #[.string t1,.int .i64 t2,.int .i64 t3,.int .i64 t4,.int .i64 t5] 88) G hzg).trans vV.out);obtain⟨n0,n1,n2,n3,n4,n5,n6,_⟩:=aB vV.out;have Uz:=ah (key_eq t1 r1);clear eD;by_cases he:t1=r1
       ·have de:(t1.toList==r1.toList)=true:=by rw[Uz.out];simpa using he
        have de2:(t1.toList != r1.toList)=false:=by simp[bne,de]
        have HE:=ah he;clear he;have qB:Hid (dh r1 (sl.take (j+1))=LU+(t2-t4)∧leftD r1 (sl.take (j+1))=LD+(t3-t5)):=by have:=GK.out;simp only[HE.out,if_true]at this;exact ah this
        go_wp2
        all_goals first
         | (go_ret
            exact⟨aH (vg.out (by rw[lZ.out];have h1:=HX.out;have h2:=HY.out;have h3:=qB.out;have h4:=Wj.out;have h5:=HPT.out;have h6:=uG.out;rw[Bool.and_eq_false_iff,decide_eq_false_iff_not,decide_eq_false_iff_not];omega)).symm,pF.out⟩)
         | (go_roundw
            case rel=>exact⟨j+1,X-(t2-t4),Y-(t3-t5),by omega,by go_num,rfl,rfl,by rw[qB.out.1,HX.out];omega,by rw[qB.out.2,HY.out];omega,by omega,by omega,pF.out,uL.out,sW.out⟩
            case measure=>simp[intOf];omega)
       ·have de:(t1.toList==r1.toList)=false:=by rw[Uz.out];simpa using he
        have de2:(t1.toList != r1.toList)=true:=by simp[bne,de]
        have qB:Hid (dh r1 (sl.take (j+1))=LU∧leftD r1 (sl.take (j+1))=LD):=by have:=GK.out;simp only[if_neg he,Int.add_zero]at this;exact ah this
        clear he;go_wp2;go_roundw
        case rel=>exact⟨j+1,X,Y,by omega,by go_num,rfl,rfl,by rw[qB.out.1];exact HX.out,by rw[qB.out.2];exact HY.out,hX0,hY0,pF.out,uL.out,sW.out⟩
        case measure=>simp[intOf];omega
      ·have Te:j=sl.length:=by omega
       subst Te;have Wl:Hid (X=r4-r5-r6-bG r1 (ls.take (i+1))):=by show _=_;rw[uG.out.1,HX.out,List.take_length]
       have PK:Hid (Y=r5-r3-r7-bH r1 (ls.take (i+1))):=by show _=_;rw[uG.out.2,HY.out,List.take_length]
       go_wp2;go_roundw
       case rel=>exact⟨i+1,X,Y,by omega,by go_num,rfl,rfl,Wl.out,PK.out,hX0,hY0,hb,Cx.out,vV.out⟩
       case measure=>simp[intOf];omega
    ·have wE:Hid (X=r4-r5-r6-bG r1 ls):=by show _=_;rw[HX.out,List.take_of_length_le (by rw[←iL.out];exact hig)]
     have pV:Hid (Y=r5-r3-r7-bH r1 ls):=by show _=_;rw[HY.out,List.take_of_length_le (by rw[←iL.out];exact hig)]
     go_wp2;go_roundw
     case rel=>exact⟨k+1,by omega,by go_num,nU.out (by rw[lZ.out];have:=wE.out;have:=pV.out;simp;omega),hb,Cx.out⟩
     case measure=>simp[intOf];omega
  ·go_wp2
   go_ret;exact⟨aH (fC.all HA.out gX).symm,hb⟩
structure uq where
 dev:Int
 epoch:Int
 seq:Int
 coll:Int
 ver:Int
 kind:Int
 key:ByteArray
 text:ByteArray
 n:Int
 time:Int
 dots:Sv
def nO (l:List Sc) (key:ByteArray):Int:=fB (fun c=>decide (c.key=key)) l
def DN:Sc:=⟨⟨#[]⟩,0,0,0,0⟩
def rise (l:List Int) (n:Int):List Int:=l.take (l.countP (· <n))++n::l.drop (l.countP (· <n))
def EG (s:Sc) (n:Int):Sc:=⟨s.key,s.up,s.down,s.uu+max n 0,s.ud+max (-n) 0⟩
def pW (l:Ls) (key:ByteArray) (n:Int):Ls×Int:=
 if nO l.sl key<0 then(l,14)
 else if (l.sl.getD (nO l.sl key).toNat DN).up-(l.sl.getD (nO l.sl key).toNat DN).uu<n∨(l.sl.getD (nO l.sl key).toNat DN).down-(l.sl.getD (nO l.sl key).toNat DN).ud< -n then(l,14)
 else(⟨l.dev,l.epoch,l.bU,l.last,l.sl.set (nO l.sl key).toNat (EG (l.sl.getD (nO l.sl key).toNat DN) n),l.ids,l.used⟩,0)
def pX (l:Ls) (n:Int):Ls×Int:=
 if dM l.ids n=false then(l,14)else if l.used.contains n=true then(l,7)
 else(⟨l.dev,l.epoch,l.bU,l.last,l.sl,l.ids,rise l.used n⟩,0)
def bW (l:Ls) (kind:Int) (key:ByteArray) (n:Int):Ls×Int:=
 if kind=4 then pW l key n else if kind=5 then pX l n else(l,0)
def fH (cs:List Ct) (s:Sc):List Ct:=
 if bJ cs s.key<0 then cs
 else cs.set (bJ cs s.key).toNat ⟨(cs.getD (bJ cs s.key).toNat l8).key,(cs.getD (bJ cs s.key).toNat l8).coll,(cs.getD (bJ cs s.key).toNat l8).lo,(cs.getD (bJ cs s.key).toNat l8).hi,(cs.getD (bJ cs s.key).toNat l8).start,
  (cs.getD (bJ cs s.key).toNat l8).up+(s.up-s.uu),(cs.getD (bJ cs s.key).toNat l8).down+(s.down-s.ud)⟩
def eU (ids:List Rg) (n:Int):List Rg:=if dM ids n=true then cZ ids n else ids
def gV (l:List Int) (n:Int):List Int:=if l.contains n=true then l else rise l n
def PL (b:Bk) (i:Nat) (l:Ls):Bk:=⟨l.sl.foldl fH b.cs,bK b.free (l.used.foldl eU l.ids),b.ls.eraseIdx i,l.used.foldl gV b.bound⟩
def pK (b:Bk) (d ep:Int):Bk×Int:=if k_ b.ls d ep<0 then(b,2)else(PL b (k_ b.ls d ep).toNat (b.ls.getD (k_ b.ls d ep).toNat oD),0)
def zK (b:Bk) (key:ByteArray):List Int:=
 if bJ b.cs key<0 then [0,0,0,0,0,0]
 else [(b.cs.getD (bJ b.cs key).toNat l8).up,bG key b.ls,(b.cs.getD (bJ b.cs key).toNat l8).hi-(b.cs.getD (bJ b.cs key).toNat l8).start-(b.cs.getD (bJ b.cs key).toNat l8).up-bG key b.ls,
  (b.cs.getD (bJ b.cs key).toNat l8).down,bH key b.ls,(b.cs.getD (bJ b.cs key).toNat l8).start-(b.cs.getD (bJ b.cs key).toNat l8).lo-(b.cs.getD (bJ b.cs key).toNat l8).down-bH key b.ls]
end Go.Proofs.YtlfopoimbbpfdaaGreat
