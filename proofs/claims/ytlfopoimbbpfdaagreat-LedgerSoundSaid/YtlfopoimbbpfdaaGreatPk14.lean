/- What the law asks, in parts: LSp. -/
import Derived.Test.YtlfopoimbbpfdaaGreatPk12
import Derived.Test.YtlfopoimbbpfdaaGreatPk7
import Derived.Test.YtlfopoimbbpfdaaGreatPk13
set_option linter.all false
set_option maxRecDepth 100000
set_option maxHeartbeats 16000000
namespace Go.Proofs.YtlfopoimbbpfdaaGreat
open Go.RowKit
abbrev YG (o:uq):Value:=.agg #[.int .i64 o.dev,.int .i64 o.epoch,.int .i64 o.seq,.int .i64 o.coll,.int .i64 o.ver,.int .i64 o.kind,.string o.key,.string o.text,.int .i64 o.n,.int .i64 o.time,o.dots.v]
structure UA (l:Ls) (k n:Int):Prop where
 s:l.sl.length<1000000
 i:l.ids.length<1000000
 u:l.used.length<99999
 n:k=4→ -1099511627776≤n∧n≤1099511627776
 sc:∀s∈l.sl,(0≤s.up∧s.up≤4398046511104)∧(0≤s.down∧s.down≤4398046511104)∧(0≤s.uu∧s.uu≤4398046511104)∧0≤s.ud∧s.ud≤4398046511104
 sort:l.used.Pairwise (· ≤ ·)
def ig (w:World) (r:Ls×Int) (e:Ending) (w':World):Prop:=∃ (y:cB),e= .returned (.tuple #[o9 y,.int .i64 r.2])∧jF w' w.heap.size y r.1∧Below w.heap.size w w'
theorem jB {w U U2:World} {l:Ls} {y:cB} {p:Nat} {n:Int} (hw:Below w.heap.size w U) (hb:Below U.heap.size U U2) (hy:jF U2 U.heap.size y l) (hp:w.heap.size≤p) (Td:p<U.heap.size):
  ig w (l,n) (.returned (.tuple #[o9 y,.int .i64 n])) (((((((U2.setCell ⟨p,0,none⟩ (.int .i64 y.dev)).setCell ⟨p,1,none⟩ (.int .i64 y.epoch)).setCell ⟨p,2,none⟩ (.int .i64 y.bU)).setCell ⟨p,3,none⟩ (.int .i64 y.last)).setCell ⟨p,4,none⟩ y.s.v).setCell ⟨p,5,none⟩ y.i.v).setCell ⟨p,6,none⟩ y.u.v):=by
 have g2:=(((((((hy.put ⟨p,0,none⟩ Td (.int .i64 y.dev)).put ⟨p,1,none⟩ Td (.int .i64 y.epoch)).put ⟨p,2,none⟩ Td (.int .i64 y.bU)).put ⟨p,3,none⟩ Td (.int .i64 y.last)).put ⟨p,4,none⟩ Td y.s.v).put ⟨p,5,none⟩ Td y.i.v).put ⟨p,6,none⟩ Td y.u.v);refine⟨y,rfl,g2.base hw.size,?_⟩;have jw:=hw.trans (hb.mono hw.size);exact((((((jw.setCell hp _).setCell hp _).setCell hp _).setCell hp _).setCell hp _).setCell hp _).setCell hp _
theorem yA (w:World) (a b c:Obj):∃W,(((w.alloc a).alloc b).alloc c)=W∧W.heap[w.heap.size]? =some a∧W.heap[w.heap.size+1]? =some b∧W.heap[w.heap.size+2]? =some c∧Below w.heap.size w W∧W.heap.size=w.heap.size+3:=
 ⟨_,rfl,Az w a b c,AA w a b c,AB w a b c,(((aL _ _).alloc (aC _) _).alloc (by simp) _).alloc (by simp;omega) _,by simp⟩
theorem za (l:List Sc) (k:Nat) (hk:k<l.length) (u d:Int):
  ((aJ jL l).set (k*5+3) (.int .i64 u)).set (k*5+4) (.int .i64 d)=aJ jL (l.set k ⟨l[k].key,l[k].up,l[k].down,u,d⟩):=by
 induction l generalizing k with
 | nil=>simp at hk
 | cons x l ih=>
  cases k with
  | zero=>simp[aY,jL]
  | succ k=>
   have e:∀j,(k+1)*5+j=k*5+j+5:=fun j=>by omega
   rw[List.set_cons_succ,aY,aY,List.getElem_cons_succ,←ih k (by simpa using hk)];simp only[e];simp[jL]
theorem jF.GV {w:World} {B g n cap:Nat} {y:cB} {l:Ls} (h:jF w B y l) (hy:y.s=⟨some ⟨g,0,none⟩,n,cap⟩) (k:Nat) (hk:k<l.sl.length) (u d:Int):
  jF ((w.drew.drew.setCell ⟨g,k*5+3,none⟩ (.int .i64 u)).setCell ⟨g,k*5+4,none⟩ (.int .i64 d)) B y ⟨l.dev,l.epoch,l.bU,l.last,l.sl.set k ⟨l.sl[k].key,l.sl[k].up,l.sl[k].down,u,d⟩,l.ids,l.used⟩:=by
 have hs:w.drew.drew.ownsRow B 88 5 y.s.v l.sl.length (aJ jL l.sl):=h.s;have hi:w.drew.drew.ownsRow B 56 2 y.i.v l.ids.length (aR l.ids):=h.i;have hu:w.drew.drew.ownsRow B 3 1 y.u.v l.used.length (bS l.used):=h.u;generalize w.drew.drew=W at*;have aK:∀c,c≠g→((W.setCell ⟨g,k*5+3,none⟩ (.int .i64 u)).setCell ⟨g,k*5+4,none⟩ (.int .i64 d)).heap[c]? =W.heap[c]? :=fun c hc=>mQ _ _ _ hc _ _ _ _
 rw[hy]at hs;simp only[Sv.v]at hs
 have hn:n=l.sl.length:=by
  obtain⟨_,_,he,_,_⟩:=aO hs;injection he with _ he _
 subst hn;obtain⟨cur,hg⟩:=qz hs;have hl:(aJ jL l.sl).length=l.sl.length*5:=bP gQ _;have iW:=dV (dV hs (k*5+3) (by omega) (.int .i64 u)) (k*5+4) (by rw[List.length_set];omega) (.int .i64 d);rw[za _ _ hk]at iW;refine⟨h.dev,h.epoch,h.bU,h.last,?_,aF hi aK hg (by decide),aF hu aK hg (by decide)⟩;rw[hy];show World.ownsRow _ _ _ _ _ (l.sl.set _ _).length _;rw[List.length_set];exact iW
theorem jF.ins {W8 W9:World} {B p6:Nat} {y:cB} {l:Ls} {v':Sv} {PY:List Int} (h:jF W8 B y l) (hk:W8.heap[p6]? =some (.cells #[.int .i64 y.dev,.int .i64 y.epoch,.int .i64 y.bU,.int .i64 y.last,y.s.v,y.i.v,y.u.v] 48 (0,0)))
  (ho:W9.ownsRow B 3 1 v'.v PY.length (bS PY)) (hg:W8.grownBy W9 y.u.v.ownBlock):
  jF (W9.setCell ⟨p6,6,none⟩ v'.v) B ⟨y.dev,y.epoch,y.bU,y.last,y.s,y.i,v'⟩ ⟨l.dev,l.epoch,l.bU,l.last,l.sl,l.ids,PY⟩∧
   (W9.setCell ⟨p6,6,none⟩ v'.v).heap[p6]? =some (.cells #[.int .i64 y.dev,.int .i64 y.epoch,.int .i64 y.bU,.int .i64 y.last,y.s.v,y.i.v,v'.v] 48 (0,0))∧
   W9.heap[p6]? =some (.cells #[.int .i64 y.dev,.int .i64 y.epoch,.int .i64 y.bU,.int .i64 y.last,y.s.v,y.i.v,y.u.v] 48 (0,0)):=by
 have eP:∀ {base e E v n zs},W8.ownsRow base e E v n zs→e≠ 3 →W9.ownsRow base e E v n zs:=fun {base e E v n zs} hr he=>by
  refine hr.kept hg ?_
  cases hv:v.ownBlock with
  | none=>exact .inl rfl
  | some q=>
   refine .inr (fun hq=>?_);rcases hy:y.u.v.ownBlock with _ | q2
   ·rw[hy]at hq;cases hq
   ·rw[hy]at hq
    obtain⟨cur,hc⟩:=lJ h.u hy;injection hq with hq;subst hq;exact mF hr hc he hv
 have hp:W9.heap[p6]? =some (.cells #[.int .i64 y.dev,.int .i64 y.epoch,.int .i64 y.bU,.int .i64 y.last,y.s.v,y.i.v,y.u.v] 48 (0,0)):=by
  rw[hg.block p6 (bq hk).1 (fun e=>by
   obtain⟨cur,hc⟩:=lJ h.u e.symm;rw[hk]at hc;injection hc with hc;injection hc with _ hc _
   exact absurd hc (by decide))]
  exact hk
 have aK:∀c,c≠p6→(W9.setCell ⟨p6,6,none⟩ v'.v).heap[c]? =W9.heap[c]? :=fun c hc=>aX _ _ _ (fun e=>hc e.symm) _
 refine⟨⟨h.dev,h.epoch,h.bU,h.last,aF (eP h.s (by decide)) aK hp (by decide),aF (eP h.i (by decide)) aK hp (by decide),aF ho aK hp (by decide)⟩,?_,hp⟩;simp[World.setCell,Array.getElem?_modify,hp]
theorem A9 (l:List Int) (n:Int):(bS l).take (l.countP (· <n)*1)++ [.int .i64 n]++(bS l).drop (l.countP (· <n)*1)=bS (rise l n):=by
 unfold bS rise;simp[List.map_take,List.map_drop]
theorem ze (l:List Int) (n:Int):(rise l n).length=l.length+1:=by
 have:=List.countP_le_length (p:=fun x=>decide (x<n)) (l:=l);unfold rise;simp only[List.length_append,List.length_take,List.length_cons,List.length_drop];omega
theorem M8 {l:Ls} {key:ByteArray} {n:Int} (h:fB (fun c:Sc=>decide (c.key=key)) l.sl= -1):bW l 4 key n=(l,14):=by
 show pW l key n=_;unfold pW nO;rw[h,if_pos (by decide)]
theorem JB {l:Ls} {key:ByteArray} {n:Int} {k:Nat} (hk:k<l.sl.length) (h:fB (fun c:Sc=>decide (c.key=key)) l.sl=k) (h2:l.sl[k].up-l.sl[k].uu<n∨l.sl[k].down-l.sl[k].ud< -n):bW l 4 key n=(l,14):=by
 show pW l key n=_;unfold pW nO;have e:l.sl.getD (k:Int).toNat DN=l.sl[k]:=by simp[List.getD,List.getElem?_eq_getElem hk]
 rw[h,e,if_neg (by omega),if_pos h2]
theorem M9 {l:Ls} {key:ByteArray} {n:Int} {k:Nat} (hk:k<l.sl.length) (h:fB (fun c:Sc=>decide (c.key=key)) l.sl=k) (h2:¬l.sl[k].up-l.sl[k].uu<n) (h3:¬l.sl[k].down-l.sl[k].ud< -n):
  bW l 4 key n=(⟨l.dev,l.epoch,l.bU,l.last,l.sl.set k ⟨l.sl[k].key,l.sl[k].up,l.sl[k].down,l.sl[k].uu+max n 0,l.sl[k].ud+max (-n) 0⟩,l.ids,l.used⟩,0):=by
 show pW l key n=_;unfold pW nO;have e:l.sl.getD (k:Int).toNat DN=l.sl[k]:=by simp[List.getD,List.getElem?_eq_getElem hk]
 rw[h,e,if_neg (by omega),if_neg (fun hh=>by rcases hh with hh | hh;exact h2 hh;exact h3 hh)];simp[EG]
theorem M_ {l:Ls} {key:ByteArray} {n:Int} (h:dM l.ids n=false):bW l 5 key n=(l,14):=by
 show pX l n=_;unfold pX;rw[if_pos h]
theorem Na {l:Ls} {key:ByteArray} {n:Int} (h:dM l.ids n=true) (h2:l.used.contains n=true):bW l 5 key n=(l,7):=by
 show pX l n=_;unfold pX;rw[if_neg (by rw[h];simp),if_pos h2]
theorem Nb {l:Ls} {key:ByteArray} {n:Int} (h:dM l.ids n=true) (h2:l.used.contains n=false):bW l 5 key n=(⟨l.dev,l.epoch,l.bU,l.last,l.sl,l.ids,rise l.used n⟩,0):=by
 show pX l n=_;unfold pX;rw[if_neg (by rw[h];simp),if_neg (by rw[h2];simp)]
theorem GX {l:Ls} {key:ByteArray} {n kind:Int} (h:kind≠4) (h2:kind≠5):bW l kind key n=(l,0):=by
 unfold bW;rw[if_neg h,if_neg h2]
theorem Nc (x:cB) (l:Ls) (o:uq) (w:World) (h:nV w x l) (hB:UA l o.kind o.n):
  Calls Tryz.prog 32 #[o9 x,YG o] w (ig w (bW l o.kind o.key o.n)):=by
 obtain⟨x1,x2,x3,x4,⟨x5,x6,x7⟩,⟨x8,x9,wh⟩,⟨wm,wz,wC⟩⟩:=x;obtain⟨o1,o2,o3,o4,o5,kind,key,text,n,time,⟨oa,on,oc⟩⟩:=o;simp only;obtain⟨W1,z_,k0,k1,k2,bB,dX⟩:=yA w (.cells #[.int .i64 x1,.int .i64 x2,.int .i64 x3,.int .i64 x4,.slice x5 x6 x7,.slice x8 x9 wh,.slice wm wz wC] 48) (.cells #[.int .i64 o1,.int .i64 o2,.int .i64 o3,.int .i64 o4,.int .i64 o5,.int .i64 kind,.string key,.string text,.int .i64 n,.int .i64 time,.slice oa on oc] 38) (.cells #[.int .i64 0,.int .i64 0,.int .i64 0,.int .i64 0,.slice none 0 0,.slice none 0 0,.slice none 0 0] 48);have HW1:=ah z_;have hz1':w.heap.size+2<W1.heap.size:=by omega
 have K0:=ah k0;have K1:=ah k1;have K2:=ah k2;have HM:=ah (h.keep bB (aC _));have eY:=ah bB;have HB:=ah hB;have uj:Hid (Ap l):=ah ⟨hB.s,hB.i,by have:=hB.u;omega⟩;clear z_ dX k0 k1 k2 bB h hB;change Calls Tryz.prog _ #[.agg #[.int .i64 x1,.int .i64 x2,.int .i64 x3,.int .i64 x4,.slice x5 x6 x7,.slice x8 x9 wh,.slice wm wz wC],.agg #[.int .i64 o1,.int .i64 o2,.int .i64 o3,.int .i64 o4,.int .i64 o5,.int .i64 kind,.string key,.string text,.int .i64 n,.int .i64 time,.slice oa on oc]] w _
 go_enter Tryz.func32,Tryz.ntmps32
 go_upto_region 1 with fail
 rw[HW1.out];obtain⟨d0,d1,d2,d3,d4,d5,d6,_⟩:=aB K0.out;go_wp2_with fail
 refine(fI ⟨x1,x2,x3,x4,⟨x5,x6,x7⟩,⟨x8,x9,wh⟩,⟨wm,wz,wC⟩⟩ l _ HM.out uj.out).mono ?_;rintro e U0 ⟨⟨y1,y2,y3,y4,⟨y5,y6,y7⟩,⟨y8,y9,dz⟩,⟨dA,dJ,cK⟩⟩,rfl,hy,sj⟩;clear d0 d1 d2 d3 d4 d5 d6;have eD:Below U0.heap.size U0 (U0.alloc (.cells #[.int .i64 y1,.int .i64 y2,.int .i64 y3,.int .i64 y4,.slice y5 y6 y7,.slice y8 y9 dz,.slice dA dJ cK] 48)):=(aL _ _).alloc (aC _) _;have K6:=ah (heap_alloc_new U0 (.cells #[.int .i64 y1,.int .i64 y2,.int .i64 y3,.int .i64 y4,.slice y5 y6 y7,.slice y8 y9 dz,.slice dA dJ cK] 48));have HY:=ah (hy.keep eD (aC _));have jI:=ah (sj.trans (eD.mono sj.size));have kK:=sj.size;have Dm:U0.heap.size<(U0.alloc (.cells #[.int .i64 y1,.int .i64 y2,.int .i64 y3,.int .i64 y4,.slice y5 y6 y7,.slice y8 y9 dz,.slice dA dJ cK] 48)).heap.size:=by simp
 clear hy sj eD;go_upto_region 2 with fail
 generalize U0.alloc (.cells #[.int .i64 y1,.int .i64 y2,.int .i64 y3,.int .i64 y4,.slice y5 y6 y7,.slice y8 y9 dz,.slice dA dJ cK] 48)=W2 at*
 have KO:Hid (∀V,Below W1.heap.size W1 V→V.cell? ⟨w.heap.size+1,5,none⟩=some (.int .i64 kind)∧V.cell? ⟨w.heap.size+1,6,none⟩=some (.string key)∧V.cell? ⟨w.heap.size+1,8,none⟩=some (.int .i64 n)):=ah (fun V hV=>by
  have hh:=aj K1.out hV (by omega)
  refine⟨?_,?_,?_⟩<;>simp[World.cell?,hh])
 have HW2:Hid (∀V,Below W2.heap.size W2 V→Below W1.heap.size W1 V):=ah (fun V hV=>jI.out.trans (hV.mono jI.out.size));obtain⟨e5,e6,e8⟩:=KO.out _ jI.out;obtain⟨d0,d1,d2,d3,d4,d5,d6,jJ⟩:=aB K6.out;clear jJ;have uH:Below W2.heap.size W2 W2:=aL _ _;generalize UC:U0.heap.size=p6 at*;have HP6:=ah UC;clear UC;by_cases hkd:kind=4
 ·subst hkd
  obtain⟨Gh,uw⟩:=HB.out.n rfl;rcases b_ (fun c:Sc=>decide (c.key=key)) l.sl with⟨hi,_⟩ | ⟨k,hk,hi,_,_⟩
  ·have fO:=ah (M8 (n:=n) hi)
   go_wp2_with fail
   refine(xS _ l.sl _ _ (fun c=>decide (c.key=key)) _ (aG HY.out.s) (Ll e6 _)).mono ?_;rintro e V ⟨rfl,hV⟩;rw[hi];have HV:=ah hV;clear hV d0 d1 d2 d3 d4 d5 d6 e5 e6 e8 hi uH;obtain⟨d0,d1,d2,d3,d4,d5,d6,_⟩:=aB (aj K0.out (jI.out.trans ((HV.out).mono jI.out.size)) (by omega));have uN:=ah (eY.out.trans ((jI.out.trans ((HV.out).mono jI.out.size)).mono eY.out.size));have lS:=ah (aj K2.out (jI.out.trans ((HV.out).mono jI.out.size)) (by omega));have mP:=(bq lS.out).1;go_wp2_with fail
   refine(fI ⟨x1,x2,x3,x4,⟨x5,x6,x7⟩,⟨x8,x9,wh⟩,⟨wm,wz,wC⟩⟩ l _ (HM.out.keep (jI.out.trans ((HV.out).mono jI.out.size)) (aC _)) (uj.out)).mono ?_;rintro e U2 ⟨⟨z1,z2,z3,z4,⟨z5,z6,z7⟩,⟨z8,z9,dK⟩,⟨dU,eZ,dQ⟩⟩,rfl,pE,jU⟩;have HZ:=ah pE;have lC:=ah jU;have eG:=aj lS.out jU mP;obtain⟨q0,q1,q2,q3,q4,q5,q6,_⟩:=aB eG;have f0:=ak eG 0;have f1:=ak eG 1;have f2:=ak eG 2;have f3:=ak eG 3;have f4:=ak eG 4;have f5:=ak eG 5;have f6:=ak eG 6;clear pE jU eG d0 d1 d2 d3 d4 d5 d6;go_wp2;refine bodyPost_ret (v:=.tuple #[.agg #[.int .i64 z1,.int .i64 z2,.int .i64 z3,.int .i64 z4,.slice z5 z6 z7,.slice z8 z9 dK,.slice dU eZ dQ],.int .i64 14]) (by simp[results,Tryz.results32,go_sem, *]) rfl (show ig _ _ _ _ from ?_);rw[fO.out];exact jB (y:=⟨z1,z2,z3,z4,⟨z5,z6,z7⟩,⟨z8,z9,dK⟩,⟨dU,eZ,dQ⟩⟩) (p:=w.heap.size+2) uN.out lC.out HZ.out (by omega) mP
  ·have vg:=ah (JB (n:=n) hk hi)
   have nU:=ah (M9 (n:=n) hk hi);have V8:=HB.out.sc l.sl[k] (List.getElem_mem hk);obtain⟨⟨b1,b2⟩,⟨b3,b4⟩,⟨b5,b6⟩,b7,b8⟩:=V8;obtain⟨g,cap,hys⟩:=fT HY.out.s (by omega);injection hys with Wo Wp Ws;subst Wo Wp Ws;go_wp2_with fail
   refine(xS _ l.sl _ _ (fun c=>decide (c.key=key)) _ (aG HY.out.s) (Ll e6 _)).mono ?_;rintro e V ⟨rfl,hV⟩;rw[hi];have HV:=ah hV;have YH:=ah (HY.out.keep hV (aC _));have Wt:=aj K6.out hV Dm;clear d0 d1 d2 d3 d4 d5 d6 e5 e6 e8 hi uH;obtain⟨e5,e6,e8⟩:=KO.out _ (HW2.out _ hV);obtain⟨d0,d1,d2,d3,d4,d5,d6,jJ⟩:=aB Wt;have PZ:=ah Wt;clear jJ hV Wt;obtain⟨r1,r2,r3,r4,r5,r6,r7⟩:=bg YH.out.s;have c1:=r7 (k*5+1) _ (by rw[bV gQ _ k hk 1 (by omega)];rfl);have c2:=r7 (k*5+2) _ (by rw[bV gQ _ k hk 2 (by omega)];rfl);have c3:=r7 (k*5+3) _ (by rw[bV gQ _ k hk 3 (by omega)];rfl);have c4:=r7 (k*5+4) _ (by rw[bV gQ _ k hk 4 (by omega)];rfl);have HC3:Hid ((aJ jL l.sl)[k*5+3]? =some (.int .i64 l.sl[k].uu)):=ah (by rw[bV gQ _ k hk 3 (by omega)];rfl);have GY:Hid ((aJ jL l.sl)[k*5+4]? =some (.int .i64 l.sl[k].ud)):=ah (by rw[bV gQ _ k hk 4 (by omega)];rfl);have ZI:=ah (za l.sl k hk);have g3:=r6 (k*5+3);have g4:=r6 (k*5+4);clear r7 r6;generalize wS:l.sl[k].up=su at*;generalize hsd:l.sl[k].down=sd at*;have OB:=ah wS;have HSD:=ah hsd;clear wS hsd;generalize l.sl[k].uu=uu at*;generalize l.sl[k].ud=ud at*;have qo:=HB.out.s;have jK:(k:Int)<l.sl.length:=by omega
   have i1:IntKind.i64.wrap (su-uu)=su-uu:=IntWalk.i64_in _ (by omega);have i2:IntKind.i64.wrap (sd-ud)=sd-ud:=IntWalk.i64_in _ (by omega);have i3:IntKind.i64.wrap (-n)= -n:=IntWalk.i64_in _ (by omega);by_cases h1:su-uu<n
   ·have dh1:decide (su-uu<n)=true:=by simpa using h1
    have fO:=ah (vg.out (.inl h1));clear h1;go_wp2_with fail
    go_quiet (fail)
    have JC:=below_drewN HV.out nq;clear d0 d1 d2 d3 d4 d5 d6 e5 e6 e8 c1 c2 c3 c4 g3 g4 i1 i2 i3 dh1;obtain⟨d0,d1,d2,d3,d4,d5,d6,_⟩:=aB (aj K0.out (jI.out.trans ((JC).mono jI.out.size)) (by omega));have uN:=ah (eY.out.trans ((jI.out.trans ((JC).mono jI.out.size)).mono eY.out.size));have lS:=ah (aj K2.out (jI.out.trans ((JC).mono jI.out.size)) (by omega));have mP:=(bq lS.out).1;go_wp2_with fail
    refine(fI ⟨x1,x2,x3,x4,⟨x5,x6,x7⟩,⟨x8,x9,wh⟩,⟨wm,wz,wC⟩⟩ l _ (HM.out.keep (jI.out.trans ((JC).mono jI.out.size)) (aC _)) (uj.out)).mono ?_;rintro e U2 ⟨⟨z1,z2,z3,z4,⟨z5,z6,z7⟩,⟨z8,z9,dK⟩,⟨dU,eZ,dQ⟩⟩,rfl,pE,jU⟩;have HZ:=ah pE;have lC:=ah jU;have eG:=aj lS.out jU mP;obtain⟨q0,q1,q2,q3,q4,q5,q6,_⟩:=aB eG;have f0:=ak eG 0;have f1:=ak eG 1;have f2:=ak eG 2;have f3:=ak eG 3;have f4:=ak eG 4;have f5:=ak eG 5;have f6:=ak eG 6;clear pE jU eG d0 d1 d2 d3 d4 d5 d6;go_wp2;refine bodyPost_ret (v:=.tuple #[.agg #[.int .i64 z1,.int .i64 z2,.int .i64 z3,.int .i64 z4,.slice z5 z6 z7,.slice z8 z9 dK,.slice dU eZ dQ],.int .i64 14]) (by simp[results,Tryz.results32,go_sem, *]) rfl (show ig _ _ _ _ from ?_);rw[fO.out];exact jB (y:=⟨z1,z2,z3,z4,⟨z5,z6,z7⟩,⟨z8,z9,dK⟩,⟨dU,eZ,dQ⟩⟩) (p:=w.heap.size+2) uN.out lC.out HZ.out (by omega) mP
   ·have dh1:decide (su-uu<n)=false:=by simpa using h1
    by_cases h2:sd-ud< -n
    ·have dh2:decide (sd-ud< -n)=true:=by simpa using h2
     have fO:=ah (vg.out (.inr h2));clear h1 h2;go_wp2_with fail
     go_quiet (fail)
     have JC:=below_drewN HV.out nq;clear d0 d1 d2 d3 d4 d5 d6 e5 e6 e8 c1 c2 c3 c4 g3 g4 i1 i2 i3 dh1 dh2;obtain⟨d0,d1,d2,d3,d4,d5,d6,_⟩:=aB (aj K0.out (jI.out.trans ((JC).mono jI.out.size)) (by omega));have uN:=ah (eY.out.trans ((jI.out.trans ((JC).mono jI.out.size)).mono eY.out.size));have lS:=ah (aj K2.out (jI.out.trans ((JC).mono jI.out.size)) (by omega));have mP:=(bq lS.out).1;go_wp2_with fail
     refine(fI ⟨x1,x2,x3,x4,⟨x5,x6,x7⟩,⟨x8,x9,wh⟩,⟨wm,wz,wC⟩⟩ l _ (HM.out.keep (jI.out.trans ((JC).mono jI.out.size)) (aC _)) (uj.out)).mono ?_;rintro e U2 ⟨⟨z1,z2,z3,z4,⟨z5,z6,z7⟩,⟨z8,z9,dK⟩,⟨dU,eZ,dQ⟩⟩,rfl,pE,jU⟩;have HZ:=ah pE;have lC:=ah jU;have eG:=aj lS.out jU mP;obtain⟨q0,q1,q2,q3,q4,q5,q6,_⟩:=aB eG;have f0:=ak eG 0;have f1:=ak eG 1;have f2:=ak eG 2;have f3:=ak eG 3;have f4:=ak eG 4;have f5:=ak eG 5;have f6:=ak eG 6;clear pE jU eG d0 d1 d2 d3 d4 d5 d6;go_wp2;refine bodyPost_ret (v:=.tuple #[.agg #[.int .i64 z1,.int .i64 z2,.int .i64 z3,.int .i64 z4,.slice z5 z6 z7,.slice z8 z9 dK,.slice dU eZ dQ],.int .i64 14]) (by simp[results,Tryz.results32,go_sem, *]) rfl (show ig _ _ _ _ from ?_);rw[fO.out];exact jB (y:=⟨z1,z2,z3,z4,⟨z5,z6,z7⟩,⟨z8,z9,dK⟩,⟨dU,eZ,dQ⟩⟩) (p:=w.heap.size+2) uN.out lC.out HZ.out (by omega) mP
    ·have dh2:decide (sd-ud< -n)=false:=by simpa using h2
     have fO:=ah (nU.out (by omega) (by omega));clear h1 h2;go_wp2_with fail
     go_quiet (fail)
     go_upto_region 10 with fail
     have JC:=below_drewN HV.out nq;have YI:=ah JC;have R5:=ah (HY.out.keep JC (aC _));have Nf:=ah (aj K6.out JC Dm);clear d0 d1 d2 d3 d4 d5 d6 e5 e6 e8 c1 c2 c3 c4 g3 g4 dh1 dh2 YH PZ HV vg nU;obtain⟨e5,e6,e8⟩:=KO.out _ (HW2.out _ JC);clear JC;generalize V.drewN nq=V3 at*;obtain⟨r1,r2,r3,r4,r5,r6,r7⟩:=bg R5.out.s;have c3:V3.cell? ⟨g,k*5+3,none⟩=some (.int .i64 uu):=r7 (k*5+3) _ HC3.out;have g3:=r6 (k*5+3);clear r6 r7;have h3:n<0∨n=0∨0<n:=by omega
     rcases h3 with h3 | h3 | h3
     ·have e1:uu+max n 0=uu:=by omega
      have e2:ud+max (-n) 0=ud+ -n:=by omega
      rw[e1,e2]at fO;clear e1 e2;have i4:IntKind.i64.wrap (uu)=uu:=IntWalk.i64_in _ (by omega);have HGS:=ah r1;have lu:W1.heap.size≤g:=r1;have hl5:(aJ jL l.sl).length=l.sl.length*5:=bP gQ _;have ji:(V3.drew.setCell ⟨g,k*5+3,none⟩ (.int .i64 (uu))).ownsRow W1.heap.size 88 5 (.slice (some ⟨g,0,none⟩) l.sl.length y7) l.sl.length ((aJ jL l.sl).set (k*5+3) (.int .i64 (uu))):=dV (show V3.drew.ownsRow _ _ _ _ _ _ from R5.out.s) (k*5+3) (by omega) _;obtain⟨_,_,_,_,_,u6,u7⟩:=bg ji;have c4:=u7 (k*5+4) (.int .i64 ud) (by rw[List.getElem?_set_ne (by omega)];exact GY.out);have g4:=u6 (k*5+4);have bR:Below W1.heap.size W1 (V3.drew.setCell ⟨g,k*5+3,none⟩ (.int .i64 (uu))):=(HW2.out _ YI.out).drew.setCell lu _;have hko:=KO.out _ bR;have vF:=R5.out.GV (g:=g) rfl k hk (uu) ((ud+ -n));rw[OB.out,HSD.out]at vF;have mI:=ah vF;clear vF;have i5:IntKind.i64.wrap ((ud+ -n))=(ud+ -n):=IntWalk.i64_in _ (by omega)
      have Tg:g≠p6:=fun e=>by
       have h1:=Nf.out;obtain⟨cur,hc⟩:=qz R5.out.s;rw[←e,hc]at h1;injection h1 with h1;injection h1 with _ h1 _;exact absurd h1 (by decide)
      have P5:=ah ((mQ V3.drew.drew g p6 (fun e=>Tg e.symm) (k*5+3) (k*5+4) (.int .i64 (uu)) (.int .i64 ((ud+ -n)))).trans Nf.out);have JD:Hid (Below W1.heap.size W1 ((V3.drew.drew.setCell ⟨g,k*5+3,none⟩ (.int .i64 (uu))).setCell ⟨g,k*5+4,none⟩ (.int .i64 ((ud+ -n))))):=ah ((((HW2.out _ YI.out).drew.drew).setCell lu _).setCell lu _);have HU:Hid (∀V,V=V3.drew.setCell ⟨g,k*5+3,none⟩ (.int .i64 (uu))→V.drew.setCell ⟨g,k*5+4,none⟩ (.int .i64 ((ud+ -n)))=(V3.drew.drew.setCell ⟨g,k*5+3,none⟩ (.int .i64 (uu))).setCell ⟨g,k*5+4,none⟩ (.int .i64 ((ud+ -n)))):=ah (fun V hV=>by rw[hV];rfl);clear u6 u7 ji bR hl5 lu Tg r1;go_still_tail 10,(by kernel_rfl)
      change wpList _ _ _ _ _ V3.drew;go_wp2;rw[show (V3.setCell ⟨g,k*5+3,none⟩ (.int .i64 (uu))).drew=V3.drew.setCell ⟨g,k*5+3,none⟩ (.int .i64 (uu))from rfl];have HV5:=ah (HU.out _ rfl);clear HU;generalize V3.drew.setCell ⟨g,k*5+3,none⟩ (.int .i64 (uu))=U5 at*;clear e5 e6 e8 c3 g3 i4;obtain⟨e5,e6,e8⟩:=hko;go_still_tail 11,(by kernel_rfl)
      change wpList _ _ _ _ _ U5.drew;go_upto_region 19 with fail
      try rw[show (ud+if (0:Int)<0 then(0:Int)else 0)=ud by simp]
      rw[show (U5.setCell ⟨g,k*5+4,none⟩ (.int .i64 (ud+ -n))).drew=U5.drew.setCell ⟨g,k*5+4,none⟩ (.int .i64 (ud+ -n))from rfl,HV5.out];generalize (V3.drew.drew.setCell ⟨g,k*5+3,none⟩ (.int .i64 uu)).setCell ⟨g,k*5+4,none⟩ (.int .i64 (ud+ -n))=W9 at*;clear c4 g4 e5 e6 e8 HV5 i5;have EO:Hid (Ap ⟨l.dev,l.epoch,l.bU,l.last,l.sl.set k ⟨l.sl[k].key,su,sd,uu,(ud+ -n)⟩,l.ids,l.used⟩):=ah ⟨by rw[List.length_set];exact uj.out.s,uj.out.i,uj.out.u⟩;obtain⟨d0,d1,d2,d3,d4,d5,d6,_⟩:=aB (P5.out);have uN:=ah (eY.out.trans (JD.out.mono eY.out.size));have lS:=ah (aj K2.out JD.out (by omega));have mP:=(bq lS.out).1;go_wp2_with fail
      refine(fI ⟨y1,y2,y3,y4,⟨some ⟨g,0,none⟩,l.sl.length,y7⟩,⟨y8,y9,dz⟩,⟨dA,dJ,cK⟩⟩ _ _ (mI.out.m) (EO.out)).mono ?_;rintro e U2 ⟨⟨z1,z2,z3,z4,⟨z5,z6,z7⟩,⟨z8,z9,dK⟩,⟨dU,eZ,dQ⟩⟩,rfl,pE,jU⟩;have HZ:=ah pE;have lC:=ah jU;have eG:=aj lS.out jU mP;obtain⟨q0,q1,q2,q3,q4,q5,q6,_⟩:=aB eG;have f0:=ak eG 0;have f1:=ak eG 1;have f2:=ak eG 2;have f3:=ak eG 3;have f4:=ak eG 4;have f5:=ak eG 5;have f6:=ak eG 6;clear pE jU eG d0 d1 d2 d3 d4 d5 d6;go_wp2;refine bodyPost_ret (v:=.tuple #[.agg #[.int .i64 z1,.int .i64 z2,.int .i64 z3,.int .i64 z4,.slice z5 z6 z7,.slice z8 z9 dK,.slice dU eZ dQ],.int .i64 0]) (by simp[results,Tryz.results32,go_sem, *]) rfl (show ig _ _ _ _ from ?_);rw[fO.out];exact jB (y:=⟨z1,z2,z3,z4,⟨z5,z6,z7⟩,⟨z8,z9,dK⟩,⟨dU,eZ,dQ⟩⟩) (p:=w.heap.size+2) uN.out lC.out HZ.out (by omega) mP
     ·subst h3
      have e1:uu+max 0 0=uu:=by omega
      have e2:ud+max (-0) 0=ud:=by omega
      rw[e1,e2]at fO;clear e1 e2;have i4:IntKind.i64.wrap (uu)=uu:=IntWalk.i64_in _ (by omega);have HGS:=ah r1;have lu:W1.heap.size≤g:=r1;have hl5:(aJ jL l.sl).length=l.sl.length*5:=bP gQ _;have ji:(V3.drew.setCell ⟨g,k*5+3,none⟩ (.int .i64 (uu))).ownsRow W1.heap.size 88 5 (.slice (some ⟨g,0,none⟩) l.sl.length y7) l.sl.length ((aJ jL l.sl).set (k*5+3) (.int .i64 (uu))):=dV (show V3.drew.ownsRow _ _ _ _ _ _ from R5.out.s) (k*5+3) (by omega) _;obtain⟨_,_,_,_,_,u6,u7⟩:=bg ji;have c4:=u7 (k*5+4) (.int .i64 ud) (by rw[List.getElem?_set_ne (by omega)];exact GY.out);have g4:=u6 (k*5+4);have bR:Below W1.heap.size W1 (V3.drew.setCell ⟨g,k*5+3,none⟩ (.int .i64 (uu))):=(HW2.out _ YI.out).drew.setCell lu _;have hko:=KO.out _ bR;have vF:=R5.out.GV (g:=g) rfl k hk (uu) (ud);rw[OB.out,HSD.out]at vF;have mI:=ah vF;clear vF;have i5:IntKind.i64.wrap (ud)=ud:=IntWalk.i64_in _ (by omega)
      have Tg:g≠p6:=fun e=>by
       have h1:=Nf.out;obtain⟨cur,hc⟩:=qz R5.out.s;rw[←e,hc]at h1;injection h1 with h1;injection h1 with _ h1 _;exact absurd h1 (by decide)
      have P5:=ah ((mQ V3.drew.drew g p6 (fun e=>Tg e.symm) (k*5+3) (k*5+4) (.int .i64 (uu)) (.int .i64 (ud))).trans Nf.out);have JD:Hid (Below W1.heap.size W1 ((V3.drew.drew.setCell ⟨g,k*5+3,none⟩ (.int .i64 (uu))).setCell ⟨g,k*5+4,none⟩ (.int .i64 (ud)))):=ah ((((HW2.out _ YI.out).drew.drew).setCell lu _).setCell lu _);have HU:Hid (∀V,V=V3.drew.setCell ⟨g,k*5+3,none⟩ (.int .i64 (uu))→V.drew.setCell ⟨g,k*5+4,none⟩ (.int .i64 (ud))=(V3.drew.drew.setCell ⟨g,k*5+3,none⟩ (.int .i64 (uu))).setCell ⟨g,k*5+4,none⟩ (.int .i64 (ud))):=ah (fun V hV=>by rw[hV];rfl);clear u6 u7 ji bR hl5 lu Tg r1;go_still_tail 10,(by kernel_rfl)
      change wpList _ _ _ _ _ V3.drew;go_wp2;rw[show (V3.setCell ⟨g,k*5+3,none⟩ (.int .i64 (uu))).drew=V3.drew.setCell ⟨g,k*5+3,none⟩ (.int .i64 (uu))from rfl];have HV5:=ah (HU.out _ rfl);clear HU;generalize V3.drew.setCell ⟨g,k*5+3,none⟩ (.int .i64 (uu))=U5 at*;clear e5 e6 e8 c3 g3 i4;obtain⟨e5,e6,e8⟩:=hko;go_still_tail 11,(by kernel_rfl)
      change wpList _ _ _ _ _ U5.drew;go_upto_region 19 with fail
      try rw[show (ud+if (0:Int)<0 then(0:Int)else 0)=ud by simp]
      rw[show (U5.setCell ⟨g,k*5+4,none⟩ (.int .i64 ud)).drew=U5.drew.setCell ⟨g,k*5+4,none⟩ (.int .i64 ud)from rfl,HV5.out];generalize (V3.drew.drew.setCell ⟨g,k*5+3,none⟩ (.int .i64 uu)).setCell ⟨g,k*5+4,none⟩ (.int .i64 ud)=W9 at*;clear c4 g4 e5 e6 e8 HV5 i5;have EO:Hid (Ap ⟨l.dev,l.epoch,l.bU,l.last,l.sl.set k ⟨l.sl[k].key,su,sd,uu,ud⟩,l.ids,l.used⟩):=ah ⟨by rw[List.length_set];exact uj.out.s,uj.out.i,uj.out.u⟩;obtain⟨d0,d1,d2,d3,d4,d5,d6,_⟩:=aB (P5.out);have uN:=ah (eY.out.trans (JD.out.mono eY.out.size));have lS:=ah (aj K2.out JD.out (by omega));have mP:=(bq lS.out).1;go_wp2_with fail
      refine(fI ⟨y1,y2,y3,y4,⟨some ⟨g,0,none⟩,l.sl.length,y7⟩,⟨y8,y9,dz⟩,⟨dA,dJ,cK⟩⟩ _ _ (mI.out.m) (EO.out)).mono ?_;rintro e U2 ⟨⟨z1,z2,z3,z4,⟨z5,z6,z7⟩,⟨z8,z9,dK⟩,⟨dU,eZ,dQ⟩⟩,rfl,pE,jU⟩;have HZ:=ah pE;have lC:=ah jU;have eG:=aj lS.out jU mP;obtain⟨q0,q1,q2,q3,q4,q5,q6,_⟩:=aB eG;have f0:=ak eG 0;have f1:=ak eG 1;have f2:=ak eG 2;have f3:=ak eG 3;have f4:=ak eG 4;have f5:=ak eG 5;have f6:=ak eG 6;clear pE jU eG d0 d1 d2 d3 d4 d5 d6;go_wp2;refine bodyPost_ret (v:=.tuple #[.agg #[.int .i64 z1,.int .i64 z2,.int .i64 z3,.int .i64 z4,.slice z5 z6 z7,.slice z8 z9 dK,.slice dU eZ dQ],.int .i64 0]) (by simp[results,Tryz.results32,go_sem, *]) rfl (show ig _ _ _ _ from ?_);rw[fO.out];exact jB (y:=⟨z1,z2,z3,z4,⟨z5,z6,z7⟩,⟨z8,z9,dK⟩,⟨dU,eZ,dQ⟩⟩) (p:=w.heap.size+2) uN.out lC.out HZ.out (by omega) mP
     ·have e1:uu+max n 0=uu+n:=by omega
      have e2:ud+max (-n) 0=ud:=by omega
      rw[e1,e2]at fO;clear e1 e2;have i4:IntKind.i64.wrap (uu+n)=uu+n:=IntWalk.i64_in _ (by omega);have HGS:=ah r1;have lu:W1.heap.size≤g:=r1;have hl5:(aJ jL l.sl).length=l.sl.length*5:=bP gQ _;have ji:(V3.drew.setCell ⟨g,k*5+3,none⟩ (.int .i64 ((uu+n)))).ownsRow W1.heap.size 88 5 (.slice (some ⟨g,0,none⟩) l.sl.length y7) l.sl.length ((aJ jL l.sl).set (k*5+3) (.int .i64 ((uu+n)))):=dV (show V3.drew.ownsRow _ _ _ _ _ _ from R5.out.s) (k*5+3) (by omega) _;obtain⟨_,_,_,_,_,u6,u7⟩:=bg ji;have c4:=u7 (k*5+4) (.int .i64 ud) (by rw[List.getElem?_set_ne (by omega)];exact GY.out);have g4:=u6 (k*5+4);have bR:Below W1.heap.size W1 (V3.drew.setCell ⟨g,k*5+3,none⟩ (.int .i64 ((uu+n)))):=(HW2.out _ YI.out).drew.setCell lu _;have hko:=KO.out _ bR;have vF:=R5.out.GV (g:=g) rfl k hk ((uu+n)) (ud);rw[OB.out,HSD.out]at vF;have mI:=ah vF;clear vF;have i5:IntKind.i64.wrap (ud)=ud:=IntWalk.i64_in _ (by omega)
      have Tg:g≠p6:=fun e=>by
       have h1:=Nf.out;obtain⟨cur,hc⟩:=qz R5.out.s;rw[←e,hc]at h1;injection h1 with h1;injection h1 with _ h1 _;exact absurd h1 (by decide)
      have P5:=ah ((mQ V3.drew.drew g p6 (fun e=>Tg e.symm) (k*5+3) (k*5+4) (.int .i64 ((uu+n))) (.int .i64 (ud))).trans Nf.out);have JD:Hid (Below W1.heap.size W1 ((V3.drew.drew.setCell ⟨g,k*5+3,none⟩ (.int .i64 ((uu+n)))).setCell ⟨g,k*5+4,none⟩ (.int .i64 (ud)))):=ah ((((HW2.out _ YI.out).drew.drew).setCell lu _).setCell lu _);have HU:Hid (∀V,V=V3.drew.setCell ⟨g,k*5+3,none⟩ (.int .i64 ((uu+n)))→V.drew.setCell ⟨g,k*5+4,none⟩ (.int .i64 (ud))=(V3.drew.drew.setCell ⟨g,k*5+3,none⟩ (.int .i64 ((uu+n)))).setCell ⟨g,k*5+4,none⟩ (.int .i64 (ud))):=ah (fun V hV=>by rw[hV];rfl);clear u6 u7 ji bR hl5 lu Tg r1;go_still_tail 10,(by kernel_rfl)
      change wpList _ _ _ _ _ V3.drew;go_wp2;rw[show (V3.setCell ⟨g,k*5+3,none⟩ (.int .i64 ((uu+n)))).drew=V3.drew.setCell ⟨g,k*5+3,none⟩ (.int .i64 ((uu+n)))from rfl];have HV5:=ah (HU.out _ rfl);clear HU;generalize V3.drew.setCell ⟨g,k*5+3,none⟩ (.int .i64 ((uu+n)))=U5 at*;clear e5 e6 e8 c3 g3 i4;obtain⟨e5,e6,e8⟩:=hko;go_still_tail 11,(by kernel_rfl)
      change wpList _ _ _ _ _ U5.drew;go_upto_region 19 with fail
      try rw[show (ud+if (0:Int)<0 then(0:Int)else 0)=ud by simp]
      rw[show (U5.setCell ⟨g,k*5+4,none⟩ (.int .i64 ud)).drew=U5.drew.setCell ⟨g,k*5+4,none⟩ (.int .i64 ud)from rfl,HV5.out];generalize (V3.drew.drew.setCell ⟨g,k*5+3,none⟩ (.int .i64 (uu+n))).setCell ⟨g,k*5+4,none⟩ (.int .i64 ud)=W9 at*;clear c4 g4 e5 e6 e8 HV5 i5;have EO:Hid (Ap ⟨l.dev,l.epoch,l.bU,l.last,l.sl.set k ⟨l.sl[k].key,su,sd,(uu+n),ud⟩,l.ids,l.used⟩):=ah ⟨by rw[List.length_set];exact uj.out.s,uj.out.i,uj.out.u⟩;obtain⟨d0,d1,d2,d3,d4,d5,d6,_⟩:=aB (P5.out);have uN:=ah (eY.out.trans (JD.out.mono eY.out.size));have lS:=ah (aj K2.out JD.out (by omega));have mP:=(bq lS.out).1;go_wp2_with fail
      refine(fI ⟨y1,y2,y3,y4,⟨some ⟨g,0,none⟩,l.sl.length,y7⟩,⟨y8,y9,dz⟩,⟨dA,dJ,cK⟩⟩ _ _ (mI.out.m) (EO.out)).mono ?_;rintro e U2 ⟨⟨z1,z2,z3,z4,⟨z5,z6,z7⟩,⟨z8,z9,dK⟩,⟨dU,eZ,dQ⟩⟩,rfl,pE,jU⟩;have HZ:=ah pE;have lC:=ah jU;have eG:=aj lS.out jU mP;obtain⟨q0,q1,q2,q3,q4,q5,q6,_⟩:=aB eG;have f0:=ak eG 0;have f1:=ak eG 1;have f2:=ak eG 2;have f3:=ak eG 3;have f4:=ak eG 4;have f5:=ak eG 5;have f6:=ak eG 6;clear pE jU eG d0 d1 d2 d3 d4 d5 d6;go_wp2;refine bodyPost_ret (v:=.tuple #[.agg #[.int .i64 z1,.int .i64 z2,.int .i64 z3,.int .i64 z4,.slice z5 z6 z7,.slice z8 z9 dK,.slice dU eZ dQ],.int .i64 0]) (by simp[results,Tryz.results32,go_sem, *]) rfl (show ig _ _ _ _ from ?_);rw[fO.out];exact jB (y:=⟨z1,z2,z3,z4,⟨z5,z6,z7⟩,⟨z8,z9,dK⟩,⟨dU,eZ,dQ⟩⟩) (p:=w.heap.size+2) uN.out lC.out HZ.out (by omega) mP
 ·have aiG:(kind==4)=false:=by simpa using hkd
  by_cases EP:kind=5
  ·subst EP
   go_wp2_with fail
   refine(El _ l.ids n _ (aG HY.out.i) (by have:=HB.out.i;omega)).mono ?_;rintro e V ⟨rfl,hV⟩;obtain⟨q,hq⟩:∃q,dM l.ids n=q:=⟨_,rfl⟩;rw[hq];have HQ:=ah hq;have HV:=ah hV;have YH:=ah (HY.out.keep hV (aC _));have PZ:=ah (aj K6.out hV Dm);clear hq hV d0 d1 d2 d3 d4 d5 d6 e5 e6 e8 uH
   cases q with
   | false=>
    have fO:=ah (M_ (key:=key) HQ.out);obtain⟨d0,d1,d2,d3,d4,d5,d6,_⟩:=aB (aj K0.out (jI.out.trans ((HV.out).mono jI.out.size)) (by omega));have uN:=ah (eY.out.trans ((jI.out.trans ((HV.out).mono jI.out.size)).mono eY.out.size));have lS:=ah (aj K2.out (jI.out.trans ((HV.out).mono jI.out.size)) (by omega));have mP:=(bq lS.out).1;go_wp2_with fail
    refine(fI ⟨x1,x2,x3,x4,⟨x5,x6,x7⟩,⟨x8,x9,wh⟩,⟨wm,wz,wC⟩⟩ l _ (HM.out.keep (jI.out.trans ((HV.out).mono jI.out.size)) (aC _)) (uj.out)).mono ?_;rintro e U2 ⟨⟨z1,z2,z3,z4,⟨z5,z6,z7⟩,⟨z8,z9,dK⟩,⟨dU,eZ,dQ⟩⟩,rfl,pE,jU⟩;have HZ:=ah pE;have lC:=ah jU;have eG:=aj lS.out jU mP;obtain⟨q0,q1,q2,q3,q4,q5,q6,_⟩:=aB eG;have f0:=ak eG 0;have f1:=ak eG 1;have f2:=ak eG 2;have f3:=ak eG 3;have f4:=ak eG 4;have f5:=ak eG 5;have f6:=ak eG 6;clear pE jU eG d0 d1 d2 d3 d4 d5 d6;go_wp2;refine bodyPost_ret (v:=.tuple #[.agg #[.int .i64 z1,.int .i64 z2,.int .i64 z3,.int .i64 z4,.slice z5 z6 z7,.slice z8 z9 dK,.slice dU eZ dQ],.int .i64 14]) (by simp[results,Tryz.results32,go_sem, *]) rfl (show ig _ _ _ _ from ?_);rw[fO.out];exact jB (y:=⟨z1,z2,z3,z4,⟨z5,z6,z7⟩,⟨z8,z9,dK⟩,⟨dU,eZ,dQ⟩⟩) (p:=w.heap.size+2) uN.out lC.out HZ.out (by omega) mP
   | true=>
    obtain⟨e5,e6,e8⟩:=KO.out _ (HW2.out _ HV.out);obtain⟨d0,d1,d2,d3,d4,d5,d6,jJ⟩:=aB PZ.out;clear jJ;go_wp2_with fail
    refine(yZ _ l.used n _ (aG YH.out.u) (by have:=HB.out.u;omega) HB.out.sort).mono ?_;rintro e V' ⟨rfl,rfl⟩;obtain⟨q2,vW⟩:∃q2,l.used.contains n=q2:=⟨_,rfl⟩;rw[vW];have eF:=ah vW;clear vW
    cases q2 with
    | true=>
     have fO:=ah (Na (key:=key) HQ.out eF.out);clear d0 d1 d2 d3 d4 d5 d6 e5 e6 e8;obtain⟨d0,d1,d2,d3,d4,d5,d6,_⟩:=aB (aj K0.out (jI.out.trans ((HV.out).mono jI.out.size)) (by omega));have uN:=ah (eY.out.trans ((jI.out.trans ((HV.out).mono jI.out.size)).mono eY.out.size));have lS:=ah (aj K2.out (jI.out.trans ((HV.out).mono jI.out.size)) (by omega));have mP:=(bq lS.out).1;go_wp2_with fail
     refine(fI ⟨x1,x2,x3,x4,⟨x5,x6,x7⟩,⟨x8,x9,wh⟩,⟨wm,wz,wC⟩⟩ l _ (HM.out.keep (jI.out.trans ((HV.out).mono jI.out.size)) (aC _)) (uj.out)).mono ?_;rintro e U2 ⟨⟨z1,z2,z3,z4,⟨z5,z6,z7⟩,⟨z8,z9,dK⟩,⟨dU,eZ,dQ⟩⟩,rfl,pE,jU⟩;have HZ:=ah pE;have lC:=ah jU;have eG:=aj lS.out jU mP;obtain⟨q0,q1,q2,q3,q4,q5,q6,_⟩:=aB eG;have f0:=ak eG 0;have f1:=ak eG 1;have f2:=ak eG 2;have f3:=ak eG 3;have f4:=ak eG 4;have f5:=ak eG 5;have f6:=ak eG 6;clear pE jU eG d0 d1 d2 d3 d4 d5 d6;go_wp2;refine bodyPost_ret (v:=.tuple #[.agg #[.int .i64 z1,.int .i64 z2,.int .i64 z3,.int .i64 z4,.slice z5 z6 z7,.slice z8 z9 dK,.slice dU eZ dQ],.int .i64 7]) (by simp[results,Tryz.results32,go_sem, *]) rfl (show ig _ _ _ _ from ?_);rw[fO.out];exact jB (y:=⟨z1,z2,z3,z4,⟨z5,z6,z7⟩,⟨z8,z9,dK⟩,⟨dU,eZ,dQ⟩⟩) (p:=w.heap.size+2) uN.out lC.out HZ.out (by omega) mP
    | false=>
     have fO:=ah (Nb (key:=key) HQ.out eF.out);have hcp:=List.countP_le_length (p:=fun x=>decide (x<n)) (l:=l.used);have HCR:=ah (A9 l.used n);have HLR:=ah (ze l.used n);have ZJ:=HB.out.u;generalize hcc:l.used.countP (fun x=>decide (x<n))=cp at*;clear hcc;obtain⟨V,hVV⟩:∃V,V=V':=⟨_,rfl⟩;subst hVV;have eD:Below V.heap.size V (V.alloc (.cells #[.int .i64 n] 3)):=(aL _ _).alloc (aC _) _;have Wu:(V.alloc (.cells #[.int .i64 n] 3)).heap[V.heap.size]? =some (.cells #[.int .i64 n] 3 (0,0)):=heap_alloc_new _ _;have pV:=ah (YH.out.keep eD (aC _));have adV:=ah (aj PZ.out eD (bq PZ.out).1);have pF:=ah (HW2.out _ (HV.out.trans (eD.mono HV.out.size)))
     have pY:(Value.slice dA dJ cK).ownBlock≠some V.heap.size:=fun e=>by
      have:=(YH.out.u.lt _ e).2;omega
     have hsA:=pF.out.size;go_wp2_with fail
     generalize V.alloc (.cells #[.int .i64 n] 3)=W8 at*;generalize hv8:V.heap.size=v8 at*;clear hv8;refine(wR _ l.used.length cp (bS l.used) [.int .i64 n] W8 W1.heap.size v8 pV.out.u (oh _) (by intro u hu;simp at hu;subst hu;rfl) rfl (by omega) hcp hsA Wu pY).mono ?_;rintro e w9 ⟨v',rfl,Av,Lm,ER⟩;rw[HCR.out,←HLR.out]at Av;obtain⟨kJ,cap',rfl,_,_⟩:=aO Av;obtain⟨i1,i2,i3⟩:=jF.ins (v':=⟨kJ,_,cap'⟩) pV.out adV.out Av Lm;have jW:Below W1.heap.size W1 w9:=pF.out.grown Lm pF.out.size (fun g' hg'=>(pV.out.u.lt g' hg').1);have UC:W1.heap.size≤p6:=by have:=HP6.out;omega
     have I8:=ah (jW.setCell (p:=⟨p6,6,none⟩) UC (.slice kJ (rise l.used n).length cap'));have HI1:=ah i1;have HI2:=ah i2;clear d0 d1 d2 d3 d4 d5 d6;obtain⟨d0,d1,d2,d3,d4,d5,d6,jJ⟩:=aB i3;have f6:=ak i3 6;simp only[Sv.v]at d0 d1 d2 d3 d4 d5 d6 HI1 HI2;clear jJ i1 i2 i3 Av Lm ER jW eD pY;go_upto_region 19 with fail
     generalize w9.setCell ⟨p6,6,none⟩ (.slice kJ (rise l.used n).length cap')=W9 at*;clear d0 d1 d2 d3 d4 d5 d6 f6 e5 e6 e8;have EO:Hid (Ap ⟨l.dev,l.epoch,l.bU,l.last,l.sl,l.ids,rise l.used n⟩):=ah ⟨uj.out.s,uj.out.i,by show(rise l.used n).length<_;rw[HLR.out];omega⟩;obtain⟨d0,d1,d2,d3,d4,d5,d6,_⟩:=aB (HI2.out);have uN:=ah (eY.out.trans (I8.out.mono eY.out.size));have lS:=ah (aj K2.out I8.out (by omega));have mP:=(bq lS.out).1;go_wp2_with fail
     refine(fI ⟨y1,y2,y3,y4,⟨y5,y6,y7⟩,⟨y8,y9,dz⟩,⟨kJ,(rise l.used n).length,cap'⟩⟩ _ _ (HI1.out.m) (EO.out)).mono ?_;rintro e U2 ⟨⟨z1,z2,z3,z4,⟨z5,z6,z7⟩,⟨z8,z9,dK⟩,⟨dU,eZ,dQ⟩⟩,rfl,pE,jU⟩;have HZ:=ah pE;have lC:=ah jU;have eG:=aj lS.out jU mP;obtain⟨q0,q1,q2,q3,q4,q5,q6,_⟩:=aB eG;have f0:=ak eG 0;have f1:=ak eG 1;have f2:=ak eG 2;have f3:=ak eG 3;have f4:=ak eG 4;have f5:=ak eG 5;have f6:=ak eG 6;clear pE jU eG d0 d1 d2 d3 d4 d5 d6;go_wp2;refine bodyPost_ret (v:=.tuple #[.agg #[.int .i64 z1,.int .i64 z2,.int .i64 z3,.int .i64 z4,.slice z5 z6 z7,.slice z8 z9 dK,.slice dU eZ dQ],.int .i64 0]) (by simp[results,Tryz.results32,go_sem, *]) rfl (show ig _ _ _ _ from ?_);rw[fO.out];exact jB (y:=⟨z1,z2,z3,z4,⟨z5,z6,z7⟩,⟨z8,z9,dK⟩,⟨dU,eZ,dQ⟩⟩) (p:=w.heap.size+2) uN.out lC.out HZ.out (by omega) mP
  ·have aiJ:(kind==5)=false:=by simpa using EP
   have fO:=ah (GX (l:=l) (key:=key) (n:=n) hkd EP);clear hkd EP;go_upto_region 19 with fail
   clear d0 d1 d2 d3 d4 d5 d6 e5 e6 e8;obtain⟨d0,d1,d2,d3,d4,d5,d6,_⟩:=aB (K6.out);have uN:=ah (eY.out.trans (jI.out.mono eY.out.size));have lS:=ah (aj K2.out jI.out (by omega));have mP:=(bq lS.out).1;go_wp2_with fail
   refine(fI ⟨y1,y2,y3,y4,⟨y5,y6,y7⟩,⟨y8,y9,dz⟩,⟨dA,dJ,cK⟩⟩ l _ (HY.out.m) (uj.out)).mono ?_;rintro e U2 ⟨⟨z1,z2,z3,z4,⟨z5,z6,z7⟩,⟨z8,z9,dK⟩,⟨dU,eZ,dQ⟩⟩,rfl,pE,jU⟩;have HZ:=ah pE;have lC:=ah jU;have eG:=aj lS.out jU mP;obtain⟨q0,q1,q2,q3,q4,q5,q6,_⟩:=aB eG;have f0:=ak eG 0;have f1:=ak eG 1;have f2:=ak eG 2;have f3:=ak eG 3;have f4:=ak eG 4;have f5:=ak eG 5;have f6:=ak eG 6;clear pE jU eG d0 d1 d2 d3 d4 d5 d6;go_wp2;refine bodyPost_ret (v:=.tuple #[.agg #[.int .i64 z1,.int .i64 z2,.int .i64 z3,.int .i64 z4,.slice z5 z6 z7,.slice z8 z9 dK,.slice dU eZ dQ],.int .i64 0]) (by simp[results,Tryz.results32,go_sem, *]) rfl (show ig _ _ _ _ from ?_);rw[fO.out];exact jB (y:=⟨z1,z2,z3,z4,⟨z5,z6,z7⟩,⟨z8,z9,dK⟩,⟨dU,eZ,dQ⟩⟩) (p:=w.heap.size+2) uN.out lC.out HZ.out (by omega) mP
end Go.Proofs.YtlfopoimbbpfdaaGreat
