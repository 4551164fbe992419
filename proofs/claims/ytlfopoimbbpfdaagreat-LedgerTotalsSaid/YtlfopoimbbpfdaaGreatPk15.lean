/- What the law asks, in parts: LSp. -/
import Derived.Test.YtlfopoimbbpfdaaGreatPk13
import Derived.Test.YtlfopoimbbpfdaaGreatPk8
import Derived.Test.YtlfopoimbbpfdaaGreatPk14
set_option linter.all false
namespace Go.Proofs.YtlfopoimbbpfdaaGreat
open Go.RowKit
abbrev TI (o:pO):Value:=.agg #[.int .i64 o.dev,.int .i64 o.epoch,.int .i64 o.seq,.int .i64 o.coll,.int .i64 o.ver,.int .i64 o.kind,.string o.key,.string o.text,.int .i64 o.n,.int .i64 o.time,o.dots.v]
structure SpB (l:Ls) (n:Int):Prop where
 s:l.sl.length<1000000
 i:l.ids.length<1000000
 u:l.used.length<99999
 n: -1099511627776≤n∧n≤1099511627776
 sc:∀s∈l.sl,(0≤s.up∧s.up≤4398046511104)∧(0≤s.down∧s.down≤4398046511104)∧(0≤s.uu∧s.uu≤4398046511104)∧0≤s.ud∧s.ud≤4398046511104
 sort:l.used.Pairwise (· ≤ ·)
structure NS (l:Ls) (k n:Int):Prop where
 s:l.sl.length<1000000
 i:l.ids.length<1000000
 u:l.used.length<99999
 n:k=4→ -1099511627776≤n∧n≤1099511627776
 sc:∀s∈l.sl,(0≤s.up∧s.up≤4398046511104)∧(0≤s.down∧s.down≤4398046511104)∧(0≤s.uu∧s.uu≤4398046511104)∧0≤s.ud∧s.ud≤4398046511104
 sort:l.used.Pairwise (· ≤ ·)
theorem SpB.k {l:Ls} {n:Int} (h:SpB l n) (k:Int):NS l k n:=⟨h.s,h.i,h.u,fun _=>h.n,h.sc,h.sort⟩
def fO (w:World) (r:Ls×Int) (e:Ending) (w':World):Prop:=∃ (y:bV),e= .returned (.tuple #[nI y,.int .i64 r.2])∧iC w' w.heap.size y r.1∧Below w.heap.size w w'
theorem ig {w U U2:World} {l:Ls} {y:bV} {p:Nat} {n:Int} (hw:Below w.heap.size w U) (hb:Below U.heap.size U U2) (hy:iC U2 U.heap.size y l) (hp:w.heap.size≤p) (NM:p<U.heap.size):
  fO w (l,n) (.returned (.tuple #[nI y,.int .i64 n])) (((((((U2.setCell ⟨p,0,none⟩ (.int .i64 y.dev)).setCell ⟨p,1,none⟩ (.int .i64 y.epoch)).setCell ⟨p,2,none⟩ (.int .i64 y.bY)).setCell ⟨p,3,none⟩ (.int .i64 y.last)).setCell ⟨p,4,none⟩ y.s.v).setCell ⟨p,5,none⟩ y.i.v).setCell ⟨p,6,none⟩ y.u.v):=by
 have g2:=(((((((hy.put ⟨p,0,none⟩ NM (.int .i64 y.dev)).put ⟨p,1,none⟩ NM (.int .i64 y.epoch)).put ⟨p,2,none⟩ NM (.int .i64 y.bY)).put ⟨p,3,none⟩ NM (.int .i64 y.last)).put ⟨p,4,none⟩ NM y.s.v).put ⟨p,5,none⟩ NM y.i.v).put ⟨p,6,none⟩ NM y.u.v)
 refine⟨y,rfl,g2.base hw.size,?_⟩
 have hbw:=hw.trans (hb.mono hw.size)
 exact((((((hbw.setCell hp _).setCell hp _).setCell hp _).setCell hp _).setCell hp _).setCell hp _).setCell hp _
theorem t_ (w:World) (a b c:Obj):∃W,(((w.alloc a).alloc b).alloc c)=W∧W.heap[w.heap.size]? =some a∧W.heap[w.heap.size+1]? =some b∧W.heap[w.heap.size+2]? =some c∧Below w.heap.size w W∧W.heap.size=w.heap.size+3:=
 ⟨_,rfl,wR w a b c,wS w a b c,wT w a b c,(((aL _ _).alloc (aC _) _).alloc (by simp) _).alloc (by simp;omega) _,by simp⟩
theorem uQ (l:List Sc) (k:Nat) (hk:k<l.length) (u d:Int):
  ((aK jm l).set (k*5+3) (.int .i64 u)).set (k*5+4) (.int .i64 d)=aK jm (l.set k ⟨l[k].key,l[k].up,l[k].down,u,d⟩):=by
 induction l generalizing k with
 | nil=>simp at hk
 | cons x l ih=>
  cases k with
  | zero=>simp[aU,jm]
  | succ k=>
   have e:∀j,(k+1)*5+j=k*5+j+5:=fun j=>by omega
   rw[List.set_cons_succ,aU,aU,List.getElem_cons_succ,←ih k (by simpa using hk)]
   simp only[e]
   simp[jm]
theorem iC.KI {w:World} {B g n cap:Nat} {y:bV} {l:Ls} (h:iC w B y l) (hy:y.s=⟨some ⟨g,0,none⟩,n,cap⟩) (k:Nat) (hk:k<l.sl.length) (u d:Int):
  iC ((w.drew.drew.setCell ⟨g,k*5+3,none⟩ (.int .i64 u)).setCell ⟨g,k*5+4,none⟩ (.int .i64 d)) B y ⟨l.dev,l.epoch,l.bY,l.last,l.sl.set k ⟨l.sl[k].key,l.sl[k].up,l.sl[k].down,u,d⟩,l.ids,l.used⟩:=by
 have hs:w.drew.drew.ownsRow B 88 5 y.s.v l.sl.length (aK jm l.sl):=h.s
 have hi:w.drew.drew.ownsRow B 56 2 y.i.v l.ids.length (aR l.ids):=h.i
 have hu:w.drew.drew.ownsRow B 3 1 y.u.v l.used.length (bM l.used):=h.u
 generalize w.drew.drew=W at*
 have hoth:∀c,c≠g→((W.setCell ⟨g,k*5+3,none⟩ (.int .i64 u)).setCell ⟨g,k*5+4,none⟩ (.int .i64 d)).heap[c]? =W.heap[c]? :=fun c hc=>iP _ _ _ hc _ _ _ _
 rw[hy]at hs
 simp only[Sv.v]at hs
 have hn:n=l.sl.length:=by
  obtain⟨_,_,he,_,_⟩:=aP hs
  injection he with _ he _
 subst hn
 obtain⟨cur,hg⟩:=mW hs
 have hl:(aK jm l.sl).length=l.sl.length*5:=bL gK _
 have hset:=dF (dF hs (k*5+3) (by omega) (.int .i64 u)) (k*5+4) (by rw[List.length_set];omega) (.int .i64 d)
 rw[uQ _ _ hk]at hset
 refine⟨h.dev,h.epoch,h.bY,h.last,?_,aH hi hoth hg (by decide),aH hu hoth hg (by decide)⟩
 rw[hy]
 show World.ownsRow _ _ _ _ _ (l.sl.set _ _).length _
 rw[List.length_set]
 exact hset
theorem iC.ins {W8 W9:World} {B p6:Nat} {y:bV} {l:Ls} {v':Sv} {KJ:List Int} (h:iC W8 B y l) (hk:W8.heap[p6]? =some (.cells #[.int .i64 y.dev,.int .i64 y.epoch,.int .i64 y.bY,.int .i64 y.last,y.s.v,y.i.v,y.u.v] 48 (0,0)))
  (ho:W9.ownsRow B 3 1 v'.v KJ.length (bM KJ)) (hg:W8.grownBy W9 y.u.v.ownBlock):
  iC (W9.setCell ⟨p6,6,none⟩ v'.v) B ⟨y.dev,y.epoch,y.bY,y.last,y.s,y.i,v'⟩ ⟨l.dev,l.epoch,l.bY,l.last,l.sl,l.ids,KJ⟩∧
   (W9.setCell ⟨p6,6,none⟩ v'.v).heap[p6]? =some (.cells #[.int .i64 y.dev,.int .i64 y.epoch,.int .i64 y.bY,.int .i64 y.last,y.s.v,y.i.v,v'.v] 48 (0,0))∧
   W9.heap[p6]? =some (.cells #[.int .i64 y.dev,.int .i64 y.epoch,.int .i64 y.bY,.int .i64 y.last,y.s.v,y.i.v,y.u.v] 48 (0,0)):=by
 have hne:∀ {base e E v n zs},W8.ownsRow base e E v n zs→e≠ 3 →W9.ownsRow base e E v n zs:=fun {base e E v n zs} hr he=>by
  refine hr.kept hg ?_
  cases hv:v.ownBlock with
  | none=>exact .inl rfl
  | some q=>
   refine .inr (fun hq=>?_)
   rcases hy:y.u.v.ownBlock with _ | q2
   ·rw[hy]at hq;cases hq
   ·rw[hy]at hq
    obtain⟨cur,hc⟩:=jK h.u hy
    injection hq with hq
    subst hq
    exact jW hr hc he hv
 have hp:W9.heap[p6]? =some (.cells #[.int .i64 y.dev,.int .i64 y.epoch,.int .i64 y.bY,.int .i64 y.last,y.s.v,y.i.v,y.u.v] 48 (0,0)):=by
  rw[hg.block p6 (bg hk).1 (fun e=>by
   obtain⟨cur,hc⟩:=jK h.u e.symm
   rw[hk]at hc
   injection hc with hc
   injection hc with _ hc _
   exact absurd hc (by decide))]
  exact hk
 have hoth:∀c,c≠p6→(W9.setCell ⟨p6,6,none⟩ v'.v).heap[c]? =W9.heap[c]? :=fun c hc=>aW _ _ _ (fun e=>hc e.symm) _
 refine⟨⟨h.dev,h.epoch,h.bY,h.last,aH (hne h.s (by decide)) hoth hp (by decide),aH (hne h.i (by decide)) hoth hp (by decide),aH ho hoth hp (by decide)⟩,?_,hp⟩
 simp[World.setCell,Array.getElem?_modify,hp]
theorem xG (l:List Int) (n:Int):(bM l).take (l.countP (· <n)*1)++ [.int .i64 n]++(bM l).drop (l.countP (· <n)*1)=bM (rise l n):=by
 unfold bM rise
 simp[List.map_take,List.map_drop]
theorem uR (l:List Int) (n:Int):(rise l n).length=l.length+1:=by
 have:=List.countP_le_length (p:=fun x=>decide (x<n)) (l:=l)
 unfold rise
 simp only[List.length_append,List.length_take,List.length_cons,List.length_drop]
 omega
theorem Iq {l:Ls} {key:ByteArray} {n:Int} (h:dS (fun c:Sc=>decide (c.key=key)) l.sl= -1):bN l 4 key n=(l,14):=by
 show mH l key n=_
 unfold mH kL
 rw[h,if_pos (by decide)]
theorem EX {l:Ls} {key:ByteArray} {n:Int} {k:Nat} (hk:k<l.sl.length) (h:dS (fun c:Sc=>decide (c.key=key)) l.sl=k) (h2:l.sl[k].up-l.sl[k].uu<n∨l.sl[k].down-l.sl[k].ud< -n):bN l 4 key n=(l,14):=by
 show mH l key n=_
 unfold mH kL
 have e:l.sl.getD (k:Int).toNat Jz=l.sl[k]:=by simp[List.getD,List.getElem?_eq_getElem hk]
 rw[h,e,if_neg (by omega),if_pos h2]
theorem Ir {l:Ls} {key:ByteArray} {n:Int} {k:Nat} (hk:k<l.sl.length) (h:dS (fun c:Sc=>decide (c.key=key)) l.sl=k) (h2:¬l.sl[k].up-l.sl[k].uu<n) (h3:¬l.sl[k].down-l.sl[k].ud< -n):
  bN l 4 key n=(⟨l.dev,l.epoch,l.bY,l.last,l.sl.set k ⟨l.sl[k].key,l.sl[k].up,l.sl[k].down,l.sl[k].uu+max n 0,l.sl[k].ud+max (-n) 0⟩,l.ids,l.used⟩,0):=by
 show mH l key n=_
 unfold mH kL
 have e:l.sl.getD (k:Int).toNat Jz=l.sl[k]:=by simp[List.getD,List.getElem?_eq_getElem hk]
 rw[h,e,if_neg (by omega),if_neg (fun hh=>by rcases hh with hh | hh;exact h2 hh;exact h3 hh)]
 simp[AR]
theorem Iu {l:Ls} {key:ByteArray} {n:Int} (h:eB l.ids n=false):bN l 5 key n=(l,14):=by
 show mI l n=_
 unfold mI
 rw[if_pos h]
theorem Iw {l:Ls} {key:ByteArray} {n:Int} (h:eB l.ids n=true) (h2:l.used.contains n=true):bN l 5 key n=(l,7):=by
 show mI l n=_
 unfold mI
 rw[if_neg (by rw[h];simp),if_pos h2]
theorem Iy {l:Ls} {key:ByteArray} {n:Int} (h:eB l.ids n=true) (h2:l.used.contains n=false):bN l 5 key n=(⟨l.dev,l.epoch,l.bY,l.last,l.sl,l.ids,rise l.used n⟩,0):=by
 show mI l n=_
 unfold mI
 rw[if_neg (by rw[h];simp),if_neg (by rw[h2];simp)]
theorem Dc {l:Ls} {key:ByteArray} {n kind:Int} (h:kind≠4) (h2:kind≠5):bN l kind key n=(l,0):=by
 unfold bN
 rw[if_neg h,if_neg h2]
set_option maxRecDepth 100000 in
set_option maxHeartbeats 8000000 in
theorem Iz (x:bV) (l:Ls) (o:pO) (w:World) (h:lW w x l) (hB:NS l o.kind o.n):
  Calls Tryz.prog 32 #[nI x,TI o] w (fO w (bN l o.kind o.key o.n)):=by
 obtain⟨x1,x2,x3,x4,⟨x5,x6,x7⟩,⟨x8,x9,qV⟩,⟨qW,qX,qY⟩⟩:=x
 obtain⟨o1,o2,o3,o4,o5,kind,key,text,n,time,⟨oa,on,oc⟩⟩:=o
 simp only
 obtain⟨W1,hW1,k0,k1,k2,hb1,hz1⟩:=t_ w (.cells #[.int .i64 x1,.int .i64 x2,.int .i64 x3,.int .i64 x4,.slice x5 x6 x7,.slice x8 x9 qV,.slice qW qX qY] 48) (.cells #[.int .i64 o1,.int .i64 o2,.int .i64 o3,.int .i64 o4,.int .i64 o5,.int .i64 kind,.string key,.string text,.int .i64 n,.int .i64 time,.slice oa on oc] 38) (.cells #[.int .i64 0,.int .i64 0,.int .i64 0,.int .i64 0,.slice none 0 0,.slice none 0 0,.slice none 0 0] 48)
 have HW1:=ah hW1
 have hz1':w.heap.size+2<W1.heap.size:=by omega
 have K0:=ah k0
 have K1:=ah k1
 have K2:=ah k2
 have HM:=ah (h.keep hb1 (aC _))
 have dV:=ah hb1
 have HB:=ah hB
 have pI:Hid (wJ l):=ah ⟨hB.s,hB.i,by have:=hB.u;omega⟩
 clear hW1 hz1 k0 k1 k2 hb1 h hB
 change Calls Tryz.prog _ #[.agg #[.int .i64 x1,.int .i64 x2,.int .i64 x3,.int .i64 x4,.slice x5 x6 x7,.slice x8 x9 qV,.slice qW qX qY],.agg #[.int .i64 o1,.int .i64 o2,.int .i64 o3,.int .i64 o4,.int .i64 o5,.int .i64 kind,.string key,.string text,.int .i64 n,.int .i64 time,.slice oa on oc]] w _
 go_enter Tryz.func32,Tryz.ntmps32
 go_upto_region 1 with fail
 rw[HW1.out]
 obtain⟨d0,d1,d2,d3,d4,d5,d6,_⟩:=aB K0.out
 go_wp2_with fail
 refine(dZ ⟨x1,x2,x3,x4,⟨x5,x6,x7⟩,⟨x8,x9,qV⟩,⟨qW,qX,qY⟩⟩ l _ HM.out pI.out).mono ?_
 rintro e U0 ⟨⟨y1,y2,y3,y4,⟨y5,y6,y7⟩,⟨y8,y9,bW⟩,⟨bX,cB,y13⟩⟩,rfl,hy,hb0⟩
 clear d0 d1 d2 d3 d4 d5 d6
 have dK:Below U0.heap.size U0 (U0.alloc (.cells #[.int .i64 y1,.int .i64 y2,.int .i64 y3,.int .i64 y4,.slice y5 y6 y7,.slice y8 y9 bW,.slice bX cB y13] 48)):=(aL _ _).alloc (aC _) _
 have K6:=ah (heap_alloc_new U0 (.cells #[.int .i64 y1,.int .i64 y2,.int .i64 y3,.int .i64 y4,.slice y5 y6 y7,.slice y8 y9 bW,.slice bX cB y13] 48))
 have HY:=ah (hy.keep dK (aC _))
 have HB2:=ah (hb0.trans (dK.mono hb0.size))
 have hz0:=hb0.size
 have wK:U0.heap.size<(U0.alloc (.cells #[.int .i64 y1,.int .i64 y2,.int .i64 y3,.int .i64 y4,.slice y5 y6 y7,.slice y8 y9 bW,.slice bX cB y13] 48)).heap.size:=by simp
 clear hy hb0 dK
 go_upto_region 2 with fail
 generalize U0.alloc (.cells #[.int .i64 y1,.int .i64 y2,.int .i64 y3,.int .i64 y4,.slice y5 y6 y7,.slice y8 y9 bW,.slice bX cB y13] 48)=W2 at*
 have KO:Hid (∀V,Below W1.heap.size W1 V→V.cell? ⟨w.heap.size+1,5,none⟩=some (.int .i64 kind)∧V.cell? ⟨w.heap.size+1,6,none⟩=some (.string key)∧V.cell? ⟨w.heap.size+1,8,none⟩=some (.int .i64 n)):=ah (fun V hV=>by
  have hh:=aj K1.out hV (by omega)
  refine⟨?_,?_,?_⟩<;>simp[World.cell?,hh])
 have HW2:Hid (∀V,Below W2.heap.size W2 V→Below W1.heap.size W1 V):=ah (fun V hV=>HB2.out.trans (hV.mono HB2.out.size))
 obtain⟨e5,e6,e8⟩:=KO.out _ HB2.out
 obtain⟨d0,d1,d2,d3,d4,d5,d6,iN⟩:=aB K6.out
 clear iN
 have hr2:Below W2.heap.size W2 W2:=aL _ _
 generalize JA:U0.heap.size=p6 at*
 have ZN:=ah JA
 clear JA
 by_cases hkd:kind=4
 ·subst hkd
  obtain⟨hn1,hn2⟩:=HB.out.n rfl
  rcases bQ (fun c:Sc=>decide (c.key=key)) l.sl with⟨hi,_⟩ | ⟨k,hk,hi,_,_⟩
  ·have eO:=ah (Iq (n:=n) hi)
   go_wp2_with fail
   refine(tJ _ l.sl _ _ (fun c=>decide (c.key=key)) _ (aI HY.out.s) (Gj e6 _)).mono ?_
   rintro e V ⟨rfl,hV⟩
   rw[hi]
   have HV:=ah hV
   clear hV d0 d1 d2 d3 d4 d5 d6 e5 e6 e8 hi hr2
   obtain⟨d0,d1,d2,d3,d4,d5,d6,_⟩:=aB (aj K0.out (HB2.out.trans ((HV.out).mono HB2.out.size)) (by omega))
   have rV:=ah (dV.out.trans ((HB2.out.trans ((HV.out).mono HB2.out.size)).mono dV.out.size))
   have jO:=ah (aj K2.out (HB2.out.trans ((HV.out).mono HB2.out.size)) (by omega))
   have jT:=(bg jO.out).1
   go_wp2_with fail
   refine(dZ ⟨x1,x2,x3,x4,⟨x5,x6,x7⟩,⟨x8,x9,qV⟩,⟨qW,qX,qY⟩⟩ l _ (HM.out.keep (HB2.out.trans ((HV.out).mono HB2.out.size)) (aC _)) (pI.out)).mono ?_
   rintro e U2 ⟨⟨z1,z2,z3,z4,⟨z5,z6,z7⟩,⟨z8,z9,dD⟩,⟨dI,z12,dJ⟩⟩,rfl,hzz,hbz⟩
   have HZ:=ah hzz
   have jd:=ah hbz
   have hk4:=aj jO.out hbz jT
   obtain⟨q0,q1,q2,q3,q4,q5,q6,_⟩:=aB hk4
   have f0:=ak hk4 0
   have f1:=ak hk4 1
   have f2:=ak hk4 2
   have f3:=ak hk4 3
   have f4:=ak hk4 4
   have f5:=ak hk4 5
   have f6:=ak hk4 6
   clear hzz hbz hk4 d0 d1 d2 d3 d4 d5 d6
   go_wp2
   refine bodyPost_ret (v:=.tuple #[.agg #[.int .i64 z1,.int .i64 z2,.int .i64 z3,.int .i64 z4,.slice z5 z6 z7,.slice z8 z9 dD,.slice dI z12 dJ],.int .i64 14]) (by simp[results,Tryz.results32,go_sem, *]) rfl (show fO _ _ _ _ from ?_)
   rw[eO.out]
   exact ig (y:=⟨z1,z2,z3,z4,⟨z5,z6,z7⟩,⟨z8,z9,dD⟩,⟨dI,z12,dJ⟩⟩) (p:=w.heap.size+2) rV.out jd.out HZ.out (by omega) jT
  ·have BK:=ah (EX (n:=n) hk hi)
   have rF:=ah (Ir (n:=n) hk hi)
   have QV:=HB.out.sc l.sl[k] (List.getElem_mem hk)
   obtain⟨⟨b1,b2⟩,⟨b3,b4⟩,⟨b5,b6⟩,b7,b8⟩:=QV
   obtain⟨g,cap,hys⟩:=fu HY.out.s (by omega)
   injection hys with QZ Q0 Q5
   subst QZ Q0 Q5
   go_wp2_with fail
   refine(tJ _ l.sl _ _ (fun c=>decide (c.key=key)) _ (aI HY.out.s) (Gj e6 _)).mono ?_
   rintro e V ⟨rfl,hV⟩
   rw[hi]
   have HV:=ah hV
   have TJ:=ah (HY.out.keep hV (aC _))
   have Q6:=aj K6.out hV wK
   clear d0 d1 d2 d3 d4 d5 d6 e5 e6 e8 hi hr2
   obtain⟨e5,e6,e8⟩:=KO.out _ (HW2.out _ hV)
   obtain⟨d0,d1,d2,d3,d4,d5,d6,iN⟩:=aB Q6
   have KL:=ah Q6
   clear iN hV Q6
   obtain⟨r1,r2,r3,r4,r5,r6,r7⟩:=bq TJ.out.s
   have c1:=r7 (k*5+1) _ (by rw[bP gK _ k hk 1 (by omega)];rfl)
   have c2:=r7 (k*5+2) _ (by rw[bP gK _ k hk 2 (by omega)];rfl)
   have c3:=r7 (k*5+3) _ (by rw[bP gK _ k hk 3 (by omega)];rfl)
   have c4:=r7 (k*5+4) _ (by rw[bP gK _ k hk 4 (by omega)];rfl)
   have Yb:Hid ((aK jm l.sl)[k*5+3]? =some (.int .i64 l.sl[k].uu)):=ah (by rw[bP gK _ k hk 3 (by omega)];rfl)
   have ZO:Hid ((aK jm l.sl)[k*5+4]? =some (.int .i64 l.sl[k].ud)):=ah (by rw[bP gK _ k hk 4 (by omega)];rfl)
   have Vb:=ah (uQ l.sl k hk)
   have g3:=r6 (k*5+3)
   have g4:=r6 (k*5+4)
   clear r7 r6
   generalize hsu:l.sl[k].up=su at*
   generalize hsd:l.sl[k].down=sd at*
   have TK:=ah hsu
   have ZP:=ah hsd
   clear hsu hsd
   generalize l.sl[k].uu=uu at*
   generalize l.sl[k].ud=ud at*
   have hls:=HB.out.s
   have iG:(k:Int)<l.sl.length:=by omega
   have i1:IntKind.i64.wrap (su-uu)=su-uu:=IntWalk.i64_in _ (by omega)
   have i2:IntKind.i64.wrap (sd-ud)=sd-ud:=IntWalk.i64_in _ (by omega)
   have i3:IntKind.i64.wrap (-n)= -n:=IntWalk.i64_in _ (by omega)
   by_cases h1:su-uu<n
   ·have Yc:decide (su-uu<n)=true:=by simpa using h1
    have eO:=ah (BK.out (.inl h1))
    clear h1
    go_wp2_with fail
    go_quiet (fail)
    have EY:=below_drewN HV.out nq
    clear d0 d1 d2 d3 d4 d5 d6 e5 e6 e8 c1 c2 c3 c4 g3 g4 i1 i2 i3 Yc
    obtain⟨d0,d1,d2,d3,d4,d5,d6,_⟩:=aB (aj K0.out (HB2.out.trans ((EY).mono HB2.out.size)) (by omega))
    have rV:=ah (dV.out.trans ((HB2.out.trans ((EY).mono HB2.out.size)).mono dV.out.size))
    have jO:=ah (aj K2.out (HB2.out.trans ((EY).mono HB2.out.size)) (by omega))
    have jT:=(bg jO.out).1
    go_wp2_with fail
    refine(dZ ⟨x1,x2,x3,x4,⟨x5,x6,x7⟩,⟨x8,x9,qV⟩,⟨qW,qX,qY⟩⟩ l _ (HM.out.keep (HB2.out.trans ((EY).mono HB2.out.size)) (aC _)) (pI.out)).mono ?_
    rintro e U2 ⟨⟨z1,z2,z3,z4,⟨z5,z6,z7⟩,⟨z8,z9,dD⟩,⟨dI,z12,dJ⟩⟩,rfl,hzz,hbz⟩
    have HZ:=ah hzz
    have jd:=ah hbz
    have hk4:=aj jO.out hbz jT
    obtain⟨q0,q1,q2,q3,q4,q5,q6,_⟩:=aB hk4
    have f0:=ak hk4 0
    have f1:=ak hk4 1
    have f2:=ak hk4 2
    have f3:=ak hk4 3
    have f4:=ak hk4 4
    have f5:=ak hk4 5
    have f6:=ak hk4 6
    clear hzz hbz hk4 d0 d1 d2 d3 d4 d5 d6
    go_wp2
    refine bodyPost_ret (v:=.tuple #[.agg #[.int .i64 z1,.int .i64 z2,.int .i64 z3,.int .i64 z4,.slice z5 z6 z7,.slice z8 z9 dD,.slice dI z12 dJ],.int .i64 14]) (by simp[results,Tryz.results32,go_sem, *]) rfl (show fO _ _ _ _ from ?_)
    rw[eO.out]
    exact ig (y:=⟨z1,z2,z3,z4,⟨z5,z6,z7⟩,⟨z8,z9,dD⟩,⟨dI,z12,dJ⟩⟩) (p:=w.heap.size+2) rV.out jd.out HZ.out (by omega) jT
   ·have Yc:decide (su-uu<n)=false:=by simpa using h1
    by_cases h2:sd-ud< -n
    ·have ZQ:decide (sd-ud< -n)=true:=by simpa using h2
     have eO:=ah (BK.out (.inr h2))
     clear h1 h2
     go_wp2_with fail
     go_quiet (fail)
     have EY:=below_drewN HV.out nq
     clear d0 d1 d2 d3 d4 d5 d6 e5 e6 e8 c1 c2 c3 c4 g3 g4 i1 i2 i3 Yc ZQ
     obtain⟨d0,d1,d2,d3,d4,d5,d6,_⟩:=aB (aj K0.out (HB2.out.trans ((EY).mono HB2.out.size)) (by omega))
     have rV:=ah (dV.out.trans ((HB2.out.trans ((EY).mono HB2.out.size)).mono dV.out.size))
     have jO:=ah (aj K2.out (HB2.out.trans ((EY).mono HB2.out.size)) (by omega))
     have jT:=(bg jO.out).1
     go_wp2_with fail
     refine(dZ ⟨x1,x2,x3,x4,⟨x5,x6,x7⟩,⟨x8,x9,qV⟩,⟨qW,qX,qY⟩⟩ l _ (HM.out.keep (HB2.out.trans ((EY).mono HB2.out.size)) (aC _)) (pI.out)).mono ?_
     rintro e U2 ⟨⟨z1,z2,z3,z4,⟨z5,z6,z7⟩,⟨z8,z9,dD⟩,⟨dI,z12,dJ⟩⟩,rfl,hzz,hbz⟩
     have HZ:=ah hzz
     have jd:=ah hbz
     have hk4:=aj jO.out hbz jT
     obtain⟨q0,q1,q2,q3,q4,q5,q6,_⟩:=aB hk4
     have f0:=ak hk4 0
     have f1:=ak hk4 1
     have f2:=ak hk4 2
     have f3:=ak hk4 3
     have f4:=ak hk4 4
     have f5:=ak hk4 5
     have f6:=ak hk4 6
     clear hzz hbz hk4 d0 d1 d2 d3 d4 d5 d6
     go_wp2
     refine bodyPost_ret (v:=.tuple #[.agg #[.int .i64 z1,.int .i64 z2,.int .i64 z3,.int .i64 z4,.slice z5 z6 z7,.slice z8 z9 dD,.slice dI z12 dJ],.int .i64 14]) (by simp[results,Tryz.results32,go_sem, *]) rfl (show fO _ _ _ _ from ?_)
     rw[eO.out]
     exact ig (y:=⟨z1,z2,z3,z4,⟨z5,z6,z7⟩,⟨z8,z9,dD⟩,⟨dI,z12,dJ⟩⟩) (p:=w.heap.size+2) rV.out jd.out HZ.out (by omega) jT
    ·have ZQ:decide (sd-ud< -n)=false:=by simpa using h2
     have eO:=ah (rF.out (by omega) (by omega))
     clear h1 h2
     go_wp2_with fail
     go_quiet (fail)
     go_upto_region 10 with fail
     have EY:=below_drewN HV.out nq
     have TL:=ah EY
     have Gl:=ah (HY.out.keep EY (aC _))
     have IB:=ah (aj K6.out EY wK)
     clear d0 d1 d2 d3 d4 d5 d6 e5 e6 e8 c1 c2 c3 c4 g3 g4 Yc ZQ TJ KL HV BK rF
     obtain⟨e5,e6,e8⟩:=KO.out _ (HW2.out _ EY)
     clear EY
     generalize V.drewN nq=V3 at*
     obtain⟨r1,r2,r3,r4,r5,r6,r7⟩:=bq Gl.out.s
     have c3:V3.cell? ⟨g,k*5+3,none⟩=some (.int .i64 uu):=r7 (k*5+3) _ Yb.out
     have g3:=r6 (k*5+3)
     clear r6 r7
     have h3:n<0∨n=0∨0<n:=by omega
     rcases h3 with h3 | h3 | h3
     ·have e1:uu+max n 0=uu:=by omega
      have e2:ud+max (-n) 0=ud+ -n:=by omega
      rw[e1,e2]at eO
      clear e1 e2
      have i4:IntKind.i64.wrap (uu)=uu:=IntWalk.i64_in _ (by omega)
      have HGS:=ah r1
      have hg1:W1.heap.size≤g:=r1
      have hl5:(aK jm l.sl).length=l.sl.length*5:=bL gK _
      have iD:(V3.drew.setCell ⟨g,k*5+3,none⟩ (.int .i64 (uu))).ownsRow W1.heap.size 88 5 (.slice (some ⟨g,0,none⟩) l.sl.length y7) l.sl.length ((aK jm l.sl).set (k*5+3) (.int .i64 (uu))):=dF (show V3.drew.ownsRow _ _ _ _ _ _ from Gl.out.s) (k*5+3) (by omega) _
      obtain⟨_,_,_,_,_,u6,u7⟩:=bq iD
      have c4:=u7 (k*5+4) (.int .i64 ud) (by rw[List.getElem?_set_ne (by omega)];exact ZO.out)
      have g4:=u6 (k*5+4)
      have hb4:Below W1.heap.size W1 (V3.drew.setCell ⟨g,k*5+3,none⟩ (.int .i64 (uu))):=(HW2.out _ TL.out).drew.setCell hg1 _
      have hko:=KO.out _ hb4
      have hfin:=Gl.out.KI (g:=g) rfl k hk (uu) ((ud+ -n))
      rw[TK.out,ZP.out]at hfin
      have qF:=ah hfin
      clear hfin
      have i5:IntKind.i64.wrap ((ud+ -n))=(ud+ -n):=IntWalk.i64_in _ (by omega)
      have Pn:g≠p6:=fun e=>by
       have h1:=IB.out
       obtain⟨cur,hc⟩:=mW Gl.out.s
       rw[←e,hc]at h1
       injection h1 with h1
       injection h1 with _ h1 _
       exact absurd h1 (by decide)
      have KM:=ah ((iP V3.drew.drew g p6 (fun e=>Pn e.symm) (k*5+3) (k*5+4) (.int .i64 (uu)) (.int .i64 ((ud+ -n)))).trans IB.out)
      have Df:Hid (Below W1.heap.size W1 ((V3.drew.drew.setCell ⟨g,k*5+3,none⟩ (.int .i64 (uu))).setCell ⟨g,k*5+4,none⟩ (.int .i64 ((ud+ -n))))):=ah ((((HW2.out _ TL.out).drew.drew).setCell hg1 _).setCell hg1 _)
      have HU:Hid (∀V,V=V3.drew.setCell ⟨g,k*5+3,none⟩ (.int .i64 (uu))→V.drew.setCell ⟨g,k*5+4,none⟩ (.int .i64 ((ud+ -n)))=(V3.drew.drew.setCell ⟨g,k*5+3,none⟩ (.int .i64 (uu))).setCell ⟨g,k*5+4,none⟩ (.int .i64 ((ud+ -n)))):=ah (fun V hV=>by rw[hV];rfl)
      clear u6 u7 iD hb4 hl5 hg1 Pn r1
      go_still_tail 10,(by kernel_rfl)
      change wpList _ _ _ _ _ V3.drew
      go_wp2
      rw[show (V3.setCell ⟨g,k*5+3,none⟩ (.int .i64 (uu))).drew=V3.drew.setCell ⟨g,k*5+3,none⟩ (.int .i64 (uu))from rfl]
      have HV5:=ah (HU.out _ rfl)
      clear HU
      generalize V3.drew.setCell ⟨g,k*5+3,none⟩ (.int .i64 (uu))=U5 at*
      clear e5 e6 e8 c3 g3 i4
      obtain⟨e5,e6,e8⟩:=hko
      go_still_tail 11,(by kernel_rfl)
      change wpList _ _ _ _ _ U5.drew
      go_upto_region 19 with fail
      try rw[show (ud+if (0:Int)<0 then(0:Int)else 0)=ud by simp]
      rw[show (U5.setCell ⟨g,k*5+4,none⟩ (.int .i64 (ud+ -n))).drew=U5.drew.setCell ⟨g,k*5+4,none⟩ (.int .i64 (ud+ -n))from rfl,HV5.out]
      generalize (V3.drew.drew.setCell ⟨g,k*5+3,none⟩ (.int .i64 uu)).setCell ⟨g,k*5+4,none⟩ (.int .i64 (ud+ -n))=W9 at*
      clear c4 g4 e5 e6 e8 HV5 i5
      have A8:Hid (wJ ⟨l.dev,l.epoch,l.bY,l.last,l.sl.set k ⟨l.sl[k].key,su,sd,uu,(ud+ -n)⟩,l.ids,l.used⟩):=ah ⟨by rw[List.length_set];exact pI.out.s,pI.out.i,pI.out.u⟩
      obtain⟨d0,d1,d2,d3,d4,d5,d6,_⟩:=aB (KM.out)
      have rV:=ah (dV.out.trans (Df.out.mono dV.out.size))
      have jO:=ah (aj K2.out Df.out (by omega))
      have jT:=(bg jO.out).1
      go_wp2_with fail
      refine(dZ ⟨y1,y2,y3,y4,⟨some ⟨g,0,none⟩,l.sl.length,y7⟩,⟨y8,y9,bW⟩,⟨bX,cB,y13⟩⟩ _ _ (qF.out.m) (A8.out)).mono ?_
      rintro e U2 ⟨⟨z1,z2,z3,z4,⟨z5,z6,z7⟩,⟨z8,z9,dD⟩,⟨dI,z12,dJ⟩⟩,rfl,hzz,hbz⟩
      have HZ:=ah hzz
      have jd:=ah hbz
      have hk4:=aj jO.out hbz jT
      obtain⟨q0,q1,q2,q3,q4,q5,q6,_⟩:=aB hk4
      have f0:=ak hk4 0
      have f1:=ak hk4 1
      have f2:=ak hk4 2
      have f3:=ak hk4 3
      have f4:=ak hk4 4
      have f5:=ak hk4 5
      have f6:=ak hk4 6
      clear hzz hbz hk4 d0 d1 d2 d3 d4 d5 d6
      go_wp2
      refine bodyPost_ret (v:=.tuple #[.agg #[.int .i64 z1,.int .i64 z2,.int .i64 z3,.int .i64 z4,.slice z5 z6 z7,.slice z8 z9 dD,.slice dI z12 dJ],.int .i64 0]) (by simp[results,Tryz.results32,go_sem, *]) rfl (show fO _ _ _ _ from ?_)
      rw[eO.out]
      exact ig (y:=⟨z1,z2,z3,z4,⟨z5,z6,z7⟩,⟨z8,z9,dD⟩,⟨dI,z12,dJ⟩⟩) (p:=w.heap.size+2) rV.out jd.out HZ.out (by omega) jT
     ·subst h3
      have e1:uu+max 0 0=uu:=by omega
      have e2:ud+max (-0) 0=ud:=by omega
      rw[e1,e2]at eO
      clear e1 e2
      have i4:IntKind.i64.wrap (uu)=uu:=IntWalk.i64_in _ (by omega)
      have HGS:=ah r1
      have hg1:W1.heap.size≤g:=r1
      have hl5:(aK jm l.sl).length=l.sl.length*5:=bL gK _
      have iD:(V3.drew.setCell ⟨g,k*5+3,none⟩ (.int .i64 (uu))).ownsRow W1.heap.size 88 5 (.slice (some ⟨g,0,none⟩) l.sl.length y7) l.sl.length ((aK jm l.sl).set (k*5+3) (.int .i64 (uu))):=dF (show V3.drew.ownsRow _ _ _ _ _ _ from Gl.out.s) (k*5+3) (by omega) _
      obtain⟨_,_,_,_,_,u6,u7⟩:=bq iD
      have c4:=u7 (k*5+4) (.int .i64 ud) (by rw[List.getElem?_set_ne (by omega)];exact ZO.out)
      have g4:=u6 (k*5+4)
      have hb4:Below W1.heap.size W1 (V3.drew.setCell ⟨g,k*5+3,none⟩ (.int .i64 (uu))):=(HW2.out _ TL.out).drew.setCell hg1 _
      have hko:=KO.out _ hb4
      have hfin:=Gl.out.KI (g:=g) rfl k hk (uu) (ud)
      rw[TK.out,ZP.out]at hfin
      have qF:=ah hfin
      clear hfin
      have i5:IntKind.i64.wrap (ud)=ud:=IntWalk.i64_in _ (by omega)
      have Pn:g≠p6:=fun e=>by
       have h1:=IB.out
       obtain⟨cur,hc⟩:=mW Gl.out.s
       rw[←e,hc]at h1
       injection h1 with h1
       injection h1 with _ h1 _
       exact absurd h1 (by decide)
      have KM:=ah ((iP V3.drew.drew g p6 (fun e=>Pn e.symm) (k*5+3) (k*5+4) (.int .i64 (uu)) (.int .i64 (ud))).trans IB.out)
      have Df:Hid (Below W1.heap.size W1 ((V3.drew.drew.setCell ⟨g,k*5+3,none⟩ (.int .i64 (uu))).setCell ⟨g,k*5+4,none⟩ (.int .i64 (ud)))):=ah ((((HW2.out _ TL.out).drew.drew).setCell hg1 _).setCell hg1 _)
      have HU:Hid (∀V,V=V3.drew.setCell ⟨g,k*5+3,none⟩ (.int .i64 (uu))→V.drew.setCell ⟨g,k*5+4,none⟩ (.int .i64 (ud))=(V3.drew.drew.setCell ⟨g,k*5+3,none⟩ (.int .i64 (uu))).setCell ⟨g,k*5+4,none⟩ (.int .i64 (ud))):=ah (fun V hV=>by rw[hV];rfl)
      clear u6 u7 iD hb4 hl5 hg1 Pn r1
      go_still_tail 10,(by kernel_rfl)
      change wpList _ _ _ _ _ V3.drew
      go_wp2
      rw[show (V3.setCell ⟨g,k*5+3,none⟩ (.int .i64 (uu))).drew=V3.drew.setCell ⟨g,k*5+3,none⟩ (.int .i64 (uu))from rfl]
      have HV5:=ah (HU.out _ rfl)
      clear HU
      generalize V3.drew.setCell ⟨g,k*5+3,none⟩ (.int .i64 (uu))=U5 at*
      clear e5 e6 e8 c3 g3 i4
      obtain⟨e5,e6,e8⟩:=hko
      go_still_tail 11,(by kernel_rfl)
      change wpList _ _ _ _ _ U5.drew
      go_upto_region 19 with fail
      try rw[show (ud+if (0:Int)<0 then(0:Int)else 0)=ud by simp]
      rw[show (U5.setCell ⟨g,k*5+4,none⟩ (.int .i64 ud)).drew=U5.drew.setCell ⟨g,k*5+4,none⟩ (.int .i64 ud)from rfl,HV5.out]
      generalize (V3.drew.drew.setCell ⟨g,k*5+3,none⟩ (.int .i64 uu)).setCell ⟨g,k*5+4,none⟩ (.int .i64 ud)=W9 at*
      clear c4 g4 e5 e6 e8 HV5 i5
      have A8:Hid (wJ ⟨l.dev,l.epoch,l.bY,l.last,l.sl.set k ⟨l.sl[k].key,su,sd,uu,ud⟩,l.ids,l.used⟩):=ah ⟨by rw[List.length_set];exact pI.out.s,pI.out.i,pI.out.u⟩
      obtain⟨d0,d1,d2,d3,d4,d5,d6,_⟩:=aB (KM.out)
      have rV:=ah (dV.out.trans (Df.out.mono dV.out.size))
      have jO:=ah (aj K2.out Df.out (by omega))
      have jT:=(bg jO.out).1
      go_wp2_with fail
      refine(dZ ⟨y1,y2,y3,y4,⟨some ⟨g,0,none⟩,l.sl.length,y7⟩,⟨y8,y9,bW⟩,⟨bX,cB,y13⟩⟩ _ _ (qF.out.m) (A8.out)).mono ?_
      rintro e U2 ⟨⟨z1,z2,z3,z4,⟨z5,z6,z7⟩,⟨z8,z9,dD⟩,⟨dI,z12,dJ⟩⟩,rfl,hzz,hbz⟩
      have HZ:=ah hzz
      have jd:=ah hbz
      have hk4:=aj jO.out hbz jT
      obtain⟨q0,q1,q2,q3,q4,q5,q6,_⟩:=aB hk4
      have f0:=ak hk4 0
      have f1:=ak hk4 1
      have f2:=ak hk4 2
      have f3:=ak hk4 3
      have f4:=ak hk4 4
      have f5:=ak hk4 5
      have f6:=ak hk4 6
      clear hzz hbz hk4 d0 d1 d2 d3 d4 d5 d6
      go_wp2
      refine bodyPost_ret (v:=.tuple #[.agg #[.int .i64 z1,.int .i64 z2,.int .i64 z3,.int .i64 z4,.slice z5 z6 z7,.slice z8 z9 dD,.slice dI z12 dJ],.int .i64 0]) (by simp[results,Tryz.results32,go_sem, *]) rfl (show fO _ _ _ _ from ?_)
      rw[eO.out]
      exact ig (y:=⟨z1,z2,z3,z4,⟨z5,z6,z7⟩,⟨z8,z9,dD⟩,⟨dI,z12,dJ⟩⟩) (p:=w.heap.size+2) rV.out jd.out HZ.out (by omega) jT
     ·have e1:uu+max n 0=uu+n:=by omega
      have e2:ud+max (-n) 0=ud:=by omega
      rw[e1,e2]at eO
      clear e1 e2
      have i4:IntKind.i64.wrap (uu+n)=uu+n:=IntWalk.i64_in _ (by omega)
      have HGS:=ah r1
      have hg1:W1.heap.size≤g:=r1
      have hl5:(aK jm l.sl).length=l.sl.length*5:=bL gK _
      have iD:(V3.drew.setCell ⟨g,k*5+3,none⟩ (.int .i64 ((uu+n)))).ownsRow W1.heap.size 88 5 (.slice (some ⟨g,0,none⟩) l.sl.length y7) l.sl.length ((aK jm l.sl).set (k*5+3) (.int .i64 ((uu+n)))):=dF (show V3.drew.ownsRow _ _ _ _ _ _ from Gl.out.s) (k*5+3) (by omega) _
      obtain⟨_,_,_,_,_,u6,u7⟩:=bq iD
      have c4:=u7 (k*5+4) (.int .i64 ud) (by rw[List.getElem?_set_ne (by omega)];exact ZO.out)
      have g4:=u6 (k*5+4)
      have hb4:Below W1.heap.size W1 (V3.drew.setCell ⟨g,k*5+3,none⟩ (.int .i64 ((uu+n)))):=(HW2.out _ TL.out).drew.setCell hg1 _
      have hko:=KO.out _ hb4
      have hfin:=Gl.out.KI (g:=g) rfl k hk ((uu+n)) (ud)
      rw[TK.out,ZP.out]at hfin
      have qF:=ah hfin
      clear hfin
      have i5:IntKind.i64.wrap (ud)=ud:=IntWalk.i64_in _ (by omega)
      have Pn:g≠p6:=fun e=>by
       have h1:=IB.out
       obtain⟨cur,hc⟩:=mW Gl.out.s
       rw[←e,hc]at h1
       injection h1 with h1
       injection h1 with _ h1 _
       exact absurd h1 (by decide)
      have KM:=ah ((iP V3.drew.drew g p6 (fun e=>Pn e.symm) (k*5+3) (k*5+4) (.int .i64 ((uu+n))) (.int .i64 (ud))).trans IB.out)
      have Df:Hid (Below W1.heap.size W1 ((V3.drew.drew.setCell ⟨g,k*5+3,none⟩ (.int .i64 ((uu+n)))).setCell ⟨g,k*5+4,none⟩ (.int .i64 (ud)))):=ah ((((HW2.out _ TL.out).drew.drew).setCell hg1 _).setCell hg1 _)
      have HU:Hid (∀V,V=V3.drew.setCell ⟨g,k*5+3,none⟩ (.int .i64 ((uu+n)))→V.drew.setCell ⟨g,k*5+4,none⟩ (.int .i64 (ud))=(V3.drew.drew.setCell ⟨g,k*5+3,none⟩ (.int .i64 ((uu+n)))).setCell ⟨g,k*5+4,none⟩ (.int .i64 (ud))):=ah (fun V hV=>by rw[hV];rfl)
      clear u6 u7 iD hb4 hl5 hg1 Pn r1
      go_still_tail 10,(by kernel_rfl)
      change wpList _ _ _ _ _ V3.drew
      go_wp2
      rw[show (V3.setCell ⟨g,k*5+3,none⟩ (.int .i64 ((uu+n)))).drew=V3.drew.setCell ⟨g,k*5+3,none⟩ (.int .i64 ((uu+n)))from rfl]
      have HV5:=ah (HU.out _ rfl)
      clear HU
      generalize V3.drew.setCell ⟨g,k*5+3,none⟩ (.int .i64 ((uu+n)))=U5 at*
      clear e5 e6 e8 c3 g3 i4
      obtain⟨e5,e6,e8⟩:=hko
      go_still_tail 11,(by kernel_rfl)
      change wpList _ _ _ _ _ U5.drew
      go_upto_region 19 with fail
      try rw[show (ud+if (0:Int)<0 then(0:Int)else 0)=ud by simp]
      rw[show (U5.setCell ⟨g,k*5+4,none⟩ (.int .i64 ud)).drew=U5.drew.setCell ⟨g,k*5+4,none⟩ (.int .i64 ud)from rfl,HV5.out]
      generalize (V3.drew.drew.setCell ⟨g,k*5+3,none⟩ (.int .i64 (uu+n))).setCell ⟨g,k*5+4,none⟩ (.int .i64 ud)=W9 at*
      clear c4 g4 e5 e6 e8 HV5 i5
      have A8:Hid (wJ ⟨l.dev,l.epoch,l.bY,l.last,l.sl.set k ⟨l.sl[k].key,su,sd,(uu+n),ud⟩,l.ids,l.used⟩):=ah ⟨by rw[List.length_set];exact pI.out.s,pI.out.i,pI.out.u⟩
      obtain⟨d0,d1,d2,d3,d4,d5,d6,_⟩:=aB (KM.out)
      have rV:=ah (dV.out.trans (Df.out.mono dV.out.size))
      have jO:=ah (aj K2.out Df.out (by omega))
      have jT:=(bg jO.out).1
      go_wp2_with fail
      refine(dZ ⟨y1,y2,y3,y4,⟨some ⟨g,0,none⟩,l.sl.length,y7⟩,⟨y8,y9,bW⟩,⟨bX,cB,y13⟩⟩ _ _ (qF.out.m) (A8.out)).mono ?_
      rintro e U2 ⟨⟨z1,z2,z3,z4,⟨z5,z6,z7⟩,⟨z8,z9,dD⟩,⟨dI,z12,dJ⟩⟩,rfl,hzz,hbz⟩
      have HZ:=ah hzz
      have jd:=ah hbz
      have hk4:=aj jO.out hbz jT
      obtain⟨q0,q1,q2,q3,q4,q5,q6,_⟩:=aB hk4
      have f0:=ak hk4 0
      have f1:=ak hk4 1
      have f2:=ak hk4 2
      have f3:=ak hk4 3
      have f4:=ak hk4 4
      have f5:=ak hk4 5
      have f6:=ak hk4 6
      clear hzz hbz hk4 d0 d1 d2 d3 d4 d5 d6
      go_wp2
      refine bodyPost_ret (v:=.tuple #[.agg #[.int .i64 z1,.int .i64 z2,.int .i64 z3,.int .i64 z4,.slice z5 z6 z7,.slice z8 z9 dD,.slice dI z12 dJ],.int .i64 0]) (by simp[results,Tryz.results32,go_sem, *]) rfl (show fO _ _ _ _ from ?_)
      rw[eO.out]
      exact ig (y:=⟨z1,z2,z3,z4,⟨z5,z6,z7⟩,⟨z8,z9,dD⟩,⟨dI,z12,dJ⟩⟩) (p:=w.heap.size+2) rV.out jd.out HZ.out (by omega) jT
 ·have aeH:(kind==4)=false:=by simpa using hkd
  by_cases A9:kind=5
  ·subst A9
   go_wp2_with fail
   refine(Au _ l.ids n _ (aI HY.out.i) (by have:=HB.out.i;omega)).mono ?_
   rintro e V ⟨rfl,hV⟩
   obtain⟨q,hq⟩:∃q,eB l.ids n=q:=⟨_,rfl⟩
   rw[hq]
   have HQ:=ah hq
   have HV:=ah hV
   have TJ:=ah (HY.out.keep hV (aC _))
   have KL:=ah (aj K6.out hV wK)
   clear hq hV d0 d1 d2 d3 d4 d5 d6 e5 e6 e8 hr2
   cases q with
   | false=>
    have eO:=ah (Iu (key:=key) HQ.out)
    obtain⟨d0,d1,d2,d3,d4,d5,d6,_⟩:=aB (aj K0.out (HB2.out.trans ((HV.out).mono HB2.out.size)) (by omega))
    have rV:=ah (dV.out.trans ((HB2.out.trans ((HV.out).mono HB2.out.size)).mono dV.out.size))
    have jO:=ah (aj K2.out (HB2.out.trans ((HV.out).mono HB2.out.size)) (by omega))
    have jT:=(bg jO.out).1
    go_wp2_with fail
    refine(dZ ⟨x1,x2,x3,x4,⟨x5,x6,x7⟩,⟨x8,x9,qV⟩,⟨qW,qX,qY⟩⟩ l _ (HM.out.keep (HB2.out.trans ((HV.out).mono HB2.out.size)) (aC _)) (pI.out)).mono ?_
    rintro e U2 ⟨⟨z1,z2,z3,z4,⟨z5,z6,z7⟩,⟨z8,z9,dD⟩,⟨dI,z12,dJ⟩⟩,rfl,hzz,hbz⟩
    have HZ:=ah hzz
    have jd:=ah hbz
    have hk4:=aj jO.out hbz jT
    obtain⟨q0,q1,q2,q3,q4,q5,q6,_⟩:=aB hk4
    have f0:=ak hk4 0
    have f1:=ak hk4 1
    have f2:=ak hk4 2
    have f3:=ak hk4 3
    have f4:=ak hk4 4
    have f5:=ak hk4 5
    have f6:=ak hk4 6
    clear hzz hbz hk4 d0 d1 d2 d3 d4 d5 d6
    go_wp2
    refine bodyPost_ret (v:=.tuple #[.agg #[.int .i64 z1,.int .i64 z2,.int .i64 z3,.int .i64 z4,.slice z5 z6 z7,.slice z8 z9 dD,.slice dI z12 dJ],.int .i64 14]) (by simp[results,Tryz.results32,go_sem, *]) rfl (show fO _ _ _ _ from ?_)
    rw[eO.out]
    exact ig (y:=⟨z1,z2,z3,z4,⟨z5,z6,z7⟩,⟨z8,z9,dD⟩,⟨dI,z12,dJ⟩⟩) (p:=w.heap.size+2) rV.out jd.out HZ.out (by omega) jT
   | true=>
    obtain⟨e5,e6,e8⟩:=KO.out _ (HW2.out _ HV.out)
    obtain⟨d0,d1,d2,d3,d4,d5,d6,iN⟩:=aB KL.out
    clear iN
    go_wp2_with fail
    refine(uP _ l.used n _ (aI TJ.out.u) (by have:=HB.out.u;omega) HB.out.sort).mono ?_
    rintro e V' ⟨rfl,rfl⟩
    obtain⟨q2,hq2⟩:∃q2,l.used.contains n=q2:=⟨_,rfl⟩
    rw[hq2]
    have dO:=ah hq2
    clear hq2
    cases q2 with
    | true=>
     have eO:=ah (Iw (key:=key) HQ.out dO.out)
     clear d0 d1 d2 d3 d4 d5 d6 e5 e6 e8
     obtain⟨d0,d1,d2,d3,d4,d5,d6,_⟩:=aB (aj K0.out (HB2.out.trans ((HV.out).mono HB2.out.size)) (by omega))
     have rV:=ah (dV.out.trans ((HB2.out.trans ((HV.out).mono HB2.out.size)).mono dV.out.size))
     have jO:=ah (aj K2.out (HB2.out.trans ((HV.out).mono HB2.out.size)) (by omega))
     have jT:=(bg jO.out).1
     go_wp2_with fail
     refine(dZ ⟨x1,x2,x3,x4,⟨x5,x6,x7⟩,⟨x8,x9,qV⟩,⟨qW,qX,qY⟩⟩ l _ (HM.out.keep (HB2.out.trans ((HV.out).mono HB2.out.size)) (aC _)) (pI.out)).mono ?_
     rintro e U2 ⟨⟨z1,z2,z3,z4,⟨z5,z6,z7⟩,⟨z8,z9,dD⟩,⟨dI,z12,dJ⟩⟩,rfl,hzz,hbz⟩
     have HZ:=ah hzz
     have jd:=ah hbz
     have hk4:=aj jO.out hbz jT
     obtain⟨q0,q1,q2,q3,q4,q5,q6,_⟩:=aB hk4
     have f0:=ak hk4 0
     have f1:=ak hk4 1
     have f2:=ak hk4 2
     have f3:=ak hk4 3
     have f4:=ak hk4 4
     have f5:=ak hk4 5
     have f6:=ak hk4 6
     clear hzz hbz hk4 d0 d1 d2 d3 d4 d5 d6
     go_wp2
     refine bodyPost_ret (v:=.tuple #[.agg #[.int .i64 z1,.int .i64 z2,.int .i64 z3,.int .i64 z4,.slice z5 z6 z7,.slice z8 z9 dD,.slice dI z12 dJ],.int .i64 7]) (by simp[results,Tryz.results32,go_sem, *]) rfl (show fO _ _ _ _ from ?_)
     rw[eO.out]
     exact ig (y:=⟨z1,z2,z3,z4,⟨z5,z6,z7⟩,⟨z8,z9,dD⟩,⟨dI,z12,dJ⟩⟩) (p:=w.heap.size+2) rV.out jd.out HZ.out (by omega) jT
    | false=>
     have eO:=ah (Iy (key:=key) HQ.out dO.out)
     have hcp:=List.countP_le_length (p:=fun x=>decide (x<n)) (l:=l.used)
     have HCR:=ah (xG l.used n)
     have HLR:=ah (uR l.used n)
     have M5:=HB.out.u
     generalize hcc:l.used.countP (fun x=>decide (x<n))=cp at*
     clear hcc
     obtain⟨V,hVV⟩:∃V,V=V':=⟨_,rfl⟩
     subst hVV
     have dK:Below V.heap.size V (V.alloc (.cells #[.int .i64 n] 3)):=(aL _ _).alloc (aC _) _
     have Q7:(V.alloc (.cells #[.int .i64 n] 3)).heap[V.heap.size]? =some (.cells #[.int .i64 n] 3 (0,0)):=heap_alloc_new _ _
     have jU:=ah (TJ.out.keep dK (aC _))
     have ZR:=ah (aj KL.out dK (bg KL.out).1)
     have mX:=ah (HW2.out _ (HV.out.trans (dK.mono HV.out.size)))
     have hyb:(Value.slice bX cB y13).ownBlock≠some V.heap.size:=fun e=>by
      have:=(TJ.out.u.lt _ e).2
      omega
     have hsA:=mX.out.size
     go_wp2_with fail
     generalize V.alloc (.cells #[.int .i64 n] 3)=W8 at*
     generalize ZT:V.heap.size=v8 at*
     clear ZT
     refine(rU _ l.used.length cp (bM l.used) [.int .i64 n] W8 W1.heap.size v8 jU.out.u (k_ _) (by intro u hu;simp at hu;subst hu;rfl) rfl (by omega) hcp hsA Q7 hyb).mono ?_
     rintro e w9 ⟨v',rfl,wO,Gm,A_⟩
     rw[HCR.out,←HLR.out]at wO
     obtain⟨jl,cap',rfl,_,_⟩:=aP wO
     obtain⟨i1,i2,i3⟩:=iC.ins (v':=⟨jl,_,cap'⟩) jU.out ZR.out wO Gm
     have lN:Below W1.heap.size W1 w9:=mX.out.grown Gm mX.out.size (fun g' hg'=>(jU.out.u.lt g' hg').1)
     have JA:W1.heap.size≤p6:=by have:=ZN.out;omega
     have O9:=ah (lN.setCell (p:=⟨p6,6,none⟩) JA (.slice jl (rise l.used n).length cap'))
     have HI1:=ah i1
     have HI2:=ah i2
     clear d0 d1 d2 d3 d4 d5 d6
     obtain⟨d0,d1,d2,d3,d4,d5,d6,iN⟩:=aB i3
     have f6:=ak i3 6
     simp only[Sv.v]at d0 d1 d2 d3 d4 d5 d6 HI1 HI2
     clear iN i1 i2 i3 wO Gm A_ lN dK hyb
     go_upto_region 19 with fail
     generalize w9.setCell ⟨p6,6,none⟩ (.slice jl (rise l.used n).length cap')=W9 at*
     clear d0 d1 d2 d3 d4 d5 d6 f6 e5 e6 e8
     have A8:Hid (wJ ⟨l.dev,l.epoch,l.bY,l.last,l.sl,l.ids,rise l.used n⟩):=ah ⟨pI.out.s,pI.out.i,by show(rise l.used n).length<_;rw[HLR.out];omega⟩
     obtain⟨d0,d1,d2,d3,d4,d5,d6,_⟩:=aB (HI2.out)
     have rV:=ah (dV.out.trans (O9.out.mono dV.out.size))
     have jO:=ah (aj K2.out O9.out (by omega))
     have jT:=(bg jO.out).1
     go_wp2_with fail
     refine(dZ ⟨y1,y2,y3,y4,⟨y5,y6,y7⟩,⟨y8,y9,bW⟩,⟨jl,(rise l.used n).length,cap'⟩⟩ _ _ (HI1.out.m) (A8.out)).mono ?_
     rintro e U2 ⟨⟨z1,z2,z3,z4,⟨z5,z6,z7⟩,⟨z8,z9,dD⟩,⟨dI,z12,dJ⟩⟩,rfl,hzz,hbz⟩
     have HZ:=ah hzz
     have jd:=ah hbz
     have hk4:=aj jO.out hbz jT
     obtain⟨q0,q1,q2,q3,q4,q5,q6,_⟩:=aB hk4
     have f0:=ak hk4 0
     have f1:=ak hk4 1
     have f2:=ak hk4 2
     have f3:=ak hk4 3
     have f4:=ak hk4 4
     have f5:=ak hk4 5
     have f6:=ak hk4 6
     clear hzz hbz hk4 d0 d1 d2 d3 d4 d5 d6
     go_wp2
     refine bodyPost_ret (v:=.tuple #[.agg #[.int .i64 z1,.int .i64 z2,.int .i64 z3,.int .i64 z4,.slice z5 z6 z7,.slice z8 z9 dD,.slice dI z12 dJ],.int .i64 0]) (by simp[results,Tryz.results32,go_sem, *]) rfl (show fO _ _ _ _ from ?_)
     rw[eO.out]
     exact ig (y:=⟨z1,z2,z3,z4,⟨z5,z6,z7⟩,⟨z8,z9,dD⟩,⟨dI,z12,dJ⟩⟩) (p:=w.heap.size+2) rV.out jd.out HZ.out (by omega) jT
  ·have aeK:(kind==5)=false:=by simpa using A9
   have eO:=ah (Dc (l:=l) (key:=key) (n:=n) hkd A9)
   clear hkd A9
   go_upto_region 19 with fail
   clear d0 d1 d2 d3 d4 d5 d6 e5 e6 e8
   obtain⟨d0,d1,d2,d3,d4,d5,d6,_⟩:=aB (K6.out)
   have rV:=ah (dV.out.trans (HB2.out.mono dV.out.size))
   have jO:=ah (aj K2.out HB2.out (by omega))
   have jT:=(bg jO.out).1
   go_wp2_with fail
   refine(dZ ⟨y1,y2,y3,y4,⟨y5,y6,y7⟩,⟨y8,y9,bW⟩,⟨bX,cB,y13⟩⟩ l _ (HY.out.m) (pI.out)).mono ?_
   rintro e U2 ⟨⟨z1,z2,z3,z4,⟨z5,z6,z7⟩,⟨z8,z9,dD⟩,⟨dI,z12,dJ⟩⟩,rfl,hzz,hbz⟩
   have HZ:=ah hzz
   have jd:=ah hbz
   have hk4:=aj jO.out hbz jT
   obtain⟨q0,q1,q2,q3,q4,q5,q6,_⟩:=aB hk4
   have f0:=ak hk4 0
   have f1:=ak hk4 1
   have f2:=ak hk4 2
   have f3:=ak hk4 3
   have f4:=ak hk4 4
   have f5:=ak hk4 5
   have f6:=ak hk4 6
   clear hzz hbz hk4 d0 d1 d2 d3 d4 d5 d6
   go_wp2
   refine bodyPost_ret (v:=.tuple #[.agg #[.int .i64 z1,.int .i64 z2,.int .i64 z3,.int .i64 z4,.slice z5 z6 z7,.slice z8 z9 dD,.slice dI z12 dJ],.int .i64 0]) (by simp[results,Tryz.results32,go_sem, *]) rfl (show fO _ _ _ _ from ?_)
   rw[eO.out]
   exact ig (y:=⟨z1,z2,z3,z4,⟨z5,z6,z7⟩,⟨z8,z9,dD⟩,⟨dI,z12,dJ⟩⟩) (p:=w.heap.size+2) rV.out jd.out HZ.out (by omega) jT
end Go.Proofs.YtlfopoimbbpfdaaGreat
