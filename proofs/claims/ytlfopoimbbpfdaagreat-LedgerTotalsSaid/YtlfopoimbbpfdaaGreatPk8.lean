/- What the law asks, in parts: LGd ZB. -/
import Derived.Test.YtlfopoimbbpfdaaGreatPk7
import Derived.Test.YtlfopoimbbpfdaaGreatPk0
import Derived.Test.YtlfopoimbbpfdaaGreatPk3
set_option linter.all false
namespace Go.Proofs.YtlfopoimbbpfdaaGreat
open Go.RowKit
def kH (w:World) (r:Bk×Int) (e:Ending) (w':World):Prop:=∃ (x':bZ),e= .returned (.tuple #[fT x',.int .i64 r.2])∧eD w' x' r.1∧Below w.heap.size w w'
theorem iC.base {w:World} {B B':Nat} {x:bV} {l:Ls} (h:iC w B x l) (hB:B'≤B):iC w B' x l:=⟨h.dev,h.epoch,h.bY,h.last,aO h.s hB,aO h.i hB,aO h.u hB⟩
theorem pX.base {w:World} {B B' C:Nat} {x:bZ} {b:Bk} {xs:List bV} (h:pX w B C x b xs) (hB:B'≤B):pX w B' C x b xs:=
 ⟨aO h.rc hB,aO h.rf hB,aO h.rl hB,aO h.rb hB,h.cl,h.fl,h.ll,h.bl,h.each⟩
def AF (w:World) (r:Bk×Int) (e:Ending) (w':World):Prop:=∃ (x':bZ) (xs:List bV) (C:Nat),e= .returned (.tuple #[fT x',.int .i64 r.2])∧pX w' w.heap.size C x' r.1 xs∧w.heap.size≤C∧Below w.heap.size w w'
def kR (b:Bk) (l:Ls):Bk×Int:=if 0≤jF b.ls l.dev l.epoch then(⟨b.cs,b.free,b.ls.set (jF b.ls l.dev l.epoch).toNat l,b.bound⟩,0)else(b,2)
theorem mW {w:World} {base:Nat} {e:TypeId} {E g n cap:Nat} {xs:List Value} (h:w.ownsRow base e E (.slice (some ⟨g,0,none⟩) n cap) n xs):∃cur:Array Value,w.heap[g]? =some (.cells cur e (0,0)):=by
 obtain⟨_,hv⟩:=h
 rcases hv with⟨hv,_⟩ | ⟨q,cp,cur,hv,_,hh,_⟩
 ·cases hv
 ·injection hv with hv
  injection hv with hv
  injection hv with hv
  subst hv
  exact⟨cur,hh⟩
theorem pX.QF {w:World} {B C g n cap:Nat} {x:bZ} {b:Bk} {xs:List bV} {y:bV} {l:Ls} (h:pX w B C x b xs) (hx:x.l=⟨some ⟨g,0,none⟩,n,cap⟩) (k:Nat) (hk:k<b.ls.length) (hy:iC w C y l):
  pX (((((((w.setCell ⟨g,k*7,none⟩ (.int .i64 y.dev)).setCell ⟨g,k*7+1,none⟩ (.int .i64 y.epoch)).setCell ⟨g,k*7+2,none⟩ (.int .i64 y.bY)).setCell ⟨g,k*7+3,none⟩ (.int .i64 y.last)).setCell ⟨g,k*7+4,none⟩ y.s.v).setCell ⟨g,k*7+5,none⟩ y.i.v).setCell ⟨g,k*7+6,none⟩ y.u.v) B C x ⟨b.cs,b.free,b.ls.set k l,b.bound⟩ (xs.set k y):=by
 have hrow:=h.rl
 rw[hx]at hrow
 simp only[Sv.v]at hrow
 have hn:n=b.ls.length:=by
  obtain⟨_,_,he,_,_⟩:=aP hrow
  injection he with _ he _
 subst hn
 obtain⟨cur,hg⟩:=mW hrow
 have XZ:g<C:=h.ll g (by rw[hx];rfl)
 have hoth:=fun c (hc:c≠g)=>lq w g c hc (k*7) (.int .i64 y.dev) (.int .i64 y.epoch) (.int .i64 y.bY) (.int .i64 y.last) y.s.v y.i.v y.u.v
 have hset:=tN hrow k (by rw[h.each.len];exact hk) y
 refine⟨fF h.rc hoth (jW h.rc hg (by decide)),fF h.rf hoth (jW h.rf hg (by decide)),?_,fF h.rb hoth (jW h.rb hg (by decide)),h.cl,h.fl,h.ll,h.bl,?_⟩
 ·rw[hx];show World.ownsRow _ _ _ _ _ (b.ls.set k l).length _;rw[List.length_set];exact hset
 ·exact bI.set k (h.each.imp (fun _ _ r=>r.ne hoth XZ)) (hy.ne hoth XZ)
theorem pX.EH {w:World} {B C:Nat} {x:bZ} {b:Bk} {xs:List bV} (h:pX w B C x b xs) (k:Nat) (hk:k<b.ls.length) (hkx:k<xs.length):∃g cap,x.l=⟨some ⟨g,0,none⟩,b.ls.length,cap⟩∧b.ls.length≤cap∧cap≤9223372036854775807∧B≤g∧g<w.heap.size∧
  (w.cell? ⟨g,k*7,none⟩=some (.int .i64 xs[k].dev)∧w.cell? ⟨g,k*7+1,none⟩=some (.int .i64 xs[k].epoch)∧w.cell? ⟨g,k*7+2,none⟩=some (.int .i64 xs[k].bY)∧w.cell? ⟨g,k*7+3,none⟩=some (.int .i64 xs[k].last)∧w.cell? ⟨g,k*7+4,none⟩=some xs[k].s.v∧w.cell? ⟨g,k*7+5,none⟩=some xs[k].i.v∧w.cell? ⟨g,k*7+6,none⟩=some xs[k].u.v)∧(∀o,w.frozen? ⟨g,o,none⟩=false):=by
 obtain⟨g,cap,he⟩:=fu h.rl (by omega)
 have hrow:=h.rl
 rw[he]at hrow
 obtain⟨p1,p2,p3,p4,p5,p6,p7⟩:=bq hrow
 have hat:∀j u,j<7→(iZ xs[k])[j]? =some u→w.cell? ⟨g,k*7+j,none⟩=some u:=fun j u hj hu=>p7 _ _ (by rw[bP iB _ k hkx j hj];exact hu)
 refine⟨g,cap,?_,p3,p4,p1,p2,⟨hat 0 _ (by omega) rfl,hat 1 _ (by omega) rfl,hat 2 _ (by omega) rfl,hat 3 _ (by omega) rfl,hat 4 _ (by omega) rfl,hat 5 _ (by omega) rfl,hat 6 _ (by omega) rfl⟩,p6⟩
 obtain⟨_,_,⟨c1,c2,c3⟩,_⟩:=x
 injection he with e1 e2 e3
 simp only at e1 e2 e3
 subst e1 e2 e3
 rfl
theorem pX.keep {w w':World} {B C:Nat} {x:bZ} {b:Bk} {xs:List bV} (h:pX w B C x b xs) (hb:Below w.heap.size w w'):pX w' B C x b xs:=
 ⟨aJ h.rc hb (aC _),aJ h.rf hb (aC _),aJ h.rl hb (aC _),aJ h.rb hb (aC _),h.cl,h.fl,h.ll,h.bl,h.each.imp (fun _ _ r=>r.keep hb (aC _))⟩
theorem pX.cap {w:World} {B C:Nat} {x:bZ} {b:Bk} {xs:List bV} (h:pX w B C x b xs) (hC:B≤C) (hB:B≤w.heap.size):∃C',pX w B C' x b xs∧B≤C'∧C'≤w.heap.size:=by
 refine⟨min C w.heap.size,⟨h.rc,h.rf,h.rl,h.rb,fun g hg=>?_,fun g hg=>?_,fun g hg=>?_,fun g hg=>?_,h.each.imp (fun _ _ r=>⟨r.dev,r.epoch,r.bY,r.last,aO r.s (Nat.min_le_left _ _),aO r.i (Nat.min_le_left _ _),aO r.u (Nat.min_le_left _ _)⟩)⟩,by omega,Nat.min_le_right _ _⟩
 ·have h1:=h.cl g hg;have h2:=(h.rc.lt g hg).2;omega
 ·have h1:=h.fl g hg;have h2:=(h.rf.lt g hg).2;omega
 ·have h1:=h.ll g hg;have h2:=(h.rl.lt g hg).2;omega
 ·have h1:=h.bl g hg;have h2:=(h.rb.lt g hg).2;omega
theorem fV (w:World) (p q r t:Addr) (x y z u:Value):((((w.setCell p x).setCell q y).setCell r z).setCell t u).heap.size=w.heap.size:=by simp[World.setCell]
theorem wR (w:World) (a b c:Obj):(((w.alloc a).alloc b).alloc c).heap[w.heap.size]? =some a:=by rw[Below.heap_alloc _ _ _ (by simp;omega)];exact bJ w a b
theorem wS (w:World) (a b c:Obj):(((w.alloc a).alloc b).alloc c).heap[w.heap.size+1]? =some b:=by rw[Below.heap_alloc _ _ _ (by simp)];exact bE w a b
theorem wT (w:World) (a b c:Obj):(((w.alloc a).alloc b).alloc c).heap[w.heap.size+2]? =some c:=by
 have h:=heap_alloc_new ((w.alloc a).alloc b) c
 simpa using h
set_option maxRecDepth 100000 in
set_option maxHeartbeats 8000000 in
theorem NH (x:bZ) (b:Bk) (z:bV) (l:Ls) (w:World) (h:eD w x b) (hl:zN b) (hz:lW w z l) (hlb:wJ l):
  Calls Tryz.prog 34 #[fT x,nI z] w (AF w (kR b l)):=by
 obtain⟨⟨ca,cn,cc⟩,⟨fa,aX,fc⟩,⟨la,ln,lc⟩,⟨ba,b_n,bc⟩⟩:=x
 obtain⟨z1,z2,z3,z4,⟨z5,z6,z7⟩,⟨z8,z9,dD⟩,⟨dI,z12,dJ⟩⟩:=z
 have hd1:z1=l.dev:=hz.dev
 have hd2:z2=l.epoch:=hz.epoch
 subst hd1 hd2
 have hb1:Below w.heap.size w (((w.alloc (.cells #[.slice ca cn cc,.slice fa aX fc,.slice la ln lc,.slice ba b_n bc] 30)).alloc (.cells #[.int .i64 l.dev,.int .i64 l.epoch,.int .i64 z3,.int .i64 z4,.slice z5 z6 z7,.slice z8 z9 dD,.slice dI z12 dJ] 48)).alloc (.cells #[.slice none 0 0,.slice none 0 0,.slice none 0 0,.slice none 0 0] 30)):=(((aL _ _).alloc (aC _) _).alloc (by simp) _).alloc (by simp;omega) _
 have qh:=ah (wR w (.cells #[.slice ca cn cc,.slice fa aX fc,.slice la ln lc,.slice ba b_n bc] 30) (.cells #[.int .i64 l.dev,.int .i64 l.epoch,.int .i64 z3,.int .i64 z4,.slice z5 z6 z7,.slice z8 z9 dD,.slice dI z12 dJ] 48) (.cells #[.slice none 0 0,.slice none 0 0,.slice none 0 0,.slice none 0 0] 30))
 have gF:=ah (wS w (.cells #[.slice ca cn cc,.slice fa aX fc,.slice la ln lc,.slice ba b_n bc] 30) (.cells #[.int .i64 l.dev,.int .i64 l.epoch,.int .i64 z3,.int .i64 z4,.slice z5 z6 z7,.slice z8 z9 dD,.slice dI z12 dJ] 48) (.cells #[.slice none 0 0,.slice none 0 0,.slice none 0 0,.slice none 0 0] 30))
 have fJ:=ah (wT w (.cells #[.slice ca cn cc,.slice fa aX fc,.slice la ln lc,.slice ba b_n bc] 30) (.cells #[.int .i64 l.dev,.int .i64 l.epoch,.int .i64 z3,.int .i64 z4,.slice z5 z6 z7,.slice z8 z9 dD,.slice dI z12 dJ] 48) (.cells #[.slice none 0 0,.slice none 0 0,.slice none 0 0,.slice none 0 0] 30))
 have hz2:w.heap.size+2<((((w.alloc (.cells #[.slice ca cn cc,.slice fa aX fc,.slice la ln lc,.slice ba b_n bc] 30)).alloc (.cells #[.int .i64 l.dev,.int .i64 l.epoch,.int .i64 z3,.int .i64 z4,.slice z5 z6 z7,.slice z8 z9 dD,.slice dI z12 dJ] 48)).alloc (.cells #[.slice none 0 0,.slice none 0 0,.slice none 0 0,.slice none 0 0] 30))).heap.size:=by simp
 have HM:=ah (h.keep hb1 (aC _))
 have HZ0:=ah hz
 have HB:=ah hl
 have pI:=ah hlb
 have dV:=ah hb1
 clear hb1 h hz hl hlb
 change Calls Tryz.prog _ #[.agg #[.slice ca cn cc,.slice fa aX fc,.slice la ln lc,.slice ba b_n bc],.agg #[.int .i64 l.dev,.int .i64 l.epoch,.int .i64 z3,.int .i64 z4,.slice z5 z6 z7,.slice z8 z9 dD,.slice dI z12 dJ]] w _
 go_enter Tryz.func34,Tryz.ntmps34
 go_wp2_with fail
 generalize (((w.alloc (.cells #[.slice ca cn cc,.slice fa aX fc,.slice la ln lc,.slice ba b_n bc] 30)).alloc (.cells #[.int .i64 l.dev,.int .i64 l.epoch,.int .i64 z3,.int .i64 z4,.slice z5 z6 z7,.slice z8 z9 dD,.slice dI z12 dJ] 48)).alloc (.cells #[.slice none 0 0,.slice none 0 0,.slice none 0 0,.slice none 0 0] 30))=w3 at*
 refine(h_ ⟨⟨ca,cn,cc⟩,⟨fa,aX,fc⟩,⟨la,ln,lc⟩,⟨ba,b_n,bc⟩⟩ b _ HM.out HB.out).mono ?_
 rintro e w4 ⟨⟨⟨da,dn,dc⟩,⟨ea,e_n,ec⟩,⟨ma,mn,mc⟩,⟨na,jB,nc⟩⟩,xs,C0,rfl,ho0,hC0,hb4⟩
 obtain⟨C,ho,hC,NI⟩:=ho0.cap hC0 hb4.size
 clear ho0 hC0
 have hzz:w.heap.size<w3.heap.size:=by omega
 have hk0:=aj qh.out hb4 (by omega)
 have hk1:=aj gF.out hb4 (by omega)
 have hk2:=aj fJ.out hb4 (by omega)
 obtain⟨d0,d1,d2,d3,_⟩:=ay hk0
 have f0:=aA hk0 0
 have f1:=aA hk0 1
 have f2:=aA hk0 2
 have f3:=aA hk0 3
 obtain⟨n0,n1,n2,n3,n4,n5,n6,_⟩:=aB hk1
 have HO:=ah ((((ho.put hC ⟨w.heap.size,0,none⟩ hzz (.slice da dn dc)).put hC ⟨w.heap.size,1,none⟩ hzz (.slice ea e_n ec)).put hC ⟨w.heap.size,2,none⟩ hzz (.slice ma mn mc)).put hC ⟨w.heap.size,3,none⟩ hzz (.slice na jB nc))
 have CF:=ah (gq hk0 (.slice da dn dc) (.slice ea e_n ec) (.slice ma mn mc) (.slice na jB nc))
 have wU:=ah ((bF w4 w.heap.size (w.heap.size+1) (by omega) (.slice da dn dc) (.slice ea e_n ec) (.slice ma mn mc) (.slice na jB nc) 0 1 2 3).trans hk1)
 have kI:=ah ((bF w4 w.heap.size (w.heap.size+2) (by omega) (.slice da dn dc) (.slice ea e_n ec) (.slice ma mn mc) (.slice na jB nc) 0 1 2 3).trans hk2)
 have Y8:Hid (C≤((((w4.setCell ⟨w.heap.size,0,none⟩ (.slice da dn dc)).setCell ⟨w.heap.size,1,none⟩ (.slice ea e_n ec)).setCell ⟨w.heap.size,2,none⟩ (.slice ma mn mc)).setCell ⟨w.heap.size,3,none⟩ (.slice na jB nc)).heap.size):=ah (by rw[fV];exact NI)
 clear NI
 have jR:=dV.out.trans (hb4.mono dV.out.size)
 have tQ:=ah ((((jR.setCell (p:=⟨w.heap.size,0,none⟩) (aC _) (.slice da dn dc)).setCell (p:=⟨w.heap.size,1,none⟩) (aC _) (.slice ea e_n ec)).setCell (p:=⟨w.heap.size,2,none⟩) (aC _) (.slice ma mn mc)).setCell (p:=⟨w.heap.size,3,none⟩) (aC _) (.slice na jB nc))
 have X6:Hid (lW ((((w4.setCell ⟨w.heap.size,0,none⟩ (.slice da dn dc)).setCell ⟨w.heap.size,1,none⟩ (.slice ea e_n ec)).setCell ⟨w.heap.size,2,none⟩ (.slice ma mn mc)).setCell ⟨w.heap.size,3,none⟩ (.slice na jB nc)) ⟨l.dev,l.epoch,z3,z4,⟨z5,z6,z7⟩,⟨z8,z9,dD⟩,⟨dI,z12,dJ⟩⟩ l):=ah (HZ0.out.keep tQ.out (aC _))
 clear ho hk0 hk1 hk2 hb4 jR qh gF fJ HM dV
 go_wp2_with fail
 generalize ((((w4.setCell ⟨w.heap.size,0,none⟩ (.slice da dn dc)).setCell ⟨w.heap.size,1,none⟩ (.slice ea e_n ec)).setCell ⟨w.heap.size,2,none⟩ (.slice ma mn mc)).setCell ⟨w.heap.size,3,none⟩ (.slice na jB nc))=w5 at*
 refine(Eo ⟨⟨da,dn,dc⟩,⟨ea,e_n,ec⟩,⟨ma,mn,mc⟩,⟨na,jB,nc⟩⟩ b.ls l.dev l.epoch _ HO.out.m.l).mono ?_
 rintro e w6 ⟨rfl,hb6⟩
 have XW:w.heap.size+2<w5.heap.size:=(bg kI.out).1
 have Y9:Hid (C≤w6.heap.size):=ah (Nat.le_trans Y8.out hb6.size)
 have wP:Hid (pX w6 w3.heap.size C ⟨⟨da,dn,dc⟩,⟨ea,e_n,ec⟩,⟨ma,mn,mc⟩,⟨na,jB,nc⟩⟩ b xs):=ah (HO.out.keep hb6)
 have n_:=ah (aj CF.out hb6 (by omega))
 have EC:=ah (aj wU.out hb6 (by omega))
 have dO:=ah (aj kI.out hb6 (by omega))
 have AJ:=ah (tQ.out.trans (hb6.mono tQ.out.size))
 have Y_:=ah (HZ0.out.keep AJ.out (aC _))
 have Tj:w.heap.size+2<w6.heap.size:=(bg dO.out).1
 clear hb6 HO CF wU kI tQ d0 d1 d2 d3 f0 f1 f2 f3 n0 n1 n2 n3 n4 n5 n6 X6
 obtain⟨d0,d1,d2,d3,_⟩:=ay n_.out
 obtain⟨e0,e1,e2,e3,_⟩:=ay dO.out
 have f0:=aA dO.out 0
 have f1:=aA dO.out 1
 have f2:=aA dO.out 2
 have f3:=aA dO.out 3
 rcases bQ (fun c:Ls=>decide (c.dev=l.dev)&&decide (c.epoch=l.epoch)) b.ls with⟨hi,_⟩ | ⟨k,hk,hi,_,_⟩
 ·have HF:Hid (kR b l=(b,2)):=by show _=_;unfold kR jF;simp only[hi];rfl
  rw[show jF b.ls l.dev l.epoch= -1 from hi]
  clear hi
  go_wp2
  refine bodyPost_ret (v:=.tuple #[.agg #[.slice da dn dc,.slice ea e_n ec,.slice ma mn mc,.slice na jB nc],.int .i64 2]) (by simp[results,Tryz.results34,go_sem, *]) rfl (show AF _ _ _ _ from ?_)
  refine⟨⟨⟨da,dn,dc⟩,⟨ea,e_n,ec⟩,⟨ma,mn,mc⟩,⟨na,jB,nc⟩⟩,xs,C,by rw[HF.out],?_,by omega,?_⟩
  ·rw[HF.out]
   exact pX.base ((((wP.out.put hC ⟨w.heap.size+2,0,none⟩ hz2 _).put hC ⟨w.heap.size+2,1,none⟩ hz2 _).put hC ⟨w.heap.size+2,2,none⟩ hz2 _).put hC ⟨w.heap.size+2,3,none⟩ hz2 _) (show w.heap.size≤w3.heap.size by omega)
  ·exact(((AJ.out.setCell (by simp;omega) _).setCell (by simp;omega) _).setCell (by simp;omega) _).setCell (by simp;omega) _
 ·rw[show jF b.ls l.dev l.epoch=k from hi]
  have HF:Hid (kR b l=(⟨b.cs,b.free,b.ls.set k l,b.bound⟩,0)):=by
   show _=_
   unfold kR jF
   simp only[hi]
   rw[if_pos (by omega)]
   simp
  have hkx:k<xs.length:=by rw[wP.out.each.len];exact hk
  have hnl:=HB.out.nl
  have iG:(k:Int)<b.ls.length:=by omega
  obtain⟨g,cap,hxl,hcap,hcm,hBg,hgs,_,_⟩:=wP.out.EH k hk hkx
  injection hxl with hx1 hx2 hx3
  subst hx1 hx2 hx3
  clear hi d0 d1 d2 d3 e0 e1 e2 e3 f0 f1 f2 f3
  go_upto_region 5 with fail
  have hS0:Below w6.heap.size w6 w6.drew:=(aL _ _).drew
  refine aS 6 (fun w'=>Below w6.heap.size w6 w') (by kernel_rfl) ?_
  refine aD (i:=0) (v:=.pointer (some ⟨w.heap.size,2,none⟩)) rfl rfl (by kernel_rfl) (by kernel_rfl) (by kernel_rfl) (by kernel_rfl) (by kernel_rfl) (by decide) (fun _ _ _ h=>h) (.inl ⟨rfl,fun w' hw=>?_⟩) hS0 ?_
  ·go_simp
  refine aD (i:=1) (v:=.slice (some ⟨g,0,none⟩) b.ls.length mc) rfl rfl (by kernel_rfl) (by kernel_rfl) (by kernel_rfl) (by kernel_rfl) (by kernel_rfl) (by decide) (fun _ _ _ h=>h) (.inl ⟨rfl,fun w' hw=>?_⟩) hS0 ?_
  ·obtain⟨_,_,c2,_,_⟩:=ay (aj n_.out hw (by omega))
   go_simp
  refine aD (i:=2) (v:=.int .i64 k) rfl rfl (by kernel_rfl) (by kernel_rfl) (by kernel_rfl) (by kernel_rfl) (by kernel_rfl) (by decide) (fun _ _ _ h=>h) (.inl ⟨rfl,fun w' hw=>?_⟩) hS0 ?_
  ·go_simp
  refine aD (i:=3) (v:=.agg #[.int .i64 l.dev,.int .i64 l.epoch,.int .i64 z3,.int .i64 z4,.slice z5 z6 z7,.slice z8 z9 dD,.slice dI z12 dJ]) rfl rfl (by kernel_rfl) (by kernel_rfl) (by kernel_rfl) (by kernel_rfl) (by kernel_rfl) (by decide) (fun _ _ _ h=>h) (.inl ⟨rfl,fun w' hw=>?_⟩) hS0 ?_
  ·obtain⟨c0,c1,c2,c3,c4,c5,c6,_⟩:=aB (aj EC.out hw (by omega))
   go_simp
  refine aF (i:=4) (by kernel_rfl) rfl rfl ?_
  go_simp
  refine(dZ ⟨l.dev,l.epoch,z3,z4,⟨z5,z6,z7⟩,⟨z8,z9,dD⟩,⟨dI,z12,dJ⟩⟩ l _ (Y_.out.keep (aL _ _).drew (aC _)) pI.out).mono ?_
  rintro e w8 ⟨⟨y1,y2,y3,y4,⟨y5,y6,y7⟩,⟨y8,y9,bW⟩,⟨bX,cB,y13⟩⟩,rfl,hy,nE⟩
  have lQ:Below w6.heap.size w6 w8:=(aL w6.heap.size w6).drew.trans nE
  refine⟨lQ,?_⟩
  have Tz:=ah (wP.out.keep lQ)
  obtain⟨g',cap',Za,_,_,_,ael,⟨c0,c1,c2,c3,c4,c5,c6⟩,hfz⟩:=Tz.out.EH k hk hkx
  injection Za with hx1 _ _
  injection hx1 with hx1
  injection hx1 with hx1 _ _
  subst hx1
  have Zb:C≤w6.drew.heap.size:=Y9.out
  have hy2:iC w8 C ⟨y1,y2,y3,y4,⟨y5,y6,y7⟩,⟨y8,y9,bW⟩,⟨bX,cB,y13⟩⟩ l:=⟨hy.dev,hy.epoch,hy.bY,hy.last,aO hy.s Zb,aO hy.i Zb,aO hy.u Zb⟩
  have hst:=Tz.out.QF (y:=⟨y1,y2,y3,y4,⟨y5,y6,y7⟩,⟨y8,y9,bW⟩,⟨bX,cB,y13⟩⟩) rfl k hk hy2
  simp only[Sv.v]at hst
  have HST:Hid (pX (((((((w8.setCell ⟨g,k*7,none⟩ (.int .i64 y1)).setCell ⟨g,k*7+1,none⟩ (.int .i64 y2)).setCell ⟨g,k*7+2,none⟩ (.int .i64 y3)).setCell ⟨g,k*7+3,none⟩ (.int .i64 y4)).setCell ⟨g,k*7+4,none⟩ (.slice y5 y6 y7)).setCell ⟨g,k*7+5,none⟩ (.slice y8 y9 bW)).setCell ⟨g,k*7+6,none⟩ (.slice bX cB y13)) w3.heap.size C ⟨⟨da,dn,dc⟩,⟨ea,e_n,ec⟩,⟨some ⟨g,0,none⟩,b.ls.length,mc⟩,⟨na,jB,nc⟩⟩ ⟨b.cs,b.free,b.ls.set k l,b.bound⟩ (xs.set k ⟨y1,y2,y3,y4,⟨y5,y6,y7⟩,⟨y8,y9,bW⟩,⟨bX,cB,y13⟩⟩)):=ah hst
  have hB0:w.heap.size≤g:=by omega
  have Kh:=AJ.out.trans (lQ.mono AJ.out.size)
  have QG:Hid (Below w.heap.size w (((((((w8.setCell ⟨g,k*7,none⟩ (.int .i64 y1)).setCell ⟨g,k*7+1,none⟩ (.int .i64 y2)).setCell ⟨g,k*7+2,none⟩ (.int .i64 y3)).setCell ⟨g,k*7+3,none⟩ (.int .i64 y4)).setCell ⟨g,k*7+4,none⟩ (.slice y5 y6 y7)).setCell ⟨g,k*7+5,none⟩ (.slice y8 y9 bW)).setCell ⟨g,k*7+6,none⟩ (.slice bX cB y13))):=ah (((((((Kh.setCell hB0 _).setCell hB0 _).setCell hB0 _).setCell hB0 _).setCell hB0 _).setCell hB0 _).setCell hB0 _)
  have hoth:∀c,c≠g→((((((((w8.setCell ⟨g,k*7,none⟩ (.int .i64 y1)).setCell ⟨g,k*7+1,none⟩ (.int .i64 y2)).setCell ⟨g,k*7+2,none⟩ (.int .i64 y3)).setCell ⟨g,k*7+3,none⟩ (.int .i64 y4)).setCell ⟨g,k*7+4,none⟩ (.slice y5 y6 y7)).setCell ⟨g,k*7+5,none⟩ (.slice y8 y9 bW)).setCell ⟨g,k*7+6,none⟩ (.slice bX cB y13))).heap[c]? =w8.heap[c]? :=fun c hc=>lq w8 g c hc (k*7) _ _ _ _ _ _ _
  have Ki:=ah ((hoth w.heap.size (by omega)).trans (aj n_.out lQ (by omega)))
  have CG:=ah ((hoth (w.heap.size+2) (by omega)).trans (aj dO.out lQ (by omega)))
  have f0:=hfz (k*7)
  have f1:=hfz (k*7+1)
  have f2:=hfz (k*7+2)
  have f3:=hfz (k*7+3)
  have f4:=hfz (k*7+4)
  have f5:=hfz (k*7+5)
  have f6:=hfz (k*7+6)
  clear hfz hy hy2 hst nE Kh hoth n_ EC dO wP Tz
  generalize xs[k]=t at*
  obtain⟨t1,t2,t3,t4,⟨t5,t6,t7⟩,⟨t8,t9,t10⟩,⟨t11,t12,Zc⟩⟩:=t
  simp only[Sv.v]at c4 c5 c6
  refine aF (i:=5) (by kernel_rfl) rfl rfl ?_
  go_simp
  refine aF (i:=6) (by kernel_rfl) rfl rfl ?_
  go_simp
  refine aT (by kernel_rfl) ?_
  generalize (((((((w8.setCell ⟨g,k*7,none⟩ (.int .i64 y1)).setCell ⟨g,k*7+1,none⟩ (.int .i64 y2)).setCell ⟨g,k*7+2,none⟩ (.int .i64 y3)).setCell ⟨g,k*7+3,none⟩ (.int .i64 y4)).setCell ⟨g,k*7+4,none⟩ (.slice y5 y6 y7)).setCell ⟨g,k*7+5,none⟩ (.slice y8 y9 bW)).setCell ⟨g,k*7+6,none⟩ (.slice bX cB y13))=w9 at*
  clear c0 c1 c2 c3 c4 c5 c6 f0 f1 f2 f3 f4 f5 f6
  obtain⟨d0,d1,d2,d3,_⟩:=ay Ki.out
  obtain⟨e0,e1,e2,e3,_⟩:=ay CG.out
  have f0:=aA CG.out 0
  have f1:=aA CG.out 1
  have f2:=aA CG.out 2
  have f3:=aA CG.out 3
  try simp only[Sv.v]at d0 d1 d2 d3
  go_wp2
  refine bodyPost_ret (v:=.tuple #[.agg #[.slice da dn dc,.slice ea e_n ec,.slice (some ⟨g,0,none⟩) b.ls.length mc,.slice na jB nc],.int .i64 0]) (by simp[results,Tryz.results34,go_sem, *]) rfl (show AF _ _ _ _ from ?_)
  refine⟨⟨⟨da,dn,dc⟩,⟨ea,e_n,ec⟩,⟨some ⟨g,0,none⟩,b.ls.length,mc⟩,⟨na,jB,nc⟩⟩,xs.set k ⟨y1,y2,y3,y4,⟨y5,y6,y7⟩,⟨y8,y9,bW⟩,⟨bX,cB,y13⟩⟩,C,by rw[HF.out],?_,by omega,?_⟩
  ·rw[HF.out]
   exact pX.base ((((HST.out.put hC ⟨w.heap.size+2,0,none⟩ hz2 _).put hC ⟨w.heap.size+2,1,none⟩ hz2 _).put hC ⟨w.heap.size+2,2,none⟩ hz2 _).put hC ⟨w.heap.size+2,3,none⟩ hz2 _) (show w.heap.size≤w3.heap.size by omega)
  ·exact(((QG.out.setCell (by simp;omega) _).setCell (by simp;omega) _).setCell (by simp;omega) _).setCell (by simp;omega) _
theorem NJ (x:bZ) (b:Bk) (z:bV) (l:Ls) (w:World) (h:eD w x b) (hl:zN b) (hz:lW w z l) (hlb:wJ l):
  Calls Tryz.prog 34 #[fT x,nI z] w (kH w (kR b l)):=
 (NH x b z l w h hl hz hlb).mono fun _ _ ⟨x',_,_,h1,h2,_,h4⟩=>⟨x',h1,h2.m,h4⟩
end Go.Proofs.YtlfopoimbbpfdaaGreat
namespace Go.Proofs.YtlfopoimbbpfdaaGreat
open Go.RowKit
theorem fB {w w3:World} {o:Obj} (hg:(w.alloc o).grownBy w3 (Value.slice (some ⟨w.heap.size,0,none⟩) 0 0).ownBlock):Below w.heap.size w w3:=
 ((aL w.heap.size w).alloc (aC _) _).grown hg (by simp) (fun g hg=>(by have hg2:some w.heap.size=some g:=hg;injection hg2 with hg2;omega))
theorem Kj {w:World} {b:Nat} {a0 a1 a2 a3 a4 a5 a6:Value} {t:TypeId} (h:w.heap[b]? =some (.cells #[a0,a1,a2,a3,a4,a5,a6] t (0,0))) (x:Value):
  (w.setCell ⟨b,6,none⟩ x).heap[b]? =some (.cells #[a0,a1,a2,a3,a4,a5,x] t (0,0)):=by
 simp[World.setCell,Array.getElem?_modify,h]
theorem cK.rd {α:Type} {f:α→List Value} {E:Nat} {w:World} {ao:Option Addr} {l:List α} {cap:Nat} (h:cK f E w (.slice ao l.length cap) l):Rd w ao (aK f l):=Sl.rd h
set_option maxRecDepth 100000 in
set_option maxHeartbeats 4000000 in
theorem nM (x:bV) (l:Ls) (w:World) (h:lW w x l) (hl:wJ l):
  Calls Tryz.prog 79 #[nI x] w (O6 w l):=by
 obtain⟨d,ep,un,la,⟨sa,sn,sc⟩,⟨ia,dz,ic⟩,⟨ua,u_n,uc⟩⟩:=x
 obtain⟨l1,l2,l3,l4,l5,l6,l7⟩:=l
 obtain⟨q1,q2,q3,q4,hs,hi,hu⟩:=h
 obtain⟨b1,b2,b3⟩:=hl
 simp only at q1 q2 q3 q4 hs hi hu b1 b2 b3
 subst q1 q2 q3 q4
 obtain⟨e1,e2,e3⟩:=Sl.lens (s:=⟨sa,sn,sc⟩) hs
 obtain⟨e4,e5,e6⟩:=Sl.lens (s:=⟨ia,dz,ic⟩) hi
 obtain⟨e7,e8,e9⟩:=Sl.lens (s:=⟨ua,u_n,uc⟩) hu
 simp only at e1 e2 e3 e4 e5 e6 e7 e8 e9
 subst e1 e4 e7
 obtain⟨w2,hw2,k1,k2,hb1,hz2⟩:∃w2,((w.alloc (.cells #[.int .i64 d,.int .i64 ep,.int .i64 un,.int .i64 la,.slice sa l5.length sc,.slice ia l6.length ic,.slice ua l7.length uc] 48)).alloc (.cells #[.int .i64 0,.int .i64 0,.int .i64 0,.int .i64 0,.slice none 0 0,.slice none 0 0,.slice none 0 0] 48))=w2∧w2.heap[w.heap.size]? =some (.cells #[.int .i64 d,.int .i64 ep,.int .i64 un,.int .i64 la,.slice sa l5.length sc,.slice ia l6.length ic,.slice ua l7.length uc] 48 (0,0))∧w2.heap[w.heap.size+1]? =some (.cells #[.int .i64 0,.int .i64 0,.int .i64 0,.int .i64 0,.slice none 0 0,.slice none 0 0,.slice none 0 0] 48 (0,0))∧Below w.heap.size w w2∧w2.heap.size=w.heap.size+2:=⟨_,rfl,bJ _ _ _,bE _ _ _,((aL _ _).alloc (aC _) _).alloc (by simp) _,by simp⟩
 have HW2:=ah hw2
 have Kk:=ah (cK.rd hs)
 have HXI:=ah (Sl.rd hi)
 have HXU:=ah (Sl.rd hu)
 have fJ:=ah k2
 have gF:=ah k1
 have HZ2:=ah (Nat.le_of_eq hz2.symm)
 have dV:=ah hb1
 obtain⟨c0,c1,c2,c3,c4,c5,c6,_⟩:=aB k1
 clear hs hi hu hw2 k1 k2 hz2 hb1
 change Calls Tryz.prog _ #[.agg #[.int .i64 d,.int .i64 ep,.int .i64 un,.int .i64 la,.slice sa l5.length sc,.slice ia l6.length ic,.slice ua l7.length uc]] w _
 go_enter Tryz.func79,Tryz.ntmps79
 go_upto_region 1 with fail
 rw[HW2.out]
 go_upto_region 2 with((with_reducible refine aY 6 ?_);refine zM rfl _ _ rfl w2.heap.size _ 0 [] rfl (cO _ _ _ _ 5 #[] 0 rfl (aC _) (by omega) rfl) sa l5.length sc l5 rfl rfl ((Kk.out.keep dV.out (aC _)).alloc _) (by omega) (by simp) ?_;intro v3 w3 ho3 hg3 j_;obtain⟨QH,QI,rfl,_,_⟩:=aP ho3;have hb3:=fB hg3;have k3:=aj gF.out hb3 (by have:=HZ2.out;omega);obtain⟨c0,c1,c2,c3,c4,c5,c6,_⟩:=aB k3;have f4:=ak k3 4)
 rw[Nat.zero_add,List.nil_append]at ho3
 have D9:=hb3.size
 have Kl:=HZ2.out
 obtain⟨wa,hw4⟩:∃W,w3.setCell ⟨w.heap.size,4,none⟩ (.slice QH l5.length QI)=W:=⟨_,rfl⟩
 have OS:Hid (wa.ownsRow (w.heap.size+2) 88 5 (.slice QH l5.length QI) _ _):=ah (by rw[←hw4];exact aM (aO ho3 (by omega)) _ (by show w.heap.size<_;omega) _)
 have wU:Hid (wa.heap[w.heap.size]? =some (.cells #[.int .i64 d,.int .i64 ep,.int .i64 un,.int .i64 la,.slice QH l5.length QI,.slice ia l6.length ic,.slice ua l7.length uc] 48 (0,0))):=ah (by rw[←hw4];exact EG k3 _)
 have kI:Hid (wa.heap[w.heap.size+1]? =some (.cells #[.int .i64 0,.int .i64 0,.int .i64 0,.int .i64 0,.slice none 0 0,.slice none 0 0,.slice none 0 0] 48 (0,0))):=ah (by rw[←hw4];exact(aW _ _ _ (by simp) _).trans (aj fJ.out hb3 (by omega)))
 have CJ:Hid (Below w.heap.size w wa):=ah (by rw[←hw4];exact(dV.out.trans (hb3.mono dV.out.size)).setCell (aC _) _)
 have CK:Hid (w.heap.size+2≤wa.heap.size):=ah (by rw[←hw4];simp[World.setCell];omega)
 rw[hw4]
 clear gF fJ dV HZ2 ho3 hg3 j_ hb3 k3 c0 c1 c2 c3 c4 c5 c6 f4 hw4 D9 Kl
 have gF:=ah wU.out
 have fJ:=ah kI.out
 have dV:=ah CJ.out
 have HZ2:=ah CK.out
 clear wU kI CJ CK
 obtain⟨c0,c1,c2,c3,c4,c5,c6,_⟩:=aB gF.out
 go_upto_region 3 with((with_reducible refine aY 11 ?_);refine mU rfl _ _ rfl wa.heap.size _ 0 [] rfl (cO _ _ _ _ 2 #[] 0 rfl (aC _) (by omega) rfl) ia l6.length ic l6 rfl rfl ((HXI.out.keep dV.out (aC _)).alloc _) (by omega) (by simp) ?_;intro v4 w3 ho3 hg3 j_;obtain⟨TA,TB,rfl,_,_⟩:=aP ho3;have hb3:=fB hg3;have k3:=aj gF.out hb3 (by have:=HZ2.out;omega);obtain⟨c0,c1,c2,c3,c4,c5,c6,_⟩:=aB k3;have f4:=ak k3 5)
 rw[Nat.zero_add,List.nil_append]at ho3
 have D9:=hb3.size
 have Kl:=HZ2.out
 obtain⟨wb,hw4⟩:∃W,w3.setCell ⟨w.heap.size,5,none⟩ (.slice TA l6.length TB)=W:=⟨_,rfl⟩
 have OI:Hid (wb.ownsRow (w.heap.size+2) 56 2 (.slice TA l6.length TB) _ _):=ah (by rw[←hw4];exact aM (aO ho3 (by omega)) _ (by show w.heap.size<_;omega) _)
 have UA:=ah (show wb.ownsRow _ _ _ _ _ _ by rw[←hw4];exact aM (aJ OS.out hb3 (aC _)) _ (by show w.heap.size<_;omega) _)
 clear OS
 have OS:=ah UA.out
 clear UA
 have wU:Hid (wb.heap[w.heap.size]? =some (.cells #[.int .i64 d,.int .i64 ep,.int .i64 un,.int .i64 la,.slice QH l5.length QI,.slice TA l6.length TB,.slice ua l7.length uc] 48 (0,0))):=ah (by rw[←hw4];exact AA k3 _)
 have kI:Hid (wb.heap[w.heap.size+1]? =some (.cells #[.int .i64 0,.int .i64 0,.int .i64 0,.int .i64 0,.slice none 0 0,.slice none 0 0,.slice none 0 0] 48 (0,0))):=ah (by rw[←hw4];exact(aW _ _ _ (by simp) _).trans (aj fJ.out hb3 (by omega)))
 have CJ:Hid (Below w.heap.size w wb):=ah (by rw[←hw4];exact(dV.out.trans (hb3.mono dV.out.size)).setCell (aC _) _)
 have CK:Hid (w.heap.size+2≤wb.heap.size):=ah (by rw[←hw4];simp[World.setCell];omega)
 rw[hw4]
 clear gF fJ dV HZ2 ho3 hg3 j_ hb3 k3 c0 c1 c2 c3 c4 c5 c6 f4 hw4 D9 Kl
 have gF:=ah wU.out
 have fJ:=ah kI.out
 have dV:=ah CJ.out
 have HZ2:=ah CK.out
 clear wU kI CJ CK
 obtain⟨c0,c1,c2,c3,c4,c5,c6,_⟩:=aB gF.out
 go_upto_region 4 with((with_reducible refine aY 16 ?_);refine jV rfl _ _ rfl wb.heap.size _ 0 [] rfl (cO _ _ _ _ 1 #[] 0 rfl (aC _) (by omega) rfl) ua l7.length uc l7 rfl rfl ((HXU.out.keep dV.out (aC _)).alloc _) (by omega) (by simp) ?_;intro v5 w3 ho3 hg3 j_;obtain⟨UC,UD,rfl,_,_⟩:=aP ho3;have hb3:=fB hg3;have k3:=aj gF.out hb3 (by have:=HZ2.out;omega);obtain⟨c0,c1,c2,c3,c4,c5,c6,_⟩:=aB k3;have f4:=ak k3 6)
 rw[Nat.zero_add,List.nil_append]at ho3
 have D9:=hb3.size
 have Kl:=HZ2.out
 obtain⟨wd,hw4⟩:∃W,w3.setCell ⟨w.heap.size,6,none⟩ (.slice UC l7.length UD)=W:=⟨_,rfl⟩
 have OU:Hid (wd.ownsRow (w.heap.size+2) 3 1 (.slice UC l7.length UD) _ _):=ah (by rw[←hw4];exact aM (aO ho3 (by omega)) _ (by show w.heap.size<_;omega) _)
 have UA:=ah (show wd.ownsRow _ _ _ _ _ _ by rw[←hw4];exact aM (aJ OS.out hb3 (aC _)) _ (by show w.heap.size<_;omega) _)
 clear OS
 have OS:=ah UA.out
 clear UA
 have OI':=ah (show wd.ownsRow _ _ _ _ _ _ by rw[←hw4];exact aM (aJ OI.out hb3 (aC _)) _ (by show w.heap.size<_;omega) _)
 clear OI
 have OI:=ah OI'.out
 clear OI'
 have wU:Hid (wd.heap[w.heap.size]? =some (.cells #[.int .i64 d,.int .i64 ep,.int .i64 un,.int .i64 la,.slice QH l5.length QI,.slice TA l6.length TB,.slice UC l7.length UD] 48 (0,0))):=ah (by rw[←hw4];exact Kj k3 _)
 have kI:Hid (wd.heap[w.heap.size+1]? =some (.cells #[.int .i64 0,.int .i64 0,.int .i64 0,.int .i64 0,.slice none 0 0,.slice none 0 0,.slice none 0 0] 48 (0,0))):=ah (by rw[←hw4];exact(aW _ _ _ (by simp) _).trans (aj fJ.out hb3 (by omega)))
 have CJ:Hid (Below w.heap.size w wd):=ah (by rw[←hw4];exact(dV.out.trans (hb3.mono dV.out.size)).setCell (aC _) _)
 have CK:Hid (w.heap.size+2≤wd.heap.size):=ah (by rw[←hw4];simp[World.setCell];omega)
 rw[hw4]
 clear gF fJ dV HZ2 ho3 hg3 j_ hb3 k3 c0 c1 c2 c3 c4 c5 c6 f4 hw4 D9 Kl
 have gF:=ah wU.out
 have fJ:=ah kI.out
 have dV:=ah CJ.out
 have HZ2:=ah CK.out
 clear wU kI CJ CK
 obtain⟨c0,c1,c2,c3,c4,c5,c6,_⟩:=aB gF.out
 obtain⟨e0,e1,e2,e3,e4,e5,e6,_⟩:=aB fJ.out
 have f0:=ak fJ.out 0
 have f1:=ak fJ.out 1
 have f2:=ak fJ.out 2
 have f3:=ak fJ.out 3
 have f4:=ak fJ.out 4
 have f5:=ak fJ.out 5
 have f6:=ak fJ.out 6
 go_wp2
 refine bodyPost_ret (v:=.agg #[.int .i64 d,.int .i64 ep,.int .i64 un,.int .i64 la,.slice QH l5.length QI,.slice TA l6.length TB,.slice UC l7.length UD]) (by simp[results,Tryz.results79,go_sem, *]) rfl ⟨⟨d,ep,un,la,⟨QH,_,QI⟩,⟨TA,_,TB⟩,⟨UC,_,UD⟩⟩,rfl,?_,?_⟩
 ·have hp:w.heap.size+1<w.heap.size+2:=by omega
  refine⟨rfl,rfl,rfl,rfl,?_,?_,?_⟩
  ·exact aO (aM (aM (aM (aM (aM (aM (aM OS.out _ hp _) _ hp _) _ hp _) _ hp _) _ hp _) _ hp _) _ hp _) (by omega)
  ·exact aO (aM (aM (aM (aM (aM (aM (aM OI.out _ hp _) _ hp _) _ hp _) _ hp _) _ hp _) _ hp _) _ hp _) (by omega)
  ·exact aO (aM (aM (aM (aM (aM (aM (aM OU.out _ hp _) _ hp _) _ hp _) _ hp _) _ hp _) _ hp _) _ hp _) (by omega)
 ·exact((((((dV.out.setCell (by simp) _).setCell (by simp) _).setCell (by simp) _).setCell (by simp) _).setCell (by simp) _).setCell (by simp) _).setCell (by simp) _
def fD (b:Bk) (d ep:Int):Ls×Bool:=if 0≤jG b.ls d∧(b.ls.getD (jG b.ls d).toNat mK).epoch=ep then(b.ls.getD (jG b.ls d).toNat mK,true)else(mK,false)
set_option maxRecDepth 100000 in
set_option maxHeartbeats 4000000 in
theorem zU (x:bZ) (b:Bk) (d ep:Int) (w:World) (h:eD w x b) (hl:zN b):
  Calls Tryz.prog 31 #[fT x,.int .i64 d,.int .i64 ep] w (Cy w (fD b d ep)):=by
 obtain⟨⟨ca,cn,cc⟩,⟨fa,aX,fc⟩,⟨la,ln,lc⟩,⟨ba,b_n,bc⟩⟩:=x
 obtain⟨a1,a2,a3,a4⟩:=b
 have hls:=h.l
 obtain⟨xs,hx,hxa⟩:=hls
 have hB:=hl.each
 have hnl:=hl.nl
 simp only[Sv.v]at hx hB hxa hnl
 obtain⟨q3,g3,g4⟩:=Sl.lens (s:=⟨la,ln,lc⟩) hx
 simp only at q3 g3 g4
 subst q3
 have HLEN:=ah hxa.len
 have q_:=ah hxa
 have HB:=ah hB
 have hxl:xs.length<1000000:=by have:=HLEN.out;omega
 clear hxa hB
 have hb1:Below w.heap.size w ((w.alloc (.cells #[.slice ca cn cc,.slice fa aX fc,.slice la xs.length lc,.slice ba b_n bc] 30)).alloc (.cells #[.int .i64 0,.int .i64 0,.int .i64 0,.int .i64 0,.slice none 0 0,.slice none 0 0,.slice none 0 0] 48)):=((aL _ _).alloc (aC _) _).alloc (by simp) _
 have gF:=ah (bJ w (.cells #[.slice ca cn cc,.slice fa aX fc,.slice la xs.length lc,.slice ba b_n bc] 30) (.cells #[.int .i64 0,.int .i64 0,.int .i64 0,.int .i64 0,.slice none 0 0,.slice none 0 0,.slice none 0 0] 48))
 have fJ:=ah (bE w (.cells #[.slice ca cn cc,.slice fa aX fc,.slice la xs.length lc,.slice ba b_n bc] 30) (.cells #[.int .i64 0,.int .i64 0,.int .i64 0,.int .i64 0,.slice none 0 0,.slice none 0 0,.slice none 0 0] 48))
 have hz2:w.heap.size+1<((w.alloc (.cells #[.slice ca cn cc,.slice fa aX fc,.slice la xs.length lc,.slice ba b_n bc] 30)).alloc (.cells #[.int .i64 0,.int .i64 0,.int .i64 0,.int .i64 0,.slice none 0 0,.slice none 0 0,.slice none 0 0] 48)).heap.size:=by simp
 have Pf:Hid (Aq ((w.alloc (.cells #[.slice ca cn cc,.slice fa aX fc,.slice la xs.length lc,.slice ba b_n bc] 30)).alloc (.cells #[.int .i64 0,.int .i64 0,.int .i64 0,.int .i64 0,.slice none 0 0,.slice none 0 0,.slice none 0 0] 48)) (.slice la xs.length lc) a3):=ah (Aq.keep ⟨xs,hx,q_.out⟩ hb1 (aC _))
 have dV:=ah hb1
 clear hb1 h hl
 change Calls Tryz.prog _ #[.agg #[.slice ca cn cc,.slice fa aX fc,.slice la xs.length lc,.slice ba b_n bc],.int .i64 d,.int .i64 ep] w _
 go_enter Tryz.func31,Tryz.ntmps31
 go_wp2_with fail
 generalize (w.alloc (.cells #[.slice ca cn cc,.slice fa aX fc,.slice la xs.length lc,.slice ba b_n bc] 30)).alloc (.cells #[.int .i64 0,.int .i64 0,.int .i64 0,.int .i64 0,.slice none 0 0,.slice none 0 0,.slice none 0 0] 48)=w2 at*
 refine(vN ⟨⟨ca,cn,cc⟩,⟨fa,aX,fc⟩,⟨la,xs.length,lc⟩,⟨ba,b_n,bc⟩⟩ a3 d _ Pf.out).mono ?_
 rintro e w3 ⟨rfl,hb3⟩
 have vF:=dV.out.trans (hb3.mono dV.out.size)
 have EC:=ah (aj gF.out hb3 (by omega))
 have dO:=ah (aj fJ.out hb3 hz2)
 have hz3:w.heap.size+1<w3.heap.size:=(bg dO.out).1
 clear hb3
 obtain⟨d0,d1,d2,d3,_⟩:=ay EC.out
 obtain⟨n0,n1,n2,n3,n4,n5,n6,_⟩:=aB dO.out
 have f0:=ak dO.out 0
 have f1:=ak dO.out 1
 have f2:=ak dO.out 2
 have f3:=ak dO.out 3
 have f4:=ak dO.out 4
 have f5:=ak dO.out 5
 have f6:=ak dO.out 6
 rcases bQ (fun c:Ls=>decide (c.dev=d)) a3 with⟨hi,_⟩ | ⟨k,hk,hi,_,_⟩
 ·have HF:Hid (fD ⟨a1,a2,a3,a4⟩ d ep=(mK,false)):=by show _=_;unfold fD jG;simp only[hi];rw[if_neg (by omega)]
  rw[show jG a3 d= -1 from hi]
  clear hi
  go_wp2
  refine bodyPost_ret (v:=.tuple #[.agg #[.int .i64 0,.int .i64 0,.int .i64 0,.int .i64 0,.slice none 0 0,.slice none 0 0,.slice none 0 0],.bool false]) (by simp[results,Tryz.results31,go_sem, *]) rfl ⟨rD,by rw[HF.out];rfl,by rw[HF.out];exact gX _ _,?_⟩
  exact((((((vF.setCell (by simp) _).setCell (by simp) _).setCell (by simp) _).setCell (by simp) _).setCell (by simp) _).setCell (by simp) _).setCell (by simp) _
 ·have HF:Hid (fD ⟨a1,a2,a3,a4⟩ d ep=if a3[k].epoch=ep then(a3[k],true)else(mK,false)):=by
   show _=_
   unfold fD jG
   simp only[hi]
   simp[List.getD,List.getElem?_eq_getElem hk]
  rw[show jG a3 d=k from hi]
  have hkx:k<xs.length:=by rw[HLEN.out];exact hk
  obtain⟨lb,lo,rfl,hlb,e0,e1,e2,e3,e4,e5,e6⟩:=cK.ls hx vF (aC _) k hkx
  have iG:(k:Int)<xs.length:=by omega
  have HM:=ah ((bI.at q_.out k hkx hk).keep vF (aC _))
  have Y7:=ah (HB.out a3[k] (List.getElem_mem hk))
  clear hi
  generalize a3[k]=l at*
  generalize xs[k]=z at*
  obtain⟨z1,z2,z3,z4,⟨z5,z6,z7⟩,⟨z8,z9,dD⟩,⟨dI,z12,dJ⟩⟩:=z
  simp only[Sv.v]at e0 e1 e2 e3 e4 e5 e6
  have D9:z2=l.epoch:=HM.out.epoch
  subst D9
  by_cases he:l.epoch=ep
  case neg=>
   have oK:Hid (fD ⟨a1,a2,a3,a4⟩ d ep=(mK,false)):=ah (by rw[HF.out,if_neg he])
   have he2:(l.epoch != ep)=true:=by simpa using he
   have kd:decide ((k:Int)<0)=false:=by simp
   clear he
   go_wp2
   refine bodyPost_ret (v:=.tuple #[.agg #[.int .i64 0,.int .i64 0,.int .i64 0,.int .i64 0,.slice none 0 0,.slice none 0 0,.slice none 0 0],.bool false]) (by simp[results,Tryz.results31,go_sem, *]) rfl ⟨rD,by rw[oK.out];rfl,by rw[oK.out];exact gX _ _,?_⟩
   exact((((((vF.setCell (by simp) _).setCell (by simp) _).setCell (by simp) _).setCell (by simp) _).setCell (by simp) _).setCell (by simp) _).setCell (by simp) _
  have HF3:Hid (fD ⟨a1,a2,a3,a4⟩ d ep=(l,true)):=ah (by rw[HF.out,if_pos he])
  clear HF
  have HF:=ah HF3.out
  clear HF3
  subst he
  go_wp2_with fail
  refine(nM ⟨z1,l.epoch,z3,z4,⟨z5,z6,z7⟩,⟨z8,z9,dD⟩,⟨dI,z12,dJ⟩⟩ l _ HM.out Y7.out).mono ?_
  rintro e w4 ⟨⟨y1,y2,y3,y4,⟨y5,y6,y7⟩,⟨y8,y9,bW⟩,⟨bX,cB,y13⟩⟩,rfl,ho,hb4⟩
  have hk2:=aj dO.out hb4 hz3
  clear n0 n1 n2 n3 n4 n5 n6 f0 f1 f2 f3 f4 f5 f6
  obtain⟨n0,n1,n2,n3,n4,n5,n6,_⟩:=aB hk2
  have f0:=ak hk2 0
  have f1:=ak hk2 1
  have f2:=ak hk2 2
  have f3:=ak hk2 3
  have f4:=ak hk2 4
  have f5:=ak hk2 5
  have f6:=ak hk2 6
  have jR:=vF.trans (hb4.mono vF.size)
  have hsz0:w.heap.size≤w3.heap.size:=by omega
  have HO:=ah (((((((ho.put ⟨w.heap.size+1,0,none⟩ hz3 (.int .i64 y1)).put ⟨w.heap.size+1,1,none⟩ hz3 (.int .i64 y2)).put ⟨w.heap.size+1,2,none⟩ hz3 (.int .i64 y3)).put ⟨w.heap.size+1,3,none⟩ hz3 (.int .i64 y4)).put ⟨w.heap.size+1,4,none⟩ hz3 (.slice y5 y6 y7)).put ⟨w.heap.size+1,5,none⟩ hz3 (.slice y8 y9 bW)).put ⟨w.heap.size+1,6,none⟩ hz3 (.slice bX cB y13))
  clear hk2 ho hb4 e0 e1 e2 e3 e4 e5 e6 d0 d1 d2 d3
  go_wp2
  refine bodyPost_ret (v:=.tuple #[.agg #[.int .i64 y1,.int .i64 y2,.int .i64 y3,.int .i64 y4,.slice y5 y6 y7,.slice y8 y9 bW,.slice bX cB y13],.bool true]) (by simp[results,Tryz.results31,go_sem, *]) rfl ⟨⟨y1,y2,y3,y4,⟨y5,y6,y7⟩,⟨y8,y9,bW⟩,⟨bX,cB,y13⟩⟩,by rw[HF.out],by rw[HF.out];exact HO.out.base hsz0,?_⟩
  exact((((((jR.setCell (by simp) _).setCell (by simp) _).setCell (by simp) _).setCell (by simp) _).setCell (by simp) _).setCell (by simp) _).setCell (by simp) _
end Go.Proofs.YtlfopoimbbpfdaaGreat
