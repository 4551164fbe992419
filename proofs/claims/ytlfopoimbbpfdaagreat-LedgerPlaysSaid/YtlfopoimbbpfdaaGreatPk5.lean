/- What the law asks, in parts: LWkH WkC LNw. -/
import Derived.Test.YtlfopoimbbpfdaaGreatPk4
import Derived.Test.YtlfopoimbbpfdaaGreatPk3
import Derived.Test.YtlfopoimbbpfdaaGreatPk1
import Derived.Test.YtlfopoimbbpfdaaGreatPk2
set_option linter.all false
namespace Go.Proofs.YtlfopoimbbpfdaaGreat
open Go.RowKit
structure zN (b:Bk):Prop where
 nc:b.cs.length<1000000
 nf:b.free.length<1000000
 nl:b.ls.length<1000000
 nb:b.bound.length<1000000
 each:∀l∈b.ls,wJ l
structure pX (w:World) (B C:Nat) (x:bZ) (b:Bk) (xs:List bV):Prop where
 rc:w.ownsRow B 54 7 x.c.v b.cs.length (aK jE b.cs)
 rf:w.ownsRow B 56 2 x.f.v b.free.length (aR b.free)
 rl:w.ownsRow B 48 7 x.l.v b.ls.length (aK iZ xs)
 rb:w.ownsRow B 3 1 x.b.v b.bound.length (bM b.bound)
 cl:∀g,x.c.v.ownBlock=some g→g<C
 fl:∀g,x.f.v.ownBlock=some g→g<C
 ll:∀g,x.l.v.ownBlock=some g→g<C
 bl:∀g,x.b.v.ownBlock=some g→g<C
 each:bI (iC w C) xs b.ls
theorem pX.m {w:World} {B C:Nat} {x:bZ} {b:Bk} {xs:List bV} (h:pX w B C x b xs):eD w x b:=
 ⟨aI h.rc,aI h.rf,⟨xs,by have:=aI h.rl;rw[←h.each.len]at this;exact this,h.each.imp (fun _ _ r=>r.m)⟩,aI h.rb⟩
theorem gq {w:World} {b:Nat} {a0 a1 a2 a3:Value} {t:TypeId} (h:w.heap[b]? =some (.cells #[a0,a1,a2,a3] t (0,0))) (x y z u:Value):
  ((((w.setCell ⟨b,0,none⟩ x).setCell ⟨b,1,none⟩ y).setCell ⟨b,2,none⟩ z).setCell ⟨b,3,none⟩ u).heap[b]? =some (.cells #[x,y,z,u] t (0,0)):=by
 simp[World.setCell,Array.getElem?_modify,h]
theorem bF (w:World) (b c:Nat) (h:b≠c) (x y z u:Value) (i j k m:Nat):((((w.setCell ⟨b,i,none⟩ x).setCell ⟨b,j,none⟩ y).setCell ⟨b,k,none⟩ z).setCell ⟨b,m,none⟩ u).heap[c]? =w.heap[c]? :=by
 simp[World.setCell,Array.getElem?_modify,h]
theorem aA {w:World} {b:Nat} {a0 a1 a2 a3:Value} {t:TypeId} (h:w.heap[b]? =some (.cells #[a0,a1,a2,a3] t (0,0))) (o:Nat):w.frozen? ⟨b,o,none⟩=false:=by
 simp[World.frozen?,h]
theorem fF {w w':World} {g base:Nat} {e:TypeId} {E:Nat} {v:Value} {n:Nat} {xs:List Value} (h:w.ownsRow base e E v n xs) (hb:∀b,b≠g→w'.heap[b]? =w.heap[b]?) (hv:v.ownBlock≠some g):w'.ownsRow base e E v n xs:=by
 obtain⟨h1,h2⟩:=h
 refine⟨h1,?_⟩
 rcases h2 with h2 | ⟨q,cap,cur,rfl,hg,hh,r⟩
 ·exact .inl h2
 ·exact .inr ⟨q,cap,cur,rfl,hg,by rw[hb q (fun e=>hv (by rw[e];rfl))];exact hh,r⟩
theorem jW {w:World} {g base:Nat} {e e':TypeId} {E:Nat} {v:Value} {n:Nat} {xs:List Value} {cur:Array Value} {z:Nat×Nat} (h:w.ownsRow base e E v n xs) (hg:w.heap[g]? =some (.cells cur e' z)) (hne:e≠e'):v.ownBlock≠some g:=by
 obtain⟨h1,h2⟩:=h
 rcases h2 with⟨rfl,_⟩ | ⟨q,cap,cu,rfl,_,hh,r⟩
 ·intro h;cases h
 ·intro h
  injection h with h
  simp only at h
  subst h
  rw[hg]at hh
  injection hh with hh
  injection hh with _ hh _
  exact hne hh.symm
theorem iC.ne {w w':World} {g C:Nat} {x:bV} {l:Ls} (h:iC w C x l) (hb:∀b,b≠g→w'.heap[b]? =w.heap[b]?) (hg:g<C):iC w' C x l:=by
 refine⟨h.dev,h.epoch,h.bY,h.last,fF h.s hb ?_,fF h.i hb ?_,fF h.u hb ?_⟩
 ·intro e;have:=bK h.s _ e;omega
 ·intro e;have:=bK h.i _ e;omega
 ·intro e;have:=bK h.u _ e;omega
theorem Cm (l:List bV) (k:Nat) (hk:k<l.length) (y:bV):
  ((((((((aK iZ l).set (k*7) (.int .i64 y.dev)).set (k*7+1) (.int .i64 y.epoch)).set (k*7+2) (.int .i64 y.bY)).set (k*7+3) (.int .i64 y.last)).set (k*7+4) y.s.v).set (k*7+5) y.i.v).set (k*7+6) y.u.v)=aK iZ (l.set k y):=by
 induction l generalizing k with
 | nil=>simp at hk
 | cons x l ih=>
  cases k with
  | zero=>simp[aU,iZ]
  | succ k=>
   have e0:(k+1)*7=k*7+7:=by omega
   rw[List.set_cons_succ,aU,aU,←ih k (by simpa using hk)]
   simp only[e0]
   simp[iZ]
theorem lq (w:World) (b c:Nat) (h:c≠b) (k:Nat) (x0 x1 x2 x3 x4 x5 x6:Value):
  (((((((w.setCell ⟨b,k,none⟩ x0).setCell ⟨b,k+1,none⟩ x1).setCell ⟨b,k+2,none⟩ x2).setCell ⟨b,k+3,none⟩ x3).setCell ⟨b,k+4,none⟩ x4).setCell ⟨b,k+5,none⟩ x5).setCell ⟨b,k+6,none⟩ x6).heap[c]? =w.heap[c]? :=by
 have h':¬b=c:=fun e=>h e.symm
 simp[World.setCell,Array.getElem?_modify,h']
theorem tN {w:World} {base:Nat} {e:TypeId} {g n cap:Nat} {l:List bV} (h:w.ownsRow base e 7 (.slice (some ⟨g,0,none⟩) n cap) n (aK iZ l)) (k:Nat) (hk:k<l.length) (y:bV):
  (((((((w.setCell ⟨g,k*7,none⟩ (.int .i64 y.dev)).setCell ⟨g,k*7+1,none⟩ (.int .i64 y.epoch)).setCell ⟨g,k*7+2,none⟩ (.int .i64 y.bY)).setCell ⟨g,k*7+3,none⟩ (.int .i64 y.last)).setCell ⟨g,k*7+4,none⟩ y.s.v).setCell ⟨g,k*7+5,none⟩ y.i.v).setCell ⟨g,k*7+6,none⟩ y.u.v).ownsRow base e 7 (.slice (some ⟨g,0,none⟩) n cap) n (aK iZ (l.set k y)):=by
 have hl:(aK iZ l).length=l.length*7:=bL iB l
 rw[←Cm l k hk y]
 refine dF (dF (dF (dF (dF (dF (dF h _ ?_ _) _ ?_ _) _ ?_ _) _ ?_ _) _ ?_ _) _ ?_ _) _ ?_ _
 all_goals simp only[List.length_set,hl];omega
def Qw (w:World) (b:Bk) (xs:List bV) (wx:World):Prop:=∃x:bZ,
 wx.heap[w.heap.size]? =some (.cells #[x.c.v,x.f.v,x.l.v,x.b.v] 30 (0,0))∧wx.heap[w.heap.size+1]? =some (.cells #[.slice none 0 0,.slice none 0 0,.slice none 0 0,.slice none 0 0] 30 (0,0))∧
 wx.ownsRow (w.heap.size+2) 54 7 x.c.v b.cs.length (aK jE b.cs)∧wx.ownsRow (w.heap.size+2) 56 2 x.f.v b.free.length (aR b.free)∧
 wx.ownsRow (w.heap.size+2) 48 7 x.l.v b.ls.length (aK iZ xs)∧wx.ownsRow (w.heap.size+2) 3 1 x.b.v b.bound.length (bM b.bound)∧
 Below w.heap.size w wx∧w.heap.size+1<wx.heap.size
structure yG (w:World) (C:Nat) (x:bZ) (b:Bk) (ys rest:List bV) (k:Nat) (wr:World):Prop where
 each:bI (iC wr C) ys (b.ls.take k)
 rl:wr.ownsRow (w.heap.size+2) 48 7 x.l.v b.ls.length (aK iZ (ys++rest))
 rc:wr.ownsRow (w.heap.size+2) 54 7 x.c.v b.cs.length (aK jE b.cs)
 rf:wr.ownsRow (w.heap.size+2) 56 2 x.f.v b.free.length (aR b.free)
 rb:wr.ownsRow (w.heap.size+2) 3 1 x.b.v b.bound.length (bM b.bound)
 k1:wr.heap[w.heap.size]? =some (.cells #[x.c.v,x.f.v,x.l.v,x.b.v] 30 (0,0))
 k2:wr.heap[w.heap.size+1]? =some (.cells #[.slice none 0 0,.slice none 0 0,.slice none 0 0,.slice none 0 0] 30 (0,0))
 aZ:Below w.heap.size w wr
 big:C≤wr.heap.size
theorem yG.keep {w wr w':World} {C k:Nat} {x:bZ} {b:Bk} {ys rest:List bV} (h:yG w C x b ys rest k wr) (hb:Below wr.heap.size wr w') (hz:w.heap.size+1<wr.heap.size):yG w C x b ys rest k w':=
 ⟨h.each.imp (fun _ _ r=>r.keep hb (aC _)),aJ h.rl hb (aC _),aJ h.rc hb (aC _),aJ h.rf hb (aC _),aJ h.rb hb (aC _),
  aj h.k1 hb (by omega),aj h.k2 hb hz,h.aZ.trans (hb.mono h.aZ.size),Nat.le_trans h.big hb.size⟩
theorem yG.step {w wr:World} {C k g n cap:Nat} {x:bZ} {b:Bk} {ys rest:List bV} {z y:bV} (h:yG w C x b ys (z::rest) k wr) (hk:k<b.ls.length) (hx:x.l=⟨some ⟨g,0,none⟩,n,cap⟩) (hn:n=b.ls.length) (hy:iC wr C y b.ls[k]) (hg:g<C) (_hC:w.heap.size+2≤C):
  yG w C x b (ys++ [y]) rest (k+1) (((((((wr.setCell ⟨g,k*7,none⟩ (.int .i64 y.dev)).setCell ⟨g,k*7+1,none⟩ (.int .i64 y.epoch)).setCell ⟨g,k*7+2,none⟩ (.int .i64 y.bY)).setCell ⟨g,k*7+3,none⟩ (.int .i64 y.last)).setCell ⟨g,k*7+4,none⟩ y.s.v).setCell ⟨g,k*7+5,none⟩ y.i.v).setCell ⟨g,k*7+6,none⟩ y.u.v):=by
 have hlen:=h.each.len
 rw[List.length_take]at hlen
 have hlk:ys.length=k:=by omega
 have hrow:=h.rl
 rw[hx]at hrow
 simp only[Sv.v]at hrow
 subst hn
 have YP:=bq hrow
 have hgh:∃cur,wr.heap[g]? =some (.cells cur 48 (0,0)):=by
  obtain⟨_,hv⟩:=hrow
  rcases hv with⟨hv,_⟩ | ⟨q,cp,cur,hv,_,hh,_⟩
  ·cases hv
  ·injection hv with hv
   injection hv with hv
   injection hv with hv
   subst hv
   exact⟨cur,hh⟩
 obtain⟨cur,hgh⟩:=hgh
 have hoth:=fun c (hc:c≠g)=>lq wr g c hc (k*7) (.int .i64 y.dev) (.int .i64 y.epoch) (.int .i64 y.bY) (.int .i64 y.last) y.s.v y.i.v y.u.v
 have hset:=tN hrow k (by rw[List.length_append];simp;omega) y
 have e:(ys++z::rest).set k y=ys++ [y]++rest:=by
  rw[List.set_append,if_neg (by omega),hlk,Nat.sub_self];simp
 rw[e]at hset
 have hp:=h.aZ.size
 refine⟨?_,by rw[hx];exact hset,fF h.rc hoth (jW h.rc hgh (by decide)),fF h.rf hoth (jW h.rf hgh (by decide)),fF h.rb hoth (jW h.rb hgh (by decide)),?_,?_,?_,?_⟩
 ·rw[aV b.ls k hk]
  exact bI.append (h.each.imp (fun _ _ r=>r.ne hoth hg)) ⟨hy.ne hoth hg,trivial⟩
 ·rw[hoth _ (by have:=YP.1;omega)];exact h.k1
 ·rw[hoth _ (by have:=YP.1;omega)];exact h.k2
 ·have hB:w.heap.size≤g:=by have:=YP.1;omega
  exact((((((h.aZ.setCell hB _).setCell hB _).setCell hB _).setCell hB _).setCell hB _).setCell hB _).setCell hB _
 ·simpa[World.setCell]using h.big
theorem yG.cells {w wr:World} {C k g n cap:Nat} {x:bZ} {b:Bk} {ys rest:List bV} {z:bV} (h:yG w C x b ys (z::rest) k wr) (hk:k<b.ls.length) (hx:x.l=⟨some ⟨g,0,none⟩,n,cap⟩) (hn:n=b.ls.length):
  (wr.cell? ⟨g,k*7,none⟩=some (.int .i64 z.dev)∧wr.cell? ⟨g,k*7+1,none⟩=some (.int .i64 z.epoch)∧wr.cell? ⟨g,k*7+2,none⟩=some (.int .i64 z.bY)∧wr.cell? ⟨g,k*7+3,none⟩=some (.int .i64 z.last)∧wr.cell? ⟨g,k*7+4,none⟩=some z.s.v∧wr.cell? ⟨g,k*7+5,none⟩=some z.i.v∧wr.cell? ⟨g,k*7+6,none⟩=some z.u.v)∧(∀o,wr.frozen? ⟨g,o,none⟩=false)∧g<wr.heap.size∧w.heap.size+2≤g∧b.ls.length≤cap∧cap≤9223372036854775807:=by
 have hlen:=h.each.len
 rw[List.length_take]at hlen
 have hlk:ys.length=k:=by omega
 have hrow:=h.rl
 rw[hx]at hrow
 simp only[Sv.v]at hrow
 subst hn
 obtain⟨p1,p2,p3,p4,p5,p6,p7⟩:=bq hrow
 have hat:∀j u,j<7→(iZ z)[j]? =some u→wr.cell? ⟨g,k*7+j,none⟩=some u:=fun j u hj hu=>p7 _ _ (by
  rw[bP iB _ k (by rw[List.length_append];simp;omega) j hj]
  have:(ys++z::rest)[k]'(by rw[List.length_append];simp;omega)=z:=by
   rw[List.getElem_append_right (by omega)]
   simp[hlk]
  rw[this];exact hu)
 exact⟨⟨hat 0 _ (by omega) rfl,hat 1 _ (by omega) rfl,hat 2 _ (by omega) rfl,hat 3 _ (by omega) rfl,hat 4 _ (by omega) rfl,hat 5 _ (by omega) rfl,hat 6 _ (by omega) rfl⟩,p6,p2,p1,p3,p4⟩
def O7 (w:World) (b:Bk) (e:Ending) (w':World):Prop:=∃ (x':bZ) (xs':List bV) (C:Nat),e= .returned (fT x')∧pX w' w.heap.size C x' b xs'∧w.heap.size≤C∧Below w.heap.size w w'
set_option maxRecDepth 100000 in
set_option maxHeartbeats 8000000 in
theorem h_ (x:bZ) (b:Bk) (w:World) (h:eD w x b) (hl:zN b):
  Calls Tryz.prog 65 #[fT x] w (O7 w b):=by
 obtain⟨⟨ca,cn,cc⟩,⟨fa,aX,fc⟩,⟨la,ln,lc⟩,⟨ba,b_n,bc⟩⟩:=x
 obtain⟨a1,a2,a3,a4⟩:=b
 obtain⟨hc,hf,⟨xs,hx,hxa⟩,hu⟩:=h
 obtain⟨g1,g2,g3,g4,g5⟩:=hl
 have hlx:=hxa.len
 simp only at hc hf hx hu g1 g2 g3 g4 g5 hlx hxa
 have JR:=ah hlx
 have ad7:xs.length<1000000:=by omega
 clear hlx
 have hb1:Below w.heap.size w ((w.alloc (.cells #[.slice ca cn cc,.slice fa aX fc,.slice la ln lc,.slice ba b_n bc] 30)).alloc (.cells #[.slice none 0 0,.slice none 0 0,.slice none 0 0,.slice none 0 0] 30)):=((aL _ _).alloc (aC _) _).alloc (by simp) _
 have k1:=bJ w (.cells #[.slice ca cn cc,.slice fa aX fc,.slice la ln lc,.slice ba b_n bc] 30) (.cells #[.slice none 0 0,.slice none 0 0,.slice none 0 0,.slice none 0 0] 30)
 have k2:=bE w (.cells #[.slice ca cn cc,.slice fa aX fc,.slice la ln lc,.slice ba b_n bc] 30) (.cells #[.slice none 0 0,.slice none 0 0,.slice none 0 0,.slice none 0 0] 30)
 have hz2:w.heap.size+1<((w.alloc (.cells #[.slice ca cn cc,.slice fa aX fc,.slice la ln lc,.slice ba b_n bc] 30)).alloc (.cells #[.slice none 0 0,.slice none 0 0,.slice none 0 0,.slice none 0 0] 30)).heap.size:=by simp
 have gF:=ah k1
 have fJ:=ah k2
 clear k1 k2
 change Calls Tryz.prog _ #[.agg #[.slice ca cn cc,.slice fa aX fc,.slice la ln lc,.slice ba b_n bc]] w _
 go_enter Tryz.func65,Tryz.ntmps65
 go_upto_region 1 with fail
 generalize (w.alloc (.cells #[.slice ca cn cc,.slice fa aX fc,.slice la ln lc,.slice ba b_n bc] 30)).alloc (.cells #[.slice none 0 0,.slice none 0 0,.slice none 0 0,.slice none 0 0] 30)=w2 at*
 have hc2:=cK.keep hc hb1 (aC _)
 have hf2:=fq.keep hf hb1 (aC _)
 have hx2:=cK.keep hx hb1 (aC _)
 have hu2:=iW.keep hu hb1 (aC _)
 clear hc hf hx hu
 go_cut[] (fun wx=>Qw w ⟨a1,a2,a3,a4⟩ xs wx)
 case first=>
  refine aS 13 (fun w'=>Below w2.heap.size w2 w') (by kernel_rfl) ?_
  refine aD (i:=0) (v:=.pointer (some ⟨w.heap.size,0,none⟩)) rfl rfl (by kernel_rfl) (by kernel_rfl) (by kernel_rfl) (by kernel_rfl) (by kernel_rfl) (by decide) (fun _ _ _ h=>h) (.inl ⟨rfl,fun w' hw=>?_⟩) (aL _ _).drew ?_
  ·go_simp
  refine aD (i:=1) (v:=.slice ca cn cc) rfl rfl (by kernel_rfl) (by kernel_rfl) (by kernel_rfl) (by kernel_rfl) (by kernel_rfl) (by decide) (fun _ _ _ h=>h) (.inl ⟨rfl,fun w' hw=>?_⟩) (aL _ _).drew ?_
  ·obtain⟨c0,c1,c2,c3,_⟩:=ay (aj gF.out hw (by omega))
   go_simp
  refine aD (i:=3) (v:=.pointer (some ⟨w.heap.size,1,none⟩)) rfl rfl (by kernel_rfl) (by kernel_rfl) (by kernel_rfl) (by kernel_rfl) (by kernel_rfl) (by decide) (fun _ _ _ h=>h) (.inl ⟨rfl,fun w' hw=>?_⟩) (aL _ _).drew ?_
  ·go_simp
  refine aD (i:=4) (v:=.slice fa aX fc) rfl rfl (by kernel_rfl) (by kernel_rfl) (by kernel_rfl) (by kernel_rfl) (by kernel_rfl) (by decide) (fun _ _ _ h=>h) (.inl ⟨rfl,fun w' hw=>?_⟩) (aL _ _).drew ?_
  ·obtain⟨c0,c1,c2,c3,_⟩:=ay (aj gF.out hw (by omega))
   go_simp
  refine aD (i:=6) (v:=.pointer (some ⟨w.heap.size,2,none⟩)) rfl rfl (by kernel_rfl) (by kernel_rfl) (by kernel_rfl) (by kernel_rfl) (by kernel_rfl) (by decide) (fun _ _ _ h=>h) (.inl ⟨rfl,fun w' hw=>?_⟩) (aL _ _).drew ?_
  ·go_simp
  refine aD (i:=7) (v:=.slice la ln lc) rfl rfl (by kernel_rfl) (by kernel_rfl) (by kernel_rfl) (by kernel_rfl) (by kernel_rfl) (by decide) (fun _ _ _ h=>h) (.inl ⟨rfl,fun w' hw=>?_⟩) (aL _ _).drew ?_
  ·obtain⟨c0,c1,c2,c3,_⟩:=ay (aj gF.out hw (by omega))
   go_simp
  refine aD (i:=9) (v:=.pointer (some ⟨w.heap.size,3,none⟩)) rfl rfl (by kernel_rfl) (by kernel_rfl) (by kernel_rfl) (by kernel_rfl) (by kernel_rfl) (by decide) (fun _ _ _ h=>h) (.inl ⟨rfl,fun w' hw=>?_⟩) (aL _ _).drew ?_
  ·go_simp
  refine aD (i:=10) (v:=.slice ba b_n bc) rfl rfl (by kernel_rfl) (by kernel_rfl) (by kernel_rfl) (by kernel_rfl) (by kernel_rfl) (by decide) (fun _ _ _ h=>h) (.inl ⟨rfl,fun w' hw=>?_⟩) (aL _ _).drew ?_
  ·obtain⟨c0,c1,c2,c3,_⟩:=ay (aj gF.out hw (by omega))
   go_simp
  refine aF (i:=2) (by kernel_rfl) rfl rfl ?_
  go_simp
  refine(Ci _ a1 _ (cK.keep hc2 (aL _ _).drew (aC _)) (by omega)).mono ?_
  rintro e w3 ⟨v3,rfl,ho3,hb3⟩
  have qx:Below w2.heap.size w2 w3:=(aL w2.heap.size w2).drew.trans hb3
  refine⟨qx,?_⟩
  refine aD (i:=12) (v:=.pointer (some ⟨w.heap.size,0,none⟩)) rfl rfl (by kernel_rfl) (by kernel_rfl) (by kernel_rfl) (by kernel_rfl) (by kernel_rfl) (by decide) (fun _ _ _ h=>h) (.inl ⟨rfl,fun w' hw=>?_⟩) qx ?_
  ·go_simp
  refine aF (i:=5) (by kernel_rfl) rfl rfl ?_
  go_simp
  refine(uH _ a2 _ (fq.keep hf2 qx (aC _)) (by omega)).mono ?_
  rintro e w4 ⟨v4,rfl,iD,hb4⟩
  have iX:Below w2.heap.size w2 w4:=qx.trans (hb4.mono qx.size)
  refine⟨iX,?_⟩
  refine aF (i:=8) (by kernel_rfl) rfl rfl ?_
  go_simp
  refine(Ck _ xs _ (cK.keep hx2 iX (aC _)) (by omega)).mono ?_
  rintro e w5 ⟨v5,rfl,fQ,hb5⟩
  have nL:Below w2.heap.size w2 w5:=iX.trans (hb5.mono iX.size)
  refine⟨nL,?_⟩
  refine aF (i:=11) (by kernel_rfl) rfl rfl ?_
  go_simp
  refine(uG _ a4 _ (iW.keep hu2 nL (aC _)) (by omega)).mono ?_
  rintro e w6 ⟨v6,rfl,qO,hb6⟩
  have H_:Below w2.heap.size w2 w6:=nL.trans (hb6.mono nL.size)
  refine⟨H_,?_⟩
  have hz3:=qx.size
  have jT:=iX.size
  have XW:=nL.size
  have Tj:=H_.size
  have hk5:=aj gF.out H_ (by omega)
  obtain⟨c0,c1,c2,c3,_⟩:=ay hk5
  have f0:=aA hk5 0
  have f1:=aA hk5 1
  have f2:=aA hk5 2
  have f3:=aA hk5 3
  have o3:=aO (base':=w.heap.size+2) (aJ (aJ (aJ ho3 hb4 (aC _)) hb5 (aC _)) hb6 (aC _)) (by show _≤w2.heap.size;omega)
  have o4:=aO (base':=w.heap.size+2) (aJ (aJ iD hb5 (aC _)) hb6 (aC _)) (by omega)
  have o5:=aO (base':=w.heap.size+2) (aJ fQ hb6 (aC _)) (by omega)
  have o6:=aO (base':=w.heap.size+2) qO (by omega)
  rw[JR.out]at o5
  have F6:=ah hk5
  have vv:=ah (aj fJ.out H_ hz2)
  obtain⟨Ut,YM,rfl,_,_⟩:=aP o3
  obtain⟨YN,YO,rfl,_,_⟩:=aP o4
  obtain⟨nZ,yF,rfl,_,_⟩:=aP o5
  obtain⟨F7,Qx,rfl,_,_⟩:=aP o6
  have hbw:Below w.heap.size w w6:=hb1.trans (H_.mono hb1.size)
  clear hk5 ho3 iD fQ qO hb3 hb4 hb5 hb6 qx iX nL H_ hc2 hf2 hx2 hu2
  refine aF (i:=13) (by kernel_rfl) rfl rfl ?_
  go_simp
  refine aF (i:=14) (by kernel_rfl) rfl rfl ?_
  go_simp
  refine aF (i:=15) (by kernel_rfl) rfl rfl ?_
  go_simp
  refine aF (i:=16) (by kernel_rfl) rfl rfl ?_
  go_simp
  refine aF (i:=17) (by kernel_rfl) rfl rfl ?_
  go_simp
  refine aF (i:=18) (by kernel_rfl) rfl rfl ?_
  go_simp
  refine aF (i:=19) (by kernel_rfl) rfl rfl ?_
  go_simp
  refine aT (by kernel_rfl) ?_
  go_wp2
  go_meet
  have hp:w.heap.size<w.heap.size+2:=by omega
  refine⟨⟨⟨Ut,_,YM⟩,⟨YN,_,YO⟩,⟨nZ,_,yF⟩,⟨F7,_,Qx⟩⟩,gq F6.out _ _ _ _,?_,?_,?_,?_,?_,?_,?_⟩
  ·rw[bF _ _ _ (by omega)];exact vv.out
  ·exact aM (aM (aM (aM o3 _ hp _) _ hp _) _ hp _) _ hp _
  ·exact aM (aM (aM (aM o4 _ hp _) _ hp _) _ hp _) _ hp _
  ·exact aM (aM (aM (aM o5 _ hp _) _ hp _) _ hp _) _ hp _
  ·exact aM (aM (aM (aM o6 _ hp _) _ hp _) _ hp _) _ hp _
  ·exact(((hbw.setCell (by simp) _).setCell (by simp) _).setCell (by simp) _).setCell (by simp) _
  ·simp[World.setCell];omega
 case rest=>
 obtain⟨⟨⟨Tk,Tm,Tp⟩,⟨fa2,Tq,Tt⟩,⟨Qy,ln2,O8⟩,⟨Tv,Tw,bc2⟩⟩,hk1,hk2,oc,XY,ol,ob,hbw,hz⟩:=hcut
 simp only[Sv.v]at hk1 hk2 oc XY ol ob
 obtain⟨hln,zO,hlm⟩:=Sl.lens (s:=⟨Qy,ln2,O8⟩) (aI ol)
 simp only at hln zO hlm
 subst hln
 have qZ:=ah hk1
 have BH:=ah hk2
 have HOC:=ah oc
 have HOF:=ah XY
 have HOL:=ah ol
 have HOB:=ah ob
 have q_:=ah hxa
 obtain⟨C,hC⟩:∃C,C=wc.heap.size:=⟨_,rfl⟩
 have YQ:=ah hC
 have hzC:w.heap.size+1<C:=by omega
 have JU:Hid ((∀g,(Value.slice Tk Tm Tp).ownBlock=some g→g<C)∧(∀g,(Value.slice fa2 Tq Tt).ownBlock=some g→g<C)∧(∀g,(Value.slice Qy a3.length O8).ownBlock=some g→g<C)∧(∀g,(Value.slice Tv Tw bc2).ownBlock=some g→g<C)):=by
  subst hC
  exact⟨fun g hg=>(oc.lt g hg).2,fun g hg=>(XY.lt g hg).2,fun g hg=>(ol.lt g hg).2,fun g hg=>(ob.lt g hg).2⟩
 clear hC
 obtain⟨c0,c1,c2,c3,_⟩:=ay hk1
 clear hk1 hk2 oc XY ol ob hxa gF fJ hc2 hf2 hx2 hu2 c0 c1 c3
 go_upto_block 0 with fail
 go_cut[24] (fun _ wx=>∃ys,yG w C ⟨⟨Tk,Tm,Tp⟩,⟨fa2,Tq,Tt⟩,⟨Qy,a3.length,O8⟩,⟨Tv,Tw,bc2⟩⟩ ⟨a1,a2,a3,a4⟩ ys [] a3.length wx)
 case first=>
  go_wp2
  go_loopw[24] (fun vi wr=>∃ (k:Nat) (ys:List bV),k≤a3.length∧vi= .int .i64 k∧yG w C ⟨⟨Tk,Tm,Tp⟩,⟨fa2,Tq,Tt⟩,⟨Qy,a3.length,O8⟩,⟨Tv,Tw,bc2⟩⟩ ⟨a1,a2,a3,a4⟩ ys (xs.drop k) k wr) (fun vi _=>a3.length-(intOf vi).toNat)
  case atStart=>exact⟨0,[],Nat.zero_le _,rfl,⟨trivial,HOL.out,HOC.out,HOF.out,HOB.out,qZ.out,BH.out,hbw,by rw[YQ.out];exact aC _⟩⟩
  case round=>
   obtain⟨k,ys,hk,rfl,hO⟩:=hrel
   rcases Nat.lt_or_ge k a3.length with hlt | hge
   ·have hltx:k<xs.length:=by rw[JR.out];exact hlt
    rw[List.drop_eq_getElem_cons hltx]at hO
    obtain⟨g,cap,he⟩:=fu hO.rl (by show 0<a3.length;omega)
    injection he with he1 _ he2
    subst he1 he2
    have XZ:=JU.out.2.2.1 g rfl
    have HO:=ah hO
    obtain⟨⟨c0,c1,c2,c3,c4,c5,c6⟩,_,hg1,hg2,hcap,hcm⟩:=hO.cells hlt rfl rfl
    have hM:=bI.at q_.out k hltx hlt
    have HM:=ah (hM.keep hO.aZ (aC _))
    have O9:=ah (g5 a3[k] (List.getElem_mem hlt))
    have iG:(k:Int)<a3.length:=by omega
    have lX:w.heap.size+1<wr.heap.size:=by have:=hO.big;omega
    clear hM hO
    generalize xs[k]=z at*
    obtain⟨z1,z2,z3,z4,⟨z5,z6,z7⟩,⟨z8,z9,dD⟩,⟨dI,z12,dJ⟩⟩:=z
    simp only[Sv.v]at c0 c1 c2 c3 c4 c5 c6
    go_upto_region 5 with fail
    clear c0 c1 c2 c3 c4 c5 c6
    have dK:Below wr.heap.size wr (wr.alloc (.cells #[.int .i64 z1,.int .i64 z2,.int .i64 z3,.int .i64 z4,.slice z5 z6 z7,.slice z8 z9 dD,.slice dI z12 dJ] 48)):=(aL _ _).alloc (aC _) _
    have hnew:=heap_alloc_new wr (.cells #[.int .i64 z1,.int .i64 z2,.int .i64 z3,.int .i64 z4,.slice z5 z6 z7,.slice z8 z9 dD,.slice dI z12 dJ] 48)
    have wK:wr.heap.size<(wr.alloc (.cells #[.int .i64 z1,.int .i64 z2,.int .i64 z3,.int .i64 z4,.slice z5 z6 z7,.slice z8 z9 dD,.slice dI z12 dJ] 48)).heap.size:=by simp
    have hOA:=HO.out.keep dK lX
    have hMA:=HM.out.keep dK (aC _)
    have qy:=ah hnew
    have O_:=ah hOA
    clear hnew hOA HO HM
    generalize wr.alloc (.cells #[.int .i64 z1,.int .i64 z2,.int .i64 z3,.int .i64 z4,.slice z5 z6 z7,.slice z8 z9 dD,.slice dI z12 dJ] 48)=w7 at*
    refine aS 6 (fun w'=>Below w7.heap.size w7 w') (by kernel_rfl) ?_
    refine aD (i:=0) (v:=.pointer (some ⟨w.heap.size,2,none⟩)) rfl rfl (by kernel_rfl) (by kernel_rfl) (by kernel_rfl) (by kernel_rfl) (by kernel_rfl) (by decide) (fun _ _ _ h=>h) (.inl ⟨rfl,fun w' hw=>?_⟩) (aL _ _).drew ?_
    ·go_simp
    refine aD (i:=1) (v:=.slice (some ⟨g,0,none⟩) a3.length O8) rfl rfl (by kernel_rfl) (by kernel_rfl) (by kernel_rfl) (by kernel_rfl) (by kernel_rfl) (by decide) (fun _ _ _ h=>h) (.inl ⟨rfl,fun w' hw=>?_⟩) (aL _ _).drew ?_
    ·obtain⟨_,_,c2,_,_⟩:=ay (aj O_.out.k1 hw (by omega))
     go_simp
    refine aD (i:=2) (v:=.int .i64 k) rfl rfl (by kernel_rfl) (by kernel_rfl) (by kernel_rfl) (by kernel_rfl) (by kernel_rfl) (by decide) (fun _ _ _ h=>h) (.inl ⟨rfl,fun w' hw=>?_⟩) (aL _ _).drew ?_
    ·go_simp
    refine aD (i:=3) (v:=.agg #[.int .i64 z1,.int .i64 z2,.int .i64 z3,.int .i64 z4,.slice z5 z6 z7,.slice z8 z9 dD,.slice dI z12 dJ]) rfl rfl (by kernel_rfl) (by kernel_rfl) (by kernel_rfl) (by kernel_rfl) (by kernel_rfl) (by decide) (fun _ _ _ h=>h) (.inl ⟨rfl,fun w' hw=>?_⟩) (aL _ _).drew ?_
    ·obtain⟨c0,c1,c2,c3,c4,c5,c6,_⟩:=aB (aj qy.out hw wK)
     go_simp
    refine aF (i:=4) (by kernel_rfl) rfl rfl ?_
    go_simp
    refine(dZ ⟨z1,z2,z3,z4,⟨z5,z6,z7⟩,⟨z8,z9,dD⟩,⟨dI,z12,dJ⟩⟩ a3[k] _ (hMA.keep (aL _ _).drew (aC _)) O9.out).mono ?_
    rintro e w8 ⟨y,rfl,hy,nE⟩
    have lQ:Below w7.heap.size w7 w8:=(aL w7.heap.size w7).drew.trans nE
    have YR:=O_.out.keep lQ (by omega)
    refine⟨lQ,?_⟩
    obtain⟨⟨c0,c1,c2,c3,c4,c5,c6⟩,hfz,_,_,_,_⟩:=YR.cells hlt rfl rfl
    have f0:=hfz (k*7)
    have f1:=hfz (k*7+1)
    have f2:=hfz (k*7+2)
    have f3:=hfz (k*7+3)
    have f4:=hfz (k*7+4)
    have f5:=hfz (k*7+5)
    have f6:=hfz (k*7+6)
    have hy2:iC w8 C y a3[k]:=⟨hy.dev,hy.epoch,hy.bY,hy.last,aO hy.s (by have:=O_.out.big;exact this),aO hy.i (by have:=O_.out.big;exact this),aO hy.u (by have:=O_.out.big;exact this)⟩
    have HST:=ah (YR.step hlt rfl rfl hy2 XZ (by omega))
    clear hfz YR hy hy2 hMA
    obtain⟨y1,y2,y3,y4,⟨y5,y6,y7⟩,⟨y8,y9,bW⟩,⟨bX,cB,y13⟩⟩:=y
    simp only[Sv.v]at c4 c5 c6
    refine aF (i:=5) (by kernel_rfl) rfl rfl ?_
    go_simp
    refine aF (i:=6) (by kernel_rfl) rfl rfl ?_
    go_simp
    refine aT (by kernel_rfl) ?_
    go_wp2
    go_roundw
    case rel=>exact⟨k+1,_,by omega,by go_num,HST.out⟩
    case measure=>simp[intOf];omega
   ·have hk2:k=a3.length:=by omega
    subst hk2
    rw[List.drop_of_length_le (by rw[JR.out];omega)]at hO
    have HO:=ah hO
    clear hO
    go_wp2
    go_meet
    exact⟨ys,HO.out⟩
 case rest=>
 obtain⟨ys,hO⟩:=hcut
 obtain⟨c0,c1,c2,c3,_⟩:=ay hO.k1
 obtain⟨d0,d1,d2,d3,_⟩:=ay hO.k2
 have f0:=aA hO.k2 0
 have f1:=aA hO.k2 1
 have f2:=aA hO.k2 2
 have f3:=aA hO.k2 3
 simp only[Sv.v]at c0 c1 c2 c3
 have HO:=ah hO
 have hbz:w.heap.size+1<w.heap.size+2:=by omega
 clear hO
 go_wp2
 refine bodyPost_ret (v:=.agg #[.slice Tk Tm Tp,.slice fa2 Tq Tt,.slice Qy a3.length O8,.slice Tv Tw bc2]) (by simp[results,Tryz.results65,go_sem, *]) rfl ⟨⟨⟨Tk,Tm,Tp⟩,⟨fa2,Tq,Tt⟩,⟨Qy,a3.length,O8⟩,⟨Tv,Tw,bc2⟩⟩,ys,C,rfl,?_,by omega,?_⟩
 ·have hO:=HO.out
  have hev:=hO.each
  rw[List.take_of_length_le (aC _)]at hev
  have hrl:=hO.rl
  rw[List.append_nil]at hrl
  have hoth:=fun c (hc:c≠w.heap.size+1)=>bF wc (w.heap.size+1) c (fun e=>hc e.symm) (.slice Tk Tm Tp) (.slice fa2 Tq Tt) (.slice Qy a3.length O8) (.slice Tv Tw bc2) 0 1 2 3
  exact⟨aO (aM (aM (aM (aM hO.rc _ hbz _) _ hbz _) _ hbz _) _ hbz _) (by omega),aO (aM (aM (aM (aM hO.rf _ hbz _) _ hbz _) _ hbz _) _ hbz _) (by omega),aO (aM (aM (aM (aM hrl _ hbz _) _ hbz _) _ hbz _) _ hbz _) (by omega),aO (aM (aM (aM (aM hO.rb _ hbz _) _ hbz _) _ hbz _) _ hbz _) (by omega),JU.out.1,JU.out.2.1,JU.out.2.2.1,JU.out.2.2.2,hev.imp (fun _ _ r=>r.ne hoth (by omega))⟩
 ·have hO:=HO.out
  exact(((hO.aZ.setCell (by simp) _).setCell (by simp) _).setCell (by simp) _).setCell (by simp) _
end Go.Proofs.YtlfopoimbbpfdaaGreat
namespace Go.Proofs.YtlfopoimbbpfdaaGreat
open Go.RowKit
def eU:List Rg→Rg→List Rg
 | [],r=>[r]
 | x::t,r=>if x.1≤r.2 then eU t (min r.1 x.1,max r.2 x.2)else r::x::t
def gu:List Rg→Rg→List Rg
 | [],r=>[r]
 | x::t,r=>if x.2<r.1 then x::gu t r else eU (x::t) r
def gG (l:List Rg) (r:Rg):List Rg:=if r.1≥r.2∨r.1<0∨r.2>1073741824 then l else gu l r
theorem Ia (l:List Rg) (r:Rg) (k:Nat) (hk:k<l.length) (h:l[k].2<r.1):l.take k++gu (l.drop k) r=l.take (k+1)++gu (l.drop (k+1)) r:=by
 rw[aV l k hk,List.drop_eq_getElem_cons hk,gu,if_pos h,List.append_assoc];rfl
theorem Ev (l:List Rg) (r:Rg) (k:Nat) (hk:k<l.length) (h:¬l[k].2<r.1):gu (l.drop k) r=eU (l.drop k) r:=by
 rw[List.drop_eq_getElem_cons hk,gu,if_neg h]
theorem Cn (l:List Rg) (r:Rg) (k:Nat) (hk:k<l.length) (h:l[k].1≤r.2):eU (l.drop k) r=eU (l.drop (k+1)) (min r.1 l[k].1,max r.2 l[k].2):=by
 rw[List.drop_eq_getElem_cons hk,eU,if_pos h]
theorem Av (l:List Rg) (r:Rg) (k:Nat) (hk:k<l.length) (h:¬l[k].1≤r.2):eU (l.drop k) r=r::l.drop k:=by
 rw[List.drop_eq_getElem_cons hk,eU,if_neg h]
set_option maxHeartbeats 4000000 in
theorem Nz (v:Value) (l:List Rg) (p q:Int) (w:World) (h:fq w v l) (hl:l.length<1000000) (h0:p<q) (h1:0≤p) (h2:q≤1073741824):
  Calls Tryz.prog 64 #[v,.agg #[.int .i64 p,.int .i64 q]] w (oJ w 2 56 (gu l (p,q)).length (aR (gu l (p,q)))):=by
 obtain⟨ao,cap,rfl,hcap,hm⟩:=Sl.shape h
 obtain⟨iR,hiR,hz0,hz1,hz2⟩:=info_parts Tryz.wF
 have d0:decide (q≤p)=false:=by simpa using h0
 have d1:decide (p<0)=false:=by simpa using h1
 have d2:decide (1073741824<q)=false:=by simpa using h2
 go_enter Tryz.func64,Tryz.ntmps64
 go_upto_block 0 with fail
 go_cut[5,6] (fun vo ix wr=>∃k:Nat,k≤l.length∧ix= .int .i64 k∧wr.ownsRow (w.heap.size+1) 56 2 vo k (aR (l.take k))∧gu l (p,q)=l.take k++eU (l.drop k) (p,q)∧
  wr.heap[w.heap.size]? =some (.cells #[.int .i64 p,.int .i64 q] 56 (0,0))∧Below w.heap.size w wr)
 case first=>
  go_wp2
  go_loopw[5,6] (fun vo ix wr=>∃k:Nat,k≤l.length∧ix= .int .i64 k∧wr.ownsRow (w.heap.size+1) 56 2 vo k (aR (l.take k))∧gu l (p,q)=l.take k++gu (l.drop k) (p,q)∧
   wr.heap[w.heap.size]? =some (.cells #[.int .i64 p,.int .i64 q] 56 (0,0))∧Below w.heap.size w wr) (fun _ ix _=>l.length-(intOf ix).toNat)
  case atStart=>exact⟨0,Nat.zero_le _,rfl,World.ownsRow_nil _ _ _ _,rfl,heap_alloc_new w _,(aL _ _).alloc (aC _) _⟩
  case round=>
   obtain⟨k,hk,rfl,ho,ha,hrb,hb⟩:=hrel
   have HA:=ah ha
   clear ha
   obtain⟨c0,c1,f0,f1,hbs⟩:=eP hrb
   have HB:=ah hrb
   clear hrb
   rcases Nat.lt_or_ge k l.length with hlt | hge
   ·obtain⟨b,off,rfl,hbl,hc1,hc2⟩:=h.pair hb (aC _) k hlt
    have HS:=ah (aV l k hlt)
    have HD:=ah (Ia l (p,q) k hlt)
    have Uu:=ah (Ev l (p,q) k hlt)
    generalize l[k]=r at*
    obtain⟨x,y⟩:=r
    simp only at hc1 hc2
    by_cases hx:y<p
    ·go_wp2
     go_quiet (fail)
     go_wp2_with (((with_reducible refine aY 46 ?_);refine Cc (o:=⟨some 46,_,_,_,_,_⟩) rfl _ _ rfl (w.heap.size+1) _ k (l.take k) rfl ((fC ho nq).alloc _) _ _ x y rfl (g_ _ _ _ _) (by omega) (by simp;omega) ?_))
     intro v' w1 ho1 hg1
     have hb1:Below w.heap.size w w1:=((below_drewN hb nq).alloc (by simp;omega) _).grown hg1 (by simp;omega) (fun g hg=>by have:=bK ho g hg;omega)
     have hr1:=(gQ hg1 (b:=w.heap.size) (B:=w.heap.size+1) (by simp;omega) (by omega) (bK ho)).trans ((Below.heap_alloc _ _ _ (by simp;omega)).trans HB.out)
     clear hg1
     go_wp2
     go_roundw
     case rel=>exact⟨k+1,by omega,by go_num,by rw[HS.out];exact ho1,by rw[HA.out];exact HD.out hx,hr1,hb1⟩
     case measure=>simp[intOf];omega
    ·have dx:decide (y<p)=false:=by simpa using hx
     have HM:Hid (gu l (p,q)=l.take k++eU (l.drop k) (p,q)):=by show _=_;rw[HA.out,Uu.out hx]
     clear hx HD Uu HA
     go_wp2
     go_quiet (fail)
     go_wp2_with fail
     go_meet
     exact⟨k,hk,rfl,fC ho _,HM.out,HB.out,below_drewN hb _⟩
   ·have dx:decide (k<l.length)=false:=by simpa using hge
    have HM:Hid (gu l (p,q)=l.take k++eU (l.drop k) (p,q)):=by show _=_;rw[HA.out,List.drop_eq_nil_of_le hge];rfl
    clear HA
    go_wp2
    go_quiet (fail)
    go_wp2_with fail
    go_meet
    exact⟨k,hk,rfl,fC ho _,HM.out,HB.out,below_drewN hb _⟩
 case rest=>
  obtain⟨k,hk,rfl,ho,ha,hrb,hb⟩:=hcut
  obtain⟨nZ,cap5,rfl,hcap5,X0⟩:=Sl.shape (aI ho)
  have HA:=ah ha
  have MX:=ah hrb
  clear ha hrb
  go_upto_block 2 with fail
  go_cut[6] (fun ix w2=>∃ (j:Nat) (p' q':Int),j≤l.length∧ix= .int .i64 j∧w2.ownsRow (w.heap.size+1) 56 2 (.slice nZ k cap5) k (aR (l.take k))∧gu l (p,q)=l.take k++((p',q')::l.drop j)∧
   w2.heap[w.heap.size]? =some (.cells #[.int .i64 p',.int .i64 q'] 56 (0,0))∧Below w.heap.size w w2)
  case first=>
   go_wp2
   go_loopw[6] (fun ix w2=>∃ (j:Nat) (p' q':Int),j≤l.length∧ix= .int .i64 j∧w2.ownsRow (w.heap.size+1) 56 2 (.slice nZ k cap5) k (aR (l.take k))∧gu l (p,q)=l.take k++eU (l.drop j) (p',q')∧
     w2.heap[w.heap.size]? =some (.cells #[.int .i64 p',.int .i64 q'] 56 (0,0))∧Below w.heap.size w w2) (fun ix _=>l.length-(intOf ix).toNat)
   case atStart=>exact⟨k,p,q,hk,rfl,ho,HA.out,MX.out,hb⟩
   case round=>
    obtain⟨j,p',q',hj,rfl,ho2,ha2,yH,hb2⟩:=hrel
    have HA2:=ah ha2
    clear ha2 ho MX HA hb
    obtain⟨e0,e1,g0,g1,YS⟩:=eP yH
    have HB2:=ah yH
    clear yH
    rcases Nat.lt_or_ge j l.length with hlt2 | Uv
    ·obtain⟨b2,off2,rfl,YT,hd1,hd2⟩:=h.pair hb2 (aC _) j hlt2
     have HD:=ah (Cn l (p',q') j hlt2)
     have Uu:=ah (Av l (p',q') j hlt2)
     generalize l[j]=r at*
     obtain⟨x2,y2⟩:=r
     simp only at hd1 hd2
     by_cases hx2:x2≤q'
     ·go_wp2
      go_quiet (fail)
      go_wp2
      go_region
      go_wp2
      go_roundw
      case rel=>
       refine⟨j+1,min p' x2,max q' y2,by omega,by go_num,ownsRow_setCell_below (ownsRow_setCell_below (fC ho2 _) (by simp) _) (by simp) _,by rw[HA2.out,HD.out hx2],?_,((below_drewN hb2 _).setCell (aC _) _).setCell (aC _) _⟩
       rw[show min p' x2=if x2<p' then x2 else p' from by omega,show max q' y2=if q'<y2 then y2 else q' from by omega]
       exact FY (w:=wr.drewN (nq+1)) HB2.out _ _
      case measure=>simp[intOf];omega
     ·have dx2:decide (x2≤q')=false:=by simpa using hx2
      have HM:Hid (gu l (p,q)=l.take k++((p',q')::l.drop j)):=by show _=_;rw[HA2.out,Uu.out hx2]
      clear hx2 HD Uu HA2
      go_wp2
      go_quiet (fail)
      go_wp2_with fail
      go_meet
      exact⟨j,p',q',hj,rfl,fC ho2 _,HM.out,HB2.out,below_drewN hb2 _⟩
    ·have dx2:decide (j<l.length)=false:=by simpa using Uv
     have HM:Hid (gu l (p,q)=l.take k++((p',q')::l.drop j)):=by show _=_;rw[HA2.out,List.drop_eq_nil_of_le Uv];rfl
     clear HA2
     go_wp2
     go_quiet (fail)
     go_wp2_with fail
     go_meet
     exact⟨j,p',q',hj,rfl,fC ho2 _,HM.out,HB2.out,below_drewN hb2 _⟩
  case rest=>
   obtain⟨j,p',q',hj,rfl,ho2,ha2,yH,hb2⟩:=hcut
   have YU:=ah ha2
   clear ha2 ho MX HA hb
   obtain⟨e0,e1,g0,g1,YS⟩:=eP yH
   clear yH
   go_wp2
   go_region_law (refine Ce rfl (.tmp 86) (.tmp 88) rfl _ k (l.take k) rfl (Rd.BR (n:=1) (aI ho2).rd _) (by simp;omega) _ _ p' q' rfl (g_ _ _ _ _) (by omega) ?_;intro v3 w3 ho3 hg3)
   have hb3:Below w.heap.size w w3:=((below_drewN hb2 1).alloc (by simp;omega) _).grown hg3 (by simp;omega) (by simp)
   have hs3:w.heap.size≤w3.heap.size:=hb3.size
   have Qz:Rd w3 ao (aR l):=(Sl.rd h).keep hb3 (aC _)
   clear hg3
   go_wp2_with (first
    | ((with_reducible refine aY 93 ?_);refine f_ (o:=⟨some 93,_,_,_,_,_⟩) rfl _ _ _ rfl 56 iR 2 Tryz.underlying26 hiR hz1 ao l.length cap j (aR l) rfl rfl hj hcap Qz (i_ l) ?_)
    | ((with_reducible refine aY 94 ?_);refine tK (o:=⟨some 94,_,_,_,_,_⟩) rfl _ _ rfl w.heap.size _ (k+1) (l.take k++ [(p',q')]) rfl (aO ho3 (by simp;omega)) _ _ _ (l.drop j) rfl (by simp) (by assumption) (by omega) hs3 ?_))
   intro uI Uw
   rw[BS]at Uw
   go_wp2_with ((with_reducible refine aY 94 ?_);refine tK (o:=⟨some 94,_,_,_,_,_⟩) rfl _ _ rfl w.heap.size _ (k+1) (l.take k++ [(p',q')]) rfl (aO ho3 (by simp;omega)) _ _ _ (l.drop j) rfl (by simp) Uw (by omega) hs3 ?_)
   intro v4 w4 iD hg4
   have hb4:Below w.heap.size w w4:=hb3.grown hg4 hs3 (fun g hg=>by have:=bK ho3 g hg;simp at this;omega)
   have hs4:w.heap.size≤w4.heap.size:=hb4.size
   have hlen:k+1+(l.length-j)=(gu l (p,q)).length:=by rw[YU.out];simp;omega
   have fQ:w4.ownsRow w.heap.size 56 2 v4 (gu l (p,q)).length (aR (gu l (p,q))):=by rw[←hlen,YU.out];simpa using iD
   have YV:fq w4 v4 (gu l (p,q)):=aI fQ
   have JV:(gu l (p,q)).length<1000000000:=by omega
   clear hlen hg4 YU fQ
   go_wp2_with fail
   refine(nK _ _ _ YV JV).mono ?_
   rintro e w5 ⟨v5,rfl,fQ,hb5⟩
   go_wp2
   go_ret
   exact⟨_,rfl,aO fQ hs4,hb4.trans (hb5.mono hs4)⟩
end Go.Proofs.YtlfopoimbbpfdaaGreat
namespace Go.Proofs.YtlfopoimbbpfdaaGreat
def fill (c:Ct):Ct:=⟨c.key,c.coll,c.lo,c.hi,c.start,c.hi-c.start,c.start-c.lo⟩
def jI:List Ct→List Ct→Int×List Ct
 | acc,[]=>(0,acc)
 | acc,c::t=>if mE c=false then(1,[])else if 0≤bH acc c.key then(7,[])else jI (acc++ [fill c]) t
def newS (l:List Ct) (ids:Int):Bk×Int:=
 if 4<l.length then(⟨[],[],[],[]⟩,4)else
 if (jI [] l).1≠0 then(⟨[],[],[],[]⟩,(jI [] l).1)else
 if 0≤ids∧ids≤1000 then(⟨(jI [] l).2,gG [] (0,ids),[],[]⟩,0)else(⟨[],[],[],[]⟩,1)
theorem zP (acc l:List Ct) (k:Nat) (hk:k<l.length) (h:mE l[k]=false):jI acc (l.drop k)=(1,[]):=by
 rw[List.drop_eq_getElem_cons hk,jI,if_pos h]
theorem Co (acc l:List Ct) (k:Nat) (hk:k<l.length) (h:mE l[k]=true) (h2:0≤bH acc l[k].key):jI acc (l.drop k)=(7,[]):=by
 rw[List.drop_eq_getElem_cons hk,jI,if_neg (by rw[h];simp),if_pos h2]
theorem wL (acc l:List Ct) (k:Nat) (hk:k<l.length) (h:mE l[k]=true) (h2:¬0≤bH acc l[k].key):jI acc (l.drop k)=jI (acc++ [fill l[k]]) (l.drop (k+1)):=by
 rw[List.drop_eq_getElem_cons hk,jI,if_neg (by rw[h];simp),if_neg h2]
theorem zQ (acc l:List Ct) (k:Nat) (hk:l.length≤k):jI acc (l.drop k)=(0,acc):=by
 rw[List.drop_of_length_le hk,jI]
end Go.Proofs.YtlfopoimbbpfdaaGreat
