/- What the law asks, in parts: LWkH WkC LNw. -/
import Derived.Test.YtlfopoimbbpfdaaGreatPk3
import Derived.Test.YtlfopoimbbpfdaaGreatPk2
import Derived.Test.YtlfopoimbbpfdaaGreatPk0
import Derived.Test.YtlfopoimbbpfdaaGreatPk1
set_option linter.all false
set_option maxRecDepth 100000
set_option maxHeartbeats 16000000
namespace Go.Proofs.YtlfopoimbbpfdaaGreat
open Go.RowKit
structure Dl (b:Bk):Prop where
 nc:b.cs.length<1000000
 nf:b.free.length<1000000
 nl:b.ls.length<1000000
 nb:b.bound.length<1000000
 each:∀l∈b.ls,Ap l
structure uI (w:World) (B C:Nat) (x:dN) (b:Bk) (xs:List cB):Prop where
 rc:w.ownsRow B 54 7 x.c.v b.cs.length (aJ kY b.cs)
 rf:w.ownsRow B 56 2 x.f.v b.free.length (aR b.free)
 rl:w.ownsRow B 48 7 x.l.v b.ls.length (aJ j_ xs)
 rb:w.ownsRow B 3 1 x.b.v b.bound.length (bS b.bound)
 cl:∀g,x.c.v.ownBlock=some g→g<C
 fl:∀g,x.f.v.ownBlock=some g→g<C
 ll:∀g,x.l.v.ownBlock=some g→g<C
 bl:∀g,x.b.v.ownBlock=some g→g<C
 each:bN (jF w C) xs b.ls
theorem uI.m {w:World} {B C:Nat} {x:dN} {b:Bk} {xs:List cB} (h:uI w B C x b xs):iA w x b:=
 ⟨aG h.rc,aG h.rf,⟨xs,by have:=aG h.rl;rw[←h.each.len]at this;exact this,h.each.imp (fun _ _ r=>r.m)⟩,aG h.rb⟩
theorem ku {w:World} {b:Nat} {a0 a1 a2 a3:Value} {t:TypeId} (h:w.heap[b]? =some (.cells #[a0,a1,a2,a3] t (0,0))) (x y z u:Value):
  ((((w.setCell ⟨b,0,none⟩ x).setCell ⟨b,1,none⟩ y).setCell ⟨b,2,none⟩ z).setCell ⟨b,3,none⟩ u).heap[b]? =some (.cells #[x,y,z,u] t (0,0)):=by
 simp[World.setCell,Array.getElem?_modify,h]
theorem bM (w:World) (b c:Nat) (h:b≠c) (x y z u:Value) (i j k m:Nat):((((w.setCell ⟨b,i,none⟩ x).setCell ⟨b,j,none⟩ y).setCell ⟨b,k,none⟩ z).setCell ⟨b,m,none⟩ u).heap[c]? =w.heap[c]? :=by
 simp[World.setCell,Array.getElem?_modify,h]
theorem aA {w:World} {b:Nat} {a0 a1 a2 a3:Value} {t:TypeId} (h:w.heap[b]? =some (.cells #[a0,a1,a2,a3] t (0,0))) (o:Nat):w.frozen? ⟨b,o,none⟩=false:=by
 simp[World.frozen?,h]
theorem gT {w w':World} {g base:Nat} {e:TypeId} {E:Nat} {v:Value} {n:Nat} {xs:List Value} (h:w.ownsRow base e E v n xs) (hb:∀b,b≠g→w'.heap[b]? =w.heap[b]?) (hv:v.ownBlock≠some g):w'.ownsRow base e E v n xs:=by
 obtain⟨h1,h2⟩:=h;refine⟨h1,?_⟩;rcases h2 with h2 | ⟨q,cap,cur,rfl,hg,hh,r⟩
 ·exact .inl h2
 ·exact .inr ⟨q,cap,cur,rfl,hg,by rw[hb q (fun e=>hv (by rw[e];rfl))];exact hh,r⟩
theorem mF {w:World} {g base:Nat} {e e':TypeId} {E:Nat} {v:Value} {n:Nat} {xs:List Value} {cur:Array Value} {z:Nat×Nat} (h:w.ownsRow base e E v n xs) (hg:w.heap[g]? =some (.cells cur e' z)) (eP:e≠e'):v.ownBlock≠some g:=by
 obtain⟨h1,h2⟩:=h;rcases h2 with⟨rfl,_⟩ | ⟨q,cap,cu,rfl,_,hh,r⟩
 ·intro h;cases h
 ·intro h
  injection h with h;simp only at h;subst h;rw[hg]at hh;injection hh with hh;injection hh with _ hh _;exact eP hh.symm
theorem jF.ne {w w':World} {g C:Nat} {x:cB} {l:Ls} (h:jF w C x l) (hb:∀b,b≠g→w'.heap[b]? =w.heap[b]?) (hg:g<C):jF w' C x l:=by
 refine⟨h.dev,h.epoch,h.bU,h.last,gT h.s hb ?_,gT h.i hb ?_,gT h.u hb ?_⟩
 ·intro e;have:=bQ h.s _ e;omega
 ·intro e;have:=bQ h.i _ e;omega
 ·intro e;have:=bQ h.u _ e;omega
theorem F8 (l:List cB) (k:Nat) (hk:k<l.length) (y:cB):
  ((((((((aJ j_ l).set (k*7) (.int .i64 y.dev)).set (k*7+1) (.int .i64 y.epoch)).set (k*7+2) (.int .i64 y.bU)).set (k*7+3) (.int .i64 y.last)).set (k*7+4) y.s.v).set (k*7+5) y.i.v).set (k*7+6) y.u.v)=aJ j_ (l.set k y):=by
 induction l generalizing k with
 | nil=>simp at hk
 | cons x l ih=>
  cases k with
  | zero=>simp[aY,j_]
  | succ k=>
   have e0:(k+1)*7=k*7+7:=by omega
   rw[List.set_cons_succ,aY,aY,←ih k (by simpa using hk)];simp only[e0];simp[j_]
theorem om (w:World) (b c:Nat) (h:c≠b) (k:Nat) (x0 x1 x2 x3 x4 x5 x6:Value):
  (((((((w.setCell ⟨b,k,none⟩ x0).setCell ⟨b,k+1,none⟩ x1).setCell ⟨b,k+2,none⟩ x2).setCell ⟨b,k+3,none⟩ x3).setCell ⟨b,k+4,none⟩ x4).setCell ⟨b,k+5,none⟩ x5).setCell ⟨b,k+6,none⟩ x6).heap[c]? =w.heap[c]? :=by
 have h':¬b=c:=fun e=>h e.symm
 simp[World.setCell,Array.getElem?_modify,h']
theorem yc {w:World} {base:Nat} {e:TypeId} {g n cap:Nat} {l:List cB} (h:w.ownsRow base e 7 (.slice (some ⟨g,0,none⟩) n cap) n (aJ j_ l)) (k:Nat) (hk:k<l.length) (y:cB):
  (((((((w.setCell ⟨g,k*7,none⟩ (.int .i64 y.dev)).setCell ⟨g,k*7+1,none⟩ (.int .i64 y.epoch)).setCell ⟨g,k*7+2,none⟩ (.int .i64 y.bU)).setCell ⟨g,k*7+3,none⟩ (.int .i64 y.last)).setCell ⟨g,k*7+4,none⟩ y.s.v).setCell ⟨g,k*7+5,none⟩ y.i.v).setCell ⟨g,k*7+6,none⟩ y.u.v).ownsRow base e 7 (.slice (some ⟨g,0,none⟩) n cap) n (aJ j_ (l.set k y)):=by
 have hl:(aJ j_ l).length=l.length*7:=bP iE l;rw[←F8 l k hk y];refine dV (dV (dV (dV (dV (dV (dV h _ ?_ _) _ ?_ _) _ ?_ _) _ ?_ _) _ ?_ _) _ ?_ _) _ ?_ _;all_goals simp only[List.length_set,hl];omega
def VE (w:World) (b:Bk) (xs:List cB) (wx:World):Prop:=∃x:dN,
 wx.heap[w.heap.size]? =some (.cells #[x.c.v,x.f.v,x.l.v,x.b.v] 30 (0,0))∧wx.heap[w.heap.size+1]? =some (.cells #[.slice none 0 0,.slice none 0 0,.slice none 0 0,.slice none 0 0] 30 (0,0))∧
 wx.ownsRow (w.heap.size+2) 54 7 x.c.v b.cs.length (aJ kY b.cs)∧wx.ownsRow (w.heap.size+2) 56 2 x.f.v b.free.length (aR b.free)∧
 wx.ownsRow (w.heap.size+2) 48 7 x.l.v b.ls.length (aJ j_ xs)∧wx.ownsRow (w.heap.size+2) 3 1 x.b.v b.bound.length (bS b.bound)∧
 Below w.heap.size w wx∧w.heap.size+1<wx.heap.size
structure Co (w:World) (C:Nat) (x:dN) (b:Bk) (ys rest:List cB) (k:Nat) (wr:World):Prop where
 each:bN (jF wr C) ys (b.ls.take k)
 rl:wr.ownsRow (w.heap.size+2) 48 7 x.l.v b.ls.length (aJ j_ (ys++rest))
 rc:wr.ownsRow (w.heap.size+2) 54 7 x.c.v b.cs.length (aJ kY b.cs)
 rf:wr.ownsRow (w.heap.size+2) 56 2 x.f.v b.free.length (aR b.free)
 rb:wr.ownsRow (w.heap.size+2) 3 1 x.b.v b.bound.length (bS b.bound)
 k1:wr.heap[w.heap.size]? =some (.cells #[x.c.v,x.f.v,x.l.v,x.b.v] 30 (0,0))
 k2:wr.heap[w.heap.size+1]? =some (.cells #[.slice none 0 0,.slice none 0 0,.slice none 0 0,.slice none 0 0] 30 (0,0))
 bC:Below w.heap.size w wr
 big:C≤wr.heap.size
theorem Co.keep {w wr w':World} {C k:Nat} {x:dN} {b:Bk} {ys rest:List cB} (h:Co w C x b ys rest k wr) (hb:Below wr.heap.size wr w') (hz:w.heap.size+1<wr.heap.size):Co w C x b ys rest k w':=
 ⟨h.each.imp (fun _ _ r=>r.keep hb (aC _)),aI h.rl hb (aC _),aI h.rc hb (aC _),aI h.rf hb (aC _),aI h.rb hb (aC _),
  aj h.k1 hb (by omega),aj h.k2 hb hz,h.bC.trans (hb.mono h.bC.size),Nat.le_trans h.big hb.size⟩
theorem Co.step {w wr:World} {C k g n cap:Nat} {x:dN} {b:Bk} {ys rest:List cB} {z y:cB} (h:Co w C x b ys (z::rest) k wr) (hk:k<b.ls.length) (hx:x.l=⟨some ⟨g,0,none⟩,n,cap⟩) (hn:n=b.ls.length) (hy:jF wr C y b.ls[k]) (hg:g<C) (_hC:w.heap.size+2≤C):
  Co w C x b (ys++ [y]) rest (k+1) (((((((wr.setCell ⟨g,k*7,none⟩ (.int .i64 y.dev)).setCell ⟨g,k*7+1,none⟩ (.int .i64 y.epoch)).setCell ⟨g,k*7+2,none⟩ (.int .i64 y.bU)).setCell ⟨g,k*7+3,none⟩ (.int .i64 y.last)).setCell ⟨g,k*7+4,none⟩ y.s.v).setCell ⟨g,k*7+5,none⟩ y.i.v).setCell ⟨g,k*7+6,none⟩ y.u.v):=by
 have fP:=h.each.len;rw[List.length_take]at fP;have hlk:ys.length=k:=by omega
 have eu:=h.rl;rw[hx]at eu;simp only[Sv.v]at eu;subst hn;have hob:=bg eu
 have hgh:∃cur,wr.heap[g]? =some (.cells cur 48 (0,0)):=by
  obtain⟨_,hv⟩:=eu;rcases hv with⟨hv,_⟩ | ⟨q,cp,cur,hv,_,hh,_⟩
  ·cases hv
  ·injection hv with hv
   injection hv with hv;injection hv with hv;subst hv;exact⟨cur,hh⟩
 obtain⟨cur,hgh⟩:=hgh;have aK:=fun c (hc:c≠g)=>om wr g c hc (k*7) (.int .i64 y.dev) (.int .i64 y.epoch) (.int .i64 y.bU) (.int .i64 y.last) y.s.v y.i.v y.u.v
 have iW:=yc eu k (by rw[List.length_append];simp;omega) y
 have e:(ys++z::rest).set k y=ys++ [y]++rest:=by
  rw[List.set_append,if_neg (by omega),hlk,Nat.sub_self];simp
 rw[e]at iW;have hp:=h.bC.size;refine⟨?_,by rw[hx];exact iW,gT h.rc aK (mF h.rc hgh (by decide)),gT h.rf aK (mF h.rf hgh (by decide)),gT h.rb aK (mF h.rb hgh (by decide)),?_,?_,?_,?_⟩
 ·rw[aS b.ls k hk]
  exact bN.append (h.each.imp (fun _ _ r=>r.ne aK hg)) ⟨hy.ne aK hg,trivial⟩
 ·rw[aK _ (by have:=hob.1;omega)];exact h.k1
 ·rw[aK _ (by have:=hob.1;omega)];exact h.k2
 ·have hB:w.heap.size≤g:=by have:=hob.1;omega
  exact((((((h.bC.setCell hB _).setCell hB _).setCell hB _).setCell hB _).setCell hB _).setCell hB _).setCell hB _
 ·simpa[World.setCell]using h.big
theorem Co.cells {w wr:World} {C k g n cap:Nat} {x:dN} {b:Bk} {ys rest:List cB} {z:cB} (h:Co w C x b ys (z::rest) k wr) (hk:k<b.ls.length) (hx:x.l=⟨some ⟨g,0,none⟩,n,cap⟩) (hn:n=b.ls.length):
  (wr.cell? ⟨g,k*7,none⟩=some (.int .i64 z.dev)∧wr.cell? ⟨g,k*7+1,none⟩=some (.int .i64 z.epoch)∧wr.cell? ⟨g,k*7+2,none⟩=some (.int .i64 z.bU)∧wr.cell? ⟨g,k*7+3,none⟩=some (.int .i64 z.last)∧wr.cell? ⟨g,k*7+4,none⟩=some z.s.v∧wr.cell? ⟨g,k*7+5,none⟩=some z.i.v∧wr.cell? ⟨g,k*7+6,none⟩=some z.u.v)∧(∀o,wr.frozen? ⟨g,o,none⟩=false)∧g<wr.heap.size∧w.heap.size+2≤g∧b.ls.length≤cap∧cap≤9223372036854775807:=by
 have fP:=h.each.len;rw[List.length_take]at fP;have hlk:ys.length=k:=by omega
 have eu:=h.rl;rw[hx]at eu;simp only[Sv.v]at eu;subst hn;obtain⟨p1,p2,p3,p4,p5,p6,p7⟩:=bg eu
 have iQ:∀j u,j<7→(j_ z)[j]? =some u→wr.cell? ⟨g,k*7+j,none⟩=some u:=fun j u hj hu=>p7 _ _ (by
  rw[bV iE _ k (by rw[List.length_append];simp;omega) j hj]
  have:(ys++z::rest)[k]'(by rw[List.length_append];simp;omega)=z:=by
   rw[List.getElem_append_right (by omega)];simp[hlk]
  rw[this];exact hu)
 exact⟨⟨iQ 0 _ (by omega) rfl,iQ 1 _ (by omega) rfl,iQ 2 _ (by omega) rfl,iQ 3 _ (by omega) rfl,iQ 4 _ (by omega) rfl,iQ 5 _ (by omega) rfl,iQ 6 _ (by omega) rfl⟩,p6,p2,p1,p3,p4⟩
def Ur (w:World) (b:Bk) (e:Ending) (w':World):Prop:=∃ (x':dN) (xs':List cB) (C:Nat),e= .returned (iJ x')∧uI w' w.heap.size C x' b xs'∧w.heap.size≤C∧Below w.heap.size w w'
theorem jy (x:dN) (b:Bk) (w:World) (h:iA w x b) (hl:Dl b):
  Calls Tryz.prog 65 #[iJ x] w (Ur w b):=by
 obtain⟨⟨ca,cn,cc⟩,⟨fa,bD,fc⟩,⟨la,ln,lc⟩,⟨ba,bE,bc⟩⟩:=x;obtain⟨a1,a2,a3,a4⟩:=b;obtain⟨hc,hf,⟨xs,hx,nR⟩,hu⟩:=h;obtain⟨g1,g2,g3,g4,g5⟩:=hl;have hlx:=nR.len;simp only at hc hf hx hu g1 g2 g3 g4 g5 hlx nR;have OQ:=ah hlx;have ah5:xs.length<1000000:=by omega
 clear hlx;have bB:Below w.heap.size w ((w.alloc (.cells #[.slice ca cn cc,.slice fa bD fc,.slice la ln lc,.slice ba bE bc] 30)).alloc (.cells #[.slice none 0 0,.slice none 0 0,.slice none 0 0,.slice none 0 0] 30)):=((aL _ _).alloc (aC _) _).alloc (by simp) _;have k1:=bX w (.cells #[.slice ca cn cc,.slice fa bD fc,.slice la ln lc,.slice ba bE bc] 30) (.cells #[.slice none 0 0,.slice none 0 0,.slice none 0 0,.slice none 0 0] 30);have k2:=bL w (.cells #[.slice ca cn cc,.slice fa bD fc,.slice la ln lc,.slice ba bE bc] 30) (.cells #[.slice none 0 0,.slice none 0 0,.slice none 0 0,.slice none 0 0] 30);have f_:w.heap.size+1<((w.alloc (.cells #[.slice ca cn cc,.slice fa bD fc,.slice la ln lc,.slice ba bE bc] 30)).alloc (.cells #[.slice none 0 0,.slice none 0 0,.slice none 0 0,.slice none 0 0] 30)).heap.size:=by simp
 have fJ:=ah k1;have eT:=ah k2;clear k1 k2;change Calls Tryz.prog _ #[.agg #[.slice ca cn cc,.slice fa bD fc,.slice la ln lc,.slice ba bE bc]] w _
 go_enter Tryz.func65,Tryz.ntmps65
 go_upto_region 1 with fail
 generalize (w.alloc (.cells #[.slice ca cn cc,.slice fa bD fc,.slice la ln lc,.slice ba bE bc] 30)).alloc (.cells #[.slice none 0 0,.slice none 0 0,.slice none 0 0,.slice none 0 0] 30)=w2 at*;have je:=dI.keep hc bB (aC _);have hf2:=fD.keep hf bB (aC _);have tN:=dI.keep hx bB (aC _);have FZ:=jv.keep hu bB (aC _);clear hc hf hx hu
 go_cut[] (fun wx=>VE w ⟨a1,a2,a3,a4⟩ xs wx)
 case first=>
  refine aW 13 (fun w'=>Below w2.heap.size w2 w') (by kernel_rfl) ?_;refine aP (i:=0) (v:=.pointer (some ⟨w.heap.size,0,none⟩)) rfl rfl (by kernel_rfl) (fun _ _ _ h=>h) (.inl ⟨rfl,fun w' hw=>?_⟩) (aL _ _).drew ?_
  ·go_simp
  refine aP (i:=1) (v:=.slice ca cn cc) rfl rfl (by kernel_rfl) (fun _ _ _ h=>h) (.inl ⟨rfl,fun w' hw=>?_⟩) (aL _ _).drew ?_
  ·obtain⟨c0,c1,c2,c3,_⟩:=ay (aj fJ.out hw (by omega))
   go_simp
  refine aP (i:=3) (v:=.pointer (some ⟨w.heap.size,1,none⟩)) rfl rfl (by kernel_rfl) (fun _ _ _ h=>h) (.inl ⟨rfl,fun w' hw=>?_⟩) (aL _ _).drew ?_
  ·go_simp
  refine aP (i:=4) (v:=.slice fa bD fc) rfl rfl (by kernel_rfl) (fun _ _ _ h=>h) (.inl ⟨rfl,fun w' hw=>?_⟩) (aL _ _).drew ?_
  ·obtain⟨c0,c1,c2,c3,_⟩:=ay (aj fJ.out hw (by omega))
   go_simp
  refine aP (i:=6) (v:=.pointer (some ⟨w.heap.size,2,none⟩)) rfl rfl (by kernel_rfl) (fun _ _ _ h=>h) (.inl ⟨rfl,fun w' hw=>?_⟩) (aL _ _).drew ?_
  ·go_simp
  refine aP (i:=7) (v:=.slice la ln lc) rfl rfl (by kernel_rfl) (fun _ _ _ h=>h) (.inl ⟨rfl,fun w' hw=>?_⟩) (aL _ _).drew ?_
  ·obtain⟨c0,c1,c2,c3,_⟩:=ay (aj fJ.out hw (by omega))
   go_simp
  refine aP (i:=9) (v:=.pointer (some ⟨w.heap.size,3,none⟩)) rfl rfl (by kernel_rfl) (fun _ _ _ h=>h) (.inl ⟨rfl,fun w' hw=>?_⟩) (aL _ _).drew ?_
  ·go_simp
  refine aP (i:=10) (v:=.slice ba bE bc) rfl rfl (by kernel_rfl) (fun _ _ _ h=>h) (.inl ⟨rfl,fun w' hw=>?_⟩) (aL _ _).drew ?_
  ·obtain⟨c0,c1,c2,c3,_⟩:=ay (aj fJ.out hw (by omega))
   go_simp
  refine aD (i:=2) (by kernel_rfl) rfl rfl ?_;go_simp;refine(F3 _ a1 _ (dI.keep je (aL _ _).drew (aC _)) (by omega)).mono ?_;rintro e w3 ⟨v3,rfl,iq,bT⟩;have uU:Below w2.heap.size w2 w3:=(aL w2.heap.size w2).drew.trans bT;refine⟨uU,?_⟩;refine aP (i:=12) (v:=.pointer (some ⟨w.heap.size,0,none⟩)) rfl rfl (by kernel_rfl) (fun _ _ _ h=>h) (.inl ⟨rfl,fun w' hw=>?_⟩) uU ?_
  ·go_simp
  refine aD (i:=5) (by kernel_rfl) rfl rfl ?_;go_simp;refine(yN _ a2 _ (fD.keep hf2 uU (aC _)) (by omega)).mono ?_;rintro e w4 ⟨v4,rfl,ji,bR⟩;have jX:Below w2.heap.size w2 w4:=uU.trans (bR.mono uU.size);refine⟨jX,?_⟩;refine aD (i:=8) (by kernel_rfl) rfl rfl ?_;go_simp;refine(F5 _ xs _ (dI.keep tN jX (aC _)) (by omega)).mono ?_;rintro e w5 ⟨v5,rfl,gP,gD⟩;have qX:Below w2.heap.size w2 w5:=jX.trans (gD.mono jX.size);refine⟨qX,?_⟩;refine aD (i:=11) (by kernel_rfl) rfl rfl ?_;go_simp;refine(yM _ a4 _ (jv.keep FZ qX (aC _)) (by omega)).mono ?_;rintro e w6 ⟨v6,rfl,uf,nG⟩;have MO:Below w2.heap.size w2 w6:=qX.trans (nG.mono qX.size);refine⟨MO,?_⟩;have oO:=uU.size;have mP:=jX.size;have Uq:=qX.size;have hz6:=MO.size;have KU:=aj fJ.out MO (by omega);obtain⟨c0,c1,c2,c3,_⟩:=ay KU;have f0:=aA KU 0;have f1:=aA KU 1;have f2:=aA KU 2;have f3:=aA KU 3;have o3:=aN (base':=w.heap.size+2) (aI (aI (aI iq bR (aC _)) gD (aC _)) nG (aC _)) (by show _≤w2.heap.size;omega);have o4:=aN (base':=w.heap.size+2) (aI (aI ji gD (aC _)) nG (aC _)) (by omega);have o5:=aN (base':=w.heap.size+2) (aI gP nG (aC _)) (by omega);have o6:=aN (base':=w.heap.size+2) uf (by omega);rw[OQ.out]at o5;have KV:=ah KU;have zx:=ah (aj eT.out MO f_);obtain⟨Yp,cp3,rfl,_,_⟩:=aO o3;obtain⟨ao4,cp4,rfl,_,_⟩:=aO o4;obtain⟨rP,BU,rfl,_,_⟩:=aO o5;obtain⟨I7,Us,rfl,_,_⟩:=aO o6;have jw:Below w.heap.size w w6:=bB.trans (MO.mono bB.size);clear KU iq ji gP uf bT bR gD nG uU jX qX MO je hf2 tN FZ;refine aD (i:=13) (by kernel_rfl) rfl rfl ?_;go_simp;refine aD (i:=14) (by kernel_rfl) rfl rfl ?_;go_simp;refine aD (i:=15) (by kernel_rfl) rfl rfl ?_;go_simp;refine aD (i:=16) (by kernel_rfl) rfl rfl ?_;go_simp;refine aD (i:=17) (by kernel_rfl) rfl rfl ?_;go_simp;refine aD (i:=18) (by kernel_rfl) rfl rfl ?_;go_simp;refine aD (i:=19) (by kernel_rfl) rfl rfl ?_;go_simp;refine aU (by kernel_rfl) ?_;go_wp2;go_meet;have hp:w.heap.size<w.heap.size+2:=by omega
  refine⟨⟨⟨Yp,_,cp3⟩,⟨ao4,_,cp4⟩,⟨rP,_,BU⟩,⟨I7,_,Us⟩⟩,ku KV.out _ _ _ _,?_,?_,?_,?_,?_,?_,?_⟩
  ·rw[bM _ _ _ (by omega)];exact zx.out
  ·exact aM (aM (aM (aM o3 _ hp _) _ hp _) _ hp _) _ hp _
  ·exact aM (aM (aM (aM o4 _ hp _) _ hp _) _ hp _) _ hp _
  ·exact aM (aM (aM (aM o5 _ hp _) _ hp _) _ hp _) _ hp _
  ·exact aM (aM (aM (aM o6 _ hp _) _ hp _) _ hp _) _ hp _
  ·exact(((jw.setCell (by simp) _).setCell (by simp) _).setCell (by simp) _).setCell (by simp) _
  ·simp[World.setCell];omega
 case rest=>
 obtain⟨⟨⟨Yq,Yr,Yt⟩,⟨fa2,Yu,Yv⟩,⟨VF,ln2,Ut⟩,⟨Yw,Yx,bc2⟩⟩,gL,dH,oc,of_,ol,ob,jw,hz⟩:=hcut;simp only[Sv.v]at gL dH oc of_ ol ob;obtain⟨KQ,OT,hlm⟩:=Sl.lens (s:=⟨VF,ln2,Ut⟩) (aG ol);simp only at KQ OT hlm;subst KQ;have wD:=ah gL;have KW:=ah dH;have HOC:=ah oc;have HOF:=ah of_;have HOL:=ah ol;have HOB:=ah ob;have wE:=ah nR;obtain⟨C,hC⟩:∃C,C=wc.heap.size:=⟨_,rfl⟩;have Ow:=ah hC;have hzC:w.heap.size+1<C:=by omega
 have OV:Hid ((∀g,(Value.slice Yq Yr Yt).ownBlock=some g→g<C)∧(∀g,(Value.slice fa2 Yu Yv).ownBlock=some g→g<C)∧(∀g,(Value.slice VF a3.length Ut).ownBlock=some g→g<C)∧(∀g,(Value.slice Yw Yx bc2).ownBlock=some g→g<C)):=by
  subst hC;exact⟨fun g hg=>(oc.lt g hg).2,fun g hg=>(of_.lt g hg).2,fun g hg=>(ol.lt g hg).2,fun g hg=>(ob.lt g hg).2⟩
 clear hC;obtain⟨c0,c1,c2,c3,_⟩:=ay gL;clear gL dH oc of_ ol ob nR fJ eT je hf2 tN FZ c0 c1 c3;go_upto_block 0 with fail
 go_cut[24] (fun _ wx=>∃ys,Co w C ⟨⟨Yq,Yr,Yt⟩,⟨fa2,Yu,Yv⟩,⟨VF,a3.length,Ut⟩,⟨Yw,Yx,bc2⟩⟩ ⟨a1,a2,a3,a4⟩ ys [] a3.length wx)
 case first=>
  go_wp2
  go_loopw[24] (fun vi wr=>∃ (k:Nat) (ys:List cB),k≤a3.length∧vi= .int .i64 k∧Co w C ⟨⟨Yq,Yr,Yt⟩,⟨fa2,Yu,Yv⟩,⟨VF,a3.length,Ut⟩,⟨Yw,Yx,bc2⟩⟩ ⟨a1,a2,a3,a4⟩ ys (xs.drop k) k wr) (fun vi _=>a3.length-(intOf vi).toNat)
  case atStart=>exact⟨0,[],Nat.zero_le _,rfl,⟨trivial,HOL.out,HOC.out,HOF.out,HOB.out,wD.out,KW.out,jw,by rw[Ow.out];exact aC _⟩⟩
  case round=>
   obtain⟨k,ys,hk,rfl,hO⟩:=hrel;rcases Nat.lt_or_ge k a3.length with bA | gX
   ·have hltx:k<xs.length:=by rw[OQ.out];exact bA
    rw[List.drop_eq_getElem_cons hltx]at hO;obtain⟨g,cap,he⟩:=fT hO.rl (by show 0<a3.length;omega);injection he with FX _ he2;subst FX he2;have hgC:=OV.out.2.2.1 g rfl;have HO:=ah hO;obtain⟨⟨c0,c1,c2,c3,c4,c5,c6⟩,_,lu,iY,dO,qM⟩:=hO.cells bA rfl rfl;have hM:=bN.at wE.out k hltx bA;have HM:=ah (hM.keep hO.bC (aC _));have I8:=ah (g5 a3[k] (List.getElem_mem bA));have jK:(k:Int)<a3.length:=by omega
    have mG:w.heap.size+1<wr.heap.size:=by have:=hO.big;omega
    clear hM hO;generalize xs[k]=z at*;obtain⟨z1,z2,z3,z4,⟨z5,z6,z7⟩,⟨z8,z9,dK⟩,⟨dU,eZ,dQ⟩⟩:=z;simp only[Sv.v]at c0 c1 c2 c3 c4 c5 c6;go_upto_region 5 with fail
    clear c0 c1 c2 c3 c4 c5 c6;have eD:Below wr.heap.size wr (wr.alloc (.cells #[.int .i64 z1,.int .i64 z2,.int .i64 z3,.int .i64 z4,.slice z5 z6 z7,.slice z8 z9 dK,.slice dU eZ dQ] 48)):=(aL _ _).alloc (aC _) _;have hnew:=heap_alloc_new wr (.cells #[.int .i64 z1,.int .i64 z2,.int .i64 z3,.int .i64 z4,.slice z5 z6 z7,.slice z8 z9 dK,.slice dU eZ dQ] 48);have Dm:wr.heap.size<(wr.alloc (.cells #[.int .i64 z1,.int .i64 z2,.int .i64 z3,.int .i64 z4,.slice z5 z6 z7,.slice z8 z9 dK,.slice dU eZ dQ] 48)).heap.size:=by simp
    have hOA:=HO.out.keep eD mG;have hMA:=HM.out.keep eD (aC _);have uV:=ah hnew;have Uu:=ah hOA;clear hnew hOA HO HM;generalize wr.alloc (.cells #[.int .i64 z1,.int .i64 z2,.int .i64 z3,.int .i64 z4,.slice z5 z6 z7,.slice z8 z9 dK,.slice dU eZ dQ] 48)=w7 at*;refine aW 6 (fun w'=>Below w7.heap.size w7 w') (by kernel_rfl) ?_;refine aP (i:=0) (v:=.pointer (some ⟨w.heap.size,2,none⟩)) rfl rfl (by kernel_rfl) (fun _ _ _ h=>h) (.inl ⟨rfl,fun w' hw=>?_⟩) (aL _ _).drew ?_
    ·go_simp
    refine aP (i:=1) (v:=.slice (some ⟨g,0,none⟩) a3.length Ut) rfl rfl (by kernel_rfl) (fun _ _ _ h=>h) (.inl ⟨rfl,fun w' hw=>?_⟩) (aL _ _).drew ?_
    ·obtain⟨_,_,c2,_,_⟩:=ay (aj Uu.out.k1 hw (by omega))
     go_simp
    refine aP (i:=2) (v:=.int .i64 k) rfl rfl (by kernel_rfl) (fun _ _ _ h=>h) (.inl ⟨rfl,fun w' hw=>?_⟩) (aL _ _).drew ?_
    ·go_simp
    refine aP (i:=3) (v:=.agg #[.int .i64 z1,.int .i64 z2,.int .i64 z3,.int .i64 z4,.slice z5 z6 z7,.slice z8 z9 dK,.slice dU eZ dQ]) rfl rfl (by kernel_rfl) (fun _ _ _ h=>h) (.inl ⟨rfl,fun w' hw=>?_⟩) (aL _ _).drew ?_
    ·obtain⟨c0,c1,c2,c3,c4,c5,c6,_⟩:=aB (aj uV.out hw Dm)
     go_simp
    refine aD (i:=4) (by kernel_rfl) rfl rfl ?_;go_simp;refine(fI ⟨z1,z2,z3,z4,⟨z5,z6,z7⟩,⟨z8,z9,dK⟩,⟨dU,eZ,dQ⟩⟩ a3[k] _ (hMA.keep (aL _ _).drew (aC _)) I8.out).mono ?_;rintro e w8 ⟨y,rfl,hy,qP⟩;have oP:Below w7.heap.size w7 w8:=(aL w7.heap.size w7).drew.trans qP;have hO8:=Uu.out.keep oP (by omega);refine⟨oP,?_⟩;obtain⟨⟨c0,c1,c2,c3,c4,c5,c6⟩,pq,_,_,_,_⟩:=hO8.cells bA rfl rfl;have f0:=pq (k*7);have f1:=pq (k*7+1);have f2:=pq (k*7+2);have f3:=pq (k*7+3);have f4:=pq (k*7+4);have f5:=pq (k*7+5);have f6:=pq (k*7+6);have Ep:jF w8 C y a3[k]:=⟨hy.dev,hy.epoch,hy.bU,hy.last,aN hy.s (by have:=Uu.out.big;exact this),aN hy.i (by have:=Uu.out.big;exact this),aN hy.u (by have:=Uu.out.big;exact this)⟩;have uG:=ah (hO8.step bA rfl rfl Ep hgC (by omega));clear pq hO8 hy Ep hMA;obtain⟨y1,y2,y3,y4,⟨y5,y6,y7⟩,⟨y8,y9,dz⟩,⟨dA,dJ,cK⟩⟩:=y;simp only[Sv.v]at c4 c5 c6;refine aD (i:=5) (by kernel_rfl) rfl rfl ?_;go_simp;refine aD (i:=6) (by kernel_rfl) rfl rfl ?_;go_simp;refine aU (by kernel_rfl) ?_;go_wp2;go_roundw
    case rel=>exact⟨k+1,_,by omega,by go_num,uG.out⟩
    case measure=>simp[intOf];omega
   ·have dH:k=a3.length:=by omega
    subst dH;rw[List.drop_of_length_le (by rw[OQ.out];omega)]at hO;have HO:=ah hO;clear hO;go_wp2;go_meet;exact⟨ys,HO.out⟩
 case rest=>
 obtain⟨ys,hO⟩:=hcut;obtain⟨c0,c1,c2,c3,_⟩:=ay hO.k1;obtain⟨d0,d1,d2,d3,_⟩:=ay hO.k2;have f0:=aA hO.k2 0;have f1:=aA hO.k2 1;have f2:=aA hO.k2 2;have f3:=aA hO.k2 3;simp only[Sv.v]at c0 c1 c2 c3;have HO:=ah hO;have jU:w.heap.size+1<w.heap.size+2:=by omega
 clear hO;go_wp2;refine bodyPost_ret (v:=.agg #[.slice Yq Yr Yt,.slice fa2 Yu Yv,.slice VF a3.length Ut,.slice Yw Yx bc2]) (by simp[results,Tryz.results65,go_sem, *]) rfl ⟨⟨⟨Yq,Yr,Yt⟩,⟨fa2,Yu,Yv⟩,⟨VF,a3.length,Ut⟩,⟨Yw,Yx,bc2⟩⟩,ys,C,rfl,?_,by omega,?_⟩
 ·have hO:=HO.out
  have hev:=hO.each;rw[List.take_of_length_le (aC _)]at hev;have uW:=hO.rl;rw[List.append_nil]at uW;have aK:=fun c (hc:c≠w.heap.size+1)=>bM wc (w.heap.size+1) c (fun e=>hc e.symm) (.slice Yq Yr Yt) (.slice fa2 Yu Yv) (.slice VF a3.length Ut) (.slice Yw Yx bc2) 0 1 2 3
  exact⟨aN (aM (aM (aM (aM hO.rc _ jU _) _ jU _) _ jU _) _ jU _) (by omega),aN (aM (aM (aM (aM hO.rf _ jU _) _ jU _) _ jU _) _ jU _) (by omega),aN (aM (aM (aM (aM uW _ jU _) _ jU _) _ jU _) _ jU _) (by omega),aN (aM (aM (aM (aM hO.rb _ jU _) _ jU _) _ jU _) _ jU _) (by omega),OV.out.1,OV.out.2.1,OV.out.2.2.1,OV.out.2.2.2,hev.imp (fun _ _ r=>r.ne aK (by omega))⟩
 ·have hO:=HO.out
  exact(((hO.bC.setCell (by simp) _).setCell (by simp) _).setCell (by simp) _).setCell (by simp) _
def fV:List Rg→Rg→List Rg
 | [],r=>[r]
 | x::t,r=>if x.1≤r.2 then fV t (min r.1 x.1,max r.2 x.2)else r::x::t
def iF:List Rg→Rg→List Rg
 | [],r=>[r]
 | x::t,r=>if x.2<r.1 then x::iF t r else fV (x::t) r
def iM (l:List Rg) (r:Rg):List Rg:=if r.1≥r.2∨r.1<0∨r.2>1073741824 then l else iF l r
theorem MP (l:List Rg) (r:Rg) (k:Nat) (hk:k<l.length) (h:l[k].2<r.1):l.take k++iF (l.drop k) r=l.take (k+1)++iF (l.drop (k+1)) r:=by
 rw[aS l k hk,List.drop_eq_getElem_cons hk,iF,if_pos h,List.append_assoc];rfl
theorem I9 (l:List Rg) (r:Rg) (k:Nat) (hk:k<l.length) (h:¬l[k].2<r.1):iF (l.drop k) r=fV (l.drop k) r:=by
 rw[List.drop_eq_getElem_cons hk,iF,if_neg h]
theorem F9 (l:List Rg) (r:Rg) (k:Nat) (hk:k<l.length) (h:l[k].1≤r.2):fV (l.drop k) r=fV (l.drop (k+1)) (min r.1 l[k].1,max r.2 l[k].2):=by
 rw[List.drop_eq_getElem_cons hk,fV,if_pos h]
theorem Er (l:List Rg) (r:Rg) (k:Nat) (hk:k<l.length) (h:¬l[k].1≤r.2):fV (l.drop k) r=r::l.drop k:=by
 rw[List.drop_eq_getElem_cons hk,fV,if_neg h]
theorem SL (v:Value) (l:List Rg) (p q:Int) (w:World) (h:fD w v l) (hl:l.length<1000000) (h0:p<q) (h1:0≤p) (h2:q≤1073741824):
  Calls Tryz.prog 64 #[v,.agg #[.int .i64 p,.int .i64 q]] w (sO w 2 56 (iF l (p,q)).length (aR (iF l (p,q)))):=by
 obtain⟨ao,cap,rfl,dO,hm⟩:=Sl.shape h;obtain⟨iR,hiR,kK,dX,f_⟩:=info_parts Tryz.Al;have d0:decide (q≤p)=false:=by simpa using h0
 have d1:decide (p<0)=false:=by simpa using h1
 have d2:decide (1073741824<q)=false:=by simpa using h2
 go_enter Tryz.func64,Tryz.ntmps64
 go_upto_block 0 with fail
 go_cut[5,6] (fun vo ix wr=>∃k:Nat,k≤l.length∧ix= .int .i64 k∧wr.ownsRow (w.heap.size+1) 56 2 vo k (aR (l.take k))∧iF l (p,q)=l.take k++fV (l.drop k) (p,q)∧
  wr.heap[w.heap.size]? =some (.cells #[.int .i64 p,.int .i64 q] 56 (0,0))∧Below w.heap.size w wr)
 case first=>
  go_wp2
  go_loopw[5,6] (fun vo ix wr=>∃k:Nat,k≤l.length∧ix= .int .i64 k∧wr.ownsRow (w.heap.size+1) 56 2 vo k (aR (l.take k))∧iF l (p,q)=l.take k++iF (l.drop k) (p,q)∧
   wr.heap[w.heap.size]? =some (.cells #[.int .i64 p,.int .i64 q] 56 (0,0))∧Below w.heap.size w wr) (fun _ ix _=>l.length-(intOf ix).toNat)
  case atStart=>exact⟨0,Nat.zero_le _,rfl,World.ownsRow_nil _ _ _ _,rfl,heap_alloc_new w _,(aL _ _).alloc (aC _) _⟩
  case round=>
   obtain⟨k,hk,rfl,ho,ha,tO,hb⟩:=hrel;have HA:=ah ha;clear ha;obtain⟨c0,c1,f0,f1,KX⟩:=iB tO;have HB:=ah tO;clear tO;rcases Nat.lt_or_ge k l.length with bA | gX
   ·obtain⟨b,off,rfl,kZ,lF,je⟩:=h.pair hb (aC _) k bA
    have HS:=ah (aS l k bA);have HD:=ah (MP l (p,q) k bA);have Zh:=ah (I9 l (p,q) k bA);generalize l[k]=r at*;obtain⟨x,y⟩:=r;simp only at lF je;by_cases hx:y<p
    ·go_wp2
     go_quiet (fail)
     go_wp2_with (((with_reducible refine aZ 46 ?_);refine FT (o:=⟨some 46,_,_,_,_,_⟩) rfl _ _ rfl (w.heap.size+1) _ k (l.take k) rfl ((gI ho nq).alloc _) _ _ x y rfl (jq _ _ _ _) (by omega) (by simp;omega) ?_))
     intro v' w1 nY lu;have bB:Below w.heap.size w w1:=((below_drewN hb nq).alloc (by simp;omega) _).grown lu (by simp;omega) (fun g hg=>by have:=bQ ho g hg;omega);have vQ:=(iC lu (b:=w.heap.size) (B:=w.heap.size+1) (by simp;omega) (by omega) (bQ ho)).trans ((Below.heap_alloc _ _ _ (by simp;omega)).trans HB.out);clear lu;go_wp2;go_roundw
     case rel=>exact⟨k+1,by omega,by go_num,by rw[HS.out];exact nY,by rw[HA.out];exact HD.out hx,vQ,bB⟩
     case measure=>simp[intOf];omega
    ·have dx:decide (y<p)=false:=by simpa using hx
     have HM:Hid (iF l (p,q)=l.take k++fV (l.drop k) (p,q)):=by show _=_;rw[HA.out,Zh.out hx]
     clear hx HD Zh HA;go_wp2;go_quiet (fail)
     go_wp2_with fail
     go_meet;exact⟨k,hk,rfl,gI ho _,HM.out,HB.out,below_drewN hb _⟩
   ·have dx:decide (k<l.length)=false:=by simpa using gX
    have HM:Hid (iF l (p,q)=l.take k++fV (l.drop k) (p,q)):=by show _=_;rw[HA.out,List.drop_eq_nil_of_le gX];rfl
    clear HA;go_wp2;go_quiet (fail)
    go_wp2_with fail
    go_meet;exact⟨k,hk,rfl,gI ho _,HM.out,HB.out,below_drewN hb _⟩
 case rest=>
  obtain⟨k,hk,rfl,ho,ha,tO,hb⟩:=hcut;obtain⟨rP,cap5,rfl,hcap5,hm5⟩:=Sl.shape (aG ho);have HA:=ah ha;have MQ:=ah tO;clear ha tO;go_upto_block 2 with fail
  go_cut[6] (fun ix w2=>∃ (j:Nat) (p' q':Int),j≤l.length∧ix= .int .i64 j∧w2.ownsRow (w.heap.size+1) 56 2 (.slice rP k cap5) k (aR (l.take k))∧iF l (p,q)=l.take k++((p',q')::l.drop j)∧
   w2.heap[w.heap.size]? =some (.cells #[.int .i64 p',.int .i64 q'] 56 (0,0))∧Below w.heap.size w w2)
  case first=>
   go_wp2
   go_loopw[6] (fun ix w2=>∃ (j:Nat) (p' q':Int),j≤l.length∧ix= .int .i64 j∧w2.ownsRow (w.heap.size+1) 56 2 (.slice rP k cap5) k (aR (l.take k))∧iF l (p,q)=l.take k++fV (l.drop j) (p',q')∧
     w2.heap[w.heap.size]? =some (.cells #[.int .i64 p',.int .i64 q'] 56 (0,0))∧Below w.heap.size w w2) (fun ix _=>l.length-(intOf ix).toNat)
   case atStart=>exact⟨k,p,q,hk,rfl,ho,HA.out,MQ.out,hb⟩
   case round=>
    obtain⟨j,p',q',hj,rfl,qN,sV,Cq,bO⟩:=hrel;have sW:=ah sV;clear sV ho MQ HA hb;obtain⟨e0,e1,g0,g1,ac0⟩:=iB Cq;have jI:=ah Cq;clear Cq;rcases Nat.lt_or_ge j l.length with oQ | Zi
    ·obtain⟨b2,off2,rfl,ac1,KY,hd2⟩:=h.pair bO (aC _) j oQ
     have HD:=ah (F9 l (p',q') j oQ);have Zh:=ah (Er l (p',q') j oQ);generalize l[j]=r at*;obtain⟨x2,y2⟩:=r;simp only at KY hd2;by_cases tN:x2≤q'
     ·go_wp2
      go_quiet (fail)
      go_wp2
      go_region
      go_wp2;go_roundw
      case rel=>
       refine⟨j+1,min p' x2,max q' y2,by omega,by go_num,ownsRow_setCell_below (ownsRow_setCell_below (gI qN _) (by simp) _) (by simp) _,by rw[sW.out,HD.out tN],?_,((below_drewN bO _).setCell (aC _) _).setCell (aC _) _⟩;rw[show min p' x2=if x2<p' then x2 else p' from by omega,show max q' y2=if q'<y2 then y2 else q' from by omega];exact KJ (w:=wr.drewN (nq+1)) jI.out _ _
      case measure=>simp[intOf];omega
     ·have dx2:decide (x2≤q')=false:=by simpa using tN
      have HM:Hid (iF l (p,q)=l.take k++((p',q')::l.drop j)):=by show _=_;rw[sW.out,Zh.out tN]
      clear tN HD Zh sW;go_wp2;go_quiet (fail)
      go_wp2_with fail
      go_meet;exact⟨j,p',q',hj,rfl,gI qN _,HM.out,jI.out,below_drewN bO _⟩
    ·have dx2:decide (j<l.length)=false:=by simpa using Zi
     have HM:Hid (iF l (p,q)=l.take k++((p',q')::l.drop j)):=by show _=_;rw[sW.out,List.drop_eq_nil_of_le Zi];rfl
     clear sW;go_wp2;go_quiet (fail)
     go_wp2_with fail
     go_meet;exact⟨j,p',q',hj,rfl,gI qN _,HM.out,jI.out,below_drewN bO _⟩
  case rest=>
   obtain⟨j,p',q',hj,rfl,qN,sV,Cq,bO⟩:=hcut;have Yy:=ah sV;clear sV ho MQ HA hb;obtain⟨e0,e1,g0,g1,ac0⟩:=iB Cq;clear Cq;go_wp2
   go_region_law (refine FU rfl (.tmp 86) (.tmp 88) rfl _ k (l.take k) rfl (Rd.FI (n:=1) (aG qN).rd _) (by simp;omega) _ _ p' q' rfl (jq _ _ _ _) (by omega) ?_;intro v3 w3 iq j4)
   have bT:Below w.heap.size w w3:=((below_drewN bO 1).alloc (by simp;omega) _).grown j4 (by simp;omega) (by simp);have hs3:w.heap.size≤w3.heap.size:=bT.size;have VG:Rd w3 ao (aR l):=(Sl.rd h).keep bT (aC _);clear j4
   go_wp2_with (first
    | ((with_reducible refine aZ 93 ?_);refine iD (o:=⟨some 93,_,_,_,_,_⟩) rfl _ _ _ rfl 56 iR 2 Tryz.underlying26 hiR dX ao l.length cap j (aR l) rfl rfl hj dO VG (j6 l) ?_)
    | ((with_reducible refine aZ 94 ?_);refine xU (o:=⟨some 94,_,_,_,_,_⟩) rfl _ _ rfl w.heap.size _ (k+1) (l.take k++ [(p',q')]) rfl (aN iq (by simp;omega)) _ _ _ (l.drop j) rfl (by simp) (by assumption) (by omega) hs3 ?_))
   intro rQ Zj;rw[FJ]at Zj;go_wp2_with ((with_reducible refine aZ 94 ?_);refine xU (o:=⟨some 94,_,_,_,_,_⟩) rfl _ _ rfl w.heap.size _ (k+1) (l.take k++ [(p',q')]) rfl (aN iq (by simp;omega)) _ _ _ (l.drop j) rfl (by simp) Zj (by omega) hs3 ?_)
   intro v4 w4 ji hg4;have bR:Below w.heap.size w w4:=bT.grown hg4 hs3 (fun g hg=>by have:=bQ iq g hg;simp at this;omega);have hs4:w.heap.size≤w4.heap.size:=bR.size;have fP:k+1+(l.length-j)=(iF l (p,q)).length:=by rw[Yy.out];simp;omega
   have gP:w4.ownsRow w.heap.size 56 2 v4 (iF l (p,q)).length (aR (iF l (p,q))):=by rw[←fP,Yy.out];simpa using ji
   have ac2:fD w4 v4 (iF l (p,q)):=aG gP;have OW:(iF l (p,q)).length<1000000000:=by omega
   clear fP hg4 Yy gP;go_wp2_with fail
   refine(qW _ _ _ ac2 OW).mono ?_;rintro e w5 ⟨v5,rfl,gP,gD⟩;go_wp2;go_ret;exact⟨_,rfl,aN gP hs4,bR.trans (gD.mono hs4)⟩
end Go.Proofs.YtlfopoimbbpfdaaGreat
namespace Go.Proofs.YtlfopoimbbpfdaaGreat
def fill (c:Ct):Ct:=⟨c.key,c.coll,c.lo,c.hi,c.start,c.hi-c.start,c.start-c.lo⟩
def lG:List Ct→List Ct→Int×List Ct
 | acc,[]=>(0,acc)
 | acc,c::t=>if mX c=false then(1,[])else if 0≤bJ acc c.key then(7,[])else lG (acc++ [fill c]) t
def newS (l:List Ct) (ids:Int):Bk×Int:=
 if 4<l.length then(⟨[],[],[],[]⟩,4)else
 if (lG [] l).1≠0 then(⟨[],[],[],[]⟩,(lG [] l).1)else
 if 0≤ids∧ids≤1000 then(⟨(lG [] l).2,iM [] (0,ids),[],[]⟩,0)else(⟨[],[],[],[]⟩,1)
theorem Dn (acc l:List Ct) (k:Nat) (hk:k<l.length) (h:mX l[k]=false):lG acc (l.drop k)=(1,[]):=by
 rw[List.drop_eq_getElem_cons hk,lG,if_pos h]
theorem Ga (acc l:List Ct) (k:Nat) (hk:k<l.length) (h:mX l[k]=true) (h2:0≤bJ acc l[k].key):lG acc (l.drop k)=(7,[]):=by
 rw[List.drop_eq_getElem_cons hk,lG,if_neg (by rw[h];simp),if_pos h2]
theorem Aq (acc l:List Ct) (k:Nat) (hk:k<l.length) (h:mX l[k]=true) (h2:¬0≤bJ acc l[k].key):lG acc (l.drop k)=lG (acc++ [fill l[k]]) (l.drop (k+1)):=by
 rw[List.drop_eq_getElem_cons hk,lG,if_neg (by rw[h];simp),if_neg h2]
theorem Dp (acc l:List Ct) (k:Nat) (hk:l.length≤k):lG acc (l.drop k)=(0,acc):=by
 rw[List.drop_of_length_le hk,lG]
end Go.Proofs.YtlfopoimbbpfdaaGreat
