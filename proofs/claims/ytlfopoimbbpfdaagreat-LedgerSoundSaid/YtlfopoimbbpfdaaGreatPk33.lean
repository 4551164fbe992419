/- What the law asks, in parts: Fg LWkF Bb. -/
import Derived.Deep.DrawnRows
import Derived.Test.YtlfopoimbbpfdaaGreatPk32
import Derived.Test.YtlfopoimbbpfdaaGreatPk2
set_option linter.all false
set_option maxRecDepth 100000
set_option maxHeartbeats 16000000
namespace Go.Proofs.YtlfopoimbbpfdaaGreat
open Go.RowKit
def Rx (B:Nat) (w0 W:World) (T:TypeId) (E:Nat) (v:Value) (n:Nat) (cs:List Value):Prop:=Sl w0 E v n cs∨W.ownsRow B T E v n cs
section
variable {B:Nat} {w0 W W':World} {T:TypeId} {E n:Nat} {v:Value} {cs:List Value}
theorem Rx.sl (h:Rx B w0 W T E v n cs) (hb:Below w0.heap.size w0 W):Sl W E v n cs:=by
 rcases h with h | h
 ·exact h.keep hb (aC _)
 ·exact aG h
theorem Rx.keep (h:Rx B w0 W T E v n cs) (hb:Below W.heap.size W W'):Rx B w0 W' T E v n cs:=by
 rcases h with h | h
 ·exact .inl h
 ·exact .inr (aI h hb (aC _))
theorem Rx.other {T':TypeId} {g:Nat} {cur:Array Value} {z:Nat×Nat} (h:Rx B w0 W T E v n cs) (aK:∀b,b≠g→W'.heap[b]? =W.heap[b]?) (hg:W.heap[g]? =some (.cells cur T' z)) (eP:T≠T'):Rx B w0 W' T E v n cs:=by
 rcases h with h | h
 ·exact .inl h
 ·exact .inr (aF h aK hg eP)
theorem Rx.grown {T':TypeId} {E' n' base':Nat} {v':Value} {cs':List Value} (h:Rx B w0 W T E v n cs) (hv:W.ownsRow base' T' E' v' n' cs') (hg:W.grownBy W' v'.ownBlock) (eP:T≠T'):Rx B w0 W' T E v n cs:=by
 rcases h with h | h
 ·exact .inl h
 ·exact .inr (tJ h hv hg eP)
end
structure Rz (B:Nat) (w0 W:World) (z:cB) (l:Ls):Prop where
 dev:z.dev=l.dev
 epoch:z.epoch=l.epoch
 bU:z.bU=l.bU
 last:z.last=l.last
 s:Rx B w0 W 88 5 z.s.v l.sl.length (aJ jL l.sl)
 i:Rx B w0 W 56 2 z.i.v l.ids.length (aR l.ids)
 u:Rx B w0 W 3 1 z.u.v l.used.length (bS l.used)
section
variable {B:Nat} {w0 W W':World} {z:cB} {l:Ls}
theorem Rz.old (h:nV w0 z l):Rz B w0 W z l:=⟨h.dev,h.epoch,h.bU,h.last,.inl h.s,.inl h.i,.inl h.u⟩
theorem Rz.m (h:Rz B w0 W z l) (hb:Below w0.heap.size w0 W):nV W z l:=⟨h.dev,h.epoch,h.bU,h.last,h.s.sl hb,h.i.sl hb,h.u.sl hb⟩
theorem Rz.keep (h:Rz B w0 W z l) (hb:Below W.heap.size W W'):Rz B w0 W' z l:=⟨h.dev,h.epoch,h.bU,h.last,h.s.keep hb,h.i.keep hb,h.u.keep hb⟩
theorem Rz.other {T':TypeId} {g:Nat} {cur:Array Value} {zz:Nat×Nat} (h:Rz B w0 W z l) (aK:∀b,b≠g→W'.heap[b]? =W.heap[b]?) (hg:W.heap[g]? =some (.cells cur T' zz)) (h1: 88 ≠T') (h2: 56 ≠T') (h3: 3 ≠T'):Rz B w0 W' z l:=
 ⟨h.dev,h.epoch,h.bU,h.last,h.s.other aK hg h1,h.i.other aK hg h2,h.u.other aK hg h3⟩
end
structure Tz (w0 W:World) (B p r:Nat) (rX:List cB) (CW:List Ls) (i:Nat) (y:dN) (cs:List Ct) (fr:List Rg) (bd:List Int) (z:cB) (l:Ls):Prop where
 bC:Below w0.heap.size w0 W
 kb:Bx W p y
 kr:Bx W r Oa
 hp:w0.heap.size≤p
 pB:p<B
 rB:r<B
 ne:p≠r
 wB:w0.heap.size≤B
 rc:W.ownsRow B 54 7 y.c.v cs.length (aJ kY cs)
 rl:W.ownsRow B 48 7 y.l.v rX.length (aJ j_ (rX.set i z))
 rf:Rx B w0 W 56 2 y.f.v fr.length (aR fr)
 rb:Rx B w0 W 3 1 y.b.v bd.length (bS bd)
 old:bN (nV w0) rX CW
 re:Rz B w0 W z l
section
variable {w0 W W':World} {B p r i:Nat} {rX:List cB} {CW:List Ls} {y:dN} {cs:List Ct} {fr:List Rg} {bd:List Int} {z:cB} {l:Ls}
theorem Tz.lt (h:Tz w0 W B p r rX CW i y cs fr bd z l):p<W.heap.size:=h.kb.lt
theorem Tz.m (h:Tz w0 W B p r rX CW i y cs fr bd z l):iA W y ⟨cs,fr,CW.set i l,bd⟩:=by
 refine⟨aG h.rc,h.rf.sl h.bC,⟨rX.set i z,?_,(h.old.imp fun _ _ r=>r.keep h.bC (aC _)).set i (h.re.m h.bC)⟩,h.rb.sl h.bC⟩;show Sl _ _ _ (rX.set i z).length _;rw[List.length_set];exact aG h.rl
theorem Tz.keep (h:Tz w0 W B p r rX CW i y cs fr bd z l) (hb:Below W.heap.size W W'):Tz w0 W' B p r rX CW i y cs fr bd z l:=
 ⟨h.bC.trans (hb.mono h.bC.size),aj h.kb hb h.lt,aj h.kr hb h.kr.lt,h.hp,h.pB,h.rB,h.ne,h.wB,aI h.rc hb (aC _),aI h.rl hb (aC _),h.rf.keep hb,h.rb.keep hb,h.old,h.re.keep hb⟩
theorem Tz.WY (h:Tz w0 W B p r rX CW i y cs fr bd z l) {b':Sv} {bd':List Int} (ho:W.ownsRow B 3 1 b'.v bd'.length (bS bd')):
  Tz w0 (W.setCell ⟨p,3,none⟩ b'.v) B p r rX CW i ⟨y.c,y.f,y.l,b'⟩ cs fr bd' z l:=by
 have aK:∀c,c≠p→(W.setCell ⟨p,3,none⟩ b'.v).heap[c]? =W.heap[c]? :=fun c hc=>aX _ _ _ (fun e=>hc e.symm) _
 exact⟨h.bC.setCell h.hp _,vG h.kb _,(aK r (fun e=>h.ne e.symm)).trans h.kr,h.hp,h.pB,h.rB,h.ne,h.wB,aF h.rc aK h.kb (by decide),aF h.rl aK h.kb (by decide),h.rf.other aK h.kb (by decide),.inr (aF ho aK h.kb (by decide)),h.old,h.re.other aK h.kb (by decide) (by decide) (by decide)⟩
theorem Tz.Ev (h:Tz w0 W B p r rX CW i y cs fr bd z l) {f':Sv} {fr':List Rg} (ho:W.ownsRow B 56 2 f'.v fr'.length (aR fr')):
  Tz w0 (W.setCell ⟨p,1,none⟩ f'.v) B p r rX CW i ⟨y.c,f',y.l,y.b⟩ cs fr' bd z l:=by
 have aK:∀c,c≠p→(W.setCell ⟨p,1,none⟩ f'.v).heap[c]? =W.heap[c]? :=fun c hc=>aX _ _ _ (fun e=>hc e.symm) _
 exact⟨h.bC.setCell h.hp _,oC h.kb _,(aK r (fun e=>h.ne e.symm)).trans h.kr,h.hp,h.pB,h.rB,h.ne,h.wB,aF h.rc aK h.kb (by decide),aF h.rl aK h.kb (by decide),.inr (aF ho aK h.kb (by decide)),h.rb.other aK h.kb (by decide),h.old,h.re.other aK h.kb (by decide) (by decide) (by decide)⟩
theorem Tz.zF (h:Tz w0 W B p r rX CW i y cs fr bd z l) {g n cap:Nat} (hx:y.c=⟨some ⟨g,0,none⟩,n,cap⟩) (k:Nat) (hk:k<cs.length) (j:Nat) (hj:j<7) (u:Value) (c':Ct) (hc:(kY cs[k]).set j u=kY c'):
  Tz w0 (W.setCell ⟨g,k*7+j,none⟩ u) B p r rX CW i y (cs.set k c') fr bd z l:=by
 have aK:∀c,c≠g→(W.setCell ⟨g,k*7+j,none⟩ u).heap[c]? =W.heap[c]? :=fun c hc=>aX _ _ _ (fun e=>hc e.symm) _
 have rT:=h.rc;rw[hx]at rT;simp only[Sv.v]at rT
 have hn:n=cs.length:=by
  obtain⟨_,_,he,_,_⟩:=aO rT;injection he with _ he _
 subst hn;obtain⟨cur,hg⟩:=eB rT;have hB:B≤g:=(bg rT).1;have Qh:=h.pB;have hrB:=h.rB;have iW:=dV rT (k*7+j) (by rw[bP fG];omega) u;rw[rJ fG _ k hk j hj u c' hc]at iW;refine⟨h.bC.setCell (Nat.le_trans h.wB hB) _,(aK p (by omega)).trans h.kb,(aK r (by omega)).trans h.kr,h.hp,h.pB,h.rB,h.ne,h.wB,?_,aF h.rl aK hg (by decide),h.rf.other aK hg (by decide),h.rb.other aK hg (by decide),h.old,h.re.other aK hg (by decide) (by decide) (by decide)⟩;rw[hx];show World.ownsRow _ _ _ _ _ (cs.set k c').length _;rw[List.length_set];exact iW
theorem Tz.TW (h:Tz w0 W B p r rX CW i y cs fr bd z l) (hi:i<rX.length) {g n cap:Nat} (hx:y.l=⟨some ⟨g,0,none⟩,n,cap⟩) (j:Nat) (hj:j<7) (u:Value) (z':cB) (l':Ls) (hz:(j_ z).set j u=j_ z') (hl:Rz B w0 W z' l'):
  Tz w0 (W.setCell ⟨g,i*7+j,none⟩ u) B p r rX CW i y cs fr bd z' l':=by
 have aK:∀c,c≠g→(W.setCell ⟨g,i*7+j,none⟩ u).heap[c]? =W.heap[c]? :=fun c hc=>aX _ _ _ (fun e=>hc e.symm) _
 have uW:=h.rl;rw[hx]at uW;simp only[Sv.v]at uW
 have hn:n=rX.length:=by
  obtain⟨_,_,he,_,_⟩:=aO uW;injection he with _ he _
 subst hn;obtain⟨cur,hg⟩:=eB uW;have hB:B≤g:=(bg uW).1;have Qh:=h.pB;have hrB:=h.rB;have nJ:i<(rX.set i z).length:=by rw[List.length_set];exact hi
 have iW:=dV uW (i*7+j) (by rw[bP iE,List.length_set];omega) u;rw[rJ iE _ i nJ j hj u z' (by rw[List.getElem_set_self];exact hz),List.set_set]at iW;refine⟨h.bC.setCell (Nat.le_trans h.wB hB) _,(aK p (by omega)).trans h.kb,(aK r (by omega)).trans h.kr,h.hp,h.pB,h.rB,h.ne,h.wB,aF h.rc aK hg (by decide),?_,h.rf.other aK hg (by decide),h.rb.other aK hg (by decide),h.old,hl.other aK hg (by decide) (by decide) (by decide)⟩;rw[hx];exact iW
theorem Tz.GV (h:Tz w0 W B p r rX CW i y cs fr bd z l) {g n cap:Nat} (hx:z.s=⟨some ⟨g,0,none⟩,n,cap⟩) (hs:W.ownsRow B 88 5 z.s.v l.sl.length (aJ jL l.sl)) (k:Nat) (hk:k<l.sl.length) (j:Nat) (hj:j<5) (u:Value) (c':Sc) (hc:(jL l.sl[k]).set j u=jL c'):
  Tz w0 (W.setCell ⟨g,k*5+j,none⟩ u) B p r rX CW i y cs fr bd z ⟨l.dev,l.epoch,l.bU,l.last,l.sl.set k c',l.ids,l.used⟩:=by
 have aK:∀c,c≠g→(W.setCell ⟨g,k*5+j,none⟩ u).heap[c]? =W.heap[c]? :=fun c hc=>aX _ _ _ (fun e=>hc e.symm) _
 rw[hx]at hs;simp only[Sv.v]at hs
 have hn:n=l.sl.length:=by
  obtain⟨_,_,he,_,_⟩:=aO hs;injection he with _ he _
 subst hn;obtain⟨cur,hg⟩:=eB hs;have hB:B≤g:=(bg hs).1;have Qh:=h.pB;have hrB:=h.rB;have iW:=dV hs (k*5+j) (by rw[bP gQ];omega) u;rw[rJ gQ _ k hk j hj u c' hc]at iW;refine⟨h.bC.setCell (Nat.le_trans h.wB hB) _,(aK p (by omega)).trans h.kb,(aK r (by omega)).trans h.kr,h.hp,h.pB,h.rB,h.ne,h.wB,aF h.rc aK hg (by decide),aF h.rl aK hg (by decide),h.rf.other aK hg (by decide),h.rb.other aK hg (by decide),h.old,⟨h.re.dev,h.re.epoch,h.re.bU,h.re.last,.inr ?_,h.re.i.other aK hg (by decide),h.re.u.other aK hg (by decide)⟩⟩;rw[hx];show World.ownsRow _ _ _ _ _ (l.sl.set k c').length _;rw[List.length_set];exact iW
theorem Tz.afn (h:Tz w0 W B p r rX CW i y cs fr bd z l) (hi:i<rX.length) {g n cap:Nat} (hx:y.l=⟨some ⟨g,0,none⟩,n,cap⟩) {zs:List Value} {m:Nat} (hv:W.ownsRow B 88 5 z.s.v m zs) (hg:W.grownBy W' z.s.v.ownBlock) (hb:Below w0.heap.size w0 W')
  {s':Sv} {sl':List Sc} (ho:W'.ownsRow B 88 5 s'.v sl'.length (aJ jL sl')):
  Tz w0 (W'.setCell ⟨g,i*7+4,none⟩ s'.v) B p r rX CW i y cs fr bd ⟨z.dev,z.epoch,z.bU,z.last,s',z.i,z.u⟩ ⟨l.dev,l.epoch,l.bU,l.last,sl',l.ids,l.used⟩:=by
 have k1:Bx W' p y:=A_ h.kb hv hg (by decide);have k2:Bx W' r Oa:=A_ h.kr hv hg (by decide);have uW:=tJ h.rl hv hg (by decide);rw[hx]at uW;simp only[Sv.v]at uW
 have hn:n=rX.length:=by
  obtain⟨_,_,he,_,_⟩:=aO uW;injection he with _ he _
 subst hn;have aK:∀c,c≠g→(W'.setCell ⟨g,i*7+4,none⟩ s'.v).heap[c]? =W'.heap[c]? :=fun c hc=>aX _ _ _ (fun e=>hc e.symm) _
 obtain⟨cur,hgg⟩:=eB uW;have hB:B≤g:=(bg uW).1;have Qh:=h.pB;have hrB:=h.rB;have nJ:i<(rX.set i z).length:=by rw[List.length_set];exact hi
 have iW:=dV uW (i*7+4) (by rw[bP iE,List.length_set];omega) s'.v;rw[rJ iE _ i nJ 4 (by omega) s'.v ⟨z.dev,z.epoch,z.bU,z.last,s',z.i,z.u⟩ (by rw[List.getElem_set_self];rfl),List.set_set]at iW
 refine⟨hb.setCell (Nat.le_trans h.wB hB) _,(aK p (by omega)).trans k1,(aK r (by omega)).trans k2,h.hp,h.pB,h.rB,h.ne,h.wB,aF (tJ h.rc hv hg (by decide)) aK hgg (by decide),?_,(h.rf.grown hv hg (by decide)).other aK hgg (by decide),(h.rb.grown hv hg (by decide)).other aK hgg (by decide),h.old,
  ⟨h.re.dev,h.re.epoch,h.re.bU,h.re.last,.inr (aF ho aK hgg (by decide)),(h.re.i.grown hv hg (by decide)).other aK hgg (by decide),(h.re.u.grown hv hg (by decide)).other aK hgg (by decide)⟩⟩
 rw[hx];exact iW
theorem LZ {s:Sv} {g n cap:Nat} (hv:s.v= .slice (some ⟨g,0,none⟩) n cap):s=⟨some ⟨g,0,none⟩,n,cap⟩:=by
 obtain⟨a,b,c⟩:=s;simp only[Sv.v]at hv;injection hv with h1 h2 h3;subst h1 h2 h3;rfl
theorem Tz.cellC (h:Tz w0 W B p r rX CW i y cs fr bd z l) (hk:0<cs.length):∃g cap,y.c=⟨some ⟨g,0,none⟩,cs.length,cap⟩∧cs.length≤cap∧cap≤9223372036854775807∧(∀o,W.frozen? ⟨g,o,none⟩=false)∧ ∀k (hk:k<cs.length) j u,j<7→(kY cs[k])[j]? =some u→W.cell? ⟨g,k*7+j,none⟩=some u:=by
 have rT:=h.rc;obtain⟨g,cap,hv⟩:=fT rT (by omega);have hx:=LZ hv;rw[hv]at rT;obtain⟨b1,b2,b3,b4,b5,b6,b7⟩:=bg rT;exact⟨g,cap,hx,b3,b4,b6,fun k hk j u hj hu=>b7 _ _ (by rw[bV fG _ k hk j hj];exact hu)⟩
theorem Tz.cellL (h:Tz w0 W B p r rX CW i y cs fr bd z l) (hi:i<rX.length):∃g cap,y.l=⟨some ⟨g,0,none⟩,rX.length,cap⟩∧rX.length≤cap∧cap≤9223372036854775807∧(∀o,W.frozen? ⟨g,o,none⟩=false)∧g≠p∧g≠r∧g<W.heap.size∧B≤g∧ ∀j u,j<7→(j_ z)[j]? =some u→W.cell? ⟨g,i*7+j,none⟩=some u:=by
 have uW:=h.rl;obtain⟨g,cap,hv⟩:=fT uW (by omega);have hx:=LZ hv;rw[hv]at uW;obtain⟨b1,b2,b3,b4,b5,b6,b7⟩:=bg uW;have h1:=h.pB;have h2:=h.rB;refine⟨g,cap,hx,b3,b4,b6,by omega,by omega,b2,b1,fun j u hj hu=>b7 _ _ ?_⟩;have nJ:i<(rX.set i z).length:=by rw[List.length_set];exact hi
 rw[bV iE _ i nJ j hj,List.getElem_set_self];exact hu
end
theorem tY (x y:dN) (a b:Bk) (w:World) (h:iA w x a) (h':iA w y b):
  Calls Tryz.prog 17 #[iJ x,iJ y] w fun e w'=>e= .returned (.bool (decide (a=b)))∧Below w.heap.size w w':=by
 obtain⟨⟨ca,cn,cc⟩,⟨fa,bD,fc⟩,⟨la,ln,lc⟩,⟨ba,bE,bc⟩⟩:=x;obtain⟨⟨NZ,Xu,cc'⟩,⟨LW,xB,LX⟩,⟨LY,U6,IJ⟩,⟨ba',vL,bc'⟩⟩:=y;obtain⟨a1,a2,a3,a4⟩:=a;obtain⟨b1,b2,b3,b4⟩:=b;obtain⟨hc,hf,hl,sj⟩:=h;obtain⟨hc',hf',hl',XC⟩:=h';generalize ny:decide ((⟨a1,a2,a3,a4⟩:Bk)=⟨b1,b2,b3,b4⟩)=res;have fO:=ah ny;clear ny;obtain⟨xs,hx,nR⟩:=hl;obtain⟨ys,hy,oZ⟩:=hl';obtain⟨hn,dO,hm⟩:=Sl.lens hc;obtain⟨hn',mY,hm'⟩:=Sl.lens hc';obtain⟨uw,hcap2,hm2⟩:=Sl.lens hx;obtain⟨XD,Q0,afo⟩:=Sl.lens hy;have hlx:=nR.len;have U1:=oZ.len;simp only at hc hf hx sj hc' hf' hy XC hn dO hm hn' mY hm' uw hcap2 hm2 XD Q0 afo hlx U1 nR oZ;rw[hlx]at uw hcap2;rw[U1]at XD Q0;subst hn hn' uw XD;have OQ:=ah hlx;have YS:=ah U1;clear hlx U1;have bB:Below w.heap.size w ((w.alloc (.cells #[.slice ca a1.length cc,.slice fa bD fc,.slice la a3.length lc,.slice ba bE bc] 30)).alloc (.cells #[.slice NZ b1.length cc',.slice LW xB LX,.slice LY b3.length IJ,.slice ba' vL bc'] 30)):=((aL _ _).alloc (aC _) _).alloc (by simp) _;have k1:=bX w (.cells #[.slice ca a1.length cc,.slice fa bD fc,.slice la a3.length lc,.slice ba bE bc] 30) (.cells #[.slice NZ b1.length cc',.slice LW xB LX,.slice LY b3.length IJ,.slice ba' vL bc'] 30);have k2:=bL w (.cells #[.slice ca a1.length cc,.slice fa bD fc,.slice la a3.length lc,.slice ba bE bc] 30) (.cells #[.slice NZ b1.length cc',.slice LW xB LX,.slice LY b3.length IJ,.slice ba' vL bc'] 30);have f_:w.heap.size+1<((w.alloc (.cells #[.slice ca a1.length cc,.slice fa bD fc,.slice la a3.length lc,.slice ba bE bc] 30)).alloc (.cells #[.slice NZ b1.length cc',.slice LW xB LX,.slice LY b3.length IJ,.slice ba' vL bc'] 30)).heap.size:=by simp
 have fJ:=ah k1;have eT:=ah k2;clear k1 k2;change Calls Tryz.prog _ #[.agg #[.slice ca a1.length cc,.slice fa bD fc,.slice la a3.length lc,.slice ba bE bc],.agg #[.slice NZ b1.length cc',.slice LW xB LX,.slice LY b3.length IJ,.slice ba' vL bc']] w _
 go_enter Tryz.func17,Tryz.ntmps17
 go_upto_region 1 with fail
 generalize (w.alloc (.cells #[.slice ca a1.length cc,.slice fa bD fc,.slice la a3.length lc,.slice ba bE bc] 30)).alloc (.cells #[.slice NZ b1.length cc',.slice LW xB LX,.slice LY b3.length IJ,.slice ba' vL bc'] 30)=w2 at*;have je:=dI.keep hc bB (aC _);have hc2':=dI.keep hc' bB (aC _);have hf2:=fD.keep hf bB (aC _);have abd:=fD.keep hf' bB (aC _);have tN:=dI.keep hx bB (aC _);have Ep:=dI.keep hy bB (aC _);have FZ:=jv.keep sj bB (aC _);have SI:=jv.keep XC bB (aC _);have wE:=ah (bN.imp (fun _ _ r=>nV.keep r bB (aC _)) nR);have pV:=ah (bN.imp (fun _ _ r=>nV.keep r bB (aC _)) oZ);clear hc hc' hf hf' hx hy sj XC nR oZ
 go_cut[0,1,38] (fun _ _ v38 wx=>v38= .bool (!(decide (a1.length=b1.length)&&(decide (a3.length=b3.length)&&(decide (a2=b2)&&decide (a4=b4)))))∧Below w2.heap.size w2 wx)
 case first=>
  obtain⟨q0,q1,q2,q3,_⟩:=ay fJ.out;obtain⟨p0,p1,p2,p3,_⟩:=ay eT.out;have KS:Hid (∀W,Below w2.heap.size w2 W→(W.cell? ⟨w.heap.size,3,none⟩=some (.slice ba bE bc)∧W.cell? ⟨w.heap.size+1,3,none⟩=some (.slice ba' vL bc'))):=fun W hW=>⟨by rw[hW.cell (p:=⟨w.heap.size,3,none⟩) (by show w.heap.size<_;omega)];exact q3,by rw[hW.cell (p:=⟨w.heap.size+1,3,none⟩) f_];exact p3⟩
  go_wp2_with (first
   | (go_at_call 60;refine(FQ _ _ _ _ _ hf2 abd).mono ?_;rintro e w3 ⟨rfl,bT⟩;obtain⟨c6,c6'⟩:=KS.out _ bT)
   | (go_at_call 61;refine(FR _ _ _ _ _ (jv.keep FZ bT (aC _)) (jv.keep SI bT (aC _))).mono ?_;rintro e w4 ⟨rfl,bR⟩))
  all_goals go_meet
  all_goals refine⟨?_,?_⟩
  all_goals first
   | exact bT.trans (bR.mono bT.size)
   | exact bT
   | exact aL _ _
   | (simp [*];done)
   | (simp [*];omega)
   | (have gl:a1.length=b1.length:=by omega
      have gl2:a3.length=b3.length:=by omega
      simp[*];done)
   | (have gl:¬a1.length=b1.length:=by omega
      simp[*];done)
   | (have gl:¬a3.length=b3.length:=by omega
      simp[*];done)
   | (have gl:a1.length=b1.length:=by omega
      have gl2:¬a3.length=b3.length:=by omega
      simp[*];done)
 case rest=>
 obtain⟨hv,hb⟩:=hcut;generalize hbb:(decide (a1.length=b1.length)&&(decide (a3.length=b3.length)&&(decide (a2=b2)&&decide (a4=b4))))=bb at*;subst hv
 have TY:Hid (decide (a1=b1)=false∨decide (a3=b3)=false∨bb=false→res=false):=fun hh=>by
  rw[←fO.out,decide_eq_false_iff_not];intro e;injection e with e1 e2 e3 e4;subst e1 e2 e3 e4;rcases hh with hh | hh | hh
  ·simp at hh
  ·simp at hh
  ·rw[hh]at hbb;simp at hbb
 cases bb with
 | false=>
  have jW:=bB.trans (hb.mono bB.size);clear hbb;go_wp2;go_ret;exact⟨aH (by rw[TY.out (.inr (.inr (by first | rfl | trivial)))]),jW⟩
 | true=>
  simp only[Bool.and_eq_true,decide_eq_true_iff]at hbb;obtain⟨e1,e2,e3,e4⟩:=hbb
  have HTF:Hid (a1=b1→a3=b3→res=true):=fun h1 h2=>by
   rw[←fO.out];subst h1 h2 e3 e4;simp
  have iL:=ah e1;have U8:=ah e2;clear e1 e2 e3 e4;go_upto_block 0 with fail
  go_cut[5] (fun _ wx=>a1=b1∧Below w2.heap.size w2 wx)
  case first=>
   go_wp2
   go_loopw[5] (fun vi wr=>∃k:Nat,k≤a1.length∧vi= .int .i64 k∧a1.take k=b1.take k∧Below w2.heap.size w2 wr) (fun vi _=>a1.length-(intOf vi).toNat)
   case atStart=>exact⟨0,Nat.zero_le _,rfl,rfl,hb⟩
   case round=>
    obtain⟨k,hk,rfl,htk,xJ⟩:=hrel;have HT:=ah htk;clear htk;obtain⟨q0,q1,q2,q3,_⟩:=ay (aj fJ.out xJ (by omega));obtain⟨p0,p1,p2,p3,_⟩:=ay (aj eT.out xJ f_);clear q1 q2 q3 p1 p2 p3;rcases Nat.lt_or_ge k a1.length with bA | gX
    ·have sN:k<b1.length:=by rw[←iL.out];exact bA
     obtain⟨b,off,rfl,kZ,c0,c1,c2,c3,c4,c5,c6⟩:=dI.ct je xJ (aC _) k bA;obtain⟨b',off',rfl,Ck,d0,d1,d2,d3,d4,d5,d6⟩:=dI.ct hc2' xJ (aC _) k sN;have HS:Hid (a1[k]=b1[k]→a1.take (k+1)=b1.take (k+1)):=fun hh=>by rw[aS a1 k bA,aS b1 k sN,HT.out,hh]
     have mM:Hid (a1[k]≠b1[k]→decide (a1=b1)=false):=fun hh=>by
      rw[decide_eq_false_iff_not];rintro rfl;exact hh rfl
     have Em:Below w.heap.size w wr:=bB.trans (xJ.mono bB.size);have jK:(k:Int)<a1.length:=by omega
     have Za:(k:Int)<b1.length:=by omega
     generalize a1[k]=r at*;generalize b1[k]=r' at*;obtain⟨r1,r2,r3,r4,r5,r6,r7⟩:=r;obtain⟨t1,t2,t3,t4,t5,t6,t7⟩:=r';simp only at c0 c1 c2 c3 c4 c5 c6 d0 d1 d2 d3 d4 d5 d6;by_cases g0:r1=t1
     ·subst g0
      by_cases g1:r2=t2
      ·subst g1
       by_cases g2:r3=t3
       ·subst g2
        by_cases g3:r4=t4
        ·subst g3
         by_cases g4:r5=t5
         ·subst g4
          by_cases g5:r6=t6
          ·subst g5
           by_cases g6:r7=t7
           ·subst g6
            have Vv:=ah (HS.out (by first | rfl | trivial));clear HS mM;go_wp2;go_quiet (fail)
            go_wp2;go_roundw
            case rel=>exact⟨k+1,by omega,by go_num,Vv.out,below_drewN xJ _⟩
            case measure=>simp[intOf];omega
           ·have s1:(r7==t7)=false:=by simpa using g6
            have HN:=ah g6;clear g6;have sS:=ah (mM.out (by intro e;injection e with e1 e2 e3 e4 e5 e6 e7;exact HN.out e7));clear HS mM;go_wp2;go_quiet (fail)
            go_wp2;go_ret;exact⟨aH (by rw[TY.out (.inl sS.out)]),below_drewN Em _⟩
          ·have s1:(r6==t6)=false:=by simpa using g5
           have HN:=ah g5;clear g5;have sS:=ah (mM.out (by intro e;injection e with e1 e2 e3 e4 e5 e6 e7;exact HN.out e6));clear HS mM;go_wp2;go_quiet (fail)
           go_wp2;go_ret;exact⟨aH (by rw[TY.out (.inl sS.out)]),below_drewN Em _⟩
         ·have s1:(r5==t5)=false:=by simpa using g4
          have HN:=ah g4;clear g4;have sS:=ah (mM.out (by intro e;injection e with e1 e2 e3 e4 e5 e6 e7;exact HN.out e5));clear HS mM;go_wp2;go_quiet (fail)
          go_wp2;go_ret;exact⟨aH (by rw[TY.out (.inl sS.out)]),below_drewN Em _⟩
        ·have s1:(r4==t4)=false:=by simpa using g3
         have HN:=ah g3;clear g3;have sS:=ah (mM.out (by intro e;injection e with e1 e2 e3 e4 e5 e6 e7;exact HN.out e4));clear HS mM;go_wp2;go_quiet (fail)
         go_wp2;go_ret;exact⟨aH (by rw[TY.out (.inl sS.out)]),below_drewN Em _⟩
       ·have s1:(r3==t3)=false:=by simpa using g2
        have HN:=ah g2;clear g2;have sS:=ah (mM.out (by intro e;injection e with e1 e2 e3 e4 e5 e6 e7;exact HN.out e3));clear HS mM;go_wp2;go_quiet (fail)
        go_wp2;go_ret;exact⟨aH (by rw[TY.out (.inl sS.out)]),below_drewN Em _⟩
      ·have s1:(r2==t2)=false:=by simpa using g1
       have HN:=ah g1;clear g1;have sS:=ah (mM.out (by intro e;injection e with e1 e2 e3 e4 e5 e6 e7;exact HN.out e2));clear HS mM;go_wp2;go_quiet (fail)
       go_wp2;go_ret;exact⟨aH (by rw[TY.out (.inl sS.out)]),below_drewN Em _⟩
     ·have s1:(r1.toList==t1.toList)=false:=by rw[key_eq];simpa using g0
      have HN:=ah g0;clear g0;have sS:=ah (mM.out (by intro e;injection e with e1 e2 e3 e4 e5 e6 e7;exact HN.out e1));clear HS mM;go_wp2;go_quiet (fail)
      go_wp2;go_ret;exact⟨aH (by rw[TY.out (.inl sS.out)]),below_drewN Em _⟩
    ·have e1:decide (k<a1.length)=false:=by simpa using gX
     have Zb:Hid (a1=b1):=by
      show _=_;have:=HT.out;rw[List.take_of_length_le (by omega),List.take_of_length_le (by have:=iL.out;omega)]at this;exact this
     go_wp2;go_meet;exact⟨Zb.out,xJ⟩
  case rest=>
  obtain⟨FX,hbc⟩:=hcut;have HE1:=ah FX;clear FX hb;go_wp2
  go_loopw[6] (fun vi wr=>∃k:Nat,k≤a3.length∧vi= .int .i64 k∧a3.take k=b3.take k∧Below w2.heap.size w2 wr) (fun vi _=>a3.length-(intOf vi).toNat)
  case atStart=>exact⟨0,Nat.zero_le _,rfl,rfl,hbc⟩
  case round=>
   obtain⟨k,hk,rfl,htk,xJ⟩:=hrel;have HT:=ah htk;clear htk hbc;have Em:Below w.heap.size w wr:=bB.trans (xJ.mono bB.size);obtain⟨_,_,n2,_,_⟩:=ay (aj fJ.out xJ (by omega));rcases Nat.lt_or_ge k a3.length with bA | gX
   ·have sN:k<b3.length:=by rw[←U8.out];exact bA
    have hltx:k<xs.length:=by rw[OQ.out];exact bA
    have hlty:k<ys.length:=by rw[YS.out];exact sN
    have hMx:=bN.at wE.out k hltx bA;have hMy:=bN.at pV.out k hlty sN;rw[←OQ.out]at tN;rw[←YS.out]at Ep;obtain⟨b,off,rfl,kZ,-⟩:=dI.ls tN xJ (aC _) k hltx;obtain⟨b',off',rfl,Ck,-⟩:=dI.ls Ep xJ (aC _) k hlty
    have KS:Hid (∀W,Below w2.heap.size w2 W→(Below w2.heap.size w2 W∧
      W.cell? ⟨w.heap.size,2,none⟩=some (.slice (some ⟨b,off,none⟩) a3.length lc)∧W.cell? ⟨w.heap.size+1,2,none⟩=some (.slice (some ⟨b',off',none⟩) b3.length IJ)∧
      W.cell? ⟨b,off+k*7,none⟩=some (.int .i64 xs[k].dev)∧W.cell? ⟨b,off+k*7+1,none⟩=some (.int .i64 xs[k].epoch)∧W.cell? ⟨b,off+k*7+2,none⟩=some (.int .i64 xs[k].bU)∧W.cell? ⟨b,off+k*7+3,none⟩=some (.int .i64 xs[k].last)∧W.cell? ⟨b,off+k*7+4,none⟩=some xs[k].s.v∧W.cell? ⟨b,off+k*7+5,none⟩=some xs[k].i.v∧W.cell? ⟨b,off+k*7+6,none⟩=some xs[k].u.v∧
      W.cell? ⟨b',off'+k*7,none⟩=some (.int .i64 ys[k].dev)∧W.cell? ⟨b',off'+k*7+1,none⟩=some (.int .i64 ys[k].epoch)∧W.cell? ⟨b',off'+k*7+2,none⟩=some (.int .i64 ys[k].bU)∧W.cell? ⟨b',off'+k*7+3,none⟩=some (.int .i64 ys[k].last)∧W.cell? ⟨b',off'+k*7+4,none⟩=some ys[k].s.v∧W.cell? ⟨b',off'+k*7+5,none⟩=some ys[k].i.v∧W.cell? ⟨b',off'+k*7+6,none⟩=some ys[k].u.v)):=fun W hW=>by
     obtain⟨q0,q1,q2,q3,_⟩:=ay (aj fJ.out hW (by omega));obtain⟨p0,p1,p2,p3,_⟩:=ay (aj eT.out hW f_);obtain⟨_,_,he,_,c0,c1,c2,c3,c4,c5,c6⟩:=dI.ls tN hW (aC _) k hltx;obtain⟨_,_,he',_,d0,d1,d2,d3,d4,d5,d6⟩:=dI.ls Ep hW (aC _) k hlty;injection he with he;injection he with FX he2 _;injection he' with he';injection he' with afp afq _;subst FX he2 afp afq;exact⟨hW,q2,p2,c0,c1,c2,c3,c4,c5,c6,d0,d1,d2,d3,d4,d5,d6⟩
    have HS:Hid (decide (a3[k]=b3[k])=true→a3.take (k+1)=b3.take (k+1)):=fun hh=>by rw[aS a3 k bA,aS b3 k sN,HT.out,of_decide_eq_true hh]
    have mM:Hid (decide (a3[k]=b3[k])=false→decide (a3=b3)=false):=fun hh=>by
     rw[decide_eq_false_iff_not]at hh ⊢;rintro rfl;exact hh rfl
    have HSL:Hid (∀W,Below w2.heap.size w2 W→Calls Tryz.prog 27 #[o9 xs[k],o9 ys[k]] W fun e w'=>e= .returned (.bool (decide (a3[k]=b3[k])))∧Below w2.heap.size w2 w'):=fun W hW=>
     (mO xs[k] ys[k] a3[k] b3[k] W (hMx.keep hW (aC _)) (hMy.keep hW (aC _))).mono fun _ _ ⟨g1,g2⟩=>⟨g1,hW.trans (g2.mono hW.size)⟩
    have jK:(k:Int)<a3.length:=by omega
    have Za:(k:Int)<b3.length:=by omega
    have k0:(0:Int)≤(k:Int):=by omega
    clear hMx hMy je hc2' hf2 abd FZ SI tN Ep;generalize decide (a3[k]=b3[k])=q at*;generalize xs[k]=r at*;generalize ys[k]=r' at*;obtain⟨r1,r2,r3,r4,⟨r5,r6,r7⟩,⟨r8,r9,r10⟩,⟨r11,r12,r13⟩⟩:=r;obtain⟨t1,t2,t3,t4,⟨t5,t6,t7⟩,⟨t8,t9,t10⟩,⟨t11,t12,t13⟩⟩:=r';simp only[Sv.v]at KS;go_upto_region 11 with(fail)
    go_cut[75] (fun v75 wx=>v75= .bool (!q)∧Below w2.heap.size w2 wx)
    case first=>
     first
      | (go_region_held3 (fun w'=>Below w2.heap.size w2 w'∧w'.cell? ⟨w.heap.size,2,none⟩=some (.slice (some ⟨b,off,none⟩) a3.length lc)∧w'.cell? ⟨w.heap.size+1,2,none⟩=some (.slice (some ⟨b',off',none⟩) b3.length IJ)∧w'.cell? ⟨b,off+k*7,none⟩=some (.int .i64 r1)∧w'.cell? ⟨b,off+k*7+1,none⟩=some (.int .i64 r2)∧w'.cell? ⟨b,off+k*7+2,none⟩=some (.int .i64 r3)∧w'.cell? ⟨b,off+k*7+3,none⟩=some (.int .i64 r4)∧w'.cell? ⟨b,off+k*7+4,none⟩=some (.slice r5 r6 r7)∧w'.cell? ⟨b,off+k*7+5,none⟩=some (.slice r8 r9 r10)∧w'.cell? ⟨b,off+k*7+6,none⟩=some (.slice r11 r12 r13)∧w'.cell? ⟨b',off'+k*7,none⟩=some (.int .i64 t1)∧w'.cell? ⟨b',off'+k*7+1,none⟩=some (.int .i64 t2)∧w'.cell? ⟨b',off'+k*7+2,none⟩=some (.int .i64 t3)∧w'.cell? ⟨b',off'+k*7+3,none⟩=some (.int .i64 t4)∧w'.cell? ⟨b',off'+k*7+4,none⟩=some (.slice t5 t6 t7)∧w'.cell? ⟨b',off'+k*7+5,none⟩=some (.slice t8 t9 t10)∧w'.cell? ⟨b',off'+k*7+6,none⟩=some (.slice t11 t12 t13)) (first | assumption | exact KS.out _ (by assumption) | exact KS.out _ xJ.drew)
          (first | (go_at_call 27;(with_reducible refine(HSL.out _ (by go_split_ands;assumption)).mono ?_);rintro e w9 ⟨rfl,jW⟩)))
      | fail
     all_goals
      go_wp2;go_meet;exact⟨by rfl,by assumption⟩
    case rest=>
    obtain⟨rfl,jW⟩:=hcut;have afr:=bB.trans (jW.mono bB.size);clear KS HSL
    cases q with
    | true=>
     have Vv:=ah (HS.out (by first | rfl | trivial));clear HS mM;go_wp2;go_roundw
     case rel=>exact⟨k+1,by omega,by go_num,Vv.out,jW⟩
     case measure=>simp[intOf];omega
    | false=>
     have sS:=ah (mM.out (by first | rfl | trivial));clear HS mM;go_wp2;go_ret;exact⟨aH (by rw[TY.out (.inr (.inl sS.out))]),afr⟩
   ·have e1:decide (k<a3.length)=false:=by simpa using gX
    have Zb:Hid (a3=b3):=by
     show _=_;have:=HT.out;rw[List.take_of_length_le (by omega),List.take_of_length_le (by have:=U8.out;omega)]at this;exact this
    obtain⟨q0,q1,q2,q3,_⟩:=ay (aj fJ.out xJ (by omega));clear q0 q1 q3;go_wp2;go_ret;exact⟨aH (by rw[HTF.out HE1.out Zb.out]),Em⟩
section
attribute [local go_sem ↓] Go.wp_at_zero Go.wp_at_succ
theorem XE (w W:World) (x:uz) (ya yb y z:dN) (b2:Bk) (g:Int) (p29 IE:Nat) (h:Dq w W x ya yb) (hy:iA W y b2) (hz:iA W z b2) (hk:W.heap[p29]? =some (.cells #[y.c.v,y.f.v,y.l.v,y.b.v] 30 (0,0))) (hl:W.heap[IE]? =some (.cells #[z.c.v,z.f.v,z.l.v,z.b.v] 30 (0,0))) (hp:w.heap.size+1+1+1+1<p29) (hq:w.heap.size+1+1+1+1<IE) {u0 u1 u2 u8 u9 u10 u11 u12 u13 u14 u15 u16 u17 u18 u19 u20 u21 u22 u23 u24 u25 u26 u27 u28 u33 u34 u35 u36 u37 u38 u39 u40 u41 u42 u43 u44 u45 u46 u47 u48 u49 u50 u51 u52 u53 u54 u55 u56 u57 u58 u59 u60 u61 u62 u63 u64 u65 u66 u67 u68 u69 u70 u71 u72 u73 u74 u75 u76 u77 u78 u79 u80 u81 u82 u83 u84 u85 u86 u87 u88 u89 u90 u91 u92 u93 u94 u95 u96 u97 u98 u99 u100 u101 u102 u103 u104 u105 u106 u107 u108 u109 u110 u111 u112 u113 u114 u115 u116 u117 u118 u119 u120 u121 u122 u123 u124 u125 u126 u127 u128 u129 u130 u131 u132 u133 u134 u135 u136 u137 u138 u139 u140 u141 u142 u143 u144 u145 u146 u147 u148 u149 u150 u151 u152 u153 u154 u155 u156 u157 u158 u159 u160 u161 u162 u163 u164 u165 u166 u167 u168 u169 u170 u171 u172 u173 u174 u175 u176 u177 u178 u179 u180 u181 u182 u183 u184 u185 u186 u187 u188 u189 u190 u191 u192 u193 u194 u195 u196 u197 u198 u199 u200 u201 u202 u203 u204 u205 u206 u207 u208 u209 u210 u211 u212 u213 u214 u215 u216 u217 u218 u219 u220 u221 u222 u223 u224 u225 u226 u227 u228 u229 u230 u231 u232 u233 u234 u235 u236 u237 u238:Value}:
  ∀c,Tryz.f10.body.bind (spine 16)=some c→Code.wp Tryz.prog c (bodyPost Tryz.prog Tryz.f10 (qJ w b2)) ⟨#[u0,u1,u2,.pointer (some ⟨w.heap.size,0,none⟩),.pointer (some ⟨w.heap.size+1,0,none⟩),.pointer (some ⟨w.heap.size+1+1,0,none⟩),.pointer (some ⟨w.heap.size+1+1+1,0,none⟩),.pointer (some ⟨w.heap.size+1+1+1+1,0,none⟩),u8,u9,u10,u11,u12,u13,u14,u15,u16,u17,u18,u19,u20,u21,u22,u23,u24,u25,u26,u27,u28,.pointer (some ⟨p29,0,none⟩),.int .i64 g,.pointer (some ⟨IE,0,none⟩),.int .i64 g,u33,u34,u35,u36,u37,u38,u39,u40,u41,u42,u43,u44,u45,u46,u47,u48,u49,u50,u51,u52,u53,u54,u55,u56,u57,u58,u59,u60,u61,u62,u63,u64,u65,u66,u67,u68,u69,u70,u71,u72,u73,u74,u75,u76,u77,u78,u79,u80,u81,u82,u83,u84,u85,u86,u87,u88,u89,u90,u91,u92,u93,u94,u95,u96,u97,u98,u99,u100,u101,u102,u103,u104,u105,u106,u107,u108,u109,u110,u111,u112,u113,u114,u115,u116,u117,u118,u119,u120,u121,u122,u123,u124,u125,u126,u127,u128,u129,u130,u131,u132,u133,u134,u135,u136,u137,u138,u139,u140,u141,u142,u143,u144,u145,u146,u147,u148,u149,u150,u151,u152,u153,u154,u155,u156,u157,u158,u159,u160,u161,u162,u163,u164,u165,u166,u167,u168,u169,u170,u171,u172,u173,u174,u175,u176,u177,u178,u179,u180,u181,u182,u183,u184,u185,u186,u187,u188,u189,u190,u191,u192,u193,u194,u195,u196,u197,u198,u199,u200,u201,u202,u203,u204,u205,u206,u207,u208,u209,u210,u211,u212,u213,u214,u215,u216,u217,u218,u219,u220,u221,u222,u223,u224,u225,u226,u227,u228,u229,u230,u231,u232,u233,u234,u235,u236,u237,u238],[]⟩ W:=by
 refine dP rfl ?_;obtain⟨⟨ca,cn,cc⟩,⟨fa,bD,fc⟩,⟨la,ln,lc⟩,⟨ba,bE,bc⟩⟩:=y;obtain⟨⟨ga,gn,gc⟩,⟨ha,fu,hc⟩,⟨ia,eX,ic⟩,⟨ja,jn,jc⟩⟩:=z;simp only[Sv.v]at hk hl;have HQ:=ah h;have HY:=ah hy;have HZ:=ah hz;have Q5:=ah hk;have Q6:=ah hl;clear h hy hz hk hl;go_upto_region 31 with fail
 refine aW 12 (gG p29 IE W) (by kernel_rfl) ?_;have aQ:gG p29 IE W W.drew:=⟨rfl,rfl⟩;refine aP (i:=0) (v:=.agg #[.slice ca cn cc,.slice fa bD fc,.slice la ln lc,.slice ba bE bc]) rfl rfl (by kernel_rfl) (fun _ _ _ h=>h) (.inl ⟨rfl,fun w' hw=>?_⟩) aQ ?_
 ·obtain⟨a0,a1,a2,a3,_⟩:=ay (hw.1.trans Q5.out)
  go_simp
 refine aP (i:=1) (v:=.agg #[.slice ga gn gc,.slice ha fu hc,.slice ia eX ic,.slice ja jn jc]) rfl rfl (by kernel_rfl) (fun _ _ _ h=>h) (.inl ⟨rfl,fun w' hw=>?_⟩) aQ ?_
 ·obtain⟨a0,a1,a2,a3,_⟩:=ay (hw.2.trans Q6.out)
  go_simp
 refine aV (i:=2) (v:=.int .i64 g) rfl (by kernel_rfl) (fun _ _ _ h=>h) (.inl ⟨rfl,fun w' _=>?_⟩) aQ ?_
 ·go_simp
 refine aV (i:=3) (v:=.int .i64 g) rfl (by kernel_rfl) (fun _ _ _ h=>h) (.inl ⟨rfl,fun w' _=>?_⟩) aQ ?_
 ·go_simp
 refine aV (i:=4) (v:=.bool true) rfl (by kernel_rfl) (fun _ _ _ h=>h) (.inl ⟨rfl,fun w' _=>?_⟩) aQ ?_
 ·go_simp
 refine aV (i:=5) (v:=.bool true) rfl (by kernel_rfl) (fun _ _ _ h=>h) (.inl ⟨rfl,fun w' _=>?_⟩) aQ ?_
 ·go_simp
 refine aP (i:=6) (v:=.agg #[.slice ca cn cc,.slice fa bD fc,.slice la ln lc,.slice ba bE bc]) rfl rfl (by kernel_rfl) (fun _ _ _ h=>h) (.inl ⟨by go_simp,fun w' hw=>?_⟩) aQ ?_
 ·obtain⟨a0,a1,a2,a3,_⟩:=ay (hw.1.trans Q5.out)
  go_simp
 refine aP (i:=7) (v:=.agg #[.slice ga gn gc,.slice ha fu hc,.slice ia eX ic,.slice ja jn jc]) rfl rfl (by kernel_rfl) (fun _ _ _ h=>h) (.inl ⟨by go_simp,fun w' hw=>?_⟩) aQ ?_
 ·obtain⟨a0,a1,a2,a3,_⟩:=ay (hw.2.trans Q6.out)
  go_simp
 refine n_ (i:=8) (by kernel_rfl) rfl (by go_simp) ?_;go_simp;refine(tY ⟨⟨ca,cn,cc⟩,⟨fa,bD,fc⟩,⟨la,ln,lc⟩,⟨ba,bE,bc⟩⟩ ⟨⟨ga,gn,gc⟩,⟨ha,fu,hc⟩,⟨ia,eX,ic⟩,⟨ja,jn,jc⟩⟩ b2 b2 W.drew (HY.out.keep (aL _ _).drew (aC _)) (HZ.out.keep (aL _ _).drew (aC _))).mono ?_;rw[decide_eq_true (rfl:b2=b2)];rintro e2 W2 ⟨rfl,bO⟩;have hb2':Below W.heap.size W W2:=(aL W.heap.size W).drew.trans bO;have dF:gG p29 IE W W2:=⟨(aj Q5.out hb2' (bq Q5.out).1).trans Q5.out.symm,(aj Q6.out hb2' (bq Q6.out).1).trans Q6.out.symm⟩;refine⟨dF,?_⟩;have eF:=ah (HQ.out.keep hb2');have PK:=ah (HY.out.keep hb2' (aC _));have Dy:=ah (HZ.out.keep hb2' (aC _));clear bO hb2';have aQ:=dF;refine aV (i:=9) (v:=.bool true) rfl (by kernel_rfl) (fun _ _ _ h=>h) (.inl ⟨rfl,fun w' _=>?_⟩) aQ ?_
 ·go_simp
 obtain⟨a0,a1,a2,a3,_⟩:=ay eF.out.k6;have f0:=aA eF.out.k6 0;have f1:=aA eF.out.k6 1;have f2:=aA eF.out.k6 2;have f3:=aA eF.out.k6 3;have j5:Hid (∀c,c≠w.heap.size+1+1+1→((((W2.setCell ⟨w.heap.size+1+1+1,0,none⟩ (.slice ca cn cc)).setCell ⟨w.heap.size+1+1+1,1,none⟩ (.slice fa bD fc)).setCell ⟨w.heap.size+1+1+1,2,none⟩ (.slice la ln lc)).setCell ⟨w.heap.size+1+1+1,3,none⟩ (.slice ba bE bc)).heap[c]? =W2.heap[c]?):=ah (fun c hc=>bM W2 (w.heap.size+1+1+1) c (fun e=>hc e.symm) _ _ _ _ 0 1 2 3)
 have wD:Hid (((((W2.setCell ⟨w.heap.size+1+1+1,0,none⟩ (.slice ca cn cc)).setCell ⟨w.heap.size+1+1+1,1,none⟩ (.slice fa bD fc)).setCell ⟨w.heap.size+1+1+1,2,none⟩ (.slice la ln lc)).setCell ⟨w.heap.size+1+1+1,3,none⟩ (.slice ba bE bc)).heap[w.heap.size+1+1+1]? =some (.cells #[.slice ca cn cc,.slice fa bD fc,.slice la ln lc,.slice ba bE bc] 30 (0,0))):=ah (by
  have h6:=eF.out.k6
  simp[World.setCell,Array.getElem?_modify,h6])
 have lI:Hid (Below w.heap.size w ((((W2.setCell ⟨w.heap.size+1+1+1,0,none⟩ (.slice ca cn cc)).setCell ⟨w.heap.size+1+1+1,1,none⟩ (.slice fa bD fc)).setCell ⟨w.heap.size+1+1+1,2,none⟩ (.slice la ln lc)).setCell ⟨w.heap.size+1+1+1,3,none⟩ (.slice ba bE bc))):=ah (oW eF.out.bC (by omega) _ _ _ _);have HZ3:Hid (W2.heap.size≤((((W2.setCell ⟨w.heap.size+1+1+1,0,none⟩ (.slice ca cn cc)).setCell ⟨w.heap.size+1+1+1,1,none⟩ (.slice fa bD fc)).setCell ⟨w.heap.size+1+1+1,2,none⟩ (.slice la ln lc)).setCell ⟨w.heap.size+1+1+1,3,none⟩ (.slice ba bE bc)).heap.size):=ah (by simp);refine aD (i:=10) (by kernel_rfl) rfl rfl ?_;go_simp
 try rw[kN]
 generalize ((((W2.setCell ⟨w.heap.size+1+1+1,0,none⟩ (.slice ca cn cc)).setCell ⟨w.heap.size+1+1+1,1,none⟩ (.slice fa bD fc)).setCell ⟨w.heap.size+1+1+1,2,none⟩ (.slice la ln lc)).setCell ⟨w.heap.size+1+1+1,3,none⟩ (.slice ba bE bc))=W3 at*;have qh:gG p29 IE W W3:=⟨(j5.out _ (by omega)).trans dF.1,(j5.out _ (by omega)).trans dF.2⟩;first | refine⟨qh,?_⟩ | skip
 clear a0 a1 a2 a3 f0 f1 f2 f3;have k7:=(j5.out (w.heap.size+1+1+1+1) (by omega)).trans eF.out.k7;have vV:=ah k7;obtain⟨a0,a1,a2,a3,_⟩:=ay k7;have f0:=aA k7 0;have f1:=aA k7 1;have f2:=aA k7 2;have f3:=aA k7 3;have sH:Hid (∀c,c≠w.heap.size+1+1+1+1→((((W3.setCell ⟨w.heap.size+1+1+1+1,0,none⟩ (.slice ga gn gc)).setCell ⟨w.heap.size+1+1+1+1,1,none⟩ (.slice ha fu hc)).setCell ⟨w.heap.size+1+1+1+1,2,none⟩ (.slice ia eX ic)).setCell ⟨w.heap.size+1+1+1+1,3,none⟩ (.slice ja jn jc)).heap[c]? =W3.heap[c]?):=ah (fun c hc=>bM W3 (w.heap.size+1+1+1+1) c (fun e=>hc e.symm) _ _ _ _ 0 1 2 3)
 have KW:Hid (((((W3.setCell ⟨w.heap.size+1+1+1+1,0,none⟩ (.slice ga gn gc)).setCell ⟨w.heap.size+1+1+1+1,1,none⟩ (.slice ha fu hc)).setCell ⟨w.heap.size+1+1+1+1,2,none⟩ (.slice ia eX ic)).setCell ⟨w.heap.size+1+1+1+1,3,none⟩ (.slice ja jn jc)).heap[w.heap.size+1+1+1+1]? =some (.cells #[.slice ga gn gc,.slice ha fu hc,.slice ia eX ic,.slice ja jn jc] 30 (0,0))):=ah (by
  have h6:=vV.out
  simp[World.setCell,Array.getElem?_modify,h6])
 have lC:Hid (Below w.heap.size w ((((W3.setCell ⟨w.heap.size+1+1+1+1,0,none⟩ (.slice ga gn gc)).setCell ⟨w.heap.size+1+1+1+1,1,none⟩ (.slice ha fu hc)).setCell ⟨w.heap.size+1+1+1+1,2,none⟩ (.slice ia eX ic)).setCell ⟨w.heap.size+1+1+1+1,3,none⟩ (.slice ja jn jc))):=ah (oW lI.out (by omega) _ _ _ _);have Q7:Hid (W3.heap.size≤((((W3.setCell ⟨w.heap.size+1+1+1+1,0,none⟩ (.slice ga gn gc)).setCell ⟨w.heap.size+1+1+1+1,1,none⟩ (.slice ha fu hc)).setCell ⟨w.heap.size+1+1+1+1,2,none⟩ (.slice ia eX ic)).setCell ⟨w.heap.size+1+1+1+1,3,none⟩ (.slice ja jn jc)).heap.size):=ah (by simp);clear k7;refine aD (i:=11) (by kernel_rfl) rfl rfl ?_;go_simp;generalize ((((W3.setCell ⟨w.heap.size+1+1+1+1,0,none⟩ (.slice ga gn gc)).setCell ⟨w.heap.size+1+1+1+1,1,none⟩ (.slice ha fu hc)).setCell ⟨w.heap.size+1+1+1+1,2,none⟩ (.slice ia eX ic)).setCell ⟨w.heap.size+1+1+1+1,3,none⟩ (.slice ja jn jc))=W4 at*;have Hz:gG p29 IE W W4:=⟨(sH.out _ (by omega)).trans qh.1,(sH.out _ (by omega)).trans qh.2⟩;first | refine⟨Hz,?_⟩ | skip
 clear a0 a1 a2 a3 f0 f1 f2 f3;refine aD (i:=12) (by kernel_rfl) rfl rfl ?_;go_simp;refine aU (by kernel_rfl) ?_;obtain⟨a0,a1,a2,a3,_⟩:=ay ((sH.out (w.heap.size+1+1+1) (by omega)).trans wD.out);obtain⟨b0,b1,b2,b3,_⟩:=ay KW.out;go_wp2;refine bodyPost_ret (v:=.tuple #[.agg #[.slice ca cn cc,.slice fa bD fc,.slice la ln lc,.slice ba bE bc],.agg #[.slice ga gn gc,.slice ha fu hc,.slice ia eX ic,.slice ja jn jc],.bool true]) (by simp[results,Tryz.results10,go_sem, *]) rfl (show qJ _ _ _ _ from ?_);exact⟨⟨⟨ca,cn,cc⟩,⟨fa,bD,fc⟩,⟨la,ln,lc⟩,⟨ba,bE,bc⟩⟩,⟨⟨ga,gn,gc⟩,⟨ha,fu,hc⟩,⟨ia,eX,ic⟩,⟨ja,jn,jc⟩⟩,rfl,(PK.out.over j5.out HZ3.out eF.out.k6 rfl).over sH.out Q7.out vV.out rfl,(Dy.out.over j5.out HZ3.out eF.out.k6 rfl).over sH.out Q7.out vV.out rfl,lC.out⟩
end
end Go.Proofs.YtlfopoimbbpfdaaGreat
