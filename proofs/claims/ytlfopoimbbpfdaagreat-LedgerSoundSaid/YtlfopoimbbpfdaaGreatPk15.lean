/- What the law asks, in parts: LFw. -/
import Derived.Test.YtlfopoimbbpfdaaGreatPk12
import Derived.Test.YtlfopoimbbpfdaaGreatPk14
import Derived.Test.YtlfopoimbbpfdaaGreatPk2
set_option linter.all false
set_option maxRecDepth 100000
set_option maxHeartbeats 16000000
namespace Go.Proofs.YtlfopoimbbpfdaaGreat
open Go.RowKit
section
variable {W W':World}
theorem tJ {base base':Nat} {T T':TypeId} {E E' n n':Nat} {v v':Value} {zs zs':List Value} (h:W.ownsRow base T E v n zs) (hv:W.ownsRow base' T' E' v' n' zs') (hg:W.grownBy W' v'.ownBlock) (eP:T≠T'):W'.ownsRow base T E v n zs:=by
 refine h.kept hg ?_
 cases hq:v.ownBlock with
 | none=>exact .inl rfl
 | some q=>
  refine .inr (fun hq'=>?_);rcases hy:v'.ownBlock with _ | q2
  ·rw[hy]at hq';cases hq'
  ·rw[hy]at hq'
   obtain⟨cur,hc⟩:=lJ hv hy;injection hq' with hq';subst hq';exact mF h hc eP hq
theorem A_ {base':Nat} {T T':TypeId} {E' n' q:Nat} {v':Value} {zs':List Value} {cur:Array Value} {z:Nat×Nat} (hk:W.heap[q]? =some (.cells cur T z)) (hv:W.ownsRow base' T' E' v' n' zs') (hg:W.grownBy W' v'.ownBlock) (eP:T≠T'):W'.heap[q]? =some (.cells cur T z):=by
 rw[hg.block q (bq hk).1 (fun e=>by
  obtain⟨cur',hc⟩:=lJ hv e.symm;rw[hk]at hc;injection hc with hc;injection hc with _ hc _
  exact eP hc)]
 exact hk
theorem Wv {base base':Nat} {T T':TypeId} {E E' n n':Nat} {v v':Value} {zs zs':List Value} (h:W.ownsRow base T E v n zs) (_hv:W.ownsRow base' T' E' v' n' zs') (hg:W.grownBy W' v'.ownBlock) (eP:∀g,v.ownBlock=some g→v'.ownBlock≠some g):W'.ownsRow base T E v n zs:=by
 refine h.kept hg ?_
 cases hq:v.ownBlock with
 | none=>exact .inl rfl
 | some q=>exact .inr (fun e=>eP q hq e.symm)
theorem oG {g q:Nat} {T T':TypeId} {cur cur':Array Value} {z z':Nat×Nat} (hk:W.heap[q]? =some (.cells cur T z)) (aK:∀b,b≠g→W'.heap[b]? =W.heap[b]?) (hg:W.heap[g]? =some (.cells cur' T' z')) (eP:T≠T'):W'.heap[q]? =some (.cells cur T z):=by
 rw[aK q (fun e=>by
  rw[e,hg]at hk;injection hk with hk;injection hk with _ hk _
  exact eP hk.symm)]
 exact hk
end
theorem bN.mem {α β:Type} {R:α→β→Prop}:∀ {l:List α} {m:List β},bN R l m→ ∀a∈l,∃b∈m,R a b
 | [],_,_,a,ha=>by cases ha
 | x::l,y::m,h,a,ha=>by
  rcases List.mem_cons.1 ha with rfl | ha
  ·exact⟨y,by simp,h.1⟩
  ·obtain⟨b,hb,hr⟩:=bN.mem h.2 a ha
   exact⟨b,by simp[hb],hr⟩
 | _::_,[],h,_,_=>absurd h (by simp[bN])
theorem bN.erase {α β:Type} {R:α→β→Prop}:∀ {l:List α} {m:List β},bN R l m→ ∀k,bN R (l.eraseIdx k) (m.eraseIdx k)
 | [],[],_,_=>by simp[bN]
 | x::l,y::m,h,0=>h.2
 | x::l,y::m,h,k+1=>⟨h.1,bN.erase h.2 k⟩
 | _::_,[],h,_=>absurd h (by simp[bN])
 | [],_::_,h,_=>absurd h (by simp[bN])
theorem CG (l:List cB) (k:Nat):(aJ j_ l).take (k*7)++(aJ j_ l).drop ((k+1)*7)=aJ j_ (l.eraseIdx k):=by
 induction l generalizing k with
 | nil=>simp[aJ]
 | cons x l ih=>
  cases k with
  | zero=>simp[aY,j_]
  | succ k=>
   have e:(k+1)*7=k*7+7:=by omega
   have e2:(k+1+1)*7=(k+1)*7+7:=by omega
   rw[List.eraseIdx_cons_succ,aY,aY,←ih k,e,e2];simp[j_];omega
structure Fr (B pb p6 p9:Nat) (ys:Array Value) (w0 W:World) (x:dN) (b:Bk) (xs:List cB):Prop where
 bC:Below B w0 W
 kb:W.heap[pb]? =some (.cells #[x.c.v,x.f.v,x.l.v,x.b.v] 30 (0,0))
 k6:W.heap[p6]? =some (.cells #[.slice none 0 0,.slice none 0 0,.slice none 0 0,.slice none 0 0] 30 (0,0))
 k9:W.heap[p9]? =some (.cells ys 48 (0,0))
 hb:B≤pb
 h6:pb≠p6
 n9:x.l.v.ownBlock≠some p9
 rc:W.ownsRow B 54 7 x.c.v b.cs.length (aJ kY b.cs)
 rf:W.ownsRow B 56 2 x.f.v b.free.length (aR b.free)
 rl:W.ownsRow B 48 7 x.l.v b.ls.length (aJ j_ xs)
 rb:W.ownsRow B 3 1 x.b.v b.bound.length (bS b.bound)
 each:bN (jF W B) xs b.ls
 sep:∀z∈xs,∀g,z.u.v.ownBlock=some g→x.b.v.ownBlock≠some g
section
variable {B pb p6 p9:Nat} {ys:Array Value} {w0 W W':World} {x:dN} {b:Bk} {xs:List cB}
theorem Fr.MS (h:Fr B pb p6 p9 ys w0 W x b xs):pb<W.heap.size:=(bq h.kb).1
theorem Fr.sz6 (h:Fr B pb p6 p9 ys w0 W x b xs):p6<W.heap.size:=(bq h.k6).1
theorem Fr.sz9 (h:Fr B pb p6 p9 ys w0 W x b xs):p9<W.heap.size:=(bq h.k9).1
theorem Fr.hB (h:Fr B pb p6 p9 ys w0 W x b xs):B≤W.heap.size:=Nat.le_trans h.hb (Nat.le_of_lt h.MS)
theorem Fr.keep (h:Fr B pb p6 p9 ys w0 W x b xs) (hb:Below W.heap.size W W'):Fr B pb p6 p9 ys w0 W' x b xs:=
 ⟨h.bC.trans (hb.mono h.hB),aj h.kb hb h.MS,aj h.k6 hb h.sz6,aj h.k9 hb h.sz9,h.hb,h.h6,h.n9,aI h.rc hb (aC _),aI h.rf hb (aC _),aI h.rl hb (aC _),aI h.rb hb (aC _),
  h.each.imp (fun _ _ r=>r.keep hb (aC _)),h.sep⟩
theorem Fr.m (h:Fr B pb p6 p9 ys w0 W x b xs):iA W x b:=
 ⟨aG h.rc,aG h.rf,⟨xs,by have:=aG h.rl;rw[←h.each.len]at this;exact this,h.each.imp (fun _ _ r=>r.m)⟩,aG h.rb⟩
theorem Fr.Ev (h:Fr B pb p6 p9 ys w0 W x b xs) {f':Sv} {free':List Rg} (ho:W.ownsRow B 56 2 f'.v free'.length (aR free')):
  Fr B pb p6 p9 ys w0 (W.setCell ⟨pb,1,none⟩ f'.v) ⟨x.c,f',x.l,x.b⟩ ⟨b.cs,free',b.ls,b.bound⟩ xs:=by
 have aK:∀c,c≠pb→(W.setCell ⟨pb,1,none⟩ f'.v).heap[c]? =W.heap[c]? :=fun c hc=>aX _ _ _ (fun e=>hc e.symm) _
 exact⟨h.bC.setCell h.hb _,oC h.kb _,(aK p6 (fun e=>h.h6 e.symm)).trans h.k6,oG h.k9 aK h.kb (by decide),h.hb,h.h6,h.n9,aF h.rc aK h.kb (by decide),aF ho aK h.kb (by decide),aF h.rl aK h.kb (by decide),aF h.rb aK h.kb (by decide),
  h.each.imp (fun _ _ r=>r.other aK h.kb (by decide) (by decide) (by decide)),h.sep⟩
theorem Fr.zF (h:Fr B pb p6 p9 ys w0 W x b xs) {g n cap:Nat} (hx:x.c=⟨some ⟨g,0,none⟩,n,cap⟩) (j:Nat) (hj:j<b.cs.length*7) (u:Value) {cs':List Ct} (kE:(aJ kY b.cs).set j u=aJ kY cs') (hl:cs'.length=b.cs.length):
  Fr B pb p6 p9 ys w0 (W.setCell ⟨g,j,none⟩ u) x ⟨cs',b.free,b.ls,b.bound⟩ xs:=by
 have aK:∀c,c≠g→(W.setCell ⟨g,j,none⟩ u).heap[c]? =W.heap[c]? :=fun c hc=>aX _ _ _ (fun e=>hc e.symm) _
 have rT:=h.rc;rw[hx]at rT;simp only[Sv.v]at rT
 have hn:n=b.cs.length:=by
  obtain⟨_,_,he,_,_⟩:=aO rT;injection he with _ he _
 subst hn;obtain⟨cur,hg⟩:=eB rT;have hB:B≤g:=(bg rT).1;have iW:=dV rT j (by rw[bP fG];exact hj) u;rw[kE]at iW
 exact⟨h.bC.setCell hB _,oG h.kb aK hg (by decide),oG h.k6 aK hg (by decide),oG h.k9 aK hg (by decide),h.hb,h.h6,h.n9,by rw[hx];show World.ownsRow _ _ _ _ _ cs'.length _;rw[hl];exact iW,aF h.rf aK hg (by decide),aF h.rl aK hg (by decide),aF h.rb aK hg (by decide),
  h.each.imp (fun _ _ r=>r.other aK hg (by decide) (by decide) (by decide)),h.sep⟩
theorem vG {w:World} {b:Nat} {a0 a1 a2 a3:Value} {t:TypeId} (h:w.heap[b]? =some (.cells #[a0,a1,a2,a3] t (0,0))) (x:Value):(w.setCell ⟨b,3,none⟩ x).heap[b]? =some (.cells #[a0,a1,a2,x] t (0,0)):=by
 simp[World.setCell,Array.getElem?_modify,h]
theorem oH {w:World} {b:Nat} {a0 a1 a2 a3:Value} {t:TypeId} (h:w.heap[b]? =some (.cells #[a0,a1,a2,a3] t (0,0))) (x:Value):(w.setCell ⟨b,2,none⟩ x).heap[b]? =some (.cells #[a0,a1,x,a3] t (0,0)):=by
 simp[World.setCell,Array.getElem?_modify,h]
theorem Fr.adY (h:Fr B pb p6 p9 ys w0 W x b xs) {v':Sv} {bd:List Int} (ho:W'.ownsRow B 3 1 v'.v bd.length (bS bd)) (hg:W.grownBy W' x.b.v.ownBlock) (iQ:v'.v.ownBlock=x.b.v.ownBlock∨ ∃g,v'.v.ownBlock=some g∧W.heap.size≤g):
  Fr B pb p6 p9 ys w0 (W'.setCell ⟨pb,3,none⟩ v'.v) ⟨x.c,x.f,x.l,v'⟩ ⟨b.cs,b.free,b.ls,bd⟩ xs:=by
 have mR:=A_ h.kb h.rb hg (by decide);have Aa:=A_ h.k6 h.rb hg (by decide);have JE:=A_ h.k9 h.rb hg (by decide);have aK:∀c,c≠pb→(W'.setCell ⟨pb,3,none⟩ v'.v).heap[c]? =W'.heap[c]? :=fun c hc=>aX _ _ _ (fun e=>hc e.symm) _
 have yT:bN (jF W' B) xs b.ls:=h.each.imp_mem (fun z l' hz r=>⟨r.dev,r.epoch,r.bU,r.last,tJ r.s h.rb hg (by decide),tJ r.i h.rb hg (by decide),Wv r.u h.rb hg (h.sep z hz)⟩)
 refine⟨(h.bC.grown hg h.hB (fun g' hg'=>(h.rb.lt g' hg').1)).setCell h.hb _,vG mR _,(aK p6 (fun e=>h.h6 e.symm)).trans Aa,oG JE aK mR (by decide),h.hb,h.h6,h.n9,aF (tJ h.rc h.rb hg (by decide)) aK mR (by decide),aF (tJ h.rf h.rb hg (by decide)) aK mR (by decide),aF (tJ h.rl h.rb hg (by decide)) aK mR (by decide),aF ho aK mR (by decide),
  yT.imp (fun _ _ r=>r.other aK mR (by decide) (by decide) (by decide)),fun z hz g hzg e=>?_⟩
 rcases iQ with iQ | ⟨q,hq,mK⟩
 ·exact h.sep z hz g hzg (iQ▸e)
 ·rw[hq]at e
  injection e with e;subst e;obtain⟨l',_,hl'⟩:=h.each.mem z hz;have:=(hl'.u.lt _ hzg).2;omega
theorem Fr.del (h:Fr B pb p6 p9 ys w0 W x b xs) {g cap:Nat} (hx:x.l=⟨some ⟨g,0,none⟩,b.ls.length,cap⟩) (k:Nat) (hk:k<b.ls.length)
  (ho:W'.ownsRow B 48 7 (.slice (some ⟨g,0,none⟩) (b.ls.length-1) cap) (b.ls.length-1) ((aJ j_ xs).take (k*7)++(aJ j_ xs).drop ((k+1)*7))) (hg:W.grownBy W' (some g)):
  Below B w0 (W'.setCell ⟨pb,2,none⟩ (.slice (some ⟨g,0,none⟩) (b.ls.length-1) cap))∧
  (W'.setCell ⟨pb,2,none⟩ (.slice (some ⟨g,0,none⟩) (b.ls.length-1) cap)).heap[pb]? =some (.cells #[x.c.v,x.f.v,.slice (some ⟨g,0,none⟩) (b.ls.length-1) cap,x.b.v] 30 (0,0))∧
  (W'.setCell ⟨pb,2,none⟩ (.slice (some ⟨g,0,none⟩) (b.ls.length-1) cap)).heap[p6]? =some (.cells #[.slice none 0 0,.slice none 0 0,.slice none 0 0,.slice none 0 0] 30 (0,0))∧
  W'.heap[pb]? =some (.cells #[x.c.v,x.f.v,x.l.v,x.b.v] 30 (0,0))∧
  iA (W'.setCell ⟨pb,2,none⟩ (.slice (some ⟨g,0,none⟩) (b.ls.length-1) cap)) ⟨x.c,x.f,⟨some ⟨g,0,none⟩,b.ls.length-1,cap⟩,x.b⟩ ⟨b.cs,b.free,b.ls.eraseIdx k,b.bound⟩:=by
 have uW:=h.rl;have hg':W.grownBy W' x.l.v.ownBlock:=by rw[hx];exact hg
 have mR:=A_ h.kb h.rl hg' (by decide);have Aa:=A_ h.k6 h.rl hg' (by decide);generalize hv:(Value.slice (some ⟨g,0,none⟩) (b.ls.length-1) cap)=v at*;have aK:∀c,c≠pb→(W'.setCell ⟨pb,2,none⟩ v).heap[c]? =W'.heap[c]? :=fun c hc=>aX _ _ _ (fun e=>hc e.symm) _
 have yT:bN (jF (W'.setCell ⟨pb,2,none⟩ v) B) xs b.ls:=h.each.imp (fun z l' r=>⟨r.dev,r.epoch,r.bU,r.last,aF (tJ r.s h.rl hg' (by decide)) aK mR (by decide),aF (tJ r.i h.rl hg' (by decide)) aK mR (by decide),aF (tJ r.u h.rl hg' (by decide)) aK mR (by decide)⟩);refine⟨(h.bC.grown hg' h.hB (fun q hq=>(h.rl.lt q hq).1)).setCell h.hb _,oH mR _,(aK p6 (fun e=>h.h6 e.symm)).trans Aa,mR,?_⟩;rw[CG]at ho;have fP:(xs.eraseIdx k).length=b.ls.length-1:=by rw[List.length_eraseIdx,h.each.len,if_pos hk]
 refine⟨aG (aF (tJ h.rc h.rl hg' (by decide)) aK mR (by decide)),aG (aF (tJ h.rf h.rl hg' (by decide)) aK mR (by decide)),⟨xs.eraseIdx k,?_,(yT.erase k).imp (fun _ _ r=>r.m)⟩,aG (aF (tJ h.rb h.rl hg' (by decide)) aK mR (by decide))⟩;have h9:=aG (aF ho aK mR (by decide));show Sl _ 7 (Value.slice (some ⟨g,0,none⟩) (b.ls.length-1) cap) (xs.eraseIdx k).length _;rw[hv,fP];exact h9
end
end Go.Proofs.YtlfopoimbbpfdaaGreat
namespace Go.Proofs.YtlfopoimbbpfdaaGreat
open Go.RowKit
theorem wT (l:List Ct) (k:Nat) (hk:k<l.length) (u:Int):
  (aJ kY l).set (k*7+5) (.int .i64 u)=aJ kY (l.set k ⟨l[k].key,l[k].coll,l[k].lo,l[k].hi,l[k].start,u,l[k].down⟩):=by
 induction l generalizing k with
 | nil=>simp at hk
 | cons x l ih=>
  cases k with
  | zero=>simp[aY,kY]
  | succ k=>
   have e:∀j,(k+1)*7+j=k*7+j+7:=fun j=>by omega
   rw[List.set_cons_succ,aY,aY,List.getElem_cons_succ,←ih k (by simpa using hk)];simp only[e];simp[kY]
theorem wU (l:List Ct) (k:Nat) (hk:k<l.length) (u:Int):
  (aJ kY l).set (k*7+6) (.int .i64 u)=aJ kY (l.set k ⟨l[k].key,l[k].coll,l[k].lo,l[k].hi,l[k].start,l[k].up,u⟩):=by
 induction l generalizing k with
 | nil=>simp at hk
 | cons x l ih=>
  cases k with
  | zero=>simp[aY,kY]
  | succ k=>
   have e:∀j,(k+1)*7+j=k*7+j+7:=fun j=>by omega
   rw[List.set_cons_succ,aY,aY,List.getElem_cons_succ,←ih k (by simpa using hk)];simp only[e];simp[kY]
theorem GZ {cs:List Ct} {s:Sc} {j:Nat} (hj:j<cs.length) (h:bJ cs s.key=j):
  fH cs s=(cs.set j ⟨cs[j].key,cs[j].coll,cs[j].lo,cs[j].hi,cs[j].start,cs[j].up+(s.up-s.uu),cs[j].down⟩).set j ⟨cs[j].key,cs[j].coll,cs[j].lo,cs[j].hi,cs[j].start,cs[j].up+(s.up-s.uu),cs[j].down+(s.down-s.ud)⟩:=by
 unfold fH;rw[h,if_neg (by omega)];simp[List.getD,List.getElem?_eq_getElem hj]
theorem G5 {cs:List Ct} {s:Sc} (h:bJ cs s.key= -1):fH cs s=cs:=by
 unfold fH;rw[h,if_pos (by omega)]
theorem Ng (v:Value) (l:List Rg) (n:Int) (w:World) (h:fD w v l) (hs:Small l) (hl:l.length<1000000) (hn0: -1000000000000<n) (Gh:n<1000000000000):
  Calls Tryz.prog 81 #[v,.int .i64 n] w fun e w'=>∃v',e= .returned (.tuple #[v',.bool (dM l n)])∧(dM l n=true→w'.ownsRow w.heap.size 56 2 v' (cZ l n).length (aR (cZ l n)))∧Below w.heap.size w w':=by
 cases hq:dM l n with
 | false=>exact(SQ v l n w h hl hq).mono fun e w' ⟨h1,h2⟩=>⟨_,h1,(fun h=>by cases h),h2⟩
 | true=>exact(O4 v l n w h hs hl hq hn0 Gh).mono fun e w' ⟨v',h1,h2,h3⟩=>⟨v',h1,fun _=>h2,h3⟩
theorem P6 (x:dN) (b:Bk) (d ep:Int) (w:World) (h:iA w x b) (hl:Dl b) (hF:∀k (hk:k<b.ls.length),k_ b.ls d ep=k→Li b b.ls[k]):
  Calls Tryz.prog 28 #[iJ x,.int .i64 d,.int .i64 ep] w (nK w (pK b d ep)):=by
 obtain⟨⟨ca,cn,cc⟩,⟨fa,bD,fc⟩,⟨la,ln,lc⟩,⟨ba,bE,bc⟩⟩:=x;obtain⟨W3,zY,k0,k1,bB,dX⟩:∃W3,((w.alloc (.cells #[.slice ca cn cc,.slice fa bD fc,.slice la ln lc,.slice ba bE bc] 30)).alloc (.cells #[.slice none 0 0,.slice none 0 0,.slice none 0 0,.slice none 0 0] 30))=W3∧W3.heap[w.heap.size]? =some (.cells #[.slice ca cn cc,.slice fa bD fc,.slice la ln lc,.slice ba bE bc] 30 (0,0))∧W3.heap[w.heap.size+1]? =some (.cells #[.slice none 0 0,.slice none 0 0,.slice none 0 0,.slice none 0 0] 30 (0,0))∧Below w.heap.size w W3∧W3.heap.size=w.heap.size+2:=⟨_,rfl,bX _ _ _,bL _ _ _,((aL _ _).alloc (aC _) _).alloc (by simp) _,by simp⟩;have HM:=ah (h.keep bB (aC _));have HB:=ah hl;have R7:=ah hF;have HW3:=ah zY;have FE:=ah dX;have uK:=ah k0;have eT:=ah k1;have eY:=ah bB;clear h hl hF zY dX k0 k1 bB;change Calls Tryz.prog _ #[.agg #[.slice ca cn cc,.slice fa bD fc,.slice la ln lc,.slice ba bE bc],.int .i64 d,.int .i64 ep] w _;obtain⟨c0,c1,c2,c3,_⟩:=ay uK.out
 go_enter Tryz.func28,Tryz.ntmps28
 go_upto_region 1 with fail
 rw[HW3.out];go_wp2_with fail
 refine(jy ⟨⟨ca,cn,cc⟩,⟨fa,bD,fc⟩,⟨la,ln,lc⟩,⟨ba,bE,bc⟩⟩ b _ HM.out HB.out).mono ?_;rintro e w4 ⟨⟨⟨da,dn,dc⟩,⟨ea,kI,ec⟩,⟨ma,mn,mc⟩,⟨na,kU,nc⟩⟩,xs,C0,rfl,ho0,hC0,bR⟩;obtain⟨C,ho,hC,SY⟩:=ho0.cap hC0 bR.size;clear ho0 hC0 c0 c1 c2 c3;have pE:w.heap.size<W3.heap.size:=by have:=FE.out;omega
 have nH:=aj uK.out bR pE;have dH:=aj eT.out bR (by have:=FE.out;omega);obtain⟨d0,d1,d2,d3,_⟩:=ay nH;have f0:=aA nH 0;have f1:=aA nH 1;have f2:=aA nH 2;have f3:=aA nH 3;have HO:=ah ((((ho.put hC ⟨w.heap.size,0,none⟩ pE (.slice da dn dc)).put hC ⟨w.heap.size,1,none⟩ pE (.slice ea kI ec)).put hC ⟨w.heap.size,2,none⟩ pE (.slice ma mn mc)).put hC ⟨w.heap.size,3,none⟩ pE (.slice na kU nc));have Gn:=ah (ku nH (.slice da dn dc) (.slice ea kI ec) (.slice ma mn mc) (.slice na kU nc));have nL:=ah ((bM w4 w.heap.size (w.heap.size+1) (by omega) (.slice da dn dc) (.slice ea kI ec) (.slice ma mn mc) (.slice na kU nc) 0 1 2 3).trans dH);have uh:=eY.out.trans (bR.mono eY.out.size);have yg:=ah ((((uh.setCell (p:=⟨w.heap.size,0,none⟩) (aC _) (.slice da dn dc)).setCell (p:=⟨w.heap.size,1,none⟩) (aC _) (.slice ea kI ec)).setCell (p:=⟨w.heap.size,2,none⟩) (aC _) (.slice ma mn mc)).setCell (p:=⟨w.heap.size,3,none⟩) (aC _) (.slice na kU nc));clear ho nH dH bR uh uK eT HM eY SY;go_wp2_with fail
 generalize ((((w4.setCell ⟨w.heap.size,0,none⟩ (.slice da dn dc)).setCell ⟨w.heap.size,1,none⟩ (.slice ea kI ec)).setCell ⟨w.heap.size,2,none⟩ (.slice ma mn mc)).setCell ⟨w.heap.size,3,none⟩ (.slice na kU nc))=w5 at*;refine(IW ⟨⟨da,dn,dc⟩,⟨ea,kI,ec⟩,⟨ma,mn,mc⟩,⟨na,kU,nc⟩⟩ b.ls d ep _ HO.out.m.l).mono ?_;rintro e w6 ⟨rfl,nG⟩;have zC:Hid (uI w6 W3.heap.size C ⟨⟨da,dn,dc⟩,⟨ea,kI,ec⟩,⟨ma,mn,mc⟩,⟨na,kU,nc⟩⟩ b xs):=ah (HO.out.keep nG);have sw:=ah (aj Gn.out nG (bq Gn.out).1);have eF:=ah (aj nL.out nG (bq nL.out).1);have Ez:=ah (yg.out.trans (nG.mono yg.out.size));have hz6:w.heap.size+1<w6.heap.size:=(bq eF.out).1;clear nG HO Gn nL yg d0 d1 d2 d3 f0 f1 f2 f3;obtain⟨d0,d1,d2,d3,_⟩:=ay sw.out;obtain⟨e0,e1,e2,e3,_⟩:=ay eF.out;have f0:=aA eF.out 0;have f1:=aA eF.out 1;have f2:=aA eF.out 2;have f3:=aA eF.out 3;rcases b_ (fun c:Ls=>decide (c.dev=d)&&decide (c.epoch=ep)) b.ls with⟨hi,_⟩ | ⟨k,hk,hi,_,_⟩
 ·have HF:Hid (pK b d ep=(b,2)):=by show _=_;unfold pK k_;simp only[hi];rfl
  rw[show k_ b.ls d ep= -1 from hi];have f_:w.heap.size+1<W3.heap.size:=by have:=FE.out;omega
  clear hi R7;go_wp2;refine bodyPost_ret (v:=.tuple #[.agg #[.slice da dn dc,.slice ea kI ec,.slice ma mn mc,.slice na kU nc],.int .i64 2]) (by simp[results,Tryz.results28,go_sem, *]) rfl (show nK _ _ _ _ from ?_);refine⟨⟨⟨da,dn,dc⟩,⟨ea,kI,ec⟩,⟨ma,mn,mc⟩,⟨na,kU,nc⟩⟩,by rw[HF.out],?_,?_⟩
  ·rw[HF.out]
   exact((((zC.out.put hC ⟨w.heap.size+1,0,none⟩ f_ _).put hC ⟨w.heap.size+1,1,none⟩ f_ _).put hC ⟨w.heap.size+1,2,none⟩ f_ _).put hC ⟨w.heap.size+1,3,none⟩ f_ _).m
  ·exact(((Ez.out.setCell (by simp) _).setCell (by simp) _).setCell (by simp) _).setCell (by simp) _
 ·have HI:Hid (k_ b.ls d ep=k):=ah hi
  have rW:=ah (R7.out k hk hi);rw[show k_ b.ls d ep=k from hi];have xL:k<xs.length:=by rw[zC.out.each.len];exact hk
  have hnl:=HB.out.nl;have jK:(k:Int)<b.ls.length:=by omega
  have kd:decide ((k:Int)<0)=false:=by simp
  obtain⟨g,cap,yR,dO,qM,hBg,hgs,⟨h0,h1,h2,h3,h4,h5,h6⟩,_⟩:=zC.out.Jk k hk xL;injection yR with Dx tN hx3;subst Dx tN hx3;have hLk:=bN.at zC.out.each k xL hk;generalize hxk:xs[k]=z at*;obtain⟨z1,z2,z3,z4,⟨z5,z6,z7⟩,⟨z8,z9,dK⟩,⟨dU,eZ,dQ⟩⟩:=z;simp only[Sv.v]at h4 h5 h6;generalize hlk:b.ls[k]=l at*;obtain⟨q6,_,_⟩:=Sl.lens (s:=⟨z5,z6,z7⟩) (aG hLk.s);obtain⟨q9,_,_⟩:=Sl.lens (s:=⟨z8,z9,dK⟩) (aG hLk.i);obtain⟨ZK,_,_⟩:=Sl.lens (s:=⟨dU,eZ,dQ⟩) (aG hLk.u);simp only at q6 q9 ZK;subst q6 q9 ZK;have HX:=ah hxk;have R3:=ah hlk;have eD:Below w6.heap.size w6 (w6.alloc (.cells #[.int .i64 z1,.int .i64 z2,.int .i64 z3,.int .i64 z4,.slice z5 l.sl.length z7,.slice z8 l.ids.length dK,.slice dU l.used.length dQ] 48)):=(aL _ _).alloc (aC _) _
  have VX:Hid (Fr w.heap.size w.heap.size (w.heap.size+1) w6.heap.size #[.int .i64 z1,.int .i64 z2,.int .i64 z3,.int .i64 z4,.slice z5 l.sl.length z7,.slice z8 l.ids.length dK,.slice dU l.used.length dQ] w (w6.alloc (.cells #[.int .i64 z1,.int .i64 z2,.int .i64 z3,.int .i64 z4,.slice z5 l.sl.length z7,.slice z8 l.ids.length dK,.slice dU l.used.length dQ] 48)) ⟨⟨da,dn,dc⟩,⟨ea,kI,ec⟩,⟨some ⟨g,0,none⟩,b.ls.length,mc⟩,⟨na,kU,nc⟩⟩ b xs):=by
   have ho:=zC.out.keep eD;refine ah ⟨Ez.out.trans (eD.mono Ez.out.size),aj sw.out eD (by omega),aj eF.out eD hz6,heap_alloc_new _ _,aC _,by omega,fun e=>?_,aN ho.rc (by omega),aN ho.rf (by omega),aN ho.rl (by omega),aN ho.rb (by omega),ho.each.imp (fun _ _ r=>r.base (by omega)),fun z hz q hq e=>?_⟩
   ·have e2:some g=some w6.heap.size:=e
    injection e2 with e2;omega
   ·obtain⟨l',_,hl'⟩:=ho.each.mem z hz
    have i1:=bQ hl'.u q hq;have i2:=ho.bl q e;omega
  clear hi hLk hxk hlk eD e0 e1 e2 e3 f0 f1 f2 f3 sw eF zC Ez R7;go_upto_region 6 with fail
  generalize w6.alloc (.cells #[.int .i64 z1,.int .i64 z2,.int .i64 z3,.int .i64 z4,.slice z5 l.sl.length z7,.slice z8 l.ids.length dK,.slice dU l.used.length dQ] 48)=W7 at*;generalize w6.heap.size=p9 at*;clear d0 d1 d2 d3 h0 h1 h2 h3 h4 h5 h6 hgs;obtain⟨d0,d1,d2,d3,d4,d5,d6,_⟩:=aB VX.out.k9;go_upto_block 0 with fail
  go_cut[] (fun wx=>Fr w.heap.size w.heap.size (w.heap.size+1) p9 #[.int .i64 z1,.int .i64 z2,.int .i64 z3,.int .i64 z4,.slice z5 l.sl.length z7,.slice z8 l.ids.length dK,.slice dU l.used.length dQ] w wx ⟨⟨da,dn,dc⟩,⟨ea,kI,ec⟩,⟨some ⟨g,0,none⟩,b.ls.length,mc⟩,⟨na,kU,nc⟩⟩ ⟨l.sl.foldl fH b.cs,b.free,b.ls,b.bound⟩ xs)
  case first=>
   go_wp2
   go_loopw[39] (fun v39 wr=>∃j:Nat,j≤l.sl.length∧v39= .int .i64 j∧Fr w.heap.size w.heap.size (w.heap.size+1) p9 #[.int .i64 z1,.int .i64 z2,.int .i64 z3,.int .i64 z4,.slice z5 l.sl.length z7,.slice z8 l.ids.length dK,.slice dU l.used.length dQ] w wr ⟨⟨da,dn,dc⟩,⟨ea,kI,ec⟩,⟨some ⟨g,0,none⟩,b.ls.length,mc⟩,⟨na,kU,nc⟩⟩ ⟨(l.sl.take j).foldl fH b.cs,b.free,b.ls,b.bound⟩ xs) (fun v39 _=>l.sl.length-(intOf v39).toNat)
   case atStart=>exact⟨0,Nat.zero_le _,rfl,VX.out⟩
   case round=>
    obtain⟨j,hj,rfl,IB⟩:=hrel;have Lp:=ah IB;clear IB;by_cases bA:j<l.sl.length
    ·have t_:(j:Int)<l.sl.length:=by omega
     have hLk':jF wr w.heap.size xs[k] b.ls[k]:=bN.at Lp.out.each k xL hk;rw[HX.out,R3.out]at hLk';obtain⟨sb,so,rfl,Lh,s0,s1,s2,s3,s4⟩:=dI.sc (aG hLk'.s) (aL _ _) (aC _) j bA;have V8:=ah (rW.out.sc l.sl[j] (List.getElem_mem bA));have M5:=ah (mH fH l.sl b.cs j bA);have B_:=rC (l.sl.take j) 2199023255552 b.cs (by omega) rW.out.ct (fun s hs=>rW.out.sc s (List.mem_of_mem_take hs));have adZ:=(rW.out.each l (by rw[←R3.out];exact List.getElem_mem hk)).1;have HUB:Hid (Jy 4400000000000000 ((l.sl.take j).foldl fH b.cs)):=ah (B_.1.mono (by rw[List.length_take];omega));have OV:Hid (((l.sl.take j).foldl fH b.cs).length<1000):=ah (by rw[B_.2];exact rW.out.nc);clear hLk' B_;generalize kE:(l.sl.take j).foldl fH b.cs=cs at*;generalize l.sl[j]=s at*;obtain⟨sk,su,sd,jD,mh⟩:=s;simp only at s0 s1 s2 s3 s4;have eD:Below wr.heap.size wr (wr.alloc (.cells #[.string sk,.int .i64 su,.int .i64 sd,.int .i64 jD,.int .i64 mh] 88)):=(aL _ _).alloc (aC _) _;have Lr:=ah (Lp.out.keep eD);have Cx:=ah (heap_alloc_new wr (.cells #[.string sk,.int .i64 su,.int .i64 sd,.int .i64 jD,.int .i64 mh] 88));clear eD kE Lp;go_upto_region 9 with fail
     generalize wr.alloc (.cells #[.string sk,.int .i64 su,.int .i64 sd,.int .i64 jD,.int .i64 mh] 88)=W8 at*;generalize wr.heap.size=p11 at*;clear s0 s1 s2 s3 s4 Lh;obtain⟨c0,c1,c2,c3,_⟩:=ay Lr.out.kb;obtain⟨s0,s1,s2,s3,s4⟩:=jM Cx.out;simp only[Sv.v]at c0 c1 c2 c3;go_wp2_with fail
     refine(mW ⟨⟨da,dn,dc⟩,⟨ea,kI,ec⟩,⟨some ⟨g,0,none⟩,b.ls.length,mc⟩,⟨na,kU,nc⟩⟩ cs sk _ Lr.out.m.c).mono ?_;rintro e W9 ⟨rfl,jW⟩;have mo:=ah (Lr.out.keep jW);have UD:=ah (aj Cx.out jW (bq Cx.out).1);clear jW Lr Cx c0 c1 c2 c3 s0 s1 s2 s3 s4;rcases b_ (fun c:Ct=>decide (c.key=sk)) cs with⟨hi,_⟩ | ⟨i,hi,BZ,_,_⟩
     ·have Nh:Hid (fH cs ⟨sk,su,sd,jD,mh⟩=cs):=ah (G5 hi)
      rw[show bJ cs sk= -1 from hi];clear hi;go_wp2;go_roundw
      case rel=>exact⟨j+1,by omega,by go_num,by rw[M5.out,Nh.out];exact mo.out⟩
      case measure=>simp[intOf];omega
     ·have Nh:Hid (fH cs ⟨sk,su,sd,jD,mh⟩=(cs.set i ⟨cs[i].key,cs[i].coll,cs[i].lo,cs[i].hi,cs[i].start,cs[i].up+(su-jD),cs[i].down⟩).set i ⟨cs[i].key,cs[i].coll,cs[i].lo,cs[i].hi,cs[i].start,cs[i].up+(su-jD),cs[i].down+(sd-mh)⟩):=ah (GZ hi BZ)
      rw[show bJ cs sk=i from BZ];clear BZ;have vS:=ah (HUB.out cs[i] (List.getElem_mem hi));obtain⟨cg,Ww,hcx⟩:=fT mo.out.rc (show 0<cs.length by omega)
      have Wx:da=some ⟨cg,0,none⟩∧dn=cs.length∧dc=Ww:=by
       simp only[Sv.v]at hcx;injection hcx with h1 h2 h3;exact⟨h1,h2,h3⟩
      obtain⟨rfl,rfl,rfl⟩:=Wx;have eu:=mo.out.rc;simp only[Sv.v]at eu;obtain⟨p1,p2,p3,p4,p5,p6,p7⟩:=bg eu;have u5:W9.cell? ⟨cg,i*7+5,none⟩=some (.int .i64 cs[i].up):=p7 _ _ (by rw[bV fG _ i hi 5 (by omega)];rfl);have u6:W9.cell? ⟨cg,i*7+6,none⟩=some (.int .i64 cs[i].down):=p7 _ _ (by rw[bV fG _ i hi 6 (by omega)];rfl);have g5:=p6 (i*7+5)
      have ZL:cg≠p11:=fun e=>by
       obtain⟨cur,hg⟩:=eB eu;rw[e,UD.out]at hg;injection hg with hg;injection hg with _ hg _;exact absurd hg (by decide)
      have hilt:(i:Int)<cs.length:=by omega
      have hi0:¬ ((i:Int)<0):=by omega
      have kdi:decide ((i:Int)<0)=false:=by simp
      have Ca:=OV.out
      have Ba:Hid (Fr w.heap.size w.heap.size (w.heap.size+1) p9 #[.int .i64 z1,.int .i64 z2,.int .i64 z3,.int .i64 z4,.slice (some ⟨sb,so,none⟩) l.sl.length z7,.slice z8 l.ids.length dK,.slice dU l.used.length dQ] w (W9.drew.setCell ⟨cg,i*7+5,none⟩ (.int .i64 (cs[i].up+(su-jD)))) ⟨⟨some ⟨cg,0,none⟩,cs.length,dc⟩,⟨ea,kI,ec⟩,⟨some ⟨g,0,none⟩,b.ls.length,mc⟩,⟨na,kU,nc⟩⟩ ⟨(cs.set i ⟨cs[i].key,cs[i].coll,cs[i].lo,cs[i].hi,cs[i].start,cs[i].up+(su-jD),cs[i].down⟩),b.free,b.ls,b.bound⟩ xs):=
       ah ((mo.out.keep (aL _ _).drew).zF rfl (i*7+5) (by show _<cs.length*7;omega) _ (wT cs i hi _) (by simp))
      have ZM:Hid ((W9.drew.setCell ⟨cg,i*7+5,none⟩ (.int .i64 (cs[i].up+(su-jD)))).heap[p11]? =some (.cells #[.string sk,.int .i64 su,.int .i64 sd,.int .i64 jD,.int .i64 mh] 88 (0,0))):=ah ((aX _ _ _ ZL _).trans UD.out);have HDN:Hid ((cs.set i ⟨cs[i].key,cs[i].coll,cs[i].lo,cs[i].hi,cs[i].start,cs[i].up+(su-jD),cs[i].down⟩)[i]? =some ⟨cs[i].key,cs[i].coll,cs[i].lo,cs[i].hi,cs[i].start,cs[i].up+(su-jD),cs[i].down⟩):=ah (by rw[List.getElem?_set_self hi]);have CJ:=V8.out;unfold Tf at CJ;simp only at CJ;obtain⟨r1,r2,r3,r4,r5,r6⟩:=CJ;obtain⟨o1,o2,o3,o4⟩:=vS.out;have ad3:=ah (show Hid (fH cs ⟨sk,su,sd,jD,mh⟩=(cs.set i ⟨cs[i].key,cs[i].coll,cs[i].lo,cs[i].hi,cs[i].start,cs[i].up+(su-jD),cs[i].down⟩).set i ⟨cs[i].key,cs[i].coll,cs[i].lo,cs[i].hi,cs[i].start,cs[i].up+(su-jD),cs[i].down+(sd-mh)⟩)from Nh);generalize hcu:cs[i].up=cu at*;generalize hcd:cs[i].down=cd at*;have i1:IntKind.i64.wrap (su-jD)=su-jD:=IntWalk.i64_in _ (by omega);have i2:IntKind.i64.wrap (cu+(su-jD))=cu+(su-jD):=IntWalk.i64_in _ (by omega);have i3:IntKind.i64.wrap (sd-mh)=sd-mh:=IntWalk.i64_in _ (by omega);have i4:IntKind.i64.wrap (cd+(sd-mh))=cd+(sd-mh):=IntWalk.i64_in _ (by omega);have Wy:=ah (And.intro i3 i4);clear vS r1 r2 r3 r4 r5 r6 o1 o2 o3 o4 i3 i4 eu p1 p2 p3 p4 p5 p6 p7 u6 ZL;have JE:=mo.out.kb;simp only[Sv.v]at JE;obtain⟨c0,c1,c2,c3,_⟩:=ay JE;obtain⟨s0,s1,s2,s3,s4⟩:=jM UD.out;clear JE;go_upto_region 11 with fail
      go_still_tail 14,(by kernel_rfl)
      change wpList _ _ _ _ _ W9.drew;go_upto_region 12 with fail
      rw[show (W9.setCell ⟨cg,i*7+5,none⟩ (.int .i64 (cu+(su-jD)))).drew=W9.drew.setCell ⟨cg,i*7+5,none⟩ (.int .i64 (cu+(su-jD)))from rfl];have HFS:=ah Ba.out;have JF:=Ba.out;generalize hcs1:cs.set i ⟨cs[i].key,cs[i].coll,cs[i].lo,cs[i].hi,cs[i].start,cu+(su-jD),cd⟩=cs1 at*;have Ld:cs1.length=cs.length:=by rw[←hcs1,List.length_set]
      have aiL:=ah hcs1;have hi1:i<cs1.length:=by omega
      have FX:cs1[i]=⟨cs[i].key,cs[i].coll,cs[i].lo,cs[i].hi,cs[i].start,cu+(su-jD),cd⟩:=by
       have:=HDN.out;rw[List.getElem?_eq_getElem hi1]at this;injection this
      have eu:=JF.rc;simp only[Sv.v]at eu;rw[Ld]at eu;obtain⟨p1,p2,p3,p4,p5,p6,p7⟩:=bg eu;have v6:(W9.drew.setCell ⟨cg,i*7+5,none⟩ (.int .i64 (cu+(su-jD)))).cell? ⟨cg,i*7+6,none⟩=some (.int .i64 cd):=p7 _ _ (by rw[bV fG _ i hi1 6 (by omega),FX];rfl);have g6:=p6 (i*7+6);have JE:=JF.kb;simp only[Sv.v]at JE;have hk10:=ZM.out;have Ni:=ah ((JF.keep (aL _ _).drew).zF rfl (i*7+6) (by show _<cs1.length*7;omega) (.int .i64 (cd+(sd-mh))) (wU cs1 i hi1 _) (by simp));clear hcs1 JF eu p1 p2 p3 p4 p5 p6 p7 c0 c1 c2 c3 s0 s1 s2 s3 s4 g5 u5 Ba ZM mo UD;generalize W9.drew.setCell ⟨cg,i*7+5,none⟩ (.int .i64 (cu+(su-jD)))=V1 at*;obtain⟨c0,c1,c2,c3,_⟩:=ay JE;obtain⟨s0,s1,s2,s3,s4⟩:=jM hk10;clear JE hk10 i1 i2;obtain⟨i3,i4⟩:=Wy.out;go_still_tail 14,(by kernel_rfl)
      change wpList _ _ _ _ _ V1.drew;go_wp2;rw[show (V1.setCell ⟨cg,i*7+6,none⟩ (.int .i64 (cd+(sd-mh)))).drew=V1.drew.setCell ⟨cg,i*7+6,none⟩ (.int .i64 (cd+(sd-mh)))from rfl];clear c0 c1 c2 c3 s0 s1 s2 s3 s4 i3 i4 g6 v6;go_roundw
      case rel=>
       refine⟨j+1,by omega,by go_num,?_⟩;have h11:=Ni.out;rw[FX]at h11;simp only at h11;rw[M5.out,ad3.out.out];exact h11
      case measure=>simp[intOf];omega
    ·have HE:Hid (j=l.sl.length):=ah (by omega)
     have t_:¬ (j:Int)<l.sl.length:=by omega
     go_wp2;go_meet;have h1:=Lp.out;rw[HE.out,List.take_length]at h1;exact h1
  case rest=>
  obtain⟨W8,YJ⟩:∃W8,W8=wc:=⟨_,rfl⟩;subst YJ;have Lr:=ah hcut;have B_:=rC l.sl 2199023255552 b.cs (by omega) rW.out.ct rW.out.sc;have HC8:Hid ((l.sl.foldl fH b.cs).length=b.cs.length):=ah B_.2;clear hcut VX B_ d0 d1 d2 d3 d4 d5 d6;have P7:Hid (∃cs,l.sl.foldl fH b.cs=cs):=ah ⟨_,rfl⟩;obtain⟨cs,kE⟩:=P7.out;clear P7;rw[kE]at Lr HC8;have Wi:=ah kE;clear kE;obtain⟨d0,d1,d2,d3,d4,d5,d6,_⟩:=aB Lr.out.k9;go_upto_block 2 with fail
  go_cut[13] (fun zh wx=>∃lv bv:Sv,zh=lv.v∧wx.ownsRow w.heap.size 56 2 lv.v (l.used.foldl eU l.ids).length (aR (l.used.foldl eU l.ids))∧Fr w.heap.size w.heap.size (w.heap.size+1) p9 #[.int .i64 z1,.int .i64 z2,.int .i64 z3,.int .i64 z4,.slice z5 l.sl.length z7,.slice z8 l.ids.length dK,.slice dU l.used.length dQ] w wx ⟨⟨da,dn,dc⟩,⟨ea,kI,ec⟩,⟨some ⟨g,0,none⟩,b.ls.length,mc⟩,bv⟩ ⟨cs,b.free,b.ls,l.used.foldl gV b.bound⟩ xs)
  case first=>
   go_wp2
   go_loopw[13,83] (fun zh v83 wr=>∃ (j:Nat) (lv bv:Sv),j≤l.used.length∧v83= .int .i64 j∧zh=lv.v∧wr.ownsRow w.heap.size 56 2 lv.v ((l.used.take j).foldl eU l.ids).length (aR ((l.used.take j).foldl eU l.ids))∧Fr w.heap.size w.heap.size (w.heap.size+1) p9 #[.int .i64 z1,.int .i64 z2,.int .i64 z3,.int .i64 z4,.slice z5 l.sl.length z7,.slice z8 l.ids.length dK,.slice dU l.used.length dQ] w wr ⟨⟨da,dn,dc⟩,⟨ea,kI,ec⟩,⟨some ⟨g,0,none⟩,b.ls.length,mc⟩,bv⟩ ⟨cs,b.free,b.ls,(l.used.take j).foldl gV b.bound⟩ xs) (fun _ v83 _=>l.used.length-(intOf v83).toNat)
   case atStart=>
    have hLk':jF W8 w.heap.size xs[k] b.ls[k]:=bN.at Lr.out.each k xL hk;rw[HX.out,R3.out]at hLk';exact⟨0,⟨z8,l.ids.length,dK⟩,⟨na,kU,nc⟩,Nat.zero_le _,rfl,rfl,hLk'.i,Lr.out⟩
   case round=>
    obtain⟨j,⟨ZN,lvn,ZO⟩,⟨G6,G7,G8⟩,hj,rfl,rfl,hlv,IB⟩:=hrel;have Lp:=ah IB;clear IB;have Lu:=oF (l.used.take j) l.ids rW.out.row;have hll:=rW.out.len;have qo:=pQ _ Lu.1.1;have EF:Hid (Small ((l.used.take j).foldl eU l.ids)):=ah Lu.1.1;have KQ:((l.used.take j).foldl eU l.ids).length<1000000:=by omega
    have hbp:=yY (l.used.take j) b.bound rW.out.sort;have hul:=(rW.out.each l (by rw[←R3.out];exact List.getElem_mem hk)).2.2;have hnb:=rW.out.nb
    have kZ:((l.used.take j).foldl gV b.bound).length<50000:=by
     have h1:=hbp.2;rw[List.length_take]at h1;omega
    have HBP:=ah hbp.1;clear Lu hbp qo hll;by_cases bA:j<l.used.length
    ·have t_:(j:Int)<l.used.length:=by omega
     have hLk':jF wr w.heap.size xs[k] b.ls[k]:=bN.at Lp.out.each k xL hk;rw[HX.out,R3.out]at hLk';obtain⟨ub,uo,rfl,B_,s0⟩:=jv.cell (aG hLk'.u) (aL _ _) (aC _) j bA;have Ti:=ah (rW.out.used l.used[j] (List.getElem_mem bA));have HSL:=ah (mH eU l.used l.ids j bA);have P8:=ah (mH gV l.used b.bound j bA);have ZP:=ah hlv;clear hLk' B_ hlv;generalize (l.used.take j).foldl eU l.ids=left at*;generalize (l.used.take j).foldl gV b.bound=bd at*;generalize l.used[j]=u at*;go_wp2_with fail
     refine(Ng _ left u _ (aG ZP.out) EF.out KQ Ti.out.1 Ti.out.2).mono ?_;rintro e W9 ⟨v',rfl,hro,jW⟩;have mo:=ah (Lp.out.keep jW);have ZQ:=ah (aI ZP.out jW (aC _));have HRO:Hid (dM left u=true→W9.ownsRow w.heap.size 56 2 v' (cZ left u).length (aR (cZ left u))):=ah (fun h=>aN (hro h) Lp.out.hB);clear hro jW Lp ZP s0;have WE:Hid (eU left u=if dM left u=true then cZ left u else left):=ah rfl;generalize dM left u=q at*;go_upto_if 93 with fail
     go_cut[13] (fun zh wx=>∃lv':Sv,zh=lv'.v∧W9.ownsRow w.heap.size 56 2 lv'.v (eU left u).length (aR (eU left u))∧wx=W9)
     case first=>
      cases q with
      | true=>
       have h1:=HRO.out rfl;obtain⟨Et,YK,rfl,_,_⟩:=aO h1;have Uw:=ah h1;clear h1;go_wp2;go_meet;exact⟨⟨Et,_,YK⟩,rfl,by rw[show eU left u=cZ left u by rw[WE.out];simp];exact Uw.out,rfl⟩
      | false=>
       go_wp2;go_meet;exact⟨⟨ZN,lvn,ZO⟩,rfl,by rw[show eU left u=left by rw[WE.out];simp];exact ZQ.out,rfl⟩
     case rest=>
     obtain⟨⟨ma1,mn1,mc1⟩,rfl,hlv1,rV⟩:=hcut;have Uw:=ah hlv1;obtain⟨V9,hV9⟩:∃V9,V9=wc:=⟨_,rfl⟩;subst hV9;subst rV;clear hlv1 HRO WE ZQ;obtain⟨c0,c1,c2,c3,_⟩:=ay mo.out.kb;simp only[Sv.v]at c0 c1 c2 c3;have HBI:Hid (gV bd u=if bd.contains u=true then bd else rise bd u):=ah rfl;have RZ:=ah (A9 bd u);have UE:=ah (ze bd u);have hcp:bd.countP (· <u)≤bd.length:=List.countP_le_length;go_wp2_with fail
     refine(yZ _ bd u _ (aG mo.out.rb) (by omega) HBP.out).mono ?_;rintro e V9 ⟨rfl,rfl⟩;generalize hcc:bd.countP (· <u)=cp at*;generalize bd.contains u=q2 at*;clear hcc
     cases q2 with
     | true=>
      have jI:Hid (gV bd u=bd):=ah (by rw[HBI.out];simp);clear HBI;go_wp2;go_roundw
      case rel=>exact⟨j+1,⟨ma1,mn1,mc1⟩,⟨G6,G7,G8⟩,by omega,by go_num,rfl,by rw[HSL.out];exact Uw.out,by rw[P8.out,jI.out];exact mo.out⟩
      case measure=>simp[intOf];omega
     | false=>
      have jI:Hid (gV bd u=rise bd u):=ah (by rw[HBI.out];simp);have eD:Below V9.heap.size V9 (V9.alloc (.cells #[.int .i64 u] 3)):=(aL _ _).alloc (aC _) _;have Wu:(V9.alloc (.cells #[.int .i64 u] 3)).heap[V9.heap.size]? =some (.cells #[.int .i64 u] 3 (0,0)):=heap_alloc_new _ _;have P_:=ah (mo.out.keep eD);have HLA:=ah (aI Uw.out eD (aC _))
      have pY:(Value.slice G6 G7 G8).ownBlock≠some V9.heap.size:=fun e=>by
       have:=(mo.out.rb.lt _ e).2;omega
      clear eD HBI;go_wp2_with fail
      generalize V9.alloc (.cells #[.int .i64 u] 3)=vH at*;generalize hv8:V9.heap.size=v8 at*;clear hv8;refine(wR _ bd.length cp (bS bd) [.int .i64 u] vH w.heap.size v8 P_.out.rb (oh _) (by intro u hu;simp at hu;subst hu;rfl) rfl (by omega) hcp P_.out.hB Wu pY).mono ?_;rintro e ES ⟨v',rfl,Av,Lm,ER⟩;rw[RZ.out,←UE.out]at Av;obtain⟨kJ,cap',rfl,_,_⟩:=aO Av;have HFI:=ah (P_.out.adY (v':=⟨kJ,_,cap'⟩) Av Lm ER);have mR:=A_ P_.out.kb P_.out.rb Lm (by decide);have hla:=tJ HLA.out P_.out.rb Lm (by decide);have EO:=ah (aF hla (g:=w.heap.size) (W':=ES.setCell ⟨w.heap.size,3,none⟩ (.slice kJ (rise bd u).length cap')) (fun c hc=>aX _ _ _ (fun e=>hc e.symm) _) mR (by decide));obtain⟨d0,d1,d2,d3,_⟩:=ay mR;have f3:=aA mR 3;simp only[Sv.v]at d0 d1 d2 d3 HFI;clear mR hla Av Lm ER pY Wu;go_wp2;go_roundw
      case rel=>exact⟨j+1,⟨ma1,mn1,mc1⟩,⟨kJ,_,cap'⟩,by omega,by go_num,rfl,by rw[HSL.out];exact EO.out,by rw[P8.out,jI.out];exact HFI.out⟩
      case measure=>simp[intOf];omega
    ·have HE:Hid (j=l.used.length):=ah (by omega)
     have t_:¬ (j:Int)<l.used.length:=by omega
     go_wp2;go_meet;have h1:=Lp.out;rw[HE.out,List.take_length]at h1 hlv;exact⟨_,_,rfl,hlv,h1⟩
  case rest=>
  obtain⟨⟨ZN,lvn,ZO⟩,⟨G6,G7,G8⟩,ZR,hlv,IB⟩:=hcut;change _=Value.slice ZN lvn ZO at ZR;subst ZR;obtain⟨W9,WG⟩:∃W9,W9=wc:=⟨_,rfl⟩;subst WG;have mo:=ah IB;have Lu:=oF l.used l.ids rW.out.row;have hll:=rW.out.len;have qo:=pQ _ Lu.1.1;have KQ:(l.used.foldl eU l.ids).length<10000:=by omega
  have hnf:=rW.out.nf;have hbp:=yY l.used b.bound rW.out.sort;have hul:=(rW.out.each l (by rw[←R3.out];exact List.getElem_mem hk)).2.2;have hnb:=rW.out.nb;have kZ:(l.used.foldl gV b.bound).length<100000:=by have h1:=hbp.2;omega
  clear Lu qo hll IB hbp Lr d0 d1 d2 d3 d4 d5 d6
  have fO:Hid (pK b d ep=(⟨cs,bK b.free (l.used.foldl eU l.ids),b.ls.eraseIdx k,l.used.foldl gV b.bound⟩,0)):=ah (by
   unfold pK;rw[HI.out,if_neg (by omega)];simp only[Int.toNat_natCast,List.getD,List.getElem?_eq_getElem hk,Option.getD_some,R3.out];unfold PL
   rw[Wi.out])
  generalize l.used.foldl eU l.ids=left at*;generalize l.used.foldl gV b.bound=bd at*;obtain⟨ql,_,_⟩:=Sl.lens (s:=⟨ZN,lvn,ZO⟩) (aG hlv);simp only at ql;subst ql;have ZP:=ah hlv;clear hlv;go_upto_block 4 with fail
  go_cut[] (fun wx=>∃fv:Sv,Fr w.heap.size w.heap.size (w.heap.size+1) p9 #[.int .i64 z1,.int .i64 z2,.int .i64 z3,.int .i64 z4,.slice z5 l.sl.length z7,.slice z8 l.ids.length dK,.slice dU l.used.length dQ] w wx ⟨⟨da,dn,dc⟩,fv,⟨some ⟨g,0,none⟩,b.ls.length,mc⟩,⟨G6,G7,G8⟩⟩ ⟨cs,bK b.free left,b.ls,bd⟩ xs)
  case first=>
   go_wp2
   go_loopw[114] (fun WH wr=>∃ (j:Nat) (fv:Sv),j≤left.length∧WH= .int .i64 j∧wr.ownsRow w.heap.size 56 2 (.slice ZN left.length ZO) left.length (aR left)∧Fr w.heap.size w.heap.size (w.heap.size+1) p9 #[.int .i64 z1,.int .i64 z2,.int .i64 z3,.int .i64 z4,.slice z5 l.sl.length z7,.slice z8 l.ids.length dK,.slice dU l.used.length dQ] w wr ⟨⟨da,dn,dc⟩,fv,⟨some ⟨g,0,none⟩,b.ls.length,mc⟩,⟨G6,G7,G8⟩⟩ ⟨cs,bK b.free (left.take j),b.ls,bd⟩ xs) (fun WH _=>left.length-(intOf WH).toNat)
   case atStart=>exact⟨0,⟨ea,kI,ec⟩,Nat.zero_le _,rfl,ZP.out,mo.out⟩
   case round=>
    obtain⟨j,⟨Qa,Qb,Qc⟩,hj,rfl,hlv,IB⟩:=hrel;have Lp:=ah IB;have HLJ:=ah hlv;clear IB;by_cases bA:j<left.length
    ·have t_:(j:Int)<left.length:=by omega
     obtain⟨rb,ro,rfl,tO,r0,r1⟩:=fD.pair (aG hlv) (aL _ _) (aC _) j bA;have HAS:Hid (bK b.free (left.take (j+1))=iM (bK b.free (left.take j)) left[j]):=ah (by rw[aS left j bA,pz]);have qR:=iN (left.take j) b.free;have Qd:(bK b.free (left.take j)).length<1000000:=by rw[List.length_take]at qR;omega
     clear hlv qR tO;generalize bK b.free (left.take j)=fr at*;generalize left[j]=r at*;obtain⟨p,q⟩:=r;simp only at r0 r1;have eD:Below wr.heap.size wr (wr.alloc (.cells #[.int .i64 p,.int .i64 q] 56)):=(aL _ _).alloc (aC _) _;have Wu:=heap_alloc_new wr (.cells #[.int .i64 p,.int .i64 q] 56);have P_:=ah (Lp.out.keep eD);have HLA:=ah (aI HLJ.out eD (aC _));obtain⟨n0,n1,_,_,_⟩:=iB Wu;obtain⟨d0,d1,d2,d3,_⟩:=ay P_.out.kb;simp only[Sv.v]at d0 d1 d2 d3;clear eD Wu Lp HLJ;go_upto_region 28 with fail
     generalize wr.alloc (.cells #[.int .i64 p,.int .i64 q] 56)=vH at*;generalize wr.heap.size=UF at*;clear r0 r1;go_wp2_with fail
     refine(Es (.slice Qa Qb Qc) fr p q _ (aG P_.out.rf) Qd).mono ?_;rintro e ES ⟨v',rfl,ho,sI⟩;obtain⟨kJ,cap',rfl,_,_⟩:=aO ho;have DT:=P_.out.keep sI;have Ni:=ah (DT.Ev (f':=⟨kJ,_,cap'⟩) (aN ho P_.out.hB));have hla:=aI HLA.out sI (aC _);have ad6:=ah (aF hla (g:=w.heap.size) (W':=ES.setCell ⟨w.heap.size,1,none⟩ (.slice kJ (iM fr (p,q)).length cap')) (fun c hc=>aX _ _ _ (fun e=>hc e.symm) _) DT.kb (by decide));have mR:=DT.kb;clear d0 d1 d2 d3 n0 n1;obtain⟨d0,d1,d2,d3,_⟩:=ay mR;have f1:=aA mR 1;simp only[Sv.v]at d0 d1 d2 d3 Ni;clear mR hla DT ho sI;go_wp2;go_roundw
     case rel=>exact⟨j+1,⟨kJ,_,cap'⟩,by omega,by go_num,ad6.out,by rw[HAS.out];exact Ni.out⟩
     case measure=>simp[intOf];omega
    ·have HE:Hid (j=left.length):=ah (by omega)
     have t_:¬ (j:Int)<left.length:=by omega
     go_wp2;go_meet;have h1:=Lp.out;rw[HE.out,List.take_length]at h1;exact⟨_,h1⟩
  case rest=>
  obtain⟨⟨Qa,Qb,Qc⟩,IB⟩:=hcut;obtain⟨vH,Qe⟩:∃vH,vH=wc:=⟨_,rfl⟩;subst Qe;have Ba:=ah IB;have qR:=iN left b.free;have ad7:=HC8.out;have zR:=rW.out.nc;have Eu:Hid (Dl ⟨cs,bK b.free left,b.ls.eraseIdx k,bd⟩):=ah ⟨by show cs.length<_;omega,by show(bK b.free left).length<_;omega,by show(b.ls.eraseIdx k).length<_;rw[List.length_eraseIdx];split<;>omega,by show bd.length<_;omega,fun x hx=>HB.out.each x (List.mem_of_mem_eraseIdx hx)⟩;generalize bK b.free left=fr at*;obtain⟨d0,d1,d2,d3,_⟩:=ay IB.kb;simp only[Sv.v]at d0 d1 d2 d3;clear qR ad7 zR IB;have kw:IntKind.i64.wrap ((k:Int)+1)=(k:Int)+1:=IntWalk.i64_in _ (by omega);have ad8:=rW.out.nl;go_wp2_with fail
  refine(EL g b.ls.length mc k (aJ j_ xs) vH w.heap.size Ba.out.rl (gu zT _) (by omega) hk).mono ?_;rintro e ES ⟨rfl,ho,hg⟩;obtain⟨h1,h2,h3,h4,h5⟩:=Ba.out.del rfl k hk ho hg;have G9:=ah h1;have ad9:=ah h5;have UG:=ah h3;clear d0 d1 d2 d3 kw;obtain⟨d0,d1,d2,d3,_⟩:=ay h4;have f2:=aA h4 2;have sw:=ah h2;simp only[Sv.v]at d0 d1 d2 d3 sw;clear h1 h2 h3 h4 h5 ho hg;go_upto_region 31 with fail
  generalize ES.setCell ⟨w.heap.size,2,none⟩ (.slice (some ⟨g,0,none⟩) (b.ls.length-1) mc)=W12 at*;clear d0 d1 d2 d3 f2;obtain⟨d0,d1,d2,d3,_⟩:=ay sw.out;go_wp2_with fail
  refine(jy ⟨⟨da,dn,dc⟩,⟨Qa,Qb,Qc⟩,⟨some ⟨g,0,none⟩,b.ls.length-1,mc⟩,⟨G6,G7,G8⟩⟩ ⟨cs,fr,b.ls.eraseIdx k,bd⟩ _ ad9.out Eu.out).mono ?_;rintro e W13 ⟨⟨⟨ta,tn,tc⟩,⟨ua,un,uc⟩,⟨va,vn,vc⟩,⟨xa,xn,xc⟩⟩,ys,C2,rfl,qN,hC2,WI⟩;have Aa:=aj UG.out WI (bq UG.out).1;have CK:w.heap.size+1<W12.heap.size:=(bq UG.out).1;obtain⟨e0,e1,e2,e3,_⟩:=ay Aa;have f0:=aA Aa 0;have f1:=aA Aa 1;have f2:=aA Aa 2;have f3:=aA Aa 3;have Uy:=ah ((((qN.put hC2 ⟨w.heap.size+1,0,none⟩ CK (.slice ta tn tc)).put hC2 ⟨w.heap.size+1,1,none⟩ CK (.slice ua un uc)).put hC2 ⟨w.heap.size+1,2,none⟩ CK (.slice va vn vc)).put hC2 ⟨w.heap.size+1,3,none⟩ CK (.slice xa xn xc));have ad_:=ah (G9.out.trans (WI.mono G9.out.size));clear qN WI Aa d0 d1 d2 d3;go_wp2;refine bodyPost_ret (v:=.tuple #[.agg #[.slice ta tn tc,.slice ua un uc,.slice va vn vc,.slice xa xn xc],.int .i64 0]) (by simp[results,Tryz.results28,go_sem, *]) rfl (show nK _ _ _ _ from ?_);refine⟨⟨⟨ta,tn,tc⟩,⟨ua,un,uc⟩,⟨va,vn,vc⟩,⟨xa,xn,xc⟩⟩,by rw[fO.out],by rw[fO.out];exact Uy.out.m,?_⟩;exact(((ad_.out.setCell (by simp) _).setCell (by simp) _).setCell (by simp) _).setCell (by simp) _
end Go.Proofs.YtlfopoimbbpfdaaGreat
