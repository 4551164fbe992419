/- What the law asks, in parts: LFw. -/
import Derived.Test.YtlfopoimbbpfdaaGreatPk13
import Derived.Test.YtlfopoimbbpfdaaGreatPk15
import Derived.Test.YtlfopoimbbpfdaaGreatPk3
set_option linter.all false
namespace Go.Proofs.YtlfopoimbbpfdaaGreat
open Go.RowKit
section
variable {W W':World}
theorem qG {base base':Nat} {T T':TypeId} {E E' n n':Nat} {v v':Value} {zs zs':List Value} (h:W.ownsRow base T E v n zs) (hv:W.ownsRow base' T' E' v' n' zs') (hg:W.grownBy W' v'.ownBlock) (hne:T≠T'):W'.ownsRow base T E v n zs:=by
 refine h.kept hg ?_
 cases hq:v.ownBlock with
 | none=>exact .inl rfl
 | some q=>
  refine .inr (fun hq'=>?_)
  rcases hy:v'.ownBlock with _ | q2
  ·rw[hy]at hq';cases hq'
  ·rw[hy]at hq'
   obtain⟨cur,hc⟩:=jK hv hy
   injection hq' with hq'
   subst hq'
   exact jW h hc hne hq
theorem yV {base':Nat} {T T':TypeId} {E' n' q:Nat} {v':Value} {zs':List Value} {cur:Array Value} {z:Nat×Nat} (hk:W.heap[q]? =some (.cells cur T z)) (hv:W.ownsRow base' T' E' v' n' zs') (hg:W.grownBy W' v'.ownBlock) (hne:T≠T'):W'.heap[q]? =some (.cells cur T z):=by
 rw[hg.block q (bg hk).1 (fun e=>by
  obtain⟨cur',hc⟩:=jK hv e.symm
  rw[hk]at hc
  injection hc with hc
  injection hc with _ hc _
  exact hne hc)]
 exact hk
theorem Q8 {base base':Nat} {T T':TypeId} {E E' n n':Nat} {v v':Value} {zs zs':List Value} (h:W.ownsRow base T E v n zs) (_hv:W.ownsRow base' T' E' v' n' zs') (hg:W.grownBy W' v'.ownBlock) (hne:∀g,v.ownBlock=some g→v'.ownBlock≠some g):W'.ownsRow base T E v n zs:=by
 refine h.kept hg ?_
 cases hq:v.ownBlock with
 | none=>exact .inl rfl
 | some q=>exact .inr (fun e=>hne q hq e.symm)
theorem lI {g q:Nat} {T T':TypeId} {cur cur':Array Value} {z z':Nat×Nat} (hk:W.heap[q]? =some (.cells cur T z)) (hoth:∀b,b≠g→W'.heap[b]? =W.heap[b]?) (hg:W.heap[g]? =some (.cells cur' T' z')) (hne:T≠T'):W'.heap[q]? =some (.cells cur T z):=by
 rw[hoth q (fun e=>by
  rw[e,hg]at hk
  injection hk with hk
  injection hk with _ hk _
  exact hne hk.symm)]
 exact hk
end
theorem bI.mem {α β:Type} {R:α→β→Prop}:∀ {l:List α} {m:List β},bI R l m→ ∀a∈l,∃b∈m,R a b
 | [],_,_,a,ha=>by cases ha
 | x::l,y::m,h,a,ha=>by
  rcases List.mem_cons.1 ha with rfl | ha
  ·exact⟨y,by simp,h.1⟩
  ·obtain⟨b,hb,hr⟩:=bI.mem h.2 a ha
   exact⟨b,by simp[hb],hr⟩
 | _::_,[],h,_,_=>absurd h (by simp[bI])
theorem bI.erase {α β:Type} {R:α→β→Prop}:∀ {l:List α} {m:List β},bI R l m→ ∀k,bI R (l.eraseIdx k) (m.eraseIdx k)
 | [],[],_,_=>by simp[bI]
 | x::l,y::m,h,0=>h.2
 | x::l,y::m,h,k+1=>⟨h.1,bI.erase h.2 k⟩
 | _::_,[],h,_=>absurd h (by simp[bI])
 | [],_::_,h,_=>absurd h (by simp[bI])
theorem yX (l:List bV) (k:Nat):(aK iZ l).take (k*7)++(aK iZ l).drop ((k+1)*7)=aK iZ (l.eraseIdx k):=by
 induction l generalizing k with
 | nil=>simp[aK]
 | cons x l ih=>
  cases k with
  | zero=>simp[aU,iZ]
  | succ k=>
   have e:(k+1)*7=k*7+7:=by omega
   have e2:(k+1+1)*7=(k+1)*7+7:=by omega
   rw[List.eraseIdx_cons_succ,aU,aU,←ih k,e,e2]
   simp[iZ]
   omega
structure Fr (B pb p6 p9:Nat) (ys:Array Value) (w0 W:World) (x:bZ) (b:Bk) (xs:List bV):Prop where
 aZ:Below B w0 W
 kb:W.heap[pb]? =some (.cells #[x.c.v,x.f.v,x.l.v,x.b.v] 30 (0,0))
 k6:W.heap[p6]? =some (.cells #[.slice none 0 0,.slice none 0 0,.slice none 0 0,.slice none 0 0] 30 (0,0))
 k9:W.heap[p9]? =some (.cells ys 48 (0,0))
 hb:B≤pb
 h6:pb≠p6
 n9:x.l.v.ownBlock≠some p9
 rc:W.ownsRow B 54 7 x.c.v b.cs.length (aK jE b.cs)
 rf:W.ownsRow B 56 2 x.f.v b.free.length (aR b.free)
 rl:W.ownsRow B 48 7 x.l.v b.ls.length (aK iZ xs)
 rb:W.ownsRow B 3 1 x.b.v b.bound.length (bM b.bound)
 each:bI (iC W B) xs b.ls
 sep:∀z∈xs,∀g,z.u.v.ownBlock=some g→x.b.v.ownBlock≠some g
section
variable {B pb p6 p9:Nat} {ys:Array Value} {w0 W W':World} {x:bZ} {b:Bk} {xs:List bV}
theorem Fr.Ie (h:Fr B pb p6 p9 ys w0 W x b xs):pb<W.heap.size:=(bg h.kb).1
theorem Fr.ZU (h:Fr B pb p6 p9 ys w0 W x b xs):p6<W.heap.size:=(bg h.k6).1
theorem Fr.sz9 (h:Fr B pb p6 p9 ys w0 W x b xs):p9<W.heap.size:=(bg h.k9).1
theorem Fr.hB (h:Fr B pb p6 p9 ys w0 W x b xs):B≤W.heap.size:=Nat.le_trans h.hb (Nat.le_of_lt h.Ie)
theorem Fr.keep (h:Fr B pb p6 p9 ys w0 W x b xs) (hb:Below W.heap.size W W'):Fr B pb p6 p9 ys w0 W' x b xs:=
 ⟨h.aZ.trans (hb.mono h.hB),aj h.kb hb h.Ie,aj h.k6 hb h.ZU,aj h.k9 hb h.sz9,h.hb,h.h6,h.n9,aJ h.rc hb (aC _),aJ h.rf hb (aC _),aJ h.rl hb (aC _),aJ h.rb hb (aC _),
  h.each.imp (fun _ _ r=>r.keep hb (aC _)),h.sep⟩
theorem Fr.m (h:Fr B pb p6 p9 ys w0 W x b xs):eD W x b:=
 ⟨aI h.rc,aI h.rf,⟨xs,by have:=aI h.rl;rw[←h.each.len]at this;exact this,h.each.imp (fun _ _ r=>r.m)⟩,aI h.rb⟩
theorem Fr.Az (h:Fr B pb p6 p9 ys w0 W x b xs) {f':Sv} {free':List Rg} (ho:W.ownsRow B 56 2 f'.v free'.length (aR free')):
  Fr B pb p6 p9 ys w0 (W.setCell ⟨pb,1,none⟩ f'.v) ⟨x.c,f',x.l,x.b⟩ ⟨b.cs,free',b.ls,b.bound⟩ xs:=by
 have hoth:∀c,c≠pb→(W.setCell ⟨pb,1,none⟩ f'.v).heap[c]? =W.heap[c]? :=fun c hc=>aW _ _ _ (fun e=>hc e.symm) _
 exact⟨h.aZ.setCell h.hb _,lC h.kb _,(hoth p6 (fun e=>h.h6 e.symm)).trans h.k6,lI h.k9 hoth h.kb (by decide),h.hb,h.h6,h.n9,aH h.rc hoth h.kb (by decide),aH ho hoth h.kb (by decide),aH h.rl hoth h.kb (by decide),aH h.rb hoth h.kb (by decide),
  h.each.imp (fun _ _ r=>r.other hoth h.kb (by decide) (by decide) (by decide)),h.sep⟩
theorem Fr.AB (h:Fr B pb p6 p9 ys w0 W x b xs) {g n cap:Nat} (hx:x.c=⟨some ⟨g,0,none⟩,n,cap⟩) (j:Nat) (hj:j<b.cs.length*7) (u:Value) {cs':List Ct} (hcs:(aK jE b.cs).set j u=aK jE cs') (hl:cs'.length=b.cs.length):
  Fr B pb p6 p9 ys w0 (W.setCell ⟨g,j,none⟩ u) x ⟨cs',b.free,b.ls,b.bound⟩ xs:=by
 have hoth:∀c,c≠g→(W.setCell ⟨g,j,none⟩ u).heap[c]? =W.heap[c]? :=fun c hc=>aW _ _ _ (fun e=>hc e.symm) _
 have hrc:=h.rc
 rw[hx]at hrc
 simp only[Sv.v]at hrc
 have hn:n=b.cs.length:=by
  obtain⟨_,_,he,_,_⟩:=aP hrc
  injection he with _ he _
 subst hn
 obtain⟨cur,hg⟩:=eu hrc
 have hB:B≤g:=(bq hrc).1
 have hset:=dF hrc j (by rw[bL dX];exact hj) u
 rw[hcs]at hset
 exact⟨h.aZ.setCell hB _,lI h.kb hoth hg (by decide),lI h.k6 hoth hg (by decide),lI h.k9 hoth hg (by decide),h.hb,h.h6,h.n9,by rw[hx];show World.ownsRow _ _ _ _ _ cs'.length _;rw[hl];exact hset,aH h.rf hoth hg (by decide),aH h.rl hoth hg (by decide),aH h.rb hoth hg (by decide),
  h.each.imp (fun _ _ r=>r.other hoth hg (by decide) (by decide) (by decide)),h.sep⟩
theorem qH {w:World} {b:Nat} {a0 a1 a2 a3:Value} {t:TypeId} (h:w.heap[b]? =some (.cells #[a0,a1,a2,a3] t (0,0))) (x:Value):(w.setCell ⟨b,3,none⟩ x).heap[b]? =some (.cells #[a0,a1,a2,x] t (0,0)):=by
 simp[World.setCell,Array.getElem?_modify,h]
theorem jq {w:World} {b:Nat} {a0 a1 a2 a3:Value} {t:TypeId} (h:w.heap[b]? =some (.cells #[a0,a1,a2,a3] t (0,0))) (x:Value):(w.setCell ⟨b,2,none⟩ x).heap[b]? =some (.cells #[a0,a1,x,a3] t (0,0)):=by
 simp[World.setCell,Array.getElem?_modify,h]
theorem Fr.ZV (h:Fr B pb p6 p9 ys w0 W x b xs) {v':Sv} {bd:List Int} (ho:W'.ownsRow B 3 1 v'.v bd.length (bM bd)) (hg:W.grownBy W' x.b.v.ownBlock) (hat:v'.v.ownBlock=x.b.v.ownBlock∨ ∃g,v'.v.ownBlock=some g∧W.heap.size≤g):
  Fr B pb p6 p9 ys w0 (W'.setCell ⟨pb,3,none⟩ v'.v) ⟨x.c,x.f,x.l,v'⟩ ⟨b.cs,b.free,b.ls,bd⟩ xs:=by
 have hkb:=yV h.kb h.rb hg (by decide)
 have pQ:=yV h.k6 h.rb hg (by decide)
 have JB:=yV h.k9 h.rb hg (by decide)
 have hoth:∀c,c≠pb→(W'.setCell ⟨pb,3,none⟩ v'.v).heap[c]? =W'.heap[c]? :=fun c hc=>aW _ _ _ (fun e=>hc e.symm) _
 have Cz:bI (iC W' B) xs b.ls:=h.each.imp_mem (fun z l' hz r=>⟨r.dev,r.epoch,r.bY,r.last,qG r.s h.rb hg (by decide),qG r.i h.rb hg (by decide),Q8 r.u h.rb hg (h.sep z hz)⟩)
 refine⟨(h.aZ.grown hg h.hB (fun g' hg'=>(h.rb.lt g' hg').1)).setCell h.hb _,qH hkb _,(hoth p6 (fun e=>h.h6 e.symm)).trans pQ,lI JB hoth hkb (by decide),h.hb,h.h6,h.n9,aH (qG h.rc h.rb hg (by decide)) hoth hkb (by decide),aH (qG h.rf h.rb hg (by decide)) hoth hkb (by decide),aH (qG h.rl h.rb hg (by decide)) hoth hkb (by decide),aH ho hoth hkb (by decide),
  Cz.imp (fun _ _ r=>r.other hoth hkb (by decide) (by decide) (by decide)),fun z hz g hzg e=>?_⟩
 rcases hat with hat | ⟨q,hq,hsz⟩
 ·exact h.sep z hz g hzg (hat▸e)
 ·rw[hq]at e
  injection e with e
  subst e
  obtain⟨l',_,hl'⟩:=h.each.mem z hz
  have:=(hl'.u.lt _ hzg).2
  omega
theorem Fr.del (h:Fr B pb p6 p9 ys w0 W x b xs) {g cap:Nat} (hx:x.l=⟨some ⟨g,0,none⟩,b.ls.length,cap⟩) (k:Nat) (hk:k<b.ls.length)
  (ho:W'.ownsRow B 48 7 (.slice (some ⟨g,0,none⟩) (b.ls.length-1) cap) (b.ls.length-1) ((aK iZ xs).take (k*7)++(aK iZ xs).drop ((k+1)*7))) (hg:W.grownBy W' (some g)):
  Below B w0 (W'.setCell ⟨pb,2,none⟩ (.slice (some ⟨g,0,none⟩) (b.ls.length-1) cap))∧
  (W'.setCell ⟨pb,2,none⟩ (.slice (some ⟨g,0,none⟩) (b.ls.length-1) cap)).heap[pb]? =some (.cells #[x.c.v,x.f.v,.slice (some ⟨g,0,none⟩) (b.ls.length-1) cap,x.b.v] 30 (0,0))∧
  (W'.setCell ⟨pb,2,none⟩ (.slice (some ⟨g,0,none⟩) (b.ls.length-1) cap)).heap[p6]? =some (.cells #[.slice none 0 0,.slice none 0 0,.slice none 0 0,.slice none 0 0] 30 (0,0))∧
  W'.heap[pb]? =some (.cells #[x.c.v,x.f.v,x.l.v,x.b.v] 30 (0,0))∧
  eD (W'.setCell ⟨pb,2,none⟩ (.slice (some ⟨g,0,none⟩) (b.ls.length-1) cap)) ⟨x.c,x.f,⟨some ⟨g,0,none⟩,b.ls.length-1,cap⟩,x.b⟩ ⟨b.cs,b.free,b.ls.eraseIdx k,b.bound⟩:=by
 have hrl:=h.rl
 have hg':W.grownBy W' x.l.v.ownBlock:=by rw[hx];exact hg
 have hkb:=yV h.kb h.rl hg' (by decide)
 have pQ:=yV h.k6 h.rl hg' (by decide)
 generalize hv:(Value.slice (some ⟨g,0,none⟩) (b.ls.length-1) cap)=v at*
 have hoth:∀c,c≠pb→(W'.setCell ⟨pb,2,none⟩ v).heap[c]? =W'.heap[c]? :=fun c hc=>aW _ _ _ (fun e=>hc e.symm) _
 have Cz:bI (iC (W'.setCell ⟨pb,2,none⟩ v) B) xs b.ls:=h.each.imp (fun z l' r=>⟨r.dev,r.epoch,r.bY,r.last,aH (qG r.s h.rl hg' (by decide)) hoth hkb (by decide),aH (qG r.i h.rl hg' (by decide)) hoth hkb (by decide),aH (qG r.u h.rl hg' (by decide)) hoth hkb (by decide)⟩)
 refine⟨(h.aZ.grown hg' h.hB (fun q hq=>(h.rl.lt q hq).1)).setCell h.hb _,jq hkb _,(hoth p6 (fun e=>h.h6 e.symm)).trans pQ,hkb,?_⟩
 rw[yX]at ho
 have hlen:(xs.eraseIdx k).length=b.ls.length-1:=by rw[List.length_eraseIdx,h.each.len,if_pos hk]
 refine⟨aI (aH (qG h.rc h.rl hg' (by decide)) hoth hkb (by decide)),aI (aH (qG h.rf h.rl hg' (by decide)) hoth hkb (by decide)),⟨xs.eraseIdx k,?_,(Cz.erase k).imp (fun _ _ r=>r.m)⟩,aI (aH (qG h.rb h.rl hg' (by decide)) hoth hkb (by decide))⟩
 have h9:=aI (aH ho hoth hkb (by decide))
 show Sl _ 7 (Value.slice (some ⟨g,0,none⟩) (b.ls.length-1) cap) (xs.eraseIdx k).length _
 rw[hv,hlen]
 exact h9
end
end Go.Proofs.YtlfopoimbbpfdaaGreat
namespace Go.Proofs.YtlfopoimbbpfdaaGreat
open Go.RowKit
theorem rW (l:List Ct) (k:Nat) (hk:k<l.length) (u:Int):
  (aK jE l).set (k*7+5) (.int .i64 u)=aK jE (l.set k ⟨l[k].key,l[k].coll,l[k].lo,l[k].hi,l[k].start,u,l[k].down⟩):=by
 induction l generalizing k with
 | nil=>simp at hk
 | cons x l ih=>
  cases k with
  | zero=>simp[aU,jE]
  | succ k=>
   have e:∀j,(k+1)*7+j=k*7+j+7:=fun j=>by omega
   rw[List.set_cons_succ,aU,aU,List.getElem_cons_succ,←ih k (by simpa using hk)]
   simp only[e]
   simp[jE]
theorem rX (l:List Ct) (k:Nat) (hk:k<l.length) (u:Int):
  (aK jE l).set (k*7+6) (.int .i64 u)=aK jE (l.set k ⟨l[k].key,l[k].coll,l[k].lo,l[k].hi,l[k].start,l[k].up,u⟩):=by
 induction l generalizing k with
 | nil=>simp at hk
 | cons x l ih=>
  cases k with
  | zero=>simp[aU,jE]
  | succ k=>
   have e:∀j,(k+1)*7+j=k*7+j+7:=fun j=>by omega
   rw[List.set_cons_succ,aU,aU,List.getElem_cons_succ,←ih k (by simpa using hk)]
   simp only[e]
   simp[jE]
theorem Dh {cs:List Ct} {s:Sc} {j:Nat} (hj:j<cs.length) (h:bH cs s.key=j):
  dY cs s=(cs.set j ⟨cs[j].key,cs[j].coll,cs[j].lo,cs[j].hi,cs[j].start,cs[j].up+(s.up-s.uu),cs[j].down⟩).set j ⟨cs[j].key,cs[j].coll,cs[j].lo,cs[j].hi,cs[j].start,cs[j].up+(s.up-s.uu),cs[j].down+(s.down-s.ud)⟩:=by
 unfold dY
 rw[h,if_neg (by omega)]
 simp[List.getD,List.getElem?_eq_getElem hj]
theorem Di {cs:List Ct} {s:Sc} (h:bH cs s.key= -1):dY cs s=cs:=by
 unfold dY
 rw[h,if_pos (by omega)]
theorem IC (v:Value) (l:List Rg) (n:Int) (w:World) (h:fq w v l) (hs:Small l) (hl:l.length<1000000) (hn0: -1000000000000<n) (hn1:n<1000000000000):
  Calls Tryz.prog 81 #[v,.int .i64 n] w fun e w'=>∃v',e= .returned (.tuple #[v',.bool (eB l n)])∧(eB l n=true→w'.ownsRow w.heap.size 56 2 v' (bU l n).length (aR (bU l n)))∧Below w.heap.size w w':=by
 cases hq:eB l n with
 | false=>exact(NC v l n w h hl hq).mono fun e w' ⟨h1,h2⟩=>⟨_,h1,(fun h=>by cases h),h2⟩
 | true=>exact(J4 v l n w h hs hl hq hn0 hn1).mono fun e w' ⟨v',h1,h2,h3⟩=>⟨v',h1,fun _=>h2,h3⟩
set_option maxRecDepth 100000 in
set_option maxHeartbeats 8000000 in
theorem KN (x:bZ) (b:Bk) (d ep:Int) (w:World) (h:eD w x b) (hl:zN b) (hF:∀k (hk:k<b.ls.length),jF b.ls d ep=k→Gi b b.ls[k]):
  Calls Tryz.prog 28 #[fT x,.int .i64 d,.int .i64 ep] w (kH w (mg b d ep)):=by
 obtain⟨⟨ca,cn,cc⟩,⟨fa,aX,fc⟩,⟨la,ln,lc⟩,⟨ba,b_n,bc⟩⟩:=x
 obtain⟨W3,hW3,k0,k1,hb1,hz1⟩:∃W3,((w.alloc (.cells #[.slice ca cn cc,.slice fa aX fc,.slice la ln lc,.slice ba b_n bc] 30)).alloc (.cells #[.slice none 0 0,.slice none 0 0,.slice none 0 0,.slice none 0 0] 30))=W3∧W3.heap[w.heap.size]? =some (.cells #[.slice ca cn cc,.slice fa aX fc,.slice la ln lc,.slice ba b_n bc] 30 (0,0))∧W3.heap[w.heap.size+1]? =some (.cells #[.slice none 0 0,.slice none 0 0,.slice none 0 0,.slice none 0 0] 30 (0,0))∧Below w.heap.size w W3∧W3.heap.size=w.heap.size+2:=⟨_,rfl,bJ _ _ _,bE _ _ _,((aL _ _).alloc (aC _) _).alloc (by simp) _,by simp⟩
 have HM:=ah (h.keep hb1 (aC _))
 have HB:=ah hl
 have TM:=ah hF
 have HW3:=ah hW3
 have HZ1:=ah hz1
 have qh:=ah k0
 have fJ:=ah k1
 have dV:=ah hb1
 clear h hl hF hW3 hz1 k0 k1 hb1
 change Calls Tryz.prog _ #[.agg #[.slice ca cn cc,.slice fa aX fc,.slice la ln lc,.slice ba b_n bc],.int .i64 d,.int .i64 ep] w _
 obtain⟨c0,c1,c2,c3,_⟩:=ay qh.out
 go_enter Tryz.func28,Tryz.ntmps28
 go_upto_region 1 with fail
 rw[HW3.out]
 go_wp2_with fail
 refine(h_ ⟨⟨ca,cn,cc⟩,⟨fa,aX,fc⟩,⟨la,ln,lc⟩,⟨ba,b_n,bc⟩⟩ b _ HM.out HB.out).mono ?_
 rintro e w4 ⟨⟨⟨da,dn,dc⟩,⟨ea,e_n,ec⟩,⟨ma,mn,mc⟩,⟨na,jB,nc⟩⟩,xs,C0,rfl,ho0,hC0,hb4⟩
 obtain⟨C,ho,hC,NI⟩:=ho0.cap hC0 hb4.size
 clear ho0 hC0 c0 c1 c2 c3
 have hzz:w.heap.size<W3.heap.size:=by have:=HZ1.out;omega
 have hk0:=aj qh.out hb4 hzz
 have hk2:=aj fJ.out hb4 (by have:=HZ1.out;omega)
 obtain⟨d0,d1,d2,d3,_⟩:=ay hk0
 have f0:=aA hk0 0
 have f1:=aA hk0 1
 have f2:=aA hk0 2
 have f3:=aA hk0 3
 have HO:=ah ((((ho.put hC ⟨w.heap.size,0,none⟩ hzz (.slice da dn dc)).put hC ⟨w.heap.size,1,none⟩ hzz (.slice ea e_n ec)).put hC ⟨w.heap.size,2,none⟩ hzz (.slice ma mn mc)).put hC ⟨w.heap.size,3,none⟩ hzz (.slice na jB nc))
 have CF:=ah (gq hk0 (.slice da dn dc) (.slice ea e_n ec) (.slice ma mn mc) (.slice na jB nc))
 have kI:=ah ((bF w4 w.heap.size (w.heap.size+1) (by omega) (.slice da dn dc) (.slice ea e_n ec) (.slice ma mn mc) (.slice na jB nc) 0 1 2 3).trans hk2)
 have jR:=dV.out.trans (hb4.mono dV.out.size)
 have tQ:=ah ((((jR.setCell (p:=⟨w.heap.size,0,none⟩) (aC _) (.slice da dn dc)).setCell (p:=⟨w.heap.size,1,none⟩) (aC _) (.slice ea e_n ec)).setCell (p:=⟨w.heap.size,2,none⟩) (aC _) (.slice ma mn mc)).setCell (p:=⟨w.heap.size,3,none⟩) (aC _) (.slice na jB nc))
 clear ho hk0 hk2 hb4 jR qh fJ HM dV NI
 go_wp2_with fail
 generalize ((((w4.setCell ⟨w.heap.size,0,none⟩ (.slice da dn dc)).setCell ⟨w.heap.size,1,none⟩ (.slice ea e_n ec)).setCell ⟨w.heap.size,2,none⟩ (.slice ma mn mc)).setCell ⟨w.heap.size,3,none⟩ (.slice na jB nc))=w5 at*
 refine(Eo ⟨⟨da,dn,dc⟩,⟨ea,e_n,ec⟩,⟨ma,mn,mc⟩,⟨na,jB,nc⟩⟩ b.ls d ep _ HO.out.m.l).mono ?_
 rintro e w6 ⟨rfl,hb6⟩
 have wP:Hid (pX w6 W3.heap.size C ⟨⟨da,dn,dc⟩,⟨ea,e_n,ec⟩,⟨ma,mn,mc⟩,⟨na,jB,nc⟩⟩ b xs):=ah (HO.out.keep hb6)
 have n_:=ah (aj CF.out hb6 (bg CF.out).1)
 have dO:=ah (aj kI.out hb6 (bg kI.out).1)
 have AJ:=ah (tQ.out.trans (hb6.mono tQ.out.size))
 have Tj:w.heap.size+1<w6.heap.size:=(bg dO.out).1
 clear hb6 HO CF kI tQ d0 d1 d2 d3 f0 f1 f2 f3
 obtain⟨d0,d1,d2,d3,_⟩:=ay n_.out
 obtain⟨e0,e1,e2,e3,_⟩:=ay dO.out
 have f0:=aA dO.out 0
 have f1:=aA dO.out 1
 have f2:=aA dO.out 2
 have f3:=aA dO.out 3
 rcases bQ (fun c:Ls=>decide (c.dev=d)&&decide (c.epoch=ep)) b.ls with⟨hi,_⟩ | ⟨k,hk,hi,_,_⟩
 ·have HF:Hid (mg b d ep=(b,2)):=by show _=_;unfold mg jF;simp only[hi];rfl
  rw[show jF b.ls d ep= -1 from hi]
  have hz2:w.heap.size+1<W3.heap.size:=by have:=HZ1.out;omega
  clear hi TM
  go_wp2
  refine bodyPost_ret (v:=.tuple #[.agg #[.slice da dn dc,.slice ea e_n ec,.slice ma mn mc,.slice na jB nc],.int .i64 2]) (by simp[results,Tryz.results28,go_sem, *]) rfl (show kH _ _ _ _ from ?_)
  refine⟨⟨⟨da,dn,dc⟩,⟨ea,e_n,ec⟩,⟨ma,mn,mc⟩,⟨na,jB,nc⟩⟩,by rw[HF.out],?_,?_⟩
  ·rw[HF.out]
   exact((((wP.out.put hC ⟨w.heap.size+1,0,none⟩ hz2 _).put hC ⟨w.heap.size+1,1,none⟩ hz2 _).put hC ⟨w.heap.size+1,2,none⟩ hz2 _).put hC ⟨w.heap.size+1,3,none⟩ hz2 _).m
  ·exact(((AJ.out.setCell (by simp) _).setCell (by simp) _).setCell (by simp) _).setCell (by simp) _
 ·have HI:Hid (jF b.ls d ep=k):=ah hi
  have nY:=ah (TM.out k hk hi)
  rw[show jF b.ls d ep=k from hi]
  have hkx:k<xs.length:=by rw[wP.out.each.len];exact hk
  have hnl:=HB.out.nl
  have iG:(k:Int)<b.ls.length:=by omega
  have kd:decide ((k:Int)<0)=false:=by simp
  obtain⟨g,cap,hxl,hcap,hcm,hBg,hgs,⟨h0,h1,h2,h3,h4,h5,h6⟩,_⟩:=wP.out.EH k hk hkx
  injection hxl with hx1 hx2 hx3
  subst hx1 hx2 hx3
  have hLk:=bI.at wP.out.each k hkx hk
  generalize hxk:xs[k]=z at*
  obtain⟨z1,z2,z3,z4,⟨z5,z6,z7⟩,⟨z8,z9,dD⟩,⟨dI,z12,dJ⟩⟩:=z
  simp only[Sv.v]at h4 h5 h6
  generalize hlk:b.ls[k]=l at*
  obtain⟨q6,_,_⟩:=Sl.lens (s:=⟨z5,z6,z7⟩) (aI hLk.s)
  obtain⟨q9,_,_⟩:=Sl.lens (s:=⟨z8,z9,dD⟩) (aI hLk.i)
  obtain⟨Vd,_,_⟩:=Sl.lens (s:=⟨dI,z12,dJ⟩) (aI hLk.u)
  simp only at q6 q9 Vd
  subst q6 q9 Vd
  have HX:=ah hxk
  have M4:=ah hlk
  have dK:Below w6.heap.size w6 (w6.alloc (.cells #[.int .i64 z1,.int .i64 z2,.int .i64 z3,.int .i64 z4,.slice z5 l.sl.length z7,.slice z8 l.ids.length dD,.slice dI l.used.length dJ] 48)):=(aL _ _).alloc (aC _) _
  have QS:Hid (Fr w.heap.size w.heap.size (w.heap.size+1) w6.heap.size #[.int .i64 z1,.int .i64 z2,.int .i64 z3,.int .i64 z4,.slice z5 l.sl.length z7,.slice z8 l.ids.length dD,.slice dI l.used.length dJ] w (w6.alloc (.cells #[.int .i64 z1,.int .i64 z2,.int .i64 z3,.int .i64 z4,.slice z5 l.sl.length z7,.slice z8 l.ids.length dD,.slice dI l.used.length dJ] 48)) ⟨⟨da,dn,dc⟩,⟨ea,e_n,ec⟩,⟨some ⟨g,0,none⟩,b.ls.length,mc⟩,⟨na,jB,nc⟩⟩ b xs):=by
   have ho:=wP.out.keep dK
   refine ah ⟨AJ.out.trans (dK.mono AJ.out.size),aj n_.out dK (by omega),aj dO.out dK Tj,heap_alloc_new _ _,aC _,by omega,fun e=>?_,aO ho.rc (by omega),aO ho.rf (by omega),aO ho.rl (by omega),aO ho.rb (by omega),ho.each.imp (fun _ _ r=>r.base (by omega)),fun z hz q hq e=>?_⟩
   ·have e2:some g=some w6.heap.size:=e
    injection e2 with e2
    omega
   ·obtain⟨l',_,hl'⟩:=ho.each.mem z hz
    have i1:=bK hl'.u q hq
    have i2:=ho.bl q e
    omega
  clear hi hLk hxk hlk dK e0 e1 e2 e3 f0 f1 f2 f3 n_ dO wP AJ TM
  go_upto_region 6 with fail
  generalize w6.alloc (.cells #[.int .i64 z1,.int .i64 z2,.int .i64 z3,.int .i64 z4,.slice z5 l.sl.length z7,.slice z8 l.ids.length dD,.slice dI l.used.length dJ] 48)=W7 at*
  generalize w6.heap.size=p9 at*
  clear d0 d1 d2 d3 h0 h1 h2 h3 h4 h5 h6 hgs
  obtain⟨d0,d1,d2,d3,d4,d5,d6,_⟩:=aB QS.out.k9
  go_upto_block 0 with fail
  go_cut[] (fun wx=>Fr w.heap.size w.heap.size (w.heap.size+1) p9 #[.int .i64 z1,.int .i64 z2,.int .i64 z3,.int .i64 z4,.slice z5 l.sl.length z7,.slice z8 l.ids.length dD,.slice dI l.used.length dJ] w wx ⟨⟨da,dn,dc⟩,⟨ea,e_n,ec⟩,⟨some ⟨g,0,none⟩,b.ls.length,mc⟩,⟨na,jB,nc⟩⟩ ⟨l.sl.foldl dY b.cs,b.free,b.ls,b.bound⟩ xs)
  case first=>
   go_wp2
   go_loopw[39] (fun v39 wr=>∃j:Nat,j≤l.sl.length∧v39= .int .i64 j∧Fr w.heap.size w.heap.size (w.heap.size+1) p9 #[.int .i64 z1,.int .i64 z2,.int .i64 z3,.int .i64 z4,.slice z5 l.sl.length z7,.slice z8 l.ids.length dD,.slice dI l.used.length dJ] w wr ⟨⟨da,dn,dc⟩,⟨ea,e_n,ec⟩,⟨some ⟨g,0,none⟩,b.ls.length,mc⟩,⟨na,jB,nc⟩⟩ ⟨(l.sl.take j).foldl dY b.cs,b.free,b.ls,b.bound⟩ xs) (fun v39 _=>l.sl.length-(intOf v39).toNat)
   case atStart=>exact⟨0,Nat.zero_le _,rfl,QS.out⟩
   case round=>
    obtain⟨j,hj,rfl,hfr⟩:=hrel
    have Gn:=ah hfr
    clear hfr
    by_cases hlt:j<l.sl.length
    ·have uF:(j:Int)<l.sl.length:=by omega
     have hLk':iC wr w.heap.size xs[k] b.ls[k]:=bI.at Gn.out.each k hkx hk
     rw[HX.out,M4.out]at hLk'
     obtain⟨sb,so,rfl,hsb,s0,s1,s2,s3,s4⟩:=cK.sc (aI hLk'.s) (aL _ _) (aC _) j hlt
     have QV:=ah (nY.out.sc l.sl[j] (List.getElem_mem hlt))
     have Eb:=ah (jY dY l.sl b.cs j hlt)
     have hub:=nP (l.sl.take j) 2199023255552 b.cs (by omega) nY.out.ct (fun s hs=>nY.out.sc s (List.mem_of_mem_take hs))
     have ZW:=(nY.out.each l (by rw[←M4.out];exact List.getElem_mem hk)).1
     have ZX:Hid (ET 4400000000000000 ((l.sl.take j).foldl dY b.cs)):=ah (hub.1.mono (by rw[List.length_take];omega))
     have JU:Hid (((l.sl.take j).foldl dY b.cs).length<1000):=ah (by rw[hub.2];exact nY.out.nc)
     clear hLk' hub
     generalize hcs:(l.sl.take j).foldl dY b.cs=cs at*
     generalize l.sl[j]=s at*
     obtain⟨sk,su,sd,iA,jS⟩:=s
     simp only at s0 s1 s2 s3 s4
     have dK:Below wr.heap.size wr (wr.alloc (.cells #[.string sk,.int .i64 su,.int .i64 sd,.int .i64 iA,.int .i64 jS] 88)):=(aL _ _).alloc (aC _) _
     have Gp:=ah (Gn.out.keep dK)
     have yP:=ah (heap_alloc_new wr (.cells #[.string sk,.int .i64 su,.int .i64 sd,.int .i64 iA,.int .i64 jS] 88))
     clear dK hcs Gn
     go_upto_region 9 with fail
     generalize wr.alloc (.cells #[.string sk,.int .i64 su,.int .i64 sd,.int .i64 iA,.int .i64 jS] 88)=W8 at*
     generalize wr.heap.size=Yd at*
     clear s0 s1 s2 s3 s4 hsb
     obtain⟨c0,c1,c2,c3,_⟩:=ay Gp.out.kb
     obtain⟨s0,s1,s2,s3,s4⟩:=lG yP.out
     simp only[Sv.v]at c0 c1 c2 c3
     go_wp2_with fail
     refine(jy ⟨⟨da,dn,dc⟩,⟨ea,e_n,ec⟩,⟨some ⟨g,0,none⟩,b.ls.length,mc⟩,⟨na,jB,nc⟩⟩ cs sk _ Gp.out.m.c).mono ?_
     rintro e W9 ⟨rfl,lN⟩
     have o7:=ah (Gp.out.keep lN)
     have TN:=ah (aj yP.out lN (bg yP.out).1)
     clear lN Gp yP c0 c1 c2 c3 s0 s1 s2 s3 s4
     rcases bQ (fun c:Ct=>decide (c.key=sk)) cs with⟨hi,_⟩ | ⟨i,hi,hie,_,_⟩
     ·have IE:Hid (dY cs ⟨sk,su,sd,iA,jS⟩=cs):=ah (Di hi)
      rw[show bH cs sk= -1 from hi]
      clear hi
      go_wp2
      go_roundw
      case rel=>exact⟨j+1,by omega,by go_num,by rw[Eb.out,IE.out];exact o7.out⟩
      case measure=>simp[intOf];omega
     ·have IE:Hid (dY cs ⟨sk,su,sd,iA,jS⟩=(cs.set i ⟨cs[i].key,cs[i].coll,cs[i].lo,cs[i].hi,cs[i].start,cs[i].up+(su-iA),cs[i].down⟩).set i ⟨cs[i].key,cs[i].coll,cs[i].lo,cs[i].hi,cs[i].start,cs[i].up+(su-iA),cs[i].down+(sd-jS)⟩):=ah (Dh hi hie)
      rw[show bH cs sk=i from hie]
      clear hie
      have zX:=ah (ZX.out cs[i] (List.getElem_mem hi))
      obtain⟨cg,Q9,hcx⟩:=fu o7.out.rc (show 0<cs.length by omega)
      have Q_:da=some ⟨cg,0,none⟩∧dn=cs.length∧dc=Q9:=by
       simp only[Sv.v]at hcx
       injection hcx with h1 h2 h3
       exact⟨h1,h2,h3⟩
      obtain⟨rfl,rfl,rfl⟩:=Q_
      have hrow:=o7.out.rc
      simp only[Sv.v]at hrow
      obtain⟨p1,p2,p3,p4,p5,p6,p7⟩:=bq hrow
      have u5:W9.cell? ⟨cg,i*7+5,none⟩=some (.int .i64 cs[i].up):=p7 _ _ (by rw[bP dX _ i hi 5 (by omega)];rfl)
      have u6:W9.cell? ⟨cg,i*7+6,none⟩=some (.int .i64 cs[i].down):=p7 _ _ (by rw[bP dX _ i hi 6 (by omega)];rfl)
      have g5:=p6 (i*7+5)
      have Ve:cg≠Yd:=fun e=>by
       obtain⟨cur,hg⟩:=eu hrow
       rw[e,TN.out]at hg
       injection hg with hg
       injection hg with _ hg _
       exact absurd hg (by decide)
      have hilt:(i:Int)<cs.length:=by omega
      have hi0:¬ ((i:Int)<0):=by omega
      have kdi:decide ((i:Int)<0)=false:=by simp
      have hcl:=JU.out
      have xH:Hid (Fr w.heap.size w.heap.size (w.heap.size+1) p9 #[.int .i64 z1,.int .i64 z2,.int .i64 z3,.int .i64 z4,.slice (some ⟨sb,so,none⟩) l.sl.length z7,.slice z8 l.ids.length dD,.slice dI l.used.length dJ] w (W9.drew.setCell ⟨cg,i*7+5,none⟩ (.int .i64 (cs[i].up+(su-iA)))) ⟨⟨some ⟨cg,0,none⟩,cs.length,dc⟩,⟨ea,e_n,ec⟩,⟨some ⟨g,0,none⟩,b.ls.length,mc⟩,⟨na,jB,nc⟩⟩ ⟨(cs.set i ⟨cs[i].key,cs[i].coll,cs[i].lo,cs[i].hi,cs[i].start,cs[i].up+(su-iA),cs[i].down⟩),b.free,b.ls,b.bound⟩ xs):=
       ah ((o7.out.keep (aL _ _).drew).AB rfl (i*7+5) (by show _<cs.length*7;omega) _ (rW cs i hi _) (by simp))
      have Vf:Hid ((W9.drew.setCell ⟨cg,i*7+5,none⟩ (.int .i64 (cs[i].up+(su-iA)))).heap[Yd]? =some (.cells #[.string sk,.int .i64 su,.int .i64 sd,.int .i64 iA,.int .i64 jS] 88 (0,0))):=ah ((aW _ _ _ Ve _).trans TN.out)
      have ZY:Hid ((cs.set i ⟨cs[i].key,cs[i].coll,cs[i].lo,cs[i].hi,cs[i].start,cs[i].up+(su-iA),cs[i].down⟩)[i]? =some ⟨cs[i].key,cs[i].coll,cs[i].lo,cs[i].hi,cs[i].start,cs[i].up+(su-iA),cs[i].down⟩):=ah (by rw[List.getElem?_set_self hi])
      have hsc:=QV.out
      unfold NP at hsc
      simp only at hsc
      obtain⟨r1,r2,r3,r4,r5,r6⟩:=hsc
      obtain⟨o1,o2,o3,o4⟩:=zX.out
      have Z0:=ah (show Hid (dY cs ⟨sk,su,sd,iA,jS⟩=(cs.set i ⟨cs[i].key,cs[i].coll,cs[i].lo,cs[i].hi,cs[i].start,cs[i].up+(su-iA),cs[i].down⟩).set i ⟨cs[i].key,cs[i].coll,cs[i].lo,cs[i].hi,cs[i].start,cs[i].up+(su-iA),cs[i].down+(sd-jS)⟩)from IE)
      generalize Z4:cs[i].up=cu at*
      generalize hcd:cs[i].down=cd at*
      have i1:IntKind.i64.wrap (su-iA)=su-iA:=IntWalk.i64_in _ (by omega)
      have i2:IntKind.i64.wrap (cu+(su-iA))=cu+(su-iA):=IntWalk.i64_in _ (by omega)
      have i3:IntKind.i64.wrap (sd-jS)=sd-jS:=IntWalk.i64_in _ (by omega)
      have i4:IntKind.i64.wrap (cd+(sd-jS))=cd+(sd-jS):=IntWalk.i64_in _ (by omega)
      have Ra:=ah (And.intro i3 i4)
      clear zX r1 r2 r3 r4 r5 r6 o1 o2 o3 o4 i3 i4 hrow p1 p2 p3 p4 p5 p6 p7 u6 Ve
      have JB:=o7.out.kb
      simp only[Sv.v]at JB
      obtain⟨c0,c1,c2,c3,_⟩:=ay JB
      obtain⟨s0,s1,s2,s3,s4⟩:=lG TN.out
      clear JB
      go_upto_region 11 with fail
      go_still_tail 14,(by kernel_rfl)
      change wpList _ _ _ _ _ W9.drew
      go_upto_region 12 with fail
      rw[show (W9.setCell ⟨cg,i*7+5,none⟩ (.int .i64 (cu+(su-iA)))).drew=W9.drew.setCell ⟨cg,i*7+5,none⟩ (.int .i64 (cu+(su-iA)))from rfl]
      have HFS:=ah xH.out
      have h10:=xH.out
      generalize hcs1:cs.set i ⟨cs[i].key,cs[i].coll,cs[i].lo,cs[i].hi,cs[i].start,cu+(su-iA),cd⟩=cs1 at*
      have hl1:cs1.length=cs.length:=by rw[←hcs1,List.length_set]
      have aeM:=ah hcs1
      have hi1:i<cs1.length:=by omega
      have he1:cs1[i]=⟨cs[i].key,cs[i].coll,cs[i].lo,cs[i].hi,cs[i].start,cu+(su-iA),cd⟩:=by
       have:=ZY.out
       rw[List.getElem?_eq_getElem hi1]at this
       injection this
      have hrow:=h10.rc
      simp only[Sv.v]at hrow
      rw[hl1]at hrow
      obtain⟨p1,p2,p3,p4,p5,p6,p7⟩:=bq hrow
      have v6:(W9.drew.setCell ⟨cg,i*7+5,none⟩ (.int .i64 (cu+(su-iA)))).cell? ⟨cg,i*7+6,none⟩=some (.int .i64 cd):=p7 _ _ (by rw[bP dX _ i hi1 6 (by omega),he1];rfl)
      have g6:=p6 (i*7+6)
      have JB:=h10.kb
      simp only[Sv.v]at JB
      have hk10:=Vf.out
      have IG:=ah ((h10.keep (aL _ _).drew).AB rfl (i*7+6) (by show _<cs1.length*7;omega) (.int .i64 (cd+(sd-jS))) (rX cs1 i hi1 _) (by simp))
      clear hcs1 h10 hrow p1 p2 p3 p4 p5 p6 p7 c0 c1 c2 c3 s0 s1 s2 s3 s4 g5 u5 xH Vf o7 TN
      generalize W9.drew.setCell ⟨cg,i*7+5,none⟩ (.int .i64 (cu+(su-iA)))=V1 at*
      obtain⟨c0,c1,c2,c3,_⟩:=ay JB
      obtain⟨s0,s1,s2,s3,s4⟩:=lG hk10
      clear JB hk10 i1 i2
      obtain⟨i3,i4⟩:=Ra.out
      go_still_tail 14,(by kernel_rfl)
      change wpList _ _ _ _ _ V1.drew
      go_wp2
      rw[show (V1.setCell ⟨cg,i*7+6,none⟩ (.int .i64 (cd+(sd-jS)))).drew=V1.drew.setCell ⟨cg,i*7+6,none⟩ (.int .i64 (cd+(sd-jS)))from rfl]
      clear c0 c1 c2 c3 s0 s1 s2 s3 s4 i3 i4 g6 v6
      go_roundw
      case rel=>
       refine⟨j+1,by omega,by go_num,?_⟩
       have h11:=IG.out
       rw[he1]at h11
       simp only at h11
       rw[Eb.out,Z0.out.out]
       exact h11
      case measure=>simp[intOf];omega
    ·have HE:Hid (j=l.sl.length):=ah (by omega)
     have uF:¬ (j:Int)<l.sl.length:=by omega
     go_wp2
     go_meet
     have h1:=Gn.out
     rw[HE.out,List.take_length]at h1
     exact h1
  case rest=>
  obtain⟨W8,TQ⟩:∃W8,W8=wc:=⟨_,rfl⟩
  subst TQ
  have Gp:=ah hcut
  have hub:=nP l.sl 2199023255552 b.cs (by omega) nY.out.ct nY.out.sc
  have Ye:Hid ((l.sl.foldl dY b.cs).length=b.cs.length):=ah hub.2
  clear hcut QS hub d0 d1 d2 d3 d4 d5 d6
  have KP:Hid (∃cs,l.sl.foldl dY b.cs=cs):=ah ⟨_,rfl⟩
  obtain⟨cs,hcs⟩:=KP.out
  clear KP
  rw[hcs]at Gp Ye
  have UY:=ah hcs
  clear hcs
  obtain⟨d0,d1,d2,d3,d4,d5,d6,_⟩:=aB Gp.out.k9
  go_upto_block 2 with fail
  go_cut[13] (fun v13 wx=>∃lv bv:Sv,v13=lv.v∧wx.ownsRow w.heap.size 56 2 lv.v (l.used.foldl dN l.ids).length (aR (l.used.foldl dN l.ids))∧Fr w.heap.size w.heap.size (w.heap.size+1) p9 #[.int .i64 z1,.int .i64 z2,.int .i64 z3,.int .i64 z4,.slice z5 l.sl.length z7,.slice z8 l.ids.length dD,.slice dI l.used.length dJ] w wx ⟨⟨da,dn,dc⟩,⟨ea,e_n,ec⟩,⟨some ⟨g,0,none⟩,b.ls.length,mc⟩,bv⟩ ⟨cs,b.free,b.ls,l.used.foldl fH b.bound⟩ xs)
  case first=>
   go_wp2
   go_loopw[13,83] (fun v13 v83 wr=>∃ (j:Nat) (lv bv:Sv),j≤l.used.length∧v83= .int .i64 j∧v13=lv.v∧wr.ownsRow w.heap.size 56 2 lv.v ((l.used.take j).foldl dN l.ids).length (aR ((l.used.take j).foldl dN l.ids))∧Fr w.heap.size w.heap.size (w.heap.size+1) p9 #[.int .i64 z1,.int .i64 z2,.int .i64 z3,.int .i64 z4,.slice z5 l.sl.length z7,.slice z8 l.ids.length dD,.slice dI l.used.length dJ] w wr ⟨⟨da,dn,dc⟩,⟨ea,e_n,ec⟩,⟨some ⟨g,0,none⟩,b.ls.length,mc⟩,bv⟩ ⟨cs,b.free,b.ls,(l.used.take j).foldl fH b.bound⟩ xs) (fun _ v83 _=>l.used.length-(intOf v83).toNat)
   case atStart=>
    have hLk':iC W8 w.heap.size xs[k] b.ls[k]:=bI.at Gp.out.each k hkx hk
    rw[HX.out,M4.out]at hLk'
    exact⟨0,⟨z8,l.ids.length,dD⟩,⟨na,jB,nc⟩,Nat.zero_le _,rfl,rfl,hLk'.i,Gp.out⟩
   case round=>
    obtain⟨j,⟨Vg,Yf,Vh⟩,⟨Dj,Dk,Dl⟩,hj,rfl,rfl,hlv,hfr⟩:=hrel
    have Gn:=ah hfr
    clear hfr
    have hkp:=lH (l.used.take j) l.ids nY.out.row
    have hll:=nY.out.len
    have hls:=mo _ hkp.1.1
    have AQ:Hid (Small ((l.used.take j).foldl dN l.ids)):=ah hkp.1.1
    have hln:((l.used.take j).foldl dN l.ids).length<1000000:=by omega
    have hbp:=uO (l.used.take j) b.bound nY.out.sort
    have hul:=(nY.out.each l (by rw[←M4.out];exact List.getElem_mem hk)).2.2
    have hnb:=nY.out.nb
    have hbl:((l.used.take j).foldl fH b.bound).length<50000:=by
     have h1:=hbp.2
     rw[List.length_take]at h1
     omega
    have HBP:=ah hbp.1
    clear hkp hbp hls hll
    by_cases hlt:j<l.used.length
    ·have uF:(j:Int)<l.used.length:=by omega
     have hLk':iC wr w.heap.size xs[k] b.ls[k]:=bI.at Gn.out.each k hkx hk
     rw[HX.out,M4.out]at hLk'
     obtain⟨ub,uo,rfl,hub,s0⟩:=iW.cell (aI hLk'.u) (aL _ _) (aC _) j hlt
     have Vi:=ah (nY.out.used l.used[j] (List.getElem_mem hlt))
     have HSL:=ah (jY dN l.used l.ids j hlt)
     have NT:=ah (jY fH l.used b.bound j hlt)
     have Vj:=ah hlv
     clear hLk' hub hlv
     generalize (l.used.take j).foldl dN l.ids=left at*
     generalize (l.used.take j).foldl fH b.bound=bd at*
     generalize l.used[j]=u at*
     go_wp2_with fail
     refine(IC _ left u _ (aI Vj.out) AQ.out hln Vi.out.1 Vi.out.2).mono ?_
     rintro e W9 ⟨v',rfl,hro,lN⟩
     have o7:=ah (Gn.out.keep lN)
     have Vk:=ah (aJ Vj.out lN (aC _))
     have HRO:Hid (eB left u=true→W9.ownsRow w.heap.size 56 2 v' (bU left u).length (aR (bU left u))):=ah (fun h=>aO (hro h) Gn.out.hB)
     clear hro lN Gn Vj s0
     have NU:Hid (dN left u=if eB left u=true then bU left u else left):=ah rfl
     generalize eB left u=q at*
     go_upto_if 93 with fail
     go_cut[13] (fun v13 wx=>∃lv':Sv,v13=lv'.v∧W9.ownsRow w.heap.size 56 2 lv'.v (dN left u).length (aR (dN left u))∧wx=W9)
     case first=>
      cases q with
      | true=>
       have h1:=HRO.out rfl
       obtain⟨Ay,TR,rfl,_,_⟩:=aP h1
       have Pf:=ah h1
       clear h1
       go_wp2
       go_meet
       exact⟨⟨Ay,_,TR⟩,rfl,by rw[show dN left u=bU left u by rw[NU.out];simp];exact Pf.out,rfl⟩
      | false=>
       go_wp2
       go_meet
       exact⟨⟨Vg,Yf,Vh⟩,rfl,by rw[show dN left u=left by rw[NU.out];simp];exact Vk.out,rfl⟩
     case rest=>
     obtain⟨⟨ma1,mn1,mc1⟩,rfl,hlv1,hwc⟩:=hcut
     have Pf:=ah hlv1
     obtain⟨V9,hV9⟩:∃V9,V9=wc:=⟨_,rfl⟩
     subst hV9
     subst hwc
     clear hlv1 HRO NU Vk
     obtain⟨c0,c1,c2,c3,_⟩:=ay o7.out.kb
     simp only[Sv.v]at c0 c1 c2 c3
     have Yg:Hid (fH bd u=if bd.contains u=true then bd else rise bd u):=ah rfl
     have NQ:=ah (xG bd u)
     have Vl:=ah (uR bd u)
     have hcp:bd.countP (· <u)≤bd.length:=List.countP_le_length
     go_wp2_with fail
     refine(uP _ bd u _ (aI o7.out.rb) (by omega) HBP.out).mono ?_
     rintro e V9 ⟨rfl,rfl⟩
     generalize hcc:bd.countP (· <u)=cp at*
     generalize bd.contains u=q2 at*
     clear hcc
     cases q2 with
     | true=>
      have HB2:Hid (fH bd u=bd):=ah (by rw[Yg.out];simp)
      clear Yg
      go_wp2
      go_roundw
      case rel=>exact⟨j+1,⟨ma1,mn1,mc1⟩,⟨Dj,Dk,Dl⟩,by omega,by go_num,rfl,by rw[HSL.out];exact Pf.out,by rw[NT.out,HB2.out];exact o7.out⟩
      case measure=>simp[intOf];omega
     | false=>
      have HB2:Hid (fH bd u=rise bd u):=ah (by rw[Yg.out];simp)
      have dK:Below V9.heap.size V9 (V9.alloc (.cells #[.int .i64 u] 3)):=(aL _ _).alloc (aC _) _
      have Q7:(V9.alloc (.cells #[.int .i64 u] 3)).heap[V9.heap.size]? =some (.cells #[.int .i64 u] 3 (0,0)):=heap_alloc_new _ _
      have KQ:=ah (o7.out.keep dK)
      have Z5:=ah (aJ Pf.out dK (aC _))
      have hyb:(Value.slice Dj Dk Dl).ownBlock≠some V9.heap.size:=fun e=>by
       have:=(o7.out.rb.lt _ e).2
       omega
      clear dK Yg
      go_wp2_with fail
      generalize V9.alloc (.cells #[.int .i64 u] 3)=qI at*
      generalize ZT:V9.heap.size=v8 at*
      clear ZT
      refine(rU _ bd.length cp (bM bd) [.int .i64 u] qI w.heap.size v8 KQ.out.rb (k_ _) (by intro u hu;simp at hu;subst hu;rfl) rfl (by omega) hcp KQ.out.hB Q7 hyb).mono ?_
      rintro e Ba ⟨v',rfl,wO,Gm,A_⟩
      rw[NQ.out,←Vl.out]at wO
      obtain⟨jl,cap',rfl,_,_⟩:=aP wO
      have HFI:=ah (KQ.out.ZV (v':=⟨jl,_,cap'⟩) wO Gm A_)
      have hkb:=yV KQ.out.kb KQ.out.rb Gm (by decide)
      have hla:=qG Z5.out KQ.out.rb Gm (by decide)
      have A8:=ah (aH hla (g:=w.heap.size) (W':=Ba.setCell ⟨w.heap.size,3,none⟩ (.slice jl (rise bd u).length cap')) (fun c hc=>aW _ _ _ (fun e=>hc e.symm) _) hkb (by decide))
      obtain⟨d0,d1,d2,d3,_⟩:=ay hkb
      have f3:=aA hkb 3
      simp only[Sv.v]at d0 d1 d2 d3 HFI
      clear hkb hla wO Gm A_ hyb Q7
      go_wp2
      go_roundw
      case rel=>exact⟨j+1,⟨ma1,mn1,mc1⟩,⟨jl,_,cap'⟩,by omega,by go_num,rfl,by rw[HSL.out];exact A8.out,by rw[NT.out,HB2.out];exact HFI.out⟩
      case measure=>simp[intOf];omega
    ·have HE:Hid (j=l.used.length):=ah (by omega)
     have uF:¬ (j:Int)<l.used.length:=by omega
     go_wp2
     go_meet
     have h1:=Gn.out
     rw[HE.out,List.take_length]at h1 hlv
     exact⟨_,_,rfl,hlv,h1⟩
  case rest=>
  obtain⟨⟨Vg,Yf,Vh⟩,⟨Dj,Dk,Dl⟩,Vm,hlv,hfr⟩:=hcut
  change _=Value.slice Vg Yf Vh at Vm
  subst Vm
  obtain⟨W9,Rf⟩:∃W9,W9=wc:=⟨_,rfl⟩
  subst Rf
  have o7:=ah hfr
  have hkp:=lH l.used l.ids nY.out.row
  have hll:=nY.out.len
  have hls:=mo _ hkp.1.1
  have hln:(l.used.foldl dN l.ids).length<10000:=by omega
  have hnf:=nY.out.nf
  have hbp:=uO l.used b.bound nY.out.sort
  have hul:=(nY.out.each l (by rw[←M4.out];exact List.getElem_mem hk)).2.2
  have hnb:=nY.out.nb
  have hbl:(l.used.foldl fH b.bound).length<100000:=by have h1:=hbp.2;omega
  clear hkp hls hll hfr hbp Gp d0 d1 d2 d3 d4 d5 d6
  have eO:Hid (mg b d ep=(⟨cs,bG b.free (l.used.foldl dN l.ids),b.ls.eraseIdx k,l.used.foldl fH b.bound⟩,0)):=ah (by
   unfold mg
   rw[HI.out,if_neg (by omega)]
   simp only[Int.toNat_natCast,List.getD,List.getElem?_eq_getElem hk,Option.getD_some,M4.out]
   unfold KC
   rw[UY.out])
  generalize l.used.foldl dN l.ids=left at*
  generalize l.used.foldl fH b.bound=bd at*
  obtain⟨ql,_,_⟩:=Sl.lens (s:=⟨Vg,Yf,Vh⟩) (aI hlv)
  simp only at ql
  subst ql
  have Vj:=ah hlv
  clear hlv
  go_upto_block 4 with fail
  go_cut[] (fun wx=>∃fv:Sv,Fr w.heap.size w.heap.size (w.heap.size+1) p9 #[.int .i64 z1,.int .i64 z2,.int .i64 z3,.int .i64 z4,.slice z5 l.sl.length z7,.slice z8 l.ids.length dD,.slice dI l.used.length dJ] w wx ⟨⟨da,dn,dc⟩,fv,⟨some ⟨g,0,none⟩,b.ls.length,mc⟩,⟨Dj,Dk,Dl⟩⟩ ⟨cs,bG b.free left,b.ls,bd⟩ xs)
  case first=>
   go_wp2
   go_loopw[114] (fun Rh wr=>∃ (j:Nat) (fv:Sv),j≤left.length∧Rh= .int .i64 j∧wr.ownsRow w.heap.size 56 2 (.slice Vg left.length Vh) left.length (aR left)∧Fr w.heap.size w.heap.size (w.heap.size+1) p9 #[.int .i64 z1,.int .i64 z2,.int .i64 z3,.int .i64 z4,.slice z5 l.sl.length z7,.slice z8 l.ids.length dD,.slice dI l.used.length dJ] w wr ⟨⟨da,dn,dc⟩,fv,⟨some ⟨g,0,none⟩,b.ls.length,mc⟩,⟨Dj,Dk,Dl⟩⟩ ⟨cs,bG b.free (left.take j),b.ls,bd⟩ xs) (fun Rh _=>left.length-(intOf Rh).toNat)
   case atStart=>exact⟨0,⟨ea,e_n,ec⟩,Nat.zero_le _,rfl,Vj.out,o7.out⟩
   case round=>
    obtain⟨j,⟨KR,KT,KU⟩,hj,rfl,hlv,hfr⟩:=hrel
    have Gn:=ah hfr
    have HLJ:=ah hlv
    clear hfr
    by_cases hlt:j<left.length
    ·have uF:(j:Int)<left.length:=by omega
     obtain⟨rb,ro,rfl,hrb,r0,r1⟩:=fq.pair (aI hlv) (aL _ _) (aC _) j hlt
     have HAS:Hid (bG b.free (left.take (j+1))=gG (bG b.free (left.take j)) left[j]):=ah (by rw[aV left j hlt,lY])
     have hal:=gH (left.take j) b.free
     have KV:(bG b.free (left.take j)).length<1000000:=by rw[List.length_take]at hal;omega
     clear hlv hal hrb
     generalize bG b.free (left.take j)=fr at*
     generalize left[j]=r at*
     obtain⟨p,q⟩:=r
     simp only at r0 r1
     have dK:Below wr.heap.size wr (wr.alloc (.cells #[.int .i64 p,.int .i64 q] 56)):=(aL _ _).alloc (aC _) _
     have Q7:=heap_alloc_new wr (.cells #[.int .i64 p,.int .i64 q] 56)
     have KQ:=ah (Gn.out.keep dK)
     have Z5:=ah (aJ HLJ.out dK (aC _))
     obtain⟨n0,n1,_,_,_⟩:=eP Q7
     obtain⟨d0,d1,d2,d3,_⟩:=ay KQ.out.kb
     simp only[Sv.v]at d0 d1 d2 d3
     clear dK Q7 Gn HLJ
     go_upto_region 28 with fail
     generalize wr.alloc (.cells #[.int .i64 p,.int .i64 q] 56)=qI at*
     generalize wr.heap.size=Po at*
     clear r0 r1
     go_wp2_with fail
     refine(Aw (.slice KR KT KU) fr p q _ (aI KQ.out.rf) KV).mono ?_
     rintro e Ba ⟨v',rfl,ho,ou⟩
     obtain⟨jl,cap',rfl,_,_⟩:=aP ho
     have Aa:=KQ.out.keep ou
     have IG:=ah (Aa.Az (f':=⟨jl,_,cap'⟩) (aO ho KQ.out.hB))
     have hla:=aJ Z5.out ou (aC _)
     have Z6:=ah (aH hla (g:=w.heap.size) (W':=Ba.setCell ⟨w.heap.size,1,none⟩ (.slice jl (gG fr (p,q)).length cap')) (fun c hc=>aW _ _ _ (fun e=>hc e.symm) _) Aa.kb (by decide))
     have hkb:=Aa.kb
     clear d0 d1 d2 d3 n0 n1
     obtain⟨d0,d1,d2,d3,_⟩:=ay hkb
     have f1:=aA hkb 1
     simp only[Sv.v]at d0 d1 d2 d3 IG
     clear hkb hla Aa ho ou
     go_wp2
     go_roundw
     case rel=>exact⟨j+1,⟨jl,_,cap'⟩,by omega,by go_num,Z6.out,by rw[HAS.out];exact IG.out⟩
     case measure=>simp[intOf];omega
    ·have HE:Hid (j=left.length):=ah (by omega)
     have uF:¬ (j:Int)<left.length:=by omega
     go_wp2
     go_meet
     have h1:=Gn.out
     rw[HE.out,List.take_length]at h1
     exact⟨_,h1⟩
  case rest=>
  obtain⟨⟨KR,KT,KU⟩,hfr⟩:=hcut
  obtain⟨qI,KW⟩:∃qI,qI=wc:=⟨_,rfl⟩
  subst KW
  have xH:=ah hfr
  have hal:=gH left b.free
  have Z7:=Ye.out
  have hnc:=nY.out.nc
  have Uz:Hid (zN ⟨cs,bG b.free left,b.ls.eraseIdx k,bd⟩):=ah ⟨by show cs.length<_;omega,by show(bG b.free left).length<_;omega,by show(b.ls.eraseIdx k).length<_;rw[List.length_eraseIdx];split<;>omega,by show bd.length<_;omega,fun x hx=>HB.out.each x (List.mem_of_mem_eraseIdx hx)⟩
  generalize bG b.free left=fr at*
  obtain⟨d0,d1,d2,d3,_⟩:=ay hfr.kb
  simp only[Sv.v]at d0 d1 d2 d3
  clear hal Z7 hnc hfr
  have kw:IntKind.i64.wrap ((k:Int)+1)=(k:Int)+1:=IntWalk.i64_in _ (by omega)
  have Z8:=nY.out.nl
  go_wp2_with fail
  refine(AX g b.ls.length mc k (aK iZ xs) qI w.heap.size xH.out.rl (eZ vL _) (by omega) hk).mono ?_
  rintro e Ba ⟨rfl,ho,hg⟩
  obtain⟨h1,h2,h3,h4,h5⟩:=xH.out.del rfl k hk ho hg
  have Dm:=ah h1
  have Z9:=ah h5
  have Pp:=ah h3
  clear d0 d1 d2 d3 kw
  obtain⟨d0,d1,d2,d3,_⟩:=ay h4
  have f2:=aA h4 2
  have n_:=ah h2
  simp only[Sv.v]at d0 d1 d2 d3 n_
  clear h1 h2 h3 h4 h5 ho hg
  go_upto_region 31 with fail
  generalize Ba.setCell ⟨w.heap.size,2,none⟩ (.slice (some ⟨g,0,none⟩) (b.ls.length-1) mc)=W12 at*
  clear d0 d1 d2 d3 f2
  obtain⟨d0,d1,d2,d3,_⟩:=ay n_.out
  go_wp2_with fail
  refine(h_ ⟨⟨da,dn,dc⟩,⟨KR,KT,KU⟩,⟨some ⟨g,0,none⟩,b.ls.length-1,mc⟩,⟨Dj,Dk,Dl⟩⟩ ⟨cs,fr,b.ls.eraseIdx k,bd⟩ _ Z9.out Uz.out).mono ?_
  rintro e W13 ⟨⟨⟨ta,tn,tc⟩,⟨ua,un,uc⟩,⟨va,vn,vc⟩,⟨xa,xn,xc⟩⟩,ys,C2,rfl,ho2,hC2,Ri⟩
  have pQ:=aj Pp.out Ri (bg Pp.out).1
  have yY:w.heap.size+1<W12.heap.size:=(bg Pp.out).1
  obtain⟨e0,e1,e2,e3,_⟩:=ay pQ
  have f0:=aA pQ 0
  have f1:=aA pQ 1
  have f2:=aA pQ 2
  have f3:=aA pQ 3
  have Ph:=ah ((((ho2.put hC2 ⟨w.heap.size+1,0,none⟩ yY (.slice ta tn tc)).put hC2 ⟨w.heap.size+1,1,none⟩ yY (.slice ua un uc)).put hC2 ⟨w.heap.size+1,2,none⟩ yY (.slice va vn vc)).put hC2 ⟨w.heap.size+1,3,none⟩ yY (.slice xa xn xc))
  have Z_:=ah (Dm.out.trans (Ri.mono Dm.out.size))
  clear ho2 Ri pQ d0 d1 d2 d3
  go_wp2
  refine bodyPost_ret (v:=.tuple #[.agg #[.slice ta tn tc,.slice ua un uc,.slice va vn vc,.slice xa xn xc],.int .i64 0]) (by simp[results,Tryz.results28,go_sem, *]) rfl (show kH _ _ _ _ from ?_)
  refine⟨⟨⟨ta,tn,tc⟩,⟨ua,un,uc⟩,⟨va,vn,vc⟩,⟨xa,xn,xc⟩⟩,by rw[eO.out],by rw[eO.out];exact Ph.out.m,?_⟩
  exact(((Z_.out.setCell (by simp) _).setCell (by simp) _).setCell (by simp) _).setCell (by simp) _
end Go.Proofs.YtlfopoimbbpfdaaGreat
