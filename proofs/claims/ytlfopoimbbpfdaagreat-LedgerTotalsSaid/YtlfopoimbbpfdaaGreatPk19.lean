/- What the law asks, in parts: LSg LSh LNa. -/
import Derived.Deep.RegionHeld3
import Derived.Test.YtlfopoimbbpfdaaGreatPk18
import Derived.Test.YtlfopoimbbpfdaaGreatPk12
import Derived.Test.YtlfopoimbbpfdaaGreatPk9
import Derived.Test.YtlfopoimbbpfdaaGreatPk7
import Derived.Test.YtlfopoimbbpfdaaGreatPk6
import Derived.Test.YtlfopoimbbpfdaaGreatPk2
set_option linter.all false
namespace Go.Proofs.YtlfopoimbbpfdaaGreat
open Go.RowKit
theorem Tryz.Rm:(Tryz.prog.info? 26).map (fun i=>(i.zero,i.size,i.bytes))=some (some (.slice none 0 0),1,24):=by kernel_rfl
theorem IQ {w:World} {ops:Array Oper} {rest:List Oper} {o:Oper} {a:Act} {Q:Exit→Act→World→Prop} (hgd:o.guard=none) (s x:Operand)
  (ho:o.op= .call { callee:=.builtin .append,args:= #[s,x],argTypes:= #[92,92] })
  (base:Nat) (v:Value) (n:Nat) (l:List Sv) (hs:a.eval s=v) (hown:w.ownsRow base 26 1 v n ((aK Jv) l))
  (ao:Option Addr) (m c:Nat) (p:List Sv) (hx:a.eval x= .slice ao m c) (hm:p.length=m) (hnews:Rd w ao ((aK Jv) p))
  (hn:n+m<1000000000) (hbase:base≤w.heap.size)
  (h:∀v' w',w'.ownsRow base 26 1 v' (n+m) ((aK Jv) (l++p))→w.grownBy w' v.ownBlock→(v'.ownBlock=v.ownBlock∨v'.ownBlock=some w.heap.size)→wpList Tryz.prog ops Q rest (a.put o.dst v') w'):wpList Tryz.prog ops Q (o::rest) a w:=by
 obtain⟨i,hi,hz0,hz1,hz2⟩:=info_parts Tryz.Rm
 refine b_ hgd s x 92 ho base 26 i _ 1 24 Tryz.underlying92 hi hz0 hz1 hz2 rfl (by decide) v n _ hs hown ao m c ((aK Jv) p) hx (by rw[bL F3,hm]) hnews (eZ Nt p) (by unfold maxLen;omega) (by omega) hbase ?_
 intro v' w' h1 h2 h3
 exact h v' w' (by rw[dU];exact h1) h2 h3
theorem Tryz.IU (args:Array Value) (W:World):(callFunc 48 args).run Tryz.prog W= .ok (.enter 48 args) W:=by kernel_rfl
theorem Tryz.Ld (args:Array Value) (W:World):(callFunc 46 args).run Tryz.prog W= .ok (.enter 46 args) W:=by kernel_rfl
set_option maxHeartbeats 1000000 in
theorem Dr (s:Sv) (l:List Rg) (b1:Nat) (n:Int) (w:World) (h1:w.cell? ⟨b1,0,none⟩=some (.int .i64 n)) (aeT:b1<w.heap.size) (h:fq w s.v l):
  Calls Tryz.prog 48 #[s.v,.pointer (some ⟨b1,0,none⟩)] w fun e w'=>e= .returned (.bool (Hw [n] l))∧Below w.heap.size w w':=by
 obtain⟨s1,s2,s3⟩:=s
 have hb2:Below w.heap.size w (w.alloc (.cells #[.int .i64 n] 3)):=(aL _ _).alloc (aC _) _
 have HS:=ah (fq.keep h hb2 (aC _))
 have HU:Hid (iW (w.alloc (.cells #[.int .i64 n] 3)) (.slice (some ⟨w.heap.size,0,none⟩) 1 1) [n]):=ah ⟨rfl,_,1,rfl,aC _,by unfold maxLen;omega,(fun h=>by cases h),fun j u hu=>⟨_,0,rfl,by simp,by
  have:=tO w _ rfl [.int .i64 n] 3 j u hu
  obtain⟨a,ha,hc⟩:=this
  injection ha with ha
  subst ha
  rw[Addr.add_lit]at hc
  exact hc⟩⟩
 obtain⟨q,hq⟩:∃q,Hw [n] l=q:=⟨_,rfl⟩
 have HQ:=ah hq
 clear hq h
 change Calls Tryz.prog _ #[.slice s1 s2 s3,.pointer (some ⟨b1,0,none⟩)] w _
 go_enter Tryz.func48,Tryz.ntmps48
 go_wp2_with fail
 refine(zL _ _ [n] l _ HU.out HS.out).mono ?_
 rw[HQ.out]
 rintro e w1 ⟨rfl,hb3⟩
 have hb4:=hb2.trans (hb3.mono hb2.size)
 clear HS HU hb2 hb3
 go_wp2
 go_ret
 exact⟨aN HQ.out.symm,hb4⟩
theorem Sl.uniq {w:World} {E n n':Nat} {v:Value} {cs cs':List Value} (h:Sl w E v n cs) (h':Sl w E v n' cs'):cs=cs':=by
 obtain⟨h1,ao,cap,rfl,_,_,_,h2⟩:=h
 obtain⟨h1',jl,cap',he,_,_,_,h2'⟩:=h'
 injection he with e1 e2 e3
 subst e1 e2 e3
 refine List.ext_getElem (by omega) (fun j hj hj'=>?_)
 obtain⟨b,off,ha,_,hc⟩:=h2 j cs[j] (by simp[hj])
 obtain⟨b',off',ha',_,hc'⟩:=h2' j cs'[j] (by simp[hj'])
 rw[ha]at ha'
 injection ha' with ha'
 injection ha' with q1 q2
 subst q1 q2
 rw[hc]at hc'
 injection hc'
theorem xK:∀ {l m:List Rg},aR l=aR m→l=m
 | [],[],_=>rfl
 | [],_::_,h=>by simp[aR]at h
 | _::_,[],h=>by simp[aR]at h
 | (a,b)::l,(c,d)::m,h=>by
  simp only[aR,List.flatMap_cons,List.cons_append,List.nil_append,List.cons.injEq,Value.int.injEq,true_and]at h
  obtain⟨h1,h2,h3⟩:=h
  rw[h1,h2,xK h3]
theorem fq.uniq {w:World} {v:Value} {l m:List Rg} (h:fq w v l) (h':fq w v m):l=m:=xK (Sl.uniq h h')
def o8 (rows:List (List Rg)) (n:Int):Bool:=rows.any (fun l=>Hw [n] l)
theorem Le {w:World} {n:Int} {ss:List Sv} {rows:List (List Rg)} (h:bI (fun s l=>fq w s.v l) ss rows):ss.any (fun s=> @decide (∃l,fq w s.v l∧Hw [n] l=true) (Classical.propDecidable _))=o8 rows n:=
 wG h (fun s l r=>by
  rw[Bool.eq_iff_iff,@decide_eq_true_iff _ (Classical.propDecidable _)]
  exact⟨fun ⟨m,hm,hh⟩=>by rw[fq.uniq r hm];exact hh,fun hh=>⟨l,r,hh⟩⟩)
theorem N7 {w:World} {b1:Nat} {n:Int} (h1:w.cell? ⟨b1,0,none⟩=some (.int .i64 n)) {ss:List Sv} {rows:List (List Rg)} (h:bI (fun s l=>fq w s.v l) ss rows):kZ Tryz.prog w 48 #[.pointer (some ⟨b1,0,none⟩)] Sv.v (fun s=> @decide (∃l,fq w s.v l∧Hw [n] l=true) (Classical.propDecidable _)) ss:=by
 have hb1:b1<w.heap.size:=World.block_lt_of_cell? w _ h1
 refine⟨Tryz.IU,fun W hW x hx=>?_⟩
 obtain⟨j,hj,rfl⟩:=List.getElem_of_mem hx
 have hr:=bI.at h j hj (by rw[←h.len];exact hj)
 generalize rows[j]'(by rw[←h.len];exact hj)=l at*
 refine(Dr ss[j] l b1 n W (eT h1 hW hb1) (Nat.lt_of_lt_of_le hb1 hW.size) (fq.keep hr hW (aC _))).mono ?_
 rintro e w1 ⟨rfl,hb⟩
 refine⟨aN ?_,hb⟩
 rw[Bool.eq_iff_iff,@decide_eq_true_iff _ (Classical.propDecidable _)]
 exact⟨fun hh=>⟨l,hr,hh⟩,fun⟨m,hm,hh⟩=>by rw[fq.uniq hr hm];exact hh⟩
set_option maxHeartbeats 1000000 in
theorem E5 (n:Int) (b1:Nat) (v:Value) (rows:List (List Rg)) (w:World) (h1:w.cell? ⟨b1,0,none⟩=some v) (hb1:b1<w.heap.size) (h:xJ w v rows):
  Calls Tryz.prog 46 #[.int .i64 n,.pointer (some ⟨b1,0,none⟩)] w fun e w'=>e= .returned (.bool (o8 rows n))∧Below w.heap.size w w':=by
 have hb2:Below w.heap.size w (w.alloc (.cells #[.int .i64 n] 3)):=(aL _ _).alloc (aC _) _
 obtain⟨ss,hs,hss⟩:=xJ.keep h hb2 (aC _)
 have HC:Hid ((w.alloc (.cells #[.int .i64 n] 3)).cell? ⟨w.heap.size,0,none⟩=some (.int .i64 n)):=by show _=_;simp[go_sem]
 obtain⟨ao,cap,rfl,hcap,hm⟩:=Sl.shape hs
 have HS:=ah hs
 have Vw:=ah hss
 obtain⟨q,hq⟩:∃q,o8 rows n=q:=⟨_,rfl⟩
 have HQ:=ah hq
 clear hq h hs hss
 go_enter Tryz.func46,Tryz.ntmps46
 go_wp2_with fail
 refine(Hq _ ss _ _ _ _ HS.out (N7 HC.out Vw.out)).mono ?_
 rw[Le Vw.out,HQ.out]
 rintro e w1 ⟨rfl,hb3⟩
 have hb4:=hb2.trans (hb3.mono hb2.size)
 clear HS HC Vw hb2 hb3
 go_wp2
 go_ret
 exact⟨aN HQ.out.symm,hb4⟩
theorem Rn {w:World} {b1:Nat} {v:Value} {rows:List (List Rg)} (h1:w.cell? ⟨b1,0,none⟩=some v) (h:xJ w v rows) (l:List Int):kZ Tryz.prog w 46 #[.pointer (some ⟨b1,0,none⟩)] (fun n=> .int .i64 n) (o8 rows) l:=by
 have hb1:b1<w.heap.size:=World.block_lt_of_cell? w _ h1
 exact⟨Tryz.Ld,fun W hW x _=>E5 x b1 v rows W (eT h1 hW hb1) (Nat.lt_of_lt_of_le hb1 hW.size) (xJ.keep h hW (aC _))⟩
end Go.Proofs.YtlfopoimbbpfdaaGreat
namespace Go.Proofs.YtlfopoimbbpfdaaGreat
open Go.RowKit
def nQ (ls:List Ls):Nat→Int
 | 0=> -1
 | i+1=>((ls[i]?).map Ls.dev).getD 0
def xL (cs:List Ct) (ls:List Ls) (i:Nat) (l:Ls):Bool:=decide (nQ ls i<l.dev)&&(decide (l.dev<6)&&(QJ cs l.sl&&(decide (cZ l.ids)&&(decide (lF l.used)&&Hw l.used l.ids))))
def rowsOf (b:Bk):List (List Rg):=b.free::b.ls.map Ls.ids
def Bf (b:Bk):Bool:=decide (oO (xL b.cs b.ls) b.ls)&&(Km b.cs&&(Gg b.cs b.ls&&(decide (cZ b.free)&&(decide (lF b.bound)&&(pR [] (rowsOf b)&&!b.bound.any (o8 (rowsOf b)))))))
structure VA (w:World) (x:bZ) (b:Bk) (k:Nat) (v:Value) (ss:List Sv) (wr:World):Prop where
 all:gY (xL b.cs b.ls) b.ls k
 aZ:Below w.heap.size w wr
 kb:wr.heap[w.heap.size]? =some (.cells #[x.c.v,x.f.v,x.l.v,x.b.v] 30 (0,0))
 kr:wr.heap[w.heap.size+2]? =some (.cells #[v] 92 (0,0))
 row:wr.ownsRow (w.heap.size+1) 26 1 v ss.length (aK Jv ss)
 rd:bI (fun s l=>fq w s.v l) ss (b.free::(b.ls.take k).map Ls.ids)
structure N8 (b:Bk):Prop where
 nl:b.ls.length<1000000
 nr:(rowsOf b).flatten.length<1000000
 key:∀c∈b.cs,c.key.size≤maxLen
 up:∀l∈b.ls,∀s∈l.sl,s.up≤9223372036854775807∧s.down≤9223372036854775807
theorem one_cell {w:World} {b:Nat} {x:Value} {t:TypeId} (h:w.heap[b]? =some (.cells #[x] t (0,0))):
  w.cell? ⟨b,0,none⟩=some x∧w.frozen? ⟨b,0,none⟩=false∧b<w.heap.size:=by
 refine⟨?_,?_,(bg h).1⟩<;>simp[World.cell?,World.frozen?,h]
theorem N9 {w:World} {b:Nat} {x:Value} {t:TypeId} (h:w.heap[b]? =some (.cells #[x] t (0,0))) (u:Value):(w.setCell ⟨b,0,none⟩ u).heap[b]? =some (.cells #[u] t (0,0)):=by
 simp[World.setCell,Array.getElem?_modify,h]
theorem N_ {cs:List Ct} {l:List Sc} (h:QJ cs l=true) (hu:∀s∈l,s.up≤9223372036854775807∧s.down≤9223372036854775807):Pj l:=by
 intro s hs
 obtain⟨i,hi,rfl⟩:=List.getElem_of_mem hs
 unfold QJ at h
 rw[decide_eq_true_iff]at h
 have h1:=h i hi
 have h2:=hu _ (List.getElem_mem hi)
 unfold EI at h1
 simp only[Bool.and_eq_true,decide_eq_true_iff]at h1
 exact⟨h1.2.2.1,h1.2.2.2.1,h2.1,h1.2.2.2.2.1,h1.2.2.2.2.2,h2.2⟩
theorem Oa {cs:List Ct} (h:Km cs=true):∀c∈cs,CtN c:=by
 intro c hc
 obtain⟨i,hi,rfl⟩:=List.getElem_of_mem hc
 unfold Km at h
 rw[Bool.and_eq_true,decide_eq_true_iff]at h
 have h1:=h.1 i hi
 unfold yL at h1
 rw[Bool.and_eq_true]at h1
 have h2:=vP h1.1
 simp only[Bool.and_eq_true,decide_eq_true_iff]at h1
 exact⟨h2.1,h2.2.1,h2.2.2.1,h2.2.2.2,h1.2.2.1,h1.2.2.2.2.1,h1.2.2.2.1,h1.2.2.2.2.2⟩
theorem IV {α:Type} {f:Nat→α→Bool} {l:List α} (h:oO f l):∀x∈l,∃i,f i x=true:=fun x hx=>by
 obtain⟨i,hi,rfl⟩:=List.getElem_of_mem hx
 exact⟨i,h i hi⟩
set_option maxRecDepth 100000 in
set_option maxHeartbeats 8000000 in
theorem uf (x:bZ) (b:Bk) (w:World) (h:eD w x b) (hB:N8 b):
  Calls Tryz.prog 12 #[fT x] w fun e w'=>e= .returned (.bool (Bf b))∧Below w.heap.size w w':=by
 obtain⟨⟨ca,cn,cc⟩,⟨fa,aX,fc⟩,⟨la,ln,lc⟩,⟨ba,b_n,bc⟩⟩:=x
 have HM:=ah h
 have NT:=ah hB
 obtain⟨a1,a2,a3,a4⟩:=b
 obtain⟨hc,hf,⟨xs,hx,hxa⟩,hu⟩:=h
 have nl:=hB.nl
 simp only[Sv.v]at hc hf hx hu hxa nl
 obtain⟨q1,_,_⟩:=Sl.lens (s:=⟨ca,cn,cc⟩) hc
 obtain⟨q2,g1,g2⟩:=Sl.lens (s:=⟨fa,aX,fc⟩) hf
 obtain⟨q3,g3,g4⟩:=Sl.lens (s:=⟨la,ln,lc⟩) hx
 obtain⟨q4,g5,g6⟩:=Sl.lens (s:=⟨ba,b_n,bc⟩) hu
 simp only at q1 q2 q3 q4 g1 g2 g3 g4 g5 g6
 subst q1 q2 q3 q4
 have HLEN:=ah hxa.len
 have q_:=ah hxa
 have hxl:xs.length<1000000:=by have:=HLEN.out;omega
 clear hxa hB
 have hst:VA w ⟨⟨ca,a1.length,cc⟩,⟨fa,a2.length,fc⟩,⟨la,xs.length,lc⟩,⟨ba,a4.length,bc⟩⟩ ⟨a1,a2,a3,a4⟩ 0 (.slice (some ⟨w.heap.size+1,0,none⟩) 1 1) [⟨fa,a2.length,fc⟩]
   (((w.alloc (.cells #[.slice ca a1.length cc,.slice fa a2.length fc,.slice la xs.length lc,.slice ba a4.length bc] 30)).alloc (.cells #[.slice fa a2.length fc] 26)).alloc (.cells #[.slice (some ⟨w.heap.size+1,0,none⟩) 1 1] 92)):=by
  refine⟨lD _ _,(((aL _ _).alloc (aC _) _).alloc (by simp) _).alloc (by simp;omega) _,?_,?_,?_,⟨hf,trivial⟩⟩
  ·rw[Below.heap_alloc _ _ _ (by simp;omega)];exact bJ _ _ _
  ·have:=heap_alloc_new ((w.alloc (.cells #[.slice ca a1.length cc,.slice fa a2.length fc,.slice la xs.length lc,.slice ba a4.length bc] 30)).alloc (.cells #[.slice fa a2.length fc] 26)) (.cells #[.slice (some ⟨w.heap.size+1,0,none⟩) 1 1] 92)
   simpa using this
  ·have h1:=cO (w.alloc (.cells #[.slice ca a1.length cc,.slice fa a2.length fc,.slice la xs.length lc,.slice ba a4.length bc] 30)) (w.heap.size+1) (w.heap.size+1) 26 1 #[.slice fa a2.length fc] 1 (by simp) (aC _) (by omega) rfl
   exact h1.alloc _
 change Calls Tryz.prog _ #[.agg #[.slice ca a1.length cc,.slice fa a2.length fc,.slice la xs.length lc,.slice ba a4.length bc]] w _
 have HST:=ah hst
 clear hst
 go_enter Tryz.func12,Tryz.ntmps12
 go_wp2
 go_loopw[5,14] (fun v5 v14 wr=>∃ (k:Nat) (v:Value) (ss:List Sv),k≤xs.length∧v14= .int .i64 k∧v5= .int .i64 (nQ a3 k)∧ss.length=k+1∧VA w ⟨⟨ca,a1.length,cc⟩,⟨fa,a2.length,fc⟩,⟨la,xs.length,lc⟩,⟨ba,a4.length,bc⟩⟩ ⟨a1,a2,a3,a4⟩ k v ss wr) (fun _ v14 _=>xs.length-(intOf v14).toNat)
 case atStart=>exact⟨0,_,[⟨fa,a2.length,fc⟩],Nat.zero_le _,rfl,rfl,rfl,HST.out⟩
 case round=>
  obtain⟨k,v,ss,hk,rfl,rfl,hss,hS⟩:=hrel
  clear HST
  have HS:=ah hS
  have aak:=ah hss
  have aeU:ss.length≤k+1:=by omega
  have lX:w.heap.size+2<wr.heap.size:=(bg hS.kr).1
  obtain⟨d0,d1,d2,d3,_⟩:=ay hS.kb
  obtain⟨r0,JE,_⟩:=one_cell hS.kr
  obtain⟨rao,aal,rfl,aeW,aeX⟩:=aP hS.row
  simp only[Sv.v]at d0 d1 d2 d3
  have hb:=hS.aZ
  clear hS hss
  rcases Nat.lt_or_ge k xs.length with hlt | hge
  ·have hlt2:k<a3.length:=by rw[←HLEN.out];exact hlt
   obtain⟨lb,lo,rfl,hlb,e0,e1,e2,e3,e4,e5,e6⟩:=cK.ls hx hb (aC _) k hlt
   have iG:(k:Int)<xs.length:=by omega
   have hM:=bI.at q_.out k hlt hlt2
   have BK:Hid (xL a1 a3 k a3[k]=false→Bf ⟨a1,a2,a3,a4⟩=false):=ah (fun hh=>by unfold Bf;rw[rE (f:=xL a1 a3) hlt2 hh];rfl)
   have rF:Hid (xL a1 a3 k a3[k]=true→gY (xL a1 a3) a3 (k+1)):=ah (gY.step HS.out.all hlt2)
   have oP:Hid (xL a1 a3 k a3[k]=(decide (nQ a3 k<a3[k].dev)&&(decide (a3[k].dev<6)&&(QJ a1 a3[k].sl&&(decide (cZ a3[k].ids)&&(decide (lF a3[k].used)&&Hw a3[k].used a3[k].ids)))))):=rfl
   have Ob:Hid (nQ a3 (k+1)=a3[k].dev):=by show _=_;simp[nQ,List.getElem?_eq_getElem hlt2]
   have Kr:Hid ((a3.take (k+1)).map Ls.ids=(a3.take k).map Ls.ids++ [a3[k].ids]):=by show _=_;rw[aV a3 k hlt2,List.map_append];rfl
   have hMs:=hM.s
   have Pq:=hM.i
   have Yn:=hM.u
   have hMd:=hM.dev
   have HMI:=ah hM.i
   clear hM
   generalize nQ a3 k=pd at*
   generalize xL a1 a3 k a3[k]=ok at*
   generalize xs[k]=z at*
   generalize a3[k]=l at*
   obtain⟨z1,z2,z3,z4,⟨z5,z6,z7⟩,⟨z8,z9,dD⟩,⟨dI,z12,dJ⟩⟩:=z
   obtain⟨y1,y2,y3,y4,sl,ids,used⟩:=l
   simp only[Sv.v]at e0 e1 e2 e3 e4 e5 e6 hMs Pq Yn hMd
   subst hMd
   obtain⟨p1,Yd,nR⟩:=Sl.lens (s:=⟨z5,z6,z7⟩) hMs
   obtain⟨p2,Po,p22⟩:=Sl.lens (s:=⟨z8,z9,dD⟩) Pq
   obtain⟨p3,p31,p32⟩:=Sl.lens (s:=⟨dI,z12,dJ⟩) Yn
   simp only at p1 Yd nR p2 Po p22 p3 p31 p32
   subst p1 p2 p3
   have dK:=hb.alloc (by omega) (.cells #[.int .i64 z1,.int .i64 z2,.int .i64 z3,.int .i64 z4,.slice z5 sl.length z7,.slice z8 ids.length dD,.slice dI used.length dJ] 48)
   have hbR:Below wr.heap.size wr (wr.alloc (.cells #[.int .i64 z1,.int .i64 z2,.int .i64 z3,.int .i64 z4,.slice z5 sl.length z7,.slice z8 ids.length dD,.slice dI used.length dJ] 48)):=(aL _ _).alloc (aC _) _
   have BJ:=ah dK
   have Oc:=ah (heap_alloc_new wr (.cells #[.int .i64 z1,.int .i64 z2,.int .i64 z3,.int .i64 z4,.slice z5 sl.length z7,.slice z8 ids.length dD,.slice dI used.length dJ] 48))
   have IW:=ah (aj HS.out.kb hbR (by omega))
   have yA:=ah (aj HS.out.kr hbR (by omega))
   have aan:=ah (cK.keep hMs dK (aC _))
   have VB:=ah (fq.keep Pq dK (aC _))
   have VD:=ah (iW.keep Yn dK (aC _))
   have Od:=ah (cK.keep hc dK (aC _))
   have Oe:=ah (aJ HS.out.row hbR (aC _))
   have Kq:wr.heap.size<(wr.alloc (.cells #[.int .i64 z1,.int .i64 z2,.int .i64 z3,.int .i64 z4,.slice z5 sl.length z7,.slice z8 ids.length dD,.slice dI used.length dJ] 48)).heap.size:=by simp
   clear dK hbR hMs Pq Yn
   generalize hq1:QJ a1 sl=q1 at*
   generalize hq2:decide (cZ ids)=q2 at*
   generalize hq3:decide (lF used)=q3 at*
   generalize hq4:Hw used ids=q4 at*
   have EC:=ah hq1
   have dO:=ah hq2
   have vR:=ah hq3
   have VE:=ah hq4
   clear hq1 hq2 hq3 hq4
   go_upto_region 7 with fail
   generalize wr.alloc (.cells #[.int .i64 z1,.int .i64 z2,.int .i64 z3,.int .i64 z4,.slice z5 sl.length z7,.slice z8 ids.length dD,.slice dI used.length dJ] 48)=w7 at*
   clear e0 e1 e2 e3 e4 e5 e6 d0 d1 d2 d3 r0 JE
   obtain⟨n0,n1,n2,n3,n4,n5,n6,_⟩:=aB Oc.out
   obtain⟨d0,d1,d2,d3,_⟩:=ay IW.out
   obtain⟨r0,JE,_⟩:=one_cell yA.out
   go_wp2_with (first
    | ((go_at_call 38;refine(EJ ⟨z1,z2,z3,z4,⟨z5,sl.length,z7⟩,⟨z8,ids.length,dD⟩,⟨dI,used.length,dJ⟩⟩ sl ⟨⟨ca,a1.length,cc⟩,⟨fa,a2.length,fc⟩,⟨some ⟨lb,lo,none⟩,xs.length,lc⟩,⟨ba,a4.length,bc⟩⟩ a1 _ aan.out Od.out).mono ?_);rw[EC.out];rintro e w1 ⟨rfl,hb⟩;have hc1:=hb;obtain⟨n0,n1,n2,n3,n4,n5,n6,_⟩:=aB (aj Oc.out hc1 Kq);obtain⟨d0,d1,d2,d3,_⟩:=ay (aj IW.out hc1 (by omega));obtain⟨r0,JE,_⟩:=one_cell (aj yA.out hc1 (by omega));clear hb)
    | ((go_at_call 39;refine(zW _ ids _ (fq.keep VB.out hc1 (aC _))).mono ?_);rw[dO.out];rintro e w2 ⟨rfl,hb⟩;have hc2:=hc1.trans (hb.mono hc1.size);obtain⟨n0,n1,n2,n3,n4,n5,n6,_⟩:=aB (aj Oc.out hc2 Kq);obtain⟨d0,d1,d2,d3,_⟩:=ay (aj IW.out hc2 (by omega));obtain⟨r0,JE,_⟩:=one_cell (aj yA.out hc2 (by omega));clear hb)
    | ((go_at_call 40;refine(zV _ used _ (iW.keep VD.out hc2 (aC _))).mono ?_);rw[vR.out];rintro e w3 ⟨rfl,hb⟩;have hc3:=hc2.trans (hb.mono hc2.size);obtain⟨n0,n1,n2,n3,n4,n5,n6,_⟩:=aB (aj Oc.out hc3 Kq);obtain⟨d0,d1,d2,d3,_⟩:=ay (aj IW.out hc3 (by omega));obtain⟨r0,JE,_⟩:=one_cell (aj yA.out hc3 (by omega));clear hb)
    | ((go_at_call 41;refine(zL _ _ used ids _ (iW.keep VD.out hc3 (aC _)) (fq.keep VB.out hc3 (aC _))).mono ?_);rw[VE.out];rintro e w4 ⟨rfl,hb⟩;have hc4:=hc3.trans (hb.mono hc3.size);obtain⟨n0,n1,n2,n3,n4,n5,n6,_⟩:=aB (aj Oc.out hc4 Kq);obtain⟨d0,d1,d2,d3,_⟩:=ay (aj IW.out hc4 (by omega));obtain⟨r0,JE,_⟩:=one_cell (aj yA.out hc4 (by omega));clear hb)
    | ((with_reducible refine aY 60 ?_);refine IQ rfl _ _ rfl (w.heap.size+1) _ ss.length ss rfl ((aJ Oe.out hc4 (aC _)).alloc _) _ 1 1 [⟨z8,ids.length,dD⟩] rfl rfl (tO _ _ rfl [.slice z8 ids.length dD] _) (by omega) (by simp;omega) ?_))
   all_goals first
    | (go_ret
       refine⟨aN (BK.out (by rw[oP.out];first | (simp;omega) | (simp [*];done) | (simp [*];omega) | (cases q4<;>first | (simp;done) | (exfalso;rename_i hq;simp at hq;omega)))).symm,?_⟩
       first | exact BJ.out.trans (hc4.mono BJ.out.size) | exact BJ.out.trans (hc3.mono BJ.out.size) | exact BJ.out.trans (hc2.mono BJ.out.size) | exact BJ.out.trans (hc1.mono BJ.out.size) | exact BJ.out)
    | skip
   intro v6 w6 qO D8 Ic
   have jT:=hc4.size
   have hne:=jW (aJ Oe.out hc4 (aC _)) (aj yA.out hc4 (by omega)) (by decide)
   have Yo:=(D8.block (w.heap.size+2) (by simp;omega) (fun e=>hne e.symm)).trans ((Below.heap_alloc _ _ _ (by omega)).trans (aj yA.out hc4 (by omega)))
   have kb6:=(gQ D8 (b:=w.heap.size) (B:=w.heap.size+1) (by simp;omega) (by omega) (bK Oe.out)).trans ((Below.heap_alloc _ _ _ (by omega)).trans (aj IW.out hc4 (by omega)))
   have VF:=jW qO Yo (by decide)
   have hbw:Below w.heap.size w w6:=((BJ.out.trans (hc4.mono BJ.out.size)).alloc (by omega) _).grown D8 (by simp;omega) (fun g hg=>by have:=bK Oe.out g hg;omega)
   have hd6:=(aB (aj Oc.out hc4 Kq)).1
   obtain⟨F7,cap6,rfl,_,_⟩:=aP qO
   obtain⟨r0,JE,_⟩:=one_cell Yo
   have vv:=ah Yo
   have aap:=ah kb6
   have wP:=ah qO
   have aaq:=ah VF
   clear Yo kb6 qO D8 Ic hne VF n0 n1 n2 n3 n4 n5 n6 d0 d1 d2 d3 hd6 hc1 hc2 hc3 hc4
   go_wp2
   go_roundw
   case rel=>
    refine⟨k+1,.slice F7 (ss.length+1) cap6,ss++ [⟨z8,ids.length,dD⟩],by omega,by go_num,by rw[Ob.out],by simp[aak.out],⟨rF.out (by rw[oP.out];cases q4<;>first | (simp [*];done) | (simp [*];omega) | (exfalso;rename_i hq;simp at hq;done)),hbw.setCell (by first | (simp;done) | (simp;omega)) _,?_,?_,?_,?_⟩⟩
    ·rw[aW _ _ _ (by simp;omega)];exact aap.out
    ·exact N9 vv.out _
    ·rw[List.length_append];exact fF wP.out (fun b hb=>aW _ _ _ (fun e=>hb e.symm) _) aaq.out
    ·show bI _ _ (a2::(a3.take (k+1)).map Ls.ids)
     rw[Kr.out]
     exact bI.append HS.out.rd ⟨HMI.out,trivial⟩
   case measure=>simp[intOf];omega
  ·have hk2:k=xs.length:=by omega
   subst hk2
   have E8:=ah (gY.all HS.out.all (Nat.le_of_eq (HLEN.out.symm)))
   have Og:Hid (xJ wr (.slice rao ss.length aal) (rowsOf ⟨a1,a2,a3,a4⟩)):=ah ⟨ss,aI HS.out.row,by
    have:=HS.out.rd
    simp only at this
    rw[List.take_of_length_le (Nat.le_of_eq HLEN.out.symm)]at this
    exact this.imp (fun _ _ r=>fq.keep r hb (aC _))⟩
   generalize hqa:Km a1=qa at*
   generalize hqb:Gg a1 a3=qb at*
   generalize hqc:decide (cZ a2)=qc at*
   generalize Ya:decide (lF a4)=qd at*
   generalize hqe:pR [] (rowsOf ⟨a1,a2,a3,a4⟩)=qe at*
   generalize hqf:a4.any (o8 (rowsOf ⟨a1,a2,a3,a4⟩))=qf at*
   have Ac:=ah hqa
   have HQB:=ah hqb
   have E9:=ah hqc
   have Yp:=ah Ya
   have HQE:=ah hqe
   have HQF:=ah hqf
   have VG:Hid (Bf ⟨a1,a2,a3,a4⟩=(qa&&(qb&&(qc&&(qd&&(qe&&!qf)))))):=by show _=_;unfold Bf;simp only[E8.out,Ac.out,HQB.out,E9.out,Yp.out,HQE.out,HQF.out,Bool.true_and]
   clear hqa hqb hqc Ya hqe hqf
   have hcc:=cK.keep hc hb (aC _)
   have hll:Aq wr (.slice la xs.length lc) a3:=Aq.keep ⟨xs,hx,q_.out⟩ hb (aC _)
   have hff:=fq.keep hf hb (aC _)
   have Yq:=iW.keep hu hb (aC _)
   cases qa with
   | false=>
    go_wp2_with ((go_at_call 42;refine(rG ⟨⟨ca,a1.length,cc⟩,⟨fa,a2.length,fc⟩,⟨la,xs.length,lc⟩,⟨ba,a4.length,bc⟩⟩ a1 _ hcc NT.out.key).mono ?_);rw[Ac.out];rintro e w1 ⟨rfl,hb1⟩)
    go_ret
    exact⟨aN (by rw[VG.out];rfl),hb.trans (hb1.mono hb.size)⟩
   | true=>
    have aar:Hid (∀l∈a3,Pj l.sl):=ah (fun l hl=>by
     have:=E8.out
     rw[decide_eq_true_iff]at this
     obtain⟨i,hi⟩:=IV this l hl
     unfold xL at hi
     simp only[Bool.and_eq_true]at hi
     exact N_ hi.2.2.1 (NT.out.up l hl))
    have aas:=ah (Oa Ac.out)
    go_wp2_with (first
     | ((go_at_call 42;refine(rG ⟨⟨ca,a1.length,cc⟩,⟨fa,a2.length,fc⟩,⟨la,xs.length,lc⟩,⟨ba,a4.length,bc⟩⟩ a1 _ hcc NT.out.key).mono ?_);rw[Ac.out];rintro e w1 ⟨rfl,hb1⟩;have hc1:=hb1;obtain⟨d0,d1,d2,d3,_⟩:=ay (aj HS.out.kb hc1 (by omega));obtain⟨r0,JE,_⟩:=one_cell (aj HS.out.kr hc1 (by omega));clear hb1)
     | ((go_at_call 43;refine(Kz ⟨⟨ca,a1.length,cc⟩,⟨fa,a2.length,fc⟩,⟨la,xs.length,lc⟩,⟨ba,a4.length,bc⟩⟩ a1 a3 _ (cK.keep hcc hc1 (aC _)) (Aq.keep hll hc1 (aC _)) aas.out aar.out).mono ?_);rw[HQB.out];rintro e w2 ⟨rfl,hb1⟩;have hc2:=hc1.trans (hb1.mono hc1.size);obtain⟨d0,d1,d2,d3,_⟩:=ay (aj HS.out.kb hc2 (by omega));obtain⟨r0,JE,_⟩:=one_cell (aj HS.out.kr hc2 (by omega));clear hb1)
     | ((go_at_call 39;refine(zW _ a2 _ (fq.keep hff hc2 (aC _))).mono ?_);rw[E9.out];rintro e w3 ⟨rfl,hb1⟩;have hc3:=hc2.trans (hb1.mono hc2.size);obtain⟨d0,d1,d2,d3,_⟩:=ay (aj HS.out.kb hc3 (by omega));obtain⟨r0,JE,_⟩:=one_cell (aj HS.out.kr hc3 (by omega));clear hb1)
     | ((go_at_call 40;refine(zV _ a4 _ (iW.keep Yq hc3 (aC _))).mono ?_);rw[Yp.out];rintro e w4 ⟨rfl,hb1⟩;have hc4:=hc3.trans (hb1.mono hc3.size);obtain⟨d0,d1,d2,d3,_⟩:=ay (aj HS.out.kb hc4 (by omega));obtain⟨r0,JE,_⟩:=one_cell (aj HS.out.kr hc4 (by omega));clear hb1)
     | ((go_at_call 44;refine(IL _ _ _ (xJ.keep Og.out hc4 (aC _)) NT.out.nr).mono ?_);rw[HQE.out];rintro e w5 ⟨rfl,hb1⟩;have Ro:=hc4.trans (hb1.mono hc4.size);obtain⟨d0,d1,d2,d3,_⟩:=ay (aj HS.out.kb Ro (by omega));obtain⟨r0,JE,_⟩:=one_cell (aj HS.out.kr Ro (by omega));clear hb1)
     | ((go_at_call 45;refine(BX _ a4 _ _ _ _ (iW.keep Yq Ro (aC _)) (Rn r0 (xJ.keep Og.out Ro (aC _)) a4)).mono ?_);rw[HQF.out];rintro e w6 ⟨rfl,hb6⟩;have hc6:=Ro.trans (hb6.mono Ro.size)))
    all_goals
     go_ret
     refine⟨aN (by rw[VG.out];first | rfl | (simp;done) | (simp [*];done) | (cases qe<;>first | (simp [*];done) | (rename_i hq;simp at hq;done))),?_⟩
     first | exact hb.trans (hc6.mono hb.size) | exact hb.trans (Ro.mono hb.size) | exact hb.trans (hc4.mono hb.size) | exact hb.trans (hc3.mono hb.size) | exact hb.trans (hc2.mono hb.size) | exact hb.trans (hc1.mono hb.size)
end Go.Proofs.YtlfopoimbbpfdaaGreat
namespace Go.Proofs.YtlfopoimbbpfdaaGreat
open Go.RowKit
theorem Lf (r:Rg):gu [] r= [r]:=rfl
theorem Lg (r:Rg):vw [] r= [r]:=rfl
set_option maxHeartbeats 1000000 in
theorem IX (w:World):Calls Tryz.prog 66 #[.slice none 0 0,.agg #[.int .i64 0,.int .i64 0]] w (oJ w 2 56 0 (aR [])):=by
 go_enter Tryz.func66,Tryz.ntmps66
 go_wp2
 go_ret
 exact⟨_,rfl,cO (w.alloc (.cells #[.int .i64 0,.int .i64 0] 56)) _ _ _ 2 #[] 0 (by simp) (by simp) (by omega) rfl,((aL w.heap.size w).alloc (aC _) _).alloc (by simp) _⟩
theorem E_ (n:Int) (w:World) (h0:0≤n) (h1:n≤1000):Calls Tryz.prog 66 #[.slice none 0 0,.agg #[.int .i64 0,.int .i64 n]] w (oJ w 2 56 (gG [] (0,n)).length (aR (gG [] (0,n)))):=by
 by_cases h:0<n
 ·have:=wN (.slice none 0 0) [] 0 n w (fq.nil w) (by simp) h (by omega) (by omega)
  rw[Lg]at this
  have e:gG [] (0,n)= [(0,n)]:=by unfold gG;rw[if_neg (by simp only;omega),Lf]
  rw[e];exact this
 ·have e:n=0:=by omega
  subst e
  exact IX w
set_option maxRecDepth 100000 in
set_option maxHeartbeats 8000000 in
theorem IY (v:Value) (l:List Ct) (ids:Int) (w:World) (h:mD w v l) (h4:4<l.length):
  Calls Tryz.prog 22 #[v,.int .i64 ids] w (qA w (newS l ids)):=by
 have HS:Hid (newS l ids=(⟨[],[],[],[]⟩,4)):=by show _=_;unfold newS;rw[if_pos h4]
 obtain⟨ao,cap,rfl,hcap,hm⟩:=Sl.shape h
 have g4:(4:Int)<l.length:=by omega
 clear h
 go_enter Tryz.func22,Tryz.ntmps22
 go_wp2
 refine bodyPost_ret (v:=.tuple #[.agg #[.slice none 0 0,.slice none 0 0,.slice none 0 0,.slice none 0 0],.int .i64 4]) (by simp[results,Tryz.results22,go_sem]) rfl ⟨⟨⟨none,0,0⟩,⟨none,0,0⟩,⟨none,0,0⟩,⟨none,0,0⟩⟩,by rw[HS.out],by rw[HS.out];exact jA _,(aL _ _).alloc (aC _) _⟩
set_option maxRecDepth 100000 in
set_option maxHeartbeats 8000000 in
theorem Lh (v:Value) (l:List Ct) (ids:Int) (w:World) (h:mD w v l) (h4:l.length≤4) (hkey:∀c∈l,c.key.size≤maxLen):
  Calls Tryz.prog 22 #[v,.int .i64 ids] w (qA w (newS l ids)):=by
 obtain⟨ao,cap,rfl,hcap,hm⟩:=Sl.shape h
 have g4:decide (4<(l.length:Int))=false:=by simp;omega
 have g4':decide (4<l.length)=false:=by simp;omega
 have J7:Hid (∀n,(jI [] l).1=n→n≠0→newS l ids=(⟨[],[],[],[]⟩,n)):=fun n hn h0=>by
  unfold newS;rw[if_neg (by omega),if_pos (by rw[hn];exact h0),hn]
 have HKEY:=ah hkey
 clear hkey
 go_enter Tryz.func22,Tryz.ntmps22
 go_upto_block 0 with fail
 have hst:Ib w l 0 [] (.slice none 0 0) ((w.alloc (.cells #[.slice none 0 0,.slice none 0 0,.slice none 0 0,.slice none 0 0] 30)).alloc (.cells #[.slice none 0 0,.slice none 0 0,.slice none 0 0,.slice none 0 0] 30)):=
  ⟨Nat.zero_le _,rfl,rfl,World.ownsRow_nil _ _ _ _,bJ _ _ _,bE _ _ _,((aL _ _).alloc (aC _) _).alloc (by simp) _⟩
 go_cut[7] (fun _ wx=>∃acc vc,Ib w l l.length acc vc wx)
 case first=>
  go_wp2
  go_loopw[7] (fun vk wr=>∃ (k:Nat) (acc:List Ct) (vc:Value),vk= .int .i64 k∧Ib w l k acc vc wr) (fun vk _=>l.length-(intOf vk).toNat)
  case atStart=>exact⟨0,[],_,rfl,hst⟩
  case round=>
   clear hst
   obtain⟨k,acc,vc,rfl,hN⟩:=hrel
   rcases Nat.lt_or_ge k l.length with hlt | hge
   ·obtain⟨b,off,rfl,hbl,c0,c1,c2,c3,c4,c5,c6⟩:=h.ct hN.aZ (aC _) k hlt
    have HM:=ah (HKEY.out l[k] (List.getElem_mem hlt))
    have EA:=ah (zP acc l k hlt)
    have HIS:=ah (Co acc l k hlt)
    have pY:=ah (wL acc l k hlt)
    have BI:=ah (vP (c:=l[k]))
    have iG:(k:Int)<l.length:=by omega
    have hz:=hN.aZ.size
    have lX:w.heap.size+1<wr.heap.size:=(bg hN.k2).1
    have HN:=ah hN
    obtain⟨d0,d1,d2,d3,_⟩:=ay hN.k1
    have f0:=aA hN.k1 0
    have f1:=aA hN.k1 1
    have f2:=aA hN.k1 2
    have f3:=aA hN.k1 3
    clear hN
    have Od:=ah (fun W (hW:Below wr.heap.size wr W)=>h.ct (HN.out.aZ.trans (hW.mono HN.out.aZ.size)) (aC _) k hlt)
    generalize l[k]=c at*
    have Cx:=ah (fun W=>JM c W)
    obtain⟨r1,r2,r3,r4,r5,r6,r7⟩:=c
    simp only at c0 c1 c2 c3 c4 c5 c6
    clear d0 d1 d2 d3 f0 f1 f2 f3
    go_wp2_with fail
    obtain⟨mb,hmb⟩:∃mb,mE ⟨r1,r2,r3,r4,r5,r6,r7⟩=mb:=⟨_,rfl⟩
    have hmay:=Cx.out wr
    rw[hmb]at hmay EA HIS pY BI
    refine hmay.mono ?_
    rintro e w3 ⟨rfl,hb3⟩
    have HB3:=ah hb3
    have hz3:=hb3.size
    clear hmay hmb Cx hb3 c0 c1 c2 c3 c4 c5 c6
    cases mb with
    | false=>
     have HS:Hid (newS l ids=(⟨[],[],[],[]⟩,1)):=J7.out 1 (by rw[HN.out.go,EA.out (by first | rfl | trivial)]) (by omega)
     obtain⟨d0,d1,d2,d3,_⟩:=ay (aj HN.out.k1 HB3.out (by omega))
     have f0:=aA (aj HN.out.k1 HB3.out (by omega)) 0
     have f1:=aA (aj HN.out.k1 HB3.out (by omega)) 1
     have f2:=aA (aj HN.out.k1 HB3.out (by omega)) 2
     have f3:=aA (aj HN.out.k1 HB3.out (by omega)) 3
     have hbw:=HN.out.aZ.trans (HB3.out.mono HN.out.aZ.size)
     go_wp2
     refine bodyPost_ret (v:=.tuple #[.agg #[.slice none 0 0,.slice none 0 0,.slice none 0 0,.slice none 0 0],.int .i64 1]) (by simp[results,Tryz.results22,go_sem, *]) rfl ⟨⟨⟨none,0,0⟩,⟨none,0,0⟩,⟨none,0,0⟩,⟨none,0,0⟩⟩,by rw[HS.out],by rw[HS.out];exact jA _,?_⟩
     exact(((hbw.setCell (aC _) _).setCell (aC _) _).setCell (aC _) _).setCell (aC _) _
    | true=>
     obtain⟨b1,b2,b3,b4⟩:=BI.out (by first | rfl | trivial)
     obtain⟨Jw,vD,rfl,_,_⟩:=aP HN.out.row
     have HE2:=ah (aj HN.out.k2 HB3.out lX)
     go_upto_region 9 with fail
     have hr0:Below w3.heap.size w3 w3:=aL _ _
     have Pt:Hid (∀W,Below w3.heap.size w3 W→Calls Tryz.prog 50 #[.agg #[.slice Jw acc.length vD,.slice none 0 0,.slice none 0 0,.slice none 0 0],.string r1] W fun e w'=>e= .returned (.int .i64 (bH acc r1))∧Below w3.heap.size w3 w'):=
      ah (fun W hW=>(mR ⟨⟨Jw,acc.length,vD⟩,⟨none,0,0⟩,⟨none,0,0⟩,⟨none,0,0⟩⟩ acc r1 W (aI (aJ (aJ HN.out.row HB3.out (aC _)) hW (aC _)))).mono (fun _ _ ⟨he,hb⟩=>⟨he,hW.trans (hb.mono hW.size)⟩))
     have KS:Hid (∀W,Below w3.heap.size w3 W→(Below w3.heap.size w3 W∧W.cell? ⟨w.heap.size+1,0,none⟩=some (.slice Jw acc.length vD)∧W.cell? ⟨w.heap.size+1,1,none⟩=some (.slice none 0 0)∧W.cell? ⟨w.heap.size+1,2,none⟩=some (.slice none 0 0)∧W.cell? ⟨w.heap.size+1,3,none⟩=some (.slice none 0 0)∧W.cell? ⟨b,off+k*7,none⟩=some (.string r1))):=
      ah (fun W hW=>by
       obtain⟨e0,e1,e2,e3,_⟩:=ay (aj HE2.out hW (by omega))
       obtain⟨bb,oo,F8,aat,c0,-⟩:=Od.out W (HB3.out.trans (hW.mono hz3))
       injection F8 with F8
       injection F8 with Rp Ru
       subst Rp Ru
       exact⟨hW,e0,e1,e2,e3,c0⟩)
     go_cut[34] (fun v34 wx=>v34= .bool (decide (0≤bH acc r1))∧Below w3.heap.size w3 wx)
     case first=>
      go_region_held3 (fun w'=>Below w3.heap.size w3 w'∧w'.cell? ⟨w.heap.size+1,0,none⟩=some (.slice Jw acc.length vD)∧w'.cell? ⟨w.heap.size+1,1,none⟩=some (.slice none 0 0)∧w'.cell? ⟨w.heap.size+1,2,none⟩=some (.slice none 0 0)∧w'.cell? ⟨w.heap.size+1,3,none⟩=some (.slice none 0 0)∧w'.cell? ⟨b,off+k*7,none⟩=some (.string r1))
       (first | assumption | exact KS.out _ (by assumption) | exact KS.out _ hr0.drew)
       ((go_at_call 50;(with_reducible refine(Pt.out _ (by go_split_ands;assumption)).mono ?_);rintro en w9 ⟨rfl,lN⟩))
      all_goals
       go_wp2
       go_meet
       exact⟨by rfl,by first | assumption | exact hr0.drew⟩
     case rest=>
     obtain⟨rfl,hb4⟩:=hcut
     clear Pt KS hr0 HE2
     have jd:=ah hb4
     have ko:=ah (HB3.out.trans (hb4.mono hz3))
     have jT:=ko.out.size
     obtain⟨bb,oo,F8,aat,c0,c1,c2,c3,c4,c5,c6⟩:=Od.out wc ko.out
     injection F8 with F8
     injection F8 with Rp Ru
     subst Rp Ru
     clear hb4
     by_cases hix:0≤bH acc r1
     ·have HS:Hid (newS l ids=(⟨[],[],[],[]⟩,7)):=J7.out 7 (by rw[HN.out.go,HIS.out (by first | rfl | trivial) hix]) (by omega)
      obtain⟨d0,d1,d2,d3,_⟩:=ay (aj HN.out.k1 ko.out (by omega))
      have f0:=aA (aj HN.out.k1 ko.out (by omega)) 0
      have f1:=aA (aj HN.out.k1 ko.out (by omega)) 1
      have f2:=aA (aj HN.out.k1 ko.out (by omega)) 2
      have f3:=aA (aj HN.out.k1 ko.out (by omega)) 3
      have hbw:=HN.out.aZ.trans (ko.out.mono HN.out.aZ.size)
      have Tx:decide (0≤bH acc r1)=true:=by simpa using hix
      rw[Tx]
      clear hix Tx
      go_wp2
      refine bodyPost_ret (v:=.tuple #[.agg #[.slice none 0 0,.slice none 0 0,.slice none 0 0,.slice none 0 0],.int .i64 7]) (by simp[results,Tryz.results22,go_sem, *]) rfl ⟨⟨⟨none,0,0⟩,⟨none,0,0⟩,⟨none,0,0⟩,⟨none,0,0⟩⟩,by rw[HS.out],by rw[HS.out];exact jA _,?_⟩
      exact(((hbw.setCell (aC _) _).setCell (aC _) _).setCell (aC _) _).setCell (aC _) _
     ·have Tx:decide (0≤bH acc r1)=false:=by simpa using hix
      rw[Tx]
      have EB:=ah (pY.out (by first | rfl | trivial) (by omega))
      have J_:=ah (aJ HN.out.row ko.out (aC _))
      obtain⟨e0,e1,e2,e3,_⟩:=ay (aj HN.out.k2 ko.out lX)
      have vE:Hid (∀ (W:World) (B:Nat),W.heap.size=B→Rd (W.alloc (.cells #[.string r1,.int .i64 r2,.int .i64 r3,.int .i64 r4,.int .i64 r5,.int .i64 (r4-r5),.int .i64 (r5-r3)] 54)) (some ⟨B,0,none⟩) (aK jE [fill ⟨r1,r2,r3,r4,r5,r6,r7⟩])):=fun W B hW=>tO W _ hW [.string r1,.int .i64 r2,.int .i64 r3,.int .i64 r4,.int .i64 r5,.int .i64 (r4-r5),.int .i64 (r5-r3)] _
      have hk3:acc.length<4:=by have:=HN.out.len;omega
      have Pv:w.heap.size+1<wc.heap.size:=by omega
      clear pY HIS EA hix Tx
      go_wp2_with ((with_reducible refine aY 56 ?_);refine kU rfl _ _ rfl (w.heap.size+2) _ acc.length acc rfl ((J_.out.alloc _).alloc _) _ 1 1 [fill ⟨r1,r2,r3,r4,r5,r6,r7⟩] rfl rfl (vE.out _ _ (by simp)) (by omega) (by simp;omega) ?_)
      intro v6 w6 qO D8 Ic
      have hbW:Below w.heap.size w ((wc.alloc (.cells #[.string r1,.int .i64 r2,.int .i64 r3,.int .i64 r4,.int .i64 r5,.int .i64 (r4-r5),.int .i64 (r5-r3)] 54)).alloc (.cells #[.string r1,.int .i64 r2,.int .i64 r3,.int .i64 r4,.int .i64 r5,.int .i64 (r4-r5),.int .i64 (r5-r3)] 54)):=
       ((HN.out.aZ.trans (ko.out.mono HN.out.aZ.size)).alloc (Nat.le_trans hz jT) _).alloc (by simp;omega) _
      have hb6:Below w.heap.size w w6:=hbW.grown D8 (by simp;omega) (fun g hg=>by have:=bK HN.out.row g hg;omega)
      have hk1:=(gQ D8 (b:=w.heap.size) (B:=w.heap.size+2) (by simp;omega) (by omega) (bK HN.out.row)).trans ((Below.heap_alloc _ _ _ (by simp;omega)).trans ((Below.heap_alloc _ _ _ (by omega)).trans (aj HN.out.k1 ko.out (by omega))))
      have hk2:=(gQ D8 (b:=w.heap.size+1) (B:=w.heap.size+2) (by simp;omega) (by omega) (bK HN.out.row)).trans ((Below.heap_alloc _ _ _ (by simp;omega)).trans ((Below.heap_alloc _ _ _ (by omega)).trans (aj HN.out.k2 ko.out lX)))
      obtain⟨F7,cap6,rfl,_,_⟩:=aP qO
      obtain⟨g0,g1,g2,g3,_⟩:=ay hk2
      have g0f:=aA hk2 0
      have gF:=ah hk1
      have fJ:=ah hk2
      have wP:=ah qO
      clear hk1 hk2 qO D8 Ic hbW e0 e1 e2 e3 c0 c1 c2 c3 c4 c5 c6
      go_wp2
      go_roundw
      case rel=>
       refine⟨k+1,acc++ [fill ⟨r1,r2,r3,r4,r5,r6,r7⟩],.slice F7 (acc.length+1) cap6,by go_num,⟨by omega,by rw[HN.out.go,EB.out],by rw[List.length_append,HN.out.len];rfl,?_,?_,?_,?_⟩⟩
       ·rw[List.length_append];exact aM wP.out _ (by simp) _
       ·rw[aW _ _ _ (by simp)];exact gF.out
       ·exact lu fJ.out _
       ·exact hb6.setCell (by simp) _
      case measure=>simp[intOf];omega
   ·have hk:k=l.length:=by have:=hN.le;omega
    subst hk
    have HN:=ah hN
    clear hN
    go_wp2
    go_meet
    exact⟨acc,vc,HN.out⟩
 case rest=>
 obtain⟨acc,vc,hN⟩:=hcut
 have sQ:Hid (jI [] l=(0,acc)):=by show _=_;rw[hN.go,zQ _ _ _ (aC _)]
 have hlen:acc.length≤4:=by rw[hN.len];exact h4
 have hz:=hN.aZ.size
 have lX:w.heap.size+1<wc.heap.size:=(bg hN.k2).1
 have HN:=ah hN
 clear hN hst g4 g4'
 by_cases hi:0≤ids∧ids≤1000
 ·obtain⟨hi0,hi1⟩:=hi
  have HS:Hid (newS l ids=(⟨acc,gG [] (0,ids),[],[]⟩,0)):=by show _=_;unfold newS;rw[if_neg (by omega),sQ.out,if_neg (by simp),if_pos ⟨hi0,hi1⟩]
  obtain⟨Jw,vD,rfl,_,_⟩:=aP HN.out.row
  obtain⟨e0,e1,e2,e3,_⟩:=ay HN.out.k2
  have Uy:=aA HN.out.k2 1
  go_wp2_with fail
  refine(E_ ids _ hi0 hi1).mono ?_
  rintro e w1 ⟨v1,rfl,ho1,hb1⟩
  have hz1:=hb1.size
  have hk2:=aj HN.out.k2 hb1 lX
  have hrow:=aJ HN.out.row hb1 (aC _)
  have hbw:=HN.out.aZ.trans (hb1.mono HN.out.aZ.size)
  obtain⟨Ay,yK,rfl,_,_⟩:=aP ho1
  clear e0 e1 e2 e3 Uy
  obtain⟨e0,e1,e2,e3,_⟩:=ay hk2
  have Uy:=aA hk2 1
  have hk1:=aj HN.out.k1 hb1 (by omega)
  obtain⟨d0,d1,d2,d3,_⟩:=ay hk1
  have f0:=aA hk1 0
  have f1:=aA hk1 1
  have f2:=aA hk1 2
  have f3:=aA hk1 3
  have HRW:=ah hrow
  have HO1:=ah ho1
  have hq:w.heap.size<w.heap.size+2:=by omega
  have hq2:w.heap.size+1<w.heap.size+2:=by omega
  have hq3:w.heap.size<wc.heap.size:=by omega
  have hq4:w.heap.size+1<wc.heap.size:=by omega
  clear hk1 hk2 hrow ho1 hb1
  go_wp2
  refine bodyPost_ret (v:=.tuple #[.agg #[.slice Jw acc.length vD,.slice Ay (gG [] (0,ids)).length yK,.slice none 0 0,.slice none 0 0],.int .i64 0]) (by simp[results,Tryz.results22,go_sem, *]) rfl (show qA _ _ _ _ from ?_)
  refine⟨⟨⟨Jw,acc.length,vD⟩,⟨Ay,(gG [] (0,ids)).length,yK⟩,⟨none,0,0⟩,⟨none,0,0⟩⟩,by rw[HS.out],?_,?_⟩
  ·rw[HS.out]
   exact⟨aI (aM (aM (aM (aM (aM HRW.out _ hq2 _) _ hq _) _ hq _) _ hq _) _ hq _),aI (aM (aM (aM (aM (aM HO1.out _ hq4 _) _ hq3 _) _ hq3 _) _ hq3 _) _ hq3 _),⟨[],cK.nil _ _ _,trivial⟩,Sl.nil _ _⟩
  ·exact((((hbw.setCell (by simp) _).setCell (aC _) _).setCell (aC _) _).setCell (aC _) _).setCell (aC _) _
 ·have HS:Hid (newS l ids=(⟨[],[],[],[]⟩,1)):=by show _=_;unfold newS;rw[if_neg (by omega),sQ.out,if_neg (by simp),if_neg hi]
  have hd:ids<0∨1000<ids:=by omega
  obtain⟨d0,d1,d2,d3,_⟩:=ay HN.out.k1
  have f0:=aA HN.out.k1 0
  have f1:=aA HN.out.k1 1
  have f2:=aA HN.out.k1 2
  have f3:=aA HN.out.k1 3
  have hbw:=HN.out.aZ
  clear hi
  rcases hd with hd | hd
  all_goals
   go_wp2
   refine bodyPost_ret (v:=.tuple #[.agg #[.slice none 0 0,.slice none 0 0,.slice none 0 0,.slice none 0 0],.int .i64 1]) (by simp[results,Tryz.results22,go_sem, *]) rfl ⟨⟨⟨none,0,0⟩,⟨none,0,0⟩,⟨none,0,0⟩,⟨none,0,0⟩⟩,by rw[HS.out],by rw[HS.out];exact jA _,?_⟩
   exact(((hbw.setCell (aC _) _).setCell (aC _) _).setCell (aC _) _).setCell (aC _) _
end Go.Proofs.YtlfopoimbbpfdaaGreat
