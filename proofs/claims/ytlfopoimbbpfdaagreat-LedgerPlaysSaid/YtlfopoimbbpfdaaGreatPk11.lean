/- What the law asks, in parts: LIn0 LIn. -/
import Derived.Lib.AppendZerosOnto
import Derived.Lib.Overlaps
import Derived.StillTailTactics
import Derived.IntWalk
import Derived.Test.YtlfopoimbbpfdaaGreatPk1
import Derived.Test.YtlfopoimbbpfdaaGreatPk4
import Derived.Test.YtlfopoimbbpfdaaGreatPk3
set_option linter.all false
namespace Go.Proofs.YtlfopoimbbpfdaaGreat
open Go.RowKit
theorem eG {P:Program} {w:World} {ops:Array Oper} {rest:List Oper} {o:Oper} {a:Act} {Q:Exit→Act→World→Prop} (hgd:o.guard=none) (d s:Operand) (t t':TypeId)
  (ho:o.op= .call { callee:=.builtin .copy,args:= #[d,s],argTypes:= #[t,t'] }) (v u:Value) (hd:a.eval d=v) (hs:a.eval s=u) {v':Value} {w':World}
  (hr:(Builtin.copy_ #[t,t'] o.type #[v,u]).run P w= .ok v' w') (h:wpList P ops Q rest (a.put o.dst v') w'):wpList P ops Q (o::rest) a w:=by
 refine wpList_plain hgd fun K hK=>?_
 unfold Oper.wp
 simp[execOp,ho,resolve,invoke,builtin,hd,hs,hr,Result.andThen]
 exact hK _ _ h
theorem jL {P:Program} {w:World} {ops:Array Oper} {rest:List Oper} {o:Oper} {a:Act} {Q:Exit→Act→World→Prop} (hgd:o.guard=none) (d s:Operand) (t t':TypeId)
  (ho:o.op= .call { callee:=.builtin .append,args:= #[d,s],argTypes:= #[t,t'] }) (v u:Value) (hd:a.eval d=v) (hs:a.eval s=u) {v':Value} {w':World}
  (hr:(Builtin.append_ #[t,t'] o.type #[v,u]).run P w= .ok v' w') (h:wpList P ops Q rest (a.put o.dst v') w'):wpList P ops Q (o::rest) a w:=by
 refine wpList_plain hgd fun K hK=>?_
 unfold Oper.wp
 simp[execOp,ho,resolve,invoke,builtin,hd,hs,hr,Result.andThen]
 exact hK _ _ h
theorem gD {P:Program} (w:World) (dT sT ty e:TypeId) (i:TypeInfo) (E:Nat) (hu:P.underlying dT=some (.slice e)) (hi:P.info? e=some i) (hsz:i.size=E)
  (base g n cap:Nat) (xs:List Value) (hown:w.ownsRow base e E (.slice (some ⟨g,0,none⟩) n cap) n xs)
  (of k dLen dCap sLen sCap:Nat) (ao:Option Addr) (cs:List Value) (hk:Nat.min sLen dLen=k) (hle:of+k≤n) (hcs:cs.length=k*E) (hrd:Rd w ao cs) (h1:∀v∈cs,v.oneCell'=true):
  ∃w',(Builtin.copy_ #[dT,sT] ty #[.slice (some ⟨g,of*E,none⟩) dLen dCap,.slice ao sLen sCap]).run P w= .ok (goInt k) w'∧
   w'.ownsRow base e E (.slice (some ⟨g,0,none⟩) n cap) n (xs.take (of*E)++cs++xs.drop (of*E+k*E))∧w.grownBy w' (some g):=by
 obtain⟨h0,hv⟩:=hown
 rcases hv with⟨hv,_⟩ | ⟨g',cap',cur,hv,hbg,hg,hnc,hcm,hcz,htake⟩
 ·cases hv
 injection hv with hv _ hv3
 injection hv with hv
 injection hv with hv _ _
 subst hv hv3
 have hle2:of*E+k*E≤n*E:=by rw[←Nat.add_mul];exact Nat.mul_le_mul_right _ hle
 have hle3:n*E≤cap*E:=Nat.mul_le_mul_right _ hnc
 have hrun:=pV (P:=P) w dT sT ty e i g (of*E) dLen dCap ao sLen sCap cur e cs hu hi hg (by rw[hk,hsz];exact hcs)
  (fun j v hj=>hrd j v hj) (by rw[hcs,hcz];omega) h1
 rw[hk]at hrun
 have hlen:(xs.take (of*E)++cs++xs.drop (of*E+k*E)).length=n*E:=by simp only[List.length_append,List.length_take,List.length_drop,hcs,h0];omega
 refine⟨_,hrun,⟨hlen,.inr ⟨g,cap,_,rfl,hbg,setRow_heap w g cur _ e _ hg,hnc,hcm,?_,?_⟩⟩,⟨rfl,rfl,rfl,by simp[World.setRow],fun k hk hne=>setRow_other w g k _ (fun h=>hne (by rw[h]))⟩⟩
 ·rw[List.size_toArray];simp only[List.length_append,List.length_take,List.length_drop,hcs,Array.length_toList,hcz];omega
 ·have hc2:cur.toList=xs++cur.toList.drop (n*E):=by rw[←htake,List.take_append_drop]
  have:=uD xs (cur.toList.drop (n*E)) cs (of*E) (k*E) hcs (by omega)
  rw[←hc2,h0]at this
  rw[hcs,←this]
theorem rM {w:World} {base:Nat} {e:TypeId} {E g n cap:Nat} {xs:List Value} (h:w.ownsRow base e E (.slice (some ⟨g,0,none⟩) n cap) n xs) (hc:n+1≤cap):
  ∃junk:List Value,junk.length=E∧w.ownsRow base e E (.slice (some ⟨g,0,none⟩) (n+1) cap) (n+1) (xs++junk):=by
 obtain⟨h0,hv⟩:=h
 rcases hv with⟨hv,_⟩ | ⟨g',cap',cur,hv,hbg,hg,hnc,hcm,hcz,htake⟩
 ·cases hv
 injection hv with hv _ hv3
 injection hv with hv
 injection hv with hv _ _
 subst hv hv3
 have hle:(n+1)*E≤cap*E:=Nat.mul_le_mul_right _ hc
 have e1:(n+1)*E=n*E+E:=by rw[Nat.add_mul];omega
 have hl:cur.toList.length=cap*E:=by rw[Array.length_toList,hcz]
 have hj:((cur.toList.drop (n*E)).take E).length=E:=by rw[List.length_take,List.length_drop,hl];omega
 have hx:cur.toList.take ((n+1)*E)=xs++(cur.toList.drop (n*E)).take E:=by
  rw[e1,List.take_add,htake]
 refine⟨(cur.toList.drop (n*E)).take E,hj,⟨by rw[List.length_append,h0,hj,e1],.inr ⟨g,cap,cur,rfl,hbg,hg,hc,hcm,hcz,hx⟩⟩⟩
theorem nX {P:Program} (w:World) (t tn ty e:TypeId) (i:TypeInfo) (z:Value) (E bytes:Nat) (ht:P.underlying t=some (.slice e)) (htn:P.underlying tn=some (.int .i64)) (hi:P.info? e=some i) (hz:i.zero=some z) (hsz:i.size=E) (hby:i.bytes=bytes) (hzs:z.cells.size=E) (hE:0<E)
  (ad:Addr) (n cap k:Nat) (olds:List Value) (hol:olds.length=n*E) (hrd:∀j u,olds[j]? =some u→w.cell? (ad.add j)=some u) (hk:0<k) (hroom:cap<n+k) (hn:n+k≤1000000) (hb:bytes≤1000) (_hnc:n≤cap):
  ∃ (C:Nat) (w':World) (zs:List Value),(Builtin.append_ #[t,tn] ty #[.slice (some ad) n cap,.int .i64 k]).run P w= .ok (.slice (some ⟨w.heap.size,0,none⟩) (n+k) C) w'∧zs.length=k*E∧
   w'.ownsRow w.heap.size e E (.slice (some ⟨w.heap.size,0,none⟩) (n+k) C) (n+k) (olds++zs)∧Below w.heap.size w w':=by
 have hold:(Builtin.firstCells i.size n (.slice (some ad) n cap)).run P w.drew= .ok olds.toArray w.drew:=by
  have:=run_loadCells_list (P:=P) w.drew ad olds (fun j v hj=>hrd j v hj)
  rw[hsz]
  simp only[Builtin.firstCells,←hol,this]
 have hbig:(n+k)*i.bytes≤140737488355328:=by
  rw[hby]
  have:(n+k)*bytes≤1000000*1000:=Nat.mul_le_mul hn hb
  omega
 have h48:k*i.bytes≤281474976710656:=by
  have:k*i.bytes≤(n+k)*i.bytes:=Nat.mul_le_mul_right _ (by omega)
  omega
 have hr:=Lib.run_append_grow_zeros (P:=P) w t tn ty e i z .i64 .i64 ht htn hi hz (some ad) n cap olds hold k hk (by omega) hroom (by omega) h48 (growslice_fits hroom hbig)
 have hC:=grownCap_ge w (n+k) cap e
 have hC2:=grownCap_le_maxLen w (n+k) cap e (by unfold maxLen;omega)
 generalize grownCap w (n+k) cap e=C at*
 have hzl:(Builtin.zeroCells z.cells k).toList.length=k*E:=by simp[Builtin.zeroCells,hzs]
 have Zx:(Builtin.zeroCells z.cells (C-(n+k))).toList.length=(C-(n+k))*E:=by simp[Builtin.zeroCells,hzs]
 have hlen:(olds++(Builtin.zeroCells z.cells k).toList).length=(n+k)*E:=by rw[List.length_append,hol,hzl,Nat.add_mul]
 have hnew:((w.drew).alloc (.cells (olds.toArray++Builtin.zeroCells z.cells k++Builtin.zeroCells z.cells (C-(n+k))) e)).heap[w.heap.size]? =some (.cells (olds.toArray++Builtin.zeroCells z.cells k++Builtin.zeroCells z.cells (C-(n+k))) e (0,0)):=heap_alloc_new w.drew _
 refine⟨C,_,(Builtin.zeroCells z.cells k).toList,hr,hzl,⟨hlen,.inr ⟨w.heap.size,C,_,rfl,aC _,hnew,hC,hC2,?_,?_⟩⟩,(aL _ _).drew.alloc (aC _) _⟩
 ·have h1:(olds.toArray++Builtin.zeroCells z.cells k++Builtin.zeroCells z.cells (C-(n+k))).toList.length=C*E:=by
   simp only[Array.toList_append]
   rw[List.length_append,hlen,Zx,←Nat.add_mul]
   congr 1
   omega
  simpa using h1
 ·simp only[Array.toList_append]
  rw[List.take_append_of_le_length (by rw[hlen];exact aC _),←hlen,List.take_length]
end Go.Proofs.YtlfopoimbbpfdaaGreat
namespace Go.Proofs.YtlfopoimbbpfdaaGreat
open Go.RowKit
def oQ (w:World) (B:Nat) (v:Value) (E e n:Nat) (cs:List Value) (en:Ending) (w':World):Prop:=
 ∃v',en= .returned v'∧w'.ownsRow B e E v' n cs∧w.grownBy w' v.ownBlock∧(v'.ownBlock=v.ownBlock∨ ∃g,v'.ownBlock=some g∧w.heap.size≤g)
theorem CP {w:World} {base:Nat} {e:TypeId} {E g n cap:Nat} {xs:List Value} (h:w.ownsRow base e E (.slice (some ⟨g,0,none⟩) n cap) n xs):∃cur:List Value,w.heap[g]? =some (.cells cur.toArray e (0,0)):=by
 obtain⟨_,hv⟩:=h
 rcases hv with⟨hv,_⟩ | ⟨q,cp,cur,hv,_,hh,_⟩
 ·cases hv
 ·injection hv with hv
  injection hv with hv
  injection hv with hv
  subst hv
  exact⟨cur.toList,by simpa using hh⟩
theorem je {w:World} {b:Nat} {cs:List Value} {t:TypeId} (h:w.heap[b]? =some (.cells cs.toArray t (0,0))):Rd w (some ⟨b,0,none⟩) cs:=fun j u hu=>
 ⟨_,rfl,by rw[Addr.add_lit,Nat.zero_add];simp[World.cell?,h];simpa using hu⟩
set_option maxRecDepth 100000 in
set_option maxHeartbeats 4000000 in
theorem AO (v:Value) (n:Nat) (xs ys:List Value) (w:World) (B yb:Nat) (hown:w.ownsRow B 48 7 v n xs) (wZ:∀u∈ys,u.oneCell'=true) (hyl:ys.length=7) (hn:n<100000) (hB:B≤w.heap.size)
  (hy:w.heap[yb]? =some (.cells ys.toArray 48 (0,0))):
  Calls Tryz.prog 74 #[v,.int .i64 n,.slice (some ⟨yb,0,none⟩) 1 1] w (oQ w B v 7 48 (n+1) (xs++ys)):=by
 obtain⟨inf,eX,hz0,hz1,hz2⟩:=info_parts Tryz.oL
 have vE:=ah (je hy)
 obtain⟨ao,cap,rfl,hnc,hcm⟩:=aP hown
 have HY:=ah hy
 clear hy
 by_cases hc:cap=n
 all_goals
  go_enter Tryz.func74,Tryz.ntmps74
  go_wp2_with ((with_reducible refine aY 25 ?_);refine b_ rfl _ _ 27 rfl B 48 inf _ 7 104 Tryz.underlying27 eX hz0 hz1 hz2 rfl (by decide) _ n xs rfl hown (some ⟨yb,0,none⟩) 1 1 ys rfl (by omega) vE.out wZ (by unfold maxLen;omega) (by omega) hB ?_;intro v3 w3 ho3 hg3 j_)
  go_ret
  exact⟨v3,rfl,ho3,hg3,j_.imp id (fun h=>⟨_,h,aC _⟩)⟩
set_option maxRecDepth 100000 in
set_option maxHeartbeats 8000000 in
theorem yO (n i:Nat) (xs ys:List Value) (w:World) (B yb g c:Nat) (hown:w.ownsRow B 48 7 (.slice (some ⟨g,0,none⟩) n c) n xs) (hroom:c<n+1) (h1x:∀u∈xs,u.oneCell'=true) (wZ:∀u∈ys,u.oneCell'=true) (hyl:ys.length=7) (hn:n<100000) (hB:B≤w.heap.size) (hi:i<n)
  (hy:w.heap[yb]? =some (.cells ys.toArray 48 (0,0))):
  Calls Tryz.prog 74 #[.slice (some ⟨g,0,none⟩) n c,.int .i64 i,.slice (some ⟨yb,0,none⟩) 1 1] w (oQ w B (.slice (some ⟨g,0,none⟩) n c) 7 48 (n+1) (xs.take (i*7)++ys++xs.drop (i*7))):=by
 obtain⟨inf,eX,hz0,hz1,hz2⟩:=info_parts Tryz.oL
 obtain⟨p1,p2,p3,p4,p5,p6,p7⟩:=bq hown
 have hol:(xs.take (i*7)).length=i*7:=by rw[List.length_take];omega
 obtain⟨C,w1,zs,hr,hzl,ho1,hb1⟩:=nX (P:= Tryz.prog) w 27 3 27 48 inf _ 7 104 Tryz.underlying27 Tryz.underlying3 eX hz0 hz1 hz2 rfl (by decide) ⟨g,0,none⟩ i c (n+1-i) (xs.take (i*7)) hol
  (fun j u hu=>by
   rw[Addr.add_lit,Nat.zero_add]
   rw[List.getElem?_take]at hu
   split at hu
   ·exact p7 j u hu
   ·cases hu) (by omega) (by omega) (by omega) (by omega) (by omega)
 rw[show i+(n+1-i)=n+1 by omega]at hr ho1
 rw[show ((n+1-i:Nat):Int)=(n:Int)+1-i by omega]at hr
 have hC:=(bq ho1).2.2.1
 have hC2:=(bq ho1).2.2.2.1
 have hy1:=aj hy hb1 (bg hy).1
 have xq:Hid (Rd w1 (some ⟨g,i*7,none⟩) (xs.drop (i*7))):=by
  refine ah ?_
  have h0:Rd w1 (some ⟨g,0,none⟩) xs:=fun j u hu=>⟨_,rfl,by rw[Addr.add_lit,Nat.zero_add,hb1.cell (p:=⟨g,j,none⟩) p2];exact p7 j u hu⟩
  have:=h0.qQ (i*7)
  rw[Nat.zero_add]at this
  exact this
 have hl1:=(bq ho1).2.2.2.2.1
 obtain⟨w2,hr2,ho2,hg2⟩:=gD (P:= Tryz.prog) w1 27 27 3 48 inf 7 Tryz.underlying27 eX hz1 _ _ _ _ _ ho1 i 1 (n+1-i) (C-i) 1 1 (some ⟨yb,0,none⟩) ys (Nat.min_eq_left (by omega)) (by omega) (by omega) (je hy1) wZ
 have hgl:g<w2.heap.size:=Nat.lt_of_lt_of_le p2 (Nat.le_trans hb1.size hg2.size)
 have Kt:Hid (Rd w2.drew (some ⟨g,i*7,none⟩) (xs.drop (i*7))):=ah (fun j u hu=>by
  obtain⟨a,ha,hc⟩:=xq.out j u hu
  refine⟨a,ha,?_⟩
  injection ha with ha
  subst ha
  rw[Addr.add_lit]at hc⊢
  have:=hg2.block g (Nat.lt_of_lt_of_le p2 hb1.size) (fun e=>by injection e with e;omega)
  show w2.cell? _=_
  rw[World.cell?,this]
  exact hc)
 have Ku:w2.drew.ownsRow w.heap.size 48 7 (.slice (some ⟨w.heap.size,0,none⟩) (n+1) C) (n+1) ((xs.take (i*7)++zs).take (i*7)++ys++(xs.take (i*7)++zs).drop (i*7+1*7)):=ho2
 obtain⟨w3,hr3,ho3,hg3⟩:=gD (P:= Tryz.prog) w2.drew 27 27 3 48 inf 7 Tryz.underlying27 eX hz1 _ _ _ _ _ Ku (i+1) (n-i) (n-i) (C-(i+1)) (n-i) (c-i) (some ⟨g,i*7,none⟩) (xs.drop (i*7)) (Nat.min_self _) (by omega) (by rw[List.length_drop,p5,←Nat.sub_mul]) Kt.out (fun u hu=>h1x u (List.mem_of_mem_drop hu))
 have hres:((xs.take (i*7)++zs).take (i*7)++ys++(xs.take (i*7)++zs).drop (i*7+1*7)).take ((i+1)*7)++xs.drop (i*7)++((xs.take (i*7)++zs).take (i*7)++ys++(xs.take (i*7)++zs).drop (i*7+1*7)).drop ((i+1)*7+(n-i)*7)=xs.take (i*7)++ys++xs.drop (i*7):=by
  have e1:(xs.take (i*7)++zs).take (i*7)=xs.take (i*7):=List.take_left' hol
  have e2:(xs.take (i*7)++ys).length=(i+1)*7:=by rw[List.length_append,hol,hyl,Nat.add_mul]
  have e3:((i+1)*7+(n-i)*7)=(n+1)*7:=by rw[←Nat.add_mul];congr 1;omega
  have e4:(xs.take (i*7)++ys++(xs.take (i*7)++zs).drop (i*7+1*7)).drop ((n+1)*7)= []:=List.drop_of_length_le (by
   rw[List.length_append,e2,List.length_drop,List.length_append,hol,hzl]
   have h9:(n+1-i)*7+i*7=(n+1)*7:=by rw[←Nat.add_mul];congr 1;omega
   have h8:(i+1)*7=i*7+1*7:=Nat.add_mul _ _ _
   omega)
  rw[e1,List.take_left' e2,e3,e4,List.append_nil]
 rw[hres]at ho3
 have iy:=ah ho3
 have tX:Hid (w.grownBy w3 (some g)):=ah (by
  have a1:w.grownBy w1 (some g):=⟨hb1.os,hb1.tape,hb1.output,hb1.size,fun k hk _=>hb1.block k hk⟩
  have a2:w.grownBy w2 (some g):=⟨hg2.os.trans a1.os,hg2.tape.trans a1.tape,hg2.output.trans a1.output,Nat.le_trans a1.size hg2.size,fun k hk hne=>(hg2.block k (Nat.lt_of_lt_of_le hk hb1.size) (fun e=>by injection e with e;omega)).trans (a1.block k hk hne)⟩
  exact⟨hg3.os.trans a2.os,hg3.tape.trans a2.tape,hg3.output.trans a2.output,Nat.le_trans a2.size hg3.size,fun k hk hne=>(hg3.block k (Nat.lt_of_lt_of_le hk (Nat.le_trans hb1.size hg2.size)) (fun e=>by injection e with e;omega)).trans (a2.block k hk hne)⟩)
 have q1:¬ (c=i):=by omega
 have Zy:((i:Int)==(n:Int))=false:=by rw[beq_eq_false_iff_ne];omega
 have Zz:(c:Int)<(n:Int)+1:=by omega
 have q2:¬ (C=i):=by omega
 have q3:¬ (C=i+1):=by omega
 have q4:(i:Int)<n:=by omega
 have q5:(n:Int)<100000:=by omega
 obtain⟨ZA,CQ,jM⟩:=dW (P:= Tryz.prog) 27 48 inf 7 Tryz.underlying27 eX hz1 w.heap.size 0 (n+1) C (i+1) ((i:Int)+1) (by omega) (by omega) hC
 obtain⟨ZB,CR,kJ⟩:=dW (P:= Tryz.prog) 27 48 inf 7 Tryz.underlying27 eX hz1 g 0 n c i (i:Int) rfl (by omega) p3
 have e50:=CQ (by omega)
 have e53:=CR (by omega)
 subst e50 e53
 rw[Nat.zero_add]at jM kJ
 rw[show n+1-(i+1)=n-i by omega]at jM
 have EL:=ah jM
 have EM:=ah kJ
 clear jM kJ CQ CR
 have HR1:=ah hr
 have HR2:=ah hr2
 have HR3:=ah hr3
 clear hown ho1 ho2 Ku ho3 hg2 hg3 hb1 hy hy1 xq Kt hres hol hl1 hzl p5 p6 p7 hr hr2 hr3 h1x wZ eX hz0 hz1 hz2
 go_enter Tryz.func74,Tryz.ntmps74
 go_wp2_with (first
  | ((with_reducible refine aY 40 ?_);refine jL rfl _ _ 27 3 rfl _ _ rfl rfl HR1.out ?_)
  | ((with_reducible refine aY 45 ?_);refine eG rfl _ _ 27 27 rfl _ _ rfl rfl HR2.out ?_))
 have hw1:IntKind.i64.wrap ((i:Int)+1)=(i:Int)+1:=IntWalk.i64_in _ (by omega)
 have hw2:(0:Int)≤(i:Int)+1:=by omega
 have hw3:((i:Int)+1).toNat=i+1:=by omega
 have hw4:(i:Int)+1≤(n:Int)+1:=by omega
 have UQ:n+1-(i+1)=n-i:=by omega
 have jM:=EL.out
 have kJ:=EM.out
 go_still_tail 8,(by kernel_rfl)
 clear hw1 hw2 hw3 hw4 jM kJ
 refine eG rfl _ _ 27 27 rfl _ _ rfl rfl HR3.out ?_
 go_wp2
 go_ret
 exact⟨_,rfl,aO iy.out hB,tX.out,.inr ⟨_,rfl,aC _⟩⟩
theorem Tryz.ZC (w:World) (yb g o lb cb c:Nat) (ys cur:List Value) (hne:yb≠g) (hy:w.heap[yb]? =some (.cells ys.toArray 48 (0,0))) (hg:w.heap[g]? =some (.cells cur.toArray 48 (0,0))) (hc:cur≠ []):
  (callFunc 113 #[.slice (some ⟨yb,0,none⟩) 1 c,.slice (some ⟨g,o,none⟩) lb cb]).run Tryz.prog w= .ok (.value (.bool false)) w:=by
 obtain⟨inf,eX,hz0,hz1,hz2⟩:=info_parts Tryz.oL
 rw[run_callFunc_extern Tryz.func113 (by kernel_rfl) (by kernel_rfl) (by kernel_rfl) (e:=Extern.SlicesOverlaps.overlaps #[27,27] #[4]) (by kernel_rfl),
  Lib.run_overlaps_apart w 27 4 48 Tryz.underlying27 7 (fun W=>by simp[sizeOf,typeInfo,eX,hz1]) ⟨yb,0,none⟩ ⟨g,o,none⟩ 1 c lb cb hne 48 48 ys.toArray.size cur.toArray.size (by simp[World.shape?,hy]) (by simp[World.shape?,hg]) (by simpa using hc) (by simp[World.frozen?,hy]) (by simp[World.frozen?,hy])]
 rfl
set_option maxRecDepth 100000 in
set_option maxHeartbeats 8000000 in
theorem xu (n i:Nat) (xs ys:List Value) (w:World) (B yb g c:Nat) (hown:w.ownsRow B 48 7 (.slice (some ⟨g,0,none⟩) n c) n xs) (hroom:n+1≤c) (h1x:∀u∈xs,u.oneCell'=true) (wZ:∀u∈ys,u.oneCell'=true) (hyl:ys.length=7) (hn:n<100000) (hi:i<n)
  (hy:w.heap[yb]? =some (.cells ys.toArray 48 (0,0))) (hne:yb≠g):
  Calls Tryz.prog 74 #[.slice (some ⟨g,0,none⟩) n c,.int .i64 i,.slice (some ⟨yb,0,none⟩) 1 1] w (oQ w B (.slice (some ⟨g,0,none⟩) n c) 7 48 (n+1) (xs.take (i*7)++ys++xs.drop (i*7))):=by
 obtain⟨inf,eX,hz0,hz1,hz2⟩:=info_parts Tryz.oL
 obtain⟨p1,p2,p3,p4,p5,p6,p7⟩:=bq hown
 obtain⟨cur,hgc⟩:=CP hown
 have xA:cur≠ []:=(by
  intro e
  subst e
  have:=p7 0 (xs[0]'(by omega)) (List.getElem?_eq_getElem _)
  simp[World.cell?,hgc]at this)
 obtain⟨junk,hjl,hst⟩:=rM hown hroom
 have Kv:w.drew.ownsRow B 48 7 (.slice (some ⟨g,0,none⟩) (n+1) c) (n+1) (xs++junk):=hst
 have hdl:(xs.drop (i*7)).length=(n-i)*7:=by rw[List.length_drop,p5,←Nat.sub_mul]
 have xq:Rd w.drew (some ⟨g,i*7,none⟩) (xs.drop (i*7)):=by
  have h0:Rd w.drew (some ⟨g,0,none⟩) xs:=fun j u hu=>⟨_,rfl,by rw[Addr.add_lit,Nat.zero_add];exact p7 j u hu⟩
  have:=h0.qQ (i*7)
  rw[Nat.zero_add]at this
  exact this
 obtain⟨w1,hr1,ho1,hg1⟩:=gD (P:= Tryz.prog) w.drew 27 27 3 48 inf 7 Tryz.underlying27 eX hz1 _ _ _ _ _ Kv (i+1) (n-i) (n-i) (c-(i+1)) (n+1-i) (c-i) (some ⟨g,i*7,none⟩) (xs.drop (i*7)) (Nat.min_eq_right (by omega)) (by omega) hdl xq (fun u hu=>h1x u (List.mem_of_mem_drop hu))
 have e3:(i+1)*7+(n-i)*7=(n+1)*7:=by rw[←Nat.add_mul];congr 1;omega
 have e5:(i+1)*7=i*7+1*7:=Nat.add_mul _ _ _
 have e6:(n+1)*7=n*7+1*7:=Nat.add_mul _ _ _
 have hle:(i+1)*7≤n*7:=Nat.mul_le_mul_right _ hi
 have hxl:(xs++junk).length=(n+1)*7:=by rw[List.length_append,p5,hjl];omega
 have e7:(xs++junk).drop ((i+1)*7+(n-i)*7)= []:=List.drop_of_length_le (by rw[hxl,e3];exact aC _)
 have e8:(xs++junk).take ((i+1)*7)=xs.take ((i+1)*7):=List.take_append_of_le_length (by omega)
 rw[e7,e8,List.append_nil]at ho1
 have hy1:w1.heap[yb]? =some (.cells ys.toArray 48 (0,0)):=(hg1.block yb (bg hy).1 (fun e=>by injection e with e;exact hne e)).trans hy
 obtain⟨w2,hr2,ho2,hg2⟩:=gD (P:= Tryz.prog) w1 27 27 3 48 inf 7 Tryz.underlying27 eX hz1 _ _ _ _ _ ho1 i 1 (n+1-i) (c-i) 1 1 (some ⟨yb,0,none⟩) ys (Nat.min_eq_left (by omega)) (by omega) (by omega) (je hy1) wZ
 have htl:(xs.take ((i+1)*7)).length=(i+1)*7:=by rw[List.length_take];omega
 have hres:(xs.take ((i+1)*7)++xs.drop (i*7)).take (i*7)++ys++(xs.take ((i+1)*7)++xs.drop (i*7)).drop (i*7+1*7)=xs.take (i*7)++ys++xs.drop (i*7):=by
  rw[←e5,List.drop_left' htl,List.take_append_of_le_length (by omega),List.take_take,Nat.min_eq_left (by omega)]
 rw[hres]at ho2
 have Ph:=ah ho2
 have tX:Hid (w.grownBy w2 (some g)):=ah ⟨hg2.os.trans hg1.os,hg2.tape.trans hg1.tape,hg2.output.trans hg1.output,Nat.le_trans hg1.size hg2.size,fun k hk hne=>(hg2.block k (Nat.lt_of_lt_of_le hk hg1.size) hne).trans (hg1.block k hk hne)⟩
 obtain⟨ZE,CS,jN⟩:=dW (P:= Tryz.prog) 27 48 inf 7 Tryz.underlying27 eX hz1 g 0 (n+1) c (i+1) ((i:Int)+1) (by omega) (by omega) hroom
 obtain⟨ZF,CU,kK⟩:=dW (P:= Tryz.prog) 27 48 inf 7 Tryz.underlying27 eX hz1 g 0 (n+1) c i (i:Int) rfl (by omega) hroom
 have ZG:=CS (by omega)
 have ZH:=CU (by omega)
 subst ZG ZH
 rw[Nat.zero_add]at jN kK
 rw[show n+1-(i+1)=n-i by omega]at jN
 have EN:=ah jN
 have EO:=ah kK
 have HR1:=ah hr1
 have HR2:=ah hr2
 have ZI:=ah (fun lb cb=> Tryz.ZC w yb g ((i+1)*7) lb cb 1 ys cur hne hy hgc xA)
 have q1:¬ (c=i):=by omega
 have q2:¬ (c=i+1):=by omega
 have Zy:((i:Int)==(n:Int))=false:=by rw[beq_eq_false_iff_ne];omega
 have Zz:¬ (c:Int)<(n:Int)+1:=by omega
 have q4:(i:Int)<n:=by omega
 have q5:(n:Int)<100000:=by omega
 clear hown ho1 ho2 hst Kv xq hg1 hg2 hy hy1 hres htl e3 e5 e6 e7 e8 hle hxl hdl p5 p6 p7 hr1 hr2 h1x wZ eX hz0 hz1 hz2 jN kK CS CU hgc xA hjl hne
 have hov:=ZI.out
 have hw1:IntKind.i64.wrap ((i:Int)+1)=(i:Int)+1:=IntWalk.i64_in _ (by omega)
 have hw2:(0:Int)≤(i:Int)+1:=by omega
 have hw3:((i:Int)+1).toNat=i+1:=by omega
 have hw4:(i:Int)+1≤(n:Int)+1:=by omega
 go_enter Tryz.func74,Tryz.ntmps74
 go_upto_region 15 with fail
 clear hov
 have jN:=EN.out
 have kK:=EO.out
 go_still_tail 8,(by kernel_rfl)
 clear hw1 hw2 hw3 hw4 jN kK
 refine eG rfl _ _ 27 27 rfl _ _ rfl rfl HR1.out ?_
 go_wp2_with ((with_reducible refine aY 82 ?_);refine eG rfl _ _ 27 27 rfl _ _ rfl rfl HR2.out ?_)
 go_ret
 exact⟨_,rfl,by first | exact Ph.out | (rw [←List.append_assoc];exact Ph.out),tX.out,.inl rfl⟩
theorem AP (v:Value) (n i:Nat) (xs ys:List Value) (w:World) (B yb:Nat) (hown:w.ownsRow B 48 7 v n xs) (h1x:∀u∈xs,u.oneCell'=true) (wZ:∀u∈ys,u.oneCell'=true) (hyl:ys.length=7) (hn:n<100000) (hi:i≤n) (hB:B≤w.heap.size)
  (hy:w.heap[yb]? =some (.cells ys.toArray 48 (0,0))) (hne:v.ownBlock≠some yb):
  Calls Tryz.prog 74 #[v,.int .i64 i,.slice (some ⟨yb,0,none⟩) 1 1] w (oQ w B v 7 48 (n+1) (xs.take (i*7)++ys++xs.drop (i*7))):=by
 have hl:=hown.1
 rcases Nat.lt_or_ge i n with hlt | hge
 ·obtain⟨g,c,rfl⟩:=fu hown (by omega)
  rcases Nat.lt_or_ge c (n+1)with hc | hc
  ·exact yO n i xs ys w B yb g c hown hc h1x wZ hyl hn hB hlt hy
  ·exact xu n i xs ys w B yb g c hown hc h1x wZ hyl hn hlt hy (fun e=>hne (by rw[e];rfl))
 ·have e:i=n:=by omega
  subst e
  rw[←hl,List.take_length,List.drop_length,List.append_nil]
  exact AO v i xs ys w B yb hown wZ hyl hn hB hy
end Go.Proofs.YtlfopoimbbpfdaaGreat
