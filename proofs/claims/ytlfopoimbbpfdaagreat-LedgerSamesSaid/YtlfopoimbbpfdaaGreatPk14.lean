/- What the law asks, in parts: LIn2. -/
import Derived.Test.YtlfopoimbbpfdaaGreatPk11
set_option linter.all false
namespace Go.Proofs.YtlfopoimbbpfdaaGreat
open Go.RowKit
set_option maxRecDepth 100000 in
set_option maxHeartbeats 4000000 in
theorem AZ (v:Value) (n:Nat) (xs ys:List Value) (w:World) (B yb:Nat) (hown:w.ownsRow B 3 1 v n xs) (wZ:∀u∈ys,u.oneCell'=true) (hyl:ys.length=1) (hn:n<100000) (hB:B≤w.heap.size)
  (hy:w.heap[yb]? =some (.cells ys.toArray 3 (0,0))):
  Calls Tryz.prog 83 #[v,.int .i64 n,.slice (some ⟨yb,0,none⟩) 1 1] w (oQ w B v 1 3 (n+1) (xs++ys)):=by
 obtain⟨inf,eX,hz0,hz1,hz2⟩:=info_parts Tryz.oM
 have vE:=ah (je hy)
 obtain⟨ao,cap,rfl,hnc,hcm⟩:=aP hown
 have HY:=ah hy
 clear hy
 by_cases hc:cap=n
 all_goals
  go_enter Tryz.func83,Tryz.ntmps83
  go_wp2_with ((with_reducible refine aY 25 ?_);refine b_ rfl _ _ 28 rfl B 3 inf _ 1 8 Tryz.underlying28 eX hz0 hz1 hz2 rfl (by decide) _ n xs rfl hown (some ⟨yb,0,none⟩) 1 1 ys rfl (by omega) vE.out wZ (by unfold maxLen;omega) (by omega) hB ?_;intro v3 w3 ho3 hg3 j_)
  go_ret
  exact⟨v3,rfl,ho3,hg3,j_.imp id (fun h=>⟨_,h,aC _⟩)⟩
set_option maxRecDepth 100000 in
set_option maxHeartbeats 8000000 in
theorem yU (n i:Nat) (xs ys:List Value) (w:World) (B yb g c:Nat) (hown:w.ownsRow B 3 1 (.slice (some ⟨g,0,none⟩) n c) n xs) (hroom:c<n+1) (h1x:∀u∈xs,u.oneCell'=true) (wZ:∀u∈ys,u.oneCell'=true) (hyl:ys.length=1) (hn:n<100000) (hB:B≤w.heap.size) (hi:i<n)
  (hy:w.heap[yb]? =some (.cells ys.toArray 3 (0,0))):
  Calls Tryz.prog 83 #[.slice (some ⟨g,0,none⟩) n c,.int .i64 i,.slice (some ⟨yb,0,none⟩) 1 1] w (oQ w B (.slice (some ⟨g,0,none⟩) n c) 1 3 (n+1) (xs.take (i*1)++ys++xs.drop (i*1))):=by
 obtain⟨inf,eX,hz0,hz1,hz2⟩:=info_parts Tryz.oM
 obtain⟨p1,p2,p3,p4,p5,p6,p7⟩:=bq hown
 have hol:(xs.take (i*1)).length=i*1:=by rw[List.length_take];omega
 obtain⟨C,w1,zs,hr,hzl,ho1,hb1⟩:=nX (P:= Tryz.prog) w 28 3 28 3 inf _ 1 8 Tryz.underlying28 Tryz.underlying3 eX hz0 hz1 hz2 rfl (by decide) ⟨g,0,none⟩ i c (n+1-i) (xs.take (i*1)) hol
  (fun j u hu=>by
   rw[Addr.add_lit,Nat.zero_add]
   rw[List.getElem?_take]at hu
   split at hu
   ·exact p7 j u hu
   ·cases hu) (by omega) (by omega) (by omega) (by omega) (by omega)
 rw[show i+(n+1-i)=n+1 by omega]at hr ho1
 rw[show ((n+1-i:Nat):Int)=(n:Int)+1-i by omega]at hr
 have hC:=(bq ho1).2.2.1
 have hC2:=(bq ho1).2.2.2.1
 have hy1:=aj hy hb1 (bg hy).1
 have xq:Hid (Rd w1 (some ⟨g,i*1,none⟩) (xs.drop (i*1))):=by
  refine ah ?_
  have h0:Rd w1 (some ⟨g,0,none⟩) xs:=fun j u hu=>⟨_,rfl,by rw[Addr.add_lit,Nat.zero_add,hb1.cell (p:=⟨g,j,none⟩) p2];exact p7 j u hu⟩
  have:=h0.qQ (i*1)
  rw[Nat.zero_add]at this
  exact this
 have hl1:=(bq ho1).2.2.2.2.1
 obtain⟨w2,hr2,ho2,hg2⟩:=gD (P:= Tryz.prog) w1 28 28 3 3 inf 1 Tryz.underlying28 eX hz1 _ _ _ _ _ ho1 i 1 (n+1-i) (C-i) 1 1 (some ⟨yb,0,none⟩) ys (Nat.min_eq_left (by omega)) (by omega) (by omega) (je hy1) wZ
 have hgl:g<w2.heap.size:=Nat.lt_of_lt_of_le p2 (Nat.le_trans hb1.size hg2.size)
 have Kt:Hid (Rd w2.drew (some ⟨g,i*1,none⟩) (xs.drop (i*1))):=ah (fun j u hu=>by
  obtain⟨a,ha,hc⟩:=xq.out j u hu
  refine⟨a,ha,?_⟩
  injection ha with ha
  subst ha
  rw[Addr.add_lit]at hc⊢
  have:=hg2.block g (Nat.lt_of_lt_of_le p2 hb1.size) (fun e=>by injection e with e;omega)
  show w2.cell? _=_
  rw[World.cell?,this]
  exact hc)
 have Ku:w2.drew.ownsRow w.heap.size 3 1 (.slice (some ⟨w.heap.size,0,none⟩) (n+1) C) (n+1) ((xs.take (i*1)++zs).take (i*1)++ys++(xs.take (i*1)++zs).drop (i*1+1*1)):=ho2
 obtain⟨w3,hr3,ho3,hg3⟩:=gD (P:= Tryz.prog) w2.drew 28 28 3 3 inf 1 Tryz.underlying28 eX hz1 _ _ _ _ _ Ku (i+1) (n-i) (n-i) (C-(i+1)) (n-i) (c-i) (some ⟨g,i*1,none⟩) (xs.drop (i*1)) (Nat.min_self _) (by omega) (by rw[List.length_drop,p5,←Nat.sub_mul]) Kt.out (fun u hu=>h1x u (List.mem_of_mem_drop hu))
 have hres:((xs.take (i*1)++zs).take (i*1)++ys++(xs.take (i*1)++zs).drop (i*1+1*1)).take ((i+1)*1)++xs.drop (i*1)++((xs.take (i*1)++zs).take (i*1)++ys++(xs.take (i*1)++zs).drop (i*1+1*1)).drop ((i+1)*1+(n-i)*1)=xs.take (i*1)++ys++xs.drop (i*1):=by
  have e1:(xs.take (i*1)++zs).take (i*1)=xs.take (i*1):=List.take_left' hol
  have e2:(xs.take (i*1)++ys).length=(i+1)*1:=by rw[List.length_append,hol,hyl,Nat.add_mul]
  have e3:((i+1)*1+(n-i)*1)=(n+1)*1:=by rw[←Nat.add_mul];congr 1;omega
  have e4:(xs.take (i*1)++ys++(xs.take (i*1)++zs).drop (i*1+1*1)).drop ((n+1)*1)= []:=List.drop_of_length_le (by
   rw[List.length_append,e2,List.length_drop,List.length_append,hol,hzl]
   have h9:(n+1-i)*1+i*1=(n+1)*1:=by rw[←Nat.add_mul];congr 1;omega
   have h8:(i+1)*1=i*1+1*1:=Nat.add_mul _ _ _
   omega)
  rw[e1,List.take_left' e2,e3,e4,List.append_nil]
 rw[hres]at ho3
 have iy:=ah ho3
 have tX:Hid (w.grownBy w3 (some g)):=ah (by
  have a1:w.grownBy w1 (some g):=⟨hb1.os,hb1.tape,hb1.output,hb1.size,fun k hk _=>hb1.block k hk⟩
  have a2:w.grownBy w2 (some g):=⟨hg2.os.trans a1.os,hg2.tape.trans a1.tape,hg2.output.trans a1.output,Nat.le_trans a1.size hg2.size,fun k hk hne=>(hg2.block k (Nat.lt_of_lt_of_le hk hb1.size) (fun e=>by injection e with e;omega)).trans (a1.block k hk hne)⟩
  exact⟨hg3.os.trans a2.os,hg3.tape.trans a2.tape,hg3.output.trans a2.output,Nat.le_trans a2.size hg3.size,fun k hk hne=>(hg3.block k (Nat.lt_of_lt_of_le hk (Nat.le_trans hb1.size hg2.size)) (fun e=>by injection e with e;omega)).trans (a2.block k hk hne)⟩)
 have q1:¬ (c=i):=by omega
 have Zy:((i:Int)==(n:Int))=false:=by rw[beq_eq_false_iff_ne];omega
 have Zz:(c:Int)<(n:Int)+1:=by omega
 have q2:¬ (C=i):=by omega
 have q3:¬ (C=i+1):=by omega
 have q4:(i:Int)<n:=by omega
 have q5:(n:Int)<100000:=by omega
 obtain⟨ZA,CQ,jM⟩:=dW (P:= Tryz.prog) 28 3 inf 1 Tryz.underlying28 eX hz1 w.heap.size 0 (n+1) C (i+1) ((i:Int)+1) (by omega) (by omega) hC
 obtain⟨ZB,CR,kJ⟩:=dW (P:= Tryz.prog) 28 3 inf 1 Tryz.underlying28 eX hz1 g 0 n c i (i:Int) rfl (by omega) p3
 have e50:=CQ (by omega)
 have e53:=CR (by omega)
 subst e50 e53
 rw[Nat.zero_add]at jM kJ
 rw[show n+1-(i+1)=n-i by omega]at jM
 simp only[Nat.mul_one]at jM kJ hr2 hr3
 have EL:=ah jM
 have EM:=ah kJ
 clear jM kJ CQ CR
 have HR1:=ah hr
 have HR2:=ah hr2
 have HR3:=ah hr3
 clear hown ho1 ho2 Ku ho3 hg2 hg3 hb1 hy hy1 xq Kt hres hol hl1 hzl p5 p6 p7 hr hr2 hr3 h1x wZ eX hz0 hz1 hz2
 go_enter Tryz.func83,Tryz.ntmps83
 go_wp2_with (first
  | ((with_reducible refine aY 40 ?_);refine jL rfl _ _ 28 3 rfl _ _ rfl rfl HR1.out ?_)
  | ((with_reducible refine aY 45 ?_);refine eG rfl _ _ 28 28 rfl _ _ rfl rfl HR2.out ?_))
 have hw1:IntKind.i64.wrap ((i:Int)+1)=(i:Int)+1:=IntWalk.i64_in _ (by omega)
 have hw2:(0:Int)≤(i:Int)+1:=by omega
 have hw3:((i:Int)+1).toNat=i+1:=by omega
 have hw4:(i:Int)+1≤(n:Int)+1:=by omega
 have UQ:n+1-(i+1)=n-i:=by omega
 have jM:=EL.out
 have kJ:=EM.out
 go_still_tail 8,(by kernel_rfl)
 clear hw1 hw2 hw3 hw4 jM kJ
 refine eG rfl _ _ 28 28 rfl _ _ rfl rfl HR3.out ?_
 go_wp2
 go_ret
 exact⟨_,rfl,by first | exact aO iy.out hB | (have:=aO iy.out hB;simpa using this),tX.out,.inr ⟨_,rfl,aC _⟩⟩
theorem Tryz.ZM (w:World) (yb g o lb cb c:Nat) (ys cur:List Value) (hne:yb≠g) (hy:w.heap[yb]? =some (.cells ys.toArray 3 (0,0))) (hg:w.heap[g]? =some (.cells cur.toArray 3 (0,0))) (hc:cur≠ []):
  (callFunc 120 #[.slice (some ⟨yb,0,none⟩) 1 c,.slice (some ⟨g,o,none⟩) lb cb]).run Tryz.prog w= .ok (.value (.bool false)) w:=by
 obtain⟨inf,eX,hz0,hz1,hz2⟩:=info_parts Tryz.oM
 rw[run_callFunc_extern Tryz.func120 (by kernel_rfl) (by kernel_rfl) (by kernel_rfl) (e:=Extern.SlicesOverlaps.overlaps #[28,28] #[4]) (by kernel_rfl),
  Lib.run_overlaps_apart w 28 4 3 Tryz.underlying28 1 (fun W=>by simp[sizeOf,typeInfo,eX,hz1]) ⟨yb,0,none⟩ ⟨g,o,none⟩ 1 c lb cb hne 3 3 ys.toArray.size cur.toArray.size (by simp[World.shape?,hy]) (by simp[World.shape?,hg]) (by simpa using hc) (by simp[World.frozen?,hy]) (by simp[World.frozen?,hy])]
 rfl
set_option maxRecDepth 100000 in
set_option maxHeartbeats 8000000 in
theorem xF (n i:Nat) (xs ys:List Value) (w:World) (B yb g c:Nat) (hown:w.ownsRow B 3 1 (.slice (some ⟨g,0,none⟩) n c) n xs) (hroom:n+1≤c) (h1x:∀u∈xs,u.oneCell'=true) (wZ:∀u∈ys,u.oneCell'=true) (hyl:ys.length=1) (hn:n<100000) (hi:i<n)
  (hy:w.heap[yb]? =some (.cells ys.toArray 3 (0,0))) (hne:yb≠g):
  Calls Tryz.prog 83 #[.slice (some ⟨g,0,none⟩) n c,.int .i64 i,.slice (some ⟨yb,0,none⟩) 1 1] w (oQ w B (.slice (some ⟨g,0,none⟩) n c) 1 3 (n+1) (xs.take (i*1)++ys++xs.drop (i*1))):=by
 obtain⟨inf,eX,hz0,hz1,hz2⟩:=info_parts Tryz.oM
 obtain⟨p1,p2,p3,p4,p5,p6,p7⟩:=bq hown
 obtain⟨cur,hgc⟩:=CP hown
 have xA:cur≠ []:=(by
  intro e
  subst e
  have:=p7 0 (xs[0]'(by omega)) (List.getElem?_eq_getElem _)
  simp[World.cell?,hgc]at this)
 obtain⟨junk,hjl,hst⟩:=rM hown hroom
 have Kv:w.drew.ownsRow B 3 1 (.slice (some ⟨g,0,none⟩) (n+1) c) (n+1) (xs++junk):=hst
 have hdl:(xs.drop (i*1)).length=(n-i)*1:=by rw[List.length_drop,p5,←Nat.sub_mul]
 have xq:Rd w.drew (some ⟨g,i*1,none⟩) (xs.drop (i*1)):=by
  have h0:Rd w.drew (some ⟨g,0,none⟩) xs:=fun j u hu=>⟨_,rfl,by rw[Addr.add_lit,Nat.zero_add];exact p7 j u hu⟩
  have:=h0.qQ (i*1)
  rw[Nat.zero_add]at this
  exact this
 obtain⟨w1,hr1,ho1,hg1⟩:=gD (P:= Tryz.prog) w.drew 28 28 3 3 inf 1 Tryz.underlying28 eX hz1 _ _ _ _ _ Kv (i+1) (n-i) (n-i) (c-(i+1)) (n+1-i) (c-i) (some ⟨g,i*1,none⟩) (xs.drop (i*1)) (Nat.min_eq_right (by omega)) (by omega) hdl xq (fun u hu=>h1x u (List.mem_of_mem_drop hu))
 have e3:(i+1)*1+(n-i)*1=(n+1)*1:=by rw[←Nat.add_mul];congr 1;omega
 have e5:(i+1)*1=i*1+1*1:=Nat.add_mul _ _ _
 have e6:(n+1)*1=n*1+1*1:=Nat.add_mul _ _ _
 have hle:(i+1)*1≤n*1:=Nat.mul_le_mul_right _ hi
 have hxl:(xs++junk).length=(n+1)*1:=by rw[List.length_append,p5,hjl];omega
 have e7:(xs++junk).drop ((i+1)*1+(n-i)*1)= []:=List.drop_of_length_le (by rw[hxl,e3];exact aC _)
 have e8:(xs++junk).take ((i+1)*1)=xs.take ((i+1)*1):=List.take_append_of_le_length (by omega)
 rw[e7,e8,List.append_nil]at ho1
 have hy1:w1.heap[yb]? =some (.cells ys.toArray 3 (0,0)):=(hg1.block yb (bg hy).1 (fun e=>by injection e with e;exact hne e)).trans hy
 obtain⟨w2,hr2,ho2,hg2⟩:=gD (P:= Tryz.prog) w1 28 28 3 3 inf 1 Tryz.underlying28 eX hz1 _ _ _ _ _ ho1 i 1 (n+1-i) (c-i) 1 1 (some ⟨yb,0,none⟩) ys (Nat.min_eq_left (by omega)) (by omega) (by omega) (je hy1) wZ
 have htl:(xs.take ((i+1)*1)).length=(i+1)*1:=by rw[List.length_take];omega
 have hres:(xs.take ((i+1)*1)++xs.drop (i*1)).take (i*1)++ys++(xs.take ((i+1)*1)++xs.drop (i*1)).drop (i*1+1*1)=xs.take (i*1)++ys++xs.drop (i*1):=by
  rw[←e5,List.drop_left' htl,List.take_append_of_le_length (by omega),List.take_take,Nat.min_eq_left (by omega)]
 rw[hres]at ho2
 have Ph:=ah ho2
 have tX:Hid (w.grownBy w2 (some g)):=ah ⟨hg2.os.trans hg1.os,hg2.tape.trans hg1.tape,hg2.output.trans hg1.output,Nat.le_trans hg1.size hg2.size,fun k hk hne=>(hg2.block k (Nat.lt_of_lt_of_le hk hg1.size) hne).trans (hg1.block k hk hne)⟩
 obtain⟨ZE,CS,jN⟩:=dW (P:= Tryz.prog) 28 3 inf 1 Tryz.underlying28 eX hz1 g 0 (n+1) c (i+1) ((i:Int)+1) (by omega) (by omega) hroom
 obtain⟨ZF,CU,kK⟩:=dW (P:= Tryz.prog) 28 3 inf 1 Tryz.underlying28 eX hz1 g 0 (n+1) c i (i:Int) rfl (by omega) hroom
 have ZG:=CS (by omega)
 have ZH:=CU (by omega)
 subst ZG ZH
 rw[Nat.zero_add]at jN kK
 rw[show n+1-(i+1)=n-i by omega]at jN
 simp only[Nat.mul_one]at jN kK hr1 hr2
 have EN:=ah jN
 have EO:=ah kK
 have HR1:=ah hr1
 have HR2:=ah hr2
 have ZI:=ah (fun lb cb=> Tryz.ZM w yb g (i+1) lb cb 1 ys cur hne hy hgc xA)
 have q1:¬ (c=i):=by omega
 have q2:¬ (c=i+1):=by omega
 have Zy:((i:Int)==(n:Int))=false:=by rw[beq_eq_false_iff_ne];omega
 have Zz:¬ (c:Int)<(n:Int)+1:=by omega
 have q4:(i:Int)<n:=by omega
 have q5:(n:Int)<100000:=by omega
 clear hown ho1 ho2 hst Kv xq hg1 hg2 hy hy1 hres htl e3 e5 e6 e7 e8 hle hxl hdl p5 p6 p7 hr1 hr2 h1x wZ eX hz0 hz1 hz2 jN kK CS CU hgc xA hjl hne
 have hov:=ZI.out
 have hw1:IntKind.i64.wrap ((i:Int)+1)=(i:Int)+1:=IntWalk.i64_in _ (by omega)
 have hw2:(0:Int)≤(i:Int)+1:=by omega
 have hw3:((i:Int)+1).toNat=i+1:=by omega
 have hw4:(i:Int)+1≤(n:Int)+1:=by omega
 go_enter Tryz.func83,Tryz.ntmps83
 go_upto_region 15 with fail
 clear hov
 have jN:=EN.out
 have kK:=EO.out
 go_still_tail 8,(by kernel_rfl)
 clear hw1 hw2 hw3 hw4 jN kK
 refine eG rfl _ _ 28 28 rfl _ _ rfl rfl HR1.out ?_
 go_wp2_with ((with_reducible refine aY 82 ?_);refine eG rfl _ _ 28 28 rfl _ _ rfl rfl HR2.out ?_)
 go_ret
 exact⟨_,rfl,by first | exact Ph.out | (rw [←List.append_assoc];exact Ph.out) | (have:=Ph.out;simpa using this),tX.out,.inl rfl⟩
theorem rU (v:Value) (n i:Nat) (xs ys:List Value) (w:World) (B yb:Nat) (hown:w.ownsRow B 3 1 v n xs) (h1x:∀u∈xs,u.oneCell'=true) (wZ:∀u∈ys,u.oneCell'=true) (hyl:ys.length=1) (hn:n<100000) (hi:i≤n) (hB:B≤w.heap.size)
  (hy:w.heap[yb]? =some (.cells ys.toArray 3 (0,0))) (hne:v.ownBlock≠some yb):
  Calls Tryz.prog 83 #[v,.int .i64 i,.slice (some ⟨yb,0,none⟩) 1 1] w (oQ w B v 1 3 (n+1) (xs.take (i*1)++ys++xs.drop (i*1))):=by
 have hl:=hown.1
 rcases Nat.lt_or_ge i n with hlt | hge
 ·obtain⟨g,c,rfl⟩:=fu hown (by omega)
  rcases Nat.lt_or_ge c (n+1)with hc | hc
  ·exact yU n i xs ys w B yb g c hown hc h1x wZ hyl hn hB hlt hy
  ·exact xF n i xs ys w B yb g c hown hc h1x wZ hyl hn hlt hy (fun e=>hne (by rw[e];rfl))
 ·have e:i=n:=by omega
  subst e
  rw[←hl,List.take_length,List.drop_length,List.append_nil]
  exact AZ v i xs ys w B yb hown wZ hyl hn hB hy
end Go.Proofs.YtlfopoimbbpfdaaGreat
