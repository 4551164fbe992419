/- What the law asks, in parts: LIn2. -/
import Derived.Test.YtlfopoimbbpfdaaGreatPk10
set_option linter.all false
set_option maxRecDepth 100000
set_option maxHeartbeats 16000000
namespace Go.Proofs.YtlfopoimbbpfdaaGreat
open Go.RowKit
theorem EN (v:Value) (n:Nat) (xs ys:List Value) (w:World) (B yb:Nat) (dD:w.ownsRow B 3 1 v n xs) (AQ:∀u∈ys,u.oneCell'=true) (zJ:ys.length=1) (hn:n<100000) (hB:B≤w.heap.size)
  (hy:w.heap[yb]? =some (.cells ys.toArray 3 (0,0))):
  Calls Tryz.prog 83 #[v,.int .i64 n,.slice (some ⟨yb,0,none⟩) 1 1] w (tC w B v 1 3 (n+1) (xs++ys)):=by
 obtain⟨inf,gq,kK,dX,f_⟩:=info_parts Tryz.xY;have u_:=ah (nk hy);obtain⟨ao,cap,rfl,zR,qM⟩:=aO dD;have HY:=ah hy;clear hy;by_cases hc:cap=n
 all_goals
  go_enter Tryz.func83,Tryz.ntmps83
  go_wp2_with ((with_reducible refine aZ 25 ?_);refine dL rfl _ _ 28 rfl B 3 inf _ 1 8 Tryz.underlying28 gq kK dX f_ rfl (by decide) _ n xs rfl dD (some ⟨yb,0,none⟩) 1 1 ys rfl (by omega) u_.out AQ (by unfold maxLen;omega) (by omega) hB ?_;intro v3 w3 iq j4 nQ)
  go_ret;exact⟨v3,rfl,iq,j4,nQ.imp id (fun h=>⟨_,h,aC _⟩)⟩
theorem CF (n i:Nat) (xs ys:List Value) (w:World) (B yb g c:Nat) (dD:w.ownsRow B 3 1 (.slice (some ⟨g,0,none⟩) n c) n xs) (pG:c<n+1) (h1x:∀u∈xs,u.oneCell'=true) (AQ:∀u∈ys,u.oneCell'=true) (zJ:ys.length=1) (hn:n<100000) (hB:B≤w.heap.size) (hi:i<n)
  (hy:w.heap[yb]? =some (.cells ys.toArray 3 (0,0))):
  Calls Tryz.prog 83 #[.slice (some ⟨g,0,none⟩) n c,.int .i64 i,.slice (some ⟨yb,0,none⟩) 1 1] w (tC w B (.slice (some ⟨g,0,none⟩) n c) 1 3 (n+1) (xs.take (i*1)++ys++xs.drop (i*1))):=by
 obtain⟨inf,gq,kK,dX,f_⟩:=info_parts Tryz.xY;obtain⟨p1,p2,p3,p4,p5,p6,p7⟩:=bg dD;have Iq:(xs.take (i*1)).length=i*1:=by rw[List.length_take];omega
 obtain⟨C,w1,zs,hr,Gw,nY,bB⟩:=rU (P:= Tryz.prog) w 28 3 28 3 inf _ 1 8 Tryz.underlying28 Tryz.underlying3 gq kK dX f_ rfl (by decide) ⟨g,0,none⟩ i c (n+1-i) (xs.take (i*1)) Iq
  (fun j u hu=>by
   rw[Addr.add_lit,Nat.zero_add];rw[List.getElem?_take]at hu
   split at hu
   ·exact p7 j u hu
   ·cases hu) (by omega) (by omega) (by omega) (by omega) (by omega)
 rw[show i+(n+1-i)=n+1 by omega]at hr nY;rw[show ((n+1-i:Nat):Int)=(n:Int)+1-i by omega]at hr;have hC:=(bg nY).2.2.1;have hC2:=(bg nY).2.2.2.1;have hy1:=aj hy bB (bq hy).1
 have wN:Hid (Rd w1 (some ⟨g,i*1,none⟩) (xs.drop (i*1))):=by
  refine ah ?_;have h0:Rd w1 (some ⟨g,0,none⟩) xs:=fun j u hu=>⟨_,rfl,by rw[Addr.add_lit,Nat.zero_add,bB.cell (p:=⟨g,j,none⟩) p2];exact p7 j u hu⟩
  have:=h0.vX (i*1);rw[Nat.zero_add]at this;exact this
 have Ld:=(bg nY).2.2.2.2.1;obtain⟨w2,uH,qN,iY⟩:=iH (P:= Tryz.prog) w1 28 28 3 3 inf 1 Tryz.underlying28 gq dX _ _ _ _ _ nY i 1 (n+1-i) (C-i) 1 1 (some ⟨yb,0,none⟩) ys (Nat.min_eq_left (by omega)) (by omega) (by omega) (nk hy1) AQ;have Ay:g<w2.heap.size:=Nat.lt_of_lt_of_le p2 (Nat.le_trans bB.size iY.size)
 have Pt:Hid (Rd w2.drew (some ⟨g,i*1,none⟩) (xs.drop (i*1))):=ah (fun j u hu=>by
  obtain⟨a,ha,hc⟩:=wN.out j u hu;refine⟨a,ha,?_⟩;injection ha with ha;subst ha;rw[Addr.add_lit]at hc⊢;have:=iY.block g (Nat.lt_of_lt_of_le p2 bB.size) (fun e=>by injection e with e;omega);show w2.cell? _=_;rw[World.cell?,this]
  exact hc)
 have Pv:w2.drew.ownsRow w.heap.size 3 1 (.slice (some ⟨w.heap.size,0,none⟩) (n+1) C) (n+1) ((xs.take (i*1)++zs).take (i*1)++ys++(xs.take (i*1)++zs).drop (i*1+1*1)):=qN;obtain⟨w3,KR,iq,j4⟩:=iH (P:= Tryz.prog) w2.drew 28 28 3 3 inf 1 Tryz.underlying28 gq dX _ _ _ _ _ Pv (i+1) (n-i) (n-i) (C-(i+1)) (n-i) (c-i) (some ⟨g,i*1,none⟩) (xs.drop (i*1)) (Nat.min_self _) (by omega) (by rw[List.length_drop,p5,←Nat.sub_mul]) Pt.out (fun u hu=>h1x u (List.mem_of_mem_drop hu))
 have ny:((xs.take (i*1)++zs).take (i*1)++ys++(xs.take (i*1)++zs).drop (i*1+1*1)).take ((i+1)*1)++xs.drop (i*1)++((xs.take (i*1)++zs).take (i*1)++ys++(xs.take (i*1)++zs).drop (i*1+1*1)).drop ((i+1)*1+(n-i)*1)=xs.take (i*1)++ys++xs.drop (i*1):=by
  have e1:(xs.take (i*1)++zs).take (i*1)=xs.take (i*1):=List.take_left' Iq;have e2:(xs.take (i*1)++ys).length=(i+1)*1:=by rw[List.length_append,Iq,zJ,Nat.add_mul]
  have e3:((i+1)*1+(n-i)*1)=(n+1)*1:=by rw[←Nat.add_mul];congr 1;omega
  have e4:(xs.take (i*1)++ys++(xs.take (i*1)++zs).drop (i*1+1*1)).drop ((n+1)*1)= []:=List.drop_of_length_le (by
   rw[List.length_append,e2,List.length_drop,List.length_append,Iq,Gw];have h9:(n+1-i)*1+i*1=(n+1)*1:=by rw[←Nat.add_mul];congr 1;omega
   have h8:(i+1)*1=i*1+1*1:=Nat.add_mul _ _ _
   omega)
  rw[e1,List.take_left' e2,e3,e4,List.append_nil]
 rw[ny]at iq;have j5:=ah iq
 have yj:Hid (w.grownBy w3 (some g)):=ah (by
  have a1:w.grownBy w1 (some g):=⟨bB.os,bB.tape,bB.output,bB.size,fun k hk _=>bB.block k hk⟩;have a2:w.grownBy w2 (some g):=⟨iY.os.trans a1.os,iY.tape.trans a1.tape,iY.output.trans a1.output,Nat.le_trans a1.size iY.size,fun k hk eP=>(iY.block k (Nat.lt_of_lt_of_le hk bB.size) (fun e=>by injection e with e;omega)).trans (a1.block k hk eP)⟩
  exact⟨j4.os.trans a2.os,j4.tape.trans a2.tape,j4.output.trans a2.output,Nat.le_trans a2.size j4.size,fun k hk eP=>(j4.block k (Nat.lt_of_lt_of_le hk (Nat.le_trans bB.size iY.size)) (fun e=>by injection e with e;omega)).trans (a2.block k hk eP)⟩)
 have q1:¬ (c=i):=by omega
 have qz2:((i:Int)==(n:Int))=false:=by rw[beq_eq_false_iff_ne];omega
 have qz3:(c:Int)<(n:Int)+1:=by omega
 have q2:¬ (C=i):=by omega
 have q3:¬ (C=i+1):=by omega
 have q4:(i:Int)<n:=by omega
 have q5:(n:Int)<100000:=by omega
 obtain⟨adE,Gy,lN⟩:=fF (P:= Tryz.prog) 28 3 inf 1 Tryz.underlying28 gq dX w.heap.size 0 (n+1) C (i+1) ((i:Int)+1) (by omega) (by omega) hC;obtain⟨adF,Gz,nM⟩:=fF (P:= Tryz.prog) 28 3 inf 1 Tryz.underlying28 gq dX g 0 n c i (i:Int) rfl (by omega) p3;have e50:=Gy (by omega);have e53:=Gz (by omega);subst e50 e53;rw[Nat.zero_add]at lN nM;rw[show n+1-(i+1)=n-i by omega]at lN;simp only[Nat.mul_one]at lN nM uH KR;have Jq:=ah lN;have Jr:=ah nM;clear lN nM Gy Gz;have HR1:=ah hr;have xP:=ah uH;have HR3:=ah KR;clear dD nY qN Pv iq iY j4 bB hy hy1 wN Pt ny Iq Ld Gw p5 p6 p7 hr uH KR h1x AQ gq kK dX f_
 go_enter Tryz.func83,Tryz.ntmps83
 go_wp2_with (first
  | ((with_reducible refine aZ 40 ?_);refine lM rfl _ _ 28 3 rfl _ _ rfl rfl HR1.out ?_)
  | ((with_reducible refine aZ 45 ?_);refine fM rfl _ _ 28 28 rfl _ _ rfl rfl xP.out ?_))
 have hw1:IntKind.i64.wrap ((i:Int)+1)=(i:Int)+1:=IntWalk.i64_in _ (by omega);have hw2:(0:Int)≤(i:Int)+1:=by omega
 have hw3:((i:Int)+1).toNat=i+1:=by omega
 have tT:(i:Int)+1≤(n:Int)+1:=by omega
 have Zz:n+1-(i+1)=n-i:=by omega
 have lN:=Jq.out;have nM:=Jr.out;go_still_tail 8,(by kernel_rfl)
 clear hw1 hw2 hw3 tT lN nM;refine fM rfl _ _ 28 28 rfl _ _ rfl rfl HR3.out ?_;go_wp2;go_ret;exact⟨_,rfl,by first | exact aN j5.out hB | (have:=aN j5.out hB;simpa using this),yj.out,.inr ⟨_,rfl,aC _⟩⟩
theorem Tryz.adQ (w:World) (yb g o lb cb c:Nat) (ys cur:List Value) (eP:yb≠g) (hy:w.heap[yb]? =some (.cells ys.toArray 3 (0,0))) (hg:w.heap[g]? =some (.cells cur.toArray 3 (0,0))) (hc:cur≠ []):
  (callFunc 120 #[.slice (some ⟨yb,0,none⟩) 1 c,.slice (some ⟨g,o,none⟩) lb cb]).run Tryz.prog w= .ok (.value (.bool false)) w:=by
 obtain⟨inf,gq,kK,dX,f_⟩:=info_parts Tryz.xY
 rw[run_callFunc_extern Tryz.func120 (by kernel_rfl) (by kernel_rfl) (by kernel_rfl) (e:=Extern.SlicesOverlaps.overlaps #[28,28] #[4]) (by kernel_rfl),
  Lib.run_overlaps_apart w 28 4 3 Tryz.underlying28 1 (fun W=>by simp[sizeOf,typeInfo,gq,dX]) ⟨yb,0,none⟩ ⟨g,o,none⟩ 1 c lb cb eP 3 3 ys.toArray.size cur.toArray.size (by simp[World.shape?,hy]) (by simp[World.shape?,hg]) (by simpa using hc) (by simp[World.frozen?,hy]) (by simp[World.frozen?,hy])]
 rfl
theorem A8 (n i:Nat) (xs ys:List Value) (w:World) (B yb g c:Nat) (dD:w.ownsRow B 3 1 (.slice (some ⟨g,0,none⟩) n c) n xs) (pG:n+1≤c) (h1x:∀u∈xs,u.oneCell'=true) (AQ:∀u∈ys,u.oneCell'=true) (zJ:ys.length=1) (hn:n<100000) (hi:i<n)
  (hy:w.heap[yb]? =some (.cells ys.toArray 3 (0,0))) (eP:yb≠g):
  Calls Tryz.prog 83 #[.slice (some ⟨g,0,none⟩) n c,.int .i64 i,.slice (some ⟨yb,0,none⟩) 1 1] w (tC w B (.slice (some ⟨g,0,none⟩) n c) 1 3 (n+1) (xs.take (i*1)++ys++xs.drop (i*1))):=by
 obtain⟨inf,gq,kK,dX,f_⟩:=info_parts Tryz.xY;obtain⟨p1,p2,p3,p4,p5,p6,p7⟩:=bg dD;obtain⟨cur,hgc⟩:=Gx dD
 have AU:cur≠ []:=(by
  intro e;subst e;have:=p7 0 (xs[0]'(by omega)) (List.getElem?_eq_getElem _)
  simp[World.cell?,hgc]at this)
 obtain⟨junk,lq,uE⟩:=wM dD pG;have Pw:w.drew.ownsRow B 3 1 (.slice (some ⟨g,0,none⟩) (n+1) c) (n+1) (xs++junk):=uE;have hdl:(xs.drop (i*1)).length=(n-i)*1:=by rw[List.length_drop,p5,←Nat.sub_mul]
 have wN:Rd w.drew (some ⟨g,i*1,none⟩) (xs.drop (i*1)):=by
  have h0:Rd w.drew (some ⟨g,0,none⟩) xs:=fun j u hu=>⟨_,rfl,by rw[Addr.add_lit,Nat.zero_add];exact p7 j u hu⟩
  have:=h0.vX (i*1);rw[Nat.zero_add]at this;exact this
 obtain⟨w1,vQ,nY,lu⟩:=iH (P:= Tryz.prog) w.drew 28 28 3 3 inf 1 Tryz.underlying28 gq dX _ _ _ _ _ Pw (i+1) (n-i) (n-i) (c-(i+1)) (n+1-i) (c-i) (some ⟨g,i*1,none⟩) (xs.drop (i*1)) (Nat.min_eq_right (by omega)) (by omega) hdl wN (fun u hu=>h1x u (List.mem_of_mem_drop hu));have e3:(i+1)*1+(n-i)*1=(n+1)*1:=by rw[←Nat.add_mul];congr 1;omega
 have e5:(i+1)*1=i*1+1*1:=Nat.add_mul _ _ _;have e6:(n+1)*1=n*1+1*1:=Nat.add_mul _ _ _;have xI:(i+1)*1≤n*1:=Nat.mul_le_mul_right _ hi;have yR:(xs++junk).length=(n+1)*1:=by rw[List.length_append,p5,lq];omega
 have e7:(xs++junk).drop ((i+1)*1+(n-i)*1)= []:=List.drop_of_length_le (by rw[yR,e3];exact aC _);have e8:(xs++junk).take ((i+1)*1)=xs.take ((i+1)*1):=List.take_append_of_le_length (by omega);rw[e7,e8,List.append_nil]at nY;have hy1:w1.heap[yb]? =some (.cells ys.toArray 3 (0,0)):=(lu.block yb (bq hy).1 (fun e=>by injection e with e;exact eP e)).trans hy;obtain⟨w2,uH,qN,iY⟩:=iH (P:= Tryz.prog) w1 28 28 3 3 inf 1 Tryz.underlying28 gq dX _ _ _ _ _ nY i 1 (n+1-i) (c-i) 1 1 (some ⟨yb,0,none⟩) ys (Nat.min_eq_left (by omega)) (by omega) (by omega) (nk hy1) AQ;have htl:(xs.take ((i+1)*1)).length=(i+1)*1:=by rw[List.length_take];omega
 have ny:(xs.take ((i+1)*1)++xs.drop (i*1)).take (i*1)++ys++(xs.take ((i+1)*1)++xs.drop (i*1)).drop (i*1+1*1)=xs.take (i*1)++ys++xs.drop (i*1):=by
  rw[←e5,List.drop_left' htl,List.take_append_of_le_length (by omega),List.take_take,Nat.min_eq_left (by omega)]
 rw[ny]at qN;have Uy:=ah qN;have yj:Hid (w.grownBy w2 (some g)):=ah ⟨iY.os.trans lu.os,iY.tape.trans lu.tape,iY.output.trans lu.output,Nat.le_trans lu.size iY.size,fun k hk eP=>(iY.block k (Nat.lt_of_lt_of_le hk lu.size) eP).trans (lu.block k hk eP)⟩;obtain⟨adH,GA,lQ⟩:=fF (P:= Tryz.prog) 28 3 inf 1 Tryz.underlying28 gq dX g 0 (n+1) c (i+1) ((i:Int)+1) (by omega) (by omega) pG;obtain⟨adI,GD,nN⟩:=fF (P:= Tryz.prog) 28 3 inf 1 Tryz.underlying28 gq dX g 0 (n+1) c i (i:Int) rfl (by omega) pG;have e73:=GA (by omega);have e76:=GD (by omega);subst e73 e76;rw[Nat.zero_add]at lQ nN;rw[show n+1-(i+1)=n-i by omega]at lQ;simp only[Nat.mul_one]at lQ nN vQ uH;have Js:=ah lQ;have Jt:=ah nN;have HR1:=ah vQ;have xP:=ah uH;have HOV:=ah (fun lb cb=> Tryz.adQ w yb g (i+1) lb cb 1 ys cur eP hy hgc AU);have q1:¬ (c=i):=by omega
 have q2:¬ (c=i+1):=by omega
 have qz2:((i:Int)==(n:Int))=false:=by rw[beq_eq_false_iff_ne];omega
 have qz3:¬ (c:Int)<(n:Int)+1:=by omega
 have q4:(i:Int)<n:=by omega
 have q5:(n:Int)<100000:=by omega
 clear dD nY qN uE Pw wN lu iY hy hy1 ny htl e3 e5 e6 e7 e8 xI yR hdl p5 p6 p7 vQ uH h1x AQ gq kK dX f_ lQ nN GA GD hgc AU lq eP;have hov:=HOV.out;have hw1:IntKind.i64.wrap ((i:Int)+1)=(i:Int)+1:=IntWalk.i64_in _ (by omega);have hw2:(0:Int)≤(i:Int)+1:=by omega
 have hw3:((i:Int)+1).toNat=i+1:=by omega
 have tT:(i:Int)+1≤(n:Int)+1:=by omega
 go_enter Tryz.func83,Tryz.ntmps83
 go_upto_region 15 with fail
 clear hov;have lQ:=Js.out;have nN:=Jt.out;go_still_tail 8,(by kernel_rfl)
 clear hw1 hw2 hw3 tT lQ nN;refine fM rfl _ _ 28 28 rfl _ _ rfl rfl HR1.out ?_;go_wp2_with ((with_reducible refine aZ 82 ?_);refine fM rfl _ _ 28 28 rfl _ _ rfl rfl xP.out ?_)
 go_ret;exact⟨_,rfl,by first | exact Uy.out | (rw [←List.append_assoc];exact Uy.out) | (have:=Uy.out;simpa using this),yj.out,.inl rfl⟩
theorem wR (v:Value) (n i:Nat) (xs ys:List Value) (w:World) (B yb:Nat) (dD:w.ownsRow B 3 1 v n xs) (h1x:∀u∈xs,u.oneCell'=true) (AQ:∀u∈ys,u.oneCell'=true) (zJ:ys.length=1) (hn:n<100000) (hi:i≤n) (hB:B≤w.heap.size)
  (hy:w.heap[yb]? =some (.cells ys.toArray 3 (0,0))) (eP:v.ownBlock≠some yb):
  Calls Tryz.prog 83 #[v,.int .i64 i,.slice (some ⟨yb,0,none⟩) 1 1] w (tC w B v 1 3 (n+1) (xs.take (i*1)++ys++xs.drop (i*1))):=by
 have hl:=dD.1;rcases Nat.lt_or_ge i n with bA | gX
 ·obtain⟨g,c,rfl⟩:=fT dD (by omega)
  rcases Nat.lt_or_ge c (n+1)with hc | hc
  ·exact CF n i xs ys w B yb g c dD hc h1x AQ zJ hn hB bA hy
  ·exact A8 n i xs ys w B yb g c dD hc h1x AQ zJ hn bA hy (fun e=>eP (by rw[e];rfl))
 ·have e:i=n:=by omega
  subst e;rw[←hl,List.take_length,List.drop_length,List.append_nil];exact EN v i xs ys w B yb dD AQ zJ hn hB hy
end Go.Proofs.YtlfopoimbbpfdaaGreat
