/- What the law asks, in parts: ZF ZG ZH. -/
import Derived.Deep.DrawnRows
import Derived.Test.YtlfopoimbbpfdaaGreatPk2
import Derived.Test.YtlfopoimbbpfdaaGreatPk5
import Derived.Test.YtlfopoimbbpfdaaGreatPk18
import Derived.Test.YtlfopoimbbpfdaaGreatPk3
import Derived.Test.YtlfopoimbbpfdaaGreatPk17
import Derived.Test.YtlfopoimbbpfdaaGreatPk15
set_option linter.all false
set_option maxRecDepth 100000
set_option maxHeartbeats 16000000
namespace Go.Proofs.YtlfopoimbbpfdaaGreat
open Go.RowKit
section
theorem Hl {o:Oper} {a:Act} {w:World} {K:Act→World→Prop} {Q:Exit→Act→World→Prop}
  (s x:Operand) (hop:o.op=Op.call { callee:=Callee.builtin Builtin.append,args:= #[s,x],argTypes:= #[26,26] })
  (base:Nat) (v:Value) (n:Nat) (l:List Rg) (hs:a.eval s=v) (dD:w.ownsRow base 56 2 v n (aR l))
  (ad:Addr) (c:Nat) (p q:Int) (hx:a.eval x= .slice (some ad) 1 c) (fZ:∀j u,[Value.int .i64 p,.int .i64 q][j]? =some u→w.cell? (ad.add j)=some u)
  (hn:n<1000000000) (gM:base≤w.heap.size)
  (hK:∀v' w',w'.ownsRow base 56 2 v' (n+1) (aR (l++ [(p,q)]))→w.grownBy w' v.ownBlock→(v'.ownBlock=v.ownBlock∨v'.ownBlock=some w.heap.size)→K (a.put o.dst v') w'):Oper.wp Tryz.prog o a w K Q:=by
 obtain⟨i,hi,kK,dX,f_⟩:=info_parts Tryz.Al;obtain⟨v',w',hr,h2,h3,_,h5⟩:=run_append_own_at (P:= Tryz.prog) w base 26 o.type 56 i _ 2 16 Tryz.underlying26 hi kK dX f_ rfl (by decide) v n _ dD ad 1 c [.int .i64 p,.int .i64 q] rfl fZ (by simp[Value.oneCell']) (by unfold maxLen;omega) (by omega) gM;unfold Oper.wp execOp;simp only[hop,resolve,invoke,builtin,Sem.run_bind,Sem.run_pure,Result.andThen_ok,List.map_toArray,List.map_cons,List.map_nil,hs,hx,hr];refine hK v' w' ?_ h3 h5;rw[o8];exact h2
theorem kD {ops:Array Oper} {o:Oper} {a:Act} {w:World} {K:Act→World→Prop} {Q:Exit→Act→World→Prop} {E:Prop} (hg:o.guard=none)
  (s x:Operand) (hop:o.op=Op.call { callee:=Callee.builtin Builtin.append,args:= #[s,x],argTypes:= #[26,26] })
  (base:Nat) (v:Value) (n:Nat) (l:List Rg) (hs:a.eval s=v) (dD:w.ownsRow base 56 2 v n (aR l))
  (ad:Addr) (c:Nat) (p q:Int) (hx:a.eval x= .slice (some ad) 1 c) (fZ:∀j u,[Value.int .i64 p,.int .i64 q][j]? =some u→w.cell? (ad.add j)=some u)
  (hn:n<1000000000) (gM:base≤w.heap.size)
  (hK:∀v' w',w'.ownsRow base 56 2 v' (n+1) (aR (l++ [(p,q)]))→w.grownBy w' v.ownBlock→(v'.ownBlock=v.ownBlock∨v'.ownBlock=some w.heap.size)→K (a.put o.dst v') w'):
  if Region.wanted o (yielded ops a.tmps)=true then Oper.wp Tryz.prog o a w K Q else E:=by
 have hw:Region.wanted o (yielded ops a.tmps)=true:=by simp[Region.wanted,hg]
 rw[if_pos hw];exact Hl s x hop base v n l hs dD ad c p q hx fZ hn gM hK
attribute [local go_sem ↓] Go.wp_at_zero Go.wp_at_succ
theorem Qs (v:Value) (l:List Rg) (n:Int) (w:World) (h:fD w v l) (hs:Small l) (hl:l.length<100000) (h0:0≤n) (h1:n≤dG l):
  Calls Tryz.prog 116 #[v,.int .i64 n] w (OX w 2 56 (aR (bY l n).1) (aR (bY l n).2) (bY l n).1.length (bY l n).2.length 0):=by
 obtain⟨ao,cap,rfl,dO,hm⟩:=Sl.shape h;have fP:=(kR l hs).2;have d0:decide (n<0)=false:=by simpa using h0
 have d1:decide (dG l<n)=false:=by simpa using h1
 go_enter Tryz.func116,Tryz.ntmps116
 go_wp2_with fail
 refine(Hg _ _ _ h hs (by omega)).mono ?_;rintro e w0 ⟨rfl,sj⟩;go_wp2
 go_loopw[1,7,8,9] (fun nv v7 v8 ix wr=>∃ (k:Nat) (m:Int) (A B:List Rg) (a7:Option Addr) (c7:Nat) (a8:Option Addr) (c8:Nat),k≤l.length∧ix= .int .i64 k∧nv= .int .i64 m∧v7= .slice a7 A.length c7∧v8= .slice a8 B.length c8∧0≤m∧m≤n∧A.length≤k∧B.length≤k∧jY l n k m A B∧
  wr.ownsRow w.heap.size 56 2 (.slice a7 A.length c7) A.length (aR A)∧wr.ownsRow w.heap.size 56 2 (.slice a8 B.length c8) B.length (aR B)∧Apart (.slice a7 A.length c7) (.slice a8 B.length c8)∧Below w.heap.size w wr) (fun _ _ _ ix _=>l.length-(intOf ix).toNat)
 case atStart=>exact⟨0,n,[],[],none,0,none,0,Nat.zero_le _,rfl,rfl,rfl,rfl,h0,Int.le_refl _,aC _,aC _,rfl,World.ownsRow_nil _ _ _ _,World.ownsRow_nil _ _ _ _,xQ _,sj⟩
 case round=>
  obtain⟨k,m,A,B,a7,c7,a8,c8,hk,rfl,rfl,rfl,rfl,hm0,hmn,hA,hB,hT,ji,gP,ou,hb⟩:=hrel;have hz:=hb.size;have HT:=ah hT;clear hT sj;rcases Nat.lt_or_ge k l.length with bA | gX
  ·obtain⟨b,off,rfl,kZ,lF,je⟩:=h.pair hb (aC _) k bA
   have hr:=hs l[k] (List.getElem_mem _);have jK:(k:Int)<l.length:=by omega
   obtain⟨x,y,hxy⟩:∃x y,l[k]=(x,y):=⟨_,_,rfl⟩;have HR:=ah hxy;have WV:=ah (fun hh=>HT.out.a bA hh);have WW:=ah (fun hh hd=>HT.out.b bA hh hd);have UM:=ah (fun hh hd=>HT.out.c bA hh hd);rw[hxy]at WV WW UM hr lF je;clear hxy HT;simp only at WV WW UM hr lF je;obtain⟨vQ,uH,KR⟩:=hr;have i1:IntKind.i64.wrap (y-x)=y-x:=IntWalk.i64_in _ (by omega);rcases Int.lt_or_le 0 m with hmp | hmz
   ·rcases Int.lt_trichotomy m (y-x)with hd | hd | hd
    ·have HN:=ah (WW.out hmp hd)
     clear WV WW UM;go_upto_region 9 with fail
     go_cut[10] (fun xO wx=>xO= .int .i64 (m)∧Below wr.heap.size wr wx)
     case first=>
      go_quiet (fail)
      go_wp2;go_meet;exact⟨rfl,below_drewN (aL _ _) _⟩
     case rest=>
     obtain⟨rfl,gy⟩:=hcut;obtain⟨W1,z_⟩:∃W1,W1=wc:=⟨_,rfl⟩;subst z_;have tK:=aI ji gy (aC _);have Bg:=aI gP gy (aC _);have bB:=hb.trans (gy.mono hz);have dX:=bB.size;clear ji gP gy lF je hb;have i2:IntKind.i64.wrap (x+(m))=x+(m):=IntWalk.i64_in _ (by omega);go_upto_region 11 with fail
     have KS:Hid (∀V,Below w.heap.size w V→(Below w.heap.size w V∧V.cell? ⟨b,off+k*2,none⟩=some (.int .i64 x)∧V.cell? ⟨b,off+k*2+1,none⟩=some (.int .i64 y))):=ah (fun V hV=>by
      obtain⟨b1,off1,jO,Ho,g1,g2⟩:=h.pair hV (aC _) k bA;injection jO with jO;injection jO with e1 e2;subst e1 e2;rw[HR.out]at g1 g2
      exact⟨hV,g1,g2⟩)
     have Ce:=aI tK (((aL W1.heap.size W1).drew).alloc (aC _) (.cells #[.int .i64 (x),.int .i64 (x+(m))] 56)) (aC _);have zk:=aI Bg (((aL W1.heap.size W1).drew).alloc (aC _) (.cells #[.int .i64 (x),.int .i64 (x+(m))] 56)) (aC _);have wW:=ah Ce;have wX:=ah zk;clear Ce zk
     go_region_held3 (fun w'=>Below w.heap.size w w'∧w'.cell? ⟨b,off+k*2,none⟩=some (.int .i64 x)∧w'.cell? ⟨b,off+k*2+1,none⟩=some (.int .i64 y))
      (first | assumption | exact KS.out _ bB.drew | exact KS.out _ ((bB.drew).alloc dX _) | exact KS.out _ (((bB.drew).alloc dX _).grown hg4 (by first | (simp;done) | (simp;omega)) (bQ tK)))
      ((refine kD (by rfl) (.tmp 38) (.tmp 52) (by rfl) w.heap.size _ A.length A (by rfl) wW.out ⟨W1.heap.size,0,none⟩ 1 (x) (x+(m)) (by rfl) (dS W1.drew W1.heap.size _ _ _ rfl) (by omega) (by first | exact Nat.le_trans dX (by simp) | (simp;omega)) ?_;intro v4 w1 mZ hg4 jk))
     have zk:=wX.out;have JM:Below w.heap.size w w1:=((bB.drew).alloc dX _).grown hg4 (by first | (simp;done) | (simp;omega)) (bQ tK);have Hq:=ou.kept zk hg4;have NA:=ou.step2 zk jk (by first | exact aC _ | omega | (simp;omega));have hzx:=JM.size;clear hg4 jk tK Bg ou zk wW wX KS;obtain⟨av,YN,rfl,_,_⟩:=aO mZ;go_upto_region 12 with fail
     obtain⟨b1,off1,jO,Ho,c1,c2⟩:=h.pair JM (aC _) k bA;injection jO with jO;injection jO with e1 e2;subst e1 e2;rw[HR.out]at c1 c2;simp only at c1 c2
     go_cut[66] (fun v66 wx=>v66= .bool true∧Below w1.heap.size w1 wx)
     case first=>
      go_quiet (fail)
      go_wp2;go_meet;exact⟨by first | rfl | (congr 1;first | exact decide_eq_true (by omega) | exact decide_eq_false (by omega)),below_drewN (aL _ _) _⟩
     case rest=>
     obtain⟨rfl,gy⟩:=hcut;obtain⟨W3,zY⟩:∃W3,W3=wc:=⟨_,rfl⟩;subst zY;have p4:=aI mZ gy (aC _);have p5:=aI Hq gy (aC _);have bT:=JM.trans (gy.mono hzx);have oO:=bT.size;clear mZ Hq gy c1 c2;go_upto_region 13 with fail
     have KS:Hid (∀V,Below w.heap.size w V→(Below w.heap.size w V∧V.cell? ⟨b,off+k*2,none⟩=some (.int .i64 x)∧V.cell? ⟨b,off+k*2+1,none⟩=some (.int .i64 y))):=ah (fun V hV=>by
      obtain⟨b1,off1,jO,Ho,g1,g2⟩:=h.pair hV (aC _) k bA;injection jO with jO;injection jO with e1 e2;subst e1 e2;rw[HR.out]at g1 g2
      exact⟨hV,g1,g2⟩)
     have Ce:=aI p4 (((aL W3.heap.size W3).drew).alloc (aC _) (.cells #[.int .i64 (x+(m)),.int .i64 (y)] 56)) (aC _);have zk:=aI p5 (((aL W3.heap.size W3).drew).alloc (aC _) (.cells #[.int .i64 (x+(m)),.int .i64 (y)] 56)) (aC _);have wW:=ah Ce;have wX:=ah zk;clear Ce zk
     go_region_held3 (fun w'=>Below w.heap.size w w'∧w'.cell? ⟨b,off+k*2,none⟩=some (.int .i64 x)∧w'.cell? ⟨b,off+k*2+1,none⟩=some (.int .i64 y))
      (first | assumption | exact KS.out _ bT.drew | exact KS.out _ ((bT.drew).alloc oO _) | exact KS.out _ (((bT.drew).alloc oO _).grown hg5 (by first | (simp;done) | (simp;omega)) (bQ p5)))
      ((refine kD (by rfl) (.tmp 67) (.tmp 81) (by rfl) w.heap.size _ B.length B (by rfl) wX.out ⟨W3.heap.size,0,none⟩ 1 (x+(m)) (y) (by rfl) (dS W3.drew W3.heap.size _ _ _ rfl) (by omega) (by first | exact Nat.le_trans oO (by simp) | (simp;omega)) ?_;intro v5 w2 wF hg5 m_))
     have Ce:=wW.out;have bR:Below w.heap.size w w2:=((bT.drew).alloc oO _).grown hg5 (by first | (simp;done) | (simp;omega)) (bQ p5);have WX:=NA.symm.kept Ce hg5;have I_:=NA.symm.step2 Ce m_ (by first | exact aC _ | omega | (simp;omega));obtain⟨aw,cpw,rfl,_,_⟩:=aO wF;clear hg5 m_ p4 p5 Ce wW wX KS;go_wp2;go_roundw
     case rel=>exact⟨k+1,0,A++ [(x,x+m)],B++ [(x+m,y)],av,YN,aw,cpw,by omega,by go_num,by first | rfl | simp,by simp,by simp,by omega,by omega,by simp;omega,by simp;omega,HN.out,by simpa using WX,by simpa using wF,by simpa using I_.symm,bR⟩
     case measure=>simp[intOf];omega
    ·have HN:=ah (UM.out hmp (by omega))
     have HXY:Hid (x+m=y):=ah (by omega);have TF:Hid (m-(y-x)=0):=ah (by omega);have KY:y-x≤m:=by omega
     have hd2:m≤y-x:=by omega
     clear WV WW UM hd;go_upto_region 9 with fail
     go_cut[10] (fun xO wx=>xO= .int .i64 (m)∧Below wr.heap.size wr wx)
     case first=>
      go_quiet (fail)
      go_wp2;go_meet;exact⟨rfl,below_drewN (aL _ _) _⟩
     case rest=>
     obtain⟨rfl,gy⟩:=hcut;obtain⟨W1,z_⟩:∃W1,W1=wc:=⟨_,rfl⟩;subst z_;have tK:=aI ji gy (aC _);have Bg:=aI gP gy (aC _);have bB:=hb.trans (gy.mono hz);have dX:=bB.size;clear ji gP gy lF je hb;have i2:IntKind.i64.wrap (x+(m))=x+(m):=IntWalk.i64_in _ (by omega);go_upto_region 11 with fail
     have KS:Hid (∀V,Below w.heap.size w V→(Below w.heap.size w V∧V.cell? ⟨b,off+k*2,none⟩=some (.int .i64 x)∧V.cell? ⟨b,off+k*2+1,none⟩=some (.int .i64 y))):=ah (fun V hV=>by
      obtain⟨b1,off1,jO,Ho,g1,g2⟩:=h.pair hV (aC _) k bA;injection jO with jO;injection jO with e1 e2;subst e1 e2;rw[HR.out]at g1 g2
      exact⟨hV,g1,g2⟩)
     have Ce:=aI tK (((aL W1.heap.size W1).drew).alloc (aC _) (.cells #[.int .i64 (x),.int .i64 (x+(m))] 56)) (aC _);have zk:=aI Bg (((aL W1.heap.size W1).drew).alloc (aC _) (.cells #[.int .i64 (x),.int .i64 (x+(m))] 56)) (aC _);have wW:=ah Ce;have wX:=ah zk;clear Ce zk
     go_region_held3 (fun w'=>Below w.heap.size w w'∧w'.cell? ⟨b,off+k*2,none⟩=some (.int .i64 x)∧w'.cell? ⟨b,off+k*2+1,none⟩=some (.int .i64 y))
      (first | assumption | exact KS.out _ bB.drew | exact KS.out _ ((bB.drew).alloc dX _) | exact KS.out _ (((bB.drew).alloc dX _).grown hg4 (by first | (simp;done) | (simp;omega)) (bQ tK)))
      ((refine kD (by rfl) (.tmp 38) (.tmp 52) (by rfl) w.heap.size _ A.length A (by rfl) wW.out ⟨W1.heap.size,0,none⟩ 1 (x) (x+(m)) (by rfl) (dS W1.drew W1.heap.size _ _ _ rfl) (by omega) (by first | exact Nat.le_trans dX (by simp) | (simp;omega)) ?_;intro v4 w1 mZ hg4 jk))
     have zk:=wX.out;have JM:Below w.heap.size w w1:=((bB.drew).alloc dX _).grown hg4 (by first | (simp;done) | (simp;omega)) (bQ tK);have Hq:=ou.kept zk hg4;have NA:=ou.step2 zk jk (by first | exact aC _ | omega | (simp;omega));have hzx:=JM.size;clear hg4 jk tK Bg ou zk wW wX KS;obtain⟨av,YN,rfl,_,_⟩:=aO mZ;go_upto_region 12 with fail
     obtain⟨b1,off1,jO,Ho,c1,c2⟩:=h.pair JM (aC _) k bA;injection jO with jO;injection jO with e1 e2;subst e1 e2;rw[HR.out]at c1 c2;simp only at c1 c2
     go_cut[66] (fun v66 wx=>v66= .bool false∧Below w1.heap.size w1 wx)
     case first=>
      go_quiet (fail)
      go_wp2;go_meet;exact⟨by first | rfl | (congr 1;first | exact decide_eq_true (by omega) | exact decide_eq_false (by omega)),below_drewN (aL _ _) _⟩
     case rest=>
     obtain⟨rfl,gy⟩:=hcut;obtain⟨W3,zY⟩:∃W3,W3=wc:=⟨_,rfl⟩;subst zY;have p4:=aI mZ gy (aC _);have p5:=aI Hq gy (aC _);have bT:=JM.trans (gy.mono hzx);have oO:=bT.size;clear mZ Hq gy c1 c2;go_wp2;go_roundw
     case rel=>exact⟨k+1,m-(y-x),A++ [(x,x+m)],B,av,YN,_,_,by omega,by go_num,by rw[TF.out],by simp,rfl,by omega,by omega,by simp;omega,by omega,by rw[HXY.out];exact HN.out,by simpa using p4,by simpa using p5,by simpa using NA,bT⟩
     case measure=>simp[intOf];omega
    ·have HN:=ah (UM.out hmp (by omega))
     have KY:¬m≤y-x:=by omega
     have hd3:x+(y-x)=y:=by omega
     have HD3:=ah hd3;clear WV WW UM hd3;go_upto_region 9 with fail
     go_cut[10] (fun xO wx=>xO= .int .i64 (y-x)∧Below wr.heap.size wr wx)
     case first=>
      go_quiet (fail)
      go_wp2;go_meet;exact⟨rfl,below_drewN (aL _ _) _⟩
     case rest=>
     obtain⟨rfl,gy⟩:=hcut;obtain⟨W1,z_⟩:∃W1,W1=wc:=⟨_,rfl⟩;subst z_;have tK:=aI ji gy (aC _);have Bg:=aI gP gy (aC _);have bB:=hb.trans (gy.mono hz);have dX:=bB.size;clear ji gP gy lF je hb;have i2:IntKind.i64.wrap (x+(y-x))=x+(y-x):=IntWalk.i64_in _ (by omega);go_upto_region 11 with fail
     have KS:Hid (∀V,Below w.heap.size w V→(Below w.heap.size w V∧V.cell? ⟨b,off+k*2,none⟩=some (.int .i64 x)∧V.cell? ⟨b,off+k*2+1,none⟩=some (.int .i64 y))):=ah (fun V hV=>by
      obtain⟨b1,off1,jO,Ho,g1,g2⟩:=h.pair hV (aC _) k bA;injection jO with jO;injection jO with e1 e2;subst e1 e2;rw[HR.out]at g1 g2
      exact⟨hV,g1,g2⟩)
     have Ce:=aI tK (((aL W1.heap.size W1).drew).alloc (aC _) (.cells #[.int .i64 (x),.int .i64 (x+(y-x))] 56)) (aC _);have zk:=aI Bg (((aL W1.heap.size W1).drew).alloc (aC _) (.cells #[.int .i64 (x),.int .i64 (x+(y-x))] 56)) (aC _);have wW:=ah Ce;have wX:=ah zk;clear Ce zk
     go_region_held3 (fun w'=>Below w.heap.size w w'∧w'.cell? ⟨b,off+k*2,none⟩=some (.int .i64 x)∧w'.cell? ⟨b,off+k*2+1,none⟩=some (.int .i64 y))
      (first | assumption | exact KS.out _ bB.drew | exact KS.out _ ((bB.drew).alloc dX _) | exact KS.out _ (((bB.drew).alloc dX _).grown hg4 (by first | (simp;done) | (simp;omega)) (bQ tK)))
      ((refine kD (by rfl) (.tmp 38) (.tmp 52) (by rfl) w.heap.size _ A.length A (by rfl) wW.out ⟨W1.heap.size,0,none⟩ 1 (x) (x+(y-x)) (by rfl) (dS W1.drew W1.heap.size _ _ _ rfl) (by omega) (by first | exact Nat.le_trans dX (by simp) | (simp;omega)) ?_;intro v4 w1 mZ hg4 jk))
     have zk:=wX.out;have JM:Below w.heap.size w w1:=((bB.drew).alloc dX _).grown hg4 (by first | (simp;done) | (simp;omega)) (bQ tK);have Hq:=ou.kept zk hg4;have NA:=ou.step2 zk jk (by first | exact aC _ | omega | (simp;omega));have hzx:=JM.size;clear hg4 jk tK Bg ou zk wW wX KS;obtain⟨av,YN,rfl,_,_⟩:=aO mZ;go_upto_region 12 with fail
     obtain⟨b1,off1,jO,Ho,c1,c2⟩:=h.pair JM (aC _) k bA;injection jO with jO;injection jO with e1 e2;subst e1 e2;rw[HR.out]at c1 c2;simp only at c1 c2
     go_cut[66] (fun v66 wx=>v66= .bool false∧Below w1.heap.size w1 wx)
     case first=>
      go_quiet (fail)
      go_wp2;go_meet;exact⟨by first | rfl | (congr 1;first | exact decide_eq_true (by omega) | exact decide_eq_false (by omega)),below_drewN (aL _ _) _⟩
     case rest=>
     obtain⟨rfl,gy⟩:=hcut;obtain⟨W3,zY⟩:∃W3,W3=wc:=⟨_,rfl⟩;subst zY;have p4:=aI mZ gy (aC _);have p5:=aI Hq gy (aC _);have bT:=JM.trans (gy.mono hzx);have oO:=bT.size;clear mZ Hq gy c1 c2;go_wp2;go_roundw
     case rel=>exact⟨k+1,m-(y-x),A++ [(x,x+(y-x))],B,av,YN,_,_,by omega,by go_num,by first | rfl | simp,by simp,rfl,by omega,by omega,by simp;omega,by omega,by rw[HD3.out];exact HN.out,by simpa using p4,by simpa using p5,by simpa using NA,bT⟩
     case measure=>simp[intOf];omega
   ·have HN:=ah (WV.out hmz)
    obtain rfl:m=0:=by omega
    clear WV WW UM;go_upto_region 9 with fail
    go_cut[10] (fun xO wx=>xO= .int .i64 (0)∧Below wr.heap.size wr wx)
    case first=>
     go_quiet (fail)
     go_wp2;go_meet;exact⟨rfl,below_drewN (aL _ _) _⟩
    case rest=>
    obtain⟨rfl,gy⟩:=hcut;obtain⟨W1,z_⟩:∃W1,W1=wc:=⟨_,rfl⟩;subst z_;have tK:=aI ji gy (aC _);have Bg:=aI gP gy (aC _);have bB:=hb.trans (gy.mono hz);have dX:=bB.size;clear ji gP gy lF je hb;have i2:IntKind.i64.wrap x=x:=IntWalk.i64_in _ (by omega);go_upto_region 12 with fail
    obtain⟨b1,off1,jO,Ho,c1,c2⟩:=h.pair bB (aC _) k bA;injection jO with jO;injection jO with e1 e2;subst e1 e2;rw[HR.out]at c1 c2;simp only at c1 c2
    go_cut[66] (fun v66 wx=>v66= .bool true∧Below W1.heap.size W1 wx)
    case first=>
     go_quiet (fail)
     go_wp2;go_meet;exact⟨by first | rfl | (congr 1;first | exact decide_eq_true (by omega) | exact decide_eq_false (by omega)),below_drewN (aL _ _) _⟩
    case rest=>
    obtain⟨rfl,gy⟩:=hcut;obtain⟨W3,zY⟩:∃W3,W3=wc:=⟨_,rfl⟩;subst zY;have p4:=aI tK gy (aC _);have p5:=aI Bg gy (aC _);have bT:=bB.trans (gy.mono dX);have oO:=bT.size;clear tK Bg gy c1 c2;go_upto_region 13 with fail
    have KS:Hid (∀V,Below w.heap.size w V→(Below w.heap.size w V∧V.cell? ⟨b,off+k*2,none⟩=some (.int .i64 x)∧V.cell? ⟨b,off+k*2+1,none⟩=some (.int .i64 y))):=ah (fun V hV=>by
     obtain⟨b1,off1,jO,Ho,g1,g2⟩:=h.pair hV (aC _) k bA;injection jO with jO;injection jO with e1 e2;subst e1 e2;rw[HR.out]at g1 g2
     exact⟨hV,g1,g2⟩)
    have Ce:=aI p4 (((aL W3.heap.size W3).drew).alloc (aC _) (.cells #[.int .i64 (x),.int .i64 (y)] 56)) (aC _);have zk:=aI p5 (((aL W3.heap.size W3).drew).alloc (aC _) (.cells #[.int .i64 (x),.int .i64 (y)] 56)) (aC _);have wW:=ah Ce;have wX:=ah zk;clear Ce zk
    go_region_held3 (fun w'=>Below w.heap.size w w'∧w'.cell? ⟨b,off+k*2,none⟩=some (.int .i64 x)∧w'.cell? ⟨b,off+k*2+1,none⟩=some (.int .i64 y))
     (first | assumption | exact KS.out _ bT.drew | exact KS.out _ ((bT.drew).alloc oO _) | exact KS.out _ (((bT.drew).alloc oO _).grown hg5 (by first | (simp;done) | (simp;omega)) (bQ p5)))
     ((refine kD (by rfl) (.tmp 67) (.tmp 81) (by rfl) w.heap.size _ B.length B (by rfl) wX.out ⟨W3.heap.size,0,none⟩ 1 (x) (y) (by rfl) (dS W3.drew W3.heap.size _ _ _ rfl) (by omega) (by first | exact Nat.le_trans oO (by simp) | (simp;omega)) ?_;intro v5 w2 wF hg5 m_))
    have Ce:=wW.out;have bR:Below w.heap.size w w2:=((bT.drew).alloc oO _).grown hg5 (by first | (simp;done) | (simp;omega)) (bQ p5);have WX:=ou.symm.kept Ce hg5;have I_:=ou.symm.step2 Ce m_ (by first | exact aC _ | omega | (simp;omega));obtain⟨aw,cpw,rfl,_,_⟩:=aO wF;clear hg5 m_ p4 p5 Ce wW wX KS;go_wp2;go_roundw
    case rel=>exact⟨k+1,0,A,B++ [(x,y)],_,_,aw,cpw,by omega,by go_num,by first | rfl | simp,rfl,by simp,by omega,by omega,by omega,by simp;omega,HN.out,by simpa using WX,by simpa using wF,by simpa using I_.symm,bR⟩
    case measure=>simp[intOf];omega
  ·have hE:bY l n=(A,B):=by
    have:=HT.out;unfold jY at this;rw[List.drop_eq_nil_of_le gX]at this;simpa[bY]using this
   have HE:=ah hE;have jK:¬ (k:Int)<l.length:=by omega
   clear hE HT;go_wp2
   go_ret3
   exact⟨_,_,rfl,by rw[HE.out];exact ji,by rw[HE.out];exact gP,ou,hb⟩
end
theorem NC (v:Value) (l:List Rg) (n:Int) (w:World) (h:fD w v l) (hs:Small l) (hl:l.length<1000000) (hn:dM l n=true) (hn0: -1000000000000<n) (Gh:n<1000000000000):
  Calls Tryz.prog 85 #[v,.int .i64 n] w (O3 w 2 56 (cZ l n).length (aR (cZ l n))):=by
 have HC:=ah (sP v l n w h);rw[hn]at HC;clear hn;obtain⟨ao,cap,rfl,dO,hm⟩:=Sl.shape h
 go_enter Tryz.func85,Tryz.ntmps85
 go_wp2_with fail
 refine HC.out.mono ?_;rintro e w0 ⟨rfl,rfl⟩;clear HC;go_wp2
 go_loopw[6,7] (fun v6 ix wr=>∃k:Nat,k≤l.length∧ix= .int .i64 k∧wr.ownsRow w0.heap.size 56 2 v6 (cZ (l.take k) n).length (aR (cZ (l.take k) n))∧Below w0.heap.size w0 wr) (fun _ ix _=>l.length-(intOf ix).toNat)
 case atStart=>exact⟨0,Nat.zero_le _,rfl,World.ownsRow_nil _ _ _ _,aL _ _⟩
 case round=>
  obtain⟨k,hk,rfl,ho,hb⟩:=hrel;have hz:=hb.size;have hLk:=wG (l.take k) n;have ac3:(l.take k).length≤k:=List.length_take_le _ _;rcases Nat.lt_or_ge k l.length with bA | gX
  ·obtain⟨b,off,rfl,kZ,lF,je⟩:=h.pair hb (aC _) k bA
   have hr:=hs l[k] (List.getElem_mem _);have HS:=ah (aS l k bA);have jK:(k:Int)<l.length:=by omega
   generalize l[k]=r at*;obtain⟨x,y⟩:=r;simp only at lF je hr;obtain⟨vQ,uH,KR⟩:=hr;have HL:Hid (cZ (l.take (k+1)) n=cZ (l.take k) n++nS n (x,y)):=by show _=_;rw[HS.out,Ar]
   generalize cZ (l.take k) n=L at*;clear HS;have eD:Below wr.heap.size wr (wr.alloc (.cells #[.int .i64 x,.int .i64 y] 56)):=(aL _ _).alloc (aC _) _;have DL:=heap_alloc_new wr (.cells #[.int .i64 x,.int .i64 y] 56);have Iz:=aI ho eD (aC _);have qP:=hb.trans (eD.mono hz);have UC:∀g,u6.ownBlock=some g→g<wr.heap.size:=fun g hg=>(ho.lt g hg).2
   have HP6:=ah UC;clear UC;go_upto_region 8 with fail
   generalize wr.alloc (.cells #[.int .i64 x,.int .i64 y] 56)=W8 at*;generalize wr.heap.size=p8 at*;clear lF je ho hb eD;obtain⟨c0,c1,_,_,hp8⟩:=iB DL;have Pm:=qP.size;by_cases hin:x≤n∧n<y
   ·obtain⟨hx,hy⟩:=hin
    have d1:¬n<x:=by omega
    have d2:¬y≤n:=by omega
    have iw:IntKind.i64.wrap (n+1)=n+1:=IntWalk.i64_in _ (by omega);by_cases tN:x<n
    ·go_upto_region 12 with((with_reducible refine aZ 47 ?_);refine fK (o:=⟨some 47,_,_,_,_,_⟩) rfl _ _ rfl w0.heap.size _ L.length L rfl (Iz.alloc _) _ _ x n rfl (dS _ _ _ _ _ (by first | rfl | simp)) (by omega) (by simp;omega) ?_;intro v7' w4 ji hg4 jk)
     have bR:Below w0.heap.size w0 w4:=(qP.alloc Pm _).grown hg4 (by first | (simp;done) | (simp;omega)) (bQ Iz)
     have eG:w4.heap[p8]? =some (.cells #[.int .i64 x,.int .i64 y] 56 (0,0)):=by
      rw[hg4.block p8 (by simp;omega) (fun e=>by have:=HP6.out p8 e.symm;omega),Below.heap_alloc _ _ _ hp8];exact DL
     have mZ:w4.ownsRow w0.heap.size 56 2 v7' (L++ [(x,n)]).length (aR (L++ [(x,n)])):=by simpa using ji
     have mP:=bR.size;obtain⟨av,YN,rfl,_,_⟩:=aO mZ;clear hg4 jk ji Iz DL c0 c1;obtain⟨c0,c1,_,_,aiY⟩:=iB eG;have hll:(L++ [(x,n)]).length<100000000:=by simp;omega
     by_cases Ep:n+1<y
     ·have HX:Hid (cZ (l.take (k+1)) n=L++ [(x,n)]++ [(n+1,y)]):=ah (by rw[HL.out];unfold nS;simp[hx,hy,tN,Ep])
      clear HL;generalize L++ [(x,n)]=L2 at*;go_wp2_with ((with_reducible refine aZ 60 ?_);refine fK (o:=⟨some 60,_,_,_,_,_⟩) rfl _ _ rfl w0.heap.size _ L2.length L2 rfl (mZ.alloc _) _ _ (n+1) y rfl (dS _ _ _ _ _ (by first | rfl | simp)) (by omega) (by simp;omega) ?_;intro v8' w5 gP hg4 jk)
      have gD:Below w0.heap.size w0 w5:=(bR.alloc mP _).grown hg4 (by first | (simp;done) | (simp;omega)) (bQ mZ);clear hg4 jk;go_wp2;go_roundw
      case rel=>exact⟨k+1,by omega,by go_num,by rw[HX.out];simpa using gP,gD⟩
      case measure=>simp[intOf];omega
     ·have HX:Hid (cZ (l.take (k+1)) n=L++ [(x,n)]):=ah (by rw[HL.out];unfold nS;simp[hx,hy,tN,Ep])
      clear HL;generalize L++ [(x,n)]=L2 at*;go_wp2;go_roundw
      case rel=>exact⟨k+1,by omega,by go_num,by rw[HX.out];exact mZ,bR⟩
      case measure=>simp[intOf];omega
    ·by_cases Ep:n+1<y
     ·have HX:Hid (cZ (l.take (k+1)) n=L++ [(n+1,y)]):=ah (by rw[HL.out];unfold nS;simp[hx,hy,tN,Ep])
      clear HL;go_wp2_with ((with_reducible refine aZ 60 ?_);refine fK (o:=⟨some 60,_,_,_,_,_⟩) rfl _ _ rfl w0.heap.size _ L.length L rfl (Iz.alloc _) _ _ (n+1) y rfl (dS _ _ _ _ _ (by first | rfl | simp)) (by omega) (by simp;omega) ?_;intro v8' w5 gP hg4 jk)
      have gD:Below w0.heap.size w0 w5:=(qP.alloc Pm _).grown hg4 (by first | (simp;done) | (simp;omega)) (bQ Iz);clear hg4 jk;go_wp2;go_roundw
      case rel=>exact⟨k+1,by omega,by go_num,by rw[HX.out];simpa using gP,gD⟩
      case measure=>simp[intOf];omega
     ·have HX:Hid (cZ (l.take (k+1)) n=L):=ah (by rw[HL.out];unfold nS;simp[hx,hy,tN,Ep])
      clear HL;go_wp2;go_roundw
      case rel=>exact⟨k+1,by omega,by go_num,by rw[HX.out];exact Iz,qP⟩
      case measure=>simp[intOf];omega
   ·have hc:Hid (nS n (x,y)= [(x,y)]):=ah (by unfold nS;rw[if_neg hin])
    have HX:Hid (cZ (l.take (k+1)) n=L++ [(x,y)]):=ah (by rw[HL.out,hc.out]);clear HL hc;have hor:n<x∨(¬n<x∧y≤n):=by omega
    rcases hor with d1 | ⟨d1,d2⟩
    all_goals
     go_wp2_with ((with_reducible refine aZ 36 ?_);refine fK (o:=⟨some 36,_,_,_,_,_⟩) rfl _ _ rfl w0.heap.size _ L.length L rfl (Iz.alloc _) _ _ x y rfl (dS _ _ _ _ _ (by first | rfl | simp)) (by omega) (by simp;omega) ?_;intro v6' w4 ji hg4 jk)
     have bR:Below w0.heap.size w0 w4:=(qP.alloc Pm _).grown hg4 (by first | (simp;done) | (simp;omega)) (bQ Iz);clear hg4 jk;go_roundw
     case rel=>exact⟨k+1,by omega,by go_num,by rw[HX.out];simpa using ji,bR⟩
     case measure=>simp[intOf];omega
  ·have jK:¬ (k:Int)<l.length:=by omega
   have HT:Hid (cZ (l.take k) n=cZ l n):=ah (by rw[List.take_of_length_le gX]);obtain⟨a6,c6,rfl,_,_⟩:=aO ho;have HO:=ah ho;clear ho hLk;go_wp2
   go_ret2
   exact⟨_,rfl,by rw[←HT.out];exact HO.out,hb⟩
theorem Qt (v:Value) (l:List Rg) (n:Int) (w:World) (h:fD w v l) (hn:dM l n=false):
  Calls Tryz.prog 85 #[v,.int .i64 n] w fun e w'=>e= .returned (.tuple #[.slice none 0 0,.bool false])∧Below w.heap.size w w':=by
 have HC:=ah (sP v l n w h);rw[hn]at HC;clear hn
 go_enter Tryz.func85,Tryz.ntmps85
 go_wp2_with fail
 refine HC.out.mono ?_;rintro e w0 ⟨rfl,rfl⟩;go_wp2
 go_ret2
 exact⟨rfl,aL _ _⟩
theorem ND (v:Value) (l:List Rg) (n:Int) (w:World) (h:fD w v l) (hs:Small l) (hl:l.length<1000000) (hn0: -1000000000000<n) (Gh:n<1000000000000):
  Calls Tryz.prog 85 #[v,.int .i64 n] w fun e w'=>∃v',e= .returned (.tuple #[v',.bool (dM l n)])∧(dM l n=true→w'.ownsRow w.heap.size 56 2 v' (cZ l n).length (aR (cZ l n)))∧Below w.heap.size w w':=by
 cases hq:dM l n with
 | false=>exact(Qt v l n w h hq).mono fun e w' ⟨h1,h2⟩=>⟨_,h1,(fun h=>by cases h),h2⟩
 | true=>exact(NC v l n w h hs hl hq hn0 Gh).mono fun e w' ⟨v',h1,h2,h3⟩=>⟨v',h1,fun _=>h2,h3⟩
def Ab (w0 W:World) (T:TypeId) (E:Nat) (v:Value) (n:Nat) (cs:List Value):Prop:=Sl w0 E v n cs∨W.ownsRow w0.heap.size T E v n cs
theorem Ab.sl {w0 W:World} {T:TypeId} {E:Nat} {v:Value} {n:Nat} {cs:List Value} (h:Ab w0 W T E v n cs) (hb:Below w0.heap.size w0 W):Sl W E v n cs:=by
 rcases h with h | h
 ·exact h.keep hb (aC _)
 ·exact aG h
theorem Ab.keep {w0 W W':World} {T:TypeId} {E:Nat} {v:Value} {n:Nat} {cs:List Value} (h:Ab w0 W T E v n cs) (hb:Below W.heap.size W W'):Ab w0 W' T E v n cs:=by
 rcases h with h | h
 ·exact .inl h
 ·exact .inr (aI h hb (aC _))
theorem Ab.other {w0 W W':World} {T T':TypeId} {E:Nat} {v:Value} {n:Nat} {cs:List Value} {g:Nat} {cur:Array Value} {z:Nat×Nat} (h:Ab w0 W T E v n cs) (aK:∀b,b≠g→W'.heap[b]? =W.heap[b]?) (hg:W.heap[g]? =some (.cells cur T' z)) (eP:T≠T'):Ab w0 W' T E v n cs:=by
 rcases h with h | h
 ·exact .inl h
 ·exact .inr (aF h aK hg eP)
structure Rq (p3 p6 p8:Nat) (w0 W:World) (x:dN) (b:Bk) (y:cB) (l:Ls):Prop where
 bC:Below w0.heap.size w0 W
 kb:W.heap[p3]? =some (.cells #[x.c.v,x.f.v,x.l.v,x.b.v] 30 (0,0))
 k6:W.heap[p6]? =some (.cells #[.slice none 0 0,.slice none 0 0,.slice none 0 0,.slice none 0 0] 30 (0,0))
 k8:W.heap[p8]? =some (.cells #[.int .i64 y.dev,.int .i64 y.epoch,.int .i64 y.bU,.int .i64 y.last,y.s.v,y.i.v,y.u.v] 48 (0,0))
 h3:w0.heap.size≤p3
 h6:w0.heap.size≤p6
 h8:w0.heap.size≤p8
 ne:p3≠p6
 rc:W.ownsRow w0.heap.size 54 7 x.c.v b.cs.length (aJ kY b.cs)
 rf:Ab w0 W 56 2 x.f.v b.free.length (aR b.free)
 rl:Ei w0 x.l.v b.ls
 rb:Ab w0 W 3 1 x.b.v b.bound.length (bS b.bound)
 ly:jF W w0.heap.size y l
section
variable {p3 p6 p8:Nat} {w0 W W':World} {x:dN} {b:Bk} {y:cB} {l:Ls}
theorem Rq.sz3 (h:Rq p3 p6 p8 w0 W x b y l):p3<W.heap.size:=(bq h.kb).1
theorem Rq.sz6 (h:Rq p3 p6 p8 w0 W x b y l):p6<W.heap.size:=(bq h.k6).1
theorem Rq.sz8 (h:Rq p3 p6 p8 w0 W x b y l):p8<W.heap.size:=(bq h.k8).1
theorem Rq.m (h:Rq p3 p6 p8 w0 W x b y l):iA W x b:=⟨aG h.rc,h.rf.sl h.bC,h.rl.keep h.bC (aC _),h.rb.sl h.bC⟩
theorem Rq.keep (h:Rq p3 p6 p8 w0 W x b y l) (hb:Below W.heap.size W W'):Rq p3 p6 p8 w0 W' x b y l:=
 ⟨h.bC.trans (hb.mono h.bC.size),aj h.kb hb h.sz3,aj h.k6 hb h.sz6,aj h.k8 hb h.sz8,h.h3,h.h6,h.h8,h.ne,aI h.rc hb (aC _),h.rf.keep hb,h.rl,h.rb.keep hb,h.ly.keep hb (aC _)⟩
theorem Rq.Ev (h:Rq p3 p6 p8 w0 W x b y l) {f':Sv} {free':List Rg} (ho:W.ownsRow w0.heap.size 56 2 f'.v free'.length (aR free')):
  Rq p3 p6 p8 w0 (W.setCell ⟨p3,1,none⟩ f'.v) ⟨x.c,f',x.l,x.b⟩ ⟨b.cs,free',b.ls,b.bound⟩ y l:=by
 have aK:∀c,c≠p3→(W.setCell ⟨p3,1,none⟩ f'.v).heap[c]? =W.heap[c]? :=fun c hc=>aX _ _ _ (fun e=>hc e.symm) _
 exact⟨h.bC.setCell h.h3 _,oC h.kb _,(aK p6 (fun e=>h.ne e.symm)).trans h.k6,oG h.k8 aK h.kb (by decide),h.h3,h.h6,h.h8,h.ne,aF h.rc aK h.kb (by decide),.inr (aF ho aK h.kb (by decide)),h.rl,h.rb.other aK h.kb (by decide),h.ly.other aK h.kb (by decide) (by decide) (by decide)⟩
theorem Rq.WY (h:Rq p3 p6 p8 w0 W x b y l) {b':Sv} {bd:List Int} (ho:W.ownsRow w0.heap.size 3 1 b'.v bd.length (bS bd)):
  Rq p3 p6 p8 w0 (W.setCell ⟨p3,3,none⟩ b'.v) ⟨x.c,x.f,x.l,b'⟩ ⟨b.cs,b.free,b.ls,bd⟩ y l:=by
 have aK:∀c,c≠p3→(W.setCell ⟨p3,3,none⟩ b'.v).heap[c]? =W.heap[c]? :=fun c hc=>aX _ _ _ (fun e=>hc e.symm) _
 exact⟨h.bC.setCell h.h3 _,vG h.kb _,(aK p6 (fun e=>h.ne e.symm)).trans h.k6,oG h.k8 aK h.kb (by decide),h.h3,h.h6,h.h8,h.ne,aF h.rc aK h.kb (by decide),h.rf.other aK h.kb (by decide),h.rl,.inr (aF ho aK h.kb (by decide)),h.ly.other aK h.kb (by decide) (by decide) (by decide)⟩
theorem Rq.Pg (h:Rq p3 p6 p8 w0 W x b y l) {i':Sv} {Aw:List Rg} (ho:W.ownsRow w0.heap.size 56 2 i'.v Aw.length (aR Aw)):
  Rq p3 p6 p8 w0 (W.setCell ⟨p8,5,none⟩ i'.v) x b ⟨y.dev,y.epoch,y.bU,y.last,y.s,i',y.u⟩ ⟨l.dev,l.epoch,l.bU,l.last,l.sl,Aw,l.used⟩:=by
 have aK:∀c,c≠p8→(W.setCell ⟨p8,5,none⟩ i'.v).heap[c]? =W.heap[c]? :=fun c hc=>aX _ _ _ (fun e=>hc e.symm) _
 exact⟨h.bC.setCell h.h8 _,oG h.kb aK h.k8 (by decide),oG h.k6 aK h.k8 (by decide),Ew h.k8 _,h.h3,h.h6,h.h8,h.ne,aF h.rc aK h.k8 (by decide),h.rf.other aK h.k8 (by decide),h.rl,h.rb.other aK h.k8 (by decide),
  ⟨h.ly.dev,h.ly.epoch,h.ly.bU,h.ly.last,aF h.ly.s aK h.k8 (by decide),aF ho aK h.k8 (by decide),aF h.ly.u aK h.k8 (by decide)⟩⟩
theorem Rq.zF (h:Rq p3 p6 p8 w0 W x b y l) {g n cap:Nat} (hx:x.c=⟨some ⟨g,0,none⟩,n,cap⟩) (j:Nat) (hj:j<b.cs.length*7) (u:Value) {cs':List Ct} (kE:(aJ kY b.cs).set j u=aJ kY cs') (hl:cs'.length=b.cs.length):
  Rq p3 p6 p8 w0 (W.setCell ⟨g,j,none⟩ u) x ⟨cs',b.free,b.ls,b.bound⟩ y l:=by
 have aK:∀c,c≠g→(W.setCell ⟨g,j,none⟩ u).heap[c]? =W.heap[c]? :=fun c hc=>aX _ _ _ (fun e=>hc e.symm) _
 have rT:=h.rc;rw[hx]at rT;simp only[Sv.v]at rT
 have hn:n=b.cs.length:=by
  obtain⟨_,_,he,_,_⟩:=aO rT;injection he with _ he _
 subst hn;obtain⟨cur,hg⟩:=eB rT;have hB:w0.heap.size≤g:=(bg rT).1;have iW:=dV rT j (by rw[bP fG];exact hj) u;rw[kE]at iW;exact⟨h.bC.setCell hB _,oG h.kb aK hg (by decide),oG h.k6 aK hg (by decide),oG h.k8 aK hg (by decide),h.h3,h.h6,h.h8,h.ne,by rw[hx];show World.ownsRow _ _ _ _ _ cs'.length _;rw[hl];exact iW,h.rf.other aK hg (by decide),h.rl,h.rb.other aK hg (by decide),h.ly.other aK hg (by decide) (by decide) (by decide)⟩
end
end Go.Proofs.YtlfopoimbbpfdaaGreat
