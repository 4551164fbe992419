/- What the law asks, in parts: LLa LRl ZF ZG ZH. -/
import Derived.IntWalk
import Derived.Deep.DrawnRows
import Derived.Test.YtlfopoimbbpfdaaGreatPk19
import Derived.Test.YtlfopoimbbpfdaaGreatPk3
import Derived.Test.YtlfopoimbbpfdaaGreatPk6
import Derived.Test.YtlfopoimbbpfdaaGreatPk0
import Derived.Test.YtlfopoimbbpfdaaGreatPk18
import Derived.Test.YtlfopoimbbpfdaaGreatPk16
set_option linter.all false
namespace Go.Proofs.YtlfopoimbbpfdaaGreat
open Go.RowKit
set_option maxHeartbeats 400000 in
theorem Li (a n:Int) (w:World) (hn:0<n) (hn2:n≤4611686018427387904):
  Calls Tryz.prog 18 #[.int .i64 a,.int .i64 n] w fun e w'=>e= .returned (.int .i64 (a%n))∧w=w':=by
 have h2:=Int.emod_nonneg a (show n≠0 by omega)
 have h3:=Int.emod_lt_of_pos a hn
 by_cases h:0≤a
 ·go_enter Tryz.func18,Tryz.ntmps18
  go_wp2
  go_ret
  exact⟨rfl,rfl⟩
 ·have h4:=ah (zH a n hn (by omega))
  have h5:a.tmod n≤0:=by rw[←Int.neg_neg a,Int.neg_tmod];have:=Int.tmod_nonneg n (show 0≤ -a by omega);omega
  have h6: -n<a.tmod n:=by rw[←Int.neg_neg a,Int.neg_tmod];have:=Int.tmod_lt_of_pos (-a) hn;omega
  go_enter Tryz.func18,Tryz.ntmps18
  go_wp2
  all_goals go_ret
  all_goals refine⟨dL ?_,rfl⟩
  ·rw[←h4.out,if_pos (by assumption)]
  ·rw[←h4.out,if_neg (by omega)]
theorem iI (a n:Int) (w:World) (hn:0<n) (hn2:n≤4611686018427387904):
  Calls Tryz.prog 18 #[.int .i64 a,.int .i64 n] w fun e w'=>e= .returned (.int .i64 (a%n))∧w'=w:=
 (Li a n w hn hn2).mono fun _ _ ⟨h1,h2⟩=>⟨h1,h2.symm⟩
theorem Oh (v:Value) (l:List Ct) (ids:Int) (w:World) (h:mD w v l) (hkey:∀c∈l,c.key.size≤maxLen):
  Calls Tryz.prog 20 #[v,.int .i64 ids] w (qA w (newS l ids)):=by
 by_cases h4:4<l.length
 ·exact J6 v l ids w h h4
 ·exact ND v l ids w h (by omega) hkey
theorem Lj (v:Value) (l:List Ct) (ids:Int) (w:World) (h:mD w v l) (hkey:∀c∈l,c.key.size≤maxLen):
  Calls Tryz.prog 22 #[v,.int .i64 ids] w (qA w (newS l ids)):=by
 by_cases h4:4<l.length
 ·exact IY v l ids w h h4
 ·exact Lh v l ids w h (by omega) hkey
def kCt:Ct:=⟨⟨#[120]⟩,0,0,10,4,0,0⟩
def Oi:Bk:=⟨[⟨⟨#[120]⟩,0,0,10,4,6,4⟩],[(0,5)],[],[]⟩
theorem IZ:newS [kCt] 5=(Oi,0):=by decide +kernel
theorem I4:Bf Oi=true:=by decide +kernel
set_option maxHeartbeats 1000000 in
theorem ug (w:World):Calls Tryz.prog 7 #[] w fun e w'=>e= .returned (.bool true)∧Below w.heap.size w w':=by
 have hb1:Below w.heap.size w (w.alloc (.cells #[.string ⟨#[120]⟩,.int .i64 0,.int .i64 0,.int .i64 10,.int .i64 4,.int .i64 0,.int .i64 0] 54)):=(aL _ _).alloc (aC _) _
 have HS:Hid (mD (w.alloc (.cells #[.string ⟨#[120]⟩,.int .i64 0,.int .i64 0,.int .i64 10,.int .i64 4,.int .i64 0,.int .i64 0] 54)) (.slice (some ⟨w.heap.size,0,none⟩) 1 1) [kCt]):=
  ah (aI (cO w w.heap.size w.heap.size 54 7 #[.string ⟨#[120]⟩,.int .i64 0,.int .i64 0,.int .i64 10,.int .i64 4,.int .i64 0,.int .i64 0] 1 rfl (aC _) (by omega) rfl))
 go_enter Tryz.func7,Tryz.ntmps7
 go_wp2_with fail
 refine(Oh _ [kCt] 5 _ HS.out (by intro c hc;simp at hc;subst hc;unfold maxLen;decide)).mono ?_
 rw[IZ]
 rintro e w2 ⟨⟨⟨ca,cn,cc⟩,⟨fa,fn,fc⟩,⟨la,ln,lc⟩,⟨ba,bn,bc⟩⟩,rfl,hm,hb2⟩
 have hbw:=hb1.trans (hb2.mono hb1.size)
 have dK:Below w2.heap.size w2 (w2.alloc (.cells #[.slice ca cn cc,.slice fa fn fc,.slice la ln lc,.slice ba bn bc] 30)):=(aL _ _).alloc (aC _) _
 have HM:=ah (hm.keep dK (aC _))
 have hmc:=hm.c
 have hx:=Sl.lens (s:=⟨ca,cn,cc⟩) hmc
 obtain⟨e1,g1,g2⟩:=hx
 simp only at e1 g1 g2
 have e2:cn=1:=e1
 subst e2
 obtain⟨b,off,rfl,hbl,c0,c1,c2,c3,c4,c5,c6⟩:=cK.ct (l:=Oi.cs) (ao:=ca) (cap:=cc) hmc (aL _ w2) (aC _) 0 (by decide)
 simp only[Nat.zero_mul,Nat.add_zero]at c0 c1 c2 c3 c4 c5 c6
 simp only[Oi,List.getElem_cons_zero]at c5 c6
 have Eb:Hid (N8 Oi):=ah ⟨by decide,by decide,by intro c hc;simp[Oi]at hc;subst hc;unfold maxLen;decide,by intro l hl;simp[Oi]at hl⟩
 have hz2:=hbw.size
 simp only[Oi,List.length_cons,List.length_nil,Nat.zero_add]at g1
 clear hm hmc e1 HS hb1 hb2 c0 c1 c2 c3 c4 dK
 go_wp2_with ((go_at_call 12;refine(uf ⟨⟨some ⟨b,off,none⟩,1,cc⟩,⟨fa,fn,fc⟩,⟨la,ln,lc⟩,⟨ba,bn,bc⟩⟩ Oi _ HM.out Eb.out).mono ?_);rw[I4];rintro e w4 ⟨rfl,hb4⟩)
 go_ret
 exact⟨rfl,(hbw.alloc hz2 _).trans (hb4.mono (by simp;omega))⟩
end Go.Proofs.YtlfopoimbbpfdaaGreat
namespace Go.Proofs.YtlfopoimbbpfdaaGreat
open Go.RowKit
set_option maxHeartbeats 2000000 in
theorem rZ (v:Value) (l:List Rg) (w:World) (h:fq w v l) (hs:Small l) (hl:l.length<1000000):
  Calls Tryz.prog 13 #[v] w fun e w'=>e= .returned (.int .i64 (bR l))∧Below w.heap.size w w':=by
 obtain⟨ao,cap,rfl,hcap,hm⟩:=Sl.shape h
 go_enter Tryz.func13,Tryz.ntmps13
 go_wp2
 go_loopw[3,4] (fun n i wr=>∃ (k:Nat) (N:Int),k≤l.length∧i= .int .i64 k∧n= .int .i64 N∧Hid (N=bR (l.take k))∧Below w.heap.size w wr) (fun _ i _=>l.length-(intOf i).toNat)
 case atStart=>exact⟨0,0,Nat.zero_le _,rfl,rfl,ah rfl,aL _ _⟩
 case round=>
  obtain⟨k,N,hk,rfl,rfl,HN,hb⟩:=hrel
  by_cases hlt:k<l.length
  ·obtain⟨b,off,rfl,hbl,hc1,hc2⟩:=h.pair hb (aC _) k hlt
   have hbd:=jw _ (hs.take k)
   rw[←HN.out]at hbd
   have hr:=hs l[k] (List.getElem_mem _)
   have hln:(l.take k).length≤k:=List.length_take_le _ _
   have HT:=ah (oF (l.take k) [l[k]])
   have HS:=ah (aV l k hlt)
   generalize l[k]=r at*
   obtain⟨p,q⟩:=r
   simp only at hc1 hc2 hr
   obtain⟨hr1,hr2,hr3⟩:=hr
   obtain⟨Ui,Uj⟩:=hbd
   have iG:(k:Int)<l.length:=by omega
   have i1:IntKind.i64.wrap (N+q)=N+q:=IntWalk.i64_in _ (by omega)
   have i2:IntKind.i64.wrap (N+q-p)=N+q-p:=IntWalk.i64_in _ (by omega)
   clear Ui Uj hln
   go_wp2_with fail
   go_quiet (fail)
   clear i1 i2
   go_wp2
   go_roundw
   case rel=>exact⟨k+1,N+q-p,by omega,by go_num,rfl,ah (by rw[HS.out,HT.out,HN.out];simp[bR];omega),below_drewN hb _⟩
   case measure=>simp[intOf];omega
  ·have HE:Hid (N=bR l):=ah (by rw[HN.out,List.take_of_length_le (by omega)])
   go_wp2
   go_ret
   exact⟨dL HE.out,hb⟩
end Go.Proofs.YtlfopoimbbpfdaaGreat
namespace Go.Proofs.YtlfopoimbbpfdaaGreat
open Go.RowKit
theorem Du {o:Oper} {a:Act} {w:World} {K:Act→World→Prop} {Q:Exit→Act→World→Prop}
  (s x:Operand) (hop:o.op=Op.call { callee:=Callee.builtin Builtin.append,args:= #[s,x],argTypes:= #[26,26] })
  (base:Nat) (v:Value) (n:Nat) (l:List Rg) (hs:a.eval s=v) (hown:w.ownsRow base 56 2 v n (aR l))
  (ad:Addr) (c:Nat) (p q:Int) (hx:a.eval x= .slice (some ad) 1 c) (hnews:∀j u,[Value.int .i64 p,.int .i64 q][j]? =some u→w.cell? (ad.add j)=some u)
  (hn:n<1000000000) (hbase:base≤w.heap.size)
  (hK:∀v' w',w'.ownsRow base 56 2 v' (n+1) (aR (l++ [(p,q)]))→w.grownBy w' v.ownBlock→(v'.ownBlock=v.ownBlock∨v'.ownBlock=some w.heap.size)→K (a.put o.dst v') w'):Oper.wp Tryz.prog o a w K Q:=by
 obtain⟨i,hi,hz0,hz1,hz2⟩:=info_parts Tryz.wF
 obtain⟨v',w',hr,h2,h3,_,h5⟩:=run_append_own_at (P:= Tryz.prog) w base 26 o.type 56 i _ 2 16 Tryz.underlying26 hi hz0 hz1 hz2 rfl (by decide) v n _ hown ad 1 c [.int .i64 p,.int .i64 q] rfl hnews (by simp[Value.oneCell']) (by unfold maxLen;omega) (by omega) hbase
 unfold Oper.wp execOp
 simp only[hop,resolve,invoke,builtin,Sem.run_bind,Sem.run_pure,Result.andThen_ok,List.map_toArray,List.map_cons,List.map_nil,hs,hx,hr]
 refine hK v' w' ?_ h3 h5
 rw[lV]
 exact h2
theorem jg {ops:Array Oper} {o:Oper} {a:Act} {w:World} {K:Act→World→Prop} {Q:Exit→Act→World→Prop} {E:Prop} (hg:o.guard=none)
  (s x:Operand) (hop:o.op=Op.call { callee:=Callee.builtin Builtin.append,args:= #[s,x],argTypes:= #[26,26] })
  (base:Nat) (v:Value) (n:Nat) (l:List Rg) (hs:a.eval s=v) (hown:w.ownsRow base 56 2 v n (aR l))
  (ad:Addr) (c:Nat) (p q:Int) (hx:a.eval x= .slice (some ad) 1 c) (hnews:∀j u,[Value.int .i64 p,.int .i64 q][j]? =some u→w.cell? (ad.add j)=some u)
  (hn:n<1000000000) (hbase:base≤w.heap.size)
  (hK:∀v' w',w'.ownsRow base 56 2 v' (n+1) (aR (l++ [(p,q)]))→w.grownBy w' v.ownBlock→(v'.ownBlock=v.ownBlock∨v'.ownBlock=some w.heap.size)→K (a.put o.dst v') w'):
  if Region.wanted o (yielded ops a.tmps)=true then Oper.wp Tryz.prog o a w K Q else E:=by
 have hw:Region.wanted o (yielded ops a.tmps)=true:=by simp[Region.wanted,hg]
 rw[if_pos hw]
 exact Du s x hop base v n l hs hown ad c p q hx hnews hn hbase hK
attribute [local go_sem ↓] Go.wp_at_zero Go.wp_at_succ
set_option maxRecDepth 100000 in
set_option maxHeartbeats 8000000 in
theorem Ll (v:Value) (l:List Rg) (n:Int) (w:World) (h:fq w v l) (hs:Small l) (hl:l.length<100000) (h0:0≤n) (h1:n≤bR l):
  Calls Tryz.prog 116 #[v,.int .i64 n] w (JW w 2 56 (aR (bO l n).1) (aR (bO l n).2) (bO l n).1.length (bO l n).2.length 0):=by
 obtain⟨ao,cap,rfl,hcap,hm⟩:=Sl.shape h
 have hlen:=(jw l hs).2
 have d0:decide (n<0)=false:=by simpa using h0
 have d1:decide (bR l<n)=false:=by simpa using h1
 go_enter Tryz.func116,Tryz.ntmps116
 go_wp2_with fail
 refine(rZ _ _ _ h hs (by omega)).mono ?_
 rintro e w0 ⟨rfl,hb0⟩
 go_wp2
 go_loopw[1,7,8,9] (fun nv v7 v8 ix wr=>∃ (k:Nat) (m:Int) (A B:List Rg) (a7:Option Addr) (c7:Nat) (a8:Option Addr) (c8:Nat),k≤l.length∧ix= .int .i64 k∧nv= .int .i64 m∧v7= .slice a7 A.length c7∧v8= .slice a8 B.length c8∧0≤m∧m≤n∧A.length≤k∧B.length≤k∧iY l n k m A B∧
  wr.ownsRow w.heap.size 56 2 (.slice a7 A.length c7) A.length (aR A)∧wr.ownsRow w.heap.size 56 2 (.slice a8 B.length c8) B.length (aR B)∧Apart (.slice a7 A.length c7) (.slice a8 B.length c8)∧Below w.heap.size w wr) (fun _ _ _ ix _=>l.length-(intOf ix).toNat)
 case atStart=>exact⟨0,n,[],[],none,0,none,0,Nat.zero_le _,rfl,rfl,rfl,rfl,h0,Int.le_refl _,aC _,aC _,rfl,World.ownsRow_nil _ _ _ _,World.ownsRow_nil _ _ _ _,tF _,hb0⟩
 case round=>
  obtain⟨k,m,A,B,a7,c7,a8,c8,hk,rfl,rfl,rfl,rfl,hm0,hmn,hA,hB,hT,iD,fQ,hap,hb⟩:=hrel
  have hz:=hb.size
  have HT:=ah hT
  clear hT hb0
  rcases Nat.lt_or_ge k l.length with hlt | hge
  ·obtain⟨b,off,rfl,hbl,hc1,hc2⟩:=h.pair hb (aC _) k hlt
   have hr:=hs l[k] (List.getElem_mem _)
   have iG:(k:Int)<l.length:=by omega
   obtain⟨x,y,hxy⟩:∃x y,l[k]=(x,y):=⟨_,_,rfl⟩
   have HR:=ah hxy
   have Rv:=ah (fun hh=>HT.out.a hlt hh)
   have Rw:=ah (fun hh hd=>HT.out.b hlt hh hd)
   have Pw:=ah (fun hh hd=>HT.out.c hlt hh hd)
   rw[hxy]at Rv Rw Pw hr hc1 hc2
   clear hxy HT
   simp only at Rv Rw Pw hr hc1 hc2
   obtain⟨hr1,hr2,hr3⟩:=hr
   have i1:IntKind.i64.wrap (y-x)=y-x:=IntWalk.i64_in _ (by omega)
   rcases Int.lt_or_le 0 m with hmp | hmz
   ·rcases Int.lt_trichotomy m (y-x)with hd | hd | hd
    ·have HN:=ah (Rw.out hmp hd)
     clear Rv Rw Pw
     go_upto_region 9 with fail
     go_cut[10] (fun v10 wx=>v10= .int .i64 (m)∧Below wr.heap.size wr wx)
     case first=>
      go_quiet (fail)
      go_wp2
      go_meet
      exact⟨rfl,below_drewN (aL _ _) _⟩
     case rest=>
     obtain⟨rfl,hbq⟩:=hcut
     obtain⟨W1,hW1⟩:∃W1,W1=wc:=⟨_,rfl⟩
     subst hW1
     have o9:=aJ iD hbq (aC _)
     have xM:=aJ fQ hbq (aC _)
     have hb1:=hb.trans (hbq.mono hz)
     have hz1:=hb1.size
     clear iD fQ hbq hc1 hc2 hb
     have i2:IntKind.i64.wrap (x+(m))=x+(m):=IntWalk.i64_in _ (by omega)
     go_upto_region 11 with fail
     have KS:Hid (∀V,Below w.heap.size w V→(Below w.heap.size w V∧V.cell? ⟨b,off+k*2,none⟩=some (.int .i64 x)∧V.cell? ⟨b,off+k*2+1,none⟩=some (.int .i64 y))):=ah (fun V hV=>by
      obtain⟨b1,off1,iJ,Dv,g1,g2⟩:=h.pair hV (aC _) k hlt
      injection iJ with iJ
      injection iJ with e1 e2
      subst e1 e2
      rw[HR.out]at g1 g2
      exact⟨hV,g1,g2⟩)
     have yB:=aJ o9 (((aL W1.heap.size W1).drew).alloc (aC _) (.cells #[.int .i64 (x),.int .i64 (x+(m))] 56)) (aC _)
     have uS:=aJ xM (((aL W1.heap.size W1).drew).alloc (aC _) (.cells #[.int .i64 (x),.int .i64 (x+(m))] 56)) (aC _)
     have r_:=ah yB
     have sj:=ah uS
     clear yB uS
     go_region_held3 (fun w'=>Below w.heap.size w w'∧w'.cell? ⟨b,off+k*2,none⟩=some (.int .i64 x)∧w'.cell? ⟨b,off+k*2+1,none⟩=some (.int .i64 y))
      (first | assumption | exact KS.out _ hb1.drew | exact KS.out _ ((hb1.drew).alloc hz1 _) | exact KS.out _ (((hb1.drew).alloc hz1 _).grown hg4 (by first | (simp;done) | (simp;omega)) (bK o9)))
      ((refine jg (by rfl) (.tmp 38) (.tmp 52) (by rfl) w.heap.size _ A.length A (by rfl) r_.out ⟨W1.heap.size,0,none⟩ 1 (x) (x+(m)) (by rfl) (dw W1.drew W1.heap.size _ _ _ rfl) (by omega) (by first | exact Nat.le_trans hz1 (by simp) | (simp;omega)) ?_;intro v4 w1 kg hg4 iq))
     have uS:=sj.out
     have hbx:Below w.heap.size w w1:=((hb1.drew).alloc hz1 _).grown hg4 (by first | (simp;done) | (simp;omega)) (bK o9)
     have Dw:=hap.kept uS hg4
     have I5:=hap.step2 uS iq (by first | exact aC _ | omega | (simp;omega))
     have hzx:=hbx.size
     clear hg4 iq o9 xM hap uS r_ sj KS
     obtain⟨av,TV,rfl,_,_⟩:=aP kg
     go_upto_region 12 with fail
     obtain⟨b1,off1,iJ,Dv,c1,c2⟩:=h.pair hbx (aC _) k hlt
     injection iJ with iJ
     injection iJ with e1 e2
     subst e1 e2
     rw[HR.out]at c1 c2
     simp only at c1 c2
     go_cut[66] (fun v66 wx=>v66= .bool true∧Below w1.heap.size w1 wx)
     case first=>
      go_quiet (fail)
      go_wp2
      go_meet
      exact⟨by first | rfl | (congr 1;first | exact decide_eq_true (by omega) | exact decide_eq_false (by omega)),below_drewN (aL _ _) _⟩
     case rest=>
     obtain⟨rfl,hbq⟩:=hcut
     obtain⟨W3,hW3⟩:∃W3,W3=wc:=⟨_,rfl⟩
     subst hW3
     have p4:=aJ kg hbq (aC _)
     have p5:=aJ Dw hbq (aC _)
     have hb3:=hbx.trans (hbq.mono hzx)
     have hz3:=hb3.size
     clear kg Dw hbq c1 c2
     go_upto_region 13 with fail
     have KS:Hid (∀V,Below w.heap.size w V→(Below w.heap.size w V∧V.cell? ⟨b,off+k*2,none⟩=some (.int .i64 x)∧V.cell? ⟨b,off+k*2+1,none⟩=some (.int .i64 y))):=ah (fun V hV=>by
      obtain⟨b1,off1,iJ,Dv,g1,g2⟩:=h.pair hV (aC _) k hlt
      injection iJ with iJ
      injection iJ with e1 e2
      subst e1 e2
      rw[HR.out]at g1 g2
      exact⟨hV,g1,g2⟩)
     have yB:=aJ p4 (((aL W3.heap.size W3).drew).alloc (aC _) (.cells #[.int .i64 (x+(m)),.int .i64 (y)] 56)) (aC _)
     have uS:=aJ p5 (((aL W3.heap.size W3).drew).alloc (aC _) (.cells #[.int .i64 (x+(m)),.int .i64 (y)] 56)) (aC _)
     have r_:=ah yB
     have sj:=ah uS
     clear yB uS
     go_region_held3 (fun w'=>Below w.heap.size w w'∧w'.cell? ⟨b,off+k*2,none⟩=some (.int .i64 x)∧w'.cell? ⟨b,off+k*2+1,none⟩=some (.int .i64 y))
      (first | assumption | exact KS.out _ hb3.drew | exact KS.out _ ((hb3.drew).alloc hz3 _) | exact KS.out _ (((hb3.drew).alloc hz3 _).grown hg5 (by first | (simp;done) | (simp;omega)) (bK p5)))
      ((refine jg (by rfl) (.tmp 67) (.tmp 81) (by rfl) w.heap.size _ B.length B (by rfl) sj.out ⟨W3.heap.size,0,none⟩ 1 (x+(m)) (y) (by rfl) (dw W3.drew W3.heap.size _ _ _ rfl) (by omega) (by first | exact Nat.le_trans hz3 (by simp) | (simp;omega)) ?_;intro v5 w2 rz hg5 kP))
     have yB:=r_.out
     have hb4:Below w.heap.size w w2:=((hb3.drew).alloc hz3 _).grown hg5 (by first | (simp;done) | (simp;omega)) (bK p5)
     have Rx:=I5.symm.kept yB hg5
     have Ew:=I5.symm.step2 yB kP (by first | exact aC _ | omega | (simp;omega))
     obtain⟨aw,cpw,rfl,_,_⟩:=aP rz
     clear hg5 kP p4 p5 yB r_ sj KS
     go_wp2
     go_roundw
     case rel=>exact⟨k+1,0,A++ [(x,x+m)],B++ [(x+m,y)],av,TV,aw,cpw,by omega,by go_num,by first | rfl | simp,by simp,by simp,by omega,by omega,by simp;omega,by simp;omega,HN.out,by simpa using Rx,by simpa using rz,by simpa using Ew.symm,hb4⟩
     case measure=>simp[intOf];omega
    ·have HN:=ah (Pw.out hmp (by omega))
     have Oj:Hid (x+m=y):=ah (by omega)
     have Ol:Hid (m-(y-x)=0):=ah (by omega)
     have hd1:y-x≤m:=by omega
     have hd2:m≤y-x:=by omega
     clear Rv Rw Pw hd
     go_upto_region 9 with fail
     go_cut[10] (fun v10 wx=>v10= .int .i64 (m)∧Below wr.heap.size wr wx)
     case first=>
      go_quiet (fail)
      go_wp2
      go_meet
      exact⟨rfl,below_drewN (aL _ _) _⟩
     case rest=>
     obtain⟨rfl,hbq⟩:=hcut
     obtain⟨W1,hW1⟩:∃W1,W1=wc:=⟨_,rfl⟩
     subst hW1
     have o9:=aJ iD hbq (aC _)
     have xM:=aJ fQ hbq (aC _)
     have hb1:=hb.trans (hbq.mono hz)
     have hz1:=hb1.size
     clear iD fQ hbq hc1 hc2 hb
     have i2:IntKind.i64.wrap (x+(m))=x+(m):=IntWalk.i64_in _ (by omega)
     go_upto_region 11 with fail
     have KS:Hid (∀V,Below w.heap.size w V→(Below w.heap.size w V∧V.cell? ⟨b,off+k*2,none⟩=some (.int .i64 x)∧V.cell? ⟨b,off+k*2+1,none⟩=some (.int .i64 y))):=ah (fun V hV=>by
      obtain⟨b1,off1,iJ,Dv,g1,g2⟩:=h.pair hV (aC _) k hlt
      injection iJ with iJ
      injection iJ with e1 e2
      subst e1 e2
      rw[HR.out]at g1 g2
      exact⟨hV,g1,g2⟩)
     have yB:=aJ o9 (((aL W1.heap.size W1).drew).alloc (aC _) (.cells #[.int .i64 (x),.int .i64 (x+(m))] 56)) (aC _)
     have uS:=aJ xM (((aL W1.heap.size W1).drew).alloc (aC _) (.cells #[.int .i64 (x),.int .i64 (x+(m))] 56)) (aC _)
     have r_:=ah yB
     have sj:=ah uS
     clear yB uS
     go_region_held3 (fun w'=>Below w.heap.size w w'∧w'.cell? ⟨b,off+k*2,none⟩=some (.int .i64 x)∧w'.cell? ⟨b,off+k*2+1,none⟩=some (.int .i64 y))
      (first | assumption | exact KS.out _ hb1.drew | exact KS.out _ ((hb1.drew).alloc hz1 _) | exact KS.out _ (((hb1.drew).alloc hz1 _).grown hg4 (by first | (simp;done) | (simp;omega)) (bK o9)))
      ((refine jg (by rfl) (.tmp 38) (.tmp 52) (by rfl) w.heap.size _ A.length A (by rfl) r_.out ⟨W1.heap.size,0,none⟩ 1 (x) (x+(m)) (by rfl) (dw W1.drew W1.heap.size _ _ _ rfl) (by omega) (by first | exact Nat.le_trans hz1 (by simp) | (simp;omega)) ?_;intro v4 w1 kg hg4 iq))
     have uS:=sj.out
     have hbx:Below w.heap.size w w1:=((hb1.drew).alloc hz1 _).grown hg4 (by first | (simp;done) | (simp;omega)) (bK o9)
     have Dw:=hap.kept uS hg4
     have I5:=hap.step2 uS iq (by first | exact aC _ | omega | (simp;omega))
     have hzx:=hbx.size
     clear hg4 iq o9 xM hap uS r_ sj KS
     obtain⟨av,TV,rfl,_,_⟩:=aP kg
     go_upto_region 12 with fail
     obtain⟨b1,off1,iJ,Dv,c1,c2⟩:=h.pair hbx (aC _) k hlt
     injection iJ with iJ
     injection iJ with e1 e2
     subst e1 e2
     rw[HR.out]at c1 c2
     simp only at c1 c2
     go_cut[66] (fun v66 wx=>v66= .bool false∧Below w1.heap.size w1 wx)
     case first=>
      go_quiet (fail)
      go_wp2
      go_meet
      exact⟨by first | rfl | (congr 1;first | exact decide_eq_true (by omega) | exact decide_eq_false (by omega)),below_drewN (aL _ _) _⟩
     case rest=>
     obtain⟨rfl,hbq⟩:=hcut
     obtain⟨W3,hW3⟩:∃W3,W3=wc:=⟨_,rfl⟩
     subst hW3
     have p4:=aJ kg hbq (aC _)
     have p5:=aJ Dw hbq (aC _)
     have hb3:=hbx.trans (hbq.mono hzx)
     have hz3:=hb3.size
     clear kg Dw hbq c1 c2
     go_wp2
     go_roundw
     case rel=>exact⟨k+1,m-(y-x),A++ [(x,x+m)],B,av,TV,_,_,by omega,by go_num,by rw[Ol.out],by simp,rfl,by omega,by omega,by simp;omega,by omega,by rw[Oj.out];exact HN.out,by simpa using p4,by simpa using p5,by simpa using I5,hb3⟩
     case measure=>simp[intOf];omega
    ·have HN:=ah (Pw.out hmp (by omega))
     have hd1:¬m≤y-x:=by omega
     have hd3:x+(y-x)=y:=by omega
     have HD3:=ah hd3
     clear Rv Rw Pw hd3
     go_upto_region 9 with fail
     go_cut[10] (fun v10 wx=>v10= .int .i64 (y-x)∧Below wr.heap.size wr wx)
     case first=>
      go_quiet (fail)
      go_wp2
      go_meet
      exact⟨rfl,below_drewN (aL _ _) _⟩
     case rest=>
     obtain⟨rfl,hbq⟩:=hcut
     obtain⟨W1,hW1⟩:∃W1,W1=wc:=⟨_,rfl⟩
     subst hW1
     have o9:=aJ iD hbq (aC _)
     have xM:=aJ fQ hbq (aC _)
     have hb1:=hb.trans (hbq.mono hz)
     have hz1:=hb1.size
     clear iD fQ hbq hc1 hc2 hb
     have i2:IntKind.i64.wrap (x+(y-x))=x+(y-x):=IntWalk.i64_in _ (by omega)
     go_upto_region 11 with fail
     have KS:Hid (∀V,Below w.heap.size w V→(Below w.heap.size w V∧V.cell? ⟨b,off+k*2,none⟩=some (.int .i64 x)∧V.cell? ⟨b,off+k*2+1,none⟩=some (.int .i64 y))):=ah (fun V hV=>by
      obtain⟨b1,off1,iJ,Dv,g1,g2⟩:=h.pair hV (aC _) k hlt
      injection iJ with iJ
      injection iJ with e1 e2
      subst e1 e2
      rw[HR.out]at g1 g2
      exact⟨hV,g1,g2⟩)
     have yB:=aJ o9 (((aL W1.heap.size W1).drew).alloc (aC _) (.cells #[.int .i64 (x),.int .i64 (x+(y-x))] 56)) (aC _)
     have uS:=aJ xM (((aL W1.heap.size W1).drew).alloc (aC _) (.cells #[.int .i64 (x),.int .i64 (x+(y-x))] 56)) (aC _)
     have r_:=ah yB
     have sj:=ah uS
     clear yB uS
     go_region_held3 (fun w'=>Below w.heap.size w w'∧w'.cell? ⟨b,off+k*2,none⟩=some (.int .i64 x)∧w'.cell? ⟨b,off+k*2+1,none⟩=some (.int .i64 y))
      (first | assumption | exact KS.out _ hb1.drew | exact KS.out _ ((hb1.drew).alloc hz1 _) | exact KS.out _ (((hb1.drew).alloc hz1 _).grown hg4 (by first | (simp;done) | (simp;omega)) (bK o9)))
      ((refine jg (by rfl) (.tmp 38) (.tmp 52) (by rfl) w.heap.size _ A.length A (by rfl) r_.out ⟨W1.heap.size,0,none⟩ 1 (x) (x+(y-x)) (by rfl) (dw W1.drew W1.heap.size _ _ _ rfl) (by omega) (by first | exact Nat.le_trans hz1 (by simp) | (simp;omega)) ?_;intro v4 w1 kg hg4 iq))
     have uS:=sj.out
     have hbx:Below w.heap.size w w1:=((hb1.drew).alloc hz1 _).grown hg4 (by first | (simp;done) | (simp;omega)) (bK o9)
     have Dw:=hap.kept uS hg4
     have I5:=hap.step2 uS iq (by first | exact aC _ | omega | (simp;omega))
     have hzx:=hbx.size
     clear hg4 iq o9 xM hap uS r_ sj KS
     obtain⟨av,TV,rfl,_,_⟩:=aP kg
     go_upto_region 12 with fail
     obtain⟨b1,off1,iJ,Dv,c1,c2⟩:=h.pair hbx (aC _) k hlt
     injection iJ with iJ
     injection iJ with e1 e2
     subst e1 e2
     rw[HR.out]at c1 c2
     simp only at c1 c2
     go_cut[66] (fun v66 wx=>v66= .bool false∧Below w1.heap.size w1 wx)
     case first=>
      go_quiet (fail)
      go_wp2
      go_meet
      exact⟨by first | rfl | (congr 1;first | exact decide_eq_true (by omega) | exact decide_eq_false (by omega)),below_drewN (aL _ _) _⟩
     case rest=>
     obtain⟨rfl,hbq⟩:=hcut
     obtain⟨W3,hW3⟩:∃W3,W3=wc:=⟨_,rfl⟩
     subst hW3
     have p4:=aJ kg hbq (aC _)
     have p5:=aJ Dw hbq (aC _)
     have hb3:=hbx.trans (hbq.mono hzx)
     have hz3:=hb3.size
     clear kg Dw hbq c1 c2
     go_wp2
     go_roundw
     case rel=>exact⟨k+1,m-(y-x),A++ [(x,x+(y-x))],B,av,TV,_,_,by omega,by go_num,by first | rfl | simp,by simp,rfl,by omega,by omega,by simp;omega,by omega,by rw[HD3.out];exact HN.out,by simpa using p4,by simpa using p5,by simpa using I5,hb3⟩
     case measure=>simp[intOf];omega
   ·have HN:=ah (Rv.out hmz)
    obtain rfl:m=0:=by omega
    clear Rv Rw Pw
    go_upto_region 9 with fail
    go_cut[10] (fun v10 wx=>v10= .int .i64 (0)∧Below wr.heap.size wr wx)
    case first=>
     go_quiet (fail)
     go_wp2
     go_meet
     exact⟨rfl,below_drewN (aL _ _) _⟩
    case rest=>
    obtain⟨rfl,hbq⟩:=hcut
    obtain⟨W1,hW1⟩:∃W1,W1=wc:=⟨_,rfl⟩
    subst hW1
    have o9:=aJ iD hbq (aC _)
    have xM:=aJ fQ hbq (aC _)
    have hb1:=hb.trans (hbq.mono hz)
    have hz1:=hb1.size
    clear iD fQ hbq hc1 hc2 hb
    have i2:IntKind.i64.wrap x=x:=IntWalk.i64_in _ (by omega)
    go_upto_region 12 with fail
    obtain⟨b1,off1,iJ,Dv,c1,c2⟩:=h.pair hb1 (aC _) k hlt
    injection iJ with iJ
    injection iJ with e1 e2
    subst e1 e2
    rw[HR.out]at c1 c2
    simp only at c1 c2
    go_cut[66] (fun v66 wx=>v66= .bool true∧Below W1.heap.size W1 wx)
    case first=>
     go_quiet (fail)
     go_wp2
     go_meet
     exact⟨by first | rfl | (congr 1;first | exact decide_eq_true (by omega) | exact decide_eq_false (by omega)),below_drewN (aL _ _) _⟩
    case rest=>
    obtain⟨rfl,hbq⟩:=hcut
    obtain⟨W3,hW3⟩:∃W3,W3=wc:=⟨_,rfl⟩
    subst hW3
    have p4:=aJ o9 hbq (aC _)
    have p5:=aJ xM hbq (aC _)
    have hb3:=hb1.trans (hbq.mono hz1)
    have hz3:=hb3.size
    clear o9 xM hbq c1 c2
    go_upto_region 13 with fail
    have KS:Hid (∀V,Below w.heap.size w V→(Below w.heap.size w V∧V.cell? ⟨b,off+k*2,none⟩=some (.int .i64 x)∧V.cell? ⟨b,off+k*2+1,none⟩=some (.int .i64 y))):=ah (fun V hV=>by
     obtain⟨b1,off1,iJ,Dv,g1,g2⟩:=h.pair hV (aC _) k hlt
     injection iJ with iJ
     injection iJ with e1 e2
     subst e1 e2
     rw[HR.out]at g1 g2
     exact⟨hV,g1,g2⟩)
    have yB:=aJ p4 (((aL W3.heap.size W3).drew).alloc (aC _) (.cells #[.int .i64 (x),.int .i64 (y)] 56)) (aC _)
    have uS:=aJ p5 (((aL W3.heap.size W3).drew).alloc (aC _) (.cells #[.int .i64 (x),.int .i64 (y)] 56)) (aC _)
    have r_:=ah yB
    have sj:=ah uS
    clear yB uS
    go_region_held3 (fun w'=>Below w.heap.size w w'∧w'.cell? ⟨b,off+k*2,none⟩=some (.int .i64 x)∧w'.cell? ⟨b,off+k*2+1,none⟩=some (.int .i64 y))
     (first | assumption | exact KS.out _ hb3.drew | exact KS.out _ ((hb3.drew).alloc hz3 _) | exact KS.out _ (((hb3.drew).alloc hz3 _).grown hg5 (by first | (simp;done) | (simp;omega)) (bK p5)))
     ((refine jg (by rfl) (.tmp 67) (.tmp 81) (by rfl) w.heap.size _ B.length B (by rfl) sj.out ⟨W3.heap.size,0,none⟩ 1 (x) (y) (by rfl) (dw W3.drew W3.heap.size _ _ _ rfl) (by omega) (by first | exact Nat.le_trans hz3 (by simp) | (simp;omega)) ?_;intro v5 w2 rz hg5 kP))
    have yB:=r_.out
    have hb4:Below w.heap.size w w2:=((hb3.drew).alloc hz3 _).grown hg5 (by first | (simp;done) | (simp;omega)) (bK p5)
    have Rx:=hap.symm.kept yB hg5
    have Ew:=hap.symm.step2 yB kP (by first | exact aC _ | omega | (simp;omega))
    obtain⟨aw,cpw,rfl,_,_⟩:=aP rz
    clear hg5 kP p4 p5 yB r_ sj KS
    go_wp2
    go_roundw
    case rel=>exact⟨k+1,0,A,B++ [(x,y)],_,_,aw,cpw,by omega,by go_num,by first | rfl | simp,rfl,by simp,by omega,by omega,by omega,by simp;omega,HN.out,by simpa using Rx,by simpa using rz,by simpa using Ew.symm,hb4⟩
    case measure=>simp[intOf];omega
  ·have hE:bO l n=(A,B):=by
    have:=HT.out
    unfold iY at this
    rw[List.drop_eq_nil_of_le hge]at this
    simpa[bO]using this
   have HE:=ah hE
   have iG:¬ (k:Int)<l.length:=by omega
   clear hE HT
   go_wp2
   go_ret3
   exact⟨_,_,rfl,by rw[HE.out];exact iD,by rw[HE.out];exact fQ,hap,hb⟩
end Go.Proofs.YtlfopoimbbpfdaaGreat
namespace Go.Proofs.YtlfopoimbbpfdaaGreat
open Go.RowKit
set_option maxRecDepth 100000 in
set_option maxHeartbeats 4000000 in
theorem I6 (v:Value) (l:List Rg) (n:Int) (w:World) (h:fq w v l) (hs:Small l) (hl:l.length<1000000) (hn:eB l n=true) (hn0: -1000000000000<n) (hn1:n<1000000000000):
  Calls Tryz.prog 85 #[v,.int .i64 n] w (J3 w 2 56 (bU l n).length (aR (bU l n))):=by
 have HC:=ah (wH v l n w h)
 rw[hn]at HC
 clear hn
 obtain⟨ao,cap,rfl,hcap,hm⟩:=Sl.shape h
 go_enter Tryz.func85,Tryz.ntmps85
 go_wp2_with fail
 refine HC.out.mono ?_
 rintro e w0 ⟨rfl,rfl⟩
 clear HC
 go_wp2
 go_loopw[6,7] (fun v6 ix wr=>∃k:Nat,k≤l.length∧ix= .int .i64 k∧wr.ownsRow w0.heap.size 56 2 v6 (bU (l.take k) n).length (aR (bU (l.take k) n))∧Below w0.heap.size w0 wr) (fun _ ix _=>l.length-(intOf ix).toNat)
 case atStart=>exact⟨0,Nat.zero_le _,rfl,World.ownsRow_nil _ _ _ _,aL _ _⟩
 case round=>
  obtain⟨k,hk,rfl,ho,hb⟩:=hrel
  have hz:=hb.size
  have hLk:=rA (l.take k) n
  have YW:(l.take k).length≤k:=List.length_take_le _ _
  rcases Nat.lt_or_ge k l.length with hlt | hge
  ·obtain⟨b,off,rfl,hbl,hc1,hc2⟩:=h.pair hb (aC _) k hlt
   have hr:=hs l[k] (List.getElem_mem _)
   have HS:=ah (aV l k hlt)
   have iG:(k:Int)<l.length:=by omega
   generalize l[k]=r at*
   obtain⟨x,y⟩:=r
   simp only at hc1 hc2 hr
   obtain⟨hr1,hr2,hr3⟩:=hr
   have HL:Hid (bU (l.take (k+1)) n=bU (l.take k) n++kQ n (x,y)):=by show _=_;rw[HS.out,wM]
   generalize bU (l.take k) n=L at*
   clear HS
   have dK:Below wr.heap.size wr (wr.alloc (.cells #[.int .i64 x,.int .i64 y] 56)):=(aL _ _).alloc (aC _) _
   have zZ:=heap_alloc_new wr (.cells #[.int .i64 x,.int .i64 y] 56)
   have Ea:=aJ ho dK (aC _)
   have nE:=hb.trans (dK.mono hz)
   have JA:∀g,u6.ownBlock=some g→g<wr.heap.size:=fun g hg=>(ho.lt g hg).2
   have ZN:=ah JA
   clear JA
   go_upto_region 8 with fail
   generalize wr.alloc (.cells #[.int .i64 x,.int .i64 y] 56)=W8 at*
   generalize wr.heap.size=p8 at*
   clear hc1 hc2 ho hb dK
   obtain⟨c0,c1,_,_,hp8⟩:=eP zZ
   have Kl:=nE.size
   by_cases hin:x≤n∧n<y
   ·obtain⟨hx,hy⟩:=hin
    have d1:¬n<x:=by omega
    have d2:¬y≤n:=by omega
    have iw:IntKind.i64.wrap (n+1)=n+1:=IntWalk.i64_in _ (by omega)
    by_cases hx2:x<n
    ·go_upto_region 12 with((with_reducible refine aY 47 ?_);refine eF (o:=⟨some 47,_,_,_,_,_⟩) rfl _ _ rfl w0.heap.size _ L.length L rfl (Ea.alloc _) _ _ x n rfl (dw _ _ _ _ _ (by first | rfl | simp)) (by omega) (by simp;omega) ?_;intro v7' w4 iD hg4 iq)
     have hb4:Below w0.heap.size w0 w4:=(nE.alloc Kl _).grown hg4 (by first | (simp;done) | (simp;omega)) (bK Ea)
     have hk4:w4.heap[p8]? =some (.cells #[.int .i64 x,.int .i64 y] 56 (0,0)):=by
      rw[hg4.block p8 (by simp;omega) (fun e=>by have:=ZN.out p8 e.symm;omega),Below.heap_alloc _ _ _ hp8]
      exact zZ
     have kg:w4.ownsRow w0.heap.size 56 2 v7' (L++ [(x,n)]).length (aR (L++ [(x,n)])):=by simpa using iD
     have jT:=hb4.size
     obtain⟨av,TV,rfl,_,_⟩:=aP kg
     clear hg4 iq iD Ea zZ c0 c1
     obtain⟨c0,c1,_,_,ae1⟩:=eP hk4
     have hll:(L++ [(x,n)]).length<100000000:=by simp;omega
     by_cases hy2:n+1<y
     ·have HX:Hid (bU (l.take (k+1)) n=L++ [(x,n)]++ [(n+1,y)]):=ah (by rw[HL.out];unfold kQ;simp[hx,hy,hx2,hy2])
      clear HL
      generalize L++ [(x,n)]=L2 at*
      go_wp2_with ((with_reducible refine aY 60 ?_);refine eF (o:=⟨some 60,_,_,_,_,_⟩) rfl _ _ rfl w0.heap.size _ L2.length L2 rfl (kg.alloc _) _ _ (n+1) y rfl (dw _ _ _ _ _ (by first | rfl | simp)) (by omega) (by simp;omega) ?_;intro v8' w5 fQ hg4 iq)
      have hb5:Below w0.heap.size w0 w5:=(hb4.alloc jT _).grown hg4 (by first | (simp;done) | (simp;omega)) (bK kg)
      clear hg4 iq
      go_wp2
      go_roundw
      case rel=>exact⟨k+1,by omega,by go_num,by rw[HX.out];simpa using fQ,hb5⟩
      case measure=>simp[intOf];omega
     ·have HX:Hid (bU (l.take (k+1)) n=L++ [(x,n)]):=ah (by rw[HL.out];unfold kQ;simp[hx,hy,hx2,hy2])
      clear HL
      generalize L++ [(x,n)]=L2 at*
      go_wp2
      go_roundw
      case rel=>exact⟨k+1,by omega,by go_num,by rw[HX.out];exact kg,hb4⟩
      case measure=>simp[intOf];omega
    ·by_cases hy2:n+1<y
     ·have HX:Hid (bU (l.take (k+1)) n=L++ [(n+1,y)]):=ah (by rw[HL.out];unfold kQ;simp[hx,hy,hx2,hy2])
      clear HL
      go_wp2_with ((with_reducible refine aY 60 ?_);refine eF (o:=⟨some 60,_,_,_,_,_⟩) rfl _ _ rfl w0.heap.size _ L.length L rfl (Ea.alloc _) _ _ (n+1) y rfl (dw _ _ _ _ _ (by first | rfl | simp)) (by omega) (by simp;omega) ?_;intro v8' w5 fQ hg4 iq)
      have hb5:Below w0.heap.size w0 w5:=(nE.alloc Kl _).grown hg4 (by first | (simp;done) | (simp;omega)) (bK Ea)
      clear hg4 iq
      go_wp2
      go_roundw
      case rel=>exact⟨k+1,by omega,by go_num,by rw[HX.out];simpa using fQ,hb5⟩
      case measure=>simp[intOf];omega
     ·have HX:Hid (bU (l.take (k+1)) n=L):=ah (by rw[HL.out];unfold kQ;simp[hx,hy,hx2,hy2])
      clear HL
      go_wp2
      go_roundw
      case rel=>exact⟨k+1,by omega,by go_num,by rw[HX.out];exact Ea,nE⟩
      case measure=>simp[intOf];omega
   ·have hc:Hid (kQ n (x,y)= [(x,y)]):=ah (by unfold kQ;rw[if_neg hin])
    have HX:Hid (bU (l.take (k+1)) n=L++ [(x,y)]):=ah (by rw[HL.out,hc.out])
    clear HL hc
    have hor:n<x∨(¬n<x∧y≤n):=by omega
    rcases hor with d1 | ⟨d1,d2⟩
    all_goals
     go_wp2_with ((with_reducible refine aY 36 ?_);refine eF (o:=⟨some 36,_,_,_,_,_⟩) rfl _ _ rfl w0.heap.size _ L.length L rfl (Ea.alloc _) _ _ x y rfl (dw _ _ _ _ _ (by first | rfl | simp)) (by omega) (by simp;omega) ?_;intro v6' w4 iD hg4 iq)
     have hb4:Below w0.heap.size w0 w4:=(nE.alloc Kl _).grown hg4 (by first | (simp;done) | (simp;omega)) (bK Ea)
     clear hg4 iq
     go_roundw
     case rel=>exact⟨k+1,by omega,by go_num,by rw[HX.out];simpa using iD,hb4⟩
     case measure=>simp[intOf];omega
  ·have iG:¬ (k:Int)<l.length:=by omega
   have HT:Hid (bU (l.take k) n=bU l n):=ah (by rw[List.take_of_length_le hge])
   obtain⟨a6,c6,rfl,_,_⟩:=aP ho
   have HO:=ah ho
   clear ho hLk
   go_wp2
   go_ret2
   exact⟨_,rfl,by rw[←HT.out];exact HO.out,hb⟩
theorem Lm (v:Value) (l:List Rg) (n:Int) (w:World) (h:fq w v l) (hn:eB l n=false):
  Calls Tryz.prog 85 #[v,.int .i64 n] w fun e w'=>e= .returned (.tuple #[.slice none 0 0,.bool false])∧Below w.heap.size w w':=by
 have HC:=ah (wH v l n w h)
 rw[hn]at HC
 clear hn
 go_enter Tryz.func85,Tryz.ntmps85
 go_wp2_with fail
 refine HC.out.mono ?_
 rintro e w0 ⟨rfl,rfl⟩
 go_wp2
 go_ret2
 exact⟨rfl,aL _ _⟩
theorem I7 (v:Value) (l:List Rg) (n:Int) (w:World) (h:fq w v l) (hs:Small l) (hl:l.length<1000000) (hn0: -1000000000000<n) (hn1:n<1000000000000):
  Calls Tryz.prog 85 #[v,.int .i64 n] w fun e w'=>∃v',e= .returned (.tuple #[v',.bool (eB l n)])∧(eB l n=true→w'.ownsRow w.heap.size 56 2 v' (bU l n).length (aR (bU l n)))∧Below w.heap.size w w':=by
 cases hq:eB l n with
 | false=>exact(Lm v l n w h hq).mono fun e w' ⟨h1,h2⟩=>⟨_,h1,(fun h=>by cases h),h2⟩
 | true=>exact(I6 v l n w h hs hl hq hn0 hn1).mono fun e w' ⟨v',h1,h2,h3⟩=>⟨v',h1,fun _=>h2,h3⟩
end Go.Proofs.YtlfopoimbbpfdaaGreat
namespace Go.Proofs.YtlfopoimbbpfdaaGreat
open Go.RowKit
def uT (w0 W:World) (T:TypeId) (E:Nat) (v:Value) (n:Nat) (cs:List Value):Prop:=Sl w0 E v n cs∨W.ownsRow w0.heap.size T E v n cs
theorem uT.sl {w0 W:World} {T:TypeId} {E:Nat} {v:Value} {n:Nat} {cs:List Value} (h:uT w0 W T E v n cs) (hb:Below w0.heap.size w0 W):Sl W E v n cs:=by
 rcases h with h | h
 ·exact h.keep hb (aC _)
 ·exact aI h
theorem uT.keep {w0 W W':World} {T:TypeId} {E:Nat} {v:Value} {n:Nat} {cs:List Value} (h:uT w0 W T E v n cs) (hb:Below W.heap.size W W'):uT w0 W' T E v n cs:=by
 rcases h with h | h
 ·exact .inl h
 ·exact .inr (aJ h hb (aC _))
theorem uT.other {w0 W W':World} {T T':TypeId} {E:Nat} {v:Value} {n:Nat} {cs:List Value} {g:Nat} {cur:Array Value} {z:Nat×Nat} (h:uT w0 W T E v n cs) (hoth:∀b,b≠g→W'.heap[b]? =W.heap[b]?) (hg:W.heap[g]? =some (.cells cur T' z)) (hne:T≠T'):uT w0 W' T E v n cs:=by
 rcases h with h | h
 ·exact .inl h
 ·exact .inr (aH h hoth hg hne)
structure Rq (p3 p6 p8:Nat) (w0 W:World) (x:bZ) (b:Bk) (y:bV) (l:Ls):Prop where
 aZ:Below w0.heap.size w0 W
 kb:W.heap[p3]? =some (.cells #[x.c.v,x.f.v,x.l.v,x.b.v] 30 (0,0))
 k6:W.heap[p6]? =some (.cells #[.slice none 0 0,.slice none 0 0,.slice none 0 0,.slice none 0 0] 30 (0,0))
 k8:W.heap[p8]? =some (.cells #[.int .i64 y.dev,.int .i64 y.epoch,.int .i64 y.bY,.int .i64 y.last,y.s.v,y.i.v,y.u.v] 48 (0,0))
 h3:w0.heap.size≤p3
 h6:w0.heap.size≤p6
 h8:w0.heap.size≤p8
 ne:p3≠p6
 rc:W.ownsRow w0.heap.size 54 7 x.c.v b.cs.length (aK jE b.cs)
 rf:uT w0 W 56 2 x.f.v b.free.length (aR b.free)
 rl:Aq w0 x.l.v b.ls
 rb:uT w0 W 3 1 x.b.v b.bound.length (bM b.bound)
 ly:iC W w0.heap.size y l
section
variable {p3 p6 p8:Nat} {w0 W W':World} {x:bZ} {b:Bk} {y:bV} {l:Ls}
theorem Rq.Yr (h:Rq p3 p6 p8 w0 W x b y l):p3<W.heap.size:=(bg h.kb).1
theorem Rq.ZU (h:Rq p3 p6 p8 w0 W x b y l):p6<W.heap.size:=(bg h.k6).1
theorem Rq.VH (h:Rq p3 p6 p8 w0 W x b y l):p8<W.heap.size:=(bg h.k8).1
theorem Rq.m (h:Rq p3 p6 p8 w0 W x b y l):eD W x b:=⟨aI h.rc,h.rf.sl h.aZ,h.rl.keep h.aZ (aC _),h.rb.sl h.aZ⟩
theorem Rq.keep (h:Rq p3 p6 p8 w0 W x b y l) (hb:Below W.heap.size W W'):Rq p3 p6 p8 w0 W' x b y l:=
 ⟨h.aZ.trans (hb.mono h.aZ.size),aj h.kb hb h.Yr,aj h.k6 hb h.ZU,aj h.k8 hb h.VH,h.h3,h.h6,h.h8,h.ne,aJ h.rc hb (aC _),h.rf.keep hb,h.rl,h.rb.keep hb,h.ly.keep hb (aC _)⟩
theorem Rq.Az (h:Rq p3 p6 p8 w0 W x b y l) {f':Sv} {free':List Rg} (ho:W.ownsRow w0.heap.size 56 2 f'.v free'.length (aR free')):
  Rq p3 p6 p8 w0 (W.setCell ⟨p3,1,none⟩ f'.v) ⟨x.c,f',x.l,x.b⟩ ⟨b.cs,free',b.ls,b.bound⟩ y l:=by
 have hoth:∀c,c≠p3→(W.setCell ⟨p3,1,none⟩ f'.v).heap[c]? =W.heap[c]? :=fun c hc=>aW _ _ _ (fun e=>hc e.symm) _
 exact⟨h.aZ.setCell h.h3 _,lC h.kb _,(hoth p6 (fun e=>h.ne e.symm)).trans h.k6,lI h.k8 hoth h.kb (by decide),h.h3,h.h6,h.h8,h.ne,aH h.rc hoth h.kb (by decide),.inr (aH ho hoth h.kb (by decide)),h.rl,h.rb.other hoth h.kb (by decide),h.ly.other hoth h.kb (by decide) (by decide) (by decide)⟩
theorem Rq.Ry (h:Rq p3 p6 p8 w0 W x b y l) {b':Sv} {bd:List Int} (ho:W.ownsRow w0.heap.size 3 1 b'.v bd.length (bM bd)):
  Rq p3 p6 p8 w0 (W.setCell ⟨p3,3,none⟩ b'.v) ⟨x.c,x.f,x.l,b'⟩ ⟨b.cs,b.free,b.ls,bd⟩ y l:=by
 have hoth:∀c,c≠p3→(W.setCell ⟨p3,3,none⟩ b'.v).heap[c]? =W.heap[c]? :=fun c hc=>aW _ _ _ (fun e=>hc e.symm) _
 exact⟨h.aZ.setCell h.h3 _,qH h.kb _,(hoth p6 (fun e=>h.ne e.symm)).trans h.k6,lI h.k8 hoth h.kb (by decide),h.h3,h.h6,h.h8,h.ne,aH h.rc hoth h.kb (by decide),h.rf.other hoth h.kb (by decide),h.rl,.inr (aH ho hoth h.kb (by decide)),h.ly.other hoth h.kb (by decide) (by decide) (by decide)⟩
theorem Rq.Kg (h:Rq p3 p6 p8 w0 W x b y l) {i':Sv} {wQ:List Rg} (ho:W.ownsRow w0.heap.size 56 2 i'.v wQ.length (aR wQ)):
  Rq p3 p6 p8 w0 (W.setCell ⟨p8,5,none⟩ i'.v) x b ⟨y.dev,y.epoch,y.bY,y.last,y.s,i',y.u⟩ ⟨l.dev,l.epoch,l.bY,l.last,l.sl,wQ,l.used⟩:=by
 have hoth:∀c,c≠p8→(W.setCell ⟨p8,5,none⟩ i'.v).heap[c]? =W.heap[c]? :=fun c hc=>aW _ _ _ (fun e=>hc e.symm) _
 exact⟨h.aZ.setCell h.h8 _,lI h.kb hoth h.k8 (by decide),lI h.k6 hoth h.k8 (by decide),AA h.k8 _,h.h3,h.h6,h.h8,h.ne,aH h.rc hoth h.k8 (by decide),h.rf.other hoth h.k8 (by decide),h.rl,h.rb.other hoth h.k8 (by decide),
  ⟨h.ly.dev,h.ly.epoch,h.ly.bY,h.ly.last,aH h.ly.s hoth h.k8 (by decide),aH ho hoth h.k8 (by decide),aH h.ly.u hoth h.k8 (by decide)⟩⟩
theorem Rq.AB (h:Rq p3 p6 p8 w0 W x b y l) {g n cap:Nat} (hx:x.c=⟨some ⟨g,0,none⟩,n,cap⟩) (j:Nat) (hj:j<b.cs.length*7) (u:Value) {cs':List Ct} (hcs:(aK jE b.cs).set j u=aK jE cs') (hl:cs'.length=b.cs.length):
  Rq p3 p6 p8 w0 (W.setCell ⟨g,j,none⟩ u) x ⟨cs',b.free,b.ls,b.bound⟩ y l:=by
 have hoth:∀c,c≠g→(W.setCell ⟨g,j,none⟩ u).heap[c]? =W.heap[c]? :=fun c hc=>aW _ _ _ (fun e=>hc e.symm) _
 have hrc:=h.rc
 rw[hx]at hrc
 simp only[Sv.v]at hrc
 have hn:n=b.cs.length:=by
  obtain⟨_,_,he,_,_⟩:=aP hrc
  injection he with _ he _
 subst hn
 obtain⟨cur,hg⟩:=eu hrc
 have hB:w0.heap.size≤g:=(bq hrc).1
 have hset:=dF hrc j (by rw[bL dX];exact hj) u
 rw[hcs]at hset
 exact⟨h.aZ.setCell hB _,lI h.kb hoth hg (by decide),lI h.k6 hoth hg (by decide),lI h.k8 hoth hg (by decide),h.h3,h.h6,h.h8,h.ne,by rw[hx];show World.ownsRow _ _ _ _ _ cs'.length _;rw[hl];exact hset,h.rf.other hoth hg (by decide),h.rl,h.rb.other hoth hg (by decide),h.ly.other hoth hg (by decide) (by decide) (by decide)⟩
end
end Go.Proofs.YtlfopoimbbpfdaaGreat
