/- What the law asks, in parts: WkF WkG WkH Pl. -/
import Derived.Test.YtlfopoimbbpfdaaGreatPk3
import Derived.Test.YtlfopoimbbpfdaaGreatPk1
import Derived.Test.YtlfopoimbbpfdaaGreatPk5
set_option linter.all false
namespace Go.Proofs.YtlfopoimbbpfdaaGreat
open Go.RowKit
def bO:List Rg→Int→List Rg×List Rg
 | [],_=>([],[])
 | r::l,n=>if n≤0 then([],r::l)else if n<r.2-r.1 then([(r.1,r.1+n)],(r.1+n,r.2)::l)
  else((r.1,r.2)::(bO l (n-(r.2-r.1))).1,(bO l (n-(r.2-r.1))).2)
theorem qz (l:List Rg) (n:Int) (h:n≤0):bO l n=([],l):=by cases l<;>simp[bO,h]
def iY (l:List Rg) (n:Int) (k:Nat) (m:Int) (A B:List Rg):Prop:=bO l n=(A++(bO (l.drop k) m).1,B++(bO (l.drop k) m).2)
theorem iY.a {l:List Rg} {n m:Int} {k:Nat} {A B:List Rg} (h:iY l n k m A B) (hk:k<l.length) (hm:m≤0):iY l n (k+1) m A (B++ [l[k]]):=by
 unfold iY at*
 rw[h,qz _ m hm,qz _ m hm,List.drop_eq_getElem_cons hk]
 simp
theorem iY.b {l:List Rg} {n m:Int} {k:Nat} {A B:List Rg} (h:iY l n k m A B) (hk:k<l.length) (hm:0<m) (hd:m<l[k].2-l[k].1):
  iY l n (k+1) 0 (A++ [(l[k].1,l[k].1+m)]) (B++ [(l[k].1+m,l[k].2)]):=by
 unfold iY at*
 rw[h,qz _ 0 (Int.le_refl _),List.drop_eq_getElem_cons hk,bO,if_neg (by omega),if_pos hd]
 simp
theorem iY.c {l:List Rg} {n m:Int} {k:Nat} {A B:List Rg} (h:iY l n k m A B) (hk:k<l.length) (hm:0<m) (hd:l[k].2-l[k].1≤m):
  iY l n (k+1) (m-(l[k].2-l[k].1)) (A++ [(l[k].1,l[k].2)]) B:=by
 unfold iY at*
 rw[h,List.drop_eq_getElem_cons hk,bO,if_neg (by omega),if_neg (by omega)]
 simp
def JW (w:World) (E e:Nat) (A B:List Value) (na nb:Nat) (x:Int) (en:Ending) (w':World):Prop:=
 ∃v1 v2,en= .returned (.tuple #[v1,v2,.int .i64 x])∧w'.ownsRow w.heap.size e E v1 na A∧w'.ownsRow w.heap.size e E v2 nb B∧Apart v1 v2∧Below w.heap.size w w'
set_option maxHeartbeats 4000000 in
theorem NA (v:Value) (l:List Rg) (n:Int) (w:World) (h:fq w v l) (hs:Small l) (hl:l.length<1000000) (h0:0≤n) (h1:n≤bR l):
  Calls Tryz.prog 112 #[v,.int .i64 n] w (JW w 2 56 (aR (bO l n).1) (aR (bO l n).2) (bO l n).1.length (bO l n).2.length 0):=by
 obtain⟨ao,cap,rfl,hcap,hm⟩:=Sl.shape h
 have hlen:=(jw l hs).2
 have d0:decide (n<0)=false:=by simpa using h0
 have d1:decide (bR l<n)=false:=by simpa using h1
 go_enter Tryz.func112,Tryz.ntmps112
 go_wp2_with fail
 refine(F5 _ _ _ h hs hl).mono ?_
 rintro e w0 ⟨rfl,hb0⟩
 go_wp2
 go_loopw[1,4,5,20] (fun nv v4 v5 ix wr=>∃ (k:Nat) (m:Int) (A B:List Rg),k≤l.length∧ix= .int .i64 k∧nv= .int .i64 m∧0≤m∧m≤n∧A.length≤k∧B.length≤k∧iY l n k m A B∧
  wr.ownsRow w.heap.size 56 2 v4 A.length (aR A)∧wr.ownsRow w.heap.size 56 2 v5 B.length (aR B)∧Apart v4 v5∧Below w.heap.size w wr) (fun _ _ _ ix _=>l.length-(intOf ix).toNat)
 case atStart=>exact⟨0,n,[],[],Nat.zero_le _,rfl,rfl,h0,Int.le_refl _,aC _,aC _,rfl,World.ownsRow_nil _ _ _ _,World.ownsRow_nil _ _ _ _,tF _,hb0⟩
 case round=>
  obtain⟨k,m,A,B,hk,rfl,rfl,hm0,hmn,hA,hB,hT,iD,fQ,hap,hb⟩:=hrel
  have hz:=hb.size
  have HT:=ah hT
  clear hT
  rcases Nat.lt_or_ge k l.length with hlt | hge
  ·obtain⟨b,off,rfl,hbl,hc1,hc2⟩:=h.pair hb (aC _) k hlt
   have hr:=hs l[k] (List.getElem_mem _)
   rcases Int.lt_or_le 0 m with hmp | hmz
   ·rcases Int.lt_or_le m (l[k].2-l[k].1)with hd | hd
    ·have HN:=ah (HT.out.b hlt hmp hd)
     generalize l[k]=r at*
     obtain⟨x,y⟩:=r
     simp only at hc1 hc2 hr hd
     obtain⟨hr1,hr2,hr3⟩:=hr
     go_upto_region 11 with fail
     go_wp2_with (((with_reducible refine aY 45 ?_);refine eF (o:=⟨some 45,_,_,_,_,_⟩) rfl _ _ rfl w.heap.size _ A.length A rfl ((iD.alloc _).alloc _) _ _ x (x+m) rfl (dw _ _ _ _ _ (by simp)) (by omega) (by simp;omega) ?_))
     intro v4 w1 kg hg4 iq
     have hb1:Below w.heap.size w w1:=((hb.alloc hz _).alloc (by simp;omega) _).grown hg4 (by simp;omega) (bK iD)
     have rz:=hap.kept ((fQ.alloc _).alloc _) hg4
     have yI:=hap.step2 fQ iq (by first | omega | (simp;omega))
     obtain⟨e0,e1,f0,f1,hbs⟩:=eP (wC iD hg4)
     have hs1:=hb1.size
     clear hg4 iq iD fQ hap
     go_wp2_with (((with_reducible refine aY 62 ?_);refine eF (o:=⟨some 62,_,_,_,_,_⟩) rfl _ _ rfl w.heap.size _ B.length B rfl (rz.alloc _) _ _ (x+m) y rfl (dw _ _ _ _ _ (by simp)) (by omega) (by simp;omega) ?_))
     intro v5 w2 JX hg5 kP
     have hb2:Below w.heap.size w w2:=(hb1.alloc hs1 _).grown hg5 (by simp;omega) (bK rz)
     have JY:=yI.symm.kept (kg.alloc _) hg5
     have Ew:=yI.symm.step2 kg kP (by first | omega | (simp;omega))
     clear hg5 kP
     go_wp2
     go_roundw
     case rel=>exact⟨k+1,0,A++ [(x,x+m)],B++ [(x+m,y)],by omega,by go_num,rfl,by omega,by omega,by simp;omega,by simp;omega,HN.out,by simpa using JY,by simpa using JX,Ew.symm,hb2⟩
     case measure=>simp[intOf];omega
    ·have HN:=ah (HT.out.c hlt hmp hd)
     generalize l[k]=r at*
     obtain⟨x,y⟩:=r
     simp only at hc1 hc2 hr hd
     obtain⟨hr1,hr2,hr3⟩:=hr
     rcases Int.lt_or_le (y-x) m with hd2 | hd2
     ·go_upto_region 11 with fail
      go_wp2_with (((with_reducible refine aY 45 ?_);refine eF (o:=⟨some 45,_,_,_,_,_⟩) rfl _ _ rfl w.heap.size _ A.length A rfl ((iD.alloc _).alloc _) _ _ _ _ rfl (dw _ _ _ _ _ (by first | rfl | simp)) (by omega) (by simp;omega) ?_))
      intro v4 w1 kg hg4 iq
      have hb1:Below w.heap.size w w1:=((hb.alloc hz _).alloc (by simp;omega) _).grown hg4 (by simp;omega) (bK iD)
      have rz:=hap.kept ((fQ.alloc _).alloc _) hg4
      have yI:=hap.step2 fQ iq (by first | omega | (simp;omega))
      obtain⟨e0,e1,f0,f1,hbs⟩:=eP (wC iD hg4)
      have hs1:=hb1.size
      clear hg4 iq iD fQ hap
      go_wp2
      go_roundw
      case rel=>exact⟨k+1,m-(y-x),A++ [(x,y)],B,by omega,by go_num,rfl,by omega,by omega,by simp;omega,by omega,HN.out,by first | simpa using kg | (rw [show x+(y-x)=y from by omega]at kg;simpa using kg),rz,yI,hb1⟩
      case measure=>simp[intOf];omega
     ·have hxy:Hid (x+m=y):=by show _=_;omega
      have hm0:Hid (m-(y-x)=0):=by show _=_;omega
      go_wp2_with (((with_reducible refine aY 45 ?_);refine eF (o:=⟨some 45,_,_,_,_,_⟩) rfl _ _ rfl w.heap.size _ A.length A rfl ((iD.alloc _).alloc _) _ _ x (x+m) rfl (dw _ _ _ _ _ (by first | rfl | simp)) (by omega) (by simp;omega) ?_))
      intro v4 w1 kg hg4 iq
      have hb1:Below w.heap.size w w1:=((hb.alloc hz _).alloc (by simp;omega) _).grown hg4 (by simp;omega) (bK iD)
      have rz:=hap.kept ((fQ.alloc _).alloc _) hg4
      have yI:=hap.step2 fQ iq (by first | omega | (simp;omega))
      obtain⟨e0,e1,f0,f1,hbs⟩:=eP (wC iD hg4)
      have hs1:=hb1.size
      clear hg4 iq iD fQ hap
      go_wp2
      go_roundw
      case rel=>exact⟨k+1,m-(y-x),A++ [(x,y)],B,by omega,by go_num,by rw[hm0.out],by omega,by omega,by simp;omega,by omega,HN.out,by rw[hxy.out]at kg;simpa using kg,rz,yI,hb1⟩
      case measure=>simp[intOf];omega
   ·have HN:=ah (HT.out.a hlt hmz)
    generalize l[k]=r at*
    obtain⟨x,y⟩:=r
    simp only at hc1 hc2 hr
    obtain⟨hr1,hr2,hr3⟩:=hr
    obtain rfl:m=0:=by omega
    go_wp2_with (((with_reducible refine aY 62 ?_);refine eF (o:=⟨some 62,_,_,_,_,_⟩) rfl _ _ rfl w.heap.size _ B.length B rfl ((fQ.alloc _).alloc _) _ _ x y rfl (dw _ _ _ _ _ (by simp)) (by omega) (by simp;omega) ?_))
    intro v5 w2 JX hg5 kP
    have hb2:Below w.heap.size w w2:=((hb.alloc hz _).alloc (by simp;omega) _).grown hg5 (by simp;omega) (bK fQ)
    have JY:=hap.symm.kept ((iD.alloc _).alloc _) hg5
    have Ew:=hap.symm.step2 iD kP (by first | omega | (simp;omega))
    clear hg5 kP
    go_wp2
    go_roundw
    case rel=>exact⟨k+1,0,A,B++ [(x,y)],by omega,by go_num,rfl,by omega,by omega,by omega,by simp;omega,HN.out,JY,by simpa using JX,Ew.symm,hb2⟩
    case measure=>simp[intOf];omega
  ·have hE:bO l n=(A,B):=by
    have:=HT.out
    unfold iY at this
    rw[List.drop_eq_nil_of_le hge]at this
    simpa[bO]using this
   have HE:=ah hE
   have hA':A.length<1000000000:=by omega
   have hB':B.length<1000000000:=by omega
   have s4:fq wr u4 A:=aI iD
   have s5:fq wr u5 B:=aI fQ
   clear hE HT iD fQ hap
   go_wp2_with fail
   refine(nK _ _ _ s4 hA').mono ?_
   rintro e w1 ⟨v1,rfl,ho1,hb1⟩
   have s5':=s5.keep hb1 (aC _)
   go_wp2_with fail
   refine(nK _ _ _ s5' hB').mono ?_
   rintro e w2 ⟨v2,rfl,ho2,hb2⟩
   go_wp2
   go_ret3
   have hz1:=hb1.size
   refine⟨v1,v2,rfl,by rw[HE.out];exact aJ (aO ho1 hz) hb2 (aC _),by rw[HE.out];exact aO ho2 (Nat.le_trans hz hz1),fun g hg1 hg2=>?_,(hb.trans (hb1.mono hz)).trans (hb2.mono (Nat.le_trans hz hz1))⟩
   have q1:=(ho1.lt g hg1).2
   have q2:=(ho2.lt g hg2).1
   omega
set_option maxHeartbeats 400000 in
theorem Cq (v:Value) (l:List Rg) (n:Int) (w:World) (h:fq w v l) (hs:Small l) (hl:l.length<1000000) (h1:bR l<n):
  Calls Tryz.prog 112 #[v,.int .i64 n] w fun e w'=>e= .returned (.tuple #[.slice none 0 0,.slice none 0 0,.int .i64 14])∧Below w.heap.size w w':=by
 have h0:=(jw l hs).1
 have d0:decide (n<0)=false:=by simp;omega
 go_enter Tryz.func112,Tryz.ntmps112
 go_wp2_with fail
 refine(F5 _ _ _ h hs hl).mono ?_
 rintro e w0 ⟨rfl,hb0⟩
 go_wp2
 go_ret3
 exact⟨rfl,hb0⟩
end Go.Proofs.YtlfopoimbbpfdaaGreat
namespace Go.Proofs.YtlfopoimbbpfdaaGreat
open Go.RowKit
def kQ (n:Int) (r:Rg):List Rg:=if r.1≤n∧n<r.2 then(if r.1<n then [(r.1,n)]else [])++(if n+1<r.2 then [(n+1,r.2)]else [])else [r]
def bU (l:List Rg) (n:Int):List Rg:=l.flatMap (kQ n)
theorem wM (l:List Rg) (r:Rg) (n:Int):bU (l++ [r]) n=bU l n++kQ n r:=by simp[bU]
theorem Cr (n:Int) (r:Rg):(kQ n r).length≤2:=by
 unfold kQ
 split
 ·split<;>split<;>simp
 ·simp
theorem rA (l:List Rg) (n:Int):(bU l n).length≤2*l.length:=by
 induction l with
 | nil=>simp[bU]
 | cons r l ih=>
  have h:bU (r::l) n=kQ n r++bU l n:=by simp[bU]
  rw[h,List.length_append,List.length_cons]
  have:=Cr n r
  omega
def Cu (r:Rg):Bool:=decide (r.1<r.2)
theorem JZ (n x y:Int) (h:x<y) (hn:¬ (x≤n∧n<y)):[(x,y)].filter Cu=kQ n (x,y):=by
 simp[kQ,Cu,h,hn]
theorem J2 (n x y:Int) (h1:x≤n) (h2:n<y):[(x,n),(n+1,y)].filter Cu=kQ n (x,y):=by
 unfold kQ
 rw[if_pos ⟨h1,h2⟩]
 by_cases a:x<n<;>by_cases b:n+1<y<;>simp[Cu,a,b]
theorem Cv (l:List Rg) (a b:Int):(l++ [(a,b)]).filter Cu=l.filter Cu++(if a<b then [(a,b)]else []):=by
 rw[List.filter_append]
 by_cases h:a<b<;>simp[Cu,h]
def J3 (w:World) (E e n:Nat) (cs:List Value) (en:Ending) (w':World):Prop:=
 ∃v',en= .returned (.tuple #[v',.bool true])∧w'.ownsRow w.heap.size e E v' n cs∧Below w.heap.size w w'
set_option maxHeartbeats 400000 in
theorem NC (v:Value) (l:List Rg) (n:Int) (w:World) (h:fq w v l) (hl:l.length<1000000) (hn:eB l n=false):
  Calls Tryz.prog 81 #[v,.int .i64 n] w fun e w'=>e= .returned (.tuple #[.slice none 0 0,.bool false])∧Below w.heap.size w w':=by
 have HC:=ah (Au v l n w h hl)
 rw[hn]at HC
 clear hn
 go_enter Tryz.func81,Tryz.ntmps81
 go_wp2_with fail
 refine HC.out.mono ?_
 rintro e w0 ⟨rfl,hb0⟩
 go_wp2
 go_ret2
 exact⟨rfl,hb0⟩
set_option maxHeartbeats 4000000 in
theorem J4 (v:Value) (l:List Rg) (n:Int) (w:World) (h:fq w v l) (hs:Small l) (hl:l.length<1000000) (hn:eB l n=true) (hn0: -1000000000000<n) (hn1:n<1000000000000):
  Calls Tryz.prog 81 #[v,.int .i64 n] w (J3 w 2 56 (bU l n).length (aR (bU l n))):=by
 have HC:=ah (Au v l n w h hl)
 rw[hn]at HC
 clear hn
 obtain⟨ao,cap,rfl,hcap,hm⟩:=Sl.shape h
 go_enter Tryz.func81,Tryz.ntmps81
 go_wp2_with fail
 refine HC.out.mono ?_
 rintro e w0 ⟨rfl,hb0⟩
 clear HC
 go_wp2
 go_loopw[6,18] (fun v6 ix wr=>∃k:Nat,k≤l.length∧ix= .int .i64 k∧wr.ownsRow w.heap.size 56 2 v6 (bU (l.take k) n).length (aR (bU (l.take k) n))∧Below w.heap.size w wr) (fun _ ix _=>l.length-(intOf ix).toNat)
 case atStart=>exact⟨0,Nat.zero_le _,rfl,World.ownsRow_nil _ _ _ _,hb0⟩
 case round=>
  obtain⟨k,hk,rfl,ho,hb⟩:=hrel
  have hz:=hb.size
  have hLk:=rA (l.take k) n
  have YW:(l.take k).length≤k:=List.length_take_le _ _
  rcases Nat.lt_or_ge k l.length with hlt | hge
  ·obtain⟨b,off,rfl,hbl,hc1,hc2⟩:=h.pair hb (aC _) k hlt
   have hr:=hs l[k] (List.getElem_mem _)
   have HS:=ah (aV l k hlt)
   generalize l[k]=r at*
   obtain⟨x,y⟩:=r
   simp only at hc1 hc2 hr
   obtain⟨hr1,hr2,hr3⟩:=hr
   have HL:Hid (bU (l.take (k+1)) n=bU (l.take k) n++kQ n (x,y)):=by show _=_;rw[HS.out,wM]
   generalize bU (l.take k) n=L at*
   clear HS
   obtain⟨bo,F8⟩:∃bo:Bool,bo=decide (x≤n∧n<y):=⟨_,rfl⟩
   have HB:=ah F8
   clear F8
   go_upto_region 8 with fail
   go_cut[33] (fun s33 wx=>s33= .bool bo∧wx=(wr.alloc (.cells #[.int .i64 x,.int .i64 y] 56)).alloc (.cells #[.int .i64 x,.int .i64 y] 56))
   case first=>
    by_cases hx:x≤n
    ·by_cases hy:n<y
     ·have hh:bo=true:=by rw[HB.out];simp[hx,hy]
      subst hh
      go_wp2
      go_meet
      exact⟨rfl,rfl⟩
     ·have hh:bo=false:=by rw[HB.out];simp[hy]
      subst hh
      have dy:decide (n<y)=false:=by simpa using hy
      go_wp2
      go_meet
      exact⟨rfl,rfl⟩
    ·have hh:bo=false:=by rw[HB.out];simp[hx]
     subst hh
     have dx:decide (x≤n)=false:=by simpa using hx
     go_wp2
     go_meet
     exact⟨rfl,rfl⟩
   case rest=>
   obtain⟨rfl,rfl⟩:=hcut
   go_upto_if 33 with fail
   go_cut[9] (fun s9 wx=>∃ps:List Rg,wx.ownsRow w.heap.size 56 2 s9 ps.length (aR ps)∧wx.ownsRow w.heap.size 56 2 u6 L.length (aR L)∧Apart u6 s9∧ps.length≤2∧ps.filter Cu=kQ n (x,y)∧Below w.heap.size w wx)
   case first=>
    cases bo with
    | true=>
     have HH:=HB.out
     have HX:Hid (x≤n∧n<y):=by show _∧_;simpa using HH.symm
     clear HH HB
     go_wp2
     go_meet
     refine⟨[(x,n),(n+1,y)],?_,((ho.alloc _).alloc _).alloc _,?_,by simp,J2 n x y HX.out.1 HX.out.2,((hb.alloc hz _).alloc (by simp;omega) _).alloc (by simp;omega) _⟩
     ·exact cO _ _ _ _ 2 _ 2 (by simp) (by omega) (by omega) rfl
     ·intro g hg1 hg2
      simp[Value.ownBlock]at hg2
      have:=(ho.lt g hg1).2
      omega
    | false=>
     have HH:=HB.out
     have HX:Hid (¬ (x≤n∧n<y)):=by show ¬_;simpa using HH.symm
     clear HH HB
     go_wp2
     go_meet
     refine⟨[(x,y)],?_,(ho.alloc _).alloc _,?_,by simp,JZ n x y hr2 HX.out,(hb.alloc hz _).alloc (by simp;omega) _⟩
     ·exact cO _ _ _ _ 2 _ 1 (by simp) (by omega) (by omega) rfl
     ·intro g hg1 hg2
      simp[Value.ownBlock]at hg2
      have:=(ho.lt g hg1).2
      omega
   case rest=>
   obtain⟨ps,hops,ho2,hap,hps,hf,hb2⟩:=hcut
   have HF:=ah hf
   obtain⟨uI,QA,rfl,ace,hm9⟩:=Sl.shape (aI hops)
   have hs2:=hb2.size
   clear hf HB ho hb hc1 hc2
   go_wp2
   go_loopw[6,46] (fun v6 jx w3=>∃j:Nat,j≤ps.length∧jx= .int .i64 j∧w3.ownsRow w.heap.size 56 2 v6 (L++(ps.take j).filter Cu).length (aR (L++(ps.take j).filter Cu))∧
    w3.ownsRow w.heap.size 56 2 (.slice uI ps.length QA) ps.length (aR ps)∧Apart v6 (.slice uI ps.length QA)∧Below w.heap.size w w3) (fun _ jx _=>ps.length-(intOf jx).toNat)
   case atStart=>exact⟨0,Nat.zero_le _,rfl,by simpa using ho2,hops,hap,hb2⟩
   case round=>
    obtain⟨j,hj,rfl,ho3,F9,QB,hb3⟩:=hrel
    have hs3:=hb3.size
    clear ho2 hops hap hb2
    rcases Nat.lt_or_ge j ps.length with yJ | YX
    ·have hsl:fq wr (.slice uI ps.length QA) ps:=aI F9
     obtain⟨b9,aef,rfl,lN,he1,he2⟩:=hsl.pair (aL wr.heap.size wr) (aC _) j yJ
     have HS:=ah (aV ps j yJ)
     generalize ps[j]=r at*
     obtain⟨x2,y2⟩:=r
     simp only at he1 he2
     have hlA:(L++(ps.take j).filter Cu).length<100000000:=by
      have h1:=List.length_filter_le Cu (ps.take j)
      have h2:=List.length_take_le j ps
      simp only[List.length_append];omega
     have HA:Hid (L++(ps.take (j+1)).filter Cu=(L++(ps.take j).filter Cu)++(if x2<y2 then [(x2,y2)]else [])):=by
      show _=_;rw[HS.out,Cv,List.append_assoc]
     generalize L++(ps.take j).filter Cu=A at*
     clear HS HL HF
     by_cases hxy:x2<y2
     ·have HA2:Hid (L++(ps.take (j+1)).filter Cu=A++ [(x2,y2)]):=by show _=_;rw[HA.out,if_pos hxy]
      clear HA
      go_upto_region 14 with fail
      go_wp2_with ((with_reducible refine aY 58 ?_);refine eF (o:=⟨some 58,_,_,_,_,_⟩) rfl _ _ rfl w.heap.size _ A.length A rfl ((ho3.alloc _).alloc _) _ _ x2 y2 rfl (dw _ _ _ _ _ (by first | rfl | simp)) (by omega) (by simp;omega) ?_)
      intro v6' w4 iD hg4 iq
      have hb4:Below w.heap.size w w4:=((hb3.alloc hs3 _).alloc (by simp;omega) _).grown hg4 (by simp;omega) (bK ho3)
      have Ux:=QB.kept ((F9.alloc _).alloc _) hg4
      have YZ:=QB.step2 F9 iq (by first | omega | (simp;omega))
      clear hg4 iq
      go_wp2
      go_roundw
      case rel=>exact⟨j+1,by omega,by go_num,by rw[HA2.out];simpa using iD,Ux,YZ,hb4⟩
      case measure=>simp[intOf];omega
     ·have HA2:Hid (L++(ps.take (j+1)).filter Cu=A):=by show _=_;rw[HA.out,if_neg hxy,List.append_nil]
      clear HA
      go_wp2
      go_roundw
      case rel=>exact⟨j+1,by omega,by go_num,by rw[HA2.out];exact ho3.alloc _,F9.alloc _,QB,hb3.alloc hs3 _⟩
      case measure=>simp[intOf];omega
    ·have HT:Hid (ps.take j=ps):=List.take_of_length_le YX
     rw[HT.out]at ho3
     rw[HF.out,←HL.out]at ho3
     clear HF HL
     go_wp2
     go_roundw
     case rel=>exact⟨k+1,by omega,by go_num,ho3,hb3⟩
     case measure=>simp[intOf];omega
  ·have HT:Hid (l.take k=l):=List.take_of_length_le hge
   rw[HT.out]at ho hLk
   have hsl:fq wr u6 (bU l n):=aI ho
   have JV:(bU l n).length<1000000000:=by omega
   clear HT
   go_wp2_with fail
   refine(nK _ _ _ hsl JV).mono ?_
   rintro e w5 ⟨v5,rfl,fQ,hb5⟩
   go_wp2
   go_ret2
   exact⟨v5,rfl,aO fQ hz,hb.trans (hb5.mono hz)⟩
end Go.Proofs.YtlfopoimbbpfdaaGreat
namespace Go.Proofs.YtlfopoimbbpfdaaGreat
open Go.RowKit
abbrev Y0:=List Rg×List Rg×Rg
def fG (s:Y0) (x:Rg):Y0:=
 if x.2<s.2.2.1 then(s.1++ [x],s.2.1,s.2.2)else if s.2.2.2<x.1 then(s.1,s.2.1++ [x],s.2.2)else(s.1,s.2.1,(min s.2.2.1 x.1,max s.2.2.2 x.2))
def nW (l:List Rg) (r:Rg):Y0:=l.foldl fG ([],[],r)
def vw (l:List Rg) (r:Rg):List Rg:=(nW l r).1++ [(nW l r).2.2]++(nW l r).2.1
theorem Ey (l:List Rg) (x r:Rg):nW (l++ [x]) r=fG (nW l r) x:=by simp[nW]
set_option maxHeartbeats 4000000 in
theorem wN (v:Value) (l:List Rg) (p q:Int) (w:World) (h:fq w v l) (hl:l.length<1000000) (h0:p<q) (h1:0≤p) (h2:q≤1073741824):
  Calls Tryz.prog 66 #[v,.agg #[.int .i64 p,.int .i64 q]] w (oJ w 2 56 (vw l (p,q)).length (aR (vw l (p,q)))):=by
 obtain⟨ao,cap,rfl,hcap,hm⟩:=Sl.shape h
 have d0:decide (q≤p)=false:=by simpa using h0
 have d1:decide (p<0)=false:=by simpa using h1
 have d2:decide (1073741824<q)=false:=by simpa using h2
 go_enter Tryz.func66,Tryz.ntmps66
 go_wp2
 go_loopw[5,6,7] (fun v5 v6 ix wr=>∃ (k:Nat) (A B:List Rg) (p' q':Int),k≤l.length∧ix= .int .i64 k∧nW (l.take k) (p,q)=(A,B,(p',q'))∧A.length≤k∧B.length≤k∧
  wr.ownsRow (w.heap.size+1) 56 2 v5 A.length (aR A)∧wr.ownsRow (w.heap.size+1) 56 2 v6 B.length (aR B)∧Apart v5 v6∧
  wr.heap[w.heap.size]? =some (.cells #[.int .i64 p',.int .i64 q'] 56 (0,0))∧Below w.heap.size w wr) (fun _ _ ix _=>l.length-(intOf ix).toNat)
 case atStart=>exact⟨0,[],[],p,q,Nat.zero_le _,rfl,rfl,aC _,aC _,World.ownsRow_nil _ _ _ _,World.ownsRow_nil _ _ _ _,tF _,heap_alloc_new w _,(aL _ _).alloc (aC _) _⟩
 case round=>
  obtain⟨k,A,B,p',q',hk,rfl,hst,hA,hB,fQ,qO,hap,hrb,hb⟩:=hrel
  have hz:=hb.size
  have HST:=ah hst
  clear hst
  obtain⟨c0,c1,f0,f1,hbs⟩:=eP hrb
  have HB:=ah hrb
  clear hrb
  rcases Nat.lt_or_ge k l.length with hlt | hge
  ·obtain⟨b,off,rfl,hbl,hc1,hc2⟩:=h.pair hb (aC _) k hlt
   have HN:Hid (nW (l.take (k+1)) (p,q)=fG (A,B,(p',q')) l[k]):=by show _=_;rw[aV l k hlt,Ey,HST.out]
   generalize l[k]=r at*
   obtain⟨x,y⟩:=r
   simp only at hc1 hc2
   by_cases hx:y<p'
   ·have oC:Hid (nW (l.take (k+1)) (p,q)=(A++ [(x,y)],B,(p',q'))):=by show _=_;rw[HN.out];simp[fG,hx]
    clear HN
    go_wp2
    go_quiet (fail)
    go_upto_region 9 with fail
    go_wp2_with ((with_reducible refine aY 64 ?_);refine eF (o:=⟨some 64,_,_,_,_,_⟩) rfl _ _ rfl (w.heap.size+1) _ A.length A rfl ((fC fQ nq).alloc _) _ _ x y rfl (g_ _ _ _ _) (by omega) (by simp;omega) ?_)
    intro v' w1 ho1 hg1 J5
    have hb1:Below w.heap.size w w1:=((below_drewN hb nq).alloc (by simp;omega) _).grown hg1 (by simp;omega) (fun g hg=>by have:=bK fQ g hg;omega)
    have hr1:=(gQ hg1 (b:=w.heap.size) (B:=w.heap.size+1) (by simp;omega) (by omega) (bK fQ)).trans ((Below.heap_alloc _ _ _ (by simp;omega)).trans HB.out)
    have Y5:=hap.kept ((fC qO nq).alloc _) hg1
    have yI:=hap.step2 qO J5 (by first | omega | (simp;omega) | simp)
    clear hg1 J5
    go_wp2
    go_roundw
    case rel=>exact⟨k+1,A++ [(x,y)],B,p',q',by omega,by go_num,oC.out,by simp;omega,by omega,by simpa using ho1,Y5,yI,hr1,hb1⟩
    case measure=>simp[intOf];omega
   ·have dx:decide (y<p')=false:=by simpa using hx
    by_cases hq:q'<x
    ·have oC:Hid (nW (l.take (k+1)) (p,q)=(A,B++ [(x,y)],(p',q'))):=by show _=_;rw[HN.out];simp[fG,hx,hq]
     clear HN hx
     go_wp2
     go_quiet (fail)
     go_wp2
     go_quiet (fail)
     go_upto_region 11 with fail
     go_wp2_with ((with_reducible refine aY 80 ?_);refine eF (o:=⟨some 80,_,_,_,_,_⟩) rfl _ _ rfl (w.heap.size+1) _ B.length B rfl ((fC qO _).alloc _) _ _ x y rfl (g_ _ _ _ _) (by omega) (by simp;omega) ?_)
     intro v' w1 ho1 hg1 J5
     have hb1:Below w.heap.size w w1:=((below_drewN hb _).alloc (by simp;omega) _).grown hg1 (by simp;omega) (fun g hg=>by have:=bK qO g hg;omega)
     have hr1:=(gQ hg1 (b:=w.heap.size) (B:=w.heap.size+1) (by simp;omega) (by omega) (bK qO)).trans ((Below.heap_alloc _ _ _ (by simp;omega)).trans HB.out)
     have rz:=hap.symm.kept ((fC fQ _).alloc _) hg1
     have yI:=hap.symm.step2 fQ J5 (by first | omega | (simp;omega) | simp)
     clear hg1 J5
     go_wp2
     go_roundw
     case rel=>exact⟨k+1,A,B++ [(x,y)],p',q',by omega,by go_num,oC.out,by omega,by simp;omega,rz,by simpa using ho1,yI.symm,hr1,hb1⟩
     case measure=>simp[intOf];omega
    ·have oC:Hid (nW (l.take (k+1)) (p,q)=(A,B,(min p' x,max q' y))):=by show _=_;rw[HN.out];simp[fG,hx,hq]
     have dq:decide (q'<x)=false:=by simpa using hq
     clear HN hx hq
     go_wp2
     go_quiet (fail)
     go_wp2
     go_quiet (fail)
     go_wp2
     go_region
     go_wp2
     go_roundw
     case rel=>
      refine⟨k+1,A,B,min p' x,max q' y,by omega,by go_num,oC.out,by omega,by omega,ownsRow_setCell_below (ownsRow_setCell_below (fC fQ _) (by simp) _) (by simp) _,ownsRow_setCell_below (ownsRow_setCell_below (fC qO _) (by simp) _) (by simp) _,hap,?_,((below_drewN hb _).setCell (aC _) _).setCell (aC _) _⟩
      rw[show min p' x=if x<p' then x else p' from by omega,show max q' y=if q'<y then y else q' from by omega]
      exact FY (w:=wr.drewN _) HB.out _ _
     case measure=>simp[intOf];omega
  ·obtain⟨F7,cap6,rfl,hcap6,hm6⟩:=Sl.shape (aI qO)
   have HM:Hid (vw l (p,q)=A++ [(p',q')]++B):=by
    show _=_
    have:=HST.out
    rw[List.take_of_length_le hge]at this
    simp only[vw,this]
   clear HST
   go_upto_region 12 with fail
   go_wp2_with ((with_reducible refine aY 84 ?_);refine Cc (o:=⟨some 84,_,_,_,_,_⟩) rfl _ _ rfl (w.heap.size+1) _ A.length A rfl (fQ.alloc _) _ _ p' q' rfl (g_ _ _ _ _) (by omega) (by simp;omega) ?_)
   intro v3 w3 ho3 hg3
   have hb3:Below w.heap.size w w3:=(hb.alloc hz _).grown hg3 (by simp;omega) (fun g hg=>by have:=bK fQ g hg;omega)
   have hs3:w.heap.size≤w3.heap.size:=hb3.size
   have Qz:=(aI (hap.kept (qO.alloc _) hg3)).rd
   clear hg3
   go_wp2_with ((with_reducible refine aY 86 ?_);refine tK (o:=⟨some 86,_,_,_,_,_⟩) rfl _ _ rfl w.heap.size _ (A.length+1) (A++ [(p',q')]) rfl (aO ho3 (by omega)) _ _ _ B rfl rfl Qz (by omega) hs3 ?_)
   intro v4 w4 iD hg4
   have hb4:Below w.heap.size w w4:=hb3.grown hg4 hs3 (fun g hg=>by have:=bK ho3 g hg;omega)
   have hlen:A.length+1+B.length=(vw l (p,q)).length:=by rw[HM.out];simp;omega
   have wO:w4.ownsRow w.heap.size 56 2 v4 (vw l (p,q)).length (aR (vw l (p,q))):=by rw[←hlen,HM.out];simpa using iD
   clear hlen hg4 HM
   go_wp2
   go_ret
   exact⟨_,rfl,wO,hb4⟩
end Go.Proofs.YtlfopoimbbpfdaaGreat
namespace Go.Proofs.YtlfopoimbbpfdaaGreat
def eH (l:List Rg) (n:Int):Prop:=∃r∈l,r.1≤n∧n<r.2
theorem rC (n:Int):¬eH [] n:=by simp[eH]
theorem dQ (r:Rg) (l:List Rg) (n:Int):eH (r::l) n↔(r.1≤n∧n<r.2)∨eH l n:=by simp[eH]
theorem uJ (a b:List Rg) (n:Int):eH (a++b) n↔eH a n∨eH b n:=by
 simp only[eH,List.mem_append]
 constructor
 ·rintro⟨r,h | h,h2⟩
  ·exact .inl ⟨r,h,h2⟩
  ·exact .inr ⟨r,h,h2⟩
 ·rintro(⟨r,h,h2⟩ | ⟨r,h,h2⟩)
  ·exact⟨r,.inl h,h2⟩
  ·exact⟨r,.inr h,h2⟩
theorem jJ (l:List Rg) (n:Int):eB l n=true↔eH l n:=by simp[eB,eH]
theorem rowP_nil:cZ []:=⟨by simp[Small],by simp⟩
theorem dh (r:Rg) (l:List Rg):cZ (r::l)↔(0≤r.1∧r.1<r.2∧r.2≤1073741824)∧(∀x∈l,r.2<x.1)∧cZ l:=by
 unfold cZ Small
 simp only[List.mem_cons,forall_eq_or_imp,List.pairwise_cons]
 constructor
 ·rintro⟨⟨a,b⟩,c,d⟩;exact⟨a,c,b,d⟩
 ·rintro⟨a,c,b,d⟩;exact⟨⟨a,b⟩,c,d⟩
theorem cZ.ge {r:Rg} {l:List Rg} (h:cZ (r::l)) {n:Int} (hm:eH l n):r.2<n:=by
 obtain⟨x,hx,h1,h2⟩:=hm
 have:=((dh r l).1 h).2.1 x hx
 omega
def Ok (r:Rg):Prop:=0≤r.1∧r.1<r.2∧r.2≤1073741824
theorem uK (l:List Rg):∀ (r:Rg),Ok r→cZ l→(∀x∈l,r.1≤x.2)→
  cZ (eU l r)∧(∀n,eH (eU l r) n↔eH l n∨(r.1≤n∧n<r.2))∧(∀m,m<r.1→(∀x∈l,m<x.1)→ ∀x∈eU l r,m<x.1):=by
 induction l with
 | nil=>
  intro r hr _ _
  refine⟨(dh r []).2 ⟨hr,by simp,rowP_nil⟩,fun n=>?_,fun m hm _ x hx=>?_⟩
  ·simp[eU,eH]
  ·simp[eU]at hx;subst hx;exact hm
 | cons x t ih=>
  intro r hr hl hx
  have hx0:=hx x (by simp)
  obtain⟨x1,x2,x3⟩:=(dh x t).1 hl
  unfold eU
  by_cases hc:x.1≤r.2
  ·rw[if_pos hc]
   obtain⟨i1,i2,i3⟩:=ih (min r.1 x.1,max r.2 x.2) ⟨by unfold Ok at hr;simp only;omega,by unfold Ok at hr;simp only;omega,by unfold Ok at hr;simp only;omega⟩ x3 (fun y hy=>by
    have h1:=x2 y hy
    have h2:=x3.1 y hy
    simp only;omega)
   refine⟨i1,fun n=>?_,fun m hm hml y hy=>?_⟩
   ·rw[i2,dQ]
    unfold Ok at hr
    simp only
    constructor
    ·rintro(h | h)
     ·exact .inl (.inr h)
     ·by_cases hh:x.1≤n∧n<x.2
      ·exact .inl (.inl hh)
      ·exact .inr (by omega)
    ·rintro((h | h) | h)
     ·exact .inr (by omega)
     ·exact .inl h
     ·exact .inr (by omega)
   ·exact i3 m (by have:=hml x (by simp);simp only;omega) (fun z hz=>hml z (by simp[hz])) y hy
  ·rw[if_neg hc]
   refine⟨(dh r _).2 ⟨hr,fun y hy=>?_,hl⟩,fun n=>?_,fun m hm hml y hy=>?_⟩
   ·simp only[List.mem_cons]at hy
    rcases hy with rfl | hy
    ·omega
    ·have:=x2 y hy;omega
   ·rw[dQ];exact Or.comm
   ·simp only[List.mem_cons]at hy
    rcases hy with rfl | hy
    ·exact hm
    ·exact hml y (by simpa using hy)
theorem zR (l:List Rg) (r:Rg) (hr:Ok r) (hl:cZ l):
  cZ (gu l r)∧(∀n,eH (gu l r) n↔eH l n∨(r.1≤n∧n<r.2))∧(∀m,m<r.1→(∀x∈l,m<x.1)→ ∀x∈gu l r,m<x.1):=by
 induction l with
 | nil=>exact uK [] r hr hl (by simp)
 | cons x t ih=>
  obtain⟨x1,x2,x3⟩:=(dh x t).1 hl
  unfold gu
  by_cases hc:x.2<r.1
  ·rw[if_pos hc]
   obtain⟨i1,i2,i3⟩:=ih x3
   refine⟨(dh x _).2 ⟨x1,i3 x.2 hc x2,i1⟩,fun n=>?_,fun m hm hml y hy=>?_⟩
   ·rw[dQ,dQ,i2];exact or_assoc.symm
   ·simp only[List.mem_cons]at hy
    rcases hy with rfl | hy
    ·exact hml y (by simp)
    ·exact i3 m hm (fun z hz=>hml z (by simp[hz])) y hy
  ·rw[if_neg hc]
   refine uK (x::t) r hr hl (fun y hy=>?_)
   simp only[List.mem_cons]at hy
   rcases hy with rfl | hy
   ·omega
   ·have h1:=x2 y hy
    have h2:=x3.1 y hy
    omega
theorem zS {l:List Rg} {r:Rg} (hl:cZ l) (hr:Ok r):cZ (gu l r):=(zR l r hr hl).1
theorem zT {l:List Rg} {r:Rg} (hl:cZ l) (hr:Ok r) (n:Int):eH (gu l r) n↔eH l n∨(r.1≤n∧n<r.2):=(zR l r hr hl).2.1 n
theorem Cw (l:List Rg) (A B:List Rg) (r:Rg) (hr:r.1<r.2) (h:∀x∈l,x.1<x.2∧r.2<x.1):l.foldl fG (A,B,r)=(A,B++l,r):=by
 induction l generalizing B with
 | nil=>simp
 | cons x t ih=>
  have hx:=h x (by simp)
  have e:fG (A,B,r) x=(A,B++ [x],r):=by
   unfold fG
   simp only
   rw[if_neg (by omega),if_pos hx.2]
  rw[List.foldl_cons,e,ih _ (fun y hy=>h y (by simp[hy]))]
  simp
theorem Ez (l:List Rg) (A:List Rg):∀r:Rg,r.1<r.2→cZ l→(∀x∈l,r.1≤x.2)→
  (l.foldl fG (A,[],r)).1++ [(l.foldl fG (A,[],r)).2.2]++(l.foldl fG (A,[],r)).2.1=A++eU l r:=by
 induction l with
 | nil=>intro r _ _ _;simp[eU]
 | cons x t ih=>
  intro r hr hl hx
  have hx0:=hx x (by simp)
  obtain⟨x1,x2,x3⟩:=(dh x t).1 hl
  unfold eU
  by_cases hc:x.1≤r.2
  ·have e:fG (A,[],r) x=(A,[],(min r.1 x.1,max r.2 x.2)):=by
    unfold fG
    simp only
    rw[if_neg (by omega),if_neg (by omega)]
   rw[if_pos hc,List.foldl_cons,e]
   exact ih _ (by simp only;omega) x3 (fun y hy=>by
    have h1:=x2 y hy
    have h2:=x3.1 y hy
    simp only;omega)
  ·rw[if_neg hc,Cw (x::t) A [] r hr (fun y hy=>by
    simp only[List.mem_cons]at hy
    rcases hy with rfl | hy
    ·omega
    ·have h1:=x2 y hy
     have h2:=x3.1 y hy
     omega)]
   simp
theorem fold_add (l:List Rg) (r:Rg) (hr:r.1<r.2):∀A:List Rg,cZ l→
  (l.foldl fG (A,[],r)).1++ [(l.foldl fG (A,[],r)).2.2]++(l.foldl fG (A,[],r)).2.1=A++gu l r:=by
 induction l with
 | nil=>intro A _;simp[gu]
 | cons x t ih=>
  intro A hl
  obtain⟨x1,x2,x3⟩:=(dh x t).1 hl
  unfold gu
  by_cases hc:x.2<r.1
  ·have e:fG (A,[],r) x=(A++ [x],[],r):=by
    unfold fG
    simp only
    rw[if_pos hc]
   rw[if_pos hc,List.foldl_cons,e,ih _ x3]
   simp
  ·rw[if_neg hc]
   refine Ez (x::t) A r hr hl (fun y hy=>?_)
   simp only[List.mem_cons]at hy
   rcases hy with rfl | hy
   ·omega
   ·have h1:=x2 y hy
    have h2:=x3.1 y hy
    omega
theorem Ga {l:List Rg} {r:Rg} (hl:cZ l) (hr:r.1<r.2):vw l r=gu l r:=by
 have:=fold_add l r hr [] hl
 simpa[vw,nW]using this
end Go.Proofs.YtlfopoimbbpfdaaGreat
namespace Go.Proofs.YtlfopoimbbpfdaaGreat
instance (r:Rg):Decidable (Ok r):=by unfold Ok;exact inferInstance
instance (l:List Rg) (n:Int):Decidable (eH l n):=decidable_of_iff _ (jJ l n)
def bG (l:List Rg) (rs:List Rg):List Rg:=rs.foldl gG l
theorem vO {l:List Rg} {r:Rg} (h:Ok r):gG l r=gu l r:=by
 unfold gG;unfold Ok at h;rw[if_neg (by omega)]
theorem lY (l rs:List Rg) (r:Rg):bG l (rs++ [r])=gG (bG l rs) r:=by simp[bG]
theorem oN (rs:List Rg):∀l,cZ l→(∀r∈rs,Ok r)→cZ (bG l rs)∧(∀n,eH (bG l rs) n↔eH l n∨eH rs n):=by
 induction rs with
 | nil=>intro l hl _;exact⟨hl,fun n=>by simp[bG,eH]⟩
 | cons r rs ih=>
  intro l hl hr
  have h1:=hr r (by simp)
  have e:bG l (r::rs)=bG (gu l r) rs:=by simp only[bG,List.foldl_cons,vO h1]
  obtain⟨i1,i2⟩:=ih (gu l r) (zS hl h1) (fun x hx=>hr x (by simp[hx]))
  rw[e]
  refine⟨i1,fun n=>?_⟩
  rw[i2,zT hl h1,dQ]
  exact or_assoc
theorem cZ.ok {l:List Rg} (h:cZ l):∀r∈l,Ok r:=fun r hr=>h.1 r hr
theorem uL (l:List Rg) (r:Rg):(gG l r).length≤l.length+1:=by
 have hm:∀ (l:List Rg) (r:Rg),(eU l r).length≤l.length+1:=by
  intro l
  induction l with
  | nil=>intro r;simp[eU]
  | cons x t ih=>
   intro r
   unfold eU
   split
   ·have:=ih (min r.1 x.1,max r.2 x.2);simp;omega
   ·simp
 unfold gG
 split
 ·omega
 ·induction l with
  | nil=>simp[gu]
  | cons x t ih=>
   unfold gu
   split
   ·simp;omega
   ·exact hm _ _
theorem gH (rs l:List Rg):(bG l rs).length≤l.length+rs.length:=by
 induction rs generalizing l with
 | nil=>simp[bG]
 | cons r rs ih=>
  have h1:=ih (gG l r)
  have h2:=uL l r
  simp only[bG,List.foldl_cons,List.length_cons]at h1⊢
  omega
end Go.Proofs.YtlfopoimbbpfdaaGreat
namespace Go.Proofs.YtlfopoimbbpfdaaGreat
open Go.RowKit
set_option maxHeartbeats 1000000 in
theorem QC (v:Value) (l:List Rg) (p q:Int) (w:World) (h:fq w v l) (hl:l.length<1000000) (h0:¬Ok (p,q)):
  Calls Tryz.prog 64 #[v,.agg #[.int .i64 p,.int .i64 q]] w (oJ w 2 56 l.length (aR l)):=by
 unfold Ok at h0
 simp only at h0
 have hl2:l.length<1000000000:=by omega
 by_cases d0:q≤p
 ·clear h0
  go_enter Tryz.func64,Tryz.ntmps64
  go_wp2_with fail
  refine(nK _ _ _ (h.keep ((aL _ _).alloc (aC _) _) (aC _)) hl2).mono ?_
  rintro e w5 ⟨v5,rfl,fQ,hb5⟩
  go_wp2
  go_ret
  exact⟨v5,rfl,aO fQ (by simp),((aL _ _).alloc (aC _) _).trans (hb5.mono (by simp))⟩
 have e0:decide (q≤p)=false:=by simpa using d0
 by_cases d1:p<0
 ·clear h0
  go_enter Tryz.func64,Tryz.ntmps64
  go_wp2_with fail
  refine(nK _ _ _ (h.keep ((aL _ _).alloc (aC _) _) (aC _)) hl2).mono ?_
  rintro e w5 ⟨v5,rfl,fQ,hb5⟩
  go_wp2
  go_ret
  exact⟨v5,rfl,aO fQ (by simp),((aL _ _).alloc (aC _) _).trans (hb5.mono (by simp))⟩
 have e1:decide (p<0)=false:=by simpa using d1
 have d2:1073741824<q:=by omega
 clear h0
 go_enter Tryz.func64,Tryz.ntmps64
 go_wp2_with fail
 refine(nK _ _ _ (h.keep ((aL _ _).alloc (aC _) _) (aC _)) hl2).mono ?_
 rintro e w5 ⟨v5,rfl,fQ,hb5⟩
 go_wp2
 go_ret
 exact⟨v5,rfl,aO fQ (by simp),((aL _ _).alloc (aC _) _).trans (hb5.mono (by simp))⟩
theorem Aw (v:Value) (l:List Rg) (p q:Int) (w:World) (h:fq w v l) (hl:l.length<1000000):
  Calls Tryz.prog 64 #[v,.agg #[.int .i64 p,.int .i64 q]] w (oJ w 2 56 (gG l (p,q)).length (aR (gG l (p,q)))):=by
 by_cases hr:Ok (p,q)
 ·have e:gG l (p,q)=gu l (p,q):=by
   unfold gG;unfold Ok at hr;simp only at hr ⊢;rw[if_neg (by omega)]
  rw[e]
  unfold Ok at hr
  exact Nz v l p q w h hl hr.2.1 hr.1 hr.2.2
 ·have e:gG l (p,q)=l:=by
   unfold gG;unfold Ok at hr;simp only at hr ⊢;rw[if_pos (by omega)]
  rw[e]
  exact QC v l p q w h hl hr
end Go.Proofs.YtlfopoimbbpfdaaGreat
