/- What the law asks, in parts: WkF WkG WkH Pl. -/
import Derived.Test.YtlfopoimbbpfdaaGreatPk2
import Derived.Test.YtlfopoimbbpfdaaGreatPk0
import Derived.Test.YtlfopoimbbpfdaaGreatPk4
set_option linter.all false
set_option maxRecDepth 100000
set_option maxHeartbeats 16000000
namespace Go.Proofs.YtlfopoimbbpfdaaGreat
open Go.RowKit
def bY:List Rg→Int→List Rg×List Rg
 | [],_=>([],[])
 | r::l,n=>if n≤0 then([],r::l)else if n<r.2-r.1 then([(r.1,r.1+n)],(r.1+n,r.2)::l)
  else((r.1,r.2)::(bY l (n-(r.2-r.1))).1,(bY l (n-(r.2-r.1))).2)
theorem uX (l:List Rg) (n:Int) (h:n≤0):bY l n=([],l):=by cases l<;>simp[bY,h]
def jY (l:List Rg) (n:Int) (k:Nat) (m:Int) (A B:List Rg):Prop:=bY l n=(A++(bY (l.drop k) m).1,B++(bY (l.drop k) m).2)
theorem jY.a {l:List Rg} {n m:Int} {k:Nat} {A B:List Rg} (h:jY l n k m A B) (hk:k<l.length) (hm:m≤0):jY l n (k+1) m A (B++ [l[k]]):=by
 unfold jY at*;rw[h,uX _ m hm,uX _ m hm,List.drop_eq_getElem_cons hk];simp
theorem jY.b {l:List Rg} {n m:Int} {k:Nat} {A B:List Rg} (h:jY l n k m A B) (hk:k<l.length) (hm:0<m) (hd:m<l[k].2-l[k].1):
  jY l n (k+1) 0 (A++ [(l[k].1,l[k].1+m)]) (B++ [(l[k].1+m,l[k].2)]):=by
 unfold jY at*;rw[h,uX _ 0 (Int.le_refl _),List.drop_eq_getElem_cons hk,bY,if_neg (by omega),if_pos hd];simp
theorem jY.c {l:List Rg} {n m:Int} {k:Nat} {A B:List Rg} (h:jY l n k m A B) (hk:k<l.length) (hm:0<m) (hd:l[k].2-l[k].1≤m):
  jY l n (k+1) (m-(l[k].2-l[k].1)) (A++ [(l[k].1,l[k].2)]) B:=by
 unfold jY at*;rw[h,List.drop_eq_getElem_cons hk,bY,if_neg (by omega),if_neg (by omega)];simp
def OX (w:World) (E e:Nat) (A B:List Value) (na nb:Nat) (x:Int) (en:Ending) (w':World):Prop:=
 ∃v1 v2,en= .returned (.tuple #[v1,v2,.int .i64 x])∧w'.ownsRow w.heap.size e E v1 na A∧w'.ownsRow w.heap.size e E v2 nb B∧Apart v1 v2∧Below w.heap.size w w'
theorem SN (v:Value) (l:List Rg) (n:Int) (w:World) (h:fD w v l) (hs:Small l) (hl:l.length<1000000) (h0:0≤n) (h1:n≤dG l):
  Calls Tryz.prog 112 #[v,.int .i64 n] w (OX w 2 56 (aR (bY l n).1) (aR (bY l n).2) (bY l n).1.length (bY l n).2.length 0):=by
 obtain⟨ao,cap,rfl,dO,hm⟩:=Sl.shape h;have fP:=(kR l hs).2;have d0:decide (n<0)=false:=by simpa using h0
 have d1:decide (dG l<n)=false:=by simpa using h1
 go_enter Tryz.func112,Tryz.ntmps112
 go_wp2_with fail
 refine(KP _ _ _ h hs hl).mono ?_;rintro e w0 ⟨rfl,sj⟩;go_wp2
 go_loopw[1,4,5,20] (fun nv v4 v5 ix wr=>∃ (k:Nat) (m:Int) (A B:List Rg),k≤l.length∧ix= .int .i64 k∧nv= .int .i64 m∧0≤m∧m≤n∧A.length≤k∧B.length≤k∧jY l n k m A B∧
  wr.ownsRow w.heap.size 56 2 v4 A.length (aR A)∧wr.ownsRow w.heap.size 56 2 v5 B.length (aR B)∧Apart v4 v5∧Below w.heap.size w wr) (fun _ _ _ ix _=>l.length-(intOf ix).toNat)
 case atStart=>exact⟨0,n,[],[],Nat.zero_le _,rfl,rfl,h0,Int.le_refl _,aC _,aC _,rfl,World.ownsRow_nil _ _ _ _,World.ownsRow_nil _ _ _ _,xQ _,sj⟩
 case round=>
  obtain⟨k,m,A,B,hk,rfl,rfl,hm0,hmn,hA,hB,hT,ji,gP,ou,hb⟩:=hrel;have hz:=hb.size;have HT:=ah hT;clear hT;rcases Nat.lt_or_ge k l.length with bA | gX
  ·obtain⟨b,off,rfl,kZ,lF,je⟩:=h.pair hb (aC _) k bA
   have hr:=hs l[k] (List.getElem_mem _);rcases Int.lt_or_le 0 m with hmp | hmz
   ·rcases Int.lt_or_le m (l[k].2-l[k].1)with hd | hd
    ·have HN:=ah (HT.out.b bA hmp hd)
     generalize l[k]=r at*;obtain⟨x,y⟩:=r;simp only at lF je hr hd;obtain⟨vQ,uH,KR⟩:=hr;go_upto_region 11 with fail
     go_wp2_with (((with_reducible refine aZ 45 ?_);refine fK (o:=⟨some 45,_,_,_,_,_⟩) rfl _ _ rfl w.heap.size _ A.length A rfl ((ji.alloc _).alloc _) _ _ x (x+m) rfl (dS _ _ _ _ _ (by simp)) (by omega) (by simp;omega) ?_))
     intro v4 w1 mZ hg4 jk;have bB:Below w.heap.size w w1:=((hb.alloc hz _).alloc (by simp;omega) _).grown hg4 (by simp;omega) (bQ ji);have wF:=ou.kept ((gP.alloc _).alloc _) hg4;have Cr:=ou.step2 gP jk (by first | omega | (simp;omega));obtain⟨e0,e1,f0,f1,KX⟩:=iB (Ai ji hg4);have hs1:=bB.size;clear hg4 jk ji gP ou;go_wp2_with (((with_reducible refine aZ 62 ?_);refine fK (o:=⟨some 62,_,_,_,_,_⟩) rfl _ _ rfl w.heap.size _ B.length B rfl (wF.alloc _) _ _ (x+m) y rfl (dS _ _ _ _ _ (by simp)) (by omega) (by simp;omega) ?_))
     intro v5 w2 OY hg5 m_;have bO:Below w.heap.size w w2:=(bB.alloc hs1 _).grown hg5 (by simp;omega) (bQ wF);have OZ:=Cr.symm.kept (mZ.alloc _) hg5;have I_:=Cr.symm.step2 mZ m_ (by first | omega | (simp;omega));clear hg5 m_;go_wp2;go_roundw
     case rel=>exact⟨k+1,0,A++ [(x,x+m)],B++ [(x+m,y)],by omega,by go_num,rfl,by omega,by omega,by simp;omega,by simp;omega,HN.out,by simpa using OZ,by simpa using OY,I_.symm,bO⟩
     case measure=>simp[intOf];omega
    ·have HN:=ah (HT.out.c bA hmp hd)
     generalize l[k]=r at*;obtain⟨x,y⟩:=r;simp only at lF je hr hd;obtain⟨vQ,uH,KR⟩:=hr;rcases Int.lt_or_le (y-x) m with hd2 | hd2
     ·go_upto_region 11 with fail
      go_wp2_with (((with_reducible refine aZ 45 ?_);refine fK (o:=⟨some 45,_,_,_,_,_⟩) rfl _ _ rfl w.heap.size _ A.length A rfl ((ji.alloc _).alloc _) _ _ _ _ rfl (dS _ _ _ _ _ (by first | rfl | simp)) (by omega) (by simp;omega) ?_))
      intro v4 w1 mZ hg4 jk;have bB:Below w.heap.size w w1:=((hb.alloc hz _).alloc (by simp;omega) _).grown hg4 (by simp;omega) (bQ ji);have wF:=ou.kept ((gP.alloc _).alloc _) hg4;have Cr:=ou.step2 gP jk (by first | omega | (simp;omega));obtain⟨e0,e1,f0,f1,KX⟩:=iB (Ai ji hg4);have hs1:=bB.size;clear hg4 jk ji gP ou;go_wp2;go_roundw
      case rel=>exact⟨k+1,m-(y-x),A++ [(x,y)],B,by omega,by go_num,rfl,by omega,by omega,by simp;omega,by omega,HN.out,by first | simpa using mZ | (rw [show x+(y-x)=y from by omega]at mZ;simpa using mZ),wF,Cr,bB⟩
      case measure=>simp[intOf];omega
     ·have hxy:Hid (x+m=y):=by show _=_;omega
      have hm0:Hid (m-(y-x)=0):=by show _=_;omega
      go_wp2_with (((with_reducible refine aZ 45 ?_);refine fK (o:=⟨some 45,_,_,_,_,_⟩) rfl _ _ rfl w.heap.size _ A.length A rfl ((ji.alloc _).alloc _) _ _ x (x+m) rfl (dS _ _ _ _ _ (by first | rfl | simp)) (by omega) (by simp;omega) ?_))
      intro v4 w1 mZ hg4 jk;have bB:Below w.heap.size w w1:=((hb.alloc hz _).alloc (by simp;omega) _).grown hg4 (by simp;omega) (bQ ji);have wF:=ou.kept ((gP.alloc _).alloc _) hg4;have Cr:=ou.step2 gP jk (by first | omega | (simp;omega));obtain⟨e0,e1,f0,f1,KX⟩:=iB (Ai ji hg4);have hs1:=bB.size;clear hg4 jk ji gP ou;go_wp2;go_roundw
      case rel=>exact⟨k+1,m-(y-x),A++ [(x,y)],B,by omega,by go_num,by rw[hm0.out],by omega,by omega,by simp;omega,by omega,HN.out,by rw[hxy.out]at mZ;simpa using mZ,wF,Cr,bB⟩
      case measure=>simp[intOf];omega
   ·have HN:=ah (HT.out.a bA hmz)
    generalize l[k]=r at*;obtain⟨x,y⟩:=r;simp only at lF je hr;obtain⟨vQ,uH,KR⟩:=hr;obtain rfl:m=0:=by omega
    go_wp2_with (((with_reducible refine aZ 62 ?_);refine fK (o:=⟨some 62,_,_,_,_,_⟩) rfl _ _ rfl w.heap.size _ B.length B rfl ((gP.alloc _).alloc _) _ _ x y rfl (dS _ _ _ _ _ (by simp)) (by omega) (by simp;omega) ?_))
    intro v5 w2 OY hg5 m_;have bO:Below w.heap.size w w2:=((hb.alloc hz _).alloc (by simp;omega) _).grown hg5 (by simp;omega) (bQ gP);have OZ:=ou.symm.kept ((ji.alloc _).alloc _) hg5;have I_:=ou.symm.step2 ji m_ (by first | omega | (simp;omega));clear hg5 m_;go_wp2;go_roundw
    case rel=>exact⟨k+1,0,A,B++ [(x,y)],by omega,by go_num,rfl,by omega,by omega,by omega,by simp;omega,HN.out,OZ,by simpa using OY,I_.symm,bO⟩
    case measure=>simp[intOf];omega
  ·have hE:bY l n=(A,B):=by
    have:=HT.out;unfold jY at this;rw[List.drop_eq_nil_of_le gX]at this;simpa[bY]using this
   have HE:=ah hE;have hA':A.length<1000000000:=by omega
   have hB':B.length<1000000000:=by omega
   have s4:fD wr u4 A:=aG ji;have s5:fD wr u5 B:=aG gP;clear hE HT ji gP ou;go_wp2_with fail
   refine(qW _ _ _ s4 hA').mono ?_;rintro e w1 ⟨v1,rfl,nY,bB⟩;have s5':=s5.keep bB (aC _);go_wp2_with fail
   refine(qW _ _ _ s5' hB').mono ?_;rintro e w2 ⟨v2,rfl,qN,bO⟩;go_wp2
   go_ret3
   have dX:=bB.size;refine⟨v1,v2,rfl,by rw[HE.out];exact aI (aN nY hz) bO (aC _),by rw[HE.out];exact aN qN (Nat.le_trans hz dX),fun g lu iY=>?_,(hb.trans (bB.mono hz)).trans (bO.mono (Nat.le_trans hz dX))⟩;have q1:=(nY.lt g lu).2;have q2:=(qN.lt g iY).1;omega
theorem Gb (v:Value) (l:List Rg) (n:Int) (w:World) (h:fD w v l) (hs:Small l) (hl:l.length<1000000) (h1:dG l<n):
  Calls Tryz.prog 112 #[v,.int .i64 n] w fun e w'=>e= .returned (.tuple #[.slice none 0 0,.slice none 0 0,.int .i64 14])∧Below w.heap.size w w':=by
 have h0:=(kR l hs).1;have d0:decide (n<0)=false:=by simp;omega
 go_enter Tryz.func112,Tryz.ntmps112
 go_wp2_with fail
 refine(KP _ _ _ h hs hl).mono ?_;rintro e w0 ⟨rfl,sj⟩;go_wp2
 go_ret3
 exact⟨rfl,sj⟩
def nS (n:Int) (r:Rg):List Rg:=if r.1≤n∧n<r.2 then(if r.1<n then [(r.1,n)]else [])++(if n+1<r.2 then [(n+1,r.2)]else [])else [r]
def cZ (l:List Rg) (n:Int):List Rg:=l.flatMap (nS n)
theorem Ar (l:List Rg) (r:Rg) (n:Int):cZ (l++ [r]) n=cZ l n++nS n r:=by simp[cZ]
theorem Gc (n:Int) (r:Rg):(nS n r).length≤2:=by
 unfold nS
 split
 ·split<;>split<;>simp
 ·simp
theorem wG (l:List Rg) (n:Int):(cZ l n).length≤2*l.length:=by
 induction l with
 | nil=>simp[cZ]
 | cons r l ih=>
  have h:cZ (r::l) n=nS n r++cZ l n:=by simp[cZ]
  rw[h,List.length_append,List.length_cons];have:=Gc n r;omega
def Gf (r:Rg):Bool:=decide (r.1<r.2)
theorem O0 (n x y:Int) (h:x<y) (hn:¬ (x≤n∧n<y)):[(x,y)].filter Gf=nS n (x,y):=by
 simp[nS,Gf,h,hn]
theorem O1 (n x y:Int) (h1:x≤n) (h2:n<y):[(x,n),(n+1,y)].filter Gf=nS n (x,y):=by
 unfold nS;rw[if_pos ⟨h1,h2⟩];by_cases a:x<n<;>by_cases b:n+1<y<;>simp[Gf,a,b]
theorem Gg (l:List Rg) (a b:Int):(l++ [(a,b)]).filter Gf=l.filter Gf++(if a<b then [(a,b)]else []):=by
 rw[List.filter_append];by_cases h:a<b<;>simp[Gf,h]
def O3 (w:World) (E e n:Nat) (cs:List Value) (en:Ending) (w':World):Prop:=
 ∃v',en= .returned (.tuple #[v',.bool true])∧w'.ownsRow w.heap.size e E v' n cs∧Below w.heap.size w w'
theorem SQ (v:Value) (l:List Rg) (n:Int) (w:World) (h:fD w v l) (hl:l.length<1000000) (hn:dM l n=false):
  Calls Tryz.prog 81 #[v,.int .i64 n] w fun e w'=>e= .returned (.tuple #[.slice none 0 0,.bool false])∧Below w.heap.size w w':=by
 have HC:=ah (El v l n w h hl)
 rw[hn]at HC;clear hn
 go_enter Tryz.func81,Tryz.ntmps81
 go_wp2_with fail
 refine HC.out.mono ?_;rintro e w0 ⟨rfl,sj⟩;go_wp2
 go_ret2
 exact⟨rfl,sj⟩
theorem O4 (v:Value) (l:List Rg) (n:Int) (w:World) (h:fD w v l) (hs:Small l) (hl:l.length<1000000) (hn:dM l n=true) (hn0: -1000000000000<n) (Gh:n<1000000000000):
  Calls Tryz.prog 81 #[v,.int .i64 n] w (O3 w 2 56 (cZ l n).length (aR (cZ l n))):=by
 have HC:=ah (El v l n w h hl);rw[hn]at HC;clear hn;obtain⟨ao,cap,rfl,dO,hm⟩:=Sl.shape h
 go_enter Tryz.func81,Tryz.ntmps81
 go_wp2_with fail
 refine HC.out.mono ?_;rintro e w0 ⟨rfl,sj⟩;clear HC;go_wp2
 go_loopw[6,18] (fun v6 ix wr=>∃k:Nat,k≤l.length∧ix= .int .i64 k∧wr.ownsRow w.heap.size 56 2 v6 (cZ (l.take k) n).length (aR (cZ (l.take k) n))∧Below w.heap.size w wr) (fun _ ix _=>l.length-(intOf ix).toNat)
 case atStart=>exact⟨0,Nat.zero_le _,rfl,World.ownsRow_nil _ _ _ _,sj⟩
 case round=>
  obtain⟨k,hk,rfl,ho,hb⟩:=hrel;have hz:=hb.size;have hLk:=wG (l.take k) n;have ac3:(l.take k).length≤k:=List.length_take_le _ _;rcases Nat.lt_or_ge k l.length with bA | gX
  ·obtain⟨b,off,rfl,kZ,lF,je⟩:=h.pair hb (aC _) k bA
   have hr:=hs l[k] (List.getElem_mem _);have HS:=ah (aS l k bA);generalize l[k]=r at*;obtain⟨x,y⟩:=r;simp only at lF je hr;obtain⟨vQ,uH,KR⟩:=hr;have HL:Hid (cZ (l.take (k+1)) n=cZ (l.take k) n++nS n (x,y)):=by show _=_;rw[HS.out,Ar]
   generalize cZ (l.take k) n=L at*;clear HS;obtain⟨bo,FB⟩:∃bo:Bool,bo=decide (x≤n∧n<y):=⟨_,rfl⟩;have HB:=ah FB;clear FB;go_upto_region 8 with fail
   go_cut[33] (fun s33 wx=>s33= .bool bo∧wx=(wr.alloc (.cells #[.int .i64 x,.int .i64 y] 56)).alloc (.cells #[.int .i64 x,.int .i64 y] 56))
   case first=>
    by_cases hx:x≤n
    ·by_cases hy:n<y
     ·have hh:bo=true:=by rw[HB.out];simp[hx,hy]
      subst hh;go_wp2;go_meet;exact⟨rfl,rfl⟩
     ·have hh:bo=false:=by rw[HB.out];simp[hy]
      subst hh;have dy:decide (n<y)=false:=by simpa using hy
      go_wp2;go_meet;exact⟨rfl,rfl⟩
    ·have hh:bo=false:=by rw[HB.out];simp[hx]
     subst hh;have dx:decide (x≤n)=false:=by simpa using hx
     go_wp2;go_meet;exact⟨rfl,rfl⟩
   case rest=>
   obtain⟨rfl,rfl⟩:=hcut;go_upto_if 33 with fail
   go_cut[9] (fun s9 wx=>∃ps:List Rg,wx.ownsRow w.heap.size 56 2 s9 ps.length (aR ps)∧wx.ownsRow w.heap.size 56 2 u6 L.length (aR L)∧Apart u6 s9∧ps.length≤2∧ps.filter Gf=nS n (x,y)∧Below w.heap.size w wx)
   case first=>
    cases bo with
    | true=>
     have HH:=HB.out;have HX:Hid (x≤n∧n<y):=by show _∧_;simpa using HH.symm
     clear HH HB;go_wp2;go_meet;refine⟨[(x,n),(n+1,y)],?_,((ho.alloc _).alloc _).alloc _,?_,by simp,O1 n x y HX.out.1 HX.out.2,((hb.alloc hz _).alloc (by simp;omega) _).alloc (by simp;omega) _⟩
     ·exact dB _ _ _ _ 2 _ 2 (by simp) (by omega) (by omega) rfl
     ·intro g lu iY
      simp[Value.ownBlock]at iY;have:=(ho.lt g lu).2;omega
    | false=>
     have HH:=HB.out;have HX:Hid (¬ (x≤n∧n<y)):=by show ¬_;simpa using HH.symm
     clear HH HB;go_wp2;go_meet;refine⟨[(x,y)],?_,(ho.alloc _).alloc _,?_,by simp,O0 n x y uH HX.out,(hb.alloc hz _).alloc (by simp;omega) _⟩
     ·exact dB _ _ _ _ 2 _ 1 (by simp) (by omega) (by omega) rfl
     ·intro g lu iY
      simp[Value.ownBlock]at iY;have:=(ho.lt g lu).2;omega
   case rest=>
   obtain⟨ps,hops,qN,ou,hps,hf,bO⟩:=hcut;have HF:=ah hf;obtain⟨rQ,VH,rfl,agc,hm9⟩:=Sl.shape (aG hops);have hs2:=bO.size;clear hf HB ho hb lF je;go_wp2
   go_loopw[6,46] (fun v6 jx w3=>∃j:Nat,j≤ps.length∧jx= .int .i64 j∧w3.ownsRow w.heap.size 56 2 v6 (L++(ps.take j).filter Gf).length (aR (L++(ps.take j).filter Gf))∧
    w3.ownsRow w.heap.size 56 2 (.slice rQ ps.length VH) ps.length (aR ps)∧Apart v6 (.slice rQ ps.length VH)∧Below w.heap.size w w3) (fun _ jx _=>ps.length-(intOf jx).toNat)
   case atStart=>exact⟨0,Nat.zero_le _,rfl,by simpa using qN,hops,ou,bO⟩
   case round=>
    obtain⟨j,hj,rfl,iq,KZ,VI,bT⟩:=hrel;have hs3:=bT.size;clear qN hops ou bO;rcases Nat.lt_or_ge j ps.length with oU | ac4
    ·have Ed:fD wr (.slice rQ ps.length VH) ps:=aG KZ
     obtain⟨b9,aie,rfl,jW,FX,he2⟩:=Ed.pair (aL wr.heap.size wr) (aC _) j oU;have HS:=ah (aS ps j oU);generalize ps[j]=r at*;obtain⟨x2,y2⟩:=r;simp only at FX he2
     have hlA:(L++(ps.take j).filter Gf).length<100000000:=by
      have h1:=List.length_filter_le Gf (ps.take j);have h2:=List.length_take_le j ps;simp only[List.length_append];omega
     have HA:Hid (L++(ps.take (j+1)).filter Gf=(L++(ps.take j).filter Gf)++(if x2<y2 then [(x2,y2)]else [])):=by
      show _=_;rw[HS.out,Gg,List.append_assoc]
     generalize L++(ps.take j).filter Gf=A at*;clear HS HL HF;by_cases hxy:x2<y2
     ·have sW:Hid (L++(ps.take (j+1)).filter Gf=A++ [(x2,y2)]):=by show _=_;rw[HA.out,if_pos hxy]
      clear HA;go_upto_region 14 with fail
      go_wp2_with ((with_reducible refine aZ 58 ?_);refine fK (o:=⟨some 58,_,_,_,_,_⟩) rfl _ _ rfl w.heap.size _ A.length A rfl ((iq.alloc _).alloc _) _ _ x2 y2 rfl (dS _ _ _ _ _ (by first | rfl | simp)) (by omega) (by simp;omega) ?_)
      intro v6' w4 ji hg4 jk;have bR:Below w.heap.size w w4:=((bT.alloc hs3 _).alloc (by simp;omega) _).grown hg4 (by simp;omega) (bQ iq);have Zk:=VI.kept ((KZ.alloc _).alloc _) hg4;have ac5:=VI.step2 KZ jk (by first | omega | (simp;omega));clear hg4 jk;go_wp2;go_roundw
      case rel=>exact⟨j+1,by omega,by go_num,by rw[sW.out];simpa using ji,Zk,ac5,bR⟩
      case measure=>simp[intOf];omega
     ·have sW:Hid (L++(ps.take (j+1)).filter Gf=A):=by show _=_;rw[HA.out,if_neg hxy,List.append_nil]
      clear HA;go_wp2;go_roundw
      case rel=>exact⟨j+1,by omega,by go_num,by rw[sW.out];exact iq.alloc _,KZ.alloc _,VI,bT.alloc hs3 _⟩
      case measure=>simp[intOf];omega
    ·have HT:Hid (ps.take j=ps):=List.take_of_length_le ac4
     rw[HT.out]at iq;rw[HF.out,←HL.out]at iq;clear HF HL;go_wp2;go_roundw
     case rel=>exact⟨k+1,by omega,by go_num,iq,bT⟩
     case measure=>simp[intOf];omega
  ·have HT:Hid (l.take k=l):=List.take_of_length_le gX
   rw[HT.out]at ho hLk;have Ed:fD wr u6 (cZ l n):=aG ho;have OW:(cZ l n).length<1000000000:=by omega
   clear HT;go_wp2_with fail
   refine(qW _ _ _ Ed OW).mono ?_;rintro e w5 ⟨v5,rfl,gP,gD⟩;go_wp2
   go_ret2
   exact⟨v5,rfl,aN gP hz,hb.trans (gD.mono hz)⟩
abbrev RSt:=List Rg×List Rg×Rg
def gU (s:RSt) (x:Rg):RSt:=
 if x.2<s.2.2.1 then(s.1++ [x],s.2.1,s.2.2)else if s.2.2.2<x.1 then(s.1,s.2.1++ [x],s.2.2)else(s.1,s.2.1,(min s.2.2.1 x.1,max s.2.2.2 x.2))
def rR (l:List Rg) (r:Rg):RSt:=l.foldl gU ([],[],r)
def zy (l:List Rg) (r:Rg):List Rg:=(rR l r).1++ [(rR l r).2.2]++(rR l r).2.1
theorem Ja (l:List Rg) (x r:Rg):rR (l++ [x]) r=gU (rR l r) x:=by simp[rR]
theorem Au (v:Value) (l:List Rg) (p q:Int) (w:World) (h:fD w v l) (hl:l.length<1000000) (h0:p<q) (h1:0≤p) (h2:q≤1073741824):
  Calls Tryz.prog 66 #[v,.agg #[.int .i64 p,.int .i64 q]] w (sO w 2 56 (zy l (p,q)).length (aR (zy l (p,q)))):=by
 obtain⟨ao,cap,rfl,dO,hm⟩:=Sl.shape h;have d0:decide (q≤p)=false:=by simpa using h0
 have d1:decide (p<0)=false:=by simpa using h1
 have d2:decide (1073741824<q)=false:=by simpa using h2
 go_enter Tryz.func66,Tryz.ntmps66
 go_wp2
 go_loopw[5,6,7] (fun v5 v6 ix wr=>∃ (k:Nat) (A B:List Rg) (p' q':Int),k≤l.length∧ix= .int .i64 k∧rR (l.take k) (p,q)=(A,B,(p',q'))∧A.length≤k∧B.length≤k∧
  wr.ownsRow (w.heap.size+1) 56 2 v5 A.length (aR A)∧wr.ownsRow (w.heap.size+1) 56 2 v6 B.length (aR B)∧Apart v5 v6∧
  wr.heap[w.heap.size]? =some (.cells #[.int .i64 p',.int .i64 q'] 56 (0,0))∧Below w.heap.size w wr) (fun _ _ ix _=>l.length-(intOf ix).toNat)
 case atStart=>exact⟨0,[],[],p,q,Nat.zero_le _,rfl,rfl,aC _,aC _,World.ownsRow_nil _ _ _ _,World.ownsRow_nil _ _ _ _,xQ _,heap_alloc_new w _,(aL _ _).alloc (aC _) _⟩
 case round=>
  obtain⟨k,A,B,p',q',hk,rfl,uE,hA,hB,gP,uf,ou,tO,hb⟩:=hrel;have hz:=hb.size;have uG:=ah uE;clear uE;obtain⟨c0,c1,f0,f1,KX⟩:=iB tO;have HB:=ah tO;clear tO;rcases Nat.lt_or_ge k l.length with bA | gX
  ·obtain⟨b,off,rfl,kZ,lF,je⟩:=h.pair hb (aC _) k bA
   have HN:Hid (rR (l.take (k+1)) (p,q)=gU (A,B,(p',q')) l[k]):=by show _=_;rw[aS l k bA,Ja,uG.out]
   generalize l[k]=r at*;obtain⟨x,y⟩:=r;simp only at lF je;by_cases hx:y<p'
   ·have qO:Hid (rR (l.take (k+1)) (p,q)=(A++ [(x,y)],B,(p',q'))):=by show _=_;rw[HN.out];simp[gU,hx]
    clear HN;go_wp2;go_quiet (fail)
    go_upto_region 9 with fail
    go_wp2_with ((with_reducible refine aZ 64 ?_);refine fK (o:=⟨some 64,_,_,_,_,_⟩) rfl _ _ rfl (w.heap.size+1) _ A.length A rfl ((gI gP nq).alloc _) _ _ x y rfl (jq _ _ _ _) (by omega) (by simp;omega) ?_)
    intro v' w1 nY lu O5;have bB:Below w.heap.size w w1:=((below_drewN hb nq).alloc (by simp;omega) _).grown lu (by simp;omega) (fun g hg=>by have:=bQ gP g hg;omega);have vQ:=(iC lu (b:=w.heap.size) (B:=w.heap.size+1) (by simp;omega) (by omega) (bQ gP)).trans ((Below.heap_alloc _ _ _ (by simp;omega)).trans HB.out);have ac7:=ou.kept ((gI uf nq).alloc _) lu;have Cr:=ou.step2 uf O5 (by first | omega | (simp;omega) | simp);clear lu O5;go_wp2;go_roundw
    case rel=>exact⟨k+1,A++ [(x,y)],B,p',q',by omega,by go_num,qO.out,by simp;omega,by omega,by simpa using nY,ac7,Cr,vQ,bB⟩
    case measure=>simp[intOf];omega
   ·have dx:decide (y<p')=false:=by simpa using hx
    by_cases hq:q'<x
    ·have qO:Hid (rR (l.take (k+1)) (p,q)=(A,B++ [(x,y)],(p',q'))):=by show _=_;rw[HN.out];simp[gU,hx,hq]
     clear HN hx;go_wp2;go_quiet (fail)
     go_wp2;go_quiet (fail)
     go_upto_region 11 with fail
     go_wp2_with ((with_reducible refine aZ 80 ?_);refine fK (o:=⟨some 80,_,_,_,_,_⟩) rfl _ _ rfl (w.heap.size+1) _ B.length B rfl ((gI uf _).alloc _) _ _ x y rfl (jq _ _ _ _) (by omega) (by simp;omega) ?_)
     intro v' w1 nY lu O5;have bB:Below w.heap.size w w1:=((below_drewN hb _).alloc (by simp;omega) _).grown lu (by simp;omega) (fun g hg=>by have:=bQ uf g hg;omega);have vQ:=(iC lu (b:=w.heap.size) (B:=w.heap.size+1) (by simp;omega) (by omega) (bQ uf)).trans ((Below.heap_alloc _ _ _ (by simp;omega)).trans HB.out);have wF:=ou.symm.kept ((gI gP _).alloc _) lu;have Cr:=ou.symm.step2 gP O5 (by first | omega | (simp;omega) | simp);clear lu O5;go_wp2;go_roundw
     case rel=>exact⟨k+1,A,B++ [(x,y)],p',q',by omega,by go_num,qO.out,by omega,by simp;omega,wF,by simpa using nY,Cr.symm,vQ,bB⟩
     case measure=>simp[intOf];omega
    ·have qO:Hid (rR (l.take (k+1)) (p,q)=(A,B,(min p' x,max q' y))):=by show _=_;rw[HN.out];simp[gU,hx,hq]
     have dq:decide (q'<x)=false:=by simpa using hq
     clear HN hx hq;go_wp2;go_quiet (fail)
     go_wp2;go_quiet (fail)
     go_wp2
     go_region
     go_wp2;go_roundw
     case rel=>
      refine⟨k+1,A,B,min p' x,max q' y,by omega,by go_num,qO.out,by omega,by omega,ownsRow_setCell_below (ownsRow_setCell_below (gI gP _) (by simp) _) (by simp) _,ownsRow_setCell_below (ownsRow_setCell_below (gI uf _) (by simp) _) (by simp) _,ou,?_,((below_drewN hb _).setCell (aC _) _).setCell (aC _) _⟩;rw[show min p' x=if x<p' then x else p' from by omega,show max q' y=if q'<y then y else q' from by omega];exact KJ (w:=wr.drewN _) HB.out _ _
     case measure=>simp[intOf];omega
  ·obtain⟨I7,cap6,rfl,hcap6,hm6⟩:=Sl.shape (aG uf)
   have HM:Hid (zy l (p,q)=A++ [(p',q')]++B):=by
    show _=_;have:=uG.out;rw[List.take_of_length_le gX]at this;simp only[zy,this]
   clear uG;go_upto_region 12 with fail
   go_wp2_with ((with_reducible refine aZ 84 ?_);refine FT (o:=⟨some 84,_,_,_,_,_⟩) rfl _ _ rfl (w.heap.size+1) _ A.length A rfl (gP.alloc _) _ _ p' q' rfl (jq _ _ _ _) (by omega) (by simp;omega) ?_)
   intro v3 w3 iq j4;have bT:Below w.heap.size w w3:=(hb.alloc hz _).grown j4 (by simp;omega) (fun g hg=>by have:=bQ gP g hg;omega);have hs3:w.heap.size≤w3.heap.size:=bT.size;have VG:=(aG (ou.kept (uf.alloc _) j4)).rd;clear j4;go_wp2_with ((with_reducible refine aZ 86 ?_);refine xU (o:=⟨some 86,_,_,_,_,_⟩) rfl _ _ rfl w.heap.size _ (A.length+1) (A++ [(p',q')]) rfl (aN iq (by omega)) _ _ _ B rfl rfl VG (by omega) hs3 ?_)
   intro v4 w4 ji hg4;have bR:Below w.heap.size w w4:=bT.grown hg4 hs3 (fun g hg=>by have:=bQ iq g hg;omega);have fP:A.length+1+B.length=(zy l (p,q)).length:=by rw[HM.out];simp;omega
   have Av:w4.ownsRow w.heap.size 56 2 v4 (zy l (p,q)).length (aR (zy l (p,q))):=by rw[←fP,HM.out];simpa using ji
   clear fP hg4 HM;go_wp2;go_ret;exact⟨_,rfl,Av,bR⟩
end Go.Proofs.YtlfopoimbbpfdaaGreat
namespace Go.Proofs.YtlfopoimbbpfdaaGreat
def fQ (l:List Rg) (n:Int):Prop:=∃r∈l,r.1≤n∧n<r.2
theorem wH (n:Int):¬fQ [] n:=by simp[fQ]
theorem fA (r:Rg) (l:List Rg) (n:Int):fQ (r::l) n↔(r.1≤n∧n<r.2)∨fQ l n:=by simp[fQ]
theorem yO (a b:List Rg) (n:Int):fQ (a++b) n↔fQ a n∨fQ b n:=by
 simp only[fQ,List.mem_append];constructor
 ·rintro⟨r,h | h,h2⟩
  ·exact .inl ⟨r,h,h2⟩
  ·exact .inr ⟨r,h,h2⟩
 ·rintro(⟨r,h,h2⟩ | ⟨r,h,h2⟩)
  ·exact⟨r,.inl h,h2⟩
  ·exact⟨r,.inr h,h2⟩
theorem lH (l:List Rg) (n:Int):dM l n=true↔fQ l n:=by simp[dM,fQ]
theorem rowP_nil:dw []:=⟨by simp[Small],by simp⟩
theorem dR (r:Rg) (l:List Rg):dw (r::l)↔(0≤r.1∧r.1<r.2∧r.2≤1073741824)∧(∀x∈l,r.2<x.1)∧dw l:=by
 unfold dw Small;simp only[List.mem_cons,forall_eq_or_imp,List.pairwise_cons];constructor
 ·rintro⟨⟨a,b⟩,c,d⟩;exact⟨a,c,b,d⟩
 ·rintro⟨a,c,b,d⟩;exact⟨⟨a,b⟩,c,d⟩
theorem dw.ge {r:Rg} {l:List Rg} (h:dw (r::l)) {n:Int} (hm:fQ l n):r.2<n:=by
 obtain⟨x,hx,h1,h2⟩:=hm;have:=((dR r l).1 h).2.1 x hx;omega
def Ok (r:Rg):Prop:=0≤r.1∧r.1<r.2∧r.2≤1073741824
theorem yP (l:List Rg):∀ (r:Rg),Ok r→dw l→(∀x∈l,r.1≤x.2)→
  dw (fV l r)∧(∀n,fQ (fV l r) n↔fQ l n∨(r.1≤n∧n<r.2))∧(∀m,m<r.1→(∀x∈l,m<x.1)→ ∀x∈fV l r,m<x.1):=by
 induction l with
 | nil=>
  intro r hr _ _;refine⟨(dR r []).2 ⟨hr,by simp,rowP_nil⟩,fun n=>?_,fun m hm _ x hx=>?_⟩
  ·simp[fV,fQ]
  ·simp[fV]at hx;subst hx;exact hm
 | cons x t ih=>
  intro r hr hl hx;have hx0:=hx x (by simp);obtain⟨x1,x2,x3⟩:=(dR x t).1 hl;unfold fV;by_cases hc:x.1≤r.2
  ·rw[if_pos hc]
   obtain⟨i1,i2,i3⟩:=ih (min r.1 x.1,max r.2 x.2) ⟨by unfold Ok at hr;simp only;omega,by unfold Ok at hr;simp only;omega,by unfold Ok at hr;simp only;omega⟩ x3 (fun y hy=>by
    have h1:=x2 y hy;have h2:=x3.1 y hy
    simp only;omega)
   refine⟨i1,fun n=>?_,fun m hm hml y hy=>?_⟩
   ·rw[i2,fA]
    unfold Ok at hr;simp only;constructor
    ·rintro(h | h)
     ·exact .inl (.inr h)
     ·by_cases hh:x.1≤n∧n<x.2
      ·exact .inl (.inl hh)
      ·exact .inr (by omega)
    ·rintro((h | h) | h)
     ·exact .inr (by omega)
     ·exact .inl h
     ·exact .inr (by omega)
   ·exact i3 m (by have:=hml x (by simp);simp only;omega) (fun z hz=>hml z (by simp[hz])) y hy
  ·rw[if_neg hc]
   refine⟨(dR r _).2 ⟨hr,fun y hy=>?_,hl⟩,fun n=>?_,fun m hm hml y hy=>?_⟩
   ·simp only[List.mem_cons]at hy
    rcases hy with rfl | hy
    ·omega
    ·have:=x2 y hy;omega
   ·rw[fA];exact Or.comm
   ·simp only[List.mem_cons]at hy
    rcases hy with rfl | hy
    ·exact hm
    ·exact hml y (by simpa using hy)
theorem Dr (l:List Rg) (r:Rg) (hr:Ok r) (hl:dw l):
  dw (iF l r)∧(∀n,fQ (iF l r) n↔fQ l n∨(r.1≤n∧n<r.2))∧(∀m,m<r.1→(∀x∈l,m<x.1)→ ∀x∈iF l r,m<x.1):=by
 induction l with
 | nil=>exact yP [] r hr hl (by simp)
 | cons x t ih=>
  obtain⟨x1,x2,x3⟩:=(dR x t).1 hl;unfold iF;by_cases hc:x.2<r.1
  ·rw[if_pos hc]
   obtain⟨i1,i2,i3⟩:=ih x3;refine⟨(dR x _).2 ⟨x1,i3 x.2 hc x2,i1⟩,fun n=>?_,fun m hm hml y hy=>?_⟩
   ·rw[fA,fA,i2];exact or_assoc.symm
   ·simp only[List.mem_cons]at hy
    rcases hy with rfl | hy
    ·exact hml y (by simp)
    ·exact i3 m hm (fun z hz=>hml z (by simp[hz])) y hy
  ·rw[if_neg hc]
   refine yP (x::t) r hr hl (fun y hy=>?_);simp only[List.mem_cons]at hy;rcases hy with rfl | hy
   ·omega
   ·have h1:=x2 y hy
    have h2:=x3.1 y hy;omega
theorem Du {l:List Rg} {r:Rg} (hl:dw l) (hr:Ok r):dw (iF l r):=(Dr l r hr hl).1
theorem Dv {l:List Rg} {r:Rg} (hl:dw l) (hr:Ok r) (n:Int):fQ (iF l r) n↔fQ l n∨(r.1≤n∧n<r.2):=(Dr l r hr hl).2.1 n
theorem Gi (l:List Rg) (A B:List Rg) (r:Rg) (hr:r.1<r.2) (h:∀x∈l,x.1<x.2∧r.2<x.1):l.foldl gU (A,B,r)=(A,B++l,r):=by
 induction l generalizing B with
 | nil=>simp
 | cons x t ih=>
  have hx:=h x (by simp)
  have e:gU (A,B,r) x=(A,B++ [x],r):=by
   unfold gU;simp only;rw[if_neg (by omega),if_pos hx.2]
  rw[List.foldl_cons,e,ih _ (fun y hy=>h y (by simp[hy]))];simp
theorem Jb (l:List Rg) (A:List Rg):∀r:Rg,r.1<r.2→dw l→(∀x∈l,r.1≤x.2)→
  (l.foldl gU (A,[],r)).1++ [(l.foldl gU (A,[],r)).2.2]++(l.foldl gU (A,[],r)).2.1=A++fV l r:=by
 induction l with
 | nil=>intro r _ _ _;simp[fV]
 | cons x t ih=>
  intro r hr hl hx;have hx0:=hx x (by simp);obtain⟨x1,x2,x3⟩:=(dR x t).1 hl;unfold fV;by_cases hc:x.1≤r.2
  ·have e:gU (A,[],r) x=(A,[],(min r.1 x.1,max r.2 x.2)):=by
    unfold gU;simp only;rw[if_neg (by omega),if_neg (by omega)]
   rw[if_pos hc,List.foldl_cons,e]
   exact ih _ (by simp only;omega) x3 (fun y hy=>by
    have h1:=x2 y hy;have h2:=x3.1 y hy
    simp only;omega)
  ·rw[if_neg hc,Gi (x::t) A [] r hr (fun y hy=>by
    simp only[List.mem_cons]at hy;rcases hy with rfl | hy
    ·omega
    ·have h1:=x2 y hy
     have h2:=x3.1 y hy
     omega)]
   simp
theorem fold_add (l:List Rg) (r:Rg) (hr:r.1<r.2):∀A:List Rg,dw l→
  (l.foldl gU (A,[],r)).1++ [(l.foldl gU (A,[],r)).2.2]++(l.foldl gU (A,[],r)).2.1=A++iF l r:=by
 induction l with
 | nil=>intro A _;simp[iF]
 | cons x t ih=>
  intro A hl;obtain⟨x1,x2,x3⟩:=(dR x t).1 hl;unfold iF;by_cases hc:x.2<r.1
  ·have e:gU (A,[],r) x=(A++ [x],[],r):=by
    unfold gU;simp only;rw[if_pos hc]
   rw[if_pos hc,List.foldl_cons,e,ih _ x3];simp
  ·rw[if_neg hc]
   refine Jb (x::t) A r hr hl (fun y hy=>?_);simp only[List.mem_cons]at hy;rcases hy with rfl | hy
   ·omega
   ·have h1:=x2 y hy
    have h2:=x3.1 y hy;omega
theorem K5 {l:List Rg} {r:Rg} (hl:dw l) (hr:r.1<r.2):zy l r=iF l r:=by
 have:=fold_add l r hr [] hl;simpa[zy,rR]using this
end Go.Proofs.YtlfopoimbbpfdaaGreat
namespace Go.Proofs.YtlfopoimbbpfdaaGreat
instance (r:Rg):Decidable (Ok r):=by unfold Ok;exact inferInstance
instance (l:List Rg) (n:Int):Decidable (fQ l n):=decidable_of_iff _ (lH l n)
def bK (l:List Rg) (rs:List Rg):List Rg:=rs.foldl iM l
theorem zW {l:List Rg} {r:Rg} (h:Ok r):iM l r=iF l r:=by
 unfold iM;unfold Ok at h;rw[if_neg (by omega)]
theorem pz (l rs:List Rg) (r:Rg):bK l (rs++ [r])=iM (bK l rs) r:=by simp[bK]
theorem sZ (rs:List Rg):∀l,dw l→(∀r∈rs,Ok r)→dw (bK l rs)∧(∀n,fQ (bK l rs) n↔fQ l n∨fQ rs n):=by
 induction rs with
 | nil=>intro l hl _;exact⟨hl,fun n=>by simp[bK,fQ]⟩
 | cons r rs ih=>
  intro l hl hr;have h1:=hr r (by simp);have e:bK l (r::rs)=bK (iF l r) rs:=by simp only[bK,List.foldl_cons,zW h1]
  obtain⟨i1,i2⟩:=ih (iF l r) (Du hl h1) (fun x hx=>hr x (by simp[hx]));rw[e];refine⟨i1,fun n=>?_⟩;rw[i2,Dv hl h1,fA];exact or_assoc
theorem yQ (l:List Rg) (r:Rg):(iM l r).length≤l.length+1:=by
 have hm:∀ (l:List Rg) (r:Rg),(fV l r).length≤l.length+1:=by
  intro l
  induction l with
  | nil=>intro r;simp[fV]
  | cons x t ih=>
   intro r;unfold fV
   split
   ·have:=ih (min r.1 x.1,max r.2 x.2);simp;omega
   ·simp
 unfold iM
 split
 ·omega
 ·induction l with
  | nil=>simp[iF]
  | cons x t ih=>
   unfold iF
   split
   ·simp;omega
   ·exact hm _ _
theorem iN (rs l:List Rg):(bK l rs).length≤l.length+rs.length:=by
 induction rs generalizing l with
 | nil=>simp[bK]
 | cons r rs ih=>
  have h1:=ih (iM l r);have h2:=yQ l r;simp only[bK,List.foldl_cons,List.length_cons]at h1⊢;omega
end Go.Proofs.YtlfopoimbbpfdaaGreat
namespace Go.Proofs.YtlfopoimbbpfdaaGreat
open Go.RowKit
theorem VJ (v:Value) (l:List Rg) (p q:Int) (w:World) (h:fD w v l) (hl:l.length<1000000) (h0:¬Ok (p,q)):
  Calls Tryz.prog 64 #[v,.agg #[.int .i64 p,.int .i64 q]] w (sO w 2 56 l.length (aR l)):=by
 unfold Ok at h0;simp only at h0;have vR:l.length<1000000000:=by omega
 by_cases d0:q≤p
 ·clear h0
  go_enter Tryz.func64,Tryz.ntmps64
  go_wp2_with fail
  refine(qW _ _ _ (h.keep ((aL _ _).alloc (aC _) _) (aC _)) vR).mono ?_;rintro e w5 ⟨v5,rfl,gP,gD⟩;go_wp2;go_ret;exact⟨v5,rfl,aN gP (by simp),((aL _ _).alloc (aC _) _).trans (gD.mono (by simp))⟩
 have e0:decide (q≤p)=false:=by simpa using d0
 by_cases d1:p<0
 ·clear h0
  go_enter Tryz.func64,Tryz.ntmps64
  go_wp2_with fail
  refine(qW _ _ _ (h.keep ((aL _ _).alloc (aC _) _) (aC _)) vR).mono ?_;rintro e w5 ⟨v5,rfl,gP,gD⟩;go_wp2;go_ret;exact⟨v5,rfl,aN gP (by simp),((aL _ _).alloc (aC _) _).trans (gD.mono (by simp))⟩
 have e1:decide (p<0)=false:=by simpa using d1
 have d2:1073741824<q:=by omega
 clear h0
 go_enter Tryz.func64,Tryz.ntmps64
 go_wp2_with fail
 refine(qW _ _ _ (h.keep ((aL _ _).alloc (aC _) _) (aC _)) vR).mono ?_;rintro e w5 ⟨v5,rfl,gP,gD⟩;go_wp2;go_ret;exact⟨v5,rfl,aN gP (by simp),((aL _ _).alloc (aC _) _).trans (gD.mono (by simp))⟩
theorem Es (v:Value) (l:List Rg) (p q:Int) (w:World) (h:fD w v l) (hl:l.length<1000000):
  Calls Tryz.prog 64 #[v,.agg #[.int .i64 p,.int .i64 q]] w (sO w 2 56 (iM l (p,q)).length (aR (iM l (p,q)))):=by
 by_cases hr:Ok (p,q)
 ·have e:iM l (p,q)=iF l (p,q):=by
   unfold iM;unfold Ok at hr;simp only at hr ⊢;rw[if_neg (by omega)]
  rw[e];unfold Ok at hr;exact SL v l p q w h hl hr.2.1 hr.1 hr.2.2
 ·have e:iM l (p,q)=l:=by
   unfold iM;unfold Ok at hr;simp only at hr ⊢;rw[if_pos (by omega)]
  rw[e];exact VJ v l p q w h hl hr
end Go.Proofs.YtlfopoimbbpfdaaGreat
