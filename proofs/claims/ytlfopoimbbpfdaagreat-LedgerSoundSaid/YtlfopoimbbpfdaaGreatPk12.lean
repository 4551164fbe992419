/- What the law asks, in parts: Pl3 LPf ZC LDl LBs. -/
import Derived.Deep.LoopGhost
import Derived.Lib.SlicesSearch
import Derived.Test.YtlfopoimbbpfdaaGreatPk5
import Derived.Test.YtlfopoimbbpfdaaGreatPk11
import Derived.Test.YtlfopoimbbpfdaaGreatPk7
import Derived.Test.YtlfopoimbbpfdaaGreatPk10
import Derived.Test.YtlfopoimbbpfdaaGreatPk1
set_option linter.all false
set_option maxRecDepth 100000
set_option maxHeartbeats 16000000
namespace Go.Proofs.YtlfopoimbbpfdaaGreat
def sG:List Rg→Int→Int
 | [],_=>0
 | r::l,k=>max 0 (min r.2 k-r.1)+sG l k
theorem pO (l:List Rg) (k:Int):0≤sG l k:=by
 induction l with
 | nil=>simp[sG]
 | cons r l ih=>simp only[sG];omega
theorem qC (l:List Rg) (k:Int) (h:∀x∈l,k≤x.1):sG l k=0:=by
 induction l with
 | nil=>rfl
 | cons r l ih=>
  have:=h r (by simp);simp only[sG,ih (fun x hx=>h x (by simp[hx]))];omega
theorem vE (l:List Rg):∀n,0≤n→n≤dG l→dw l→
  dw (bY l n).1∧dw (bY l n).2∧dG (bY l n).1=n∧dG (bY l n).2=dG l-n∧
  (∀k,fQ (bY l n).1 k↔fQ l k∧sG l k<n)∧(∀k,fQ (bY l n).2 k↔fQ l k∧n≤sG l k)∧
  (∀m,(∀x∈l,m<x.1)→(∀x∈(bY l n).1,m<x.1)∧(∀x∈(bY l n).2,m<x.1)):=by
 induction l with
 | nil=>
  intro n h0 h1 _;simp only[dG]at h1;have:n=0:=by omega
  subst this;refine⟨rowP_nil,rowP_nil,rfl,rfl,fun k=>?_,fun k=>?_,fun m _=>?_⟩<;>simp[bY,fQ]
 | cons r l ih=>
  intro n h0 h1 h;obtain⟨a1,a2,a3⟩:=(dR r l).1 h;simp only[dG]at h1;unfold bY;by_cases hz:n≤0
  ·have:n=0:=by omega
   subst this;rw[if_pos (Int.le_refl _)];refine⟨rowP_nil,h,rfl,by simp,fun k=>?_,fun k=>?_,fun m hm=>⟨by simp,hm⟩⟩
   ·have:=pO (r::l) k
    constructor
    ·intro hh;exact absurd hh (wH _)
    ·rintro⟨_,hh⟩;omega
   ·have:=pO (r::l) k
    exact⟨fun hh=>⟨hh,this⟩,fun hh=>hh.1⟩
  ·rw[if_neg hz]
   by_cases hd:n<r.2-r.1
   ·rw[if_pos hd]
    have hB:dw ((r.1+n,r.2)::l):=(dR _ _).2 ⟨by simp only;omega,a2,a3⟩;refine⟨(dR _ _).2 ⟨by simp only;omega,by simp,rowP_nil⟩,hB,by simp only[dG];omega,by simp only[dG];omega,fun k=>?_,fun k=>?_,fun m hm=>⟨fun x hx=>?_,fun x hx=>?_⟩⟩
    ·simp only[fA,sG]
     constructor
     ·rintro(hh | hh)
      ·have e:sG l k=0:=qC l k (fun x hx=>by have:=a2 x hx;omega)
       exact⟨.inl (by omega),by omega⟩
      ·exact absurd hh (wH _)
     ·rintro⟨hh | hh,hc⟩
      ·have e:sG l k=0:=qC l k (fun x hx=>by have:=a2 x hx;omega)
       exact .inl (by omega)
      ·have:=h.ge hh
       have:=pO l k;omega
    ·simp only[fA,sG]
     constructor
     ·rintro(hh | hh)
      ·have e:sG l k=0:=qC l k (fun x hx=>by have:=a2 x hx;omega)
       exact⟨.inl (by omega),by omega⟩
      ·have:=h.ge hh
       have:=pO l k;exact⟨.inr hh,by omega⟩
     ·rintro⟨hh | hh,hc⟩
      ·have e:sG l k=0:=qC l k (fun x hx=>by have:=a2 x hx;omega)
       exact .inl (by omega)
      ·exact .inr hh
    ·simp at hx;subst hx;exact hm r (by simp)
    ·simp only[List.mem_cons]at hx
     rcases hx with rfl | hx
     ·have:=hm r (by simp);simp only;omega
     ·exact hm x (by simp[hx])
   ·rw[if_neg hd]
    obtain⟨i1,i2,i3,i4,i5,i6,i7⟩:=ih (n-(r.2-r.1)) (by omega) (by omega) a3;obtain⟨j1,j2⟩:=i7 r.2 a2;refine⟨(dR _ _).2 ⟨a1,j1,i1⟩,i2,by simp only[dG];omega,by simp only[dG];omega,fun k=>?_,fun k=>?_,fun m hm=>⟨fun x hx=>?_,fun x hx=>?_⟩⟩
    ·simp only[fA,sG,i5]
     constructor
     ·rintro(hh | hh)
      ·have e:sG l k=0:=qC l k (fun x hx=>by have:=a2 x hx;omega)
       exact⟨.inl hh,by omega⟩
      ·have:=h.ge hh.1
       exact⟨.inr hh.1,by omega⟩
     ·rintro⟨hh | hh,hc⟩
      ·exact .inl hh
      ·have:=h.ge hh
       exact .inr ⟨hh,by omega⟩
    ·simp only[fA,sG,i6]
     constructor
     ·rintro⟨hh,hc⟩
      have:=h.ge hh;exact⟨.inr hh,by omega⟩
     ·rintro⟨hh | hh,hc⟩
      ·have e:sG l k=0:=qC l k (fun x hx=>by have:=a2 x hx;omega)
       omega
      ·have:=h.ge hh
       exact⟨hh,by omega⟩
    ·simp only[List.mem_cons]at hx
     rcases hx with rfl | hx
     ·exact hm r (by simp)
     ·exact(i7 m (fun y hy=>hm y (by simp[hy]))).1 x hx
    ·exact(i7 m (fun y hy=>hm y (by simp[hy]))).2 x hx
theorem M6 (n:Int) (r:Rg) (h:Ok r):dw (nS n r)∧(∀k,fQ (nS n r) k↔(r.1≤k∧k<r.2)∧k≠n)∧(∀x∈nS n r,r.1≤x.1∧x.2≤r.2)∧
  dG (nS n r)=r.2-r.1-(if r.1≤n∧n<r.2 then 1 else 0):=by
 unfold Ok at h;unfold nS;by_cases hn:r.1≤n∧n<r.2
 ·rw[if_pos hn,if_pos hn]
  by_cases h1:r.1<n<;>by_cases h2:n+1<r.2
  ·rw[if_pos h1,if_pos h2]
   refine⟨(dR _ _).2 ⟨by simp only;omega,by simp;omega,(dR _ _).2 ⟨by simp only;omega,by simp,rowP_nil⟩⟩,fun k=>?_,by simp;omega,by simp[dG];omega⟩;simp[fQ];omega
  ·rw[if_pos h1,if_neg h2]
   refine⟨(dR _ _).2 ⟨by simp only;omega,by simp,rowP_nil⟩,fun k=>?_,by simp;omega,by simp[dG];omega⟩;simp[fQ];omega
  ·rw[if_neg h1,if_pos h2]
   refine⟨(dR _ _).2 ⟨by simp only;omega,by simp,rowP_nil⟩,fun k=>?_,by simp;omega,by simp[dG];omega⟩;simp[fQ];omega
  ·rw[if_neg h1,if_neg h2]
   refine⟨rowP_nil,fun k=>?_,by simp,by simp[dG];omega⟩;simp[fQ];omega
 ·rw[if_neg hn,if_neg hn]
  refine⟨(dR _ _).2 ⟨h,by simp,rowP_nil⟩,fun k=>?_,by simp,by simp[dG]⟩;simp only[fQ,List.mem_singleton,exists_eq_left];constructor
  ·intro hk;exact⟨hk,fun e=>hn (by omega)⟩
  ·exact fun hk=>hk.1
theorem Jv (r:Rg) (l:List Rg) (n:Int):cZ (r::l) n=nS n r++cZ l n:=by simp[cZ]
theorem rowP_append {a b:List Rg} (ha:dw a) (hb:dw b) (h:∀x∈a,∀y∈b,x.2<y.1):dw (a++b):=
 ⟨fun r hr=>by rcases List.mem_append.1 hr with hr | hr;exact ha.1 r hr;exact hb.1 r hr,List.pairwise_append.2 ⟨ha.2,hb.2,h⟩⟩
theorem AX (l:List Rg) (n:Int) (h:dw l):dw (cZ l n)∧(∀k,fQ (cZ l n) k↔fQ l k∧k≠n)∧(∀m,(∀x∈l,m<x.1)→ ∀x∈cZ l n,m<x.1)∧
  dG (cZ l n)=dG l-(if dM l n then 1 else 0):=by
 induction l with
 | nil=>exact⟨rowP_nil,fun k=>by simp[cZ,fQ],fun m _=>by simp[cZ],by simp[cZ,dG,dM]⟩
 | cons r l ih=>
  obtain⟨a1,a2,a3⟩:=(dR r l).1 h;obtain⟨i1,i2,i3,i4⟩:=ih a3;obtain⟨c1,c2,c3,c4⟩:=M6 n r a1;rw[Jv];refine⟨rowP_append c1 i1 (fun x hx y hy=>?_),fun k=>?_,fun m hm x hx=>?_,?_⟩
  ·have:=(c3 x hx).2
   have:=i3 r.2 a2 y hy;omega
  ·rw[yO,c2,i2,fA]
   constructor
   ·rintro(hh | hh)
    ·exact⟨.inl hh.1,hh.2⟩
    ·exact⟨.inr hh.1,hh.2⟩
   ·rintro⟨hh | hh,hk⟩
    ·exact .inl ⟨hh,hk⟩
    ·exact .inr ⟨hh,hk⟩
  ·rcases List.mem_append.1 hx with hx | hx
   ·have:=(c3 x hx).1
    have:=hm r (by simp);omega
   ·exact i3 m (fun y hy=>hm y (by simp[hy])) x hx
  ·rw[sJ,c4,i4]
   simp only[dG];by_cases hr:r.1≤n∧n<r.2
   ·have h2:dM l n=false:=by
     rw[Bool.eq_false_iff];intro hh;have:=h.ge ((lH l n).1 hh);omega
    have h1:dM (r::l) n=true:=(lH _ _).2 ((fA r l n).2 (.inl hr));simp[hr,h1,h2];omega
   ·have h1:dM (r::l) n=dM l n:=by
     rw[Bool.eq_iff_iff,lH,lH,fA];exact⟨fun hh=>hh.resolve_left hr,.inr⟩
    simp[hr,h1];omega
end Go.Proofs.YtlfopoimbbpfdaaGreat
namespace Go.Proofs.YtlfopoimbbpfdaaGreat
open Go.RowKit
theorem EH (l:List Int) (n:Int) (h:l.Pairwise (· ≤ ·)):l.take (l.countP (· <n))=l.filter (· <n)∧l.drop (l.countP (· <n))=l.filter (fun x=>!decide (x<n)):=by
 induction l with
 | nil=>simp
 | cons x l ih=>
  rw[List.pairwise_cons]at h;obtain⟨i1,i2⟩:=ih h.2;by_cases hx:x<n
  ·simp[hx,i1,i2]
  ·have gY:∀y∈l,¬y<n:=fun y hy=>by have:=h.1 y hy;omega
   have h0:l.countP (· <n)=0:=by rw[List.countP_eq_zero];intro y hy;simpa using gY y hy
   have hf:l.filter (· <n)= []:=by rw[List.filter_eq_nil_iff];intro y hy;simpa using gY y hy
   have hf2:l.filter (fun x=>!decide (x<n))=l:=by rw[List.filter_eq_self];intro y hy;have:=gY y hy;simp;omega
   simp[hx,h0,hf,hf2]
theorem GL (l:List Int) (n:Int) (h:l.Pairwise (· ≤ ·)):(rise l n).Pairwise (· ≤ ·):=by
 obtain⟨h1,h2⟩:=EH l n h;unfold rise;rw[h1,h2,List.pairwise_append];refine⟨h.filter _,?_,fun a ha b hb=>?_⟩
 ·rw[List.pairwise_cons]
  refine⟨fun a ha=>?_,h.filter _⟩;simp only[List.mem_filter,Bool.not_eq_true',decide_eq_false_iff_not]at ha;omega
 ·simp only[List.mem_filter,decide_eq_true_eq]at ha
  simp only[List.mem_cons,List.mem_filter,Bool.not_eq_true',decide_eq_false_iff_not]at hb;rcases hb with rfl | hb
  ·omega
  ·omega
theorem wQ (l:List Int) (n:Int):(rise l n).length=l.length+1:=by
 unfold rise;have:=List.countP_le_length (p:=fun x=>decide (x<n)) (l:=l);simp only[List.length_append,List.length_take,List.length_cons,List.length_drop];omega
theorem GN (l:List Int) (n:Int) (h:l.Pairwise (· ≤ ·)):(gV l n).Pairwise (· ≤ ·)∧(gV l n).length≤l.length+1:=by
 unfold gV
 split
 ·exact⟨h,by omega⟩
 ·exact⟨GL l n h,by rw[wQ];omega⟩
theorem pQ (l:List Rg) (h:Small l):(l.length:Int)≤dG l:=by
 induction l with
 | nil=>simp[dG]
 | cons r l ih=>
  have h1:=h r (by simp);have h2:=ih (fun x hx=>h x (by simp[hx]));simp only[dG,List.length_cons];omega
theorem Jw (l:List Rg) (n:Int) (h:dw l):dw (eU l n)∧dG (eU l n)≤dG l:=by
 unfold eU
 split
 ·obtain⟨h1,_,_,h4⟩:=AX l n h
  exact⟨h1,by rw[h4];split<;>omega⟩
 ·exact⟨h,by omega⟩
theorem oF (us:List Int):∀l:List Rg,dw l→dw (us.foldl eU l)∧dG (us.foldl eU l)≤dG l:=by
 induction us with
 | nil=>intro l h;exact⟨h,by simp⟩
 | cons u us ih=>
  intro l h;obtain⟨h1,h2⟩:=Jw l u h;obtain⟨h3,h4⟩:=ih _ h1;exact⟨h3,by rw[List.foldl_cons];omega⟩
theorem yY (us:List Int):∀l:List Int,l.Pairwise (· ≤ ·)→(us.foldl gV l).Pairwise (· ≤ ·)∧(us.foldl gV l).length≤l.length+us.length:=by
 induction us with
 | nil=>intro l h;exact⟨h,by simp⟩
 | cons u us ih=>
  intro l h;obtain⟨h1,h2⟩:=GN l u h;obtain⟨h3,h4⟩:=ih _ h1;exact⟨h3,by rw[List.foldl_cons,List.length_cons];omega⟩
def Jy (U:Int) (cs:List Ct):Prop:=∀c∈cs,0≤c.up∧c.up≤U∧0≤c.down∧c.down≤U
def Tf (s:Sc):Prop:=0≤s.uu∧s.uu≤s.up∧s.up≤2199023255552∧0≤s.ud∧s.ud≤s.down∧s.down≤2199023255552
theorem Jy.mono {U V:Int} {cs:List Ct} (h:Jy U cs) (hUV:U≤V):Jy V cs:=fun c hc=>by have:=h c hc;omega
theorem Jz {U:Int} {cs:List Ct} {s:Sc} (h:Jy U cs) (hs:Tf s) (hU:0≤U):Jy (U+2199023255552) (fH cs s):=by
 unfold fH
 split
 ·exact h.mono (by omega)
 ·intro c hc
  rcases List.mem_or_eq_of_mem_set hc with hc | rfl
  ·have:=h c hc;omega
  ·have hg:0≤(cs.getD (bJ cs s.key).toNat l8).up∧(cs.getD (bJ cs s.key).toNat l8).up≤U∧0≤(cs.getD (bJ cs s.key).toNat l8).down∧(cs.getD (bJ cs s.key).toNat l8).down≤U:=by
    rw[List.getD_eq_getElem?_getD];rcases hq:cs[(bJ cs s.key).toNat]? with _ | c
    ·simp only[Option.getD_none,l8];omega
    ·simp only[Option.getD_some];exact h c (List.mem_of_getElem? hq)
   unfold Tf at hs;simp only;omega
theorem EI (cs:List Ct) (s:Sc):(fH cs s).length=cs.length:=by unfold fH;split<;>simp
theorem rC (ss:List Sc):∀ (U:Int) (cs:List Ct),0≤U→Jy U cs→(∀s∈ss,Tf s)→Jy (U+2199023255552*ss.length) (ss.foldl fH cs)∧(ss.foldl fH cs).length=cs.length:=by
 induction ss with
 | nil=>intro U cs _ h _;exact⟨by simpa using h,rfl⟩
 | cons s ss ih=>
  intro U cs hU h hs;obtain⟨h1,h2⟩:=ih (U+2199023255552) (fH cs s) (by omega) (Jz h (hs s (by simp)) hU) (fun x hx=>hs x (by simp[hx]));rw[List.foldl_cons];refine⟨h1.mono ?_,by rw[h2,EI]⟩;rw[List.length_cons];have:((ss.length+1:Nat):Int)=ss.length+1:=by omega
  rw[this];omega
theorem mH {α β:Type} (f:β→α→β) (l:List α) (b:β) (k:Nat) (hk:k<l.length):(l.take (k+1)).foldl f b=f ((l.take k).foldl f b) l[k]:=by
 rw[aS l k hk,List.foldl_append];rfl
structure Li (b:Bk) (l:Ls):Prop where
 nc:b.cs.length<1000
 nf:b.free.length<10000
 nl:b.ls.length<10000
 nb:b.bound.length<10000
 each:∀l∈b.ls,l.sl.length<1000∧l.ids.length<10000∧l.used.length<10000
 row:dw l.ids
 len:dG l.ids<10000
 ct:Jy 2199023255552 b.cs
 sc:∀s∈l.sl,Tf s
 used:∀n∈l.used,-1000000000000<n∧n<1000000000000
 sort:b.bound.Pairwise (· ≤ ·)
def iy (l:List Int) (n:Int):List Int:=l.takeWhile (· <n)++n::l.dropWhile (· <n)
theorem PN {α:Type} (p:α→Bool) (l:List α) (k:Nat) (hk:k≤l.length) (h1:∀j (h:j<l.length),j<k→p l[j]=true) (h2:∀h:k<l.length,p l[k]=false):l.takeWhile p=l.take k∧l.dropWhile p=l.drop k:=by
 induction l generalizing k with
 | nil=>simp
 | cons x l ih=>
  cases k with
  | zero=>
   have:=h2 (by simp);simp at this;simp[this]
  | succ k=>
   have hx:p x=true:=h1 0 (by simp) (by omega);obtain⟨i1,i2⟩:=ih k (by simpa using hk) (fun j h hj=>h1 (j+1) (by simpa using h) (by omega)) (fun h=>h2 (by simpa using h));simp[hx,i1,i2]
theorem M7 {w:World} {ao:Option Addr} {l:List Int} {cap:Nat} (h:jv w (.slice ao l.length cap) l):Rd w ao (bS l):=Sl.rd h
theorem GQ (l:List Int) (k:Nat):(bS l).take (k*1)=bS (l.take k):=by simp[bS,List.map_take]
theorem GR (l:List Int) (k:Nat):(bS l).drop (k*1)=bS (l.drop k):=by simp[bS,List.map_drop]
theorem DR (v:Value) (l:List Int) (n:Int) (w:World) (h:jv w v l) (hl:l.length<100000):
  Calls Tryz.prog 86 #[v,.int .i64 n] w (sO w 1 3 (iy l n).length (bS (iy l n))):=by
 obtain⟨ao,cap,rfl,dO,hm⟩:=Sl.shape h;have HC:=ah dO;obtain⟨i,hi,kK,dX,f_⟩:=info_parts Tryz.xY;have EJ:=ah (And.intro hi dX);clear hi kK dX f_
 go_enter Tryz.func86,Tryz.ntmps86
 go_upto_block 0 with fail
 go_cut[5] (fun v5 wx=>∃k:Nat,k≤l.length∧v5= .int .i64 k∧Hid (iy l n=l.take k++n::l.drop k)∧wx=w)
 case first=>
  go_wp2
  go_loop[5] (fun vk=>∃k:Nat,k≤l.length∧vk= .int .i64 k∧Hid (∀j (h:j<l.length),j<k→decide (l[j]<n)=true)) (fun vk=>l.length-(intOf vk).toNat)
  case atStart=>exact⟨0,Nat.zero_le _,rfl,ah (fun j _ hj=>by omega)⟩
  case round=>
   obtain⟨k,hk,rfl,HJ⟩:=hrel;by_cases EK:∃h:k<l.length,l[k]<n
   ·obtain⟨bA,hq⟩:=EK
    obtain⟨b,off,rfl,kZ,c0⟩:=jv.cell h (aL _ _) (aC _) k bA;have jK:(k:Int)<l.length:=by omega
    have HN:Hid (∀j (h:j<l.length),j<k+1→decide (l[j]<n)=true):=ah (fun j hj Df=>by
     by_cases e:j=k
     ·subst e;simpa using hq
     ·exact HJ.out j hj (by omega))
    generalize l[k]=r at*;go_wp2;go_round
    case rel=>exact⟨k+1,by omega,by go_num,HN⟩
    case measure=>simp[intOf];omega
   ·obtain⟨w1,w2⟩:=PN (fun x=>decide (x<n)) l k hk HJ.out (fun hh=>by simp only[decide_eq_false_iff_not];exact fun e=>EK ⟨hh,e⟩)
    have RZ:Hid (iy l n=l.take k++n::l.drop k):=ah (by show _=_;unfold iy;rw[w1,w2]);have xK:=ah EK;clear w1 w2 HJ EK;by_cases bA:k<l.length
    ·obtain⟨b,off,rfl,kZ,c0⟩:=jv.cell h (aL _ _) (aC _) k bA
     have jK:(k:Int)<l.length:=by omega
     have hq:¬l[k]<n:=fun e=>xK.out ⟨bA,e⟩
     have hqd:decide (l[k]<n)=false:=by simpa using hq
     clear xK hq;go_wp2;go_meet;exact⟨k,hk,rfl,RZ,rfl⟩
    ·have hqd:decide (k<l.length)=false:=by simpa using bA
     clear xK;go_wp2;go_meet;exact⟨k,hk,rfl,RZ,rfl⟩
 case rest=>
 obtain⟨k,hk,rfl,RZ,rV⟩:=hcut;subst rV;obtain⟨w,hw⟩:∃w,w=wc:=⟨_,rfl⟩;subst hw;have u_:=ah (M7 h);have hlk:(l.take k).length=k:=by rw[List.length_take];omega
 have hdk:(l.drop k).length=l.length-k:=List.length_drop;have R3:=ah hlk;have HDK:=ah hdk;clear hlk hdk
 go_upto_region 5 with first
  | ((with_reducible refine aZ 24 ?_);refine kF rfl _ _ 28 rfl 3 i 1 Tryz.underlying28 EJ.out.1 EJ.out.2 ao l.length cap k (bS l) rfl rfl (by omega) (u_.out.alloc _) ?_;intro a1 wK;rw[GQ]at wK)
  | ((with_reducible refine aZ 25 ?_);refine mE rfl _ _ rfl w.heap.size _ 0 [] rfl (dB _ _ _ _ 1 #[] 0 rfl (aC _) (by omega) rfl) a1 k cap (l.take k) rfl R3.out wK (by omega) (by simp) ?_;intro v3 w3 iq j4 nQ)
 rw[Nat.zero_add,List.nil_append]at iq;have bT:=gZ j4;have j5:=ah iq;have lI:=ah bT;have oO:=bT.size;clear iq j4 nQ bT wK;have eD:Below w3.heap.size w3 (w3.alloc (.cells #[.int .i64 n] 3)):=(aL _ _).alloc (aC _) _;have Uu:=ah (aI j5.out eD (aC _));have Dm:w.heap.size≤(w3.alloc (.cells #[.int .i64 n] 3)).heap.size:=by simp;omega
 have ZE:Rd (w3.alloc (.cells #[.int .i64 n] 3)) (some ⟨w3.heap.size,0,none⟩) (bS [n]):=nk (heap_alloc_new w3 (.cells #[.int .i64 n] 3));have pF:=ah (lI.out.trans (eD.mono lI.out.size));clear eD;go_upto_region 6 with((with_reducible refine aZ 29 ?_);refine mE rfl _ _ rfl w.heap.size v3 k (l.take k) rfl Uu.out (some ⟨w3.heap.size,0,none⟩) 1 1 [n] rfl rfl ZE (by omega) Dm ?_;intro v4 w4 ji hg4 jk)
 have bR:Below w.heap.size w w4:=pF.out.grown hg4 Dm (fun g hg=>(Uu.out.lt g hg).1);have sH:=ah ji;have lC:=ah bR;have mP:=bR.size;clear ji hg4 jk bR ZE Dm
 go_wp2_with first
  | ((with_reducible refine aZ 33 ?_);refine iD rfl _ _ 28 rfl 3 i 1 Tryz.underlying28 EJ.out.1 EJ.out.2 ao l.length cap k (bS l) rfl rfl hk HC.out (u_.out.keep lC.out (aC _)) (by simp[bS]) ?_;intro a2 sV;rw[GR]at sV)
  | ((with_reducible refine aZ 34 ?_);refine mE rfl _ _ rfl w.heap.size v4 (k+1) (l.take k++ [n]) rfl sH.out a2 (l.length-k) (cap-k) (l.drop k) rfl HDK.out sV (by omega) mP ?_;intro v5 w5 gP hg5 m_)
 have gD:Below w.heap.size w w5:=lC.out.grown hg5 mP (fun g hg=>(sH.out.lt g hg).1);have yt:=ah gP;clear gP hg5 m_;go_ret;refine⟨v5,rfl,?_,gD⟩;rw[RZ.out];have h5:=yt.out;rw[List.append_assoc]at h5;have fP:(l.take k++n::l.drop k).length=k+1+(l.length-k):=by simp only[List.length_append,List.length_cons,R3.out,HDK.out];omega
 rw[fP];exact h5
theorem uM {P:Program} (w:World) (base:Nat) (e:TypeId) (E g n cap o:Nat) (xs cs:List Value) (dD:w.ownsRow base e E (.slice (some ⟨g,0,none⟩) n cap) n xs)
  (xI:o+cs.length≤n*E) (h1:∀v∈cs,v.oneCell'=true):
  ∃w',(storeCells ⟨g,o,none⟩ cs).run P w= .ok () w'∧w'.ownsRow base e E (.slice (some ⟨g,0,none⟩) n cap) n (xs.take o++cs++xs.drop (o+cs.length))∧w.grownBy w' (some g):=by
 obtain⟨h0,hv⟩:=dD;rcases hv with⟨hv,_⟩ | ⟨g',cap',cur,hv,hbg,hg,zR,qM,hcz,htake⟩
 ·cases hv
 injection hv with hv _ hv3;injection hv with hv;injection hv with hv _ _;subst hv hv3;have hle3:n*E≤cap*E:=Nat.mul_le_mul_right _ zR;have uE:=run_storeCells_at P g o e cs 0 cur w hg (by rw[hcz];omega) h1;simp only[Nat.add_zero]at uE;have fP:(xs.take o++cs++xs.drop (o+cs.length)).length=n*E:=by simp only[List.length_append,List.length_take,List.length_drop,h0];omega
 refine⟨_,uE,⟨fP,.inr ⟨g,cap,_,rfl,hbg,setRow_heap w g cur _ e _ hg,zR,qM,?_,?_⟩⟩,⟨rfl,rfl,rfl,by simp[World.setRow],fun k hk eP=>setRow_other w g k _ (fun h=>eP (by rw[h]))⟩⟩
 ·rw[List.size_toArray];simp only[List.length_append,List.length_take,List.length_drop,Array.length_toList,hcz];omega
 ·have je:cur.toList=xs++cur.toList.drop (n*E):=by rw[←htake,List.take_append_drop]
  have:=yK xs (cur.toList.drop (n*E)) cs o cs.length rfl (by omega);rw[←je,h0]at this;exact this
theorem Cy {P:Program} (w:World) (t ty e:TypeId) (i:TypeInfo) (E:Nat) (hu:P.underlying t=some (.slice e)) (hi:P.info? e=some i) (mK:i.size=E)
  (base g n cap k m xc:Nat) (xs:List Value) (dD:w.ownsRow base e E (.slice (some ⟨g,0,none⟩) n cap) n xs)
  (ao:Option Addr) (cs:List Value) (xI:k+m≤n) (kE:cs.length=m*E) (qw:Rd w ao cs) (h1:∀v∈cs,v.oneCell'=true):
  ∃w',(Builtin.append_ #[t,t] ty #[.slice (some ⟨g,0,none⟩) k cap,.slice ao m xc]).run P w= .ok (.slice (some ⟨g,0,none⟩) (k+m) cap) w'∧
   w'.ownsRow base e E (.slice (some ⟨g,0,none⟩) n cap) n (xs.take (k*E)++cs++xs.drop (k*E+m*E))∧w.grownBy w' (some g):=by
 have zR:=(bg dD).2.2.1;have hle2:k*E+m*E≤n*E:=by rw[←Nat.add_mul];exact Nat.mul_le_mul_right _ xI
 obtain⟨w',hr,ho,hg⟩:=uM (P:=P) w base e E g n cap (k*E) xs cs dD (by omega) h1;rw[kE]at ho;refine⟨w',?_,ho,hg⟩
 have hload:(Builtin.firstCells i.size m (.slice ao m xc)).run P w= .ok cs.toArray w:=by
  rcases ao with _ | a
  ·cases cs with
   | nil=>simp[Builtin.firstCells]
   | cons c cs=>obtain⟨a,ha,_⟩:=qw 0 c rfl;cases ha
  ·have hl:=run_loadCells_list (P:=P) w a cs (fun j v hv=>by obtain⟨a',ha,h⟩:=qw j v hv;injection ha with ha;subst ha;exact h)
   simp only[Builtin.firstCells,mK,←kE,hl]
 have hadd:(⟨g,0,none⟩:Addr).add (k*i.size)=⟨g,k*E,none⟩:=by rw[Addr.add_lit,mK,Nat.zero_add]
 have pG:k+m≤cap:=by omega
 simp[Builtin.append_,run_underlying hu,Builtin.lenOf,sizeOf,typeInfo,hi,hload,pG,hadd,hr]
theorem Cz {P:Program} (w:World) (t e:TypeId) (i:TypeInfo) (z:Value) (E:Nat) (hu:P.underlying t=some (.slice e)) (hi:P.info? e=some i) (hz:i.zero=some z) (zS:z.cells.size=E) (dX:∀v∈z.cells,v.oneCell'=true)
  (base g n cap o m c:Nat) (xs:List Value) (dD:w.ownsRow base e E (.slice (some ⟨g,0,none⟩) n cap) n xs) (hm:0<m) (xI:o+m*E≤n*E):
  ∃w' zs,(∀ty,(Builtin.clear_ #[t] ty #[.slice (some ⟨g,o,none⟩) m c]).run P w= .ok (.tuple #[]) w')∧zs.length=m*E∧
   w'.ownsRow base e E (.slice (some ⟨g,0,none⟩) n cap) n (xs.take o++zs++xs.drop (o+m*E))∧w.grownBy w' (some g):=by
 have Gw:(Builtin.zeroCells z.cells m).toList.length=m*E:=by simp[Builtin.zeroCells,zS]
 have hone:∀v∈(Builtin.zeroCells z.cells m).toList,v.oneCell'=true:=by
  intro v hv;simp only[Builtin.zeroCells,Array.toList_map,Array.toList_range,List.mem_map,List.mem_range]at hv;obtain⟨j,hj,rfl⟩:=hv
  have h0:0<z.cells.size:=by
   rcases Nat.eq_zero_or_pos z.cells.size with h | h
   ·rw[h,Nat.mul_zero]at hj;omega
   ·exact h
  rw[getElem!_pos z.cells _ (Nat.mod_lt _ h0)];exact dX _ (Array.getElem_mem _)
 obtain⟨w',hr,ho,hg⟩:=uM (P:=P) w base e E g n cap o xs (Builtin.zeroCells z.cells m).toList dD (by rw[Gw];exact xI) hone;rw[Gw]at ho;refine⟨w',_,fun ty=>?_,Gw,ho,hg⟩;obtain⟨q,rfl⟩:∃q,m=q+1:=⟨m-1,by omega⟩;simp[Builtin.clear_,run_underlying hu,zeroValue,typeInfo,hi,hz,hr]
theorem PO {w:World} {base:Nat} {e:TypeId} {E g n cap:Nat} {xs:List Value} (h:w.ownsRow base e E (.slice (some ⟨g,0,none⟩) n cap) n xs) (m:Nat) (hm:m≤n):
  w.ownsRow base e E (.slice (some ⟨g,0,none⟩) m cap) m (xs.take (m*E)):=by
 obtain⟨h0,hv⟩:=h;rcases hv with⟨hv,_⟩ | ⟨g',cap',cur,hv,hbg,hg,zR,qM,hcz,htake⟩
 ·cases hv
 injection hv with hv _ hv3;injection hv with hv;injection hv with hv _ _;subst hv hv3;have xI:m*E≤n*E:=Nat.mul_le_mul_right _ hm;refine⟨by rw[List.length_take,h0];omega,.inr ⟨g,cap,cur,rfl,hbg,hg,by omega,qM,hcz,?_⟩⟩;rw[←htake,List.take_take,Nat.min_eq_left xI]
theorem yw {P:Program} {w:World} {ops:Array Oper} {rest:List Oper} {o:Oper} {a:Act} {Q:Exit→Act→World→Prop} (oM:o.guard=none) (d:Operand) (t:TypeId)
  (ho:o.op= .call { callee:=.builtin .clear,args:= #[d],argTypes:= #[t] }) (v:Value) (hd:a.eval d=v) {v':Value} {w':World}
  (hr:(Builtin.clear_ #[t] o.type #[v]).run P w= .ok v' w') (h:wpList P ops Q rest (a.put o.dst v') w'):wpList P ops Q (o::rest) a w:=by
 refine wpList_plain oM fun K hK=>?_
 unfold Oper.wp;simp[execOp,ho,resolve,invoke,builtin,hd,hr,Result.andThen];exact hK _ _ h
theorem CB {P:Program} (t e:TypeId) (i:TypeInfo) (E:Nat) (hu:P.underlying t=some (.slice e)) (hi:P.info? e=some i) (mK:i.size=E)
  (g n cap k m:Nat) (K M:Int) (hK:K=k) (hM:M=m) (hk:k≤m) (hm:m≤cap) (bA:k<cap) (w:World):
  (Instr.sliceAt t (.slice (some ⟨g,0,none⟩) n cap) (some (.int .i64 K)) (some (.int .i64 M)) none).run P w= .ok (.slice (some ⟨g,k*E,none⟩) (m-k) (cap-k)) w:=by
 subst hK hM;have he:P.elem t=e:=by simp[Program.elem,hu]
 have hu':P.underlying t=some (.slice (P.elem t)):=by rw[he];exact hu
 have mg:=run_slice_lh (P:=P) (w:=w) t (some ⟨g,0,none⟩) n cap hu' .i64 .i64 (k:Int) (m:Int) (by omega) (by omega) (by omega);have hsz':(sizeOf (P.elem t)).run P w= .ok i.size w:=by simp[sizeOf,typeInfo,he,hi]
 simp only[hsz',Result.andThen,sliced,Int.toNat_natCast]at mg;rw[if_neg (by omega),Option.map_some,Addr.add_lit,mK,Nat.zero_add]at mg;simp[Instr.sliceAt,run_underlying hu,mg]
theorem AY {P:Program} (t e:TypeId) (i:TypeInfo) (hu:P.underlying t=some (.slice e)) (hi:P.info? e=some i)
  (g n cap m:Nat) (M:Int) (hM:M=m) (hm:m≤cap) (w:World):
  (Instr.sliceAt t (.slice (some ⟨g,0,none⟩) n cap) none (some (.int .i64 M)) none).run P w= .ok (.slice (some ⟨g,0,none⟩) m cap) w:=by
 subst hM;have he:P.elem t=e:=by simp[Program.elem,hu]
 have hu':P.underlying t=some (.slice (P.elem t)):=by rw[he];exact hu
 have mg:=run_slice_h (P:=P) (w:=w) t (some ⟨g,0,none⟩) n cap hu' .i64 (m:Int) (by omega) (by omega);have hsz':(sizeOf (P.elem t)).run P w= .ok i.size w:=by simp[sizeOf,typeInfo,he,hi]
 have ha:(⟨g,0,none⟩:Addr).add (0*i.size)=⟨g,0,none⟩:=by rw[Addr.add_lit,Nat.zero_mul]
 simp only[hsz',Result.andThen,sliced,Int.toNat_natCast,Option.map_some,ha,ite_self,Nat.sub_zero]at mg;simp[Instr.sliceAt,run_underlying hu,mg]
theorem EL (g n c i:Nat) (xs:List Value) (w:World) (B:Nat) (dD:w.ownsRow B 48 7 (.slice (some ⟨g,0,none⟩) n c) n xs) (h1x:∀u∈xs,u.oneCell'=true) (hn:n<100000) (hi:i<n):
  Calls Tryz.prog 84 #[.slice (some ⟨g,0,none⟩) n c,.int .i64 i,.int .i64 (i+1)] w fun e w'=>e= .returned (.slice (some ⟨g,0,none⟩) (n-1) c)∧w'.ownsRow B 48 7 (.slice (some ⟨g,0,none⟩) (n-1) c) (n-1) (xs.take (i*7)++xs.drop ((i+1)*7))∧w.grownBy w' (some g):=by
 obtain⟨inf,gq,kK,dX,f_⟩:=info_parts Tryz.sU;obtain⟨p1,p2,p3,p4,p5,p6,p7⟩:=bg dD
 have wN:Rd w.drew (some ⟨g,(i+1)*7,none⟩) (xs.drop ((i+1)*7)):=by
  have h0:Rd w.drew (some ⟨g,0,none⟩) xs:=fun j u hu=>⟨_,rfl,by rw[Addr.add_lit,Nat.zero_add];exact p7 j u hu⟩
  have:=h0.vX ((i+1)*7);rw[Nat.zero_add]at this;exact this
 have hdl:(xs.drop ((i+1)*7)).length=(n-(i+1))*7:=by rw[List.length_drop,p5,←Nat.sub_mul]
 obtain⟨ZF,PS,EM⟩:=fF (P:= Tryz.prog) 27 48 inf 7 Tryz.underlying27 gq dX g 0 n c (i+1) ((i:Int)+1) (by omega) (by omega) p3;rw[Nat.zero_add]at PS
 have qw:Rd w.drew ZF (xs.drop ((i+1)*7)):=by
  rcases Nat.lt_or_ge (i+1) c with h | h
  ·rw[PS h];exact wN
  ·have:xs.drop ((i+1)*7)= []:=List.drop_eq_nil_of_le (by rw[p5];exact Nat.mul_le_mul_right _ (by omega))
   rw[this];exact Rd.nil _ _
 obtain⟨w1,vQ,nY,lu⟩:=Cy (P:= Tryz.prog) w.drew 27 27 48 inf 7 Tryz.underlying27 gq dX B g n c i (n-(i+1)) (c-(i+1)) xs dD ZF _ (by omega) hdl qw (fun u hu=>h1x u (List.mem_of_mem_drop hu));obtain⟨m,hm⟩:∃m,n=m+1:=⟨n-1,by omega⟩;have e1:i+(n-(i+1))=m:=by omega
 have e2:n-1=m:=by omega
 rw[e1]at vQ;rw[e2];obtain⟨w2,zs,uH,Gw,qN,iY⟩:=Cz (P:= Tryz.prog) w1 27 48 inf _ 7 Tryz.underlying27 gq kK (by decide) (by decide) B g n c (m*7) 1 (c-m) _ nY (by omega) (by omega);have iq:=PO qN m (by omega);have Ld:(xs.take (i*7)++xs.drop ((i+1)*7)).length=m*7:=by rw[List.length_append,List.length_take,List.length_drop,p5];omega
 have ny:((xs.take (i*7)++xs.drop ((i+1)*7)++xs.drop (i*7+(n-(i+1))*7)).take (m*7)++zs++(xs.take (i*7)++xs.drop ((i+1)*7)++xs.drop (i*7+(n-(i+1))*7)).drop (m*7+1*7)).take (m*7)=xs.take (i*7)++xs.drop ((i+1)*7):=by
  have h1:(xs.take (i*7)++xs.drop ((i+1)*7)++xs.drop (i*7+(n-(i+1))*7)).take (m*7)=xs.take (i*7)++xs.drop ((i+1)*7):=by
   rw[List.take_append_of_le_length (by omega),←Ld,List.take_length]
  rw[h1,List.append_assoc,List.take_append_of_le_length (by omega),←Ld,List.take_length]
 rw[ny]at iq;have j5:=ah iq;have yj:Hid (w.grownBy w2 (some g)):=ah ⟨iY.os.trans lu.os,iY.tape.trans lu.tape,iY.output.trans lu.output,Nat.le_trans lu.size iY.size,fun k hk eP=>(iY.block k (Nat.lt_of_lt_of_le hk lu.size) eP).trans (lu.block k hk eP)⟩;have ZG:=ah (CB (P:= Tryz.prog) 27 48 inf 7 Tryz.underlying27 gq dX g m c m n (m:Int) (n:Int) rfl rfl (by omega) p3 (by omega));rw[show n-m=1 by omega]at ZG;have ZH:=ah (AY (P:= Tryz.prog) 27 48 inf Tryz.underlying27 gq g n c i (i:Int) rfl (by omega));have adP:=ah EM;have HR1:=ah vQ;have xP:=ah uH;have hin:(i:Int)<n:=by omega
 have hn5:(n:Int)<100000:=by omega
 have hmn:(m:Int)≤n:=by omega
 have zR:(n:Int)≤c:=by omega
 have hiw:IntKind.i64.wrap ((i:Int)+1)=(i:Int)+1:=IntWalk.i64_in _ (by omega);have BZ:((i:Int)==(i:Int)+1)=false:=by rw[beq_eq_false_iff_ne];omega
 clear dD nY qN iq wN lu iY vQ uH EM PS qw hdl Gw Ld ny p5 p6 p7 h1x kK dX f_ gq e1 e2 hm
 go_enter Tryz.func84,Tryz.ntmps84
 go_upto_region 5 with fail
 have Wm:=ZH.out;have EM:=adP.out;go_still_tail 6,(by kernel_rfl)
 clear Wm EM;refine lM rfl _ _ 27 27 rfl _ _ rfl rfl HR1.out ?_;have hmid:=ZG.out;go_wp2_with (refine yw rfl _ 27 rfl _ rfl (xP.out _) ?_)
 go_ret;exact⟨rfl,j5.out,yj.out⟩
theorem PV (x:Int) (w:World):Calls Tryz.prog 125 #[.int .i64 x] w fun e w'=>e= .returned (.bool false)∧w'=w:=by
 go_enter Tryz.func125,Tryz.ntmps125
 go_wp2;go_ret;exact⟨by simp,rfl⟩
theorem AZ (x:Int) (w:World):Calls Tryz.prog 119 #[.int .i64 x] w fun e w'=>e= .returned (.bool false)∧w'=w:=by
 go_enter Tryz.func119,Tryz.ntmps119
 go_wp2;go_ret;exact⟨by simp,rfl⟩
theorem GU (x y:Int) (w:World):Calls Tryz.prog 118 #[.int .i64 x,.int .i64 y] w fun e w'=>e= .returned (.bool (decide (x<y)))∧w'=w:=by
 go_enter Tryz.func118,Tryz.ntmps118
 go_wp2_with (go_at_call 125;refine(PV _ _).mono ?_;rintro e w' ⟨rfl,rfl⟩)
 go_ret;exact⟨rfl,rfl⟩
theorem yZ (v:Value) (zs:List Int) (x:Int) (w:World) (h:jv w v zs) (hl:zs.length<1000000) (hsort:zs.Pairwise (· ≤ ·)):
  Calls Tryz.prog 82 #[v,.int .i64 x] w fun e w'=>e= .returned (.tuple #[.int .i64 (zs.countP (· <x):Nat),.bool (zs.contains x)])∧w'=w:=by
 obtain⟨ao,cap,rfl,dO,qM⟩:=Sl.shape h;have S:Hid (∀a b,a≤b→b<zs.length→zs.getD a 0≤zs.getD b 0):=ah (Lib.sorted_at zs zs.length (aC _) (by rw[List.take_length];exact hsort))
 have HC:Hid (∀j,j<zs.length→ ∃b off,ao=some ⟨b,off,none⟩∧w.cell? ⟨b,off+j,none⟩=some (.int .i64 (zs.getD j 0))):=ah (fun j hj=>by
  obtain⟨b,off,h1,_,h3⟩:=jv.cell h (aL _ w) (aC _) j hj
  exact⟨b,off,h1,by rw[Lib.getD_lt _ _ hj];exact h3⟩)
 clear hsort h
 go_enter Tryz.func82,Tryz.ntmps82
 go_wp2
 go_loopg [7,8] zs.length (fun g s7 s8 wr=>∃lo hi:Nat,s7= .int .i64 lo∧s8= .int .i64 hi∧lo≤hi∧hi≤zs.length∧hi-lo≤g∧wr=w∧Hid ((∀t,t<lo→zs.getD t 0<x)∧(∀t,hi≤t→t<zs.length→x≤zs.getD t 0)))
 case atStart=>exact⟨0,zs.length,rfl,rfl,Nat.zero_le _,aC _,by omega,rfl,ah ⟨fun t ht=>absurd ht (Nat.not_lt_zero _),fun t h1 h2=>by omega⟩⟩
 case round=>
  obtain⟨lo,hi,rfl,rfl,hlh,hin,hg,rfl,I⟩:=hrel;by_cases bA:lo<hi
  ·obtain⟨b,off,rfl,cm⟩:=HC.out ((lo+hi)/2) (by omega)
   generalize hy:zs.getD ((lo+hi)/2) 0=y at cm;have Y:=ah hy;clear hy;by_cases Lj:y<x
   ·go_wp2_with (go_at_call 118;refine(GU _ _ _).mono ?_;rintro e w' ⟨rfl,rfl⟩)
    go_roundg (hi-((lo+hi)/2+1))
    case measure=>omega
    case rel=>
     refine⟨(lo+hi)/2+1,hi,by rw[show ((lo:Int)+(hi:Int))/2+1=(((lo+hi)/2+1:Nat):Int)by omega],rfl,by omega,hin,aC _,rfl,ah ⟨fun t ht=>?_,I.out.2⟩⟩;have:=S.out t ((lo+hi)/2) (by omega) (by omega);rw[Y.out]at this;omega
   ·go_wp2_with (go_at_call 118;refine(GU _ _ _).mono ?_;rintro e w' ⟨rfl,rfl⟩)
    go_roundg ((lo+hi)/2-lo)
    case measure=>omega
    case rel=>
     refine⟨lo,(lo+hi)/2,rfl,by rw[show ((lo:Int)+(hi:Int))/2=(((lo+hi)/2:Nat):Int)by omega],by omega,by omega,aC _,rfl,ah ⟨I.out.1,fun t ht htn=>?_⟩⟩;have:=S.out ((lo+hi)/2) t ht htn;rw[Y.out]at this;omega
  ·have:hi=lo:=by omega
   subst this;obtain⟨e1,e2⟩:=Lib.search_end zs zs.length hi x (aC _) hin I.out.1 I.out.2 S.out;rw[List.take_length]at e1 e2;have E:Hid (zs.countP (· <x)=hi∧zs.contains x=decide (hi<zs.length∧zs.getD hi 0=x)):=ah ⟨e1,e2⟩;clear e1 e2;by_cases hn:hi<zs.length
   ·obtain⟨b,off,rfl,cl⟩:=HC.out hi hn
    generalize hy:zs.getD hi 0=y at cl;have Y:=ah hy;clear hy;by_cases Lj:y=x
    ·have s1:(y==x)=true:=by simpa using Lj
     have HX:=ah Lj;clear Lj;go_wp2_with (go_at_call 119;refine(AZ _ _).mono ?_;rintro e w' ⟨rfl,rfl⟩)
     go_ret2
     refine⟨?_,rfl⟩;rw[E.out.1,E.out.2,Y.out,decide_eq_true (show hi<zs.length∧y=x from⟨hn,HX.out⟩)];first | rfl | simp[*]
    ·have s1:(y==x)=false:=by simpa using Lj
     have HX:=ah Lj;clear Lj;go_wp2_with (go_at_call 119;refine(AZ _ _).mono ?_;rintro e w' ⟨rfl,rfl⟩)
     go_ret2
     refine⟨?_,rfl⟩;rw[E.out.1,E.out.2,Y.out,decide_eq_false (show ¬ (hi<zs.length∧y=x)from fun h=>HX.out h.2)];first | rfl | simp[*]
   ·go_wp2_with (go_at_call 119;refine(AZ _ _).mono ?_;rintro e w' ⟨rfl,rfl⟩)
    go_ret2
    refine⟨?_,rfl⟩;rw[E.out.1,E.out.2,decide_eq_false (show ¬ (hi<zs.length∧zs.getD hi 0=x)from fun h=>hn h.1)];first | rfl | simp[*]
theorem Tryz.PW (args:Array Value) (W:World):(callFunc 88 args).run Tryz.prog W= .ok (.enter 88 args) W:=by kernel_rfl
theorem JA (c:Sc) (b:Nat) (key:ByteArray) (w:World) (hc:w.cell? ⟨b,6,none⟩=some (.string key)) (hb:b<w.heap.size):
  Calls Tryz.prog 88 #[Y6 c,.pointer (some ⟨b,0,none⟩)] w fun e w'=>e= .returned (.bool (decide (c.key=key)))∧Below w.heap.size w w':=by
 have HK:=ah (key_eq c.key key);obtain⟨c1,c2,c3,c4,c5⟩:=c
 go_enter Tryz.func88,Tryz.ntmps88
 go_wp2;go_ret;exact⟨aH HK.out,(aL _ _).alloc (aC _) _⟩
theorem Ll {w:World} {b:Nat} {key:ByteArray} (hc:w.cell? ⟨b,6,none⟩=some (.string key)) (l:List Sc):og Tryz.prog w 88 #[.pointer (some ⟨b,0,none⟩)] Y6 (fun c=>decide (c.key=key)) l:=by
 have hb:b<w.heap.size:=World.block_lt_of_cell? w _ hc;exact⟨Tryz.PW,fun W hW x _=>JA x b key W (fU hc hW hb) (Nat.lt_of_lt_of_le hb hW.size)⟩
end Go.Proofs.YtlfopoimbbpfdaaGreat
