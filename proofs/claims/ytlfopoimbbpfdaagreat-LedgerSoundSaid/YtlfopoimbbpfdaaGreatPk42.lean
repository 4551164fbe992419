/- What the law asks, in parts: Cf LFq Cg Ch. -/
import Derived.Test.YtlfopoimbbpfdaaGreatPk38
import Derived.Test.YtlfopoimbbpfdaaGreatPk12
import Derived.Test.YtlfopoimbbpfdaaGreatPk32
import Derived.Test.YtlfopoimbbpfdaaGreatPk18
import Derived.Test.YtlfopoimbbpfdaaGreatPk14
import Derived.Test.YtlfopoimbbpfdaaGreatPk40
set_option linter.all false
set_option maxRecDepth 100000
set_option maxHeartbeats 16000000
namespace Go.Proofs.YtlfopoimbbpfdaaGreat
open Go.RowKit
theorem Io:yH oD:=
 ⟨⟨Int.le_refl _,by decide⟩,fun s hs=>absurd hs (by simp[oD]),List.Pairwise.nil,fun s hs=>absurd hs (by simp[oD]),rowP_nil,fun r hr=>absurd hr (by simp[oD]),List.Pairwise.nil,fun n hn=>absurd hn (by simp[oD])⟩
theorem xG (b:Bk) (d ep:Int):(k_ b.ls d ep= -1∧jV b d ep=(oD,false))∨ ∃k:Nat,∃hk:k<b.ls.length,k_ b.ls d ep=k∧jV b d ep=(b.ls[k],true)∧b.ls[k].dev=d∧b.ls[k].epoch=ep:=by
 unfold jV;rcases b_ (fun c:Ls=>decide (c.dev=d)&&decide (c.epoch=ep)) b.ls with⟨hi,_⟩ | ⟨k,hk,hi,hp,_⟩
 ·left
  have e:k_ b.ls d ep= -1:=hi;exact⟨e,by rw[e,if_neg (by decide)]⟩
 ·right
  have e:k_ b.ls d ep=k:=hi;have hg:b.ls.getD k oD=b.ls[k]:=by simp[List.getD,List.getElem?_eq_getElem hk]
  simp only[Bool.and_eq_true,decide_eq_true_eq]at hp;refine⟨k,hk,e,?_,hp.1,hp.2⟩;rw[e,if_pos (by omega)];simp only[Int.toNat_natCast,hg]
theorem Inv.Vl {b:Bk} (h:Inv b) (d ep:Int):yH (jV b d ep).1:=by
 rcases xG b d ep with⟨_,e⟩ | ⟨k,hk,_,e,_⟩
 ·rw[e];exact Io
 ·rw[e];exact h.ls _ (List.getElem_mem hk)
theorem Inv.ct {b:Bk} (h:Inv b):Jy 30 b.cs:=by
 obtain⟨u0,d0,u1,d1,hc,h1,h2,h3,h4,h5⟩:=h.cs;have n1:=mJ kA h.ls;have n2:=mJ kB h.ls;rw[hc];intro c qM;simp only[jo,List.mem_cons,List.not_mem_nil,or_false]at qM;rcases qM with rfl | rfl
 ·show 0≤u0∧u0≤30∧0≤d0∧d0≤30
  omega
 ·show 0≤u1∧u1≤30∧0≤d1∧d1≤30
  omega
theorem Inv.ct' {b:Bk} (h:Inv b):Jy 2199023255552 b.cs:=h.ct.mono (by omega)
theorem Inv.grB {b:Bk} (h:Inv b):Px b:=by
 obtain⟨n1,n2,n3,n4⟩:=h.lens;refine⟨by omega,by omega,by omega,by omega,fun l hl=>?_,h.fr.1,h.ct'⟩;have:=(h.ls l hl).lens;omega
theorem Inv.key {b:Bk} (h:Inv b):∀c∈b.cs,emp c.key=false:=by
 obtain⟨u0,d0,u1,d1,hc,_⟩:=h.cs;rw[hc];intro c qM;simp only[jo,List.mem_cons,List.not_mem_nil,or_false]at qM;rcases qM with rfl | rfl
 ·show emp kA=false;decide +kernel
 ·show emp kB=false;decide +kernel
theorem yH.scU {l:Ls} (h:yH l):∀s∈l.sl,Tf s:=fun s hs=>by
 have:=h.sc s hs;unfold Tf;omega
theorem yH.Rv {l:Ls} (h:yH l):∀n∈l.used,0≤n∧n<40:=fun n hn=>Mi h.row h.top (h.sub n hn)
theorem Inv.abL {b:Bk} (h:Inv b) {l:Ls} (hl:yH l):Li b l:=by
 obtain⟨n1,n2,n3,n4⟩:=h.lens;have hn:=hl.lens;refine⟨by omega,by omega,by omega,by omega,fun m hm=>?_,hl.row,by omega,h.ct',hl.scU,fun n hn=>by have:=hl.Rv n hn;omega,h.bd.imp (fun hh=>by omega)⟩;have:=(h.ls m hm).lens;omega
theorem Inv.X_ {b:Bk} (h:Inv b) {l:Ls} (hl:yH l):Bh b l:=by
 obtain⟨n1,n2,n3,n4⟩:=h.lens;have hn:=hl.lens;exact⟨by omega,by omega,by omega,by omega,by omega,by omega,h.fr,hl.row,by omega,h.ct',hl.scU,fun n hn=>by have:=hl.Rv n hn;omega⟩
theorem abM (o:uq) (h:nD o=4): -6≤gN o∧gN o≤6:=by
 unfold gN;rw[if_pos h]
 split<;>omega
theorem Uj (x:uz) (l:Ls) (h:nD x.o=4): -1099511627776≤Fv x l∧Fv x l≤1099511627776:=by
 unfold Fv;rw[if_neg (by rw[h];omega)];have:=abM x.o h;omega
theorem yH.spK {l:Ls} (h:yH l) (x:uz):UA l (nD x.o) (Fv x l):=by
 have hn:=h.lens;refine⟨by omega,by omega,by omega,Uj x l,fun s hs=>?_,h.rise.imp (fun hh=>by omega)⟩;have:=h.sc s hs;omega
theorem Kz (l:Ls) (kind:Int) (key:ByteArray) (n:Int):(bW l kind key n).1.sl.length=l.sl.length∧(bW l kind key n).1.ids=l.ids∧(bW l kind key n).1.used.length≤l.used.length+1:=by
 unfold bW
 split
 ·unfold pW
  split
  ·exact⟨rfl,rfl,Nat.le_succ _⟩
  ·split
   ·exact⟨rfl,rfl,Nat.le_succ _⟩
   ·exact⟨by simp,rfl,Nat.le_succ _⟩
 ·split
  ·unfold pX
   split
   ·exact⟨rfl,rfl,Nat.le_succ _⟩
   ·split
    ·exact⟨rfl,rfl,Nat.le_succ _⟩
    ·exact⟨rfl,rfl,by rw[wQ];exact aC _⟩
  ·exact⟨rfl,rfl,Nat.le_succ _⟩
theorem Inv.doB {b:Bk} (h:Inv b) (x:uz):DoB b x:=by
 obtain⟨n1,n2,n3,n4⟩:=h.lens;have hL:yH (zO b x):=h.Vl _ _;refine⟨h.grB,⟨by omega,by omega,by omega,h.fr,h.ct',h.key⟩,h.grB.ZA,fun k hk _=>h.abL (h.ls _ (List.getElem_mem hk)),fun _=>?_,find_eq h.C_ _ _,free_eq h _ _,fun r hr=>?_,hL.spK x,?_,put_eq h.C_ _,?_⟩
 ·rw[find_eq h.C_]
  exact h.X_ (h.Vl _ _)
 ·have h1:=hL.row.1 r hr
  have h2:=hL.top r hr;omega
 ·exact Ra (fun s hs=>by have:=hL.sc s hs;omega) hL.rise _ _ _
 ·obtain⟨s1,s2,s3⟩:=Kz (zO b x) (nD x.o) (CV x.o) (Fv x (zO b x))
  have hn:=hL.lens;unfold Bz;exact⟨by omega,by rw[s2];omega,by omega⟩
end Go.Proofs.YtlfopoimbbpfdaaGreat
namespace Go.Proofs.YtlfopoimbbpfdaaGreat
open Go.RowKit
theorem KA (l:List Rg):∀ (r:Rg),Ok r→dw l→(∀x∈l,r.1≤x.2)→(∀n,fQ l n→ ¬ (r.1≤n∧n<r.2))→dG (fV l r)=dG l+(r.2-r.1):=by
 induction l with
 | nil=>intro r _ _ _ _;simp[fV,dG]
 | cons x t ih=>
  intro r hr hl hx hd;have hx0:=hx x (by simp);obtain⟨x1,x2,x3⟩:=(dR x t).1 hl;unfold Ok at hr;unfold fV;by_cases hc:x.1≤r.2
  ·rw[if_pos hc]
   have af6:x.2=r.1∨r.2=x.1:=by
    by_cases h1:x.2≤r.1
    ·left;omega
    ·right
     rcases Int.lt_or_le x.1 r.2 with h2 | h2
     ·exfalso
      refine hd (max x.1 r.1) ((fA x t _).2 (.inl ⟨by omega,by omega⟩)) ⟨by omega,by omega⟩
     ·omega
   rw[ih (min r.1 x.1,max r.2 x.2) ⟨by simp only;omega,by simp only;omega,by simp only;omega⟩ x3 (fun y hy=>by
    have h1:=x2 y hy;have h2:=x3.1 y hy;simp only;omega) (fun n hn=>by
    have h1:=hl.ge hn;have h2:=hd n ((fA x t n).2 (.inr hn));simp only
    omega)]
   simp only[dG];omega
  ·rw[if_neg hc]
   simp only[dG];omega
theorem Rw (l:List Rg) (r:Rg) (hr:Ok r) (hl:dw l) (hd:∀n,fQ l n→ ¬ (r.1≤n∧n<r.2)):dG (iF l r)=dG l+(r.2-r.1):=by
 induction l with
 | nil=>simp[iF,dG]
 | cons x t ih=>
  obtain⟨x1,x2,x3⟩:=(dR x t).1 hl;unfold iF;by_cases hc:x.2<r.1
  ·rw[if_pos hc]
   simp only[dG];rw[ih x3 (fun n hn=>hd n ((fA x t n).2 (.inr hn)))];omega
  ·rw[if_neg hc]
   exact KA (x::t) r hr hl (fun y hy=>by
    simp only[List.mem_cons]at hy;rcases hy with rfl | hy
    ·omega
    ·have h1:=x2 y hy
     have h2:=x3.1 y hy
     omega) hd
theorem BO (rs:List Rg):∀l,dw l→dw rs→(∀n,fQ l n→ ¬fQ rs n)→dG (bK l rs)=dG l+dG rs:=by
 induction rs with
 | nil=>intro l _ _ _;simp[bK,dG]
 | cons r rs ih=>
  intro l hl hrs hd;obtain⟨r1,r2,r3⟩:=(dR r rs).1 hrs;have qQ:Ok r:=r1;have KY:∀n,fQ l n→ ¬ (r.1≤n∧n<r.2):=fun n hn h=>hd n hn ((fA r rs n).2 (.inl h))
  show dG (bK (iM l r) rs)=_
  rw[zW qQ,ih (iF l r) (Du hl qQ) r3 (fun n hn h=>by
   rcases(Dv hl qQ n).1 hn with h1 | h1
   ·exact hd n h1 ((fA r rs n).2 (.inr h))
   ·have:=hrs.ge h
    omega),Rw l r qQ hl KY]
  simp only[dG];omega
theorem Ry (us:List Int):∀l:List Rg,dw l→us.Nodup→(∀u∈us,fQ l u)→(∀n,fQ (us.foldl eU l) n↔fQ l n∧n∉us)∧dG (us.foldl eU l)=dG l-us.length:=by
 induction us with
 | nil=>intro l _ _ _;exact⟨fun n=>by simp,by simp⟩
 | cons u us ih=>
  intro l hl hn hm;rw[List.nodup_cons]at hn;have hu:=hm u (by simp);have hh:dM l u=true:=(lH l u).2 hu;obtain⟨s1,s2,_,s4⟩:=AX l u hl;have he:eU l u=cZ l u:=by unfold eU;rw[if_pos hh]
  obtain⟨i1,i2⟩:=ih (cZ l u) s1 hn.2 (fun x hx=>(s2 x).2 ⟨hm x (by simp[hx]),fun e=>hn.1 (e▸hx)⟩);rw[List.foldl_cons,he];refine⟨fun n=>?_,?_⟩
  ·rw[i1,s2]
   simp only[List.mem_cons,not_or];constructor
   ·rintro⟨⟨a,b⟩,c⟩;exact⟨a,b,c⟩
   ·rintro⟨a,b,c⟩;exact⟨⟨a,b⟩,c⟩
  ·rw[i2,s4,hh,List.length_cons]
   simp only[if_true];omega
end Go.Proofs.YtlfopoimbbpfdaaGreat
namespace Go.Proofs.YtlfopoimbbpfdaaGreat
open Go.RowKit
end Go.Proofs.YtlfopoimbbpfdaaGreat
namespace Go.Proofs.YtlfopoimbbpfdaaGreat
open Go.RowKit
end Go.Proofs.YtlfopoimbbpfdaaGreat
namespace Go.Proofs.YtlfopoimbbpfdaaGreat
open Go.RowKit
theorem XR.symm {a b:List Rg} (h:XR a b):XR b a:=fun n h1 h2=>h n h2 h1
theorem Fx {L M:List Ls} (h:L.Perm M) (key:ByteArray):bG key L=bG key M:=by
 induction h with
 | nil=>rfl
 | cons x _ ih=>simp only[bG,ih]
 | swap x y l=>simp only[bG];omega
 | trans _ _ i1 i2=>exact i1.trans i2
theorem Fy {L M:List Ls} (h:L.Perm M) (key:ByteArray):bH key L=bH key M:=by
 induction h with
 | nil=>rfl
 | cons x _ ih=>simp only[bH,ih]
 | swap x y l=>simp only[bH];omega
 | trans _ _ i1 i2=>exact i1.trans i2
theorem jR (l:Ls) (L:List Ls):zo (l::L)=dG l.ids+zo L:=by simp[zo]
theorem KC {L M:List Ls} (h:L.Perm M):zo L=zo M:=by
 induction h with
 | nil=>rfl
 | cons x _ ih=>simp only[jR,ih]
 | swap x y l=>simp only[jR];omega
 | trans _ _ i1 i2=>exact i1.trans i2
theorem yI.perm {C:List Ct} {F:List Rg} {L M:List Ls} {D:List Int} (h:yI C F L D) (p:L.Perm M):yI C F M D:=by
 obtain⟨u0,d0,u1,d1,h0,h1,h2,h3,h4⟩:=h.cs;rw[Fx p]at h1 h3;rw[Fy p]at h2 h4
 exact⟨⟨u0,d0,u1,d1,h0,h1,h2,h3,h4⟩,fun l hl=>h.ls l (p.mem_iff.2 hl),fun l hl=>h.Sz l (p.mem_iff.2 hl),h.fr,h.top,h.bd,fun l hl=>h.fi l (p.mem_iff.2 hl),
  h.ii.perm p (fun h=>h.symm),h.bf,fun n hn l hl=>h.bi n hn l (p.mem_iff.2 hl),h.br,by rw[←KC p];exact h.tot⟩
theorem KD {F:List Rg} (hf:dw F) (h:∀n,fQ F n→n<40):∀r∈F,r.2≤40:=fun r hr=>by
 have h1:=hf.1 r hr;have:=h (r.2-1) ⟨r,hr,by omega,by omega⟩;omega
theorem BP {F:List Rg} (h:∀r∈F,r.2≤40) {n:Int} (hn:fQ F n):n<40:=by
 obtain⟨r,hr,h1,h2⟩:=hn;have:=h r hr;omega
theorem yI.put {C:List Ct} {F:List Rg} {L:List Ls} {D:List Int} {l m:Ls} (h:yI C F (l::L) D) (hm:yH m) (he:m.epoch=l.epoch) (hi:m.ids=l.ids)
  (hu:∀key,dh key m.sl≤dh key l.sl) (hd:∀key,leftD key m.sl≤leftD key l.sl):yI C F (m::L) D:=by
 obtain⟨u0,d0,u1,d1,h0,h1,h2,h3,h4⟩:=h.cs;have a1:=hu kA;have a2:=hu kB;have a3:=hd kA;have a4:=hd kB;simp only[bG,bH]at h1 h2 h3 h4;have hii:=List.pairwise_cons.1 h.ii;refine⟨⟨u0,d0,u1,d1,h0,?_,?_,?_,?_⟩,?_,?_,h.fr,h.top,h.bd,?_,?_,h.bf,?_,h.br,?_⟩
 ·simp only[bG];omega
 ·simp only[bH];omega
 ·simp only[bG];omega
 ·simp only[bH];omega
 ·intro x hx
  rcases List.mem_cons.1 hx with rfl | hx
  ·exact hm
  ·exact h.ls x (List.mem_cons_of_mem _ hx)
 ·intro x hx
  rcases List.mem_cons.1 hx with rfl | hx
  ·rw[he];exact h.Sz l List.mem_cons_self
  ·exact h.Sz x (List.mem_cons_of_mem _ hx)
 ·intro x hx
  rcases List.mem_cons.1 hx with rfl | hx
  ·rw[hi];exact h.fi l List.mem_cons_self
  ·exact h.fi x (List.mem_cons_of_mem _ hx)
 ·refine List.pairwise_cons.2 ⟨fun x hx=>?_,hii.2⟩
  rw[hi];exact hii.1 x hx
 ·intro n hn x hx
  rcases List.mem_cons.1 hx with rfl | hx
  ·rw[hi];exact h.bi n hn l List.mem_cons_self
  ·exact h.bi n hn x (List.mem_cons_of_mem _ hx)
 ·have:=h.tot
  rw[jR]at this⊢;rw[hi];exact this
theorem Mr {α:Type} (l:List α) (k:Nat) (hk:k<l.length):l.Perm (l[k]::l.eraseIdx k):=by
 induction l generalizing k with
 | nil=>simp at hk
 | cons x l ih=>
  cases k with
  | zero=>exact List.Perm.refl _
  | succ k=>
   have hk':k<l.length:=by simpa using hk
   exact((ih k hk').cons x).trans (List.Perm.swap _ _ _)
theorem RA {α:Type} (l:List α) (k:Nat) (hk:k<l.length) (y:α):(y::l.eraseIdx k).Perm (l.set k y):=by
 induction l generalizing k with
 | nil=>simp at hk
 | cons x l ih=>
  cases k with
  | zero=>exact List.Perm.refl _
  | succ k=>
   have hk':k<l.length:=by simpa using hk
   exact(List.Perm.swap _ _ _).trans ((ih k hk').cons x)
theorem RB {ls:List Ls} {k:Nat} (hk:k<ls.length) {m:Ls} (hm:m.dev=ls[k].dev) (h:ls.Pairwise (fun l m=>l.dev<m.dev)):(ls.set k m).Pairwise (fun l m=>l.dev<m.dev):=by
 rw[List.pairwise_iff_getElem]at h⊢;intro i j hi hj hij;have hi':i<ls.length:=by simpa using hi
 have hj':j<ls.length:=by simpa using hj
 have:=h i j hi' hj' hij;rw[List.getElem_set,List.getElem_set]
 split
 ·rename_i e;subst e
  rw[if_neg (by omega),hm];exact this
 ·split
  ·rename_i e;subst e
   rw[hm];exact this
  ·exact this
theorem Inv.set {b:Bk} (h:Inv b) {k:Nat} (hk:k<b.ls.length) {m:Ls} (hm:yH m) (hd:m.dev=b.ls[k].dev) (he:m.epoch=b.ls[k].epoch) (hi:m.ids=b.ls[k].ids)
  (hu:∀key,dh key m.sl≤dh key b.ls[k].sl) (hdn:∀key,leftD key m.sl≤leftD key b.ls[k].sl):Inv ⟨b.cs,b.free,b.ls.set k m,b.bound⟩:=
 ⟨((h.toyI.perm (Mr b.ls k hk)).put hm he hi hu hdn).perm (RA b.ls k hk m),RB hk hd h.C_⟩
theorem RD (sl:List Sc) (j:Nat) (hj:j<sl.length) (s:Sc) (hk:s.key=sl[j].key) (hu:s.up-s.uu≤sl[j].up-sl[j].uu) (hd:s.down-s.ud≤sl[j].down-sl[j].ud) (key:ByteArray):
  dh key (sl.set j s)≤dh key sl∧leftD key (sl.set j s)≤leftD key sl:=by
 induction sl generalizing j with
 | nil=>simp at hj
 | cons x l ih=>
  cases j with
  | zero=>
   simp only[List.getElem_cons_zero]at hk hu hd;simp only[List.set_cons_zero,dh,leftD,hk];constructor<;>split<;>omega
  | succ j=>
   have hj':j<l.length:=by simpa using hj
   obtain⟨i1,i2⟩:=ih j hj' (by simpa using hk) (by simpa using hu) (by simpa using hd);simp only[List.set_cons_succ,dh,leftD];omega
theorem Ya {l:Ls} (h:yH l) (j:Nat) (hj:j<l.sl.length) {s:Sc} (hk:s.key=l.sl[j].key) (hs:(0≤s.uu∧s.uu≤s.up∧s.up≤30)∧0≤s.ud∧s.ud≤s.down∧s.down≤30):yH ⟨l.dev,l.epoch,l.bU,l.last,l.sl.set j s,l.ids,l.used⟩:=by
 refine⟨h.dev,?_,?_,?_,h.row,h.top,h.rise,h.sub⟩
 ·intro t ht
  rcases List.mem_or_eq_of_mem_set ht with ht | rfl
  ·exact h.key t ht
  ·rw[hk];exact h.key _ (List.getElem_mem hj)
 ·have ho:=h.one
  show(l.sl.set j s).Pairwise _;rw[List.pairwise_iff_getElem]at ho⊢;intro a b ha hb BS;have ha':a<l.sl.length:=by simpa using ha
  have hb':b<l.sl.length:=by simpa using hb
  have:=ho a b ha' hb' BS;rw[List.getElem_set,List.getElem_set]
  split
  ·rename_i e;subst e
   rw[if_neg (by omega),hk];exact this
  ·split
   ·rename_i e;subst e
    rw[hk];exact this
   ·exact this
 ·intro t ht
  rcases List.mem_or_eq_of_mem_set ht with ht | rfl
  ·exact h.sc t ht
  ·exact hs
theorem BQ {l:Ls} (h:yH l) (kind:Int) (key:ByteArray) (n:Int) (ho:(bW l kind key n).2=0):
  yH (bW l kind key n).1∧(bW l kind key n).1.dev=l.dev∧(bW l kind key n).1.epoch=l.epoch∧(bW l kind key n).1.ids=l.ids∧
  (∀k2,dh k2 (bW l kind key n).1.sl≤dh k2 l.sl)∧(∀k2,leftD k2 (bW l kind key n).1.sl≤leftD k2 l.sl):=by
 have triv:yH l∧l.dev=l.dev∧l.epoch=l.epoch∧l.ids=l.ids∧(∀k2,dh k2 l.sl≤dh k2 l.sl)∧(∀k2,leftD k2 l.sl≤leftD k2 l.sl):=⟨h,rfl,rfl,rfl,fun _=>Int.le_refl _,fun _=>Int.le_refl _⟩;unfold bW at ho⊢;by_cases h4:kind=4
 ·rw[if_pos h4]at ho⊢
  unfold pW at ho⊢;by_cases hi:nO l.sl key<0
  ·rw[if_pos hi];exact triv
  ·rw[if_neg hi]at ho⊢
   rcases b_ (fun c:Sc=>decide (c.key=key)) l.sl with⟨hx,_⟩ | ⟨j,hj,hx,_,_⟩
   ·exact absurd (by rw[show nO l.sl key= -1 from hx];decide) hi
   ·have e:nO l.sl key=j:=hx
    have hg:l.sl.getD (nO l.sl key).toNat DN=l.sl[j]:=by rw[e];simp[List.getD,List.getElem?_eq_getElem hj]
    rw[hg,e]at ho⊢;simp only[Int.toNat_natCast]at ho⊢
    split
    ·exact triv
    ·rename_i hf
     have hs:=h.sc l.sl[j] (List.getElem_mem hj);have hl:=fun k2=>RD l.sl j hj (EG l.sl[j] n) rfl (by simp only[EG];omega) (by simp only[EG];omega) k2
     exact⟨Ya h j hj (s:=EG l.sl[j] n) rfl (by simp only[EG];omega),rfl,rfl,rfl,fun k2=>(hl k2).1,fun k2=>(hl k2).2⟩
 ·rw[if_neg h4]at ho⊢
  by_cases h5:kind=5
  ·rw[if_pos h5]at ho⊢
   unfold pX at ho⊢;by_cases hh:dM l.ids n=false
   ·rw[if_pos hh];exact triv
   ·rw[if_neg hh]at ho⊢
    by_cases hc:l.used.contains n=true
    ·rw[if_pos hc];exact triv
    ·rw[if_neg hc]
     have hnu:n∉l.used:=by simpa using hc
     refine⟨⟨h.dev,h.key,h.one,h.sc,h.row,h.top,D9 h.rise hnu,fun m hm=>?_⟩,rfl,rfl,rfl,fun _=>Int.le_refl _,fun _=>Int.le_refl _⟩;rcases(BD l.used n m).1 hm with hm | rfl
     ·exact h.sub m hm
     ·exact(lH l.ids m).1 (by simpa using hh)
  ·rw[if_neg h5];exact triv
theorem Inv.put {b:Bk} (h:Inv b) (d ep:Int) (kind:Int) (key:ByteArray) (n:Int) (ho:(bW (jV b d ep).1 kind key n).2=0):Inv (nT b (bW (jV b d ep).1 kind key n).1).1:=by
 rcases xG b d ep with⟨ha,e⟩ | ⟨k,hk,ha,e,h1,h2⟩
 ·rw[e]at ho⊢
  simp only at ho⊢;obtain⟨_,g2,g3,_⟩:=BQ Io kind key n ho;unfold nT;rw[g2,g3];rcases xG b oD.dev oD.epoch with⟨hz,_⟩ | ⟨k,hk,hz,_,_,h2⟩
  ·rw[hz,if_neg (by decide)];exact h
  ·have:=h.Sz _ (List.getElem_mem hk)
   rw[h2]at this;exact absurd this (by decide)
 ·rw[e]at ho⊢
  simp only at ho⊢;obtain⟨g1,g2,g3,g4,g5,g6⟩:=BQ (h.ls _ (List.getElem_mem hk)) kind key n ho;unfold nT;rw[g2,g3,h1,h2,ha,if_pos (by omega)];simp only[Int.toNat_natCast];exact h.set hk g1 g2 g3 g4 g5 g6
theorem RF (u0 d0 u1 d1:Int) (s:Sc) (hk:s.key=kA∨s.key=kB):
  fH (jo u0 d0 u1 d1) s=jo (u0+if s.key=kA then s.up-s.uu else 0) (d0+if s.key=kA then s.down-s.ud else 0) (u1+if s.key=kB then s.up-s.uu else 0) (d1+if s.key=kB then s.down-s.ud else 0):=by
 have BS:kA≠kB:=by decide
 rcases hk with hk | hk
 ·have hb:¬s.key=kB:=by rw[hk];exact BS
  have e:bJ (jo u0 d0 u1 d1) s.key=0:=by rw[hk];simp[bJ,fB,jo]
  unfold fH;rw[e,if_pos hk,if_pos hk,if_neg hb,if_neg hb,if_neg (by decide)];simp[jo]
 ·have hb:¬s.key=kA:=by rw[hk];exact BS.symm
  have e:bJ (jo u0 d0 u1 d1) s.key=1:=by rw[hk];simp[bJ,fB,jo,BS]
  unfold fH;rw[e,if_pos hk,if_pos hk,if_neg hb,if_neg hb,if_neg (by decide)];simp[jo]
theorem RG (sl:List Sc):∀u0 d0 u1 d1,(∀s∈sl,s.key=kA∨s.key=kB)→
  sl.foldl fH (jo u0 d0 u1 d1)=jo (u0+dh kA sl) (d0+leftD kA sl) (u1+dh kB sl) (d1+leftD kB sl):=by
 induction sl with
 | nil=>intro u0 d0 u1 d1 _;simp[dh,leftD]
 | cons s sl ih=>
  intro u0 d0 u1 d1 h;rw[List.foldl_cons,RF _ _ _ _ s (h s List.mem_cons_self),ih _ _ _ _ (fun t ht=>h t (List.mem_cons_of_mem _ ht))];simp only[dh,leftD,Int.add_assoc]
theorem yI.freed {C:List Ct} {F:List Rg} {L:List Ls} {D:List Int} {l:Ls} (h:yI C F (l::L) D):yI (l.sl.foldl fH C) (bK F (l.used.foldl eU l.ids)) L (l.used.foldl gV D):=by
 obtain⟨u0,d0,u1,d1,h0,h1,h2,h3,h4⟩:=h.cs;have hl:=h.ls l List.mem_cons_self;have hL:∀x∈L,yH x:=fun x hx=>h.ls x (List.mem_cons_of_mem _ hx)
 have hii:=List.pairwise_cons.1 h.ii;have hfl:=h.fi l List.mem_cons_self;have hnd:l.used.Nodup:=hl.rise.imp (fun hh=>by omega);obtain⟨f1,f2⟩:=Ry l.used l.ids hl.row hnd hl.sub;obtain⟨f3,_⟩:=oF l.used l.ids hl.row;obtain⟨a1,a2⟩:=sZ (l.used.foldl eU l.ids) F h.fr f3.1;have a3:=BO (l.used.foldl eU l.ids) F h.fr f3 (fun n hn h2=>hfl n hn ((f1 n).1 h2).1);obtain⟨_,b2,b3,b4⟩:=BF l.used D h.bd hl.rise (fun u hu hm=>h.bi u hm l List.mem_cons_self (hl.sub u hu));simp only[bG,bH]at h1 h2 h3 h4;have n1:=BH kA (l:=l.sl) (fun s hs=>by have:=hl.sc s hs;omega);have n2:=BH kB (l:=l.sl) (fun s hs=>by have:=hl.sc s hs;omega);refine⟨⟨u0+dh kA l.sl,d0+leftD kA l.sl,u1+dh kB l.sl,d1+leftD kB l.sl,?_,by omega,by omega,by omega,by omega⟩,hL,fun x hx=>h.Sz x (List.mem_cons_of_mem _ hx),a1,?_,b2,?_,hii.2,?_,?_,?_,?_⟩
 ·rw[h0];exact RG l.sl _ _ _ _ hl.key
 ·refine KD a1 (fun n hn=>?_)
  rcases(a2 n).1 hn with hn | hn
  ·exact BP h.top hn
  ·exact BP hl.top ((f1 n).1 hn).1
 ·intro x hx n hn
  rcases(a2 n).1 hn with hn | hn
  ·exact h.fi x (List.mem_cons_of_mem _ hx) n hn
  ·exact hii.1 x hx n ((f1 n).1 hn).1
 ·intro n hn hm
  rcases(b3 n).1 hn with hn | hn
  ·rcases(a2 n).1 hm with hm | hm
   ·exact h.bf n hn hm
   ·exact h.bi n hn l List.mem_cons_self ((f1 n).1 hm).1
  ·rcases(a2 n).1 hm with hm | hm
   ·exact hfl n hm (hl.sub n hn)
   ·exact((f1 n).1 hm).2 hn
 ·intro n hn x hx hm
  rcases(b3 n).1 hn with hn | hn
  ·exact h.bi n hn x (List.mem_cons_of_mem _ hx) hm
  ·exact hii.1 x hx n (hl.sub n hn) hm
 ·intro n hn
  rcases(b3 n).1 hn with hn | hn
  ·exact h.br n hn
  ·exact hl.Rv n hn
 ·have:=h.tot
  rw[jR]at this;rw[a3,f2,b4];omega
theorem Inv.free {b:Bk} (h:Inv b) (d ep:Int):Inv (pK b d ep).1:=by
 unfold pK;rcases xG b d ep with⟨ha,_⟩ | ⟨k,hk,ha,_⟩
 ·rw[ha,if_pos (by decide)];exact h
 ·have hg:b.ls.getD k oD=b.ls[k]:=by simp[List.getD,List.getElem?_eq_getElem hk]
  rw[ha,if_neg (by omega)];simp only[Int.toNat_natCast,hg];exact⟨(h.toyI.perm (Mr b.ls k hk)).freed,h.C_.sublist (List.eraseIdx_sublist _ _)⟩
theorem yI.new {C:List Ct} {F:List Rg} {L:List Ls} {D:List Int} (h:yI C F L D) (d ep un:Int) (hd:0≤d∧d<6) (he:1≤ep):yI C F (newL d ep un::L) D:=by
 obtain⟨u0,d0,u1,d1,h0,h1,h2,h3,h4⟩:=h.cs;have hn:∀n,¬fQ (newL d ep un).ids n:=fun n=>wH n
 refine⟨⟨u0,d0,u1,d1,h0,?_,?_,?_,?_⟩,?_,?_,h.fr,h.top,h.bd,?_,?_,h.bf,?_,h.br,?_⟩
 ·simp only[bG,newL,dh];omega
 ·simp only[bH,newL,leftD];omega
 ·simp only[bG,newL,dh];omega
 ·simp only[bH,newL,leftD];omega
 ·intro x hx
  rcases List.mem_cons.1 hx with rfl | hx
  ·exact⟨hd,fun s hs=>absurd hs (by simp[newL]),List.Pairwise.nil,fun s hs=>absurd hs (by simp[newL]),rowP_nil,fun r hr=>absurd hr (by simp[newL]),List.Pairwise.nil,fun n hn=>absurd hn (by simp[newL])⟩
  ·exact h.ls x hx
 ·intro x hx
  rcases List.mem_cons.1 hx with rfl | hx
  ·exact he
  ·exact h.Sz x hx
 ·intro x hx
  rcases List.mem_cons.1 hx with rfl | hx
  ·exact fun n _=>hn n
  ·exact h.fi x hx
 ·exact List.pairwise_cons.2 ⟨fun x _ n hm=>absurd hm (hn n),h.ii⟩
 ·intro n hm x hx
  rcases List.mem_cons.1 hx with rfl | hx
  ·exact hn n
  ·exact h.bi n hm x hx
 ·have:=h.tot
  rw[jR];simp only[newL,dG];omega
theorem yI.ids {C:List Ct} {F:List Rg} {L:List Ls} {D:List Int} {l:Ls} (h:yI C F (l::L) D) (n:Int) (h0:0≤n) (hn:n≤dG F):
  yI C (bY F n).2 (⟨l.dev,l.epoch,l.bU,l.last,l.sl,bK l.ids (bY F n).1,l.used⟩::L) D:=by
 have hl:=h.ls l List.mem_cons_self;obtain⟨t1,t2,t3,t4,t5,t6,_⟩:=vE F n h0 hn h.fr;have hfl:=h.fi l List.mem_cons_self;have hii:=List.pairwise_cons.1 h.ii;obtain⟨a1,a2⟩:=sZ (bY F n).1 l.ids hl.row t1.1;have a3:=BO (bY F n).1 l.ids hl.row t1 (fun k hk h2=>hfl k ((t5 k).1 h2).1 hk);obtain⟨u0,d0,u1,d1,c0,c1,c2,c3,c4⟩:=h.cs;refine⟨⟨u0,d0,u1,d1,c0,c1,c2,c3,c4⟩,?_,?_,t2,?_,h.bd,?_,?_,?_,?_,h.br,?_⟩
 ·intro x hx
  rcases List.mem_cons.1 hx with rfl | hx
  ·refine⟨hl.dev,hl.key,hl.one,hl.sc,a1,KD a1 (fun k hk=>?_),hl.rise,fun k hk=>(a2 k).2 (.inl (hl.sub k hk))⟩
   rcases(a2 k).1 hk with hk | hk
   ·exact BP hl.top hk
   ·exact BP h.top ((t5 k).1 hk).1
  ·exact h.ls x (List.mem_cons_of_mem _ hx)
 ·intro x hx
  rcases List.mem_cons.1 hx with rfl | hx
  ·exact h.Sz l List.mem_cons_self
  ·exact h.Sz x (List.mem_cons_of_mem _ hx)
 ·exact KD t2 (fun k hk=>BP h.top ((t6 k).1 hk).1)
 ·intro x hx k hk
  have hk':=(t6 k).1 hk;rcases List.mem_cons.1 hx with rfl | hx
  ·intro hm
   rcases(a2 k).1 hm with hm | hm
   ·exact hfl k hk'.1 hm
   ·have:=((t5 k).1 hm).2;omega
  ·exact h.fi x (List.mem_cons_of_mem _ hx) k hk'.1
 ·refine List.pairwise_cons.2 ⟨fun x hx k hk hm=>?_,hii.2⟩
  rcases(a2 k).1 hk with hk | hk
  ·exact hii.1 x hx k hk hm
  ·exact h.fi x (List.mem_cons_of_mem _ hx) k ((t5 k).1 hk).1 hm
 ·exact fun k hk hm=>h.bf k hk ((t6 k).1 hm).1
 ·intro k hk x hx hm
  rcases List.mem_cons.1 hx with rfl | hx
  ·rcases(a2 k).1 hm with hm | hm
   ·exact h.bi k hk l List.mem_cons_self hm
   ·exact h.bf k hk ((t5 k).1 hm).1
  ·exact h.bi k hk x (List.mem_cons_of_mem _ hx) hm
 ·have:=h.tot
  rw[jR]at this⊢;simp only;rw[t4,a3,t3];omega
theorem Ea (key:ByteArray) (sl:List Sc) (s:Sc):dh key (sl++ [s])=dh key sl+(if s.key=key then s.up-s.uu else 0)∧leftD key (sl++ [s])=leftD key sl+(if s.key=key then s.down-s.ud else 0):=by
 induction sl with
 | nil=>simp[dh,leftD]
 | cons x l ih=>simp only[List.cons_append,dh,leftD,ih.1,ih.2];omega
theorem yI.rights {C:List Ct} {F:List Rg} {L:List Ls} {D:List Int} {l:Ls} (h:yI C F (l::L) D) (key:ByteArray) (up down:Int) (hu0:0≤up) (hd0:0≤down) (hi:¬bJ C key<0) (hu:up≤(C.getD (bJ C key).toNat l8).up) (hd:down≤(C.getD (bJ C key).toNat l8).down) (hn:∀s∈l.sl,s.key≠key):
  yI (C.set (bJ C key).toNat ⟨(C.getD (bJ C key).toNat l8).key,(C.getD (bJ C key).toNat l8).coll,(C.getD (bJ C key).toNat l8).lo,(C.getD (bJ C key).toNat l8).hi,(C.getD (bJ C key).toNat l8).start,(C.getD (bJ C key).toNat l8).up-up,(C.getD (bJ C key).toNat l8).down-down⟩) F
   (⟨l.dev,l.epoch,l.bU,l.last,l.sl++ [⟨key,up,down,0,0⟩],l.ids,l.used⟩::L) D:=by
 have BS:kA≠kB:=by decide
 have hl:=h.ls l List.mem_cons_self;have hii:=List.pairwise_cons.1 h.ii;obtain⟨u0,d0,u1,d1,c0,c1,c2,c3,c4⟩:=h.cs;have n1:=mJ kA h.ls;have n2:=mJ kB h.ls;simp only[bG,bH]at c1 c2 c3 c4 n1 n2;subst c0
 have hL:up≤30→down≤30→(key=kA∨key=kB)→ ∀x∈((⟨l.dev,l.epoch,l.bU,l.last,l.sl++ [⟨key,up,down,0,0⟩],l.ids,l.used⟩:Ls)::L),yH x:=by
  intro q1 q2 q3 x hx;rcases List.mem_cons.1 hx with rfl | hx
  ·refine⟨hl.dev,?_,?_,?_,hl.row,hl.top,hl.rise,hl.sub⟩
   ·intro s hs
    rcases List.mem_append.1 hs with hs | hs
    ·exact hl.key s hs
    ·rw[List.mem_singleton]at hs;subst hs;exact q3
   ·refine List.pairwise_append.2 ⟨hl.one,List.pairwise_singleton _ _,fun s hs t ht=>?_⟩
    rw[List.mem_singleton]at ht;subst ht;exact hn s hs
   ·intro s hs
    rcases List.mem_append.1 hs with hs | hs
    ·exact hl.sc s hs
    ·rw[List.mem_singleton]at hs;subst hs
     simp only;omega
  ·exact h.ls x (List.mem_cons_of_mem _ hx)
 have hrest:∀C',(∃v0 e0 v1 e1,C'=jo v0 e0 v1 e1∧(0≤v0∧v0+(dh kA (l.sl++ [⟨key,up,down,0,0⟩])+bG kA L)≤10)∧(0≤e0∧e0+(leftD kA (l.sl++ [⟨key,up,down,0,0⟩])+bH kA L)≤10)∧(0≤v1∧v1+(dh kB (l.sl++ [⟨key,up,down,0,0⟩])+bG kB L)≤30)∧0≤e1∧e1+(leftD kB (l.sl++ [⟨key,up,down,0,0⟩])+bH kB L)≤30)→
   (∀x∈((⟨l.dev,l.epoch,l.bU,l.last,l.sl++ [⟨key,up,down,0,0⟩],l.ids,l.used⟩:Ls)::L),yH x)→yI C' F (⟨l.dev,l.epoch,l.bU,l.last,l.sl++ [⟨key,up,down,0,0⟩],l.ids,l.used⟩::L) D:=by
  intro C' hC hLx;refine⟨hC,hLx,?_,h.fr,h.top,h.bd,?_,List.pairwise_cons.2 ⟨hii.1,hii.2⟩,h.bf,?_,h.br,?_⟩
  ·intro x hx
   rcases List.mem_cons.1 hx with rfl | hx
   ·exact h.Sz l List.mem_cons_self
   ·exact h.Sz x (List.mem_cons_of_mem _ hx)
  ·intro x hx
   rcases List.mem_cons.1 hx with rfl | hx
   ·exact h.fi l List.mem_cons_self
   ·exact h.fi x (List.mem_cons_of_mem _ hx)
  ·intro k hk x hx
   rcases List.mem_cons.1 hx with rfl | hx
   ·exact h.bi k hk l List.mem_cons_self
   ·exact h.bi k hk x (List.mem_cons_of_mem _ hx)
  ·have:=h.tot
   rw[jR]at this⊢;exact this
 have sA:=Ea kA l.sl ⟨key,up,down,0,0⟩;have sB:=Ea kB l.sl ⟨key,up,down,0,0⟩;by_cases kq:key=kA
 ·subst kq
  have e:bJ (jo u0 d0 u1 d1) kA=0:=by simp[bJ,fB,jo]
  rw[e]at hu hd⊢;simp only[jo,Int.toNat_zero,List.getD_cons_zero]at hu hd;simp only[if_true,if_neg BS]at sA sB;refine hrest _ ⟨u0-up,d0-down,u1,d1,by simp[jo],?_,?_,?_,?_⟩ (hL (by omega) (by omega) (.inl rfl))<;>omega
 ·by_cases kr:key=kB
  ·subst kr
   have e:bJ (jo u0 d0 u1 d1) kB=1:=by simp[bJ,fB,jo,BS]
   rw[e]at hu hd⊢;simp only[jo,Int.toNat_one,List.getD_cons_succ,List.getD_cons_zero]at hu hd;simp only[if_true,if_neg kq]at sA sB;refine hrest _ ⟨u0,d0,u1-up,d1-down,by simp[jo],?_,?_,?_,?_⟩ (hL (by omega) (by omega) (.inr rfl))<;>omega
  ·exfalso
   apply hi
   have e:bJ (jo u0 d0 u1 d1) key= -1:=gF (fun c hc=>by
    simp only[jo,List.mem_cons,List.not_mem_nil,or_false]at hc;rcases hc with rfl | rfl
    ·simpa using fun h=>kq h.symm
    ·simpa using fun h=>kr h.symm)
   rw[e];decide
theorem BR {b:Bk} {w:Wn} (h:dY b w=0):g_ b w=0∧w.ids≤dG b.free:=by
 unfold dY at h
 split at h
 ·split at h
  ·cases h
  ·exact⟨by assumption,by omega⟩
 ·contradiction
theorem yI.want {b:Bk} {l:Ls} {w:Wn} (h:yI b.cs b.free (l::b.ls) b.bound) (hw:dY b w=0) (hn:∀s∈l.sl,s.key≠w.key):yI (iG b w).cs (iG b w).free (jG b l w::(iG b w).ls) (iG b w).bound:=by
 obtain⟨hC,xI⟩:=BR hw;obtain⟨hB,hk⟩:=iP hC;obtain⟨⟨u1,u2⟩,⟨d1,d2⟩,i1,i2⟩:=EB hB;have hI:=h.ids w.ids i1 xI;unfold iG jG;rcases hk with hk | ⟨hk,h0,h1,h2⟩
 ·simp only[hk,if_true]
  exact hI
 ·simp only[hk,Bool.false_eq_true,if_false]
  exact hI.rights w.key w.up w.down u1 d1 h0 (by unfold kL at h1;omega) (by unfold kL at h2;omega) hn
theorem yI.bI (ws:List Wn):∀ (b:Bk) (l:Ls) (pre:List Wn),yI b.cs b.free (l::b.ls) b.bound→(∀s∈l.sl,∃p∈pre,p.key=s.key)→(bI b l pre ws).2.2=0→
  yI (bI b l pre ws).1.cs (bI b l pre ws).1.free ((bI b l pre ws).2.1::b.ls) (bI b l pre ws).1.bound∧(bI b l pre ws).1.ls=b.ls∧(bI b l pre ws).2.1.dev=l.dev:=by
 induction ws with
 | nil=>intro b l pre h _ _;exact⟨h,rfl,rfl⟩
 | cons w ws ih=>
  intro b l pre h hs ho;by_cases h1:wJ w=true∧pre.any (fun x=>decide (x.key=w.key))=true
  ·rw[vw h1.1 h1.2]at ho
   exact absurd ho (show ¬ ((7:Int)=0)by decide)
  ·by_cases h2:dY b w=0
   ·rw[vD h1 h2]at ho⊢
    have hB:=(iP (BR h2).1).1
    have hn:∀s∈l.sl,s.key≠w.key:=fun s Ed e=>by
     obtain⟨p,hp,hpk⟩:=hs s Ed;exact h1 ⟨hB,List.any_eq_true.2 ⟨p,hp,by simp[hpk,e]⟩⟩
    have:=ih (iG b w) (jG b l w) (pre++ [w]) (h.want h2 hn) (fun s Ed=>by
     unfold jG at Ed;simp only at Ed
     split at Ed
     ·obtain⟨p,hp,e⟩:=hs s Ed
      exact⟨p,List.mem_append_left _ hp,e⟩
     ·rcases List.mem_append.1 Ed with Ed | Ed
      ·obtain⟨p,hp,e⟩:=hs s Ed
       exact⟨p,List.mem_append_left _ hp,e⟩
      ·rw[List.mem_singleton]at Ed
       subst Ed
       exact⟨w,by simp,rfl⟩) ho
    exact this
   ·rw[pI h1 h2]at ho
    exact absurd ho h2
theorem RH (l:Ls) (L:List Ls):(l::L).Perm (sD l L):=by
 unfold sD;generalize pR l.dev L=k;have e:L=L.take k++L.drop k:=(List.take_append_drop k L).symm;exact(List.perm_middle.trans (by rw[←e])).symm
theorem RI {L:List Ls} {l:Ls} (h:L.Pairwise (fun l m=>l.dev<m.dev)) (hn:∀x∈L,x.dev≠l.dev):(sD l L).Pairwise (fun l m=>l.dev<m.dev):=by
 unfold sD pR
 induction L with
 | nil=>simp
 | cons x L ih=>
  obtain⟨h1,h2⟩:=List.pairwise_cons.1 h;have hnx:=hn x List.mem_cons_self;have ih':=ih h2 (fun y hy=>hn y (List.mem_cons_of_mem _ hy));by_cases hx:x.dev<l.dev
  ·rw[List.takeWhile_cons_of_pos (by simpa using hx),List.length_cons,List.take_succ_cons,List.drop_succ_cons,List.cons_append]
   refine List.pairwise_cons.2 ⟨fun y hy=>?_,ih'⟩;rcases List.mem_append.1 hy with hy | hy
   ·exact h1 y (List.mem_of_mem_take hy)
   ·rcases List.mem_cons.1 hy with rfl | hy
    ·exact hx
    ·exact h1 y (List.mem_of_mem_drop hy)
  ·rw[List.takeWhile_cons_of_neg (by simpa using hx)]
   simp only[List.length_nil,List.take_zero,List.drop_zero,List.nil_append];refine List.pairwise_cons.2 ⟨fun y hy=>?_,h⟩;rcases List.mem_cons.1 hy with rfl | hy
   ·omega
   ·have:=h1 y hy;omega
theorem Inv.grant {b:Bk} (h:Inv b) (d ep un:Int) (ws:List Wn):Inv (h_ b d ep un ws).1:=by
 unfold h_;by_cases ha:nA d ep un ws.length=false
 ·rw[if_pos ha];exact h
 ·rw[if_neg ha]
  by_cases hd:b.ls.any (fun l=>decide (l.dev=d))=true
  ·rw[if_pos hd];exact h
  ·rw[if_neg hd]
   by_cases hg:(Go.Proofs.YtlfopoimbbpfdaaGreat.bI b (newL d ep un) [] ws).2.2=0
   ·rw[if_pos hg]
    have sV:nA d ep un ws.length=true:=by simpa using ha
    unfold nA at sV;simp only[Bool.and_eq_true,decide_eq_true_eq]at sV;obtain⟨g1,g2,g3⟩:=yI.bI ws b (newL d ep un) [] (h.toyI.new d ep un (by omega) (by omega)) (fun s hs=>absurd hs (by simp[newL])) hg;rw[g2];refine⟨g1.perm (RH _ _),RI h.C_ (fun x hx e=>hd ?_)⟩;rw[g3]at e;exact List.any_eq_true.2 ⟨x,hx,decide_eq_true e⟩
   ·rw[if_neg hg];exact h
theorem Inv.act {b:Bk} (h:Inv b) (x:uz) (ws:List Wn):Inv (BA b x ws):=by
 unfold BA
 split
 ·exact h.grant _ _ _ _
 ·split
  ·exact h.free _ _
  ·split
   ·rename_i ho
    exact h.put _ _ _ _ _ ho
   ·exact h
theorem Vm (u0 d0 u1 d1:Int):bJ (jo u0 d0 u1 d1) kA=0∧bJ (jo u0 d0 u1 d1) kB=1∧ ∀key,key≠kA→key≠kB→bJ (jo u0 d0 u1 d1) key= -1:=by
 have BS:kA≠kB:=by decide
 refine⟨by simp[bJ,fB,jo],by simp[bJ,fB,jo,BS],fun key h1 h2=>gF (fun c hc=>?_)⟩;simp only[jo,List.mem_cons,List.not_mem_nil,or_false]at hc;rcases hc with rfl | rfl
 ·simpa using fun h=>h1 h.symm
 ·simpa using fun h=>h2 h.symm
theorem abN (rows:List (List Rg)):∀acc:List Rg,(∀l∈rows,Small l)→Small acc→(∀l∈rows,XR acc l)→rows.Pairwise XR→qg acc rows=true:=by
 induction rows with
 | nil=>intro acc _ _ _ _;rfl
 | cons l t ih=>
  intro acc hs ha hd hp;obtain⟨p1,p2⟩:=List.pairwise_cons.1 hp
  rw[qg,if_neg,ih (acc++l) (fun x hx=>hs x (List.mem_cons_of_mem _ hx)) (fun r hr=>by
   rcases List.mem_append.1 hr with hr | hr
   ·exact ha r hr
   ·exact hs l List.mem_cons_self r hr) (fun x hx n hn hm=>by
   rcases(yO acc l n).1 hn with hn | hn
   ·exact hd x (List.mem_cons_of_mem _ hx) n hn hm
   ·exact p1 x hx n hn hm) p2]
  rw[Bool.not_eq_true,List.any_eq_false];intro r hr hh;unfold vI at hh;rw[List.any_eq_true]at hh;obtain⟨x,hx,h1⟩:=hh;simp only[Bool.and_eq_true,decide_eq_true_eq]at h1;have h2:=hs l List.mem_cons_self r hr;have h3:=ha x hx;refine hd l List.mem_cons_self (max x.1 r.1) ⟨x,hx,by omega,by omega⟩ ⟨r,hr,by omega,by omega⟩
theorem Inv.scs {b:Bk} (h:Inv b) {l:Ls} (hl:yH l):RY b.cs l.sl=true:=by
 obtain⟨u0,d0,u1,d1,hc,_⟩:=h.cs;obtain⟨c1,c2,_⟩:=Vm u0 d0 u1 d1;refine decide_eq_true (fun j hj=>?_);have hs:=hl.sc l.sl[j] (List.getElem_mem hj);have hk:=hl.key l.sl[j] (List.getElem_mem hj)
 have h1:fB (fun c:Sc=>decide (c.key=l.sl[j].key)) l.sl=j:=kG j hj (fun i hi=>by
  have:=(List.pairwise_iff_getElem.1 hl.one) i j (by omega) hj hi
  simpa using this) (by simp)
 have h2:0≤bJ b.cs l.sl[j].key:=by
  rw[hc];rcases hk with hk | hk
  ·rw[hk,c1];decide
  ·rw[hk,c2];decide
 unfold EA;simp only[Bool.and_eq_true,decide_eq_true_eq];exact⟨h1,h2,by omega,by omega,by omega,by omega⟩
theorem Inv.snd {b:Bk} (h:Inv b):zL b=true:=by
 have e1:decide (iT (yC b.cs b.ls) b.ls)=true:=decide_eq_true (fun i hi=>by
  have hl:=h.ls b.ls[i] (List.getElem_mem hi)
  have hp:jf b.ls i<b.ls[i].dev:=by
   cases i with
   | zero=>have:=hl.dev;show(-1:Int)<_;omega
   | succ i=>
    have hi':i<b.ls.length:=by omega
    have:=(List.pairwise_iff_getElem.1 h.C_) i (i+1) hi' hi (by omega);show((b.ls[i]?).map Ls.dev).getD 0<_;rw[List.getElem?_eq_getElem hi'];exact this
  have ha:Fz b.ls[i].used b.ls[i].ids=true:=by
   unfold Fz;rw[Bool.not_eq_true',List.any_eq_false];intro n hn;have:=(lH b.ls[i].ids n).2 (hl.sub n hn);simp[this]
  unfold yC;simp only[Bool.and_eq_true,decide_eq_true_eq]
  exact⟨hp,hl.dev.2,h.scs hl,hl.row,hl.rise,ha⟩)
 obtain⟨u0,d0,u1,d1,hc,h1,h2,h3,h4,h5⟩:=h.cs;have n1:=mJ kA h.ls;have n2:=mJ kB h.ls;obtain⟨c1,c2,_⟩:=Vm u0 d0 u1 d1
 have e2:MU b.cs=true:=by
  rw[hc];unfold MU
  have hm1:mX ⟨kA,0,0,20,10,u0,d0⟩=true:=by
   show mX ⟨kA,0,0,20,10,0,0⟩=true;decide +kernel
  have hm2:mX ⟨kB,1,-30,30,0,u1,d1⟩=true:=by
   show mX ⟨kB,1,-30,30,0,0,0⟩=true;decide +kernel
  rw[Bool.and_eq_true];refine⟨decide_eq_true (fun i hi=>?_),by simp[jo]⟩;have hi2:i=0∨i=1:=by simp[jo]at hi;omega
  rcases hi2 with rfl | rfl
  ·show zG (jo u0 d0 u1 d1) 0 ⟨kA,0,0,20,10,u0,d0⟩=true
   unfold zG;rw[hm1];simp only[Bool.true_and,Bool.and_eq_true,decide_eq_true_eq];exact⟨c1,by omega,by omega,by omega,by omega⟩
  ·show zG (jo u0 d0 u1 d1) 1 ⟨kB,1,-30,30,0,u1,d1⟩=true
   unfold zG;rw[hm2];simp only[Bool.true_and,Bool.and_eq_true,decide_eq_true_eq];exact⟨c2,by omega,by omega,by omega,by omega⟩
 have e3:DK b.cs b.ls=true:=by
  rw[hc];refine decide_eq_true (fun i hi=>?_);have hi2:i=0∨i=1:=by simp[jo]at hi;omega
  rcases hi2 with rfl | rfl
  ·show kM b.ls ⟨kA,0,0,20,10,u0,d0⟩=true
   unfold kM;simp only[Bool.and_eq_true,decide_eq_true_eq];omega
  ·show kM b.ls ⟨kB,1,-30,30,0,u1,d1⟩=true
   unfold kM;simp only[Bool.and_eq_true,decide_eq_true_eq];omega
 have hrs:∀l∈rowsOf b,dw l:=fun l hl=>by
  unfold rowsOf at hl;rcases List.mem_cons.1 hl with rfl | hl
  ·exact h.fr
  ·obtain⟨x,hx,rfl⟩:=List.mem_map.1 hl
   exact(h.ls x hx).row
 have e6:qg [] (rowsOf b)=true:=by
  refine abN _ [] (fun l hl=>(hrs l hl).1) (fun r hr=>absurd hr (by simp)) (fun l _ n hn=>absurd hn (wH n)) ?_;unfold rowsOf;refine List.pairwise_cons.2 ⟨fun l hl=>?_,List.pairwise_map.2 h.ii⟩;obtain⟨x,hx,rfl⟩:=List.mem_map.1 hl;exact h.fi x hx
 have e7:b.bound.any (oI (rowsOf b))=false:=by
  rw[List.any_eq_false];intro n hn hh;unfold oI at hh;rw[List.any_eq_true]at hh;obtain⟨l,hl,hh⟩:=hh
  have hm:fQ l n:=by
   unfold Fz at hh;simp only[List.any_cons,List.any_nil,Bool.or_false,Bool.not_not]at hh;exact(lH l n).1 hh
  unfold rowsOf at hl;rcases List.mem_cons.1 hl with rfl | hl
  ·exact h.bf n hn hm
  ·obtain⟨x,hx,rfl⟩:=List.mem_map.1 hl
   exact h.bi n hn x hx hm
 unfold zL;rw[e1,e2,e3,decide_eq_true h.fr,decide_eq_true (show iU b.bound from h.bd),e6,e7];rfl
theorem RJ {L:List Ls} (h:∀l∈L,yH l):(((L.map Ls.ids).flatten.length:Nat):Int)≤zo L:=by
 induction L with
 | nil=>simp[zo]
 | cons l L ih=>
  have h1:=(Ag (h l List.mem_cons_self).row (h l List.mem_cons_self).top).2;have h2:=ih (fun x hx=>h x (List.mem_cons_of_mem _ hx));rw[jR,List.map_cons,List.flatten_cons,List.length_append];omega
theorem Inv.af7 {b:Bk} (h:Inv b):Tq b:=by
 obtain⟨n1,n2,n3,n4⟩:=h.lens;have h1:=RJ h.ls;have h2:=(Ag h.fr h.top).2;have h3:=h.tot;refine⟨by omega,?_,fun c hc=>?_,fun l hl s hs=>?_⟩
 ·unfold rowsOf
  rw[List.flatten_cons,List.length_append];omega
 ·obtain⟨u0,d0,u1,d1,kE,_⟩:=h.cs
  rw[kE]at hc;simp only[jo,List.mem_cons,List.not_mem_nil,or_false]at hc;rcases hc with rfl | rfl
  ·show(⟨#[97]⟩:ByteArray).size≤maxLen;decide
  ·show(⟨#[98]⟩:ByteArray).size≤maxLen;decide
 ·have:=(h.ls l hl).sc s hs
  omega
end Go.Proofs.YtlfopoimbbpfdaaGreat
