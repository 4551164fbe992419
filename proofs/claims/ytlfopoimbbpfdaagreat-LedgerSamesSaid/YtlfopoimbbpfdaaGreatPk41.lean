/- What the law asks, in parts: LFq Cg Ch. -/
import Derived.Test.YtlfopoimbbpfdaaGreatPk13
import Derived.Test.YtlfopoimbbpfdaaGreatPk33
import Derived.Test.YtlfopoimbbpfdaaGreatPk19
import Derived.Test.YtlfopoimbbpfdaaGreatPk15
import Derived.Test.YtlfopoimbbpfdaaGreatPk40
set_option linter.all false
namespace Go.Proofs.YtlfopoimbbpfdaaGreat
open Go.RowKit
theorem FK (l:List Rg):∀ (r:Rg),Ok r→cZ l→(∀x∈l,r.1≤x.2)→(∀n,eH l n→ ¬ (r.1≤n∧n<r.2))→bR (eU l r)=bR l+(r.2-r.1):=by
 induction l with
 | nil=>intro r _ _ _ _;simp[eU,bR]
 | cons x t ih=>
  intro r hr hl hx hd
  have hx0:=hx x (by simp)
  obtain⟨x1,x2,x3⟩:=(dh x t).1 hl
  unfold Ok at hr
  unfold eU
  by_cases hc:x.1≤r.2
  ·rw[if_pos hc]
   have abW:x.2=r.1∨r.2=x.1:=by
    by_cases h1:x.2≤r.1
    ·left;omega
    ·right
     rcases Int.lt_or_le x.1 r.2 with h2 | h2
     ·exfalso
      refine hd (max x.1 r.1) ((dQ x t _).2 (.inl ⟨by omega,by omega⟩)) ⟨by omega,by omega⟩
     ·omega
   rw[ih (min r.1 x.1,max r.2 x.2) ⟨by simp only;omega,by simp only;omega,by simp only;omega⟩ x3 (fun y hy=>by
    have h1:=x2 y hy
    have h2:=x3.1 y hy
    simp only;omega) (fun n hn=>by
    have h1:=hl.ge hn
    have h2:=hd n ((dQ x t n).2 (.inr hn))
    simp only
    omega)]
   simp only[bR]
   omega
  ·rw[if_neg hc]
   simp only[bR]
   omega
theorem ME (l:List Rg) (r:Rg) (hr:Ok r) (hl:cZ l) (hd:∀n,eH l n→ ¬ (r.1≤n∧n<r.2)):bR (gu l r)=bR l+(r.2-r.1):=by
 induction l with
 | nil=>simp[gu,bR]
 | cons x t ih=>
  obtain⟨x1,x2,x3⟩:=(dh x t).1 hl
  unfold gu
  by_cases hc:x.2<r.1
  ·rw[if_pos hc]
   simp only[bR]
   rw[ih x3 (fun n hn=>hd n ((dQ x t n).2 (.inr hn)))]
   omega
  ·rw[if_neg hc]
   exact FK (x::t) r hr hl (fun y hy=>by
    simp only[List.mem_cons]at hy
    rcases hy with rfl | hy
    ·omega
    ·have h1:=x2 y hy
     have h2:=x3.1 y hy
     omega) hd
theorem yg (rs:List Rg):∀l,cZ l→cZ rs→(∀n,eH l n→ ¬eH rs n)→bR (bG l rs)=bR l+bR rs:=by
 induction rs with
 | nil=>intro l _ _ _;simp[bG,bR]
 | cons r rs ih=>
  intro l hl hrs hd
  obtain⟨r1,r2,r3⟩:=(dh r rs).1 hrs
  have hok:Ok r:=r1
  have hd1:∀n,eH l n→ ¬ (r.1≤n∧n<r.2):=fun n hn h=>hd n hn ((dQ r rs n).2 (.inl h))
  show bR (bG (gG l r) rs)=_
  rw[vO hok,ih (gu l r) (zS hl hok) r3 (fun n hn h=>by
   rcases(zT hl hok n).1 hn with h1 | h1
   ·exact hd n h1 ((dQ r rs n).2 (.inr h))
   ·have:=hrs.ge h
    omega),ME l r hok hl hd1]
  simp only[bR]
  omega
theorem MF (us:List Int):∀l:List Rg,cZ l→us.Nodup→(∀u∈us,eH l u)→(∀n,eH (us.foldl dN l) n↔eH l n∧n∉us)∧bR (us.foldl dN l)=bR l-us.length:=by
 induction us with
 | nil=>intro l _ _ _;exact⟨fun n=>by simp,by simp⟩
 | cons u us ih=>
  intro l hl hn hm
  rw[List.nodup_cons]at hn
  have hu:=hm u (by simp)
  have hh:eB l u=true:=(jJ l u).2 hu
  obtain⟨s1,s2,_,s4⟩:=xC l u hl
  have he:dN l u=bU l u:=by unfold dN;rw[if_pos hh]
  obtain⟨i1,i2⟩:=ih (bU l u) s1 hn.2 (fun x hx=>(s2 x).2 ⟨hm x (by simp[hx]),fun e=>hn.1 (e▸hx)⟩)
  rw[List.foldl_cons,he]
  refine⟨fun n=>?_,?_⟩
  ·rw[i1,s2]
   simp only[List.mem_cons,not_or]
   constructor
   ·rintro⟨⟨a,b⟩,c⟩;exact⟨a,b,c⟩
   ·rintro⟨a,b,c⟩;exact⟨⟨a,b⟩,c⟩
  ·rw[i2,s4,hh,List.length_cons]
   simp only[if_true]
   omega
end Go.Proofs.YtlfopoimbbpfdaaGreat
namespace Go.Proofs.YtlfopoimbbpfdaaGreat
open Go.RowKit
structure FI (up down u d:Int) (ids:Nat) (us:List Int):Prop where
 up0:0≤up∧up≤10
 dn0:0≤down∧down≤10
 u0:0≤u∧u≤up
 d0:0≤d∧d≤down
 id:ids<20
 srt:us.Pairwise (· < ·)
 inn:∀n∈us,0≤n∧n<ids
theorem DX (l:List Int):∀a b:Int,a≤b→l.Pairwise (· < ·)→(∀x∈l,a≤x∧x<b)→(l.length:Int)≤b-a:=by
 induction l with
 | nil=>intro a b h _ _;simp;omega
 | cons x l ih=>
  intro a b _ hp hm
  rw[List.pairwise_cons]at hp
  have hx:=hm x (by simp)
  have:=ih (x+1) b (by omega) hp.2 (fun y hy=>by
   have h1:=hp.1 y hy
   have h2:=hm y (by simp[hy])
   omega)
  rw[List.length_cons]
  omega
theorem FI.len {up down u d:Int} {ids:Nat} {us:List Int} (h:FI up down u d ids us):us.length≤ids:=by
 have:=DX us 0 ids (by omega) h.srt h.inn
 omega
theorem OX (l:List Int) (n:Int) (h:l.Pairwise (· < ·)) (hn:n∉l):(rise l n).Pairwise (· < ·):=by
 obtain⟨h1,h2⟩:=rR l n (h.imp (fun {a b} hab=>by omega))
 unfold rise
 rw[h1,h2,List.pairwise_append]
 refine⟨h.filter _,?_,fun a ha b hb=>?_⟩
 ·rw[List.pairwise_cons]
  refine⟨fun a ha=>?_,h.filter _⟩
  simp only[List.mem_filter,Bool.not_eq_true',decide_eq_false_iff_not]at ha
  have:a≠n:=fun e=>hn (e▸ha.1)
  omega
 ·simp only[List.mem_filter,decide_eq_true_eq]at ha
  simp only[List.mem_cons,List.mem_filter,Bool.not_eq_true',decide_eq_false_iff_not]at hb
  rcases hb with rfl | hb
  ·omega
  ·omega
theorem MG (l:List Int) (n x:Int):x∈rise l n↔x=n∨x∈l:=by
 unfold rise
 rw[List.mem_append,List.mem_cons]
 have:=List.take_append_drop (l.countP (· <n)) l
 constructor
 ·rintro(h | h | h)
  ·exact .inr (List.mem_of_mem_take h)
  ·exact .inl h
  ·exact .inr (List.mem_of_mem_drop h)
 ·rintro(h | h)
  ·exact .inr (.inl h)
  ·rw[←this,List.mem_append]at h
   rcases h with h | h
   ·exact .inl h
   ·exact .inr (.inr h)
theorem FI.bind {up down u d:Int} {ids:Nat} {us:List Int} (h:FI up down u d ids us) {m:Int} (hm:0≤m) (hlt:m<ids) (hn:us.contains m=false):FI up down u d ids (rise us m):=
 ⟨h.up0,h.dn0,h.u0,h.d0,h.id,OX us m h.srt (fun hh=>by rw[List.contains_iff_mem.2 hh]at hn;cases hn),fun x hx=>by
  rcases(MG us m x).1 hx with rfl | hx
  ·exact⟨hm,hlt⟩
  ·exact h.inn x hx⟩
end Go.Proofs.YtlfopoimbbpfdaaGreat
namespace Go.Proofs.YtlfopoimbbpfdaaGreat
open Go.RowKit
end Go.Proofs.YtlfopoimbbpfdaaGreat
namespace Go.Proofs.YtlfopoimbbpfdaaGreat
open Go.RowKit
theorem SN.symm {a b:List Rg} (h:SN a b):SN b a:=fun n h1 h2=>h n h2 h1
theorem BF {L M:List Ls} (h:L.Perm M) (key:ByteArray):bA key L=bA key M:=by
 induction h with
 | nil=>rfl
 | cons x _ ih=>simp only[bA,ih]
 | swap x y l=>simp only[bA];omega
 | trans _ _ i1 i2=>exact i1.trans i2
theorem BG {L M:List Ls} (h:L.Perm M) (key:ByteArray):bB key L=bB key M:=by
 induction h with
 | nil=>rfl
 | cons x _ ih=>simp only[bB,ih]
 | swap x y l=>simp only[bB];omega
 | trans _ _ i1 i2=>exact i1.trans i2
theorem iL (l:Ls) (L:List Ls):iU (l::L)=bR l.ids+iU L:=by simp[iU]
theorem FM {L M:List Ls} (h:L.Perm M):iU L=iU M:=by
 induction h with
 | nil=>rfl
 | cons x _ ih=>simp only[iL,ih]
 | swap x y l=>simp only[iL];omega
 | trans _ _ i1 i2=>exact i1.trans i2
theorem uw.perm {C:List Ct} {F:List Rg} {L M:List Ls} {D:List Int} (h:uw C F L D) (p:L.Perm M):uw C F M D:=by
 obtain⟨u0,d0,u1,d1,h0,h1,h2,h3,h4⟩:=h.cs
 rw[BF p]at h1 h3
 rw[BG p]at h2 h4
 exact⟨⟨u0,d0,u1,d1,h0,h1,h2,h3,h4⟩,fun l hl=>h.ls l (p.mem_iff.2 hl),fun l hl=>h.Np l (p.mem_iff.2 hl),h.fr,h.top,h.bd,fun l hl=>h.fi l (p.mem_iff.2 hl),
  h.ii.perm p (fun h=>h.symm),h.bf,fun n hn l hl=>h.bi n hn l (p.mem_iff.2 hl),h.br,by rw[←FM p];exact h.tot⟩
theorem FN {F:List Rg} (hf:cZ F) (h:∀n,eH F n→n<40):∀r∈F,r.2≤40:=fun r hr=>by
 have h1:=hf.1 r hr
 have:=h (r.2-1) ⟨r,hr,by omega,by omega⟩
 omega
theorem yh {F:List Rg} (h:∀r∈F,r.2≤40) {n:Int} (hn:eH F n):n<40:=by
 obtain⟨r,hr,h1,h2⟩:=hn
 have:=h r hr
 omega
theorem uw.put {C:List Ct} {F:List Rg} {L:List Ls} {D:List Int} {l m:Ls} (h:uw C F (l::L) D) (hm:sW m) (he:m.epoch=l.epoch) (hi:m.ids=l.ids)
  (hu:∀key,bS key m.sl≤bS key l.sl) (hd:∀key,leftD key m.sl≤leftD key l.sl):uw C F (m::L) D:=by
 obtain⟨u0,d0,u1,d1,h0,h1,h2,h3,h4⟩:=h.cs
 have a1:=hu kA
 have a2:=hu kB
 have a3:=hd kA
 have a4:=hd kB
 simp only[bA,bB]at h1 h2 h3 h4
 have hii:=List.pairwise_cons.1 h.ii
 refine⟨⟨u0,d0,u1,d1,h0,?_,?_,?_,?_⟩,?_,?_,h.fr,h.top,h.bd,?_,?_,h.bf,?_,h.br,?_⟩
 ·simp only[bA];omega
 ·simp only[bB];omega
 ·simp only[bA];omega
 ·simp only[bB];omega
 ·intro x hx
  rcases List.mem_cons.1 hx with rfl | hx
  ·exact hm
  ·exact h.ls x (List.mem_cons_of_mem _ hx)
 ·intro x hx
  rcases List.mem_cons.1 hx with rfl | hx
  ·rw[he];exact h.Np l List.mem_cons_self
  ·exact h.Np x (List.mem_cons_of_mem _ hx)
 ·intro x hx
  rcases List.mem_cons.1 hx with rfl | hx
  ·rw[hi];exact h.fi l List.mem_cons_self
  ·exact h.fi x (List.mem_cons_of_mem _ hx)
 ·refine List.pairwise_cons.2 ⟨fun x hx=>?_,hii.2⟩
  rw[hi];exact hii.1 x hx
 ·intro n hn x hx
  rcases List.mem_cons.1 hx with rfl | hx
  ·rw[hi];exact h.bi n hn l List.mem_cons_self
  ·exact h.bi n hn x (List.mem_cons_of_mem _ hx)
 ·have:=h.tot
  rw[iL]at this⊢
  rw[hi]
  exact this
theorem G7 {α:Type} (l:List α) (k:Nat) (hk:k<l.length):l.Perm (l[k]::l.eraseIdx k):=by
 induction l generalizing k with
 | nil=>simp at hk
 | cons x l ih=>
  cases k with
  | zero=>exact List.Perm.refl _
  | succ k=>
   have hk':k<l.length:=by simpa using hk
   exact((ih k hk').cons x).trans (List.Perm.swap _ _ _)
theorem MH {α:Type} (l:List α) (k:Nat) (hk:k<l.length) (y:α):(y::l.eraseIdx k).Perm (l.set k y):=by
 induction l generalizing k with
 | nil=>simp at hk
 | cons x l ih=>
  cases k with
  | zero=>exact List.Perm.refl _
  | succ k=>
   have hk':k<l.length:=by simpa using hk
   exact(List.Perm.swap _ _ _).trans ((ih k hk').cons x)
theorem MI {ls:List Ls} {k:Nat} (hk:k<ls.length) {m:Ls} (hm:m.dev=ls[k].dev) (h:ls.Pairwise (fun l m=>l.dev<m.dev)):(ls.set k m).Pairwise (fun l m=>l.dev<m.dev):=by
 rw[List.pairwise_iff_getElem]at h⊢
 intro i j hi hj hij
 have hi':i<ls.length:=by simpa using hi
 have hj':j<ls.length:=by simpa using hj
 have:=h i j hi' hj' hij
 rw[List.getElem_set,List.getElem_set]
 split
 ·rename_i e;subst e
  rw[if_neg (by omega),hm];exact this
 ·split
  ·rename_i e;subst e
   rw[hm];exact this
  ·exact this
theorem Inv.set {b:Bk} (h:Inv b) {k:Nat} (hk:k<b.ls.length) {m:Ls} (hm:sW m) (hd:m.dev=b.ls[k].dev) (he:m.epoch=b.ls[k].epoch) (hi:m.ids=b.ls[k].ids)
  (hu:∀key,bS key m.sl≤bS key b.ls[k].sl) (hdn:∀key,leftD key m.sl≤leftD key b.ls[k].sl):Inv ⟨b.cs,b.free,b.ls.set k m,b.bound⟩:=
 ⟨((h.touw.perm (G7 b.ls k hk)).put hm he hi hu hdn).perm (MH b.ls k hk m),MI hk hd h.zF⟩
theorem MJ (sl:List Sc) (j:Nat) (hj:j<sl.length) (s:Sc) (hk:s.key=sl[j].key) (hu:s.up-s.uu≤sl[j].up-sl[j].uu) (hd:s.down-s.ud≤sl[j].down-sl[j].ud) (key:ByteArray):
  bS key (sl.set j s)≤bS key sl∧leftD key (sl.set j s)≤leftD key sl:=by
 induction sl generalizing j with
 | nil=>simp at hj
 | cons x l ih=>
  cases j with
  | zero=>
   simp only[List.getElem_cons_zero]at hk hu hd
   simp only[List.set_cons_zero,bS,leftD,hk]
   constructor<;>split<;>omega
  | succ j=>
   have hj':j<l.length:=by simpa using hj
   obtain⟨i1,i2⟩:=ih j hj' (by simpa using hk) (by simpa using hu) (by simpa using hd)
   simp only[List.set_cons_succ,bS,leftD]
   omega
theorem SV {l:Ls} (h:sW l) (j:Nat) (hj:j<l.sl.length) {s:Sc} (hk:s.key=l.sl[j].key) (hs:(0≤s.uu∧s.uu≤s.up∧s.up≤30)∧0≤s.ud∧s.ud≤s.down∧s.down≤30):sW ⟨l.dev,l.epoch,l.bY,l.last,l.sl.set j s,l.ids,l.used⟩:=by
 refine⟨h.dev,?_,?_,?_,h.row,h.top,h.rise,h.sub⟩
 ·intro t ht
  rcases List.mem_or_eq_of_mem_set ht with ht | rfl
  ·exact h.key t ht
  ·rw[hk];exact h.key _ (List.getElem_mem hj)
 ·have ho:=h.one
  show(l.sl.set j s).Pairwise _
  rw[List.pairwise_iff_getElem]at ho⊢
  intro a b ha hb hab
  have ha':a<l.sl.length:=by simpa using ha
  have hb':b<l.sl.length:=by simpa using hb
  have:=ho a b ha' hb' hab
  rw[List.getElem_set,List.getElem_set]
  split
  ·rename_i e;subst e
   rw[if_neg (by omega),hk];exact this
  ·split
   ·rename_i e;subst e
    rw[hk];exact this
   ·exact this
 ·intro t ht
  rcases List.mem_or_eq_of_mem_set ht with ht | rfl
  ·exact h.sc t ht
  ·exact hs
theorem yj {l:Ls} (h:sW l) (kind:Int) (key:ByteArray) (n:Int) (ho:(bN l kind key n).2=0):
  sW (bN l kind key n).1∧(bN l kind key n).1.dev=l.dev∧(bN l kind key n).1.epoch=l.epoch∧(bN l kind key n).1.ids=l.ids∧
  (∀k2,bS k2 (bN l kind key n).1.sl≤bS k2 l.sl)∧(∀k2,leftD k2 (bN l kind key n).1.sl≤leftD k2 l.sl):=by
 have triv:sW l∧l.dev=l.dev∧l.epoch=l.epoch∧l.ids=l.ids∧(∀k2,bS k2 l.sl≤bS k2 l.sl)∧(∀k2,leftD k2 l.sl≤leftD k2 l.sl):=⟨h,rfl,rfl,rfl,fun _=>Int.le_refl _,fun _=>Int.le_refl _⟩
 unfold bN at ho⊢
 by_cases h4:kind=4
 ·rw[if_pos h4]at ho⊢
  unfold mH at ho⊢
  by_cases hi:kL l.sl key<0
  ·rw[if_pos hi];exact triv
  ·rw[if_neg hi]at ho⊢
   rcases bQ (fun c:Sc=>decide (c.key=key)) l.sl with⟨hx,_⟩ | ⟨j,hj,hx,_,_⟩
   ·exact absurd (by rw[show kL l.sl key= -1 from hx];decide) hi
   ·have e:kL l.sl key=j:=hx
    have hg:l.sl.getD (kL l.sl key).toNat Jz=l.sl[j]:=by rw[e];simp[List.getD,List.getElem?_eq_getElem hj]
    rw[hg,e]at ho⊢
    simp only[Int.toNat_natCast]at ho⊢
    split
    ·exact triv
    ·rename_i hf
     have hs:=h.sc l.sl[j] (List.getElem_mem hj)
     have hl:=fun k2=>MJ l.sl j hj (AR l.sl[j] n) rfl (by simp only[AR];omega) (by simp only[AR];omega) k2
     exact⟨SV h j hj (s:=AR l.sl[j] n) rfl (by simp only[AR];omega),rfl,rfl,rfl,fun k2=>(hl k2).1,fun k2=>(hl k2).2⟩
 ·rw[if_neg h4]at ho⊢
  by_cases h5:kind=5
  ·rw[if_pos h5]at ho⊢
   unfold mI at ho⊢
   by_cases hh:eB l.ids n=false
   ·rw[if_pos hh];exact triv
   ·rw[if_neg hh]at ho⊢
    by_cases hc:l.used.contains n=true
    ·rw[if_pos hc];exact triv
    ·rw[if_neg hc]
     have hnu:n∉l.used:=by simpa using hc
     refine⟨⟨h.dev,h.key,h.one,h.sc,h.row,h.top,Ai h.rise hnu,fun m hm=>?_⟩,rfl,rfl,rfl,fun _=>Int.le_refl _,fun _=>Int.le_refl _⟩
     rcases(xX l.used n m).1 hm with hm | rfl
     ·exact h.sub m hm
     ·exact(jJ l.ids m).1 (by simpa using hh)
  ·rw[if_neg h5];exact triv
theorem Inv.put {b:Bk} (h:Inv b) (d ep:Int) (kind:Int) (key:ByteArray) (n:Int) (ho:(bN (iT b d ep).1 kind key n).2=0):Inv (kR b (bN (iT b d ep).1 kind key n).1).1:=by
 rcases sN b d ep with⟨ha,e⟩ | ⟨k,hk,ha,e,h1,h2⟩
 ·rw[e]at ho⊢
  simp only at ho⊢
  obtain⟨_,g2,g3,_⟩:=yj DW kind key n ho
  unfold kR
  rw[g2,g3]
  rcases sN b mK.dev mK.epoch with⟨hz,_⟩ | ⟨k,hk,hz,_,_,h2⟩
  ·rw[hz,if_neg (by decide)];exact h
  ·have:=h.Np _ (List.getElem_mem hk)
   rw[h2]at this
   exact absurd this (by decide)
 ·rw[e]at ho⊢
  simp only at ho⊢
  obtain⟨g1,g2,g3,g4,g5,g6⟩:=yj (h.ls _ (List.getElem_mem hk)) kind key n ho
  unfold kR
  rw[g2,g3,h1,h2,ha,if_pos (by omega)]
  simp only[Int.toNat_natCast]
  exact h.set hk g1 g2 g3 g4 g5 g6
theorem MK (u0 d0 u1 d1:Int) (s:Sc) (hk:s.key=kA∨s.key=kB):
  dY (fE u0 d0 u1 d1) s=fE (u0+if s.key=kA then s.up-s.uu else 0) (d0+if s.key=kA then s.down-s.ud else 0) (u1+if s.key=kB then s.up-s.uu else 0) (d1+if s.key=kB then s.down-s.ud else 0):=by
 have hab:kA≠kB:=by decide
 rcases hk with hk | hk
 ·have hb:¬s.key=kB:=by rw[hk];exact hab
  have e:bH (fE u0 d0 u1 d1) s.key=0:=by rw[hk];simp[bH,dS,fE]
  unfold dY
  rw[e,if_pos hk,if_pos hk,if_neg hb,if_neg hb,if_neg (by decide)]
  simp[fE]
 ·have hb:¬s.key=kA:=by rw[hk];exact hab.symm
  have e:bH (fE u0 d0 u1 d1) s.key=1:=by rw[hk];simp[bH,dS,fE,hab]
  unfold dY
  rw[e,if_pos hk,if_pos hk,if_neg hb,if_neg hb,if_neg (by decide)]
  simp[fE]
theorem ML (sl:List Sc):∀u0 d0 u1 d1,(∀s∈sl,s.key=kA∨s.key=kB)→
  sl.foldl dY (fE u0 d0 u1 d1)=fE (u0+bS kA sl) (d0+leftD kA sl) (u1+bS kB sl) (d1+leftD kB sl):=by
 induction sl with
 | nil=>intro u0 d0 u1 d1 _;simp[bS,leftD]
 | cons s sl ih=>
  intro u0 d0 u1 d1 h
  rw[List.foldl_cons,MK _ _ _ _ s (h s List.mem_cons_self),ih _ _ _ _ (fun t ht=>h t (List.mem_cons_of_mem _ ht))]
  simp only[bS,leftD,Int.add_assoc]
theorem uw.freed {C:List Ct} {F:List Rg} {L:List Ls} {D:List Int} {l:Ls} (h:uw C F (l::L) D):uw (l.sl.foldl dY C) (bG F (l.used.foldl dN l.ids)) L (l.used.foldl fH D):=by
 obtain⟨u0,d0,u1,d1,h0,h1,h2,h3,h4⟩:=h.cs
 have hl:=h.ls l List.mem_cons_self
 have hL:∀x∈L,sW x:=fun x hx=>h.ls x (List.mem_cons_of_mem _ hx)
 have hii:=List.pairwise_cons.1 h.ii
 have hfl:=h.fi l List.mem_cons_self
 have hnd:l.used.Nodup:=hl.rise.imp (fun hh=>by omega)
 obtain⟨f1,f2⟩:=MF l.used l.ids hl.row hnd hl.sub
 obtain⟨f3,_⟩:=lH l.used l.ids hl.row
 obtain⟨a1,a2⟩:=oN (l.used.foldl dN l.ids) F h.fr f3.1
 have a3:=yg (l.used.foldl dN l.ids) F h.fr f3 (fun n hn h2=>hfl n hn ((f1 n).1 h2).1)
 obtain⟨_,b2,b3,b4⟩:=xY l.used D h.bd hl.rise (fun u hu hm=>h.bi u hm l List.mem_cons_self (hl.sub u hu))
 simp only[bA,bB]at h1 h2 h3 h4
 have n1:=yc kA (l:=l.sl) (fun s hs=>by have:=hl.sc s hs;omega)
 have n2:=yc kB (l:=l.sl) (fun s hs=>by have:=hl.sc s hs;omega)
 refine⟨⟨u0+bS kA l.sl,d0+leftD kA l.sl,u1+bS kB l.sl,d1+leftD kB l.sl,?_,by omega,by omega,by omega,by omega⟩,hL,fun x hx=>h.Np x (List.mem_cons_of_mem _ hx),a1,?_,b2,?_,hii.2,?_,?_,?_,?_⟩
 ·rw[h0];exact ML l.sl _ _ _ _ hl.key
 ·refine FN a1 (fun n hn=>?_)
  rcases(a2 n).1 hn with hn | hn
  ·exact yh h.top hn
  ·exact yh hl.top ((f1 n).1 hn).1
 ·intro x hx n hn
  rcases(a2 n).1 hn with hn | hn
  ·exact h.fi x (List.mem_cons_of_mem _ hx) n hn
  ·exact hii.1 x hx n ((f1 n).1 hn).1
 ·intro n hn hm
  rcases(b3 n).1 hn with hn | hn
  ·rcases(a2 n).1 hm with hm | hm
   ·exact h.bf n hn hm
   ·exact h.bi n hn l List.mem_cons_self ((f1 n).1 hm).1
  ·rcases(a2 n).1 hm with hm | hm
   ·exact hfl n hm (hl.sub n hn)
   ·exact((f1 n).1 hm).2 hn
 ·intro n hn x hx hm
  rcases(b3 n).1 hn with hn | hn
  ·exact h.bi n hn x (List.mem_cons_of_mem _ hx) hm
  ·exact hii.1 x hx n (hl.sub n hn) hm
 ·intro n hn
  rcases(b3 n).1 hn with hn | hn
  ·exact h.br n hn
  ·exact hl.MC n hn
 ·have:=h.tot
  rw[iL]at this
  rw[a3,f2,b4]
  omega
theorem Inv.free {b:Bk} (h:Inv b) (d ep:Int):Inv (mg b d ep).1:=by
 unfold mg
 rcases sN b d ep with⟨ha,_⟩ | ⟨k,hk,ha,_⟩
 ·rw[ha,if_pos (by decide)];exact h
 ·have hg:b.ls.getD k mK=b.ls[k]:=by simp[List.getD,List.getElem?_eq_getElem hk]
  rw[ha,if_neg (by omega)]
  simp only[Int.toNat_natCast,hg]
  exact⟨(h.touw.perm (G7 b.ls k hk)).freed,h.zF.sublist (List.eraseIdx_sublist _ _)⟩
theorem uw.new {C:List Ct} {F:List Rg} {L:List Ls} {D:List Int} (h:uw C F L D) (d ep un:Int) (hd:0≤d∧d<6) (he:1≤ep):uw C F (newL d ep un::L) D:=by
 obtain⟨u0,d0,u1,d1,h0,h1,h2,h3,h4⟩:=h.cs
 have hn:∀n,¬eH (newL d ep un).ids n:=fun n=>rC n
 refine⟨⟨u0,d0,u1,d1,h0,?_,?_,?_,?_⟩,?_,?_,h.fr,h.top,h.bd,?_,?_,h.bf,?_,h.br,?_⟩
 ·simp only[bA,newL,bS];omega
 ·simp only[bB,newL,leftD];omega
 ·simp only[bA,newL,bS];omega
 ·simp only[bB,newL,leftD];omega
 ·intro x hx
  rcases List.mem_cons.1 hx with rfl | hx
  ·exact⟨hd,fun s hs=>absurd hs (by simp[newL]),List.Pairwise.nil,fun s hs=>absurd hs (by simp[newL]),rowP_nil,fun r hr=>absurd hr (by simp[newL]),List.Pairwise.nil,fun n hn=>absurd hn (by simp[newL])⟩
  ·exact h.ls x hx
 ·intro x hx
  rcases List.mem_cons.1 hx with rfl | hx
  ·exact he
  ·exact h.Np x hx
 ·intro x hx
  rcases List.mem_cons.1 hx with rfl | hx
  ·exact fun n _=>hn n
  ·exact h.fi x hx
 ·exact List.pairwise_cons.2 ⟨fun x _ n hm=>absurd hm (hn n),h.ii⟩
 ·intro n hm x hx
  rcases List.mem_cons.1 hx with rfl | hx
  ·exact hn n
  ·exact h.bi n hm x hx
 ·have:=h.tot
  rw[iL]
  simp only[newL,bR]
  omega
theorem uw.ids {C:List Ct} {F:List Rg} {L:List Ls} {D:List Int} {l:Ls} (h:uw C F (l::L) D) (n:Int) (h0:0≤n) (hn:n≤bR F):
  uw C (bO F n).2 (⟨l.dev,l.epoch,l.bY,l.last,l.sl,bG l.ids (bO F n).1,l.used⟩::L) D:=by
 have hl:=h.ls l List.mem_cons_self
 obtain⟨t1,t2,t3,t4,t5,t6,_⟩:=qE F n h0 hn h.fr
 have hfl:=h.fi l List.mem_cons_self
 have hii:=List.pairwise_cons.1 h.ii
 obtain⟨a1,a2⟩:=oN (bO F n).1 l.ids hl.row t1.1
 have a3:=yg (bO F n).1 l.ids hl.row t1 (fun k hk h2=>hfl k ((t5 k).1 h2).1 hk)
 obtain⟨u0,d0,u1,d1,c0,c1,c2,c3,c4⟩:=h.cs
 refine⟨⟨u0,d0,u1,d1,c0,c1,c2,c3,c4⟩,?_,?_,t2,?_,h.bd,?_,?_,?_,?_,h.br,?_⟩
 ·intro x hx
  rcases List.mem_cons.1 hx with rfl | hx
  ·refine⟨hl.dev,hl.key,hl.one,hl.sc,a1,FN a1 (fun k hk=>?_),hl.rise,fun k hk=>(a2 k).2 (.inl (hl.sub k hk))⟩
   rcases(a2 k).1 hk with hk | hk
   ·exact yh hl.top hk
   ·exact yh h.top ((t5 k).1 hk).1
  ·exact h.ls x (List.mem_cons_of_mem _ hx)
 ·intro x hx
  rcases List.mem_cons.1 hx with rfl | hx
  ·exact h.Np l List.mem_cons_self
  ·exact h.Np x (List.mem_cons_of_mem _ hx)
 ·exact FN t2 (fun k hk=>yh h.top ((t6 k).1 hk).1)
 ·intro x hx k hk
  have hk':=(t6 k).1 hk
  rcases List.mem_cons.1 hx with rfl | hx
  ·intro hm
   rcases(a2 k).1 hm with hm | hm
   ·exact hfl k hk'.1 hm
   ·have:=((t5 k).1 hm).2;omega
  ·exact h.fi x (List.mem_cons_of_mem _ hx) k hk'.1
 ·refine List.pairwise_cons.2 ⟨fun x hx k hk hm=>?_,hii.2⟩
  rcases(a2 k).1 hk with hk | hk
  ·exact hii.1 x hx k hk hm
  ·exact h.fi x (List.mem_cons_of_mem _ hx) k ((t5 k).1 hk).1 hm
 ·exact fun k hk hm=>h.bf k hk ((t6 k).1 hm).1
 ·intro k hk x hx hm
  rcases List.mem_cons.1 hx with rfl | hx
  ·rcases(a2 k).1 hm with hm | hm
   ·exact h.bi k hk l List.mem_cons_self hm
   ·exact h.bf k hk ((t5 k).1 hm).1
  ·exact h.bi k hk x (List.mem_cons_of_mem _ hx) hm
 ·have:=h.tot
  rw[iL]at this⊢
  simp only
  rw[t4,a3,t3]
  omega
theorem Aj (key:ByteArray) (sl:List Sc) (s:Sc):bS key (sl++ [s])=bS key sl+(if s.key=key then s.up-s.uu else 0)∧leftD key (sl++ [s])=leftD key sl+(if s.key=key then s.down-s.ud else 0):=by
 induction sl with
 | nil=>simp[bS,leftD]
 | cons x l ih=>simp only[List.cons_append,bS,leftD,ih.1,ih.2];omega
theorem uw.rights {C:List Ct} {F:List Rg} {L:List Ls} {D:List Int} {l:Ls} (h:uw C F (l::L) D) (key:ByteArray) (up down:Int) (hu0:0≤up) (hd0:0≤down) (hi:¬bH C key<0) (hu:up≤(C.getD (bH C key).toNat pJ).up) (hd:down≤(C.getD (bH C key).toNat pJ).down) (hn:∀s∈l.sl,s.key≠key):
  uw (C.set (bH C key).toNat ⟨(C.getD (bH C key).toNat pJ).key,(C.getD (bH C key).toNat pJ).coll,(C.getD (bH C key).toNat pJ).lo,(C.getD (bH C key).toNat pJ).hi,(C.getD (bH C key).toNat pJ).start,(C.getD (bH C key).toNat pJ).up-up,(C.getD (bH C key).toNat pJ).down-down⟩) F
   (⟨l.dev,l.epoch,l.bY,l.last,l.sl++ [⟨key,up,down,0,0⟩],l.ids,l.used⟩::L) D:=by
 have hab:kA≠kB:=by decide
 have hl:=h.ls l List.mem_cons_self
 have hii:=List.pairwise_cons.1 h.ii
 obtain⟨u0,d0,u1,d1,c0,c1,c2,c3,c4⟩:=h.cs
 have n1:=fP kA h.ls
 have n2:=fP kB h.ls
 simp only[bA,bB]at c1 c2 c3 c4 n1 n2
 subst c0
 have hL:up≤30→down≤30→(key=kA∨key=kB)→ ∀x∈((⟨l.dev,l.epoch,l.bY,l.last,l.sl++ [⟨key,up,down,0,0⟩],l.ids,l.used⟩:Ls)::L),sW x:=by
  intro q1 q2 q3 x hx
  rcases List.mem_cons.1 hx with rfl | hx
  ·refine⟨hl.dev,?_,?_,?_,hl.row,hl.top,hl.rise,hl.sub⟩
   ·intro s hs
    rcases List.mem_append.1 hs with hs | hs
    ·exact hl.key s hs
    ·rw[List.mem_singleton]at hs;subst hs;exact q3
   ·refine List.pairwise_append.2 ⟨hl.one,List.pairwise_singleton _ _,fun s hs t ht=>?_⟩
    rw[List.mem_singleton]at ht;subst ht;exact hn s hs
   ·intro s hs
    rcases List.mem_append.1 hs with hs | hs
    ·exact hl.sc s hs
    ·rw[List.mem_singleton]at hs;subst hs
     simp only
     omega
  ·exact h.ls x (List.mem_cons_of_mem _ hx)
 have hrest:∀C',(∃v0 e0 v1 e1,C'=fE v0 e0 v1 e1∧(0≤v0∧v0+(bS kA (l.sl++ [⟨key,up,down,0,0⟩])+bA kA L)≤10)∧(0≤e0∧e0+(leftD kA (l.sl++ [⟨key,up,down,0,0⟩])+bB kA L)≤10)∧(0≤v1∧v1+(bS kB (l.sl++ [⟨key,up,down,0,0⟩])+bA kB L)≤30)∧0≤e1∧e1+(leftD kB (l.sl++ [⟨key,up,down,0,0⟩])+bB kB L)≤30)→
   (∀x∈((⟨l.dev,l.epoch,l.bY,l.last,l.sl++ [⟨key,up,down,0,0⟩],l.ids,l.used⟩:Ls)::L),sW x)→uw C' F (⟨l.dev,l.epoch,l.bY,l.last,l.sl++ [⟨key,up,down,0,0⟩],l.ids,l.used⟩::L) D:=by
  intro C' hC hLx
  refine⟨hC,hLx,?_,h.fr,h.top,h.bd,?_,List.pairwise_cons.2 ⟨hii.1,hii.2⟩,h.bf,?_,h.br,?_⟩
  ·intro x hx
   rcases List.mem_cons.1 hx with rfl | hx
   ·exact h.Np l List.mem_cons_self
   ·exact h.Np x (List.mem_cons_of_mem _ hx)
  ·intro x hx
   rcases List.mem_cons.1 hx with rfl | hx
   ·exact h.fi l List.mem_cons_self
   ·exact h.fi x (List.mem_cons_of_mem _ hx)
  ·intro k hk x hx
   rcases List.mem_cons.1 hx with rfl | hx
   ·exact h.bi k hk l List.mem_cons_self
   ·exact h.bi k hk x (List.mem_cons_of_mem _ hx)
  ·have:=h.tot
   rw[iL]at this⊢
   exact this
 have sA:=Aj kA l.sl ⟨key,up,down,0,0⟩
 have sB:=Aj kB l.sl ⟨key,up,down,0,0⟩
 by_cases kq:key=kA
 ·subst kq
  have e:bH (fE u0 d0 u1 d1) kA=0:=by simp[bH,dS,fE]
  rw[e]at hu hd⊢
  simp only[fE,Int.toNat_zero,List.getD_cons_zero]at hu hd
  simp only[if_true,if_neg hab]at sA sB
  refine hrest _ ⟨u0-up,d0-down,u1,d1,by simp[fE],?_,?_,?_,?_⟩ (hL (by omega) (by omega) (.inl rfl))<;>omega
 ·by_cases kr:key=kB
  ·subst kr
   have e:bH (fE u0 d0 u1 d1) kB=1:=by simp[bH,dS,fE,hab]
   rw[e]at hu hd⊢
   simp only[fE,Int.toNat_one,List.getD_cons_succ,List.getD_cons_zero]at hu hd
   simp only[if_true,if_neg kq]at sA sB
   refine hrest _ ⟨u0,d0,u1-up,d1-down,by simp[fE],?_,?_,?_,?_⟩ (hL (by omega) (by omega) (.inr rfl))<;>omega
  ·exfalso
   apply hi
   have e:bH (fE u0 d0 u1 d1) key= -1:=fA (fun c hc=>by
    simp only[fE,List.mem_cons,List.not_mem_nil,or_false]at hc
    rcases hc with rfl | rfl
    ·simpa using fun h=>kq h.symm
    ·simpa using fun h=>kr h.symm)
   rw[e]
   decide
theorem yt {b:Bk} {w:Wn} (h:dB b w=0):fK b w=0∧w.ids≤bR b.free:=by
 unfold dB at h
 split at h
 ·split at h
  ·cases h
  ·exact⟨by assumption,by omega⟩
 ·contradiction
theorem uw.want {b:Bk} {l:Ls} {w:Wn} (h:uw b.cs b.free (l::b.ls) b.bound) (hw:dB b w=0) (hn:∀s∈l.sl,s.key≠w.key):uw (gy b w).cs (gy b w).free (iE b l w::(gy b w).ls) (gy b w).bound:=by
 obtain⟨hC,hle⟩:=yt hw
 obtain⟨hB,hk⟩:=gI hC
 obtain⟨⟨u1,u2⟩,⟨d1,d2⟩,i1,i2⟩:=AL hB
 have hI:=h.ids w.ids i1 hle
 unfold gy iE
 rcases hk with hk | ⟨hk,h0,h1,h2⟩
 ·simp only[hk,if_true]
  exact hI
 ·simp only[hk,Bool.false_eq_true,if_false]
  exact hI.rights w.key w.up w.down u1 d1 h0 (by unfold jo at h1;omega) (by unfold jo at h2;omega) hn
theorem uw.bD (ws:List Wn):∀ (b:Bk) (l:Ls) (pre:List Wn),uw b.cs b.free (l::b.ls) b.bound→(∀s∈l.sl,∃p∈pre,p.key=s.key)→(bD b l pre ws).2.2=0→
  uw (bD b l pre ws).1.cs (bD b l pre ws).1.free ((bD b l pre ws).2.1::b.ls) (bD b l pre ws).1.bound∧(bD b l pre ws).1.ls=b.ls∧(bD b l pre ws).2.1.dev=l.dev:=by
 induction ws with
 | nil=>intro b l pre h _ _;exact⟨h,rfl,rfl⟩
 | cons w ws ih=>
  intro b l pre h hs ho
  by_cases h1:rH w=true∧pre.any (fun x=>decide (x.key=w.key))=true
  ·rw[qC h1.1 h1.2]at ho
   exact absurd ho (show ¬ ((7:Int)=0)by decide)
  ·by_cases h2:dB b w=0
   ·rw[qD h1 h2]at ho⊢
    have hB:=(gI (yt h2).1).1
    have hn:∀s∈l.sl,s.key≠w.key:=fun s hsl e=>by
     obtain⟨p,hp,hpk⟩:=hs s hsl
     exact h1 ⟨hB,List.any_eq_true.2 ⟨p,hp,by simp[hpk,e]⟩⟩
    have:=ih (gy b w) (iE b l w) (pre++ [w]) (h.want h2 hn) (fun s hsl=>by
     unfold iE at hsl
     simp only at hsl
     split at hsl
     ·obtain⟨p,hp,e⟩:=hs s hsl
      exact⟨p,List.mem_append_left _ hp,e⟩
     ·rcases List.mem_append.1 hsl with hsl | hsl
      ·obtain⟨p,hp,e⟩:=hs s hsl
       exact⟨p,List.mem_append_left _ hp,e⟩
      ·rw[List.mem_singleton]at hsl
       subst hsl
       exact⟨w,by simp,rfl⟩) ho
    exact this
   ·rw[lZ h1 h2]at ho
    exact absurd ho h2
theorem MN (l:Ls) (L:List Ls):(l::L).Perm (og l L):=by
 unfold og
 generalize mF l.dev L=k
 have e:L=L.take k++L.drop k:=(List.take_append_drop k L).symm
 exact(List.perm_middle.trans (by rw[←e])).symm
theorem MO {L:List Ls} {l:Ls} (h:L.Pairwise (fun l m=>l.dev<m.dev)) (hn:∀x∈L,x.dev≠l.dev):(og l L).Pairwise (fun l m=>l.dev<m.dev):=by
 unfold og mF
 induction L with
 | nil=>simp
 | cons x L ih=>
  obtain⟨h1,h2⟩:=List.pairwise_cons.1 h
  have hnx:=hn x List.mem_cons_self
  have ih':=ih h2 (fun y hy=>hn y (List.mem_cons_of_mem _ hy))
  by_cases hx:x.dev<l.dev
  ·rw[List.takeWhile_cons_of_pos (by simpa using hx),List.length_cons,List.take_succ_cons,List.drop_succ_cons,List.cons_append]
   refine List.pairwise_cons.2 ⟨fun y hy=>?_,ih'⟩
   rcases List.mem_append.1 hy with hy | hy
   ·exact h1 y (List.mem_of_mem_take hy)
   ·rcases List.mem_cons.1 hy with rfl | hy
    ·exact hx
    ·exact h1 y (List.mem_of_mem_drop hy)
  ·rw[List.takeWhile_cons_of_neg (by simpa using hx)]
   simp only[List.length_nil,List.take_zero,List.drop_zero,List.nil_append]
   refine List.pairwise_cons.2 ⟨fun y hy=>?_,h⟩
   rcases List.mem_cons.1 hy with rfl | hy
   ·omega
   ·have:=h1 y hy;omega
theorem Inv.grant {b:Bk} (h:Inv b) (d ep un:Int) (ws:List Wn):Inv (fM b d ep un ws).1:=by
 unfold fM
 by_cases ha:ku d ep un ws.length=false
 ·rw[if_pos ha];exact h
 ·rw[if_neg ha]
  by_cases hd:b.ls.any (fun l=>decide (l.dev=d))=true
  ·rw[if_pos hd];exact h
  ·rw[if_neg hd]
   by_cases hg:(Go.Proofs.YtlfopoimbbpfdaaGreat.bD b (newL d ep un) [] ws).2.2=0
   ·rw[if_pos hg]
    have ha2:ku d ep un ws.length=true:=by simpa using ha
    unfold ku at ha2
    simp only[Bool.and_eq_true,decide_eq_true_eq]at ha2
    obtain⟨g1,g2,g3⟩:=uw.bD ws b (newL d ep un) [] (h.touw.new d ep un (by omega) (by omega)) (fun s hs=>absurd hs (by simp[newL])) hg
    rw[g2]
    refine⟨g1.perm (MN _ _),MO h.zF (fun x hx e=>hd ?_)⟩
    rw[g3]at e
    exact List.any_eq_true.2 ⟨x,hx,decide_eq_true e⟩
   ·rw[if_neg hg];exact h
theorem Inv.act {b:Bk} (h:Inv b) (x:ow) (ws:List Wn):Inv (lK b x ws):=by
 unfold lK
 split
 ·exact h.grant _ _ _ _
 ·split
  ·exact h.free _ _
  ·split
   ·rename_i ho
    exact h.put _ _ _ _ _ ho
   ·exact h
end Go.Proofs.YtlfopoimbbpfdaaGreat
namespace Go.Proofs.YtlfopoimbbpfdaaGreat
open Go.RowKit
theorem G8 (u0 d0 u1 d1:Int):bH (fE u0 d0 u1 d1) kA=0∧bH (fE u0 d0 u1 d1) kB=1∧ ∀key,key≠kA→key≠kB→bH (fE u0 d0 u1 d1) key= -1:=by
 have hab:kA≠kB:=by decide
 refine⟨by simp[bH,dS,fE],by simp[bH,dS,fE,hab],fun key h1 h2=>fA (fun c hc=>?_)⟩
 simp only[fE,List.mem_cons,List.not_mem_nil,or_false]at hc
 rcases hc with rfl | rfl
 ·simpa using fun h=>h1 h.symm
 ·simpa using fun h=>h2 h.symm
theorem XG (rows:List (List Rg)):∀acc:List Rg,(∀l∈rows,Small l)→Small acc→(∀l∈rows,SN acc l)→rows.Pairwise SN→pR acc rows=true:=by
 induction rows with
 | nil=>intro acc _ _ _ _;rfl
 | cons l t ih=>
  intro acc hs ha hd hp
  obtain⟨p1,p2⟩:=List.pairwise_cons.1 hp
  rw[pR,if_neg,ih (acc++l) (fun x hx=>hs x (List.mem_cons_of_mem _ hx)) (fun r hr=>by
   rcases List.mem_append.1 hr with hr | hr
   ·exact ha r hr
   ·exact hs l List.mem_cons_self r hr) (fun x hx n hn hm=>by
   rcases(uJ acc l n).1 hn with hn | hn
   ·exact hd x (List.mem_cons_of_mem _ hx) n hn hm
   ·exact p1 x hx n hn hm) p2]
  rw[Bool.not_eq_true,List.any_eq_false]
  intro r hr hh
  unfold hits at hh
  rw[List.any_eq_true]at hh
  obtain⟨x,hx,h1⟩:=hh
  simp only[Bool.and_eq_true,decide_eq_true_eq]at h1
  have h2:=hs l List.mem_cons_self r hr
  have h3:=ha x hx
  refine hd l List.mem_cons_self (max x.1 r.1) ⟨x,hx,by omega,by omega⟩ ⟨r,hr,by omega,by omega⟩
theorem Inv.scs {b:Bk} (h:Inv b) {l:Ls} (hl:sW l):QJ b.cs l.sl=true:=by
 obtain⟨u0,d0,u1,d1,hc,_⟩:=h.cs
 obtain⟨c1,c2,_⟩:=G8 u0 d0 u1 d1
 refine decide_eq_true (fun j hj=>?_)
 have hs:=hl.sc l.sl[j] (List.getElem_mem hj)
 have hk:=hl.key l.sl[j] (List.getElem_mem hj)
 have h1:dS (fun c:Sc=>decide (c.key=l.sl[j].key)) l.sl=j:=ji j hj (fun i hi=>by
  have:=(List.pairwise_iff_getElem.1 hl.one) i j (by omega) hj hi
  simpa using this) (by simp)
 have h2:0≤bH b.cs l.sl[j].key:=by
  rw[hc]
  rcases hk with hk | hk
  ·rw[hk,c1];decide
  ·rw[hk,c2];decide
 unfold EI
 simp only[Bool.and_eq_true,decide_eq_true_eq]
 exact⟨h1,h2,by omega,by omega,by omega,by omega⟩
theorem Inv.snd {b:Bk} (h:Inv b):Bf b=true:=by
 have e1:decide (oO (xL b.cs b.ls) b.ls)=true:=decide_eq_true (fun i hi=>by
  have hl:=h.ls b.ls[i] (List.getElem_mem hi)
  have hp:nQ b.ls i<b.ls[i].dev:=by
   cases i with
   | zero=>have:=hl.dev;show(-1:Int)<_;omega
   | succ i=>
    have hi':i<b.ls.length:=by omega
    have:=(List.pairwise_iff_getElem.1 h.zF) i (i+1) hi' hi (by omega)
    show((b.ls[i]?).map Ls.dev).getD 0<_
    rw[List.getElem?_eq_getElem hi']
    exact this
  have ha:Hw b.ls[i].used b.ls[i].ids=true:=by
   unfold Hw
   rw[Bool.not_eq_true',List.any_eq_false]
   intro n hn
   have:=(jJ b.ls[i].ids n).2 (hl.sub n hn)
   simp[this]
  unfold xL
  simp only[Bool.and_eq_true,decide_eq_true_eq]
  exact⟨hp,hl.dev.2,h.scs hl,hl.row,hl.rise,ha⟩)
 obtain⟨u0,d0,u1,d1,hc,h1,h2,h3,h4,h5⟩:=h.cs
 have n1:=fP kA h.ls
 have n2:=fP kB h.ls
 obtain⟨c1,c2,_⟩:=G8 u0 d0 u1 d1
 have e2:Km b.cs=true:=by
  rw[hc]
  unfold Km
  have hm1:mE ⟨kA,0,0,20,10,u0,d0⟩=true:=by
   show mE ⟨kA,0,0,20,10,0,0⟩=true
   decide +kernel
  have hm2:mE ⟨kB,1,-30,30,0,u1,d1⟩=true:=by
   show mE ⟨kB,1,-30,30,0,0,0⟩=true
   decide +kernel
  rw[Bool.and_eq_true]
  refine⟨decide_eq_true (fun i hi=>?_),by simp[fE]⟩
  have hi2:i=0∨i=1:=by simp[fE]at hi;omega
  rcases hi2 with rfl | rfl
  ·show yL (fE u0 d0 u1 d1) 0 ⟨kA,0,0,20,10,u0,d0⟩=true
   unfold yL
   rw[hm1]
   simp only[Bool.true_and,Bool.and_eq_true,decide_eq_true_eq]
   exact⟨c1,by omega,by omega,by omega,by omega⟩
  ·show yL (fE u0 d0 u1 d1) 1 ⟨kB,1,-30,30,0,u1,d1⟩=true
   unfold yL
   rw[hm2]
   simp only[Bool.true_and,Bool.and_eq_true,decide_eq_true_eq]
   exact⟨c2,by omega,by omega,by omega,by omega⟩
 have e3:Gg b.cs b.ls=true:=by
  rw[hc]
  refine decide_eq_true (fun i hi=>?_)
  have hi2:i=0∨i=1:=by simp[fE]at hi;omega
  rcases hi2 with rfl | rfl
  ·show jX b.ls ⟨kA,0,0,20,10,u0,d0⟩=true
   unfold jX
   simp only[Bool.and_eq_true,decide_eq_true_eq]
   omega
  ·show jX b.ls ⟨kB,1,-30,30,0,u1,d1⟩=true
   unfold jX
   simp only[Bool.and_eq_true,decide_eq_true_eq]
   omega
 have hrs:∀l∈rowsOf b,cZ l:=fun l hl=>by
  unfold rowsOf at hl
  rcases List.mem_cons.1 hl with rfl | hl
  ·exact h.fr
  ·obtain⟨x,hx,rfl⟩:=List.mem_map.1 hl
   exact(h.ls x hx).row
 have e6:pR [] (rowsOf b)=true:=by
  refine XG _ [] (fun l hl=>(hrs l hl).1) (fun r hr=>absurd hr (by simp)) (fun l _ n hn=>absurd hn (rC n)) ?_
  unfold rowsOf
  refine List.pairwise_cons.2 ⟨fun l hl=>?_,List.pairwise_map.2 h.ii⟩
  obtain⟨x,hx,rfl⟩:=List.mem_map.1 hl
  exact h.fi x hx
 have e7:b.bound.any (o8 (rowsOf b))=false:=by
  rw[List.any_eq_false]
  intro n hn hh
  unfold o8 at hh
  rw[List.any_eq_true]at hh
  obtain⟨l,hl,hh⟩:=hh
  have hm:eH l n:=by
   unfold Hw at hh
   simp only[List.any_cons,List.any_nil,Bool.or_false,Bool.not_not]at hh
   exact(jJ l n).1 hh
  unfold rowsOf at hl
  rcases List.mem_cons.1 hl with rfl | hl
  ·exact h.bf n hn hm
  ·obtain⟨x,hx,rfl⟩:=List.mem_map.1 hl
   exact h.bi n hn x hx hm
 unfold Bf
 rw[e1,e2,e3,decide_eq_true h.fr,decide_eq_true (show lF b.bound from h.bd),e6,e7]
 rfl
theorem yw {L:List Ls} (h:∀l∈L,sW l):(((L.map Ls.ids).flatten.length:Nat):Int)≤iU L:=by
 induction L with
 | nil=>simp[iU]
 | cons l L ih=>
  have h1:=(pG (h l List.mem_cons_self).row (h l List.mem_cons_self).top).2
  have h2:=ih (fun x hx=>h x (List.mem_cons_of_mem _ hx))
  rw[iL,List.map_cons,List.flatten_cons,List.length_append]
  omega
theorem Inv.XH {b:Bk} (h:Inv b):N8 b:=by
 obtain⟨n1,n2,n3,n4⟩:=h.lens
 have h1:=yw h.ls
 have h2:=(pG h.fr h.top).2
 have h3:=h.tot
 refine⟨by omega,?_,fun c hc=>?_,fun l hl s hs=>?_⟩
 ·unfold rowsOf
  rw[List.flatten_cons,List.length_append]
  omega
 ·obtain⟨u0,d0,u1,d1,hcs,_⟩:=h.cs
  rw[hcs]at hc
  simp only[fE,List.mem_cons,List.not_mem_nil,or_false]at hc
  rcases hc with rfl | rfl
  ·show(⟨#[97]⟩:ByteArray).size≤maxLen;decide
  ·show(⟨#[98]⟩:ByteArray).size≤maxLen;decide
 ·have:=(h.ls l hl).sc s hs
  omega
theorem MP {l:List Sc} (h:∀s∈l,s.key=kA∨s.key=kB) {key:ByteArray} (h1:key≠kA) (h2:key≠kB):bS key l=0∧leftD key l=0:=by
 induction l with
 | nil=>exact⟨rfl,rfl⟩
 | cons s l ih=>
  obtain⟨i1,i2⟩:=ih (fun t ht=>h t (List.mem_cons_of_mem _ ht))
  have hk:=h s List.mem_cons_self
  have hne:s.key≠key:=fun e=>by rcases hk with hk | hk;exact h1 (e.symm.trans hk);exact h2 (e.symm.trans hk)
  simp only[bS,leftD,if_neg hne,i1,i2]
  exact⟨rfl,rfl⟩
theorem FP {ls:List Ls} (h:∀l∈ls,sW l) {key:ByteArray} (h1:key≠kA) (h2:key≠kB):bA key ls=0∧bB key ls=0:=by
 induction ls with
 | nil=>exact⟨rfl,rfl⟩
 | cons l ls ih=>
  obtain⟨i1,i2⟩:=ih (fun t ht=>h t (List.mem_cons_of_mem _ ht))
  obtain⟨j1,j2⟩:=MP (h l List.mem_cons_self).key h1 h2
  simp only[bA,bB,i1,i2,j1,j2]
  exact⟨rfl,rfl⟩
theorem Inv.XI {b:Bk} (h:Inv b) (key:ByteArray):Mt b key:=by
 obtain⟨u0,d0,u1,d1,hcs,h1,h2,h3,h4,h5⟩:=h.cs
 have hle:bA key b.ls≤30∧bB key b.ls≤30:=by
  by_cases ka:key=kA
  ·subst ka;omega
  ·by_cases kb:key=kB
   ·subst kb;omega
   ·obtain⟨e1,e2⟩:=FP h.ls ka kb
    omega
 have n1:=fP kA h.ls
 have n2:=fP kB h.ls
 refine⟨fun x hx s hs=>?_,by omega,by omega,fun c hc=>?_⟩
 ·have:=(h.ls x hx).sc s hs
  omega
 ·rw[hcs]at hc
  simp only[fE,List.mem_cons,List.not_mem_nil,or_false]at hc
  rcases hc with rfl | rfl<;>simp only<;>omega
theorem Inv.abX {b:Bk} (h:Inv b):∃t0 t1 t2 t3 t4 t5:Int,oh b kA= [t0,t1,t2,t3,t4,t5]∧t0+t1+t2=10∧t3+t4+t5=10∧(0≤t0∧0≤t1∧0≤t2)∧0≤t3∧0≤t4∧0≤t5:=by
 obtain⟨u0,d0,u1,d1,hcs,h1,h2,h3,h4,h5⟩:=h.cs
 have n1:=fP kA h.ls
 obtain⟨c1,_,_⟩:=G8 u0 d0 u1 d1
 unfold oh
 rw[hcs,c1,if_neg (by decide)]
 exact⟨_,_,_,_,_,_,rfl,by simp[fE];omega,by simp[fE];omega,⟨by simp[fE];omega,by omega,by simp[fE];omega⟩,by simp[fE];omega,by omega,by simp[fE];omega⟩
theorem Inv.abY {b:Bk} (h:Inv b):∃t0 t1 t2 t3 t4 t5:Int,oh b kB= [t0,t1,t2,t3,t4,t5]∧t0+t1+t2=30∧t3+t4+t5=30∧(0≤t0∧0≤t1∧0≤t2)∧0≤t3∧0≤t4∧0≤t5:=by
 obtain⟨u0,d0,u1,d1,hcs,h1,h2,h3,h4,h5⟩:=h.cs
 have n1:=fP kB h.ls
 obtain⟨_,c1,_⟩:=G8 u0 d0 u1 d1
 unfold oh
 rw[hcs,c1,if_neg (by decide)]
 exact⟨_,_,_,_,_,_,rfl,by simp[fE];omega,by simp[fE];omega,⟨by simp[fE];omega,by omega,by simp[fE];omega⟩,by simp[fE];omega,by omega,by simp[fE];omega⟩
end Go.Proofs.YtlfopoimbbpfdaaGreat
