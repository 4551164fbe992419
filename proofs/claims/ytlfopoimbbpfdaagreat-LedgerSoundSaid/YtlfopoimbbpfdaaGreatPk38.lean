/- What the law asks, in parts: Cd Ce Fh HeldE Fi Fj. -/
import Derived.StillTailTactics
import Derived.Deep.DrawnRows
import Derived.Test.YtlfopoimbbpfdaaGreatPk37
import Derived.Test.YtlfopoimbbpfdaaGreatPk33
import Derived.Test.YtlfopoimbbpfdaaGreatPk25
import Derived.Test.YtlfopoimbbpfdaaGreatPk21
import Derived.Test.YtlfopoimbbpfdaaGreatPk18
set_option linter.all false
set_option maxRecDepth 100000
set_option maxHeartbeats 16000000
namespace Go.Proofs.YtlfopoimbbpfdaaGreat
open Go.RowKit
theorem BD (l:List Int) (n m:Int):m∈rise l n↔m∈l∨m=n:=by
 unfold rise;rw[List.mem_append,List.mem_cons]
 have h:m∈l↔m∈l.take (l.countP (· <n))∨m∈l.drop (l.countP (· <n)):=by
  rw[←List.mem_append,List.take_append_drop]
 rw[h];constructor
 ·rintro(h | rfl | h)
  ·exact .inl (.inl h)
  ·exact .inr rfl
  ·exact .inl (.inr h)
 ·rintro((h | h) | rfl)
  ·exact .inl h
  ·exact .inr (.inr h)
  ·exact .inr (.inl rfl)
theorem D9 {l:List Int} (h:l.Pairwise (· < ·)) {n:Int} (hn:n∉l):(rise l n).Pairwise (· < ·):=by
 rw[←Fw h];unfold iy
 induction l with
 | nil=>simp
 | cons x l ih=>
  obtain⟨h1,h2⟩:=List.pairwise_cons.1 h;have uw:n∉l:=fun hm=>hn (List.mem_cons_of_mem _ hm)
  have hnx:n≠x:=fun e=>hn (by rw[e];exact List.mem_cons_self)
  by_cases hx:x<n
  ·rw[List.takeWhile_cons_of_pos (by simpa using hx),List.dropWhile_cons_of_pos (by simpa using hx),List.cons_append,List.pairwise_cons]
   refine⟨fun y hy=>?_,ih h2 uw⟩;rw[List.mem_append,List.mem_cons]at hy;rcases hy with hy | rfl | hy
   ·exact h1 y (List.takeWhile_sublist _ |>.subset hy)
   ·exact hx
   ·exact h1 y (List.dropWhile_sublist _ |>.subset hy)
  ·rw[List.takeWhile_cons_of_neg (by simpa using hx),List.dropWhile_cons_of_neg (by simpa using hx),List.nil_append,List.pairwise_cons]
   refine⟨fun y hy=>?_,h⟩;rcases List.mem_cons.1 hy with rfl | hy
   ·omega
   ·have:=h1 y hy;omega
theorem BF (us:List Int):∀bd:List Int,bd.Pairwise (· < ·)→us.Pairwise (· < ·)→(∀u∈us,u∉bd)→
  us.foldl iy bd=us.foldl gV bd∧(us.foldl gV bd).Pairwise (· < ·)∧(∀m,m∈us.foldl gV bd↔m∈bd∨m∈us)∧(us.foldl gV bd).length=bd.length+us.length:=by
 induction us with
 | nil=>intro bd hb _ _;exact⟨rfl,hb,fun m=>by simp,by simp⟩
 | cons u us ih=>
  intro bd hb hu hd;obtain⟨h1,h2⟩:=List.pairwise_cons.1 hu;have B_:u∉bd:=hd u List.mem_cons_self
  have e:gV bd u=rise bd u:=by
   unfold gV;rw[if_neg];simpa using B_
  rw[List.foldl_cons,List.foldl_cons,e,Fw hb]
  obtain⟨i1,i2,i3,i4⟩:=ih (rise bd u) (D9 hb B_) h2 (fun v hv hm=>by
   rcases(BD bd u v).1 hm with hm | rfl
   ·exact hd v (List.mem_cons_of_mem _ hv) hm
   ·have:=h1 v hv;omega)
  refine⟨i1,i2,fun m=>?_,?_⟩
  ·rw[i3 m,BD,List.mem_cons]
   constructor
   ·rintro((h | h) | h)
    ·exact .inl h
    ·exact .inr (.inl h)
    ·exact .inr (.inr h)
   ·rintro(h | h | h)
    ·exact .inl (.inl h)
    ·exact .inl (.inr h)
    ·exact .inr h
  ·rw[i4]
   have:(rise bd u).length=bd.length+1:=by
    unfold rise;have h0:bd.countP (fun x=>decide (x<u))≤bd.length:=List.countP_le_length;rw[List.length_append,List.length_cons,List.length_take,List.length_drop];omega
   rw[this,List.length_cons];omega
theorem free_eq {b:Bk} (h:Inv b) (d ep:Int):rF b d ep=pK b d ep:=by
 unfold rF pK;rw[find_eq h.C_];rcases Q_ h.C_ d ep with⟨k,hk,h1,h2,h3,h4⟩ | ⟨h1,h2⟩
 ·have hg:b.ls.getD k oD=b.ls[k]:=by simp[List.getD,List.getElem?_eq_getElem hk]
  have hf:jV b d ep=(b.ls[k],true):=by
   unfold jV;rw[h2,if_pos (by omega)];simp only[Int.toNat_natCast,hg]
  rw[hf,h1,h2,if_neg (by simp),if_neg (by omega)];simp only[Int.toNat_natCast,hg];unfold PL;have hl:=h.ls b.ls[k] (List.getElem_mem hk);rw[(BF b.ls[k].used b.bound h.bd hl.rise (fun u hu hm=>h.bi u hm _ (List.getElem_mem hk) (hl.sub u hu))).1]
 ·have hf:jV b d ep=(oD,false):=by
   unfold jV;rw[h1,if_neg (by decide)]
  rw[hf,if_pos rfl,h1,if_pos (by decide)]
theorem Rf {M:Int} {l:List Rg} (hl:dw l) (m:Int) (hm:m≤M) (h:∀r∈l,m≤r.1∧r.2≤M):dG l≤M-m∧(l.length:Int)≤dG l:=by
 induction l generalizing m with
 | nil=>simp[dG];omega
 | cons r l ih=>
  obtain⟨a1,a2,a3⟩:=(dR r l).1 hl;have h1:=h r (by simp);have h2:=ih a3 r.2 h1.2 (fun x hx=>⟨by have:=a2 x hx;omega,(h x (by simp[hx])).2⟩);simp only[dG,List.length_cons];omega
theorem BG (l:List Int):∀a M:Int,l.Pairwise (· < ·)→(∀n∈l,a≤n∧n<M)→a≤M→(l.length:Int)≤M-a:=by
 induction l with
 | nil=>intro a M _ _ h;simp;omega
 | cons x l ih=>
  intro a M h hm ha;obtain⟨h1,h2⟩:=List.pairwise_cons.1 h;have hx:=hm x List.mem_cons_self;have:=ih (x+1) M h2 (fun n hn=>⟨by have:=h1 n hn;omega,(hm n (List.mem_cons_of_mem _ hn)).2⟩) (by omega);rw[List.length_cons];omega
theorem Ag {l:List Rg} (h:dw l) (ht:∀r∈l,r.2≤40):dG l≤40∧(l.length:Int)≤dG l:=by
 have:=Rf (M:=40) h 0 (by omega) (fun r hr=>⟨(h.1 r hr).1,ht r hr⟩);omega
theorem Mi {l:List Rg} (h:dw l) (ht:∀r∈l,r.2≤40) {n:Int} (hn:fQ l n):0≤n∧n<40:=by
 obtain⟨r,hr,h1,h2⟩:=hn;have:=h.1 r hr;have:=ht r hr;omega
theorem yH.lens {l:Ls} (h:yH l):l.sl.length≤2∧l.ids.length≤40∧dG l.ids≤40∧l.used.length≤40:=by
 have hr:=Ag h.row h.top;have hu:=BG l.used 0 40 h.rise (fun n hn=>Mi h.row h.top (h.sub n hn)) (by omega);refine⟨?_,by omega,hr.1,by omega⟩;have hk:=h.key;have ho:=h.one
 match hl:l.sl with
 | []=>simp
 | [_]=>simp
 | [_,_]=>simp
 | x::y::z::t=>
  exfalso;rw[hl]at hk ho;have kx:=hk x (by simp);have ky:=hk y (by simp);have kz:=hk z (by simp);simp only[List.pairwise_cons,List.mem_cons]at ho;have xy:=ho.1 y (.inl rfl);have xz:=ho.1 z (.inr (.inl rfl));have yz:=ho.2.1 z (.inl rfl);rcases kx with kx | kx<;>rcases ky with ky | ky<;>rcases kz with kz | kz<;>simp_all
theorem Rh (ls:List Ls):∀a:Int,ls.Pairwise (fun l m=>l.dev<m.dev)→(∀l∈ls,a≤l.dev∧l.dev<6)→a≤6→(ls.length:Int)≤6-a:=by
 induction ls with
 | nil=>intro a _ _ h;simp;omega
 | cons x l ih=>
  intro a h hm ha;obtain⟨h1,h2⟩:=List.pairwise_cons.1 h;have hx:=hm x List.mem_cons_self;have:=ih (x.dev+1) h2 (fun n hn=>⟨by have:=h1 n hn;omega,(hm n (List.mem_cons_of_mem _ hn)).2⟩) (by omega);rw[List.length_cons];omega
theorem Inv.lens {b:Bk} (h:Inv b):b.cs.length=2∧b.free.length≤40∧b.ls.length≤6∧b.bound.length≤40:=by
 obtain⟨u0,d0,u1,d1,hc,_⟩:=h.cs;have hr:=Ag h.fr h.top;have hb:=BG b.bound 0 40 h.bd h.br (by omega);have hl:=Rh b.ls 0 h.C_ (fun l hl=>(h.ls l hl).dev) (by omega);refine⟨by rw[hc];rfl,by omega,by omega,by omega⟩
theorem BH {l:List Sc} (key:ByteArray) (h:∀s∈l,s.uu≤s.up∧s.ud≤s.down):0≤dh key l∧0≤leftD key l:=by
 induction l with
 | nil=>exact⟨by simp[dh],by simp[leftD]⟩
 | cons s l ih=>
  have h1:=h s List.mem_cons_self;have h2:=ih (fun t ht=>h t (List.mem_cons_of_mem _ ht));simp only[dh,leftD];constructor<;>split<;>omega
theorem mJ {ls:List Ls} (key:ByteArray) (h:∀l∈ls,yH l):0≤bG key ls∧0≤bH key ls:=by
 induction ls with
 | nil=>exact⟨by simp[bG],by simp[bH]⟩
 | cons l ls ih=>
  have h1:=BH key (l:=l.sl) (fun s hs=>by have:=(h l List.mem_cons_self).sc s hs;omega);have h2:=ih (fun m hm=>h m (List.mem_cons_of_mem _ hm));simp only[bG,bH];omega
def r_ (m:Nat) (n:Int) (cs:List Ct) (k:Nat):List Ct:=match m with
 | 0=>cs.set k ⟨(cs.getD k l8).key,(cs.getD k l8).coll,(cs.getD k l8).lo,(cs.getD k l8).hi,(cs.getD k l8).start,n,(cs.getD k l8).down⟩
 | 1=>cs.set k ⟨(cs.getD k l8).key,(cs.getD k l8).coll,(cs.getD k l8).lo,(cs.getD k l8).hi,(cs.getD k l8).start,(cs.getD k l8).up,n⟩
 | 2=>cs.set k ⟨(cs.getD k l8).key,(cs.getD k l8).coll,(cs.getD k l8).lo,n,(cs.getD k l8).start,(cs.getD k l8).up,(cs.getD k l8).down⟩
 | 3=>cs.set k ⟨(cs.getD (1-k) l8).key,(cs.getD k l8).coll,(cs.getD k l8).lo,(cs.getD k l8).hi,(cs.getD k l8).start,(cs.getD k l8).up,(cs.getD k l8).down⟩
 | _=>cs
def D_ (m:Nat) (n at_:Int) (fr:List Rg):List Rg:=match m with
 | 5=>(n,at_)::fr
 | _=>fr
def Mj (m:Nat) (n:Int) (bd:List Int):List Int:=match m with
 | 4=>n::bd
 | _=>bd
def jQ (m:Nat) (n:Int) (l:Ls):Ls:=match m with
 | 6=>⟨n,l.epoch,l.bU,l.last,l.sl,l.ids,l.used⟩
 | 7=>⟨l.dev,l.epoch,l.bU,l.last,l.sl,(n,IntKind.i64.wrap (n+1))::l.ids,l.used⟩
 | 8=>⟨l.dev,l.epoch,l.bU,l.last,l.sl,l.ids,n::l.used⟩
 | _=>l
def jE (m:Nat) (n:Int) (l:Ls):Ls:=match m with
 | 9=>⟨l.dev,l.epoch,l.bU,l.last,l.sl.set 0 ⟨(l.sl.getD 0 DN).key,(l.sl.getD 0 DN).up,(l.sl.getD 0 DN).down,n,(l.sl.getD 0 DN).ud⟩,l.ids,l.used⟩
 | 10=>⟨l.dev,l.epoch,l.bU,l.last,l.sl.set 0 ⟨(l.sl.getD 0 DN).key,n,(l.sl.getD 0 DN).down,(l.sl.getD 0 DN).uu,(l.sl.getD 0 DN).ud⟩,l.ids,l.used⟩
 | 11=>⟨l.dev,l.epoch,l.bU,l.last,l.sl++l.sl.take 1,l.ids,l.used⟩
 | _=>l
def lY (b:Bk) (m0 at_ n:Int):Bk:=
 ⟨r_ (m0%12).toNat n b.cs (at_%2).toNat,D_ (m0%12).toNat n at_ b.free,
  b.ls.set (at_%b.ls.length).toNat (jE (m0%12).toNat n (jQ (m0%12).toNat n (b.ls.getD (at_%b.ls.length).toNat oD))),Mj (m0%12).toNat n b.bound⟩
structure TuB (b:Bk):Prop where
 cs:b.cs.length=2
 ls:b.ls.length<1000
 fr:b.free.length<1000
 bd:b.bound.length<1000
 each:∀l∈b.ls,l.sl.length<1000∧l.ids.length<1000∧l.used.length<1000
def chainB (md:Region.Mode) (ops:Array Oper):Nat→List Nat→Bool
 | _,[]=>true
 | i,k::ks=>(match ops[k]? with | some o=>o.after.any (fun e=>Region.binds md e&&e.on==i) | none=>false)&&chainB md ops k ks
section
variable {P:Program} {ops:Array Oper} {Q:Exit→Act→World→Prop} {md:Region.Mode} {S T:World→Prop} {s t:Nat}
theorem Ri {l:Array Bool} {i:Nat} (h:l.getD i true=false):l.getD i false≠true:=by
 intro h2;rcases Nat.lt_or_ge i l.size with bA | gX
 ·simp[bA]at h h2;rw[h]at h2;cases h2
 ·simp[Array.getElem?_eq_none gX]at h
theorem Oe {l:Array Bool} {i:Nat} (h:i∈Region.ready md ops l):l.getD i false≠true:=by
 have nJ:=(mem_ready.1 h).1;intro h2;rcases Nat.lt_or_ge i l.size with bA | gX
 ·simp[bA]at nJ h2;rw[nJ]at h2;cases h2
 ·simp[Array.getElem?_eq_none gX]at h2
theorem BI {j:Nat} {l:Array Bool} (hj:j∈Region.ready md ops l):∀ (ks:List Nat) (i:Nat),chainB md ops i ks=true→l.getD i false≠true→(∀k∈ks,l.getD k true=false)→ ∀k∈ks,(l.setIfInBounds j true).getD k true=false
 | [],_,_,_,_=>fun k hk=>by cases hk
 | k::ks,i,hc,hi,hN=>by
  have nH:=hN k List.mem_cons_self;obtain⟨_,oj,nX,gY⟩:=mem_ready.1 hj;unfold chainB at hc;rw[Bool.and_eq_true]at hc
  have Df:j≠k:=by
   rintro rfl;have h1:=hc.1;rw[nX]at h1;simp only[Array.any_eq_true']at h1;obtain⟨e,he,hh⟩:=h1;rw[Bool.and_eq_true]at hh;have Cn:e.on=i:=by simpa using hh.2
   exact hi (Cn▸gY e he hh.1)
  intro m hm;rcases List.mem_cons.1 hm with rfl | hm
  ·rw[getD_set_ne true Df];exact nH
  ·exact BI hj ks k hc.2 (Ri nH) (fun x hx=>hN x (List.mem_cons_of_mem _ hx)) m hm
section
variable {i n:Nat} {oi:Oper} {v:Value} {l:Array Bool} {a:Act} {w:World}
theorem Ki {ks:List Nat} (hi:ops[i]? =some oi) (jT:Region.noSelect ops=true) (hf:Region.free md ops l i=true) (hr:(Region.ready md ops l).contains i=true)
  (hc:chainB md ops i ks=true) (hlast:ks.contains s=true) (hN:ks.all (fun k=>l.getD k true==false)=true) (h1:i≠s) (h2:i≠t)
  (hQ:∀c a w,Q (.panic c) (a.put oi.dst v) w→Q (.panic c) a w) (hy:YieldsIf P ops S oi v a) (hC:lU s S t T l w)
  (h:kP P md ops Q s S t T n (l.setIfInBounds i true) (a.put oi.dst v) w):kP P md ops Q s S t T (n+1) l a w:=
 oK (U:=S) (Y:=YieldsIf P ops S oi v) (N:=fun l=>∀k∈ks,l.getD k true=false) hi (fun hy hS h=>hy.wpOp hi hS h)
  (fun nX ou hy h=>wpOp_putIf nX ou (fun cs b=>Region.noSelect_spec jT i oi cs b hi) (fun cs b=>Region.noSelect_spec jT _ _ cs b nX) hQ hy h) h1 h2 (fun _ _ hN hc=>hc.1 (hN s (by simpa using hlast)))
  (fun l j hN hj hir _=>BI hj ks i hc (Oe hir) hN) n l a w (Region.free_spec hi hf) (by simpa using hr)
  (fun k hk=>by
   have:=List.all_eq_true.1 hN k hk
   simpa using this) hy hC h
theorem jC (hr:Region.ready md ops l= [i]) (hi:ops[i]? =some oi) (hg:Region.wanted oi (yielded ops a.tmps)=true)
  (h:Oper.wp P oi a w (fun a' w'=>lU s S t T (l.setIfInBounds i true) w'∧kP P md ops Q s S t T n (l.setIfInBounds i true) a' w') Q):kP P md ops Q s S t T (n+1) l a w:=by
 refine⟨fun h0=>(by rw[hr]at h0;cases h0),fun j hj=>?_⟩;rw[hr]at hj;have:j=i:=by simpa using hj
 subst this;unfold wpOp;simp only[hi];rw[if_pos hg];exact .inl h
end
end
theorem gK {P:Program} {ops:Array Oper} {Q:Exit→Act→World→Prop} {md:Region.Mode} {S:World→Prop} {s i n:Nat} {oi:Oper} {T:World→Prop} {t:Nat} {ks:List Nat} {v:Value} {l:Array Bool} {a:Act} {w:World} (hi:ops[i]? =some oi) (hb:(Region.noSelect ops&&(Region.free md ops l i&&((Region.ready md ops l).contains i&&(chainB md ops i ks&&(ks.contains s&&(ks.all (fun k=>l.getD k true==false)&&(decide (i≠s)&&decide (i≠t))))))))=true) (hQ:∀c a w,Q (.panic c) (a.put oi.dst v) w→Q (.panic c) a w) (hy:YieldsIf P ops S oi v a) (hC:lU s S t T l w) (h:kP P md ops Q s S t T n (l.setIfInBounds i true) (a.put oi.dst v) w):kP P md ops Q s S t T (n+1) l a w:=by
 simp only[Bool.and_eq_true,decide_eq_true_eq]at hb;exact Ki hi hb.1 hb.2.1 hb.2.2.1 hb.2.2.2.1 hb.2.2.2.2.1 hb.2.2.2.2.2.1 hb.2.2.2.2.2.2.1 hb.2.2.2.2.2.2.2 hQ hy hC h
section
attribute [local go_sem ↓] Go.wp_at_zero Go.wp_at_succ
section
variable {P:Program} {ops:Array Oper} {Q:Exit→Act→World→Prop} {md:Region.Mode} {S T:World→Prop} {s t i n:Nat} {oi:Oper} {l:Array Bool} {a:Act} {w:World}
theorem tZ (hr:Region.ready md ops l= [i]) (hi:ops[i]? =some oi) (hg:oi.guard=none) (hs:(l.setIfInBounds i true).getD s true=true) (ht:(l.setIfInBounds i true).getD t true=true)
  (h:Oper.wp P oi a w (fun a' w'=>kP P md ops Q s S t T n (l.setIfInBounds i true) a' w') Q):kP P md ops Q s S t T (n+1) l a w:=
 by
 refine bZ hr hi hg (Oper.wp_mono ?_ h);intro a' w' k;exact⟨⟨fun e=>(by rw[hs]at e;cases e),fun e=>(by rw[ht]at e;cases e)⟩,k⟩
end
theorem Rj {m:Nat} (h:m<12):m=0∨m=1∨m=2∨m=3∨m=4∨m=5∨m=6∨m=7∨m=8∨m=9∨m=10∨m=11:=by omega
def BJ (w:World) (b':Bk) (e:Ending) (w':World):Prop:=∃y:dN,e= .returned (iJ y)∧iA w' y b'∧Below w.heap.size w w'
theorem Kj (m:Nat) (hm:m<12) (n:Int) (l:Ls) (h:l.sl.length=0):jE m n l=l:=by
 have h0:=List.eq_nil_of_length_eq_zero h;obtain⟨a1,a2,a3,a4,a5,a6,a7⟩:=l;simp only at h0;subst h0;rcases Rj hm with rfl | rfl | rfl | rfl | rfl | rfl | rfl | rfl | rfl | rfl | rfl | rfl<;>rfl
theorem Kk (w W:World) (xs:List cB) (ls:List Ls) (i:Nat) (y:dN) (cs:List Ct) (fr:List Rg) (bd:List Int) (z:cB) (l:Ls) (h:Tz w W (w.heap.size+2) w.heap.size (w.heap.size+1) xs ls i y cs fr bd z l) {u0 u1 u2 u3 u5 u6 u7 u9 u10 u11 u12 u13 u14 u15 u16 u17 u18 u19 u20 u21 u22 u23 u24 u25 u26 u27 u28 u29 u30 u31 u32 u33 u34 u35 u36 u37 u38 u39 u40 u41 u42 u43 u44 u45 u46 u47 u48 u49 u50 u51 u52 u53 u54 u55 u56 u57 u58 u59 u60 u61 u62 u63 u64 u65 u66 u67 u68 u69 u70 u71 u72 u73 u74 u75 u76 u77 u78 u79 u80 u81 u82 u83 u84 u85 u86 u87 u88 u89 u90 u91 u92 u93 u94 u95 u96 u97 u98 u99 u100 u101 u102 u103 u104 u105 u106 u107 u108 u109 u110 u111 u112 u113 u114 u115 u116 u117 u118 u119 u120 u121 u122 u123 u124 u125 u126 u127 u128 u129 u130 u131 u132 u133 u134 u135 u136 u137 u138 u139 u140 u141 u142 u143 u144 u145 u146 u147 u148 u149 u150 u151 u152 u153 u154 u155 u156 u157 u158 u159 u160 u161 u162 u163 u164 u165 u166 u167 u168 u169 u170 u171 u172 u173 u174 u175 u176 u177 u178 u179 u180 u181:Value}:
  ∀c,Tryz.f14.body.bind (spine 10)=some c→Code.wp Tryz.prog c (bodyPost Tryz.prog Tryz.f14 (BJ w ⟨cs,fr,ls.set i l,bd⟩)) ⟨#[u0,u1,u2,u3,.pointer (some ⟨w.heap.size,0,none⟩),u5,u6,u7,.pointer (some ⟨w.heap.size+1,0,none⟩),u9,u10,u11,u12,u13,u14,u15,u16,u17,u18,u19,u20,u21,u22,u23,u24,u25,u26,u27,u28,u29,u30,u31,u32,u33,u34,u35,u36,u37,u38,u39,u40,u41,u42,u43,u44,u45,u46,u47,u48,u49,u50,u51,u52,u53,u54,u55,u56,u57,u58,u59,u60,u61,u62,u63,u64,u65,u66,u67,u68,u69,u70,u71,u72,u73,u74,u75,u76,u77,u78,u79,u80,u81,u82,u83,u84,u85,u86,u87,u88,u89,u90,u91,u92,u93,u94,u95,u96,u97,u98,u99,u100,u101,u102,u103,u104,u105,u106,u107,u108,u109,u110,u111,u112,u113,u114,u115,u116,u117,u118,u119,u120,u121,u122,u123,u124,u125,u126,u127,u128,u129,u130,u131,u132,u133,u134,u135,u136,u137,u138,u139,u140,u141,u142,u143,u144,u145,u146,u147,u148,u149,u150,u151,u152,u153,u154,u155,u156,u157,u158,u159,u160,u161,u162,u163,u164,u165,u166,u167,u168,u169,u170,u171,u172,u173,u174,u175,u176,u177,u178,u179,u180,u181],[]⟩ W:=by
 refine dP rfl ?_;obtain⟨⟨ga,gn,gc⟩,⟨ha,fu,hc⟩,⟨ia,eX,ic⟩,⟨ja,jn,jc⟩⟩:=y;have HT:=ah h;clear h;have yt:Hid (∀c,c≠w.heap.size+1→((((W.setCell ⟨w.heap.size+1,0,none⟩ (.slice ga gn gc)).setCell ⟨w.heap.size+1,1,none⟩ (.slice ha fu hc)).setCell ⟨w.heap.size+1,2,none⟩ (.slice ia eX ic)).setCell ⟨w.heap.size+1,3,none⟩ (.slice ja jn jc)).heap[c]? =W.heap[c]?):=ah (fun c hc=>bM W (w.heap.size+1) c (fun e=>hc e.symm) _ _ _ _ 0 1 2 3);have Oy:Hid (W.heap.size≤((((W.setCell ⟨w.heap.size+1,0,none⟩ (.slice ga gn gc)).setCell ⟨w.heap.size+1,1,none⟩ (.slice ha fu hc)).setCell ⟨w.heap.size+1,2,none⟩ (.slice ia eX ic)).setCell ⟨w.heap.size+1,3,none⟩ (.slice ja jn jc)).heap.size):=ah (by rw[jA];exact aC _);have HFM:=ah (HT.out.m.over yt.out Oy.out HT.out.kr (vO Oa));have R7:=ah (oW HT.out.bC (show w.heap.size≤w.heap.size+1 by omega) (.slice ga gn gc) (.slice ha fu hc) (.slice ia eX ic) (.slice ja jn jc));obtain⟨c0,c1,c2,c3,jJ⟩:=ay HT.out.kb;obtain⟨e0,e1,e2,e3,jJ⟩:=ay HT.out.kr;have f0:=aA HT.out.kr 0;have f1:=aA HT.out.kr 1;have f2:=aA HT.out.kr 2;have f3:=aA HT.out.kr 3;clear jJ yt Oy;simp only[Sv.v,Oa]at c0 c1 c2 c3 e0 e1 e2 e3;go_wp2;refine bodyPost_ret (v:=.agg #[.slice ga gn gc,.slice ha fu hc,.slice ia eX ic,.slice ja jn jc]) (by simp[results,Tryz.results14,go_sem, *]) rfl (show BJ _ _ _ _ from⟨⟨⟨ga,gn,gc⟩,⟨ha,fu,hc⟩,⟨ia,eX,ic⟩,⟨ja,jn,jc⟩⟩,rfl,?_,R7.out⟩);exact HFM.out
theorem Og (w W:World) (m0 n:Int) (m:Nat) (BK:m<12) (hmm:m0%12=m) (xs:List cB) (ls:List Ls) (i g:Nat) (sQ:i<xs.length) (Iu:xs.length<1000) (ga:Option Addr) (gn gc:Nat) (ha:Option Addr) (fu hc ic:Nat) (ja:Option Addr) (jn jc:Nat) (cs:List Ct) (fr:List Rg) (bd:List Int) (y1 y2 y3 y4:Int) (rQ:Option Addr) (qU:Nat) (y8:Option Addr) (y9 dz:Nat) (dA:Option Addr) (dJ cK:Nat) (l1:Ls) (Uf:l1.sl.length<1000) (h:Tz w W (w.heap.size+2) w.heap.size (w.heap.size+1) xs ls i ⟨⟨ga,gn,gc⟩,⟨ha,fu,hc⟩,⟨some ⟨g,0,none⟩,xs.length,ic⟩,⟨ja,jn,jc⟩⟩ cs fr bd ⟨y1,y2,y3,y4,⟨rQ,l1.sl.length,qU⟩,⟨y8,y9,dz⟩,⟨dA,dJ,cK⟩⟩ l1) (hso:W.ownsRow (w.heap.size+2) 88 5 (.slice rQ l1.sl.length qU) l1.sl.length (aJ jL l1.sl)) {u0 u2 u5 u6 u7 u9 u11 u12 u13 u14 u15 u16 u17 u18 u19 u20 u21 u22 u23 u24 u25 u26 u27 u28 u29 u30 u31 u32 u33 u34 u35 u36 u37 u38 u39 u40 u41 u42 u43 u44 u45 u46 u47 u48 u49 u50 u51 u52 u53 u54 u55 u56 u57 u58 u59 u60 u61 u62 u63 u64 u65 u66 u67 u68 u69 u70 u71 u72 u73 u74 u75 u76 u77 u78 u79 u80 u81 u82 u83 u84 u85 u86 u87 u88 u89 u90 u91 u92 u93 u94 u95 u96 u97 u98 u99 u100 u101 u102 u103 u104 u105 u106 u107 u108 u109 u110 u111 u112 u113 u114 u115 u116 u117 u118 u119 u120 u121 u122 u123 u124 u125 u126 u127 u128 u129 u130 u131 u132 u133 u134 u135 u136 u137 u138 u139 u140 u141 u142 u143 u144 u145 u146 u147 u148 u149 u150 u151 u152 u153 u154 u155 u156 u157 u158 u159 u160 u161 u162 u163 u164 u165 u166 u167 u168 u169 u170 u171 u172 u173 u174 u175 u176 u177 u178 u179 u180 u181:Value}:
  ∀c,Tryz.f14.body.bind (spine 9)=some c→Code.wp Tryz.prog c (bodyPost Tryz.prog Tryz.f14 (BJ w ⟨cs,fr,ls.set i (jE m n l1),bd⟩)) ⟨#[u0,.int .i64 m0,u2,.int .i64 n,.pointer (some ⟨w.heap.size,0,none⟩),u5,u6,u7,.pointer (some ⟨w.heap.size+1,0,none⟩),u9,.pointer (some ⟨g,i*7,none⟩),u11,u12,u13,u14,u15,u16,u17,u18,u19,u20,u21,u22,u23,u24,u25,u26,u27,u28,u29,u30,u31,u32,u33,u34,u35,u36,u37,u38,u39,u40,u41,u42,u43,u44,u45,u46,u47,u48,u49,u50,u51,u52,u53,u54,u55,u56,u57,u58,u59,u60,u61,u62,u63,u64,u65,u66,u67,u68,u69,u70,u71,u72,u73,u74,u75,u76,u77,u78,u79,u80,u81,u82,u83,u84,u85,u86,u87,u88,u89,u90,u91,u92,u93,u94,u95,u96,u97,u98,u99,u100,u101,u102,u103,u104,u105,u106,u107,u108,u109,u110,u111,u112,u113,u114,u115,u116,u117,u118,u119,u120,u121,u122,u123,u124,u125,u126,u127,u128,u129,u130,u131,u132,u133,u134,u135,u136,u137,u138,u139,u140,u141,u142,u143,u144,u145,u146,u147,u148,u149,u150,u151,u152,u153,u154,u155,u156,u157,u158,u159,u160,u161,u162,u163,u164,u165,u166,u167,u168,u169,u170,u171,u172,u173,u174,u175,u176,u177,u178,u179,u180,u181],[]⟩ W:=by
 refine dP rfl ?_;have HU:=ah h;have OB:=ah hso;have Ve:=ah hmm;obtain⟨g',cap5,yR,_,_,pq,_,_,Ay,_,iQ⟩:=h.cellL sQ;injection yR with rM Kl Km;injection rM with rM;injection rM with rM _ _;subst rM Km;have x4:=iQ 4 (.slice rQ l1.sl.length qU) (by omega) rfl;have z4:=pq (i*7+4);clear Kl iQ pq h hso hmm;go_upto_if 143 with fail
 go_cut[] (fun wx=>∃zz:cB,Tz w wx (w.heap.size+2) w.heap.size (w.heap.size+1) xs ls i ⟨⟨ga,gn,gc⟩,⟨ha,fu,hc⟩,⟨some ⟨g,0,none⟩,xs.length,ic⟩,⟨ja,jn,jc⟩⟩ cs fr bd zz (jE m n l1))
 case rest=>
  obtain⟨zz,ht⟩:=hcut;go_step;exact Kk w _ xs ls i ⟨⟨ga,gn,gc⟩,⟨ha,fu,hc⟩,⟨some ⟨g,0,none⟩,xs.length,ic⟩,⟨ja,jn,jc⟩⟩ cs fr bd zz _ ht _ rfl
 case first=>
 by_cases hs0:l1.sl.length=0
 ·have hs1:¬ (0:Int)<(l1.sl.length:Int):=by omega
  have HE:=ah (Kj m BK n l1 hs0);clear hs0;go_wp2;go_meet;exact⟨_,by rw[HE.out];exact HU.out⟩
 have hs1:(0:Int)<(l1.sl.length:Int):=by omega
 have hsp:0<l1.sl.length:=by omega
 obtain⟨gs,cps,LB⟩:=fT OB.out hsp;injection LB with afJ afK afL;subst afJ afL;clear afK;obtain⟨s1,s2,s3,s4,s5,Rk,hs7⟩:=bg OB.out;have Da:∀j u,j<5→(jL l1.sl[0])[j]? =some u→W.cell? ⟨gs,j,none⟩=some u:=fun j u hj hu=>hs7 j u (by have h9:=bV gQ l1.sl 0 hsp j hj;rw[Nat.zero_mul,Nat.zero_add]at h9;rw[h9];exact hu)
 have dX:(⟨y1,y2,y3,y4,⟨some ⟨gs,0,none⟩,l1.sl.length,qU⟩,⟨y8,y9,dz⟩,⟨dA,dJ,cK⟩⟩:cB).s=⟨some ⟨gs,0,none⟩,l1.sl.length,qU⟩:=rfl;have HTL:∀ {wx:World} {zz:cB} (l2:Ls) {l3:Ls},l3=l2→Tz w wx (w.heap.size+2) w.heap.size (w.heap.size+1) xs ls i ⟨⟨ga,gn,gc⟩,⟨ha,fu,hc⟩,⟨some ⟨g,0,none⟩,xs.length,ic⟩,⟨ja,jn,jc⟩⟩ cs fr bd zz l3→Tz w wx (w.heap.size+2) w.heap.size (w.heap.size+1) xs ls i ⟨⟨ga,gn,gc⟩,⟨ha,fu,hc⟩,⟨some ⟨g,0,none⟩,xs.length,ic⟩,⟨ja,jn,jc⟩⟩ cs fr bd zz l2:=fun l2 _ e hh=>e▸hh
 clear hs7 hs0;go_wp2_with fail
 refine(Bf m0 12 _ (by omega) (by omega)).mono ?_;rw[Ve.out];rintro e w7 ⟨rfl,rfl⟩;rcases Rj BK with rfl | rfl | rfl | rfl | rfl | rfl | rfl | rfl | rfl | rfl | rfl | rfl
 ·go_wp2
  go_meet;exact⟨_,HU.out⟩
 ·go_wp2
  go_meet;exact⟨_,HU.out⟩
 ·go_wp2
  go_meet;exact⟨_,HU.out⟩
 ·go_wp2
  go_meet;exact⟨_,HU.out⟩
 ·go_wp2
  go_meet;exact⟨_,HU.out⟩
 ·go_wp2
  go_meet;exact⟨_,HU.out⟩
 ·go_wp2
  go_meet;exact⟨_,HU.out⟩
 ·go_wp2
  go_meet;exact⟨_,HU.out⟩
 ·go_wp2
  go_meet;exact⟨_,HU.out⟩
 ·have x0:=Da 3 (.int .i64 l1.sl[0].uu) (by omega) rfl
  have z0:=Rk 3;have T:=HU.out.GV (g:=gs) rfl OB.out 0 hsp 3 (by omega) (.int .i64 n) ⟨l1.sl[0].key,l1.sl[0].up,l1.sl[0].down,n,l1.sl[0].ud⟩ rfl;have IL:=ah T;clear T Da Rk;go_wp2;go_meet;refine⟨_,HTL _ ?_ IL.out⟩;simp[jE,List.getD,List.getElem?_eq_getElem hsp]
 ·have x0:=Da 1 (.int .i64 l1.sl[0].up) (by omega) rfl
  have z0:=Rk 1;have T:=HU.out.GV (g:=gs) rfl OB.out 0 hsp 1 (by omega) (.int .i64 n) ⟨l1.sl[0].key,n,l1.sl[0].down,l1.sl[0].uu,l1.sl[0].ud⟩ rfl;have IL:=ah T;clear T Da Rk;go_wp2;go_meet;refine⟨_,HTL _ ?_ IL.out⟩;simp[jE,List.getD,List.getElem?_eq_getElem hsp]
 ·have x0:=Da 0 (.string l1.sl[0].key) (by omega) rfl
  have x1:=Da 1 (.int .i64 l1.sl[0].up) (by omega) rfl;have x2:=Da 2 (.int .i64 l1.sl[0].down) (by omega) rfl;have x3:=Da 3 (.int .i64 l1.sl[0].uu) (by omega) rfl;have xl4:=x4;have x4:=Da 4 (.int .i64 l1.sl[0].ud) (by omega) rfl;have hsn:l1.sl.length<1000:=Uf;have Oy:Hid (∀V,Below W.heap.size W V→V.cell? ⟨gs,0,none⟩=some (.string l1.sl[0].key)∧V.cell? ⟨gs,1,none⟩=some (.int .i64 l1.sl[0].up)∧V.cell? ⟨gs,2,none⟩=some (.int .i64 l1.sl[0].down)∧V.cell? ⟨gs,3,none⟩=some (.int .i64 l1.sl[0].uu)∧V.cell? ⟨gs,4,none⟩=some (.int .i64 l1.sl[0].ud)):=ah (fun V hV=>⟨((vY hV).1 gs 0 s2).trans x0,((vY hV).1 gs 1 s2).trans x1,((vY hV).1 gs 2 s2).trans x2,((vY hV).1 gs 3 s2).trans x3,((vY hV).1 gs 4 s2).trans x4⟩);have HX4:Hid (∀V,Below W.heap.size W V→V.cell? ⟨g,i*7+4,none⟩=some (.slice (some ⟨gs,0,none⟩) l1.sl.length qU)):=ah (fun V hV=>((vY hV).1 g (i*7+4) Ay).trans xl4);have Jp:Hid (l1.sl.take 1= [l1.sl[0]]):=ah (by rw[List.take_one,List.head?_eq_getElem?,List.getElem?_eq_getElem hsp];rfl);have Ca:=HU.out.rl;simp only[Sv.v]at Ca;obtain⟨cur,rD⟩:=eB Ca;have Rl:=ah rD;clear Da Rk x0 x1 x2 x3 x4 Ca rD;generalize lF:l1.sl[0]=c1 at*;obtain⟨k1,k2,k3,k4,k5⟩:=c1;go_upto_region 35 with fail
  refine kX 12 (fun w'=>Below W.heap.size W w') 12 (fun w'=>Below W.heap.size W w') (by kernel_rfl) ?_;have aQ:Below W.heap.size W W.drew:=(aL _ _).drew;refine bF (i:=0) (v:=.pointer (some ⟨g,i*7,none⟩)) rfl (by kernel_rfl) (fun _ _ _ h=>h) (.inl ⟨rfl,fun w' _=>?_⟩) ⟨fun _=>aQ,fun _=>aQ⟩ ?_
  ·go_simp
  refine bF (i:=1) (v:=.pointer (some ⟨g,i*7,none⟩)) rfl (by kernel_rfl) (fun _ _ _ h=>h) (.inl ⟨rfl,fun w' _=>?_⟩) ⟨fun _=>aQ,fun _=>aQ⟩ ?_
  ·go_simp
  refine bF (i:=2) (v:=.pointer (some ⟨g,i*7,none⟩)) rfl (by kernel_rfl) (fun _ _ _ h=>h) (.inl ⟨rfl,fun w' _=>?_⟩) ⟨fun _=>aQ,fun _=>aQ⟩ ?_
  ·go_simp
  refine bF (i:=3) (v:=.pointer (some ⟨g,i*7+4,none⟩)) rfl (by kernel_rfl) (fun _ _ _ h=>h) (.inl ⟨rfl,fun w' _=>?_⟩) ⟨fun _=>aQ,fun _=>aQ⟩ ?_
  ·go_simp
  refine gK (i:=4) (v:=.slice (some ⟨gs,0,none⟩) l1.sl.length qU) (ks:=[12]) rfl (by kernel_rfl) (fun _ _ _ h=>h) (.inl ⟨rfl,fun w' hw=>?_⟩) ⟨fun _=>aQ,fun _=>aQ⟩ ?_
  ·have e1:=HX4.out w' hw
   go_simp
  refine bF (i:=5) (v:=.pointer (some ⟨g,i*7,none⟩)) rfl (by kernel_rfl) (fun _ _ _ h=>h) (.inl ⟨rfl,fun w' _=>?_⟩) ⟨fun _=>aQ,fun _=>aQ⟩ ?_
  ·go_simp
  refine bF (i:=6) (v:=.pointer (some ⟨g,i*7,none⟩)) rfl (by kernel_rfl) (fun _ _ _ h=>h) (.inl ⟨rfl,fun w' _=>?_⟩) ⟨fun _=>aQ,fun _=>aQ⟩ ?_
  ·go_simp
  refine bF (i:=7) (v:=.pointer (some ⟨g,i*7+4,none⟩)) rfl (by kernel_rfl) (fun _ _ _ h=>h) (.inl ⟨rfl,fun w' _=>?_⟩) ⟨fun _=>aQ,fun _=>aQ⟩ ?_
  ·go_simp
  refine gK (i:=8) (v:=.slice (some ⟨gs,0,none⟩) l1.sl.length qU) (ks:=[9,10,11,12]) rfl (by kernel_rfl) (fun _ _ _ h=>h) (.inl ⟨rfl,fun w' hw=>?_⟩) ⟨fun _=>aQ,fun _=>aQ⟩ ?_
  ·have e1:=HX4.out w' hw
   go_simp
  refine bF (i:=9) (v:=.pointer (some ⟨gs,0,none⟩)) rfl (by kernel_rfl) (fun _ _ _ h=>h) (.inl ⟨rfl,fun w' _=>?_⟩) ⟨fun _=>aQ,fun _=>aQ⟩ ?_
  ·go_simp
  refine gK (i:=10) (v:=.agg #[.string k1,.int .i64 k2,.int .i64 k3,.int .i64 k4,.int .i64 k5]) (ks:=[11,12]) rfl (by kernel_rfl) (fun _ _ _ h=>h) (.inl ⟨rfl,fun w' hw=>?_⟩) ⟨fun _=>aQ,fun _=>aQ⟩ ?_
  ·obtain⟨e0,e1,e2,e3,e4⟩:=Oy.out w' hw
   go_simp
  have qw:=nk (heap_alloc_new W.drew (.cells #[.string k1,.int .i64 k2,.int .i64 k3,.int .i64 k4,.int .i64 k5] 88));have eD:Below W.drew.heap.size W.drew (W.drew.alloc (.cells #[.string k1,.int .i64 k2,.int .i64 k3,.int .i64 k4,.int .i64 k5] 88)):=(aL _ _).alloc (aC _) _;have mq:=aQ.trans (eD.mono aQ.size);have YV:=ah ((HU.out.keep aQ).keep eD);have YW:=ah (aI (aI OB.out aQ (aC _)) eD (aC _));have Ug:=aj (aj Rl.out aQ Ay) eD (Nat.lt_of_lt_of_le Ay aQ.size);have hV:W.drew.alloc (.cells #[.string k1,.int .i64 k2,.int .i64 k3,.int .i64 k4,.int .i64 k5] 88)=(W.alloc (.cells #[.string k1,.int .i64 k2,.int .i64 k3,.int .i64 k4,.int .i64 k5] 88)).drew:=rfl;have Ir:W.drew.heap.size=W.heap.size:=rfl;rw[hV]at qw mq YV YW Ug;rw[Ir]at qw;clear hV Ir eD;refine bZ (i:=11) (by kernel_rfl) rfl rfl ?_;go_simp;refine⟨⟨fun _=>mq,fun _=>mq⟩,?_⟩;generalize (W.alloc (.cells #[.string k1,.int .i64 k2,.int .i64 k3,.int .i64 k4,.int .i64 k5] 88)).drew=V1 at*;refine tZ (i:=12) (by kernel_rfl) rfl rfl (by kernel_rfl) (by kernel_rfl) ?_;refine jg _ _ rfl (w.heap.size+2) (.slice (some ⟨gs,0,none⟩) l1.sl.length qU) l1.sl.length l1.sl rfl YW.out (some ⟨W.heap.size,0,none⟩) 1 1 [⟨k1,k2,k3,k4,k5⟩] rfl rfl qw (by omega) (by have:=YV.out.kr.lt;omega) ?_;intro v4 V4 h4 hg4 _;obtain⟨Oz,cpB,rfl,_,_⟩:=aO h4;have bR:Below w.heap.size w V4:=YV.out.bC.grown hg4 YV.out.bC.size (fun q hq=>by have:=(YW.out.lt q hq).1;omega);have kc4:=A_ Ug YW.out hg4 (by decide)
  have x9:V4.cell? ⟨g,i*7+4,none⟩=some (.slice (some ⟨gs,0,none⟩) l1.sl.length qU):=by
   have h9:=HX4.out V1 mq;simp only[World.cell?,Ug]at h9;simp only[World.cell?,kc4];exact h9
  have z9:V4.frozen? ⟨g,i*7+4,none⟩=false:=by simp[World.frozen?,kc4]
  have T:=YV.out.afn sQ (g:=g) rfl YW.out hg4 bR (s':=⟨Oz,l1.sl.length+1,cpB⟩) (sl':=l1.sl++l1.sl.take 1) (by rw[Jp.out,List.length_append];exact h4);have IL:=ah T;clear T YV YW h4 hg4 Ug kc4 qw;refine tZ (i:=13) (by kernel_rfl) rfl rfl (by kernel_rfl) (by kernel_rfl) ?_;go_simp;refine tZ (i:=14) (by kernel_rfl) rfl rfl (by kernel_rfl) (by kernel_rfl) ?_;go_simp;refine tZ (i:=15) (by kernel_rfl) rfl rfl (by kernel_rfl) (by kernel_rfl) ?_;go_simp;refine kW (by kernel_rfl) ?_;go_wp2;go_meet;exact⟨_,IL.out⟩
end
section
attribute [local go_sem ↓] Go.wp_at_zero Go.wp_at_succ
theorem Rm (w W:World) (m0 n:Int) (m:Nat) (BK:m<12) (hmm:m0%12=m) (xs:List cB) (ls:List Ls) (i g:Nat) (sQ:i<xs.length) (Iu:xs.length<1000) (ga:Option Addr) (gn gc:Nat) (ha:Option Addr) (fu hc ic:Nat) (ja:Option Addr) (jn jc:Nat) (cs:List Ct) (fr:List Rg) (bd:List Int) (z:cB) (l:Ls) (fP:l.sl.length<1000∧l.ids.length<1000∧l.used.length<1000) (h:Tz w W (w.heap.size+2) w.heap.size (w.heap.size+1) xs ls i ⟨⟨ga,gn,gc⟩,⟨ha,fu,hc⟩,⟨some ⟨g,0,none⟩,xs.length,ic⟩,⟨ja,jn,jc⟩⟩ cs fr bd z l) {u0 u2 u5 u6 u7 u9 u11 u12 u13 u14 u15 u16 u17 u18 u19 u20 u21 u22 u23 u24 u25 u26 u27 u28 u29 u30 u31 u32 u33 u34 u35 u36 u37 u38 u39 u40 u41 u42 u43 u44 u45 u46 u47 u48 u49 u50 u51 u52 u53 u54 u55 u56 u57 u58 u59 u60 u61 u62 u63 u64 u65 u66 u67 u68 u69 u70 u71 u72 u73 u74 u75 u76 u77 u78 u79 u80 u81 u82 u83 u84 u85 u86 u87 u88 u89 u90 u91 u92 u93 u94 u95 u96 u97 u98 u99 u100 u101 u102 u103 u104 u105 u106 u107 u108 u109 u110 u111 u112 u113 u114 u115 u116 u117 u118 u119 u120 u121 u122 u123 u124 u125 u126 u127 u128 u129 u130 u131 u132 u133 u134 u135 u136 u137 u138 u139 u140 u141 u142 u143 u144 u145 u146 u147 u148 u149 u150 u151 u152 u153 u154 u155 u156 u157 u158 u159 u160 u161 u162 u163 u164 u165 u166 u167 u168 u169 u170 u171 u172 u173 u174 u175 u176 u177 u178 u179 u180 u181:Value}:
  ∀c,Tryz.f14.body.bind (spine 7)=some c→Code.wp Tryz.prog c (bodyPost Tryz.prog Tryz.f14 (BJ w ⟨cs,fr,ls.set i (jE m n (jQ m n l)),bd⟩)) ⟨#[u0,.int .i64 m0,u2,.int .i64 n,.pointer (some ⟨w.heap.size,0,none⟩),u5,u6,u7,.pointer (some ⟨w.heap.size+1,0,none⟩),u9,.pointer (some ⟨g,i*7,none⟩),u11,u12,u13,u14,u15,u16,u17,u18,u19,u20,u21,u22,u23,u24,u25,u26,u27,u28,u29,u30,u31,u32,u33,u34,u35,u36,u37,u38,u39,u40,u41,u42,u43,u44,u45,u46,u47,u48,u49,u50,u51,u52,u53,u54,u55,u56,u57,u58,u59,u60,u61,u62,u63,u64,u65,u66,u67,u68,u69,u70,u71,u72,u73,u74,u75,u76,u77,u78,u79,u80,u81,u82,u83,u84,u85,u86,u87,u88,u89,u90,u91,u92,u93,u94,u95,u96,u97,u98,u99,u100,u101,u102,u103,u104,u105,u106,u107,u108,u109,u110,u111,u112,u113,u114,u115,u116,u117,u118,u119,u120,u121,u122,u123,u124,u125,u126,u127,u128,u129,u130,u131,u132,u133,u134,u135,u136,u137,u138,u139,u140,u141,u142,u143,u144,u145,u146,u147,u148,u149,u150,u151,u152,u153,u154,u155,u156,u157,u158,u159,u160,u161,u162,u163,u164,u165,u166,u167,u168,u169,u170,u171,u172,u173,u174,u175,u176,u177,u178,u179,u180,u181],[]⟩ W:=by
 refine dP rfl ?_;have Ve:=ah hmm;have HEA:=ah fP;have Bw:=ah h;have Uf:l.sl.length<1000:=fP.1;clear hmm fP h;obtain⟨W5,JG⟩:∃W5,W5=W:=⟨_,rfl⟩;subst JG;obtain⟨z1,z2,z3,z4,⟨z5,z6,z7⟩,⟨z8,z9,dK⟩,⟨dU,eZ,dQ⟩⟩:=z;obtain⟨r1,r2,r3⟩:=Sl.lens (s:=⟨z5,z6,z7⟩) (Bw.out.re.s.sl Bw.out.bC);obtain⟨r4,r5,r6⟩:=Sl.lens (s:=⟨z8,z9,dK⟩) (Bw.out.re.i.sl Bw.out.bC);obtain⟨r7,r8,r9⟩:=Sl.lens (s:=⟨dU,eZ,dQ⟩) (Bw.out.re.u.sl Bw.out.bC);simp only at r1 r2 r3 r4 r5 r6 r7 r8 r9;subst r1 r4 r7;obtain⟨g',cap5,yR,_,_,pq,_,_,Ay,_,iQ⟩:=Bw.out.cellL sQ;injection yR with rM Kl Km;injection rM with rM;injection rM with rM _ _;subst rM Km;clear Kl;have Ca:=Bw.out.rl;simp only[Sv.v]at Ca;obtain⟨cur,rD⟩:=eB Ca;have Vf:=ah rD;have OE:=ah (Sl.rd (Bw.out.re.s.sl Bw.out.bC));have x4:=iQ 4 (.slice z5 l.sl.length z7) (by omega) rfl;clear Ca rD iQ pq;go_upto_region 21 with((with_reducible refine aZ 100 ?_);refine xX rfl _ _ rfl W5.heap.size _ 0 [] rfl (dB _ _ _ _ 5 #[] 0 rfl (aC _) (by omega) rfl) z5 l.sl.length z7 l.sl rfl rfl (OE.out.alloc _) (by omega) (by simp) ?_;intro v5 w6 gP hg5 m_;obtain⟨rQ,qU,rfl,_,_⟩:=aO gP;have gD:=gZ hg5;have kg:=aj Vf.out gD Ay;have x6:w6.cell? ⟨g,i*7+4,none⟩=some (.slice z5 l.sl.length z7):=((vY gD).1 g (i*7+4) Ay).trans x4;have z6:w6.frozen? ⟨g,i*7+4,none⟩=false:=by simp[World.frozen?,kg])
 rw[Nat.zero_add,List.nil_append]at gP;have XU:w.heap.size+2≤W5.heap.size:=by have:=Bw.out.bC.size;have:=Bw.out.rB;omega
 have hT6:=(Bw.out.keep gD).TW sQ (g:=g) rfl 4 (by omega) (.slice rQ (0+l.sl.length) qU) ⟨z1,z2,z3,z4,⟨rQ,0+l.sl.length,qU⟩,⟨z8,l.ids.length,dK⟩,⟨dU,l.used.length,dQ⟩⟩ l rfl ⟨Bw.out.re.dev,Bw.out.re.epoch,Bw.out.re.bU,Bw.out.re.last,.inr (by rw[Nat.zero_add];exact aN gP XU),Bw.out.re.i.keep gD,Bw.out.re.u.keep gD⟩;have XV:=aF (aN gP XU) (fun c hc=>aX w6 ⟨g,i*7+4,none⟩ c (fun e=>hc e.symm) (.slice rQ (0+l.sl.length) qU)) kg (by decide);simp only[Nat.zero_add]at hT6 XV
 try simp only[Nat.zero_add]
 have HV:=ah hT6;have Kn:=ah XV;clear hT6 XV gP hg5 m_ gD kg x6 z6 x4 Bw OE Vf Ay XU;generalize w6.setCell ⟨g,i*7+4,none⟩ (.slice rQ l.sl.length qU)=V at*;have Ij:=ah HV.out.re;obtain⟨g',cap5,yR,_,_,pq,_,_,Ay,_,iQ⟩:=HV.out.cellL sQ;injection yR with rM Kl Km;injection rM with rM;injection rM with rM _ _;subst rM Km;clear Kl;have Ca:=HV.out.rl;simp only[Sv.v]at Ca;obtain⟨cur,rD⟩:=eB Ca;have Rl:=ah rD;have HVB:Hid (w.heap.size+2≤V.heap.size):=ah (by have:=HV.out.kr.lt;omega);clear Ca rD;go_wp2_with fail
 refine(Bf m0 12 _ (by omega) (by omega)).mono ?_;rw[Ve.out];rintro e w7 ⟨rfl,rfl⟩;go_upto_block 1 with fail
 go_cut[] (fun wx=>∃zz:cB,Tz w wx (w.heap.size+2) w.heap.size (w.heap.size+1) xs ls i ⟨⟨ga,gn,gc⟩,⟨ha,fu,hc⟩,⟨some ⟨g,0,none⟩,xs.length,ic⟩,⟨ja,jn,jc⟩⟩ cs fr bd zz (jQ m n l)∧zz.s=⟨rQ,l.sl.length,qU⟩∧wx.ownsRow (w.heap.size+2) 88 5 (.slice rQ l.sl.length qU) l.sl.length (aJ jL l.sl))
 case first=>
  rcases Rj BK with rfl | rfl | rfl | rfl | rfl | rfl | rfl | rfl | rfl | rfl | rfl | rfl
  ·go_wp2
   go_meet;exact⟨_,HV.out,rfl,Kn.out⟩
  ·go_wp2
   go_meet;exact⟨_,HV.out,rfl,Kn.out⟩
  ·go_wp2
   go_meet;exact⟨_,HV.out,rfl,Kn.out⟩
  ·go_wp2
   go_meet;exact⟨_,HV.out,rfl,Kn.out⟩
  ·go_wp2
   go_meet;exact⟨_,HV.out,rfl,Kn.out⟩
  ·go_wp2
   go_meet;exact⟨_,HV.out,rfl,Kn.out⟩
  ·have x0:=iQ 0 (.int .i64 z1) (by omega) rfl
   have z0:=pq (i*7);simp only[Nat.add_zero]at x0;have T:=HV.out.TW sQ (g:=g) rfl 0 (by omega) (.int .i64 n) ⟨n,z2,z3,z4,⟨rQ,l.sl.length,qU⟩,⟨z8,l.ids.length,dK⟩,⟨dU,l.used.length,dQ⟩⟩ ⟨n,l.epoch,l.bU,l.last,l.sl,l.ids,l.used⟩ rfl ⟨rfl,Ij.out.epoch,Ij.out.bU,Ij.out.last,.inr Kn.out,Ij.out.i,Ij.out.u⟩;have qB:=ah (aF Kn.out (fun c hc=>aX V ⟨g,i*7+0,none⟩ c (fun e=>hc e.symm) (.int .i64 n)) Rl.out (by decide));have IL:=ah T;simp only[Nat.add_zero]at IL qB;clear T iQ pq;go_wp2;go_meet;exact⟨_,IL.out,rfl,qB.out⟩
  ·obtain⟨nn,hnn⟩:∃nn,IntKind.i64.wrap (n+1)=nn:=⟨_,rfl⟩
   have Ud:Hid (jQ 7 n l=⟨l.dev,l.epoch,l.bU,l.last,l.sl,(n,nn)::l.ids,l.used⟩):=ah (by rw[←hnn];rfl);have hnl:l.ids.length<1000:=HEA.out.2.1;have x5:=iQ 5 (.slice z8 l.ids.length dK) (by omega) rfl;have z5':=pq (i*7+5);have wN:=ah (Sl.rd (Ij.out.i.sl HV.out.bC));clear iQ;go_wp2_with ((with_reducible refine aZ 123 ?_);refine qx rfl _ _ rfl V.heap.size _ 1 [(n,nn)] rfl (dB _ _ _ _ 2 #[.int .i64 n,.int .i64 (nn)] 1 rfl (aC _) (by omega) rfl) z8 l.ids.length dK l.ids rfl rfl (wN.out.alloc _) (by omega) (by simp) ?_;intro v4 w4 ji hg4 jk;obtain⟨Ta,XW,rfl,_,_⟩:=aO ji;have bR:Below V.heap.size V w4:=((aL V.heap.size V).alloc (aC _) _).grown hg4 (by simp) (fun g hg=>(by have iY:some V.heap.size=some g:=hg;injection iY with iY;omega));have kg:=aj Rl.out bR Ay;have x6:w4.cell? ⟨g,i*7+5,none⟩=some (.slice z8 l.ids.length dK):=((vY bR).1 g (i*7+5) Ay).trans x5;have z6:w4.frozen? ⟨g,i*7+5,none⟩=false:=by simp[World.frozen?,kg])
   have hB4:=HVB.out;have T:=(HV.out.keep bR).TW sQ (g:=g) rfl 5 (by omega) (.slice Ta (1+l.ids.length) XW) ⟨z1,z2,z3,z4,⟨rQ,l.sl.length,qU⟩,⟨Ta,1+l.ids.length,XW⟩,⟨dU,l.used.length,dQ⟩⟩ ⟨l.dev,l.epoch,l.bU,l.last,l.sl,(n,nn)::l.ids,l.used⟩ rfl ⟨Ij.out.dev,Ij.out.epoch,Ij.out.bU,Ij.out.last,.inr (aI Kn.out bR (aC _)),.inr (by rw[List.length_cons,Nat.add_comm l.ids.length 1];exact aN ji hB4),Ij.out.u.keep bR⟩;have qB:=ah (aF (aI Kn.out bR (aC _)) (fun c hc=>aX w4 ⟨g,i*7+5,none⟩ c (fun e=>hc e.symm) (.slice Ta (1+l.ids.length) XW)) kg (by decide));go_meet;exact⟨_,by rw[Ud.out];exact T,rfl,qB.out⟩
  ·have hnl:l.used.length<1000:=HEA.out.2.2
   have x5:=iQ 6 (.slice dU l.used.length dQ) (by omega) rfl;have z5':=pq (i*7+6);have wN:=ah (Sl.rd (Ij.out.u.sl HV.out.bC));clear iQ;go_wp2_with ((with_reducible refine aZ 135 ?_);refine mE rfl _ _ rfl V.heap.size _ 1 [n] rfl (dB _ _ _ _ 1 #[.int .i64 n] 1 rfl (aC _) (by omega) rfl) dU l.used.length dQ l.used rfl rfl (wN.out.alloc _) (by omega) (by simp) ?_;intro v4 w4 ji hg4 jk;obtain⟨Ta,XW,rfl,_,_⟩:=aO ji;have bR:Below V.heap.size V w4:=((aL V.heap.size V).alloc (aC _) _).grown hg4 (by simp) (fun g hg=>(by have iY:some V.heap.size=some g:=hg;injection iY with iY;omega));have kg:=aj Rl.out bR Ay;have x6:w4.cell? ⟨g,i*7+6,none⟩=some (.slice dU l.used.length dQ):=((vY bR).1 g (i*7+6) Ay).trans x5;have z6:w4.frozen? ⟨g,i*7+6,none⟩=false:=by simp[World.frozen?,kg])
   have hB4:=HVB.out;have T:=(HV.out.keep bR).TW sQ (g:=g) rfl 6 (by omega) (.slice Ta (1+l.used.length) XW) ⟨z1,z2,z3,z4,⟨rQ,l.sl.length,qU⟩,⟨z8,l.ids.length,dK⟩,⟨Ta,1+l.used.length,XW⟩⟩ ⟨l.dev,l.epoch,l.bU,l.last,l.sl,l.ids,n::l.used⟩ rfl ⟨Ij.out.dev,Ij.out.epoch,Ij.out.bU,Ij.out.last,.inr (aI Kn.out bR (aC _)),Ij.out.i.keep bR,.inr (by rw[List.length_cons,Nat.add_comm l.used.length 1];exact aN ji hB4)⟩;have qB:=ah (aF (aI Kn.out bR (aC _)) (fun c hc=>aX w4 ⟨g,i*7+6,none⟩ c (fun e=>hc e.symm) (.slice Ta (1+l.used.length) XW)) kg (by decide));go_meet;exact⟨_,T,rfl,qB.out⟩
  ·go_wp2
   go_meet;exact⟨_,HV.out,rfl,Kn.out⟩
  ·go_wp2
   go_meet;exact⟨_,HV.out,rfl,Kn.out⟩
  ·go_wp2
   go_meet;exact⟨_,HV.out,rfl,Kn.out⟩
 case rest=>
 obtain⟨zz,ht,zS,hso⟩:=hcut;have afP:Hid ((jQ m n l).sl=l.sl):=ah (by rcases Rj BK with rfl | rfl | rfl | rfl | rfl | rfl | rfl | rfl | rfl | rfl | rfl | rfl<;>rfl);generalize jQ m n l=l1 at*;obtain⟨y1,y2,y3,y4,⟨y5,y6,y7⟩,⟨y8,y9,dz⟩,⟨dA,dJ,cK⟩⟩:=zz;injection zS with hs1 hs2 hs3;subst hs1 hs2 hs3;rw[←afP.out]at hso ht Uf;go_step;exact Og w _ m0 n m BK Ve.out xs ls i g sQ Iu ga gn gc ha fu hc ic ja jn jc cs fr bd y1 y2 y3 y4 _ _ y8 y9 dz dA dJ cK l1 Uf ht hso _ rfl
end
end Go.Proofs.YtlfopoimbbpfdaaGreat
