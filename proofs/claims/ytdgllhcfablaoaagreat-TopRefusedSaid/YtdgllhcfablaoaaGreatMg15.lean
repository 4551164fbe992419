/- What the law asks, in parts: ZFl ZFm ZFn ZFo ZBase. -/
import Derived.Test.YtdgllhcfablaoaaGreatChecked
import Derived.Test.YtdgllhcfablaoaaGreatMg11
import Derived.Test.YtdgllhcfablaoaaGreatMg14
set_option linter.all false
set_option maxRecDepth 100000
set_option maxHeartbeats 16000000
open Go.Proofs.Tryz
open Bool renaming false→U,true→O,rec→aA,not_true→cL,false_eq_true→bZ,not_false→dE
open Option renaming some→I,none→J,rec→gL
open Go renaming World→V,Program→aQ
open Nat renaming beq→ak,le_of_ble_eq_true→ax,eq_of_beq_eq_true→aI,ble→aG
open List renaming mem_cons→bg,map_cons→ik,filter_cons→nm
open Go.Calls renaming mono→qE
namespace Go.Ev
def Ao{a b:Bool}(h:OP a b=O):a=b:=by cases a<;>cases b<;>first | rfl | cases h
def Pi{a b:Int}(h:Zb a b=O):a=b:=by
 cases a with
 | ofNat m=>
  cases b with
  | ofNat n=>exact congrArg Int.ofNat (aI h)
  | negSucc n=>cases h
 | negSucc m=>
  cases b with
  | ofNat n=>cases h
  | negSucc n=>exact congrArg Int.negSucc (aI h)
def GR:∀{a b:List UInt8},Zc a b=O→a=b
 | [],[],_=>rfl
 | [],_::_,h=>by cases h
 | _::_,[],h=>by cases h
 | x::a,y::b,h=>by
  obtain⟨c,d⟩:=dd h;rw[UInt8.toNat_inj.mp (aI c),GR d]
def Pj{a b:Fn}(h:Zd a b=O):a=b:=by
 cases a with
 | func f=>
  cases b with
  | func g=>exact congrArg Fn.func (aI h)
  | _=>cases h
 | _=>cases b<;>cases h
def kx{a b:Nat}(h:ak a b=O):a=b:=aI h
mutual
def ry:∀(a b:Y),QR a b=O→a=b
 | .bool x,.bool y,h=>congrArg Y.bool (Ao h)
 | .int k n,.int z q,h=>by
  obtain⟨d,e⟩:=dd h;rw[GJ d,Pi e]
 | .str x,.str y,h=>congrArg Y.str (GR h)
 | .q_,.q_,_=>rfl
 | .ptr b o,.ptr g r,h=>by
  obtain⟨d,e⟩:=dd h;rw[kx d,kx e]
 | .iC,.iC,_=>rfl
 | .slc b o n p c,.slc g r q B i,h=>by
  obtain⟨d,h⟩:=dd h;obtain⟨e,h⟩:=dd h;obtain⟨j,h⟩:=dd h;obtain⟨s,h⟩:=dd h;rw[kx d,kx e,kx j,Ao s,kx h]
 | .oM b o n c,.oM g r q i,h=>by
  obtain⟨d,h⟩:=dd h;obtain⟨e,h⟩:=dd h;obtain⟨j,h⟩:=dd h;rw[kx d,kx e,kx j,kx h]
 | .fG,.fG,_=>rfl
 | .map b,.map g,h=>congrArg Y.map (kx h)
 | .yF,.yF,_=>rfl
 | .chan b,.chan g,h=>congrArg Y.chan (kx h)
 | .yG,.yG,_=>rfl
 | .fn f a c,.fn C u i,h=>by
  obtain⟨d,h⟩:=dd h;obtain⟨e,h⟩:=dd h;rw[Pj d,mE a u e,mE c i h]
 | .lV,.lV,_=>rfl
 | .qI t v,.qI E w,h=>by
  obtain⟨d,h⟩:=dd h;rw[kx d,ry v w h]
 | .agg l,.agg m,h=>congrArg Y.agg (mE l m h)
 | .dS l,.dS m,h=>congrArg Y.dS (mE l m h)
def mE:∀(a b:List Y),QS a b=O→a=b
 | [],[],_=>rfl
 | [],_::_,h=>by cases h
 | _::_,[],h=>by cases h
 | x::a,y::b,h=>by
  have h:aA (motive:=fun _=>Bool) U (QS a b) (QR x y)=O:=h;obtain⟨c,d⟩:=dd h;rw[ry x y c,mE a b d]
end
def GS:∀{a b:List (Y×Y×Nat)},ZH a b=O→a=b
 | [],[],_=>rfl
 | [],_::_,h=>by cases h
 | _::_,[],h=>by cases h
 | (c,d,e)::a,(f,g,i)::b,h=>by
  obtain⟨j,h⟩:=dd h;obtain⟨k,h⟩:=dd h;obtain⟨l,h⟩:=dd h;have m:c=f:=ry _ _ j;have n:d=g:=ry _ _ k;have o:e=i:=kx l;rw[m,n,o,GS h]
def GT{a b:AO}(h:OQ a b=O):a=b:=by
 cases a with
 | row c p=>
  cases b with
  | row c2 o=>
   obtain⟨d,f⟩:=dd h;rw[kx d,mE _ _ f]
  | _=>cases h
 | map e k=>
  cases b with
  | map q k2=>
   obtain⟨d,f⟩:=dd h;rw[kx d,GS f]
  | _=>cases h
 | chan n l c i j=>
  cases b with
  | chan r s c2 t u=>
   obtain⟨d,h⟩:=dd h;obtain⟨f,h⟩:=dd h;obtain⟨g,h⟩:=dd h;obtain⟨m,h⟩:=dd h;rw[kx d,mE _ _ f,Ao g,kx m,kx h]
  | _=>cases h
 | dead=>
  cases b with
  | dead=>rfl
  | _=>cases h
def sy:∀{l:List (Nat×AO)}{h:Tr AO},lies l h=O→∀p,p∈l→h.get p.1=I p.2
 | [],_,_,p,a=>by cases a
 | q::l,h,e,p,a=>by
  have e:gL (motive:=fun _=>Bool) U (fun o=>aA (motive:=fun _=>Bool) U (lies l h) (OQ q.2 o)) ((mz q.1).run h.t)=O:=e
  cases b:(mz q.1).run h.t with
  | none=>rw[b]at e;cases e
  | some o=>
   rw[b]at e;obtain⟨c,d⟩:=dd e;rcases List.mem_cons.mp a with rfl | a
   ·rw[GT c];exact vB _ _ b
   ·exact sy d p a
def lJ:∀l:List (Nat×AO),pM l=l.map (·.1)
 | []=>rfl
 | p::l=>by show p.1::pM l=_;rw[lJ l];rfl
def lX:∀{l:List (Nat×AO)}{h:Tr AO}{id:Nat},id∉l.map (·.1)→(lay l h).get id=h.get id
 | [],_,_,_=>rfl
 | p::l,h,id,a=>by
  simp only[ik,bg,not_or]at a;show(lay l (h.set p.1 p.2)).get id=_;rw[lX a.2,Tr.eN,if_neg a.1]
def II:∀{l:List (Nat×AO)}{h g:Tr AO}{id:Nat},(∀p,p∈l→g.get p.1=I p.2)→id∈l.map (·.1)→(lay l h).get id=g.get id
 | [],_,_,_,_,hi=>by simp at hi
 | p::l,h,g,id,b,hi=>by
  show(lay l (h.set p.1 p.2)).get id=_;by_cases a:id∈l.map (·.1)
  ·exact II (fun q c=>b q (by simp[c])) a
  ·rw[lX a,Tr.eN]
   simp only[ik,bg]at hi;rcases hi with rfl | hi
   ·rw[if_pos rfl,b p dR]
   ·exact absurd hi a
def GU:∀{l:List (Nat×AO)}{h g:Tr AO}{id:Nat},id∈l.map (·.1)→(lay l h).get id=(lay l g).get id
 | [],_,_,_,hi=>by simp at hi
 | p::l,h,g,id,hi=>by
  show(lay l (h.set p.1 p.2)).get id=(lay l (g.set p.1 p.2)).get id;by_cases a:id∈l.map (·.1)
  ·exact GU a
  ·rw[lX a,lX a,Tr.eN,Tr.eN]
   simp only[ik,bg]at hi;rcases hi with rfl | hi
   ·rw[if_pos rfl,if_pos rfl]
   ·exact absurd hi a
def pU{f:Nat→Bool}:∀{l:List Nat},JI f l=O→∀a,a∈l→f a=O
 | [],_,a,c=>by cases c
 | b::l,h,a,c=>by
  obtain⟨d,e⟩:=dd h;rcases List.mem_cons.mp c with rfl | c
  ·exact d
  ·exact pU e a c
def Ei{a:Nat}{l:List Nat}(h:Nr a l=O):a∈l:=by
 unfold Nr at h;rw[uq,List.any_eq_true]at h;obtain⟨b,c,e⟩:=h;rw[kx e];exact c
def uv{n z b:Nat}{q:Bool}(h:Dx n z b q=O):(n≤b∧b<z)∨(b<n∧q=O):=by
 unfold Dx at h
 cases a:aG n b with
 | true=>rw[a]at h;exact .inl ⟨ax a,ax h⟩
 | false=>
  rw[a]at h;refine .inr ⟨?_,h⟩;rcases Nat.lt_or_ge b n with c | c
  ·exact c
  ·rw[Nat.ble_eq_true_of_le c]at a;cases a
def MJ{h:Tr AO}{b:Nat}(e:Uc h b=O):∃o,h.get b=I o:=by
 have e:gL (motive:=fun _=>Bool) U (fun _=>O) ((mz b).run h.t)=O:=e
 cases a:(mz b).run h.t with
 | none=>rw[a]at e;cases e
 | some o=>exact⟨o,vB _ _ a⟩
def uw(k j:Nat):∀l:List (Nat×AO),j≠k→Tr.far j (l.filter fun p=>!(ak k p.1))=Tr.far j l
 | [],_=>rfl
 | p::l,h=>by
  rw[nm]
  cases a:ak k p.1 with
  | true=>
   simp only[cL,bZ,if_false];rw[uw k j l h];show _=cond (ak j p.1) (I p.2) (Tr.far j l)
   have:ak j p.1=U:=by
    cases b:ak j p.1 with
    | false=>rfl
    | true=>exact absurd ((kx b).trans (kx a).symm) h
   rw[this];rfl
  | false=>
   simp only[dE,if_true];show cond (ak j p.1) (I p.2) (Tr.far j _)=cond (ak j p.1) (I p.2) (Tr.far j l);rw[uw k j l h]
def Ap(k:Nat):∀l:List (Nat×AO),Tr.far k (l.filter fun p=>!(ak k p.1))=J
 | []=>rfl
 | p::l=>by
  rw[nm]
  cases a:ak k p.1 with
  | true=>simp only[cL,bZ,if_false];exact Ap k l
  | false=>
   simp only[dE,if_true];show cond (ak k p.1) (I p.2) (Tr.far k _)=J;rw[a];exact Ap k l
noncomputable def Tr.IJ(h:Tr AO)(k:Nat):Tr AO:=if k<8 ^ 6 then⟨TT.set 6 k J h.t,h.o⟩else⟨h.t,h.o.filter fun p=>!(ak k p.1)⟩
def Tr.ML(h:Tr AO)(k j:Nat):(h.IJ k).get j=if j=k then J else h.get j:=by
 unfold Tr.IJ;by_cases b:k<8 ^ 6
 ·rw[if_pos b]
  by_cases a:j<8 ^ 6
  ·rw[Tr.lH a,Tr.lH a];exact TT.eN _ _ _ _ _ b a
  ·rw[Tr.nc a,Tr.nc a,if_neg (fun e=>a (by rw[e];exact b))]
 ·rw[if_neg b]
  by_cases a:j<8 ^ 6
  ·rw[Tr.lH a,Tr.lH a,if_neg (fun e=>b (by rw[←e];exact a))]
  ·rw[Tr.nc a,Tr.nc a]
   by_cases e:j=k
   ·subst e;rw[if_pos rfl];exact Ap _ _
   ·rw[if_neg e];exact uw _ _ _ e
noncomputable def Tr.KC(h:Tr AO)(n:Nat):Nat→Tr AO
 | 0=>h
 | k+1=>(Tr.KC h n k).IJ (n+k)
def Tr.GV(h:Tr AO)(n j:Nat):∀k,(h.KC n k).get j=if n≤j∧j<n+k then J else h.get j
 | 0=>by rw[if_neg bf];rfl
 | k+1=>by
  show((h.KC n k).IJ (n+k)).get j=_;rw[Tr.ML,Tr.GV h n j k];by_cases e:j=n+k
  ·rw[if_pos e,if_pos bf]
  ·rw[if_neg e]
   by_cases a:n≤j∧j<n+k
   ·rw[if_pos a,if_pos bf]
   ·rw[if_neg a,if_neg bf]
end Go.Ev
namespace Go.Ev
open Go.RowKit (Below)
section
variable {P:aQ} {B0:Nat} {w0:V} {ρ:Env}
theorem Rel.sub{h d:Tr AO}{w:V}(b:∀id o,d.get id=I o→o≠.dead→h.get id=I o)(r:Rel B0 w0 ρ h w):Rel B0 w0 ρ d w:=
 ⟨r.z8,r.base,fun id o e f=>r.obj id o (b id o e f) f,fun id a o g B κ c e i k j=>r.inj id a o g B κ c (b id o e i) i (b a g k j) j⟩
noncomputable def Fact.call(x:Fact):bR:=fun _ args s=>aA (motive:=fun _=>RV) (.no "") (.ok x.v (x.out s)) (x.fits args s)
theorem Fact.Ej{x:Fact}{args:List Y}{s:S}(h:x.fits args s=O):s.n=x.n∧x.args=args∧∀p,p∈x.pre→s.h.get p.1=I p.2:=by
 obtain⟨a,h⟩:=dd h;obtain⟨b,h⟩:=dd h;exact⟨kx a,mE _ _ b,sy h⟩
theorem Fact.KE{x:Fact}{f:Nat}{args:List Y}{s s':S}{v:Y}(h:x.call f args s=.ok v s'):x.fits args s=O∧v=x.v∧s'=x.out s:=by
 unfold Fact.call at h
 cases a:x.fits args s with
 | false=>rw[a]at h;cases h
 | true=>rw[a]at h;cases h;exact⟨rfl,rfl,rfl⟩
theorem Sh{x:Fact}{args:List Y}{s s2:S}(h:x.fits args s=O)(i:s2.n=s.n)(j:∀id,id∈pM x.pre→s2.h.get id=s.h.get id):x.fits args s2=O:=by
 have k:∀(l:List (Nat×AO)),(∀id,id∈pM l→s2.h.get id=s.h.get id)→lies l s.h=O→lies l s2.h=O:=by
  intro l
  induction l with
  | nil=>intro _ _;rfl
  | cons p l m=>
   intro g e;have n:s.h.get p.1=I p.2:=sy e p dR;have a:s2.h.get p.1=I p.2:=by rw[g p.1 (by rw[lJ];simp)];exact n
   have e:gL (motive:=fun _=>Bool) U (fun o=>aA (motive:=fun _=>Bool) U (lies l s.h) (OQ p.2 o)) ((mz p.1).run s.h.t)=O:=e;show gL (motive:=fun _=>Bool) U (fun o=>aA (motive:=fun _=>Bool) U (lies l s2.h) (OQ p.2 o)) ((mz p.1).run s2.h.t)=O
   cases b:(mz p.1).run s.h.t with
   | none=>rw[b]at e;cases e
   | some o=>
    rw[b]at e;obtain⟨d,q⟩:=dd e
    have c:aG (Nat.succ p.1) (nat_lit 262144)=O:=by
     cases c:aG (Nat.succ p.1) (nat_lit 262144)with
     | true=>rfl
     | false=>unfold mz at b;rw[c]at b;cases b
    have f:(mz p.1).run s2.h.t=I p.2:=by
     unfold mz;rw[c];show(sel 6 p.1).run s2.h.t=I p.2;unfold Tr.get at a;rw[c]at a;exact a
    rw[f];have:=m (fun id hi=>g id (by rw[lJ]at hi ⊢;simp at hi ⊢;exact .inr hi)) q;show aA (motive:=fun _=>Bool) U (lies l s2.h) (OQ p.2 p.2)=O;have r:o=p.2:=(GT d).symm;rw[r]at d;rw[d];exact this
 obtain⟨t,h⟩:=dd h;obtain⟨u,h⟩:=dd h;unfold Fact.fits;rw[i,t,u,k x.pre j h]
theorem Fact.IK{x:Fact}(j:x.n≤x.z)(f:Nat)(args:List Y):Framed (x.call f args):=by
 intro s v n h;obtain⟨g,rfl,rfl⟩:=Fact.KE h;obtain⟨k,o,p⟩:=Fact.Ej g;refine⟨by rw[k];exact j,pM x.pre,pM x.post,rv _ _,rv _ _,?_,?_⟩
 ·intro b a _
  rw[lJ]at a;exact lX a
 ·intro i l m d
  have e:=Sh g l m;refine⟨x.out i,?_,rfl,rv _ _,rv _ _,?_,?_⟩
  ·unfold Fact.call;rw[e]
  ·intro b a
   show(lay x.post i.h).get b=(lay x.post s.h).get b;by_cases c:b∈x.post.map (·.1)
   ·exact GU c
   ·rw[lX c,lX c]
    rw[lJ]at a;rcases a with a | a
    ·exact absurd a c
    ·exact d b a.1 a.2
  ·intro b a _
   rw[lJ]at a;exact lX a
theorem Fact.good{hk:Nat→Option HF}{p:Nat→Nat→Option bR}(W:Eh hk p){d:Nat}(X:Good P (jo P p d U)){x:Fact}(u:x.runs P hk d=O):
  x.n≤x.z∧Good P (fun f'=>if f'=x.f then x.call f' else fun _ _=> .no ""):=by
 obtain⟨v0,t0,y,g⟩:=(KB (P:=P) W d).1 _ _ _ _ u;obtain⟨c1,g⟩:=dd g;obtain⟨c2,g⟩:=dd g;obtain⟨c3,g⟩:=dd g;obtain⟨c4,g⟩:=dd g;obtain⟨c5,g⟩:=dd g;obtain⟨c6,F⟩:=dd g;have ev:=ry _ _ c1;subst ev;have en:=kx c2;have t:=sy c3;have c4:=pU c4;have c5:=pU c5;have c6:=pU c6;have F:∀b,b∈x.pre.map (·.1)→b<x.n:=fun b H=>ax (pU F b (by rw[lJ];exact H))
 obtain⟨z,r,K,er,L,a0,k⟩:=X.framed x.f x.args x.start x.v t0 y;have z:x.n≤x.z:=by rw[en]at z;exact z
 have er:t0.r=r:=by rw[er];show r++ []=r;simp
 have L:t0.w=K:=by rw[L];show K++ []=K;simp
 have i:∀c,c∉x.pre.map (·.1)→x.start.h.get c=J:=by
  intro c l;show(lay x.pre Tr.e).get c=J;rw[lX l,Tr.Me]
 refine⟨z,⟨?_,?_,?_⟩⟩
 ·intro f av
  split
  ·exact Fact.IK z f av
  ·exact .no _
 ·intro f av s v s' h
  split at h
  ·rename_i C;subst C
   exact X.ok _ _ _ _ _ y
  ·cases h
 ·intro f av s v s' h B0 w0 ρ w vs hv hr N
  split at h
  ·rename_i C
   subst C;obtain⟨C,rfl,rfl⟩:=Fact.KE h;obtain⟨e1,e2,e3⟩:=Fact.Ej C;subst e2;have N:ib ρ x.n x.z:=by have:=N;rw[e1]at this;exact this
   let E:S:=⟨s.h.KC x.n (x.z-x.n),x.n,[],[]⟩
   have j:∀c,E.h.get c=if x.n≤c∧c<x.z then J else s.h.get c:=by
    intro c;show(s.h.KC x.n (x.z-x.n)).get c=_;rw[Tr.GV];have:x.n+(x.z-x.n)=x.z:=bf
    rw[this]
   obtain⟨m,h1,Q,_,_,h3,h4⟩:=k E rfl (fun c l=>by
    rw[←er]at l;rcases uv (c4 c l)with hi | ⟨hi,W⟩
    ·rw[j,if_pos hi,i c (fun hm=>by have:=F c hm;omega)]
    ·obtain⟨o,ho⟩:=MJ W
     have hm:c∈x.pre.map (·.1):=by
      by_cases hm:c∈x.pre.map (·.1)
      ·exact hm
      ·have:=i c hm
       have e:(lay x.pre Tr.e).get c=J:=this;rw[e]at ho;cases ho
     rw[j,if_neg bf];exact(II e3 hm).symm) (fun c a b=>by
    have b:c<x.z:=by rw[en]at b;exact b
    have a:x.n≤c:=a
    rw[j,if_pos ⟨a,b⟩,i c (fun hm=>by have:=F c hm;omega)])
   have Q:m.n=x.z:=by rw[Q,en]
   have hrel:Rel B0 w0 ρ E.h w:=hr.sub fun c o e hd=>by
    rw[j]at e
    split at e
    ·cases e
    ·exact e
   have n:=X.calls x.f x.args E x.v m h1 B0 w0 ρ w vs hv hrel (by show ib ρ x.n m.n;rw[Q];exact N);refine qE n ?_;rintro e w' ⟨v',rfl,ρ',R,hV,hR⟩;have R:Ext ρ ρ' x.n m.n:=R;rw[Q]at R;refine⟨v',rfl,ρ',?_,hV,hR.sub fun c o e hd=>?_⟩
   ·show Ext ρ ρ' s.n x.z
    rw[e1];exact R
   ·have e:(lay x.post s.h).get c=I o:=e
    rw[en]at h3 h4;by_cases hm:c∈x.post.map (·.1)
    ·rw[II t hm]at e
     rw[←e];refine h3 c ?_;rcases uv (c6 c (by rw[lJ];exact hm))with hi | ⟨_,hi⟩
     ·exact .inr hi
     ·left;have:=Ei hi;rw[L]at this;exact this
    ·rw[lX hm]at e
     have q:¬ (x.n≤c∧c<x.z):=by
      intro hi;obtain⟨B,κ,H,_⟩:=hr.obj c o e hd;rw[N c hi.1 hi.2]at H;cases H
     have T:c∉K:=by
      intro T;rw[←L]at T;rcases uv (c5 c T)with hi | ⟨_,hi⟩
      ·exact q hi
      ·have:=Ei hi;rw[lJ]at this;exact hm this
     have:c<E.n∨x.z≤c:=by
      show c<x.n∨x.z≤c;omega
     rw[h4 c T this,j,if_neg q];exact e
  ·cases h
end
end Go.Ev
namespace Go.Ev
open Go.RowKit (Below)
section
variable {P:aQ}
noncomputable def mb:List Fact→Nat→Option bR
 | [],_=>J
 | x::l,n=>cond (ak n x.n) (I x.call) (mb l n)
noncomputable def xe:List (Nat×List Fact)→Nat→Nat→Option bR
 | [],_,_=>J
 | p::T,f,n=>cond (ak f p.1) (mb p.2 n) (xe T f n)
theorem GW:∀(l:List Fact)(n:Nat),match wT l n with
  | some g=>∃h,mb l n=I h∧∀c args s κ,g.run c args s κ=O→∀f,∃v s',h f args s=.ok v s'∧κ v s'=O
  | none=>mb l n=J
 | [],n=>rfl
 | x::l,n=>by
  have a:wT (x::l) n=aA (motive:=fun _=>Option EU) (wT l n) (I (leap x)) (ak n x.n):=rfl;have b:mb (x::l) n=cond (ak n x.n) (I x.call) (mb l n):=rfl;rw[a,b]
  cases ak n x.n with
  | false=>exact GW l n
  | true=>
   refine⟨x.call,rfl,?_⟩;intro c args s κ h f;obtain⟨d,h⟩:=dd h;exact⟨x.v,x.out s,by unfold Fact.call;rw[d],h⟩
theorem GX:∀T:List (Nat×List Fact),Eh (hooks T) (xe T)
 | [],f=>fun _=>rfl
 | p::T,f=>by
  have d:hooks (p::T) f=aA (motive:=fun _=>Option HF) (hooks T f) (I ⟨wT p.2⟩) (ak f p.1):=rfl;have e:∀n,xe (p::T) f n=cond (ak f p.1) (mb p.2 n) (xe T f n):=fun _=>rfl
  rw[d];simp only[e]
  cases ak f p.1 with
  | false=>exact GX T f
  | true=>
   intro n;have:=GW p.2 n
   show match wT p.2 n with
    | some g=>∃h,mb p.2 n=I h∧∀c args s κ,s.n=n→g.run c args s κ=O→∃v a,h f args s=.ok v a∧κ v a=O
    | none=>mb p.2 n=J
   cases b:wT p.2 n with
   | none=>rw[b]at this;exact this
   | some g=>
    rw[b]at this;obtain⟨h,i,j⟩:=this;exact⟨h,i,fun c args s κ _ k=>j c args s κ k f⟩
def bJ(P:aQ)(x:Fact):Prop:=x.n≤x.z∧Good P (fun a=>if a=x.f then x.call a else fun _ _=> .no "")
def bq(P:aQ)(T:List (Nat×List Fact)):Prop:=∀p,p∈T→∀x,x∈p.2→x.f=p.1∧bJ P x
theorem Br:∀{l:List Fact}{n:Nat}{g:bR},mb l n=I g→∃x,x∈l∧g=x.call
 | [],_,_,h=>by cases h
 | x::l,n,g,h=>by
  have h:cond (ak n x.n) (I x.call) (mb l n)=I g:=h
  cases a:ak n x.n with
  | true=>rw[a]at h;cases h;exact⟨x,by simp,rfl⟩
  | false=>
   rw[a]at h;obtain⟨y,b,e⟩:=Br h;exact⟨y,by simp[b],e⟩
theorem Ek:∀{T:List (Nat×List Fact)}{f n:Nat}{g:bR},xe T f n=I g→∃p,p∈T∧p.1=f∧∃x,x∈p.2∧g=x.call
 | [],_,_,_,h=>by cases h
 | p::T,f,n,g,h=>by
  have h:cond (ak f p.1) (mb p.2 n) (xe T f n)=I g:=h
  cases a:ak f p.1 with
  | true=>
   rw[a]at h;exact⟨p,by simp,(kx a).symm,Br h⟩
  | false=>
   rw[a]at h;obtain⟨q,b,r⟩:=Ek h;exact⟨q,by simp[b],r⟩
theorem KG(hm:P.follows .mixedOrders=O){T:List (Nat×List Fact)}(a:bq P T)(d:Nat):Good P (jo P (xe T) d U):=by
 refine(DZ (fun nt b ops=>i2.draw hm b ops) ?_ d).1;intro f n g h;obtain⟨p,c,rfl,x,i,rfl⟩:=Ek h;obtain⟨e,_,j⟩:=a p c x i;rw[←e];exact j
theorem Facts.good(hm:P.follows .mixedOrders=O){T:List (Nat×List Fact)}(b:bq P T){d:Nat}:∀{l:List Fact},Facts.run P (hooks T) d l=O→∀x,x∈l→bJ P x
 | [],_,x,a=>by cases a
 | y::l,h,x,a=>by
  obtain⟨c,e⟩:=dd h;rcases List.mem_cons.mp a with rfl | a
  ·exact Fact.good (GX T) (KG hm b d) c
  ·exact Facts.good hm b e x a
theorem bJ.calls{x:Fact}(h:bJ P x){a:Nat}{b w:V}{ρ:Env}{t:Tr AO}{vs:List Value}(c:x.fits x.args ⟨t,x.n,[],[]⟩=O)(d:cq ρ x.args vs)(f:Rel a b ρ t w)(g:ib ρ x.n x.z):
  Calls P x.f ⟨vs⟩ w (fun e w'=>∃v' ρ',e=.returned v'∧Ext ρ ρ' x.n x.z∧VR ρ' x.v v'∧Rel a b ρ' (lay x.post t) w'):=by
 have i:(if x.f=x.f then x.call x.f else fun _ _=> .no "") x.args ⟨t,x.n,[],[]⟩=.ok x.v (x.out ⟨t,x.n,[],[]⟩):=by
  rw[if_pos rfl];unfold Fact.call;rw[c]
 refine qE (h.2.calls x.f x.args _ _ _ i a b ρ w vs d f g) ?_;rintro e w' ⟨v',rfl,ρ',j,k,l⟩;exact⟨v',ρ',rfl,j,k,l⟩
end
end Go.Ev
namespace Go.Ev
open Go.RowKit (Below)
section
variable {P:aQ} {B0:Nat} {w0 w w':V} {ρ:Env} {h:Tr AO}
theorem bq.nil:bq P []:=fun _ a=>by cases a
theorem bq.cons{f:Nat}{l:List Fact}{T:List (Nat×List Fact)}(c:∀x,x∈l→x.f=f∧bJ P x)(t:bq P T):bq P ((f,l)::T):=by
 intro p a x b;rcases List.mem_cons.mp a with rfl | a
 ·exact c x b
 ·exact t p a x b
theorem dI.nil{f:Nat}:∀x:Fact,x∈([]:List Fact)→x.f=f∧bJ P x:=fun _ a=>by cases a
theorem dI.cons{f:Nat}{x:Fact}{l:List Fact}(b:x.f=f)(c:bJ P x)(d:∀y,y∈l→y.f=f∧bJ P y):∀y,y∈x::l→y.f=f∧bJ P y:=by
 intro y a;rcases List.mem_cons.mp a with rfl | a
 ·exact⟨b,c⟩
 ·exact d y a
theorem Rel.below(r:Rel B0 w0 ρ h w)(b:Below w.heap.size w w'):Rel B0 w0 ρ h w':=by
 have d:=r.z8;have a:=r.base;refine⟨d.trans (b.mono a),Nat.le_trans a b.size,?_,r.inj⟩;intro f o e g;obtain⟨B,κ,i,j,c,k⟩:=r.obj f o e g;refine⟨B,κ,i,j,Nat.lt_of_lt_of_le c b.size,?_⟩;rw[b.block B c];exact k
theorem Rel.none(b:Below B0 w0 w)(a:B0≤w.heap.size):Rel B0 w0 (fun _=> .none) (Tr.e:Tr AO) w:=by
 refine⟨b,a,?_,?_⟩
 ·intro c o e _
  rw[Tr.Me]at e;cases e
 ·intro c d o g B κ f e
  rw[Tr.Me]at e;cases e
end
end Go.Ev
open Go Go.Ev
namespace Go.Proofs
def hm: prog.follows .mixedOrders=O:=by decide +kernel
end Go.Proofs
