/- What the law asks, in parts: ZEvAG ZEvAH ZFb ZFc ZFd ZFe ZFf ZFg ZFh ZFi ZFj. -/
import Derived.Test.YtdgllhcfablaoaaGreatMg13
import Derived.Test.YtdgllhcfablaoaaGreatMg11
set_option linter.all false
set_option maxRecDepth 100000
set_option maxHeartbeats 16000000
open Bool renaming false→U,true→O,rec→aA,and_eq_true→aM,not_eq_true'→fm,eq_iff_iff→gU,or_eq_false_iff→ji,or_eq_true→rG
open Option renaming some→I,none→J,map_some→dl,rec→gL,getD_some→kT
open Go renaming World→V,TypeId→aN,Operand→aP,Program→aQ,Oper→aH,IntKind→cZ,BinOp→gY,Call→kE
open Nat renaming le_trans→aa,beq→ak,le_of_ble_eq_true→ax,eq_of_beq_eq_true→aI,ble→aG,lt_or_ge→aL,succ→bS,blt→bM,le_refl→bP,ble_eq_true_of_le→cA,zero_add→cO,add_zero→dg,min_eq_left→eR,lt_succ_of_le→fk,beq_refl→jH,xor_lt_two_pow→jO,lt_of_le_of_lt→oT,or_lt_two_pow→pW,lt_trichotomy→pX,ble_eq→qB,and_lt_two_pow→vK,div_eq_of_lt→zg,beq_eq→BA
open Int renaming ofNat→a_,ofNat_eq_natCast→cx,natCast_add→rF
open Go.Region renaming ready→bj,binds→cU
open List renaming rec→bK,getElem?_eq_none→dp,length_cons→eI,getElem?_cons_zero→bQ,mem_of_getElem?→eW,getD_eq_getElem?_getD→eX,append_nil→eH,getElem?_take→fD,any_eq_false→gS,map_cons→ik,getElem?_map→eL,all_eq_true→kV,getElem?_zip_eq_some→lv,all_cons→lA,length_nil→lK,all_append→lL,filter_cons→nm,mem_filter→nX,map_append→nY,getElem?_range→oH,cons→n_,zip_cons_cons→oU,range→qC,mem_range→sX,drop_drop→sZ,getElem?_of_mem→tc,any_cons→uV,map_map→wu,map_snd_zip→zi,map_reverse→zj,map_fst_zip→zk
open Option.some renaming injEq→bU,inj→rD
open Array renaming getD_eq_getD_getElem?→cv,replicate→dP,getElem?_eq_none→fa,toList_append→fR,getElem?_eq_getElem→gr,all_eq_true_iff_forall_mem→mK
open Go.Op renaming operands→cY
open Go.Call renaming operands→dJ
open Go.Region.linearise renaming go→d_
open Go.IntKind renaming bits→iS
open Go.Steps renaming trans→kq
open ToString renaming toString→vC
open Go.Oper renaming apart_spec→Ay
namespace Go.Ev
def Bf(ops:Array aH)(j i:Nat):Bool:=((Y_ ops).l.getD i 0).testBit j
theorem Bh(b:List Nat):∀(l:List Edge)(s j:Nat),(pd b l s).testBit j=O→s.testBit j=O∨∃e∈l,cU .any e=O∧(j=e.on∨(b.getD e.on 0).testBit j=O)
 | [],s,j,h=> .inl h
 | e::l,s,j,h=>by
  have h:(pd b l (cond (cU .any e) (s ||| 2 ^ e.on ||| b.getD e.on 0) s)).testBit j=O:=h;rcases Bh b l _ j h with a | ⟨d,f,c,g⟩
  ·cases c:cU .any e with
   | false=>rw[c]at a;exact .inl a
   | true=>
    rw[c]at a;simp only[cond,Nat.testBit_or,rG]at a;rcases a with(a | a) | a
    ·exact .inl a
    ·refine .inr ⟨e,by simp,c,.inl ?_⟩
     rw[Nat.testBit_two_pow]at a;simpa[eq_comm]using a
    ·exact .inr ⟨e,by simp,c,.inr a⟩
  ·exact .inr ⟨d,by simp[f],c,g⟩
theorem D2:∀(l:List aH)(a:List Nat),(tN l a).take a.length=a∧∀(k:Nat)(o:aH),l[k]?=I o→(tN l a).getD (a.length+k) 0=pd ((tN l a).take (a.length+k)) o.after.toList 0
 | [],a=>⟨by simp[tN],fun k o h=>by simp at h⟩
 | o::l,a=>by
  obtain⟨b,c⟩:=D2 l (a++ [pd a o.after.toList 0]);have e:tN (o::l) a=tN l (a++ [pd a o.after.toList 0]):=rfl;rw[←e]at b c;have g:(a++ [pd a o.after.toList 0]).length=a.length+1:=dR
  rw[g]at b c
  have f:(tN (o::l) a).take a.length=a:=by
   have:=congrArg (List.take a.length) b;rw[List.take_take,eR bf]at this;rw[this];simp
  refine⟨f,?_⟩;intro k i d
  cases k with
  | zero=>
   simp only[bQ,bU]at d;subst d;rw[dg,f];have:((tN (o::l) a).take (a.length+1))[a.length]?=I (pd a o.after.toList 0):=by rw[b];simp
   rw[fD,if_pos bf]at this;rw[eX,this];rfl
  | succ k=>
   have:=c k i (by simpa using d);rw[show a.length+(k+1)=a.length+1+k by omega];exact this
theorem RM{ops:Array aH}{i j:Nat}{o:aH}(b:ops[i]?=I o)(h:Bf ops j i=O):∃e∈o.after.toList,cU .any e=O∧(j=e.on∨Bf ops j e.on=O):=by
 unfold Bf at h;have a:=(D2 ops.toList []).2 i o (by simpa using b);simp only[lK,cO]at a;have e:(Y_ ops).l=tN ops.toList []:=rfl;rw[e,a]at h;rcases Bh _ _ _ _ h with h | ⟨x,c,d,f⟩
 ·simp at h
 ·refine⟨x,c,d,f.imp id ?_⟩
  intro h;unfold Bf;rw[e];rw[eX,fD]at h
  split at h
  ·rw[eX];exact h
  ·simp at h
theorem uh:∀(b:List Bool)(a:List Rec)(y:Rec),clashes b a y=U→∀(k:Nat)(x:Rec),b[k]?=I O→a[k]?=I x→clash x y=U
 | [],_,_,_,k,x,h,_=>by simp at h
 | _::_,[],_,_,k,x,_,h=>by simp at h
 | u::b,e::a,y,h,k,x,c,d=>by
  cases k with
  | zero=>
   simp only[bQ,bU]at c d;subst c d;have h:(clash e y||clashes b a y)=U:=h;simp only[ji]at h;exact h.1
  | succ k=>
   have f:clashes b a y=U:=by
    cases u with
    | false=>exact h
    | true=>
     have h:(clash e y||clashes b a y)=U:=h;simp only[ji]at h;exact h.2
   exact uh b a y f k x (by simpa using c) (by simpa using d)
theorem ui{ops:Array aH}{o:aH}:∀(a:List Bool)(l:List aH),mw ops o a l=O→∀(k:Nat)(x:aH),a[k]?=I O→l[k]?=I x→x.apart ops o=O
 | [],_,_,k,x,h,_=>by simp at h
 | _::_,[],_,k,x,_,h=>by simp at h
 | u::a,d::l,h,k,x,b,c=>by
  cases k with
  | zero=>
   simp only[bQ,bU]at b c;subst b c;have h:(d.apart ops o&&mw ops o a l)=O:=h;simp only[aM]at h;exact h.1
  | succ k=>
   have e:mw ops o a l=O:=by
    cases u with
    | false=>exact h
    | true=>
     have h:(d.apart ops o&&mw ops o a l)=O:=h;simp only[aM]at h;exact h.2
   exact ui a l e k x (by simpa using b) (by simpa using c)
theorem D4{ops:Array aH}{i j:Nat}(h:j<i)(a:Bf ops j i=U):(fC ops i).l[j]?=I O:=by
 unfold fC;simp only[eL,oH h,dl];unfold Bf at a;rw[a];rfl
theorem sr{a z:Nat}{l:List Nat}(h:Dj a z l=U):∀i∈l,i<a∨z≤i:=by
 intro i hi;unfold Dj at h;by_cases b:a=z
 ·omega
 ·have:ak a z=U:=by
   cases c:ak a z with
   | false=>rfl
   | true=>exact absurd (aI c) b
  rw[this]at h;simp only[cond,gS]at h;have:=h i hi;by_cases d:a≤i
  ·by_cases e:i<z
   ·exfalso;apply this
    rw[cA d];have:bM i z=O:=cA e;rw[this];rfl
   ·omega
  ·omega
theorem ss{a b:List Nat}(h:meets a b=U):∀i∈a,i∉b:=by
 intro i hi c;unfold meets at h;simp only[gS]at h;exact h i hi (List.any_eq_true.mpr ⟨i,c,jH i⟩)
structure Run(P:aQ)(nt:Nat)(ops:Array aH)(cf:bR) where
 F:Nat→Fr
 H:Nat→Tr AO
 n:Nat→Nat
 r:Nat→List Nat
 w:Nat→List Nat
 v:Nat→Y
 mono:∀i,i<ops.size→n i≤n (i+1)
 frame:∀(i:Nat)(o:aH),ops[i]?=I o→F (i+1)=(F i).put nt o.dst (v i)
 keep:∀i,i<ops.size→∀id,id∉w i→(id<n i∨n (i+1)≤id)→(H (i+1)).get id=(H i).get id
 again:∀(i:Nat)(o:aH),ops[i]?=I o→∀s2:S,s2.n=n i→(∀id,id∈r i→s2.h.get id=(H i).get id)→(∀id,n i≤id→id<n (i+1)→s2.h.get id=(H i).get id)→
  ∃s2',pR P ops o cf (F i).t (F i).bI s2=.ok (v i) s2'∧s2'.n=n (i+1)∧
   (∀id,(id∈w i∨(n i≤id∧id<n (i+1)))→s2'.h.get id=(H (i+1)).get id)∧(∀id,id∉w i→(id<n i∨n (i+1)≤id)→s2'.h.get id=s2.h.get id)
 apart:∀(j i:Nat)(x y:aH),j<i→ops[j]?=I x→ops[i]?=I y→Bf ops j i=U→x.apart ops y=O
 clash:∀(j i:Nat),j<i→i<ops.size→Bf ops j i=U→
  (∀id,(id∈w j∨(n j≤id∧id<n (j+1)))→id∉r i∧¬ (id∈w i∨(n i≤id∧id<n (i+1))))∧(∀id,id∈r j→¬ (id∈w i∨(n i≤id∧id<n (i+1))))
 vals:∀(i:Nat)(o:aH),ops[i]?=I o→isVal o=O
 edges:∀(i:Nat)(o:aH),ops[i]?=I o→∀e∈o.after.toList,cU .any e=O→e.on<i
section
variable {P:aQ} {nt:Nat} {cf:bR} {ops:Array aH}
theorem uk:∀(l:List aH)(i:Nat)(a:List Rec)(fr:Fr)(s:S)(x:X)(b:Fr)(s':S),a.length=i→gp P nt ops ((l.zipIdx i).map fun(o,i)=>(i,o)) a cf fr s=.ok (x,b) s'→
  x=.gI∧∃(F:Nat→Fr)(T:Nat→S)(X:Nat→Rec),F i=fr∧T i=s∧F (i+l.length)=b∧T (i+l.length)=s'∧a=(qC i).map X∧
   ∀k o,l[k]?=I o→gl (c_ P nt ops o cf (F (i+k))) (T (i+k))=.ok (F (i+k+1),X (i+k)) (T (i+k+1))∧clashes (fC ops (i+k)).l ((qC (i+k)).map X) (X (i+k))=U
 | [],i,a,fr,s,x,b,s',hi,h=>by
  cases h;refine⟨rfl,fun _=>fr,fun _=>s,fun j=>a.getD j ⟨0,0,[],[]⟩,rfl,rfl,rfl,rfl,?_,fun k o h=>by simp at h⟩;refine List.ext_getElem? fun j=>?_
  by_cases n:j<i
  ·rw[eL,oH n]
   simp only[dl,eX];rw[List.getElem?_eq_getElem bf];rfl
  ·rw[dp bf,dp (by simp;omega)]
 | o::l,i,a,fr,s,x,b,s',hi,h=>by
  have h:(match gl (c_ P nt ops o cf fr) s with | .ok (fr,x) s=>cond (clashes (fC ops i).l a x) (Rs.no ("clash " ++vC i++ " @ " ++o.pos)) (gp P nt ops ((l.zipIdx (i+1)).map fun(o,i)=>(i,o)) (a++ [x]) cf fr s) | .no y=>Rs.no y)=.ok (x,b) s':=h
  cases d:gl (c_ P nt ops o cf fr) s with
  | no y=>rw[d]at h;cases h
  | ok p q=>
   obtain⟨e,y⟩:=p;rw[d]at h;dsimp only at h
   cases f:clashes (fC ops i).l a y with
   | true=>rw[f]at h;cases h
   | false=>
    rw[f]at h;obtain⟨r,F,T,X,t,u,v,w,c,z⟩:=uk l (i+1) (a++ [y]) e q x b s' (by simp[hi]) h;rw[List.range_succ,nY]at c;obtain⟨c,g⟩:=List.append_inj c (by simp[hi]);have g:y=X i:=by simpa using g
    refine⟨r,fun j=>if j=i then fr else F j,fun j=>if j=i then s else T j,X,by simp,by simp,?_,?_,c,?_⟩
    ·simp only[eI]
     rw[if_neg bf,←v];congr 1;omega
    ·simp only[eI]
     rw[if_neg bf,←w];congr 1;omega
    ·intro k B m
     cases k with
     | zero=>
      simp only[bQ,bU]at m;subst m;simp only[dg,if_true,if_neg (show ¬i+1=i by omega),t,u,←g,←c];exact⟨d,f⟩
     | succ k=>
      have:=z k B (by simpa using m);rw[show i+(k+1)=i+1+k by omega];simp only[if_neg (show ¬i+1+k=i by omega),if_neg (show ¬i+1+k+1=i by omega)];exact this
theorem pS(h:(pe ops).b=O){i:Nat}{o:aH}(c:ops[i]?=I o):isVal o=O∧(∀e∈o.after.toList,cU .any e=O→e.on<i)∧mw ops o (fC ops i).l ops.toList=O:=by
 unfold pe at h;simp only[kV]at h
 have hm:(o,i)∈ops.toList.zipIdx:=by
  rw[List.mem_zipIdx_iff_getElem?];simpa using c
 have:=h _ hm;simp only[aM,kV,rG,fm]at this;obtain⟨⟨d,a⟩,f⟩:=this;refine⟨d,?_,f⟩;intro e g b;rcases a e g with a | a
 ·rw[a]at b;cases b
 ·have:=ax a;omega
theorem Iv(hf:iD cf)(Q:(pe ops).b=O){fr t:Fr}{s s':S}{x:Ev.X}(h:gp P nt ops (ops.toList.zipIdx.map fun(o,i)=>(i,o)) [] cf fr s=.ok (x,t) s'):
  x=.gI∧∃R:Run P nt ops cf,R.F 0=fr∧R.H 0=s.h∧R.n 0=s.n∧R.F ops.size=t∧R.H ops.size=s'.h∧R.n ops.size=s'.n:=by
 obtain⟨hx,F,T,X,e1,e2,e3,e4,_,z⟩:=uk ops.toList 0 [] fr s x t s' rfl h;simp only[cO,Array.length_toList]at e3 e4 z;refine⟨hx,?_⟩
 have z:∀k o,ops[k]?=I o→gl (c_ P nt ops o cf (F k)) (T k)=.ok (F (k+1),X k) (T (k+1))∧clashes (fC ops k).l ((qC k).map X) (X k)=U:=by
  intro k o f;exact z k o (by simpa using f)
 have key:∀k,∃q:List Nat×List Nat×Y,∀o,ops[k]?=I o→
   (T k).n≤(T (k+1)).n∧F (k+1)=(F k).put nt o.dst q.2.2∧X k=⟨(T k).n,(T (k+1)).n,q.1.filter (my (T k).n (T (k+1)).n),q.2.1.filter (my (T k).n (T (k+1)).n)⟩∧
   (∀b,b∉q.2.1→(b<(T k).n∨(T (k+1)).n≤b)→(T (k+1)).h.get b=(T k).h.get b)∧
   ∀u:S,u.n=(T k).n→(∀b,b∈q.1→u.h.get b=(T k).h.get b)→(∀b,(T k).n≤b→b<(T (k+1)).n→u.h.get b=(T k).h.get b)→
    ∃e,pR P ops o cf (F k).t (F k).bI u=.ok q.2.2 e∧e.n=(T (k+1)).n∧
     (∀b,(b∈q.2.1∨((T k).n≤b∧b<(T (k+1)).n))→e.h.get b=(T (k+1)).h.get b)∧(∀b,b∉q.2.1→(b<(T k).n∨(T (k+1)).n≤b)→e.h.get b=u.h.get b):=by
  intro k
  cases d:ops[k]? with
  | none=>exact⟨([],[],cE),fun o h=>by cases h⟩
  | some o=>
   have W:=(z k o d).1;unfold gl at W
   split at W
   ·rename_i a s1 a0
    injection W with h1 h2;injection h1 with ha hX;have tn:(T (k+1)).n=s1.n:=by rw[←h2]
    have th:(T (k+1)).h=s1.h:=by rw[←h2]
    have hv:=(pS Q d).1;obtain⟨v,B,C⟩:=(ug hv).mp a0;obtain⟨n1,r,w,f1,f2,k1,g⟩:=Fe hf ops o (F k).t (F k).bI _ v s1 B;simp only[eH]at f1 f2;refine⟨(r,w,v),?_⟩;rintro o' h
    cases h
    rw[tn,th];refine⟨n1,by rw[←ha];exact C,by rw[←hX,f1,f2],k1,?_⟩;intro u hn l b0;obtain⟨e,g1,g2,_,_,g5,g6⟩:=g u hn l b0;exact⟨e,g1,g2,g5,g6⟩
   ·cases W
 have c:∀i,i<ops.size→∃o,ops[i]?=I o:=fun i hi=>⟨ops[i],by simp[hi]⟩
 have e0:∀i o,ops[i]?=I o→i<ops.size:=fun i o d=>by
  rcases aL i ops.size with h | h
  ·exact h
  ·rw[fa h]at d;cases d
 obtain⟨q,f⟩:=Classical.skolem.mp key;refine⟨{ F:=F,H:=fun i=>(T i).h,n:=fun i=>(T i).n,r:=fun i=>(q i).1,w:=fun i=>(q i).2.1,v:=fun i=>(q i).2.2,mono:=?_,frame:=?_,keep:=?_,again:=?_,apart:=?_,clash:=?_,vals:=?_,edges:=?_ },e1,congrArg S.h e2,congrArg S.n e2,e3,congrArg S.h e4,congrArg S.n e4⟩
 ·intro i hi
  obtain⟨o,d⟩:=c i hi;exact(f i o d).1
 ·intro i o d
  exact(f i o d).2.1
 ·intro i hi
  obtain⟨o,d⟩:=c i hi;exact(f i o d).2.2.2.1
 ·intro i o d
  exact(f i o d).2.2.2.2
 ·intro j i x y p hx hy hb
  exact ui _ _ (pS Q hy).2.2 j x (D4 p hb) (by simpa using hx)
 ·intro j i p hi hb
  obtain⟨o,d⟩:=c i hi;obtain⟨oj,E⟩:=c j bf;have hc:=uh _ _ _ (z i o d).2 j (X j) (D4 p hb) (by rw[eL,oH p];rfl)
  have hm:∀m k,j+1+m=k→k≤ops.size→(T (j+1)).n≤(T k).n:=by
   intro m
   induction m with
   | zero=>intro k h _;rw[←h];exact bP _
   | succ m ih=>
    intro k h f0;have h1:=ih (j+1+m) rfl bf;obtain⟨o2,c0⟩:=c (j+1+m) bf;have h2:=(f _ o2 c0).1;rw[←h];exact aa h1 h2
  have d0:=hm (i-(j+1)) i bf bf;have g0:=(f j oj E).1;rw[(f j oj E).2.2.1,(f i o d).2.2.1]at hc;unfold Ev.clash at hc;simp only[ji]at hc;obtain⟨⟨⟨⟨⟨⟨c1,c2⟩,c3⟩,c4⟩,c5⟩,c6⟩,c7⟩:=hc;have m1:=ss c1;have m2:=ss c2;have m3:=ss c3;have i4:=sr c4;have i5:=sr c5;have i6:=sr c6;have i7:=sr c7;simp only[rj]at m1 m2 m3 i4 i5 i6 i7;refine⟨?_,?_⟩
  ·intro b K
   by_cases L:(T j).n≤b∧b<(T (j+1)).n
   ·refine⟨?_,?_⟩
    ·intro l
     have:=i6 b ⟨l,by omega⟩;omega
    ·rintro(h | h)
     ·have:=i4 b ⟨h,by omega⟩;omega
     ·omega
   ·have K:b∈(q j).2.1:=by rcases K with h | h;exact h;exact absurd h L
    have N:¬ ((T i).n≤b∧b<(T (i+1)).n):=by
     intro h;have:=i5 b ⟨K,by omega⟩;omega
    refine⟨?_,?_⟩
    ·intro l
     exact m1 b ⟨K,by omega⟩ ⟨l,by omega⟩
    ·rintro(h | h)
     ·exact m3 b ⟨K,by omega⟩ ⟨h,by omega⟩
     ·exact N h
  ·intro b l
   by_cases L:(T j).n≤b∧b<(T (j+1)).n
   ·rintro(h | h)
    ·have:=i4 b ⟨h,by omega⟩;omega
    ·omega
   ·rintro(h | h)
    ·by_cases N:(T i).n≤b∧b<(T (i+1)).n
     ·have:=i7 b ⟨l,by omega⟩;omega
     ·exact m2 b ⟨h,by omega⟩ ⟨l,by omega⟩
    ·have:=i7 b ⟨l,by omega⟩;omega
 ·intro i o d
  exact(pS Q d).1
 ·intro i o d
  exact(pS Q d).2.1
end
end Go.Ev
namespace Go.Ev
open Go.RowKit (Below)
def Iw(P:aQ)(bI:Bool)(ops:Array aH)(R:Act→V→Prop):Nat→Array Bool→Act→V→Prop
 | 0,_,a,w=>R a w
 | fuel+1,b,a,w=>(bj .any ops b=[]→R a w)∧∀i∈bj .any ops b,lp P bI ops i a w (Iw P bI ops R fuel (b.setIfInBounds i O))
section
variable {P:aQ} {nt B0:Nat} {w0:V} {cf:bR} {ops:Array aH}
theorem v_{bI:Bool}{R:Act→V→Prop}:∀(fuel t:Nat)(c:Array Bool)(a:Act)(w:V),Iw P bI ops R fuel c a w→Ir P bI ops (d_ .any ops fuel t c []) a w R
 | 0,t,c,a,w,h=>fun b k cs _=>⟨a,w,h,.refl _ _⟩
 | fuel+1,t,c,a,w,⟨n,o⟩=>by
  simp only[d_]
  change Ir P bI ops (match (bj .any ops c)[t%(bj .any ops c).length]? with
   | some i=>d_ .any ops fuel (t/(bj .any ops c).length) (c.setIfInBounds i O) [i]
   | none=>[].reverse) a w R
  cases hi:(bj .any ops c)[t%(bj .any ops c).length]? with
  | none=>
   have d:bj .any ops c=[]:=by
    cases e:bj .any ops c with
    | nil=>rfl
    | cons x l=>
     rw[e]at hi;have f:t%(x::l).length<(x::l).length:=Nat.mod_lt _ dR;simp at hi;simp at f;omega
   exact fun b k cs _=>⟨a,w,n d,.refl _ _⟩
  | some i=>
   simp only[];rw[linearise_go_acc,List.reverse_singleton,List.singleton_append];intro b k cs m;obtain⟨a1,p,e,st⟩:=o i (eW hi) b k cs (d_ .any ops fuel (t/(bj .any ops c).length) (c.setIfInBounds i O) []) m;obtain⟨a2,q,g,j⟩:=v_ fuel _ _ a1 p e b k cs m;exact⟨a2,q,g,kq st j⟩
structure Mid(R:Run P nt ops cf)(B0:Nat)(w0:V)(ρ:Env)(listed:Array Bool)(a:Act)(w:V):Prop where
 size:listed.size=ops.size
 closed:∀i j,i<ops.size→listed.getD i U=O→Bf ops j i=O→listed.getD j U=O
 at_:∃(fr:Fr)(h:Tr AO)(ρ':Env),kR ρ' nt fr a∧Rel B0 w0 ρ' h w∧fr.d=(R.F 0).d∧fr.bI=(R.F 0).bI∧
  (∀id,∃j,j≤ops.size∧(∀k,k<ops.size→(id∈R.w k∨(R.n k≤id∧id<R.n (k+1)))→(listed.getD k U=O↔k<j))∧h.get id=(R.H j).get id)∧
  (∀x,∃j,j≤ops.size∧(∀k o,ops[k]?=I o→o.dst=I x→(listed.getD k U=O↔k<j))∧fr.t x=(R.F j).t x)∧
  Ext ρ ρ' (R.n 0) (R.n ops.size)∧(∀i,i<ops.size→listed.getD i U=U→ib ρ' (R.n i) (R.n (i+1)))
theorem RN(fr:Fr)(a:Option Nat)(v:Y):(fr.put nt a v).d=fr.d:=by
 unfold Fr.put;cases a with
 | none=>rfl
 | some d=>dsimp only;cases bM d nt<;>rfl
theorem J2(fr:Fr)(a:Option Nat)(v:Y):(fr.put nt a v).bI=fr.bI:=by
 unfold Fr.put;cases a with
 | none=>rfl
 | some d=>dsimp only;cases bM d nt<;>rfl
theorem D5(fr:Fr){a:Option Nat}(v:Y){x:Nat}(h:a≠I x):(fr.put nt a v).t x=fr.t x:=by
 unfold Fr.put;cases a with
 | none=>rfl
 | some d=>
  dsimp only
  cases bM d nt with
  | false=>rfl
  | true=>
   show cond (ak x d) v (fr.t x)=fr.t x
   cases b:ak x d with
   | false=>rfl
   | true=>exact absurd (by rw[aI b]) h
theorem OX{fr a:Fr}{b:Option Nat}{v:Y}{x:Nat}(h:fr.t x=a.t x):(fr.put nt b v).t x=(a.put nt b v).t x:=by
 unfold Fr.put;cases b with
 | none=>exact h
 | some d=>
  dsimp only
  cases bM d nt with
  | false=>exact h
  | true=>
   show cond (ak x d) v (fr.t x)=cond (ak x d) v (a.t x);rw[h]
namespace Run
variable (R:Run P nt ops cf)
theorem yZ{i:Nat}{o:aH}(a:ops[i]?=I o):i<ops.size:=by
 rcases aL i ops.size with h | h
 ·exact h
 ·rw[fa h]at a;cases a
theorem B7{i:Nat}(h:i<ops.size):∃o,ops[i]?=I o:=⟨ops[i],by simp[h]⟩
theorem GD{i j:Nat}(h:i≤j)(b:j≤ops.size):R.n i≤R.n j:=by
 induction j with
 | zero=>
  have:i=0:=bf
  subst this;exact bP _
 | succ j a=>
  by_cases e:i=j+1
  ·subst e;exact bP _
  ·exact aa (a bf bf) (R.mono j bf)
theorem Yq{i:Nat}(h:i≤ops.size):(R.F i).d=(R.F 0).d∧(R.F i).bI=(R.F 0).bI:=by
 induction i with
 | zero=>exact⟨rfl,rfl⟩
 | succ i a=>
  obtain⟨o,b⟩:=B7 (ops:=ops) (i:=i) bf;rw[R.frame i o b,RN,J2];exact a bf
theorem h_eq{id i j:Nat}(a:i≤j)(d:j≤ops.size)(h:∀k,i≤k→k<j→¬ (id∈R.w k∨(R.n k≤id∧id<R.n (k+1)))):(R.H j).get id=(R.H i).get id:=by
 induction j with
 | zero=>
  have:i=0:=bf
  subst this;rfl
 | succ j b=>
  by_cases e:i=j+1
  ·subst e;rfl
  ·have:=h j bf bf
   simp only[not_or]at this;rw[R.keep j bf id this.1 bf];exact b bf bf fun k c f=>h k c bf
theorem Yr{x i j:Nat}(b:i≤j)(f:j≤ops.size)(h:∀k o,i≤k→k<j→ops[k]?=I o→o.dst≠I x):(R.F j).t x=(R.F i).t x:=by
 induction j with
 | zero=>
  have:i=0:=bf
  subst this;rfl
 | succ j c=>
  by_cases e:i=j+1
  ·subst e;rfl
  ·obtain⟨o,a⟩:=B7 (ops:=ops) (i:=j) bf
   rw[R.frame j o a,D5 _ _ (h j o bf bf a)];exact c bf bf fun k o d g=>h k o d bf
theorem RO{id i j:Nat}{L:Nat→Prop}(hi:i≤ops.size)(f:j≤ops.size)(d:∀k,k<ops.size→(id∈R.w k∨(R.n k≤id∧id<R.n (k+1)))→(L k↔k<i))(e:∀k,k<ops.size→(id∈R.w k∨(R.n k≤id∧id<R.n (k+1)))→(L k↔k<j)):
  (R.H j).get id=(R.H i).get id:=by
 rcases Nat.le_total i j with h | h
 ·exact R.h_eq h f fun k a b c=>by have:=(d k bf c).symm.trans (e k bf c);omega
 ·exact(R.h_eq h hi fun k a b c=>by have:=(d k bf c).symm.trans (e k bf c);omega).symm
theorem RP{x i j:Nat}{L:Nat→Prop}(hi:i≤ops.size)(g:j≤ops.size)(e:∀k o,ops[k]?=I o→o.dst=I x→(L k↔k<i))(f:∀k o,ops[k]?=I o→o.dst=I x→(L k↔k<j)):
  (R.F j).t x=(R.F i).t x:=by
 rcases Nat.le_total i j with h | h
 ·exact R.Yr h g fun k o a b c d=>by have:=(e k o c d).symm.trans (f k o c d);omega
 ·exact(R.Yr h hi fun k o a b c d=>by have:=(e k o c d).symm.trans (f k o c d);omega).symm
end Run
theorem pu{l:Array Bool}{i k:Nat}(h:i<l.size):(l.setIfInBounds i O).getD k U=if k=i then O else l.getD k U:=by
 rw[cv,Array.getElem?_setIfInBounds,cv];by_cases e:k=i
 ·subst e;simp[h]
 ·rw[if_neg (fun a=>e a.symm),if_neg e]
theorem mem_ready{a:Array Bool}{i:Nat}(k:a.size=ops.size)(h:i∈bj .any ops a):i<ops.size∧a.getD i U=U∧∃o,ops[i]?=I o∧∀e∈o.after.toList,cU .any e=O→a.getD e.on U=O:=by
 unfold bj at h;simp only[nX,sX,aM,fm]at h;obtain⟨c,d,b⟩:=h;obtain⟨o,f⟩:=Run.B7 (ops:=ops) c;refine⟨c,?_,o,f,?_⟩
 ·rw[cv,gr bf]at d⊢
  exact d
 ·rw[f]at b
  simp only[dl,kT,mK]at b;intro e g j;have:=b e (by simpa using g);simpa[j]using this
theorem ready_nil{R:Run P nt ops cf}{a:Array Bool}(j:a.size=ops.size)(h:bj .any ops a=[]):∀i,i<ops.size→a.getD i U=O:=by
 intro i
 induction i using Nat.strongRecOn with
 | ind i d=>
  intro hi
  cases b:a.getD i U with
  | true=>rfl
  | false=>
   exfalso;obtain⟨o,c⟩:=Run.B7 (ops:=ops) hi
   have:i∈bj .any ops a:=by
    unfold bj;simp only[nX,sX,aM,fm];refine⟨hi,?_,?_⟩
    ·rw[cv,gr bf]at b⊢
     exact b
    ·rw[c]
     simp only[dl,kT,mK];intro e f
     cases g:cU .any e with
     | false=>rfl
     | true=>
      have:=R.edges i o c e (by simpa using f) g;simp only[Bool.not_true,Bool.false_or];exact d e.on this bf
   rw[h]at this;cases this
theorem Mid.ordered{R:Run P nt ops cf}{ρ:Env}{b:Array Bool}{a:Act}{w:V}(m:Mid R B0 w0 ρ b a w){i:Nat}(hi:i∈bj .any ops b):
  (∀j,Bf ops j i=O→b.getD j U=O)∧(∀k,k<ops.size→Bf ops i k=O→b.getD k U=U):=by
 obtain⟨r,l,o,g,n⟩:=mem_ready m.size hi;refine⟨?_,?_⟩
 ·intro j p
  obtain⟨e,h,c,f⟩:=RM g p;have d:=n e h c;rcases f with rfl | f
  ·exact d
  ·exact m.closed e.on j (by have:=R.edges i o g e h c;omega) d f
 ·intro k q c
  cases d:b.getD k U with
  | false=>rfl
  | true=>have:=m.closed k i q d c;rw[l]at this;cases this
theorem Mid.step{R:Run P nt ops cf}(hg:Good P cf){ρ:Env}{b:Array Bool}{a:Act}{w:V}(m:Mid R B0 w0 ρ b a w){i:Nat}(hi:i∈bj .any ops b):
  lp P (R.F 0).bI ops i a w (Mid R B0 w0 ρ (b.setIfInBounds i O)):=by
 obtain⟨S,r,o,T,_⟩:=mem_ready m.size hi;obtain⟨W,b0⟩:=m.ordered hi;obtain⟨fr,h,ρ',hF,hR,hd,E,hh,ht,hE,u⟩:=m.at_
 have N:∀f,(f∈R.r i∨(f∈R.w i∨(R.n i≤f∧f<R.n (i+1))))→∀k,k<ops.size→(f∈R.w k∨(R.n k≤f∧f<R.n (k+1)))→(b.getD k U=O↔k<i):=by
  intro f g k C H;rcases pX k i with l | l | l
  ·refine⟨fun _=>l,fun _=>?_⟩
   cases v:Bf ops k i with
   | true=>exact W k v
   | false=>
    exfalso;obtain⟨c1,c2⟩:=R.clash k i l S v;rcases g with g | g
    ·exact(c1 f H).1 g
    ·exact(c1 f H).2 g
  ·subst l
   rw[r];exact⟨fun h=>by(cases h),fun h=>by omega⟩
  ·refine⟨fun t=>?_,fun h=>by omega⟩
   exfalso
   cases v:Bf ops i k with
   | true=>rw[b0 k C v]at t;cases t
   | false=>
    obtain⟨c1,c2⟩:=R.clash i k l C v;rcases g with g | g
    ·exact c2 f g H
    ·exact(c1 f g).2 H
 have c0:∀f,(f∈R.r i∨(f∈R.w i∨(R.n i≤f∧f<R.n (i+1))))→h.get f=(R.H i).get f:=by
  intro f g;obtain⟨j,X,c,e⟩:=hh f;rw[e];exact R.RO (L:=fun k=>b.getD k U=O) bf X (N f g) c
 have Q:∀x,(x∈o.looksAt ops∨o.dst=I x)→∀k ok,ops[k]?=I ok→ok.dst=I x→(b.getD k U=O↔k<i):=by
  intro x q k ok n p;have C:=Run.yZ n;rcases pX k i with l | l | l
  ·refine⟨fun _=>l,fun _=>?_⟩
   cases v:Bf ops k i with
   | true=>exact W k v
   | false=>
    exfalso;obtain⟨c1,c2,c3⟩:=Ay (R.apart k i ok o l n T v);rcases q with q | q
    ·exact c1 x p q
    ·exact c2 x p q
  ·subst l
   rw[r];exact⟨fun h=>by(cases h),fun h=>by omega⟩
  ·refine⟨fun t=>?_,fun h=>by omega⟩
   exfalso
   cases v:Bf ops i k with
   | true=>rw[b0 k C v]at t;cases t
   | false=>
    obtain⟨c1,c2,c3⟩:=Ay (R.apart i k o ok l T n v);rcases q with q | q
    ·exact c3 x p q
    ·exact c2 x q p
 have d0:∀x,(x∈o.looksAt ops∨o.dst=I x)→fr.t x=(R.F i).t x:=by
  intro x q;obtain⟨j,X,c,e⟩:=ht x;rw[e];exact R.RP (L:=fun k=>b.getD k U=O) bf X (Q x q) c
 obtain⟨s2,F,e0,h5,h6⟩:=R.again i o T ⟨h,R.n i,[],[]⟩ rfl (fun f g=>c0 f (.inl g)) (fun f x y=>c0 f (.inr (.inr ⟨x,y⟩)));have f0:=R.Yq (i:=i) bf
 have F:pR P ops o cf fr.t fr.bI ⟨h,R.n i,[],[]⟩=.ok (R.v i) s2:=by
  rw[E,←f0.2,Iu fun d hd=>d0 d (.inl hd)];exact F
 have a0:c_ P nt ops o cf fr ⟨h,R.n i,[],[]⟩=.ok (fr.put nt o.dst (R.v i)) s2:=(ug (R.vals i o T)).mpr ⟨_,F,rfl⟩;have hs:=(vZ (s:=⟨h,R.n i,[],[]⟩) hg T hF hR a0 (by rw[e0];exact u i S r)).2;rw[E]at hs;refine hs.mono ?_;rintro a' w' ⟨ρ2,z,g0,h0⟩;rw[e0]at z;have z:Ext ρ' ρ2 (R.n i) (R.n (i+1)):=z;have B:i<b.size:=by rw[m.size];exact S
 refine⟨by simp[m.size],?_,fr.put nt o.dst (R.v i),s2.h,ρ2,g0,h0,by rw[RN];exact hd,by rw[J2];exact E,?_,?_,?_,?_⟩
 ·intro k j C t v
  rw[pu B]at t⊢;by_cases e:j=i
  ·rw[if_pos e]
  ·rw[if_neg e]
   by_cases e2:k=i
   ·subst e2;exact W j v
   ·rw[if_neg e2]at t;exact m.closed k j C t v
 ·intro f
  by_cases H:f∈R.w i∨(R.n i≤f∧f<R.n (i+1))
  ·refine⟨i+1,by omega,?_,h5 f H⟩
   intro k C K;rw[pu B];by_cases e:k=i
   ·subst e;rw[if_pos rfl];exact⟨fun _=>by omega,fun _=>rfl⟩
   ·rw[if_neg e,N f (.inr H) k C K];omega
  ·obtain⟨j,X,c,e⟩:=hh f
   refine⟨j,X,?_,?_⟩
   ·intro k C K
    rw[pu B,if_neg (fun e=>by subst e;exact H K)];exact c k C K
   ·simp only[not_or]at H
    rw[h6 f H.1 bf];exact e
 ·intro x
  by_cases q:o.dst=I x
  ·refine⟨i+1,by omega,?_,?_⟩
   ·intro k ok n p
    rw[pu B];by_cases e:k=i
    ·subst e;rw[if_pos rfl];exact⟨fun _=>by omega,fun _=>rfl⟩
    ·rw[if_neg e,Q x (.inr q) k ok n p];omega
   ·rw[R.frame i o T]
    exact OX (d0 x (.inr q))
  ·obtain⟨j,X,c,e⟩:=ht x
   refine⟨j,X,?_,?_⟩
   ·intro k ok n p
    have i0:k≠i:=fun e=>by subst e;rw[T]at n;cases n;exact q p
    rw[pu B,if_neg i0];exact c k ok n p
   ·rw[D5 _ _ q];exact e
 ·refine⟨fun f x e=>z.le f x (hE.le f x e),?_⟩
  intro f e hr;refine z.new f (hE.new f e hr) ?_;have h1:=R.GD (i:=0) (j:=i) bf bf;have h2:=R.GD (i:=i+1) (j:=ops.size) bf bf;omega
 ·intro k C t f x y
  rw[pu B]at t;by_cases e:k=i
  ·rw[if_pos e]at t;cases t
  ·rw[if_neg e]at t
   refine z.new f (u k C t f x y) ?_;rcases aL k i with h | h
   ·have:=R.GD (i:=k+1) (j:=i) bf bf;omega
   ·have:=R.GD (i:=i+1) (j:=k) bf bf;omega
theorem Mid.done{R:Run P nt ops cf}{ρ:Env}{f:Array Bool}{a:Act}{w:V}(m:Mid R B0 w0 ρ f a w)(g:∀i,i<ops.size→f.getD i U=O):
  ∃ρ',Ext ρ ρ' (R.n 0) (R.n ops.size)∧kR ρ' nt (R.F ops.size) a∧Rel B0 w0 ρ' (R.H ops.size) w:=by
 obtain⟨fr,h,ρ',hF,r,H,q,K,N,Q,_⟩:=m.at_
 have z:∀l,h.get l=(R.H ops.size).get l:=by
  intro l;obtain⟨j,s,c,e⟩:=K l;rw[e];refine R.RO (L:=fun k=>f.getD k U=O) (bP _) s (fun k C _=>⟨fun _=>C,fun _=>g k C⟩) c
 have S:fr=R.F ops.size:=by
  have p:fr.t=(R.F ops.size).t:=by
   funext x
   obtain⟨j,s,c,e⟩:=N x;rw[e];exact R.RP (L:=fun k=>f.getD k U=O) (bP _) s (fun k o E _=>⟨fun _=>Run.yZ E,fun _=>g k (Run.yZ E)⟩) c
  have n:=R.Yq (i:=ops.size) (bP _);rw[←H,←q]at n
  cases T:fr with
  | mk t d b=>
   rw[T]at p n
   cases u:R.F ops.size with
   | mk X d2 b2=>
    rw[u]at p n;dsimp only at p n;rw[p,n.1,n.2]
 refine⟨ρ',Q,S▸hF,⟨r.z8,r.base,?_,?_⟩⟩
 ·intro l x e
  rw[←z]at e;exact r.obj l x e
 ·intro l v x W B κ y e p F n
  rw[←z]at e F;exact r.inj l v x W B κ y e p F n
theorem ul{R:Run P nt ops cf}(e:Good P cf){ρ:Env}:∀(fuel:Nat)(b:Array Bool)(a:Act)(w:V),b.toList.count U≤fuel→Mid R B0 w0 ρ b a w→
  Iw P (R.F 0).bI ops (fun a w=>∃ρ',Ext ρ ρ' (R.n 0) (R.n ops.size)∧kR ρ' nt (R.F ops.size) a∧Rel B0 w0 ρ' (R.H ops.size) w) fuel b a w
 | 0,b,a,w,j,m=>by
  refine m.done fun i hi=>?_
  have f:b.toList.count U=0:=bf
  rw[List.count_eq_zero]at f;have k:=m.size
  cases d:b.getD i U with
  | true=>rfl
  | false=>
   exfalso;apply f;rw[cv,gr bf]at d;simp only[kT]at d;rw[←d];simp
 | fuel+1,b,a,w,j,m=>by
  refine⟨fun h=>m.done (ready_nil (R:=R) m.size h),?_⟩;intro i hi;obtain⟨l,c,_⟩:=mem_ready m.size hi;refine(m.step e hi).mono fun n o p=>ul e fuel _ n o ?_ p
  have k:=m.size
  have d:b[i]'bf=U:=by
   rw[cv,gr bf]at c;exact c
  rw[Array.toList_setIfInBounds,List.count_set (by simp;omega)];have:b.toList[i]'(by simp;omega)=U:=by simpa using d
  have g:0<b.toList.count U:=List.count_pos_iff.mpr (by rw[←this];exact List.getElem_mem _);rw[this];show b.toList.count U-1+0≤fuel;omega
theorem y7{cf:bR}:∀(l:List (Nat×aH))(a:List Rec)(fr:Fr)(s:S)(x:X)(b:Fr)(s':S),gp P nt ops l a cf fr s=.ok (x,b) s'→b.bI=fr.bI
 | [],_,fr,s,x,b,s',h=>by cases h;rfl
 | (i,o)::l,a,fr,s,x,b,s',h=>by
  have e:gp P nt ops ((i,o)::l) a cf fr s=(match gl (c_ P nt ops o cf fr) s with | .ok (fr,x) s=>cond (clashes (fC ops i).l a x) (Rs.no ("clash " ++vC i++ " @ " ++o.pos)) (gp P nt ops l (a++ [x]) cf fr s) | .no y=>Rs.no y):=rfl;rw[e]at h
  cases c:gl (c_ P nt ops o cf fr) s with
  | no y=>rw[c]at h;cases h
  | ok p g=>
   obtain⟨d,y⟩:=p;rw[c]at h;dsimp only at h
   cases f:clashes (fC ops i).l a y with
   | true=>rw[f]at h;cases h
   | false=>
    rw[f]at h;rw[y7 l _ d g x b s' h];unfold gl at c
    split at c
    ·rename_i q n j
     injection c with k r;injection k with m t;subst m;exact Bg j
    ·cases c
theorem i2.draw(hm:P.follows .mixedOrders=O)(id:Nat)(ops:Array aH):i2 P nt (.region id ops O) (oC P nt ops O):=by
 show i2 P nt (.region id ops O) (cond (pe ops).b ⟨fun cf fr s=>gp P nt ops (ops.toList.zipIdx.map fun(o,i)=>(i,o)) [] cf fr s⟩ ⟨fun _ _ _=> .no "drawn"⟩)
 cases t:(pe ops).b with
 | false=>exact i2.no _
 | true=>
  refine⟨fun cf u fr=>sU u ops _ _ fr,?_,fun cf fr s x e n h=>y7 _ _ fr s x e n h⟩;intro cf p fr s x e n h B0 w0 ρ a w f v z b k cs B;obtain⟨C,R,l,E,F,H,K,L⟩:=Iv p.framed t h;subst C
  have g:Mid R B0 w0 ρ (dP ops.size U) a { w with drawn:=w.drawn+1 }:=by
   have c:∀i,(dP ops.size U).getD i U=U:=by
    intro i;rw[cv,Array.getElem?_replicate]
    split<;>rfl
   refine⟨by simp,(fun i j _ h _=>by rw[c]at h;cases h),fr,s.h,ρ,f,v.drew,by rw[l],by rw[l],?_,?_,Ext.refl _ _ _,?_⟩
   ·intro id
    refine⟨0,by omega,fun k _ _=>?_,by rw[E]⟩;rw[c];exact⟨fun h=>by(cases h),fun h=>by omega⟩
   ·intro x
    refine⟨0,by omega,fun k _ _ _=>?_,by rw[l]⟩;rw[c];exact⟨fun h=>by(cases h),fun h=>by omega⟩
   ·intro i hi _ id x y
    have q:=R.GD (i:=0) (j:=i) bf bf;have r:=R.GD (i:=i+1) (j:=ops.size) bf bf;exact z id bf bf
  have d:=ul p ops.size _ a _ dR g;rw[l]at d;have m:=v_ ops.size (w.tape w.drawn (.order b.fn id)) _ a _ d;obtain⟨N,Q,⟨ρ',q,r,S⟩,st⟩:=m b k cs B;refine⟨.normal,N,Q,⟨rfl,ρ',?_,?_,?_⟩,.head step_region_draw ?_⟩
  ·rw[←F,←L];exact q
  ·rw[←H];exact r
  ·rw[←K];exact S
  ·rw[hm]
   exact kq st (.one step_region_end)
end
end Go.Ev
namespace Go.Ev
section
variable {P:aQ} {d nt:Nat}
def toF(t:TF d):Nat→Y:=fun i=>cond (bM i (8 ^ d)) (TT.get d i t) cE
theorem nR{a b:Nat}:bM a b=O↔a<b:=⟨fun h=>ax h,fun h=>cA h⟩
theorem su{a b:Nat}:bM a b=U↔ ¬a<b:=by
 rw[←nR];cases bM a b<;>simp
theorem toF_set{j:Nat}(h:j<8 ^ d)(v:Y)(t:TF d):toF (TT.set d j v t)=fun i=>cond (ak i j) v (toF t i):=by
 funext i
 unfold toF
 cases hi:bM i (8 ^ d)with
 | true=>
  have a:=nR.mp hi;show TT.get d i (TT.set d j v t)=cond (ak i j) v (TT.get d i t);rw[TT.eN _ _ _ _ _ h a];by_cases e:i=j
  ·subst e;rw[if_pos rfl,jH];rfl
  ·rw[if_neg e]
   cases b:ak i j with
   | true=>exact absurd (aI b) e
   | false=>rfl
 | false=>
  have a:=su.mp hi
  cases b:ak i j with
  | true=>exact absurd (by rw[aI b];exact h) a
  | false=>rfl
theorem OY(e:nt≤8 ^ d)(a:Option Nat)(v:Y)(t:TF d):∃c,(∀k,(eB d nt a).run v t k=k c)∧∀ds b,(⟨toF c,ds,b⟩:Fr)=Fr.put ⟨toF t,ds,b⟩ nt a v:=by
 unfold eB Fr.put
 cases a with
 | none=>exact⟨t,fun _=>rfl,fun _ _=>rfl⟩
 | some j=>
  dsimp only
  cases f:bM j nt with
  | false=>exact⟨t,fun _=>rfl,fun _ _=>rfl⟩
  | true=>
   have g:=nR.mp f;refine⟨TT.set d j v t,fun k=>yN d j v t k,fun ds b=>?_⟩;show(⟨toF (TT.set d j v t),ds,b⟩:Fr)=⟨fun i=>cond (ak i j) v (toF t i),ds,b⟩;rw[toF_set bf]
theorem rl{o:aP}(h:cy o=O)(t:TF d):Df (toF t) o=I ((cW d o).run t):=by
 cases o with
 | tmp i=>
  show I (cond (bM i (8 ^ d)) (TT.get d i t) cE)=I ((cond (bM i (8 ^ d)) (tG.rec (motive:=fun _=>GF d) (fun f=>⟨f⟩) (sel d i)) ⟨fun _=>cE⟩:GF d).run t)
  cases bM i (8 ^ d)with
  | true=>exact congrArg I (DE d i t).symm
  | false=>rfl
 | const v=>
  show(Ho v).v=I ((cW d (.const v)).run t);unfold cy at h;unfold cW Ho;dsimp only at h⊢
  cases b:De v with
  | none=>rw[b]at h;cases h
  | some a=>rfl
 | global g=>cases h
 | func f=>rfl
theorem jF:∀{l:List aP},l.all cy=O→∀t:TF d,evs (toF t) l=some ((lk d l).run t)
 | [],_,_=>rfl
 | o::l,h,t=>by
  simp only[lA,aM]at h;show(match Df (toF t) o,evs (toF t) l with | some v,some a=>some (v::a) | _,_=>J)=some ((cW d o).run t::(lk d l).run t);rw[rl h.1 t,jF h.2 t]
theorem mC{x:Y}{f:cZ→Int→Bool}(h:sg x f=O):∃k n,x=.int k n∧f k n=O:=by
 cases x with
 | int k n=>exact⟨k,n,rfl,h⟩
 | _=>cases h
theorem mD{x:Y}{f:Int→Bool}(h:wR x f=O):∃n,x=.int .i64 n∧f n=O:=by
 cases x with
 | int k n=>cases k<;>first | exact⟨n,rfl,h⟩ | cases h
 | _=>cases h
theorem lq{x:Y}{f:Nat→Nat→Bool}(h:mi x f=O):∃b o,x=.ptr b o∧f b o=O:=by
 cases x with
 | ptr b o=>exact⟨b,o,rfl,h⟩
 | _=>cases h
theorem J3{x:Y}{f:List Y→Bool}(h:L4 x f=O):∃l,x=.dS l∧f l=O:=by
 cases x with
 | dS l=>exact⟨l,rfl,h⟩
 | _=>cases h
theorem rn{x:Y}{p q:Bool}(h:Dm x p q=O):∃b,x=.bool b∧(cond b p q)=O:=by
 cases x with
 | bool b=>cases b<;>exact⟨_,rfl,h⟩
 | _=>cases h
theorem Ix{x:Y}(h:Hu x=O):∃b o,x=.ptr b o:=by
 cases x with
 | ptr b o=>exact⟨b,o,rfl⟩
 | _=>cases h
theorem Mx{x:Y}{f:Nat→Bool}(h:QC x f=O):∃n,tI x=I n∧f n=O:=by
 cases x with
 | slc b o n p c=>exact⟨n,rfl,h⟩
 | oM=>exact⟨0,rfl,h⟩
 | iC=>exact⟨0,rfl,h⟩
 | _=>cases h
theorem J5{x:Y}{f:Nat→Nat→Nat→Bool}(h:L5 x f=O):∃b o n p c,x=.slc b o n p c∧f b o n=O:=by
 cases x with
 | slc b o n p c=>exact⟨b,o,n,p,c,rfl,h⟩
 | _=>cases h
theorem My{x:Y}{f:Fn→List Y→List Y→Bool}(h:QD x f=O):∃g a c,x=.fn g a c∧f g a c=O:=by
 cases x with
 | fn g a c=>exact⟨g,a,c,rfl,h⟩
 | _=>cases h
theorem Iy{x:Y}{f:List Y→Bool}(h:Ni x f=O):∃l,x=.agg l∧f l=O:=by
 cases x with
 | agg l=>exact⟨l,rfl,h⟩
 | _=>cases h
theorem D6(x:Y):B3 x=x.plain:=by cases x<;>rfl
theorem D7:∀l:List Y,Hw l=l.all Y.plain
 | []=>rfl
 | a::l=>by
  show aA (motive:=fun _=>Bool) U (Hw l) (B3 a)=_;rw[D6,D7 l];simp only[lA]
  cases a.plain<;>rfl
theorem nz{b x y:Bool}:(aA (motive:=fun _=>Bool) x y b=O)→(b=O∧y=O)∨(b=U∧x=O):=by
 cases b
 ·exact fun h=> .inr ⟨rfl,h⟩
 ·exact fun h=> .inl ⟨rfl,h⟩
theorem dd{b y:Bool}(h:aA (motive:=fun _=>Bool) U y b=O):b=O∧y=O:=by
 cases b
 ·cases h
 ·exact⟨rfl,h⟩
theorem vB(b:Nat)(h:Tr AO){o:AO}(e:(mz b).run h.t=I o):h.get b=I o:=by
 unfold mz at e
 cases a:aG (bS b) (nat_lit 262144)with
 | false=>rw[a]at e;cases e
 | true=>
  rw[a]at e;unfold Tr.get;rw[a];exact e
theorem GE(b:Nat)(a:AO)(h:Tr AO){k:TT (Option AO) 6→Bool}(e:(GA b).run (I a) h.t k=O):∃t,(⟨t,h.o⟩:Tr AO)=h.set b a∧k t=O:=by
 unfold GA at e
 cases c:aG (bS b) (nat_lit 262144)with
 | false=>rw[c]at e;cases e
 | true=>
  rw[c]at e;have e:(put 6 b).run (I a) h.t k=O:=e;rw[yN]at e;exact⟨_,(Tr.GB (ax c)).symm,e⟩
theorem Bi{s:S}{b:Nat}{κ:AO→S→Bool}(h:L6 s b κ=O):∃o,s.h.get b=I o∧κ o { s with r:=b::s.r } =O:=by
 obtain⟨c,n,r,w⟩:=s;have h:gL (motive:=fun _=>Bool) U (fun a=>κ a (S.mk c n (b::r) w)) ((mz b).run c.t)=O:=h
 cases d:(mz b).run c.t with
 | none=>rw[d]at h;cases h
 | some o=>rw[d]at h;exact⟨o,vB b c d,h⟩
theorem D9{s:S}{a:AO}{κ:Nat→S→Bool}(h:newF s a κ=O):κ s.n { s with h:=s.h.set s.n a,n:=s.n+1 } =O:=by
 obtain⟨b,n,r,w⟩:=s;have h:(GA n).run (I a) b.t (fun t=>κ n (S.mk (Tr.mk t b.o) (bS n) r w))=O:=h;obtain⟨t,e,h⟩:=GE n a b h;rw[e]at h;exact h
theorem um{o:AO}{f:List Y→Nat→Bool}(h:Dn o f=O):∃c p,o=.row c p∧f c p=O:=by
 cases o with
 | row c p=>exact⟨c,p,rfl,h⟩
 | _=>cases h
theorem OZ(l:List Y):L7 l=l.drop 8:=by
 rcases l with _ | ⟨_,_ | ⟨_,_ | ⟨_,_ | ⟨_,_ | ⟨_,_ | ⟨_,_ | ⟨_,_ | ⟨_,_⟩⟩⟩⟩⟩⟩⟩⟩<;>rfl
theorem GG:∀(n:Nat)(l:List Y),L8 n l=l.drop n
 | 0,l=>rfl
 | n+1,[]=>by simp;rfl
 | n+1,_::l=>GG n l
theorem GH:∀(n:Nat)(l:List Y),Hv n l=l.drop (n*8)
 | 0,l=>by simp;rfl
 | n+1,l=>by
  show Hv n (L7 l)=_;rw[GH n,OZ,sZ]
  congr 1;omega
theorem Aj(n:Nat)(l:List Y):wS n l=l.drop n:=by
 show L8 (n%8) (Hv (n/8) l)=_;rw[GG,GH,sZ]
 congr 1;omega
theorem Bj:∀(n:Nat)(l:List Y)(k:List Y→Bool),QE n l k=O→∃m,takeN n l=I m∧k m=O
 | 0,l,k,h=>⟨[],rfl,h⟩
 | n+1,[],k,h=>by cases h
 | n+1,a::l,k,h=>by
  obtain⟨m,e,h⟩:=Bj n l _ h;exact⟨a::m,by show(takeN n l).map (a:: ·)=_;rw[e];rfl,h⟩
theorem Bl:∀(x l:List Y)(k:List Y→Bool),QF x l k=O→∃m,over x l=I m∧k m=O
 | [],l,k,h=>⟨l,rfl,h⟩
 | a::x,[],k,h=>by cases h
 | a::x,_::l,k,h=>by
  obtain⟨m,e,h⟩:=Bl x l _ h;exact⟨a::m,by show(over x l).map (a:: ·)=_;rw[e];rfl,h⟩
theorem D_:∀(n:Nat)(x l:List Y)(k:List Y→Bool),TS x n l k=O→∃m,putAt n x l=I m∧k m=O
 | 0,x,l,k,h=>Bl x l k h
 | n+1,x,[],k,h=>by cases h
 | n+1,x,a::l,k,h=>by
  obtain⟨m,e,h⟩:=D_ n x l _ h;exact⟨a::m,by show(putAt n x l).map (a:: ·)=_;rw[e];rfl,h⟩
theorem Ea:∀(n:Nat)(x:Y)(l:List Y)(k:List Y→Bool),TR x n l k=O→∃m,putAt n [x] l=I m∧k m=O
 | 0,x,[],k,h=>by cases h
 | 0,x,_::l,k,h=>⟨x::l,rfl,h⟩
 | n+1,x,[],k,h=>by cases h
 | n+1,x,a::l,k,h=>by
  obtain⟨m,e,h⟩:=Ea n x l _ h;exact⟨a::m,by show(putAt n [x] l).map (a:: ·)=_;rw[e];rfl,h⟩
theorem Bm{b a:Nat}{s:S}{κ:Y→S→Bool}(h:Do b a s κ=O):∃v s',s.jW b a 1 oneCell=.ok v s'∧κ v s'=O:=by
 obtain⟨o,e,h⟩:=Bi h;obtain⟨c,p,rfl,h⟩:=um h;have h:bK (motive:=fun _=>Bool) U (fun v _ _=>κ v { s with r:=b::s.r }) (wS a c)=O:=h;rw[Aj]at h
 cases d:c.drop a with
 | nil=>rw[d]at h;cases h
 | cons v l=>
  rw[d]at h;refine⟨v,_,?_,h⟩;unfold S.jW S.look;rw[e];dsimp only;rw[d];rfl
theorem Bn{n b a:Nat}{s:S}{κ:Y→S→Bool}(h:Dp n b a s κ=O):∃v s',s.jW b a n zU=.ok v s'∧κ v s'=O:=by
 obtain⟨o,e,h⟩:=Bi h;obtain⟨c,p,rfl,h⟩:=um h;obtain⟨m,d,h⟩:=Bj _ _ _ h;rw[Aj]at d;refine⟨.agg m,_,?_,h⟩;unfold S.jW S.look;rw[e];dsimp only;rw[d];rfl
theorem Eb{s:S}{b:Nat}{m:List Y→(List Y→Bool)→Bool}{κ:S→Bool}(h:QG s b m κ=O):∃c p j,s.h.get b=I (.row c p)∧m c j=O∧∀g,j g=O→κ (({ s with r:=b::s.r }:S).put b (.row g p))=O:=by
 obtain⟨d,n,r,w⟩:=s;have h:gL (motive:=fun _=>Bool) U (fun a=>Dn a fun c p=>m c fun c=>(GA b).run (I (.row c p)) d.t fun t=>κ (S.mk (Tr.mk t d.o) n (b::r) (b::w))) ((mz b).run d.t)=O:=h
 cases i:(mz b).run d.t with
 | none=>rw[i]at h;cases h
 | some o=>
  rw[i]at h;obtain⟨c,p,rfl,h⟩:=um h;refine⟨c,p,_,vB b d i,h,fun g f=>?_⟩;obtain⟨t,e,f⟩:=GE _ _ d f;rw[e]at f;exact f
theorem GI{s:S}{b a:Nat}{l c d:List Y}{p:Nat}{κ:S→Bool}(f:l.all Y.plain=O)(e:s.h.get b=I (.row c p))(g:putAt a l c=I d)(h:κ (({ s with r:=b::s.r }:S).put b (.row d p))=O):
  ∃s',s.iu b a l (fun s=> .ok cE s)=.ok cE s'∧κ s'=O:=by
 refine⟨_,?_,h⟩;unfold S.iu S.look;rw[f,e];dsimp only[cond];rw[g]
theorem Iz{b a:Nat}{x:Y}{s:S}{κ:S→Bool}(h:Hx b a x s κ=O):x.plain=O∧∃s',s.iu b a [x] (fun s=> .ok cE s)=.ok cE s'∧κ s'=O:=by
 obtain⟨d,h⟩:=dd h;rw[D6]at d;obtain⟨c,p,j,e,h,f⟩:=Eb h;obtain⟨g,i,h⟩:=Ea _ _ _ _ h;exact⟨d,GI (by simp[d]) e i (f g h)⟩
theorem IA{sz b a:Nat}{x:Y}{s:S}{κ:S→Bool}(h:Hy sz b a x s κ=O):x.cells.length=sz∧∃s',s.iu b a x.cells (fun s=> .ok cE s)=.ok cE s'∧κ s'=O:=by
 obtain⟨l,rfl,h⟩:=Iy h;obtain⟨f,h⟩:=dd h;obtain⟨d,h⟩:=dd h;rw[D7]at d;obtain⟨c,p,k,e,h,g⟩:=Eb h;obtain⟨i,j,h⟩:=D_ _ _ _ _ h;exact⟨aI f,GI d e j (g i h)⟩
end
end Go.Ev
namespace Go.Ev
def oG(k:cZ)(n:Nat)(h:n<m_ k):k.wrap (n:Int)=(n:Int):=by
 cases k<;>simp only[m_]at h<;>simp only[IntKind.wrap,iS,IntKind.signed]<;>(try simp)<;>omega
def GJ{k a:cZ}(h:ak (A1 k) (A1 a)=O):k=a:=by
 cases k<;>cases a<;>first | rfl | cases h
def xc{k:cZ}{n:Nat}(h:n<m_ k):n<2 ^ k.bits:=by
 cases k<;>simp only[m_]at h<;>simp only[iS]<;>omega
def cP{op:gY}{x y:Y}{κ:Y→Bool}(h:fP op x y κ=O):∃v,qm op x y=I v∧κ v=O:=by
 unfold fP at h
 cases a:qm op x y with
 | none=>rw[a]at h;cases h
 | some v=>rw[a]at h;exact⟨v,rfl,h⟩
def ml{x y:Y}{f:cZ→Nat→Nat→Bool}{slow:Bool}(h:A2 x y f slow=O):slow=O∨∃k a b,x=.int k (.ofNat a)∧y=.int k (.ofNat b)∧f k a b=O:=by
 obtain⟨k,a,i,j⟩:=mC (x:=x) h;obtain⟨m,b,g,c⟩:=mC (x:=y) j
 cases a with
 | negSucc=>exact .inl c
 | ofNat a=>
  cases b with
  | negSucc=>exact .inl c
  | ofNat b=>
   rcases nz c with⟨e,d⟩ | ⟨_,d⟩
   ·have l:=GJ e
    rw[←l]at g;exact .inr ⟨k,a,b,i,g,d⟩
   ·exact .inl d
def kG{op:gY}(c:op≠.shl)(d:op≠.shr)(k:cZ)(a b:Int):qm op (.int k a) (.int k b)=re op k a b:=by
 cases op<;>first | exact absurd rfl c | exact absurd rfl d | (unfold qm;simp)
def kM(op:gY)(f:Y→Y→(Y→Bool)→Bool):Prop:=∀x y κ,f x y κ=O→∃v,qm op x y=I v∧κ v=O
def kM.slow(op:gY):kM op (fP op):=fun _ _ _ h=>cP h
def succ_le{a b:Nat}(h:aG (bS a) b=O):a<b:=ax h
def ofNat_sub{a b:Nat}(h:b≤a):(a_ a-a_ b)=a_ (a-b):=by simp only[cx];omega
def RR:kM .add TU:=by
 intro x y κ h;obtain⟨a,rfl,h⟩:=mD (x:=x) h;obtain⟨b,rfl,h⟩:=mD (x:=y) h
 cases a with
 | negSucc=>exact cP h
 | ofNat a=>
  cases b with
  | negSucc=>exact cP h
  | ofNat b=>
   rcases nz h with⟨e,h⟩ | ⟨_,h⟩
   ·refine⟨_,?_,h⟩
    rw[kG eM eM];have e:=ax e;have c:a+b<m_ .i64:=by show a+b<9223372036854775808;exact fk e
    have:=oG .i64 (a+b) c;show I (Y.int .i64 (jp .i64 (a_ a+a_ b)))=I (Y.int .i64 (a_ (a+b)));unfold jp;simp only[cx];rw[←rF,this]
   ·exact cP h
def RS:kM .sub TV:=by
 intro x y κ h;obtain⟨a,rfl,h⟩:=mD (x:=x) h;obtain⟨b,rfl,h⟩:=mD (x:=y) h
 cases a with
 | negSucc=>exact cP h
 | ofNat a=>
  cases b with
  | negSucc=>exact cP h
  | ofNat b=>
   rcases nz h with⟨e,h⟩ | ⟨_,h⟩
   ·rcases nz h with⟨c,h⟩ | ⟨_,h⟩
    ·refine⟨_,?_,h⟩
     rw[kG eM eM];have e:=ax e;have c:=ax c;have d:a-b<m_ .i64:=oT (Nat.sub_le a b) (fk c);have:=oG .i64 (a-b) d;show I (Y.int .i64 (jp .i64 (a_ a-a_ b)))=I (Y.int .i64 (a_ (a-b)));rw[ofNat_sub e];unfold jp;simp only[cx];rw[this]
    ·exact cP h
   ·exact cP h
def RT:kM .add TW:=by
 intro x y κ h;rcases ml h with h | ⟨k,a,b,rfl,rfl,h⟩
 ·exact cP h
 ·rcases nz h with⟨e,h⟩ | ⟨_,h⟩
  ·refine⟨_,?_,h⟩
   rw[kG eM eM];have:=oG k (a+b) (succ_le e);show I (Y.int k (jp k (a_ a+a_ b)))=I (Y.int k (a_ (a+b)));unfold jp;simp only[cx];rw[←rF,this]
  ·exact cP h
def RU:kM .sub TX:=by
 intro x y κ h;rcases ml h with h | ⟨k,a,b,rfl,rfl,h⟩
 ·exact cP h
 ·rcases nz h with⟨e,h⟩ | ⟨_,h⟩
  ·rcases nz h with⟨c,h⟩ | ⟨_,h⟩
   ·refine⟨_,?_,h⟩
    rw[kG eM eM];have e:=ax e;have:=oG k (a-b) (by have:=succ_le c;omega);show I (Y.int k (jp k (a_ a-a_ b)))=I (Y.int k (a_ (a-b)));rw[ofNat_sub e];unfold jp;simp only[cx];rw[this]
   ·exact cP h
  ·exact cP h
def J6:kM .mul QH:=by
 intro x y κ h;rcases ml h with h | ⟨k,a,b,rfl,rfl,h⟩
 ·exact cP h
 ·rcases nz h with⟨e,h⟩ | ⟨_,h⟩
  ·refine⟨_,?_,h⟩
   rw[kG eM eM];have:=oG k (a*b) (succ_le e);show I (Y.int k (jp k (a_ a*a_ b)))=I (Y.int k (a_ (a*b)));unfold jp;simp only[cx];rw[←Int.natCast_mul,this]
  ·exact cP h
def O6{k:cZ}{f:Nat→Nat→Nat}{a b:Nat}(c:a<m_ k)(d:b<m_ k)(e:f a b<m_ k):wO k f (a_ a) (a_ b)=I (.int k (a_ (f a b))):=by
 have g:bM a (2 ^ k.bits)=O:=nR.mpr (xc c);have h:bM b (2 ^ k.bits)=O:=nR.mpr (xc d);show cond (bM a (2 ^ k.bits)&&bM b (2 ^ k.bits)) (I (Y.int k (k.wrap (f a b:Nat)))) J=_;rw[g,h,oG k _ e];rfl
def O7(k:cZ):∃m,m_ k=2 ^ m:=by
 cases k
 ·exact⟨7,rfl⟩
 ·exact⟨15,rfl⟩
 ·exact⟨31,rfl⟩
 ·exact⟨63,rfl⟩
 ·exact⟨8,rfl⟩
 ·exact⟨16,rfl⟩
 ·exact⟨32,rfl⟩
 ·exact⟨64,rfl⟩
def ro{op:gY}{g:Nat→Nat→Nat}(f:op≠.shl)(i:op≠.shr)(hi:∀k a b,re op k a b=wO k g a b)(j:∀a b m,a<2 ^ m→b<2 ^ m→g a b<2 ^ m):kM op (Dr op g):=by
 intro x y κ h;rcases ml h with h | ⟨k,a,b,rfl,rfl,h⟩
 ·exact cP h
 ·rcases nz h with⟨e,h⟩ | ⟨_,h⟩
  ·rcases nz h with⟨l,h⟩ | ⟨_,h⟩
   ·refine⟨_,?_,h⟩
    have c:=succ_le e;have d:=succ_le l;rw[kG f i,hi,O6 c d];obtain⟨m,n⟩:=O7 k;rw[n]at c d⊢;exact j a b m c d
   ·exact cP h
  ·exact cP h
def J7:kM .quo QI:=by
 intro x y κ h;rcases ml h with h | ⟨k,a,b,rfl,rfl,h⟩
 ·exact cP h
 ·rcases nz h with⟨e,h⟩ | ⟨_,h⟩
  ·obtain⟨c,h⟩:=dd h
   refine⟨_,?_,h⟩;have f:1≤b:=ax c;rw[kG eM eM];have:=oG k (a/b) (oT (Nat.div_le_self a b) (succ_le e));show(if a_ b=0 then J else I (Y.int k (jp k ((a_ a).tdiv (a_ b)))))=I (Y.int k (a_ (a/b)));rw[if_neg (by simp only[cx];omega)];unfold jp;have d:(a_ a).tdiv (a_ b)=((a/b:Nat):Int):=rfl;rw[d,this];rfl
  ·exact cP h
def J8:kM .rem QJ:=by
 intro x y κ h;rcases ml h with h | ⟨k,a,b,c,d,e⟩
 ·exact cP h
 ·obtain⟨f,g⟩:=dd e
  refine⟨_,?_,g⟩;have i:1≤b:=ax f;rw[c,d,kG eM eM];show(if a_ b=0 then J else I (Y.int k ((a_ a).tmod (a_ b))))=I (Y.int k (a_ (a%b)));rw[if_neg (by simp only[cx];omega)];rfl
def J9:kM .shr QL:=by
 intro x y κ h;obtain⟨k,a,rfl,h⟩:=mC (x:=x) h;obtain⟨l,b,rfl,h⟩:=mC (x:=y) h
 cases a with
 | negSucc=>exact cP h
 | ofNat a=>
  cases b with
  | negSucc=>exact cP h
  | ofNat b=>
   rcases nz h with⟨e,h⟩ | ⟨_,h⟩
   ·refine⟨_,?_,h⟩
    have d:=succ_le e;have c:=xc d;unfold qm;dsimp only;rw[if_neg (by simp only[cx];omega)];have f:(a_ b).toNat=b:=rfl;rw[f]
    have g:a/2 ^ (min b k.bits)=a/2 ^ b:=by
     by_cases i:b≤k.bits
     ·rw[eR i]
     ·rw[Nat.min_eq_right bf,zg c,zg (Nat.lt_of_lt_of_le c (Nat.pow_le_pow_right bf bf))]
    have j:(a_ a).fdiv ((2:Int) ^ (min b k.bits))=((a/2 ^ (min b k.bits):Nat):Int):=by
     have:((2:Int) ^ (min b k.bits))=((2 ^ (min b k.bits):Nat):Int):=dR
     rw[this,Int.fdiv_eq_ediv_of_nonneg _ (Int.natCast_nonneg _)];exact(Int.natCast_ediv a _).symm
    rw[j,g];rfl
   ·exact cP h
def rr{op:gY}{f:Nat→Nat→Bool}(c:op≠.shl)(d:op≠.shr)(hi:∀(k:cZ)(a b:Nat),re op k (a_ a) (a_ b)=I (.bool (f a b))):kM op (Dq op f):=by
 intro x y κ h;obtain⟨a,rfl,h⟩:=mD (x:=x) h;obtain⟨b,rfl,h⟩:=mD (x:=y) h
 cases a with
 | negSucc=>exact cP h
 | ofNat a=>
  cases b with
  | negSucc=>exact cP h
  | ofNat b=>exact⟨_,by rw[kG c d,hi],h⟩
def ru{op:gY}{f:Nat→Nat→Bool}(c:op≠.shl)(d:op≠.shr)(hi:∀(k:cZ)(a b:Nat),re op k (a_ a) (a_ b)=I (.bool (f a b))):kM op (Ds op f):=by
 intro x y κ h;rcases ml h with h | ⟨k,a,b,rfl,rfl,e⟩
 ·exact cP h
 ·exact⟨_,by rw[kG c d,hi],e⟩
def nb{a b:Nat}{p:Bool}{q:Prop}[Decidable q](h:p=O↔q):I (Y.bool (decide q))=I (Y.bool p):=by
 congr 2
 cases p with
 | true=>exact decide_eq_true (h.mp rfl)
 | false=>exact decide_eq_false fun c=>by have:=h.mpr c;cases this
def J_(k:cZ)(a b:Nat):re .eql k (a_ a) (a_ b)=I (.bool (ak a b)):=by
 show I (Y.bool (a_ a==a_ b))=_
 congr 2
 rw[gU,beq_iff_eq,BA];simp only[cx];omega
def Ka(k:cZ)(a b:Nat):re .neq k (a_ a) (a_ b)=I (.bool (JH (ak a b))):=by
 show I (Y.bool (a_ a != a_ b))=_
 congr 2
 have e:JH (ak a b)=!(ak a b):=by cases ak a b<;>rfl
 rw[e];have c:(a_ a != a_ b)=!(a_ a==a_ b):=rfl;rw[c]
 congr 1
 rw[gU,beq_iff_eq,BA];simp only[cx];omega
def Kc(k:cZ)(a b:Nat):re .lss k (a_ a) (a_ b)=I (.bool (aG (bS a) b)):=by
 show I (Y.bool (decide (a_ a<a_ b)))=_
 congr 2
 rw[gU];simp only[decide_eq_true_eq,qB,cx];omega
def Kd(k:cZ)(a b:Nat):re .leq k (a_ a) (a_ b)=I (.bool (aG a b)):=by
 show I (Y.bool (decide (a_ a≤a_ b)))=_
 congr 2
 rw[gU];simp only[decide_eq_true_eq,qB,cx];omega
def Ke(k:cZ)(a b:Nat):re .gtr k (a_ a) (a_ b)=I (.bool (aG (bS b) a)):=by
 show I (Y.bool (decide (a_ a>a_ b)))=_
 congr 2
 rw[gU];simp only[decide_eq_true_eq,qB,cx];omega
def Kf(k:cZ)(a b:Nat):re .geq k (a_ a) (a_ b)=I (.bool (aG b a)):=by
 show I (Y.bool (decide (a_ a≥a_ b)))=_
 congr 2
 rw[gU];simp only[decide_eq_true_eq,qB,cx];omega
def RW(op:gY):kM op (Nj op).run:=by
 cases op
 case add=>exact RR
 case sub=>exact RS
 case mul=>exact J6
 case quo=>exact J7
 case rem=>exact J8
 case and=>exact ro eM eM (fun _ _ _=>rfl) fun a b m c _=>vK a (by assumption)
 case or=>exact ro eM eM (fun _ _ _=>rfl) fun a b m c d=>pW c d
 case xor=>exact ro eM eM (fun _ _ _=>rfl) fun a b m c d=>jO c d
 case shr=>exact J9
 case eql=>exact rr eM eM J_
 case neq=>exact rr eM eM Ka
 case lss=>exact rr eM eM Kc
 case leq=>exact rr eM eM Kd
 case gtr=>exact rr eM eM Ke
 case geq=>exact rr eM eM Kf
 all_goals exact kM.slow _
def RX(op:gY):kM op (Nk op).run:=by
 cases op
 case add=>exact RT
 case sub=>exact RU
 case mul=>exact J6
 case quo=>exact J7
 case rem=>exact J8
 case and=>exact ro eM eM (fun _ _ _=>rfl) fun a b m c _=>vK a (by assumption)
 case or=>exact ro eM eM (fun _ _ _=>rfl) fun a b m c d=>pW c d
 case xor=>exact ro eM eM (fun _ _ _=>rfl) fun a b m c d=>jO c d
 case shr=>exact J9
 case eql=>exact ru eM eM J_
 case neq=>exact ru eM eM Ka
 case lss=>exact ru eM eM Kc
 case leq=>exact ru eM eM Kd
 case gtr=>exact ru eM eM Ke
 case geq=>exact ru eM eM Kf
 all_goals exact kM.slow _
end Go.Ev
namespace Go.Ev
def lW(k:OK):Prop:=∀cf a:bR,k.run cf=k.run a
theorem lW.of(f:List Y→S→RV):lW ⟨fun _=>f⟩:=fun _ _=>rfl
theorem lW.cond{b:Bool}{x y:OK}(a:lW x)(c:lW y):lW (cond b x y):=by cases b;exact c;exact a
theorem lW.fail(w:String):lW (failK w):=fun _ _=>rfl
def jZ:Op→Bool
 | .call c=>(match c.callee with | .builtin _=>O | _=>U)
 | _=>O
section
variable (P:aQ)
theorem Mz(t:Nat):lW (tJ P t):=.cond (.of _) (.fail _)
theorem Kh(t:Nat):lW (qn P t):=.cond (.of _) (.fail _)
theorem Ki(t:Nat)(a:List Nat):lW (oZ P t a):=by
 unfold oZ
 split
 ·exact .cond (.of _) (.fail _)
 ·exact .cond (.of _) (.fail _)
 ·exact .fail _
theorem Ak(t n:Nat)(a:List Nat):lW (kn P t n a):=by
 unfold kn
 split
 ·dsimp only
  split
  ·exact .cond (.of _) (.fail _)
  ·exact .fail _
 ·exact .fail _
theorem BN(t f:Nat):lW (ie P t f):=by
 unfold ie
 split
 ·split
  ·exact .cond (.of _) (.fail _)
  ·exact .fail _
 ·exact .fail _
theorem Kj(t f:Nat):lW (o_ P t f):=by
 unfold o_
 split
 ·split
  ·exact .cond (.of _) (.fail _)
  ·exact .fail _
 ·exact .fail _
theorem BO(t:Nat):lW (ig P t):=by
 unfold ig
 split
 ·exact .cond (.fail _) (.of _)
 ·exact .cond (.fail _) (.of _)
 ·exact .fail _
theorem Kk(t:Nat):lW (pa P t):=by
 unfold pa
 split
 ·exact .of _
 ·exact .cond (.fail _) (.of _)
 ·exact .fail _
theorem Kl(t:Nat)(a b c:Bool):lW (pb P t a b c):=by
 unfold pb
 split
 ·exact .cond (.fail _) (.of _)
 ·exact .of _
 ·exact .cond (.fail _) (.of _)
 ·exact .fail _
theorem BP(t:Nat):lW (li P t):=by
 unfold li
 split
 ·split
  ·exact .cond (.fail _) (.of _)
  ·exact .fail _
 ·exact .fail _
theorem IB(l:List Nat):lW (pK P l):=by
 unfold pK
 split
 ·split
  ·split
   ·refine .cond (.fail _) ?_
    split
    ·exact .of _
    ·split
     ·exact .of _
     ·exact .of _
     ·exact .fail _
   ·exact .fail _
  ·exact .fail _
 ·exact .fail _
theorem MA(l:List Nat):lW (wQ P l):=by
 unfold wQ
 split
 ·split
  ·exact .cond (.fail _) (.of _)
  ·exact .fail _
 ·exact .fail _
theorem Km(l:List Nat):lW (sf P l):=by
 unfold sf
 split
 ·split
  ·split
   ·exact .cond (.fail _) (.of _)
   ·exact .fail _
  ·exact .fail _
 ·exact .fail _
theorem O8(l:List Nat):lW (sS P l):=by
 unfold sS
 split
 ·split
  ·exact .of _
  ·split
   ·exact .of _
   ·exact .fail _
  ·exact .of _
  ·exact .of _
  ·exact .of _
  ·exact .fail _
 ·exact .fail _
theorem O_(l:List Nat):lW (yH P l):=by
 unfold yH
 split
 ·split
  ·exact .of _
  ·exact .fail _
 ·exact .fail _
theorem Ff(b:Builtin)(l:List Nat):lW (zV P b l):=by
 unfold zV
 split
 ·exact IB P l
 ·exact MA P l
 ·exact O8 P l
 ·exact O_ P l
 ·exact .of _
 ·exact .of _
 ·exact Km P l
 ·exact .of _
 ·exact .fail _
theorem Fg(a b:Nat):lW (lG P a b):=by
 unfold lG
 split
 ·exact .of _
 ·exact .of _
 ·split
  ·exact .of _
  ·exact .fail _
 ·split
  ·exact .of _
  ·exact .fail _
 ·exact .fail _
theorem IC(t:Nat)(ok:Bool):lW (pL P t ok):=by
 unfold pL
 split
 ·split
  ·exact .of _
  ·exact .fail _
 ·exact .fail _
theorem BQ(t:Nat):lW (lj P t):=by
 unfold lj
 split
 ·split
  ·exact .of _
  ·exact .fail _
 ·exact .fail _
theorem Al(t:Nat)(ok:Bool):lW (iK P t ok):=by
 unfold iK
 split
 ·split
  ·exact .of _
  ·exact .of _
  ·exact .fail _
 ·exact .fail _
theorem ID(c:SelectCase):lW (tL P c):=by
 unfold tL
 split
 ·split
  ·exact .of _
  ·exact .of _
 ·exact .fail _
theorem Pa(op:gY)(t:Nat)(x y:aP):lW (tM P op t x y):=by
 unfold tM;dsimp only
 split<;>exact .of _
theorem Ec(t:Nat):lW (mh P t):=by
 unfold mh
 split
 ·exact .cond (.of _) (.fail _)
 ·exact .fail _
theorem Kn{o:Op}(h:jZ o=O):lW (gQ P o):=by
 unfold gQ
 split
 ·exact .of _
 ·exact .of _
 ·exact .of _
 ·split
  ·exact .of _
  ·exact .fail _
 ·exact .of _
 ·exact Ki P _ _
 ·exact Ak P _ _ _
 ·exact Mz P _
 ·exact Kh P _
 ·exact .of _
 ·exact Pa P _ _ _ _
 ·exact .of _
 ·exact Fg P _ _
 ·exact .cond (.of _) (.fail _)
 ·exact .of _
 ·exact .of _
 ·exact Ec P _
 ·exact BP P _
 ·exact Kl P _ _ _ _
 ·exact BN P _ _
 ·exact Kj P _ _
 ·exact BO P _
 ·exact Kk P _
 ·exact IC P _ _
 ·exact BQ P _
 ·exact Al P _ _
 ·exact .of _
 ·rename_i c
  unfold lP
  split
  ·exact Ff P _ _
  ·rename_i f a;unfold jZ at h;simp[a]at h
  ·rename_i f b a;unfold jZ at h;simp[a]at h
  ·rename_i f b a;unfold jZ at h;simp[a]at h
 ·exact .of _
 ·split
  ·split
   ·exact .of _
   ·exact .fail _
  ·exact .fail _
 ·split
  ·exact ID P _
  ·exact .fail _
 ·exact .fail _
end
end Go.Ev
namespace Go.Ev
def i9(b:qK)(cf:bR):Prop:=∀f a s κ,b f a s κ=O→∃v c,cf f a s=.ok v c∧κ v c=O
section
variable {P:aQ} {d nt:Nat}
noncomputable def wb(P:aQ)(o:aH)(cf:bR)(t:Nat→Y)(bI:Bool)(s:S):RV:=
 match evs t o.op.operands.toList with
 | none=> .no ""
 | some a=>(match fB o.op with
  | .val | .com=>(gQ P o.op).run cf a s
  | .rcv=>cond bI (.ok .lV s) (.no "")
  | .bI=> .no "")
def cX(P:aQ)(nt:Nat)(o:aH)(f:OF d):Prop:=∀(c:Cx)(cf:bR),i9 c.cf cf→∀t s k,f.run c t s k=O→
 ∃v a e,wb P o cf (toF t) c.bI s=.ok v a∧(∀ds b,(⟨toF e,ds,b⟩:Fr)=Fr.put ⟨toF t,ds,b⟩ nt o.dst v)∧k e a=O
theorem sv{o:aH}:cX P nt o (ET d):=fun _ _ _ _ _ _ h=>by cases h
theorem Am(hnt:nt≤8 ^ d){a:Option Nat}{v:Y}{t:TF d}{k:TF d→Bool}(h:(eB d nt a).run v t k=O):∃c,(∀ds b,(⟨toF c,ds,b⟩:Fr)=Fr.put ⟨toF t,ds,b⟩ nt a v)∧k c=O:=by
 obtain⟨c,e,f⟩:=OY hnt a v t;rw[e]at h;exact⟨c,f,h⟩
theorem cX.fin(hnt:nt≤8 ^ d){o:aH}{cf:bR}{t:TF d}{s s':S}{bI:Bool}{v:Y}{k:TF d→S→Bool}(c:wb P o cf (toF t) bI s=.ok v s')(h:(eB d nt o.dst).run v t (fun t=>k t s')=O):
  ∃v s' a,wb P o cf (toF t) bI s=.ok v s'∧(∀ds b,(⟨toF a,ds,b⟩:Fr)=Fr.put ⟨toF t,ds,b⟩ nt o.dst v)∧k a s'=O:=by
 obtain⟨a,e,f⟩:=Am hnt h;exact⟨v,s',a,c,e,f⟩
theorem gO{o:aH}{cf:bR}{t:Nat→Y}{bI:Bool}{s:S}{a:List Y}(c:evs t o.op.operands.toList=I a)(b:fB o.op=.val∨fB o.op=.com):wb P o cf t bI s=(gQ P o.op).run cf a s:=by
 unfold wb;rw[c];rcases b with b | b<;>rw[b]
theorem An(hnt:nt≤8 ^ d){o:aH}(b:o.op.operands.toList.all cy=O)(e:jZ o.op=O)(f:fB o.op=.val∨fB o.op=.com):cX P nt o (oN P d nt o):=by
 intro c cf g t s k h;have h:Rs.rec (motive:=fun _=>Bool) (fun _=>U) (fun v s=>(eB d nt o.dst).run v t fun t=>k t s) ((gQ P o.op).run JG ((lk d o.op.operands.toList).run t) s)=O:=h;rw[Kn P e JG cf]at h
 cases a:(gQ P o.op).run cf ((lk d o.op.operands.toList).run t) s with
 | no w=>rw[a]at h;cases h
 | ok v i=>
  rw[a]at h;exact cX.fin hnt ((gO (jF b t) f).trans a) h
theorem nh{x:aP}(h:cy x=O)(t:TF d):evs (toF t) [x]=I [(cW d x).run t]:=jF (l:=[x]) (by simp[h]) t
theorem Ed{x y:aP}(h:cy x=O)(a:cy y=O)(t:TF d):evs (toF t) [x,y]=I [(cW d x).run t,(cW d y).run t]:=jF (l:=[x,y]) (by simp[h,a]) t
theorem MB{x y z:aP}(h:cy x=O)(a:cy y=O)(b:cy z=O)(t:TF d):evs (toF t) [x,y,z]=I [(cW d x).run t,(cW d y).run t,(cW d z).run t]:=jF (l:=[x,y,z]) (by simp[h,a,b]) t
theorem all1{x:aP}(h:[x].all cy=O):cy x=O:=by simpa using h
theorem all2{x y:aP}(h:[x,y].all cy=O):cy x=O∧cy y=O:=by simpa using h
theorem aac{x y z:aP}(h:[x,y,z].all cy=O):cy x=O∧cy y=O∧cy z=O:=by simpa using h
variable (hnt:nt≤8 ^ d)
include hnt
theorem GK{o:aH}{x:aP}(b:o.op=.move x∨o.op=.assign x)(e:cy x=O):cX P nt o (QM d nt x o.dst):=by
 intro c cf f t s k h;have h:(eB d nt o.dst).run ((cW d x).run t) t (fun t=>k t s)=O:=h;refine cX.fin hnt ?_ h;rcases b with b | b<;>(rw [gO (a:=[(cW d x).run t]) (by rw[b];exact nh e t) (by rw[b];exact .inl rfl),b];rfl)
theorem Pb{o:aH}{x y z:aP}(a:o.op=.pick x y z)(f:cy x=O∧cy y=O∧cy z=O):cX P nt o (QO d nt x y z o.dst):=by
 intro c cf i t s k h;have h:Dm ((cW d x).run t) ((eB d nt o.dst).run ((cW d y).run t) t fun t=>k t s) ((eB d nt o.dst).run ((cW d z).run t) t fun t=>k t s)=O:=h;obtain⟨b,e,h⟩:=rn h;have g:=gO (P:=P) (o:=o) (cf:=cf) (bI:=c.bI) (s:=s) (by rw[a];exact MB f.1 f.2.1 f.2.2 t) (by rw[a];exact .inl rfl);rw[a,e]at g
 cases b with
 | true=>exact cX.fin hnt g h
 | false=>exact cX.fin hnt g h
theorem RY{o:aH}{e:aN}{z:Y}(f:o.op=.alloc e)(g:km P e=I z):cX P nt o (T9 d nt z.cells o.dst):=by
 intro c cf i t s k h;have h:newF s (.row z.cells 0) (fun b s=>(eB d nt o.dst).run (.ptr b 0) t fun t=>k t s)=O:=h;have h:=D9 h;refine cX.fin hnt ?_ h;rw[gO (a:=[]) (by rw[f];rfl) (by rw[f];exact .inl rfl),f];have:gQ P (.alloc e)=(match km P e with | some z=>⟨fun _ _ s=>s.new (.row z.cells 0) fun b s=> .ok (.ptr b 0) s⟩ | none=>failK "alloc"):=rfl;rw[this,g];rfl
theorem RZ{o:aH}{e:aN}{x:aP}(a:o.op=.box e x)(f:cy x=O):cX P nt o (T_ d nt x o.dst):=by
 intro c cf g t s k h;have h:newF s (.row ((cW d x).run t).cells 0) (fun b s=>(eB d nt o.dst).run (.ptr b 0) t fun t=>k t s)=O:=h;have h:=D9 h;refine cX.fin hnt ?_ h;rw[gO (by rw[a];exact nh f t) (by rw[a];exact .inl rfl),a];rfl
theorem R1{o:aH}{op:gY}{f:aN}{x y:aP}{p:aN}{a:Bool}(b:o.op=.binOp op f x y p)(g:cy x=O∧cy y=O):cX P nt o (TY d nt a op x y o.dst):=by
 intro c cf j t s k h;have h:(cond a (Nj op) (Nk op)).run ((cW d x).run t) ((cW d y).run t) (fun v=>(eB d nt o.dst).run v t fun t=>k t s)=O:=h;have i:kM op (cond a (Nj op) (Nk op)).run:=by cases a;exact RX op;exact RW op
 obtain⟨v,e,h⟩:=i _ _ _ h;refine cX.fin hnt ?_ h;rw[gO (by rw[b];exact Ed g.1 g.2 t) (by rw[b];exact .inl rfl),b];show(tM P op f x y).run cf _ s=_
 cases op<;>(unfold tM;dsimp only;rw[e];try rfl)
theorem MC{o:aH}{a:aN}{x:aP}{f:Nat}{i:Array Field}{q:Field}(g:o.op=.fieldAddr a x f)(l:cy x=O)(m:P.underlying a=I (.struct i))(n:i[f]?=I q)
  (p:(cF P q.type&&!(ak (sizeT P q.type) 0))=O):cX P nt o (Nl d nt q.offset x o.dst):=by
 intro c cf r t s k h;have h:mi ((cW d x).run t) (fun b j=>(eB d nt o.dst).run (.ptr b (Nat.add j q.offset)) t fun t=>k t s)=O:=h;obtain⟨b,j,e,h⟩:=lq h;refine cX.fin hnt ?_ h;rw[gO (by rw[g];exact nh l t) (by rw[g];exact .inl rfl),g,e];show(ie P a f).run cf _ s=_;unfold ie;rw[m];dsimp only;rw[n];dsimp only;rw[p];rfl
theorem Pc{o:aH}{f:aN}{x:aP}(j:o.op=.load f x)(m:cy x=O)(n:cF P f=O):cX P nt o (QN d nt (fc P f) (sizeT P f) x o.dst):=by
 intro c cf q t s k h
 have a:wb P o cf (toF t) c.bI s=(tJ P f).run cf [(cW d x).run t] s:=by
  rw[gO (by rw[j];exact nh m t) (by rw[j];exact .inl rfl),j];rfl
 unfold tJ at a;rw[n]at a;dsimp only[cond]at a
 cases g:fc P f with
 | true=>
  rw[g]at h a;have h:mi ((cW d x).run t) (fun b i=>Dp (sizeT P f) b i s fun v s=>(eB d nt o.dst).run v t fun t=>k t s)=O:=h;obtain⟨b,i,e,h⟩:=lq h;obtain⟨v,p,l,h⟩:=Bn h;rw[e]at a;exact cX.fin hnt (a.trans l) h
 | false=>
  rw[g]at h a;have h:mi ((cW d x).run t) (fun b i=>Do b i s fun v s=>(eB d nt o.dst).run v t fun t=>k t s)=O:=h;obtain⟨b,i,e,h⟩:=lq h;obtain⟨v,p,l,h⟩:=Bm h;rw[e]at a;exact cX.fin hnt (a.trans l) h
theorem MD{o:aH}{f:aN}{x y:aP}{j:Bool}(l:o.op=.store f x y)(q:cy x=O∧cy y=O)(r:cF P f=O)(g:j=(!(ak (sizeT P f) 1)||fc P f)):cX P nt o (Nm d nt j (sizeT P f) x y o.dst):=by
 intro c cf B t s k h
 have a:wb P o cf (toF t) c.bI s=(qn P f).run cf [(cW d x).run t,(cW d y).run t] s:=by
  rw[gO (by rw[l];exact Ed q.1 q.2 t) (by rw[l];exact .inl rfl),l];rfl
 unfold qn at a;rw[r]at a;dsimp only[cond]at a
 cases j with
 | true=>
  have h:mi ((cW d x).run t) (fun b i=>Hy (sizeT P f) b i ((cW d y).run t) s fun s=>(eB d nt o.dst).run cE t fun t=>k t s)=O:=h;obtain⟨b,i,e,h⟩:=lq h;obtain⟨u,v,m,h⟩:=IA h;rw[e]at a;dsimp only at a;rw[u,jH]at a;exact cX.fin hnt (a.trans m) h
 | false=>
  have h:mi ((cW d x).run t) (fun b i=>Hx b i ((cW d y).run t) s fun s=>(eB d nt o.dst).run cE t fun t=>k t s)=O:=h;obtain⟨b,i,e,h⟩:=lq h;obtain⟨n,v,m,h⟩:=Iz h
  have w:ak (sizeT P f) 1=O:=by
   cases z:ak (sizeT P f) 1 with
   | true=>rfl
   | false=>rw[z]at g;cases g
  have p:((cW d y).run t).cells=[(cW d y).run t]:=by
   revert n
   cases (cW d y).run t<;>intro n<;>first | rfl | cases n
  rw[e]at a;dsimp only at a;rw[p,aI w]at a;exact cX.fin hnt (a.trans m) h
theorem R2{o:aH}{x:aP}(a:o.op=.nilCheck x)(f:cy x=O):cX P nt o (TZ P d nt o x):=by
 intro c cf g t s k h;have h:aA (motive:=fun _=>Bool) ((oN P d nt o).run c t s k) ((eB d nt o.dst).run ((cW d x).run t) t fun t=>k t s) (Hu ((cW d x).run t))=O:=h;rcases nz h with⟨e,h⟩ | ⟨_,h⟩
 ·obtain⟨b,i,e⟩:=Ix e
  refine cX.fin hnt ?_ h;rw[gO (by rw[a];exact nh f t) (by rw[a];exact .inl rfl),a,e];rfl
 ·exact An hnt (by rw[a];simp[cY,f]) (by rw[a];rfl) (by rw[a];exact .inl rfl) c cf g t s k h
theorem R8{o:aH}{a e:aN}{x y:aP}(f:o.op=.indexAddr a x y)(g:cy x=O∧cy y=O)(l:P.underlying a=I (.slice e))(m:cF P e=O):cX P nt o (T6 d nt (sizeT P e) x y o.dst):=by
 intro c cf w t s k h;have h:L5 ((cW d x).run t) (fun b j n=>sg ((cW d y).run t) fun _ i=>Int.rec (motive:=fun _=>Bool) (fun i=>aA (motive:=fun _=>Bool) U ((eB d nt o.dst).run (.ptr b (Nat.add j (Nat.mul i (sizeT P e)))) t fun t=>k t s) (aG (bS i) n)) (fun _=>U) i)=O:=h;obtain⟨b,j,n,p,q,r,h⟩:=J5 h;obtain⟨z,i,u,h⟩:=mC (x:=(cW d y).run t) h
 cases i with
 | negSucc=>cases h
 | ofNat i=>
  obtain⟨v,h⟩:=dd h;refine cX.fin hnt ?_ h;rw[gO (by rw[f];exact Ed g.1 g.2 t) (by rw[f];exact .inl rfl),f,r,u];show(ig P a).run cf _ s=_;unfold ig;rw[l];dsimp only;rw[m];show cond (bM i n) _ _=_;rw[show bM i n=O from v];rfl
theorem R_{o:aH}{c0:kE}{j e:aN}{x:aP}(g:o.op=.call c0)(f:c0.callee=.builtin .len)(l:c0.argTypes.toList=[j])(m:c0.args.toList=[x])(p:P.underlying j=I (.slice e))(q:cy x=O):cX P nt o (T7 d nt x o.dst):=by
 intro c cf v t s k h;have h:QC ((cW d x).run t) (fun n=>(eB d nt o.dst).run (.int .i64 (.ofNat n)) t fun t=>k t s)=O:=h;obtain⟨n,r,h⟩:=Mx h;refine cX.fin hnt ?_ h;have i:o.op.operands.toList=[x]:=by rw[g];simpa[cY,dJ,f]using m
 have u:fB o.op=.val:=by rw[g];unfold fB;obtain⟨a,b,c⟩:=c0;dsimp only at f;subst f;rfl
 rw[gO (by rw[i];exact nh q t) (.inl u),g];show(lP P c0).run cf _ s=_;unfold lP;rw[f];show(sS P c0.argTypes.toList).run cf _ s=_;rw[l];unfold sS;dsimp only;rw[p];dsimp only;rw[r];rfl
theorem Sa{o:aH}{x:aP}{i:Nat}(a:o.op=.extract x i)(e:cy x=O):cX P nt o (T8 d nt i x o.dst):=by
 intro c cf g t s k h;have h:L4 ((cW d x).run t) (fun l=>bK (motive:=fun _=>Bool) U (fun v _ _=>(eB d nt o.dst).run v t fun t=>k t s) (wS i l))=O:=h;obtain⟨l,f,h⟩:=J3 h;have h:bK (motive:=fun _=>Bool) U (fun v _ _=>(eB d nt o.dst).run v t fun t=>k t s) (wS i l)=O:=h;rw[Aj]at h
 cases b:l.drop i with
 | nil=>rw[b]at h;cases h
 | cons v m=>
  rw[b]at h;refine cX.fin hnt ?_ h;rw[gO (by rw[a];exact nh e t) (by rw[a];exact .inl rfl),a,f];show(match l.drop i with | v::_=>Rs.ok v s | []=>Rs.no "extract")=_;rw[b]
theorem Pd{o:aH}{x:aP}{a b:aN}{i q:cZ}{slow:OF d}(e:o.op=.convert a b x)(j:cy x=O)(l:P.underlying a=I (.int i))(m:P.underlying b=I (.int q))(f:cX P nt o slow):cX P nt o (QQ d nt q x slow o.dst):=by
 intro c cf g t s k h;have h:sg ((cW d x).run t) (fun _ a=>Int.rec (motive:=fun _=>Bool) (fun a=>aA (motive:=fun _=>Bool) (slow.run c t s k) ((eB d nt o.dst).run (.int q (.ofNat a)) t fun t=>k t s) (aG (bS a) (m_ q))) (fun _=>slow.run c t s k) a)=O:=h;obtain⟨u,n,p,h⟩:=mC h
 cases n with
 | negSucc=>exact f c cf g t s k h
 | ofNat n=>
  rcases nz h with⟨r,h⟩ | ⟨_,h⟩
  ·refine cX.fin hnt ?_ h
   rw[gO (by rw[e];exact nh j t) (by rw[e];exact .inl rfl),e,p];show(lG P a b).run cf _ s=_;unfold lG;rw[l,m];show Rs.ok (Y.int q (jp q (n:Int))) s=_;unfold jp;rw[oG q n (succ_le r)];rfl
  ·exact f c cf g t s k h
theorem Sb{o:aH}{x:aP}{g:aN}(a:o.op=.unOp .not g x)(i:cy x=O):cX P nt o (Ua d nt x o.dst):=by
 intro c cf j t s k h;have h:Dm ((cW d x).run t) ((eB d nt o.dst).run (.bool U) t fun t=>k t s) ((eB d nt o.dst).run (.bool O) t fun t=>k t s)=O:=h;obtain⟨b,e,h⟩:=rn h;have f:=gO (P:=P) (o:=o) (cf:=cf) (bI:=c.bI) (s:=s) (by rw[a];exact nh i t) (by rw[a];exact .inl rfl);rw[a,e]at f
 cases b with
 | true=>exact cX.fin hnt f h
 | false=>exact cX.fin hnt f h
theorem Pe{o:aH}{c0:kE}{f:FuncId}(g:o.op=.call c0)(e:c0.callee=.value (.func f))(j:c0.args.toList.all cy=O):cX P nt o (QP d nt f c0.args.toList o.dst):=by
 intro c cf l t s k h;obtain⟨m,cd,b⟩:=c;have h:m f ((lk d c0.args.toList).run t) s (fun v s=>(eB d nt o.dst).run v t fun t=>k t s)=O:=h;obtain⟨v,q,n,h⟩:=l _ _ _ _ h;have i:o.op.operands.toList=.func f::c0.args.toList:=by rw[g];simp[cY,dJ,e]
 have p:fB o.op=.val:=by rw[g];unfold fB;obtain⟨a,b,c⟩:=c0;dsimp only at e;subst e;rfl
 refine cX.fin hnt ?_ h;rw[gO (by rw[i];exact jF (by simp[cy,j]) t) (.inl p),g];show(lP P c0).run cf _ s=_;unfold lP;rw[e];exact n
omit hnt in
theorem Bo{c:qK}{cf:bR}(d:i9 c cf){a:Y}{b:String}{args:List Y}{s:S}{κ:Y→S→Bool}(h:Dt P c a b args s κ=O):∃v s',gi P cf a b args s=.ok v s'∧κ v s'=O:=by
 unfold Dt at h;unfold gi
 split at h
 ·rename_i g v
  try dsimp only
  split at h
  ·rename_i f e;try rw[e]
   exact d _ _ _ _ h
  ·cases h
 ·cases h
omit hnt in
theorem Ko{a:qK}{cf:bR}(b:i9 a cf){f:Y}{args:List Y}{s:S}{κ:Y→S→Bool}(h:Hz P a f args s κ=O):∃v s',mY P cf f args s=.ok v s'∧κ v s'=O:=by
 unfold Hz at h;unfold mY
 split at h
 ·exact b _ _ _ _ h
 ·try dsimp only
  split at h
  ·rename_i e;try rw[e]
   exact Bo b h
  ·cases h
 ·cases h
omit hnt in
theorem ME{o:aH}{c0:kE}{x:aP}(e:o.op=.call c0)(d:c0.callee=.value x):o.op.operands.toList=x::c0.args.toList∧fB o.op=.val:=by
 refine⟨by rw[e];simp[cY,dJ,d],?_⟩;rw[e];unfold fB;obtain⟨a,b,c⟩:=c0;dsimp only at d;subst d;rfl
theorem MF{o:aH}{c0:kE}{x:aP}(g:o.op=.call c0)(a:c0.callee=.value x)(i:∀f,x≠.func f)(j:cy x=O)(l:c0.args.toList.all cy=O):cX P nt o (Nn P d nt x c0.args.toList o.dst):=by
 intro c cf m t s k h;obtain⟨n,cd,b⟩:=c;have h:Hz P n ((cW d x).run t) ((lk d c0.args.toList).run t) s (fun v s=>(eB d nt o.dst).run v t fun t=>k t s)=O:=h;obtain⟨v,r,p,h⟩:=Ko m h;obtain⟨e,q⟩:=ME g a;refine cX.fin hnt ?_ h;rw[gO (by rw[e];exact jF (by simp[j,l]) t) (.inl q),g];show(lP P c0).run cf _ s=_;unfold lP;rw[a]
 cases x with
 | func f=>exact absurd rfl (i f)
 | _=>exact p
theorem MG{o:aH}{c0:kE}{x:aP}{e:String}(g:o.op=.call c0)(f:c0.callee=.invoke x e)(j:cy x=O)(l:c0.args.toList.all cy=O):cX P nt o (No P d nt x e c0.args.toList o.dst):=by
 intro c cf m t s k h;obtain⟨n,cd,b⟩:=c;have h:Dt P n ((cW d x).run t) e ((lk d c0.args.toList).run t) s (fun v s=>(eB d nt o.dst).run v t fun t=>k t s)=O:=h;obtain⟨v,r,p,h⟩:=Bo m h;have i:o.op.operands.toList=x::c0.args.toList:=by rw[g];simp[cY,dJ,f]
 have q:fB o.op=.val:=by rw[g];unfold fB;obtain⟨a,b,c⟩:=c0;dsimp only at f;subst f;rfl
 refine cX.fin hnt ?_ h;rw[gO (by rw[i];exact jF (by simp[j,l]) t) (.inl q),g];show(lP P c0).run cf _ s=_;unfold lP;rw[f];exact p
theorem Sd{o:aH}{c0:kE}(i:o.op=.call c0)(f:c0.callee=.builtin .recover)(j:c0.args.toList.all cy=O):cX P nt o (Ub d nt o.dst):=by
 intro c cf m t s k h;obtain⟨n,cd,b⟩:=c;have h:aA (motive:=fun _=>Bool) U ((eB d nt o.dst).run .lV t fun t=>k t s) b=O:=h;obtain⟨e,h⟩:=dd h;have g:o.op.operands.toList=c0.args.toList:=by rw[i];simp[cY,dJ,f]
 have l:fB o.op=.rcv:=by rw[i];unfold fB;obtain⟨a,b,c⟩:=c0;dsimp only at f;subst f;rfl
 refine cX.fin hnt ?_ h;unfold wb;rw[g,jF (d:=d) j t,l];show cond b _ _=_;rw[e];rfl
theorem lu{o:aH}(e:o.op.operands.toList.all cy=O)(f:jZ o.op=O):cX P nt o (oN P d nt o):=by
 cases a:fB o.op with
 | val=>exact An hnt e f (.inl a)
 | com=>exact An hnt e f (.inr a)
 | bI=>
  intro c cf g t s k h;have h:Rs.rec (motive:=fun _=>Bool) (fun _=>U) (fun v s=>(eB d nt o.dst).run v t fun t=>k t s) ((gQ P o.op).run JG ((lk d o.op.operands.toList).run t) s)=O:=h;unfold fB at a
  split at a
  ·rename_i q b;rw[b]at h;cases h
  all_goals cases a
 | rcv=>
  intro c cf g t s k h;have h:Rs.rec (motive:=fun _=>Bool) (fun _=>U) (fun v s=>(eB d nt o.dst).run v t fun t=>k t s) ((gQ P o.op).run JG ((lk d o.op.operands.toList).run t) s)=O:=h;unfold fB at a
  split at a
  ·cases a
  ·rename_i q b;rw[b]at h;cases h
  all_goals cases a
theorem Pf{o:aH}(j:o.op.operands.toList.all cy=O):cX P nt o (zX P d nt o):=by
 unfold zX
 split
 ·rename_i x g;rw[g]at j;exact GK hnt (.inl g) (all1 j)
 ·rename_i x g;rw[g]at j;exact GK hnt (.inr g) (all1 j)
 ·rename_i x y z g;rw[g]at j;exact Pb hnt g (aac j)
 ·rename_i e g
  split
  ·rename_i z v;exact RY hnt g v
  ·exact sv
 ·rename_i e x g;rw[g]at j;exact RZ hnt g (all1 j)
 ·rename_i op l x y p g
  cases Du P l with
  | true=>rw[g]at j;exact R1 hnt g (all2 j)
  | false=>exact lu hnt j (by rw[g];rfl)
 ·rename_i l x f g
  rw[g]at j
  split
  ·rename_i C n
   split
   ·rename_i q w
    cases m:(cF P q.type&&!(ak (sizeT P q.type) 0))with
    | true=>exact MC hnt g (all1 j) n w m
    | false=>exact sv
   ·exact sv
  ·exact sv
 ·rename_i l x g
  rw[g]at j
  cases m:cF P l with
  | true=>exact Pc hnt g (all1 j) m
  | false=>exact sv
 ·rename_i l x y g
  rw[g]at j
  cases m:cF P l with
  | true=>exact MD hnt g (all2 j) m rfl
  | false=>exact sv
 ·rename_i x g;rw[g]at j;exact R2 hnt g (all1 j)
 ·rename_i a b x g
  split
  ·rename_i E q t s
   have r:=j;rw[g]at r;exact Pd hnt g (all1 r) t s (lu hnt j (by rw[g];rfl))
  ·exact lu hnt j (by rw[g];rfl)
 ·rename_i l x g;rw[g]at j;exact Sb hnt g (all1 j)
 ·rename_i l x y g
  split
  ·rename_i e n
   rw[g]at j
   cases m:cF P e with
   | true=>exact R8 hnt g (all2 j) n m
   | false=>exact sv
  ·exact lu hnt j (by rw[g];rfl)
 ·rename_i x i g;rw[g]at j;exact Sa hnt g (all1 j)
 ·rename_i c g
  split
  ·rename_i f k
   rw[g]at j;simp only[cY,dJ,k,fR,lL,aM]at j;exact Pe hnt g k j.2
  ·rename_i x B k
   rw[g]at j;simp only[cY,dJ,k,fR,lL,aM]at j;exact MF hnt g k B (all1 j.1) j.2
  ·rename_i x u k
   rw[g]at j;simp only[cY,dJ,k,fR,lL,aM]at j;exact MG hnt g k (all1 j.1) j.2
  ·rename_i k
   rw[g]at j;simp only[cY,dJ,k,fR,lL,aM]at j;exact Sd hnt g k j.2
  ·rename_i k
   split
   ·rename_i l x t s
    split
    ·rename_i e n
     rw[g]at j;simp only[cY,dJ,k,fR,lL,aM,s]at j;exact R_ hnt g k t s n (all1 j.2)
    ·exact lu hnt j (by rw[g];unfold jZ;simp[k])
   ·exact lu hnt j (by rw[g];unfold jZ;simp[k])
  ·rename_i b _ _ k
   exact lu hnt j (by rw[g];unfold jZ;simp[k])
 ·refine lu hnt j ?_
  unfold jZ
  split
  ·rename_i c k;exact absurd k (by intro h;simp_all)
  ·rfl
end
end Go.Ev
namespace Go.Ev
section
variable {P:aQ} {d nt:Nat}
def TA(P:aQ)(nt:Nat)(ops:Array aH)(o:aH)(f:OF d):Prop:=∀(c:Cx)(cf:bR),i9 c.cf cf→∀t s k,f.run c t s k=O→
 ∃a b,(∀ds,c_ P nt ops o cf ⟨toF t,ds,c.bI⟩ s=.ok ⟨toF a,ds,c.bI⟩ b)∧k a b=O
theorem MH{ops:Array aH}{o:aH}{cf:bR}{t:Nat→Y}{ds:List nx}{bI:Bool}{s s':S}{v:Y}(b:wb P o cf t bI s=.ok v s')(e:gj ops o t=O):
  c_ P nt ops o cf ⟨t,ds,bI⟩ s=.ok (Fr.put ⟨t,ds,bI⟩ nt o.dst v) s':=by
 unfold wb at b;unfold c_;dsimp only[nO];rw[e];dsimp only[cond]
 cases d:evs t o.op.operands.toList with
 | none=>rw[d]at b;cases b
 | some a=>
  rw[d]at b;dsimp only at b⊢
  cases c:fB o.op with
  | val=>rw[c]at b;dsimp only at b ⊢;rw[b]
  | com=>rw[c]at b;dsimp only at b ⊢;rw[b]
  | rcv=>
   rw[c]at b;dsimp only at b⊢
   cases bI with
   | false=>cases b
   | true=>cases b;rfl
  | bI=>rw[c]at b;cases b
theorem IE(l:nt≤8 ^ d)(ops:Array aH)(o:aH):TA P nt ops o (L_ P d nt ops o):=by
 intro c cf w t s k h;unfold L_ at h
 cases n:o.op.operands.toList.all cy with
 | false=>rw[n]at h;cases h
 | true=>
  rw[n]at h;dsimp only[cond]at h;have x:=Pf (P:=P) l n
  have good:∀(t:TF d)(s:S)(k:TF d→S→Bool),(zX P d nt o).run c t s k=O→gj ops o (toF t)=O→∃f g,(∀ds,c_ P nt ops o cf ⟨toF t,ds,c.bI⟩ s=.ok ⟨toF f,ds,c.bI⟩ g)∧k f g=O:=by
   intro t s k h p;obtain⟨v,g,f,y,q,r⟩:=x c cf w t s k h;exact⟨f,g,fun ds=>by rw[MH y p,q],r⟩
  have skip:∀(t:TF d)(s:S)(k:TF d→S→Bool),(eB d nt o.dst).run cE t (fun t=>k t s)=O→gj ops o (toF t)=U→∃f g,(∀ds,c_ P nt ops o cf ⟨toF t,ds,c.bI⟩ s=.ok ⟨toF f,ds,c.bI⟩ g)∧k f g=O:=by
   intro t s k h p;obtain⟨f,q,r⟩:=Am l h;refine⟨f,s,fun ds=>?_,r⟩;unfold c_;rw[p,q];rfl
  unfold Np at h
  cases m:o.guard with
  | none=>
   rw[m]at h;refine good t s k h ?_;unfold gj;rw[m]
  | some z=>
   obtain⟨j,want⟩:=z;rw[m]at h;dsimp only at h
   cases u:(ops[j]?).bind (·.dst)with
   | none=>rw[u]at h;cases h
   | some i=>
    rw[u]at h
    have a:gj ops o (toF t)=(match toF t i with | .bool b=>b==want | _=>U):=by
     unfold gj;rw[m];dsimp only;rw[u];rfl
    have hi:toF t i=(cW d (.tmp i)).run t:=by
     have:=rl (d:=d) (o:=.tmp i) rfl t;exact rD this
    rw[hi]at a
    cases want with
    | true=>
     have h:Dm ((cW d (.tmp i)).run t) ((zX P d nt o).run c t s k) ((eB d nt o.dst).run cE t fun t=>k t s)=O:=h;obtain⟨b,e,h⟩:=rn h;rw[e]at a
     cases b with
     | true=>exact good t s k h a
     | false=>exact skip t s k h a
    | false=>
     have h:Dm ((cW d (.tmp i)).run t) ((eB d nt o.dst).run cE t fun t=>k t s) ((zX P d nt o).run c t s k)=O:=h;obtain⟨b,e,h⟩:=rn h;rw[e]at a
     cases b with
     | true=>exact skip t s k h a
     | false=>exact good t s k h a
theorem Se(j:nt≤8 ^ d){ops:Array aH}{o:aH}{c0:kE}(m:o.op=.defer c0)(c:Cx)(cf:bR)(t:TF d)(ds:List nx)(s:S)(k:X→TF d→List nx→S→Bool)(h:(Nq d nt o c0).run c t ds s k=O):
  ∃a b,c_ P nt ops o cf ⟨toF t,ds,c.bI⟩ s=.ok ⟨toF a,b,c.bI⟩ s∧k .gI a b s=O:=by
 unfold Nq at h
 split at h
 ·rename_i x u v
  cases i:(cy x&&c0.args.toList.all cy)with
  | false=>rw[i]at h;cases h
  | true=>
   rw[i]at h;simp only[aM]at i;have h:QD ((cW d x).run t) (fun q f cap=>(eB d nt o.dst).run cE t fun a=>k .gI a (⟨q,cap,f++(lk d c0.args.toList).run t⟩::ds) s)=O:=h;obtain⟨q,f,cap,e,h⟩:=My h;obtain⟨a,w,y⟩:=Am j h;refine⟨a,_,?_,y⟩;have n:o.op.operands.toList=x::c0.args.toList:=by rw[m];simp[cY,dJ,u]
   have p:evs (toF t) o.op.operands.toList=I ((cW d x).run t::(lk d c0.args.toList).run t):=by
    rw[n];exact jF (l:=x::c0.args.toList) (by simp only[lA,aM];exact i) t
   unfold c_;have z:gj ops o (toF t)=O:=by unfold gj;rw[v]
   dsimp only[nO];rw[z];dsimp only[cond];rw[p,e];have g:fB o.op=.bI:=by rw[m];rfl
   rw[g];have r:rf o.op=O:=by rw[m];unfold rf;simp[u]
   dsimp only;rw[r];dsimp only;rw[w]
 ·cases h
def Ys(f:KF d)(g:K):Prop:=∀(c:Cx)(cf:bR),i9 c.cf cf→∀t ds s k,f.run c t ds s k=O→∃x b a e,g.run cf ⟨toF t,ds,c.bI⟩ s=.ok (x,⟨toF b,a,c.bI⟩) e∧k x b a e=O
def Kq(f h:KF d)(g:K):Prop:=∀(c:Cx)(cf:bR),i9 c.cf cf→∀t ds s k,f.run c t ds s k=O→
 ∃x b a e,g.run cf ⟨toF t,ds,c.bI⟩ s=.ok (x,⟨toF b,a,c.bI⟩) e∧(match x with | .gI=>h.run c b a e k=O | x=>k x b a e=O)
theorem Kr(f:nt≤8 ^ d)(ops:Array aH)(g:KF d):∀l:List aH,Kq (A3 P d nt ops g l) g ⟨fun cf fr s=>kQ P nt ops l cf fr s⟩
 | []=>fun c cf m t ds s k h=>⟨.gI,t,ds,s,rfl,h⟩
 | o::l=>by
  intro c cf m t ds s k h;have q:=Kr f ops g l
  have p:∀b a e,c_ P nt ops o cf ⟨toF t,ds,c.bI⟩ s=.ok ⟨toF b,a,c.bI⟩ e→(A3 P d nt ops g l).run c b a e k=O→
    ∃x b a e,kQ P nt ops (o::l) cf ⟨toF t,ds,c.bI⟩ s=.ok (x,⟨toF b,a,c.bI⟩) e∧(match x with | .gI=>g.run c b a e k=O | x=>k x b a e=O):=by
   intro b a e i j;obtain⟨x,r,n,u,v,w⟩:=q c cf m b a e k j;refine⟨x,r,n,u,?_,w⟩;show(match c_ P nt ops o cf ⟨toF t,ds,c.bI⟩ s with | .ok fr s=>kQ P nt ops l cf fr s | .no y=> .no y)=_;rw[i];exact v
  unfold A3 at h
  split at h
  ·rename_i c0 z
   have h:(Nq d nt o c0).run c t ds s (fun _ t ds s=>(A3 P d nt ops g l).run c t ds s k)=O:=h;obtain⟨b,a,i,j⟩:=Se (P:=P) (ops:=ops) f z c cf t ds s _ h;exact p b a s i j
  ·have h:(L_ P d nt ops o).run c t s (fun t s=>(A3 P d nt ops g l).run c t ds s k)=O:=h
   obtain⟨b,e,i,j⟩:=IE f ops o c cf m t s _ h;exact p b ds e (i ds) j
end
end Go.Ev
namespace Go.Ev
def Still(k:OK):Prop:=∀cf a s v b,k.run cf a s=.ok v b→b=s
theorem pT{α:Type}{o:Option α}{s s':S}{w:String}{v:α}(h:ret o s w=.ok v s'):s'=s:=by
 unfold ret at h
 split at h
 ·cases h;rfl
 ·cases h
theorem Still.fail(w:String):Still (failK w):=fun _ _ _ _ _ h=>by cases h
theorem Still.cond{b:Bool}{x y:OK}(a:Still x)(c:Still y):Still (cond b x y):=by cases b;exact c;exact a
section
variable (P:aQ)
theorem Ks(op:gY)(t:Nat)(x y:aP):Still (tM P op t x y):=by
 unfold tM;dsimp only
 split<;>(intro cf a s v b h;dsimp only at h;(repeat' split at h)<;>first | exact pT h | (cases h;rfl) | cases h)
theorem y8(t f:Nat):Still (ie P t f):=by
 unfold ie
 split
 ·split
  ·refine .cond ?_ (.fail _)
   intro cf a s v b h;dsimp only at h;(repeat' split at h)<;>first | exact pT h | (cases h;rfl) | cases h
  ·exact .fail _
 ·exact .fail _
theorem Fh(t f:Nat):Still (o_ P t f):=by
 unfold o_
 split
 ·split
  ·refine .cond ?_ (.fail _)
   intro cf a s v b h;dsimp only at h;(repeat' split at h)<;>first | exact pT h | (cases h;rfl) | cases h
  ·exact .fail _
 ·exact .fail _
theorem uo{α:Type}{b:Bool}{x y:Rs α}{r:Rs α}(h:cond b x y=r):x=r∨y=r:=by cases b;exact .inr h;exact .inl h
theorem y9(t:Nat):Still (ig P t):=by
 unfold ig
 split
 ·refine .cond (.fail _) ?_
  intro cf a s v b h;dsimp only at h
  split at h
  ·rcases uo h with h | h<;>cases h;rfl
  ·cases h
 ·refine .cond (.fail _) ?_
  intro cf a s v b h;dsimp only at h
  split at h
  ·rcases uo h with h | h<;>cases h;rfl
  ·cases h
 ·exact .fail _
theorem Fi(t:Nat):Still (pa P t):=by
 unfold pa
 split
 ·intro cf a s v b h;dsimp only at h;(repeat' split at h)<;>first | (cases h;rfl) | cases h
 ·refine .cond (.fail _) ?_
  intro cf a s v b h;dsimp only at h
  split at h
  ·rcases uo h with h | h
   ·exact pT h
   ·cases h
  ·cases h
 ·exact .fail _
theorem Fj(t:Nat)(l h m:Bool):Still (pb P t l h m):=by
 unfold pb
 split
 ·refine .cond (.fail _) ?_
  intro cf a s v b h;dsimp only at h;(repeat' split at h)<;>first | exact pT h | (cases h;rfl) | cases h
 ·intro cf a s v b h;dsimp only at h;(repeat' split at h)<;>first | exact pT h | (cases h;rfl) | cases h
 ·refine .cond (.fail _) ?_
  intro cf a s v b h;dsimp only at h;(repeat' split at h)<;>first | exact pT h | (cases h;rfl) | cases h
 ·exact .fail _
theorem Fk(t:Nat)(b:List Nat):Still (oZ P t b):=by
 unfold oZ
 split
 ·refine .cond ?_ (.fail _)
  intro cf a s v c h;exact pT h
 ·refine .cond ?_ (.fail _)
  intro cf a s v c h;exact pT h
 ·exact .fail _
theorem xd(t:Nat)(ok:Bool):Still (iK P t ok):=by
 have c:∀(z:Y)(s b:S)(v:Y),vU ok z s=.ok v b→b=s:=by
  intro z s b v h;unfold vU at h;rcases uo h with h | h<;>cases h
  rfl
 unfold iK
 split
 ·split
  ·intro cf a s v b h;dsimp only at h;(repeat' split at h)<;>first | exact c _ _ _ _ h | (cases h;rfl) | cases h
  ·intro cf a s v b h;dsimp only at h
   split at h
   ·rcases uo h with h | h
    ·cases h;rfl
    ·exact c _ _ _ _ h
   ·exact c _ _ _ _ h
   ·cases h
  ·exact .fail _
 ·exact .fail _
theorem Kt(l:List Nat):Still (yH P l):=by
 unfold yH
 split
 ·split
  ·intro cf a s v b h;dsimp only at h;(repeat' split at h)<;>first | (cases h;rfl) | cases h
  ·exact .fail _
 ·exact .fail _
theorem Ee(m:Bool):Still (BD m):=by
 intro cf a s v b h;unfold BD at h;dsimp only at h
 (repeat' split at h)<;>first | exact pT h | cases h
theorem Ku{c:Nat}(h:(match P.underlying c with | some (.slice _) | some .string | some (.array _ _)=>O | _=>U)=O):Still (sS P [c]):=by
 unfold sS;dsimp only
 split
 ·intro cf a s v d h;dsimp only at h;(repeat' split at h)<;>first | (cases h;rfl) | cases h
 ·rename_i b;rw[b]at h;cases h
 ·intro cf a s v d h;dsimp only at h;(repeat' split at h)<;>first | (cases h;rfl) | cases h
 ·intro cf a s v d h;dsimp only at h;(repeat' split at h)<;>first | (cases h;rfl) | cases h
 ·rename_i b;rw[b]at h;cases h
 ·exact .fail _
theorem Ef{o:aH}(h:kL P o=O)(g:fB o.op=.val∨fB o.op=.com):Still (gQ P o.op):=by
 unfold kL at h
 split at h
 ·rename_i d;rw[d];intro cf a s v f h;change ES a s=_ at h;unfold ES at h;split at h<;>cases h;rfl
 ·rename_i d;rw[d];intro cf a s v f h;change ES a s=_ at h;unfold ES at h;split at h<;>cases h;rfl
 ·rename_i d;rw[d];intro cf a s v f h;unfold gQ at h;dsimp only at h;split at h<;>cases h;rfl
 ·rename_i d;rw[d];exact Ks P _ _ _ _
 ·rename_i d;rw[d];intro cf a s v f h;unfold gQ at h;dsimp only at h;split at h
  ·exact pT h
  ·cases h
 ·rename_i d;rw[d];exact y8 P _ _
 ·rename_i d;rw[d];exact Fh P _ _
 ·rename_i d;rw[d];exact y9 P _
 ·rename_i d;rw[d];exact Fi P _
 ·rename_i d;rw[d];intro cf a s v f h;unfold gQ at h;dsimp only at h;(repeat' split at h)<;>first | (cases h;rfl) | cases h
 ·rename_i d;rw[d];intro cf a s v f h;unfold gQ at h;dsimp only at h;(repeat' split at h)<;>first | (cases h;rfl) | cases h
 ·rename_i d;rw[d];unfold gQ;refine .cond ?_ (.fail _);intro cf a s v f h;dsimp only at h;split at h<;>cases h;rfl
 ·rename_i d;rw[d];intro cf a s v f h;unfold gQ at h;cases h;rfl
 ·rename_i d;rw[d];exact Fj P _ _ _ _
 ·rename_i d;rw[d];exact Fk P _ _
 ·rename_i d;rw[d];exact xd P _ _
 ·rename_i c d
  rw[d]at g⊢;change Still (lP P c);unfold lP
  split at h
  ·rename_i e;rw[e];exact Kt P _
  ·rename_i e;rw[e];exact Ee _
  ·rename_i e;rw[e];exact Ee _
  ·rename_i e
   exfalso;unfold fB at g;obtain⟨a,b,c⟩:=c;dsimp only at e;subst e;rcases g with g | g<;>cases g
  ·rename_i j e i
   rw[e];change Still (sS P c.argTypes.toList);rw[i];exact Ku P h
  ·cases h
 ·cases h
end
end Go.Ev
namespace Go.Ev
section
variable {P:aQ} {d nt:Nat}
theorem Fl{o:aH}(h:kL P o=O):jZ o.op=O:=by
 unfold kL at h;unfold jZ
 split at h
 all_goals first | (rename_i a;rw[a];done) | skip
 ·rename_i c a
  rw[a];dsimp only
  split at h
  all_goals first | (rename_i b;rw[b];done) | (rename_i b _;rw[b];done) | cases h
 ·cases h
theorem Kv{ops:Array aH}{o:aH}{cf:bR}(h:jZ o.op=O):c_ P nt ops o cf=c_ P nt ops o JG:=by
 funext fr s
 unfold c_;dsimp only[nO];rw[Kn P h cf JG]
theorem Kw:iD JG:=fun _ _=> .no _
theorem Eg{ops:Array aH}{o:aH}{cf:bR}{fr b:Fr}{s s':S}(c:kL P o=O)(e:isVal o=O)(h:c_ P nt ops o cf fr s=.ok b s'):s'=s:=by
 obtain⟨v,h,_⟩:=(ug e).mp h;unfold pR at h
 cases d:gj ops o fr.t with
 | false=>rw[d]at h;cases h;rfl
 | true=>
  rw[d]at h;dsimp only[cond]at h
  split at h
  ·cases h
  ·split at h
   ·rename_i a;exact Ef P c (.inl a) _ _ _ _ _ h
   ·rename_i a;exact Ef P c (.inr a) _ _ _ _ _ h
   ·split at h
    ·cases h;rfl
    ·cases h
   ·cases h
theorem Kx{ops:Array aH}{o:aH}{cf:bR}{fr a:Fr}{s s':S}(b:kL P o=O)(d:isVal o=O)(h:c_ P nt ops o cf fr s=.ok a s'):
  gl (c_ P nt ops o cf fr) s=.ok (a,⟨s.n,s.n,[],[]⟩) s∧s'=s:=by
 have e:=Eg b d h;subst e;have c:=Fl b;rw[Kv c]at h⊢;obtain⟨_,r,w,j,k,_,g⟩:=nf (P:=P) (nt:=nt) Kw ops o fr s' a s' h;obtain⟨l,f,_⟩:=g { s' with r:=[],w:=[] } rfl (fun _ _=>rfl) (fun _ _ _=>rfl);have i:=Eg b d f;subst i;refine⟨?_,rfl⟩;unfold gl;rw[f];rfl
theorem uq(f:Nat→Bool):∀l:List Nat,Dv f l=l.any f
 | []=>rfl
 | a::l=>by
  show aA (motive:=fun _=>Bool) (Dv f l) O (f a)=(a::l).any f;rw[uq f l,uV]
  cases f a<;>rfl
theorem Ky(f:Nat→Bool):∀l:List Nat,tP f l=l.filter f
 | []=>rfl
 | a::l=>by
  show aA (motive:=fun _=>List Nat) (tP f l) (n_ a (tP f l)) (f a)=(a::l).filter f;rw[Ky f l,nm]
  cases f a<;>rfl
theorem rv:∀l m:List Nat,A4 l m=l++m
 | [],_=>rfl
 | a::l,m=>by
  show n_ a (A4 l m)=_;rw[rv l m];rfl
theorem Sf(a z i:Nat):vV a z i=my a z i:=by
 show aA (motive:=fun _=>Bool) O (aG z i) (aG a i)=!(aG a i&&bM i z)
 cases aG a i with
 | false=>rfl
 | true=>
  show aG z i=!(bM i z)
  cases h:aG z i with
  | true=>have:=ax h;rw[su.mpr bf];rfl
  | false=>
   have:i<z:=by
    rcases aL i z with b | b
    ·exact b
    ·rw[cA b]at h;cases h
   rw[nR.mpr this];rfl
theorem Pg(a b:List Nat):Dw a b=meets a b:=by
 unfold Dw meets;rw[uq]
 congr 1
 funext i
 rw[uq]
theorem Kz(a z:Nat)(l:List Nat):tQ a z l=Dj a z l:=by
 show aA (motive:=fun _=>Bool) (Dv (fun i=>aA (motive:=fun _=>Bool) U (aG (bS i) z) (aG a i)) l) U (ak a z)=_;rw[uq];unfold Dj
 cases ak a z with
 | true=>rfl
 | false=>
  show l.any _=l.any _
  congr 1
  funext i
  cases aG a i<;>rfl
theorem bor{b x:Bool}:aA (motive:=fun _=>Bool) x O b=(b||x):=by cases b<;>rfl
theorem MI(x y:Rec):B6 x y=clash x y:=by
 obtain⟨a,z,r,w⟩:=x;obtain⟨b,c,d,e⟩:=y;unfold B6 clash;dsimp only;simp only[bor,Pg,Kz,Bool.or_assoc]
theorem IF{x y:Rec}(a:x.r=[])(b:x.w=[])(c:x.a=x.z):clash x y=U:=by
 unfold clash Dj meets;rw[a,b,c]
 have e:(y.w.any fun i=>([]:List Nat).any fun j=>ak i j)=U:=by
  rw[gS];intro i _;simp
 rw[e];simp[jH]
theorem IG{x y:Rec}(a:x.w=[])(b:x.a=x.z)(c:y.w=[])(d:y.a=y.z):clash x y=U:=by
 unfold clash Dj meets;rw[a,b,c,d];simp[jH]
theorem sw:∀(l:List (Bool×Rec))(y:Rec),clashes (l.map (·.1)) (l.map (·.2)) y=l.any fun p=>p.1&&clash p.2 y
 | [],_=>rfl
 | (u,x)::l,y=>by
  simp only[ik,uV];rw[←sw l y]
  cases u with
  | true=>show(clash x y||clashes _ _ y)=_;simp
  | false=>simp only[Bool.false_and,Bool.false_or];rfl
theorem we:∀(l:List (Bool×Rec))(y:Rec),mA (l.map (·.1)) (l.map (·.2)) y=l.any fun p=>p.1&&clash p.2 y
 | [],_=>rfl
 | (u,x)::l,y=>by
  simp only[ik,uV];rw[←we l y];show aA (motive:=fun _=>Bool) (mA (l.map (·.1)) (l.map (·.2)) y) (aA (motive:=fun _=>Bool) (mA (l.map (·.1)) (l.map (·.2)) y) O (B6 x y)) u=_;rw[bor,MI]
  cases u<;>simp
theorem IH{a z:Nat}{w:List Nat}(h:Ma a z w=U):a=z∧w=[]:=by
 unfold Ma at h
 cases b:ak a z with
 | false=>rw[b]at h;cases h
 | true=>
  rw[b]at h
  cases w with
  | nil=>exact⟨aI b,rfl⟩
  | cons=>cases h
structure Bp(P:aQ)(ops:Array aH)(i:Nat)(recs rs:List Rec)(loud:Bool):Prop where
 len:recs.length=i
 kept:rs=(((recs.zip ops.toList).filter fun x=>!(kL P x.2)).map (·.1)).reverse
 pure:∀(k:Nat)(x:Rec)(o:aH),recs[k]?=I x→ops[k]?=I o→kL P o=O→x.r=[]∧x.w=[]∧x.a=x.z
 quiet:loud=U→∀x∈recs,x.w=[]∧x.a=x.z
theorem Bq(f:aH→Bool):∀(b:List Bool)(a:List Rec)(l:List aH),b.length=a.length→a.length≤l.length→
  ((b.zip l).filter fun x=>f x.2).map (·.1)=(((b.zip a).zip l).filter fun x=>f x.2).map (·.1.1)∧((a.zip l).filter fun x=>f x.2).map (·.1)=(((b.zip a).zip l).filter fun x=>f x.2).map (·.1.2)
 | [],[],_,_,_=>⟨rfl,rfl⟩
 | u::b,x::a,o::l,c,d=>by
  obtain⟨e,g⟩:=Bq f b a l (by simpa using c) (by simpa using d);simp only[oU,nm]
  cases f o with
  | true=>simp only[if_true,ik,e,g];exact⟨trivial,trivial⟩
  | false=>simp only[Bool.false_eq_true,if_false,e,g];exact⟨trivial,trivial⟩
 | _::_,[],_,c,_=>by simp at c
 | [],_::_,_,c,_=>by simp at c
 | _::_,_::_,[],_,d=>by simp at d
theorem Bp.check{ops:Array aH}{i:Nat}{a f:List Rec}{b:Bool}(h:Bp P ops i a f b)(hi:i≤ops.size){y:Rec}(g:mA (yK P ops i).l f y=U):clashes (fC ops i).l a y=U:=by
 have m:(fC ops i).l.length=a.length:=by rw[h.len];unfold fC;simp
 have j:=Bq (fun o=>!(kL P o)) (fC ops i).l a ops.toList m (by rw[h.len];simpa using hi)
 have n:(yK P ops i).l=((((fC ops i).l.zip a).zip ops.toList).filter fun x=>!(kL P x.2)).reverse.map (·.1.1):=by
  unfold yK;dsimp only;rw[j.1,zj]
 have q:f=((((fC ops i).l.zip a).zip ops.toList).filter fun x=>!(kL P x.2)).reverse.map (·.1.2):=by
  rw[h.kept,j.2,zj]
 have r:∀L:List ((Bool×Rec)×aH),mA (L.map (·.1.1)) (L.map (·.1.2)) y=L.any fun p=>p.1.1&&clash p.1.2 y:=by
  intro L;have:=we (L.map (·.1)) y;rw[wu,wu]at this;rw[show (L.map (·.1.1))=L.map ((fun p:Bool×Rec=>p.1)∘fun x=>x.1)from rfl,show(L.map (·.1.2))=L.map ((fun p:Bool×Rec=>p.2)∘fun x=>x.1)from rfl,this,List.any_map];rfl
 rw[n,q,r,gS]at g
 have s:clashes (fC ops i).l a y=((fC ops i).l.zip a).any fun p=>p.1&&clash p.2 y:=by
  rw[←sw,zk bf,zi bf]
 rw[s,gS];intro p t;obtain⟨k,c⟩:=tc t;obtain⟨u,x⟩:=p;rw[lv]at c
 have d:k<a.length:=by
  rcases aL k a.length with h | h
  ·exact h
  ·rw[dp h]at c;cases c.2
 obtain⟨o,l⟩:∃o,ops[k]?=I o:=⟨ops[k]'(by rw[h.len]at d;omega),by rw[gr]⟩
 cases e:kL P o with
 | true=>
  obtain⟨v,w,z⟩:=h.pure k x o c.2 l e;dsimp only;rw[IF v w z];simp
 | false=>
  have hm:((u,x),o)∈((fC ops i).l.zip a).zip ops.toList:=by
   apply eW (i:=k);rw[lv,lv];exact⟨c,by simpa using l⟩
  have:=g ((u,x),o) (by rw[List.mem_reverse,nX];exact⟨hm,by simp[e]⟩);exact this
theorem Bp.TB{ops:Array aH}{i:Nat}{c d:List Rec}(h:Bp P ops i c d U){y:Rec}(e:y.w=[])(f:y.a=y.z):clashes (fC ops i).l c y=U:=by
 have g:clashes (fC ops i).l c y=((fC ops i).l.zip c).any fun p=>p.1&&clash p.2 y:=by
  have k:(fC ops i).l.length=c.length:=by rw[h.len];unfold fC;simp
  rw[←sw,zk bf,zi bf]
 rw[g,gS];intro p j;obtain⟨a,b⟩:=h.quiet rfl p.2 (List.of_mem_zip j).2;rw[IG a b e f];simp
theorem GL{α β:Type}:∀(a:List α)(x:α)(l:List β)(o:β),l[a.length]?=I o→(a++ [x]).zip l=a.zip l++ [(x,o)]
 | [],x,[],o,h=>by simp at h
 | [],x,b::l,o,h=>by
  simp only[lK,bQ,bU]at h;subst h;simp
 | y::a,x,[],o,h=>by simp at h
 | y::a,x,b::l,o,h=>by
  simp only[List.cons_append,oU];rw[GL a x l o (by simpa using h)]
theorem Bp.push{ops:Array aH}{i:Nat}{d p:List Rec}{f ur:Bool}(h:Bp P ops i d p f){o:aH}(s:ops[i]?=I o){y:Rec}(t:kL P o=O→y.r=[]∧y.w=[]∧y.a=y.z)
  (u:ur=U→f=U∧y.w=[]∧y.a=y.z):Bp P ops (i+1) (d++ [y]) (cond (kL P o) p (y::p)) ur:=by
 have v:(d++ [y]).zip ops.toList=d.zip ops.toList++ [(y,o)]:=GL _ _ _ _ (by rw[h.len];simpa using s);refine⟨by simp[h.len],?_,?_,?_⟩
 ·rw[v,List.filter_append,nY,List.reverse_append,←h.kept]
  cases e:kL P o<;>simp[e]
 ·intro k x w g j e
  by_cases q:k<d.length
  ·rw[List.getElem?_append_left q]at g
   exact h.pure k x w g j e
  ·rw[List.getElem?_append_right bf]at g
   cases n:k-d.length with
   | zero=>
    rw[n]at g;simp only[bQ,bU]at g;subst g;have:k=i:=by have:=h.len;omega
    subst this;rw[s]at j
    cases j
    exact t e
   | succ m=>rw[n]at g;simp at g
 ·intro r x l
  obtain⟨a,b,c⟩:=u r;rw[List.mem_append]at l;rcases l with l | l
  ·exact h.quiet a x l
  ·simp only[List.mem_singleton]at l;subst l;exact⟨b,c⟩
theorem KA{c:List Bool}{b:Bool}{d:List Rec}{a z:Nat}{r w:List Nat}{κ:Bool→Bool}(h:H5 c b d a z r w κ=O):
  ∃ur,κ ur=O∧(ur=U→b=U∧w=[]∧a=z)∧(ur=O→mA c d ⟨a,z,r,w⟩=U):=by
 unfold H5 at h
 cases b with
 | true=>
  rcases nz h with⟨_,h⟩ | ⟨e,h⟩
  ·cases h
  ·exact⟨O,h,fun e=>(by cases e),fun _=>e⟩
 | false=>
  rcases nz h with⟨_,h⟩ | ⟨e,h⟩
  ·rcases nz h with⟨_,h⟩ | ⟨e,h⟩
   ·cases h
   ·exact⟨O,h,fun e=>(by cases e),fun _=>e⟩
  ·have:=IH e
   exact⟨U,h,fun _=>⟨rfl,this.2,this.1⟩,fun e=>by cases e⟩
theorem GM(z:nt≤8 ^ d)(ops:Array aH)(hv:∀o,o∈ops.toList→isVal o=O):∀(l:List aH)(i:Nat)(b g:List Rec)(a:Bool),ops.toList.drop i=l→i≤ops.size→Bp P ops i b g a→
  ∀(c:Cx)(cf:bR),i9 c.cf cf→∀t ds s k,(qL P d nt ops ((l.zipIdx i).map fun(o,i)=>(i,o))).run c t s a g k=O→
   ∃t' s',gp P nt ops ((l.zipIdx i).map fun(o,i)=>(i,o)) b cf ⟨toF t,ds,c.bI⟩ s=.ok (.gI,⟨toF t',ds,c.bI⟩) s'∧k t' s'=O
 | [],i,b,g,a,hd,hi,H,c,cf,K,t,ds,s,k,h=>⟨t,s,rfl,h⟩
 | o::l,i,b,g,a,hd,hi,H,c,cf,K,t,ds,s,k,h=>by
  have L:ops.toList[i]?=I o:=by have:=congrArg (·[0]?) hd;simpa using this
  have ho:ops[i]?=I o:=by simpa using L
  have N:ops.toList.drop (i+1)=l:=by have:=congrArg (·.drop 1) hd;simpa[Nat.add_comm]using this
  have b0:i<ops.size:=Run.yZ ho;have Q:=hv o (eW L);have T:=GM z ops hv l (i+1)
  have slow:∀(B:Fr)(y:Rec)(m:S)(R:RC),gl (c_ P nt ops o cf ⟨toF t,ds,c.bI⟩) s=.ok (B,y) m→clashes (fC ops i).l b y=U→gp P nt ops ((l.zipIdx (i+1)).map fun(o,i)=>(i,o)) (b++ [y]) cf B m=R→
    gp P nt ops (((o::l).zipIdx i).map fun(o,i)=>(i,o)) b cf ⟨toF t,ds,c.bI⟩ s=R:=by
   intro B y m R W X E;show(match gl (c_ P nt ops o cf ⟨toF t,ds,c.bI⟩) s with | .ok (fr,x) s=>cond (clashes (fC ops i).l b x) (Rs.no ("clash " ++vC i++ " @ " ++o.pos)) (gp P nt ops ((l.zipIdx (i+1)).map fun(o,i)=>(i,o)) (b++ [x]) cf fr s) | .no y=>Rs.no y)=R;rw[W];dsimp only;rw[X];exact E
  cases F:kL P o with
  | true=>
   have h:(qL P d nt ops ((i,o)::((l.zipIdx (i+1)).map fun(o,i)=>(i,o)))).run c t s a g k=O:=h;unfold qL at h;dsimp only at h;rw[F]at h;have h:(L_ P d nt ops o).run c t s (fun t s=>(qL P d nt ops ((l.zipIdx (i+1)).map fun(o,i)=>(i,o))).run c t s a g k)=O:=h;obtain⟨t1,m,W,X⟩:=IE z ops o c cf K t s _ h;obtain⟨E,rfl⟩:=Kx F Q (W ds);have p:=H.push ho (y:=⟨m.n,m.n,[],[]⟩) (ur:=a) (fun _=>⟨rfl,rfl,rfl⟩) (fun e=>⟨e,rfl,rfl⟩);rw[F]at p;obtain⟨t2,s2,h4,h5⟩:=T _ g a N bf p c cf K t1 ds m k X;refine⟨t2,s2,slow _ _ _ _ E ?_ h4,h5⟩
   have:∀x:Rec,clash x ⟨m.n,m.n,[],[]⟩=U:=by
    intro x;unfold clash Dj meets;have e:(x.w.any fun i=>([]:List Nat).any fun j=>ak i j)=U:=by rw[gS];intro i _;simp
    dsimp only;rw[e];simp[jH]
   have C:∀(us:List Bool)(g:List Rec),clashes us g ⟨m.n,m.n,[],[]⟩=U:=by
    intro us
    induction us with
    | nil=>intro g;rfl
    | cons u us T=>
     intro g
     cases g with
     | nil=>cases u<;>rfl
     | cons x g=>
      cases u with
      | true=>show(clash x _||clashes us g _)=U;rw[this,T];rfl
      | false=>exact T g
   exact C _ _
  | false=>
   obtain⟨h0,n,r,w⟩:=s;have h:(qL P d nt ops ((i,o)::((l.zipIdx (i+1)).map fun(o,i)=>(i,o)))).run c t ⟨h0,n,r,w⟩ a g k=O:=h;unfold qL at h;dsimp only at h;rw[F]at h
   have h:(L_ P d nt ops o).run c t ⟨h0,n,[],[]⟩ (fun t s=>S.rec (motive:=fun _=>Bool) (fun h' f q v=>
    H5 (yK P ops i).l a g n f (tP (vV n f) q) (tP (vV n f) v) fun a=>(qL P d nt ops ((l.zipIdx (i+1)).map fun(o,i)=>(i,o))).run c t (S.mk h' f (A4 (tP (vV n f) q) r) (A4 (tP (vV n f) v) w)) a
     (n_ (Rec.mk n f (tP (vV n f) q) (tP (vV n f) v)) g) k) s)=O:=h
   obtain⟨t1,m,W,X⟩:=IE z ops o c cf K t _ _ h;obtain⟨h',f,q,v⟩:=m;obtain⟨ur,E,h4,h5⟩:=KA X;have ef:vV n f=my n f:=funext fun i=>Sf n f i
   simp only[Ky,rv,ef]at E h4 h5
   have a0:gl (c_ P nt ops o cf ⟨toF t,ds,c.bI⟩) ⟨h0,n,r,w⟩=.ok (⟨toF t1,ds,c.bI⟩,⟨n,f,q.filter (my n f),v.filter (my n f)⟩) ⟨h',f,q.filter (my n f)++r,v.filter (my n f)++w⟩:=by
    unfold gl;rw[W ds]
   have C:clashes (fC ops i).l b ⟨n,f,q.filter (my n f),v.filter (my n f)⟩=U:=by
    cases hl:ur with
    | true=>exact H.check bf (h5 hl)
    | false=>
     obtain⟨e1,e2,e3⟩:=h4 hl;subst e1;exact H.TB e2 e3
   have p:=H.push ho (y:=⟨n,f,q.filter (my n f),v.filter (my n f)⟩) (ur:=ur) (fun e=>by rw[F]at e;cases e) (fun e=>h4 e);rw[F]at p;obtain⟨t2,s2,h6,h7⟩:=T _ _ ur N bf p c cf K t1 ds _ k E;exact⟨t2,s2,slow _ _ _ _ a0 C h6,h7⟩
end
end Go.Ev
namespace Go.Ev
section
variable {P:aQ} {d nt:Nat}
theorem Ph(a:nt≤8 ^ d)(ops:Array aH)(b:KF d):Kq (Mb P d nt ops b) b (oC P nt ops O):=by
 intro c cf l t ds s k h;unfold Mb at h;show ∃x e f g,(cond (pe ops).b (⟨fun cf fr s=>gp P nt ops (ops.toList.zipIdx.map fun(o,i)=>(i,o)) [] cf fr s⟩:K) ⟨fun _ _ _=> .no "drawn"⟩).run cf ⟨toF t,ds,c.bI⟩ s=.ok (x,⟨toF e,f,c.bI⟩) g∧_
 cases j:(pe ops).b with
 | false=>rw[j]at h;cases h
 | true=>
  rw[j]at h;have h:(qL P d nt ops (ops.toList.zipIdx.map fun(o,i)=>(i,o))).run c t s U [] (fun t s=>b.run c t ds s k)=O:=h
  have m:∀o,o∈ops.toList→isVal o=O:=by
   intro o n;obtain⟨i,hi⟩:=tc n;exact(pS j (by simpa using hi)).1
  obtain⟨e,g,p,q⟩:=GM a ops m ops.toList 0 [] [] U rfl bf ⟨rfl,by simp,fun k x o h=>by simp at h,fun _ x h=>by simp at h⟩ c cf l t ds s _ h;exact⟨.gI,e,ds,g,p,q⟩
theorem Kq.kf{f:KF d}{g:K}(h:Kq f (oR d) g):Ys f g:=by
 intro c cf e t ds s k j;obtain⟨x,l,a,m,n,b⟩:=h c cf e t ds s k j;refine⟨x,l,a,m,n,?_⟩
 cases x with
 | gI=>exact b
 | exit i=>exact b
 | ret=>exact b
theorem GN{f:KF d}{g:K}(m:Ys f g):∀(n:Nat)(c:Cx)(cf:bR),i9 c.cf cf→∀t ds s k,H6 d f.run n c t ds s k=O→
  ∃x b a s',mZ g n cf ⟨toF t,ds,c.bI⟩ s=.ok (x,⟨toF b,a,c.bI⟩) s'∧(match x with | .gI=>False | x=>k x b a s'=O)
 | 0,c,cf,j,t,ds,s,k,h=>by cases h
 | n+1,c,cf,j,t,ds,s,k,h=>by
  have h:f.run c t ds s (fun x t ds s=>X.rec (motive:=fun _=>Bool) (tick (H6 d f.run n c t ds s k)) (fun i=>k (.exit i) t ds s) (k .ret t ds s) x)=O:=h;obtain⟨x,b,a,s',o,l⟩:=m c cf j t ds s _ h;have e:mZ g (n+1) cf ⟨toF t,ds,c.bI⟩ s=(match g.run cf ⟨toF t,ds,c.bI⟩ s with | .ok (.gI,fr) s=>mZ g n cf fr s | x=>x):=rfl;rw[e,o]
  cases x with
  | gI=>exact GN m n c cf j b a s' k l
  | exit i=>exact⟨_,b,a,s',rfl,l⟩
  | ret=>exact⟨_,b,a,s',rfl,l⟩
theorem nS(l:nt≤8 ^ d):∀(q:Code)(g:KF d),Kq (codeF P d nt g q) g (iL P nt q)
 | .skip,g=>fun c cf m t ds s k h=>⟨.gI,t,ds,s,rfl,h⟩
 | .label _,g=>fun c cf m t ds s k h=>⟨.gI,t,ds,s,rfl,h⟩
 | .region _ ops true,g=>Ph l ops g
 | .region _ ops false,g=>Kr l ops g ops.toList
 | .seq a b,g=>by
  intro c cf m t ds s k h;have h:(codeF P d nt (codeF P d nt g b) a).run c t ds s k=true:=h;obtain⟨x,n,f,p,u,j⟩:=nS l a (codeF P d nt g b) c cf m t ds s k h;have e:(iL P nt (.seq a b)).run cf ⟨toF t,ds,c.bI⟩ s=(match (iL P nt a).run cf ⟨toF t,ds,c.bI⟩ s with | .ok (.gI,fr) s=>(iL P nt b).run cf fr s | r=>r):=rfl;rw[e,u]
  cases x with
  | gI=>exact nS l b g c cf m n f p k j
  | exit i=>exact⟨_,n,f,p,rfl,j⟩
  | ret=>exact⟨_,n,f,p,rfl,j⟩
 | .cond o a b,g=>by
  intro c cf m t ds s k h
  have h:(cond (cy o) (⟨fun c t ds s k=>Dm ((cW d o).run t) ((codeF P d nt (oR d) a).run c t ds s fun x t ds s=>X.rec (motive:=fun _=>Bool) (g.run c t ds s k) (fun i=>k (.exit i) t ds s) (k .ret t ds s) x)
   ((codeF P d nt (oR d) b).run c t ds s fun x t ds s=>X.rec (motive:=fun _=>Bool) (g.run c t ds s k) (fun i=>k (.exit i) t ds s) (k .ret t ds s) x)⟩:KF d) ⟨fun _ _ _ _ _=>false⟩).run c t ds s k=true:=h
  cases y:cy o with
  | false=>rw[y]at h;cases h
  | true=>
   rw[y]at h;obtain⟨v,C,h⟩:=rn h;have B:=rl y t;rw[C]at B;have e:(iL P nt (.cond o a b)).run cf ⟨toF t,ds,c.bI⟩ s=(match Df (toF t) o with | some (.bool true)=>(iL P nt a).run cf ⟨toF t,ds,c.bI⟩ s | I (.bool false)=>(iL P nt b).run cf ⟨toF t,ds,c.bI⟩ s | _=> .no "cond"):=rfl;rw[e,B]
   cases v with
   | true=>
    obtain⟨x,n,f,p,u,j⟩:=(nS l a (oR d)).kf c cf m t ds s _ h;refine⟨x,n,f,p,u,?_⟩
    cases x<;>exact j
   | false=>
    obtain⟨x,n,f,p,u,j⟩:=(nS l b (oR d)).kf c cf m t ds s _ h;refine⟨x,n,f,p,u,?_⟩
    cases x<;>exact j
 | .block w a,g=>by
  intro c cf m t ds s k h;have h:(codeF P d nt (oR d) a).run c t ds s (fun x t ds s=>X.rec (motive:=fun _=>Bool) (g.run c t ds s k) (fun i=>aA (motive:=fun _=>Bool) (k (.exit i) t ds s) (g.run c t ds s k) (ak i w)) (k .ret t ds s) x)=true:=h;obtain⟨x,n,f,p,u,j⟩:=(nS l a (oR d)).kf c cf m t ds s _ h;have e:(iL P nt (.block w a)).run cf ⟨toF t,ds,c.bI⟩ s=(match (iL P nt a).run cf ⟨toF t,ds,c.bI⟩ s with | .ok (.exit i,fr) s=>cond (ak i w) (.ok (.gI,fr) s) (.ok (.exit i,fr) s) | r=>r):=rfl;rw[e,u]
  cases x with
  | gI=>exact⟨_,n,f,p,rfl,j⟩
  | ret=>exact⟨_,n,f,p,rfl,j⟩
  | exit i=>
   rcases nz j with⟨z,j⟩ | ⟨z,j⟩
   ·exact⟨.gI,n,f,p,by dsimp only;rw[z];rfl,j⟩
   ·exact⟨.exit i,n,f,p,by dsimp only;rw[z];rfl,j⟩
 | .loop a,g=>by
  intro c cf m t ds s k h;have h:H6 d (codeF P d nt (oR d) a).run 1000000 c t ds s k=true:=h;obtain⟨x,n,f,p,u,j⟩:=GN (nS l a (oR d)).kf 1000000 c cf m t ds s k h;refine⟨x,n,f,p,u,?_⟩
  cases x with
  | gI=>exact j.elim
  | exit i=>exact j
  | ret=>exact j
 | .exit w,g=>fun c cf m t ds s k h=>⟨.exit w,t,ds,s,rfl,h⟩
 | .ret,g=>fun c cf m t ds s k h=>⟨.ret,t,ds,s,rfl,h⟩
 | .scope _,g=>fun c cf m t ds s k h=>by cases h
 | .goto _,g=>fun c cf m t ds s k h=>by cases h
 | .rangeFunc ..,g=>fun c cf m t ds s k h=>by cases h
 | .refuse _,g=>fun c cf m t ds s k h=>by cases h
theorem ut:∀(l:List ResultVar)(t:TF d)(s:S)(c:List Y)(k:List Y→S→Bool),(rh P d l).run t s k=O→∃vs s',k vs s'=O∧hD P (toF t) l c s=hD P (toF t) [] (vs.reverse++c) s'
 | [],t,s,c,k,h=>⟨[],s,h,rfl⟩
 | .tmp i::l,t,s,c,k,h=>by
  have h:(rh P d l).run t s (fun vs s=>k ((cW d (.tmp i)).run t::vs) s)=O:=h;have hi:toF t i=(cW d (.tmp i)).run t:=rD (rl (d:=d) (o:=.tmp i) rfl t);obtain⟨vs,s',g,j⟩:=ut l t s (toF t i::c) _ h;rw[←hi]at g;refine⟨_,s',g,?_⟩;show hD P (toF t) l (toF t i::c) s=_;rw[j];simp
 | .cell a f::l,t,s,c,k,h=>by
  have hi:toF t a=(cW d (.tmp a)).run t:=rD (rl (d:=d) (o:=.tmp a) rfl t)
  have h:(cond (cF P f) (cond (fc P f)
   (⟨fun t s k=>mi ((cW d (.tmp a)).run t) fun b o=>Dp (sizeT P f) b o s fun v s=>(rh P d l).run t s fun vs s=>k (v::vs) s⟩:RF d)
   ⟨fun t s k=>mi ((cW d (.tmp a)).run t) fun b o=>Do b o s fun v s=>(rh P d l).run t s fun vs s=>k (v::vs) s⟩) ⟨fun _ _ _=>U⟩).run t s k=O:=h
  have e:hD P (toF t) (.cell a f::l) c s=(match toF t a with
   | .ptr b p=>cond (cF P f) (match mg (fc P f) (sizeT P f) b p s with | .ok v s=>hD P (toF t) l (v::c) s | .no w=> .no w) (.no "result type")
   | _=> .no "result: no pointer"):=rfl
  rw[e,hi]
  cases m:cF P f with
  | false=>rw[m]at h;cases h
  | true=>
   rw[m]at h
   cases n:fc P f with
   | true=>
    rw[n]at h;obtain⟨b,o,q,h⟩:=lq h;obtain⟨v,r,u,h⟩:=Bn h;obtain⟨vs,s',g,j⟩:=ut l t r (v::c) _ h;refine⟨_,s',g,?_⟩;rw[q];show(match s.jW b o (sizeT P f) zU with | .ok v s=>hD P (toF t) l (v::c) s | .no w=> .no w)=_;rw[u];dsimp only;rw[j];simp
   | false=>
    rw[n]at h;obtain⟨b,o,q,h⟩:=lq h;obtain⟨v,r,u,h⟩:=Bm h;obtain⟨vs,s',g,j⟩:=ut l t r (v::c) _ h;refine⟨_,s',g,?_⟩;rw[q];show(match s.jW b o 1 oneCell with | .ok v s=>hD P (toF t) l (v::c) s | .no w=> .no w)=_;rw[u];dsimp only;rw[j];simp
theorem GO(t:Nat→Y)(vs:List Y)(s:S):hD P t [] (vs.reverse++ []) s=.ok (oneOf vs) s:=by
 rw[eH];show(match vs.reverse with | [v]=>Rs.ok v s | _=> .ok (.dS vs.reverse.reverse) s)=_;rw[List.reverse_reverse];rcases vs with _ | ⟨v,_ | ⟨w,l⟩⟩
 ·rfl
 ·rfl
 ·have:∀m:List Y,m.length≠1→(match m with | [v]=>Rs.ok v s | _=> .ok (.dS (v::w::l)) s)=Rs.ok (.dS (v::w::l)) s:=by
   intro m hm
   split
   ·simp at hm
   ·rfl
  exact this _ dR
theorem GP:∀(l:List Y)(i:Nat)(t:TF d)(k:TF d→Bool),i+l.length≤8 ^ d→H_ d l i t k=O→∃f,k f=O∧toF f=fun j=>cond (aG i j&&bM j (i+l.length)) (l.getD (j-i) cE) (toF t j)
 | [],i,t,k,o,h=>⟨t,h,by
   funext j
   have:(aG i j&&bM j (i+([]:List Y).length))=U:=by
    simp only[lK,dg]
    cases b:aG i j with
    | false=>rfl
    | true=>have:=ax b;rw[su.mpr bf];rfl
   rw[this];rfl⟩
 | a::l,i,t,k,o,h=>by
  have h:(put d i).run a t (fun t=>H_ d l (i+1) t k)=O:=h;rw[yN]at h;simp only[eI]at o;obtain⟨f,p,q⟩:=GP l (i+1) _ k bf h;refine⟨f,p,?_⟩;rw[q,toF_set bf]
  funext j
  simp only[eI];rcases pX j i with g | g | g
  ·have c:aG (i+1) j=U:=by cases b:aG (i+1) j with | false=>rfl | true=>have:=ax b;omega
   have e:aG i j=U:=by cases b:aG i j with | false=>rfl | true=>have:=ax b;omega
   have m:ak j i=U:=by cases b:ak j i with | false=>rfl | true=>have:=aI b;omega
   rw[c,e,m];rfl
  ·subst g
   have c:aG (j+1) j=U:=by cases b:aG (j+1) j with | false=>rfl | true=>have:=ax b;omega
   have e:aG j j=O:=cA (bP _);have n:bM j (j+(l.length+1))=O:=nR.mpr bf;rw[c,e,n,jH,Nat.sub_self];rfl
  ·have c:aG (i+1) j=O:=cA bf
   have e:aG i j=O:=cA bf;have m:ak j i=U:=by cases b:ak j i with | false=>rfl | true=>have:=aI b;omega
   have n:i+(l.length+1)=i+1+l.length:=bf
   have r:j-i=(j-(i+1))+1:=bf
   rw[c,e,m,n,r];rfl
theorem Sg{l:List Y}{t:TF d}(h:toF t=fun j=>cond (aG 0 j&&bM j (0+l.length)) (l.getD (j-0) cE) (toF (TT.all cE d:TF d) j)):toF t=tO l:=by
 rw[h]
 funext j
 unfold tO
 have a:toF (TT.all cE d:TF d) j=cE:=by
  unfold toF;rw[TT.DD]
  cases bM j (8 ^ d)<;>rfl
 rw[a];have b:aG 0 j=O:=cA (Nat.zero_le _);rw[b,cO]
 cases c:bM j l.length with
 | true=>rfl
 | false=>
  have:=su.mp c;show cE=l.getD j cE;rw[eX,dp bf];rfl
theorem GQ{a:qK}{cd:bR}(b:i9 a cd):∀(l:List nx)(s:S)(κ:S→Bool),zY a l s κ=O→∃s',κ s'=O∧∀k:S→RV,ii cd l s k=k s'
 | [],s,κ,h=>⟨s,h,fun _=>rfl⟩
 | q::l,s,κ,h=>by
  have h:(match q.f with | .func g=>a g (q.args++q.cap) s fun _ s=>zY a l s κ | _=>U)=O:=h
  split at h
  ·rename_i g c
   obtain⟨v,d,e,f⟩:=b _ _ _ _ h;obtain⟨s',i,j⟩:=GQ b l d κ f;refine⟨s',i,fun k=>?_⟩;show(match q.f with | .func g=>(match cd g (q.args++q.cap) s with | .ok _ s=>ii cd l s k | .no w=> .no w) | _=> .no "defer of what")=_;rw[c];dsimp only;rw[e];exact j k
  ·cases h
end
end Go.Ev
namespace Go.Ev
section
variable {P:aQ} {d nt:Nat}
theorem Nz(q:nt≤8 ^ d){f:Nat}{body:Code}{res:List ResultVar}(E:(L3 P f).k=I ⟨nt,iL P nt body,res⟩){c:Cx}{cf cd:bR}(F:i9 c.cf cf)(H:i9 c.cd cd){args:List Y}{s:S}{κ:Y→S→Bool}
  (h:(Za P d nt body res).run c args s κ=O):∃v s',iM P cf cd c.bI f args s=.ok v s'∧κ v s'=O:=by
 have h:aA (motive:=fun _=>Bool) U (H_ d args 0 (TT.all cE d) fun t=>(codeF P d nt (oR d) body).run c t [] s fun x t ds s=>
  (fun fin=>X.rec (motive:=fun _=>Bool) fin (fun _=>U) fin x) (Cx.rec (motive:=fun _=>Bool) (fun _ cd b=>aA (motive:=fun _=>Bool) (zY cd ds s fun s=>(rh P d res).run t s fun g s=>κ (oneOf g) s) (bK (motive:=fun _=>Bool) ((rh P d res).run t s fun g s=>κ (oneOf g) s) (fun _ _ _=>U) ds) b) c)) (aG args.length nt)=O:=h
 obtain⟨l,h⟩:=dd h;have r:=ax l;obtain⟨K,h,n⟩:=GP args 0 _ _ bf h;have n:=Sg n;obtain⟨x,j,a,k,B,u⟩:=(nS q body (oR d)).kf c cf F K [] s _ h;rw[n]at B;obtain⟨W,C,b⟩:=c
 have p:aA (motive:=fun _=>Bool) (zY C a k fun s=>(rh P d res).run j s fun g s=>κ (oneOf g) s) (bK (motive:=fun _=>Bool) ((rh P d res).run j k fun g s=>κ (oneOf g) s) (fun _ _ _=>U) a) b=O∧x≠.exit 0∧(∀i,x≠.exit i):=by
  cases x with
  | gI=>exact⟨u,by simp,by simp⟩
  | exit i=>cases u
  | ret=>exact⟨u,by simp,by simp⟩
 obtain⟨o,_,L⟩:=p
 have e:iM P cf cd b f args s=(match (iL P nt body).run cf ⟨tO args,[],b⟩ s with
  | .no w=> .no (w++ " < " ++((P.funcs[f]?).map (·.name)).getD "?")
  | .ok (.exit _,_) _=> .no "exit"
  | .ok (_,fr) s=>cond b (match fr.d with | []=>hD P fr.t res [] s | _=> .no "defer within a deferred call") (ii cd fr.d s fun s=>hD P fr.t res [] s)):=by
  unfold iM;rw[E];dsimp only;rw[l];rfl
 show ∃v s',iM P cf cd b f args s=.ok v s'∧κ v s'=O;rw[e,B]
 have m:∀R:RV,R=cond b (match (Fr.mk (toF j) a b).d with | []=>hD P (toF j) res [] k | _=> .no "defer within a deferred call") (ii cd a k fun s=>hD P (toF j) res [] s)→∃v s',R=.ok v s'∧κ v s'=O:=by
  rintro R rfl
  cases b with
  | true=>
   have o:bK (motive:=fun _=>Bool) ((rh P d res).run j k fun g s=>κ (oneOf g) s) (fun _ _ _=>U) a=O:=o
   cases a with
   | cons=>cases o
   | nil=>
    obtain⟨g,s',y,z⟩:=ut res j k [] _ o;exact⟨oneOf g,s',by show hD P (toF j) res [] k=_;rw[z,GO],y⟩
  | false=>
   have o:(zY C a k fun s=>(rh P d res).run j s fun g s=>κ (oneOf g) s)=O:=o;obtain⟨N,y,z⟩:=GQ H a k _ o;obtain⟨g,s',Q,T⟩:=ut res j N [] _ y;exact⟨oneOf g,s',by show ii cd a k _=_;rw[z,T,GO],Q⟩
 cases x with
 | gI=>exact m _ rfl
 | ret=>exact m _ rfl
 | exit i=>exact absurd rfl (L i)
theorem NA{f:Nat}{c:Cx}{cf cd:bR}(j:i9 c.cf cf)(k:i9 c.cd cd){args:List Y}{s:S}{κ:Y→S→Bool}(h:(Mc P f).run c args s κ=O):∃v s',iM P cf cd c.bI f args s=.ok v s'∧κ v s'=O:=by
 unfold Mc at h
 split at h
 ·rename_i fn b
  split at h
  ·rename_i body a
   cases e:fn.name== "runtime.NumGoroutine" with
   | true=>rw[e]at h;cases h
   | false=>
    rw[e]at h
    have l:(L3 P f).k=I ⟨fn.ntmps,iL P fn.ntmps body,fn.results.toList⟩:=by
     unfold L3;dsimp only;rw[b];dsimp only;rw[a];dsimp only;rw[e];rfl
    dsimp only[cond]at h
    cases g:aG fn.ntmps 64 with
    | true=>
     rw[g]at h;exact Nz (d:=2) (ax g) l j k h
    | false=>
     rw[g]at h;dsimp only at h
     cases i:aG fn.ntmps 512 with
     | true=>
      rw[i]at h;exact Nz (d:=3) (ax i) l j k h
     | false=>rw[i]at h;cases h
  ·cases h
 ·cases h
def Eh(d:Nat→Option HF)(a:Nat→Nat→Option bR):Prop:=∀f,match d f with
 | some q=>∀n,(match q.run n with
  | some g=>∃h,a f n=I h∧∀c args s κ,s.n=n→g.run c args s κ=O→∃v b,h f args s=.ok v b∧κ v b=O
  | none=>a f n=J)
 | none=>∀n,a f n=J
theorem KB{d:Nat→Option HF}{b:Nat→Nat→Option bR}(o:Eh d b):∀n,i9 (na P d n U) (jo P b n U)∧i9 (na P d n O) (jo P b n O)
 | 0=>⟨fun f a s κ h=>by(cases h),fun f a s κ h=>by(cases h)⟩
 | n+1=>by
  obtain⟨p,t⟩:=KB o n;refine⟨?_,?_⟩
  ·intro f a s κ h
   have h:(S4 P d U f).run (Cx.mk (na P d n U) (na P d n O) U) a s κ=O:=h;have i:=o f
   have plain:b f s.n=J→(Mc P f).run (Cx.mk (na P d n U) (na P d n O) U) a s κ=O→∃v u,jo P b (n+1) U f a s=.ok v u∧κ v u=O:=by
    intro l h
    have e:jo P b (n+1) U f a s=iM P (jo P b n U) (jo P b n O) U f a s:=by
     show(match b f s.n with | some g=>g f a s | none=>iM P (jo P b n U) (jo P b n O) U f a s)=_;rw[l]
    rw[e];exact NA (c:=⟨na P d n U,na P d n O,U⟩) p t h
   unfold S4 at h;dsimp only[cond]at h
   cases j:d f with
   | none=>
    rw[j]at h i;exact plain (i s.n) h
   | some q=>
    rw[j]at h i;obtain⟨k,m,r,w⟩:=s;have h:gL (motive:=fun _=>Bool) ((Mc P f).run (Cx.mk (na P d n U) (na P d n O) U) a (S.mk k m r w) κ) (fun q=>q.run (Cx.mk (na P d n U) (na P d n O) U) a (S.mk k m r w) κ) (q.run m)=O:=h;have i:=i m
    cases x:q.run m with
    | none=>
     rw[x]at h i;exact plain i h
    | some g=>
     rw[x]at h i;obtain⟨i,l,y⟩:=i
     have e:jo P b (n+1) U f a ⟨k,m,r,w⟩=i f a ⟨k,m,r,w⟩:=by
      show(match b f m with | some g=>g f a _ | none=>iM P (jo P b n U) (jo P b n O) U f a _)=_;rw[l]
     rw[e];exact y _ _ _ _ rfl h
  ·intro f a s κ h
   have h:(S4 P d O f).run (Cx.mk (na P d n U) (na P d n O) O) a s κ=O:=h;have e:jo P b (n+1) O f a s=iM P (jo P b n U) (jo P b n O) O f a s:=rfl;rw[e];exact NA (c:=⟨na P d n U,na P d n O,O⟩) p t h
end
end Go.Ev
