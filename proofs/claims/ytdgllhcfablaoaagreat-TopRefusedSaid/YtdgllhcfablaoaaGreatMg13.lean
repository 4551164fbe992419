/- What the law asks, in parts: ZEvO ZEvP ZEvQ ZEvR ZEvS ZEvT ZEvU ZEvV ZEvW ZEvX ZEvY ZEvZ ZEvAA ZEvAB ZEvAC ZEvAD ZEvAE ZEvAF. -/
import Derived.MapKept
import Derived.Recover
import Derived.Conc.LoneSelect
import Derived.LoopN
import Derived.Defers
import Derived.Test.YtdgllhcfablaoaaGreatMg12
set_option linter.all false
set_option maxRecDepth 100000
set_option maxHeartbeats 16000000
open Bool renaming false→U,true→O,and_eq_true→aM,not_true→cL,false_eq_true→bZ,not_false→dE
open Option renaming some→I,none→J,map_some→dl,map_eq_some_iff→dA,bind_some→iw,getD_some→kT
open Go renaming World→V,Value→Z,Operand→aP,Program→aQ,Oper→aH,execOp→bv,IntKind→cZ,undef→fq,callFunc→gH,MapEntry→gX,resolve→il,convert→rA,invoke→iO,zeroValue→kr,yielded→kD,Frame→j9,ResultVar→lB,goInt→lQ,Code→lO,loadCells→pY,loadCellsFrom→uT,step_block→uW,loadVar→vb,Deferred→vD,run_newObj→qG,callMethod→Bv
open Go.Result renaming andThen_ok→ai
open Nat renaming beq→ak,le_of_ble_eq_true→ax,eq_of_beq_eq_true→aI,ble→aG,blt→bM,le_refl→bP,ble_eq_true_of_le→cA,mul_le_mul→fs,blt_eq→kh
open Go.Sem renaming run_bind→az,run_pure→bH,run→fz
open Array renaming getElem?_modify→aR,getD_eq_getD_getElem?→cv,ext'→cg,replicate→dP,getElem?_setIfInBounds→fH
open Go.Builtin renaming zeroCells→aX,firstCells→bd,append_→cK
open List renaming replicate→bG,append_nil→eH,range'→zy
open Option.some renaming injEq→bU
open Go.Op renaming operands→cY
open Go.Call renaming operands→dJ
open Go.Region renaming wanted→dU
open Go.Question renaming appendCap→eU
open Int renaming toNat_natCast→fl,natCast_mul→j5,ofNat_le→qQ
open Go.Value renaming int→gV
open Go.Instr renaming findNow→jd,findKey→je,checkKey→fM,keyThatStays→vM,lookup→wv,typeAssert→eY,mapUpdate→AB
open Go.Steps renaming trans→kq
open Go.Deferred renaming ofValue→kW
open Go.stepG renaming apply→lM
open Go.Frame renaming finish_at→nZ,enter→zA
open PUnit renaming unit→uX
open Go.Made renaming depth→uY
open Go.Conv renaming stringToBytes→vN
open Go.World renaming freeze→wl
open ForInStep renaming yield→AD
namespace Go.Ev
open Go.RowKit (Below)
section
variable {P:aQ} {ρ:Env} {B0:Nat} {w0 w:V}
theorem run_append_nil{ts:Array Nat}{q st e n len cap:Nat}{args:Array Z}{x:Z}{vs:List Z}(b:ts[0]?=I st)(l:args[0]?=I (.slice J len cap))(m:args[1]?=I x)
  (o:P.underlying st=I (.slice e)) (c:cF P e=O) (f:ts[1]?=J∨∃i d,ts[1]?=I i∧P.underlying i=I d∧∀k,d≠.int k)
  (p:(Builtin.lenOf x).run P w=.ok n w) (a:len+n≤cap) (g:(bd (sizeT P e) n x).run P w=.ok ⟨vs⟩ w):(cK ts q args).run P w=.ok (.slice J (len+n) cap) w:=by
 rcases f with f | ⟨i,d,f,h,j⟩
 ·simp only[cK,b,l,m,f,az,aK o,ai,eC c,bH,bZ,if_false,p,a,if_true,dE,g]
 ·cases d<;>first
   | (exact absurd rfl (j _))
   | simp only[cK,b,l,m,f,h,aK h,az,aK o,ai,eC c,bH,bZ,if_false,p,a,if_true,dE,g]
theorem ny{ts:Array Nat}{x st v e n len cap:Nat}{k y:cZ}{args:Array Z}{base:Option Addr}{c:Z}{w':V}(p:ts[0]?=I st)(z:args[0]?=I (.slice base len cap))(B:args[1]?=I (.int k (n:Int)))
  (C:P.underlying st=I (.slice e)) (d:cF P e=O) (E:gN P e≤10000) (f:∀W,(kr e).run P W=.ok c W) (q:c.cells.size=sizeT P e) (F:ts[1]?=I v) (r:P.underlying v=I (.int y))
  (H:n≤1000000) (g:len+n≤cap) (a:(base=J∧w'=w)∨∃o,base=I o∧(storeCells (o.add (len*sizeT P e)) (bG n c.cells.toList).flatten).run P w=.ok () w'):(cK ts x args).run P w=.ok (.slice base (len+n) cap) w':=by
 obtain⟨i,hi⟩:=jC d;have K:i.bytes=gN P e:=by simp[gN,hi]
 have s:∀W:V,(typeInfo e).run P W=.ok i W:=fun W=>jY hi
 have L:=vw n bf;have h:n*i.bytes≤1000000*10000:=fs H bf;have t:(2:Int) ^ 48=281474976710656:=rfl;have j:¬ ((n:Int)<0):=bf
 have l:¬ ((n:Int)*(i.bytes:Int)>2 ^ 48):=by
  rw[t];have:((n*i.bytes:Nat):Int)≤((1000000*10000:Nat):Int):=qQ.2 h;rw[j5]at this;have N:((1000000*10000:Nat):Int)=10000000000:=rfl;omega
 have m:c.cells.toList.length=sizeT P e:=by simp[q]
 have u:(aX c.cells n)=⟨(bG n c.cells.toList).flatten⟩:=by rw[aX,pP]
 simp only[cK,p,z,B,F,aK r,az,aK C,ai,eC d,bH,if_true,asInt,asIntOf,L,j,if_false,s,l,fl,g];by_cases b:n*sizeT P e=0
 ·rw[vy (by rw[m];exact b)]at a
  rcases a with⟨rfl,rfl⟩ | ⟨o,rfl,a⟩
  ·simp[b]
  ·simp[b,a]
 ·rcases a with⟨rfl,rfl⟩ | ⟨o,rfl,a⟩
  ·simp[b,f]
  ·simp[b,f,u,a]
theorem s7{ts:Array Nat}{S st R e n len cap:Nat}{k T:cZ}{args:Array Z}{base:Option Addr}{c:Z}{a:List Z}(y:ts[0]?=I st)(X:args[0]?=I (.slice base len cap))(h1:args[1]?=I (.int k (n:Int)))
  (hu:P.underlying st=I (.slice e)) (h:cF P e=O) (a0:gN P e≤10000) (j:∀W,(kr e).run P W=.ok c W) (z:c.cells.size=sizeT P e) (hz:ts[1]?=I R) (B:P.underlying R=I (.int T))
  (hn:n≤1000000) (b0:1≤sizeT P e) (l:¬len+n≤cap) (C:len+n≤1000000) (o:∀W:V,(∀b:Nat,W.heap[b]?=w.heap[b]?)→(bd (sizeT P e) len (.slice base len cap)).run P W=.ok ⟨a⟩ W):
  ∃newCap rest,len+n≤newCap∧rest.length=(newCap-(len+n))*c.cells.size∧
   (cK ts S args).run P w=.ok (.slice (I ⟨w.heap.size,0,J⟩) (len+n) newCap) (w.drew.alloc (.cells ⟨a++(bG n c.cells.toList).flatten++rest⟩ e)):=by
 obtain⟨i,hi⟩:=jC h;have c0:i.bytes=gN P e:=by simp[gN,hi]
 have E:∀W:V,(typeInfo e).run P W=.ok i W:=fun W=>jY hi
 have hw:=vw n bf;have p:n*i.bytes≤1000000*10000:=fs hn bf;have F:(len+n)*i.bytes≤1000000*10000:=fs C bf;have H:(2:Int) ^ 48=281474976710656:=rfl;have q:(2:Nat) ^ 48=281474976710656:=rfl;have r:¬ ((n:Int)<0):=bf
 have s:¬ ((n:Int)*(i.bytes:Int)>2 ^ 48):=by
  rw[H];have:((n*i.bytes:Nat):Int)≤((1000000*10000:Nat):Int):=qQ.2 p;rw[j5]at this;have h4:((1000000*10000:Nat):Int)=10000000000:=rfl;omega
 have t:c.cells.toList.length=sizeT P e:=by simp[z]
 have hg:=growslice_fits (need:=len+n) (old:=cap) (bytes:=i.bytes) bf bf;have K:IntKind.i64.max=9223372036854775807:=rfl;have L:¬ (((len+n:Nat):Int)>IntKind.i64.max∧(True∨i.bytes=0)):=by rw[K];omega
 have N:¬ (Builtin.nextslicecap (len+n) cap*i.bytes>2 ^ 48):=by rw[q];omega
 have hq:(eU (len+n) cap e).forced=U:=rfl
 have u:len+n≤(eU (len+n) cap e).cut (w.tape w.drawn (.appendCap (len+n) cap e)):=by
  show len+n≤len+n+_%_;omega
 generalize Q:(eU (len+n) cap e).cut (w.tape w.drawn (.appendCap (len+n) cap e))=newCap at u;have d:∀b:Nat,w.drew.heap[b]?=w.heap[b]? :=fun _=>rfl
 refine⟨newCap,(aX c.cells (newCap-(len+n))).toList,u,by simp[aX],?_⟩;have v:(aX c.cells n)=⟨(bG n c.cells.toList).flatten⟩:=by rw[aX,pP]
 have f:(⟨a⟩:Array Z)++⟨(bG n c.cells.toList).flatten⟩++aX c.cells (newCap-(len+n))=⟨a++(bG n c.cells.toList).flatten++(aX c.cells (newCap-(len+n))).toList⟩:=by
  apply cg;simp
 have x:(#[]:Array Z)=⟨[]⟩:=rfl;simp only[cK,y,X,h1,hz,aK B,az,aK hu,ai,eC h,bH,if_true,asInt,asIntOf,hw,r,if_false,E,s,fl,l,L,N,run_choose hq,Q,Ae,o _ d];by_cases g:n*sizeT P e=0
 ·have e0:=vy (m:=n) (zs:=c.cells.toList) (by rw[t];exact g)
  rw[e0]at f v⊢;simp only[cL,bZ,if_false,g,if_true,bH,ai,az,j,newRow,qG,x,f];rfl
 ·simp only[cL,bZ,if_false,g,bH,ai,az,j,v,newRow,qG,f]
  rfl
noncomputable def qq(h:Tr AO)(size n:Nat):Y→Option (List Y)
 | .slc b a _ _ _=>match h.get b with | some (.row c _)=>takeN (n*size) (c.drop a) | _=>J
 | .oM _ _ _ _=>if n=0 then I []else J
 | .iC=>if n=0 then I []else J
 | .str l=>I ((l.take n).map tH)
 | _=>J
theorem Af{α:Type}{s s':S}{size n:Nat}{p:Y}{k:List Y→S→Rs α}{v:α}(h:s.iJ size n p k=.ok v s'):∃l d,qq s.h size n p=I l∧k l d=.ok v s'∧d.h=s.h∧d.n=s.n:=by
 unfold S.iJ at h
 cases p<;>try (cases h;done)
 case str l=>exact⟨_,s,rfl,h,rfl,rfl⟩
 case iC=>
  cases a:ak n 0 with
  | false=>rw[a]at h;cases h
  | true=>rw[a]at h;exact⟨[],s,by simp[qq,aI a],h,rfl,rfl⟩
 case oM=>
  cases a:ak n 0 with
  | false=>simp only[a,cond_false]at h;cases h
  | true=>simp only[a,cond_true]at h;exact⟨[],s,by simp[qq,aI a],h,rfl,rfl⟩
 case slc b e len f c=>
  obtain⟨cs,op,l,g,i,j⟩:=jD h;exact⟨l,_,by simp[qq,g,i],j,rfl,rfl⟩
theorem Mp{h:Tr AO}{size n m:Nat}{p:Y}{u:Z}{l:List Y}(a:qq h size n p=I l)(o:Rel B0 w0 ρ h w)(g:VR ρ p u)(hm:Dg p=I m)(q:n≤m)(s:Hp p size=O):
  ∃vs,cq ρ l vs∧vs.length=n*size∧∀W:V,(∀b:Nat,W.heap[b]?=w.heap[b]?)→(bd size n u).run P W=.ok ⟨vs⟩ W:=by
 cases p<;>try (cases a;done)
 case str t=>
  cases hm;cases g;cases a
  obtain rfl:size=1:=aI s;refine⟨(t.take n).map (fun b=> .int .u8 (b.toNat:Int)),?_,by simp;omega,fun W _=>?_⟩
  ·induction (t.take n)with
   | nil=>rfl
   | cons b r x=>exact⟨_,_,rfl,x,rfl⟩
  ·simp only[bd,bH]
   congr 1
   apply cg;simp[ByteArray.data_extract,List.extract_eq_take_drop]
 case iC=>
  cases hm;cases g
  obtain rfl:n=0:=bf
  cases a
  exact⟨[],rfl,by simp,fun W _=>by simp[bd]⟩
 case oM=>
  cases hm
  obtain rfl:n=0:=bf
  cases a
  obtain⟨B,κ,f,rfl⟩:=g;exact⟨[],rfl,by simp,fun W _=>by simp[bd,pY,uT]⟩
 case slc b i len y c=>
  obtain⟨B,κ,f,rfl,_⟩:=g;unfold qq at a;dsimp only at a
  split at a
  ·rename_i cs op z
   obtain⟨vs,k,d,_,e⟩:=jx (P:=P) (o.row z f) a;refine⟨vs,k,d,fun W C=>?_⟩;simp only[bd]
   have:=run_loadCells_list (P:=P) W ⟨B,i,J⟩ vs (fun j v E=>by
    rw[addr_add];have:=e j v E;unfold World.cell? at this⊢
    rw[C];exact this)
   rw[d]at this;exact this
  ·cases a
theorem Io{size n:Nat}{x:Y}{new:S→(List Y→S→RV)→RV}{s s':S}{v:Y}(h:jX size x n new s=.ok v s'):n=0∨∃j k,j.h=s.h∧new j k=.ok v s':=by
 unfold jX at h
 cases g:Dh x n with
 | false=>rw[g]at h;cases h
 | true=>
 rw[g]at h;simp only[cond_true]at h
 split at h
 ·cases e:ak n 0 with
  | true=>exact .inl (aI e)
  | false=>rw[e]at h;exact .inr ⟨s,_,rfl,h⟩
 ·rename_i b d len i c
  cases i with
  | true=>
   simp only[cond_true]at h;obtain⟨q,p,a⟩:=jt h
   split at a
   ·rename_i cs op
    cases f:(ak op (size+1)&&ak d (c*size))with
    | false=>rw[f]at a;cases a
    | true=>
    rw[f]at a;simp only[cond_true]at a
    cases m:aG (d+(len+n)*size) cs.length with
    | true=>rw[m]at a;exact .inr ⟨{ s with r:=b::s.r },_,rfl,a⟩
    | false=>
     rw[m]at a;simp only[cond_false]at a
     cases o:(ak d 0&&ak c 0)with
     | false=>rw[o]at a;cases a
     | true=>rw[o]at a;exact .inr ⟨{ s with r:=b::s.r },_,rfl,a⟩
   ·cases a
   ·cases a
  | false=>
   simp only[cond_false]at h
   cases f:aG (len+n) c with
   | true=>rw[f]at h;exact .inr ⟨s,_,rfl,h⟩
   | false=>
    rw[f]at h;simp only[cond_false]at h;obtain⟨cs,op,l,t,g,a⟩:=jD h;exact .inr ⟨{ s with r:=b::s.r },_,rfl,a⟩
 ·cases e:ak n 0 with
  | true=>exact .inl (aI e)
  | false=>rw[e]at h;cases h
 ·cases h
theorem builtin_append{c:Call}{o:aH}{a:Act}{b:List Z}(d:c.callee=.builtin .append)(e:o.op=.call c)(f:c.args.toList.map a.eval=b):
  (bv a.eval o).run P w=((cK c.argTypes o.type ⟨b⟩).run P w).andThen fun v w'=> .ok (.value v) w':=by
 rw[jE d e,oF f];simp only[builtin,az];rfl
theorem vW{c:Call}{st e:Nat}{more:List Nat}(hc:c.callee=.builtin .append)(d0:c.argTypes.toList=st::more)(hu:P.underlying st=I (.slice e))(z:Y)(hz:km P e=I z)
  (y:cF P e=O) (f0:gN P e≤10000) (m:1≤sizeT P e) (g0:z.cells.length=sizeT P e) (C:more=[]∨∃E r d,more=E::r∧P.underlying E=I d∧∀k,d≠.int k):ct P (.call c) (pJ (sizeT P e)):=by
 intro cf _ av s v s' f o a w B0 w0 ρ ho S hr hf;rw[ij hc]at S;unfold pJ at f;dsimp only at f
 split at f
 ·rename_i x q
  obtain⟨u1,ws,hx,⟨u2,o0,hq,h0,e2⟩,he⟩:=S
  cases h0;subst e2
  split at f
  ·rename_i n hn
   cases p:Hp q (sizeT P e)with
   | false=>rw[p]at f;cases f
   | true=>
   rw[p]at f;simp only[cond_true]at f;have t:=pt d0;have F:c.argTypes[0]?=I st:=by rw[t];rfl
   have H:c.argTypes[1]?=J∨∃E d,c.argTypes[1]?=I E∧P.underlying E=I d∧∀k,d≠.int k:=by
    rcases C with rfl | ⟨E,r,d,rfl,K,T⟩
    ·exact .inl (by rw[t];rfl)
    ·exact .inr ⟨E,d,by rw[t];rfl,K,T⟩
   have e0:(⟨[u1,u2]⟩:Array Z)[0]?=I u1:=rfl;have e1:(⟨[u1,u2]⟩:Array Z)[1]?=I u2:=rfl;have L:=JW (P:=P) (w:=w) hn hq
   obtain⟨R,X⟩:∃R,(∀W,(kr e).run P W=.ok R W)∧R.cells.size=sizeT P e:=by
    obtain⟨i,R,hi,i0,hv⟩:=sp hz;refine⟨R,fun W=>?_,by rw[←g0];exact nQ (hv (fun _=>J))⟩;simp only[kr,az,jY hi,ai,i0];rfl
   have base:∃b len cap,u1=.slice b len cap:=by
    unfold jX at f
    cases j:Dh x n with
    | false=>rw[j]at f;cases f
    | true=>
     rw[j]at f;simp only[cond_true]at f
     cases x<;>try (cases f;done)
     ·cases hx;exact⟨_,_,_,rfl⟩
     ·obtain⟨B,κ,_,rfl,_⟩:=hx;exact⟨_,_,_,rfl⟩
     ·obtain⟨B,κ,_,rfl⟩:=hx;exact⟨_,_,_,rfl⟩
   obtain⟨b,len,cap,rfl⟩:=base
   obtain⟨vs,j0⟩:∃vs:List Z,(∀W:V,(∀b:Nat,W.heap[b]?=w.heap[b]?)→(bd (sizeT P e) n u2).run P W=.ok ⟨vs⟩ W)∧vs.length=n*sizeT P e∧Src ρ s.h (fun s k=>s.iJ (sizeT P e) n q k) vs:=by
    have N:n=0∨∃l,qq s.h (sizeT P e) n q=I l:=by
     rcases Io f with h | ⟨s0,k,k0,h⟩
     ·exact .inl h
     ·obtain⟨l,s1,j,_⟩:=Af h
      rw[k0]at j;exact .inr ⟨l,j⟩
    by_cases j:∃l,qq s.h (sizeT P e) n q=I l
    ·obtain⟨l,j⟩:=j
     obtain⟨vs,K,T,h3⟩:=Mp (P:=P) j hr hq hn (bP _) p;refine⟨vs,h3,T,fun s1 k v1 s2 m hk=>?_⟩;obtain⟨l',s3,u,a0,h4,h5⟩:=Af hk;rw[m,j]at u
     cases u
     exact⟨l,s3,a0,by rw[h4,m],h5,K⟩
    ·obtain rfl:n=0:=N.resolve_right j
     refine⟨[],fun W _=>?_,by simp,fun s1 k v1 s2 m hk=>?_⟩
     ·cases q<;>simp only[Dg]at hn<;>try (cases hn;done)
      ·exact absurd ⟨_,rfl⟩ j
      ·exact absurd ⟨_,rfl⟩ j
      ·obtain⟨B,κ,_,rfl,_⟩:=hq
       simp[bd,pY,uT]
      ·exact absurd ⟨_,rfl⟩ j
     ·obtain⟨l',s3,u,a0,h4,h5⟩:=Af hk
      rw[m]at u;exact absurd ⟨_,u⟩ j
   obtain⟨Q,l0,b0⟩:=j0;refine Bd (zc:=R.cells.size) (vs:=vs) (n:=n) (len:=len) (cap:=cap) (base:=b) (e:=e) rfl m X.2 f hr hf hx b0 l0 ?_ (builtin_append hc ho he);refine⟨fun g ad w' K T=>?_,fun g K=>?_,fun g m0 n0 c0=>?_⟩
   ·exact BI F e0 e1 hu y H L g (Q w fun _=>rfl) ⟨ad,K,T⟩
   ·subst K
    exact run_append_nil F e0 e1 hu y H L g (Q w fun _=>rfl)
   ·exact BJ F e0 e1 hu y f0 X.1 H L g m0 c0 Q
  ·cases f
 ·cases f
theorem BL{c:Call}{st K e:Nat}{k':cZ}{more:List Nat}(hc:c.callee=.builtin .append)(L:c.argTypes.toList=st::K::more)(N:P.underlying st=I (.slice e))(z:Y)(hz:km P e=I z)
  (m:cF P e=O) (p:gN P e≤10000) (h:1≤sizeT P e) (Q:z.cells.length=sizeT P e) (q:P.underlying K=I (.int k')):ct P (.call c) (pc (sizeT P e) z):=by
 intro cf _ av s v s' d o a w B0 w0 ρ ho C hr hf;rw[ij hc]at C;unfold pc at d;dsimp only at d
 split at d
 ·rename_i x k n
  obtain⟨u1,ws,H,⟨u2,c0,R,S,e2⟩,he⟩:=C
  cases S;subst e2
  have R:u2=.int k (n:Int):=R;subst R
  cases r:aG n 1000000 with
  | false=>rw[r]at d;cases d
  | true=>
  rw[r]at d;simp only[cond_true]at d;have r:=ax r;have j:=pt L;have t:c.argTypes[0]?=I st:=by rw[j];rfl
  have u:c.argTypes[1]?=I K:=by rw[j];rfl
  obtain⟨l,y,T,g⟩:∃l,(∀W,(kr e).run P W=.ok l W)∧(∀ρ,VR ρ z l)∧l.cells.size=sizeT P e:=by
   obtain⟨i,l,hi,X,hv⟩:=sp hz;refine⟨l,fun W=>?_,hv,by rw[←Q];exact nQ (hv (fun _=>J))⟩;simp only[kr,az,jY hi,ai,X];rfl
  have base:∃b len cap,u1=.slice b len cap:=by
   unfold jX at d
   cases hl:Dh x n with
   | false=>rw[hl]at d;cases d
   | true=>
    rw[hl]at d;simp only[cond_true]at d
    cases x<;>try (cases d;done)
    ·cases H;exact⟨_,_,_,rfl⟩
    ·obtain⟨B,κ,_,rfl,_⟩:=H;exact⟨_,_,_,rfl⟩
    ·obtain⟨B,κ,_,rfl⟩:=H;exact⟨_,_,_,rfl⟩
  obtain⟨b,len,cap,rfl⟩:=base;have e0:(⟨[.slice b len cap,.int k (n:Int)]⟩:Array Z)[0]?=I (.slice b len cap):=rfl;have e1:(⟨[.slice b len cap,.int k (n:Int)]⟩:Array Z)[1]?=I (.int k (n:Int)):=rfl
  have E:Src ρ s.h (fun s k=>k (AZ n z.cells) s) (bG n l.cells.toList).flatten:=by
   intro s1 k v1 s2 h hk;exact⟨_,s1,hk,h,rfl,cq.replicate (lI (T ρ)) n⟩
  refine Bd (zc:=l.cells.size) (n:=n) (len:=len) (cap:=cap) (base:=b) (e:=e) rfl h g d hr hf H E (by simp[g]) ?_ (builtin_append hc ho he);refine⟨fun f ad w' h1 h2=>?_,fun f h1=>?_,fun f a0 b0 F=>?_⟩
  ·exact ny t e0 e1 N m p y g u q r f (.inr ⟨ad,h1,h2⟩)
  ·subst h1
   exact ny t e0 e1 N m p y g u q r f (.inl ⟨rfl,rfl⟩)
  ·exact s7 t e0 e1 N m p y g u q r h f a0 F
 ·cases d
theorem EX(c:Call)(g:c.callee=.builtin .append):ct P (.call c) (pK P c.argTypes.toList):=by
 unfold pK
 split
 ·rename_i st more a
  split
  ·rename_i e h
   split
   ·rename_i z i
    cases f:(cF P e&&aG (gN P e) 10000&&aG 1 (sizeT P e)&&ak z.cells.length (sizeT P e))with
    | false=>exact ct.fail _
    | true=>
     simp only[cL,cond_false];simp only[aM]at f;have j:=f.1.1.1;have l:=ax f.1.1.2;have m:=ax f.1.2;have n:=aI f.2
     split
     ·exact vW g a h z i j l m n (.inl rfl)
     ·rename_i p r
      split
      ·rename_i q b
       exact BL g a h z i j l m n b
      ·rename_i d o b
       exact vW g a h z i j l m n (.inr ⟨p,r,d,rfl,b,fun k e=>o k e⟩)
      ·exact ct.fail _
   ·exact ct.fail _
  ·exact ct.fail _
 ·exact ct.fail _
end
end Go.Ev
namespace Go.Ev
open Go.RowKit (Below)
section
variable {P:aQ} {ρ:Env} {B0:Nat} {w0 w:V}
theorem DU:∀{l:List Y}{bs:List UInt8}{vs:List Z},yJ l=I bs→cq ρ l vs→∃ns:List Int,vs=ns.map (gV .u8)∧∀r:ByteArray,(ns.foldl (fun r n=>r.push (UInt8.ofNat n.toNat)) r)=⟨⟨r.data.toList++bs⟩⟩
 | [],bs,vs,h,a=>by cases h;cases a;exact⟨[],rfl,fun r=>by simp⟩
 | x::l,bs,vs,h,a=>by
  obtain⟨u,f,d,b,rfl⟩:=a;unfold yJ at h
  split at h
  ·rename_i c;cases c
  ·rename_i k g c
   cases c
   simp only[dA]at h;obtain⟨m,hm,rfl⟩:=h;obtain⟨ns,rfl,e⟩:=DU hm b
   cases d
   refine⟨(k:Int)::ns,rfl,fun r=>?_⟩;simp only[List.foldl_cons];rw[e]
   congr 1
   congr 1
   simp[ByteArray.push]
  ·cases h
theorem JY{B:Nat}{cs:Array Z}{e:TypeId}{W:V}(h:W.heap[B]?=I (.cells cs e (0,0))):wX W (W.freeze ⟨B,cs.size,J⟩ 1) B (.cells cs e (cs.size,cs.size+1)):=by
 refine⟨rfl,rfl,rfl,?_,?_,?_⟩
 ·simp[wl]
 ·simp[wl,aR,h]
 ·intro k a
  simp only[wl];rw[if_neg dR];simp[aR,Ne.symm a]
def kK(b:UInt8):Z:=.int .u8 (b.toNat:Int)
theorem wZ(ρ:Env):∀l:List UInt8,cq ρ (l.map tH) (l.map kK)
 | []=>rfl
 | _::l=>⟨_,_,rfl,wZ ρ l,rfl⟩
theorem w_(e:Nat)(l:List UInt8):∃cap,l.length≤cap∧(vN e ⟨⟨l⟩⟩).run P w=.ok (.slice (I ⟨w.heap.size,0,J⟩) l.length cap) ((w.drew.alloc (.cells ⟨l.map kK++bG (cap-l.length) (.int .u8 0)⟩ e)).freeze ⟨w.heap.size,cap,J⟩ 1):=by
 have n:(eU l.length 0 e).forced=U:=rfl
 have d:l.length≤(eU l.length 0 e).cut (w.tape w.drawn (.appendCap l.length 0 e)):=by
  show l.length≤l.length+_%_;omega
 generalize h:(eU l.length 0 e).cut (w.tape w.drawn (.appendCap l.length 0 e))=cap at d;refine⟨cap,d,?_⟩;have i:(⟨⟨l⟩⟩:ByteArray).size=l.length:=rfl
 have a:(⟨⟨l⟩⟩:ByteArray).data.map (fun b=>gV .u8 (b.toNat:Int))++dP (cap-l.length) (.int .u8 0)=(⟨l.map kK++bG (cap-l.length) (.int .u8 0)⟩:Array Z):=by
  apply cg;simp;intro _ _;rfl
 have f:(w.drew.alloc (.cells ⟨l.map kK++bG (cap-l.length) (.int .u8 0)⟩ e)).heap[w.heap.size]?=I (.cells ⟨l.map kK++bG (cap-l.length) (.int .u8 0)⟩ e (0,0)):=by
  show(w.heap.push _)[w.heap.size]?=_;simp
 have g:(⟨l.map kK++bG (cap-l.length) (.int .u8 0)⟩:Array Z).size=cap:=by
  show(l.map kK++bG (cap-l.length) (gV .u8 0)).length=cap;simp;omega
 have j:∀W:V,W.heap[w.heap.size]?=I (.cells ⟨l.map kK++bG (cap-l.length) (.int .u8 0)⟩ e (0,0))→(markStringish ⟨w.heap.size,0,J⟩).run P W=.ok () (W.freeze ⟨w.heap.size,cap,J⟩ 1):=by
  intro W o;have k:W.shape? w.heap.size=I (e,cap):=by simp only[World.shape?,o,g]
  simp only[markStringish,shape,freeze,az,fz,k,ai]
 have m:w.drew.heap.size=w.heap.size:=rfl;simp only[vN,i,az,run_choose n,h,ai,a,newRow,qG,bH,m];have c:=j _ f;simp only[World.alloc]at c;rw[c];rfl
theorem EY{α:Type}{s s':S}{n:Nat}{p:Y}{u:Z}{k:List Y→S→Rs α}{v:α}(h:s.iJ 1 n p k=.ok v s')(o:Rel B0 w0 ρ s.h w)(d:VR ρ p u)(hm:tI p=I n):
  ∃l g vs,k l g=.ok v s'∧g.h=s.h∧cq ρ l vs∧((∃i cap,u=.slice (I i) n cap∧(pY i n).run P w=.ok ⟨vs⟩ w)∨(u=.slice J 0 0∧vs=[])):=by
 unfold S.iJ at h
 cases p<;>simp only[tI]at hm<;>try (cases hm;done)
 ·cases hm;cases d
  exact⟨[],s,[],h,rfl,rfl,.inr ⟨rfl,rfl⟩⟩
 ·rename_i b q len r c
  cases hm
  obtain⟨B,κ,a,rfl,_⟩:=d;obtain⟨cs,op,l,t,j,x⟩:=jD h;rw[Nat.mul_one]at j;obtain⟨vs,e,m,f,_⟩:=jx (P:=P) (o.row t a) j;exact⟨l,_,vs,x,rfl,e,.inl ⟨_,_,rfl,f⟩⟩
 ·cases hm
  obtain⟨B,κ,a,rfl⟩:=d;exact⟨[],s,[],h,rfl,rfl,.inl ⟨_,_,rfl,rfl⟩⟩
theorem DV(t u:Nat)(x:aP):ct P (.convert t u x) (lG P t u):=by
 intro cf _ av s v s' b o a w B0 w0 ρ y Q z hf;obtain⟨p,rfl,r⟩:=oD (x:=a.eval x) Q;unfold lG at b
 split at b
 ·rename_i q k g j
  dsimp only at b
  split at b
  ·rename_i q' n B
   cases B;cases b
   have r:a.eval x=.int q' n:=r;refine df.value (v:=.int k (k.wrap n)) (w':=w) ?_ (Done.same z rfl rfl);simp[bv,y,r,rA,aK g,aK j,Conv.intToInt]
  ·cases b
 ·rename_i g j
  dsimp only at b
  split at b
  ·rename_i l B
   cases B;cases b
   have m:a.eval x=.string ⟨⟨l⟩⟩:=r;refine df.value (v:=.string ⟨⟨l⟩⟩) (w':=w) ?_ (Done.same z rfl rfl);simp[bv,y,m,rA,aK g,aK j]
  ·cases b
 ·rename_i e g j
  split at b
  ·rename_i f
   dsimp only at b
   split at b
   ·rename_i l B
    cases B;cases b
    have m:a.eval x=.string ⟨⟨l⟩⟩:=r;have C:ρ s.n=J:=hf s.n (bP _) dR;obtain⟨cap,a0,b⟩:=w_ (P:=P) (w:=w) e l
    have E:(w.drew.alloc (.cells ⟨l.map kK++bG (cap-l.length) (.int .u8 0)⟩ e)).heap[w.heap.size]?=I (.cells ⟨l.map kK++bG (cap-l.length) (.int .u8 0)⟩ e (0,0)):=by
     show(w.heap.push _)[w.heap.size]?=_;simp
    have F:=JY E
    have c:(⟨l.map kK++bG (cap-l.length) (.int .u8 0)⟩:Array Z).size=cap:=by
     show(l.map kK++bG (cap-l.length) (gV .u8 0)).length=cap;simp;omega
    rw[c]at F
    have R:Rel B0 w0 (ρ.add s.n w.heap.size cap) (s.h.set s.n (.row (l.map tH) 2)) (w.drew.alloc (.cells ⟨l.map kK++bG (cap-l.length) (.int .u8 0)⟩ e)):=
     z.drew.new C ⟨_,e,(0,0),_,_,rfl,fun i _ h=>by omega,rfl,wZ ρ l,by show _=cap*1;rw[c];omega⟩
    refine df.value (v:=.slice (I ⟨w.heap.size,0,J⟩) l.length cap) (w':=(w.drew.alloc (.cells ⟨l.map kK++bG (cap-l.length) (.int .u8 0)⟩ e)).freeze ⟨w.heap.size,cap,J⟩ 1) ?_ ?_
    ·simp only[bv,y,m,rA,az,aK g,aK j,aK f,ai,b]
     rfl
    ·refine⟨ρ.add s.n w.heap.size cap,Ext.add C (bP _) dR,⟨_,_,Env.qo _ _ _ _,by simp,fun _=>by omega⟩,?_⟩
     have:=R.upd (id:=s.n) (o:=.row (l.map tH) 2) (o':=.row (l.map tH) 2) (by rw[Tr.eN];simp) dR (Env.qo _ _ _ _) F ⟨_,e,_,_,_,rfl,fun i hi h=>by rw[c]at hi;omega,rfl,wZ _ l,by show _=cap*1;rw[c];omega⟩ dR;exact this.congr fun id=>by simp only[Tr.eN];split<;>rfl
   ·cases b
  ·cases b
 ·rename_i e g j
  split at b
  ·rename_i f
   dsimp only at b
   split at b
   ·rename_i n hn
    obtain⟨l,s1,vs,N,S,T,H⟩:=EY (P:=P) b z r hn
    cases W:yJ l with
    | none=>rw[W]at N;cases N
    | some bs=>
     rw[W]at N
     cases N
     obtain⟨ns,rfl,d⟩:=DU W T
     refine df.value (v:=.string ⟨⟨bs⟩⟩) (w':=w) ?_ (Done.same z S rfl);rcases H with⟨ad,cap,H,X⟩ | ⟨H,K⟩
     ·have L:=run_bytesToString (P:=P) w ad n cap ns X
      rw[d]at L;simp only[bv,y,H,rA,az,aK g,aK j,aK f,ai,L];rfl
     ·obtain rfl:ns=[]:=by simpa using K
      have:=d ByteArray.empty;simp only[List.foldl_nil]at this;simp only[bv,y,H,rA,az,aK g,aK j,aK f,ai,Conv.bytesToString,bH];rw[this];rfl
   ·cases b
  ·cases b
 ·cases b
end
end Go.Ev
namespace Go.Ev
open Go.RowKit (Below)
section
variable {P:aQ} {ρ:Env} {B0:Nat} {w0 w:V}
theorem nH{k t:Nat}{u:Z}(c:Bool)(n:Nat)(b:qJ P t=I k):(fM c (n+1) t u).run P w=.ok () w:=by
 unfold qJ at b
 split at b
 ·rename_i a
  cases u<;>simp[fM,aK a]
 ·rename_i q a
  cases u<;>simp[fM,aK a]
 ·rename_i a
  cases u<;>simp[fM,aK a]
 ·cases b
theorem vX(d:Bool)(n:Nat){l:List Y}{vs:List Z}(i:cq ρ l vs):∀(c:List Field)(m:List (Nat×Nat)),oB P c=I m→(m.all fun x=>(l[x.2]?).isSome)=O→
  (forIn c uX (fun f (_:PUnit)=>do
   if f.name≠ "_" then
    let p ←part f.type ⟨vs⟩ f.offset
    fM d (n+1) f.type p
    pure (AD uX)
   else pure (AD uX):Field→PUnit→Sem (ForInStep PUnit))).run P w=.ok uX w
 | [],m,_,_=>by simp
 | f::c,m,hm,b=>by
  simp only[oB]at hm
  split at hm
  ·rename_i k o j e
   cases g:(f.name != "_")with
   | false=>rw[g]at hm;cases hm
   | true=>
    rw[g]at hm
    cases hm
    simp only[List.all_cons,aM]at b;obtain⟨a,q⟩:=Option.isSome_iff_exists.1 b.1;obtain⟨u,r,_⟩:=wY (P:=P) (w:=w) j i q;have h:f.name≠ "_" :=by simpa using g
    have s:=vX d n i c o e b.2;simp only[List.forIn_cons,az,h,ne_eq,not_false_eq_true,if_true,r,ai,nH d n j,bH];exact s
  ·cases hm
theorem EZ(c:Bool)(n:Nat){d:Nat}{b:Array Field}{l:List Y}{vs:List Z}{m:List (Nat×Nat)}(e:P.underlying d=I (.struct b))(f:cq ρ l vs)(hm:oB P b.toList=I m)(a:(m.all fun x=>(l[x.2]?).isSome)=O):
  (fM c (n+1+1) d (.agg ⟨vs⟩)).run P w=.ok () w:=by
 have:=vX (P:=P) (w:=w) c n f b.toList m hm a;rw[fM];simp only[az,aK e,ai];rw[←Array.forIn_toList];rw[this];rfl
theorem GC{c:Nat}{good:Y→List (Y×Y×Nat)→Bool}{k:Y}{g:List (Y×Y×Nat)}{u:Z}(e:Bool)(h:L1 P c=I good)(a:good k g=O)(i:VR ρ k u):(fM e 10000 c u).run P w=.ok () w∧
  ((∃q,P.underlying c=I (.int q)∧∃j n,k=.int j n)∨(g=[]∧∃d,P.underlying c=I d)):=by
 unfold L1 at h
 split at h
 ·rename_i q b
  cases h
  cases k<;>try (cases a;done)
  exact⟨nH e 9999 (k:=1) (by simp[qJ,b]),.inl ⟨q,b,_,_,rfl⟩⟩
 ·rename_i o b
  simp only[dA]at h;obtain⟨l,m,rfl⟩:=h;dsimp only at a
  split at a
  ·rename_i p
   obtain⟨r,f,rfl⟩:=i;refine⟨?_,.inr ⟨rfl,_,b⟩⟩;exact EZ e 9998 b f m a
  ·cases a
 ·cases h
theorem qs{q:cZ}{d:cZ}{n:Int}:∀{k:List (Y×Y×Nat)}{f:List gX}{i:Nat}{r:Option (Nat×Y)},zW (.int d n) k i=I r→pf ρ k f→
  (r=J∧jd (.int q) (.int d n) f i=I J)∨∃j v u e,r=I (i+j,v)∧jd (.int q) (.int d n) f i=I (I (i+j,u))∧VR ρ v u∧f[j]?=I e∧e.key=.int d n∧j<f.length
 | [],f,i,r,h,hm=>by cases h;cases hm;exact .inl ⟨rfl,rfl⟩
 | (p,v,b)::k,f,i,r,h,hm=>by
  obtain⟨x,s,t,w,E,hm,rfl⟩:=hm;simp only[zW]at h
  split at h
  ·rename_i a
   cases h
   cases p<;>try (cases a;done)
   simp only[sd]at a
   split at a
   ·rename_i l;subst l
    simp only[bU,beq_iff_eq]at a;subst a;have c:x.key=.int d n:=t;exact .inr ⟨0,v,x.val,x,rfl,by simp[jd,c,Instr.sameNow],w,rfl,c,by simp⟩
   ·cases a
  ·rename_i a
   cases p<;>try (cases a;done)
   simp only[sd]at a
   split at a
   ·rename_i l;subst l
    simp only[bU]at a;have c:x.key=.int d _:=t
    have g:jd (.int q) (.int d n) (x::s) i=jd (.int q) (.int d n) s (i+1):=by
     simp[jd,c,Instr.sameNow,a]
    rcases qs h hm with⟨m,o⟩ | ⟨j,y,u,e,m,o,z,B,C,F⟩
    ·exact .inl ⟨m,by rw[g];exact o⟩
    ·refine .inr ⟨j+1,y,u,e,by rw[m];congr 2;omega,by rw[g,o];congr 3;omega,z,by simpa using B,C,by simp;omega⟩
   ·cases a
  ·cases h
theorem tW{B:Nat}{b:Array gX}{a:Nat}(h:w.heap[B]?=I (.map b a)):(getObj B).run P w=.ok (.map b a) w:=by simp[getObj,fz,h]
theorem E_(t:Nat)(x i:aP)(ok:Bool):ct P (.lookup t x i ok) (pL P t ok):=by
 intro cf _ av s v s' c o a w B0 w0 ρ ho d0 hr hf;obtain⟨p,q,rfl,hp,hq⟩:=tS (x:=a.eval x) (y:=a.eval i) d0;unfold pL at c
 split at c
 ·rename_i kt e hu
  split at c
  ·rename_i z good hz f
   obtain⟨zv,R,S⟩:=mB (P:=P) (w:=w) hz
   have H:∀{Q:List (Y×Y×Nat)}{K:List gX}{r:Option (Nat×Y)},good q Q=O→zW q Q 0=I r→pf ρ Q K→((a.eval x=.map J∧K=[])∨∃B m,a.eval x=.map (I B)∧w.heap[B]?=I (.map ⟨K⟩ m))→
     v=Hq ok z r→s'.h=s.h→df P o a w (Done B0 w0 ρ s v s'):=by
    intro Q K r h u hm T hv hs;obtain⟨L,N⟩:=GC (P:=P) (w:=w) U f h hq;have L:∀em,(fM em 10000 kt (a.eval i)).run P w=.ok () w:=fun em=>(GC (P:=P) (w:=w) em f h hq).1
    have W:∃C:Option (Nat×Z),(je kt (a.eval i) K).run P w=.ok C w∧((r=J∧C=J)∨∃j l uu,r=I (j,l)∧C=I (j,uu)∧VR ρ l uu):=by
     rcases N with⟨qk,X,kk,n,rfl⟩ | ⟨rfl,d,e0⟩
     ·have a0:a.eval i=.int kk n:=hq
      rcases qs (ρ:=ρ) (q:=qk) u hm with⟨h1,h2⟩ | ⟨j,l,uu,_,h1,h2,h3,_⟩
      ·exact⟨J,by simp[je,aK X,a0,h2],.inl ⟨h1,rfl⟩⟩
      ·exact⟨_,by simp only[je,az,aK X,ai,a0,h2];rfl,.inr ⟨_,_,_,h1,rfl,h3⟩⟩
     ·cases hm;cases u
      exact⟨J,by simp[je,aK e0,jd],.inl ⟨rfl,rfl⟩⟩
    obtain⟨C,b0,f0⟩:=W;subst hv
    have g:∀(l:Z)(bb:Bool),((match C with | some (_,v)=>(l=v∧bb=O) | none=>(l=zv∧bb=U)):Prop)→(wv t (a.eval x) (a.eval i) ok).run P w=.ok (if ok then .tuple #[l,.bool bb]else l) w:=by
     intro l bb E;rcases T with⟨hx,rfl⟩ | ⟨B,m,hx,hB⟩
     ·simp only[wv,az,aK hu,ai,hx,bH,L]
      have:(je kt (a.eval i) (#[]:Array gX).toList).run P w=.ok C w:=b0;rw[this]
      cases C with
      | none=>obtain⟨rfl,rfl⟩:=E;simp[R]
      | some jv=>obtain⟨j,v2⟩:=jv;obtain⟨rfl,rfl⟩:=E;simp
     ·simp only[wv,az,aK hu,ai,hx,tW hB,bH,L]
      have:(je kt (a.eval i) (⟨K⟩:Array gX).toList).run P w=.ok C w:=b0;rw[this]
      cases C with
      | none=>obtain⟨rfl,rfl⟩:=E;simp[R]
      | some jv=>obtain⟨j,v2⟩:=jv;obtain⟨rfl,rfl⟩:=E;simp
    rcases f0 with⟨rfl,rfl⟩ | ⟨j,l,uu,rfl,rfl,c0⟩
    ·have:=g zv U ⟨rfl,rfl⟩
     refine df.value (v:=if ok then .tuple #[zv,.bool U]else zv) (w':=w) ?_ (Done.same hr hs ?_)
     ·simp only[bv,ho,az,this,ai];rfl
     ·cases ok
      ·exact S ρ
      ·exact⟨_,⟨_,_,S ρ,⟨_,_,rfl,rfl,rfl⟩,rfl⟩,rfl⟩
    ·have:=g uu O ⟨rfl,rfl⟩
     refine df.value (v:=if ok then .tuple #[uu,.bool O]else uu) (w':=w) ?_ (Done.same hr hs ?_)
     ·simp only[bv,ho,az,this,ai];rfl
     ·cases ok
      ·exact c0
      ·exact⟨_,⟨_,_,c0,⟨_,_,rfl,rfl,rfl⟩,rfl⟩,rfl⟩
   dsimp only at c
   split at c
   ·rename_i k he
    cases he
    cases h:good q []with
    | false=>rw[h]at c;cases c
    | true=>
     rw[h]at c
     cases c
     exact H h rfl (rfl:pf ρ [] []) (.inl ⟨hp,rfl⟩) rfl rfl
   ·rename_i b k he
    cases he
    obtain⟨B,κ,hρ,hx⟩:=hp;obtain⟨o',g0,F⟩:=jt c
    split at F
    ·rename_i Q m
     cases h:good q Q with
     | false=>rw[h]at F;cases F
     | true=>
      rw[h]at F;simp only[cond_true]at F
      split at F
      ·rename_i r u
       cases F
       obtain⟨K,h0,i0⟩:=hr.or g0 dR hρ;exact H h u i0 (.inr ⟨B,m,hx,h0⟩) rfl rfl
      ·cases F
    ·cases F
   ·cases c
  ·cases c
 ·cases c
end
end Go.Ev
namespace Go.Ev
open Go.RowKit (Below)
section
variable {P:aQ} {ρ:Env} {B0:Nat} {w0 w:V}
theorem pf.snoc{ρ:Env}{k v:Y}{n:Nat}{e:gX}(a:VR ρ k e.key)(b:VR ρ v e.val)(c:e.born=n):∀{l:List (Y×Y×Nat)}{d:List gX},pf ρ l d→pf ρ (l++ [(k,v,n)]) (d++ [e])
 | [],_,h=>by cases h;exact⟨e,[],a,b,c,rfl,rfl⟩
 | (_,_,_)::l,_,⟨x,o,f,g,i,j,m⟩=>by subst m;exact⟨x,_,f,g,i,pf.snoc a b c j,rfl⟩
theorem pf.set{ρ:Env}{v:Y}{u key:Z}(m:VR ρ v u):∀{l:List (Y×Y×Nat)}{a:List gX}{j:Nat}{e:gX},pf ρ l a→a[j]?=I e→e.key=key→pf ρ (Hr v j l) (a.modify j fun e=> { e with key:=key,val:=u })
 | [],a,j,e,h,b,_=>by cases h;cases b
 | (k,q,n)::l,a,0,e,⟨x,o,c,p,d,f,g⟩,b,i=>by
  subst g;cases b;exact⟨{ e with key:=key,val:=u },o,by show VR ρ k key;rw[←i];exact c,m,d,f,rfl⟩
 | (k,q,n)::l,a,j+1,e,⟨x,o,c,p,d,f,g⟩,b,i=>by
  subst g;exact⟨x,_,c,p,d,pf.set m f (by simpa using b) i,rfl⟩
theorem Ag(t:Nat)(m k x:aP):ct P (.mapUpdate t m k x) (lj P t):=by
 intro cf _ av s v s' c o a w B0 w0 ρ ho X hr hf;obtain⟨p,q,r,rfl,hp,T,hx⟩:=RG (x:=a.eval m) (y:=a.eval k) (z:=a.eval x) X;unfold lj at c
 split at c
 ·rename_i kt e hu
  split at c
  ·rename_i qk u
   dsimp only at c
   split at c
   ·rename_i b d n x' he
    cases he
    obtain⟨B,κ,C,hm⟩:=hp;have T:a.eval k=.int d n:=T;obtain⟨o',E,N⟩:=jt c
    split at N
    ·rename_i es f
     obtain⟨i,g,h⟩:=hr.or E dR C;have R:(fM U 10000 kt (.int d n)).run P w=.ok () w:=nH U 9999 (k:=1) (by simp[qJ,u])
     have l:∀F:Obj,(setObj B F).run P w=.ok () { w with heap:=w.heap.setIfInBounds B F }:=by
      intro F;simp[setObj,fz,g]
     split at N
     ·rename_i H
      cases N
      have a0:jd (.int qk) (.int d n) i 0=I J:=by
       rcases qs (ρ:=ρ) (q:=qk) H h with⟨_,W⟩ | ⟨_,_,_,_,Q,_⟩
       ·exact W
       ·cases Q
      refine df.skip (w':= { w with heap:=w.heap.setIfInBounds B (.map ⟨i++ [{ key:=.int d n,val:=a.eval x,born:=f }]⟩ (f+1)) }) ?_
       ⟨ρ,Ext.refl _ _ _,⟨[],rfl,rfl⟩,hr.upd E dR C (wX.setObj g) ⟨_,rfl,pf.snoc (e:= { key:=.int d n,val:=a.eval x,born:=f }) (show VR ρ (.int d n) (.int d n)from rfl) hx rfl h⟩ dR⟩
      have K:(⟨i⟩:Array gX).push { key:=.int d n,val:=a.eval x,born:=f } =⟨i++ [{ key:=.int d n,val:=a.eval x,born:=f }]⟩:=by apply cg;simp
      simp only[bv,ho,AB,az,aK hu,ai,hm,T,tW g,R,je,aK u,a0,bH,K,l]
     ·rename_i j v1 H
      cases N
      rcases qs (ρ:=ρ) (q:=qk) H h with⟨Q,_⟩ | ⟨j',v',u',e',Q,W,_,h4,h5,_⟩
      ·cases Q
      ·simp only[Nat.zero_add,bU,Prod.mk.injEq]at Q W
       obtain⟨rfl,rfl⟩:=Q;have b0:(⟨i⟩:Array gX)[j]?=I e':=by simpa using h4
       refine df.skip (w':= { w with heap:=w.heap.setIfInBounds B (.map ⟨i.modify j fun e=> { e with key:=.int d n,val:=a.eval x }⟩ f) }) ?_
        ⟨ρ,Ext.refl _ _ _,⟨[],rfl,rfl⟩,hr.upd E dR C (wX.setObj g) ⟨_,rfl,pf.set hx h h4 h5⟩ dR⟩
       have S:(⟨i⟩:Array gX).modify j (fun e=> { e with key:=.int d n,val:=a.eval x })=⟨i.modify j fun e=> { e with key:=.int d n,val:=a.eval x }⟩:=by apply cg;simp
       have L:(vM (.int d n) (.int d n)).run P w=.ok (.int d n) w:=by simp[vM,Instr.sameBits]
       simp only[bv,ho,AB,az,aK hu,ai,hm,T,tW g,R,je,aK u,W,bH,b0,dl,kT,h5,L,S,l]
     ·cases N
    ·cases N
   ·cases c
  ·cases c
 ·cases c
theorem OT{ok:Bool}{z v:Y}{s s':S}(h:vU ok z s=.ok v s'):ok=O∧v=.dS [z,.bool U]∧s'=s:=by
 unfold vU at h
 cases ok
 ·cases h
 ·cases h;exact⟨rfl,rfl,rfl⟩
theorem yV(x:aP)(E t:Nat)(ok:Bool):ct P (.typeAssert x E t ok) (iK P t ok):=by
 intro cf _ av s v C b o a w B0 w0 ρ N F Q hf;obtain⟨p,rfl,q⟩:=oD (x:=a.eval x) F;unfold iK at b
 split at b
 ·rename_i z T
  obtain⟨W,g,H⟩:=mB (P:=P) (w:=w) T
  have yes:∀{y:Y}{u:Z},VR ρ y u→(eY (a.eval x) E t ok).run P w=.ok (if ok then .tuple #[u,.bool O]else u) w→v=L2 ok y→C=s→df P o a w (Done B0 w0 ρ s v C):=by
   intro y u R h X e2;subst X;subst e2;refine df.value (w':=w) (by simp only[bv,N,az,h,ai];rfl) (Done.same Q rfl ?_)
   cases ok
   ·exact R
   ·exact⟨_,⟨_,_,R,⟨_,_,rfl,rfl,rfl⟩,rfl⟩,rfl⟩
  have no:(ok=O→(eY (a.eval x) E t O).run P w=.ok (.tuple #[W,.bool U]) w)→vU ok z s=.ok v C→df P o a w (Done B0 w0 ρ s v C):=by
   intro h hn;obtain⟨rfl,rfl,rfl⟩:=OT hn;refine df.value (w':=w) (by simp only[bv,N,az,h rfl,ai];rfl) (Done.same Q rfl ?_);exact⟨_,⟨_,_,H ρ,⟨_,_,rfl,rfl,rfl⟩,rfl⟩,rfl⟩
  split at b
  ·rename_i want k
   dsimp only at b
   split at b
   ·rename_i u y l
    cases l
    have K:=q;obtain⟨yv,r,j⟩:=K
    have S:∀L,(Di P t u).b=I L→∃i,P.info? u=I i∧(Instr.missingMethod want i.methods).isNone=L:=by
     intro L c;unfold Di at c;simp only[k]at c
     cases hi:P.info? u with
     | none=>simp[hi]at c
     | some i=>simp only[hi,dl,bU]at c;exact⟨i,rfl,c⟩
    split at b
    ·rename_i c
     cases b
     obtain⟨i,hi,hm⟩:=S _ c;have hm:Instr.missingMethod want i.methods=J:=by simpa using hm
     refine yes q ?_ rfl rfl;simp only[eY,az,aK k,ai,j,jY hi,hm]
     cases ok<;>rfl
    ·rename_i c
     obtain⟨i,hi,hm⟩:=S _ c
     obtain⟨m,hm⟩:∃m,Instr.missingMethod want i.methods=I m:=by
      cases h:Instr.missingMethod want i.methods with
      | none=>simp[h]at hm
      | some m=>exact⟨m,rfl⟩
     refine no (fun _=>?_) b;simp only[eY,az,aK k,ai,j,jY hi,hm,if_true,g];rfl
    ·cases b
   ·rename_i l
    cases l
    have j:a.eval x=.nilIface:=q;refine no (fun _=>?_) b;simp only[eY,az,aK k,ai,j,if_true,g];rfl
   ·cases b
  ·rename_i d n k
   dsimp only at b
   split at b
   ·rename_i u y l
    cases l
    obtain⟨yv,r,j⟩:=q
    cases f:ak u t with
    | true=>
     rw[f]at b
     cases b
     obtain rfl:=aI f;refine yes r ?_ rfl rfl
     cases d<;>first
      | (exact absurd rfl (n _))
      | (simp only[eY,az,aK k,ai,j,if_true];cases ok<;>rfl)
    | false=>
     rw[f]at b;have B:¬u=t:=fun e=>by subst e;rw[DC]at f;simp at f
     refine no (fun _=>?_) b
     cases d<;>first
      | (exact absurd rfl (n _))
      | (simp only[eY,az,aK k,ai,j,B,if_false,if_true,g];rfl)
   ·rename_i l
    cases l
    have j:a.eval x=.nilIface:=q;refine no (fun _=>?_) b
    cases d<;>first
     | (exact absurd rfl (n _))
     | (simp only[eY,az,aK k,ai,j,if_true,g];rfl)
   ·cases b
  ·cases b
 ·cases b
theorem vY{f:Nat}{fn:Func}{c:lO}(args:Array Z)(a:P.funcs[f]?=I fn)(b:fn.body=I c)(d:(fn.name== "runtime.NumGoroutine")=U):(gH f args).run P w=.ok (.enter f args) w:=by
 simp only[gH,az,program,fz,ai,a,d,bZ,if_false,b];simp
theorem Ah{cf:bR}{f:Nat}{l:List Y}{s s':S}{v:Y}{vs:List Z}{o:aH}{a:Act}(g:Good P cf)(h:cf f l s=.ok v s')(d:cq ρ l vs)(e:Rel B0 w0 ρ s.h w)(i:ib ρ s.n s'.n)
  (b:(bv a.eval o).run P w=(gH f ⟨vs⟩).run P w):df P o a w (Done B0 w0 ρ s v s'):=by
 obtain⟨fn,c,j,k,m⟩:=g.ok f l s v s' h;refine df.enter (f:=f) (args:=⟨vs⟩) (w':=w) (by rw[b,vY _ j k m]) (g.calls f l s v s' h B0 w0 ρ w vs d e i)
theorem BM{t:Nat}{a:String}{f:Nat}{y:Z}(args:Array Z)(h:(oA P t a).f=I f):(Bv (.iface t y) a args).run P w=(gH f (#[y]++args)).run P w:=by
 have b:∃k,P.types.size+uY=k+1:=⟨P.types.size+99,by simp[uY]⟩;obtain⟨k,c⟩:=b;simp only[Bv,az,program,fz,ai,c,JS h]
theorem sT{cf:bR}{r:Y}{b:String}{l:List Y}{s s':S}{v:Y}{e:Z}{vs:List Z}{o:aH}{a:Act}(g:Good P cf)(h:gi P cf r b l s=.ok v s')(c:VR ρ r e)(i:cq ρ l vs)(j:Rel B0 w0 ρ s.h w)(k:ib ρ s.n s'.n)
  (d:(bv a.eval o).run P w=(Bv e b ⟨vs⟩).run P w):df P o a w (Done B0 w0 ρ s v s'):=by
 unfold gi at h
 split at h
 ·rename_i t y
  obtain⟨m,n,rfl⟩:=c
  split at h
  ·rename_i f hm
   refine Ah g h (vs:=m::vs) ⟨_,_,n,i,rfl⟩ j k ?_;rw[d,BM _ hm]
   congr 2
   apply cg;simp
  ·cases h
 ·cases h
theorem Ip{cf:bR}{f:Y}{l:List Y}{s s':S}{v:Y}{x:Z}{vs:List Z}{o:aH}{a:Act}(g:Good P cf)(h:mY P cf f l s=.ok v s')(c:VR ρ f x)(y:cq ρ l vs)(z:Rel B0 w0 ρ s.h w)(B:ib ρ s.n s'.n)
  (i:(bv a.eval o).run P w=((do let d ←kW x ⟨vs⟩;iO d.target d.args:Sem Next)).run P w):df P o a w (Done B0 w0 ρ s v s'):=by
 unfold mY at h
 split at h
 ·rename_i N m cap
  obtain⟨n,C,p,E,rfl⟩:=c;refine Ah g h (vs:=n++(vs++C)) (cq.append p (cq.append y E)) z B ?_;rw[i];simp only[kW,az,bH,ai,iO]
  congr 2
  apply cg;simp
 ·rename_i F m cap
  obtain⟨n,C,p,E,rfl⟩:=c
  split at h
  ·rename_i r rest q
   have b:=cq.append p y;rw[q]at b;obtain⟨j,k,t,u,e⟩:=b;refine sT g h t u z B ?_;rw[i];have H:(⟨n⟩:Array Z)++⟨vs⟩=⟨j::k⟩:=by apply cg;simpa using e
   have K:(⟨j::k⟩:Array Z)[0]?=I j:=rfl;have L:(⟨j::k⟩:Array Z).extract 1 (⟨j::k⟩:Array Z).size=⟨k⟩:=by apply cg;simp
   simp only[kW,az,bH,ai,iO,H,K,L]
  ·cases h
 ·cases h
end
end Go.Ev
namespace Go.Ev
open Go.RowKit (Below)
section
variable {P:aQ} {ρ:Env} {B0:Nat} {w0 w:V}
theorem JZ(c:Call)(E:fB (.call c)=.val):ct P (.call c) (lP P c):=by
 unfold lP
 split
 ·rename_i b h
  cases b<;>first
   | exact EX c h
   | exact JX c h
   | exact Mj c h
   | exact Ml c h
   | exact Mm c h
   | exact Mn c h
   | exact Il c h
   | exact Ik c h
   | exact ct.fail _
 ·rename_i f h
  intro cf g j s v t i o a w B0 w0 ρ k d m n;have d:cq ρ j (.func (.func f) #[] #[]::c.args.toList.map a.eval):=by simpa[cY,dJ,h,Act.eval]using d
  obtain⟨p,l,rfl,_,q⟩:=ps d;refine Ah g (f:=f) (l:=l) i q m n ?_;have e:c.args.map a.eval=⟨c.args.toList.map a.eval⟩:=by apply cg;simp
  simp only[bv,k,il,h,az,Act.eval,kW,bH,ai,iO,e]
  congr 2
  apply cg;simp
 ·rename_i x y h
  intro cf g j s v t i o a w B0 w0 ρ k d m n;have d:cq ρ j (a.eval x::c.args.toList.map a.eval):=by simpa[cY,dJ,h]using d
  obtain⟨p,l,rfl,r,q⟩:=ps d;refine Ip g i r q m n ?_;have e:c.args.map a.eval=⟨c.args.toList.map a.eval⟩:=by apply cg;simp
  simp only[bv,k,il,h,az,e]
 ·rename_i x u h
  intro cf g j s v t i o a w B0 w0 ρ k d m n;have d:cq ρ j (a.eval x::c.args.toList.map a.eval):=by simpa[cY,dJ,h]using d
  obtain⟨p,l,rfl,r,q⟩:=ps d;refine sT g i r q m n ?_;have e:c.args.map a.eval=⟨c.args.toList.map a.eval⟩:=by apply cg;simp
  have z:(#[a.eval x]:Array Z)++⟨c.args.toList.map a.eval⟩=⟨a.eval x::c.args.toList.map a.eval⟩:=by apply cg;simp
  have B:(⟨a.eval x::c.args.toList.map a.eval⟩:Array Z)[0]?=I (a.eval x):=rfl
  have C:(⟨a.eval x::c.args.toList.map a.eval⟩:Array Z).extract 1 (⟨a.eval x::c.args.toList.map a.eval⟩:Array Z).size=⟨c.args.toList.map a.eval⟩:=by
   apply cg;simp;rw[List.take_of_length_le dR]
  simp only[bv,k,il,h,az,e,bH,ai,z,iO,B,C]
theorem Mr(op:Op)(d:fB op=.val):ct P op (gQ P op):=by
 cases op with
 | move x=>exact Bb x _ (.inl rfl)
 | assign x=>exact Bb x _ (.inr rfl)
 | pick c a b=>exact JQ c a b
 | alloc e=>exact Ie e
 | box e x=>exact Mf e x
 | build t g=>exact If t g
 | buildSlice t n g=>exact yU t n g
 | load t x=>exact JR t x
 | store t x y=>exact Ic t x y
 | nilCheck x=>exact BE x
 | binOp op t x y j=>exact Ii op t x y j
 | unOp op t x=>exact JU op t x
 | convert a b x=>exact DV a b x
 | makeInterface t x=>exact tU t x
 | makeFunc f x c=>exact BG f x c
 | makeMap t r=>cases r with
  | none=>exact DT t
  | some r=>exact ct.fail _
 | makeChan t x=>exact BH t x
 | makeSlice t l c=>exact Ad t l c
 | slice t x l h m=>exact Ij t x l h m
 | fieldAddr t x f=>exact Aa t x f
 | field t x f=>exact Ig t x f
 | indexAddr t x i=>exact Ab t x i
 | index t x i=>exact Ih t x i
 | lookup t x i ok=>exact E_ t x i ok
 | mapUpdate t m k x=>exact Ag t m k x
 | typeAssert x a b ok=>exact yV x a b ok
 | extract x i=>exact DM x i
 | call c=>exact JZ c d
 | send _ _=>cases d
 | recv _ _ _=>cases d
 | select _ _=>cases d
 | defer _=>cases d
 | _=>exact ct.fail _
theorem Framed.gi{cf:bR}(h:iD cf)(r:Y)(a:String)(l:List Y):Framed (gi P cf r a l):=by
 unfold Ev.gi
 cases r<;>dsimp only<;>try exact .no _
 split
 ·exact h _ _
 ·exact .no _
theorem Framed.mY{cf:bR}(h:iD cf)(f:Y)(l:List Y):Framed (mY P cf f l):=by
 unfold Ev.mY
 split
 ·exact h _ _
 ·split
  ·exact .gi h _ _ _
  ·exact .no _
 ·exact .no _
theorem yO.fail{cf:bR}(a:String):yO (failK a) cf:=fun _=> .no _
theorem Framed.mg(c:Bool)(n b a:Nat):Framed (mg c n b a):=by
 unfold Ev.mg;refine .cond _ (.jW _ _ _ fun l=> .ok _) (.jW _ _ _ fun l=>?_);unfold oneCell
 split
 ·exact .ok _
 ·exact .no _
theorem Framed.fn(n:Nat)(x:Y)(size:Nat):∀k:List Y→S→RV,(∀l,Framed (k l))→Framed (fun s=>s.iJ size n x k):=fun _ h=> .iJ _ _ _ h
theorem Framed.xa{α:Type}(v:α)(b:Nat)(o:AO):Framed (fun s=> .ok v (s.put b o)):=Framed.put b o (k:=fun s=> .ok v s) (.ok v)
theorem Framed.OU(size n:Nat)(x:Y)(f:List Y→Option Y)(y:String):Framed (fun s=>s.iJ size n x fun l s=>Ev.ret (f l) s y):=Framed.iJ size n x (k:=fun l s=>Ev.ret (f l) s y) fun l=>Framed.ret (f l) y
theorem Fa{cf:bR}(h:iD cf)(c:Call):yO (lP P c) cf:=by
 intro a;unfold lP
 split
 ·rename_i b j
  cases b<;>first
   | exact .no _
   | skip
  case append=>
   show Framed ((pK P c.argTypes.toList).run cf a)
   have d:∀size,Framed ((pJ size).run cf a):=by
    intro size;show Framed (fun s=>match a with | [x,v]=>_ | _=>_)
    split
    ·split
     ·exact .cond _ (.jX _ _ _ fun k f=> .iJ _ _ _ f) (.no _)
     ·exact .no _
    ·exact .no _
   have g:∀size z,Framed ((pc size z).run cf a):=by
    intro size z;show Framed (fun s=>match a with | [x,.int _ (.ofNat n)]=>_ | _=>_)
    split
    ·exact .cond _ (.jX _ _ _ fun k f=>f _) (.no _)
    ·exact .no _
   unfold pK
   split
   ·split
    ·split
     ·rename_i z _
      generalize (!(cF P _&&aG (gN P _) 10000&&aG 1 (sizeT P _)&&ak z.cells.length (sizeT P _)))=i
      cases i
      ·simp only[cond_false]
       split
       ·exact d _
       ·split
        ·exact g _ _
        ·exact d _
        ·exact .no _
      ·exact .no _
     ·exact .no _
    ·exact .no _
   ·exact .no _
  case cap=>
   show Framed ((yH P c.argTypes.toList).run cf a);unfold yH
   split
   ·split
    ·dsimp only;split
     ·exact .ok _
     ·exact .ok _
     ·exact .no _
    ·exact .no _
   ·exact .no _
  case clear=>
   show Framed ((sf P c.argTypes.toList).run cf a);unfold sf
   split
   ·split
    ·split
     ·rename_i e _ _ z _
      cases cF P e
      ·exact .no _
      ·simp only[cL,cond_false]
       split
       ·exact .cond _ (.ok _) (.iu _ _ _ (.ok _))
       ·exact .ok _
       ·exact .ok _
       ·exact .no _
     ·exact .no _
    ·exact .no _
   ·exact .no _
  case close=>
   show Framed (yI.run cf a);unfold yI;dsimp only
   split
   ·refine .look _ fun o=>?_
    split
    ·exact .xa _ _ _
    ·exact .no _
   ·exact .no _
  case copy=>
   show Framed ((wQ P c.argTypes.toList).run cf a);unfold wQ
   split
   ·split
    ·rename_i e _
     cases cF P e
     ·exact .no _
     ·simp only[cL,cond_false]
      split
      ·split
       ·refine .iJ _ _ _ fun l=>?_
        split
        ·exact .iu _ _ _ (.ok _)
        ·exact .cond _ (.ok _) (.no _)
       ·exact .no _
      ·exact .no _
    ·exact .no _
   ·exact .no _
  case len=>
   show Framed ((sS P c.argTypes.toList).run cf a);unfold sS
   split
   ·split
    ·dsimp only;split
     ·exact .ok _
     ·exact .no _
    ·split
     ·dsimp only;split
      ·exact .ok _
      ·exact .no _
     ·exact .no _
    ·dsimp only;split
     ·exact .ok _
     ·exact .no _
    ·dsimp only;split
     ·split
      ·exact .ok _
      ·exact .no _
     ·exact .no _
    ·dsimp only;split
     ·refine .look _ fun o=>?_
      split
      ·exact .ok _
      ·exact .no _
     ·exact .ok _
     ·exact .no _
    ·exact .no _
   ·exact .no _
  case max=>
   show Framed ((BD O).run cf a);unfold BD;dsimp only
   split
   ·exact .ret _ _
   ·exact .no _
  case min=>
   show Framed ((BD U).run cf a);unfold BD;dsimp only
   split
   ·exact .ret _ _
   ·exact .no _
 ·dsimp only;split
  ·exact h _ _
  ·exact .no _
 ·dsimp only;split
  ·exact .mY h _ _
  ·exact .no _
 ·dsimp only;split
  ·exact .gi h _ _ _
  ·exact .no _
theorem tX{cf:bR}(h:iD cf)(op:Op):yO (gQ P op) cf:=by
 intro a
 cases op with
 | call c=>exact Fa h c a
 | move x=>exact(by unfold gQ;show Framed (ES a);unfold ES;split;exact .ok _;exact .no _)
 | assign x=>exact(by unfold gQ;show Framed (ES a);unfold ES;split;exact .ok _;exact .no _)
 | load t x=>
  show Framed ((tJ P t).run cf a);unfold tJ
  cases cF P t
  ·exact .no _
  ·show Framed (fun s=>match a with | [.ptr b j]=>_ | _=>_)
   split
   ·exact .mg _ _ _ _
   ·exact .no _
 | store t x y=>
  show Framed ((qn P t).run cf a);unfold qn
  cases cF P t
  ·exact .no _
  ·show Framed (fun s=>match a with | [.ptr b j,x]=>_ | _=>_)
   split
   ·exact .cond _ (.iu _ _ _ (.ok _)) (.no _)
   ·exact .no _
 | pick c x y=>
  unfold gQ;dsimp only;split
  ·exact .ok _
  ·exact .no _
 | alloc e=>
  unfold gQ;dsimp only;split
  ·exact Framed.new (k:=fun b s=>Rs.ok (Y.ptr b 0) s) _ fun b=> .ok _
  ·exact .no _
 | box e x=>
  unfold gQ;dsimp only;split
  ·exact .new _ fun b=> .ok _
  ·exact .no _
 | build t p=>
  show Framed ((oZ P t (p.toList.map (·.1))).run cf a);unfold oZ
  split
  ·rename_i z q _ _
   dsimp only
   cases q.toList.all fun f=>cF P f.type
   ·exact .no _
   ·exact .ret _ _
  ·rename_i z n e _ _
   dsimp only
   cases cF P e
   ·exact .no _
   ·exact .ret _ _
  ·exact .no _
 | buildSlice t n p=>
  show Framed ((kn P t n (p.toList.map (·.1))).run cf a);unfold kn
  split
  ·dsimp only
   split
   ·rename_i e _ _ z _
    cases (cF P e&&aG (n*sizeT P e) 10000&&ak z.cells.length (sizeT P e))
    ·exact .no _
    ·simp only[cond_true]
     split
     ·exact .new _ fun b=> .ok _
     ·exact .no _
   ·exact .no _
  ·exact .no _
 | nilCheck x=>
  unfold gQ;dsimp only;split
  ·exact .ok _
  ·exact .ok _
  ·exact .ok _
  ·split
   ·exact .ok _
   ·exact .no _
  ·exact .no _
 | binOp op t x y u=>
  show Framed ((tM P op t x y).run cf a);unfold tM;dsimp only
  split
  ·dsimp only;split
   ·split
    ·exact .ok _
    ·exact .ret _ _
   ·exact .no _
  ·dsimp only;split
   ·split
    ·exact .ok _
    ·exact .ret _ _
   ·exact .no _
  ·dsimp only;split
   ·exact .ret _ _
   ·exact .no _
 | unOp op t x=>
  unfold gQ;dsimp only;split
  ·exact .ret _ _
  ·exact .no _
 | convert b c x=>
  show Framed ((lG P b c).run cf a);unfold lG
  split
  ·dsimp only;split
   ·exact .ok _
   ·exact .no _
  ·dsimp only;split
   ·exact .ok _
   ·exact .no _
  ·split
   ·dsimp only;split
    ·exact .new _ fun b=> .ok _
    ·exact .no _
   ·exact .no _
  ·split
   ·dsimp only;split
    ·split
     ·exact .OU _ _ _ _ _
     ·exact .no _
    ·exact .no _
   ·exact .no _
  ·exact .no _
 | makeInterface t x=>
  unfold gQ;dsimp only
  cases LZ P t
  ·exact .no _
  ·simp only[cond_true];split
   ·exact .ok _
   ·exact .no _
 | makeFunc f x c=>exact .ok _
 | makeMap t r=>cases r with
  | none=>exact .new _ fun b=> .ok _
  | some r=>exact .no _
 | makeChan t x=>
  show Framed ((mh P t).run cf a);unfold mh
  split
  ·rename_i e _
   cases (cF P e&&aG (gN P e) 10000)
   ·exact .no _
   ·simp only[cond_true];split
    ·exact .cond _ (.new _ fun b=> .ok _) (.no _)
    ·exact .no _
  ·exact .no _
 | makeSlice t l c=>
  show Framed ((li P t).run cf a);unfold li
  split
  ·split
   ·rename_i e _ _ z _
    cases (cF P e&&aG (gN P e) 10000&&ak z.cells.length (sizeT P e))
    ·exact .no _
    ·simp only[cL,cond_false];split
     ·exact .cond _ (.new _ fun b=> .ok _) (.no _)
     ·exact .no _
   ·exact .no _
  ·exact .no _
 | slice t x l h m=>
  show Framed ((pb P t l.isSome h.isSome m.isSome).run cf a);unfold pb
  split
  ·rename_i e _
   dsimp only
   cases cF P e
   ·exact .no _
   ·simp only[cL,cond_false];split
    ·split
     ·exact .ret _ _
     ·exact .no _
    ·exact .no _
  ·dsimp only;split
   ·split
    ·exact .ret _ _
    ·exact .no _
   ·exact .no _
  ·rename_i n e _
   dsimp only
   cases cF P e
   ·exact .no _
   ·simp only[cL,cond_false];split
    ·split
     ·exact .ret _ _
     ·exact .no _
    ·exact .no _
  ·exact .no _
 | fieldAddr t x f=>
  show Framed ((ie P t f).run cf a);unfold ie
  split
  ·split
   ·rename_i d _
    dsimp only
    cases (cF P d.type&&!(ak (sizeT P d.type) 0))
    ·exact .no _
    ·simp only[cond_true];split
     ·exact .ok _
     ·exact .no _
   ·exact .no _
  ·exact .no _
 | field t x f=>
  show Framed ((o_ P t f).run cf a);unfold o_
  split
  ·split
   ·rename_i d _
    dsimp only
    cases cF P d.type
    ·exact .no _
    ·simp only[cond_true];split
     ·exact .ret _ _
     ·exact .no _
   ·exact .no _
  ·exact .no _
 | indexAddr t x i=>
  show Framed ((ig P t).run cf a);unfold ig
  split
  ·rename_i e _
   dsimp only
   cases cF P e
   ·exact .no _
   ·simp only[cL,cond_false];split
    ·exact .cond _ (.ok _) (.no _)
    ·exact .no _
  ·rename_i n e _
   dsimp only
   cases cF P e
   ·exact .no _
   ·simp only[cL,cond_false];split
    ·exact .cond _ (.ok _) (.no _)
    ·exact .no _
  ·exact .no _
 | index t x i=>
  show Framed ((pa P t).run cf a);unfold pa
  split
  ·dsimp only;split
   ·split
    ·exact .ok _
    ·exact .no _
   ·exact .no _
  ·rename_i n e _
   dsimp only
   cases cF P e
   ·exact .no _
   ·simp only[cL,cond_false];split
    ·exact .cond _ (.ret _ _) (.no _)
    ·exact .no _
  ·exact .no _
 | lookup t x i ok=>
  show Framed ((pL P t ok).run cf a);unfold pL
  split
  ·split
   ·dsimp only;split
    ·exact .cond _ (.ok _) (.no _)
    ·refine .look _ fun o=>?_
     split
     ·refine .cond _ ?_ (.no _)
      split
      ·exact .ok _
      ·exact .no _
     ·exact .no _
    ·exact .no _
   ·exact .no _
  ·exact .no _
 | mapUpdate t m k x=>
  show Framed ((lj P t).run cf a);unfold lj
  split
  ·split
   ·dsimp only;split
    ·refine .look _ fun o=>?_
     split
     ·split
      ·exact .xa _ _ _
      ·exact .xa _ _ _
      ·exact .no _
     ·exact .no _
    ·exact .no _
   ·exact .no _
  ·exact .no _
 | typeAssert x b t ok=>
  show Framed ((iK P t ok).run cf a);have g:∀z,Framed (vU ok z):=fun z=> .cond _ (.ok _) (.no _)
  unfold iK
  split
  ·split
   ·dsimp only;split
    ·split
     ·exact .ok _
     ·exact g _
     ·exact .no _
    ·exact g _
    ·exact .no _
   ·dsimp only;split
    ·exact .cond _ (.ok _) (g _)
    ·exact g _
    ·exact .no _
   ·exact .no _
  ·exact .no _
 | extract x i=>
  unfold gQ;dsimp only;split
  ·split
   ·exact .ok _
   ·exact .no _
  ·exact .no _
 | send c x=>
  unfold gQ;dsimp only;split
  ·unfold Hs;split
   ·refine .look _ fun o=>?_
    split
    ·exact .cond _ (.xa _ _ _) (.no _)
    ·exact .no _
   ·exact .no _
  ·exact .no _
 | recv t c ok=>
  unfold gQ;dsimp only;split
  ·split
   ·dsimp only;split
    ·unfold Ht;split
     ·refine .look _ fun o=>?_
      split
      ·exact .xa _ _ _
      ·exact .ok _
      ·exact .no _
     ·exact .no _
    ·exact .no _
   ·exact .no _
  ·exact .no _
 | select cs b=>
  cases b with
  | true=>exact .no _
  | false=>
   unfold gQ;dsimp only;split
   ·unfold tL;split
    ·split
     ·dsimp only;split
      ·refine .look _ fun o=>?_
       split
       ·exact .cond _ (.xa _ _ _) (.ok _)
       ·exact .no _
      ·exact .no _
     ·dsimp only;split
      ·refine .look _ fun o=>?_
       split
       ·exact .xa _ _ _
       ·exact .ok _
       ·exact .ok _
       ·exact .no _
      ·exact .no _
    ·exact .no _
   ·exact .no _
 | _=>exact .no _
end
end Go.Ev
namespace Go.Ev
open Go.RowKit (Below)
open Go.Conc (solo rcase scase)
section
variable {P:aQ} {ρ:Env} {B0:Nat} {w0 w:V}
def Ctx(bI:Bool)(b:j9)(cs:List j9):Prop:=bI=O→b.kind=.deferred∧recoverD cs=J
def lp(P:aQ)(bI:Bool)(ops:Array aH)(i:Nat)(a:Act)(w:V)(R:Act→V→Prop):Prop:=
 ∀(b:j9)(k:List Item)(cs:List j9)(rest:List Nat),Ctx bI b cs→∃c d,R c d∧Steps P (lone (b.at a (.inRegion ops (i::rest)::k)) cs w) (lone (b.at c (.inRegion ops rest::k)) cs d)
theorem tY{bI:Bool}{ops:Array aH}{i:Nat}{o:aH}{a:Act}{R:Act→V→Prop}(s:ops[i]?=I o)(u:dU o (kD ops a.tmps)=O)(h:o.wp P a w R (fun _ _ _=>False)):lp P bI ops i a w R:=by
 intro b k cs rest _;have q:=stepG_op (P:=P) (b:=b) (k:=k) (cs:=cs) (w:=w) (rest:=rest) s u
 have j:∀v,(b.at a (.inRegion ops (i::rest)::k)).finish v=b.at (a.put o.dst v) (.inRegion ops rest::k):=by
  intro v;rw[nZ,s];rfl
 simp only[Oper.wp,Oper.upon]at h
 split at h
 ·rename_i v l m
  refine⟨_,l,h,.one (step_lone_go ?_)⟩;rw[q,←j];simp[lM,m]
 ·rename_i l m
  refine⟨_,l,h,.one (step_lone_go ?_)⟩;rw[q,←j];simp[lM,m]
 ·rename_i d l m
  refine⟨_,l,h,.one (step_lone_go ?_)⟩
  have:({ b.at a (.inRegion ops (i::rest)::k)with defers:=d::a.defers }:j9).finish fq=
    b.at ({ a with defers:=d::a.defers }.put o.dst fq) (.inRegion ops rest::k):=by
   have:=nZ b { a with defers:=d::a.defers } ops i rest k fq;rw[s]at this;exact this
  rw[q];simp only[lM,Sem.runT_eq,m,GStep.bare_after];exact congrArg (fun fr=>GStep.go { frame:=fr,callers:=cs,status:=.running,dying:=J } l) this
 ·rename_i f args l m
  obtain⟨e,p,fr,r,c,_,n⟩:=h (b.at a (.inRegion ops (i::rest)::k)::cs)
  have g:step P (lone (b.at a (.inRegion ops (i::rest)::k)) cs w)=
    .next (lone (zA P f args .normal) (b.at a (.inRegion ops (i::rest)::k)::cs) l):=
   step_lone_go (by rw[q];simp[lM,m,Frame.at])
  cases e with
  | returned v=>
   refine⟨_,p,r,.head g (kq c (.one ?_))⟩;rw[←j];exact step_leave_returned n
  | panicked t=>exact r.elim
  | outgrown=>obtain⟨_,_,x⟩:=r;exact x.elim
 ·rename_i row args l m
  obtain⟨v,p,r,c⟩:=h (b.at a (.inRegion ops (i::rest)::k)) cs
  have g:step P (lone (b.at a (.inRegion ops (i::rest)::k)) cs w)=
    .next (lone (Frame.ofRow P row args .normal) (b.at a (.inRegion ops (i::rest)::k)::cs) l):=
   step_lone_go (by rw[q];simp[lM,m,Frame.at])
  refine⟨_,p,r,.head g ?_⟩;rw[←j];exact c
 ·exact h.elim
 ·exact h.elim
theorem Fb{bI:Bool}{ops:Array aH}{i:Nat}{o:aH}{a:Act}{R:Act→V→Prop}(c:ops[i]?=I o)(e:dU o (kD ops a.tmps)=U)(h:R (a.put o.dst fq) w):lp P bI ops i a w R:=by
 intro b k cs rest _;have d:=step_op_skip (P:=P) (b:=b) (a:=a) (k:=k) (cs:=cs) (w:=w) (ops:=ops) (i:=i) (rest:=rest) (by simp[c,e]);simp only[c,iw]at d;exact⟨_,w,h,.one d⟩
theorem Ai{ops:Array aH}{i:Nat}{o:aH}{a:Act}{R:Act→V→Prop}(g:ops[i]?=I o)(j:dU o (kD ops a.tmps)=O)(l:(bv a.eval o).run P w=.ok .recover w)(h:R (a.put o.dst .nilIface) w):lp P O ops i a w R:=by
 intro b k cs rest m;obtain⟨n,c⟩:=m rfl;have p:=stepG_op (P:=P) (b:=b) (k:=k) (cs:=cs) (w:=w) (rest:=rest) g j
 have d:∀v,(b.at a (.inRegion ops (i::rest)::k)).finish v=b.at (a.put o.dst v) (.inRegion ops rest::k):=by
  intro v;rw[nZ,g];rfl
 have f:(b.at a (.inRegion ops (i::rest)::k)).kind=.deferred:=n;have e:=tryRecover_deferred f cs;refine⟨_,w,h,.one (step_lone_go ?_)⟩;rw[p,←d];simp only[Frame.at]at e⊢;simp[lM,l,e,c]
theorem iR{bI:Bool}{ops:Array aH}{i:Nat}{o:aH}{a:Act}{R:Act→V→Prop}{cases:Array CommCase}{bl:Bool}{sh:CommShape}{v:Z}{w':V}(j:ops[i]?=I o)(m:dU o (kD ops a.tmps)=O)
  (l:(bv a.eval o).run P w=.ok (.comm cases bl sh) w) (h:R (a.put o.dst v) w')
  (c:∀(fr:j9)(cs:List j9)(d:Array Event),stepG P O (Conc.G fr cs) w=.comm (Conc.G fr cs) cases bl sh w d→step P (solo (Conc.G fr cs) w)=.next (solo (Conc.G (fr.finish v) cs) w')):lp P bI ops i a w R:=by
 intro b k cs rest _;have n:=stepG_op (P:=P) (b:=b) (k:=k) (cs:=cs) (w:=w) (rest:=rest) j m
 have e:∀v,(b.at a (.inRegion ops (i::rest)::k)).finish v=b.at (a.put o.dst v) (.inRegion ops rest::k):=by
  intro v;rw[nZ,j];rfl
 have p:((bv a.eval o).runT P w #[]).1=.ok (.comm cases bl sh) w:=by rw[Sem.runT_fst,l]
 refine⟨_,w',h,.one ?_⟩;rw[←e]
 have f:∃d,stepG P O (Conc.G (b.at a (.inRegion ops (i::rest)::k)) cs) w=.comm (Conc.G (b.at a (.inRegion ops (i::rest)::k)) cs) cases bl sh w d:=by
  show ∃d,stepG P O { frame:=b.at a (.inRegion ops (i::rest)::k),callers:=cs,status:=.running,dying:=J } w=_;rw[n];simp only[lM,Sem.runT_eq,l,if_true];exact⟨_,rfl⟩
 obtain⟨d,g⟩:=f;exact c _ cs d g
end
end Go.Ev
namespace Go.Ev
open Go.RowKit (Below)
open Go.Conc (solo rcase scase)
section
variable {P:aQ} {ρ:Env} {B0:Nat} {w0 w:V}
theorem vA{b B κ cap i j k l:Nat}{e a:List Y}{cl d:Bool}{vs c:List Z}{h:Tr AO}(m:Rel B0 w0 ρ h w)(n:h.get b=I (.chan cap e cl i j))(f:ρ b=I (B,κ))(g:w.heap[B]?=I (.chan cap ⟨vs⟩ cl i j U))(o:cq ρ a c):
  Rel B0 w0 ρ (h.set b (.chan cap a d k l)) (w.setChan B cap ⟨c⟩ d k l U):=
 m.upd n dR f (wX.setObj g) ⟨c,rfl,o⟩ dR
theorem Mt{bI:Bool}{ops:Array aH}{i:Nat}{o:aH}{a:Act}{cf:bR}{av:List Y}{s s':S}{v:Y}(H:fB o.op=.com)(ho:ops[i]?=I o)(hw:dU o (kD ops a.tmps)=O)
  (f:(gQ P o.op).run cf av s=.ok v s') (C:cq ρ av (o.op.operands.toList.map a.eval)) (L:Rel B0 w0 ρ s.h w):lp P bI ops i a w (fun a' w'=>∃v',a'=a.put o.dst v'∧Done B0 w0 ρ s v s' v' w'):=by
 cases a0:o.op<;>rw[a0]at H f C<;>try (cases H;done)
 case call c=>
  exfalso;unfold fB at H
  split at H
  all_goals first | (cases H;done) | (rename_i hh;cases hh;done)
 case send ch x=>
  obtain⟨p,q,rfl,hp,hq⟩:=tS (x:=a.eval ch) (y:=a.eval x) C;have f:Hs p q s=.ok v s':=f;unfold Hs at f
  split at f
  ·rename_i b
   obtain⟨B,κ,l,N⟩:=hp;obtain⟨o',m,r⟩:=jt f
   split at r
   ·rename_i cap R j k
    cases F:bM R.length cap with
    | false=>rw[F]at r;cases r
    | true=>
     rw[F]at r
     cases r
     obtain⟨Q,g,n⟩:=L.or m dR l;have K:Q.length<cap:=by rw[cq.len n];simpa[kh]using F
     refine iR (v:=fq) (cases:= #[scase B (a.eval x) (.tuple #[])]) (bl:=O) (sh:=.send) (w':=w.setChan B cap ((⟨Q⟩:Array Z).push (a.eval x)) U (j+1) k U) ho hw (by simp[bv,a0,N,scase]) ?_ ?_
     ·refine⟨fq,rfl,ρ,Ext.refl _ _ _,⟨[],rfl,rfl⟩,?_⟩
      have:(⟨Q⟩:Array Z).push (a.eval x)=⟨Q++ [a.eval x]⟩:=by apply cg;simp
      rw[this];exact vA L m l g (cq.append n ⟨_,_,hq,rfl,rfl⟩)
     ·intro fr cs es h
      exact Go.Conc.step_lone_send_room h g K
   ·cases r
  ·cases f
 case recv t ch ok=>
  obtain⟨p,rfl,hp⟩:=oD (x:=a.eval ch) C;unfold gQ at f;dsimp only at f
  split at f
  ·rename_i d e hu
   split at f
   ·rename_i z hz
    have f:Ht p z ok s=.ok v s':=f;obtain⟨W,c0,X⟩:=mB (P:=P) (w:=w) hz;unfold Ht at f
    split at f
    ·rename_i b
     obtain⟨B,κ,l,N⟩:=hp
     have E:(bv a.eval o).run P w=.ok (.comm #[rcase B W] O (.recv ok)) w:=by
      simp only[bv,a0,az,aK hu,ai,c0,N,rcase];rfl
     obtain⟨o',m,r⟩:=jt f
     split at r
     ·rename_i cap x R cl j k
      cases r
      obtain⟨Q,g,⟨u,T,b0,d0,rfl⟩⟩:=L.or m dR l;refine iR (v:=Go.Conc.got ok u O) (w':=w.setChan B cap ⟨T⟩ cl j (k+1) U) ho hw E ?_ ?_
      ·refine⟨_,rfl,ρ,Ext.refl _ _ _,?_,vA L m l g d0⟩
       cases ok
       ·exact b0
       ·exact⟨_,⟨_,_,b0,⟨_,_,rfl,rfl,rfl⟩,rfl⟩,rfl⟩
      ·intro fr cs es h
       have:=Go.Conc.step_lone_recv_buf ok h g (by show 0<(u::T).length;simp);have e1:(⟨u::T⟩:Array Z).getD 0 fq=u:=rfl
       have e2:(⟨u::T⟩:Array Z).extract 1 (⟨u::T⟩:Array Z).size=⟨T⟩:=by
        apply cg;simp
       rw[e1,e2]at this;exact this
     ·rename_i cap j k
      cases r
      obtain⟨Q,g,n⟩:=L.or m dR l
      cases n
      refine iR (v:=Go.Conc.got ok W U) (w':=w) ho hw E ?_ ?_
      ·refine⟨_,rfl,Done.same L rfl ?_⟩
       cases ok
       ·exact X ρ
       ·exact⟨_,⟨_,_,X ρ,⟨_,_,rfl,rfl,rfl⟩,rfl⟩,rfl⟩
      ·intro fr cs es h
       exact Go.Conc.step_lone_recv_shut ok h g
     ·cases r
    ·cases f
   ·cases f
  ·cases f
 case select f0 bl=>
  cases bl with
  | true=>cases f
  | false=>
   unfold gQ at f;dsimp only at f
   split at f
   ·rename_i c
    unfold tL at f
    split at f
    ·rename_i z hz
     obtain⟨W,c0,X⟩:=mB (P:=P) (w:=w) hz
     have E:(bv a.eval o).run P w=.ok (.comm #[{ chan:=a.eval c.chan,send:=c.send.map a.eval,zero:=W }] U .select) w:=by
      simp only[bv,a0,Array.mapM_eq_foldlM,List.foldlM_toArray',List.foldlM_cons,List.foldlM_nil,map_eq_pure_bind,az,c0,ai];rfl
     split at f
     ·rename_i xo hx
      have C:cq ρ av [a.eval c.chan,a.eval xo]:=by
       have e:(Op.select ⟨[c]⟩ U).operands.toList.map a.eval=[a.eval c.chan,a.eval xo]:=by
        simp[cY,hx]
       rw[e]at C;exact C
      obtain⟨p,q,rfl,hp,hq⟩:=tS C;dsimp only at f
      split at f
      ·rename_i b v' e0
       cases e0
       obtain⟨B,κ,l,N⟩:=hp;obtain⟨o',m,r⟩:=jt f
       split at r
       ·rename_i cap R j k
        obtain⟨Q,g,n⟩:=L.or m dR l;rw[N,hx]at E
        cases F:bM R.length cap with
        | true=>
         rw[F]at r
         cases r
         have K:Q.length<cap:=by rw[cq.len n];simpa[kh]using F
         refine iR (v:=.tuple #[lQ 0,.bool U]) (cases:= #[scase B (a.eval xo) W]) (w':=w.setChan B cap ((⟨Q⟩:Array Z).push (a.eval xo)) U (j+1) k U) ho hw E ?_ ?_
         ·refine⟨_,rfl,ρ,Ext.refl _ _ _,?_,?_⟩
          ·exact⟨_,⟨_,_,rfl,⟨_,_,rfl,rfl,rfl⟩,rfl⟩,rfl⟩
          have:(⟨Q⟩:Array Z).push (a.eval xo)=⟨Q++ [a.eval xo]⟩:=by apply cg;simp
          rw[this];exact vA L m l g (cq.append n ⟨_,_,hq,rfl,rfl⟩)
         ·intro fr cs es h
          exact Go.Conc.step_lone_select_send_room h g K
        | false=>
         rw[F]at r
         cases r
         have K:cap≤Q.length:=by
          rw[cq.len n];refine Nat.not_lt.mp fun h=>?_
          have h2:bM R.length cap=O:=by simpa[kh]using h
          rw[h2]at F;cases F
         refine iR (v:=.tuple #[lQ (-1),.bool U]) (cases:= #[scase B (a.eval xo) W]) (w':=w) ho hw E ?_ ?_
         ·refine⟨_,rfl,Done.same L rfl ?_⟩
          exact⟨_,⟨_,_,rfl,⟨_,_,rfl,rfl,rfl⟩,rfl⟩,rfl⟩
         ·intro fr cs es h
          exact Go.Conc.step_lone_select_send_full h g K
       ·cases r
      ·cases f
     ·rename_i hx
      have C:cq ρ av [a.eval c.chan]:=by
       have e:(Op.select ⟨[c]⟩ U).operands.toList.map a.eval=[a.eval c.chan]:=by
        simp[cY,hx]
       rw[e]at C;exact C
      obtain⟨p,rfl,hp⟩:=oD C;dsimp only at f
      split at f
      ·rename_i b e0
       cases e0
       obtain⟨B,κ,l,N⟩:=hp;obtain⟨o',m,r⟩:=jt f;rw[N,hx]at E
       split at r
       ·rename_i cap x R cl j k
        cases r
        obtain⟨Q,g,⟨u,T,b0,d0,rfl⟩⟩:=L.or m dR l;refine iR (v:=.tuple #[lQ 0,.bool O,u]) (cases:= #[rcase B W]) (w':=w.setChan B cap ((⟨T⟩:Array Z)) cl j (k+1) U) ho hw E ?_ ?_
        ·refine⟨_,rfl,ρ,Ext.refl _ _ _,?_,vA L m l g d0⟩
         exact⟨_,⟨_,_,rfl,⟨_,_,rfl,⟨_,_,b0,rfl,rfl⟩,rfl⟩,rfl⟩,rfl⟩
        ·intro fr cs es h
         have:=Go.Conc.step_lone_select_recv_buf h g (by show 0<(u::T).length;simp);have e1:(⟨u::T⟩:Array Z).getD 0 fq=u:=rfl
         have e2:(⟨u::T⟩:Array Z).extract 1 (⟨u::T⟩:Array Z).size=⟨T⟩:=by
          apply cg;simp
         rw[e1,e2]at this;exact this
       ·rename_i cap j k
        cases r
        obtain⟨Q,g,n⟩:=L.or m dR l
        cases n
        refine iR (v:=.tuple #[lQ 0,.bool U,W]) (cases:= #[rcase B W]) (w':=w) ho hw E ?_ ?_
        ·refine⟨_,rfl,Done.same L rfl ?_⟩
         exact⟨_,⟨_,_,rfl,⟨_,_,rfl,⟨_,_,X ρ,rfl,rfl⟩,rfl⟩,rfl⟩,rfl⟩
        ·intro fr cs es h
         exact Go.Conc.step_lone_select_recv_shut h g
       ·rename_i cap j k
        cases r
        obtain⟨Q,g,n⟩:=L.or m dR l
        cases n
        refine iR (v:=.tuple #[lQ (-1),.bool U,W]) (cases:= #[rcase B W]) (w':=w) ho hw E ?_ ?_
        ·refine⟨_,rfl,Done.same L rfl ?_⟩
         exact⟨_,⟨_,_,rfl,⟨_,_,rfl,⟨_,_,X ρ,rfl,rfl⟩,rfl⟩,rfl⟩,rfl⟩
        ·intro fr cs es h
         exact Go.Conc.step_lone_select_default h g
       ·cases r
      ·cases f
    ·cases f
   ·cases f
end
end Go.Ev
namespace Go.Ev
open Go.RowKit (Below)
def DR(ρ:Env)(d:nx)(x:vD):Prop:=∃a b,cq ρ d.cap a∧cq ρ d.args b∧x= { target:=.fn d.f ⟨a⟩,args:=⟨b⟩ }
def Iq(ρ:Env):List nx→List vD→Prop
 | [],ds=>ds=[]
 | d::l,ds=>∃x a,DR ρ d x∧Iq ρ l a∧ds=x::a
theorem Iq.mono{ρ ρ':Env}(h:ρ.le ρ'):∀(l:List nx)(ds:List vD),Iq ρ l ds→Iq ρ' l ds
 | [],_,e=>e
 | _::l,_,⟨x,a,⟨b,c,d,f,e⟩,g,i⟩=>⟨x,a,⟨b,c,cq.mono h _ _ d,cq.mono h _ _ f,e⟩,Iq.mono h l a g,i⟩
structure kR(ρ:Env)(nt:Nat)(fr:Fr)(a:Act):Prop where
 size:a.tmps.size=nt
 t:∀i,VR ρ (fr.t i) (a.tmps.getD i fq)
 d:Iq ρ fr.d a.defers
section
variable {P:aQ} {ρ:Env} {B0 nt:Nat} {w0 w:V} {fr fr':Fr} {a:Act}
theorem kR.mono{ρ':Env}(h:ρ.le ρ')(f:kR ρ nt fr a):kR ρ' nt fr a:=
 ⟨f.size,fun i=>VR.mono h _ _ (f.t i),Iq.mono h _ _ f.d⟩
theorem kR.put{v:Y}{v':Z}(f:kR ρ nt fr a)(j:VR ρ v v')(c:Option Nat):kR ρ nt (fr.put nt c v) (a.put c v'):=by
 cases c with
 | none=>exact f
 | some d=>
  unfold Fr.put Act.put;dsimp only
  cases b:bM d nt with
  | true=>
   have b:d<nt:=by simpa[kh]using b
   refine⟨by simp[f.size],fun i=>?_,f.d⟩;show VR ρ (cond (ak i d) v (fr.t i)) _;rw[DC,Ry];by_cases hi:i=d
   ·subst hi
    simp[cv,fH,f.size,b];exact j
   ·have:=f.t i
    rw[if_neg (by simpa using hi)];rw[cv]at this⊢;rw[fH,if_neg (fun e=>hi e.symm)];exact this
  | false=>
   have g:¬d<nt:=fun h=>by
    have k:bM d nt=O:=by simpa[kh]using h
    rw[k]at b;cases b
   have:a.tmps.setIfInBounds d v'=a.tmps:=by
    unfold Array.setIfInBounds;rw[dif_neg (by rw[f.size];exact g)]
   rw[this];exact f
theorem xb(f:kR ρ nt fr a){o:aP}{p:Y}(h:Df fr.t o=I p):VR ρ p (a.eval o):=by
 cases o with
 | tmp i=>cases h;exact f.t i
 | const v=>exact pO ρ v p h
 | global g=>cases h
 | func g=>cases h;exact⟨[],[],rfl,rfl,rfl⟩
theorem DW(f:kR ρ nt fr a):∀{l:List aP}{b:List Y},evs fr.t l=I b→cq ρ b (l.map a.eval)
 | [],b,h=>by cases h;rfl
 | o::l,b,h=>by
  unfold evs at h
  split at h
  ·rename_i v e c d
   cases h
   exact⟨_,_,xb f c,DW f d,rfl⟩
  ·cases h
theorem RL{p:Y}{b:Bool}(h:VR ρ p (.bool b)):p=.bool b:=by
 cases p<;>simp_all[VR]
theorem Be(f:kR ρ nt fr a)(ops:Array aH)(o:aH):gj ops o fr.t=dU o (kD ops a.tmps):=by
 unfold gj dU
 cases o.guard with
 | none=>rfl
 | some g=>
  obtain⟨j,want⟩:=g;dsimp only;unfold kD
  cases n:(ops[j]?).bind (·.dst)with
  | none=>rfl
  | some d=>
   dsimp only[iw];have c:=f.t d;rw[cv]at c
   cases k:a.tmps[d]? with
   | none=>
    rw[k]at c
    have:∀b,fr.t d≠.bool b:=by
     intro b h;rw[h]at c;cases c
    cases i:fr.t d<;>first | rfl | exact absurd i (this _)
   | some v=>
    rw[k]at c;dsimp only[kT]at c;by_cases h:∃b,v=.bool b
    ·obtain⟨b,rfl⟩:=h
     rw[RL c];rfl
    ·have l:∀b,fr.t d≠.bool b:=fun b e=>h ⟨b,by rw[e]at c;exact c⟩
     have m:(match fr.t d with | .bool b=>b==want | _=>U)=U:=by
      cases i:fr.t d<;>first | rfl | exact absurd i (l _)
     refine Eq.trans m ?_
     cases v<;>first | rfl | exact absurd ⟨_,rfl⟩ h
def Stood(B0:Nat)(w0:V)(ρ:Env)(nt:Nat)(s:S)(fr':Fr)(s':S)(a:Act)(w':V):Prop:=
 ∃ρ',Ext ρ ρ' s.n s'.n∧kR ρ' nt fr' a∧Rel B0 w0 ρ' s'.h w'
theorem lp.mono{bI:Bool}{ops:Array aH}{i:Nat}{R d:Act→V→Prop}(h:lp P bI ops i a w R)(e:∀c w',R c w'→d c w'):lp P bI ops i a w d:=by
 intro b k cs rest f;obtain⟨c,w',r,st⟩:=h b k cs rest f;exact⟨c,w',e _ _ r,st⟩
theorem vZ{cf:bR}(R:Good P cf){ops:Array aH}{i:Nat}{o:aH}{s s':S}(u:ops[i]?=I o)(f:kR ρ nt fr a)(y:Rel B0 w0 ρ s.h w)
  (h:c_ P nt ops o cf fr s=.ok fr' s') (T:ib ρ s.n s'.n):fr'.bI=fr.bI∧lp P fr.bI ops i a w (Stood B0 w0 ρ nt s fr' s'):=by
 have k:∀(x:Fr) d v,(x.put nt d v).bI=x.bI:=by
  intro x d v;unfold Fr.put;cases d with
  | none=>rfl
  | some d=>dsimp only;cases bM d nt<;>rfl
 have K:VR ρ cE fq:=⟨[],rfl,rfl⟩;unfold c_ at h
 cases q:gj ops o fr.t with
 | false=>
  rw[q]at h
  cases h
  rw[Be f]at q;exact⟨k _ _ _,Fb u q ⟨ρ,Ext.refl _ _ _,f.put K _,y⟩⟩
 | true=>
  rw[q]at h;rw[Be f]at q;dsimp only[cond,nO]at h
  cases r:evs fr.t o.op.operands.toList with
  | none=>rw[r]at h;cases h
  | some W=>
   rw[r]at h;dsimp only at h;have m:=DW f r
   cases b:fB o.op with
   | val=>
    rw[b]at h;dsimp only at h
    split at h
    ·rename_i v X n
     cases h
     refine⟨k _ _ _,tY u q ?_⟩;exact Mr o.op b cf R W s v s' n o a w B0 w0 ρ rfl m y T _ _ fun v' w' ⟨ρ',z,j,t⟩=>⟨ρ',z,(f.mono z.le).put j _,t⟩
    ·cases h
   | com=>
    rw[b]at h;dsimp only at h
    split at h
    ·rename_i v X n
     cases h
     refine⟨k _ _ _,(Mt b u q n m y).mono ?_⟩;rintro a' w' ⟨v',rfl,ρ',z,j,t⟩;exact⟨ρ',z,(f.mono z.le).put j _,t⟩
    ·cases h
   | rcv=>
    rw[b]at h;dsimp only at h
    cases B:fr.bI with
    | false=>rw[B]at h;cases h
    | true=>
     rw[B]at h
     cases h
     refine⟨by rw[k];exact B,Ai u q ?_ ⟨ρ,Ext.refl _ _ _,f.put (v:=.lV) (v':=.nilIface) rfl _,y⟩⟩
     cases p:o.op<;>rw[p]at b<;>try (cases b;done)
     case call c=>
      unfold fB at b
      split at b
      all_goals first | (cases b;done) | skip
      rename_i C
      cases C
      simp only[bv,p];rfl
   | bI=>
    rw[b]at h;dsimp only at h
    cases j:rf o.op with
    | false=>rw[j]at h;cases h
    | true=>
     rw[j]at h;dsimp only[cond]at h
     split at h
     ·rename_i g E cap l
      cases h
      refine⟨k _ _ _,tY u q ?_⟩
      cases p:o.op<;>rw[p]at j m<;>try (cases j;done)
      case defer c=>
       unfold rf at j;dsimp only at j
       split at j
       ·rename_i x L
        have e:(Op.defer c).operands.toList.map a.eval=a.eval x::c.args.toList.map a.eval:=by
         simp[cY,dJ,L]
        rw[e]at m;obtain⟨fv,ws,⟨N,Q,h1,h2,F⟩,H,e2⟩:=m
        cases e2
        unfold Oper.wp;simp only[bv,p,il,L,F,kW]
        have B:kR ρ nt { fr with d:=⟨g,cap,E++l⟩::fr.d } { a with defers:= { target:=.fn g ⟨Q⟩,args:=(⟨N⟩:Array Z)++c.args.map a.eval } ::a.defers }:=by
         refine⟨f.size,f.t,_,_,⟨Q,N++c.args.toList.map a.eval,h2,cq.append h1 H,?_⟩,f.d,rfl⟩
         congr 1
         apply cg;simp
        exact⟨ρ,Ext.refl _ _ _,B.put K _,y⟩
       ·cases j
     ·cases h
theorem Framed.iff{α:Type}{m g:S→Rs α}(hm:Framed m)(e:∀s b s',g s=.ok b s'↔m s=.ok b s'):Framed g:=by
 intro s b s' h;obtain⟨c,r,v,d,f,i,j⟩:=hm s b s' ((e _ _ _).mp h);refine⟨c,r,v,d,f,i,fun k l n o=>?_⟩;obtain⟨a,p,q⟩:=j k l n o;exact⟨a,(e _ _ _).mpr p,q⟩
theorem nf{cf:bR}(d:iD cf)(ops:Array aH)(o:aH)(fr:Fr):Framed (c_ P nt ops o cf fr):=by
 have a:∀c,Framed (fun s=>match (gQ P o.op).run cf c s with | .ok v s=> .ok (fr.put nt o.dst v) s | .no why=> .no (why++ " @ " ++o.pos)):=by
  intro c;refine Framed.iff (m:=fun s=>gq ((gQ P o.op).run cf c s) fun v s=> .ok (fr.put nt o.dst v) s) (Framed.bind (f:=fun v s=> .ok (fr.put nt o.dst v) s) (tX d o.op c) fun _=> .ok _) ?_;intro s b e
  cases (gQ P o.op).run cf c s<;>simp[gq]
 unfold c_;refine .cond _ ?_ (.ok _)
 split
 ·exact .no _
 ·dsimp only[nO]
  split
  ·exact a _
  ·exact a _
  ·refine .cond _ ?_ (.no _)
   split
   ·exact .ok _
   ·exact .no _
  ·exact .cond _ (.ok _) (.no _)
end
end Go.Ev
namespace Go.Ev
open Go.RowKit (Below)
def Mu:X→Exit
 | .gI=> .normal
 | .exit a=> .exit a
 | .ret=> .ret
theorem ib.left{ρ:Env}{a b c:Nat}(h:ib ρ a c)(e:b≤c):ib ρ a b:=fun d x y=>h d x bf
theorem ib.right{ρ ρ':Env}{a b c:Nat}(h:ib ρ a c)(f:a≤b)(e:Ext ρ ρ' a b):ib ρ' b c:=fun d x y=>e.new d (h d bf y) (.inr x)
def yW(P:aQ)(bI:Bool)(c:lO)(a:Act)(w:V)(R:Exit→Act→V→Prop):Prop:=
 ∀(b:j9)(k:List Item)(cs:List j9),Ctx bI b cs→∃e d f,R e d f∧Arrives P (lone (b.at a (.code c::k)) cs w) b k cs e d f
def Ir(P:aQ)(bI:Bool)(ops:Array aH)(is:List Nat)(a:Act)(w:V)(R:Act→V→Prop):Prop:=
 ∀(b:j9)(k:List Item)(cs:List j9),Ctx bI b cs→∃c d,R c d∧Steps P (lone (b.at a (.inRegion ops is::k)) cs w) (lone (b.at c (.inRegion ops []::k)) cs d)
section
variable {P:aQ} {ρ:Env} {B0 nt:Nat} {w0 w:V} {fr fr':Fr} {a:Act}
theorem yW.mono{bI:Bool}{c:lO}{R f:Exit→Act→V→Prop}(h:yW P bI c a w R)(g:∀e d w',R e d w'→f e d w'):yW P bI c a w f:=by
 intro b k cs i;obtain⟨e,d,w',r,st⟩:=h b k cs i;exact⟨e,d,w',g _ _ _ r,st⟩
theorem Stood.refl{s:S}(f:kR ρ nt fr a)(b:Rel B0 w0 ρ s.h w):Stood B0 w0 ρ nt s fr s a w:=⟨ρ,Ext.refl _ _ _,f,b⟩
structure i2(P:aQ)(nt:Nat)(c:lO)(k:K):Prop where
 framed:∀cf,iD cf→∀fr,Framed (k.run cf fr)
 sound:∀cf,Good P cf→∀fr s x fr' s',k.run cf fr s=.ok (x,fr') s'→∀(B0:Nat)(w0:V)(ρ:Env)(a:Act)(w:V),kR ρ nt fr a→Rel B0 w0 ρ s.h w→ib ρ s.n s'.n→
  yW P fr.bI c a w (fun e a' w'=>e=Mu x∧Stood B0 w0 ρ nt s fr' s' a' w')
 bI:∀cf fr s x fr' s',k.run cf fr s=.ok (x,fr') s'→fr'.bI=fr.bI
theorem pQ{cf:bR}(a:iD cf)(ops:Array aH):∀(l:List aH)(fr:Fr),Framed (kQ P nt ops l cf fr)
 | [],fr=> .ok _
 | o::l,fr=>by
  refine Framed.iff (m:=fun s=>gq (c_ P nt ops o cf fr s) fun fr s=>kQ P nt ops l cf fr s) (Framed.bind (f:=fun fr s=>kQ P nt ops l cf fr s) (nf a ops o fr) fun fr=>pQ a ops l fr) ?_;intro s b c;show(match c_ P nt ops o cf fr s with | .ok fr s=>kQ P nt ops l cf fr s | .no y=> .no y)=_↔_
  cases c_ P nt ops o cf fr s<;>simp[gq]
theorem Bg{cf:bR}{ops:Array aH}{o:aH}{s s':S}(h:c_ P nt ops o cf fr s=.ok fr' s'):fr'.bI=fr.bI:=by
 have a:∀(x:Fr) d v,(x.put nt d v).bI=x.bI:=by
  intro x d v;unfold Fr.put;cases d with
  | none=>rfl
  | some d=>dsimp only;cases bM d nt<;>rfl
 unfold c_ at h
 cases b:gj ops o fr.t with
 | false=>rw[b]at h;cases h;exact a _ _ _
 | true=>
  rw[b]at h;dsimp only[cond]at h
  split at h
  ·cases h
  ·split at h
   ·split at h
    ·cases h;exact a _ _ _
    ·cases h
   ·split at h
    ·cases h;exact a _ _ _
    ·cases h
   ·split at h
    ·split at h
     ·cases h;exact a _ _ _
     ·cases h
    ·cases h
   ·split at h
    ·rename_i c
     cases h;rw[a]
    ·cases h
theorem tZ{cf:bR}{ops:Array aH}{x:X}:∀{l:List aH}{fr fr':Fr}{s s':S},kQ P nt ops l cf fr s=.ok (x,fr') s'→x=.gI∧fr'.bI=fr.bI
 | [],_,_,_,_,h=>by cases h;exact⟨rfl,rfl⟩
 | o::l,fr,fr',s,s',h=>by
  have h:(match c_ P nt ops o cf fr s with | .ok fr s=>kQ P nt ops l cf fr s | .no y=> .no y)=.ok (x,fr') s':=h
  cases a:c_ P nt ops o cf fr s with
  | no y=>rw[a]at h;cases h
  | ok b e=>
   rw[a]at h;obtain⟨c,d⟩:=tZ h;exact⟨c,by rw[d,Bg a]⟩
theorem v8{cf:bR}(n:Good P cf){ops:Array aH}:∀(l:List aH)(i:Nat)(fr:Fr)(s:S)(x:X)(fr':Fr)(s':S),ops.toList.drop i=l→kQ P nt ops l cf fr s=.ok (x,fr') s'→
  ∀(ρ:Env)(a:Act)(w:V),kR ρ nt fr a→Rel B0 w0 ρ s.h w→ib ρ s.n s'.n→x=.gI∧fr'.bI=fr.bI∧Ir P fr.bI ops (zy i l.length) a w (Stood B0 w0 ρ nt s fr' s')
 | [],i,fr,s,x,fr',s',_,h,ρ,a,w,f,r,t=>by
  cases h
  exact⟨rfl,rfl,fun b k cs _=>⟨a,w,Stood.refl f r,.refl _ _⟩⟩
 | o::l,i,fr,s,x,fr',s',E,h,ρ,a,w,f,r,t=>by
  have N:ops[i]?=I o:=by
   have:ops.toList[i]?=I o:=by
    have:=congrArg (·[0]?) E;simpa using this
   simpa using this
  have u:ops.toList.drop (i+1)=l:=by
   have:=congrArg (·.drop 1) E;simpa[Nat.add_comm]using this
  have h:(match c_ P nt ops o cf fr s with | .ok fr s=>kQ P nt ops l cf fr s | .no y=> .no y)=.ok (x,fr') s':=h
  cases p:c_ P nt ops o cf fr s with
  | no y=>rw[p]at h;cases h
  | ok d g=>
   rw[p]at h;dsimp only at h;have F:=(nf n.framed ops o fr s d g p).1;have H:=(pQ n.framed ops l d g _ s' h).1;obtain⟨m,v⟩:=vZ n N f r p (t.left H)
   have key:∀c a1 j,Ext ρ c s.n g.n→kR c nt d a1→Rel B0 w0 c g.h j→x=.gI∧fr'.bI=d.bI∧Ir P d.bI ops (zy (i+1) l.length) a1 j (Stood B0 w0 c nt g fr' s'):=
    fun c a1 j q f1 e=>v8 n l (i+1) d g x fr' s' u h c a1 j f1 e (t.right F q)
   have K:=tZ h;refine⟨K.1,by rw[K.2,m],?_⟩;intro b k cs L;obtain⟨a1,j,⟨c,q,f1,e⟩,Q⟩:=v b k cs (zy (i+1) l.length) L;obtain⟨_,_,R⟩:=key c a1 j q f1 e;obtain⟨a2,T,⟨z,B,f2,C⟩,W⟩:=R b k cs (by rw[m];exact L);exact⟨a2,T,⟨z,q.trans B F H,f2,C⟩,kq Q W⟩
end
end Go.Ev
namespace Go.Ev
open Go.RowKit (Below)
section
variable {P:aQ} {ρ:Env} {B0 nt:Nat} {w0 w:V} {fr fr':Fr} {a:Act}
theorem i2.no{c:lO}(a:String):i2 P nt c ⟨fun _ _ _=> .no a⟩:=
 by
 refine⟨fun _ _ _=> .no _,?_,?_⟩
 ·intro _ _ _ _ _ _ _ h;cases h
 ·intro _ _ _ _ _ _ h;cases h
theorem i2.still{c:lO}{x:X}(h:∀bI (a:Act)(w:V),yW P bI c a w (fun e b w'=>e=Mu x∧b=a∧w'=w)):i2 P nt c ⟨fun _ fr s=> .ok (x,fr) s⟩:=by
 refine⟨fun _ _ _=> .ok _,?_,fun _ _ _ _ _ _ h=>by cases h;rfl⟩;intro cf _ fr s j fr' k d B0 w0 ρ a w f g l
 cases d
 refine(h _ a w).mono ?_;rintro e b w' ⟨i,rfl,rfl⟩;exact⟨i,Stood.refl f g⟩
theorem i2.Mv(id:Nat)(ops:Array aH):i2 P nt (.region id ops U) ⟨fun cf fr s=>kQ P nt ops ops.toList cf fr s⟩:=by
 refine⟨fun cf d fr=>pQ d ops _ fr,?_,fun cf fr s x fr' c h=>(tZ h).2⟩;intro cf e fr s x fr' c h B0 w0 ρ a w f g i;obtain⟨j,p,l⟩:=v8 e ops.toList 0 fr s x fr' c dR h ρ a w f g i;subst j;intro b k cs m;obtain⟨n,o,r,st⟩:=l b k cs m;refine⟨.normal,n,o,⟨rfl,r⟩,.head step_region ?_⟩;rw[List.range_eq_range'];exact kq st (.one step_region_end)
theorem i2.seq{c d:lO}{x y:K}(o:i2 P nt c x)(E:i2 P nt d y):i2 P nt (.seq c d) ⟨fun cf fr s=>match x.run cf fr s with
  | .ok (.gI,fr) s=>y.run cf fr s
  | r=>r⟩:=by
 refine⟨?_,?_,?_⟩
 ·intro cf X fr
  refine Framed.iff (m:=fun s=>gq (x.run cf fr s) fun p s=>match p with | (.gI,fr)=>y.run cf fr s | p=> .ok p s) (Framed.bind (f:=fun p s=>match p with | (.gI,fr)=>y.run cf fr s | p=> .ok p s) (o.framed cf X fr) fun p=>?_) ?_
  ·obtain⟨e,g⟩:=p
   cases e with
   | gI=>exact E.framed cf X g
   | exit i=>exact .ok _
   | ret=>exact .ok _
  ·intro s p v
   dsimp only
   cases x.run cf fr s with
   | no _=>simp[gq]
   | ok q n=>obtain⟨e,g⟩:=q;cases e<;>simp[gq]
 ·intro cf t fr s e fr' v h B0 w0 ρ a w f H F
  dsimp only at h
  cases j:x.run cf fr s with
  | no _=>rw[j]at h;cases h
  | ok q n=>
   obtain⟨L,g⟩:=q;rw[j]at h;have h1:=(o.framed cf t.framed fr s _ n j).1;have z:=o.bI cf fr s _ g n j
   cases L with
   | gI=>
    dsimp only at h;have h2:=(E.framed cf t.framed g n _ v h).1;have B:=o.sound cf t fr s _ g n j B0 w0 ρ a w f H (F.left h2);intro b k cs u;obtain⟨_,a1,C,⟨rfl,N,he,f1,Q⟩,l⟩:=B b (.code d::k) cs u;have t2:=E.sound cf t g n e fr' v h B0 w0 N a1 C f1 Q (F.right h1 he);obtain⟨e2,a2,w2,⟨rfl,R,S,f2,T⟩,W⟩:=t2 b k cs (by rw[z];exact u);exact⟨_,a2,w2,⟨rfl,R,he.trans S h1 h2,f2,T⟩,.of_steps (.head step_seq l) W⟩
   | exit i=>
    cases h
    have B:=o.sound cf t fr s _ _ _ j B0 w0 ρ a w f H F;intro b k cs u;obtain⟨_,a1,C,⟨rfl,r⟩,l⟩:=B b (.code d::k) cs u;exact⟨_,a1,C,⟨rfl,r⟩,.of_steps (.one step_seq) (.pass (x:=.code d) rfl (fun _ _=> .inl (by simp[Mu])) l)⟩
   | ret=>
    cases h
    have B:=o.sound cf t fr s _ _ _ j B0 w0 ρ a w f H F;intro b k cs u;obtain⟨_,a1,C,⟨rfl,r⟩,l⟩:=B b (.code d::k) cs u;exact⟨_,a1,C,⟨rfl,r⟩,.of_steps (.one step_seq) (.pass (x:=.code d) rfl (fun _ _=> .inl (by simp[Mu])) l)⟩
 ·intro cf fr s e fr' v h
  dsimp only at h
  cases j:x.run cf fr s with
  | no _=>rw[j]at h;cases h
  | ok q n=>
   obtain⟨L,g⟩:=q;rw[j]at h;have z:=o.bI cf fr s _ g n j
   cases L with
   | gI=>rw[E.bI cf g n e fr' v h,z]
   | exit i=>cases h;exact z
   | ret=>cases h;exact z
theorem i2.ite{o:aP}{c d:lO}{x y:K}(j:i2 P nt c x)(l:i2 P nt d y):i2 P nt (.cond o c d) ⟨fun cf fr s=>match Df fr.t o with
  | some (.bool true)=>x.run cf fr s
  | some (.bool false)=>y.run cf fr s
  | _=> .no "cond"⟩:=by
 refine⟨?_,?_,?_⟩
 ·intro cf t fr
  dsimp only
  split
  ·exact j.framed cf t fr
  ·exact l.framed cf t fr
  ·exact .no _
 ·intro cf u fr s e fr' i h B0 w0 ρ a w f v z
  dsimp only at h
  split at h
  ·rename_i g
   have m:a.eval o=.bool true:=xb f g;intro b k cs n;obtain⟨e,p,q,r,st⟩:=j.sound cf u fr s e fr' i h B0 w0 ρ a w f v z b k cs n;exact⟨e,p,q,r,.of_steps (.one (step_cond m)) st⟩
  ·rename_i g
   have m:a.eval o=.bool false:=xb f g;intro b k cs n;obtain⟨e,p,q,r,st⟩:=l.sound cf u fr s e fr' i h B0 w0 ρ a w f v z b k cs n;exact⟨e,p,q,r,.of_steps (.one (step_cond m)) st⟩
  ·cases h
 ·intro cf fr s e fr' i h
  dsimp only at h
  split at h
  ·exact j.bI cf fr s e fr' i h
  ·exact l.bI cf fr s e fr' i h
  ·cases h
theorem i2.block{id:Nat}{c:lO}{x:K}(u:i2 P nt c x):i2 P nt (.block id c) ⟨fun cf fr s=>match x.run cf fr s with
  | .ok (.exit i,fr) s=>cond (ak i id) (.ok (.gI,fr) s) (.ok (.exit i,fr) s)
  | r=>r⟩:=by
 refine⟨?_,?_,?_⟩
 ·intro cf L fr
  refine Framed.iff (m:=fun s=>gq (x.run cf fr s) fun p s=>match p with | (.exit i,fr)=>cond (ak i id) (.ok (.gI,fr) s) (.ok (.exit i,fr) s) | p=> .ok p s) (Framed.bind (f:=fun p s=>match p with | (.exit i,fr)=>cond (ak i id) (.ok (.gI,fr) s) (.ok (.exit i,fr) s) | p=> .ok p s) (u.framed cf L fr) fun p=>?_) ?_
  ·obtain⟨e,j⟩:=p
   cases e with
   | gI=>exact .ok _
   | exit i=>exact .cond _ (.ok _) (.ok _)
   | ret=>exact .ok _
  ·intro s p H
   dsimp only
   cases x.run cf fr s with
   | no _=>simp[gq]
   | ok q C=>obtain⟨e,j⟩:=q;cases e<;>simp[gq]
 ·intro cf y fr s e fr' H h B0 w0 ρ a w f z B
  dsimp only at h
  cases g:x.run cf fr s with
  | no _=>rw[g]at h;cases h
  | ok q C=>
   obtain⟨E,j⟩:=q;rw[g]at h
   cases E with
   | gI=>
    cases h
    have n:=u.sound cf y fr s _ _ _ g B0 w0 ρ a w f z B;intro b k cs o;obtain⟨_,a1,t,⟨rfl,r⟩,d⟩:=n b (.inBlock id::k) cs o;exact⟨.normal,a1,t,⟨rfl,r⟩,.head uW (kq d (.one step_inBlock))⟩
   | exit i=>
    dsimp only at h;rw[DC]at h;by_cases l:i=id
    ·rw[decide_eq_true l]at h
     cases h
     have n:=u.sound cf y fr s _ _ _ g B0 w0 ρ a w f z B;intro b k cs o;obtain⟨_,a1,t,⟨rfl,r⟩,d⟩:=n b (.inBlock id::k) cs o;exact⟨.normal,a1,t,⟨rfl,r⟩,.head uW (d k (by simp[exitTo,l]))⟩
    ·rw[decide_eq_false l]at h
     cases h
     have n:=u.sound cf y fr s _ _ _ g B0 w0 ρ a w f z B;intro b k cs o;obtain⟨_,a1,t,⟨rfl,r⟩,d⟩:=n b (.inBlock id::k) cs o;refine⟨.exit i,a1,t,⟨rfl,r⟩,fun N Q=> .head uW (d N ?_)⟩;have:(id==i)=U:=by simp;exact fun h=>l h.symm
     simp[exitTo,this,Q]
   | ret=>
    cases h
    have n:=u.sound cf y fr s _ _ _ g B0 w0 ρ a w f z B;intro b k cs o;obtain⟨_,a1,t,⟨rfl,r⟩,d⟩:=n b (.inBlock id::k) cs o;obtain⟨v,st⟩:=d;exact⟨.ret,a1,t,⟨rfl,r⟩,v,.head uW st⟩
 ·intro cf fr s e fr' H h
  dsimp only at h
  cases g:x.run cf fr s with
  | no _=>rw[g]at h;cases h
  | ok q C=>
   obtain⟨E,j⟩:=q;rw[g]at h;have F:=u.bI cf fr s _ j C g
   cases E with
   | gI=>cases h;exact F
   | exit i=>
    dsimp only at h
    cases R:ak i id<;>rw[R]at h<;>cases h<;>exact F
   | ret=>cases h;exact F
end
end Go.Ev
namespace Go.Ev
open Go.RowKit (Below)
section
variable {P:aQ} {ρ:Env} {B0 nt:Nat} {w0 w:V} {fr fr':Fr} {a:Act}
theorem qM{c:lO}{x:K}(b:i2 P nt c x){cf:bR}(d:iD cf):∀(n:Nat)(fr:Fr),Framed (mZ x n cf fr)
 | 0,fr=> .no _
 | n+1,fr=>by
  refine Framed.iff (m:=fun s=>gq (x.run cf fr s) fun p s=>match p with | (.gI,fr)=>mZ x n cf fr s | p=> .ok p s) (Framed.bind (f:=fun p s=>match p with | (.gI,fr)=>mZ x n cf fr s | p=> .ok p s) (b.framed cf d fr) fun p=>?_) ?_
  ·obtain⟨e,a⟩:=p
   cases e with
   | gI=>exact qM b d n a
   | exit i=>exact .ok _
   | ret=>exact .ok _
  ·intro s p g
   show(match x.run cf fr s with | .ok (.gI,fr) s=>mZ x n cf fr s | r=>r)=_↔_
   cases x.run cf fr s with
   | no _=>simp[gq]
   | ok q h=>obtain⟨e,a⟩:=q;cases e<;>simp[gq]
theorem DX{c:lO}{x:K}(f:i2 P nt c x){cf:bR}:∀(n:Nat)(fr:Fr)(s:S)(e:X)(fr':Fr)(s':S),mZ x n cf fr s=.ok (e,fr') s'→fr'.bI=fr.bI
 | 0,_,_,_,_,_,h=>by cases h
 | n+1,fr,s,e,fr',s',h=>by
  have h:(match x.run cf fr s with | .ok (.gI,fr) s=>mZ x n cf fr s | r=>r)=.ok (e,fr') s':=h
  cases b:x.run cf fr s with
  | no _=>rw[b]at h;cases h
  | ok q g=>
   obtain⟨j,a⟩:=q;rw[b]at h;have d:=f.bI cf fr s _ a g b
   cases j with
   | gI=>rw[DX f n a g e fr' s' h,d]
   | exit i=>cases h;exact d
   | ret=>cases h;exact d
theorem yX{c:lO}{x:K}(j:i2 P nt c x){cf:bR}(m:Good P cf):∀(n:Nat)(fr:Fr)(s:S)(e:X)(fr':Fr)(s':S),mZ x n cf fr s=.ok (e,fr') s'→
  ∀(ρ:Env)(a:Act)(w:V),kR ρ nt fr a→Rel B0 w0 ρ s.h w→ib ρ s.n s'.n→∀(b:j9)(k:List Item)(cs:List j9),Ctx fr.bI b cs→
   ∃L N w',(L=Mu e∧Stood B0 w0 ρ nt s fr' s' N w')∧Arrives P (lone (b.at a (.code c:: .inLoop c::k)) cs w) b k cs L N w'
 | 0,_,_,_,_,_,h=>by cases h
 | n+1,fr,s,e,fr',s',h=>by
  intro ρ a w f y u b k cs v;have h:(match x.run cf fr s with | .ok (.gI,fr) s=>mZ x n cf fr s | r=>r)=.ok (e,fr') s':=h
  cases l:x.run cf fr s with
  | no _=>rw[l]at h;cases h
  | ok q o=>
   obtain⟨W,g⟩:=q;rw[l]at h;have Q:=(j.framed cf m.framed fr s _ o l).1;have d1:=j.bI cf fr s _ g o l
   cases W with
   | gI=>
    dsimp only at h;have R:=(qM j m.framed n g o _ s' h).1;have p:=j.sound cf m fr s _ g o l B0 w0 ρ a w f y (u.left R);obtain⟨_,a1,t,⟨rfl,z,T,f1,B⟩,d⟩:=p b (.inLoop c::k) cs v;obtain⟨e2,a2,w2,⟨rfl,C,E,f2,F⟩,H⟩:=yX j m n g o e fr' s' h z a1 t f1 B (u.right Q T) b k cs (by rw[d1];exact v);exact⟨_,a2,w2,⟨rfl,C,T.trans E Q R,f2,F⟩,.of_steps (kq d (.one step_inLoop)) H⟩
   | exit i=>
    cases h
    have p:=j.sound cf m fr s _ _ _ l B0 w0 ρ a w f y u;obtain⟨_,a1,t,⟨rfl,r⟩,d⟩:=p b (.inLoop c::k) cs v;exact⟨_,a1,t,⟨rfl,r⟩,.pass (x:=.inLoop c) rfl (fun _ _=> .inl (by simp[Mu])) d⟩
   | ret=>
    cases h
    have p:=j.sound cf m fr s _ _ _ l B0 w0 ρ a w f y u;obtain⟨_,a1,t,⟨rfl,r⟩,d⟩:=p b (.inLoop c::k) cs v;exact⟨_,a1,t,⟨rfl,r⟩,.pass (x:=.inLoop c) rfl (fun _ _=> .inl (by simp[Mu])) d⟩
theorem i2.loop{c:lO}{x:K}(d:i2 P nt c x)(n:Nat):i2 P nt (.loop c) ⟨fun cf fr s=>mZ x n cf fr s⟩:=by
 refine⟨fun cf i fr=>qM d i n fr,?_,fun cf fr s e fr' g h=>DX d n fr s e fr' g h⟩;intro cf j fr s e fr' g h B0 w0 ρ a w f l m b k cs o;obtain⟨p,q,t,r,st⟩:=yX d j n fr s e fr' g h ρ a w f l m b k cs o;exact⟨p,q,t,r,.of_steps (.one step_loop) st⟩
theorem kF(d:∀(id:Nat)(ops:Array aH),i2 P nt (.region id ops true) (oC P nt ops true)):∀c:lO,i2 P nt c (iL P nt c)
 | .skip=>i2.still fun _ a w _ _ _ _=>⟨.normal,a,w,⟨rfl,rfl,rfl⟩,.one step_skip⟩
 | .label _=>i2.still fun _ a w _ _ _ _=>⟨.normal,a,w,⟨rfl,rfl,rfl⟩,.one step_label⟩
 | .region id ops true=>d id ops
 | .region id ops false=>i2.Mv id ops
 | .seq a b=>i2.seq (kF d a) (kF d b)
 | .cond o a b=>i2.ite (kF d a) (kF d b)
 | .block id c=>i2.block (kF d c)
 | .loop c=>i2.loop (kF d c) 1000000
 | .exit id=>i2.still fun _ a w _ _ _ _=>⟨.exit id,a,w,⟨rfl,rfl,rfl⟩,fun _ e=> .one (step_exit e)⟩
 | .ret=>i2.still fun _ a w _ _ _ _=>⟨.ret,a,w,⟨rfl,rfl,rfl⟩,_,.one step_ret⟩
 | .scope _=>i2.no _
 | .goto _=>i2.no _
 | .rangeFunc .. =>i2.no _
 | .refuse _=>i2.no _
end
end Go.Ev
namespace Go.Ev
open Go.RowKit (Below)
section
variable {P:aQ} {ρ:Env} {B0 nt:Nat} {w0 w:V} {fr fr':Fr} {a:Act}
theorem DY{t b i:Nat}{s s':S}{v:Y}{B κ:Nat}(f:cF P t=O)(a:mg (fc P t) (sizeT P t) b i s=.ok v s')(r:Rel B0 w0 ρ s.h w)(j:ρ b=I (B,κ)):
  s'.h=s.h∧s'.n=s.n∧∃u,(vb t ⟨B,i,J⟩).run P w=.ok u w∧VR ρ v u:=by
 unfold mg at a
 cases d:fc P t with
 | true=>
  rw[d]at a;obtain⟨c,op,l,m,n,e⟩:=jD a
  cases e
  obtain⟨o,g,_,k,_⟩:=jx (P:=P) (r.row m j) n;refine⟨rfl,rfl,.agg ⟨o⟩,?_,o,g,rfl⟩;simp[vb,nP f,d,eC f,k]
 | false=>
  rw[d]at a;obtain⟨c,op,l,m,n,e⟩:=jD a;obtain⟨o,g,x,k,h⟩:=jx (P:=P) (r.row m j) n
  match l,e with
  | [q],e=>
   cases e
   obtain⟨u,C,z,p,rfl⟩:=g
   cases p
   have y:=h 0 u rfl;refine⟨rfl,rfl,u,?_,z⟩;simp only[Nat.add_zero]at y;simp[vb,nP f,d,y]
  | [],e=>cases e
  | _::_::_,e=>cases e
def Mw:List Y→Y
 | [v]=>v
 | l=> .dS l
def Ny(b:Array Z):lB→Sem Z
 | .tmp t=>pure (b.getD t fq)
 | .cell a t=>do vb t (←asAddr (b.getD a fq))
theorem t_(f:kR ρ nt fr a):∀(l:List lB)(c:List Y)(s:S)(v:Y)(s':S),hD P fr.t l c s=.ok v s'→Rel B0 w0 ρ s.h w→
  s'.h=s.h∧s'.n=s.n∧∃e g,(l.mapM (Ny a.tmps)).run P w=.ok g w∧cq ρ e g∧v=Mw (c.reverse++e)
 | [],c,s,v,s',h,j=>by
  unfold hD at h;refine⟨?_,?_,[],[],by simp,rfl,?_⟩
  all_goals
   split at h
   ·cases h;simp[Mw]
   ·rename_i k
    cases h
    first
    | rfl
    | (simp only[eH]
       unfold Mw
       split
       ·rename_i x m
        exact absurd (by rw[←List.reverse_reverse c,m];rfl) (k x)
       ·rfl)
 | .tmp i::l,c,s,v,s',h,j=>by
  have h:hD P fr.t l (fr.t i::c) s=.ok v s':=h;obtain⟨n,o,e,g,p,q,r⟩:=t_ f l _ s v s' h j;refine⟨n,o,fr.t i::e,a.tmps.getD i fq::g,?_,⟨_,_,f.t i,q,rfl⟩,by rw[r];simp⟩;simp[List.mapM_cons,Ny,p]
 | .cell i E::l,c,s,v,s',h,j=>by
  unfold hD at h
  split at h
  ·rename_i b F H
   cases d:cF P E with
   | false=>rw[d]at h;cases h
   | true=>
    rw[d]at h;dsimp only[cond]at h
    split at h
    ·rename_i x K m
     have z:=f.t i;rw[H]at z;obtain⟨B,κ,t,L⟩:=z;obtain⟨C,N,u,Q,y⟩:=DY d m j t;obtain⟨n,o,e,g,p,q,r⟩:=t_ f l _ K v s' h (by rw[C];exact j);refine⟨n.trans C,o.trans N,x::e,u::g,?_,⟨_,_,y,q,rfl⟩,by rw[r];simp⟩;simp[List.mapM_cons,Ny,L,asAddr,Q,p]
    ·cases h
  ·cases h
theorem ub(f:kR ρ nt fr a){fn:Func}{s s':S}{v:Y}(h:hD P fr.t fn.results.toList [] s=.ok v s')(j:Rel B0 w0 ρ s.h w):
  s'.h=s.h∧s'.n=s.n∧∃u,(results fn a.tmps).run P w=.ok u w∧VR ρ v u:=by
 obtain⟨k,m,n,b,o,c,p⟩:=t_ f _ _ s v s' h j;refine⟨k,m,(if z:(⟨b⟩:Array Z).size=1 then(⟨b⟩:Array Z)[0]else .tuple ⟨b⟩),?_,?_⟩
 ·have e:results fn a.tmps=(do let d ←fn.results.mapM (Ny a.tmps);pure (if h:d.size=1 then d[0]else .tuple d)):=rfl
  rw[e,Array.mapM_eq_mapM_toList];simp[o]
 ·subst p
  simp only[List.reverse_nil,List.nil_append]
  match n,b,c with
  | [],_,c=>cases c;exact⟨[],rfl,rfl⟩
  | [x],_,⟨u,_,g,q,e⟩=>cases q;subst e;exact g
  | x::y::l,_,⟨u,_,g,⟨u2,i,r,t,rfl⟩,e⟩=>subst e;exact⟨_,⟨u,_,g,⟨u2,i,r,t,rfl⟩,rfl⟩,rfl⟩
theorem yY{a:List Y}{vs:List Z}{bI:Bool}(h:cq ρ a vs)(g:a.length≤nt):kR ρ nt ⟨tO a,[],bI⟩ { tmps:=(⟨vs⟩:Array Z)++dP (nt-(⟨vs⟩:Array Z).size) fq,defers:=[] }:=by
 have j:=cq.len h;refine⟨by simp;omega,?_,rfl⟩;intro i;show VR ρ (a.getD i cE) _;rw[cv,Array.getElem?_append];by_cases hi:i<vs.length
 ·rw[if_pos (by simpa using hi)]
  have:∀(a:List Y)(vs:List Z)(i:Nat),cq ρ a vs→VR ρ (a.getD i cE) (vs[i]?.getD fq):=by
   intro a
   induction a with
   | nil=>intro vs i h;cases h;simp;exact⟨[],rfl,rfl⟩
   | cons x l b=>
    intro vs i h;obtain⟨v,c,d,e,rfl⟩:=h
    cases i with
    | zero=>exact d
    | succ i=>simpa using b c i e
  simpa using this a vs i h
 ·rw[if_neg (by simpa using hi)]
  have f:a.getD i cE=cE:=by
   rw[List.getD_eq_getElem?_getD,List.getElem?_eq_none bf];rfl
  rw[f,Array.getElem?_replicate]
  split<;>exact⟨[],rfl,rfl⟩
end
end Go.Ev
namespace Go.Ev
open Go.RowKit (Below)
structure Is(P:aQ)(cd:bR):Prop where
 framed:∀f av,Framed (cd f av)
 ok:∀f av s v s',cd f av s=.ok v s'→∃fn c,P.funcs[f]?=I fn∧fn.body=I c∧(fn.name== "runtime.NumGoroutine")=U
 calls:∀f av s v s',cd f av s=.ok v s'→∀(B0:Nat)(w0:V)(ρ:Env)(w:V)(vs:List Z),cq ρ av vs→Rel B0 w0 ρ s.h w→ib ρ s.n s'.n→
  CallsD P f ⟨vs⟩ .returning w (fun e u' w'=>u'=.returning∧∃v',e=.returned v'∧Done B0 w0 ρ s v s' v' w')
section
variable {P:aQ} {ρ:Env} {B0 nt:Nat} {w0 w:V} {fr fr':Fr} {a:Act}
theorem ko(t:Nat→Y):∀(l:List lB)(a:List Y),Framed (hD P t l a)
 | [],a=>by
  show Framed (fun s=>match a with | [v]=> .ok v s | _=> .ok (.dS a.reverse) s)
  split
  ·exact .ok _
  ·exact .ok _
 | .tmp i::l,a=>ko t l _
 | .cell i d::l,a=>by
  show Framed (fun s=>match t i with
   | .ptr b c=>cond (cF P d) (match mg (fc P d) (sizeT P d) b c s with | .ok v s=>hD P t l (v::a) s | .no w=> .no w) (.no "result type")
   | _=> .no "result: no pointer")
  split
  ·rename_i b c e
   refine .cond _ ?_ (.no _);refine Framed.iff (m:=fun s=>gq (mg (fc P d) (sizeT P d) b c s) fun v s=>hD P t l (v::a) s) (Framed.bind (f:=fun v s=>hD P t l (v::a) s) (Framed.mg _ _ _ _) fun v=>ko t l _) ?_;intro s v g
   cases mg (fc P d) (sizeT P d) b c s<;>simp[gq]
  ·exact .no _
theorem ma{cd:bR}(a:iD cd){k:S→RV}(b:Framed k):∀l:List nx,Framed (fun s=>ii cd l s k)
 | []=>b
 | d::l=>by
  show Framed (fun s=>match d.f with
   | .func g=>(match cd g (d.args++d.cap) s with | .ok _ s=>ii cd l s k | .no w=> .no w)
   | _=> .no "defer of what")
  split
  ·rename_i g c
   refine Framed.iff (m:=fun s=>gq (cd g (d.args++d.cap) s) fun _ s=>ii cd l s k) (Framed.bind (f:=fun _ s=>ii cd l s k) (a g _) fun _=>ma a b l) ?_;intro s v e
   cases cd g (d.args++d.cap) s<;>simp[gq]
  ·exact .no _
theorem J1{f:Nat}{b:FK}(h:(L3 P f).k=I b):∃fn c,P.funcs[f]?=I fn∧fn.body=I c∧(fn.name== "runtime.NumGoroutine")=U∧b=⟨fn.ntmps,iL P fn.ntmps c,fn.results.toList⟩:=by
 unfold L3 at h;dsimp only at h
 split at h
 ·rename_i fn d
  split at h
  ·rename_i c e
   cases a:(fn.name== "runtime.NumGoroutine")with
   | true=>rw[a]at h;cases h
   | false=>rw[a]at h;cases h;exact⟨fn,c,d,e,a,rfl⟩
  ·cases h
 ·cases h
theorem qt{cf cd:bR}{bI:Bool}{f:Nat}{d:List Y}{s s':S}{v:Y}(h:iM P cf cd bI f d s=.ok v s'):
  ∃fn c,P.funcs[f]?=I fn∧fn.body=I c∧(fn.name== "runtime.NumGoroutine")=U∧d.length≤fn.ntmps∧
   ∃x fr a,(iL P fn.ntmps c).run cf ⟨tO d,[],bI⟩ s=.ok (x,fr) a∧(x=.gI∨x=.ret)∧
    (cond bI (match fr.d with | []=>hD P fr.t fn.results.toList [] a | _=> .no "defer within a deferred call") (ii cd fr.d a fun s=>hD P fr.t fn.results.toList [] s))=.ok v s':=by
 unfold iM at h
 split at h
 ·cases h
 ·rename_i n g
  obtain⟨fn,c,j,k,l,rfl⟩:=J1 g;refine⟨fn,c,j,k,l,?_⟩;dsimp only at h
  cases e:aG d.length fn.ntmps with
  | false=>rw[e]at h;cases h
  | true=>
   rw[e]at h;refine⟨by simpa[Nat.ble_eq]using e,?_⟩;dsimp only[cond]at h
   split at h
   ·cases h
   ·cases h
   ·rename_i x fr a m b
    refine⟨x,fr,a,b,?_,h⟩
    cases x with
    | gI=>exact .inl rfl
    | ret=>exact .inr rfl
    | exit i=>exact absurd rfl (m i)
end
end Go.Ev
namespace Go.Ev
section
variable {P:aQ}
theorem ue(a:∀(nt id:Nat)(ops:Array aH),i2 P nt (.region id ops O) (oC P nt ops O)){cf cd:bR}(g:iD cf)(h:iD cd)(bI:Bool)(f:Nat)(d:List Y):Framed (iM P cf cd bI f d):=by
 cases e:(L3 P f).k with
 | none=>
  refine Framed.iff (m:=fun _=> .no "") (.no _) fun s b j=>?_
  unfold iM;rw[e];simp
 | some k=>
  obtain⟨fn,c,l,n,o,rfl⟩:=J1 e
  refine Framed.iff (m:=fun s=>cond (aG d.length fn.ntmps) (gq ((iL P fn.ntmps c).run cf ⟨tO d,[],bI⟩ s) fun p s=>match p with
   | (.exit _,_)=> .no "exit"
   | (_,fr)=>cond bI (match fr.d with | []=>hD P fr.t fn.results.toList [] s | _=> .no "defer within a deferred call") (ii cd fr.d s fun s=>hD P fr.t fn.results.toList [] s)) (.no "args")) ?_ ?_
  ·refine .cond _ (Framed.bind (f:=fun p s=>match p with
    | (.exit _,_)=> .no "exit"
    | (_,fr)=>cond bI (match fr.d with | []=>hD P fr.t fn.results.toList [] s | _=> .no "defer within a deferred call") (ii cd fr.d s fun s=>hD P fr.t fn.results.toList [] s)) ((kF (a fn.ntmps) c).framed cf g _) ?_) (.no _)
   have key:∀fr:Fr,Framed (fun s=>cond bI (match fr.d with | []=>hD P fr.t fn.results.toList [] s | _=> .no "defer within a deferred call") (ii cd fr.d s fun s=>hD P fr.t fn.results.toList [] s)):=by
    intro fr;refine .cond _ ?_ (ma h (ko _ _ _) _)
    split
    ·exact ko _ _ _
    ·exact .no _
   rintro⟨x,fr⟩
   cases x with
   | gI=>exact key fr
   | ret=>exact key fr
   | exit i=>exact .no _
  ·intro s b j
   unfold iM;rw[e];dsimp only
   cases aG d.length fn.ntmps with
   | false=>simp
   | true=>
    dsimp only[cond]
    cases (iL P fn.ntmps c).run cf ⟨tO d,[],bI⟩ s with
    | no y=>simp[gq]
    | ok p q=>obtain⟨x,fr⟩:=p;cases x<;>first | exact Iff.rfl | simp[gq]
end
end Go.Ev
namespace Go.Ev
section
variable {P:aQ}
theorem Fc(g:∀(nt id:Nat)(ops:Array aH),i2 P nt (.region id ops O) (oC P nt ops O)){cf cd:bR}(L:Good P cf)(X:iD cd):Is P (iM P cf cd O):=by
 refine⟨ue g L.framed X O,?_,?_⟩
 ·intro f av s v r h
  obtain⟨fn,c,h1,h2,h3,_⟩:=qt h;exact⟨fn,c,h1,h2,h3⟩
 ·intro f av s v r h N Q ρ w t hv hr hn
  obtain⟨fn,c,y,hb,_,z,x,fr,B,m,hx,a⟩:=qt h;dsimp only[cond]at a
  split at a
  ·rename_i C
   intro d cs R
   let b:j9:= { (default:j9)with fn:=f,kind:=.deferred }
   have k:zA P f ⟨t⟩ .deferred=b.at { tmps:=(⟨t⟩:Array Z)++dP (fn.ntmps-(⟨t⟩:Array Z).size) fq,defers:=[] } [.code c]:=by
    simp[zA,Frame.at,y,hb,b]
   have S:({ d with mode:=.returning }:j9)=d:=by rw[←R]
   have n:Ctx O b (d::cs):=fun _=>⟨rfl,by simp[recoverD,R]⟩
   have E:B.n≤r.n:=(ko (P:=P) fr.t fn.results.toList [] B v r a).1;obtain⟨e,a',F,⟨T,H,o,f1,p⟩,i⟩:=(kF (g fn.ntmps) c).sound cf L _ s x fr B m N Q ρ _ w (yY hv z) hr (hn.left E) b [] (d::cs) n;rw[←k]at i;obtain⟨e1,e2,u,q,K⟩:=ub f1 a p;have l:a'.defers=[]:=by have:=f1.d;rw[C]at this;exact this
   have j:Done N Q ρ s v r u F:=⟨H,by rw[e2];exact o,K,by rw[e1];exact p⟩;rcases hx with rfl | rfl
   ·subst T
    exact⟨.returned u,.returning,F,_,⟨rfl,u,rfl,j⟩,(by rw[S];exact kq i (.one step_end)),rfl,rfl,l,fn,y,q⟩
   ·subst T
    obtain⟨W,hs⟩:=i;exact⟨.returned u,.returning,F,_,⟨rfl,u,rfl,j⟩,(by rw[S];exact hs),rfl,rfl,l,fn,y,q⟩
  ·cases a
end
end Go.Ev
namespace Go.Ev
section
variable {P:aQ} {B0 nt:Nat} {w0:V}
theorem uf{cd:bR}(i:Is P cd){fn:Func}{fr:Fr}:∀(l:List nx)(s:S)(v:Y)(s':S),ii cd l s (fun s=>hD P fr.t fn.results.toList [] s)=.ok v s'→
  ∀(ρ:Env)(a:Act)(w:V)(ds:List vD),kR ρ nt fr a→Iq ρ l ds→Rel B0 w0 ρ s.h w→ib ρ s.n s'.n→
   ∀R:Ending→V→Prop,(∀v' w',Done B0 w0 ρ s v s' v' w'→R (.returned v') w')→Leaves P fn a.tmps R ds .returning w
 | [],s,v,s',h,ρ,a,w,ds,f,b,m,q,R,r=>by
  cases b
  obtain⟨W,e2,u,t,z⟩:=ub f h m;exact⟨u,t,r u w ⟨ρ,Ext.refl _ _ _,z,by rw[W];exact m⟩⟩
 | d::l,s,v,s',h,ρ,a,w,ds,f,b,m,q,R,r=>by
  obtain⟨x,X,⟨n,o,h1,h2,rfl⟩,h3,rfl⟩:=b
  have h:(match d.f with
   | .func g=>(match cd g (d.args++d.cap) s with | .ok _ s=>ii cd l s (fun s=>hD P fr.t fn.results.toList [] s) | .no w=> .no w)
   | _=> .no "defer of what")=.ok v s':=h
  split at h
  ·rename_i g B
   cases j:cd g (d.args++d.cap) s with
   | no y=>rw[j]at h;cases h
   | ok C k=>
    rw[j]at h;dsimp only at h;have Q:=(i.framed g _ s C k j).1;have T:=(ma i.framed (ko (P:=P) fr.t fn.results.toList []) l k v s' h).1;obtain⟨gn,c,g1,g2,g3⟩:=i.ok g _ s C k j;rw[B];refine leaves_cons (f:=g) (args:=⟨o++n⟩) dR ?_ ?_
    ·have e:(⟨o⟩:Array Z)++⟨n⟩=⟨o++n⟩:=by apply cg;simp
     simp only[iO,e];exact vY _ g1 g2 g3
    ·refine(i.calls g _ s C k j B0 w0 ρ w (o++n) (cq.append h2 h1) m (q.left T)).mono ?_
     rintro e u' w' ⟨rfl,v',rfl,E,p,_,F⟩;exact uf i l k v s' h E a w' X (f.mono p.le) (Iq.mono p.le _ _ h3) F (q.right Q p) R fun v2 w2 ⟨H,K,L,N⟩=>r v2 w2 ⟨H,p.trans K Q T,L,N⟩
  ·cases h
end
end Go.Ev
namespace Go.Ev
section
variable {P:aQ}
theorem It(a:∀(nt id:Nat)(ops:Array aH),i2 P nt (.region id ops O) (oC P nt ops O)){cf cd:bR}(p:Good P cf)(q:Is P cd):Good P (iM P cf cd U):=by
 refine⟨ue a p.framed q.framed U,?_,?_⟩
 ·intro f S s v n h
  obtain⟨fn,c,T,W,X,_⟩:=qt h;exact⟨fn,c,T,W,X⟩
 ·intro f S s v n h E F ρ w vs hv hr H
  obtain⟨fn,c,hf,hb,_,r,x,fr,o,g,hx,d⟩:=qt h;dsimp only[cond]at d;refine calls_of_wp_defers hf hb ?_;intro b k cs;have K:=((kF (a fn.ntmps) c).framed cf p.framed _ s _ o g).1;have L:=(ma q.framed (ko (P:=P) fr.t fn.results.toList []) fr.d o v n d).1;obtain⟨e,l,m,⟨N,t,i,f1,u⟩,j⟩:=(kF (a fn.ntmps) c).sound cf p _ s x fr o g E F ρ _ w (yY hv r) hr (H.left L) b k cs (fun h=>by cases h)
  have Q:Leaves P fn l.tmps (fun e m=>∃R,e=.returned R∧Done E F ρ s v n R m) l.defers .returning m:=
   uf q fr.d o v n d t l m l.defers f1 f1.d u (H.right K i) _ fun v2 w2 ⟨y,z,B,C⟩=>⟨v2,rfl,y,i.trans z K L,B,C⟩
  rcases hx with rfl | rfl
  ·subst N;exact⟨.normal,l,m,Q,j⟩
  ·subst N;exact⟨.ret,l,m,Q,j⟩
theorem DZ(c:∀(nt id:Nat)(ops:Array aH),i2 P nt (.region id ops O) (oC P nt ops O)){a:Nat→Nat→Option bR}(p:∀f n g,a f n=I g→Good P (fun t=>if t=f then g t else fun _ _=> .no "")):∀n,Good P (jo P a n U)∧Is P (jo P a n O)
 | 0=>by
  refine⟨⟨fun _ _=> .no _,?_,?_⟩,⟨fun _ _=> .no _,?_,?_⟩⟩;all_goals intro f b s v d h;cases h
 | n+1=>by
  obtain⟨u,x⟩:=DZ c p n;refine⟨?_,?_⟩
  ·have k:=It c u x
   have key:∀f m,(∃g,a f m=I g∧∀b s,s.n=m→jo P a (n+1) U f b s=g f b s)∨(∀b s,s.n=m→jo P a (n+1) U f b s=iM P (jo P a n U) (jo P a n O) U f b s):=by
    intro f m
    cases y:a f m with
    | none=>exact .inr (fun b s q=>by subst q;simp[jo,y])
    | some g=>exact .inl ⟨g,rfl,fun b s q=>by subst q;simp[jo,y]⟩
   refine⟨?_,?_,?_⟩
   ·intro f b s v d h
    rcases key f s.n with⟨g,l,j⟩ | e
    ·have z:=(p f s.n g l).framed f b;rw[if_pos rfl]at z
     rw[j b s rfl]at h;obtain⟨a1,r,w,a2,a3,a4,a5⟩:=z s v d h;refine⟨a1,r,w,a2,a3,a4,fun o b1 b2 b3=>?_⟩;obtain⟨i,c1,c2⟩:=a5 o b1 b2 b3;exact⟨i,by rw[j b o b1];exact c1,c2⟩
    ·rw[e b s rfl]at h
     obtain⟨a1,r,w,a2,a3,a4,a5⟩:=k.framed f b s v d h;refine⟨a1,r,w,a2,a3,a4,fun o b1 b2 b3=>?_⟩;obtain⟨i,c1,c2⟩:=a5 o b1 b2 b3;exact⟨i,by rw[e b o b1];exact c1,c2⟩
   ·intro f b s v d h
    rcases key f s.n with⟨g,l,j⟩ | e
    ·rw[j b s rfl]at h;exact(p f s.n g l).ok f b s v d (by rw[if_pos rfl];exact h)
    ·rw[e b s rfl]at h;exact k.ok f b s v d h
   ·intro f b s v d h
    rcases key f s.n with⟨g,l,j⟩ | e
    ·rw[j b s rfl]at h;exact(p f s.n g l).calls f b s v d (by rw[if_pos rfl];exact h)
    ·rw[e b s rfl]at h;exact k.calls f b s v d h
  ·have k:=Fc c u x.framed
   have key:jo P a (n+1) O=iM P (jo P a n U) (jo P a n O) O:=by
    funext f b s;simp[jo]
   rw[key];exact k
end
end Go.Ev
namespace Go.Ev
section
variable {P:aQ} {ρ:Env} {B0 nt:Nat} {w0 w:V} {fr fr':Fr} {a:Act}
theorem rj{a z:Nat}{l:List Nat}{i:Nat}:i∈l.filter (my a z)↔i∈l∧(i<a∨z≤i):=by
 rw[List.mem_filter];unfold my;simp only[Bool.not_eq_true',Bool.and_eq_false_iff];constructor
 ·rintro⟨h,b⟩
  refine⟨h,?_⟩;rcases b with b | b
  ·left;have:¬a≤i:=fun h=>by rw[cA h]at b;cases b
   omega
  ·right;have:¬i<z:=fun h=>by rw[bM,cA h]at b;cases b
   omega
 ·rintro⟨h,b⟩
  refine⟨h,?_⟩;rcases b with b | b
  ·left
   cases c:aG a i with
   | false=>rfl
   | true=>have:=ax c;omega
  ·right
   cases c:bM i z with
   | false=>rfl
   | true=>have:=ax c;omega
theorem Framed.gl{α:Type}{m:S→Rs α}(hm:Framed m):Framed (gl m):=by
 intro s b H h;unfold Ev.gl at h
 split at h
 ·rename_i a e z
  cases h
  obtain⟨B,r,w,n,f,k,g⟩:=hm _ a e z;simp only[eH]at n f;refine⟨B,e.r.filter (my s.n e.n),e.w.filter (my s.n e.n),rfl,rfl,?_,?_⟩
  ·intro d c o
   refine k d ?_ o;intro u;exact c (rj.mpr ⟨by rw[f];exact u,o⟩)
  ·intro t p o i
   obtain⟨j,C,q,v,x,E,F⟩:=g { t with r:=[],w:=[] } p (fun d hi=>by
    by_cases y:s.n≤d∧d<e.n
    ·exact i d y.1 y.2
    ·exact o d (rj.mpr ⟨by rw[n];exact hi,by omega⟩)) i
   simp only[eH]at v x;refine⟨{ j with r:=j.r.filter (my t.n j.n)++t.r,w:=j.w.filter (my t.n j.n)++t.w },?_,q,?_,?_,?_,?_⟩
   ·unfold Ev.gl
    rw[C];simp only[p,q,v,x,n,f]
   ·simp only[p,q,v,n]
   ·simp only[p,q,x,f]
   ·intro d c
    refine E d ?_;rcases c with c | c
    ·left
     have:=(rj.mp c).1;rw[f]at this;exact this
    ·exact .inr c
   ·intro d c l
    refine F d ?_ l;intro u;exact c (rj.mpr ⟨by rw[f];exact u,l⟩)
 ·cases h
theorem sU{cf:bR}(c:iD cf)(ops:Array aH):∀(l:List (Nat×aH))(a:List Rec)(fr:Fr),Framed (gp P nt ops l a cf fr)
 | [],_,fr=> .ok _
 | (i,o)::l,a,fr=>by
  refine Framed.iff (m:=fun s=>gq (gl (c_ P nt ops o cf fr) s) fun p s=>cond (clashes (fC ops i).l a p.2) (Rs.no "") (gp P nt ops l (a++ [p.2]) cf p.1 s))
   (Framed.bind (f:=fun p s=>cond (clashes (fC ops i).l a p.2) (Rs.no "") (gp P nt ops l (a++ [p.2]) cf p.1 s)) (Framed.gl (nf c ops o fr)) fun p=> .cond _ (.no _) (sU c ops l _ _)) ?_
  intro s b g;have e:gp P nt ops ((i,o)::l) a cf fr s=(match gl (c_ P nt ops o cf fr) s with | .ok (fr,x) s=>cond (clashes (fC ops i).l a x) (Rs.no ("clash " ++toString i++ " @ " ++o.pos)) (gp P nt ops l (a++ [x]) cf fr s) | .no y=>Rs.no y):=rfl;rw[e]
  cases gl (c_ P nt ops o cf fr) s with
  | no _=>simp[gq]
  | ok p h=>
   obtain⟨d,x⟩:=p;dsimp only[gq]
   cases clashes (fC ops i).l a x<;>simp[cond]
noncomputable def pR(P:aQ)(ops:Array aH)(o:aH)(cf:bR)(t:Nat→Y)(bI:Bool)(s:S):RV:=
 cond (gj ops o t)
  (match evs t (nO P o).args with
  | none=> .no ""
  | some a=>(match fB o.op with
   | .val | .com=>(gQ P o.op).run cf a s
   | .rcv=>cond bI (.ok .lV s) (.no "")
   | .bI=> .no ""))
  (.ok cE s)
theorem ug{cf:bR}{ops:Array aH}{o:aH}{s s':S}(b:isVal o=O):c_ P nt ops o cf fr s=.ok fr' s'↔ ∃v,pR P ops o cf fr.t fr.bI s=.ok v s'∧fr'=fr.put nt o.dst v:=by
 unfold c_ pR
 cases f:gj ops o fr.t with
 | false=>
  simp only[cond];constructor
  ·intro h;cases h;exact⟨_,rfl,rfl⟩
  ·rintro⟨v,h,rfl⟩;cases h;rfl
 | true=>
  simp only[cond]
  cases g:evs fr.t (nO P o).args with
  | none=>simp
  | some a=>
   simp only[nO];unfold isVal at b
   cases d:fB o.op with
   | bI=>rw[d]at b;cases b
   | val=>
    simp only
    cases (gQ P o.op).run cf a s with
    | no y=>simp
    | ok v e=>
     simp only[Rs.ok.injEq];constructor
     ·rintro⟨rfl,rfl⟩;exact⟨v,⟨rfl,rfl⟩,rfl⟩
     ·rintro⟨c,⟨rfl,rfl⟩,rfl⟩;exact⟨rfl,rfl⟩
   | com=>
    simp only
    cases (gQ P o.op).run cf a s with
    | no y=>simp
    | ok v e=>
     simp only[Rs.ok.injEq];constructor
     ·rintro⟨rfl,rfl⟩;exact⟨v,⟨rfl,rfl⟩,rfl⟩
     ·rintro⟨c,⟨rfl,rfl⟩,rfl⟩;exact⟨rfl,rfl⟩
   | rcv=>
    simp only
    cases fr.bI with
    | false=>simp
    | true=>
     simp only[Rs.ok.injEq];constructor
     ·rintro⟨rfl,rfl⟩;exact⟨_,⟨rfl,rfl⟩,rfl⟩
     ·rintro⟨c,⟨rfl,rfl⟩,rfl⟩;exact⟨rfl,rfl⟩
theorem Fe{cf:bR}(a:iD cf)(ops:Array aH)(o:aH)(t:Nat→Y)(bI:Bool):Framed (pR P ops o cf t bI):=by
 unfold pR;refine .cond _ ?_ (.ok _)
 split
 ·exact .no _
 ·split
  ·exact tX a o.op _
  ·exact tX a o.op _
  ·exact .cond _ (.ok _) (.no _)
  ·exact .no _
theorem D1{t a:Nat→Y}:∀{l:List aP},(∀d,Operand.tmp d∈l→t d=a d)→evs t l=evs a l
 | [],_=>rfl
 | o::l,h=>by
  have c:Df t o=Df a o:=by
   cases o with
   | tmp d=>show some (t d)=some (a d);rw[h d dR]
   | _=>rfl
  have e:evs t l=evs a l:=D1 fun d f=>h d (by simp[f])
  show(match Df t o,evs t l with | some v,some b=>some (v::b) | _,_=>J)=(match Df a o,evs a l with | some v,some b=>some (v::b) | _,_=>J);rw[c,e]
theorem Iu{cf:bR}{ops:Array aH}{o:aH}{t a:Nat→Y}{bI:Bool}(h:∀d,d∈o.looksAt ops→t d=a d):pR P ops o cf t bI=pR P ops o cf a bI:=by
 have c:evs t (nO P o).args=evs a (nO P o).args:=D1 fun d b=>h d (by
  unfold Oper.looksAt
  exact List.mem_append_left _ (List.mem_filterMap.mpr ⟨_,b,rfl⟩))
 have e:gj ops o t=gj ops o a:=by
  unfold gj
  cases f:o.guard with
  | none=>rfl
  | some p=>
   obtain⟨j,want⟩:=p;dsimp only
   cases b:(ops[j]?).bind (·.dst)with
   | none=>rfl
   | some d=>
    dsimp only;rw[h d (by unfold Oper.looksAt;refine List.mem_append_right _ ?_;rw[f];dsimp only;rw[b];simp)]
 funext s
 unfold pR;rw[c,e]
end
end Go.Ev
