/- What the law asks, in parts: ZEvB ZEvC ZEvD ZEvE ZEvF ZEvG ZEvH ZEvI ZEvJ ZEvK ZEvL ZEvM ZEvN. -/
import Derived.Calls
import Derived.Below
import Derived.Laws.Cells
import Derived.Laws.CopyRow
import Derived.Laws.CopyOwn
import Derived.Laws.Tables
import Derived.Laws.Build
import Derived.Laws.StructEq
import Derived.Laws.BytesString
import Derived.Laws.Append
import Derived.Test.YtdgllhcfablaoaaGreatMg11
set_option linter.all false
set_option maxRecDepth 100000
set_option maxHeartbeats 16000000
open Bool renaming false→U,true→O,and_eq_true→aM,not_true→cL,false_eq_true→bZ,not_eq_true'→fm,not_false→dE,or_eq_false_iff→ji
open Option renaming some→I,none→J,map_eq_some_iff→dA,bind_some→iw,isSome_none→vG
open Go renaming World→V,Value→Z,Addr→aB,TypeId→aN,Operand→aP,Program→aQ,execOp→bv,IntKind→cZ,binOp→dr,run_loadCells_list→eu,builtin→fp,typeInfo→fU,eqGuard→gB,MapEntry→gX,storeCells→iT,zeroValue→kr,Call→kE,goInt→lQ,asIntOf→oJ,newRow→ou,run_equalIn_string→vE,run_equalIn_bool'→xW
open Nat renaming le_trans→aa,beq→ak,le_of_ble_eq_true→ax,eq_of_beq_eq_true→aI,ble→aG,lt_or_ge→aL,succ→bS,blt→bM,le_refl→bP,ble_eq_true_of_le→cA,add_mul→cR,zero_add→cO,add_zero→dg,rec→dm,mul_le_mul→fs,mod_lt→fo,mod_eq_of_lt→gv,add_assoc→j6,blt_eq→kh,min→j8,div→lC,mod→l7
open Go.Result renaming andThen_ok→ai
open List renaming mem_singleton→af,length_append→ay,replicate→bG,getElem?_eq_getElem→cC,take_append_of_le_length→cQ,getElem?_eq_none→dp,drop_eq_getElem_cons→eD,append_assoc→fQ,extract_eq_take_drop→jb,mem_append→j4,all_cons→lA,length_eq_zero_iff→lY,map_append→nY,foldlM_cons→qw,replicate_succ→uP,flatten_cons→xY
open Go.World renaming cell?→an
open Go.Sem renaming run_bind→az,run_pure→bH,run→fz
open Go.Builtin renaming zeroCells→aX,firstCells→bd,append_→cK,copy_→jf,clear_→kC,len_→kI,lenOf→io,cap_→ww
open BitVec renaming ofInt→bF,toNat_xor→qy
open Option.some renaming injEq→bU
open Array renaming ext'→cg,length_toList→dw,toList_setIfInBounds→kS,range→pm,toList_map→qA
open Go.Op renaming equalIn→cG,operands→cY,intArith→sG,eqFields→zx,intBits→Bz
open Go.Call renaming operands→dJ
open Go.Instr renaming sliceAt→eF,sureAddr→kB,index→pi,sliceBounds→mq,sliceBound→zp,buildSlice→zq
open Go.Oper renaming wp→ej
open Go.Question renaming appendCap→eU
open Go.Value renaming int→gV,string→qN,cells→sF
open Int renaming natCast_mul→j5,ofNat_le→qQ
open Go.Addr renaming add→j7
open ByteArray renaming data_extract→mG
open Go.Program renaming cellsOf→rC
open Go.Made renaming depth→uY
open Go.RowKit.Below renaming heap_alloc→Cb
namespace Go.Ev
open Go.RowKit (Below)
def Ry{α:Type}(b:Bool)(x y:α):cond b x y=if b=O then x else y:=by cases b<;>rfl
def DC(a b:Nat):ak a b=decide (a=b):=by
 rw[Bool.eq_iff_iff];simp[Nat.beq_eq]
def Nd.Rz{α:Type}(t:Nd α){i j:Nat}(x:α)(hi:i<8)(a:j<8):(t.upd i x).nth j=if j=i then x else t.nth j:=by
 obtain⟨a0,a1,a2,a3,a4,a5,a6,a7⟩:=t;have hi:i=0∨i=1∨i=2∨i=3∨i=4∨i=5∨i=6∨i=7:=bf
 have a:j=0∨j=1∨j=2∨j=3∨j=4∨j=5∨j=6∨j=7:=bf
 rcases hi with rfl | rfl | rfl | rfl | rfl | rfl | rfl | rfl<;>rcases a with rfl | rfl | rfl | rfl | rfl | rfl | rfl | rfl<;>rfl
def Nd.RA{α:Type}(x:α)(i:Nat):(Nd.all x).nth i=x:=by
 unfold Nd.all Nd.nth
 split<;>rfl
def TT.eN{α:Type}(v:α):∀(d i j:Nat)(t:TT α d),i<8 ^ d→j<8 ^ d→TT.get d j (TT.set d i v t)=if j=i then v else TT.get d j t
 | 0,i,j,t,hi,a=>by
  have:j=i:=by simp at hi a;omega
  rw[if_pos this];rfl
 | d+1,i,j,t,hi,a=>by
  have c:8 ^ (d+1)=8 ^ d*8:=Nat.pow_succ ..;rw[c]at hi a
  suffices key:∀t:Nd (TT α d),TT.get d (j/8) (Nd.nth (Nd.upd t (i%8) (TT.set d (i/8) v (Nd.nth t (i%8)))) (j%8))=if j=i then v else TT.get d (j/8) (Nd.nth t (j%8))from key t
  clear t;intro t;rw[Nd.Rz _ _ (fo _ bf) (fo _ bf)];by_cases h:j%8=i%8
  ·rw[if_pos h,TT.eN v d (i/8) (j/8) _ bf bf,h]
   by_cases b:j/8=i/8
   ·rw[if_pos b,if_pos bf]
   ·rw[if_neg b,if_neg (fun e=>b (by rw[e]))]
  ·rw[if_neg h,if_neg (fun e=>h (by rw[e]))]
def TT.DD{α:Type}(v:α):∀(d i:Nat),TT.get d i (TT.all v d)=v
 | 0,_=>rfl
 | d+1,i=>by
  show TT.get d (i/8) (Nd.nth (Nd.all (TT.all v d)) (i%8))=v;rw[Nd.RA];exact TT.DD v d _
def Tv{β:Type}{i:Nat}(h:i<8)(t:Nd β):(pj β i).run t=t.nth i:=by
 have hi:i=0∨i=1∨i=2∨i=3∨i=4∨i=5∨i=6∨i=7:=bf
 rcases hi with rfl | rfl | rfl | rfl | rfl | rfl | rfl | rfl<;>rfl
def Tw{β:Type}{i:Nat}(h:i<8)(g:β→(β→Bool)→Bool)(t:Nd β)(k:Nd β→Bool):(uj β i).run g t k=g (t.nth i) fun x=>k (t.upd i x):=by
 obtain⟨a0,a1,a2,a3,a4,a5,a6,a7⟩:=t;have hi:i=0∨i=1∨i=2∨i=3∨i=4∨i=5∨i=6∨i=7:=bf
 rcases hi with rfl | rfl | rfl | rfl | rfl | rfl | rfl | rfl<;>rfl
def Tx{β:Type}{i:Nat}(h:i<8)(g:β→β)(t:Nd β):(vj β i).run g t=t.upd i (g (t.nth i)):=by
 obtain⟨a0,a1,a2,a3,a4,a5,a6,a7⟩:=t;have hi:i=0∨i=1∨i=2∨i=3∨i=4∨i=5∨i=6∨i=7:=bf
 rcases hi with rfl | rfl | rfl | rfl | rfl | rfl | rfl | rfl<;>rfl
def wV{β:Type}(f:Nat→β)(n:Nat):dm (motive:=fun _=>β) (f (nat_lit 0)) (fun m _=>f (bS m)) n=f n:=by cases n<;>rfl
def DE{α:Type}:∀(d i:Nat)(t:TT α d),(sel d i).run t=TT.get d i t
 | 0,_,_=>rfl
 | d+1,i,t=>by
  have h:sel (d+1) i=tG.rec (motive:=fun _=>tG α (d+1)) (fun f=>PJ.rec (motive:=fun _=>tG α (d+1)) (fun p=>⟨fun (t:Nd (TT α d))=>f (p t)⟩) (pj (TT α d) (l7 i (nat_lit 8)))) (dm (motive:=fun _=>tG α d) (sel d (nat_lit 0)) (fun m _=>sel d (bS m)) (lC i (nat_lit 8))):=rfl;rw[h,wV (sel d)];have e:(tG.rec (motive:=fun _=>tG α (d+1)) (fun f=>PJ.rec (motive:=fun _=>tG α (d+1)) (fun p=>⟨fun (t:Nd (TT α d))=>f (p t)⟩) (pj (TT α d) (l7 i (nat_lit 8)))) (sel d (lC i (nat_lit 8)))).run t=(sel d (i/8)).run ((pj (TT α d) (i%8)).run t):=rfl;rw[e];have key:∀t:Nd (TT α d),(sel d (i/8)).run ((pj (TT α d) (i%8)).run t)=TT.get d (i/8) (Nd.nth t (i%8)):=fun t=>by rw[Tv (fo _ bf),DE d]
  exact key t
def yN{α:Type}:∀(d i:Nat)(v:α)(t:TT α d)(k:TT α d→Bool),(put d i).run v t k=k (TT.set d i v t)
 | 0,_,_,_,_=>rfl
 | d+1,i,v,t,k=>by
  have h:put (d+1) i=Put.rec (motive:=fun _=>Put α (d+1)) (fun f=>UJ.rec (motive:=fun _=>Put α (d+1)) (fun u=>⟨fun v (t:Nd (TT α d)) k=>u (f v) t k⟩) (uj (TT α d) (l7 i (nat_lit 8)))) (dm (motive:=fun _=>Put α d) (put d (nat_lit 0)) (fun m _=>put d (bS m)) (lC i (nat_lit 8))):=rfl;rw[h,wV (put d)];have e:(Put.rec (motive:=fun _=>Put α (d+1)) (fun f=>UJ.rec (motive:=fun _=>Put α (d+1)) (fun u=>⟨fun v (t:Nd (TT α d)) k=>u (f v) t k⟩) (uj (TT α d) (l7 i (nat_lit 8)))) (put d (lC i (nat_lit 8)))).run v t k=(uj (TT α d) (i%8)).run ((put d (i/8)).run v) t k:=rfl;rw[e];have key:∀(t:Nd (TT α d))(k:Nd (TT α d)→Bool),(uj (TT α d) (i%8)).run ((put d (i/8)).run v) t k=k (Nd.upd t (i%8) (TT.set d (i/8) v (Nd.nth t (i%8)))):=fun t k=>by rw[Tw (fo _ bf),yN d]
  exact key t k
def JO{α:Type}:∀(d i:Nat)(v:α)(t:TT α d),(ups d i).run v t=TT.set d i v t
 | 0,_,_,_=>rfl
 | d+1,i,v,t=>by
  have h:ups (d+1) i=ER.rec (motive:=fun _=>ER α (d+1)) (fun f=>VJ.rec (motive:=fun _=>ER α (d+1)) (fun u=>⟨fun v (t:Nd (TT α d))=>u (f v) t⟩) (vj (TT α d) (l7 i (nat_lit 8)))) (dm (motive:=fun _=>ER α d) (ups d (nat_lit 0)) (fun m _=>ups d (bS m)) (lC i (nat_lit 8))):=rfl;rw[h,wV (ups d)];have e:(ER.rec (motive:=fun _=>ER α (d+1)) (fun f=>VJ.rec (motive:=fun _=>ER α (d+1)) (fun u=>⟨fun v (t:Nd (TT α d))=>u (f v) t⟩) (vj (TT α d) (l7 i (nat_lit 8)))) (ups d (lC i (nat_lit 8)))).run v t=(vj (TT α d) (i%8)).run ((ups d (i/8)).run v) t:=rfl;rw[e];have key:∀t:Nd (TT α d),(vj (TT α d) (i%8)).run ((ups d (i/8)).run v) t=Nd.upd t (i%8) (TT.set d (i/8) v (Nd.nth t (i%8))):=fun t=>by rw[Tx (fo _ bf),JO d]
  exact key t
def Tr.lH{α:Type}{t:Tr α}{k:Nat}(h:k<8 ^ 6):t.get k=TT.get 6 k t.t:=by
 have e:aG (bS k) (nat_lit 262144)=O:=cA h;unfold Tr.get;rw[e];exact DE _ _ _
def Tr.nc{α:Type}{t:Tr α}{k:Nat}(h:¬k<8 ^ 6):t.get k=Tr.far k t.o:=by
 have e:aG (bS k) (nat_lit 262144)=U:=by
  cases a:aG (bS k) (nat_lit 262144)with
  | false=>rfl
  | true=>exact absurd (ax a) h
 unfold Tr.get;rw[e]
def Tr.GB{α:Type}{t:Tr α}{k:Nat}{a:α}(h:k<8 ^ 6):t.set k a=⟨TT.set 6 k (I a) t.t,t.o⟩:=by
 have e:aG (bS k) (nat_lit 262144)=O:=cA h;unfold Tr.set;rw[e,←JO]
def Tr.RB{α:Type}{t:Tr α}{k:Nat}{a:α}(h:¬k<8 ^ 6):t.set k a=⟨t.t,(k,a)::t.o⟩:=by
 have e:aG (bS k) (nat_lit 262144)=U:=by
  cases b:aG (bS k) (nat_lit 262144)with
  | false=>rfl
  | true=>exact absurd (ax b) h
 unfold Tr.set;rw[e]
def Tr.Me{α:Type}(k:Nat):(Tr.e:Tr α).get k=J:=by
 by_cases h:k<8 ^ 6
 ·rw[Tr.lH h];exact TT.DD _ _ _
 ·rw[Tr.nc h];rfl
def Tr.eN{α:Type}(a:α):∀(t:Tr α)(k j:Nat),(t.set k a).get j=if j=k then I a else t.get j:=by
 intro t k j;by_cases c:k<8 ^ 6
 ·rw[Tr.GB c]
  by_cases b:j<8 ^ 6
  ·rw[Tr.lH b,Tr.lH b];exact TT.eN _ _ _ _ _ c b
  ·rw[Tr.nc b,Tr.nc b,if_neg (fun e=>b (by rw[e];exact c))]
 ·rw[Tr.RB c]
  by_cases b:j<8 ^ 6
  ·rw[Tr.lH b,Tr.lH b,if_neg (fun e=>c (by rw[←e];exact b))]
  ·rw[Tr.nc b,Tr.nc b]
   show cond (ak j k) (I a) (Tr.far j t.o)=if j=k then I a else Tr.far j t.o;by_cases h:j=k
   ·subst h;rw[Nat.beq_refl,if_pos rfl];rfl
   ·rw[if_neg h]
    cases d:ak j k with
    | true=>exact absurd (aI d) h
    | false=>rfl
abbrev Env:=Nat→Option (Nat×Nat)
mutual
def VR(ρ:Env):Y→Z→Prop
 | .bool b,v=>v=.bool b
 | .int k n,v=>v=.int k n
 | .str s,v=>v=.string ⟨⟨s⟩⟩
 | .q_,v=>v=.pointer J
 | .ptr b e,v=>∃B κ,ρ b=I (B,κ)∧v=.pointer (I ⟨B,e,J⟩)
 | .iC,v=>v=.slice J 0 0
 | .slc b e len g c,v=>∃B κ,ρ b=I (B,κ)∧v=.slice (I ⟨B,e,J⟩) len (cond g (κ-c) c)∧(g=O→c+len≤κ)
 | .oM b h e d,v=>∃B κ,ρ b=I (B,κ)∧v=.slice (I ⟨B,cond (ak κ d) h e,J⟩) 0 (κ-d)
 | .fG,v=>v=.map J
 | .map b,v=>∃B κ,ρ b=I (B,κ)∧v=.map (I B)
 | .yF,v=>v=.chan J
 | .chan b,v=>∃B κ,ρ b=I (B,κ)∧v=.chan (I B)
 | .yG,v=>v=.nilFunc
 | .fn f a c,v=>∃j m,cq ρ a j∧cq ρ c m∧v=.func f ⟨j⟩ ⟨m⟩
 | .lV,v=>v=.nilIface
 | .qI t x,v=>∃y,VR ρ x y∧v=.iface t y
 | .agg l,v=>∃i,cq ρ l i∧v=.agg ⟨i⟩
 | .dS l,v=>∃i,cq ρ l i∧v=.tuple ⟨i⟩
def cq(ρ:Env):List Y→List Z→Prop
 | [],b=>b=[]
 | a::l,b=>∃v c,VR ρ a v∧cq ρ l c∧b=v::c
end
def Env.le(ρ ρ':Env):Prop:=∀a x,ρ a=I x→ρ' a=I x
mutual
def VR.mono{ρ ρ':Env}(h:ρ.le ρ'):∀(a:Y)(v:Z),VR ρ a v→VR ρ' a v
 | .bool _,_,r=>r | .int _ _,_,r=>r | .str _,_,r=>r | .q_,_,r=>r | .iC,_,r=>r | .fG,_,r=>r | .yF,_,r=>r | .yG,_,r=>r | .lV,_,r=>r
 | .ptr _ _,_,⟨B,κ,e,r⟩=>⟨B,κ,h _ _ e,r⟩
 | .slc ..,_,⟨B,κ,e,r⟩=>⟨B,κ,h _ _ e,r⟩
 | .oM ..,_,⟨B,κ,e,r⟩=>⟨B,κ,h _ _ e,r⟩
 | .map _,_,⟨B,κ,e,r⟩=>⟨B,κ,h _ _ e,r⟩
 | .chan _,_,⟨B,κ,e,r⟩=>⟨B,κ,h _ _ e,r⟩
 | .fn _ a c,_,⟨d,f,x,y,r⟩=>⟨d,f,cq.mono h a d x,cq.mono h c f y,r⟩
 | .qI _ x,_,⟨y,r,e⟩=>⟨y,VR.mono h x y r,e⟩
 | .agg l,_,⟨b,r,e⟩=>⟨b,cq.mono h l b r,e⟩
 | .dS l,_,⟨b,r,e⟩=>⟨b,cq.mono h l b r,e⟩
def cq.mono{ρ ρ':Env}(h:ρ.le ρ'):∀(l:List Y)(vs:List Z),cq ρ l vs→cq ρ' l vs
 | [],_,r=>r
 | a::l,_,⟨v,b,r,q,e⟩=>⟨v,b,VR.mono h a v r,cq.mono h l b q,e⟩
end
def cq.len{ρ:Env}:∀{l:List Y}{vs:List Z},cq ρ l vs→vs.length=l.length
 | [],_,r=>by cases r;rfl
 | _::l,_,⟨_,_,_,q,e⟩=>by subst e;simp[cq.len q]
def cq.append{ρ:Env}:∀{l m:List Y}{vs a:List Z},cq ρ l vs→cq ρ m a→cq ρ (l++m) (vs++a)
 | [],_,_,_,r,q=>by cases r;exact q
 | _::_,_,_,_,⟨v,b,r,s,e⟩,q=>by subst e;exact⟨v,_,r,cq.append s q,rfl⟩
def cq.drop{ρ:Env}:∀(n:Nat){l:List Y}{vs:List Z},cq ρ l vs→cq ρ (l.drop n) (vs.drop n)
 | 0,_,_,r=>by simpa using r
 | n+1,[],_,r=>by cases r;simp[cq]
 | n+1,_::_,_,⟨v,a,r,s,e⟩=>by subst e;exact cq.drop n s
def cq.take{ρ:Env}:∀(n:Nat){l:List Y}{vs:List Z},cq ρ l vs→cq ρ (l.take n) (vs.take n)
 | 0,_,_,_=>by simp[cq]
 | n+1,[],_,r=>by cases r;simp[cq]
 | n+1,_::_,_,⟨v,a,r,s,e⟩=>by subst e;exact⟨v,_,r,cq.take n s,rfl⟩
def vt{α:Type}:∀(n:Nat)(l m:List α),takeN n l=I m→m=l.take n∧n≤l.length
 | 0,l,m,h=>by simp[takeN]at h;simp[←h]
 | n+1,[],m,h=>by simp[takeN]at h
 | n+1,a::l,m,h=>by
  simp only[takeN,dA]at h;obtain⟨x,b,rfl⟩:=h;obtain⟨c,d⟩:=vt n l x b;simp[c,d]
def cq.replicate{ρ:Env}{z:List Y}{zs:List Z}(h:cq ρ z zs):∀n,cq ρ (AZ n z) (bG n zs).flatten
 | 0=>by simp[AZ,cq]
 | n+1=>by
  have a:=cq.replicate h n;simp only[AZ,uP,xY]at a⊢;exact cq.append h a
def pf(ρ:Env):List (Y×Y×Nat)→List gX→Prop
 | [],a=>a=[]
 | (k,v,n)::l,a=>∃x b,VR ρ k x.key∧VR ρ v x.val∧x.born=n∧pf ρ l b∧a=x::b
def pf.mono{ρ ρ':Env}(h:ρ.le ρ'):∀(l:List (Y×Y×Nat))(f:List gX),pf ρ l f→pf ρ' l f
 | [],_,r=>r
 | (_,_,_)::l,_,⟨x,g,a,b,c,d,e⟩=>⟨x,g,VR.mono h _ _ a,VR.mono h _ _ b,c,pf.mono h l g d,e⟩
def OR(ρ:Env)(κ:Nat):AO→Option Obj→Prop
 | .row c o,a=>∃(cs:Array Z)(e:aN)(fr:Nat×Nat)(b rest:List Z),a=I (.cells cs e fr)∧(∀i,i<cs.size→¬ (fr.1≤i∧i<fr.2))∧cs.toList=b++rest∧cq ρ c b∧
   (match o with | 0=>rest=[] | sz+1=>cs.size=κ*sz)
 | .map h d,a=>∃g:List gX,a=I (.map ⟨g⟩ d)∧pf ρ h g
 | .chan cap f cl i j,a=>∃b,a=I (.chan cap ⟨b⟩ cl i j U)∧cq ρ f b
 | .dead,_=>True
def OR.mono{ρ ρ':Env}(h:ρ.le ρ')(κ:Nat):∀(o:AO)(i:Option Obj),OR ρ κ o i→OR ρ' κ o i
 | .row c _,_,⟨cs,e,fr,f,rest,a,b,d,x,y⟩=>⟨cs,e,fr,f,rest,a,b,d,cq.mono h c f x,y⟩
 | .map k _,_,⟨j,a,b⟩=>⟨j,a,pf.mono h k j b⟩
 | .chan _ g _ _ _,_,⟨f,a,b⟩=>⟨f,a,cq.mono h g f b⟩
 | .dead,_,_=>trivial
structure Rel(B0:Nat)(w0:V)(ρ:Env)(h:Tr AO)(w:V):Prop where
 z8:Below B0 w0 w
 base:B0≤w.heap.size
 obj:∀id o,h.get id=I o→o≠.dead→∃B κ,ρ id=I (B,κ)∧B0≤B∧B<w.heap.size∧OR ρ κ o (w.heap[B]?)
 inj:∀id id' o o' B κ κ',h.get id=I o→o≠.dead→h.get id'=I o'→o'≠.dead→ρ id=I (B,κ)→ρ id'=I (B,κ')→id=id'
structure Ext(ρ ρ':Env)(n n':Nat):Prop where
 le:ρ.le ρ'
 new:∀id,ρ id=J→(id<n∨n'≤id)→ρ' id=J
def Ext.refl(ρ:Env)(n a:Nat):Ext ρ ρ n a:=⟨fun _ _ h=>h,fun _ h _=>h⟩
def Ext.trans{ρ ρ' d:Env}{a b c:Nat}(h:Ext ρ ρ' a b)(k:Ext ρ' d b c)(g:a≤b)(i:b≤c):Ext ρ d a c:=
 ⟨fun f x e=>k.le f x (h.le f x e),fun f e j=>k.new f (h.new f e bf) bf⟩
def ib(ρ:Env)(n b:Nat):Prop:=∀a,n≤a→a<b→ρ a=J
end Go.Ev
namespace Go.Ev
def Framed{α:Type}(m:S→Rs α):Prop:=∀s a d,m s=.ok a d→
 s.n≤d.n∧∃r w:List Nat,d.r=r++s.r∧d.w=w++s.w∧
  (∀b,b∉w→(b<s.n∨d.n≤b)→d.h.get b=s.h.get b)∧
  ∀e:S,e.n=s.n→(∀b,b∈r→e.h.get b=s.h.get b)→(∀b,s.n≤b→b<d.n→e.h.get b=s.h.get b)→
   ∃c,m e=.ok a c∧c.n=d.n∧c.r=r++e.r∧c.w=w++e.w∧
    (∀b,(b∈w∨(s.n≤b∧b<d.n))→c.h.get b=d.h.get b)∧
    (∀b,b∉w→(b<s.n∨d.n≤b)→c.h.get b=e.h.get b)
def gq{α β:Type}(x:Rs α)(f:α→S→Rs β):Rs β:=match x with
 | .ok a s=>f a s
 | .no y=> .no y
def OS{α β:Type}{x:Rs α}{f:α→S→Rs β}{b:β}{s':S}(h:gq x f=.ok b s'):∃a c,x=.ok a c∧f a c=.ok b s':=by
 cases x with
 | no y=>cases h
 | ok a c=>exact⟨a,c,rfl,h⟩
def Framed.no{α:Type}(y:S→String):Framed (fun s=>(.no (y s):Rs α)):=by
 intro s a b h;cases h
def Framed.ok{α:Type}(a:α):Framed (fun s=> .ok a s):=by
 intro s b e h
 cases h
 refine⟨bP _,[],[],rfl,rfl,fun _ _ _=>rfl,fun c d _ _=>⟨c,rfl,d,rfl,rfl,?_,fun _ _ _=>rfl⟩⟩;intro f h;rcases h with h | h
 ·cases h
 ·omega
def Framed.bind{α β:Type}{m:S→Rs α}{f:α→S→Rs β}(hm:Framed m)(L:∀a,Framed (f a)):Framed (fun s=>gq (m s) f):=by
 intro s b B h;obtain⟨a,g,N,P⟩:=OS h;obtain⟨Q,R,C,q,r,k1,T⟩:=hm s a g N;obtain⟨W,X,E,u,v,k2,g2⟩:=L a g b B P;refine⟨aa Q W,X++R,E++C,by rw[u,q,fQ],by rw[v,r,fQ],?_,?_⟩
 ·intro c d w
  simp only[j4,not_or]at d;rw[k2 c d.1 bf,k1 c d.2 bf]
 ·intro t hn w i
  obtain⟨F,e1,x,j,k,c1,H⟩:=T t hn (fun c hi=>w c (by simp[hi])) (fun c a b=>i c a bf)
  have l:∀c,t.h.get c=s.h.get c→F.h.get c=g.h.get c:=by
   intro c d;by_cases y:c∈C
   ·exact c1 c (.inl y)
   ·by_cases p:s.n≤c∧c<g.n
    ·exact c1 c (.inr p)
    ·rw[H c y bf,d,k1 c y bf]
  obtain⟨t2,e2,z,n,o,c2,K⟩:=g2 F x (fun c hi=>l c (w c (by simp[hi]))) (fun c a b=>l c (i c bf b));refine⟨t2,by show gq (m t) f=_;rw[e1];exact e2,z,by rw[n,j,fQ],by rw[o,k,fQ],?_,?_⟩
  ·intro c d
   by_cases e:c∈E
   ·exact c2 c (.inl e)
   ·by_cases p:g.n≤c∧c<B.n
    ·exact c2 c (.inr p)
    ·rw[K c e bf,k2 c e bf]
     refine c1 c ?_;simp only[j4]at d;rcases d with(d | d) | d
     ·exact absurd d e
     ·exact .inl d
     ·exact .inr ⟨d.1,by omega⟩
  ·intro c d p
   simp only[j4,not_or]at d;rw[K c d.1 bf,H c d.2 bf]
def Framed.bind'{α β:Type}{m:S→Rs α}{f:α→S→Rs β}{g:S→Rs β}(hm:Framed m)(b:∀a,Framed (f a))(e:∀s,g s=gq (m s) f):Framed g:=by
 have:g=fun s=>gq (m s) f:=funext e
 rw[this];exact Framed.bind hm b
noncomputable def wW(b:Nat)(s:S):Rs AO:=match s.h.get b with
 | some o=> .ok o { s with r:=b::s.r }
 | none=> .no "look"
noncomputable def RD(b:Nat)(o:AO)(s:S):Rs Unit:=.ok () (s.put b o)
noncomputable def newP(o:AO)(s:S):Rs Nat:=.ok s.n { s with h:=s.h.set s.n o,n:=s.n+1 }
def Framed.wW(b:Nat):Framed (wW b):=by
 intro s a i h;unfold Ev.wW at h
 split at h
 ·rename_i o d
  cases h
  refine⟨bP _,[b],[],rfl,rfl,fun _ _ _=>rfl,fun c e f _=>?_⟩;have g:c.h.get b=I a:=by rw[f b dR,d]
  refine⟨{ c with r:=b::c.r },by unfold Ev.wW;rw[g],e,rfl,rfl,?_,fun _ _ _=>rfl⟩;intro j h;rcases h with h | h
  ·cases h
  ·dsimp at h;omega
 ·cases h
def Framed.RD(b:Nat)(o:AO):Framed (RD b o):=by
 intro s a g h
 cases h
 refine⟨bP _,[],[b],rfl,rfl,?_,fun e f _ _=>⟨e.put b o,rfl,f,rfl,rfl,?_,?_⟩⟩
 ·intro d c _
  simp only[af]at c;simp only[S.put,Tr.eN,c,if_false]
 ·intro d c
  rcases c with c | c
  ·simp only[af]at c
   simp only[S.put,Tr.eN,c,if_true]
  ·simp only[S.put]at c;omega
 ·intro d c _
  simp only[af]at c;simp only[S.put,Tr.eN,c,if_false]
def Framed.newP(o:AO):Framed (newP o):=by
 intro s a f h
 cases h
 refine⟨by simp,[],[],rfl,rfl,?_,fun c d _ _=>⟨{ c with h:=c.h.set c.n o,n:=c.n+1 },by simp[Ev.newP,d],by simp[d],rfl,rfl,?_,?_⟩⟩
 ·intro e _ b
  simp only at b⊢;rw[Tr.eN,if_neg bf]
 ·intro e b
  simp only at b⊢;rw[Tr.eN,Tr.eN,d];rcases b with b | b
  ·cases b
  ·rw[if_pos bf,if_pos bf]
 ·intro e _ b
  simp only at b⊢;rw[Tr.eN,if_neg bf]
def look_eq{α:Type}(s:S)(b:Nat)(k:AO→S→Rs α):s.look b k=gq (wW b s) k:=by
 unfold S.look wW
 cases s.h.get b<;>rfl
def Framed.look{α:Type}(b:Nat){k:AO→S→Rs α}(h:∀o,Framed (k o)):Framed (fun s=>s.look b k):=
 .bind' (.wW b) h fun s=>look_eq s b k
def Framed.put{α:Type}(b:Nat)(o:AO){k:S→Rs α}(h:Framed k):Framed (fun s=>k (s.put b o)):=
 .bind' (.RD b o) (fun _=>h) fun _=>rfl
def Framed.new{α:Type}(o:AO){k:Nat→S→Rs α}(h:∀b,Framed (k b)):Framed (fun s=>s.new o k):=
 .bind' (.newP o) h fun _=>rfl
def Framed.cond{α:Type}(b:Bool){x y:S→Rs α}(a:Framed x)(c:Framed y):Framed (fun s=>cond b (x s) (y s)):=by
 cases b
 ·exact c
 ·exact a
def Framed.ret{α:Type}(o:Option α)(a:String):Framed (fun s=>ret o s a):=by
 cases o
 ·exact .no _
 ·exact .ok _
def Framed.jW{α:Type}(b a n:Nat){k:List Y→S→Rs α}(h:∀l,Framed (k l)):Framed (fun s=>s.jW b a n k):=by
 unfold S.jW;refine .look b fun o=>?_
 cases o with
 | row c op=>
  dsimp only
  cases takeN n (c.drop a)with
  | none=>exact .no _
  | some l=>exact h l
 | _=>exact .no _
def Framed.iu{α:Type}(b a:Nat)(l:List Y){k:S→Rs α}(h:Framed k):Framed (fun s=>s.iu b a l k):=by
 unfold S.iu;refine .cond _ (.look b fun o=>?_) (.no _)
 cases o with
 | row c op=>
  dsimp only
  cases putAt a l c with
  | none=>exact .no _
  | some d=>exact .put b _ h
 | _=>exact .no _
def Framed.iJ{α:Type}(size n:Nat)(x:Y){k:List Y→S→Rs α}(h:∀l,Framed (k l)):Framed (fun s=>s.iJ size n x k):=by
 unfold S.iJ
 cases x<;>dsimp only<;>first
  | exact .no _
  | exact .cond _ (h _) (.no _)
  | exact .jW _ _ _ h
  | exact h _
def Framed.jX(size:Nat)(x:Y)(n:Nat){new:S→(List Y→S→RV)→RV}(a:∀k:List Y→S→RV,(∀l,Framed (k l))→Framed (fun s=>new s k)):Framed (jX size x n new):=by
 unfold Ev.jX;refine .cond _ ?_ (.no _)
 cases x<;>dsimp only<;>try exact .no _
 case iC=>exact .cond _ (.ok _) (a _ fun l=> .new _ fun b=> .ok _)
 case oM=>exact .cond _ (.ok _) (.no _)
 case slc b e len f c=>
  refine .cond _ (.look b fun o=>?_) (.cond _ (a _ fun l=> .iu _ _ _ (.ok _)) (.jW _ _ _ fun d=>a _ fun l=> .new _ fun g=> .ok _))
  cases o with
  | row cs o=>
   exact .cond _ (.cond _ (a _ fun l=> .iu _ _ _ (.ok _)) (.cond _ (a _ fun l=> .cond _ (.jW _ _ _ fun d=> .put b _ (.new _ fun g=> .ok _)) (.no _)) (.no _))) (.no _)
  | _=>exact .no _
def yO(k:OK)(cf:bR):Prop:=∀a,Framed (k.run cf a)
def iD(cf:bR):Prop:=∀f a,Framed (cf f a)
end Go.Ev
namespace Go.Ev
open Go.RowKit (Below)
section
variable {B0:Nat} {w0 w:V} {ρ ρ':Env} {h:Tr AO}
structure wX(w w':V)(B:Nat)(ob:Obj):Prop where
 os:w'.os=w.os
 tape:w'.tape=w.tape
 output:w'.output=w.output
 size:w'.heap.size=w.heap.size
 at_:w'.heap[B]?=I ob
 other:∀k,k≠B→w'.heap[k]?=w.heap[k]?
theorem DG{B:Nat}{a:Obj}{w':V}(b:Below B0 w0 w)(u:wX w w' B a)(h:B0≤B):Below B0 w0 w':=
 b.trans ⟨u.os,u.tape,u.output,by rw[u.size];exact bP _,fun k c=>u.other k bf⟩
theorem wX.setRow{B:Nat}{cs cs':Array Z}{t:aN}{fr:Nat×Nat}(a:w.heap[B]?=I (.cells cs t fr)):wX w (w.setRow B cs') B (.cells cs' t fr):=
 ⟨rfl,rfl,rfl,setRow_size w B cs',setRow_heap w B cs cs' t fr a,fun k b=>setRow_other w B k cs' b⟩
theorem wX.setObj{B:Nat}{o o':Obj}(a:w.heap[B]?=I o):wX w { w with heap:=w.heap.setIfInBounds B o' } B o':=by
 have b:B<w.heap.size:=by
  rcases aL B w.heap.size with h | h
  ·exact h
  ·simp[Array.getElem?_eq_none h]at a
 exact⟨rfl,rfl,rfl,by simp,by simp[b],fun k c=>by simp[Array.getElem?_setIfInBounds,Ne.symm c]⟩
theorem Rel.upd{id B κ:Nat}{o o':AO}{N:Obj}{w':V}(r:Rel B0 w0 ρ h w)(b:h.get id=I o)(v:o≠.dead)(c:ρ id=I (B,κ))(u:wX w w' B N)(S:OR ρ κ o' (I N))(T:o'≠.dead):Rel B0 w0 ρ (h.set id o') w':=by
 obtain⟨s,d,e,P,x,_⟩:=r.obj id o b v;rw[c]at e;cases e;refine⟨DG r.z8 u P,by rw[u.size];exact r.base,?_,?_⟩
 ·intro f q a Q
  rw[Tr.eN]at a;by_cases hi:f=id
  ·rw[if_pos hi]at a;cases a;subst hi
   exact⟨B,κ,c,P,by rw[u.size];exact x,by rw[u.at_];exact S⟩
  ·rw[if_neg hi]at a
   obtain⟨s,d,R,y,k,z⟩:=r.obj f q a Q;refine⟨s,d,R,y,by rw[u.size];exact k,?_⟩;rw[u.other s fun C=>hi (by subst C;exact r.inj f id q o s d κ a Q b v R c)];exact z
 ·intro i j p q W E F l g a H X e2
  have key:∀i p,(h.set id o').get i=I p→p≠.dead→∃t,h.get i=I t∧t≠.dead:=by
   intro i p l g;rw[Tr.eN]at l;by_cases hi:i=id
   ·exact⟨o,by rw[hi];exact b,v⟩
   ·rw[if_neg hi]at l;exact⟨p,l,g⟩
  obtain⟨t,K,m⟩:=key i p l g;obtain⟨q',L,n⟩:=key j q a H;exact r.inj i j t q' W E F K m L n X e2
theorem Rel.dead{id:Nat}(r:Rel B0 w0 ρ h w):Rel B0 w0 ρ (h.set id .dead) w:=by
 refine⟨r.z8,r.base,?_,?_⟩
 ·intro b q a k
  rw[Tr.eN]at a;by_cases hi:b=id
  ·rw[if_pos hi]at a;cases a;exact absurd rfl k
  ·rw[if_neg hi]at a;exact r.obj b q a k
 ·intro i j p q m f g c d a e n o
  rw[Tr.eN]at c a;by_cases hi:i=id
  ·rw[if_pos hi]at c;cases c;exact absurd rfl d
  ·by_cases l:j=id
   ·rw[if_pos l]at a;cases a;exact absurd rfl e
   ·rw[if_neg hi]at c;rw[if_neg l]at a
    exact r.inj i j p q m f g c d a e n o
def Env.add(ρ:Env)(id B κ:Nat):Env:=fun i=>if i=id then I (B,κ)else ρ i
theorem Env.qo(ρ:Env)(id B κ:Nat):ρ.add id B κ id=I (B,κ):=by simp[Env.add]
theorem Env.yP{id B κ:Nat}(h:ρ id=J):ρ.le (ρ.add id B κ):=by
 intro i x a;unfold Env.add
 split
 ·rename_i e;subst e;rw[h]at a;cases a
 ·exact a
theorem Ext.add{id B κ n a:Nat}(h:ρ id=J)(b:n≤id)(c:id<a):Ext ρ (ρ.add id B κ) n a:=
 ⟨Env.yP h,fun i hi d=>by unfold Env.add;rw[if_neg bf];exact hi⟩
theorem Rel.ext(r:Rel B0 w0 ρ h w){id B κ:Nat}(x:ρ id=J){o:AO}{w':V}(R:Below B0 w0 w')(y:w.heap.size≤w'.heap.size)
  (e:∀k,k<w.heap.size→k≠B→w'.heap[k]?=w.heap[k]?) (S:B0≤B) (z:B<w'.heap.size) (T:OR (ρ.add id B κ) κ o (w'.heap[B]?))
  (a:∀i p c,h.get i=I p→p≠.dead→ρ i≠I (B,c)):Rel B0 w0 (ρ.add id B κ) (h.set id o) w':=by
 have l:=Env.yP (B:=B) (κ:=κ) x;refine⟨R,aa r.base y,?_,?_⟩
 ·intro i q b N
  rw[Tr.eN]at b;by_cases hi:i=id
  ·rw[if_pos hi]at b;cases b;subst hi
   exact⟨B,κ,Env.qo _ _ _ _,S,z,T⟩
  ·rw[if_neg hi]at b
   obtain⟨P,c,Q,C,m,E⟩:=r.obj i q b N;refine⟨P,c,l _ _ Q,C,by omega,?_⟩;rw[e P m fun F=>a i q c b N (by rw[←F];exact Q)];exact OR.mono l c q _ E
 ·intro i j p q H f d u n b s K v
  rw[Tr.eN]at u b;by_cases hi:i=id
  ·by_cases g:j=id
   ·rw[hi,g]
   ·rw[if_neg g]at b
    subst hi;rw[Env.qo]at K;cases K;have:ρ j=I (B,d):=by have:=v;unfold Env.add at this;rwa [if_neg g]at this
    exact absurd this (a j q d b s)
  ·rw[if_neg hi]at u
   have t:ρ i=I (H,f):=by have:=K;unfold Env.add at this;rwa [if_neg hi]at this
   by_cases g:j=id
   ·subst g
    rw[Env.qo]at v;cases v;exact absurd t (a i p f u n)
   ·rw[if_neg g]at b
    have L:ρ j=I (H,d):=by have:=v;unfold Env.add at this;rwa [if_neg g]at this
    exact r.inj i j p q H f d u n b s t L
theorem Rel.new(r:Rel B0 w0 ρ h w){id κ:Nat}(b:ρ id=J){o:AO}{a:Obj}(f:OR ρ κ o (I a)):Rel B0 w0 (ρ.add id w.heap.size κ) (h.set id o) (w.alloc a):=by
 refine r.ext b (r.z8.alloc r.base a) dR (fun k g _=>Cb _ _ _ g) r.base dR ?_ ?_
 ·have:(w.alloc a).heap[w.heap.size]?=I a:=by show(w.heap.push a)[w.heap.size]?=I a;simp
  rw[this];exact OR.mono (Env.yP b) κ o _ f
 ·intro i p j l m e
  obtain⟨q,c,d,_,n,_⟩:=r.obj i p l m;rw[e]at d;cases d;omega
theorem Rel.drew(r:Rel B0 w0 ρ h w):Rel B0 w0 ρ h w.drew:=⟨r.z8.drew,r.base,r.obj,r.inj⟩
theorem Rel.congr{g:Tr AO}(r:Rel B0 w0 ρ h w)(e:∀id,g.get id=h.get id):Rel B0 w0 ρ g w:=
 ⟨r.z8,r.base,fun id o a k=>r.obj id o (by rw[←e];exact a) k,fun i j p q l b c m d n f s t=>r.inj i j p q l b c (by rw[←e];exact m) d (by rw[←e];exact n) f s t⟩
end
section
variable {P:aQ} {w:V} {ρ:Env}
theorem jx{κ B a n:Nat}{c l:List Y}{op:Nat}(q:OR ρ κ (.row c op) w.heap[B]?)(r:takeN n (c.drop a)=I l):
  ∃vs:List Z,cq ρ l vs∧vs.length=n∧(loadCells ⟨B,a,J⟩ n).run P w=.ok ⟨vs⟩ w∧∀j v,vs[j]?=I v→w.cell? ⟨B,a+j,J⟩=I v:=by
 obtain⟨cs,e,fr,vs,rest,s,_,i,k,_⟩:=q;obtain⟨rfl,t⟩:=vt _ _ _ r;have p:cq ρ ((c.drop a).take n) ((vs.drop a).take n):=cq.take n (cq.drop a k);have d:((vs.drop a).take n).length=n:=by rw[cq.len p];simp at t ⊢;omega
 have b:∀j v,((vs.drop a).take n)[j]?=I v→w.cell? ⟨B,a+j,J⟩=I v:=by
  intro j v f
  have m:j<n:=by
   rcases aL j n with h | h
   ·exact h
   ·rw[dp bf]at f;cases f
  rw[List.getElem?_take_of_lt m,List.getElem?_drop]at f
  have o:a+j<vs.length:=by
   rcases aL (a+j) vs.length with h | h
   ·exact h
   ·rw[dp h]at f;cases f
  simp only[an,s,vG,bZ,if_false];rw[←Array.getElem?_toList,i,List.getElem?_append_left o];exact f
 refine⟨_,p,d,?_,b⟩
 have:=eu (P:=P) w ⟨B,a,J⟩ ((vs.drop a).take n) (fun j v f=>by
  have g:(⟨B,a,J⟩:aB).add j=⟨B,a+j,J⟩:=by unfold j7;split<;>simp_all
  rw[g];exact b j v f)
 rw[d]at this;exact this
theorem si(g o:Nat)(t:aN)(fr:Nat×Nat):∀(vs:List Z)(i:Nat)(a:Array Z)(w:V),w.heap[g]?=I (.cells a t fr)→(∀i,i<a.size→¬ (fr.1≤i∧i<fr.2))→o+i+vs.length≤a.size→(∀v∈vs,v.oneCell'=O)→
  (iT ⟨g,o,J⟩ vs i).run P w=.ok () (w.setRow g (a.toList.take (o+i)++vs++a.toList.drop (o+i+vs.length)).toArray)
 | [],i,a,w,c,_,_,_=>by
  simp only[iT,List.append_nil,List.length_nil,dg,List.take_append_drop,Array.toArray_toList];rw[setRow_self w g a t fr c];rfl
 | v::rest,i,a,w,c,k,h,l=>by
  have hi:o+i<a.size:=by simp at h;omega
  have d:(⟨g,o,J⟩:aB).add i=⟨g,o+i,J⟩:=by unfold j7;split<;>simp_all
  have b:w.cell? ⟨g,o+i,J⟩=I a[o+i]:=by simp[an,c,hi]
  have f:w.frozen? ⟨g,o+i,J⟩=U:=by
   have:=k (o+i) hi;simp only[World.frozen?,c];rw[←Bool.not_eq_true];simpa using this
  have j:(store ((⟨g,o,J⟩:aB).add i) v).run P w=.ok () (w.setRow g (a.setIfInBounds (o+i) v)):=by
   rw[d,run_store P w _ v _ (l v dR),b];simp[f,setCell_eq_setRow w g (o+i) a t fr v c]
  have m:=si g o t fr rest (i+1) (a.setIfInBounds (o+i) v) (w.setRow g (a.setIfInBounds (o+i) v)) (setRow_heap w g a _ t _ c) (by simpa using k) (by simp at h ⊢;omega) (fun x n=>l x (by simp[n]));simp only[iT,az,j,ai,m,setRow_setRow]
  congr 3
  have e:=list_seg_step a.toList (o+i) v rest (by simp at h ⊢;omega);simpa[kS,j6]using e
theorem JP:∀(l c d:List Y),over l c=I d→d=l++c.drop l.length∧l.length≤c.length
 | [],c,d,h=>by simp[over]at h;simp[h]
 | a::l,[],d,h=>by simp[over]at h
 | a::l,x::c,d,h=>by
  simp only[over,dA]at h;obtain⟨y,b,rfl⟩:=h;obtain⟨e,f⟩:=JP l c y b;simp[e,f]
theorem z_:∀(n:Nat)(l c d:List Y),putAt n l c=I d→d=c.take n++l++c.drop (n+l.length)∧n+l.length≤c.length
 | 0,l,c,d,h=>by
  obtain⟨a,b⟩:=JP l c d h;simp[a,b]
 | n+1,l,[],d,h=>by simp[putAt]at h
 | n+1,l,x::c,d,h=>by
  simp only[putAt,dA]at h;obtain⟨y,e,rfl⟩:=h;obtain⟨a,b⟩:=z_ n l c y e;refine⟨?_,by simp;omega⟩;rw[a];simp[Nat.add_right_comm n 1 l.length]
theorem DH{a:Y}{v:Z}(b:a.plain=O)(h:VR ρ a v):v.oneCell'=O:=by
 cases a<;>simp only[VR]at h<;>first
  | (cases b;done)
  | (subst h;rfl)
  | (obtain ⟨_,_,_,rfl⟩:=h;rfl)
  | (obtain ⟨_,_,_,rfl,_⟩:=h;rfl)
  | (obtain ⟨_,_,_,_,rfl⟩:=h;rfl)
  | (obtain ⟨_,_,rfl⟩:=h;rfl)
theorem oO:∀{l:List Y}{vs:List Z},l.all Y.plain=O→cq ρ l vs→∀v∈vs,v.oneCell'=O
 | [],_,_,h=>by cases h;simp
 | a::l,_,c,⟨v,g,d,f,e⟩=>by
  subst e;simp only[lA,aM]at c;intro x b;simp only[List.mem_cons]at b;rcases b with rfl | b
  ·exact DH c.1 d
  ·exact oO c.2 f x b
theorem pN{κ B a:Nat}{c l m:List Y}{op:Nat}{vs:List Z}(q:OR ρ κ (.row c op) w.heap[B]?)(r:putAt a l c=I m)(s:l.all Y.plain=O)(h:cq ρ l vs):
  ∃w' n,(iT ⟨B,a,J⟩ vs).run P w=.ok () w'∧wX w w' B n∧OR ρ κ (.row m op) (I n):=by
 obtain⟨cs,e,fr,g,rest,o,p,d,b,f⟩:=q;obtain⟨rfl,v⟩:=z_ _ _ _ _ r;have t:cs.size=g.length+rest.length:=by rw[←dw,d,ay]
 have u:=cq.len b;have j:=cq.len h;have k:a+vs.length≤g.length:=bf
 have run:=si (P:=P) B a e fr vs 0 cs w o p bf (oO s h);refine⟨_,_,run,wX.setRow o,?_⟩;refine⟨_,e,fr,g.take a++vs++g.drop (a+vs.length),rest,rfl,?_,?_,?_,?_⟩
 ·intro i hi
  refine p i ?_;simp at hi;omega
 ·show(cs.toList.take (a+0)++vs++cs.toList.drop (a+0+vs.length))=_
  rw[d,dg,cQ bf,List.drop_append_of_le_length k];simp
 ·rw[←j]
  exact cq.append (cq.append (cq.take a b) h) (cq.drop _ b)
 ·cases op with
  | zero=>exact f
  | succ sz=>
   show(cs.toList.take (a+0)++vs++cs.toList.drop (a+0+vs.length)).toArray.size=κ*sz;have:cs.size=κ*sz:=f;rw[←this];simp;omega
end
end Go.Ev
namespace Go.Ev
open Go.RowKit (Below)
def df(P:aQ)(o:Oper)(a:Act)(w:V)(R:Z→V→Prop):Prop:=
 ∀(K:Act→V→Prop)(Q:Exit→Act→V→Prop),(∀v w',R v w'→K (a.put o.dst v) w')→o.wp P a w K Q
section
variable {P:aQ} {o:Oper} {a:Act} {w w':V} {R:Z→V→Prop}
theorem df.value{v:Z}(h:(bv a.eval o).run P w=.ok (.value v) w')(r:R v w'):df P o a w R:=by
 intro K Q b;unfold ej;rw[h];exact b v w' r
theorem df.skip(h:(bv a.eval o).run P w=.ok .skip w')(r:R undef w'):df P o a w R:=by
 intro K Q b;unfold ej;rw[h];exact b undef w' r
theorem df.enter{f:FuncId}{args:Array Z}(h:(bv a.eval o).run P w=.ok (.enter f args) w')(c:Calls P f args w' (fun e b=>∃v,e=.returned v∧R v b)):df P o a w R:=by
 intro K Q d;unfold ej;rw[h];refine Calls.mono c ?_;rintro e b ⟨v,rfl,r⟩;exact d v b r
theorem df.mono{b:Z→V→Prop}(h:df P o a w R)(c:∀v w',R v w'→b v w'):df P o a w b:=
 fun K Q d=>h K Q fun v w' r=>d v w' (c v w' r)
end
def Done(B0:Nat)(w0:V)(ρ:Env)(s:S)(v:Y)(s':S):Z→V→Prop:=
 fun a w'=>∃ρ',Ext ρ ρ' s.n s'.n∧VR ρ' v a∧Rel B0 w0 ρ' s'.h w'
structure Good(P:aQ)(cf:bR):Prop where
 framed:∀f av,Framed (cf f av)
 ok:∀f av s v s',cf f av s=.ok v s'→∃fn c,P.funcs[f]?=I fn∧fn.body=I c∧(fn.name== "runtime.NumGoroutine")=U
 calls:∀f av s v s',cf f av s=.ok v s'→∀(B0:Nat)(w0:V)(ρ:Env)(w:V)(vs:List Z),cq ρ av vs→Rel B0 w0 ρ s.h w→ib ρ s.n s'.n→
  Calls P f ⟨vs⟩ w (fun e w'=>∃v',e=.returned v'∧Done B0 w0 ρ s v s' v' w')
def ct(P:aQ)(op:Op)(k:OK):Prop:=∀cf,Good P cf→∀c s v b,k.run cf c s=.ok v b→∀(o:Oper)(a:Act)(w:V)(B0:Nat)(w0:V)(ρ:Env),
 o.op=op→cq ρ c (op.operands.toList.map a.eval)→Rel B0 w0 ρ s.h w→ib ρ s.n b.n→df P o a w (Done B0 w0 ρ s v b)
theorem ct.fail{P:aQ}{op:Op}(a:String):ct P op (failK a):=by
 intro cf _ b s v c h;cases h
section
variable {P:aQ} {ρ:Env} {B0:Nat} {w0 w:V}
theorem oD{a:List Y}{x:Z}(h:cq ρ a [x]):∃p,a=[p]∧VR ρ p x:=by
 match a,h with
 | [],h=>cases h
 | p::l,⟨v,d,b,c,e⟩=>
  cases e
  match l,c with
  | [],_=>exact⟨p,rfl,b⟩
  | q::l,⟨_,_,_,_,e⟩=>cases e
theorem ps{a:List Y}{x:Z}{b:List Z}(h:cq ρ a (x::b)):∃p l,a=p::l∧VR ρ p x∧cq ρ l b:=by
 match a,h with
 | [],h=>cases h
 | p::l,⟨v,f,c,d,e⟩=>cases e;exact⟨p,l,rfl,c,d⟩
theorem RE{a:List Y}(h:cq ρ a []):a=[]:=by
 match a,h with
 | [],_=>rfl
 | p::l,⟨_,_,_,_,e⟩=>cases e
theorem tS{a:List Y}{x y:Z}(h:cq ρ a [x,y]):∃p q,a=[p,q]∧VR ρ p x∧VR ρ q y:=by
 obtain⟨p,l,rfl,b,c⟩:=ps h;obtain⟨q,rfl,d⟩:=oD c;exact⟨p,q,rfl,b,d⟩
theorem RG{a:List Y}{x y z:Z}(h:cq ρ a [x,y,z]):∃p q r,a=[p,q,r]∧VR ρ p x∧VR ρ q y∧VR ρ r z:=by
 obtain⟨p,l,rfl,b,c⟩:=ps h;obtain⟨q,r,rfl,d,e⟩:=tS c;exact⟨p,q,r,rfl,b,d,e⟩
theorem Done.same{s s':S}{v:Y}{v':Z}(r:Rel B0 w0 ρ s.h w)(e:s'.h=s.h)(a:VR ρ v v'):Done B0 w0 ρ s v s' v' w:=
 ⟨ρ,Ext.refl _ _ _,a,by rw[e];exact r⟩
mutual
theorem pO(ρ:Env):∀(v:Z)(a:Y),De v=some a→VR ρ a v
 | .bool b,a,h=>by cases h;rfl
 | .int k n,a,h=>by cases h;rfl
 | .string s,a,h=>by cases h;rfl
 | .pointer none,a,h=>by cases h;rfl
 | .slice none 0 0,a,h=>by cases h;rfl
 | .map none,a,h=>by cases h;rfl
 | .chan none,a,h=>by cases h;rfl
 | .nilFunc,a,h=>by cases h;rfl
 | .nilIface,a,h=>by cases h;rfl
 | .func f ⟨[]⟩ ⟨[]⟩,a,h=>by cases h;exact⟨[],[],rfl,rfl,rfl⟩
 | .func f ⟨_::_⟩ _,a,h=>by cases h
 | .func f ⟨[]⟩ ⟨_::_⟩,a,h=>by cases h
 | .iface t v,a,h=>by
  simp only[De,dA]at h;obtain⟨x,c,rfl⟩:=h;exact⟨v,pO ρ v x c,rfl⟩
 | .agg ⟨l⟩,a,h=>by
  simp only[De,dA]at h;obtain⟨x,c,rfl⟩:=h;exact⟨l,tT ρ l x c,rfl⟩
 | .tuple ⟨l⟩,a,h=>by
  simp only[De,dA]at h;obtain⟨x,c,rfl⟩:=h;exact⟨l,tT ρ l x c,rfl⟩
 | .float ..,a,h=>by cases h
 | .complex ..,a,h=>by cases h
 | .pointer (some _),a,h=>by cases h
 | .slice (some _) _ _,a,h=>by cases h
 | .slice none (_+1) _,a,h=>by cases h
 | .slice none 0 (_+1),a,h=>by cases h
 | .map (some _),a,h=>by cases h
 | .chan (some _),a,h=>by cases h
theorem tT(ρ:Env):∀(l:List Z)(as:List Y),JE l=I as→cq ρ as l
 | [],as,h=>by cases h;rfl
 | v::l,as,h=>by
  simp only[JE]at h
  split at h
  ·rename_i a b c d
   cases h
   exact⟨v,l,pO ρ v a c,tT ρ l b d,rfl⟩
  ·cases h
end
theorem jC{t:Nat}(h:cF P t=O):∃i,P.info? t=I i:=by
 unfold cF at h
 cases hi:P.info? t with
 | some i=>exact⟨i,rfl⟩
 | none=>simp[Program.underlying,hi]at h
theorem aK{t:Nat}{d:TypeDesc}(h:P.underlying t=I d):(underlying t).run P w=.ok d w:=run_underlying h w
theorem eC{t:Nat}(h:cF P t=O):(sizeOf t).run P w=.ok (sizeT P t) w:=by
 obtain⟨i,hi⟩:=jC h;simp only[sizeOf,fU,sizeT,rC,az,program,fz,ai,hi];simp
theorem jY{t:Nat}{i:TypeInfo}(h:P.info? t=I i):(fU t).run P w=.ok i w:=by
 simp only[fU,az,program,fz,ai,h];simp
theorem DI{t:Nat}(h:cF P t=O):∃i,(fU t).run P w=.ok i w∧i.bytes=gN P t:=by
 obtain⟨i,hi⟩:=jC h;exact⟨i,jY hi,by simp[gN,hi]⟩
theorem mB{t:Nat}{z:Y}(h:km P t=I z):∃v,(kr t).run P w=.ok v w∧∀ρ,VR ρ z v:=by
 unfold km at h
 cases hi:P.info? t with
 | none=>simp[hi]at h
 | some i=>
  simp only[hi,iw]at h
  cases a:i.zero with
  | none=>simp[a]at h
  | some v=>
   simp only[a,iw]at h;refine⟨v,?_,fun ρ=>pO ρ v z h⟩;simp only[kr,az,jY hi,ai,a];simp
theorem nP{t:Nat}(h:cF P t=O):(isAgg t).run P w=.ok (fc P t) w:=by
 unfold cF at h
 cases a:P.underlying t with
 | none=>simp[a]at h
 | some d=>
  simp only[isAgg,az,aK a,ai,fc,a]
  cases d<;>simp
theorem lI{p:Y}{x:Z}(h:VR ρ p x):cq ρ p.cells x.cells.toList:=by
 cases p<;>simp only[VR]at h<;>first
  | (subst h;exact⟨_,_,rfl,rfl,rfl⟩)
  | (obtain ⟨c,b,rfl⟩:=h;first | exact b | exact⟨_,_,⟨c,b,rfl⟩,rfl,rfl⟩)
  | (have a:=h;obtain⟨_,_,_,rfl⟩:=h;exact⟨_,_,a,rfl,rfl⟩)
  | (have a:=h;obtain⟨_,_,_,rfl,_⟩:=h;exact⟨_,_,a,rfl,rfl⟩)
  | (have a:=h;obtain⟨_,_,_,_,rfl⟩:=h;exact⟨_,_,a,rfl,rfl⟩)
theorem nQ{p:Y}{x:Z}(h:VR ρ p x):x.cells.size=p.cells.length:=by
 rw[←dw];exact cq.len (lI h)
theorem jt{α:Type}{s s':S}{b:Nat}{k:AO→S→Rs α}{v:α}(h:s.look b k=.ok v s'):∃o,s.h.get b=I o∧k o { s with r:=b::s.r } =.ok v s':=by
 unfold S.look at h
 split at h
 ·rename_i o a;exact⟨o,a,h⟩
 ·cases h
theorem jD{α:Type}{s s':S}{b a n:Nat}{k:List Y→S→Rs α}{v:α}(h:s.jW b a n k=.ok v s'):
  ∃c op l,s.h.get b=I (.row c op)∧takeN n (c.drop a)=I l∧k l { s with r:=b::s.r } =.ok v s':=by
 obtain⟨o,e,d⟩:=jt h
 cases o with
 | row c op=>
  dsimp only at d
  split at d
  ·rename_i l f;exact⟨c,op,l,e,f,d⟩
  ·cases d
 | _=>cases d
theorem oE{α:Type}{s s':S}{b a:Nat}{l:List Y}{k:S→Rs α}{v:α}(h:s.iu b a l k=.ok v s'):
  ∃c op e,l.all Y.plain=O∧s.h.get b=I (.row c op)∧putAt a l c=I e∧k (({ s with r:=b::s.r }:S).put b (.row e op))=.ok v s':=by
 unfold S.iu at h
 cases f:l.all Y.plain with
 | false=>rw[f]at h;cases h
 | true=>
  rw[f]at h;simp only[cond_true]at h;obtain⟨o,g,d⟩:=jt h
  cases o with
  | row c op=>
   dsimp only at d
   split at d
   ·rename_i e i;exact⟨c,op,e,rfl,g,i,d⟩
   ·cases d
  | _=>cases d
theorem Rel.row{h:Tr AO}{id:Nat}{c:List Y}{op:Nat}{B κ:Nat}(r:Rel B0 w0 ρ h w)(a:h.get id=I (.row c op))(b:ρ id=I (B,κ)):OR ρ κ (.row c op) w.heap[B]? :=by
 obtain⟨g,d,e,_,_,f⟩:=r.obj id _ a dR;rw[b]at e;cases e;exact f
theorem Rel.or{h:Tr AO}{id:Nat}{o:AO}{B κ:Nat}(r:Rel B0 w0 ρ h w)(a:h.get id=I o)(c:o≠.dead)(b:ρ id=I (B,κ)):OR ρ κ o w.heap[B]? :=by
 obtain⟨g,d,e,_,_,f⟩:=r.obj id _ a c;rw[b]at e;cases e;exact f
theorem Bb(x:aP)(op:Op)(h:op=.move x∨op=.assign x):ct P op ⟨fun _ a s=>ES a s⟩:=by
 intro cf _ i s v j b o a w B0 w0 ρ e c f k;have d:op.operands.toList.map a.eval=[a.eval x]:=by rcases h with rfl | rfl<;>rfl
 rw[d]at c;obtain⟨p,rfl,g⟩:=oD c
 cases b
 refine df.value (v:=a.eval x) (w':=w) ?_ (Done.same f rfl g);rcases h with rfl | rfl<;>simp[bv,e]
theorem JQ(c x y:aP):ct P (.pick c x y) (gQ P (.pick c x y)):=by
 intro cf _ j s v k b o a w B0 w0 ρ g d h l;obtain⟨p,q,r,rfl,e,i,f⟩:=RG (x:=a.eval c) (y:=a.eval x) (z:=a.eval y) d
 cases p<;>try (cases b;done)
 rename_i t
 cases b
 have e:a.eval c=.bool t:=e;refine df.value (v:=if t then a.eval x else a.eval y) (w':=w) ?_ (Done.same h rfl (by cases t;exact f;exact i));simp[bv,g,e,asBool]
theorem JR(t:Nat)(x:aP):ct P (.load t x) (tJ P t):=by
 intro cf _ S s v N d o a w B0 w0 ρ F n m T;obtain⟨p,rfl,Q⟩:=oD (x:=a.eval x) n;unfold tJ at d
 cases e:cF P t with
 | false=>rw[e]at d;cases d
 | true=>
 rw[e]at d
 cases p<;>try (cases d;done)
 rename_i b r
 obtain⟨B,κ,j,H⟩:=Q;have d:mg (fc P t) (sizeT P t) b r s=.ok v N:=d;unfold mg at d
 cases f:fc P t with
 | true=>
  rw[f]at d;obtain⟨c,op,l,y,z,g⟩:=jD d
  cases g
  obtain⟨C,h,_,k,_⟩:=jx (P:=P) (m.row y j) z;refine df.value (v:=.agg ⟨C⟩) (w':=w) ?_ (Done.same m rfl ⟨C,h,rfl⟩);simp[bv,F,H,Instr.loadAt,kB,loadVar,nP e,f,eC e,k]
 | false=>
  rw[f]at d;obtain⟨c,op,l,y,z,g⟩:=jD d;obtain⟨C,h,K,k,i⟩:=jx (P:=P) (m.row y j) z
  match l,g with
  | [q],g=>
   cases g
   obtain⟨u,W,R,E,rfl⟩:=h
   cases E
   have L:=i 0 u rfl;refine df.value (v:=u) (w':=w) ?_ (Done.same m rfl R);simp only[dg]at L;simp[bv,F,H,Instr.loadAt,kB,loadVar,nP e,f,L]
  | [],g=>cases g
  | _::_::_,g=>cases g
theorem Ic(t:Nat)(x y:aP):ct P (.store t x y) (qn P t):=by
 intro cf _ N s v C d o a w B0 w0 ρ E i r Q;obtain⟨p,q,rfl,F,u⟩:=tS (x:=a.eval x) (y:=a.eval y) i;unfold qn at d
 cases e:cF P t with
 | false=>rw[e]at d;cases d
 | true=>
 rw[e]at d
 cases p<;>try (cases d;done)
 rename_i b j
 obtain⟨B,κ,g,H⟩:=F;have d:cond (ak q.cells.length (sizeT P t)) (s.iu b j q.cells fun s=> .ok cE s) (.no "store: size")=.ok v C:=d
 cases f:ak q.cells.length (sizeT P t)with
 | false=>rw[f]at d;cases d
 | true=>
 rw[f]at d;obtain⟨c,op,R,k,z,l,K⟩:=oE d
 cases K
 obtain⟨w',S,m,L,n⟩:=pN (P:=P) (r.row z g) l k (lI u);refine df.skip (w':=w') ?_ ⟨ρ,Ext.refl _ _ _,⟨[],rfl,rfl⟩,r.upd z dR g L n dR⟩;have h:(a.eval y).cells.size=sizeT P t:=by rw[nQ u];exact aI f
 simp[bv,E,H,Instr.storeAt,kB,storeVar,eC e,h,m]
end
end Go.Ev
namespace Go.Ev
open Go.RowKit (Below)
section
variable {P:aQ} {ρ:Env} {B0:Nat} {w0 w:V}
theorem yQ{l:List Y}{vs:List Z}(h:cq ρ l vs)(κ:Nat)(e:aN):OR ρ κ (.row l 0) (I (.cells ⟨vs⟩ e)):=
 ⟨⟨vs⟩,e,(0,0),vs,[],rfl,fun i _ h=>by omega,by simp,h,rfl⟩
theorem Done.new{s s':S}{v:Y}{v':Z}{o:AO}{b:Obj}{κ:Nat}(c:Rel B0 w0 ρ s.h w)(d:ib ρ s.n s'.n)(h:s'.n=s.n+1)(e:s'.h=s.h.set s.n o)
  (f:OR ρ κ o (I b)) (g:∀ρ',ρ.le ρ'→ρ' s.n=I (w.heap.size,κ)→VR ρ' v v'):Done B0 w0 ρ s v s' v' (w.alloc b):=by
 have a:ρ s.n=J:=d s.n (bP _) bf;exact⟨ρ.add s.n w.heap.size κ,Ext.add a (bP _) bf,g _ (Env.yP a) (Env.qo _ _ _ _),by rw[e];exact c.new a f⟩
theorem Ie(e:Nat):ct P (.alloc e) (gQ P (.alloc e)):=by
 intro cf _ m s v n b o a w B0 w0 ρ f g i j;unfold gQ at b;dsimp only at b
 split at b
 ·rename_i z k
  cases b
  obtain⟨l,c,d⟩:=mB (P:=P) (w:=w) k
  refine df.value (v:=.pointer (I ⟨w.heap.size,0,J⟩)) (w':=w.alloc (.cells l.cells e)) ?_
   (Done.new i j rfl rfl (yQ (lI (d ρ)) 0 e) fun ρ' _ h=>⟨_,_,h,rfl⟩)
  simp[bv,f,Instr.alloc,c,newVar,ou]
 ·cases b
theorem Mf(e:Nat)(x:aP):ct P (.box e x) (gQ P (.box e x)):=by
 intro cf _ j s v k b o a w B0 w0 ρ d c f g;obtain⟨p,rfl,i⟩:=oD (x:=a.eval x) c
 cases b
 refine df.value (v:=.pointer (I ⟨w.heap.size,0,J⟩)) (w':=w.alloc (.cells (a.eval x).cells e)) ?_
  (Done.new f g rfl rfl (yQ (lI i) 0 e) fun ρ' _ h=>⟨_,_,h,rfl⟩)
 simp[bv,d,Instr.box,newVar,ou]
theorem DJ(d:Nat):∀(cs:List Z)(j:Nat)(b:Array Z),d+j+cs.length≤b.size→
  ((cs.zipIdx j).foldl (fun (a:Array Z) (x:Z×Nat)=>a.setIfInBounds (d+x.2) x.1) b).toList=b.toList.take (d+j)++cs++b.toList.drop (d+j+cs.length)
 | [],j,b,_=>by simp
 | c::cs,j,b,h=>by
  simp only[List.zipIdx_cons,List.foldl_cons];rw[DJ d cs (j+1) _ (by simp at h ⊢;omega)];have e:=list_seg_step b.toList (d+j) c cs (by simp at h ⊢;omega);simpa[kS,j6]using e
theorem yR{a:Nat→Option (Nat×Nat)}:∀(is:List Nat)(j c d:List Y)(vs cs:List Z),tK a is j c=I d→cq ρ j vs→cq ρ c cs→
  ∃cs',Instr.fill a ⟨cs⟩ (is.zip vs)=I ⟨cs'⟩∧cq ρ d cs'
 | [],[],c,d,vs,cs,h,k,e=>by
  cases h;cases k
  exact⟨cs,rfl,e⟩
 | [],_::_,c,d,vs,cs,h,k,e=>by cases h
 | _::_,[],c,d,vs,cs,h,k,e=>by cases h
 | i::is,x::s,c,d,vs,cs,h,k,e=>by
  obtain⟨u,t,q,n,rfl⟩:=k;simp only[tK]at h
  split at h
  ·cases h
  ·rename_i b size v
   cases f:ak x.cells.length size with
   | false=>rw[f]at h;cases h
   | true=>
    rw[f]at h;simp only[cond_true]at h
    split at h
    ·rename_i c1 o
     obtain⟨w,B⟩:=z_ _ _ _ _ o;have p:=lI q;have g:=nQ q;have l:=aI f;have r:=cq.len e
     have m:cq ρ c1 (cs.take b++u.cells.toList++cs.drop (b+u.cells.toList.length)):=by
      rw[w];have:u.cells.toList.length=x.cells.length:=by simp[g]
      rw[this];exact cq.append (cq.append (cq.take b e) p) (cq.drop _ e)
     obtain⟨cs',y,z⟩:=yR is s c1 d t _ h n m;refine⟨cs',?_,z⟩;rw[List.zip_cons_cons];simp only[Instr.fill,v];rw[if_neg (by simp[g,l];omega)];rw[←y]
     congr 1
     apply cg;have:=DJ b u.cells.toList 0 ⟨cs⟩ (by simp[g];omega);rw[←Array.toList_zipIdx,Array.foldl_toList]at this;simpa using this
    ·cases h
theorem DL:∀(a:List Field),(a.all fun f=>cF P f.type)=O→a.mapM (fun f=>(P.info? f.type).map fun i=>(f.offset,i.size))=I (a.map fun f=>(f.offset,sizeT P f.type))
 | [],_=>by simp
 | f::a,h=>by
  simp only[lA,aM]at h;obtain⟨i,hi⟩:=jC h.1;have b:=DL a h.2;rw[List.mapM_cons,b];simp[hi,sizeT,rC]
theorem sj(a:Act)(b:Array (Nat×aP)):((b.map fun(i,x)=>(i,a.eval x)).toList)=(b.toList.map (·.1)).zip ((b.toList.map (·.2)).map a.eval):=by
 rw[qA]
 induction b.toList with
 | nil=>rfl
 | cons p l c=>simp[c]
theorem sp{t:Nat}{z:Y}(h:km P t=I z):∃i v,P.info? t=I i∧i.zero=I v∧∀ρ,VR ρ z v:=by
 unfold km at h
 cases hi:P.info? t with
 | none=>simp[hi]at h
 | some i=>
  simp only[hi,iw]at h
  cases a:i.zero with
  | none=>simp[a]at h
  | some v=>
   simp only[a,iw]at h;exact⟨i,v,rfl,a,fun ρ=>pO ρ v z h⟩
theorem If(t:Nat)(l:Array (Nat×aP)):ct P (.build t l) (oZ P t (l.toList.map (·.1))):=by
 intro cf _ y s v R b o a w B0 w0 ρ H k K S;have k:cq ρ y ((l.toList.map (·.2)).map a.eval):=by simpa[cY]using k
 unfold oZ at b
 split at b
 ·rename_i z L B C
  obtain⟨i,N,hi,m,p⟩:=sp B;obtain⟨zs,q,rfl⟩:=p ρ
  cases d:L.toList.all (fun f=>cF P f.type)with
  | false=>simp only[d,cond_false]at b;cases b
  | true=>
   simp only[d,cond_true]at b
   cases g:tK (fun x=>(L.toList.map fun f=>(f.offset,sizeT P f.type))[x]?) (l.toList.map (·.1)) y z with
   | none=>simp only[g]at b;cases b
   | some c=>
    simp only[g]at b
    cases b
    obtain⟨h,j,r⟩:=yR _ _ _ _ _ _ g k q;refine df.value (v:=.agg ⟨h⟩) (w':=w) ?_ (Done.same K rfl ⟨h,r,rfl⟩)
    have E:P.built t (l.map fun(i,x)=>(i,a.eval x)).toList=I ⟨h⟩:=by
     rw[sj];unfold Program.built;simp only[hi,C,m,DL _ d];simpa[sF]using j
    simp[bv,H,run_build w t _ _ E]
 ·rename_i z n e B C
  obtain⟨i,N,hi,m,p⟩:=sp B;obtain⟨zs,q,rfl⟩:=p ρ
  cases d:cF P e with
  | false=>simp only[d,cond_false]at b;cases b
  | true=>
   simp only[d,cond_true]at b;obtain⟨Q,u⟩:=jC d;have F:sizeT P e=Q.size:=by simp[sizeT,rC,u]
   cases g:tK (fun i=>I (i*sizeT P e,sizeT P e)) (l.toList.map (·.1)) y z with
   | none=>simp only[g]at b;cases b
   | some c=>
    simp only[g]at b
    cases b
    obtain⟨h,j,r⟩:=yR _ _ _ _ _ _ g k q;refine df.value (v:=.agg ⟨h⟩) (w':=w) ?_ (Done.same K rfl ⟨h,r,rfl⟩)
    have E:P.built t (l.map fun(i,x)=>(i,a.eval x)).toList=I ⟨h⟩:=by
     rw[sj];unfold Program.built;simp only[hi,C,m,u];simpa[F,sF]using j
    simp[bv,H,run_build w t _ _ E]
 ·cases b
theorem yS{t:Nat}{a:String}{f:Nat}(h:(oA P t a).f=I f):∃i m ptr d,P.info? t=I i∧i.methods.find? (·.name==a)=I m∧m.path=#[]∧m.func=I (f,ptr)∧
  P.underlying t=I d∧((∃e,d=.pointer e)∧ptr=O∨(∀e,d≠.pointer e)∧ptr=U):=by
 unfold oA at h;dsimp only at h
 split at h
 ·rename_i m hm
  cases hi:P.info? t with
  | none=>simp[hi]at hm
  | some i=>
   simp only[hi,iw]at hm
   split at h
   ·rename_i g ptr c b
    have l:m.path=#[]:=by simpa using c
    split at h
    ·rename_i e j;cases h;exact⟨i,m,O,_,rfl,hm,l,b,j,.inl ⟨⟨e,rfl⟩,rfl⟩⟩
    ·cases h
    ·rename_i d k j
     cases h
     exact⟨i,m,U,d,rfl,hm,l,b,j,.inr ⟨fun e n=>k e n,rfl⟩⟩
    ·cases h
   ·cases h
 ·cases h
theorem EW{t:Nat}{a:String}{f:Nat}(h:(oA P t a).f=I f)(n:Nat)(y:Z):(nilAhead (n+1) t y a).run P w=.ok (I U) w:=by
 obtain⟨i,m,ptr,d,hi,hm,g,b,j,k⟩:=yS h;simp only[nilAhead,az,jY hi,ai,hm,g,b];simp only[followBlind,bH,ai];rcases k with⟨⟨e,rfl⟩,rfl⟩ | ⟨c,rfl⟩
 ·simp
 ·simp only[az,aK j,ai]
  cases d<;>first | (exact absurd rfl (c _)) | simp
theorem JS{t:Nat}{a:String}{f:Nat}(h:(oA P t a).f=I f)(n:Nat)(y:Z):(method (n+1) t y a).run P w=.ok (f,y) w:=by
 obtain⟨i,m,ptr,d,hi,hm,j,b,g,k⟩:=yS h;simp only[method,az,jY hi,ai,hm,j,b];simp only[follow,bH,ai];rcases k with⟨⟨e,rfl⟩,rfl⟩ | ⟨c,rfl⟩
 ·simp[receiverAt,aK g,Place.get]
 ·simp only[receiverAt,az,aK g,ai]
  cases d<;>first | (exact absurd rfl (c _)) | simp[Place.get]
theorem BE(x:aP):ct P (.nilCheck x) (gQ P (.nilCheck x)):=by
 intro cf _ R s v S d o a w B0 w0 ρ q z r T;obtain⟨p,rfl,h⟩:=oD (x:=a.eval x) z;unfold gQ at d;dsimp only at d
 split at d
 ·rename_i b i j
  cases j;cases d
  have e:=h;obtain⟨B,κ,_,m⟩:=e;refine df.value (v:=a.eval x) (w':=w) ?_ (Done.same r rfl h);simp[bv,q,m]
 ·rename_i t v j
  cases j;cases d
  have e:=h;obtain⟨y,_,m⟩:=e;refine df.value (v:=a.eval x) (w':=w) ?_ (Done.same r rfl h);simp[bv,q,m]
 ·rename_i f l c j
  cases j;cases d
  have e:=h;obtain⟨F,H,_,_,m⟩:=e;refine df.value (v:=a.eval x) (w':=w) ?_ (Done.same r rfl h);simp[bv,q,m]
 ·rename_i n t y c j
  cases j
  split at d
  ·rename_i g K
   cases d
   have e:=h;obtain⟨F,H,⟨u,W,⟨X,_,L⟩,C,E⟩,_,m⟩:=e
   cases C
   subst E;subst L;refine df.value (v:=a.eval x) (w':=w) ?_ (Done.same r rfl h);have N:∃k,P.types.size+uY=k+1:=⟨P.types.size+99,by simp[uY]⟩;obtain⟨k,Q⟩:=N;simp[bv,q,m,Q,EW K]
  ·cases d
 ·cases d
theorem tU(t:Nat)(x:aP):ct P (.makeInterface t x) (gQ P (.makeInterface t x)):=by
 intro cf _ h s v i b o a w B0 w0 ρ e c f j;obtain⟨p,rfl,g⟩:=oD (x:=a.eval x) c;unfold gQ at b;dsimp only at b
 cases d:LZ P t with
 | false=>simp only[d,cond_false]at b;cases b
 | true=>
  simp only[d,cond_true]at b
  cases b
  refine df.value (v:=.iface t (a.eval x)) (w':=w) ?_ (Done.same f rfl ⟨_,g,rfl⟩);simp[bv,e,run_makeInterface w t _ (show P.concrete t=O from d)]
theorem BG(f:Fn)(x c:Array aP):ct P (.makeFunc f x c) (gQ P (.makeFunc f x c)):=by
 intro cf _ i s v l d o a w B0 w0 ρ j b k m;have b:cq ρ i ((x.toList++c.toList).map a.eval):=by simpa[cY]using b
 cases d
 have e:(x.toList.map a.eval).length=x.size:=dR
 rw[nY]at b;have g:=cq.take x.size b;have h:=cq.drop x.size b;rw[List.take_left' e]at g;rw[List.drop_left' e]at h;refine df.value (v:=.func f (x.map a.eval) (c.map a.eval)) (w':=w) ?_ (Done.same k rfl ⟨_,_,g,h,?_⟩)
 ·simp[bv,j,Instr.makeFunc]
 ·congr 1<;>(apply cg;simp)
theorem sq{α:Type}{l:List α}{n:Nat}{x:α}{r:List α}(h:l.drop n=x::r):l[n]?=I x:=by
 have:=congrArg List.head? h;simpa[List.head?_drop]using this
theorem JT{l:List Y}{vs:List Z}(h:cq ρ l vs){n:Nat}{x:Y}(a:l[n]?=I x):∃v,vs[n]?=I v∧VR ρ x v:=by
 have c:=cq.drop n h
 have e:l.drop n=x::l.drop (n+1):=by
  rcases aL n l.length with b | b
  ·rw[eD b]
   rw[cC b]at a
   cases a;rfl
  ·rw[dp b]at a;cases a
 rw[e]at c;obtain⟨v,g,d,_,f⟩:=c;exact⟨v,sq f,d⟩
theorem DM(x:aP)(i:Nat):ct P (.extract x i) (gQ P (.extract x i)):=by
 intro cf _ n s v t b o a w B0 w0 ρ f c g y;obtain⟨p,rfl,h⟩:=oD (x:=a.eval x) c
 cases p<;>try (cases b;done)
 rename_i l
 unfold gQ at b;dsimp only at b
 split at b
 ·rename_i q r j
  cases b
  obtain⟨z,d,k⟩:=h;obtain⟨u,m,e⟩:=JT d (sq j);refine df.value (v:=u) (w':=w) ?_ (Done.same g rfl e);simp[bv,f,k,Instr.extract,m]
 ·cases b
theorem DN{t a:Nat}{l:List Y}{vs:List Z}{v:Y}(c:cF P t=O)(d:cq ρ l vs)(h:wP a l (fc P t) (sizeT P t)=I v):
  ∃u,(part t ⟨vs⟩ a).run P w=.ok u w∧VR ρ v u:=by
 unfold wP at h
 cases b:fc P t with
 | true=>
  rw[b]at h;simp only[cond_true,dA]at h;obtain⟨m,hm,rfl⟩:=h;obtain⟨rfl,i⟩:=vt _ _ _ hm;refine⟨.agg ⟨(vs.drop a).take (sizeT P t)⟩,?_,⟨_,cq.take _ (cq.drop a d),rfl⟩⟩;simp only[part,az,nP c,ai,b,if_true,eC c];simp only[bH]
  congr 2
  apply cg;simp[jb]
 | false=>
  rw[b]at h;simp only[cond_false]at h
  split at h
  ·rename_i q r f
   cases h
   obtain⟨u,g,e⟩:=JT d (sq f);refine⟨u,?_,e⟩;simp only[part,az,nP c,ai,b];simp[g]
  ·cases h
theorem Ig(t:Nat)(x:aP)(f:Nat):ct P (.field t x f) (o_ P t f):=by
 intro cf _ B s v C b o a w B0 w0 ρ k g m E;obtain⟨p,rfl,n⟩:=oD (x:=a.eval x) g;unfold o_ at b
 split at b
 ·rename_i F r
  split at b
  ·rename_i d y
   cases c:cF P d.type with
   | false=>simp only[c,cond_false]at b;cases b
   | true=>
    simp only[c,cond_true]at b
    cases p<;>try (cases b;done)
    rename_i l
    dsimp only at b
    cases e:wP d.offset l (fc P d.type) (sizeT P d.type)with
    | none=>rw[e]at b;cases b
    | some q=>
     rw[e]at b
     cases b
     obtain⟨H,h,z⟩:=n;obtain⟨u,i,j⟩:=DN (P:=P) (w:=w) c h e;refine df.value (v:=u) (w':=w) ?_ (Done.same m rfl j);simp[bv,k,z,Instr.field,aK r,y,asAgg,i]
  ·cases b
 ·cases b
theorem addr_add(B a n:Nat):(⟨B,a,J⟩:aB).add n=⟨B,a+n,J⟩:=by unfold j7;split<;>simp_all
theorem Aa(t:Nat)(x:aP)(f:Nat):ct P (.fieldAddr t x f) (ie P t f):=by
 intro cf _ r s v u b o a w B0 w0 ρ j g k y;obtain⟨p,rfl,l⟩:=oD (x:=a.eval x) g;unfold ie at b
 split at b
 ·rename_i z m
  split at b
  ·rename_i d n
   cases c:(cF P d.type&&!(ak (sizeT P d.type) 0))with
   | false=>simp only[c,cond_false]at b;cases b
   | true=>
    simp only[c,cond_true]at b;simp only[aM,fm]at c
    cases p<;>try (cases b;done)
    cases b
    obtain⟨B,κ,h,q⟩:=l;have i:sizeT P d.type≠0:=fun e=>by rw[e]at c;cases c.2
    refine df.value (w':=w) ?_ (Done.same k rfl ⟨B,κ,h,rfl⟩);simp[bv,j,q,Instr.fieldAt,aK m,n,kB,fieldPlace,eC c.1,i,addr_add]
  ·cases b
 ·cases b
theorem Ab(t:Nat)(x i:aP):ct P (.indexAddr t x i) (ig P t):=by
 intro cf _ L s v N d o a w B0 w0 ρ E m F Q;obtain⟨p,q,rfl,H,l⟩:=tS (x:=a.eval x) (y:=a.eval i) m;unfold ig at d
 split at d
 ·rename_i e r
  cases f:cF P e with
  | false=>simp only[f,dE,cond_true]at d;cases d
  | true=>
   simp only[f,cL,cond_false]at d
   split at d
   ·rename_i b u len K c k n z
    cases z
    cases g:bM n len with
    | false=>rw[g]at d;cases d
    | true=>
     rw[g]at d
     cases d
     obtain⟨B,κ,j,C,_⟩:=H;have l:a.eval i=.int k (.ofNat n):=l;have h:n<len:=by simpa[kh]using g
     refine df.value (w':=w) ?_ (Done.same F rfl ⟨B,κ,j,rfl⟩);simp[bv,E,C,l,Instr.indexAt,aK r,oJ,eC f,h,addr_add]
   ·cases d
 ·rename_i len e r
  cases f:cF P e with
  | false=>simp only[f,dE,cond_true]at d;cases d
  | true=>
   simp only[f,cL,cond_false]at d
   split at d
   ·rename_i b u k n z
    cases z
    cases g:bM n len with
    | false=>rw[g]at d;cases d
    | true=>
     rw[g]at d
     cases d
     obtain⟨B,κ,j,C⟩:=H;have l:a.eval i=.int k (.ofNat n):=l;have h:n<len:=by simpa[kh]using g
     refine df.value (w':=w) ?_ (Done.same F rfl ⟨B,κ,j,rfl⟩);simp[bv,E,C,l,Instr.indexAt,aK r,oJ,eC f,h,addr_add,kB]
   ·cases d
 ·cases d
theorem Ih(t:Nat)(x i:aP):ct P (.index t x i) (pa P t):=by
 intro cf _ W s v X b o a w B0 w0 ρ N C Q hf;obtain⟨p,q,rfl,B,z⟩:=tS (x:=a.eval x) (y:=a.eval i) C;unfold pa at b
 split at b
 ·rename_i E
  dsimp only at b
  split at b
  ·rename_i l k n F
   cases F
   split at b
   ·rename_i c r R
    cases b
    have B:a.eval x=.string ⟨⟨l⟩⟩:=B;have z:a.eval i=.int k (.ofNat n):=z;have g:=sq R;refine df.value (v:=.int .u8 c.toNat) (w':=w) ?_ (Done.same Q rfl rfl)
    have S:(⟨⟨l⟩⟩:ByteArray)[n]?=I c:=by
     have d:n<l.length:=by
      rcases aL n l.length with h | h
      ·exact h
      ·rw[dp h]at g;cases g
     have f:n<(⟨⟨l⟩⟩:ByteArray).size:=d;rw[getElem?_pos (⟨⟨l⟩⟩:ByteArray) n f];rw[cC d]at g;exact g
    simp[bv,N,B,z,pi,aK E,oJ,S]
   ·cases b
  ·cases b
 ·rename_i len e E
  cases j:cF P e with
  | false=>simp only[j,dE,cond_true]at b;cases b
  | true=>
   simp only[j,cL,cond_false]at b
   split at b
   ·rename_i l k n F
    cases F
    cases d:bM n len with
    | false=>rw[d]at b;cases b
    | true=>
     rw[d]at b;simp only[cond_true]at b
     cases m:wP (n*sizeT P e) l (fc P e) (sizeT P e)with
     | none=>rw[m]at b;cases b
     | some r=>
      rw[m]at b
      cases b
      obtain⟨vs,H,T⟩:=B;have z:a.eval i=.int k (.ofNat n):=z;have f:n<len:=by simpa[kh]using d
      obtain⟨u,K,L⟩:=DN (P:=P) (w:=w) j H m;refine df.value (v:=u) (w':=w) ?_ (Done.same Q rfl L);simp[bv,N,T,z,pi,aK E,oJ,eC j,f,K]
   ·cases b
 ·cases b
end
end Go.Ev
namespace Go.Ev
open Go.RowKit (Below)
section
variable {P:aQ} {ρ:Env} {B0:Nat} {w0 w:V}
theorem tV(n x:Nat)(h:bM x (2 ^ n)=O):(bF n (x:Int)).toNat=x:=by
 rw[BitVec.ofInt_natCast,BitVec.toNat_ofNat];exact gv (by simpa[kh]using h)
theorem Ac{k:cZ}{f:Nat→Nat→Nat}{x y:Int}{v:Y}(h:wO k f x y=I v):∃a b:Nat,x=a∧y=b∧v=.int k (k.wrap (f a b:Nat))∧(bF k.bits x).toNat=a∧(bF k.bits y).toNat=b:=by
 unfold wO at h
 split at h
 ·rename_i a b
  cases c:(bM a (2 ^ k.bits)&&bM b (2 ^ k.bits))with
  | false=>rw[c]at h;cases h
  | true=>
   rw[c]at h;simp only[aM]at c
   cases h
   exact⟨a,b,rfl,rfl,rfl,tV _ _ c.1,tV _ _ c.2⟩
 ·cases h
theorem RH{op:BinOp}{k:cZ}{x y:Int}{v:Y}(t:aN)(f:op≠.shl∧op≠.shr)(h:re op k x y=I v):∃u,(dr op t (.int k x) (.int k y)).run P w=.ok u w∧∀ρ,VR ρ v u:=by
 cases op<;>simp only[re]at h
 case add=>cases h;exact⟨.int k (k.wrap (x+y)),by simp[dr,sG],fun _=>rfl⟩
 case sub=>cases h;exact⟨.int k (k.wrap (x-y)),by simp[dr,sG],fun _=>rfl⟩
 case mul=>cases h;exact⟨.int k (k.wrap (x*y)),by simp[dr,sG],fun _=>rfl⟩
 case quo=>
  split at h
  ·cases h
  ·rename_i e;cases h;exact⟨_,by simp only[dr,ne_eq,not_true_eq_false,if_false,Op.intDiv,e];exact rfl,fun _=>rfl⟩
 case rem=>
  split at h
  ·cases h
  ·rename_i e;cases h;exact⟨_,by simp only[dr,ne_eq,not_true_eq_false,if_false,Op.intDiv,e];exact rfl,fun _=>rfl⟩
 case and=>
  obtain⟨a,b,rfl,rfl,rfl,c,d⟩:=Ac h;refine⟨_,by simp only[dr,ne_eq,not_true_eq_false,if_false,Bz];exact rfl,fun _=>?_⟩;show gV k (k.wrap ((bF k.bits a &&& bF k.bits b).toNat:Nat))=_;rw[BitVec.toNat_and,c,d]
 case or=>
  obtain⟨a,b,rfl,rfl,rfl,c,d⟩:=Ac h;refine⟨_,by simp only[dr,ne_eq,not_true_eq_false,if_false,Bz];exact rfl,fun _=>?_⟩;show gV k (k.wrap ((bF k.bits a ||| bF k.bits b).toNat:Nat))=_;rw[BitVec.toNat_or,c,d]
 case xor=>
  obtain⟨a,b,rfl,rfl,rfl,c,d⟩:=Ac h;refine⟨_,by simp only[dr,ne_eq,not_true_eq_false,if_false,Bz];exact rfl,fun _=>?_⟩;show gV k (k.wrap ((bF k.bits a ^^^ bF k.bits b).toNat:Nat))=_;rw[qy,c,d]
 case shl=>exact absurd rfl f.1
 case shr=>exact absurd rfl f.2
 case andNot=>simp[Qz]at h
 all_goals
  simp only[Qz,Option.map_some,bU]at h;subst h;exact⟨_,by simp only[dr,ne_eq,not_true_eq_false,if_false,Op.intCmp];exact rfl,fun _=>rfl⟩
theorem toList_mk(l:List UInt8):(⟨⟨l⟩⟩:ByteArray).toList=l:=by rw[ByteArray.toList_eq]
theorem RI{op:BinOp}{x y:List UInt8}{v:Y}(t:aN)(h:Nb op x y=I v)(d:op≠.shl∧op≠.shr):∃u,(dr op t (.string ⟨⟨x⟩⟩) (.string ⟨⟨y⟩⟩)).run P w=.ok u w∧∀ρ,VR ρ v u:=by
 cases op<;>simp only[Nb]at h<;>try (cases h;done)
 case add=>
  cases a:aG (x.length+y.length) 1000000 with
  | false=>rw[a]at h;cases h
  | true=>
  rw[a]at h
  cases h
  have e:x.length+y.length≤1000000:=ax a;refine⟨.string (⟨⟨x⟩⟩++⟨⟨y⟩⟩),?_,fun ρ=>?_⟩
  ·have b:(⟨⟨x⟩⟩:ByteArray).size=x.length:=rfl
   have c:(⟨⟨y⟩⟩:ByteArray).size=y.length:=rfl;simp only[dr,Op.stringOp];rw[if_neg (by simp[IntKind.max,IntKind.signed,IntKind.bits,b,c];omega)];rfl
  ·show qN _=qN _
   congr 1
 all_goals
  cases h
  refine⟨_,by simp only[dr,Op.stringOp,toList_mk];exact rfl,fun _=>rfl⟩
theorem DO{k t:Nat}{a b:Y}{r:Bool}{u v:Z}(d:Nat)(c:qJ P t=I k)(h:sd k a b=I r)(g:VR ρ a u)(i:VR ρ b v):(cG (d+1) t u v).run P w=.ok r w:=by
 unfold qJ at c
 split at c
 ·rename_i f;cases c
  cases a<;>try (cases h;done)
  cases b<;>try (cases h;done)
  cases h;cases g;cases i
  exact xW w d t _ _ f
 ·rename_i q f;cases c
  cases a<;>try (cases h;done)
  cases b<;>try (cases h;done)
  simp only[sd]at h
  split at h
  ·rename_i e;subst e;cases h;cases g;cases i
   exact run_equalIn_int w d t _ q _ _ f
  ·cases h
 ·rename_i f;cases c
  cases a<;>try (cases h;done)
  cases b<;>try (cases h;done)
  cases h;cases g;cases i
  have:=vE w d t ⟨⟨‹List UInt8›⟩⟩ ⟨⟨‹List UInt8›⟩⟩ f;rw[vE w d t _ _ f,toList_mk,toList_mk]
 ·cases c
theorem Mg{k t:Nat}(a:qJ P t=I k):cF P t=O∧fc P t=U:=by
 unfold qJ at a;unfold cF fc
 split at a<;>first
  | (rename_i b;simp[b];done)
  | cases a
theorem wY{k t b:Nat}{l:List Y}{vs:List Z}{a:Y}(f:qJ P t=I k)(d:cq ρ l vs)(h:l[b]?=I a):∃u,(part t ⟨vs⟩ b).run P w=.ok u w∧VR ρ a u:=by
 obtain⟨g,i⟩:=Mg f;refine DN g d ?_;unfold wP;rw[i]
 have c:b<l.length:=by
  rcases aL b l.length with e | e
  ·exact e
  ·rw[dp e]at h;cases h
 rw[eD c];rw[cC c]at h;exact h
theorem yT(d:Nat){s t:List Y}{x vs:List Z}(y:cq ρ s x)(z:cq ρ t vs):∀(n:List Field)(l:List (Nat×Nat))(r:Bool),oB P n=I l→se l s t=I r→
  (zx (d+1) ⟨x⟩ ⟨vs⟩ n).run P w=.ok r w
 | [],l,r,c,g=>by cases c;cases g;rfl
 | f::n,l,r,c,g=>by
  simp only[oB]at c
  split at c
  ·rename_i k m o hm
   cases p:(f.name != "_")with
   | false=>rw[p]at c;cases c
   | true=>
    rw[p]at c
    cases c
    simp only[se]at g
    split at g
    ·rename_i a b E F
     obtain⟨u,B,h⟩:=wY (P:=P) (w:=w) o y E;obtain⟨v,C,i⟩:=wY (P:=P) (w:=w) o z F;have j:f.name≠ "_" :=by simpa using p
     split at g
     ·rename_i q
      have e:=DO (P:=P) (w:=w) d o q h i;simp only[zx,j,ne_eq,not_false_eq_true,if_true,az,B,C,e,ai];simpa using yT d y z n m r hm g
     ·rename_i q
      have e:=DO (P:=P) (w:=w) d o q h i
      cases g
      simp only[zx,j,ne_eq,not_false_eq_true,if_true,az,B,C,e,ai];simp
     ·cases g
    ·cases g
  ·cases c
theorem Nv{t:Nat}{x y:aP}{p q:Y}{r:Bool}{u v:Z}(h:(QB P t x y).run p q=I r)(b:VR ρ p u)(c:VR ρ q v):
  (Op.equal t u v).run P w=.ok r w∧(∀op,(gB op t x y u v).run P w=.ok () w)∧(∀k n,u≠.int k n)∧(∀s,u≠.string s)∧(∀k n,u≠.float k n)∧(∀k n m,u≠.complex k n m):=by
 unfold QB at h
 split at h
 ·rename_i a
  dsimp only at h
  cases p<;>try (cases h;done)
  cases q<;>try (cases h;done)
  cases h;cases b;cases c
  exact⟨xW w 9999 t _ _ a,fun op=>by cases op<;>simp[gB],by simp,by simp,by simp,by simp⟩
 ·rename_i e a
  dsimp only at h;unfold eqNil at h
  split at h
  ·cases h;cases b;cases c
   exact⟨(fun d=>by simp[cG,aK a]:∀d,(cG (d+1) t _ _).run P w=.ok _ w) 9999,fun op=>by cases op<;>simp[gB],by simp,by simp,by simp,by simp⟩
  ·cases h;cases b;obtain⟨B,κ,_,rfl⟩:=c
   exact⟨(fun d=>by simp[cG,aK a]:∀d,(cG (d+1) t _ _).run P w=.ok _ w) 9999,fun op=>by cases op<;>simp[gB],by simp,by simp,by simp,by simp⟩
  ·cases h;cases c;obtain⟨B,κ,_,rfl⟩:=b
   exact⟨(fun d=>by simp[cG,aK a]:∀d,(cG (d+1) t _ _).run P w=.ok _ w) 9999,fun op=>by cases op<;>simp[gB],by simp,by simp,by simp,by simp⟩
  ·cases h
 ·rename_i e a
  dsimp only at h;unfold Nf at h
  split at h
  ·cases h;cases b;cases c
   exact⟨(fun d=>by simp[cG,aK a]:∀d,(cG (d+1) t _ _).run P w=.ok _ w) 9999,fun op=>by cases op<;>simp[gB],by simp,by simp,by simp,by simp⟩
  ·cases h;cases b;obtain⟨B,κ,_,rfl,_⟩:=c
   exact⟨(fun d=>by simp[cG,aK a]:∀d,(cG (d+1) t _ _).run P w=.ok _ w) 9999,fun op=>by cases op<;>simp[gB],by simp,by simp,by simp,by simp⟩
  ·cases h;cases c;obtain⟨B,κ,_,rfl,_⟩:=b
   exact⟨(fun d=>by simp[cG,aK a]:∀d,(cG (d+1) t _ _).run P w=.ok _ w) 9999,fun op=>by cases op<;>simp[gB],by simp,by simp,by simp,by simp⟩
  ·cases h;cases b;obtain⟨B,κ,_,rfl⟩:=c
   exact⟨(fun d=>by simp[cG,aK a]:∀d,(cG (d+1) t _ _).run P w=.ok _ w) 9999,fun op=>by cases op<;>simp[gB],by simp,by simp,by simp,by simp⟩
  ·cases h;cases c;obtain⟨B,κ,_,rfl⟩:=b
   exact⟨(fun d=>by simp[cG,aK a]:∀d,(cG (d+1) t _ _).run P w=.ok _ w) 9999,fun op=>by cases op<;>simp[gB],by simp,by simp,by simp,by simp⟩
  ·cases h
 ·rename_i k e a
  dsimp only at h;unfold Ng at h
  split at h
  ·cases h;cases b;cases c
   exact⟨(fun d=>by simp[cG,aK a]:∀d,(cG (d+1) t _ _).run P w=.ok _ w) 9999,fun op=>by cases op<;>simp[gB],by simp,by simp,by simp,by simp⟩
  ·cases h;cases b;obtain⟨B,κ,_,rfl⟩:=c
   exact⟨(fun d=>by simp[cG,aK a]:∀d,(cG (d+1) t _ _).run P w=.ok _ w) 9999,fun op=>by cases op<;>simp[gB],by simp,by simp,by simp,by simp⟩
  ·cases h;cases c;obtain⟨B,κ,_,rfl⟩:=b
   exact⟨(fun d=>by simp[cG,aK a]:∀d,(cG (d+1) t _ _).run P w=.ok _ w) 9999,fun op=>by cases op<;>simp[gB],by simp,by simp,by simp,by simp⟩
  ·cases h
 ·rename_i ms a
  dsimp only at h;unfold Nh at h
  split at h
  ·cases i:(QA x||QA y)with
   | false=>rw[i]at h;cases h
   | true=>
    rw[i]at h
    cases h;cases b;cases c
    refine⟨(fun d=>by simp[cG,aK a]:∀d,(cG (d+1) t _ _).run P w=.ok _ w) 9999,fun op=>?_,by simp,by simp,by simp,by simp⟩
    cases op<;>simp[gB]
    all_goals
     cases x<;>cases y<;>simp[QA]at i<;>simp
  ·cases h;cases b;obtain⟨z,_,rfl⟩:=c
   exact⟨(fun d=>by simp[cG,aK a]:∀d,(cG (d+1) t _ _).run P w=.ok _ w) 9999,fun op=>by cases op<;>simp[gB],by simp,by simp,by simp,by simp⟩
  ·cases h;cases c;obtain⟨z,_,rfl⟩:=b
   exact⟨(fun d=>by simp[cG,aK a]:∀d,(cG (d+1) t _ _).run P w=.ok _ w) 9999,fun op=>by cases op<;>simp[gB],by simp,by simp,by simp,by simp⟩
  ·cases h
 ·rename_i C a
  split at h
  ·rename_i l E
   cases f:(P.stoodInHeld t||P.eqGuardType P.depth t)with
   | true=>rw[f]at h;cases h
   | false=>
    rw[f]at h;simp only[ji]at f;dsimp only[cond_false]at h
    split at h
    ·rename_i K L
     obtain⟨F,j,rfl⟩:=b;obtain⟨H,o,rfl⟩:=c;have g:P.fieldsOf t=C:=by simp[Program.fieldsOf,a]
     refine⟨?_,fun op=>run_eqGuard_agg w op t x y ⟨F⟩ ⟨H⟩ f.2,by simp,by simp,by simp,by simp⟩;show(cG 10000 t _ _).run P w=_;rw[run_equalIn_agg w 9999 t _ _ (by rw[g];exact a) f.1,g];exact yT 9998 j o C.toList l r E h
    ·cases h
  ·cases h
 ·cases h
theorem binOp_eql{t:Nat}{u v:Z}{r:Bool}(h:(Op.equal t u v).run P w=.ok r w)(a:∀k n,u≠.int k n)(b:∀s,u≠.string s)(c:∀k n,u≠.float k n)(d:∀k n m,u≠.complex k n m):
  (dr .eql t u v).run P w=.ok (.bool r) w∧(dr .neq t u v).run P w=.ok (.bool (!r)) w:=by
 constructor
 ·unfold dr
  cases u<;>first
   | (exact absurd rfl (a _ _)) | (exact absurd rfl (b _)) | (exact absurd rfl (c _ _)) | (exact absurd rfl (d _ _ _))
   | simp[h]
 ·unfold dr
  cases u<;>first
   | (exact absurd rfl (a _ _)) | (exact absurd rfl (b _)) | (exact absurd rfl (c _ _)) | (exact absurd rfl (d _ _ _))
   | simp[h]
end
end Go.Ev
namespace Go.Ev
open Go.RowKit (Below)
section
variable {P:aQ} {ρ:Env} {B0:Nat} {w0 w:V}
theorem RJ{op:BinOp}{p q:Y}{v:Y}{u j:Z}(t:aN)(x y:aP)(h:qm op p q=I v)(g:VR ρ p u)(i:VR ρ q j):
  ∃r,(do gB op t x y u j;dr op t u j:Sem Z).run P w=.ok r w∧∀ρ',VR ρ' v r:=by
 have d:∀(a b:Z),(∀c,a≠.agg c)→a≠.nilIface→(gB op t x y a b).run P w=.ok () w:=by
  intro a b B C
  cases op<;>simp[gB]<;>(cases a<;>first | (exact absurd rfl (B _)) | (exact absurd rfl C) | rfl)
 unfold qm at h
 split at h
 ·rename_i k a z b
  cases g;cases i
  split at h
  ·cases h
  ·rename_i l
   cases h
   refine⟨.int k (k.wrap (a*2 ^ (min b.toNat k.bits))),?_,fun _=>rfl⟩;simp only[az,d (.int k a) _ dR dR,ai];simp[dr,Op.shift,l]
 ·rename_i k a z b
  cases g;cases i
  split at h
  ·cases h
  ·rename_i l
   cases h
   refine⟨.int k (a.fdiv (2 ^ (min b.toNat k.bits))),?_,fun _=>rfl⟩;simp only[az,d (.int k a) _ dR dR,ai];simp[dr,Op.shift,l]
 ·rename_i k a z b m n
  cases g;cases i
  split at h
  ·rename_i e
   subst e;have f:op≠.shl∧op≠.shr:=⟨m,n⟩;obtain⟨r,o,s⟩:=RH (P:=P) (w:=w) t f h;refine⟨r,?_,s⟩;simp only[az,d (.int k a) _ dR dR,ai,o]
  ·cases h
 ·rename_i a b
  cases g;cases i
  have f:op≠.shl∧op≠.shr:=by
   constructor<;>(rintro rfl;simp[Nb]at h)
  obtain⟨r,o,s⟩:=RI (P:=P) (w:=w) t h f;refine⟨r,?_,s⟩;simp only[az,d (.string _) _ dR dR,ai,o]
 ·cases h
theorem Ii(op:BinOp)(t:Nat)(x y:aP)(H:Nat):ct P (.binOp op t x y H) (tM P op t x y):=by
 intro cf _ Q s v i b o a w B0 w0 ρ K j L R;obtain⟨p,q,rfl,k,l⟩:=tS (x:=a.eval x) (y:=a.eval y) j
 have fin:∀{v'}{r:Z},(do gB op t x y (a.eval x) (a.eval y);dr op t (a.eval x) (a.eval y):Sem Z).run P w=.ok r w→VR ρ v' r→v=v'→i=s→df P o a w (Done B0 w0 ρ s v i):=by
  intro v' r f g m n;subst m;subst n;refine df.value (v:=r) (w':=w) ?_ (Done.same L rfl g);simp only[bv,K,az]at f⊢;rw[f];rfl
 have c:∀{v'},qm op p q=I v'→v=v'→i=s→df P o a w (Done B0 w0 ρ s v i):=by
  intro v' h m n;obtain⟨r,u,N⟩:=RJ (P:=P) (w:=w) t x y h k l;exact fin u (N ρ) m n
 unfold tM at b
 split at b
 ·dsimp only at b
  split at b
  ·rename_i F e;cases b;exact c e rfl rfl
  ·cases d:(QB P t x y).run p q with
   | none=>rw[d]at b;cases b
   | some r=>
    rw[d]at b
    cases b
    obtain⟨f,g,z,B,C,E⟩:=Nv (P:=P) (w:=w) d k l;refine fin (v':=.bool r) (r:=.bool r) ?_ rfl rfl rfl;simp only[az,g,ai];exact(binOp_eql f z B C E).1
 ·dsimp only at b
  split at b
  ·rename_i F e;cases b;exact c e rfl rfl
  ·cases d:(QB P t x y).run p q with
   | none=>rw[d]at b;cases b
   | some r=>
    rw[d]at b
    cases b
    obtain⟨f,g,z,B,C,E⟩:=Nv (P:=P) (w:=w) d k l;refine fin (v':=.bool (!r)) (r:=.bool (!r)) ?_ rfl rfl rfl;simp only[az,g,ai];exact(binOp_eql f z B C E).2
 ·dsimp only at b
  cases e:qm op p q with
  | none=>rw[e]at b;cases b
  | some F=>rw[e]at b;cases b;exact c e rfl rfl
theorem JU(op:UnOp)(t:Nat)(x:aP):ct P (.unOp op t x) (gQ P (.unOp op t x)):=by
 intro cf _ m s v q b o a w B0 w0 ρ e f g r;obtain⟨p,rfl,d⟩:=oD (x:=a.eval x) f;unfold gQ at b;dsimp only at b
 cases c:Y9 op p with
 | none=>rw[c]at b;cases b
 | some u=>
  rw[c]at b
  cases b
  unfold Y9 at c
  split at c
  ·cases c
   have d:a.eval x=.bool _:=d;refine df.value (w':=w) ?_ (Done.same g rfl rfl);simp[bv,e,d,Op.unary]
  ·rename_i k n
   cases c
   have d:a.eval x=.int k n:=d;refine df.value (v:=.int k (k.wrap (0-n))) (w':=w) ?_ (Done.same g rfl rfl);simp[bv,e,d,Op.unary,sG]
  ·rename_i n
   cases h:bM n 4294967296 with
   | false=>rw[h]at c;cases c
   | true=>
    rw[h]at c
    cases c
    have d:a.eval x=.int .u32 (.ofNat n):=d;have i:(bF 32 (4294967295:Int)).toNat=4294967295:=eM
    have j:(bF 32 (n:Int)).toNat=n:=tV 32 n h;have l:(bF 32 (4294967295:Int) ^^^ bF 32 (n:Int)).toNat=4294967295 ^^^ n:=by rw[qy,i,j]
    refine df.value (v:=.int .u32 (IntKind.u32.wrap ((4294967295 ^^^ n:Nat):Int))) (w':=w) ?_ (Done.same g rfl rfl);rw[←l];simp only[bv,e,d,Op.unary];rfl
  ·cases c
theorem DP{o:Option Y}{d n:Nat}{x:Z}(h:sR o d=I n):(o=J∧n=d)∨∃k,o=I (.int k (.ofNat n)):=by
 unfold sR at h
 split at h
 ·cases h;exact .inl ⟨rfl,rfl⟩
 ·cases h;exact .inr ⟨_,rfl⟩
 ·cases h
theorem run_sliceBound(k:cZ)(n y:Nat)(c:BoundsCode)(h:n≤y):(zp (.int k (n:Int)) y c).run P w=.ok n w:=by
 have:(0:Int)≤(n:Int)∧(n:Int)≤(y:Int):=⟨by omega,by omega⟩;simp[zp,oJ,this]
structure Mh(ρ:Env)(lo hi mx:Option Y)(lo' hi' mx':Option Z):Prop where
 blo:(lo=J∧lo'=J)∨∃p x,lo=I p∧lo'=I x∧VR ρ p x
 bhi:(hi=J∧hi'=J)∨∃p x,hi=I p∧hi'=I x∧VR ρ p x
 Zk:(mx=J∧mx'=J)∨∃p x,mx=I p∧mx'=I x∧VR ρ p x
 both:mx.isSome=O→hi.isSome=O
theorem Mh.nat{o:Option Y}{o':Option Z}{d n:Nat}(h:(o=J∧o'=J)∨∃p x,o=I p∧o'=I x∧VR ρ p x)(a:sR o d=I n):
  (o'=J∧n=d)∨∃k,o'=I (.int k (.ofNat n)):=by
 rcases h with⟨rfl,rfl⟩ | ⟨p,x,rfl,rfl,b⟩
 ·cases a;exact .inl ⟨rfl,rfl⟩
 ·rcases DP (x:=x) a with⟨e,_⟩ | ⟨k,e⟩
  ·cases e
  ·cases e;cases b;exact .inr ⟨k,rfl⟩
theorem ln{Ty:Bool}{len cap l h m:Nat}{lo hi i:Option Y}{d a c:Option Z}(b:Mh ρ lo hi i d a c)(j:sR lo 0=I l)(k:sR hi len=I h)(hm:sR i cap=I m)
  (n:l≤h) (o:h≤m) (r:m≤cap):(mq Ty len cap d a c).run P w=.ok (l,h,m) w:=by
 have s:c≠J→a≠J:=by
  intro g f;rcases b.Zk with⟨_,e⟩ | ⟨p,x,t,v,_⟩
  ·exact g e
  ·have:=b.both (by rw[t];rfl)
   rcases b.bhi with⟨e,_⟩ | ⟨q,y,_,u,_⟩
   ·rw[e]at this;cases this
   ·rw[u]at f;cases f
 rcases Mh.nat b.Zk hm with⟨rfl,rfl⟩ | ⟨k1,rfl⟩<;>rcases Mh.nat b.bhi k with⟨rfl,rfl⟩ | ⟨k2,rfl⟩<;>rcases Mh.nat b.blo j with⟨rfl,rfl⟩ | ⟨k3,rfl⟩<;>
  first
  | (simp [mq,run_sliceBound _ _ _ _ n,run_sliceBound _ _ _ _ o,run_sliceBound _ _ _ _ r];done)
  | exact(s dR rfl).elim
theorem Mi{t e len cap l h m:Nat}{base:Option aB}{a b c:Option Z}(f:P.underlying t=I (.slice e))(d:cF P e=O)
  (g:(mq O len cap a b c).run P w=.ok (l,h,m) w):
  (eF t (.slice base len cap) a b c).run P w=.ok (.slice (if m=l then base else base.map (·.add (l*sizeT P e))) (h-l) (m-l)) w:=by
 simp only[eF,az,aK f,ai,Instr.slice,g,eC d];rfl
theorem DQ(Ty:Bool){size len:Nat}{p r:Y}{u:Z}{lo hi T:Option Y}{H K L:Option Z}(b:Mh ρ lo hi T H K L)(h:oY size len p lo hi T=I r)(f:tI p=I len)(E:VR ρ p u):
  ∃base cap l j m,u=.slice base len cap∧(mq Ty len cap H K L).run P w=.ok (l,j,m) w∧VR ρ r (.slice (if m=l then base else base.map (·.add (l*size))) (j-l) (m-l)):=by
 unfold oY at h
 split at h
 ·rename_i l j F t
  cases g:aG l j with
  | false=>rw[g]at h;cases h
  | true=>
  rw[g]at h;have g:=ax g;simp only[cond_true]at h
  split at h
  ·
   rename_i b N n c
   cases f
   cases a:aG j len with
   | false=>rw[a]at h;cases h
   | true=>
   rw[a]at h;have a:=ax a;simp only[cond_true]at h;obtain⟨B,κ,i,z,s⟩:=E;have s:=s rfl;refine⟨_,_,l,j,κ-c,z,ln b F t rfl g bf (bP _),?_⟩
   cases y:(ak l len&&!(ak l 0))with
   | true=>
    rw[y]at h
    cases h
    simp only[aM,fm]at y;have X:=aI y.1;have W:j=l:=bf
    refine⟨B,κ,i,?_⟩;subst W;rw[DC];by_cases v:κ=c+j
    ·rw[if_pos bf];simp[v]
    ·rw[if_neg bf];simp[v,addr_add];omega
   | false=>
    rw[y]at h
    cases h
    refine⟨B,κ,i,?_,fun _=>by omega⟩;by_cases q:l=0
    ·subst q
     simp[j7]
    ·have:l≠len:=by
      intro e;rw[e]at y;simp only[DC]at y;simp at y;omega
     rw[if_neg bf];simp[addr_add];omega
  ·
   rename_i b N n c
   cases f
   cases a:aG j c with
   | false=>rw[a]at h;cases h
   | true=>
   rw[a]at h;have a:=ax a
   cases h
   obtain⟨B,κ,i,z,_⟩:=E;refine⟨_,_,l,j,c,z,ln b F t rfl g a (bP _),?_⟩;refine⟨B,κ,i,?_,fun e=>by cases e⟩;rw[DC];by_cases v:c=l
   ·rw[if_pos v];simp[v]
   ·rw[if_neg v];simp[v,addr_add]
  ·
   rename_i b N n Q c S
   split at h
   ·rename_i m hm
    cases f
    cases a:(aG j m&&aG m (cond Q len c))with
    | false=>rw[a]at h;cases h
    | true=>
    rw[a]at h;simp only[aM]at a;have y:=ax a.1;have R:=ax a.2
    cases h
    obtain⟨B,κ,i,z,s⟩:=E
    have C:∀d,sR (I S) d=I m:=by
     intro d;rcases DP (x:=.nilFunc) hm with⟨e,_⟩ | ⟨k,e⟩
     ·cases e
     ·cases e;rfl
    refine⟨_,_,l,j,m,z,ln b F t (C _) g y ?_,?_⟩
    ·cases Q
     ·exact R
     ·have:=s rfl
      simp only[cond_true]at R⊢;omega
    ·refine⟨B,κ,i,?_,fun e=>by cases e⟩
     rw[DC];by_cases v:m=l
     ·rw[if_pos v];simp[v]
     ·rw[if_neg v];simp[v,addr_add]
   ·cases h
  ·
   rename_i b o0 o d
   cases f
   cases a:ak j 0 with
   | false=>rw[a]at h;cases h
   | true=>
   rw[a]at h;have a:=aI a
   cases h
   obtain⟨B,κ,i,z⟩:=E;have q:l=0:=bf
   subst q;subst a;refine⟨_,_,0,0,κ-d,z,ln b F t rfl g bf (bP _),?_⟩;refine⟨B,κ,i,?_⟩;simp[j7]
  ·
   cases f
   cases a:ak j 0 with
   | false=>rw[a]at h;cases h
   | true=>
   rw[a]at h;have a:=aI a
   cases h
   cases E
   have q:l=0:=bf
   subst q;subst a;refine⟨J,0,0,0,0,rfl,ln b F t rfl (bP _) (bP _) (bP _),by simp;rfl⟩
  ·
   rename_i S
   cases f
   split at h
   ·rename_i m hm
    cases a:(ak m 0&&ak j 0)with
    | false=>rw[a]at h;cases h
    | true=>
    rw[a]at h;simp only[aM]at a;have y:=aI a.1;have R:=aI a.2
    cases h
    cases E
    have q:l=0:=bf
    subst q;subst y;subst R
    have C:∀d,sR (I S) d=I 0:=by
     intro d;rcases DP (x:=.nilFunc) hm with⟨e,_⟩ | ⟨k,e⟩
     ·cases e
     ·cases e;rfl
    exact⟨J,0,0,0,0,rfl,ln b F t (C _) (bP _) (bP _) (bP _),by simp;rfl⟩
   ·cases h
  ·cases f
  ·cases h
 ·cases h
end
end Go.Ev
namespace Go.Ev
open Go.RowKit (Below)
section
variable {P:aQ} {ρ:Env} {B0:Nat} {w0 w:V}
theorem DS{a:Act}{lo hi c:Option aP}{r:List Y}{l h m:Option Y}(e:Nc lo.isSome hi.isSome c.isSome r=I (l,h,m))(d:cq ρ r ((lo.toList++hi.toList++c.toList).map a.eval)):
  Mh ρ l h m (lo.map a.eval) (hi.map a.eval) (c.map a.eval):=by
 cases lo with
 | none=>
  cases hi with
  | none=>
   cases c with
   | none=>
    obtain rfl:=RE d
    cases e
    exact⟨.inl ⟨rfl,rfl⟩,.inl ⟨rfl,rfl⟩,.inl ⟨rfl,rfl⟩,by simp⟩
   | some z=>cases r<;>cases e
  | some y=>
   cases c with
   | none=>
    obtain⟨p,rfl,b⟩:=oD (x:=a.eval y) d
    cases e
    exact⟨.inl ⟨rfl,rfl⟩,.inr ⟨_,_,rfl,rfl,b⟩,.inl ⟨rfl,rfl⟩,by simp⟩
   | some z=>
    obtain⟨p,q,rfl,b,f⟩:=tS (x:=a.eval y) (y:=a.eval z) d
    cases e
    exact⟨.inl ⟨rfl,rfl⟩,.inr ⟨_,_,rfl,rfl,b⟩,.inr ⟨_,_,rfl,rfl,f⟩,by simp⟩
 | some x=>
  cases hi with
  | none=>
   cases c with
   | none=>
    obtain⟨p,rfl,b⟩:=oD (x:=a.eval x) d
    cases e
    exact⟨.inr ⟨_,_,rfl,rfl,b⟩,.inl ⟨rfl,rfl⟩,.inl ⟨rfl,rfl⟩,by simp⟩
   | some z=>cases r<;>cases e
  | some y=>
   cases c with
   | none=>
    obtain⟨p,q,rfl,b,f⟩:=tS (x:=a.eval x) (y:=a.eval y) d
    cases e
    exact⟨.inr ⟨_,_,rfl,rfl,b⟩,.inr ⟨_,_,rfl,rfl,f⟩,.inl ⟨rfl,rfl⟩,by simp⟩
   | some z=>
    obtain⟨p,q,r,rfl,b,f,g⟩:=RG (x:=a.eval x) (y:=a.eval y) (z:=a.eval z) d
    cases e
    exact⟨.inr ⟨_,_,rfl,rfl,b⟩,.inr ⟨_,_,rfl,rfl,f⟩,.inr ⟨_,_,rfl,rfl,g⟩,by simp⟩
theorem Ij(t:Nat)(x:aP)(lo hi N:Option aP):ct P (.slice t x lo hi N) (pb P t lo.isSome hi.isSome N.isSome):=by
 intro cf _ av s v s' c o a w B0 w0 ρ R u S hf;have u:cq ρ av (a.eval x::(lo.toList++hi.toList++N.toList).map a.eval):=by simpa[cY]using u
 obtain⟨p,r,rfl,T,y⟩:=ps u;unfold pb at c
 split at c
 ·rename_i e E
  cases g:cF P e with
  | false=>simp only[g,dE,cond_true]at c;cases c
  | true=>
   simp only[g,cL,cond_false]at c
   split at c
   ·rename_i len l h m F f
    cases d:oY (sizeT P e) len p l h m with
    | none=>rw[d]at c;cases c
    | some q=>
     rw[d]at c
     cases c
     obtain⟨base,cap,Q,H,m1,z,i,W⟩:=DQ (P:=P) (w:=w) O (DS f y) d F T;refine df.value (w':=w) ?_ (Done.same S rfl W);simp[bv,R,z,Mi E g i]
   ·cases c
 ·rename_i E
  dsimp only at c
  split at c
  ·rename_i k r1 X
   cases X
   split at c
   ·rename_i l h m f
    cases d:oY 1 k.length (.str k) l h m with
    | none=>rw[d]at c;cases c
    | some q=>
     rw[d]at c
     cases c
     have hx:a.eval x=.string ⟨⟨k⟩⟩:=T;have b:=DS f y;unfold oY at d
     split at d
     ·rename_i Q H e1 e2
      cases j:aG Q H with
      | false=>rw[j]at d;cases d
      | true=>
       rw[j]at d;have j:=ax j;simp only[cond_true]at d
       cases m with
       | some m=>cases d
       | none=>
        cases K:aG H k.length with
        | false=>simp only[K,cond_false]at d;cases d
        | true=>
         simp only[K,cond_true]at d;have K:=ax K
         cases d
         have L:N.map a.eval=J:=by
          rcases b.Zk with⟨_,e⟩ | ⟨_,_,e,_⟩
          ·exact e
          ·cases e
         have i:=ln (P:=P) (w:=w) (Ty:=U) (cap:=k.length) b e1 e2 rfl j K (bP _);rw[L]at i;have a0:(⟨⟨k⟩⟩:ByteArray).size=k.length:=rfl;refine df.value (v:=.string ((⟨⟨k⟩⟩:ByteArray).extract Q H)) (w':=w) ?_ (Done.same S rfl ?_)
         ·simp only[bv,R,eF,az,aK E,ai,hx,L,Instr.slice,a0,vG,bZ,if_false,i]
          rfl
         ·show qN _=qN _
          congr 1
          apply ByteArray.ext;apply cg;simp[mG,jb]
     ·cases d
   ·cases c
  ·cases c
 ·rename_i n e E
  cases g:cF P e with
  | false=>simp only[g,dE,cond_true]at c;cases c
  | true=>
   simp only[g,cL,cond_false]at c
   split at c
   ·rename_i b1 C r1 X
    cases X
    split at c
    ·rename_i l h m f
     cases d:oY (sizeT P e) n (.slc b1 C n U n) l h m with
     | none=>rw[d]at c;cases c
     | some q=>
      rw[d]at c
      cases c
      obtain⟨B,κ,hρ,hx⟩:=T;have b0:VR ρ (.slc b1 C n U n) (.slice (I ⟨B,C,J⟩) n n):=⟨B,κ,hρ,rfl,fun e=>by cases e⟩;obtain⟨base,cap,Q,H,m1,z,i,W⟩:=DQ (P:=P) (w:=w) U (DS f y) d rfl b0
      cases z
      refine df.value (w':=w) ?_ (Done.same S rfl W);simp only[bv,R,eF,az,aK E,ai,hx,kB,bH,i,eC g]
      split<;>rfl
    ·cases c
   ·cases c
 ·cases c
theorem Bc(a:Array Z):∀n,(List.range (n*a.size)).map (fun i=>a[i%a.size]!)=(bG n a.toList).flatten
 | 0=>by simp
 | n+1=>by
  have b:=Bc a n;rw[show (n+1)*a.size=a.size+n*a.size by rw[cR,Nat.one_mul,Nat.add_comm],List.range_add,nY,List.map_map,uP,xY,←b]
  congr 1
  ·apply List.ext_getElem?
   intro i;by_cases hi:i<a.size
   ·simp[hi,gv hi]
   ·simp[hi]
  ·apply List.map_congr_left
   intro i _;simp
theorem pP(a:Array Z)(n:Nat):(pm (n*a.size)).map (fun i=>a[i%a.size]!)=⟨(bG n a.toList).flatten⟩:=by
 apply cg;rw[qA,Array.toList_range];exact Bc a n
theorem vw(n:Nat)(h:n≤1000000000):IntKind.i64.wrap (n:Int)=n:=by
 have e:(n:Int)%(2 ^ IntKind.i64.bits:Int)=n:=Int.emod_eq_of_lt bf (by show(n:Int)<18446744073709551616;omega);unfold IntKind.wrap;simp only[e];rw[if_neg];simp only[aM,decide_eq_true_eq,not_and];intro _;show ¬ ((n:Int)≥9223372036854775808);omega
theorem vy{m:Nat}{zs:List Z}(h:m*zs.length=0):(bG m zs).flatten=[]:=by
 rcases Nat.mul_eq_zero.1 h with rfl | h
 ·rfl
 ·obtain rfl:=lY.1 h;simp
theorem Ad(t:Nat)(l c:aP):ct P (.makeSlice t l c) (li P t):=by
 intro cf _ av s v s' b o a w B0 w0 ρ ho K hr hf;obtain⟨p,q,rfl,L,N⟩:=tS (x:=a.eval l) (y:=a.eval c) K;unfold li at b
 split at b
 ·rename_i e hu
  split at b
  ·rename_i z hz
   cases j:(cF P e&&aG (gN P e) 10000&&ak z.cells.length (sizeT P e))with
   | false=>simp only[j,dE,cond_true]at b;cases b
   | true=>
   simp only[j,cL,cond_false]at b;simp only[aM]at j;have b0:=ax j.1.2;have Q:=aI j.2
   split at b
   ·rename_i k1 n k2 m he
    cases he
    cases d:(aG n m&&aG m 1000000)with
    | false=>rw[d]at b;cases b
    | true=>
    rw[d]at b
    cases b
    simp only[aM]at d;have h1:=ax d.1;have h2:=ax d.2;have L:a.eval l=.int k1 (n:Int):=L;have N:a.eval c=.int k2 (m:Int):=N;obtain⟨r,R,C⟩:=mB (P:=P) (w:=w) hz;obtain⟨i,S,c0⟩:=DI (P:=P) (w:=w) j.1.1;have T:=lI (C ρ);have g:r.cells.size=sizeT P e:=by rw[←Q];exact nQ (C ρ)
    have w1:IntKind.i64.wrap (n:Int)=n:=vw n bf;have w2:IntKind.i64.wrap (m:Int)=m:=vw m bf;have E:i.bytes*m≤10000*1000000:=fs bf h2
    refine df.value (v:=.slice (I ⟨w.heap.size,0,J⟩) n m) (w':=w.alloc (.cells ⟨(bG m r.cells.toList).flatten⟩ e)) ?_
     (Done.new hr hf rfl rfl (yQ (cq.replicate T m) 0 e) fun ρ' _ h=>⟨_,_,h,rfl,fun e=>by cases e⟩)
    have tl:((m:Int)<0||(i.bytes:Int)*(m:Int)>2 ^ 48)=U:=by
     simp only[ji,decide_eq_false_iff_not];constructor
     ·omega
     ·have h3:((i.bytes*m:Nat):Int)≤((10000*1000000:Nat):Int):=qQ.2 E
      rw[j5]at h3;have h4:((10000*1000000:Nat):Int)=10000000000:=rfl;have h5:(2:Int) ^ 48=281474976710656:=rfl;rw[h5];omega
    have W:¬ ((n:Int)<0):=bf
    have X:¬ ((n:Int)>(m:Int)):=bf
    simp only[bv,ho,Instr.makeSlice,az,aK hu,ai,L,N,asInt,oJ,bH,S,w1,w2,tl,W,X];simp only[decide_false,Bool.or_false,bZ,if_false];have u:∀k,(askRoom k).run P w=.ok () w:=by intro k;unfold askRoom;split<;>rfl
    simp only[az,u,eC j.1.1,ai];simp only[Int.toNat_natCast];have F:r.cells.toList.length=sizeT P e:=by simp[g]
    by_cases B:m*sizeT P e=0
    ·rw[vy (by rw[F];exact B)]
     have H:∀f:Nat→Z,(pm 0).map f=⟨[]⟩:=fun f=>by apply cg;simp
     simp only[B,ou,H];simp[H]
    ·simp only[B,if_false,az,R,ai]
     have a0:(pm (m*sizeT P e)).map (fun x=>r.cells[x%r.cells.size]!)=⟨(bG m r.cells.toList).flatten⟩:=by
      rw[←g];exact pP r.cells m
     simp[a0,ou]
   ·cases b
  ·cases b
 ·cases b
end
end Go.Ev
namespace Go.Ev
open Go.RowKit (Below)
section
variable {P:aQ} {ρ:Env} {B0:Nat} {w0 w:V}
theorem yU(t n:Nat)(u:Array (Nat×aP)):ct P (.buildSlice t n u) (kn P t n (u.toList.map (·.1))):=by
 intro cf _ R s v s' b o a w B0 w0 ρ N i S T;have i:cq ρ R ((u.toList.map (·.2)).map a.eval):=by simpa[cY]using i
 unfold kn at b
 split at b
 ·rename_i e Q
  split at b
  ·rename_i z W
   cases j:(cF P e&&aG (n*sizeT P e) 10000&&ak z.cells.length (sizeT P e))with
   | false=>simp only[j,cond_false]at b;cases b
   | true=>
   simp only[j,cond_true]at b;simp only[aM]at j;have X:=ax j.1.2;have y:=aI j.2
   split at b
   ·rename_i c B
    cases b
    obtain⟨l,C,m⟩:=mB (P:=P) (w:=w) W;have E:=lI (m ρ);have g:l.cells.size=sizeT P e:=by rw[←y];exact nQ (m ρ)
    obtain⟨F,d,H⟩:=yR _ _ _ _ _ _ B i (cq.replicate E n)
    refine df.value (v:=.slice (I ⟨w.heap.size,0,J⟩) n n) (w':=w.alloc (.cells ⟨F⟩ e)) ?_
     (Done.new S T rfl rfl (yQ H 0 e) fun ρ' _ h=>⟨_,_,h,rfl,fun e=>by cases e⟩)
    have p:l.cells.toList.length=sizeT P e:=by simp[g]
    have q:=sj a u
    have r:¬ (n*sizeT P e>2 ^ 24):=by
     have:(2:Nat) ^ 24=16777216:=rfl;omega
    by_cases k:n*sizeT P e=0
    ·rw[vy (by rw[p];exact k)]at d
     have K:∀f:Nat→Z,(pm 0).map f=⟨[]⟩:=fun f=>by apply cg;simp
     simp only[bv,N,zq,az,aK Q,ai,eC j.1.1,r,if_false,k,if_true,bH,K,q];rw[d];simp[ou]
    ·have L:(pm (n*sizeT P e)).map (fun x=>l.cells[x%l.cells.size]!)=⟨(bG n l.cells.toList).flatten⟩:=by
      rw[←g];exact pP l.cells n
     simp only[bv,N,zq,az,aK Q,ai,eC j.1.1,r,if_false,k,bH,C,L,q];rw[d];simp[ou]
   ·cases b
  ·cases b
 ·cases b
theorem DT(t:Nat):ct P (.makeMap t J) (gQ P (.makeMap t J)):=by
 intro cf _ g s v i b o a w B0 w0 ρ c d e f
 cases b
 refine df.value (v:=.map (I w.heap.size)) (w':=w.alloc (.map #[] 0)) ?_
  (Done.new (κ:=0) e f rfl rfl ⟨[],rfl,rfl⟩ fun ρ' _ h=>⟨_,_,h,rfl⟩)
 simp[bv,c,Instr.makeMap]
theorem BH(t:Nat)(x:aP):ct P (.makeChan t x) (mh P t):=by
 intro cf _ N s v Q b o a w B0 w0 ρ u j y z;obtain⟨p,rfl,l⟩:=oD (x:=a.eval x) j;unfold mh at b
 split at b
 ·rename_i d e B
  cases f:(cF P e&&aG (gN P e) 10000)with
  | false=>simp only[f,cond_false]at b;cases b
  | true=>
  simp only[f,cond_true]at b;simp only[aM]at f;have C:=ax f.2
  split at b
  ·rename_i k n E
   cases E
   cases c:aG n 1000000 with
   | false=>rw[c]at b;cases b
   | true=>
   rw[c]at b
   cases b
   have F:=ax c;have l:a.eval x=.int k (n:Int):=l;obtain⟨i,m,H⟩:=DI (P:=P) (w:=w) f.1
   refine df.value (v:=.chan (I w.heap.size)) (w':=w.alloc (.chan n #[] U 0 0 U)) ?_
    (Done.new (κ:=0) y z rfl rfl ⟨[],rfl,rfl⟩ fun ρ' _ h=>⟨_,_,h,rfl⟩)
   have g:i.bytes*n≤10000*1000000:=fs bf F;have K:((i.bytes*n:Nat):Int)≤((10000*1000000:Nat):Int):=qQ.2 g;rw[j5]at K;have R:((10000*1000000:Nat):Int)=10000000000:=rfl;have L:(2:Int) ^ 48-112=281474976710544:=rfl;have q:IntKind.i64.max=9223372036854775807:=rfl;have r:¬ ((n:Int)<0∨(n:Int)>IntKind.i64.max∨(i.bytes:Int)*(n:Int)>2 ^ 48-112):=by rw[L,q];omega
   simp only[bv,u,Instr.makeChan,az,l,asInt,oJ,bH,ai,aK B,m,r,if_false];simp
  ·cases b
 ·cases b
theorem Ik(c:kE)(u:c.callee=.builtin .close):ct P (.call c) yI:=by
 intro cf _ y s v L d o a w B0 w0 ρ z f x N;have f:cq ρ y (c.args.toList.map a.eval):=by simpa[cY,dJ,u]using f
 unfold yI at d;dsimp only at d
 split at d
 ·rename_i b _
  obtain⟨q,C,⟨B,κ,h,rfl⟩⟩:∃q,c.args.toList.map a.eval=[q]∧VR ρ (.chan b) q:=by
   obtain⟨v,Q,E,F,e⟩:=f
   cases F;exact⟨v,e,E⟩
  obtain⟨o',k,n⟩:=jt d
  split at n
  ·rename_i cap l i j
   cases n
   obtain⟨p,m,r⟩:=x.or k dR h;have H:=wX.setObj (o':=.chan cap ⟨p⟩ O i j U) m
   refine df.value (v:=.tuple #[]) (w':= { w with heap:=w.heap.setIfInBounds B (.chan cap ⟨p⟩ O i j U) }) ?_
    ⟨ρ,Ext.refl _ _ _,⟨[],rfl,rfl⟩,x.upd k dR h H ⟨p,rfl,r⟩ dR⟩
   have g:c.args.map a.eval=#[.chan (I B)]:=by apply cg;simpa using C
   have t:∀(ts:Array aN)(K:aN),Builtin.close_ ts K #[.chan (I B)]=(do
    let .chan room l closed sent received timer ←getObj B | stuck "close: no channel in this block"
    if closed then runtimePanic (.plain "close of closed channel")
    setObj B (.chan room l O sent received timer)
    pure (.tuple #[])):=fun _ _=>rfl
   simp[bv,z,resolve,u,g,invoke,fp,t,getObj,setObj,fz,m]
  ·cases n
 ·cases d
end
end Go.Ev
namespace Go.Ev
open Go.RowKit (Below)
section
variable {P:aQ} {ρ:Env} {B0:Nat} {w0 w:V}
theorem jE{c:kE}{b:Builtin}{o:Oper}{a:Act}(d:c.callee=.builtin b)(e:o.op=.call c):
  (bv a.eval o).run P w=(fp b c.argTypes o.type (c.args.map fun | .const _=>O | _=>U) (c.args.map a.eval)).run P w:=by
 simp[bv,e,resolve,d,invoke];rfl
theorem oF{c:kE}{a:Act}{b:List Z}(h:c.args.toList.map a.eval=b):c.args.map a.eval=⟨b⟩:=by
 apply cg;simpa using h
theorem ij{c:kE}{b:Builtin}(a:c.callee=.builtin b):(Op.call c).operands.toList=c.args.toList:=by
 simp[cY,dJ,a]
theorem pt{c:kE}{a:List Nat}(h:c.argTypes.toList=a):c.argTypes=⟨a⟩:=by
 apply cg;simpa using h
theorem JV{p:Y}{u:Z}{n:Nat}(h:tI p=I n)(a:VR ρ p u):∃b c,u=.slice b n c:=by
 cases p<;>simp only[tI]at h<;>try (cases h;done)
 ·cases h;cases a;exact⟨_,_,rfl⟩
 ·cases h;obtain⟨B,κ,_,rfl,_⟩:=a;exact⟨_,_,rfl⟩
 ·cases h;obtain⟨B,κ,_,rfl⟩:=a;exact⟨_,_,rfl⟩
theorem pf.len{ρ:Env}:∀{l:List (Y×Y×Nat)}{a:List gX},pf ρ l a→a.length=l.length
 | [],_,h=>by cases h;rfl
 | (_,_,_)::l,_,⟨_,_,_,_,_,h,e⟩=>by subst e;simp[pf.len h]
theorem Mj(c:kE)(K:c.callee=.builtin .len):ct P (.call c) (sS P c.argTypes.toList):=by
 intro cf _ av s v L d o a w B0 w0 ρ R g N hf;rw[ij K]at g;have m:=jE (P:=P) (w:=w) (a:=a) K R;unfold sS at d
 split at d
 ·rename_i x r
  have r:=pt r
  have fin:∀{n:Nat}{t:List Z},c.args.toList.map a.eval=t→(kI #[x] o.type ⟨t⟩).run P w=.ok (lQ n) w→v=.int .i64 n→L.h=s.h→df P o a w (Done B0 w0 ρ s v L):=by
   intro n t S T W X;subst W;refine df.value (v:=lQ n) (w':=w) ?_ (Done.same N X rfl);rw[m,r,oF S];simp only[fp,az];rw[show (⟨[x]⟩:Array Nat)=#[x]from rfl,T];rfl
  split at d
  ·rename_i n e i
   dsimp only at d
   split at d
   ·cases d
    obtain⟨q,u,j,f,h⟩:=g
    cases f
    refine fin h ?_ rfl rfl;simp[kI,aK i]
   ·cases d
  ·rename_i e i
   split at d
   ·rename_i n e' y
    dsimp only at d
    split at d
    ·cases d
     obtain⟨q,u,j,f,h⟩:=g
     cases f
     refine fin h ?_ rfl rfl;simp[kI,aK i,aK y]
    ·cases d
   ·cases d
  ·rename_i i
   dsimp only at d
   split at d
   ·rename_i l
    cases d
    obtain⟨q,u,j,f,h⟩:=g
    cases f;cases j
    refine fin (n:=l.length) h ?_ rfl rfl;simp[kI,aK i];rfl
   ·cases d
  ·rename_i e i
   dsimp only at d
   split at d
   ·rename_i p
    split at d
    ·rename_i n hn
     cases d
     obtain⟨q,u,j,f,h⟩:=g
     cases f
     obtain⟨b,c',rfl⟩:=JV hn j;refine fin h ?_ rfl rfl;simp[kI,aK i]
    ·cases d
   ·cases d
  ·rename_i k e i
   dsimp only at d
   split at d
   ·rename_i b
    obtain⟨q,u,j,f,h⟩:=g
    cases f
    obtain⟨B,κ,z,rfl⟩:=j;obtain⟨o',C,E⟩:=jt d
    split at E
    ·rename_i Q a0
     cases E
     obtain⟨t,F,H⟩:=N.or C dR z;have hl:t.length=Q.length:=pf.len H;refine fin (n:=Q.length) h ?_ rfl rfl;simp[kI,aK i,getObj,fz,F,hl]
    ·cases E
   ·cases d
    obtain⟨q,u,j,f,h⟩:=g
    cases f;cases j
    refine fin (n:=0) h ?_ rfl rfl;simp[kI,aK i]
   ·cases d
  ·cases d
 ·cases d
theorem Ml(c:kE)(l:c.callee=.builtin .cap):ct P (.call c) (yH P c.argTypes.toList):=by
 intro cf _ F s v m b o a w B0 w0 ρ r d t H;rw[ij l]at d;have f:=jE (P:=P) (w:=w) (a:=a) l r;unfold yH at b
 split at b
 ·rename_i i g
  have g:=pt g
  have fin:∀{n:Nat}{j:List Z},c.args.toList.map a.eval=j→(ww #[i] o.type ⟨j⟩).run P w=.ok (lQ n) w→v=.int .i64 n→m.h=s.h→df P o a w (Done B0 w0 ρ s v m):=by
   intro n j u x y z;subst y;refine df.value (v:=lQ n) (w':=w) ?_ (Done.same t z rfl);rw[f,g,oF u];simp only[fp,az];rw[show (⟨[i]⟩:Array Nat)=#[i]from rfl,x];rfl
  split at b
  ·rename_i e p
   dsimp only at b
   split at b
   ·rename_i n
    cases b
    obtain⟨q,C,⟨B,κ,_,rfl,_⟩,h,k⟩:=d
    cases h
    refine fin k ?_ rfl rfl;simp[ww,aK p]
   ·cases b
    obtain⟨q,C,E,h,k⟩:=d
    cases h;cases E
    refine fin (n:=0) k ?_ rfl rfl;simp[ww,aK p]
   ·cases b
  ·cases b
 ·cases b
theorem Nw:∀(l:List Y)(vs:List Z)(k:cZ)(n:Int)(v:Y),JF O k l n=I v→cq ρ l vs→∃u,(vs.foldlM Builtin.max2 (.int k n):Sem Z).run P w=.ok u w∧VR ρ v u
 | [],vs,k,n,v,h,a=>by cases h;cases a;exact⟨_,rfl,rfl⟩
 | x::l,vs,k,n,v,h,a=>by
  obtain⟨u,c,d,b,rfl⟩:=a
  cases x<;>try (cases h;done)
  rename_i g m
  cases d
  simp only[JF,cond_true]at h;obtain⟨u,e,f⟩:=Nw l c k _ v h b;refine⟨u,?_,f⟩;simp only[qw,az,Builtin.max2,bH,ai];exact e
theorem Nx:∀(l:List Y)(vs:List Z)(k:cZ)(n:Int)(v:Y),JF U k l n=I v→cq ρ l vs→∃u,(vs.foldlM Builtin.min2 (.int k n):Sem Z).run P w=.ok u w∧VR ρ v u
 | [],vs,k,n,v,h,a=>by cases h;cases a;exact⟨_,rfl,rfl⟩
 | x::l,vs,k,n,v,h,a=>by
  obtain⟨u,c,d,b,rfl⟩:=a
  cases x<;>try (cases h;done)
  rename_i g m
  cases d
  simp only[JF,cond_false]at h;obtain⟨u,e,f⟩:=Nx l c k _ v h b;refine⟨u,?_,f⟩;simp only[qw,az,Builtin.min2,bH,ai];exact e
theorem Mm(c:kE)(g:c.callee=.builtin .max):ct P (.call c) (BD O):=by
 intro cf _ x s v y b o a w B0 w0 ρ h e i z;rw[ij g]at e;have d:=jE (P:=P) (w:=w) (a:=a) g h;unfold BD at b;dsimp only at b
 split at b
 ·rename_i k n l
  obtain⟨q,j,m,f,p⟩:=e
  cases m
  cases hm:JF O k l n with
  | none=>rw[hm]at b;cases b
  | some B=>
   rw[hm]at b
   cases b
   obtain⟨u,r,t⟩:=Nw (P:=P) (w:=w) l j k n _ hm f;refine df.value (v:=u) (w':=w) ?_ (Done.same i rfl t);rw[d,oF p];simp only[fp,az,Builtin.max_];rw[r];rfl
 ·cases b
theorem Mn(c:kE)(g:c.callee=.builtin .min):ct P (.call c) (BD U):=by
 intro cf _ x s v y b o a w B0 w0 ρ h e i z;rw[ij g]at e;have d:=jE (P:=P) (w:=w) (a:=a) g h;unfold BD at b;dsimp only at b
 split at b
 ·rename_i k n l
  obtain⟨q,j,m,f,p⟩:=e
  cases m
  cases hm:JF U k l n with
  | none=>rw[hm]at b;cases b
  | some B=>
   rw[hm]at b
   cases b
   obtain⟨u,r,t⟩:=Nx (P:=P) (w:=w) l j k n _ hm f;refine df.value (v:=u) (w':=w) ?_ (Done.same i rfl t);rw[d,oF p];simp only[fp,az,Builtin.min_];rw[r];rfl
 ·cases b
theorem Mo{α:Type}{s s':S}{size n m:Nat}{p:Y}{u:Z}{k:List Y→S→Rs α}{v:α}(h:s.iJ size n p k=.ok v s')(x:Rel B0 w0 ρ s.h w)(i:VR ρ p u)(hm:Dg p=I m)(C:n≤m):
  ∃l o vs,k l o=.ok v s'∧o.h=s.h∧o.n=s.n∧cq ρ l vs∧(∀W:V,(∀b:Nat,W.heap[b]?=w.heap[b]?)→(bd size n u).run P W=.ok ⟨vs⟩ W)∧(io u).run P w=.ok m w∧(∀s,p=.str s→l.length=n∧vs.length=n)∧((∀s,p≠.str s)→vs.length=n*size):=by
 unfold S.iJ at h
 cases p<;>try (cases h;done)
 case str l=>
  cases hm;cases i
  refine⟨_,s,(l.take n).map (fun b=> .int .u8 (b.toNat:Int)),h,rfl,rfl,?_,?_,rfl,?_,fun e=>absurd rfl (e l)⟩
  ·induction (l.take n)with
   | nil=>rfl
   | cons b r E=>exact⟨_,_,rfl,E,rfl⟩
  ·intro W _
   simp only[bd,bH]
   congr 1
   apply cg;simp[mG,jb]
  ·intro _ _
   simp;omega
 case iC=>
  cases hm;cases i
  obtain rfl:n=0:=bf
  refine⟨[],s,[],h,rfl,rfl,rfl,fun W _=>by simp[bd],rfl,by simp,by simp⟩
 case oM b Q of d=>
  cases hm
  obtain rfl:n=0:=bf
  obtain⟨B,κ,f,rfl⟩:=i;refine⟨[],s,[],h,rfl,rfl,rfl,fun W _=>?_,rfl,by simp,by simp⟩;simp[bd,loadCells,loadCellsFrom]
 case slc b q len F c=>
  cases hm
  obtain⟨B,κ,f,rfl,_⟩:=i;obtain⟨cs,op,l,y,H,K⟩:=jD h;obtain⟨vs,t,a,_,g⟩:=jx (P:=P) (x.row y f) H;refine⟨l,_,vs,K,rfl,rfl,t,fun W z=>?_,rfl,by simp,fun _=>a⟩;have L:OR ρ κ (.row cs op) W.heap[B]? :=by rw[z];exact x.row y f
  simp only[bd]
  have:=eu (P:=P) W ⟨B,q,J⟩ vs (fun j v N=>by
   rw[addr_add];have:=g j v N;unfold an at this⊢
   rw[z];exact this)
  rw[a]at this;exact this
theorem Il(c:kE)(R:c.callee=.builtin .clear):ct P (.call c) (sf P c.argTypes.toList):=by
 intro cf _ av s v S d o a w B0 w0 ρ ho i t hf;rw[ij R]at i;have g:=jE (P:=P) (w:=w) (a:=a) R ho;unfold sf at d
 split at d
 ·rename_i dt j
  have j:=pt j
  split at d
  ·rename_i e u
   split at d
   ·rename_i z hz
    cases p:cF P e with
    | false=>simp only[p,dE,cond_true]at d;cases d
    | true=>
    simp only[p,cL,cond_false]at d
    have f:∀{b:Option aB}{n x:Nat},c.args.toList.map a.eval=[.slice b n x]→(b=J∨n=0)→v=cE→S.h=s.h→df P o a w (Done B0 w0 ρ s v S):=by
     intro b n x h1 h2 h3 h4;subst h3;refine df.value (v:=.tuple #[]) (w':=w) ?_ (Done.same t h4 ⟨[],rfl,rfl⟩);rw[g,j,oF h1];rcases h2 with rfl | rfl
     ·simp[fp,kC,aK u]
     ·cases b<;>simp[fp,kC,aK u]
    split at d
    ·rename_i b a0 n b0 x
     obtain⟨q,T,⟨B,κ,k,rfl,_⟩,h,l⟩:=i
     cases h
     cases r:ak n 0 with
     | true=>
      rw[r]at d
      cases d
      exact f l (.inr (aI r)) rfl rfl
     | false=>
      rw[r]at d;have c0:n≠0:=fun e=>by subst e;cases r
      obtain⟨cs,op,c',y,W,C,hk⟩:=oE d
      cases hk
      obtain⟨X,E,F⟩:=mB (P:=P) (w:=w) hz;have H:=cq.replicate (lI (F ρ)) n;obtain⟨w',ob,K,L,N⟩:=pN (P:=P) (t.row W k) C y H;refine df.value (v:=.tuple #[]) (w':=w') ?_ ⟨ρ,Ext.refl _ _ _,⟨[],rfl,rfl⟩,t.upd W dR k L N dR⟩;rw[g,j,oF l]
      have Q:(aX X.cells n).toList=(bG n X.cells.toList).flatten:=by
       rw[aX,pP]
      obtain⟨m,rfl⟩:∃m,n=m+1:=⟨n-1,by omega⟩;simp[fp,kC,aK u,E,Q,K]
    ·obtain⟨q,T,⟨B,κ,k,rfl⟩,h,l⟩:=i
     cases h;cases d
     exact f l (.inr rfl) rfl rfl
    ·obtain⟨q,T,hq,h,l⟩:=i
     cases h;cases hq;cases d
     exact f l (.inl rfl) rfl rfl
    ·cases d
   ·cases d
  ·cases d
 ·cases d
end
end Go.Ev
namespace Go.Ev
open Go.RowKit (Below)
section
variable {P:aQ} {ρ:Env} {B0:Nat} {w0 w:V}
theorem JW{p:Y}{u:Z}{n:Nat}(h:Dg p=I n)(a:VR ρ p u):(io u).run P w=.ok n w:=by
 cases p<;>simp only[Dg]at h<;>try (cases h;done)
 ·cases h;cases a;rfl
 ·cases h;cases a;rfl
 ·cases h;obtain⟨B,κ,_,rfl,_⟩:=a;rfl
 ·cases h;obtain⟨B,κ,_,rfl⟩:=a;rfl
theorem JX(c:kE)(hc:c.callee=.builtin .copy):ct P (.call c) (wQ P c.argTypes.toList):=by
 intro cf _ av s v s' f o a w B0 w0 ρ ho u F hf;rw[ij hc]at u;have g:=jE (P:=P) (w:=w) (a:=a) hc ho;unfold wQ at f
 split at f
 ·rename_i dt more q
  have q:=pt q
  split at f
  ·rename_i e hu
   cases i:cF P e with
   | false=>simp only[i,dE,cond_true]at f;cases f
   | true=>
   simp only[i,cL,cond_false]at f
   split at f
   ·rename_i d x
    obtain⟨u1,ws,hd,⟨u2,b0,hx,H,e2⟩,he⟩:=u
    cases H;subst e2
    split at f
    ·rename_i m n hm hn
     obtain⟨l,s1,vs,p,r,c0,K,j,y,L,N⟩:=Mo (P:=P) f F hx hn (Nat.min_le_left n m);have j:=j w fun _=>rfl
     have z:c.argTypes[0]?=I dt:=by rw[q];rfl
     have h:=oF he;have e0:(⟨[u1,u2]⟩:Array Z)[0]?=I u1:=rfl;have e1:(⟨[u1,u2]⟩:Array Z)[1]?=I u2:=rfl
     split at p
     ·rename_i b d0 len f0 cp
      obtain rfl:len=m:=by simpa[tI]using hm
      obtain⟨B,κ,C,rfl,_⟩:=hd;obtain⟨cs,op,c',Q,R,T,p⟩:=oE p
      cases p
      rw[r]at R;obtain⟨w',ob,k,W,X⟩:=pN (P:=P) (F.row R C) T Q K;refine df.value (v:=lQ (j8 n len:Nat)) (w':=w') ?_ ⟨ρ,Ext.refl _ _ _,rfl,by simpa[S.put,r]using F.upd R dR C W X dR⟩;rw[g,h];simp only[fp,jf,z,e0,e1,az,aK hu,ai,y,eC i,j,k];rfl
     ·cases t:ak (j8 n m) 0 with
      | false=>rw[t]at p;cases p
      | true=>
       rw[t]at p
       cases p
       have h0:=aI t;have a0:=JV hm hd;obtain⟨bb,cp,rfl⟩:=a0
       have E:vs=[]:=by
        have:vs.length=0:=by
         by_cases k:∃s,x=.str s
         ·obtain⟨s,rfl⟩:=k
          rw[(L s rfl).2,h0]
         ·rw[N (fun s e=>k ⟨s,e⟩),h0,Nat.zero_mul]
        exact lY.1 this
       subst E;refine df.value (v:=lQ (j8 n m:Nat)) (w':=w) ?_ (Done.same F r (by rw[h0];rfl));rw[g,h];simp only[fp,jf,z,e0,e1,az,aK hu,ai,y,eC i,j]
       cases bb<;>rfl
    ·cases f
   ·cases f
  ·cases f
 ·cases f
end
end Go.Ev
namespace Go.Ev
open Go.RowKit (Below)
section
variable {P:aQ} {ρ:Env} {B0:Nat} {w0 w:V}
theorem BI{ts:Array Nat}{s st e n len cap:Nat}{args:Array Z}{base:Option aB}{x:Z}{vs:List Z}{w':V}(c:ts[0]?=I st)(o:args[0]?=I (.slice base len cap))(p:args[1]?=I x)
  (q:P.underlying st=I (.slice e)) (f:cF P e=O) (g:ts[1]?=J∨∃j d,ts[1]?=I j∧P.underlying j=I d∧∀k,d≠.int k)
  (r:(io x).run P w=.ok n w) (b:len+n≤cap) (h:(bd (sizeT P e) n x).run P w=.ok ⟨vs⟩ w)
  (a:∃l,base=I l∧(iT (l.add (len*sizeT P e)) vs).run P w=.ok () w'):(cK ts s args).run P w=.ok (.slice base (len+n) cap) w':=by
 obtain⟨l,rfl,a⟩:=a;rcases g with g | ⟨j,d,g,i,m⟩
 ·simp only[cK,c,o,p,g,az,aK q,ai,eC f,bH,bZ,if_false,r,b,if_true,dE,h,a]
 ·cases d<;>first
   | (exact absurd rfl (m _))
   | simp only[cK,c,o,p,g,i,aK i,az,aK q,ai,eC f,bH,bZ,if_false,r,b,if_true,dE,h,a]
theorem run_choose{q:Question}(a:q.forced=U):(choose q).run P w=.ok (q.cut (w.tape w.drawn q)) w.drew:=by
 simp only[choose,fz,a,bZ,if_false];rfl
theorem Ae(k:Nat):(askRoom k).run P w=.ok () w:=by unfold askRoom;split<;>rfl
theorem BJ{ts:Array Nat}{S st e n len cap:Nat}{args:Array Z}{base:Option aB}{x:Z}{c vs:List Z}{j:Z}(l:ts[0]?=I st)(H:args[0]?=I (.slice base len cap))(K:args[1]?=I x)
  (L:P.underlying st=I (.slice e)) (h:cF P e=O) (T:gN P e≤10000) (m:∀W,(kr e).run P W=.ok j W) (o:ts[1]?=J∨∃y d,ts[1]?=I y∧P.underlying y=I d∧∀k,d≠.int k)
  (N:(io x).run P w=.ok n w) (f:¬len+n≤cap) (z:len+n≤1000000) (g:∀W:V,(∀b:Nat,W.heap[b]?=w.heap[b]?)→(bd (sizeT P e) len (.slice base len cap)).run P W=.ok ⟨c⟩ W)
  (p:∀W:V,(∀b:Nat,W.heap[b]?=w.heap[b]?)→(bd (sizeT P e) n x).run P W=.ok ⟨vs⟩ W):
  ∃newCap rest,len+n≤newCap∧rest.length=(newCap-(len+n))*j.cells.size∧
   (cK ts S args).run P w=.ok (.slice (I ⟨w.heap.size,0,J⟩) (len+n) newCap) (w.drew.alloc (.cells ⟨c++vs++rest⟩ e)):=by
 obtain⟨i,hi⟩:=jC h;have X:i.bytes=gN P e:=by simp[gN,hi]
 have q:∀W:V,(fU e).run P W=.ok i W:=fun W=>jY hi
 have B:IntKind.i64.max=9223372036854775807:=rfl;have Q:(len+n)*i.bytes≤1000000*10000:=fs z bf;have hg:=growslice_fits (need:=len+n) (old:=cap) (bytes:=i.bytes) bf bf;have C:(2:Nat) ^ 48=281474976710656:=rfl;have r:¬ (((len+n:Nat):Int)>IntKind.i64.max∧(False∨i.bytes=0)):=by rw[B];omega
 have s:¬ (Builtin.nextslicecap (len+n) cap*i.bytes>2 ^ 48):=by rw[C];omega
 have R:(eU (len+n) cap e).forced=U:=rfl
 have t:len+n≤(eU (len+n) cap e).cut (w.tape w.drawn (.appendCap (len+n) cap e)):=by
  show len+n≤len+n+_%_;omega
 generalize u:(eU (len+n) cap e).cut (w.tape w.drawn (.appendCap (len+n) cap e))=newCap at t;have a:∀b:Nat,w.drew.heap[b]?=w.heap[b]? :=fun _=>rfl
 refine⟨newCap,(aX j.cells (newCap-(len+n))).toList,t,by simp[aX],?_⟩
 have v:(⟨c⟩:Array Z)++⟨vs⟩++aX j.cells (newCap-(len+n))=⟨c++vs++(aX j.cells (newCap-(len+n))).toList⟩:=by
  apply cg;simp
 rcases o with o | ⟨y,d,o,E,F⟩
 ·simp only[cK,l,H,K,o,az,aK L,ai,eC h,bH,bZ,if_false,N,f,q,r,s,run_choose R,u,Ae,g _ a,p _ a,dE,if_true,m,ou,run_newObj,v]
  rfl
 ·cases d<;>first
   | (exact absurd rfl (F _))
   | (simp only[cK,l,H,K,o,aK E,az,aK L,ai,eC h,bH,bZ,if_false,N,f,q,r,s,run_choose R,u,Ae,g _ a,p _ a,dE,if_true,m,ou,run_newObj,v]
      rfl)
end
end Go.Ev
namespace Go.Ev
open Go.RowKit (Below)
section
variable {P:aQ} {ρ:Env} {B0:Nat} {w0 w:V}
def Src(ρ:Env)(h:Tr AO)(new:S→(List Y→S→RV)→RV)(vs:List Z):Prop:=
 ∀s k v b,s.h=h→new s k=.ok v b→∃l a,k l a=.ok v b∧a.h=h∧a.n=s.n∧cq ρ l vs
structure App(P:aQ)(w:V)(e:Nat)(base:Option aB)(len cap n:Nat)(vs:List Z)(zc:Nat)(run:Result Z):Prop where
 fit:len+n≤cap→∀ad w',base=I ad→(iT (ad.add (len*sizeT P e)) vs).run P w=.ok () w'→run=.ok (.slice base (len+n) cap) w'
 nil:len+n≤cap→base=Option.none→run=.ok (.slice Option.none (len+n) cap) w
 grow:¬len+n≤cap→len+n≤1000000→∀olds:List Z,(∀W:V,(∀b:Nat,W.heap[b]?=w.heap[b]?)→(bd (sizeT P e) len (.slice base len cap)).run P W=.ok ⟨olds⟩ W)→
  ∃newCap rest,len+n≤newCap∧rest.length=(newCap-(len+n))*zc∧run=.ok (.slice (I ⟨w.heap.size,0,J⟩) (len+n) newCap) (w.drew.alloc (.cells ⟨olds++vs++rest⟩ e))
theorem Done.grown{s s':S}{m newCap size e:Nat}{l:List Y}{a rest:List Z}{f:Tr AO}(g:Rel B0 w0 ρ f w)(j:ib ρ s.n s'.n)(p:s'.n=s.n+1)(k:s'.h=f.set s.n (.row l (size+1)))
  (n:cq ρ l a) (o:a.length=m*size) (hm:m≤newCap) (b:rest.length=(newCap-m)*size):
  Done B0 w0 ρ s (.slc s.n 0 m O 0) s' (.slice (I ⟨w.heap.size,0,J⟩) m newCap) (w.drew.alloc (.cells ⟨a++rest⟩ e)):=by
 have c:ρ s.n=J:=j s.n (bP _) bf
 have d:OR ρ newCap (.row l (size+1)) (I (.cells ⟨a++rest⟩ e)):=by
  refine⟨⟨a++rest⟩,e,(0,0),a,rest,rfl,fun i _ h=>by omega,rfl,n,?_⟩;show(a++rest).length=newCap*size;rw[ay,o,b,←cR]
  congr 1
  omega
 exact⟨ρ.add s.n w.heap.size newCap,Ext.add c (bP _) bf,⟨_,_,Env.qo _ _ _ _,by simp,fun _=>by omega⟩,by rw[k];exact g.drew.new c d⟩
theorem Rel.Tz{h:Tr AO}{b id B κ:Nat}{o o':AO}{l:Obj}{w':V}(r:Rel B0 w0 ρ h w)(m:h.get b=I o)(n:o≠.dead)(a:ρ b=I (B,κ))(g:ρ id=J)(u:wX w w' B l)(s:OR (ρ.add id B κ) κ o' (I l)):
  Rel B0 w0 (ρ.add id B κ) ((h.set b .dead).set id o') w':=by
 obtain⟨v,c,e,q,j,_⟩:=r.obj b o m n;rw[a]at e;cases e;refine(r.dead (id:=b)).ext g (DG r.z8 u q) (by rw[u.size];exact bP _) (fun k _ t=>u.other k t) q (by rw[u.size];exact j) (by rw[u.at_];exact s) ?_;intro i p c d f e;rw[Tr.eN]at d;by_cases hi:i=b
 ·rw[if_pos hi]at d;cases d;exact f rfl
 ·rw[if_neg hi]at d
  exact hi (r.inj i b p o B c κ d f m n e a)
theorem Bd{size e n len cap zc:Nat}{x:Y}{base:Option aB}{new:S→(List Y→S→RV)→RV}{vs:List Z}{run:Result Z}{s s':S}{v:Y}{o:Oper}{a:Act}(C0:sizeT P e=size)(O0:1≤size)(D0:zc=size)
  (f:jX size x n new s=.ok v s') (R:Rel B0 w0 ρ s.h w) (hf:ib ρ s.n s'.n) (hx:VR ρ x (.slice base len cap)) (C:Src ρ s.h new vs) (T:vs.length=n*size) (t:App P w e base len cap n vs zc run)
  (E0:(bv a.eval o).run P w=run.andThen fun v w'=> .ok (.value v) w'):df P o a w (Done B0 w0 ρ s v s'):=by
 subst C0;subst D0
 have fin:∀{u w'},run=.ok u w'→Done B0 w0 ρ s v s' u w'→df P o a w (Done B0 w0 ρ s v s'):=by
  intro u w' h1 h2;refine df.value (v:=u) (w':=w') ?_ h2;rw[E0,h1];rfl
 unfold jX at f
 cases z:Dh x n with
 | false=>rw[z]at f;cases f
 | true=>
 rw[z]at f;simp only[cond_true]at f
 split at f
 ·
  cases hx
  cases hn:ak n 0 with
  | true=>
   rw[hn]at f
   cases f
   obtain rfl:=aI hn;exact fin (t.nil bf rfl) (Done.same R rfl rfl)
  | false=>
   rw[hn]at f;have P0:n≠0:=fun e=>by subst e;cases hn
   simp only[cond_false]at f;obtain⟨l,N,g,Q,H,p⟩:=C s _ _ _ rfl f
   cases g
   obtain⟨newCap,rest,h1,h2,h3⟩:=t.grow bf (by have:=ax z;omega) [] fun W _=>by simp[bd]
   simp only[List.nil_append]at h3;rw[H]at hf fin⊢;refine fin h3 ?_;have:=Done.grown (s:=s) (s':= { h:=N.h.set s.n (.row l (sizeT P e+1)),n:=s.n+1,r:=N.r,w:=N.w }) (m:=n) (size:=sizeT P e) (e:=e) (rest:=rest) (newCap:=newCap) R hf rfl (by rw[Q]) p T bf (by simpa using h2);simpa using this
 ·
  rename_i b E J0 F0 c
  obtain⟨B,κ,y,k0,i0⟩:=hx
  cases k0
  have X:len+n≤1000000:=ax z
  cases F0 with
  | true=>
   have i0:=i0 rfl;simp only[cond_true]at f t;obtain⟨o',a0,g⟩:=jt f
   split at g
   ·rename_i cs op
    cases b0:(ak op (sizeT P e+1)&&ak E (c*sizeT P e))with
    | false=>rw[b0]at g;cases g
    | true=>
    rw[b0]at g;simp only[cond_true]at g;simp only[aM]at b0;obtain rfl:=aI b0.1;have K0:=aI b0.2;have l0:=R.row a0 y;have x0:=l0;obtain⟨cells,et,fr,us,G0,y0,z0,A0,m0,q⟩:=x0;have q:cells.size=κ*sizeT P e:=q
    have L0:cs.length≤κ*sizeT P e:=by
     rw[←q,←dw,A0,ay,cq.len m0];omega
    cases k:aG (E+(len+n)*sizeT P e) cs.length with
    | true=>
     rw[k]at g;simp only[cond_true]at g;have k:=ax k
     have n0:c+(len+n)≤κ:=by
      have:(c+(len+n))*sizeT P e≤κ*sizeT P e:=by rw[cR];omega
      exact Nat.le_of_mul_le_mul_right this bf
     obtain⟨l,N,g,Q,H,p⟩:=C { s with r:=b::s.r } _ _ _ rfl g;obtain⟨o0,p0,c',K,hb,q0,g⟩:=oE g
     cases g
     rw[Q,a0]at hb
     cases hb
     obtain⟨w',ob,c0,r0,d0⟩:=pN (P:=P) l0 q0 K p;refine fin (t.fit bf ⟨B,E,J⟩ w' rfl (by rw[addr_add];exact c0)) ?_;refine⟨ρ,Ext.refl _ _ _,⟨B,κ,y,by simp,fun _=>by omega⟩,?_⟩;have:=R.upd a0 dR y r0 d0 dR;simpa[S.put,Q]using this
    | false=>
     rw[k]at g;simp only[cond_false]at g
     cases h0:(ak E 0&&ak c 0)with
     | false=>rw[h0]at g;cases g
     | true=>
     rw[h0]at g;simp only[cond_true]at g;simp only[aM]at h0;obtain rfl:=aI h0.1;obtain rfl:=aI h0.2;obtain⟨l,N,g,Q,H,p⟩:=C { s with r:=b::s.r } _ _ _ rfl g
     cases K:l.all Y.plain with
     | false=>rw[K]at g;cases g
     | true=>
     rw[K]at g;simp only[cond_true]at g;obtain⟨o0,p0,g0,hb,ht,g⟩:=jD g;rw[Q,a0]at hb
     cases hb
     cases g
     obtain⟨ol,s0,F,_,L⟩:=jx (P:=P) l0 ht
     have e0:∀W:V,(∀b:Nat,W.heap[b]?=w.heap[b]?)→(bd (sizeT P e) len (.slice (I ⟨B,0,J⟩) len (κ-0))).run P W=.ok ⟨ol⟩ W:=by
      intro W hW;simp only[bd]
      have:=eu (P:=P) W ⟨B,0,J⟩ ol (fun j v hj=>by
       rw[addr_add];have:=L j v hj;unfold an at this⊢
       rw[hW];exact this)
      rw[F]at this;exact this
     simp only[S.new,S.put,H]at hf fin⊢;by_cases n0:len+n≤κ-0
     ·
      have H0:0+len*sizeT P e+vs.length≤cells.size:=by
       rw[T,q,cO,←cR];exact Nat.mul_le_mul_right _ bf
      have c0:=si (P:=P) B (len*sizeT P e) et fr vs 0 cells w y0 z0 bf (oO K p);refine fin (t.fit n0 ⟨B,0,J⟩ _ rfl (by rw[addr_add,cO];exact c0)) ?_;have t0:ρ s.n=J:=hf s.n (bP _) dR;obtain⟨f0,v0⟩:=vt _ _ _ ht;simp only[List.drop_zero]at f0 v0;have hrel:=R.Tz (o':=.row (g0++l) (sizeT P e+1)) a0 dR y t0 (wX.setRow y0 (cs':=(cells.toList.take (len*sizeT P e+0)++vs++cells.toList.drop (len*sizeT P e+0+vs.length)).toArray)) ?_
      ·refine⟨ρ.add s.n B κ,Ext.add t0 (bP _) dR,⟨_,_,Env.qo _ _ _ _,by simp,fun _=>by omega⟩,?_⟩
       simpa[Q]using hrel
      ·have j0:=Env.yP (B:=B) (κ:=κ) t0
       have Q0:=cq.len m0;have M0:cells.toList.length=cells.size:=dw;refine⟨_,et,fr,us.take (len*sizeT P e)++vs,cells.toList.drop (len*sizeT P e+vs.length),rfl,?_,?_,?_,?_⟩
       ·intro i hi
        refine z0 i ?_;simp at hi;omega
       ·show cells.toList.take (len*sizeT P e+0)++vs++cells.toList.drop (len*sizeT P e+0+vs.length)=_
        rw[dg,A0,cQ bf]
       ·rw[f0]
        exact cq.append (cq.take _ (cq.mono j0 _ _ m0)) (cq.mono j0 _ _ p)
       ·show(cells.toList.take (len*sizeT P e+0)++vs++cells.toList.drop (len*sizeT P e+0+vs.length)).length=κ*sizeT P e
        rw[←q];simp;omega
     ·obtain⟨newCap,rest,h1,h2,h3⟩:=t.grow n0 X ol e0
      refine fin h3 ?_;have:=Done.grown (s:=s) (s':= { h:=(N.h.set b .dead).set s.n (.row (g0++l) (sizeT P e+1)),n:=s.n+1,r:=b::N.r,w:=b::N.w }) (m:=len+n) (size:=sizeT P e) (e:=e) (rest:=rest) (newCap:=newCap) (Rel.dead R (id:=b)) hf rfl (by rw[Q]) (cq.append s0 p) (by rw[ay,F,T,cR]) h1 h2;simpa using this
   ·cases g
   ·cases g
  | false=>
   simp only[cond_false]at f t
   cases k:aG (len+n) c with
   | true=>
    rw[k]at f;simp only[cond_true]at f;have k:=ax k;obtain⟨l,N,g,Q,H,p⟩:=C _ _ _ _ rfl f;obtain⟨o0,p0,c',K,hb,q0,g⟩:=oE g
    cases g
    rw[Q]at hb;obtain⟨w',ob,c0,r0,d0⟩:=pN (P:=P) (R.row hb y) q0 K p;refine fin (t.fit k ⟨B,E,J⟩ w' rfl (by rw[addr_add];exact c0)) ?_;refine⟨ρ,Ext.refl _ _ _,⟨B,κ,y,by simp,fun e=>by cases e⟩,?_⟩;have:=R.upd hb dR y r0 d0 dR;simpa[S.put,Q]using this
   | false=>
    rw[k]at f;simp only[cond_false]at f;have I0:¬len+n≤c:=fun e=>by rw[cA e]at k;cases k
    obtain⟨o0,p0,g0,hb,ht,g⟩:=jD f;obtain⟨l,N,g,Q,H,p⟩:=C { s with r:=b::s.r } _ _ _ rfl g
    cases g
    obtain⟨ol,s0,F,_,L⟩:=jx (P:=P) (R.row hb y) ht
    have e0:∀W:V,(∀b:Nat,W.heap[b]?=w.heap[b]?)→(bd (sizeT P e) len (.slice (I ⟨B,E,J⟩) len c)).run P W=.ok ⟨ol⟩ W:=by
     intro W hW;simp only[bd]
     have:=eu (P:=P) W ⟨B,E,J⟩ ol (fun j v hj=>by
      rw[addr_add];have:=L j v hj;unfold an at this⊢
      rw[hW];exact this)
     rw[F]at this;exact this
    obtain⟨newCap,rest,h1,h2,h3⟩:=t.grow I0 X ol e0;simp only[H]at hf fin⊢;refine fin h3 ?_;have:=Done.grown (s:=s) (s':= { h:=N.h.set s.n (.row (g0++l) (sizeT P e+1)),n:=s.n+1,r:=N.r,w:=N.w }) (m:=len+n) (size:=sizeT P e) (e:=e) (rest:=rest) (newCap:=newCap) R hf rfl (by rw[Q]) (cq.append s0 p) (by rw[ay,F,T,cR]) h1 h2;simpa using this
 ·
  rename_i b N0 E d
  obtain⟨B,κ,y,k0⟩:=hx
  cases k0
  cases hn:ak n 0 with
  | false=>rw[hn]at f;cases f
  | true=>
   rw[hn]at f
   cases f
   obtain rfl:=aI hn;obtain rfl:vs=[]:=lY.1 (by simpa using T);refine fin (t.fit bf _ w rfl (by simp[iT])) (Done.same R rfl ⟨B,κ,y,by simp⟩)
 ·cases f
end
end Go.Ev
