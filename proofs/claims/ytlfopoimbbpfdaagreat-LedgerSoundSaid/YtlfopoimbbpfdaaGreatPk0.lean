/- What the law asks, in parts: Lib. -/
import Derived.WalkKit
import Derived.WalkSpells
import Derived.WalkLawsBesides
import Derived.BigQuiet
import Derived.Lib.Hide
import Derived.Maps.AppendAt
import Derived.BigRegion
import Derived.Deep.RegionLawGrows
import Derived.Deep.RegionHeld3
import Derived.Deep.CutBlock
import Derived.Deep.DeepCutAuto
import Derived.Test.YtlfopoimbbpfdaaGreatRows
set_option linter.all false
set_option maxRecDepth 100000
set_option maxHeartbeats 16000000
namespace Go.Proofs.YtlfopoimbbpfdaaGreat
open Go.RowKit
theorem ah {p:Prop} (h:p):Go.RowKit.Hid p:=h
theorem aC (n:Nat):n≤n:=Nat.le_refl n
theorem bq {α:Type} {xs:Array α} {i:Nat} {b:α} (h:xs[i]? =some b):∃h:i<xs.size,xs[i]=b:=Array.getElem?_eq_some_iff.1 h
theorem aL (B:Nat) (w:World):Below B w w:=Below.refl B w
theorem aZ (n:Nat) {P:Program} {ops:Array Oper} {Q:Exit→Act→World→Prop} {rest:List Oper} {a:Act} {w:World} {op:Op} {t:TypeId} {s:String} {e:Array Edge} {g:Option (Nat×Bool)}
  (h:wpList P ops Q (⟨some n,op,t,s,e,g⟩::rest) a w):wpList P ops Q (⟨some n,op,t,s,e,g⟩::rest) a w:=h
theorem aS {α:Type} (l:List α) (k:Nat) (h:k<l.length):l.take (k+1)=l.take k++ [l[k]]:=by
 rw[List.take_succ_eq_append_getElem h]
theorem eH {k:IntKind} {a b:Int} (h:a=b):Ending.returned (.int k a)= .returned (.int k b):=by rw[h]
theorem aH {a b:Bool} (h:a=b):Ending.returned (.bool a)= .returned (.bool b):=by rw[h]
theorem below_drewN {B:Nat} {a w:World} (h:Below B a w) (n:Nat):Below B a (w.drewN n):=⟨h.os,h.tape,h.output,h.size,h.block⟩
structure Sl (w:World) (E:Nat) (v:Value) (n:Nat) (cs:List Value):Prop where
 len:cs.length=n*E
 val:∃ao cap,v= .slice ao n cap∧n≤cap∧cap≤maxLen∧(ao=none→n=0∧cap=0)∧
  ∀j u,cs[j]? =some u→ ∃b off,ao=some ⟨b,off,none⟩∧b<w.heap.size∧w.cell? ⟨b,off+j,none⟩=some u
theorem Sl.nil (w:World) (E:Nat):Sl w E (.slice none 0 0) 0 []:=⟨by simp,none,0,rfl,aC _,by unfold maxLen;omega,fun _=>⟨rfl,rfl⟩,fun j u h=>by simp at h⟩
theorem Sl.keep {w w':World} {E:Nat} {v:Value} {n:Nat} {cs:List Value} {B:Nat} (h:Sl w E v n cs) (hb:Below B w w') (hB:w.heap.size≤B):Sl w' E v n cs:=by
 obtain⟨h0,ao,cap,h1,h2,h3,h4,h5⟩:=h;refine⟨h0,ao,cap,h1,h2,h3,h4,fun j u hu=>?_⟩;obtain⟨b,off,g1,g2,g3⟩:=h5 j u hu;refine⟨b,off,g1,Nat.lt_of_lt_of_le g2 hb.size,?_⟩;rw[hb.cell (p:=⟨b,off+j,none⟩) (Nat.lt_of_lt_of_le g2 hB)];exact g3
theorem aG {w:World} {base:Nat} {e:TypeId} {E:Nat} {v:Value} {n:Nat} {xs:List Value} (h:w.ownsRow base e E v n xs):Sl w E v n xs:=by
 obtain⟨h0,h⟩:=h;rcases h with⟨rfl,rfl⟩ | ⟨g,cap,cur,rfl,_,hg,hn,hc,hs,ht⟩
 ·refine⟨h0,none,0,rfl,aC _,by unfold maxLen;omega,fun _=>⟨rfl,rfl⟩,fun j u hu=>?_⟩
  have:xs= []:=List.eq_nil_of_length_eq_zero (by simpa using h0);subst this;simp at hu
 ·refine⟨h0,_,cap,rfl,hn,hc,fun ha=>by simp at ha,fun j u hu=>⟨g,0,rfl,(bq hg).1,?_⟩⟩
  rw[←ht,List.getElem?_take]at hu
  split at hu
  ·simp only[World.cell?,hg];simpa using hu
  ·cases hu
theorem Sl.at {w:World} {E:Nat} {n:Nat} {cs:List Value} {ao:Option Addr} {cap:Nat} (h:Sl w E (.slice ao n cap) n cs) (hn:0<cs.length):
  ∃b off,ao=some ⟨b,off,none⟩∧b<w.heap.size∧ ∀j u,cs[j]? =some u→w.cell? ⟨b,off+j,none⟩=some u:=by
 obtain⟨h0,kJ,cap',h1,h2,h3,h4,h5⟩:=h;injection h1 with h1 _ h1c;subst h1 h1c;obtain⟨b,off,rfl,g2,_⟩:=h5 0 cs[0] (by simp[hn]);refine⟨b,off,rfl,g2,fun j u hu=>?_⟩;obtain⟨b',off',BS,_,hc⟩:=h5 j u hu;injection BS with BS;injection BS with h1 h2;subst h1 h2;exact hc
theorem Sl.shape {w:World} {E:Nat} {v:Value} {n:Nat} {cs:List Value} (h:Sl w E v n cs):∃ao cap,v= .slice ao n cap∧n≤cap∧cap≤9223372036854775807:=by
 obtain⟨_,ao,cap,h1,h2,h3,_,_⟩:=h;exact⟨ao,cap,h1,h2,by unfold maxLen at h3;omega⟩
theorem uD {P:Program} (w:World) (dT sT ty elem:TypeId) (i:TypeInfo) (g o dLen dCap:Nat) (ao:Option Addr) (sLen sCap:Nat) (cur:Array Value) (t:TypeId) (cs:List Value)
  (hu:P.underlying dT=some (.slice elem)) (hi:P.info? elem=some i)
  (hg:w.heap[g]? =some (.cells cur t (0,0))) (hn:cs.length=Nat.min sLen dLen*i.size)
  (hsrc:∀j v,cs[j]? =some v→ ∃a,ao=some a∧w.cell? (a.add j)=some v) (hfit:o+cs.length≤cur.size) (h1:∀v∈cs,v.oneCell'=true):
  (Builtin.copy_ #[dT,sT] ty #[.slice (some ⟨g,o,none⟩) dLen dCap,.slice ao sLen sCap]).run P w=
   .ok (goInt (Nat.min sLen dLen)) (w.setRow g (cur.toList.take o++cs++cur.toList.drop (o+cs.length)).toArray):=by
 have uE:=run_storeCells_at P g o t cs 0 cur w hg (by simpa using hfit) h1;simp only[Nat.add_zero]at uE
 have hload:(Builtin.firstCells i.size (Nat.min sLen dLen) (.slice ao sLen sCap)).run P w= .ok cs.toArray w:=by
  rcases ao with _ | a
  ·cases cs with
   | nil=>simp[Builtin.firstCells]
   | cons c cs=>obtain⟨a,ha,_⟩:=hsrc 0 c rfl;cases ha
  ·have hl:=run_loadCells_list (P:=P) w a cs (fun j v hv=>by obtain⟨a',ha,h⟩:=hsrc j v hv;injection ha with ha;subst ha;exact h)
   simp only[Builtin.firstCells,←hn,hl]
 simp[Builtin.copy_,run_underlying hu,Builtin.lenOf,sizeOf,typeInfo,hi,hload,uE]
theorem zw {P:Program} {w:World} {ops:Array Oper} {rest:List Oper} {o:Oper} {a:Act} {Q:Exit→Act→World→Prop} (oM:o.guard=none) (d s:Operand) (dT sT:TypeId)
  (ho:o.op= .call { callee:=.builtin .copy,args:= #[d,s],argTypes:= #[dT,sT] }) (base:Nat) (e:TypeId) (i:TypeInfo) (E:Nat) (hu:P.underlying dT=some (.slice e)) (hi:P.info? e=some i) (mK:i.size=E)
  (g n cap:Nat) (xs:List Value) (hd:a.eval d= .slice (some ⟨g,0,none⟩) n cap) (dD:w.ownsRow base e E (.slice (some ⟨g,0,none⟩) n cap) n xs)
  (ao:Option Addr) (Vn:Nat) (cs:List Value) (hs:a.eval s= .slice ao n Vn) (Ed:Sl w E (.slice ao n Vn) n cs) (h1:∀v∈cs,v.oneCell'=true)
  (h:∀w',w'.ownsRow base e E (.slice (some ⟨g,0,none⟩) n cap) n cs→w.grownBy w' (some g)→wpList P ops Q rest (a.put o.dst (goInt n)) w'):wpList P ops Q (o::rest) a w:=by
 refine wpList_plain oM fun K hK=>?_
 obtain⟨h0,hv⟩:=dD;rcases hv with⟨hv,_⟩ | ⟨g',cap',cur,hv,hbg,hg,zR,qM,kE,htake⟩
 ·cases hv
 injection hv with hv _ hv3;injection hv with hv;injection hv with hv _ _;subst hv hv3;obtain⟨hl,kJ,cap',hv',_,_,_,hx⟩:=Ed;injection hv' with hv' _ _;subst hv';have hmin:Nat.min n n=n:=Nat.min_self n;have xI:n*E≤cap*E:=Nat.mul_le_mul_right _ zR
 have mg:=uD (P:=P) w dT sT o.type e i g 0 n cap ao n Vn cur e cs hu hi hg (by rw[hmin,mK];exact hl)
  (fun j v hj=>by
   obtain⟨b,off,BS,_,hc⟩:=hx j v hj
   exact⟨_,BS,by rw[Addr.add_lit];exact hc⟩) (by omega) h1
 rw[hmin]at mg;unfold Oper.wp;simp[execOp,ho,resolve,invoke,builtin,hd,hs,mg,Result.andThen];refine hK _ _ (h _ ⟨hl,.inr ⟨g,cap,_,rfl,hbg,setRow_heap w g cur _ e _ hg,zR,qM,?_,?_⟩⟩ ⟨rfl,rfl,rfl,by simp[World.setRow],fun k hk eP=>setRow_other w g k _ (fun h=>eP (by rw[h]))⟩)
 ·simp;omega
 ·simp[←hl]
theorem iB {w:World} {b:Nat} {x y:Value} {t:TypeId} (h:w.heap[b]? =some (.cells #[x,y] t (0,0))):
  w.cell? ⟨b,0,none⟩=some x∧w.cell? ⟨b,1,none⟩=some y∧w.frozen? ⟨b,0,none⟩=false∧w.frozen? ⟨b,1,none⟩=false∧b<w.heap.size:=by
 refine⟨?_,?_,?_,?_,(bq h).1⟩<;>simp[World.cell?,World.frozen?,h]
theorem KJ {w:World} {b:Nat} {x y:Value} {t:TypeId} (h:w.heap[b]? =some (.cells #[x,y] t (0,0))) (u v:Value):
  ((w.setCell ⟨b,0,none⟩ u).setCell ⟨b,1,none⟩ v).heap[b]? =some (.cells #[u,v] t (0,0)):=by
 simp[World.setCell,Array.getElem?_modify,h]
theorem iC {w w':World} {row:Option Nat} (hg:w.grownBy w' row) {b B:Nat} (hb:b<w.heap.size) (hB:b<B) (hr:∀k,row=some k→B≤k):w'.heap[b]? =w.heap[b]? :=
 hg.block b hb (fun e=>by have:=hr b e.symm;omega)
theorem bQ {w:World} {base:Nat} {e:TypeId} {size:Nat} {v:Value} {n:Nat} {xs:List Value} (h:w.ownsRow base e size v n xs):∀k,v.ownBlock=some k→base≤k:=fun k hk=>(h.lt k hk).1
theorem gI {w:World} {base:Nat} {e:TypeId} {size:Nat} {v:Value} {n:Nat} {xs:List Value} (h:w.ownsRow base e size v n xs) (k:Nat):(w.drewN k).ownsRow base e size v n xs:=h
theorem jq (w:World) (x y:Value) (t:TypeId):∀j u,[x,y][j]? =some u→(w.alloc (.cells #[x,y] t)).cell? ((⟨w.heap.size,0,none⟩:Addr).add j)=some u:=by
 intro j u hu;rw[Addr.add_lit,World.cell?,show(w.alloc (.cells #[x,y] t)).heap[(⟨w.heap.size,0+j,none⟩:Addr).block]? =_ from heap_alloc_new w _];simpa using hu
theorem dS (w:World) (b:Nat) (x y:Value) (t:TypeId) (hb:w.heap.size=b):∀j u,[x,y][j]? =some u→(w.alloc (.cells #[x,y] t)).cell? ((⟨b,0,none⟩:Addr).add j)=some u:=by
 subst hb;exact jq w x y t
def Rd (w:World) (ao:Option Addr) (cs:List Value):Prop:=∀j u,cs[j]? =some u→ ∃a,ao=some a∧w.cell? (a.add j)=some u
theorem Sl.rd {w:World} {E:Nat} {n:Nat} {cs:List Value} {ao:Option Addr} {cap:Nat} (h:Sl w E (.slice ao n cap) n cs):Rd w ao cs:=by
 intro j u hu;obtain⟨hl,kJ,cap',h1,_,_,_,h5⟩:=h;injection h1 with h1 _ _;subst h1;obtain⟨b,off,BS,_,hc⟩:=h5 j u hu;exact⟨_,BS,by rw[Addr.add_lit];exact hc⟩
theorem Rd.keep {w w':World} {ao:Option Addr} {cs:List Value} {B:Nat} (h:Rd w ao cs) (hb:Below B w w') (hB:w.heap.size≤B):Rd w' ao cs:=by
 intro j u hu;obtain⟨a,ha,hc⟩:=h j u hu;refine⟨a,ha,?_⟩;have bA:=World.block_lt_of_cell? w _ hc;rw[hb.cell (Nat.lt_of_lt_of_le bA hB)];exact hc
theorem add_add' (a:Addr) (i j:Nat):(a.add i).add j=a.add (i+j):=by
 unfold Addr.add;by_cases hi:i=0<;>by_cases hj:j=0<;>simp[hi,hj,Nat.add_assoc]
theorem Rd.drop {w:World} {ao:Option Addr} {cs:List Value} (h:Rd w ao cs) (k:Nat):Rd w (ao.map (·.add k)) (cs.drop k):=by
 intro j u hu;rw[List.getElem?_drop]at hu;obtain⟨a,rfl,hc⟩:=h _ u hu;exact⟨_,rfl,by rw[add_add'];exact hc⟩
theorem Rd.take {w:World} {ao:Option Addr} {cs:List Value} (h:Rd w ao cs) (k:Nat):Rd w ao (cs.take k):=by
 intro j u hu;rw[List.getElem?_take]at hu
 split at hu
 ·exact h j u hu
 ·cases hu
theorem Rd.nil (w:World) (ao:Option Addr):Rd w ao []:=fun _ _ h=>by simp at h
theorem Rd.FI {w:World} {ao:Option Addr} {cs:List Value} (h:Rd w ao cs) (n:Nat) (o:Obj):Rd ((w.drewN n).alloc o) ao cs:=
 h.keep ((below_drewN (aL w.heap.size w) n).alloc (aC _) o) (aC _)
theorem Rd.alloc {w:World} {ao:Option Addr} {cs:List Value} (h:Rd w ao cs) (o:Obj):Rd (w.alloc o) ao cs:=
 h.keep ((aL w.heap.size w).alloc (aC _) o) (aC _)
theorem Rd.vX {w:World} {b off:Nat} {cs:List Value} (h:Rd w (some ⟨b,off,none⟩) cs) (k:Nat):Rd w (some ⟨b,off+k,none⟩) (cs.drop k):=by
 have:=h.drop k;simpa[Addr.add_lit]using this
theorem aI {w w':World} {base B:Nat} {e:TypeId} {size:Nat} {v:Value} {n:Nat} {xs:List Value} (h:w.ownsRow base e size v n xs) (hb:Below B w w') (hB:w.heap.size≤B):w'.ownsRow base e size v n xs:=by
 obtain⟨h1,h2⟩:=h;refine⟨h1,?_⟩;rcases h2 with h2 | ⟨g,cap,cur,hv,hg,hh,r⟩
 ·exact Or.inl h2
 ·exact Or.inr ⟨g,cap,cur,hv,hg,by rw[hb.block g (Nat.lt_of_lt_of_le (bq hh).1 hB)];exact hh,r⟩
def Apart (v v':Value):Prop:=∀g,v.ownBlock=some g→v'.ownBlock=some g→False
theorem xQ (v:Value):Apart (.slice none 0 0) v:=fun g h=>by simp[Value.ownBlock]at h
theorem Apart.symm {v v':Value} (h:Apart v v'):Apart v' v:=fun g a b=>h g b a
theorem Apart.kept {w w':World} {base:Nat} {e:TypeId} {size:Nat} {v v':Value} {n:Nat} {xs:List Value} (h:Apart v v') (ho:w.ownsRow base e size v' n xs) (hg:w.grownBy w' v.ownBlock):w'.ownsRow base e size v' n xs:=by
 refine ho.kept hg ?_
 cases hv:v'.ownBlock with
 | none=>exact .inl rfl
 | some g=>exact .inr fun e=>h g e.symm hv
theorem Ai {wr w1:World} {base:Nat} {e:TypeId} {size:Nat} {v:Value} {n:Nat} {xs:List Value} (ho:wr.ownsRow base e size v n xs) {o1 o2:Obj} (hg:((wr.alloc o1).alloc o2).grownBy w1 v.ownBlock):w1.heap[wr.heap.size]? =some o1:=by
 rw[hg.block wr.heap.size (by simp;omega) (fun h=>by have:=(ho.lt _ h.symm).2;omega),Below.heap_alloc _ _ _ (by simp),heap_alloc_new]
theorem nI {P:Program} (w:World) (base:Nat) (t ty e:TypeId) (i:TypeInfo) (size:Nat) (ht:P.underlying t=some (.slice e)) (hi:P.info? e=some i)
  (v:Value) (n:Nat) (xs:List Value) (dD:w.ownsRow base e size v n xs) (c:Nat):
  (Builtin.append_ #[t,t] ty #[v,.slice none 0 c]).run P w= .ok v w:=by
 rcases dD.2 with⟨rfl,rfl⟩ | ⟨g,cap,cur,rfl,_,_,zR,_⟩
 ·simp[Builtin.append_,run_underlying ht,sizeOf,typeInfo,hi,Builtin.lenOf,Builtin.firstCells]
 ·simp[Builtin.append_,run_underlying ht,sizeOf,typeInfo,hi,Builtin.lenOf,Builtin.firstCells,zR,storeCells]
theorem xR {P:Program} {w:World} {ops:Array Oper} {rest:List Oper} {o:Oper} {a:Act} {Q:Exit→Act→World→Prop} (oM:o.guard=none) (s x:Operand) (t:TypeId)
  (ho:o.op= .call { callee:=.builtin .append,args:= #[s,x],argTypes:= #[t,t] })
  (base:Nat) (e:TypeId) (i:TypeInfo) (z:Value) (size bytes:Nat) (ht:P.underlying t=some (.slice e)) (hi:P.info? e=some i) (hz:i.zero=some z)
  (hsize:i.size=size) (hby:i.bytes=bytes) (zS:z.cells.size=size) (mK:0<size)
  (v:Value) (n:Nat) (xs:List Value) (hs:a.eval s=v) (dD:w.ownsRow base e size v n xs)
  (ao:Option Addr) (m c:Nat) (news:List Value) (hx:a.eval x= .slice ao m c) (hl:news.length=m*size) (fZ:Rd w ao news) (h1:∀u∈news,u.oneCell'=true)
  (h63:n+m≤maxLen) (hbytes:(n+m)*bytes≤140737488355328) (gM:base≤w.heap.size)
  (h:∀v' w',w'.ownsRow base e size v' (n+m) (xs++news)→w.grownBy w' v.ownBlock→wpList P ops Q rest (a.put o.dst v') w'):wpList P ops Q (o::rest) a w:=by
 rcases ao with _ | ad
 ·have hm:news= []:=by
   cases news with
   | nil=>rfl
   | cons u r=>obtain⟨a,ha,_⟩:=fZ 0 u rfl;cases ha
  subst hm
  have hm:m=0:=by
   have:m*size=0:=by simpa using hl.symm
   rcases Nat.mul_eq_zero.1 this with h | h<;>omega
  subst hm;refine wpList_plain oM fun K hK=>?_
  have mg:=nI (P:=P) w base t o.type e i size ht hi v n xs dD c;unfold Oper.wp;simp[execOp,ho,resolve,invoke,builtin,hs,hx,mg,Result.andThen];exact hK _ _ (h v w (by simpa using dD) (World.grownBy.refl _ _))
 ·exact wpList_append_own _ oM s x t ho base e i z size bytes ht hi hz hsize hby zS mK v n xs hs dD ad m c news hx hl (fun j u hu=>by obtain⟨a',ha,hc⟩:=fZ j u hu;injection ha with ha;subst ha;exact hc) h1 h63 hbytes gM (fun v' w' h2 h3 _=>h v' w' h2 h3)
theorem aN {w:World} {base base':Nat} {e:TypeId} {size:Nat} {v:Value} {n:Nat} {xs:List Value} (h:w.ownsRow base e size v n xs) (hb:base'≤base):w.ownsRow base' e size v n xs:=by
 obtain⟨h1,h2⟩:=h;refine⟨h1,?_⟩;rcases h2 with h2 | ⟨g,cap,cur,hv,hg,hh,r⟩
 ·exact Or.inl h2
 ·exact Or.inr ⟨g,cap,cur,hv,Nat.le_trans hb hg,hh,r⟩
end Go.Proofs.YtlfopoimbbpfdaaGreat
namespace Go.Proofs.YtlfopoimbbpfdaaGreat
open Go.RowKit
theorem Apart.step2 {w:World} {base:Nat} {e:TypeId} {size:Nat} {v v1 v':Value} {n:Nat} {xs:List Value} {B:Nat} (h:Apart v v') (ho:w.ownsRow base e size v' n xs) (iQ:v1.ownBlock=v.ownBlock∨v1.ownBlock=some B) (hB:w.heap.size≤B):Apart v1 v':=by
 intro g h1 h2;rcases iQ with iQ | iQ
 ·exact h g (iQ▸h1) h2
 ·rw[iQ]at h1
  injection h1 with h1;have:=(ho.lt g h2).2;omega
theorem iD {P:Program} {w:World} {ops:Array Oper} {rest:List Oper} {o:Oper} {a:Act} {Q:Exit→Act→World→Prop} (oM:o.guard=none) (x lo:Operand) (t:TypeId)
  (ho:o.op= .slice t x (some lo) none none) (e:TypeId) (i:TypeInfo) (E:Nat) (hu:P.underlying t=some (.slice e)) (hi:P.info? e=some i) (mK:i.size=E)
  (ao:Option Addr) (n cap k:Nat) (cs:List Value) (hx:a.eval x= .slice ao n cap) (hlo:a.eval lo= .int .i64 (k:Nat)) (hk:k≤n) (hn:n≤cap) (qw:Rd w ao cs) (kE:cs.length=n*E)
  (h:∀kJ,Rd w kJ (cs.drop (k*E))→wpList P ops Q rest (a.put o.dst (.slice kJ (n-k) (cap-k))) w):wpList P ops Q (o::rest) a w:=by
 refine wpList_plain oM fun K hK=>?_
 have h9:Rd w (if cap=k then ao else ao.map (·.add (k*i.size))) (cs.drop (k*E)):=by
  rw[mK]
  split
  ·have:cs.drop (k*E)= []:=List.drop_eq_nil_of_le (by rw[kE];exact Nat.mul_le_mul_right _ (by omega))
   rw[this];exact Rd.nil _ _
  ·exact qw.drop _
 have h8:=hK _ _ (h _ h9);have he:P.elem t=e:=by simp[Program.elem,hu]
 have hu':P.underlying t=some (.slice (P.elem t)):=by rw[he];exact hu
 have mg:=run_slice_l (P:=P) (w:=w) t ao n cap hu' .i64 (k:Int) (by omega) (by omega);have hsz':(sizeOf (P.elem t)).run P w= .ok i.size w:=by simp[sizeOf,typeInfo,he,hi]
 simp only[hsz',Result.andThen,sliced,Int.toNat_natCast]at mg
 have OH:(Instr.sliceAt t (.slice ao n cap) (some (.int .i64 (k:Int))) none none).run P w= .ok (.slice (if cap=k then ao else ao.map (·.add (k*i.size))) (n-k) (cap-k)) w:=by
  simp[Instr.sliceAt,run_underlying hu,mg]
 unfold Oper.wp;simp[execOp,ho,hx,hlo,OH,Result.andThen];exact h8
theorem dB (w:World) (b base:Nat) (e:TypeId) (size:Nat) (cs:Array Value) (n:Nat) (hb:w.heap.size=b) (hB:base≤b) (hm:n≤1000000) (hs:cs.size=n*size):
  (w.alloc (.cells cs e)).ownsRow base e size (.slice (some ⟨b,0,none⟩) n n) n cs.toList:=by
 subst hb;exact World.ownsRow_lit w cs n hB (by unfold maxLen;omega) hs
end Go.Proofs.YtlfopoimbbpfdaaGreat
namespace Go.Proofs.YtlfopoimbbpfdaaGreat
open Go.RowKit
theorem kF {P:Program} {w:World} {ops:Array Oper} {rest:List Oper} {o:Oper} {a:Act} {Q:Exit→Act→World→Prop} (oM:o.guard=none) (x hi:Operand) (t:TypeId)
  (ho:o.op= .slice t x none (some hi) none) (e:TypeId) (i:TypeInfo) (E:Nat) (hu:P.underlying t=some (.slice e)) (hinfo:P.info? e=some i) (_hsz:i.size=E)
  (ao:Option Addr) (n cap k:Nat) (cs:List Value) (hx:a.eval x= .slice ao n cap) (hlo:a.eval hi= .int .i64 (k:Nat)) (hk:k≤cap) (qw:Rd w ao cs)
  (h:∀kJ,Rd w kJ (cs.take (k*E))→wpList P ops Q rest (a.put o.dst (.slice kJ k cap)) w):wpList P ops Q (o::rest) a w:=by
 refine wpList_plain oM fun K hK=>?_
 have hao:(if cap=0 then ao else ao.map (·.add (0*i.size)))=ao:=by
  split
  ·rfl
  ·cases ao with
   | none=>rfl
   | some b=>simp[Addr.add]
 have h8:=hK _ _ (h _ (qw.take (k*E)));have he:P.elem t=e:=by simp[Program.elem,hu]
 have hu':P.underlying t=some (.slice (P.elem t)):=by rw[he];exact hu
 have mg:=run_slice_h (P:=P) (w:=w) t ao n cap hu' .i64 (k:Int) (by omega) (by omega);have hsz':(sizeOf (P.elem t)).run P w= .ok i.size w:=by simp[sizeOf,typeInfo,he,hinfo]
 simp only[hsz',Result.andThen,sliced,Int.toNat_natCast,Nat.sub_zero]at mg;rw[hao]at mg
 have OH:(Instr.sliceAt t (.slice ao n cap) none (some (.int .i64 (k:Int))) none).run P w= .ok (.slice ao k cap) w:=by
  simp[Instr.sliceAt,run_underlying hu,mg]
 unfold Oper.wp;simp[execOp,ho,hx,hlo,OH,Result.andThen];exact h8
end Go.Proofs.YtlfopoimbbpfdaaGreat
namespace Go.Proofs.YtlfopoimbbpfdaaGreat
open Go.RowKit
theorem yK {α:Type} (A B cs:List α) (q M:Nat) (kE:cs.length=M) (hq:q+M≤A.length):
  ((A++B).take q++cs++(A++B).drop (q+M)).take A.length=A.take q++cs++A.drop (q+M):=by
 have e1:(A++B).take q=A.take q:=List.take_append_of_le_length (by omega);have e2:(A++B).drop (q+M)=A.drop (q+M)++B:=List.drop_append_of_le_length hq;rw[e1,e2,←List.append_assoc];have hl:(A.take q++cs++A.drop (q+M)).length=A.length:=by simp[kE];omega
 exact List.take_left' hl
theorem dV {w:World} {base:Nat} {e:TypeId} {E g n cap:Nat} {xs:List Value} (h:w.ownsRow base e E (.slice (some ⟨g,0,none⟩) n cap) n xs) (j:Nat) (hj:j<xs.length) (u:Value):
  (w.setCell ⟨g,j,none⟩ u).ownsRow base e E (.slice (some ⟨g,0,none⟩) n cap) n (xs.set j u):=by
 obtain⟨h0,hv⟩:=h;rcases hv with⟨hv,_⟩ | ⟨g',cap',cur,hv,hbg,hg,zR,qM,hcz,htake⟩
 ·cases hv
 injection hv with hv _ hv3;injection hv with hv;injection hv with hv _ _;subst hv hv3
 have hj2:j<cur.size:=by
  have:xs.length≤cur.toList.length:=by rw[←htake];simp;omega
  simpa using Nat.lt_of_lt_of_le hj this
 refine⟨by simpa using h0,.inr ⟨g,cap,cur.set j u hj2,rfl,hbg,?_,zR,qM,by simpa using hcz,?_⟩⟩
 ·simp[World.setCell,Array.getElem?_modify,hg,Array.setIfInBounds,hj2]
 ·rw[←htake];simp[List.take_set]
theorem bg {w:World} {base:Nat} {e:TypeId} {E g n cap:Nat} {xs:List Value} (h:w.ownsRow base e E (.slice (some ⟨g,0,none⟩) n cap) n xs):
  base≤g∧g<w.heap.size∧n≤cap∧cap≤9223372036854775807∧xs.length=n*E∧(∀o,w.frozen? ⟨g,o,none⟩=false)∧ ∀j u,xs[j]? =some u→w.cell? ⟨g,j,none⟩=some u:=by
 obtain⟨h0,hv⟩:=h;rcases hv with⟨hv,_⟩ | ⟨g',cap',cur,hv,hbg,hg,zR,qM,hcz,htake⟩
 ·cases hv
 injection hv with hv _ hv3;injection hv with hv;injection hv with hv _ _;subst hv hv3;refine⟨hbg,(bq hg).1,zR,by unfold maxLen at qM;exact qM,h0,fun o=>by simp[World.frozen?,hg],fun j u hu=>?_⟩;rw[←htake,List.getElem?_take]at hu
 split at hu
 ·simp only[World.cell?,hg];simpa using hu
 ·cases hu
theorem fT {w:World} {base:Nat} {e:TypeId} {E:Nat} {v:Value} {n:Nat} {xs:List Value} (h:w.ownsRow base e E v n xs) (hn:0<n):∃g cap,v= .slice (some ⟨g,0,none⟩) n cap:=by
 obtain⟨_,hv⟩:=h;rcases hv with⟨_,hv⟩ | ⟨g,cap,cur,hv,_⟩
 ·omega
 ·exact⟨g,cap,hv⟩
theorem aO {w:World} {base:Nat} {e:TypeId} {E:Nat} {v:Value} {n:Nat} {xs:List Value} (h:w.ownsRow base e E v n xs):∃ao cap,v= .slice ao n cap∧n≤cap∧cap≤9223372036854775807:=(aG h).shape
theorem fF {P:Program} (t e:TypeId) (i:TypeInfo) (E:Nat) (hu:P.underlying t=some (.slice e)) (hi:P.info? e=some i) (mK:i.size=E)
  (g off n cap k:Nat) (K:Int) (hK:K=k) (hk:k≤n) (_hn:n≤cap):
  ∃ao,(k<cap→ao=some ⟨g,off+k*E,none⟩)∧ ∀w:World,(Instr.sliceAt t (.slice (some ⟨g,off,none⟩) n cap) (some (.int .i64 K)) none none).run P w= .ok (.slice ao (n-k) (cap-k)) w:=by
 subst hK;refine⟨if cap=k then some ⟨g,off,none⟩else(some ⟨g,off,none⟩:Option Addr).map (·.add (k*i.size)),fun h=>?_,fun w=>?_⟩
 ·rw[if_neg (by omega),Option.map_some,Addr.add_lit,mK]
 ·have he:P.elem t=e:=by simp[Program.elem,hu]
  have hu':P.underlying t=some (.slice (P.elem t)):=by rw[he];exact hu
  have mg:=run_slice_l (P:=P) (w:=w) t (some ⟨g,off,none⟩) n cap hu' .i64 (k:Int) (by omega) (by omega);have hsz':(sizeOf (P.elem t)).run P w= .ok i.size w:=by simp[sizeOf,typeInfo,he,hi]
  simp only[hsz',Result.andThen,sliced,Int.toNat_natCast]at mg;simp[Instr.sliceAt,run_underlying hu,mg]
theorem vY {W w1:World} (hb:Below W.heap.size W w1):(∀b o,b<W.heap.size→w1.cell? ⟨b,o,none⟩=W.cell? ⟨b,o,none⟩)∧W.heap.size≤w1.heap.size:=
 ⟨fun b o h=>hb.cell (p:=⟨b,o,none⟩) h,hb.size⟩
theorem fU {w w':World} {a:Addr} {x:Value} {B:Nat} (h:w.cell? a=some x) (hb:Below B w w') (hB:a.block<B):w'.cell? a=some x:=by rw[hb.cell hB];exact h
end Go.Proofs.YtlfopoimbbpfdaaGreat
namespace Go.Proofs.YtlfopoimbbpfdaaGreat
open Go.RowKit
theorem dL {P:Program} {w:World} {ops:Array Oper} {rest:List Oper} {o:Oper} {a:Act} {Q:Exit→Act→World→Prop} (oM:o.guard=none) (s x:Operand) (t:TypeId)
  (ho:o.op= .call { callee:=.builtin .append,args:= #[s,x],argTypes:= #[t,t] })
  (base:Nat) (e:TypeId) (i:TypeInfo) (z:Value) (size bytes:Nat) (ht:P.underlying t=some (.slice e)) (hi:P.info? e=some i) (hz:i.zero=some z)
  (hsize:i.size=size) (hby:i.bytes=bytes) (zS:z.cells.size=size) (mK:0<size)
  (v:Value) (n:Nat) (xs:List Value) (hs:a.eval s=v) (dD:w.ownsRow base e size v n xs)
  (ao:Option Addr) (m c:Nat) (news:List Value) (hx:a.eval x= .slice ao m c) (hl:news.length=m*size) (fZ:Rd w ao news) (h1:∀u∈news,u.oneCell'=true)
  (h63:n+m≤maxLen) (hbytes:(n+m)*bytes≤140737488355328) (gM:base≤w.heap.size)
  (h:∀v' w',w'.ownsRow base e size v' (n+m) (xs++news)→w.grownBy w' v.ownBlock→(v'.ownBlock=v.ownBlock∨v'.ownBlock=some w.heap.size)→wpList P ops Q rest (a.put o.dst v') w'):wpList P ops Q (o::rest) a w:=by
 rcases ao with _ | ad
 ·have hm:news= []:=by
   cases news with
   | nil=>rfl
   | cons u r=>obtain⟨a,ha,_⟩:=fZ 0 u rfl;cases ha
  subst hm
  have hm:m=0:=by
   have:m*size=0:=by simpa using hl.symm
   rcases Nat.mul_eq_zero.1 this with h | h<;>omega
  subst hm;refine wpList_plain oM fun K hK=>?_
  have mg:=nI (P:=P) w base t o.type e i size ht hi v n xs dD c;unfold Oper.wp;simp[execOp,ho,resolve,invoke,builtin,hs,hx,mg,Result.andThen];exact hK _ _ (h v w (by simpa using dD) (World.grownBy.refl _ _) (.inl rfl))
 ·exact wpList_append_own_at _ oM s x t ho base e i z size bytes ht hi hz hsize hby zS mK v n xs hs dD ad m c news hx hl (fun j u hu=>by obtain⟨a',ha,hc⟩:=fZ j u hu;injection ha with ha;subst ha;exact hc) h1 h63 hbytes gM (fun v' w' h2 h3 _ h4=>h v' w' h2 h3 h4)
end Go.Proofs.YtlfopoimbbpfdaaGreat
namespace Go.Proofs.YtlfopoimbbpfdaaGreat
open Go.RowKit
abbrev Rg:=Int×Int
def aR (l:List Rg):List Value:=l.flatMap fun r=>[.int .i64 r.1,.int .i64 r.2]
theorem o7 (r:Rg) (l:List Rg):aR (r::l)= .int .i64 r.1:: .int .i64 r.2::aR l:=rfl
theorem uF (a b:List Rg):aR (a++b)=aR a++aR b:=by simp[aR]
theorem o8 (a:List Rg) (p q:Int):aR (a++ [(p,q)])=aR a++ [.int .i64 p,.int .i64 q]:=by simp[aR]
theorem j6 (l:List Rg):(aR l).length=l.length*2:=by
 induction l with
 | nil=>rfl
 | cons r l ih=>rw[o7];simp[ih];omega
theorem Mt (l:List Rg) (k:Nat) (hk:k<l.length):(aR l)[k*2]? =some (.int .i64 l[k].1)∧(aR l)[k*2+1]? =some (.int .i64 l[k].2):=by
 induction l generalizing k with
 | nil=>simp at hk
 | cons r l ih=>
  cases k with
  | zero=>simp[o7]
  | succ k=>
   have h:=ih k (by simpa using hk);rw[o7];have e1:(k+1)*2=k*2+1+1:=by omega
   have e2:(k+1)*2+1=k*2+1+1+1:=by omega
   rw[e1];simpa using h
theorem uR (l:List Rg):∀u∈aR l,u.oneCell'=true:=by
 intro u hu;simp only[aR,List.mem_flatMap]at hu;obtain⟨r,_,h⟩:=hu;simp at h;rcases h with rfl | rfl<;>rfl
theorem FJ (l:List Rg) (k:Nat):(aR l).drop (k*2)=aR (l.drop k):=by
 induction l generalizing k with
 | nil=>simp[aR]
 | cons r l ih=>
  cases k with
  | zero=>simp
  | succ k=>rw[o7,show(k+1)*2=k*2+1+1 from by omega,List.drop_succ_cons,List.drop_succ_cons,ih];rfl
def fD (w:World) (v:Value) (l:List Rg):Prop:=Sl w 2 v l.length (aR l)
theorem fD.keep {w w':World} {v:Value} {l:List Rg} {B:Nat} (h:fD w v l) (hb:Below B w w') (hB:w.heap.size≤B):fD w' v l:=Sl.keep h hb hB
theorem fD.nil (w:World):fD w (.slice none 0 0) []:=Sl.nil w 2
theorem fD.pair {w wr:World} {l:List Rg} {ao:Option Addr} {cap B:Nat} (h:fD w (.slice ao l.length cap) l) (hb:Below B w wr) (hB:w.heap.size≤B) (k:Nat) (hk:k<l.length):
  ∃b off,ao=some ⟨b,off,none⟩∧b<w.heap.size∧wr.cell? ⟨b,off+k*2,none⟩=some (.int .i64 l[k].1)∧wr.cell? ⟨b,off+k*2+1,none⟩=some (.int .i64 l[k].2):=by
 obtain⟨b,off,h1,h2,h3⟩:=Sl.at h (by rw[j6];omega);have hx:=Mt l k hk;refine⟨b,off,h1,h2,?_,?_⟩
 ·rw[hb.cell (p:=⟨b,off+k*2,none⟩) (Nat.lt_of_lt_of_le h2 hB)];exact h3 _ _ hx.1
 ·rw[hb.cell (p:=⟨b,off+k*2+1,none⟩) (Nat.lt_of_lt_of_le h2 hB)];exact h3 _ _ hx.2
def Small (l:List Rg):Prop:=∀r∈l,0≤r.1∧r.1<r.2∧r.2≤1073741824
def dG:List Rg→Int
 | []=>0
 | r::l=>(r.2-r.1)+dG l
theorem sJ (a b:List Rg):dG (a++b)=dG a+dG b:=by
 induction a with
 | nil=>simp[dG]
 | cons r a ih=>simp[dG,ih];omega
theorem kR (l:List Rg) (h:Small l):0≤dG l∧dG l≤l.length*1073741824:=by
 induction l with
 | nil=>simp[dG]
 | cons r l ih=>
  have h1:=h r (by simp);have h2:=ih (fun x hx=>h x (by simp[hx]));simp only[dG,List.length_cons];omega
def dM (l:List Rg) (n:Int):Bool:=l.any fun r=>decide (r.1≤n)&&decide (n<r.2)
theorem Small.take {l:List Rg} (h:Small l) (k:Nat):Small (l.take k):=fun r hr=>h r (List.mem_of_mem_take hr)
end Go.Proofs.YtlfopoimbbpfdaaGreat
namespace Go.Proofs.YtlfopoimbbpfdaaGreat
def dw (l:List Rg):Prop:=Small l∧l.Pairwise (fun a b=>a.2<b.1)
instance (l:List Rg):Decidable (dw l):=by unfold dw Small;exact inferInstance
theorem dw.ahead {a b:List Rg} (h:dw (a++b)):dw a:=⟨fun r hr=>h.1 r (by simp[hr]),(List.pairwise_append.1 h.2).1⟩
theorem dw.take {l:List Rg} (h:dw l) (k:Nat):dw (l.take k):=dw.ahead (b:=l.drop k) (by rw[List.take_append_drop];exact h)
theorem mV (x y:Int):dw [(x,y)]↔0≤x∧x<y∧y≤1073741824:=by
 constructor
 ·intro h;exact h.1 (x,y) (by simp)
 ·intro h;exact⟨fun r hr=>by simp at hr;subst hr;exact h,by simp⟩
theorem jr (l:List Rg) (x0 y0 x y:Int):dw (l++ [(x0,y0)]++ [(x,y)])↔dw (l++ [(x0,y0)])∧0≤x∧x<y∧y≤1073741824∧y0<x:=by
 constructor
 ·intro h
  have h1:=h.1 (x,y) (by simp);have h2:=(List.pairwise_append.1 h.2).2.2 (x0,y0) (by simp) (x,y) (by simp);exact⟨h.ahead,h1.1,h1.2.1,h1.2.2,h2⟩
 ·rintro⟨h,h1,h2,h3,h4⟩
  refine⟨fun r hr=>?_,List.pairwise_append.2 ⟨h.2,by simp,fun a ha b hb=>?_⟩⟩
  ·rw[List.mem_append]at hr
   rcases hr with hr | hr
   ·exact h.1 r hr
   ·simp at hr;subst hr;exact⟨h1,h2,h3⟩
  ·simp at hb;subst hb
   rw[List.mem_append]at ha;rcases ha with ha | ha
   ·have h5:=(List.pairwise_append.1 h.2).2.2 a ha (x0,y0) (by simp)
    have h6:=h.1 (x0,y0) (by simp);simp only at h5 h6 ⊢;omega
   ·simp at ha;subst ha;exact h4
end Go.Proofs.YtlfopoimbbpfdaaGreat
namespace Go.Proofs.YtlfopoimbbpfdaaGreat
open Go.RowKit
def bS (ns:List Int):List Value:=ns.map (Value.int .i64)
def jv (w:World) (v:Value) (ns:List Int):Prop:=Sl w 1 v ns.length (bS ns)
theorem jv.cell {w wr:World} {ns:List Int} {ao:Option Addr} {cap B:Nat} (h:jv w (.slice ao ns.length cap) ns) (hb:Below B w wr) (hB:w.heap.size≤B) (k:Nat) (hk:k<ns.length):
  ∃b off,ao=some ⟨b,off,none⟩∧b<w.heap.size∧wr.cell? ⟨b,off+k,none⟩=some (.int .i64 ns[k]):=by
 obtain⟨b,off,h1,h2,h3⟩:=Sl.at h (by simp[bS];omega);refine⟨b,off,h1,h2,?_⟩;rw[hb.cell (p:=⟨b,off+k,none⟩) (Nat.lt_of_lt_of_le h2 hB)];exact h3 k _ (by simp[bS,hk])
theorem jv.keep {w w':World} {v:Value} {l:List Int} {B:Nat} (h:jv w v l) (hb:Below B w w') (hB:w.heap.size≤B):jv w' v l:=Sl.keep h hb hB
theorem Dc (a n:Int) (hn:0<n) (h:a<0):(if a.tmod n<0 then a.tmod n+n else a.tmod n)=a%n:=by
 have h1:=Int.tmod_eq_emod (a:=a) (b:=n);have h2:=Int.emod_nonneg a (show n≠0 by omega);have h3:=Int.emod_lt_of_pos a hn;by_cases hd:n ∣ a
 ·have h4:a%n=0:=Int.emod_eq_zero_of_dvd hd
  simp[hd]at h1;rw[h1,h4];simp
 ·have h5:¬0≤a:=by omega
  simp[hd,h5]at h1;have h6:(n.natAbs:Int)=n:=by omega
  have h7:a%n≠0:=fun e=>hd (Int.dvd_of_emod_eq_zero e)
  rw[h1,h6]
  split<;>omega
end Go.Proofs.YtlfopoimbbpfdaaGreat
namespace Go.Proofs.YtlfopoimbbpfdaaGreat
open Go.RowKit
def aJ {α:Type} (f:α→List Value) (l:List α):List Value:=l.flatMap f
theorem aY {α:Type} (f:α→List Value) (x:α) (l:List α):aJ f (x::l)=f x++aJ f l:=rfl
theorem fE {α:Type} (f:α→List Value) (a b:List α):aJ f (a++b)=aJ f a++aJ f b:=by simp[aJ]
theorem uS {α:Type} (f:α→List Value) (x:α):aJ f [x]=f x:=by simp[aJ]
theorem bP {α:Type} {f:α→List Value} {E:Nat} (hE:∀x,(f x).length=E) (l:List α):(aJ f l).length=l.length*E:=by
 induction l with
 | nil=>simp[aJ]
 | cons x l ih=>rw[aY,List.length_append,hE,ih,List.length_cons,Nat.add_mul];omega
theorem bV {α:Type} {f:α→List Value} {E:Nat} (hE:∀x,(f x).length=E) (l:List α) (k:Nat) (hk:k<l.length) (j:Nat) (hj:j<E):(aJ f l)[k*E+j]? =(f l[k])[j]? :=by
 induction l generalizing k with
 | nil=>simp at hk
 | cons x l ih=>
  cases k with
  | zero=>rw[aY,Nat.zero_mul,Nat.zero_add,List.getElem?_append_left (by rw[hE];exact hj)];rfl
  | succ k=>
   rw[aY,List.getElem?_append_right (by rw[hE,Nat.add_mul];omega),hE,show(k+1)*E+j-E=k*E+j by rw[Nat.add_mul];omega];exact ih k (by simpa using hk)
theorem FK {α:Type} {f:α→List Value} {E:Nat} (hE:∀x,(f x).length=E) (l:List α) (k:Nat):(aJ f l).drop (k*E)=aJ f (l.drop k):=by
 induction l generalizing k with
 | nil=>simp[aJ]
 | cons x l ih=>
  cases k with
  | zero=>simp
  | succ k=>rw[aY,show(k+1)*E=(f x).length+k*E by rw[hE,Nat.add_mul];omega,List.drop_append,List.drop_of_length_le (by omega),Nat.add_sub_cancel_left,List.nil_append,ih k,List.drop_succ_cons]
theorem yL {α:Type} {f:α→List Value} {E:Nat} (hE:∀x,(f x).length=E) (l:List α) (k:Nat):(aJ f l).take (k*E)=aJ f (l.take k):=by
 induction l generalizing k with
 | nil=>simp[aJ]
 | cons x l ih=>
  cases k with
  | zero=>simp[aJ]
  | succ k=>rw[aY,show(k+1)*E=(f x).length+k*E by rw[hE,Nat.add_mul];omega,List.take_append,List.take_of_length_le (by omega),Nat.add_sub_cancel_left,ih k,List.take_succ_cons,aY]
theorem gu {α:Type} {f:α→List Value} (h1:∀x,∀u∈f x,u.oneCell'=true) (l:List α):∀u∈aJ f l,u.oneCell'=true:=by
 intro u hu;simp only[aJ,List.mem_flatMap]at hu;obtain⟨x,_,h⟩:=hu;exact h1 x u h
def dI {α:Type} (f:α→List Value) (E:Nat) (w:World) (v:Value) (l:List α):Prop:=Sl w E v l.length (aJ f l)
theorem dI.keep {α:Type} {f:α→List Value} {E:Nat} {w w':World} {v:Value} {l:List α} {B:Nat} (h:dI f E w v l) (hb:Below B w w') (hB:w.heap.size≤B):dI f E w' v l:=Sl.keep h hb hB
theorem dI.nil {α:Type} (f:α→List Value) (E:Nat) (w:World):dI f E w (.slice none 0 0) []:=Sl.nil w E
theorem dI.at {α:Type} {f:α→List Value} {E:Nat} {w wr:World} {l:List α} {ao:Option Addr} {cap B:Nat} (h:dI f E w (.slice ao l.length cap) l) (hE:∀x,(f x).length=E) (hp:0<E) (hb:Below B w wr) (hB:w.heap.size≤B) (k:Nat) (hk:k<l.length):
  ∃b off,ao=some ⟨b,off,none⟩∧b<w.heap.size∧ ∀j u,(f l[k])[j]? =some u→wr.cell? ⟨b,off+k*E+j,none⟩=some u:=by
 obtain⟨b,off,h1,h2,h3⟩:=Sl.at h (by rw[bP hE];exact Nat.mul_pos (by omega) hp);refine⟨b,off,h1,h2,fun j u hu=>?_⟩;have hj:j<E:=by rw[←hE l[k]];exact(List.getElem?_eq_some_iff.1 hu).1
 rw[hb.cell (p:=⟨b,off+k*E+j,none⟩) (Nat.lt_of_lt_of_le h2 hB),Nat.add_assoc];exact h3 _ _ (by rw[bV hE l k hk j hj];exact hu)
def bN {α β:Type} (R:α→β→Prop):List α→List β→Prop
 | [],[]=>True
 | a::Aj,b::bs=>R a b∧bN R Aj bs
 | _,_=>False
theorem bN.len {α β:Type} {R:α→β→Prop}:∀ {Aj:List α} {bs:List β},bN R Aj bs→Aj.length=bs.length
 | [],[],_=>rfl
 | _::_,_::_,h=>by rw[List.length_cons,List.length_cons,bN.len h.2]
 | [],_::_,h=>absurd h (by simp[bN])
 | _::_,[],h=>absurd h (by simp[bN])
theorem bN.at {α β:Type} {R:α→β→Prop}:∀ {Aj:List α} {bs:List β},bN R Aj bs→ ∀k (h1:k<Aj.length) (h2:k<bs.length),R Aj[k] bs[k]
 | [],[],_,_,h1,_=>absurd h1 (by simp)
 | _::_,_::_,h,0,_,_=>h.1
 | _::_,_::_,h,k+1,h1,h2=>bN.at h.2 k (by simpa using h1) (by simpa using h2)
 | [],_::_,h,_,_,_=>absurd h (by simp[bN])
 | _::_,[],h,_,_,_=>absurd h (by simp[bN])
theorem bN.imp {α β:Type} {R S:α→β→Prop} (hRS:∀a b,R a b→S a b):∀ {Aj:List α} {bs:List β},bN R Aj bs→bN S Aj bs
 | [],[],_=>trivial
 | _::_,_::_,h=>⟨hRS _ _ h.1,bN.imp hRS h.2⟩
 | [],_::_,h=>absurd h (by simp[bN])
 | _::_,[],h=>absurd h (by simp[bN])
theorem bN.append {α β:Type} {R:α→β→Prop}:∀ {Aj:List α} {bs:List β} {cs:List α} {ds:List β},bN R Aj bs→bN R cs ds→bN R (Aj++cs) (bs++ds)
 | [],[],_,_,_,k=>k
 | _::_,_::_,_,_,h,k=>⟨h.1,bN.append h.2 k⟩
 | [],_::_,_,_,h,_=>absurd h (by simp[bN])
 | _::_,[],_,_,h,_=>absurd h (by simp[bN])
theorem bN.take {α β:Type} {R:α→β→Prop}:∀ {Aj:List α} {bs:List β} (k:Nat),bN R Aj bs→bN R (Aj.take k) (bs.take k)
 | _,_,0,_=>by simp[bN]
 | [],[],_+1,_=>trivial
 | _::_,_::_,k+1,h=>⟨h.1,bN.take k h.2⟩
 | [],_::_,_+1,h=>absurd h (by simp[bN])
 | _::_,[],_+1,h=>absurd h (by simp[bN])
theorem bN.drop {α β:Type} {R:α→β→Prop}:∀ {Aj:List α} {bs:List β} (k:Nat),bN R Aj bs→bN R (Aj.drop k) (bs.drop k)
 | _,_,0,h=>by simpa using h
 | [],[],_+1,_=>trivial
 | _::_,_::_,k+1,h=>bN.drop k h.2
 | [],_::_,_+1,h=>absurd h (by simp[bN])
 | _::_,[],_+1,h=>absurd h (by simp[bN])
theorem bN.set {α β:Type} {R:α→β→Prop}:∀ {Aj:List α} {bs:List β} (k:Nat) {a:α} {b:β},bN R Aj bs→R a b→bN R (Aj.set k a) (bs.set k b)
 | [],[],_,_,_,_,_=>trivial
 | _::_,_::_,0,_,_,h,r=>⟨r,h.2⟩
 | _::_,_::_,k+1,_,_,h,r=>⟨h.1,bN.set k h.2 r⟩
 | [],_::_,_,_,_,h,_=>absurd h (by simp[bN])
 | _::_,[],_,_,_,h,_=>absurd h (by simp[bN])
end Go.Proofs.YtlfopoimbbpfdaaGreat
namespace Go.Proofs.YtlfopoimbbpfdaaGreat
structure Ct where
 key:ByteArray
 coll:Int
 lo:Int
 hi:Int
 start:Int
 up:Int
 down:Int
structure Sc where
 key:ByteArray
 up:Int
 down:Int
 uu:Int
 ud:Int
structure Ls where
 dev:Int
 epoch:Int
 bU:Int
 last:Int
 sl:List Sc
 ids:List Rg
 used:List Int
structure Bk where
 cs:List Ct
 free:List Rg
 ls:List Ls
 bound:List Int
structure Wn where
 key:ByteArray
 up:Int
 down:Int
 ids:Int
instance:DecidableEq Ct:=fun a b=>
 if h:a.key=b.key∧a.coll=b.coll∧a.lo=b.lo∧a.hi=b.hi∧a.start=b.start∧a.up=b.up∧a.down=b.down then isTrue (by cases a;cases b;simp_all)else isFalse (fun e=>h (by rw[e];simp))
instance:DecidableEq Sc:=fun a b=>
 if h:a.key=b.key∧a.up=b.up∧a.down=b.down∧a.uu=b.uu∧a.ud=b.ud then isTrue (by cases a;cases b;simp_all)else isFalse (fun e=>h (by rw[e];simp))
instance:DecidableEq Ls:=fun a b=>
 if h:a.dev=b.dev∧a.epoch=b.epoch∧a.bU=b.bU∧a.last=b.last∧a.sl=b.sl∧a.ids=b.ids∧a.used=b.used then isTrue (by cases a;cases b;simp_all)else isFalse (fun e=>h (by rw[e];simp))
instance:DecidableEq Bk:=fun a b=>
 if h:a.cs=b.cs∧a.free=b.free∧a.ls=b.ls∧a.bound=b.bound then isTrue (by cases a;cases b;simp_all)else isFalse (fun e=>h (by rw[e];simp))
def fB {α:Type} (p:α→Bool):List α→Int
 | []=> -1
 | x::l=>if p x then 0 else(if fB p l= -1 then -1 else fB p l+1)
theorem vZ {α:Type} (p:α→Bool) (l:List α): -1≤fB p l:=by
 induction l with
 | nil=>simp[fB]
 | cons x l ih=>unfold fB;split;omega;split<;>omega
theorem gF {α:Type} {p:α→Bool} {l:List α} (h:∀x∈l,p x=false):fB p l= -1:=by
 induction l with
 | nil=>rfl
 | cons x l ih=>rw[fB,h x (by simp),ih (fun y hy=>h y (by simp[hy]))];simp
theorem kG {α:Type} {p:α→Bool} {l:List α} (k:Nat) (hk:k<l.length) (h0:∀j (hj:j<k),p (l[j]'(by omega))=false) (h1:p l[k]=true):fB p l=k:=by
 induction l generalizing k with
 | nil=>simp at hk
 | cons x l ih=>
  cases k with
  | zero=>rw[fB,if_pos (by simpa using h1)];rfl
  | succ k=>
   have hx:=h0 0 (by omega);have:=ih k (by simpa using hk) (fun j hj=>by have:=h0 (j+1) (by omega);simpa using this) (by simpa using h1);simp only[List.getElem_cons_zero]at hx;rw[fB,hx,this];simp
theorem b_ {α:Type} (p:α→Bool) (l:List α):(fB p l= -1∧ ∀x∈l,p x=false)∨ ∃k:Nat,∃hk:k<l.length,fB p l=k∧p l[k]=true∧ ∀j (hj:j<k),p (l[j]'(by omega))=false:=by
 induction l with
 | nil=>exact .inl ⟨rfl,by simp⟩
 | cons x l ih=>
  cases hx:p x with
  | true=>exact .inr ⟨0,by simp,by simp[fB,hx],by simpa using hx,fun j hj=>by omega⟩
  | false=>
   rcases ih with⟨h1,h2⟩ | ⟨k,hk,h1,h2,h3⟩
   ·refine .inl ⟨by rw[fB,hx,h1];simp,fun y hy=>?_⟩
    rcases List.mem_cons.1 hy with rfl | hy
    ·exact hx
    ·exact h2 y hy
   ·refine .inr ⟨k+1,by simpa using hk,?_,by simpa using h2,fun j hj=>?_⟩
    ·rw[fB,hx,h1];simp
    ·cases j with
     | zero=>simpa using hx
     | succ j=>have:=h3 j (by omega);simpa using this
theorem sK {α:Type} (p:α→Bool) (l:List α):decide (0≤fB p l)=l.any p:=by
 rcases b_ p l with⟨h1,h2⟩ | ⟨k,hk,h1,h2,_⟩
 ·rw[h1]
  symm
  have:l.any p=false:=by rw[List.any_eq_false];intro x hx;rw[h2 x hx];simp
  rw[this];rfl
 ·rw[h1]
  have:l.any p=true:=by rw[List.any_eq_true];exact⟨l[k],List.getElem_mem hk,h2⟩
  rw[this];simp
end Go.Proofs.YtlfopoimbbpfdaaGreat
namespace Go.Proofs.YtlfopoimbbpfdaaGreat
open Go.RowKit
def kY (c:Ct):List Value:=[.string c.key,.int .i64 c.coll,.int .i64 c.lo,.int .i64 c.hi,.int .i64 c.start,.int .i64 c.up,.int .i64 c.down]
def jL (c:Sc):List Value:=[.string c.key,.int .i64 c.up,.int .i64 c.down,.int .i64 c.uu,.int .i64 c.ud]
def Vo (c:Wn):List Value:=[.string c.key,.int .i64 c.up,.int .i64 c.down,.int .i64 c.ids]
theorem fG (c:Ct):(kY c).length=7:=rfl
theorem gQ (c:Sc):(jL c).length=5:=rfl
theorem Ee (c:Wn):(Vo c).length=4:=rfl
theorem SC (c:Ct):∀u∈kY c,u.oneCell'=true:=by intro u hu;simp[kY]at hu;rcases hu with h | h | h | h | h | h | h<;>subst h<;>rfl
theorem Ef (c:Sc):∀u∈jL c,u.oneCell'=true:=by intro u hu;simp[jL]at hu;rcases hu with h | h | h | h | h<;>subst h<;>rfl
theorem KL (c:Wn):∀u∈Vo c,u.oneCell'=true:=by intro u hu;simp[Vo]at hu;rcases hu with h | h | h | h<;>subst h<;>rfl
abbrev Y5 (c:Ct):Value:=.agg #[.string c.key,.int .i64 c.coll,.int .i64 c.lo,.int .i64 c.hi,.int .i64 c.start,.int .i64 c.up,.int .i64 c.down]
abbrev Y6 (c:Sc):Value:=.agg #[.string c.key,.int .i64 c.up,.int .i64 c.down,.int .i64 c.uu,.int .i64 c.ud]
abbrev Un (c:Wn):Value:=.agg #[.string c.key,.int .i64 c.up,.int .i64 c.down,.int .i64 c.ids]
structure Sv where
 ao:Option Addr
 n:Nat
 cap:Nat
abbrev Sv.v (s:Sv):Value:=.slice s.ao s.n s.cap
structure cB where
 dev:Int
 epoch:Int
 bU:Int
 last:Int
 s:Sv
 i:Sv
 u:Sv
def j_ (x:cB):List Value:=[.int .i64 x.dev,.int .i64 x.epoch,.int .i64 x.bU,.int .i64 x.last,x.s.v,x.i.v,x.u.v]
theorem iE (x:cB):(j_ x).length=7:=rfl
theorem zT (c:cB):∀u∈j_ c,u.oneCell'=true:=by intro u hu;simp[j_]at hu;rcases hu with h | h | h | h | h | h | h<;>subst h<;>rfl
abbrev o9 (x:cB):Value:=.agg #[.int .i64 x.dev,.int .i64 x.epoch,.int .i64 x.bU,.int .i64 x.last,x.s.v,x.i.v,x.u.v]
abbrev oN (w:World) (v:Value) (l:List Ct):Prop:=dI kY 7 w v l
abbrev Eh (w:World) (v:Value) (l:List Sc):Prop:=dI jL 5 w v l
abbrev sM (w:World) (v:Value) (l:List Wn):Prop:=dI Vo 4 w v l
structure nV (w:World) (x:cB) (l:Ls):Prop where
 dev:x.dev=l.dev
 epoch:x.epoch=l.epoch
 bU:x.bU=l.bU
 last:x.last=l.last
 s:Eh w x.s.v l.sl
 i:fD w x.i.v l.ids
 u:jv w x.u.v l.used
theorem nV.keep {w w':World} {x:cB} {l:Ls} {B:Nat} (h:nV w x l) (hb:Below B w w') (hB:w.heap.size≤B):nV w' x l:=
 ⟨h.dev,h.epoch,h.bU,h.last,h.s.keep hb hB,fD.keep h.i hb hB,jv.keep h.u hb hB⟩
def Ei (w:World) (v:Value) (ls:List Ls):Prop:=∃xs:List cB,dI j_ 7 w v xs∧bN (nV w) xs ls
theorem Ei.keep {w w':World} {v:Value} {l:List Ls} {B:Nat} (h:Ei w v l) (hb:Below B w w') (hB:w.heap.size≤B):Ei w' v l:=by
 obtain⟨xs,h1,h2⟩:=h;exact⟨xs,h1.keep hb hB,h2.imp (fun _ _ r=>r.keep hb hB)⟩
structure dN where
 c:Sv
 f:Sv
 l:Sv
 b:Sv
abbrev iJ (x:dN):Value:=.agg #[x.c.v,x.f.v,x.l.v,x.b.v]
structure iA (w:World) (x:dN) (b:Bk):Prop where
 c:oN w x.c.v b.cs
 f:fD w x.f.v b.free
 l:Ei w x.l.v b.ls
 b:jv w x.b.v b.bound
theorem iA.keep {w w':World} {x:dN} {b:Bk} {B:Nat} (h:iA w x b) (hb:Below B w w') (hB:w.heap.size≤B):iA w' x b:=
 ⟨h.c.keep hb hB,fD.keep h.f hb hB,h.l.keep hb hB,jv.keep h.b hb hB⟩
theorem Sl.lens {w:World} {E:Nat} {s:Sv} {n:Nat} {cs:List Value} (h:Sl w E s.v n cs):s.n=n∧n≤s.cap∧s.cap≤9223372036854775807:=by
 obtain⟨ao,cap,he,h1,h2⟩:=h.shape;injection he with _ e2 e3;subst e2 e3;exact⟨rfl,h1,h2⟩
theorem dI.ct {w wr:World} {l:List Ct} {ao:Option Addr} {cap B:Nat} (h:oN w (.slice ao l.length cap) l) (hb:Below B w wr) (hB:w.heap.size≤B) (k:Nat) (hk:k<l.length):
  ∃b off,ao=some ⟨b,off,none⟩∧b<w.heap.size∧wr.cell? ⟨b,off+k*7,none⟩=some (.string l[k].key)∧wr.cell? ⟨b,off+k*7+1,none⟩=some (.int .i64 l[k].coll)∧wr.cell? ⟨b,off+k*7+2,none⟩=some (.int .i64 l[k].lo)∧
   wr.cell? ⟨b,off+k*7+3,none⟩=some (.int .i64 l[k].hi)∧wr.cell? ⟨b,off+k*7+4,none⟩=some (.int .i64 l[k].start)∧wr.cell? ⟨b,off+k*7+5,none⟩=some (.int .i64 l[k].up)∧wr.cell? ⟨b,off+k*7+6,none⟩=some (.int .i64 l[k].down):=by
 obtain⟨b,off,h1,h2,h3⟩:=dI.at h fG (by omega) hb hB k hk;exact⟨b,off,h1,h2,h3 0 _ rfl,h3 1 _ rfl,h3 2 _ rfl,h3 3 _ rfl,h3 4 _ rfl,h3 5 _ rfl,h3 6 _ rfl⟩
theorem dI.sc {w wr:World} {l:List Sc} {ao:Option Addr} {cap B:Nat} (h:Eh w (.slice ao l.length cap) l) (hb:Below B w wr) (hB:w.heap.size≤B) (k:Nat) (hk:k<l.length):
  ∃b off,ao=some ⟨b,off,none⟩∧b<w.heap.size∧wr.cell? ⟨b,off+k*5,none⟩=some (.string l[k].key)∧wr.cell? ⟨b,off+k*5+1,none⟩=some (.int .i64 l[k].up)∧wr.cell? ⟨b,off+k*5+2,none⟩=some (.int .i64 l[k].down)∧
   wr.cell? ⟨b,off+k*5+3,none⟩=some (.int .i64 l[k].uu)∧wr.cell? ⟨b,off+k*5+4,none⟩=some (.int .i64 l[k].ud):=by
 obtain⟨b,off,h1,h2,h3⟩:=dI.at h gQ (by omega) hb hB k hk;exact⟨b,off,h1,h2,h3 0 _ rfl,h3 1 _ rfl,h3 2 _ rfl,h3 3 _ rfl,h3 4 _ rfl⟩
theorem dI.wn {w wr:World} {l:List Wn} {ao:Option Addr} {cap B:Nat} (h:sM w (.slice ao l.length cap) l) (hb:Below B w wr) (hB:w.heap.size≤B) (k:Nat) (hk:k<l.length):
  ∃b off,ao=some ⟨b,off,none⟩∧b<w.heap.size∧wr.cell? ⟨b,off+k*4,none⟩=some (.string l[k].key)∧wr.cell? ⟨b,off+k*4+1,none⟩=some (.int .i64 l[k].up)∧wr.cell? ⟨b,off+k*4+2,none⟩=some (.int .i64 l[k].down)∧
   wr.cell? ⟨b,off+k*4+3,none⟩=some (.int .i64 l[k].ids):=by
 obtain⟨b,off,h1,h2,h3⟩:=dI.at h Ee (by omega) hb hB k hk;exact⟨b,off,h1,h2,h3 0 _ rfl,h3 1 _ rfl,h3 2 _ rfl,h3 3 _ rfl⟩
theorem dI.ls {w wr:World} {l:List cB} {ao:Option Addr} {cap B:Nat} (h:dI j_ 7 w (.slice ao l.length cap) l) (hb:Below B w wr) (hB:w.heap.size≤B) (k:Nat) (hk:k<l.length):
  ∃b off,ao=some ⟨b,off,none⟩∧b<w.heap.size∧wr.cell? ⟨b,off+k*7,none⟩=some (.int .i64 l[k].dev)∧wr.cell? ⟨b,off+k*7+1,none⟩=some (.int .i64 l[k].epoch)∧wr.cell? ⟨b,off+k*7+2,none⟩=some (.int .i64 l[k].bU)∧
   wr.cell? ⟨b,off+k*7+3,none⟩=some (.int .i64 l[k].last)∧wr.cell? ⟨b,off+k*7+4,none⟩=some l[k].s.v∧wr.cell? ⟨b,off+k*7+5,none⟩=some l[k].i.v∧wr.cell? ⟨b,off+k*7+6,none⟩=some l[k].u.v:=by
 obtain⟨b,off,h1,h2,h3⟩:=dI.at h iE (by omega) hb hB k hk;exact⟨b,off,h1,h2,h3 0 _ rfl,h3 1 _ rfl,h3 2 _ rfl,h3 3 _ rfl,h3 4 _ rfl,h3 5 _ rfl,h3 6 _ rfl⟩
end Go.Proofs.YtlfopoimbbpfdaaGreat
