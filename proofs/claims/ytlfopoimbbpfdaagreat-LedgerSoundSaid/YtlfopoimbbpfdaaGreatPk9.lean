/- What the law asks, in parts: LGc. -/
import Derived.StillTailTactics
import Derived.IntWalk
import Derived.Test.YtlfopoimbbpfdaaGreatPk6
import Derived.Test.YtlfopoimbbpfdaaGreatPk8
import Derived.Test.YtlfopoimbbpfdaaGreatPk3
set_option linter.all false
set_option maxRecDepth 100000
set_option maxHeartbeats 16000000
namespace Go.Proofs.YtlfopoimbbpfdaaGreat
open Go.RowKit
def l8:Ct:=⟨⟨#[]⟩,0,0,0,0,0,0⟩
def emp (s:ByteArray):Bool:=s.toList.isEmpty
def wJ (w:Wn):Bool:=(decide (0≤w.up)&&decide (w.up≤2199023255552))&&((decide (0≤w.down)&&decide (w.down≤2199023255552))&&(decide (0≤w.ids)&&decide (w.ids≤50)))
def kL (b:Bk) (w:Wn):Ct:=b.cs.getD (bJ b.cs w.key).toNat l8
def g_ (b:Bk) (w:Wn):Int:=
 if wJ w=false then 1 else
 if bJ b.cs w.key<0∧emp w.key=false then 2 else
 if emp w.key=true∧0<w.up+w.down then 1 else
 if emp w.key=false∧((kL b w).up<w.up∨(kL b w).down<w.down)then 14 else 0
def dY (b:Bk) (w:Wn):Int:=if g_ b w=0 then(if dG b.free<w.ids then 14 else 0)else g_ b w
def iG (b:Bk) (w:Wn):Bk:=
 ⟨if emp w.key=true then b.cs else b.cs.set (bJ b.cs w.key).toNat ⟨(kL b w).key,(kL b w).coll,(kL b w).lo,(kL b w).hi,(kL b w).start,(kL b w).up-w.up,(kL b w).down-w.down⟩,(bY b.free w.ids).2,b.ls,b.bound⟩
def jG (b:Bk) (l:Ls) (w:Wn):Ls:=
 ⟨l.dev,l.epoch,l.bU,l.last,if emp w.key=true then l.sl else l.sl++ [⟨w.key,w.up,w.down,0,0⟩],bK l.ids (bY b.free w.ids).1,l.used⟩
theorem q_ (l:List Rg):∀n,(bY l n).1.length≤l.length∧(bY l n).2.length≤l.length:=by
 induction l with
 | nil=>intro n;simp[bY]
 | cons r l ih=>
  intro n;unfold bY
  split
  ·simp
  ·split
   ·simp
   ·have:=ih (n-(r.2-r.1))
    simp;omega
theorem wp_append_own {P:Program} {o:Oper} {a:Act} {w:World} {K:Act→World→Prop} {Q:Exit→Act→World→Prop}
  (s x:Operand) (t:TypeId) (hop:o.op=Op.call { callee:=Callee.builtin Builtin.append,args:= #[s,x],argTypes:= #[t,t] })
  (base:Nat) (e:TypeId) (i:TypeInfo) (z:Value) (size bytes:Nat) (ht:P.underlying t=some (.slice e)) (hi:P.info? e=some i) (hz:i.zero=some z)
  (hsize:i.size=size) (hby:i.bytes=bytes) (zS:z.cells.size=size) (mK:0<size)
  (v:Value) (n:Nat) (xs:List Value) (hs:a.eval s=v) (dD:w.ownsRow base e size v n xs)
  (ad:Addr) (m c:Nat) (news:List Value) (hx:a.eval x= .slice (some ad) m c) (hl:news.length=m*size) (fZ:∀j u,news[j]? =some u→w.cell? (ad.add j)=some u) (h1:∀u∈news,u.oneCell'=true)
  (h63:n+m≤maxLen) (hbytes:(n+m)*bytes≤140737488355328) (gM:base≤w.heap.size)
  (hK:∀v' w',w'.ownsRow base e size v' (n+m) (xs++news)→w.grownBy w' v.ownBlock→(v'.ownBlock=v.ownBlock∨v'.ownBlock=some w.heap.size)→K (a.put o.dst v') w'):Oper.wp P o a w K Q:=by
 obtain⟨v',w',hr,h2,h3,_,h5⟩:=run_append_own_at (P:=P) w base t o.type e i z size bytes ht hi hz hsize hby zS mK v n xs dD ad m c news hl fZ h1 h63 hbytes gM
 unfold Oper.wp execOp;simp only[hop,resolve,invoke,builtin,Sem.run_bind,Sem.run_pure,Result.andThen_ok,List.map_toArray,List.map_cons,List.map_nil,hs,hx,hr];exact hK v' w' h2 h3 h5
structure WtB (b:Bk) (l:Ls):Prop where
 nc:b.cs.length<1000
 nf:b.free.length<10000
 ni:l.ids.length<100000
 ns:l.sl.length<1000
 small:Small b.free
 ct:∀c∈b.cs,0≤c.up∧c.up≤2199023255552∧0≤c.down∧c.down≤2199023255552
def K_ (B D pb pl:Nat) (w0:World) (b:Bk) (l:Ls) (xs:List cB) (w:Wn) (e:Ending) (w':World):Prop:=
 e= .returned (.int .i64 (dY b w))∧Below B w0 w'∧(dY b w=0→ ∃x' y',Gr B D pb pl w0 w' x' (iG b w) xs y' (jG b l w))
theorem yh {s:ByteArray} (h:emp s=false):s.toList.isEmpty=false∧ ¬s.toList= []:=by
 unfold emp at h;exact⟨h,fun e=>by rw[e]at h;cases h⟩
theorem rz {s:ByteArray} (h:emp s=true):s=⟨#[]⟩:=by
 unfold emp at h;have h1:s.toList= []:=List.isEmpty_iff.1 h;rw[ByteArray.toList_eq]at h1;exact ByteArray.ext (Array.toList_inj.1 h1)
theorem qA {b:Bk} {w:Wn} (h:wJ w=false):g_ b w=1:=by unfold g_;rw[if_pos h]
theorem AJ {b:Bk} {w:Wn} (h:wJ w=true) (h1:bJ b.cs w.key<0) (h2:emp w.key=false):g_ b w=2:=by unfold g_;rw[if_neg (by rw[h];simp),if_pos ⟨h1,h2⟩]
theorem vv {b:Bk} {w:Wn} (h:wJ w=true) (h1:emp w.key=true) (h2:0<w.up+w.down):g_ b w=1:=by unfold g_;rw[if_neg (by rw[h];simp),if_neg (by rw[h1];simp),if_pos ⟨h1,h2⟩]
theorem DI {b:Bk} {w:Wn} (h:wJ w=true) (h0:¬bJ b.cs w.key<0) (h1:emp w.key=false) (h2:(kL b w).up<w.up∨(kL b w).down<w.down):g_ b w=14:=by unfold g_;rw[if_neg (by rw[h];simp),if_neg (fun e=>h0 e.1),if_neg (by rw[h1];simp),if_pos ⟨h1,h2⟩]
theorem AL {b:Bk} {w:Wn} (h:wJ w=true) (h1:emp w.key=true) (h2:¬0<w.up+w.down):g_ b w=0:=by unfold g_;rw[if_neg (by rw[h];simp),if_neg (by rw[h1];simp),if_neg (fun e=>h2 e.2),if_neg (by rw[h1];simp)]
theorem AO {b:Bk} {w:Wn} (h:wJ w=true) (h0:¬bJ b.cs w.key<0) (h1:emp w.key=false) (h2:¬ (kL b w).up<w.up) (h3:¬ (kL b w).down<w.down):g_ b w=0:=by unfold g_;rw[if_neg (by rw[h];simp),if_neg (fun e=>h0 e.1),if_neg (by rw[h1];simp),if_neg (fun e=>by rcases e.2 with e | e;exact h2 e;exact h3 e)]
theorem iP {b:Bk} {w:Wn} (h:g_ b w=0):wJ w=true∧(emp w.key=true∨(emp w.key=false∧ ¬bJ b.cs w.key<0∧ ¬ (kL b w).up<w.up∧ ¬ (kL b w).down<w.down)):=by
 unfold g_ at h
 split at h
 ·omega
 ·split at h
  ·omega
  ·split at h
   ·omega
   ·split at h
    ·omega
    ·rename_i h1 h2 h3 h4
     refine⟨by simpa using h1,?_⟩
     cases he:emp w.key with
     | true=>exact .inl rfl
     | false=>
      refine .inr ⟨rfl,fun e=>h2 ⟨e,he⟩,fun e=>h4 ⟨he,.inl e⟩,fun e=>h4 ⟨he,.inr e⟩⟩
theorem EB {w:Wn} (h:wJ w=true):(0≤w.up∧w.up≤2199023255552)∧(0≤w.down∧w.down≤2199023255552)∧0≤w.ids∧w.ids≤50:=by
 unfold wJ at h;simpa only[Bool.and_eq_true,decide_eq_true_iff]using h
theorem MV (w:World) (p q:Addr) (x y:Value):((w.setCell p x).setCell q y).heap.size=w.heap.size:=by simp[World.setCell]
theorem MW (w:World) (b:Nat) (hb:w.heap.size=b) (cs:List Value) (t:TypeId):∀j u,cs[j]? =some u→(w.alloc (.cells cs.toArray t)).cell? ((⟨b,0,none⟩:Addr).add j)=some u:=fun j u hu=>by
 obtain⟨a,ha,hc⟩:=tu w b hb cs t j u hu;injection ha with ha;subst ha;exact hc
theorem Po {B D pb pl:Nat} {w0 W w3:World} {x:dN} {b:Bk} {xs:List cB} {y:cB} {l:Ls} {k:ByteArray} {u d:Int} {ao:Option Addr} {c:Nat} (h:Gr B D pb pl w0 W x b xs y l)
  (ho:w3.ownsRow D 88 5 (.slice ao (l.sl.length+1) c) (l.sl.length+1) (aJ jL l.sl++ [.string k,.int .i64 u,.int .i64 d,.int .i64 0,.int .i64 0])) (hg:W.grownBy w3 y.s.v.ownBlock) (hD:D≤W.heap.size):
  Gr B D pb pl w0 (w3.setCell ⟨pl,4,none⟩ (.slice ao (l.sl.length+1) c)) x b xs ⟨y.dev,y.epoch,y.bU,y.last,⟨ao,l.sl.length+1,c⟩,y.i,y.u⟩ ⟨l.dev,l.epoch,l.bU,l.last,l.sl++ [⟨k,u,d,0,0⟩],l.ids,l.used⟩∧
   (∀ (q:Nat) (cur:Array Value) (T:TypeId) (z:Nat×Nat),W.heap[q]? =some (Obj.cells cur T z)→T≠ 88 →w3.heap[q]? =some (Obj.cells cur T z))∧w3.frozen? ⟨pl,4,none⟩=false:=by
 have ho':w3.ownsRow D 88 5 (.slice ao (l.sl.length+1) c) (l.sl.length+1) (aJ jL (l.sl++ [⟨k,u,d,0,0⟩])):=by rw[fE,uS];exact ho
 have hblk:∀ (q:Nat) (cur:Array Value) (T:TypeId) (z:Nat×Nat),W.heap[q]? =some (Obj.cells cur T z)→T≠ 88 →w3.heap[q]? =some (Obj.cells cur T z):=fun q cur T z hq hT=>(hg.block q (bq hq).1 (fun e=>by
  obtain⟨cur',hc⟩:=lJ h.ys e.symm;rw[hq]at hc;injection hc with hc;injection hc with _ hc _
  exact hT hc)).trans hq
 exact⟨h.app (v':=⟨ao,l.sl.length+1,c⟩) ho' hg hD,hblk,ak (hblk _ _ _ _ h.kl (by decide)) 4⟩
theorem jN {B D pb pl:Nat} {w0 w':World} {b:Bk} {l:Ls} {xs:List cB} {w:Wn} {n:Int} (hC:g_ b w=n) (hn:n≠0) (hb:Below B w0 w'):K_ B D pb pl w0 b l xs w (.returned (.int .i64 n)) w':=by
 have e:dY b w=n:=by unfold dY;rw[hC,if_neg hn]
 exact⟨by rw[e],hb,fun h=>absurd (e.symm.trans h) hn⟩
theorem Gr.ct {B D pb pl:Nat} {w0 W:World} {x:dN} {b:Bk} {xs:List cB} {y:cB} {l:Ls} (h:Gr B D pb pl w0 W x b xs y l) (k:Nat) (hk:k<b.cs.length):∃g cap,x.c=⟨some ⟨g,0,none⟩,b.cs.length,cap⟩∧b.cs.length≤cap∧cap≤9223372036854775807∧g<W.heap.size∧
  W.cell? ⟨g,k*7,none⟩=some (.string b.cs[k].key)∧W.cell? ⟨g,k*7+5,none⟩=some (.int .i64 b.cs[k].up)∧W.cell? ⟨g,k*7+6,none⟩=some (.int .i64 b.cs[k].down)∧(∀o,W.frozen? ⟨g,o,none⟩=false):=by
 obtain⟨g,cap,he⟩:=fT h.rc (by omega);have rT:=h.rc;rw[he]at rT;obtain⟨p1,p2,p3,p4,p5,p6,p7⟩:=bg rT;refine⟨g,cap,?_,p3,p4,p2,?_,?_,?_,p6⟩
 ·obtain⟨⟨c1,c2,c3⟩,_,_,_⟩:=x
  injection he with e1 e2 e3;simp only at e1 e2 e3;subst e1 e2 e3;rfl
 ·exact p7 _ _ (by rw[←Nat.add_zero (k*7),bV fG _ k hk 0 (by omega)];rfl)
 ·exact p7 _ _ (by rw[bV fG _ k hk 5 (by omega)];rfl)
 ·exact p7 _ _ (by rw[bV fG _ k hk 6 (by omega)];rfl)
theorem Pp (B D pb pl:Nat) (w0 W:World) (x:dN) (b:Bk) (xs:List cB) (y:cB) (l:Ls) (wn:Wn) (h:Gr B D pb pl w0 W x b xs y l) (hD:D≤W.heap.size) (hw:WtB b l):
  Calls Tryz.prog 73 #[.pointer (some ⟨pb,0,none⟩),.pointer (some ⟨pl,0,none⟩),Un wn] W (K_ B D pb pl w0 b l xs wn):=by
 obtain⟨⟨ca,cn,cc⟩,⟨fa,bD,fc⟩,⟨la,ln,lc⟩,⟨ba,bE,bc⟩⟩:=x;obtain⟨wk,wu,wd,wi⟩:=wn;have eD:Below W.heap.size W (W.alloc (.cells #[.string wk,.int .i64 wu,.int .i64 wd,.int .i64 wi] 65)):=(aL _ _).alloc (aC _) _;have zH:=ah (h.keep eD);have HW:=ah hw;have YD:=ah (heap_alloc_new W (.cells #[.string wk,.int .i64 wu,.int .i64 wd,.int .i64 wi] 65));have Pq:W.heap.size<(W.alloc (.cells #[.string wk,.int .i64 wu,.int .i64 wd,.int .i64 wi] 65)).heap.size:=by simp
 clear h eD hw
 go_enter Tryz.func73,Tryz.ntmps73
 go_upto_region 1 with fail
 generalize W.alloc (.cells #[.string wk,.int .i64 wu,.int .i64 wd,.int .i64 wi] 65)=W1 at*;generalize hGG:W.heap.size=G at*;have HGG:=ah hGG;clear hGG;have zI:=zH.out.MS;have Gv:=zH.out.szl;obtain⟨ci,K9⟩:∃ci,bJ b.cs wk=ci:=⟨_,rfl⟩;have vS:=ah K9;clear K9;have AP:Below W1.heap.size W1 W1:=aL _ _
 have O8:Hid (∀U,Below W1.heap.size W1 U→Calls Tryz.prog 36 #[.agg #[.slice ca cn cc,.slice fa bD fc,.slice la ln lc,.slice ba bE bc],.string wk] U fun e w'=>e= .returned (.int .i64 ci)∧Below W1.heap.size W1 w'):=
  ah (fun U hU=>(mW ⟨⟨ca,cn,cc⟩,⟨fa,bD,fc⟩,⟨la,ln,lc⟩,⟨ba,bE,bc⟩⟩ b.cs wk U (dI.keep zH.out.m.c hU (aC _))).mono (fun _ _ ⟨he,hb⟩=>⟨by rw[←vS.out];exact he,hU.trans (hb.mono hU.size)⟩))
 have KS:Hid (∀U,Below W1.heap.size W1 U→(Below W1.heap.size W1 U∧U.cell? ⟨pb,0,none⟩=some (.slice ca cn cc)∧U.cell? ⟨pb,1,none⟩=some (.slice fa bD fc)∧U.cell? ⟨pb,2,none⟩=some (.slice la ln lc)∧U.cell? ⟨pb,3,none⟩=some (.slice ba bE bc)∧U.cell? ⟨G,0,none⟩=some (.string wk))):=
  ah (fun U hU=>by
   obtain⟨e0,e1,e2,e3,_⟩:=ay (aj zH.out.kb hU zI);obtain⟨n0,n1,n2,n3,_⟩:=ay (aj YD.out hU Pq)
   exact⟨hU,e0,e1,e2,e3,n0⟩)
 go_cut[7] (fun v7 wx=>v7= .int .i64 ci∧Below W1.heap.size W1 wx)
 case first=>
  go_region_held3 (fun w'=>Below W1.heap.size W1 w'∧w'.cell? ⟨pb,0,none⟩=some (.slice ca cn cc)∧w'.cell? ⟨pb,1,none⟩=some (.slice fa bD fc)∧w'.cell? ⟨pb,2,none⟩=some (.slice la ln lc)∧w'.cell? ⟨pb,3,none⟩=some (.slice ba bE bc)∧w'.cell? ⟨G,0,none⟩=some (.string wk))
   (first | assumption | exact KS.out _ (by assumption) | exact KS.out _ AP.drew)
   ((go_at_call 36;(with_reducible refine(O8.out _ (by go_split_ands;assumption)).mono ?_);rintro en w9 ⟨rfl,jW⟩))
  all_goals
   go_wp2;go_meet;exact⟨by rfl,by first | assumption | exact AP.drew⟩
 case rest=>
 obtain⟨rfl,bO⟩:=hcut;have rA:=ah (zH.out.keep bO);have qO:=ah (aj YD.out bO Pq);have hD2:D≤wc.heap.size:=by have:=bO.size;have:=HGG.out;omega
 clear O8 KS AP zH YD bO zI Gv Pq;obtain⟨W2,hW2⟩:∃W2,W2=wc:=⟨_,rfl⟩;subst hW2;obtain⟨a1,wK⟩:∃a1,(decide (0≤wu)&&decide (wu≤2199023255552))=a1:=⟨_,rfl⟩;obtain⟨a2,sV⟩:∃a2,(decide (0≤wd)&&decide (wd≤2199023255552))=a2:=⟨_,rfl⟩;obtain⟨a3,MX⟩:∃a3,(decide (0≤wi)&&decide (wi≤50))=a3:=⟨_,rfl⟩;have uL:=ah wK;have sW:=ah sV;have Iy:=ah MX;have xM:Hid (wJ ⟨wk,wu,wd,wi⟩=(a1&&(a2&&a3))):=by show _=_;unfold wJ;simp only[uL.out,sW.out,Iy.out]
 clear wK sV MX;obtain⟨n0,n1,n2,n3,_⟩:=ay qO.out;obtain⟨d0,d1,d2,d3,_⟩:=ay rA.out.kb;simp only[Sv.v]at d0 d1 d2 d3;go_upto_block 0 with fail
 go_cut[] (fun wx=>g_ b ⟨wk,wu,wd,wi⟩=0∧Below W2.heap.size W2 wx)
 case first=>
  cases a1 with
  | false=>
   have HC:=ah (qA (b:=b) (w:=⟨wk,wu,wd,wi⟩) (by rw[xM.out];rfl));go_wp2_with ((go_at_call 63;refine(dZ _ _ _ _).mono ?_);(first | rw[uL.out] | rw[sW.out] | rw[Iy.out]);rintro e w9 ⟨rfl,rfl⟩)
   go_ret;exact jN HC.out (by omega) rA.out.bC
  | true=>
   cases a2 with
   | false=>
    have HC:=ah (qA (b:=b) (w:=⟨wk,wu,wd,wi⟩) (by rw[xM.out];rfl));go_wp2_with ((go_at_call 63;refine(dZ _ _ _ _).mono ?_);(first | rw[uL.out] | rw[sW.out] | rw[Iy.out]);rintro e w9 ⟨rfl,rfl⟩)
    go_ret;exact jN HC.out (by omega) rA.out.bC
   | true=>
    cases a3 with
    | false=>
     have HC:=ah (qA (b:=b) (w:=⟨wk,wu,wd,wi⟩) (by rw[xM.out];rfl));go_wp2_with ((go_at_call 63;refine(dZ _ _ _ _).mono ?_);(first | rw[uL.out] | rw[sW.out] | rw[Iy.out]);rintro e w9 ⟨rfl,rfl⟩)
     go_ret;exact jN HC.out (by omega) rA.out.bC
    | true=>
     have g1:0≤wu∧wu≤2199023255552:=by simpa using uL.out
     have g2:0≤wd∧wd≤2199023255552:=by simpa using sW.out
     have g3:0≤wi∧wi≤50:=by simpa using Iy.out
     obtain⟨g11,g12⟩:=g1;obtain⟨g21,g22⟩:=g2;obtain⟨g31,g32⟩:=g3
     cases he:emp wk with
     | true=>
      have hk:=rz he;subst hk;by_cases h0:0<wu+wd
      ·have HC:=ah (vv (b:=b) (w:=⟨⟨#[]⟩,wu,wd,wi⟩) (by rw[xM.out];rfl) he h0)
       clear he;go_wp2_with ((go_at_call 63;refine(dZ _ _ _ _).mono ?_);(first | rw[uL.out] | rw[sW.out] | rw[Iy.out]);rintro e w9 ⟨rfl,rfl⟩)
       all_goals
        go_ret;exact jN HC.out (by omega) rA.out.bC
      ·have HC:=ah (AL (b:=b) (w:=⟨⟨#[]⟩,wu,wd,wi⟩) (by rw[xM.out];rfl) he h0)
       have dh0:decide (0<wu+wd)=false:=by simpa using h0
       clear he h0;go_wp2_with ((go_at_call 63;refine(dZ _ _ _ _).mono ?_);(first | rw[uL.out] | rw[sW.out] | rw[Iy.out]);rintro e w9 ⟨rfl,rfl⟩)
       all_goals
        go_quiet (fail)
        go_wp2;go_meet;exact⟨HC.out,below_drewN (aL _ _) _⟩
     | false=>
      obtain⟨hE1,hE2⟩:=yh he;rcases b_ (fun c:Ct=>decide (c.key=wk)) b.cs with⟨hi,_⟩ | ⟨k,hk,hi,_,_⟩
      ·have hcn:ci= -1:=by rw[←vS.out];exact hi
       subst hcn;have HC:=ah (AJ (b:=b) (w:=⟨wk,wu,wd,wi⟩) (by rw[xM.out];rfl) (by rw[vS.out];decide) he);clear he hi;go_wp2_with ((go_at_call 63;refine(dZ _ _ _ _).mono ?_);(first | rw[uL.out] | rw[sW.out] | rw[Iy.out]);rintro e w9 ⟨rfl,rfl⟩)
       go_ret;exact jN HC.out (by omega) rA.out.bC
      ·have La:ci=k:=by rw[←vS.out];exact hi
       subst La;have VU:Hid (kL b ⟨wk,wu,wd,wi⟩=b.cs[k]):=by show _=_;unfold kL;rw[vS.out];simp[List.getD,List.getElem?_eq_getElem hk]
       obtain⟨g,cap,hxc,dO,qM,hgs,q0,q5,q6,qf⟩:=rA.out.ct k hk;injection hxc with Dx tN hx3;subst Dx tN hx3;have adn:=HW.out.nc;have Zp:Hid (b.cs[k].up<wu∨b.cs[k].down<wd→g_ b ⟨wk,wu,wd,wi⟩=14):=ah (fun hh=>DI (b:=b) (w:=⟨wk,wu,wd,wi⟩) (by rw[xM.out];rfl) (by rw[vS.out];omega) he (by rw[VU.out];exact hh));have Zq:Hid (¬b.cs[k].up<wu→ ¬b.cs[k].down<wd→g_ b ⟨wk,wu,wd,wi⟩=0):=ah (fun h1 h2=>AO (b:=b) (w:=⟨wk,wu,wd,wi⟩) (by rw[xM.out];rfl) (by rw[vS.out];omega) he (by rw[VU.out];exact h1) (by rw[VU.out];exact h2));generalize b.cs[k].up=cu at*;generalize b.cs[k].down=cd at*;have jK:(k:Int)<b.cs.length:=by omega
       clear he hi q0 qf;by_cases h5:cu<wu
       ·have HC:=ah (Zp.out (.inl h5))
        go_wp2_with ((go_at_call 63;refine(dZ _ _ _ _).mono ?_);(first | rw[uL.out] | rw[sW.out] | rw[Iy.out]);rintro e w9 ⟨rfl,rfl⟩)
        go_quiet (fail)
        go_wp2;go_ret;exact jN HC.out (by omega) (below_drewN rA.out.bC _)
       ·have d5:decide (cu<wu)=false:=by simpa using h5
        by_cases h6:cd<wd
        ·have HC:=ah (Zp.out (.inr h6))
         clear h5;go_wp2_with ((go_at_call 63;refine(dZ _ _ _ _).mono ?_);(first | rw[uL.out] | rw[sW.out] | rw[Iy.out]);rintro e w9 ⟨rfl,rfl⟩)
         go_quiet (fail)
         go_wp2;go_ret;exact jN HC.out (by omega) (below_drewN rA.out.bC _)
        ·have d6:decide (cd<wd)=false:=by simpa using h6
         have HC:=ah (Zq.out h5 h6);clear h5 h6;go_wp2_with ((go_at_call 63;refine(dZ _ _ _ _).mono ?_);(first | rw[uL.out] | rw[sW.out] | rw[Iy.out]);rintro e w9 ⟨rfl,rfl⟩)
         go_quiet (fail)
         go_wp2;go_meet;exact⟨HC.out,below_drewN (aL _ _) _⟩
 case rest=>
 obtain⟨hc0,bT⟩:=hcut;obtain⟨W3,zY⟩:∃W3,W3=wc:=⟨_,rfl⟩;subst zY;have Zq:=ah hc0;have Lb:=ah (rA.out.keep bT);have Zr:G<W2.heap.size:=(bq qO.out).1;have HN3:=ah (aj qO.out bT Zr);have hD3:D≤W3.heap.size:=Nat.le_trans hD2 bT.size;obtain⟨⟨g11,g12⟩,⟨g21,g22⟩,g31,g32⟩:=EB (iP hc0).1;simp only at g11 g12 g21 g22 g31 g32;have zI:=Lb.out.MS;have Gv:=Lb.out.szl;have VW:G<W3.heap.size:=(bq HN3.out).1;clear hc0 rA qO bT hD2 uL sW Iy xM n0 n1 n2 n3 d0 d1 d2 d3 Zr;have AP:Below W3.heap.size W3 W3:=aL _ _
 have KS:Hid (∀U,Below W3.heap.size W3 U→(Below W3.heap.size W3 U∧U.cell? ⟨pb,1,none⟩=some (.slice fa bD fc)∧U.cell? ⟨G,3,none⟩=some (.int .i64 wi))):=
  ah (fun U hU=>by
   obtain⟨e0,e1,e2,e3,_⟩:=ay (aj Lb.out.kb hU zI);obtain⟨n0,n1,n2,n3,_⟩:=ay (aj HN3.out hU VW)
   exact⟨hU,e1,n3⟩)
 have VX:Hid (∀U,Below W3.heap.size W3 U→fD U (.slice fa bD fc) b.free):=ah (fun U hU=>fD.keep (aG Lb.out.rf) hU (aC _));have hnf:=HW.out.nf;go_upto_region 10 with fail
 by_cases hT:dG b.free<wi
 ·have HE:Hid (dY b ⟨wk,wu,wd,wi⟩=14):=by show _=_;unfold dY;rw[if_pos Zq.out,if_pos hT]
  have Jp:Hid (∀U,Below W3.heap.size W3 U→Calls Tryz.prog 112 #[.slice fa bD fc,.int .i64 wi] U fun e w'=>e= .returned (.tuple #[.slice none 0 0,.slice none 0 0,.int .i64 14])∧Below W3.heap.size W3 w'):=
   ah (fun U hU=>(Gb _ b.free wi U (VX.out U hU) HW.out.small (by omega) hT).mono (fun _ _ ⟨he,hb⟩=>⟨he,hU.trans (hb.mono hU.size)⟩))
  clear hT
  go_cut[8,9,10] (fun _ _ xO wx=>xO= .int .i64 14∧Below W3.heap.size W3 wx)
  case first=>
   go_region_held3 (fun w'=>Below W3.heap.size W3 w'∧w'.cell? ⟨pb,1,none⟩=some (.slice fa bD fc)∧w'.cell? ⟨G,3,none⟩=some (.int .i64 wi))
    (first | assumption | exact KS.out _ (by assumption) | exact KS.out _ AP.drew)
    ((go_at_call 112;(with_reducible refine(Jp.out _ (by go_split_ands;assumption)).mono ?_);rintro en w9 ⟨rfl,jW⟩))
   all_goals
    go_wp2;go_meet;exact⟨by rfl,by first | assumption | exact AP.drew⟩
  case rest=>
  obtain⟨rfl,bR⟩:=hcut;go_wp2;go_ret;have e:=HE.out;exact⟨eH HE.out.symm,Lb.out.bC.trans (bR.mono (Nat.le_trans Lb.out.hb (Nat.le_of_lt zI))),fun h=>by omega⟩
 ·have HE:Hid (dY b ⟨wk,wu,wd,wi⟩=0):=by show _=_;unfold dY;rw[if_pos Zq.out,if_neg hT]
  have hlT:=q_ b.free wi;obtain⟨tA,tB,hAB⟩:∃tA tB,bY b.free wi=(tA,tB):=⟨(bY b.free wi).1,(bY b.free wi).2,rfl⟩;rw[hAB]at hlT;obtain⟨hlA,hlB⟩:=hlT;simp only at hlA hlB;have HAB:=ah hAB
  have Jp:Hid (∀U,Below W3.heap.size W3 U→Calls Tryz.prog 112 #[.slice fa bD fc,.int .i64 wi] U fun e w'=>∃v1 v2:Value,e= .returned (.tuple #[v1,v2,.int .i64 0])∧w'.ownsRow B 56 2 v1 tA.length (aR tA)∧w'.ownsRow B 56 2 v2 tB.length (aR tB)∧Below W3.heap.size W3 w'):=
   ah (fun U hU=>(SN _ b.free wi U (VX.out U hU) HW.out.small (by omega) g31 (by omega)).mono (fun _ _ ⟨v1,v2,he,h1,h2,_,hb⟩=>by
    rw[HAB.out]at h1 h2;have hBU:B≤U.heap.size:=Nat.le_trans (Nat.le_trans Lb.out.hb (Nat.le_of_lt zI)) hU.size
    exact⟨v1,v2,he,aN h1 hBU,aN h2 hBU,hU.trans (hb.mono hU.size)⟩))
  clear hT hAB
  go_cut[8,9,10] (fun v8 v9 xO wx=>xO= .int .i64 0∧wx.ownsRow B 56 2 v8 tA.length (aR tA)∧wx.ownsRow B 56 2 v9 tB.length (aR tB)∧Below W3.heap.size W3 wx)
  case first=>
   go_region_held3 (fun w'=>Below W3.heap.size W3 w'∧w'.cell? ⟨pb,1,none⟩=some (.slice fa bD fc)∧w'.cell? ⟨G,3,none⟩=some (.int .i64 wi))
    (first | assumption | exact KS.out _ (by assumption) | exact KS.out _ AP.drew)
    ((go_at_call 112;(with_reducible refine(Jp.out _ (by go_split_ands;assumption)).mono ?_);rintro en w9 ⟨v1,v2,rfl,nY,qN,jW⟩))
   all_goals
    go_wp2;go_meet;exact⟨by rfl,nY,qN,jW⟩
  case rest=>
  obtain⟨rfl,VY,hoB,bR⟩:=hcut;have wL:=ah (Lb.out.keep bR);have Zt:=ah (aj HN3.out bR VW);have hD4:D≤wc.heap.size:=Nat.le_trans hD3 bR.size;obtain⟨Ta,adr,rfl,hcA,air⟩:=aO VY;obtain⟨Oz,Cv,rfl,hcB,ais⟩:=aO hoB;obtain⟨d0,d1,d2,d3,_⟩:=ay wL.out.kb;simp only[Sv.v]at d0 d1 d2 d3;have f1:=aA wL.out.kb 1;have aK:∀c,c≠pb→(wc.setCell ⟨pb,1,none⟩ (.slice Oz tB.length Cv)).heap[c]? =wc.heap[c]? :=fun c hc=>aX _ _ _ (fun e=>hc e.symm) _
  have yU:Hid (Gr B D pb pl w0 (wc.setCell ⟨pb,1,none⟩ (.slice Oz tB.length Cv)) ⟨⟨ca,cn,cc⟩,⟨Oz,tB.length,Cv⟩,⟨la,ln,lc⟩,⟨ba,bE,bc⟩⟩ ⟨b.cs,tB,b.ls,b.bound⟩ xs y l):=ah (wL.out.Ev (f':=⟨Oz,tB.length,Cv⟩) hoB);have HA5:=ah (aF VY aK wL.out.kb (by decide))
  have Zu:G≠pb:=fun e=>by
   have h1:=wL.out.kb;rw[←e,Zt.out]at h1;injection h1 with h1;injection h1 with _ h1 _;exact absurd h1 (by decide)
  have HN5:=ah ((aK G Zu).trans Zt.out);have hD5:D≤(wc.setCell ⟨pb,1,none⟩ (.slice Oz tB.length Cv)).heap.size:=by simpa using hD4
  have ait:l.ids.length<100000:=HW.out.ni;have adu:=iN;clear VY hoB bR Lb HN3 hD3 KS VX AP Jp aK zI Gv VW adu;go_upto_block 1 with fail
  generalize wc.setCell ⟨pb,1,none⟩ (.slice Oz tB.length Cv)=W5 at*;clear d0 d1 d2 d3 f1 wL Zt hD4 Zu
  go_cut[] (fun wx=>∃y',Gr B D pb pl w0 wx ⟨⟨ca,cn,cc⟩,⟨Oz,tB.length,Cv⟩,⟨la,ln,lc⟩,⟨ba,bE,bc⟩⟩ ⟨b.cs,tB,b.ls,b.bound⟩ xs y' ⟨l.dev,l.epoch,l.bU,l.last,l.sl,bK l.ids tA,l.used⟩∧wx.heap[G]? =some (.cells #[.string wk,.int .i64 wu,.int .i64 wd,.int .i64 wi] 65 (0,0))∧D≤wx.heap.size)
  case first=>
   go_wp2
   go_loopw[106] (fun vk wr=>∃ (k:Nat) (y':cB),k≤tA.length∧vk= .int .i64 k∧Gr B D pb pl w0 wr ⟨⟨ca,cn,cc⟩,⟨Oz,tB.length,Cv⟩,⟨la,ln,lc⟩,⟨ba,bE,bc⟩⟩ ⟨b.cs,tB,b.ls,b.bound⟩ xs y' ⟨l.dev,l.epoch,l.bU,l.last,l.sl,bK l.ids (tA.take k),l.used⟩∧
    wr.ownsRow B 56 2 (.slice Ta tA.length adr) tA.length (aR tA)∧wr.heap[G]? =some (.cells #[.string wk,.int .i64 wu,.int .i64 wd,.int .i64 wi] 65 (0,0))∧D≤wr.heap.size) (fun vk _=>tA.length-(intOf vk).toNat)
   case atStart=>exact⟨0,y,Nat.zero_le _,rfl,yU.out,HA5.out,HN5.out,hD5⟩
   case round=>
    clear yU HA5 HN5 hD5;obtain⟨k,y',hk,rfl,hG,hA,hN,hD6⟩:=hrel;have HG:=ah hG;have HA:=ah hA;have HN:=ah hN;have Gv:=hG.szl;have Pq:=(bq hN).1;clear hG hA hN;rcases Nat.lt_or_ge k tA.length with bA | gX
    ·obtain⟨rb,ro,rfl,tO,c0,c1⟩:=fD.pair (aG HA.out) (aL _ _) (aC _) k bA
     have jK:(k:Int)<tA.length:=by omega
     have HS:Hid (bK l.ids (tA.take (k+1))=iM (bK l.ids (tA.take k)) tA[k]):=by show _=_;rw[aS tA k bA,pz]
     have hlI:(bK l.ids (tA.take k)).length<1000000:=by
      have h1:=iN (tA.take k) l.ids;have h2:=List.length_take_le k tA;omega
     generalize bK l.ids (tA.take k)=ids at*;generalize tA[k]=r at*;obtain⟨rp,rq⟩:=r;simp only at c0 c1;obtain⟨y1,y2,y3,y4,⟨y5,y6,y7⟩,⟨y8,y9,dz⟩,⟨dA,dJ,cK⟩⟩:=y';have eD:Below wr.heap.size wr (wr.alloc (.cells #[.int .i64 rp,.int .i64 rq] 56)):=(aL _ _).alloc (aC _) _;have OA:=ah (HG.out.keep eD);have HNA:=ah (aj HN.out eD Pq);have HAA:=ah (aI HA.out eD (aC _));have HR:=ah (heap_alloc_new wr (.cells #[.int .i64 rp,.int .i64 rq] 56));have hzR:wr.heap.size<(wr.alloc (.cells #[.int .i64 rp,.int .i64 rq] 56)).heap.size:=by simp
     clear eD;go_upto_region 17 with fail
     generalize wr.alloc (.cells #[.int .i64 rp,.int .i64 rq] 56)=w7 at*;clear c0 c1;have aQ:Below w7.heap.size w7 w7.drew:=(aL _ _).drew;refine aW 9 (fun w'=>Below w7.heap.size w7 w') (by kernel_rfl) ?_;refine aP (i:=0) (v:=.pointer (some ⟨pl,0,none⟩)) rfl rfl (by kernel_rfl) (fun _ _ _ h=>h) (.inl ⟨rfl,fun w' hw=>?_⟩) aQ ?_
     ·go_simp
     refine aP (i:=1) (v:=.pointer (some ⟨pl,0,none⟩)) rfl rfl (by kernel_rfl) (fun _ _ _ h=>h) (.inl ⟨rfl,fun w' hw=>?_⟩) aQ ?_
     ·go_simp
     refine aP (i:=5) (v:=.agg #[.int .i64 rp,.int .i64 rq]) rfl rfl (by kernel_rfl) (fun _ _ _ h=>h) (.inl ⟨rfl,fun w' hw=>?_⟩) aQ ?_
     ·obtain⟨m0,m1,_⟩:=iB (aj HR.out hw hzR)
      go_simp
     refine aP (i:=2) (v:=.pointer (some ⟨pl,0,none⟩)) rfl rfl (by kernel_rfl) (fun _ _ _ h=>h) (.inl ⟨rfl,fun w' hw=>?_⟩) aQ ?_
     ·go_simp
     refine aP (i:=3) (v:=.pointer (some ⟨pl,5,none⟩)) rfl rfl (by kernel_rfl) (fun _ _ _ h=>h) (.inl ⟨rfl,fun w' hw=>?_⟩) aQ ?_
     ·go_simp
     refine aP (i:=4) (v:=.slice y8 y9 dz) rfl rfl (by kernel_rfl) (fun _ _ _ h=>h) (.inl ⟨rfl,fun w' hw=>?_⟩) aQ ?_
     ·obtain⟨_,_,_,_,_,n5,_,_⟩:=aB (aj OA.out.kl hw (by omega))
      simp only[Sv.v]at n5;go_simp
     refine aD (i:=6) (by kernel_rfl) rfl rfl ?_;go_simp;refine(Es _ ids rp rq _ (fD.keep (aG OA.out.yi) (aL _ _).drew (aC _)) hlI).mono ?_;rintro e w8 ⟨v8,rfl,Iz,qP⟩;have oP:Below w7.heap.size w7 w8:=(aL w7.heap.size w7).drew.trans qP;refine⟨oP,?_⟩;have Tc:=ah (OA.out.keep oP);have HN8:=ah (aj HNA.out oP (by omega));have HA8:=ah (aI HAA.out oP (aC _));obtain⟨ao8,VZ,rfl,_,_⟩:=aO Iz;have hB8:B≤w7.drew.heap.size:=by have:=OA.out.hl;show B≤w7.heap.size;omega
     have HG9:=ah (Tc.out.Pg (i':=⟨ao8,_,VZ⟩) (aN Iz hB8));have aK:∀c,c≠pl→(w8.setCell ⟨pl,5,none⟩ (.slice ao8 (iM ids (rp,rq)).length VZ)).heap[c]? =w8.heap[c]? :=fun c hc=>aX _ _ _ (fun e=>hc e.symm) _
     have HA9:=ah (aF HA8.out aK Tc.out.kl (by decide))
     have Zv:G≠pl:=fun e=>by
      have h1:=Tc.out.kl;rw[←e,HN8.out]at h1;injection h1 with h1;injection h1 with _ h1 _;exact absurd h1 (by decide)
     have HN9:=ah ((aK G Zv).trans HN8.out);obtain⟨_,_,_,_,_,n5,_,_⟩:=aB Tc.out.kl;have f5:=ak Tc.out.kl 5;simp only[Sv.v]at n5
     have hD9:D≤(w8.setCell ⟨pl,5,none⟩ (.slice ao8 (iM ids (rp,rq)).length VZ)).heap.size:=by
      have h1:=oP.size;have h2:wr.heap.size<w7.heap.size:=hzR;simp;omega
     clear Iz qP aK Zv;refine aD (i:=7) (by kernel_rfl) rfl rfl ?_;go_simp;refine aD (i:=8) (by kernel_rfl) rfl rfl ?_;go_simp;refine aD (i:=9) (by kernel_rfl) rfl rfl ?_;go_simp;refine aU (by kernel_rfl) ?_;go_wp2;go_roundw
     case rel=>exact⟨k+1,_,by omega,by go_num,by rw[HS.out];exact HG9.out,HA9.out,HN9.out,hD9⟩
     case measure=>simp[intOf];omega
    ·have hke:k=tA.length:=by omega
     subst hke;rw[List.take_length]at HG;go_wp2;go_meet;exact⟨y',HG.out,HN.out,hD6⟩
  case rest=>
  obtain⟨y',hG,hN,hD6⟩:=hcut;obtain⟨W6,Zw⟩:∃W6,W6=wc:=⟨_,rfl⟩;subst Zw;have HG:=ah hG;have HN:=ah hN;have Gv:=hG.szl;have zI:=hG.MS;obtain⟨n0,n1,n2,n3,_⟩:=ay hN;obtain⟨d0,d1,d2,d3,_⟩:=ay hG.kb;simp only[Sv.v]at d0 d1 d2 d3;clear hG hN yU HA5 HN5 hD5
  cases he:emp wk with
  | true=>
   have HF:Hid (iG b ⟨wk,wu,wd,wi⟩=⟨b.cs,tB,b.ls,b.bound⟩∧jG b l ⟨wk,wu,wd,wi⟩=⟨l.dev,l.epoch,l.bU,l.last,l.sl,bK l.ids tA,l.used⟩):=ah (by unfold iG jG;simp only[HAB.out,he,if_true];first | trivial | (constructor<;>first | rfl | trivial));have hk:=rz he;subst hk;clear he;go_wp2;go_ret;exact⟨eH HE.out.symm,HG.out.bC,fun _=>⟨_,y',by rw[HF.out.1,HF.out.2];exact HG.out⟩⟩
  | false=>
   obtain⟨hE1,hE2⟩:=yh he
   obtain⟨nH,gL,dH⟩:¬bJ b.cs wk<0∧ ¬ (kL b ⟨wk,wu,wd,wi⟩).up<wu∧ ¬ (kL b ⟨wk,wu,wd,wi⟩).down<wd:=by
    rcases(iP Zq.out).2 with hh | hh
    ·rw[show emp wk=false from he]at hh;cases hh
    ·exact hh.2
   rcases b_ (fun c:Ct=>decide (c.key=wk)) b.cs with⟨hi,_⟩ | ⟨k,hk,hi,_,_⟩
   ·exact absurd (by rw[show bJ b.cs wk= -1 from hi];decide) nH
   have La:ci=k:=by rw[←vS.out];exact hi
   subst La;have VU:Hid (kL b ⟨wk,wu,wd,wi⟩=b.cs[k]):=by show _=_;unfold kL;rw[vS.out];simp[List.getD,List.getElem?_eq_getElem hk]
   have HF:Hid (iG b ⟨wk,wu,wd,wi⟩=⟨b.cs.set k ⟨b.cs[k].key,b.cs[k].coll,b.cs[k].lo,b.cs[k].hi,b.cs[k].start,b.cs[k].up-wu,b.cs[k].down-wd⟩,tB,b.ls,b.bound⟩∧jG b l ⟨wk,wu,wd,wi⟩=⟨l.dev,l.epoch,l.bU,l.last,l.sl++ [⟨wk,wu,wd,0,0⟩],bK l.ids tA,l.used⟩):=ah (by
    unfold iG jG;simp only[HAB.out,VU.out,show emp wk=false from he,Bool.false_eq_true,if_false,vS.out,Int.toNat_natCast]
    first | trivial | (constructor<;>first | rfl | trivial))
   rw[VU.out]at gL dH;obtain⟨b1,b2,b3,b4⟩:=HW.out.ct b.cs[k] (List.getElem_mem hk);obtain⟨g,cap,hxc,dO,qM,hgs,q0,q5,q6,qf⟩:=HG.out.ct k hk;injection hxc with Dx tN hx3;subst Dx tN hx3;have adn:=HW.out.nc;have jK:(k:Int)<b.cs.length:=by omega
   have V8:Hid (∀U,Gr B D pb pl w0 U ⟨⟨some ⟨g,0,none⟩,b.cs.length,cc⟩,⟨Oz,tB.length,Cv⟩,⟨la,ln,lc⟩,⟨ba,bE,bc⟩⟩ ⟨b.cs,tB,b.ls,b.bound⟩ xs y' ⟨l.dev,l.epoch,l.bU,l.last,l.sl,bK l.ids tA,l.used⟩→
     Gr B D pb pl w0 ((U.setCell ⟨g,k*7+5,none⟩ (.int .i64 (b.cs[k].up-wu))).setCell ⟨g,k*7+6,none⟩ (.int .i64 (b.cs[k].down-wd))) ⟨⟨some ⟨g,0,none⟩,b.cs.length,cc⟩,⟨Oz,tB.length,Cv⟩,⟨la,ln,lc⟩,⟨ba,bE,bc⟩⟩ (iG b ⟨wk,wu,wd,wi⟩) xs y' ⟨l.dev,l.epoch,l.bU,l.last,l.sl,bK l.ids tA,l.used⟩):=
    ah (fun U hU=>by rw[HF.out.1];exact hU.zF rfl k hk _ _)
   have sS:=ah HF.out.2;have HKK:=ah (rfl:b.cs[k]=b.cs[k]);clear HKK HF VU q0 he hi nH;have V_:Hid ((aJ kY b.cs)[k*7+6]? =some (.int .i64 b.cs[k].down)):=ah (by rw[bV fG _ k hk 6 (by omega)];rfl);generalize b.cs[k].up=cu at*;generalize b.cs[k].down=cd at*;have i1:IntKind.i64.wrap (cu-wu)=cu-wu:=IntWalk.i64_in _ (by omega);have i2:IntKind.i64.wrap (cd-wd)=cd-wd:=IntWalk.i64_in _ (by omega);have qf5:=qf (k*7+5);have qf6:=qf (k*7+6);clear qf;go_upto_region 20 with fail
   go_still_tail 13,(by kernel_rfl)
   change wpList _ _ _ _ _ W6.drew
   have Zx:g≠pb:=fun e=>by
    obtain⟨cur,hg⟩:=eB HG.out.rc;rw[e,HG.out.kb]at hg;injection hg with hg;injection hg with _ hg _;exact absurd hg (by decide)
   have hgG:g≠G:=fun e=>by
    obtain⟨cur,hg⟩:=eB HG.out.rc;rw[e,HN.out]at hg;injection hg with hg;injection hg with _ hg _;exact absurd hg (by decide)
   have rT:=HG.out.drew.rc;simp only[Sv.v]at rT;have hlc:(aJ kY b.cs).length=b.cs.length*7:=bP fG _;obtain⟨_,_,_,_,_,u6,u7⟩:=bg (dV rT (k*7+5) (by omega) (.int .i64 (cu-wu)));have q6':=u7 (k*7+6) (.int .i64 cd) (by rw[List.getElem?_set_ne (by omega)];exact V_.out);have adz:=u6 (k*7+6);have hkU:=(aX W6.drew ⟨g,k*7+5,none⟩ pb Zx (.int .i64 (cu-wu))).trans HG.out.kb;have hnU:=(aX W6.drew ⟨g,k*7+5,none⟩ G hgG (.int .i64 (cu-wu))).trans HN.out;have HU:Hid (∀V,V=W6.drew.setCell ⟨g,k*7+5,none⟩ (.int .i64 (cu-wu))→V.drew.setCell ⟨g,k*7+6,none⟩ (.int .i64 (cd-wd))=(W6.drew.drew.setCell ⟨g,k*7+5,none⟩ (.int .i64 (cu-wu))).setCell ⟨g,k*7+6,none⟩ (.int .i64 (cd-wd))):=ah (fun V hV=>by rw[hV];rfl);clear i1 rT hlc u6 u7;go_wp2;rw[show (W6.setCell ⟨g,k*7+5,none⟩ (.int .i64 (cu-wu))).drew=W6.drew.setCell ⟨g,k*7+5,none⟩ (.int .i64 (cu-wu))from rfl];have HV:=ah (HU.out _ rfl);clear HU;generalize W6.drew.setCell ⟨g,k*7+5,none⟩ (.int .i64 (cu-wu))=U5 at*;clear n0 n1 n2 n3 d0 d1 d2 d3 q5 q6 qf5 qf6;obtain⟨n0,n1,n2,n3,_⟩:=ay hnU;obtain⟨d0,d1,d2,d3,_⟩:=ay hkU;simp only[Sv.v]at d0 d1 d2 d3;clear hnU hkU;go_still_tail 13,(by kernel_rfl)
   change wpList _ _ _ _ _ U5.drew;clear i2;go_wp2;rw[show (U5.setCell ⟨g,k*7+6,none⟩ (.int .i64 (cd-wd))).drew=U5.drew.setCell ⟨g,k*7+6,none⟩ (.int .i64 (cd-wd))from rfl,HV.out];have Ux:=ah (V8.out _ HG.out.drew.drew);clear n0 n1 n2 n3 d0 d1 d2 d3 q6' adz;have HN7:=ah ((mQ W6.drew.drew g G (fun e=>hgG e.symm) (k*7+5) (k*7+6) (.int .i64 (cu-wu)) (.int .i64 (cd-wd))).trans HN.out);have hD7:D≤((W6.drew.drew.setCell ⟨g,k*7+5,none⟩ (.int .i64 (cu-wu))).setCell ⟨g,k*7+6,none⟩ (.int .i64 (cd-wd))).heap.size:=by rw[MV];exact hD6
   generalize (W6.drew.drew.setCell ⟨g,k*7+5,none⟩ (.int .i64 (cu-wu))).setCell ⟨g,k*7+6,none⟩ (.int .i64 (cd-wd))=U7 at*;clear HV Zx hgG HG HN hgs;obtain⟨y1,y2,y3,y4,⟨y5,y6,y7⟩,⟨y8,y9,dz⟩,⟨dA,dJ,cK⟩⟩:=y';obtain⟨n0,n1,n2,n3,_⟩:=ay HN7.out;obtain⟨_,_,_,_,m4,_,_,_⟩:=aB Ux.out.kl;simp only[Sv.v]at m4;obtain⟨inf,gq,kK,dX,f_⟩:=info_parts Tryz.I4;have Lc:Below U7.heap.size U7 (U7.alloc (.cells #[.string wk,.int .i64 wu,.int .i64 wd,.int .i64 0,.int .i64 0] 88)).drew:=((aL _ _).alloc (aC _) _).drew;have hoS:=aI Ux.out.ys Lc (aC _);simp only[Sv.v]at hoS;have yj:=ah (Ux.out.keep Lc);have hns:=HW.out.ns;have hD8:D≤(U7.alloc (.cells #[.string wk,.int .i64 wu,.int .i64 wd,.int .i64 0,.int .i64 0] 88)).drew.heap.size:=by show D≤(U7.alloc _).heap.size;simp;omega
   have hcn:∀j u,[Value.string wk,.int .i64 wu,.int .i64 wd,.int .i64 0,.int .i64 0][j]? =some u→(U7.alloc (.cells #[.string wk,.int .i64 wu,.int .i64 wd,.int .i64 0,.int .i64 0] 88)).drew.cell? ((⟨U7.heap.size,0,none⟩:Addr).add j)=some u:=MW U7 U7.heap.size rfl [.string wk,.int .i64 wu,.int .i64 wd,.int .i64 0,.int .i64 0] 88;have HNB:=ah (aj HN7.out Lc (bq HN7.out).1);have aQ:U7.drew.cell? ⟨pl,4,none⟩=some (.slice y5 y6 y7)∧U7.drew.cell? ⟨G,0,none⟩=some (.string wk)∧U7.drew.cell? ⟨G,1,none⟩=some (.int .i64 wu)∧U7.drew.cell? ⟨G,2,none⟩=some (.int .i64 wd):=⟨m4,n0,n1,n2⟩;have HM4:=ah m4;have hGG:G<U7.heap.size:=(bq HN7.out).1;have hlG:pl<U7.heap.size:=Ux.out.szl;clear n0 n1 n2 n3 m4;refine aW 16 (fun w'=>w'.cell? ⟨pl,4,none⟩=some (.slice y5 y6 y7)∧w'.cell? ⟨G,0,none⟩=some (.string wk)∧w'.cell? ⟨G,1,none⟩=some (.int .i64 wu)∧w'.cell? ⟨G,2,none⟩=some (.int .i64 wd)) (by kernel_rfl) ?_;refine aP (i:=0) (v:=.pointer (some ⟨pl,0,none⟩)) rfl rfl (by kernel_rfl) (fun _ _ _ h=>h) (.inl ⟨rfl,fun w' hw=>?_⟩) aQ ?_
   ·go_simp
   refine aP (i:=1) (v:=.pointer (some ⟨pl,0,none⟩)) rfl rfl (by kernel_rfl) (fun _ _ _ h=>h) (.inl ⟨rfl,fun w' hw=>?_⟩) aQ ?_
   ·go_simp
   refine aP (i:=5) (v:=.pointer (some ⟨G,0,none⟩)) rfl rfl (by kernel_rfl) (fun _ _ _ h=>h) (.inl ⟨rfl,fun w' hw=>?_⟩) aQ ?_
   ·go_simp
   refine aP (i:=7) (v:=.pointer (some ⟨G,1,none⟩)) rfl rfl (by kernel_rfl) (fun _ _ _ h=>h) (.inl ⟨rfl,fun w' hw=>?_⟩) aQ ?_
   ·go_simp
   refine aP (i:=9) (v:=.pointer (some ⟨G,2,none⟩)) rfl rfl (by kernel_rfl) (fun _ _ _ h=>h) (.inl ⟨rfl,fun w' hw=>?_⟩) aQ ?_
   ·go_simp
   refine aP (i:=2) (v:=.pointer (some ⟨pl,0,none⟩)) rfl rfl (by kernel_rfl) (fun _ _ _ h=>h) (.inl ⟨rfl,fun w' hw=>?_⟩) aQ ?_
   ·go_simp
   refine aP (i:=3) (v:=.pointer (some ⟨pl,4,none⟩)) rfl rfl (by kernel_rfl) (fun _ _ _ h=>h) (.inl ⟨rfl,fun w' hw=>?_⟩) aQ ?_
   ·go_simp
   refine aP (i:=4) (v:=.slice y5 y6 y7) rfl rfl (by kernel_rfl) (fun _ _ _ h=>h) (.inl ⟨rfl,fun w' hw=>?_⟩) aQ ?_
   ·obtain⟨x1,x2,x3,x4⟩:=hw
    go_simp
   refine aP (i:=6) (v:=.string wk) rfl rfl (by kernel_rfl) (fun _ _ _ h=>h) (.inl ⟨rfl,fun w' hw=>?_⟩) aQ ?_
   ·obtain⟨x1,x2,x3,x4⟩:=hw
    go_simp
   refine aP (i:=8) (v:=.int .i64 wu) rfl rfl (by kernel_rfl) (fun _ _ _ h=>h) (.inl ⟨rfl,fun w' hw=>?_⟩) aQ ?_
   ·obtain⟨x1,x2,x3,x4⟩:=hw
    go_simp
   refine aP (i:=10) (v:=.int .i64 wd) rfl rfl (by kernel_rfl) (fun _ _ _ h=>h) (.inl ⟨rfl,fun w' hw=>?_⟩) aQ ?_
   ·obtain⟨x1,x2,x3,x4⟩:=hw
    go_simp
   refine aP (i:=11) (v:=.agg #[.string wk,.int .i64 wu,.int .i64 wd,.int .i64 0,.int .i64 0]) rfl rfl (by kernel_rfl) (fun _ _ _ h=>h) (.inl ⟨rfl,fun w' hw=>?_⟩) aQ ?_
   ·go_simp
   refine aD (i:=12) (by kernel_rfl) rfl rfl ?_;go_simp;refine⟨aQ,?_⟩;refine aD (i:=13) (by kernel_rfl) rfl rfl ?_;refine wp_append_own (.tmp 153) (.tmp 161) 46 rfl D 88 inf _ 5 48 Tryz.underlying46 gq kK dX f_ rfl (by decide) _ l.sl.length (aJ jL l.sl) rfl hoS _ 1 1 [.string wk,.int .i64 wu,.int .i64 wd,.int .i64 0,.int .i64 0] rfl rfl hcn (Ef ⟨wk,wu,wd,0,0⟩) (by unfold maxLen;omega) (by omega) hD8 ?_;intro v3 w3 iq j4 nQ;obtain⟨Yp,c3,rfl,_,_⟩:=aO iq;obtain⟨p1,p2,p3⟩:=Po yj.out iq j4 hD8;have kH:=p2 _ _ _ _ yj.out.kl (by decide);have Zy:=p2 _ _ _ _ HNB.out (by decide);obtain⟨_,_,_,_,m4,_,_,_⟩:=aB kH;obtain⟨n0,n1,n2,n3,_⟩:=ay Zy;simp only[Sv.v]at m4;have HP1:=ah p1;clear p1 p2 iq j4 nQ kH Zy hoS hcn;refine⟨fun _=>⟨m4,n0,n1,n2⟩,?_⟩;refine aD (i:=14) (by kernel_rfl) rfl rfl ?_;go_simp;refine aD (i:=15) (by kernel_rfl) rfl rfl ?_;go_simp;refine aD (i:=16) (by kernel_rfl) rfl rfl ?_;go_simp;refine aU (by kernel_rfl) ?_;go_wp2;go_ret;exact⟨eH HE.out.symm,HP1.out.bC,fun _=>⟨_,_,by rw[sS.out];exact HP1.out⟩⟩
end Go.Proofs.YtlfopoimbbpfdaaGreat
