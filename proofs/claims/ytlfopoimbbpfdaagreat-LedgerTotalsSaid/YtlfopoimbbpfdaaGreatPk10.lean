/- What the law asks, in parts: LGc. -/
import Derived.StillTailTactics
import Derived.IntWalk
import Derived.Test.YtlfopoimbbpfdaaGreatPk7
import Derived.Test.YtlfopoimbbpfdaaGreatPk9
import Derived.Test.YtlfopoimbbpfdaaGreatPk0
set_option linter.all false
namespace Go.Proofs.YtlfopoimbbpfdaaGreat
open Go.RowKit
def pJ:Ct:=⟨⟨#[]⟩,0,0,0,0,0,0⟩
def emp (s:ByteArray):Bool:=s.toList.isEmpty
def rH (w:Wn):Bool:=(decide (0≤w.up)&&decide (w.up≤2199023255552))&&((decide (0≤w.down)&&decide (w.down≤2199023255552))&&(decide (0≤w.ids)&&decide (w.ids≤50)))
def jo (b:Bk) (w:Wn):Ct:=b.cs.getD (bH b.cs w.key).toNat pJ
def fK (b:Bk) (w:Wn):Int:=
 if rH w=false then 1 else
 if bH b.cs w.key<0∧emp w.key=false then 2 else
 if emp w.key=true∧0<w.up+w.down then 1 else
 if emp w.key=false∧((jo b w).up<w.up∨(jo b w).down<w.down)then 14 else 0
def dB (b:Bk) (w:Wn):Int:=if fK b w=0 then(if bR b.free<w.ids then 14 else 0)else fK b w
def gy (b:Bk) (w:Wn):Bk:=
 ⟨if emp w.key=true then b.cs else b.cs.set (bH b.cs w.key).toNat ⟨(jo b w).key,(jo b w).coll,(jo b w).lo,(jo b w).hi,(jo b w).start,(jo b w).up-w.up,(jo b w).down-w.down⟩,(bO b.free w.ids).2,b.ls,b.bound⟩
def iE (b:Bk) (l:Ls) (w:Wn):Ls:=
 ⟨l.dev,l.epoch,l.bY,l.last,if emp w.key=true then l.sl else l.sl++ [⟨w.key,w.up,w.down,0,0⟩],bG l.ids (bO b.free w.ids).1,l.used⟩
theorem nN (l:List Rg):∀n,(bO l n).1.length≤l.length∧(bO l n).2.length≤l.length:=by
 induction l with
 | nil=>intro n;simp[bO]
 | cons r l ih=>
  intro n
  unfold bO
  split
  ·simp
  ·split
   ·simp
   ·have:=ih (n-(r.2-r.1))
    simp
    omega
theorem wp_append_own {P:Program} {o:Oper} {a:Act} {w:World} {K:Act→World→Prop} {Q:Exit→Act→World→Prop}
  (s x:Operand) (t:TypeId) (hop:o.op=Op.call { callee:=Callee.builtin Builtin.append,args:= #[s,x],argTypes:= #[t,t] })
  (base:Nat) (e:TypeId) (i:TypeInfo) (z:Value) (size bytes:Nat) (ht:P.underlying t=some (.slice e)) (hi:P.info? e=some i) (hz:i.zero=some z)
  (hsize:i.size=size) (hby:i.bytes=bytes) (hzs:z.cells.size=size) (hsz:0<size)
  (v:Value) (n:Nat) (xs:List Value) (hs:a.eval s=v) (hown:w.ownsRow base e size v n xs)
  (ad:Addr) (m c:Nat) (news:List Value) (hx:a.eval x= .slice (some ad) m c) (hl:news.length=m*size) (hnews:∀j u,news[j]? =some u→w.cell? (ad.add j)=some u) (h1:∀u∈news,u.oneCell'=true)
  (h63:n+m≤maxLen) (hbytes:(n+m)*bytes≤140737488355328) (hbase:base≤w.heap.size)
  (hK:∀v' w',w'.ownsRow base e size v' (n+m) (xs++news)→w.grownBy w' v.ownBlock→(v'.ownBlock=v.ownBlock∨v'.ownBlock=some w.heap.size)→K (a.put o.dst v') w'):Oper.wp P o a w K Q:=by
 obtain⟨v',w',hr,h2,h3,_,h5⟩:=run_append_own_at (P:=P) w base t o.type e i z size bytes ht hi hz hsize hby hzs hsz v n xs hown ad m c news hl hnews h1 h63 hbytes hbase
 unfold Oper.wp execOp
 simp only[hop,resolve,invoke,builtin,Sem.run_bind,Sem.run_pure,Result.andThen_ok,List.map_toArray,List.map_cons,List.map_nil,hs,hx,hr]
 exact hK v' w' h2 h3 h5
structure WtB (b:Bk) (l:Ls):Prop where
 nc:b.cs.length<1000
 nf:b.free.length<10000
 ni:l.ids.length<100000
 ns:l.sl.length<1000
 small:Small b.free
 ct:∀c∈b.cs,0≤c.up∧c.up≤2199023255552∧0≤c.down∧c.down≤2199023255552
def Gb (B D pb pl:Nat) (w0:World) (b:Bk) (l:Ls) (xs:List bV) (w:Wn) (e:Ending) (w':World):Prop:=
 e= .returned (.int .i64 (dB b w))∧Below B w0 w'∧(dB b w=0→ ∃x' y',Gr B D pb pl w0 w' x' (gy b w) xs y' (iE b l w))
theorem tV {s:ByteArray} (h:emp s=false):s.toList.isEmpty=false∧ ¬s.toList= []:=by
 unfold emp at h
 exact⟨h,fun e=>by rw[e]at h;cases h⟩
theorem nO {s:ByteArray} (h:emp s=true):s=⟨#[]⟩:=by
 unfold emp at h
 have h1:s.toList= []:=List.isEmpty_iff.1 h
 rw[ByteArray.toList_eq]at h1
 exact ByteArray.ext (Array.toList_inj.1 h1)
theorem mY {b:Bk} {w:Wn} (h:rH w=false):fK b w=1:=by unfold fK;rw[if_pos h]
theorem wW {b:Bk} {w:Wn} (h:rH w=true) (h1:bH b.cs w.key<0) (h2:emp w.key=false):fK b w=2:=by unfold fK;rw[if_neg (by rw[h];simp),if_pos ⟨h1,h2⟩]
theorem qB {b:Bk} {w:Wn} (h:rH w=true) (h1:emp w.key=true) (h2:0<w.up+w.down):fK b w=1:=by unfold fK;rw[if_neg (by rw[h];simp),if_neg (by rw[h1];simp),if_pos ⟨h1,h2⟩]
theorem zY {b:Bk} {w:Wn} (h:rH w=true) (h0:¬bH b.cs w.key<0) (h1:emp w.key=false) (h2:(jo b w).up<w.up∨(jo b w).down<w.down):fK b w=14:=by unfold fK;rw[if_neg (by rw[h];simp),if_neg (fun e=>h0 e.1),if_neg (by rw[h1];simp),if_pos ⟨h1,h2⟩]
theorem wX {b:Bk} {w:Wn} (h:rH w=true) (h1:emp w.key=true) (h2:¬0<w.up+w.down):fK b w=0:=by unfold fK;rw[if_neg (by rw[h];simp),if_neg (by rw[h1];simp),if_neg (fun e=>h2 e.2),if_neg (by rw[h1];simp)]
theorem wY {b:Bk} {w:Wn} (h:rH w=true) (h0:¬bH b.cs w.key<0) (h1:emp w.key=false) (h2:¬ (jo b w).up<w.up) (h3:¬ (jo b w).down<w.down):fK b w=0:=by unfold fK;rw[if_neg (by rw[h];simp),if_neg (fun e=>h0 e.1),if_neg (by rw[h1];simp),if_neg (fun e=>by rcases e.2 with e | e;exact h2 e;exact h3 e)]
theorem gI {b:Bk} {w:Wn} (h:fK b w=0):rH w=true∧(emp w.key=true∨(emp w.key=false∧ ¬bH b.cs w.key<0∧ ¬ (jo b w).up<w.up∧ ¬ (jo b w).down<w.down)):=by
 unfold fK at h
 split at h
 ·omega
 ·split at h
  ·omega
  ·split at h
   ·omega
   ·split at h
    ·omega
    ·rename_i h1 h2 h3 h4
     refine⟨by simpa using h1,?_⟩
     cases he:emp w.key with
     | true=>exact .inl rfl
     | false=>
      refine .inr ⟨rfl,fun e=>h2 ⟨e,he⟩,fun e=>h4 ⟨he,.inl e⟩,fun e=>h4 ⟨he,.inr e⟩⟩
theorem AL {w:Wn} (h:rH w=true):(0≤w.up∧w.up≤2199023255552)∧(0≤w.down∧w.down≤2199023255552)∧0≤w.ids∧w.ids≤50:=by
 unfold rH at h
 simpa only[Bool.and_eq_true,decide_eq_true_iff]using h
theorem Ig (w:World) (p q:Addr) (x y:Value):((w.setCell p x).setCell q y).heap.size=w.heap.size:=by simp[World.setCell]
theorem Ih (w:World) (b:Nat) (hb:w.heap.size=b) (cs:List Value) (t:TypeId):∀j u,cs[j]? =some u→(w.alloc (.cells cs.toArray t)).cell? ((⟨b,0,none⟩:Addr).add j)=some u:=fun j u hu=>by
 obtain⟨a,ha,hc⟩:=tO w b hb cs t j u hu
 injection ha with ha
 subst ha
 exact hc
theorem Kn {B D pb pl:Nat} {w0 W w3:World} {x:bZ} {b:Bk} {xs:List bV} {y:bV} {l:Ls} {k:ByteArray} {u d:Int} {ao:Option Addr} {c:Nat} (h:Gr B D pb pl w0 W x b xs y l)
  (ho:w3.ownsRow D 88 5 (.slice ao (l.sl.length+1) c) (l.sl.length+1) (aK jm l.sl++ [.string k,.int .i64 u,.int .i64 d,.int .i64 0,.int .i64 0])) (hg:W.grownBy w3 y.s.v.ownBlock) (hD:D≤W.heap.size):
  Gr B D pb pl w0 (w3.setCell ⟨pl,4,none⟩ (.slice ao (l.sl.length+1) c)) x b xs ⟨y.dev,y.epoch,y.bY,y.last,⟨ao,l.sl.length+1,c⟩,y.i,y.u⟩ ⟨l.dev,l.epoch,l.bY,l.last,l.sl++ [⟨k,u,d,0,0⟩],l.ids,l.used⟩∧
   (∀ (q:Nat) (cur:Array Value) (T:TypeId) (z:Nat×Nat),W.heap[q]? =some (Obj.cells cur T z)→T≠ 88 →w3.heap[q]? =some (Obj.cells cur T z))∧w3.frozen? ⟨pl,4,none⟩=false:=by
 have ho':w3.ownsRow D 88 5 (.slice ao (l.sl.length+1) c) (l.sl.length+1) (aK jm (l.sl++ [⟨k,u,d,0,0⟩])):=by rw[dU,qp];exact ho
 have hblk:∀ (q:Nat) (cur:Array Value) (T:TypeId) (z:Nat×Nat),W.heap[q]? =some (Obj.cells cur T z)→T≠ 88 →w3.heap[q]? =some (Obj.cells cur T z):=fun q cur T z hq hT=>(hg.block q (bg hq).1 (fun e=>by
  obtain⟨cur',hc⟩:=jK h.ys e.symm
  rw[hq]at hc
  injection hc with hc
  injection hc with _ hc _
  exact hT hc)).trans hq
 exact⟨h.app (v':=⟨ao,l.sl.length+1,c⟩) ho' hg hD,hblk,ak (hblk _ _ _ _ h.kl (by decide)) 4⟩
theorem iH {B D pb pl:Nat} {w0 w':World} {b:Bk} {l:Ls} {xs:List bV} {w:Wn} {n:Int} (hC:fK b w=n) (hn:n≠0) (hb:Below B w0 w'):Gb B D pb pl w0 b l xs w (.returned (.int .i64 n)) w':=by
 have e:dB b w=n:=by unfold dB;rw[hC,if_neg hn]
 exact⟨by rw[e],hb,fun h=>absurd (e.symm.trans h) hn⟩
theorem Gr.ct {B D pb pl:Nat} {w0 W:World} {x:bZ} {b:Bk} {xs:List bV} {y:bV} {l:Ls} (h:Gr B D pb pl w0 W x b xs y l) (k:Nat) (hk:k<b.cs.length):∃g cap,x.c=⟨some ⟨g,0,none⟩,b.cs.length,cap⟩∧b.cs.length≤cap∧cap≤9223372036854775807∧g<W.heap.size∧
  W.cell? ⟨g,k*7,none⟩=some (.string b.cs[k].key)∧W.cell? ⟨g,k*7+5,none⟩=some (.int .i64 b.cs[k].up)∧W.cell? ⟨g,k*7+6,none⟩=some (.int .i64 b.cs[k].down)∧(∀o,W.frozen? ⟨g,o,none⟩=false):=by
 obtain⟨g,cap,he⟩:=fu h.rc (by omega)
 have hrc:=h.rc
 rw[he]at hrc
 obtain⟨p1,p2,p3,p4,p5,p6,p7⟩:=bq hrc
 refine⟨g,cap,?_,p3,p4,p2,?_,?_,?_,p6⟩
 ·obtain⟨⟨c1,c2,c3⟩,_,_,_⟩:=x
  injection he with e1 e2 e3
  simp only at e1 e2 e3
  subst e1 e2 e3
  rfl
 ·exact p7 _ _ (by rw[←Nat.add_zero (k*7),bP dX _ k hk 0 (by omega)];rfl)
 ·exact p7 _ _ (by rw[bP dX _ k hk 5 (by omega)];rfl)
 ·exact p7 _ _ (by rw[bP dX _ k hk 6 (by omega)];rfl)
set_option maxRecDepth 100000 in
set_option maxHeartbeats 8000000 in
theorem Ko (B D pb pl:Nat) (w0 W:World) (x:bZ) (b:Bk) (xs:List bV) (y:bV) (l:Ls) (wn:Wn) (h:Gr B D pb pl w0 W x b xs y l) (hD:D≤W.heap.size) (hw:WtB b l):
  Calls Tryz.prog 73 #[.pointer (some ⟨pb,0,none⟩),.pointer (some ⟨pl,0,none⟩),O5 wn] W (Gb B D pb pl w0 b l xs wn):=by
 obtain⟨⟨ca,cn,cc⟩,⟨fa,aX,fc⟩,⟨la,ln,lc⟩,⟨ba,b_n,bc⟩⟩:=x
 obtain⟨wk,wu,wd,wi⟩:=wn
 have dK:Below W.heap.size W (W.alloc (.cells #[.string wk,.int .i64 wu,.int .i64 wd,.int .i64 wi] 65)):=(aL _ _).alloc (aC _) _
 have vG:=ah (h.keep dK)
 have HW:=ah hw
 have TD:=ah (heap_alloc_new W (.cells #[.string wk,.int .i64 wu,.int .i64 wd,.int .i64 wi] 65))
 have Kq:W.heap.size<(W.alloc (.cells #[.string wk,.int .i64 wu,.int .i64 wd,.int .i64 wi] 65)).heap.size:=by simp
 clear h dK hw
 go_enter Tryz.func73,Tryz.ntmps73
 go_upto_region 1 with fail
 generalize W.alloc (.cells #[.string wk,.int .i64 wu,.int .i64 wd,.int .i64 wi] 65)=W1 at*
 generalize Zg:W.heap.size=G at*
 have HGG:=ah Zg
 clear Zg
 have vH:=vG.out.Ie
 have CO:=vG.out.szl
 obtain⟨ci,hci⟩:∃ci,bH b.cs wk=ci:=⟨_,rfl⟩
 have zX:=ah hci
 clear hci
 have hr0:Below W1.heap.size W1 W1:=aL _ _
 have J8:Hid (∀U,Below W1.heap.size W1 U→Calls Tryz.prog 36 #[.agg #[.slice ca cn cc,.slice fa aX fc,.slice la ln lc,.slice ba b_n bc],.string wk] U fun e w'=>e= .returned (.int .i64 ci)∧Below W1.heap.size W1 w'):=
  ah (fun U hU=>(jy ⟨⟨ca,cn,cc⟩,⟨fa,aX,fc⟩,⟨la,ln,lc⟩,⟨ba,b_n,bc⟩⟩ b.cs wk U (cK.keep vG.out.m.c hU (aC _))).mono (fun _ _ ⟨he,hb⟩=>⟨by rw[←zX.out];exact he,hU.trans (hb.mono hU.size)⟩))
 have KS:Hid (∀U,Below W1.heap.size W1 U→(Below W1.heap.size W1 U∧U.cell? ⟨pb,0,none⟩=some (.slice ca cn cc)∧U.cell? ⟨pb,1,none⟩=some (.slice fa aX fc)∧U.cell? ⟨pb,2,none⟩=some (.slice la ln lc)∧U.cell? ⟨pb,3,none⟩=some (.slice ba b_n bc)∧U.cell? ⟨G,0,none⟩=some (.string wk))):=
  ah (fun U hU=>by
   obtain⟨e0,e1,e2,e3,_⟩:=ay (aj vG.out.kb hU vH)
   obtain⟨n0,n1,n2,n3,_⟩:=ay (aj TD.out hU Kq)
   exact⟨hU,e0,e1,e2,e3,n0⟩)
 go_cut[7] (fun v7 wx=>v7= .int .i64 ci∧Below W1.heap.size W1 wx)
 case first=>
  go_region_held3 (fun w'=>Below W1.heap.size W1 w'∧w'.cell? ⟨pb,0,none⟩=some (.slice ca cn cc)∧w'.cell? ⟨pb,1,none⟩=some (.slice fa aX fc)∧w'.cell? ⟨pb,2,none⟩=some (.slice la ln lc)∧w'.cell? ⟨pb,3,none⟩=some (.slice ba b_n bc)∧w'.cell? ⟨G,0,none⟩=some (.string wk))
   (first | assumption | exact KS.out _ (by assumption) | exact KS.out _ hr0.drew)
   ((go_at_call 36;(with_reducible refine(J8.out _ (by go_split_ands;assumption)).mono ?_);rintro en w9 ⟨rfl,lN⟩))
  all_goals
   go_wp2
   go_meet
   exact⟨by rfl,by first | assumption | exact hr0.drew⟩
 case rest=>
 obtain⟨rfl,hb2⟩:=hcut
 have HG2:=ah (vG.out.keep hb2)
 have oC:=ah (aj TD.out hb2 Kq)
 have hD2:D≤wc.heap.size:=by have:=hb2.size;have:=HGG.out;omega
 clear J8 KS hr0 vG TD hb2 vH CO Kq
 obtain⟨W2,hW2⟩:∃W2,W2=wc:=⟨_,rfl⟩
 subst hW2
 obtain⟨a1,ha1⟩:∃a1,(decide (0≤wu)&&decide (wu≤2199023255552))=a1:=⟨_,rfl⟩
 obtain⟨a2,ha2⟩:∃a2,(decide (0≤wd)&&decide (wd≤2199023255552))=a2:=⟨_,rfl⟩
 obtain⟨a3,Ii⟩:∃a3,(decide (0≤wi)&&decide (wi≤50))=a3:=⟨_,rfl⟩
 have HA1:=ah ha1
 have HA2:=ah ha2
 have D_:=ah Ii
 have sS:Hid (rH ⟨wk,wu,wd,wi⟩=(a1&&(a2&&a3))):=by show _=_;unfold rH;simp only[HA1.out,HA2.out,D_.out]
 clear ha1 ha2 Ii
 obtain⟨n0,n1,n2,n3,_⟩:=ay oC.out
 obtain⟨d0,d1,d2,d3,_⟩:=ay HG2.out.kb
 simp only[Sv.v]at d0 d1 d2 d3
 go_upto_block 0 with fail
 go_cut[] (fun wx=>fK b ⟨wk,wu,wd,wi⟩=0∧Below W2.heap.size W2 wx)
 case first=>
  cases a1 with
  | false=>
   have HC:=ah (mY (b:=b) (w:=⟨wk,wu,wd,wi⟩) (by rw[sS.out];rfl))
   go_wp2_with ((go_at_call 63;refine(dG _ _ _ _).mono ?_);(first | rw[HA1.out] | rw[HA2.out] | rw[D_.out]);rintro e w9 ⟨rfl,rfl⟩)
   go_ret
   exact iH HC.out (by omega) HG2.out.aZ
  | true=>
   cases a2 with
   | false=>
    have HC:=ah (mY (b:=b) (w:=⟨wk,wu,wd,wi⟩) (by rw[sS.out];rfl))
    go_wp2_with ((go_at_call 63;refine(dG _ _ _ _).mono ?_);(first | rw[HA1.out] | rw[HA2.out] | rw[D_.out]);rintro e w9 ⟨rfl,rfl⟩)
    go_ret
    exact iH HC.out (by omega) HG2.out.aZ
   | true=>
    cases a3 with
    | false=>
     have HC:=ah (mY (b:=b) (w:=⟨wk,wu,wd,wi⟩) (by rw[sS.out];rfl))
     go_wp2_with ((go_at_call 63;refine(dG _ _ _ _).mono ?_);(first | rw[HA1.out] | rw[HA2.out] | rw[D_.out]);rintro e w9 ⟨rfl,rfl⟩)
     go_ret
     exact iH HC.out (by omega) HG2.out.aZ
    | true=>
     have g1:0≤wu∧wu≤2199023255552:=by simpa using HA1.out
     have g2:0≤wd∧wd≤2199023255552:=by simpa using HA2.out
     have g3:0≤wi∧wi≤50:=by simpa using D_.out
     obtain⟨g11,g12⟩:=g1
     obtain⟨g21,g22⟩:=g2
     obtain⟨Zh,g32⟩:=g3
     cases he:emp wk with
     | true=>
      have hk:=nO he
      subst hk
      by_cases h0:0<wu+wd
      ·have HC:=ah (qB (b:=b) (w:=⟨⟨#[]⟩,wu,wd,wi⟩) (by rw[sS.out];rfl) he h0)
       clear he
       go_wp2_with ((go_at_call 63;refine(dG _ _ _ _).mono ?_);(first | rw[HA1.out] | rw[HA2.out] | rw[D_.out]);rintro e w9 ⟨rfl,rfl⟩)
       all_goals
        go_ret
        exact iH HC.out (by omega) HG2.out.aZ
      ·have HC:=ah (wX (b:=b) (w:=⟨⟨#[]⟩,wu,wd,wi⟩) (by rw[sS.out];rfl) he h0)
       have dh0:decide (0<wu+wd)=false:=by simpa using h0
       clear he h0
       go_wp2_with ((go_at_call 63;refine(dG _ _ _ _).mono ?_);(first | rw[HA1.out] | rw[HA2.out] | rw[D_.out]);rintro e w9 ⟨rfl,rfl⟩)
       all_goals
        go_quiet (fail)
        go_wp2
        go_meet
        exact⟨HC.out,below_drewN (aL _ _) _⟩
     | false=>
      obtain⟨hE1,hE2⟩:=tV he
      rcases bQ (fun c:Ct=>decide (c.key=wk)) b.cs with⟨hi,_⟩ | ⟨k,hk,hi,_,_⟩
      ·have hcn:ci= -1:=by rw[←zX.out];exact hi
       subst hcn
       have HC:=ah (wW (b:=b) (w:=⟨wk,wu,wd,wi⟩) (by rw[sS.out];rfl) (by rw[zX.out];decide) he)
       clear he hi
       go_wp2_with ((go_at_call 63;refine(dG _ _ _ _).mono ?_);(first | rw[HA1.out] | rw[HA2.out] | rw[D_.out]);rintro e w9 ⟨rfl,rfl⟩)
       go_ret
       exact iH HC.out (by omega) HG2.out.aZ
      ·have hck:ci=k:=by rw[←zX.out];exact hi
       subst hck
       have QN:Hid (jo b ⟨wk,wu,wd,wi⟩=b.cs[k]):=by show _=_;unfold jo;rw[zX.out];simp[List.getD,List.getElem?_eq_getElem hk]
       obtain⟨g,cap,hxc,hcap,hcm,hgs,q0,q5,q6,qf⟩:=HG2.out.ct k hk
       injection hxc with hx1 hx2 hx3
       subst hx1 hx2 hx3
       have Zi:=HW.out.nc
       have UF:Hid (b.cs[k].up<wu∨b.cs[k].down<wd→fK b ⟨wk,wu,wd,wi⟩=14):=ah (fun hh=>zY (b:=b) (w:=⟨wk,wu,wd,wi⟩) (by rw[sS.out];rfl) (by rw[zX.out];omega) he (by rw[QN.out];exact hh))
       have UG:Hid (¬b.cs[k].up<wu→ ¬b.cs[k].down<wd→fK b ⟨wk,wu,wd,wi⟩=0):=ah (fun h1 h2=>wY (b:=b) (w:=⟨wk,wu,wd,wi⟩) (by rw[sS.out];rfl) (by rw[zX.out];omega) he (by rw[QN.out];exact h1) (by rw[QN.out];exact h2))
       generalize b.cs[k].up=cu at*
       generalize b.cs[k].down=cd at*
       have iG:(k:Int)<b.cs.length:=by omega
       clear he hi q0 qf
       by_cases h5:cu<wu
       ·have HC:=ah (UF.out (.inl h5))
        go_wp2_with ((go_at_call 63;refine(dG _ _ _ _).mono ?_);(first | rw[HA1.out] | rw[HA2.out] | rw[D_.out]);rintro e w9 ⟨rfl,rfl⟩)
        go_quiet (fail)
        go_wp2
        go_ret
        exact iH HC.out (by omega) (below_drewN HG2.out.aZ _)
       ·have d5:decide (cu<wu)=false:=by simpa using h5
        by_cases h6:cd<wd
        ·have HC:=ah (UF.out (.inr h6))
         clear h5
         go_wp2_with ((go_at_call 63;refine(dG _ _ _ _).mono ?_);(first | rw[HA1.out] | rw[HA2.out] | rw[D_.out]);rintro e w9 ⟨rfl,rfl⟩)
         go_quiet (fail)
         go_wp2
         go_ret
         exact iH HC.out (by omega) (below_drewN HG2.out.aZ _)
        ·have d6:decide (cd<wd)=false:=by simpa using h6
         have HC:=ah (UG.out h5 h6)
         clear h5 h6
         go_wp2_with ((go_at_call 63;refine(dG _ _ _ _).mono ?_);(first | rw[HA1.out] | rw[HA2.out] | rw[D_.out]);rintro e w9 ⟨rfl,rfl⟩)
         go_quiet (fail)
         go_wp2
         go_meet
         exact⟨HC.out,below_drewN (aL _ _) _⟩
 case rest=>
 obtain⟨hc0,hb3⟩:=hcut
 obtain⟨W3,hW3⟩:∃W3,W3=wc:=⟨_,rfl⟩
 subst hW3
 have UG:=ah hc0
 have Gc:=ah (HG2.out.keep hb3)
 have UH:G<W2.heap.size:=(bg oC.out).1
 have X7:=ah (aj oC.out hb3 UH)
 have hD3:D≤W3.heap.size:=Nat.le_trans hD2 hb3.size
 obtain⟨⟨g11,g12⟩,⟨g21,g22⟩,Zh,g32⟩:=AL (gI hc0).1
 simp only at g11 g12 g21 g22 Zh g32
 have vH:=Gc.out.Ie
 have CO:=Gc.out.szl
 have QO:G<W3.heap.size:=(bg X7.out).1
 clear hc0 HG2 oC hb3 hD2 HA1 HA2 D_ sS n0 n1 n2 n3 d0 d1 d2 d3 UH
 have hr0:Below W3.heap.size W3 W3:=aL _ _
 have KS:Hid (∀U,Below W3.heap.size W3 U→(Below W3.heap.size W3 U∧U.cell? ⟨pb,1,none⟩=some (.slice fa aX fc)∧U.cell? ⟨G,3,none⟩=some (.int .i64 wi))):=
  ah (fun U hU=>by
   obtain⟨e0,e1,e2,e3,_⟩:=ay (aj Gc.out.kb hU vH)
   obtain⟨n0,n1,n2,n3,_⟩:=ay (aj X7.out hU QO)
   exact⟨hU,e1,n3⟩)
 have QS:Hid (∀U,Below W3.heap.size W3 U→fq U (.slice fa aX fc) b.free):=ah (fun U hU=>fq.keep (aI Gc.out.rf) hU (aC _))
 have hnf:=HW.out.nf
 go_upto_region 10 with fail
 by_cases hT:bR b.free<wi
 ·have HE:Hid (dB b ⟨wk,wu,wd,wi⟩=14):=by show _=_;unfold dB;rw[if_pos UG.out,if_pos hT]
  have Kr:Hid (∀U,Below W3.heap.size W3 U→Calls Tryz.prog 112 #[.slice fa aX fc,.int .i64 wi] U fun e w'=>e= .returned (.tuple #[.slice none 0 0,.slice none 0 0,.int .i64 14])∧Below W3.heap.size W3 w'):=
   ah (fun U hU=>(Cq _ b.free wi U (QS.out U hU) HW.out.small (by omega) hT).mono (fun _ _ ⟨he,hb⟩=>⟨he,hU.trans (hb.mono hU.size)⟩))
  clear hT
  go_cut[8,9,10] (fun _ _ v10 wx=>v10= .int .i64 14∧Below W3.heap.size W3 wx)
  case first=>
   go_region_held3 (fun w'=>Below W3.heap.size W3 w'∧w'.cell? ⟨pb,1,none⟩=some (.slice fa aX fc)∧w'.cell? ⟨G,3,none⟩=some (.int .i64 wi))
    (first | assumption | exact KS.out _ (by assumption) | exact KS.out _ hr0.drew)
    ((go_at_call 112;(with_reducible refine(Kr.out _ (by go_split_ands;assumption)).mono ?_);rintro en w9 ⟨rfl,lN⟩))
   all_goals
    go_wp2
    go_meet
    exact⟨by rfl,by first | assumption | exact hr0.drew⟩
  case rest=>
  obtain⟨rfl,hb4⟩:=hcut
  go_wp2
  go_ret
  have e:=HE.out
  exact⟨dL HE.out.symm,Gc.out.aZ.trans (hb4.mono (Nat.le_trans Gc.out.hb (Nat.le_of_lt vH))),fun h=>by omega⟩
 ·have HE:Hid (dB b ⟨wk,wu,wd,wi⟩=0):=by show _=_;unfold dB;rw[if_pos UG.out,if_neg hT]
  have hlT:=nN b.free wi
  obtain⟨tA,tB,Zj⟩:∃tA tB,bO b.free wi=(tA,tB):=⟨(bO b.free wi).1,(bO b.free wi).2,rfl⟩
  rw[Zj]at hlT
  obtain⟨hlA,hlB⟩:=hlT
  simp only at hlA hlB
  have Zk:=ah Zj
  have Kr:Hid (∀U,Below W3.heap.size W3 U→Calls Tryz.prog 112 #[.slice fa aX fc,.int .i64 wi] U fun e w'=>∃v1 v2:Value,e= .returned (.tuple #[v1,v2,.int .i64 0])∧w'.ownsRow B 56 2 v1 tA.length (aR tA)∧w'.ownsRow B 56 2 v2 tB.length (aR tB)∧Below W3.heap.size W3 w'):=
   ah (fun U hU=>(NA _ b.free wi U (QS.out U hU) HW.out.small (by omega) Zh (by omega)).mono (fun _ _ ⟨v1,v2,he,h1,h2,_,hb⟩=>by
    rw[Zk.out]at h1 h2
    have hBU:B≤U.heap.size:=Nat.le_trans (Nat.le_trans Gc.out.hb (Nat.le_of_lt vH)) hU.size
    exact⟨v1,v2,he,aO h1 hBU,aO h2 hBU,hU.trans (hb.mono hU.size)⟩))
  clear hT Zj
  go_cut[8,9,10] (fun v8 v9 v10 wx=>v10= .int .i64 0∧wx.ownsRow B 56 2 v8 tA.length (aR tA)∧wx.ownsRow B 56 2 v9 tB.length (aR tB)∧Below W3.heap.size W3 wx)
  case first=>
   go_region_held3 (fun w'=>Below W3.heap.size W3 w'∧w'.cell? ⟨pb,1,none⟩=some (.slice fa aX fc)∧w'.cell? ⟨G,3,none⟩=some (.int .i64 wi))
    (first | assumption | exact KS.out _ (by assumption) | exact KS.out _ hr0.drew)
    ((go_at_call 112;(with_reducible refine(Kr.out _ (by go_split_ands;assumption)).mono ?_);rintro en w9 ⟨v1,v2,rfl,ho1,ho2,lN⟩))
   all_goals
    go_wp2
    go_meet
    exact⟨by rfl,ho1,ho2,lN⟩
  case rest=>
  obtain⟨rfl,QT,Zl,hb4⟩:=hcut
  have rJ:=ah (Gc.out.keep hb4)
  have UJ:=ah (aj X7.out hb4 QO)
  have hD4:D≤wc.heap.size:=Nat.le_trans hD3 hb4.size
  obtain⟨aoA,Zm,rfl,hcA,aer⟩:=aP QT
  obtain⟨MZ,yM,rfl,hcB,aes⟩:=aP Zl
  obtain⟨d0,d1,d2,d3,_⟩:=ay rJ.out.kb
  simp only[Sv.v]at d0 d1 d2 d3
  have f1:=aA rJ.out.kb 1
  have hoth:∀c,c≠pb→(wc.setCell ⟨pb,1,none⟩ (.slice MZ tB.length yM)).heap[c]? =wc.heap[c]? :=fun c hc=>aW _ _ _ (fun e=>hc e.symm) _
  have uN:Hid (Gr B D pb pl w0 (wc.setCell ⟨pb,1,none⟩ (.slice MZ tB.length yM)) ⟨⟨ca,cn,cc⟩,⟨MZ,tB.length,yM⟩,⟨la,ln,lc⟩,⟨ba,b_n,bc⟩⟩ ⟨b.cs,tB,b.ls,b.bound⟩ xs y l):=ah (rJ.out.Az (f':=⟨MZ,tB.length,yM⟩) Zl)
  have Zn:=ah (aH QT hoth rJ.out.kb (by decide))
  have UK:G≠pb:=fun e=>by
   have h1:=rJ.out.kb
   rw[←e,UJ.out]at h1
   injection h1 with h1
   injection h1 with _ h1 _
   exact absurd h1 (by decide)
  have Zo:=ah ((hoth G UK).trans UJ.out)
  have hD5:D≤(wc.setCell ⟨pb,1,none⟩ (.slice MZ tB.length yM)).heap.size:=by simpa using hD4
  have aeu:l.ids.length<100000:=HW.out.ni
  have Zp:=gH
  clear QT Zl hb4 Gc X7 hD3 KS QS hr0 Kr hoth vH CO QO Zp
  go_upto_block 1 with fail
  generalize wc.setCell ⟨pb,1,none⟩ (.slice MZ tB.length yM)=W5 at*
  clear d0 d1 d2 d3 f1 rJ UJ hD4 UK
  go_cut[] (fun wx=>∃y',Gr B D pb pl w0 wx ⟨⟨ca,cn,cc⟩,⟨MZ,tB.length,yM⟩,⟨la,ln,lc⟩,⟨ba,b_n,bc⟩⟩ ⟨b.cs,tB,b.ls,b.bound⟩ xs y' ⟨l.dev,l.epoch,l.bY,l.last,l.sl,bG l.ids tA,l.used⟩∧wx.heap[G]? =some (.cells #[.string wk,.int .i64 wu,.int .i64 wd,.int .i64 wi] 65 (0,0))∧D≤wx.heap.size)
  case first=>
   go_wp2
   go_loopw[106] (fun vk wr=>∃ (k:Nat) (y':bV),k≤tA.length∧vk= .int .i64 k∧Gr B D pb pl w0 wr ⟨⟨ca,cn,cc⟩,⟨MZ,tB.length,yM⟩,⟨la,ln,lc⟩,⟨ba,b_n,bc⟩⟩ ⟨b.cs,tB,b.ls,b.bound⟩ xs y' ⟨l.dev,l.epoch,l.bY,l.last,l.sl,bG l.ids (tA.take k),l.used⟩∧
    wr.ownsRow B 56 2 (.slice aoA tA.length Zm) tA.length (aR tA)∧wr.heap[G]? =some (.cells #[.string wk,.int .i64 wu,.int .i64 wd,.int .i64 wi] 65 (0,0))∧D≤wr.heap.size) (fun vk _=>tA.length-(intOf vk).toNat)
   case atStart=>exact⟨0,y,Nat.zero_le _,rfl,uN.out,Zn.out,Zo.out,hD5⟩
   case round=>
    clear uN Zn Zo hD5
    obtain⟨k,y',hk,rfl,hG,hA,hN,hD6⟩:=hrel
    have HG:=ah hG
    have HA:=ah hA
    have HN:=ah hN
    have CO:=hG.szl
    have Kq:=(bg hN).1
    clear hG hA hN
    rcases Nat.lt_or_ge k tA.length with hlt | hge
    ·obtain⟨rb,ro,rfl,hrb,c0,c1⟩:=fq.pair (aI HA.out) (aL _ _) (aC _) k hlt
     have iG:(k:Int)<tA.length:=by omega
     have HS:Hid (bG l.ids (tA.take (k+1))=gG (bG l.ids (tA.take k)) tA[k]):=by show _=_;rw[aV tA k hlt,lY]
     have hlI:(bG l.ids (tA.take k)).length<1000000:=by
      have h1:=gH (tA.take k) l.ids
      have h2:=List.length_take_le k tA
      omega
     generalize bG l.ids (tA.take k)=ids at*
     generalize tA[k]=r at*
     obtain⟨rp,rq⟩:=r
     simp only at c0 c1
     obtain⟨y1,y2,y3,y4,⟨y5,y6,y7⟩,⟨y8,y9,bW⟩,⟨bX,cB,y13⟩⟩:=y'
     have dK:Below wr.heap.size wr (wr.alloc (.cells #[.int .i64 rp,.int .i64 rq] 56)):=(aL _ _).alloc (aC _) _
     have Jy:=ah (HG.out.keep dK)
     have HNA:=ah (aj HN.out dK Kq)
     have Zq:=ah (aJ HA.out dK (aC _))
     have HR:=ah (heap_alloc_new wr (.cells #[.int .i64 rp,.int .i64 rq] 56))
     have hzR:wr.heap.size<(wr.alloc (.cells #[.int .i64 rp,.int .i64 rq] 56)).heap.size:=by simp
     clear dK
     go_upto_region 17 with fail
     generalize wr.alloc (.cells #[.int .i64 rp,.int .i64 rq] 56)=w7 at*
     clear c0 c1
     have hS0:Below w7.heap.size w7 w7.drew:=(aL _ _).drew
     refine aS 9 (fun w'=>Below w7.heap.size w7 w') (by kernel_rfl) ?_
     refine aD (i:=0) (v:=.pointer (some ⟨pl,0,none⟩)) rfl rfl (by kernel_rfl) (by kernel_rfl) (by kernel_rfl) (by kernel_rfl) (by kernel_rfl) (by decide) (fun _ _ _ h=>h) (.inl ⟨rfl,fun w' hw=>?_⟩) hS0 ?_
     ·go_simp
     refine aD (i:=1) (v:=.pointer (some ⟨pl,0,none⟩)) rfl rfl (by kernel_rfl) (by kernel_rfl) (by kernel_rfl) (by kernel_rfl) (by kernel_rfl) (by decide) (fun _ _ _ h=>h) (.inl ⟨rfl,fun w' hw=>?_⟩) hS0 ?_
     ·go_simp
     refine aD (i:=5) (v:=.agg #[.int .i64 rp,.int .i64 rq]) rfl rfl (by kernel_rfl) (by kernel_rfl) (by kernel_rfl) (by kernel_rfl) (by kernel_rfl) (by decide) (fun _ _ _ h=>h) (.inl ⟨rfl,fun w' hw=>?_⟩) hS0 ?_
     ·obtain⟨m0,m1,_⟩:=eP (aj HR.out hw hzR)
      go_simp
     refine aD (i:=2) (v:=.pointer (some ⟨pl,0,none⟩)) rfl rfl (by kernel_rfl) (by kernel_rfl) (by kernel_rfl) (by kernel_rfl) (by kernel_rfl) (by decide) (fun _ _ _ h=>h) (.inl ⟨rfl,fun w' hw=>?_⟩) hS0 ?_
     ·go_simp
     refine aD (i:=3) (v:=.pointer (some ⟨pl,5,none⟩)) rfl rfl (by kernel_rfl) (by kernel_rfl) (by kernel_rfl) (by kernel_rfl) (by kernel_rfl) (by decide) (fun _ _ _ h=>h) (.inl ⟨rfl,fun w' hw=>?_⟩) hS0 ?_
     ·go_simp
     refine aD (i:=4) (v:=.slice y8 y9 bW) rfl rfl (by kernel_rfl) (by kernel_rfl) (by kernel_rfl) (by kernel_rfl) (by kernel_rfl) (by decide) (fun _ _ _ h=>h) (.inl ⟨rfl,fun w' hw=>?_⟩) hS0 ?_
     ·obtain⟨_,_,_,_,_,n5,_,_⟩:=aB (aj Jy.out.kl hw (by omega))
      simp only[Sv.v]at n5
      go_simp
     refine aF (i:=6) (by kernel_rfl) rfl rfl ?_
     go_simp
     refine(Aw _ ids rp rq _ (fq.keep (aI Jy.out.yi) (aL _ _).drew (aC _)) hlI).mono ?_
     rintro e w8 ⟨v8,rfl,Ea,nE⟩
     have lQ:Below w7.heap.size w7 w8:=(aL w7.heap.size w7).drew.trans nE
     refine⟨lQ,?_⟩
     have NK:=ah (Jy.out.keep lQ)
     have HN8:=ah (aj HNA.out lQ (by omega))
     have HA8:=ah (aJ Zq.out lQ (aC _))
     obtain⟨Zr,QU,rfl,_,_⟩:=aP Ea
     have Zt:B≤w7.drew.heap.size:=by have:=Jy.out.hl;show B≤w7.heap.size;omega
     have HG9:=ah (NK.out.Kg (i':=⟨Zr,_,QU⟩) (aO Ea Zt))
     have hoth:∀c,c≠pl→(w8.setCell ⟨pl,5,none⟩ (.slice Zr (gG ids (rp,rq)).length QU)).heap[c]? =w8.heap[c]? :=fun c hc=>aW _ _ _ (fun e=>hc e.symm) _
     have HA9:=ah (aH HA8.out hoth NK.out.kl (by decide))
     have UL:G≠pl:=fun e=>by
      have h1:=NK.out.kl
      rw[←e,HN8.out]at h1
      injection h1 with h1
      injection h1 with _ h1 _
      exact absurd h1 (by decide)
     have HN9:=ah ((hoth G UL).trans HN8.out)
     obtain⟨_,_,_,_,_,n5,_,_⟩:=aB NK.out.kl
     have f5:=ak NK.out.kl 5
     simp only[Sv.v]at n5
     have hD9:D≤(w8.setCell ⟨pl,5,none⟩ (.slice Zr (gG ids (rp,rq)).length QU)).heap.size:=by
      have h1:=lQ.size
      have h2:wr.heap.size<w7.heap.size:=hzR
      simp
      omega
     clear Ea nE hoth UL
     refine aF (i:=7) (by kernel_rfl) rfl rfl ?_
     go_simp
     refine aF (i:=8) (by kernel_rfl) rfl rfl ?_
     go_simp
     refine aF (i:=9) (by kernel_rfl) rfl rfl ?_
     go_simp
     refine aT (by kernel_rfl) ?_
     go_wp2
     go_roundw
     case rel=>exact⟨k+1,_,by omega,by go_num,by rw[HS.out];exact HG9.out,HA9.out,HN9.out,hD9⟩
     case measure=>simp[intOf];omega
    ·have hke:k=tA.length:=by omega
     subst hke
     rw[List.take_length]at HG
     go_wp2
     go_meet
     exact⟨y',HG.out,HN.out,hD6⟩
  case rest=>
  obtain⟨y',hG,hN,hD6⟩:=hcut
  obtain⟨W6,UM⟩:∃W6,W6=wc:=⟨_,rfl⟩
  subst UM
  have HG:=ah hG
  have HN:=ah hN
  have CO:=hG.szl
  have vH:=hG.Ie
  obtain⟨n0,n1,n2,n3,_⟩:=ay hN
  obtain⟨d0,d1,d2,d3,_⟩:=ay hG.kb
  simp only[Sv.v]at d0 d1 d2 d3
  clear hG hN uN Zn Zo hD5
  cases he:emp wk with
  | true=>
   have HF:Hid (gy b ⟨wk,wu,wd,wi⟩=⟨b.cs,tB,b.ls,b.bound⟩∧iE b l ⟨wk,wu,wd,wi⟩=⟨l.dev,l.epoch,l.bY,l.last,l.sl,bG l.ids tA,l.used⟩):=ah (by unfold gy iE;simp only[Zk.out,he,if_true];first | trivial | (constructor<;>first | rfl | trivial))
   have hk:=nO he
   subst hk
   clear he
   go_wp2
   go_ret
   exact⟨dL HE.out.symm,HG.out.aZ,fun _=>⟨_,y',by rw[HF.out.1,HF.out.2];exact HG.out⟩⟩
  | false=>
   obtain⟨hE1,hE2⟩:=tV he
   obtain⟨hk0,hk1,hk2⟩:¬bH b.cs wk<0∧ ¬ (jo b ⟨wk,wu,wd,wi⟩).up<wu∧ ¬ (jo b ⟨wk,wu,wd,wi⟩).down<wd:=by
    rcases(gI UG.out).2 with hh | hh
    ·rw[show emp wk=false from he]at hh;cases hh
    ·exact hh.2
   rcases bQ (fun c:Ct=>decide (c.key=wk)) b.cs with⟨hi,_⟩ | ⟨k,hk,hi,_,_⟩
   ·exact absurd (by rw[show bH b.cs wk= -1 from hi];decide) hk0
   have hck:ci=k:=by rw[←zX.out];exact hi
   subst hck
   have QN:Hid (jo b ⟨wk,wu,wd,wi⟩=b.cs[k]):=by show _=_;unfold jo;rw[zX.out];simp[List.getD,List.getElem?_eq_getElem hk]
   have HF:Hid (gy b ⟨wk,wu,wd,wi⟩=⟨b.cs.set k ⟨b.cs[k].key,b.cs[k].coll,b.cs[k].lo,b.cs[k].hi,b.cs[k].start,b.cs[k].up-wu,b.cs[k].down-wd⟩,tB,b.ls,b.bound⟩∧iE b l ⟨wk,wu,wd,wi⟩=⟨l.dev,l.epoch,l.bY,l.last,l.sl++ [⟨wk,wu,wd,0,0⟩],bG l.ids tA,l.used⟩):=ah (by
    unfold gy iE
    simp only[Zk.out,QN.out,show emp wk=false from he,Bool.false_eq_true,if_false,zX.out,Int.toNat_natCast]
    first | trivial | (constructor<;>first | rfl | trivial))
   rw[QN.out]at hk1 hk2
   obtain⟨b1,b2,b3,b4⟩:=HW.out.ct b.cs[k] (List.getElem_mem hk)
   obtain⟨g,cap,hxc,hcap,hcm,hgs,q0,q5,q6,qf⟩:=HG.out.ct k hk
   injection hxc with hx1 hx2 hx3
   subst hx1 hx2 hx3
   have Zi:=HW.out.nc
   have iG:(k:Int)<b.cs.length:=by omega
   have QV:Hid (∀U,Gr B D pb pl w0 U ⟨⟨some ⟨g,0,none⟩,b.cs.length,cc⟩,⟨MZ,tB.length,yM⟩,⟨la,ln,lc⟩,⟨ba,b_n,bc⟩⟩ ⟨b.cs,tB,b.ls,b.bound⟩ xs y' ⟨l.dev,l.epoch,l.bY,l.last,l.sl,bG l.ids tA,l.used⟩→
     Gr B D pb pl w0 ((U.setCell ⟨g,k*7+5,none⟩ (.int .i64 (b.cs[k].up-wu))).setCell ⟨g,k*7+6,none⟩ (.int .i64 (b.cs[k].down-wd))) ⟨⟨some ⟨g,0,none⟩,b.cs.length,cc⟩,⟨MZ,tB.length,yM⟩,⟨la,ln,lc⟩,⟨ba,b_n,bc⟩⟩ (gy b ⟨wk,wu,wd,wi⟩) xs y' ⟨l.dev,l.epoch,l.bY,l.last,l.sl,bG l.ids tA,l.used⟩):=
    ah (fun U hU=>by rw[HF.out.1];exact hU.AB rfl k hk _ _)
   have oK:=ah HF.out.2
   have HKK:=ah (rfl:b.cs[k]=b.cs[k])
   clear HKK HF QN q0 he hi hk0
   have UN:Hid ((aK jE b.cs)[k*7+6]? =some (.int .i64 b.cs[k].down)):=ah (by rw[bP dX _ k hk 6 (by omega)];rfl)
   generalize b.cs[k].up=cu at*
   generalize b.cs[k].down=cd at*
   have i1:IntKind.i64.wrap (cu-wu)=cu-wu:=IntWalk.i64_in _ (by omega)
   have i2:IntKind.i64.wrap (cd-wd)=cd-wd:=IntWalk.i64_in _ (by omega)
   have qf5:=qf (k*7+5)
   have qf6:=qf (k*7+6)
   clear qf
   go_upto_region 20 with fail
   go_still_tail 13,(by kernel_rfl)
   change wpList _ _ _ _ _ W6.drew
   have UO:g≠pb:=fun e=>by
    obtain⟨cur,hg⟩:=eu HG.out.rc
    rw[e,HG.out.kb]at hg
    injection hg with hg
    injection hg with _ hg _
    exact absurd hg (by decide)
   have Zu:g≠G:=fun e=>by
    obtain⟨cur,hg⟩:=eu HG.out.rc
    rw[e,HN.out]at hg
    injection hg with hg
    injection hg with _ hg _
    exact absurd hg (by decide)
   have hrc:=HG.out.drew.rc
   simp only[Sv.v]at hrc
   have hlc:(aK jE b.cs).length=b.cs.length*7:=bL dX _
   obtain⟨_,_,_,_,_,u6,u7⟩:=bq (dF hrc (k*7+5) (by omega) (.int .i64 (cu-wu)))
   have q6':=u7 (k*7+6) (.int .i64 cd) (by rw[List.getElem?_set_ne (by omega)];exact UN.out)
   have Zv:=u6 (k*7+6)
   have hkU:=(aW W6.drew ⟨g,k*7+5,none⟩ pb UO (.int .i64 (cu-wu))).trans HG.out.kb
   have hnU:=(aW W6.drew ⟨g,k*7+5,none⟩ G Zu (.int .i64 (cu-wu))).trans HN.out
   have HU:Hid (∀V,V=W6.drew.setCell ⟨g,k*7+5,none⟩ (.int .i64 (cu-wu))→V.drew.setCell ⟨g,k*7+6,none⟩ (.int .i64 (cd-wd))=(W6.drew.drew.setCell ⟨g,k*7+5,none⟩ (.int .i64 (cu-wu))).setCell ⟨g,k*7+6,none⟩ (.int .i64 (cd-wd))):=ah (fun V hV=>by rw[hV];rfl)
   clear i1 hrc hlc u6 u7
   go_wp2
   rw[show (W6.setCell ⟨g,k*7+5,none⟩ (.int .i64 (cu-wu))).drew=W6.drew.setCell ⟨g,k*7+5,none⟩ (.int .i64 (cu-wu))from rfl]
   have HV:=ah (HU.out _ rfl)
   clear HU
   generalize W6.drew.setCell ⟨g,k*7+5,none⟩ (.int .i64 (cu-wu))=U5 at*
   clear n0 n1 n2 n3 d0 d1 d2 d3 q5 q6 qf5 qf6
   obtain⟨n0,n1,n2,n3,_⟩:=ay hnU
   obtain⟨d0,d1,d2,d3,_⟩:=ay hkU
   simp only[Sv.v]at d0 d1 d2 d3
   clear hnU hkU
   go_still_tail 13,(by kernel_rfl)
   change wpList _ _ _ _ _ U5.drew
   clear i2
   go_wp2
   rw[show (U5.setCell ⟨g,k*7+6,none⟩ (.int .i64 (cd-wd))).drew=U5.drew.setCell ⟨g,k*7+6,none⟩ (.int .i64 (cd-wd))from rfl,HV.out]
   have Pg:=ah (QV.out _ HG.out.drew.drew)
   clear n0 n1 n2 n3 d0 d1 d2 d3 q6' Zv
   have X8:=ah ((iP W6.drew.drew g G (fun e=>Zu e.symm) (k*7+5) (k*7+6) (.int .i64 (cu-wu)) (.int .i64 (cd-wd))).trans HN.out)
   have hD7:D≤((W6.drew.drew.setCell ⟨g,k*7+5,none⟩ (.int .i64 (cu-wu))).setCell ⟨g,k*7+6,none⟩ (.int .i64 (cd-wd))).heap.size:=by rw[Ig];exact hD6
   generalize (W6.drew.drew.setCell ⟨g,k*7+5,none⟩ (.int .i64 (cu-wu))).setCell ⟨g,k*7+6,none⟩ (.int .i64 (cd-wd))=U7 at*
   clear HV UO Zu HG HN hgs
   obtain⟨y1,y2,y3,y4,⟨y5,y6,y7⟩,⟨y8,y9,bW⟩,⟨bX,cB,y13⟩⟩:=y'
   obtain⟨n0,n1,n2,n3,_⟩:=ay X8.out
   obtain⟨_,_,_,_,m4,_,_,_⟩:=aB Pg.out.kl
   simp only[Sv.v]at m4
   obtain⟨inf,eX,hz0,hz1,hz2⟩:=info_parts Tryz.Et
   have yN:Below U7.heap.size U7 (U7.alloc (.cells #[.string wk,.int .i64 wu,.int .i64 wd,.int .i64 0,.int .i64 0] 88)).drew:=((aL _ _).alloc (aC _) _).drew
   have Zw:=aJ Pg.out.ys yN (aC _)
   simp only[Sv.v]at Zw
   have tX:=ah (Pg.out.keep yN)
   have hns:=HW.out.ns
   have hD8:D≤(U7.alloc (.cells #[.string wk,.int .i64 wu,.int .i64 wd,.int .i64 0,.int .i64 0] 88)).drew.heap.size:=by show D≤(U7.alloc _).heap.size;simp;omega
   have hcn:∀j u,[Value.string wk,.int .i64 wu,.int .i64 wd,.int .i64 0,.int .i64 0][j]? =some u→(U7.alloc (.cells #[.string wk,.int .i64 wu,.int .i64 wd,.int .i64 0,.int .i64 0] 88)).drew.cell? ((⟨U7.heap.size,0,none⟩:Addr).add j)=some u:=Ih U7 U7.heap.size rfl [.string wk,.int .i64 wu,.int .i64 wd,.int .i64 0,.int .i64 0] 88
   have X9:=ah (aj X8.out yN (bg X8.out).1)
   have hS0:U7.drew.cell? ⟨pl,4,none⟩=some (.slice y5 y6 y7)∧U7.drew.cell? ⟨G,0,none⟩=some (.string wk)∧U7.drew.cell? ⟨G,1,none⟩=some (.int .i64 wu)∧U7.drew.cell? ⟨G,2,none⟩=some (.int .i64 wd):=⟨m4,n0,n1,n2⟩
   have HM4:=ah m4
   have Zg:G<U7.heap.size:=(bg X8.out).1
   have hlG:pl<U7.heap.size:=Pg.out.szl
   clear n0 n1 n2 n3 m4
   refine aS 16 (fun w'=>w'.cell? ⟨pl,4,none⟩=some (.slice y5 y6 y7)∧w'.cell? ⟨G,0,none⟩=some (.string wk)∧w'.cell? ⟨G,1,none⟩=some (.int .i64 wu)∧w'.cell? ⟨G,2,none⟩=some (.int .i64 wd)) (by kernel_rfl) ?_
   refine aD (i:=0) (v:=.pointer (some ⟨pl,0,none⟩)) rfl rfl (by kernel_rfl) (by kernel_rfl) (by kernel_rfl) (by kernel_rfl) (by kernel_rfl) (by decide) (fun _ _ _ h=>h) (.inl ⟨rfl,fun w' hw=>?_⟩) hS0 ?_
   ·go_simp
   refine aD (i:=1) (v:=.pointer (some ⟨pl,0,none⟩)) rfl rfl (by kernel_rfl) (by kernel_rfl) (by kernel_rfl) (by kernel_rfl) (by kernel_rfl) (by decide) (fun _ _ _ h=>h) (.inl ⟨rfl,fun w' hw=>?_⟩) hS0 ?_
   ·go_simp
   refine aD (i:=5) (v:=.pointer (some ⟨G,0,none⟩)) rfl rfl (by kernel_rfl) (by kernel_rfl) (by kernel_rfl) (by kernel_rfl) (by kernel_rfl) (by decide) (fun _ _ _ h=>h) (.inl ⟨rfl,fun w' hw=>?_⟩) hS0 ?_
   ·go_simp
   refine aD (i:=7) (v:=.pointer (some ⟨G,1,none⟩)) rfl rfl (by kernel_rfl) (by kernel_rfl) (by kernel_rfl) (by kernel_rfl) (by kernel_rfl) (by decide) (fun _ _ _ h=>h) (.inl ⟨rfl,fun w' hw=>?_⟩) hS0 ?_
   ·go_simp
   refine aD (i:=9) (v:=.pointer (some ⟨G,2,none⟩)) rfl rfl (by kernel_rfl) (by kernel_rfl) (by kernel_rfl) (by kernel_rfl) (by kernel_rfl) (by decide) (fun _ _ _ h=>h) (.inl ⟨rfl,fun w' hw=>?_⟩) hS0 ?_
   ·go_simp
   refine aD (i:=2) (v:=.pointer (some ⟨pl,0,none⟩)) rfl rfl (by kernel_rfl) (by kernel_rfl) (by kernel_rfl) (by kernel_rfl) (by kernel_rfl) (by decide) (fun _ _ _ h=>h) (.inl ⟨rfl,fun w' hw=>?_⟩) hS0 ?_
   ·go_simp
   refine aD (i:=3) (v:=.pointer (some ⟨pl,4,none⟩)) rfl rfl (by kernel_rfl) (by kernel_rfl) (by kernel_rfl) (by kernel_rfl) (by kernel_rfl) (by decide) (fun _ _ _ h=>h) (.inl ⟨rfl,fun w' hw=>?_⟩) hS0 ?_
   ·go_simp
   refine aD (i:=4) (v:=.slice y5 y6 y7) rfl rfl (by kernel_rfl) (by kernel_rfl) (by kernel_rfl) (by kernel_rfl) (by kernel_rfl) (by decide) (fun _ _ _ h=>h) (.inl ⟨rfl,fun w' hw=>?_⟩) hS0 ?_
   ·obtain⟨x1,x2,x3,x4⟩:=hw
    go_simp
   refine aD (i:=6) (v:=.string wk) rfl rfl (by kernel_rfl) (by kernel_rfl) (by kernel_rfl) (by kernel_rfl) (by kernel_rfl) (by decide) (fun _ _ _ h=>h) (.inl ⟨rfl,fun w' hw=>?_⟩) hS0 ?_
   ·obtain⟨x1,x2,x3,x4⟩:=hw
    go_simp
   refine aD (i:=8) (v:=.int .i64 wu) rfl rfl (by kernel_rfl) (by kernel_rfl) (by kernel_rfl) (by kernel_rfl) (by kernel_rfl) (by decide) (fun _ _ _ h=>h) (.inl ⟨rfl,fun w' hw=>?_⟩) hS0 ?_
   ·obtain⟨x1,x2,x3,x4⟩:=hw
    go_simp
   refine aD (i:=10) (v:=.int .i64 wd) rfl rfl (by kernel_rfl) (by kernel_rfl) (by kernel_rfl) (by kernel_rfl) (by kernel_rfl) (by decide) (fun _ _ _ h=>h) (.inl ⟨rfl,fun w' hw=>?_⟩) hS0 ?_
   ·obtain⟨x1,x2,x3,x4⟩:=hw
    go_simp
   refine aD (i:=11) (v:=.agg #[.string wk,.int .i64 wu,.int .i64 wd,.int .i64 0,.int .i64 0]) rfl rfl (by kernel_rfl) (by kernel_rfl) (by kernel_rfl) (by kernel_rfl) (by kernel_rfl) (by decide) (fun _ _ _ h=>h) (.inl ⟨rfl,fun w' hw=>?_⟩) hS0 ?_
   ·go_simp
   refine aF (i:=12) (by kernel_rfl) rfl rfl ?_
   go_simp
   refine⟨hS0,?_⟩
   refine aF (i:=13) (by kernel_rfl) rfl rfl ?_
   refine wp_append_own (.tmp 153) (.tmp 161) 46 rfl D 88 inf _ 5 48 Tryz.underlying46 eX hz0 hz1 hz2 rfl (by decide) _ l.sl.length (aK jm l.sl) rfl Zw _ 1 1 [.string wk,.int .i64 wu,.int .i64 wd,.int .i64 0,.int .i64 0] rfl rfl hcn (Ao ⟨wk,wu,wd,0,0⟩) (by unfold maxLen;omega) (by omega) hD8 ?_
   intro v3 w3 ho3 hg3 j_
   obtain⟨Ut,c3,rfl,_,_⟩:=aP ho3
   obtain⟨p1,p2,p3⟩:=Kn tX.out ho3 hg3 hD8
   have hk3:=p2 _ _ _ _ tX.out.kl (by decide)
   have X_:=p2 _ _ _ _ X9.out (by decide)
   obtain⟨_,_,_,_,m4,_,_,_⟩:=aB hk3
   obtain⟨n0,n1,n2,n3,_⟩:=ay X_
   simp only[Sv.v]at m4
   have HP1:=ah p1
   clear p1 p2 ho3 hg3 j_ hk3 X_ Zw hcn
   refine⟨fun _=>⟨m4,n0,n1,n2⟩,?_⟩
   refine aF (i:=14) (by kernel_rfl) rfl rfl ?_
   go_simp
   refine aF (i:=15) (by kernel_rfl) rfl rfl ?_
   go_simp
   refine aF (i:=16) (by kernel_rfl) rfl rfl ?_
   go_simp
   refine aT (by kernel_rfl) ?_
   go_wp2
   go_ret
   exact⟨dL HE.out.symm,HP1.out.aZ,fun _=>⟨_,_,by rw[oK.out];exact HP1.out⟩⟩
end Go.Proofs.YtlfopoimbbpfdaaGreat
