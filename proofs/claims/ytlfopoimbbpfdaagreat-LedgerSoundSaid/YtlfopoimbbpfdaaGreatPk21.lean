/- What the law asks, in parts: ZJ ZK ZT ZN. -/
import Derived.Deep.DrawnRows
import Derived.Test.YtlfopoimbbpfdaaGreatPk2
import Derived.Test.YtlfopoimbbpfdaaGreatPk8
import Derived.Test.YtlfopoimbbpfdaaGreatPk20
set_option linter.all false
set_option maxRecDepth 100000
set_option maxHeartbeats 16000000
namespace Go.Proofs.YtlfopoimbbpfdaaGreat
open Go.RowKit
theorem Bp (v:Value) (l:List Int) (w:World) (h:jv w v l):
  Calls Tryz.prog 53 #[v] w fun e w'=>e= .returned (.bool (decide (iU l)))∧Below w.heap.size w w':=by
 obtain⟨ao,cap,rfl,dO,hm⟩:=Sl.shape h
 go_enter Tryz.func53,Tryz.ntmps53
 go_wp2
 go_loopw[3] (fun i wr=>∃k:Nat,k≤l.length∧i= .int .i64 (k+1:Nat)∧Hid (iU (l.take (k+1)))∧Below w.heap.size w wr) (fun i _=>l.length+1-(intOf i).toNat)
 case atStart=>exact⟨0,Nat.zero_le _,rfl,ah (by cases l<;>simp[iU]),aL _ _⟩
 case round=>
  obtain⟨j,hk,rfl,HH,hb⟩:=hrel;by_cases bA:j+1<l.length
  ·obtain⟨b,off,rfl,kZ,lF⟩:=jv.cell h hb (aC _) (j+1) bA
   have HS:=ah (aS l (j+1) bA);have oU:j<l.length:=by omega
   have Lg:((j+1:Nat):Int)<l.length:=by omega
   obtain⟨b',off',FB,_,je⟩:=jv.cell h hb (aC _) j oU
   cases FB
   have HR:Hid (iU l→iU (l.take j++ [l[j]]++ [l[j+1]])):=ah (fun h=>by have:=h.take (j+1+1);rw[HS.out,aS l j oU]at this;exact this);have HJ:=ah (aS l j oU);generalize l[j+1]=y at*;generalize l[j]=x at*;by_cases d4:y≤x
   ·go_wp2
    go_quiet (fail)
    go_wp2;go_ret;exact⟨aH (by symm;rw[decide_eq_false_iff_not];intro hr;have:=(qZ _ x y).1 (HR.out hr);omega),below_drewN hb _⟩
   ·have e4:decide (y≤x)=false:=by simpa using d4
    go_wp2;go_quiet (fail)
    go_wp2;go_roundw
    case rel=>exact⟨j+1,by omega,by go_num,ah (by rw[HS.out,HJ.out];have h9:=HH.out;rw[HJ.out]at h9;exact(qZ _ x y).2 ⟨h9,by omega⟩),below_drewN hb _⟩
    case measure=>simp[intOf];omega
  ·have Lg:¬ ((j+1:Nat):Int)<l.length:=by omega
   go_wp2;go_ret;exact⟨aH (by symm;rw[decide_eq_true_iff];have:=HH.out;rw[List.take_of_length_le (by omega)]at this;exact this),hb⟩
def lT (a b:List Rg):Bool:=a.any fun x=>b.any fun y=>decide (x.1<y.2)&&decide (y.1<x.2)
theorem Qv (va vb:Value) (a b:List Rg) (w:World) (ha:fD w va a) (hb:fD w vb b):
  Calls Tryz.prog 102 #[va,vb] w fun e w'=>e= .returned (.bool (lT a b))∧Below w.heap.size w w':=by
 obtain⟨ao,cap,rfl,dO,hm⟩:=Sl.shape ha;obtain⟨bo,cbp,rfl,ai5,hmb⟩:=Sl.shape hb
 go_enter Tryz.func102,Tryz.ntmps102
 go_wp2
 go_loopw[5,6] (fun i _j wr=>∃k:Nat,k≤a.length∧i= .int .i64 k∧Hid (lT (a.take k) b=false)∧Below w.heap.size w wr) (fun i _ _=>a.length-(intOf i).toNat)
 case atStart=>exact⟨0,Nat.zero_le _,rfl,ah rfl,aL _ _⟩
 case round=>
  obtain⟨k,hk,rfl,HM,kZ⟩:=hrel;by_cases bA:k<a.length
  ·have jK:(k:Int)<a.length:=by omega
   have HS:=ah (aS a k bA);have HA:=ah (fun V (hV:Below w.heap.size w V)=>ha.pair hV (aC _) k bA)
   have aas:Hid (∀j (hj:j<b.length),a[k].1<b[j].2→b[j].1<a[k].2→lT a b=true):=ah (fun j hj h1 h2=>by
    unfold lT;rw[List.any_eq_true];refine⟨a[k],List.getElem_mem _,?_⟩;rw[List.any_eq_true]
    exact⟨b[j],List.getElem_mem _,by simp[h1,h2]⟩)
   have zU:Hid ((b.any fun y=>decide (a[k].1<y.2)&&decide (y.1<a[k].2))=false→lT (a.take (k+1)) b=false):=ah (fun hh=>by
    have h0:=HM.out;unfold lT at h0⊢;rw[HS.out,List.any_append,h0]
    simpa using hh)
   generalize a[k]=x at*;obtain⟨p,q⟩:=x;simp only at HA aas zU;go_upto_block 1 with fail
   go_cut[6] (fun _v6 wx=>Hid ((b.any fun y=>decide (p<y.2)&&decide (y.1<q))=false)∧Below w.heap.size w wx)
   case first=>
    go_wp2
    go_loopw[6] (fun i wr=>∃j:Nat,j≤b.length∧i= .int .i64 j∧Hid (((b.take j).any fun y=>decide (p<y.2)&&decide (y.1<q))=false)∧Below w.heap.size w wr) (fun i _=>b.length-(intOf i).toNat)
    case atStart=>exact⟨0,Nat.zero_le _,rfl,ah rfl,kZ⟩
    case round=>
     obtain⟨j,hj,rfl,HJ,hbj⟩:=hrel;by_cases oU:j<b.length
     ·have t_:(j:Int)<b.length:=by omega
      obtain⟨ab,EX,rfl,_,c0,c1⟩:=HA.out _ hbj;obtain⟨bb,ai6,rfl,_,d0,d1⟩:=hb.pair hbj (aC _) j oU;have HSJ:=ah (aS b j oU);have Yy:=ah (aas.out j oU)
      have qO:Hid (¬ (p<b[j].2∧b[j].1<q)→((b.take (j+1)).any fun y=>decide (p<y.2)&&decide (y.1<q))=false):=ah (fun hh=>by
       rw[HSJ.out,List.any_append,HJ.out];simp;intro h1
       omega)
      generalize b[j]=y at*;obtain⟨s,t⟩:=y;simp only at d0 d1 Yy qO;by_cases h1:p<t
      ·by_cases h2:s<q
       ·go_wp2
        go_quiet (fail)
        go_wp2;go_ret;exact⟨aH (Yy.out h1 h2).symm,below_drewN hbj _⟩
       ·have e2:decide (s<q)=false:=by simpa using h2
        go_wp2;go_quiet (fail)
        go_wp2;go_roundw
        case rel=>exact⟨j+1,by omega,by go_num,ah (qO.out (fun e=>by have:=e.2;omega)),below_drewN hbj _⟩
        case measure=>simp[intOf];omega
      ·have e1:decide (p<t)=false:=by simpa using h1
       go_wp2;go_quiet (fail)
       go_wp2;go_roundw
       case rel=>exact⟨j+1,by omega,by go_num,ah (qO.out (fun e=>by have:=e.1;omega)),below_drewN hbj _⟩
       case measure=>simp[intOf];omega
     ·have t_:¬ (j:Int)<b.length:=by omega
      have HJ2:=HJ.out;rw[List.take_of_length_le (by omega)]at HJ2;have HJ3:=ah HJ2;clear HJ2;go_wp2;go_meet;exact⟨HJ3,hbj⟩
   case rest=>
   obtain⟨HE,Em⟩:=hcut;go_wp2;go_roundw
   case rel=>exact⟨k+1,by omega,by go_num,ah (zU.out HE.out),Em⟩
   case measure=>simp[intOf];omega
  ·have jK:¬ (k:Int)<a.length:=by omega
   go_wp2;go_ret;exact⟨aH (by have:=HM.out;rw[List.take_of_length_le (by omega)]at this;exact this.symm),kZ⟩
theorem EY (v:Value) (l:List Rg) (n:Int) (w:World) (h:fD w v l) (hs:Small l) (hl:l.length<1000000) (h1:dG l<n):
  Calls Tryz.prog 116 #[v,.int .i64 n] w fun e w'=>e= .returned (.tuple #[.slice none 0 0,.slice none 0 0,.int .i64 14])∧Below w.heap.size w w':=by
 have h0:=(kR l hs).1;have d0:decide (n<0)=false:=by simp;omega
 go_enter Tryz.func116,Tryz.ntmps116
 go_wp2_with fail
 refine(Hg _ _ _ h hs hl).mono ?_;rintro e w0 ⟨rfl,sj⟩;go_wp2
 go_ret3
 exact⟨rfl,sj⟩
structure Wq (w W:World) (x:dN) (y:cB) (wn:Wn):Prop where
 bC:Below w.heap.size w W
 k3:W.heap[w.heap.size]? =some (.cells #[x.c.v,x.f.v,x.l.v,x.b.v] 30 (0,0))
 k4:W.heap[w.heap.size+1]? =some (.cells #[.int .i64 y.dev,.int .i64 y.epoch,.int .i64 y.bU,.int .i64 y.last,y.s.v,y.i.v,y.u.v] 48 (0,0))
 k5:W.heap[w.heap.size+1+1]? =some (.cells #[.string wn.key,.int .i64 wn.up,.int .i64 wn.down,.int .i64 wn.ids] 65 (0,0))
 k6:W.heap[w.heap.size+1+1+1]? =some (.cells #[.slice none 0 0,.slice none 0 0,.slice none 0 0,.slice none 0 0] 30 (0,0))
 k7:W.heap[w.heap.size+1+1+1+1]? =some (.cells #[.int .i64 0,.int .i64 0,.int .i64 0,.int .i64 0,.slice none 0 0,.slice none 0 0,.slice none 0 0] 48 (0,0))
theorem Wq.keep {w W W':World} {x:dN} {y:cB} {wn:Wn} (h:Wq w W x y wn) (hb:Below W.heap.size W W'):Wq w W' x y wn:=
 ⟨h.bC.trans (hb.mono h.bC.size),aj h.k3 hb (bq h.k3).1,aj h.k4 hb (bq h.k4).1,aj h.k5 hb (bq h.k5).1,aj h.k6 hb (bq h.k6).1,aj h.k7 hb (bq h.k7).1⟩
theorem Ht (w:World) (x:dN) (y:cB) (wn:Wn):∃W5,(((((w.alloc (.cells #[x.c.v,x.f.v,x.l.v,x.b.v] 30)).alloc (.cells #[.int .i64 y.dev,.int .i64 y.epoch,.int .i64 y.bU,.int .i64 y.last,y.s.v,y.i.v,y.u.v] 48)).alloc (.cells #[.string wn.key,.int .i64 wn.up,.int .i64 wn.down,.int .i64 wn.ids] 65)).alloc (.cells #[.slice none 0 0,.slice none 0 0,.slice none 0 0,.slice none 0 0] 30)).alloc (.cells #[.int .i64 0,.int .i64 0,.int .i64 0,.int .i64 0,.slice none 0 0,.slice none 0 0,.slice none 0 0] 48))=W5∧Wq w W5 x y wn:=by
 obtain⟨W3,zY,k0,k1,k2,hb,hz⟩:=yA w (.cells #[x.c.v,x.f.v,x.l.v,x.b.v] 30) (.cells #[.int .i64 y.dev,.int .i64 y.epoch,.int .i64 y.bU,.int .i64 y.last,y.s.v,y.i.v,y.u.v] 48) (.cells #[.string wn.key,.int .i64 wn.up,.int .i64 wn.down,.int .i64 wn.ids] 65);rw[zY];have bO:Below W3.heap.size W3 ((W3.alloc (.cells #[.slice none 0 0,.slice none 0 0,.slice none 0 0,.slice none 0 0] 30)).alloc (.cells #[.int .i64 0,.int .i64 0,.int .i64 0,.int .i64 0,.slice none 0 0,.slice none 0 0,.slice none 0 0] 48)):=((aL _ _).alloc (aC _) _).alloc (by simp) _;have oO:w.heap.size+3=W3.heap.size:=hz.symm;refine⟨_,rfl,hb.trans (bO.mono hb.size),aj k0 bO (by omega),aj k1 bO (by omega),aj k2 bO (by omega),?_,?_⟩
 ·rw[show w.heap.size+1+1+1=W3.heap.size by omega]
  exact aj (heap_alloc_new W3 _) ((aL _ _).alloc (aC _) _) (by simp)
 ·rw[show w.heap.size+1+1+1+1=W3.heap.size+1 by omega]
  exact bL _ _ _
structure Rr (w0 W:World) (x:dN) (b:Bk) (y:cB) (l:Ls):Prop where
 bC:Below w0.heap.size w0 W
 rc:Ab w0 W 54 7 x.c.v b.cs.length (aJ kY b.cs)
 rf:Ab w0 W 56 2 x.f.v b.free.length (aR b.free)
 rl:Ei w0 x.l.v b.ls
 rb:jv w0 x.b.v b.bound
 rs:Ab w0 W 88 5 y.s.v l.sl.length (aJ jL l.sl)
 ri:Ab w0 W 56 2 y.i.v l.ids.length (aR l.ids)
 ru:jv w0 y.u.v l.used
 dev:y.dev=l.dev
 epoch:y.epoch=l.epoch
 bU:y.bU=l.bU
 last:y.last=l.last
section
variable {w0 W W':World} {x:dN} {b:Bk} {y:cB} {l:Ls}
theorem Rr.begin (hb:iA w0 x b) (hl:nV w0 y l) (h:Below w0.heap.size w0 W):Rr w0 W x b y l:=⟨h,.inl hb.c,.inl hb.f,hb.l,hb.b,.inl hl.s,.inl hl.i,hl.u,hl.dev,hl.epoch,hl.bU,hl.last⟩
theorem Rr.bk (h:Rr w0 W x b y l):iA W x b:=⟨h.rc.sl h.bC,h.rf.sl h.bC,h.rl.keep h.bC (aC _),jv.keep h.rb h.bC (aC _)⟩
theorem Rr.ls (h:Rr w0 W x b y l):nV W y l:=⟨h.dev,h.epoch,h.bU,h.last,h.rs.sl h.bC,h.ri.sl h.bC,jv.keep h.ru h.bC (aC _)⟩
theorem Rr.keep (h:Rr w0 W x b y l) (hb:Below W.heap.size W W'):Rr w0 W' x b y l:=⟨h.bC.trans (hb.mono h.bC.size),h.rc.keep hb,h.rf.keep hb,h.rl,h.rb,h.rs.keep hb,h.ri.keep hb,h.ru,h.dev,h.epoch,h.bU,h.last⟩
theorem Rr.other {T':TypeId} {g:Nat} {cur:Array Value} {z:Nat×Nat} (h:Rr w0 W x b y l) (hb:Below w0.heap.size w0 W') (aK:∀b,b≠g→W'.heap[b]? =W.heap[b]?) (hg:W.heap[g]? =some (.cells cur T' z)) (h1: 54 ≠T') (h2: 56 ≠T') (h3: 88 ≠T'):Rr w0 W' x b y l:=
 ⟨hb,h.rc.other aK hg h1,h.rf.other aK hg h2,h.rl,h.rb,h.rs.other aK hg h3,h.ri.other aK hg h2,h.ru,h.dev,h.epoch,h.bU,h.last⟩
end
def kV (gW w:World) (b:Bk) (l:Ls) (wn:Wn) (e:Ending) (w':World):Prop:=∃ (x':dN) (y':cB),e= .returned (.tuple #[iJ x',o9 y',.int .i64 (dY b wn)])∧Below w.heap.size w w'∧(dY b wn=0→Rr gW w' x' (iG b wn) y' (jG b l wn))
structure Hu (b:Bk) (l:Ls) (wn:Wn):Prop where
 nc:b.cs.length<1000
 nf:b.free.length<10000
 ns:l.sl.length<1000
 ni:l.ids.length<10000
 key:∀c∈b.cs,emp c.key=false
 new:emp wn.key=false→ ∀s∈l.sl,s.key≠wn.key
 fr:dw b.free
 row:dw l.ids
 ct:Jy 2199023255552 b.cs
structure Wr (w W:World) (x:dN) (y:cB):Prop where
 bC:Below w.heap.size w W
 k4:W.heap[w.heap.size+1]? =some (.cells #[.int .i64 y.dev,.int .i64 y.epoch,.int .i64 y.bU,.int .i64 y.last,y.s.v,y.i.v,y.u.v] 48 (0,0))
 k6:W.heap[w.heap.size+1+1+1]? =some (.cells #[x.c.v,x.f.v,x.l.v,x.b.v] 30 (0,0))
 k7:W.heap[w.heap.size+1+1+1+1]? =some (.cells #[.int .i64 0,.int .i64 0,.int .i64 0,.int .i64 0,.slice none 0 0,.slice none 0 0,.slice none 0 0] 48 (0,0))
structure Wz (w W:World) (x:dN) (y:cB):Prop where
 bC:Below w.heap.size w W
 k6:W.heap[w.heap.size+1+1+1]? =some (.cells #[x.c.v,x.f.v,x.l.v,x.b.v] 30 (0,0))
 k7:W.heap[w.heap.size+1+1+1+1]? =some (.cells #[.int .i64 y.dev,.int .i64 y.epoch,.int .i64 y.bU,.int .i64 y.last,y.s.v,y.i.v,y.u.v] 48 (0,0))
theorem qD {w W:World} {x:dN} {y:cB} {wn:Wn} (h:Wq w W x y wn):Wr w ((((W.drew.setCell ⟨w.heap.size+1+1+1,0,none⟩ x.c.v).setCell ⟨w.heap.size+1+1+1,1,none⟩ x.f.v).setCell ⟨w.heap.size+1+1+1,2,none⟩ x.l.v).setCell ⟨w.heap.size+1+1+1,3,none⟩ x.b.v) x y:=by
 refine⟨((((h.bC.drew).setCell (p:=⟨w.heap.size+1+1+1,0,none⟩) (by simp;omega) _).setCell (p:=⟨w.heap.size+1+1+1,1,none⟩) (by simp;omega) _).setCell (p:=⟨w.heap.size+1+1+1,2,none⟩) (by simp;omega) _).setCell (p:=⟨w.heap.size+1+1+1,3,none⟩) (by simp;omega) _,?_,?_,?_⟩
 ·rw[aX _ _ _ (by simp;omega),aX _ _ _ (by simp;omega),aX _ _ _ (by simp;omega),aX _ _ _ (by simp;omega)]
  exact h.k4
 ·have h6:W.drew.heap[w.heap.size+1+1+1]? =_:=h.k6
  simp[World.setCell,Array.getElem?_modify,h6]
 ·rw[aX _ _ _ (by simp),aX _ _ _ (by simp),aX _ _ _ (by simp),aX _ _ _ (by simp)]
  exact h.k7
theorem i_ {w W:World} {x:dN} {y:cB} (h:Wr w W x y):Wz w ((((((((W).setCell ⟨w.heap.size+1+1+1+1,0,none⟩ (.int .i64 y.dev)).setCell ⟨w.heap.size+1+1+1+1,1,none⟩ (.int .i64 y.epoch)).setCell ⟨w.heap.size+1+1+1+1,2,none⟩ (.int .i64 y.bU)).setCell ⟨w.heap.size+1+1+1+1,3,none⟩ (.int .i64 y.last)).setCell ⟨w.heap.size+1+1+1+1,4,none⟩ y.s.v).setCell ⟨w.heap.size+1+1+1+1,5,none⟩ y.i.v).setCell ⟨w.heap.size+1+1+1+1,6,none⟩ y.u.v) x y:=by
 refine⟨(((((((h.bC.setCell (p:=⟨w.heap.size+1+1+1+1,0,none⟩) (by simp;omega) _).setCell (p:=⟨w.heap.size+1+1+1+1,1,none⟩) (by simp;omega) _).setCell (p:=⟨w.heap.size+1+1+1+1,2,none⟩) (by simp;omega) _).setCell (p:=⟨w.heap.size+1+1+1+1,3,none⟩) (by simp;omega) _).setCell (p:=⟨w.heap.size+1+1+1+1,4,none⟩) (by simp;omega) _).setCell (p:=⟨w.heap.size+1+1+1+1,5,none⟩) (by simp;omega) _).setCell (p:=⟨w.heap.size+1+1+1+1,6,none⟩) (by simp;omega) _),?_,qy h.k7 _ _ _ _ _ _ _⟩;rw[aX _ _ _ (by simp),aX _ _ _ (by simp),aX _ _ _ (by simp),aX _ _ _ (by simp),aX _ _ _ (by simp),aX _ _ _ (by simp),aX _ _ _ (by simp)];exact h.k6
theorem kN (w:World) (p q r s:Addr) (a b c d:Value):((((w.setCell p a).setCell q b).setCell r c).setCell s d).drew=(((w.drew.setCell p a).setCell q b).setCell r c).setCell s d:=rfl
theorem rG (k:ByteArray) (a b c:Int):(!(wJ ⟨k,a,b,c⟩))=(decide (a<0)||decide (2199023255552<a)||decide (b<0)||decide (2199023255552<b)||decide (c<0)||decide (50<c)):=by
 unfold wJ;rw[Bool.eq_iff_iff];simp;omega
def spine:Nat→Code→Option Code
 | 0,c=>some c
 | n+1,.seq _ b=>spine n b
 | _,_=>none
theorem dP {P:Program} {b:Option Code} {k:Nat} {c':Code} {Q:Exit→Act→World→Prop} {a:Act} {w:World} (h:b.bind (spine k)=some c') (hw:Code.wp P c' Q a w):∀c,b.bind (spine k)=some c→Code.wp P c Q a w:=by
 intro c hc;rw[h]at hc;injection hc with hc;subst hc;exact hw
theorem EZ {P:Program} {w:World} {o:Oper} {a:Act} {K:Act→World→Prop} {Q:Exit→Act→World→Prop} (s x:Operand) (t:TypeId)
  (ho:o.op= .call { callee:=.builtin .append,args:= #[s,x],argTypes:= #[t,t] })
  (base:Nat) (e:TypeId) (i:TypeInfo) (z:Value) (size bytes:Nat) (ht:P.underlying t=some (.slice e)) (hi:P.info? e=some i) (hz:i.zero=some z)
  (hsize:i.size=size) (hby:i.bytes=bytes) (zS:z.cells.size=size) (mK:0<size)
  (v:Value) (n:Nat) (xs:List Value) (hs:a.eval s=v) (dD:w.ownsRow base e size v n xs)
  (ao:Option Addr) (m c:Nat) (news:List Value) (hx:a.eval x= .slice ao m c) (hl:news.length=m*size) (fZ:Rd w ao news) (h1:∀u∈news,u.oneCell'=true)
  (h63:n+m≤maxLen) (hbytes:(n+m)*bytes≤140737488355328) (gM:base≤w.heap.size)
  (h:∀v' w',w'.ownsRow base e size v' (n+m) (xs++news)→w.grownBy w' v.ownBlock→(v'.ownBlock=v.ownBlock∨v'.ownBlock=some w.heap.size)→K (a.put o.dst v') w'):Oper.wp P o a w K Q:=by
 rcases ao with _ | ad
 ·have hm:news= []:=by
   cases news with
   | nil=>rfl
   | cons u r=>obtain⟨a,ha,_⟩:=fZ 0 u rfl;cases ha
  subst hm
  have hm:m=0:=by
   have:m*size=0:=by simpa using hl.symm
   rcases Nat.mul_eq_zero.1 this with h | h<;>omega
  subst hm;have mg:=nI (P:=P) w base t o.type e i size ht hi v n xs dD c;unfold Oper.wp;simp[execOp,ho,resolve,invoke,builtin,hs,hx,mg,Result.andThen];exact h v w (by simpa using dD) (World.grownBy.refl _ _) (.inl rfl)
 ·obtain⟨v',w',hr,h2,h3,_,h5⟩:=run_append_own_at (P:=P) w base t o.type e i _ size bytes ht hi hz hsize hby zS mK v n _ dD ad m c news hl (fun j u hj=>by obtain⟨a',ha,hc⟩:=fZ j u hj;injection ha with ha;subst ha;exact hc) h1 h63 hbytes gM
  unfold Oper.wp execOp;simp only[ho,resolve,invoke,builtin,Sem.run_bind,Sem.run_pure,Result.andThen_ok,List.map_toArray,List.map_cons,List.map_nil,hs,hx,hr];exact h v' w' h2 h3 h5
theorem jg {o:Oper} {a:Act} {w:World} {K:Act→World→Prop} {Q:Exit→Act→World→Prop} (s x:Operand)
  (ho:o.op= .call { callee:=.builtin .append,args:= #[s,x],argTypes:= #[46,46] })
  (base:Nat) (v:Value) (n:Nat) (l:List Sc) (hs:a.eval s=v) (dD:w.ownsRow base 88 5 v n (aJ jL l))
  (ao:Option Addr) (m c:Nat) (p:List Sc) (hx:a.eval x= .slice ao m c) (hm:p.length=m) (fZ:Rd w ao (aJ jL p))
  (hn:n+m<1000000000) (gM:base≤w.heap.size)
  (h:∀v' w',w'.ownsRow base 88 5 v' (n+m) (aJ jL (l++p))→w.grownBy w' v.ownBlock→(v'.ownBlock=v.ownBlock∨v'.ownBlock=some w.heap.size)→K (a.put o.dst v') w'):Oper.wp Tryz.prog o a w K Q:=by
 obtain⟨i,hi,kK,dX,f_⟩:=info_parts Tryz.I4;refine EZ s x 46 ho base 88 i _ 5 48 Tryz.underlying46 hi kK dX f_ rfl (by decide) v n _ hs dD ao m c (aJ jL p) hx (by rw[bP gQ,hm]) fZ (gu Ef p) (by unfold maxLen;omega) (by omega) gM ?_;intro v' w' h1 h2 h3;exact h v' w' (by rw[fE];exact h1) h2 h3
def E5 (n:Nat) (W W':World):Prop:=∀c,c<n→W'.heap[c]? =W.heap[c]?
structure Rt (gW w0 W:World) (x:dN) (b:Bk) (y:cB) (l:Ls) (wn:Wn):Prop where
 le:gW.heap.size≤w0.heap.size
 q:Wq w0 W x y wn
 r:Rr gW W x b y l
section
variable {gW w0 W W':World} {x:dN} {b:Bk} {y:cB} {l:Ls} {wn:Wn}
theorem Rt.keep (h:Rt gW w0 W x b y l wn) (hb:Below W.heap.size W W'):Rt gW w0 W' x b y l wn:=⟨h.le,h.q.keep hb,h.r.keep hb⟩
theorem LH (h:Wq w0 W x y wn) (j:Nat) (u:Value) {x':dN} (hk:(W.setCell ⟨w0.heap.size,j,none⟩ u).heap[w0.heap.size]? =some (.cells #[x'.c.v,x'.f.v,x'.l.v,x'.b.v] 30 (0,0))):Wq w0 (W.setCell ⟨w0.heap.size,j,none⟩ u) x' y wn:=by
 refine⟨h.bC.setCell (aC _) _,hk,?_,?_,?_,?_⟩
 ·rw[aX _ _ _ (by simp)];exact h.k4
 ·rw[aX _ _ _ (by simp;omega)];exact h.k5
 ·rw[aX _ _ _ (by simp;omega)];exact h.k6
 ·rw[aX _ _ _ (by simp;omega)];exact h.k7
theorem LJ (h:Wq w0 W x y wn) (j:Nat) (u:Value) {y':cB} (hk:(W.setCell ⟨w0.heap.size+1,j,none⟩ u).heap[w0.heap.size+1]? =some (.cells #[.int .i64 y'.dev,.int .i64 y'.epoch,.int .i64 y'.bU,.int .i64 y'.last,y'.s.v,y'.i.v,y'.u.v] 48 (0,0))):Wq w0 (W.setCell ⟨w0.heap.size+1,j,none⟩ u) x y' wn:=by
 refine⟨h.bC.setCell (by simp) _,?_,hk,?_,?_,?_⟩
 ·rw[aX _ _ _ (by simp)];exact h.k3
 ·rw[aX _ _ _ (by simp)];exact h.k5
 ·rw[aX _ _ _ (by simp)];exact h.k6
 ·rw[aX _ _ _ (by simp)];exact h.k7
theorem Rt.Ev (h:Rt gW w0 W x b y l wn) {f':Sv} {free':List Rg} (ho:W.ownsRow w0.heap.size 56 2 f'.v free'.length (aR free')):
  Rt gW w0 (W.setCell ⟨w0.heap.size,1,none⟩ f'.v) ⟨x.c,f',x.l,x.b⟩ ⟨b.cs,free',b.ls,b.bound⟩ y l wn:=by
 have aK:∀c,c≠w0.heap.size→(W.setCell ⟨w0.heap.size,1,none⟩ f'.v).heap[c]? =W.heap[c]? :=fun c hc=>aX _ _ _ (fun e=>hc e.symm) _
 have h2:=h.r.other (h.r.bC.setCell h.le _) aK h.q.k3 (by decide) (by decide) (by decide);exact⟨h.le,LH h.q 1 _ (oC h.q.k3 _),⟨h2.bC,h2.rc,.inr (aN (aF ho aK h.q.k3 (by decide)) h.le),h2.rl,h2.rb,h2.rs,h2.ri,h2.ru,h2.dev,h2.epoch,h2.bU,h2.last⟩⟩
theorem Rt.aat (h:Rt gW w0 W x b y l wn) {c':Sv} (ho:W.ownsRow w0.heap.size 54 7 c'.v b.cs.length (aJ kY b.cs)):
  Rt gW w0 (W.setCell ⟨w0.heap.size,0,none⟩ c'.v) ⟨c',x.f,x.l,x.b⟩ b y l wn∧(W.setCell ⟨w0.heap.size,0,none⟩ c'.v).ownsRow w0.heap.size 54 7 c'.v b.cs.length (aJ kY b.cs):=by
 have aK:∀c,c≠w0.heap.size→(W.setCell ⟨w0.heap.size,0,none⟩ c'.v).heap[c]? =W.heap[c]? :=fun c hc=>aX _ _ _ (fun e=>hc e.symm) _
 have h2:=h.r.other (h.r.bC.setCell h.le _) aK h.q.k3 (by decide) (by decide) (by decide);have h3:=aF ho aK h.q.k3 (by decide);exact⟨⟨h.le,LH h.q 0 _ (ow h.q.k3 _),⟨h2.bC,.inr (aN h3 h.le),h2.rf,h2.rl,h2.rb,h2.rs,h2.ri,h2.ru,h2.dev,h2.epoch,h2.bU,h2.last⟩⟩,h3⟩
theorem Rt.Pg (h:Rt gW w0 W x b y l wn) {i':Sv} {Aw:List Rg} (ho:W.ownsRow w0.heap.size 56 2 i'.v Aw.length (aR Aw)):
  Rt gW w0 (W.setCell ⟨w0.heap.size+1,5,none⟩ i'.v) x b ⟨y.dev,y.epoch,y.bU,y.last,y.s,i',y.u⟩ ⟨l.dev,l.epoch,l.bU,l.last,l.sl,Aw,l.used⟩ wn:=by
 have aK:∀c,c≠w0.heap.size+1→(W.setCell ⟨w0.heap.size+1,5,none⟩ i'.v).heap[c]? =W.heap[c]? :=fun c hc=>aX _ _ _ (fun e=>hc e.symm) _
 have h2:=h.r.other (h.r.bC.setCell (Nat.le_trans h.le (Nat.le_succ _)) _) aK h.q.k4 (by decide) (by decide) (by decide);exact⟨h.le,LJ h.q 5 _ (Ew h.q.k4 _),⟨h2.bC,h2.rc,h2.rf,h2.rl,h2.rb,h2.rs,.inr (aN (aF ho aK h.q.k4 (by decide)) h.le),h2.ru,h2.dev,h2.epoch,h2.bU,h2.last⟩⟩
theorem Rt.GV (h:Rt gW w0 W x b y l wn) {s':Sv} {sl':List Sc} (ho:W.ownsRow w0.heap.size 88 5 s'.v sl'.length (aJ jL sl')):
  Rt gW w0 (W.setCell ⟨w0.heap.size+1,4,none⟩ s'.v) x b ⟨y.dev,y.epoch,y.bU,y.last,s',y.i,y.u⟩ ⟨l.dev,l.epoch,l.bU,l.last,sl',l.ids,l.used⟩ wn:=by
 have aK:∀c,c≠w0.heap.size+1→(W.setCell ⟨w0.heap.size+1,4,none⟩ s'.v).heap[c]? =W.heap[c]? :=fun c hc=>aX _ _ _ (fun e=>hc e.symm) _
 have h2:=h.r.other (h.r.bC.setCell (Nat.le_trans h.le (Nat.le_succ _)) _) aK h.q.k4 (by decide) (by decide) (by decide);exact⟨h.le,LJ h.q 4 _ (Jj h.q.k4 _),⟨h2.bC,h2.rc,h2.rf,h2.rl,h2.rb,.inr (aN (aF ho aK h.q.k4 (by decide)) h.le),h2.ri,h2.ru,h2.dev,h2.epoch,h2.bU,h2.last⟩⟩
theorem Rt.aau (h:Rt gW w0 W x b y l wn) {g n cap:Nat} (ho:W.ownsRow w0.heap.size 54 7 (.slice (some ⟨g,0,none⟩) n cap) b.cs.length (aJ kY b.cs)) (hx:x.c=⟨some ⟨g,0,none⟩,n,cap⟩) (k:Nat) (hk:k<b.cs.length) (u d:Int):
  Rt gW w0 ((W.setCell ⟨g,k*7+5,none⟩ (.int .i64 u)).setCell ⟨g,k*7+6,none⟩ (.int .i64 d)) x ⟨b.cs.set k ⟨b.cs[k].key,b.cs[k].coll,b.cs[k].lo,b.cs[k].hi,b.cs[k].start,u,d⟩,b.free,b.ls,b.bound⟩ y l wn:=by
 have hn:n=b.cs.length:=by
  obtain⟨_,_,he,_,_⟩:=aO ho;injection he with _ he _
 subst hn;obtain⟨cur,hg⟩:=eB ho;have hB:w0.heap.size≤g:=(bg ho).1;have hl:(aJ kY b.cs).length=b.cs.length*7:=bP fG _;have o1:=dV ho (k*7+5) (by omega) (.int .i64 u);have o2:=dV o1 (k*7+6) (by rw[List.length_set];omega) (.int .i64 d);rw[yS b.cs k hk u d]at o2
 have aK:∀c,c≠g→((W.setCell ⟨g,k*7+5,none⟩ (.int .i64 u)).setCell ⟨g,k*7+6,none⟩ (.int .i64 d)).heap[c]? =W.heap[c]? :=fun c hc=>by
  rw[aX _ _ _ (fun e=>hc e.symm),aX _ _ _ (fun e=>hc e.symm)]
 refine⟨h.le,⟨(h.q.bC.setCell hB _).setCell hB _,oG h.q.k3 aK hg (by decide),oG h.q.k4 aK hg (by decide),oG h.q.k5 aK hg (by decide),oG h.q.k6 aK hg (by decide),oG h.q.k7 aK hg (by decide)⟩,⟨(h.r.bC.setCell (Nat.le_trans h.le hB) _).setCell (Nat.le_trans h.le hB) _,.inr (aN (base:=w0.heap.size) ?_ h.le),h.r.rf.other aK hg (by decide),h.r.rl,h.r.rb,h.r.rs.other aK hg (by decide),h.r.ri.other aK hg (by decide),h.r.ru,h.r.dev,h.r.epoch,h.r.bU,h.r.last⟩⟩;rw[hx];simp only[Sv.v,List.length_set];exact o2
end
section
attribute [local go_sem ↓] Go.wp_at_zero Go.wp_at_succ
theorem DY (gW w W:World) (b0:Bk) (l0:Ls) (wn:Wn) (x:dN) (y:cB) (h:Rt gW w W x (iG b0 wn) y (jG b0 l0 wn) wn) (he:dY b0 wn=0) {u0 u1 u2 u8 u9 u10 u11 u12 u13 u14 u15 u16 u17 u18 u19 u20 u21 u22 u23 u24 u25 u26 u27 u28 u29 u30 u31 u32 u33 u34 u35 u36 u37 u38 u39 u40 u41 u42 u43 u44 u45 u46 u47 u48 u49 u50 u51 u52 u53 u54 u55 u56 u57 u58 u59 u60 u61 u62 u63 u64 u65 u66 u67 u68 u69 u70 u71 u72 u73 u74 u75 u76 u77 u78 u79 u80 u81 u82 u83 u84 u85 u86 u87 u88 u89 u90 u91 u92 u93 u94 u95 u96 u97 u98 u99 u100 u101 u102 u103 u104 u105 u106 u107 u108 u109 u110 u111 u112 u113 u114 u115 u116 u117 u118 u119 u120 u121 u122 u123 u124 u125 u126 u127 u128 u129 u130 u131 u132 u133 u134 u135 u136 u137 u138 u139 u140 u141 u142 u143 u144 u145 u146 u147 u148 u149 u150 u151 u152 u153 u154 u155 u156 u157 u158 u159 u160 u161 u162 u163 u164 u165 u166 u167 u168 u169 u170 u171 u172 u173 u174 u175 u176 u177 u178 u179 u180 u181 u182 u183 u184 u185 u186 u187 u188 u189 u190 u191 u192 u193 u194 u195 u196 u197 u198 u199 u200 u201 u202:Value}:
  ∀c,Tryz.f78.body.bind (spine 12)=some c→Code.wp Tryz.prog c (bodyPost Tryz.prog Tryz.f78 (kV gW w b0 l0 wn)) ⟨#[u0,u1,u2,.pointer (some ⟨w.heap.size,0,none⟩),.pointer (some ⟨w.heap.size+1,0,none⟩),.pointer (some ⟨w.heap.size+1+1,0,none⟩),.pointer (some ⟨w.heap.size+1+1+1,0,none⟩),.pointer (some ⟨w.heap.size+1+1+1+1,0,none⟩),u8,u9,u10,u11,u12,u13,u14,u15,u16,u17,u18,u19,u20,u21,u22,u23,u24,u25,u26,u27,u28,u29,u30,u31,u32,u33,u34,u35,u36,u37,u38,u39,u40,u41,u42,u43,u44,u45,u46,u47,u48,u49,u50,u51,u52,u53,u54,u55,u56,u57,u58,u59,u60,u61,u62,u63,u64,u65,u66,u67,u68,u69,u70,u71,u72,u73,u74,u75,u76,u77,u78,u79,u80,u81,u82,u83,u84,u85,u86,u87,u88,u89,u90,u91,u92,u93,u94,u95,u96,u97,u98,u99,u100,u101,u102,u103,u104,u105,u106,u107,u108,u109,u110,u111,u112,u113,u114,u115,u116,u117,u118,u119,u120,u121,u122,u123,u124,u125,u126,u127,u128,u129,u130,u131,u132,u133,u134,u135,u136,u137,u138,u139,u140,u141,u142,u143,u144,u145,u146,u147,u148,u149,u150,u151,u152,u153,u154,u155,u156,u157,u158,u159,u160,u161,u162,u163,u164,u165,u166,u167,u168,u169,u170,u171,u172,u173,u174,u175,u176,u177,u178,u179,u180,u181,u182,u183,u184,u185,u186,u187,u188,u189,u190,u191,u192,u193,u194,u195,u196,u197,u198,u199,u200,u201,u202],[]⟩ W:=by
 refine dP rfl ?_;obtain⟨⟨ca,cn,cc⟩,⟨fa,bD,fc⟩,⟨la,ln,lc⟩,⟨ba,bE,bc⟩⟩:=x;obtain⟨y1,y2,y3,y4,⟨y5,y6,y7⟩,⟨y8,y9,dz⟩,⟨dA,dJ,cK⟩⟩:=y;have HQ:=ah h.q;have HR:=ah h.r;have xI:=h.le;have HE:=ah he;clear h he;go_upto_region 27 with fail
 refine aW 2 (fun w'=>Below W.heap.size W w') (by kernel_rfl) ?_;have aQ:Below W.heap.size W W.drew:=(aL _ _).drew;refine aP (i:=0) (v:=.agg #[.slice ca cn cc,.slice fa bD fc,.slice la ln lc,.slice ba bE bc]) rfl rfl (by kernel_rfl) (fun _ _ _ h=>h) (.inl ⟨rfl,fun w' hw=>?_⟩) aQ ?_
 ·obtain⟨a0,a1,a2,a3,_⟩:=ay (HQ.out.keep hw).k3
  simp only[Sv.v]at a0 a1 a2 a3;go_simp
 obtain⟨a0,a1,a2,a3,_⟩:=ay HQ.out.k6;have f0:=aA HQ.out.k6 0;have f1:=aA HQ.out.k6 1;have f2:=aA HQ.out.k6 2;have f3:=aA HQ.out.k6 3;have H6:=ah (qD HQ.out);have R9:=ah ((HR.out.keep (aL _ _).drew).other (W':=(((((W).drew.setCell ⟨w.heap.size+1+1+1,0,none⟩ (.slice ca cn cc)).setCell ⟨w.heap.size+1+1+1,1,none⟩ (.slice fa bD fc)).setCell ⟨w.heap.size+1+1+1,2,none⟩ (.slice la ln lc)).setCell ⟨w.heap.size+1+1+1,3,none⟩ (.slice ba bE bc))) (((((HR.out.bC.drew).setCell (p:=⟨w.heap.size+1+1+1,0,none⟩) (by simp;omega) _).setCell (p:=⟨w.heap.size+1+1+1,1,none⟩) (by simp;omega) _).setCell (p:=⟨w.heap.size+1+1+1,2,none⟩) (by simp;omega) _).setCell (p:=⟨w.heap.size+1+1+1,3,none⟩) (by simp;omega) _) (fun c hc=>bM W.drew (w.heap.size+1+1+1) c (fun e=>hc e.symm) _ _ _ _ 0 1 2 3) (show W.drew.heap[w.heap.size+1+1+1]? =_ from HQ.out.k6) (by decide) (by decide) (by decide));simp only[Sv.v]at H6;obtain⟨e0,e1,e2,e3,e4,e5,e6,_⟩:=aB HQ.out.k4;simp only[Sv.v]at e4 e5 e6;refine iZ (i:=1) (j:=2) (by kernel_rfl) rfl rfl rfl rfl ?_ ?_
 ·go_simp
  refine aD (i:=2) (by kernel_rfl) rfl rfl ?_;go_simp
  try rw[kN]
  generalize (((((W).drew.setCell ⟨w.heap.size+1+1+1,0,none⟩ (.slice ca cn cc)).setCell ⟨w.heap.size+1+1+1,1,none⟩ (.slice fa bD fc)).setCell ⟨w.heap.size+1+1+1,2,none⟩ (.slice la ln lc)).setCell ⟨w.heap.size+1+1+1,3,none⟩ (.slice ba bE bc))=W6 at*;clear a0 a1 a2 a3 f0 f1 f2 f3;obtain⟨b0,b1,b2,b3,b4,b5,b6,_⟩:=aB H6.out.k7;have g0:=ak H6.out.k7 0;have g1:=ak H6.out.k7 1;have g2:=ak H6.out.k7 2;have g3:=ak H6.out.k7 3;have g4:=ak H6.out.k7 4;have g5:=ak H6.out.k7 5;have g6:=ak H6.out.k7 6;refine aD (i:=3) (by kernel_rfl) rfl rfl ?_;go_simp;have Cc:=ah (R9.out.other (W':=(((((((W6.setCell ⟨w.heap.size+1+1+1+1,0,none⟩ (.int .i64 y1)).setCell ⟨w.heap.size+1+1+1+1,1,none⟩ (.int .i64 y2)).setCell ⟨w.heap.size+1+1+1+1,2,none⟩ (.int .i64 y3)).setCell ⟨w.heap.size+1+1+1+1,3,none⟩ (.int .i64 y4)).setCell ⟨w.heap.size+1+1+1+1,4,none⟩ (.slice y5 y6 y7)).setCell ⟨w.heap.size+1+1+1+1,5,none⟩ (.slice y8 y9 dz)).setCell ⟨w.heap.size+1+1+1+1,6,none⟩ (.slice dA dJ cK))) (((((((R9.out.bC.setCell (p:=⟨w.heap.size+1+1+1+1,0,none⟩) (by simp;omega) _).setCell (p:=⟨w.heap.size+1+1+1+1,1,none⟩) (by simp;omega) _).setCell (p:=⟨w.heap.size+1+1+1+1,2,none⟩) (by simp;omega) _).setCell (p:=⟨w.heap.size+1+1+1+1,3,none⟩) (by simp;omega) _).setCell (p:=⟨w.heap.size+1+1+1+1,4,none⟩) (by simp;omega) _).setCell (p:=⟨w.heap.size+1+1+1+1,5,none⟩) (by simp;omega) _).setCell (p:=⟨w.heap.size+1+1+1+1,6,none⟩) (by simp;omega) _) (fun c hc=>kC W6 (w.heap.size+1+1+1+1) c hc _ _ _ _ _ _ _) H6.out.k7 (by decide) (by decide) (by decide));have H7:=ah (i_ (x:=⟨⟨ca,cn,cc⟩,⟨fa,bD,fc⟩,⟨la,ln,lc⟩,⟨ba,bE,bc⟩⟩) (y:=⟨y1,y2,y3,y4,⟨y5,y6,y7⟩,⟨y8,y9,dz⟩,⟨dA,dJ,cK⟩⟩) H6.out);simp only[Sv.v]at H7;generalize (((((((W6.setCell ⟨w.heap.size+1+1+1+1,0,none⟩ (.int .i64 y1)).setCell ⟨w.heap.size+1+1+1+1,1,none⟩ (.int .i64 y2)).setCell ⟨w.heap.size+1+1+1+1,2,none⟩ (.int .i64 y3)).setCell ⟨w.heap.size+1+1+1+1,3,none⟩ (.int .i64 y4)).setCell ⟨w.heap.size+1+1+1+1,4,none⟩ (.slice y5 y6 y7)).setCell ⟨w.heap.size+1+1+1+1,5,none⟩ (.slice y8 y9 dz)).setCell ⟨w.heap.size+1+1+1+1,6,none⟩ (.slice dA dJ cK))=W7 at*;clear b0 b1 b2 b3 b4 b5 b6 g0 g1 g2 g3 g4 g5 g6;refine aD (i:=4) (by kernel_rfl) rfl rfl ?_;go_simp;refine aU (by kernel_rfl) ?_;obtain⟨a0,a1,a2,a3,_⟩:=ay H7.out.k6;obtain⟨b0,b1,b2,b3,b4,b5,b6,_⟩:=aB H7.out.k7;simp only[Sv.v]at a0 a1 a2 a3 b4 b5 b6;go_wp2;refine bodyPost_ret (v:=.tuple #[.agg #[.slice ca cn cc,.slice fa bD fc,.slice la ln lc,.slice ba bE bc],.agg #[.int .i64 y1,.int .i64 y2,.int .i64 y3,.int .i64 y4,.slice y5 y6 y7,.slice y8 y9 dz,.slice dA dJ cK],.int .i64 0]) (by simp[results,Tryz.results78,go_sem, *]) rfl (show kV _ _ _ _ _ _ _ from ?_);exact⟨⟨⟨ca,cn,cc⟩,⟨fa,bD,fc⟩,⟨la,ln,lc⟩,⟨ba,bE,bc⟩⟩,⟨y1,y2,y3,y4,⟨y5,y6,y7⟩,⟨y8,y9,dz⟩,⟨dA,dJ,cK⟩⟩,by rw[HE.out],H7.out.bC,fun _=>Cc.out⟩
 ·go_simp
  try rw[kN]
  generalize (((((W).drew.setCell ⟨w.heap.size+1+1+1,0,none⟩ (.slice ca cn cc)).setCell ⟨w.heap.size+1+1+1,1,none⟩ (.slice fa bD fc)).setCell ⟨w.heap.size+1+1+1,2,none⟩ (.slice la ln lc)).setCell ⟨w.heap.size+1+1+1,3,none⟩ (.slice ba bE bc))=W6 at*;clear a0 a1 a2 a3 f0 f1 f2 f3 e0 e1 e2 e3 e4 e5 e6;obtain⟨e0,e1,e2,e3,e4,e5,e6,_⟩:=aB H6.out.k4;simp only[Sv.v]at e4 e5 e6;refine aD (i:=1) (by kernel_rfl) rfl rfl ?_;go_simp;obtain⟨b0,b1,b2,b3,b4,b5,b6,_⟩:=aB H6.out.k7;have g0:=ak H6.out.k7 0;have g1:=ak H6.out.k7 1;have g2:=ak H6.out.k7 2;have g3:=ak H6.out.k7 3;have g4:=ak H6.out.k7 4;have g5:=ak H6.out.k7 5;have g6:=ak H6.out.k7 6;refine aD (i:=3) (by kernel_rfl) rfl rfl ?_;go_simp;have Cc:=ah (R9.out.other (W':=(((((((W6.setCell ⟨w.heap.size+1+1+1+1,0,none⟩ (.int .i64 y1)).setCell ⟨w.heap.size+1+1+1+1,1,none⟩ (.int .i64 y2)).setCell ⟨w.heap.size+1+1+1+1,2,none⟩ (.int .i64 y3)).setCell ⟨w.heap.size+1+1+1+1,3,none⟩ (.int .i64 y4)).setCell ⟨w.heap.size+1+1+1+1,4,none⟩ (.slice y5 y6 y7)).setCell ⟨w.heap.size+1+1+1+1,5,none⟩ (.slice y8 y9 dz)).setCell ⟨w.heap.size+1+1+1+1,6,none⟩ (.slice dA dJ cK))) (((((((R9.out.bC.setCell (p:=⟨w.heap.size+1+1+1+1,0,none⟩) (by simp;omega) _).setCell (p:=⟨w.heap.size+1+1+1+1,1,none⟩) (by simp;omega) _).setCell (p:=⟨w.heap.size+1+1+1+1,2,none⟩) (by simp;omega) _).setCell (p:=⟨w.heap.size+1+1+1+1,3,none⟩) (by simp;omega) _).setCell (p:=⟨w.heap.size+1+1+1+1,4,none⟩) (by simp;omega) _).setCell (p:=⟨w.heap.size+1+1+1+1,5,none⟩) (by simp;omega) _).setCell (p:=⟨w.heap.size+1+1+1+1,6,none⟩) (by simp;omega) _) (fun c hc=>kC W6 (w.heap.size+1+1+1+1) c hc _ _ _ _ _ _ _) H6.out.k7 (by decide) (by decide) (by decide));have H7:=ah (i_ (x:=⟨⟨ca,cn,cc⟩,⟨fa,bD,fc⟩,⟨la,ln,lc⟩,⟨ba,bE,bc⟩⟩) (y:=⟨y1,y2,y3,y4,⟨y5,y6,y7⟩,⟨y8,y9,dz⟩,⟨dA,dJ,cK⟩⟩) H6.out);simp only[Sv.v]at H7;generalize (((((((W6.setCell ⟨w.heap.size+1+1+1+1,0,none⟩ (.int .i64 y1)).setCell ⟨w.heap.size+1+1+1+1,1,none⟩ (.int .i64 y2)).setCell ⟨w.heap.size+1+1+1+1,2,none⟩ (.int .i64 y3)).setCell ⟨w.heap.size+1+1+1+1,3,none⟩ (.int .i64 y4)).setCell ⟨w.heap.size+1+1+1+1,4,none⟩ (.slice y5 y6 y7)).setCell ⟨w.heap.size+1+1+1+1,5,none⟩ (.slice y8 y9 dz)).setCell ⟨w.heap.size+1+1+1+1,6,none⟩ (.slice dA dJ cK))=W7 at*;clear b0 b1 b2 b3 b4 b5 b6 g0 g1 g2 g3 g4 g5 g6;refine aD (i:=4) (by kernel_rfl) rfl rfl ?_;go_simp;refine aU (by kernel_rfl) ?_;obtain⟨a0,a1,a2,a3,_⟩:=ay H7.out.k6;obtain⟨b0,b1,b2,b3,b4,b5,b6,_⟩:=aB H7.out.k7;simp only[Sv.v]at a0 a1 a2 a3 b4 b5 b6;go_wp2;refine bodyPost_ret (v:=.tuple #[.agg #[.slice ca cn cc,.slice fa bD fc,.slice la ln lc,.slice ba bE bc],.agg #[.int .i64 y1,.int .i64 y2,.int .i64 y3,.int .i64 y4,.slice y5 y6 y7,.slice y8 y9 dz,.slice dA dJ cK],.int .i64 0]) (by simp[results,Tryz.results78,go_sem, *]) rfl (show kV _ _ _ _ _ _ _ from ?_);exact⟨⟨⟨ca,cn,cc⟩,⟨fa,bD,fc⟩,⟨la,ln,lc⟩,⟨ba,bE,bc⟩⟩,⟨y1,y2,y3,y4,⟨y5,y6,y7⟩,⟨y8,y9,dz⟩,⟨dA,dJ,cK⟩⟩,by rw[HE.out],H7.out.bC,fun _=>Cc.out⟩
end
end Go.Proofs.YtlfopoimbbpfdaaGreat
