/- What the law asks, in parts: ZJ ZK ZT ZN. -/
import Derived.Deep.DrawnRows
import Derived.Test.YtlfopoimbbpfdaaGreatPk3
import Derived.Test.YtlfopoimbbpfdaaGreatPk9
import Derived.Test.YtlfopoimbbpfdaaGreatPk21
set_option linter.all false
namespace Go.Proofs.YtlfopoimbbpfdaaGreat
open Go.RowKit
end Go.Proofs.YtlfopoimbbpfdaaGreat
namespace Go.Proofs.YtlfopoimbbpfdaaGreat
open Go.RowKit
theorem Bg (v:Value) (l:List Rg) (n:Int) (w:World) (h:fq w v l) (hs:Small l) (hl:l.length<1000000) (h1:bR l<n):
  Calls Tryz.prog 116 #[v,.int .i64 n] w fun e w'=>e= .returned (.tuple #[.slice none 0 0,.slice none 0 0,.int .i64 14])∧Below w.heap.size w w':=by
 have h0:=(jw l hs).1
 have d0:decide (n<0)=false:=by simp;omega
 go_enter Tryz.func116,Tryz.ntmps116
 go_wp2_with fail
 refine(rZ _ _ _ h hs hl).mono ?_
 rintro e w0 ⟨rfl,hb0⟩
 go_wp2
 go_ret3
 exact⟨rfl,hb0⟩
structure Wq (w W:World) (x:bZ) (y:bV) (wn:Wn):Prop where
 aZ:Below w.heap.size w W
 k3:W.heap[w.heap.size]? =some (.cells #[x.c.v,x.f.v,x.l.v,x.b.v] 30 (0,0))
 k4:W.heap[w.heap.size+1]? =some (.cells #[.int .i64 y.dev,.int .i64 y.epoch,.int .i64 y.bY,.int .i64 y.last,y.s.v,y.i.v,y.u.v] 48 (0,0))
 k5:W.heap[w.heap.size+1+1]? =some (.cells #[.string wn.key,.int .i64 wn.up,.int .i64 wn.down,.int .i64 wn.ids] 65 (0,0))
 k6:W.heap[w.heap.size+1+1+1]? =some (.cells #[.slice none 0 0,.slice none 0 0,.slice none 0 0,.slice none 0 0] 30 (0,0))
 k7:W.heap[w.heap.size+1+1+1+1]? =some (.cells #[.int .i64 0,.int .i64 0,.int .i64 0,.int .i64 0,.slice none 0 0,.slice none 0 0,.slice none 0 0] 48 (0,0))
theorem Wq.keep {w W W':World} {x:bZ} {y:bV} {wn:Wn} (h:Wq w W x y wn) (hb:Below W.heap.size W W'):Wq w W' x y wn:=
 ⟨h.aZ.trans (hb.mono h.aZ.size),aj h.k3 hb (bg h.k3).1,aj h.k4 hb (bg h.k4).1,aj h.k5 hb (bg h.k5).1,aj h.k6 hb (bg h.k6).1,aj h.k7 hb (bg h.k7).1⟩
theorem Dy (w:World) (x:bZ) (y:bV) (wn:Wn):∃W5,(((((w.alloc (.cells #[x.c.v,x.f.v,x.l.v,x.b.v] 30)).alloc (.cells #[.int .i64 y.dev,.int .i64 y.epoch,.int .i64 y.bY,.int .i64 y.last,y.s.v,y.i.v,y.u.v] 48)).alloc (.cells #[.string wn.key,.int .i64 wn.up,.int .i64 wn.down,.int .i64 wn.ids] 65)).alloc (.cells #[.slice none 0 0,.slice none 0 0,.slice none 0 0,.slice none 0 0] 30)).alloc (.cells #[.int .i64 0,.int .i64 0,.int .i64 0,.int .i64 0,.slice none 0 0,.slice none 0 0,.slice none 0 0] 48))=W5∧Wq w W5 x y wn:=by
 obtain⟨W3,hW3,k0,k1,k2,hb,hz⟩:=t_ w (.cells #[x.c.v,x.f.v,x.l.v,x.b.v] 30) (.cells #[.int .i64 y.dev,.int .i64 y.epoch,.int .i64 y.bY,.int .i64 y.last,y.s.v,y.i.v,y.u.v] 48) (.cells #[.string wn.key,.int .i64 wn.up,.int .i64 wn.down,.int .i64 wn.ids] 65)
 rw[hW3]
 have hb2:Below W3.heap.size W3 ((W3.alloc (.cells #[.slice none 0 0,.slice none 0 0,.slice none 0 0,.slice none 0 0] 30)).alloc (.cells #[.int .i64 0,.int .i64 0,.int .i64 0,.int .i64 0,.slice none 0 0,.slice none 0 0,.slice none 0 0] 48)):=((aL _ _).alloc (aC _) _).alloc (by simp) _
 have hz3:w.heap.size+3=W3.heap.size:=hz.symm
 refine⟨_,rfl,hb.trans (hb2.mono hb.size),aj k0 hb2 (by omega),aj k1 hb2 (by omega),aj k2 hb2 (by omega),?_,?_⟩
 ·rw[show w.heap.size+1+1+1=W3.heap.size by omega]
  exact aj (heap_alloc_new W3 _) ((aL _ _).alloc (aC _) _) (by simp)
 ·rw[show w.heap.size+1+1+1+1=W3.heap.size+1 by omega]
  exact bE _ _ _
structure Rr (w0 W:World) (x:bZ) (b:Bk) (y:bV) (l:Ls):Prop where
 aZ:Below w0.heap.size w0 W
 rc:uT w0 W 54 7 x.c.v b.cs.length (aK jE b.cs)
 rf:uT w0 W 56 2 x.f.v b.free.length (aR b.free)
 rl:Aq w0 x.l.v b.ls
 rb:iW w0 x.b.v b.bound
 rs:uT w0 W 88 5 y.s.v l.sl.length (aK jm l.sl)
 ri:uT w0 W 56 2 y.i.v l.ids.length (aR l.ids)
 ru:iW w0 y.u.v l.used
 dev:y.dev=l.dev
 epoch:y.epoch=l.epoch
 bY:y.bY=l.bY
 last:y.last=l.last
section
variable {w0 W W':World} {x:bZ} {b:Bk} {y:bV} {l:Ls}
theorem Rr.begin (hb:eD w0 x b) (hl:lW w0 y l) (h:Below w0.heap.size w0 W):Rr w0 W x b y l:=⟨h,.inl hb.c,.inl hb.f,hb.l,hb.b,.inl hl.s,.inl hl.i,hl.u,hl.dev,hl.epoch,hl.bY,hl.last⟩
theorem Rr.bk (h:Rr w0 W x b y l):eD W x b:=⟨h.rc.sl h.aZ,h.rf.sl h.aZ,h.rl.keep h.aZ (aC _),iW.keep h.rb h.aZ (aC _)⟩
theorem Rr.ls (h:Rr w0 W x b y l):lW W y l:=⟨h.dev,h.epoch,h.bY,h.last,h.rs.sl h.aZ,h.ri.sl h.aZ,iW.keep h.ru h.aZ (aC _)⟩
theorem Rr.keep (h:Rr w0 W x b y l) (hb:Below W.heap.size W W'):Rr w0 W' x b y l:=⟨h.aZ.trans (hb.mono h.aZ.size),h.rc.keep hb,h.rf.keep hb,h.rl,h.rb,h.rs.keep hb,h.ri.keep hb,h.ru,h.dev,h.epoch,h.bY,h.last⟩
theorem Rr.other {T':TypeId} {g:Nat} {cur:Array Value} {z:Nat×Nat} (h:Rr w0 W x b y l) (hb:Below w0.heap.size w0 W') (hoth:∀b,b≠g→W'.heap[b]? =W.heap[b]?) (hg:W.heap[g]? =some (.cells cur T' z)) (h1: 54 ≠T') (h2: 56 ≠T') (h3: 88 ≠T'):Rr w0 W' x b y l:=
 ⟨hb,h.rc.other hoth hg h1,h.rf.other hoth hg h2,h.rl,h.rb,h.rs.other hoth hg h3,h.ri.other hoth hg h2,h.ru,h.dev,h.epoch,h.bY,h.last⟩
end
def jC (fI w:World) (b:Bk) (l:Ls) (wn:Wn) (e:Ending) (w':World):Prop:=∃ (x':bZ) (y':bV),e= .returned (.tuple #[fT x',nI y',.int .i64 (dB b wn)])∧Below w.heap.size w w'∧(dB b wn=0→Rr fI w' x' (gy b wn) y' (iE b l wn))
structure Dz (b:Bk) (l:Ls) (wn:Wn):Prop where
 nc:b.cs.length<1000
 nf:b.free.length<10000
 ns:l.sl.length<1000
 ni:l.ids.length<10000
 key:∀c∈b.cs,emp c.key=false
 new:emp wn.key=false→ ∀s∈l.sl,s.key≠wn.key
 fr:cZ b.free
 row:cZ l.ids
 ct:ET 2199023255552 b.cs
structure Wr (w W:World) (x:bZ) (y:bV):Prop where
 aZ:Below w.heap.size w W
 k4:W.heap[w.heap.size+1]? =some (.cells #[.int .i64 y.dev,.int .i64 y.epoch,.int .i64 y.bY,.int .i64 y.last,y.s.v,y.i.v,y.u.v] 48 (0,0))
 k6:W.heap[w.heap.size+1+1+1]? =some (.cells #[x.c.v,x.f.v,x.l.v,x.b.v] 30 (0,0))
 k7:W.heap[w.heap.size+1+1+1+1]? =some (.cells #[.int .i64 0,.int .i64 0,.int .i64 0,.int .i64 0,.slice none 0 0,.slice none 0 0,.slice none 0 0] 48 (0,0))
structure Wz (w W:World) (x:bZ) (y:bV):Prop where
 aZ:Below w.heap.size w W
 k6:W.heap[w.heap.size+1+1+1]? =some (.cells #[x.c.v,x.f.v,x.l.v,x.b.v] 30 (0,0))
 k7:W.heap[w.heap.size+1+1+1+1]? =some (.cells #[.int .i64 y.dev,.int .i64 y.epoch,.int .i64 y.bY,.int .i64 y.last,y.s.v,y.i.v,y.u.v] 48 (0,0))
theorem m_ {w W:World} {x:bZ} {y:bV} {wn:Wn} (h:Wq w W x y wn):Wr w ((((W.drew.setCell ⟨w.heap.size+1+1+1,0,none⟩ x.c.v).setCell ⟨w.heap.size+1+1+1,1,none⟩ x.f.v).setCell ⟨w.heap.size+1+1+1,2,none⟩ x.l.v).setCell ⟨w.heap.size+1+1+1,3,none⟩ x.b.v) x y:=by
 refine⟨((((h.aZ.drew).setCell (p:=⟨w.heap.size+1+1+1,0,none⟩) (by simp;omega) _).setCell (p:=⟨w.heap.size+1+1+1,1,none⟩) (by simp;omega) _).setCell (p:=⟨w.heap.size+1+1+1,2,none⟩) (by simp;omega) _).setCell (p:=⟨w.heap.size+1+1+1,3,none⟩) (by simp;omega) _,?_,?_,?_⟩
 ·rw[aW _ _ _ (by simp;omega),aW _ _ _ (by simp;omega),aW _ _ _ (by simp;omega),aW _ _ _ (by simp;omega)]
  exact h.k4
 ·have h6:W.drew.heap[w.heap.size+1+1+1]? =_:=h.k6
  simp[World.setCell,Array.getElem?_modify,h6]
 ·rw[aW _ _ _ (by simp),aW _ _ _ (by simp),aW _ _ _ (by simp),aW _ _ _ (by simp)]
  exact h.k7
theorem gM {w W:World} {x:bZ} {y:bV} (h:Wr w W x y):Wz w ((((((((W).setCell ⟨w.heap.size+1+1+1+1,0,none⟩ (.int .i64 y.dev)).setCell ⟨w.heap.size+1+1+1+1,1,none⟩ (.int .i64 y.epoch)).setCell ⟨w.heap.size+1+1+1+1,2,none⟩ (.int .i64 y.bY)).setCell ⟨w.heap.size+1+1+1+1,3,none⟩ (.int .i64 y.last)).setCell ⟨w.heap.size+1+1+1+1,4,none⟩ y.s.v).setCell ⟨w.heap.size+1+1+1+1,5,none⟩ y.i.v).setCell ⟨w.heap.size+1+1+1+1,6,none⟩ y.u.v) x y:=by
 refine⟨(((((((h.aZ.setCell (p:=⟨w.heap.size+1+1+1+1,0,none⟩) (by simp;omega) _).setCell (p:=⟨w.heap.size+1+1+1+1,1,none⟩) (by simp;omega) _).setCell (p:=⟨w.heap.size+1+1+1+1,2,none⟩) (by simp;omega) _).setCell (p:=⟨w.heap.size+1+1+1+1,3,none⟩) (by simp;omega) _).setCell (p:=⟨w.heap.size+1+1+1+1,4,none⟩) (by simp;omega) _).setCell (p:=⟨w.heap.size+1+1+1+1,5,none⟩) (by simp;omega) _).setCell (p:=⟨w.heap.size+1+1+1+1,6,none⟩) (by simp;omega) _),?_,mV h.k7 _ _ _ _ _ _ _⟩
 rw[aW _ _ _ (by simp),aW _ _ _ (by simp),aW _ _ _ (by simp),aW _ _ _ (by simp),aW _ _ _ (by simp),aW _ _ _ (by simp),aW _ _ _ (by simp)]
 exact h.k6
theorem jr (w:World) (p q r s:Addr) (a b c d:Value):((((w.setCell p a).setCell q b).setCell r c).setCell s d).drew=(((w.drew.setCell p a).setCell q b).setCell r c).setCell s d:=rfl
theorem nT (k:ByteArray) (a b c:Int):(!(rH ⟨k,a,b,c⟩))=(decide (a<0)||decide (2199023255552<a)||decide (b<0)||decide (2199023255552<b)||decide (c<0)||decide (50<c)):=by
 unfold rH
 rw[Bool.eq_iff_iff]
 simp
 omega
end Go.Proofs.YtlfopoimbbpfdaaGreat
namespace Go.Proofs.YtlfopoimbbpfdaaGreat
open Go.RowKit
def spine:Nat→Code→Option Code
 | 0,c=>some c
 | n+1,.seq _ b=>spine n b
 | _,_=>none
theorem dH {P:Program} {b:Option Code} {k:Nat} {c':Code} {Q:Exit→Act→World→Prop} {a:Act} {w:World} (h:b.bind (spine k)=some c') (hw:Code.wp P c' Q a w):∀c,b.bind (spine k)=some c→Code.wp P c Q a w:=by
 intro c hc
 rw[h]at hc
 injection hc with hc
 subst hc
 exact hw
theorem Bh {P:Program} {w:World} {o:Oper} {a:Act} {K:Act→World→Prop} {Q:Exit→Act→World→Prop} (s x:Operand) (t:TypeId)
  (ho:o.op= .call { callee:=.builtin .append,args:= #[s,x],argTypes:= #[t,t] })
  (base:Nat) (e:TypeId) (i:TypeInfo) (z:Value) (size bytes:Nat) (ht:P.underlying t=some (.slice e)) (hi:P.info? e=some i) (hz:i.zero=some z)
  (hsize:i.size=size) (hby:i.bytes=bytes) (hzs:z.cells.size=size) (hsz:0<size)
  (v:Value) (n:Nat) (xs:List Value) (hs:a.eval s=v) (hown:w.ownsRow base e size v n xs)
  (ao:Option Addr) (m c:Nat) (news:List Value) (hx:a.eval x= .slice ao m c) (hl:news.length=m*size) (hnews:Rd w ao news) (h1:∀u∈news,u.oneCell'=true)
  (h63:n+m≤maxLen) (hbytes:(n+m)*bytes≤140737488355328) (hbase:base≤w.heap.size)
  (h:∀v' w',w'.ownsRow base e size v' (n+m) (xs++news)→w.grownBy w' v.ownBlock→(v'.ownBlock=v.ownBlock∨v'.ownBlock=some w.heap.size)→K (a.put o.dst v') w'):Oper.wp P o a w K Q:=by
 rcases ao with _ | ad
 ·have hm:news= []:=by
   cases news with
   | nil=>rfl
   | cons u r=>obtain⟨a,ha,_⟩:=hnews 0 u rfl;cases ha
  subst hm
  have hm:m=0:=by
   have:m*size=0:=by simpa using hl.symm
   rcases Nat.mul_eq_zero.1 this with h | h<;>omega
  subst hm
  have hrun:=kG (P:=P) w base t o.type e i size ht hi v n xs hown c
  unfold Oper.wp
  simp[execOp,ho,resolve,invoke,builtin,hs,hx,hrun,Result.andThen]
  exact h v w (by simpa using hown) (World.grownBy.refl _ _) (.inl rfl)
 ·obtain⟨v',w',hr,h2,h3,_,h5⟩:=run_append_own_at (P:=P) w base t o.type e i _ size bytes ht hi hz hsize hby hzs hsz v n _ hown ad m c news hl (fun j u hj=>by obtain⟨a',ha,hc⟩:=hnews j u hj;injection ha with ha;subst ha;exact hc) h1 h63 hbytes hbase
  unfold Oper.wp execOp
  simp only[ho,resolve,invoke,builtin,Sem.run_bind,Sem.run_pure,Result.andThen_ok,List.map_toArray,List.map_cons,List.map_nil,hs,hx,hr]
  exact h v' w' h2 h3 h5
theorem iQ {o:Oper} {a:Act} {w:World} {K:Act→World→Prop} {Q:Exit→Act→World→Prop} (s x:Operand)
  (ho:o.op= .call { callee:=.builtin .append,args:= #[s,x],argTypes:= #[46,46] })
  (base:Nat) (v:Value) (n:Nat) (l:List Sc) (hs:a.eval s=v) (hown:w.ownsRow base 88 5 v n (aK jm l))
  (ao:Option Addr) (m c:Nat) (p:List Sc) (hx:a.eval x= .slice ao m c) (hm:p.length=m) (hnews:Rd w ao (aK jm p))
  (hn:n+m<1000000000) (hbase:base≤w.heap.size)
  (h:∀v' w',w'.ownsRow base 88 5 v' (n+m) (aK jm (l++p))→w.grownBy w' v.ownBlock→(v'.ownBlock=v.ownBlock∨v'.ownBlock=some w.heap.size)→K (a.put o.dst v') w'):Oper.wp Tryz.prog o a w K Q:=by
 obtain⟨i,hi,hz0,hz1,hz2⟩:=info_parts Tryz.Et
 refine Bh s x 46 ho base 88 i _ 5 48 Tryz.underlying46 hi hz0 hz1 hz2 rfl (by decide) v n _ hs hown ao m c (aK jm p) hx (by rw[bL gK,hm]) hnews (eZ Ao p) (by unfold maxLen;omega) (by omega) hbase ?_
 intro v' w' h1 h2 h3
 exact h v' w' (by rw[dU];exact h1) h2 h3
def Bj (n:Nat) (W W':World):Prop:=∀c,c<n→W'.heap[c]? =W.heap[c]?
structure Rt (fI w0 W:World) (x:bZ) (b:Bk) (y:bV) (l:Ls) (wn:Wn):Prop where
 le:fI.heap.size≤w0.heap.size
 q:Wq w0 W x y wn
 r:Rr fI W x b y l
section
variable {fI w0 W W':World} {x:bZ} {b:Bk} {y:bV} {l:Ls} {wn:Wn}
theorem Rt.keep (h:Rt fI w0 W x b y l wn) (hb:Below W.heap.size W W'):Rt fI w0 W' x b y l wn:=⟨h.le,h.q.keep hb,h.r.keep hb⟩
theorem Gw (h:Wq w0 W x y wn) (j:Nat) (u:Value) {x':bZ} (hk:(W.setCell ⟨w0.heap.size,j,none⟩ u).heap[w0.heap.size]? =some (.cells #[x'.c.v,x'.f.v,x'.l.v,x'.b.v] 30 (0,0))):Wq w0 (W.setCell ⟨w0.heap.size,j,none⟩ u) x' y wn:=by
 refine⟨h.aZ.setCell (aC _) _,hk,?_,?_,?_,?_⟩
 ·rw[aW _ _ _ (by simp)];exact h.k4
 ·rw[aW _ _ _ (by simp;omega)];exact h.k5
 ·rw[aW _ _ _ (by simp;omega)];exact h.k6
 ·rw[aW _ _ _ (by simp;omega)];exact h.k7
theorem Gx (h:Wq w0 W x y wn) (j:Nat) (u:Value) {y':bV} (hk:(W.setCell ⟨w0.heap.size+1,j,none⟩ u).heap[w0.heap.size+1]? =some (.cells #[.int .i64 y'.dev,.int .i64 y'.epoch,.int .i64 y'.bY,.int .i64 y'.last,y'.s.v,y'.i.v,y'.u.v] 48 (0,0))):Wq w0 (W.setCell ⟨w0.heap.size+1,j,none⟩ u) x y' wn:=by
 refine⟨h.aZ.setCell (by simp) _,?_,hk,?_,?_,?_⟩
 ·rw[aW _ _ _ (by simp)];exact h.k3
 ·rw[aW _ _ _ (by simp)];exact h.k5
 ·rw[aW _ _ _ (by simp)];exact h.k6
 ·rw[aW _ _ _ (by simp)];exact h.k7
theorem Rt.Az (h:Rt fI w0 W x b y l wn) {f':Sv} {free':List Rg} (ho:W.ownsRow w0.heap.size 56 2 f'.v free'.length (aR free')):
  Rt fI w0 (W.setCell ⟨w0.heap.size,1,none⟩ f'.v) ⟨x.c,f',x.l,x.b⟩ ⟨b.cs,free',b.ls,b.bound⟩ y l wn:=by
 have hoth:∀c,c≠w0.heap.size→(W.setCell ⟨w0.heap.size,1,none⟩ f'.v).heap[c]? =W.heap[c]? :=fun c hc=>aW _ _ _ (fun e=>hc e.symm) _
 have h2:=h.r.other (h.r.aZ.setCell h.le _) hoth h.q.k3 (by decide) (by decide) (by decide)
 exact⟨h.le,Gw h.q 1 _ (lC h.q.k3 _),⟨h2.aZ,h2.rc,.inr (aO (aH ho hoth h.q.k3 (by decide)) h.le),h2.rl,h2.rb,h2.rs,h2.ri,h2.ru,h2.dev,h2.epoch,h2.bY,h2.last⟩⟩
theorem Rt.VU (h:Rt fI w0 W x b y l wn) {c':Sv} (ho:W.ownsRow w0.heap.size 54 7 c'.v b.cs.length (aK jE b.cs)):
  Rt fI w0 (W.setCell ⟨w0.heap.size,0,none⟩ c'.v) ⟨c',x.f,x.l,x.b⟩ b y l wn∧(W.setCell ⟨w0.heap.size,0,none⟩ c'.v).ownsRow w0.heap.size 54 7 c'.v b.cs.length (aK jE b.cs):=by
 have hoth:∀c,c≠w0.heap.size→(W.setCell ⟨w0.heap.size,0,none⟩ c'.v).heap[c]? =W.heap[c]? :=fun c hc=>aW _ _ _ (fun e=>hc e.symm) _
 have h2:=h.r.other (h.r.aZ.setCell h.le _) hoth h.q.k3 (by decide) (by decide) (by decide)
 have h3:=aH ho hoth h.q.k3 (by decide)
 exact⟨⟨h.le,Gw h.q 0 _ (lu h.q.k3 _),⟨h2.aZ,.inr (aO h3 h.le),h2.rf,h2.rl,h2.rb,h2.rs,h2.ri,h2.ru,h2.dev,h2.epoch,h2.bY,h2.last⟩⟩,h3⟩
theorem Rt.Kg (h:Rt fI w0 W x b y l wn) {i':Sv} {wQ:List Rg} (ho:W.ownsRow w0.heap.size 56 2 i'.v wQ.length (aR wQ)):
  Rt fI w0 (W.setCell ⟨w0.heap.size+1,5,none⟩ i'.v) x b ⟨y.dev,y.epoch,y.bY,y.last,y.s,i',y.u⟩ ⟨l.dev,l.epoch,l.bY,l.last,l.sl,wQ,l.used⟩ wn:=by
 have hoth:∀c,c≠w0.heap.size+1→(W.setCell ⟨w0.heap.size+1,5,none⟩ i'.v).heap[c]? =W.heap[c]? :=fun c hc=>aW _ _ _ (fun e=>hc e.symm) _
 have h2:=h.r.other (h.r.aZ.setCell (Nat.le_trans h.le (Nat.le_succ _)) _) hoth h.q.k4 (by decide) (by decide) (by decide)
 exact⟨h.le,Gx h.q 5 _ (AA h.q.k4 _),⟨h2.aZ,h2.rc,h2.rf,h2.rl,h2.rb,h2.rs,.inr (aO (aH ho hoth h.q.k4 (by decide)) h.le),h2.ru,h2.dev,h2.epoch,h2.bY,h2.last⟩⟩
theorem Rt.KI (h:Rt fI w0 W x b y l wn) {s':Sv} {sl':List Sc} (ho:W.ownsRow w0.heap.size 88 5 s'.v sl'.length (aK jm sl')):
  Rt fI w0 (W.setCell ⟨w0.heap.size+1,4,none⟩ s'.v) x b ⟨y.dev,y.epoch,y.bY,y.last,s',y.i,y.u⟩ ⟨l.dev,l.epoch,l.bY,l.last,sl',l.ids,l.used⟩ wn:=by
 have hoth:∀c,c≠w0.heap.size+1→(W.setCell ⟨w0.heap.size+1,4,none⟩ s'.v).heap[c]? =W.heap[c]? :=fun c hc=>aW _ _ _ (fun e=>hc e.symm) _
 have h2:=h.r.other (h.r.aZ.setCell (Nat.le_trans h.le (Nat.le_succ _)) _) hoth h.q.k4 (by decide) (by decide) (by decide)
 exact⟨h.le,Gx h.q 4 _ (EG h.q.k4 _),⟨h2.aZ,h2.rc,h2.rf,h2.rl,h2.rb,.inr (aO (aH ho hoth h.q.k4 (by decide)) h.le),h2.ri,h2.ru,h2.dev,h2.epoch,h2.bY,h2.last⟩⟩
theorem Rt.VW (h:Rt fI w0 W x b y l wn) {g n cap:Nat} (ho:W.ownsRow w0.heap.size 54 7 (.slice (some ⟨g,0,none⟩) n cap) b.cs.length (aK jE b.cs)) (hx:x.c=⟨some ⟨g,0,none⟩,n,cap⟩) (k:Nat) (hk:k<b.cs.length) (u d:Int):
  Rt fI w0 ((W.setCell ⟨g,k*7+5,none⟩ (.int .i64 u)).setCell ⟨g,k*7+6,none⟩ (.int .i64 d)) x ⟨b.cs.set k ⟨b.cs[k].key,b.cs[k].coll,b.cs[k].lo,b.cs[k].hi,b.cs[k].start,u,d⟩,b.free,b.ls,b.bound⟩ y l wn:=by
 have hn:n=b.cs.length:=by
  obtain⟨_,_,he,_,_⟩:=aP ho
  injection he with _ he _
 subst hn
 obtain⟨cur,hg⟩:=eu ho
 have hB:w0.heap.size≤g:=(bq ho).1
 have hl:(aK jE b.cs).length=b.cs.length*7:=bL dX _
 have o1:=dF ho (k*7+5) (by omega) (.int .i64 u)
 have o2:=dF o1 (k*7+6) (by rw[List.length_set];omega) (.int .i64 d)
 rw[uM b.cs k hk u d]at o2
 have hoth:∀c,c≠g→((W.setCell ⟨g,k*7+5,none⟩ (.int .i64 u)).setCell ⟨g,k*7+6,none⟩ (.int .i64 d)).heap[c]? =W.heap[c]? :=fun c hc=>by
  rw[aW _ _ _ (fun e=>hc e.symm),aW _ _ _ (fun e=>hc e.symm)]
 refine⟨h.le,⟨(h.q.aZ.setCell hB _).setCell hB _,lI h.q.k3 hoth hg (by decide),lI h.q.k4 hoth hg (by decide),lI h.q.k5 hoth hg (by decide),lI h.q.k6 hoth hg (by decide),lI h.q.k7 hoth hg (by decide)⟩,⟨(h.r.aZ.setCell (Nat.le_trans h.le hB) _).setCell (Nat.le_trans h.le hB) _,.inr (aO (base:=w0.heap.size) ?_ h.le),h.r.rf.other hoth hg (by decide),h.r.rl,h.r.rb,h.r.rs.other hoth hg (by decide),h.r.ri.other hoth hg (by decide),h.r.ru,h.r.dev,h.r.epoch,h.r.bY,h.r.last⟩⟩
 rw[hx]
 simp only[Sv.v,List.length_set]
 exact o2
end
end Go.Proofs.YtlfopoimbbpfdaaGreat
namespace Go.Proofs.YtlfopoimbbpfdaaGreat
open Go.RowKit
attribute [local go_sem ↓] Go.wp_at_zero Go.wp_at_succ
set_option maxRecDepth 100000 in
set_option maxHeartbeats 8000000 in
theorem Ae (fI w W:World) (b0:Bk) (l0:Ls) (wn:Wn) (x:bZ) (y:bV) (h:Rt fI w W x (gy b0 wn) y (iE b0 l0 wn) wn) (he:dB b0 wn=0) (u0 u1 u2 u8 u9 u10 u11 u12 u13 u14 u15 u16 u17 u18 u19 u20 u21 u22 u23 u24 u25 u26 u27 u28 u29 u30 u31 u32 u33 u34 u35 u36 u37 u38 u39 u40 u41 u42 u43 u44 u45 u46 u47 u48 u49 u50 u51 u52 u53 u54 u55 u56 u57 u58 u59 u60 u61 u62 u63 u64 u65 u66 u67 u68 u69 u70 u71 u72 u73 u74 u75 u76 u77 u78 u79 u80 u81 u82 u83 u84 u85 u86 u87 u88 u89 u90 u91 u92 u93 u94 u95 u96 u97 u98 u99 u100 u101 u102 u103 u104 u105 u106 u107 u108 u109 u110 u111 u112 u113 u114 u115 u116 u117 u118 u119 u120 u121 u122 u123 u124 u125 u126 u127 u128 u129 u130 u131 u132 u133 u134 u135 u136 u137 u138 u139 u140 u141 u142 u143 u144 u145 u146 u147 u148 u149 u150 u151 u152 u153 u154 u155 u156 u157 u158 u159 u160 u161 u162 u163 u164 u165 u166 u167 u168 u169 u170 u171 u172 u173 u174 u175 u176 u177 u178 u179 u180 u181 u182 u183 u184 u185 u186 u187 u188 u189 u190 u191 u192 u193 u194 u195 u196 u197 u198 u199 u200 u201 u202:Value):
  ∀c,Tryz.f78.body.bind (spine 12)=some c→Code.wp Tryz.prog c (bodyPost Tryz.prog Tryz.f78 (jC fI w b0 l0 wn)) ⟨#[u0,u1,u2,.pointer (some ⟨w.heap.size,0,none⟩),.pointer (some ⟨w.heap.size+1,0,none⟩),.pointer (some ⟨w.heap.size+1+1,0,none⟩),.pointer (some ⟨w.heap.size+1+1+1,0,none⟩),.pointer (some ⟨w.heap.size+1+1+1+1,0,none⟩),u8,u9,u10,u11,u12,u13,u14,u15,u16,u17,u18,u19,u20,u21,u22,u23,u24,u25,u26,u27,u28,u29,u30,u31,u32,u33,u34,u35,u36,u37,u38,u39,u40,u41,u42,u43,u44,u45,u46,u47,u48,u49,u50,u51,u52,u53,u54,u55,u56,u57,u58,u59,u60,u61,u62,u63,u64,u65,u66,u67,u68,u69,u70,u71,u72,u73,u74,u75,u76,u77,u78,u79,u80,u81,u82,u83,u84,u85,u86,u87,u88,u89,u90,u91,u92,u93,u94,u95,u96,u97,u98,u99,u100,u101,u102,u103,u104,u105,u106,u107,u108,u109,u110,u111,u112,u113,u114,u115,u116,u117,u118,u119,u120,u121,u122,u123,u124,u125,u126,u127,u128,u129,u130,u131,u132,u133,u134,u135,u136,u137,u138,u139,u140,u141,u142,u143,u144,u145,u146,u147,u148,u149,u150,u151,u152,u153,u154,u155,u156,u157,u158,u159,u160,u161,u162,u163,u164,u165,u166,u167,u168,u169,u170,u171,u172,u173,u174,u175,u176,u177,u178,u179,u180,u181,u182,u183,u184,u185,u186,u187,u188,u189,u190,u191,u192,u193,u194,u195,u196,u197,u198,u199,u200,u201,u202],[]⟩ W:=by
 refine dH rfl ?_
 obtain⟨⟨ca,cn,cc⟩,⟨fa,aX,fc⟩,⟨la,ln,lc⟩,⟨ba,b_n,bc⟩⟩:=x
 obtain⟨y1,y2,y3,y4,⟨y5,y6,y7⟩,⟨y8,y9,bW⟩,⟨bX,cB,y13⟩⟩:=y
 have HQ:=ah h.q
 have HR:=ah h.r
 have hle:=h.le
 have HE:=ah he
 clear h he
 go_upto_region 27 with fail
 refine aS 2 (fun w'=>Below W.heap.size W w') (by kernel_rfl) ?_
 have hS0:Below W.heap.size W W.drew:=(aL _ _).drew
 refine aD (i:=0) (v:=.agg #[.slice ca cn cc,.slice fa aX fc,.slice la ln lc,.slice ba b_n bc]) rfl rfl (by kernel_rfl) (by kernel_rfl) (by kernel_rfl) (by kernel_rfl) (by kernel_rfl) (by decide) (fun _ _ _ h=>h) (.inl ⟨rfl,fun w' hw=>?_⟩) hS0 ?_
 ·obtain⟨a0,a1,a2,a3,_⟩:=ay (HQ.out.keep hw).k3
  simp only[Sv.v]at a0 a1 a2 a3
  go_simp
 obtain⟨a0,a1,a2,a3,_⟩:=ay HQ.out.k6
 have f0:=aA HQ.out.k6 0
 have f1:=aA HQ.out.k6 1
 have f2:=aA HQ.out.k6 2
 have f3:=aA HQ.out.k6 3
 have H6:=ah (m_ HQ.out)
 have TY:=ah ((HR.out.keep (aL _ _).drew).other (W':=(((((W).drew.setCell ⟨w.heap.size+1+1+1,0,none⟩ (.slice ca cn cc)).setCell ⟨w.heap.size+1+1+1,1,none⟩ (.slice fa aX fc)).setCell ⟨w.heap.size+1+1+1,2,none⟩ (.slice la ln lc)).setCell ⟨w.heap.size+1+1+1,3,none⟩ (.slice ba b_n bc))) (((((HR.out.aZ.drew).setCell (p:=⟨w.heap.size+1+1+1,0,none⟩) (by simp;omega) _).setCell (p:=⟨w.heap.size+1+1+1,1,none⟩) (by simp;omega) _).setCell (p:=⟨w.heap.size+1+1+1,2,none⟩) (by simp;omega) _).setCell (p:=⟨w.heap.size+1+1+1,3,none⟩) (by simp;omega) _) (fun c hc=>bF W.drew (w.heap.size+1+1+1) c (fun e=>hc e.symm) _ _ _ _ 0 1 2 3) (show W.drew.heap[w.heap.size+1+1+1]? =_ from HQ.out.k6) (by decide) (by decide) (by decide))
 simp only[Sv.v]at H6
 obtain⟨e0,e1,e2,e3,e4,e5,e6,_⟩:=aB HQ.out.k4
 simp only[Sv.v]at e4 e5 e6
 refine gW (i:=1) (j:=2) (by kernel_rfl) rfl rfl rfl rfl ?_ ?_
 ·go_simp
  refine aF (i:=2) (by kernel_rfl) rfl rfl ?_
  go_simp
  try rw[jr]
  generalize (((((W).drew.setCell ⟨w.heap.size+1+1+1,0,none⟩ (.slice ca cn cc)).setCell ⟨w.heap.size+1+1+1,1,none⟩ (.slice fa aX fc)).setCell ⟨w.heap.size+1+1+1,2,none⟩ (.slice la ln lc)).setCell ⟨w.heap.size+1+1+1,3,none⟩ (.slice ba b_n bc))=W6 at*
  clear a0 a1 a2 a3 f0 f1 f2 f3
  obtain⟨b0,b1,b2,b3,b4,b5,b6,_⟩:=aB H6.out.k7
  have g0:=ak H6.out.k7 0
  have g1:=ak H6.out.k7 1
  have g2:=ak H6.out.k7 2
  have g3:=ak H6.out.k7 3
  have g4:=ak H6.out.k7 4
  have g5:=ak H6.out.k7 5
  have g6:=ak H6.out.k7 6
  refine aF (i:=3) (by kernel_rfl) rfl rfl ?_
  go_simp
  have yA:=ah (TY.out.other (W':=(((((((W6.setCell ⟨w.heap.size+1+1+1+1,0,none⟩ (.int .i64 y1)).setCell ⟨w.heap.size+1+1+1+1,1,none⟩ (.int .i64 y2)).setCell ⟨w.heap.size+1+1+1+1,2,none⟩ (.int .i64 y3)).setCell ⟨w.heap.size+1+1+1+1,3,none⟩ (.int .i64 y4)).setCell ⟨w.heap.size+1+1+1+1,4,none⟩ (.slice y5 y6 y7)).setCell ⟨w.heap.size+1+1+1+1,5,none⟩ (.slice y8 y9 bW)).setCell ⟨w.heap.size+1+1+1+1,6,none⟩ (.slice bX cB y13))) (((((((TY.out.aZ.setCell (p:=⟨w.heap.size+1+1+1+1,0,none⟩) (by simp;omega) _).setCell (p:=⟨w.heap.size+1+1+1+1,1,none⟩) (by simp;omega) _).setCell (p:=⟨w.heap.size+1+1+1+1,2,none⟩) (by simp;omega) _).setCell (p:=⟨w.heap.size+1+1+1+1,3,none⟩) (by simp;omega) _).setCell (p:=⟨w.heap.size+1+1+1+1,4,none⟩) (by simp;omega) _).setCell (p:=⟨w.heap.size+1+1+1+1,5,none⟩) (by simp;omega) _).setCell (p:=⟨w.heap.size+1+1+1+1,6,none⟩) (by simp;omega) _) (fun c hc=>jf W6 (w.heap.size+1+1+1+1) c hc _ _ _ _ _ _ _) H6.out.k7 (by decide) (by decide) (by decide))
  have H7:=ah (gM (x:=⟨⟨ca,cn,cc⟩,⟨fa,aX,fc⟩,⟨la,ln,lc⟩,⟨ba,b_n,bc⟩⟩) (y:=⟨y1,y2,y3,y4,⟨y5,y6,y7⟩,⟨y8,y9,bW⟩,⟨bX,cB,y13⟩⟩) H6.out)
  simp only[Sv.v]at H7
  generalize (((((((W6.setCell ⟨w.heap.size+1+1+1+1,0,none⟩ (.int .i64 y1)).setCell ⟨w.heap.size+1+1+1+1,1,none⟩ (.int .i64 y2)).setCell ⟨w.heap.size+1+1+1+1,2,none⟩ (.int .i64 y3)).setCell ⟨w.heap.size+1+1+1+1,3,none⟩ (.int .i64 y4)).setCell ⟨w.heap.size+1+1+1+1,4,none⟩ (.slice y5 y6 y7)).setCell ⟨w.heap.size+1+1+1+1,5,none⟩ (.slice y8 y9 bW)).setCell ⟨w.heap.size+1+1+1+1,6,none⟩ (.slice bX cB y13))=W7 at*
  clear b0 b1 b2 b3 b4 b5 b6 g0 g1 g2 g3 g4 g5 g6
  refine aF (i:=4) (by kernel_rfl) rfl rfl ?_
  go_simp
  refine aT (by kernel_rfl) ?_
  obtain⟨a0,a1,a2,a3,_⟩:=ay H7.out.k6
  obtain⟨b0,b1,b2,b3,b4,b5,b6,_⟩:=aB H7.out.k7
  simp only[Sv.v]at a0 a1 a2 a3 b4 b5 b6
  go_wp2
  refine bodyPost_ret (v:=.tuple #[.agg #[.slice ca cn cc,.slice fa aX fc,.slice la ln lc,.slice ba b_n bc],.agg #[.int .i64 y1,.int .i64 y2,.int .i64 y3,.int .i64 y4,.slice y5 y6 y7,.slice y8 y9 bW,.slice bX cB y13],.int .i64 0]) (by simp[results,Tryz.results78,go_sem, *]) rfl (show jC _ _ _ _ _ _ _ from ?_)
  exact⟨⟨⟨ca,cn,cc⟩,⟨fa,aX,fc⟩,⟨la,ln,lc⟩,⟨ba,b_n,bc⟩⟩,⟨y1,y2,y3,y4,⟨y5,y6,y7⟩,⟨y8,y9,bW⟩,⟨bX,cB,y13⟩⟩,by rw[HE.out],H7.out.aZ,fun _=>yA.out⟩
 ·go_simp
  try rw[jr]
  generalize (((((W).drew.setCell ⟨w.heap.size+1+1+1,0,none⟩ (.slice ca cn cc)).setCell ⟨w.heap.size+1+1+1,1,none⟩ (.slice fa aX fc)).setCell ⟨w.heap.size+1+1+1,2,none⟩ (.slice la ln lc)).setCell ⟨w.heap.size+1+1+1,3,none⟩ (.slice ba b_n bc))=W6 at*
  clear a0 a1 a2 a3 f0 f1 f2 f3 e0 e1 e2 e3 e4 e5 e6
  obtain⟨e0,e1,e2,e3,e4,e5,e6,_⟩:=aB H6.out.k4
  simp only[Sv.v]at e4 e5 e6
  refine aF (i:=1) (by kernel_rfl) rfl rfl ?_
  go_simp
  obtain⟨b0,b1,b2,b3,b4,b5,b6,_⟩:=aB H6.out.k7
  have g0:=ak H6.out.k7 0
  have g1:=ak H6.out.k7 1
  have g2:=ak H6.out.k7 2
  have g3:=ak H6.out.k7 3
  have g4:=ak H6.out.k7 4
  have g5:=ak H6.out.k7 5
  have g6:=ak H6.out.k7 6
  refine aF (i:=3) (by kernel_rfl) rfl rfl ?_
  go_simp
  have yA:=ah (TY.out.other (W':=(((((((W6.setCell ⟨w.heap.size+1+1+1+1,0,none⟩ (.int .i64 y1)).setCell ⟨w.heap.size+1+1+1+1,1,none⟩ (.int .i64 y2)).setCell ⟨w.heap.size+1+1+1+1,2,none⟩ (.int .i64 y3)).setCell ⟨w.heap.size+1+1+1+1,3,none⟩ (.int .i64 y4)).setCell ⟨w.heap.size+1+1+1+1,4,none⟩ (.slice y5 y6 y7)).setCell ⟨w.heap.size+1+1+1+1,5,none⟩ (.slice y8 y9 bW)).setCell ⟨w.heap.size+1+1+1+1,6,none⟩ (.slice bX cB y13))) (((((((TY.out.aZ.setCell (p:=⟨w.heap.size+1+1+1+1,0,none⟩) (by simp;omega) _).setCell (p:=⟨w.heap.size+1+1+1+1,1,none⟩) (by simp;omega) _).setCell (p:=⟨w.heap.size+1+1+1+1,2,none⟩) (by simp;omega) _).setCell (p:=⟨w.heap.size+1+1+1+1,3,none⟩) (by simp;omega) _).setCell (p:=⟨w.heap.size+1+1+1+1,4,none⟩) (by simp;omega) _).setCell (p:=⟨w.heap.size+1+1+1+1,5,none⟩) (by simp;omega) _).setCell (p:=⟨w.heap.size+1+1+1+1,6,none⟩) (by simp;omega) _) (fun c hc=>jf W6 (w.heap.size+1+1+1+1) c hc _ _ _ _ _ _ _) H6.out.k7 (by decide) (by decide) (by decide))
  have H7:=ah (gM (x:=⟨⟨ca,cn,cc⟩,⟨fa,aX,fc⟩,⟨la,ln,lc⟩,⟨ba,b_n,bc⟩⟩) (y:=⟨y1,y2,y3,y4,⟨y5,y6,y7⟩,⟨y8,y9,bW⟩,⟨bX,cB,y13⟩⟩) H6.out)
  simp only[Sv.v]at H7
  generalize (((((((W6.setCell ⟨w.heap.size+1+1+1+1,0,none⟩ (.int .i64 y1)).setCell ⟨w.heap.size+1+1+1+1,1,none⟩ (.int .i64 y2)).setCell ⟨w.heap.size+1+1+1+1,2,none⟩ (.int .i64 y3)).setCell ⟨w.heap.size+1+1+1+1,3,none⟩ (.int .i64 y4)).setCell ⟨w.heap.size+1+1+1+1,4,none⟩ (.slice y5 y6 y7)).setCell ⟨w.heap.size+1+1+1+1,5,none⟩ (.slice y8 y9 bW)).setCell ⟨w.heap.size+1+1+1+1,6,none⟩ (.slice bX cB y13))=W7 at*
  clear b0 b1 b2 b3 b4 b5 b6 g0 g1 g2 g3 g4 g5 g6
  refine aF (i:=4) (by kernel_rfl) rfl rfl ?_
  go_simp
  refine aT (by kernel_rfl) ?_
  obtain⟨a0,a1,a2,a3,_⟩:=ay H7.out.k6
  obtain⟨b0,b1,b2,b3,b4,b5,b6,_⟩:=aB H7.out.k7
  simp only[Sv.v]at a0 a1 a2 a3 b4 b5 b6
  go_wp2
  refine bodyPost_ret (v:=.tuple #[.agg #[.slice ca cn cc,.slice fa aX fc,.slice la ln lc,.slice ba b_n bc],.agg #[.int .i64 y1,.int .i64 y2,.int .i64 y3,.int .i64 y4,.slice y5 y6 y7,.slice y8 y9 bW,.slice bX cB y13],.int .i64 0]) (by simp[results,Tryz.results78,go_sem, *]) rfl (show jC _ _ _ _ _ _ _ from ?_)
  exact⟨⟨⟨ca,cn,cc⟩,⟨fa,aX,fc⟩,⟨la,ln,lc⟩,⟨ba,b_n,bc⟩⟩,⟨y1,y2,y3,y4,⟨y5,y6,y7⟩,⟨y8,y9,bW⟩,⟨bX,cB,y13⟩⟩,by rw[HE.out],H7.out.aZ,fun _=>yA.out⟩
end Go.Proofs.YtlfopoimbbpfdaaGreat
