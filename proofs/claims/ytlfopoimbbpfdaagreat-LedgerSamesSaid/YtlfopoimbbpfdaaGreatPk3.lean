/- What the law asks, in parts: WkA LSa Hs ZA LWkE. -/
import Derived.Test.YtlfopoimbbpfdaaGreatRows
import Derived.Test.YtlfopoimbbpfdaaGreatPk1
import Derived.Test.YtlfopoimbbpfdaaGreatPk2
set_option linter.all false
namespace Go.Proofs.YtlfopoimbbpfdaaGreat
open Go.RowKit
set_option maxHeartbeats 400000 in
theorem F5 (v:Value) (l:List Rg) (w:World) (h:fq w v l) (hs:Small l) (hl:l.length<1000000):
  Calls Tryz.prog 123 #[v] w fun e w'=>e= .returned (.int .i64 (bR l))∧Below w.heap.size w w':=by
 obtain⟨ao,cap,rfl,hcap,hm⟩:=Sl.shape h
 go_enter Tryz.func123,Tryz.ntmps123
 go_wp2
 go_loopw[3,8] (fun n i wr=>∃k:Nat,k≤l.length∧i= .int .i64 k∧n= .int .i64 (bR (l.take k))∧Below w.heap.size w wr) (fun _ i _=>l.length-(intOf i).toNat)
 case atStart=>exact⟨0,Nat.zero_le _,rfl,rfl,aL _ _⟩
 case round=>
  obtain⟨k,hk,rfl,rfl,hb⟩:=hrel
  by_cases hlt:k<l.length
  ·obtain⟨b,off,rfl,hbl,hc1,hc2⟩:=h.pair hb (aC _) k hlt
   have hz:=hb.size
   have hbd:=jw _ (hs.take k)
   have hr:=hs l[k] (List.getElem_mem _)
   have hln:(l.take k).length≤k:=List.length_take_le _ _
   have HT:=ah (oF (l.take k) [l[k]])
   have HS:=ah (aV l k hlt)
   generalize l[k]=r at*
   obtain⟨p,q⟩:=r
   simp only at hc1 hc2 hr
   obtain⟨hr1,hr2,hr3⟩:=hr
   obtain⟨Ui,Uj⟩:=hbd
   go_wp2
   go_roundw
   case rel=>exact⟨k+1,by omega,by go_num,by rw[HS.out,HT.out];simp[bR],hb.alloc hz _⟩
   case measure=>simp[intOf];omega
  ·go_wp2
   go_ret
   exact⟨dL (by rw[List.take_of_length_le (by omega)]),hb⟩
theorem zK (l:List Rg) (p q n:Int):eB (l++ [(p,q)]) n=(eB l n||(decide (p≤n)&&decide (n<q))):=by
 simp[eB]
set_option maxHeartbeats 400000 in
theorem Au (v:Value) (l:List Rg) (n:Int) (w:World) (h:fq w v l) (_hl:l.length<1000000):
  Calls Tryz.prog 89 #[v,.int .i64 n] w fun e w'=>e= .returned (.bool (eB l n))∧Below w.heap.size w w':=by
 obtain⟨ao,cap,rfl,hcap,hm⟩:=Sl.shape h
 go_enter Tryz.func89,Tryz.ntmps89
 go_wp2
 go_loopw[9] (fun i wr=>∃k:Nat,k≤l.length∧i= .int .i64 k∧eB (l.take k) n=false∧Below w.heap.size w wr) (fun i _=>l.length-(intOf i).toNat)
 case atStart=>exact⟨0,Nat.zero_le _,rfl,rfl,aL _ _⟩
 case round=>
  obtain⟨k,hk,rfl,hh,hb⟩:=hrel
  by_cases hlt:k<l.length
  ·obtain⟨b,off,rfl,hbl,hc1,hc2⟩:=h.pair hb (aC _) k hlt
   have hz:=hb.size
   have HS:=ah (aV l k hlt)
   have HD:=ah (List.take_append_drop (k+1) l)
   have HH:=ah hh
   clear hh
   generalize l[k]=r at*
   obtain⟨p,q⟩:=r
   simp only at hc1 hc2
   by_cases h1:p≤n
   ·by_cases h2:n<q
    ·go_wp2
     go_ret
     refine⟨aN ?_,hb.alloc hz _⟩
     have e:eB (l.take (k+1)++l.drop (k+1)) n=true:=by
      rw[HS.out];simp[eB,h1,h2]
     rw[HD.out]at e
     exact e.symm
    ·go_wp2
     go_roundw
     case rel=>exact⟨k+1,by omega,by go_num,by rw[HS.out,zK,HH.out];simp[h2],hb.alloc hz _⟩
     case measure=>simp[intOf];omega
   ·go_wp2
    go_roundw
    case rel=>exact⟨k+1,by omega,by go_num,by rw[HS.out,zK,HH.out];simp[h1],hb.alloc hz _⟩
    case measure=>simp[intOf];omega
  ·have HH:=ah hh
   clear hh
   go_wp2
   go_ret
   refine⟨aN ?_,hb⟩
   have:=HH.out
   rw[List.take_of_length_le (by omega)]at this
   exact this.symm
end Go.Proofs.YtlfopoimbbpfdaaGreat
namespace Go.Proofs.YtlfopoimbbpfdaaGreat
open Go.RowKit
theorem Tryz.wF:(Tryz.prog.info? 56).map (fun i=>(i.zero,i.size,i.bytes))=some (some (.agg #[.int .i64 0,.int .i64 0]),2,16):=by kernel_rfl
theorem Cc {w:World} {ops:Array Oper} {rest:List Oper} {o:Oper} {a:Act} {Q:Exit→Act→World→Prop} (hgd:o.guard=none) (s x:Operand)
  (ho:o.op= .call { callee:=.builtin .append,args:= #[s,x],argTypes:= #[26,26] })
  (base:Nat) (v:Value) (n:Nat) (l:List Rg) (hs:a.eval s=v) (hown:w.ownsRow base 56 2 v n (aR l))
  (ad:Addr) (c:Nat) (p q:Int) (hx:a.eval x= .slice (some ad) 1 c) (hnews:∀j u,[Value.int .i64 p,.int .i64 q][j]? =some u→w.cell? (ad.add j)=some u)
  (hn:n<1000000000) (hbase:base≤w.heap.size)
  (h:∀v' w',w'.ownsRow base 56 2 v' (n+1) (aR (l++ [(p,q)]))→w.grownBy w' v.ownBlock→wpList Tryz.prog ops Q rest (a.put o.dst v') w'):wpList Tryz.prog ops Q (o::rest) a w:=by
 obtain⟨i,hi,hz0,hz1,hz2⟩:=info_parts Tryz.wF
 refine wpList_append_own _ hgd s x 26 ho base 56 i _ 2 16 Tryz.underlying26 hi hz0 hz1 hz2 rfl (by decide) v n _ hs hown ad 1 c [.int .i64 p,.int .i64 q] hx rfl hnews (by simp[Value.oneCell']) (by unfold maxLen;omega) (by omega) hbase ?_
 intro v' w' h1 h2 _
 exact h v' w' (by rw[lV];exact h1) h2
theorem eF {w:World} {ops:Array Oper} {rest:List Oper} {o:Oper} {a:Act} {Q:Exit→Act→World→Prop} (hgd:o.guard=none) (s x:Operand)
  (ho:o.op= .call { callee:=.builtin .append,args:= #[s,x],argTypes:= #[26,26] })
  (base:Nat) (v:Value) (n:Nat) (l:List Rg) (hs:a.eval s=v) (hown:w.ownsRow base 56 2 v n (aR l))
  (ad:Addr) (c:Nat) (p q:Int) (hx:a.eval x= .slice (some ad) 1 c) (hnews:∀j u,[Value.int .i64 p,.int .i64 q][j]? =some u→w.cell? (ad.add j)=some u)
  (hn:n<1000000000) (hbase:base≤w.heap.size)
  (h:∀v' w',w'.ownsRow base 56 2 v' (n+1) (aR (l++ [(p,q)]))→w.grownBy w' v.ownBlock→(v'.ownBlock=v.ownBlock∨v'.ownBlock=some w.heap.size)→wpList Tryz.prog ops Q rest (a.put o.dst v') w'):wpList Tryz.prog ops Q (o::rest) a w:=by
 obtain⟨i,hi,hz0,hz1,hz2⟩:=info_parts Tryz.wF
 refine wpList_append_own_at _ hgd s x 26 ho base 56 i _ 2 16 Tryz.underlying26 hi hz0 hz1 hz2 rfl (by decide) v n _ hs hown ad 1 c [.int .i64 p,.int .i64 q] hx rfl hnews (by simp[Value.oneCell']) (by unfold maxLen;omega) (by omega) hbase ?_
 intro v' w' h1 h2 _ h3
 exact h v' w' (by rw[lV];exact h1) h2 h3
theorem Ce {ops:Array Oper} {o:Oper} {a:Act} {w:World} {K:Act→World→Prop} {Q:Exit→Act→World→Prop} {E:Prop}
  (hg:o.guard=none) (s x:Operand) (hop:o.op=Op.call { callee:=Callee.builtin Builtin.append,args:= #[s,x],argTypes:= #[26,26] })
  (ao:Option Addr) (k:Nat) (l:List Rg) (hs:a.eval s= .slice ao k k) (hrd:Rd w ao (aR l)) (hk:l.length=k)
  (ad:Addr) (c:Nat) (p q:Int) (hx:a.eval x= .slice (some ad) 1 c) (hc:∀j u,[Value.int .i64 p,.int .i64 q][j]? =some u→w.cell? (ad.add j)=some u) (hn:k<1000000000)
  (hK:∀v' w',w'.ownsRow w.heap.size 56 2 v' (k+1) (aR (l++ [(p,q)]))→w.grownBy w' none→K (a.put o.dst v') w'):
  if Region.wanted o (yielded ops a.tmps)=true then Oper.wp Tryz.prog o a w K Q else E:=by
 obtain⟨i,hi,hz0,hz1,hz2⟩:=info_parts Tryz.wF
 refine step_append_grows hg s x 26 hop 56 i _ 2 16 Tryz.underlying26 hi hz0 hz1 hz2 rfl (by decide) ao k k (aR l) hs ?_ (by rw[i_,hk]) ?_
  ad 1 c [.int .i64 p,.int .i64 q] hx rfl hc (by simp[Value.oneCell']) (by omega) (by unfold maxLen;omega) (by omega) ?_
 ·rintro rfl
  cases l with
  | nil=>simp at hk;omega
  | cons r l=>obtain⟨a,ha,_⟩:=hrd 0 _ rfl;cases ha
 ·rintro b rfl j u hu
  obtain⟨a',ha,h⟩:=hrd j u hu
  have e:=Option.some.inj ha
  subst e;exact h
 ·intro v' w' h1 h2
  exact hK v' w' (by rw[lV];exact h1) h2
theorem tK {w:World} {ops:Array Oper} {rest:List Oper} {o:Oper} {a:Act} {Q:Exit→Act→World→Prop} (hgd:o.guard=none) (s x:Operand)
  (ho:o.op= .call { callee:=.builtin .append,args:= #[s,x],argTypes:= #[26,26] })
  (base:Nat) (v:Value) (n:Nat) (l:List Rg) (hs:a.eval s=v) (hown:w.ownsRow base 56 2 v n (aR l))
  (ao:Option Addr) (m c:Nat) (l':List Rg) (hx:a.eval x= .slice ao m c) (hm:l'.length=m) (hnews:Rd w ao (aR l'))
  (hn:n+m<1000000000) (hbase:base≤w.heap.size)
  (h:∀v' w',w'.ownsRow base 56 2 v' (n+m) (aR (l++l'))→w.grownBy w' v.ownBlock→wpList Tryz.prog ops Q rest (a.put o.dst v') w'):wpList Tryz.prog ops Q (o::rest) a w:=by
 obtain⟨i,hi,hz0,hz1,hz2⟩:=info_parts Tryz.wF
 refine tH hgd s x 26 ho base 56 i _ 2 16 Tryz.underlying26 hi hz0 hz1 hz2 rfl (by decide) v n _ hs hown ao m c (aR l') hx (by rw[i_,hm]) hnews (qo _) (by unfold maxLen;omega) (by omega) hbase ?_
 intro v' w' h1 h2
 exact h v' w' (by rw[pW];exact h1) h2
def oJ (w:World) (E e n:Nat) (cs:List Value) (en:Ending) (w':World):Prop:=
 ∃v',en= .returned v'∧w'.ownsRow w.heap.size e E v' n cs∧Below w.heap.size w w'
set_option maxHeartbeats 400000 in
theorem nK (v:Value) (l:List Rg) (w:World) (h:fq w v l) (hl:l.length<1000000000):
  Calls Tryz.prog 105 #[v] w (oJ w 2 56 l.length (aR l)):=by
 obtain⟨ao,cap,rfl,hcap,hm⟩:=Sl.shape h
 obtain⟨i,hi,hz0,hz1,hz2⟩:=info_parts Tryz.wF
 go_enter Tryz.func105,Tryz.ntmps105
 go_wp2_with (at_make;refine wpList_make_full _ rfl _ _ 26 rfl w.heap.size 56 i _ 2 Tryz.underlying26 hi hz0 hz1 _ _ _ _ l.length rfl rfl rfl rfl ?b1 ?b2 ?b3 ?_)
 case b1=>rw[hz2];omega
 case b2=>unfold maxLen;omega
 case b3=>exact aC _
 intro w1 ho hg
 go_wp2_with (((with_reducible refine aY 9 ?_);refine vg (o:=⟨some 9,_,_,_,_,_⟩) rfl _ _ _ _ rfl w.heap.size 56 i 2 Tryz.underlying26 hi hz1 _ _ _ _ rfl ho _ _ _ rfl (h.keep ((aL _ _).grown hg (aC _) (by simp)) (aC _)) (qo _) ?_))
 intro w2 ho2 hg2
 go_wp2
 go_ret
 exact⟨_,rfl,ho2,((aL _ _).grown hg (aC _) (by simp)).grown hg2 hg.size (by intro k hk;injection hk with hk;omega)⟩
end Go.Proofs.YtlfopoimbbpfdaaGreat
namespace Go.Proofs.YtlfopoimbbpfdaaGreat
open Go.RowKit
set_option maxHeartbeats 1000000 in
theorem Nu (x:bV) (b1 b2:Nat) (d ep:Int) (w:World) (h1:w.cell? ⟨b1,0,none⟩=some (.int .i64 d)) (h2:w.cell? ⟨b2,0,none⟩=some (.int .i64 ep)) (hb1:b1<w.heap.size) (hb2:b2<w.heap.size):
  Calls Tryz.prog 117 #[nI x,.pointer (some ⟨b1,0,none⟩),.pointer (some ⟨b2,0,none⟩)] w fun e w'=>e= .returned (.bool (decide (x.dev=d)&&decide (x.epoch=ep)))∧Below w.heap.size w w':=by
 obtain⟨x1,x2,x3,x4,⟨x5,x6,x7⟩,⟨x8,x9,qV⟩,⟨qW,qX,qY⟩⟩:=x
 go_enter Tryz.func117,Tryz.ntmps117
 go_wp2
 all_goals
  go_ret
  exact⟨aN (by first | (simp [*];done) | (simp [*];rfl) | (simp [*];omega)),(aL _ _).alloc (aC _) _⟩
theorem Qk {w:World} {b1 b2:Nat} {d ep:Int} (h1:w.cell? ⟨b1,0,none⟩=some (.int .i64 d)) (h2:w.cell? ⟨b2,0,none⟩=some (.int .i64 ep)) (l:List bV):kZ Tryz.prog w 117 #[.pointer (some ⟨b1,0,none⟩),.pointer (some ⟨b2,0,none⟩)] nI (fun c=>decide (c.dev=d)&&decide (c.epoch=ep)) l:=by
 have hb1:b1<w.heap.size:=World.block_lt_of_cell? w _ h1
 have hb2:b2<w.heap.size:=World.block_lt_of_cell? w _ h2
 exact⟨Tryz.Ug,fun W hW x _=>Nu x b1 b2 d ep W (eT h1 hW hb1) (eT h2 hW hb2) (Nat.lt_of_lt_of_le hb1 hW.size) (Nat.lt_of_lt_of_le hb2 hW.size)⟩
def jF (l:List Ls) (d ep:Int):Int:=dS (fun c=>decide (c.dev=d)&&decide (c.epoch=ep)) l
theorem tL {α β:Type} {R:α→β→Prop} {p:α→Bool} {q:β→Bool}:∀ {l:List α} {m:List β},bI R l m→(∀a b,R a b→p a=q b)→dS p l=dS q m
 | [],[],_,_=>rfl
 | a::l,b::m,h,hp=>by rw[dS,dS,hp a b h.1,tL h.2 hp]
 | [],_::_,h,_=>absurd h (by simp[bI])
 | _::_,[],h,_=>absurd h (by simp[bI])
theorem wG {α β:Type} {R:α→β→Prop} {p:α→Bool} {q:β→Bool}:∀ {l:List α} {m:List β},bI R l m→(∀a b,R a b→p a=q b)→l.any p=m.any q
 | [],[],_,_=>rfl
 | a::l,b::m,h,hp=>by rw[List.any_cons,List.any_cons,hp a b h.1,wG h.2 hp]
 | [],_::_,h,_=>absurd h (by simp[bI])
 | _::_,[],h,_=>absurd h (by simp[bI])
set_option maxHeartbeats 1000000 in
theorem Eo (x:bZ) (ls:List Ls) (d ep:Int) (w:World) (h:Aq w x.l.v ls):
  Calls Tryz.prog 80 #[fT x,.int .i64 d,.int .i64 ep] w fun e w'=>e= .returned (.int .i64 (jF ls d ep))∧Below w.heap.size w w':=by
 obtain⟨sc,sf,sl,sb⟩:=x
 obtain⟨xs,hx,hxs⟩:=h
 have hb1:Below w.heap.size w (((w.alloc (.cells #[sc.v,sf.v,sl.v,sb.v] 30)).alloc (.cells #[.int .i64 d] 3)).alloc (.cells #[.int .i64 ep] 3)):=(((aL _ _).alloc (aC _) _).alloc (by simp) _).alloc (by simp;omega) _
 have HS:=ah (cK.keep hx hb1 (aC _))
 have HC:Hid ((((w.alloc (.cells #[sc.v,sf.v,sl.v,sb.v] 30)).alloc (.cells #[.int .i64 d] 3)).alloc (.cells #[.int .i64 ep] 3)).cell? ⟨w.heap.size+1,0,none⟩=some (.int .i64 d)):=by show _=_;simp[go_sem]
 have HC2:Hid ((((w.alloc (.cells #[sc.v,sf.v,sl.v,sb.v] 30)).alloc (.cells #[.int .i64 d] 3)).alloc (.cells #[.int .i64 ep] 3)).cell? ⟨w.heap.size+2,0,none⟩=some (.int .i64 ep)):=by show _=_;simp[go_sem]
 have HB:=ah hb1
 have HE:Hid (jF ls d ep=dS (fun c=>decide (c.dev=d)&&decide (c.epoch=ep)) xs):=(tL hxs (fun a b r=>by rw[r.dev,r.epoch])).symm
 clear hx hb1 hxs
 go_enter Tryz.func80,Tryz.ntmps80
 go_wp2_with fail
 refine(zI _ xs _ _ _ _ HS.out (Qk HC.out HC2.out xs)).mono ?_
 rintro e w1 ⟨rfl,hb2⟩
 have hb3:=HB.out.trans (hb2.mono HB.out.size)
 clear HS HC HC2 HB hb2
 go_wp2
 go_ret
 exact⟨dL HE.out.symm,hb3⟩
set_option maxHeartbeats 1000000 in
theorem Cg (r:Rg) (b1:Nat) (n:Int) (w:World) (h1:w.cell? ⟨b1,0,none⟩=some (.int .i64 n)) (hb1:b1<w.heap.size):
  Calls Tryz.prog 97 #[Tf r,.pointer (some ⟨b1,0,none⟩)] w fun e w'=>e= .returned (.bool (decide (r.1≤n)&&decide (n<r.2)))∧Below w.heap.size w w':=by
 obtain⟨x,y⟩:=r
 go_enter Tryz.func97,Tryz.ntmps97
 go_wp2
 all_goals
  go_ret
  exact⟨aN (by first | (simp [*];done) | (simp [*];rfl) | (simp [*];omega)),(aL _ _).alloc (aC _) _⟩
theorem Tryz.Ht (args:Array Value) (W:World):(callFunc 97 args).run Tryz.prog W= .ok (.enter 97 args) W:=by kernel_rfl
theorem Tryz.JN (args:Array Value) (W:World):(callFunc 95 args).run Tryz.prog W= .ok (.enter 95 args) W:=by kernel_rfl
theorem Tryz.JO (args:Array Value) (W:World):(callFunc 98 args).run Tryz.prog W= .ok (.enter 98 args) W:=by kernel_rfl
theorem Tryz.Hu (args:Array Value) (W:World):(callFunc 94 args).run Tryz.prog W= .ok (.enter 94 args) W:=by kernel_rfl
theorem JQ {w:World} {b1:Nat} {n:Int} (h1:w.cell? ⟨b1,0,none⟩=some (.int .i64 n)) (l:List Rg):kZ Tryz.prog w 97 #[.pointer (some ⟨b1,0,none⟩)] Tf (fun r=>decide (r.1≤n)&&decide (n<r.2)) l:=by
 have hb1:b1<w.heap.size:=World.block_lt_of_cell? w _ h1
 exact⟨Tryz.Ht,fun W hW x _=>Cg x b1 n W (eT h1 hW hb1) (Nat.lt_of_lt_of_le hb1 hW.size)⟩
set_option maxHeartbeats 1000000 in
theorem Ep (n:Int) (b1:Nat) (v:Value) (row:List Rg) (w:World) (h1:w.cell? ⟨b1,0,none⟩=some v) (hb1:b1<w.heap.size) (h:fq w v row):
  Calls Tryz.prog 95 #[.int .i64 n,.pointer (some ⟨b1,0,none⟩)] w fun e w'=>e= .returned (.bool (!eB row n))∧Below w.heap.size w w':=by
 have hb2:Below w.heap.size w (w.alloc (.cells #[.int .i64 n] 3)):=(aL _ _).alloc (aC _) _
 have HS:=ah (fq.keep h hb2 (aC _))
 have HC:Hid ((w.alloc (.cells #[.int .i64 n] 3)).cell? ⟨w.heap.size,0,none⟩=some (.int .i64 n)):=by show _=_;simp[go_sem]
 obtain⟨ao,cap,rfl,hcap,hm⟩:=Sl.shape h
 obtain⟨q,hq⟩:∃q,eB row n=q:=⟨_,rfl⟩
 have HH:=ah hq
 clear hq h
 go_enter Tryz.func95,Tryz.ntmps95
 go_wp2_with fail
 refine(zJ _ row _ _ _ _ HS.out (JQ HC.out row)).mono ?_
 rintro e w1 ⟨rfl,hb3⟩
 have hb4:=hb2.trans (hb3.mono hb2.size)
 have e:(row.any fun r=>decide (r.1≤n)&&decide (n<r.2))=q:=HH.out
 rw[e]
 clear e HS HC hb2 hb3
 go_wp2
 go_ret
 exact⟨aN (by rw[HH.out]),hb4⟩
theorem Nv {w:World} {b1:Nat} {v:Value} {row:List Rg} (h1:w.cell? ⟨b1,0,none⟩=some v) (h:fq w v row) (l:List Int):kZ Tryz.prog w 95 #[.pointer (some ⟨b1,0,none⟩)] (fun n=> .int .i64 n) (fun n=>!eB row n) l:=by
 have hb1:b1<w.heap.size:=World.block_lt_of_cell? w _ h1
 exact⟨Tryz.JN,fun W hW x _=>Ep x b1 v row W (eT h1 hW hb1) (Nat.lt_of_lt_of_le hb1 hW.size) (fq.keep h hW (aC _))⟩
def Hw (l:List Int) (row:List Rg):Bool:=!l.any (fun n=>!eB row n)
set_option maxHeartbeats 1000000 in
theorem zL (u v:Value) (l:List Int) (row:List Rg) (w:World) (hu:iW w u l) (h:fq w v row):
  Calls Tryz.prog 41 #[u,v] w fun e w'=>e= .returned (.bool (Hw l row))∧Below w.heap.size w w':=by
 have hb2:Below w.heap.size w (w.alloc (.cells #[v] 26)):=(aL _ _).alloc (aC _) _
 have HS:=ah (fq.keep h hb2 (aC _))
 have HU:=ah (iW.keep hu hb2 (aC _))
 obtain⟨ao,cap,rfl,hcap,hm⟩:=Sl.shape h
 obtain⟨au,cau,rfl,ad4,hmu⟩:=Sl.shape hu
 have HC:Hid ((w.alloc (.cells #[.slice ao row.length cap] 26)).cell? ⟨w.heap.size,0,none⟩=some (.slice ao row.length cap)):=by show _=_;simp[go_sem]
 obtain⟨q,hq⟩:∃q,l.any (fun n=>!eB row n)=q:=⟨_,rfl⟩
 have HH:=ah hq
 clear hq h hu
 go_enter Tryz.func41,Tryz.ntmps41
 go_wp2_with fail
 refine(BX _ l _ _ _ _ HU.out (Nv HC.out HS.out l)).mono ?_
 rintro e w1 ⟨rfl,hb3⟩
 have hb4:=hb2.trans (hb3.mono hb2.size)
 rw[HH.out]
 clear HS HC hb2 hb3
 go_wp2
 go_ret
 exact⟨aN (by unfold Hw;rw[HH.out]),hb4⟩
set_option maxHeartbeats 1000000 in
theorem Er (x:Rg) (b1:Nat) (p q:Int) (w:World) (h1:w.cell? ⟨b1,0,none⟩=some (.int .i64 p)) (h2:w.cell? ⟨b1,1,none⟩=some (.int .i64 q)) (hb1:b1<w.heap.size):
  Calls Tryz.prog 98 #[Tf x,.pointer (some ⟨b1,0,none⟩)] w fun e w'=>e= .returned (.bool (decide (x.1<q)&&decide (p<x.2)))∧Below w.heap.size w w':=by
 obtain⟨x,y⟩:=x
 go_enter Tryz.func98,Tryz.ntmps98
 go_wp2
 all_goals
  go_ret
  exact⟨aN (by first | (simp [*];done) | (simp [*];rfl) | (simp [*];omega)),(aL _ _).alloc (aC _) _⟩
theorem Nw {w:World} {b1:Nat} {p q:Int} (h1:w.cell? ⟨b1,0,none⟩=some (.int .i64 p)) (h2:w.cell? ⟨b1,1,none⟩=some (.int .i64 q)) (l:List Rg):kZ Tryz.prog w 98 #[.pointer (some ⟨b1,0,none⟩)] Tf (fun x=>decide (x.1<q)&&decide (p<x.2)) l:=by
 have hb1:b1<w.heap.size:=World.block_lt_of_cell? w _ h1
 exact⟨Tryz.JO,fun W hW x _=>Er x b1 p q W (eT h1 hW hb1) (eT h2 hW hb1) (Nat.lt_of_lt_of_le hb1 hW.size)⟩
set_option maxHeartbeats 1000000 in
theorem Ch (c:Sc) (b:Nat) (key:ByteArray) (w:World) (hc:w.cell? ⟨b,0,none⟩=some (.string key)) (hb:b<w.heap.size):
  Calls Tryz.prog 94 #[Qi c,.pointer (some ⟨b,0,none⟩)] w fun e w'=>e= .returned (.bool (decide (c.key=key)))∧Below w.heap.size w w':=by
 have HK:=ah (key_eq c.key key)
 obtain⟨c1,c2,c3,c4,c5⟩:=c
 go_enter Tryz.func94,Tryz.ntmps94
 go_wp2
 go_ret
 exact⟨aN HK.out,(aL _ _).alloc (aC _) _⟩
theorem Ql {w:World} {b:Nat} {key:ByteArray} (hc:w.cell? ⟨b,0,none⟩=some (.string key)) (l:List Sc):kZ Tryz.prog w 94 #[.pointer (some ⟨b,0,none⟩)] Qi (fun c=>decide (c.key=key)) l:=by
 have hb:b<w.heap.size:=World.block_lt_of_cell? w _ hc
 exact⟨Tryz.Hu,fun W hW x _=>Ch x b key W (eT hc hW hb) (Nat.lt_of_lt_of_le hb hW.size)⟩
end Go.Proofs.YtlfopoimbbpfdaaGreat
namespace Go.Proofs.YtlfopoimbbpfdaaGreat
open Go.RowKit
set_option maxHeartbeats 1000000 in
theorem wH (v:Value) (l:List Rg) (n:Int) (w:World) (h:fq w v l):
  Calls Tryz.prog 90 #[v,.int .i64 n] w fun e w'=>e= .returned (.bool (eB l n))∧w'=w:=by
 obtain⟨ao,cap,rfl,hcap,hm⟩:=Sl.shape h
 go_enter Tryz.func90,Tryz.ntmps90
 go_wp2
 go_loop[5] (fun i=>∃j:Nat,j≤l.length∧i= .int .i64 j∧Hid (eB (l.take j) n=false)) (fun i=>l.length-(intOf i).toNat)
 case atStart=>exact⟨0,Nat.zero_le _,rfl,ah (by simp[eB])⟩
 case round=>
  obtain⟨j,hj,rfl,HJ⟩:=hrel
  by_cases hlt:j<l.length
  ·obtain⟨b,off,rfl,hbl,c0,c1⟩:=fq.pair h (aL _ _) (aC _) j hlt
   have uF:(j:Int)<l.length:=by omega
   have HS:=ah (aV l j hlt)
   have HX:Hid (l[j].1≤n→n<l[j].2→eB l n=true):=ah (fun h1 h2=>by
    unfold eB;rw[List.any_eq_true];exact⟨l[j],List.getElem_mem _,by simp[h1,h2]⟩)
   have HN:Hid (¬ (l[j].1≤n∧n<l[j].2)→eB (l.take (j+1)) n=false):=ah (fun h1=>by
    have h0:=HJ.out
    unfold eB at h0⊢
    rw[HS.out,List.any_append,h0]
    simp
    intro h2
    omega)
   generalize l[j]=r at*
   obtain⟨p,q⟩:=r
   simp only at c0 c1 HX HN
   by_cases h1:p≤n
   ·by_cases h2:n<q
    ·go_wp2
     go_ret
     exact⟨aN (by rw[HX.out h1 h2]),rfl⟩
    ·have oC:=ah (HN.out (fun e=>h2 e.2))
     go_wp2
     go_round
     case rel=>exact⟨j+1,by omega,by go_num,oC⟩
     case measure=>simp[intOf];omega
   ·have oC:=ah (HN.out (fun e=>h1 e.1))
    have e1:decide (p≤n)=false:=by simpa using h1
    go_wp2
    go_round
    case rel=>exact⟨j+1,by omega,by go_num,oC⟩
    case measure=>simp[intOf];omega
  ·have HF:Hid (eB l n=false):=ah (by have:=HJ.out;rwa [List.take_of_length_le (by omega)]at this)
   have e1:decide (j<l.length)=false:=by simpa using hlt
   go_wp2
   go_ret
   exact⟨aN HF.out.symm,rfl⟩
end Go.Proofs.YtlfopoimbbpfdaaGreat
namespace Go.Proofs.YtlfopoimbbpfdaaGreat
open Go.RowKit
def jG (l:List Ls) (d:Int):Int:=dS (fun c=>decide (c.dev=d)) l
set_option maxRecDepth 100000 in
set_option maxHeartbeats 2000000 in
theorem vN (x:bZ) (ls:List Ls) (d:Int) (w:World) (h:Aq w x.l.v ls):
  Calls Tryz.prog 76 #[fT x,.int .i64 d] w fun e w'=>e= .returned (.int .i64 (jG ls d))∧Below w.heap.size w w':=by
 obtain⟨sc,sf,⟨ao,n,cap⟩,sb⟩:=x
 obtain⟨l,hx,hxs⟩:=h
 have hix:jG ls d=dS (fun c:bV=>decide (c.dev=d)) l:=(tL hxs (fun a b r=>by rw[r.dev])).symm
 rw[hix]
 clear hix hxs
 obtain⟨hn,hcap,hm⟩:=Sl.lens hx
 simp only at hx hn hcap hm
 subst hn
 have hb1:Below w.heap.size w (w.alloc (.cells #[sc.v,sf.v,.slice ao l.length cap,sb.v] 30)):=(aL _ _).alloc (aC _) _
 have HB:=ah hb1
 clear hb1
 change Calls Tryz.prog _ #[.agg #[sc.v,sf.v,.slice ao l.length cap,sb.v],.int .i64 d] w _
 go_enter Tryz.func76,Tryz.ntmps76
 go_wp2
 go_loop[5] (fun vk=>∃k:Nat,k≤l.length∧vk= .int .i64 k∧(∀j (hj:j<l.length),j<k→decide (l[j].dev=d)=false)) (fun vk=>l.length-(intOf vk).toNat)
 case atStart=>exact⟨0,Nat.zero_le _,rfl,fun j _ hj=>by omega⟩
 case round=>
  obtain⟨k,hk,rfl,hj⟩:=hrel
  have HJ:=ah hj
  clear hj
  rcases Nat.lt_or_ge k l.length with hlt | hge
  ·obtain⟨b,off,rfl,hbl,c0,-⟩:=cK.ls hx HB.out (aC _) k hlt
   have iG:(k:Int)<l.length:=by omega
   by_cases hq:l[k].dev=d
   ·have HAT:Hid (dS (fun c:bV=>decide (c.dev=d)) l=k):=ah (ji (p:=fun c:bV=>decide (c.dev=d)) (l:=l) k hlt (fun j hj=>HJ.out j (by omega) hj) (by simpa using hq))
    rw[hq]at c0
    clear HJ hq
    go_wp2
    go_ret
    exact⟨dL (by rw[HAT.out]),HB.out⟩
   ·have wE:Hid (∀j (hj:j<l.length),j<k+1→decide (l[j].dev=d)=false):=ah (fun j hj hjk=>by
     by_cases nJ:j=k
     ·subst nJ;simpa using hq
     ·exact HJ.out j hj (by omega))
    have e1:(l[k].dev==d)=false:=by simpa using hq
    clear HJ hq
    go_wp2
    go_round
    case rel=>exact⟨k+1,by omega,by go_num,wE.out⟩
    case measure=>simp[intOf];omega
  ·have HK:=ah hge
   have e1:decide (k<l.length)=false:=by simpa using hge
   go_wp2
   go_ret
   exact⟨dL (by rw[fA (fun x hx=>by obtain⟨j,hj,rfl⟩:=List.getElem_of_mem hx;exact HJ.out j hj (by have:=HK.out;omega))]),HB.out⟩
def qw (l:List Wn) (k:Nat):Bool:=(l.take k).any fun x=>decide (x.key=(l.getD k ⟨⟨#[]⟩,0,0,0⟩).key)
set_option maxRecDepth 100000 in
set_option maxHeartbeats 2000000 in
theorem Hy (v:Value) (l:List Wn) (k:Nat) (w:World) (h:oH w v l) (hk:k<l.length) (_hl:l.length<1000000):
  Calls Tryz.prog 77 #[v,.int .i64 k] w fun e w'=>e= .returned (.bool (qw l k))∧Below w.heap.size w w':=by
 obtain⟨ao,cap,rfl,hcap,hm⟩:=Sl.shape h
 have HT:Hid (qw l k=(l.take k).any fun x=>decide (x.key=l[k].key)):=ah (by unfold qw;rw[List.getD_eq_getElem?_getD,List.getElem?_eq_getElem hk];rfl)
 have iG:(k:Int)<l.length:=by omega
 go_enter Tryz.func77,Tryz.ntmps77
 go_wp2
 go_loopw[5] (fun i wr=>∃j:Nat,j≤k∧i= .int .i64 j∧Hid ((l.take j).any (fun x=>decide (x.key=l[k].key))=false)∧Below w.heap.size w wr) (fun i _=>k-(intOf i).toNat)
 case atStart=>exact⟨0,Nat.zero_le _,rfl,ah (by simp),aL _ _⟩
 case round=>
  obtain⟨j,hj,rfl,HJ,hb⟩:=hrel
  by_cases hlt:j<k
  ·have hjl:j<l.length:=by omega
   obtain⟨b,off,rfl,hbl,c0,-⟩:=cK.wn h hb (aC _) j hjl
   obtain⟨b',off',he,yD,d0,-⟩:=cK.wn h hb (aC _) k hk
   injection he with he
   injection he with he1 he2
   subst he1 he2
   have uF:(j:Int)<k:=by omega
   have ad5:(j:Int)<l.length:=by omega
   have HE:=ah (key_eq l[j].key l[k].key)
   have HS:=ah (aV l j hjl)
   obtain⟨q,hq⟩:∃q,decide (l[j].key=l[k].key)=q:=⟨_,rfl⟩
   rw[hq]at HE
   have HN:Hid ((l.take (j+1)).any (fun x=>decide (x.key=l[k].key))=q):=ah (by rw[HS.out,List.any_append,HJ.out];simp[hq])
   have HX:Hid (q=true→qw l k=true):=ah (fun h1=>by
    rw[HT.out,List.any_eq_true]
    exact⟨l[j],List.mem_take_iff_getElem.2 ⟨j,by omega,rfl⟩,by rw[hq];exact h1⟩)
   clear hq HS
   generalize l[j].key=r at*
   generalize l[k].key=s at*
   have e1:=HE.out
   cases q with
   | true=>
    go_wp2
    go_quiet (fail)
    go_wp2
    go_ret
    exact⟨aN (by rw[HX.out (by first | rfl | trivial)]),below_drewN hb _⟩
   | false=>
    go_wp2
    go_quiet (fail)
    go_wp2
    go_roundw
    case rel=>exact⟨j+1,by omega,by go_num,HN,below_drewN hb _⟩
    case measure=>simp[intOf];omega
  ·have e1:decide (j<k)=false:=by simpa using hlt
   have hjk:j=k:=by omega
   subst hjk
   have HF:Hid (qw l j=false):=ah (by rw[HT.out];exact HJ.out)
   go_wp2
   go_ret
   exact⟨aN HF.out.symm,hb⟩
set_option maxHeartbeats 1000000 in
theorem Qm (v:Value) (l:List Int) (n:Int) (w:World) (h:iW w v l):
  Calls Tryz.prog 91 #[v,.int .i64 n] w fun e w'=>e= .returned (.bool (l.contains n))∧w'=w:=by
 obtain⟨ao,cap,rfl,hcap,hm⟩:=Sl.shape h
 go_enter Tryz.func91,Tryz.ntmps91
 go_wp2
 go_loop[5] (fun i=>∃j:Nat,j≤l.length∧i= .int .i64 j∧Hid ((l.take j).contains n=false)) (fun i=>l.length-(intOf i).toNat)
 case atStart=>exact⟨0,Nat.zero_le _,rfl,ah (by simp)⟩
 case round=>
  obtain⟨j,hj,rfl,HJ⟩:=hrel
  by_cases hlt:j<l.length
  ·obtain⟨b,off,rfl,hbl,c0⟩:=iW.cell h (aL _ _) (aC _) j hlt
   have uF:(j:Int)<l.length:=by omega
   by_cases hq:l[j]=n
   ·have HX:Hid (l.contains n=true):=ah (by rw[List.contains_iff_mem,←hq];exact List.getElem_mem _)
    rw[hq]at c0
    clear hq
    go_wp2
    go_ret
    exact⟨aN (by have:=HX.out;simp at this;simp[this]),rfl⟩
   ·have HN:Hid ((l.take (j+1)).contains n=false):=ah (by rw[aV l j hlt,List.contains_append,HJ.out];simp;exact fun e=>hq e.symm)
    have e1:(l[j]==n)=false:=by simpa using hq
    clear hq
    go_wp2
    go_round
    case rel=>exact⟨j+1,by omega,by go_num,HN⟩
    case measure=>simp[intOf];omega
  ·have HF:Hid (l.contains n=false):=ah (by have:=HJ.out;rwa [List.take_of_length_le (by omega)]at this)
   have e1:decide (j<l.length)=false:=by simpa using hlt
   go_wp2
   go_ret
   exact⟨aN (by have:=HF.out;simp at this;simp[this]),rfl⟩
end Go.Proofs.YtlfopoimbbpfdaaGreat
namespace Go.Proofs.YtlfopoimbbpfdaaGreat
open Go.RowKit
theorem bJ (w:World) (a b:Obj):((w.alloc a).alloc b).heap[w.heap.size]? =some a:=by rw[Below.heap_alloc _ _ _ (by simp),heap_alloc_new]
theorem bE (w:World) (a b:Obj):((w.alloc a).alloc b).heap[w.heap.size+1]? =some b:=by
 have h:=heap_alloc_new (w.alloc a) b
 simpa using h
theorem aB {w:World} {b:Nat} {a0 a1 a2 a3 a4 a5 a6:Value} {t:TypeId} (h:w.heap[b]? =some (.cells #[a0,a1,a2,a3,a4,a5,a6] t (0,0))):
  w.cell? ⟨b,0,none⟩=some a0∧w.cell? ⟨b,1,none⟩=some a1∧w.cell? ⟨b,2,none⟩=some a2∧w.cell? ⟨b,3,none⟩=some a3∧w.cell? ⟨b,4,none⟩=some a4∧w.cell? ⟨b,5,none⟩=some a5∧w.cell? ⟨b,6,none⟩=some a6∧b<w.heap.size:=by
 refine⟨?_,?_,?_,?_,?_,?_,?_,(bg h).1⟩<;>simp[World.cell?,h]
theorem ay {w:World} {b:Nat} {a0 a1 a2 a3:Value} {t:TypeId} (h:w.heap[b]? =some (.cells #[a0,a1,a2,a3] t (0,0))):
  w.cell? ⟨b,0,none⟩=some a0∧w.cell? ⟨b,1,none⟩=some a1∧w.cell? ⟨b,2,none⟩=some a2∧w.cell? ⟨b,3,none⟩=some a3∧b<w.heap.size:=by
 refine⟨?_,?_,?_,?_,(bg h).1⟩<;>simp[World.cell?,h]
theorem aj {w w':World} {b B:Nat} {o:Obj} (h:w.heap[b]? =some o) (hb:Below B w w') (hB:b<B):w'.heap[b]? =some o:=by rw[hb.block b hB];exact h
set_option maxRecDepth 100000 in
set_option maxHeartbeats 4000000 in
theorem j4 (x y:bV) (l m:Ls) (w:World) (h:lW w x l) (h':lW w y m):
  Calls Tryz.prog 27 #[nI x,nI y] w fun e w'=>e= .returned (.bool (decide (l=m)))∧Below w.heap.size w w':=by
 obtain⟨X1,X2,X3,X4,⟨sa,sn,sc⟩,⟨ia,dz,ic⟩,⟨ua,u_n,uc⟩⟩:=x
 obtain⟨Y1,Y2,Y3,Y4,⟨sa',sn',sc'⟩,⟨Tg,Hz,Ti⟩,⟨Qn,Es,Qo⟩⟩:=y
 obtain⟨l1,l2,l3,l4,l5,l6,l7⟩:=l
 obtain⟨m1,m2,m3,m4,m5,m6,m7⟩:=m
 obtain⟨q1,q2,q3,q4,hs,hi,hu⟩:=h
 simp only at q1 q2 q3 q4
 subst q1 q2 q3 q4
 obtain⟨q1,q2,q3,q4,hs',hi',hu'⟩:=h'
 simp only at q1 q2 q3 q4
 subst q1 q2 q3 q4
 obtain⟨hn,hcap,hm⟩:=Sl.lens hs
 obtain⟨hn',j6,hm'⟩:=Sl.lens hs'
 simp only at hs hi hu hs' hi' hu' hn hcap hm hn' j6 hm'
 subst hn hn'
 have hb1:Below w.heap.size w ((w.alloc (.cells #[.int .i64 X1,.int .i64 X2,.int .i64 X3,.int .i64 X4,.slice sa l5.length sc,.slice ia dz ic,.slice ua u_n uc] 48)).alloc (.cells #[.int .i64 Y1,.int .i64 Y2,.int .i64 Y3,.int .i64 Y4,.slice sa' m5.length sc',.slice Tg Hz Ti,.slice Qn Es Qo] 48)):=((aL _ _).alloc (aC _) _).alloc (by simp) _
 have k1:=bJ w (.cells #[.int .i64 X1,.int .i64 X2,.int .i64 X3,.int .i64 X4,.slice sa l5.length sc,.slice ia dz ic,.slice ua u_n uc] 48) (.cells #[.int .i64 Y1,.int .i64 Y2,.int .i64 Y3,.int .i64 Y4,.slice sa' m5.length sc',.slice Tg Hz Ti,.slice Qn Es Qo] 48)
 have k2:=bE w (.cells #[.int .i64 X1,.int .i64 X2,.int .i64 X3,.int .i64 X4,.slice sa l5.length sc,.slice ia dz ic,.slice ua u_n uc] 48) (.cells #[.int .i64 Y1,.int .i64 Y2,.int .i64 Y3,.int .i64 Y4,.slice sa' m5.length sc',.slice Tg Hz Ti,.slice Qn Es Qo] 48)
 have hz2:w.heap.size+1<((w.alloc (.cells #[.int .i64 X1,.int .i64 X2,.int .i64 X3,.int .i64 X4,.slice sa l5.length sc,.slice ia dz ic,.slice ua u_n uc] 48)).alloc (.cells #[.int .i64 Y1,.int .i64 Y2,.int .i64 Y3,.int .i64 Y4,.slice sa' m5.length sc',.slice Tg Hz Ti,.slice Qn Es Qo] 48)).heap.size:=by simp
 have gF:=ah k1
 have fJ:=ah k2
 clear k1 k2
 change Calls Tryz.prog _ #[.agg #[.int .i64 X1,.int .i64 X2,.int .i64 X3,.int .i64 X4,.slice sa l5.length sc,.slice ia dz ic,.slice ua u_n uc],.agg #[.int .i64 Y1,.int .i64 Y2,.int .i64 Y3,.int .i64 Y4,.slice sa' m5.length sc',.slice Tg Hz Ti,.slice Qn Es Qo]] w _
 go_enter Tryz.func27,Tryz.ntmps27
 go_upto_region 1 with fail
 generalize (w.alloc (.cells #[.int .i64 X1,.int .i64 X2,.int .i64 X3,.int .i64 X4,.slice sa l5.length sc,.slice ia dz ic,.slice ua u_n uc] 48)).alloc (.cells #[.int .i64 Y1,.int .i64 Y2,.int .i64 Y3,.int .i64 Y4,.slice sa' m5.length sc',.slice Tg Hz Ti,.slice Qn Es Qo] 48)=w2 at*
 have hs2:=hs.keep hb1 (aC _)
 have YK:=hs'.keep hb1 (aC _)
 have hi2:=fq.keep hi hb1 (aC _)
 have YL:=fq.keep hi' hb1 (aC _)
 have hu2:=iW.keep hu hb1 (aC _)
 have Ny:=iW.keep hu' hb1 (aC _)
 clear hs hs' hi hi' hu hu'
 go_cut[0,1,56] (fun _ _ v56 wx=>v56= .bool (!(decide (X1=Y1)&&(decide (X2=Y2)&&(decide (X3=Y3)&&(decide (X4=Y4)&&(decide (l5.length=m5.length)&&(decide (l6=m6)&&decide (l7=m7))))))))∧Below w2.heap.size w2 wx)
 case first=>
  obtain⟨a0,a1,a2,a3,a4,a5,a6,_⟩:=aB gF.out
  obtain⟨b0,b1,b2,b3,b4,b5,b6,_⟩:=aB fJ.out
  have KS:Hid (∀W,Below w2.heap.size w2 W→(W.cell? ⟨w.heap.size,6,none⟩=some (.slice ua u_n uc)∧W.cell? ⟨w.heap.size+1,6,none⟩=some (.slice Qn Es Qo))):=fun W hW=>⟨by rw[hW.cell (p:=⟨w.heap.size,6,none⟩) (by show w.heap.size<_;omega)];exact a6,by rw[hW.cell (p:=⟨w.heap.size+1,6,none⟩) hz2];exact b6⟩
  go_wp2_with (first
   | (go_at_call 60;refine(Ca _ _ _ _ _ hi2 YL).mono ?_;rintro e w3 ⟨rfl,hb3⟩;obtain⟨c6,c6'⟩:=KS.out _ hb3)
   | (go_at_call 61;refine(Cb _ _ _ _ _ (iW.keep hu2 hb3 (aC _)) (iW.keep Ny hb3 (aC _))).mono ?_;rintro e w4 ⟨rfl,hb4⟩))
  all_goals go_meet
  all_goals refine⟨?_,?_⟩
  all_goals first
   | exact hb3.trans (hb4.mono hb3.size)
   | exact hb3
   | exact aL _ _
   | (simp [*];done)
   | (simp [*];omega)
   | (have gl:¬l5.length=m5.length:=by omega
      simp[*];done)
 case rest=>
 obtain⟨hv,hb⟩:=hcut
 generalize hbb:(decide (X1=Y1)&&(decide (X2=Y2)&&(decide (X3=Y3)&&(decide (X4=Y4)&&(decide (l5.length=m5.length)&&(decide (l6=m6)&&decide (l7=m7)))))))=bb at*
 subst hv
 cases bb with
 | false=>
  have HF:Hid (decide ((⟨X1,X2,X3,X4,l5,l6,l7⟩:Ls)=⟨Y1,Y2,Y3,Y4,m5,m6,m7⟩)=false):=by
   show _=_
   rw[decide_eq_false_iff_not]
   intro e
   injection e with e1 e2 e3 e4 e5 e6 e7
   subst e1 e2 e3 e4 e5 e6 e7
   simp at hbb
  have lN:=hb1.trans (hb.mono hb1.size)
  clear hbb
  go_wp2
  go_ret
  exact⟨aN HF.out.symm,lN⟩
 | true=>
  simp only[Bool.and_eq_true,decide_eq_true_iff]at hbb
  obtain⟨e1,e2,e3,e4,e5,e6,e7⟩:=hbb
  have HF:Hid (decide ((⟨X1,X2,X3,X4,l5,l6,l7⟩:Ls)=⟨Y1,Y2,Y3,Y4,m5,m6,m7⟩)=decide (l5=m5)):=by
   show _=_
   rw[decide_eq_decide]
   subst e1 e2 e3 e4 e6 e7
   exact⟨fun e=>by injection e,fun e=>by rw[e]⟩
  have HLEN:=ah e5
  clear e1 e2 e3 e4 e5 e6 e7
  go_wp2
  go_loopw[5] (fun vi wr=>∃k:Nat,k≤l5.length∧vi= .int .i64 k∧l5.take k=m5.take k∧Below w2.heap.size w2 wr) (fun vi _=>l5.length-(intOf vi).toNat)
  case atStart=>exact⟨0,Nat.zero_le _,rfl,rfl,hb⟩
  case round=>
   obtain⟨k,hk,rfl,htk,hbr⟩:=hrel
   have HT:=ah htk
   clear htk
   obtain⟨a0,a1,a2,a3,a4,a5,a6,_⟩:=aB (aj gF.out hbr (by omega))
   obtain⟨b0,b1,b2,b3,b4,b5,b6,_⟩:=aB (aj fJ.out hbr hz2)
   clear a0 a1 a2 a3 a5 a6 b0 b1 b2 b3 b5 b6
   rcases Nat.lt_or_ge k l5.length with hlt | hge
   ·have oI:k<m5.length:=by rw[←HLEN.out];exact hlt
    obtain⟨b,off,rfl,hbl,c0,c1,c2,c3,c4⟩:=cK.sc hs2 hbr (aC _) k hlt
    obtain⟨b',off',rfl,yD,d0,d1,d2,d3,d4⟩:=cK.sc YK hbr (aC _) k oI
    have HS:Hid (l5[k]=m5[k]→l5.take (k+1)=m5.take (k+1)):=fun hh=>by rw[aV l5 k hlt,aV m5 k oI,HT.out,hh]
    have jk:Hid (l5[k]≠m5[k]→decide (l5=m5)=false):=fun hh=>by
     rw[decide_eq_false_iff_not];rintro rfl;exact hh rfl
    have hbe:Below w.heap.size w wr:=hb1.trans (hbr.mono hb1.size)
    have iG:(k:Int)<l5.length:=by omega
    have Uk:(k:Int)<m5.length:=by omega
    generalize l5[k]=r at*
    generalize m5[k]=r' at*
    obtain⟨r1,r2,r3,r4,r5⟩:=r
    obtain⟨t1,t2,t3,t4,t5⟩:=r'
    simp only at c0 c1 c2 c3 c4 d0 d1 d2 d3 d4
    by_cases g0:r1=t1
    ·subst g0
     by_cases g1:r2=t2
     ·subst g1
      by_cases g2:r3=t3
      ·subst g2
       by_cases g3:r4=t4
       ·subst g3
        by_cases g4:r5=t5
        ·subst g4
         have Ul:=ah (HS.out (by first | rfl | trivial))
         clear HS jk
         go_wp2
         go_quiet (fail)
         go_wp2
         go_roundw
         case rel=>exact⟨k+1,by omega,by go_num,Ul.out,below_drewN hbr _⟩
         case measure=>simp[intOf];omega
        ·have s1:(r5==t5)=false:=by simpa using g4
         have HN:=ah g4
         clear g4
         have oK:=ah (jk.out (by intro e;injection e with e1 e2 e3 e4 e5;exact HN.out e5))
         clear HS jk
         go_wp2
         go_quiet (fail)
         go_wp2
         go_ret
         exact⟨aN (by rw[HF.out,oK.out]),below_drewN hbe _⟩
       ·have s1:(r4==t4)=false:=by simpa using g3
        have HN:=ah g3
        clear g3
        have oK:=ah (jk.out (by intro e;injection e with e1 e2 e3 e4 e5;exact HN.out e4))
        clear HS jk
        go_wp2
        go_quiet (fail)
        go_wp2
        go_ret
        exact⟨aN (by rw[HF.out,oK.out]),below_drewN hbe _⟩
      ·have s1:(r3==t3)=false:=by simpa using g2
       have HN:=ah g2
       clear g2
       have oK:=ah (jk.out (by intro e;injection e with e1 e2 e3 e4 e5;exact HN.out e3))
       clear HS jk
       go_wp2
       go_quiet (fail)
       go_wp2
       go_ret
       exact⟨aN (by rw[HF.out,oK.out]),below_drewN hbe _⟩
     ·have s1:(r2==t2)=false:=by simpa using g1
      have HN:=ah g1
      clear g1
      have oK:=ah (jk.out (by intro e;injection e with e1 e2 e3 e4 e5;exact HN.out e2))
      clear HS jk
      go_wp2
      go_quiet (fail)
      go_wp2
      go_ret
      exact⟨aN (by rw[HF.out,oK.out]),below_drewN hbe _⟩
    ·have s1:(r1.toList==t1.toList)=false:=by rw[key_eq];simpa using g0
     have HN:=ah g0
     clear g0
     have oK:=ah (jk.out (by intro e;injection e with e1 e2 e3 e4 e5;exact HN.out e1))
     clear HS jk
     go_wp2
     go_quiet (fail)
     go_wp2
     go_ret
     exact⟨aN (by rw[HF.out,oK.out]),below_drewN hbe _⟩
   ·have e1:decide (k<l5.length)=false:=by simpa using hge
    have Um:Hid (decide (l5=m5)=true):=by
     show _=_
     rw[decide_eq_true_iff]
     have:=HT.out
     rw[List.take_of_length_le (by omega),List.take_of_length_le (by have:=HLEN.out;omega)]at this
     exact this
    have hbe:Below w.heap.size w wr:=hb1.trans (hbr.mono hb1.size)
    go_wp2
    go_ret
    exact⟨aN (by rw[HF.out,Um.out]),hbe⟩
end Go.Proofs.YtlfopoimbbpfdaaGreat
