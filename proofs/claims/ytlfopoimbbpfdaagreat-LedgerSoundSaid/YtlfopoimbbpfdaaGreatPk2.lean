/- What the law asks, in parts: WkA LSa Hs ZA LWkE. -/
import Derived.Test.YtlfopoimbbpfdaaGreatRows
import Derived.Test.YtlfopoimbbpfdaaGreatPk0
import Derived.Test.YtlfopoimbbpfdaaGreatPk1
set_option linter.all false
set_option maxRecDepth 100000
set_option maxHeartbeats 16000000
namespace Go.Proofs.YtlfopoimbbpfdaaGreat
open Go.RowKit
theorem KP (v:Value) (l:List Rg) (w:World) (h:fD w v l) (hs:Small l) (hl:l.length<1000000):
  Calls Tryz.prog 123 #[v] w fun e w'=>e= .returned (.int .i64 (dG l))∧Below w.heap.size w w':=by
 obtain⟨ao,cap,rfl,dO,hm⟩:=Sl.shape h
 go_enter Tryz.func123,Tryz.ntmps123
 go_wp2
 go_loopw[3,8] (fun n i wr=>∃k:Nat,k≤l.length∧i= .int .i64 k∧n= .int .i64 (dG (l.take k))∧Below w.heap.size w wr) (fun _ i _=>l.length-(intOf i).toNat)
 case atStart=>exact⟨0,Nat.zero_le _,rfl,rfl,aL _ _⟩
 case round=>
  obtain⟨k,hk,rfl,rfl,hb⟩:=hrel;by_cases bA:k<l.length
  ·obtain⟨b,off,rfl,kZ,lF,je⟩:=h.pair hb (aC _) k bA
   have hz:=hb.size;have hbd:=kR _ (hs.take k);have hr:=hs l[k] (List.getElem_mem _);have KQ:(l.take k).length≤k:=List.length_take_le _ _;have HT:=ah (sJ (l.take k) [l[k]]);have HS:=ah (aS l k bA);generalize l[k]=r at*;obtain⟨p,q⟩:=r;simp only at lF je hr;obtain⟨vQ,uH,KR⟩:=hr;obtain⟨Y9,Y_⟩:=hbd;go_wp2;go_roundw
   case rel=>exact⟨k+1,by omega,by go_num,by rw[HS.out,HT.out];simp[dG],hb.alloc hz _⟩
   case measure=>simp[intOf];omega
  ·go_wp2
   go_ret;exact⟨eH (by rw[List.take_of_length_le (by omega)]),hb⟩
theorem Dj (l:List Rg) (p q n:Int):dM (l++ [(p,q)]) n=(dM l n||(decide (p≤n)&&decide (n<q))):=by
 simp[dM]
theorem El (v:Value) (l:List Rg) (n:Int) (w:World) (h:fD w v l) (_hl:l.length<1000000):
  Calls Tryz.prog 89 #[v,.int .i64 n] w fun e w'=>e= .returned (.bool (dM l n))∧Below w.heap.size w w':=by
 obtain⟨ao,cap,rfl,dO,hm⟩:=Sl.shape h
 go_enter Tryz.func89,Tryz.ntmps89
 go_wp2
 go_loopw[9] (fun i wr=>∃k:Nat,k≤l.length∧i= .int .i64 k∧dM (l.take k) n=false∧Below w.heap.size w wr) (fun i _=>l.length-(intOf i).toNat)
 case atStart=>exact⟨0,Nat.zero_le _,rfl,rfl,aL _ _⟩
 case round=>
  obtain⟨k,hk,rfl,hh,hb⟩:=hrel;by_cases bA:k<l.length
  ·obtain⟨b,off,rfl,kZ,lF,je⟩:=h.pair hb (aC _) k bA
   have hz:=hb.size;have HS:=ah (aS l k bA);have HD:=ah (List.take_append_drop (k+1) l);have HH:=ah hh;clear hh;generalize l[k]=r at*;obtain⟨p,q⟩:=r;simp only at lF je;by_cases h1:p≤n
   ·by_cases h2:n<q
    ·go_wp2
     go_ret;refine⟨aH ?_,hb.alloc hz _⟩
     have e:dM (l.take (k+1)++l.drop (k+1)) n=true:=by
      rw[HS.out];simp[dM,h1,h2]
     rw[HD.out]at e;exact e.symm
    ·go_wp2
     go_roundw
     case rel=>exact⟨k+1,by omega,by go_num,by rw[HS.out,Dj,HH.out];simp[h2],hb.alloc hz _⟩
     case measure=>simp[intOf];omega
   ·go_wp2
    go_roundw
    case rel=>exact⟨k+1,by omega,by go_num,by rw[HS.out,Dj,HH.out];simp[h1],hb.alloc hz _⟩
    case measure=>simp[intOf];omega
  ·have HH:=ah hh
   clear hh;go_wp2;go_ret;refine⟨aH ?_,hb⟩;have:=HH.out;rw[List.take_of_length_le (by omega)]at this;exact this.symm
end Go.Proofs.YtlfopoimbbpfdaaGreat
namespace Go.Proofs.YtlfopoimbbpfdaaGreat
open Go.RowKit
theorem Tryz.Al:(Tryz.prog.info? 56).map (fun i=>(i.zero,i.size,i.bytes))=some (some (.agg #[.int .i64 0,.int .i64 0]),2,16):=by kernel_rfl
theorem FT {w:World} {ops:Array Oper} {rest:List Oper} {o:Oper} {a:Act} {Q:Exit→Act→World→Prop} (oM:o.guard=none) (s x:Operand)
  (ho:o.op= .call { callee:=.builtin .append,args:= #[s,x],argTypes:= #[26,26] })
  (base:Nat) (v:Value) (n:Nat) (l:List Rg) (hs:a.eval s=v) (dD:w.ownsRow base 56 2 v n (aR l))
  (ad:Addr) (c:Nat) (p q:Int) (hx:a.eval x= .slice (some ad) 1 c) (fZ:∀j u,[Value.int .i64 p,.int .i64 q][j]? =some u→w.cell? (ad.add j)=some u)
  (hn:n<1000000000) (gM:base≤w.heap.size)
  (h:∀v' w',w'.ownsRow base 56 2 v' (n+1) (aR (l++ [(p,q)]))→w.grownBy w' v.ownBlock→wpList Tryz.prog ops Q rest (a.put o.dst v') w'):wpList Tryz.prog ops Q (o::rest) a w:=by
 obtain⟨i,hi,kK,dX,f_⟩:=info_parts Tryz.Al;refine wpList_append_own _ oM s x 26 ho base 56 i _ 2 16 Tryz.underlying26 hi kK dX f_ rfl (by decide) v n _ hs dD ad 1 c [.int .i64 p,.int .i64 q] hx rfl fZ (by simp[Value.oneCell']) (by unfold maxLen;omega) (by omega) gM ?_;intro v' w' h1 h2 _;exact h v' w' (by rw[o8];exact h1) h2
theorem fK {w:World} {ops:Array Oper} {rest:List Oper} {o:Oper} {a:Act} {Q:Exit→Act→World→Prop} (oM:o.guard=none) (s x:Operand)
  (ho:o.op= .call { callee:=.builtin .append,args:= #[s,x],argTypes:= #[26,26] })
  (base:Nat) (v:Value) (n:Nat) (l:List Rg) (hs:a.eval s=v) (dD:w.ownsRow base 56 2 v n (aR l))
  (ad:Addr) (c:Nat) (p q:Int) (hx:a.eval x= .slice (some ad) 1 c) (fZ:∀j u,[Value.int .i64 p,.int .i64 q][j]? =some u→w.cell? (ad.add j)=some u)
  (hn:n<1000000000) (gM:base≤w.heap.size)
  (h:∀v' w',w'.ownsRow base 56 2 v' (n+1) (aR (l++ [(p,q)]))→w.grownBy w' v.ownBlock→(v'.ownBlock=v.ownBlock∨v'.ownBlock=some w.heap.size)→wpList Tryz.prog ops Q rest (a.put o.dst v') w'):wpList Tryz.prog ops Q (o::rest) a w:=by
 obtain⟨i,hi,kK,dX,f_⟩:=info_parts Tryz.Al;refine wpList_append_own_at _ oM s x 26 ho base 56 i _ 2 16 Tryz.underlying26 hi kK dX f_ rfl (by decide) v n _ hs dD ad 1 c [.int .i64 p,.int .i64 q] hx rfl fZ (by simp[Value.oneCell']) (by unfold maxLen;omega) (by omega) gM ?_;intro v' w' h1 h2 _ h3;exact h v' w' (by rw[o8];exact h1) h2 h3
theorem FU {ops:Array Oper} {o:Oper} {a:Act} {w:World} {K:Act→World→Prop} {Q:Exit→Act→World→Prop} {E:Prop}
  (hg:o.guard=none) (s x:Operand) (hop:o.op=Op.call { callee:=Callee.builtin Builtin.append,args:= #[s,x],argTypes:= #[26,26] })
  (ao:Option Addr) (k:Nat) (l:List Rg) (hs:a.eval s= .slice ao k k) (qw:Rd w ao (aR l)) (hk:l.length=k)
  (ad:Addr) (c:Nat) (p q:Int) (hx:a.eval x= .slice (some ad) 1 c) (hc:∀j u,[Value.int .i64 p,.int .i64 q][j]? =some u→w.cell? (ad.add j)=some u) (hn:k<1000000000)
  (hK:∀v' w',w'.ownsRow w.heap.size 56 2 v' (k+1) (aR (l++ [(p,q)]))→w.grownBy w' none→K (a.put o.dst v') w'):
  if Region.wanted o (yielded ops a.tmps)=true then Oper.wp Tryz.prog o a w K Q else E:=by
 obtain⟨i,hi,kK,dX,f_⟩:=info_parts Tryz.Al
 refine step_append_grows hg s x 26 hop 56 i _ 2 16 Tryz.underlying26 hi kK dX f_ rfl (by decide) ao k k (aR l) hs ?_ (by rw[j6,hk]) ?_
  ad 1 c [.int .i64 p,.int .i64 q] hx rfl hc (by simp[Value.oneCell']) (by omega) (by unfold maxLen;omega) (by omega) ?_
 ·rintro rfl
  cases l with
  | nil=>simp at hk;omega
  | cons r l=>obtain⟨a,ha,_⟩:=qw 0 _ rfl;cases ha
 ·rintro b rfl j u hu
  obtain⟨a',ha,h⟩:=qw j u hu;have e:=Option.some.inj ha;subst e;exact h
 ·intro v' w' h1 h2
  exact hK v' w' (by rw[o8];exact h1) h2
theorem xU {w:World} {ops:Array Oper} {rest:List Oper} {o:Oper} {a:Act} {Q:Exit→Act→World→Prop} (oM:o.guard=none) (s x:Operand)
  (ho:o.op= .call { callee:=.builtin .append,args:= #[s,x],argTypes:= #[26,26] })
  (base:Nat) (v:Value) (n:Nat) (l:List Rg) (hs:a.eval s=v) (dD:w.ownsRow base 56 2 v n (aR l))
  (ao:Option Addr) (m c:Nat) (l':List Rg) (hx:a.eval x= .slice ao m c) (hm:l'.length=m) (fZ:Rd w ao (aR l'))
  (hn:n+m<1000000000) (gM:base≤w.heap.size)
  (h:∀v' w',w'.ownsRow base 56 2 v' (n+m) (aR (l++l'))→w.grownBy w' v.ownBlock→wpList Tryz.prog ops Q rest (a.put o.dst v') w'):wpList Tryz.prog ops Q (o::rest) a w:=by
 obtain⟨i,hi,kK,dX,f_⟩:=info_parts Tryz.Al;refine xR oM s x 26 ho base 56 i _ 2 16 Tryz.underlying26 hi kK dX f_ rfl (by decide) v n _ hs dD ao m c (aR l') hx (by rw[j6,hm]) fZ (uR _) (by unfold maxLen;omega) (by omega) gM ?_;intro v' w' h1 h2;exact h v' w' (by rw[uF];exact h1) h2
def sO (w:World) (E e n:Nat) (cs:List Value) (en:Ending) (w':World):Prop:=
 ∃v',en= .returned v'∧w'.ownsRow w.heap.size e E v' n cs∧Below w.heap.size w w'
theorem qW (v:Value) (l:List Rg) (w:World) (h:fD w v l) (hl:l.length<1000000000):
  Calls Tryz.prog 105 #[v] w (sO w 2 56 l.length (aR l)):=by
 obtain⟨ao,cap,rfl,dO,hm⟩:=Sl.shape h;obtain⟨i,hi,kK,dX,f_⟩:=info_parts Tryz.Al
 go_enter Tryz.func105,Tryz.ntmps105
 go_wp2_with (at_make;refine wpList_make_full _ rfl _ _ 26 rfl w.heap.size 56 i _ 2 Tryz.underlying26 hi kK dX _ _ _ _ l.length rfl rfl rfl rfl ?b1 ?b2 ?b3 ?_)
 case b1=>rw[f_];omega
 case b2=>unfold maxLen;omega
 case b3=>exact aC _
 intro w1 ho hg;go_wp2_with (((with_reducible refine aZ 9 ?_);refine zw (o:=⟨some 9,_,_,_,_,_⟩) rfl _ _ _ _ rfl w.heap.size 56 i 2 Tryz.underlying26 hi dX _ _ _ _ rfl ho _ _ _ rfl (h.keep ((aL _ _).grown hg (aC _) (by simp)) (aC _)) (uR _) ?_))
 intro w2 qN iY;go_wp2;go_ret;exact⟨_,rfl,qN,((aL _ _).grown hg (aC _) (by simp)).grown iY hg.size (by intro k hk;injection hk with hk;omega)⟩
end Go.Proofs.YtlfopoimbbpfdaaGreat
namespace Go.Proofs.YtlfopoimbbpfdaaGreat
open Go.RowKit
theorem SF (x:cB) (b1 b2:Nat) (d ep:Int) (w:World) (h1:w.cell? ⟨b1,0,none⟩=some (.int .i64 d)) (h2:w.cell? ⟨b2,0,none⟩=some (.int .i64 ep)) (bB:b1<w.heap.size) (bO:b2<w.heap.size):
  Calls Tryz.prog 117 #[o9 x,.pointer (some ⟨b1,0,none⟩),.pointer (some ⟨b2,0,none⟩)] w fun e w'=>e= .returned (.bool (decide (x.dev=d)&&decide (x.epoch=ep)))∧Below w.heap.size w w':=by
 obtain⟨x1,x2,x3,x4,⟨x5,x6,x7⟩,⟨x8,x9,wh⟩,⟨wm,wz,wC⟩⟩:=x
 go_enter Tryz.func117,Tryz.ntmps117
 go_wp2
 all_goals
  go_ret;exact⟨aH (by first | (simp [*];done) | (simp [*];rfl) | (simp [*];omega)),(aL _ _).alloc (aC _) _⟩
theorem Vq {w:World} {b1 b2:Nat} {d ep:Int} (h1:w.cell? ⟨b1,0,none⟩=some (.int .i64 d)) (h2:w.cell? ⟨b2,0,none⟩=some (.int .i64 ep)) (l:List cB):og Tryz.prog w 117 #[.pointer (some ⟨b1,0,none⟩),.pointer (some ⟨b2,0,none⟩)] o9 (fun c=>decide (c.dev=d)&&decide (c.epoch=ep)) l:=by
 have bB:b1<w.heap.size:=World.block_lt_of_cell? w _ h1;have bO:b2<w.heap.size:=World.block_lt_of_cell? w _ h2;exact⟨Tryz.Y7,fun W hW x _=>SF x b1 b2 d ep W (fU h1 hW bB) (fU h2 hW bO) (Nat.lt_of_lt_of_le bB hW.size) (Nat.lt_of_lt_of_le bO hW.size)⟩
def k_ (l:List Ls) (d ep:Int):Int:=fB (fun c=>decide (c.dev=d)&&decide (c.epoch=ep)) l
theorem xV {α β:Type} {R:α→β→Prop} {p:α→Bool} {q:β→Bool}:∀ {l:List α} {m:List β},bN R l m→(∀a b,R a b→p a=q b)→fB p l=fB q m
 | [],[],_,_=>rfl
 | a::l,b::m,h,hp=>by rw[fB,fB,hp a b h.1,xV h.2 hp]
 | [],_::_,h,_=>absurd h (by simp[bN])
 | _::_,[],h,_=>absurd h (by simp[bN])
theorem Am {α β:Type} {R:α→β→Prop} {p:α→Bool} {q:β→Bool}:∀ {l:List α} {m:List β},bN R l m→(∀a b,R a b→p a=q b)→l.any p=m.any q
 | [],[],_,_=>rfl
 | a::l,b::m,h,hp=>by rw[List.any_cons,List.any_cons,hp a b h.1,Am h.2 hp]
 | [],_::_,h,_=>absurd h (by simp[bN])
 | _::_,[],h,_=>absurd h (by simp[bN])
theorem IW (x:dN) (ls:List Ls) (d ep:Int) (w:World) (h:Ei w x.l.v ls):
  Calls Tryz.prog 80 #[iJ x,.int .i64 d,.int .i64 ep] w fun e w'=>e= .returned (.int .i64 (k_ ls d ep))∧Below w.heap.size w w':=by
 obtain⟨sc,sf,sl,sb⟩:=x;obtain⟨xs,hx,xW⟩:=h;have bB:Below w.heap.size w (((w.alloc (.cells #[sc.v,sf.v,sl.v,sb.v] 30)).alloc (.cells #[.int .i64 d] 3)).alloc (.cells #[.int .i64 ep] 3)):=(((aL _ _).alloc (aC _) _).alloc (by simp) _).alloc (by simp;omega) _;have HS:=ah (dI.keep hx bB (aC _));have HC:Hid ((((w.alloc (.cells #[sc.v,sf.v,sl.v,sb.v] 30)).alloc (.cells #[.int .i64 d] 3)).alloc (.cells #[.int .i64 ep] 3)).cell? ⟨w.heap.size+1,0,none⟩=some (.int .i64 d)):=by show _=_;simp[go_sem]
 have HC2:Hid ((((w.alloc (.cells #[sc.v,sf.v,sl.v,sb.v] 30)).alloc (.cells #[.int .i64 d] 3)).alloc (.cells #[.int .i64 ep] 3)).cell? ⟨w.heap.size+2,0,none⟩=some (.int .i64 ep)):=by show _=_;simp[go_sem]
 have HB:=ah bB;have HE:Hid (k_ ls d ep=fB (fun c=>decide (c.dev=d)&&decide (c.epoch=ep)) xs):=(xV xW (fun a b r=>by rw[r.dev,r.epoch])).symm;clear hx bB xW
 go_enter Tryz.func80,Tryz.ntmps80
 go_wp2_with fail
 refine(Dh _ xs _ _ _ _ HS.out (Vq HC.out HC2.out xs)).mono ?_;rintro e w1 ⟨rfl,bO⟩;have bT:=HB.out.trans (bO.mono HB.out.size);clear HS HC HC2 HB bO;go_wp2;go_ret;exact⟨eH HE.out.symm,bT⟩
theorem FV (r:Rg) (b1:Nat) (n:Int) (w:World) (h1:w.cell? ⟨b1,0,none⟩=some (.int .i64 n)) (bB:b1<w.heap.size):
  Calls Tryz.prog 97 #[Ym r,.pointer (some ⟨b1,0,none⟩)] w fun e w'=>e= .returned (.bool (decide (r.1≤n)&&decide (n<r.2)))∧Below w.heap.size w w':=by
 obtain⟨x,y⟩:=r
 go_enter Tryz.func97,Tryz.ntmps97
 go_wp2
 all_goals
  go_ret;exact⟨aH (by first | (simp [*];done) | (simp [*];rfl) | (simp [*];omega)),(aL _ _).alloc (aC _) _⟩
theorem Tryz.MH (args:Array Value) (W:World):(callFunc 97 args).run Tryz.prog W= .ok (.enter 97 args) W:=by kernel_rfl
theorem Tryz.OM (args:Array Value) (W:World):(callFunc 95 args).run Tryz.prog W= .ok (.enter 95 args) W:=by kernel_rfl
theorem Tryz.OO (args:Array Value) (W:World):(callFunc 98 args).run Tryz.prog W= .ok (.enter 98 args) W:=by kernel_rfl
theorem Tryz.MI (args:Array Value) (W:World):(callFunc 94 args).run Tryz.prog W= .ok (.enter 94 args) W:=by kernel_rfl
theorem OP {w:World} {b1:Nat} {n:Int} (h1:w.cell? ⟨b1,0,none⟩=some (.int .i64 n)) (l:List Rg):og Tryz.prog w 97 #[.pointer (some ⟨b1,0,none⟩)] Ym (fun r=>decide (r.1≤n)&&decide (n<r.2)) l:=by
 have bB:b1<w.heap.size:=World.block_lt_of_cell? w _ h1;exact⟨Tryz.MH,fun W hW x _=>FV x b1 n W (fU h1 hW bB) (Nat.lt_of_lt_of_le bB hW.size)⟩
theorem IX (n:Int) (b1:Nat) (v:Value) (row:List Rg) (w:World) (h1:w.cell? ⟨b1,0,none⟩=some v) (bB:b1<w.heap.size) (h:fD w v row):
  Calls Tryz.prog 95 #[.int .i64 n,.pointer (some ⟨b1,0,none⟩)] w fun e w'=>e= .returned (.bool (!dM row n))∧Below w.heap.size w w':=by
 have bO:Below w.heap.size w (w.alloc (.cells #[.int .i64 n] 3)):=(aL _ _).alloc (aC _) _;have HS:=ah (fD.keep h bO (aC _));have HC:Hid ((w.alloc (.cells #[.int .i64 n] 3)).cell? ⟨w.heap.size,0,none⟩=some (.int .i64 n)):=by show _=_;simp[go_sem]
 obtain⟨ao,cap,rfl,dO,hm⟩:=Sl.shape h;obtain⟨q,hq⟩:∃q,dM row n=q:=⟨_,rfl⟩;have HH:=ah hq;clear hq h
 go_enter Tryz.func95,Tryz.ntmps95
 go_wp2_with fail
 refine(Di _ row _ _ _ _ HS.out (OP HC.out row)).mono ?_;rintro e w1 ⟨rfl,bT⟩;have bR:=bO.trans (bT.mono bO.size);have e:(row.any fun r=>decide (r.1≤n)&&decide (n<r.2))=q:=HH.out;rw[e];clear e HS HC bO bT;go_wp2;go_ret;exact⟨aH (by rw[HH.out]),bR⟩
theorem SG {w:World} {b1:Nat} {v:Value} {row:List Rg} (h1:w.cell? ⟨b1,0,none⟩=some v) (h:fD w v row) (l:List Int):og Tryz.prog w 95 #[.pointer (some ⟨b1,0,none⟩)] (fun n=> .int .i64 n) (fun n=>!dM row n) l:=by
 have bB:b1<w.heap.size:=World.block_lt_of_cell? w _ h1;exact⟨Tryz.OM,fun W hW x _=>IX x b1 v row W (fU h1 hW bB) (Nat.lt_of_lt_of_le bB hW.size) (fD.keep h hW (aC _))⟩
def Fz (l:List Int) (row:List Rg):Bool:=!l.any (fun n=>!dM row n)
theorem Dk (u v:Value) (l:List Int) (row:List Rg) (w:World) (hu:jv w u l) (h:fD w v row):
  Calls Tryz.prog 41 #[u,v] w fun e w'=>e= .returned (.bool (Fz l row))∧Below w.heap.size w w':=by
 have bO:Below w.heap.size w (w.alloc (.cells #[v] 26)):=(aL _ _).alloc (aC _) _;have HS:=ah (fD.keep h bO (aC _));have HU:=ah (jv.keep hu bO (aC _));obtain⟨ao,cap,rfl,dO,hm⟩:=Sl.shape h;obtain⟨au,cau,rfl,ah2,hmu⟩:=Sl.shape hu;have HC:Hid ((w.alloc (.cells #[.slice ao row.length cap] 26)).cell? ⟨w.heap.size,0,none⟩=some (.slice ao row.length cap)):=by show _=_;simp[go_sem]
 obtain⟨q,hq⟩:∃q,l.any (fun n=>!dM row n)=q:=⟨_,rfl⟩;have HH:=ah hq;clear hq h hu
 go_enter Tryz.func41,Tryz.ntmps41
 go_wp2_with fail
 refine(FL _ l _ _ _ _ HU.out (SG HC.out HS.out l)).mono ?_;rintro e w1 ⟨rfl,bT⟩;have bR:=bO.trans (bT.mono bO.size);rw[HH.out];clear HS HC bO bT;go_wp2;go_ret;exact⟨aH (by unfold Fz;rw[HH.out]),bR⟩
theorem IY (x:Rg) (b1:Nat) (p q:Int) (w:World) (h1:w.cell? ⟨b1,0,none⟩=some (.int .i64 p)) (h2:w.cell? ⟨b1,1,none⟩=some (.int .i64 q)) (bB:b1<w.heap.size):
  Calls Tryz.prog 98 #[Ym x,.pointer (some ⟨b1,0,none⟩)] w fun e w'=>e= .returned (.bool (decide (x.1<q)&&decide (p<x.2)))∧Below w.heap.size w w':=by
 obtain⟨x,y⟩:=x
 go_enter Tryz.func98,Tryz.ntmps98
 go_wp2
 all_goals
  go_ret;exact⟨aH (by first | (simp [*];done) | (simp [*];rfl) | (simp [*];omega)),(aL _ _).alloc (aC _) _⟩
theorem SH {w:World} {b1:Nat} {p q:Int} (h1:w.cell? ⟨b1,0,none⟩=some (.int .i64 p)) (h2:w.cell? ⟨b1,1,none⟩=some (.int .i64 q)) (l:List Rg):og Tryz.prog w 98 #[.pointer (some ⟨b1,0,none⟩)] Ym (fun x=>decide (x.1<q)&&decide (p<x.2)) l:=by
 have bB:b1<w.heap.size:=World.block_lt_of_cell? w _ h1;exact⟨Tryz.OO,fun W hW x _=>IY x b1 p q W (fU h1 hW bB) (fU h2 hW bB) (Nat.lt_of_lt_of_le bB hW.size)⟩
theorem FW (c:Sc) (b:Nat) (key:ByteArray) (w:World) (hc:w.cell? ⟨b,0,none⟩=some (.string key)) (hb:b<w.heap.size):
  Calls Tryz.prog 94 #[Y6 c,.pointer (some ⟨b,0,none⟩)] w fun e w'=>e= .returned (.bool (decide (c.key=key)))∧Below w.heap.size w w':=by
 have HK:=ah (key_eq c.key key);obtain⟨c1,c2,c3,c4,c5⟩:=c
 go_enter Tryz.func94,Tryz.ntmps94
 go_wp2;go_ret;exact⟨aH HK.out,(aL _ _).alloc (aC _) _⟩
theorem Vr {w:World} {b:Nat} {key:ByteArray} (hc:w.cell? ⟨b,0,none⟩=some (.string key)) (l:List Sc):og Tryz.prog w 94 #[.pointer (some ⟨b,0,none⟩)] Y6 (fun c=>decide (c.key=key)) l:=by
 have hb:b<w.heap.size:=World.block_lt_of_cell? w _ hc;exact⟨Tryz.MI,fun W hW x _=>FW x b key W (fU hc hW hb) (Nat.lt_of_lt_of_le hb hW.size)⟩
theorem sP (v:Value) (l:List Rg) (n:Int) (w:World) (h:fD w v l):
  Calls Tryz.prog 90 #[v,.int .i64 n] w fun e w'=>e= .returned (.bool (dM l n))∧w'=w:=by
 obtain⟨ao,cap,rfl,dO,hm⟩:=Sl.shape h
 go_enter Tryz.func90,Tryz.ntmps90
 go_wp2
 go_loop[5] (fun i=>∃j:Nat,j≤l.length∧i= .int .i64 j∧Hid (dM (l.take j) n=false)) (fun i=>l.length-(intOf i).toNat)
 case atStart=>exact⟨0,Nat.zero_le _,rfl,ah (by simp[dM])⟩
 case round=>
  obtain⟨j,hj,rfl,HJ⟩:=hrel;by_cases bA:j<l.length
  ·obtain⟨b,off,rfl,kZ,c0,c1⟩:=fD.pair h (aL _ _) (aC _) j bA
   have t_:(j:Int)<l.length:=by omega
   have HS:=ah (aS l j bA)
   have HX:Hid (l[j].1≤n→n<l[j].2→dM l n=true):=ah (fun h1 h2=>by
    unfold dM;rw[List.any_eq_true];exact⟨l[j],List.getElem_mem _,by simp[h1,h2]⟩)
   have HN:Hid (¬ (l[j].1≤n∧n<l[j].2)→dM (l.take (j+1)) n=false):=ah (fun h1=>by
    have h0:=HJ.out;unfold dM at h0⊢;rw[HS.out,List.any_append,h0];simp;intro h2
    omega)
   generalize l[j]=r at*;obtain⟨p,q⟩:=r;simp only at c0 c1 HX HN;by_cases h1:p≤n
   ·by_cases h2:n<q
    ·go_wp2
     go_ret;exact⟨aH (by rw[HX.out h1 h2]),rfl⟩
    ·have qO:=ah (HN.out (fun e=>h2 e.2))
     go_wp2;go_round
     case rel=>exact⟨j+1,by omega,by go_num,qO⟩
     case measure=>simp[intOf];omega
   ·have qO:=ah (HN.out (fun e=>h1 e.1))
    have e1:decide (p≤n)=false:=by simpa using h1
    go_wp2;go_round
    case rel=>exact⟨j+1,by omega,by go_num,qO⟩
    case measure=>simp[intOf];omega
  ·have HF:Hid (dM l n=false):=ah (by have:=HJ.out;rwa [List.take_of_length_le (by omega)]at this)
   have e1:decide (j<l.length)=false:=by simpa using bA
   go_wp2;go_ret;exact⟨aH HF.out.symm,rfl⟩
def lg (l:List Ls) (d:Int):Int:=fB (fun c=>decide (c.dev=d)) l
theorem zV (x:dN) (ls:List Ls) (d:Int) (w:World) (h:Ei w x.l.v ls):
  Calls Tryz.prog 76 #[iJ x,.int .i64 d] w fun e w'=>e= .returned (.int .i64 (lg ls d))∧Below w.heap.size w w':=by
 obtain⟨sc,sf,⟨ao,n,cap⟩,sb⟩:=x;obtain⟨l,hx,xW⟩:=h;have sQ:lg ls d=fB (fun c:cB=>decide (c.dev=d)) l:=(xV xW (fun a b r=>by rw[r.dev])).symm;rw[sQ];clear sQ xW;obtain⟨hn,dO,hm⟩:=Sl.lens hx;simp only at hx hn dO hm;subst hn;have bB:Below w.heap.size w (w.alloc (.cells #[sc.v,sf.v,.slice ao l.length cap,sb.v] 30)):=(aL _ _).alloc (aC _) _;have HB:=ah bB;clear bB;change Calls Tryz.prog _ #[.agg #[sc.v,sf.v,.slice ao l.length cap,sb.v],.int .i64 d] w _
 go_enter Tryz.func76,Tryz.ntmps76
 go_wp2
 go_loop[5] (fun vk=>∃k:Nat,k≤l.length∧vk= .int .i64 k∧(∀j (hj:j<l.length),j<k→decide (l[j].dev=d)=false)) (fun vk=>l.length-(intOf vk).toNat)
 case atStart=>exact⟨0,Nat.zero_le _,rfl,fun j _ hj=>by omega⟩
 case round=>
  obtain⟨k,hk,rfl,hj⟩:=hrel;have HJ:=ah hj;clear hj;rcases Nat.lt_or_ge k l.length with bA | gX
  ·obtain⟨b,off,rfl,kZ,c0,-⟩:=dI.ls hx HB.out (aC _) k bA
   have jK:(k:Int)<l.length:=by omega
   by_cases hq:l[k].dev=d
   ·have Ak:Hid (fB (fun c:cB=>decide (c.dev=d)) l=k):=ah (kG (p:=fun c:cB=>decide (c.dev=d)) (l:=l) k bA (fun j hj=>HJ.out j (by omega) hj) (by simpa using hq))
    rw[hq]at c0;clear HJ hq;go_wp2;go_ret;exact⟨eH (by rw[Ak.out]),HB.out⟩
   ·have zU:Hid (∀j (hj:j<l.length),j<k+1→decide (l[j].dev=d)=false):=ah (fun j hj Df=>by
     by_cases qV:j=k
     ·subst qV;simpa using hq
     ·exact HJ.out j hj (by omega))
    have e1:(l[k].dev==d)=false:=by simpa using hq
    clear HJ hq;go_wp2;go_round
    case rel=>exact⟨k+1,by omega,by go_num,zU.out⟩
    case measure=>simp[intOf];omega
  ·have HK:=ah gX
   have e1:decide (k<l.length)=false:=by simpa using gX
   go_wp2;go_ret;exact⟨eH (by rw[gF (fun x hx=>by obtain⟨j,hj,rfl⟩:=List.getElem_of_mem hx;exact HJ.out j hj (by have:=HK.out;omega))]),HB.out⟩
def uT (l:List Wn) (k:Nat):Bool:=(l.take k).any fun x=>decide (x.key=(l.getD k ⟨⟨#[]⟩,0,0,0⟩).key)
theorem MJ (v:Value) (l:List Wn) (k:Nat) (w:World) (h:sM w v l) (hk:k<l.length) (_hl:l.length<1000000):
  Calls Tryz.prog 77 #[v,.int .i64 k] w fun e w'=>e= .returned (.bool (uT l k))∧Below w.heap.size w w':=by
 obtain⟨ao,cap,rfl,dO,hm⟩:=Sl.shape h;have HT:Hid (uT l k=(l.take k).any fun x=>decide (x.key=l[k].key)):=ah (by unfold uT;rw[List.getD_eq_getElem?_getD,List.getElem?_eq_getElem hk];rfl);have jK:(k:Int)<l.length:=by omega
 go_enter Tryz.func77,Tryz.ntmps77
 go_wp2
 go_loopw[5] (fun i wr=>∃j:Nat,j≤k∧i= .int .i64 j∧Hid ((l.take j).any (fun x=>decide (x.key=l[k].key))=false)∧Below w.heap.size w wr) (fun i _=>k-(intOf i).toNat)
 case atStart=>exact⟨0,Nat.zero_le _,rfl,ah (by simp),aL _ _⟩
 case round=>
  obtain⟨j,hj,rfl,HJ,hb⟩:=hrel;by_cases bA:j<k
  ·have lq:j<l.length:=by omega
   obtain⟨b,off,rfl,kZ,c0,-⟩:=dI.wn h hb (aC _) j lq;obtain⟨b',off',he,Ck,d0,-⟩:=dI.wn h hb (aC _) k hk;injection he with he;injection he with FX he2;subst FX he2;have t_:(j:Int)<k:=by omega
   have ah3:(j:Int)<l.length:=by omega
   have HE:=ah (key_eq l[j].key l[k].key);have HS:=ah (aS l j lq);obtain⟨q,hq⟩:∃q,decide (l[j].key=l[k].key)=q:=⟨_,rfl⟩;rw[hq]at HE;have HN:Hid ((l.take (j+1)).any (fun x=>decide (x.key=l[k].key))=q):=ah (by rw[HS.out,List.any_append,HJ.out];simp[hq])
   have HX:Hid (q=true→uT l k=true):=ah (fun h1=>by
    rw[HT.out,List.any_eq_true]
    exact⟨l[j],List.mem_take_iff_getElem.2 ⟨j,by omega,rfl⟩,by rw[hq];exact h1⟩)
   clear hq HS;generalize l[j].key=r at*;generalize l[k].key=s at*;have e1:=HE.out
   cases q with
   | true=>
    go_wp2;go_quiet (fail)
    go_wp2;go_ret;exact⟨aH (by rw[HX.out (by first | rfl | trivial)]),below_drewN hb _⟩
   | false=>
    go_wp2;go_quiet (fail)
    go_wp2;go_roundw
    case rel=>exact⟨j+1,by omega,by go_num,HN,below_drewN hb _⟩
    case measure=>simp[intOf];omega
  ·have e1:decide (j<k)=false:=by simpa using bA
   have Df:j=k:=by omega
   subst Df;have HF:Hid (uT l j=false):=ah (by rw[HT.out];exact HJ.out);go_wp2;go_ret;exact⟨aH HF.out.symm,hb⟩
theorem Vs (v:Value) (l:List Int) (n:Int) (w:World) (h:jv w v l):
  Calls Tryz.prog 91 #[v,.int .i64 n] w fun e w'=>e= .returned (.bool (l.contains n))∧w'=w:=by
 obtain⟨ao,cap,rfl,dO,hm⟩:=Sl.shape h
 go_enter Tryz.func91,Tryz.ntmps91
 go_wp2
 go_loop[5] (fun i=>∃j:Nat,j≤l.length∧i= .int .i64 j∧Hid ((l.take j).contains n=false)) (fun i=>l.length-(intOf i).toNat)
 case atStart=>exact⟨0,Nat.zero_le _,rfl,ah (by simp)⟩
 case round=>
  obtain⟨j,hj,rfl,HJ⟩:=hrel;by_cases bA:j<l.length
  ·obtain⟨b,off,rfl,kZ,c0⟩:=jv.cell h (aL _ _) (aC _) j bA
   have t_:(j:Int)<l.length:=by omega
   by_cases hq:l[j]=n
   ·have HX:Hid (l.contains n=true):=ah (by rw[List.contains_iff_mem,←hq];exact List.getElem_mem _)
    rw[hq]at c0;clear hq;go_wp2;go_ret;exact⟨aH (by have:=HX.out;simp at this;simp[this]),rfl⟩
   ·have HN:Hid ((l.take (j+1)).contains n=false):=ah (by rw[aS l j bA,List.contains_append,HJ.out];simp;exact fun e=>hq e.symm)
    have e1:(l[j]==n)=false:=by simpa using hq
    clear hq;go_wp2;go_round
    case rel=>exact⟨j+1,by omega,by go_num,HN⟩
    case measure=>simp[intOf];omega
  ·have HF:Hid (l.contains n=false):=ah (by have:=HJ.out;rwa [List.take_of_length_le (by omega)]at this)
   have e1:decide (j<l.length)=false:=by simpa using bA
   go_wp2;go_ret;exact⟨aH (by have:=HF.out;simp at this;simp[this]),rfl⟩
theorem bX (w:World) (a b:Obj):((w.alloc a).alloc b).heap[w.heap.size]? =some a:=by rw[Below.heap_alloc _ _ _ (by simp),heap_alloc_new]
theorem bL (w:World) (a b:Obj):((w.alloc a).alloc b).heap[w.heap.size+1]? =some b:=by
 have h:=heap_alloc_new (w.alloc a) b;simpa using h
theorem aB {w:World} {b:Nat} {a0 a1 a2 a3 a4 a5 a6:Value} {t:TypeId} (h:w.heap[b]? =some (.cells #[a0,a1,a2,a3,a4,a5,a6] t (0,0))):
  w.cell? ⟨b,0,none⟩=some a0∧w.cell? ⟨b,1,none⟩=some a1∧w.cell? ⟨b,2,none⟩=some a2∧w.cell? ⟨b,3,none⟩=some a3∧w.cell? ⟨b,4,none⟩=some a4∧w.cell? ⟨b,5,none⟩=some a5∧w.cell? ⟨b,6,none⟩=some a6∧b<w.heap.size:=by
 refine⟨?_,?_,?_,?_,?_,?_,?_,(bq h).1⟩<;>simp[World.cell?,h]
theorem ay {w:World} {b:Nat} {a0 a1 a2 a3:Value} {t:TypeId} (h:w.heap[b]? =some (.cells #[a0,a1,a2,a3] t (0,0))):
  w.cell? ⟨b,0,none⟩=some a0∧w.cell? ⟨b,1,none⟩=some a1∧w.cell? ⟨b,2,none⟩=some a2∧w.cell? ⟨b,3,none⟩=some a3∧b<w.heap.size:=by
 refine⟨?_,?_,?_,?_,(bq h).1⟩<;>simp[World.cell?,h]
theorem aj {w w':World} {b B:Nat} {o:Obj} (h:w.heap[b]? =some o) (hb:Below B w w') (hB:b<B):w'.heap[b]? =some o:=by rw[hb.block b hB];exact h
theorem mO (x y:cB) (l m:Ls) (w:World) (h:nV w x l) (h':nV w y m):
  Calls Tryz.prog 27 #[o9 x,o9 y] w fun e w'=>e= .returned (.bool (decide (l=m)))∧Below w.heap.size w w':=by
 obtain⟨X1,X2,X3,X4,⟨sa,sn,sc⟩,⟨ia,eX,ic⟩,⟨ua,FY,uc⟩⟩:=x;obtain⟨Y1,Y2,Y3,Y4,⟨sa',sn',sc'⟩,⟨Yn,MK,Yo⟩,⟨Vt,IZ,Vu⟩⟩:=y;obtain⟨l1,l2,l3,l4,l5,l6,l7⟩:=l;obtain⟨m1,m2,m3,m4,m5,m6,m7⟩:=m;obtain⟨q1,q2,q3,q4,hs,hi,hu⟩:=h;simp only at q1 q2 q3 q4;subst q1 q2 q3 q4;obtain⟨q1,q2,q3,q4,hs',hi',hu'⟩:=h';simp only at q1 q2 q3 q4;subst q1 q2 q3 q4;obtain⟨hn,dO,hm⟩:=Sl.lens hs;obtain⟨hn',mY,hm'⟩:=Sl.lens hs';simp only at hs hi hu hs' hi' hu' hn dO hm hn' mY hm';subst hn hn';have bB:Below w.heap.size w ((w.alloc (.cells #[.int .i64 X1,.int .i64 X2,.int .i64 X3,.int .i64 X4,.slice sa l5.length sc,.slice ia eX ic,.slice ua FY uc] 48)).alloc (.cells #[.int .i64 Y1,.int .i64 Y2,.int .i64 Y3,.int .i64 Y4,.slice sa' m5.length sc',.slice Yn MK Yo,.slice Vt IZ Vu] 48)):=((aL _ _).alloc (aC _) _).alloc (by simp) _;have k1:=bX w (.cells #[.int .i64 X1,.int .i64 X2,.int .i64 X3,.int .i64 X4,.slice sa l5.length sc,.slice ia eX ic,.slice ua FY uc] 48) (.cells #[.int .i64 Y1,.int .i64 Y2,.int .i64 Y3,.int .i64 Y4,.slice sa' m5.length sc',.slice Yn MK Yo,.slice Vt IZ Vu] 48);have k2:=bL w (.cells #[.int .i64 X1,.int .i64 X2,.int .i64 X3,.int .i64 X4,.slice sa l5.length sc,.slice ia eX ic,.slice ua FY uc] 48) (.cells #[.int .i64 Y1,.int .i64 Y2,.int .i64 Y3,.int .i64 Y4,.slice sa' m5.length sc',.slice Yn MK Yo,.slice Vt IZ Vu] 48);have f_:w.heap.size+1<((w.alloc (.cells #[.int .i64 X1,.int .i64 X2,.int .i64 X3,.int .i64 X4,.slice sa l5.length sc,.slice ia eX ic,.slice ua FY uc] 48)).alloc (.cells #[.int .i64 Y1,.int .i64 Y2,.int .i64 Y3,.int .i64 Y4,.slice sa' m5.length sc',.slice Yn MK Yo,.slice Vt IZ Vu] 48)).heap.size:=by simp
 have fJ:=ah k1;have eT:=ah k2;clear k1 k2;change Calls Tryz.prog _ #[.agg #[.int .i64 X1,.int .i64 X2,.int .i64 X3,.int .i64 X4,.slice sa l5.length sc,.slice ia eX ic,.slice ua FY uc],.agg #[.int .i64 Y1,.int .i64 Y2,.int .i64 Y3,.int .i64 Y4,.slice sa' m5.length sc',.slice Yn MK Yo,.slice Vt IZ Vu]] w _
 go_enter Tryz.func27,Tryz.ntmps27
 go_upto_region 1 with fail
 generalize (w.alloc (.cells #[.int .i64 X1,.int .i64 X2,.int .i64 X3,.int .i64 X4,.slice sa l5.length sc,.slice ia eX ic,.slice ua FY uc] 48)).alloc (.cells #[.int .i64 Y1,.int .i64 Y2,.int .i64 Y3,.int .i64 Y4,.slice sa' m5.length sc',.slice Yn MK Yo,.slice Vt IZ Vu] 48)=w2 at*;have hs2:=hs.keep bB (aC _);have acT:=hs'.keep bB (aC _);have hi2:=fD.keep hi bB (aC _);have acU:=fD.keep hi' bB (aC _);have FZ:=jv.keep hu bB (aC _);have SI:=jv.keep hu' bB (aC _);clear hs hs' hi hi' hu hu'
 go_cut[0,1,56] (fun _ _ v56 wx=>v56= .bool (!(decide (X1=Y1)&&(decide (X2=Y2)&&(decide (X3=Y3)&&(decide (X4=Y4)&&(decide (l5.length=m5.length)&&(decide (l6=m6)&&decide (l7=m7))))))))∧Below w2.heap.size w2 wx)
 case first=>
  obtain⟨a0,a1,a2,a3,a4,a5,a6,_⟩:=aB fJ.out;obtain⟨b0,b1,b2,b3,b4,b5,b6,_⟩:=aB eT.out;have KS:Hid (∀W,Below w2.heap.size w2 W→(W.cell? ⟨w.heap.size,6,none⟩=some (.slice ua FY uc)∧W.cell? ⟨w.heap.size+1,6,none⟩=some (.slice Vt IZ Vu))):=fun W hW=>⟨by rw[hW.cell (p:=⟨w.heap.size,6,none⟩) (by show w.heap.size<_;omega)];exact a6,by rw[hW.cell (p:=⟨w.heap.size+1,6,none⟩) f_];exact b6⟩
  go_wp2_with (first
   | (go_at_call 60;refine(FQ _ _ _ _ _ hi2 acU).mono ?_;rintro e w3 ⟨rfl,bT⟩;obtain⟨c6,c6'⟩:=KS.out _ bT)
   | (go_at_call 61;refine(FR _ _ _ _ _ (jv.keep FZ bT (aC _)) (jv.keep SI bT (aC _))).mono ?_;rintro e w4 ⟨rfl,bR⟩))
  all_goals go_meet
  all_goals refine⟨?_,?_⟩
  all_goals first
   | exact bT.trans (bR.mono bT.size)
   | exact bT
   | exact aL _ _
   | (simp [*];done)
   | (simp [*];omega)
   | (have gl:¬l5.length=m5.length:=by omega
      simp[*];done)
 case rest=>
 obtain⟨hv,hb⟩:=hcut;generalize hbb:(decide (X1=Y1)&&(decide (X2=Y2)&&(decide (X3=Y3)&&(decide (X4=Y4)&&(decide (l5.length=m5.length)&&(decide (l6=m6)&&decide (l7=m7)))))))=bb at*;subst hv
 cases bb with
 | false=>
  have HF:Hid (decide ((⟨X1,X2,X3,X4,l5,l6,l7⟩:Ls)=⟨Y1,Y2,Y3,Y4,m5,m6,m7⟩)=false):=by
   show _=_;rw[decide_eq_false_iff_not];intro e;injection e with e1 e2 e3 e4 e5 e6 e7;subst e1 e2 e3 e4 e5 e6 e7;simp at hbb
  have jW:=bB.trans (hb.mono bB.size);clear hbb;go_wp2;go_ret;exact⟨aH HF.out.symm,jW⟩
 | true=>
  simp only[Bool.and_eq_true,decide_eq_true_iff]at hbb;obtain⟨e1,e2,e3,e4,e5,e6,e7⟩:=hbb
  have HF:Hid (decide ((⟨X1,X2,X3,X4,l5,l6,l7⟩:Ls)=⟨Y1,Y2,Y3,Y4,m5,m6,m7⟩)=decide (l5=m5)):=by
   show _=_;rw[decide_eq_decide];subst e1 e2 e3 e4 e6 e7;exact⟨fun e=>by injection e,fun e=>by rw[e]⟩
  have iL:=ah e5;clear e1 e2 e3 e4 e5 e6 e7;go_wp2
  go_loopw[5] (fun vi wr=>∃k:Nat,k≤l5.length∧vi= .int .i64 k∧l5.take k=m5.take k∧Below w2.heap.size w2 wr) (fun vi _=>l5.length-(intOf vi).toNat)
  case atStart=>exact⟨0,Nat.zero_le _,rfl,rfl,hb⟩
  case round=>
   obtain⟨k,hk,rfl,htk,xJ⟩:=hrel;have HT:=ah htk;clear htk;obtain⟨a0,a1,a2,a3,a4,a5,a6,_⟩:=aB (aj fJ.out xJ (by omega));obtain⟨b0,b1,b2,b3,b4,b5,b6,_⟩:=aB (aj eT.out xJ f_);clear a0 a1 a2 a3 a5 a6 b0 b1 b2 b3 b5 b6;rcases Nat.lt_or_ge k l5.length with bA | gX
   ·have sN:k<m5.length:=by rw[←iL.out];exact bA
    obtain⟨b,off,rfl,kZ,c0,c1,c2,c3,c4⟩:=dI.sc hs2 xJ (aC _) k bA;obtain⟨b',off',rfl,Ck,d0,d1,d2,d3,d4⟩:=dI.sc acT xJ (aC _) k sN;have HS:Hid (l5[k]=m5[k]→l5.take (k+1)=m5.take (k+1)):=fun hh=>by rw[aS l5 k bA,aS m5 k sN,HT.out,hh]
    have mM:Hid (l5[k]≠m5[k]→decide (l5=m5)=false):=fun hh=>by
     rw[decide_eq_false_iff_not];rintro rfl;exact hh rfl
    have Em:Below w.heap.size w wr:=bB.trans (xJ.mono bB.size);have jK:(k:Int)<l5.length:=by omega
    have Za:(k:Int)<m5.length:=by omega
    generalize l5[k]=r at*;generalize m5[k]=r' at*;obtain⟨r1,r2,r3,r4,r5⟩:=r;obtain⟨t1,t2,t3,t4,t5⟩:=r';simp only at c0 c1 c2 c3 c4 d0 d1 d2 d3 d4;by_cases g0:r1=t1
    ·subst g0
     by_cases g1:r2=t2
     ·subst g1
      by_cases g2:r3=t3
      ·subst g2
       by_cases g3:r4=t4
       ·subst g3
        by_cases g4:r5=t5
        ·subst g4
         have Vv:=ah (HS.out (by first | rfl | trivial));clear HS mM;go_wp2;go_quiet (fail)
         go_wp2;go_roundw
         case rel=>exact⟨k+1,by omega,by go_num,Vv.out,below_drewN xJ _⟩
         case measure=>simp[intOf];omega
        ·have s1:(r5==t5)=false:=by simpa using g4
         have HN:=ah g4;clear g4;have sS:=ah (mM.out (by intro e;injection e with e1 e2 e3 e4 e5;exact HN.out e5));clear HS mM;go_wp2;go_quiet (fail)
         go_wp2;go_ret;exact⟨aH (by rw[HF.out,sS.out]),below_drewN Em _⟩
       ·have s1:(r4==t4)=false:=by simpa using g3
        have HN:=ah g3;clear g3;have sS:=ah (mM.out (by intro e;injection e with e1 e2 e3 e4 e5;exact HN.out e4));clear HS mM;go_wp2;go_quiet (fail)
        go_wp2;go_ret;exact⟨aH (by rw[HF.out,sS.out]),below_drewN Em _⟩
      ·have s1:(r3==t3)=false:=by simpa using g2
       have HN:=ah g2;clear g2;have sS:=ah (mM.out (by intro e;injection e with e1 e2 e3 e4 e5;exact HN.out e3));clear HS mM;go_wp2;go_quiet (fail)
       go_wp2;go_ret;exact⟨aH (by rw[HF.out,sS.out]),below_drewN Em _⟩
     ·have s1:(r2==t2)=false:=by simpa using g1
      have HN:=ah g1;clear g1;have sS:=ah (mM.out (by intro e;injection e with e1 e2 e3 e4 e5;exact HN.out e2));clear HS mM;go_wp2;go_quiet (fail)
      go_wp2;go_ret;exact⟨aH (by rw[HF.out,sS.out]),below_drewN Em _⟩
    ·have s1:(r1.toList==t1.toList)=false:=by rw[key_eq];simpa using g0
     have HN:=ah g0;clear g0;have sS:=ah (mM.out (by intro e;injection e with e1 e2 e3 e4 e5;exact HN.out e1));clear HS mM;go_wp2;go_quiet (fail)
     go_wp2;go_ret;exact⟨aH (by rw[HF.out,sS.out]),below_drewN Em _⟩
   ·have e1:decide (k<l5.length)=false:=by simpa using gX
    have Zb:Hid (decide (l5=m5)=true):=by
     show _=_;rw[decide_eq_true_iff];have:=HT.out;rw[List.take_of_length_le (by omega),List.take_of_length_le (by have:=iL.out;omega)]at this;exact this
    have Em:Below w.heap.size w wr:=bB.trans (xJ.mono bB.size);go_wp2;go_ret;exact⟨aH (by rw[HF.out,Zb.out]),Em⟩
end Go.Proofs.YtlfopoimbbpfdaaGreat
