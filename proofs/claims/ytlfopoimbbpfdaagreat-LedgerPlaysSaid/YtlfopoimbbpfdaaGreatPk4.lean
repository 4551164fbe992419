/- What the law asks, in parts: LCl LWkG. -/
import Derived.Test.YtlfopoimbbpfdaaGreatPk2
import Derived.Test.YtlfopoimbbpfdaaGreatPk3
import Derived.Test.YtlfopoimbbpfdaaGreatPk0
set_option linter.all false
namespace Go.Proofs.YtlfopoimbbpfdaaGreat
open Go.RowKit
def wI (w:World) (E e n:Nat) (cs:List Value) (en:Ending) (w':World):Prop:=
 ∃v',en= .returned v'∧w'.ownsRow w.heap.size e E v' n cs∧Below w.heap.size w w'
theorem k_ (l:List Int):∀u∈bM l,u.oneCell'=true:=by intro u hu;simp only[bM,List.mem_map]at hu;obtain⟨n,_,rfl⟩:=hu;rfl
theorem yE (a b:List Int):bM (a++b)=bM a++bM b:=by simp[bM]
theorem Tryz.Qp:(Tryz.prog.info? 54).map (fun i=>(i.zero,i.size,i.bytes))=some (some (.agg #[.string ⟨#[]⟩,.int .i64 0,.int .i64 0,.int .i64 0,.int .i64 0,.int .i64 0,.int .i64 0]),7,64):=by kernel_rfl
theorem kU {w:World} {ops:Array Oper} {rest:List Oper} {o:Oper} {a:Act} {Q:Exit→Act→World→Prop} (hgd:o.guard=none) (s x:Operand)
  (ho:o.op= .call { callee:=.builtin .append,args:= #[s,x],argTypes:= #[25,25] })
  (base:Nat) (v:Value) (n:Nat) (l:List Ct) (hs:a.eval s=v) (hown:w.ownsRow base 54 7 v n ((aK jE) l))
  (ao:Option Addr) (m c:Nat) (p:List Ct) (hx:a.eval x= .slice ao m c) (hm:p.length=m) (hnews:Rd w ao ((aK jE) p))
  (hn:n+m<1000000000) (hbase:base≤w.heap.size)
  (h:∀v' w',w'.ownsRow base 54 7 v' (n+m) ((aK jE) (l++p))→w.grownBy w' v.ownBlock→(v'.ownBlock=v.ownBlock∨v'.ownBlock=some w.heap.size)→wpList Tryz.prog ops Q rest (a.put o.dst v') w'):wpList Tryz.prog ops Q (o::rest) a w:=by
 obtain⟨i,hi,hz0,hz1,hz2⟩:=info_parts Tryz.Qp
 refine b_ hgd s x 25 ho base 54 i _ 7 64 Tryz.underlying25 hi hz0 hz1 hz2 rfl (by decide) v n _ hs hown ao m c ((aK jE) p) hx (by rw[bL dX,hm]) hnews (eZ Ns p) (by unfold maxLen;omega) (by omega) hbase ?_
 intro v' w' h1 h2 h3
 exact h v' w' (by rw[dU];exact h1) h2 h3
theorem Tryz.Un (ad:Addr) (n c:Nat) (w:World):(binOp BinOp.eql 25 (.slice (some ad) n c) (.slice none 0 0)).run Tryz.prog w= .ok (.bool false) w:=by kernel_rfl
theorem Tryz.Qq (n c:Nat) (w:World):(binOp BinOp.eql 25 (.slice none n c) (.slice none 0 0)).run Tryz.prog w= .ok (.bool true) w:=by kernel_rfl
set_option maxRecDepth 100000 in
set_option maxHeartbeats 1000000 in
theorem Ci (v:Value) (l:List Ct) (w:World) (h:mD w v l) (hl:l.length<1000000000):
  Calls Tryz.prog 106 #[v] w (wI w 7 54 l.length ((aK jE) l)):=by
 obtain⟨ao,cap,rfl,hcap,hm⟩:=Sl.shape h
 rcases ao with _ | ad
 ·have hl0:l= []:=by
   obtain⟨_,jl,cap',he,_,_,hz,_⟩:=h
   injection he with e1 e2 e3
   subst e1
   exact List.eq_nil_of_length_eq_zero (hz rfl).1
  subst hl0
  have hnil:= Tryz.Qq 0 cap
  clear hl
  go_enter Tryz.func106,Tryz.ntmps106
  go_wp2
  go_ret
  exact⟨_,rfl,World.ownsRow_nil _ _ _ _,aL _ _⟩
 ·have hrd:=Sl.rd h
  have hnil:= Tryz.Un ad l.length cap
  go_enter Tryz.func106,Tryz.ntmps106
  go_wp2_with ((with_reducible refine aY 7 ?_);refine kU rfl _ _ rfl w.heap.size _ 0 [] rfl (cO _ _ _ _ 7 #[] 0 rfl (aC _) (by omega) rfl) (some ad) l.length cap l rfl rfl (hrd.alloc _) (by omega) (by simp) ?_;intro v3 w3 ho3 hg3 j_)
  have hb3:Below w.heap.size w w3:=((aL w.heap.size w).alloc (aC _) _).grown hg3 (by first | (simp;done) | (simp;omega)) (fun g hg=>(by have hg2:some w.heap.size=some g:=hg;injection hg2 with hg2;omega))
  rw[Nat.zero_add,List.nil_append]at ho3
  go_ret
  exact⟨_,rfl,ho3,hb3⟩
theorem Tryz.Et:(Tryz.prog.info? 88).map (fun i=>(i.zero,i.size,i.bytes))=some (some (.agg #[.string ⟨#[]⟩,.int .i64 0,.int .i64 0,.int .i64 0,.int .i64 0]),5,48):=by kernel_rfl
theorem zM {w:World} {ops:Array Oper} {rest:List Oper} {o:Oper} {a:Act} {Q:Exit→Act→World→Prop} (hgd:o.guard=none) (s x:Operand)
  (ho:o.op= .call { callee:=.builtin .append,args:= #[s,x],argTypes:= #[46,46] })
  (base:Nat) (v:Value) (n:Nat) (l:List Sc) (hs:a.eval s=v) (hown:w.ownsRow base 88 5 v n ((aK jm) l))
  (ao:Option Addr) (m c:Nat) (p:List Sc) (hx:a.eval x= .slice ao m c) (hm:p.length=m) (hnews:Rd w ao ((aK jm) p))
  (hn:n+m<1000000000) (hbase:base≤w.heap.size)
  (h:∀v' w',w'.ownsRow base 88 5 v' (n+m) ((aK jm) (l++p))→w.grownBy w' v.ownBlock→(v'.ownBlock=v.ownBlock∨v'.ownBlock=some w.heap.size)→wpList Tryz.prog ops Q rest (a.put o.dst v') w'):wpList Tryz.prog ops Q (o::rest) a w:=by
 obtain⟨i,hi,hz0,hz1,hz2⟩:=info_parts Tryz.Et
 refine b_ hgd s x 46 ho base 88 i _ 5 48 Tryz.underlying46 hi hz0 hz1 hz2 rfl (by decide) v n _ hs hown ao m c ((aK jm) p) hx (by rw[bL gK,hm]) hnews (eZ Ao p) (by unfold maxLen;omega) (by omega) hbase ?_
 intro v' w' h1 h2 h3
 exact h v' w' (by rw[dU];exact h1) h2 h3
theorem Tryz.Uo (ad:Addr) (n c:Nat) (w:World):(binOp BinOp.eql 46 (.slice (some ad) n c) (.slice none 0 0)).run Tryz.prog w= .ok (.bool false) w:=by kernel_rfl
theorem Tryz.Qr (n c:Nat) (w:World):(binOp BinOp.eql 46 (.slice none n c) (.slice none 0 0)).run Tryz.prog w= .ok (.bool true) w:=by kernel_rfl
set_option maxRecDepth 100000 in
set_option maxHeartbeats 1000000 in
theorem Cj (v:Value) (l:List Sc) (w:World) (h:Ap w v l) (hl:l.length<1000000000):
  Calls Tryz.prog 115 #[v] w (wI w 5 88 l.length ((aK jm) l)):=by
 obtain⟨ao,cap,rfl,hcap,hm⟩:=Sl.shape h
 rcases ao with _ | ad
 ·have hl0:l= []:=by
   obtain⟨_,jl,cap',he,_,_,hz,_⟩:=h
   injection he with e1 e2 e3
   subst e1
   exact List.eq_nil_of_length_eq_zero (hz rfl).1
  subst hl0
  have hnil:= Tryz.Qr 0 cap
  clear hl
  go_enter Tryz.func115,Tryz.ntmps115
  go_wp2
  go_ret
  exact⟨_,rfl,World.ownsRow_nil _ _ _ _,aL _ _⟩
 ·have hrd:=Sl.rd h
  have hnil:= Tryz.Uo ad l.length cap
  go_enter Tryz.func115,Tryz.ntmps115
  go_wp2_with ((with_reducible refine aY 7 ?_);refine zM rfl _ _ rfl w.heap.size _ 0 [] rfl (cO _ _ _ _ 5 #[] 0 rfl (aC _) (by omega) rfl) (some ad) l.length cap l rfl rfl (hrd.alloc _) (by omega) (by simp) ?_;intro v3 w3 ho3 hg3 j_)
  have hb3:Below w.heap.size w w3:=((aL w.heap.size w).alloc (aC _) _).grown hg3 (by first | (simp;done) | (simp;omega)) (fun g hg=>(by have hg2:some w.heap.size=some g:=hg;injection hg2 with hg2;omega))
  rw[Nat.zero_add,List.nil_append]at ho3
  go_ret
  exact⟨_,rfl,ho3,hb3⟩
theorem Tryz.oL:(Tryz.prog.info? 48).map (fun i=>(i.zero,i.size,i.bytes))=some (some (.agg #[.int .i64 0,.int .i64 0,.int .i64 0,.int .i64 0,.slice none 0 0,.slice none 0 0,.slice none 0 0]),7,104):=by kernel_rfl
theorem iO {w:World} {ops:Array Oper} {rest:List Oper} {o:Oper} {a:Act} {Q:Exit→Act→World→Prop} (hgd:o.guard=none) (s x:Operand)
  (ho:o.op= .call { callee:=.builtin .append,args:= #[s,x],argTypes:= #[27,27] })
  (base:Nat) (v:Value) (n:Nat) (l:List bV) (hs:a.eval s=v) (hown:w.ownsRow base 48 7 v n ((aK iZ) l))
  (ao:Option Addr) (m c:Nat) (p:List bV) (hx:a.eval x= .slice ao m c) (hm:p.length=m) (hnews:Rd w ao ((aK iZ) p))
  (hn:n+m<1000000000) (hbase:base≤w.heap.size)
  (h:∀v' w',w'.ownsRow base 48 7 v' (n+m) ((aK iZ) (l++p))→w.grownBy w' v.ownBlock→(v'.ownBlock=v.ownBlock∨v'.ownBlock=some w.heap.size)→wpList Tryz.prog ops Q rest (a.put o.dst v') w'):wpList Tryz.prog ops Q (o::rest) a w:=by
 obtain⟨i,hi,hz0,hz1,hz2⟩:=info_parts Tryz.oL
 refine b_ hgd s x 27 ho base 48 i _ 7 104 Tryz.underlying27 hi hz0 hz1 hz2 rfl (by decide) v n _ hs hown ao m c ((aK iZ) p) hx (by rw[bL iB,hm]) hnews (eZ vL p) (by unfold maxLen;omega) (by omega) hbase ?_
 intro v' w' h1 h2 h3
 exact h v' w' (by rw[dU];exact h1) h2 h3
theorem Tryz.Uq (ad:Addr) (n c:Nat) (w:World):(binOp BinOp.eql 27 (.slice (some ad) n c) (.slice none 0 0)).run Tryz.prog w= .ok (.bool false) w:=by kernel_rfl
theorem Tryz.Qs (n c:Nat) (w:World):(binOp BinOp.eql 27 (.slice none n c) (.slice none 0 0)).run Tryz.prog w= .ok (.bool true) w:=by kernel_rfl
set_option maxRecDepth 100000 in
set_option maxHeartbeats 1000000 in
theorem Ck (v:Value) (l:List bV) (w:World) (h:cK iZ 7 w v l) (hl:l.length<1000000000):
  Calls Tryz.prog 108 #[v] w (wI w 7 48 l.length ((aK iZ) l)):=by
 obtain⟨ao,cap,rfl,hcap,hm⟩:=Sl.shape h
 rcases ao with _ | ad
 ·have hl0:l= []:=by
   obtain⟨_,jl,cap',he,_,_,hz,_⟩:=h
   injection he with e1 e2 e3
   subst e1
   exact List.eq_nil_of_length_eq_zero (hz rfl).1
  subst hl0
  have hnil:= Tryz.Qs 0 cap
  clear hl
  go_enter Tryz.func108,Tryz.ntmps108
  go_wp2
  go_ret
  exact⟨_,rfl,World.ownsRow_nil _ _ _ _,aL _ _⟩
 ·have hrd:=Sl.rd h
  have hnil:= Tryz.Uq ad l.length cap
  go_enter Tryz.func108,Tryz.ntmps108
  go_wp2_with ((with_reducible refine aY 7 ?_);refine iO rfl _ _ rfl w.heap.size _ 0 [] rfl (cO _ _ _ _ 7 #[] 0 rfl (aC _) (by omega) rfl) (some ad) l.length cap l rfl rfl (hrd.alloc _) (by omega) (by simp) ?_;intro v3 w3 ho3 hg3 j_)
  have hb3:Below w.heap.size w w3:=((aL w.heap.size w).alloc (aC _) _).grown hg3 (by first | (simp;done) | (simp;omega)) (fun g hg=>(by have hg2:some w.heap.size=some g:=hg;injection hg2 with hg2;omega))
  rw[Nat.zero_add,List.nil_append]at ho3
  go_ret
  exact⟨_,rfl,ho3,hb3⟩
theorem Tryz.oM:(Tryz.prog.info? 3).map (fun i=>(i.zero,i.size,i.bytes))=some (some (.int .i64 0),1,8):=by kernel_rfl
theorem jV {w:World} {ops:Array Oper} {rest:List Oper} {o:Oper} {a:Act} {Q:Exit→Act→World→Prop} (hgd:o.guard=none) (s x:Operand)
  (ho:o.op= .call { callee:=.builtin .append,args:= #[s,x],argTypes:= #[28,28] })
  (base:Nat) (v:Value) (n:Nat) (l:List Int) (hs:a.eval s=v) (hown:w.ownsRow base 3 1 v n (bM l))
  (ao:Option Addr) (m c:Nat) (p:List Int) (hx:a.eval x= .slice ao m c) (hm:p.length=m) (hnews:Rd w ao (bM p))
  (hn:n+m<1000000000) (hbase:base≤w.heap.size)
  (h:∀v' w',w'.ownsRow base 3 1 v' (n+m) (bM (l++p))→w.grownBy w' v.ownBlock→(v'.ownBlock=v.ownBlock∨v'.ownBlock=some w.heap.size)→wpList Tryz.prog ops Q rest (a.put o.dst v') w'):wpList Tryz.prog ops Q (o::rest) a w:=by
 obtain⟨i,hi,hz0,hz1,hz2⟩:=info_parts Tryz.oM
 refine b_ hgd s x 28 ho base 3 i _ 1 8 Tryz.underlying28 hi hz0 hz1 hz2 rfl (by decide) v n _ hs hown ao m c (bM p) hx (by simp[bM,hm]) hnews (k_ p) (by unfold maxLen;omega) (by omega) hbase ?_
 intro v' w' h1 h2 h3
 exact h v' w' (by rw[yE];exact h1) h2 h3
theorem Tryz.Ur (ad:Addr) (n c:Nat) (w:World):(binOp BinOp.eql 28 (.slice (some ad) n c) (.slice none 0 0)).run Tryz.prog w= .ok (.bool false) w:=by kernel_rfl
theorem Tryz.Qt (n c:Nat) (w:World):(binOp BinOp.eql 28 (.slice none n c) (.slice none 0 0)).run Tryz.prog w= .ok (.bool true) w:=by kernel_rfl
set_option maxRecDepth 100000 in
set_option maxHeartbeats 1000000 in
theorem uG (v:Value) (l:List Int) (w:World) (h:iW w v l) (hl:l.length<1000000000):
  Calls Tryz.prog 109 #[v] w (wI w 1 3 l.length (bM l)):=by
 obtain⟨ao,cap,rfl,hcap,hm⟩:=Sl.shape h
 rcases ao with _ | ad
 ·have hl0:l= []:=by
   obtain⟨_,jl,cap',he,_,_,hz,_⟩:=h
   injection he with e1 e2 e3
   subst e1
   exact List.eq_nil_of_length_eq_zero (hz rfl).1
  subst hl0
  have hnil:= Tryz.Qt 0 cap
  clear hl
  go_enter Tryz.func109,Tryz.ntmps109
  go_wp2
  go_ret
  exact⟨_,rfl,World.ownsRow_nil _ _ _ _,aL _ _⟩
 ·have hrd:=Sl.rd h
  have hnil:= Tryz.Ur ad l.length cap
  go_enter Tryz.func109,Tryz.ntmps109
  go_wp2_with ((with_reducible refine aY 7 ?_);refine jV rfl _ _ rfl w.heap.size _ 0 [] rfl (cO _ _ _ _ 1 #[] 0 rfl (aC _) (by omega) rfl) (some ad) l.length cap l rfl rfl (hrd.alloc _) (by omega) (by simp) ?_;intro v3 w3 ho3 hg3 j_)
  have hb3:Below w.heap.size w w3:=((aL w.heap.size w).alloc (aC _) _).grown hg3 (by first | (simp;done) | (simp;omega)) (fun g hg=>(by have hg2:some w.heap.size=some g:=hg;injection hg2 with hg2;omega))
  rw[Nat.zero_add,List.nil_append]at ho3
  go_ret
  exact⟨_,rfl,ho3,hb3⟩
theorem Tryz.Qu:(Tryz.prog.info? 56).map (fun i=>(i.zero,i.size,i.bytes))=some (some (.agg #[.int .i64 0,.int .i64 0]),2,16):=by kernel_rfl
theorem mU {w:World} {ops:Array Oper} {rest:List Oper} {o:Oper} {a:Act} {Q:Exit→Act→World→Prop} (hgd:o.guard=none) (s x:Operand)
  (ho:o.op= .call { callee:=.builtin .append,args:= #[s,x],argTypes:= #[26,26] })
  (base:Nat) (v:Value) (n:Nat) (l:List Rg) (hs:a.eval s=v) (hown:w.ownsRow base 56 2 v n (aR l))
  (ao:Option Addr) (m c:Nat) (p:List Rg) (hx:a.eval x= .slice ao m c) (hm:p.length=m) (hnews:Rd w ao (aR p))
  (hn:n+m<1000000000) (hbase:base≤w.heap.size)
  (h:∀v' w',w'.ownsRow base 56 2 v' (n+m) (aR (l++p))→w.grownBy w' v.ownBlock→(v'.ownBlock=v.ownBlock∨v'.ownBlock=some w.heap.size)→wpList Tryz.prog ops Q rest (a.put o.dst v') w'):wpList Tryz.prog ops Q (o::rest) a w:=by
 obtain⟨i,hi,hz0,hz1,hz2⟩:=info_parts Tryz.Qu
 refine b_ hgd s x 26 ho base 56 i _ 2 16 Tryz.underlying26 hi hz0 hz1 hz2 rfl (by decide) v n _ hs hown ao m c (aR p) hx (by rw[i_,hm]) hnews (qo p) (by unfold maxLen;omega) (by omega) hbase ?_
 intro v' w' h1 h2 h3
 exact h v' w' (by rw[pW];exact h1) h2 h3
theorem Tryz.Us (ad:Addr) (n c:Nat) (w:World):(binOp BinOp.eql 26 (.slice (some ad) n c) (.slice none 0 0)).run Tryz.prog w= .ok (.bool false) w:=by kernel_rfl
theorem Tryz.Qv (n c:Nat) (w:World):(binOp BinOp.eql 26 (.slice none n c) (.slice none 0 0)).run Tryz.prog w= .ok (.bool true) w:=by kernel_rfl
set_option maxRecDepth 100000 in
set_option maxHeartbeats 1000000 in
theorem uH (v:Value) (l:List Rg) (w:World) (h:fq w v l) (hl:l.length<1000000000):
  Calls Tryz.prog 107 #[v] w (wI w 2 56 l.length (aR l)):=by
 obtain⟨ao,cap,rfl,hcap,hm⟩:=Sl.shape h
 rcases ao with _ | ad
 ·have hl0:l= []:=by
   obtain⟨_,jl,cap',he,_,_,hz,_⟩:=h
   injection he with e1 e2 e3
   subst e1
   exact List.eq_nil_of_length_eq_zero (hz rfl).1
  subst hl0
  have hnil:= Tryz.Qv 0 cap
  clear hl
  go_enter Tryz.func107,Tryz.ntmps107
  go_wp2
  go_ret
  exact⟨_,rfl,World.ownsRow_nil _ _ _ _,aL _ _⟩
 ·have hrd:=Sl.rd h
  have hnil:= Tryz.Us ad l.length cap
  go_enter Tryz.func107,Tryz.ntmps107
  go_wp2_with ((with_reducible refine aY 7 ?_);refine mU rfl _ _ rfl w.heap.size _ 0 [] rfl (cO _ _ _ _ 2 #[] 0 rfl (aC _) (by omega) rfl) (some ad) l.length cap l rfl rfl (hrd.alloc _) (by omega) (by simp) ?_;intro v3 w3 ho3 hg3 j_)
  have hb3:Below w.heap.size w w3:=((aL w.heap.size w).alloc (aC _) _).grown hg3 (by first | (simp;done) | (simp;omega)) (fun g hg=>(by have hg2:some w.heap.size=some g:=hg;injection hg2 with hg2;omega))
  rw[Nat.zero_add,List.nil_append]at ho3
  go_ret
  exact⟨_,rfl,ho3,hb3⟩
end Go.Proofs.YtlfopoimbbpfdaaGreat
namespace Go.Proofs.YtlfopoimbbpfdaaGreat
open Go.RowKit
structure wJ (l:Ls):Prop where
 s:l.sl.length<1000000
 i:l.ids.length<1000000
 u:l.used.length<1000000
structure iC (w:World) (B:Nat) (x:bV) (l:Ls):Prop where
 dev:x.dev=l.dev
 epoch:x.epoch=l.epoch
 bY:x.bY=l.bY
 last:x.last=l.last
 s:w.ownsRow B 88 5 x.s.v l.sl.length (aK jm l.sl)
 i:w.ownsRow B 56 2 x.i.v l.ids.length (aR l.ids)
 u:w.ownsRow B 3 1 x.u.v l.used.length (bM l.used)
theorem iC.m {w:World} {B:Nat} {x:bV} {l:Ls} (h:iC w B x l):lW w x l:=⟨h.dev,h.epoch,h.bY,h.last,aI h.s,aI h.i,aI h.u⟩
theorem iC.keep {w w':World} {B C:Nat} {x:bV} {l:Ls} (h:iC w B x l) (hb:Below C w w') (hC:w.heap.size≤C):iC w' B x l:=⟨h.dev,h.epoch,h.bY,h.last,aJ h.s hb hC,aJ h.i hb hC,aJ h.u hb hC⟩
theorem aM {w:World} {base:Nat} {e:TypeId} {E:Nat} {v:Value} {n:Nat} {xs:List Value} (h:w.ownsRow base e E v n xs) (p:Addr) (hp:p.block<base) (u:Value):(w.setCell p u).ownsRow base e E v n xs:=by
 obtain⟨h1,h2⟩:=h
 refine⟨h1,?_⟩
 rcases h2 with h2 | ⟨g,cap,cur,hv,hg,hh,r⟩
 ·exact .inl h2
 ·refine .inr ⟨g,cap,cur,hv,hg,?_,r⟩
  have:(w.setCell p u).heap[g]? =w.heap[g]? :=by simp[World.setCell,Array.getElem?_modify];omega
  rw[this];exact hh
theorem H8 {w:World} {b:Nat} {a0 a1 a2 a3 a4 a5 a6:Value} {t:TypeId} (h:w.heap[b]? =some (.cells #[a0,a1,a2,a3,a4,a5,a6] t (0,0))) (x y z:Value):
  (((w.setCell ⟨b,4,none⟩ x).setCell ⟨b,5,none⟩ y).setCell ⟨b,6,none⟩ z).heap[b]? =some (.cells #[a0,a1,a2,a3,x,y,z] t (0,0)):=by
 simp[World.setCell,Array.getElem?_modify,h]
theorem Eu (w:World) (b c:Nat) (h:b≠c) (x y z:Value) (i j k:Nat):(((w.setCell ⟨b,i,none⟩ x).setCell ⟨b,j,none⟩ y).setCell ⟨b,k,none⟩ z).heap[c]? =w.heap[c]? :=by
 simp[World.setCell,Array.getElem?_modify,h]
theorem ak {w:World} {b:Nat} {a0 a1 a2 a3 a4 a5 a6:Value} {t:TypeId} (h:w.heap[b]? =some (.cells #[a0,a1,a2,a3,a4,a5,a6] t (0,0))) (o:Nat):w.frozen? ⟨b,o,none⟩=false:=by
 simp[World.frozen?,h]
def O6 (w:World) (l:Ls) (e:Ending) (w':World):Prop:=∃x',e= .returned (nI x')∧iC w' w.heap.size x' l∧Below w.heap.size w w'
set_option maxRecDepth 100000 in
set_option maxHeartbeats 4000000 in
theorem dZ (x:bV) (l:Ls) (w:World) (h:lW w x l) (hl:wJ l):
  Calls Tryz.prog 75 #[nI x] w (O6 w l):=by
 obtain⟨d,ep,un,la,⟨sa,sn,sc⟩,⟨ia,dz,ic⟩,⟨ua,u_n,uc⟩⟩:=x
 obtain⟨l1,l2,l3,l4,l5,l6,l7⟩:=l
 obtain⟨q1,q2,q3,q4,hs,hi,hu⟩:=h
 obtain⟨b1,b2,b3⟩:=hl
 simp only at q1 q2 q3 q4 hs hi hu b1 b2 b3
 subst q1 q2 q3 q4
 have hb1:Below w.heap.size w ((w.alloc (.cells #[.int .i64 d,.int .i64 ep,.int .i64 un,.int .i64 la,.slice sa sn sc,.slice ia dz ic,.slice ua u_n uc] 48)).alloc (.cells #[.int .i64 0,.int .i64 0,.int .i64 0,.int .i64 0,.slice none 0 0,.slice none 0 0,.slice none 0 0] 48)):=((aL _ _).alloc (aC _) _).alloc (by simp) _
 have k1:=bJ w (.cells #[.int .i64 d,.int .i64 ep,.int .i64 un,.int .i64 la,.slice sa sn sc,.slice ia dz ic,.slice ua u_n uc] 48) (.cells #[.int .i64 0,.int .i64 0,.int .i64 0,.int .i64 0,.slice none 0 0,.slice none 0 0,.slice none 0 0] 48)
 have k2:=bE w (.cells #[.int .i64 d,.int .i64 ep,.int .i64 un,.int .i64 la,.slice sa sn sc,.slice ia dz ic,.slice ua u_n uc] 48) (.cells #[.int .i64 0,.int .i64 0,.int .i64 0,.int .i64 0,.slice none 0 0,.slice none 0 0,.slice none 0 0] 48)
 have hz2:w.heap.size+1<((w.alloc (.cells #[.int .i64 d,.int .i64 ep,.int .i64 un,.int .i64 la,.slice sa sn sc,.slice ia dz ic,.slice ua u_n uc] 48)).alloc (.cells #[.int .i64 0,.int .i64 0,.int .i64 0,.int .i64 0,.slice none 0 0,.slice none 0 0,.slice none 0 0] 48)).heap.size:=by simp
 have gF:=ah k1
 have fJ:=ah k2
 clear k1 k2
 change Calls Tryz.prog _ #[.agg #[.int .i64 d,.int .i64 ep,.int .i64 un,.int .i64 la,.slice sa sn sc,.slice ia dz ic,.slice ua u_n uc]] w _
 go_enter Tryz.func75,Tryz.ntmps75
 go_upto_region 1 with fail
 generalize (w.alloc (.cells #[.int .i64 d,.int .i64 ep,.int .i64 un,.int .i64 la,.slice sa sn sc,.slice ia dz ic,.slice ua u_n uc] 48)).alloc (.cells #[.int .i64 0,.int .i64 0,.int .i64 0,.int .i64 0,.slice none 0 0,.slice none 0 0,.slice none 0 0] 48)=w2 at*
 have hs2:=hs.keep hb1 (aC _)
 have hi2:=fq.keep hi hb1 (aC _)
 have hu2:=iW.keep hu hb1 (aC _)
 clear hs hi hu
 go_cut[] (fun wx=>∃v1 v2 v3:Sv,wx.heap[w.heap.size]? =some (.cells #[.int .i64 d,.int .i64 ep,.int .i64 un,.int .i64 la,v1.v,v2.v,v3.v] 48 (0,0))∧wx.heap[w.heap.size+1]? =some (.cells #[.int .i64 0,.int .i64 0,.int .i64 0,.int .i64 0,.slice none 0 0,.slice none 0 0,.slice none 0 0] 48 (0,0))∧
  wx.ownsRow (w.heap.size+2) 88 5 v1.v l5.length (aK jm l5)∧wx.ownsRow (w.heap.size+2) 56 2 v2.v l6.length (aR l6)∧wx.ownsRow (w.heap.size+2) 3 1 v3.v l7.length (bM l7)∧Below w.heap.size w wx∧w.heap.size+1<wx.heap.size)
 case first=>
  refine aS 10 (fun w'=>Below w2.heap.size w2 w') (by kernel_rfl) ?_
  refine aD (i:=0) (v:=.pointer (some ⟨w.heap.size,4,none⟩)) rfl rfl (by kernel_rfl) (by kernel_rfl) (by kernel_rfl) (by kernel_rfl) (by kernel_rfl) (by decide) (fun _ _ _ h=>h) (.inl ⟨rfl,fun w' hw=>?_⟩) (aL _ _).drew ?_
  ·go_simp
  refine aD (i:=1) (v:=.slice sa sn sc) rfl rfl (by kernel_rfl) (by kernel_rfl) (by kernel_rfl) (by kernel_rfl) (by kernel_rfl) (by decide) (fun _ _ _ h=>h) (.inl ⟨rfl,fun w' hw=>?_⟩) (aL _ _).drew ?_
  ·obtain⟨_,_,_,_,c4,c5,c6,_⟩:=aB (aj gF.out hw (by omega))
   go_simp
  refine aD (i:=3) (v:=.pointer (some ⟨w.heap.size,5,none⟩)) rfl rfl (by kernel_rfl) (by kernel_rfl) (by kernel_rfl) (by kernel_rfl) (by kernel_rfl) (by decide) (fun _ _ _ h=>h) (.inl ⟨rfl,fun w' hw=>?_⟩) (aL _ _).drew ?_
  ·go_simp
  refine aD (i:=4) (v:=.slice ia dz ic) rfl rfl (by kernel_rfl) (by kernel_rfl) (by kernel_rfl) (by kernel_rfl) (by kernel_rfl) (by decide) (fun _ _ _ h=>h) (.inl ⟨rfl,fun w' hw=>?_⟩) (aL _ _).drew ?_
  ·obtain⟨_,_,_,_,c4,c5,c6,_⟩:=aB (aj gF.out hw (by omega))
   go_simp
  refine aD (i:=6) (v:=.pointer (some ⟨w.heap.size,6,none⟩)) rfl rfl (by kernel_rfl) (by kernel_rfl) (by kernel_rfl) (by kernel_rfl) (by kernel_rfl) (by decide) (fun _ _ _ h=>h) (.inl ⟨rfl,fun w' hw=>?_⟩) (aL _ _).drew ?_
  ·go_simp
  refine aD (i:=7) (v:=.slice ua u_n uc) rfl rfl (by kernel_rfl) (by kernel_rfl) (by kernel_rfl) (by kernel_rfl) (by kernel_rfl) (by decide) (fun _ _ _ h=>h) (.inl ⟨rfl,fun w' hw=>?_⟩) (aL _ _).drew ?_
  ·obtain⟨_,_,_,_,c4,c5,c6,_⟩:=aB (aj gF.out hw (by omega))
   go_simp
  refine aF (i:=2) (by kernel_rfl) rfl rfl ?_
  go_simp
  refine(Cj _ l5 _ (hs2.keep (aL _ _).drew (aC _)) (by omega)).mono ?_
  rintro e w3 ⟨v3,rfl,ho3,hb3⟩
  have qx:Below w2.heap.size w2 w3:=(aL w2.heap.size w2).drew.trans hb3
  refine⟨qx,?_⟩
  refine aD (i:=9) (v:=.pointer (some ⟨w.heap.size,4,none⟩)) rfl rfl (by kernel_rfl) (by kernel_rfl) (by kernel_rfl) (by kernel_rfl) (by kernel_rfl) (by decide) (fun _ _ _ h=>h) (.inl ⟨rfl,fun w' hw=>?_⟩) qx ?_
  ·go_simp
  refine aF (i:=5) (by kernel_rfl) rfl rfl ?_
  go_simp
  refine(uH _ l6 _ (fq.keep hi2 qx (aC _)) (by omega)).mono ?_
  rintro e w4 ⟨v4,rfl,iD,hb4⟩
  have iX:Below w2.heap.size w2 w4:=qx.trans (hb4.mono qx.size)
  refine⟨iX,?_⟩
  refine aF (i:=8) (by kernel_rfl) rfl rfl ?_
  go_simp
  refine(uG _ l7 _ (iW.keep hu2 iX (aC _)) (by omega)).mono ?_
  rintro e w5 ⟨v5,rfl,fQ,hb5⟩
  have nL:Below w2.heap.size w2 w5:=iX.trans (hb5.mono iX.size)
  refine⟨nL,?_⟩
  have hz3:=qx.size
  have jT:=iX.size
  have XW:=nL.size
  have hk5:=aj gF.out nL (by omega)
  obtain⟨_,_,_,_,c4,c5,c6,_⟩:=aB hk5
  have f4:=ak hk5 4
  have f5:=ak hk5 5
  have f6:=ak hk5 6
  have o3:=aO (base':=w.heap.size+2) (aJ (aJ ho3 hb4 (aC _)) hb5 (aC _)) (by show _≤w2.heap.size;omega)
  have o4:=aO (base':=w.heap.size+2) (aJ iD hb5 (aC _)) (by omega)
  have o5:=aO (base':=w.heap.size+2) fQ (by omega)
  have F6:=ah hk5
  have vv:=ah (aj fJ.out nL hz2)
  obtain⟨Ut,YM,rfl,_,_⟩:=aP ho3
  obtain⟨YN,YO,rfl,_,_⟩:=aP iD
  obtain⟨nZ,yF,rfl,_,_⟩:=aP fQ
  have hbw:Below w.heap.size w w5:=hb1.trans (nL.mono hb1.size)
  clear hk5 ho3 iD fQ hb3 hb4 hb5 qx iX nL hs2 hi2 hu2
  refine aF (i:=10) (by kernel_rfl) rfl rfl ?_
  go_simp
  refine aF (i:=11) (by kernel_rfl) rfl rfl ?_
  go_simp
  refine aF (i:=12) (by kernel_rfl) rfl rfl ?_
  go_simp
  refine aF (i:=13) (by kernel_rfl) rfl rfl ?_
  go_simp
  refine aF (i:=14) (by kernel_rfl) rfl rfl ?_
  go_simp
  refine aT (by kernel_rfl) ?_
  go_wp2
  go_meet
  refine⟨⟨Ut,_,YM⟩,⟨YN,_,YO⟩,⟨nZ,_,yF⟩,H8 F6.out _ _ _,?_,?_,?_,?_,?_,?_⟩
  ·rw[Eu _ _ _ (by omega)];exact vv.out
  ·exact aM (aM (aM o3 _ (by show w.heap.size<_;omega) _) _ (by show w.heap.size<_;omega) _) _ (by show w.heap.size<_;omega) _
  ·exact aM (aM (aM o4 _ (by show w.heap.size<_;omega) _) _ (by show w.heap.size<_;omega) _) _ (by show w.heap.size<_;omega) _
  ·exact aM (aM (aM o5 _ (by show w.heap.size<_;omega) _) _ (by show w.heap.size<_;omega) _) _ (by show w.heap.size<_;omega) _
  ·exact((hbw.setCell (by simp) _).setCell (by simp) _).setCell (by simp) _
  ·simp[World.setCell];omega
 case rest=>
 obtain⟨v1,v2,v3,hk1,hk2,o1,o2,o3,hbw,hz⟩:=hcut
 obtain⟨c0,c1,c2,c3,c4,c5,c6,_⟩:=aB hk1
 obtain⟨d0,d1,d2,d3,d4,d5,d6,_⟩:=aB hk2
 have f0:=ak hk2 0
 have f1:=ak hk2 1
 have f2:=ak hk2 2
 have f3:=ak hk2 3
 have f4:=ak hk2 4
 have f5:=ak hk2 5
 have f6:=ak hk2 6
 clear hk1 hk2 gF fJ hs2 hi2 hu2
 obtain⟨a1,n1,p1⟩:=v1
 obtain⟨a2,n2,p2⟩:=v2
 obtain⟨a3,n3,p3⟩:=v3
 simp only[Sv.v]at c4 c5 c6
 go_wp2
 refine bodyPost_ret (v:=.agg #[.int .i64 d,.int .i64 ep,.int .i64 un,.int .i64 la,.slice a1 n1 p1,.slice a2 n2 p2,.slice a3 n3 p3]) (by simp[results,Tryz.results75,go_sem, *]) rfl ⟨⟨d,ep,un,la,⟨a1,n1,p1⟩,⟨a2,n2,p2⟩,⟨a3,n3,p3⟩⟩,rfl,?_,?_⟩
 ·refine⟨rfl,rfl,rfl,rfl,?_,?_,?_⟩
  ·have hp:w.heap.size+1<w.heap.size+2:=by omega
   exact aO (aM (aM (aM (aM (aM (aM (aM o1 _ hp _) _ hp _) _ hp _) _ hp _) _ hp _) _ hp _) _ hp _) (by omega)
  ·have hp:w.heap.size+1<w.heap.size+2:=by omega
   exact aO (aM (aM (aM (aM (aM (aM (aM o2 _ hp _) _ hp _) _ hp _) _ hp _) _ hp _) _ hp _) _ hp _) (by omega)
  ·have hp:w.heap.size+1<w.heap.size+2:=by omega
   exact aO (aM (aM (aM (aM (aM (aM (aM o3 _ hp _) _ hp _) _ hp _) _ hp _) _ hp _) _ hp _) _ hp _) (by omega)
 ·exact((((((hbw.setCell (by simp) _).setCell (by simp) _).setCell (by simp) _).setCell (by simp) _).setCell (by simp) _).setCell (by simp) _).setCell (by simp) _
end Go.Proofs.YtlfopoimbbpfdaaGreat
