/- What the law asks, in parts: LCl Held LWkG. -/
import Derived.Deep.RegionHeld3
import Derived.WalkKit
import Derived.Test.YtlfopoimbbpfdaaGreatPk1
import Derived.Test.YtlfopoimbbpfdaaGreatPk2
set_option linter.all false
set_option maxRecDepth 100000
set_option maxHeartbeats 16000000
namespace Go.Proofs.YtlfopoimbbpfdaaGreat
open Go.RowKit
def Ao (w:World) (E e n:Nat) (cs:List Value) (en:Ending) (w':World):Prop:=
 ∃v',en= .returned v'∧w'.ownsRow w.heap.size e E v' n cs∧Below w.heap.size w w'
theorem oh (l:List Int):∀u∈bS l,u.oneCell'=true:=by intro u hu;simp only[bS,List.mem_map]at hu;obtain⟨n,_,rfl⟩:=hu;rfl
theorem Cm (a b:List Int):bS (a++b)=bS a++bS b:=by simp[bS]
theorem Tryz.Vw:(Tryz.prog.info? 54).map (fun i=>(i.zero,i.size,i.bytes))=some (some (.agg #[.string ⟨#[]⟩,.int .i64 0,.int .i64 0,.int .i64 0,.int .i64 0,.int .i64 0,.int .i64 0]),7,64):=by kernel_rfl
theorem nW {w:World} {ops:Array Oper} {rest:List Oper} {o:Oper} {a:Act} {Q:Exit→Act→World→Prop} (oM:o.guard=none) (s x:Operand)
  (ho:o.op= .call { callee:=.builtin .append,args:= #[s,x],argTypes:= #[25,25] })
  (base:Nat) (v:Value) (n:Nat) (l:List Ct) (hs:a.eval s=v) (dD:w.ownsRow base 54 7 v n ((aJ kY) l))
  (ao:Option Addr) (m c:Nat) (p:List Ct) (hx:a.eval x= .slice ao m c) (hm:p.length=m) (fZ:Rd w ao ((aJ kY) p))
  (hn:n+m<1000000000) (gM:base≤w.heap.size)
  (h:∀v' w',w'.ownsRow base 54 7 v' (n+m) ((aJ kY) (l++p))→w.grownBy w' v.ownBlock→(v'.ownBlock=v.ownBlock∨v'.ownBlock=some w.heap.size)→wpList Tryz.prog ops Q rest (a.put o.dst v') w'):wpList Tryz.prog ops Q (o::rest) a w:=by
 obtain⟨i,hi,kK,dX,f_⟩:=info_parts Tryz.Vw;refine dL oM s x 25 ho base 54 i _ 7 64 Tryz.underlying25 hi kK dX f_ rfl (by decide) v n _ hs dD ao m c ((aJ kY) p) hx (by rw[bP fG,hm]) fZ (gu SC p) (by unfold maxLen;omega) (by omega) gM ?_;intro v' w' h1 h2 h3;exact h v' w' (by rw[fE];exact h1) h2 h3
theorem Tryz.Zc (ad:Addr) (n c:Nat) (w:World):(binOp BinOp.eql 25 (.slice (some ad) n c) (.slice none 0 0)).run Tryz.prog w= .ok (.bool false) w:=by kernel_rfl
theorem Tryz.Vx (n c:Nat) (w:World):(binOp BinOp.eql 25 (.slice none n c) (.slice none 0 0)).run Tryz.prog w= .ok (.bool true) w:=by kernel_rfl
theorem F3 (v:Value) (l:List Ct) (w:World) (h:oN w v l) (hl:l.length<1000000000):
  Calls Tryz.prog 106 #[v] w (Ao w 7 54 l.length ((aJ kY) l)):=by
 obtain⟨ao,cap,rfl,dO,hm⟩:=Sl.shape h;rcases ao with _ | ad
 ·have En:l= []:=by
   obtain⟨_,kJ,cap',he,_,_,hz,_⟩:=h;injection he with e1 e2 e3;subst e1;exact List.eq_nil_of_length_eq_zero (hz rfl).1
  subst En;have hnil:= Tryz.Vx 0 cap;clear hl
  go_enter Tryz.func106,Tryz.ntmps106
  go_wp2;go_ret;exact⟨_,rfl,World.ownsRow_nil _ _ _ _,aL _ _⟩
 ·have qw:=Sl.rd h
  have hnil:= Tryz.Zc ad l.length cap
  go_enter Tryz.func106,Tryz.ntmps106
  go_wp2_with ((with_reducible refine aZ 7 ?_);refine nW rfl _ _ rfl w.heap.size _ 0 [] rfl (dB _ _ _ _ 7 #[] 0 rfl (aC _) (by omega) rfl) (some ad) l.length cap l rfl rfl (qw.alloc _) (by omega) (by simp) ?_;intro v3 w3 iq j4 nQ)
  have bT:Below w.heap.size w w3:=((aL w.heap.size w).alloc (aC _) _).grown j4 (by first | (simp;done) | (simp;omega)) (fun g hg=>(by have iY:some w.heap.size=some g:=hg;injection iY with iY;omega));rw[Nat.zero_add,List.nil_append]at iq;go_ret;exact⟨_,rfl,iq,bT⟩
theorem Tryz.I4:(Tryz.prog.info? 88).map (fun i=>(i.zero,i.size,i.bytes))=some (some (.agg #[.string ⟨#[]⟩,.int .i64 0,.int .i64 0,.int .i64 0,.int .i64 0]),5,48):=by kernel_rfl
theorem xX {w:World} {ops:Array Oper} {rest:List Oper} {o:Oper} {a:Act} {Q:Exit→Act→World→Prop} (oM:o.guard=none) (s x:Operand)
  (ho:o.op= .call { callee:=.builtin .append,args:= #[s,x],argTypes:= #[46,46] })
  (base:Nat) (v:Value) (n:Nat) (l:List Sc) (hs:a.eval s=v) (dD:w.ownsRow base 88 5 v n ((aJ jL) l))
  (ao:Option Addr) (m c:Nat) (p:List Sc) (hx:a.eval x= .slice ao m c) (hm:p.length=m) (fZ:Rd w ao ((aJ jL) p))
  (hn:n+m<1000000000) (gM:base≤w.heap.size)
  (h:∀v' w',w'.ownsRow base 88 5 v' (n+m) ((aJ jL) (l++p))→w.grownBy w' v.ownBlock→(v'.ownBlock=v.ownBlock∨v'.ownBlock=some w.heap.size)→wpList Tryz.prog ops Q rest (a.put o.dst v') w'):wpList Tryz.prog ops Q (o::rest) a w:=by
 obtain⟨i,hi,kK,dX,f_⟩:=info_parts Tryz.I4;refine dL oM s x 46 ho base 88 i _ 5 48 Tryz.underlying46 hi kK dX f_ rfl (by decide) v n _ hs dD ao m c ((aJ jL) p) hx (by rw[bP gQ,hm]) fZ (gu Ef p) (by unfold maxLen;omega) (by omega) gM ?_;intro v' w' h1 h2 h3;exact h v' w' (by rw[fE];exact h1) h2 h3
theorem Tryz.Zd (ad:Addr) (n c:Nat) (w:World):(binOp BinOp.eql 46 (.slice (some ad) n c) (.slice none 0 0)).run Tryz.prog w= .ok (.bool false) w:=by kernel_rfl
theorem Tryz.Vy (n c:Nat) (w:World):(binOp BinOp.eql 46 (.slice none n c) (.slice none 0 0)).run Tryz.prog w= .ok (.bool true) w:=by kernel_rfl
theorem F4 (v:Value) (l:List Sc) (w:World) (h:Eh w v l) (hl:l.length<1000000000):
  Calls Tryz.prog 115 #[v] w (Ao w 5 88 l.length ((aJ jL) l)):=by
 obtain⟨ao,cap,rfl,dO,hm⟩:=Sl.shape h;rcases ao with _ | ad
 ·have En:l= []:=by
   obtain⟨_,kJ,cap',he,_,_,hz,_⟩:=h;injection he with e1 e2 e3;subst e1;exact List.eq_nil_of_length_eq_zero (hz rfl).1
  subst En;have hnil:= Tryz.Vy 0 cap;clear hl
  go_enter Tryz.func115,Tryz.ntmps115
  go_wp2;go_ret;exact⟨_,rfl,World.ownsRow_nil _ _ _ _,aL _ _⟩
 ·have qw:=Sl.rd h
  have hnil:= Tryz.Zd ad l.length cap
  go_enter Tryz.func115,Tryz.ntmps115
  go_wp2_with ((with_reducible refine aZ 7 ?_);refine xX rfl _ _ rfl w.heap.size _ 0 [] rfl (dB _ _ _ _ 5 #[] 0 rfl (aC _) (by omega) rfl) (some ad) l.length cap l rfl rfl (qw.alloc _) (by omega) (by simp) ?_;intro v3 w3 iq j4 nQ)
  have bT:Below w.heap.size w w3:=((aL w.heap.size w).alloc (aC _) _).grown j4 (by first | (simp;done) | (simp;omega)) (fun g hg=>(by have iY:some w.heap.size=some g:=hg;injection iY with iY;omega));rw[Nat.zero_add,List.nil_append]at iq;go_ret;exact⟨_,rfl,iq,bT⟩
theorem Tryz.sU:(Tryz.prog.info? 48).map (fun i=>(i.zero,i.size,i.bytes))=some (some (.agg #[.int .i64 0,.int .i64 0,.int .i64 0,.int .i64 0,.slice none 0 0,.slice none 0 0,.slice none 0 0]),7,104):=by kernel_rfl
theorem kS {w:World} {ops:Array Oper} {rest:List Oper} {o:Oper} {a:Act} {Q:Exit→Act→World→Prop} (oM:o.guard=none) (s x:Operand)
  (ho:o.op= .call { callee:=.builtin .append,args:= #[s,x],argTypes:= #[27,27] })
  (base:Nat) (v:Value) (n:Nat) (l:List cB) (hs:a.eval s=v) (dD:w.ownsRow base 48 7 v n ((aJ j_) l))
  (ao:Option Addr) (m c:Nat) (p:List cB) (hx:a.eval x= .slice ao m c) (hm:p.length=m) (fZ:Rd w ao ((aJ j_) p))
  (hn:n+m<1000000000) (gM:base≤w.heap.size)
  (h:∀v' w',w'.ownsRow base 48 7 v' (n+m) ((aJ j_) (l++p))→w.grownBy w' v.ownBlock→(v'.ownBlock=v.ownBlock∨v'.ownBlock=some w.heap.size)→wpList Tryz.prog ops Q rest (a.put o.dst v') w'):wpList Tryz.prog ops Q (o::rest) a w:=by
 obtain⟨i,hi,kK,dX,f_⟩:=info_parts Tryz.sU;refine dL oM s x 27 ho base 48 i _ 7 104 Tryz.underlying27 hi kK dX f_ rfl (by decide) v n _ hs dD ao m c ((aJ j_) p) hx (by rw[bP iE,hm]) fZ (gu zT p) (by unfold maxLen;omega) (by omega) gM ?_;intro v' w' h1 h2 h3;exact h v' w' (by rw[fE];exact h1) h2 h3
theorem Tryz.Ze (ad:Addr) (n c:Nat) (w:World):(binOp BinOp.eql 27 (.slice (some ad) n c) (.slice none 0 0)).run Tryz.prog w= .ok (.bool false) w:=by kernel_rfl
theorem Tryz.Vz (n c:Nat) (w:World):(binOp BinOp.eql 27 (.slice none n c) (.slice none 0 0)).run Tryz.prog w= .ok (.bool true) w:=by kernel_rfl
theorem F5 (v:Value) (l:List cB) (w:World) (h:dI j_ 7 w v l) (hl:l.length<1000000000):
  Calls Tryz.prog 108 #[v] w (Ao w 7 48 l.length ((aJ j_) l)):=by
 obtain⟨ao,cap,rfl,dO,hm⟩:=Sl.shape h;rcases ao with _ | ad
 ·have En:l= []:=by
   obtain⟨_,kJ,cap',he,_,_,hz,_⟩:=h;injection he with e1 e2 e3;subst e1;exact List.eq_nil_of_length_eq_zero (hz rfl).1
  subst En;have hnil:= Tryz.Vz 0 cap;clear hl
  go_enter Tryz.func108,Tryz.ntmps108
  go_wp2;go_ret;exact⟨_,rfl,World.ownsRow_nil _ _ _ _,aL _ _⟩
 ·have qw:=Sl.rd h
  have hnil:= Tryz.Ze ad l.length cap
  go_enter Tryz.func108,Tryz.ntmps108
  go_wp2_with ((with_reducible refine aZ 7 ?_);refine kS rfl _ _ rfl w.heap.size _ 0 [] rfl (dB _ _ _ _ 7 #[] 0 rfl (aC _) (by omega) rfl) (some ad) l.length cap l rfl rfl (qw.alloc _) (by omega) (by simp) ?_;intro v3 w3 iq j4 nQ)
  have bT:Below w.heap.size w w3:=((aL w.heap.size w).alloc (aC _) _).grown j4 (by first | (simp;done) | (simp;omega)) (fun g hg=>(by have iY:some w.heap.size=some g:=hg;injection iY with iY;omega));rw[Nat.zero_add,List.nil_append]at iq;go_ret;exact⟨_,rfl,iq,bT⟩
theorem Tryz.xY:(Tryz.prog.info? 3).map (fun i=>(i.zero,i.size,i.bytes))=some (some (.int .i64 0),1,8):=by kernel_rfl
theorem mE {w:World} {ops:Array Oper} {rest:List Oper} {o:Oper} {a:Act} {Q:Exit→Act→World→Prop} (oM:o.guard=none) (s x:Operand)
  (ho:o.op= .call { callee:=.builtin .append,args:= #[s,x],argTypes:= #[28,28] })
  (base:Nat) (v:Value) (n:Nat) (l:List Int) (hs:a.eval s=v) (dD:w.ownsRow base 3 1 v n (bS l))
  (ao:Option Addr) (m c:Nat) (p:List Int) (hx:a.eval x= .slice ao m c) (hm:p.length=m) (fZ:Rd w ao (bS p))
  (hn:n+m<1000000000) (gM:base≤w.heap.size)
  (h:∀v' w',w'.ownsRow base 3 1 v' (n+m) (bS (l++p))→w.grownBy w' v.ownBlock→(v'.ownBlock=v.ownBlock∨v'.ownBlock=some w.heap.size)→wpList Tryz.prog ops Q rest (a.put o.dst v') w'):wpList Tryz.prog ops Q (o::rest) a w:=by
 obtain⟨i,hi,kK,dX,f_⟩:=info_parts Tryz.xY;refine dL oM s x 28 ho base 3 i _ 1 8 Tryz.underlying28 hi kK dX f_ rfl (by decide) v n _ hs dD ao m c (bS p) hx (by simp[bS,hm]) fZ (oh p) (by unfold maxLen;omega) (by omega) gM ?_;intro v' w' h1 h2 h3;exact h v' w' (by rw[Cm];exact h1) h2 h3
theorem Tryz.Zf (ad:Addr) (n c:Nat) (w:World):(binOp BinOp.eql 28 (.slice (some ad) n c) (.slice none 0 0)).run Tryz.prog w= .ok (.bool false) w:=by kernel_rfl
theorem Tryz.VA (n c:Nat) (w:World):(binOp BinOp.eql 28 (.slice none n c) (.slice none 0 0)).run Tryz.prog w= .ok (.bool true) w:=by kernel_rfl
theorem yM (v:Value) (l:List Int) (w:World) (h:jv w v l) (hl:l.length<1000000000):
  Calls Tryz.prog 109 #[v] w (Ao w 1 3 l.length (bS l)):=by
 obtain⟨ao,cap,rfl,dO,hm⟩:=Sl.shape h;rcases ao with _ | ad
 ·have En:l= []:=by
   obtain⟨_,kJ,cap',he,_,_,hz,_⟩:=h;injection he with e1 e2 e3;subst e1;exact List.eq_nil_of_length_eq_zero (hz rfl).1
  subst En;have hnil:= Tryz.VA 0 cap;clear hl
  go_enter Tryz.func109,Tryz.ntmps109
  go_wp2;go_ret;exact⟨_,rfl,World.ownsRow_nil _ _ _ _,aL _ _⟩
 ·have qw:=Sl.rd h
  have hnil:= Tryz.Zf ad l.length cap
  go_enter Tryz.func109,Tryz.ntmps109
  go_wp2_with ((with_reducible refine aZ 7 ?_);refine mE rfl _ _ rfl w.heap.size _ 0 [] rfl (dB _ _ _ _ 1 #[] 0 rfl (aC _) (by omega) rfl) (some ad) l.length cap l rfl rfl (qw.alloc _) (by omega) (by simp) ?_;intro v3 w3 iq j4 nQ)
  have bT:Below w.heap.size w w3:=((aL w.heap.size w).alloc (aC _) _).grown j4 (by first | (simp;done) | (simp;omega)) (fun g hg=>(by have iY:some w.heap.size=some g:=hg;injection iY with iY;omega));rw[Nat.zero_add,List.nil_append]at iq;go_ret;exact⟨_,rfl,iq,bT⟩
theorem Tryz.VB:(Tryz.prog.info? 56).map (fun i=>(i.zero,i.size,i.bytes))=some (some (.agg #[.int .i64 0,.int .i64 0]),2,16):=by kernel_rfl
theorem qx {w:World} {ops:Array Oper} {rest:List Oper} {o:Oper} {a:Act} {Q:Exit→Act→World→Prop} (oM:o.guard=none) (s x:Operand)
  (ho:o.op= .call { callee:=.builtin .append,args:= #[s,x],argTypes:= #[26,26] })
  (base:Nat) (v:Value) (n:Nat) (l:List Rg) (hs:a.eval s=v) (dD:w.ownsRow base 56 2 v n (aR l))
  (ao:Option Addr) (m c:Nat) (p:List Rg) (hx:a.eval x= .slice ao m c) (hm:p.length=m) (fZ:Rd w ao (aR p))
  (hn:n+m<1000000000) (gM:base≤w.heap.size)
  (h:∀v' w',w'.ownsRow base 56 2 v' (n+m) (aR (l++p))→w.grownBy w' v.ownBlock→(v'.ownBlock=v.ownBlock∨v'.ownBlock=some w.heap.size)→wpList Tryz.prog ops Q rest (a.put o.dst v') w'):wpList Tryz.prog ops Q (o::rest) a w:=by
 obtain⟨i,hi,kK,dX,f_⟩:=info_parts Tryz.VB;refine dL oM s x 26 ho base 56 i _ 2 16 Tryz.underlying26 hi kK dX f_ rfl (by decide) v n _ hs dD ao m c (aR p) hx (by rw[j6,hm]) fZ (uR p) (by unfold maxLen;omega) (by omega) gM ?_;intro v' w' h1 h2 h3;exact h v' w' (by rw[uF];exact h1) h2 h3
theorem Tryz.Zg (ad:Addr) (n c:Nat) (w:World):(binOp BinOp.eql 26 (.slice (some ad) n c) (.slice none 0 0)).run Tryz.prog w= .ok (.bool false) w:=by kernel_rfl
theorem Tryz.VD (n c:Nat) (w:World):(binOp BinOp.eql 26 (.slice none n c) (.slice none 0 0)).run Tryz.prog w= .ok (.bool true) w:=by kernel_rfl
theorem yN (v:Value) (l:List Rg) (w:World) (h:fD w v l) (hl:l.length<1000000000):
  Calls Tryz.prog 107 #[v] w (Ao w 2 56 l.length (aR l)):=by
 obtain⟨ao,cap,rfl,dO,hm⟩:=Sl.shape h;rcases ao with _ | ad
 ·have En:l= []:=by
   obtain⟨_,kJ,cap',he,_,_,hz,_⟩:=h;injection he with e1 e2 e3;subst e1;exact List.eq_nil_of_length_eq_zero (hz rfl).1
  subst En;have hnil:= Tryz.VD 0 cap;clear hl
  go_enter Tryz.func107,Tryz.ntmps107
  go_wp2;go_ret;exact⟨_,rfl,World.ownsRow_nil _ _ _ _,aL _ _⟩
 ·have qw:=Sl.rd h
  have hnil:= Tryz.Zg ad l.length cap
  go_enter Tryz.func107,Tryz.ntmps107
  go_wp2_with ((with_reducible refine aZ 7 ?_);refine qx rfl _ _ rfl w.heap.size _ 0 [] rfl (dB _ _ _ _ 2 #[] 0 rfl (aC _) (by omega) rfl) (some ad) l.length cap l rfl rfl (qw.alloc _) (by omega) (by simp) ?_;intro v3 w3 iq j4 nQ)
  have bT:Below w.heap.size w w3:=((aL w.heap.size w).alloc (aC _) _).grown j4 (by first | (simp;done) | (simp;omega)) (fun g hg=>(by have iY:some w.heap.size=some g:=hg;injection iY with iY;omega));rw[Nat.zero_add,List.nil_append]at iq;go_ret;exact⟨_,rfl,iq,bT⟩
section
variable {P:Program} {ops:Array Oper} {Q:Exit→Act→World→Prop} {md:Region.Mode} {S:World→Prop} {s:Nat}
def iV (P:Program) (md:Region.Mode) (ops:Array Oper) (Q:Exit→Act→World→Prop) (S:World→Prop) (s:Nat):Nat→Array Bool→Act→World→Prop
 | 0,l,a,w=>Region.ready md ops l= []∧Q .normal a w
 | n+1,l,a,w=>(Region.ready md ops l= []→Q .normal a w)∧
  ∀i∈Region.ready md ops l,wpOp P ops Q i (fun a' w'=>((l.setIfInBounds i true).getD s true=false→S w')∧iV P md ops Q S s n (l.setIfInBounds i true) a' w') a w
theorem F6:∀ (n:Nat) (l:Array Bool) (a:Act) (w:World),iV P md ops Q S s n l a w→wpAny P md ops Q n l a w
 | 0,_,_,_,h=>h
 | n+1,_,_,_,h=>⟨h.1,fun i hi=>wpOp_mono (fun a' w' k=>F6 n _ a' w' k.2) (h.2 i hi)⟩
theorem I5 {i:Nat} {oi os:Oper} {v:Value} (hi:ops[i]? =some oi) (jT:∀ (j:Nat) (o:Oper) cs b,ops[j]? =some o→o.op≠ .select cs b)
  (hQ:∀c a w,Q (.panic c) (a.put oi.dst v) w→Q (.panic c) a w) (hos:ops[s]? =some os) (nP:∃e∈os.after,Region.binds md e=true∧e.on=i) (eP:i≠s):
  ∀ (n:Nat) (l:Array Bool) (a:Act) (w:World),
   (∀j oj,ops[j]? =some oj→j≠i→l.getD j true=false→(∀e∈oj.after,Region.binds md e=true→e.on≠i)→oi.apart ops oj=true)→
   i∈Region.ready md ops l→l.getD s true=false→YieldsIf P ops S oi v a→S w→
   iV P md ops Q S s n (l.setIfInBounds i true) (a.put oi.dst v) w→iV P md ops Q S s (n+1) l a w:=by
 intro n
 induction n with
 | zero=>
  intro l a w _ hr _ hy hS H;refine⟨fun h=>(by rw[h]at hr;cases hr),fun j hj=>?_⟩;by_cases hji:j=i
  ·subst hji;exact hy.wpOp hi hS ⟨fun _=>hS,H⟩
  ·have h1:=ready_mono hj hji
   rw[H.1]at h1
   cases h1
 | succ n ih=>
  intro l a w o_ hr qo hy hS H;refine⟨fun h=>(by rw[h]at hr;cases hr),fun j hj=>?_⟩;by_cases hji:j=i
  ·subst hji;exact hy.wpOp hi hS ⟨fun _=>hS,H⟩
  have nJ:=(mem_ready.1 hr).1
  have Eo:l.getD i false≠true:=by
   intro h;rcases Nat.lt_or_ge i l.size with bA | gX
   ·simp[bA]at nJ h;rw[nJ]at h;cases h
   ·simp[Array.getElem?_eq_none gX]at h
  obtain⟨lq,oj,nX,gY⟩:=mem_ready.1 hj
  have hjs:j≠s:=by
   rintro rfl;rw[hos]at nX;injection nX with nX;subst nX;obtain⟨e,he,hb,Cn⟩:=nP;exact Eo (Cn▸gY e he hb)
  have hnot:∀e∈oj.after,Region.binds md e=true→e.on≠i:=fun e he hb Cn=>Eo (Cn▸gY e he hb)
  have h2:=wpOp_putIf nX (o_ j oj nX hji lq hnot) (fun cs b=>jT i oi cs b hi) (fun cs b=>jT j oj cs b nX) hQ hy (H.2 j (ready_mono hj hji));refine wpOp_mono (fun a' w' k=>?_) h2;have hc:((l.setIfInBounds i true).setIfInBounds j true).getD s true=false:=by rw[getD_set_ne true hjs,getD_set_ne true eP];exact qo
  have hSw:=k.2.1 hc;refine⟨fun _=>hSw,ih (l.setIfInBounds j true) a' w' (fun q oq hq hqi KT SK=>?_) (ready_mono hr (Ne.symm hji)) (by rw[getD_set_ne true hjs];exact qo) k.1 hSw ?_⟩
  ·refine o_ q oq hq hqi ?_ SK
   by_cases F7:j=q
   ·subst F7;exact lq
   ·rw[getD_set_ne true F7]at KT;exact KT
  ·rw[Array.setIfInBounds_comm _ _ hji];exact k.2.2
theorem ML {i:Nat} {oi os:Oper} {v:Value} {n:Nat} {l:Array Bool} {a:Act} {w:World} (hi:ops[i]? =some oi) (hos:ops[s]? =some os) (jT:Region.noSelect ops=true)
  (hf:Region.free md ops l i=true) (hr:(Region.ready md ops l).contains i=true) (qo:l.getD s true=false) (nP:os.after.any (fun e=>Region.binds md e&&e.on==i)=true) (eP:i≠s)
  (hQ:∀c a w,Q (.panic c) (a.put oi.dst v) w→Q (.panic c) a w) (hy:YieldsIf P ops S oi v a) (hS:S w)
  (h:iV P md ops Q S s n (l.setIfInBounds i true) (a.put oi.dst v) w):iV P md ops Q S s (n+1) l a w:=by
 refine I5 hi (Region.noSelect_spec jT) hQ hos ?_ eP n l a w (Region.free_spec hi hf) (by simpa using hr) qo hy hS h;rw[Array.any_eq_true']at nP;obtain⟨e,he,hh⟩:=nP;rw[Bool.and_eq_true]at hh;exact⟨e,he,hh.1,by simpa using hh.2⟩
theorem aD {i:Nat} {oi:Oper} {n:Nat} {l:Array Bool} {a:Act} {w:World} (hr:Region.ready md ops l= [i]) (hi:ops[i]? =some oi) (hg:oi.guard=none)
  (h:Oper.wp P oi a w (fun a' w'=>((l.setIfInBounds i true).getD s true=false→S w')∧iV P md ops Q S s n (l.setIfInBounds i true) a' w') Q):iV P md ops Q S s (n+1) l a w:=by
 refine⟨fun h0=>(by rw[hr]at h0;cases h0),fun j hj=>?_⟩;rw[hr]at hj;have:j=i:=by simpa using hj
 subst this;unfold wpOp;simp only[hi];rw[if_pos (by simp[Region.wanted,hg])];exact .inl h
theorem iZ {i j:Nat} {oi oj:Oper} {n:Nat} {l:Array Bool} {a:Act} {w:World} (hr:Region.ready md ops l= [i,j]) (hi:ops[i]? =some oi) (hj:ops[j]? =some oj) (hgi:oi.guard=none) (hgj:oj.guard=none)
  (h1:Oper.wp P oi a w (fun a' w'=>((l.setIfInBounds i true).getD s true=false→S w')∧iV P md ops Q S s n (l.setIfInBounds i true) a' w') Q)
  (h2:Oper.wp P oj a w (fun a' w'=>((l.setIfInBounds j true).getD s true=false→S w')∧iV P md ops Q S s n (l.setIfInBounds j true) a' w') Q):iV P md ops Q S s (n+1) l a w:=by
 refine⟨fun h0=>(by rw[hr]at h0;cases h0),fun k hk=>?_⟩;rw[hr]at hk;have:k=i∨k=j:=by simpa using hk
 rcases this with rfl | rfl
 ·unfold wpOp
  simp only[hi];rw[if_pos (by simp[Region.wanted,hgi])];exact .inl h1
 ·unfold wpOp
  simp only[hj];rw[if_pos (by simp[Region.wanted,hgj])];exact .inl h2
theorem xZ {S':World→Prop} (hS:∀w,S' w→S w):∀ (n:Nat) (l:Array Bool) (a:Act) (w:World),iV P md ops Q S' s n l a w→iV P md ops Q S s n l a w
 | 0,_,_,_,h=>h
 | n+1,_,_,_,h=>⟨h.1,fun i hi=>wpOp_mono (fun a' w' k=>⟨fun hl=>hS _ (k.1 hl),xZ hS n _ a' w' k.2⟩) (h.2 i hi)⟩
theorem aU {n:Nat} {l:Array Bool} {a:Act} {w:World} (hr:Region.ready md ops l= []) (h:Q .normal a w):iV P md ops Q S s n l a w:=by
 cases n with
 | zero=>exact⟨hr,h⟩
 | succ n=>exact⟨fun _=>h,by rw[hr];simp⟩
theorem aW {id:Nat} {a:Act} {w:World} (s:Nat) (S:World→Prop) (hm:P.follows .mixedOrders=true)
  (h:iV P .any ops Q S s ops.size (Array.replicate ops.size false) a w.drew):(Code.region id ops true).wp P Q a w:=
 wp_region_any hm (F6 _ _ _ _ h)
end
theorem aP {P:Program} {ops:Array Oper} {Q:Exit→Act→World→Prop} {md:Region.Mode} {S:World→Prop} {s i n:Nat} {oi os:Oper} {v:Value} {l:Array Bool} {a:Act} {w:World} (hi:ops[i]? =some oi) (hos:ops[s]? =some os) (hb:(Region.noSelect ops&&(Region.free md ops l i&&((Region.ready md ops l).contains i&&(!l.getD s true&&(os.after.any (fun e=>Region.binds md e&&e.on==i)&&decide (i≠s))))))=true) (hQ:∀c a w,Q (.panic c) (a.put oi.dst v) w→Q (.panic c) a w) (hy:YieldsIf P ops S oi v a) (hS:S w) (h:iV P md ops Q S s n (l.setIfInBounds i true) (a.put oi.dst v) w):iV P md ops Q S s (n+1) l a w:=by
 simp only[Bool.and_eq_true,Bool.not_eq_true',decide_eq_true_eq]at hb;exact ML hi hos hb.1 hb.2.1 hb.2.2.1 hb.2.2.2.1 hb.2.2.2.2.1 hb.2.2.2.2.2 hQ hy hS h
structure Ap (l:Ls):Prop where
 s:l.sl.length<1000000
 i:l.ids.length<1000000
 u:l.used.length<1000000
structure jF (w:World) (B:Nat) (x:cB) (l:Ls):Prop where
 dev:x.dev=l.dev
 epoch:x.epoch=l.epoch
 bU:x.bU=l.bU
 last:x.last=l.last
 s:w.ownsRow B 88 5 x.s.v l.sl.length (aJ jL l.sl)
 i:w.ownsRow B 56 2 x.i.v l.ids.length (aR l.ids)
 u:w.ownsRow B 3 1 x.u.v l.used.length (bS l.used)
theorem jF.m {w:World} {B:Nat} {x:cB} {l:Ls} (h:jF w B x l):nV w x l:=⟨h.dev,h.epoch,h.bU,h.last,aG h.s,aG h.i,aG h.u⟩
theorem jF.keep {w w':World} {B C:Nat} {x:cB} {l:Ls} (h:jF w B x l) (hb:Below C w w') (hC:w.heap.size≤C):jF w' B x l:=⟨h.dev,h.epoch,h.bU,h.last,aI h.s hb hC,aI h.i hb hC,aI h.u hb hC⟩
theorem aM {w:World} {base:Nat} {e:TypeId} {E:Nat} {v:Value} {n:Nat} {xs:List Value} (h:w.ownsRow base e E v n xs) (p:Addr) (hp:p.block<base) (u:Value):(w.setCell p u).ownsRow base e E v n xs:=by
 obtain⟨h1,h2⟩:=h;refine⟨h1,?_⟩;rcases h2 with h2 | ⟨g,cap,cur,hv,hg,hh,r⟩
 ·exact .inl h2
 ·refine .inr ⟨g,cap,cur,hv,hg,?_,r⟩
  have:(w.setCell p u).heap[g]? =w.heap[g]? :=by simp[World.setCell,Array.getElem?_modify];omega
  rw[this];exact hh
theorem MN {w:World} {b:Nat} {a0 a1 a2 a3 a4 a5 a6:Value} {t:TypeId} (h:w.heap[b]? =some (.cells #[a0,a1,a2,a3,a4,a5,a6] t (0,0))) (x y z:Value):
  (((w.setCell ⟨b,4,none⟩ x).setCell ⟨b,5,none⟩ y).setCell ⟨b,6,none⟩ z).heap[b]? =some (.cells #[a0,a1,a2,a3,x,y,z] t (0,0)):=by
 simp[World.setCell,Array.getElem?_modify,h]
theorem I6 (w:World) (b c:Nat) (h:b≠c) (x y z:Value) (i j k:Nat):(((w.setCell ⟨b,i,none⟩ x).setCell ⟨b,j,none⟩ y).setCell ⟨b,k,none⟩ z).heap[c]? =w.heap[c]? :=by
 simp[World.setCell,Array.getElem?_modify,h]
theorem ak {w:World} {b:Nat} {a0 a1 a2 a3 a4 a5 a6:Value} {t:TypeId} (h:w.heap[b]? =some (.cells #[a0,a1,a2,a3,a4,a5,a6] t (0,0))) (o:Nat):w.frozen? ⟨b,o,none⟩=false:=by
 simp[World.frozen?,h]
def Uo (w:World) (l:Ls) (e:Ending) (w':World):Prop:=∃x',e= .returned (o9 x')∧jF w' w.heap.size x' l∧Below w.heap.size w w'
theorem fI (x:cB) (l:Ls) (w:World) (h:nV w x l) (hl:Ap l):
  Calls Tryz.prog 75 #[o9 x] w (Uo w l):=by
 obtain⟨d,ep,un,la,⟨sa,sn,sc⟩,⟨ia,eX,ic⟩,⟨ua,FY,uc⟩⟩:=x;obtain⟨l1,l2,l3,l4,l5,l6,l7⟩:=l;obtain⟨q1,q2,q3,q4,hs,hi,hu⟩:=h;obtain⟨b1,b2,b3⟩:=hl;simp only at q1 q2 q3 q4 hs hi hu b1 b2 b3;subst q1 q2 q3 q4;have bB:Below w.heap.size w ((w.alloc (.cells #[.int .i64 d,.int .i64 ep,.int .i64 un,.int .i64 la,.slice sa sn sc,.slice ia eX ic,.slice ua FY uc] 48)).alloc (.cells #[.int .i64 0,.int .i64 0,.int .i64 0,.int .i64 0,.slice none 0 0,.slice none 0 0,.slice none 0 0] 48)):=((aL _ _).alloc (aC _) _).alloc (by simp) _;have k1:=bX w (.cells #[.int .i64 d,.int .i64 ep,.int .i64 un,.int .i64 la,.slice sa sn sc,.slice ia eX ic,.slice ua FY uc] 48) (.cells #[.int .i64 0,.int .i64 0,.int .i64 0,.int .i64 0,.slice none 0 0,.slice none 0 0,.slice none 0 0] 48);have k2:=bL w (.cells #[.int .i64 d,.int .i64 ep,.int .i64 un,.int .i64 la,.slice sa sn sc,.slice ia eX ic,.slice ua FY uc] 48) (.cells #[.int .i64 0,.int .i64 0,.int .i64 0,.int .i64 0,.slice none 0 0,.slice none 0 0,.slice none 0 0] 48);have f_:w.heap.size+1<((w.alloc (.cells #[.int .i64 d,.int .i64 ep,.int .i64 un,.int .i64 la,.slice sa sn sc,.slice ia eX ic,.slice ua FY uc] 48)).alloc (.cells #[.int .i64 0,.int .i64 0,.int .i64 0,.int .i64 0,.slice none 0 0,.slice none 0 0,.slice none 0 0] 48)).heap.size:=by simp
 have fJ:=ah k1;have eT:=ah k2;clear k1 k2;change Calls Tryz.prog _ #[.agg #[.int .i64 d,.int .i64 ep,.int .i64 un,.int .i64 la,.slice sa sn sc,.slice ia eX ic,.slice ua FY uc]] w _
 go_enter Tryz.func75,Tryz.ntmps75
 go_upto_region 1 with fail
 generalize (w.alloc (.cells #[.int .i64 d,.int .i64 ep,.int .i64 un,.int .i64 la,.slice sa sn sc,.slice ia eX ic,.slice ua FY uc] 48)).alloc (.cells #[.int .i64 0,.int .i64 0,.int .i64 0,.int .i64 0,.slice none 0 0,.slice none 0 0,.slice none 0 0] 48)=w2 at*;have hs2:=hs.keep bB (aC _);have hi2:=fD.keep hi bB (aC _);have FZ:=jv.keep hu bB (aC _);clear hs hi hu
 go_cut[] (fun wx=>∃v1 v2 v3:Sv,wx.heap[w.heap.size]? =some (.cells #[.int .i64 d,.int .i64 ep,.int .i64 un,.int .i64 la,v1.v,v2.v,v3.v] 48 (0,0))∧wx.heap[w.heap.size+1]? =some (.cells #[.int .i64 0,.int .i64 0,.int .i64 0,.int .i64 0,.slice none 0 0,.slice none 0 0,.slice none 0 0] 48 (0,0))∧
  wx.ownsRow (w.heap.size+2) 88 5 v1.v l5.length (aJ jL l5)∧wx.ownsRow (w.heap.size+2) 56 2 v2.v l6.length (aR l6)∧wx.ownsRow (w.heap.size+2) 3 1 v3.v l7.length (bS l7)∧Below w.heap.size w wx∧w.heap.size+1<wx.heap.size)
 case first=>
  refine aW 10 (fun w'=>Below w2.heap.size w2 w') (by kernel_rfl) ?_;refine aP (i:=0) (v:=.pointer (some ⟨w.heap.size,4,none⟩)) rfl rfl (by kernel_rfl) (fun _ _ _ h=>h) (.inl ⟨rfl,fun w' hw=>?_⟩) (aL _ _).drew ?_
  ·go_simp
  refine aP (i:=1) (v:=.slice sa sn sc) rfl rfl (by kernel_rfl) (fun _ _ _ h=>h) (.inl ⟨rfl,fun w' hw=>?_⟩) (aL _ _).drew ?_
  ·obtain⟨_,_,_,_,c4,c5,c6,_⟩:=aB (aj fJ.out hw (by omega))
   go_simp
  refine aP (i:=3) (v:=.pointer (some ⟨w.heap.size,5,none⟩)) rfl rfl (by kernel_rfl) (fun _ _ _ h=>h) (.inl ⟨rfl,fun w' hw=>?_⟩) (aL _ _).drew ?_
  ·go_simp
  refine aP (i:=4) (v:=.slice ia eX ic) rfl rfl (by kernel_rfl) (fun _ _ _ h=>h) (.inl ⟨rfl,fun w' hw=>?_⟩) (aL _ _).drew ?_
  ·obtain⟨_,_,_,_,c4,c5,c6,_⟩:=aB (aj fJ.out hw (by omega))
   go_simp
  refine aP (i:=6) (v:=.pointer (some ⟨w.heap.size,6,none⟩)) rfl rfl (by kernel_rfl) (fun _ _ _ h=>h) (.inl ⟨rfl,fun w' hw=>?_⟩) (aL _ _).drew ?_
  ·go_simp
  refine aP (i:=7) (v:=.slice ua FY uc) rfl rfl (by kernel_rfl) (fun _ _ _ h=>h) (.inl ⟨rfl,fun w' hw=>?_⟩) (aL _ _).drew ?_
  ·obtain⟨_,_,_,_,c4,c5,c6,_⟩:=aB (aj fJ.out hw (by omega))
   go_simp
  refine aD (i:=2) (by kernel_rfl) rfl rfl ?_;go_simp;refine(F4 _ l5 _ (hs2.keep (aL _ _).drew (aC _)) (by omega)).mono ?_;rintro e w3 ⟨v3,rfl,iq,bT⟩;have uU:Below w2.heap.size w2 w3:=(aL w2.heap.size w2).drew.trans bT;refine⟨uU,?_⟩;refine aP (i:=9) (v:=.pointer (some ⟨w.heap.size,4,none⟩)) rfl rfl (by kernel_rfl) (fun _ _ _ h=>h) (.inl ⟨rfl,fun w' hw=>?_⟩) uU ?_
  ·go_simp
  refine aD (i:=5) (by kernel_rfl) rfl rfl ?_;go_simp;refine(yN _ l6 _ (fD.keep hi2 uU (aC _)) (by omega)).mono ?_;rintro e w4 ⟨v4,rfl,ji,bR⟩;have jX:Below w2.heap.size w2 w4:=uU.trans (bR.mono uU.size);refine⟨jX,?_⟩;refine aD (i:=8) (by kernel_rfl) rfl rfl ?_;go_simp;refine(yM _ l7 _ (jv.keep FZ jX (aC _)) (by omega)).mono ?_;rintro e w5 ⟨v5,rfl,gP,gD⟩;have qX:Below w2.heap.size w2 w5:=jX.trans (gD.mono jX.size);refine⟨qX,?_⟩;have oO:=uU.size;have mP:=jX.size;have Uq:=qX.size;have KU:=aj fJ.out qX (by omega);obtain⟨_,_,_,_,c4,c5,c6,_⟩:=aB KU;have f4:=ak KU 4;have f5:=ak KU 5;have f6:=ak KU 6;have o3:=aN (base':=w.heap.size+2) (aI (aI iq bR (aC _)) gD (aC _)) (by show _≤w2.heap.size;omega);have o4:=aN (base':=w.heap.size+2) (aI ji gD (aC _)) (by omega);have o5:=aN (base':=w.heap.size+2) gP (by omega);have KV:=ah KU;have zx:=ah (aj eT.out qX f_);obtain⟨Yp,cp3,rfl,_,_⟩:=aO iq;obtain⟨ao4,cp4,rfl,_,_⟩:=aO ji;obtain⟨rP,BU,rfl,_,_⟩:=aO gP;have jw:Below w.heap.size w w5:=bB.trans (qX.mono bB.size);clear KU iq ji gP bT bR gD uU jX qX hs2 hi2 FZ;refine aD (i:=10) (by kernel_rfl) rfl rfl ?_;go_simp;refine aD (i:=11) (by kernel_rfl) rfl rfl ?_;go_simp;refine aD (i:=12) (by kernel_rfl) rfl rfl ?_;go_simp;refine aD (i:=13) (by kernel_rfl) rfl rfl ?_;go_simp;refine aD (i:=14) (by kernel_rfl) rfl rfl ?_;go_simp;refine aU (by kernel_rfl) ?_;go_wp2;go_meet;refine⟨⟨Yp,_,cp3⟩,⟨ao4,_,cp4⟩,⟨rP,_,BU⟩,MN KV.out _ _ _,?_,?_,?_,?_,?_,?_⟩
  ·rw[I6 _ _ _ (by omega)];exact zx.out
  ·exact aM (aM (aM o3 _ (by show w.heap.size<_;omega) _) _ (by show w.heap.size<_;omega) _) _ (by show w.heap.size<_;omega) _
  ·exact aM (aM (aM o4 _ (by show w.heap.size<_;omega) _) _ (by show w.heap.size<_;omega) _) _ (by show w.heap.size<_;omega) _
  ·exact aM (aM (aM o5 _ (by show w.heap.size<_;omega) _) _ (by show w.heap.size<_;omega) _) _ (by show w.heap.size<_;omega) _
  ·exact((jw.setCell (by simp) _).setCell (by simp) _).setCell (by simp) _
  ·simp[World.setCell];omega
 case rest=>
 obtain⟨v1,v2,v3,gL,dH,o1,o2,o3,jw,hz⟩:=hcut;obtain⟨c0,c1,c2,c3,c4,c5,c6,_⟩:=aB gL;obtain⟨d0,d1,d2,d3,d4,d5,d6,_⟩:=aB dH;have f0:=ak dH 0;have f1:=ak dH 1;have f2:=ak dH 2;have f3:=ak dH 3;have f4:=ak dH 4;have f5:=ak dH 5;have f6:=ak dH 6;clear gL dH fJ eT hs2 hi2 FZ;obtain⟨a1,n1,p1⟩:=v1;obtain⟨a2,n2,p2⟩:=v2;obtain⟨a3,n3,p3⟩:=v3;simp only[Sv.v]at c4 c5 c6;go_wp2;refine bodyPost_ret (v:=.agg #[.int .i64 d,.int .i64 ep,.int .i64 un,.int .i64 la,.slice a1 n1 p1,.slice a2 n2 p2,.slice a3 n3 p3]) (by simp[results,Tryz.results75,go_sem, *]) rfl ⟨⟨d,ep,un,la,⟨a1,n1,p1⟩,⟨a2,n2,p2⟩,⟨a3,n3,p3⟩⟩,rfl,?_,?_⟩
 ·refine⟨rfl,rfl,rfl,rfl,?_,?_,?_⟩
  ·have hp:w.heap.size+1<w.heap.size+2:=by omega
   exact aN (aM (aM (aM (aM (aM (aM (aM o1 _ hp _) _ hp _) _ hp _) _ hp _) _ hp _) _ hp _) _ hp _) (by omega)
  ·have hp:w.heap.size+1<w.heap.size+2:=by omega
   exact aN (aM (aM (aM (aM (aM (aM (aM o2 _ hp _) _ hp _) _ hp _) _ hp _) _ hp _) _ hp _) _ hp _) (by omega)
  ·have hp:w.heap.size+1<w.heap.size+2:=by omega
   exact aN (aM (aM (aM (aM (aM (aM (aM o3 _ hp _) _ hp _) _ hp _) _ hp _) _ hp _) _ hp _) _ hp _) (by omega)
 ·exact((((((jw.setCell (by simp) _).setCell (by simp) _).setCell (by simp) _).setCell (by simp) _).setCell (by simp) _).setCell (by simp) _).setCell (by simp) _
end Go.Proofs.YtlfopoimbbpfdaaGreat
