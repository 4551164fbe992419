/- What the law asks, in parts: Held Held2 Held3 HeldD HeldI. -/
import Derived.Deep.RegionHeld3
import Derived.WalkKit
set_option linter.all false
namespace Go.Proofs.YtlfopoimbbpfdaaGreat
open Go.RowKit
section
variable {P:Program} {ops:Array Oper} {Q:Exit→Act→World→Prop} {md:Region.Mode} {S:World→Prop} {s:Nat}
def gV (P:Program) (md:Region.Mode) (ops:Array Oper) (Q:Exit→Act→World→Prop) (S:World→Prop) (s:Nat):Nat→Array Bool→Act→World→Prop
 | 0,l,a,w=>Region.ready md ops l= []∧Q .normal a w
 | n+1,l,a,w=>(Region.ready md ops l= []→Q .normal a w)∧
  ∀i∈Region.ready md ops l,wpOp P ops Q i (fun a' w'=>((l.setIfInBounds i true).getD s true=false→S w')∧gV P md ops Q S s n (l.setIfInBounds i true) a' w') a w
theorem BM:∀ (n:Nat) (l:Array Bool) (a:Act) (w:World),gV P md ops Q S s n l a w→wpAny P md ops Q n l a w
 | 0,_,_,_,h=>h
 | n+1,_,_,_,h=>⟨h.1,fun i hi=>wpOp_mono (fun a' w' k=>BM n _ a' w' k.2) (h.2 i hi)⟩
theorem Ef {i:Nat} {oi os:Oper} {v:Value} (hi:ops[i]? =some oi) (hsel:∀ (j:Nat) (o:Oper) cs b,ops[j]? =some o→o.op≠ .select cs b)
  (hQ:∀c a w,Q (.panic c) (a.put oi.dst v) w→Q (.panic c) a w) (hos:ops[s]? =some os) (kM:∃e∈os.after,Region.binds md e=true∧e.on=i) (hne:i≠s):
  ∀ (n:Nat) (l:Array Bool) (a:Act) (w:World),
   (∀j oj,ops[j]? =some oj→j≠i→l.getD j true=false→(∀e∈oj.after,Region.binds md e=true→e.on≠i)→oi.apart ops oj=true)→
   i∈Region.ready md ops l→l.getD s true=false→YieldsIf P ops S oi v a→S w→
   gV P md ops Q S s n (l.setIfInBounds i true) (a.put oi.dst v) w→gV P md ops Q S s (n+1) l a w:=by
 intro n
 induction n with
 | zero=>
  intro l a w _ hr _ hy hS H
  refine⟨fun h=>(by rw[h]at hr;cases hr),fun j hj=>?_⟩
  by_cases hji:j=i
  ·subst hji;exact hy.wpOp hi hS ⟨fun _=>hS,H⟩
  ·have h1:=ready_mono hj hji
   rw[H.1]at h1
   cases h1
 | succ n ih=>
  intro l a w hfree hr hls hy hS H
  refine⟨fun h=>(by rw[h]at hr;cases hr),fun j hj=>?_⟩
  by_cases hji:j=i
  ·subst hji;exact hy.wpOp hi hS ⟨fun _=>hS,H⟩
  have hil:=(mem_ready.1 hr).1
  have hno:l.getD i false≠true:=by
   intro h
   rcases Nat.lt_or_ge i l.size with hlt | hge
   ·simp[hlt]at hil h;rw[hil]at h;cases h
   ·simp[Array.getElem?_eq_none hge]at h
  obtain⟨hjl,oj,hoj,hall⟩:=mem_ready.1 hj
  have hjs:j≠s:=by
   rintro rfl
   rw[hos]at hoj
   injection hoj with hoj
   subst hoj
   obtain⟨e,he,hb,hon⟩:=kM
   exact hno (hon▸hall e he hb)
  have hnot:∀e∈oj.after,Region.binds md e=true→e.on≠i:=fun e he hb hon=>hno (hon▸hall e he hb)
  have h2:=wpOp_putIf hoj (hfree j oj hoj hji hjl hnot) (fun cs b=>hsel i oi cs b hi) (fun cs b=>hsel j oj cs b hoj) hQ hy (H.2 j (ready_mono hj hji))
  refine wpOp_mono (fun a' w' k=>?_) h2
  have hc:((l.setIfInBounds i true).setIfInBounds j true).getD s true=false:=by rw[getD_set_ne true hjs,getD_set_ne true hne];exact hls
  have hSw:=k.2.1 hc
  refine⟨fun _=>hSw,ih (l.setIfInBounds j true) a' w' (fun q oq hq hqi FW Nq=>?_) (ready_mono hr (Ne.symm hji)) (by rw[getD_set_ne true hjs];exact hls) k.1 hSw ?_⟩
  ·refine hfree q oq hq hqi ?_ Nq
   by_cases hjq:j=q
   ·subst hjq;exact hjl
   ·rw[getD_set_ne true hjq]at FW;exact FW
  ·rw[Array.setIfInBounds_comm _ _ hji];exact k.2.2
theorem aD {i:Nat} {oi os:Oper} {v:Value} {n:Nat} {l:Array Bool} {a:Act} {w:World} (hi:ops[i]? =some oi) (hos:ops[s]? =some os) (hsel:Region.noSelect ops=true)
  (hf:Region.free md ops l i=true) (hr:(Region.ready md ops l).contains i=true) (hls:l.getD s true=false) (kM:os.after.any (fun e=>Region.binds md e&&e.on==i)=true) (hne:i≠s)
  (hQ:∀c a w,Q (.panic c) (a.put oi.dst v) w→Q (.panic c) a w) (hy:YieldsIf P ops S oi v a) (hS:S w)
  (h:gV P md ops Q S s n (l.setIfInBounds i true) (a.put oi.dst v) w):gV P md ops Q S s (n+1) l a w:=by
 refine Ef hi (Region.noSelect_spec hsel) hQ hos ?_ hne n l a w (Region.free_spec hi hf) (by simpa using hr) hls hy hS h
 rw[Array.any_eq_true']at kM
 obtain⟨e,he,hh⟩:=kM
 rw[Bool.and_eq_true]at hh
 exact⟨e,he,hh.1,by simpa using hh.2⟩
theorem aF {i:Nat} {oi:Oper} {n:Nat} {l:Array Bool} {a:Act} {w:World} (hr:Region.ready md ops l= [i]) (hi:ops[i]? =some oi) (hg:oi.guard=none)
  (h:Oper.wp P oi a w (fun a' w'=>((l.setIfInBounds i true).getD s true=false→S w')∧gV P md ops Q S s n (l.setIfInBounds i true) a' w') Q):gV P md ops Q S s (n+1) l a w:=by
 refine⟨fun h0=>(by rw[hr]at h0;cases h0),fun j hj=>?_⟩
 rw[hr]at hj
 have:j=i:=by simpa using hj
 subst this
 unfold wpOp
 simp only[hi]
 rw[if_pos (by simp[Region.wanted,hg])]
 exact .inl h
theorem gW {i j:Nat} {oi oj:Oper} {n:Nat} {l:Array Bool} {a:Act} {w:World} (hr:Region.ready md ops l= [i,j]) (hi:ops[i]? =some oi) (hj:ops[j]? =some oj) (hgi:oi.guard=none) (hgj:oj.guard=none)
  (h1:Oper.wp P oi a w (fun a' w'=>((l.setIfInBounds i true).getD s true=false→S w')∧gV P md ops Q S s n (l.setIfInBounds i true) a' w') Q)
  (h2:Oper.wp P oj a w (fun a' w'=>((l.setIfInBounds j true).getD s true=false→S w')∧gV P md ops Q S s n (l.setIfInBounds j true) a' w') Q):gV P md ops Q S s (n+1) l a w:=by
 refine⟨fun h0=>(by rw[hr]at h0;cases h0),fun k hk=>?_⟩
 rw[hr]at hk
 have:k=i∨k=j:=by simpa using hk
 rcases this with rfl | rfl
 ·unfold wpOp
  simp only[hi]
  rw[if_pos (by simp[Region.wanted,hgi])]
  exact .inl h1
 ·unfold wpOp
  simp only[hj]
  rw[if_pos (by simp[Region.wanted,hgj])]
  exact .inl h2
theorem sZ {S':World→Prop} (hS:∀w,S' w→S w):∀ (n:Nat) (l:Array Bool) (a:Act) (w:World),gV P md ops Q S' s n l a w→gV P md ops Q S s n l a w
 | 0,_,_,_,h=>h
 | n+1,_,_,_,h=>⟨h.1,fun i hi=>wpOp_mono (fun a' w' k=>⟨fun hl=>hS _ (k.1 hl),sZ hS n _ a' w' k.2⟩) (h.2 i hi)⟩
theorem aT {n:Nat} {l:Array Bool} {a:Act} {w:World} (hr:Region.ready md ops l= []) (h:Q .normal a w):gV P md ops Q S s n l a w:=by
 cases n with
 | zero=>exact⟨hr,h⟩
 | succ n=>exact⟨fun _=>h,by rw[hr];simp⟩
theorem aS {id:Nat} {a:Act} {w:World} (s:Nat) (S:World→Prop) (hm:P.follows .mixedOrders=true)
  (h:gV P .any ops Q S s ops.size (Array.replicate ops.size false) a w.drew):(Code.region id ops true).wp P Q a w:=
 wp_region_any hm (BM _ _ _ _ h)
end
end Go.Proofs.YtlfopoimbbpfdaaGreat
namespace Go.Proofs.YtlfopoimbbpfdaaGreat
open Go.RowKit
section
variable {P:Program} {ops:Array Oper} {Q:Exit→Act→World→Prop} {md:Region.Mode} {S:World→Prop} {s:Nat}
def fZ (P:Program) (ops:Array Oper) (S:World→Prop) (o:Oper) (v:Value) (a:Act):Prop:=
 Region.wanted o (yielded ops a.tmps)=true∧ ∃fn args,(∀w,S w→(execOp a.eval o).run P w= .ok (.enter fn args) w)∧ ∀w,S w→Calls P fn args w fun e w'=>e= .returned v∧w'=w
theorem fZ.wpOp {i:Nat} {o:Oper} {v:Value} {a:Act} (hi:ops[i]? =some o) (hy:fZ P ops S o v a)
  {K:Act→World→Prop} {w:World} (hS:S w) (h:K (a.put o.dst v) w):wpOp P ops Q i K a w:=by
 unfold Go.wpOp
 simp only[hi]
 obtain⟨hw,fn,args,h1,h2⟩:=hy
 simp only[hw,if_true,Oper.wp,h1 w hS,Oper.upon]
 refine .inl ((h2 w hS).mono ?_)
 rintro e w' ⟨rfl,rfl⟩
 exact h
theorem fZ.of_same {o:Oper} {v:Value} {a a':Act} (hy:fZ P ops S o v a) (he:execOp a'.eval o=execOp a.eval o)
  (hw:Region.wanted o (yielded ops a'.tmps)=Region.wanted o (yielded ops a.tmps)):fZ P ops S o v a':=by
 unfold fZ at*
 rw[he,hw]
 exact hy
theorem tu {j:Nat} {oi oj:Oper} {v:Value} (hj:ops[j]? =some oj) (hap:oi.apart ops oj=true)
  (hsi:∀cs b,oi.op≠ .select cs b) (hsj:∀cs b,oj.op≠ .select cs b)
  (hQ:∀c a w,Q (.panic c) (a.put oi.dst v) w→Q (.panic c) a w) {K:Act→World→Prop} {a:Act} {w:World}
  (hy:fZ P ops S oi v a) (h:wpOp P ops Q j K (a.put oi.dst v) w):
  wpOp P ops Q j (fun a' w'=>fZ P ops S oi v a'∧K (a'.put oi.dst v) w') a w:=by
 obtain⟨h1,h2,h3⟩:=Oper.apart_spec hap
 have keep:∀ (a:Act),fZ P ops S oi v a→ ∀u,fZ P ops S oi v (a.put oj.dst u):=fun a hy u=>
  hy.of_same (execOp_put oi hsi a oj.dst u h3) (wanted_put oi a oj.dst u h3)
 have keepD:∀d,fZ P ops S oi v { a with defers:=d::a.defers }:=fun d=>hy.of_same rfl rfl
 unfold wpOp at*
 simp only[hj]at*
 rw[wanted_put oj a oi.dst v h1]at h
 split
 ·rename_i hw
  simp only[hw,if_true]at h
  rcases h with h | ⟨hasks,hlets⟩
  case inr=>exact .inr ⟨by unfold Oper.asks at *;rw[execOp_put oj hsj a oi.dst v h1]at hasks;exact hasks,hlets⟩
  refine .inl ?_
  unfold Oper.wp at*
  rw[execOp_put oj hsj a oi.dst v h1]at h
  generalize (execOp a.eval oj).run P w=r at*
  cases r with
  | ok n w'=>
   cases n<;>simp only[Oper.upon]at h⊢
   case value u=>exact⟨keep a hy u,by rw[←Act.put_comm a v u h2];exact h⟩
   case skip=>exact⟨keep a hy _,by rw[←Act.put_comm a v undef h2];exact h⟩
   case defer d=>
    refine⟨keep _ (keepD d) _,?_⟩
    rw[←Act.put_comm _ v undef h2,←Act.put_defers]
    exact h
   case enter f args=>
    refine Calls.mono h fun e w'' he=>?_
    cases e with
    | returned u=>exact⟨keep a hy u,by rw[←Act.put_comm a v u h2];exact he⟩
    | panicked c=>exact hQ _ _ _ he
    | outgrown=>exact he
   case row row args=>exact Rows.mono h fun u w'' he=>⟨keep a hy u,by rw[←Act.put_comm a v u h2];exact he⟩
  | halt x w'=>
   cases x<;>simp only[Oper.upon]at h⊢
   case panic u=>exact hQ _ _ _ h
 ·rename_i hw
  simp only[hw]at h
  exact⟨keep a hy _,by rw[←Act.put_comm a v undef h2];exact h⟩
theorem BN {i:Nat} {oi os:Oper} {v:Value} (hi:ops[i]? =some oi) (hsel:∀ (j:Nat) (o:Oper) cs b,ops[j]? =some o→o.op≠ .select cs b)
  (hQ:∀c a w,Q (.panic c) (a.put oi.dst v) w→Q (.panic c) a w) (hos:ops[s]? =some os) (kM:∃e∈os.after,Region.binds md e=true∧e.on=i) (hne:i≠s):
  ∀ (n:Nat) (l:Array Bool) (a:Act) (w:World),
   (∀j oj,ops[j]? =some oj→j≠i→l.getD j true=false→(∀e∈oj.after,Region.binds md e=true→e.on≠i)→oi.apart ops oj=true)→
   i∈Region.ready md ops l→l.getD s true=false→fZ P ops S oi v a→S w→
   gV P md ops Q S s n (l.setIfInBounds i true) (a.put oi.dst v) w→gV P md ops Q S s (n+1) l a w:=by
 intro n
 induction n with
 | zero=>
  intro l a w _ hr _ hy hS H
  refine⟨fun h=>(by rw[h]at hr;cases hr),fun j hj=>?_⟩
  by_cases hji:j=i
  ·subst hji;exact hy.wpOp hi hS ⟨fun _=>hS,H⟩
  ·have h1:=ready_mono hj hji
   rw[H.1]at h1
   cases h1
 | succ n ih=>
  intro l a w hfree hr hls hy hS H
  refine⟨fun h=>(by rw[h]at hr;cases hr),fun j hj=>?_⟩
  by_cases hji:j=i
  ·subst hji;exact hy.wpOp hi hS ⟨fun _=>hS,H⟩
  have hil:=(mem_ready.1 hr).1
  have hno:l.getD i false≠true:=by
   intro h
   rcases Nat.lt_or_ge i l.size with hlt | hge
   ·simp[hlt]at hil h;rw[hil]at h;cases h
   ·simp[Array.getElem?_eq_none hge]at h
  obtain⟨hjl,oj,hoj,hall⟩:=mem_ready.1 hj
  have hjs:j≠s:=by
   rintro rfl
   rw[hos]at hoj
   injection hoj with hoj
   subst hoj
   obtain⟨e,he,hb,hon⟩:=kM
   exact hno (hon▸hall e he hb)
  have hnot:∀e∈oj.after,Region.binds md e=true→e.on≠i:=fun e he hb hon=>hno (hon▸hall e he hb)
  have h2:=tu hoj (hfree j oj hoj hji hjl hnot) (fun cs b=>hsel i oi cs b hi) (fun cs b=>hsel j oj cs b hoj) hQ hy (H.2 j (ready_mono hj hji))
  refine wpOp_mono (fun a' w' k=>?_) h2
  have hc:((l.setIfInBounds i true).setIfInBounds j true).getD s true=false:=by rw[getD_set_ne true hjs,getD_set_ne true hne];exact hls
  have hSw:=k.2.1 hc
  refine⟨fun _=>hSw,ih (l.setIfInBounds j true) a' w' (fun q oq hq hqi FW Nq=>?_) (ready_mono hr (Ne.symm hji)) (by rw[getD_set_ne true hjs];exact hls) k.1 hSw ?_⟩
  ·refine hfree q oq hq hqi ?_ Nq
   by_cases hjq:j=q
   ·subst hjq;exact hjl
   ·rw[getD_set_ne true hjq]at FW;exact FW
  ·rw[Array.setIfInBounds_comm _ _ hji];exact k.2.2
theorem tC {i:Nat} {oi os:Oper} {v:Value} {n:Nat} {l:Array Bool} {a:Act} {w:World} (hi:ops[i]? =some oi) (hos:ops[s]? =some os) (hsel:Region.noSelect ops=true)
  (hf:Region.free md ops l i=true) (hr:(Region.ready md ops l).contains i=true) (hls:l.getD s true=false) (kM:os.after.any (fun e=>Region.binds md e&&e.on==i)=true) (hne:i≠s)
  (hQ:∀c a w,Q (.panic c) (a.put oi.dst v) w→Q (.panic c) a w) (hy:fZ P ops S oi v a) (hS:S w)
  (h:gV P md ops Q S s n (l.setIfInBounds i true) (a.put oi.dst v) w):gV P md ops Q S s (n+1) l a w:=by
 refine BN hi (Region.noSelect_spec hsel) hQ hos ?_ hne n l a w (Region.free_spec hi hf) (by simpa using hr) hls hy hS h
 rw[Array.any_eq_true']at kM
 obtain⟨e,he,hh⟩:=kM
 rw[Bool.and_eq_true]at hh
 exact⟨e,he,hh.1,by simpa using hh.2⟩
theorem qm {n:Nat} {l:Array Bool} {a:Act} {w:World} {F:World→Prop} (hF:F w) (h:∀V,F V→gV P md ops Q S s n l a V):gV P md ops Q S s n l a w:=h w hF
end
end Go.Proofs.YtlfopoimbbpfdaaGreat
namespace Go.Proofs.YtlfopoimbbpfdaaGreat
open Go.RowKit
section
variable {P:Program} {ops:Array Oper} {Q:Exit→Act→World→Prop} {md:Region.Mode} {S:World→Prop} {s:Nat}
theorem Eh {i:Nat} {oi:Oper} {v:Value} (hi:ops[i]? =some oi) (hsel:∀ (j:Nat) (o:Oper) cs b,ops[j]? =some o→o.op≠ .select cs b)
  (hQ:∀c a w,Q (.panic c) (a.put oi.dst v) w→Q (.panic c) a w) (hne:i≠s):
  ∀ (n:Nat) (l:Array Bool) (a:Act) (w:World),
   (∀j oj,ops[j]? =some oj→j≠i→l.getD j true=false→(∀e∈oj.after,Region.binds md e=true→e.on≠i)→oi.apart ops oj=true)→
   i∈Region.ready md ops l→YieldsIf P ops (fun _=>True) oi v a→(l.getD s true=false→S w)→
   gV P md ops Q S s n (l.setIfInBounds i true) (a.put oi.dst v) w→gV P md ops Q S s (n+1) l a w:=by
 intro n
 induction n with
 | zero=>
  intro l a w _ hr hy hS H
  refine⟨fun h=>(by rw[h]at hr;cases hr),fun j hj=>?_⟩
  by_cases hji:j=i
  ·subst hji;exact hy.wpOp hi trivial ⟨fun h=>hS (by rw[getD_set_ne true hne]at h;exact h),H⟩
  ·have h1:=ready_mono hj hji
   rw[H.1]at h1
   cases h1
 | succ n ih=>
  intro l a w hfree hr hy hS H
  refine⟨fun h=>(by rw[h]at hr;cases hr),fun j hj=>?_⟩
  by_cases hji:j=i
  ·subst hji;exact hy.wpOp hi trivial ⟨fun h=>hS (by rw[getD_set_ne true hne]at h;exact h),H⟩
  have hil:=(mem_ready.1 hr).1
  have hno:l.getD i false≠true:=by
   intro h
   rcases Nat.lt_or_ge i l.size with hlt | hge
   ·simp[hlt]at hil h;rw[hil]at h;cases h
   ·simp[Array.getElem?_eq_none hge]at h
  obtain⟨hjl,oj,hoj,hall⟩:=mem_ready.1 hj
  have hnot:∀e∈oj.after,Region.binds md e=true→e.on≠i:=fun e he hb hon=>hno (hon▸hall e he hb)
  have h2:=wpOp_putIf hoj (hfree j oj hoj hji hjl hnot) (fun cs b=>hsel i oi cs b hi) (fun cs b=>hsel j oj cs b hoj) hQ hy (H.2 j (ready_mono hj hji))
  refine wpOp_mono (fun a' w' k=>?_) h2
  have hsame:((l.setIfInBounds i true).setIfInBounds j true).getD s true=(l.setIfInBounds j true).getD s true:=by
   rw[←Array.setIfInBounds_comm _ _ hji,getD_set_ne true hne]
  have hSw:(l.setIfInBounds j true).getD s true=false→S w':=fun h=>k.2.1 (by rw[hsame];exact h)
  refine⟨hSw,ih (l.setIfInBounds j true) a' w' (fun q oq hq hqi FW Nq=>?_) (ready_mono hr (Ne.symm hji)) k.1 hSw ?_⟩
  ·refine hfree q oq hq hqi ?_ Nq
   by_cases hjq:j=q
   ·subst hjq;exact hjl
   ·rw[getD_set_ne true hjq]at FW;exact FW
  ·rw[Array.setIfInBounds_comm _ _ hji];exact k.2.2
theorem BO {i:Nat} {oi:Oper} {v:Value} (hi:ops[i]? =some oi) (hsel:∀ (j:Nat) (o:Oper) cs b,ops[j]? =some o→o.op≠ .select cs b)
  (hQ:∀c a w,Q (.panic c) (a.put oi.dst v) w→Q (.panic c) a w) (hne:i≠s):
  ∀ (n:Nat) (l:Array Bool) (a:Act) (w:World),
   (∀j oj,ops[j]? =some oj→j≠i→l.getD j true=false→(∀e∈oj.after,Region.binds md e=true→e.on≠i)→oi.apart ops oj=true)→
   i∈Region.ready md ops l→fZ P ops (fun _=>True) oi v a→(l.getD s true=false→S w)→
   gV P md ops Q S s n (l.setIfInBounds i true) (a.put oi.dst v) w→gV P md ops Q S s (n+1) l a w:=by
 intro n
 induction n with
 | zero=>
  intro l a w _ hr hy hS H
  refine⟨fun h=>(by rw[h]at hr;cases hr),fun j hj=>?_⟩
  by_cases hji:j=i
  ·subst hji;exact hy.wpOp hi trivial ⟨fun h=>hS (by rw[getD_set_ne true hne]at h;exact h),H⟩
  ·have h1:=ready_mono hj hji
   rw[H.1]at h1
   cases h1
 | succ n ih=>
  intro l a w hfree hr hy hS H
  refine⟨fun h=>(by rw[h]at hr;cases hr),fun j hj=>?_⟩
  by_cases hji:j=i
  ·subst hji;exact hy.wpOp hi trivial ⟨fun h=>hS (by rw[getD_set_ne true hne]at h;exact h),H⟩
  have hil:=(mem_ready.1 hr).1
  have hno:l.getD i false≠true:=by
   intro h
   rcases Nat.lt_or_ge i l.size with hlt | hge
   ·simp[hlt]at hil h;rw[hil]at h;cases h
   ·simp[Array.getElem?_eq_none hge]at h
  obtain⟨hjl,oj,hoj,hall⟩:=mem_ready.1 hj
  have hnot:∀e∈oj.after,Region.binds md e=true→e.on≠i:=fun e he hb hon=>hno (hon▸hall e he hb)
  have h2:=tu hoj (hfree j oj hoj hji hjl hnot) (fun cs b=>hsel i oi cs b hi) (fun cs b=>hsel j oj cs b hoj) hQ hy (H.2 j (ready_mono hj hji))
  refine wpOp_mono (fun a' w' k=>?_) h2
  have hsame:((l.setIfInBounds i true).setIfInBounds j true).getD s true=(l.setIfInBounds j true).getD s true:=by
   rw[←Array.setIfInBounds_comm _ _ hji,getD_set_ne true hne]
  have hSw:(l.setIfInBounds j true).getD s true=false→S w':=fun h=>k.2.1 (by rw[hsame];exact h)
  refine⟨hSw,ih (l.setIfInBounds j true) a' w' (fun q oq hq hqi FW Nq=>?_) (ready_mono hr (Ne.symm hji)) k.1 hSw ?_⟩
  ·refine hfree q oq hq hqi ?_ Nq
   by_cases hjq:j=q
   ·subst hjq;exact hjl
   ·rw[getD_set_ne true hjq]at FW;exact FW
  ·rw[Array.setIfInBounds_comm _ _ hji];exact k.2.2
theorem aG {i:Nat} {oi:Oper} {v:Value} {n:Nat} {l:Array Bool} {a:Act} {w:World} (hi:ops[i]? =some oi) (hsel:Region.noSelect ops=true)
  (hf:Region.free md ops l i=true) (hr:(Region.ready md ops l).contains i=true) (hne:i≠s)
  (hQ:∀c a w,Q (.panic c) (a.put oi.dst v) w→Q (.panic c) a w) (hy:YieldsIf P ops (fun _=>True) oi v a) (hS:S w)
  (h:gV P md ops Q S s n (l.setIfInBounds i true) (a.put oi.dst v) w):gV P md ops Q S s (n+1) l a w:=
 Eh hi (Region.noSelect_spec hsel) hQ hne n l a w (Region.free_spec hi hf) (by simpa using hr) hy (fun _=>hS) h
theorem dP {i:Nat} {oi:Oper} {v:Value} {n:Nat} {l:Array Bool} {a:Act} {w:World} (hi:ops[i]? =some oi) (hsel:Region.noSelect ops=true)
  (hf:Region.free md ops l i=true) (hr:(Region.ready md ops l).contains i=true) (hne:i≠s)
  (hQ:∀c a w,Q (.panic c) (a.put oi.dst v) w→Q (.panic c) a w) (hy:fZ P ops (fun _=>True) oi v a) (hS:S w)
  (h:gV P md ops Q S s n (l.setIfInBounds i true) (a.put oi.dst v) w):gV P md ops Q S s (n+1) l a w:=
 BO hi (Region.noSelect_spec hsel) hQ hne n l a w (Region.free_spec hi hf) (by simpa using hr) hy (fun _=>hS) h
theorem Ei {i j k:Nat} {oi oj ok:Oper} {n:Nat} {l:Array Bool} {a:Act} {w:World} (hr:Region.ready md ops l= [i,j,k]) (hi:ops[i]? =some oi) (hj:ops[j]? =some oj) (hk:ops[k]? =some ok) (hgi:oi.guard=none) (hgj:oj.guard=none) (FX:ok.guard=none)
  (h1:Oper.wp P oi a w (fun a' w'=>((l.setIfInBounds i true).getD s true=false→S w')∧gV P md ops Q S s n (l.setIfInBounds i true) a' w') Q)
  (h2:Oper.wp P oj a w (fun a' w'=>((l.setIfInBounds j true).getD s true=false→S w')∧gV P md ops Q S s n (l.setIfInBounds j true) a' w') Q)
  (h3:Oper.wp P ok a w (fun a' w'=>((l.setIfInBounds k true).getD s true=false→S w')∧gV P md ops Q S s n (l.setIfInBounds k true) a' w') Q):gV P md ops Q S s (n+1) l a w:=by
 refine⟨fun h0=>(by rw[hr]at h0;cases h0),fun q hq=>?_⟩
 rw[hr]at hq
 have:q=i∨q=j∨q=k:=by simpa using hq
 rcases this with rfl | rfl | rfl
 ·unfold wpOp
  simp only[hi]
  rw[if_pos (by simp[Region.wanted,hgi])]
  exact .inl h1
 ·unfold wpOp
  simp only[hj]
  rw[if_pos (by simp[Region.wanted,hgj])]
  exact .inl h2
 ·unfold wpOp
  simp only[hk]
  rw[if_pos (by simp[Region.wanted,FX])]
  exact .inl h3
theorem kT {i:Nat} {oi:Oper} {n:Nat} {l:Array Bool} {a:Act} {w:World} (hr:Region.ready md ops l= [i]) (hi:ops[i]? =some oi) (hg:Region.wanted oi (yielded ops a.tmps)=true)
  (h:Oper.wp P oi a w (fun a' w'=>((l.setIfInBounds i true).getD s true=false→S w')∧gV P md ops Q S s n (l.setIfInBounds i true) a' w') Q):gV P md ops Q S s (n+1) l a w:=by
 refine⟨fun h0=>(by rw[hr]at h0;cases h0),fun j hj=>?_⟩
 rw[hr]at hj
 have:j=i:=by simpa using hj
 subst this
 unfold wpOp
 simp only[hi]
 rw[if_pos hg]
 exact .inl h
end
end Go.Proofs.YtlfopoimbbpfdaaGreat
namespace Go.Proofs.YtlfopoimbbpfdaaGreat
open Go.RowKit
section
variable {P:Program} {ops:Array Oper} {Q:Exit→Act→World→Prop} {md:Region.Mode} {S T:World→Prop} {s t:Nat}
def kN (s:Nat) (S:World→Prop) (t:Nat) (T:World→Prop) (l:Array Bool) (w:World):Prop:=(l.getD s true=false→S w)∧(l.getD t true=false→T w)
def kX (P:Program) (md:Region.Mode) (ops:Array Oper) (Q:Exit→Act→World→Prop) (s:Nat) (S:World→Prop) (t:Nat) (T:World→Prop):Nat→Array Bool→Act→World→Prop
 | 0,l,a,w=>Region.ready md ops l= []∧Q .normal a w
 | n+1,l,a,w=>(Region.ready md ops l= []→Q .normal a w)∧
  ∀i∈Region.ready md ops l,wpOp P ops Q i (fun a' w'=>kN s S t T (l.setIfInBounds i true) w'∧kX P md ops Q s S t T n (l.setIfInBounds i true) a' w') a w
theorem BP:∀ (n:Nat) (l:Array Bool) (a:Act) (w:World),kX P md ops Q s S t T n l a w→wpAny P md ops Q n l a w
 | 0,_,_,_,h=>h
 | n+1,_,_,_,h=>⟨h.1,fun i hi=>wpOp_mono (fun a' w' k=>BP n _ a' w' k.2) (h.2 i hi)⟩
theorem Ej {i:Nat} {l:Array Bool} {w:World} (h1:i≠s) (h2:i≠t) (h:kN s S t T (l.setIfInBounds i true) w):kN s S t T l w:=
 ⟨fun e=>h.1 (by rw[getD_set_ne true h1];exact e),fun e=>h.2 (by rw[getD_set_ne true h2];exact e)⟩
theorem zG {i z j:Nat} {oz:Oper} {l:Array Bool} (hoz:ops[z]? =some oz) (kM:oz.after.any (fun e=>Region.binds md e&&e.on==i)=true) (hl:l.getD z true=false)
  (hj:j∈Region.ready md ops l) (hr:i∈Region.ready md ops l):(l.setIfInBounds j true).getD z true=false:=by
 have hil:=(mem_ready.1 hr).1
 have hno:l.getD i false≠true:=by
  intro h
  rcases Nat.lt_or_ge i l.size with hlt | hge
  ·simp[hlt]at hil h;rw[hil]at h;cases h
  ·simp[Array.getElem?_eq_none hge]at h
 obtain⟨_,oj,hoj,hall⟩:=mem_ready.1 hj
 have hjz:j≠z:=by
  rintro rfl
  rw[hoz]at hoj
  injection hoj with hoj
  subst hoj
  rw[Array.any_eq_true']at kM
  obtain⟨e,he,hh⟩:=kM
  rw[Bool.and_eq_true]at hh
  have hon:e.on=i:=by simpa using hh.2
  exact hno (hon▸hall e he hh.1)
 rw[getD_set_ne true hjz];exact hl
theorem nH {i:Nat} {oi:Oper} {v:Value} {U:World→Prop} {Y:Act→Prop} {N:Array Bool→Prop} (hi:ops[i]? =some oi)
  (hYi:∀ {K:Act→World→Prop} {a:Act} {w:World},Y a→U w→K (a.put oi.dst v) w→wpOp P ops Q i K a w)
  (hYj:∀ {j:Nat} {oj:Oper} {K:Act→World→Prop} {a:Act} {w:World},ops[j]? =some oj→oi.apart ops oj=true→Y a→wpOp P ops Q j K (a.put oi.dst v) w→wpOp P ops Q j (fun a' w'=>Y a'∧K (a'.put oi.dst v) w') a w)
  (h1:i≠s) (h2:i≠t) (hU:∀l w,N l→kN s S t T l w→U w) (hN:∀l j,N l→j∈Region.ready md ops l→i∈Region.ready md ops l→j≠i→N (l.setIfInBounds j true)):
  ∀ (n:Nat) (l:Array Bool) (a:Act) (w:World),
   (∀j oj,ops[j]? =some oj→j≠i→l.getD j true=false→(∀e∈oj.after,Region.binds md e=true→e.on≠i)→oi.apart ops oj=true)→
   i∈Region.ready md ops l→N l→Y a→kN s S t T l w→
   kX P md ops Q s S t T n (l.setIfInBounds i true) (a.put oi.dst v) w→kX P md ops Q s S t T (n+1) l a w:=by
 intro n
 have hset:∀ {l:Array Bool} {w:World},kN s S t T l w→kN s S t T (l.setIfInBounds i true) w:=fun h=>
  ⟨fun e=>h.1 (by rw[getD_set_ne true h1]at e;exact e),fun e=>h.2 (by rw[getD_set_ne true h2]at e;exact e)⟩
 induction n with
 | zero=>
  intro l a w _ hr XU hy hS H
  refine⟨fun h=>(by rw[h]at hr;cases hr),fun j hj=>?_⟩
  by_cases hji:j=i
  ·subst hji;exact hYi hy (hU l w XU hS) ⟨hset hS,H⟩
  ·have h1:=ready_mono hj hji
   rw[H.1]at h1
   cases h1
 | succ n ih=>
  intro l a w hfree hr XU hy hS H
  refine⟨fun h=>(by rw[h]at hr;cases hr),fun j hj=>?_⟩
  by_cases hji:j=i
  ·subst hji;exact hYi hy (hU l w XU hS) ⟨hset hS,H⟩
  have hil:=(mem_ready.1 hr).1
  have hno:l.getD i false≠true:=by
   intro h
   rcases Nat.lt_or_ge i l.size with hlt | hge
   ·simp[hlt]at hil h;rw[hil]at h;cases h
   ·simp[Array.getElem?_eq_none hge]at h
  obtain⟨hjl,oj,hoj,hall⟩:=mem_ready.1 hj
  have hnot:∀e∈oj.after,Region.binds md e=true→e.on≠i:=fun e he hb hon=>hno (hon▸hall e he hb)
  have h3:=hYj hoj (hfree j oj hoj hji hjl hnot) hy (H.2 j (ready_mono hj hji))
  refine wpOp_mono (fun a' w' k=>?_) h3
  have hc:kN s S t T (l.setIfInBounds j true) w':=by
   have h4:=k.2.1
   rw[←Array.setIfInBounds_comm _ _ hji]at h4
   exact Ej h1 h2 h4
  refine⟨hc,ih (l.setIfInBounds j true) a' w' (fun q oq hq hqi FW Nq=>?_) (ready_mono hr (Ne.symm hji)) (hN l j XU hj hr hji) k.1 hc ?_⟩
  ·refine hfree q oq hq hqi ?_ Nq
   by_cases hjq:j=q
   ·subst hjq;exact hjl
   ·rw[getD_set_ne true hjq]at FW;exact FW
  ·rw[Array.setIfInBounds_comm _ _ hji];exact k.2.2
section
variable {i n:Nat} {oi:Oper} {v:Value} {l:Array Bool} {a:Act} {w:World}
theorem kY {os:Oper} (hi:ops[i]? =some oi) (hos:ops[s]? =some os) (hsel:Region.noSelect ops=true) (hf:Region.free md ops l i=true) (hr:(Region.ready md ops l).contains i=true)
  (hls:l.getD s true=false) (kM:os.after.any (fun e=>Region.binds md e&&e.on==i)=true) (h1:i≠s) (h2:i≠t)
  (hQ:∀c a w,Q (.panic c) (a.put oi.dst v) w→Q (.panic c) a w) (hy:YieldsIf P ops S oi v a) (hC:kN s S t T l w)
  (h:kX P md ops Q s S t T n (l.setIfInBounds i true) (a.put oi.dst v) w):kX P md ops Q s S t T (n+1) l a w:=
 nH (U:=S) (Y:=YieldsIf P ops S oi v) (N:=fun l=>l.getD s true=false) hi (fun hy hS h=>hy.wpOp hi hS h)
  (fun hoj hap hy h=>wpOp_putIf hoj hap (fun cs b=>Region.noSelect_spec hsel i oi cs b hi) (fun cs b=>Region.noSelect_spec hsel _ _ cs b hoj) hQ hy h) h1 h2 (fun _ _ hN hc=>hc.1 hN)
  (fun l j hN hj hir _=>zG hos kM hN hj hir) n l a w (Region.free_spec hi hf) (by simpa using hr) hls hy hC h
theorem gT {ot:Oper} (hi:ops[i]? =some oi) (hot:ops[t]? =some ot) (hsel:Region.noSelect ops=true) (hf:Region.free md ops l i=true) (hr:(Region.ready md ops l).contains i=true)
  (hlt:l.getD t true=false) (kM:ot.after.any (fun e=>Region.binds md e&&e.on==i)=true) (h1:i≠s) (h2:i≠t)
  (hQ:∀c a w,Q (.panic c) (a.put oi.dst v) w→Q (.panic c) a w) (hy:YieldsIf P ops T oi v a) (hC:kN s S t T l w)
  (h:kX P md ops Q s S t T n (l.setIfInBounds i true) (a.put oi.dst v) w):kX P md ops Q s S t T (n+1) l a w:=
 nH (U:=T) (Y:=YieldsIf P ops T oi v) (N:=fun l=>l.getD t true=false) hi (fun hy hS h=>hy.wpOp hi hS h)
  (fun hoj hap hy h=>wpOp_putIf hoj hap (fun cs b=>Region.noSelect_spec hsel i oi cs b hi) (fun cs b=>Region.noSelect_spec hsel _ _ cs b hoj) hQ hy h) h1 h2 (fun _ _ hN hc=>hc.2 hN)
  (fun l j hN hj hir _=>zG hot kM hN hj hir) n l a w (Region.free_spec hi hf) (by simpa using hr) hlt hy hC h
theorem dA (hi:ops[i]? =some oi) (hsel:Region.noSelect ops=true) (hf:Region.free md ops l i=true) (hr:(Region.ready md ops l).contains i=true) (h1:i≠s) (h2:i≠t)
  (hQ:∀c a w,Q (.panic c) (a.put oi.dst v) w→Q (.panic c) a w) (hy:YieldsIf P ops (fun _=>True) oi v a) (hC:kN s S t T l w)
  (h:kX P md ops Q s S t T n (l.setIfInBounds i true) (a.put oi.dst v) w):kX P md ops Q s S t T (n+1) l a w:=
 nH (U:=fun _=>True) (Y:=YieldsIf P ops (fun _=>True) oi v) (N:=fun _=>True) hi (fun hy hS h=>hy.wpOp hi hS h)
  (fun hoj hap hy h=>wpOp_putIf hoj hap (fun cs b=>Region.noSelect_spec hsel i oi cs b hi) (fun cs b=>Region.noSelect_spec hsel _ _ cs b hoj) hQ hy h) h1 h2 (fun _ _ _ _=>trivial)
  (fun _ _ _ _ _ _=>trivial) n l a w (Region.free_spec hi hf) (by simpa using hr) trivial hy hC h
theorem wz (hi:ops[i]? =some oi) (hsel:Region.noSelect ops=true) (hf:Region.free md ops l i=true) (hr:(Region.ready md ops l).contains i=true) (h1:i≠s) (h2:i≠t)
  (hQ:∀c a w,Q (.panic c) (a.put oi.dst v) w→Q (.panic c) a w) (hy:fZ P ops (fun _=>True) oi v a) (hC:kN s S t T l w)
  (h:kX P md ops Q s S t T n (l.setIfInBounds i true) (a.put oi.dst v) w):kX P md ops Q s S t T (n+1) l a w:=
 nH (U:=fun _=>True) (Y:=fZ P ops (fun _=>True) oi v) (N:=fun _=>True) hi (fun hy hS h=>hy.wpOp hi hS h)
  (fun hoj hap hy h=>tu hoj hap (fun cs b=>Region.noSelect_spec hsel i oi cs b hi) (fun cs b=>Region.noSelect_spec hsel _ _ cs b hoj) hQ hy h) h1 h2 (fun _ _ _ _=>trivial)
  (fun _ _ _ _ _ _=>trivial) n l a w (Region.free_spec hi hf) (by simpa using hr) trivial hy hC h
theorem eY (hr:Region.ready md ops l= [i]) (hi:ops[i]? =some oi) (hg:oi.guard=none)
  (h:Oper.wp P oi a w (fun a' w'=>kN s S t T (l.setIfInBounds i true) w'∧kX P md ops Q s S t T n (l.setIfInBounds i true) a' w') Q):kX P md ops Q s S t T (n+1) l a w:=by
 refine⟨fun h0=>(by rw[hr]at h0;cases h0),fun j hj=>?_⟩
 rw[hr]at hj
 have:j=i:=by simpa using hj
 subst this
 unfold wpOp
 simp only[hi]
 rw[if_pos (by simp[Region.wanted,hg])]
 exact .inl h
theorem BQ {j:Nat} {oj:Oper} (hr:Region.ready md ops l= [i,j]) (hi:ops[i]? =some oi) (hj:ops[j]? =some oj) (hgi:oi.guard=none) (hgj:oj.guard=none)
  (h1:Oper.wp P oi a w (fun a' w'=>kN s S t T (l.setIfInBounds i true) w'∧kX P md ops Q s S t T n (l.setIfInBounds i true) a' w') Q)
  (h2:Oper.wp P oj a w (fun a' w'=>kN s S t T (l.setIfInBounds j true) w'∧kX P md ops Q s S t T n (l.setIfInBounds j true) a' w') Q):kX P md ops Q s S t T (n+1) l a w:=by
 refine⟨fun h0=>(by rw[hr]at h0;cases h0),fun k hk=>?_⟩
 rw[hr]at hk
 have:k=i∨k=j:=by simpa using hk
 rcases this with rfl | rfl
 ·unfold wpOp
  simp only[hi]
  rw[if_pos (by simp[Region.wanted,hgi])]
  exact .inl h1
 ·unfold wpOp
  simp only[hj]
  rw[if_pos (by simp[Region.wanted,hgj])]
  exact .inl h2
theorem mM (hr:Region.ready md ops l= []) (h:Q .normal a w):kX P md ops Q s S t T n l a w:=by
 cases n with
 | zero=>exact⟨hr,h⟩
 | succ n=>exact⟨fun _=>h,by rw[hr];simp⟩
theorem mO {S' T':World→Prop} (hS:∀w,S' w→S w) (hT:∀w,T' w→T w):∀ (n:Nat) (l:Array Bool) (a:Act) (w:World),kX P md ops Q s S' t T' n l a w→kX P md ops Q s S t T n l a w
 | 0,_,_,_,h=>h
 | n+1,_,_,_,h=>⟨h.1,fun i hi=>wpOp_mono (fun a' w' k=>⟨⟨fun hl=>hS _ (k.1.1 hl),fun hl=>hT _ (k.1.2 hl)⟩,mO hS hT n _ a' w' k.2⟩) (h.2 i hi)⟩
theorem oD {id:Nat} (s:Nat) (S:World→Prop) (t:Nat) (T:World→Prop) (hm:P.follows .mixedOrders=true)
  (h:kX P .any ops Q s S t T ops.size (Array.replicate ops.size false) a w.drew):(Code.region id ops true).wp P Q a w:=
 wp_region_any hm (BP _ _ _ _ h)
end
end
end Go.Proofs.YtlfopoimbbpfdaaGreat
namespace Go.Proofs.YtlfopoimbbpfdaaGreat
open Go.RowKit
section
variable {P:Program} {ops:Array Oper} {Q:Exit→Act→World→Prop} {md:Region.Mode} {S:World→Prop} {s:Nat}
def XV (md:Region.Mode) (ops:Array Oper) (i:Nat):List Nat:=((ops[i]?.map (fun o=>(o.after.toList.filter (fun e=>Region.binds md e)).map (fun e=>e.on))).getD [])
def early (md:Region.Mode) (ops:Array Oper):Bool:=(List.range ops.size).all fun i=>(XV md ops i).all (fun k=>decide (k<i))
def Ak (l:Array Bool):Nat:=l.toList.countP (fun b=>!b)
theorem Nr (l:List Bool):∀i:Nat,l[i]? =some false→(l.set i true).countP (fun b=>!b)+1=l.countP (fun b=>!b):=by
 induction l with
 | nil=>intro i h;simp at h
 | cons x l ih=>
  intro i h
  cases i with
  | zero=>
   simp only[List.getElem?_cons_zero,Option.some.injEq]at h
   subst h
   simp
  | succ i=>
   have:=ih i (by simpa using h)
   simp only[List.set_cons_succ,List.countP_cons]
   omega
theorem wB {l:Array Bool} {i:Nat} (h:l.getD i true=false):Ak (l.setIfInBounds i true)+1=Ak l:=by
 unfold Ak
 rw[Array.toList_setIfInBounds]
 refine Nr _ i ?_
 rw[Array.getElem?_toList]
 rw[Array.getD_eq_getD_getElem?]at h
 cases hq:l[i]? with
 | none=>rw[hq]at h;cases h
 | some b=>rw[hq]at h;exact congrArg some h
theorem getD_some {l:Array Bool} {k:Nat} (h:k<l.size) (d e:Bool):l.getD k d=l.getD k e:=by
 simp[Array.getD,h]
theorem El {l:Array Bool} {k:Nat} (h:l.getD k false=true):l.getD k true=true:=by
 by_cases hk:k<l.size
 ·rw[getD_some hk true false];exact h
 ·simp[Array.getD,hk]
theorem Al {l:Array Bool} {i k:Nat} (hi:i<l.size):((l.setIfInBounds i true).getD k true=true)=(k=i∨l.getD k true=true):=by
 by_cases hk:k=i
 ·subst hk
  simp[hi]
 ·have:i≠k:=fun e=>hk e.symm
  simp[hk,Array.getElem?_setIfInBounds_ne this]
theorem JI {l:Array Bool} (he:early md ops=true) (hsz:l.size=ops.size) (hr:Region.ready md ops l= []):∀i,i<ops.size→l.getD i true=true:=by
 intro i
 induction i using Nat.strongRecOn with
 | ind i ih=>
  intro hi
  cases hq:l.getD i true with
  | true=>rfl
  | false=>
   exfalso
   have hm:i∈Region.ready md ops l:=by
    refine mem_ready.2 ⟨hq,ops[i],Array.getElem?_eq_getElem hi,fun e Ue hb=>?_⟩
    have hon:e.on<i:=by
     unfold early at he
     rw[List.all_eq_true]at he
     have h1:=he i (List.mem_range.2 hi)
     rw[List.all_eq_true]at h1
     have h2:=h1 e.on (by
      unfold XV
      rw[Array.getElem?_eq_getElem hi]
      simp only[Option.map_some,Option.getD_some,List.mem_map,List.mem_filter,Array.mem_toList_iff]
      exact⟨e,⟨Ue,hb⟩,rfl⟩)
     simpa using h2
    have:=ih e.on hon (by omega)
    rw[getD_some (by omega) false true]
    exact this
   rw[hr]at hm
   cases hm
theorem mP (I:(Nat→Prop)→Act→World→Prop) (he:early md ops=true) (hS:∀D a w,I D a w→ ¬D s→S w)
  (hstep:∀i,i<ops.size→ ∀D a w,I D a w→ ¬D i→(∀k∈XV md ops i,D k)→wpOp P ops Q i (fun a' w'=>I (fun k=>k=i∨D k) a' w') a w)
  (hend:∀D a w,I D a w→(∀k,k<ops.size→D k)→Q .normal a w):
  ∀ (n:Nat) (l:Array Bool) (a:Act) (w:World),Ak l≤n→l.size=ops.size→I (fun k=>l.getD k true=true) a w→gV P md ops Q S s n l a w:=by
 intro n
 have hrd:∀ (l:Array Bool) a w,l.size=ops.size→I (fun k=>l.getD k true=true) a w→Region.ready md ops l= []→Q .normal a w:=fun l a w hl h hr=>
  hend _ a w h (fun k hk=>JI he hl hr k hk)
 induction n with
 | zero=>
  intro l a w hn hl h
  have hr:Region.ready md ops l= []:=by
   rw[List.eq_nil_iff_forall_not_mem]
   intro i hi
   have:=wB (mem_ready.1 hi).1
   omega
  exact⟨hr,hrd l a w hl h hr⟩
 | succ n ih=>
  intro l a w hn hl h
  refine⟨hrd l a w hl h,fun i hi=>?_⟩
  obtain⟨h1,o,ho,hall⟩:=mem_ready.1 hi
  have hlt:i<ops.size:=(Array.getElem?_eq_some_iff.1 ho).1
  have hset:(fun k=>k=i∨l.getD k true=true)=(fun k=>(l.setIfInBounds i true).getD k true=true):=funext fun k=>(Al (by omega)).symm
  have hst:=hstep i hlt _ a w h (by rw[h1];decide) (fun k hk=>by
   unfold XV at hk
   rw[ho]at hk
   simp only[Option.map_some,Option.getD_some,List.mem_map,List.mem_filter,Array.mem_toList_iff]at hk
   obtain⟨e,⟨g1,g2⟩,rfl⟩:=hk
   exact El (hall e g1 g2))
  rw[hset]at hst
  refine wpOp_mono (fun a' w' k=>⟨fun hf=>hS _ a' w' k (by rw[hf];decide),ih _ a' w' ?_ (by simpa using hl) k⟩) hst
  have:=wB h1
  omega
theorem bC {i:Nat} {oi:Oper} {K:Act→World→Prop} {a:Act} {w:World} (hi:ops[i]? =some oi) (hg:oi.guard=none) (h:Oper.wp P oi a w K Q):wpOp P ops Q i K a w:=by
 unfold wpOp
 simp only[hi]
 rw[if_pos (by simp[Region.wanted,hg])]
 exact .inl h
end
end Go.Proofs.YtlfopoimbbpfdaaGreat
