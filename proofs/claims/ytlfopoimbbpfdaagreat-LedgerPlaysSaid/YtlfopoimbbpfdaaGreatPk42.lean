/- What the law asks, in parts: Df. -/
import Derived.ProofKit
import Derived.OpenShut
import Derived.ShutString
import Derived.ChangeOld
import Derived.Below
import Derived.Lib.SmallJoins
import Derived.Deep.Slices
import Derived.Deep.Fields
import Derived.ChangeSame
import Derived.Test.YtlfopoimbbpfdaaGreatPk39
set_option linter.all false
namespace Go.Proofs.YtlfopoimbbpfdaaGreat
open Go.ChangeShapes Go.WideShapes Go.ChangeAt Go.RowKit Go.Deep
theorem Tryz.own:ownKnob Tryz.prog.godebug=none:=by kernel_rfl
theorem Tryz.laidOut:laidOutB Tryz.prog=true:=by kernel_rfl
theorem Jt {n:Int} (h:(Lit.int .i64 n).wf=true): -9223372036854775808≤n∧n≤9223372036854775807:=bounds_i64 h
theorem uZ {H:Type} {enc:TypeId×Value→H} {P:Program} {w:World} {base:Nat} {spare:Nat→Bool} {held:Bool} {t e:TypeId} {fs:Array Field} {fuel:Nat} {cs:List Value} {x:DataW H×List MemPlace} (ht:P.underlying t=some (.slice e)) (he:P.underlying e=some (.struct fs))
  (hone:oneCellFields P fs=true) (hC:P.cellsOf e=fs.size) (h:DataW.trod enc P w base spare held fuel t cs=some x):
  cs= [.slice none 0 0]∨
  ∃ (a:Addr) (len cap:Nat),cs= [.slice (some a) len cap]∧len≤cap∧cap≤maxLen∧
   ∀i,i<len→ ∃n:Nat,∀ (j:Nat) (f:Field),fs[j]? =some f→ ∃ (v:Value) (y:DataW H×List MemPlace),w.cell? (a.add (i*fs.size+j))=some v∧DataW.trod enc P w base spare held n f.type [v]=some y:=by
 rcases open_slice ht h with h0 | ⟨a,len,cap,m,n,D,Pl,hcs,hb,hl,hm,hmm,hx,hi⟩
 ·exact .inl h0.1
 ·refine .inr ⟨a,len,cap,hcs,hl,hm,fun i hil=>?_⟩
  have him:i<m:=by rw[hmm];split<;>omega
  obtain⟨cs',hc,ht'⟩:=hi i him
  rw[hC]at hc
  obtain⟨ys,n',hn',hy,hlen,hyl,hf⟩:=DataW.trod_struct he ht'
  obtain⟨_,hcl,hat⟩:=World.cells?_some hc
  refine⟨n',fun j f hj=>?_⟩
  obtain⟨ho,hk⟩:=hone_of hone j f hj
  have hjl:j<fs.size:=(bg hj).1
  have hcell:=hat j hjl
  have hv:cs'[j]? =some (cs'[j]'(by omega)):=List.getElem?_eq_getElem (by omega)
  have h1:=hf j f hj
  rw[ho,hk]at h1
  have XK:(cs'.drop j).take 1= [cs'[j]'(by omega)]:=by
   rw[List.drop_eq_getElem_cons (by omega)]
   rfl
  rw[XK]at h1
  have hys:ys[j]? =some (ys[j]'(by omega)):=List.getElem?_eq_getElem (by omega)
  refine⟨_,_,?_,h1.trans hys⟩
  rw[←Go.Deep.add_add,hcell,hv]
theorem nV {α:Type} {f:α→List Value} {E:Nat} (hE:∀x,(f x).length=E) (hp:0<E) {w:World} {a:Addr} {len cap:Nat} (hl:len≤cap) (hm:cap≤maxLen) {Q:α→Prop}
  (h:∀i,i<len→ ∃y:α,Q y∧ ∀j u,(f y)[j]? =some u→w.cell? (a.add (i*E+j))=some u):∃l:List α,cK f E w (.slice (some a) len cap) l∧ ∀y∈l,Q y:=by
 have h':∀i:Fin len,∃y:α,Q y∧ ∀j u,(f y)[j]? =some u→w.cell? (a.add (i.1*E+j))=some u:=fun i=>h i.1 i.2
 let g:Fin len→α:=fun i=>Classical.choose (h' i)
 have hg:∀i,Q (g i)∧ ∀j u,(f (g i))[j]? =some u→w.cell? (a.add (i.1*E+j))=some u:=fun i=>Classical.choose_spec (h' i)
 refine⟨List.ofFn g,?_,fun y hy=>?_⟩
 ·have hlen:(List.ofFn g).length=len:=List.length_ofFn
  have hcl:(aK f (List.ofFn g)).length=len*E:=by rw[bL hE,hlen]
  unfold cK
  rw[hlen]
  refine⟨hcl,some a,cap,rfl,hl,hm,(fun h=>by cases h),fun j u hu=>?_⟩
  have hj:j<len*E:=by rw[←hcl];exact(List.getElem?_eq_some_iff.1 hu).1
  have hlp:0<len:=Nat.pos_of_ne_zero (fun e=>by subst e;simp at hj)
  have hq:j/E<len:=(Nat.div_lt_iff_lt_mul hp).2 hj
  have hr:j%E<E:=Nat.mod_lt _ hp
  have hjq:j/E*E+j%E=j:=Nat.div_add_mod' j E
  have hu2:(f (g ⟨j/E,hq⟩))[j%E]? =some u:=by
   have:=bP hE (List.ofFn g) (j/E) (by rw[hlen];exact hq) (j%E) hr
   rw[hjq,hu]at this
   rw[List.getElem_ofFn]at this
   exact this.symm
  have hc:=(hg ⟨j/E,hq⟩).2 _ _ hu2
  simp only[hjq]at hc
  have h00:=(hg ⟨0,hlp⟩).2 0 ((f (g ⟨0,hlp⟩))[0]'(by rw[hE];exact hp)) (List.getElem?_eq_getElem _)
  simp only[Nat.zero_mul,Nat.zero_add]at h00
  have hspot:a.spot=none:=by
   cases hs:a.spot with
   | none=>rfl
   | some q=>
    exfalso
    simp only[Addr.add,if_true,World.cell?]at h00
    split at h00
    ·simp[hs]at h00
    ·cases h00
  obtain⟨b,off,spot⟩:=a
  simp only at hspot;subst hspot
  rw[Addr.add_lit]at hc
  exact⟨b,off,rfl,World.block_lt_of_cell? w _ hc,hc⟩
 ·obtain⟨i,hi⟩:=(List.mem_ofFn).1 hy
  rw[←hi];exact(hg i).1
def XL (w:World) (x:ow):Prop:=∃ws,JG w x ws
section
variable {H:Type} {enc:TypeId×Value→H} {w:World} {base:Nat} {spare:Nat→Bool} {held:Bool} {fuel:Nat} {x:DataW H×List MemPlace}
theorem take_one {cs:List Value} {k:Nat} (hk:k<cs.length):(cs.drop k).take 1= [cs[k]]:=by
 rw[List.drop_eq_getElem_cons hk]
 rfl
theorem jv {P:Program} {fs:Array Field} {cs:List Value} {n:Nat} (hf:∀ (i:Nat) (f:Field),fs[i]? =some f→ ∃y,DataW.trod enc P w base spare held n f.type ((cs.drop f.offset).take (P.cellsOf f.type))=some y)
  (i k:Nat) {f:Field} (hi:fs[i]? =some f) (ho:f.offset=k) (hc:P.cellsOf f.type=1) (hk:k<cs.length):∃y,DataW.trod enc P w base spare held n f.type [cs[k]]=some y:=by
 have h:=hf i f hi
 rw[ho,hc,take_one hk]at h
 exact h
theorem MR {P:Program} {fs:Array Field} {cs:List Value} {n:Nat} (hf:∀ (i:Nat) (f:Field),fs[i]? =some f→ ∃y,DataW.trod enc P w base spare held n f.type ((cs.drop f.offset).take (P.cellsOf f.type))=some y)
  (i k m:Nat) (t:TypeId) {f:Field} (hi:fs[i]? =some f) (ho:f.offset=k) (ht:f.type=t) (hc:P.cellsOf t=m):∃y,DataW.trod enc P w base spare held n t ((cs.drop k).take m)=some y:=by
 have h:=hf i f hi
 rw[ho,ht,hc]at h
 exact h
theorem qN {P:Program} {t:TypeId} {fs:Array Field} {cs:List Value} (ht:P.underlying t=some (.struct fs)) (h:DataW.trod enc P w base spare held fuel t cs=some x):
  cs.length=P.cellsOf t∧ ∃n,∀ (i:Nat) (f:Field),fs[i]? =some f→ ∃y,DataW.trod enc P w base spare held n f.type ((cs.drop f.offset).take (P.cellsOf f.type))=some y:=by
 obtain⟨xs,n,_,_,hl,hx,hf⟩:=DataW.trod_struct ht h
 refine⟨hl,n,fun i f hi=>?_⟩
 have hlt:i<xs.length:=by rw[hx];exact(bg hi).1
 exact⟨xs[i],(hf i f hi).trans (List.getElem?_eq_getElem hlt)⟩
theorem iM {v:Value} (h:DataW.trod enc Tryz.prog w base spare held fuel 3 [v]=some x):∃n:Int,v= .int .i64 n:=by
 obtain⟨n,e,_,_⟩:=DataW.trod_int Tryz.underlying3 h
 simp at e
 exact⟨n,e⟩
theorem FQ {v:Value} (h:DataW.trod enc Tryz.prog w base spare held fuel 9 [v]=some x):∃s:ByteArray,v= .string s:=by
 obtain⟨n,e,_,_⟩:=DataW.trod_string Tryz.underlying9 h
 simp at e
 exact⟨n,e⟩
theorem Tc {v:Value} (h:DataW.trod enc Tryz.prog w base spare held fuel 33 [v]=some x):∃s:Sv,v=s.v∧ ∃l,oH w s.v l:=by
 rcases uZ Tryz.underlying33 Tryz.underlying65 (by kernel_rfl) (by kernel_rfl) h with hcs | ⟨b,l,c,hcs,hl,hm,hi⟩
 ·simp at hcs
  exact⟨⟨none,0,0⟩,hcs,[],cK.nil _ _ _⟩
 ·simp at hcs
  refine⟨⟨some b,l,c⟩,hcs,?_⟩
  obtain⟨zs,hz,_⟩:=nV (α:=Wn) (w:=w) (a:=b) (len:=l) (cap:=c) Am (by omega) hl hm (Q:=fun _=>True) (fun i hil=>by
   obtain⟨n,hf⟩:=hi i hil
   obtain⟨v0,y0,k0,t0⟩:=hf 0 _ rfl
   obtain⟨v1,y1,k1,t1⟩:=hf 1 _ rfl
   obtain⟨v2,y2,k2,t2⟩:=hf 2 _ rfl
   obtain⟨v3,y3,k3,t3⟩:=hf 3 _ rfl
   obtain⟨s,rfl⟩:=FQ t0
   obtain⟨n1,rfl⟩:=iM t1
   obtain⟨n2,rfl⟩:=iM t2
   obtain⟨n3,rfl⟩:=iM t3
   refine⟨⟨s,n1,n2,n3⟩,trivial,fun j u hu=>?_⟩
   match j,hu with
   | 0,hu=>cases hu;exact k0
   | 1,hu=>cases hu;exact k1
   | 2,hu=>cases hu;exact k2
   | 3,hu=>cases hu;exact k3
   | j+4,hu=>cases hu)
  exact⟨zs,hz⟩
theorem Td {v:Value} (h:DataW.trod enc Tryz.prog w base spare held fuel 36 [v]=some x):∃s:Sv,v=s.v∧ ∃l,Fq w s.v l:=by
 rcases uZ Tryz.underlying36 Tryz.underlying35 (by kernel_rfl) (by kernel_rfl) h with hcs | ⟨b,l,c,hcs,hl,hm,hi⟩
 ·simp at hcs
  exact⟨⟨none,0,0⟩,hcs,[],cK.nil _ _ _⟩
 ·simp at hcs
  refine⟨⟨some b,l,c⟩,hcs,?_⟩
  obtain⟨zs,hz,_⟩:=nV (α:=Dt) (w:=w) (a:=b) (len:=l) (cap:=c) vW (by omega) hl hm (Q:=fun _=>True) (fun i hil=>by
   obtain⟨n,hf⟩:=hi i hil
   obtain⟨v0,y0,k0,t0⟩:=hf 0 _ rfl
   obtain⟨v1,y1,k1,t1⟩:=hf 1 _ rfl
   obtain⟨v2,y2,k2,t2⟩:=hf 2 _ rfl
   obtain⟨n0,rfl⟩:=iM t0
   obtain⟨n1,rfl⟩:=iM t1
   obtain⟨n2,rfl⟩:=iM t2
   refine⟨⟨n0,n1,n2⟩,trivial,fun j u hu=>?_⟩
   match j,hu with
   | 0,hu=>cases hu;exact k0
   | 1,hu=>cases hu;exact k1
   | 2,hu=>cases hu;exact k2
   | j+3,hu=>cases hu)
  exact⟨zs,hz⟩
set_option maxRecDepth 100000 in
theorem XM {cs:List Value} (h:DataW.trod enc Tryz.prog w base spare held fuel 38 cs=some x):∃o:pO,cs=cOp o∧ ∃ds,Fq w o.dots.v ds:=by
 obtain⟨hl,n,hf⟩:=qN Tryz.underlying38 h
 rw[show Tryz.prog.cellsOf 38 =11 by kernel_rfl]at hl
 obtain⟨y0,t0⟩:=MR hf 0 0 3 35 rfl rfl rfl (by kernel_rfl)
 rw[List.drop_zero]at t0
 obtain⟨hl0,n0,hf0⟩:=qN Tryz.underlying35 t0
 obtain⟨_,d0⟩:=jv hf0 0 0 rfl rfl (by kernel_rfl) (by rw[List.length_take];omega)
 obtain⟨_,d1⟩:=jv hf0 1 1 rfl rfl (by kernel_rfl) (by rw[List.length_take];omega)
 obtain⟨_,d2⟩:=jv hf0 2 2 rfl rfl (by kernel_rfl) (by rw[List.length_take];omega)
 simp only[List.getElem_take]at d0 d1 d2
 obtain⟨a0,e0⟩:=iM d0
 obtain⟨a1,e1⟩:=iM d1
 obtain⟨a2,e2⟩:=iM d2
 obtain⟨_,d3⟩:=jv hf 1 3 rfl rfl (by kernel_rfl) (by omega)
 obtain⟨_,d4⟩:=jv hf 2 4 rfl rfl (by kernel_rfl) (by omega)
 obtain⟨_,d5⟩:=jv hf 3 5 rfl rfl (by kernel_rfl) (by omega)
 obtain⟨_,d6⟩:=jv hf 4 6 rfl rfl (by kernel_rfl) (by omega)
 obtain⟨_,d7⟩:=jv hf 5 7 rfl rfl (by kernel_rfl) (by omega)
 obtain⟨_,d8⟩:=jv hf 6 8 rfl rfl (by kernel_rfl) (by omega)
 obtain⟨_,d9⟩:=jv hf 7 9 rfl rfl (by kernel_rfl) (by omega)
 obtain⟨_,d10⟩:=jv hf 8 10 rfl rfl (by kernel_rfl) (by omega)
 obtain⟨a3,e3⟩:=iM d3
 obtain⟨a4,e4⟩:=iM d4
 obtain⟨a5,e5⟩:=iM d5
 obtain⟨a6,e6⟩:=FQ d6
 obtain⟨a7,e7⟩:=FQ d7
 obtain⟨a8,e8⟩:=iM d8
 obtain⟨a9,e9⟩:=iM d9
 obtain⟨s,e10,ds,hds⟩:=Td d10
 refine⟨⟨a0,a1,a2,a3,a4,a5,a6,a7,a8,a9,s⟩,?_,ds,hds⟩
 obtain⟨c0,c1,c2,c3,c4,c5,c6,c7,c8,c9,c10,rfl⟩:∃c0 c1 c2 c3 c4 c5 c6 c7 c8 c9 c10,cs= [c0,c1,c2,c3,c4,c5,c6,c7,c8,c9,c10]:=by
  match cs,hl with
  | [c0,c1,c2,c3,c4,c5,c6,c7,c8,c9,c10],_=>exact⟨_,_,_,_,_,_,_,_,_,_,_,rfl⟩
 simp only[List.getElem_cons_zero,List.getElem_cons_succ]at e0 e1 e2 e3 e4 e5 e6 e7 e8 e9 e10
 subst e0 e1 e2 e3 e4 e5 e6 e7 e8 e9 e10
 rfl
set_option maxRecDepth 100000 in
theorem Te {cs:List Value} (h:DataW.trod enc Tryz.prog w base spare held fuel 40 cs=some x):∃o:ow,cs=OA o∧XL w o:=by
 obtain⟨hl,n,hf⟩:=qN Tryz.underlying40 h
 rw[show Tryz.prog.cellsOf 40 =15 by kernel_rfl]at hl
 obtain⟨_,d0⟩:=jv hf 0 0 rfl rfl (by kernel_rfl) (by omega)
 obtain⟨_,d1⟩:=jv hf 1 1 rfl rfl (by kernel_rfl) (by omega)
 obtain⟨_,d2⟩:=jv hf 2 2 rfl rfl (by kernel_rfl) (by omega)
 obtain⟨_,d3⟩:=jv hf 3 3 rfl rfl (by kernel_rfl) (by omega)
 obtain⟨y4,t4⟩:=MR hf 4 4 11 38 rfl rfl rfl (by kernel_rfl)
 obtain⟨o,eo,ds,hds⟩:=XM t4
 obtain⟨a0,e0⟩:=iM d0
 obtain⟨a1,e1⟩:=iM d1
 obtain⟨a2,e2⟩:=iM d2
 obtain⟨s,e3,ws,hws⟩:=Tc d3
 refine⟨⟨a0,a1,a2,s,o⟩,?_,ws,hws,ds,hds⟩
 obtain⟨c0,c1,c2,c3,c4,c5,c6,c7,c8,c9,c10,c11,c12,c13,c14,rfl⟩:∃c0 c1 c2 c3 c4 c5 c6 c7 c8 c9 c10 c11 c12 c13 c14,cs= [c0,c1,c2,c3,c4,c5,c6,c7,c8,c9,c10,c11,c12,c13,c14]:=by
  match cs,hl with
  | [c0,c1,c2,c3,c4,c5,c6,c7,c8,c9,c10,c11,c12,c13,c14],_=>exact⟨_,_,_,_,_,_,_,_,_,_,_,_,_,_,_,rfl⟩
 simp only[List.getElem_cons_zero,List.getElem_cons_succ]at e0 e1 e2 e3
 subst e0 e1 e2 e3
 have eo':[c4,c5,c6,c7,c8,c9,c10,c11,c12,c13,c14]=cOp o:=eo
 unfold OA
 rw[←eo']
theorem uz {a:Option Addr} {len cap:Nat} (h:DataW.trod enc Tryz.prog w base spare held fuel 22 (Value.slice a len cap).cells.toList=some x):∃l,vK w (.slice a len cap) l∧ ∀c∈l,XL w c:=by
 have h':DataW.trod enc Tryz.prog w base spare held fuel 22 [.slice a len cap]=some x:=by simpa[Value.cells]using h
 rcases open_slice Tryz.underlying22 h' with h0 | ⟨b,l,c,m,n,D,Pl,hcs,hb,hl,hm,hmm,hx,hi⟩
 ·have hcs:=h0.1
  simp at hcs
  obtain⟨rfl,rfl,rfl⟩:=hcs
  exact⟨[],cK.nil _ _ _,by simp⟩
 ·simp at hcs
  obtain⟨rfl,rfl,rfl⟩:=hcs
  refine nV Bo (by omega) hl hm (fun i hil=>?_)
  have him:i<m:=by rw[hmm];split<;>omega
  obtain⟨cs',hc,ht'⟩:=hi i him
  obtain⟨o,rfl,ho⟩:=Te ht'
  rw[show Tryz.prog.cellsOf 40 =15 by kernel_rfl]at hc
  obtain⟨_,_,hat⟩:=World.cells?_some hc
  refine⟨o,ho,fun j u hu=>?_⟩
  have hj:j<15:=by have:=(List.getElem?_eq_some_iff.1 hu).1;rw[Bo]at this;exact this
  have:=hat j hj
  rw[hu]at this
  rw[←Go.Deep.add_add]
  exact this
end
end Go.Proofs.YtlfopoimbbpfdaaGreat
