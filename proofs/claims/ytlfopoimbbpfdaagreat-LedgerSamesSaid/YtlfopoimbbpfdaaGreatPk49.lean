/- What the law asks, in parts: Fa Fb. -/
import Derived.Deep.DrawnRows
import Derived.Test.YtlfopoimbbpfdaaGreatPk26
import Derived.Test.YtlfopoimbbpfdaaGreatPk33
import Derived.Test.YtlfopoimbbpfdaaGreatPk39
set_option linter.all false
namespace Go.Proofs.YtlfopoimbbpfdaaGreat
open Go.RowKit
theorem yx {α:Type} {f:α→List Value} {E:Nat} (hE:∀x,(f x).length=E):∀ (l:List α) (k:Nat) (hk:k<l.length) (j:Nat) (_:j<E) (u:Value) (y:α),(f l[k]).set j u=f y→(aK f l).set (k*E+j) u=aK f (l.set k y):=by
 intro l
 induction l with
 | nil=>intro k hk;simp at hk
 | cons x l ih=>
  intro k hk j hj u y hy
  cases k with
  | zero=>
   simp only[List.getElem_cons_zero]at hy
   rw[Nat.zero_mul,Nat.zero_add,aU,List.set_append_left _ _ (by rw[hE];exact hj),hy,List.set_cons_zero,aU]
  | succ k=>
   simp only[List.getElem_cons_succ]at hy
   have e:(k+1)*E+j-(f x).length=k*E+j:=by rw[hE,Nat.add_mul];omega
   rw[aU,List.set_append_right _ _ (by rw[hE,Nat.add_mul];omega),e,ih k (by simpa using hk) j hj u y hy,List.set_cons_succ,aU]
theorem O0 {V:World} {p:Nat} {o:Obj} (h:V.heap[p]? =some o):p<V.heap.size:=(bg h).1
structure Tn (w0 W:World) (p:Nat) (y:bZ) (x:Bk) (xs:List bV):Prop where
 aZ:Below w0.heap.size w0 W
 kb:Bx W p y
 hp:w0.heap.size≤p
 rc:W.ownsRow w0.heap.size 54 7 y.c.v x.cs.length (aK jE x.cs)
 rf:uT w0 W 56 2 y.f.v x.free.length (aR x.free)
 rl:W.ownsRow w0.heap.size 48 7 y.l.v xs.length (aK iZ xs)
 each:bI (Re w0 W) xs x.ls
 rb:uT w0 W 3 1 y.b.v x.bound.length (bM x.bound)
section
variable {w0 W W':World} {p:Nat} {y:bZ} {x:Bk} {xs:List bV}
theorem Tn.lt (h:Tn w0 W p y x xs):p<W.heap.size:=h.kb.lt
theorem Tn.m (h:Tn w0 W p y x xs):eD W y x:=by
 refine⟨aI h.rc,h.rf.sl h.aZ,⟨xs,aI h.rl,h.each.imp fun _ _ r=>r.m h.aZ⟩,h.rb.sl h.aZ⟩
theorem Tn.keep (h:Tn w0 W p y x xs) (hb:Below W.heap.size W W'):Tn w0 W' p y x xs:=
 ⟨h.aZ.trans (hb.mono h.aZ.size),aj h.kb hb h.lt,h.hp,aJ h.rc hb (aC _),h.rf.keep hb,aJ h.rl hb (aC _),h.each.imp fun _ _ r=>r.keep hb,h.rb.keep hb⟩
theorem Tn.other {T':TypeId} {g:Nat} {cur:Array Value} {z:Nat×Nat} (h:Tn w0 W p y x xs) (hb:Below w0.heap.size w0 W') (hne:p≠g) (hoth:∀b,b≠g→W'.heap[b]? =W.heap[b]?) (hg:W.heap[g]? =some (.cells cur T' z)) (h0: 54 ≠T') (h1: 88 ≠T') (h2: 56 ≠T') (h3: 3 ≠T') (h4: 48 ≠T'):Tn w0 W' p y x xs:=
 ⟨hb,(hoth p hne).trans h.kb,h.hp,aH h.rc hoth hg h0,h.rf.other hoth hg h2,aH h.rl hoth hg h4,h.each.imp fun _ _ r=>r.other hoth hg h1 h2 h3,h.rb.other hoth hg h3⟩
theorem Tn.Ry (h:Tn w0 W p y x xs) {b':Sv} {bd:List Int} (ho:W.ownsRow w0.heap.size 3 1 b'.v bd.length (bM bd)):
  Tn w0 (W.setCell ⟨p,3,none⟩ b'.v) p ⟨y.c,y.f,y.l,b'⟩ ⟨x.cs,x.free,x.ls,bd⟩ xs:=by
 have hoth:∀c,c≠p→(W.setCell ⟨p,3,none⟩ b'.v).heap[c]? =W.heap[c]? :=fun c hc=>aW _ _ _ (fun e=>hc e.symm) _
 exact⟨h.aZ.setCell h.hp _,qH h.kb _,h.hp,aH h.rc hoth h.kb (by decide),h.rf.other hoth h.kb (by decide),aH h.rl hoth h.kb (by decide),h.each.imp fun _ _ r=>r.other hoth h.kb (by decide) (by decide) (by decide),.inr (aH ho hoth h.kb (by decide))⟩
theorem Tn.Az (h:Tn w0 W p y x xs) {f':Sv} {fr:List Rg} (ho:W.ownsRow w0.heap.size 56 2 f'.v fr.length (aR fr)):
  Tn w0 (W.setCell ⟨p,1,none⟩ f'.v) p ⟨y.c,f',y.l,y.b⟩ ⟨x.cs,fr,x.ls,x.bound⟩ xs:=by
 have hoth:∀c,c≠p→(W.setCell ⟨p,1,none⟩ f'.v).heap[c]? =W.heap[c]? :=fun c hc=>aW _ _ _ (fun e=>hc e.symm) _
 exact⟨h.aZ.setCell h.hp _,lC h.kb _,h.hp,aH h.rc hoth h.kb (by decide),.inr (aH ho hoth h.kb (by decide)),aH h.rl hoth h.kb (by decide),h.each.imp fun _ _ r=>r.other hoth h.kb (by decide) (by decide) (by decide),h.rb.other hoth h.kb (by decide)⟩
theorem Tn.setRow (h:Tn w0 W p y x xs) {l':Sv} {xs':List bV} {ls':List Ls} (ho:W.ownsRow w0.heap.size 48 7 l'.v xs'.length (aK iZ xs')) (he:bI (Re w0 W) xs' ls'):
  Tn w0 (W.setCell ⟨p,2,none⟩ l'.v) p ⟨y.c,y.f,l',y.b⟩ ⟨x.cs,x.free,ls',x.bound⟩ xs':=by
 have hoth:∀c,c≠p→(W.setCell ⟨p,2,none⟩ l'.v).heap[c]? =W.heap[c]? :=fun c hc=>aW _ _ _ (fun e=>hc e.symm) _
 exact⟨h.aZ.setCell h.hp _,jq h.kb _,h.hp,aH h.rc hoth h.kb (by decide),h.rf.other hoth h.kb (by decide),aH ho hoth h.kb (by decide),he.imp fun _ _ r=>r.other hoth h.kb (by decide) (by decide) (by decide),h.rb.other hoth h.kb (by decide)⟩
theorem Tn.AB (h:Tn w0 W p y x xs) {g n cap:Nat} (hx:y.c=⟨some ⟨g,0,none⟩,n,cap⟩) (k:Nat) (hk:k<x.cs.length) (j:Nat) (hj:j<7) (u:Value) (c':Ct) (hc:(jE x.cs[k]).set j u=jE c'):
  Tn w0 (W.setCell ⟨g,k*7+j,none⟩ u) p y ⟨x.cs.set k c',x.free,x.ls,x.bound⟩ xs:=by
 have hoth:∀c,c≠g→(W.setCell ⟨g,k*7+j,none⟩ u).heap[c]? =W.heap[c]? :=fun c hc=>aW _ _ _ (fun e=>hc e.symm) _
 have hrc:=h.rc
 rw[hx]at hrc
 simp only[Sv.v]at hrc
 have hn:n=x.cs.length:=by
  obtain⟨_,_,he,_,_⟩:=aP hrc
  injection he with _ he _
 subst hn
 obtain⟨cur,hg⟩:=eu hrc
 have hB:w0.heap.size≤g:=(bq hrc).1
 have hpg:p≠g:=fun e=>by
  have h1:W.heap[p]? =some _:=h.kb
  rw[e,hg]at h1
  injection h1 with h1
  injection h1 with _ h1 _
  exact absurd h1 (by decide)
 have hset:=dF hrc (k*7+j) (by rw[bL dX];omega) u
 rw[yx dX _ k hk j hj u c' hc]at hset
 refine⟨h.aZ.setCell hB _,(hoth p hpg).trans h.kb,h.hp,?_,h.rf.other hoth hg (by decide),aH h.rl hoth hg (by decide),h.each.imp fun _ _ r=>r.other hoth hg (by decide) (by decide) (by decide),h.rb.other hoth hg (by decide)⟩
 rw[hx]
 show World.ownsRow _ _ _ _ _ (x.cs.set k c').length _
 rw[List.length_set]
 exact hset
theorem Tn.QF (h:Tn w0 W p y x xs) {g n cap:Nat} (hx:y.l=⟨some ⟨g,0,none⟩,n,cap⟩) (k:Nat) (hk:k<xs.length) (j:Nat) (hj:j<7) (u:Value) (z':bV) (l':Ls) (hz:(iZ xs[k]).set j u=iZ z') (hl:Re w0 W z' l'):
  Tn w0 (W.setCell ⟨g,k*7+j,none⟩ u) p y ⟨x.cs,x.free,x.ls.set k l',x.bound⟩ (xs.set k z'):=by
 have hoth:∀c,c≠g→(W.setCell ⟨g,k*7+j,none⟩ u).heap[c]? =W.heap[c]? :=fun c hc=>aW _ _ _ (fun e=>hc e.symm) _
 have hrl:=h.rl
 rw[hx]at hrl
 simp only[Sv.v]at hrl
 have hn:n=xs.length:=by
  obtain⟨_,_,he,_,_⟩:=aP hrl
  injection he with _ he _
 subst hn
 obtain⟨cur,hg⟩:=eu hrl
 have hB:w0.heap.size≤g:=(bq hrl).1
 have hpg:p≠g:=fun e=>by
  have h1:W.heap[p]? =some _:=h.kb
  rw[e,hg]at h1
  injection h1 with h1
  injection h1 with _ h1 _
  exact absurd h1 (by decide)
 have hset:=dF hrl (k*7+j) (by rw[bL iB];omega) u
 rw[yx iB _ k hk j hj u z' hz]at hset
 refine⟨h.aZ.setCell hB _,(hoth p hpg).trans h.kb,h.hp,aH h.rc hoth hg (by decide),h.rf.other hoth hg (by decide),?_,(h.each.set k hl).imp fun _ _ r=>r.other hoth hg (by decide) (by decide) (by decide),h.rb.other hoth hg (by decide)⟩
 rw[hx]
 show World.ownsRow _ _ _ _ _ (xs.set k z').length _
 rw[List.length_set]
 exact hset
theorem Tn.cellC (h:Tn w0 W p y x xs) (k:Nat) (hk:k<x.cs.length):∃g cap,y.c=⟨some ⟨g,0,none⟩,x.cs.length,cap⟩∧x.cs.length≤cap∧cap≤9223372036854775807∧w0.heap.size≤g∧g<W.heap.size∧g≠p∧(∀o,W.frozen? ⟨g,o,none⟩=false)∧ ∀j u,j<7→(jE x.cs[k])[j]? =some u→W.cell? ⟨g,k*7+j,none⟩=some u:=by
 have hrc:=h.rc
 obtain⟨g,cap,hv⟩:=fu hrc (by omega)
 have hx:y.c=⟨some ⟨g,0,none⟩,x.cs.length,cap⟩:=by
  obtain⟨⟨a,b,c⟩,_,_,_⟩:=y
  simp only[Sv.v]at hv
  injection hv with h1 h2 h3
  subst h1 h2 h3
  rfl
 rw[hx]at hrc
 simp only[Sv.v]at hrc
 obtain⟨b1,b2,b3,b4,b5,b6,b7⟩:=bq hrc
 obtain⟨cur,hg⟩:=eu hrc
 refine⟨g,cap,hx,b3,b4,b1,b2,fun e=>?_,b6,fun j u hj hu=>b7 _ _ (by rw[bP dX _ k hk j hj];exact hu)⟩
 have h1:W.heap[p]? =some _:=h.kb
 rw[←e,hg]at h1
 injection h1 with h1
 injection h1 with _ h1 _
 exact absurd h1 (by decide)
theorem Tn.cellL (h:Tn w0 W p y x xs) (k:Nat) (hk:k<xs.length):∃g cap,y.l=⟨some ⟨g,0,none⟩,xs.length,cap⟩∧xs.length≤cap∧cap≤9223372036854775807∧w0.heap.size≤g∧g<W.heap.size∧g≠p∧(∀o,W.frozen? ⟨g,o,none⟩=false)∧ ∀j u,j<7→(iZ xs[k])[j]? =some u→W.cell? ⟨g,k*7+j,none⟩=some u:=by
 have hrl:=h.rl
 obtain⟨g,cap,hv⟩:=fu hrl (by omega)
 have hx:y.l=⟨some ⟨g,0,none⟩,xs.length,cap⟩:=by
  obtain⟨_,_,⟨a,b,c⟩,_⟩:=y
  simp only[Sv.v]at hv
  injection hv with h1 h2 h3
  subst h1 h2 h3
  rfl
 rw[hx]at hrl
 simp only[Sv.v]at hrl
 obtain⟨b1,b2,b3,b4,b5,b6,b7⟩:=bq hrl
 obtain⟨cur,hg⟩:=eu hrl
 refine⟨g,cap,hx,b3,b4,b1,b2,fun e=>?_,b6,fun j u hj hu=>b7 _ _ (by rw[bP iB _ k hk j hj];exact hu)⟩
 have h1:W.heap[p]? =some _:=h.kb
 rw[←e,hg]at h1
 injection h1 with h1
 injection h1 with _ h1 _
 exact absurd h1 (by decide)
end
section
variable {w0 W W':World} {p:Nat} {y:bZ} {x:Bk} {xs:List bV}
theorem Re.grown {T':TypeId} {E' n' base':Nat} {v':Value} {zs':List Value} {z:bV} {l:Ls} (h:Re w0 W z l) (hv:W.ownsRow base' T' E' v' n' zs') (hg:W.grownBy W' v'.ownBlock) (h1: 88 ≠T') (h2: 56 ≠T') (h3: 3 ≠T'):Re w0 W' z l:=
 ⟨h.dev,h.epoch,h.bY,h.last,h.s.grown hv hg h1,h.i.grown hv hg h2,h.u.grown hv hg h3⟩
theorem Tn.ab3 (h:Tn w0 W p y x xs) {l':Sv} {n' base':Nat} {v':Value} {zs':List Value} {xs':List bV} {ls':List Ls} (hv:W.ownsRow base' 48 7 v' n' zs') (hg:W.grownBy W' v'.ownBlock) (hb:Below w0.heap.size w0 W')
  (ho:W'.ownsRow w0.heap.size 48 7 l'.v xs'.length (aK iZ xs')) (he:bI (Re w0 W) xs' ls'):Tn w0 (W'.setCell ⟨p,2,none⟩ l'.v) p ⟨y.c,y.f,l',y.b⟩ ⟨x.cs,x.free,ls',x.bound⟩ xs':=by
 have hk:Bx W' p y:=yV h.kb hv hg (by decide)
 have hoth:∀c,c≠p→(W'.setCell ⟨p,2,none⟩ l'.v).heap[c]? =W'.heap[c]? :=fun c hc=>aW _ _ _ (fun e=>hc e.symm) _
 exact⟨hb.setCell h.hp _,jq hk _,h.hp,aH (qG h.rc hv hg (by decide)) hoth hk (by decide),(h.rf.grown hv hg (by decide)).other hoth hk (by decide),aH ho hoth hk (by decide),he.imp fun _ _ r=>(r.grown hv hg (by decide) (by decide) (by decide)).other hoth hk (by decide) (by decide) (by decide),(h.rb.grown hv hg (by decide)).other hoth hk (by decide)⟩
end
end Go.Proofs.YtlfopoimbbpfdaaGreat
namespace Go.Proofs.YtlfopoimbbpfdaaGreat
open Go.RowKit
attribute [local go_sem ↓] Go.wp_at_zero Go.wp_at_succ
set_option maxRecDepth 100000 in
set_option maxHeartbeats 8000000 in
theorem O1 (W:World) (ao:Option Addr) (cap:Nat) (l:List ow) (k:Nat) (hk:k<l.length) (ws:List Wn) (p3 p4:Nat) (ya yb:bZ) (b:Bk) (h:vK W (.slice ao l.length cap) l) (hA:JG W l[k] ws) (h3:Bx W p3 ya) (h4:Bx W p4 yb) (hya:eD W ya b) (hyb:eD W yb b) (hD:Xv b l[k]) (u1 u2 u3 u4 u7 u8 u9 u10 u11 u12 u13 u14 u15 u16 u17 u18 u19 u20 u21 u22 u23 u24 u25 u26 u27 u28 u29 u30 u31 u32 u33 u34 u35 u36 u37 u38 u39 u40 u41 u42 u43 u44 u45 u46 u47 u48 u49 u50 u51 u52 u53 u54 u55 u56 u57 u58 u59 u60 u61 u62 u63 u64 u65 u66 u67 u68 u69 u70 u71 u72 u73 u74 u75 u76 u77 u78 u79 u80 u81 u82 u83 u84 u85 u86 u87 u88 u89 u90 u91 u92 u93 u94 u95 u96 u97 u98 u99 u100 u101 u102 u103 u104 u105 u106 u107 u108 u109 u110 u111 u112 u113:Value) (RR:Act→World→Prop)
  (hRR:∀a' w',(∃v7 v8 v9 v24 v25 v26 v27 v28 v29 v30 v23 v31 v32 v33,(∃ (y z:bZ) (p q:Nat),v7=gZ p∧v8=gZ q∧v9= .bool true∧Bx w' p y∧Bx w' q z∧eD w' y (lK b l[k] ws)∧eD w' z (lK b l[k] ws)∧Below W.heap.size W w'∧W.heap.size≤p∧W.heap.size≤q)∧a'=⟨#[.slice ao l.length cap,u1,u2,u3,u4,.pointer (some ⟨p3,0,none⟩),.int .i64 k,v7,v8,v9,u10,u11,u12,u13,u14,u15,u16,u17,u18,u19,u20,u21,u22,v23,v24,v25,v26,v27,v28,v29,v30,v31,v32,v33,u34,u35,u36,u37,u38,u39,u40,u41,u42,u43,u44,u45,u46,u47,u48,u49,u50,u51,u52,u53,u54,u55,u56,u57,u58,u59,u60,u61,u62,u63,u64,u65,u66,u67,u68,u69,u70,u71,u72,u73,u74,u75,u76,u77,u78,u79,u80,u81,u82,u83,u84,u85,u86,u87,u88,u89,u90,u91,u92,u93,u94,u95,u96,u97,u98,u99,u100,u101,u102,u103,u104,u105,u106,u107,u108,u109,u110,u111,u112,u113],[]⟩)→RR a' w'):
  ∀c,Tryz.f5.body.bind (kF 9)=some c→Code.wp Tryz.prog c (Exit.then RR (fun _ _ _=>False)) ⟨#[.slice ao l.length cap,u1,u2,u3,u4,.pointer (some ⟨p3,0,none⟩),.int .i64 k,u7,u8,u9,u10,u11,u12,u13,u14,u15,u16,u17,u18,u19,u20,u21,u22,u23,u24,u25,u26,u27,u28,u29,u30,u31,u32,u33,u34,u35,u36,u37,u38,u39,u40,u41,u42,u43,u44,u45,u46,u47,u48,u49,u50,u51,u52,u53,u54,u55,u56,u57,u58,u59,u60,u61,u62,u63,u64,u65,u66,u67,u68,u69,u70,u71,u72,u73,u74,u75,u76,u77,u78,u79,u80,u81,u82,u83,u84,u85,u86,u87,u88,u89,u90,u91,u92,u93,u94,u95,u96,u97,u98,u99,u100,u101,u102,u103,u104,u105,u106,u107,u108,u109,u110,u111,u112,u113],[]⟩ W:=by
 refine pq rfl ?_
 have iG:(k:Int)<l.length:=by omega
 have k0:(0:Int)≤(k:Int):=by omega
 have hcm:l.length≤9223372036854775807:=by
  obtain⟨_,_,he,h1,h2⟩:=Sl.shape h
  injection he with _ _ he
  subst he
  exact Nat.le_trans h1 h2
 obtain⟨ab,lT,rfl,hab,hc⟩:=cK.ac h (aL W.heap.size W) (aC _) k hk
 have DU:Hid (∀w',Below W.heap.size W w'→ ∀j u,(OA l[k])[j]? =some u→w'.cell? ⟨ab,lT+k*15+j,none⟩=some u):=ah (fun V hV j u hj=>by
  obtain⟨ab',Mr,he,_,hc'⟩:=cK.ac h hV (aC _) k hk
  injection he with he
  injection he with e1 e2 _
  subst e1 e2
  exact hc' j u hj)
 clear hc
 have HA:=ah hA
 have H3:=ah h3
 have H4:=ah h4
 have jU:=ah hya
 have o_:=ah hyb
 have HD:=ah hD
 obtain⟨b2,hb2⟩:∃b2,lK b l[k] ws=b2:=⟨_,rfl⟩
 rw[hb2]at hRR
 have HRR:=ah hRR
 have HB2:=ah hb2
 clear h hA h3 h4 hya hyb hD hRR hb2
 generalize l[k]=x at*
 have Bz:=H3.out.lt
 have OQ:=H4.out.lt
 refine aS 14 (fun w'=>Below W.heap.size W w') (by kernel_rfl) ?_
 have hS0:Below W.heap.size W W.drew:=(aL _ _).drew
 refine aG (i:=0) (v:=.slice (some ⟨ab,lT,none⟩) l.length cap) rfl (by kernel_rfl) (by kernel_rfl) (by kernel_rfl) (by decide) (fun _ _ _ h=>h) (.inl ⟨rfl,fun w' _=>?_⟩) hS0 ?_
 ·go_simp
 refine aG (i:=1) (v:=.int .i64 k) rfl (by kernel_rfl) (by kernel_rfl) (by kernel_rfl) (by decide) (fun _ _ _ h=>h) (.inl ⟨rfl,fun w' _=>?_⟩) hS0 ?_
 ·go_simp
 refine aG (i:=2) (v:=.pointer (some ⟨ab,lT+k*15,none⟩)) rfl (by kernel_rfl) (by kernel_rfl) (by kernel_rfl) (by decide) (fun _ _ _ h=>h) (.inl ⟨rfl,fun w' _=>?_⟩) hS0 ?_
 ·go_simp
 refine aD (i:=3) (v:=RN x) rfl rfl (by kernel_rfl) (by kernel_rfl) (by kernel_rfl) (by kernel_rfl) (by kernel_rfl) (by decide) (fun _ _ _ h=>h) (.inl ⟨rfl,fun w' hw=>?_⟩) hS0 ?_
 ·obtain⟨xk,xd,xn,⟨vZ,wh,wm⟩,⟨o1,o2,o3,o4,o5,kd,ky,tx,on,tm,⟨oa,dn,oc⟩⟩⟩:=x
  have hcw:=DU.out w' hw
  have c0:=hcw 0 _ rfl
  have c1:=hcw 1 _ rfl
  have c2:=hcw 2 _ rfl
  have c3:=hcw 3 _ rfl
  have c4:=hcw 4 _ rfl
  have c5:=hcw 5 _ rfl
  have c6:=hcw 6 _ rfl
  have c7:=hcw 7 _ rfl
  have c8:=hcw 8 _ rfl
  have c9:=hcw 9 _ rfl
  have c10:=hcw 10 _ rfl
  have c11:=hcw 11 _ rfl
  have c12:=hcw 12 _ rfl
  have c13:=hcw 13 _ rfl
  have c14:=hcw 14 _ rfl
  simp only[Nat.add_zero]at c0
  simp only[Sv.v]at c3 c14
  go_simp
 refine aD (i:=4) (v:=fT ya) rfl rfl (by kernel_rfl) (by kernel_rfl) (by kernel_rfl) (by kernel_rfl) (by kernel_rfl) (by decide) (fun _ _ _ h=>h) (.inl ⟨rfl,fun w' hw=>?_⟩) hS0 ?_
 ·obtain⟨⟨ca,cn,cc⟩,⟨fa,aX,fc⟩,⟨la,ln,lc⟩,⟨ba,b_n,bc⟩⟩:=ya
  obtain⟨a0,a1,a2,a3,_⟩:=ay (aj H3.out hw Bz)
  simp only[Sv.v]at a0 a1 a2 a3
  go_simp
 refine aD (i:=5) (v:=fT ya) rfl rfl (by kernel_rfl) (by kernel_rfl) (by kernel_rfl) (by kernel_rfl) (by kernel_rfl) (by decide) (fun _ _ _ h=>h) (.inl ⟨rfl,fun w' hw=>?_⟩) hS0 ?_
 ·obtain⟨⟨ca,cn,cc⟩,⟨fa,aX,fc⟩,⟨la,ln,lc⟩,⟨ba,b_n,bc⟩⟩:=ya
  obtain⟨a0,a1,a2,a3,_⟩:=ay (aj H3.out hw Bz)
  simp only[Sv.v]at a0 a1 a2 a3
  go_simp
 refine mP (fun D a w=>∃ (y z:bZ) (p q:Nat) (vT vM vA vB vC vp vq vo:Value),a=⟨#[.slice (some ⟨ab,lT,none⟩) l.length cap,u1,u2,u3,u4,.pointer (some ⟨p3,0,none⟩),.int .i64 k,vp,vq,vo,u10,u11,u12,u13,u14,u15,u16,u17,u18,u19,u20,u21,u22,vM,.slice (some ⟨ab,lT,none⟩) l.length cap,.int .i64 k,.pointer (some ⟨ab,lT+k*15,none⟩),RN x,fT ya,fT ya,vT,vA,vB,vC,u34,u35,u36,u37,u38,u39,u40,u41,u42,u43,u44,u45,u46,u47,u48,u49,u50,u51,u52,u53,u54,u55,u56,u57,u58,u59,u60,u61,u62,u63,u64,u65,u66,u67,u68,u69,u70,u71,u72,u73,u74,u75,u76,u77,u78,u79,u80,u81,u82,u83,u84,u85,u86,u87,u88,u89,u90,u91,u92,u93,u94,u95,u96,u97,u98,u99,u100,u101,u102,u103,u104,u105,u106,u107,u108,u109,u110,u111,u112,u113],[]⟩∧(∀j,j<6→D j)∧J9 W b2 6 D y z p q vT vM vA vB vC vp vq vo w) (by kernel_rfl) (fun D a w h _=>by obtain⟨_,_,_,_,_,_,_,_,_,_,_,_,_,_,hJ⟩:=h;exact hJ.aZ) ?_ ?_ _ _ _ _ (of_decide_eq_true (by kernel_rfl)) (by kernel_rfl) ⟨Mh,Mh,0,0,_,_,_,_,_,_,_,_,rfl,of_decide_eq_true (by kernel_rfl),J9.start hS0 (of_decide_eq_true (by kernel_rfl))⟩
 ·intro i hi D a w hI hn hd
  obtain⟨y,z,p,q,vT,vM,vA,vB,vC,vp,vq,vo,rfl,h6,hJ⟩:=hI
  have Ms:i<16:=hi
  have Xw:6≤i:=by rcases Nat.lt_or_ge i 6 with h | h;exact absurd (h6 i h) hn;exact h
  have hcs:i=6∨i=7∨i=8∨i=9∨i=10∨i=11∨i=12∨i=13∨i=14∨i=15:=by omega
  have hbl:=hJ.aZ
  clear hi Ms Xw
  rcases hcs with rfl | rfl | rfl | rfl | rfl | rfl | rfl | rfl | rfl | rfl
  ·refine bC rfl rfl ?_
   go_simp
   refine(FD x ws ya ya b w (HA.out.keep hbl (aC _)) (jU.out.keep hbl (aC _)) (jU.out.keep hbl (aC _)) HD.out).mono ?_
   rw[HB2.out]
   rintro e w' ⟨y',z',rfl,hy,hz,hb⟩
   exact⟨y',z',p,q,_,_,_,_,_,_,_,_,(by first | rfl | (and_intros<;>rfl)),fun j hj=> .inr (h6 j hj),hJ.call hn hy hz hb⟩
  ·have g6:=hd 6 (of_decide_eq_true (by kernel_rfl))
   obtain⟨rfl,_,_⟩:=hJ.c g6
   refine bC rfl rfl ?_
   go_simp
   exact⟨y,z,p,q,_,_,_,_,_,_,_,_,(by first | rfl | (and_intros<;>rfl)),fun j hj=> .inr (h6 j hj),hJ.mv g6 7 (by omega) (by first | exact fun _=>rfl | exact fun h=>absurd h (by decide)) (by first | exact fun _=>rfl | exact fun h=>absurd h (by decide)) (by first | exact fun _=>rfl | exact fun h=>absurd h (by decide)) (by first | exact fun _=>rfl | exact fun h=>absurd h (by decide)) (by first | exact fun _=>rfl | exact fun h=>absurd h (by decide)) (by first | exact fun _=>rfl | exact fun h=>absurd h (by decide)) (by first | exact fun _=>rfl | exact fun h=>absurd h (by decide)) (by first | exact fun _=>rfl | exact fun h=>absurd h (by decide)) (by first | exact fun _=>rfl | exact fun h=>absurd h (by decide)) (by first | exact fun _=>rfl | exact fun h=>absurd h (by decide))⟩
  ·have g7:=hd 7 (of_decide_eq_true (by kernel_rfl))
   obtain⟨g6,rfl⟩:=hJ.m g7
   refine bC rfl rfl ?_
   go_simp
   exact⟨y,z,p,q,_,_,_,_,_,_,_,_,(by first | rfl | (and_intros<;>rfl)),fun j hj=> .inr (h6 j hj),hJ.mv g6 8 (by omega) (by first | exact fun _=>rfl | exact fun h=>absurd h (by decide)) (by first | exact fun _=>rfl | exact fun h=>absurd h (by decide)) (by first | exact fun _=>rfl | exact fun h=>absurd h (by decide)) (by first | exact fun _=>rfl | exact fun h=>absurd h (by decide)) (by first | exact fun _=>rfl | exact fun h=>absurd h (by decide)) (by first | exact fun _=>rfl | exact fun h=>absurd h (by decide)) (by first | exact fun _=>rfl | exact fun h=>absurd h (by decide)) (by first | exact fun _=>rfl | exact fun h=>absurd h (by decide)) (by first | exact fun _=>rfl | exact fun h=>absurd h (by decide)) (by first | exact fun _=>rfl | exact fun h=>absurd h (by decide))⟩
  ·have g7:=hd 7 (of_decide_eq_true (by kernel_rfl))
   obtain⟨g6,rfl⟩:=hJ.m g7
   refine bC rfl rfl ?_
   go_simp
   exact⟨y,z,p,q,_,_,_,_,_,_,_,_,(by first | rfl | (and_intros<;>rfl)),fun j hj=> .inr (h6 j hj),hJ.mv g6 9 (by omega) (by first | exact fun _=>rfl | exact fun h=>absurd h (by decide)) (by first | exact fun _=>rfl | exact fun h=>absurd h (by decide)) (by first | exact fun _=>rfl | exact fun h=>absurd h (by decide)) (by first | exact fun _=>rfl | exact fun h=>absurd h (by decide)) (by first | exact fun _=>rfl | exact fun h=>absurd h (by decide)) (by first | exact fun _=>rfl | exact fun h=>absurd h (by decide)) (by first | exact fun _=>rfl | exact fun h=>absurd h (by decide)) (by first | exact fun _=>rfl | exact fun h=>absurd h (by decide)) (by first | exact fun _=>rfl | exact fun h=>absurd h (by decide)) (by first | exact fun _=>rfl | exact fun h=>absurd h (by decide))⟩
  ·have g7:=hd 7 (of_decide_eq_true (by kernel_rfl))
   obtain⟨g6,rfl⟩:=hJ.m g7
   refine bC rfl rfl ?_
   go_simp
   exact⟨y,z,p,q,_,_,_,_,_,_,_,_,(by first | rfl | (and_intros<;>rfl)),fun j hj=> .inr (h6 j hj),hJ.mv g6 10 (by omega) (by first | exact fun _=>rfl | exact fun h=>absurd h (by decide)) (by first | exact fun _=>rfl | exact fun h=>absurd h (by decide)) (by first | exact fun _=>rfl | exact fun h=>absurd h (by decide)) (by first | exact fun _=>rfl | exact fun h=>absurd h (by decide)) (by first | exact fun _=>rfl | exact fun h=>absurd h (by decide)) (by first | exact fun _=>rfl | exact fun h=>absurd h (by decide)) (by first | exact fun _=>rfl | exact fun h=>absurd h (by decide)) (by first | exact fun _=>rfl | exact fun h=>absurd h (by decide)) (by first | exact fun _=>rfl | exact fun h=>absurd h (by decide)) (by first | exact fun _=>rfl | exact fun h=>absurd h (by decide))⟩
  ·refine bC rfl rfl ?_
   go_simp
   exact⟨y,z,w.heap.size,q,_,_,_,_,_,_,_,_,(by first | rfl | (and_intros<;>rfl)),fun j hj=> .inr (h6 j hj),hJ.PV hn⟩
  ·refine bC rfl rfl ?_
   go_simp
   exact⟨y,z,p,w.heap.size,_,_,_,_,_,_,_,_,(by first | rfl | (and_intros<;>rfl)),fun j hj=> .inr (h6 j hj),hJ.PW hn⟩
  ·have gA:=hd 11 (of_decide_eq_true (by kernel_rfl))
   have gB:=hd 8 (of_decide_eq_true (by kernel_rfl))
   obtain⟨rfl,_,x',gx,_⟩:=hJ.a1 gA
   obtain⟨g6,rfl⟩:=hJ.e1 gB
   obtain⟨⟨ca,cn,cc⟩,⟨fa,aX,fc⟩,⟨la,ln,lc⟩,⟨ba,b_n,bc⟩⟩:=y
   obtain⟨a0,a1,a2,a3,_⟩:=ay gx
   have f0:=aA gx 0
   have f1:=aA gx 1
   have f2:=aA gx 2
   have f3:=aA gx 3
   unfold gZ
   refine bC rfl rfl ?_
   go_simp
   exact⟨_,_,p,q,_,_,_,_,_,_,_,_,(by first | rfl | (and_intros<;>rfl)),fun j hj=> .inr (h6 j hj),hJ.st1 g6 gA⟩
  ·have gA:=hd 12 (of_decide_eq_true (by kernel_rfl))
   have gB:=hd 9 (of_decide_eq_true (by kernel_rfl))
   obtain⟨rfl,_,x',gx,_⟩:=hJ.a2 gA
   obtain⟨g6,rfl⟩:=hJ.e2 gB
   obtain⟨⟨ca,cn,cc⟩,⟨fa,aX,fc⟩,⟨la,ln,lc⟩,⟨ba,b_n,bc⟩⟩:=z
   obtain⟨a0,a1,a2,a3,_⟩:=ay gx
   have f0:=aA gx 0
   have f1:=aA gx 1
   have f2:=aA gx 2
   have f3:=aA gx 3
   unfold gZ
   refine bC rfl rfl ?_
   go_simp
   exact⟨_,_,p,q,_,_,_,_,_,_,_,_,(by first | rfl | (and_intros<;>rfl)),fun j hj=> .inr (h6 j hj),hJ.st2 g6 gA⟩
  ·have g10:=hd 10 (of_decide_eq_true (by kernel_rfl))
   obtain⟨g6,rfl⟩:=hJ.e3 g10
   refine bC rfl rfl ?_
   go_simp
   exact⟨y,z,p,q,_,_,_,_,_,_,_,_,(by first | rfl | (and_intros<;>rfl)),fun j hj=> .inr (h6 j hj),hJ.mv g6 15 (by omega) (by first | exact fun _=>rfl | exact fun h=>absurd h (by decide)) (by first | exact fun _=>rfl | exact fun h=>absurd h (by decide)) (by first | exact fun _=>rfl | exact fun h=>absurd h (by decide)) (by first | exact fun _=>rfl | exact fun h=>absurd h (by decide)) (by first | exact fun _=>rfl | exact fun h=>absurd h (by decide)) (by first | exact fun _=>rfl | exact fun h=>absurd h (by decide)) (by first | exact fun _=>rfl | exact fun h=>absurd h (by decide)) (by first | exact fun _=>rfl | exact fun h=>absurd h (by decide)) (by first | exact fun _=>rfl | exact fun h=>absurd h (by decide)) (by first | exact fun _=>rfl | exact fun h=>absurd h (by decide))⟩
 ·intro D a w hI hall
  obtain⟨y,z,p,q,vT,vM,vA,vB,vC,vp,vq,vo,rfl,_,hJ⟩:=hI
  obtain⟨rfl,rfl,rfl,f1,f2,f3,f4,f5,f6,f7⟩:=hJ.fin (fun j hj=>hall j hj)
  exact HRR.out _ _ ⟨_,_,_,_,_,_,_,_,_,_,_,_,_,_,⟨y,z,p,q,rfl,rfl,rfl,f1,f2,f3,f4,f5,f6,f7⟩,rfl⟩
end Go.Proofs.YtlfopoimbbpfdaaGreat
