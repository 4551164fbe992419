/- What the law asks, in parts: LGi. -/
import Derived.Test.YtlfopoimbbpfdaaGreatPk12
import Derived.Test.YtlfopoimbbpfdaaGreatPk2
import Derived.Test.YtlfopoimbbpfdaaGreatPk0
set_option linter.all false
namespace Go.Proofs.YtlfopoimbbpfdaaGreat
open Go.RowKit
structure OwT where
 x:bZ
 xs:List bV
 C:Nat
abbrev RZ:Obj:=.cells #[.slice none 0 0,.slice none 0 0,.slice none 0 0,.slice none 0 0] 30
abbrev R3:Obj:=.cells #[.int .i64 0,.int .i64 0,.int .i64 0,.int .i64 0,.slice none 0 0,.slice none 0 0,.slice none 0 0] 48
structure uV (W1:World) (b:Bk) (V:World) (o:Option OwT) (p q:Option Nat):Prop where
 aZ:Below W1.heap.size W1 V
 own:∀t,o=some t→pX V W1.heap.size t.C t.x b t.xs∧W1.heap.size≤t.C
 pb:∀g,p=some g→V.heap[g]? =some RZ∧W1.heap.size≤g
 pl:∀g,q=some g→V.heap[g]? =some R3∧W1.heap.size≤g∧ ∀t,o=some t→t.x.l.v.ownBlock≠some g
section
variable {W1 V V':World} {b:Bk} {o:Option OwT} {p q:Option Nat}
theorem uV.keep (h:uV W1 b V o p q) (hb:Below V.heap.size V V'):uV W1 b V' o p q:=
 ⟨h.aZ.trans (hb.mono h.aZ.size),fun t ht=>⟨(h.own t ht).1.keep hb,(h.own t ht).2⟩,fun g hg=>⟨aj (h.pb g hg).1 hb (bg (h.pb g hg).1).1,(h.pb g hg).2⟩,
  fun g hg=>⟨aj (h.pl g hg).1 hb (bg (h.pl g hg).1).1,(h.pl g hg).2⟩⟩
theorem uV.mk0 (h:Below W1.heap.size W1 V):uV W1 b V none none none:=⟨h,(fun _ h=>by cases h),(fun _ h=>by cases h),(fun _ h=>by cases h)⟩
theorem uV.LX (h:uV W1 b V none p q) {C:Nat} {x:bZ} {xs:List bV} (ho:pX V' V.heap.size C x b xs) (hC:V.heap.size≤C) (hb:Below V.heap.size V V'):uV W1 b V' (some ⟨x,xs,C⟩) p q:=by
 have h':=h.keep hb
 refine⟨h'.aZ,fun t ht=>?_,h'.pb,fun g hg=>⟨(h'.pl g hg).1,(h'.pl g hg).2.1,fun t ht e=>?_⟩⟩
 ·injection ht with ht;subst ht;exact⟨ho.base h.aZ.size,Nat.le_trans h.aZ.size hC⟩
 ·injection ht with ht
  subst ht
  have h1:=bK ho.rl g e
  have h2:=(bg (h.pl g hg).1).1
  omega
theorem uV.L6 (h:uV W1 b V o none q):uV W1 b (V.alloc RZ) o (some V.heap.size) q:=by
 have h':=h.keep ((aL _ _).alloc (aC _) RZ)
 exact⟨h'.aZ,h'.own,fun g hg=>by injection hg with hg;subst hg;exact⟨heap_alloc_new _ _,h.aZ.size⟩,h'.pl⟩
theorem uV.L8 (h:uV W1 b V o p none):uV W1 b (V.alloc R3) o p (some V.heap.size):=by
 have h':=h.keep ((aL _ _).alloc (aC _) R3)
 refine⟨h'.aZ,h'.own,h'.pb,fun g hg=>?_⟩
 injection hg with hg
 subst hg
 refine⟨heap_alloc_new _ _,h.aZ.size,fun t ht e=>?_⟩
 have:=((h.own t ht).1.rl.lt _ e).2
 omega
theorem uV.ne {pb pl:Nat} (h:uV W1 b V o (some pb) (some pl)):¬pb=pl∧ ¬pl=pb:=by
 have k1:=(h.pb pb rfl).1
 have k2:=(h.pl pl rfl).1
 have hne:¬pb=pl:=fun e=>by
  rw[e,k2]at k1
  injection k1 with k1
  injection k1 with _ k1 _
  exact absurd k1 (by decide)
 exact⟨hne,fun e=>hne e.symm⟩
theorem uV.gr {x:bZ} {xs:List bV} {C pb pl:Nat} (h:uV W1 b V (some ⟨x,xs,C⟩) (some pb) (some pl)) (d ep un:Int):
  Gr W1.heap.size V.heap.size pb pl W1 (((((((((((V.setCell ⟨pb,0,none⟩ x.c.v).setCell ⟨pb,1,none⟩ x.f.v).setCell ⟨pb,2,none⟩ x.l.v).setCell ⟨pb,3,none⟩ x.b.v).setCell ⟨pl,0,none⟩ (.int .i64 d)).setCell ⟨pl,1,none⟩ (.int .i64 ep)).setCell ⟨pl,2,none⟩ (.int .i64 un)).setCell ⟨pl,3,none⟩ (.int .i64 (-1))).setCell ⟨pl,4,none⟩ (.slice none 0 0)).setCell ⟨pl,5,none⟩ (.slice none 0 0)).setCell ⟨pl,6,none⟩ (.slice none 0 0))
   x b xs ⟨d,ep,un,-1,⟨none,0,0⟩,⟨none,0,0⟩,⟨none,0,0⟩⟩ (newL d ep un):=by
 obtain⟨k1,g1⟩:=h.pb pb rfl
 obtain⟨k2,g2,g3⟩:=h.pl pl rfl
 have g4:=g3 _ rfl
 obtain⟨ho,hCC⟩:=h.own _ rfl
 simp only at ho g4 hCC
 have hne:pb≠pl:=fun e=>by
  rw[e,k2]at k1
  injection k1 with k1
  injection k1 with _ k1 _
  exact absurd k1 (by decide)
 have a1:=gq k1 x.c.v x.f.v x.l.v x.b.v
 have o1:∀c,c≠pb→((((V.setCell ⟨pb,0,none⟩ x.c.v).setCell ⟨pb,1,none⟩ x.f.v).setCell ⟨pb,2,none⟩ x.l.v).setCell ⟨pb,3,none⟩ x.b.v).heap[c]? =V.heap[c]? :=fun c hc=>bF V pb c (fun e=>hc e.symm) _ _ _ _ 0 1 2 3
 have b1:=(((h.aZ.setCell (p:=⟨pb,0,none⟩) g1 x.c.v).setCell (p:=⟨pb,1,none⟩) g1 x.f.v).setCell (p:=⟨pb,2,none⟩) g1 x.l.v).setCell (p:=⟨pb,3,none⟩) g1 x.b.v
 have z1:((((V.setCell ⟨pb,0,none⟩ x.c.v).setCell ⟨pb,1,none⟩ x.f.v).setCell ⟨pb,2,none⟩ x.l.v).setCell ⟨pb,3,none⟩ x.b.v).heap.size=V.heap.size:=fV _ _ _ _ _ _ _ _ _
 rw[←z1]
 have hlow:∀z∈xs,∀g,z.s.v.ownBlock=some g→g<V.heap.size:=fun z hz g hg=>by
  obtain⟨i,hi,hzi⟩:=List.getElem_of_mem hz
  have:=bI.at ho.each i hi (by rw[←ho.each.len];exact hi)
  rw[hzi]at this
  exact(this.s.lt g hg).2
 have hbs:=h.aZ.size
 have rc:=aH ho.rc o1 k1 (by decide)
 have rf:=aH ho.rf o1 k1 (by decide)
 have rl:=aH ho.rl o1 k1 (by decide)
 have rb:=aH ho.rb o1 k1 (by decide)
 have re:=ho.each.imp (fun _ _ r=>iC.other (iC.base r hCC) o1 k1 (by decide) (by decide) (by decide))
 have k2':=(o1 pl (fun e=>hne e.symm)).trans k2
 generalize ((((V.setCell ⟨pb,0,none⟩ x.c.v).setCell ⟨pb,1,none⟩ x.f.v).setCell ⟨pb,2,none⟩ x.l.v).setCell ⟨pb,3,none⟩ x.b.v)=V5 at*
 have a2:=mV k2' (.int .i64 d) (.int .i64 ep) (.int .i64 un) (.int .i64 (-1)) (.slice none 0 0) (.slice none 0 0) (.slice none 0 0)
 have o2:∀c,c≠pl→(((((((V5.setCell ⟨pl,0,none⟩ (.int .i64 d)).setCell ⟨pl,1,none⟩ (.int .i64 ep)).setCell ⟨pl,2,none⟩ (.int .i64 un)).setCell ⟨pl,3,none⟩ (.int .i64 (-1))).setCell ⟨pl,4,none⟩ (.slice none 0 0)).setCell ⟨pl,5,none⟩ (.slice none 0 0)).setCell ⟨pl,6,none⟩ (.slice none 0 0)).heap[c]? =V5.heap[c]? :=fun c hc=>by
  have:=lq V5 pl c hc 0 (.int .i64 d) (.int .i64 ep) (.int .i64 un) (.int .i64 (-1)) (.slice none 0 0) (.slice none 0 0) (.slice none 0 0)
  simpa using this
 have b2:=((((((b1.setCell (p:=⟨pl,0,none⟩) g2 (.int .i64 d)).setCell (p:=⟨pl,1,none⟩) g2 (.int .i64 ep)).setCell (p:=⟨pl,2,none⟩) g2 (.int .i64 un)).setCell (p:=⟨pl,3,none⟩) g2 (.int .i64 (-1))).setCell (p:=⟨pl,4,none⟩) g2 (.slice none 0 0)).setCell (p:=⟨pl,5,none⟩) g2 (.slice none 0 0)).setCell (p:=⟨pl,6,none⟩) g2 (.slice none 0 0)
 exact⟨b2,(o2 pb hne).trans a1,a2,g1,g2,by omega,aH rc o2 k2' (by decide),aH rf o2 k2' (by decide),fF rl o2 g4,aH rb o2 k2' (by decide),
  re.imp (fun _ _ r=>iC.other r o2 k2' (by decide) (by decide) (by decide)),fun z hz g hg=>by rw[z1];exact hlow z hz g hg,g4,rfl,rfl,rfl,rfl,World.ownsRow_nil _ _ _ _,World.ownsRow_nil _ _ _ _,rfl,rfl⟩
end
theorem ny {P:Program} {ops:Array Oper} {Q:Exit→Act→World→Prop} {md:Region.Mode} {S:World→Prop} {s n:Nat} {l:Array Bool} {a:Act} {w:World} {F:World→Prop} (hF:F w) (h:∀V,F V→gV P md ops Q S s n l a V):gV P md ops Q S s n l a w:=h w hF
theorem sF (w:World) (o:Obj):(w.alloc o).heap.size=w.heap.size+1:=by simp
theorem vY (w:World):w.drew.heap.size=w.heap.size:=rfl
def L9 (W1:World) (b:Bk) (l:Ls) (ws:List Wn) (pb pl:Nat) (xs:List bV) (k:Nat) (wr:World):Prop:=∃ (D:Nat) (b':Bk) (l':Ls) (x:bZ) (y:bV),bD b l [] ws=bD b' l' (ws.take k) (ws.drop k)∧Ij k b l b' l'∧Gr W1.heap.size D pb pl W1 wr x b' xs y l'∧D≤wr.heap.size
theorem Gr.aa9 {B D pb pl:Nat} {w0 W:World} {x:bZ} {b:Bk} {xs:List bV} {y:bV} {l:Ls} (h:Gr B D pb pl w0 W x b xs y l):∃D',Gr B D' pb pl w0 W x b xs y l∧D'≤W.heap.size:=by
 refine⟨min D W.heap.size,⟨h.aZ,h.kb,h.kl,h.hb,h.hl,?_,h.rc,h.rf,h.rl,h.rb,h.each,fun z hz g hg=>?_,h.NG,h.dev,h.epoch,h.bY,h.last,aO h.ys (Nat.min_le_left _ _),h.yi,h.yu,h.used⟩,Nat.min_le_right _ _⟩
 ·have:=h.hD;have:=h.hb;have:=h.Ie;omega
 ·have h1:=h.low z hz g hg
  obtain⟨i,hi,hzi⟩:=List.getElem_of_mem hz
  have h2:=bI.at h.each i hi (by rw[←h.each.len];exact hi)
  rw[hzi]at h2
  have:=(h2.s.lt g hg).2
  omega
theorem Ag {b b':Bk} {d ep un:Int} {l':Ls} {n:Nat} (h:Ij n b (newL d ep un) b' l') (hg:Kw b) (hn:n≤5):wJ l':=by
 have h1:=h.ns
 have h2:=h.ni
 have h3:=h.used
 have:n*b.free.length≤5*b.free.length:=Nat.mul_le_mul_right _ hn
 have:=hg.nf
 exact⟨by omega,by omega,by rw[h3];simp⟩
theorem Jk {b b':Bk} {d ep un:Int} {l':Ls} {n m k:Nat} (h:Ij n b (newL d ep un) b' l') (hg:Kw b) (_hk:n≤m) (hn:n≤5):zN ⟨b'.cs,b'.free,b'.ls.take k++l'::b'.ls.drop k,b'.bound⟩:=by
 have h1:=h.nc
 have h2:=h.nf
 have h3:=hg.nc
 have h4:=hg.nf
 have h5:=hg.nl
 have h6:=hg.nb
 refine⟨by simp only;omega,by simp only;omega,?_,by simp only;rw[h.bound];omega,fun x hx=>?_⟩
 ·simp only[List.length_append,List.length_take,List.length_cons,List.length_drop];rw[h.ls];omega
 ·simp only[List.mem_append,List.mem_cons]at hx
  rcases hx with hx | rfl | hx
  ·exact hg.UR.each x (by rw[←h.ls];exact List.mem_of_mem_take hx)
  ·exact Ag h hg hn
  ·exact hg.UR.each x (by rw[←h.ls];exact List.mem_of_mem_drop hx)
theorem DN {w U U2:World} {b:Bk} {l:Ls} {x:bZ} {y:bV} {xs:List bV} {C p:Nat} {n:Int} (hw:Below w.heap.size w U) (hb:Below U.heap.size U U2) (ho:pX U2 U.heap.size C x b xs) (hC:U.heap.size≤C) (hy:iC U2 U.heap.size y l) (hp:w.heap.size≤p) (NM:p+1<U.heap.size):
  mG w (b,l,n) (.returned (.tuple #[fT x,nI y,.int .i64 n])) (((((((((((U2.setCell ⟨p,0,none⟩ x.c.v).setCell ⟨p,1,none⟩ x.f.v).setCell ⟨p,2,none⟩ x.l.v).setCell ⟨p,3,none⟩ x.b.v).setCell ⟨p+1,0,none⟩ (.int .i64 y.dev)).setCell ⟨p+1,1,none⟩ (.int .i64 y.epoch)).setCell ⟨p+1,2,none⟩ (.int .i64 y.bY)).setCell ⟨p+1,3,none⟩ (.int .i64 y.last)).setCell ⟨p+1,4,none⟩ y.s.v).setCell ⟨p+1,5,none⟩ y.i.v).setCell ⟨p+1,6,none⟩ y.u.v):=by
 have h1:=(((ho.put hC ⟨p,0,none⟩ (by simp;omega) x.c.v).put hC ⟨p,1,none⟩ (by simp;omega) x.f.v).put hC ⟨p,2,none⟩ (by simp;omega) x.l.v).put hC ⟨p,3,none⟩ (by simp;omega) x.b.v
 have h2:=(((((((h1.put hC ⟨p+1,0,none⟩ (by simp;omega) (.int .i64 y.dev)).put hC ⟨p+1,1,none⟩ (by simp;omega) (.int .i64 y.epoch)).put hC ⟨p+1,2,none⟩ (by simp;omega) (.int .i64 y.bY)).put hC ⟨p+1,3,none⟩ (by simp;omega) (.int .i64 y.last)).put hC ⟨p+1,4,none⟩ (by simp;omega) y.s.v).put hC ⟨p+1,5,none⟩ (by simp;omega) y.i.v).put hC ⟨p+1,6,none⟩ (by simp;omega) y.u.v)
 have g1:=(((hy.put ⟨p,0,none⟩ (by simp;omega) x.c.v).put ⟨p,1,none⟩ (by simp;omega) x.f.v).put ⟨p,2,none⟩ (by simp;omega) x.l.v).put ⟨p,3,none⟩ (by simp;omega) x.b.v
 have g2:=(((((((g1.put ⟨p+1,0,none⟩ (by simp;omega) (.int .i64 y.dev)).put ⟨p+1,1,none⟩ (by simp;omega) (.int .i64 y.epoch)).put ⟨p+1,2,none⟩ (by simp;omega) (.int .i64 y.bY)).put ⟨p+1,3,none⟩ (by simp;omega) (.int .i64 y.last)).put ⟨p+1,4,none⟩ (by simp;omega) y.s.v).put ⟨p+1,5,none⟩ (by simp;omega) y.i.v).put ⟨p+1,6,none⟩ (by simp;omega) y.u.v)
 refine⟨x,y,xs,C,rfl,h2.base hw.size,Nat.le_trans hw.size hC,g2.base hw.size,?_⟩
 have hbw:=hw.trans (hb.mono hw.size)
 exact(((((((((((hbw.setCell (by simp;omega) _).setCell (by simp;omega) _).setCell (by simp;omega) _).setCell (by simp;omega) _).setCell (by simp;omega) _).setCell (by simp;omega) _).setCell (by simp;omega) _).setCell (by simp;omega) _).setCell (by simp;omega) _).setCell (by simp;omega) _).setCell (by simp;omega) _)
def aa_ (W1:World) (b:Bk) (l:Ls) (v13 v14:Value) (wx:World):Prop:=∃ (pb pl D:Nat) (x':bZ) (xs:List bV) (y:bV),v13= .pointer (some ⟨pb,0,none⟩)∧v14= .pointer (some ⟨pl,0,none⟩)∧Gr W1.heap.size D pb pl W1 wx x' b xs y l∧D≤wx.heap.size
set_option maxRecDepth 100000 in
set_option maxHeartbeats 16000000 in
theorem Fv (x:bZ) (b:Bk) (dev ep un:Int) (v:Value) (ws:List Wn) (w:World) (h:eD w x b) (hG:Kw b) (hv:oH w v ws) (hA:ku dev ep un ws.length=true):
  Calls Tryz.prog 25 #[fT x,.int .i64 dev,.int .i64 ep,.int .i64 un,v] w (mG w (fM b dev ep un ws)):=by
 obtain⟨⟨ca,cn,cc⟩,⟨fa,aX,fc⟩,⟨la,ln,lc⟩,⟨ba,b_n,bc⟩⟩:=x
 obtain⟨ao,cap,rfl,hcap,hcm⟩:=Sl.shape hv
 have YA:=ah hA
 unfold ku at hA
 simp only[Bool.and_eq_true]at hA
 obtain⟨ha1,ha2,Ii,ha4⟩:=hA
 have HA1:Hid ((decide (0≤dev)&&decide (dev≤5))=true):=ah (by rw[ha1.1,ha1.2];rfl)
 have HA2:Hid ((decide (1≤ep)&&decide (ep≤1073741824))=true):=ah (by rw[ha2.1,ha2.2];rfl)
 have D_:Hid ((decide (0≤un)&&decide (un≤2199023255552))=true):=ah (by rw[Ii.1,Ii.2];rfl)
 have h5:ws.length≤5:=by simpa using ha4
 have h6:(ws.length:Int)≤5:=by omega
 have h7:¬5<ws.length:=by omega
 clear ha1 ha2 Ii ha4
 obtain⟨W1,hW1,k0,k1,k2,k3,hb1,hz1⟩:=Ky w (.cells #[.slice ca cn cc,.slice fa aX fc,.slice la ln lc,.slice ba b_n bc] 30) (.cells #[.int .i64 dev] 3) (.cells #[.slice none 0 0,.slice none 0 0,.slice none 0 0,.slice none 0 0] 30) (.cells #[.int .i64 0,.int .i64 0,.int .i64 0,.int .i64 0,.slice none 0 0,.slice none 0 0,.slice none 0 0] 48)
 have HW1:=ah hW1
 have HZ1:=ah hz1
 have hz1':w.heap.size+3<W1.heap.size:=by omega
 have K0:=ah k0
 have K1:=ah k1
 have K2:=ah k2
 have K3:=ah k3
 have HM:=ah (h.keep hb1 (aC _))
 have HV:=ah (hv.keep hb1 (aC _))
 have dV:=ah hb1
 have HB:=ah hG.UR
 have tX:=ah hG
 obtain⟨xs0,hx,hxa⟩:=HM.out.l
 have q_:=ah hxa
 simp only at hx
 clear hW1 hz1 k0 k1 k2 k3 hb1 h hG hv hxa
 change Calls Tryz.prog _ #[.agg #[.slice ca cn cc,.slice fa aX fc,.slice la ln lc,.slice ba b_n bc],.int .i64 dev,.int .i64 ep,.int .i64 un,.slice ao ws.length cap] w _
 go_enter Tryz.func25,Tryz.ntmps25
 go_upto_region 1 with fail
 rw[HW1.out]
 obtain⟨d0,d1,d2,d3,_⟩:=ay K0.out
 have e0:W1.cell? ⟨w.heap.size+1,0,none⟩=some (.int .i64 dev):=by simp[World.cell?,K1.out]
 go_wp2_with (first
  | ((go_at_call 63;refine(dG _ _ _ _).mono ?_);(first | rw[HA1.out] | rw[HA2.out] | rw[D_.out]);rintro e w9 ⟨rfl,rfl⟩)
  | fail)
 refine(Ho _ xs0 _ _ (fun c=>decide (c.dev=dev)) _ hx (QD e0 xs0)).mono ?_
 rintro e U ⟨rfl,hU⟩
 have WH:Hid (xs0.any (fun c=>decide (c.dev=dev))=b.ls.any (fun l=>decide (l.dev=dev))):=ah (wG q_.out (fun a c r=>by rw[r.dev]))
 rw[WH.out]
 have HU:=ah hU
 clear hx q_ WH hU d0 d1 d2 d3 e0
 obtain⟨q,hq⟩:∃q,b.ls.any (fun l=>decide (l.dev=dev))=q:=⟨_,rfl⟩
 rw[hq]
 have HQ:=ah hq
 clear hq
 cases q with
 | true=>
  have eO:=ah (CW YA.out HQ.out)
  obtain⟨d0,d1,d2,d3,_⟩:=ay (aj K0.out HU.out (by omega))
  have hsz:=(HU.out).size
  have rV:=ah (dV.out.trans ((HU.out).mono dV.out.size))
  have L_:=ah (aj K2.out HU.out (by omega))
  have Ma:=ah (aj K3.out HU.out (by omega))
  go_wp2_with fail
  refine(h_ ⟨⟨ca,cn,cc⟩,⟨fa,aX,fc⟩,⟨la,ln,lc⟩,⟨ba,b_n,bc⟩⟩ b _ (HM.out.keep HU.out (aC _)) HB.out).mono ?_
  rintro e U2 ⟨⟨⟨da,dn,dc⟩,⟨ea,e_n,ec⟩,⟨ma,mn,mc⟩,⟨na,jB,nc⟩⟩,GD,C,rfl,ho,hC,hb4⟩
  have HO:=ah ho
  have HC:=ah hC
  have jd:=ah hb4
  have hk2:=aj L_.out hb4 (by omega)
  have hk3:=aj Ma.out hb4 (by omega)
  obtain⟨r0,r1,r2,r3,_⟩:=ay hk2
  have f0:=aA hk2 0
  have f1:=aA hk2 1
  have f2:=aA hk2 2
  have f3:=aA hk2 3
  obtain⟨q0,q1,q2,q3,q4,q5,q6,_⟩:=aB hk3
  have f4:=ak hk3 0
  have f5:=ak hk3 1
  have f6:=ak hk3 2
  have f7:=ak hk3 3
  have f8:=ak hk3 4
  have f9:=ak hk3 5
  have f10:=ak hk3 6
  clear hb4 hk2 hk3 ho hC d0 d1 d2 d3
  go_wp2
  refine bodyPost_ret (v:=.tuple #[.agg #[.slice da dn dc,.slice ea e_n ec,.slice ma mn mc,.slice na jB nc],.agg #[.int .i64 0,.int .i64 0,.int .i64 0,.int .i64 0,.slice none 0 0,.slice none 0 0,.slice none 0 0],.int .i64 19]) (by simp[results,Tryz.results25,go_sem, *]) rfl (show mG _ _ _ _ from ?_)
  rw[eO.out]
  exact l8 (x:=⟨⟨da,dn,dc⟩,⟨ea,e_n,ec⟩,⟨ma,mn,mc⟩,⟨na,jB,nc⟩⟩) (p:=w.heap.size+2) rV.out jd.out HO.out HC.out (by omega) (by omega) _ _ _ _ _ _ _
 | false=>
  have e0:U.cell? ⟨w.heap.size+1,0,none⟩=some (.int .i64 dev):=by
   have:=aj K1.out HU.out (by omega)
   simp[World.cell?,this]
  obtain⟨d0,d1,d2,d3,_⟩:=ay (aj K0.out HU.out (by omega))
  go_upto_region 5 with fail
  have HOWN:Hid (∀V,Below W1.heap.size W1 V→Calls Tryz.prog 65 #[.agg #[.slice ca cn cc,.slice fa aX fc,.slice la ln lc,.slice ba b_n bc]] V (O7 V b)):=ah (fun V hV=>h_ ⟨⟨ca,cn,cc⟩,⟨fa,aX,fc⟩,⟨la,ln,lc⟩,⟨ba,b_n,bc⟩⟩ b _ (HM.out.keep hV (aC _)) HB.out)
  have KS:Hid (∀V,Below W1.heap.size W1 V→(Below W1.heap.size W1 V∧V.cell? ⟨w.heap.size,0,none⟩=some (.slice ca cn cc)∧V.cell? ⟨w.heap.size,1,none⟩=some (.slice fa aX fc)∧V.cell? ⟨w.heap.size,2,none⟩=some (.slice la ln lc)∧V.cell? ⟨w.heap.size,3,none⟩=some (.slice ba b_n bc)∧V.cell? ⟨w.heap.size+1,0,none⟩=some (.int .i64 dev))):=
   ah (fun V hV=>by
    obtain⟨e0,e1,e2,e3,_⟩:=ay (aj K0.out hV (by omega))
    have hh:=aj K1.out hV (by omega)
    exact⟨hV,e0,e1,e2,e3,by simp[World.cell?,hh]⟩)
  have hU:=HU.out
  go_cut[13,14] (fun v13 v14 wx=>aa_ W1 b (newL dev ep un) v13 v14 wx)
  case first=>
   have hS0:Below W1.heap.size W1 U.drew:=hU.drew
   have YB:Hid (uV W1 b U.drew none none none):=ah (uV.mk0 hS0)
   clear d0 d1 d2 d3 e0
   refine aS 9 (fun w'=>Below W1.heap.size W1 w') (by kernel_rfl) ?_
   refine aD (i:=0) (v:=.agg #[.slice ca cn cc,.slice fa aX fc,.slice la ln lc,.slice ba b_n bc]) rfl rfl (by kernel_rfl) (by kernel_rfl) (by kernel_rfl) (by kernel_rfl) (by kernel_rfl) (by decide) (fun _ _ _ h=>h) (.inl ⟨rfl,fun w' hw=>?_⟩) hS0 ?_
   ·obtain⟨_,d0,d1,d2,d3,_⟩:=KS.out _ hw
    go_simp
   refine aD (i:=2) (v:=.int .i64 dev) rfl rfl (by kernel_rfl) (by kernel_rfl) (by kernel_rfl) (by kernel_rfl) (by kernel_rfl) (by decide) (fun _ _ _ h=>h) (.inl ⟨rfl,fun w' hw=>?_⟩) hS0 ?_
   ·obtain⟨_,_,_,_,_,e0⟩:=KS.out _ hw
    go_simp
   refine aD (i:=3) (v:=.int .i64 ep) rfl rfl (by kernel_rfl) (by kernel_rfl) (by kernel_rfl) (by kernel_rfl) (by kernel_rfl) (by decide) (fun _ _ _ h=>h) (.inl ⟨rfl,fun w' hw=>?_⟩) hS0 ?_
   ·go_simp
   refine aD (i:=4) (v:=.int .i64 un) rfl rfl (by kernel_rfl) (by kernel_rfl) (by kernel_rfl) (by kernel_rfl) (by kernel_rfl) (by decide) (fun _ _ _ h=>h) (.inl ⟨rfl,fun w' hw=>?_⟩) hS0 ?_
   ·go_simp
   refine aD (i:=5) (v:=.agg #[.int .i64 dev,.int .i64 ep,.int .i64 un,.int .i64 (-1),.slice none 0 0,.slice none 0 0,.slice none 0 0]) rfl rfl (by kernel_rfl) (by kernel_rfl) (by kernel_rfl) (by kernel_rfl) (by kernel_rfl) (by decide) (fun _ _ _ h=>h) (.inl ⟨rfl,fun w' hw=>?_⟩) hS0 ?_
   ·go_simp
   refine Ei (i:=1) (j:=6) (k:=7) (by kernel_rfl) rfl rfl rfl rfl rfl rfl ?_ ?_ ?_
   ·go_simp
    refine(HOWN.out _ YB.out.aZ).mono ?_
    rintro en w9 ⟨⟨⟨da,dn,dc⟩,⟨ea,e_n,ec⟩,⟨ma,mn,mc⟩,⟨na,jB,nc⟩⟩,GD,C,rfl,ho,hC,hb4⟩
    have Fw:=ah (YB.out.LX ho hC hb4)
    clear ho hC hb4
    try go_simp
    refine⟨Fw.out.aZ,?_⟩
    refine gW (i:=6) (j:=7) (by kernel_rfl) rfl rfl rfl rfl ?_ ?_
    ·go_simp
     have HS2:=ah Fw.out.L6
     refine⟨HS2.out.aZ,?_⟩
     refine aF (i:=7) (by kernel_rfl) rfl rfl ?_
     ·go_simp
      have xS:=ah HS2.out.L8
      refine⟨xS.out.aZ,?_⟩
      have hs:=xS.out
      simp only[sF]at hs
      refine ny (F:=fun V=>uV W1 b V (some ⟨⟨⟨da,dn,dc⟩,⟨ea,e_n,ec⟩,⟨ma,mn,mc⟩,⟨na,jB,nc⟩⟩,GD,C⟩) (some _) (some _)) hs (fun V HV=>?_)
      have j5:=ah (HV.gr dev ep un)
      obtain⟨nA,sG⟩:=HV.pb _ rfl
      obtain⟨jQ,WI,_⟩:=HV.pl _ rfl
      have hbz:=HV.aZ
      obtain⟨hn1,hn2⟩:=HV.ne
      obtain⟨s0,s1,s2,s3,_⟩:=ay nA
      obtain⟨t0,t1,t2,t3,t4,t5,t6,_⟩:=aB jQ
      have u0:=aA nA 0
      have u1:=aA nA 1
      have u2:=aA nA 2
      have u3:=aA nA 3
      have x0:=ak jQ 0
      have x1:=ak jQ 1
      have x2:=ak jQ 2
      have x3:=ak jQ 3
      have x4:=ak jQ 4
      have x5:=ak jQ 5
      have x6:=ak jQ 6
      clear hs HV xS nA jQ
      refine aF (i:=8) (by kernel_rfl) rfl rfl ?_
      go_simp
      refine⟨(((hbz.setCell sG _).setCell sG _).setCell sG _).setCell sG _,?_⟩
      refine aF (i:=9) (by kernel_rfl) rfl rfl ?_
      go_simp
      refine aT (by kernel_rfl) ?_
      go_wp2
      go_meet
      exact⟨_,_,_,_,_,_,rfl,rfl,j5.out,by simp[World.setCell]⟩
    ·go_simp
     have HS2:=ah Fw.out.L8
     refine⟨HS2.out.aZ,?_⟩
     refine aF (i:=6) (by kernel_rfl) rfl rfl ?_
     ·go_simp
      have xS:=ah HS2.out.L6
      refine⟨xS.out.aZ,?_⟩
      have hs:=xS.out
      simp only[sF]at hs
      refine ny (F:=fun V=>uV W1 b V (some ⟨⟨⟨da,dn,dc⟩,⟨ea,e_n,ec⟩,⟨ma,mn,mc⟩,⟨na,jB,nc⟩⟩,GD,C⟩) (some _) (some _)) hs (fun V HV=>?_)
      have j5:=ah (HV.gr dev ep un)
      obtain⟨nA,sG⟩:=HV.pb _ rfl
      obtain⟨jQ,WI,_⟩:=HV.pl _ rfl
      have hbz:=HV.aZ
      obtain⟨hn1,hn2⟩:=HV.ne
      obtain⟨s0,s1,s2,s3,_⟩:=ay nA
      obtain⟨t0,t1,t2,t3,t4,t5,t6,_⟩:=aB jQ
      have u0:=aA nA 0
      have u1:=aA nA 1
      have u2:=aA nA 2
      have u3:=aA nA 3
      have x0:=ak jQ 0
      have x1:=ak jQ 1
      have x2:=ak jQ 2
      have x3:=ak jQ 3
      have x4:=ak jQ 4
      have x5:=ak jQ 5
      have x6:=ak jQ 6
      clear hs HV xS nA jQ
      refine aF (i:=8) (by kernel_rfl) rfl rfl ?_
      go_simp
      refine⟨(((hbz.setCell sG _).setCell sG _).setCell sG _).setCell sG _,?_⟩
      refine aF (i:=9) (by kernel_rfl) rfl rfl ?_
      go_simp
      refine aT (by kernel_rfl) ?_
      go_wp2
      go_meet
      exact⟨_,_,_,_,_,_,rfl,rfl,j5.out,by simp[World.setCell]⟩
   ·go_simp
    have Fw:=ah YB.out.L6
    refine⟨Fw.out.aZ,?_⟩
    refine gW (i:=1) (j:=7) (by kernel_rfl) rfl rfl rfl rfl ?_ ?_
    ·go_simp
     refine(HOWN.out _ Fw.out.aZ).mono ?_
     rintro en w9 ⟨⟨⟨da,dn,dc⟩,⟨ea,e_n,ec⟩,⟨ma,mn,mc⟩,⟨na,jB,nc⟩⟩,GD,C,rfl,ho,hC,hb4⟩
     have HS2:=ah (Fw.out.LX ho hC hb4)
     clear ho hC hb4
     try go_simp
     refine⟨HS2.out.aZ,?_⟩
     refine aF (i:=7) (by kernel_rfl) rfl rfl ?_
     ·go_simp
      have xS:=ah HS2.out.L8
      refine⟨xS.out.aZ,?_⟩
      have hs:=xS.out
      simp only[vY]at hs
      refine ny (F:=fun V=>uV W1 b V (some ⟨⟨⟨da,dn,dc⟩,⟨ea,e_n,ec⟩,⟨ma,mn,mc⟩,⟨na,jB,nc⟩⟩,GD,C⟩) (some _) (some _)) hs (fun V HV=>?_)
      have j5:=ah (HV.gr dev ep un)
      obtain⟨nA,sG⟩:=HV.pb _ rfl
      obtain⟨jQ,WI,_⟩:=HV.pl _ rfl
      have hbz:=HV.aZ
      obtain⟨hn1,hn2⟩:=HV.ne
      obtain⟨s0,s1,s2,s3,_⟩:=ay nA
      obtain⟨t0,t1,t2,t3,t4,t5,t6,_⟩:=aB jQ
      have u0:=aA nA 0
      have u1:=aA nA 1
      have u2:=aA nA 2
      have u3:=aA nA 3
      have x0:=ak jQ 0
      have x1:=ak jQ 1
      have x2:=ak jQ 2
      have x3:=ak jQ 3
      have x4:=ak jQ 4
      have x5:=ak jQ 5
      have x6:=ak jQ 6
      clear hs HV xS nA jQ
      refine aF (i:=8) (by kernel_rfl) rfl rfl ?_
      go_simp
      refine⟨(((hbz.setCell sG _).setCell sG _).setCell sG _).setCell sG _,?_⟩
      refine aF (i:=9) (by kernel_rfl) rfl rfl ?_
      go_simp
      refine aT (by kernel_rfl) ?_
      go_wp2
      go_meet
      exact⟨_,_,_,_,_,_,rfl,rfl,j5.out,by simp[World.setCell]⟩
    ·go_simp
     have HS2:=ah Fw.out.L8
     refine⟨HS2.out.aZ,?_⟩
     refine aF (i:=1) (by kernel_rfl) rfl rfl ?_
     ·go_simp
      refine(HOWN.out _ HS2.out.aZ).mono ?_
      rintro en w9 ⟨⟨⟨da,dn,dc⟩,⟨ea,e_n,ec⟩,⟨ma,mn,mc⟩,⟨na,jB,nc⟩⟩,GD,C,rfl,ho,hC,hb4⟩
      have xS:=ah (HS2.out.LX ho hC hb4)
      clear ho hC hb4
      try go_simp
      refine⟨xS.out.aZ,?_⟩
      have hs:=xS.out
      simp only[sF,vY]at hs
      refine ny (F:=fun V=>uV W1 b V (some ⟨⟨⟨da,dn,dc⟩,⟨ea,e_n,ec⟩,⟨ma,mn,mc⟩,⟨na,jB,nc⟩⟩,GD,C⟩) (some _) (some _)) hs (fun V HV=>?_)
      have j5:=ah (HV.gr dev ep un)
      obtain⟨nA,sG⟩:=HV.pb _ rfl
      obtain⟨jQ,WI,_⟩:=HV.pl _ rfl
      have hbz:=HV.aZ
      obtain⟨hn1,hn2⟩:=HV.ne
      obtain⟨s0,s1,s2,s3,_⟩:=ay nA
      obtain⟨t0,t1,t2,t3,t4,t5,t6,_⟩:=aB jQ
      have u0:=aA nA 0
      have u1:=aA nA 1
      have u2:=aA nA 2
      have u3:=aA nA 3
      have x0:=ak jQ 0
      have x1:=ak jQ 1
      have x2:=ak jQ 2
      have x3:=ak jQ 3
      have x4:=ak jQ 4
      have x5:=ak jQ 5
      have x6:=ak jQ 6
      clear hs HV xS nA jQ
      refine aF (i:=8) (by kernel_rfl) rfl rfl ?_
      go_simp
      refine⟨(((hbz.setCell sG _).setCell sG _).setCell sG _).setCell sG _,?_⟩
      refine aF (i:=9) (by kernel_rfl) rfl rfl ?_
      go_simp
      refine aT (by kernel_rfl) ?_
      go_wp2
      go_meet
      exact⟨_,_,_,_,_,_,rfl,rfl,j5.out,by simp[World.setCell]⟩
   ·go_simp
    have Fw:=ah YB.out.L8
    refine⟨Fw.out.aZ,?_⟩
    refine gW (i:=1) (j:=6) (by kernel_rfl) rfl rfl rfl rfl ?_ ?_
    ·go_simp
     refine(HOWN.out _ Fw.out.aZ).mono ?_
     rintro en w9 ⟨⟨⟨da,dn,dc⟩,⟨ea,e_n,ec⟩,⟨ma,mn,mc⟩,⟨na,jB,nc⟩⟩,GD,C,rfl,ho,hC,hb4⟩
     have HS2:=ah (Fw.out.LX ho hC hb4)
     clear ho hC hb4
     try go_simp
     refine⟨HS2.out.aZ,?_⟩
     refine aF (i:=6) (by kernel_rfl) rfl rfl ?_
     ·go_simp
      have xS:=ah HS2.out.L6
      refine⟨xS.out.aZ,?_⟩
      have hs:=xS.out
      simp only[vY]at hs
      refine ny (F:=fun V=>uV W1 b V (some ⟨⟨⟨da,dn,dc⟩,⟨ea,e_n,ec⟩,⟨ma,mn,mc⟩,⟨na,jB,nc⟩⟩,GD,C⟩) (some _) (some _)) hs (fun V HV=>?_)
      have j5:=ah (HV.gr dev ep un)
      obtain⟨nA,sG⟩:=HV.pb _ rfl
      obtain⟨jQ,WI,_⟩:=HV.pl _ rfl
      have hbz:=HV.aZ
      obtain⟨hn1,hn2⟩:=HV.ne
      obtain⟨s0,s1,s2,s3,_⟩:=ay nA
      obtain⟨t0,t1,t2,t3,t4,t5,t6,_⟩:=aB jQ
      have u0:=aA nA 0
      have u1:=aA nA 1
      have u2:=aA nA 2
      have u3:=aA nA 3
      have x0:=ak jQ 0
      have x1:=ak jQ 1
      have x2:=ak jQ 2
      have x3:=ak jQ 3
      have x4:=ak jQ 4
      have x5:=ak jQ 5
      have x6:=ak jQ 6
      clear hs HV xS nA jQ
      refine aF (i:=8) (by kernel_rfl) rfl rfl ?_
      go_simp
      refine⟨(((hbz.setCell sG _).setCell sG _).setCell sG _).setCell sG _,?_⟩
      refine aF (i:=9) (by kernel_rfl) rfl rfl ?_
      go_simp
      refine aT (by kernel_rfl) ?_
      go_wp2
      go_meet
      exact⟨_,_,_,_,_,_,rfl,rfl,j5.out,by simp[World.setCell]⟩
    ·go_simp
     have HS2:=ah Fw.out.L6
     refine⟨HS2.out.aZ,?_⟩
     refine aF (i:=1) (by kernel_rfl) rfl rfl ?_
     ·go_simp
      refine(HOWN.out _ HS2.out.aZ).mono ?_
      rintro en w9 ⟨⟨⟨da,dn,dc⟩,⟨ea,e_n,ec⟩,⟨ma,mn,mc⟩,⟨na,jB,nc⟩⟩,GD,C,rfl,ho,hC,hb4⟩
      have xS:=ah (HS2.out.LX ho hC hb4)
      clear ho hC hb4
      try go_simp
      refine⟨xS.out.aZ,?_⟩
      have hs:=xS.out
      simp only[sF,vY]at hs
      refine ny (F:=fun V=>uV W1 b V (some ⟨⟨⟨da,dn,dc⟩,⟨ea,e_n,ec⟩,⟨ma,mn,mc⟩,⟨na,jB,nc⟩⟩,GD,C⟩) (some _) (some _)) hs (fun V HV=>?_)
      have j5:=ah (HV.gr dev ep un)
      obtain⟨nA,sG⟩:=HV.pb _ rfl
      obtain⟨jQ,WI,_⟩:=HV.pl _ rfl
      have hbz:=HV.aZ
      obtain⟨hn1,hn2⟩:=HV.ne
      obtain⟨s0,s1,s2,s3,_⟩:=ay nA
      obtain⟨t0,t1,t2,t3,t4,t5,t6,_⟩:=aB jQ
      have u0:=aA nA 0
      have u1:=aA nA 1
      have u2:=aA nA 2
      have u3:=aA nA 3
      have x0:=ak jQ 0
      have x1:=ak jQ 1
      have x2:=ak jQ 2
      have x3:=ak jQ 3
      have x4:=ak jQ 4
      have x5:=ak jQ 5
      have x6:=ak jQ 6
      clear hs HV xS nA jQ
      refine aF (i:=8) (by kernel_rfl) rfl rfl ?_
      go_simp
      refine⟨(((hbz.setCell sG _).setCell sG _).setCell sG _).setCell sG _,?_⟩
      refine aF (i:=9) (by kernel_rfl) rfl rfl ?_
      go_simp
      refine aT (by kernel_rfl) ?_
      go_wp2
      go_meet
      exact⟨_,_,_,_,_,_,rfl,rfl,j5.out,by simp[World.setCell]⟩
  case rest=>
  obtain⟨pb,pl,D,x',xs,y0,rfl,rfl,M9,hD⟩:=hcut
  have afC:=M9.ne
  have hHB:=M9.hb
  have hHL:=M9.hl
  have WJ:Hid (L9 W1 b (newL dev ep un) ws pb pl xs 0 wc):=ah ⟨D,b,newL dev ep un,x',y0,by first | rfl | (rw [List.take_zero,List.drop_zero]),Ij.zero tX.out.small tX.out.ct,M9,hD⟩
  clear M9 hD KS HOWN hU e0 d0 d1 d2 d3 D
  go_wp2
  go_loopw[58] (fun v58 wr=>∃k:Nat,k≤ws.length∧v58= .int .i64 k∧L9 W1 b (newL dev ep un) ws pb pl xs k wr) (fun v58 _=>ws.length-(intOf v58).toNat)
  case atStart=>exact⟨0,Nat.zero_le _,rfl,WJ.out⟩
  case round=>
   obtain⟨k,hk,rfl,hL⟩:=hrel
   obtain⟨D,b',l',x,y,hgo,hN,M9,hD⟩:=hL
   have sQ:=ah hgo
   have HN:=ah hN
   have j5:=ah M9
   have hbr:=M9.aZ
   have hsr:=M9.aZ.size
   clear hgo hN M9 WJ
   by_cases hlt:k<ws.length
   ·have iG:(k:Int)<ws.length:=by omega
    obtain⟨bb,off,rfl,hbl,c0,c1,c2,c3⟩:=cK.wn HV.out hbr (aC _) k hlt
    have HDR:Hid (ws.drop k=ws[k]::ws.drop (k+1)):=ah (List.drop_eq_getElem_cons hlt)
    have Kr:Hid (ws.take (k+1)=ws.take k++ [ws[k]]):=ah (aV ws k hlt)
    rw[HDR.out]at sQ
    generalize ws[k]=wn at*
    obtain⟨wk,wu,wd,wi⟩:=wn
    simp only at c0 c1 c2 c3
    go_upto_region 9 with fail
    have HA:=ah (heap_alloc_new wr (.cells #[.string wk,.int .i64 wu,.int .i64 wd,.int .i64 wi] 65))
    have dK:Below wr.heap.size wr (wr.alloc (.cells #[.string wk,.int .i64 wu,.int .i64 wd,.int .i64 wi] 65)):=(aL _ _).alloc (aC _) _
    have Jy:=ah (j5.out.keep dK)
    have wK:wr.heap.size<(wr.alloc (.cells #[.string wk,.int .i64 wu,.int .i64 wd,.int .i64 wi] 65)).heap.size:=by simp
    have hDA:D≤(wr.alloc (.cells #[.string wk,.int .i64 wu,.int .i64 wd,.int .i64 wi] 65)).heap.size:=by omega
    clear dK j5 c0 c1 c2 c3 hbr
    generalize wr.alloc (.cells #[.string wk,.int .i64 wu,.int .i64 wd,.int .i64 wi] 65)=W2 at*
    obtain⟨n0,n1,n2,n3,_⟩:=ay HA.out
    obtain⟨a1,ha1⟩:∃a1,(decide (0≤wu)&&decide (wu≤2199023255552))=a1:=⟨_,rfl⟩
    obtain⟨a2,ha2⟩:∃a2,(decide (0≤wd)&&decide (wd≤2199023255552))=a2:=⟨_,rfl⟩
    obtain⟨a3,Ii⟩:∃a3,(decide (0≤wi)&&decide (wi≤50))=a3:=⟨_,rfl⟩
    have HX1:=ah ha1
    have NN:=ah ha2
    have HX3:=ah Ii
    have sS:Hid (rH ⟨wk,wu,wd,wi⟩=(a1&&(a2&&a3))):=by show _=_;unfold rH;simp only[HX1.out,NN.out,HX3.out]
    clear ha1 ha2 Ii
    go_cut[17] (fun v17 wx=>v17= .bool (!(a1&&(a2&&a3)))∧W2=wx)
    case first=>
     cases a1
     case' true=>cases a2
     case' true.true=>cases a3
     all_goals
      go_wp2_with ((go_at_call 63;refine(dG _ _ _ _).mono ?_);(first | rw[HX1.out] | rw[NN.out] | rw[HX3.out]);rintro e w9 ⟨rfl,rfl⟩)
      go_meet
      exact⟨rfl,rfl⟩
    case rest=>
    obtain⟨rfl,rfl⟩:=hcut
    rw[←sS.out]
    clear HX1 NN HX3 sS
    obtain⟨q2,hq2⟩:∃q2,(ws.take k).any (fun x=>decide (x.key=wk))=q2:=⟨_,rfl⟩
    obtain⟨q1,hq1⟩:∃q1,rH ⟨wk,wu,wd,wi⟩=q1:=⟨_,rfl⟩
    rw[hq1]
    have EC:=ah hq1
    have dO:=ah hq2
    clear hq1 hq2
    have hW2:=Jy.out.aZ
    have HVT:=ah (cK.take Am (HV.out.keep hW2 (aC _)) k hk)
    go_upto_region 10 with fail
    go_cut[87] (fun v87 wx=>v87= .bool (q1&&q2)∧Below W2.heap.size W2 wx)
    case first=>
     cases q1 with
     | false=>
      go_wp2
      go_meet
      exact⟨rfl,aL _ _⟩
     | true=>
      go_wp2_with fail
      refine(Hl _ (ws.take k) _ _ (fun x=>decide (x.key=wk)) _ HVT.out (QE n0 _)).mono ?_
      rintro e U3 ⟨rfl,hU3⟩
      rw[dO.out]
      go_wp2
      go_meet
      exact⟨rfl,hU3⟩
    case rest=>
    obtain⟨rfl,hb3⟩:=hcut
    obtain⟨U3,hU3⟩:∃U3,U3=wc:=⟨_,rfl⟩
    subst hU3
    obtain⟨q3,hq3⟩:∃q3,(q1&&q2)=q3:=⟨_,rfl⟩
    rw[hq3]
    have vR:=ah hq3
    clear hq3
    have hno:q3=false→ ¬ (rH ⟨wk,wu,wd,wi⟩=true∧(ws.take k).any (fun x=>decide (x.key=wk))=true):=fun hf hh=>by
     rw[EC.out,dO.out]at hh
     have:=vR.out
     rw[hh.1,hh.2,hf]at this
     exact absurd this (by decide)
    have WK:=ah hno
    clear hno
    cases q3 with
    | true=>
     have abg:Hid ((bD b (newL dev ep un) [] ws).2.2=7):=by
      have hh:=vR.out
      rw[Bool.and_eq_true]at hh
      show _=_
      rw[sQ.out,qC (EC.out.trans hh.1) (dO.out.trans hh.2)]
     have eO:=ah (xB YA.out HQ.out abg.out (by decide))
     have iX:=hW2.trans (hb3.mono hW2.size)
     clear hb3 n0 n1 n2 n3
     obtain⟨d0,d1,d2,d3,_⟩:=ay (aj K0.out iX (by omega))
     have hsz:=(iX).size
     have rV:=ah (dV.out.trans ((iX).mono dV.out.size))
     have L_:=ah (aj K2.out iX (by omega))
     have Ma:=ah (aj K3.out iX (by omega))
     go_wp2_with fail
     refine(h_ ⟨⟨ca,cn,cc⟩,⟨fa,aX,fc⟩,⟨la,ln,lc⟩,⟨ba,b_n,bc⟩⟩ b _ (HM.out.keep iX (aC _)) HB.out).mono ?_
     rintro e U2 ⟨⟨⟨da,dn,dc⟩,⟨ea,e_n,ec⟩,⟨ma,mn,mc⟩,⟨na,jB,nc⟩⟩,GD,C,rfl,ho,hC,hb4⟩
     have HO:=ah ho
     have HC:=ah hC
     have jd:=ah hb4
     have hk2:=aj L_.out hb4 (by omega)
     have hk3:=aj Ma.out hb4 (by omega)
     obtain⟨r0,r1,r2,r3,_⟩:=ay hk2
     have f0:=aA hk2 0
     have f1:=aA hk2 1
     have f2:=aA hk2 2
     have f3:=aA hk2 3
     obtain⟨q0,q1,q2,q3,q4,q5,q6,_⟩:=aB hk3
     have f4:=ak hk3 0
     have f5:=ak hk3 1
     have f6:=ak hk3 2
     have f7:=ak hk3 3
     have f8:=ak hk3 4
     have f9:=ak hk3 5
     have f10:=ak hk3 6
     clear hb4 hk2 hk3 ho hC d0 d1 d2 d3
     go_wp2
     refine bodyPost_ret (v:=.tuple #[.agg #[.slice da dn dc,.slice ea e_n ec,.slice ma mn mc,.slice na jB nc],.agg #[.int .i64 0,.int .i64 0,.int .i64 0,.int .i64 0,.slice none 0 0,.slice none 0 0,.slice none 0 0],.int .i64 7]) (by simp[results,Tryz.results25,go_sem, *]) rfl (show mG _ _ _ _ from ?_)
     rw[eO.out]
     exact l8 (x:=⟨⟨da,dn,dc⟩,⟨ea,e_n,ec⟩,⟨ma,mn,mc⟩,⟨na,jB,nc⟩⟩) (p:=w.heap.size+2) rV.out jd.out HO.out HC.out (by omega) (by omega) _ _ _ _ _ _ _
    | false=>
    have hno:=WK.out (by first | rfl | trivial)
    clear WK
    obtain⟨U4,hU4⟩:∃U4,U4=U3:=⟨_,rfl⟩
    subst hU4
    have BK:=ah hno
    have rJ:=ah (Jy.out.keep hb3)
    have hA4:=aj HA.out hb3 wK
    have hD4:D≤U4.heap.size:=by have:=hb3.size;omega
    clear n0 n1 n2 n3 hno hb3 HVT hW2 HA Jy
    obtain⟨n0,n1,n2,n3,_⟩:=ay hA4
    clear hA4
    go_wp2_with fail
    refine(Ko W1.heap.size D pb pl W1 U4 x b' xs y l' ⟨wk,wu,wd,wi⟩ rJ.out hD4 (HN.out.wtB (by omega) tX.out.nc tX.out.nf)).mono ?_
    rintro e U5 ⟨rfl,hb5,hok⟩
    have oP:=ah hok
    clear hok n0 n1 n2 n3
    obtain⟨en,hen⟩:∃en,dB b' ⟨wk,wu,wd,wi⟩=en:=⟨_,rfl⟩
    rw[hen]
    have WL:=ah hen
    clear hen
    by_cases hz:en=0
    ·subst hz
     obtain⟨x2,y2,WM⟩:=oP.out WL.out
     obtain⟨D2,hG5,hD5⟩:=WM.aa9
     have HL:Hid (L9 W1 b (newL dev ep un) ws pb pl xs (k+1) U5):=ah ⟨D2,_,_,x2,y2,by rw[sQ.out,qD BK.out WL.out,Kr.out],HN.out.step WL.out,hG5,hD5⟩
     clear hG5 hb5 WM hD5
     go_wp2
     go_roundw
     case rel=>exact⟨k+1,by omega,by go_num,HL.out⟩
     case measure=>simp[intOf];omega
    ·have hz1:(en==0)=false:=by simpa using hz
     have hz2:(en != 0)=true:=by simpa using hz
     have abh:Hid ((bD b (newL dev ep un) [] ws).2.2=en):=by show _=_;rw[sQ.out,lZ BK.out (by rw[WL.out];exact hz),WL.out]
     have eO:=ah (xB YA.out HQ.out abh.out hz)
     obtain⟨d0,d1,d2,d3,_⟩:=ay (aj K0.out hb5 (by omega))
     have hsz:=(hb5).size
     have rV:=ah (dV.out.trans ((hb5).mono dV.out.size))
     have L_:=ah (aj K2.out hb5 (by omega))
     have Ma:=ah (aj K3.out hb5 (by omega))
     go_wp2_with fail
     refine(h_ ⟨⟨ca,cn,cc⟩,⟨fa,aX,fc⟩,⟨la,ln,lc⟩,⟨ba,b_n,bc⟩⟩ b _ (HM.out.keep hb5 (aC _)) HB.out).mono ?_
     rintro e U2 ⟨⟨⟨da,dn,dc⟩,⟨ea,e_n,ec⟩,⟨ma,mn,mc⟩,⟨na,jB,nc⟩⟩,GD,C,rfl,ho,hC,hb4⟩
     have HO:=ah ho
     have HC:=ah hC
     have jd:=ah hb4
     have hk2:=aj L_.out hb4 (by omega)
     have hk3:=aj Ma.out hb4 (by omega)
     obtain⟨r0,r1,r2,r3,_⟩:=ay hk2
     have f0:=aA hk2 0
     have f1:=aA hk2 1
     have f2:=aA hk2 2
     have f3:=aA hk2 3
     obtain⟨q0,q1,q2,q3,q4,q5,q6,_⟩:=aB hk3
     have f4:=ak hk3 0
     have f5:=ak hk3 1
     have f6:=ak hk3 2
     have f7:=ak hk3 3
     have f8:=ak hk3 4
     have f9:=ak hk3 5
     have f10:=ak hk3 6
     clear hb4 hk2 hk3 ho hC d0 d1 d2 d3
     go_wp2
     refine bodyPost_ret (v:=.tuple #[.agg #[.slice da dn dc,.slice ea e_n ec,.slice ma mn mc,.slice na jB nc],.agg #[.int .i64 0,.int .i64 0,.int .i64 0,.int .i64 0,.slice none 0 0,.slice none 0 0,.slice none 0 0],.int .i64 en]) (by simp[results,Tryz.results25,go_sem, *]) rfl (show mG _ _ _ _ from ?_)
     rw[eO.out]
     exact l8 (x:=⟨⟨da,dn,dc⟩,⟨ea,e_n,ec⟩,⟨ma,mn,mc⟩,⟨na,jB,nc⟩⟩) (p:=w.heap.size+2) rV.out jd.out HO.out HC.out (by omega) (by omega) _ _ _ _ _ _ _
   ·have:k=ws.length:=by omega
    subst this
    have xI:Hid (bD b (newL dev ep un) [] ws=(b',l',0)):=by show _=_;rw[sQ.out,List.drop_length];rfl
    have eO:=ah (Ik YA.out HQ.out xI.out)
    have R5:Hid (l'.dev=dev):=ah HN.out.dev
    have hnl:b'.ls.length<10000:=by rw[HN.out.ls];exact tX.out.nl
    have Z8:(b'.ls.length:Int)<10000:=by omega
    have X9:Hid (zN ⟨b'.cs,b'.free,b'.ls.take (mF dev b'.ls)++l'::b'.ls.drop (mF dev b'.ls),b'.bound⟩):=ah (Jk HN.out tX.out hk h5)
    have pI:Hid (wJ l'):=ah (Ag HN.out tX.out h5)
    clear sQ xI
    obtain⟨WA,RD⟩:∃WA,WA=wr:=⟨_,rfl⟩
    subst RD
    obtain⟨⟨c1,c2,c3⟩,⟨g1,g2,g3⟩,⟨l1,l2,l3⟩,⟨b1,b2,b3⟩⟩:=x
    obtain⟨y1,y2,y3,y4,⟨y5,y6,y7⟩,⟨y8,y9,bW⟩,⟨bX,cB,y13⟩⟩:=y
    obtain⟨hl2,hl3,hl4⟩:=j5.out.UW
    simp only at hl2 hl3 hl4
    subst hl2
    have vH:=j5.out.Ie
    have CO:=j5.out.szl
    go_upto_block 3 with fail
    go_cut[19] (fun v19 wx=>v19= .int .i64 (mF dev b'.ls)∧Below WA.heap.size WA wx)
    case first=>
     go_wp2
     go_loopw[19] (fun v19 wx=>∃j:Nat,j≤b'.ls.length∧v19= .int .i64 j∧Hid (∀i (hi:i<b'.ls.length),i<j→b'.ls[i].dev<dev)∧Below WA.heap.size WA wx) (fun v19 _=>b'.ls.length-(intOf v19).toNat)
     case atStart=>exact⟨0,Nat.zero_le _,rfl,ah (fun i hi h=>absurd h (by omega)),aL _ _⟩
     case round=>
      obtain⟨j,hj,rfl,hall,hbq⟩:=hrel
      have E8:=ah hall
      clear hall
      have e0:wr.cell? ⟨w.heap.size+1,0,none⟩=some (.int .i64 dev):=by
       have:=aj K1.out ((j5.out.keep hbq).aZ) (by omega)
       simp[World.cell?,this]
      obtain⟨d0,d1,d2,d3,_⟩:=ay (aj j5.out.kb hbq vH)
      simp only[Sv.v]at d0 d1 d2 d3
      by_cases hjl:j<b'.ls.length
      ·obtain⟨g,cap',hxl,_,_,_,hc⟩:=(j5.out.keep hbq).QW j hjl
       injection hxl with hx1 hx2 hx3
       subst hx1 hx3
       have uF:(j:Int)<b'.ls.length:=by omega
       have rF:Hid (b'.ls[j].dev<dev→ ∀i (hi:i<b'.ls.length),i<j+1→b'.ls[i].dev<dev):=ah (fun hd i hi hij=>by
        by_cases e:i=j
        ·subst e;exact hd
        ·exact E8.out i hi (by omega))
       have abj:Hid (¬b'.ls[j].dev<dev→mF dev b'.ls=j):=ah (fun hd=>vQ hj E8.out (fun _=>hd))
       generalize b'.ls[j].dev=dj at*
       by_cases hd:dj<dev
       ·have HS:=ah (rF.out hd)
        have hd1:decide (dj<dev)=true:=by simpa using hd
        clear hx2
        go_wp2_with fail
        go_quiet (fail)
        go_wp2
        go_roundw
        case rel=>exact⟨j+1,by omega,by go_num,ah HS.out,below_drewN hbq _⟩
        case measure=>simp[intOf];omega
       ·have HS:=ah (abj.out hd)
        have hd1:decide (dj<dev)=false:=by simpa using hd
        clear hx2
        go_wp2_with fail
        go_quiet (fail)
        go_wp2
        go_meet
        exact⟨by rw[HS.out],below_drewN hbq _⟩
      ·have:j=b'.ls.length:=by omega
       subst this
       have HS:Hid (mF dev b'.ls=b'.ls.length):=ah (vQ (aC _) E8.out (fun h=>absurd h (by omega)))
       go_wp2_with fail
       go_quiet (fail)
       go_wp2
       go_meet
       exact⟨by rw[HS.out],below_drewN hbq _⟩
    case rest=>
    obtain⟨rfl,hb6⟩:=hcut
    obtain⟨W6,UM⟩:∃W6,W6=wc:=⟨_,rfl⟩
    subst UM
    have DC:=ah (j5.out.keep hb6)
    have hik:=Gf dev b'.ls
    have WO:Hid (og l' b'.ls=b'.ls.take (mF dev b'.ls)++l'::b'.ls.drop (mF dev b'.ls)):=by show _=_;unfold og;rw[R5.out]
    rw[WO.out]at eO
    clear j5 hb6 vH CO WO hbr
    obtain⟨kk,hkk⟩:∃kk,mF dev b'.ls=kk:=⟨_,rfl⟩
    rw[hkk]at eO X9 hik⊢
    clear hkk
    have vH:=DC.out.Ie
    have CO:=DC.out.szl
    have abk:=DC.out.aZ.size
    have S0:W6.drew.heap[pb]? =some (.cells #[.slice c1 c2 c3,.slice g1 g2 g3,.slice l1 b'.ls.length l3,.slice b1 b2 b3] 30 (0,0))∧W6.drew.heap[pl]? =some (.cells #[.int .i64 y1,.int .i64 y2,.int .i64 y3,.int .i64 y4,.slice y5 y6 y7,.slice y8 y9 bW,.slice bX cB y13] 48 (0,0)):=⟨DC.out.drew.kb,DC.out.drew.kl⟩
    go_upto_region 19 with fail
    refine aS 8 (fun w'=>w'.heap[pb]? =some (.cells #[.slice c1 c2 c3,.slice g1 g2 g3,.slice l1 b'.ls.length l3,.slice b1 b2 b3] 30 (0,0))∧w'.heap[pl]? =some (.cells #[.int .i64 y1,.int .i64 y2,.int .i64 y3,.int .i64 y4,.slice y5 y6 y7,.slice y8 y9 bW,.slice bX cB y13] 48 (0,0))) (by kernel_rfl) ?_
    refine aD (i:=0) (v:=.pointer (some ⟨pb,2,none⟩)) rfl rfl (by kernel_rfl) (by kernel_rfl) (by kernel_rfl) (by kernel_rfl) (by kernel_rfl) (by decide) (fun _ _ _ h=>h) (.inl ⟨rfl,fun w' hw=>?_⟩) S0 ?_
    ·go_simp
    refine aD (i:=1) (v:=.slice l1 b'.ls.length l3) rfl rfl (by kernel_rfl) (by kernel_rfl) (by kernel_rfl) (by kernel_rfl) (by kernel_rfl) (by decide) (fun _ _ _ h=>h) (.inl ⟨rfl,fun w' hw=>?_⟩) S0 ?_
    ·obtain⟨d0,d1,d2,d3,_⟩:=ay hw.1
     go_simp
    refine aD (i:=2) (v:=.int .i64 kk) rfl rfl (by kernel_rfl) (by kernel_rfl) (by kernel_rfl) (by kernel_rfl) (by kernel_rfl) (by decide) (fun _ _ _ h=>h) (.inl ⟨rfl,fun w' hw=>?_⟩) S0 ?_
    ·go_simp
    refine aD (i:=3) (v:=.agg #[.int .i64 y1,.int .i64 y2,.int .i64 y3,.int .i64 y4,.slice y5 y6 y7,.slice y8 y9 bW,.slice bX cB y13]) rfl rfl (by kernel_rfl) (by kernel_rfl) (by kernel_rfl) (by kernel_rfl) (by kernel_rfl) (by decide) (fun _ _ _ h=>h) (.inl ⟨rfl,fun w' hw=>?_⟩) S0 ?_
    ·obtain⟨d0,d1,d2,d3,d4,d5,d6,_⟩:=aB hw.2
     go_simp
    clear S0
    refine aF (i:=4) (by kernel_rfl) rfl rfl ?_
    go_simp
    refine(dZ ⟨y1,y2,y3,y4,⟨y5,y6,y7⟩,⟨y8,y9,bW⟩,⟨bX,cB,y13⟩⟩ l' _ DC.out.drew.lm pI.out).mono ?_
    rintro e w7 ⟨⟨z1,z2,z3,z4,⟨z5,z6,z7⟩,⟨z8,z9,dD⟩,⟨dI,z12,dJ⟩⟩,rfl,hy7,BL⟩
    have WQ:=DC.out.drew.keep BL
    refine⟨⟨WQ.kb,WQ.kl⟩,?_⟩
    refine aF (i:=5) (by kernel_rfl) rfl rfl ?_
    go_simp
    have zZ:(w7.alloc (.cells #[.int .i64 z1,.int .i64 z2,.int .i64 z3,.int .i64 z4,.slice z5 z6 z7,.slice z8 z9 dD,.slice dI z12 dJ] 48)).heap[w7.heap.size]? =some (.cells #[.int .i64 z1,.int .i64 z2,.int .i64 z3,.int .i64 z4,.slice z5 z6 z7,.slice z8 z9 dD,.slice dI z12 dJ] 48 (0,0)):=heap_alloc_new _ _
    have nE:Below w7.heap.size w7 (w7.alloc (.cells #[.int .i64 z1,.int .i64 z2,.int .i64 z3,.int .i64 z4,.slice z5 z6 z7,.slice z8 z9 dD,.slice dI z12 dJ] 48)):=(aL _ _).alloc (aC _) _
    have hG8:=WQ.keep nE
    have hy8:=(hy7.base (B':=W1.heap.size) abk).keep nE (aC _)
    have Zt:W1.heap.size≤(w7.alloc (.cells #[.int .i64 z1,.int .i64 z2,.int .i64 z3,.int .i64 z4,.slice z5 z6 z7,.slice z8 z9 dD,.slice dI z12 dJ] 48)).heap.size:=hG8.aZ.size
    have WR:Below W6.heap.size W6 (w7.alloc (.cells #[.int .i64 z1,.int .i64 z2,.int .i64 z3,.int .i64 z4,.slice z5 z6 z7,.slice z8 z9 dD,.slice dI z12 dJ] 48)):=((aL W6.heap.size W6).drew.trans BL).trans (nE.mono BL.size)
    have hyb:(Value.slice l1 b'.ls.length l3).ownBlock≠some w7.heap.size:=fun e=>by
     have:=(WQ.rl.lt _ e).2
     omega
    have NK:=ah hG8
    have HY8:=ah hy8
    have yP:=ah zZ
    have Ym:=ah WR
    clear WQ hy7 BL nE hG8 hy8 zZ WR
    refine⟨⟨NK.out.kb,NK.out.kl⟩,?_⟩
    generalize w7.alloc (.cells #[.int .i64 z1,.int .i64 z2,.int .i64 z3,.int .i64 z4,.slice z5 z6 z7,.slice z8 z9 dD,.slice dI z12 dJ] 48)=W8 at*
    refine aF (i:=6) (by kernel_rfl) rfl rfl ?_
    go_simp
    refine(AP _ b'.ls.length kk (aK iZ xs) (iZ ⟨z1,z2,z3,z4,⟨z5,z6,z7⟩,⟨z8,z9,dD⟩,⟨dI,z12,dJ⟩⟩) W8 W1.heap.size w7.heap.size NK.out.rl (eZ vL _) (vL _) rfl (by omega) hik Zt yP.out hyb).mono ?_
    rintro e w9 ⟨v',rfl,wO,Gm,A_⟩
    obtain⟨jl,cap',rfl,_,_⟩:=aP wO
    obtain⟨i1,i2,i3,i4,i5,i6,i7⟩:=Gr.ins (v':=⟨jl,_,cap'⟩) DC.out Ym.out HY8.out wO Gm hik A_
    have HI1:=ah i1
    have HI2:=ah i2
    have HI3:=ah i3
    have HI4:=ah i4
    have T_:=ah i5
    obtain⟨d0,d1,d2,d3,iN⟩:=ay i6
    clear iN
    have f2:=aA i6 2
    simp only[Sv.v]at d0 d1 d2 d3
    refine⟨⟨i6,i7⟩,?_⟩
    clear i1 i2 i3 i4 i5 wO Gm A_
    simp only[Sv.v]at i6 i7
    refine aF (i:=7) (by kernel_rfl) rfl rfl ?_
    go_simp
    clear i6 i7
    refine aF (i:=8) (by kernel_rfl) rfl rfl ?_
    go_simp
    refine aT (by kernel_rfl) ?_
    clear d0 d1 d2 d3 f2
    simp only[Sv.v]at HI1 HI2 HI3 HI4 T_
    generalize w9.setCell ⟨pb,2,none⟩ (.slice jl (b'.ls.length+1) cap')=qI at*
    go_upto_region 20 with fail
    have adl:=T_.out.size
    have S0:qI.drew.heap[pb]? =some (.cells #[.slice c1 c2 c3,.slice g1 g2 g3,.slice jl (b'.ls.length+1) cap',.slice b1 b2 b3] 30 (0,0))∧qI.drew.heap[pl]? =some (.cells #[.int .i64 y1,.int .i64 y2,.int .i64 y3,.int .i64 y4,.slice y5 y6 y7,.slice y8 y9 bW,.slice bX cB y13] 48 (0,0)):=⟨HI3.out,HI4.out⟩
    have Mc:pb<qI.heap.size:=(bg HI3.out).1
    have Md:pl<qI.heap.size:=(bg HI4.out).1
    refine aS 5 (fun w'=>w'.heap[pb]? =some (.cells #[.slice c1 c2 c3,.slice g1 g2 g3,.slice jl (b'.ls.length+1) cap',.slice b1 b2 b3] 30 (0,0))∧w'.heap[pl]? =some (.cells #[.int .i64 y1,.int .i64 y2,.int .i64 y3,.int .i64 y4,.slice y5 y6 y7,.slice y8 y9 bW,.slice bX cB y13] 48 (0,0))) (by kernel_rfl) ?_
    refine aD (i:=0) (v:=.agg #[.slice c1 c2 c3,.slice g1 g2 g3,.slice jl (b'.ls.length+1) cap',.slice b1 b2 b3]) rfl rfl (by kernel_rfl) (by kernel_rfl) (by kernel_rfl) (by kernel_rfl) (by kernel_rfl) (by decide) (fun _ _ _ h=>h) (.inl ⟨rfl,fun w' hw=>?_⟩) S0 ?_
    ·obtain⟨d0,d1,d2,d3,_⟩:=ay hw.1
     go_simp
    refine aD (i:=2) (v:=.agg #[.int .i64 y1,.int .i64 y2,.int .i64 y3,.int .i64 y4,.slice y5 y6 y7,.slice y8 y9 bW,.slice bX cB y13]) rfl rfl (by kernel_rfl) (by kernel_rfl) (by kernel_rfl) (by kernel_rfl) (by kernel_rfl) (by decide) (fun _ _ _ h=>h) (.inl ⟨rfl,fun w' hw=>?_⟩) S0 ?_
    ·obtain⟨d0,d1,d2,d3,d4,d5,d6,_⟩:=aB hw.2
     go_simp
    clear S0
    have hbd:Below qI.heap.size qI qI.drew:=(aL _ _).drew
    refine aF (i:=1) (by kernel_rfl) rfl rfl ?_
    go_simp
    refine(h_ ⟨⟨c1,c2,c3⟩,⟨g1,g2,g3⟩,⟨jl,b'.ls.length+1,cap'⟩,⟨b1,b2,b3⟩⟩ _ _ (HI1.out.keep hbd (aC _)) X9.out).mono ?_
    rintro e U2 ⟨⟨⟨da,dn,dc⟩,⟨ea,e_n,ec⟩,⟨ma,mn,mc⟩,⟨na,jB,nc⟩⟩,GD,C,rfl,ho,hC,ou⟩
    have iK:=hbd.trans ou
    refine⟨⟨aj HI3.out iK Mc,aj HI4.out iK Md⟩,?_⟩
    refine aF (i:=3) (by kernel_rfl) rfl rfl ?_
    go_simp
    refine(dZ ⟨y1,y2,y3,y4,⟨y5,y6,y7⟩,⟨y8,y9,bW⟩,⟨bX,cB,y13⟩⟩ l' _ (HI2.out.keep iK (aC _)) pI.out).mono ?_
    rintro e U3 ⟨⟨z1,z2,z3,z4,⟨z5,z6,z7⟩,⟨z8,z9,dD⟩,⟨dI,z12,dJ⟩⟩,rfl,WS,Fx⟩
    have uW:=iK.trans (Fx.mono iK.size)
    refine⟨⟨aj HI3.out uW Mc,aj HI4.out uW Md⟩,?_⟩
    have WT:=(dV.out.trans (T_.out.mono dV.out.size)).trans (uW.mono (by omega))
    have Me:=T_.out.trans (uW.mono T_.out.size)
    have hk2:=aj K2.out Me (by omega)
    have hk3:=aj K3.out Me (by omega)
    have WU:=ah (dV.out.trans (T_.out.mono dV.out.size))
    have abm:=ah uW
    have abn:=ah (ho.keep Fx)
    have abo:=ah hC
    have abp:=ah (WS.base (B':=qI.heap.size) iK.size)
    have Oy:=(bF U3 (w.heap.size+2) (w.heap.size+3) (by omega) (.slice da dn dc) (.slice ea e_n ec) (.slice ma mn mc) (.slice na jB nc) 0 1 2 3).trans hk3
    have s1:=(bF U3 (w.heap.size+2) pb (by omega) (.slice da dn dc) (.slice ea e_n ec) (.slice ma mn mc) (.slice na jB nc) 0 1 2 3).trans (aj HI3.out uW Mc)
    have s2:=(bF U3 (w.heap.size+2) pl (by omega) (.slice da dn dc) (.slice ea e_n ec) (.slice ma mn mc) (.slice na jB nc) 0 1 2 3).trans (aj HI4.out uW Md)
    obtain⟨r0,r1,r2,r3,_⟩:=ay hk2
    have f0:=aA hk2 0
    have f1:=aA hk2 1
    have f2:=aA hk2 2
    have f3:=aA hk2 3
    have Fw:=ah s1
    have HS2:=ah s2
    have BH:=ah (gq hk2 (.slice da dn dc) (.slice ea e_n ec) (.slice ma mn mc) (.slice na jB nc))
    have qZ:=ah Oy
    clear s1 s2 hk2 hk3 Oy WT Me uW Fx ou iK ho hC WS hbd
    refine aF (i:=4) (by kernel_rfl) rfl rfl ?_
    go_simp
    refine⟨⟨Fw.out,HS2.out⟩,?_⟩
    clear r0 r1 r2 r3 f0 f1 f2 f3
    obtain⟨q0,q1,q2,q3,q4,q5,q6,_⟩:=aB qZ.out
    have f4:=ak qZ.out 0
    have f5:=ak qZ.out 1
    have f6:=ak qZ.out 2
    have f7:=ak qZ.out 3
    have f8:=ak qZ.out 4
    have f9:=ak qZ.out 5
    have f10:=ak qZ.out 6
    obtain⟨r0,r1,r2,r3,_⟩:=ay BH.out
    have hfin:=DN (n:=0) (x:=⟨⟨da,dn,dc⟩,⟨ea,e_n,ec⟩,⟨ma,mn,mc⟩,⟨na,jB,nc⟩⟩) (y:=⟨z1,z2,z3,z4,⟨z5,z6,z7⟩,⟨z8,z9,dD⟩,⟨dI,z12,dJ⟩⟩) (p:=w.heap.size+2) WU.out abm.out abn.out abo.out abp.out (by omega) (by omega)
    simp only[Sv.v]at hfin
    have qF:=ah hfin
    clear hfin
    generalize (((U3.setCell ⟨w.heap.size+2,0,none⟩ (.slice da dn dc)).setCell ⟨w.heap.size+2,1,none⟩ (.slice ea e_n ec)).setCell ⟨w.heap.size+2,2,none⟩ (.slice ma mn mc)).setCell ⟨w.heap.size+2,3,none⟩ (.slice na jB nc)=U4 at*
    refine aF (i:=5) (by kernel_rfl) rfl rfl ?_
    go_simp
    refine aF (i:=6) (by kernel_rfl) rfl rfl ?_
    go_simp
    refine aT (by kernel_rfl) ?_
    go_wp2
    refine bodyPost_ret (v:=.tuple #[.agg #[.slice da dn dc,.slice ea e_n ec,.slice ma mn mc,.slice na jB nc],.agg #[.int .i64 z1,.int .i64 z2,.int .i64 z3,.int .i64 z4,.slice z5 z6 z7,.slice z8 z9 dD,.slice dI z12 dJ],.int .i64 0]) (by simp[results,Tryz.results25,go_sem, *]) rfl (show mG _ _ _ _ from ?_)
    rw[eO.out]
    exact qF.out
end Go.Proofs.YtlfopoimbbpfdaaGreat
