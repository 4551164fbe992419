/- What the law asks, in parts: LGi. -/
import Derived.Test.YtlfopoimbbpfdaaGreatPk11
import Derived.Test.YtlfopoimbbpfdaaGreatPk1
import Derived.Test.YtlfopoimbbpfdaaGreatPk25
set_option linter.all false
set_option maxRecDepth 100000
set_option maxHeartbeats 16000000
namespace Go.Proofs.YtlfopoimbbpfdaaGreat
open Go.RowKit
structure OwT where
 x:dN
 xs:List cB
 C:Nat
abbrev Xr:Obj:=.cells #[.slice none 0 0,.slice none 0 0,.slice none 0 0,.slice none 0 0] 30
abbrev Xt:Obj:=.cells #[.int .i64 0,.int .i64 0,.int .i64 0,.int .i64 0,.slice none 0 0,.slice none 0 0,.slice none 0 0] 48
structure zm (W1:World) (b:Bk) (V:World) (o:Option OwT) (p q:Option Nat):Prop where
 bC:Below W1.heap.size W1 V
 own:∀t,o=some t→uI V W1.heap.size t.C t.x b t.xs∧W1.heap.size≤t.C
 pb:∀g,p=some g→V.heap[g]? =some Xr∧W1.heap.size≤g
 pl:∀g,q=some g→V.heap[g]? =some Xt∧W1.heap.size≤g∧ ∀t,o=some t→t.x.l.v.ownBlock≠some g
section
variable {W1 V V':World} {b:Bk} {o:Option OwT} {p q:Option Nat}
theorem zm.keep (h:zm W1 b V o p q) (hb:Below V.heap.size V V'):zm W1 b V' o p q:=
 ⟨h.bC.trans (hb.mono h.bC.size),fun t ht=>⟨(h.own t ht).1.keep hb,(h.own t ht).2⟩,fun g hg=>⟨aj (h.pb g hg).1 hb (bq (h.pb g hg).1).1,(h.pb g hg).2⟩,
  fun g hg=>⟨aj (h.pl g hg).1 hb (bq (h.pl g hg).1).1,(h.pl g hg).2⟩⟩
theorem zm.mk0 (h:Below W1.heap.size W1 V):zm W1 b V none none none:=⟨h,(fun _ h=>by cases h),(fun _ h=>by cases h),(fun _ h=>by cases h)⟩
theorem zm.QM (h:zm W1 b V none p q) {C:Nat} {x:dN} {xs:List cB} (ho:uI V' V.heap.size C x b xs) (hC:V.heap.size≤C) (hb:Below V.heap.size V V'):zm W1 b V' (some ⟨x,xs,C⟩) p q:=by
 have h':=h.keep hb;refine⟨h'.bC,fun t ht=>?_,h'.pb,fun g hg=>⟨(h'.pl g hg).1,(h'.pl g hg).2.1,fun t ht e=>?_⟩⟩
 ·injection ht with ht;subst ht;exact⟨ho.base h.bC.size,Nat.le_trans h.bC.size hC⟩
 ·injection ht with ht
  subst ht;have h1:=bQ ho.rl g e;have h2:=(bq (h.pl g hg).1).1;omega
theorem zm.QN (h:zm W1 b V o none q):zm W1 b (V.alloc Xr) o (some V.heap.size) q:=by
 have h':=h.keep ((aL _ _).alloc (aC _) Xr);exact⟨h'.bC,h'.own,fun g hg=>by injection hg with hg;subst hg;exact⟨heap_alloc_new _ _,h.bC.size⟩,h'.pl⟩
theorem zm.QO (h:zm W1 b V o p none):zm W1 b (V.alloc Xt) o p (some V.heap.size):=by
 have h':=h.keep ((aL _ _).alloc (aC _) Xt);refine⟨h'.bC,h'.own,h'.pb,fun g hg=>?_⟩;injection hg with hg;subst hg;refine⟨heap_alloc_new _ _,h.bC.size,fun t ht e=>?_⟩;have:=((h.own t ht).1.rl.lt _ e).2;omega
theorem zm.ne {pb pl:Nat} (h:zm W1 b V o (some pb) (some pl)):¬pb=pl∧ ¬pl=pb:=by
 have k1:=(h.pb pb rfl).1;have k2:=(h.pl pl rfl).1
 have eP:¬pb=pl:=fun e=>by
  rw[e,k2]at k1;injection k1 with k1;injection k1 with _ k1 _;exact absurd k1 (by decide)
 exact⟨eP,fun e=>eP e.symm⟩
theorem zm.gr {x:dN} {xs:List cB} {C pb pl:Nat} (h:zm W1 b V (some ⟨x,xs,C⟩) (some pb) (some pl)) (d ep un:Int):
  Gr W1.heap.size V.heap.size pb pl W1 (((((((((((V.setCell ⟨pb,0,none⟩ x.c.v).setCell ⟨pb,1,none⟩ x.f.v).setCell ⟨pb,2,none⟩ x.l.v).setCell ⟨pb,3,none⟩ x.b.v).setCell ⟨pl,0,none⟩ (.int .i64 d)).setCell ⟨pl,1,none⟩ (.int .i64 ep)).setCell ⟨pl,2,none⟩ (.int .i64 un)).setCell ⟨pl,3,none⟩ (.int .i64 (-1))).setCell ⟨pl,4,none⟩ (.slice none 0 0)).setCell ⟨pl,5,none⟩ (.slice none 0 0)).setCell ⟨pl,6,none⟩ (.slice none 0 0))
   x b xs ⟨d,ep,un,-1,⟨none,0,0⟩,⟨none,0,0⟩,⟨none,0,0⟩⟩ (newL d ep un):=by
 obtain⟨k1,g1⟩:=h.pb pb rfl;obtain⟨k2,g2,g3⟩:=h.pl pl rfl;have g4:=g3 _ rfl;obtain⟨ho,hCC⟩:=h.own _ rfl;simp only at ho g4 hCC
 have eP:pb≠pl:=fun e=>by
  rw[e,k2]at k1;injection k1 with k1;injection k1 with _ k1 _;exact absurd k1 (by decide)
 have a1:=ku k1 x.c.v x.f.v x.l.v x.b.v;have o1:∀c,c≠pb→((((V.setCell ⟨pb,0,none⟩ x.c.v).setCell ⟨pb,1,none⟩ x.f.v).setCell ⟨pb,2,none⟩ x.l.v).setCell ⟨pb,3,none⟩ x.b.v).heap[c]? =V.heap[c]? :=fun c hc=>bM V pb c (fun e=>hc e.symm) _ _ _ _ 0 1 2 3
 have b1:=(((h.bC.setCell (p:=⟨pb,0,none⟩) g1 x.c.v).setCell (p:=⟨pb,1,none⟩) g1 x.f.v).setCell (p:=⟨pb,2,none⟩) g1 x.l.v).setCell (p:=⟨pb,3,none⟩) g1 x.b.v;have z1:((((V.setCell ⟨pb,0,none⟩ x.c.v).setCell ⟨pb,1,none⟩ x.f.v).setCell ⟨pb,2,none⟩ x.l.v).setCell ⟨pb,3,none⟩ x.b.v).heap.size=V.heap.size:=jA _ _ _ _ _ _ _ _ _;rw[←z1]
 have hlow:∀z∈xs,∀g,z.s.v.ownBlock=some g→g<V.heap.size:=fun z hz g hg=>by
  obtain⟨i,hi,hzi⟩:=List.getElem_of_mem hz;have:=bN.at ho.each i hi (by rw[←ho.each.len];exact hi);rw[hzi]at this;exact(this.s.lt g hg).2
 have KX:=h.bC.size;have rc:=aF ho.rc o1 k1 (by decide);have rf:=aF ho.rf o1 k1 (by decide);have rl:=aF ho.rl o1 k1 (by decide);have rb:=aF ho.rb o1 k1 (by decide);have re:=ho.each.imp (fun _ _ r=>jF.other (jF.base r hCC) o1 k1 (by decide) (by decide) (by decide));have k2':=(o1 pl (fun e=>eP e.symm)).trans k2;generalize ((((V.setCell ⟨pb,0,none⟩ x.c.v).setCell ⟨pb,1,none⟩ x.f.v).setCell ⟨pb,2,none⟩ x.l.v).setCell ⟨pb,3,none⟩ x.b.v)=V5 at*;have a2:=qy k2' (.int .i64 d) (.int .i64 ep) (.int .i64 un) (.int .i64 (-1)) (.slice none 0 0) (.slice none 0 0) (.slice none 0 0)
 have o2:∀c,c≠pl→(((((((V5.setCell ⟨pl,0,none⟩ (.int .i64 d)).setCell ⟨pl,1,none⟩ (.int .i64 ep)).setCell ⟨pl,2,none⟩ (.int .i64 un)).setCell ⟨pl,3,none⟩ (.int .i64 (-1))).setCell ⟨pl,4,none⟩ (.slice none 0 0)).setCell ⟨pl,5,none⟩ (.slice none 0 0)).setCell ⟨pl,6,none⟩ (.slice none 0 0)).heap[c]? =V5.heap[c]? :=fun c hc=>by
  have:=om V5 pl c hc 0 (.int .i64 d) (.int .i64 ep) (.int .i64 un) (.int .i64 (-1)) (.slice none 0 0) (.slice none 0 0) (.slice none 0 0);simpa using this
 have b2:=((((((b1.setCell (p:=⟨pl,0,none⟩) g2 (.int .i64 d)).setCell (p:=⟨pl,1,none⟩) g2 (.int .i64 ep)).setCell (p:=⟨pl,2,none⟩) g2 (.int .i64 un)).setCell (p:=⟨pl,3,none⟩) g2 (.int .i64 (-1))).setCell (p:=⟨pl,4,none⟩) g2 (.slice none 0 0)).setCell (p:=⟨pl,5,none⟩) g2 (.slice none 0 0)).setCell (p:=⟨pl,6,none⟩) g2 (.slice none 0 0)
 exact⟨b2,(o2 pb eP).trans a1,a2,g1,g2,by omega,aF rc o2 k2' (by decide),aF rf o2 k2' (by decide),gT rl o2 g4,aF rb o2 k2' (by decide),
  re.imp (fun _ _ r=>jF.other r o2 k2' (by decide) (by decide) (by decide)),fun z hz g hg=>by rw[z1];exact hlow z hz g hg,g4,rfl,rfl,rfl,rfl,World.ownsRow_nil _ _ _ _,World.ownsRow_nil _ _ _ _,rfl,rfl⟩
end
theorem qH {P:Program} {ops:Array Oper} {Q:Exit→Act→World→Prop} {md:Region.Mode} {S:World→Prop} {s n:Nat} {l:Array Bool} {a:Act} {w:World} {F:World→Prop} (hF:F w) (h:∀V,F V→iV P md ops Q S s n l a V):iV P md ops Q S s n l a w:=h w hF
theorem xu (w:World) (o:Obj):(w.alloc o).heap.size=w.heap.size+1:=by simp
theorem Af (w:World):w.drew.heap.size=w.heap.size:=rfl
def QS (W1:World) (b:Bk) (l:Ls) (ws:List Wn) (pb pl:Nat) (xs:List cB) (k:Nat) (wr:World):Prop:=∃ (D:Nat) (b':Bk) (l':Ls) (x:dN) (y:cB),bI b l [] ws=bI b' l' (ws.take k) (ws.drop k)∧MZ k b l b' l'∧Gr W1.heap.size D pb pl W1 wr x b' xs y l'∧D≤wr.heap.size
theorem Gr.ae4 {B D pb pl:Nat} {w0 W:World} {x:dN} {b:Bk} {xs:List cB} {y:cB} {l:Ls} (h:Gr B D pb pl w0 W x b xs y l):∃D',Gr B D' pb pl w0 W x b xs y l∧D'≤W.heap.size:=by
 refine⟨min D W.heap.size,⟨h.bC,h.kb,h.kl,h.hb,h.hl,?_,h.rc,h.rf,h.rl,h.rb,h.each,fun z hz g hg=>?_,h.SV,h.dev,h.epoch,h.bU,h.last,aN h.ys (Nat.min_le_left _ _),h.yi,h.yu,h.used⟩,Nat.min_le_right _ _⟩
 ·have:=h.hD;have:=h.hb;have:=h.MS;omega
 ·have h1:=h.low z hz g hg
  obtain⟨i,hi,hzi⟩:=List.getElem_of_mem hz;have h2:=bN.at h.each i hi (by rw[←h.each.len];exact hi);rw[hzi]at h2;have:=(h2.s.lt g hg).2;omega
theorem D6 {b b':Bk} {d ep un:Int} {l':Ls} {n:Nat} (h:MZ n b (newL d ep un) b' l') (hg:Px b) (hn:n≤5):Ap l':=by
 have h1:=h.ns;have h2:=h.ni;have h3:=h.used;have:n*b.free.length≤5*b.free.length:=Nat.mul_le_mul_right _ hn;have:=hg.nf;exact⟨by omega,by omega,by rw[h3];simp⟩
theorem NY {b b':Bk} {d ep un:Int} {l':Ls} {n m k:Nat} (h:MZ n b (newL d ep un) b' l') (hg:Px b) (_hk:n≤m) (hn:n≤5):Dl ⟨b'.cs,b'.free,b'.ls.take k++l'::b'.ls.drop k,b'.bound⟩:=by
 have h1:=h.nc;have h2:=h.nf;have h3:=hg.nc;have h4:=hg.nf;have h5:=hg.nl;have h6:=hg.nb;refine⟨by simp only;omega,by simp only;omega,?_,by simp only;rw[h.bound];omega,fun x hx=>?_⟩
 ·simp only[List.length_append,List.length_take,List.length_cons,List.length_drop];rw[h.ls];omega
 ·simp only[List.mem_append,List.mem_cons]at hx
  rcases hx with hx | rfl | hx
  ·exact hg.ZA.each x (by rw[←h.ls];exact List.mem_of_mem_take hx)
  ·exact D6 h hg hn
  ·exact hg.ZA.each x (by rw[←h.ls];exact List.mem_of_mem_drop hx)
theorem Ig {w U U2:World} {b:Bk} {l:Ls} {x:dN} {y:cB} {xs:List cB} {C p:Nat} {n:Int} (hw:Below w.heap.size w U) (hb:Below U.heap.size U U2) (ho:uI U2 U.heap.size C x b xs) (hC:U.heap.size≤C) (hy:jF U2 U.heap.size y l) (hp:w.heap.size≤p) (Td:p+1<U.heap.size):
  pU w (b,l,n) (.returned (.tuple #[iJ x,o9 y,.int .i64 n])) (((((((((((U2.setCell ⟨p,0,none⟩ x.c.v).setCell ⟨p,1,none⟩ x.f.v).setCell ⟨p,2,none⟩ x.l.v).setCell ⟨p,3,none⟩ x.b.v).setCell ⟨p+1,0,none⟩ (.int .i64 y.dev)).setCell ⟨p+1,1,none⟩ (.int .i64 y.epoch)).setCell ⟨p+1,2,none⟩ (.int .i64 y.bU)).setCell ⟨p+1,3,none⟩ (.int .i64 y.last)).setCell ⟨p+1,4,none⟩ y.s.v).setCell ⟨p+1,5,none⟩ y.i.v).setCell ⟨p+1,6,none⟩ y.u.v):=by
 have h1:=(((ho.put hC ⟨p,0,none⟩ (by simp;omega) x.c.v).put hC ⟨p,1,none⟩ (by simp;omega) x.f.v).put hC ⟨p,2,none⟩ (by simp;omega) x.l.v).put hC ⟨p,3,none⟩ (by simp;omega) x.b.v;have h2:=(((((((h1.put hC ⟨p+1,0,none⟩ (by simp;omega) (.int .i64 y.dev)).put hC ⟨p+1,1,none⟩ (by simp;omega) (.int .i64 y.epoch)).put hC ⟨p+1,2,none⟩ (by simp;omega) (.int .i64 y.bU)).put hC ⟨p+1,3,none⟩ (by simp;omega) (.int .i64 y.last)).put hC ⟨p+1,4,none⟩ (by simp;omega) y.s.v).put hC ⟨p+1,5,none⟩ (by simp;omega) y.i.v).put hC ⟨p+1,6,none⟩ (by simp;omega) y.u.v);have g1:=(((hy.put ⟨p,0,none⟩ (by simp;omega) x.c.v).put ⟨p,1,none⟩ (by simp;omega) x.f.v).put ⟨p,2,none⟩ (by simp;omega) x.l.v).put ⟨p,3,none⟩ (by simp;omega) x.b.v;have g2:=(((((((g1.put ⟨p+1,0,none⟩ (by simp;omega) (.int .i64 y.dev)).put ⟨p+1,1,none⟩ (by simp;omega) (.int .i64 y.epoch)).put ⟨p+1,2,none⟩ (by simp;omega) (.int .i64 y.bU)).put ⟨p+1,3,none⟩ (by simp;omega) (.int .i64 y.last)).put ⟨p+1,4,none⟩ (by simp;omega) y.s.v).put ⟨p+1,5,none⟩ (by simp;omega) y.i.v).put ⟨p+1,6,none⟩ (by simp;omega) y.u.v);refine⟨x,y,xs,C,rfl,h2.base hw.size,Nat.le_trans hw.size hC,g2.base hw.size,?_⟩;have jw:=hw.trans (hb.mono hw.size);exact(((((((((((jw.setCell (by simp;omega) _).setCell (by simp;omega) _).setCell (by simp;omega) _).setCell (by simp;omega) _).setCell (by simp;omega) _).setCell (by simp;omega) _).setCell (by simp;omega) _).setCell (by simp;omega) _).setCell (by simp;omega) _).setCell (by simp;omega) _).setCell (by simp;omega) _)
def ae5 (W1:World) (b:Bk) (l:Ls) (zh FH:Value) (wx:World):Prop:=∃ (pb pl D:Nat) (x':dN) (xs:List cB) (y:cB),zh= .pointer (some ⟨pb,0,none⟩)∧FH= .pointer (some ⟨pl,0,none⟩)∧Gr W1.heap.size D pb pl W1 wx x' b xs y l∧D≤wx.heap.size
theorem J6 (x:dN) (b:Bk) (dev ep un:Int) (v:Value) (ws:List Wn) (w:World) (h:iA w x b) (hG:Px b) (hv:sM w v ws) (hA:nA dev ep un ws.length=true):
  Calls Tryz.prog 25 #[iJ x,.int .i64 dev,.int .i64 ep,.int .i64 un,v] w (pU w (h_ b dev ep un ws)):=by
 obtain⟨⟨ca,cn,cc⟩,⟨fa,bD,fc⟩,⟨la,ln,lc⟩,⟨ba,bE,bc⟩⟩:=x;obtain⟨ao,cap,rfl,dO,qM⟩:=Sl.shape hv;have HAO:=ah hA;unfold nA at hA;simp only[Bool.and_eq_true]at hA;obtain⟨wK,sV,MX,ha4⟩:=hA;have uL:Hid ((decide (0≤dev)&&decide (dev≤5))=true):=ah (by rw[wK.1,wK.2];rfl);have sW:Hid ((decide (1≤ep)&&decide (ep≤1073741824))=true):=ah (by rw[sV.1,sV.2];rfl);have Iy:Hid ((decide (0≤un)&&decide (un≤2199023255552))=true):=ah (by rw[MX.1,MX.2];rfl);have h5:ws.length≤5:=by simpa using ha4
 have h6:(ws.length:Int)≤5:=by omega
 have h7:¬5<ws.length:=by omega
 clear wK sV MX ha4;obtain⟨W1,z_,k0,k1,k2,k3,bB,dX⟩:=Py w (.cells #[.slice ca cn cc,.slice fa bD fc,.slice la ln lc,.slice ba bE bc] 30) (.cells #[.int .i64 dev] 3) (.cells #[.slice none 0 0,.slice none 0 0,.slice none 0 0,.slice none 0 0] 30) (.cells #[.int .i64 0,.int .i64 0,.int .i64 0,.int .i64 0,.slice none 0 0,.slice none 0 0,.slice none 0 0] 48);have HW1:=ah z_;have FE:=ah dX;have hz1':w.heap.size+3<W1.heap.size:=by omega
 have K0:=ah k0;have K1:=ah k1;have K2:=ah k2;have K3:=ah k3;have HM:=ah (h.keep bB (aC _));have HV:=ah (hv.keep bB (aC _));have eY:=ah bB;have HB:=ah hG.ZA;have yj:=ah hG;obtain⟨rX,hx,nR⟩:=HM.out.l;have wE:=ah nR;simp only at hx;clear z_ dX k0 k1 k2 k3 bB h hG hv nR;change Calls Tryz.prog _ #[.agg #[.slice ca cn cc,.slice fa bD fc,.slice la ln lc,.slice ba bE bc],.int .i64 dev,.int .i64 ep,.int .i64 un,.slice ao ws.length cap] w _
 go_enter Tryz.func25,Tryz.ntmps25
 go_upto_region 1 with fail
 rw[HW1.out];obtain⟨d0,d1,d2,d3,_⟩:=ay K0.out;have e0:W1.cell? ⟨w.heap.size+1,0,none⟩=some (.int .i64 dev):=by simp[World.cell?,K1.out]
 go_wp2_with (first
  | ((go_at_call 63;refine(dZ _ _ _ _).mono ?_);(first | rw[uL.out] | rw[sW.out] | rw[Iy.out]);rintro e w9 ⟨rfl,rfl⟩)
  | fail)
 refine(ME _ rX _ _ (fun c=>decide (c.dev=dev)) _ hx (VK e0 rX)).mono ?_;rintro e U ⟨rfl,hU⟩;have aaU:Hid (rX.any (fun c=>decide (c.dev=dev))=b.ls.any (fun l=>decide (l.dev=dev))):=ah (Am wE.out (fun a c r=>by rw[r.dev]));rw[aaU.out];have HU:=ah hU;clear hx wE aaU hU d0 d1 d2 d3 e0;obtain⟨q,hq⟩:∃q,b.ls.any (fun l=>decide (l.dev=dev))=q:=⟨_,rfl⟩;rw[hq];have HQ:=ah hq;clear hq
 cases q with
 | true=>
  have fO:=ah (GI HAO.out HQ.out);obtain⟨d0,d1,d2,d3,_⟩:=ay (aj K0.out HU.out (by omega));have mK:=(HU.out).size;have uN:=ah (eY.out.trans ((HU.out).mono eY.out.size));have QT:=ah (aj K2.out HU.out (by omega));have QU:=ah (aj K3.out HU.out (by omega));go_wp2_with fail
  refine(jy ⟨⟨ca,cn,cc⟩,⟨fa,bD,fc⟩,⟨la,ln,lc⟩,⟨ba,bE,bc⟩⟩ b _ (HM.out.keep HU.out (aC _)) HB.out).mono ?_;rintro e U2 ⟨⟨⟨da,dn,dc⟩,⟨ea,kI,ec⟩,⟨ma,mn,mc⟩,⟨na,kU,nc⟩⟩,LV,C,rfl,ho,hC,bR⟩;have HO:=ah ho;have HC:=ah hC;have lC:=ah bR;have dH:=aj QT.out bR (by omega);have kH:=aj QU.out bR (by omega);obtain⟨r0,r1,r2,r3,_⟩:=ay dH;have f0:=aA dH 0;have f1:=aA dH 1;have f2:=aA dH 2;have f3:=aA dH 3;obtain⟨q0,q1,q2,q3,q4,q5,q6,_⟩:=aB kH;have f4:=ak kH 0;have f5:=ak kH 1;have f6:=ak kH 2;have f7:=ak kH 3;have f8:=ak kH 4;have f9:=ak kH 5;have f10:=ak kH 6;clear bR dH kH ho hC d0 d1 d2 d3;go_wp2;refine bodyPost_ret (v:=.tuple #[.agg #[.slice da dn dc,.slice ea kI ec,.slice ma mn mc,.slice na kU nc],.agg #[.int .i64 0,.int .i64 0,.int .i64 0,.int .i64 0,.slice none 0 0,.slice none 0 0,.slice none 0 0],.int .i64 19]) (by simp[results,Tryz.results25,go_sem, *]) rfl (show pU _ _ _ _ from ?_);rw[fO.out];exact pJ (x:=⟨⟨da,dn,dc⟩,⟨ea,kI,ec⟩,⟨ma,mn,mc⟩,⟨na,kU,nc⟩⟩) (p:=w.heap.size+2) uN.out lC.out HO.out HC.out (by omega) (by omega) _ _ _ _ _ _ _
 | false=>
  have e0:U.cell? ⟨w.heap.size+1,0,none⟩=some (.int .i64 dev):=by
   have:=aj K1.out HU.out (by omega);simp[World.cell?,this]
  obtain⟨d0,d1,d2,d3,_⟩:=ay (aj K0.out HU.out (by omega));go_upto_region 5 with fail
  have HOWN:Hid (∀V,Below W1.heap.size W1 V→Calls Tryz.prog 65 #[.agg #[.slice ca cn cc,.slice fa bD fc,.slice la ln lc,.slice ba bE bc]] V (Ur V b)):=ah (fun V hV=>jy ⟨⟨ca,cn,cc⟩,⟨fa,bD,fc⟩,⟨la,ln,lc⟩,⟨ba,bE,bc⟩⟩ b _ (HM.out.keep hV (aC _)) HB.out)
  have KS:Hid (∀V,Below W1.heap.size W1 V→(Below W1.heap.size W1 V∧V.cell? ⟨w.heap.size,0,none⟩=some (.slice ca cn cc)∧V.cell? ⟨w.heap.size,1,none⟩=some (.slice fa bD fc)∧V.cell? ⟨w.heap.size,2,none⟩=some (.slice la ln lc)∧V.cell? ⟨w.heap.size,3,none⟩=some (.slice ba bE bc)∧V.cell? ⟨w.heap.size+1,0,none⟩=some (.int .i64 dev))):=
   ah (fun V hV=>by
    obtain⟨e0,e1,e2,e3,_⟩:=ay (aj K0.out hV (by omega));have hh:=aj K1.out hV (by omega)
    exact⟨hV,e0,e1,e2,e3,by simp[World.cell?,hh]⟩)
  have hU:=HU.out
  go_cut[13,14] (fun zh FH wx=>ae5 W1 b (newL dev ep un) zh FH wx)
  case first=>
   have aQ:Below W1.heap.size W1 U.drew:=hU.drew;have HS0:Hid (zm W1 b U.drew none none none):=ah (zm.mk0 aQ);clear d0 d1 d2 d3 e0;refine aW 9 (fun w'=>Below W1.heap.size W1 w') (by kernel_rfl) ?_;refine aP (i:=0) (v:=.agg #[.slice ca cn cc,.slice fa bD fc,.slice la ln lc,.slice ba bE bc]) rfl rfl (by kernel_rfl) (fun _ _ _ h=>h) (.inl ⟨rfl,fun w' hw=>?_⟩) aQ ?_
   ·obtain⟨_,d0,d1,d2,d3,_⟩:=KS.out _ hw
    go_simp
   refine aP (i:=2) (v:=.int .i64 dev) rfl rfl (by kernel_rfl) (fun _ _ _ h=>h) (.inl ⟨rfl,fun w' hw=>?_⟩) aQ ?_
   ·obtain⟨_,_,_,_,_,e0⟩:=KS.out _ hw
    go_simp
   refine aP (i:=3) (v:=.int .i64 ep) rfl rfl (by kernel_rfl) (fun _ _ _ h=>h) (.inl ⟨rfl,fun w' hw=>?_⟩) aQ ?_
   ·go_simp
   refine aP (i:=4) (v:=.int .i64 un) rfl rfl (by kernel_rfl) (fun _ _ _ h=>h) (.inl ⟨rfl,fun w' hw=>?_⟩) aQ ?_
   ·go_simp
   refine aP (i:=5) (v:=.agg #[.int .i64 dev,.int .i64 ep,.int .i64 un,.int .i64 (-1),.slice none 0 0,.slice none 0 0,.slice none 0 0]) rfl rfl (by kernel_rfl) (fun _ _ _ h=>h) (.inl ⟨rfl,fun w' hw=>?_⟩) aQ ?_
   ·go_simp
   refine JV (i:=1) (j:=6) (k:=7) (by kernel_rfl) rfl rfl rfl rfl rfl rfl ?_ ?_ ?_
   ·go_simp
    refine(HOWN.out _ HS0.out.bC).mono ?_;rintro en w9 ⟨⟨⟨da,dn,dc⟩,⟨ea,kI,ec⟩,⟨ma,mn,mc⟩,⟨na,kU,nc⟩⟩,LV,C,rfl,ho,hC,bR⟩;have Ih:=ah (HS0.out.QM ho hC bR);clear ho hC bR
    try go_simp
    refine⟨Ih.out.bC,?_⟩;refine iZ (i:=6) (j:=7) (by kernel_rfl) rfl rfl rfl rfl ?_ ?_
    ·go_simp
     have qB:=ah Ih.out.QN;refine⟨qB.out.bC,?_⟩;refine aD (i:=7) (by kernel_rfl) rfl rfl ?_
     ·go_simp
      have Bu:=ah qB.out.QO;refine⟨Bu.out.bC,?_⟩;have hs:=Bu.out;simp only[xu]at hs;refine qH (F:=fun V=>zm W1 b V (some ⟨⟨⟨da,dn,dc⟩,⟨ea,kI,ec⟩,⟨ma,mn,mc⟩,⟨na,kU,nc⟩⟩,LV,C⟩) (some _) (some _)) hs (fun V HV=>?_);have mU:=ah (HV.gr dev ep un);obtain⟨qI,xA⟩:=HV.pb _ rfl;obtain⟨lX,kl2,_⟩:=HV.pl _ rfl;have jU:=HV.bC;obtain⟨Gh,uw⟩:=HV.ne;obtain⟨s0,s1,s2,s3,_⟩:=ay qI;obtain⟨t0,t1,t2,t3,t4,t5,t6,_⟩:=aB lX;have u0:=aA qI 0;have u1:=aA qI 1;have u2:=aA qI 2;have u3:=aA qI 3;have x0:=ak lX 0;have x1:=ak lX 1;have x2:=ak lX 2;have x3:=ak lX 3;have x4:=ak lX 4;have x5:=ak lX 5;have x6:=ak lX 6;clear hs HV Bu qI lX;refine aD (i:=8) (by kernel_rfl) rfl rfl ?_;go_simp;refine⟨(((jU.setCell xA _).setCell xA _).setCell xA _).setCell xA _,?_⟩;refine aD (i:=9) (by kernel_rfl) rfl rfl ?_;go_simp;refine aU (by kernel_rfl) ?_;go_wp2;go_meet;exact⟨_,_,_,_,_,_,rfl,rfl,mU.out,by simp[World.setCell]⟩
    ·go_simp
     have qB:=ah Ih.out.QO;refine⟨qB.out.bC,?_⟩;refine aD (i:=6) (by kernel_rfl) rfl rfl ?_
     ·go_simp
      have Bu:=ah qB.out.QN;refine⟨Bu.out.bC,?_⟩;have hs:=Bu.out;simp only[xu]at hs;refine qH (F:=fun V=>zm W1 b V (some ⟨⟨⟨da,dn,dc⟩,⟨ea,kI,ec⟩,⟨ma,mn,mc⟩,⟨na,kU,nc⟩⟩,LV,C⟩) (some _) (some _)) hs (fun V HV=>?_);have mU:=ah (HV.gr dev ep un);obtain⟨qI,xA⟩:=HV.pb _ rfl;obtain⟨lX,kl2,_⟩:=HV.pl _ rfl;have jU:=HV.bC;obtain⟨Gh,uw⟩:=HV.ne;obtain⟨s0,s1,s2,s3,_⟩:=ay qI;obtain⟨t0,t1,t2,t3,t4,t5,t6,_⟩:=aB lX;have u0:=aA qI 0;have u1:=aA qI 1;have u2:=aA qI 2;have u3:=aA qI 3;have x0:=ak lX 0;have x1:=ak lX 1;have x2:=ak lX 2;have x3:=ak lX 3;have x4:=ak lX 4;have x5:=ak lX 5;have x6:=ak lX 6;clear hs HV Bu qI lX;refine aD (i:=8) (by kernel_rfl) rfl rfl ?_;go_simp;refine⟨(((jU.setCell xA _).setCell xA _).setCell xA _).setCell xA _,?_⟩;refine aD (i:=9) (by kernel_rfl) rfl rfl ?_;go_simp;refine aU (by kernel_rfl) ?_;go_wp2;go_meet;exact⟨_,_,_,_,_,_,rfl,rfl,mU.out,by simp[World.setCell]⟩
   ·go_simp
    have Ih:=ah HS0.out.QN;refine⟨Ih.out.bC,?_⟩;refine iZ (i:=1) (j:=7) (by kernel_rfl) rfl rfl rfl rfl ?_ ?_
    ·go_simp
     refine(HOWN.out _ Ih.out.bC).mono ?_;rintro en w9 ⟨⟨⟨da,dn,dc⟩,⟨ea,kI,ec⟩,⟨ma,mn,mc⟩,⟨na,kU,nc⟩⟩,LV,C,rfl,ho,hC,bR⟩;have qB:=ah (Ih.out.QM ho hC bR);clear ho hC bR
     try go_simp
     refine⟨qB.out.bC,?_⟩;refine aD (i:=7) (by kernel_rfl) rfl rfl ?_
     ·go_simp
      have Bu:=ah qB.out.QO;refine⟨Bu.out.bC,?_⟩;have hs:=Bu.out;simp only[Af]at hs;refine qH (F:=fun V=>zm W1 b V (some ⟨⟨⟨da,dn,dc⟩,⟨ea,kI,ec⟩,⟨ma,mn,mc⟩,⟨na,kU,nc⟩⟩,LV,C⟩) (some _) (some _)) hs (fun V HV=>?_);have mU:=ah (HV.gr dev ep un);obtain⟨qI,xA⟩:=HV.pb _ rfl;obtain⟨lX,kl2,_⟩:=HV.pl _ rfl;have jU:=HV.bC;obtain⟨Gh,uw⟩:=HV.ne;obtain⟨s0,s1,s2,s3,_⟩:=ay qI;obtain⟨t0,t1,t2,t3,t4,t5,t6,_⟩:=aB lX;have u0:=aA qI 0;have u1:=aA qI 1;have u2:=aA qI 2;have u3:=aA qI 3;have x0:=ak lX 0;have x1:=ak lX 1;have x2:=ak lX 2;have x3:=ak lX 3;have x4:=ak lX 4;have x5:=ak lX 5;have x6:=ak lX 6;clear hs HV Bu qI lX;refine aD (i:=8) (by kernel_rfl) rfl rfl ?_;go_simp;refine⟨(((jU.setCell xA _).setCell xA _).setCell xA _).setCell xA _,?_⟩;refine aD (i:=9) (by kernel_rfl) rfl rfl ?_;go_simp;refine aU (by kernel_rfl) ?_;go_wp2;go_meet;exact⟨_,_,_,_,_,_,rfl,rfl,mU.out,by simp[World.setCell]⟩
    ·go_simp
     have qB:=ah Ih.out.QO;refine⟨qB.out.bC,?_⟩;refine aD (i:=1) (by kernel_rfl) rfl rfl ?_
     ·go_simp
      refine(HOWN.out _ qB.out.bC).mono ?_;rintro en w9 ⟨⟨⟨da,dn,dc⟩,⟨ea,kI,ec⟩,⟨ma,mn,mc⟩,⟨na,kU,nc⟩⟩,LV,C,rfl,ho,hC,bR⟩;have Bu:=ah (qB.out.QM ho hC bR);clear ho hC bR
      try go_simp
      refine⟨Bu.out.bC,?_⟩;have hs:=Bu.out;simp only[xu,Af]at hs;refine qH (F:=fun V=>zm W1 b V (some ⟨⟨⟨da,dn,dc⟩,⟨ea,kI,ec⟩,⟨ma,mn,mc⟩,⟨na,kU,nc⟩⟩,LV,C⟩) (some _) (some _)) hs (fun V HV=>?_);have mU:=ah (HV.gr dev ep un);obtain⟨qI,xA⟩:=HV.pb _ rfl;obtain⟨lX,kl2,_⟩:=HV.pl _ rfl;have jU:=HV.bC;obtain⟨Gh,uw⟩:=HV.ne;obtain⟨s0,s1,s2,s3,_⟩:=ay qI;obtain⟨t0,t1,t2,t3,t4,t5,t6,_⟩:=aB lX;have u0:=aA qI 0;have u1:=aA qI 1;have u2:=aA qI 2;have u3:=aA qI 3;have x0:=ak lX 0;have x1:=ak lX 1;have x2:=ak lX 2;have x3:=ak lX 3;have x4:=ak lX 4;have x5:=ak lX 5;have x6:=ak lX 6;clear hs HV Bu qI lX;refine aD (i:=8) (by kernel_rfl) rfl rfl ?_;go_simp;refine⟨(((jU.setCell xA _).setCell xA _).setCell xA _).setCell xA _,?_⟩;refine aD (i:=9) (by kernel_rfl) rfl rfl ?_;go_simp;refine aU (by kernel_rfl) ?_;go_wp2;go_meet;exact⟨_,_,_,_,_,_,rfl,rfl,mU.out,by simp[World.setCell]⟩
   ·go_simp
    have Ih:=ah HS0.out.QO;refine⟨Ih.out.bC,?_⟩;refine iZ (i:=1) (j:=6) (by kernel_rfl) rfl rfl rfl rfl ?_ ?_
    ·go_simp
     refine(HOWN.out _ Ih.out.bC).mono ?_;rintro en w9 ⟨⟨⟨da,dn,dc⟩,⟨ea,kI,ec⟩,⟨ma,mn,mc⟩,⟨na,kU,nc⟩⟩,LV,C,rfl,ho,hC,bR⟩;have qB:=ah (Ih.out.QM ho hC bR);clear ho hC bR
     try go_simp
     refine⟨qB.out.bC,?_⟩;refine aD (i:=6) (by kernel_rfl) rfl rfl ?_
     ·go_simp
      have Bu:=ah qB.out.QN;refine⟨Bu.out.bC,?_⟩;have hs:=Bu.out;simp only[Af]at hs;refine qH (F:=fun V=>zm W1 b V (some ⟨⟨⟨da,dn,dc⟩,⟨ea,kI,ec⟩,⟨ma,mn,mc⟩,⟨na,kU,nc⟩⟩,LV,C⟩) (some _) (some _)) hs (fun V HV=>?_);have mU:=ah (HV.gr dev ep un);obtain⟨qI,xA⟩:=HV.pb _ rfl;obtain⟨lX,kl2,_⟩:=HV.pl _ rfl;have jU:=HV.bC;obtain⟨Gh,uw⟩:=HV.ne;obtain⟨s0,s1,s2,s3,_⟩:=ay qI;obtain⟨t0,t1,t2,t3,t4,t5,t6,_⟩:=aB lX;have u0:=aA qI 0;have u1:=aA qI 1;have u2:=aA qI 2;have u3:=aA qI 3;have x0:=ak lX 0;have x1:=ak lX 1;have x2:=ak lX 2;have x3:=ak lX 3;have x4:=ak lX 4;have x5:=ak lX 5;have x6:=ak lX 6;clear hs HV Bu qI lX;refine aD (i:=8) (by kernel_rfl) rfl rfl ?_;go_simp;refine⟨(((jU.setCell xA _).setCell xA _).setCell xA _).setCell xA _,?_⟩;refine aD (i:=9) (by kernel_rfl) rfl rfl ?_;go_simp;refine aU (by kernel_rfl) ?_;go_wp2;go_meet;exact⟨_,_,_,_,_,_,rfl,rfl,mU.out,by simp[World.setCell]⟩
    ·go_simp
     have qB:=ah Ih.out.QN;refine⟨qB.out.bC,?_⟩;refine aD (i:=1) (by kernel_rfl) rfl rfl ?_
     ·go_simp
      refine(HOWN.out _ qB.out.bC).mono ?_;rintro en w9 ⟨⟨⟨da,dn,dc⟩,⟨ea,kI,ec⟩,⟨ma,mn,mc⟩,⟨na,kU,nc⟩⟩,LV,C,rfl,ho,hC,bR⟩;have Bu:=ah (qB.out.QM ho hC bR);clear ho hC bR
      try go_simp
      refine⟨Bu.out.bC,?_⟩;have hs:=Bu.out;simp only[xu,Af]at hs;refine qH (F:=fun V=>zm W1 b V (some ⟨⟨⟨da,dn,dc⟩,⟨ea,kI,ec⟩,⟨ma,mn,mc⟩,⟨na,kU,nc⟩⟩,LV,C⟩) (some _) (some _)) hs (fun V HV=>?_);have mU:=ah (HV.gr dev ep un);obtain⟨qI,xA⟩:=HV.pb _ rfl;obtain⟨lX,kl2,_⟩:=HV.pl _ rfl;have jU:=HV.bC;obtain⟨Gh,uw⟩:=HV.ne;obtain⟨s0,s1,s2,s3,_⟩:=ay qI;obtain⟨t0,t1,t2,t3,t4,t5,t6,_⟩:=aB lX;have u0:=aA qI 0;have u1:=aA qI 1;have u2:=aA qI 2;have u3:=aA qI 3;have x0:=ak lX 0;have x1:=ak lX 1;have x2:=ak lX 2;have x3:=ak lX 3;have x4:=ak lX 4;have x5:=ak lX 5;have x6:=ak lX 6;clear hs HV Bu qI lX;refine aD (i:=8) (by kernel_rfl) rfl rfl ?_;go_simp;refine⟨(((jU.setCell xA _).setCell xA _).setCell xA _).setCell xA _,?_⟩;refine aD (i:=9) (by kernel_rfl) rfl rfl ?_;go_simp;refine aU (by kernel_rfl) ?_;go_wp2;go_meet;exact⟨_,_,_,_,_,_,rfl,rfl,mU.out,by simp[World.setCell]⟩
  case rest=>
  obtain⟨pb,pl,D,x',xs,y0,rfl,rfl,Sg,hD⟩:=hcut;have ajJ:=Sg.ne;have hHB:=Sg.hb;have hHL:=Sg.hl;have aaW:Hid (QS W1 b (newL dev ep un) ws pb pl xs 0 wc):=ah ⟨D,b,newL dev ep un,x',y0,by first | rfl | (rw [List.take_zero,List.drop_zero]),MZ.zero yj.out.small yj.out.ct,Sg,hD⟩;clear Sg hD KS HOWN hU e0 d0 d1 d2 d3 D;go_wp2
  go_loopw[58] (fun v58 wr=>∃k:Nat,k≤ws.length∧v58= .int .i64 k∧QS W1 b (newL dev ep un) ws pb pl xs k wr) (fun v58 _=>ws.length-(intOf v58).toNat)
  case atStart=>exact⟨0,Nat.zero_le _,rfl,aaW.out⟩
  case round=>
   obtain⟨k,hk,rfl,hL⟩:=hrel;obtain⟨D,b',l',x,y,EK,hN,Sg,hD⟩:=hL;have xK:=ah EK;have HN:=ah hN;have mU:=ah Sg;have xJ:=Sg.bC;have hsr:=Sg.bC.size;clear EK hN Sg aaW;by_cases bA:k<ws.length
   ·have jK:(k:Int)<ws.length:=by omega
    obtain⟨bb,off,rfl,kZ,c0,c1,c2,c3⟩:=dI.wn HV.out xJ (aC _) k bA;have HDR:Hid (ws.drop k=ws[k]::ws.drop (k+1)):=ah (List.drop_eq_getElem_cons bA);have Jp:Hid (ws.take (k+1)=ws.take k++ [ws[k]]):=ah (aS ws k bA);rw[HDR.out]at xK;generalize ws[k]=wn at*;obtain⟨wk,wu,wd,wi⟩:=wn;simp only at c0 c1 c2 c3;go_upto_region 9 with fail
    have HA:=ah (heap_alloc_new wr (.cells #[.string wk,.int .i64 wu,.int .i64 wd,.int .i64 wi] 65));have eD:Below wr.heap.size wr (wr.alloc (.cells #[.string wk,.int .i64 wu,.int .i64 wd,.int .i64 wi] 65)):=(aL _ _).alloc (aC _) _;have OA:=ah (mU.out.keep eD);have Dm:wr.heap.size<(wr.alloc (.cells #[.string wk,.int .i64 wu,.int .i64 wd,.int .i64 wi] 65)).heap.size:=by simp
    have hDA:D≤(wr.alloc (.cells #[.string wk,.int .i64 wu,.int .i64 wd,.int .i64 wi] 65)).heap.size:=by omega
    clear eD mU c0 c1 c2 c3 xJ;generalize wr.alloc (.cells #[.string wk,.int .i64 wu,.int .i64 wd,.int .i64 wi] 65)=W2 at*;obtain⟨n0,n1,n2,n3,_⟩:=ay HA.out;obtain⟨a1,wK⟩:∃a1,(decide (0≤wu)&&decide (wu≤2199023255552))=a1:=⟨_,rfl⟩;obtain⟨a2,sV⟩:∃a2,(decide (0≤wd)&&decide (wd≤2199023255552))=a2:=⟨_,rfl⟩;obtain⟨a3,MX⟩:∃a3,(decide (0≤wi)&&decide (wi≤50))=a3:=⟨_,rfl⟩;have HX1:=ah wK;have Wl:=ah sV;have HX3:=ah MX;have xM:Hid (wJ ⟨wk,wu,wd,wi⟩=(a1&&(a2&&a3))):=by show _=_;unfold wJ;simp only[HX1.out,Wl.out,HX3.out]
    clear wK sV MX
    go_cut[17] (fun v17 wx=>v17= .bool (!(a1&&(a2&&a3)))∧W2=wx)
    case first=>
     cases a1
     case' true=>cases a2
     case' true.true=>cases a3
     all_goals
      go_wp2_with ((go_at_call 63;refine(dZ _ _ _ _).mono ?_);(first | rw[HX1.out] | rw[Wl.out] | rw[HX3.out]);rintro e w9 ⟨rfl,rfl⟩)
      go_meet;exact⟨rfl,rfl⟩
    case rest=>
    obtain⟨rfl,rfl⟩:=hcut;rw[←xM.out];clear HX1 Wl HX3 xM;obtain⟨q2,vW⟩:∃q2,(ws.take k).any (fun x=>decide (x.key=wk))=q2:=⟨_,rfl⟩;obtain⟨q1,hq1⟩:∃q1,wJ ⟨wk,wu,wd,wi⟩=q1:=⟨_,rfl⟩;rw[hq1];have Gm:=ah hq1;have eF:=ah vW;clear hq1 vW;have hW2:=OA.out.bC;have HVT:=ah (dI.take Ee (HV.out.keep hW2 (aC _)) k hk);go_upto_region 10 with fail
    go_cut[87] (fun v87 wx=>v87= .bool (q1&&q2)∧Below W2.heap.size W2 wx)
    case first=>
     cases q1 with
     | false=>
      go_wp2;go_meet;exact⟨rfl,aL _ _⟩
     | true=>
      go_wp2_with fail
      refine(MC _ (ws.take k) _ _ (fun x=>decide (x.key=wk)) _ HVT.out (VL n0 _)).mono ?_;rintro e U3 ⟨rfl,hU3⟩;rw[eF.out];go_wp2;go_meet;exact⟨rfl,hU3⟩
    case rest=>
    obtain⟨rfl,bT⟩:=hcut;obtain⟨U3,hU3⟩:∃U3,U3=wc:=⟨_,rfl⟩;subst hU3;obtain⟨q3,CQ⟩:∃q3,(q1&&q2)=q3:=⟨_,rfl⟩;rw[CQ];have vJ:=ah CQ;clear CQ
    have Eo:q3=false→ ¬ (wJ ⟨wk,wu,wd,wi⟩=true∧(ws.take k).any (fun x=>decide (x.key=wk))=true):=fun hf hh=>by
     rw[Gm.out,eF.out]at hh;have:=vJ.out;rw[hh.1,hh.2,hf]at this;exact absurd this (by decide)
    have aaX:=ah Eo;clear Eo
    cases q3 with
    | true=>
     have ae9:Hid ((bI b (newL dev ep un) [] ws).2.2=7):=by
      have hh:=vJ.out;rw[Bool.and_eq_true]at hh;show _=_;rw[xK.out,vw (Gm.out.trans hh.1) (eF.out.trans hh.2)]
     have fO:=ah (AV HAO.out HQ.out ae9.out (by decide));have jX:=hW2.trans (bT.mono hW2.size);clear bT n0 n1 n2 n3;obtain⟨d0,d1,d2,d3,_⟩:=ay (aj K0.out jX (by omega));have mK:=(jX).size;have uN:=ah (eY.out.trans ((jX).mono eY.out.size));have QT:=ah (aj K2.out jX (by omega));have QU:=ah (aj K3.out jX (by omega));go_wp2_with fail
     refine(jy ⟨⟨ca,cn,cc⟩,⟨fa,bD,fc⟩,⟨la,ln,lc⟩,⟨ba,bE,bc⟩⟩ b _ (HM.out.keep jX (aC _)) HB.out).mono ?_;rintro e U2 ⟨⟨⟨da,dn,dc⟩,⟨ea,kI,ec⟩,⟨ma,mn,mc⟩,⟨na,kU,nc⟩⟩,LV,C,rfl,ho,hC,bR⟩;have HO:=ah ho;have HC:=ah hC;have lC:=ah bR;have dH:=aj QT.out bR (by omega);have kH:=aj QU.out bR (by omega);obtain⟨r0,r1,r2,r3,_⟩:=ay dH;have f0:=aA dH 0;have f1:=aA dH 1;have f2:=aA dH 2;have f3:=aA dH 3;obtain⟨q0,q1,q2,q3,q4,q5,q6,_⟩:=aB kH;have f4:=ak kH 0;have f5:=ak kH 1;have f6:=ak kH 2;have f7:=ak kH 3;have f8:=ak kH 4;have f9:=ak kH 5;have f10:=ak kH 6;clear bR dH kH ho hC d0 d1 d2 d3;go_wp2;refine bodyPost_ret (v:=.tuple #[.agg #[.slice da dn dc,.slice ea kI ec,.slice ma mn mc,.slice na kU nc],.agg #[.int .i64 0,.int .i64 0,.int .i64 0,.int .i64 0,.slice none 0 0,.slice none 0 0,.slice none 0 0],.int .i64 7]) (by simp[results,Tryz.results25,go_sem, *]) rfl (show pU _ _ _ _ from ?_);rw[fO.out];exact pJ (x:=⟨⟨da,dn,dc⟩,⟨ea,kI,ec⟩,⟨ma,mn,mc⟩,⟨na,kU,nc⟩⟩) (p:=w.heap.size+2) uN.out lC.out HO.out HC.out (by omega) (by omega) _ _ _ _ _ _ _
    | false=>
    have Eo:=aaX.out (by first | rfl | trivial);clear aaX;obtain⟨U4,hU4⟩:∃U4,U4=U3:=⟨_,rfl⟩;subst hU4;have vg:=ah Eo;have wL:=ah (OA.out.keep bT);have hA4:=aj HA.out bT Dm;have hD4:D≤U4.heap.size:=by have:=bT.size;omega
    clear n0 n1 n2 n3 Eo bT HVT hW2 HA OA;obtain⟨n0,n1,n2,n3,_⟩:=ay hA4;clear hA4;go_wp2_with fail
    refine(Pp W1.heap.size D pb pl W1 U4 x b' xs y l' ⟨wk,wu,wd,wi⟩ wL.out hD4 (HN.out.wtB (by omega) yj.out.nc yj.out.nf)).mono ?_;rintro e U5 ⟨rfl,gD,qQ⟩;have lZ:=ah qQ;clear qQ n0 n1 n2 n3;obtain⟨en,hen⟩:∃en,dY b' ⟨wk,wu,wd,wi⟩=en:=⟨_,rfl⟩;rw[hen];have HEN:=ah hen;clear hen;by_cases hz:en=0
    ·subst hz
     obtain⟨x2,y2,aaZ⟩:=lZ.out HEN.out;obtain⟨D2,hG5,hD5⟩:=aaZ.ae4;have HL:Hid (QS W1 b (newL dev ep un) ws pb pl xs (k+1) U5):=ah ⟨D2,_,_,x2,y2,by rw[xK.out,vD vg.out HEN.out,Jp.out],HN.out.step HEN.out,hG5,hD5⟩;clear hG5 gD aaZ hD5;go_wp2;go_roundw
     case rel=>exact⟨k+1,by omega,by go_num,HL.out⟩
     case measure=>simp[intOf];omega
    ·have dX:(en==0)=false:=by simpa using hz
     have f_:(en != 0)=true:=by simpa using hz
     have ae_:Hid ((bI b (newL dev ep un) [] ws).2.2=en):=by show _=_;rw[xK.out,pI vg.out (by rw[HEN.out];exact hz),HEN.out]
     have fO:=ah (AV HAO.out HQ.out ae_.out hz);obtain⟨d0,d1,d2,d3,_⟩:=ay (aj K0.out gD (by omega));have mK:=(gD).size;have uN:=ah (eY.out.trans ((gD).mono eY.out.size));have QT:=ah (aj K2.out gD (by omega));have QU:=ah (aj K3.out gD (by omega));go_wp2_with fail
     refine(jy ⟨⟨ca,cn,cc⟩,⟨fa,bD,fc⟩,⟨la,ln,lc⟩,⟨ba,bE,bc⟩⟩ b _ (HM.out.keep gD (aC _)) HB.out).mono ?_;rintro e U2 ⟨⟨⟨da,dn,dc⟩,⟨ea,kI,ec⟩,⟨ma,mn,mc⟩,⟨na,kU,nc⟩⟩,LV,C,rfl,ho,hC,bR⟩;have HO:=ah ho;have HC:=ah hC;have lC:=ah bR;have dH:=aj QT.out bR (by omega);have kH:=aj QU.out bR (by omega);obtain⟨r0,r1,r2,r3,_⟩:=ay dH;have f0:=aA dH 0;have f1:=aA dH 1;have f2:=aA dH 2;have f3:=aA dH 3;obtain⟨q0,q1,q2,q3,q4,q5,q6,_⟩:=aB kH;have f4:=ak kH 0;have f5:=ak kH 1;have f6:=ak kH 2;have f7:=ak kH 3;have f8:=ak kH 4;have f9:=ak kH 5;have f10:=ak kH 6;clear bR dH kH ho hC d0 d1 d2 d3;go_wp2;refine bodyPost_ret (v:=.tuple #[.agg #[.slice da dn dc,.slice ea kI ec,.slice ma mn mc,.slice na kU nc],.agg #[.int .i64 0,.int .i64 0,.int .i64 0,.int .i64 0,.slice none 0 0,.slice none 0 0,.slice none 0 0],.int .i64 en]) (by simp[results,Tryz.results25,go_sem, *]) rfl (show pU _ _ _ _ from ?_);rw[fO.out];exact pJ (x:=⟨⟨da,dn,dc⟩,⟨ea,kI,ec⟩,⟨ma,mn,mc⟩,⟨na,kU,nc⟩⟩) (p:=w.heap.size+2) uN.out lC.out HO.out HC.out (by omega) (by omega) _ _ _ _ _ _ _
   ·have:k=ws.length:=by omega
    subst this;have Bb:Hid (bI b (newL dev ep un) [] ws=(b',l',0)):=by show _=_;rw[xK.out,List.drop_length];rfl
    have fO:=ah (M0 HAO.out HQ.out Bb.out);have HLD:Hid (l'.dev=dev):=ah HN.out.dev;have hnl:b'.ls.length<10000:=by rw[HN.out.ls];exact yj.out.nl
    have ad8:(b'.ls.length:Int)<10000:=by omega
    have HNB:Hid (Dl ⟨b'.cs,b'.free,b'.ls.take (pR dev b'.ls)++l'::b'.ls.drop (pR dev b'.ls),b'.bound⟩):=ah (NY HN.out yj.out hk h5);have uj:Hid (Ap l'):=ah (D6 HN.out yj.out h5);clear xK Bb;obtain⟨WA,Xb⟩:∃WA,WA=wr:=⟨_,rfl⟩;subst Xb;obtain⟨⟨c1,c2,c3⟩,⟨g1,g2,g3⟩,⟨l1,l2,l3⟩,⟨b1,b2,b3⟩⟩:=x;obtain⟨y1,y2,y3,y4,⟨y5,y6,y7⟩,⟨y8,y9,dz⟩,⟨dA,dJ,cK⟩⟩:=y;obtain⟨vR,hl3,hl4⟩:=mU.out.ZB;simp only at vR hl3 hl4;subst vR;have zI:=mU.out.MS;have Gv:=mU.out.szl;go_upto_block 3 with fail
    go_cut[19] (fun v19 wx=>v19= .int .i64 (pR dev b'.ls)∧Below WA.heap.size WA wx)
    case first=>
     go_wp2
     go_loopw[19] (fun v19 wx=>∃j:Nat,j≤b'.ls.length∧v19= .int .i64 j∧Hid (∀i (hi:i<b'.ls.length),i<j→b'.ls[i].dev<dev)∧Below WA.heap.size WA wx) (fun v19 _=>b'.ls.length-(intOf v19).toNat)
     case atStart=>exact⟨0,Nat.zero_le _,rfl,ah (fun i hi h=>absurd h (by omega)),aL _ _⟩
     case round=>
      obtain⟨j,hj,rfl,gY,gy⟩:=hrel;have EW:=ah gY;clear gY
      have e0:wr.cell? ⟨w.heap.size+1,0,none⟩=some (.int .i64 dev):=by
       have:=aj K1.out ((mU.out.keep gy).bC) (by omega);simp[World.cell?,this]
      obtain⟨d0,d1,d2,d3,_⟩:=ay (aj mU.out.kb gy zI);simp only[Sv.v]at d0 d1 d2 d3;by_cases lq:j<b'.ls.length
      ·obtain⟨g,cap',yR,_,_,_,hc⟩:=(mU.out.keep gy).Wh j lq
       injection yR with Dx tN hx3;subst Dx hx3;have t_:(j:Int)<b'.ls.length:=by omega
       have nU:Hid (b'.ls[j].dev<dev→ ∀i (hi:i<b'.ls.length),i<j+1→b'.ls[i].dev<dev):=ah (fun hd i hi hij=>by
        by_cases e:i=j
        ·subst e;exact hd
        ·exact EW.out i hi (by omega))
       have afa:Hid (¬b'.ls[j].dev<dev→pR dev b'.ls=j):=ah (fun hd=>zZ hj EW.out (fun _=>hd));generalize b'.ls[j].dev=dj at*;by_cases hd:dj<dev
       ·have HS:=ah (nU.out hd)
        have KY:decide (dj<dev)=true:=by simpa using hd
        clear tN;go_wp2_with fail
        go_quiet (fail)
        go_wp2;go_roundw
        case rel=>exact⟨j+1,by omega,by go_num,ah HS.out,below_drewN gy _⟩
        case measure=>simp[intOf];omega
       ·have HS:=ah (afa.out hd)
        have KY:decide (dj<dev)=false:=by simpa using hd
        clear tN;go_wp2_with fail
        go_quiet (fail)
        go_wp2;go_meet;exact⟨by rw[HS.out],below_drewN gy _⟩
      ·have:j=b'.ls.length:=by omega
       subst this;have HS:Hid (pR dev b'.ls=b'.ls.length):=ah (zZ (aC _) EW.out (fun h=>absurd h (by omega)));go_wp2_with fail
       go_quiet (fail)
       go_wp2;go_meet;exact⟨by rw[HS.out],below_drewN gy _⟩
    case rest=>
    obtain⟨rfl,nG⟩:=hcut;obtain⟨W6,Zw⟩:∃W6,W6=wc:=⟨_,rfl⟩;subst Zw;have Hw:=ah (mU.out.keep nG);have hik:=Le dev b'.ls;have aa0:Hid (sD l' b'.ls=b'.ls.take (pR dev b'.ls)++l'::b'.ls.drop (pR dev b'.ls)):=by show _=_;unfold sD;rw[HLD.out]
    rw[aa0.out]at fO;clear mU nG zI Gv aa0 xJ;obtain⟨kk,sF⟩:∃kk,pR dev b'.ls=kk:=⟨_,rfl⟩;rw[sF]at fO HNB hik⊢;clear sF;have zI:=Hw.out.MS;have Gv:=Hw.out.szl;have afb:=Hw.out.bC.size;have S0:W6.drew.heap[pb]? =some (.cells #[.slice c1 c2 c3,.slice g1 g2 g3,.slice l1 b'.ls.length l3,.slice b1 b2 b3] 30 (0,0))∧W6.drew.heap[pl]? =some (.cells #[.int .i64 y1,.int .i64 y2,.int .i64 y3,.int .i64 y4,.slice y5 y6 y7,.slice y8 y9 dz,.slice dA dJ cK] 48 (0,0)):=⟨Hw.out.drew.kb,Hw.out.drew.kl⟩;go_upto_region 19 with fail
    refine aW 8 (fun w'=>w'.heap[pb]? =some (.cells #[.slice c1 c2 c3,.slice g1 g2 g3,.slice l1 b'.ls.length l3,.slice b1 b2 b3] 30 (0,0))∧w'.heap[pl]? =some (.cells #[.int .i64 y1,.int .i64 y2,.int .i64 y3,.int .i64 y4,.slice y5 y6 y7,.slice y8 y9 dz,.slice dA dJ cK] 48 (0,0))) (by kernel_rfl) ?_;refine aP (i:=0) (v:=.pointer (some ⟨pb,2,none⟩)) rfl rfl (by kernel_rfl) (fun _ _ _ h=>h) (.inl ⟨rfl,fun w' hw=>?_⟩) S0 ?_
    ·go_simp
    refine aP (i:=1) (v:=.slice l1 b'.ls.length l3) rfl rfl (by kernel_rfl) (fun _ _ _ h=>h) (.inl ⟨rfl,fun w' hw=>?_⟩) S0 ?_
    ·obtain⟨d0,d1,d2,d3,_⟩:=ay hw.1
     go_simp
    refine aP (i:=2) (v:=.int .i64 kk) rfl rfl (by kernel_rfl) (fun _ _ _ h=>h) (.inl ⟨rfl,fun w' hw=>?_⟩) S0 ?_
    ·go_simp
    refine aP (i:=3) (v:=.agg #[.int .i64 y1,.int .i64 y2,.int .i64 y3,.int .i64 y4,.slice y5 y6 y7,.slice y8 y9 dz,.slice dA dJ cK]) rfl rfl (by kernel_rfl) (fun _ _ _ h=>h) (.inl ⟨rfl,fun w' hw=>?_⟩) S0 ?_
    ·obtain⟨d0,d1,d2,d3,d4,d5,d6,_⟩:=aB hw.2
     go_simp
    clear S0;refine aD (i:=4) (by kernel_rfl) rfl rfl ?_;go_simp;refine(fI ⟨y1,y2,y3,y4,⟨y5,y6,y7⟩,⟨y8,y9,dz⟩,⟨dA,dJ,cK⟩⟩ l' _ Hw.out.drew.lm uj.out).mono ?_;rintro e w7 ⟨⟨z1,z2,z3,z4,⟨z5,z6,z7⟩,⟨z8,z9,dK⟩,⟨dU,eZ,dQ⟩⟩,rfl,hy7,J5⟩;have hG7:=Hw.out.drew.keep J5;refine⟨⟨hG7.kb,hG7.kl⟩,?_⟩;refine aD (i:=5) (by kernel_rfl) rfl rfl ?_;go_simp;have DL:(w7.alloc (.cells #[.int .i64 z1,.int .i64 z2,.int .i64 z3,.int .i64 z4,.slice z5 z6 z7,.slice z8 z9 dK,.slice dU eZ dQ] 48)).heap[w7.heap.size]? =some (.cells #[.int .i64 z1,.int .i64 z2,.int .i64 z3,.int .i64 z4,.slice z5 z6 z7,.slice z8 z9 dK,.slice dU eZ dQ] 48 (0,0)):=heap_alloc_new _ _;have qP:Below w7.heap.size w7 (w7.alloc (.cells #[.int .i64 z1,.int .i64 z2,.int .i64 z3,.int .i64 z4,.slice z5 z6 z7,.slice z8 z9 dK,.slice dU eZ dQ] 48)):=(aL _ _).alloc (aC _) _;have hG8:=hG7.keep qP;have hy8:=(hy7.base (B':=W1.heap.size) afb).keep qP (aC _);have hB8:W1.heap.size≤(w7.alloc (.cells #[.int .i64 z1,.int .i64 z2,.int .i64 z3,.int .i64 z4,.slice z5 z6 z7,.slice z8 z9 dK,.slice dU eZ dQ] 48)).heap.size:=hG8.bC.size;have aa2:Below W6.heap.size W6 (w7.alloc (.cells #[.int .i64 z1,.int .i64 z2,.int .i64 z3,.int .i64 z4,.slice z5 z6 z7,.slice z8 z9 dK,.slice dU eZ dQ] 48)):=((aL W6.heap.size W6).drew.trans J5).trans (qP.mono J5.size)
    have pY:(Value.slice l1 b'.ls.length l3).ownBlock≠some w7.heap.size:=fun e=>by
     have:=(hG7.rl.lt _ e).2;omega
    have Tc:=ah hG8;have HY8:=ah hy8;have Cx:=ah DL;have HB8:=ah aa2;clear hG7 hy7 J5 qP hG8 hy8 DL aa2;refine⟨⟨Tc.out.kb,Tc.out.kl⟩,?_⟩;generalize w7.alloc (.cells #[.int .i64 z1,.int .i64 z2,.int .i64 z3,.int .i64 z4,.slice z5 z6 z7,.slice z8 z9 dK,.slice dU eZ dQ] 48)=W8 at*;refine aD (i:=6) (by kernel_rfl) rfl rfl ?_;go_simp;refine(ED _ b'.ls.length kk (aJ j_ xs) (j_ ⟨z1,z2,z3,z4,⟨z5,z6,z7⟩,⟨z8,z9,dK⟩,⟨dU,eZ,dQ⟩⟩) W8 W1.heap.size w7.heap.size Tc.out.rl (gu zT _) (zT _) rfl (by omega) hik hB8 Cx.out pY).mono ?_;rintro e w9 ⟨v',rfl,Av,Lm,ER⟩;obtain⟨kJ,cap',rfl,_,_⟩:=aO Av;obtain⟨i1,i2,i3,i4,i5,i6,i7⟩:=Gr.ins (v':=⟨kJ,_,cap'⟩) Hw.out HB8.out HY8.out Av Lm hik ER;have HI1:=ah i1;have HI2:=ah i2;have HI3:=ah i3;have HI4:=ah i4;have YR:=ah i5;obtain⟨d0,d1,d2,d3,jJ⟩:=ay i6;clear jJ;have f2:=aA i6 2;simp only[Sv.v]at d0 d1 d2 d3;refine⟨⟨i6,i7⟩,?_⟩;clear i1 i2 i3 i4 i5 Av Lm ER;simp only[Sv.v]at i6 i7;refine aD (i:=7) (by kernel_rfl) rfl rfl ?_;go_simp;clear i6 i7;refine aD (i:=8) (by kernel_rfl) rfl rfl ?_;go_simp;refine aU (by kernel_rfl) ?_;clear d0 d1 d2 d3 f2;simp only[Sv.v]at HI1 HI2 HI3 HI4 YR;generalize w9.setCell ⟨pb,2,none⟩ (.slice kJ (b'.ls.length+1) cap')=vH at*;go_upto_region 20 with fail
    have ahe:=YR.out.size;have S0:vH.drew.heap[pb]? =some (.cells #[.slice c1 c2 c3,.slice g1 g2 g3,.slice kJ (b'.ls.length+1) cap',.slice b1 b2 b3] 30 (0,0))∧vH.drew.heap[pl]? =some (.cells #[.int .i64 y1,.int .i64 y2,.int .i64 y3,.int .i64 y4,.slice y5 y6 y7,.slice y8 y9 dz,.slice dA dJ cK] 48 (0,0)):=⟨HI3.out,HI4.out⟩;have QV:pb<vH.heap.size:=(bq HI3.out).1;have QW:pl<vH.heap.size:=(bq HI4.out).1;refine aW 5 (fun w'=>w'.heap[pb]? =some (.cells #[.slice c1 c2 c3,.slice g1 g2 g3,.slice kJ (b'.ls.length+1) cap',.slice b1 b2 b3] 30 (0,0))∧w'.heap[pl]? =some (.cells #[.int .i64 y1,.int .i64 y2,.int .i64 y3,.int .i64 y4,.slice y5 y6 y7,.slice y8 y9 dz,.slice dA dJ cK] 48 (0,0))) (by kernel_rfl) ?_;refine aP (i:=0) (v:=.agg #[.slice c1 c2 c3,.slice g1 g2 g3,.slice kJ (b'.ls.length+1) cap',.slice b1 b2 b3]) rfl rfl (by kernel_rfl) (fun _ _ _ h=>h) (.inl ⟨rfl,fun w' hw=>?_⟩) S0 ?_
    ·obtain⟨d0,d1,d2,d3,_⟩:=ay hw.1
     go_simp
    refine aP (i:=2) (v:=.agg #[.int .i64 y1,.int .i64 y2,.int .i64 y3,.int .i64 y4,.slice y5 y6 y7,.slice y8 y9 dz,.slice dA dJ cK]) rfl rfl (by kernel_rfl) (fun _ _ _ h=>h) (.inl ⟨rfl,fun w' hw=>?_⟩) S0 ?_
    ·obtain⟨d0,d1,d2,d3,d4,d5,d6,_⟩:=aB hw.2
     go_simp
    clear S0;have hbd:Below vH.heap.size vH vH.drew:=(aL _ _).drew;refine aD (i:=1) (by kernel_rfl) rfl rfl ?_;go_simp;refine(jy ⟨⟨c1,c2,c3⟩,⟨g1,g2,g3⟩,⟨kJ,b'.ls.length+1,cap'⟩,⟨b1,b2,b3⟩⟩ _ _ (HI1.out.keep hbd (aC _)) HNB.out).mono ?_;rintro e U2 ⟨⟨⟨da,dn,dc⟩,⟨ea,kI,ec⟩,⟨ma,mn,mc⟩,⟨na,kU,nc⟩⟩,LV,C,rfl,ho,hC,sI⟩;have jP:=hbd.trans sI;refine⟨⟨aj HI3.out jP QV,aj HI4.out jP QW⟩,?_⟩;refine aD (i:=3) (by kernel_rfl) rfl rfl ?_;go_simp;refine(fI ⟨y1,y2,y3,y4,⟨y5,y6,y7⟩,⟨y8,y9,dz⟩,⟨dA,dJ,cK⟩⟩ l' _ (HI2.out.keep jP (aC _)) uj.out).mono ?_;rintro e U3 ⟨⟨z1,z2,z3,z4,⟨z5,z6,z7⟩,⟨z8,z9,dK⟩,⟨dU,eZ,dQ⟩⟩,rfl,aa3,J7⟩;have zn:=jP.trans (J7.mono jP.size);refine⟨⟨aj HI3.out zn QV,aj HI4.out zn QW⟩,?_⟩;have aa4:=(eY.out.trans (YR.out.mono eY.out.size)).trans (zn.mono (by omega));have QX:=YR.out.trans (zn.mono YR.out.size);have dH:=aj K2.out QX (by omega);have kH:=aj K3.out QX (by omega);have aa5:=ah (eY.out.trans (YR.out.mono eY.out.size));have afd:=ah zn;have afe:=ah (ho.keep J7);have aff:=ah hC;have afg:=ah (aa3.base (B':=vH.heap.size) jP.size);have TP:=(bM U3 (w.heap.size+2) (w.heap.size+3) (by omega) (.slice da dn dc) (.slice ea kI ec) (.slice ma mn mc) (.slice na kU nc) 0 1 2 3).trans kH;have s1:=(bM U3 (w.heap.size+2) pb (by omega) (.slice da dn dc) (.slice ea kI ec) (.slice ma mn mc) (.slice na kU nc) 0 1 2 3).trans (aj HI3.out zn QV);have s2:=(bM U3 (w.heap.size+2) pl (by omega) (.slice da dn dc) (.slice ea kI ec) (.slice ma mn mc) (.slice na kU nc) 0 1 2 3).trans (aj HI4.out zn QW);obtain⟨r0,r1,r2,r3,_⟩:=ay dH;have f0:=aA dH 0;have f1:=aA dH 1;have f2:=aA dH 2;have f3:=aA dH 3;have Ih:=ah s1;have qB:=ah s2;have KW:=ah (ku dH (.slice da dn dc) (.slice ea kI ec) (.slice ma mn mc) (.slice na kU nc));have wD:=ah TP;clear s1 s2 dH kH TP aa4 QX zn J7 sI jP ho hC aa3 hbd;refine aD (i:=4) (by kernel_rfl) rfl rfl ?_;go_simp;refine⟨⟨Ih.out,qB.out⟩,?_⟩;clear r0 r1 r2 r3 f0 f1 f2 f3;obtain⟨q0,q1,q2,q3,q4,q5,q6,_⟩:=aB wD.out;have f4:=ak wD.out 0;have f5:=ak wD.out 1;have f6:=ak wD.out 2;have f7:=ak wD.out 3;have f8:=ak wD.out 4;have f9:=ak wD.out 5;have f10:=ak wD.out 6;obtain⟨r0,r1,r2,r3,_⟩:=ay KW.out;have vF:=Ig (n:=0) (x:=⟨⟨da,dn,dc⟩,⟨ea,kI,ec⟩,⟨ma,mn,mc⟩,⟨na,kU,nc⟩⟩) (y:=⟨z1,z2,z3,z4,⟨z5,z6,z7⟩,⟨z8,z9,dK⟩,⟨dU,eZ,dQ⟩⟩) (p:=w.heap.size+2) aa5.out afd.out afe.out aff.out afg.out (by omega) (by omega);simp only[Sv.v]at vF;have mI:=ah vF;clear vF;generalize (((U3.setCell ⟨w.heap.size+2,0,none⟩ (.slice da dn dc)).setCell ⟨w.heap.size+2,1,none⟩ (.slice ea kI ec)).setCell ⟨w.heap.size+2,2,none⟩ (.slice ma mn mc)).setCell ⟨w.heap.size+2,3,none⟩ (.slice na kU nc)=U4 at*;refine aD (i:=5) (by kernel_rfl) rfl rfl ?_;go_simp;refine aD (i:=6) (by kernel_rfl) rfl rfl ?_;go_simp;refine aU (by kernel_rfl) ?_;go_wp2;refine bodyPost_ret (v:=.tuple #[.agg #[.slice da dn dc,.slice ea kI ec,.slice ma mn mc,.slice na kU nc],.agg #[.int .i64 z1,.int .i64 z2,.int .i64 z3,.int .i64 z4,.slice z5 z6 z7,.slice z8 z9 dK,.slice dU eZ dQ],.int .i64 0]) (by simp[results,Tryz.results25,go_sem, *]) rfl (show pU _ _ _ _ from ?_);rw[fO.out];exact mI.out
end Go.Proofs.YtlfopoimbbpfdaaGreat
