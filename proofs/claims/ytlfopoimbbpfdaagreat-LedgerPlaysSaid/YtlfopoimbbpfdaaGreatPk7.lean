/- What the law asks, in parts: LWkI LGa LGb. -/
import Derived.Test.YtlfopoimbbpfdaaGreatPk5
import Derived.Test.YtlfopoimbbpfdaaGreatPk6
import Derived.Test.YtlfopoimbbpfdaaGreatPk3
set_option linter.all false
namespace Go.Proofs.YtlfopoimbbpfdaaGreat
open Go.RowKit
theorem lu {w:World} {b:Nat} {a0 a1 a2 a3:Value} {t:TypeId} (h:w.heap[b]? =some (.cells #[a0,a1,a2,a3] t (0,0))) (x:Value):(w.setCell ⟨b,0,none⟩ x).heap[b]? =some (.cells #[x,a1,a2,a3] t (0,0)):=by
 simp[World.setCell,Array.getElem?_modify,h]
theorem lC {w:World} {b:Nat} {a0 a1 a2 a3:Value} {t:TypeId} (h:w.heap[b]? =some (.cells #[a0,a1,a2,a3] t (0,0))) (x:Value):(w.setCell ⟨b,1,none⟩ x).heap[b]? =some (.cells #[a0,x,a2,a3] t (0,0)):=by
 simp[World.setCell,Array.getElem?_modify,h]
theorem aW (w:World) (p:Addr) (b:Nat) (h:p.block≠b) (x:Value):(w.setCell p x).heap[b]? =w.heap[b]? :=by
 simp[World.setCell,Array.getElem?_modify,h]
theorem iP (w:World) (b c:Nat) (h:c≠b) (i j:Nat) (x y:Value):((w.setCell ⟨b,i,none⟩ x).setCell ⟨b,j,none⟩ y).heap[c]? =w.heap[c]? :=by
 have h':¬b=c:=fun e=>h e.symm
 simp[World.setCell,Array.getElem?_modify,h']
theorem tO (w:World) (b:Nat) (hb:w.heap.size=b) (cs:List Value) (t:TypeId):Rd (w.alloc (.cells cs.toArray t)) (some ⟨b,0,none⟩) cs:=by
 subst hb
 intro j u hu
 refine⟨_,rfl,?_⟩
 rw[Addr.add_lit,World.cell?,show(w.alloc (.cells cs.toArray t)).heap[(⟨w.heap.size,0+j,none⟩:Addr).block]? =_ from heap_alloc_new w _]
 simpa using hu
theorem iC.put {w:World} {C:Nat} {x:bV} {l:Ls} (h:iC w C x l) (p:Addr) (hp:p.block<C) (u:Value):iC (w.setCell p u) C x l:=
 ⟨h.dev,h.epoch,h.bY,h.last,aM h.s p hp u,aM h.i p hp u,aM h.u p hp u⟩
theorem pX.put {w:World} {B C:Nat} {x:bZ} {b:Bk} {xs:List bV} (h:pX w B C x b xs) (hBC:B≤C) (p:Addr) (hp:p.block<B) (u:Value):pX (w.setCell p u) B C x b xs:=
 ⟨aM h.rc p hp u,aM h.rf p hp u,aM h.rl p hp u,aM h.rb p hp u,h.cl,h.fl,h.ll,h.bl,h.each.imp (fun _ _ r=>r.put p (Nat.lt_of_lt_of_le hp hBC) u)⟩
def qA (w:World) (r:Bk×Int) (e:Ending) (w':World):Prop:=∃ (x':bZ),e= .returned (.tuple #[fT x',.int .i64 r.2])∧eD w' x' r.1∧Below w.heap.size w w'
theorem jA (w:World):eD w ⟨⟨none,0,0⟩,⟨none,0,0⟩,⟨none,0,0⟩,⟨none,0,0⟩⟩ ⟨[],[],[],[]⟩:=
 ⟨cK.nil _ _ _,fq.nil _,⟨[],cK.nil _ _ _,trivial⟩,Sl.nil _ _⟩
set_option maxRecDepth 100000 in
set_option maxHeartbeats 8000000 in
theorem J6 (v:Value) (l:List Ct) (ids:Int) (w:World) (h:mD w v l) (h4:4<l.length):
  Calls Tryz.prog 20 #[v,.int .i64 ids] w (qA w (newS l ids)):=by
 have HS:Hid (newS l ids=(⟨[],[],[],[]⟩,4)):=by show _=_;unfold newS;rw[if_pos h4]
 obtain⟨ao,cap,rfl,hcap,hm⟩:=Sl.shape h
 have g4:(4:Int)<l.length:=by omega
 clear h
 go_enter Tryz.func20,Tryz.ntmps20
 go_wp2
 refine bodyPost_ret (v:=.tuple #[.agg #[.slice none 0 0,.slice none 0 0,.slice none 0 0,.slice none 0 0],.int .i64 4]) (by simp[results,Tryz.results20,go_sem]) rfl ⟨⟨⟨none,0,0⟩,⟨none,0,0⟩,⟨none,0,0⟩,⟨none,0,0⟩⟩,by rw[HS.out],by rw[HS.out];exact jA _,(aL _ _).alloc (aC _) _⟩
structure Ib (w:World) (l:List Ct) (k:Nat) (acc:List Ct) (vc:Value) (wr:World):Prop where
 le:k≤l.length
 go:jI [] l=jI acc (l.drop k)
 len:acc.length=k
 row:wr.ownsRow (w.heap.size+2) 54 7 vc acc.length (aK jE acc)
 k1:wr.heap[w.heap.size]? =some (.cells #[.slice none 0 0,.slice none 0 0,.slice none 0 0,.slice none 0 0] 30 (0,0))
 k2:wr.heap[w.heap.size+1]? =some (.cells #[vc,.slice none 0 0,.slice none 0 0,.slice none 0 0] 30 (0,0))
 aZ:Below w.heap.size w wr
theorem vP {c:Ct} (h:mE c=true): -1099511627776≤c.lo∧c.lo≤c.start∧c.start≤c.hi∧c.hi≤1099511627776:=by
 unfold mE at h
 simp only[Bool.and_eq_true,decide_eq_true_iff]at h
 omega
set_option maxRecDepth 100000 in
set_option maxHeartbeats 8000000 in
theorem ND (v:Value) (l:List Ct) (ids:Int) (w:World) (h:mD w v l) (h4:l.length≤4) (hkey:∀c∈l,c.key.size≤maxLen):
  Calls Tryz.prog 20 #[v,.int .i64 ids] w (qA w (newS l ids)):=by
 obtain⟨ao,cap,rfl,hcap,hm⟩:=Sl.shape h
 have g4:decide (4<(l.length:Int))=false:=by simp;omega
 have g4':decide (4<l.length)=false:=by simp;omega
 have J7:Hid (∀n,(jI [] l).1=n→n≠0→newS l ids=(⟨[],[],[],[]⟩,n)):=fun n hn h0=>by
  unfold newS;rw[if_neg (by omega),if_pos (by rw[hn];exact h0),hn]
 have HKEY:=ah hkey
 clear hkey
 go_enter Tryz.func20,Tryz.ntmps20
 go_upto_block 0 with fail
 have hst:Ib w l 0 [] (.slice none 0 0) ((w.alloc (.cells #[.slice none 0 0,.slice none 0 0,.slice none 0 0,.slice none 0 0] 30)).alloc (.cells #[.slice none 0 0,.slice none 0 0,.slice none 0 0,.slice none 0 0] 30)):=
  ⟨Nat.zero_le _,rfl,rfl,World.ownsRow_nil _ _ _ _,bJ _ _ _,bE _ _ _,((aL _ _).alloc (aC _) _).alloc (by simp) _⟩
 go_cut[15] (fun _ wx=>∃acc vc,Ib w l l.length acc vc wx)
 case first=>
  go_wp2
  go_loopw[15] (fun vk wr=>∃ (k:Nat) (acc:List Ct) (vc:Value),vk= .int .i64 k∧Ib w l k acc vc wr) (fun vk _=>l.length-(intOf vk).toNat)
  case atStart=>exact⟨0,[],_,rfl,hst⟩
  case round=>
   clear hst
   obtain⟨k,acc,vc,rfl,hN⟩:=hrel
   rcases Nat.lt_or_ge k l.length with hlt | hge
   ·obtain⟨b,off,rfl,hbl,c0,c1,c2,c3,c4,c5,c6⟩:=h.ct hN.aZ (aC _) k hlt
    have HM:=ah (HKEY.out l[k] (List.getElem_mem hlt))
    have EA:=ah (zP acc l k hlt)
    have HIS:=ah (Co acc l k hlt)
    have pY:=ah (wL acc l k hlt)
    have BI:=ah (vP (c:=l[k]))
    have iG:(k:Int)<l.length:=by omega
    have hz:=hN.aZ.size
    have lX:w.heap.size+1<wr.heap.size:=(bg hN.k2).1
    have HN:=ah hN
    obtain⟨d0,d1,d2,d3,_⟩:=ay hN.k1
    have f0:=aA hN.k1 0
    have f1:=aA hN.k1 1
    have f2:=aA hN.k1 2
    have f3:=aA hN.k1 3
    clear hN
    generalize l[k]=c at*
    have Cx:=ah (fun W=>F4 c W HM.out)
    obtain⟨r1,r2,r3,r4,r5,r6,r7⟩:=c
    simp only at c0 c1 c2 c3 c4 c5 c6
    clear d0 d1 d2 d3 f0 f1 f2 f3
    have dK:Below wr.heap.size wr (wr.alloc (.cells #[.string r1,.int .i64 r2,.int .i64 r3,.int .i64 r4,.int .i64 r5,.int .i64 r6,.int .i64 r7] 54)):=(aL _ _).alloc (aC _) _
    have hnew:=heap_alloc_new wr (.cells #[.string r1,.int .i64 r2,.int .i64 r3,.int .i64 r4,.int .i64 r5,.int .i64 r6,.int .i64 r7] 54)
    have wK:wr.heap.size<(wr.alloc (.cells #[.string r1,.int .i64 r2,.int .i64 r3,.int .i64 r4,.int .i64 r5,.int .i64 r6,.int .i64 r7] 54)).heap.size:=by simp
    have qy:=ah hnew
    clear hnew
    go_wp2_with fail
    generalize wr.alloc (.cells #[.string r1,.int .i64 r2,.int .i64 r3,.int .i64 r4,.int .i64 r5,.int .i64 r6,.int .i64 r7] 54)=w7 at*
    obtain⟨mb,hmb⟩:∃mb,mE ⟨r1,r2,r3,r4,r5,r6,r7⟩=mb:=⟨_,rfl⟩
    have hmay:=Cx.out w7
    rw[hmb]at hmay EA HIS pY BI
    refine hmay.mono ?_
    rintro e w3 ⟨rfl,hb3⟩
    have HB3:=ah (dK.trans (hb3.mono dK.size))
    have BJ:=ah hb3
    clear hmay hmb Cx hb3
    cases mb with
    | false=>
     have HS:Hid (newS l ids=(⟨[],[],[],[]⟩,1)):=J7.out 1 (by rw[HN.out.go,EA.out (by first | rfl | trivial)]) (by omega)
     obtain⟨d0,d1,d2,d3,_⟩:=ay (aj HN.out.k1 HB3.out (by omega))
     have f0:=aA (aj HN.out.k1 HB3.out (by omega)) 0
     have f1:=aA (aj HN.out.k1 HB3.out (by omega)) 1
     have f2:=aA (aj HN.out.k1 HB3.out (by omega)) 2
     have f3:=aA (aj HN.out.k1 HB3.out (by omega)) 3
     have hbw:=HN.out.aZ.trans (HB3.out.mono HN.out.aZ.size)
     go_wp2
     refine bodyPost_ret (v:=.tuple #[.agg #[.slice none 0 0,.slice none 0 0,.slice none 0 0,.slice none 0 0],.int .i64 1]) (by simp[results,Tryz.results20,go_sem, *]) rfl ⟨⟨⟨none,0,0⟩,⟨none,0,0⟩,⟨none,0,0⟩,⟨none,0,0⟩⟩,by rw[HS.out],by rw[HS.out];exact jA _,?_⟩
     exact(((hbw.setCell (aC _) _).setCell (aC _) _).setCell (aC _) _).setCell (aC _) _
    | true=>
     obtain⟨b1,b2,b3,b4⟩:=BI.out (by first | rfl | trivial)
     obtain⟨Jw,vD,rfl,_,_⟩:=aP HN.out.row
     obtain⟨e0,e1,e2,e3,_⟩:=ay (aj HN.out.k2 HB3.out lX)
     obtain⟨n0,n1,n2,n3,n4,n5,n6,_⟩:=aB (aj qy.out BJ.out wK)
     have hrow3:=aJ HN.out.row HB3.out (aC _)
     have J8:=ah (jy ⟨⟨Jw,acc.length,vD⟩,⟨none,0,0⟩,⟨none,0,0⟩,⟨none,0,0⟩⟩ acc r1 w3 (aI hrow3))
     clear hrow3
     go_wp2_with fail
     refine J8.out.mono ?_
     rintro e w4 ⟨rfl,hb4⟩
     clear J8
     have jd:=ah hb4
     have ko:=ah (HB3.out.trans (hb4.mono HB3.out.size))
     have Y6:=ah (BJ.out.trans (hb4.mono BJ.out.size))
     have jT:=ko.out.size
     clear e0 e1 e2 e3 n0 n1 n2 n3 n4 n5 n6
     by_cases hix:0≤bH acc r1
     ·have HS:Hid (newS l ids=(⟨[],[],[],[]⟩,7)):=J7.out 7 (by rw[HN.out.go,HIS.out (by first | rfl | trivial) hix]) (by omega)
      obtain⟨d0,d1,d2,d3,_⟩:=ay (aj HN.out.k1 ko.out (by omega))
      have f0:=aA (aj HN.out.k1 ko.out (by omega)) 0
      have f1:=aA (aj HN.out.k1 ko.out (by omega)) 1
      have f2:=aA (aj HN.out.k1 ko.out (by omega)) 2
      have f3:=aA (aj HN.out.k1 ko.out (by omega)) 3
      have hbw:=HN.out.aZ.trans (ko.out.mono HN.out.aZ.size)
      clear hb4
      go_wp2
      refine bodyPost_ret (v:=.tuple #[.agg #[.slice none 0 0,.slice none 0 0,.slice none 0 0,.slice none 0 0],.int .i64 7]) (by simp[results,Tryz.results20,go_sem, *]) rfl ⟨⟨⟨none,0,0⟩,⟨none,0,0⟩,⟨none,0,0⟩,⟨none,0,0⟩⟩,by rw[HS.out],by rw[HS.out];exact jA _,?_⟩
      exact(((hbw.setCell (aC _) _).setCell (aC _) _).setCell (aC _) _).setCell (aC _) _
     ·have Tx:decide (0≤bH acc r1)=false:=by simpa using hix
      have EB:=ah (pY.out (by first | rfl | trivial) (by omega))
      have hk4:=aj qy.out Y6.out wK
      obtain⟨n0,n1,n2,n3,n4,n5,n6,_⟩:=aB hk4
      have n5f:=ak hk4 5
      have n6f:=ak hk4 6
      have BH:=ah hk4
      obtain⟨e0,e1,e2,e3,_⟩:=ay (aj HN.out.k2 ko.out lX)
      clear hk4 hb4
      have Pb:=fF (aJ HN.out.row ko.out (aC _)) (fun c hc=>iP w4 wr.heap.size c hc 5 6 (.int .i64 (r4-r5)) (.int .i64 (r5-r3))) (fun e=>by have:=(HN.out.row.lt _ e).2;omega)
      have vE:Hid (∀W:World,W.heap.size=w4.heap.size→Rd (W.alloc (.cells #[.string r1,.int .i64 r2,.int .i64 r3,.int .i64 r4,.int .i64 r5,.int .i64 (r4-r5),.int .i64 (r5-r3)] 54)) (some ⟨w4.heap.size,0,none⟩) (aK jE [fill ⟨r1,r2,r3,r4,r5,r6,r7⟩])):=fun W hW=>tO W _ hW [.string r1,.int .i64 r2,.int .i64 r3,.int .i64 r4,.int .i64 r5,.int .i64 (r4-r5),.int .i64 (r5-r3)] _
      have hk3:acc.length<4:=by have:=HN.out.len;omega
      have J_:=ah Pb
      clear Pb pY HIS EA hix
      go_wp2_with ((with_reducible refine aY 47 ?_);refine kU rfl _ _ rfl (w.heap.size+2) _ acc.length acc rfl (J_.out.alloc _) _ 1 1 [fill ⟨r1,r2,r3,r4,r5,r6,r7⟩] rfl rfl (vE.out _ (by simp)) (by omega) (by simp;omega) ?_)
      intro v6 w6 qO D8 Ic
      have hbW:Below w.heap.size w (((w4.setCell ⟨wr.heap.size,5,none⟩ (.int .i64 (r4-r5))).setCell ⟨wr.heap.size,6,none⟩ (.int .i64 (r5-r3))).alloc (.cells #[.string r1,.int .i64 r2,.int .i64 r3,.int .i64 r4,.int .i64 r5,.int .i64 (r4-r5),.int .i64 (r5-r3)] 54)):=
       (((HN.out.aZ.trans (ko.out.mono HN.out.aZ.size)).setCell hz _).setCell hz _).alloc (by simp;omega) _
      have hb6:Below w.heap.size w w6:=hbW.grown D8 (by simp;omega) (fun g hg=>by have:=bK HN.out.row g hg;omega)
      have hk1:=(gQ D8 (b:=w.heap.size) (B:=w.heap.size+2) (by simp;omega) (by omega) (bK HN.out.row)).trans ((Below.heap_alloc _ _ _ (by simp;omega)).trans ((iP w4 wr.heap.size w.heap.size (by omega) 5 6 _ _).trans (aj HN.out.k1 ko.out (by omega))))
      have hk2:=(gQ D8 (b:=w.heap.size+1) (B:=w.heap.size+2) (by simp;omega) (by omega) (bK HN.out.row)).trans ((Below.heap_alloc _ _ _ (by simp;omega)).trans ((iP w4 wr.heap.size (w.heap.size+1) (by omega) 5 6 _ _).trans (aj HN.out.k2 ko.out lX)))
      obtain⟨F7,cap6,rfl,_,_⟩:=aP qO
      obtain⟨g0,g1,g2,g3,_⟩:=ay hk2
      have g0f:=aA hk2 0
      have gF:=ah hk1
      have fJ:=ah hk2
      have wP:=ah qO
      clear hk1 hk2 qO D8 Ic hbW n0 n1 n2 n3 n4 n5 n6 e0 e1 e2 e3 n5f n6f
      go_wp2
      go_roundw
      case rel=>
       refine⟨k+1,acc++ [fill ⟨r1,r2,r3,r4,r5,r6,r7⟩],.slice F7 (acc.length+1) cap6,by go_num,⟨by omega,by rw[HN.out.go,EB.out],by rw[List.length_append,HN.out.len];rfl,?_,?_,?_,?_⟩⟩
       ·rw[List.length_append];exact aM wP.out _ (by simp) _
       ·rw[aW _ _ _ (by simp)];exact gF.out
       ·exact lu fJ.out _
       ·exact hb6.setCell (by simp) _
      case measure=>simp[intOf];omega
   ·have hk:k=l.length:=by have:=hN.le;omega
    subst hk
    have HN:=ah hN
    clear hN
    go_wp2
    go_meet
    exact⟨acc,vc,HN.out⟩
 case rest=>
 obtain⟨acc,vc,hN⟩:=hcut
 have sQ:Hid (jI [] l=(0,acc)):=by show _=_;rw[hN.go,zQ _ _ _ (aC _)]
 have hlen:acc.length≤4:=by rw[hN.len];exact h4
 have hz:=hN.aZ.size
 have lX:w.heap.size+1<wc.heap.size:=(bg hN.k2).1
 have HN:=ah hN
 clear hN hst g4 g4'
 by_cases hi:0≤ids∧ids≤1000
 ·obtain⟨hi0,hi1⟩:=hi
  have HS:Hid (newS l ids=(⟨acc,gG [] (0,ids),[],[]⟩,0)):=by show _=_;unfold newS;rw[if_neg (by omega),sQ.out,if_neg (by simp),if_pos ⟨hi0,hi1⟩]
  obtain⟨Jw,vD,rfl,_,_⟩:=aP HN.out.row
  obtain⟨e0,e1,e2,e3,_⟩:=ay HN.out.k2
  have Uy:=aA HN.out.k2 1
  go_wp2_with (go_at_call 63;refine(dG _ _ _ _).mono ?_;rintro e w1 ⟨rfl,rfl⟩)
  have hla:=uL [] (0,ids)
  refine(Aw _ [] 0 ids _ (fq.nil _) (by simp)).mono ?_
  rintro e w1 ⟨v1,rfl,ho1,hb1⟩
  have hz1:=hb1.size
  have hk1:=aj HN.out.k1 hb1 (by omega)
  have hk2:=aj HN.out.k2 hb1 lX
  have hrow:=aJ HN.out.row hb1 (aC _)
  have hbw:=HN.out.aZ.trans (hb1.mono HN.out.aZ.size)
  obtain⟨Ay,yK,rfl,_,_⟩:=aP ho1
  clear e0 e1 e2 e3 Uy
  obtain⟨e0,e1,e2,e3,_⟩:=ay hk2
  have Uy:=aA hk2 1
  have HB:Hid (eD (w1.setCell ⟨w.heap.size+1,1,none⟩ (.slice Ay (gG [] (0,ids)).length yK)) ⟨⟨Jw,acc.length,vD⟩,⟨Ay,(gG [] (0,ids)).length,yK⟩,⟨none,0,0⟩,⟨none,0,0⟩⟩ ⟨acc,gG [] (0,ids),[],[]⟩):=
   ah ⟨aI (aM hrow _ (by simp) _),aI (aM ho1 _ (by show w.heap.size+1<_;omega) _),⟨[],cK.nil _ _ _,trivial⟩,Sl.nil _ _⟩
  have Uz:Hid (zN ⟨acc,gG [] (0,ids),[],[]⟩):=ah ⟨by show acc.length<_;omega,by show(gG [] (0,ids)).length<_;simp at hla;omega,by simp,by simp,by simp⟩
  have gF:=ah ((aW w1 ⟨w.heap.size+1,1,none⟩ w.heap.size (by simp) (.slice Ay (gG [] (0,ids)).length yK)).trans hk1)
  have dV:=ah (hbw.setCell (p:=⟨w.heap.size+1,1,none⟩) (by simp) (.slice Ay (gG [] (0,ids)).length yK))
  have hzs:w.heap.size<(w1.setCell ⟨w.heap.size+1,1,none⟩ (.slice Ay (gG [] (0,ids)).length yK)).heap.size:=by simp;omega
  clear hk1 hk2 hrow hbw ho1 hb1 hla
  go_wp2_with fail
  generalize w1.setCell ⟨w.heap.size+1,1,none⟩ (.slice Ay (gG [] (0,ids)).length yK)=w2 at*
  refine(h_ ⟨⟨Jw,acc.length,vD⟩,⟨Ay,(gG [] (0,ids)).length,yK⟩,⟨none,0,0⟩,⟨none,0,0⟩⟩ _ w2 HB.out Uz.out).mono ?_
  rintro e w3 ⟨⟨⟨ca,cn,cc⟩,⟨fa,fn,fc⟩,⟨la,ln,lc⟩,⟨ba,bn,bc⟩⟩,xs',C,rfl,ho3,hC,hb3⟩
  obtain⟨d0,d1,d2,d3,_⟩:=ay (aj gF.out hb3 hzs)
  have f0:=aA (aj gF.out hb3 hzs) 0
  have f1:=aA (aj gF.out hb3 hzs) 1
  have f2:=aA (aj gF.out hb3 hzs) 2
  have f3:=aA (aj gF.out hb3 hzs) 3
  have hbw:=dV.out.trans (hb3.mono dV.out.size)
  have HO:=ah ((((ho3.put hC ⟨w.heap.size,0,none⟩ hzs (.slice ca cn cc)).put hC ⟨w.heap.size,1,none⟩ hzs (.slice fa fn fc)).put hC ⟨w.heap.size,2,none⟩ hzs (.slice la ln lc)).put hC ⟨w.heap.size,3,none⟩ hzs (.slice ba bn bc))
  clear ho3 hb3
  go_wp2
  refine bodyPost_ret (v:=.tuple #[.agg #[.slice ca cn cc,.slice fa fn fc,.slice la ln lc,.slice ba bn bc],.int .i64 0]) (by simp[results,Tryz.results20,go_sem, *]) rfl ⟨⟨⟨ca,cn,cc⟩,⟨fa,fn,fc⟩,⟨la,ln,lc⟩,⟨ba,bn,bc⟩⟩,by rw[HS.out],by rw[HS.out];exact HO.out.m,?_⟩
  exact(((hbw.setCell (aC _) _).setCell (aC _) _).setCell (aC _) _).setCell (aC _) _
 ·have HS:Hid (newS l ids=(⟨[],[],[],[]⟩,1)):=by show _=_;unfold newS;rw[if_neg (by omega),sQ.out,if_neg (by simp),if_neg hi]
  have hd:(decide (0≤ids)&&decide (ids≤1000))=false:=by simp;omega
  obtain⟨d0,d1,d2,d3,_⟩:=ay HN.out.k1
  have f0:=aA HN.out.k1 0
  have f1:=aA HN.out.k1 1
  have f2:=aA HN.out.k1 2
  have f3:=aA HN.out.k1 3
  have hbw:=HN.out.aZ
  clear hi
  go_wp2_with (go_at_call 63;refine(dG _ _ _ _).mono ?_;rintro e w1 ⟨rfl,rfl⟩)
  refine bodyPost_ret (v:=.tuple #[.agg #[.slice none 0 0,.slice none 0 0,.slice none 0 0,.slice none 0 0],.int .i64 1]) (by simp[results,Tryz.results20,go_sem, *]) rfl ⟨⟨⟨none,0,0⟩,⟨none,0,0⟩,⟨none,0,0⟩,⟨none,0,0⟩⟩,by rw[HS.out],by rw[HS.out];exact jA _,?_⟩
  exact(((hbw.setCell (aC _) _).setCell (aC _) _).setCell (aC _) _).setCell (aC _) _
end Go.Proofs.YtlfopoimbbpfdaaGreat
namespace Go.Proofs.YtlfopoimbbpfdaaGreat
open Go.RowKit
def mK:Ls:=⟨0,0,0,0,[],[],[]⟩
def rD:bV:=⟨0,0,0,0,⟨none,0,0⟩,⟨none,0,0⟩,⟨none,0,0⟩⟩
def iT (b:Bk) (d ep:Int):Ls×Bool:=if 0≤jF b.ls d ep then(b.ls.getD (jF b.ls d ep).toNat mK,true)else(mK,false)
def Cy (w:World) (r:Ls×Bool) (e:Ending) (w':World):Prop:=∃ (x':bV),e= .returned (.tuple #[nI x',.bool r.2])∧iC w' w.heap.size x' r.1∧Below w.heap.size w w'
theorem gX (w:World) (B:Nat):iC w B rD mK:=⟨rfl,rfl,rfl,rfl,World.ownsRow_nil _ _ _ _,World.ownsRow_nil _ _ _ _,World.ownsRow_nil _ _ _ _⟩
theorem mV {w:World} {b:Nat} {a0 a1 a2 a3 a4 a5 a6:Value} {t:TypeId} (h:w.heap[b]? =some (.cells #[a0,a1,a2,a3,a4,a5,a6] t (0,0))) (x0 x1 x2 x3 x4 x5 x6:Value):
  (((((((w.setCell ⟨b,0,none⟩ x0).setCell ⟨b,1,none⟩ x1).setCell ⟨b,2,none⟩ x2).setCell ⟨b,3,none⟩ x3).setCell ⟨b,4,none⟩ x4).setCell ⟨b,5,none⟩ x5).setCell ⟨b,6,none⟩ x6).heap[b]? =some (.cells #[x0,x1,x2,x3,x4,x5,x6] t (0,0)):=by
 simp[World.setCell,Array.getElem?_modify,h]
set_option maxRecDepth 100000 in
set_option maxHeartbeats 4000000 in
theorem Ka (x:bZ) (b:Bk) (d ep:Int) (w:World) (h:eD w x b) (hl:zN b):
  Calls Tryz.prog 30 #[fT x,.int .i64 d,.int .i64 ep] w (Cy w (iT b d ep)):=by
 obtain⟨⟨ca,cn,cc⟩,⟨fa,aX,fc⟩,⟨la,ln,lc⟩,⟨ba,b_n,bc⟩⟩:=x
 obtain⟨a1,a2,a3,a4⟩:=b
 have hls:=h.l
 obtain⟨xs,hx,hxa⟩:=hls
 have hB:=hl.each
 have hnl:=hl.nl
 simp only[Sv.v]at hx hB hxa hnl
 obtain⟨q3,g3,g4⟩:=Sl.lens (s:=⟨la,ln,lc⟩) hx
 simp only at q3 g3 g4
 subst q3
 have HLEN:=ah hxa.len
 have q_:=ah hxa
 have HB:=ah hB
 have hxl:xs.length<1000000:=by have:=HLEN.out;omega
 clear hxa hB
 have hb1:Below w.heap.size w ((w.alloc (.cells #[.slice ca cn cc,.slice fa aX fc,.slice la xs.length lc,.slice ba b_n bc] 30)).alloc (.cells #[.int .i64 0,.int .i64 0,.int .i64 0,.int .i64 0,.slice none 0 0,.slice none 0 0,.slice none 0 0] 48)):=((aL _ _).alloc (aC _) _).alloc (by simp) _
 have gF:=ah (bJ w (.cells #[.slice ca cn cc,.slice fa aX fc,.slice la xs.length lc,.slice ba b_n bc] 30) (.cells #[.int .i64 0,.int .i64 0,.int .i64 0,.int .i64 0,.slice none 0 0,.slice none 0 0,.slice none 0 0] 48))
 have fJ:=ah (bE w (.cells #[.slice ca cn cc,.slice fa aX fc,.slice la xs.length lc,.slice ba b_n bc] 30) (.cells #[.int .i64 0,.int .i64 0,.int .i64 0,.int .i64 0,.slice none 0 0,.slice none 0 0,.slice none 0 0] 48))
 have hz2:w.heap.size+1<((w.alloc (.cells #[.slice ca cn cc,.slice fa aX fc,.slice la xs.length lc,.slice ba b_n bc] 30)).alloc (.cells #[.int .i64 0,.int .i64 0,.int .i64 0,.int .i64 0,.slice none 0 0,.slice none 0 0,.slice none 0 0] 48)).heap.size:=by simp
 have Pf:Hid (Aq ((w.alloc (.cells #[.slice ca cn cc,.slice fa aX fc,.slice la xs.length lc,.slice ba b_n bc] 30)).alloc (.cells #[.int .i64 0,.int .i64 0,.int .i64 0,.int .i64 0,.slice none 0 0,.slice none 0 0,.slice none 0 0] 48)) (.slice la xs.length lc) a3):=ah (Aq.keep ⟨xs,hx,q_.out⟩ hb1 (aC _))
 have dV:=ah hb1
 clear hb1 h hl
 change Calls Tryz.prog _ #[.agg #[.slice ca cn cc,.slice fa aX fc,.slice la xs.length lc,.slice ba b_n bc],.int .i64 d,.int .i64 ep] w _
 go_enter Tryz.func30,Tryz.ntmps30
 go_wp2_with fail
 generalize (w.alloc (.cells #[.slice ca cn cc,.slice fa aX fc,.slice la xs.length lc,.slice ba b_n bc] 30)).alloc (.cells #[.int .i64 0,.int .i64 0,.int .i64 0,.int .i64 0,.slice none 0 0,.slice none 0 0,.slice none 0 0] 48)=w2 at*
 refine(Eo ⟨⟨ca,cn,cc⟩,⟨fa,aX,fc⟩,⟨la,xs.length,lc⟩,⟨ba,b_n,bc⟩⟩ a3 d ep _ Pf.out).mono ?_
 rintro e w3 ⟨rfl,hb3⟩
 have vF:=dV.out.trans (hb3.mono dV.out.size)
 have EC:=ah (aj gF.out hb3 (by omega))
 have dO:=ah (aj fJ.out hb3 hz2)
 have hz3:w.heap.size+1<w3.heap.size:=(bg dO.out).1
 clear hb3
 obtain⟨d0,d1,d2,d3,_⟩:=ay EC.out
 obtain⟨n0,n1,n2,n3,n4,n5,n6,_⟩:=aB dO.out
 have f0:=ak dO.out 0
 have f1:=ak dO.out 1
 have f2:=ak dO.out 2
 have f3:=ak dO.out 3
 have f4:=ak dO.out 4
 have f5:=ak dO.out 5
 have f6:=ak dO.out 6
 rcases bQ (fun c:Ls=>decide (c.dev=d)&&decide (c.epoch=ep)) a3 with⟨hi,_⟩ | ⟨k,hk,hi,_,_⟩
 ·have HF:Hid (iT ⟨a1,a2,a3,a4⟩ d ep=(mK,false)):=by show _=_;unfold iT jF;simp only[hi];rfl
  rw[show jF a3 d ep= -1 from hi]
  clear hi
  go_wp2
  refine bodyPost_ret (v:=.tuple #[.agg #[.int .i64 0,.int .i64 0,.int .i64 0,.int .i64 0,.slice none 0 0,.slice none 0 0,.slice none 0 0],.bool false]) (by simp[results,Tryz.results30,go_sem, *]) rfl ⟨rD,by rw[HF.out];rfl,by rw[HF.out];exact gX _ _,?_⟩
  exact((((((vF.setCell (by simp) _).setCell (by simp) _).setCell (by simp) _).setCell (by simp) _).setCell (by simp) _).setCell (by simp) _).setCell (by simp) _
 ·have HF:Hid (iT ⟨a1,a2,a3,a4⟩ d ep=(a3[k],true)):=by
   show _=_
   unfold iT jF
   simp only[hi]
   rw[if_pos (by omega)]
   simp[List.getD,List.getElem?_eq_getElem hk]
  rw[show jF a3 d ep=k from hi]
  have hkx:k<xs.length:=by rw[HLEN.out];exact hk
  obtain⟨lb,lo,rfl,hlb,e0,e1,e2,e3,e4,e5,e6⟩:=cK.ls hx vF (aC _) k hkx
  have iG:(k:Int)<xs.length:=by omega
  have HM:=ah ((bI.at q_.out k hkx hk).keep vF (aC _))
  have Y7:=ah (HB.out a3[k] (List.getElem_mem hk))
  clear hi
  generalize a3[k]=l at*
  generalize xs[k]=z at*
  obtain⟨z1,z2,z3,z4,⟨z5,z6,z7⟩,⟨z8,z9,dD⟩,⟨dI,z12,dJ⟩⟩:=z
  simp only[Sv.v]at e0 e1 e2 e3 e4 e5 e6
  go_wp2_with fail
  refine(dZ ⟨z1,z2,z3,z4,⟨z5,z6,z7⟩,⟨z8,z9,dD⟩,⟨dI,z12,dJ⟩⟩ l _ HM.out Y7.out).mono ?_
  rintro e w4 ⟨⟨y1,y2,y3,y4,⟨y5,y6,y7⟩,⟨y8,y9,bW⟩,⟨bX,cB,y13⟩⟩,rfl,ho,hb4⟩
  have hk2:=aj dO.out hb4 hz3
  clear n0 n1 n2 n3 n4 n5 n6 f0 f1 f2 f3 f4 f5 f6
  obtain⟨n0,n1,n2,n3,n4,n5,n6,_⟩:=aB hk2
  have f0:=ak hk2 0
  have f1:=ak hk2 1
  have f2:=ak hk2 2
  have f3:=ak hk2 3
  have f4:=ak hk2 4
  have f5:=ak hk2 5
  have f6:=ak hk2 6
  have jR:=vF.trans (hb4.mono vF.size)
  have HO:=ah (((((((ho.put ⟨w.heap.size+1,0,none⟩ hz3 (.int .i64 y1)).put ⟨w.heap.size+1,1,none⟩ hz3 (.int .i64 y2)).put ⟨w.heap.size+1,2,none⟩ hz3 (.int .i64 y3)).put ⟨w.heap.size+1,3,none⟩ hz3 (.int .i64 y4)).put ⟨w.heap.size+1,4,none⟩ hz3 (.slice y5 y6 y7)).put ⟨w.heap.size+1,5,none⟩ hz3 (.slice y8 y9 bW)).put ⟨w.heap.size+1,6,none⟩ hz3 (.slice bX cB y13))
  clear hk2 ho hb4 e0 e1 e2 e3 e4 e5 e6 d0 d1 d2 d3
  go_wp2
  refine bodyPost_ret (v:=.tuple #[.agg #[.int .i64 y1,.int .i64 y2,.int .i64 y3,.int .i64 y4,.slice y5 y6 y7,.slice y8 y9 bW,.slice bX cB y13],.bool true]) (by simp[results,Tryz.results30,go_sem, *]) rfl ⟨⟨y1,y2,y3,y4,⟨y5,y6,y7⟩,⟨y8,y9,bW⟩,⟨bX,cB,y13⟩⟩,by rw[HF.out],by rw[HF.out];exact⟨HO.out.dev,HO.out.epoch,HO.out.bY,HO.out.last,aO HO.out.s (by omega),aO HO.out.i (by omega),aO HO.out.u (by omega)⟩,?_⟩
  exact((((((jR.setCell (by simp) _).setCell (by simp) _).setCell (by simp) _).setCell (by simp) _).setCell (by simp) _).setCell (by simp) _).setCell (by simp) _
theorem Tryz.Kc (args:Array Value) (W:World):(callFunc 70 args).run Tryz.prog W= .ok (.enter 70 args) W:=by kernel_rfl
theorem Tryz.Ke (args:Array Value) (W:World):(callFunc 72 args).run Tryz.prog W= .ok (.enter 72 args) W:=by kernel_rfl
set_option maxHeartbeats 1000000 in
theorem ED (x:bV) (b1:Nat) (d:Int) (w:World) (h1:w.cell? ⟨b1,0,none⟩=some (.int .i64 d)) (hb1:b1<w.heap.size):
  Calls Tryz.prog 70 #[nI x,.pointer (some ⟨b1,0,none⟩)] w fun e w'=>e= .returned (.bool (decide (x.dev=d)))∧Below w.heap.size w w':=by
 obtain⟨x1,x2,x3,x4,⟨x5,x6,x7⟩,⟨x8,x9,qV⟩,⟨qW,qX,qY⟩⟩:=x
 go_enter Tryz.func70,Tryz.ntmps70
 go_wp2
 go_ret
 exact⟨aN (by first | rfl | (simp [*];done) | (simp [*];rfl)),(aL _ _).alloc (aC _) _⟩
theorem QD {w:World} {b1:Nat} {d:Int} (h1:w.cell? ⟨b1,0,none⟩=some (.int .i64 d)) (l:List bV):kZ Tryz.prog w 70 #[.pointer (some ⟨b1,0,none⟩)] nI (fun c=>decide (c.dev=d)) l:=by
 have hb1:b1<w.heap.size:=World.block_lt_of_cell? w _ h1
 exact⟨Tryz.Kc,fun W hW x _=>ED x b1 d W (eT h1 hW hb1) (Nat.lt_of_lt_of_le hb1 hW.size)⟩
set_option maxHeartbeats 1000000 in
theorem EF (c:Wn) (b:Nat) (key:ByteArray) (w:World) (hc:w.cell? ⟨b,0,none⟩=some (.string key)) (hb:b<w.heap.size):
  Calls Tryz.prog 72 #[O5 c,.pointer (some ⟨b,0,none⟩)] w fun e w'=>e= .returned (.bool (decide (c.key=key)))∧Below w.heap.size w w':=by
 have HK:=ah (key_eq c.key key)
 obtain⟨c1,c2,c3,c4⟩:=c
 go_enter Tryz.func72,Tryz.ntmps72
 go_wp2
 go_ret
 exact⟨aN HK.out,(aL _ _).alloc (aC _) _⟩
theorem QE {w:World} {b:Nat} {key:ByteArray} (hc:w.cell? ⟨b,0,none⟩=some (.string key)) (l:List Wn):kZ Tryz.prog w 72 #[.pointer (some ⟨b,0,none⟩)] O5 (fun c=>decide (c.key=key)) l:=by
 have hb:b<w.heap.size:=World.block_lt_of_cell? w _ hc
 exact⟨Tryz.Ke,fun W hW x _=>EF x b key W (eT hc hW hb) (Nat.lt_of_lt_of_le hb hW.size)⟩
end Go.Proofs.YtlfopoimbbpfdaaGreat
namespace Go.Proofs.YtlfopoimbbpfdaaGreat
open Go.RowKit
theorem aH {W W':World} {g base:Nat} {e T:TypeId} {E:Nat} {v:Value} {n:Nat} {xs:List Value} {cur:Array Value} {z:Nat×Nat} (h:W.ownsRow base e E v n xs) (hoth:∀b,b≠g→W'.heap[b]? =W.heap[b]?) (hg:W.heap[g]? =some (.cells cur T z)) (hne:e≠T):W'.ownsRow base e E v n xs:=fF h hoth (jW h hg hne)
theorem iC.other {W W':World} {g B:Nat} {T:TypeId} {x:bV} {l:Ls} {cur:Array Value} {z:Nat×Nat} (h:iC W B x l) (hoth:∀b,b≠g→W'.heap[b]? =W.heap[b]?) (hg:W.heap[g]? =some (.cells cur T z)) (h1: 88 ≠T) (h2: 56 ≠T) (h3: 3 ≠T):iC W' B x l:=
 ⟨h.dev,h.epoch,h.bY,h.last,aH h.s hoth hg h1,aH h.i hoth hg h2,aH h.u hoth hg h3⟩
theorem eu {w:World} {base:Nat} {e:TypeId} {E g n cap:Nat} {xs:List Value} (h:w.ownsRow base e E (.slice (some ⟨g,0,none⟩) n cap) n xs):∃cur:Array Value,w.heap[g]? =some (.cells cur e (0,0)):=by
 obtain⟨_,hv⟩:=h
 rcases hv with⟨hv,_⟩ | ⟨q,cp,cur,hv,_,hh,_⟩
 ·cases hv
 ·injection hv with hv
  injection hv with hv
  injection hv with hv
  subst hv
  exact⟨cur,hh⟩
theorem jK {w:World} {base:Nat} {e:TypeId} {E n:Nat} {v:Value} {xs:List Value} {g:Nat} (h:w.ownsRow base e E v n xs) (hg:v.ownBlock=some g):∃cur:Array Value,w.heap[g]? =some (.cells cur e (0,0)):=by
 obtain⟨_,hv⟩:=h
 rcases hv with⟨rfl,_⟩ | ⟨q,cp,cur,rfl,_,hh,_⟩
 ·cases hg
 ·injection hg with hg
  subst hg
  exact⟨cur,hh⟩
theorem bI.imp_mem {α β:Type} {R S:α→β→Prop}:∀ {l:List α} {m:List β},bI R l m→(∀a b,a∈l→R a b→S a b)→bI S l m
 | [],[],_,_=>trivial
 | a::l,b::m,h,hp=>⟨hp a b (by simp) h.1,bI.imp_mem h.2 (fun x y hx r=>hp x y (by simp[hx]) r)⟩
 | [],_::_,h,_=>absurd h (by simp[bI])
 | _::_,[],h,_=>absurd h (by simp[bI])
structure Gr (B D pb pl:Nat) (w0 W:World) (x:bZ) (b:Bk) (xs:List bV) (y:bV) (l:Ls):Prop where
 aZ:Below B w0 W
 kb:W.heap[pb]? =some (.cells #[x.c.v,x.f.v,x.l.v,x.b.v] 30 (0,0))
 kl:W.heap[pl]? =some (.cells #[.int .i64 y.dev,.int .i64 y.epoch,.int .i64 y.bY,.int .i64 y.last,y.s.v,y.i.v,y.u.v] 48 (0,0))
 hb:B≤pb
 hl:B≤pl
 hD:B≤D
 rc:W.ownsRow B 54 7 x.c.v b.cs.length (aK jE b.cs)
 rf:W.ownsRow B 56 2 x.f.v b.free.length (aR b.free)
 rl:W.ownsRow B 48 7 x.l.v b.ls.length (aK iZ xs)
 rb:W.ownsRow B 3 1 x.b.v b.bound.length (bM b.bound)
 each:bI (iC W B) xs b.ls
 low:∀z∈xs,∀g,z.s.v.ownBlock=some g→g<D
 NG:x.l.v.ownBlock≠some pl
 dev:y.dev=l.dev
 epoch:y.epoch=l.epoch
 bY:y.bY=l.bY
 last:y.last=l.last
 ys:W.ownsRow D 88 5 y.s.v l.sl.length (aK jm l.sl)
 yi:W.ownsRow B 56 2 y.i.v l.ids.length (aR l.ids)
 yu:y.u=⟨none,0,0⟩
 used:l.used= []
section
variable {B D pb pl:Nat} {w0 W W':World} {x:bZ} {b:Bk} {xs:List bV} {y:bV} {l:Ls}
theorem Gr.Ie (h:Gr B D pb pl w0 W x b xs y l):pb<W.heap.size:=(bg h.kb).1
theorem Gr.szl (h:Gr B D pb pl w0 W x b xs y l):pl<W.heap.size:=(bg h.kl).1
theorem Gr.ne (h:Gr B D pb pl w0 W x b xs y l):pb≠pl:=fun e=>by
 have h1:=h.kb
 rw[e,h.kl]at h1
 injection h1 with h1
 injection h1 with _ h1 _
 exact absurd h1 (by decide)
theorem Gr.keep (h:Gr B D pb pl w0 W x b xs y l) (hb:Below W.heap.size W W'):Gr B D pb pl w0 W' x b xs y l:=
 ⟨h.aZ.trans (hb.mono (Nat.le_trans h.hb (Nat.le_of_lt h.Ie))),aj h.kb hb h.Ie,aj h.kl hb h.szl,h.hb,h.hl,h.hD,aJ h.rc hb (aC _),aJ h.rf hb (aC _),aJ h.rl hb (aC _),aJ h.rb hb (aC _),
  h.each.imp (fun _ _ r=>r.keep hb (aC _)),h.low,h.NG,h.dev,h.epoch,h.bY,h.last,aJ h.ys hb (aC _),aJ h.yi hb (aC _),h.yu,h.used⟩
theorem Gr.drew (h:Gr B D pb pl w0 W x b xs y l):Gr B D pb pl w0 W.drew x b xs y l:=h.keep (aL _ _).drew
theorem Gr.m (h:Gr B D pb pl w0 W x b xs y l):eD W x b:=
 ⟨aI h.rc,aI h.rf,⟨xs,by have:=aI h.rl;rw[←h.each.len]at this;exact this,h.each.imp (fun _ _ r=>r.m)⟩,aI h.rb⟩
theorem Gr.lm (h:Gr B D pb pl w0 W x b xs y l):lW W y l:=⟨h.dev,h.epoch,h.bY,h.last,aI h.ys,aI h.yi,by rw[h.yu,h.used];exact Sl.nil _ _⟩
theorem Gr.Az (h:Gr B D pb pl w0 W x b xs y l) {f':Sv} {free':List Rg} (ho:W.ownsRow B 56 2 f'.v free'.length (aR free')):
  Gr B D pb pl w0 (W.setCell ⟨pb,1,none⟩ f'.v) ⟨x.c,f',x.l,x.b⟩ ⟨b.cs,free',b.ls,b.bound⟩ xs y l:=by
 have hoth:∀c,c≠pb→(W.setCell ⟨pb,1,none⟩ f'.v).heap[c]? =W.heap[c]? :=fun c hc=>aW _ _ _ (fun e=>hc e.symm) _
 exact⟨h.aZ.setCell h.hb _,lC h.kb _,(hoth pl (fun e=>h.ne e.symm)).trans h.kl,h.hb,h.hl,h.hD,aH h.rc hoth h.kb (by decide),aH ho hoth h.kb (by decide),aH h.rl hoth h.kb (by decide),aH h.rb hoth h.kb (by decide),
  h.each.imp (fun _ _ r=>r.other hoth h.kb (by decide) (by decide) (by decide)),h.low,h.NG,h.dev,h.epoch,h.bY,h.last,aH h.ys hoth h.kb (by decide),aH h.yi hoth h.kb (by decide),h.yu,h.used⟩
theorem AA {w:World} {b:Nat} {a0 a1 a2 a3 a4 a5 a6:Value} {t:TypeId} (h:w.heap[b]? =some (.cells #[a0,a1,a2,a3,a4,a5,a6] t (0,0))) (x:Value):
  (w.setCell ⟨b,5,none⟩ x).heap[b]? =some (.cells #[a0,a1,a2,a3,a4,x,a6] t (0,0)):=by
 simp[World.setCell,Array.getElem?_modify,h]
theorem EG {w:World} {b:Nat} {a0 a1 a2 a3 a4 a5 a6:Value} {t:TypeId} (h:w.heap[b]? =some (.cells #[a0,a1,a2,a3,a4,a5,a6] t (0,0))) (x:Value):
  (w.setCell ⟨b,4,none⟩ x).heap[b]? =some (.cells #[a0,a1,a2,a3,x,a5,a6] t (0,0)):=by
 simp[World.setCell,Array.getElem?_modify,h]
theorem Gr.Kg (h:Gr B D pb pl w0 W x b xs y l) {i':Sv} {wQ:List Rg} (ho:W.ownsRow B 56 2 i'.v wQ.length (aR wQ)):
  Gr B D pb pl w0 (W.setCell ⟨pl,5,none⟩ i'.v) x b xs ⟨y.dev,y.epoch,y.bY,y.last,y.s,i',y.u⟩ ⟨l.dev,l.epoch,l.bY,l.last,l.sl,wQ,l.used⟩:=by
 have hoth:∀c,c≠pl→(W.setCell ⟨pl,5,none⟩ i'.v).heap[c]? =W.heap[c]? :=fun c hc=>aW _ _ _ (fun e=>hc e.symm) _
 exact⟨h.aZ.setCell h.hl _,(hoth pb h.ne).trans h.kb,AA h.kl _,h.hb,h.hl,h.hD,aH h.rc hoth h.kl (by decide),aH h.rf hoth h.kl (by decide),fF h.rl hoth h.NG,aH h.rb hoth h.kl (by decide),
  h.each.imp (fun _ _ r=>r.other hoth h.kl (by decide) (by decide) (by decide)),h.low,h.NG,h.dev,h.epoch,h.bY,h.last,aH h.ys hoth h.kl (by decide),aH ho hoth h.kl (by decide),h.yu,h.used⟩
theorem uM (l:List Ct) (k:Nat) (hk:k<l.length) (u d:Int):
  ((aK jE l).set (k*7+5) (.int .i64 u)).set (k*7+6) (.int .i64 d)=aK jE (l.set k ⟨l[k].key,l[k].coll,l[k].lo,l[k].hi,l[k].start,u,d⟩):=by
 induction l generalizing k with
 | nil=>simp at hk
 | cons x l ih=>
  cases k with
  | zero=>simp[aU,jE]
  | succ k=>
   have e:∀j,(k+1)*7+j=k*7+j+7:=fun j=>by omega
   rw[List.set_cons_succ,aU,aU,List.getElem_cons_succ,←ih k (by simpa using hk)]
   simp only[e]
   simp[jE]
theorem Gr.AB (h:Gr B D pb pl w0 W x b xs y l) {g n cap:Nat} (hx:x.c=⟨some ⟨g,0,none⟩,n,cap⟩) (k:Nat) (hk:k<b.cs.length) (u d:Int):
  Gr B D pb pl w0 ((W.setCell ⟨g,k*7+5,none⟩ (.int .i64 u)).setCell ⟨g,k*7+6,none⟩ (.int .i64 d)) x ⟨b.cs.set k ⟨b.cs[k].key,b.cs[k].coll,b.cs[k].lo,b.cs[k].hi,b.cs[k].start,u,d⟩,b.free,b.ls,b.bound⟩ xs y l:=by
 have hoth:∀c,c≠g→((W.setCell ⟨g,k*7+5,none⟩ (.int .i64 u)).setCell ⟨g,k*7+6,none⟩ (.int .i64 d)).heap[c]? =W.heap[c]? :=fun c hc=>iP _ _ _ hc _ _ _ _
 have hrc:=h.rc
 rw[hx]at hrc
 simp only[Sv.v]at hrc
 have hn:n=b.cs.length:=by
  obtain⟨_,_,he,_,_⟩:=aP hrc
  injection he with _ he _
 subst hn
 obtain⟨cur,hg⟩:=eu hrc
 have hB:B≤g:=(bq hrc).1
 have hl:(aK jE b.cs).length=b.cs.length*7:=bL dX _
 have hlt:k*7+6<b.cs.length*7:=by omega
 have hset:=dF (dF hrc (k*7+5) (by omega) (.int .i64 u)) (k*7+6) (by rw[List.length_set];omega) (.int .i64 d)
 rw[uM _ _ hk]at hset
 have hgb:pb≠g:=fun e=>by
  have h1:=h.kb
  rw[e,hg]at h1
  injection h1 with h1
  injection h1 with _ h1 _
  exact absurd h1 (by decide)
 have hgl:pl≠g:=fun e=>by
  have h1:=h.kl
  rw[e,hg]at h1
  injection h1 with h1
  injection h1 with _ h1 _
  exact absurd h1 (by decide)
 exact⟨(h.aZ.setCell hB _).setCell hB _,(hoth pb hgb).trans h.kb,(hoth pl hgl).trans h.kl,h.hb,h.hl,h.hD,by rw[hx];show World.ownsRow _ _ _ _ _ (b.cs.set _ _).length _;rw[List.length_set];exact hset,aH h.rf hoth hg (by decide),aH h.rl hoth hg (by decide),aH h.rb hoth hg (by decide),
  h.each.imp (fun _ _ r=>r.other hoth hg (by decide) (by decide) (by decide)),h.low,h.NG,h.dev,h.epoch,h.bY,h.last,aH h.ys hoth hg (by decide),aH h.yi hoth hg (by decide),h.yu,h.used⟩
theorem Gr.app (h:Gr B D pb pl w0 W x b xs y l) {v':Sv} {s:Sc} (ho:W'.ownsRow D 88 5 v'.v (l.sl.length+1) (aK jm (l.sl++ [s]))) (hg:W.grownBy W' y.s.v.ownBlock) (_hsz:D≤W.heap.size):
  Gr B D pb pl w0 (W'.setCell ⟨pl,4,none⟩ v'.v) x b xs ⟨y.dev,y.epoch,y.bY,y.last,v',y.i,y.u⟩ ⟨l.dev,l.epoch,l.bY,l.last,l.sl++ [s],l.ids,l.used⟩:=by
 have hne:∀ {base e E v n zs},W.ownsRow base e E v n zs→e≠ 88 →W'.ownsRow base e E v n zs:=fun {base e E v n zs} hr he=>by
  refine hr.kept hg ?_
  cases hv:v.ownBlock with
  | none=>exact .inl rfl
  | some q=>
   refine .inr (fun hq=>?_)
   rcases hy:y.s.v.ownBlock with _ | q2
   ·rw[hy]at hq;cases hq
   ·rw[hy]at hq
    obtain⟨cur,hc⟩:=jK h.ys hy
    injection hq with hq
    subst hq
    exact jW hr hc he hv
 have hlow:∀z∈xs,∀ {n zs},W.ownsRow B 88 5 z.s.v n zs→W'.ownsRow B 88 5 z.s.v n zs:=fun z hz {n zs} hr=>by
  refine hr.kept hg ?_
  cases hv:z.s.v.ownBlock with
  | none=>exact .inl rfl
  | some q=>
   refine .inr (fun hq=>?_)
   have h1:=h.low z hz q hv
   have h2:=(h.ys.lt q hq.symm).1
   omega
 have Cz:bI (iC W' B) xs b.ls:=h.each.imp_mem (fun z l' hz r=>⟨r.dev,r.epoch,r.bY,r.last,hlow z hz r.s,hne r.i (by decide),hne r.u (by decide)⟩)
 have hblk:∀ (q:Nat) (o:Obj),W.heap[q]? =some o→(∀cur z,o≠ .cells cur 88 z)→W'.heap[q]? =some o:=fun q o hq ho'=>by
  rw[hg.block q (bg hq).1 (fun e=>by
   obtain⟨cur,hc⟩:=jK h.ys e.symm
   rw[hq]at hc
   injection hc with hc
   exact ho' _ _ hc)]
  exact hq
 have hkl:=hblk pl _ h.kl (fun cur z e=>by injection e with _ e _;exact absurd e (by decide))
 have hkb:=hblk pb _ h.kb (fun cur z e=>by injection e with _ e _;exact absurd e (by decide))
 have hoth:∀c,c≠pl→(W'.setCell ⟨pl,4,none⟩ v'.v).heap[c]? =W'.heap[c]? :=fun c hc=>aW _ _ _ (fun e=>hc e.symm) _
 have hbel:Below B w0 W':=h.aZ.grown hg (Nat.le_trans h.hb (Nat.le_of_lt h.Ie)) (fun g' hg'=>Nat.le_trans h.hD (h.ys.lt g' hg').1)
 have hol:∀ {n zs},W'.ownsRow D 88 5 v'.v n zs→(W'.setCell ⟨pl,4,none⟩ v'.v).ownsRow D 88 5 v'.v n zs:=fun hr=>aH hr hoth hkl (by decide)
 exact⟨hbel.setCell h.hl _,(hoth pb h.ne).trans hkb,EG hkl _,h.hb,h.hl,h.hD,aH (hne h.rc (by decide)) hoth hkl (by decide),aH (hne h.rf (by decide)) hoth hkl (by decide),fF (hne h.rl (by decide)) hoth h.NG,aH (hne h.rb (by decide)) hoth hkl (by decide),
  Cz.imp (fun _ _ r=>r.other hoth hkl (by decide) (by decide) (by decide)),h.low,h.NG,h.dev,h.epoch,h.bY,h.last,by show World.ownsRow _ _ _ _ _ (l.sl++ [s]).length _;rw[List.length_append];exact hol ho,aH (hne h.yi (by decide)) hoth hkl (by decide),h.yu,h.used⟩
end
end Go.Proofs.YtlfopoimbbpfdaaGreat
