/- What the law asks, in parts: LWkI LGa LGb. -/
import Derived.Test.YtlfopoimbbpfdaaGreatPk4
import Derived.Test.YtlfopoimbbpfdaaGreatPk5
import Derived.Test.YtlfopoimbbpfdaaGreatPk2
set_option linter.all false
set_option maxRecDepth 100000
set_option maxHeartbeats 16000000
namespace Go.Proofs.YtlfopoimbbpfdaaGreat
open Go.RowKit
theorem ow {w:World} {b:Nat} {a0 a1 a2 a3:Value} {t:TypeId} (h:w.heap[b]? =some (.cells #[a0,a1,a2,a3] t (0,0))) (x:Value):(w.setCell ⟨b,0,none⟩ x).heap[b]? =some (.cells #[x,a1,a2,a3] t (0,0)):=by
 simp[World.setCell,Array.getElem?_modify,h]
theorem oC {w:World} {b:Nat} {a0 a1 a2 a3:Value} {t:TypeId} (h:w.heap[b]? =some (.cells #[a0,a1,a2,a3] t (0,0))) (x:Value):(w.setCell ⟨b,1,none⟩ x).heap[b]? =some (.cells #[a0,x,a2,a3] t (0,0)):=by
 simp[World.setCell,Array.getElem?_modify,h]
theorem aX (w:World) (p:Addr) (b:Nat) (h:p.block≠b) (x:Value):(w.setCell p x).heap[b]? =w.heap[b]? :=by
 simp[World.setCell,Array.getElem?_modify,h]
theorem mQ (w:World) (b c:Nat) (h:c≠b) (i j:Nat) (x y:Value):((w.setCell ⟨b,i,none⟩ x).setCell ⟨b,j,none⟩ y).heap[c]? =w.heap[c]? :=by
 have h':¬b=c:=fun e=>h e.symm
 simp[World.setCell,Array.getElem?_modify,h']
theorem tu (w:World) (b:Nat) (hb:w.heap.size=b) (cs:List Value) (t:TypeId):Rd (w.alloc (.cells cs.toArray t)) (some ⟨b,0,none⟩) cs:=by
 subst hb;intro j u hu;refine⟨_,rfl,?_⟩;rw[Addr.add_lit,World.cell?,show(w.alloc (.cells cs.toArray t)).heap[(⟨w.heap.size,0+j,none⟩:Addr).block]? =_ from heap_alloc_new w _];simpa using hu
theorem jF.put {w:World} {C:Nat} {x:cB} {l:Ls} (h:jF w C x l) (p:Addr) (hp:p.block<C) (u:Value):jF (w.setCell p u) C x l:=
 ⟨h.dev,h.epoch,h.bU,h.last,aM h.s p hp u,aM h.i p hp u,aM h.u p hp u⟩
theorem uI.put {w:World} {B C:Nat} {x:dN} {b:Bk} {xs:List cB} (h:uI w B C x b xs) (hBC:B≤C) (p:Addr) (hp:p.block<B) (u:Value):uI (w.setCell p u) B C x b xs:=
 ⟨aM h.rc p hp u,aM h.rf p hp u,aM h.rl p hp u,aM h.rb p hp u,h.cl,h.fl,h.ll,h.bl,h.each.imp (fun _ _ r=>r.put p (Nat.lt_of_lt_of_le hp hBC) u)⟩
def uY (w:World) (r:Bk×Int) (e:Ending) (w':World):Prop:=∃ (x':dN),e= .returned (.tuple #[iJ x',.int .i64 r.2])∧iA w' x' r.1∧Below w.heap.size w w'
theorem kT (w:World):iA w ⟨⟨none,0,0⟩,⟨none,0,0⟩,⟨none,0,0⟩,⟨none,0,0⟩⟩ ⟨[],[],[],[]⟩:=
 ⟨dI.nil _ _ _,fD.nil _,⟨[],dI.nil _ _ _,trivial⟩,Sl.nil _ _⟩
theorem O6 (v:Value) (l:List Ct) (ids:Int) (w:World) (h:oN w v l) (h4:4<l.length):
  Calls Tryz.prog 20 #[v,.int .i64 ids] w (uY w (newS l ids)):=by
 have HS:Hid (newS l ids=(⟨[],[],[],[]⟩,4)):=by show _=_;unfold newS;rw[if_pos h4]
 obtain⟨ao,cap,rfl,dO,hm⟩:=Sl.shape h;have g4:(4:Int)<l.length:=by omega
 clear h
 go_enter Tryz.func20,Tryz.ntmps20
 go_wp2;refine bodyPost_ret (v:=.tuple #[.agg #[.slice none 0 0,.slice none 0 0,.slice none 0 0,.slice none 0 0],.int .i64 4]) (by simp[results,Tryz.results20,go_sem]) rfl ⟨⟨⟨none,0,0⟩,⟨none,0,0⟩,⟨none,0,0⟩,⟨none,0,0⟩⟩,by rw[HS.out],by rw[HS.out];exact kT _,(aL _ _).alloc (aC _) _⟩
structure MR (w:World) (l:List Ct) (k:Nat) (acc:List Ct) (vc:Value) (wr:World):Prop where
 le:k≤l.length
 go:lG [] l=lG acc (l.drop k)
 len:acc.length=k
 row:wr.ownsRow (w.heap.size+2) 54 7 vc acc.length (aJ kY acc)
 k1:wr.heap[w.heap.size]? =some (.cells #[.slice none 0 0,.slice none 0 0,.slice none 0 0,.slice none 0 0] 30 (0,0))
 k2:wr.heap[w.heap.size+1]? =some (.cells #[vc,.slice none 0 0,.slice none 0 0,.slice none 0 0] 30 (0,0))
 bC:Below w.heap.size w wr
theorem tQ {c:Ct} (h:mX c=true): -1099511627776≤c.lo∧c.lo≤c.start∧c.start≤c.hi∧c.hi≤1099511627776:=by
 unfold mX at h;simp only[Bool.and_eq_true,decide_eq_true_iff]at h;omega
theorem SS (v:Value) (l:List Ct) (ids:Int) (w:World) (h:oN w v l) (h4:l.length≤4) (uZ:∀c∈l,c.key.size≤maxLen):
  Calls Tryz.prog 20 #[v,.int .i64 ids] w (uY w (newS l ids)):=by
 obtain⟨ao,cap,rfl,dO,hm⟩:=Sl.shape h;have g4:decide (4<(l.length:Int))=false:=by simp;omega
 have g4':decide (4<l.length)=false:=by simp;omega
 have O7:Hid (∀n,(lG [] l).1=n→n≠0→newS l ids=(⟨[],[],[],[]⟩,n)):=fun n hn h0=>by
  unfold newS;rw[if_neg (by omega),if_pos (by rw[hn];exact h0),hn]
 have HKEY:=ah uZ;clear uZ
 go_enter Tryz.func20,Tryz.ntmps20
 go_upto_block 0 with fail
 have uE:MR w l 0 [] (.slice none 0 0) ((w.alloc (.cells #[.slice none 0 0,.slice none 0 0,.slice none 0 0,.slice none 0 0] 30)).alloc (.cells #[.slice none 0 0,.slice none 0 0,.slice none 0 0,.slice none 0 0] 30)):=
  ⟨Nat.zero_le _,rfl,rfl,World.ownsRow_nil _ _ _ _,bX _ _ _,bL _ _ _,((aL _ _).alloc (aC _) _).alloc (by simp) _⟩
 go_cut[15] (fun _ wx=>∃acc vc,MR w l l.length acc vc wx)
 case first=>
  go_wp2
  go_loopw[15] (fun vk wr=>∃ (k:Nat) (acc:List Ct) (vc:Value),vk= .int .i64 k∧MR w l k acc vc wr) (fun vk _=>l.length-(intOf vk).toNat)
  case atStart=>exact⟨0,[],_,rfl,uE⟩
  case round=>
   clear uE;obtain⟨k,acc,vc,rfl,hN⟩:=hrel;rcases Nat.lt_or_ge k l.length with bA | gX
   ·obtain⟨b,off,rfl,kZ,c0,c1,c2,c3,c4,c5,c6⟩:=h.ct hN.bC (aC _) k bA
    have HM:=ah (HKEY.out l[k] (List.getElem_mem bA));have Jc:=ah (Dn acc l k bA);have HIS:=ah (Ga acc l k bA);have uJ:=ah (Aq acc l k bA);have Jd:=ah (tQ (c:=l[k]));have jK:(k:Int)<l.length:=by omega
    have hz:=hN.bC.size;have mG:w.heap.size+1<wr.heap.size:=(bq hN.k2).1;have HN:=ah hN;obtain⟨d0,d1,d2,d3,_⟩:=ay hN.k1;have f0:=aA hN.k1 0;have f1:=aA hN.k1 1;have f2:=aA hN.k1 2;have f3:=aA hN.k1 3;clear hN;generalize l[k]=c at*;have zA:=ah (fun W=>KN c W HM.out);obtain⟨r1,r2,r3,r4,r5,r6,r7⟩:=c;simp only at c0 c1 c2 c3 c4 c5 c6;clear d0 d1 d2 d3 f0 f1 f2 f3;have eD:Below wr.heap.size wr (wr.alloc (.cells #[.string r1,.int .i64 r2,.int .i64 r3,.int .i64 r4,.int .i64 r5,.int .i64 r6,.int .i64 r7] 54)):=(aL _ _).alloc (aC _) _;have hnew:=heap_alloc_new wr (.cells #[.string r1,.int .i64 r2,.int .i64 r3,.int .i64 r4,.int .i64 r5,.int .i64 r6,.int .i64 r7] 54);have Dm:wr.heap.size<(wr.alloc (.cells #[.string r1,.int .i64 r2,.int .i64 r3,.int .i64 r4,.int .i64 r5,.int .i64 r6,.int .i64 r7] 54)).heap.size:=by simp
    have uV:=ah hnew;clear hnew;go_wp2_with fail
    generalize wr.alloc (.cells #[.string r1,.int .i64 r2,.int .i64 r3,.int .i64 r4,.int .i64 r5,.int .i64 r6,.int .i64 r7] 54)=w7 at*;obtain⟨mb,hmb⟩:∃mb,mX ⟨r1,r2,r3,r4,r5,r6,r7⟩=mb:=⟨_,rfl⟩;have hmay:=zA.out w7;rw[hmb]at hmay Jc HIS uJ Jd;refine hmay.mono ?_;rintro e w3 ⟨rfl,bT⟩;have lI:=ah (eD.trans (bT.mono eD.size));have Je:=ah bT;clear hmay hmb zA bT
    cases mb with
    | false=>
     have HS:Hid (newS l ids=(⟨[],[],[],[]⟩,1)):=O7.out 1 (by rw[HN.out.go,Jc.out (by first | rfl | trivial)]) (by omega);obtain⟨d0,d1,d2,d3,_⟩:=ay (aj HN.out.k1 lI.out (by omega));have f0:=aA (aj HN.out.k1 lI.out (by omega)) 0;have f1:=aA (aj HN.out.k1 lI.out (by omega)) 1;have f2:=aA (aj HN.out.k1 lI.out (by omega)) 2;have f3:=aA (aj HN.out.k1 lI.out (by omega)) 3;have jw:=HN.out.bC.trans (lI.out.mono HN.out.bC.size);go_wp2;refine bodyPost_ret (v:=.tuple #[.agg #[.slice none 0 0,.slice none 0 0,.slice none 0 0,.slice none 0 0],.int .i64 1]) (by simp[results,Tryz.results20,go_sem, *]) rfl ⟨⟨⟨none,0,0⟩,⟨none,0,0⟩,⟨none,0,0⟩,⟨none,0,0⟩⟩,by rw[HS.out],by rw[HS.out];exact kT _,?_⟩;exact(((jw.setCell (aC _) _).setCell (aC _) _).setCell (aC _) _).setCell (aC _) _
    | true=>
     obtain⟨b1,b2,b3,b4⟩:=Jd.out (by first | rfl | trivial);obtain⟨Ox,zB,rfl,_,_⟩:=aO HN.out.row;obtain⟨e0,e1,e2,e3,_⟩:=ay (aj HN.out.k2 lI.out mG);obtain⟨n0,n1,n2,n3,n4,n5,n6,_⟩:=aB (aj uV.out Je.out Dm);have hrow3:=aI HN.out.row lI.out (aC _);have O8:=ah (mW ⟨⟨Ox,acc.length,zB⟩,⟨none,0,0⟩,⟨none,0,0⟩,⟨none,0,0⟩⟩ acc r1 w3 (aG hrow3));clear hrow3;go_wp2_with fail
     refine O8.out.mono ?_;rintro e w4 ⟨rfl,bR⟩;clear O8;have lC:=ah bR;have ng:=ah (lI.out.trans (bR.mono lI.out.size));have ac8:=ah (Je.out.trans (bR.mono Je.out.size));have mP:=ng.out.size;clear e0 e1 e2 e3 n0 n1 n2 n3 n4 n5 n6;by_cases sQ:0≤bJ acc r1
     ·have HS:Hid (newS l ids=(⟨[],[],[],[]⟩,7)):=O7.out 7 (by rw[HN.out.go,HIS.out (by first | rfl | trivial) sQ]) (by omega)
      obtain⟨d0,d1,d2,d3,_⟩:=ay (aj HN.out.k1 ng.out (by omega));have f0:=aA (aj HN.out.k1 ng.out (by omega)) 0;have f1:=aA (aj HN.out.k1 ng.out (by omega)) 1;have f2:=aA (aj HN.out.k1 ng.out (by omega)) 2;have f3:=aA (aj HN.out.k1 ng.out (by omega)) 3;have jw:=HN.out.bC.trans (ng.out.mono HN.out.bC.size);clear bR;go_wp2;refine bodyPost_ret (v:=.tuple #[.agg #[.slice none 0 0,.slice none 0 0,.slice none 0 0,.slice none 0 0],.int .i64 7]) (by simp[results,Tryz.results20,go_sem, *]) rfl ⟨⟨⟨none,0,0⟩,⟨none,0,0⟩,⟨none,0,0⟩,⟨none,0,0⟩⟩,by rw[HS.out],by rw[HS.out];exact kT _,?_⟩;exact(((jw.setCell (aC _) _).setCell (aC _) _).setCell (aC _) _).setCell (aC _) _
     ·have Yz:decide (0≤bJ acc r1)=false:=by simpa using sQ
      have Jf:=ah (uJ.out (by first | rfl | trivial) (by omega));have eG:=aj uV.out ac8.out Dm;obtain⟨n0,n1,n2,n3,n4,n5,n6,_⟩:=aB eG;have n5f:=ak eG 5;have n6f:=ak eG 6;have KW:=ah eG;obtain⟨e0,e1,e2,e3,_⟩:=ay (aj HN.out.k2 ng.out mG);clear eG bR;have Uv:=gT (aI HN.out.row ng.out (aC _)) (fun c hc=>mQ w4 wr.heap.size c hc 5 6 (.int .i64 (r4-r5)) (.int .i64 (r5-r3))) (fun e=>by have:=(HN.out.row.lt _ e).2;omega);have u_:Hid (∀W:World,W.heap.size=w4.heap.size→Rd (W.alloc (.cells #[.string r1,.int .i64 r2,.int .i64 r3,.int .i64 r4,.int .i64 r5,.int .i64 (r4-r5),.int .i64 (r5-r3)] 54)) (some ⟨w4.heap.size,0,none⟩) (aJ kY [fill ⟨r1,r2,r3,r4,r5,r6,r7⟩])):=fun W hW=>tu W _ hW [.string r1,.int .i64 r2,.int .i64 r3,.int .i64 r4,.int .i64 r5,.int .i64 (r4-r5),.int .i64 (r5-r3)] _
      have kH:acc.length<4:=by have:=HN.out.len;omega
      have O9:=ah Uv;clear Uv uJ HIS Jc sQ;go_wp2_with ((with_reducible refine aZ 47 ?_);refine nW rfl _ _ rfl (w.heap.size+2) _ acc.length acc rfl (O9.out.alloc _) _ 1 1 [fill ⟨r1,r2,r3,r4,r5,r6,r7⟩] rfl rfl (u_.out _ (by simp)) (by omega) (by simp;omega) ?_)
      intro v6 w6 uf Dw Gj
      have hbW:Below w.heap.size w (((w4.setCell ⟨wr.heap.size,5,none⟩ (.int .i64 (r4-r5))).setCell ⟨wr.heap.size,6,none⟩ (.int .i64 (r5-r3))).alloc (.cells #[.string r1,.int .i64 r2,.int .i64 r3,.int .i64 r4,.int .i64 r5,.int .i64 (r4-r5),.int .i64 (r5-r3)] 54)):=
       (((HN.out.bC.trans (ng.out.mono HN.out.bC.size)).setCell hz _).setCell hz _).alloc (by simp;omega) _
      have nG:Below w.heap.size w w6:=hbW.grown Dw (by simp;omega) (fun g hg=>by have:=bQ HN.out.row g hg;omega);have gL:=(iC Dw (b:=w.heap.size) (B:=w.heap.size+2) (by simp;omega) (by omega) (bQ HN.out.row)).trans ((Below.heap_alloc _ _ _ (by simp;omega)).trans ((mQ w4 wr.heap.size w.heap.size (by omega) 5 6 _ _).trans (aj HN.out.k1 ng.out (by omega))));have dH:=(iC Dw (b:=w.heap.size+1) (B:=w.heap.size+2) (by simp;omega) (by omega) (bQ HN.out.row)).trans ((Below.heap_alloc _ _ _ (by simp;omega)).trans ((mQ w4 wr.heap.size (w.heap.size+1) (by omega) 5 6 _ _).trans (aj HN.out.k2 ng.out mG)));obtain⟨I7,cap6,rfl,_,_⟩:=aO uf;obtain⟨g0,g1,g2,g3,_⟩:=ay dH;have g0f:=aA dH 0;have fJ:=ah gL;have eT:=ah dH;have zC:=ah uf;clear gL dH uf Dw Gj hbW n0 n1 n2 n3 n4 n5 n6 e0 e1 e2 e3 n5f n6f;go_wp2;go_roundw
      case rel=>
       refine⟨k+1,acc++ [fill ⟨r1,r2,r3,r4,r5,r6,r7⟩],.slice I7 (acc.length+1) cap6,by go_num,⟨by omega,by rw[HN.out.go,Jf.out],by rw[List.length_append,HN.out.len];rfl,?_,?_,?_,?_⟩⟩
       ·rw[List.length_append];exact aM zC.out _ (by simp) _
       ·rw[aX _ _ _ (by simp)];exact fJ.out
       ·exact ow eT.out _
       ·exact nG.setCell (by simp) _
      case measure=>simp[intOf];omega
   ·have hk:k=l.length:=by have:=hN.le;omega
    subst hk;have HN:=ah hN;clear hN;go_wp2;go_meet;exact⟨acc,vc,HN.out⟩
 case rest=>
 obtain⟨acc,vc,hN⟩:=hcut;have xK:Hid (lG [] l=(0,acc)):=by show _=_;rw[hN.go,Dp _ _ _ (aC _)]
 have fP:acc.length≤4:=by rw[hN.len];exact h4
 have hz:=hN.bC.size;have mG:w.heap.size+1<wc.heap.size:=(bq hN.k2).1;have HN:=ah hN;clear hN uE g4 g4';by_cases hi:0≤ids∧ids≤1000
 ·obtain⟨hi0,hi1⟩:=hi
  have HS:Hid (newS l ids=(⟨acc,iM [] (0,ids),[],[]⟩,0)):=by show _=_;unfold newS;rw[if_neg (by omega),xK.out,if_neg (by simp),if_pos ⟨hi0,hi1⟩]
  obtain⟨Ox,zB,rfl,_,_⟩:=aO HN.out.row;obtain⟨e0,e1,e2,e3,_⟩:=ay HN.out.k2;have Zl:=aA HN.out.k2 1;go_wp2_with (go_at_call 63;refine(dZ _ _ _ _).mono ?_;rintro e w1 ⟨rfl,rfl⟩)
  have hla:=yQ [] (0,ids);refine(Es _ [] 0 ids _ (fD.nil _) (by simp)).mono ?_;rintro e w1 ⟨v1,rfl,nY,bB⟩;have dX:=bB.size;have gL:=aj HN.out.k1 bB (by omega);have dH:=aj HN.out.k2 bB mG;have eu:=aI HN.out.row bB (aC _);have jw:=HN.out.bC.trans (bB.mono HN.out.bC.size);obtain⟨Et,Cu,rfl,_,_⟩:=aO nY;clear e0 e1 e2 e3 Zl;obtain⟨e0,e1,e2,e3,_⟩:=ay dH;have Zl:=aA dH 1
  have HB:Hid (iA (w1.setCell ⟨w.heap.size+1,1,none⟩ (.slice Et (iM [] (0,ids)).length Cu)) ⟨⟨Ox,acc.length,zB⟩,⟨Et,(iM [] (0,ids)).length,Cu⟩,⟨none,0,0⟩,⟨none,0,0⟩⟩ ⟨acc,iM [] (0,ids),[],[]⟩):=
   ah ⟨aG (aM eu _ (by simp) _),aG (aM nY _ (by show w.heap.size+1<_;omega) _),⟨[],dI.nil _ _ _,trivial⟩,Sl.nil _ _⟩
  have Eu:Hid (Dl ⟨acc,iM [] (0,ids),[],[]⟩):=ah ⟨by show acc.length<_;omega,by show(iM [] (0,ids)).length<_;simp at hla;omega,by simp,by simp,by simp⟩;have fJ:=ah ((aX w1 ⟨w.heap.size+1,1,none⟩ w.heap.size (by simp) (.slice Et (iM [] (0,ids)).length Cu)).trans gL);have eY:=ah (jw.setCell (p:=⟨w.heap.size+1,1,none⟩) (by simp) (.slice Et (iM [] (0,ids)).length Cu));have zS:w.heap.size<(w1.setCell ⟨w.heap.size+1,1,none⟩ (.slice Et (iM [] (0,ids)).length Cu)).heap.size:=by simp;omega
  clear gL dH eu jw nY bB hla;go_wp2_with fail
  generalize w1.setCell ⟨w.heap.size+1,1,none⟩ (.slice Et (iM [] (0,ids)).length Cu)=w2 at*;refine(jy ⟨⟨Ox,acc.length,zB⟩,⟨Et,(iM [] (0,ids)).length,Cu⟩,⟨none,0,0⟩,⟨none,0,0⟩⟩ _ w2 HB.out Eu.out).mono ?_;rintro e w3 ⟨⟨⟨ca,cn,cc⟩,⟨fa,fn,fc⟩,⟨la,ln,lc⟩,⟨ba,bn,bc⟩⟩,xs',C,rfl,iq,hC,bT⟩;obtain⟨d0,d1,d2,d3,_⟩:=ay (aj fJ.out bT zS);have f0:=aA (aj fJ.out bT zS) 0;have f1:=aA (aj fJ.out bT zS) 1;have f2:=aA (aj fJ.out bT zS) 2;have f3:=aA (aj fJ.out bT zS) 3;have jw:=eY.out.trans (bT.mono eY.out.size);have HO:=ah ((((iq.put hC ⟨w.heap.size,0,none⟩ zS (.slice ca cn cc)).put hC ⟨w.heap.size,1,none⟩ zS (.slice fa fn fc)).put hC ⟨w.heap.size,2,none⟩ zS (.slice la ln lc)).put hC ⟨w.heap.size,3,none⟩ zS (.slice ba bn bc));clear iq bT;go_wp2;refine bodyPost_ret (v:=.tuple #[.agg #[.slice ca cn cc,.slice fa fn fc,.slice la ln lc,.slice ba bn bc],.int .i64 0]) (by simp[results,Tryz.results20,go_sem, *]) rfl ⟨⟨⟨ca,cn,cc⟩,⟨fa,fn,fc⟩,⟨la,ln,lc⟩,⟨ba,bn,bc⟩⟩,by rw[HS.out],by rw[HS.out];exact HO.out.m,?_⟩;exact(((jw.setCell (aC _) _).setCell (aC _) _).setCell (aC _) _).setCell (aC _) _
 ·have HS:Hid (newS l ids=(⟨[],[],[],[]⟩,1)):=by show _=_;unfold newS;rw[if_neg (by omega),xK.out,if_neg (by simp),if_neg hi]
  have hd:(decide (0≤ids)&&decide (ids≤1000))=false:=by simp;omega
  obtain⟨d0,d1,d2,d3,_⟩:=ay HN.out.k1;have f0:=aA HN.out.k1 0;have f1:=aA HN.out.k1 1;have f2:=aA HN.out.k1 2;have f3:=aA HN.out.k1 3;have jw:=HN.out.bC;clear hi;go_wp2_with (go_at_call 63;refine(dZ _ _ _ _).mono ?_;rintro e w1 ⟨rfl,rfl⟩)
  refine bodyPost_ret (v:=.tuple #[.agg #[.slice none 0 0,.slice none 0 0,.slice none 0 0,.slice none 0 0],.int .i64 1]) (by simp[results,Tryz.results20,go_sem, *]) rfl ⟨⟨⟨none,0,0⟩,⟨none,0,0⟩,⟨none,0,0⟩,⟨none,0,0⟩⟩,by rw[HS.out],by rw[HS.out];exact kT _,?_⟩;exact(((jw.setCell (aC _) _).setCell (aC _) _).setCell (aC _) _).setCell (aC _) _
def oD:Ls:=⟨0,0,0,0,[],[],[]⟩
def ug:cB:=⟨0,0,0,0,⟨none,0,0⟩,⟨none,0,0⟩,⟨none,0,0⟩⟩
def jV (b:Bk) (d ep:Int):Ls×Bool:=if 0≤k_ b.ls d ep then(b.ls.getD (k_ b.ls d ep).toNat oD,true)else(oD,false)
def Gl (w:World) (r:Ls×Bool) (e:Ending) (w':World):Prop:=∃ (x':cB),e= .returned (.tuple #[o9 x',.bool r.2])∧jF w' w.heap.size x' r.1∧Below w.heap.size w w'
theorem jl (w:World) (B:Nat):jF w B ug oD:=⟨rfl,rfl,rfl,rfl,World.ownsRow_nil _ _ _ _,World.ownsRow_nil _ _ _ _,World.ownsRow_nil _ _ _ _⟩
theorem qy {w:World} {b:Nat} {a0 a1 a2 a3 a4 a5 a6:Value} {t:TypeId} (h:w.heap[b]? =some (.cells #[a0,a1,a2,a3,a4,a5,a6] t (0,0))) (x0 x1 x2 x3 x4 x5 x6:Value):
  (((((((w.setCell ⟨b,0,none⟩ x0).setCell ⟨b,1,none⟩ x1).setCell ⟨b,2,none⟩ x2).setCell ⟨b,3,none⟩ x3).setCell ⟨b,4,none⟩ x4).setCell ⟨b,5,none⟩ x5).setCell ⟨b,6,none⟩ x6).heap[b]? =some (.cells #[x0,x1,x2,x3,x4,x5,x6] t (0,0)):=by
 simp[World.setCell,Array.getElem?_modify,h]
theorem O_ (x:dN) (b:Bk) (d ep:Int) (w:World) (h:iA w x b) (hl:Dl b):
  Calls Tryz.prog 30 #[iJ x,.int .i64 d,.int .i64 ep] w (Gl w (jV b d ep)):=by
 obtain⟨⟨ca,cn,cc⟩,⟨fa,bD,fc⟩,⟨la,ln,lc⟩,⟨ba,bE,bc⟩⟩:=x;obtain⟨a1,a2,a3,a4⟩:=b;have qo:=h.l;obtain⟨xs,hx,nR⟩:=qo;have hB:=hl.each;have hnl:=hl.nl;simp only[Sv.v]at hx hB nR hnl;obtain⟨q3,g3,g4⟩:=Sl.lens (s:=⟨la,ln,lc⟩) hx;simp only at q3 g3 g4;subst q3;have iL:=ah nR.len;have wE:=ah nR;have HB:=ah hB;have yR:xs.length<1000000:=by have:=iL.out;omega
 clear nR hB;have bB:Below w.heap.size w ((w.alloc (.cells #[.slice ca cn cc,.slice fa bD fc,.slice la xs.length lc,.slice ba bE bc] 30)).alloc (.cells #[.int .i64 0,.int .i64 0,.int .i64 0,.int .i64 0,.slice none 0 0,.slice none 0 0,.slice none 0 0] 48)):=((aL _ _).alloc (aC _) _).alloc (by simp) _;have fJ:=ah (bX w (.cells #[.slice ca cn cc,.slice fa bD fc,.slice la xs.length lc,.slice ba bE bc] 30) (.cells #[.int .i64 0,.int .i64 0,.int .i64 0,.int .i64 0,.slice none 0 0,.slice none 0 0,.slice none 0 0] 48));have eT:=ah (bL w (.cells #[.slice ca cn cc,.slice fa bD fc,.slice la xs.length lc,.slice ba bE bc] 30) (.cells #[.int .i64 0,.int .i64 0,.int .i64 0,.int .i64 0,.slice none 0 0,.slice none 0 0,.slice none 0 0] 48));have f_:w.heap.size+1<((w.alloc (.cells #[.slice ca cn cc,.slice fa bD fc,.slice la xs.length lc,.slice ba bE bc] 30)).alloc (.cells #[.int .i64 0,.int .i64 0,.int .i64 0,.int .i64 0,.slice none 0 0,.slice none 0 0,.slice none 0 0] 48)).heap.size:=by simp
 have Uw:Hid (Ei ((w.alloc (.cells #[.slice ca cn cc,.slice fa bD fc,.slice la xs.length lc,.slice ba bE bc] 30)).alloc (.cells #[.int .i64 0,.int .i64 0,.int .i64 0,.int .i64 0,.slice none 0 0,.slice none 0 0,.slice none 0 0] 48)) (.slice la xs.length lc) a3):=ah (Ei.keep ⟨xs,hx,wE.out⟩ bB (aC _));have eY:=ah bB;clear bB h hl;change Calls Tryz.prog _ #[.agg #[.slice ca cn cc,.slice fa bD fc,.slice la xs.length lc,.slice ba bE bc],.int .i64 d,.int .i64 ep] w _
 go_enter Tryz.func30,Tryz.ntmps30
 go_wp2_with fail
 generalize (w.alloc (.cells #[.slice ca cn cc,.slice fa bD fc,.slice la xs.length lc,.slice ba bE bc] 30)).alloc (.cells #[.int .i64 0,.int .i64 0,.int .i64 0,.int .i64 0,.slice none 0 0,.slice none 0 0,.slice none 0 0] 48)=w2 at*;refine(IW ⟨⟨ca,cn,cc⟩,⟨fa,bD,fc⟩,⟨la,xs.length,lc⟩,⟨ba,bE,bc⟩⟩ a3 d ep _ Uw.out).mono ?_;rintro e w3 ⟨rfl,bT⟩;have zD:=eY.out.trans (bT.mono eY.out.size);have Gm:=ah (aj fJ.out bT (by omega));have eF:=ah (aj eT.out bT f_);have oO:w.heap.size+1<w3.heap.size:=(bq eF.out).1;clear bT;obtain⟨d0,d1,d2,d3,_⟩:=ay Gm.out;obtain⟨n0,n1,n2,n3,n4,n5,n6,_⟩:=aB eF.out;have f0:=ak eF.out 0;have f1:=ak eF.out 1;have f2:=ak eF.out 2;have f3:=ak eF.out 3;have f4:=ak eF.out 4;have f5:=ak eF.out 5;have f6:=ak eF.out 6;rcases b_ (fun c:Ls=>decide (c.dev=d)&&decide (c.epoch=ep)) a3 with⟨hi,_⟩ | ⟨k,hk,hi,_,_⟩
 ·have HF:Hid (jV ⟨a1,a2,a3,a4⟩ d ep=(oD,false)):=by show _=_;unfold jV k_;simp only[hi];rfl
  rw[show k_ a3 d ep= -1 from hi];clear hi;go_wp2;refine bodyPost_ret (v:=.tuple #[.agg #[.int .i64 0,.int .i64 0,.int .i64 0,.int .i64 0,.slice none 0 0,.slice none 0 0,.slice none 0 0],.bool false]) (by simp[results,Tryz.results30,go_sem, *]) rfl ⟨ug,by rw[HF.out];rfl,by rw[HF.out];exact jl _ _,?_⟩;exact((((((zD.setCell (by simp) _).setCell (by simp) _).setCell (by simp) _).setCell (by simp) _).setCell (by simp) _).setCell (by simp) _).setCell (by simp) _
 ·have HF:Hid (jV ⟨a1,a2,a3,a4⟩ d ep=(a3[k],true)):=by
   show _=_;unfold jV k_;simp only[hi];rw[if_pos (by omega)];simp[List.getD,List.getElem?_eq_getElem hk]
  rw[show k_ a3 d ep=k from hi];have xL:k<xs.length:=by rw[iL.out];exact hk
  obtain⟨lb,lo,rfl,Ip,e0,e1,e2,e3,e4,e5,e6⟩:=dI.ls hx zD (aC _) k xL;have jK:(k:Int)<xs.length:=by omega
  have HM:=ah ((bN.at wE.out k xL hk).keep zD (aC _));have HBk:=ah (HB.out a3[k] (List.getElem_mem hk));clear hi;generalize a3[k]=l at*;generalize xs[k]=z at*;obtain⟨z1,z2,z3,z4,⟨z5,z6,z7⟩,⟨z8,z9,dK⟩,⟨dU,eZ,dQ⟩⟩:=z;simp only[Sv.v]at e0 e1 e2 e3 e4 e5 e6;go_wp2_with fail
  refine(fI ⟨z1,z2,z3,z4,⟨z5,z6,z7⟩,⟨z8,z9,dK⟩,⟨dU,eZ,dQ⟩⟩ l _ HM.out HBk.out).mono ?_;rintro e w4 ⟨⟨y1,y2,y3,y4,⟨y5,y6,y7⟩,⟨y8,y9,dz⟩,⟨dA,dJ,cK⟩⟩,rfl,ho,bR⟩;have dH:=aj eF.out bR oO;clear n0 n1 n2 n3 n4 n5 n6 f0 f1 f2 f3 f4 f5 f6;obtain⟨n0,n1,n2,n3,n4,n5,n6,_⟩:=aB dH;have f0:=ak dH 0;have f1:=ak dH 1;have f2:=ak dH 2;have f3:=ak dH 3;have f4:=ak dH 4;have f5:=ak dH 5;have f6:=ak dH 6;have uh:=zD.trans (bR.mono zD.size);have HO:=ah (((((((ho.put ⟨w.heap.size+1,0,none⟩ oO (.int .i64 y1)).put ⟨w.heap.size+1,1,none⟩ oO (.int .i64 y2)).put ⟨w.heap.size+1,2,none⟩ oO (.int .i64 y3)).put ⟨w.heap.size+1,3,none⟩ oO (.int .i64 y4)).put ⟨w.heap.size+1,4,none⟩ oO (.slice y5 y6 y7)).put ⟨w.heap.size+1,5,none⟩ oO (.slice y8 y9 dz)).put ⟨w.heap.size+1,6,none⟩ oO (.slice dA dJ cK));clear dH ho bR e0 e1 e2 e3 e4 e5 e6 d0 d1 d2 d3;go_wp2;refine bodyPost_ret (v:=.tuple #[.agg #[.int .i64 y1,.int .i64 y2,.int .i64 y3,.int .i64 y4,.slice y5 y6 y7,.slice y8 y9 dz,.slice dA dJ cK],.bool true]) (by simp[results,Tryz.results30,go_sem, *]) rfl ⟨⟨y1,y2,y3,y4,⟨y5,y6,y7⟩,⟨y8,y9,dz⟩,⟨dA,dJ,cK⟩⟩,by rw[HF.out],by rw[HF.out];exact⟨HO.out.dev,HO.out.epoch,HO.out.bU,HO.out.last,aN HO.out.s (by omega),aN HO.out.i (by omega),aN HO.out.u (by omega)⟩,?_⟩;exact((((((uh.setCell (by simp) _).setCell (by simp) _).setCell (by simp) _).setCell (by simp) _).setCell (by simp) _).setCell (by simp) _).setCell (by simp) _
theorem Tryz.Pb (args:Array Value) (W:World):(callFunc 70 args).run Tryz.prog W= .ok (.enter 70 args) W:=by kernel_rfl
theorem Tryz.Pf (args:Array Value) (W:World):(callFunc 72 args).run Tryz.prog W= .ok (.enter 72 args) W:=by kernel_rfl
theorem Jh (x:cB) (b1:Nat) (d:Int) (w:World) (h1:w.cell? ⟨b1,0,none⟩=some (.int .i64 d)) (bB:b1<w.heap.size):
  Calls Tryz.prog 70 #[o9 x,.pointer (some ⟨b1,0,none⟩)] w fun e w'=>e= .returned (.bool (decide (x.dev=d)))∧Below w.heap.size w w':=by
 obtain⟨x1,x2,x3,x4,⟨x5,x6,x7⟩,⟨x8,x9,wh⟩,⟨wm,wz,wC⟩⟩:=x
 go_enter Tryz.func70,Tryz.ntmps70
 go_wp2;go_ret;exact⟨aH (by first | rfl | (simp [*];done) | (simp [*];rfl)),(aL _ _).alloc (aC _) _⟩
theorem VK {w:World} {b1:Nat} {d:Int} (h1:w.cell? ⟨b1,0,none⟩=some (.int .i64 d)) (l:List cB):og Tryz.prog w 70 #[.pointer (some ⟨b1,0,none⟩)] o9 (fun c=>decide (c.dev=d)) l:=by
 have bB:b1<w.heap.size:=World.block_lt_of_cell? w _ h1;exact⟨Tryz.Pb,fun W hW x _=>Jh x b1 d W (fU h1 hW bB) (Nat.lt_of_lt_of_le bB hW.size)⟩
theorem Ji (c:Wn) (b:Nat) (key:ByteArray) (w:World) (hc:w.cell? ⟨b,0,none⟩=some (.string key)) (hb:b<w.heap.size):
  Calls Tryz.prog 72 #[Un c,.pointer (some ⟨b,0,none⟩)] w fun e w'=>e= .returned (.bool (decide (c.key=key)))∧Below w.heap.size w w':=by
 have HK:=ah (key_eq c.key key);obtain⟨c1,c2,c3,c4⟩:=c
 go_enter Tryz.func72,Tryz.ntmps72
 go_wp2;go_ret;exact⟨aH HK.out,(aL _ _).alloc (aC _) _⟩
theorem VL {w:World} {b:Nat} {key:ByteArray} (hc:w.cell? ⟨b,0,none⟩=some (.string key)) (l:List Wn):og Tryz.prog w 72 #[.pointer (some ⟨b,0,none⟩)] Un (fun c=>decide (c.key=key)) l:=by
 have hb:b<w.heap.size:=World.block_lt_of_cell? w _ hc;exact⟨Tryz.Pf,fun W hW x _=>Ji x b key W (fU hc hW hb) (Nat.lt_of_lt_of_le hb hW.size)⟩
theorem aF {W W':World} {g base:Nat} {e T:TypeId} {E:Nat} {v:Value} {n:Nat} {xs:List Value} {cur:Array Value} {z:Nat×Nat} (h:W.ownsRow base e E v n xs) (aK:∀b,b≠g→W'.heap[b]? =W.heap[b]?) (hg:W.heap[g]? =some (.cells cur T z)) (eP:e≠T):W'.ownsRow base e E v n xs:=gT h aK (mF h hg eP)
theorem jF.other {W W':World} {g B:Nat} {T:TypeId} {x:cB} {l:Ls} {cur:Array Value} {z:Nat×Nat} (h:jF W B x l) (aK:∀b,b≠g→W'.heap[b]? =W.heap[b]?) (hg:W.heap[g]? =some (.cells cur T z)) (h1: 88 ≠T) (h2: 56 ≠T) (h3: 3 ≠T):jF W' B x l:=
 ⟨h.dev,h.epoch,h.bU,h.last,aF h.s aK hg h1,aF h.i aK hg h2,aF h.u aK hg h3⟩
theorem eB {w:World} {base:Nat} {e:TypeId} {E g n cap:Nat} {xs:List Value} (h:w.ownsRow base e E (.slice (some ⟨g,0,none⟩) n cap) n xs):∃cur:Array Value,w.heap[g]? =some (.cells cur e (0,0)):=by
 obtain⟨_,hv⟩:=h;rcases hv with⟨hv,_⟩ | ⟨q,cp,cur,hv,_,hh,_⟩
 ·cases hv
 ·injection hv with hv
  injection hv with hv;injection hv with hv;subst hv;exact⟨cur,hh⟩
theorem lJ {w:World} {base:Nat} {e:TypeId} {E n:Nat} {v:Value} {xs:List Value} {g:Nat} (h:w.ownsRow base e E v n xs) (hg:v.ownBlock=some g):∃cur:Array Value,w.heap[g]? =some (.cells cur e (0,0)):=by
 obtain⟨_,hv⟩:=h;rcases hv with⟨rfl,_⟩ | ⟨q,cp,cur,rfl,_,hh,_⟩
 ·cases hg
 ·injection hg with hg
  subst hg;exact⟨cur,hh⟩
theorem bN.imp_mem {α β:Type} {R S:α→β→Prop}:∀ {l:List α} {m:List β},bN R l m→(∀a b,a∈l→R a b→S a b)→bN S l m
 | [],[],_,_=>trivial
 | a::l,b::m,h,hp=>⟨hp a b (by simp) h.1,bN.imp_mem h.2 (fun x y hx r=>hp x y (by simp[hx]) r)⟩
 | [],_::_,h,_=>absurd h (by simp[bN])
 | _::_,[],h,_=>absurd h (by simp[bN])
structure Gr (B D pb pl:Nat) (w0 W:World) (x:dN) (b:Bk) (xs:List cB) (y:cB) (l:Ls):Prop where
 bC:Below B w0 W
 kb:W.heap[pb]? =some (.cells #[x.c.v,x.f.v,x.l.v,x.b.v] 30 (0,0))
 kl:W.heap[pl]? =some (.cells #[.int .i64 y.dev,.int .i64 y.epoch,.int .i64 y.bU,.int .i64 y.last,y.s.v,y.i.v,y.u.v] 48 (0,0))
 hb:B≤pb
 hl:B≤pl
 hD:B≤D
 rc:W.ownsRow B 54 7 x.c.v b.cs.length (aJ kY b.cs)
 rf:W.ownsRow B 56 2 x.f.v b.free.length (aR b.free)
 rl:W.ownsRow B 48 7 x.l.v b.ls.length (aJ j_ xs)
 rb:W.ownsRow B 3 1 x.b.v b.bound.length (bS b.bound)
 each:bN (jF W B) xs b.ls
 low:∀z∈xs,∀g,z.s.v.ownBlock=some g→g<D
 SV:x.l.v.ownBlock≠some pl
 dev:y.dev=l.dev
 epoch:y.epoch=l.epoch
 bU:y.bU=l.bU
 last:y.last=l.last
 ys:W.ownsRow D 88 5 y.s.v l.sl.length (aJ jL l.sl)
 yi:W.ownsRow B 56 2 y.i.v l.ids.length (aR l.ids)
 yu:y.u=⟨none,0,0⟩
 used:l.used= []
section
variable {B D pb pl:Nat} {w0 W W':World} {x:dN} {b:Bk} {xs:List cB} {y:cB} {l:Ls}
theorem Gr.MS (h:Gr B D pb pl w0 W x b xs y l):pb<W.heap.size:=(bq h.kb).1
theorem Gr.szl (h:Gr B D pb pl w0 W x b xs y l):pl<W.heap.size:=(bq h.kl).1
theorem Gr.ne (h:Gr B D pb pl w0 W x b xs y l):pb≠pl:=fun e=>by
 have h1:=h.kb;rw[e,h.kl]at h1;injection h1 with h1;injection h1 with _ h1 _;exact absurd h1 (by decide)
theorem Gr.keep (h:Gr B D pb pl w0 W x b xs y l) (hb:Below W.heap.size W W'):Gr B D pb pl w0 W' x b xs y l:=
 ⟨h.bC.trans (hb.mono (Nat.le_trans h.hb (Nat.le_of_lt h.MS))),aj h.kb hb h.MS,aj h.kl hb h.szl,h.hb,h.hl,h.hD,aI h.rc hb (aC _),aI h.rf hb (aC _),aI h.rl hb (aC _),aI h.rb hb (aC _),
  h.each.imp (fun _ _ r=>r.keep hb (aC _)),h.low,h.SV,h.dev,h.epoch,h.bU,h.last,aI h.ys hb (aC _),aI h.yi hb (aC _),h.yu,h.used⟩
theorem Gr.drew (h:Gr B D pb pl w0 W x b xs y l):Gr B D pb pl w0 W.drew x b xs y l:=h.keep (aL _ _).drew
theorem Gr.m (h:Gr B D pb pl w0 W x b xs y l):iA W x b:=
 ⟨aG h.rc,aG h.rf,⟨xs,by have:=aG h.rl;rw[←h.each.len]at this;exact this,h.each.imp (fun _ _ r=>r.m)⟩,aG h.rb⟩
theorem Gr.lm (h:Gr B D pb pl w0 W x b xs y l):nV W y l:=⟨h.dev,h.epoch,h.bU,h.last,aG h.ys,aG h.yi,by rw[h.yu,h.used];exact Sl.nil _ _⟩
theorem Gr.Ev (h:Gr B D pb pl w0 W x b xs y l) {f':Sv} {free':List Rg} (ho:W.ownsRow B 56 2 f'.v free'.length (aR free')):
  Gr B D pb pl w0 (W.setCell ⟨pb,1,none⟩ f'.v) ⟨x.c,f',x.l,x.b⟩ ⟨b.cs,free',b.ls,b.bound⟩ xs y l:=by
 have aK:∀c,c≠pb→(W.setCell ⟨pb,1,none⟩ f'.v).heap[c]? =W.heap[c]? :=fun c hc=>aX _ _ _ (fun e=>hc e.symm) _
 exact⟨h.bC.setCell h.hb _,oC h.kb _,(aK pl (fun e=>h.ne e.symm)).trans h.kl,h.hb,h.hl,h.hD,aF h.rc aK h.kb (by decide),aF ho aK h.kb (by decide),aF h.rl aK h.kb (by decide),aF h.rb aK h.kb (by decide),
  h.each.imp (fun _ _ r=>r.other aK h.kb (by decide) (by decide) (by decide)),h.low,h.SV,h.dev,h.epoch,h.bU,h.last,aF h.ys aK h.kb (by decide),aF h.yi aK h.kb (by decide),h.yu,h.used⟩
theorem Ew {w:World} {b:Nat} {a0 a1 a2 a3 a4 a5 a6:Value} {t:TypeId} (h:w.heap[b]? =some (.cells #[a0,a1,a2,a3,a4,a5,a6] t (0,0))) (x:Value):
  (w.setCell ⟨b,5,none⟩ x).heap[b]? =some (.cells #[a0,a1,a2,a3,a4,x,a6] t (0,0)):=by
 simp[World.setCell,Array.getElem?_modify,h]
theorem Jj {w:World} {b:Nat} {a0 a1 a2 a3 a4 a5 a6:Value} {t:TypeId} (h:w.heap[b]? =some (.cells #[a0,a1,a2,a3,a4,a5,a6] t (0,0))) (x:Value):
  (w.setCell ⟨b,4,none⟩ x).heap[b]? =some (.cells #[a0,a1,a2,a3,x,a5,a6] t (0,0)):=by
 simp[World.setCell,Array.getElem?_modify,h]
theorem Gr.Pg (h:Gr B D pb pl w0 W x b xs y l) {i':Sv} {Aw:List Rg} (ho:W.ownsRow B 56 2 i'.v Aw.length (aR Aw)):
  Gr B D pb pl w0 (W.setCell ⟨pl,5,none⟩ i'.v) x b xs ⟨y.dev,y.epoch,y.bU,y.last,y.s,i',y.u⟩ ⟨l.dev,l.epoch,l.bU,l.last,l.sl,Aw,l.used⟩:=by
 have aK:∀c,c≠pl→(W.setCell ⟨pl,5,none⟩ i'.v).heap[c]? =W.heap[c]? :=fun c hc=>aX _ _ _ (fun e=>hc e.symm) _
 exact⟨h.bC.setCell h.hl _,(aK pb h.ne).trans h.kb,Ew h.kl _,h.hb,h.hl,h.hD,aF h.rc aK h.kl (by decide),aF h.rf aK h.kl (by decide),gT h.rl aK h.SV,aF h.rb aK h.kl (by decide),
  h.each.imp (fun _ _ r=>r.other aK h.kl (by decide) (by decide) (by decide)),h.low,h.SV,h.dev,h.epoch,h.bU,h.last,aF h.ys aK h.kl (by decide),aF ho aK h.kl (by decide),h.yu,h.used⟩
theorem yS (l:List Ct) (k:Nat) (hk:k<l.length) (u d:Int):
  ((aJ kY l).set (k*7+5) (.int .i64 u)).set (k*7+6) (.int .i64 d)=aJ kY (l.set k ⟨l[k].key,l[k].coll,l[k].lo,l[k].hi,l[k].start,u,d⟩):=by
 induction l generalizing k with
 | nil=>simp at hk
 | cons x l ih=>
  cases k with
  | zero=>simp[aY,kY]
  | succ k=>
   have e:∀j,(k+1)*7+j=k*7+j+7:=fun j=>by omega
   rw[List.set_cons_succ,aY,aY,List.getElem_cons_succ,←ih k (by simpa using hk)];simp only[e];simp[kY]
theorem Gr.zF (h:Gr B D pb pl w0 W x b xs y l) {g n cap:Nat} (hx:x.c=⟨some ⟨g,0,none⟩,n,cap⟩) (k:Nat) (hk:k<b.cs.length) (u d:Int):
  Gr B D pb pl w0 ((W.setCell ⟨g,k*7+5,none⟩ (.int .i64 u)).setCell ⟨g,k*7+6,none⟩ (.int .i64 d)) x ⟨b.cs.set k ⟨b.cs[k].key,b.cs[k].coll,b.cs[k].lo,b.cs[k].hi,b.cs[k].start,u,d⟩,b.free,b.ls,b.bound⟩ xs y l:=by
 have aK:∀c,c≠g→((W.setCell ⟨g,k*7+5,none⟩ (.int .i64 u)).setCell ⟨g,k*7+6,none⟩ (.int .i64 d)).heap[c]? =W.heap[c]? :=fun c hc=>mQ _ _ _ hc _ _ _ _
 have rT:=h.rc;rw[hx]at rT;simp only[Sv.v]at rT
 have hn:n=b.cs.length:=by
  obtain⟨_,_,he,_,_⟩:=aO rT;injection he with _ he _
 subst hn;obtain⟨cur,hg⟩:=eB rT;have hB:B≤g:=(bg rT).1;have hl:(aJ kY b.cs).length=b.cs.length*7:=bP fG _;have bA:k*7+6<b.cs.length*7:=by omega
 have iW:=dV (dV rT (k*7+5) (by omega) (.int .i64 u)) (k*7+6) (by rw[List.length_set];omega) (.int .i64 d);rw[yS _ _ hk]at iW
 have hgb:pb≠g:=fun e=>by
  have h1:=h.kb;rw[e,hg]at h1;injection h1 with h1;injection h1 with _ h1 _;exact absurd h1 (by decide)
 have Ay:pl≠g:=fun e=>by
  have h1:=h.kl;rw[e,hg]at h1;injection h1 with h1;injection h1 with _ h1 _;exact absurd h1 (by decide)
 exact⟨(h.bC.setCell hB _).setCell hB _,(aK pb hgb).trans h.kb,(aK pl Ay).trans h.kl,h.hb,h.hl,h.hD,by rw[hx];show World.ownsRow _ _ _ _ _ (b.cs.set _ _).length _;rw[List.length_set];exact iW,aF h.rf aK hg (by decide),aF h.rl aK hg (by decide),aF h.rb aK hg (by decide),
  h.each.imp (fun _ _ r=>r.other aK hg (by decide) (by decide) (by decide)),h.low,h.SV,h.dev,h.epoch,h.bU,h.last,aF h.ys aK hg (by decide),aF h.yi aK hg (by decide),h.yu,h.used⟩
theorem Gr.app (h:Gr B D pb pl w0 W x b xs y l) {v':Sv} {s:Sc} (ho:W'.ownsRow D 88 5 v'.v (l.sl.length+1) (aJ jL (l.sl++ [s]))) (hg:W.grownBy W' y.s.v.ownBlock) (_hsz:D≤W.heap.size):
  Gr B D pb pl w0 (W'.setCell ⟨pl,4,none⟩ v'.v) x b xs ⟨y.dev,y.epoch,y.bU,y.last,v',y.i,y.u⟩ ⟨l.dev,l.epoch,l.bU,l.last,l.sl++ [s],l.ids,l.used⟩:=by
 have eP:∀ {base e E v n zs},W.ownsRow base e E v n zs→e≠ 88 →W'.ownsRow base e E v n zs:=fun {base e E v n zs} hr he=>by
  refine hr.kept hg ?_
  cases hv:v.ownBlock with
  | none=>exact .inl rfl
  | some q=>
   refine .inr (fun hq=>?_);rcases hy:y.s.v.ownBlock with _ | q2
   ·rw[hy]at hq;cases hq
   ·rw[hy]at hq
    obtain⟨cur,hc⟩:=lJ h.ys hy;injection hq with hq;subst hq;exact mF hr hc he hv
 have hlow:∀z∈xs,∀ {n zs},W.ownsRow B 88 5 z.s.v n zs→W'.ownsRow B 88 5 z.s.v n zs:=fun z hz {n zs} hr=>by
  refine hr.kept hg ?_
  cases hv:z.s.v.ownBlock with
  | none=>exact .inl rfl
  | some q=>
   refine .inr (fun hq=>?_);have h1:=h.low z hz q hv;have h2:=(h.ys.lt q hq.symm).1;omega
 have yT:bN (jF W' B) xs b.ls:=h.each.imp_mem (fun z l' hz r=>⟨r.dev,r.epoch,r.bU,r.last,hlow z hz r.s,eP r.i (by decide),eP r.u (by decide)⟩)
 have hblk:∀ (q:Nat) (o:Obj),W.heap[q]? =some o→(∀cur z,o≠ .cells cur 88 z)→W'.heap[q]? =some o:=fun q o hq ho'=>by
  rw[hg.block q (bq hq).1 (fun e=>by
   obtain⟨cur,hc⟩:=lJ h.ys e.symm;rw[hq]at hc;injection hc with hc
   exact ho' _ _ hc)]
  exact hq
 have K7:=hblk pl _ h.kl (fun cur z e=>by injection e with _ e _;exact absurd e (by decide));have mR:=hblk pb _ h.kb (fun cur z e=>by injection e with _ e _;exact absurd e (by decide));have aK:∀c,c≠pl→(W'.setCell ⟨pl,4,none⟩ v'.v).heap[c]? =W'.heap[c]? :=fun c hc=>aX _ _ _ (fun e=>hc e.symm) _
 have hbel:Below B w0 W':=h.bC.grown hg (Nat.le_trans h.hb (Nat.le_of_lt h.MS)) (fun g' hg'=>Nat.le_trans h.hD (h.ys.lt g' hg').1);have Iq:∀ {n zs},W'.ownsRow D 88 5 v'.v n zs→(W'.setCell ⟨pl,4,none⟩ v'.v).ownsRow D 88 5 v'.v n zs:=fun hr=>aF hr aK K7 (by decide)
 exact⟨hbel.setCell h.hl _,(aK pb h.ne).trans mR,Jj K7 _,h.hb,h.hl,h.hD,aF (eP h.rc (by decide)) aK K7 (by decide),aF (eP h.rf (by decide)) aK K7 (by decide),gT (eP h.rl (by decide)) aK h.SV,aF (eP h.rb (by decide)) aK K7 (by decide),
  yT.imp (fun _ _ r=>r.other aK K7 (by decide) (by decide) (by decide)),h.low,h.SV,h.dev,h.epoch,h.bU,h.last,by show World.ownsRow _ _ _ _ _ (l.sl++ [s]).length _;rw[List.length_append];exact Iq ho,aF (eP h.yi (by decide)) aK K7 (by decide),h.yu,h.used⟩
end
end Go.Proofs.YtlfopoimbbpfdaaGreat
