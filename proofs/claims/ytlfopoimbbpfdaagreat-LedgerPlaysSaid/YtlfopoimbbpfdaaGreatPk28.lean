/- What the law asks, in parts: LWn Aa Ac. -/
import Derived.Deep.DrawnRows
import Derived.Test.YtlfopoimbbpfdaaGreatPk20
import Derived.Test.YtlfopoimbbpfdaaGreatPk0
import Derived.Test.YtlfopoimbbpfdaaGreatPk15
import Derived.Test.YtlfopoimbbpfdaaGreatPk22
set_option linter.all false
namespace Go.Proofs.YtlfopoimbbpfdaaGreat
open Go.RowKit
def zWn:Wn:=⟨⟨#[]⟩,0,0,0⟩
def Yy (i:Nat) (w:Wn):Wn:=if i=0 then⟨⟨#[97]⟩,w.up%7,w.down%7,w.ids%7⟩else if i=1 then⟨⟨#[98]⟩,w.up%7,w.down%7,w.ids%7⟩else⟨⟨#[]⟩,0,0,w.ids%7⟩
def gL (l:List Wn):Nat→List Wn
 | 0=>[]
 | k+1=>gL l k++ [Yy k (l.getD k zWn)]
def Bn (l:List Wn):List Wn:=gL l (min l.length 3)
theorem xR (l:List Wn) (k:Nat):(gL l k).length=k:=by
 induction k with
 | zero=>rfl
 | succ k ih=>rw[gL,List.length_append,ih];rfl
theorem ng {w V:World} (h:Below w.heap.size w V) (o:Obj):Below w.heap.size w (V.alloc o):=h.alloc h.size o
theorem Tryz.Ox:(Tryz.prog.info? 65).map (fun i=>(i.zero,i.size,i.bytes))=some (some (.agg #[.string ⟨#[]⟩,.int .i64 0,.int .i64 0,.int .i64 0]),4,40):=by kernel_rfl
theorem uU (w:World) (cs:List Value) (t:TypeId):∀j u,cs[j]? =some u→(w.alloc (.cells cs.toArray t)).cell? ((⟨w.heap.size,0,none⟩:Addr).add j)=some u:=fun j u hu=>by
 obtain⟨a,ha,hc⟩:=tO w w.heap.size rfl cs t j u hu
 injection ha with ha
 subst ha
 exact hc
def Ws (w:World) (l:List Wn) (e:Ending) (w':World):Prop:=∃v,e= .returned v∧oH w' v l∧Below w.heap.size w w'
def aaT (_w wr:World) (key:ByteArray) (u d i:Int) (v5:Value) (wx:World):Prop:=∃g,v5= .pointer (some ⟨g,0,none⟩)∧wr.heap.size≤g∧wx.heap[g]? =some (.cells #[.string key,.int .i64 u,.int .i64 d,.int .i64 i] 65 (0,0))∧Below wr.heap.size wr wx
def Gz (wr V:World):Prop:=Below wr.heap.size wr V∧V.heap[wr.heap.size]? =some (.cells #[.string ⟨#[97]⟩,.string ⟨#[98]⟩,.string ⟨#[]⟩] 9 (0,0))
def Wt (wr V U:World):Prop:=Below wr.heap.size wr U∧U.heap[V.heap.size]? =some (.cells #[.string ⟨#[97]⟩,.string ⟨#[98]⟩,.string ⟨#[]⟩] 9 (0,0))∧U.heap[wr.heap.size]? =some (.cells #[.string ⟨#[]⟩,.int .i64 0,.int .i64 0,.int .i64 0] 65 (0,0))
set_option maxRecDepth 100000 in
set_option maxHeartbeats 8000000 in
theorem Je (v:Value) (l:List Wn) (w:World) (h:oH w v l):Calls Tryz.prog 23 #[v] w (Ws w (Bn l)):=by
 obtain⟨ao,cap,rfl,hcap,hcm⟩:=Sl.shape h
 have H:=ah h
 clear h
 go_enter Tryz.func23,Tryz.ntmps23
 go_wp2
 go_loopw[3,4] (fun v3 v4 wr=>∃k:Nat,k≤l.length∧k≤3∧v4= .int .i64 k∧wr.ownsRow w.heap.size 65 4 v3 k (aK Qh (gL l k))∧Below w.heap.size w wr) (fun _ v4 _=>3-(intOf v4).toNat)
 case atStart=>exact⟨0,Nat.zero_le _,Nat.zero_le _,rfl,World.ownsRow_nil _ _ _ _,aL _ _⟩
 case round=>
  obtain⟨k,hk,hk3,rfl,ho,hb⟩:=hrel
  have HO:=ah ho
  have hz:=hb.size
  by_cases hlt:k<l.length∧k<3
  ·obtain⟨h1,h2⟩:=hlt
   obtain⟨wb,wo,rfl,hwb,c0,c1,c2,c3⟩:=cK.wn H.out hb (aC _) k h1
   have iG:(k:Int)<l.length:=by omega
   have yC:Hid (l.getD k zWn=l[k]):=ah (by simp[List.getD,List.getElem?_eq_getElem h1])
   obtain⟨key,hkey⟩:∃key:ByteArray,(if k=0 then(⟨#[97]⟩:ByteArray)else if k=1 then⟨#[98]⟩else⟨#[]⟩)=key:=⟨_,rfl⟩
   have HKEY:=ah hkey
   clear hkey
   have HW:=ah (show gL l (k+1)=gL l k++ [Yy k (l.getD k zWn)]from rfl)
   rw[yC.out]at HW
   generalize hwn:l[k]=wn at*
   obtain⟨wk,wu,wd,wi⟩:=wn
   simp only at c0 c1 c2 c3
   have Yz:=ah hwn
   clear hwn ho
   have hwr:wb<wr.heap.size:=by omega
   have KS:Hid (∀V,Below wr.heap.size wr V→(Below wr.heap.size wr V∧V.cell? ⟨wb,wo+k*4+1,none⟩=some (.int .i64 wu)∧V.cell? ⟨wb,wo+k*4+2,none⟩=some (.int .i64 wd)∧V.cell? ⟨wb,wo+k*4+3,none⟩=some (.int .i64 wi))):=
    ah (fun V hV=>⟨hV,by rw[hV.cell (p:=⟨wb,wo+k*4+1,none⟩) hwr];exact c1,by rw[hV.cell (p:=⟨wb,wo+k*4+2,none⟩) hwr];exact c2,by rw[hV.cell (p:=⟨wb,wo+k*4+3,none⟩) hwr];exact c3⟩)
   have hr0:Below wr.heap.size wr wr:=aL _ _
   have HB:=ah hb
   go_upto_region 5 with fail
   go_cut[5] (fun v5 wx=>aaT w wr key (wu%7) (wd%7) (wi%7) v5 wx)
   case first=>
    have hkk:k=0∨k=1∨k=2:=by omega
    clear HO Yz HW yC HB hb
    have hS0:Below wr.heap.size wr wr.drew:=hr0.drew
    refine aS 24 (fun w'=>Below wr.heap.size wr w') (by kernel_rfl) ?_
    refine aD (i:=1) (v:=.int .i64 k) rfl rfl (by kernel_rfl) (by kernel_rfl) (by kernel_rfl) (by kernel_rfl) (by kernel_rfl) (by decide) (fun _ _ _ h=>h) (.inl ⟨rfl,fun w' hw=>?_⟩) hS0 ?_
    ·go_simp
    refine aD (i:=4) (v:=.slice (some ⟨wb,wo,none⟩) l.length cap) rfl rfl (by kernel_rfl) (by kernel_rfl) (by kernel_rfl) (by kernel_rfl) (by kernel_rfl) (by decide) (fun _ _ _ h=>h) (.inl ⟨rfl,fun w' hw=>?_⟩) hS0 ?_
    ·go_simp
    refine aD (i:=5) (v:=.int .i64 k) rfl rfl (by kernel_rfl) (by kernel_rfl) (by kernel_rfl) (by kernel_rfl) (by kernel_rfl) (by decide) (fun _ _ _ h=>h) (.inl ⟨rfl,fun w' hw=>?_⟩) hS0 ?_
    ·go_simp
    refine aD (i:=6) (v:=.pointer (some ⟨wb,wo+k*4,none⟩)) rfl rfl (by kernel_rfl) (by kernel_rfl) (by kernel_rfl) (by kernel_rfl) (by kernel_rfl) (by decide) (fun _ _ _ h=>h) (.inl ⟨rfl,fun w' hw=>?_⟩) hS0 ?_
    ·go_simp
    refine aD (i:=7) (v:=.pointer (some ⟨wb,wo+k*4+1,none⟩)) rfl rfl (by kernel_rfl) (by kernel_rfl) (by kernel_rfl) (by kernel_rfl) (by kernel_rfl) (by decide) (fun _ _ _ h=>h) (.inl ⟨rfl,fun w' hw=>?_⟩) hS0 ?_
    ·go_simp
    refine aD (i:=8) (v:=.int .i64 wu) rfl rfl (by kernel_rfl) (by kernel_rfl) (by kernel_rfl) (by kernel_rfl) (by kernel_rfl) (by decide) (fun _ _ _ h=>h) (.inl ⟨rfl,fun w' hw=>?_⟩) hS0 ?_
    ·obtain⟨_,x1,x2,x3⟩:=KS.out _ hw
     go_simp
    refine tC (i:=9) (v:=.int .i64 (wu%7)) rfl rfl (by kernel_rfl) (by kernel_rfl) (by kernel_rfl) (by kernel_rfl) (by kernel_rfl) (by decide) (fun _ _ _ h=>h) ⟨rfl,18,#[.int .i64 wu,.int .i64 7],fun w' hw=>?_,fun w' hw=>iI _ 7 _ (by omega) (by omega)⟩ hS0 ?_
    ·go_simp
    refine aD (i:=10) (v:=.slice (some ⟨wb,wo,none⟩) l.length cap) rfl rfl (by kernel_rfl) (by kernel_rfl) (by kernel_rfl) (by kernel_rfl) (by kernel_rfl) (by decide) (fun _ _ _ h=>h) (.inl ⟨rfl,fun w' hw=>?_⟩) hS0 ?_
    ·go_simp
    refine aD (i:=11) (v:=.int .i64 k) rfl rfl (by kernel_rfl) (by kernel_rfl) (by kernel_rfl) (by kernel_rfl) (by kernel_rfl) (by decide) (fun _ _ _ h=>h) (.inl ⟨rfl,fun w' hw=>?_⟩) hS0 ?_
    ·go_simp
    refine aD (i:=12) (v:=.pointer (some ⟨wb,wo+k*4,none⟩)) rfl rfl (by kernel_rfl) (by kernel_rfl) (by kernel_rfl) (by kernel_rfl) (by kernel_rfl) (by decide) (fun _ _ _ h=>h) (.inl ⟨rfl,fun w' hw=>?_⟩) hS0 ?_
    ·go_simp
    refine aD (i:=13) (v:=.pointer (some ⟨wb,wo+k*4+2,none⟩)) rfl rfl (by kernel_rfl) (by kernel_rfl) (by kernel_rfl) (by kernel_rfl) (by kernel_rfl) (by decide) (fun _ _ _ h=>h) (.inl ⟨rfl,fun w' hw=>?_⟩) hS0 ?_
    ·go_simp
    refine aD (i:=14) (v:=.int .i64 wd) rfl rfl (by kernel_rfl) (by kernel_rfl) (by kernel_rfl) (by kernel_rfl) (by kernel_rfl) (by decide) (fun _ _ _ h=>h) (.inl ⟨rfl,fun w' hw=>?_⟩) hS0 ?_
    ·obtain⟨_,x1,x2,x3⟩:=KS.out _ hw
     go_simp
    refine tC (i:=15) (v:=.int .i64 (wd%7)) rfl rfl (by kernel_rfl) (by kernel_rfl) (by kernel_rfl) (by kernel_rfl) (by kernel_rfl) (by decide) (fun _ _ _ h=>h) ⟨rfl,18,#[.int .i64 wd,.int .i64 7],fun w' hw=>?_,fun w' hw=>iI _ 7 _ (by omega) (by omega)⟩ hS0 ?_
    ·go_simp
    refine aD (i:=16) (v:=.slice (some ⟨wb,wo,none⟩) l.length cap) rfl rfl (by kernel_rfl) (by kernel_rfl) (by kernel_rfl) (by kernel_rfl) (by kernel_rfl) (by decide) (fun _ _ _ h=>h) (.inl ⟨rfl,fun w' hw=>?_⟩) hS0 ?_
    ·go_simp
    refine aD (i:=17) (v:=.int .i64 k) rfl rfl (by kernel_rfl) (by kernel_rfl) (by kernel_rfl) (by kernel_rfl) (by kernel_rfl) (by decide) (fun _ _ _ h=>h) (.inl ⟨rfl,fun w' hw=>?_⟩) hS0 ?_
    ·go_simp
    refine aD (i:=18) (v:=.pointer (some ⟨wb,wo+k*4,none⟩)) rfl rfl (by kernel_rfl) (by kernel_rfl) (by kernel_rfl) (by kernel_rfl) (by kernel_rfl) (by decide) (fun _ _ _ h=>h) (.inl ⟨rfl,fun w' hw=>?_⟩) hS0 ?_
    ·go_simp
    refine aD (i:=19) (v:=.pointer (some ⟨wb,wo+k*4+3,none⟩)) rfl rfl (by kernel_rfl) (by kernel_rfl) (by kernel_rfl) (by kernel_rfl) (by kernel_rfl) (by decide) (fun _ _ _ h=>h) (.inl ⟨rfl,fun w' hw=>?_⟩) hS0 ?_
    ·go_simp
    refine aD (i:=20) (v:=.int .i64 wi) rfl rfl (by kernel_rfl) (by kernel_rfl) (by kernel_rfl) (by kernel_rfl) (by kernel_rfl) (by decide) (fun _ _ _ h=>h) (.inl ⟨rfl,fun w' hw=>?_⟩) hS0 ?_
    ·obtain⟨_,x1,x2,x3⟩:=KS.out _ hw
     go_simp
    refine tC (i:=21) (v:=.int .i64 (wi%7)) rfl rfl (by kernel_rfl) (by kernel_rfl) (by kernel_rfl) (by kernel_rfl) (by kernel_rfl) (by decide) (fun _ _ _ h=>h) ⟨rfl,18,#[.int .i64 wi,.int .i64 7],fun w' hw=>?_,fun w' hw=>iI _ 7 _ (by omega) (by omega)⟩ hS0 ?_
    ·go_simp
    refine gW (i:=0) (j:=23) (by kernel_rfl) rfl rfl rfl rfl ?_ ?_
    ·go_simp
     have hb3:=ng hS0 (.cells #[.string ⟨#[97]⟩,.string ⟨#[98]⟩,.string ⟨#[]⟩] 9)
     refine⟨hb3,?_⟩
     have Oy:=heap_alloc_new wr.drew (.cells #[.string ⟨#[97]⟩,.string ⟨#[98]⟩,.string ⟨#[]⟩] 9)
     refine qm (F:=fun V=>Gz wr V) ⟨hb3,Oy⟩ (fun V HV=>?_)
     obtain⟨Rz,RJ⟩:=HV
     refine sZ (S':=fun w'=>Gz wr w') (fun _ h=>h.1) _ _ _ _ ?_
     have hS1:Gz wr V:=⟨Rz,RJ⟩
     have hzV:=(bg RJ).1
     refine aD (i:=2) (v:=.pointer (some ⟨wr.heap.size,k,none⟩)) rfl rfl (by kernel_rfl) (by kernel_rfl) (by kernel_rfl) (by kernel_rfl) (by kernel_rfl) (by decide) (fun _ _ _ h=>h) (.inl ⟨rfl,fun w' hw=>?_⟩) hS1 ?_
     ·rcases hkk with rfl | rfl | rfl<;>go_simp
     refine aD (i:=3) (v:=.string key) rfl rfl (by kernel_rfl) (by kernel_rfl) (by kernel_rfl) (by kernel_rfl) (by kernel_rfl) (by decide) (fun _ _ _ h=>h) (.inl ⟨rfl,fun w' hw=>?_⟩) hS1 ?_
     ·have x4:=hw.2
      have y0:w'.cell? ⟨wr.heap.size,0,none⟩=some (.string ⟨#[97]⟩):=by simp[World.cell?,x4]
      have y1:w'.cell? ⟨wr.heap.size,1,none⟩=some (.string ⟨#[98]⟩):=by simp[World.cell?,x4]
      have y2:w'.cell? ⟨wr.heap.size,2,none⟩=some (.string ⟨#[]⟩):=by simp[World.cell?,x4]
      have hky:=HKEY.out
      clear x4
      rw[←hky]
      clear hky
      rcases hkk with rfl | rfl | rfl<;>go_simp
     refine aD (i:=22) (v:=.agg #[.string key,.int .i64 (wu%7),.int .i64 (wd%7),.int .i64 (wi%7)]) rfl rfl (by kernel_rfl) (by kernel_rfl) (by kernel_rfl) (by kernel_rfl) (by kernel_rfl) (by decide) (fun _ _ _ h=>h) (.inl ⟨rfl,fun w' hw=>?_⟩) hS1 ?_
     ·go_simp
     have hAA:Below V.heap.size V (V.alloc (.cells #[.string ⟨#[]⟩,.int .i64 0,.int .i64 0,.int .i64 0] 65)):=(aL _ _).alloc (aC _) _
     have hS2:Gz wr (V.alloc (.cells #[.string ⟨#[]⟩,.int .i64 0,.int .i64 0,.int .i64 0] 65)):=⟨ng Rz _,aj RJ hAA hzV⟩
     have hsV:wr.heap.size≤V.heap.size:=by omega
     refine aF (i:=23) (by kernel_rfl) rfl rfl ?_
     go_simp
     refine aF (i:=24) (by kernel_rfl) rfl rfl ?_
     go_simp
     refine aT (by kernel_rfl) ?_
     go_wp2
     go_meet
     exact⟨V.heap.size,rfl,hsV,heap_alloc_new _ _,ng Rz _⟩
    ·go_simp
     have hb3:=ng hS0 (.cells #[.string ⟨#[]⟩,.int .i64 0,.int .i64 0,.int .i64 0] 65)
     refine⟨hb3,?_⟩
     have hkb:=heap_alloc_new wr.drew (.cells #[.string ⟨#[]⟩,.int .i64 0,.int .i64 0,.int .i64 0] 65)
     refine qm (F:=fun V=>Below wr.heap.size wr V∧V.heap[wr.heap.size]? =some (.cells #[.string ⟨#[]⟩,.int .i64 0,.int .i64 0,.int .i64 0] 65 (0,0))) ⟨hb3,hkb⟩ (fun V HV=>?_)
     obtain⟨Rz,RJ⟩:=HV
     have hzV:=(bg RJ).1
     have HKV:=ah RJ
     clear RJ
     refine aF (i:=0) (by kernel_rfl) rfl rfl ?_
     go_simp
     have hb4:=ng Rz (.cells #[.string ⟨#[97]⟩,.string ⟨#[98]⟩,.string ⟨#[]⟩] 9)
     refine⟨hb4,?_⟩
     have hk4:=heap_alloc_new V (.cells #[.string ⟨#[97]⟩,.string ⟨#[98]⟩,.string ⟨#[]⟩] 9)
     have hAA:Below V.heap.size V (V.alloc (.cells #[.string ⟨#[97]⟩,.string ⟨#[98]⟩,.string ⟨#[]⟩] 9)):=(aL _ _).alloc (aC _) _
     have hkB:=aj HKV.out hAA hzV
     refine qm (F:=fun U=>Wt wr V U) ⟨hb4,hk4,hkB⟩ (fun U HU=>?_)
     refine sZ (S':=fun w'=>Wt wr V w') (fun _ h=>h.1) _ _ _ _ ?_
     have RL:=ah HU
     refine aD (i:=2) (v:=.pointer (some ⟨V.heap.size,k,none⟩)) rfl rfl (by kernel_rfl) (by kernel_rfl) (by kernel_rfl) (by kernel_rfl) (by kernel_rfl) (by decide) (fun _ _ _ h=>h) (.inl ⟨rfl,fun w' hw=>?_⟩) HU ?_
     ·rcases hkk with rfl | rfl | rfl<;>go_simp
     refine aD (i:=3) (v:=.string key) rfl rfl (by kernel_rfl) (by kernel_rfl) (by kernel_rfl) (by kernel_rfl) (by kernel_rfl) (by decide) (fun _ _ _ h=>h) (.inl ⟨rfl,fun w' hw=>?_⟩) HU ?_
     ·have x4:=hw.2.1
      have y0:w'.cell? ⟨V.heap.size,0,none⟩=some (.string ⟨#[97]⟩):=by simp[World.cell?,x4]
      have y1:w'.cell? ⟨V.heap.size,1,none⟩=some (.string ⟨#[98]⟩):=by simp[World.cell?,x4]
      have y2:w'.cell? ⟨V.heap.size,2,none⟩=some (.string ⟨#[]⟩):=by simp[World.cell?,x4]
      have hky:=HKEY.out
      clear x4
      rw[←hky]
      clear hky
      rcases hkk with rfl | rfl | rfl<;>go_simp
     refine aD (i:=22) (v:=.agg #[.string key,.int .i64 (wu%7),.int .i64 (wd%7),.int .i64 (wi%7)]) rfl rfl (by kernel_rfl) (by kernel_rfl) (by kernel_rfl) (by kernel_rfl) (by kernel_rfl) (by decide) (fun _ _ _ h=>h) (.inl ⟨rfl,fun w' hw=>?_⟩) HU ?_
     ·go_simp
     obtain⟨g0,g1,g2,g3,iN⟩:=ay RL.out.2.2
     have f0:=aA RL.out.2.2 0
     have f1:=aA RL.out.2.2 1
     have f2:=aA RL.out.2.2 2
     have f3:=aA RL.out.2.2 3
     clear iN HU
     refine aF (i:=24) (by kernel_rfl) rfl rfl ?_
     go_simp
     refine aT (by kernel_rfl) ?_
     go_wp2
     go_meet
     exact⟨wr.heap.size,rfl,aC _,gq RL.out.2.2 _ _ _ _,(((RL.out.1.setCell (aC _) _).setCell (aC _) _).setCell (aC _) _).setCell (aC _) _⟩
   case rest=>
   obtain⟨g,rfl,hg,hkg,hbx⟩:=hcut
   obtain⟨W5,Bb⟩:∃W5,W5=wc:=⟨_,rfl⟩
   subst Bb
   obtain⟨inf,eX,hz0,hz1,hz2⟩:=info_parts Tryz.Ox
   obtain⟨e0,e1,e2,e3,iN⟩:=ay hkg
   have f1:=aA hkg 1
   have f2:=aA hkg 2
   have HKG:=ah hkg
   have vS:=ah (HB.out.trans (hbx.mono HB.out.size))
   have yQ:=ah (aJ HO.out hbx (aC _))
   clear iN hkg hbx KS hr0 c0 c1 c2 c3 hb
   by_cases hk2:k=2
   ·have s1:((k:Int)==2)=true:=by simp[hk2]
    have fJ:=ah hk2
    clear hk2
    have qO:=fF yQ.out (fun c hc=>iP W5 g c hc 1 2 (.int .i64 0) (.int .i64 0)) (fun e=>by have:=(HO.out.lt g e).2;omega)
    have hb6:=(vS.out.setCell (p:=⟨g,1,none⟩) (by simp;omega) (.int .i64 0)).setCell (p:=⟨g,2,none⟩) (by simp;omega) (.int .i64 0)
    have wP:=ah qO
    have Ec:=ah hb6
    have pQ:(((W5.setCell ⟨g,1,none⟩ (.int .i64 0)).setCell ⟨g,2,none⟩ (.int .i64 0))).heap[g]? =some (.cells #[.string key,.int .i64 0,.int .i64 0,.int .i64 (wi%7)] 65 (0,0)):=by simp[World.setCell,Array.getElem?_modify,HKG.out]
    clear qO hb6
    go_upto_region 8 with fail
    generalize ((W5.setCell ⟨g,1,none⟩ (.int .i64 0)).setCell ⟨g,2,none⟩ (.int .i64 0))=W6 at*
    clear e0 e1 e2 e3 f1 f2
    obtain⟨e0,e1,e2,e3,hx8⟩:=ay pQ
    clear hx8 pQ
    have dK:Below W6.heap.size W6 (W6.alloc (.cells #[.string key,.int .i64 0,.int .i64 0,.int .i64 (wi%7)] 65)):=(aL _ _).alloc (aC _) _
    have QT:=aJ wP.out dK (aC _)
    have hcn:=uU W6 [.string key,.int .i64 0,.int .i64 0,.int .i64 (wi%7)] 65
    have hbw:=Ec.out.trans (dK.mono Ec.out.size)
    have hbs:=hbw.size
    have HWT:Hid (gL l (k+1)=gL l k++ [⟨key,0,0,wi%7⟩]):=ah (by rw[HW.out,←HKEY.out];simp[Yy,fJ.out])
    clear dK
    go_wp2_with ((with_reducible refine aY 46 ?_);refine wpList_append_own _ rfl _ _ 33 rfl w.heap.size 65 inf _ 4 40 Tryz.underlying33 eX hz0 hz1 hz2 rfl (by decide) _ k (aK Qh (gL l k)) rfl QT ⟨W6.heap.size,0,none⟩ 1 1 [.string key,.int .i64 0,.int .i64 0,.int .i64 (wi%7)] rfl rfl hcn (FZ ⟨key,0,0,wi%7⟩) (by unfold maxLen;omega) (by omega) hbs ?_;intro v5 w5 fQ hg5 _)
    go_roundw
    case rel=>exact⟨k+1,by omega,by omega,by go_num,by rw[HWT.out,dU,qp];exact fQ,hbw.grown hg5 hbs (fun g' hg'=>(HO.out.lt g' hg').1)⟩
    case measure=>simp[intOf];omega
   ·have s1:((k:Int)==2)=false:=by simp;omega
    have dK:Below W5.heap.size W5 (W5.alloc (.cells #[.string key,.int .i64 (wu%7),.int .i64 (wd%7),.int .i64 (wi%7)] 65)):=(aL _ _).alloc (aC _) _
    have QT:=aJ yQ.out dK (aC _)
    have hcn:=uU W5 [.string key,.int .i64 (wu%7),.int .i64 (wd%7),.int .i64 (wi%7)] 65
    have hbw:=vS.out.trans (dK.mono vS.out.size)
    have hbs:=hbw.size
    have HWT:Hid (gL l (k+1)=gL l k++ [⟨key,(wu%7),(wd%7),wi%7⟩]):=ah (by rw[HW.out,←HKEY.out];(have h01:k=0∨k=1:=by omega);rcases h01 with rfl | rfl<;>simp[Yy])
    clear dK
    go_wp2_with ((with_reducible refine aY 46 ?_);refine wpList_append_own _ rfl _ _ 33 rfl w.heap.size 65 inf _ 4 40 Tryz.underlying33 eX hz0 hz1 hz2 rfl (by decide) _ k (aK Qh (gL l k)) rfl QT ⟨W5.heap.size,0,none⟩ 1 1 [.string key,.int .i64 (wu%7),.int .i64 (wd%7),.int .i64 (wi%7)] rfl rfl hcn (FZ ⟨key,(wu%7),(wd%7),wi%7⟩) (by unfold maxLen;omega) (by omega) hbs ?_;intro v5 w5 fQ hg5 _)
    go_roundw
    case rel=>exact⟨k+1,by omega,by omega,by go_num,by rw[HWT.out,dU,qp];exact fQ,hbw.grown hg5 hbs (fun g' hg'=>(HO.out.lt g' hg').1)⟩
    case measure=>simp[intOf];omega
  ·have hke:k=min l.length 3:=by omega
   have HE:Hid (Bn l=gL l k):=by show _=_;unfold Bn;rw[←hke]
   clear hke
   have HL:=ah (xR l k)
   clear ho
   by_cases h1:k<l.length
   ·have h2:k=3:=by omega
    subst h2
    have iG:((3:Nat):Int)<l.length:=by omega
    go_wp2
    go_ret
    refine⟨_,rfl,?_,hb⟩
    rw[HE.out]
    show Sl _ _ _ (gL l 3).length _
    rw[HL.out]
    exact aI HO.out
   ·have iG:¬ (k:Int)<l.length:=by omega
    go_wp2
    go_ret
    refine⟨_,rfl,?_,hb⟩
    rw[HE.out]
    show Sl _ _ _ (gL l k).length _
    rw[HL.out]
    exact aI HO.out
end Go.Proofs.YtlfopoimbbpfdaaGreat
namespace Go.Proofs.YtlfopoimbbpfdaaGreat
open Go.RowKit
structure Dt where
 dev:Int
 epoch:Int
 seq:Int
def zu (d:Dt):List Value:=[.int .i64 d.dev,.int .i64 d.epoch,.int .i64 d.seq]
theorem vW (d:Dt):(zu d).length=3:=rfl
theorem Oz (d:Dt):∀u∈zu d,u.oneCell'=true:=by intro u hu;simp[zu]at hu;rcases hu with rfl | rfl | rfl<;>rfl
abbrev Fq (w:World) (v:Value) (l:List Dt):Prop:=cK zu 3 w v l
theorem cK.dt {w wr:World} {l:List Dt} {ao:Option Addr} {cap B:Nat} (h:Fq w (.slice ao l.length cap) l) (hb:Below B w wr) (hB:w.heap.size≤B) (k:Nat) (hk:k<l.length):
  ∃b off,ao=some ⟨b,off,none⟩∧b<w.heap.size∧wr.cell? ⟨b,off+k*3,none⟩=some (.int .i64 l[k].dev)∧wr.cell? ⟨b,off+k*3+1,none⟩=some (.int .i64 l[k].epoch)∧wr.cell? ⟨b,off+k*3+2,none⟩=some (.int .i64 l[k].seq):=by
 obtain⟨b,off,h1,h2,h3⟩:=cK.at h vW (by omega) hb hB k hk
 exact⟨b,off,h1,h2,h3 0 _ rfl,h3 1 _ rfl,h3 2 _ rfl⟩
def cOp (o:pO):List Value:=[.int .i64 o.dev,.int .i64 o.epoch,.int .i64 o.seq,.int .i64 o.coll,.int .i64 o.ver,.int .i64 o.kind,.string o.key,.string o.text,.int .i64 o.n,.int .i64 o.time,o.dots.v]
structure ow where
 kind:Int
 dev:Int
 n:Int
 wants:Sv
 o:pO
def OA (x:ow):List Value:=.int .i64 x.kind:: .int .i64 x.dev:: .int .i64 x.n::x.wants.v::cOp x.o
theorem Bo (x:ow):(OA x).length=15:=rfl
abbrev RN (x:ow):Value:=.agg #[.int .i64 x.kind,.int .i64 x.dev,.int .i64 x.n,x.wants.v,.int .i64 x.o.dev,.int .i64 x.o.epoch,.int .i64 x.o.seq,.int .i64 x.o.coll,.int .i64 x.o.ver,.int .i64 x.o.kind,.string x.o.key,.string x.o.text,.int .i64 x.o.n,.int .i64 x.o.time,x.o.dots.v]
structure JG (w:World) (x:ow) (ws:List Wn):Prop where
 wn:oH w x.wants.v ws
 dt:∃ds,Fq w x.o.dots.v ds
theorem JG.keep {w w':World} {x:ow} {ws:List Wn} {B:Nat} (h:JG w x ws) (hb:Below B w w') (hB:w.heap.size≤B):JG w' x ws:=
 ⟨cK.keep h.wn hb hB,h.dt.imp fun _ h=>cK.keep h hb hB⟩
set_option maxHeartbeats 400000 in
theorem gU (a n:Int) (w:World) (hn:0<n) (hn2:n≤4611686018427387904):
  Calls Tryz.prog 67 #[.int .i64 a,.int .i64 n] w fun e w'=>e= .returned (.int .i64 (a%n))∧w'=w:=by
 have h2:=Int.emod_nonneg a (show n≠0 by omega)
 have h3:=Int.emod_lt_of_pos a hn
 by_cases h:0≤a
 ·go_enter Tryz.func67,Tryz.ntmps67
  go_wp2
  go_ret
  exact⟨rfl,rfl⟩
 ·have h4:=ah (zH a n hn (by omega))
  have h5:a.tmod n≤0:=by rw[←Int.neg_neg a,Int.neg_tmod];have:=Int.tmod_nonneg n (show 0≤ -a by omega);omega
  have h6: -n<a.tmod n:=by rw[←Int.neg_neg a,Int.neg_tmod];have:=Int.tmod_lt_of_pos (-a) hn;omega
  go_enter Tryz.func67,Tryz.ntmps67
  go_wp2
  all_goals go_ret
  all_goals refine⟨dL ?_,rfl⟩
  ·rw[←h4.out,if_pos (by assumption)]
  ·rw[←h4.out,if_neg (by omega)]
def RO (w:World) (e:Ending) (w':World):Prop:=∃q:Bool,e= .returned (.bool q)∧Below w.heap.size w w'
set_option maxHeartbeats 1000000 in
theorem Jf (a b:Dt) (w:World):
  Calls Tryz.prog 68 #[.agg #[.int .i64 a.dev,.int .i64 a.epoch,.int .i64 a.seq],.agg #[.int .i64 b.dev,.int .i64 b.epoch,.int .i64 b.seq]] w (RO w):=by
 have hb:Below w.heap.size w ((w.alloc (.cells #[.int .i64 a.dev,.int .i64 a.epoch,.int .i64 a.seq] 35)).alloc (.cells #[.int .i64 b.dev,.int .i64 b.epoch,.int .i64 b.seq] 35)):=((aL _ _).alloc (aC _) _).alloc (by simp) _
 go_enter Tryz.func68,Tryz.ntmps68
 go_wp2
 all_goals go_ret
 all_goals exact⟨_,rfl,hb⟩
set_option maxHeartbeats 1000000 in
theorem LJ (o:pO) (w:World) (hn:o.dots.n≤9223372036854775807):
  Calls Tryz.prog 21 #[TI o] w (RO w):=by
 obtain⟨o1,o2,o3,o4,o5,kind,key,text,n,time,⟨oa,on,oc⟩⟩:=o
 have hb:Below w.heap.size w (w.alloc (.cells #[.int .i64 o1,.int .i64 o2,.int .i64 o3,.int .i64 o4,.int .i64 o5,.int .i64 kind,.string key,.string text,.int .i64 n,.int .i64 time,.slice oa on oc] 38)):=(aL _ _).alloc (aC _) _
 change Calls Tryz.prog _ #[.agg #[.int .i64 o1,.int .i64 o2,.int .i64 o3,.int .i64 o4,.int .i64 o5,.int .i64 kind,.string key,.string text,.int .i64 n,.int .i64 time,.slice oa on oc]] w _
 go_enter Tryz.func21,Tryz.ntmps21
 go_wp2
 all_goals go_ret
 all_goals exact⟨_,rfl,hb⟩
end Go.Proofs.YtlfopoimbbpfdaaGreat
namespace Go.Proofs.YtlfopoimbbpfdaaGreat
open Go.RowKit
attribute [local go_sem ↓] Go.wp_at_zero Go.wp_at_succ
def kD (o:pO):Int:=1+o.kind%5
def nU (k:Int):ByteArray:=if k=0 then⟨#[97]⟩else if k=1 then⟨#[98]⟩else⟨#[120]⟩
def zw (o:pO):ByteArray:=nU ((o.key.size:Int)%3)
def gN (o:pO):Int:=if kD o=4 then(if o.n%12-6=0 then 6 else o.n%12-6)else if kD o=5 then o.n%30 else o.n
def Af (w:World) (o:pO) (e:Ending) (w':World):Prop:=∃o':pO,e= .returned (TI o')∧Below w.heap.size w w'∧o'.kind=kD o∧o'.key=zw o∧o'.n=gN o
structure Gd (w W:World) (o:pO):Prop where
 aZ:Below w.heap.size w W
 k1:W.heap[w.heap.size]? =some (.cells #[.int .i64 o.dev,.int .i64 o.epoch,.int .i64 o.seq,.int .i64 o.coll,.int .i64 o.ver,.int .i64 o.kind,.string o.key,.string o.text,.int .i64 o.n,.int .i64 o.time,o.dots.v] 38 (0,0))
 k2:W.heap[w.heap.size+1]? =some (.cells #[.int .i64 0,.int .i64 0,.int .i64 0,.int .i64 0,.int .i64 0,.int .i64 0,.string ⟨#[]⟩,.string ⟨#[]⟩,.int .i64 0,.int .i64 0,.slice none 0 0] 38 (0,0))
theorem Gd.keep {w W W':World} {o:pO} (h:Gd w W o) (hb:Below W.heap.size W W'):Gd w W' o:=
 ⟨h.aZ.trans (hb.mono h.aZ.size),aj h.k1 hb (bg h.k1).1,aj h.k2 hb (bg h.k2).1⟩
theorem bT {w:World} {b:Nat} {a0 a1 a2 a3 a4 a5 a6 a7 a8 a9 Fu:Value} {t:TypeId} (h:w.heap[b]? =some (.cells #[a0,a1,a2,a3,a4,a5,a6,a7,a8,a9,Fu] t (0,0))):
  w.cell? ⟨b,0,none⟩=some a0∧w.cell? ⟨b,1,none⟩=some a1∧w.cell? ⟨b,2,none⟩=some a2∧w.cell? ⟨b,3,none⟩=some a3∧w.cell? ⟨b,4,none⟩=some a4∧w.cell? ⟨b,5,none⟩=some a5∧w.cell? ⟨b,6,none⟩=some a6∧w.cell? ⟨b,7,none⟩=some a7∧w.cell? ⟨b,8,none⟩=some a8∧w.cell? ⟨b,9,none⟩=some a9∧w.cell? ⟨b,10,none⟩=some Fu∧ ∀k,w.frozen? ⟨b,k,none⟩=false:=by
 simp[World.cell?,World.frozen?,h]
theorem vX {w W:World} {o:pO} (h:Gd w W o) (n:Int):Gd w (W.setCell ⟨w.heap.size,8,none⟩ (.int .i64 n)) ⟨o.dev,o.epoch,o.seq,o.coll,o.ver,o.kind,o.key,o.text,n,o.time,o.dots⟩:=by
 refine⟨h.aZ.setCell (aC _) _,?_,?_⟩
 ·have:=h.k1
  simp[World.setCell,Array.getElem?_modify,this]
 ·rw[aW _ _ _ (by simp)];exact h.k2
theorem LK {w W:World} {o:pO} (h:Gd w W o) (s:Sv):Gd w (W.setCell ⟨w.heap.size,10,none⟩ s.v) ⟨o.dev,o.epoch,o.seq,o.coll,o.ver,o.kind,o.key,o.text,o.n,o.time,s⟩:=by
 refine⟨h.aZ.setCell (aC _) _,?_,?_⟩
 ·have:=h.k1
  simp[World.setCell,Array.getElem?_modify,this]
 ·rw[aW _ _ _ (by simp)];exact h.k2
set_option maxRecDepth 100000 in
set_option maxHeartbeats 8000000 in
theorem LM (w W:World) (o0 o:pO) (h:Gd w W o) (hk:o.kind=kD o0) (hy:o.key=zw o0) (hn:o.n=gN o0) (u0 u3 u4 u5 u6 u7 u8 u9 u10 u11 u12 u13 u14 u15 u16 u17 u18 u19 u20 u21 u22 u23 u24 u25 u26 u27 u28 u29 u30 u31 u32 u33 u34 u35 u36 u37 u38 u39 u40 u41 u42 u43 u44 u45 u46 u47 u48 u49 u50 u51 u52 u53 u54 u55 u56 u57 u58 u59 u60 u61 u62 u63 u64 u65 u66 u67 u68 u69 u70 u71 u72 u73 u74 u75 u76 u77 u78 u79 u80 u81 u82 u83 u84 u85 u86 u87 u88 u89 u90 u91 u92 u93 u94 u95 u96 u97 u98 u99 u100 u101 u102 u103 u104 u105 u106 u107 u108 u109 u110 u111 u112 u113 u114 u115 u116 u117 u118 u119 u120 u121 u122 u123 u124 u125 u126 u127 u128 u129 u130 u131 u132 u133 u134 u135 u136 u137 u138 u139 u140 u141 u142 u143 u144 u145 u146 u147 u148 u149 u150 u151 u152 u153 u154 u155 u156 u157 u158 u159:Value):
  ∀c,Tryz.f24.body.bind (spine 8)=some c→Code.wp Tryz.prog c (bodyPost Tryz.prog Tryz.f24 (Af w o0)) ⟨#[u0,.pointer (some ⟨w.heap.size,0,none⟩),.pointer (some ⟨w.heap.size+1,0,none⟩),u3,u4,u5,u6,u7,u8,u9,u10,u11,u12,u13,u14,u15,u16,u17,u18,u19,u20,u21,u22,u23,u24,u25,u26,u27,u28,u29,u30,u31,u32,u33,u34,u35,u36,u37,u38,u39,u40,u41,u42,u43,u44,u45,u46,u47,u48,u49,u50,u51,u52,u53,u54,u55,u56,u57,u58,u59,u60,u61,u62,u63,u64,u65,u66,u67,u68,u69,u70,u71,u72,u73,u74,u75,u76,u77,u78,u79,u80,u81,u82,u83,u84,u85,u86,u87,u88,u89,u90,u91,u92,u93,u94,u95,u96,u97,u98,u99,u100,u101,u102,u103,u104,u105,u106,u107,u108,u109,u110,u111,u112,u113,u114,u115,u116,u117,u118,u119,u120,u121,u122,u123,u124,u125,u126,u127,u128,u129,u130,u131,u132,u133,u134,u135,u136,u137,u138,u139,u140,u141,u142,u143,u144,u145,u146,u147,u148,u149,u150,u151,u152,u153,u154,u155,u156,u157,u158,u159],[]⟩ W:=by
 refine dH rfl ?_
 obtain⟨o1,o2,o3,o4,o5,kd,ky,tx,on,tm,⟨oa,dn,oc⟩⟩:=o
 obtain⟨c0,c1,c2,c3,c4,c5,c6,c7,c8,c9,c10,-⟩:=bT h.k1
 obtain⟨d0,d1,d2,d3,d4,d5,d6,d7,d8,d9,d10,hf⟩:=bT h.k2
 simp only[Sv.v]at c10
 have f0:=hf 0
 have f1:=hf 1
 have f2:=hf 2
 have f3:=hf 3
 have f4:=hf 4
 have f5:=hf 5
 have f6:=hf 6
 have f7:=hf 7
 have f8:=hf 8
 have f9:=hf 9
 have f10:=hf 10
 have HB:=ah h.aZ
 have HK:=ah (And.intro hk (And.intro hy hn))
 clear h hf hk hy hn
 go_wp2
 refine bodyPost_ret (v:=.agg #[.int .i64 o1,.int .i64 o2,.int .i64 o3,.int .i64 o4,.int .i64 o5,.int .i64 kd,.string ky,.string tx,.int .i64 on,.int .i64 tm,.slice oa dn oc]) (by simp[results,Tryz.results24,go_sem, *]) rfl (show Af _ _ _ _ from ?_)
 have hp:w.heap.size≤w.heap.size+1:=by omega
 exact⟨⟨o1,o2,o3,o4,o5,kd,ky,tx,on,tm,⟨oa,dn,oc⟩⟩,rfl,(((((((((((HB.out.setCell (p:=⟨w.heap.size+1,0,none⟩) hp _).setCell (p:=⟨w.heap.size+1,1,none⟩) hp _).setCell (p:=⟨w.heap.size+1,2,none⟩) hp _).setCell (p:=⟨w.heap.size+1,3,none⟩) hp _).setCell (p:=⟨w.heap.size+1,4,none⟩) hp _).setCell (p:=⟨w.heap.size+1,5,none⟩) hp _).setCell (p:=⟨w.heap.size+1,6,none⟩) hp _).setCell (p:=⟨w.heap.size+1,7,none⟩) hp _).setCell (p:=⟨w.heap.size+1,8,none⟩) hp _).setCell (p:=⟨w.heap.size+1,9,none⟩) hp _).setCell (p:=⟨w.heap.size+1,10,none⟩) hp _),HK.out.1,HK.out.2.1,HK.out.2.2⟩
set_option maxRecDepth 100000 in
set_option maxHeartbeats 8000000 in
theorem Jh (w W:World) (o0 o:pO) (h:Gd w W o) (hk:o.kind=kD o0) (hy:o.key=zw o0) (hn:o.n=o0.n) (u0 u3 u4 u5 u6 u7 u8 u9 u10 u11 u12 u13 u14 u15 u16 u17 u18 u19 u20 u21 u22 u23 u24 u25 u26 u27 u28 u29 u30 u31 u32 u33 u34 u35 u36 u37 u38 u39 u40 u41 u42 u43 u44 u45 u46 u47 u48 u49 u50 u51 u52 u53 u54 u55 u56 u57 u58 u59 u60 u61 u62 u63 u64 u65 u66 u67 u68 u69 u70 u71 u72 u73 u74 u75 u76 u77 u78 u79 u80 u81 u82 u83 u84 u85 u86 u87 u88 u89 u90 u91 u92 u93 u94 u95 u96 u97 u98 u99 u100 u101 u102 u103 u104 u105 u106 u107 u108 u109 u110 u111 u112 u113 u114 u115 u116 u117 u118 u119 u120 u121 u122 u123 u124 u125 u126 u127 u128 u129 u130 u131 u132 u133 u134 u135 u136 u137 u138 u139 u140 u141 u142 u143 u144 u145 u146 u147 u148 u149 u150 u151 u152 u153 u154 u155 u156 u157 u158 u159:Value):
  ∀c,Tryz.f24.body.bind (spine 7)=some c→Code.wp Tryz.prog c (bodyPost Tryz.prog Tryz.f24 (Af w o0)) ⟨#[u0,.pointer (some ⟨w.heap.size,0,none⟩),.pointer (some ⟨w.heap.size+1,0,none⟩),u3,u4,u5,u6,u7,u8,u9,u10,u11,u12,u13,u14,u15,u16,u17,u18,u19,u20,u21,u22,u23,u24,u25,u26,u27,u28,u29,u30,u31,u32,u33,u34,u35,u36,u37,u38,u39,u40,u41,u42,u43,u44,u45,u46,u47,u48,u49,u50,u51,u52,u53,u54,u55,u56,u57,u58,u59,u60,u61,u62,u63,u64,u65,u66,u67,u68,u69,u70,u71,u72,u73,u74,u75,u76,u77,u78,u79,u80,u81,u82,u83,u84,u85,u86,u87,u88,u89,u90,u91,u92,u93,u94,u95,u96,u97,u98,u99,u100,u101,u102,u103,u104,u105,u106,u107,u108,u109,u110,u111,u112,u113,u114,u115,u116,u117,u118,u119,u120,u121,u122,u123,u124,u125,u126,u127,u128,u129,u130,u131,u132,u133,u134,u135,u136,u137,u138,u139,u140,u141,u142,u143,u144,u145,u146,u147,u148,u149,u150,u151,u152,u153,u154,u155,u156,u157,u158,u159],[]⟩ W:=by
 refine dH rfl ?_
 obtain⟨o1,o2,o3,o4,o5,kd,ky,tx,on,tm,⟨oa,dn,oc⟩⟩:=o
 simp only at hk hy hn
 have HG:=ah h
 have HY:=ah hy
 have hkb:1≤kd∧kd≤5:=by
  have h1:=Int.emod_nonneg o0.kind (show (5:Int)≠0 by omega)
  have h2:=Int.emod_lt_of_pos o0.kind (show (0:Int)<5 by omega)
  rw[hk];unfold kD;omega
 have HK:=ah hk
 have HN:=ah hn
 obtain⟨c0,c1,c2,c3,c4,c5,c6,c7,c8,c9,c10,hf⟩:=bT h.k1
 simp only[Sv.v]at c10
 have f8:=hf 8
 have q3:=Int.emod_nonneg on (show (12:Int)≠0 by omega)
 have q4:=Int.emod_lt_of_pos on (show (0:Int)<12 by omega)
 have i1:IntKind.i64.wrap (on%12-6)=on%12-6:=IntWalk.i64_in _ (by omega)
 clear h hf hk hy hn
 go_upto_block 4 with fail
 go_cut[] (fun wx=>∃n:Int,n=gN o0∧Gd w wx ⟨o1,o2,o3,o4,o5,kd,ky,tx,n,tm,⟨oa,dn,oc⟩⟩)
 case rest=>
  obtain⟨n,hn,hg⟩:=hcut
  go_step
  exact LM w _ o0 _ hg HK.out HY.out hn _ _ _ _ _ _ _ _ _ _ _ _ _ _ _ _ _ _ _ _ _ _ _ _ _ _ _ _ _ _ _ _ _ _ _ _ _ _ _ _ _ _ _ _ _ _ _ _ _ _ _ _ _ _ _ _ _ _ _ _ _ _ _ _ _ _ _ _ _ _ _ _ _ _ _ _ _ _ _ _ _ _ _ _ _ _ _ _ _ _ _ _ _ _ _ _ _ _ _ _ _ _ _ _ _ _ _ _ _ _ _ _ _ _ _ _ _ _ _ _ _ _ _ _ _ _ _ _ _ _ _ _ _ _ _ _ _ _ _ _ _ _ _ _ _ _ _ _ _ _ _ _ _ _ _ _ _ _ _ rfl
 case first=>
 by_cases h4:kd=4
 ·subst h4
  by_cases h0:on%12-6=0
  ·have e0:(on%12-6==0)=true:=by simpa using h0
   go_wp2_with ((go_at_call 67;refine(gU on 12 _ (by omega) (by omega)).mono ?_);rintro e w9 ⟨rfl,rfl⟩)
   go_meet
   refine⟨6,?_,?_⟩
   ·unfold gN
    rw[if_pos HK.out.symm,←HN.out,if_pos h0]
   ·exact vX (vX HG.out _) 6
  ·have e0:(on%12-6==0)=false:=by simpa using h0
   go_wp2_with ((go_at_call 67;refine(gU on 12 _ (by omega) (by omega)).mono ?_);rintro e w9 ⟨rfl,rfl⟩)
   go_meet
   refine⟨on%12-6,?_,vX HG.out _⟩
   unfold gN
   rw[if_pos HK.out.symm,←HN.out,if_neg h0]
 ·by_cases h5:kd=5
  ·subst h5
   go_wp2_with ((go_at_call 67;refine(gU on 30 _ (by omega) (by omega)).mono ?_);rintro e w9 ⟨rfl,rfl⟩)
   go_meet
   refine⟨on%30,?_,vX HG.out _⟩
   unfold gN
   rw[if_neg (by rw[←HK.out];decide),if_pos HK.out.symm,HN.out]
  ·have e4:(kd==4)=false:=by simpa using h4
   have e5:(kd==5)=false:=by simpa using h5
   go_wp2
   go_meet
   refine⟨on,?_,HG.out⟩
   unfold gN
   rw[if_neg (by rw[←HK.out];exact h4),if_neg (by rw[←HK.out];exact h5),HN.out]
end Go.Proofs.YtlfopoimbbpfdaaGreat
