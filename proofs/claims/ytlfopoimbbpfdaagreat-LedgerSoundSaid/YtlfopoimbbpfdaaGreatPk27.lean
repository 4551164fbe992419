/- What the law asks, in parts: YE LWn Aa Ac. -/
import Derived.Deep.DrawnRows
import Derived.Test.YtlfopoimbbpfdaaGreatPk26
import Derived.Test.YtlfopoimbbpfdaaGreatPk18
import Derived.Test.YtlfopoimbbpfdaaGreatPk25
import Derived.Test.YtlfopoimbbpfdaaGreatPk14
import Derived.Test.YtlfopoimbbpfdaaGreatPk21
set_option linter.all false
set_option maxRecDepth 100000
set_option maxHeartbeats 16000000
namespace Go.Proofs.YtlfopoimbbpfdaaGreat
open Go.RowKit
section
attribute [local go_sem ↓] Go.wp_at_zero Go.wp_at_succ
theorem QE (ls:List Ls) (d:Int):(ls.any (fun l=>decide (l.dev=d))=true↔0≤lg ls d):=by
 rcases b_ (fun c:Ls=>decide (c.dev=d)) ls with⟨hi,hn⟩ | ⟨k,hk,hi,hp,_⟩
 ·have e:lg ls d= -1:=hi
  constructor
  ·intro h
   obtain⟨x,hx,hd⟩:=List.any_eq_true.1 h;have:=hn x hx;rw[hd]at this
   cases this
  ·intro h;omega
 ·have e:lg ls d=k:=hi
  exact⟨fun _=>by omega,fun _=>List.any_eq_true.2 ⟨_,List.getElem_mem hk,hp⟩⟩
theorem J2 (gW:World) (x0:dN) (b0:Bk) (dev ep un:Int) (v:Value) (ws:List Wn) (w:World) (hw:Below gW.heap.size gW w) (h:iA gW x0 b0) (h0:Xf b0) (hv:sM w v ws):
  Calls Tryz.prog 26 #[iJ x0,.int .i64 dev,.int .i64 ep,.int .i64 un,v] w (oJ gW w (h_ b0 dev ep un ws)):=by
 obtain⟨⟨ga,gn,gc⟩,⟨ha,fu,hc⟩,⟨ia,eX,ic⟩,⟨ja,jn,jc⟩⟩:=x0;obtain⟨va,vc,rfl,hvc,hvm⟩:=Sl.shape hv;have hwl:ws.length≤9223372036854775807:=Nat.le_trans hvc hvm;obtain⟨W3,zY,k0,k1,k2,hb,hz⟩:=yA w (.cells #[.slice ga gn gc,.slice ha fu hc,.slice ia eX ic,.slice ja jn jc] 30) (.cells #[.slice none 0 0,.slice none 0 0,.slice none 0 0,.slice none 0 0] 30) (.cells #[.int .i64 0,.int .i64 0,.int .i64 0,.int .i64 0,.slice none 0 0,.slice none 0 0,.slice none 0 0] 48);have HX0:=ah h;have H0:=ah h0;have HV:=ah hv;have HK:=ah (And.intro k0 (And.intro k1 k2));have lI:=ah hb;have HW3:=ah zY;clear h h0 hv k0 k1 k2 hb zY;obtain⟨r,hr⟩:∃r,r=h_ b0 dev ep un ws:=⟨_,rfl⟩;rw[←hr];have HR:=ah hr;clear hr;change Calls Tryz.prog _ #[.agg #[.slice ga gn gc,.slice ha fu hc,.slice ia eX ic,.slice ja jn jc],.int .i64 dev,.int .i64 ep,.int .i64 un,.slice va ws.length vc] w _
 go_enter Tryz.func26,Tryz.ntmps26
 go_upto_region 1 with fail
 rw[HW3.out]
 go_cut[48] (fun v48 wx=>v48= .bool (!(nA dev ep un ws.length))∧wx=W3)
 case first=>
  go_wp2;all_goals go_meet
  all_goals
   refine⟨congrArg Value.bool ?_,rfl⟩;unfold nA;rw[Bool.eq_iff_iff]
   try simp
   try omega
 case rest=>
 obtain⟨rfl,rV⟩:=hcut;rw[rV];clear rV HW3
 have Lb:Hid (∀jd iK V X Y,Below W3.heap.size W3 V→V.heap[jd]? =some (.cells #[X.c.v,X.f.v,X.l.v,X.b.v] 30 (0,0))→V.heap[iK]? =some (.cells #[.int .i64 Y.dev,.int .i64 Y.epoch,.int .i64 Y.bU,.int .i64 Y.last,Y.s.v,Y.i.v,Y.u.v] 48 (0,0))→W3.heap.size≤jd→W3.heap.size≤iK→Gs jd iK w V ⟨⟨ga,gn,gc⟩,⟨ha,fu,hc⟩,⟨ia,eX,ic⟩,⟨ja,jn,jc⟩⟩ X Y):=ah (fun jd iK V X Y hV Qy Qz hp hq=>
  ⟨lI.out.trans (hV.mono lI.out.size),aj HK.out.1 hV (by omega),aj HK.out.2.1 hV (by omega),aj HK.out.2.2 hV (by omega),Qy,Qz,by omega,by omega⟩)
 cases hA:nA dev ep un ws.length with
 | false=>
  have fO:Hid (r=(b0,oD,1)):=ah (by rw[HR.out];unfold h_;rw[if_pos hA]);obtain⟨r0,r1,r2,r3,_⟩:=ay HK.out.1;obtain⟨s0,s1,s2,s3,_⟩:=ay HK.out.2.1;obtain⟨m0,m1,m2,m3,m4,m5,m6,_⟩:=aB HK.out.2.2;have f0:=aA HK.out.2.1 0;have f1:=aA HK.out.2.1 1;have f2:=aA HK.out.2.1 2;have f3:=aA HK.out.2.1 3;have g0:=ak HK.out.2.2 0;have g1:=ak HK.out.2.2 1;have g2:=ak HK.out.2.2 2;have g3:=ak HK.out.2.2 3;have g4:=ak HK.out.2.2 4;have g5:=ak HK.out.2.2 5;have g6:=ak HK.out.2.2 6;go_wp2;refine bodyPost_ret (v:=.tuple #[.agg #[.slice ga gn gc,.slice ha fu hc,.slice ia eX ic,.slice ja jn jc],.agg #[.int .i64 0,.int .i64 0,.int .i64 0,.int .i64 0,.slice none 0 0,.slice none 0 0,.slice none 0 0],.int .i64 1]) (by simp[results,Tryz.results26,go_sem, *]) rfl (show oJ _ _ _ _ _ from ?_);have zi:=CR (oW lI.out (p:=w.heap.size+1) (by omega) (.slice ga gn gc) (.slice ha fu hc) (.slice ia eX ic) (.slice ja jn jc)) (p:=w.heap.size+1+1) (by omega) (.int .i64 0) (.int .i64 0) (.int .i64 0) (.int .i64 0) (.slice none 0 0) (.slice none 0 0) (.slice none 0 0);rw[fO.out];exact⟨⟨⟨ga,gn,gc⟩,⟨ha,fu,hc⟩,⟨ia,eX,ic⟩,⟨ja,jn,jc⟩⟩,ug,rfl,⟨_,aC _,Rb.old HX0.out (hw.trans (zi.mono hw.size))⟩,jl _ _,zi⟩
 | true=>
  have HA:=ah hA;clear hA;obtain⟨r0,r1,r2,r3,_⟩:=ay HK.out.1;go_wp2_with fail
  refine(zV ⟨⟨ga,gn,gc⟩,⟨ha,fu,hc⟩,⟨ia,eX,ic⟩,⟨ja,jn,jc⟩⟩ b0.ls dev W3 (HX0.out.l.keep (hw.trans (lI.out.mono hw.size)) (aC _))).mono ?_;rintro e W4 ⟨rfl,bR⟩;have lC:=ah bR;have eG:=aj HK.out.1 bR (by omega);have J3:=aj HK.out.2.1 bR (by omega);have CS:=aj HK.out.2.2 bR (by omega);have uh:=lI.out.trans (bR.mono lI.out.size);have mP:=bR.size;clear r0 r1 r2 r3 bR;obtain⟨r0,r1,r2,r3,_⟩:=ay eG;by_cases hd:0≤lg b0.ls dev
  ·have fO:Hid (r=(b0,oD,19)):=ah (by
    rw[HR.out];unfold h_
    rw[if_neg (by rw[HA.out];simp),if_pos ((QE _ _).2 hd)])
   obtain⟨s0,s1,s2,s3,_⟩:=ay J3;obtain⟨m0,m1,m2,m3,m4,m5,m6,_⟩:=aB CS;have f0:=aA J3 0;have f1:=aA J3 1;have f2:=aA J3 2;have f3:=aA J3 3;have g0:=ak CS 0;have g1:=ak CS 1;have g2:=ak CS 2;have g3:=ak CS 3;have g4:=ak CS 4;have g5:=ak CS 5;have g6:=ak CS 6;clear eG J3 CS;go_wp2;refine bodyPost_ret (v:=.tuple #[.agg #[.slice ga gn gc,.slice ha fu hc,.slice ia eX ic,.slice ja jn jc],.agg #[.int .i64 0,.int .i64 0,.int .i64 0,.int .i64 0,.slice none 0 0,.slice none 0 0,.slice none 0 0],.int .i64 19]) (by simp[results,Tryz.results26,go_sem, *]) rfl (show oJ _ _ _ _ _ from ?_);have zi:=CR (oW uh (p:=w.heap.size+1) (by omega) (.slice ga gn gc) (.slice ha fu hc) (.slice ia eX ic) (.slice ja jn jc)) (p:=w.heap.size+1+1) (by omega) (.int .i64 0) (.int .i64 0) (.int .i64 0) (.int .i64 0) (.slice none 0 0) (.slice none 0 0) (.slice none 0 0);rw[fO.out];exact⟨⟨⟨ga,gn,gc⟩,⟨ha,fu,hc⟩,⟨ia,eX,ic⟩,⟨ja,jn,jc⟩⟩,ug,rfl,⟨_,aC _,Rb.old HX0.out (hw.trans (zi.mono hw.size))⟩,jl _ _,zi⟩
  ·have HN:Hid (¬b0.ls.any (fun l=>decide (l.dev=dev))=true):=ah (fun h=>hd ((QE _ _).1 h))
   have fO:Hid (r=if (bI b0 (newL dev ep un) [] ws).2.2=0 then(⟨(bI b0 (newL dev ep un) [] ws).1.cs,(bI b0 (newL dev ep un) [] ws).1.free,sD (bI b0 (newL dev ep un) [] ws).2.1 (bI b0 (newL dev ep un) [] ws).1.ls,(bI b0 (newL dev ep un) [] ws).1.bound⟩,(bI b0 (newL dev ep un) [] ws).2.1,0)else(b0,oD,(bI b0 (newL dev ep un) [] ws).2.2)):=ah (by
    rw[HR.out];unfold h_
    rw[if_neg (by rw[HA.out];simp),if_neg HN.out])
   have Zz:ws.length≤5:=by
    have:=HA.out;unfold nA at this;simp at this;omega
   clear HR HN;clear eG J3 CS;go_upto_region 5 with fail
   go_cut[13,14] (fun zh FH wx=>∃jd iK,zh= .pointer (some ⟨jd,0,none⟩)∧FH= .pointer (some ⟨iK,0,none⟩)∧Gs jd iK w wx ⟨⟨ga,gn,gc⟩,⟨ha,fu,hc⟩,⟨ia,eX,ic⟩,⟨ja,jn,jc⟩⟩ ⟨⟨ga,gn,gc⟩,⟨ha,fu,hc⟩,⟨ia,eX,ic⟩,⟨ja,jn,jc⟩⟩ ⟨dev,ep,un,-1,⟨none,0,0⟩,⟨none,0,0⟩,⟨none,0,0⟩⟩)
   case first=>
    go_wp2;go_meet;have gD:Below W4.heap.size W4 ((W4.alloc (.cells #[.slice ga gn gc,.slice ha fu hc,.slice ia eX ic,.slice ja jn jc] 30)).alloc (.cells #[.int .i64 dev,.int .i64 ep,.int .i64 un,.int .i64 (-1),.slice none 0 0,.slice none 0 0,.slice none 0 0] 48)):=((aL _ _).alloc (aC _) _).alloc (by simp) _;exact⟨W4.heap.size,W4.heap.size+1,rfl,rfl,Lb.out _ _ _ ⟨⟨ga,gn,gc⟩,⟨ha,fu,hc⟩,⟨ia,eX,ic⟩,⟨ja,jn,jc⟩⟩ ⟨dev,ep,un,-1,⟨none,0,0⟩,⟨none,0,0⟩,⟨none,0,0⟩⟩ (lC.out.trans (gD.mono mP)) (bX _ _ _) (bL _ _ _) mP (by omega)⟩
   case rest=>
   obtain⟨jd,iK,rfl,rfl,hg⟩:=hcut;go_step;exact Ib gW w _ hw jd iK dev ep un va _ vc ws b0 _ hg HX0.out HV.out H0.out Zz r fO.out _ rfl
end
def zWn:Wn:=⟨⟨#[]⟩,0,0,0⟩
def wtS (i:Nat) (w:Wn):Wn:=if i=0 then⟨⟨#[97]⟩,w.up%7,w.down%7,w.ids%7⟩else if i=1 then⟨⟨#[98]⟩,w.up%7,w.down%7,w.ids%7⟩else⟨⟨#[]⟩,0,0,w.ids%7⟩
def iX (l:List Wn):Nat→List Wn
 | 0=>[]
 | k+1=>iX l k++ [wtS k (l.getD k zWn)]
def E_ (l:List Wn):List Wn:=iX l (min l.length 3)
theorem Bt (l:List Wn) (k:Nat):(iX l k).length=k:=by
 induction k with
 | zero=>rfl
 | succ k ih=>rw[iX,List.length_append,ih];rfl
theorem qF {w V:World} (h:Below w.heap.size w V) (o:Obj):Below w.heap.size w (V.alloc o):=h.alloc h.size o
theorem Tryz.TN:(Tryz.prog.info? 65).map (fun i=>(i.zero,i.size,i.bytes))=some (some (.agg #[.string ⟨#[]⟩,.int .i64 0,.int .i64 0,.int .i64 0]),4,40):=by kernel_rfl
theorem zl (w:World) (cs:List Value) (t:TypeId):∀j u,cs[j]? =some u→(w.alloc (.cells cs.toArray t)).cell? ((⟨w.heap.size,0,none⟩:Addr).add j)=some u:=fun j u hu=>by
 obtain⟨a,ha,hc⟩:=tu w w.heap.size rfl cs t j u hu;injection ha with ha;subst ha;exact hc
def aaJ (w:World) (l:List Wn) (e:Ending) (w':World):Prop:=∃v,e= .returned v∧sM w' v l∧Below w.heap.size w w'
def aeQ (_w wr:World) (key:ByteArray) (u d i:Int) (v5:Value) (wx:World):Prop:=∃g,v5= .pointer (some ⟨g,0,none⟩)∧wr.heap.size≤g∧wx.heap[g]? =some (.cells #[.string key,.int .i64 u,.int .i64 d,.int .i64 i] 65 (0,0))∧Below wr.heap.size wr wx
def LM (wr V:World):Prop:=Below wr.heap.size wr V∧V.heap[wr.heap.size]? =some (.cells #[.string ⟨#[97]⟩,.string ⟨#[98]⟩,.string ⟨#[]⟩] 9 (0,0))
def aaK (wr V U:World):Prop:=Below wr.heap.size wr U∧U.heap[V.heap.size]? =some (.cells #[.string ⟨#[97]⟩,.string ⟨#[98]⟩,.string ⟨#[]⟩] 9 (0,0))∧U.heap[wr.heap.size]? =some (.cells #[.string ⟨#[]⟩,.int .i64 0,.int .i64 0,.int .i64 0] 65 (0,0))
theorem NR (v:Value) (l:List Wn) (w:World) (h:sM w v l):Calls Tryz.prog 23 #[v] w (aaJ w (E_ l)):=by
 obtain⟨ao,cap,rfl,dO,qM⟩:=Sl.shape h;have H:=ah h;clear h
 go_enter Tryz.func23,Tryz.ntmps23
 go_wp2
 go_loopw[3,4] (fun v3 v4 wr=>∃k:Nat,k≤l.length∧k≤3∧v4= .int .i64 k∧wr.ownsRow w.heap.size 65 4 v3 k (aJ Vo (iX l k))∧Below w.heap.size w wr) (fun _ v4 _=>3-(intOf v4).toNat)
 case atStart=>exact⟨0,Nat.zero_le _,Nat.zero_le _,rfl,World.ownsRow_nil _ _ _ _,aL _ _⟩
 case round=>
  obtain⟨k,hk,kH,rfl,ho,hb⟩:=hrel;have HO:=ah ho;have hz:=hb.size;by_cases bA:k<l.length∧k<3
  ·obtain⟨h1,h2⟩:=bA
   obtain⟨wb,wo,rfl,hwb,c0,c1,c2,c3⟩:=dI.wn H.out hb (aC _) k h1;have jK:(k:Int)<l.length:=by omega
   have Cg:Hid (l.getD k zWn=l[k]):=ah (by simp[List.getD,List.getElem?_eq_getElem h1]);obtain⟨key,uZ⟩:∃key:ByteArray,(if k=0 then(⟨#[97]⟩:ByteArray)else if k=1 then⟨#[98]⟩else⟨#[]⟩)=key:=⟨_,rfl⟩;have HKEY:=ah uZ;clear uZ;have HW:=ah (show iX l (k+1)=iX l k++ [wtS k (l.getD k zWn)]from rfl);rw[Cg.out]at HW;generalize hwn:l[k]=wn at*;obtain⟨wk,wu,wd,wi⟩:=wn;simp only at c0 c1 c2 c3;have HWN:=ah hwn;clear hwn ho;have hwr:wb<wr.heap.size:=by omega
   have KS:Hid (∀V,Below wr.heap.size wr V→(Below wr.heap.size wr V∧V.cell? ⟨wb,wo+k*4+1,none⟩=some (.int .i64 wu)∧V.cell? ⟨wb,wo+k*4+2,none⟩=some (.int .i64 wd)∧V.cell? ⟨wb,wo+k*4+3,none⟩=some (.int .i64 wi))):=
    ah (fun V hV=>⟨hV,by rw[hV.cell (p:=⟨wb,wo+k*4+1,none⟩) hwr];exact c1,by rw[hV.cell (p:=⟨wb,wo+k*4+2,none⟩) hwr];exact c2,by rw[hV.cell (p:=⟨wb,wo+k*4+3,none⟩) hwr];exact c3⟩)
   have AP:Below wr.heap.size wr wr:=aL _ _;have HB:=ah hb;go_upto_region 5 with fail
   go_cut[5] (fun v5 wx=>aeQ w wr key (wu%7) (wd%7) (wi%7) v5 wx)
   case first=>
    have sF:k=0∨k=1∨k=2:=by omega
    clear HO HWN HW Cg HB hb;have aQ:Below wr.heap.size wr wr.drew:=AP.drew;refine aW 24 (fun w'=>Below wr.heap.size wr w') (by kernel_rfl) ?_;refine aP (i:=1) (v:=.int .i64 k) rfl rfl (by kernel_rfl) (fun _ _ _ h=>h) (.inl ⟨rfl,fun w' hw=>?_⟩) aQ ?_
    ·go_simp
    refine aP (i:=4) (v:=.slice (some ⟨wb,wo,none⟩) l.length cap) rfl rfl (by kernel_rfl) (fun _ _ _ h=>h) (.inl ⟨rfl,fun w' hw=>?_⟩) aQ ?_
    ·go_simp
    refine aP (i:=5) (v:=.int .i64 k) rfl rfl (by kernel_rfl) (fun _ _ _ h=>h) (.inl ⟨rfl,fun w' hw=>?_⟩) aQ ?_
    ·go_simp
    refine aP (i:=6) (v:=.pointer (some ⟨wb,wo+k*4,none⟩)) rfl rfl (by kernel_rfl) (fun _ _ _ h=>h) (.inl ⟨rfl,fun w' hw=>?_⟩) aQ ?_
    ·go_simp
    refine aP (i:=7) (v:=.pointer (some ⟨wb,wo+k*4+1,none⟩)) rfl rfl (by kernel_rfl) (fun _ _ _ h=>h) (.inl ⟨rfl,fun w' hw=>?_⟩) aQ ?_
    ·go_simp
    refine aP (i:=8) (v:=.int .i64 wu) rfl rfl (by kernel_rfl) (fun _ _ _ h=>h) (.inl ⟨rfl,fun w' hw=>?_⟩) aQ ?_
    ·obtain⟨_,x1,x2,x3⟩:=KS.out _ hw
     go_simp
    refine yF (i:=9) (v:=.int .i64 (wu%7)) rfl rfl (by kernel_rfl) (by kernel_rfl) (by kernel_rfl) (by kernel_rfl) (by kernel_rfl) (by decide) (fun _ _ _ h=>h) ⟨rfl,18,#[.int .i64 wu,.int .i64 7],fun w' hw=>?_,fun w' hw=>jm _ 7 _ (by omega) (by omega)⟩ aQ ?_
    ·go_simp
    refine aP (i:=10) (v:=.slice (some ⟨wb,wo,none⟩) l.length cap) rfl rfl (by kernel_rfl) (fun _ _ _ h=>h) (.inl ⟨rfl,fun w' hw=>?_⟩) aQ ?_
    ·go_simp
    refine aP (i:=11) (v:=.int .i64 k) rfl rfl (by kernel_rfl) (fun _ _ _ h=>h) (.inl ⟨rfl,fun w' hw=>?_⟩) aQ ?_
    ·go_simp
    refine aP (i:=12) (v:=.pointer (some ⟨wb,wo+k*4,none⟩)) rfl rfl (by kernel_rfl) (fun _ _ _ h=>h) (.inl ⟨rfl,fun w' hw=>?_⟩) aQ ?_
    ·go_simp
    refine aP (i:=13) (v:=.pointer (some ⟨wb,wo+k*4+2,none⟩)) rfl rfl (by kernel_rfl) (fun _ _ _ h=>h) (.inl ⟨rfl,fun w' hw=>?_⟩) aQ ?_
    ·go_simp
    refine aP (i:=14) (v:=.int .i64 wd) rfl rfl (by kernel_rfl) (fun _ _ _ h=>h) (.inl ⟨rfl,fun w' hw=>?_⟩) aQ ?_
    ·obtain⟨_,x1,x2,x3⟩:=KS.out _ hw
     go_simp
    refine yF (i:=15) (v:=.int .i64 (wd%7)) rfl rfl (by kernel_rfl) (by kernel_rfl) (by kernel_rfl) (by kernel_rfl) (by kernel_rfl) (by decide) (fun _ _ _ h=>h) ⟨rfl,18,#[.int .i64 wd,.int .i64 7],fun w' hw=>?_,fun w' hw=>jm _ 7 _ (by omega) (by omega)⟩ aQ ?_
    ·go_simp
    refine aP (i:=16) (v:=.slice (some ⟨wb,wo,none⟩) l.length cap) rfl rfl (by kernel_rfl) (fun _ _ _ h=>h) (.inl ⟨rfl,fun w' hw=>?_⟩) aQ ?_
    ·go_simp
    refine aP (i:=17) (v:=.int .i64 k) rfl rfl (by kernel_rfl) (fun _ _ _ h=>h) (.inl ⟨rfl,fun w' hw=>?_⟩) aQ ?_
    ·go_simp
    refine aP (i:=18) (v:=.pointer (some ⟨wb,wo+k*4,none⟩)) rfl rfl (by kernel_rfl) (fun _ _ _ h=>h) (.inl ⟨rfl,fun w' hw=>?_⟩) aQ ?_
    ·go_simp
    refine aP (i:=19) (v:=.pointer (some ⟨wb,wo+k*4+3,none⟩)) rfl rfl (by kernel_rfl) (fun _ _ _ h=>h) (.inl ⟨rfl,fun w' hw=>?_⟩) aQ ?_
    ·go_simp
    refine aP (i:=20) (v:=.int .i64 wi) rfl rfl (by kernel_rfl) (fun _ _ _ h=>h) (.inl ⟨rfl,fun w' hw=>?_⟩) aQ ?_
    ·obtain⟨_,x1,x2,x3⟩:=KS.out _ hw
     go_simp
    refine yF (i:=21) (v:=.int .i64 (wi%7)) rfl rfl (by kernel_rfl) (by kernel_rfl) (by kernel_rfl) (by kernel_rfl) (by kernel_rfl) (by decide) (fun _ _ _ h=>h) ⟨rfl,18,#[.int .i64 wi,.int .i64 7],fun w' hw=>?_,fun w' hw=>jm _ 7 _ (by omega) (by omega)⟩ aQ ?_
    ·go_simp
    refine iZ (i:=0) (j:=23) (by kernel_rfl) rfl rfl rfl rfl ?_ ?_
    ·go_simp
     have bT:=qF aQ (.cells #[.string ⟨#[97]⟩,.string ⟨#[98]⟩,.string ⟨#[]⟩] 9);refine⟨bT,?_⟩;have TP:=heap_alloc_new wr.drew (.cells #[.string ⟨#[97]⟩,.string ⟨#[98]⟩,.string ⟨#[]⟩] 9);refine vK (F:=fun V=>LM wr V) ⟨bT,TP⟩ (fun V HV=>?_);obtain⟨WZ,Xg⟩:=HV;refine xZ (S':=fun w'=>LM wr w') (fun _ h=>h.1) _ _ _ _ ?_;have mq:LM wr V:=⟨WZ,Xg⟩;have hzV:=(bq Xg).1;refine aP (i:=2) (v:=.pointer (some ⟨wr.heap.size,k,none⟩)) rfl rfl (by kernel_rfl) (fun _ _ _ h=>h) (.inl ⟨rfl,fun w' hw=>?_⟩) mq ?_
     ·rcases sF with rfl | rfl | rfl<;>go_simp
     refine aP (i:=3) (v:=.string key) rfl rfl (by kernel_rfl) (fun _ _ _ h=>h) (.inl ⟨rfl,fun w' hw=>?_⟩) mq ?_
     ·have x4:=hw.2
      have y0:w'.cell? ⟨wr.heap.size,0,none⟩=some (.string ⟨#[97]⟩):=by simp[World.cell?,x4]
      have y1:w'.cell? ⟨wr.heap.size,1,none⟩=some (.string ⟨#[98]⟩):=by simp[World.cell?,x4]
      have y2:w'.cell? ⟨wr.heap.size,2,none⟩=some (.string ⟨#[]⟩):=by simp[World.cell?,x4]
      have hky:=HKEY.out;clear x4;rw[←hky];clear hky;rcases sF with rfl | rfl | rfl<;>go_simp
     refine aP (i:=22) (v:=.agg #[.string key,.int .i64 (wu%7),.int .i64 (wd%7),.int .i64 (wi%7)]) rfl rfl (by kernel_rfl) (fun _ _ _ h=>h) (.inl ⟨rfl,fun w' hw=>?_⟩) mq ?_
     ·go_simp
     have hAA:Below V.heap.size V (V.alloc (.cells #[.string ⟨#[]⟩,.int .i64 0,.int .i64 0,.int .i64 0] 65)):=(aL _ _).alloc (aC _) _;have dF:LM wr (V.alloc (.cells #[.string ⟨#[]⟩,.int .i64 0,.int .i64 0,.int .i64 0] 65)):=⟨qF WZ _,aj Xg hAA hzV⟩;have hsV:wr.heap.size≤V.heap.size:=by omega
     refine aD (i:=23) (by kernel_rfl) rfl rfl ?_;go_simp;refine aD (i:=24) (by kernel_rfl) rfl rfl ?_;go_simp;refine aU (by kernel_rfl) ?_;go_wp2;go_meet;exact⟨V.heap.size,rfl,hsV,heap_alloc_new _ _,qF WZ _⟩
    ·go_simp
     have bT:=qF aQ (.cells #[.string ⟨#[]⟩,.int .i64 0,.int .i64 0,.int .i64 0] 65);refine⟨bT,?_⟩;have mR:=heap_alloc_new wr.drew (.cells #[.string ⟨#[]⟩,.int .i64 0,.int .i64 0,.int .i64 0] 65);refine vK (F:=fun V=>Below wr.heap.size wr V∧V.heap[wr.heap.size]? =some (.cells #[.string ⟨#[]⟩,.int .i64 0,.int .i64 0,.int .i64 0] 65 (0,0))) ⟨bT,mR⟩ (fun V HV=>?_);obtain⟨WZ,Xg⟩:=HV;have hzV:=(bq Xg).1;have HKV:=ah Xg;clear Xg;refine aD (i:=0) (by kernel_rfl) rfl rfl ?_;go_simp;have bR:=qF WZ (.cells #[.string ⟨#[97]⟩,.string ⟨#[98]⟩,.string ⟨#[]⟩] 9);refine⟨bR,?_⟩;have eG:=heap_alloc_new V (.cells #[.string ⟨#[97]⟩,.string ⟨#[98]⟩,.string ⟨#[]⟩] 9);have hAA:Below V.heap.size V (V.alloc (.cells #[.string ⟨#[97]⟩,.string ⟨#[98]⟩,.string ⟨#[]⟩] 9)):=(aL _ _).alloc (aC _) _;have hkB:=aj HKV.out hAA hzV;refine vK (F:=fun U=>aaK wr V U) ⟨bR,eG,hkB⟩ (fun U HU=>?_);refine xZ (S':=fun w'=>aaK wr V w') (fun _ h=>h.1) _ _ _ _ ?_;have Xh:=ah HU;refine aP (i:=2) (v:=.pointer (some ⟨V.heap.size,k,none⟩)) rfl rfl (by kernel_rfl) (fun _ _ _ h=>h) (.inl ⟨rfl,fun w' hw=>?_⟩) HU ?_
     ·rcases sF with rfl | rfl | rfl<;>go_simp
     refine aP (i:=3) (v:=.string key) rfl rfl (by kernel_rfl) (fun _ _ _ h=>h) (.inl ⟨rfl,fun w' hw=>?_⟩) HU ?_
     ·have x4:=hw.2.1
      have y0:w'.cell? ⟨V.heap.size,0,none⟩=some (.string ⟨#[97]⟩):=by simp[World.cell?,x4]
      have y1:w'.cell? ⟨V.heap.size,1,none⟩=some (.string ⟨#[98]⟩):=by simp[World.cell?,x4]
      have y2:w'.cell? ⟨V.heap.size,2,none⟩=some (.string ⟨#[]⟩):=by simp[World.cell?,x4]
      have hky:=HKEY.out;clear x4;rw[←hky];clear hky;rcases sF with rfl | rfl | rfl<;>go_simp
     refine aP (i:=22) (v:=.agg #[.string key,.int .i64 (wu%7),.int .i64 (wd%7),.int .i64 (wi%7)]) rfl rfl (by kernel_rfl) (fun _ _ _ h=>h) (.inl ⟨rfl,fun w' hw=>?_⟩) HU ?_
     ·go_simp
     obtain⟨g0,g1,g2,g3,jJ⟩:=ay Xh.out.2.2;have f0:=aA Xh.out.2.2 0;have f1:=aA Xh.out.2.2 1;have f2:=aA Xh.out.2.2 2;have f3:=aA Xh.out.2.2 3;clear jJ HU;refine aD (i:=24) (by kernel_rfl) rfl rfl ?_;go_simp;refine aU (by kernel_rfl) ?_;go_wp2;go_meet;exact⟨wr.heap.size,rfl,aC _,ku Xh.out.2.2 _ _ _ _,(((Xh.out.1.setCell (aC _) _).setCell (aC _) _).setCell (aC _) _).setCell (aC _) _⟩
   case rest=>
   obtain⟨g,rfl,hg,hkg,JM⟩:=hcut;obtain⟨W5,JG⟩:∃W5,W5=wc:=⟨_,rfl⟩;subst JG;obtain⟨inf,gq,kK,dX,f_⟩:=info_parts Tryz.TN;obtain⟨e0,e1,e2,e3,jJ⟩:=ay hkg;have f1:=aA hkg 1;have f2:=aA hkg 2;have HKG:=ah hkg;have Bo:=ah (HB.out.trans (JM.mono HB.out.size));have yt:=ah (aI HO.out JM (aC _));clear jJ hkg JM KS AP c0 c1 c2 c3 hb;by_cases dH:k=2
   ·have s1:((k:Int)==2)=true:=by simp[dH]
    have eT:=ah dH;clear dH;have uf:=gT yt.out (fun c hc=>mQ W5 g c hc 1 2 (.int .i64 0) (.int .i64 0)) (fun e=>by have:=(HO.out.lt g e).2;omega);have nG:=(Bo.out.setCell (p:=⟨g,1,none⟩) (by simp;omega) (.int .i64 0)).setCell (p:=⟨g,2,none⟩) (by simp;omega) (.int .i64 0);have zC:=ah uf;have DU:=ah nG;have Aa:(((W5.setCell ⟨g,1,none⟩ (.int .i64 0)).setCell ⟨g,2,none⟩ (.int .i64 0))).heap[g]? =some (.cells #[.string key,.int .i64 0,.int .i64 0,.int .i64 (wi%7)] 65 (0,0)):=by simp[World.setCell,Array.getElem?_modify,HKG.out]
    clear uf nG;go_upto_region 8 with fail
    generalize ((W5.setCell ⟨g,1,none⟩ (.int .i64 0)).setCell ⟨g,2,none⟩ (.int .i64 0))=W6 at*;clear e0 e1 e2 e3 f1 f2;obtain⟨e0,e1,e2,e3,hx8⟩:=ay Aa;clear hx8 Aa;have eD:Below W6.heap.size W6 (W6.alloc (.cells #[.string key,.int .i64 0,.int .i64 0,.int .i64 (wi%7)] 65)):=(aL _ _).alloc (aC _) _;have VY:=aI zC.out eD (aC _);have hcn:=zl W6 [.string key,.int .i64 0,.int .i64 0,.int .i64 (wi%7)] 65;have jw:=DU.out.trans (eD.mono DU.out.size);have KX:=jw.size;have HWT:Hid (iX l (k+1)=iX l k++ [⟨key,0,0,wi%7⟩]):=ah (by rw[HW.out,←HKEY.out];simp[wtS,eT.out]);clear eD;go_wp2_with ((with_reducible refine aZ 46 ?_);refine wpList_append_own _ rfl _ _ 33 rfl w.heap.size 65 inf _ 4 40 Tryz.underlying33 gq kK dX f_ rfl (by decide) _ k (aJ Vo (iX l k)) rfl VY ⟨W6.heap.size,0,none⟩ 1 1 [.string key,.int .i64 0,.int .i64 0,.int .i64 (wi%7)] rfl rfl hcn (KL ⟨key,0,0,wi%7⟩) (by unfold maxLen;omega) (by omega) KX ?_;intro v5 w5 gP hg5 _)
    go_roundw
    case rel=>exact⟨k+1,by omega,by omega,by go_num,by rw[HWT.out,fE,uS];exact gP,jw.grown hg5 KX (fun g' hg'=>(HO.out.lt g' hg').1)⟩
    case measure=>simp[intOf];omega
   ·have s1:((k:Int)==2)=false:=by simp;omega
    have eD:Below W5.heap.size W5 (W5.alloc (.cells #[.string key,.int .i64 (wu%7),.int .i64 (wd%7),.int .i64 (wi%7)] 65)):=(aL _ _).alloc (aC _) _;have VY:=aI yt.out eD (aC _);have hcn:=zl W5 [.string key,.int .i64 (wu%7),.int .i64 (wd%7),.int .i64 (wi%7)] 65;have jw:=Bo.out.trans (eD.mono Bo.out.size);have KX:=jw.size;have HWT:Hid (iX l (k+1)=iX l k++ [⟨key,(wu%7),(wd%7),wi%7⟩]):=ah (by rw[HW.out,←HKEY.out];(have h01:k=0∨k=1:=by omega);rcases h01 with rfl | rfl<;>simp[wtS]);clear eD;go_wp2_with ((with_reducible refine aZ 46 ?_);refine wpList_append_own _ rfl _ _ 33 rfl w.heap.size 65 inf _ 4 40 Tryz.underlying33 gq kK dX f_ rfl (by decide) _ k (aJ Vo (iX l k)) rfl VY ⟨W5.heap.size,0,none⟩ 1 1 [.string key,.int .i64 (wu%7),.int .i64 (wd%7),.int .i64 (wi%7)] rfl rfl hcn (KL ⟨key,(wu%7),(wd%7),wi%7⟩) (by unfold maxLen;omega) (by omega) KX ?_;intro v5 w5 gP hg5 _)
    go_roundw
    case rel=>exact⟨k+1,by omega,by omega,by go_num,by rw[HWT.out,fE,uS];exact gP,jw.grown hg5 KX (fun g' hg'=>(HO.out.lt g' hg').1)⟩
    case measure=>simp[intOf];omega
  ·have hke:k=min l.length 3:=by omega
   have HE:Hid (E_ l=iX l k):=by show _=_;unfold E_;rw[←hke]
   clear hke;have HL:=ah (Bt l k);clear ho;by_cases h1:k<l.length
   ·have h2:k=3:=by omega
    subst h2;have jK:((3:Nat):Int)<l.length:=by omega
    go_wp2;go_ret;refine⟨_,rfl,?_,hb⟩;rw[HE.out];show Sl _ _ _ (iX l 3).length _;rw[HL.out];exact aG HO.out
   ·have jK:¬ (k:Int)<l.length:=by omega
    go_wp2;go_ret;refine⟨_,rfl,?_,hb⟩;rw[HE.out];show Sl _ _ _ (iX l k).length _;rw[HL.out];exact aG HO.out
structure Dt where
 dev:Int
 epoch:Int
 seq:Int
def CU (d:Dt):List Value:=[.int .i64 d.dev,.int .i64 d.epoch,.int .i64 d.seq]
theorem Ad (d:Dt):(CU d).length=3:=rfl
theorem TQ (d:Dt):∀u∈CU d,u.oneCell'=true:=by intro u hu;simp[CU]at hu;rcases hu with rfl | rfl | rfl<;>rfl
abbrev J4 (w:World) (v:Value) (l:List Dt):Prop:=dI CU 3 w v l
theorem dI.dt {w wr:World} {l:List Dt} {ao:Option Addr} {cap B:Nat} (h:J4 w (.slice ao l.length cap) l) (hb:Below B w wr) (hB:w.heap.size≤B) (k:Nat) (hk:k<l.length):
  ∃b off,ao=some ⟨b,off,none⟩∧b<w.heap.size∧wr.cell? ⟨b,off+k*3,none⟩=some (.int .i64 l[k].dev)∧wr.cell? ⟨b,off+k*3+1,none⟩=some (.int .i64 l[k].epoch)∧wr.cell? ⟨b,off+k*3+2,none⟩=some (.int .i64 l[k].seq):=by
 obtain⟨b,off,h1,h2,h3⟩:=dI.at h Ad (by omega) hb hB k hk;exact⟨b,off,h1,h2,h3 0 _ rfl,h3 1 _ rfl,h3 2 _ rfl⟩
def cOp (o:uq):List Value:=[.int .i64 o.dev,.int .i64 o.epoch,.int .i64 o.seq,.int .i64 o.coll,.int .i64 o.ver,.int .i64 o.kind,.string o.key,.string o.text,.int .i64 o.n,.int .i64 o.time,o.dots.v]
structure uz where
 kind:Int
 dev:Int
 n:Int
 wants:Sv
 o:uq
def Xi (x:uz):List Value:=.int .i64 x.kind:: .int .i64 x.dev:: .int .i64 x.n::x.wants.v::cOp x.o
theorem Fa (x:uz):(Xi x).length=15:=rfl
abbrev aAc (x:uz):Value:=.agg #[.int .i64 x.kind,.int .i64 x.dev,.int .i64 x.n,x.wants.v,.int .i64 x.o.dev,.int .i64 x.o.epoch,.int .i64 x.o.seq,.int .i64 x.o.coll,.int .i64 x.o.ver,.int .i64 x.o.kind,.string x.o.key,.string x.o.text,.int .i64 x.o.n,.int .i64 x.o.time,x.o.dots.v]
structure UY (w:World) (x:uz) (ws:List Wn):Prop where
 wn:sM w x.wants.v ws
 dt:∃ds,J4 w x.o.dots.v ds
theorem UY.keep {w w':World} {x:uz} {ws:List Wn} {B:Nat} (h:UY w x ws) (hb:Below B w w') (hB:w.heap.size≤B):UY w' x ws:=
 ⟨dI.keep h.wn hb hB,h.dt.imp fun _ h=>dI.keep h hb hB⟩
theorem jh (a n:Int) (w:World) (hn:0<n) (uw:n≤4611686018427387904):
  Calls Tryz.prog 67 #[.int .i64 a,.int .i64 n] w fun e w'=>e= .returned (.int .i64 (a%n))∧w'=w:=by
 have h2:=Int.emod_nonneg a (show n≠0 by omega);have h3:=Int.emod_lt_of_pos a hn;by_cases h:0≤a
 ·go_enter Tryz.func67,Tryz.ntmps67
  go_wp2;go_ret;exact⟨rfl,rfl⟩
 ·have h4:=ah (Dc a n hn (by omega))
  have h5:a.tmod n≤0:=by rw[←Int.neg_neg a,Int.neg_tmod];have:=Int.tmod_nonneg n (show 0≤ -a by omega);omega
  have h6: -n<a.tmod n:=by rw[←Int.neg_neg a,Int.neg_tmod];have:=Int.tmod_lt_of_pos (-a) hn;omega
  go_enter Tryz.func67,Tryz.ntmps67
  go_wp2;all_goals go_ret
  all_goals refine⟨eH ?_,rfl⟩
  ·rw[←h4.out,if_pos (by assumption)]
  ·rw[←h4.out,if_neg (by omega)]
def Xj (w:World) (e:Ending) (w':World):Prop:=∃q:Bool,e= .returned (.bool q)∧Below w.heap.size w w'
theorem NS (a b:Dt) (w:World):
  Calls Tryz.prog 68 #[.agg #[.int .i64 a.dev,.int .i64 a.epoch,.int .i64 a.seq],.agg #[.int .i64 b.dev,.int .i64 b.epoch,.int .i64 b.seq]] w (Xj w):=by
 have hb:Below w.heap.size w ((w.alloc (.cells #[.int .i64 a.dev,.int .i64 a.epoch,.int .i64 a.seq] 35)).alloc (.cells #[.int .i64 b.dev,.int .i64 b.epoch,.int .i64 b.seq] 35)):=((aL _ _).alloc (aC _) _).alloc (by simp) _
 go_enter Tryz.func68,Tryz.ntmps68
 go_wp2;all_goals go_ret
 all_goals exact⟨_,rfl,hb⟩
theorem QF (o:uq) (w:World) (hn:o.dots.n≤9223372036854775807):
  Calls Tryz.prog 21 #[YG o] w (Xj w):=by
 obtain⟨o1,o2,o3,o4,o5,kind,key,text,n,time,⟨oa,on,oc⟩⟩:=o;have hb:Below w.heap.size w (w.alloc (.cells #[.int .i64 o1,.int .i64 o2,.int .i64 o3,.int .i64 o4,.int .i64 o5,.int .i64 kind,.string key,.string text,.int .i64 n,.int .i64 time,.slice oa on oc] 38)):=(aL _ _).alloc (aC _) _;change Calls Tryz.prog _ #[.agg #[.int .i64 o1,.int .i64 o2,.int .i64 o3,.int .i64 o4,.int .i64 o5,.int .i64 kind,.string key,.string text,.int .i64 n,.int .i64 time,.slice oa on oc]] w _
 go_enter Tryz.func21,Tryz.ntmps21
 go_wp2;all_goals go_ret
 all_goals exact⟨_,rfl,hb⟩
section
attribute [local go_sem ↓] Go.wp_at_zero Go.wp_at_succ
def nD (o:uq):Int:=1+o.kind%5
def rH (k:Int):ByteArray:=if k=0 then⟨#[97]⟩else if k=1 then⟨#[98]⟩else⟨#[120]⟩
def CV (o:uq):ByteArray:=rH ((o.key.size:Int)%3)
def gN (o:uq):Int:=if nD o=4 then(if o.n%12-6=0 then 6 else o.n%12-6)else if nD o=5 then o.n%30 else o.n
def D5 (w:World) (o:uq) (e:Ending) (w':World):Prop:=∃o':uq,e= .returned (YG o')∧Below w.heap.size w w'∧o'.kind=nD o∧o'.key=CV o∧o'.n=gN o
structure Gd (w W:World) (o:uq):Prop where
 bC:Below w.heap.size w W
 k1:W.heap[w.heap.size]? =some (.cells #[.int .i64 o.dev,.int .i64 o.epoch,.int .i64 o.seq,.int .i64 o.coll,.int .i64 o.ver,.int .i64 o.kind,.string o.key,.string o.text,.int .i64 o.n,.int .i64 o.time,o.dots.v] 38 (0,0))
 k2:W.heap[w.heap.size+1]? =some (.cells #[.int .i64 0,.int .i64 0,.int .i64 0,.int .i64 0,.int .i64 0,.int .i64 0,.string ⟨#[]⟩,.string ⟨#[]⟩,.int .i64 0,.int .i64 0,.slice none 0 0] 38 (0,0))
theorem Gd.keep {w W W':World} {o:uq} (h:Gd w W o) (hb:Below W.heap.size W W'):Gd w W' o:=
 ⟨h.bC.trans (hb.mono h.bC.size),aj h.k1 hb (bq h.k1).1,aj h.k2 hb (bq h.k2).1⟩
theorem cO {w:World} {b:Nat} {a0 a1 a2 a3 a4 a5 a6 a7 a8 a9 NT:Value} {t:TypeId} (h:w.heap[b]? =some (.cells #[a0,a1,a2,a3,a4,a5,a6,a7,a8,a9,NT] t (0,0))):
  w.cell? ⟨b,0,none⟩=some a0∧w.cell? ⟨b,1,none⟩=some a1∧w.cell? ⟨b,2,none⟩=some a2∧w.cell? ⟨b,3,none⟩=some a3∧w.cell? ⟨b,4,none⟩=some a4∧w.cell? ⟨b,5,none⟩=some a5∧w.cell? ⟨b,6,none⟩=some a6∧w.cell? ⟨b,7,none⟩=some a7∧w.cell? ⟨b,8,none⟩=some a8∧w.cell? ⟨b,9,none⟩=some a9∧w.cell? ⟨b,10,none⟩=some NT∧ ∀k,w.frozen? ⟨b,k,none⟩=false:=by
 simp[World.cell?,World.frozen?,h]
theorem Ae {w W:World} {o:uq} (h:Gd w W o) (n:Int):Gd w (W.setCell ⟨w.heap.size,8,none⟩ (.int .i64 n)) ⟨o.dev,o.epoch,o.seq,o.coll,o.ver,o.kind,o.key,o.text,n,o.time,o.dots⟩:=by
 refine⟨h.bC.setCell (aC _) _,?_,?_⟩
 ·have:=h.k1
  simp[World.setCell,Array.getElem?_modify,this]
 ·rw[aX _ _ _ (by simp)];exact h.k2
theorem QG {w W:World} {o:uq} (h:Gd w W o) (s:Sv):Gd w (W.setCell ⟨w.heap.size,10,none⟩ s.v) ⟨o.dev,o.epoch,o.seq,o.coll,o.ver,o.kind,o.key,o.text,o.n,o.time,s⟩:=by
 refine⟨h.bC.setCell (aC _) _,?_,?_⟩
 ·have:=h.k1
  simp[World.setCell,Array.getElem?_modify,this]
 ·rw[aX _ _ _ (by simp)];exact h.k2
theorem QH (w W:World) (o0 o:uq) (h:Gd w W o) (hk:o.kind=nD o0) (hy:o.key=CV o0) (hn:o.n=gN o0) {u0 u3 u4 u5 u6 u7 u8 u9 u10 u11 u12 u13 u14 u15 u16 u17 u18 u19 u20 u21 u22 u23 u24 u25 u26 u27 u28 u29 u30 u31 u32 u33 u34 u35 u36 u37 u38 u39 u40 u41 u42 u43 u44 u45 u46 u47 u48 u49 u50 u51 u52 u53 u54 u55 u56 u57 u58 u59 u60 u61 u62 u63 u64 u65 u66 u67 u68 u69 u70 u71 u72 u73 u74 u75 u76 u77 u78 u79 u80 u81 u82 u83 u84 u85 u86 u87 u88 u89 u90 u91 u92 u93 u94 u95 u96 u97 u98 u99 u100 u101 u102 u103 u104 u105 u106 u107 u108 u109 u110 u111 u112 u113 u114 u115 u116 u117 u118 u119 u120 u121 u122 u123 u124 u125 u126 u127 u128 u129 u130 u131 u132 u133 u134 u135 u136 u137 u138 u139 u140 u141 u142 u143 u144 u145 u146 u147 u148 u149 u150 u151 u152 u153 u154 u155 u156 u157 u158 u159:Value}:
  ∀c,Tryz.f24.body.bind (spine 8)=some c→Code.wp Tryz.prog c (bodyPost Tryz.prog Tryz.f24 (D5 w o0)) ⟨#[u0,.pointer (some ⟨w.heap.size,0,none⟩),.pointer (some ⟨w.heap.size+1,0,none⟩),u3,u4,u5,u6,u7,u8,u9,u10,u11,u12,u13,u14,u15,u16,u17,u18,u19,u20,u21,u22,u23,u24,u25,u26,u27,u28,u29,u30,u31,u32,u33,u34,u35,u36,u37,u38,u39,u40,u41,u42,u43,u44,u45,u46,u47,u48,u49,u50,u51,u52,u53,u54,u55,u56,u57,u58,u59,u60,u61,u62,u63,u64,u65,u66,u67,u68,u69,u70,u71,u72,u73,u74,u75,u76,u77,u78,u79,u80,u81,u82,u83,u84,u85,u86,u87,u88,u89,u90,u91,u92,u93,u94,u95,u96,u97,u98,u99,u100,u101,u102,u103,u104,u105,u106,u107,u108,u109,u110,u111,u112,u113,u114,u115,u116,u117,u118,u119,u120,u121,u122,u123,u124,u125,u126,u127,u128,u129,u130,u131,u132,u133,u134,u135,u136,u137,u138,u139,u140,u141,u142,u143,u144,u145,u146,u147,u148,u149,u150,u151,u152,u153,u154,u155,u156,u157,u158,u159],[]⟩ W:=by
 refine dP rfl ?_;obtain⟨o1,o2,o3,o4,o5,kd,ky,tx,on,tm,⟨oa,dn,oc⟩⟩:=o;obtain⟨c0,c1,c2,c3,c4,c5,c6,c7,c8,c9,xq,-⟩:=cO h.k1;obtain⟨d0,d1,d2,d3,d4,d5,d6,d7,d8,d9,d10,hf⟩:=cO h.k2;simp only[Sv.v]at xq;have f0:=hf 0;have f1:=hf 1;have f2:=hf 2;have f3:=hf 3;have f4:=hf 4;have f5:=hf 5;have f6:=hf 6;have f7:=hf 7;have f8:=hf 8;have f9:=hf 9;have f10:=hf 10;have HB:=ah h.bC;have HK:=ah (And.intro hk (And.intro hy hn));clear h hf hk hy hn;go_wp2;refine bodyPost_ret (v:=.agg #[.int .i64 o1,.int .i64 o2,.int .i64 o3,.int .i64 o4,.int .i64 o5,.int .i64 kd,.string ky,.string tx,.int .i64 on,.int .i64 tm,.slice oa dn oc]) (by simp[results,Tryz.results24,go_sem, *]) rfl (show D5 _ _ _ _ from ?_);have hp:w.heap.size≤w.heap.size+1:=by omega
 exact⟨⟨o1,o2,o3,o4,o5,kd,ky,tx,on,tm,⟨oa,dn,oc⟩⟩,rfl,(((((((((((HB.out.setCell (p:=⟨w.heap.size+1,0,none⟩) hp _).setCell (p:=⟨w.heap.size+1,1,none⟩) hp _).setCell (p:=⟨w.heap.size+1,2,none⟩) hp _).setCell (p:=⟨w.heap.size+1,3,none⟩) hp _).setCell (p:=⟨w.heap.size+1,4,none⟩) hp _).setCell (p:=⟨w.heap.size+1,5,none⟩) hp _).setCell (p:=⟨w.heap.size+1,6,none⟩) hp _).setCell (p:=⟨w.heap.size+1,7,none⟩) hp _).setCell (p:=⟨w.heap.size+1,8,none⟩) hp _).setCell (p:=⟨w.heap.size+1,9,none⟩) hp _).setCell (p:=⟨w.heap.size+1,10,none⟩) hp _),HK.out.1,HK.out.2.1,HK.out.2.2⟩
theorem NU (w W:World) (o0 o:uq) (h:Gd w W o) (hk:o.kind=nD o0) (hy:o.key=CV o0) (hn:o.n=o0.n) {u0 u3 u4 u5 u6 u7 u8 u9 u10 u11 u12 u13 u14 u15 u16 u17 u18 u19 u20 u21 u22 u23 u24 u25 u26 u27 u28 u29 u30 u31 u32 u33 u34 u35 u36 u37 u38 u39 u40 u41 u42 u43 u44 u45 u46 u47 u48 u49 u50 u51 u52 u53 u54 u55 u56 u57 u58 u59 u60 u61 u62 u63 u64 u65 u66 u67 u68 u69 u70 u71 u72 u73 u74 u75 u76 u77 u78 u79 u80 u81 u82 u83 u84 u85 u86 u87 u88 u89 u90 u91 u92 u93 u94 u95 u96 u97 u98 u99 u100 u101 u102 u103 u104 u105 u106 u107 u108 u109 u110 u111 u112 u113 u114 u115 u116 u117 u118 u119 u120 u121 u122 u123 u124 u125 u126 u127 u128 u129 u130 u131 u132 u133 u134 u135 u136 u137 u138 u139 u140 u141 u142 u143 u144 u145 u146 u147 u148 u149 u150 u151 u152 u153 u154 u155 u156 u157 u158 u159:Value}:
  ∀c,Tryz.f24.body.bind (spine 7)=some c→Code.wp Tryz.prog c (bodyPost Tryz.prog Tryz.f24 (D5 w o0)) ⟨#[u0,.pointer (some ⟨w.heap.size,0,none⟩),.pointer (some ⟨w.heap.size+1,0,none⟩),u3,u4,u5,u6,u7,u8,u9,u10,u11,u12,u13,u14,u15,u16,u17,u18,u19,u20,u21,u22,u23,u24,u25,u26,u27,u28,u29,u30,u31,u32,u33,u34,u35,u36,u37,u38,u39,u40,u41,u42,u43,u44,u45,u46,u47,u48,u49,u50,u51,u52,u53,u54,u55,u56,u57,u58,u59,u60,u61,u62,u63,u64,u65,u66,u67,u68,u69,u70,u71,u72,u73,u74,u75,u76,u77,u78,u79,u80,u81,u82,u83,u84,u85,u86,u87,u88,u89,u90,u91,u92,u93,u94,u95,u96,u97,u98,u99,u100,u101,u102,u103,u104,u105,u106,u107,u108,u109,u110,u111,u112,u113,u114,u115,u116,u117,u118,u119,u120,u121,u122,u123,u124,u125,u126,u127,u128,u129,u130,u131,u132,u133,u134,u135,u136,u137,u138,u139,u140,u141,u142,u143,u144,u145,u146,u147,u148,u149,u150,u151,u152,u153,u154,u155,u156,u157,u158,u159],[]⟩ W:=by
 refine dP rfl ?_;obtain⟨o1,o2,o3,o4,o5,kd,ky,tx,on,tm,⟨oa,dn,oc⟩⟩:=o;simp only at hk hy hn;have HG:=ah h;have HY:=ah hy
 have mR:1≤kd∧kd≤5:=by
  have h1:=Int.emod_nonneg o0.kind (show (5:Int)≠0 by omega);have h2:=Int.emod_lt_of_pos o0.kind (show (0:Int)<5 by omega);rw[hk];unfold nD;omega
 have HK:=ah hk;have HN:=ah hn;obtain⟨c0,c1,c2,c3,c4,c5,c6,c7,c8,c9,xq,hf⟩:=cO h.k1;simp only[Sv.v]at xq;have f8:=hf 8;have q3:=Int.emod_nonneg on (show (12:Int)≠0 by omega);have q4:=Int.emod_lt_of_pos on (show (0:Int)<12 by omega);have i1:IntKind.i64.wrap (on%12-6)=on%12-6:=IntWalk.i64_in _ (by omega);clear h hf hk hy hn;go_upto_block 4 with fail
 go_cut[] (fun wx=>∃n:Int,n=gN o0∧Gd w wx ⟨o1,o2,o3,o4,o5,kd,ky,tx,n,tm,⟨oa,dn,oc⟩⟩)
 case rest=>
  obtain⟨n,hn,hg⟩:=hcut;go_step;exact QH w _ o0 _ hg HK.out HY.out hn _ rfl
 case first=>
 by_cases h4:kd=4
 ·subst h4
  by_cases h0:on%12-6=0
  ·have e0:(on%12-6==0)=true:=by simpa using h0
   go_wp2_with ((go_at_call 67;refine(jh on 12 _ (by omega) (by omega)).mono ?_);rintro e w9 ⟨rfl,rfl⟩)
   go_meet;refine⟨6,?_,?_⟩
   ·unfold gN
    rw[if_pos HK.out.symm,←HN.out,if_pos h0]
   ·exact Ae (Ae HG.out _) 6
  ·have e0:(on%12-6==0)=false:=by simpa using h0
   go_wp2_with ((go_at_call 67;refine(jh on 12 _ (by omega) (by omega)).mono ?_);rintro e w9 ⟨rfl,rfl⟩)
   go_meet;refine⟨on%12-6,?_,Ae HG.out _⟩;unfold gN;rw[if_pos HK.out.symm,←HN.out,if_neg h0]
 ·by_cases h5:kd=5
  ·subst h5
   go_wp2_with ((go_at_call 67;refine(jh on 30 _ (by omega) (by omega)).mono ?_);rintro e w9 ⟨rfl,rfl⟩)
   go_meet;refine⟨on%30,?_,Ae HG.out _⟩;unfold gN;rw[if_neg (by rw[←HK.out];decide),if_pos HK.out.symm,HN.out]
  ·have e4:(kd==4)=false:=by simpa using h4
   have e5:(kd==5)=false:=by simpa using h5
   go_wp2;go_meet;refine⟨on,?_,HG.out⟩;unfold gN;rw[if_neg (by rw[←HK.out];exact h4),if_neg (by rw[←HK.out];exact h5),HN.out]
end
end Go.Proofs.YtlfopoimbbpfdaaGreat
