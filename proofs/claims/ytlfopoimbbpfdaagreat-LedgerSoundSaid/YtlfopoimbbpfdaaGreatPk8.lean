/- What the law asks, in parts: LSb LSc LSd. -/
import Derived.IntWalk
import Derived.Test.YtlfopoimbbpfdaaGreatPk2
import Derived.Test.YtlfopoimbbpfdaaGreatPk0
import Derived.Test.YtlfopoimbbpfdaaGreatPk1
import Derived.Test.YtlfopoimbbpfdaaGreatPk3
import Derived.Test.YtlfopoimbbpfdaaGreatPk6
set_option linter.all false
set_option maxRecDepth 100000
set_option maxHeartbeats 16000000
namespace Go.Proofs.YtlfopoimbbpfdaaGreat
open Go.RowKit
def iT {α:Type} (f:Nat→α→Bool) (l:List α):Prop:=∀i (h:i<l.length),f i l[i]=true
instance {α:Type} (f:Nat→α→Bool) (l:List α):Decidable (iT f l):=by unfold iT;exact inferInstance
def fC {α:Type} (f:Nat→α→Bool) (l:List α) (k:Nat):Prop:=∀i (h:i<l.length),i<k→f i l[i]=true
theorem iO {α:Type} (f:Nat→α→Bool) (l:List α):fC f l 0:=fun i _ h=>by omega
theorem fC.step {α:Type} {f:Nat→α→Bool} {l:List α} {k:Nat} (h:fC f l k) (hk:k<l.length) (h1:f k l[k]=true):fC f l (k+1):=fun i hi hik=>by
 by_cases e:i=k
 ·subst e;exact h1
 ·exact h i hi (by omega)
theorem fC.all {α:Type} {f:Nat→α→Bool} {l:List α} {k:Nat} (h:fC f l k) (hk:l.length≤k):decide (iT f l)=true:=by
 rw[decide_eq_true_iff];exact fun i hi=>h i hi (by omega)
theorem lK {α:Type} {f:Nat→α→Bool} {l:List α} {k:Nat} (hk:k<l.length) (h1:f k l[k]=false):decide (iT f l)=false:=by
 rw[decide_eq_false_iff_not];intro h;rw[h k hk]at h1;cases h1
abbrev iU (l:List Int):Prop:=l.Pairwise (· < ·)
theorem qZ (l:List Int) (a b:Int):iU (l++ [a]++ [b])↔iU (l++ [a])∧a<b:=by
 constructor
 ·intro h
  have h2:=List.pairwise_append.1 h;exact⟨h2.1,h2.2.2 a (by simp) b (by simp)⟩
 ·rintro⟨h,BS⟩
  refine List.pairwise_append.2 ⟨h,by simp,fun x hx y hy=>?_⟩;simp at hy;subst hy;rcases List.mem_append.1 hx with hx | hx
  ·have:=(List.pairwise_append.1 h).2.2 x hx a (by simp);omega
  ·simp at hx;subst hx;exact BS
theorem iU.take {l:List Int} (h:iU l) (k:Nat):iU (l.take k):=List.Pairwise.sublist (List.take_sublist k l) h
theorem DC (v:Value) (l:List Int) (w:World) (h:jv w v l):
  Calls Tryz.prog 40 #[v] w fun e w'=>e= .returned (.bool (decide (iU l)))∧Below w.heap.size w w':=by
 obtain⟨ao,cap,rfl,dO,hm⟩:=Sl.shape h
 go_enter Tryz.func40,Tryz.ntmps40
 go_wp2
 go_loopw[6] (fun i wr=>∃k:Nat,k≤l.length∧i= .int .i64 k∧iU (l.take k)∧Below w.heap.size w wr) (fun i _=>l.length-(intOf i).toNat)
 case atStart=>exact⟨0,Nat.zero_le _,rfl,by simp,aL _ _⟩
 case round=>
  obtain⟨k,hk,rfl,hh,hb⟩:=hrel
  have HH:=ah hh;clear hh;rcases Nat.lt_or_ge k l.length with bA | gX
  ·obtain⟨b,off,rfl,kZ,lF⟩:=jv.cell h hb (aC _) k bA
   have HS:=ah (aS l k bA);rcases Nat.eq_zero_or_pos k with rfl | hpos
   ·go_wp2
    go_quiet (fail)
    go_wp2;go_roundw
    case rel=>exact⟨1,by omega,by go_num,by rw[HS.out];simp,below_drewN hb _⟩
    case measure=>simp[intOf];omega
   ·obtain⟨j,rfl⟩:∃j,k=j+1:=⟨k-1,by omega⟩
    have oU:j<l.length:=by omega
    obtain⟨b',off',FB,_,je⟩:=jv.cell h hb (aC _) j oU
    cases FB
    have HR:Hid (iU l→iU (l.take j++ [l[j]]++ [l[j+1]])):=fun h=>by have:=h.take (j+1+1);rw[HS.out,aS l j oU]at this;exact this
    have HJ:=ah (aS l j oU);generalize l[j+1]=y at*;generalize l[j]=x at*;clear hpos;by_cases d4:y≤x
    ·go_wp2
     go_quiet (fail)
     go_wp2;go_ret;exact⟨aH (by symm;rw[decide_eq_false_iff_not];intro hr;have:=(qZ _ x y).1 (HR.out hr);omega),below_drewN hb _⟩
    have e4:decide (y≤x)=false:=by simpa using d4
    go_wp2;go_quiet (fail)
    go_wp2;go_roundw
    case rel=>exact⟨j+1+1,by omega,by go_num,by rw[HS.out,HJ.out];have h9:=HH.out;rw[HJ.out]at h9;exact(qZ _ x y).2 ⟨h9,by omega⟩,below_drewN hb _⟩
    case measure=>simp[intOf];omega
  ·go_wp2
   go_ret;exact⟨aH (by symm;rw[decide_eq_true_iff];have:=HH.out;rw[List.take_of_length_le gX]at this;exact this),hb⟩
theorem DF (v:Value) (l:List Rg) (w:World) (h:fD w v l):
  Calls Tryz.prog 39 #[v] w fun e w'=>e= .returned (.bool (decide (dw l)))∧Below w.heap.size w w':=by
 obtain⟨ao,cap,rfl,dO,hm⟩:=Sl.shape h
 go_enter Tryz.func39,Tryz.ntmps39
 go_wp2
 go_loopw[7] (fun i wr=>∃k:Nat,k≤l.length∧i= .int .i64 k∧dw (l.take k)∧Below w.heap.size w wr) (fun i _=>l.length-(intOf i).toNat)
 case atStart=>exact⟨0,Nat.zero_le _,rfl,⟨by simp[Small],by simp⟩,aL _ _⟩
 case round=>
  obtain⟨k,hk,rfl,hh,hb⟩:=hrel;have HH:=ah hh;clear hh;have mG:=hb.size;rcases Nat.lt_or_ge k l.length with bA | gX
  ·obtain⟨b,off,rfl,kZ,lF,je⟩:=h.pair hb (aC _) k bA
   have HS:=ah (aS l k bA);rcases Nat.eq_zero_or_pos k with rfl | hpos
   ·simp only[Nat.zero_mul,Nat.add_zero]at lF je
    have HR:Hid (dw l→dw [l[0]]):=fun h=>by have:=h.take 1;rw[HS.out]at this;simpa using this
    generalize l[0]=r at*;obtain⟨x,y⟩:=r;simp only at lF je;by_cases d1:x<0
    ·go_wp2
     go_quiet (fail)
     go_wp2;go_ret;exact⟨aH (by symm;rw[decide_eq_false_iff_not];intro hr;have:=(mV x y).1 (HR.out hr);omega),below_drewN (hb.alloc mG _) _⟩
    have e1:decide (x<0)=false:=by simpa using d1
    by_cases d2:y≤x
    ·go_wp2
     go_quiet (fail)
     go_wp2;go_ret;exact⟨aH (by symm;rw[decide_eq_false_iff_not];intro hr;have:=(mV x y).1 (HR.out hr);omega),below_drewN (hb.alloc mG _) _⟩
    have e2:decide (y≤x)=false:=by simpa using d2
    by_cases d3:1073741824<y
    ·go_wp2
     go_quiet (fail)
     go_wp2;go_ret;exact⟨aH (by symm;rw[decide_eq_false_iff_not];intro hr;have:=(mV x y).1 (HR.out hr);omega),below_drewN (hb.alloc mG _) _⟩
    have e3:decide (1073741824<y)=false:=by simpa using d3
    go_wp2;go_quiet (fail)
    go_wp2;go_roundw
    case rel=>exact⟨1,by omega,by go_num,by rw[HS.out];exact(mV x y).2 (by omega),below_drewN (hb.alloc mG _) _⟩
    case measure=>simp[intOf];omega
   ·obtain⟨j,rfl⟩:∃j,k=j+1:=⟨k-1,by omega⟩
    have oU:j<l.length:=by omega
    obtain⟨b',off',FB,_,BX,zX⟩:=h.pair hb (aC _) j oU
    cases FB
    have HR:Hid (dw l→dw (l.take j++ [l[j]]++ [l[j+1]])):=fun h=>by have:=h.take (j+1+1);rw[HS.out,aS l j oU]at this;exact this
    have HJ:=ah (aS l j oU);generalize l[j+1]=r at*;generalize l[j]=r0 at*;obtain⟨x,y⟩:=r;obtain⟨x0,y0⟩:=r0;simp only at lF je BX zX;clear hpos BX;by_cases d1:x<0
    ·go_wp2
     go_quiet (fail)
     go_wp2;go_ret;exact⟨aH (by symm;rw[decide_eq_false_iff_not];intro hr;have:=(jr _ x0 y0 x y).1 (HR.out hr);omega),below_drewN (hb.alloc mG _) _⟩
    have e1:decide (x<0)=false:=by simpa using d1
    by_cases d2:y≤x
    ·go_wp2
     go_quiet (fail)
     go_wp2;go_ret;exact⟨aH (by symm;rw[decide_eq_false_iff_not];intro hr;have:=(jr _ x0 y0 x y).1 (HR.out hr);omega),below_drewN (hb.alloc mG _) _⟩
    have e2:decide (y≤x)=false:=by simpa using d2
    by_cases d3:1073741824<y
    ·go_wp2
     go_quiet (fail)
     go_wp2;go_ret;exact⟨aH (by symm;rw[decide_eq_false_iff_not];intro hr;have:=(jr _ x0 y0 x y).1 (HR.out hr);omega),below_drewN (hb.alloc mG _) _⟩
    have e3:decide (1073741824<y)=false:=by simpa using d3
    have xJ:b<wr.heap.size:=by omega
    have hwj:IntKind.i64.wrap (j:Int)=j:=IntWalk.i64_in _ (by omega);by_cases d4:x≤y0
    ·go_wp2
     go_quiet (fail)
     go_wp2;go_ret;exact⟨aH (by symm;rw[decide_eq_false_iff_not];intro hr;have:=(jr _ x0 y0 x y).1 (HR.out hr);omega),below_drewN (hb.alloc mG _) _⟩
    have e4:decide (x≤y0)=false:=by simpa using d4
    go_wp2;go_quiet (fail)
    go_wp2;go_roundw
    case rel=>exact⟨j+1+1,by omega,by go_num,by rw[HS.out,HJ.out];have h9:=HH.out;rw[HJ.out]at h9;exact(jr _ x0 y0 x y).2 ⟨h9,by omega⟩,below_drewN (hb.alloc mG _) _⟩
    case measure=>simp[intOf];omega
  ·go_wp2
   go_ret;exact⟨aH (by symm;rw[decide_eq_true_iff];have:=HH.out;rw[List.take_of_length_le gX]at this;exact this),hb⟩
def EA (cs:List Ct) (l:List Sc) (i:Nat) (s:Sc):Bool:=decide (fB (fun c=>decide (c.key=s.key)) l=i)&&(decide (0≤bJ cs s.key)&&(decide (0≤s.uu)&&(decide (s.uu≤s.up)&&(decide (0≤s.ud)&&decide (s.ud≤s.down)))))
def RY (cs:List Ct) (l:List Sc):Bool:=decide (iT (EA cs l) l)
theorem jM {w:World} {b:Nat} {a0 a1 a2 a3 a4:Value} {t:TypeId} (h:w.heap[b]? =some (.cells #[a0,a1,a2,a3,a4] t (0,0))):
  w.cell? ⟨b,0,none⟩=some a0∧w.cell? ⟨b,1,none⟩=some a1∧w.cell? ⟨b,2,none⟩=some a2∧w.cell? ⟨b,3,none⟩=some a3∧w.cell? ⟨b,4,none⟩=some a4:=by
 simp[World.cell?,h]
theorem Jm (x:cB) (l:List Sc) (b:dN) (cs:List Ct) (w:World) (h:Eh w x.s.v l) (hc:oN w b.c.v cs):
  Calls Tryz.prog 38 #[o9 x,iJ b] w fun e w'=>e= .returned (.bool (RY cs l))∧Below w.heap.size w w':=by
 obtain⟨x1,x2,x3,x4,⟨x5,x6,x7⟩,⟨x8,x9,wh⟩,⟨wm,wz,wC⟩⟩:=x;obtain⟨⟨b1,b2,b3⟩,⟨b4,b5,b6⟩,⟨b7,b8,b9⟩,⟨Gu,FC,FD⟩⟩:=b;simp only[Sv.v]at h hc;obtain⟨Iu,dO,hmax⟩:=Sl.lens (s:=⟨x5,x6,x7⟩) h;simp only at Iu dO hmax;subst Iu;have k1:=bX w (.cells #[.int .i64 x1,.int .i64 x2,.int .i64 x3,.int .i64 x4,.slice x5 l.length x7,.slice x8 x9 wh,.slice wm wz wC] 91) (.cells #[.slice b1 b2 b3,.slice b4 b5 b6,.slice b7 b8 b9,.slice Gu FC FD] 30);have k2:=bL w (.cells #[.int .i64 x1,.int .i64 x2,.int .i64 x3,.int .i64 x4,.slice x5 l.length x7,.slice x8 x9 wh,.slice wm wz wC] 91) (.cells #[.slice b1 b2 b3,.slice b4 b5 b6,.slice b7 b8 b9,.slice Gu FC FD] 30);have fJ:=ah k1;have eT:=ah k2;clear k1 k2;change Calls Tryz.prog _ #[.agg #[.int .i64 x1,.int .i64 x2,.int .i64 x3,.int .i64 x4,.slice x5 l.length x7,.slice x8 x9 wh,.slice wm wz wC],.agg #[.slice b1 b2 b3,.slice b4 b5 b6,.slice b7 b8 b9,.slice Gu FC FD]] w _
 go_enter Tryz.func38,Tryz.ntmps38
 go_wp2
 go_loopw[11] (fun vk wr=>∃k:Nat,k≤l.length∧vk= .int .i64 k∧fC (EA cs l) l k∧Below w.heap.size w wr∧wr.heap[w.heap.size]? =some (.cells #[.int .i64 x1,.int .i64 x2,.int .i64 x3,.int .i64 x4,.slice x5 l.length x7,.slice x8 x9 wh,.slice wm wz wC] 91 (0,0))∧wr.heap[w.heap.size+1]? =some (.cells #[.slice b1 b2 b3,.slice b4 b5 b6,.slice b7 b8 b9,.slice Gu FC FD] 30 (0,0))) (fun vk _=>l.length-(intOf vk).toNat)
 case atStart=>exact⟨0,Nat.zero_le _,rfl,iO _ _,((aL _ _).alloc (aC _) _).alloc (by simp) _,fJ.out,eT.out⟩
 case round=>
  obtain⟨k,hk,rfl,hA,hb,gL,dH⟩:=hrel;have HA:=ah hA;clear fJ eT;obtain⟨_,_,_,_,c4,_,_,_⟩:=aB gL;obtain⟨d0,d1,d2,d3,_⟩:=ay dH;have mG:w.heap.size+1<wr.heap.size:=(bq dH).1;have fJ:=ah gL;have eT:=ah dH;clear hA gL dH;rcases Nat.lt_or_ge k l.length with bA | gX
  ·obtain⟨bb,off,rfl,kZ,e0,e1,e2,e3,e4⟩:=dI.sc h hb (aC _) k bA
   have jK:(k:Int)<l.length:=by omega
   have vg:=ah (lK (f:=EA cs l) bA);have nU:=ah (fC.step HA.out bA);have lZ:Hid (EA cs l k l[k]=(decide (fB (fun c=>decide (c.key=l[k].key)) l=k)&&(decide (0≤bJ cs l[k].key)&&(decide (0≤l[k].uu)&&(decide (l[k].uu≤l[k].up)&&(decide (0≤l[k].ud)&&decide (l[k].ud≤l[k].down))))))):=rfl;generalize EA cs l k l[k]=ok at*;generalize l[k]=s at*;obtain⟨s1,s2,s3,s4,s5⟩:=s;simp only at e0 e1 e2 e3 e4;have eD:Below w.heap.size w (wr.alloc (.cells #[.string s1,.int .i64 s2,.int .i64 s3,.int .i64 s4,.int .i64 s5] 88)):=hb.alloc (by omega) _;have HS7:=ah (dI.keep h eD (aC _));have Pn:=ah (dI.keep hc eD (aC _));have pF:=ah eD;have uL:=ah ((Below.heap_alloc wr (.cells #[.string s1,.int .i64 s2,.int .i64 s3,.int .i64 s4,.int .i64 s5] 88) w.heap.size (by omega)).trans fJ.out);have sW:=ah ((Below.heap_alloc wr (.cells #[.string s1,.int .i64 s2,.int .i64 s3,.int .i64 s4,.int .i64 s5] 88) (w.heap.size+1) mG).trans eT.out);have uV:=ah (heap_alloc_new wr (.cells #[.string s1,.int .i64 s2,.int .i64 s3,.int .i64 s4,.int .i64 s5] 88));have Dm:wr.heap.size<(wr.alloc (.cells #[.string s1,.int .i64 s2,.int .i64 s3,.int .i64 s4,.int .i64 s5] 88)).heap.size:=by simp
   clear eD fJ eT;go_wp2_with fail
   generalize wr.alloc (.cells #[.string s1,.int .i64 s2,.int .i64 s3,.int .i64 s4,.int .i64 s5] 88)=w7 at*;have hn0:w7.cell? ⟨wr.heap.size,0,none⟩=some (.string s1):=by simp[World.cell?,uV.out]
   refine(xS _ l _ _ _ _ HS7.out (Vr hn0 l)).mono ?_;rintro e w1 ⟨rfl,bB⟩;generalize (fB (fun c=>decide (c.key=s1)) l)=q at*;have Iw:=aj uV.out bB Dm;have mR:=aj sW.out bB (by omega);obtain⟨n0,n1,n2,n3,n4⟩:=jM Iw;obtain⟨d0,d1,d2,d3,_⟩:=ay mR;have S_:=ah (dI.keep Pn.out bB (aC _));have dX:=bB.size;have Jo:=pF.out.trans (bB.mono pF.out.size);have VQ:=ah Iw;have VR:=ah mR;have adi:=ah (aj uL.out bB (by omega));clear hn0 Iw mR bB HS7 Pn uL sW uV;by_cases hq:q=k
   ·subst hq
    generalize K9:bJ cs s1=ci at*;have vS:=ah K9;clear K9;go_wp2_with ((go_at_call 36;refine(mW ⟨⟨b1,b2,b3⟩,⟨b4,b5,b6⟩,⟨b7,b8,b9⟩,⟨Gu,FC,FD⟩⟩ cs s1 _ S_.out).mono ?_);rw[vS.out];rintro e w2 ⟨rfl,bO⟩;have dH:=aj VQ.out bO (by omega);obtain⟨n0,n1,n2,n3,n4⟩:=jM dH;have hbw2:=Jo.trans (bO.mono Jo.size);have adj:=ah (aj adi.out bO (by omega));have hkb2:=ah (aj VR.out bO (by omega));clear dH bO)
    all_goals first
     | (go_ret
        exact⟨aH (vg.out (by rw[lZ.out];first | (simp;omega) | (simp [*];done) | (simp [*];omega))).symm,hbw2⟩)
     | (go_roundw
        case rel=>exact⟨k+1,by omega,by go_num,nU.out (by rw[lZ.out];first | (simp;omega) | (simp [*];done) | (simp [*];omega)),hbw2,adj.out,hkb2.out⟩
        case measure=>simp[intOf];omega)
   ·have dq:(q==(k:Int))=false:=by simpa using hq
    have dq2:(q != (k:Int))=true:=by simpa using hq
    have qQ:ok=false:=by rw[lZ.out];simp[hq]
    have VT:=ah (vg.out qQ);clear qQ hq;go_wp2;go_ret;exact⟨aH VT.out.symm,Jo⟩
  ·go_wp2
   go_ret;exact⟨aH (fC.all HA.out gX).symm,hb⟩
def zG (cs:List Ct) (i:Nat) (c:Ct):Bool:=mX c&&(decide (bJ cs c.key=i)&&(decide (0≤c.up)&&(decide (0≤c.down)&&(decide (c.up≤c.hi-c.start)&&decide (c.down≤c.start-c.lo)))))
def MU (cs:List Ct):Bool:=decide (iT (zG cs) cs)&&decide (cs.length≤4)
theorem wI (b:dN) (cs:List Ct) (w:World) (hc:oN w b.c.v cs) (uZ:∀c∈cs,c.key.size≤maxLen):
  Calls Tryz.prog 42 #[iJ b] w fun e w'=>e= .returned (.bool (MU cs))∧Below w.heap.size w w':=by
 obtain⟨⟨b1,b2,b3⟩,⟨b4,b5,b6⟩,⟨b7,b8,b9⟩,⟨Gu,FC,FD⟩⟩:=b;simp only[Sv.v]at hc;obtain⟨Iu,dO,hmax⟩:=Sl.lens (s:=⟨b1,b2,b3⟩) hc;simp only at Iu dO hmax;subst Iu;have HKEY:=ah uZ;clear uZ;have uK:=ah (heap_alloc_new w (.cells #[.slice b1 cs.length b3,.slice b4 b5 b6,.slice b7 b8 b9,.slice Gu FC FD] 30));change Calls Tryz.prog _ #[.agg #[.slice b1 cs.length b3,.slice b4 b5 b6,.slice b7 b8 b9,.slice Gu FC FD]] w _
 go_enter Tryz.func42,Tryz.ntmps42
 go_wp2
 go_loopw[8] (fun vk wr=>∃k:Nat,k≤cs.length∧vk= .int .i64 k∧fC (zG cs) cs k∧Below w.heap.size w wr∧wr.heap[w.heap.size]? =some (.cells #[.slice b1 cs.length b3,.slice b4 b5 b6,.slice b7 b8 b9,.slice Gu FC FD] 30 (0,0))) (fun vk _=>cs.length-(intOf vk).toNat)
 case atStart=>exact⟨0,Nat.zero_le _,rfl,iO _ _,(aL _ _).alloc (aC _) _,uK.out⟩
 case round=>
  obtain⟨k,hk,rfl,hA,hb,gL⟩:=hrel;have HA:=ah hA;clear uK;obtain⟨d0,d1,d2,d3,_⟩:=ay gL;have mG:w.heap.size<wr.heap.size:=(bq gL).1;have fJ:=ah gL;clear hA gL;rcases Nat.lt_or_ge k cs.length with bA | gX
  ·obtain⟨bb,off,rfl,kZ,e0,e1,e2,e3,e4,e5,e6⟩:=dI.ct hc hb (aC _) k bA
   have jK:(k:Int)<cs.length:=by omega
   have vg:=ah (lK (f:=zG cs) bA);have nU:=ah (fC.step HA.out bA);have lZ:Hid (zG cs k cs[k]=(mX cs[k]&&(decide (bJ cs cs[k].key=k)&&(decide (0≤cs[k].up)&&(decide (0≤cs[k].down)&&(decide (cs[k].up≤cs[k].hi-cs[k].start)&&decide (cs[k].down≤cs[k].start-cs[k].lo))))))):=rfl;have HM:=ah (HKEY.out cs[k] (List.getElem_mem bA));have Jd:=ah (tQ (c:=cs[k]));generalize zG cs k cs[k]=ok at*;generalize cs[k]=c at*;have zA:=ah (fun W=>KN c W HM.out);obtain⟨r1,r2,r3,r4,r5,r6,r7⟩:=c;simp only at e0 e1 e2 e3 e4 e5 e6;have eD:Below w.heap.size w (wr.alloc (.cells #[.string r1,.int .i64 r2,.int .i64 r3,.int .i64 r4,.int .i64 r5,.int .i64 r6,.int .i64 r7] 54)):=hb.alloc (by omega) _;have Pn:=ah (dI.keep hc eD (aC _));have pF:=ah eD;have uL:=ah ((Below.heap_alloc wr (.cells #[.string r1,.int .i64 r2,.int .i64 r3,.int .i64 r4,.int .i64 r5,.int .i64 r6,.int .i64 r7] 54) w.heap.size mG).trans fJ.out);have uV:=ah (heap_alloc_new wr (.cells #[.string r1,.int .i64 r2,.int .i64 r3,.int .i64 r4,.int .i64 r5,.int .i64 r6,.int .i64 r7] 54));have Dm:wr.heap.size<(wr.alloc (.cells #[.string r1,.int .i64 r2,.int .i64 r3,.int .i64 r4,.int .i64 r5,.int .i64 r6,.int .i64 r7] 54)).heap.size:=by simp
   clear eD fJ;go_wp2_with fail
   generalize wr.alloc (.cells #[.string r1,.int .i64 r2,.int .i64 r3,.int .i64 r4,.int .i64 r5,.int .i64 r6,.int .i64 r7] 54)=w7 at*;obtain⟨mb,hmb⟩:∃mb,mX ⟨r1,r2,r3,r4,r5,r6,r7⟩=mb:=⟨_,rfl⟩;have hmay:=zA.out w7;rw[hmb]at hmay lZ Jd;refine hmay.mono ?_;rintro e w1 ⟨rfl,bB⟩;have Iw:=aj uV.out bB Dm;have mR:=aj uL.out bB (by omega);obtain⟨n0,n1,n2,n3,n4,n5,n6,_⟩:=aB Iw;clear d0 d1 d2 d3;obtain⟨d0,d1,d2,d3,_⟩:=ay mR;have S_:=ah (dI.keep Pn.out bB (aC _));have dX:=bB.size;have Jo:=pF.out.trans (bB.mono pF.out.size);have VQ:=ah Iw;have VR:=ah mR;clear Iw mR bB Pn uL uV hmay hmb zA
   cases mb with
   | false=>
    have VT:=ah (vg.out (by rw[lZ.out];rfl));go_wp2;go_ret;exact⟨aH (by unfold MU;rw[VT.out];rfl),Jo⟩
   | true=>
    obtain⟨g1,g2,g3,g4⟩:=Jd.out (by first | rfl | trivial);generalize K9:bJ cs r1=ci at*;have vS:=ah K9;clear K9;go_wp2_with ((go_at_call 36;refine(mW ⟨⟨some ⟨bb,off,none⟩,cs.length,b3⟩,⟨b4,b5,b6⟩,⟨b7,b8,b9⟩,⟨Gu,FC,FD⟩⟩ cs r1 _ S_.out).mono ?_);rw[vS.out];rintro e w2 ⟨rfl,bO⟩;have dH:=aj VQ.out bO (by omega);obtain⟨n0,n1,n2,n3,n4,n5,n6,_⟩:=aB dH;have hbw2:=Jo.trans (bO.mono Jo.size);have hkb2:=ah (aj VR.out bO (by omega));clear dH bO)
    all_goals first
     | (go_ret
        exact⟨aH (by unfold MU;rw[vg.out (by rw[lZ.out];first | (simp;omega) | (simp [*];done) | (simp [*];omega))];rfl),hbw2⟩)
     | (go_roundw
        case rel=>exact⟨k+1,by omega,by go_num,nU.out (by rw[lZ.out];first | (simp;omega) | (simp [*];done) | (simp [*];omega)),hbw2,hkb2.out⟩
        case measure=>simp[intOf];omega)
  ·by_cases h4:cs.length≤4
   ·have d4:decide ((cs.length:Int)≤4)=true:=by simp;omega
    go_wp2;go_ret;exact⟨aH (by unfold MU;rw[fC.all HA.out gX];simp;omega),hb⟩
   ·have d4:decide ((cs.length:Int)≤4)=false:=by simp;omega
    go_wp2;go_ret;exact⟨aH (by unfold MU;rw[fC.all HA.out gX];simp;omega),hb⟩
end Go.Proofs.YtlfopoimbbpfdaaGreat
