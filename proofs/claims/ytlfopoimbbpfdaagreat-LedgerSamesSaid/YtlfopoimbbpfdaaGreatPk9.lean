/- What the law asks, in parts: LSb LSc LSd. -/
import Derived.IntWalk
import Derived.Test.YtlfopoimbbpfdaaGreatPk3
import Derived.Test.YtlfopoimbbpfdaaGreatPk1
import Derived.Test.YtlfopoimbbpfdaaGreatPk2
import Derived.Test.YtlfopoimbbpfdaaGreatPk4
import Derived.Test.YtlfopoimbbpfdaaGreatPk7
set_option linter.all false
namespace Go.Proofs.YtlfopoimbbpfdaaGreat
open Go.RowKit
def oO {α:Type} (f:Nat→α→Bool) (l:List α):Prop:=∀i (h:i<l.length),f i l[i]=true
instance {α:Type} (f:Nat→α→Bool) (l:List α):Decidable (oO f l):=by unfold oO;exact inferInstance
def gY {α:Type} (f:Nat→α→Bool) (l:List α) (k:Nat):Prop:=∀i (h:i<l.length),i<k→f i l[i]=true
theorem lD {α:Type} (f:Nat→α→Bool) (l:List α):gY f l 0:=fun i _ h=>by omega
theorem gY.step {α:Type} {f:Nat→α→Bool} {l:List α} {k:Nat} (h:gY f l k) (hk:k<l.length) (h1:f k l[k]=true):gY f l (k+1):=fun i hi hik=>by
 by_cases e:i=k
 ·subst e;exact h1
 ·exact h i hi (by omega)
theorem gY.all {α:Type} {f:Nat→α→Bool} {l:List α} {k:Nat} (h:gY f l k) (hk:l.length≤k):decide (oO f l)=true:=by
 rw[decide_eq_true_iff];exact fun i hi=>h i hi (by omega)
theorem rE {α:Type} {f:Nat→α→Bool} {l:List α} {k:Nat} (hk:k<l.length) (h1:f k l[k]=false):decide (oO f l)=false:=by
 rw[decide_eq_false_iff_not];intro h;rw[h k hk]at h1;cases h1
abbrev lF (l:List Int):Prop:=l.Pairwise (· < ·)
theorem wV (l:List Int) (a b:Int):lF (l++ [a]++ [b])↔lF (l++ [a])∧a<b:=by
 constructor
 ·intro h
  have h2:=List.pairwise_append.1 h
  exact⟨h2.1,h2.2.2 a (by simp) b (by simp)⟩
 ·rintro⟨h,hab⟩
  refine List.pairwise_append.2 ⟨h,by simp,fun x hx y hy=>?_⟩
  simp at hy;subst hy
  rcases List.mem_append.1 hx with hx | hx
  ·have:=(List.pairwise_append.1 h).2.2 x hx a (by simp);omega
  ·simp at hx;subst hx;exact hab
theorem lF.take {l:List Int} (h:lF l) (k:Nat):lF (l.take k):=List.Pairwise.sublist (List.take_sublist k l) h
set_option maxHeartbeats 1000000 in
theorem zV (v:Value) (l:List Int) (w:World) (h:iW w v l):
  Calls Tryz.prog 40 #[v] w fun e w'=>e= .returned (.bool (decide (lF l)))∧Below w.heap.size w w':=by
 obtain⟨ao,cap,rfl,hcap,hm⟩:=Sl.shape h
 go_enter Tryz.func40,Tryz.ntmps40
 go_wp2
 go_loopw[6] (fun i wr=>∃k:Nat,k≤l.length∧i= .int .i64 k∧lF (l.take k)∧Below w.heap.size w wr) (fun i _=>l.length-(intOf i).toNat)
 case atStart=>exact⟨0,Nat.zero_le _,rfl,by simp,aL _ _⟩
 case round=>
  obtain⟨k,hk,rfl,hh,hb⟩:=hrel
  have HH:=ah hh
  clear hh
  rcases Nat.lt_or_ge k l.length with hlt | hge
  ·obtain⟨b,off,rfl,hbl,hc1⟩:=iW.cell h hb (aC _) k hlt
   have HS:=ah (aV l k hlt)
   rcases Nat.eq_zero_or_pos k with rfl | hpos
   ·go_wp2
    go_quiet (fail)
    go_wp2
    go_roundw
    case rel=>exact⟨1,by omega,by go_num,by rw[HS.out];simp,below_drewN hb _⟩
    case measure=>simp[intOf];omega
   ·obtain⟨j,rfl⟩:∃j,k=j+1:=⟨k-1,by omega⟩
    have yJ:j<l.length:=by omega
    obtain⟨b',off',F8,_,hc2⟩:=iW.cell h hb (aC _) j yJ
    cases F8
    have HR:Hid (lF l→lF (l.take j++ [l[j]]++ [l[j+1]])):=fun h=>by have:=h.take (j+1+1);rw[HS.out,aV l j yJ]at this;exact this
    have HJ:=ah (aV l j yJ)
    generalize l[j+1]=y at*
    generalize l[j]=x at*
    clear hpos
    by_cases d4:y≤x
    ·go_wp2
     go_quiet (fail)
     go_wp2
     go_ret
     exact⟨aN (by symm;rw[decide_eq_false_iff_not];intro hr;have:=(wV _ x y).1 (HR.out hr);omega),below_drewN hb _⟩
    have e4:decide (y≤x)=false:=by simpa using d4
    go_wp2
    go_quiet (fail)
    go_wp2
    go_roundw
    case rel=>exact⟨j+1+1,by omega,by go_num,by rw[HS.out,HJ.out];have h9:=HH.out;rw[HJ.out]at h9;exact(wV _ x y).2 ⟨h9,by omega⟩,below_drewN hb _⟩
    case measure=>simp[intOf];omega
  ·go_wp2
   go_ret
   exact⟨aN (by symm;rw[decide_eq_true_iff];have:=HH.out;rw[List.take_of_length_le hge]at this;exact this),hb⟩
set_option maxHeartbeats 1000000 in
theorem zW (v:Value) (l:List Rg) (w:World) (h:fq w v l):
  Calls Tryz.prog 39 #[v] w fun e w'=>e= .returned (.bool (decide (cZ l)))∧Below w.heap.size w w':=by
 obtain⟨ao,cap,rfl,hcap,hm⟩:=Sl.shape h
 go_enter Tryz.func39,Tryz.ntmps39
 go_wp2
 go_loopw[7] (fun i wr=>∃k:Nat,k≤l.length∧i= .int .i64 k∧cZ (l.take k)∧Below w.heap.size w wr) (fun i _=>l.length-(intOf i).toNat)
 case atStart=>exact⟨0,Nat.zero_le _,rfl,⟨by simp[Small],by simp⟩,aL _ _⟩
 case round=>
  obtain⟨k,hk,rfl,hh,hb⟩:=hrel
  have HH:=ah hh
  clear hh
  have lX:=hb.size
  rcases Nat.lt_or_ge k l.length with hlt | hge
  ·obtain⟨b,off,rfl,hbl,hc1,hc2⟩:=h.pair hb (aC _) k hlt
   have HS:=ah (aV l k hlt)
   rcases Nat.eq_zero_or_pos k with rfl | hpos
   ·simp only[Nat.zero_mul,Nat.add_zero]at hc1 hc2
    have HR:Hid (cZ l→cZ [l[0]]):=fun h=>by have:=h.take 1;rw[HS.out]at this;simpa using this
    generalize l[0]=r at*
    obtain⟨x,y⟩:=r
    simp only at hc1 hc2
    by_cases d1:x<0
    ·go_wp2
     go_quiet (fail)
     go_wp2
     go_ret
     exact⟨aN (by symm;rw[decide_eq_false_iff_not];intro hr;have:=(qR x y).1 (HR.out hr);omega),below_drewN (hb.alloc lX _) _⟩
    have e1:decide (x<0)=false:=by simpa using d1
    by_cases d2:y≤x
    ·go_wp2
     go_quiet (fail)
     go_wp2
     go_ret
     exact⟨aN (by symm;rw[decide_eq_false_iff_not];intro hr;have:=(qR x y).1 (HR.out hr);omega),below_drewN (hb.alloc lX _) _⟩
    have e2:decide (y≤x)=false:=by simpa using d2
    by_cases d3:1073741824<y
    ·go_wp2
     go_quiet (fail)
     go_wp2
     go_ret
     exact⟨aN (by symm;rw[decide_eq_false_iff_not];intro hr;have:=(qR x y).1 (HR.out hr);omega),below_drewN (hb.alloc lX _) _⟩
    have e3:decide (1073741824<y)=false:=by simpa using d3
    go_wp2
    go_quiet (fail)
    go_wp2
    go_roundw
    case rel=>exact⟨1,by omega,by go_num,by rw[HS.out];exact(qR x y).2 (by omega),below_drewN (hb.alloc lX _) _⟩
    case measure=>simp[intOf];omega
   ·obtain⟨j,rfl⟩:∃j,k=j+1:=⟨k-1,by omega⟩
    have yJ:j<l.length:=by omega
    obtain⟨b',off',F8,_,hc3,hc4⟩:=h.pair hb (aC _) j yJ
    cases F8
    have HR:Hid (cZ l→cZ (l.take j++ [l[j]]++ [l[j+1]])):=fun h=>by have:=h.take (j+1+1);rw[HS.out,aV l j yJ]at this;exact this
    have HJ:=ah (aV l j yJ)
    generalize l[j+1]=r at*
    generalize l[j]=r0 at*
    obtain⟨x,y⟩:=r
    obtain⟨x0,y0⟩:=r0
    simp only at hc1 hc2 hc3 hc4
    clear hpos hc3
    by_cases d1:x<0
    ·go_wp2
     go_quiet (fail)
     go_wp2
     go_ret
     exact⟨aN (by symm;rw[decide_eq_false_iff_not];intro hr;have:=(mQ _ x0 y0 x y).1 (HR.out hr);omega),below_drewN (hb.alloc lX _) _⟩
    have e1:decide (x<0)=false:=by simpa using d1
    by_cases d2:y≤x
    ·go_wp2
     go_quiet (fail)
     go_wp2
     go_ret
     exact⟨aN (by symm;rw[decide_eq_false_iff_not];intro hr;have:=(mQ _ x0 y0 x y).1 (HR.out hr);omega),below_drewN (hb.alloc lX _) _⟩
    have e2:decide (y≤x)=false:=by simpa using d2
    by_cases d3:1073741824<y
    ·go_wp2
     go_quiet (fail)
     go_wp2
     go_ret
     exact⟨aN (by symm;rw[decide_eq_false_iff_not];intro hr;have:=(mQ _ x0 y0 x y).1 (HR.out hr);omega),below_drewN (hb.alloc lX _) _⟩
    have e3:decide (1073741824<y)=false:=by simpa using d3
    have hbr:b<wr.heap.size:=by omega
    have hwj:IntKind.i64.wrap (j:Int)=j:=IntWalk.i64_in _ (by omega)
    by_cases d4:x≤y0
    ·go_wp2
     go_quiet (fail)
     go_wp2
     go_ret
     exact⟨aN (by symm;rw[decide_eq_false_iff_not];intro hr;have:=(mQ _ x0 y0 x y).1 (HR.out hr);omega),below_drewN (hb.alloc lX _) _⟩
    have e4:decide (x≤y0)=false:=by simpa using d4
    go_wp2
    go_quiet (fail)
    go_wp2
    go_roundw
    case rel=>exact⟨j+1+1,by omega,by go_num,by rw[HS.out,HJ.out];have h9:=HH.out;rw[HJ.out]at h9;exact(mQ _ x0 y0 x y).2 ⟨h9,by omega⟩,below_drewN (hb.alloc lX _) _⟩
    case measure=>simp[intOf];omega
  ·go_wp2
   go_ret
   exact⟨aN (by symm;rw[decide_eq_true_iff];have:=HH.out;rw[List.take_of_length_le hge]at this;exact this),hb⟩
end Go.Proofs.YtlfopoimbbpfdaaGreat
namespace Go.Proofs.YtlfopoimbbpfdaaGreat
open Go.RowKit
def EI (cs:List Ct) (l:List Sc) (i:Nat) (s:Sc):Bool:=decide (dS (fun c=>decide (c.key=s.key)) l=i)&&(decide (0≤bH cs s.key)&&(decide (0≤s.uu)&&(decide (s.uu≤s.up)&&(decide (0≤s.ud)&&decide (s.ud≤s.down)))))
def QJ (cs:List Ct) (l:List Sc):Bool:=decide (oO (EI cs l) l)
theorem lG {w:World} {b:Nat} {a0 a1 a2 a3 a4:Value} {t:TypeId} (h:w.heap[b]? =some (.cells #[a0,a1,a2,a3,a4] t (0,0))):
  w.cell? ⟨b,0,none⟩=some a0∧w.cell? ⟨b,1,none⟩=some a1∧w.cell? ⟨b,2,none⟩=some a2∧w.cell? ⟨b,3,none⟩=some a3∧w.cell? ⟨b,4,none⟩=some a4:=by
 simp[World.cell?,h]
set_option maxRecDepth 100000 in
set_option maxHeartbeats 2000000 in
theorem EJ (x:bV) (l:List Sc) (b:bZ) (cs:List Ct) (w:World) (h:Ap w x.s.v l) (hc:mD w b.c.v cs):
  Calls Tryz.prog 38 #[nI x,fT b] w fun e w'=>e= .returned (.bool (QJ cs l))∧Below w.heap.size w w':=by
 obtain⟨x1,x2,x3,x4,⟨x5,x6,x7⟩,⟨x8,x9,qV⟩,⟨qW,qX,qY⟩⟩:=x
 obtain⟨⟨b1,b2,b3⟩,⟨b4,b5,b6⟩,⟨b7,b8,b9⟩,⟨b10,b11,b12⟩⟩:=b
 simp only[Sv.v]at h hc
 obtain⟨hxn,hcap,hmax⟩:=Sl.lens (s:=⟨x5,x6,x7⟩) h
 simp only at hxn hcap hmax
 subst hxn
 have k1:=bJ w (.cells #[.int .i64 x1,.int .i64 x2,.int .i64 x3,.int .i64 x4,.slice x5 l.length x7,.slice x8 x9 qV,.slice qW qX qY] 91) (.cells #[.slice b1 b2 b3,.slice b4 b5 b6,.slice b7 b8 b9,.slice b10 b11 b12] 30)
 have k2:=bE w (.cells #[.int .i64 x1,.int .i64 x2,.int .i64 x3,.int .i64 x4,.slice x5 l.length x7,.slice x8 x9 qV,.slice qW qX qY] 91) (.cells #[.slice b1 b2 b3,.slice b4 b5 b6,.slice b7 b8 b9,.slice b10 b11 b12] 30)
 have gF:=ah k1
 have fJ:=ah k2
 clear k1 k2
 change Calls Tryz.prog _ #[.agg #[.int .i64 x1,.int .i64 x2,.int .i64 x3,.int .i64 x4,.slice x5 l.length x7,.slice x8 x9 qV,.slice qW qX qY],.agg #[.slice b1 b2 b3,.slice b4 b5 b6,.slice b7 b8 b9,.slice b10 b11 b12]] w _
 go_enter Tryz.func38,Tryz.ntmps38
 go_wp2
 go_loopw[11] (fun vk wr=>∃k:Nat,k≤l.length∧vk= .int .i64 k∧gY (EI cs l) l k∧Below w.heap.size w wr∧wr.heap[w.heap.size]? =some (.cells #[.int .i64 x1,.int .i64 x2,.int .i64 x3,.int .i64 x4,.slice x5 l.length x7,.slice x8 x9 qV,.slice qW qX qY] 91 (0,0))∧wr.heap[w.heap.size+1]? =some (.cells #[.slice b1 b2 b3,.slice b4 b5 b6,.slice b7 b8 b9,.slice b10 b11 b12] 30 (0,0))) (fun vk _=>l.length-(intOf vk).toNat)
 case atStart=>exact⟨0,Nat.zero_le _,rfl,lD _ _,((aL _ _).alloc (aC _) _).alloc (by simp) _,gF.out,fJ.out⟩
 case round=>
  obtain⟨k,hk,rfl,hA,hb,hk1,hk2⟩:=hrel
  have HA:=ah hA
  clear gF fJ
  obtain⟨_,_,_,_,c4,_,_,_⟩:=aB hk1
  obtain⟨d0,d1,d2,d3,_⟩:=ay hk2
  have lX:w.heap.size+1<wr.heap.size:=(bg hk2).1
  have gF:=ah hk1
  have fJ:=ah hk2
  clear hA hk1 hk2
  rcases Nat.lt_or_ge k l.length with hlt | hge
  ·obtain⟨bb,off,rfl,hbl,e0,e1,e2,e3,e4⟩:=cK.sc h hb (aC _) k hlt
   have iG:(k:Int)<l.length:=by omega
   have BK:=ah (rE (f:=EI cs l) hlt)
   have rF:=ah (gY.step HA.out hlt)
   have oP:Hid (EI cs l k l[k]=(decide (dS (fun c=>decide (c.key=l[k].key)) l=k)&&(decide (0≤bH cs l[k].key)&&(decide (0≤l[k].uu)&&(decide (l[k].uu≤l[k].up)&&(decide (0≤l[k].ud)&&decide (l[k].ud≤l[k].down))))))):=rfl
   generalize EI cs l k l[k]=ok at*
   generalize l[k]=s at*
   obtain⟨s1,s2,s3,s4,s5⟩:=s
   simp only at e0 e1 e2 e3 e4
   have dK:Below w.heap.size w (wr.alloc (.cells #[.string s1,.int .i64 s2,.int .i64 s3,.int .i64 s4,.int .i64 s5] 88)):=hb.alloc (by omega) _
   have HS7:=ah (cK.keep h dK (aC _))
   have UE:=ah (cK.keep hc dK (aC _))
   have mX:=ah dK
   have HA1:=ah ((Below.heap_alloc wr (.cells #[.string s1,.int .i64 s2,.int .i64 s3,.int .i64 s4,.int .i64 s5] 88) w.heap.size (by omega)).trans gF.out)
   have HA2:=ah ((Below.heap_alloc wr (.cells #[.string s1,.int .i64 s2,.int .i64 s3,.int .i64 s4,.int .i64 s5] 88) (w.heap.size+1) lX).trans fJ.out)
   have qy:=ah (heap_alloc_new wr (.cells #[.string s1,.int .i64 s2,.int .i64 s3,.int .i64 s4,.int .i64 s5] 88))
   have wK:wr.heap.size<(wr.alloc (.cells #[.string s1,.int .i64 s2,.int .i64 s3,.int .i64 s4,.int .i64 s5] 88)).heap.size:=by simp
   clear dK gF fJ
   go_wp2_with fail
   generalize wr.alloc (.cells #[.string s1,.int .i64 s2,.int .i64 s3,.int .i64 s4,.int .i64 s5] 88)=w7 at*
   have hn0:w7.cell? ⟨wr.heap.size,0,none⟩=some (.string s1):=by simp[World.cell?,qy.out]
   refine(tJ _ l _ _ _ _ HS7.out (Ql hn0 l)).mono ?_
   rintro e w1 ⟨rfl,hb1⟩
   generalize (dS (fun c=>decide (c.key=s1)) l)=q at*
   have tT:=aj qy.out hb1 wK
   have hkb:=aj HA2.out hb1 (by omega)
   obtain⟨n0,n1,n2,n3,n4⟩:=lG tT
   obtain⟨d0,d1,d2,d3,_⟩:=ay hkb
   have Zd:=ah (cK.keep UE.out hb1 (aC _))
   have hz1:=hb1.size
   have EK:=mX.out.trans (hb1.mono mX.out.size)
   have QK:=ah tT
   have QL:=ah hkb
   have Ze:=ah (aj HA1.out hb1 (by omega))
   clear hn0 tT hkb hb1 HS7 UE HA1 HA2 qy
   by_cases hq:q=k
   ·subst hq
    generalize hci:bH cs s1=ci at*
    have zX:=ah hci
    clear hci
    go_wp2_with ((go_at_call 36;refine(jy ⟨⟨b1,b2,b3⟩,⟨b4,b5,b6⟩,⟨b7,b8,b9⟩,⟨b10,b11,b12⟩⟩ cs s1 _ Zd.out).mono ?_);rw[zX.out];rintro e w2 ⟨rfl,hb2⟩;have hk2:=aj QK.out hb2 (by omega);obtain⟨n0,n1,n2,n3,n4⟩:=lG hk2;have hbw2:=EK.trans (hb2.mono EK.size);have Zf:=ah (aj Ze.out hb2 (by omega));have hkb2:=ah (aj QL.out hb2 (by omega));clear hk2 hb2)
    all_goals first
     | (go_ret
        exact⟨aN (BK.out (by rw[oP.out];first | (simp;omega) | (simp [*];done) | (simp [*];omega))).symm,hbw2⟩)
     | (go_roundw
        case rel=>exact⟨k+1,by omega,by go_num,rF.out (by rw[oP.out];first | (simp;omega) | (simp [*];done) | (simp [*];omega)),hbw2,Zf.out,hkb2.out⟩
        case measure=>simp[intOf];omega)
   ·have dq:(q==(k:Int))=false:=by simpa using hq
    have dq2:(q != (k:Int))=true:=by simpa using hq
    have hok:ok=false:=by rw[oP.out];simp[hq]
    have QM:=ah (BK.out hok)
    clear hok hq
    go_wp2
    go_ret
    exact⟨aN QM.out.symm,EK⟩
  ·go_wp2
   go_ret
   exact⟨aN (gY.all HA.out hge).symm,hb⟩
end Go.Proofs.YtlfopoimbbpfdaaGreat
namespace Go.Proofs.YtlfopoimbbpfdaaGreat
open Go.RowKit
def yL (cs:List Ct) (i:Nat) (c:Ct):Bool:=mE c&&(decide (bH cs c.key=i)&&(decide (0≤c.up)&&(decide (0≤c.down)&&(decide (c.up≤c.hi-c.start)&&decide (c.down≤c.start-c.lo)))))
def Km (cs:List Ct):Bool:=decide (oO (yL cs) cs)&&decide (cs.length≤4)
set_option maxRecDepth 100000 in
set_option maxHeartbeats 4000000 in
theorem rG (b:bZ) (cs:List Ct) (w:World) (hc:mD w b.c.v cs) (hkey:∀c∈cs,c.key.size≤maxLen):
  Calls Tryz.prog 42 #[fT b] w fun e w'=>e= .returned (.bool (Km cs))∧Below w.heap.size w w':=by
 obtain⟨⟨b1,b2,b3⟩,⟨b4,b5,b6⟩,⟨b7,b8,b9⟩,⟨b10,b11,b12⟩⟩:=b
 simp only[Sv.v]at hc
 obtain⟨hxn,hcap,hmax⟩:=Sl.lens (s:=⟨b1,b2,b3⟩) hc
 simp only at hxn hcap hmax
 subst hxn
 have HKEY:=ah hkey
 clear hkey
 have qh:=ah (heap_alloc_new w (.cells #[.slice b1 cs.length b3,.slice b4 b5 b6,.slice b7 b8 b9,.slice b10 b11 b12] 30))
 change Calls Tryz.prog _ #[.agg #[.slice b1 cs.length b3,.slice b4 b5 b6,.slice b7 b8 b9,.slice b10 b11 b12]] w _
 go_enter Tryz.func42,Tryz.ntmps42
 go_wp2
 go_loopw[8] (fun vk wr=>∃k:Nat,k≤cs.length∧vk= .int .i64 k∧gY (yL cs) cs k∧Below w.heap.size w wr∧wr.heap[w.heap.size]? =some (.cells #[.slice b1 cs.length b3,.slice b4 b5 b6,.slice b7 b8 b9,.slice b10 b11 b12] 30 (0,0))) (fun vk _=>cs.length-(intOf vk).toNat)
 case atStart=>exact⟨0,Nat.zero_le _,rfl,lD _ _,(aL _ _).alloc (aC _) _,qh.out⟩
 case round=>
  obtain⟨k,hk,rfl,hA,hb,hk1⟩:=hrel
  have HA:=ah hA
  clear qh
  obtain⟨d0,d1,d2,d3,_⟩:=ay hk1
  have lX:w.heap.size<wr.heap.size:=(bg hk1).1
  have gF:=ah hk1
  clear hA hk1
  rcases Nat.lt_or_ge k cs.length with hlt | hge
  ·obtain⟨bb,off,rfl,hbl,e0,e1,e2,e3,e4,e5,e6⟩:=cK.ct hc hb (aC _) k hlt
   have iG:(k:Int)<cs.length:=by omega
   have BK:=ah (rE (f:=yL cs) hlt)
   have rF:=ah (gY.step HA.out hlt)
   have oP:Hid (yL cs k cs[k]=(mE cs[k]&&(decide (bH cs cs[k].key=k)&&(decide (0≤cs[k].up)&&(decide (0≤cs[k].down)&&(decide (cs[k].up≤cs[k].hi-cs[k].start)&&decide (cs[k].down≤cs[k].start-cs[k].lo))))))):=rfl
   have HM:=ah (HKEY.out cs[k] (List.getElem_mem hlt))
   have BI:=ah (vP (c:=cs[k]))
   generalize yL cs k cs[k]=ok at*
   generalize cs[k]=c at*
   have Cx:=ah (fun W=>F4 c W HM.out)
   obtain⟨r1,r2,r3,r4,r5,r6,r7⟩:=c
   simp only at e0 e1 e2 e3 e4 e5 e6
   have dK:Below w.heap.size w (wr.alloc (.cells #[.string r1,.int .i64 r2,.int .i64 r3,.int .i64 r4,.int .i64 r5,.int .i64 r6,.int .i64 r7] 54)):=hb.alloc (by omega) _
   have UE:=ah (cK.keep hc dK (aC _))
   have mX:=ah dK
   have HA1:=ah ((Below.heap_alloc wr (.cells #[.string r1,.int .i64 r2,.int .i64 r3,.int .i64 r4,.int .i64 r5,.int .i64 r6,.int .i64 r7] 54) w.heap.size lX).trans gF.out)
   have qy:=ah (heap_alloc_new wr (.cells #[.string r1,.int .i64 r2,.int .i64 r3,.int .i64 r4,.int .i64 r5,.int .i64 r6,.int .i64 r7] 54))
   have wK:wr.heap.size<(wr.alloc (.cells #[.string r1,.int .i64 r2,.int .i64 r3,.int .i64 r4,.int .i64 r5,.int .i64 r6,.int .i64 r7] 54)).heap.size:=by simp
   clear dK gF
   go_wp2_with fail
   generalize wr.alloc (.cells #[.string r1,.int .i64 r2,.int .i64 r3,.int .i64 r4,.int .i64 r5,.int .i64 r6,.int .i64 r7] 54)=w7 at*
   obtain⟨mb,hmb⟩:∃mb,mE ⟨r1,r2,r3,r4,r5,r6,r7⟩=mb:=⟨_,rfl⟩
   have hmay:=Cx.out w7
   rw[hmb]at hmay oP BI
   refine hmay.mono ?_
   rintro e w1 ⟨rfl,hb1⟩
   have tT:=aj qy.out hb1 wK
   have hkb:=aj HA1.out hb1 (by omega)
   obtain⟨n0,n1,n2,n3,n4,n5,n6,_⟩:=aB tT
   clear d0 d1 d2 d3
   obtain⟨d0,d1,d2,d3,_⟩:=ay hkb
   have Zd:=ah (cK.keep UE.out hb1 (aC _))
   have hz1:=hb1.size
   have EK:=mX.out.trans (hb1.mono mX.out.size)
   have QK:=ah tT
   have QL:=ah hkb
   clear tT hkb hb1 UE HA1 qy hmay hmb Cx
   cases mb with
   | false=>
    have QM:=ah (BK.out (by rw[oP.out];rfl))
    go_wp2
    go_ret
    exact⟨aN (by unfold Km;rw[QM.out];rfl),EK⟩
   | true=>
    obtain⟨g1,g2,g3,g4⟩:=BI.out (by first | rfl | trivial)
    generalize hci:bH cs r1=ci at*
    have zX:=ah hci
    clear hci
    go_wp2_with ((go_at_call 36;refine(jy ⟨⟨some ⟨bb,off,none⟩,cs.length,b3⟩,⟨b4,b5,b6⟩,⟨b7,b8,b9⟩,⟨b10,b11,b12⟩⟩ cs r1 _ Zd.out).mono ?_);rw[zX.out];rintro e w2 ⟨rfl,hb2⟩;have hk2:=aj QK.out hb2 (by omega);obtain⟨n0,n1,n2,n3,n4,n5,n6,_⟩:=aB hk2;have hbw2:=EK.trans (hb2.mono EK.size);have hkb2:=ah (aj QL.out hb2 (by omega));clear hk2 hb2)
    all_goals first
     | (go_ret
        exact⟨aN (by unfold Km;rw[BK.out (by rw[oP.out];first | (simp;omega) | (simp [*];done) | (simp [*];omega))];rfl),hbw2⟩)
     | (go_roundw
        case rel=>exact⟨k+1,by omega,by go_num,rF.out (by rw[oP.out];first | (simp;omega) | (simp [*];done) | (simp [*];omega)),hbw2,hkb2.out⟩
        case measure=>simp[intOf];omega)
  ·by_cases h4:cs.length≤4
   ·have d4:decide ((cs.length:Int)≤4)=true:=by simp;omega
    go_wp2
    go_ret
    exact⟨aN (by unfold Km;rw[gY.all HA.out hge];simp;omega),hb⟩
   ·have d4:decide ((cs.length:Int)≤4)=false:=by simp;omega
    go_wp2
    go_ret
    exact⟨aN (by unfold Km;rw[gY.all HA.out hge];simp;omega),hb⟩
end Go.Proofs.YtlfopoimbbpfdaaGreat
