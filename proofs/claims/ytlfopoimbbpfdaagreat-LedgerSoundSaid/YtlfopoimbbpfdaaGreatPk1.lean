/- What the law asks, in parts: LIx LWkD. -/
import Derived.Test.YtlfopoimbbpfdaaGreatPk0
set_option linter.all false
set_option maxRecDepth 100000
set_option maxHeartbeats 16000000
namespace Go.Proofs.YtlfopoimbbpfdaaGreat
open Go.RowKit
structure og {α:Type} (P:Program) (w:World) (fn:Nat) (caps:Array Value) (enc:α→Value) (p:α→Bool) (l:List α):Prop where
 en:∀ (args:Array Value) (W:World),(callFunc fn args).run P W= .ok (.enter fn args) W
 ask:∀W,Below w.heap.size w W→ ∀x∈l,Calls P fn (#[enc x]++caps) W fun e W'=>e= .returned (.bool (p x))∧Below W.heap.size W W'
abbrev Ym (r:Rg):Value:=.agg #[.int .i64 r.1,.int .i64 r.2]
def IQ (s:Sv):List Value:=[s.v]
theorem KM (s:Sv):(IQ s).length=1:=rfl
theorem SE (c:Sv):∀u∈IQ c,u.oneCell'=true:=by intro u hu;simp[IQ]at hu;subst hu;rfl
theorem dI.sv {w wr:World} {l:List Sv} {ao:Option Addr} {cap B:Nat} (h:dI IQ 1 w (.slice ao l.length cap) l) (hb:Below B w wr) (hB:w.heap.size≤B) (k:Nat) (hk:k<l.length):
  ∃b off,ao=some ⟨b,off,none⟩∧b<w.heap.size∧wr.cell? ⟨b,off+k,none⟩=some l[k].v:=by
 obtain⟨b,off,h1,h2,h3⟩:=dI.at h KM (by omega) hb hB k hk;have:=h3 0 _ rfl;rw[Nat.mul_one,Nat.add_zero]at this;exact⟨b,off,h1,h2,this⟩
theorem Mv (v:Value) (l:List Ct) (fn:Nat) (caps:Array Value) (p:Ct→Bool) (w:World) (h:oN w v l) (hf:og Tryz.prog w fn caps Y5 p l):
  Calls Tryz.prog 92 #[v,.func (.func fn) #[] caps] w fun e w'=>e= .returned (.int .i64 (fB p l))∧Below w.heap.size w w':=by
 obtain⟨ao,cap,rfl,dO,hm⟩:=Sl.shape h;have HF:=ah hf.ask;have he:=hf.en;clear hf
 go_enter Tryz.func92,Tryz.ntmps92
 go_wp2
 go_loopw[8] (fun vk wr=>∃k:Nat,k≤l.length∧vk= .int .i64 k∧(∀j (hj:j<l.length),j<k→p l[j]=false)∧Below w.heap.size w wr) (fun vk _=>l.length-(intOf vk).toNat)
 case atStart=>exact⟨0,Nat.zero_le _,rfl,fun j _ hj=>by omega,aL _ _⟩
 case round=>
  obtain⟨k,hk,rfl,hj,hb⟩:=hrel;have HJ:=ah hj;clear hj;rcases Nat.lt_or_ge k l.length with bA | gX
  ·obtain⟨b,off,rfl,kZ,c0,c1,c2,c3,c4,c5,c6⟩:=dI.ct h hb (aC _) k bA
   obtain⟨q,hq⟩:∃q,p l[k]=q:=⟨_,rfl⟩;have hc:=HF.out wr hb l[k] (List.getElem_mem bA);rw[hq]at hc;have HC:=ah hc;have Ak:Hid (q=true→fB p l=k):=fun h1=>kG (p:=p) (l:=l) k bA (fun j hj=>HJ.out j (by omega) hj) (by rw[hq];exact h1)
   have zU:Hid (q=false→ ∀j (hj:j<l.length),j<k+1→p l[j]=false):=fun hh j hj Df=>by
    by_cases qV:j=k
    ·subst qV;rw[hq];exact hh
    ·exact HJ.out j hj (by omega)
   clear HJ HF hc hq;have jK:(k:Int)<l.length:=by omega
   generalize l[k]=r at*;obtain⟨r1,r2,r3,r4,r5,r6,r7⟩:=r;simp only at c0 c1 c2 c3 c4 c5 c6;go_wp2_with fail
   refine HC.out.mono ?_;rintro e w1 ⟨rfl,bB⟩;have bO:=hb.trans (bB.mono hb.size);clear HC
   cases q with
   | true=>
    go_wp2;go_ret;exact⟨eH (by rw[Ak.out (by first | rfl | trivial)]),bO⟩
   | false=>
    go_wp2;go_roundw
    case rel=>exact⟨k+1,by omega,by go_num,zU.out (by first | rfl | trivial),bO⟩
    case measure=>simp[intOf];omega
  ·have HK:=ah gX
   go_wp2;go_ret;exact⟨eH (by rw[gF (fun x hx=>by obtain⟨j,hj,rfl⟩:=List.getElem_of_mem hx;exact HJ.out j hj (by have:=HK.out;omega))]),hb⟩
theorem xS (v:Value) (l:List Sc) (fn:Nat) (caps:Array Value) (p:Sc→Bool) (w:World) (h:Eh w v l) (hf:og Tryz.prog w fn caps Y6 p l):
  Calls Tryz.prog 87 #[v,.func (.func fn) #[] caps] w fun e w'=>e= .returned (.int .i64 (fB p l))∧Below w.heap.size w w':=by
 obtain⟨ao,cap,rfl,dO,hm⟩:=Sl.shape h;have HF:=ah hf.ask;have he:=hf.en;clear hf
 go_enter Tryz.func87,Tryz.ntmps87
 go_wp2
 go_loopw[8] (fun vk wr=>∃k:Nat,k≤l.length∧vk= .int .i64 k∧(∀j (hj:j<l.length),j<k→p l[j]=false)∧Below w.heap.size w wr) (fun vk _=>l.length-(intOf vk).toNat)
 case atStart=>exact⟨0,Nat.zero_le _,rfl,fun j _ hj=>by omega,aL _ _⟩
 case round=>
  obtain⟨k,hk,rfl,hj,hb⟩:=hrel;have HJ:=ah hj;clear hj;rcases Nat.lt_or_ge k l.length with bA | gX
  ·obtain⟨b,off,rfl,kZ,c0,c1,c2,c3,c4⟩:=dI.sc h hb (aC _) k bA
   obtain⟨q,hq⟩:∃q,p l[k]=q:=⟨_,rfl⟩;have hc:=HF.out wr hb l[k] (List.getElem_mem bA);rw[hq]at hc;have HC:=ah hc;have Ak:Hid (q=true→fB p l=k):=fun h1=>kG (p:=p) (l:=l) k bA (fun j hj=>HJ.out j (by omega) hj) (by rw[hq];exact h1)
   have zU:Hid (q=false→ ∀j (hj:j<l.length),j<k+1→p l[j]=false):=fun hh j hj Df=>by
    by_cases qV:j=k
    ·subst qV;rw[hq];exact hh
    ·exact HJ.out j hj (by omega)
   clear HJ HF hc hq;have jK:(k:Int)<l.length:=by omega
   generalize l[k]=r at*;obtain⟨r1,r2,r3,r4,r5⟩:=r;simp only at c0 c1 c2 c3 c4;go_wp2_with fail
   refine HC.out.mono ?_;rintro e w1 ⟨rfl,bB⟩;have bO:=hb.trans (bB.mono hb.size);clear HC
   cases q with
   | true=>
    go_wp2;go_ret;exact⟨eH (by rw[Ak.out (by first | rfl | trivial)]),bO⟩
   | false=>
    go_wp2;go_roundw
    case rel=>exact⟨k+1,by omega,by go_num,zU.out (by first | rfl | trivial),bO⟩
    case measure=>simp[intOf];omega
  ·have HK:=ah gX
   go_wp2;go_ret;exact⟨eH (by rw[gF (fun x hx=>by obtain⟨j,hj,rfl⟩:=List.getElem_of_mem hx;exact HJ.out j hj (by have:=HK.out;omega))]),hb⟩
theorem Mw (v:Value) (l:List Wn) (fn:Nat) (caps:Array Value) (p:Wn→Bool) (w:World) (h:sM w v l) (hf:og Tryz.prog w fn caps Un p l):
  Calls Tryz.prog 111 #[v,.func (.func fn) #[] caps] w fun e w'=>e= .returned (.int .i64 (fB p l))∧Below w.heap.size w w':=by
 obtain⟨ao,cap,rfl,dO,hm⟩:=Sl.shape h;have HF:=ah hf.ask;have he:=hf.en;clear hf
 go_enter Tryz.func111,Tryz.ntmps111
 go_wp2
 go_loopw[8] (fun vk wr=>∃k:Nat,k≤l.length∧vk= .int .i64 k∧(∀j (hj:j<l.length),j<k→p l[j]=false)∧Below w.heap.size w wr) (fun vk _=>l.length-(intOf vk).toNat)
 case atStart=>exact⟨0,Nat.zero_le _,rfl,fun j _ hj=>by omega,aL _ _⟩
 case round=>
  obtain⟨k,hk,rfl,hj,hb⟩:=hrel;have HJ:=ah hj;clear hj;rcases Nat.lt_or_ge k l.length with bA | gX
  ·obtain⟨b,off,rfl,kZ,c0,c1,c2,c3⟩:=dI.wn h hb (aC _) k bA
   obtain⟨q,hq⟩:∃q,p l[k]=q:=⟨_,rfl⟩;have hc:=HF.out wr hb l[k] (List.getElem_mem bA);rw[hq]at hc;have HC:=ah hc;have Ak:Hid (q=true→fB p l=k):=fun h1=>kG (p:=p) (l:=l) k bA (fun j hj=>HJ.out j (by omega) hj) (by rw[hq];exact h1)
   have zU:Hid (q=false→ ∀j (hj:j<l.length),j<k+1→p l[j]=false):=fun hh j hj Df=>by
    by_cases qV:j=k
    ·subst qV;rw[hq];exact hh
    ·exact HJ.out j hj (by omega)
   clear HJ HF hc hq;have jK:(k:Int)<l.length:=by omega
   generalize l[k]=r at*;obtain⟨r1,r2,r3,r4⟩:=r;simp only at c0 c1 c2 c3;go_wp2_with fail
   refine HC.out.mono ?_;rintro e w1 ⟨rfl,bB⟩;have bO:=hb.trans (bB.mono hb.size);clear HC
   cases q with
   | true=>
    go_wp2;go_ret;exact⟨eH (by rw[Ak.out (by first | rfl | trivial)]),bO⟩
   | false=>
    go_wp2;go_roundw
    case rel=>exact⟨k+1,by omega,by go_num,zU.out (by first | rfl | trivial),bO⟩
    case measure=>simp[intOf];omega
  ·have HK:=ah gX
   go_wp2;go_ret;exact⟨eH (by rw[gF (fun x hx=>by obtain⟨j,hj,rfl⟩:=List.getElem_of_mem hx;exact HJ.out j hj (by have:=HK.out;omega))]),hb⟩
theorem Dh (v:Value) (l:List cB) (fn:Nat) (caps:Array Value) (p:cB→Bool) (w:World) (h:dI j_ 7 w v l) (hf:og Tryz.prog w fn caps o9 p l):
  Calls Tryz.prog 110 #[v,.func (.func fn) #[] caps] w fun e w'=>e= .returned (.int .i64 (fB p l))∧Below w.heap.size w w':=by
 obtain⟨ao,cap,rfl,dO,hm⟩:=Sl.shape h;have HF:=ah hf.ask;have he:=hf.en;clear hf
 go_enter Tryz.func110,Tryz.ntmps110
 go_wp2
 go_loopw[8] (fun vk wr=>∃k:Nat,k≤l.length∧vk= .int .i64 k∧(∀j (hj:j<l.length),j<k→p l[j]=false)∧Below w.heap.size w wr) (fun vk _=>l.length-(intOf vk).toNat)
 case atStart=>exact⟨0,Nat.zero_le _,rfl,fun j _ hj=>by omega,aL _ _⟩
 case round=>
  obtain⟨k,hk,rfl,hj,hb⟩:=hrel;have HJ:=ah hj;clear hj;rcases Nat.lt_or_ge k l.length with bA | gX
  ·obtain⟨b,off,rfl,kZ,c0,c1,c2,c3,c4,c5,c6⟩:=dI.ls h hb (aC _) k bA
   obtain⟨q,hq⟩:∃q,p l[k]=q:=⟨_,rfl⟩;have hc:=HF.out wr hb l[k] (List.getElem_mem bA);rw[hq]at hc;have HC:=ah hc;have Ak:Hid (q=true→fB p l=k):=fun h1=>kG (p:=p) (l:=l) k bA (fun j hj=>HJ.out j (by omega) hj) (by rw[hq];exact h1)
   have zU:Hid (q=false→ ∀j (hj:j<l.length),j<k+1→p l[j]=false):=fun hh j hj Df=>by
    by_cases qV:j=k
    ·subst qV;rw[hq];exact hh
    ·exact HJ.out j hj (by omega)
   clear HJ HF hc hq;have jK:(k:Int)<l.length:=by omega
   generalize l[k]=r at*;obtain⟨r1,r2,r3,r4,r5,r6,r7⟩:=r;simp only at c0 c1 c2 c3 c4 c5 c6;go_wp2_with fail
   refine HC.out.mono ?_;rintro e w1 ⟨rfl,bB⟩;have bO:=hb.trans (bB.mono hb.size);clear HC
   cases q with
   | true=>
    go_wp2;go_ret;exact⟨eH (by rw[Ak.out (by first | rfl | trivial)]),bO⟩
   | false=>
    go_wp2;go_roundw
    case rel=>exact⟨k+1,by omega,by go_num,zU.out (by first | rfl | trivial),bO⟩
    case measure=>simp[intOf];omega
  ·have HK:=ah gX
   go_wp2;go_ret;exact⟨eH (by rw[gF (fun x hx=>by obtain⟨j,hj,rfl⟩:=List.getElem_of_mem hx;exact HJ.out j hj (by have:=HK.out;omega))]),hb⟩
end Go.Proofs.YtlfopoimbbpfdaaGreat
namespace Go.Proofs.YtlfopoimbbpfdaaGreat
open Go.RowKit
theorem Mx (v:Value) (l:List Rg) (fn:Nat) (caps:Array Value) (p:Rg→Bool) (w:World) (h:fD w v l) (hf:og Tryz.prog w fn caps Ym p l):
  Calls Tryz.prog 122 #[v,.func (.func fn) #[] caps] w fun e w'=>e= .returned (.int .i64 (fB p l))∧Below w.heap.size w w':=by
 obtain⟨ao,cap,rfl,dO,hm⟩:=Sl.shape h;have HF:=ah hf.ask;have he:=hf.en;clear hf
 go_enter Tryz.func122,Tryz.ntmps122
 go_wp2
 go_loopw[8] (fun vk wr=>∃k:Nat,k≤l.length∧vk= .int .i64 k∧(∀j (hj:j<l.length),j<k→p l[j]=false)∧Below w.heap.size w wr) (fun vk _=>l.length-(intOf vk).toNat)
 case atStart=>exact⟨0,Nat.zero_le _,rfl,fun j _ hj=>by omega,aL _ _⟩
 case round=>
  obtain⟨k,hk,rfl,hj,hb⟩:=hrel;have HJ:=ah hj;clear hj;rcases Nat.lt_or_ge k l.length with bA | gX
  ·obtain⟨b,off,rfl,kZ,c0,c1⟩:=h.pair hb (aC _) k bA
   obtain⟨q,hq⟩:∃q,p l[k]=q:=⟨_,rfl⟩;have hc:=HF.out wr hb l[k] (List.getElem_mem bA);rw[hq]at hc;have HC:=ah hc;have Ak:Hid (q=true→fB p l=k):=fun h1=>kG (p:=p) (l:=l) k bA (fun j hj=>HJ.out j (by omega) hj) (by rw[hq];exact h1)
   have zU:Hid (q=false→ ∀j (hj:j<l.length),j<k+1→p l[j]=false):=fun hh j hj Df=>by
    by_cases qV:j=k
    ·subst qV;rw[hq];exact hh
    ·exact HJ.out j hj (by omega)
   clear HJ HF hc hq;have jK:(k:Int)<l.length:=by omega
   generalize l[k]=r at*;obtain⟨r1,r2⟩:=r;simp only at c0 c1;go_wp2_with fail
   refine HC.out.mono ?_;rintro e w1 ⟨rfl,bB⟩;have bO:=hb.trans (bB.mono hb.size);clear HC
   cases q with
   | true=>
    go_wp2;go_ret;exact⟨eH (by rw[Ak.out (by first | rfl | trivial)]),bO⟩
   | false=>
    go_wp2;go_roundw
    case rel=>exact⟨k+1,by omega,by go_num,zU.out (by first | rfl | trivial),bO⟩
    case measure=>simp[intOf];omega
  ·have HK:=ah gX
   go_wp2;go_ret;exact⟨eH (by rw[gF (fun x hx=>by obtain⟨j,hj,rfl⟩:=List.getElem_of_mem hx;exact HJ.out j hj (by have:=HK.out;omega))]),hb⟩
theorem OJ (v:Value) (l:List Int) (fn:Nat) (caps:Array Value) (p:Int→Bool) (w:World) (h:jv w v l) (hf:og Tryz.prog w fn caps (fun n=> .int .i64 n) p l):
  Calls Tryz.prog 99 #[v,.func (.func fn) #[] caps] w fun e w'=>e= .returned (.int .i64 (fB p l))∧Below w.heap.size w w':=by
 obtain⟨ao,cap,rfl,dO,hm⟩:=Sl.shape h;have HF:=ah hf.ask;have he:=hf.en;clear hf
 go_enter Tryz.func99,Tryz.ntmps99
 go_wp2
 go_loopw[8] (fun vk wr=>∃k:Nat,k≤l.length∧vk= .int .i64 k∧(∀j (hj:j<l.length),j<k→p l[j]=false)∧Below w.heap.size w wr) (fun vk _=>l.length-(intOf vk).toNat)
 case atStart=>exact⟨0,Nat.zero_le _,rfl,fun j _ hj=>by omega,aL _ _⟩
 case round=>
  obtain⟨k,hk,rfl,hj,hb⟩:=hrel;have HJ:=ah hj;clear hj;rcases Nat.lt_or_ge k l.length with bA | gX
  ·obtain⟨b,off,rfl,kZ,c0⟩:=h.cell hb (aC _) k bA
   obtain⟨q,hq⟩:∃q,p l[k]=q:=⟨_,rfl⟩;have hc:=HF.out wr hb l[k] (List.getElem_mem bA);rw[hq]at hc;have HC:=ah hc;have Ak:Hid (q=true→fB p l=k):=fun h1=>kG (p:=p) (l:=l) k bA (fun j hj=>HJ.out j (by omega) hj) (by rw[hq];exact h1)
   have zU:Hid (q=false→ ∀j (hj:j<l.length),j<k+1→p l[j]=false):=fun hh j hj Df=>by
    by_cases qV:j=k
    ·subst qV;rw[hq];exact hh
    ·exact HJ.out j hj (by omega)
   clear HJ HF hc hq;have jK:(k:Int)<l.length:=by omega
   generalize l[k]=r at*;go_wp2_with fail
   refine HC.out.mono ?_;rintro e w1 ⟨rfl,bB⟩;have bO:=hb.trans (bB.mono hb.size);clear HC
   cases q with
   | true=>
    go_wp2;go_ret;exact⟨eH (by rw[Ak.out (by first | rfl | trivial)]),bO⟩
   | false=>
    go_wp2;go_roundw
    case rel=>exact⟨k+1,by omega,by go_num,zU.out (by first | rfl | trivial),bO⟩
    case measure=>simp[intOf];omega
  ·have HK:=ah gX
   go_wp2;go_ret;exact⟨eH (by rw[gF (fun x hx=>by obtain⟨j,hj,rfl⟩:=List.getElem_of_mem hx;exact HJ.out j hj (by have:=HK.out;omega))]),hb⟩
theorem MB (v:Value) (l:List Sv) (fn:Nat) (caps:Array Value) (p:Sv→Bool) (w:World) (h:dI IQ 1 w v l) (hf:og Tryz.prog w fn caps Sv.v p l):
  Calls Tryz.prog 100 #[v,.func (.func fn) #[] caps] w fun e w'=>e= .returned (.int .i64 (fB p l))∧Below w.heap.size w w':=by
 obtain⟨ao,cap,rfl,dO,hm⟩:=Sl.shape h;have HF:=ah hf.ask;have he:=hf.en;clear hf
 go_enter Tryz.func100,Tryz.ntmps100
 go_wp2
 go_loopw[8] (fun vk wr=>∃k:Nat,k≤l.length∧vk= .int .i64 k∧(∀j (hj:j<l.length),j<k→p l[j]=false)∧Below w.heap.size w wr) (fun vk _=>l.length-(intOf vk).toNat)
 case atStart=>exact⟨0,Nat.zero_le _,rfl,fun j _ hj=>by omega,aL _ _⟩
 case round=>
  obtain⟨k,hk,rfl,hj,hb⟩:=hrel;have HJ:=ah hj;clear hj;rcases Nat.lt_or_ge k l.length with bA | gX
  ·obtain⟨b,off,rfl,kZ,c0⟩:=dI.sv h hb (aC _) k bA
   obtain⟨q,hq⟩:∃q,p l[k]=q:=⟨_,rfl⟩;have hc:=HF.out wr hb l[k] (List.getElem_mem bA);rw[hq]at hc;have HC:=ah hc;have Ak:Hid (q=true→fB p l=k):=fun h1=>kG (p:=p) (l:=l) k bA (fun j hj=>HJ.out j (by omega) hj) (by rw[hq];exact h1)
   have zU:Hid (q=false→ ∀j (hj:j<l.length),j<k+1→p l[j]=false):=fun hh j hj Df=>by
    by_cases qV:j=k
    ·subst qV;rw[hq];exact hh
    ·exact HJ.out j hj (by omega)
   clear HJ HF hc hq;have jK:(k:Int)<l.length:=by omega
   generalize l[k]=r at*;go_wp2_with fail
   refine HC.out.mono ?_;rintro e w1 ⟨rfl,bB⟩;have bO:=hb.trans (bB.mono hb.size);clear HC
   cases q with
   | true=>
    go_wp2;go_ret;exact⟨eH (by rw[Ak.out (by first | rfl | trivial)]),bO⟩
   | false=>
    go_wp2;go_roundw
    case rel=>exact⟨k+1,by omega,by go_num,zU.out (by first | rfl | trivial),bO⟩
    case measure=>simp[intOf];omega
  ·have HK:=ah gX
   go_wp2;go_ret;exact⟨eH (by rw[gF (fun x hx=>by obtain⟨j,hj,rfl⟩:=List.getElem_of_mem hx;exact HJ.out j hj (by have:=HK.out;omega))]),hb⟩
theorem MC (v:Value) (l:List Wn) (fn:Nat) (caps:Array Value) (p:Wn→Bool) (w:World) (h:sM w v l) (hf:og Tryz.prog w fn caps Un p l):
  Calls Tryz.prog 71 #[v,.func (.func fn) #[] caps] w fun e w'=>e= .returned (.bool (l.any p))∧Below w.heap.size w w':=by
 have HA:=ah (sK p l);have gX:=vZ p l;have HI:=ah (Mw v l fn caps p w h hf);obtain⟨ao,cap,rfl,dO,hm⟩:=Sl.shape h;clear hf h;generalize fB p l=q at*
 go_enter Tryz.func71,Tryz.ntmps71
 go_wp2_with fail
 refine HI.out.mono ?_;rintro e w1 ⟨rfl,bB⟩;go_wp2;go_ret;exact⟨aH HA.out,bB⟩
theorem ME (v:Value) (l:List cB) (fn:Nat) (caps:Array Value) (p:cB→Bool) (w:World) (h:dI j_ 7 w v l) (hf:og Tryz.prog w fn caps o9 p l):
  Calls Tryz.prog 69 #[v,.func (.func fn) #[] caps] w fun e w'=>e= .returned (.bool (l.any p))∧Below w.heap.size w w':=by
 have HA:=ah (sK p l);have gX:=vZ p l;have HI:=ah (Dh v l fn caps p w h hf);obtain⟨ao,cap,rfl,dO,hm⟩:=Sl.shape h;clear hf h;generalize fB p l=q at*
 go_enter Tryz.func69,Tryz.ntmps69
 go_wp2_with fail
 refine HI.out.mono ?_;rintro e w1 ⟨rfl,bB⟩;go_wp2;go_ret;exact⟨aH HA.out,bB⟩
theorem Di (v:Value) (l:List Rg) (fn:Nat) (caps:Array Value) (p:Rg→Bool) (w:World) (h:fD w v l) (hf:og Tryz.prog w fn caps Ym p l):
  Calls Tryz.prog 96 #[v,.func (.func fn) #[] caps] w fun e w'=>e= .returned (.bool (l.any p))∧Below w.heap.size w w':=by
 have HA:=ah (sK p l);have gX:=vZ p l;have HI:=ah (Mx v l fn caps p w h hf);obtain⟨ao,cap,rfl,dO,hm⟩:=Sl.shape h;clear hf h;generalize fB p l=q at*
 go_enter Tryz.func96,Tryz.ntmps96
 go_wp2_with fail
 refine HI.out.mono ?_;rintro e w1 ⟨rfl,bB⟩;go_wp2;go_ret;exact⟨aH HA.out,bB⟩
theorem FL (v:Value) (l:List Int) (fn:Nat) (caps:Array Value) (p:Int→Bool) (w:World) (h:jv w v l) (hf:og Tryz.prog w fn caps (fun n=> .int .i64 n) p l):
  Calls Tryz.prog 45 #[v,.func (.func fn) #[] caps] w fun e w'=>e= .returned (.bool (l.any p))∧Below w.heap.size w w':=by
 have HA:=ah (sK p l);have gX:=vZ p l;have HI:=ah (OJ v l fn caps p w h hf);obtain⟨ao,cap,rfl,dO,hm⟩:=Sl.shape h;clear hf h;generalize fB p l=q at*
 go_enter Tryz.func45,Tryz.ntmps45
 go_wp2_with fail
 refine HI.out.mono ?_;rintro e w1 ⟨rfl,bB⟩;go_wp2;go_ret;exact⟨aH HA.out,bB⟩
theorem MF (v:Value) (l:List Sv) (fn:Nat) (caps:Array Value) (p:Sv→Bool) (w:World) (h:dI IQ 1 w v l) (hf:og Tryz.prog w fn caps Sv.v p l):
  Calls Tryz.prog 47 #[v,.func (.func fn) #[] caps] w fun e w'=>e= .returned (.bool (l.any p))∧Below w.heap.size w w':=by
 have HA:=ah (sK p l);have gX:=vZ p l;have HI:=ah (MB v l fn caps p w h hf);obtain⟨ao,cap,rfl,dO,hm⟩:=Sl.shape h;clear hf h;generalize fB p l=q at*
 go_enter Tryz.func47,Tryz.ntmps47
 go_wp2_with fail
 refine HI.out.mono ?_;rintro e w1 ⟨rfl,bB⟩;go_wp2;go_ret;exact⟨aH HA.out,bB⟩
end Go.Proofs.YtlfopoimbbpfdaaGreat
namespace Go.Proofs.YtlfopoimbbpfdaaGreat
open Go.RowKit
theorem key_eq (a b:ByteArray):(a.toList==b.toList)=decide (a=b):=by
 rw[Bool.eq_iff_iff,beq_iff_eq,decide_eq_true_iff,ByteArray.toList_eq,ByteArray.toList_eq];exact⟨fun h=>ByteArray.ext (Array.toList_inj.1 h),fun h=>by rw[h]⟩
theorem Ej (c:Ct) (b:Nat) (key:ByteArray) (w:World) (hc:w.cell? ⟨b,0,none⟩=some (.string key)) (hb:b<w.heap.size):
  Calls Tryz.prog 93 #[Y5 c,.pointer (some ⟨b,0,none⟩)] w fun e w'=>e= .returned (.bool (decide (c.key=key)))∧Below w.heap.size w w':=by
 have HK:=ah (key_eq c.key key);obtain⟨c1,c2,c3,c4,c5,c6,c7⟩:=c
 go_enter Tryz.func93,Tryz.ntmps93
 go_wp2;go_ret;exact⟨aH HK.out,(aL _ _).alloc (aC _) _⟩
theorem Tryz.IU (args:Array Value) (W:World):(callFunc 93 args).run Tryz.prog W= .ok (.enter 93 args) W:=by kernel_rfl
theorem Tryz.Y7 (args:Array Value) (W:World):(callFunc 117 args).run Tryz.prog W= .ok (.enter 117 args) W:=by kernel_rfl
theorem Vp {w:World} {b:Nat} {key:ByteArray} (hc:w.cell? ⟨b,0,none⟩=some (.string key)) (l:List Ct):og Tryz.prog w 93 #[.pointer (some ⟨b,0,none⟩)] Y5 (fun c=>decide (c.key=key)) l:=by
 have hb:b<w.heap.size:=World.block_lt_of_cell? w _ hc;exact⟨Tryz.IU,fun W hW x _=>Ej x b key W (fU hc hW hb) (Nat.lt_of_lt_of_le hb hW.size)⟩
def bJ (l:List Ct) (key:ByteArray):Int:=fB (fun c=>decide (c.key=key)) l
theorem mW (x:dN) (l:List Ct) (key:ByteArray) (w:World) (h:oN w x.c.v l):
  Calls Tryz.prog 36 #[iJ x,.string key] w fun e w'=>e= .returned (.int .i64 (bJ l key))∧Below w.heap.size w w':=by
 obtain⟨sc,sf,sl,sb⟩:=x;have bB:Below w.heap.size w ((w.alloc (.cells #[sc.v,sf.v,sl.v,sb.v] 30)).alloc (.cells #[.string key] 9)):=((aL _ _).alloc (aC _) _).alloc (by simp) _;have HS:=ah (dI.keep h bB (aC _));have HC:Hid (((w.alloc (.cells #[sc.v,sf.v,sl.v,sb.v] 30)).alloc (.cells #[.string key] 9)).cell? ⟨w.heap.size+1,0,none⟩=some (.string key)):=by show _=_;simp[go_sem]
 have HB:=ah bB;clear h bB
 go_enter Tryz.func36,Tryz.ntmps36
 go_wp2_with fail
 refine(Mv _ l _ _ _ _ HS.out (Vp HC.out l)).mono ?_;rintro e w1 ⟨rfl,bO⟩;have bT:=HB.out.trans (bO.mono HB.out.size);clear HS HC HB bO;go_wp2;go_ret;exact⟨rfl,bT⟩
end Go.Proofs.YtlfopoimbbpfdaaGreat
namespace Go.Proofs.YtlfopoimbbpfdaaGreat
open Go.RowKit
def IV (c:UInt8):Bool:=!decide (c.toNat<32)&&!decide (c.toNat=127)
def lD (s:ByteArray):Bool:=s.data.toList.all IV&&decide (s.size≤40)
theorem FM {α:Type} (p:α→Bool) (l:List α) (k:Nat) (hk:k<l.length):(l.take (k+1)).all p=((l.take k).all p&&p l[k]):=by
 rw[aS l k hk,List.all_append];simp
theorem FN {α:Type} (p:α→Bool) (l:List α) (k:Nat) (hk:k<l.length) (h:p l[k]=false):l.all p=false:=by
 rw[List.all_eq_false];exact⟨l[k],List.getElem_mem hk,by rw[h];simp⟩
theorem OL (s:ByteArray) (w:World) (hs:s.size≤maxLen):
  Calls Tryz.prog 104 #[.string s] w fun e w'=>e= .returned (.bool (lD s))∧w=w':=by
 unfold maxLen at hs
 go_enter Tryz.func104,Tryz.ntmps104
 go_wp2
 go_loop[6] (fun vk=>∃k:Nat,k≤s.size∧vk= .int .i64 k∧(s.data.toList.take k).all IV=true) (fun vk=>s.size-(intOf vk).toNat)
 case atStart=>exact⟨0,Nat.zero_le _,rfl,rfl⟩
 case round=>
  obtain⟨k,hk,rfl,gY⟩:=hrel;have HA:=ah gY;clear gY;by_cases bA:k<s.size
  ·have hl:k<s.data.toList.length:=by simpa using bA
   have HT:=ah (FM IV s.data.toList k hl);have uG:=ah (FN IV s.data.toList k hl);have e0:s.data.toList[k]=s[k]:=by rfl
   rw[e0]at HT uG;clear e0;by_cases h1:s[k].toNat<32
   ·have HF:Hid (lD s=false):=by show _=_;unfold lD;rw[uG.out (by unfold IV;simp[h1])];rfl
    clear HT uG;have g1:(s[k].toNat:Int)<32:=by omega
    go_wp2;go_ret;exact⟨aH HF.out.symm,rfl⟩
   ·by_cases h2:s[k].toNat=127
    ·have HF:Hid (lD s=false):=by show _=_;unfold lD;rw[uG.out (by unfold IV;simp[h2])];rfl
     clear HT uG;have g1:decide ((s[k].toNat:Int)<32)=false:=by simp;omega
     have g2:((s[k].toNat:Int)==127)=true:=by simp;omega
     go_wp2;go_ret;exact⟨aH HF.out.symm,rfl⟩
    ·have HN:Hid ((s.data.toList.take (k+1)).all IV=true):=by show _=_;rw[HT.out,HA.out];unfold IV;simp[h1,h2]
     clear HT uG;have g1:decide ((s[k].toNat:Int)<32)=false:=by simp;omega
     have g2:((s[k].toNat:Int)==127)=false:=by simp;omega
     go_wp2;go_round
     case rel=>exact⟨k+1,by omega,by go_num,HN.out⟩
     case measure=>simp[intOf];omega
  ·have HK:=ah bA
   have HF:Hid (lD s=decide (s.size≤40)):=by
    show _=_;have:=HA.out;rw[List.take_of_length_le (by simp;omega)]at this;unfold lD;rw[this];simp
   go_wp2;go_ret;exact⟨aH (by rw[HF.out];simp;omega),rfl⟩
theorem dZ (n a b:Int) (w:World):Calls Tryz.prog 63 #[.int .i64 n,.int .i64 a,.int .i64 b] w fun e w'=>e= .returned (.bool (decide (a≤n)&&decide (n≤b)))∧w=w':=by
 by_cases h1:a≤n
 ·go_enter Tryz.func63,Tryz.ntmps63
  go_wp2;go_ret;exact⟨by simp[h1],rfl⟩
 ·have d:decide (a≤n)=false:=by simpa using h1
  go_enter Tryz.func63,Tryz.ntmps63
  go_wp2;go_ret;exact⟨by simp,rfl⟩
end Go.Proofs.YtlfopoimbbpfdaaGreat
namespace Go.Proofs.YtlfopoimbbpfdaaGreat
open Go.RowKit
def mX (c:Ct):Bool:=!c.key.toList.isEmpty&&(lD c.key&&((decide (0≤c.coll)&&decide (c.coll≤2))&&(decide (-1099511627776≤c.lo)&&(decide (c.lo≤c.start)&&(decide (c.start≤c.hi)&&decide (c.hi≤1099511627776))))))
theorem KN (c:Ct) (w:World) (hs:c.key.size≤maxLen):
  Calls Tryz.prog 62 #[Y5 c] w fun e w'=>e= .returned (.bool (mX c))∧Below w.heap.size w w':=by
 have HP:Hid (mX c=(!c.key.toList.isEmpty&&(lD c.key&&((decide (0≤c.coll)&&decide (c.coll≤2))&&(decide (-1099511627776≤c.lo)&&(decide (c.lo≤c.start)&&(decide (c.start≤c.hi)&&decide (c.hi≤1099511627776)))))))):=rfl;generalize mX c=res at*;obtain⟨c1,c2,c3,c4,c5,c6,c7⟩:=c;simp only at hs
 go_enter Tryz.func62,Tryz.ntmps62
 go_wp2_with (first
  | (go_at_call 104;refine(OL _ _ hs).mono ?_;rintro e w1 ⟨rfl,rfl⟩)
  | (go_at_call 63;refine(dZ _ _ _ _).mono ?_;rintro e w1 ⟨rfl,rfl⟩))
 all_goals go_ret
 all_goals refine⟨aH ?_,(aL _ _).alloc (aC _) _⟩
 all_goals rw[HP.out]
 all_goals first
  | (simp [*];done)
  | (simp [*];omega)
end Go.Proofs.YtlfopoimbbpfdaaGreat
namespace Go.Proofs.YtlfopoimbbpfdaaGreat
open Go.RowKit
theorem MG (s:ByteArray) (w:World):
  Calls Tryz.prog 101 #[.string s] w fun e w'=>e= .returned (.bool (lD s))∧w=w':=by
 by_cases hs:s.size≤40
 ·have g0:decide (40<(s.size:Int))=false:=by simp;omega
  go_enter Tryz.func101,Tryz.ntmps101
  go_wp2
  go_loop[3] (fun vk=>∃k:Nat,k≤s.size∧vk= .int .i64 k∧(s.data.toList.take k).all IV=true) (fun vk=>s.size-(intOf vk).toNat)
  case atStart=>exact⟨0,Nat.zero_le _,rfl,rfl⟩
  case round=>
   obtain⟨k,hk,rfl,gY⟩:=hrel;have HA:=ah gY;clear gY;by_cases bA:k<s.size
   ·have hl:k<s.data.toList.length:=by simpa using bA
    have HT:=ah (FM IV s.data.toList k hl);have uG:=ah (FN IV s.data.toList k hl);have e0:s.data.toList[k]=s[k]:=by rfl
    rw[e0]at HT uG;clear e0;by_cases h1:s[k].toNat<32
    ·have HF:Hid (lD s=false):=by show _=_;unfold lD;rw[uG.out (by unfold IV;simp[h1])];rfl
     clear HT uG;have g1:(s[k].toNat:Int)<32:=by omega
     go_wp2;go_ret;exact⟨aH HF.out.symm,rfl⟩
    ·by_cases h2:s[k].toNat=127
     ·have HF:Hid (lD s=false):=by show _=_;unfold lD;rw[uG.out (by unfold IV;simp[h2])];rfl
      clear HT uG;have g1:decide ((s[k].toNat:Int)<32)=false:=by simp;omega
      have g2:((s[k].toNat:Int)==127)=true:=by simp;omega
      go_wp2;go_ret;exact⟨aH HF.out.symm,rfl⟩
     ·have HN:Hid ((s.data.toList.take (k+1)).all IV=true):=by show _=_;rw[HT.out,HA.out];unfold IV;simp[h1,h2]
      clear HT uG;have g1:decide ((s[k].toNat:Int)<32)=false:=by simp;omega
      have g2:((s[k].toNat:Int)==127)=false:=by simp;omega
      go_wp2;go_round
      case rel=>exact⟨k+1,by omega,by go_num,HN.out⟩
      case measure=>simp[intOf];omega
   ·have HF:Hid (lD s=true):=by
     show _=_;have:=HA.out;rw[List.take_of_length_le (by simp;omega)]at this;unfold lD;rw[this];simp;omega
    go_wp2;go_ret;exact⟨aH HF.out.symm,rfl⟩
 ·have HF:Hid (lD s=false):=by show _=_;unfold lD;simp;intro _;omega
  have g0:(40:Int)<(s.size:Int):=by omega
  clear hs
  go_enter Tryz.func101,Tryz.ntmps101
  go_wp2;go_ret;exact⟨aH HF.out.symm,rfl⟩
theorem FP (c:Ct) (w:World):
  Calls Tryz.prog 49 #[Y5 c] w fun e w'=>e= .returned (.bool (mX c))∧Below w.heap.size w w':=by
 have HP:Hid (mX c=(!c.key.toList.isEmpty&&(lD c.key&&((decide (0≤c.coll)&&decide (c.coll≤2))&&(decide (-1099511627776≤c.lo)&&(decide (c.lo≤c.start)&&(decide (c.start≤c.hi)&&decide (c.hi≤1099511627776)))))))):=rfl;generalize mX c=res at*;obtain⟨c1,c2,c3,c4,c5,c6,c7⟩:=c
 go_enter Tryz.func49,Tryz.ntmps49
 go_wp2_with (go_at_call 101;refine(MG _ _).mono ?_;rintro e w1 ⟨rfl,rfl⟩)
 all_goals go_ret
 all_goals refine⟨aH ?_,(aL _ _).alloc (aC _) _⟩
 all_goals rw[HP.out]
 all_goals first
  | (simp [*];done)
  | (simp [*];omega)
  | (have g2:c2≤2:=by omega
     simp[*];done)
  | (have g2:c2≤2:=by omega
     simp[*];trace_state)
theorem mD (x:dN) (l:List Ct) (key:ByteArray) (w:World) (h:oN w x.c.v l):
  Calls Tryz.prog 50 #[iJ x,.string key] w fun e w'=>e= .returned (.int .i64 (bJ l key))∧Below w.heap.size w w':=by
 obtain⟨⟨ao,n,cap⟩,sf,sl,sb⟩:=x;obtain⟨hn,dO,hm⟩:=Sl.lens h;simp only at h hn dO hm;subst hn;have bB:Below w.heap.size w (w.alloc (.cells #[.slice ao l.length cap,sf.v,sl.v,sb.v] 30)):=(aL _ _).alloc (aC _) _;have HB:=ah bB;clear bB;unfold bJ;change Calls Tryz.prog _ #[.agg #[.slice ao l.length cap,sf.v,sl.v,sb.v],.string key] w _
 go_enter Tryz.func50,Tryz.ntmps50
 go_wp2
 go_loop[5] (fun vk=>∃k:Nat,k≤l.length∧vk= .int .i64 k∧(∀j (hj:j<l.length),j<k→decide (l[j].key=key)=false)) (fun vk=>l.length-(intOf vk).toNat)
 case atStart=>exact⟨0,Nat.zero_le _,rfl,fun j _ hj=>by omega⟩
 case round=>
  obtain⟨k,hk,rfl,hj⟩:=hrel;have HJ:=ah hj;clear hj;rcases Nat.lt_or_ge k l.length with bA | gX
  ·obtain⟨b,off,rfl,kZ,c0,-⟩:=dI.ct h HB.out (aC _) k bA
   have HE:=ah (key_eq l[k].key key);obtain⟨q,hq⟩:∃q,decide (l[k].key=key)=q:=⟨_,rfl⟩;have Ak:Hid (q=true→fB (fun c=>decide (c.key=key)) l=k):=fun h1=>kG (p:=fun c=>decide (c.key=key)) (l:=l) k bA (fun j hj=>HJ.out j (by omega) hj) (by rw[hq];exact h1)
   have zU:Hid (q=false→ ∀j (hj:j<l.length),j<k+1→decide (l[j].key=key)=false):=fun hh j hj Df=>by
    by_cases qV:j=k
    ·subst qV;rw[hq];exact hh
    ·exact HJ.out j hj (by omega)
   rw[hq]at HE;clear HJ hq;have jK:(k:Int)<l.length:=by omega
   generalize l[k].key=r at*
   cases q with
   | true=>
    have e1:=HE.out;go_wp2;go_ret;exact⟨eH (by rw[Ak.out (by first | rfl | trivial)]),HB.out⟩
   | false=>
    have e1:=HE.out;go_wp2;go_round
    case rel=>exact⟨k+1,by omega,by go_num,zU.out (by first | rfl | trivial)⟩
    case measure=>simp[intOf];omega
  ·have HK:=ah gX
   have e1:decide (k<l.length)=false:=by simpa using gX
   go_wp2;go_ret;exact⟨eH (by rw[gF (fun x hx=>by obtain⟨j,hj,rfl⟩:=List.getElem_of_mem hx;exact HJ.out j hj (by have:=HK.out;omega))]),HB.out⟩
theorem FQ (v v':Value) (l m:List Rg) (w:World) (h:fD w v l) (h':fD w v' m):
  Calls Tryz.prog 60 #[v,v'] w fun e w'=>e= .returned (.bool (decide (l=m)))∧Below w.heap.size w w':=by
 obtain⟨ao,cap,rfl,dO,hm⟩:=Sl.shape h;obtain⟨kJ,cap',rfl,mY,hm'⟩:=Sl.shape h';by_cases fP:l.length=m.length
 ·rw[←fP]at h'⊢mY
  have HL:=ah fP;clear fP
  go_enter Tryz.func60,Tryz.ntmps60
  go_wp2
  go_loopw[5] (fun i wr=>∃k:Nat,k≤l.length∧i= .int .i64 k∧l.take k=m.take k∧Below w.heap.size w wr) (fun i _=>l.length-(intOf i).toNat)
  case atStart=>exact⟨0,Nat.zero_le _,rfl,rfl,aL _ _⟩
  case round=>
   obtain⟨k,hk,rfl,hh,hb⟩:=hrel;have HH:=ah hh;clear hh;by_cases bA:k<l.length
   ·have sN:k<m.length:=by rw[←HL.out];exact bA
    obtain⟨b,off,rfl,kZ,lF,je⟩:=h.pair hb (aC _) k bA;have hS':fD w (.slice kJ m.length cap') m:=by rw[←HL.out];exact h'
    obtain⟨b',off',rfl,Ck,hc1',hc2'⟩:=hS'.pair hb (aC _) k sN;clear hS';have HS:=ah (aS l k bA);have Y8:=ah (aS m k sN);generalize l[k]=r at*;generalize m[k]=r' at*;obtain⟨p,q⟩:=r;obtain⟨p',q'⟩:=r';simp only at lF je hc1' hc2';clear sN;by_cases h1:p=p'
    ·subst h1
     by_cases h2:q=q'
     ·subst h2
      go_wp2;go_quiet (fail)
      go_wp2;go_roundw
      case rel=>exact⟨k+1,by omega,by go_num,by rw[HS.out,Y8.out,HH.out],below_drewN hb _⟩
      case measure=>simp[intOf];omega
     ·have e1:(q==q')=false:=by simpa using h2
      have HN:=ah h2;clear h2;go_wp2;go_quiet (fail)
      go_wp2;go_ret;exact⟨aH (by symm;rw[decide_eq_false_iff_not];rintro rfl;have h1:=HS.out;rw[Y8.out]at h1;have h3:=List.append_inj_right' h1 rfl;injection h3 with h3;injection h3 with _ h3;exact HN.out h3.symm),below_drewN hb _⟩
    ·have e1:(p==p')=false:=by simpa using h1
     have HN:=ah h1;clear h1;go_wp2;go_quiet (fail)
     go_wp2;go_ret;exact⟨aH (by symm;rw[decide_eq_false_iff_not];rintro rfl;have h1:=HS.out;rw[Y8.out]at h1;have h3:=List.append_inj_right' h1 rfl;injection h3 with h3;injection h3 with h3 _;exact HN.out h3.symm),below_drewN hb _⟩
   ·have HK:=ah bA
    go_wp2;go_ret;exact⟨aH (by symm;rw[decide_eq_true_iff];have:=HH.out;rw[List.take_of_length_le (by omega),List.take_of_length_le (by have:=HL.out;omega)]at this;exact this),hb⟩
 ·have eP:((l.length:Int)==m.length)=false:=by rw[beq_eq_false_iff_ne];omega
  have hne2:((l.length:Int) != m.length)=true:=by rw[bne_iff_ne];omega
  go_enter Tryz.func60,Tryz.ntmps60
  go_wp2;go_ret;exact⟨aH (by symm;rw[decide_eq_false_iff_not];intro e;exact fP (by rw[e])),aL _ _⟩
theorem FR (v v':Value) (l m:List Int) (w:World) (h:jv w v l) (h':jv w v' m):
  Calls Tryz.prog 61 #[v,v'] w fun e w'=>e= .returned (.bool (decide (l=m)))∧Below w.heap.size w w':=by
 obtain⟨ao,cap,rfl,dO,hm⟩:=Sl.shape h;obtain⟨kJ,cap',rfl,mY,hm'⟩:=Sl.shape h';by_cases fP:l.length=m.length
 ·rw[←fP]at h'⊢mY
  have HL:=ah fP;clear fP
  go_enter Tryz.func61,Tryz.ntmps61
  go_wp2
  go_loopw[5] (fun i wr=>∃k:Nat,k≤l.length∧i= .int .i64 k∧l.take k=m.take k∧Below w.heap.size w wr) (fun i _=>l.length-(intOf i).toNat)
  case atStart=>exact⟨0,Nat.zero_le _,rfl,rfl,aL _ _⟩
  case round=>
   obtain⟨k,hk,rfl,hh,hb⟩:=hrel;have HH:=ah hh;clear hh;by_cases bA:k<l.length
   ·have sN:k<m.length:=by rw[←HL.out];exact bA
    obtain⟨b,off,rfl,kZ,lF⟩:=h.cell hb (aC _) k bA;have hS':jv w (.slice kJ m.length cap') m:=by rw[←HL.out];exact h'
    obtain⟨b',off',rfl,Ck,hc1'⟩:=hS'.cell hb (aC _) k sN;clear hS';have HS:Hid (l[k]=m[k]→l.take (k+1)=m.take (k+1)):=fun hh=>by rw[aS l k bA,aS m k sN,HH.out,hh]
    have mM:Hid (l[k]≠m[k]→decide (l=m)=false):=fun hh=>by
     rw[decide_eq_false_iff_not];rintro rfl;exact hh rfl
    generalize l[k]=r at*;generalize m[k]=r' at*;clear sN;by_cases h1:r=r'
    ·subst h1
     go_wp2;go_quiet (fail)
     go_wp2;go_roundw
     case rel=>exact⟨k+1,by omega,by go_num,HS.out (by first | rfl | trivial),below_drewN hb _⟩
     case measure=>simp[intOf];omega
    ·have HF:Hid (decide (l=m)=false):=mM.out h1
     have s1:(r==r')=false:=by simpa using h1
     have s2:(r != r')=true:=by simpa using h1
     clear h1 HS mM;go_wp2;go_quiet (fail)
     go_wp2;go_ret;exact⟨aH HF.out.symm,below_drewN hb _⟩
   ·have HK:=ah bA
    go_wp2;go_ret;exact⟨aH (by symm;rw[decide_eq_true_iff];have:=HH.out;rw[List.take_of_length_le (by omega),List.take_of_length_le (by have:=HL.out;omega)]at this;exact this),hb⟩
 ·have eP:((l.length:Int)==m.length)=false:=by rw[beq_eq_false_iff_ne];omega
  have hne2:((l.length:Int) != m.length)=true:=by rw[bne_iff_ne];omega
  go_enter Tryz.func61,Tryz.ntmps61
  go_wp2;go_ret;exact⟨aH (by symm;rw[decide_eq_false_iff_not];intro e;exact fP (by rw[e])),aL _ _⟩
end Go.Proofs.YtlfopoimbbpfdaaGreat
