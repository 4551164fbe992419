/- What the law asks, in parts: LEq. -/
import Derived.Shelf.SlicesE.Equal
import Derived.Shelf.SlicesQ.Load
import Derived.Test.YtlfopoimbbpfdaaGreatPk1
set_option linter.all false
set_option maxRecDepth 100000
set_option maxHeartbeats 16000000
namespace Go.Proofs.YtlfopoimbbpfdaaGreat
open Go.RowKit
def Xk (r:Rg):List Value:=[.int .i64 r.1,.int .i64 r.2]
theorem qG {α:Type} {a b:List α} {k:Nat} (h1:k<a.length) (h2:k<b.length) (h:¬a[k]=b[k]):¬a=b:=by rintro rfl;exact h rfl
theorem Tryz.aaM:NeqAt Tryz.prog 54 (fun x=> .agg (kY x).toArray) (fun x y=>decide (x=y)):=by
 refine⟨fun x y w=>?_,GuardAt.agg _ (by kernel_rfl)⟩;have u3:= Tryz.underlying3;have a3:= Tryz.isAgg3;have z3:= Tryz.sizeOf3;have u4:= Tryz.underlying9;have a4:= Tryz.isAgg9;have z4:= Tryz.sizeOf9;have hS: Tryz.prog.underlying 54 =some (.struct (Tryz.prog.fieldsOf 54)):=by kernel_rfl
 have hp: Tryz.prog.stoodInHeld 54 =false:=by kernel_rfl
 obtain⟨x0,x1,x2,x3,x4,x5,x6⟩:=x;obtain⟨y0,y1,y2,y3,y4,y5,y6⟩:=y;simp only[kY];rw[run_neq_struct,show(10000:Nat)=9999+1 from rfl,run_equalIn_agg w 9999 54 _ _ hS hp];simp only[Program.fieldsOf,Tryz.underlying54];go_simp;by_cases g0:x0=y0
 case neg=>
  have g0':(x0.toList==y0.toList)=false:=by rw[key_eq];simpa using g0
  have Xl:¬x0.toList=y0.toList:=by simpa using g0'
  simp[g0,Xl]
 subst g0;by_cases g1:x1=y1
 case neg=>simp[g1]
 subst g1;by_cases g2:x2=y2
 case neg=>simp[g2]
 subst g2;by_cases g3:x3=y3
 case neg=>simp[g3]
 subst g3;by_cases g4:x4=y4
 case neg=>simp[g4]
 subst g4;by_cases g5:x5=y5
 case neg=>simp[g5]
 subst g5;by_cases g6:x6=y6
 case neg=>simp[g6]
 subst g6;simp
theorem Tryz.aaN:NeqAt Tryz.prog 88 (fun x=> .agg (jL x).toArray) (fun x y=>decide (x=y)):=by
 refine⟨fun x y w=>?_,GuardAt.agg _ (by kernel_rfl)⟩;have u3:= Tryz.underlying3;have a3:= Tryz.isAgg3;have z3:= Tryz.sizeOf3;have u4:= Tryz.underlying9;have a4:= Tryz.isAgg9;have z4:= Tryz.sizeOf9;have hS: Tryz.prog.underlying 88 =some (.struct (Tryz.prog.fieldsOf 88)):=by kernel_rfl
 have hp: Tryz.prog.stoodInHeld 88 =false:=by kernel_rfl
 obtain⟨x0,x1,x2,x3,x4⟩:=x;obtain⟨y0,y1,y2,y3,y4⟩:=y;simp only[jL];rw[run_neq_struct,show(10000:Nat)=9999+1 from rfl,run_equalIn_agg w 9999 88 _ _ hS hp];simp only[Program.fieldsOf,Tryz.underlying88];go_simp;by_cases g0:x0=y0
 case neg=>
  have g0':(x0.toList==y0.toList)=false:=by rw[key_eq];simpa using g0
  have Xl:¬x0.toList=y0.toList:=by simpa using g0'
  simp[g0,Xl]
 subst g0;by_cases g1:x1=y1
 case neg=>simp[g1]
 subst g1;by_cases g2:x2=y2
 case neg=>simp[g2]
 subst g2;by_cases g3:x3=y3
 case neg=>simp[g3]
 subst g3;by_cases g4:x4=y4
 case neg=>simp[g4]
 subst g4;simp
theorem Tryz.aaO:NeqAt Tryz.prog 56 (fun x=> .agg (Xk x).toArray) (fun x y=>decide (x=y)):=by
 refine⟨fun x y w=>?_,GuardAt.agg _ (by kernel_rfl)⟩;have u3:= Tryz.underlying3;have a3:= Tryz.isAgg3;have z3:= Tryz.sizeOf3;have hS: Tryz.prog.underlying 56 =some (.struct (Tryz.prog.fieldsOf 56)):=by kernel_rfl
 have hp: Tryz.prog.stoodInHeld 56 =false:=by kernel_rfl
 obtain⟨x0,x1⟩:=x;obtain⟨y0,y1⟩:=y;simp only[Xk];rw[run_neq_struct,show(10000:Nat)=9999+1 from rfl,run_equalIn_agg w 9999 56 _ _ hS hp];simp only[Program.fieldsOf,Tryz.underlying56];go_simp;by_cases g0:x0=y0
 case neg=>simp[g0]
 subst g0;by_cases g1:x1=y1
 case neg=>simp[g1]
 subst g1;simp
theorem QI (v v':Value) (xs ys:List Ct) (w:World) (h:oN w v xs) (h':oN w v' ys):
  Calls Tryz.prog 55 #[v,v'] w fun e w'=>e= .returned (.bool (decide (xs=ys)))∧Below w.heap.size w w':=by
 obtain⟨ao,cap,rfl,dO,qM⟩:=Sl.shape h;obtain⟨kJ,cap',rfl,mY,hcm'⟩:=Sl.shape h';have hne':∀ (x y:Ct) (w:World),Sem.run Tryz.prog (binOp .neq 54 (.agg (kY x).toArray) (.agg (kY y).toArray)) w= .ok (.bool (!decide (x=y))) w:= Tryz.aaM.1;have hgd':∀ (op:BinOp) (a b:Operand) (x y:Ct) (w:World),Sem.run Tryz.prog (eqGuard op 54 a b (.agg (kY x).toArray) (.agg (kY y).toArray)) w= .ok () w:= Tryz.aaM.2;by_cases hnm:xs.length=ys.length
 ·have Fb:=ah hnm
  rw[←hnm]at h' mY⊢;clear hnm;have H':=ah h';clear h'
  go_enter Tryz.func55,Tryz.ntmps55
  go_wp2
  go_loopw[13] (fun s wr=>∃k:Nat,k≤xs.length∧s= .int .i64 k∧Hid (xs.take k=ys.take k)∧Below w.heap.size w wr) (fun s _=>xs.length-(intOf s).toNat)
  case atStart=>exact⟨0,Nat.zero_le _,rfl,ah rfl,aL _ _⟩
  case round=>
   obtain⟨k,hk,rfl,A,hb⟩:=hrel;by_cases bA:k<xs.length
   ·have hlt':k<ys.length:=by rw[←Fb.out];exact bA
    obtain⟨b,off,rfl,kZ,c0,c1,c2,c3,c4,c5,c6⟩:=dI.ct h hb (aC _) k bA;obtain⟨b',off',rfl,Ck,d0,d1,d2,d3,d4,d5,d6⟩:=dI.ct (cap:=cap') (l:=ys) (by have h9:=H'.out;rw[Fb.out]at h9;exact h9) hb (aC _) k hlt';have HT:Hid (xs[k]=ys[k]→xs.take (k+1)=ys.take (k+1)):=ah (fun e=>by rw[aS xs k bA,aS ys k hlt',A.out,e]);have HF:Hid (¬xs[k]=ys[k]→ ¬xs=ys):=ah (qG bA hlt');have mM:=ah (hne' xs[k] ys[k]);have Cg:=ah (fun op a b=>hgd' op a b xs[k] ys[k]);clear hne' hgd';generalize xs[k]=x at*;generalize ys[k]=y at*;have jK:(k:Int)<xs.length:=by omega
    obtain⟨q,hq⟩:∃q,decide (x=y)=q:=⟨_,rfl⟩;have eP:=mM.out;have oM:=Cg.out;rw[hq]at eP;have HQ:=ah hq;clear hq mM Cg;obtain⟨x0,x1,x2,x3,x4,x5,x6⟩:=x;obtain⟨y0,y1,y2,y3,y4,y5,y6⟩:=y;simp only[kY]at eP oM
    cases q with
    | true=>
     have e:=of_decide_eq_true HQ.out;have HE:=ah (HT.out e);clear e;go_wp2_with fail
     go_quiet (fail)
     go_wp2;go_roundw
     case rel=>exact⟨k+1,by omega,by go_num,ah HE.out,below_drewN hb _⟩
     case measure=>simp[intOf];omega
    | false=>
     have HE:=ah (HF.out (of_decide_eq_false HQ.out));go_wp2_with fail
     go_quiet (fail)
     go_wp2;go_ret;exact⟨aH (decide_eq_false HE.out).symm,below_drewN hb _⟩
   ·have:k=xs.length:=by omega
    subst this;have vR:=A.out;rw[List.take_length,Fb.out,List.take_length]at vR;have HL:=ah vR;clear vR;go_wp2;go_ret;exact⟨aH (decide_eq_true HL.out).symm,hb⟩
 ·have hnm':¬ (xs.length:Int)=(ys.length:Int):=by omega
  go_enter Tryz.func55,Tryz.ntmps55
  go_wp2;go_ret;exact⟨aH (decide_eq_false (fun e=>hnm (by rw[e]))).symm,aL _ _⟩
theorem QJ (v v':Value) (xs ys:List Sc) (w:World) (h:Eh w v xs) (h':Eh w v' ys):
  Calls Tryz.prog 103 #[v,v'] w fun e w'=>e= .returned (.bool (decide (xs=ys)))∧Below w.heap.size w w':=by
 obtain⟨ao,cap,rfl,dO,qM⟩:=Sl.shape h;obtain⟨kJ,cap',rfl,mY,hcm'⟩:=Sl.shape h';have hne':∀ (x y:Sc) (w:World),Sem.run Tryz.prog (binOp .neq 88 (.agg (jL x).toArray) (.agg (jL y).toArray)) w= .ok (.bool (!decide (x=y))) w:= Tryz.aaN.1;have hgd':∀ (op:BinOp) (a b:Operand) (x y:Sc) (w:World),Sem.run Tryz.prog (eqGuard op 88 a b (.agg (jL x).toArray) (.agg (jL y).toArray)) w= .ok () w:= Tryz.aaN.2;by_cases hnm:xs.length=ys.length
 ·have Fb:=ah hnm
  rw[←hnm]at h' mY⊢;clear hnm;have H':=ah h';clear h'
  go_enter Tryz.func103,Tryz.ntmps103
  go_wp2
  go_loopw[13] (fun s wr=>∃k:Nat,k≤xs.length∧s= .int .i64 k∧Hid (xs.take k=ys.take k)∧Below w.heap.size w wr) (fun s _=>xs.length-(intOf s).toNat)
  case atStart=>exact⟨0,Nat.zero_le _,rfl,ah rfl,aL _ _⟩
  case round=>
   obtain⟨k,hk,rfl,A,hb⟩:=hrel;by_cases bA:k<xs.length
   ·have hlt':k<ys.length:=by rw[←Fb.out];exact bA
    obtain⟨b,off,rfl,kZ,c0,c1,c2,c3,c4⟩:=dI.sc h hb (aC _) k bA;obtain⟨b',off',rfl,Ck,d0,d1,d2,d3,d4⟩:=dI.sc (cap:=cap') (l:=ys) (by have h9:=H'.out;rw[Fb.out]at h9;exact h9) hb (aC _) k hlt';have HT:Hid (xs[k]=ys[k]→xs.take (k+1)=ys.take (k+1)):=ah (fun e=>by rw[aS xs k bA,aS ys k hlt',A.out,e]);have HF:Hid (¬xs[k]=ys[k]→ ¬xs=ys):=ah (qG bA hlt');have mM:=ah (hne' xs[k] ys[k]);have Cg:=ah (fun op a b=>hgd' op a b xs[k] ys[k]);clear hne' hgd';generalize xs[k]=x at*;generalize ys[k]=y at*;have jK:(k:Int)<xs.length:=by omega
    obtain⟨q,hq⟩:∃q,decide (x=y)=q:=⟨_,rfl⟩;have eP:=mM.out;have oM:=Cg.out;rw[hq]at eP;have HQ:=ah hq;clear hq mM Cg;obtain⟨x0,x1,x2,x3,x4⟩:=x;obtain⟨y0,y1,y2,y3,y4⟩:=y;simp only[jL]at eP oM
    cases q with
    | true=>
     have e:=of_decide_eq_true HQ.out;have HE:=ah (HT.out e);clear e;go_wp2_with fail
     go_quiet (fail)
     go_wp2;go_roundw
     case rel=>exact⟨k+1,by omega,by go_num,ah HE.out,below_drewN hb _⟩
     case measure=>simp[intOf];omega
    | false=>
     have HE:=ah (HF.out (of_decide_eq_false HQ.out));go_wp2_with fail
     go_quiet (fail)
     go_wp2;go_ret;exact⟨aH (decide_eq_false HE.out).symm,below_drewN hb _⟩
   ·have:k=xs.length:=by omega
    subst this;have vR:=A.out;rw[List.take_length,Fb.out,List.take_length]at vR;have HL:=ah vR;clear vR;go_wp2;go_ret;exact⟨aH (decide_eq_true HL.out).symm,hb⟩
 ·have hnm':¬ (xs.length:Int)=(ys.length:Int):=by omega
  go_enter Tryz.func103,Tryz.ntmps103
  go_wp2;go_ret;exact⟨aH (decide_eq_false (fun e=>hnm (by rw[e]))).symm,aL _ _⟩
theorem Ic (v v':Value) (xs ys:List Rg) (w:World) (h:fD w v xs) (h':fD w v' ys):
  Calls Tryz.prog 56 #[v,v'] w fun e w'=>e= .returned (.bool (decide (xs=ys)))∧Below w.heap.size w w':=by
 obtain⟨ao,cap,rfl,dO,qM⟩:=Sl.shape h;obtain⟨kJ,cap',rfl,mY,hcm'⟩:=Sl.shape h';have hne':∀ (x y:Rg) (w:World),Sem.run Tryz.prog (binOp .neq 56 (.agg (Xk x).toArray) (.agg (Xk y).toArray)) w= .ok (.bool (!decide (x=y))) w:= Tryz.aaO.1;have hgd':∀ (op:BinOp) (a b:Operand) (x y:Rg) (w:World),Sem.run Tryz.prog (eqGuard op 56 a b (.agg (Xk x).toArray) (.agg (Xk y).toArray)) w= .ok () w:= Tryz.aaO.2;by_cases hnm:xs.length=ys.length
 ·have Fb:=ah hnm
  rw[←hnm]at h' mY⊢;clear hnm;have H':=ah h';clear h'
  go_enter Tryz.func56,Tryz.ntmps56
  go_wp2
  go_loopw[13] (fun s wr=>∃k:Nat,k≤xs.length∧s= .int .i64 k∧Hid (xs.take k=ys.take k)∧Below w.heap.size w wr) (fun s _=>xs.length-(intOf s).toNat)
  case atStart=>exact⟨0,Nat.zero_le _,rfl,ah rfl,aL _ _⟩
  case round=>
   obtain⟨k,hk,rfl,A,hb⟩:=hrel;by_cases bA:k<xs.length
   ·have hlt':k<ys.length:=by rw[←Fb.out];exact bA
    obtain⟨b,off,rfl,kZ,c0,c1⟩:=fD.pair h hb (aC _) k bA;obtain⟨b',off',rfl,Ck,d0,d1⟩:=fD.pair (cap:=cap') (l:=ys) (by have h9:=H'.out;rw[Fb.out]at h9;exact h9) hb (aC _) k hlt';have HT:Hid (xs[k]=ys[k]→xs.take (k+1)=ys.take (k+1)):=ah (fun e=>by rw[aS xs k bA,aS ys k hlt',A.out,e]);have HF:Hid (¬xs[k]=ys[k]→ ¬xs=ys):=ah (qG bA hlt');have mM:=ah (hne' xs[k] ys[k]);have Cg:=ah (fun op a b=>hgd' op a b xs[k] ys[k]);clear hne' hgd';generalize xs[k]=x at*;generalize ys[k]=y at*;have jK:(k:Int)<xs.length:=by omega
    obtain⟨q,hq⟩:∃q,decide (x=y)=q:=⟨_,rfl⟩;have eP:=mM.out;have oM:=Cg.out;rw[hq]at eP;have HQ:=ah hq;clear hq mM Cg;obtain⟨x0,x1⟩:=x;obtain⟨y0,y1⟩:=y;simp only[Xk]at eP oM
    cases q with
    | true=>
     have e:=of_decide_eq_true HQ.out;have HE:=ah (HT.out e);clear e;go_wp2_with fail
     go_quiet (fail)
     go_wp2;go_roundw
     case rel=>exact⟨k+1,by omega,by go_num,ah HE.out,below_drewN hb _⟩
     case measure=>simp[intOf];omega
    | false=>
     have HE:=ah (HF.out (of_decide_eq_false HQ.out));go_wp2_with fail
     go_quiet (fail)
     go_wp2;go_ret;exact⟨aH (decide_eq_false HE.out).symm,below_drewN hb _⟩
   ·have:k=xs.length:=by omega
    subst this;have vR:=A.out;rw[List.take_length,Fb.out,List.take_length]at vR;have HL:=ah vR;clear vR;go_wp2;go_ret;exact⟨aH (decide_eq_true HL.out).symm,hb⟩
 ·have hnm':¬ (xs.length:Int)=(ys.length:Int):=by omega
  go_enter Tryz.func56,Tryz.ntmps56
  go_wp2;go_ret;exact⟨aH (decide_eq_false (fun e=>hnm (by rw[e]))).symm,aL _ _⟩
theorem Ie (v v':Value) (xs ys:List Int) (w:World) (h:jv w v xs) (h':jv w v' ys):
  Calls Tryz.prog 59 #[v,v'] w fun e w'=>e= .returned (.bool (decide (xs=ys)))∧Below w.heap.size w w':=by
 obtain⟨ao,cap,rfl,dO,qM⟩:=Sl.shape h;obtain⟨kJ,cap',rfl,mY,hcm'⟩:=Sl.shape h';by_cases hnm:xs.length=ys.length
 ·have Fb:=ah hnm
  rw[←hnm]at h' mY⊢;clear hnm;have H':=ah h';clear h'
  go_enter Tryz.func59,Tryz.ntmps59
  go_wp2
  go_loopw[13] (fun s wr=>∃k:Nat,k≤xs.length∧s= .int .i64 k∧Hid (xs.take k=ys.take k)∧Below w.heap.size w wr) (fun s _=>xs.length-(intOf s).toNat)
  case atStart=>exact⟨0,Nat.zero_le _,rfl,ah rfl,aL _ _⟩
  case round=>
   obtain⟨k,hk,rfl,A,hb⟩:=hrel;by_cases bA:k<xs.length
   ·have hlt':k<ys.length:=by rw[←Fb.out];exact bA
    obtain⟨b,off,rfl,kZ,hc⟩:=jv.cell h hb (aC _) k bA;obtain⟨b',off',rfl,Ck,hc'⟩:=jv.cell (cap:=cap') (ns:=ys) (by have h9:=H'.out;rw[Fb.out]at h9;exact h9) hb (aC _) k hlt';have HT:Hid (xs[k]=ys[k]→xs.take (k+1)=ys.take (k+1)):=ah (fun e=>by rw[aS xs k bA,aS ys k hlt',A.out,e]);have HF:Hid (¬xs[k]=ys[k]→ ¬xs=ys):=ah (qG bA hlt');generalize xs[k]=x at*;generalize ys[k]=y at*;have jK:(k:Int)<xs.length:=by omega
    by_cases e:x=y
    ·subst e
     go_wp2_with fail
     go_quiet (fail)
     go_wp2;go_roundw
     case rel=>exact⟨k+1,by omega,by go_num,ah (HT.out (by first | rfl | trivial)),below_drewN hb _⟩
     case measure=>simp[intOf];omega
    ·have e1:(x==y)=false:=by simpa using e
     have e2:(x != y)=true:=by simpa using e
     go_wp2_with fail
     go_quiet (fail)
     go_wp2;go_ret;exact⟨aH (decide_eq_false (HF.out e)).symm,below_drewN hb _⟩
   ·have:k=xs.length:=by omega
    subst this;have vR:=A.out;rw[List.take_length,Fb.out,List.take_length]at vR;have HL:=ah vR;clear vR;go_wp2;go_ret;exact⟨aH (decide_eq_true HL.out).symm,hb⟩
 ·have hnm':¬ (xs.length:Int)=(ys.length:Int):=by omega
  go_enter Tryz.func59,Tryz.ntmps59
  go_wp2;go_ret;exact⟨aH (decide_eq_false (fun e=>hnm (by rw[e]))).symm,aL _ _⟩
end Go.Proofs.YtlfopoimbbpfdaaGreat
