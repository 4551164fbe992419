/- What the law asks, in parts: Ad. -/
import Derived.Deep.DrawnRows
import Derived.Test.YtlfopoimbbpfdaaGreatPk27
import Derived.Test.YtlfopoimbbpfdaaGreatPk20
import Derived.Test.YtlfopoimbbpfdaaGreatPk28
set_option linter.all false
set_option maxRecDepth 100000
set_option maxHeartbeats 16000000
namespace Go.Proofs.YtlfopoimbbpfdaaGreat
open Go.RowKit
section
attribute [local go_sem ↓] Go.wp_at_zero Go.wp_at_succ
theorem Tryz.QK:(Tryz.prog.info? 35).map (fun i=>(i.zero,i.size,i.bytes))=some (some (.agg #[.int .i64 0,.int .i64 0,.int .i64 0]),3,24):=by kernel_rfl
theorem yG {w:World} {ops:Array Oper} {rest:List Oper} {o:Oper} {a:Act} {Q:Exit→Act→World→Prop} (oM:o.guard=none) (s x:Operand)
  (ho:o.op= .call { callee:=.builtin .append,args:= #[s,x],argTypes:= #[36,36] })
  (base:Nat) (v:Value) (n:Nat) (l:List Dt) (hs:a.eval s=v) (dD:w.ownsRow base 35 3 v n (aJ CU l))
  (ao:Option Addr) (m c:Nat) (p:List Dt) (hx:a.eval x= .slice ao m c) (hm:p.length=m) (fZ:Rd w ao (aJ CU p))
  (hn:n+m<1000000000) (gM:base≤w.heap.size)
  (h:∀v' w',w'.ownsRow base 35 3 v' (n+m) (aJ CU (l++p))→w.grownBy w' v.ownBlock→(v'.ownBlock=v.ownBlock∨v'.ownBlock=some w.heap.size)→wpList Tryz.prog ops Q rest (a.put o.dst v') w'):wpList Tryz.prog ops Q (o::rest) a w:=by
 obtain⟨i,hi,kK,dX,f_⟩:=info_parts Tryz.QK;refine dL oM s x 36 ho base 35 i _ 3 24 Tryz.underlying36 hi kK dX f_ rfl (by decide) v n _ hs dD ao m c (aJ CU p) hx (by rw[bP Ad,hm]) fZ (gu TQ p) (by unfold maxLen;omega) (by omega) gM ?_;intro v' w' h1 h2 h3;exact h v' w' (by rw[fE];exact h1) h2 h3
theorem Tryz.aeW (a b:Dt):∃q:Bool,∀w:World,(binOp .eql 35 (.agg #[.int .i64 a.dev,.int .i64 a.epoch,.int .i64 a.seq]) (.agg #[.int .i64 b.dev,.int .i64 b.epoch,.int .i64 b.seq])).run Tryz.prog w= .ok (.bool q) w:=by
 have u3:= Tryz.underlying3;have a3:= Tryz.isAgg3;have z3:= Tryz.sizeOf3;have hS: Tryz.prog.underlying 35 =some (.struct (Tryz.prog.fieldsOf 35)):=by kernel_rfl
 have hp: Tryz.prog.stoodInHeld 35 =false:=by kernel_rfl
 obtain⟨x0,x1,x2⟩:=a;obtain⟨y0,y1,y2⟩:=b;refine⟨decide (x0=y0∧x1=y1∧x2=y2),fun w=>?_⟩;simp only;rw[run_eql_struct,show(10000:Nat)=9999+1 from rfl,run_equalIn_agg w 9999 35 _ _ hS hp];simp only[Program.fieldsOf,Tryz.underlying35];go_simp;by_cases g0:x0=y0
 case neg=>simp[g0]
 subst g0;by_cases g1:x1=y1
 case neg=>simp[g1]
 subst g1;by_cases g2:x2=y2
 case neg=>simp[g2]
 subst g2;simp
theorem Tryz.aeX (op:BinOp) (x y:Operand) (a b:Dt) (w:World):(eqGuard op 35 x y (.agg #[.int .i64 a.dev,.int .i64 a.epoch,.int .i64 a.seq]) (.agg #[.int .i64 b.dev,.int .i64 b.epoch,.int .i64 b.seq])).run Tryz.prog w= .ok () w:=run_eqGuard_agg w op _ x y _ _ (by kernel_rfl)
theorem Fe (l:List Dt) (k:Nat):(aJ CU l).take (k*3)=aJ CU (l.take k):=by
 induction l generalizing k with
 | nil=>simp[aJ]
 | cons x l ih=>
  cases k with
  | zero=>simp[aJ]
  | succ k=>
   have e:(k+1)*3=k*3+3:=by omega
   rw[List.take_succ_cons,aY,aY,←ih k,e];simp[CU]
theorem Fg (l:List Dt) (k:Nat):(aJ CU l).drop (k*3)=aJ CU (l.drop k):=by
 induction l generalizing k with
 | nil=>simp[aJ]
 | cons x l ih=>
  cases k with
  | zero=>simp
  | succ k=>
   have e:(k+1)*3=k*3+3:=by omega
   rw[List.drop_succ_cons,aY,←ih k,e];simp[CU]
theorem lV {w:World} {b:Nat} {a0 a1 a2:Value} {t:TypeId} (h:w.heap[b]? =some (.cells #[a0,a1,a2] t (0,0))):
  w.cell? ⟨b,0,none⟩=some a0∧w.cell? ⟨b,1,none⟩=some a1∧w.cell? ⟨b,2,none⟩=some a2∧ ∀k,w.frozen? ⟨b,k,none⟩=false:=by
 simp[World.cell?,World.frozen?,h]
theorem TR (V:World) (p:Nat) (x:Dt) (T:TypeId) (h:V.heap[p]? =some (.cells #[.int .i64 x.dev,.int .i64 x.epoch,.int .i64 x.seq] T (0,0))):Rd V (some ⟨p,0,none⟩) (aJ CU [x]):=by
 intro j u hj;refine⟨⟨p,0,none⟩,rfl,?_⟩
 have e:(⟨p,0,none⟩:Addr).add j=⟨p,j,none⟩:=by
  cases j with
  | zero=>rfl
  | succ j=>simp[Addr.add]
 rw[e];simp only[World.cell?,h];simpa[aJ,CU]using hj
theorem NV (w W:World) (o0 o:uq) (ds:List Dt) (h:Gd w W o) (hd:J4 w o.dots.v ds) (hk:o.kind=nD o0) (hy:o.key=CV o0) (hn:o.n=o0.n) {u0 u3 u4 u5 u6 u7 u8 u9 u10 u11 u12 u13 u14 u15 u16 u17 u18 u19 u20 u21 u22 u23 u24 u25 u26 u27 u28 u29 u30 u31 u32 u33 u34 u35 u36 u37 u38 u39 u40 u41 u42 u43 u44 u45 u46 u47 u48 u49 u50 u51 u52 u53 u54 u55 u56 u57 u58 u59 u60 u61 u62 u63 u64 u65 u66 u67 u68 u69 u70 u71 u72 u73 u74 u75 u76 u77 u78 u79 u80 u81 u82 u83 u84 u85 u86 u87 u88 u89 u90 u91 u92 u93 u94 u95 u96 u97 u98 u99 u100 u101 u102 u103 u104 u105 u106 u107 u108 u109 u110 u111 u112 u113 u114 u115 u116 u117 u118 u119 u120 u121 u122 u123 u124 u125 u126 u127 u128 u129 u130 u131 u132 u133 u134 u135 u136 u137 u138 u139 u140 u141 u142 u143 u144 u145 u146 u147 u148 u149 u150 u151 u152 u153 u154 u155 u156 u157 u158 u159:Value}:
  ∀c,Tryz.f24.body.bind (spine 4)=some c→Code.wp Tryz.prog c (bodyPost Tryz.prog Tryz.f24 (D5 w o0)) ⟨#[u0,.pointer (some ⟨w.heap.size,0,none⟩),.pointer (some ⟨w.heap.size+1,0,none⟩),u3,u4,u5,u6,u7,u8,u9,u10,u11,u12,u13,u14,u15,u16,u17,u18,u19,u20,u21,u22,u23,u24,u25,u26,u27,u28,u29,u30,u31,u32,u33,u34,u35,u36,u37,u38,u39,u40,u41,u42,u43,u44,u45,u46,u47,u48,u49,u50,u51,u52,u53,u54,u55,u56,u57,u58,u59,u60,u61,u62,u63,u64,u65,u66,u67,u68,u69,u70,u71,u72,u73,u74,u75,u76,u77,u78,u79,u80,u81,u82,u83,u84,u85,u86,u87,u88,u89,u90,u91,u92,u93,u94,u95,u96,u97,u98,u99,u100,u101,u102,u103,u104,u105,u106,u107,u108,u109,u110,u111,u112,u113,u114,u115,u116,u117,u118,u119,u120,u121,u122,u123,u124,u125,u126,u127,u128,u129,u130,u131,u132,u133,u134,u135,u136,u137,u138,u139,u140,u141,u142,u143,u144,u145,u146,u147,u148,u149,u150,u151,u152,u153,u154,u155,u156,u157,u158,u159],[]⟩ W:=by
 refine dP rfl ?_;obtain⟨o1,o2,o3,o4,o5,kd,ky,tx,on,tm,⟨oa,dn,oc⟩⟩:=o;simp only at hk hy hn hd;obtain⟨q3,g3,g4⟩:=Sl.lens (s:=⟨oa,dn,oc⟩) hd;simp only at q3 g3 g4;subst q3;have HG:=ah h;have HD:=ah hd;have HP:=ah (And.intro hk (And.intro hy hn));clear h hd hk hy hn;go_upto_block 0 with fail
 go_cut[3] (fun v3 wx=>∃ls:List Dt,Gd w wx ⟨o1,o2,o3,o4,o5,kd,ky,tx,on,tm,⟨oa,ds.length,oc⟩⟩∧wx.ownsRow w.heap.size 35 3 v3 ls.length (aJ CU ls))
 case rest=>
  obtain⟨ls,hg,qo⟩:=hcut;obtain⟨sa,sc,rfl,_,_⟩:=aO qo;have rA:=ah hg;obtain⟨_,_,_,_,_,_,_,_,_,_,xq,hf⟩:=cO hg.k1;simp only[Sv.v]at xq;have f10:=hf 10;clear hg qo hf;go_upto_region 16 with fail
  go_cut[] (fun wx=>Gd w wx ⟨o1,o2,o3,o4,o5,kd,ky,tx,on,tm,⟨sa,ls.length,sc⟩⟩)
  case first=>
   go_wp2;go_meet;exact QG rA.out ⟨sa,ls.length,sc⟩
  case rest=>
  go_step;exact NU w _ o0 _ hcut HP.out.1 HP.out.2.1 HP.out.2.2 _ rfl
 case first=>
 go_wp2
 go_loopw[3,4] (fun v3 v4 wr=>∃ (i:Nat) (ls:List Dt),i≤ds.length∧i≤8∧v4= .int .i64 i∧ls.length≤i∧Gd w wr ⟨o1,o2,o3,o4,o5,kd,ky,tx,on,tm,⟨oa,ds.length,oc⟩⟩∧wr.ownsRow w.heap.size 35 3 v3 ls.length (aJ CU ls)) (fun _ v4 _=>ds.length-(intOf v4).toNat)
 case atStart=>exact⟨0,[],Nat.zero_le _,by omega,rfl,aC _,HG.out,World.ownsRow_nil _ _ _ _⟩
 case round=>
  obtain⟨i,ls,hi,hi8,rfl,hll,hg,qo⟩:=hrel;obtain⟨sa,sc,rfl,CJ,_⟩:=aO qo;have mU:=ah hg;have EF:=ah qo;obtain⟨c0,c1,c2,c3,c4,c5,c6,c7,c8,c9,xq,-⟩:=cO hg.k1;simp only[Sv.v]at xq;clear hg qo;have i0:(0:Int)≤(i:Int):=by omega
  by_cases EK:i<ds.length∧i<8∧kd=3
  ·obtain⟨nJ,ajx,rfl⟩:=EK
   have Lg:(i:Int)<ds.length:=by omega
   have ajy:(i:Int)<8:=by omega
   obtain⟨db,do_,rfl,hdb,e0,e1,e2⟩:=dI.dt HD.out mU.out.bC (aC _) i nJ;have Xm:db<wr.heap.size:=Nat.lt_of_lt_of_le hdb mU.out.bC.size;generalize ds[i].dev=dd at*;generalize ds[i].epoch=de at*;generalize ds[i].seq=dq at*;go_upto_region 8 with fail
   refine aW 25 (fun w'=>Below wr.heap.size wr w') (by kernel_rfl) ?_;have aQ:Below wr.heap.size wr wr.drew:=(aL _ _).drew;refine aV (i:=0) (v:=.pointer (some ⟨w.heap.size,10,none⟩)) rfl (by kernel_rfl) (fun _ _ _ h=>h) (.inl ⟨rfl,fun w' _=>?_⟩) aQ ?_
   ·go_simp
   refine aP (i:=1) (v:=.slice (some ⟨db,do_,none⟩) ds.length oc) rfl rfl (by kernel_rfl) (fun _ _ _ h=>h) (.inl ⟨rfl,fun w' hw=>?_⟩) aQ ?_
   ·obtain⟨_,_,_,_,_,_,_,_,_,_,NT,-⟩:=cO (mU.out.keep hw).k1
    simp only[Sv.v]at NT;go_simp
   refine aV (i:=2) (v:=.int .i64 i) rfl (by kernel_rfl) (fun _ _ _ h=>h) (.inl ⟨rfl,fun w' _=>?_⟩) aQ ?_
   ·go_simp
   refine aV (i:=3) (v:=.pointer (some ⟨db,do_+i*3,none⟩)) rfl (by kernel_rfl) (fun _ _ _ h=>h) (.inl ⟨rfl,fun w' _=>?_⟩) aQ ?_
   ·go_simp
   refine aV (i:=4) (v:=.pointer (some ⟨db,do_+i*3,none⟩)) rfl (by kernel_rfl) (fun _ _ _ h=>h) (.inl ⟨rfl,fun w' _=>?_⟩) aQ ?_
   ·go_simp
   refine aP (i:=5) (v:=.int .i64 dd) rfl rfl (by kernel_rfl) (fun _ _ _ h=>h) (.inl ⟨rfl,fun w' hw=>?_⟩) aQ ?_
   ·have a7:w'.cell? ⟨db,do_+i*3,none⟩=some (.int .i64 dd):=by rw[hw.cell (p:=⟨db,do_+i*3,none⟩) Xm];exact e0
    go_simp
   refine fq (i:=6) (v:=.int .i64 (dd%6)) rfl (by kernel_rfl) (by kernel_rfl) (by kernel_rfl) (by decide) (fun _ _ _ h=>h) ⟨rfl,67,#[.int .i64 dd,.int .i64 6],fun w' _=>?_,fun w' _=>jh _ _ _ (by omega) (by omega)⟩ aQ ?_
   ·go_simp
   refine aV (i:=7) (v:=.pointer (some ⟨w.heap.size,10,none⟩)) rfl (by kernel_rfl) (fun _ _ _ h=>h) (.inl ⟨rfl,fun w' _=>?_⟩) aQ ?_
   ·go_simp
   refine aP (i:=8) (v:=.slice (some ⟨db,do_,none⟩) ds.length oc) rfl rfl (by kernel_rfl) (fun _ _ _ h=>h) (.inl ⟨rfl,fun w' hw=>?_⟩) aQ ?_
   ·obtain⟨_,_,_,_,_,_,_,_,_,_,NT,-⟩:=cO (mU.out.keep hw).k1
    simp only[Sv.v]at NT;go_simp
   refine aV (i:=9) (v:=.int .i64 i) rfl (by kernel_rfl) (fun _ _ _ h=>h) (.inl ⟨rfl,fun w' _=>?_⟩) aQ ?_
   ·go_simp
   refine aV (i:=10) (v:=.pointer (some ⟨db,do_+i*3,none⟩)) rfl (by kernel_rfl) (fun _ _ _ h=>h) (.inl ⟨rfl,fun w' _=>?_⟩) aQ ?_
   ·go_simp
   refine aV (i:=11) (v:=.pointer (some ⟨db,do_+i*3+1,none⟩)) rfl (by kernel_rfl) (fun _ _ _ h=>h) (.inl ⟨rfl,fun w' _=>?_⟩) aQ ?_
   ·go_simp
   refine aP (i:=12) (v:=.int .i64 de) rfl rfl (by kernel_rfl) (fun _ _ _ h=>h) (.inl ⟨rfl,fun w' hw=>?_⟩) aQ ?_
   ·have a7:w'.cell? ⟨db,do_+i*3+1,none⟩=some (.int .i64 de):=by rw[hw.cell (p:=⟨db,do_+i*3+1,none⟩) Xm];exact e1
    go_simp
   refine fq (i:=13) (v:=.int .i64 (de%3)) rfl (by kernel_rfl) (by kernel_rfl) (by kernel_rfl) (by decide) (fun _ _ _ h=>h) ⟨rfl,67,#[.int .i64 de,.int .i64 3],fun w' _=>?_,fun w' _=>jh _ _ _ (by omega) (by omega)⟩ aQ ?_
   ·go_simp
   have j7:IntKind.i64.wrap (1+de%3)=1+de%3:=IntWalk.i64_in _ (by have h1:=Int.emod_nonneg de (show (3:Int)≠0 by omega);have h2:=Int.emod_lt_of_pos de (show (0:Int)<3 by omega);omega);refine aV (i:=14) (v:=.int .i64 (1+de%3)) rfl (by kernel_rfl) (fun _ _ _ h=>h) (.inl ⟨rfl,fun w' _=>?_⟩) aQ ?_
   ·go_simp
   refine aV (i:=15) (v:=.pointer (some ⟨w.heap.size,10,none⟩)) rfl (by kernel_rfl) (fun _ _ _ h=>h) (.inl ⟨rfl,fun w' _=>?_⟩) aQ ?_
   ·go_simp
   refine aP (i:=16) (v:=.slice (some ⟨db,do_,none⟩) ds.length oc) rfl rfl (by kernel_rfl) (fun _ _ _ h=>h) (.inl ⟨rfl,fun w' hw=>?_⟩) aQ ?_
   ·obtain⟨_,_,_,_,_,_,_,_,_,_,NT,-⟩:=cO (mU.out.keep hw).k1
    simp only[Sv.v]at NT;go_simp
   refine aV (i:=17) (v:=.int .i64 i) rfl (by kernel_rfl) (fun _ _ _ h=>h) (.inl ⟨rfl,fun w' _=>?_⟩) aQ ?_
   ·go_simp
   refine aV (i:=18) (v:=.pointer (some ⟨db,do_+i*3,none⟩)) rfl (by kernel_rfl) (fun _ _ _ h=>h) (.inl ⟨rfl,fun w' _=>?_⟩) aQ ?_
   ·go_simp
   refine aV (i:=19) (v:=.pointer (some ⟨db,do_+i*3+2,none⟩)) rfl (by kernel_rfl) (fun _ _ _ h=>h) (.inl ⟨rfl,fun w' _=>?_⟩) aQ ?_
   ·go_simp
   refine aP (i:=20) (v:=.int .i64 dq) rfl rfl (by kernel_rfl) (fun _ _ _ h=>h) (.inl ⟨rfl,fun w' hw=>?_⟩) aQ ?_
   ·have a7:w'.cell? ⟨db,do_+i*3+2,none⟩=some (.int .i64 dq):=by rw[hw.cell (p:=⟨db,do_+i*3+2,none⟩) Xm];exact e2
    go_simp
   refine fq (i:=21) (v:=.int .i64 (dq%12)) rfl (by kernel_rfl) (by kernel_rfl) (by kernel_rfl) (by decide) (fun _ _ _ h=>h) ⟨rfl,67,#[.int .i64 dq,.int .i64 12],fun w' _=>?_,fun w' _=>jh _ _ _ (by omega) (by omega)⟩ aQ ?_
   ·go_simp
   have j15:IntKind.i64.wrap (1+dq%12)=1+dq%12:=IntWalk.i64_in _ (by have h1:=Int.emod_nonneg dq (show (12:Int)≠0 by omega);have h2:=Int.emod_lt_of_pos dq (show (0:Int)<12 by omega);omega);refine aV (i:=22) (v:=.int .i64 (1+dq%12)) rfl (by kernel_rfl) (fun _ _ _ h=>h) (.inl ⟨rfl,fun w' _=>?_⟩) aQ ?_
   ·go_simp
   refine aV (i:=23) (v:=.agg #[.int .i64 (dd%6),.int .i64 (1+de%3),.int .i64 (1+dq%12)]) rfl (by kernel_rfl) (fun _ _ _ h=>h) (.inl ⟨rfl,fun w' _=>?_⟩) aQ ?_
   ·go_simp
   have hq:=heap_alloc_new wr.drew (.cells #[.int .i64 0,.int .i64 0,.int .i64 0] 35);have Xn:=aQ.alloc aQ.size (.cells #[.int .i64 0,.int .i64 0,.int .i64 0] 35);have YQ:wr.heap.size≤wr.drew.heap.size:=aQ.size;generalize wr.drew=Wd at*;refine aD (i:=24) (by kernel_rfl) rfl rfl ?_;go_simp;first | refine⟨Xn,?_⟩ | skip
   generalize Wd.alloc (.cells #[.int .i64 0,.int .i64 0,.int .i64 0] 35)=V1 at*;generalize Wd.heap.size=p5 at*;obtain⟨z0,z1,z2,zf⟩:=lV hq;have f0:=zf 0;have f1:=zf 1;have f2:=zf 2;have KV:Hid ((((V1.setCell ⟨p5,0,none⟩ (.int .i64 (dd%6))).setCell ⟨p5,1,none⟩ (.int .i64 (1+de%3))).setCell ⟨p5,2,none⟩ (.int .i64 (1+dq%12))).heap[p5]? =some (.cells #[.int .i64 (dd%6),.int .i64 (1+de%3),.int .i64 (1+dq%12)] 35 (0,0))):=ah (by simp[World.setCell,Array.getElem?_modify,hq]);have aaP:Below wr.heap.size wr (((V1.setCell ⟨p5,0,none⟩ (.int .i64 (dd%6))).setCell ⟨p5,1,none⟩ (.int .i64 (1+de%3))).setCell ⟨p5,2,none⟩ (.int .i64 (1+dq%12))):=((Xn.setCell YQ _).setCell YQ _).setCell YQ _;have Xo:=ah aaP;refine aD (i:=25) (by kernel_rfl) rfl rfl ?_;go_simp;generalize (((V1.setCell ⟨p5,0,none⟩ (.int .i64 (dd%6))).setCell ⟨p5,1,none⟩ (.int .i64 (1+de%3))).setCell ⟨p5,2,none⟩ (.int .i64 (1+dq%12)))=V2 at*;refine aU (by kernel_rfl) ?_;clear z0 z1 z2 zf f0 f1 f2 hq Xn aaP aQ e0 e1 e2 j7 j15 c0 c1 c2 c3 c4 c5 c6 c7 c8 c9 xq;have yU:=ah (mU.out.keep Xo.out);have Sd:=ah (aI EF.out Xo.out (aC _));have TS:=(bq KV.out).1;have hpw:w.heap.size≤p5:=Nat.le_trans mU.out.bC.size YQ;clear mU EF Xo;generalize dd%6=td at*;generalize 1+de%3=te at*;generalize 1+dq%12=tq at*;go_upto_block 2 with fail
   go_cut[6] (fun v6 wx=>∃k:Nat,k≤ls.length∧v6= .int .i64 k∧Below V2.heap.size V2 wx)
   case first=>
    go_wp2
    go_loopw[6] (fun v6 wx=>∃k:Nat,k≤ls.length∧v6= .int .i64 k∧Below V2.heap.size V2 wx) (fun v6 _=>ls.length-(intOf v6).toNat)
    case atStart=>exact⟨0,Nat.zero_le _,rfl,aL _ _⟩
    case round=>
     obtain⟨k,hk,rfl,LP⟩:=hrel;have k0:(0:Int)≤(k:Int):=by omega
     have UU:=ah LP;obtain⟨z0,z1,z2,-⟩:=lV (aj KV.out LP TS);by_cases K7:k<ls.length
     ·have jK:(k:Int)<ls.length:=by omega
      obtain⟨rb,ro,rfl,tO,r0,r1,r2⟩:=dI.dt (aG Sd.out) LP (aC _) k K7;have Cq:rb<wr.heap.size:=Nat.lt_of_lt_of_le tO LP.size;clear LP;generalize ls[k].dev=UZ at*;generalize ls[k].epoch=ke at*;generalize ls[k].seq=kq at*;go_upto_region 10 with fail
      refine aW 10 (fun w'=>Below wr.heap.size wr w') (by kernel_rfl) ?_;have aQ:Below wr.heap.size wr wr.drew:=(aL _ _).drew;refine aV (i:=0) (v:=.int .i64 k) rfl (by kernel_rfl) (fun _ _ _ h=>h) (.inl ⟨rfl,fun w' _=>?_⟩) aQ ?_
      ·go_simp
      refine aV (i:=1) (v:=.slice (some ⟨rb,ro,none⟩) ls.length sc) rfl (by kernel_rfl) (fun _ _ _ h=>h) (.inl ⟨rfl,fun w' _=>?_⟩) aQ ?_
      ·go_simp
      refine aV (i:=2) (v:=.int .i64 ls.length) rfl (by kernel_rfl) (fun _ _ _ h=>h) (.inl ⟨rfl,fun w' _=>?_⟩) aQ ?_
      ·go_simp
      refine aV (i:=3) (v:=.bool true) rfl (by kernel_rfl) (fun _ _ _ h=>h) (.inl ⟨rfl,fun w' _=>?_⟩) aQ ?_
      ·go_simp
      refine aV (i:=4) (v:=.bool true) rfl (by kernel_rfl) (fun _ _ _ h=>h) (.inl ⟨rfl,fun w' _=>?_⟩) aQ ?_
      ·go_simp
      refine aV (i:=5) (v:=.slice (some ⟨rb,ro,none⟩) ls.length sc) rfl (by kernel_rfl) (fun _ _ _ h=>h) (.inl ⟨by go_simp,fun w' _=>?_⟩) aQ ?_
      ·go_simp
      refine aV (i:=6) (v:=.int .i64 k) rfl (by kernel_rfl) (fun _ _ _ h=>h) (.inl ⟨by go_simp,fun w' _=>?_⟩) aQ ?_
      ·go_simp
      refine aV (i:=7) (v:=.pointer (some ⟨rb,ro+k*3,none⟩)) rfl (by kernel_rfl) (fun _ _ _ h=>h) (.inl ⟨by go_simp,fun w' _=>?_⟩) aQ ?_
      ·go_simp
      refine aP (i:=8) (v:=.agg #[.int .i64 UZ,.int .i64 ke,.int .i64 kq]) rfl rfl (by kernel_rfl) (fun _ _ _ h=>h) (.inl ⟨by go_simp,fun w' hw=>?_⟩) aQ ?_
      ·have a7:w'.cell? ⟨rb,ro+k*3,none⟩=some (.int .i64 UZ):=by rw[hw.cell (p:=⟨rb,ro+k*3,none⟩) Cq];exact r0
       have a8:w'.cell? ⟨rb,ro+k*3+1,none⟩=some (.int .i64 ke):=by rw[hw.cell (p:=⟨rb,ro+k*3+1,none⟩) Cq];exact r1
       have a9:w'.cell? ⟨rb,ro+k*3+2,none⟩=some (.int .i64 kq):=by rw[hw.cell (p:=⟨rb,ro+k*3+2,none⟩) Cq];exact r2
       go_simp
      refine aP (i:=9) (v:=.agg #[.int .i64 td,.int .i64 te,.int .i64 tq]) rfl rfl (by kernel_rfl) (fun _ _ _ h=>h) (.inl ⟨by go_simp,fun w' hw=>?_⟩) aQ ?_
      ·obtain⟨b0,b1,b2,-⟩:=lV (aj KV.out (UU.out.trans (hw.mono UU.out.size)) TS)
       go_simp
      refine n_ (i:=10) (by kernel_rfl) rfl (by go_simp) ?_;go_simp;refine(NS ⟨UZ,ke,kq⟩ ⟨td,te,tq⟩ wr.drew).mono ?_;rintro e w9 ⟨q,rfl,jW⟩;first | refine⟨fun h=>absurd h (by decide),?_⟩ | skip
      have aaQ:Below wr.heap.size wr w9:=(aL wr.heap.size wr).drew.trans jW;refine aD (i:=11) (by kernel_rfl) rfl rfl ?_;go_simp;refine aU (by kernel_rfl) ?_;have JD:=ah (UU.out.trans (aaQ.mono UU.out.size));clear jW aaQ aQ z0 z1 z2 r0 r1 r2
      cases q with
      | true=>
       go_wp2;go_roundw
       case rel=>exact⟨k+1,by omega,by go_num,JD.out⟩
       case measure=>simp[intOf];omega
      | false=>
       go_wp2;go_meet;exact⟨k,by omega,rfl,JD.out⟩
     ·have jK:¬ (k:Int)<ls.length:=by omega
      go_upto_region 10 with fail
      refine aW 11 (fun w'=>Below wr.heap.size wr w') (by kernel_rfl) ?_;have aQ:Below wr.heap.size wr wr.drew:=(aL _ _).drew;refine aV (i:=0) (v:=.int .i64 k) rfl (by kernel_rfl) (fun _ _ _ h=>h) (.inl ⟨rfl,fun w' _=>?_⟩) aQ ?_
      ·go_simp
      refine aV (i:=1) (v:=.slice sa ls.length sc) rfl (by kernel_rfl) (fun _ _ _ h=>h) (.inl ⟨rfl,fun w' _=>?_⟩) aQ ?_
      ·go_simp
      refine aV (i:=2) (v:=.int .i64 ls.length) rfl (by kernel_rfl) (fun _ _ _ h=>h) (.inl ⟨rfl,fun w' _=>?_⟩) aQ ?_
      ·go_simp
      refine aV (i:=3) (v:=.bool false) rfl (by kernel_rfl) (fun _ _ _ h=>h) (.inl ⟨rfl,fun w' _=>?_⟩) aQ ?_
      ·go_simp
      refine aV (i:=4) (v:=.bool false) rfl (by kernel_rfl) (fun _ _ _ h=>h) (.inl ⟨rfl,fun w' _=>?_⟩) aQ ?_
      ·go_simp
      refine aV (i:=5) (v:=undef) rfl (by kernel_rfl) (fun _ _ _ h=>h) (.inr ⟨by go_simp,rfl⟩) aQ ?_;refine aV (i:=6) (v:=undef) rfl (by kernel_rfl) (fun _ _ _ h=>h) (.inr ⟨by go_simp,rfl⟩) aQ ?_;refine aV (i:=7) (v:=undef) rfl (by kernel_rfl) (fun _ _ _ h=>h) (.inr ⟨by go_simp,rfl⟩) aQ ?_;refine aV (i:=8) (v:=undef) rfl (by kernel_rfl) (fun _ _ _ h=>h) (.inr ⟨by go_simp,rfl⟩) aQ ?_;refine aV (i:=9) (v:=undef) rfl (by kernel_rfl) (fun _ _ _ h=>h) (.inr ⟨by go_simp,rfl⟩) aQ ?_;refine aV (i:=10) (v:=undef) rfl (by kernel_rfl) (fun _ _ _ h=>h) (.inr ⟨by go_simp,rfl⟩) aQ ?_;refine aD (i:=11) (by kernel_rfl) rfl rfl ?_;go_simp;refine aU (by kernel_rfl) ?_;have JD:=ah (UU.out.trans (aQ.mono UU.out.size));clear aQ z0 z1 z2;go_wp2;go_meet;exact⟨k,by omega,rfl,JD.out⟩
   case rest=>
   obtain⟨k,hk,rfl,LP⟩:=hcut;have zx:=ah (aj KV.out LP TS);have Hw:=ah (yU.out.keep LP);have HL6:=ah (aI Sd.out LP (aC _));obtain⟨V6,hV6⟩:∃V6,V6=wc:=⟨_,rfl⟩;subst hV6;clear KV yU Sd LP TS;have k0:(0:Int)≤(k:Int):=by omega
   go_upto_region 12 with fail
   go_cut[123] (fun aeZ wx=>∃q:Bool,aeZ= .bool q∧Below V6.heap.size V6 wx)
   case first=>
    by_cases K7:k<ls.length
    ·have jK:(k:Int)<ls.length:=by omega
     obtain⟨rb,ro,rfl,tO,r0,r1,r2⟩:=dI.dt (aG HL6.out) (aL _ _) (aC _) k K7;generalize ls[k].dev=UZ at*;generalize ls[k].epoch=ke at*;generalize ls[k].seq=kq at*;refine aW 10 (fun w'=>Below V6.heap.size V6 w') (by kernel_rfl) ?_;have aQ:Below V6.heap.size V6 V6.drew:=(aL _ _).drew;refine aV (i:=0) (v:=.int .i64 k) rfl (by kernel_rfl) (fun _ _ _ h=>h) (.inl ⟨rfl,fun w' _=>?_⟩) aQ ?_
     ·go_simp
     refine aV (i:=1) (v:=.slice (some ⟨rb,ro,none⟩) ls.length sc) rfl (by kernel_rfl) (fun _ _ _ h=>h) (.inl ⟨rfl,fun w' _=>?_⟩) aQ ?_
     ·go_simp
     refine aV (i:=2) (v:=.int .i64 ls.length) rfl (by kernel_rfl) (fun _ _ _ h=>h) (.inl ⟨rfl,fun w' _=>?_⟩) aQ ?_
     ·go_simp
     refine aV (i:=3) (v:=.bool true) rfl (by kernel_rfl) (fun _ _ _ h=>h) (.inl ⟨rfl,fun w' _=>?_⟩) aQ ?_
     ·go_simp
     refine aV (i:=4) (v:=.bool true) rfl (by kernel_rfl) (fun _ _ _ h=>h) (.inl ⟨rfl,fun w' _=>?_⟩) aQ ?_
     ·go_simp
     refine aV (i:=5) (v:=.slice (some ⟨rb,ro,none⟩) ls.length sc) rfl (by kernel_rfl) (fun _ _ _ h=>h) (.inl ⟨by go_simp,fun w' _=>?_⟩) aQ ?_
     ·go_simp
     refine aV (i:=6) (v:=.int .i64 k) rfl (by kernel_rfl) (fun _ _ _ h=>h) (.inl ⟨by go_simp,fun w' _=>?_⟩) aQ ?_
     ·go_simp
     refine aV (i:=7) (v:=.pointer (some ⟨rb,ro+k*3,none⟩)) rfl (by kernel_rfl) (fun _ _ _ h=>h) (.inl ⟨by go_simp,fun w' _=>?_⟩) aQ ?_
     ·go_simp
     refine aP (i:=8) (v:=.agg #[.int .i64 UZ,.int .i64 ke,.int .i64 kq]) rfl rfl (by kernel_rfl) (fun _ _ _ h=>h) (.inl ⟨by go_simp,fun w' hw=>?_⟩) aQ ?_
     ·have a7:w'.cell? ⟨rb,ro+k*3,none⟩=some (.int .i64 UZ):=by rw[hw.cell (p:=⟨rb,ro+k*3,none⟩) tO];exact r0
      have a8:w'.cell? ⟨rb,ro+k*3+1,none⟩=some (.int .i64 ke):=by rw[hw.cell (p:=⟨rb,ro+k*3+1,none⟩) tO];exact r1
      have a9:w'.cell? ⟨rb,ro+k*3+2,none⟩=some (.int .i64 kq):=by rw[hw.cell (p:=⟨rb,ro+k*3+2,none⟩) tO];exact r2
      go_simp
     refine aP (i:=9) (v:=.agg #[.int .i64 td,.int .i64 te,.int .i64 tq]) rfl rfl (by kernel_rfl) (fun _ _ _ h=>h) (.inl ⟨by go_simp,fun w' hw=>?_⟩) aQ ?_
     ·obtain⟨b0,b1,b2,-⟩:=lV (aj zx.out hw (bq zx.out).1)
      go_simp
     obtain⟨qq,hqq⟩:= Tryz.aeW ⟨UZ,ke,kq⟩ ⟨td,te,tq⟩;have hgg:=fun(op:BinOp) (x y:Operand) (w:World)=> Tryz.aeX op x y ⟨UZ,ke,kq⟩ ⟨td,te,tq⟩ w
     simp only at hqq hgg;refine n_ (i:=10) (by kernel_rfl) rfl (by go_simp) ?_;go_simp;refine aD (i:=11) (by kernel_rfl) rfl rfl ?_;go_simp;refine aU (by kernel_rfl) ?_;go_wp2;go_meet;exact⟨_,rfl,aQ⟩
    ·have jK:¬ (k:Int)<ls.length:=by omega
     refine aW 11 (fun w'=>Below V6.heap.size V6 w') (by kernel_rfl) ?_;have aQ:Below V6.heap.size V6 V6.drew:=(aL _ _).drew;refine aV (i:=0) (v:=.int .i64 k) rfl (by kernel_rfl) (fun _ _ _ h=>h) (.inl ⟨rfl,fun w' _=>?_⟩) aQ ?_
     ·go_simp
     refine aV (i:=1) (v:=.slice sa ls.length sc) rfl (by kernel_rfl) (fun _ _ _ h=>h) (.inl ⟨rfl,fun w' _=>?_⟩) aQ ?_
     ·go_simp
     refine aV (i:=2) (v:=.int .i64 ls.length) rfl (by kernel_rfl) (fun _ _ _ h=>h) (.inl ⟨rfl,fun w' _=>?_⟩) aQ ?_
     ·go_simp
     refine aV (i:=3) (v:=.bool false) rfl (by kernel_rfl) (fun _ _ _ h=>h) (.inl ⟨rfl,fun w' _=>?_⟩) aQ ?_
     ·go_simp
     refine aV (i:=4) (v:=.bool false) rfl (by kernel_rfl) (fun _ _ _ h=>h) (.inl ⟨rfl,fun w' _=>?_⟩) aQ ?_
     ·go_simp
     refine aV (i:=5) (v:=undef) rfl (by kernel_rfl) (fun _ _ _ h=>h) (.inr ⟨by go_simp,rfl⟩) aQ ?_;refine aV (i:=6) (v:=undef) rfl (by kernel_rfl) (fun _ _ _ h=>h) (.inr ⟨by go_simp,rfl⟩) aQ ?_;refine aV (i:=7) (v:=undef) rfl (by kernel_rfl) (fun _ _ _ h=>h) (.inr ⟨by go_simp,rfl⟩) aQ ?_;refine aV (i:=8) (v:=undef) rfl (by kernel_rfl) (fun _ _ _ h=>h) (.inr ⟨by go_simp,rfl⟩) aQ ?_;refine aV (i:=9) (v:=undef) rfl (by kernel_rfl) (fun _ _ _ h=>h) (.inr ⟨by go_simp,rfl⟩) aQ ?_;refine aV (i:=10) (v:=undef) rfl (by kernel_rfl) (fun _ _ _ h=>h) (.inr ⟨by go_simp,rfl⟩) aQ ?_;refine aD (i:=11) (by kernel_rfl) rfl rfl ?_;go_simp;refine aU (by kernel_rfl) ?_;go_wp2;go_meet;exact⟨_,rfl,aQ⟩
   case rest=>
   obtain⟨q,rfl,J5⟩:=hcut;have vV:=ah (aj zx.out J5 (bq zx.out).1);have Ux:=ah (Hw.out.keep J5);have Tw:=ah (aI HL6.out J5 (aC _));obtain⟨V7,hV7⟩:∃V7,V7=wc:=⟨_,rfl⟩;subst hV7;clear zx Hw HL6 J5
   cases q with
   | true=>
    go_wp2;go_roundw
    case rel=>exact⟨i+1,ls,by omega,by omega,by go_num,by omega,Ux.out,Tw.out⟩
    case measure=>simp[intOf];omega
   | false=>
    obtain⟨inf,gq,kK,dX,f_⟩:=info_parts Tryz.QK;have EJ:=ah (And.intro gq dX);have hki:(k:Int)≤ls.length:=by omega
    have wN:=ah (dI.rd (f:=CU) (E:=3) (l:=ls) (aG Tw.out));have NH:Hid ((ls.take k).length=k):=ah (by rw[List.length_take];omega);have HKD:Hid ((ls.drop k).length=ls.length-k):=ah List.length_drop;have eY:=ah Ux.out.bC.size;clear gq kK dX f_
    go_upto_region 14 with first
     | ((with_reducible refine aZ 127 ?_);refine kF rfl _ _ 36 rfl 35 inf 3 Tryz.underlying36 EJ.out.1 EJ.out.2 sa ls.length sc k (aJ CU ls) rfl rfl (by omega) (wN.out.alloc _) ?_;intro a1 wK;rw[Fe]at wK)
     | ((with_reducible refine aZ 128 ?_);refine yG rfl _ _ rfl V7.heap.size _ 0 [] rfl (dB _ _ _ _ 3 #[] 0 rfl (aC _) (by omega) rfl) a1 k sc (ls.take k) rfl NH.out wK (by omega) (by simp) ?_;intro v8 w8 Iz hg8 ae0)
    rw[Nat.zero_add,List.nil_append]at Iz;have qP:Below V7.heap.size V7 w8:=gZ hg8;have YA:=ah Iz;have Pm:V7.heap.size≤w8.heap.size:=qP.size;have Cx:=ah (aj vV.out qP (bq vV.out).1);clear Iz hg8 ae0 wK;obtain⟨z0,z1,z2,-⟩:=lV Cx.out;go_upto_region 15 with((with_reducible refine aZ 132 ?_);refine yG rfl _ _ rfl V7.heap.size v8 k (ls.take k) rfl (aI YA.out ((aL w8.heap.size w8).alloc (aC _) _) (aC _)) (some ⟨w8.heap.size,0,none⟩) 1 1 [⟨td,te,tq⟩] rfl rfl (TR _ _ ⟨td,te,tq⟩ _ (heap_alloc_new w8 _)) (by omega) (by simp;omega) ?_;intro v9 w9 Av Lm ER)
    have jW:Below V7.heap.size V7 w9:=(qP.alloc Pm _).grown Lm (by simp;omega) (fun g hg=>(YA.out.lt g hg).1);have HO9:=ah Av;have I8:=ah jW;have Ir:V7.heap.size≤w9.heap.size:=jW.size;clear Av Lm ER z0 z1 z2 Cx qP
    go_wp2_with first
     | ((with_reducible refine aZ 136 ?_);refine iD rfl _ _ 36 rfl 35 inf 3 Tryz.underlying36 EJ.out.1 EJ.out.2 sa ls.length sc k (aJ CU ls) rfl rfl (by omega) CJ (wN.out.keep I8.out (aC _)) (bP Ad _) ?_;intro a2 sV;rw[Fg]at sV)
     | ((with_reducible refine aZ 137 ?_);refine yG rfl _ _ rfl V7.heap.size v9 (k+1) _ rfl HO9.out a2 (ls.length-k) (sc-k) (ls.drop k) rfl HKD.out sV (by omega) Ir ?_;intro xO w10 aaR ae1 ag5;obtain⟨ajD,ajE,rfl,_,_⟩:=aO aaR)
    have ae2:Below V7.heap.size V7 w10:=jW.grown ae1 Ir (fun g hg=>(HO9.out.lt g hg).1);go_roundw
    case rel=>
     refine⟨i+1,ls.take k++ [⟨td,te,tq⟩]++ls.drop k,by omega,by omega,by go_num,by simp;omega,Ux.out.keep ae2,?_⟩;have hl:(ls.take k++ [(⟨td,te,tq⟩:Dt)]++ls.drop k).length=k+1+(ls.length-k):=by simp;omega
     rw[hl];exact aN aaR eY.out
    case measure=>simp[intOf];omega
  ·have TT:¬ ((i:Int)<ds.length∧(i:Int)<8∧kd=3):=by
    rintro⟨h1,h2,h3⟩;exact EK ⟨by omega,by omega,h3⟩
   clear EK;by_cases h1:(i:Int)<ds.length
   ·by_cases h2:(i:Int)<8
    ·have h3:(kd==3)=false:=by simp;intro e;exact TT ⟨h1,h2,e⟩
     clear TT;go_wp2;go_meet;exact⟨ls,mU.out,EF.out⟩
    ·clear TT
     go_wp2;go_meet;exact⟨ls,mU.out,EF.out⟩
   ·clear TT
    go_wp2;go_meet;exact⟨ls,mU.out,EF.out⟩
end
end Go.Proofs.YtlfopoimbbpfdaaGreat
