/- What the law asks, in parts: Eb Ea. -/
import Derived.Deep.DrawnRows
import Derived.Test.YtlfopoimbbpfdaaGreatPk0
import Derived.Test.YtlfopoimbbpfdaaGreatPk33
import Derived.Test.YtlfopoimbbpfdaaGreatPk39
import Derived.Test.YtlfopoimbbpfdaaGreatPk40
import Derived.Test.YtlfopoimbbpfdaaGreatPk2
set_option linter.all false
namespace Go.Proofs.YtlfopoimbbpfdaaGreat
open Go.RowKit
attribute [local go_sem ↓] Go.wp_at_zero Go.wp_at_succ
section
variable {P:Program} {ops:Array Oper} {Q:Exit→Act→World→Prop} {md:Region.Mode} {S T:World→Prop} {s t i n:Nat} {oi:Oper} {l:Array Bool} {a:Act} {w:World}
theorem kW (hr:Region.ready md ops l= [i]) (hi:ops[i]? =some oi) (hg:Region.wanted oi (yielded ops a.tmps)=true)
  (h:Oper.wp P oi a w (fun a' w'=>kN s S t T (l.setIfInBounds i true) w'∧kX P md ops Q s S t T n (l.setIfInBounds i true) a' w') Q):kX P md ops Q s S t T (n+1) l a w:=by
 refine⟨fun h0=>(by rw[hr]at h0;cases h0),fun j hj=>?_⟩
 rw[hr]at hj
 have:j=i:=by simpa using hj
 subst this
 unfold wpOp
 simp only[hi]
 rw[if_pos hg]
 exact .inl h
end
theorem Tryz.XP (a b c d e f:Int) (w:World):(binOp .neq 42 (.agg #[.int .i64 a,.int .i64 b,.int .i64 c,.int .i64 d,.int .i64 e,.int .i64 f]) (.agg #[.int .i64 a,.int .i64 b,.int .i64 c,.int .i64 d,.int .i64 e,.int .i64 f])).run Tryz.prog w= .ok (.bool false) w:=by
 have u3:= Tryz.underlying3
 have a3:= Tryz.isAgg3
 have z3:= Tryz.sizeOf3
 obtain⟨i,hi,_,_,_⟩:=info_parts Tryz.oM
 have hc: Tryz.prog.cellsOf 3 =1:=by kernel_rfl
 rw[run_neq_struct,show(10000:Nat)=9999+1 from rfl,run_equalIn_array w 9999 _ _ Tryz.underlying42 hi,hc,show List.range 6= [0,1,2,3,4,5]from rfl]
 simp only[Op.eqItems]
 go_simp
theorem OY (b:Bk) (key:ByteArray):∃t0 t1 t2 t3 t4 t5:Int,oh b key= [t0,t1,t2,t3,t4,t5]:=by
 unfold oh
 split
 ·exact⟨_,_,_,_,_,_,rfl⟩
 ·exact⟨_,_,_,_,_,_,rfl⟩
set_option maxRecDepth 100000 in
set_option maxHeartbeats 8000000 in
theorem MU (W:World) (ao:Option Addr) (cap:Nat) (l:List ow) (k:Nat) (hk:k<l.length) (ws:List Wn) (p3 p4:Nat) (ya yb:bZ) (b:Bk) (h:vK W (.slice ao l.length cap) l) (hA:JG W l[k] ws) (h3:Bx W p3 ya) (h4:Bx W p4 yb) (hya:eD W ya b) (hyb:eD W yb b) (hD:Xv b l[k]) (u1 u2 u3 u4 u7 u9 u10 u11 u12 u13 u14 u15 u16 u17 u18 u19 u20 u21 u22 u23 u24 u25 u26 u27 u28 u29 u30 u31 u32 u33 u34 u35 u36 u37 u38 u39 u40 u41 u42 u43 u44 u45 u46 u47 u48 u49 u50 u51 u52 u53 u54 u55 u56 u57 u58 u59 u60 u61 u62 u63 u64 u65 u66 u67 u68 u69 u70 u71 u72 u73 u74 u75 u76 u77 u78:Value) (RR:Act→World→Prop)
  (hRR:∀a' w',(∃v9 v10 v11 v34 v35 v36 v37 v38 v39 v40 v33 v41 v42 v43,(∃ (y z:bZ) (p q:Nat),v9=gZ p∧v10=gZ q∧v11= .bool true∧Bx w' p y∧Bx w' q z∧eD w' y (lK b l[k] ws)∧eD w' z (lK b l[k] ws)∧Below W.heap.size W w'∧W.heap.size≤p∧W.heap.size≤q)∧a'=⟨#[.slice ao l.length cap,u1,u2,u3,u4,.pointer (some ⟨p3,0,none⟩),.pointer (some ⟨p4,0,none⟩),u7,.int .i64 k,v9,v10,v11,u12,u13,u14,u15,u16,u17,u18,u19,u20,u21,u22,u23,u24,u25,u26,u27,u28,u29,u30,u31,u32,v33,v34,v35,v36,v37,v38,v39,v40,v41,v42,v43,u44,u45,u46,u47,u48,u49,u50,u51,u52,u53,u54,u55,u56,u57,u58,u59,u60,u61,u62,u63,u64,u65,u66,u67,u68,u69,u70,u71,u72,u73,u74,u75,u76,u77,u78],[]⟩)→RR a' w'):
  ∀c,Tryz.f6.body.bind (kF 10)=some c→Code.wp Tryz.prog c (Exit.then RR (fun _ _ _=>False)) ⟨#[.slice ao l.length cap,u1,u2,u3,u4,.pointer (some ⟨p3,0,none⟩),.pointer (some ⟨p4,0,none⟩),u7,.int .i64 k,u9,u10,u11,u12,u13,u14,u15,u16,u17,u18,u19,u20,u21,u22,u23,u24,u25,u26,u27,u28,u29,u30,u31,u32,u33,u34,u35,u36,u37,u38,u39,u40,u41,u42,u43,u44,u45,u46,u47,u48,u49,u50,u51,u52,u53,u54,u55,u56,u57,u58,u59,u60,u61,u62,u63,u64,u65,u66,u67,u68,u69,u70,u71,u72,u73,u74,u75,u76,u77,u78],[]⟩ W:=by
 refine pq rfl ?_
 have iG:(k:Int)<l.length:=by omega
 have k0:(0:Int)≤(k:Int):=by omega
 have hcm:l.length≤9223372036854775807:=by
  obtain⟨_,_,he,h1,h2⟩:=Sl.shape h
  injection he with _ _ he
  subst he
  exact Nat.le_trans h1 h2
 obtain⟨ab,lT,rfl,hab,hc⟩:=cK.ac h (aL W.heap.size W) (aC _) k hk
 have DU:Hid (∀w',Below W.heap.size W w'→ ∀j u,(OA l[k])[j]? =some u→w'.cell? ⟨ab,lT+k*15+j,none⟩=some u):=ah (fun V hV j u hj=>by
  obtain⟨ab',Mr,he,_,hc'⟩:=cK.ac h hV (aC _) k hk
  injection he with he
  injection he with e1 e2 _
  subst e1 e2
  exact hc' j u hj)
 clear hc
 have HA:=ah hA
 have H3:=ah h3
 have H4:=ah h4
 have jU:=ah hya
 have o_:=ah hyb
 have HD:=ah hD
 obtain⟨b2,hb2⟩:∃b2,lK b l[k] ws=b2:=⟨_,rfl⟩
 rw[hb2]at hRR
 have HRR:=ah hRR
 have HB2:=ah hb2
 clear h hA h3 h4 hya hyb hD hRR hb2
 generalize l[k]=x at*
 have Bz:=H3.out.lt
 have OQ:=H4.out.lt
 refine aS 14 (fun w'=>Below W.heap.size W w') (by kernel_rfl) ?_
 have hS0:Below W.heap.size W W.drew:=(aL _ _).drew
 refine aG (i:=0) (v:=.slice (some ⟨ab,lT,none⟩) l.length cap) rfl (by kernel_rfl) (by kernel_rfl) (by kernel_rfl) (by decide) (fun _ _ _ h=>h) (.inl ⟨rfl,fun w' _=>?_⟩) hS0 ?_
 ·go_simp
 refine aG (i:=1) (v:=.int .i64 k) rfl (by kernel_rfl) (by kernel_rfl) (by kernel_rfl) (by decide) (fun _ _ _ h=>h) (.inl ⟨rfl,fun w' _=>?_⟩) hS0 ?_
 ·go_simp
 refine aG (i:=2) (v:=.pointer (some ⟨ab,lT+k*15,none⟩)) rfl (by kernel_rfl) (by kernel_rfl) (by kernel_rfl) (by decide) (fun _ _ _ h=>h) (.inl ⟨rfl,fun w' _=>?_⟩) hS0 ?_
 ·go_simp
 refine aD (i:=3) (v:=RN x) rfl rfl (by kernel_rfl) (by kernel_rfl) (by kernel_rfl) (by kernel_rfl) (by kernel_rfl) (by decide) (fun _ _ _ h=>h) (.inl ⟨rfl,fun w' hw=>?_⟩) hS0 ?_
 ·obtain⟨xk,xd,xn,⟨vZ,wh,wm⟩,⟨o1,o2,o3,o4,o5,kd,ky,tx,on,tm,⟨oa,dn,oc⟩⟩⟩:=x
  have hcw:=DU.out w' hw
  have c0:=hcw 0 _ rfl
  have c1:=hcw 1 _ rfl
  have c2:=hcw 2 _ rfl
  have c3:=hcw 3 _ rfl
  have c4:=hcw 4 _ rfl
  have c5:=hcw 5 _ rfl
  have c6:=hcw 6 _ rfl
  have c7:=hcw 7 _ rfl
  have c8:=hcw 8 _ rfl
  have c9:=hcw 9 _ rfl
  have c10:=hcw 10 _ rfl
  have c11:=hcw 11 _ rfl
  have c12:=hcw 12 _ rfl
  have c13:=hcw 13 _ rfl
  have c14:=hcw 14 _ rfl
  simp only[Nat.add_zero]at c0
  simp only[Sv.v]at c3 c14
  go_simp
 refine aD (i:=4) (v:=fT ya) rfl rfl (by kernel_rfl) (by kernel_rfl) (by kernel_rfl) (by kernel_rfl) (by kernel_rfl) (by decide) (fun _ _ _ h=>h) (.inl ⟨rfl,fun w' hw=>?_⟩) hS0 ?_
 ·obtain⟨⟨ca,cn,cc⟩,⟨fa,aX,fc⟩,⟨la,ln,lc⟩,⟨ba,b_n,bc⟩⟩:=ya
  obtain⟨a0,a1,a2,a3,_⟩:=ay (aj H3.out hw Bz)
  simp only[Sv.v]at a0 a1 a2 a3
  go_simp
 refine aD (i:=5) (v:=fT yb) rfl rfl (by kernel_rfl) (by kernel_rfl) (by kernel_rfl) (by kernel_rfl) (by kernel_rfl) (by decide) (fun _ _ _ h=>h) (.inl ⟨rfl,fun w' hw=>?_⟩) hS0 ?_
 ·obtain⟨⟨ca,cn,cc⟩,⟨fa,aX,fc⟩,⟨la,ln,lc⟩,⟨ba,b_n,bc⟩⟩:=yb
  obtain⟨a0,a1,a2,a3,_⟩:=ay (aj H4.out hw OQ)
  simp only[Sv.v]at a0 a1 a2 a3
  go_simp
 refine mP (fun D a w=>∃ (y z:bZ) (p q:Nat) (vT vM vA vB vC vp vq vo:Value),a=⟨#[.slice (some ⟨ab,lT,none⟩) l.length cap,u1,u2,u3,u4,.pointer (some ⟨p3,0,none⟩),.pointer (some ⟨p4,0,none⟩),u7,.int .i64 k,vp,vq,vo,u12,u13,u14,u15,u16,u17,u18,u19,u20,u21,u22,u23,u24,u25,u26,u27,u28,u29,u30,u31,u32,vM,.slice (some ⟨ab,lT,none⟩) l.length cap,.int .i64 k,.pointer (some ⟨ab,lT+k*15,none⟩),RN x,fT ya,fT yb,vT,vA,vB,vC,u44,u45,u46,u47,u48,u49,u50,u51,u52,u53,u54,u55,u56,u57,u58,u59,u60,u61,u62,u63,u64,u65,u66,u67,u68,u69,u70,u71,u72,u73,u74,u75,u76,u77,u78],[]⟩∧(∀j,j<6→D j)∧J9 W b2 6 D y z p q vT vM vA vB vC vp vq vo w) (by kernel_rfl) (fun D a w h _=>by obtain⟨_,_,_,_,_,_,_,_,_,_,_,_,_,_,hJ⟩:=h;exact hJ.aZ) ?_ ?_ _ _ _ _ (of_decide_eq_true (by kernel_rfl)) (by kernel_rfl) ⟨Mh,Mh,0,0,_,_,_,_,_,_,_,_,rfl,of_decide_eq_true (by kernel_rfl),J9.start hS0 (of_decide_eq_true (by kernel_rfl))⟩
 ·intro i hi D a w hI hn hd
  obtain⟨y,z,p,q,vT,vM,vA,vB,vC,vp,vq,vo,rfl,h6,hJ⟩:=hI
  have Ms:i<16:=hi
  have Xw:6≤i:=by rcases Nat.lt_or_ge i 6 with h | h;exact absurd (h6 i h) hn;exact h
  have hcs:i=6∨i=7∨i=8∨i=9∨i=10∨i=11∨i=12∨i=13∨i=14∨i=15:=by omega
  have hbl:=hJ.aZ
  clear hi Ms Xw
  rcases hcs with rfl | rfl | rfl | rfl | rfl | rfl | rfl | rfl | rfl | rfl
  ·refine bC rfl rfl ?_
   go_simp
   refine(FD x ws ya yb b w (HA.out.keep hbl (aC _)) (jU.out.keep hbl (aC _)) (o_.out.keep hbl (aC _)) HD.out).mono ?_
   rw[HB2.out]
   rintro e w' ⟨y',z',rfl,hy,hz,hb⟩
   exact⟨y',z',p,q,_,_,_,_,_,_,_,_,(by first | rfl | (and_intros<;>rfl)),fun j hj=> .inr (h6 j hj),hJ.call hn hy hz hb⟩
  ·have g6:=hd 6 (of_decide_eq_true (by kernel_rfl))
   obtain⟨rfl,_,_⟩:=hJ.c g6
   refine bC rfl rfl ?_
   go_simp
   exact⟨y,z,p,q,_,_,_,_,_,_,_,_,(by first | rfl | (and_intros<;>rfl)),fun j hj=> .inr (h6 j hj),hJ.mv g6 7 (by omega) (by first | exact fun _=>rfl | exact fun h=>absurd h (by decide)) (by first | exact fun _=>rfl | exact fun h=>absurd h (by decide)) (by first | exact fun _=>rfl | exact fun h=>absurd h (by decide)) (by first | exact fun _=>rfl | exact fun h=>absurd h (by decide)) (by first | exact fun _=>rfl | exact fun h=>absurd h (by decide)) (by first | exact fun _=>rfl | exact fun h=>absurd h (by decide)) (by first | exact fun _=>rfl | exact fun h=>absurd h (by decide)) (by first | exact fun _=>rfl | exact fun h=>absurd h (by decide)) (by first | exact fun _=>rfl | exact fun h=>absurd h (by decide)) (by first | exact fun _=>rfl | exact fun h=>absurd h (by decide))⟩
  ·have g7:=hd 7 (of_decide_eq_true (by kernel_rfl))
   obtain⟨g6,rfl⟩:=hJ.m g7
   refine bC rfl rfl ?_
   go_simp
   exact⟨y,z,p,q,_,_,_,_,_,_,_,_,(by first | rfl | (and_intros<;>rfl)),fun j hj=> .inr (h6 j hj),hJ.mv g6 8 (by omega) (by first | exact fun _=>rfl | exact fun h=>absurd h (by decide)) (by first | exact fun _=>rfl | exact fun h=>absurd h (by decide)) (by first | exact fun _=>rfl | exact fun h=>absurd h (by decide)) (by first | exact fun _=>rfl | exact fun h=>absurd h (by decide)) (by first | exact fun _=>rfl | exact fun h=>absurd h (by decide)) (by first | exact fun _=>rfl | exact fun h=>absurd h (by decide)) (by first | exact fun _=>rfl | exact fun h=>absurd h (by decide)) (by first | exact fun _=>rfl | exact fun h=>absurd h (by decide)) (by first | exact fun _=>rfl | exact fun h=>absurd h (by decide)) (by first | exact fun _=>rfl | exact fun h=>absurd h (by decide))⟩
  ·have g7:=hd 7 (of_decide_eq_true (by kernel_rfl))
   obtain⟨g6,rfl⟩:=hJ.m g7
   refine bC rfl rfl ?_
   go_simp
   exact⟨y,z,p,q,_,_,_,_,_,_,_,_,(by first | rfl | (and_intros<;>rfl)),fun j hj=> .inr (h6 j hj),hJ.mv g6 9 (by omega) (by first | exact fun _=>rfl | exact fun h=>absurd h (by decide)) (by first | exact fun _=>rfl | exact fun h=>absurd h (by decide)) (by first | exact fun _=>rfl | exact fun h=>absurd h (by decide)) (by first | exact fun _=>rfl | exact fun h=>absurd h (by decide)) (by first | exact fun _=>rfl | exact fun h=>absurd h (by decide)) (by first | exact fun _=>rfl | exact fun h=>absurd h (by decide)) (by first | exact fun _=>rfl | exact fun h=>absurd h (by decide)) (by first | exact fun _=>rfl | exact fun h=>absurd h (by decide)) (by first | exact fun _=>rfl | exact fun h=>absurd h (by decide)) (by first | exact fun _=>rfl | exact fun h=>absurd h (by decide))⟩
  ·have g7:=hd 7 (of_decide_eq_true (by kernel_rfl))
   obtain⟨g6,rfl⟩:=hJ.m g7
   refine bC rfl rfl ?_
   go_simp
   exact⟨y,z,p,q,_,_,_,_,_,_,_,_,(by first | rfl | (and_intros<;>rfl)),fun j hj=> .inr (h6 j hj),hJ.mv g6 10 (by omega) (by first | exact fun _=>rfl | exact fun h=>absurd h (by decide)) (by first | exact fun _=>rfl | exact fun h=>absurd h (by decide)) (by first | exact fun _=>rfl | exact fun h=>absurd h (by decide)) (by first | exact fun _=>rfl | exact fun h=>absurd h (by decide)) (by first | exact fun _=>rfl | exact fun h=>absurd h (by decide)) (by first | exact fun _=>rfl | exact fun h=>absurd h (by decide)) (by first | exact fun _=>rfl | exact fun h=>absurd h (by decide)) (by first | exact fun _=>rfl | exact fun h=>absurd h (by decide)) (by first | exact fun _=>rfl | exact fun h=>absurd h (by decide)) (by first | exact fun _=>rfl | exact fun h=>absurd h (by decide))⟩
  ·refine bC rfl rfl ?_
   go_simp
   exact⟨y,z,w.heap.size,q,_,_,_,_,_,_,_,_,(by first | rfl | (and_intros<;>rfl)),fun j hj=> .inr (h6 j hj),hJ.PV hn⟩
  ·refine bC rfl rfl ?_
   go_simp
   exact⟨y,z,p,w.heap.size,_,_,_,_,_,_,_,_,(by first | rfl | (and_intros<;>rfl)),fun j hj=> .inr (h6 j hj),hJ.PW hn⟩
  ·have gA:=hd 11 (of_decide_eq_true (by kernel_rfl))
   have gB:=hd 8 (of_decide_eq_true (by kernel_rfl))
   obtain⟨rfl,_,x',gx,_⟩:=hJ.a1 gA
   obtain⟨g6,rfl⟩:=hJ.e1 gB
   obtain⟨⟨ca,cn,cc⟩,⟨fa,aX,fc⟩,⟨la,ln,lc⟩,⟨ba,b_n,bc⟩⟩:=y
   obtain⟨a0,a1,a2,a3,_⟩:=ay gx
   have f0:=aA gx 0
   have f1:=aA gx 1
   have f2:=aA gx 2
   have f3:=aA gx 3
   unfold gZ
   refine bC rfl rfl ?_
   go_simp
   exact⟨_,_,p,q,_,_,_,_,_,_,_,_,(by first | rfl | (and_intros<;>rfl)),fun j hj=> .inr (h6 j hj),hJ.st1 g6 gA⟩
  ·have gA:=hd 12 (of_decide_eq_true (by kernel_rfl))
   have gB:=hd 9 (of_decide_eq_true (by kernel_rfl))
   obtain⟨rfl,_,x',gx,_⟩:=hJ.a2 gA
   obtain⟨g6,rfl⟩:=hJ.e2 gB
   obtain⟨⟨ca,cn,cc⟩,⟨fa,aX,fc⟩,⟨la,ln,lc⟩,⟨ba,b_n,bc⟩⟩:=z
   obtain⟨a0,a1,a2,a3,_⟩:=ay gx
   have f0:=aA gx 0
   have f1:=aA gx 1
   have f2:=aA gx 2
   have f3:=aA gx 3
   unfold gZ
   refine bC rfl rfl ?_
   go_simp
   exact⟨_,_,p,q,_,_,_,_,_,_,_,_,(by first | rfl | (and_intros<;>rfl)),fun j hj=> .inr (h6 j hj),hJ.st2 g6 gA⟩
  ·have g10:=hd 10 (of_decide_eq_true (by kernel_rfl))
   obtain⟨g6,rfl⟩:=hJ.e3 g10
   refine bC rfl rfl ?_
   go_simp
   exact⟨y,z,p,q,_,_,_,_,_,_,_,_,(by first | rfl | (and_intros<;>rfl)),fun j hj=> .inr (h6 j hj),hJ.mv g6 15 (by omega) (by first | exact fun _=>rfl | exact fun h=>absurd h (by decide)) (by first | exact fun _=>rfl | exact fun h=>absurd h (by decide)) (by first | exact fun _=>rfl | exact fun h=>absurd h (by decide)) (by first | exact fun _=>rfl | exact fun h=>absurd h (by decide)) (by first | exact fun _=>rfl | exact fun h=>absurd h (by decide)) (by first | exact fun _=>rfl | exact fun h=>absurd h (by decide)) (by first | exact fun _=>rfl | exact fun h=>absurd h (by decide)) (by first | exact fun _=>rfl | exact fun h=>absurd h (by decide)) (by first | exact fun _=>rfl | exact fun h=>absurd h (by decide)) (by first | exact fun _=>rfl | exact fun h=>absurd h (by decide))⟩
 ·intro D a w hI hall
  obtain⟨y,z,p,q,vT,vM,vA,vB,vC,vp,vq,vo,rfl,_,hJ⟩:=hI
  obtain⟨rfl,rfl,rfl,f1,f2,f3,f4,f5,f6,f7⟩:=hJ.fin (fun j hj=>hall j hj)
  exact HRR.out _ _ ⟨_,_,_,_,_,_,_,_,_,_,_,_,_,_,⟨y,z,p,q,rfl,rfl,rfl,f1,f2,f3,f4,f5,f6,f7⟩,rfl⟩
end Go.Proofs.YtlfopoimbbpfdaaGreat
namespace Go.Proofs.YtlfopoimbbpfdaaGreat
open Go.RowKit
set_option maxRecDepth 100000 in
set_option maxHeartbeats 8000000 in
theorem D7 (x:bZ) (b:Bk) (key:ByteArray) (w:World) (h:eD w x b) (hB:Mt b key) (hU:∀l∈b.ls,∀s∈l.sl,s.up≤2199023255552∧s.down≤2199023255552):
  Calls Tryz.prog 19 #[fT x,.string key] w (uq w (oh b key)):=by
 obtain⟨⟨ca,cn,cc⟩,⟨fa,aX,fc⟩,⟨la,ln,lc⟩,⟨ba,b_n,bc⟩⟩:=x
 obtain⟨xs,hx,hxs⟩:=h.l
 have HLEN:=ah hxs.len
 obtain⟨hn2,hcap2,hm2⟩:=Sl.lens hx
 simp only at hn2 hcap2 hm2 hx
 subst hn2
 have Kk:=ah hxs
 have HX:=ah hx
 have HC:=ah h.c
 obtain⟨hn1,hcap1,hm1⟩:=Sl.lens h.c
 simp only at hn1 hcap1 hm1
 subst hn1
 have HB:=ah hB
 have HU:=ah hU
 have hb1:Below w.heap.size w ((w.alloc (.cells #[.slice ca b.cs.length cc,.slice fa aX fc,.slice la xs.length lc,.slice ba b_n bc] 30)).alloc (.cells #[.int .i64 0,.int .i64 0,.int .i64 0,.int .i64 0,.int .i64 0,.int .i64 0] 42)):=((aL _ _).alloc (aC _) _).alloc (by simp) _
 have k2:=bJ w (.cells #[.slice ca b.cs.length cc,.slice fa aX fc,.slice la xs.length lc,.slice ba b_n bc] 30) (.cells #[.int .i64 0,.int .i64 0,.int .i64 0,.int .i64 0,.int .i64 0,.int .i64 0] 42)
 have k4:=bE w (.cells #[.slice ca b.cs.length cc,.slice fa aX fc,.slice la xs.length lc,.slice ba b_n bc] 30) (.cells #[.int .i64 0,.int .i64 0,.int .i64 0,.int .i64 0,.int .i64 0,.int .i64 0] 42)
 have HM:=ah (h.c.keep hb1 (aC _))
 clear h hx hxs hB hU
 change Calls Tryz.prog _ #[.agg #[.slice ca b.cs.length cc,.slice fa aX fc,.slice la xs.length lc,.slice ba b_n bc],.string key] w _
 go_enter Tryz.func19,Tryz.ntmps19
 go_upto_region 1 with fail
 generalize (w.alloc (.cells #[.slice ca b.cs.length cc,.slice fa aX fc,.slice la xs.length lc,.slice ba b_n bc] 30)).alloc (.cells #[.int .i64 0,.int .i64 0,.int .i64 0,.int .i64 0,.int .i64 0,.int .i64 0] 42)=W1 at*
 obtain⟨d0,d1,d2,d3,iN⟩:=ay k2
 clear iN
 go_wp2_with fail
 refine(mR ⟨⟨ca,b.cs.length,cc⟩,⟨fa,aX,fc⟩,⟨la,xs.length,lc⟩,⟨ba,b_n,bc⟩⟩ b.cs key _ HM.out).mono ?_
 rintro e W2 ⟨rfl,hb2⟩
 have hz1:w.heap.size+1<W1.heap.size:=(bg k4).1
 have K2:=ah (aj k2 hb2 (by omega))
 have K4:=ah (aj k4 hb2 hz1)
 have dV:=ah (hb1.trans (hb2.mono hb1.size))
 clear d0 d1 d2 d3 k2 k4 hb1 hb2 HM hz1
 obtain⟨d0,d1,d2,d3,hz2⟩:=ay K2.out
 obtain⟨⟨r0,r1,r2,r3,r4,r5⟩,rf⟩:=jD K4.out
 have f0:=rf 0
 have f1:=rf 1
 have f2:=rf 2
 have f3:=rf 3
 have f4:=rf 4
 have f5:=rf 5
 have jT:w.heap.size+1<W2.heap.size:=(bg K4.out).1
 clear rf
 rcases bQ (fun c:Ct=>decide (c.key=key)) b.cs with⟨hi,_⟩ | ⟨k,hk,hi,_,_⟩
 ·have HF:Hid (oh b key= [0,0,0,0,0,0]):=by show _=_;unfold oh;rw[show bH b.cs key= -1 from hi];rfl
  rw[show bH b.cs key= -1 from hi]
  clear hi
  go_wp2
  refine bodyPost_ret (v:=.agg #[.int .i64 0,.int .i64 0,.int .i64 0,.int .i64 0,.int .i64 0,.int .i64 0]) (by simp[results,Tryz.results19,go_sem, *]) rfl (show uq _ _ _ _ from ?_)
  rw[HF.out]
  exact⟨rfl,(((((dV.out.setCell (by simp) _).setCell (by simp) _).setCell (by simp) _).setCell (by simp) _).setCell (by simp) _).setCell (by simp) _⟩
 ·rw[show bH b.cs key=k from hi]
  have HF:Hid (oh b key= [b.cs[k].up,bA key b.ls,b.cs[k].hi-b.cs[k].start-b.cs[k].up-bA key b.ls,b.cs[k].down,bB key b.ls,b.cs[k].start-b.cs[k].lo-b.cs[k].down-bB key b.ls]):=by
   show _=_
   unfold oh
   rw[show bH b.cs key=k from hi,if_neg (by omega)]
   simp[List.getD,List.getElem?_eq_getElem hk]
  obtain⟨cb,co,rfl,hcb,c0,c1,c2,c3,c4,c5,c6⟩:=cK.ct HC.out dV.out (aC _) k hk
  have SI:=HB.out.ct b.cs[k] (List.getElem_mem hk)
  obtain⟨⟨t1,t2⟩,⟨t3,t4⟩,⟨t5,t6⟩,⟨t7,t8⟩,t9,t10⟩:=SI
  have iG:(k:Int)<b.cs.length:=by omega
  clear hi
  generalize M5:bA key b.ls=LU at*
  generalize hld:bB key b.ls=LD at*
  have Xy:=ah M5
  have R5:=ah hld
  have hsu:=HB.out.su
  have hsd:=HB.out.sd
  rw[M5]at hsu
  rw[hld]at hsd
  have hnn:=kV key b.ls HB.out.ls
  rw[M5,hld]at hnn
  obtain⟨hn1,hn2⟩:=hnn
  clear M5 hld
  generalize b.cs[k]=c at*
  obtain⟨q1,q2,q3,q4,q5,q6,q7⟩:=c
  simp only at c0 c1 c2 c3 c4 c5 c6 t1 t2 t3 t4 t5 t6 t7 t8 t9 t10 HF
  have hb3:Below W2.heap.size W2 (W2.alloc (.cells #[.string q1,.int .i64 q2,.int .i64 q3,.int .i64 q4,.int .i64 q5,.int .i64 q6,.int .i64 q7] 54)):=(aL _ _).alloc (aC _) _
  have K6:=ah (heap_alloc_new W2 (.cells #[.string q1,.int .i64 q2,.int .i64 q3,.int .i64 q4,.int .i64 q5,.int .i64 q6,.int .i64 q7] 54))
  have P_:=ah (aj K2.out hb3 (by omega))
  have SK:=ah (aj K4.out hb3 jT)
  have HB3:=ah (dV.out.trans (hb3.mono dV.out.size))
  have abP:cb<W2.heap.size:=by omega
  clear hb3 K2 K4 dV f0 f1 f2 f3 f4 f5 r0 r1 r2 r3 r4 r5
  go_upto_region 5 with fail
  generalize hG:W2.heap.size=G at*
  have HG:=ah hG
  generalize W2.alloc (.cells #[.string q1,.int .i64 q2,.int .i64 q3,.int .i64 q4,.int .i64 q5,.int .i64 q6,.int .i64 q7] 54)=W3 at*
  clear hG c0 c1 c2 c3 c4 c5 c6 d0 d1 d2 d3 hz2
  have CX:=ah (oW key b.ls HB.out.ls)
  have DV:Hid (bA key (b.ls.take xs.length)=LU∧bB key (b.ls.take xs.length)=LD):=ah (by rw[HLEN.out,List.take_length];exact⟨Xy.out,R5.out⟩)
  go_upto_block 0 with fail
  go_cut[7,8] (fun v7 v8 wx=>v7= .int .i64 LU∧v8= .int .i64 LD∧Below w.heap.size w wx∧wx.heap[w.heap.size+1]? =some (.cells #[.int .i64 0,.int .i64 0,.int .i64 0,.int .i64 0,.int .i64 0,.int .i64 0] 42 (0,0))∧wx.heap[G]? =some (.cells #[.string q1,.int .i64 q2,.int .i64 q3,.int .i64 q4,.int .i64 q5,.int .i64 q6,.int .i64 q7] 54 (0,0)))
  case first=>
   go_wp2
   go_loopw[7,8,9] (fun v7 v8 v9 wr=>∃ (i:Nat) (PU PD:Int),i≤xs.length∧v7= .int .i64 PU∧v8= .int .i64 PD∧v9= .int .i64 i∧PU=bA key (b.ls.take i)∧PD=bB key (b.ls.take i)∧Below w.heap.size w wr∧wr.heap[w.heap.size]? =some (.cells #[.slice (some ⟨cb,co,none⟩) b.cs.length cc,.slice fa aX fc,.slice la xs.length lc,.slice ba b_n bc] 30 (0,0))∧wr.heap[w.heap.size+1]? =some (.cells #[.int .i64 0,.int .i64 0,.int .i64 0,.int .i64 0,.int .i64 0,.int .i64 0] 42 (0,0))∧
    wr.heap[G]? =some (.cells #[.string q1,.int .i64 q2,.int .i64 q3,.int .i64 q4,.int .i64 q5,.int .i64 q6,.int .i64 q7] 54 (0,0))) (fun _ _ v9 _=>xs.length-(intOf v9).toNat)
   case atStart=>exact⟨0,0,0,Nat.zero_le _,rfl,rfl,rfl,by simp[bA],by simp[bB],HB3.out,P_.out,SK.out,K6.out⟩
   case round=>
    obtain⟨i,PU,PD,abQ,rfl,rfl,rfl,Xz,XA,hb,hk2,hk4,pQ⟩:=hrel
    have SL:=ah Xz
    have Ob:=ah XA
    have R2:=ah hk2
    have R4:=ah hk4
    have R6:=ah pQ
    have lX:G<wr.heap.size:=(bg pQ).1
    have Pv:w.heap.size+1<wr.heap.size:=(bg hk4).1
    obtain⟨d0,d1,d2,d3,iN⟩:=ay hk2
    clear Xz XA hk2 hk4 pQ P_ SK K6 HB3 iN
    rcases Nat.lt_or_ge i xs.length with hil | hig
    ·have pK:i<b.ls.length:=by rw[←HLEN.out];exact hil
     have AQ:=ah (fun V (hV:Below w.heap.size w V)=>cK.ls HX.out hV (aC _) i hil)
     obtain⟨lb,lo,rfl,hlb,e0,e1,e2,e3,e4,e5,e6⟩:=cK.ls HX.out hb (aC _) i hil
     have Pk:(i:Int)<xs.length:=by omega
     have hM:=(bI.at Kk.out i hil pK).s
     have M0:=HB.out.ls b.ls[i] (List.getElem_mem pK)
     have HST:=ah (oZ key b.ls i pK)
     have UZ:=ah (CX.out (i+1))
     have TF:=ah (tY key b.ls[i].sl M0)
     have Eb:=ah M0
     have HUI:=ah (HU.out b.ls[i] (List.getElem_mem pK))
     have U6:=ah (kV key (b.ls.take i) (fun x hx=>HB.out.ls x (List.mem_of_mem_take hx)))
     generalize b.ls[i].sl=sl at*
     generalize xs[i]=z at*
     obtain⟨z1,z2,z3,z4,⟨z5,z6,z7⟩,⟨z8,z9,dD⟩,⟨dI,z12,dJ⟩⟩:=z
     simp only[Sv.v]at e0 e1 e2 e3 e4 e5 e6 hM AQ
     obtain⟨hzn,CY,CZ⟩:=Sl.lens (s:=⟨z5,z6,z7⟩) hM
     simp only at hzn CY CZ
     subst hzn
     have YQ:Hid (∀V,Below w.heap.size w V→V.cell? ⟨lb,lo+i*7+4,none⟩=some (.slice z5 sl.length z7)):=ah (fun V hV=>by
      obtain⟨lb',lo',he,_,_,_,_,_,h4,_⟩:=AQ.out V hV
      injection he with he
      injection he with e1 e2 _
      subst e1 e2
      exact h4)
     have mX:=ah hb
     clear e0 e1 e2 e3 e4 e5 e6 hb M0 AQ
     go_wp2
     go_loopw[7,8,10] (fun v7 v8 v10 wq=>∃ (j:Nat) (X Y:Int),j≤sl.length∧v7= .int .i64 X∧v8= .int .i64 Y∧v10= .int .i64 j∧X=PU+bS key (sl.take j)∧Y=PD+leftD key (sl.take j)∧Below w.heap.size w wq∧wq.heap[w.heap.size]? =some (.cells #[.slice (some ⟨cb,co,none⟩) b.cs.length cc,.slice fa aX fc,.slice (some ⟨lb,lo,none⟩) xs.length lc,.slice ba b_n bc] 30 (0,0))∧wq.heap[w.heap.size+1]? =some (.cells #[.int .i64 0,.int .i64 0,.int .i64 0,.int .i64 0,.int .i64 0,.int .i64 0] 42 (0,0))∧
      wq.heap[G]? =some (.cells #[.string q1,.int .i64 q2,.int .i64 q3,.int .i64 q4,.int .i64 q5,.int .i64 q6,.int .i64 q7] 54 (0,0))) (fun _ _ v10 _=>sl.length-(intOf v10).toNat)
     case atStart=>exact⟨0,PU,PD,Nat.zero_le _,rfl,rfl,rfl,by simp[bS],by simp[leftD],mX.out,R2.out,R4.out,R6.out⟩
     case round=>
      clear mX R2 R4 R6 d0 d1 d2 d3 lX Pv
      obtain⟨j,X,Y,hj,rfl,rfl,rfl,hX,hY,hb,hk2,hk4,pQ⟩:=hrel
      have Nl:=ah hX
      have Nn:=ah hY
      have R2:=ah hk2
      have R4:=ah hk4
      have R6:=ah pQ
      have lX:G<wr.heap.size:=(bg pQ).1
      have Pv:w.heap.size+1<wr.heap.size:=(bg hk4).1
      obtain⟨d0,d1,d2,d3,iN⟩:=ay hk2
      have e4:=YQ.out wr hb
      clear hX hY hk2 hk4 pQ iN
      rcases Nat.lt_or_ge j sl.length with hjl | ZK
      ·obtain⟨sb,so,rfl,hsb,g0,g1,g2,g3,g4⟩:=cK.sc hM hb (aC _) j hjl
       have uF:(j:Int)<sl.length:=by omega
       have vI:=ah (left_step key sl j hjl)
       have KA:=ah (TF.out (j+1))
       obtain⟨p1,p2,p3,p4,p5,p6⟩:=Eb.out sl[j] (List.getElem_mem hjl)
       obtain⟨p7,p8⟩:=HUI.out sl[j] (List.getElem_mem hjl)
       have TG:=ah (rQ key (sl.take j) (fun x hx=>Eb.out x (List.mem_of_mem_take hx)))
       have hbd:0≤X∧0≤Y∧X≤4611686018427387903∧Y≤4611686018427387903∧(sl[j].key=key→X+(sl[j].up-sl[j].uu)≤4611686018427387903∧Y+(sl[j].down-sl[j].ud)≤4611686018427387903):=by
        have a1:=Nl.out;have a2:=Nn.out;have a3:=U6.out;have a4:=TG.out;have a5:=KA.out;have a6:=UZ.out;have a7:=HST.out;have a8:=SL.out;have a9:=Ob.out;have Fu:=vI.out;have YF:=Xy.out;have a12:=R5.out;have a13:=TF.out j
        refine⟨by omega,by omega,by omega,by omega,fun hkk=>?_⟩
        rw[if_pos hkk,if_pos hkk]at Fu
        omega
       obtain⟨hX0,hY0,hX9,hY9,XB⟩:=hbd
       have Oj:=ah XB
       clear XB
       generalize sl[j]=t at*
       obtain⟨t1',sU,sV,uX,uY⟩:=t
       simp only at g0 g1 g2 g3 g4 p1 p2 p3 p4 p5 p6 p7 p8
       have Pm:=ah (key_eq t1' key)
       have hA:Below wr.heap.size wr (wr.alloc (.cells #[.string t1',.int .i64 sU,.int .i64 sV,.int .i64 uX,.int .i64 uY] 88)):=(aL _ _).alloc (aC _) _
       have ks:=heap_alloc_new wr (.cells #[.string t1',.int .i64 sU,.int .i64 sV,.int .i64 uX,.int .i64 uY] 88)
       have A2:=ah (aj R2.out hA (by omega))
       have A4:=ah (aj R4.out hA Pv)
       have A6:=ah (aj R6.out hA lX)
       have mX:=ah (hb.trans (hA.mono hb.size))
       go_upto_region 13 with fail
       generalize wr.alloc (.cells #[.string t1',.int .i64 sU,.int .i64 sV,.int .i64 uX,.int .i64 uY] 88)=U0 at*
       generalize wr.heap.size=gs at*
       have s0:U0.cell? ⟨gs,0,none⟩=some (.string t1'):=by simp[World.cell?,ks]
       have s1:U0.cell? ⟨gs,1,none⟩=some (.int .i64 sU):=by simp[World.cell?,ks]
       have s2:U0.cell? ⟨gs,2,none⟩=some (.int .i64 sV):=by simp[World.cell?,ks]
       have s3:U0.cell? ⟨gs,3,none⟩=some (.int .i64 uX):=by simp[World.cell?,ks]
       have s4:U0.cell? ⟨gs,4,none⟩=some (.int .i64 uY):=by simp[World.cell?,ks]
       clear g0 g1 g2 g3 g4 e4 d0 d1 d2 d3 hA R2 R4 R6 hb ks
       by_cases he:t1'=key
       ·have de:(t1'.toList==key.toList)=true:=by rw[Pm.out];simpa using he
        obtain⟨hX1,hY1⟩:=Oj.out he
        have HS2:Hid (bS key (sl.take (j+1))=bS key (sl.take j)+(sU-uX)∧leftD key (sl.take (j+1))=leftD key (sl.take j)+(sV-uY)):=by have:=vI.out;simp only[he,if_true]at this;exact ah this
        have i1:IntKind.i64.wrap (X+sU)=X+sU:=IntWalk.i64_in _ (by omega)
        have i2:IntKind.i64.wrap (X+sU-uX)=X+sU-uX:=IntWalk.i64_in _ (by omega)
        have i3:IntKind.i64.wrap (Y+sV)=Y+sV:=IntWalk.i64_in _ (by omega)
        have i4:IntKind.i64.wrap (Y+sV-uY)=Y+sV-uY:=IntWalk.i64_in _ (by omega)
        clear Oj
        go_wp2_with fail
        go_quiet (fail)
        clear i1 i2 i3 i4
        go_wp2
        go_roundw
        case rel=>exact⟨j+1,X+sU-uX,Y+sV-uY,by omega,by go_num,by go_num,by go_num,by rw[HS2.out.1,Nl.out];omega,by rw[HS2.out.2,Nn.out];omega,below_drewN mX.out _,A2.out,A4.out,A6.out⟩
        case measure=>simp[intOf];omega
       ·have de:(t1'.toList==key.toList)=false:=by rw[Pm.out];simpa using he
        have HS2:Hid (bS key (sl.take (j+1))=bS key (sl.take j)∧leftD key (sl.take (j+1))=leftD key (sl.take j)):=by have:=vI.out;simp only[if_neg he,Int.add_zero]at this;exact ah this
        clear Oj
        go_wp2
        go_roundw
        case rel=>exact⟨j+1,X,Y,by omega,by go_num,by go_num,by go_num,by rw[HS2.out.1];exact Nl.out,by rw[HS2.out.2];exact Nn.out,mX.out,A2.out,A4.out,A6.out⟩
        case measure=>simp[intOf];omega
      ·have QX:j=sl.length:=by omega
       subst QX
       have NN:Hid (X=bA key (b.ls.take (i+1))):=by show _=_;rw[HST.out.1,Nl.out,List.take_length,SL.out]
       have Im:Hid (Y=bB key (b.ls.take (i+1))):=by show _=_;rw[HST.out.2,Nn.out,List.take_length,Ob.out]
       go_wp2
       go_roundw
       case rel=>exact⟨i+1,X,Y,by omega,by go_num,by go_num,by go_num,NN.out,Im.out,hb,R2.out,R4.out,R6.out⟩
       case measure=>simp[intOf];omega
    ·have hie:i=xs.length:=by omega
     subst hie
     have VL:Hid (PU=LU∧PD=LD):=ah ⟨by rw[SL.out];exact DV.out.1,by rw[Ob.out];exact DV.out.2⟩
     obtain⟨e1,e2⟩:=VL.out
     subst e1 e2
     go_wp2
     go_meet
     exact⟨rfl,rfl,hb,R4.out,R6.out⟩
  case rest=>
  obtain⟨rfl,rfl,hb,hk4,pQ⟩:=hcut
  obtain⟨W5,Bb⟩:∃W5,W5=wc:=⟨_,rfl⟩
  subst Bb
  obtain⟨c0,c1,c2,c3,c4,c5,c6,iN⟩:=aB pQ
  obtain⟨⟨r0,r1,r2,r3,r4,r5⟩,rf⟩:=jD hk4
  have f0:=rf 0
  have f1:=rf 1
  have f2:=rf 2
  have f3:=rf 3
  have f4:=rf 4
  have f5:=rf 5
  have Df:=ah hb
  clear rf iN hk4 pQ hb P_ SK K6 HB3
  go_wp2
  refine bodyPost_ret (v:=.agg #[.int .i64 q6,.int .i64 LU,.int .i64 (q4-q5-q6-LU),.int .i64 q7,.int .i64 LD,.int .i64 (q5-q3-q7-LD)]) (by simp[results,Tryz.results19,go_sem, *]) rfl (show uq _ _ _ _ from ?_)
  rw[HF.out]
  exact⟨rfl,(((((Df.out.setCell (by simp) _).setCell (by simp) _).setCell (by simp) _).setCell (by simp) _).setCell (by simp) _).setCell (by simp) _⟩
end Go.Proofs.YtlfopoimbbpfdaaGreat
