/- What the law asks, in parts: Db Dc Dd. -/
import Derived.Deep.DrawnRows
import Derived.Test.YtlfopoimbbpfdaaGreatPk33
import Derived.Test.YtlfopoimbbpfdaaGreatPk39
import Derived.Test.YtlfopoimbbpfdaaGreatPk40
set_option linter.all false
namespace Go.Proofs.YtlfopoimbbpfdaaGreat
open Go.RowKit
attribute [local go_sem ↓] Go.wp_at_zero Go.wp_at_succ
set_option maxRecDepth 100000 in
set_option maxHeartbeats 8000000 in
theorem SH (W:World) (ao:Option Addr) (cap:Nat) (l:List ow) (k:Nat) (hk:k<l.length) (ws:List Wn) (p3 p4:Nat) (ya yb:bZ) (b:Bk) (h:vK W (.slice ao l.length cap) l) (hA:JG W l[k] ws) (h3:Bx W p3 ya) (h4:Bx W p4 yb) (hya:eD W ya b) (hyb:eD W yb b) (hD:Xv b l[k]) (u1 u2 u6 u7 u8 u9 u10 u11 u12 u13 u14 u15 u16 u17 u18 u19 u20 u21 u22 u23 u24 u25 u26 u27 u28 u29 u30 u31 u32 u33 u34 u35 u36 u37 u38 u39 u40 u41 u42 u43 u44 u45 u46 u47 u48 u49 u50 u51 u52 u53 u54 u55 u56 u57 u58 u59 u60 u61 u62 u63 u64 u65 u66 u67 u68 u69 u70 u71 u72 u73 u74 u75 u76 u77 u78 u79 u80 u81 u82 u83 u84 u85 u86 u87 u88 u89 u90 u91 u92 u93 u94 u95 u96 u97 u98 u99 u100 u101 u102 u103 u104 u105 u106 u107 u108 u109 u110 u111 u112 u113 u114 u115 u116 u117 u118 u119 u120 u121 u122 u123 u124 u125 u126 u127 u128 u129:Value) (RR:Act→World→Prop)
  (hRR:∀a' w',(∃v6 v7 v8 v28 v29 v30 v31 v32 v33 v34 v27 v35 v36 v37,(∃ (y z:bZ) (p q:Nat),v6=gZ p∧v7=gZ q∧v8= .bool true∧Bx w' p y∧Bx w' q z∧eD w' y (lK b l[k] ws)∧eD w' z (lK b l[k] ws)∧Below W.heap.size W w'∧W.heap.size≤p∧W.heap.size≤q)∧a'=⟨#[.slice ao l.length cap,u1,u2,.pointer (some ⟨p3,0,none⟩),.pointer (some ⟨p4,0,none⟩),.int .i64 k,v6,v7,v8,u9,u10,u11,u12,u13,u14,u15,u16,u17,u18,u19,u20,u21,u22,u23,u24,u25,u26,v27,v28,v29,v30,v31,v32,v33,v34,v35,v36,v37,u38,u39,u40,u41,u42,u43,u44,u45,u46,u47,u48,u49,u50,u51,u52,u53,u54,u55,u56,u57,u58,u59,u60,u61,u62,u63,u64,u65,u66,u67,u68,u69,u70,u71,u72,u73,u74,u75,u76,u77,u78,u79,u80,u81,u82,u83,u84,u85,u86,u87,u88,u89,u90,u91,u92,u93,u94,u95,u96,u97,u98,u99,u100,u101,u102,u103,u104,u105,u106,u107,u108,u109,u110,u111,u112,u113,u114,u115,u116,u117,u118,u119,u120,u121,u122,u123,u124,u125,u126,u127,u128,u129],[]⟩)→RR a' w'):
  ∀c,Tryz.f3.body.bind (kF 9)=some c→Code.wp Tryz.prog c (Exit.then RR (fun _ _ _=>False)) ⟨#[.slice ao l.length cap,u1,u2,.pointer (some ⟨p3,0,none⟩),.pointer (some ⟨p4,0,none⟩),.int .i64 k,u6,u7,u8,u9,u10,u11,u12,u13,u14,u15,u16,u17,u18,u19,u20,u21,u22,u23,u24,u25,u26,u27,u28,u29,u30,u31,u32,u33,u34,u35,u36,u37,u38,u39,u40,u41,u42,u43,u44,u45,u46,u47,u48,u49,u50,u51,u52,u53,u54,u55,u56,u57,u58,u59,u60,u61,u62,u63,u64,u65,u66,u67,u68,u69,u70,u71,u72,u73,u74,u75,u76,u77,u78,u79,u80,u81,u82,u83,u84,u85,u86,u87,u88,u89,u90,u91,u92,u93,u94,u95,u96,u97,u98,u99,u100,u101,u102,u103,u104,u105,u106,u107,u108,u109,u110,u111,u112,u113,u114,u115,u116,u117,u118,u119,u120,u121,u122,u123,u124,u125,u126,u127,u128,u129],[]⟩ W:=by
 refine pq rfl ?_
 have iG:(k:Int)<l.length:=by omega
 have k0:(0:Int)≤(k:Int):=by omega
 have hcm:l.length≤9223372036854775807:=by
  obtain⟨_,_,he,h1,h2⟩:=Sl.shape h
  injection he with _ _ he
  subst he
  exact Nat.le_trans h1 h2
 obtain⟨ab,lT,rfl,hab,hc⟩:=cK.ac h (aL W.heap.size W) (aC _) k hk
 have DU:Hid (∀w',Below W.heap.size W w'→ ∀j u,(OA l[k])[j]? =some u→w'.cell? ⟨ab,lT+k*15+j,none⟩=some u):=ah (fun V hV j u hj=>by
  obtain⟨ab',Mr,he,_,hc'⟩:=cK.ac h hV (aC _) k hk
  injection he with he
  injection he with e1 e2 _
  subst e1 e2
  exact hc' j u hj)
 clear hc
 have HA:=ah hA
 have H3:=ah h3
 have H4:=ah h4
 have jU:=ah hya
 have o_:=ah hyb
 have HD:=ah hD
 obtain⟨b2,hb2⟩:∃b2,lK b l[k] ws=b2:=⟨_,rfl⟩
 rw[hb2]at hRR
 have HRR:=ah hRR
 have HB2:=ah hb2
 clear h hA h3 h4 hya hyb hD hRR hb2
 generalize l[k]=x at*
 have Bz:=H3.out.lt
 have OQ:=H4.out.lt
 refine aS 14 (fun w'=>Below W.heap.size W w') (by kernel_rfl) ?_
 have hS0:Below W.heap.size W W.drew:=(aL _ _).drew
 refine aG (i:=0) (v:=.slice (some ⟨ab,lT,none⟩) l.length cap) rfl (by kernel_rfl) (by kernel_rfl) (by kernel_rfl) (by decide) (fun _ _ _ h=>h) (.inl ⟨rfl,fun w' _=>?_⟩) hS0 ?_
 ·go_simp
 refine aG (i:=1) (v:=.int .i64 k) rfl (by kernel_rfl) (by kernel_rfl) (by kernel_rfl) (by decide) (fun _ _ _ h=>h) (.inl ⟨rfl,fun w' _=>?_⟩) hS0 ?_
 ·go_simp
 refine aG (i:=2) (v:=.pointer (some ⟨ab,lT+k*15,none⟩)) rfl (by kernel_rfl) (by kernel_rfl) (by kernel_rfl) (by decide) (fun _ _ _ h=>h) (.inl ⟨rfl,fun w' _=>?_⟩) hS0 ?_
 ·go_simp
 refine aD (i:=3) (v:=RN x) rfl rfl (by kernel_rfl) (by kernel_rfl) (by kernel_rfl) (by kernel_rfl) (by kernel_rfl) (by decide) (fun _ _ _ h=>h) (.inl ⟨rfl,fun w' hw=>?_⟩) hS0 ?_
 ·obtain⟨xk,xd,xn,⟨vZ,wh,wm⟩,⟨o1,o2,o3,o4,o5,kd,ky,tx,on,tm,⟨oa,dn,oc⟩⟩⟩:=x
  have hcw:=DU.out w' hw
  have c0:=hcw 0 _ rfl
  have c1:=hcw 1 _ rfl
  have c2:=hcw 2 _ rfl
  have c3:=hcw 3 _ rfl
  have c4:=hcw 4 _ rfl
  have c5:=hcw 5 _ rfl
  have c6:=hcw 6 _ rfl
  have c7:=hcw 7 _ rfl
  have c8:=hcw 8 _ rfl
  have c9:=hcw 9 _ rfl
  have c10:=hcw 10 _ rfl
  have c11:=hcw 11 _ rfl
  have c12:=hcw 12 _ rfl
  have c13:=hcw 13 _ rfl
  have c14:=hcw 14 _ rfl
  simp only[Nat.add_zero]at c0
  simp only[Sv.v]at c3 c14
  go_simp
 refine aD (i:=4) (v:=fT ya) rfl rfl (by kernel_rfl) (by kernel_rfl) (by kernel_rfl) (by kernel_rfl) (by kernel_rfl) (by decide) (fun _ _ _ h=>h) (.inl ⟨rfl,fun w' hw=>?_⟩) hS0 ?_
 ·obtain⟨⟨ca,cn,cc⟩,⟨fa,aX,fc⟩,⟨la,ln,lc⟩,⟨ba,b_n,bc⟩⟩:=ya
  obtain⟨a0,a1,a2,a3,_⟩:=ay (aj H3.out hw Bz)
  simp only[Sv.v]at a0 a1 a2 a3
  go_simp
 refine aD (i:=5) (v:=fT yb) rfl rfl (by kernel_rfl) (by kernel_rfl) (by kernel_rfl) (by kernel_rfl) (by kernel_rfl) (by decide) (fun _ _ _ h=>h) (.inl ⟨rfl,fun w' hw=>?_⟩) hS0 ?_
 ·obtain⟨⟨ca,cn,cc⟩,⟨fa,aX,fc⟩,⟨la,ln,lc⟩,⟨ba,b_n,bc⟩⟩:=yb
  obtain⟨a0,a1,a2,a3,_⟩:=ay (aj H4.out hw OQ)
  simp only[Sv.v]at a0 a1 a2 a3
  go_simp
 refine mP (fun D a w=>∃ (y z:bZ) (p q:Nat) (vT vM vA vB vC vp vq vo:Value),a=⟨#[.slice (some ⟨ab,lT,none⟩) l.length cap,u1,u2,.pointer (some ⟨p3,0,none⟩),.pointer (some ⟨p4,0,none⟩),.int .i64 k,vp,vq,vo,u9,u10,u11,u12,u13,u14,u15,u16,u17,u18,u19,u20,u21,u22,u23,u24,u25,u26,vM,.slice (some ⟨ab,lT,none⟩) l.length cap,.int .i64 k,.pointer (some ⟨ab,lT+k*15,none⟩),RN x,fT ya,fT yb,vT,vA,vB,vC,u38,u39,u40,u41,u42,u43,u44,u45,u46,u47,u48,u49,u50,u51,u52,u53,u54,u55,u56,u57,u58,u59,u60,u61,u62,u63,u64,u65,u66,u67,u68,u69,u70,u71,u72,u73,u74,u75,u76,u77,u78,u79,u80,u81,u82,u83,u84,u85,u86,u87,u88,u89,u90,u91,u92,u93,u94,u95,u96,u97,u98,u99,u100,u101,u102,u103,u104,u105,u106,u107,u108,u109,u110,u111,u112,u113,u114,u115,u116,u117,u118,u119,u120,u121,u122,u123,u124,u125,u126,u127,u128,u129],[]⟩∧(∀j,j<6→D j)∧J9 W b2 6 D y z p q vT vM vA vB vC vp vq vo w) (by kernel_rfl) (fun D a w h _=>by obtain⟨_,_,_,_,_,_,_,_,_,_,_,_,_,_,hJ⟩:=h;exact hJ.aZ) ?_ ?_ _ _ _ _ (of_decide_eq_true (by kernel_rfl)) (by kernel_rfl) ⟨Mh,Mh,0,0,_,_,_,_,_,_,_,_,rfl,of_decide_eq_true (by kernel_rfl),J9.start hS0 (of_decide_eq_true (by kernel_rfl))⟩
 ·intro i hi D a w hI hn hd
  obtain⟨y,z,p,q,vT,vM,vA,vB,vC,vp,vq,vo,rfl,h6,hJ⟩:=hI
  have Ms:i<16:=hi
  have Xw:6≤i:=by rcases Nat.lt_or_ge i 6 with h | h;exact absurd (h6 i h) hn;exact h
  have hcs:i=6∨i=7∨i=8∨i=9∨i=10∨i=11∨i=12∨i=13∨i=14∨i=15:=by omega
  have hbl:=hJ.aZ
  clear hi Ms Xw
  rcases hcs with rfl | rfl | rfl | rfl | rfl | rfl | rfl | rfl | rfl | rfl
  ·refine bC rfl rfl ?_
   go_simp
   refine(FD x ws ya yb b w (HA.out.keep hbl (aC _)) (jU.out.keep hbl (aC _)) (o_.out.keep hbl (aC _)) HD.out).mono ?_
   rw[HB2.out]
   rintro e w' ⟨y',z',rfl,hy,hz,hb⟩
   exact⟨y',z',p,q,_,_,_,_,_,_,_,_,(by first | rfl | (and_intros<;>rfl)),fun j hj=> .inr (h6 j hj),hJ.call hn hy hz hb⟩
  ·have g6:=hd 6 (of_decide_eq_true (by kernel_rfl))
   obtain⟨rfl,_,_⟩:=hJ.c g6
   refine bC rfl rfl ?_
   go_simp
   exact⟨y,z,p,q,_,_,_,_,_,_,_,_,(by first | rfl | (and_intros<;>rfl)),fun j hj=> .inr (h6 j hj),hJ.mv g6 7 (by omega) (by first | exact fun _=>rfl | exact fun h=>absurd h (by decide)) (by first | exact fun _=>rfl | exact fun h=>absurd h (by decide)) (by first | exact fun _=>rfl | exact fun h=>absurd h (by decide)) (by first | exact fun _=>rfl | exact fun h=>absurd h (by decide)) (by first | exact fun _=>rfl | exact fun h=>absurd h (by decide)) (by first | exact fun _=>rfl | exact fun h=>absurd h (by decide)) (by first | exact fun _=>rfl | exact fun h=>absurd h (by decide)) (by first | exact fun _=>rfl | exact fun h=>absurd h (by decide)) (by first | exact fun _=>rfl | exact fun h=>absurd h (by decide)) (by first | exact fun _=>rfl | exact fun h=>absurd h (by decide))⟩
  ·have g7:=hd 7 (of_decide_eq_true (by kernel_rfl))
   obtain⟨g6,rfl⟩:=hJ.m g7
   refine bC rfl rfl ?_
   go_simp
   exact⟨y,z,p,q,_,_,_,_,_,_,_,_,(by first | rfl | (and_intros<;>rfl)),fun j hj=> .inr (h6 j hj),hJ.mv g6 8 (by omega) (by first | exact fun _=>rfl | exact fun h=>absurd h (by decide)) (by first | exact fun _=>rfl | exact fun h=>absurd h (by decide)) (by first | exact fun _=>rfl | exact fun h=>absurd h (by decide)) (by first | exact fun _=>rfl | exact fun h=>absurd h (by decide)) (by first | exact fun _=>rfl | exact fun h=>absurd h (by decide)) (by first | exact fun _=>rfl | exact fun h=>absurd h (by decide)) (by first | exact fun _=>rfl | exact fun h=>absurd h (by decide)) (by first | exact fun _=>rfl | exact fun h=>absurd h (by decide)) (by first | exact fun _=>rfl | exact fun h=>absurd h (by decide)) (by first | exact fun _=>rfl | exact fun h=>absurd h (by decide))⟩
  ·have g7:=hd 7 (of_decide_eq_true (by kernel_rfl))
   obtain⟨g6,rfl⟩:=hJ.m g7
   refine bC rfl rfl ?_
   go_simp
   exact⟨y,z,p,q,_,_,_,_,_,_,_,_,(by first | rfl | (and_intros<;>rfl)),fun j hj=> .inr (h6 j hj),hJ.mv g6 9 (by omega) (by first | exact fun _=>rfl | exact fun h=>absurd h (by decide)) (by first | exact fun _=>rfl | exact fun h=>absurd h (by decide)) (by first | exact fun _=>rfl | exact fun h=>absurd h (by decide)) (by first | exact fun _=>rfl | exact fun h=>absurd h (by decide)) (by first | exact fun _=>rfl | exact fun h=>absurd h (by decide)) (by first | exact fun _=>rfl | exact fun h=>absurd h (by decide)) (by first | exact fun _=>rfl | exact fun h=>absurd h (by decide)) (by first | exact fun _=>rfl | exact fun h=>absurd h (by decide)) (by first | exact fun _=>rfl | exact fun h=>absurd h (by decide)) (by first | exact fun _=>rfl | exact fun h=>absurd h (by decide))⟩
  ·have g7:=hd 7 (of_decide_eq_true (by kernel_rfl))
   obtain⟨g6,rfl⟩:=hJ.m g7
   refine bC rfl rfl ?_
   go_simp
   exact⟨y,z,p,q,_,_,_,_,_,_,_,_,(by first | rfl | (and_intros<;>rfl)),fun j hj=> .inr (h6 j hj),hJ.mv g6 10 (by omega) (by first | exact fun _=>rfl | exact fun h=>absurd h (by decide)) (by first | exact fun _=>rfl | exact fun h=>absurd h (by decide)) (by first | exact fun _=>rfl | exact fun h=>absurd h (by decide)) (by first | exact fun _=>rfl | exact fun h=>absurd h (by decide)) (by first | exact fun _=>rfl | exact fun h=>absurd h (by decide)) (by first | exact fun _=>rfl | exact fun h=>absurd h (by decide)) (by first | exact fun _=>rfl | exact fun h=>absurd h (by decide)) (by first | exact fun _=>rfl | exact fun h=>absurd h (by decide)) (by first | exact fun _=>rfl | exact fun h=>absurd h (by decide)) (by first | exact fun _=>rfl | exact fun h=>absurd h (by decide))⟩
  ·refine bC rfl rfl ?_
   go_simp
   exact⟨y,z,w.heap.size,q,_,_,_,_,_,_,_,_,(by first | rfl | (and_intros<;>rfl)),fun j hj=> .inr (h6 j hj),hJ.PV hn⟩
  ·refine bC rfl rfl ?_
   go_simp
   exact⟨y,z,p,w.heap.size,_,_,_,_,_,_,_,_,(by first | rfl | (and_intros<;>rfl)),fun j hj=> .inr (h6 j hj),hJ.PW hn⟩
  ·have gA:=hd 11 (of_decide_eq_true (by kernel_rfl))
   have gB:=hd 8 (of_decide_eq_true (by kernel_rfl))
   obtain⟨rfl,_,x',gx,_⟩:=hJ.a1 gA
   obtain⟨g6,rfl⟩:=hJ.e1 gB
   obtain⟨⟨ca,cn,cc⟩,⟨fa,aX,fc⟩,⟨la,ln,lc⟩,⟨ba,b_n,bc⟩⟩:=y
   obtain⟨a0,a1,a2,a3,_⟩:=ay gx
   have f0:=aA gx 0
   have f1:=aA gx 1
   have f2:=aA gx 2
   have f3:=aA gx 3
   unfold gZ
   refine bC rfl rfl ?_
   go_simp
   exact⟨_,_,p,q,_,_,_,_,_,_,_,_,(by first | rfl | (and_intros<;>rfl)),fun j hj=> .inr (h6 j hj),hJ.st1 g6 gA⟩
  ·have gA:=hd 12 (of_decide_eq_true (by kernel_rfl))
   have gB:=hd 9 (of_decide_eq_true (by kernel_rfl))
   obtain⟨rfl,_,x',gx,_⟩:=hJ.a2 gA
   obtain⟨g6,rfl⟩:=hJ.e2 gB
   obtain⟨⟨ca,cn,cc⟩,⟨fa,aX,fc⟩,⟨la,ln,lc⟩,⟨ba,b_n,bc⟩⟩:=z
   obtain⟨a0,a1,a2,a3,_⟩:=ay gx
   have f0:=aA gx 0
   have f1:=aA gx 1
   have f2:=aA gx 2
   have f3:=aA gx 3
   unfold gZ
   refine bC rfl rfl ?_
   go_simp
   exact⟨_,_,p,q,_,_,_,_,_,_,_,_,(by first | rfl | (and_intros<;>rfl)),fun j hj=> .inr (h6 j hj),hJ.st2 g6 gA⟩
  ·have g10:=hd 10 (of_decide_eq_true (by kernel_rfl))
   obtain⟨g6,rfl⟩:=hJ.e3 g10
   refine bC rfl rfl ?_
   go_simp
   exact⟨y,z,p,q,_,_,_,_,_,_,_,_,(by first | rfl | (and_intros<;>rfl)),fun j hj=> .inr (h6 j hj),hJ.mv g6 15 (by omega) (by first | exact fun _=>rfl | exact fun h=>absurd h (by decide)) (by first | exact fun _=>rfl | exact fun h=>absurd h (by decide)) (by first | exact fun _=>rfl | exact fun h=>absurd h (by decide)) (by first | exact fun _=>rfl | exact fun h=>absurd h (by decide)) (by first | exact fun _=>rfl | exact fun h=>absurd h (by decide)) (by first | exact fun _=>rfl | exact fun h=>absurd h (by decide)) (by first | exact fun _=>rfl | exact fun h=>absurd h (by decide)) (by first | exact fun _=>rfl | exact fun h=>absurd h (by decide)) (by first | exact fun _=>rfl | exact fun h=>absurd h (by decide)) (by first | exact fun _=>rfl | exact fun h=>absurd h (by decide))⟩
 ·intro D a w hI hall
  obtain⟨y,z,p,q,vT,vM,vA,vB,vC,vp,vq,vo,rfl,_,hJ⟩:=hI
  obtain⟨rfl,rfl,rfl,f1,f2,f3,f4,f5,f6,f7⟩:=hJ.fin (fun j hj=>hall j hj)
  exact HRR.out _ _ ⟨_,_,_,_,_,_,_,_,_,_,_,_,_,_,⟨y,z,p,q,rfl,rfl,rfl,f1,f2,f3,f4,f5,f6,f7⟩,rfl⟩
end Go.Proofs.YtlfopoimbbpfdaaGreat
namespace Go.Proofs.YtlfopoimbbpfdaaGreat
open Go.RowKit
structure Sx where
 a:Int
 b:Int
 c:Int
 d:Int
 e:Int
 f:Int
def Ud (x:Sx):Value:=.agg #[.int .i64 x.a,.int .i64 x.b,.int .i64 x.c,.int .i64 x.d,.int .i64 x.e,.int .i64 x.f]
abbrev Bs (w:World) (p:Nat) (x:Sx):Prop:=w.heap[p]? =some (.cells #[.int .i64 x.a,.int .i64 x.b,.int .i64 x.c,.int .i64 x.d,.int .i64 x.e,.int .i64 x.f] 42 (0,0))
def zSx:Sx:=⟨0,0,0,0,0,0⟩
theorem Bs.lt {w:World} {p:Nat} {x:Sx} (h:Bs w p x):p<w.heap.size:=(bg h).1
theorem GZ {w:World} {p:Nat} {x:Sx} (h:Bs w p x) (y:Sx):Bs ((((((w.setCell ⟨p,0,none⟩ (.int .i64 y.a)).setCell ⟨p,1,none⟩ (.int .i64 y.b)).setCell ⟨p,2,none⟩ (.int .i64 y.c)).setCell ⟨p,3,none⟩ (.int .i64 y.d)).setCell ⟨p,4,none⟩ (.int .i64 y.e)).setCell ⟨p,5,none⟩ (.int .i64 y.f)) p y:=by
 simp[Bs,World.setCell,Array.getElem?_modify,h]
theorem xW (w:World) (b c:Nat) (h:c≠b) (x0 x1 x2 x3 x4 x5:Value):((((((w.setCell ⟨b,0,none⟩ x0).setCell ⟨b,1,none⟩ x1).setCell ⟨b,2,none⟩ x2).setCell ⟨b,3,none⟩ x3).setCell ⟨b,4,none⟩ x4).setCell ⟨b,5,none⟩ x5).heap[c]? =w.heap[c]? :=by
 have h':¬b=c:=fun e=>h e.symm
 simp[World.setCell,Array.getElem?_modify,h']
theorem XD {B:Nat} {w W:World} (h:Below B w W) {p:Nat} (hp:B≤p) (x0 x1 x2 x3 x4 x5:Value):Below B w ((((((W.setCell ⟨p,0,none⟩ x0).setCell ⟨p,1,none⟩ x1).setCell ⟨p,2,none⟩ x2).setCell ⟨p,3,none⟩ x3).setCell ⟨p,4,none⟩ x4).setCell ⟨p,5,none⟩ x5):=(((((h.setCell hp _).setCell hp _).setCell hp _).setCell hp _).setCell hp _).setCell hp _
structure zD (W:World) (T U:Sx) (D:Nat→Prop) (p q:Nat) (vT vU vp vq:Value) (w:World):Prop where
 aZ:Below W.heap.size W w
 k1:D 1→vT=Ud T
 k2:D 3→vU=Ud U
 a1:D 4→vp=gZ p∧W.heap.size≤p∧ ∃x,Bs w p x∧(D 6→x=T)
 a2:D 5→vq=gZ q∧W.heap.size≤q∧ ∃x,Bs w q x∧(D 7→x=U)
 ne:D 4→D 5→p≠q
 s1:D 6→D 4
 s2:D 7→D 5
section
variable {W w w':World} {T U:Sx} {D:Nat→Prop} {p q:Nat} {vT vU vp vq:Value}
theorem zD.call (h:zD W T U D p q vT vU vp vq w) (hb:Below w.heap.size w w') (i:Nat) (hi:i=1∨i=3) {vT' vU':Value} (h1:i=1→vT'=Ud T) (h3:i=3→vU'=Ud U) (g1:i≠1→vT'=vT) (g3:i≠3→vU'=vU):
  zD W T U (fun j=>j=i∨D j) p q vT' vU' vp vq w':=by
 refine⟨h.aZ.trans (hb.mono h.aZ.size),fun g=>?_,fun g=>?_,fun g=>?_,fun g=>?_,fun g g2=>h.ne (aQ g (by omega)) (aQ g2 (by omega)),fun g=> .inr (h.s1 (aQ g (by omega))),fun g=> .inr (h.s2 (aQ g (by omega)))⟩
 ·by_cases e:i=1
  ·exact h1 e
  ·rw[g1 e];exact h.k1 (aQ g (fun h=>e h.symm))
 ·by_cases e:i=3
  ·exact h3 e
  ·rw[g3 e];exact h.k2 (aQ g (fun h=>e h.symm))
 ·obtain⟨g1,g2,x,g3,g4⟩:=h.a1 (aQ g (by omega))
  exact⟨g1,g2,x,aj g3 hb g3.lt,fun g=>g4 (aQ g (by omega))⟩
 ·obtain⟨g1,g2,x,g3,g4⟩:=h.a2 (aQ g (by omega))
  exact⟨g1,g2,x,aj g3 hb g3.lt,fun g=>g4 (aQ g (by omega))⟩
theorem zD.PV (h:zD W T U D p q vT vU vp vq w) (hn:¬D 4):zD W T U (fun j=>j=4∨D j) w.heap.size q vT vU (gZ w.heap.size) vq (w.alloc (.cells #[.int .i64 0,.int .i64 0,.int .i64 0,.int .i64 0,.int .i64 0,.int .i64 0] 42)):=by
 have hb:Below w.heap.size w (w.alloc (.cells #[.int .i64 0,.int .i64 0,.int .i64 0,.int .i64 0,.int .i64 0,.int .i64 0] 42)):=(aL _ _).alloc (aC _) _
 refine⟨h.aZ.trans (hb.mono h.aZ.size),fun g=>h.k1 (aQ g (by omega)),fun g=>h.k2 (aQ g (by omega)),fun _=>⟨rfl,h.aZ.size,zSx,heap_alloc_new w _,fun g=>absurd (h.s1 (aQ g (by omega))) hn⟩,fun g=>?_,fun _ g2=>?_,fun _=> .inl rfl,fun g=> .inr (h.s2 (aQ g (by omega)))⟩
 ·obtain⟨g1,g2,x,g3,g4⟩:=h.a2 (aQ g (by omega))
  exact⟨g1,g2,x,aj g3 hb g3.lt,fun g=>g4 (aQ g (by omega))⟩
 ·obtain⟨_,_,x,g3,_⟩:=h.a2 (aQ g2 (by omega))
  have:=g3.lt
  omega
theorem zD.PW (h:zD W T U D p q vT vU vp vq w) (hn:¬D 5):zD W T U (fun j=>j=5∨D j) p w.heap.size vT vU vp (gZ w.heap.size) (w.alloc (.cells #[.int .i64 0,.int .i64 0,.int .i64 0,.int .i64 0,.int .i64 0,.int .i64 0] 42)):=by
 have hb:Below w.heap.size w (w.alloc (.cells #[.int .i64 0,.int .i64 0,.int .i64 0,.int .i64 0,.int .i64 0,.int .i64 0] 42)):=(aL _ _).alloc (aC _) _
 refine⟨h.aZ.trans (hb.mono h.aZ.size),fun g=>h.k1 (aQ g (by omega)),fun g=>h.k2 (aQ g (by omega)),fun g=>?_,fun _=>⟨rfl,h.aZ.size,zSx,heap_alloc_new w _,fun g=>absurd (h.s2 (aQ g (by omega))) hn⟩,fun g2 _=>?_,fun g=> .inr (h.s1 (aQ g (by omega))),fun _=> .inl rfl⟩
 ·obtain⟨g1,g2,x,g3,g4⟩:=h.a1 (aQ g (by omega))
  exact⟨g1,g2,x,aj g3 hb g3.lt,fun g=>g4 (aQ g (by omega))⟩
 ·obtain⟨_,_,x,g3,_⟩:=h.a1 (aQ g2 (by omega))
  have:=g3.lt
  omega
theorem zD.st1 (h:zD W T U D p q vT vU vp vq w) (h4:D 4):zD W T U (fun j=>j=6∨D j) p q vT vU vp vq ((((((w.setCell ⟨p,0,none⟩ (.int .i64 T.a)).setCell ⟨p,1,none⟩ (.int .i64 T.b)).setCell ⟨p,2,none⟩ (.int .i64 T.c)).setCell ⟨p,3,none⟩ (.int .i64 T.d)).setCell ⟨p,4,none⟩ (.int .i64 T.e)).setCell ⟨p,5,none⟩ (.int .i64 T.f)):=by
 obtain⟨a1,a2,x,a3,_⟩:=h.a1 h4
 refine⟨XD h.aZ a2 _ _ _ _ _ _,fun g=>h.k1 (aQ g (by omega)),fun g=>h.k2 (aQ g (by omega)),fun _=>⟨a1,a2,T,GZ a3 T,fun _=>rfl⟩,fun g=>?_,fun g g2=>h.ne (aQ g (by omega)) (aQ g2 (by omega)),fun _=> .inr h4,fun g=> .inr (h.s2 (aQ g (by omega)))⟩
 have g':=aQ g (by omega)
 obtain⟨g1,g2,x',g3,g4⟩:=h.a2 g'
 exact⟨g1,g2,x',(xW w p q (fun e=>h.ne h4 g' e.symm) _ _ _ _ _ _).trans g3,fun g=>g4 (aQ g (by omega))⟩
theorem zD.st2 (h:zD W T U D p q vT vU vp vq w) (h5:D 5):zD W T U (fun j=>j=7∨D j) p q vT vU vp vq ((((((w.setCell ⟨q,0,none⟩ (.int .i64 U.a)).setCell ⟨q,1,none⟩ (.int .i64 U.b)).setCell ⟨q,2,none⟩ (.int .i64 U.c)).setCell ⟨q,3,none⟩ (.int .i64 U.d)).setCell ⟨q,4,none⟩ (.int .i64 U.e)).setCell ⟨q,5,none⟩ (.int .i64 U.f)):=by
 obtain⟨a1,a2,x,a3,_⟩:=h.a2 h5
 refine⟨XD h.aZ a2 _ _ _ _ _ _,fun g=>h.k1 (aQ g (by omega)),fun g=>h.k2 (aQ g (by omega)),fun g=>?_,fun _=>⟨a1,a2,U,GZ a3 U,fun _=>rfl⟩,fun g g2=>h.ne (aQ g (by omega)) (aQ g2 (by omega)),fun g=> .inr (h.s1 (aQ g (by omega))),fun _=> .inr h5⟩
 have g':=aQ g (by omega)
 obtain⟨g1,g2,x',g3,g4⟩:=h.a1 g'
 exact⟨g1,g2,x',(xW w q p (fun e=>h.ne g' h5 e) _ _ _ _ _ _).trans g3,fun g=>g4 (aQ g (by omega))⟩
theorem zD.start (h:Below W.heap.size W w) (hD:∀j,j<8→3≤j→ ¬D j) (h1:¬D 1):zD W T U D p q vT vU vp vq w:=
 ⟨h,fun g=>absurd g h1,fun g=>absurd g (hD _ (by omega) (by omega)),fun g=>absurd g (hD _ (by omega) (by omega)),fun g=>absurd g (hD _ (by omega) (by omega)),fun g=>absurd g (hD _ (by omega) (by omega)),fun g=>absurd g (hD _ (by omega) (by omega)),fun g=>absurd g (hD _ (by omega) (by omega))⟩
theorem zD.fin (h:zD W T U D p q vT vU vp vq w) (hD:∀j,j<8→D j):vp=gZ p∧vq=gZ q∧Bs w p T∧Bs w q U∧Below W.heap.size W w∧W.heap.size≤p∧W.heap.size≤q:=by
 obtain⟨p1,p2,x1,p3,p4⟩:=h.a1 (hD _ (by omega))
 obtain⟨q1,q2,x2,q3,q4⟩:=h.a2 (hD _ (by omega))
 obtain rfl:=p4 (hD _ (by omega))
 obtain rfl:=q4 (hD _ (by omega))
 exact⟨p1,q1,p3,q3,h.aZ,p2,q2⟩
end
end Go.Proofs.YtlfopoimbbpfdaaGreat
namespace Go.Proofs.YtlfopoimbbpfdaaGreat
open Go.RowKit
attribute [local go_sem ↓] Go.wp_at_zero Go.wp_at_succ
set_option maxRecDepth 100000 in
set_option maxHeartbeats 8000000 in
theorem OV (W:World) (p3:Nat) (y:bZ) (b:Bk) (TT UU:Sx) (hT:oh b kA= [TT.a,TT.b,TT.c,TT.d,TT.e,TT.f]) (hU:oh b kB= [UU.a,UU.b,UU.c,UU.d,UU.e,UU.f]) (h3:Bx W p3 y) (hy:eD W y b) (hB:∀key,Mt b key) (u0 u1 u2 u4 u5 u6 u7 u8 u9 u10 u11 u12 u13 u14 u15 u16 u17 u18 u19 u20 u21 u22 u23 u24 u25 u26 u27 u28 u29 u30 u31 u32 u33 u34 u35 u36 u37 u38 u39 u40 u41 u42 u43 u44 u45 u46 u47 u48 u49 u50 u51 u52 u53 u54 u55 u56 u57 u58 u59 u60 u61 u62 u63 u64 u65 u66 u67 u68 u69 u70 u71 u72 u73 u74 u75 u76 u77 u78 u79 u80 u81 u82 u83 u84 u85 u86 u87 u88 u89 u90 u91 u92 u93 u94 u95 u96 u97 u98 u99 u100 u101 u102 u103 u104 u105 u106 u107 u108 u109 u110 u111 u112 u113 u114 u115 u116 u117 u118 u119 u120 u121 u122 u123 u124 u125 u126 u127 u128 u129:Value) (RR:Act→World→Prop)
  (hRR:∀a' w',(∃v9 v10 v40 v41 v42 v43,(∃ (p q:Nat),v9=gZ p∧v10=gZ q∧Bs w' p TT∧Bs w' q UU∧Below W.heap.size W w'∧W.heap.size≤p∧W.heap.size≤q)∧a'=⟨#[u0,u1,u2,.pointer (some ⟨p3,0,none⟩),u4,u5,u6,u7,u8,v9,v10,u11,u12,u13,u14,u15,u16,u17,u18,u19,u20,u21,u22,u23,u24,u25,u26,u27,u28,u29,u30,u31,u32,u33,u34,u35,u36,u37,u38,u39,v40,v41,v42,v43,u44,u45,u46,u47,u48,u49,u50,u51,u52,u53,u54,u55,u56,u57,u58,u59,u60,u61,u62,u63,u64,u65,u66,u67,u68,u69,u70,u71,u72,u73,u74,u75,u76,u77,u78,u79,u80,u81,u82,u83,u84,u85,u86,u87,u88,u89,u90,u91,u92,u93,u94,u95,u96,u97,u98,u99,u100,u101,u102,u103,u104,u105,u106,u107,u108,u109,u110,u111,u112,u113,u114,u115,u116,u117,u118,u119,u120,u121,u122,u123,u124,u125,u126,u127,u128,u129],[]⟩)→RR a' w'):
  ∀c,Tryz.f3.body.bind (kF 11)=some c→Code.wp Tryz.prog c (Exit.then RR (fun _ _ _=>False)) ⟨#[u0,u1,u2,.pointer (some ⟨p3,0,none⟩),u4,u5,u6,u7,u8,u9,u10,u11,u12,u13,u14,u15,u16,u17,u18,u19,u20,u21,u22,u23,u24,u25,u26,u27,u28,u29,u30,u31,u32,u33,u34,u35,u36,u37,u38,u39,u40,u41,u42,u43,u44,u45,u46,u47,u48,u49,u50,u51,u52,u53,u54,u55,u56,u57,u58,u59,u60,u61,u62,u63,u64,u65,u66,u67,u68,u69,u70,u71,u72,u73,u74,u75,u76,u77,u78,u79,u80,u81,u82,u83,u84,u85,u86,u87,u88,u89,u90,u91,u92,u93,u94,u95,u96,u97,u98,u99,u100,u101,u102,u103,u104,u105,u106,u107,u108,u109,u110,u111,u112,u113,u114,u115,u116,u117,u118,u119,u120,u121,u122,u123,u124,u125,u126,u127,u128,u129],[]⟩ W:=by
 refine pq rfl ?_
 have HT:=ah hT
 have HU:=ah hU
 have H3:=ah h3
 have HY:=ah hy
 have HB:=ah hB
 have HRR:=ah hRR
 have Bz:=h3.lt
 clear hT hU h3 hy hB hRR
 refine aS 7 (fun w'=>Below W.heap.size W w') (by kernel_rfl) ?_
 have hS0:Below W.heap.size W W.drew:=(aL _ _).drew
 refine aD (i:=0) (v:=fT y) rfl rfl (by kernel_rfl) (by kernel_rfl) (by kernel_rfl) (by kernel_rfl) (by kernel_rfl) (by decide) (fun _ _ _ h=>h) (.inl ⟨rfl,fun w' hw=>?_⟩) hS0 ?_
 ·obtain⟨⟨ca,cn,cc⟩,⟨fa,aX,fc⟩,⟨la,ln,lc⟩,⟨ba,b_n,bc⟩⟩:=y
  obtain⟨a0,a1,a2,a3,_⟩:=ay (aj H3.out hw Bz)
  simp only[Sv.v]at a0 a1 a2 a3
  go_simp
 refine aD (i:=2) (v:=fT y) rfl rfl (by kernel_rfl) (by kernel_rfl) (by kernel_rfl) (by kernel_rfl) (by kernel_rfl) (by decide) (fun _ _ _ h=>h) (.inl ⟨rfl,fun w' hw=>?_⟩) hS0 ?_
 ·obtain⟨⟨ca,cn,cc⟩,⟨fa,aX,fc⟩,⟨la,ln,lc⟩,⟨ba,b_n,bc⟩⟩:=y
  obtain⟨a0,a1,a2,a3,_⟩:=ay (aj H3.out hw Bz)
  simp only[Sv.v]at a0 a1 a2 a3
  go_simp
 refine mP (fun D a w=>∃ (p q:Nat) (vT vU vp vq:Value),a=⟨#[u0,u1,u2,.pointer (some ⟨p3,0,none⟩),u4,u5,u6,u7,u8,vp,vq,u11,u12,u13,u14,u15,u16,u17,u18,u19,u20,u21,u22,u23,u24,u25,u26,u27,u28,u29,u30,u31,u32,u33,u34,u35,u36,u37,u38,u39,fT y,vT,fT y,vU,u44,u45,u46,u47,u48,u49,u50,u51,u52,u53,u54,u55,u56,u57,u58,u59,u60,u61,u62,u63,u64,u65,u66,u67,u68,u69,u70,u71,u72,u73,u74,u75,u76,u77,u78,u79,u80,u81,u82,u83,u84,u85,u86,u87,u88,u89,u90,u91,u92,u93,u94,u95,u96,u97,u98,u99,u100,u101,u102,u103,u104,u105,u106,u107,u108,u109,u110,u111,u112,u113,u114,u115,u116,u117,u118,u119,u120,u121,u122,u123,u124,u125,u126,u127,u128,u129],[]⟩∧(∀j,j<3→j≠1→D j)∧zD W TT UU D p q vT vU vp vq w) (by kernel_rfl) (fun D a w h _=>by obtain⟨_,_,_,_,_,_,_,_,hJ⟩:=h;exact hJ.aZ) ?_ ?_ _ _ _ _ (of_decide_eq_true (by kernel_rfl)) (by kernel_rfl) ⟨0,0,_,_,_,_,rfl,of_decide_eq_true (by kernel_rfl),zD.start hS0 (of_decide_eq_true (by kernel_rfl)) (of_decide_eq_true (by kernel_rfl))⟩
 ·intro i hi D a w hI hn hd
  obtain⟨p,q,vT,vU,vp,vq,rfl,h0,hJ⟩:=hI
  have hi8:i<8:=hi
  have hne:¬ (i<3∧i≠1):=fun h=>hn (h0 i h.1 h.2)
  have hcs:i=1∨i=3∨i=4∨i=5∨i=6∨i=7:=by omega
  have hbl:=hJ.aZ
  clear hi hi8 hne
  rcases hcs with rfl | rfl | rfl | rfl | rfl | rfl
  ·refine bC rfl rfl ?_
   go_simp
   refine(qL y b kA w (HY.out.keep hbl (aC _)) (HB.out _)).mono ?_
   rw[HT.out]
   rintro e w' ⟨rfl,hb⟩
   exact⟨p,q,_,_,_,_,(by first | rfl | (and_intros<;>rfl)),fun j hj h1=> .inr (h0 j hj h1),hJ.call hb 1 (by omega) (fun _=>rfl) (fun h=>absurd h (by decide)) (fun h=>absurd rfl h) (fun _=>rfl)⟩
  ·refine bC rfl rfl ?_
   go_simp
   refine(qL y b kB w (HY.out.keep hbl (aC _)) (HB.out _)).mono ?_
   rw[HU.out]
   rintro e w' ⟨rfl,hb⟩
   exact⟨p,q,_,_,_,_,(by first | rfl | (and_intros<;>rfl)),fun j hj h1=> .inr (h0 j hj h1),hJ.call hb 3 (by omega) (fun h=>absurd h (by decide)) (fun _=>rfl) (fun _=>rfl) (fun h=>absurd rfl h)⟩
  ·refine bC rfl rfl ?_
   go_simp
   exact⟨w.heap.size,q,_,_,_,_,(by first | rfl | (and_intros<;>rfl)),fun j hj h1=> .inr (h0 j hj h1),hJ.PV hn⟩
  ·refine bC rfl rfl ?_
   go_simp
   exact⟨p,w.heap.size,_,_,_,_,(by first | rfl | (and_intros<;>rfl)),fun j hj h1=> .inr (h0 j hj h1),hJ.PW hn⟩
  ·have gA:=hd 4 (of_decide_eq_true (by kernel_rfl))
   have gB:=hd 1 (of_decide_eq_true (by kernel_rfl))
   obtain⟨rfl,_,x',gx,_⟩:=hJ.a1 gA
   obtain rfl:=hJ.k1 gB
   obtain⟨⟨a0,a1,a2,a3,a4,a5⟩,fz⟩:=jD gx
   have f0:=fz 0
   have f1:=fz 1
   have f2:=fz 2
   have f3:=fz 3
   have f4:=fz 4
   have f5:=fz 5
   unfold gZ Ud
   refine bC rfl rfl ?_
   go_simp
   exact⟨p,q,_,_,_,_,(by first | rfl | (and_intros<;>rfl)),fun j hj h1=> .inr (h0 j hj h1),hJ.st1 gA⟩
  ·have gA:=hd 5 (of_decide_eq_true (by kernel_rfl))
   have gB:=hd 3 (of_decide_eq_true (by kernel_rfl))
   obtain⟨rfl,_,x',gx,_⟩:=hJ.a2 gA
   obtain rfl:=hJ.k2 gB
   obtain⟨⟨a0,a1,a2,a3,a4,a5⟩,fz⟩:=jD gx
   have f0:=fz 0
   have f1:=fz 1
   have f2:=fz 2
   have f3:=fz 3
   have f4:=fz 4
   have f5:=fz 5
   unfold gZ Ud
   refine bC rfl rfl ?_
   go_simp
   exact⟨p,q,_,_,_,_,(by first | rfl | (and_intros<;>rfl)),fun j hj h1=> .inr (h0 j hj h1),hJ.st2 gA⟩
 ·intro D a w hI hall
  obtain⟨p,q,vT,vU,vp,vq,rfl,_,hJ⟩:=hI
  obtain⟨rfl,rfl,f1,f2,f3,f4,f5⟩:=hJ.fin (fun j hj=>hall j hj)
  exact HRR.out _ _ ⟨_,_,_,_,_,_,⟨p,q,rfl,rfl,f1,f2,f3,f4,f5⟩,rfl⟩
end Go.Proofs.YtlfopoimbbpfdaaGreat
