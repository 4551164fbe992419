/- What the law asks, in parts: Ae Af. -/
import Derived.Deep.DrawnRows
import Derived.Test.YtlfopoimbbpfdaaGreatPk29
import Derived.Test.YtlfopoimbbpfdaaGreatPk25
set_option linter.all false
set_option maxRecDepth 100000
set_option maxHeartbeats 16000000
namespace Go.Proofs.YtlfopoimbbpfdaaGreat
open Go.RowKit
section
attribute [local go_sem ↓] Go.wp_at_zero Go.wp_at_succ
theorem Xp {w W:World} {o:uq} (h:Gd w W o) (a b c:Int):Gd w (((W.setCell ⟨w.heap.size,0,none⟩ (.int .i64 a)).setCell ⟨w.heap.size,1,none⟩ (.int .i64 b)).setCell ⟨w.heap.size,2,none⟩ (.int .i64 c)) ⟨a,b,c,o.coll,o.ver,o.kind,o.key,o.text,o.n,o.time,o.dots⟩:=by
 refine⟨((h.bC.setCell (aC _) _).setCell (aC _) _).setCell (aC _) _,?_,?_⟩
 ·have:=h.k1
  simp[World.setCell,Array.getElem?_modify,this]
 ·rw[aX _ _ _ (by simp),aX _ _ _ (by simp),aX _ _ _ (by simp)];exact h.k2
theorem TU {w W:World} {o:uq} (h:Gd w W o) (a b c d:Int):Gd w ((((W.setCell ⟨w.heap.size,3,none⟩ (.int .i64 a)).setCell ⟨w.heap.size,4,none⟩ (.int .i64 b)).setCell ⟨w.heap.size,5,none⟩ (.int .i64 c)).setCell ⟨w.heap.size,9,none⟩ (.int .i64 d)) ⟨o.dev,o.epoch,o.seq,a,b,c,o.key,o.text,o.n,d,o.dots⟩:=by
 refine⟨(((h.bC.setCell (aC _) _).setCell (aC _) _).setCell (aC _) _).setCell (aC _) _,?_,?_⟩
 ·have:=h.k1
  simp[World.setCell,Array.getElem?_modify,this]
 ·rw[aX _ _ _ (by simp),aX _ _ _ (by simp),aX _ _ _ (by simp),aX _ _ _ (by simp)];exact h.k2
theorem Fh {w W:World} {o:uq} (h:Gd w W o) (k:ByteArray):Gd w (W.setCell ⟨w.heap.size,6,none⟩ (.string k)) ⟨o.dev,o.epoch,o.seq,o.coll,o.ver,o.kind,k,o.text,o.n,o.time,o.dots⟩:=by
 refine⟨h.bC.setCell (aC _) _,?_,?_⟩
 ·have:=h.k1
  simp[World.setCell,Array.getElem?_modify,this]
 ·rw[aX _ _ _ (by simp)];exact h.k2
theorem Fj {w W:World} {o:uq} (h:Gd w W o) (k:ByteArray):Gd w (W.setCell ⟨w.heap.size,7,none⟩ (.string k)) ⟨o.dev,o.epoch,o.seq,o.coll,o.ver,o.kind,o.key,k,o.n,o.time,o.dots⟩:=by
 refine⟨h.bC.setCell (aC _) _,?_,?_⟩
 ·have:=h.k1
  simp[World.setCell,Array.getElem?_modify,this]
 ·rw[aX _ _ _ (by simp)];exact h.k2
def Xq (n:Nat):ByteArray:=if n=0 then⟨#[]⟩else if n=1 then⟨#[116]⟩else if n=2 then⟨#[85,32]⟩else⟨#[32,118]⟩
def CellIs (b o:Nat) (v:Value) (w:World):Prop:=w.cell? ⟨b,o,none⟩=some v
theorem CellIs.keep {b o:Nat} {v:Value} {w w':World} (h:CellIs b o v w) (hb:Below w.heap.size w w'):CellIs b o v w':=by
 unfold CellIs at*;rw[hb.cell (p:=⟨b,o,none⟩) (World.block_lt_of_cell? w _ h)];exact h
theorem LQ (w:World) (m:Nat) (hm:m<3):CellIs w.heap.size m (.string (rH (m:Int))) (w.alloc (.cells #[.string ⟨#[97]⟩,.string ⟨#[98]⟩,.string ⟨#[120]⟩] 9)):=by
 have h:=heap_alloc_new w (.cells #[.string ⟨#[97]⟩,.string ⟨#[98]⟩,.string ⟨#[120]⟩] 9);unfold CellIs;have:m=0∨m=1∨m=2:=by omega
 rcases this with rfl | rfl | rfl<;>(simp only[World.cell?,h];rfl)
theorem Fp (w:World) (n:Nat) (hn:n<4):CellIs w.heap.size n (.string (Xq n)) (w.alloc (.cells #[.string ⟨#[]⟩,.string ⟨#[116]⟩,.string ⟨#[85,32]⟩,.string ⟨#[32,118]⟩] 9)):=by
 have h:=heap_alloc_new w (.cells #[.string ⟨#[]⟩,.string ⟨#[116]⟩,.string ⟨#[85,32]⟩,.string ⟨#[32,118]⟩] 9);unfold CellIs;have:n=0∨n=1∨n=2∨n=3:=by omega
 rcases this with rfl | rfl | rfl | rfl<;>(simp only[World.cell?,h];rfl)
theorem CellIs.set {b o:Nat} {v:Value} {w:World} (h:CellIs b o v w) {p i:Nat} (u:Value) (eP:b≠p∨o≠i):CellIs b o v (w.setCell ⟨p,i,none⟩ u):=by
 unfold CellIs at*;simp only[World.cell?,World.setCell,Array.getElem?_modify]at h⊢;by_cases hp:p=b
 ·subst hp
  have hi:i≠o:=by rcases eP with h | h;exact absurd rfl h;exact fun e=>h e.symm
  simp only[if_true]
  revert h
  cases w.heap[p]? with
  | none=>simp
  | some x=>cases x<;>simp[hi]
 ·rw[if_neg hp];exact h
theorem NW (w W:World) (o0 o:uq) (ds:List Dt) (h:Gd w W o) (hd:J4 w o.dots.v ds) (hk:o.kind=nD o0) (hy:o.key=o0.key) (hn:o.n=o0.n) {u0 u3 u4 u5 u6 u7 u8 u9 u10 u11 u12 u13 u14 u15 u16 u17 u18 u19 u20 u21 u22 u23 u24 u25 u26 u27 u28 u29 u30 u31 u32 u33 u34 u35 u36 u37 u38 u39 u40 u41 u42 u43 u44 u45 u46 u47 u48 u49 u50 u51 u52 u53 u54 u55 u56 u57 u58 u59 u60 u61 u62 u63 u64 u65 u66 u67 u68 u69 u70 u71 u72 u73 u74 u75 u76 u77 u78 u79 u80 u81 u82 u83 u84 u85 u86 u87 u88 u89 u90 u91 u92 u93 u94 u95 u96 u97 u98 u99 u100 u101 u102 u103 u104 u105 u106 u107 u108 u109 u110 u111 u112 u113 u114 u115 u116 u117 u118 u119 u120 u121 u122 u123 u124 u125 u126 u127 u128 u129 u130 u131 u132 u133 u134 u135 u136 u137 u138 u139 u140 u141 u142 u143 u144 u145 u146 u147 u148 u149 u150 u151 u152 u153 u154 u155 u156 u157 u158 u159:Value}:
  ∀c,Tryz.f24.body.bind (spine 3)=some c→Code.wp Tryz.prog c (bodyPost Tryz.prog Tryz.f24 (D5 w o0)) ⟨#[u0,.pointer (some ⟨w.heap.size,0,none⟩),.pointer (some ⟨w.heap.size+1,0,none⟩),u3,u4,u5,u6,u7,u8,u9,u10,u11,u12,u13,u14,u15,u16,u17,u18,u19,u20,u21,u22,u23,u24,u25,u26,u27,u28,u29,u30,u31,u32,u33,u34,u35,u36,u37,u38,u39,u40,u41,u42,u43,u44,u45,u46,u47,u48,u49,u50,u51,u52,u53,u54,u55,u56,u57,u58,u59,u60,u61,u62,u63,u64,u65,u66,u67,u68,u69,u70,u71,u72,u73,u74,u75,u76,u77,u78,u79,u80,u81,u82,u83,u84,u85,u86,u87,u88,u89,u90,u91,u92,u93,u94,u95,u96,u97,u98,u99,u100,u101,u102,u103,u104,u105,u106,u107,u108,u109,u110,u111,u112,u113,u114,u115,u116,u117,u118,u119,u120,u121,u122,u123,u124,u125,u126,u127,u128,u129,u130,u131,u132,u133,u134,u135,u136,u137,u138,u139,u140,u141,u142,u143,u144,u145,u146,u147,u148,u149,u150,u151,u152,u153,u154,u155,u156,u157,u158,u159],[]⟩ W:=by
 refine dP rfl ?_;obtain⟨o1,o2,o3,o4,o5,kd,ky,tx,on,tm,⟨oa,dn,oc⟩⟩:=o;simp only at hk hy hn hd;have HD:=ah hd;have HP:=ah (And.intro hk (And.intro hy hn));have HG:=ah (h.keep (aL _ _).drew);have HG0:=ah h;obtain⟨m,hm,hm3⟩:∃m:Nat,(ky.size:Int)%3=m∧m<3:=⟨ky.size%3,by omega,by omega⟩;obtain⟨n,hn4,hn5⟩:∃n:Nat,(tx.size:Int)%4=n∧n<4:=⟨tx.size%4,by omega,by omega⟩;have HKY:Hid (rH (m:Int)=CV o0):=ah (by unfold CV;rw[←hy,hm]);have m0:(0:Int)≤(m:Int):=by omega
 have m3:(m:Int)<3:=by omega
 have n0:(0:Int)≤(n:Int):=by omega
 have n4:(n:Int)<4:=by omega
 clear h hd hk hy hn;go_upto_region 3 with fail
 dsimp only
 go_cut[] (fun wx=>Gd w wx ⟨o1,o2,o3,o4,o5,kd,rH (m:Int),Xq n,on,tm,⟨oa,dn,oc⟩⟩)
 case rest=>
  go_step;exact NV w _ o0 _ ds hcut HD.out HP.out.1 HKY.out HP.out.2.2 _ rfl
 case first=>
 refine kX 15 (CellIs w.heap.size 6 (.string ky)) 17 (CellIs w.heap.size 7 (.string tx)) (by kernel_rfl) ?_;obtain⟨_,_,_,_,_,_,x6,x7,_,_,_,_⟩:=cO HG.out.k1;have aQ:CellIs w.heap.size 6 (.string ky) W.drew:=x6;have lW:CellIs w.heap.size 7 (.string tx) W.drew:=x7;clear x6 x7 HG0;generalize W.drew=Wd at*;have sj:Below Wd.heap.size Wd Wd:=aL _ _;have hqw:w.heap.size<Wd.heap.size:=(bq HG.out.k1).1;refine bF (i:=1) (v:=.pointer (some ⟨w.heap.size,6,none⟩)) rfl (by kernel_rfl) (fun _ _ _ h=>h) (.inl ⟨rfl,fun w' _=>?_⟩) ⟨fun _=>aQ,fun _=>lW⟩ ?_
 ·go_simp
 refine JX (i:=2) (v:=.string ky) rfl rfl (by kernel_rfl) (by kernel_rfl) (by kernel_rfl) (by kernel_rfl) (by kernel_rfl) (by decide) (by decide) (fun _ _ _ h=>h) (.inl ⟨rfl,fun w' hw=>?_⟩) ⟨fun _=>aQ,fun _=>lW⟩ ?_
 ·unfold CellIs at hw
  go_simp
 refine bF (i:=3) (v:=.int .i64 ky.size) rfl (by kernel_rfl) (fun _ _ _ h=>h) (.inl ⟨rfl,fun w' _=>?_⟩) ⟨fun _=>aQ,fun _=>lW⟩ ?_
 ·go_simp
 refine bF (i:=8) (v:=.pointer (some ⟨w.heap.size,7,none⟩)) rfl (by kernel_rfl) (fun _ _ _ h=>h) (.inl ⟨rfl,fun w' _=>?_⟩) ⟨fun _=>aQ,fun _=>lW⟩ ?_
 ·go_simp
 refine oL (i:=9) (v:=.string tx) rfl rfl (by kernel_rfl) (by kernel_rfl) (by kernel_rfl) (by kernel_rfl) (by kernel_rfl) (by decide) (by decide) (fun _ _ _ h=>h) (.inl ⟨rfl,fun w' hw=>?_⟩) ⟨fun _=>aQ,fun _=>lW⟩ ?_
 ·unfold CellIs at hw
  go_simp
 refine bF (i:=10) (v:=.int .i64 tx.size) rfl (by kernel_rfl) (fun _ _ _ h=>h) (.inl ⟨rfl,fun w' _=>?_⟩) ⟨fun _=>aQ,fun _=>lW⟩ ?_
 ·go_simp
 refine Bq (i:=4) (v:=.int .i64 m) rfl (by kernel_rfl) (by kernel_rfl) (by kernel_rfl) (by decide) (by decide) (fun _ _ _ h=>h) ⟨rfl,67,#[.int .i64 ky.size,.int .i64 3],fun w' _=>?_,fun w' _=>by rw[←hm];exact jh _ _ _ (by omega) (by omega)⟩ ⟨fun _=>aQ,fun _=>lW⟩ ?_
 ·go_simp
 refine Bq (i:=11) (v:=.int .i64 n) rfl (by kernel_rfl) (by kernel_rfl) (by kernel_rfl) (by decide) (by decide) (fun _ _ _ h=>h) ⟨rfl,67,#[.int .i64 tx.size,.int .i64 4],fun w' _=>?_,fun w' _=>by rw[←hn4];exact jh _ _ _ (by omega) (by omega)⟩ ⟨fun _=>aQ,fun _=>lW⟩ ?_
 ·go_simp
 refine Ia (i:=0) (j:=7) (by kernel_rfl) rfl rfl rfl rfl ?_ ?_
 ·go_simp
  have qR:Below Wd.heap.size Wd (Wd.alloc (.cells #[.string ⟨#[97]⟩,.string ⟨#[98]⟩,.string ⟨#[120]⟩] 9)):=(aL _ _).alloc (aC _) _;have bB:Below Wd.heap.size Wd (Wd.alloc (.cells #[.string ⟨#[97]⟩,.string ⟨#[98]⟩,.string ⟨#[120]⟩] 9)):=sj.trans (qR.mono sj.size);have hA0:=LQ Wd m hm3;have hq0:Wd.heap.size≤Wd.heap.size:=sj.size;have mq:=aQ.keep qR;have Fq:=lW.keep qR;first | refine⟨⟨fun _=>mq,fun _=>Fq⟩,?_⟩ | skip
  clear aQ lW qR;have aQ:=mq;have lW:=Fq;clear mq Fq;generalize Wd.alloc (.cells #[.string ⟨#[97]⟩,.string ⟨#[98]⟩,.string ⟨#[120]⟩] 9)=V1 at*;obtain⟨q3,CQ⟩:∃q3,q3=Wd.heap.size:=⟨_,rfl⟩;have hq0:Wd.heap.size≤q3:=by rw[CQ];exact aC _
  rw[←CQ]at hA0⊢;clear CQ;refine bF (i:=5) (v:=.pointer (some ⟨q3,m,none⟩)) rfl (by kernel_rfl) (fun _ _ _ h=>h) (.inl ⟨rfl,fun w' _=>?_⟩) ⟨fun _=>aQ,fun _=>lW⟩ ?_
  ·go_simp
  refine qE (S':=CellIs w.heap.size 6 (.string ky)) (T':=(fun V=>CellIs w.heap.size 7 (.string tx) V∧CellIs q3 m (.string (rH (m:Int))) V)) (fun _ h=>h) (fun _ h=>h.1) _ _ _ _ ?_;have lW:=And.intro lW hA0;refine oL (i:=6) (v:=.string (rH (m:Int))) rfl rfl (by kernel_rfl) (by kernel_rfl) (by kernel_rfl) (by kernel_rfl) (by kernel_rfl) (by decide) (by decide) (fun _ _ _ h=>h) (.inl ⟨rfl,fun w' hw=>?_⟩) ⟨fun _=>aQ,fun _=>lW⟩ ?_
  ·have h8:=hw.2
   unfold CellIs at h8;go_simp
  refine bF (i:=14) (v:=.pointer (some ⟨w.heap.size,6,none⟩)) rfl (by kernel_rfl) (fun _ _ _ h=>h) (.inl ⟨rfl,fun w' _=>?_⟩) ⟨fun _=>aQ,fun _=>lW⟩ ?_
  ·go_simp
  refine Ia (i:=7) (j:=15) (by kernel_rfl) rfl rfl rfl rfl ?_ ?_
  ·go_simp
   have qR:Below V1.heap.size V1 (V1.alloc (.cells #[.string ⟨#[]⟩,.string ⟨#[116]⟩,.string ⟨#[85,32]⟩,.string ⟨#[32,118]⟩] 9)):=(aL _ _).alloc (aC _) _;have bO:Below Wd.heap.size Wd (V1.alloc (.cells #[.string ⟨#[]⟩,.string ⟨#[116]⟩,.string ⟨#[85,32]⟩,.string ⟨#[32,118]⟩] 9)):=bB.trans (qR.mono bB.size);have hA7:=Fp V1 n hn5;have hq7:Wd.heap.size≤V1.heap.size:=bB.size;have mq:=aQ.keep qR;have Fq:=And.intro (lW.1.keep qR) (lW.2.keep qR);first | refine⟨⟨fun _=>mq,fun _=>Fq⟩,?_⟩ | skip
   clear aQ lW qR;have aQ:=mq;have lW:=Fq;clear mq Fq;generalize V1.alloc (.cells #[.string ⟨#[]⟩,.string ⟨#[116]⟩,.string ⟨#[85,32]⟩,.string ⟨#[32,118]⟩] 9)=V2 at*;generalize V1.heap.size=q4 at*;refine bF (i:=12) (v:=.pointer (some ⟨q4,n,none⟩)) rfl (by kernel_rfl) (fun _ _ _ h=>h) (.inl ⟨rfl,fun w' _=>?_⟩) ⟨fun _=>aQ,fun _=>lW⟩ ?_
   ·go_simp
   refine qE (S':=CellIs w.heap.size 6 (.string ky)) (T':=(fun V=>CellIs w.heap.size 7 (.string tx) V∧CellIs q3 m (.string (rH (m:Int))) V∧CellIs q4 n (.string (Xq n)) V)) (fun _ h=>h) (fun _ h=>⟨h.1,h.2.1⟩) _ _ _ _ ?_;have lW:=And.intro lW.1 (And.intro lW.2 hA7);refine oL (i:=13) (v:=.string (Xq n)) rfl rfl (by kernel_rfl) (by kernel_rfl) (by kernel_rfl) (by kernel_rfl) (by kernel_rfl) (by decide) (by decide) (fun _ _ _ h=>h) (.inl ⟨rfl,fun w' hw=>?_⟩) ⟨fun _=>aQ,fun _=>lW⟩ ?_
   ·have h8:=hw.2.2
    unfold CellIs at h8;go_simp
   obtain⟨_,_,_,_,_,_,y6,y7,_,_,_,yf⟩:=cO (HG.out.keep bO).k1;have g6:=yf 6;have g7:=yf 7;refine bZ (i:=15) (by kernel_rfl) rfl rfl ?_;have TV:=And.intro (lW.1.set (p:=w.heap.size) (i:=6) (.string (rH (m:Int))) (.inr (by omega))) (And.intro (lW.2.1.set (p:=w.heap.size) (i:=6) (.string (rH (m:Int))) (.inl (by omega))) (lW.2.2.set (p:=w.heap.size) (i:=6) (.string (rH (m:Int))) (.inl (by omega))));go_simp;first | refine⟨⟨fun h=>absurd h (by decide),fun _=>TV⟩,?_⟩ | skip
   refine bZ (i:=16) (by kernel_rfl) rfl rfl ?_;go_simp;first | refine⟨⟨fun h=>absurd h (by decide),fun _=>TV⟩,?_⟩ | skip
   refine bZ (i:=17) (by kernel_rfl) rfl rfl ?_;go_simp;first | refine⟨⟨fun h=>absurd h (by decide),fun h=>absurd h (by decide)⟩,?_⟩ | skip
   refine kW (by kernel_rfl) ?_;go_wp2;go_meet;exact Fj (Fh (HG.out.keep bO) _) _
  ·obtain⟨_,_,_,_,_,_,y6,y7,_,_,_,yf⟩:=cO (HG.out.keep bB).k1
   have g6:=yf 6;have g7:=yf 7;have TV:=And.intro (lW.1.set (p:=w.heap.size) (i:=6) (.string (rH (m:Int))) (.inr (by omega))) (lW.2.set (p:=w.heap.size) (i:=6) (.string (rH (m:Int))) (.inl (by omega)));go_simp;first | refine⟨⟨fun h=>absurd h (by decide),fun _=>TV⟩,?_⟩ | skip
   have HGs:=ah (Fh (HG.out.keep bB) (rH (m:Int)));simp only at HGs;clear lW;have lW:=TV;clear TV y6 y7 yf g6 g7;generalize V1.setCell ⟨w.heap.size,6,none⟩ (.string (rH (m:Int)))=V3 at*;refine bZ (i:=7) (by kernel_rfl) rfl rfl ?_;go_simp;have qR:Below V3.heap.size V3 (V3.alloc (.cells #[.string ⟨#[]⟩,.string ⟨#[116]⟩,.string ⟨#[85,32]⟩,.string ⟨#[32,118]⟩] 9)):=(aL _ _).alloc (aC _) _;have hA7:=Fp V3 n hn5;have Fq:=And.intro (lW.1.keep qR) (lW.2.keep qR);have HGe:=ah (HGs.out.keep qR);first | refine⟨⟨fun h=>absurd h (by decide),fun _=>Fq⟩,?_⟩ | skip
   clear lW qR HGs;have lW:=Fq;clear Fq;generalize V3.alloc (.cells #[.string ⟨#[]⟩,.string ⟨#[116]⟩,.string ⟨#[85,32]⟩,.string ⟨#[32,118]⟩] 9)=V4 at*;generalize V3.heap.size=q4 at*;refine bF (i:=12) (v:=.pointer (some ⟨q4,n,none⟩)) rfl (by kernel_rfl) (fun _ _ _ h=>h) (.inl ⟨rfl,fun w' _=>?_⟩) ⟨fun h=>absurd h (by decide),fun _=>lW⟩ ?_
   ·go_simp
   refine bZ (i:=13) (by kernel_rfl) rfl rfl ?_;unfold CellIs at hA7;go_simp;first | refine⟨⟨fun h=>absurd h (by decide),fun _=>lW⟩,?_⟩ | skip
   obtain⟨_,_,_,_,_,_,y6,y7,_,_,_,yf⟩:=cO HGe.out.k1;have g7:=yf 7;refine bZ (i:=16) (by kernel_rfl) rfl rfl ?_;go_simp;first | refine⟨⟨fun h=>absurd h (by decide),fun _=>lW⟩,?_⟩ | skip
   refine bZ (i:=17) (by kernel_rfl) rfl rfl ?_;go_simp;first | refine⟨⟨fun h=>absurd h (by decide),fun h=>absurd h (by decide)⟩,?_⟩ | skip
   refine kW (by kernel_rfl) ?_;go_wp2;go_meet;exact Fj HGe.out _
 ·go_simp
  have qR:Below Wd.heap.size Wd (Wd.alloc (.cells #[.string ⟨#[]⟩,.string ⟨#[116]⟩,.string ⟨#[85,32]⟩,.string ⟨#[32,118]⟩] 9)):=(aL _ _).alloc (aC _) _;have bB:Below Wd.heap.size Wd (Wd.alloc (.cells #[.string ⟨#[]⟩,.string ⟨#[116]⟩,.string ⟨#[85,32]⟩,.string ⟨#[32,118]⟩] 9)):=sj.trans (qR.mono sj.size);have hA7:=Fp Wd n hn5;have hq7:Wd.heap.size≤Wd.heap.size:=sj.size;have mq:=aQ.keep qR;have Fq:=lW.keep qR;first | refine⟨⟨fun _=>mq,fun _=>Fq⟩,?_⟩ | skip
  clear aQ lW qR;have aQ:=mq;have lW:=Fq;clear mq Fq;generalize Wd.alloc (.cells #[.string ⟨#[]⟩,.string ⟨#[116]⟩,.string ⟨#[85,32]⟩,.string ⟨#[32,118]⟩] 9)=V1 at*;obtain⟨q4,JJ⟩:∃q4,q4=Wd.heap.size:=⟨_,rfl⟩;have hq7:Wd.heap.size≤q4:=by rw[JJ];exact aC _
  rw[←JJ]at hA7⊢;clear JJ;refine bF (i:=12) (v:=.pointer (some ⟨q4,n,none⟩)) rfl (by kernel_rfl) (fun _ _ _ h=>h) (.inl ⟨rfl,fun w' _=>?_⟩) ⟨fun _=>aQ,fun _=>lW⟩ ?_
  ·go_simp
  refine qE (S':=CellIs w.heap.size 6 (.string ky)) (T':=(fun V=>CellIs w.heap.size 7 (.string tx) V∧CellIs q4 n (.string (Xq n)) V)) (fun _ h=>h) (fun _ h=>h.1) _ _ _ _ ?_;have lW:=And.intro lW hA7;refine oL (i:=13) (v:=.string (Xq n)) rfl rfl (by kernel_rfl) (by kernel_rfl) (by kernel_rfl) (by kernel_rfl) (by kernel_rfl) (by decide) (by decide) (fun _ _ _ h=>h) (.inl ⟨rfl,fun w' hw=>?_⟩) ⟨fun _=>aQ,fun _=>lW⟩ ?_
  ·have h8:=hw.2
   unfold CellIs at h8;go_simp
  refine bZ (i:=0) (by kernel_rfl) rfl rfl ?_;go_simp;have qR:Below V1.heap.size V1 (V1.alloc (.cells #[.string ⟨#[97]⟩,.string ⟨#[98]⟩,.string ⟨#[120]⟩] 9)):=(aL _ _).alloc (aC _) _;have bO:Below Wd.heap.size Wd (V1.alloc (.cells #[.string ⟨#[97]⟩,.string ⟨#[98]⟩,.string ⟨#[120]⟩] 9)):=bB.trans (qR.mono bB.size);have hA0:=LQ V1 m hm3;have hq0:Wd.heap.size≤V1.heap.size:=bB.size;have mq:=aQ.keep qR;have Fq:=And.intro (lW.1.keep qR) (lW.2.keep qR);first | refine⟨⟨fun _=>mq,fun _=>Fq⟩,?_⟩ | skip
  clear aQ lW qR;have aQ:=mq;have lW:=Fq;clear mq Fq;generalize V1.alloc (.cells #[.string ⟨#[97]⟩,.string ⟨#[98]⟩,.string ⟨#[120]⟩] 9)=V2 at*;generalize V1.heap.size=q3 at*;refine bF (i:=5) (v:=.pointer (some ⟨q3,m,none⟩)) rfl (by kernel_rfl) (fun _ _ _ h=>h) (.inl ⟨rfl,fun w' _=>?_⟩) ⟨fun _=>aQ,fun _=>lW⟩ ?_
  ·go_simp
  refine qE (S':=CellIs w.heap.size 6 (.string ky)) (T':=(fun V=>CellIs w.heap.size 7 (.string tx) V∧CellIs q3 m (.string (rH (m:Int))) V∧CellIs q4 n (.string (Xq n)) V)) (fun _ h=>h) (fun _ h=>⟨h.1,h.2.2⟩) _ _ _ _ ?_;have lW:=And.intro lW.1 (And.intro hA0 lW.2);refine oL (i:=6) (v:=.string (rH (m:Int))) rfl rfl (by kernel_rfl) (by kernel_rfl) (by kernel_rfl) (by kernel_rfl) (by kernel_rfl) (by decide) (by decide) (fun _ _ _ h=>h) (.inl ⟨rfl,fun w' hw=>?_⟩) ⟨fun _=>aQ,fun _=>lW⟩ ?_
  ·have h8:=hw.2.1
   unfold CellIs at h8;go_simp
  refine bF (i:=14) (v:=.pointer (some ⟨w.heap.size,6,none⟩)) rfl (by kernel_rfl) (fun _ _ _ h=>h) (.inl ⟨rfl,fun w' _=>?_⟩) ⟨fun _=>aQ,fun _=>lW⟩ ?_
  ·go_simp
  obtain⟨_,_,_,_,_,_,y6,y7,_,_,_,yf⟩:=cO (HG.out.keep bO).k1;have g6:=yf 6;have g7:=yf 7;refine bZ (i:=15) (by kernel_rfl) rfl rfl ?_;have TV:=And.intro (lW.1.set (p:=w.heap.size) (i:=6) (.string (rH (m:Int))) (.inr (by omega))) (And.intro (lW.2.1.set (p:=w.heap.size) (i:=6) (.string (rH (m:Int))) (.inl (by omega))) (lW.2.2.set (p:=w.heap.size) (i:=6) (.string (rH (m:Int))) (.inl (by omega))));go_simp;first | refine⟨⟨fun h=>absurd h (by decide),fun _=>TV⟩,?_⟩ | skip
  refine bZ (i:=16) (by kernel_rfl) rfl rfl ?_;go_simp;first | refine⟨⟨fun h=>absurd h (by decide),fun _=>TV⟩,?_⟩ | skip
  refine bZ (i:=17) (by kernel_rfl) rfl rfl ?_;go_simp;first | refine⟨⟨fun h=>absurd h (by decide),fun h=>absurd h (by decide)⟩,?_⟩ | skip
  refine kW (by kernel_rfl) ?_;go_wp2;go_meet;exact Fj (Fh (HG.out.keep bO) _) _
end
section
attribute [local go_sem ↓] Go.wp_at_zero Go.wp_at_succ
theorem QL (o:uq) (ds:List Dt) (w:World) (hd:J4 w o.dots.v ds):Calls Tryz.prog 24 #[YG o] w (D5 w o):=by
 obtain⟨o0,ho⟩:∃o0,o0=o:=⟨_,rfl⟩;have HO:=ah ho;rw[←ho];obtain⟨o1,o2,o3,o4,o5,kd,ky,tx,on,tm,⟨oa,dn,oc⟩⟩:=o;have HD:=ah hd
 have hG:Gd w ((w.alloc (.cells #[.int .i64 o1,.int .i64 o2,.int .i64 o3,.int .i64 o4,.int .i64 o5,.int .i64 kd,.string ky,.string tx,.int .i64 on,.int .i64 tm,.slice oa dn oc] 38)).alloc (.cells #[.int .i64 0,.int .i64 0,.int .i64 0,.int .i64 0,.int .i64 0,.int .i64 0,.string ⟨#[]⟩,.string ⟨#[]⟩,.int .i64 0,.int .i64 0,.slice none 0 0] 38)) ⟨o1,o2,o3,o4,o5,kd,ky,tx,on,tm,⟨oa,dn,oc⟩⟩:=
  ⟨((aL _ _).alloc (aC _) _).alloc (by simp) _,bX _ _ _,bL _ _ _⟩
 have OA:=ah hG;have HR:YG o0= .agg #[.int .i64 o1,.int .i64 o2,.int .i64 o3,.int .i64 o4,.int .i64 o5,.int .i64 kd,.string ky,.string tx,.int .i64 on,.int .i64 tm,.slice oa dn oc]:=by rw[ho]
 rw[HR];clear hd hG HR ho
 go_enter Tryz.func24,Tryz.ntmps24
 go_upto_region 1 with fail
 generalize ((w.alloc (.cells #[.int .i64 o1,.int .i64 o2,.int .i64 o3,.int .i64 o4,.int .i64 o5,.int .i64 kd,.string ky,.string tx,.int .i64 on,.int .i64 tm,.slice oa dn oc] 38)).alloc (.cells #[.int .i64 0,.int .i64 0,.int .i64 0,.int .i64 0,.int .i64 0,.int .i64 0,.string ⟨#[]⟩,.string ⟨#[]⟩,.int .i64 0,.int .i64 0,.slice none 0 0] 38))=W2 at*
 go_cut[] (fun wx=>Gd w wx ⟨o1%6,1+o2%3,1+o3%30,o4,o5,kd,ky,tx,on,tm,⟨oa,dn,oc⟩⟩)
 case first=>
  have HGd:=ah (OA.out.keep (aL _ _).drew);refine aW 16 (fun w'=>w'=W2.drew) (by kernel_rfl) ?_;have aQ:W2.drew=W2.drew:=rfl;generalize W2.drew=Wd at*;clear OA;obtain⟨c0,c1,c2,c3,c4,c5,c6,c7,c8,c9,xq,hf⟩:=cO HGd.out.k1;have f0:=hf 0;have f1:=hf 1;have f2:=hf 2;clear hf;have j2:IntKind.i64.wrap (1+o2%3)=1+o2%3:=IntWalk.i64_in _ (by have h1:=Int.emod_nonneg o2 (show (3:Int)≠0 by omega);have h2:=Int.emod_lt_of_pos o2 (show (0:Int)<3 by omega);omega);have j3:IntKind.i64.wrap (1+o3%30)=1+o3%30:=IntWalk.i64_in _ (by have h1:=Int.emod_nonneg o3 (show (30:Int)≠0 by omega);have h2:=Int.emod_lt_of_pos o3 (show (0:Int)<30 by omega);omega);refine aV (i:=0) (v:=.pointer (some ⟨w.heap.size,0,none⟩)) rfl (by kernel_rfl) (fun _ _ _ h=>h) (.inl ⟨rfl,fun w' _=>?_⟩) aQ ?_
  ·go_simp
  refine aV (i:=1) (v:=.pointer (some ⟨w.heap.size,0,none⟩)) rfl (by kernel_rfl) (fun _ _ _ h=>h) (.inl ⟨rfl,fun w' _=>?_⟩) aQ ?_
  ·go_simp
  refine aP (i:=2) (v:=.int .i64 o1) rfl rfl (by kernel_rfl) (fun _ _ _ h=>h) (.inl ⟨rfl,fun w' hw=>?_⟩) aQ ?_
  ·rw[hw]
   go_simp
  refine fq (i:=3) (v:=.int .i64 (o1%6)) rfl (by kernel_rfl) (by kernel_rfl) (by kernel_rfl) (by decide) (fun _ _ _ h=>h) ⟨rfl,67,#[.int .i64 o1,.int .i64 6],fun w' _=>?_,fun w' _=>jh _ _ _ (by omega) (by omega)⟩ aQ ?_
  ·go_simp
  refine aV (i:=4) (v:=.pointer (some ⟨w.heap.size,0,none⟩)) rfl (by kernel_rfl) (fun _ _ _ h=>h) (.inl ⟨rfl,fun w' _=>?_⟩) aQ ?_
  ·go_simp
  refine aV (i:=5) (v:=.pointer (some ⟨w.heap.size,1,none⟩)) rfl (by kernel_rfl) (fun _ _ _ h=>h) (.inl ⟨rfl,fun w' _=>?_⟩) aQ ?_
  ·go_simp
  refine aP (i:=6) (v:=.int .i64 o2) rfl rfl (by kernel_rfl) (fun _ _ _ h=>h) (.inl ⟨rfl,fun w' hw=>?_⟩) aQ ?_
  ·rw[hw]
   go_simp
  refine fq (i:=7) (v:=.int .i64 (o2%3)) rfl (by kernel_rfl) (by kernel_rfl) (by kernel_rfl) (by decide) (fun _ _ _ h=>h) ⟨rfl,67,#[.int .i64 o2,.int .i64 3],fun w' _=>?_,fun w' _=>jh _ _ _ (by omega) (by omega)⟩ aQ ?_
  ·go_simp
  refine aV (i:=8) (v:=.int .i64 (1+o2%3)) rfl (by kernel_rfl) (fun _ _ _ h=>h) (.inl ⟨rfl,fun w' _=>?_⟩) aQ ?_
  ·go_simp
  refine aV (i:=9) (v:=.pointer (some ⟨w.heap.size,0,none⟩)) rfl (by kernel_rfl) (fun _ _ _ h=>h) (.inl ⟨rfl,fun w' _=>?_⟩) aQ ?_
  ·go_simp
  refine aV (i:=10) (v:=.pointer (some ⟨w.heap.size,2,none⟩)) rfl (by kernel_rfl) (fun _ _ _ h=>h) (.inl ⟨rfl,fun w' _=>?_⟩) aQ ?_
  ·go_simp
  refine aP (i:=11) (v:=.int .i64 o3) rfl rfl (by kernel_rfl) (fun _ _ _ h=>h) (.inl ⟨rfl,fun w' hw=>?_⟩) aQ ?_
  ·rw[hw]
   go_simp
  refine fq (i:=12) (v:=.int .i64 (o3%30)) rfl (by kernel_rfl) (by kernel_rfl) (by kernel_rfl) (by decide) (fun _ _ _ h=>h) ⟨rfl,67,#[.int .i64 o3,.int .i64 30],fun w' _=>?_,fun w' _=>jh _ _ _ (by omega) (by omega)⟩ aQ ?_
  ·go_simp
  refine aV (i:=13) (v:=.int .i64 (1+o3%30)) rfl (by kernel_rfl) (fun _ _ _ h=>h) (.inl ⟨rfl,fun w' _=>?_⟩) aQ ?_
  ·go_simp
  refine aV (i:=14) (v:=.agg #[.int .i64 (o1%6),.int .i64 (1+o2%3),.int .i64 (1+o3%30)]) rfl (by kernel_rfl) (fun _ _ _ h=>h) (.inl ⟨rfl,fun w' _=>?_⟩) aQ ?_
  ·go_simp
  refine aV (i:=15) (v:=.pointer (some ⟨w.heap.size,0,none⟩)) rfl (by kernel_rfl) (fun _ _ _ h=>h) (.inl ⟨rfl,fun w' _=>?_⟩) aQ ?_
  ·go_simp
  refine aD (i:=16) (by kernel_rfl) rfl rfl ?_;go_simp;refine aU (by kernel_rfl) ?_;go_wp2;go_meet;exact Xp HGd.out _ _ _
 case rest=>
 have yj:=ah hcut;clear hcut OA;generalize o1%6=u1 at*;generalize 1+o2%3=u2 at*;generalize 1+o3%30=u3 at*;go_upto_region 2 with fail
 obtain⟨W3,zY⟩:∃W3,W3=wc:=⟨_,rfl⟩;subst zY
 go_cut[] (fun wx=>Gd w wx ⟨u1,u2,u3,o4%3,1+o5%3,1+kd%5,ky,tx,on,tm%50,⟨oa,dn,oc⟩⟩)
 case first=>
  have HGd:=ah (yj.out.keep (aL _ _).drew);refine aW 15 (fun w'=>w'=W3.drew) (by kernel_rfl) ?_;have aQ:W3.drew=W3.drew:=rfl;generalize W3.drew=Wd at*;clear yj;obtain⟨c0,c1,c2,c3,c4,c5,c6,c7,c8,c9,xq,hf⟩:=cO HGd.out.k1;have f3:=hf 3;have f4:=hf 4;have f5:=hf 5;have f9:=hf 9;clear hf;have j2:IntKind.i64.wrap (1+o5%3)=1+o5%3:=IntWalk.i64_in _ (by have h1:=Int.emod_nonneg o5 (show (3:Int)≠0 by omega);have h2:=Int.emod_lt_of_pos o5 (show (0:Int)<3 by omega);omega);have j3:IntKind.i64.wrap (1+kd%5)=1+kd%5:=IntWalk.i64_in _ (by have h1:=Int.emod_nonneg kd (show (5:Int)≠0 by omega);have h2:=Int.emod_lt_of_pos kd (show (0:Int)<5 by omega);omega);refine aV (i:=0) (v:=.pointer (some ⟨w.heap.size,3,none⟩)) rfl (by kernel_rfl) (fun _ _ _ h=>h) (.inl ⟨rfl,fun w' _=>?_⟩) aQ ?_
  ·go_simp
  refine aP (i:=1) (v:=.int .i64 o4) rfl rfl (by kernel_rfl) (fun _ _ _ h=>h) (.inl ⟨rfl,fun w' hw=>?_⟩) aQ ?_
  ·rw[hw]
   go_simp
  refine fq (i:=2) (v:=.int .i64 (o4%3)) rfl (by kernel_rfl) (by kernel_rfl) (by kernel_rfl) (by decide) (fun _ _ _ h=>h) ⟨rfl,67,#[.int .i64 o4,.int .i64 3],fun w' _=>?_,fun w' _=>jh _ _ _ (by omega) (by omega)⟩ aQ ?_
  ·go_simp
  refine aV (i:=3) (v:=.pointer (some ⟨w.heap.size,4,none⟩)) rfl (by kernel_rfl) (fun _ _ _ h=>h) (.inl ⟨rfl,fun w' _=>?_⟩) aQ ?_
  ·go_simp
  refine aP (i:=4) (v:=.int .i64 o5) rfl rfl (by kernel_rfl) (fun _ _ _ h=>h) (.inl ⟨rfl,fun w' hw=>?_⟩) aQ ?_
  ·rw[hw]
   go_simp
  refine fq (i:=5) (v:=.int .i64 (o5%3)) rfl (by kernel_rfl) (by kernel_rfl) (by kernel_rfl) (by decide) (fun _ _ _ h=>h) ⟨rfl,67,#[.int .i64 o5,.int .i64 3],fun w' _=>?_,fun w' _=>jh _ _ _ (by omega) (by omega)⟩ aQ ?_
  ·go_simp
  refine aV (i:=6) (v:=.int .i64 (1+o5%3)) rfl (by kernel_rfl) (fun _ _ _ h=>h) (.inl ⟨rfl,fun w' _=>?_⟩) aQ ?_
  ·go_simp
  refine aV (i:=7) (v:=.pointer (some ⟨w.heap.size,5,none⟩)) rfl (by kernel_rfl) (fun _ _ _ h=>h) (.inl ⟨rfl,fun w' _=>?_⟩) aQ ?_
  ·go_simp
  refine aP (i:=8) (v:=.int .i64 kd) rfl rfl (by kernel_rfl) (fun _ _ _ h=>h) (.inl ⟨rfl,fun w' hw=>?_⟩) aQ ?_
  ·rw[hw]
   go_simp
  refine fq (i:=9) (v:=.int .i64 (kd%5)) rfl (by kernel_rfl) (by kernel_rfl) (by kernel_rfl) (by decide) (fun _ _ _ h=>h) ⟨rfl,67,#[.int .i64 kd,.int .i64 5],fun w' _=>?_,fun w' _=>jh _ _ _ (by omega) (by omega)⟩ aQ ?_
  ·go_simp
  refine aV (i:=10) (v:=.int .i64 (1+kd%5)) rfl (by kernel_rfl) (fun _ _ _ h=>h) (.inl ⟨rfl,fun w' _=>?_⟩) aQ ?_
  ·go_simp
  refine aV (i:=11) (v:=.pointer (some ⟨w.heap.size,9,none⟩)) rfl (by kernel_rfl) (fun _ _ _ h=>h) (.inl ⟨rfl,fun w' _=>?_⟩) aQ ?_
  ·go_simp
  refine aP (i:=12) (v:=.int .i64 tm) rfl rfl (by kernel_rfl) (fun _ _ _ h=>h) (.inl ⟨rfl,fun w' hw=>?_⟩) aQ ?_
  ·rw[hw]
   go_simp
  refine fq (i:=13) (v:=.int .i64 (tm%50)) rfl (by kernel_rfl) (by kernel_rfl) (by kernel_rfl) (by decide) (fun _ _ _ h=>h) ⟨rfl,67,#[.int .i64 tm,.int .i64 50],fun w' _=>?_,fun w' _=>jh _ _ _ (by omega) (by omega)⟩ aQ ?_
  ·go_simp
  refine aV (i:=14) (v:=.pointer (some ⟨w.heap.size,3,none⟩)) rfl (by kernel_rfl) (fun _ _ _ h=>h) (.inl ⟨rfl,fun w' _=>?_⟩) aQ ?_
  ·go_simp
  refine aD (i:=15) (by kernel_rfl) rfl rfl ?_;go_simp;refine aD (i:=16) (by kernel_rfl) rfl rfl ?_;go_simp;refine aD (i:=17) (by kernel_rfl) rfl rfl ?_;go_simp;refine aD (i:=18) (by kernel_rfl) rfl rfl ?_;go_simp;refine aD (i:=19) (by kernel_rfl) rfl rfl ?_;go_simp;refine aD (i:=20) (by kernel_rfl) rfl rfl ?_;go_simp;refine aD (i:=21) (by kernel_rfl) rfl rfl ?_;go_simp;refine aU (by kernel_rfl) ?_;go_wp2;go_meet;exact TU HGd.out _ _ _ _
 case rest=>
 go_step;exact NW w _ o0 _ ds hcut HD.out (by rw[HO.out];rfl) (by rw[HO.out]) (by rw[HO.out]) _ rfl
end
end Go.Proofs.YtlfopoimbbpfdaaGreat
