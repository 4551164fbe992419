/- What the law asks, in parts: VFh VFi VHf VGa VGb VGc VGd VGe. -/
import Derived.Test.YtdgllhcfablaoaaGreatMg7
import Derived.Test.YtdgllhcfablaoaaGreatMg3
import Derived.Test.YtdgllhcfablaoaaGreatMg4
import Derived.Test.YtdgllhcfablaoaaGreatMg8
import Derived.Test.YtdgllhcfablaoaaGreatMg6
set_option linter.all false
set_option maxRecDepth 100000
set_option maxHeartbeats 16000000
open Go.Proofs.Tryz
open Bool renaming false→U,true→O
open Option renaming some→I,none→J
open Go renaming World→V,Value→Z,bodyPost_ret→au,Calls→ar,heap_alloc_new→al,Addr→aB,setRow_heap→aO,yieldsIf_load_mid→b_,binOp→dr,run_equalIn_agg→dO,wp_store_row→eh,undef→fq,run_eql_struct→kz,wpList_store_row→aJ
open Nat renaming lt_of_lt_of_le→ac,le_trans→aa,zero_le→aw,lt_or_ge→aL,le_of_eq→bD,add_zero→dg,le_of_lt→dN,mul_one→dL
open Go.RowKit renaming Below→ae,wrap64→bi,intOf→bp
open Go.IntWalk renaming wrap64_in→ag
open List renaming length_append→ay,getElem_mem→dj,length_map→fX
open Go.World renaming cell?→an,setRow_alloc_new→dX
open Go.Value renaming oneCell'→ap
open Go.Instr renaming makeFunc→dn
open Go.Program renaming fieldsOf→dB
open Go.Sem renaming run→fz
open Go.Proofs.Tryz renaming prog→M
namespace Go.Proofs.YtdgllhcfablaoaaGreat
open Go.RowKit
def ZF(w:V)(x:eQ)(N:Nat)(en:Ending)(w':V):Prop:=∃a c b e,en=.returned (.tuple #[.agg ⟨aF a c b⟩,.int .i64 e])∧(a.ck=x.ck∧a.rq=x.rq)∧eg w' w.heap.size c b∧b.ok N∧ae w.heap.size w w'
structure D0(w wr:V)(b:Nat)(x:eQ)(z:dH)(s:dV):Prop where
 b0:Bx wr b (aF x z s) 55
 b1:wr.heap[b+1]?=I (.cells jV 55 (0,0))
 bl:ae b w wr
def Dl.d0{w wr:V}{b q c:Nat}{x:eQ}{z y:dH}{s a:dV}(h:Dl w wr b q x z s y a c):D0 w wr b x z s:=⟨h.b0,h.b1,h.bl⟩
def D0.Hm{w wr:V}{b:Nat}{x:eQ}{z:dH}{s:dV}(h:D0 w wr b x z s):b+1<wr.heap.size:=(br h.b1).1
def D0.ret{w wr a:V}{b:Nat}{x:eQ}{z:dH}{s:dV}{d:dH}{e:dV}(h:D0 w wr b x z s)(i:w.heap.size=b)(j:eg a wr.heap.size d e)(f:ae wr.heap.size wr a)(c:Array Z):eg (a.setRow (b+1) c) w.heap.size d e∧ae w.heap.size w (a.setRow (b+1) c):=by
 have k:=h.Hm;have g:But (b+1) a (a.setRow (b+1) c):=But.row _;have l:=f.size;refine⟨(j.but g k).to A,?_⟩;rw[i];exact(h.bl.trans (f.mono A)).trans (g.below A A)
def bB.OJ{w w':V}{B p:Nat}{u:dY}{c:eo}{x:Array Z}(h:bB w B u c)(a:w.heap[p]?=I (.cells x 47 (0,0)))(b:But p w w'):bB w' B u c:=
 ⟨h.v.mI a aC b,h.r.mI a aC b,h.e.mI a aC b,h.g.mI a aC b,h.s.mI a aC b,h.b.mI a aC b⟩
def Dl.OJ{w wr e:V}{b q r k:Nat}{x:eQ}{z y:dH}{s f:dV}{c:Array Z}(h:Dl w wr b q x z s y f k)(d:wr.heap[r]?=I (.cells c 47 (0,0)))(j:b+2≤r)(a:But r wr e):Dl w e b q x z s y f k:=by
 have i:=h.q2;have g:=h.ql;refine⟨(a.block q g (el h.bx d aC)).trans h.bx,⟨h.st.c0.OJ d a,h.st.c1.OJ d a,h.st.c2.OJ d a,h.st.sb.mI d aC a⟩,h.ok,(a.block b A A).trans h.b0,(a.block (b+1) A A).trans h.b1,h.bl.trans (a.below A A),i,ac g a.size⟩
def Dl.read{w wr:V}{b q g:Nat}{x:eQ}{z y:dH}{s d:dV}(h:Dl w wr b q x z s y d g)(a:Int):D0 w (wr.setCell ⟨q,31,J⟩ (.int .i64 a)) b x z s∧eg (wr.setCell ⟨q,31,J⟩ (.int .i64 a)) (b+2) y d∧Bx (wr.setCell ⟨q,31,J⟩ (.int .i64 a)) q (aF { x with rd:=a } y d) 55:=by
 have e:=h.q2;have f:=h.d0.Hm;have c:But q wr (wr.setCell ⟨q,31,J⟩ (.int .i64 a)):=But.set _ _ _ _;exact⟨⟨(c.block b A A).trans h.b0,(c.block (b+1) A A).trans h.b1,h.bl.trans (c.below A A)⟩,h.st.wM h.bx c,Bx.to (h.bx.st 31 _) eZ⟩
def cJ.at{w wr:V}{base:Nat}{ao:Option aB}{cap:Nat}{l:List hJ}(h:cJ w base (.slice ao l.length cap) l){C:Nat}(i:ae C w wr)(m:w.heap.size≤C)(k:Nat)(p:k<l.length):
  ∃(g a:Nat)(n:Option aB)(zc:Nat),ao=I ⟨g,a,J⟩∧(∀j u,(Sz (l[k],n,zc))[j]?=I u→wr.cell? ⟨g,a+k*11+j,J⟩=I u)∧cc cn.f cn.E wr (.slice n l[k].ds.length zc) l[k].ds:=by
 obtain⟨zs,o,r,s⟩:=h;have c:zs.length=l.length:=by rw[←o,fX]
 have b:k<zs.length:=by rw[c];exact p
 have d:=r.sl;rw[←c]at d;obtain⟨g,a,t,-,q⟩:=cc.at (l:=zs) d I9.len I9.pos i m k b
 have e:l[k]=zs[k].1:=by
  have:(zs.map (·.1))[k]'(by rw[fX];exact b)=zs[k].1:=by rw[List.getElem_map]
  rw[←this];congr 1;exact o.symm
 have f:cc cn.f cn.E wr (.slice zs[k].2.1 zs[k].1.ds.length zs[k].2.2) zs[k].1.ds:=(EL.own.sl (s zs[k] (dj b))).keep i m;refine⟨g,a,zs[k].2.1,zs[k].2.2,t,?_,?_⟩
 ·rw[e]
  exact q
 ·rw[e]
  exact f
def Db(w:V)(B B2:Nat)(x:eQ)(z:dH)(s:dV)(N:Nat)(a0 n0:Int)(oa:Option aB)(oc:Nat)(l:List hJ)(h:eg w B z s)(hf:s.ok N)(hN:N<80000)(ho:cJ w B2 (.slice oa l.length oc) l)(hl:l.length≤20)(hs:iq l):
  ar M 39 #[.agg ⟨aF x z s⟩,.int .i64 a0,.int .i64 n0,.slice oa l.length oc] w (ZF w x (N+180)):=by
 have U0:∀(fn:Fn)(first cap:Array Z)(w:V),(dn fn first cap).run M w=.ok (.func fn first cap) w:=fun _ _ _ _=>rfl
 obtain⟨b,hb⟩:∃b,w.heap.size=b:=⟨_,rfl⟩;obtain⟨W,hW⟩:∃W,(w.alloc (.cells ⟨aF x z s⟩ 55)).alloc (.cells jV 55)=W:=⟨_,rfl⟩;have X:ae w.heap.size w W:=by rw[←hW];exact((aD _ _).alloc (G _) _).alloc bW _
 have x0:Hid (Bx W b (aF x z s) 55):=D (by rw[←hW,←hb];exact ce _ _ _);have z0:Hid (W.heap[b+1]?=I (.cells jV 55 (0,0))):=D (by rw[←hW,←hb];exact bO _ _ _);have A0:Hid (ae b w W):=D (by rw[←hb];exact X);have HO:=D h;have HF:=D hf;have HN:=D hN;have HP:=D ho;have HL:=D hl;have K0:=D hs;have HW:=D hW;have HE:=D hb;have a:Hid (D0 w W b x z s):=D ⟨x0.o,z0.o,A0.o⟩;clear hW hb h hf hN ho hl hs X x0 z0 A0
 go_enter func39,ntmps39
 go_upto_block 0 with fail
 rw[HW.o,HE.o];clear HW
 go_cut[] (fun wc=>wc=W)
 case first=>
  have d8:W.cell? ⟨b,31,J⟩=I (.int .i64 x.rd):=a.o.b0.has 45 rfl 31 aC;by_cases h1:a0=x.rd
  rotate_left
  ·have e1:(a0 != x.rd)=O:=by simpa using h1
   clear h1
   go_wp2_with (first
    | ((with_reducible refine aT 21 ?_);refine wpList_load_row rfl _ (.tmp 4) rfl b rfl _ _ (0,0) _ a.o.b0 underlying55 rfl aj ?_)
    | ((go_at_call 72;refine(iB W B x z s N (HO.o.keep a.o.bl (bD HE.o)) HF.o (by have:=HN.o;omega)).mono ?_);rintro en w9 ⟨Q,rfl,m,d⟩;have o:=D (a.o.ret HE.o m d);have t:=D ((d.block _ a.o.Hm).trans a.o.b1);clear m d)
    | (refine aJ rfl _ (.tmp 8) (.tmp 22) rfl (b+1) _ rfl rfl _ _ t.o aj rfl (by simp[aF,ap]) ?_))
   refine au (v:=.tuple #[.agg ⟨aF x Q s⟩,.int .i64 2]) (results_cell_tmp results39 _ _ (b+1) 55 ⟨aF x Q s⟩ (0,0) _ rfl (aO _ _ _ _ _ _ t.o) underlying55 rfl aj) rfl ?_;exact⟨x,Q,s,_,rfl,⟨rfl,rfl⟩,(o.o _).1,HF.o.up A,(o.o _).2⟩
  ·have e1:(a0 != x.rd)=U:=by simpa using h1
   clear h1;by_cases h2:n0<a0
   ·have e2:decide (n0<a0)=O:=by simpa using h2
    clear h2
    go_wp2_with (first
     | ((with_reducible refine aT 27 ?_);refine wpList_load_row rfl _ (.tmp 4) rfl b rfl _ _ (0,0) _ a.o.b0 underlying55 rfl aj ?_)
     | ((go_at_call 72;refine(iB W B x z s N (HO.o.keep a.o.bl (bD HE.o)) HF.o (by have:=HN.o;omega)).mono ?_);rintro en w9 ⟨Q,rfl,m,d⟩;have o:=D (a.o.ret HE.o m d);have t:=D ((d.block _ a.o.Hm).trans a.o.b1);clear m d)
     | (refine aJ rfl _ (.tmp 8) (.tmp 28) rfl (b+1) _ rfl rfl _ _ t.o aj rfl (by simp[aF,ap]) ?_))
    refine au (v:=.tuple #[.agg ⟨aF x Q s⟩,.int .i64 1]) (results_cell_tmp results39 _ _ (b+1) 55 ⟨aF x Q s⟩ (0,0) _ rfl (aO _ _ _ _ _ _ t.o) underlying55 rfl aj) rfl ?_;exact⟨x,Q,s,_,rfl,⟨rfl,rfl⟩,(o.o _).1,HF.o.up A,(o.o _).2⟩
   ·have e2:decide (n0<a0)=U:=by simpa using h2
    clear h2;go_wp2;go_meet
    case rel=>trivial
 case rest=>
  subst hcut
  go_upto_region 6 with(first
   | ((with_reducible refine aT 29 ?_);refine wpList_load_row rfl _ (.tmp 4) rfl b rfl _ _ (0,0) _ a.o.b0 underlying55 rfl aj ?_)
   | ((go_at_call 72;refine(iB wc B x z s N (HO.o.keep a.o.bl (bD HE.o)) HF.o (by have:=HN.o;omega)).mono ?_);rintro en P ⟨y0,rfl,B0,d0⟩)
   | (refine aJ rfl _ (.tmp 10) (.tmp 30) rfl P.heap.size _ rfl rfl _ _ (al P _) aj rfl (by simp[aF,ap]) ?_;rw[dX]))
  obtain⟨q,hq⟩:∃q,P.heap.size=q:=⟨_,rfl⟩;obtain⟨Y0,hV⟩:∃Y0,P.alloc (.cells ⟨aF x y0 s⟩ 55)=Y0:=⟨_,rfl⟩;have S:ae P.heap.size P Y0:=by rw[←hV];exact(aD _ _).alloc (G _) _
  have a:Hid (Dl w Y0 b q x z s y0 s (N+9*0)):=D (by
   have h1:=a.o.Hm;have h2:=d0.size;refine⟨by rw[←hV,←hq];exact al _ _,(B0.to h1).keep S (G _),HF.o,?_,?_,(a.o.bl.trans (d0.mono A)).trans (S.mono A),by omega,by rw[←hV,←hq];simp⟩
   ·exact(a.o.b0.keep d0 A).keep S A
   ·exact(S.block _ A).trans ((d0.block _ A).trans a.o.b1))
  rw[hV,hq];clear hV hq S B0 d0;go_wp2
  go_loopw[33] (fun vk wr=>∃(k:Nat)(y:dH)(K:dV),vk=.int .i64 k∧Hid (k≤l.length)∧Hid (Dl w wr b q x z s y K (N+9*k))) (fun vk _=>l.length-(bp vk).toNat)
  case atStart=>exact⟨0,_,_,rfl,D (aw _),a⟩
  case round=>
   clear a;obtain⟨k,y,K,rfl,C0,a⟩:=hrel;rcases aL k l.length with l0 | L0
   ·have E0:=K0.o l[k] (dj l0)
    obtain⟨g,V0,za,zc,M0,L,F0⟩:=cJ.at HP.o a.o.bl (bD HE.o) k l0;generalize hx:l[k]=N0 at*;obtain⟨⟨d1,d2,d3⟩,c,v,kd,ky,tx,n,tt,ds⟩:=N0;rw[M0];have c0:=L 0 _ rfl;have c1:=L 1 _ rfl;have c2:=L 2 _ rfl;have c3:=L 3 _ rfl;have c4:=L 4 _ rfl;have c5:=L 5 _ rfl;have c6:=L 6 _ rfl;have c7:=L 7 _ rfl;have c8:=L 8 _ rfl;have c9:=L 9 _ rfl;have O0:=L 10 _ rfl;simp only[dg]at c0;have W0:(k:Int)<l.length:=A
    have e9:bi ((k:Int)+1)=(k:Int)+1:=ag _ (by have:=HL.o;omega);have m0:=D l0;have o0:Hid (ky.length<1000000000∧tx.length<1000000000):=D E0;obtain⟨p,hp⟩:∃p,wr.heap.size=p:=⟨_,rfl⟩;obtain⟨Y0,hV⟩:∃Y0,wr.alloc (.cells (iG d1 d2 d3 c v kd ky tx n tt za ds.length zc) 75)=Y0:=⟨_,rfl⟩;have S:ae wr.heap.size wr Y0:=by rw[←hV];exact(aD _ _).alloc (G _) _
    have a:=D (a.o.keep S (G _));have e:Hid (Y0.heap[p]?=I (.cells (iG d1 d2 d3 c v kd ky tx n tt za ds.length zc) 75 (0,0))∧p<Y0.heap.size):=D ⟨by rw[←hV,←hp];exact al _ _,by rw[←hV,←hp];simp⟩;have u:Hid (cc cn.f cn.E Y0 (.slice za ds.length zc) ds):=D (cc.keep F0 S (G _));have HV:=D hV;have G0:=D hp;clear E0 L F0 hx l0 hV hp S;go_upto_region 9 with fail
    rw[HV.o,G0.o];clear c0 c1 c2 c3 c4 c5 c6 c7 c8 c9 O0 HV G0;have c3:Y0.cell? ⟨p,3,J⟩=I (.int .i64 c):=by simp only[an,e.o.1];rfl
    by_cases hc:0≤c∧c<3
    rotate_left
    ·have E3:Hid ((decide (0≤c)&&decide (c<3))=U):=D (by
      rw[Bool.and_eq_false_iff,decide_eq_false_iff_not,decide_eq_false_iff_not]
      omega)
     clear hc
     go_upto_region 10 with(first
      | ((with_reducible refine aT 37 ?_);refine wpList_load_row rfl _ (.tmp 10) rfl q rfl _ _ (0,0) _ a.o.bx underlying55 rfl aj ?_)
      | ((go_at_call 89;refine(Gy Y0 (b+2) x y K _ a.o.st).mono ?_);rintro en w5 ⟨rfl,R⟩;rw[E3.o];have a:=D (a.o.keep R (G _));have e:=D (⟨(R.block p e.o.2).trans e.o.1,ac e.o.2 R.size⟩:_∧_);have u:=D (cc.keep u.o R (G _));have c3:w5.cell? ⟨p,3,J⟩=I (.int .i64 c):=(by simp only[an,e.o.1];rfl);clear R))
     have f:=D a.o.d0;clear c3
     go_wp2_with (first
      | ((with_reducible refine aT 47 ?_);refine wpList_load_row rfl _ (.tmp 4) rfl b rfl _ _ (0,0) _ f.o.b0 underlying55 rfl aj ?_)
      | ((go_at_call 72;refine(iB w5 B x z s N (HO.o.keep f.o.bl (bD HE.o)) HF.o (by have:=HN.o;omega)).mono ?_);rintro en w9 ⟨Q,rfl,m,d⟩;have o:=D (f.o.ret HE.o m d);have t:=D ((d.block _ f.o.Hm).trans f.o.b1);clear m d)
      | (refine aJ rfl _ (.tmp 8) (.tmp 48) rfl (b+1) _ rfl rfl _ _ t.o aj rfl (by simp[aF,ap]) ?_))
     refine au (v:=.tuple #[.agg ⟨aF x Q s⟩,.int .i64 1]) (results_cell_tmp results39 _ _ (b+1) 55 ⟨aF x Q s⟩ (0,0) _ rfl (aO _ _ _ _ _ _ t.o) underlying55 rfl aj) rfl ?_;exact⟨x,Q,s,_,rfl,⟨rfl,rfl⟩,(o.o _).1,HF.o.up A,(o.o _).2⟩
    ·obtain⟨i,rfl⟩:∃i:Nat,c=i:=⟨c.toNat,by omega⟩
     have hi:i<3:=A
     have i0:(0:Int)≤(i:Int):=A
     have i3:(i:Int)<3:=A
     have e4:decide ((3:Int)≤(i:Int))=U:=by rw[decide_eq_false_iff_not];omega
     have E3:Hid ((decide (0≤(i:Int))&&decide ((i:Int)<3))=O):=D (by
      rw[Bool.and_eq_true,decide_eq_true_iff,decide_eq_true_iff]
      exact⟨i0,i3⟩)
     have HI:=D hi;clear hc hi
     go_upto_region 11 with(first
      | ((with_reducible refine aT 37 ?_);refine wpList_load_row rfl _ (.tmp 10) rfl q rfl _ _ (0,0) _ a.o.bx underlying55 rfl aj ?_)
      | ((go_at_call 89;refine(Gy Y0 (b+2) x y K _ a.o.st).mono ?_);rintro en w5 ⟨rfl,R⟩;rw[E3.o];have a:=D (a.o.keep R (G _));have e:=D (⟨(R.block p e.o.2).trans e.o.1,ac e.o.2 R.size⟩:_∧_);have u:=D (cc.keep u.o R (G _));have c3:w5.cell? ⟨p,3,J⟩=I (.int .i64 i):=(by simp only[an,e.o.1];rfl);clear R))
     have c4:w5.cell? ⟨p,4,J⟩=I (.int .i64 v):=by simp only[an,e.o.1];rfl
     have H0:w5.cell? ⟨q,32,J⟩=I (.int .i64 3):=a.o.bx.has 45 rfl 32 aC;by_cases hv:3<v
     ·have e5:decide ((3:Int)<v)=O:=by simpa using hv
      clear hv;go_upto_region 12 with fail
      have f:=D a.o.d0;clear c3 c4 H0
      go_wp2_with (first
       | ((with_reducible refine aT 54 ?_);refine wpList_load_row rfl _ (.tmp 4) rfl b rfl _ _ (0,0) _ f.o.b0 underlying55 rfl aj ?_)
       | ((go_at_call 72;refine(iB w5 B x z s N (HO.o.keep f.o.bl (bD HE.o)) HF.o (by have:=HN.o;omega)).mono ?_);rintro en w9 ⟨Q,rfl,m,d⟩;have o:=D (f.o.ret HE.o m d);have t:=D ((d.block _ f.o.Hm).trans f.o.b1);clear m d)
       | (refine aJ rfl _ (.tmp 8) (.tmp 55) rfl (b+1) _ rfl rfl _ _ t.o aj rfl (by simp[aF,ap]) ?_))
      refine au (v:=.tuple #[.agg ⟨aF x Q s⟩,.int .i64 13]) (results_cell_tmp results39 _ _ (b+1) 55 ⟨aF x Q s⟩ (0,0) _ rfl (aO _ _ _ _ _ _ t.o) underlying55 rfl aj) rfl ?_;exact⟨x,Q,s,_,rfl,⟨rfl,rfl⟩,(o.o _).1,HF.o.up A,(o.o _).2⟩
     ·have e5:decide ((3:Int)<v)=U:=by simpa using hv
      clear hv;go_upto_region 13 with fail
      clear c3 c4 H0 e4 e5
      go_cut[13,14] (fun u13 u14 wc=>∃(r:Nat)(H:dY)(E:eo)(e':Int),u13=.pointer (I ⟨r,0,J⟩)∧u14=.int .i64 e'∧Hid (wc.heap[r]?=I (.cells ⟨H.l E⟩ 47 (0,0)))∧Hid (bB wc (b+2) H E)∧Hid (E.ok (N+9*k+9))∧Hid (Dl w wc b q x z s y K (N+9*k))∧Hid (wc.heap[p]?=I (.cells (iG d1 d2 d3 i v kd ky tx n tt za ds.length zc) 75 (0,0))))
      case first=>
       obtain⟨W1,s0⟩:∃W1,w5.drew=W1:=⟨_,rfl⟩;have X:ae w5.heap.size w5 W1:=by rw[←s0];exact(aD _ _).drew
       have a:=D (a.o.keep X (G _));have e:=D (⟨(X.block p e.o.2).trans e.o.1,ac e.o.2 X.size⟩:_∧_);have u:=D (cc.keep u.o X (G _));refine bT 11 (fun w'=>Bx w' q (aF x y K) 55 ∧w'.heap[p]?=I (.cells (iG d1 d2 d3 i v kd ky tx n tt za ds.length zc) 75 (0,0))) aj ?_;rw[s0];have I0:Hid (b+2≤W1.heap.size):=D (aa a.o.q2 (dN a.o.ql));have hS:Bx W1 q (aF x y K) 55 ∧W1.heap[p]?=I (.cells (iG d1 d2 d3 i v kd ky tx n tt za ds.length zc) 75 (0,0)):=⟨a.o.bx,e.o.1⟩;clear s0 X;refine stP 0 (.pointer (I ⟨p,3,J⟩)) hS ?_;refine iA [3,4,6,7,8,11] 1 (.int .i64 i) rfl (.inl ⟨rfl,fun w' hw=>?_⟩) hS ?_
       ·have c3:w'.cell? ⟨p,3,J⟩=I (.int .i64 i):=by simp only[an,hw.2];rfl
        go_simp
       refine stP 2 (.pointer (I ⟨q,13,J⟩)) hS ?_;refine stP 3 (.pointer (I ⟨q,13+i*6,J⟩)) hS ?_;refine iA [6,7,8,11] 4 (.agg ⟨(y.at i).l (K.at i)⟩) rfl (b_ rfl _ (.tmp 60) rfl q (13+i*6) rfl ((y.at i).l (K.at i)) _ (fun w' hw=>Bx.range hw.1 _ _ (Ha _ _ _ HI.o)) underlying47 rfl aj) hS ?_;refine iA [6,7,8,11] 5 (.agg (iG d1 d2 d3 i v kd ky tx n tt za ds.length zc)) rfl (b_ rfl _ (.tmp 12) rfl p 0 rfl (iG d1 d2 d3 i v kd ky tx n tt za ds.length zc).toList _ (fun w' hw=>Bx.range (show Bx w' p (iG d1 d2 d3 i v kd ky tx n tt za ds.length zc).toList 75 from hw.2) 0 _ eZ) underlying75 rfl aj) hS ?_;refine lD (i:=6) (j:=10) aj rfl rfl rfl rfl ?_ ?_
       ·go_simp
        refine(AY W1 (b+2) (y.at i) (K.at i) (N+9*k) d1 d2 d3 i v kd n tt ky tx ds za zc (a.o.st.at HI.o) (a.o.ok.at HI.o) (by have:=HN.o;have:=HL.o;have:=m0.o;omega) u.o o0.o.1 o0.o.2).mono ?_;rintro en P ⟨H,E,e',rfl,e0,f0,d⟩;have a:=D (a.o.keep d (G _));have e:=D (⟨(d.block p e.o.2).trans e.o.1,ac e.o.2 d.size⟩:_∧_);have u:=D (cc.keep u.o d (G _));have g0:=D e0;have h0:=D f0;have t0:=D d;clear e0 f0 d;refine⟨⟨a.o.bx,e.o.1⟩,?_⟩;refine stP 7 (.tuple #[.agg ⟨H.l E⟩,.int .i64 e']) (show Bx P q (aF x y K) 55 ∧P.heap[p]?=I (.cells (iG d1 d2 d3 i v kd ky tx n tt za ds.length zc) 75 (0,0))from⟨a.o.bx,e.o.1⟩) ?_;refine stP 8 (.agg ⟨H.l E⟩) (show Bx P q (aF x y K) 55 ∧P.heap[p]?=I (.cells (iG d1 d2 d3 i v kd ky tx n tt za ds.length zc) 75 (0,0))from⟨a.o.bx,e.o.1⟩) ?_;refine stP 9 (.int .i64 e') (show Bx P q (aF x y K) 55 ∧P.heap[p]?=I (.cells (iG d1 d2 d3 i v kd ky tx n tt za ds.length zc) 75 (0,0))from⟨a.o.bx,e.o.1⟩) ?_;refine dK 10 ?_;go_simp;obtain⟨r,hr⟩:∃r,P.heap.size=r:=⟨_,rfl⟩;obtain⟨T,j0⟩:∃w',P.alloc (.cells jR 47)=w':=⟨_,rfl⟩;rw[j0];have F:ae P.heap.size P T:=by rw[←j0];exact(aD _ _).alloc (G _) _
        have C:Hid (T.heap[r]?=I (.cells jR 47 (0,0))∧b+2≤r∧r<T.heap.size):=D ⟨by rw[←j0,←hr];exact al _ _,by rw[←hr];exact aa a.o.q2 (dN a.o.ql),by rw[←j0,←hr];simp⟩;have a:=D (a.o.keep F (G _));have e:=D (⟨(F.block p e.o.2).trans e.o.1,ac e.o.2 F.size⟩:_∧_);have u:=D (cc.keep u.o F (G _));rw[hr];have p0:=D F;have J0:=D hr;clear F hr j0;refine⟨⟨a.o.bx,e.o.1⟩,?_⟩;refine dK 11 ?_;refine eh _ (.tmp 13) (.tmp 64) rfl r ⟨H.l E⟩ rfl rfl _ _ C.o.1 aj rfl (by simp[dY.l,ap]) ?_;refine⟨fun h=>absurd h aC,?_⟩;refine dK 12 ?_;go_simp;refine jj ?_;have b0:But r T (T.setRow r ⟨H.l E⟩):=But.row _;have v0:bB (T.setRow r ⟨H.l E⟩) (b+2) H E:=(g0.o.to I0.o).keep (p0.o.trans (b0.below p0.o.size (bD J0.o))) (G _);have hd:Dl w (T.setRow r ⟨H.l E⟩) b q x z s y K (N+9*k):=a.o.OJ C.o.1 C.o.2.1 b0;have hq:=(b0.block p e.o.2 (el e.o.1 C.o.1 aC)).trans e.o.1;go_wp2;go_meet
        case rel=>exact⟨r,H,E,e',rfl,rfl,D (aO _ _ _ _ _ _ C.o.1),D v0,h0,D hd,D hq⟩
       ·go_simp
        obtain⟨r,hr⟩:∃r,W1.heap.size=r:=⟨_,rfl⟩;obtain⟨P,k0⟩:∃w',W1.alloc (.cells jR 47)=w':=⟨_,rfl⟩;rw[k0];have F:ae W1.heap.size W1 P:=by rw[←k0];exact(aD _ _).alloc (G _) _
        have C:Hid (P.heap[r]?=I (.cells jR 47 (0,0))∧b+2≤r∧r<P.heap.size):=D ⟨by rw[←k0,←hr];exact al _ _,by rw[←hr];exact aa a.o.q2 (dN a.o.ql),by rw[←k0,←hr];simp⟩;have a:=D (a.o.keep F (G _));have e:=D (⟨(F.block p e.o.2).trans e.o.1,ac e.o.2 F.size⟩:_∧_);have u:=D (cc.keep u.o F (G _));rw[hr];have p0:=D F;have J0:=D hr;clear F hr k0;refine⟨⟨a.o.bx,e.o.1⟩,?_⟩;have r0:Hid (b+2≤P.heap.size∧r<P.heap.size):=D ⟨aa I0.o p0.o.size,C.o.2.2⟩;refine dK 6 ?_;go_simp;refine(AY P (b+2) (y.at i) (K.at i) (N+9*k) d1 d2 d3 i v kd n tt ky tx ds za zc (a.o.st.at HI.o) (a.o.ok.at HI.o) (by have:=HN.o;have:=HL.o;have:=m0.o;omega) u.o o0.o.1 o0.o.2).mono ?_;rintro en T ⟨H,E,e',rfl,e0,f0,d⟩;have a:=D (a.o.keep d (G _));have e:=D (⟨(d.block p e.o.2).trans e.o.1,ac e.o.2 d.size⟩:_∧_);have u:=D (cc.keep u.o d (G _));have g0:=D e0;have h0:=D f0;have t0:=D d;clear e0 f0 d;refine⟨⟨a.o.bx,e.o.1⟩,?_⟩;have C:=D (⟨(t0.o.block r C.o.2.2).trans C.o.1,C.o.2.1,ac C.o.2.2 t0.o.size⟩:_∧_∧_);refine stP 7 (.tuple #[.agg ⟨H.l E⟩,.int .i64 e']) (show Bx T q (aF x y K) 55 ∧T.heap[p]?=I (.cells (iG d1 d2 d3 i v kd ky tx n tt za ds.length zc) 75 (0,0))from⟨a.o.bx,e.o.1⟩) ?_;refine stP 8 (.agg ⟨H.l E⟩) (show Bx T q (aF x y K) 55 ∧T.heap[p]?=I (.cells (iG d1 d2 d3 i v kd ky tx n tt za ds.length zc) 75 (0,0))from⟨a.o.bx,e.o.1⟩) ?_;refine stP 9 (.int .i64 e') (show Bx T q (aF x y K) 55 ∧T.heap[p]?=I (.cells (iG d1 d2 d3 i v kd ky tx n tt za ds.length zc) 75 (0,0))from⟨a.o.bx,e.o.1⟩) ?_;refine dK 11 ?_;refine eh _ (.tmp 13) (.tmp 64) rfl r ⟨H.l E⟩ rfl rfl _ _ C.o.1 aj rfl (by simp[dY.l,ap]) ?_;refine⟨fun h=>absurd h aC,?_⟩;refine dK 12 ?_;go_simp;refine jj ?_;have b0:But r T (T.setRow r ⟨H.l E⟩):=But.row _;have v0:bB (T.setRow r ⟨H.l E⟩) (b+2) H E:=(g0.o.but b0 r0.o.2).to r0.o.1;have hd:Dl w (T.setRow r ⟨H.l E⟩) b q x z s y K (N+9*k):=a.o.OJ C.o.1 C.o.2.1 b0;have hq:=(b0.block p e.o.2 (el e.o.1 C.o.1 aC)).trans e.o.1;go_wp2;go_meet
        case rel=>exact⟨r,H,E,e',rfl,rfl,D (aO _ _ _ _ _ _ C.o.1),D v0,h0,D hd,D hq⟩
      case rest=>
       clear a e u;obtain⟨r,H,E,e',rfl,rfl,HR,g0,h0,a,P0⟩:=hcut;by_cases he:e'=0
       rotate_left
       ·have e6:(e' != 0)=O:=by simpa using he
        have f:=D a.o.d0;clear he
        go_wp2_with (first
         | ((with_reducible refine aT 68 ?_);refine wpList_load_row rfl _ (.tmp 4) rfl b rfl _ _ (0,0) _ f.o.b0 underlying55 rfl aj ?_)
         | ((go_at_call 72;refine(iB wc B x z s N (HO.o.keep f.o.bl (bD HE.o)) HF.o (by have:=HN.o;omega)).mono ?_);rintro en w9 ⟨Q,rfl,m,d⟩;have o:=D (f.o.ret HE.o m d);have t:=D ((d.block _ f.o.Hm).trans f.o.b1);clear m d)
         | (refine aJ rfl _ (.tmp 8) (.tmp 69) rfl (b+1) _ rfl rfl _ _ t.o aj rfl (by simp[aF,ap]) ?_))
        refine au (v:=.tuple #[.agg ⟨aF x Q s⟩,.int .i64 e']) (results_cell_tmp results39 _ _ (b+1) 55 ⟨aF x Q s⟩ (0,0) _ rfl (aO _ _ _ _ _ _ t.o) underlying55 rfl aj) rfl ?_;exact⟨x,Q,s,_,rfl,⟨rfl,rfl⟩,(o.o _).1,HF.o.up A,(o.o _).2⟩
       ·subst he
        have e6:((0:Int) != 0)=U:=rfl;have c3:wc.cell? ⟨p,3,J⟩=I (.int .i64 i):=by simp only[an,P0.o];rfl
        go_upto_region 17 with(first
         | ((with_reducible refine aT 73 ?_);refine wpList_load_row rfl _ (.tmp 13) rfl r rfl _ _ (0,0) _ HR.o underlying47 rfl aj ?_)
         | (refine wpList_store_mid rfl _ (.tmp 75) (.tmp 73) rfl q (13+i*6) ⟨H.l E⟩ rfl rfl (a.o.bx.there _ 6 (by have:=HI.o;show 13+i*6+6≤45;omega)) aj (by simp[dY.l,ap]) ?_))
        have q0:Hid (Dl w (wc.setCells q (13+i*6) (H.l E)) b q x z s (y.to i H) (K.to i E) (N+9*(k+1))):=D (a.o.turn HI.o g0.o A (h0.o.up A));obtain⟨V2,w0⟩:∃V2,wc.setCells q (13+i*6) (⟨H.l E⟩:Array Z).toList=V2:=⟨_,rfl⟩;have q0:Hid (Dl w V2 b q x z s (y.to i H) (K.to i E) (N+9*(k+1))):=D (by rw[←w0];exact q0.o);rw[w0];clear w0 c3;have X0:V2.cell? ⟨q,12,J⟩=I (.slice J 0 0):=q0.o.bx.has 45 rfl 12 aC;have e7:decide ((0:Int)≤ -1)=U:=rfl;go_wp2_with ((go_at_call 91;refine(MY _ _).mono ?_);rintro en w8 ⟨rfl,h9⟩;rw[h9];clear h9)
        go_roundw
        case rel=>exact⟨k+1,_,_,by go_num,m0.o,q0⟩
        case measure=>exact bA m0.o _ eT
   ·have hk:k=l.length:=by have:=C0.o;omega
    subst hk;clear L0 C0;have Q0:=a.o.bx.aq 31;have R0:wr.cell? ⟨q,31,J⟩=I (.int .i64 x.rd):=a.o.bx.has 45 rfl 31 aC;go_upto_region 23 with fail
    obtain⟨h7,h8,h9⟩:=a.o.read n0;obtain⟨Y0,hV⟩:∃Y0,wr.setCell ⟨q,31,J⟩ (.int .i64 n0)=Y0:=⟨_,rfl⟩;rw[hV]at h7 h8 h9⊢;have f:=D h7;have S0:=D h8;have T0:=D h9;clear hV R0 Q0 h7 h8 h9
    go_wp2_with (first
     | ((with_reducible refine aT 99 ?_);refine wpList_load_row rfl _ (.tmp 10) rfl q rfl _ _ (0,0) _ T0.o underlying55 rfl aj ?_)
     | ((go_at_call 72;refine(iB Y0 (b+2) { x with rd:=n0 } y K (N+9*l.length) S0.o a.o.ok (by have:=HN.o;have:=HL.o;omega)).mono ?_);rintro en w9 ⟨Q,rfl,m,d⟩;have o:=D (f.o.ret HE.o m d);have t:=D ((d.block _ f.o.Hm).trans f.o.b1);clear m d)
     | (refine aJ rfl _ (.tmp 8) (.tmp 100) rfl (b+1) _ rfl rfl _ _ t.o aj rfl (by simp[aF,ap]) ?_))
    refine au (v:=.tuple #[.agg ⟨aF { x with rd:=n0 } Q K⟩,.int .i64 0]) (results_cell_tmp results39 _ _ (b+1) 55 ⟨aF { x with rd:=n0 } Q K⟩ (0,0) _ rfl (aO _ _ _ _ _ _ t.o) underlying55 rfl aj) rfl ?_;exact⟨{ x with rd:=n0 },Q,K,_,rfl,⟨rfl,rfl⟩,(o.o _).1,a.o.ok.up (by have:=HL.o;omega),(o.o _).2⟩
theorem Dc(w:V)(B:Nat)(x:eQ)(z:dH)(s:dV)(N:Nat)(rq e n:Int)(b c d f g i j:Z)(h:eg w B z s)(k:s.ok N)(l:N<99000)(a:x.gd):
  ar M 37 #[.agg ⟨aF x z s⟩,.int .i64 rq,.agg ⟨[.int .i64 e,.int .i64 n,b,c,d,f,g,i,j]⟩] w (M1 w s):=by
 by_cases m:rq=0
 ·subst m
  exact Jk w B x z s N e n b c d f g i j h k l a
 ·by_cases o:x.ck=0∨rq≠1
  ·exact Lp w B x z s N rq e n b c d f g i j h k l m o a
  ·obtain rfl:rq=1:=A
   exact Lq w B x z s N e n b c d f g i j h k l (by have:=a.1;omega) a.2
structure Ms(mc:List Z)(K c1 c2 c4 c5 e n:Int)(l0 l1 l2 l3 l4 l5 l6:Z)(za:Option aB)(ol:List hJ)(zc:Nat):Prop where
 len:mc.length=25
 one:(⟨mc⟩:Array Z).all (·.oneCell')=O
 f0:mc.getD 0 fq=.int .i64 K
 f1:mc.getD 1 fq=.int .i64 c1
 f2:mc.getD 2 fq=.int .i64 c2
 f4:mc.getD 4 fq=.int .i64 c4
 f5:mc.getD 5 fq=.int .i64 c5
 f24:mc.getD 24 fq=.slice za ol.length zc
 rp:(mc.drop 15).take ([.int .i64 e,.int .i64 n,l0,l1,l2,l3,l4,l5,l6]:List Z).length=[.int .i64 e,.int .i64 n,l0,l1,l2,l3,l4,l5,l6]
 few:ol.length≤20
 sh:iq ol
theorem lF.ms{w w':V}{i:Int}{j:Ending}(h:lF w i j w'):∃mc K c1 c2 a b e n k l c m o p q za ol zc,j=.returned (.tuple #[.agg ⟨mc⟩,.int .i64 i])∧Ms mc K c1 c2 a b e n k l c m o p q za ol zc∧ae w.heap.size w w'∧cJ w' w.heap.size (.slice za ol.length zc) ol:=by
 obtain⟨K,c1,c2,N,a,b,P,k1,k2,k3,k4,k5,r,s,t,u,v,x,Q,R,S,y,z,B,za,T,W,wn,X,on,oc,C,sc,d,E,uu,F,zc,c,rfl,H,L,f,g⟩:=h;refine⟨_,K,c1,c2,a,b,r,s,.int .i64 t,.int .i64 u,.int .i64 v,.int .i64 x,.slice y C sc,.slice z d E,.slice B uu F,za,c,zc,rfl,?_,H,L.o⟩;exact⟨rfl,by simp[ap],rfl,rfl,rfl,rfl,rfl,rfl,rfl,f,g⟩
structure Tk(w wr:V)(B k j d m:Nat)(x:eQ)(z:dH)(s:dV)(lg:List UInt8)(mc:List Z)(za:Option aB)(ol:List hJ)(zc:Nat)(ao:Option aB)(raw:List UInt8):Prop where
 cl:Cl wr B k j d x z s lg
 ms:Bx wr m mc 105
 op:cJ wr w.heap.size (.slice za ol.length zc) ol
 rd:Rd wr ao (bX raw)
 bl:ae w.heap.size w wr
section
variable {w wr w2:V} {B k j d m:Nat} {x:eQ} {z:dH} {s:dV} {lg:List UInt8} {mc:List Z} {za:Option aB} {ol:List hJ} {zc:Nat} {ao:Option aB} {raw:List UInt8}
theorem Tk.keep{C:Nat}(h:Tk w wr B k j d m x z s lg mc za ol zc ao raw)(a:ae C wr w2)(b:wr.heap.size≤C):Tk w w2 B k j d m x z s lg mc za ol zc ao raw:=
 ⟨h.cl.keep a b,h.ms.keep a (ac (br h.ms).1 b),h.op.keep a b,h.rd.keep a b,h.bl.trans (a.mono (aa h.bl.size b))⟩
theorem Tk.tE(h:Tk w wr B k j d m x z s lg mc za ol zc ao raw)(n:Nat):Tk w (wr.drewN n) B k j d m x z s lg mc za ol zc ao raw:=h.keep (below_drewN (aD wr.heap.size wr) n) (G _)
theorem rZ:∀v∈jV,∀n,v≠.int .u8 n:=by
 intro v a n;simp only[jV,List.mem_toArray,List.mem_cons,List.not_mem_nil,or_false,or_self_left]at a;intro b;subst b;simp at a
theorem Cl.ZG{w w':V}{B k j d r:Nat}{x:eQ}{z:dH}{s:dV}{a:List UInt8}(h:Cl w B k j d x z s a)(b:w.heap[r]?=I (.cells jV 55 (0,0)))(c:But r w w'):Cl w' B k j d x z s a:=by
 obtain⟨n,e⟩:=h.jn.j;have g:=h.jn.d;obtain⟨i,done,l,room,m,o,p,q,sc,f,t⟩:=h.jn.d;exact⟨(c.block k (br h.bx).1 (el h.bx b aC)).trans h.bx,h.st.wM b c,⟨n,(c.block j (br e).1 (el e b aC)).trans e⟩,g.but b rZ (el f b aC) c⟩
theorem Tk.wM{r:Nat}(h:Tk w wr B k j d m x z s lg mc za ol zc ao raw)(b:wr.heap[r]?=I (.cells jV 55 (0,0)))(c:w.heap.size≤r)(a:But r wr w2):Tk w w2 B k j d m x z s lg mc za ol zc ao raw:=by
 obtain⟨zs,e,f,g⟩:=h.op;exact⟨h.cl.ZG b a,(a.block m (br h.ms).1 (el h.ms b aC)).trans h.ms,⟨zs,e,f.mI b aC a,fun y i=>EL.own.mI (g y i) b aC a⟩,jN h.rd b rZ a,h.bl.trans (a.below h.bl.size c)⟩
end
def Qw(w:V)(B k j d N:Nat)(lg:List UInt8)(b:Int)(c:Ending)(w':V):Prop:=
 (b≠0∧c=.returned (.int .i64 b)∧ae w.heap.size w w')∨
 (b=0∧∃e:Int,c=.returned (.int .i64 e)∧∃x z s a,Cl w' B k j d x z s a∧s.ok (N+180)∧x.gd∧a.length≤lg.length+1000∧jJ k j d w w')
theorem OL(w:V)(B k j d N:Nat)(x:eQ)(z:dH)(s:dV)(lg raw:List UInt8)(ao:Option aB)(pn cap:Nat)(h:Cl w B k j d x z s lg)(hB:B≤w.heap.size)(hf:s.ok N)(hN:N≤3800)(B0:x.gd)(C:Rd w ao (bX raw))(C0:pn=raw.length)(hc:pn≤cap)(hm:cap≤9223372036854775807)(D0:raw.length≤300)(E0:lg.length<60000000):
  ar M 12 #[.pointer (I ⟨k,0,J⟩),.slice ao pn cap] w (Qw w B k j d N lg (jM raw)):=by
 have L0:∀(fn:Fn)(first cap:Array Z)(w:V),(dn fn first cap).run M w=.ok (.func fn first cap) w:=fun _ _ _ _=>rfl
 have M0:∀(args:Array Z)(W:V),(callFunc 36 args).run M W=.ok (.enter 36 args) W:=fun _ _=>by kernel_rfl
 have HC:=D h;have F0:=D hB;have HF:=D hf;have HN:=D hN;have X:=D B0;have t0:=D C;have v0:=D C0;have G0:=D (⟨hc,hm⟩:_∧_);have h0:=D D0;have H0:=D E0;obtain⟨PE,w0⟩:∃PE,jM raw=PE:=⟨_,rfl⟩;rw[w0];have J0:=D w0;clear h hB hf hN B0 C C0 hc hm D0 E0 w0
 go_enter func12,ntmps12
 go_upto_block 0 with(first
  | ((go_at_call 35;refine(Js w ao raw pn cap v0.o G0.o.1 G0.o.2 (by have:=h0.o;omega) t0.o).mono ?_);intro en w1 i0;rw[J0.o]at i0;obtain⟨mc,K,c1,c2,c4,c5,e,n,l0,l1,l2,l3,l4,l5,l6,za,ol,zc,rfl,j0,p,I0⟩:=i0.ms)
  | (refine aJ rfl _ (.tmp 5) (.tmp 15) rfl w1.heap.size _ rfl rfl _ _ (al w1 _) (by rw[show (⟨mc⟩:Array Z).size=25 from j0.len];kernel_rfl) (by rw[show (⟨mc⟩:Array Z).size=25 from j0.len];rfl) j0.one ?_;rw[dX]))
 obtain⟨m,x0⟩:∃m,w1.heap.size=m:=⟨_,rfl⟩;obtain⟨W2,r0⟩:∃W2,w1.alloc (.cells ⟨mc⟩ 105)=W2:=⟨_,rfl⟩;have q:ae w1.heap.size w1 W2:=by rw[←r0];exact(aD _ _).alloc (G _) _
 have E:=p.trans (q.mono p.size);have a:Hid (Tk w W2 B k j d m x z s lg mc za ol zc ao raw):=D ⟨HC.o.keep E (G _),by rw[←r0,←x0];exact al _ _,I0.keep q (G _),t0.o.keep E (G _),E⟩;have HM:=D j0;rw[r0,x0];clear i0 j0 p I0 x0 r0 q E HC t0;by_cases s0:PE=0
 rotate_left
 ·have F:(PE != 0)=O:=by simpa using s0
  have K0:=D s0;clear s0;go_wp2;go_ret;exact .inl ⟨K0.o,rfl,a.o.bl⟩
 subst s0;have F:((0:Int) != 0)=U:=rfl;have d1:W2.cell? ⟨m,1,J⟩=I (.int .i64 c1):=by rw[Bx.has a.o.ms 25 HM.o.len 1 aC,HM.o.f1]
 have d0:W2.cell? ⟨k,1,J⟩=I (.int .i64 1):=a.o.cl.bx.has 46 rfl 1 aC;go_upto_region 4 with fail
 go_cut[21] (fun u21 wc=>∃q9:Bool,u21=.bool q9∧Hid (Tk w wc B k j d m x z s lg mc za ol zc ao raw))
 case first=>
  have a:=D (a.o.tE);go_quiet (fail)
  go_wp2;go_meet
  case rel=>exact⟨_,rfl,D (a.o _)⟩
 case rest=>
 clear a d0 d1;obtain⟨q9,rfl,a⟩:=hcut
 cases q9 with
 | true=>
  go_wp2;go_ret;exact .inr ⟨rfl,_,rfl,x,z,s,lg,a.o.cl,HF.o.up A,X.o,by omega,.EO a.o.bl⟩
 | false=>
  have d0:wc.cell? ⟨m,0,J⟩=I (.int .i64 K):=by rw[Bx.has a.o.ms 25 HM.o.len 0 aC,HM.o.f0]
  go_upto_block 1 with fail
  obtain⟨W2,H⟩:∃W2,wc=W2:=⟨_,rfl⟩;subst H;clear d0;by_cases hK:K=2
  ·subst hK
   have f1:((2:Int)==2)=O:=rfl;have d2:wc.cell? ⟨m,2,J⟩=I (.int .i64 c2):=by rw[Bx.has a.o.ms 25 HM.o.len 2 aC,HM.o.f2]
   have d4:wc.cell? ⟨m,4,J⟩=I (.int .i64 c4):=by rw[Bx.has a.o.ms 25 HM.o.len 4 aC,HM.o.f4]
   have d1:wc.cell? ⟨k,2,J⟩=I (.int .i64 x.ep):=a.o.cl.bx.has 46 rfl 2 aC;go_upto_region 9 with fail
   go_cut[52] (fun u52 wc=>∃q9:Bool,u52=.bool q9∧Hid (Tk w wc B k j d m x z s lg mc za ol zc ao raw))
   case first=>
    have a:=D (a.o.tE)
    cases h1:(c2==0)with
    | false=>
     go_quiet (fail)
     go_wp2;go_meet
     case rel=>exact⟨_,rfl,D (a.o _)⟩
    | true=>
     cases h2:(c4 != x.ep)with
     | false=>
      go_quiet (fail)
      go_wp2;go_meet
      case rel=>exact⟨_,rfl,D (a.o _)⟩
     | true=>
      go_quiet (fail)
      go_wp2;go_meet
      case rel=>exact⟨_,rfl,D (a.o _)⟩
   case rest=>
    obtain⟨q9,rfl,a⟩:=hcut;clear d1 d2 d4
    cases q9 with
    | true=>
     go_wp2;go_ret;exact .inr ⟨rfl,_,rfl,x,z,s,lg,a.o.cl,HF.o.up A,X.o,by omega,.EO a.o.bl⟩
    | false=>
     go_upto_region 11 with fail
     go_cut[8,9] (fun u89 u99 wc=>∃(r:Nat)(f:eQ)(g:dH)(l:dV)(F:Int),u89=.pointer (I ⟨r,0,J⟩)∧u99=.int .i64 F∧Hid (wc.heap[r]?=I (.cells ⟨aF f g l⟩ 55 (0,0)))∧Hid (eg wc w.heap.size g l)∧Hid (l.ok (N+180)∧f.gd)∧Hid (Tk w wc B k j d m x z s lg mc za ol zc ao raw))
     case first=>
      obtain⟨b,v⟩:∃b,wc.drew=b:=⟨_,rfl⟩;have q:ae wc.heap.size wc b:=by rw[←v];exact(aD _ _).drew
      have a:=D (a.o.keep q (G _));refine bT 14 (fun u=>Bx u k (.pointer (I ⟨j,0,J⟩)::aF x z s) 92 ∧Bx u m mc 105) aj ?_;rw[v];have y0:Hid (w.heap.size≤b.heap.size):=D a.o.bl.size;clear v q;refine stP 0 (.pointer (I ⟨k,0,J⟩)) (show Bx b k (.pointer (I ⟨j,0,J⟩)::aF x z s) 92 ∧Bx b m mc 105 from⟨a.o.cl.bx,a.o.ms⟩) ?_;refine stP 1 (.pointer (I ⟨k,0,J⟩)) (show Bx b k (.pointer (I ⟨j,0,J⟩)::aF x z s) 92 ∧Bx b m mc 105 from⟨a.o.cl.bx,a.o.ms⟩) ?_;refine stP 2 (.pointer (I ⟨k,0,J⟩)) (show Bx b k (.pointer (I ⟨j,0,J⟩)::aF x z s) 92 ∧Bx b m mc 105 from⟨a.o.cl.bx,a.o.ms⟩) ?_;refine stP 3 (.pointer (I ⟨k,1,J⟩)) (show Bx b k (.pointer (I ⟨j,0,J⟩)::aF x z s) 92 ∧Bx b m mc 105 from⟨a.o.cl.bx,a.o.ms⟩) ?_;refine iA [9,10,11,14] 4 (.agg ⟨aF x z s⟩) rfl (b_ rfl _ (.tmp 57) rfl k 1 rfl (aF x z s) _ (fun u hw=>Bx.range hw.1 1 _ eZ) underlying55 rfl aj) (show Bx b k (.pointer (I ⟨j,0,J⟩)::aF x z s) 92 ∧Bx b m mc 105 from⟨a.o.cl.bx,a.o.ms⟩) ?_;refine stP 5 (.pointer (I ⟨m,2,J⟩)) (show Bx b k (.pointer (I ⟨j,0,J⟩)::aF x z s) 92 ∧Bx b m mc 105 from⟨a.o.cl.bx,a.o.ms⟩) ?_;refine iA [9,10,11,14] 6 (.int .i64 c2) rfl (.inl ⟨rfl,fun u hw=>?_⟩) (show Bx b k (.pointer (I ⟨j,0,J⟩)::aF x z s) 92 ∧Bx b m mc 105 from⟨a.o.cl.bx,a.o.ms⟩) ?_
      ·have c9:u.cell? ⟨m,2,J⟩=I (.int .i64 c2):=by rw[Bx.has hw.2 25 HM.o.len 2 aC,HM.o.f2]
       go_simp
      refine stP 7 (.pointer (I ⟨m,15,J⟩)) (show Bx b k (.pointer (I ⟨j,0,J⟩)::aF x z s) 92 ∧Bx b m mc 105 from⟨a.o.cl.bx,a.o.ms⟩) ?_;refine iA [9,10,11,14] 8 (.agg ⟨[.int .i64 e,.int .i64 n,l0,l1,l2,l3,l4,l5,l6]⟩) rfl (b_ rfl _ (.tmp 61) rfl m 15 aj [.int .i64 e,.int .i64 n,l0,l1,l2,l3,l4,l5,l6] _ (fun u hw=>Bx.range hw.2 15 _ HM.o.rp) underlying59 rfl aj) (show Bx b k (.pointer (I ⟨j,0,J⟩)::aF x z s) 92 ∧Bx b m mc 105 from⟨a.o.cl.bx,a.o.ms⟩) ?_;refine lD (i:=9) (j:=13) aj rfl rfl rfl rfl ?_ ?_
      ·go_simp
       refine(Dc b B x z s N c2 e n l0 l1 l2 l3 l4 l5 l6 a.o.cl.st HF.o (by have:=HN.o;omega) X.o).mono ?_;rintro en w2 ⟨f,g,F,rfl,o,Q,p⟩;have L:Hid (s.ok (N+180)∧f.gd):=D ⟨HF.o.up A,o⟩;have a:=D (a.o.keep p (G _));have c0:=D Q;have e0:=D p;clear Q p o;refine⟨⟨a.o.cl.bx,a.o.ms⟩,?_⟩;refine stP 10 (.tuple #[.agg ⟨aF f g s⟩,.int .i64 F]) (show Bx w2 k (.pointer (I ⟨j,0,J⟩)::aF x z s) 92 ∧Bx w2 m mc 105 from⟨a.o.cl.bx,a.o.ms⟩) ?_;refine stP 11 (.agg ⟨aF f g s⟩) (show Bx w2 k (.pointer (I ⟨j,0,J⟩)::aF x z s) 92 ∧Bx w2 m mc 105 from⟨a.o.cl.bx,a.o.ms⟩) ?_;refine stP 12 (.int .i64 F) (show Bx w2 k (.pointer (I ⟨j,0,J⟩)::aF x z s) 92 ∧Bx w2 m mc 105 from⟨a.o.cl.bx,a.o.ms⟩) ?_;refine dK 13 ?_;go_simp;obtain⟨r,C⟩:∃r,w2.heap.size=r:=⟨_,rfl⟩;obtain⟨t,R⟩:∃u,w2.alloc (.cells jV 55)=u:=⟨_,rfl⟩;rw[R];have y:ae w2.heap.size w2 t:=by rw[←R];exact(aD _ _).alloc (G _) _
       have c:Hid (t.heap[r]?=I (.cells jV 55 (0,0))∧w.heap.size≤r∧r<t.heap.size):=D ⟨by rw[←R,←C];exact al _ _,by rw[←C];exact a.o.bl.size,by rw[←R,←C];simp⟩;have a:=D (a.o.keep y (G _));rw[C];have f0:=D y;have k0:=D C;clear y C R;refine⟨⟨a.o.cl.bx,a.o.ms⟩,?_⟩;refine dK 14 ?_;refine eh _ (.tmp 8) (.tmp 64) rfl r ⟨aF f g s⟩ rfl rfl _ _ c.o.1 aj rfl (by simp[aF,ap]) ?_;refine⟨fun h=>absurd h aC,?_⟩;refine dK 15 ?_;go_simp;refine jj ?_;have S:But r t (t.setRow r ⟨aF f g s⟩):=But.row _;have g0:eg (t.setRow r ⟨aF f g s⟩) w.heap.size g s:=(c0.o.to y0.o).keep (f0.o.trans (S.below f0.o.size (bD k0.o))) (G _);have ht:=a.o.wM c.o.1 c.o.2.1 S;go_wp2;go_meet
       case rel=>exact⟨r,f,g,s,F,rfl,rfl,D (aO _ _ _ _ _ _ c.o.1),D g0,L,D ht⟩
      ·go_simp
       obtain⟨r,C⟩:∃r,b.heap.size=r:=⟨_,rfl⟩;obtain⟨w2,H⟩:∃u,b.alloc (.cells jV 55)=u:=⟨_,rfl⟩;rw[H];have y:ae b.heap.size b w2:=by rw[←H];exact(aD _ _).alloc (G _) _
       have c:Hid (w2.heap[r]?=I (.cells jV 55 (0,0))∧w.heap.size≤r∧r<w2.heap.size):=D ⟨by rw[←H,←C];exact al _ _,by rw[←C];exact a.o.bl.size,by rw[←H,←C];simp⟩;have a:=D (a.o.keep y (G _));rw[C];have f0:=D y;have k0:=D C;clear y C H;refine⟨⟨a.o.cl.bx,a.o.ms⟩,?_⟩;have a0:Hid (w.heap.size≤w2.heap.size∧r<w2.heap.size):=D ⟨a.o.bl.size,c.o.2.2⟩;refine dK 9 ?_;go_simp;refine(Dc w2 B x z s N c2 e n l0 l1 l2 l3 l4 l5 l6 a.o.cl.st HF.o (by have:=HN.o;omega) X.o).mono ?_;rintro en t ⟨f,g,F,rfl,o,Q,p⟩;have L:Hid (s.ok (N+180)∧f.gd):=D ⟨HF.o.up A,o⟩;have a:=D (a.o.keep p (G _));have c0:=D Q;have e0:=D p;clear Q p o;refine⟨⟨a.o.cl.bx,a.o.ms⟩,?_⟩;have c:=D (⟨(e0.o.block r c.o.2.2).trans c.o.1,c.o.2.1,ac c.o.2.2 e0.o.size⟩:_∧_∧_);refine stP 10 (.tuple #[.agg ⟨aF f g s⟩,.int .i64 F]) (show Bx t k (.pointer (I ⟨j,0,J⟩)::aF x z s) 92 ∧Bx t m mc 105 from⟨a.o.cl.bx,a.o.ms⟩) ?_;refine stP 11 (.agg ⟨aF f g s⟩) (show Bx t k (.pointer (I ⟨j,0,J⟩)::aF x z s) 92 ∧Bx t m mc 105 from⟨a.o.cl.bx,a.o.ms⟩) ?_;refine stP 12 (.int .i64 F) (show Bx t k (.pointer (I ⟨j,0,J⟩)::aF x z s) 92 ∧Bx t m mc 105 from⟨a.o.cl.bx,a.o.ms⟩) ?_;refine dK 14 ?_;refine eh _ (.tmp 8) (.tmp 64) rfl r ⟨aF f g s⟩ rfl rfl _ _ c.o.1 aj rfl (by simp[aF,ap]) ?_;refine⟨fun h=>absurd h aC,?_⟩;refine dK 15 ?_;go_simp;refine jj ?_;have S:But r t (t.setRow r ⟨aF f g s⟩):=But.row _;have g0:eg (t.setRow r ⟨aF f g s⟩) w.heap.size g s:=(c0.o.but S a0.o.2).to a0.o.1;have ht:=a.o.wM c.o.1 c.o.2.1 S;go_wp2;go_meet
       case rel=>exact⟨r,f,g,s,F,rfl,rfl,D (aO _ _ _ _ _ _ c.o.1),D g0,L,D ht⟩
     case rest=>
      clear a;obtain⟨r,f,g,l,F,rfl,rfl,HR,T,L,a⟩:=hcut;go_upto_region 12 with fail
      obtain⟨b,v⟩:∃b,wc.drew=b:=⟨_,rfl⟩;have q:ae wc.heap.size wc b:=by rw[←v];exact(aD _ _).drew
      have a:=D (a.o.keep q (G _));have T:=D (T.o.keep q (G _));have hS:Bx b r (aF f g l) 55:=(q.block r (br HR.o).1).trans HR.o;refine bT 5 (fun u=>Bx u r (aF f g l) 55) aj ?_;rw[v];clear v q HR;refine stP 0 (.func (.func 36) #[.pointer (I ⟨k,0,J⟩)] #[]) hS ?_;refine stP 1 (.slice ao pn cap) hS ?_;refine iA [5] 3 (.agg ⟨aF f g l⟩) rfl (b_ rfl _ (.tmp 8) rfl r 0 rfl (aF f g l) _ (fun u hw=>Bx.range (show Bx u r (aF f g l) 55 from hw) 0 _ eZ) underlying55 rfl aj) hS ?_;refine stP 4 (.int .i64 F) hS ?_;refine f_ 2 ?_;go_simp;rw[v0.o];refine(C6 b ao raw cap a.o.rd (by have:=h0.o;omega)).mono ?_;rintro en w2 ⟨lb,ab,cb,rfl,z0,ob,E⟩;have a:=D (a.o.keep E (G _));have T:=D (T.o.keep E (G _));have m0:Hid (lb.length≤310):=D (by have:=h0.o;omega);have c:=D (Sl.rd (cM ob));have hS:=(E.block r (br hS).1).trans hS;clear z0 ob E;refine⟨hS,?_⟩;clear hS;refine f_ 5 ?_;go_simp;refine(zT w2 B k j d x f z g s l lg lb ab cb N F a.o.cl (T.o.to F0.o) HF.o (by have:=HN.o;omega) c.o H0.o (by have:=m0.o;omega)).mono ?_;rintro en t ⟨e3,n0,rfl,P,A0,o0,-⟩
      have p0:Hid (∃x' z' s' q0,Cl t B k j d x' z' s' q0∧s'.ok (N+180)∧x'.gd∧q0.length≤lg.length+1000∧jJ k j d w t):=D (by
       have h9:=(jJ.EO a.o.bl).trans o0;have h8:=m0.o;rcases P with⟨-,P⟩ | ⟨-,P⟩
       ·exact⟨x,z,s,n0,P,HF.o.up A,X.o,by omega,h9⟩
       ·exact⟨f,g,l,n0,P,L.o.1,L.o.2,by omega,h9⟩)
      clear P A0 o0;first | refine⟨fun h=>by cases h,?_⟩ | skip
      refine dK 6 ?_;go_simp;refine jj ?_;go_wp2;go_ret;exact .inr ⟨rfl,e3,rfl,p0.o⟩
  ·have f1:(K==2)=U:=by simpa using hK
   by_cases h4:K=4
   ·subst h4
    have f2:((4:Int)==4)=O:=rfl;clear hK;go_upto_region 14 with fail
    go_cut[10,11] (fun u109 u119 wc=>∃(r:Nat)(f:eQ)(g:dH)(l:dV)(F:Int),u109=.pointer (I ⟨r,0,J⟩)∧u119=.int .i64 F∧Hid (wc.heap[r]?=I (.cells ⟨aF f g l⟩ 55 (0,0)))∧Hid (eg wc w.heap.size g l)∧Hid (l.ok (N+180)∧f.gd)∧Hid (Tk w wc B k j d m x z s lg mc za ol zc ao raw))
    case first=>
     obtain⟨b,v⟩:∃b,wc.drew=b:=⟨_,rfl⟩;have q:ae wc.heap.size wc b:=by rw[←v];exact(aD _ _).drew
     have a:=D (a.o.keep q (G _));refine bT 16 (fun u=>Bx u k (.pointer (I ⟨j,0,J⟩)::aF x z s) 92 ∧Bx u m mc 105) aj ?_;rw[v];have y0:Hid (w.heap.size≤b.heap.size):=D a.o.bl.size;clear v q;refine stP 0 (.pointer (I ⟨k,0,J⟩)) (show Bx b k (.pointer (I ⟨j,0,J⟩)::aF x z s) 92 ∧Bx b m mc 105 from⟨a.o.cl.bx,a.o.ms⟩) ?_;refine stP 1 (.pointer (I ⟨k,0,J⟩)) (show Bx b k (.pointer (I ⟨j,0,J⟩)::aF x z s) 92 ∧Bx b m mc 105 from⟨a.o.cl.bx,a.o.ms⟩) ?_;refine stP 2 (.pointer (I ⟨k,0,J⟩)) (show Bx b k (.pointer (I ⟨j,0,J⟩)::aF x z s) 92 ∧Bx b m mc 105 from⟨a.o.cl.bx,a.o.ms⟩) ?_;refine stP 3 (.pointer (I ⟨k,1,J⟩)) (show Bx b k (.pointer (I ⟨j,0,J⟩)::aF x z s) 92 ∧Bx b m mc 105 from⟨a.o.cl.bx,a.o.ms⟩) ?_;refine iA [11,12,13,16] 4 (.agg ⟨aF x z s⟩) rfl (b_ rfl _ (.tmp 78) rfl k 1 rfl (aF x z s) _ (fun u hw=>Bx.range hw.1 1 _ eZ) underlying55 rfl aj) (show Bx b k (.pointer (I ⟨j,0,J⟩)::aF x z s) 92 ∧Bx b m mc 105 from⟨a.o.cl.bx,a.o.ms⟩) ?_;refine stP 5 (.pointer (I ⟨m,4,J⟩)) (show Bx b k (.pointer (I ⟨j,0,J⟩)::aF x z s) 92 ∧Bx b m mc 105 from⟨a.o.cl.bx,a.o.ms⟩) ?_;refine iA [11,12,13,16] 6 (.int .i64 c4) rfl (.inl ⟨rfl,fun u hw=>?_⟩) (show Bx b k (.pointer (I ⟨j,0,J⟩)::aF x z s) 92 ∧Bx b m mc 105 from⟨a.o.cl.bx,a.o.ms⟩) ?_
     ·have c9:u.cell? ⟨m,4,J⟩=I (.int .i64 c4):=by rw[Bx.has hw.2 25 HM.o.len 4 aC,HM.o.f4]
      go_simp
     refine stP 7 (.pointer (I ⟨m,5,J⟩)) (show Bx b k (.pointer (I ⟨j,0,J⟩)::aF x z s) 92 ∧Bx b m mc 105 from⟨a.o.cl.bx,a.o.ms⟩) ?_;refine iA [11,12,13,16] 8 (.int .i64 c5) rfl (.inl ⟨rfl,fun u hw=>?_⟩) (show Bx b k (.pointer (I ⟨j,0,J⟩)::aF x z s) 92 ∧Bx b m mc 105 from⟨a.o.cl.bx,a.o.ms⟩) ?_
     ·have c9:u.cell? ⟨m,5,J⟩=I (.int .i64 c5):=by rw[Bx.has hw.2 25 HM.o.len 5 aC,HM.o.f5]
      go_simp
     refine stP 9 (.pointer (I ⟨m,24,J⟩)) (show Bx b k (.pointer (I ⟨j,0,J⟩)::aF x z s) 92 ∧Bx b m mc 105 from⟨a.o.cl.bx,a.o.ms⟩) ?_;refine iA [11,12,13,16] 10 (.slice za ol.length zc) rfl (.inl ⟨rfl,fun u hw=>?_⟩) (show Bx b k (.pointer (I ⟨j,0,J⟩)::aF x z s) 92 ∧Bx b m mc 105 from⟨a.o.cl.bx,a.o.ms⟩) ?_
     ·have c9:u.cell? ⟨m,24,J⟩=I (.slice za ol.length zc):=by rw[Bx.has hw.2 25 HM.o.len 24 aC,HM.o.f24]
      go_simp
     refine lD (i:=11) (j:=15) aj rfl rfl rfl rfl ?_ ?_
     ·go_simp
      refine(Db b B w.heap.size x z s N c4 c5 za zc ol a.o.cl.st HF.o (by have:=HN.o;omega) a.o.op HM.o.few HM.o.sh).mono ?_;rintro en w2 ⟨f,g,l,F,rfl,o,Q,b0,p⟩;have L:Hid (l.ok (N+180)∧f.gd):=D ⟨b0,by unfold eQ.gd;rw[o.1,o.2];exact X.o⟩;clear b0;have a:=D (a.o.keep p (G _));have c0:=D Q;have e0:=D p;clear Q p o;refine⟨⟨a.o.cl.bx,a.o.ms⟩,?_⟩;refine stP 12 (.tuple #[.agg ⟨aF f g l⟩,.int .i64 F]) (show Bx w2 k (.pointer (I ⟨j,0,J⟩)::aF x z s) 92 ∧Bx w2 m mc 105 from⟨a.o.cl.bx,a.o.ms⟩) ?_;refine stP 13 (.agg ⟨aF f g l⟩) (show Bx w2 k (.pointer (I ⟨j,0,J⟩)::aF x z s) 92 ∧Bx w2 m mc 105 from⟨a.o.cl.bx,a.o.ms⟩) ?_;refine stP 14 (.int .i64 F) (show Bx w2 k (.pointer (I ⟨j,0,J⟩)::aF x z s) 92 ∧Bx w2 m mc 105 from⟨a.o.cl.bx,a.o.ms⟩) ?_;refine dK 15 ?_;go_simp;obtain⟨r,C⟩:∃r,w2.heap.size=r:=⟨_,rfl⟩;obtain⟨t,R⟩:∃u,w2.alloc (.cells jV 55)=u:=⟨_,rfl⟩;rw[R];have y:ae w2.heap.size w2 t:=by rw[←R];exact(aD _ _).alloc (G _) _
      have c:Hid (t.heap[r]?=I (.cells jV 55 (0,0))∧w.heap.size≤r∧r<t.heap.size):=D ⟨by rw[←R,←C];exact al _ _,by rw[←C];exact a.o.bl.size,by rw[←R,←C];simp⟩;have a:=D (a.o.keep y (G _));rw[C];have f0:=D y;have k0:=D C;clear y C R;refine⟨⟨a.o.cl.bx,a.o.ms⟩,?_⟩;refine dK 16 ?_;refine eh _ (.tmp 10) (.tmp 87) rfl r ⟨aF f g l⟩ rfl rfl _ _ c.o.1 aj rfl (by simp[aF,ap]) ?_;refine⟨fun h=>absurd h aC,?_⟩;refine dK 17 ?_;go_simp;refine jj ?_;have S:But r t (t.setRow r ⟨aF f g l⟩):=But.row _;have g0:eg (t.setRow r ⟨aF f g l⟩) w.heap.size g l:=(c0.o.to y0.o).keep (f0.o.trans (S.below f0.o.size (bD k0.o))) (G _);have ht:=a.o.wM c.o.1 c.o.2.1 S;go_wp2;go_meet
      case rel=>exact⟨r,f,g,l,F,rfl,rfl,D (aO _ _ _ _ _ _ c.o.1),D g0,L,D ht⟩
     ·go_simp
      obtain⟨r,C⟩:∃r,b.heap.size=r:=⟨_,rfl⟩;obtain⟨w2,H⟩:∃u,b.alloc (.cells jV 55)=u:=⟨_,rfl⟩;rw[H];have y:ae b.heap.size b w2:=by rw[←H];exact(aD _ _).alloc (G _) _
      have c:Hid (w2.heap[r]?=I (.cells jV 55 (0,0))∧w.heap.size≤r∧r<w2.heap.size):=D ⟨by rw[←H,←C];exact al _ _,by rw[←C];exact a.o.bl.size,by rw[←H,←C];simp⟩;have a:=D (a.o.keep y (G _));rw[C];have f0:=D y;have k0:=D C;clear y C H;refine⟨⟨a.o.cl.bx,a.o.ms⟩,?_⟩;have a0:Hid (w.heap.size≤w2.heap.size∧r<w2.heap.size):=D ⟨a.o.bl.size,c.o.2.2⟩;refine dK 11 ?_;go_simp;refine(Db w2 B w.heap.size x z s N c4 c5 za zc ol a.o.cl.st HF.o (by have:=HN.o;omega) a.o.op HM.o.few HM.o.sh).mono ?_;rintro en t ⟨f,g,l,F,rfl,o,Q,b0,p⟩;have L:Hid (l.ok (N+180)∧f.gd):=D ⟨b0,by unfold eQ.gd;rw[o.1,o.2];exact X.o⟩;clear b0;have a:=D (a.o.keep p (G _));have c0:=D Q;have e0:=D p;clear Q p o;refine⟨⟨a.o.cl.bx,a.o.ms⟩,?_⟩;have c:=D (⟨(e0.o.block r c.o.2.2).trans c.o.1,c.o.2.1,ac c.o.2.2 e0.o.size⟩:_∧_∧_);refine stP 12 (.tuple #[.agg ⟨aF f g l⟩,.int .i64 F]) (show Bx t k (.pointer (I ⟨j,0,J⟩)::aF x z s) 92 ∧Bx t m mc 105 from⟨a.o.cl.bx,a.o.ms⟩) ?_;refine stP 13 (.agg ⟨aF f g l⟩) (show Bx t k (.pointer (I ⟨j,0,J⟩)::aF x z s) 92 ∧Bx t m mc 105 from⟨a.o.cl.bx,a.o.ms⟩) ?_;refine stP 14 (.int .i64 F) (show Bx t k (.pointer (I ⟨j,0,J⟩)::aF x z s) 92 ∧Bx t m mc 105 from⟨a.o.cl.bx,a.o.ms⟩) ?_;refine dK 16 ?_;refine eh _ (.tmp 10) (.tmp 87) rfl r ⟨aF f g l⟩ rfl rfl _ _ c.o.1 aj rfl (by simp[aF,ap]) ?_;refine⟨fun h=>absurd h aC,?_⟩;refine dK 17 ?_;go_simp;refine jj ?_;have S:But r t (t.setRow r ⟨aF f g l⟩):=But.row _;have g0:eg (t.setRow r ⟨aF f g l⟩) w.heap.size g l:=(c0.o.but S a0.o.2).to a0.o.1;have ht:=a.o.wM c.o.1 c.o.2.1 S;go_wp2;go_meet
      case rel=>exact⟨r,f,g,l,F,rfl,rfl,D (aO _ _ _ _ _ _ c.o.1),D g0,L,D ht⟩
    case rest=>
     clear a;obtain⟨r,f,g,l,F,rfl,rfl,HR,T,L,a⟩:=hcut;go_upto_region 15 with fail
     obtain⟨b,v⟩:∃b,wc.drew=b:=⟨_,rfl⟩;have q:ae wc.heap.size wc b:=by rw[←v];exact(aD _ _).drew
     have a:=D (a.o.keep q (G _));have T:=D (T.o.keep q (G _));have hS:Bx b r (aF f g l) 55:=(q.block r (br HR.o).1).trans HR.o;refine bT 5 (fun u=>Bx u r (aF f g l) 55) aj ?_;rw[v];clear v q HR;refine stP 0 (.func (.func 36) #[.pointer (I ⟨k,0,J⟩)] #[]) hS ?_;refine stP 1 (.slice ao pn cap) hS ?_;refine iA [5] 3 (.agg ⟨aF f g l⟩) rfl (b_ rfl _ (.tmp 10) rfl r 0 rfl (aF f g l) _ (fun u hw=>Bx.range (show Bx u r (aF f g l) 55 from hw) 0 _ eZ) underlying55 rfl aj) hS ?_;refine stP 4 (.int .i64 F) hS ?_;refine f_ 2 ?_;go_simp;rw[v0.o];refine(C6 b ao raw cap a.o.rd (by have:=h0.o;omega)).mono ?_;rintro en w2 ⟨lb,ab,cb,rfl,z0,ob,E⟩;have a:=D (a.o.keep E (G _));have T:=D (T.o.keep E (G _));have m0:Hid (lb.length≤310):=D (by have:=h0.o;omega);have c:=D (Sl.rd (cM ob));have hS:=(E.block r (br hS).1).trans hS;clear z0 ob E;refine⟨hS,?_⟩;clear hS;refine f_ 5 ?_;go_simp;refine(zT w2 B k j d x f z g s l lg lb ab cb N F a.o.cl (T.o.to F0.o) HF.o (by have:=HN.o;omega) c.o H0.o (by have:=m0.o;omega)).mono ?_;rintro en t ⟨e3,n0,rfl,P,A0,o0,-⟩
     have p0:Hid (∃x' z' s' q0,Cl t B k j d x' z' s' q0∧s'.ok (N+180)∧x'.gd∧q0.length≤lg.length+1000∧jJ k j d w t):=D (by
      have h9:=(jJ.EO a.o.bl).trans o0;have h8:=m0.o;rcases P with⟨-,P⟩ | ⟨-,P⟩
      ·exact⟨x,z,s,n0,P,HF.o.up A,X.o,by omega,h9⟩
      ·exact⟨f,g,l,n0,P,L.o.1,L.o.2,by omega,h9⟩)
     clear P A0 o0;first | refine⟨fun h=>by cases h,?_⟩ | skip
     refine dK 6 ?_;go_simp;refine jj ?_;go_wp2;go_ret;exact .inr ⟨rfl,e3,rfl,p0.o⟩
   ·have f2:(K==4)=U:=by simpa using h4
    clear hK h4
    cases f3:(K==5)with
    | true=>
     go_wp2;go_ret;exact .inr ⟨rfl,_,rfl,x,z,s,lg,a.o.cl,HF.o.up A,X.o,by omega,.EO a.o.bl⟩
    | false=>
     go_wp2;go_ret;exact .inr ⟨rfl,_,rfl,x,z,s,lg,a.o.cl,HF.o.up A,X.o,by omega,.EO a.o.bl⟩
def S1(w:V):ar M 71 #[.agg jK] w (fun ev w'=>∃(l:List UInt8)(a:Option aB)(c:Nat),ev=.returned (.slice a l.length c)∧l.length≤80∧Rd w' a (bX l)∧ae w.heap.size w w'):=by
 obtain⟨b,B⟩:∃b,w.heap.size=b:=⟨_,rfl⟩;obtain⟨W,v⟩:∃W,w.alloc (.cells jK 51)=W:=⟨_,rfl⟩;have n:Hid (ae w.heap.size w W):=D (by rw[←v];exact(aD _ _).alloc (G _) _);have Q:Hid (W.heap[b]?=I (.cells jK 51 (0,0))):=D (by rw[←v,←B];exact al _ _);have R:=D v;have HE:=D B;clear v B
 go_enter func71,ntmps71
 go_upto_region 1 with fail
 rw[R.o,HE.o];clear R;obtain⟨m,e⟩:∃m,W.drew=m:=⟨_,rfl⟩;have d:m.heap[b]?=I (.cells jK 51 (0,0)):=by rw[←e];exact Q.o
 have n:Hid (ae w.heap.size w m):=D (by rw[←e];exact n.o.drew);refine bT 9 (fun w'=>w'.heap[b]?=I (.cells jK 51 (0,0))) aj ?_;rw[e];clear e Q;refine stP 1 (.pointer (I ⟨b,0,J⟩)) d ?_;refine iA [7,8,9] 2 (.int .i64 1) rfl (.inl ⟨rfl,fun w' o=>?_⟩) d ?_
 ·obtain⟨c0,c1,c2,x,y,S,T⟩:=dZ o
  go_simp
 refine stP 3 (.pointer (I ⟨b,4,J⟩)) d ?_;refine iA [7,8,9] 4 (.int .i64 0) rfl (.inl ⟨rfl,fun w' o=>?_⟩) d ?_
 ·obtain⟨c0,c1,c2,x,y,S,T⟩:=dZ o
  go_simp
 refine stP 5 (.pointer (I ⟨b,5,J⟩)) d ?_;refine iA [7,8,9] 6 (.slice J 0 0) rfl (.inl ⟨rfl,fun w' o=>?_⟩) d ?_
 ·obtain⟨c0,c1,c2,x,y,S,T⟩:=dZ o
  go_simp
 refine stP 7 (.agg jK) d ?_;refine f_ 0 ?_;go_simp;refine(mU m J [] 0 1 (Rd.nil _ _) bW).mono ?_;rintro en w2 ⟨z,a2,c2,rfl,X,C,b2⟩;rw[List.nil_append]at C⊢;have d:=(b2.block b (br d).1).trans d;have f:=D X;have O2:=D C;have p:=D (n.o.trans (b2.mono n.o.size));have E:=D b2.size;clear X C b2;refine⟨d,?_⟩;refine f_ 8 ?_;go_simp;refine(YZ w2).mono ?_;rintro en w3 ⟨q,a3,x,rfl,h3,r3,b3⟩;have d:=(b3.block b (br d).1).trans d;have j:=D h3;have R3:=D r3;have O3:=D (rI O2.o b3 (G _));have r:=D (p.o.trans (b3.mono p.o.size));have F:=D (aa E.o b3.size);clear h3 r3 b3;refine⟨d,?_⟩;clear d;obtain⟨i,hi,H,K,L⟩:=info_parts ym;refine dK 9 ?_;refine vS _ _ 33 rfl m.heap.size 5 i _ 1 1 underlying33 hi H K L rfl aC _ z.length (bX z) rfl O3.o a3 q.length x (bX q) rfl (by rw[ld,dL]) R3.o (mQ q) (by have:=f.o;have:=j.o;unfold maxLen;omega) (by have:=f.o;have:=j.o;omega) F.o ?_;intro v4 w4 k s t;obtain⟨a4,y,rfl,-,-⟩:=bY k;have u:=r.o.grown s r.o.size (fun g hg=>aa n.o.size (k_ O3.o g hg));have N:Hid (Rd w4 a4 (bX (z++q))):=D (by rw[tj];exact Sl.rd (cM k));have P:=D u;clear k s t u;refine⟨fun h=>absurd h aC,?_⟩;refine dK 10 ?_;go_simp;refine jj ?_;go_wp2;go_ret;exact⟨z++q,a4,y,by rw[ay];rfl,by rw[ay];have:=f.o;have:=j.o;omega,N.o,P.o⟩
structure Kg(w wr:V)(B k j d b:Nat)(z:dH):Prop where
 cl:Cl wr B k j d x00 z fb []
 cm:wr.heap[b]?=I (.cells jK 51 (0,0))
 fr:Fr wr j d
 bl:ae w.heap.size w wr
def Kg.keep{w wr e:V}{B k j d b C:Nat}{z:dH}(h:Kg w wr B k j d b z)(a:ae C wr e)(c:wr.heap.size≤C):Kg w e B k j d b z:=
 ⟨h.cl.keep a c,(a.block _ (ac (br h.cm).1 c)).trans h.cm,h.fr.keep a c,h.bl.trans (a.mono (aa h.bl.size c))⟩
def Kg.wM{w wr i:V}{B k j d b r:Nat}{z:dH}(h:Kg w wr B k j d b z)(c:wr.heap[r]?=I (.cells jV 55 (0,0)))(l:w.heap.size≤r)(a:But r wr i):Kg w i B k j d b z:=by
 obtain⟨e,f,done,m,n,o,g⟩:=h.fr;exact⟨h.cl.ZG c a,(a.block b (br h.cm).1 (el h.cm c aC)).trans h.cm,⟨(a.block j (br e).1 (el e c aC)).trans e,f,done,m,n,o,(a.block d (br g).1 (el g c aC)).trans g⟩,h.bl.trans (a.below h.bl.size l)⟩
def Qx(w:V)(B k j d:Nat)(z:dH)(h:Cl w B k j d x00 z fb [])(Q:Fr w j d)(hB:B≤w.heap.size):
  ar M 24 #[.pointer (I ⟨k,0,J⟩),.agg jK] w (fun ev w'=>ev=.returned (.int .i64 0)∧∃z' lg,Cl w' B k j d x01 z' fb lg∧lg.length≤300∧jJ k j d w w'):=by
 obtain⟨b,hb⟩:∃b,w.heap.size=b:=⟨_,rfl⟩;obtain⟨W,hW⟩:∃W,w.alloc (.cells jK 51)=W:=⟨_,rfl⟩;have g:ae w.heap.size w W:=by rw[←hW];exact(aD _ _).alloc (G _) _
 have a:Hid (Kg w W B k j d b z):=D ⟨h.keep g (G _),by rw[←hW,←hb];exact al _ _,Q.keep g (G _),g⟩;have e0:=D hB;have HW:=D hW;have HE:=D hb;clear hW hb g h Q hB
 go_enter func24,ntmps24
 go_upto_region 1 with fail
 rw[HW.o,HE.o];clear HW
 go_cut[5,6] (fun u59 u69 wc=>∃(r:Nat)(e:dH),u59=.pointer (I ⟨r,0,J⟩)∧u69=.int .i64 0∧Hid (wc.heap[r]?=I (.cells ⟨aF x01 e fb⟩ 55 (0,0)))∧Hid (eg wc w.heap.size e fb)∧Hid (Kg w wc B k j d b z))
 case first=>
  obtain⟨f,n⟩:∃f,W.drew=f:=⟨_,rfl⟩;have g:ae W.heap.size W f:=by rw[←n];exact(aD _ _).drew
  have a:=D (a.o.keep g (G _));refine bT 10 (fun w'=>Bx w' k (.pointer (I ⟨j,0,J⟩)::aF x00 z fb) 92 ∧w'.heap[b]?=I (.cells jK 51 (0,0))) aj ?_;rw[n];have f0:Hid (w.heap.size≤f.heap.size):=D a.o.bl.size;clear n g;refine stP 0 (.pointer (I ⟨k,0,J⟩)) (show Bx f k (.pointer (I ⟨j,0,J⟩)::aF x00 z fb) 92 ∧f.heap[b]?=I (.cells jK 51 (0,0))from⟨a.o.cl.bx,a.o.cm⟩) ?_;refine stP 1 (.pointer (I ⟨k,0,J⟩)) (show Bx f k (.pointer (I ⟨j,0,J⟩)::aF x00 z fb) 92 ∧f.heap[b]?=I (.cells jK 51 (0,0))from⟨a.o.cl.bx,a.o.cm⟩) ?_;refine stP 2 (.pointer (I ⟨k,1,J⟩)) (show Bx f k (.pointer (I ⟨j,0,J⟩)::aF x00 z fb) 92 ∧f.heap[b]?=I (.cells jK 51 (0,0))from⟨a.o.cl.bx,a.o.cm⟩) ?_;refine iA [5,6,7,10] 3 (.agg ⟨aF x00 z fb⟩) rfl (b_ rfl _ (.tmp 10) rfl k 1 rfl (aF x00 z fb) _ (fun w' H=>Bx.range H.1 1 _ eZ) underlying55 rfl aj) (show Bx f k (.pointer (I ⟨j,0,J⟩)::aF x00 z fb) 92 ∧f.heap[b]?=I (.cells jK 51 (0,0))from⟨a.o.cl.bx,a.o.cm⟩) ?_;refine iA [5,6,7,10] 4 (.agg jK) rfl (b_ rfl _ (.tmp 3) rfl b 0 rfl jK.toList _ (fun w' H=>Bx.range (show Bx w' b jK.toList 51 from H.2) 0 _ eZ) underlying51 rfl aj) (show Bx f k (.pointer (I ⟨j,0,J⟩)::aF x00 z fb) 92 ∧f.heap[b]?=I (.cells jK 51 (0,0))from⟨a.o.cl.bx,a.o.cm⟩) ?_;refine lD (i:=5) (j:=9) aj rfl rfl rfl rfl ?_ ?_
  ·go_simp
   refine(M_ f B z a.o.cl.st).mono ?_;rintro en l ⟨e,rfl,s,o⟩;have a:=D (a.o.keep o (G _));have K:=D s;have L:=D o;clear s o;refine⟨⟨a.o.cl.bx,a.o.cm⟩,?_⟩;refine stP 6 (.tuple #[.agg ⟨aF x01 e fb⟩,.int .i64 0]) (show Bx l k (.pointer (I ⟨j,0,J⟩)::aF x00 z fb) 92 ∧l.heap[b]?=I (.cells jK 51 (0,0))from⟨a.o.cl.bx,a.o.cm⟩) ?_;refine stP 7 (.agg ⟨aF x01 e fb⟩) (show Bx l k (.pointer (I ⟨j,0,J⟩)::aF x00 z fb) 92 ∧l.heap[b]?=I (.cells jK 51 (0,0))from⟨a.o.cl.bx,a.o.cm⟩) ?_;refine stP 8 (.int .i64 0) (show Bx l k (.pointer (I ⟨j,0,J⟩)::aF x00 z fb) 92 ∧l.heap[b]?=I (.cells jK 51 (0,0))from⟨a.o.cl.bx,a.o.cm⟩) ?_;refine dK 9 ?_;go_simp;obtain⟨r,q⟩:∃r,l.heap.size=r:=⟨_,rfl⟩;obtain⟨m,t⟩:∃w',l.alloc (.cells jV 55)=w':=⟨_,rfl⟩;rw[t];have p:ae l.heap.size l m:=by rw[←t];exact(aD _ _).alloc (G _) _
   have c:Hid (m.heap[r]?=I (.cells jV 55 (0,0))∧w.heap.size≤r∧r<m.heap.size):=D ⟨by rw[←t,←q];exact al _ _,by rw[←q];exact a.o.bl.size,by rw[←t,←q];simp⟩;have a:=D (a.o.keep p (G _));rw[q];have N:=D p;have R:=D q;clear p q t;refine⟨⟨a.o.cl.bx,a.o.cm⟩,?_⟩;refine dK 10 ?_;refine eh _ (.tmp 5) (.tmp 14) rfl r ⟨aF x01 e fb⟩ rfl rfl _ _ c.o.1 aj rfl (by simp[aF,ap]) ?_;refine⟨fun h=>absurd h aC,?_⟩;refine dK 11 ?_;go_simp;refine jj ?_;have u:But r m (m.setRow r ⟨aF x01 e fb⟩):=But.row _;have P:eg (m.setRow r ⟨aF x01 e fb⟩) w.heap.size e fb:=(K.o.to f0.o).keep (N.o.trans (u.below N.o.size (bD R.o))) (G _);have ht:=a.o.wM c.o.1 c.o.2.1 u;go_wp2;go_meet
   case rel=>exact⟨r,e,rfl,rfl,D (aO _ _ _ _ _ _ c.o.1),D P,D ht⟩
  ·go_simp
   obtain⟨r,q⟩:∃r,f.heap.size=r:=⟨_,rfl⟩;obtain⟨l,v⟩:∃w',f.alloc (.cells jV 55)=w':=⟨_,rfl⟩;rw[v];have p:ae f.heap.size f l:=by rw[←v];exact(aD _ _).alloc (G _) _
   have c:Hid (l.heap[r]?=I (.cells jV 55 (0,0))∧w.heap.size≤r∧r<l.heap.size):=D ⟨by rw[←v,←q];exact al _ _,by rw[←q];exact a.o.bl.size,by rw[←v,←q];simp⟩;have a:=D (a.o.keep p (G _));rw[q];have N:=D p;have R:=D q;clear p q v;refine⟨⟨a.o.cl.bx,a.o.cm⟩,?_⟩;have F:Hid (w.heap.size≤l.heap.size∧r<l.heap.size):=D ⟨a.o.bl.size,c.o.2.2⟩;refine dK 5 ?_;go_simp;refine(M_ l B z a.o.cl.st).mono ?_;rintro en m ⟨e,rfl,s,o⟩;have a:=D (a.o.keep o (G _));have K:=D s;have L:=D o;clear s o;refine⟨⟨a.o.cl.bx,a.o.cm⟩,?_⟩;have c:=D (⟨(L.o.block r c.o.2.2).trans c.o.1,c.o.2.1,ac c.o.2.2 L.o.size⟩:_∧_∧_);refine stP 6 (.tuple #[.agg ⟨aF x01 e fb⟩,.int .i64 0]) (show Bx m k (.pointer (I ⟨j,0,J⟩)::aF x00 z fb) 92 ∧m.heap[b]?=I (.cells jK 51 (0,0))from⟨a.o.cl.bx,a.o.cm⟩) ?_;refine stP 7 (.agg ⟨aF x01 e fb⟩) (show Bx m k (.pointer (I ⟨j,0,J⟩)::aF x00 z fb) 92 ∧m.heap[b]?=I (.cells jK 51 (0,0))from⟨a.o.cl.bx,a.o.cm⟩) ?_;refine stP 8 (.int .i64 0) (show Bx m k (.pointer (I ⟨j,0,J⟩)::aF x00 z fb) 92 ∧m.heap[b]?=I (.cells jK 51 (0,0))from⟨a.o.cl.bx,a.o.cm⟩) ?_;refine dK 10 ?_;refine eh _ (.tmp 5) (.tmp 14) rfl r ⟨aF x01 e fb⟩ rfl rfl _ _ c.o.1 aj rfl (by simp[aF,ap]) ?_;refine⟨fun h=>absurd h aC,?_⟩;refine dK 11 ?_;go_simp;refine jj ?_;have u:But r m (m.setRow r ⟨aF x01 e fb⟩):=But.row _;have P:eg (m.setRow r ⟨aF x01 e fb⟩) w.heap.size e fb:=(K.o.but u F.o.2).to F.o.1;have ht:=a.o.wM c.o.1 c.o.2.1 u;go_wp2;go_meet
   case rel=>exact⟨r,e,rfl,rfl,D (aO _ _ _ _ _ _ c.o.1),D P,D ht⟩
 case rest=>
  clear a;obtain⟨r,e,rfl,rfl,HR,x,a⟩:=hcut;go_upto_region 2 with fail
  obtain⟨f,n⟩:∃f,wc.drew=f:=⟨_,rfl⟩;have g:ae wc.heap.size wc f:=by rw[←n];exact(aD _ _).drew
  have a:=D (a.o.keep g (G _));have x:=D (x.o.keep g (G _));have y:Bx f r (aF x01 e fb) 55 ∧f.heap[b]?=I (.cells jK 51 (0,0)):=⟨(g.block r (br HR.o).1).trans HR.o,a.o.cm⟩;refine bT 5 (fun w'=>Bx w' r (aF x01 e fb) 55 ∧w'.heap[b]?=I (.cells jK 51 (0,0))) aj ?_;rw[n];clear n g HR;refine stP 0 (.pointer (I ⟨k,0,J⟩)) y ?_;refine iA [2,5] 1 (.agg jK) rfl (b_ rfl _ (.tmp 3) rfl b 0 rfl jK.toList _ (fun w' H=>Bx.range (show Bx w' b jK.toList 51 from H.2) 0 _ eZ) underlying51 rfl aj) y ?_;refine iA [5] 3 (.agg ⟨aF x01 e fb⟩) rfl (b_ rfl _ (.tmp 5) rfl r 0 rfl (aF x01 e fb) _ (fun w' H=>Bx.range H.1 0 _ eZ) underlying55 rfl aj) y ?_;refine stP 4 (.int .i64 0) y ?_;refine f_ 2 ?_;go_simp;refine(S1 f).mono ?_;rintro en l ⟨lb,ab,cb,rfl,S,rb,C⟩;have a:=D (a.o.keep C (G _));have x:=D (x.o.keep C (G _));have T:=D S;have c:=D rb;have y:=(⟨(C.block r (br y.1).1).trans y.1,a.o.cm⟩:Bx l r (aF x01 e fb) 55 ∧l.heap[b]?=I (.cells jK 51 (0,0)));clear S rb C;refine⟨y,?_⟩;clear y;refine f_ 5 ?_;go_simp;refine(zT l B k j d x00 x01 z e fb fb [] lb ab cb 0 0 a.o.cl (x.o.to e0.o) (BZ 0) A c.o aC (by have:=T.o;omega)).mono ?_;rintro en m ⟨e3,X,rfl,E,a0,b0,c0⟩;have he:=c0 ⟨rfl,a.o.fr⟩
  have d0:Hid (∃z' lg,Cl m B k j d x01 z' fb lg∧lg.length≤300∧jJ k j d w m):=D (by
   have h8:=T.o;rcases E with⟨h1,-⟩ | ⟨-,E⟩
   ·exact absurd he h1
   ·exact⟨e,X,E,by have:X.length≤0+(2*lb.length+16):=a0;omega,(jJ.EO a.o.bl).trans b0⟩)
  subst he;clear E a0 b0 c0;first | refine⟨fun h=>by cases h,?_⟩ | skip
  refine dK 6 ?_;go_simp;refine jj ?_;go_wp2;go_ret;exact⟨rfl,d0.o⟩
def EP(w:V)(B k j d:Nat)(z:dH)(h:Cl w B k j d x00 z fb [])(a:Fr w j d)(b:B≤w.heap.size):
  ar M 7 #[.pointer (I ⟨k,0,J⟩)] w (fun e w'=>e=.returned (.int .i64 0)∧∃f lg,Cl w' B k j d x01 f fb lg∧lg.length≤300∧jJ k j d w w'):=by
 have g:=D h;have HF:=D a;have i:=D b;clear h a b
 go_enter func7,ntmps7
 go_wp2_with ((go_at_call 24;refine(Qx w B k j d z g.o HF.o i.o).mono ?_);rintro en m ⟨rfl,c⟩;have l:=D c;clear c)
 go_ret;exact⟨rfl,l.o⟩
def Y1(x:D3)(w:V):fz M (dr .neq 73 (.agg (ku x).toArray) (.agg (ku x).toArray)) w=.ok (.bool U) w:=by
 have u3:= underlying3;have a3:= isAgg3;have c:= sizeOf3;have a: prog.underlying 73 =I (.struct (prog.fieldsOf 73)):=aj
 have b: prog.stoodInHeld 73 =U:=aj
 obtain⟨d,e,f⟩:=x;simp only[ku];rw[run_neq_struct,show(10000:Nat)=9999+1 from rfl,dO w 9999 73 _ _ a b];simp only[dB,underlying73];go_simp
def LW(v v':Z)(l:List D3)(w:V)(h:cc cn.f cn.E w v l)(m:cc cn.f cn.E w v' l)(s:l.length<100000000):ar M 97 #[v,v'] w (fun en w'=>en=.returned (.bool O)∧ae w.heap.size w w'):=by
 obtain⟨ao,cap,rfl,-,-⟩:=Sl.shape h;obtain⟨z,t,rfl,-,-⟩:=Sl.shape m;have H:=D h;have B:=D m;have C:=D s;have L:((l.length:Int) != (l.length:Int))=U:=bW
 clear h m s
 go_enter func97,ntmps97
 go_wp2
 go_loopw[5] (fun n wr=>∃k:Nat,n=.int .i64 k∧Hid (k≤l.length)∧Hid (ae w.heap.size w wr)) (fun n _=>l.length-(bp n).toNat)
 case atStart=>exact⟨0,rfl,D (aw _),D (aD _ _)⟩
 case round=>
  obtain⟨k,rfl,u,g⟩:=hrel;rcases aL k l.length with d | o
  ·obtain⟨b,e,rfl,E,i⟩:=cc.at H.o cn.len cn.pos g.o (G _) k d
   obtain⟨p,c,rfl,y,j⟩:=cc.at B.o cn.len cn.pos g.o (G _) k d;have f:=D d;have F:(k:Int)<l.length:=A
   have N:bi ((k:Int)+1)=(k:Int)+1:=ag _ (by have:=C.o;omega);generalize l[k]=x at*;have q:= Y1 x;have r:=fun op a b w=> LF op a b x x w
   obtain⟨P,Q,R⟩:=x;have c0:wr.cell? ⟨b,e+k*3,J⟩=I _:=i 0 _ rfl;have c1:wr.cell? ⟨b,e+k*3+1,J⟩=I _:=i 1 _ rfl;have c2:wr.cell? ⟨b,e+k*3+2,J⟩=I _:=i 2 _ rfl;have d0:wr.cell? ⟨p,c+k*3,J⟩=I _:=j 0 _ rfl;have S:wr.cell? ⟨p,c+k*3+1,J⟩=I _:=j 1 _ rfl;have T:wr.cell? ⟨p,c+k*3+2,J⟩=I _:=j 2 _ rfl;simp only[ku]at q r;clear i j d;go_upto_region 6 with fail
   go_quiet (fail)
   go_wp2;go_roundw
   case rel=>exact⟨k+1,by go_num,f.o,D (below_drewN g.o _)⟩
   case measure=>exact bA f.o _ eT
  ·have K:k=l.length:=by have:=u.o;omega
   subst K;clear u o;go_wp2;go_ret;exact⟨rfl,g.o⟩
def Y2(x:D3)(w:V):fz M (dr .eql 202 (.agg (ku x).toArray) (.agg (ku x).toArray)) w=.ok (.bool O) w:=by
 have u3:= underlying3;have a3:= isAgg3;have c:= sizeOf3;have u4:= underlying9;have a4:= isAgg9;have d:= sizeOf9;have a: prog.underlying 202 =I (.struct (prog.fieldsOf 202)):=aj
 have b: prog.stoodInHeld 202 =U:=aj
 obtain⟨e,f,g⟩:=x;simp only[ku];rw[kz,show(10000:Nat)=9999+1 from rfl,dO w 9999 202 _ _ a b];simp only[dB,underlying202];go_simp
def Y3(x:yp)(w:V):fz M (dr .eql 204 (.agg (nw x).toArray) (.agg (nw x).toArray)) w=.ok (.bool O) w:=by
 have u3:= underlying3;have a3:= isAgg3;have e:= sizeOf3;have u4:= underlying9;have a4:= isAgg9;have f:= sizeOf9;have a5:= isAgg73;have g:= sizeOf73;have a:Hid (prog.underlying 73 =I (.struct (prog.fieldsOf 73))):=D aj;have b: prog.stoodInHeld 73 =U:=aj
 have c: prog.underlying 204 =I (.struct (prog.fieldsOf 204)):=aj
 have d: prog.stoodInHeld 204 =U:=aj
 obtain⟨h,i,j,k,l,m,n⟩:=x;simp only[nw];rw[kz,show(10000:Nat)=9999+1 from rfl,dO w 9999 204 _ _ c d];simp only[dB,underlying204];go_simp
def Y4(x:qW)(w:V):fz M (dr .eql 206 (.agg (kv x).toArray) (.agg (kv x).toArray)) w=.ok (.bool O) w:=by
 have u3:= underlying3;have a3:= isAgg3;have e:= sizeOf3;have u4:= underlying9;have a4:= isAgg9;have f:= sizeOf9;have a5:= isAgg73;have g:= sizeOf73;have a:Hid (prog.underlying 73 =I (.struct (prog.fieldsOf 73))):=D aj;have b: prog.stoodInHeld 73 =U:=aj
 have c: prog.underlying 206 =I (.struct (prog.fieldsOf 206)):=aj
 have d: prog.stoodInHeld 206 =U:=aj
 obtain⟨h,i,j,k,l,m⟩:=x;simp only[kv];rw[kz,show(10000:Nat)=9999+1 from rfl,dO w 9999 206 _ _ c d];simp only[dB,underlying206];go_simp
def Y5(x:yq)(w:V):fz M (dr .eql 208 (.agg (ox x).toArray) (.agg (ox x).toArray)) w=.ok (.bool O) w:=by
 have u3:= underlying3;have a3:= isAgg3;have c:= sizeOf3;have u4:= underlying9;have a4:= isAgg9;have d:= sizeOf9;have a: prog.underlying 208 =I (.struct (prog.fieldsOf 208)):=aj
 have b: prog.stoodInHeld 208 =U:=aj
 obtain⟨e,f⟩:=x;simp only[ox];rw[kz,show(10000:Nat)=9999+1 from rfl,dO w 9999 208 _ _ a b];simp only[dB,underlying208];go_simp
def Y6(x:yr)(w:V):fz M (dr .eql 210 (.agg (oy x).toArray) (.agg (oy x).toArray)) w=.ok (.bool O) w:=by
 have u3:= underlying3;have a3:= isAgg3;have e:= sizeOf3;have u4:= underlying9;have a4:= isAgg9;have f:= sizeOf9;have a5:= isAgg73;have g:= sizeOf73;have a:Hid (prog.underlying 73 =I (.struct (prog.fieldsOf 73))):=D aj;have b: prog.stoodInHeld 73 =U:=aj
 have c: prog.underlying 210 =I (.struct (prog.fieldsOf 210)):=aj
 have d: prog.stoodInHeld 210 =U:=aj
 obtain⟨h,i,j,k,l,m⟩:=x;simp only[oy];rw[kz,show(10000:Nat)=9999+1 from rfl,dO w 9999 210 _ _ c d];simp only[dB,underlying210];go_simp
structure Cs(w wr:V)(b B B2:Nat)(z u:dY)(c:eo):Prop where
 k0:wr.heap[b]?=I (.cells (di z.v.1 c.v.length z.v.2 z.r.1 c.r.length z.r.2 z.e.1 c.e.length z.e.2 z.g.1 c.g.length z.g.2 z.s.1 c.s.length z.s.2 z.b.1 c.b.length z.b.2) 47 (0,0))
 k1:wr.heap[b+1]?=I (.cells (di u.v.1 c.v.length u.v.2 u.r.1 c.r.length u.r.2 u.e.1 c.e.length u.e.2 u.g.1 c.g.length u.g.2 u.s.1 c.s.length u.s.2 u.b.1 c.b.length u.b.2) 47 (0,0))
 c0:bB wr B z c
 c1:bB wr B2 u c
 bl:ae w.heap.size w wr
def Cs.keep{w wr e:V}{b B f C:Nat}{z u:dY}{c:eo}(h:Cs w wr b B f z u c)(a:ae C wr e)(d:wr.heap.size≤C):Cs w e b B f z u c:=by
 have g:=(br h.k1).1;exact⟨(a.block b A).trans h.k0,(a.block (b+1) A).trans h.k1,h.c0.keep a d,h.c1.keep a d,h.bl.trans (a.mono (aa h.bl.size d))⟩
def Cs.tE{w wr:V}{b B a:Nat}{z u:dY}{c:eo}(h:Cs w wr b B a z u c)(n:Nat):Cs w (wr.drewN n) b B a z u c:=h.keep (below_drewN (aD wr.heap.size wr) n) (G _)
def wN(w:V)(B L N:Nat)(z u:dY)(c:eo)(h:bB w B z c)(h2:bB w L u c)(hf:c.ok N)(hN:N<99000):ar M 44 #[.agg ⟨z.l c⟩,.agg ⟨u.l c⟩] w (fun en w'=>en=.returned (.bool O)∧ae w.heap.size w w'):=by
 simp only[dY.l];obtain⟨b,hb⟩:∃b,w.heap.size=b:=⟨_,rfl⟩;obtain⟨W,Q⟩:∃W,(w.alloc (.cells (di z.v.1 c.v.length z.v.2 z.r.1 c.r.length z.r.2 z.e.1 c.e.length z.e.2 z.g.1 c.g.length z.g.2 z.s.1 c.s.length z.s.2 z.b.1 c.b.length z.b.2) 47)).alloc (.cells (di u.v.1 c.v.length u.v.2 u.r.1 c.r.length u.r.2 u.e.1 c.e.length u.e.2 u.g.1 c.g.length u.g.2 u.s.1 c.s.length u.s.2 u.b.1 c.b.length u.b.2) 47)=W:=⟨_,rfl⟩;have C:ae w.heap.size w W:=by rw[←Q];exact((aD _ _).alloc (G _) _).alloc bW _
 have e:Hid (Cs w W b B L z u c):=D ⟨by rw[←Q,←hb];exact ce _ _ _,by rw[←Q,←hb];exact bO _ _ _,h.keep C (G _),h2.keep C (G _),C⟩;have HF:=D hf;have P:=D hN;have HW:=D Q;have HE:=D hb;clear Q hb h h2 hf hN C
 go_enter func44,ntmps44
 go_upto_region 1 with fail
 rw[HW.o,HE.o];clear HW;obtain⟨b0,b1,b2,b3,b4,b5⟩:=ah e.o.k0;obtain⟨R,S,q2,q3,T,X⟩:=ah e.o.k1;have n0:∀n:Nat,((n:Int) != (n:Int))=U:=fun n=>by simp
 go_upto_region 3 with((go_at_call 97;refine(LW _ _ c.g _ e.o.c0.g.sl e.o.c1.g.sl (by have:=HF.o.ng;have:=P.o;omega)).mono ?_);rintro en w2 ⟨rfl,a0⟩)
 have e:=D (e.o.keep a0 (G _));clear b0 b1 b2 b3 b4 b5 R S q2 q3 T X a0;have b0:=(ah e.o.k0).1;have R:=(ah e.o.k1).1;go_wp2;clear b0 R
 go_loopw[5,6] (fun E q wr=>E=.bool O∧∃k:Nat,q=.int .i64 k∧Hid (k≤c.v.length)∧Hid (Cs w wr b B L z u c)) (fun _ q _=>c.v.length-(bp q).toNat)
 case atStart=>exact⟨rfl,0,rfl,D (aw _),e⟩
 case round=>
  clear e;obtain⟨rfl,k,rfl,v,e⟩:=hrel;have b0:=(ah e.o.k0).1;have R:=(ah e.o.k1).1;rcases aL k c.v.length with i | r
  ·obtain⟨g,f,y,-,j⟩:=cc.at e.o.c0.v.sl iH.len iH.pos (aD _ _) (G _) k i
   obtain⟨p,d,m,-,l⟩:=cc.at e.o.c1.v.sl iH.len iH.pos (aD _ _) (G _) k i;rw[y]at b0;rw[m]at R;have o:=D i;have F:(k:Int)<c.v.length:=A
   have e9:bi ((k:Int)+1)=(k:Int)+1:=ag _ (by have:=HF.o.nv;have:=P.o;omega);generalize c.v[k]=x at*;have s:= Y2 x;have t:=fun op a b w=> Qf op a b x x w
   obtain⟨x0,x1,x2⟩:=x;have c0:wr.cell? ⟨g,f+k*3,J⟩=I _:=j 0 _ rfl;have d0:wr.cell? ⟨p,d+k*3,J⟩=I _:=l 0 _ rfl;have c1:wr.cell? ⟨g,f+k*3+1,J⟩=I _:=j 1 _ rfl;have d1:wr.cell? ⟨p,d+k*3+1,J⟩=I _:=l 1 _ rfl;have c2:wr.cell? ⟨g,f+k*3+2,J⟩=I _:=j 2 _ rfl;have d2:wr.cell? ⟨p,d+k*3+2,J⟩=I _:=l 2 _ rfl;simp only[ku]at s t;have H:=D (e.o.tE);clear j l i y m;go_upto_region 7 with fail
   go_quiet (fail)
   go_wp2;go_roundw
   case rel=>exact⟨rfl,k+1,by go_num,o.o,D (H.o _)⟩
   case measure=>exact bA o.o _ eT
  ·have K:k=c.v.length:=by have:=v.o;omega
   subst K;clear v r;have b1:=(ah e.o.k0).2.1;have S:=(ah e.o.k1).2.1;go_wp2;clear b1 S
   go_loopw[5,7] (fun E q wr=>E=.bool O∧∃k:Nat,q=.int .i64 k∧Hid (k≤c.r.length)∧Hid (Cs w wr b B L z u c)) (fun _ q _=>c.r.length-(bp q).toNat)
   case atStart=>exact⟨rfl,0,rfl,D (aw _),e⟩
   case round=>
    clear e;obtain⟨rfl,k,rfl,v,e⟩:=hrel;have b1:=(ah e.o.k0).2.1;have S:=(ah e.o.k1).2.1;rcases aL k c.r.length with i | r
    ·obtain⟨g,f,y,-,j⟩:=cc.at e.o.c0.r.sl eJ.len eJ.pos (aD _ _) (G _) k i
     obtain⟨p,d,m,-,l⟩:=cc.at e.o.c1.r.sl eJ.len eJ.pos (aD _ _) (G _) k i;rw[y]at b1;rw[m]at S;have o:=D i;have F:(k:Int)<c.r.length:=A
     have e9:bi ((k:Int)+1)=(k:Int)+1:=ag _ (by have:=HF.o.nr;have:=P.o;omega);generalize c.r[k]=x at*;have s:= Y3 x;have t:=fun op a b w=> Qg op a b x x w
     obtain⟨x0,x1,x2,x3,x4,x5,x6⟩:=x;have c0:wr.cell? ⟨g,f+k*7,J⟩=I _:=j 0 _ rfl;have d0:wr.cell? ⟨p,d+k*7,J⟩=I _:=l 0 _ rfl;have c1:wr.cell? ⟨g,f+k*7+1,J⟩=I _:=j 1 _ rfl;have d1:wr.cell? ⟨p,d+k*7+1,J⟩=I _:=l 1 _ rfl;have c2:wr.cell? ⟨g,f+k*7+2,J⟩=I _:=j 2 _ rfl;have d2:wr.cell? ⟨p,d+k*7+2,J⟩=I _:=l 2 _ rfl;have c3:wr.cell? ⟨g,f+k*7+3,J⟩=I _:=j 3 _ rfl;have d3:wr.cell? ⟨p,d+k*7+3,J⟩=I _:=l 3 _ rfl;have c4:wr.cell? ⟨g,f+k*7+4,J⟩=I _:=j 4 _ rfl;have d4:wr.cell? ⟨p,d+k*7+4,J⟩=I _:=l 4 _ rfl;have c5:wr.cell? ⟨g,f+k*7+5,J⟩=I _:=j 5 _ rfl;have d5:wr.cell? ⟨p,d+k*7+5,J⟩=I _:=l 5 _ rfl;have c6:wr.cell? ⟨g,f+k*7+6,J⟩=I _:=j 6 _ rfl;have d6:wr.cell? ⟨p,d+k*7+6,J⟩=I _:=l 6 _ rfl;simp only[nw]at s t;have H:=D (e.o.tE);clear j l i y m;go_upto_region 11 with fail
     go_quiet (fail)
     go_wp2;go_roundw
     case rel=>exact⟨rfl,k+1,by go_num,o.o,D (H.o _)⟩
     case measure=>exact bA o.o _ eT
    ·have K:k=c.r.length:=by have:=v.o;omega
     subst K;clear v r;have b2:=(ah e.o.k0).2.2.1;have q2:=(ah e.o.k1).2.2.1;go_wp2;clear b2 q2
     go_loopw[5,8] (fun E q wr=>E=.bool O∧∃k:Nat,q=.int .i64 k∧Hid (k≤c.e.length)∧Hid (Cs w wr b B L z u c)) (fun _ q _=>c.e.length-(bp q).toNat)
     case atStart=>exact⟨rfl,0,rfl,D (aw _),e⟩
     case round=>
      clear e;obtain⟨rfl,k,rfl,v,e⟩:=hrel;have b2:=(ah e.o.k0).2.2.1;have q2:=(ah e.o.k1).2.2.1;rcases aL k c.e.length with i | r
      ·obtain⟨g,f,y,-,j⟩:=cc.at e.o.c0.e.sl dD.len dD.pos (aD _ _) (G _) k i
       obtain⟨p,d,m,-,l⟩:=cc.at e.o.c1.e.sl dD.len dD.pos (aD _ _) (G _) k i;rw[y]at b2;rw[m]at q2;have o:=D i;have F:(k:Int)<c.e.length:=A
       have e9:bi ((k:Int)+1)=(k:Int)+1:=ag _ (by have:=HF.o.ne;have:=P.o;omega);generalize c.e[k]=x at*;have s:= Y4 x;have t:=fun op a b w=> Qh op a b x x w
       obtain⟨x0,x1,x2,x3,x4,x5⟩:=x;have c0:wr.cell? ⟨g,f+k*6,J⟩=I _:=j 0 _ rfl;have d0:wr.cell? ⟨p,d+k*6,J⟩=I _:=l 0 _ rfl;have c1:wr.cell? ⟨g,f+k*6+1,J⟩=I _:=j 1 _ rfl;have d1:wr.cell? ⟨p,d+k*6+1,J⟩=I _:=l 1 _ rfl;have c2:wr.cell? ⟨g,f+k*6+2,J⟩=I _:=j 2 _ rfl;have d2:wr.cell? ⟨p,d+k*6+2,J⟩=I _:=l 2 _ rfl;have c3:wr.cell? ⟨g,f+k*6+3,J⟩=I _:=j 3 _ rfl;have d3:wr.cell? ⟨p,d+k*6+3,J⟩=I _:=l 3 _ rfl;have c4:wr.cell? ⟨g,f+k*6+4,J⟩=I _:=j 4 _ rfl;have d4:wr.cell? ⟨p,d+k*6+4,J⟩=I _:=l 4 _ rfl;have c5:wr.cell? ⟨g,f+k*6+5,J⟩=I _:=j 5 _ rfl;have d5:wr.cell? ⟨p,d+k*6+5,J⟩=I _:=l 5 _ rfl;simp only[kv]at s t;have H:=D (e.o.tE);clear j l i y m;go_upto_region 15 with fail
       go_quiet (fail)
       go_wp2;go_roundw
       case rel=>exact⟨rfl,k+1,by go_num,o.o,D (H.o _)⟩
       case measure=>exact bA o.o _ eT
      ·have K:k=c.e.length:=by have:=v.o;omega
       subst K;clear v r;have b4:=(ah e.o.k0).2.2.2.2.1;have T:=(ah e.o.k1).2.2.2.2.1;go_wp2;clear b4 T
       go_loopw[5,9] (fun E q wr=>E=.bool O∧∃k:Nat,q=.int .i64 k∧Hid (k≤c.s.length)∧Hid (Cs w wr b B L z u c)) (fun _ q _=>c.s.length-(bp q).toNat)
       case atStart=>exact⟨rfl,0,rfl,D (aw _),e⟩
       case round=>
        clear e;obtain⟨rfl,k,rfl,v,e⟩:=hrel;have b4:=(ah e.o.k0).2.2.2.2.1;have T:=(ah e.o.k1).2.2.2.2.1;rcases aL k c.s.length with i | r
        ·obtain⟨g,f,y,-,j⟩:=cc.at e.o.c0.s.sl fh.len fh.pos (aD _ _) (G _) k i
         obtain⟨p,d,m,-,l⟩:=cc.at e.o.c1.s.sl fh.len fh.pos (aD _ _) (G _) k i;rw[y]at b4;rw[m]at T;have o:=D i;have F:(k:Int)<c.s.length:=A
         have e9:bi ((k:Int)+1)=(k:Int)+1:=ag _ (by have:=HF.o.ns;have:=P.o;omega);generalize c.s[k]=x at*;have s:= Y5 x;have t:=fun op a b w=> Qi op a b x x w
         obtain⟨x0,x1⟩:=x;have c0:wr.cell? ⟨g,f+k*2,J⟩=I _:=j 0 _ rfl;have d0:wr.cell? ⟨p,d+k*2,J⟩=I _:=l 0 _ rfl;have c1:wr.cell? ⟨g,f+k*2+1,J⟩=I _:=j 1 _ rfl;have d1:wr.cell? ⟨p,d+k*2+1,J⟩=I _:=l 1 _ rfl;simp only[ox]at s t;have H:=D (e.o.tE);clear j l i y m;go_upto_region 19 with fail
         go_quiet (fail)
         go_wp2;go_roundw
         case rel=>exact⟨rfl,k+1,by go_num,o.o,D (H.o _)⟩
         case measure=>exact bA o.o _ eT
        ·have K:k=c.s.length:=by have:=v.o;omega
         subst K;clear v r;have b5:=(ah e.o.k0).2.2.2.2.2;have X:=(ah e.o.k1).2.2.2.2.2;go_wp2;clear b5 X
         go_loopw[5,10] (fun E q wr=>E=.bool O∧∃k:Nat,q=.int .i64 k∧Hid (k≤c.b.length)∧Hid (Cs w wr b B L z u c)) (fun _ q _=>c.b.length-(bp q).toNat)
         case atStart=>exact⟨rfl,0,rfl,D (aw _),e⟩
         case round=>
          clear e;obtain⟨rfl,k,rfl,v,e⟩:=hrel;have b5:=(ah e.o.k0).2.2.2.2.2;have X:=(ah e.o.k1).2.2.2.2.2;rcases aL k c.b.length with i | r
          ·obtain⟨g,f,y,-,j⟩:=cc.at e.o.c0.b.sl eV.len eV.pos (aD _ _) (G _) k i
           obtain⟨p,d,m,-,l⟩:=cc.at e.o.c1.b.sl eV.len eV.pos (aD _ _) (G _) k i;rw[y]at b5;rw[m]at X;have o:=D i;have F:(k:Int)<c.b.length:=A
           have e9:bi ((k:Int)+1)=(k:Int)+1:=ag _ (by have:=HF.o.nb;have:=P.o;omega);generalize c.b[k]=x at*;have s:= Y6 x;have t:=fun op a b w=> Qj op a b x x w
           obtain⟨x0,x1,x2,x3,x4,x5⟩:=x;have c0:wr.cell? ⟨g,f+k*6,J⟩=I _:=j 0 _ rfl;have d0:wr.cell? ⟨p,d+k*6,J⟩=I _:=l 0 _ rfl;have c1:wr.cell? ⟨g,f+k*6+1,J⟩=I _:=j 1 _ rfl;have d1:wr.cell? ⟨p,d+k*6+1,J⟩=I _:=l 1 _ rfl;have c2:wr.cell? ⟨g,f+k*6+2,J⟩=I _:=j 2 _ rfl;have d2:wr.cell? ⟨p,d+k*6+2,J⟩=I _:=l 2 _ rfl;have c3:wr.cell? ⟨g,f+k*6+3,J⟩=I _:=j 3 _ rfl;have d3:wr.cell? ⟨p,d+k*6+3,J⟩=I _:=l 3 _ rfl;have c4:wr.cell? ⟨g,f+k*6+4,J⟩=I _:=j 4 _ rfl;have d4:wr.cell? ⟨p,d+k*6+4,J⟩=I _:=l 4 _ rfl;have c5:wr.cell? ⟨g,f+k*6+5,J⟩=I _:=j 5 _ rfl;have d5:wr.cell? ⟨p,d+k*6+5,J⟩=I _:=l 5 _ rfl;simp only[oy]at s t;have H:=D (e.o.tE);clear j l i y m;go_upto_region 23 with fail
           go_quiet (fail)
           go_wp2;go_roundw
           case rel=>exact⟨rfl,k+1,by go_num,o.o,D (H.o _)⟩
           case measure=>exact bA o.o _ eT
          ·have K:k=c.b.length:=by have:=v.o;omega
           subst K;clear v r;go_wp2;go_ret;exact⟨rfl,e.o.bl⟩
def OM(w:V):ar M 94 #[.slice J 0 0,.slice J 0 0] w (fun en w'=>en=.returned (.bool O)∧w'=w):=by
 go_enter func94,ntmps94
 go_wp2
 go_loopw[5] (fun a wr=>a=.int .i64 0∧wr=w) (fun _ _=>0)
 case atStart=>exact⟨rfl,rfl⟩
 case round=>
  obtain⟨rfl,rfl⟩:=hrel;go_wp2;go_ret;exact⟨rfl,rfl⟩
def ON(w:V):ar M 95 #[.slice J 0 0,.slice J 0 0] w (fun en w'=>en=.returned (.bool O)∧w'=w):=by
 go_enter func95,ntmps95
 go_wp2
 go_loopw[5] (fun a wr=>a=.int .i64 0∧wr=w) (fun _ _=>0)
 case atStart=>exact⟨rfl,rfl⟩
 case round=>
  obtain⟨rfl,rfl⟩:=hrel;go_wp2;go_ret;exact⟨rfl,rfl⟩
def Gz(w:V):ar M 41 #[.slice J 0 0,.slice J 0 0] w (fun en w'=>en=.returned (.bool O)∧w'=w):=by
 go_enter func41,ntmps41
 go_wp2
 go_loopw[5] (fun a wr=>a=.int .i64 0∧wr=w) (fun _ _=>0)
 case atStart=>exact⟨rfl,rfl⟩
 case round=>
  obtain⟨rfl,rfl⟩:=hrel;go_wp2;go_ret;exact⟨rfl,rfl⟩
def Qy(w:V):ar M 40 #[.agg ka,.agg ka] w (fun en w'=>en=.returned (.bool O)∧ae w.heap.size w w'):=by
 obtain⟨b,e⟩:∃b,w.heap.size=b:=⟨_,rfl⟩;obtain⟨W,a⟩:∃W,(w.alloc (.cells ka 38)).alloc (.cells ka 38)=W:=⟨_,rfl⟩;have c:ae w.heap.size w W:=by rw[←a];exact((aD _ _).alloc (G _) _).alloc bW _
 have g:=D c;obtain⟨c0,h,c2,l,m,o,p⟩:=dZ (show W.heap[b]?=I (.cells ka 38 (0,0))by rw[←a,←e];exact ce _ _ _);obtain⟨d0,q,r,s,t,u,v⟩:=dZ (show W.heap[b+1]?=I (.cells ka 38 (0,0))by rw[←a,←e];exact bO _ _ _);have f:=D a;have i:=D e;have x:∀n:Int,(n != n)=U:=fun n=>by simp
 clear a e c
 go_enter func40,ntmps40
 go_upto_region 1 with fail
 rw[f.o,i.o];clear f;go_wp2_with (first | ((go_at_call 94;refine(OM _).mono ?_);rintro en j ⟨rfl,d⟩;rw[d];clear d) | ((go_at_call 95;refine(ON _).mono ?_);rintro en j ⟨rfl,d⟩;rw[d];clear d))
 go_loopw[5] (fun k wr=>k=.int .i64 0∧wr=W) (fun _ _=>0)
 case atStart=>exact⟨rfl,rfl⟩
 case round=>
  obtain⟨rfl,rfl⟩:=hrel;go_wp2;go_ret;exact⟨rfl,g.o⟩
def Y7(w:V)(a1 b1 c1:Int):ar M 43 #[.agg (px a1 b1 c1),.agg (px a1 b1 c1)] w (fun en w'=>en=.returned (.bool O)∧ae w.heap.size w w'):=by
 obtain⟨b,d⟩:∃b,w.heap.size=b:=⟨_,rfl⟩;obtain⟨W,a⟩:∃W,(w.alloc (.cells (px a1 b1 c1) 51)).alloc (.cells (px a1 b1 c1) 51)=W:=⟨_,rfl⟩;have c:ae w.heap.size w W:=by rw[←a];exact((aD _ _).alloc (G _) _).alloc bW _
 have g:=D c;obtain⟨c0,h,c2,k,l,m,o⟩:=dZ (show W.heap[b]?=I (.cells (px a1 b1 c1) 51 (0,0))by rw[←a,←d];exact ce _ _ _);obtain⟨d0,p,q,r,s,t,u⟩:=dZ (show W.heap[b+1]?=I (.cells (px a1 b1 c1) 51 (0,0))by rw[←a,←d];exact bO _ _ _);have e:=D a;have i:=D d;have v:∀n:Int,(n != n)=U:=fun n=>by simp
 clear a d c
 go_enter func43,ntmps43
 go_upto_region 1 with fail
 rw[e.o,i.o];clear e;go_wp2_with ((go_at_call 41;refine(Gz _).mono ?_);rintro en x ⟨rfl,f⟩;rw[f];clear f)
 go_loopw[5] (fun j wr=>j=.int .i64 0∧wr=W) (fun _ _=>0)
 case atStart=>exact⟨rfl,rfl⟩
 case round=>
  obtain⟨rfl,rfl⟩:=hrel;go_wp2;go_ret;exact⟨rfl,g.o⟩
def JD(v v':Z)(l:List Bool)(w:V)(h:cc dz.f dz.E w v l)(e:cc dz.f dz.E w v' l)(i:l.length<100000000):ar M 42 #[v,v'] w (fun en w'=>en=.returned (.bool O)∧ae w.heap.size w w'):=by
 obtain⟨ao,cap,rfl,-,-⟩:=Sl.shape h;obtain⟨r,j,rfl,-,-⟩:=Sl.shape e;have H:=D h;have s:=D e;have t:=D i;have C:((l.length:Int) != (l.length:Int))=U:=bW
 clear h e i
 go_enter func42,ntmps42
 go_wp2
 go_loopw[5] (fun f wr=>∃k:Nat,f=.int .i64 k∧Hid (k≤l.length)∧Hid (ae w.heap.size w wr)) (fun f _=>l.length-(bp f).toNat)
 case atStart=>exact⟨0,rfl,D (aw _),D (aD _ _)⟩
 case round=>
  obtain⟨k,rfl,m,d⟩:=hrel;rcases aL k l.length with a | g
  ·obtain⟨b,u,rfl,y,n⟩:=cc.at H.o dz.len dz.pos d.o (G _) k a
   obtain⟨E,o,rfl,p,q⟩:=cc.at s.o dz.len dz.pos d.o (G _) k a;have c:=D a;have z:(k:Int)<l.length:=A
   have F:bi ((k:Int)+1)=(k:Int)+1:=ag _ (by have:=t.o;omega);generalize l[k]=x at*;have c0:=n 0 _ rfl;have d0:=q 0 _ rfl;rw[dL,dg]at c0 d0;have K:(x != x)=U:=bW
   clear n q a
   cases x
   all_goals
    go_upto_region 6 with fail
    go_quiet (fail)
    go_wp2;go_roundw
    case rel=>exact⟨k+1,by go_num,c.o,D (below_drewN d.o _)⟩
    case measure=>exact bA c.o _ eT
  ·have B:k=l.length:=by have:=m.o;omega
   subst B;clear m g;go_wp2;go_ret;exact⟨rfl,d.o⟩
def r_(w:V)(x:eQ)(z:dH)(s:dV):ar M 8 #[.agg ⟨aF x z s⟩] w (fun en w'=>en=.returned (.agg ⟨aF x z s⟩)∧ae w.heap.size w w'):=by
 obtain⟨b,e⟩:∃b,w.heap.size=b:=⟨_,rfl⟩;obtain⟨W,a⟩:∃W,(w.alloc (.cells ⟨aF x z s⟩ 55)).alloc (.cells jV 53)=W:=⟨_,rfl⟩;have c:ae w.heap.size w W:=by rw[←a];exact((aD _ _).alloc (G _) _).alloc bW _
 have g:Hid (Bx W b (aF x z s) 55):=D (by rw[←a,←e];exact ce _ _ _);have h:Hid (W.heap[b+1]?=I (.cells jV 53 (0,0))):=D (by rw[←a,←e];exact bO _ _ _);have i:=D c;have j:=D a;have k:=D e;have d:=Bx.has g.o 45 rfl;simp only[aF]at d;clear a e c
 go_enter func8,ntmps8
 go_upto_region 1 with fail
 rw[j.o,k.o];clear j
 go_wp2_with (first
  | ((with_reducible refine aT 18 ?_);refine wpList_load_mid rfl _ (.tmp 17) rfl b 13 rfl (TE z.c0.v.1 s.c0.v.length z.c0.v.2 z.c0.r.1 s.c0.r.length z.c0.r.2 z.c0.e.1 s.c0.e.length z.c0.e.2 z.c0.g.1 s.c0.g.length z.c0.g.2 z.c0.s.1 s.c0.s.length z.c0.s.2 z.c0.b.1 s.c0.b.length z.c0.b.2 z.c1.v.1 s.c1.v.length z.c1.v.2 z.c1.r.1 s.c1.r.length z.c1.r.2 z.c1.e.1 s.c1.e.length z.c1.e.2 z.c1.g.1 s.c1.g.length z.c1.g.2 z.c1.s.1 s.c1.s.length z.c1.s.2 z.c1.b.1 s.c1.b.length z.c1.b.2 z.c2.v.1 s.c2.v.length z.c2.v.2 z.c2.r.1 s.c2.r.length z.c2.r.2 z.c2.e.1 s.c2.e.length z.c2.e.2 z.c2.g.1 s.c2.g.length z.c2.g.2 z.c2.s.1 s.c2.s.length z.c2.s.2 z.c2.b.1 s.c2.b.length z.c2.b.2) _ (g.o.range 13 _ eZ) underlying48 rfl aj ?_)
  | (refine aJ rfl _ (.tmp 2) (.tmp 35) rfl (b+1) ⟨aF x z s⟩ rfl eZ _ _ h.o aj rfl (by simp[aF,ap]) ?_))
 have f:But (b+1) W (W.setRow (b+1) ⟨aF x z s⟩):=But.row _;refine au (v:=.agg ⟨aF x z s⟩) (results_cell_row results8 _ _ (b+1) 53 ⟨aF x z s⟩ (0,0) _ rfl (aO _ _ _ _ _ _ h.o) underlying53 rfl aj) rfl ⟨rfl,i.o.trans (f.below i.o.size (by have:=k.o;omega))⟩
def ir{P:Program}{ops:Array Oper}{rest:List Oper}{op:Oper}{a:Act}{w:V}{Q:Exit→Act→V→Prop}(e:Region.wanted op (yielded ops a.tmps)=O)(c:TypeId)(x:Operand)(f:op.op=.load c x)
  (b o:Nat) (g:a.eval x=.pointer (I ⟨b,o,J⟩)) (cs:List Z) (d:TypeDesc) (i:w.rangeAt b o cs) (j:P.underlying c=I d) (k:d.isRow=O) (hi:(P.info? c).map (·.size)=I cs.length)
  (h:wpList P ops Q rest (a.put op.dst (.agg cs.toArray)) w):wpList P ops Q (op::rest) a w:=
 wpList_step fun _ l=>by rw[if_pos e];exact wp_load_mid c x f b o g cs d i j k hi (l _ _ h)
structure Sr(w wr:V)(b B B2:Nat)(x:eQ)(z u:dH)(s:dV):Prop where
 k0:Bx wr b (aF x z s) 53
 k1:Bx wr (b+1) (aF x u s) 53
 c0:eg wr B z s
 c1:eg wr B2 u s
 bl:ae w.heap.size w wr
def Sr.keep{w wr d:V}{b B e C:Nat}{x:eQ}{z u:dH}{s:dV}(h:Sr w wr b B e x z u s)(a:ae C wr d)(c:wr.heap.size≤C):Sr w d b B e x z u s:=by
 have f:=(br h.k1).1;exact⟨h.k0.keep a A,h.k1.keep a A,h.c0.keep a c,h.c1.keep a c,h.bl.trans (a.mono (aa h.bl.size c))⟩
def LX(w:V)(B i N:Nat)(x:eQ)(z u:dH)(s:dV)(h:eg w B z s)(m:eg w i u s)(o:s.ok N)(p:N<99000):ar M 13 #[.agg ⟨aF x z s⟩,.agg ⟨aF x u s⟩] w (fun en w'=>en=.returned (.bool O)∧ae w.heap.size w w'):=by
 obtain⟨b,k⟩:∃b,w.heap.size=b:=⟨_,rfl⟩;obtain⟨W,j⟩:∃W,(w.alloc (.cells ⟨aF x z s⟩ 53)).alloc (.cells ⟨aF x u s⟩ 53)=W:=⟨_,rfl⟩;have f:ae w.heap.size w W:=by rw[←j];exact((aD _ _).alloc (G _) _).alloc bW _
 have a:Hid (Sr w W b B i x z u s):=D ⟨by rw[←j,←k];exact ce _ _ _,by rw[←j,←k];exact bO _ _ _,h.keep f (G _),m.keep f (G _),f⟩;have HF:=D o;have l:=D p;have q:=D j;have t:=D k;clear j k h m o p f
 go_enter func13,ntmps13
 go_upto_region 1 with fail
 rw[q.o,t.o];clear q;have v:∀n:Int,(n != n)=U:=fun n=>by simp
 have y:∀n:Bool,(n != n)=U:=fun n=>by simp
 have d:=Bx.has a.o.k0 45 rfl;have e:=Bx.has a.o.k1 45 rfl;simp only[aF]at d e
 go_upto_region 3 with(first
  | ((go_at_call 40;refine(Qy _).mono ?_);rintro en g ⟨rfl,c⟩;have a:=D (a.o.keep c (G _));clear c d e;have d:=Bx.has a.o.k0 45 rfl;have e:=Bx.has a.o.k1 45 rfl;simp only[aF]at d e)
  | ((go_at_call 41;refine(Gz _).mono ?_);rintro en g ⟨rfl,r⟩;rw[r];clear r)
  | ((go_at_call 42;refine(JD _ _ [O,O,O] _ a.o.c0.sb.sl a.o.c1.sb.sl aC).mono ?_);rintro en g ⟨rfl,c⟩;have a:=D (a.o.keep c (G _));clear c d e;have d:=Bx.has a.o.k0 45 rfl;have e:=Bx.has a.o.k1 45 rfl;simp only[aF]at d e)
  | ((go_at_call 43;refine(Y7 _ _ _ _).mono ?_);rintro en g ⟨rfl,c⟩;have a:=D (a.o.keep c (G _));clear c d e;have d:=Bx.has a.o.k0 45 rfl;have e:=Bx.has a.o.k1 45 rfl;simp only[aF]at d e))
 clear d e
 go_wp2_with (first
  | ((with_reducible refine aT 114 ?_);refine ir aj _ (.tmp 113) rfl b 13 rfl (z.c0.l s.c0) _ (a.o.k0.range 13 _ eZ) underlying47 rfl aj ?_)
  | ((with_reducible refine aT 117 ?_);refine ir aj _ (.tmp 116) rfl (b+1) 13 rfl (u.c0.l s.c0) _ (a.o.k1.range 13 _ eZ) underlying47 rfl aj ?_))
 refine(wN _ B i N z.c0 u.c0 s.c0 a.o.c0.c0 a.o.c1.c0 HF.o.c0 l.o).mono ?_;rintro en g ⟨rfl,c⟩;have a:=D (a.o.keep c (G _));clear c
 go_wp2_with (first
  | ((with_reducible refine aT 122 ?_);refine ir aj _ (.tmp 121) rfl b 19 rfl (z.c1.l s.c1) _ (a.o.k0.range 19 _ eZ) underlying47 rfl aj ?_)
  | ((with_reducible refine aT 125 ?_);refine ir aj _ (.tmp 124) rfl (b+1) 19 rfl (u.c1.l s.c1) _ (a.o.k1.range 19 _ eZ) underlying47 rfl aj ?_))
 refine(wN _ B i N z.c1 u.c1 s.c1 a.o.c0.c1 a.o.c1.c1 HF.o.c1 l.o).mono ?_;rintro en g ⟨rfl,c⟩;have a:=D (a.o.keep c (G _));clear c
 go_wp2_with (first
  | ((with_reducible refine aT 131 ?_);refine ir aj _ (.tmp 130) rfl b 25 rfl (z.c2.l s.c2) _ (a.o.k0.range 25 _ eZ) underlying47 rfl aj ?_)
  | ((with_reducible refine aT 134 ?_);refine ir aj _ (.tmp 133) rfl (b+1) 25 rfl (u.c2.l s.c2) _ (a.o.k1.range 25 _ eZ) underlying47 rfl aj ?_))
 refine(wN _ B i N z.c2 u.c2 s.c2 a.o.c0.c2 a.o.c1.c2 HF.o.c2 l.o).mono ?_;rintro en g ⟨rfl,c⟩;have a:=D (a.o.keep c (G _));clear c;go_wp2;go_ret;exact⟨rfl,a.o.bl⟩
end Go.Proofs.YtdgllhcfablaoaaGreat
