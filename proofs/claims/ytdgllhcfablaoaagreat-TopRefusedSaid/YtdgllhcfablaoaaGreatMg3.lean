/- What the law asks, in parts: Rp Rq Rs Held Held2 Held3 Rt VAx HeldT HeldA VEa VCa VCb VCc VAc VCd. -/
import Derived.Deep.WholeRow
import Derived.Lib.AppendZerosOnto
import Derived.Lib.Overlaps
import Derived.Test.YtdgllhcfablaoaaGreatMg2
import Derived.Test.YtdgllhcfablaoaaGreatMg1
set_option linter.all false
set_option maxRecDepth 100000
set_option maxHeartbeats 16000000
open Go.Proofs.Tryz
open Bool renaming false→U,true→O,and_eq_true→aM,not_eq_true'→fm
open Option renaming some→I,none→J,map_some→dl
open Go renaming World→V,Value→Z,bodyPost_ret→au,Calls→ar,heap_alloc_new→al,Addr→aB,setRow_heap→aO,TypeId→aN,Operand→aP,Program→aQ,Oper→aH,execOp→bv,wpList→cH,binOp→dr,below_setRow→dh,builtin→fp,undef→fq,TypeInfo→fV,getD_set_ne→gA,callFunc→gH,bodyPost→gW,resolve→il,invoke→iO,Exit→gD,ready_mono→kg,YieldsIf→kJ,yielded→kD,wpList_store_row→aJ,wpOp_mono→sK,wpOp_putIf→Bu
open Nat renaming lt_of_lt_of_le→ac,le_trans→aa,zero_le→aw,lt_or_ge→aL,lt_succ_self→bu,mul_le_mul_right→bE,le_of_eq→bD,add_mul→cR,zero_add→cO,le_of_lt→dN,mul_le_mul→fs,xor→fW
open Go.RowKit renaming Below→ae,wrap64→bi,intOf→bp
open Go.IntWalk renaming wrap64_in→ag
open List renaming mem_singleton→af,length_append→ay,length_drop→bh,length_take→bN,getElem?_eq_getElem→cC,toArray→eS,getElem?_map→eL,all_eq_true→kV
open Go.World renaming cell?→an,setCell→aV,block_lt_of_cell?→aS,setRow→cV
open Go.Builtin renaming zeroCells→aX,firstCells→bd,append_→cK,copy_→jf
open Go.Region renaming ready→bj,binds→cU,wanted→dU,noSelect→fS,Mode→iN,free→jA,noSelect_spec→nA,free_spec→qu
open Option.some renaming injEq→bU
open Go.RowKit.Below renaming setCell→cu,heap_alloc→ed
open Go.Value renaming oneCell'→ap
open Go.Result renaming andThen→cT
open Array renaming length_toList→dw,getElem?_eq_none→fa,toList_append→fR,setIfInBounds_comm→jq,any_eq_true'→vQ
open Go.Ending renaming returned→dC
open Go.BinOp renaming eql→eG
open Go.Oper renaming wp→ej
open Go.World.grownBy renaming refl→gF
open Go.Code renaming wp→im
open Ne renaming symm→jh
open Int renaming tdiv→rH
open Go.Proofs.Tryz renaming prog→M
namespace Go.Proofs.YtdgllhcfablaoaaGreat
open Go.RowKit
def Gk(w:V)(ao:Option aB)(a b c d:UInt8)(l:List UInt8)(n cap:Nat)(i:n=(a::b::c::d::l).length)(h:Rd w ao (bX (a::b::c::d::l))):
  ar M 73 #[.slice ao n cap] w fun e w'=>e=.returned (.int .u32 (sN (a::b::c::d::l):Nat))∧∃m,w'=w.drewN m:=by
 obtain⟨bk,r,rfl,t⟩:=me h (k:=0) (u:=.int .u8 a.toNat) rfl;obtain⟨j,g,f,x⟩:=me h (k:=1) (u:=.int .u8 b.toNat) rfl;injection f with f;injection f with o p;subst o p;obtain⟨j,g,f,q2⟩:=me h (k:=2) (u:=.int .u8 c.toNat) rfl;injection f with f;injection f with o p;subst o p;obtain⟨j,g,f,y⟩:=me h (k:=3) (u:=.int .u8 d.toNat) rfl;injection f with f;injection f with o p;subst o p;have B:(0:Int)<(n:Int):=by simp at i;omega
 have C:(1:Int)<(n:Int):=by simp at i;omega
 have E:(2:Int)<(n:Int):=by simp at i;omega
 have F:(3:Int)<(n:Int):=by simp at i;omega
 have H:0<n:=A
 have K:1<n:=A
 have L:2<n:=A
 have N:3<n:=A
 have v:w.cell? ⟨bk,r,J⟩=I (.int .u8 a.toNat):=t;clear h i t
 go_enter func73,ntmps73
 go_upto_region 1 with fail
 go_quiet (fail)
 have q:=Cv a.toNat b.toNat c.toNat d.toNat a.toNat_lt b.toNat_lt c.toNat_lt d.toNat_lt;have s:=D q;clear q;go_wp2;go_ret;exact⟨congrArg (fun z=>dC (.int .u32 z)) s.o,nq,rfl⟩
def PR{n:Nat}(h:n<4294967296)(a:n%2=1):bits BinOp.xor IntKind.u32 ((n:Int)/2) 3988292384=((mN n:Nat):Int):=by
 have b:((n:Int)/2)=((n/2:Nat):Int):=A
 rw[b];have:=qV (m:=n/2) (x:=3988292384) A A;rw[show ((3988292384:Nat):Int)=3988292384 from rfl]at this;rw[this];simp[mN,a]
def N5{n:Nat}(a:n%2=0):((n:Int)/2)=((mN n:Nat):Int):=by
 have:mN n=n/2:=by simp[mN,a]
 rw[this];omega
def K_(l:List Nat)(w:∀x,x∈l→x<256)(a:Option aB)(cap:Nat)(W:V)(y:∀(k x:Nat),l[k]?=I x→∃b d,a=I ⟨b,d,J⟩∧W.cell? ⟨b,d+k,J⟩=I (.int .u8 x))(u:l.length≤100000):
  ar M 74 #[.slice a l.length cap] W fun e w'=>e=.returned (.int .u32 (fW (mP l 4294967295) 4294967295:Nat))∧w'=W:=by
 go_enter func74,ntmps74
 go_wp2_with fail
 go_loopw[3,4,5] (fun c i _ wr=>∃k m:Nat,k≤l.length∧m<4294967296∧i=.int .i64 k∧c=.int .u32 m∧mP (l.drop k) m=mP l 4294967295∧wr=W) (fun _ i _ _=>l.length-(bp i).toNat)
 case atStart=>exact⟨0,4294967295,aw _,by omega,rfl,rfl,rfl,rfl⟩
 case round=>
  obtain⟨k,m,K,hm,rfl,rfl,g,rfl⟩:=hrel;by_cases o:k<l.length
  ·have z:(k:Int)<l.length:=A
   have k0:(0:Int)≤(k:Int):=A
   obtain⟨x,p⟩:∃x,l[k]?=I x:=⟨_,cC o⟩;obtain⟨b,d,rfl,q⟩:=y k x p;have B:=w x (List.mem_of_getElem? p);go_wp2_with fail
   rw[qV hm A];have r:=BY hm (show x<4294967296 by omega)
   go_loopw[3,5] (fun c j s=>∃i n:Nat,i≤8∧n<4294967296∧j=.int .i64 i∧c=.int .u32 n∧mO (8-i) n=mO 8 (fW m x)∧s=wr) (fun _ j _=>8-(bp j).toNat)
   case atStart=>exact⟨0,fW m x,by omega,r,rfl,rfl,rfl,rfl⟩
   case round=>
    obtain⟨i,n,hi,h,rfl,rfl,f,rfl⟩:=hrel;have L:=Cr h;by_cases v:i<8
    ·have C:(i:Int)<8:=A
     have N:(0:Int)≤(i:Int):=A
     have e:8-i=(8-(i+1))+1:=A
     rw[e]at f;rcases Nat.mod_two_eq_zero_or_one n with t | t
     ·have E:((n:Int)%2==1)=U:=by rw[show (n:Int)%2=0 by omega];rfl
      go_wp2_with fail
      refine⟨⟨i+1,mN n,by omega,rN h,by simp,by rw[←N5 t],?_,trivial⟩,by simp only[bp];omega⟩;exact f
     ·have E:((n:Int)%2==1)=O:=by rw[show (n:Int)%2=1 by omega];rfl
      go_wp2_with fail
      refine⟨⟨i+1,mN n,by omega,rN h,by simp,by rw[PR h t],?_,trivial⟩,by simp only[bp];omega⟩;exact f
    ·obtain rfl:i=8:=A
     have f:n=mO 8 (fW m x):=f;go_wp2_with fail
     refine⟨⟨k+1,n,by omega,h,by simp,rfl,?_,trivial⟩,by simp only[bp];omega⟩;rw[f,←g]
     have e:l.drop k=x::l.drop (k+1):=by
      obtain⟨F,H⟩:=List.getElem?_eq_some_iff.mp p;rw[List.drop_eq_getElem_cons F,H]
     rw[e];rfl
  ·obtain rfl:k=l.length:=A
   have k0:(0:Int)≤(l.length:Int):=A
   rw[List.drop_length]at g;have g:m=mP l 4294967295:=g;go_wp2_with fail
   rw[I3 (by rw[←g];exact hm)];go_ret;exact⟨rfl,rfl⟩
def N6(w:V)(a:Option aB)(l:List UInt8)(n cap:Nat)(f:n=l.length)(hm:l.length≤100000)(h:Rd w a (bX l)):
  ar M 74 #[.slice a n cap] w fun e w'=>e=.returned (.int .u32 (Cu l:Nat))∧w'=w:=by
 subst f
 have:=K_ (l.map UInt8.toNat) (by intro x c;obtain⟨b,_,rfl⟩:=List.mem_map.1 c;exact b.toNat_lt) a cap w (by
  intro k x c;rw[eL]at c
  cases d:l[k]? with
  | none=>rw[d]at c;cases c
  | some b=>
   rw[d]at c;injection c with c
   exact me h (by unfold bX;rw[eL,d];show I _=I _;rw[←c]))
 rw[List.length_map]at this;exact this hm
def N7(w:V)(ao:Option aB)(l:List UInt8)(n cap:Nat)(j:n=l.length)(hc:n≤cap)(hm:cap≤9223372036854775807)(hl:l.length≤100000)(h:Rd w ao (bX l)):
  ar M 27 #[.slice ao n cap] w (ve w l):=by
 by_cases N:l.length<8
 ·have e1:decide (n<8)=O:=by rw[j];simpa using N
  have k0:decide ((n:Int)<8)=O:=by rw[j];simp;omega
  have HV:Hid (sO l=8):=D (if_pos N);clear N h j hc hm
  go_enter func27,ntmps27
  go_wp2;refine au (v:=.tuple #[.slice J 0 0,.int .i64 8]) (by simp[results,results27,go_sem]) rfl ?_;exact⟨aD _ _,_,by rw[HV.o],fun h0=>by rw[HV.o]at h0;cases h0⟩
 ·obtain⟨b,Q,rfl,-⟩:=me h (k:=0) (u:=(bX l)[0]'(by rw[ld];omega)) (cC _)
  obtain⟨b0,i⟩:=qS
  obtain⟨R,c0,q0⟩:=ey (P:= M) 33 5 b0 1 underlying33 i.1 i.2 b Q n cap 8 8 rfl A hc;obtain⟨a4,d0,r0⟩:=ey (P:= M) 33 5 b0 1 underlying33 i.1 i.2 b Q n cap 4 4 rfl A hc
  have d8:Rd w R (bX (l.drop 8)):=by
   rcases aL 8 cap with l0 | s0
   ·rw[c0 l0];have:=h.py 8;rw[po]at this;simpa using this
   ·have:l.drop 8=[]:=List.drop_eq_nil_of_le A
    rw[this];exact Rd.nil _ _
  have d4:Rd w a4 (bX (l.drop 4)):=by
   rw[d0 A];have:=h.py 4;rw[po]at this;simpa using this
  obtain⟨x1,z,B,F,r,hx⟩:∃x1 z B F r,l=x1::z::B::F::r:=by
   match l,N with
   | x1::z::B::F::r,_=>exact⟨x1,z,B,F,r,rfl⟩
   | [],h=>simp at h
   | [_],h=>simp at h
   | [_,_],h=>simp at h
   | [_,_,_],h=>simp at h
  obtain⟨y1,y2,y3,y4,r',hy⟩:∃x1 z B F r',l.drop 4=x1::z::B::F::r':=by
   have h4:¬ (l.drop 4).length<4:=by rw[bh];omega
   match l.drop 4,h4 with
   | x1::z::B::F::r,_=>exact⟨x1,z,B,F,r,rfl⟩
   | [],h=>simp at h
   | [_],h=>simp at h
   | [_,_],h=>simp at h
   | [_,_,_],h=>simp at h
  obtain⟨y0,hG⟩:∃y0,sN l=y0:=⟨_,rfl⟩;obtain⟨H,S⟩:∃y0,sN (l.drop 4)=y0:=⟨_,rfl⟩
  have o:Hid (∀x,ar M 73 #[.slice (I ⟨b,Q,J⟩) n cap] (w.drewN x) (fun e a=>e=.returned (.int .u32 (y0:Nat))∧∃m,a=w.drewN m)):=D (fun x=>by
   rw[←hG,hx];refine(Gk (w.drewN x) _ x1 z B F r n cap (by rw[j,hx]) (by rw[←hx];exact h)).mono ?_;rintro e T ⟨rfl,m,rfl⟩
   exact⟨rfl,x+m,lh _ _ _⟩)
  have e0:Hid (∀k x,ar M 73 #[.slice a4 (n-4) (cap-4)] ((w.drewN k).drewN x) (fun e a=>e=.returned (.int .u32 (H:Nat))∧∃m,a=(w.drewN k).drewN m)):=D (fun k x=>by
   rw[←S,hy];refine(Gk ((w.drewN k).drewN x) _ y1 y2 y3 y4 r' (n-4) (cap-4) (by rw[←hy,bh,j]) (by rw[←hy];exact d4)).mono ?_;rintro e T ⟨rfl,m,rfl⟩
   exact⟨rfl,x+m,lh _ _ _⟩)
  obtain⟨C,hC⟩:∃C,Cu (l.drop 8)=C:=⟨_,rfl⟩
  have f0:Hid (∀k x,ar M 74 #[.slice R (n-8) (cap-8)] ((w.drewN k).drewN x) (fun e a=>e=.returned (.int .u32 (C:Nat))∧∃m,a=(w.drewN k).drewN m)):=D (fun k x=>by
   rw[←hC];refine(N6 ((w.drewN k).drewN x) R (l.drop 8) (n-8) (cap-8) (by rw[bh,j]) (by rw[bh];omega) d8).mono ?_;rintro e T ⟨rfl,rfl⟩
   exact⟨rfl,x,rfl⟩)
  have D8:=D d8;have W:=D (show (l.drop 8).length=n-8 by rw[bh,j]);have m0:=D hl;obtain⟨E,hE⟩:∃E,sO l=E:=⟨_,rfl⟩;have t0:y0<4294967296:=by rw[←hG];exact I5 l
  have c:E=if 4194304<y0 then 5 else if n-8<y0 then 8 else if y0<n-8 then 9 else if C=H then 0 else 10:=by
   rw[←hE,←hG,←S,←hC,j];unfold sO;rw[if_neg N]
  have e1:decide (n<8)=U:=by rw[j];simpa using N
  have k0:decide ((n:Int)<8)=U:=by rw[j];simp;omega
  have v0:bi (8+(y0:Int))=8+(y0:Int):=ag _ A;have d:Hid (∀x,E≠0→ve w l (.returned (.tuple #[.slice J 0 0,.int .i64 E])) (w.drewN x)):=D (fun x h0=>⟨below_drewN (aD _ _) _,_,by rw[hE],fun h=>absurd (by rw[←hE];exact h) h0⟩);have X:Hid (∀x v T,T.ownsRow (w.drewN x).heap.size 5 1 v (l.drop 8).length (bX (l.drop 8))→ae (w.drewN x).heap.size (w.drewN x) T→ve w l (.returned (.tuple #[v,.int .i64 E])) T):=D (fun x v T ho hb=>⟨(below_drewN (aD _ _) x).trans hb,_,by rw[hE],fun _=>ho⟩);have w0:n-8≤100000:=A
  have x0:8≤n:=A
  clear hx hy hG S hC hE N h d8 d4 c0 d0 hl j i;have gw:bi (y0:Int)=(y0:Int):=ag _ A;by_cases g1:4194304<y0
  ·rw[if_pos g1]at c
   subst c;have t1:decide ((4194304:Int)<(y0:Int))=O:=by simp;omega
   clear g1
   go_enter func27,ntmps27
   go_upto_block 0 with((go_at_call 73;refine(o.o 0).mono ?_);rintro en w9 ⟨rfl,nq,rfl⟩)
   go_wp2;refine au (v:=.tuple #[.slice J 0 0,.int .i64 5]) (by simp[results,results27,go_sem]) rfl (d.o _ aC)
  ·rw[if_neg g1]at c
   have t1:decide ((4194304:Int)<(y0:Int))=U:=by simp;omega
   by_cases g2:n-8<y0
   ·rw[if_pos g2]at c
    subst c;have t2:decide ((n:Int)<8+(y0:Int))=O:=by rw[decide_eq_true_eq];omega
    clear g1 g2
    go_enter func27,ntmps27
    go_upto_block 0 with((go_at_call 73;refine(o.o 0).mono ?_);rintro en w9 ⟨rfl,nq,rfl⟩)
    go_wp2;refine au (v:=.tuple #[.slice J 0 0,.int .i64 8]) (by simp[results,results27,go_sem]) rfl (d.o _ aC)
   ·rw[if_neg g2]at c
    have t2:decide ((n:Int)<8+(y0:Int))=U:=by rw[decide_eq_false_iff_not];omega
    by_cases g3:y0<n-8
    ·rw[if_pos g3]at c
     subst c;have t3:decide (8+(y0:Int)<(n:Int))=O:=by rw[decide_eq_true_eq];omega
     clear g1 g2 g3
     go_enter func27,ntmps27
     go_upto_block 0 with((go_at_call 73;refine(o.o 0).mono ?_);rintro en w9 ⟨rfl,nq,rfl⟩)
     go_wp2;refine au (v:=.tuple #[.slice J 0 0,.int .i64 9]) (by simp[results,results27,go_sem]) rfl (d.o _ aC)
    ·rw[if_neg g3]at c
     have t3:decide (8+(y0:Int)<(n:Int))=U:=by rw[decide_eq_false_iff_not];omega
     by_cases g4:C=H
     ·rw[if_pos g4]at c
      subst c;have t4:((C:Int) != (H:Int))=U:=by simp;omega
      have t5:(C != H)=U:=by simpa using g4
      clear g1 g2 g3 g4
      go_enter func27,ntmps27
      go_upto_block 0 with((go_at_call 73;refine(o.o 0).mono ?_);rintro en w9 ⟨rfl,nq,rfl⟩)
      go_upto_region 10 with fail
      generalize f:w.drewN nq=p;have q:Hid (∀x,ar M 74 #[.slice R (n-8) (cap-8)] (p.drewN x) (fun e a=>e=.returned (.int .u32 (C:Nat))∧∃m,a=p.drewN m)):=D (fun x=>by rw[←f];exact f0.o nq x);have s:Hid (∀x,ar M 73 #[.slice a4 (n-4) (cap-4)] (p.drewN x) (fun e a=>e=.returned (.int .u32 (H:Nat))∧∃m,a=p.drewN m)):=D (fun x=>by rw[←f];exact e0.o nq x);have a0:=D f;clear f;go_quiet (first | (go_at_call 74;exact q.o _) | (go_at_call 73;exact s.o _))
      obtain⟨y,t⟩:∃y,p.drewN nq=w.drewN y:=⟨_,by rw[←a0.o,lh]⟩;rw[t];clear t;obtain⟨K,L⟩:∃K,w.drewN y=K:=⟨_,rfl⟩;have g0:=D L;have DA:Hid (Rd K R (bX (l.drop 8))):=D (by rw[←L];exact D8.o);rw[L];clear L;go_wp2_with ((with_reducible refine aT 37 ?_);refine rP rfl _ _ rfl K.heap.size _ 0 [] rfl (gP _ _ _ _ 1 #[] 0 rfl (G _) A rfl) R (n-8) (cap-8) (l.drop 8) rfl W.o (DA.o.alloc _) (by have:=m0.o;have:=W.o;rw[bh]at this;omega) bW ?_;intro v3 w3 i0 n0 p0)
      have o0:ae K.heap.size K w3:=((aD K.heap.size K).alloc (G _) _).grown n0 (by first | (simp;done) | (simp;omega)) (fun g hg=>(by have j0:I K.heap.size=I g:=hg;injection j0 with j0;omega));rw[cO,List.nil_append]at i0;refine au (v:=.tuple #[v3,.int .i64 0]) (by simp[results,results27,go_sem]) rfl (X.o y _ _ (by rw[g0.o,W.o];exact i0) (by rw[g0.o];exact o0))
     ·rw[if_neg g4]at c
      subst c;have t4:((C:Int) != (H:Int))=O:=by simp;omega
      have t5:(C != H)=O:=by simpa using g4
      clear g1 g2 g3 g4
      go_enter func27,ntmps27
      go_upto_block 0 with((go_at_call 73;refine(o.o 0).mono ?_);rintro en w9 ⟨rfl,nq,rfl⟩)
      go_upto_region 10 with fail
      generalize f:w.drewN nq=p;have q:Hid (∀x,ar M 74 #[.slice R (n-8) (cap-8)] (p.drewN x) (fun e a=>e=.returned (.int .u32 (C:Nat))∧∃m,a=p.drewN m)):=D (fun x=>by rw[←f];exact f0.o nq x);have s:Hid (∀x,ar M 73 #[.slice a4 (n-4) (cap-4)] (p.drewN x) (fun e a=>e=.returned (.int .u32 (H:Nat))∧∃m,a=p.drewN m)):=D (fun x=>by rw[←f];exact e0.o nq x);have a0:=D f;clear f;go_quiet (first | (go_at_call 74;exact q.o _) | (go_at_call 73;exact s.o _))
      obtain⟨y,t⟩:∃y,p.drewN nq=w.drewN y:=⟨_,by rw[←a0.o,lh]⟩;rw[t];clear t;go_wp2;refine au (v:=.tuple #[.slice J 0 0,.int .i64 10]) (by simp[results,results27,go_sem]) rfl (d.o _ aC)
def La(w:V)(K c1 c2 k l m n k1 k2 k3 k4 k5 o p q r s t:Int)(u x y z B C E:Option aB)(F H wn L N c sc a P uu Q zc d e:Nat)(h1:wn≤20)(h2:d≤20)(h3:c≤20)(h4:a≤100)(h5:e≤20):
  ar M 33 #[.agg (iz K c1 c2 k l m u F H n k1 k2 k3 k4 k5 x wn L y d N o p q r s t z c sc B a P C uu Q E e zc)] w (fun ev w'=>ev=.returned (.bool (decide (K=2)&&decide (100<uu)))∧ae w.heap.size w w'):=by
 obtain⟨W,T,X,hb⟩:∃W,w.alloc (.cells (iz K c1 c2 k l m u F H n k1 k2 k3 k4 k5 x wn L y d N o p q r s t z c sc B a P C uu Q E e zc) 61)=W∧W.heap[w.heap.size]?=I (.cells (iz K c1 c2 k l m u F H n k1 k2 k3 k4 k5 x wn L y d N o p q r s t z c sc B a P C uu Q E e zc) 61 (0,0))∧ae w.heap.size w W:=⟨_,rfl,al _ _,(aD _ _).alloc (G _) _⟩;have b:∀(i:Nat)(v:Z),((iz K c1 c2 k l m u F H n k1 k2 k3 k4 k5 x wn L y d N o p q r s t z c sc B a P C uu Q E e zc):Array Z)[i]?=I v→W.cell? ⟨w.heap.size,i,J⟩=I v:=fun i v hv=>by simp only[an,X];exact hv
 have d0:=b 0 _ rfl;have a0:=b 13 _ rfl;have b0:=b 14 _ rfl;have c0:=b 21 _ rfl;have e0:=b 22 _ rfl;have f0:=b 23 _ rfl;have g0:=b 24 _ rfl;have HW:=D T;have g:=D hb;have t1:decide ((20:Int)<(wn:Int))=U:=by rw[decide_eq_false_iff_not];omega
 have t2:decide ((20:Int)<(d:Int))=U:=by rw[decide_eq_false_iff_not];omega
 have t3:decide ((20:Int)<(c:Int))=U:=by rw[decide_eq_false_iff_not];omega
 have t4:decide ((100:Int)<(a:Int))=U:=by rw[decide_eq_false_iff_not];omega
 have t5:decide ((20:Int)<(e:Int))=U:=by rw[decide_eq_false_iff_not];omega
 clear T X hb b h1 h2 h3 h4 h5
 go_enter func33,ntmps33
 go_upto_region 1 with fail
 rw[HW.o];by_cases h:K=1
 ·subst h
  go_wp2;go_ret;exact⟨rfl,g.o⟩
 by_cases j:K=2
 ·subst j
  clear h;by_cases R:100<uu
  ·have t6:decide ((100:Int)<(uu:Int))=O:=by rw[decide_eq_true_eq];omega
   have f:Hid ((decide ((2:Int)=2)&&decide (100<uu))=O):=D (by simp[R]);clear R;go_wp2;go_ret;exact⟨eA f.o.symm,g.o⟩
  ·have t6:decide ((100:Int)<(uu:Int))=U:=by rw[decide_eq_false_iff_not];omega
   have f:Hid ((decide ((2:Int)=2)&&decide (100<uu))=U):=D (by simp[R]);clear R;go_wp2;go_ret;exact⟨eA f.o.symm,g.o⟩
 have f:Hid ((decide (K=2)&&decide (100<uu))=U):=D (by simp[j]);have e1:(K==1)=U:=by simpa using h
 have e2:(K==2)=U:=by simpa using j
 by_cases S:K=4
 ·subst S
  clear h j;go_wp2;go_ret;exact⟨eA f.o.symm,g.o⟩
 have e4:(K==4)=U:=by simpa using S
 clear h j S;go_wp2;go_ret;exact⟨eA f.o.symm,g.o⟩
def jM(l:List UInt8):Int:=if sO l≠0 then sO l else AP (l.drop 8)
def oX(x:X):(fY x).1.length≤65535:=by
 cases a:qh x with
 | mk n y=>
  have b:=I7 a
  cases y with
  | ok m=>
   rw[wF a]
   split
   ·simp
   ·simp only[bN];omega
  | err e=>rw[Cz a];simp
def Gl{α:Type}{f:X→α×X}{P:α→Prop}(a:∀x,P (f x).1):∀(n:Nat)(x:X),∀o∈(cB f n x).1,P o
 | 0,x,o,h=>by cases h
 | n+1,x,o,h=>by
  rcases List.mem_cons.1 h with rfl | h
  ·exact a x
  ·exact Gl a n _ o h
def AS(x:X):iq (iQ x).1:=Gl (P:=fun o:hJ=>o.key.length<1000000000∧o.tx.length<1000000000) (fun x=>by
 have a:(lS x).1.key.length≤65535:=oX _;have b:(lS x).1.tx.length≤65535:=oX _
 omega) _ _
def yt(K:Int)(x:X):iq (cN K x).1.1:=by
 have a:iq []:=fun o h=>by cases h
 unfold cN;simp only
 split
 ·exact AS _
 split
 ·exact a
 split
 ·exact a
 split
 ·exact AS _
 split
 ·exact a
 ·exact a
def Jb{K:Int}(h:K≠2)(x:X):(cN K x).1.2=0:=by
 unfold cN;simp only
 repeat' (first | rfl | split)
def Jc{K:Int}(h:K<1∨5<K)(x:X):cN K (x.fail 3)=(([],0),x.fail 3):=by
 obtain⟨d,a⟩:=Gh x 3 aC;rw[a];unfold cN;simp only;rw[if_neg A,if_neg A,if_neg A,if_neg A,if_neg A];rfl
def Lb{x:X}(h:mv x=0)(a:∀e,x=.err e→e≠0):∃m,x=.ok m:=by
 cases x with
 | ok m=>exact⟨m,rfl⟩
 | err e=>exact absurd h (a e rfl)
def results_cell_tmp{P:aQ}{fn:Func}{p q:Tmp}{b:aN}(h:fn.results=#[.cell p b,.tmp q])(a:Array Z)(w:V)(g:Nat)(t:aN)(cs:Array Z)(fr:Nat×Nat)(d:TypeDesc)
  (e:a.getD p fq=.pointer (I ⟨g,0,J⟩)) (f:w.heap[g]?=I (.cells cs t fr))
  (i:P.underlying b=I d) (j:(match d with | .struct _ | .array _ _=>O | _=>U)=O) (hi:(P.info? b).map (·.size)=I cs.size):
  (results fn a).run P w=.ok (.tuple #[.agg cs,a.getD q fq]) w:=by
 have c:a[p]?.getD fq=.pointer (I ⟨g,0,J⟩):=by simpa using e
 simp[results,h,c,asAddr,run_loadVar_row w g t b cs fr d f i j hi]
def qi{P:aQ}{ops:Array aH}{rest:List aH}{o:aH}{a:Act}{w:V}{Q:gD→Act→V→Prop}(c:dU o (kD ops a.tmps)=O)(b:aN)(x:aP)(e:o.op=.load b x)
  (g:Nat) (f:a.eval x=.pointer (I ⟨g,0,J⟩)) (t:aN) (cs:Array Z) (fr:Nat×Nat) (d:TypeDesc) (i:w.heap[g]?=I (.cells cs t fr))
  (j:P.underlying b=I d) (k:(match d with | .struct _ | .array _ _=>O | _=>U)=O) (hi:(P.info? b).map (·.size)=I cs.size)
  (h:cH P ops Q rest (a.put o.dst (.agg cs)) w):cH P ops Q (o::rest) a w:=
 wpList_step fun _ l=>by rw[if_pos c];exact wp_load_row b x e g f t cs fr d i j k hi (l _ _ h)
def Mk.row{K:RK}{B:Nat}{c w:V}{p b:Nat}{x:X}{cs:List Z}{t:aN}{L:List (Nat×Array Z×aN)}(h:Mk K B c p L x b cs t w)(a:List Z):Mk K B c p L x b a t (cV w b ⟨a⟩):=by
 have d:ae b w (cV w b ⟨a⟩):=dh (aD _ _) (G _) _
 exact⟨K.keep h.rd d (by have:=h.mf;have:=h.own;omega) (by have:=h.bs;have:=h.own;omega),aO _ _ _ _ _ _ h.blk,
  fun q f=>by obtain⟨g,i,e⟩:=h.fZ q f;exact⟨by rw[setRow_other _ _ _ _ e];exact g,i,e⟩,h.but.then d h.own,h.own,h.mf,h.bs⟩
def EH(w a:V)(b m n:Nat)(o:Int)(K c1 c2 p q r s k1 k2 k3 k4 k5 t u x y B C:Int)(E F h H L N i:Option aB)(P Q wn R j S sc d T uu W zc:Nat)(e f:List hJ){u0 u1 u3 u4 u6 u8 u9 u10 u11 u12 u13 u14 u15 u16 u17 u18 u19 u20 u21 u22 u23 u24 u25 u26 u27 u28 u29 u30 u31 u32 u33 u34 u35 u36 u37 u38 u39 u40 u41 u42 u43 u44 u45 u46 u47 u48 u49 u50 u51 u52 u53 u54 u55 u56 u57 u58:Z}
  (hR:a.heap[w.heap.size]?=I (.cells dF 61 (0,0))) (hK:a.heap[b]?=I (.cells (iz K c1 c2 p q r E P Q s k1 k2 k3 k4 k5 F wn R h e.length j t u x y B C H S sc L d T N uu W i f.length zc) 61 (0,0))) (hB:ae w.heap.size w a) (k:cJ a m (.slice h e.length j) e) (h2:cJ a n (.slice i f.length zc) f)
  (hs:iq e∧iq f) (hn:e.length≤20∧f.length≤20) (hP:o=gg (gg 0 e) f):
  ∀c,f11.body.bind (spine 9)=I c→im M c (gW M f11 (fun ev w'=>∃v:Array Z,(v.size=25∧v.all (·.oneCell')=O)∧ev=.returned (.tuple #[.agg v,.int .i64 o])∧ae w.heap.size w w')) ⟨eS (u0::u1:: .pointer (I ⟨w.heap.size,0,J⟩)::u3::u4:: .int .i64 0::u6:: .pointer (I ⟨b,0,J⟩)::u8::u9::u10::u11::u12::u13::u14::u15::u16::u17::u18::u19::u20::u21::u22::u23::u24::u25::u26::u27::u28::u29::u30::u31::u32::u33::u34::u35::u36::u37::u38::u39::u40::u41::u42::u43::u44::u45::u46::u47::u48::u49::u50::u51::u52::u53::u54::u55::u56::u57::u58:: []),[]⟩ a:=by
 have R5:=D hR;have K5:=D hK;have d0:=D hB;have l0:=D k;have m0:=D h2;have l:=D hs;have f0:=D hn;have g0:=D hP;have e0:((0:Int)==0)=O:=rfl;clear hR hK hB k h2 hs hn hP;refine gE rfl ?_;have n0:a.cell? ⟨b,14,J⟩=I (.slice h e.length j):=by simp only[an,K5.o];rfl
 obtain⟨X,h0⟩:∃X,gg 0 e=X:=⟨_,rfl⟩;have a0:=D h0;clear h0;go_upto_region 14 with((go_at_call 34;refine(CG a _ h j e l0.o l.o.1 (by have:=f0.o;omega)).mono ?_);rintro en g ⟨rfl,b16⟩)
 rw[a0.o];have R6:Hid (g.heap[w.heap.size]?=I (.cells dF 61 (0,0))):=D (by rw[b16.block _ (br R5.o).1];exact R5.o);have b0:Hid (ae w.heap.size w g):=D (d0.o.trans (b16.mono d0.o.size));have o0:Hid (b<a.heap.size):=D (br K5.o).1;have K6:Hid (g.heap[b]?=I (.cells (iz K c1 c2 p q r E P Q s k1 k2 k3 k4 k5 F wn R h e.length j t u x y B C H S sc L d T N uu W i f.length zc) 61 (0,0))):=D (by rw[b16.block _ o0.o];exact K5.o);have p0:=D (m0.o.keep b16 (G _));have q0:g.cell? ⟨b,24,J⟩=I (.slice i f.length zc):=by simp only[an,K6.o];rfl
 clear b16 n0;by_cases k:X=0
 rotate_left
 ·have e1:(X==0)=U:=by simpa using k
  have e2:(X != 0)=O:=by simpa using k
  have HV:Hid (X=o):=D (by rw[g0.o,a0.o,Cw _ _ k]);clear k;go_wp2_with (refine aJ rfl _ (.tmp 2) (.tmp 56) rfl w.heap.size _ rfl rfl _ _ R6.o aj rfl (by simp[ap]) ?_)
  refine au (v:=.tuple #[.agg dF,.int .i64 X]) (results_cell_tmp (cs:= dF) results11 _ _ w.heap.size _ (0,0) _ rfl (aO _ _ _ _ _ _ R6.o) underlying61 rfl aj) rfl (show ∃v:Array Z,_ from⟨dF,⟨rfl,by simp[ap]⟩,congrArg (fun z=>dC (.tuple #[.agg dF,.int .i64 z])) (show _=o from HV.o),dh b0.o (G _) _⟩)
 subst k;obtain⟨E2,i0⟩:∃E2,gg 0 f=E2:=⟨_,rfl⟩;have j0:=D i0;clear i0;go_upto_region 16 with((go_at_call 34;refine(CG g _ i zc f p0.o l.o.2 (by have:=f0.o;omega)).mono ?_);rintro en c0 ⟨rfl,b17⟩)
 rw[j0.o];have R7:Hid (c0.heap[w.heap.size]?=I (.cells dF 61 (0,0))):=D (by rw[b17.block _ (br R6.o).1];exact R6.o);have k0:Hid (ae w.heap.size w c0):=D (b0.o.trans (b17.mono b0.o.size));have r0:Hid (b<g.heap.size):=D (br K6.o).1;have K7:Hid (c0.heap[b]?=I (.cells (iz K c1 c2 p q r E P Q s k1 k2 k3 k4 k5 F wn R h e.length j t u x y B C H S sc L d T N uu W i f.length zc) 61 (0,0))):=D (by rw[b17.block _ r0.o];exact K6.o);clear b17 q0;have HV:Hid (E2=o):=D (by rw[g0.o,a0.o,j0.o]);by_cases h2:E2=0
 rotate_left
 ·have e2:(E2 != 0)=O:=by simpa using h2
  clear h2;go_wp2_with (refine aJ rfl _ (.tmp 2) (.tmp 56) rfl w.heap.size _ rfl rfl _ _ R7.o aj rfl (by simp[ap]) ?_)
  refine au (v:=.tuple #[.agg dF,.int .i64 E2]) (results_cell_tmp (cs:= dF) results11 _ _ w.heap.size _ (0,0) _ rfl (aO _ _ _ _ _ _ R7.o) underlying61 rfl aj) rfl (show ∃v:Array Z,_ from⟨dF,⟨rfl,by simp[ap]⟩,congrArg (fun z=>dC (.tuple #[.agg dF,.int .i64 z])) (show _=o from HV.o),dh k0.o (G _) _⟩)
 subst h2
 go_wp2_with (first
  | ((with_reducible refine aT 58 ?_);refine wpList_load_row rfl _ (.tmp 7) rfl b rfl _ _ (0,0) _ K7.o underlying61 rfl aj ?_)
  | (refine aJ rfl _ (.tmp 2) (.tmp 58) rfl w.heap.size _ rfl rfl _ _ R7.o aj rfl (by simp[ap]) ?_))
 refine au (v:=.tuple #[.agg (iz K c1 c2 p q r E P Q s k1 k2 k3 k4 k5 F wn R h e.length j t u x y B C H S sc L d T N uu W i f.length zc),.int .i64 0]) (results_cell_tmp (cs:= (iz K c1 c2 p q r E P Q s k1 k2 k3 k4 k5 F wn R h e.length j t u x y B C H S sc L d T N uu W i f.length zc)) results11 _ _ w.heap.size _ (0,0) _ rfl (aO _ _ _ _ _ _ R7.o) underlying61 rfl aj) rfl (show ∃v:Array Z,_ from⟨(iz K c1 c2 p q r E P Q s k1 k2 k3 k4 k5 F wn R h e.length j t u x y B C H S sc L d T N uu W i f.length zc),⟨rfl,by simp[ap]⟩,congrArg (fun z=>dC (.tuple #[.agg (iz K c1 c2 p q r E P Q s k1 k2 k3 k4 k5 F wn R h e.length j t u x y B C H S sc L d T N uu W i f.length zc),.int .i64 z])) (show _=o from HV.o),dh k0.o (G _) _⟩)
def G4(w a:V)(b f g:Nat)(k E:Int)(K c1 c2 t u x y k1 k2 k3 k4 k5 B C F H L N:Int)(P Q n R S T o:Option aB)(W X wn ec p q sc e ic uu uc zc:Nat)(h i:List hJ){u0 u1 u3 u4 u6 u8 u9 u10 u11 u12 u13 u14 u15 u16 u17 u18 u19 u20 u21 u22 u23 u24 u25 u26 u27 u28 u29 u30 u31 u32 u33 u34 u35 u36 u37 u38 u39 u40 u41 u42 u43 u44 u45 u46 u47 u48 u49 u50 u51 u52 u53 u54 u55 u56 u57 u58:Z}
  (hR:a.heap[w.heap.size]?=I (.cells dF 61 (0,0))) (hK:a.heap[b]?=I (.cells (iz K c1 c2 t u x P W X y k1 k2 k3 k4 k5 Q wn ec n h.length p B C F H L N R q sc S e ic T uu uc o i.length zc) 61 (0,0))) (hB:ae w.heap.size w a) (h1:cJ a f (.slice n h.length p) h) (h2:cJ a g (.slice o i.length zc) i)
  (hE:E≠0→E=k) (hs:E=0→iq h∧iq i) (hn:wn≤20∧h.length≤20∧q≤20∧e≤100∧i.length≤20) (r:E=0→K≠2→uu=0) (hP:E=0→k=if 100<uu then 4 else gg 0 (h++i)):
  ∀c,f11.body.bind (spine 8)=I c→im M c (gW M f11 (fun ev w'=>∃v:Array Z,(v.size=25∧v.all (·.oneCell')=O)∧ev=.returned (.tuple #[.agg v,.int .i64 k])∧ae w.heap.size w w')) ⟨eS (u0::u1:: .pointer (I ⟨w.heap.size,0,J⟩)::u3::u4:: .int .i64 E::u6:: .pointer (I ⟨b,0,J⟩)::u8::u9::u10::u11::u12::u13::u14::u15::u16::u17::u18::u19::u20::u21::u22::u23::u24::u25::u26::u27::u28::u29::u30::u31::u32::u33::u34::u35::u36::u37::u38::u39::u40::u41::u42::u43::u44::u45::u46::u47::u48::u49::u50::u51::u52::u53::u54::u55::u56::u57::u58:: []),[]⟩ a:=by
 have R4:=D hR;have K4:=D hK;have l:=D hB;have g0:=D h1;have i0:=D h2;have d:=D hn;clear hR hK hB h1 h2 hn;refine gE rfl ?_;by_cases h0:E=0
 rotate_left
 ·have e1:(E==0)=U:=by simpa using h0
  have e2:(E != 0)=O:=by simpa using h0
  have HV:=D (hE h0);clear h0 hE hs r hP;go_wp2_with (refine aJ rfl _ (.tmp 2) (.tmp 56) rfl w.heap.size _ rfl rfl _ _ R4.o aj rfl (by simp[ap]) ?_)
  refine au (v:=.tuple #[.agg dF,.int .i64 E]) (results_cell_tmp (cs:= dF) results11 _ _ w.heap.size _ (0,0) _ rfl (aO _ _ _ _ _ _ R4.o) underlying61 rfl aj) rfl (show ∃v:Array Z,_ from⟨dF,⟨rfl,by simp[ap]⟩,congrArg (fun z=>dC (.tuple #[.agg dF,.int .i64 z])) (show _=k from HV.o),dh l.o (G _) _⟩)
 subst h0;have a0:=D (hs rfl);have j0:=D (r rfl);have b0:=D (hP rfl);have e0:((0:Int)==0)=O:=rfl;clear hE hs r hP;obtain⟨s,c0⟩:∃s,(decide (K=2)&&decide (100<uu))=s:=⟨_,rfl⟩;have m:=D c0;clear c0
 have j:Hid (ar M 33 #[.agg (iz K c1 c2 t u x P W X y k1 k2 k3 k4 k5 Q wn ec n h.length p B C F H L N R q sc S e ic T uu uc o i.length zc)] a (fun ev w'=>ev=.returned (.bool s)∧ae a.heap.size a w')):=D (by
  have:=La a K c1 c2 t u x y k1 k2 k3 k4 k5 B C F H L N P Q n R S T o W X wn ec p q sc e ic uu uc zc h.length i.length d.o.1 d.o.2.1 d.o.2.2.1 d.o.2.2.2.1 d.o.2.2.2.2;rw[m.o]at this
  exact this)
 go_step;go_step
 go_cut[5,42] (fun u5 u42 wc=>u5=.int .i64 (if s then 4 else 0)∧Hid (ae a.heap.size a wc))
 case first=>
  cases s with
  | true=>
   go_wp2_with (first | ((with_reducible refine aT 40 ?_);refine qi rfl _ (.tmp 7) rfl b rfl _ _ (0,0) _ K4.o underlying61 rfl aj ?_) | ((go_at_call 33;refine j.o.mono ?_);rintro en k0 ⟨rfl,b15⟩))
   go_meet
   case rel=>exact⟨rfl,D b15⟩
  | false=>
   go_wp2_with (first | ((with_reducible refine aT 40 ?_);refine qi rfl _ (.tmp 7) rfl b rfl _ _ (0,0) _ K4.o underlying61 rfl aj ?_) | ((go_at_call 33;refine j.o.mono ?_);rintro en k0 ⟨rfl,b15⟩))
   go_meet
   case rel=>exact⟨rfl,D b15⟩
 case rest=>
  obtain⟨rfl,b15⟩:=hcut;have R5:Hid (wc.heap[w.heap.size]?=I (.cells dF 61 (0,0))):=D (by rw[b15.o.block _ (br R4.o).1];exact R4.o);have d0:Hid (ae w.heap.size w wc):=D (l.o.trans (b15.o.mono l.o.size));have K5:Hid (wc.heap[b]?=I (.cells (iz K c1 c2 t u x P W X y k1 k2 k3 k4 k5 Q wn ec n h.length p B C F H L N R q sc S e ic T uu uc o i.length zc) 61 (0,0))):=D (by rw[b15.o.block _ (br K4.o).1];exact K4.o)
  cases s with
  | true=>
   have HV:Hid ((4:Int)=k):=D (by
    have:=m.o;simp only[aM,decide_eq_true_eq]at this
    rw[b0.o,if_pos this.2])
   have e3:((4:Int)==0)=U:=rfl;have e4:((4:Int) != 0)=O:=rfl;simp only[if_true];go_wp2_with (refine aJ rfl _ (.tmp 2) (.tmp 56) rfl w.heap.size _ rfl rfl _ _ R5.o aj rfl (by simp[ap]) ?_)
   refine au (v:=.tuple #[.agg dF,.int .i64 4]) (results_cell_tmp (cs:= dF) results11 _ _ w.heap.size _ (0,0) _ rfl (aO _ _ _ _ _ _ R5.o) underlying61 rfl aj) rfl (show ∃v:Array Z,_ from⟨dF,⟨rfl,by simp[ap]⟩,congrArg (fun z=>dC (.tuple #[.agg dF,.int .i64 z])) (show _=k from HV.o),dh d0.o (G _) _⟩)
  | false=>
   have l0:k=gg (gg 0 h) i:=by
    have m0:=m.o;rw[b0.o,if_neg,vh];intro f0;by_cases r:K=2
    ·simp[r,f0]at m0
    ·have:=j0.o r;omega
   go_step;exact EH w wc b f g k K c1 c2 t u x y k1 k2 k3 k4 k5 B C F H L N P Q n R S T o W X wn ec p q sc e ic uu uc zc h i R5.o K5.o d0.o (g0.o.keep b15.o (G _)) (i0.o.keep b15.o (G _)) a0.o ⟨d.o.2.1,d.o.2.2.2.2⟩ l0 _ rfl
def G5(w w9 d wc:V)(p b:Nat)(K:Int)(x0:X)(l8 l:List UInt8){u0 u1 u3 u4 u5 u8 u9 u10 u11 u12 u13 u14 u15 u16 u17 u18 u19 u20 u21 u22 u23 u24 u25 u26 u27 u28 u29 u30 u31 u32 u33 u34 u35 u36 u37 u38 u39 u40 u41 u42 u43 u44 u45 u46 u47 u48 u49 u50 u51 u52 u53 u54 u55 u56 u57 u58:Z}(f:ae w.heap.size w d)(a0:w.heap.size<p∧w9.heap.size≤p)(b0:w.heap.size<b)(c0:cN K x0=qg l8)(hP:jM l=AP l8)
  (H:Hid (Mk kY w9.heap.size d p [(w.heap.size,dF,61)] x0 b (AK K) 61 wc)):
  ∀c,f11.body.bind (spine 6)=I c→im M c (gW M f11 (fun ev w'=>∃v:Array Z,(v.size=25∧v.all (·.oneCell')=O)∧ev=.returned (.tuple #[.agg v,.int .i64 (jM l)])∧ae w.heap.size w w')) ⟨eS (u0::u1:: .pointer (I ⟨w.heap.size,0,J⟩)::u3::u4::u5:: .pointer (I ⟨p,0,J⟩):: .pointer (I ⟨b,0,J⟩)::u8::u9::u10::u11::u12::u13::u14::u15::u16::u17::u18::u19::u20::u21::u22::u23::u24::u25::u26::u27::u28::u29::u30::u31::u32::u33::u34::u35::u36::u37::u38::u39::u40::u41::u42::u43::u44::u45::u46::u47::u48::u49::u50::u51::u52::u53::u54::u55::u56::u57::u58:: []),[]⟩ wc:=by
 have d0:=D f;have m0:=D a0;have w0:=D b0;have e0:=D c0;have HP:=D hP;clear f a0 b0 c0 hP;refine gE rfl ?_;have n0:Hid (d.heap.size≤wc.heap.size):=D H.o.but.size;have f0:Hid (b<wc.heap.size):=D (br H.o.blk).1
 go_upto_region 9 with(first
  | ((with_reducible refine aT 33 ?_);refine wpList_load_row rfl _ (.tmp 7) rfl b rfl _ _ (0,0) _ H.o.blk underlying61 rfl aj ?_)
  | ((go_at_call 31;refine(K2 wc p K x0 H.o.rd (aa H.o.bs n0.o)).mono ?_);rintro en g ⟨c1,c2,h,i,j,k,k1,k2,k3,k4,k5,n,r,s,t,u,x,y,z,B,C,E,F,L,N,P,wn,Q,R,S,sc,a,T,uu,W,zc,l1,l2,rfl,⟨k12,b12⟩,o1,o2,g0,i0⟩;have H2:=D (H.o.call k12.o b12.o);have O1:=D o1;have O2:=D o2;have o0:=D g0;have p0:=D i0;clear o1 o2 g0 i0 k12 b12)
  | (refine aJ rfl _ (.tmp 7) (.tmp 34) rfl b _ rfl rfl _ _ H2.o.blk aj rfl (by simp[ap]) ?_))
 have H3:=D (H2.o.row (MQ K c1 c2 h i j y N P k k1 k2 k3 k4 k5 z wn Q B l1.length R n r s t u x C S sc E a T F uu W L l2.length zc));have O1:=D (O1.o.rows b (w':=cV g b (iz K c1 c2 h i j y N P k k1 k2 k3 k4 k5 z wn Q B l1.length R n r s t u x C S sc E a T F uu W L l2.length zc)) rfl f0.o);have O2:=D (O2.o.rows b (w':=cV g b (iz K c1 c2 h i j y N P k k1 k2 k3 k4 k5 z wn Q B l1.length R n r s t u x C S sc E a T F uu W L l2.length zc)) rfl f0.o);obtain⟨y0,hV⟩:∃y0,cV g b (iz K c1 c2 h i j y N P k k1 k2 k3 k4 k5 z wn Q B l1.length R n r s t u x C S sc E a T F uu W L l2.length zc)=y0:=⟨_,rfl⟩;rw[hV]at O1 O2;have H3:Hid (Mk kY w9.heap.size d p [(w.heap.size,dF,61)] (cN K x0).2 b (MQ K c1 c2 h i j y N P k k1 k2 k3 k4 k5 z wn Q B l1.length R n r s t u x C S sc E a T F uu W L l2.length zc) 61 y0):=D (by rw[←hV];exact H3.o);rw[hV];clear hV;have q0:Hid (w.heap.size<y0.heap.size):=D (br (H3.o.fZ _ (af.2 rfl)).1).1;have r0:Hid (b<y0.heap.size):=D (br H3.o.blk).1;dsimp only[Act.put]
 go_cut[5] (fun u5 j0=>u5=.int .i64 (mv (cN K x0).2)∧Hid (ae y0.heap.size y0 j0))
 case first=>
  go_wp2_with ((go_at_call 32;refine(NO y0 p _ H3.o.rd).mono ?_);rintro en j0 ⟨rfl,b14⟩)
  go_meet
  case rel=>exact⟨rfl,D b14⟩
 case rest=>
  obtain⟨rfl,b14⟩:=hcut;have H4:=D (H3.o.below b14.o r0.o (fun q hq=>by obtain rfl:=af.1 hq;exact q0.o));have s0:=D (O1.o.keep b14.o (G _));have t0:=D (O2.o.keep b14.o (G _));have v0:Hid (ae w.heap.size w wc):=D (d0.o.trans (H4.o.but.below d0.o.size (dN m0.o.1)));have R4:Hid (wc.heap[w.heap.size]?=I (.cells dF 61 (0,0))):=D (H4.o.fZ _ (af.2 rfl)).1;go_step;refine G4 w _ b _ _ (jM l) _ K c1 c2 h i j k k1 k2 k3 k4 k5 n r s t u x y z B C E F L N P wn Q R S sc a T uu W zc l1 l2 R4.o H4.o.blk v0.o s0.o t0.o (fun h0=>?_) (fun h0=>?_) p0.o (fun h0 hk=>?_) (fun h0=>?_) _ rfl
  ·rw[HP.o];unfold AP;rw[←e0.o,if_pos h0]
  all_goals
   obtain⟨m,hm⟩:=Lb h0 (fun e he=>by
    have hr:=H4.o.rd;rw[he]at hr
    exact hr.1)
   obtain⟨k0,l0⟩:=o0.o m hm
  ·have:=yt K x0
   rw[←k0]at this;exact⟨fun o ho=>this o (List.mem_append_left _ ho),fun o ho=>this o (List.mem_append_right _ ho)⟩
  ·rw[l0];exact Jb hk x0
  ·rw[HP.o];unfold AP;rw[←e0.o,if_neg (by rw[h0];simp),←k0,←l0]
def Jd(w:V)(ao:Option aB)(l:List UInt8)(n cap:Nat)(hn:n=l.length)(hc:n≤cap)(hm:cap≤9223372036854775807)(hl:l.length≤100000)(h:Rd w ao (bX l)):
  ar M 11 #[.slice ao n cap] w (fun ev w'=>∃v:Array Z,(v.size=25∧v.all (·.oneCell')=O)∧ev=.returned (.tuple #[.agg v,.int .i64 (jM l)])∧ae w.heap.size w w'):=by
 have HN:=D hn;have HC:=D hc;have P:=D hm;have HL:=D hl;have HR:=D h;clear hn hc hm hl h
 go_enter func11,ntmps11
 go_upto_region 1 with fail
 obtain⟨W,hW,hR,s,Q⟩:∃W,w.alloc (.cells dF 61)=W∧Hid (W.heap[w.heap.size]?=I (.cells dF 61 (0,0)))∧Hid (ae w.heap.size w W)∧Hid (Rd W ao (bX l)):=⟨_,rfl,al _ _,(aD _ _).alloc (G _) _,HR.o.alloc _⟩;rw[hW];clear hW;go_upto_region 2 with((go_at_call 27;refine(N7 W ao l n cap HN.o HC.o P.o HL.o Q.o).mono ?_);rintro en e ⟨b9,v9,rfl,r⟩)
 have t:Hid (e.heap[w.heap.size]?=I (.cells dF 61 (0,0))):=D (by rw[b9.block _ (br hR.o).1];exact hR.o);have R:Hid (ae w.heap.size w e):=D (s.o.trans (b9.mono s.o.size));have O9:=D r;clear r b9;obtain⟨E,S⟩:∃E,sO l=E:=⟨_,rfl⟩;rw[S];have T:=D S;clear S;by_cases g:E=0
 rotate_left
 ·have e1:(E != 0)=O:=by simpa using g
  have HV:Hid (E=jM l):=D (by unfold jM;rw[T.o,if_pos g]);clear g;go_wp2_with (refine aJ rfl _ (.tmp 2) (.tmp 15) rfl w.heap.size _ rfl rfl _ _ t.o aj rfl (by simp[ap]) ?_)
  refine au (v:=.tuple #[.agg dF,.int .i64 E]) (results_cell_tmp (cs:= dF) results11 _ _ w.heap.size _ (0,0) _ rfl (aO _ _ _ _ _ _ t.o) underlying61 rfl aj) rfl (show ∃v:Array Z,_ from⟨dF,⟨rfl,by simp[ap]⟩,congrArg (fun z=>dC (.tuple #[.agg dF,.int .i64 z])) (show _=jM l from HV.o),dh R.o (G _) _⟩)
 have e1:(E != 0)=U:=by simpa using g
 have r:=O9.o (by rw[T.o];exact g);obtain⟨a9,c9,rfl,i,u⟩:=bY r;have f:=D (cM r).rd;have HP:Hid (jM l=AP (l.drop 8)):=D (by unfold jM;rw[T.o,if_neg (by simpa using g)]);obtain⟨c,d⟩:∃c,l.drop 8=c:=⟨_,rfl⟩;have X:Hid (c.length≤100000):=D (by rw[←d,bh];have:=HL.o;omega);rw[d]at f i HP;rw[d];have a0:=D i;have b0:=D u;obtain⟨K,j,hK⟩:∃K j,aU (.ok c)=(K,j):=⟨_,_,rfl⟩;have HK:=D hK;clear d r O9 g i u hK;go_upto_region 5 with((go_at_call 28;refine(NJ e a9 c c.length c9 rfl a0.o b0.o X.o f.o).mono ?_);rintro en a ⟨p,rfl,x,k10,b10⟩)
 have y:Hid (a.heap[w.heap.size]?=I (.cells dF 61 (0,0))):=D (by rw[b10.block _ (br t.o).1];exact t.o);have k:Hid (w.heap.size<p∧e.heap.size≤p):=D ⟨by have:=(br t.o).1;omega,x⟩;have d0:Hid (ae w.heap.size w a):=D (R.o.trans (b10.mono R.o.size));have B:=D k10;have e0:Hid (e.heap.size≤a.heap.size):=D b10.size;clear x k10 b10
 go_cut[7] (fun u7 wc=>∃b,u7=.pointer (I ⟨b,0,J⟩)∧w.heap.size<b∧Hid (Mk kY e.heap.size a p [(w.heap.size,dF,61)] j b (AK K) 61 wc))
 case first=>
  go_wp2_with (first
   | ((go_at_call 29;refine(dy a p _ _ _ B.o HK.o).mono ?_);rintro en m ⟨rfl,k11,b11⟩)
   | (refine aJ rfl _ (.tmp 7) (.tmp 21) rfl m.heap.size _ rfl rfl _ _ (al m _) aj rfl (by simp[ap]) ?_;rw[World.setRow_alloc_new]))
  have H:=D (Mk.start (K:=kY) k11.o b11.o B.o.lt e0.o [(w.heap.size,dF,61)] (by
   intro q hq;obtain rfl:=af.1 hq
   exact⟨b11.o.dQ y.o (by have:=k.o;show w.heap.size≠p;omega),by have:=k.o;show w.heap.size≠p;omega⟩) (AK K) 61)
  go_meet
  case rel=>exact⟨m.heap.size,rfl,by have:=H.o.own;have:=(br y.o).1;omega,H⟩
 case rest=>
  obtain⟨b,rfl,C,H⟩:=hcut;have f0:=D C;clear C;have c0:=H.o.cell 0 rfl;go_step;go_step
  go_cut[] (fun wd=>∃j0,Hid (Mk kY e.heap.size a p [(w.heap.size,dF,61)] j0 b (AK K) 61 wd)∧cN K j0=qg c)
  case first=>
   by_cases o:K<1∨5<K
   ·have N:Hid (cN K (j.fail 3)=qg c):=D (by unfold qg;simp only;rw[HK.o];simp only;rw[if_pos o,Jc o])
    by_cases F:K<1
    ·have f1:decide (K<1)=O:=by simpa using F
     clear o F;go_wp2_with ((go_at_call 30;refine(kj _ p j 3 aC H.o.rd).mono ?_);rintro en g0 ⟨rfl,k12,b12⟩)
     go_meet
     case rel=>exact⟨_,D (H.o.call k12.o b12.o),N.o⟩
    ·have f1:decide (K<1)=U:=by simpa using F
     have f2:decide (5<K)=O:=by simpa using o.resolve_left F
     clear o F;go_wp2_with ((go_at_call 30;refine(kj _ p j 3 aC H.o.rd).mono ?_);rintro en g0 ⟨rfl,k12,b12⟩)
     go_meet
     case rel=>exact⟨_,D (H.o.call k12.o b12.o),N.o⟩
   ·have N:Hid (cN K j=qg c):=D (by unfold qg;simp only;rw[HK.o];simp only;rw[if_neg o])
    have f1:decide (K<1)=U:=by rw[decide_eq_false_iff_not];omega
    have f2:decide (5<K)=U:=by rw[decide_eq_false_iff_not];omega
    clear o;go_wp2;go_meet
    case rel=>exact⟨_,H,N.o⟩
  case rest=>
   obtain⟨j0,HY,L⟩:=hcut;have i0:=D L;clear L c0;go_step;exact G5 w e a _ p b K j0 c l d0.o k.o f0.o i0.o HP.o HY _ rfl
section
variable {P:aQ} {ops:Array aH} {Q:gD→Act→V→Prop} {md:iN} {S:V→Prop} {s:Nat}
def fN(P:aQ)(md:iN)(ops:Array aH)(Q:gD→Act→V→Prop)(S:V→Prop)(s:Nat):Nat→Array Bool→Act→V→Prop
 | 0,l,a,w=>bj md ops l=[]∧Q .normal a w
 | n+1,l,a,w=>(bj md ops l=[]→Q .normal a w)∧
  ∀i∈bj md ops l,wpOp P ops Q i (fun c b=>((l.setIfInBounds i O).getD s O=U→S b)∧fN P md ops Q S s n (l.setIfInBounds i O) c b) a w
theorem Gm:∀(n:Nat)(l:Array Bool)(a:Act)(w:V),fN P md ops Q S s n l a w→wpAny P md ops Q n l a w
 | 0,_,_,_,h=>h
 | n+1,_,_,_,h=>⟨h.1,fun i hi=>sK (fun b c k=>Gm n _ b c k.2) (h.2 i hi)⟩
theorem Je{i:Nat}{y os:aH}{v:Z}(hi:ops[i]?=I y)(m:∀(j:Nat)(o:aH) cs b,ops[j]?=I o→o.op≠.select cs b)
  (hQ:∀c a w,Q (.panic c) (a.put y.dst v) w→Q (.panic c) a w) (a0:ops[s]?=I os) (r:∃e∈os.after,cU md e=O∧e.on=i) (b0:i≠s):
  ∀(n:Nat)(l:Array Bool)(a:Act)(w:V),
   (∀j t,ops[j]?=I t→j≠i→l.getD j O=U→(∀e∈t.after,cU md e=O→e.on≠i)→y.apart ops t=O)→
   i∈bj md ops l→l.getD s O=U→kJ P ops S y v a→S w→
   fN P md ops Q S s n (l.setIfInBounds i O) (a.put y.dst v) w→fN P md ops Q S s (n+1) l a w:=by
 intro n
 induction n with
 | zero=>
  intro l a w _ u _ W z H;refine⟨fun h=>(by rw[h]at u;cases u),fun j X=>?_⟩;by_cases d:j=i
  ·subst d;exact W.wpOp hi z ⟨fun _=>z,H⟩
  ·have h1:=kg X d
   rw[H.1]at h1
   cases h1
 | succ n ih=>
  intro l a w g u B W z H;refine⟨fun h=>(by rw[h]at u;cases u),fun j X=>?_⟩;by_cases d:j=i
  ·subst d;exact W.wpOp hi z ⟨fun _=>z,H⟩
  have C:=(mem_ready.1 u).1
  have E:l.getD i U≠O:=by
   intro h;rcases aL i l.size with c0 | d0
   ·simp[c0]at C h;rw[C]at h;cases h
   ·simp[fa d0]at h
  obtain⟨F,t,f,p⟩:=mem_ready.1 X
  have K:j≠s:=by
   rintro rfl;rw[a0]at f;injection f with f;subst f;obtain⟨e,he,hb,x⟩:=r;exact E (x▸p e he hb)
  have L:∀e∈t.after,cU md e=O→e.on≠i:=fun e he hb x=>E (x▸p e he hb)
  have h2:=Bu f (g j t f d F L) (fun cs b=>m i y cs b hi) (fun cs b=>m j t cs b f) hQ W (H.2 j (kg X d));refine sK (fun a' w' k=>?_) h2;have hc:((l.setIfInBounds i O).setIfInBounds j O).getD s O=U:=by rw[gA O K,gA O b0];exact B
  have N:=k.2.1 hc;refine⟨fun _=>N,ih (l.setIfInBounds j O) a' w' (fun q oq hq e0 R f0=>?_) (kg u (jh d)) (by rw[gA O K];exact B) k.1 N ?_⟩
  ·refine g q oq hq e0 ?_ f0
   by_cases T:j=q
   ·subst T;exact F
   ·rw[gA O T]at R;exact R
  ·rw[jq _ _ d];exact k.2.2
theorem CH{i:Nat}{f os:aH}{v:Z}{n:Nat}{l:Array Bool}{a:Act}{w:V}(hi:ops[i]?=I f)(g:ops[s]?=I os)(d:fS ops=O)
  (o:jA md ops l i=O) (p:(bj md ops l).contains i=O) (j:l.getD s O=U) (b:os.after.any (fun e=>cU md e&&e.on==i)=O) (k:i≠s)
  (q:∀c a w,Q (.panic c) (a.put f.dst v) w→Q (.panic c) a w) (r:kJ P ops S f v a) (t:S w)
  (h:fN P md ops Q S s n (l.setIfInBounds i O) (a.put f.dst v) w):fN P md ops Q S s (n+1) l a w:=by
 refine Je hi (nA d) q g ?_ k n l a w (qu hi o) (by simpa using p) j r t h;rw[vQ]at b;obtain⟨e,u,m⟩:=b;rw[aM]at m;exact⟨e,u,m.1,by simpa using m.2⟩
theorem N8{i:Nat}{b:aH}{n:Nat}{l:Array Bool}{a:Act}{w:V}(c:bj md ops l=[i])(hi:ops[i]?=I b)(f:b.guard=J)
  (h:ej P b a w (fun g w'=>((l.setIfInBounds i O).getD s O=U→S w')∧fN P md ops Q S s n (l.setIfInBounds i O) g w') Q):fN P md ops Q S s (n+1) l a w:=by
 refine⟨fun d=>(by rw[c]at d;cases d),fun j e=>?_⟩;rw[c]at e;have:j=i:=by simpa using e
 subst this;unfold wpOp;simp only[hi];rw[if_pos (by simp[dU,f])];exact .inl h
theorem lD{i j:Nat}{b c:aH}{n:Nat}{l:Array Bool}{a:Act}{w:V}(g:bj md ops l=[i,j])(hi:ops[i]?=I b)(o:ops[j]?=I c)(d:b.guard=J)(e:c.guard=J)
  (p:ej P b a w (fun f w'=>((l.setIfInBounds i O).getD s O=U→S w')∧fN P md ops Q S s n (l.setIfInBounds i O) f w') Q)
  (q:ej P c a w (fun f w'=>((l.setIfInBounds j O).getD s O=U→S w')∧fN P md ops Q S s n (l.setIfInBounds j O) f w') Q):fN P md ops Q S s (n+1) l a w:=by
 refine⟨fun h=>(by rw[g]at h;cases h),fun k m=>?_⟩;rw[g]at m;have:k=i∨k=j:=by simpa using m
 rcases this with rfl | rfl
 ·unfold wpOp
  simp only[hi];rw[if_pos (by simp[dU,d])];exact .inl p
 ·unfold wpOp
  simp only[o];rw[if_pos (by simp[dU,e])];exact .inl q
theorem Lc{n:Nat}{l:Array Bool}{a:Act}{w:V}(b:bj md ops l=[])(h:Q .normal a w):fN P md ops Q S s n l a w:=by
 cases n with
 | zero=>exact⟨b,h⟩
 | succ n=>exact⟨fun _=>h,by rw[b];simp⟩
theorem bT{id:Nat}{a:Act}{w:V}(s:Nat)(S:V→Prop)(hm:P.follows .mixedOrders=O)
  (h:fN P .any ops Q S s ops.size (Array.replicate ops.size U) a w.drew):(Code.region id ops O).wp P Q a w:=
 wp_region_any hm (Gm _ _ _ _ h)
end
theorem aad{P:aQ}{ops:Array aH}{Q:gD→Act→V→Prop}{md:iN}{S:V→Prop}{s i n:Nat}{d os:aH}{v:Z}{l:Array Bool}{a:Act}{w:V}(hi:ops[i]?=I d)(f:ops[s]?=I os)(b:(fS ops&&(jA md ops l i&&((bj md ops l).contains i&&(!l.getD s O&&(os.after.any (fun e=>cU md e&&e.on==i)&&decide (i≠s))))))=O)(g:∀c a w,Q (.panic c) (a.put d.dst v) w→Q (.panic c) a w)(j:kJ P ops S d v a)(k:S w)(h:fN P md ops Q S s n (l.setIfInBounds i O) (a.put d.dst v) w):fN P md ops Q S s (n+1) l a w:=by
 simp only[aM,fm,decide_eq_true_eq]at b;exact CH hi f b.1 b.2.1 b.2.2.1 b.2.2.2.1 b.2.2.2.2.1 b.2.2.2.2.2 g j k h
section
variable {P:aQ} {ops:Array aH} {Q:gD→Act→V→Prop} {md:iN} {S:V→Prop} {s:Nat}
def Jf(P:aQ)(ops:Array aH)(S:V→Prop)(o:aH)(v:Z)(a:Act):Prop:=
 dU o (kD ops a.tmps)=O∧∃fn args,(∀w,S w→(bv a.eval o).run P w=.ok (.enter fn args) w)∧∀w,S w→ar P fn args w fun e b=>e=.returned v∧b=w
theorem Jf.wpOp{i:Nat}{o:aH}{v:Z}{a:Act}(hi:ops[i]?=I o)(c:Jf P ops S o v a)
  {K:Act→V→Prop} {w:V} (b:S w) (h:K (a.put o.dst v) w):wpOp P ops Q i K a w:=by
 unfold Go.wpOp;simp only[hi];obtain⟨d,fn,args,f,g⟩:=c;simp only[d,if_true,ej,f w b,Oper.upon];refine .inl ((g w b).mono ?_);rintro e j ⟨rfl,rfl⟩;exact h
end
section
variable {P:aQ} {ops:Array aH} {Q:gD→Act→V→Prop} {md:iN} {S:V→Prop} {s:Nat}
theorem Jg{i:Nat}{x:aH}{v:Z}(hi:ops[i]?=I x)(g:∀(j:Nat)(o:aH) cs b,ops[j]?=I o→o.op≠.select cs b)
  (hQ:∀c a w,Q (.panic c) (a.put x.dst v) w→Q (.panic c) a w) (m:i≠s):
  ∀(n:Nat)(l:Array Bool)(a:Act)(w:V),
   (∀j p,ops[j]?=I p→j≠i→l.getD j O=U→(∀e∈p.after,cU md e=O→e.on≠i)→x.apart ops p=O)→
   i∈bj md ops l→kJ P ops (fun _=>True) x v a→(l.getD s O=U→S w)→
   fN P md ops Q S s n (l.setIfInBounds i O) (a.put x.dst v) w→fN P md ops Q S s (n+1) l a w:=by
 intro n
 induction n with
 | zero=>
  intro l a w _ r L R H;refine⟨fun h=>(by rw[h]at r;cases r),fun j N=>?_⟩;by_cases d:j=i
  ·subst d;exact L.wpOp hi trivial ⟨fun h=>R (by rw[gA O m]at h;exact h),H⟩
  ·have h1:=kg N d
   rw[H.1]at h1
   cases h1
 | succ n ih=>
  intro l a w f r L R H;refine⟨fun h=>(by rw[h]at r;cases r),fun j N=>?_⟩;by_cases d:j=i
  ·subst d;exact L.wpOp hi trivial ⟨fun h=>R (by rw[gA O m]at h;exact h),H⟩
  have y:=(mem_ready.1 r).1
  have T:l.getD i U≠O:=by
   intro h;rcases aL i l.size with W | X
   ·simp[W]at y h;rw[y]at h;cases h
   ·simp[fa X]at h
  obtain⟨z,p,t,B⟩:=mem_ready.1 N;have C:∀e∈p.after,cU md e=O→e.on≠i:=fun e he hb a0=>T (a0▸B e he hb)
  have h2:=Bu t (f j p t d z C) (fun cs b=>g i x cs b hi) (fun cs b=>g j p cs b t) hQ L (H.2 j (kg N d));refine sK (fun a' w' k=>?_) h2
  have u:((l.setIfInBounds i O).setIfInBounds j O).getD s O=(l.setIfInBounds j O).getD s O:=by
   rw[←jq _ _ d,gA O m]
  have E:(l.setIfInBounds j O).getD s O=U→S w':=fun h=>k.2.1 (by rw[u];exact h)
  refine⟨E,ih (l.setIfInBounds j O) a' w' (fun q oq hq b0 F c0=>?_) (kg r (jh d)) k.1 E ?_⟩
  ·refine f q oq hq b0 ?_ c0
   by_cases K:j=q
   ·subst K;exact z
   ·rw[gA O K]at F;exact F
  ·rw[jq _ _ d];exact k.2.2
theorem nK{i:Nat}{d:aH}{v:Z}{n:Nat}{l:Array Bool}{a:Act}{w:V}(hi:ops[i]?=I d)(b:fS ops=O)
  (f:jA md ops l i=O) (g:(bj md ops l).contains i=O) (e:i≠s)
  (j:∀c a w,Q (.panic c) (a.put d.dst v) w→Q (.panic c) a w) (k:kJ P ops (fun _=>True) d v a) (m:S w)
  (h:fN P md ops Q S s n (l.setIfInBounds i O) (a.put d.dst v) w):fN P md ops Q S s (n+1) l a w:=
 Jg hi (nA b) j e n l a w (qu hi f) (by simpa using g) k (fun _=>m) h
theorem Ld{i:Nat}{b:aH}{n:Nat}{l:Array Bool}{a:Act}{w:V}(c:bj md ops l=[i])(hi:ops[i]?=I b)(f:dU b (kD ops a.tmps)=O)
  (h:ej P b a w (fun g w'=>((l.setIfInBounds i O).getD s O=U→S w')∧fN P md ops Q S s n (l.setIfInBounds i O) g w') Q):fN P md ops Q S s (n+1) l a w:=by
 refine⟨fun d=>(by rw[c]at d;cases d),fun j e=>?_⟩;rw[c]at e;have:j=i:=by simpa using e
 subst this;unfold wpOp;simp only[hi];rw[if_pos f];exact .inl h
end
theorem aae{P:aQ}{ops:Array aH}{Q:gD→Act→V→Prop}{md:iN}{S:V→Prop}{s i n:Nat}{d:aH}{v:Z}{l:Array Bool}{a:Act}{w:V}(hi:ops[i]?=I d)(b:(fS ops&&(jA md ops l i&&((bj md ops l).contains i&&decide (i≠s))))=O)(e:∀c a w,Q (.panic c) (a.put d.dst v) w→Q (.panic c) a w)(f:kJ P ops (fun _=>True) d v a)(g:S w)(h:fN P md ops Q S s n (l.setIfInBounds i O) (a.put d.dst v) w):fN P md ops Q S s (n+1) l a w:=by
 simp only[aM,decide_eq_true_eq]at b;exact nK hi b.1 b.2.1 b.2.2.1 b.2.2.2 e f g h
def vS{P:aQ}{w:V}{o:aH}{a:Act}{K:Act→V→Prop}{Q:gD→Act→V→Prop}(s x:aP)(t:aN)
  (F:o.op=.call { callee:=.builtin .append,args:= #[s,x],argTypes:= #[t,t] })
  (base:Nat) (e:aN) (i:fV) (z:Z) (size bytes:Nat) (H:P.underlying t=I (.slice e)) (hi:P.info? e=I i) (S:i.zero=I z)
  (g:i.size=size) (q:i.bytes=bytes) (y:z.cells.size=size) (B:0<size)
  (v:Z) (n:Nat) (C:List Z) (L:a.eval s=v) (b:w.ownsRow base e size v n C)
  (ao:Option aB) (m c:Nat) (news:List Z) (N:a.eval x=.slice ao m c) (R:news.length=m*size) (d:Rd w ao news) (T:∀u∈news,u.oneCell'=O)
  (E:n+m≤maxLen) (f:(n+m)*bytes≤140737488355328) (k:base≤w.heap.size)
  (h:∀v' w',w'.ownsRow base e size v' (n+m) (C++news)→w.grownBy w' v.ownBlock→(v'.ownBlock=v.ownBlock∨v'.ownBlock=I w.heap.size)→K (a.put o.dst v') w'):ej P o a w K Q:=by
 rcases ao with _ | W
 ·have hm:news=[]:=by
   cases news with
   | nil=>rfl
   | cons u r=>obtain⟨a,l,_⟩:=d 0 u rfl;cases l
  subst hm
  have hm:m=0:=by
   have:m*size=0:=by simpa using R.symm
   rcases Nat.mul_eq_zero.1 this with h | h<;>omega
  subst hm;have p:=nD (P:=P) w base t o.type e i size H hi v n C b c;unfold ej;simp[bv,F,il,iO,fp,L,N,p,cT];exact h v w (by simpa using b) (gF _ _) (.inl rfl)
 ·obtain⟨v',w',X,h2,h3,_,h5⟩:=run_append_own_at (P:=P) w base t o.type e i _ size bytes H hi S g q y B v n _ b W m c news R (fun j u hj=>by obtain⟨a',l,hc⟩:=d j u hj;injection l with l;subst l;exact hc) T E f k
  unfold ej bv;simp only[F,il,iO,fp,Sem.run_bind,Sem.run_pure,Result.andThen_ok,List.map_toArray,List.map_cons,List.map_nil,L,N,X];exact h v' w' h2 h3 h5
def EL.rQ{α:Type}(L:EL α){w:V}{o:aH}{a:Act}{K:Act→V→Prop}{Q:gD→Act→V→Prop}(s x:aP)
  (C:o.op=.call { callee:=.builtin .append,args:= #[s,x],argTypes:= #[L.lt,L.lt] })
  (base:Nat) (v:Z) (l:List α) (E:a.eval s=v) (j:L.own w base v l) (y:α) (cs:Array Z) (p:cs.toList=L.f y) (b:Nat) (F:w.heap.size=b)
  (H:a.eval x=.slice (I ⟨b,0,J⟩) 1 1) (n:Nat) (q:l.length=n) (N:n<100000000) (f:base≤w.heap.size)
  (h:∀ao c w',L.own w' base (.slice ao (n+1) c) (l++ [y])→ae base w w'→(w.alloc (.cells cs L.e)).grownBy w' v.ownBlock→K (a.put o.dst (.slice ao (n+1) c)) w'):ej M o a (w.alloc (.cells cs L.e)) K Q:=by
 subst F;subst q;have hi:=L.info
 cases d: prog.info? L.e with
 | none=>rw[d]at hi;cases hi
 | some i=>
  rw[d]at hi;simp only[dl,bU,Prod.mk.injEq]at hi;obtain⟨k,r,t⟩:=hi
  cases g:i.zero with
  | none=>rw[g]at k;cases k
  | some z=>
   rw[g]at k;simp only[dl,bU]at k;have e:L.own (w.alloc (.cells cs L.e)) base v l:=j.keep ((aD _ _).alloc (G _) _) (G _);have m:=L.few;have hm:(l.length+1)*L.I8≤140737488355328:=aa (fs (show l.length+1≤100000000 by omega) m) aC;refine vS s x L.lt C base L.e i z L.E L.I8 L.und d g r t k L.pos v l.length (ca L.f l) E e (I ⟨w.heap.size,0,J⟩) 1 1 (L.f y) H (by rw[L.len,Nat.one_mul]) (by rw[←p];exact MU w _ rfl cs L.e) (L.one y) (by unfold maxLen;omega) hm kc ?_
   intro P w' u B R;obtain⟨ao,c,rfl,-,-⟩:=bY u;refine h ao c w' ?_ (((aD _ _).alloc f _).grown B kc (k_ e)) B;show w'.ownsRow base L.e L.E _ (l++ [y]).length (ca L.f (l++ [y]));rw[ay,jS,tf];exact u
structure gK(p q:Nat)(w w':V):Prop where
 os:w'.os=w.os
 tape:w'.tape=w.tape
 output:w'.output=w.output
 size:w.heap.size≤w'.heap.size
 block:∀k,k<w.heap.size→k≠p→k≠q→w'.heap[k]?=w.heap[k]?
def But.two{p q:Nat}{w w':V}(h:But p w w'):gK p q w w':=⟨h.os,h.tape,h.output,h.size,fun k a b _=>h.block k a b⟩
def gK.trans{p q:Nat}{a b c:V}(h:gK p q a b)(k:gK p q b c):gK p q a c:=
 ⟨k.os.trans h.os,k.tape.trans h.tape,k.output.trans h.output,aa h.size k.size,fun i hi d e=>(k.block i (ac hi h.size) d e).trans (h.block i hi d e)⟩
def gK.set{p q:Nat}(w:V)(o:Nat)(v:Z):gK p q w (w.setCell ⟨q,o,J⟩ v):=
 ⟨rfl,rfl,rfl,by simp[aV],fun k _ _ a=>Below.heap_setCell _ _ _ _ a⟩
def gK.then{p q C:Nat}{a b c:V}(h:gK p q a b)(k:ae C b c)(f:a.heap.size≤C):gK p q a c:=
 ⟨k.os.trans h.os,k.tape.trans h.tape,k.output.trans h.output,aa h.size k.size,fun i hi d e=>(k.block i A).trans (h.block i hi d e)⟩
def gK.below{p q:Nat}{w w':V}(h:gK p q w w'){B:Nat}(a:B≤w.heap.size)(b:B≤p)(c:B≤q):ae B w w':=
 ⟨h.os,h.tape,h.output,h.size,fun k d=>h.block k A A A⟩
def PS(a:aB)(n c:Nat)(w:V):(dr eG 31 (.slice (I a) n c) (.slice J 0 0)).run M w=.ok (.bool U) w:=aj
def N_(n c:Nat)(w:V):(dr eG 31 (.slice J n c) (.slice J 0 0)).run M w=.ok (.bool O) w:=aj
def CI(w:V)(v:Z)(l:List _)(h:cc dz.f dz.E w v l)(n:l.length<100000000):ar M 55 #[v] w (CC dz w l):=by
 obtain⟨ao,cap,rfl,j,hm⟩:=Sl.shape h;rcases ao with _ | k
 ·have c:l=[]:=by
   obtain⟨_,o,m,p,_,_,q,_⟩:=h;injection p with r u x;subst r;exact List.eq_nil_of_length_eq_zero (q rfl).1
  subst c;have a:= N_ 0 cap;clear n
  go_enter func55,ntmps55
  go_wp2;go_ret;exact⟨_,rfl,dz.nil _ _,aD _ _⟩
 ·have d:=Sl.rd h
  have a:= PS k l.length cap
  go_enter func55,ntmps55
  go_wp2_with ((with_reducible refine aT 7 ?_);refine dz.nI rfl _ _ rfl w.heap.size _ [] rfl (gP _ _ _ _ dz.E #[] 0 rfl (G _) A eZ) (I k) l.length cap l rfl rfl (d.alloc _) kc bW ?_;intro y s e f)
  have i:ae w.heap.size w s:=((aD w.heap.size w).alloc (G _) _).grown f (by first | (simp;done) | (simp;omega)) (fun g t=>(by have b:I w.heap.size=I g:=t;injection b with b;omega));go_ret;exact⟨_,rfl,e,i⟩
def vn(md:iN)(ops:Array aH)(l:Array Bool)(i:Nat)(a:List Nat):Bool:=
 a.all fun d=>l.getD d O==U&&d != i&&(match ops[d]? with
  | some o=>o.after.any fun e=>cU md e&&(e.on==i||a.contains e.on)
  | none=>U)
section
variable {P:aQ} {ops:Array aH} {Q:gD→Act→V→Prop} {md:iN} {S:V→Prop} {s:Nat}
theorem rR{l:Array Bool}{i d:Nat}{n:List Nat}(h:vn md ops l i n=O)(g:d∈n):l.getD d O=U∧d≠i∧∃o,ops[d]?=I o∧∃e∈o.after,cU md e=O∧(e.on=i∨e.on∈n):=by
 have c:=kV.1 h d g;simp only[aM,beq_iff_eq,bne_iff_ne,ne_eq]at c;obtain⟨⟨j,k⟩,a⟩:=c;refine⟨j,k,?_⟩
 cases f:ops[d]? with
 | none=>rw[f]at a;cases a
 | some o=>
  rw[f]at a;simp only at a;rw[vQ]at a;obtain⟨e,m,b⟩:=a;rw[aM]at b;refine⟨o,rfl,e,m,b.1,?_⟩;rcases Bool.or_eq_true _ _▸b.2 with h | h
  ·exact .inl (by simpa using h)
  ·exact .inr (by simpa using h)
theorem G6{l:Array Bool}{i j:Nat}{e:List Nat}(h:vn md ops l i e=O)(b:j∉e):vn md ops (l.setIfInBounds j O) i e=O:=by
 refine kV.2 fun d a=>?_
 have c:=kV.1 h d a;rw[gA O (show j≠d by rintro rfl;exact b a)];exact c
theorem G7{i:Nat}{F:aH}{v:Z}{h0:List Nat}(hi:ops[i]?=I F)(u:∀(j:Nat)(o:aH) cs b,ops[j]?=I o→o.op≠.select cs b)
  (hQ:∀c a w,Q (.panic c) (a.put F.dst v) w→Q (.panic c) a w) (y:s∈h0) (b0:i∉h0):
  ∀(n:Nat)(l:Array Bool)(a:Act)(w:V),
   (∀j z,ops[j]?=I z→j≠i→l.getD j O=U→(∀e∈z.after,cU md e=O→e.on≠i)→F.apart ops z=O)→
   i∈bj md ops l→vn md ops l i h0=O→kJ P ops S F v a→S w→
   fN P md ops Q S s n (l.setIfInBounds i O) (a.put F.dst v) w→fN P md ops Q S s (n+1) l a w:=by
 have c0:i≠s:=fun e=>b0 (e▸y)
 intro n
 induction n with
 | zero=>
  intro l a w _ B _ hy K H;refine⟨fun h=>(by rw[h]at B;cases B),fun j hj=>?_⟩;by_cases f:j=i
  ·subst f;exact hy.wpOp hi K ⟨fun _=>K,H⟩
  ·have h1:=kg hj f
   rw[H.1]at h1
   cases h1
 | succ n ih=>
  intro l a w p B m hy K H;refine⟨fun h=>(by rw[h]at B;cases B),fun j hj=>?_⟩;by_cases f:j=i
  ·subst f;exact hy.wpOp hi K ⟨fun _=>K,H⟩
  have L:=(mem_ready.1 B).1
  have N:l.getD i U≠O:=by
   intro h;rcases aL i l.size with C | E
   ·simp[C]at L h;rw[L]at h;cases h
   ·simp[fa E]at h
  obtain⟨R,z,r,x⟩:=mem_ready.1 hj
  have t:j∉h0:=by
   intro t;obtain⟨_,_,o,ho,e,he,hb,g⟩:=rR m t;rw[r]at ho;injection ho with ho;subst ho;have d:=x e he hb;rcases g with g | g
   ·exact N (g▸d)
   ·have h2:=(rR m g).1
    rcases aL e.on l.size with C | E
    ·simp[C]at h2 d;rw[h2]at d;cases d
    ·simp[fa E]at d
  have d0:j≠s:=fun e=>t (e▸y)
  have e0:l.getD s O=U:=(rR m y).1;have T:∀e∈z.after,cU md e=O→e.on≠i:=fun e he hb g=>N (g▸x e he hb)
  have h2:=Bu r (p j z r f R T) (fun cs b=>u i F cs b hi) (fun cs b=>u j z cs b r) hQ hy (H.2 j (kg hj f));refine sK (fun a' w' k=>?_) h2;have hc:((l.setIfInBounds i O).setIfInBounds j O).getD s O=U:=by rw[gA O d0,gA O c0];exact e0
  have W:=k.2.1 hc;refine⟨fun _=>W,ih (l.setIfInBounds j O) a' w' (fun q oq hq f0 X g0=>?_) (kg B (jh f)) (G6 m t) k.1 W ?_⟩
  ·refine p q oq hq f0 ?_ g0
   by_cases a0:j=q
   ·subst a0;exact R
   ·rw[gA O a0]at X;exact X
  ·rw[jq _ _ f];exact k.2.2
theorem oz(p:List Nat){i:Nat}{e:aH}{v:Z}{n:Nat}{l:Array Bool}{a:Act}{w:V}(hi:ops[i]?=I e)(b:fS ops=O)
  (g:jA md ops l i=O) (j:(bj md ops l).contains i=O) (d:vn md ops l i p=O) (f:(p.contains s&&!p.contains i)=O)
  (k:∀c a w,Q (.panic c) (a.put e.dst v) w→Q (.panic c) a w) (m:kJ P ops S e v a) (o:S w)
  (h:fN P md ops Q S s n (l.setIfInBounds i O) (a.put e.dst v) w):fN P md ops Q S s (n+1) l a w:=by
 simp only[aM,fm]at f;exact G7 hi (nA b) k (by simpa using f.1) (by simpa using f.2) n l a w (qu hi g) (by simpa using j) d m o h
end
section
variable {P:aQ} {ops:Array aH} {Q:gD→Act→V→Prop} {md:iN} {S:V→Prop} {s n:Nat} {l:Array Bool} {a:Act} {w:V} {oi os:aH}
theorem stP(i:Nat)(v:Z)(d:S w)(h:fN P md ops Q S s n (l.setIfInBounds i O) (a.put oi.dst v) w)(hi:ops[i]?=I oi:=by exact rfl)
  (b:(fS ops&&(jA md ops l i&&((bj md ops l).contains i&&decide (i≠s))))=O:=by kernel_rfl)
  (e:∀c a w,Q (.panic c) (a.put oi.dst v) w→Q (.panic c) a w:=by exact fun _ _ _ h=>h)
  (f:kJ P ops (fun _=>True) oi v a:=by exact .inl ⟨by kernel_rfl,fun w' _=>by go_simp⟩):fN P md ops Q S s (n+1) l a w:=by
 simp only[aM,decide_eq_true_eq]at b;exact nK hi b.1 b.2.1 b.2.2.1 b.2.2.2 e f d h
theorem iI(i:Nat)(d:S w)(h:fN P md ops Q S s n (l.setIfInBounds i O) (a.put oi.dst fq) w)(hi:ops[i]?=I oi:=by exact rfl)
  (b:(fS ops&&(jA md ops l i&&((bj md ops l).contains i&&decide (i≠s))))=O:=by kernel_rfl)
  (e:∀c a w,Q (.panic c) (a.put oi.dst fq) w→Q (.panic c) a w:=by exact fun _ _ _ h=>h)
  (f:dU oi (kD ops a.tmps)=U:=by kernel_rfl):fN P md ops Q S s (n+1) l a w:=by
 simp only[aM,decide_eq_true_eq]at b;exact nK hi b.1 b.2.1 b.2.2.1 b.2.2.2 e (.inr ⟨f,rfl⟩) d h
theorem dK(i:Nat)(h:ej P oi a w (fun b w'=>((l.setIfInBounds i O).getD s O=U→S w')∧fN P md ops Q S s n (l.setIfInBounds i O) b w') Q)(hi:ops[i]?=I oi:=by exact rfl)
  (c:bj md ops l=[i]:=by kernel_rfl) (d:oi.guard=J:=by exact rfl):fN P md ops Q S s (n+1) l a w:=N8 c hi d h
theorem f_(i:Nat)(h:ej P oi a w (fun b w'=>((l.setIfInBounds i O).getD s O=U→S w')∧fN P md ops Q S s n (l.setIfInBounds i O) b w') Q)(hi:ops[i]?=I oi:=by exact rfl)
  (c:bj md ops l=[i]:=by kernel_rfl) (d:dU oi (kD ops a.tmps)=O:=by go_simp):fN P md ops Q S s (n+1) l a w:=Ld c hi d h
theorem jj(h:Q .normal a w)(b:bj md ops l=[]:=by kernel_rfl):fN P md ops Q S s n l a w:=Lc b h
theorem lT(i:Nat)(v:Z)(hi:ops[i]?=I oi)(d:ops[s]?=I os)(f:kJ P ops S oi v a)(g:S w)(h:fN P md ops Q S s n (l.setIfInBounds i O) (a.put oi.dst v) w)
  (b:(fS ops&&(jA md ops l i&&((bj md ops l).contains i&&(!l.getD s O&&(os.after.any (fun e=>cU md e&&e.on==i)&&decide (i≠s))))))=O:=by kernel_rfl)
  (j:∀c a w,Q (.panic c) (a.put oi.dst v) w→Q (.panic c) a w:=by exact fun _ _ _ h=>h):fN P md ops Q S s (n+1) l a w:=by
 simp only[aM,fm,decide_eq_true_eq]at b;exact CH hi d b.1 b.2.1 b.2.2.1 b.2.2.2.1 b.2.2.2.2.1 b.2.2.2.2.2 j f g h
theorem iA(g:List Nat)(i:Nat)(v:Z)(hi:ops[i]?=I oi)(d:kJ P ops S oi v a)(e:S w)(h:fN P md ops Q S s n (l.setIfInBounds i O) (a.put oi.dst v) w)
  (b:(fS ops&&(jA md ops l i&&((bj md ops l).contains i&&(vn md ops l i g&&(g.contains s&&!g.contains i)))))=O:=by kernel_rfl)
  (f:∀c a w,Q (.panic c) (a.put oi.dst v) w→Q (.panic c) a w:=by exact fun _ _ _ h=>h):fN P md ops Q S s (n+1) l a w:=by
 rw[aM,aM,aM,aM]at b;exact oz g hi b.1 b.2.1 b.2.2.1 b.2.2.2.1 b.2.2.2.2 f d e h
end
theorem PT(w:V):(dr eG 34 (.slice J 0 0) (.slice J 0 0)).run M w=.ok (.bool O) w:=aj
theorem Le(w:V):ar M 191 #[.slice J 0 0] w (fun e w'=>e=.returned (.slice J 0 0)∧w'=w):=by
 have a:= PT
 go_enter func191,ntmps191
 go_wp2;go_ret;exact⟨rfl,rfl⟩
theorem PU(w:V):(dr eG 35 (.slice J 0 0) (.slice J 0 0)).run M w=.ok (.bool O) w:=aj
theorem Lf(w:V):ar M 192 #[.slice J 0 0] w (fun e w'=>e=.returned (.slice J 0 0)∧w'=w):=by
 have a:= PU
 go_enter func192,ntmps192
 go_wp2;go_ret;exact⟨rfl,rfl⟩
theorem PW(w:V):(dr eG 36 (.slice J 0 0) (.slice J 0 0)).run M w=.ok (.bool O) w:=aj
theorem Lg(w:V):ar M 193 #[.slice J 0 0] w (fun e w'=>e=.returned (.slice J 0 0)∧w'=w):=by
 have a:= PW
 go_enter func193,ntmps193
 go_wp2;go_ret;exact⟨rfl,rfl⟩
theorem SI(w:V):(dr eG 39 (.slice J 0 0) (.slice J 0 0)).run M w=.ok (.bool O) w:=aj
theorem Oa(w:V):ar M 115 #[.slice J 0 0] w (fun e w'=>e=.returned (.slice J 0 0)∧w'=w):=by
 have a:= SI
 go_enter func115,ntmps115
 go_wp2;go_ret;exact⟨rfl,rfl⟩
theorem PX(w:V):(dr eG 49 (.slice J 0 0) (.slice J 0 0)).run M w=.ok (.bool O) w:=aj
theorem Lh(w:V):ar M 131 #[.slice J 0 0] w (fun e w'=>e=.returned (.slice J 0 0)∧w'=w):=by
 have a:= PX
 go_enter func131,ntmps131
 go_wp2;go_ret;exact⟨rfl,rfl⟩
theorem dZ{w:V}{b:Nat}{a c d e f g i:Z}{t:aN}(h:w.heap[b]?=I (.cells #[a,c,d,e,f,g,i] t (0,0))):
  w.cell? ⟨b,0,J⟩=I a∧w.cell? ⟨b,1,J⟩=I c∧w.cell? ⟨b,2,J⟩=I d∧w.cell? ⟨b,3,J⟩=I e∧w.cell? ⟨b,4,J⟩=I f∧w.cell? ⟨b,5,J⟩=I g∧w.cell? ⟨b,6,J⟩=I i:=by
 refine⟨?_,?_,?_,?_,?_,?_,?_⟩<;>simp[an,h]
theorem Li(w:V):ar M 133 #[.agg ka] w (fun e w'=>e=.returned (.agg ka)∧ae w.heap.size w w'):=by
 obtain⟨W,g⟩:∃W,(w.alloc (.cells ka 38)).alloc (.cells ka 38)=W:=⟨_,rfl⟩;obtain⟨b,h⟩:∃b,w.heap.size=b:=⟨_,rfl⟩;have k:Hid (ae b w W):=D (by rw[←g,←h];exact((aD _ _).alloc (G _) _).alloc bW _);have p:Hid (W.heap[b]?=I (.cells ka 38 (0,0))):=D (by rw[←g,←h];exact ce _ _ _);have a:Hid (W.heap[b+1]?=I (.cells ka 38 (0,0))):=D (by rw[←g,←h];exact bO _ _ _);have q:=D g;have r:=D h;clear g h
 go_enter func133,ntmps133
 go_upto_region 1 with fail
 rw[q.o,r.o];clear q;obtain⟨i,f⟩:∃i,W.drew=i:=⟨_,rfl⟩;have k:Hid (ae b w i):=D (by rw[←f];exact k.o.drew);have a:Hid (i.heap[b+1]?=I (.cells ka 38 (0,0))):=D (by rw[←f];exact a.o);have d:i.heap[b]?=I (.cells ka 38 (0,0)):=by rw[←f];exact p.o
 refine bT 10 (fun w'=>w'.heap[b]?=I (.cells ka 38 (0,0))) aj ?_;rw[f];clear f p;refine stP 0 (.pointer (I ⟨b,4,J⟩)) d ?_;refine stP 3 (.pointer (I ⟨b,5,J⟩)) d ?_;refine stP 6 (.pointer (I ⟨b,6,J⟩)) d ?_;refine lT 1 (.slice J 0 0) rfl rfl (.inl ⟨rfl,fun w' j=>?_⟩) d ?_
 ·obtain⟨c0,c1,c2,l,m,n,o⟩:=dZ j
  go_simp
 refine lT 4 (.slice J 0 0) rfl rfl (.inl ⟨rfl,fun w' j=>?_⟩) d ?_
 ·obtain⟨c0,c1,c2,l,m,n,o⟩:=dZ j
  go_simp
 refine lT 7 (.slice J 0 0) rfl rfl (.inl ⟨rfl,fun w' j=>?_⟩) d ?_
 ·obtain⟨c0,c1,c2,l,m,n,o⟩:=dZ j
  go_simp
 refine f_ 2 ?_;go_simp;refine(Le _).mono ?_;rintro en s ⟨rfl,c⟩;rw[c];clear c;refine⟨d,?_⟩;refine stP 9 (.pointer (I ⟨b,4,J⟩)) d ?_;refine f_ 5 ?_;go_simp;refine(Lf _).mono ?_;rintro en s ⟨rfl,c⟩;rw[c];clear c;refine⟨d,?_⟩;refine f_ 8 ?_;go_simp;refine(Lg _).mono ?_;rintro en s ⟨rfl,c⟩;rw[c];clear c;refine⟨d,?_⟩;obtain⟨c0,c1,c2,l,m,n,o⟩:=dZ d;have f4:=aq d 4;have f5:=aq d 5;have t:=aq d 6;refine dK 10 ?_;go_simp;refine dK 11 ?_;go_simp;refine dK 12 ?_;go_simp;refine dK 13 ?_;go_simp;refine dK 14 ?_;go_simp;refine jj ?_;have u:=d;obtain⟨x,y,z,B,C,E,F⟩:=dZ a.o;have H:=aq a.o 0;have K:=aq a.o 1;have L:=aq a.o 2;have N:=aq a.o 3;have P:=aq a.o 4;have Q:=aq a.o 5;have R:=aq a.o 6;go_wp2;refine au (v:=.agg ka) (by simp[results,results133,go_sem, *]) rfl ⟨rfl,?_⟩;rw[r.o]
 repeat (refine cu ?_ (by first | exact G _ | exact Nat.le_succ _) _)
 exact k.o
def Bx(w:V)(b:Nat)(cs:List Z)(t:aN):Prop:=w.heap[b]?=I (.cells ⟨cs⟩ t (0,0))
section
variable {w w':V} {b:Nat} {cs:List Z} {t:aN}
theorem Bx.st(h:Bx w b cs t)(i:Nat)(v:Z):Bx (w.setCell ⟨b,i,J⟩ v) b (cs.set i v) t:=by
 have a:w.heap[b]?=I (.cells ⟨cs⟩ t (0,0)):=h;show(w.setCell ⟨b,i,J⟩ v).heap[b]?=_;simp[aV,Array.getElem?_modify,a]
theorem Bx.has(h:Bx w b cs t)(n:Nat)(a:cs.length=n):∀i,i<n→w.cell? ⟨b,i,J⟩=I (cs.getD i fq):=by
 intro i hi;subst a;have c:w.heap[b]?=I (.cells ⟨cs⟩ t (0,0)):=h;simp[an,c,List.getD,hi]
theorem Bx.aq(h:Bx w b cs t)(i:Nat):w.frozen? ⟨b,i,J⟩=U:=by
 have a:w.heap[b]?=I (.cells ⟨cs⟩ t (0,0)):=h;simp[World.frozen?,a]
theorem Bx.keep{C:Nat}(h:Bx w b cs t)(a:ae C w w')(c:b<C):Bx w' b cs t:=(a.block b c).trans h
end
structure eo where
 v:List D3
 r:List yp
 e:List qW
 g:List D3
 s:List yq
 b:List yr
abbrev AC:=Option aB×Nat
structure dY where
 v:AC
 r:AC
 e:AC
 g:AC
 s:AC
 b:AC
def dY.l(z:dY)(c:eo):List Z:=[.slice z.v.1 c.v.length z.v.2,.slice z.r.1 c.r.length z.r.2,.slice z.e.1 c.e.length z.e.2,.slice z.g.1 c.g.length z.g.2,.slice z.s.1 c.s.length z.s.2,.slice z.b.1 c.b.length z.b.2]
structure bB(w:V)(B:Nat)(z:dY)(c:eo):Prop where
 v:iH.own w B (.slice z.v.1 c.v.length z.v.2) c.v
 r:eJ.own w B (.slice z.r.1 c.r.length z.r.2) c.r
 e:dD.own w B (.slice z.e.1 c.e.length z.e.2) c.e
 g:cn.own w B (.slice z.g.1 c.g.length z.g.2) c.g
 s:fh.own w B (.slice z.s.1 c.s.length z.s.2) c.s
 b:eV.own w B (.slice z.b.1 c.b.length z.b.2) c.b
def eo.few(c:eo)(n:Nat):Prop:=c.v.length≤n∧c.r.length≤n∧c.e.length≤n∧c.g.length≤n∧c.s.length≤n∧c.b.length≤n
section
variable {w w':V} {B:Nat} {z:dY} {c:eo}
theorem bB.keep{C:Nat}(h:bB w B z c)(a:ae C w w')(b:w.heap.size≤C):bB w' B z c:=⟨h.v.keep a b,h.r.keep a b,h.e.keep a b,h.g.keep a b,h.s.keep a b,h.b.keep a b⟩
theorem bB.to{b2:Nat}(h:bB w B z c)(a:b2≤B):bB w b2 z c:=⟨h.v.to a,h.r.to a,h.e.to a,h.g.to a,h.s.to a,h.b.to a⟩
theorem bB.put(h:bB w B z c)(p:aB)(a:p.block<B)(u:Z):bB (w.setCell p u) B z c:=⟨h.v.put p a u,h.r.put p a u,h.e.put p a u,h.g.put p a u,h.s.put p a u,h.b.put p a u⟩
theorem bB.but{p:Nat}(h:bB w B z c)(a:But p w w')(b:p<B):bB w' B z c:=⟨h.v.but a b,h.r.but a b,h.e.but a b,h.g.but a b,h.s.but a b,h.b.but a b⟩
end
def CJ:eo:=⟨[],[],[],[],[],[]⟩
def qX:dY:=⟨(J,0),(J,0),(J,0),(J,0),(J,0),(J,0)⟩
theorem bB.nil(w:V)(B:Nat):bB w B qX CJ:=⟨EL.nil _ _ _,EL.nil _ _ _,EL.nil _ _ _,EL.nil _ _ _,EL.nil _ _ _,EL.nil _ _ _⟩
def Lj(w:V)(c:eo)(en:Ending)(w':V):Prop:=∃z,en=.returned (.agg ⟨z.l c⟩)∧bB w' w.heap.size z c∧ae w.heap.size w w'
theorem ah{w:V}{b:Nat}{a c d e f g:Z}{t:aN}(h:w.heap[b]?=I (.cells #[a,c,d,e,f,g] t (0,0))):
  w.cell? ⟨b,0,J⟩=I a∧w.cell? ⟨b,1,J⟩=I c∧w.cell? ⟨b,2,J⟩=I d∧w.cell? ⟨b,3,J⟩=I e∧w.cell? ⟨b,4,J⟩=I f∧w.cell? ⟨b,5,J⟩=I g:=by
 refine⟨?_,?_,?_,?_,?_,?_⟩<;>simp[an,h]
theorem Gn{f:FuncId}(T:f= 160 ∨f= 135)(w:V)(B:Nat)(z:dY)(c:eo)(h:bB w B z c)(hf:c.few 99999999):ar M f #[.agg ⟨z.l c⟩] w (Lj w c):=by
 obtain⟨⟨r,s⟩,⟨t,rc⟩,⟨u,x⟩,⟨y,C⟩,⟨E,sc⟩,⟨F,H⟩⟩:=z;simp only[dY.l];obtain⟨W,K⟩:∃W,(w.alloc (.cells (di r c.v.length s t c.r.length rc u c.e.length x y c.g.length C E c.s.length sc F c.b.length H) 47)).alloc (.cells jR 47)=W:=⟨_,rfl⟩;obtain⟨b,o⟩:∃b,w.heap.size=b:=⟨_,rfl⟩;have j:Hid (ae b w W):=D (by rw[←K,←o];exact((aD _ _).alloc (G _) _).alloc bW _);have L:Hid (W.heap.size=b+2):=D (by rw[←K,←o];simp);have i:=D (h.keep j.o (bD o));have HK:Hid (W.heap[b]?=I (.cells (di r c.v.length s t c.r.length rc u c.e.length x y c.g.length C E c.s.length sc F c.b.length H) 47 (0,0))):=D (by rw[←K,←o];exact ce _ _ _);have d:Hid (W.heap[b+1]?=I (.cells jR 47 (0,0))):=D (by rw[←K,←o];exact bO _ _ _);have HW:=D K;have HF:=D hf;have X:=D o;clear h hf K o;rcases T with rfl | rfl
 all_goals first | go_enter func160,ntmps160 | go_enter func135,ntmps135
 all_goals
  go_upto_region 1 with fail
  rw[HW.o];rw[X.o];clear HW;obtain⟨p,k⟩:∃p,W.drew=p:=⟨_,rfl⟩;have i:Hid (bB p B ⟨(r,s),(t,rc),(u,x),(y,C),(E,sc),(F,H)⟩ c):=D (by rw[←k];exact i.o.keep ((aD _ _).drew) (G _));have j:Hid (ae b w p):=D (by rw[←k];exact j.o.drew);have a:Hid (b+2≤p.heap.size):=D (by rw[←k];exact bD L.o.symm);have d:Hid (p.heap[b+1]?=I (.cells jR 47 (0,0))):=D (by rw[←k];exact d.o);have e:p.heap[b]?=I (.cells (di r c.v.length s t c.r.length rc u c.e.length x y c.g.length C E c.s.length sc F c.b.length H) 47 (0,0)):=by rw[←k];exact HK.o
  refine bT 19 (fun w'=>w'.heap[b]?=I (.cells (di r c.v.length s t c.r.length rc u c.e.length x y c.g.length C E c.s.length sc F c.b.length H) 47 (0,0))) aj ?_;rw[k];clear k HK L;refine stP 0 (.pointer (I ⟨b,0,J⟩)) e ?_;refine lT 1 (.slice r c.v.length s) rfl rfl (.inl ⟨rfl,fun w' l=>?_⟩) e ?_
  ·obtain⟨c0,c1,c2,N,P,Q⟩:=ah l
   go_simp
  refine stP 3 (.pointer (I ⟨b,1,J⟩)) e ?_;refine lT 4 (.slice t c.r.length rc) rfl rfl (.inl ⟨rfl,fun w' l=>?_⟩) e ?_
  ·obtain⟨c0,c1,c2,N,P,Q⟩:=ah l
   go_simp
  refine stP 6 (.pointer (I ⟨b,2,J⟩)) e ?_;refine lT 7 (.slice u c.e.length x) rfl rfl (.inl ⟨rfl,fun w' l=>?_⟩) e ?_
  ·obtain⟨c0,c1,c2,N,P,Q⟩:=ah l
   go_simp
  refine stP 9 (.pointer (I ⟨b,3,J⟩)) e ?_;refine lT 10 (.slice y c.g.length C) rfl rfl (.inl ⟨rfl,fun w' l=>?_⟩) e ?_
  ·obtain⟨c0,c1,c2,N,P,Q⟩:=ah l
   go_simp
  refine stP 12 (.pointer (I ⟨b,4,J⟩)) e ?_;refine lT 13 (.slice E c.s.length sc) rfl rfl (.inl ⟨rfl,fun w' l=>?_⟩) e ?_
  ·obtain⟨c0,c1,c2,N,P,Q⟩:=ah l
   go_simp
  refine stP 15 (.pointer (I ⟨b,5,J⟩)) e ?_;refine lT 16 (.slice F c.b.length H) rfl rfl (.inl ⟨rfl,fun w' l=>?_⟩) e ?_
  ·obtain⟨c0,c1,c2,N,P,Q⟩:=ah l
   go_simp
  refine f_ 2 ?_;go_simp;refine(NQ _ _ c.v i.o.v.sl (by have:=HF.o;unfold eo.few at this;omega)).mono ?_;rintro en W2 ⟨R,rfl,g,b9⟩;obtain⟨a0,k0,rfl,-,-⟩:=g.shape;have m:=D (g.to a.o);have e:=(b9.block b (by have:=a.o;omega)).trans e;have d:=D ((b9.block (b+1) (by have:=a.o;omega)).trans d.o);have i:=D (i.o.keep b9 (G _));have j:=D (j.o.trans (b9.mono (by have:=a.o;omega)));have a:=D (aa a.o b9.size);clear g b9;refine⟨e,?_⟩;refine f_ 5 ?_;go_simp;refine(NR _ _ c.r i.o.r.sl (by have:=HF.o;unfold eo.few at this;omega)).mono ?_;rintro en W3 ⟨R,rfl,g,b9⟩;obtain⟨a1,k1,rfl,-,-⟩:=g.shape;have n:=D (g.to a.o);have e:=(b9.block b (by have:=a.o;omega)).trans e;have d:=D ((b9.block (b+1) (by have:=a.o;omega)).trans d.o);have i:=D (i.o.keep b9 (G _));have j:=D (j.o.trans (b9.mono (by have:=a.o;omega)));have a:=D (aa a.o b9.size);have m:=D (m.o.keep b9 (G _));clear g b9;refine⟨e,?_⟩;refine f_ 8 ?_;go_simp;refine(NS _ _ c.e i.o.e.sl (by have:=HF.o;unfold eo.few at this;omega)).mono ?_;rintro en W4 ⟨R,rfl,g,b9⟩;obtain⟨a2,k2,rfl,-,-⟩:=g.shape;have q:=D (g.to a.o);have e:=(b9.block b (by have:=a.o;omega)).trans e;have d:=D ((b9.block (b+1) (by have:=a.o;omega)).trans d.o);have i:=D (i.o.keep b9 (G _));have j:=D (j.o.trans (b9.mono (by have:=a.o;omega)));have a:=D (aa a.o b9.size);have m:=D (m.o.keep b9 (G _));have n:=D (n.o.keep b9 (G _));clear g b9;refine⟨e,?_⟩;refine f_ 11 ?_;go_simp;refine(NV _ _ c.g i.o.g.sl (by have:=HF.o;unfold eo.few at this;omega)).mono ?_;rintro en W5 ⟨R,rfl,g,b9⟩;obtain⟨a3,k3,rfl,-,-⟩:=g.shape;have S:=D (g.to a.o);have e:=(b9.block b (by have:=a.o;omega)).trans e;have d:=D ((b9.block (b+1) (by have:=a.o;omega)).trans d.o);have i:=D (i.o.keep b9 (G _));have j:=D (j.o.trans (b9.mono (by have:=a.o;omega)));have a:=D (aa a.o b9.size);have m:=D (m.o.keep b9 (G _));have n:=D (n.o.keep b9 (G _));have q:=D (q.o.keep b9 (G _));clear g b9;refine⟨e,?_⟩;refine f_ 14 ?_;go_simp;refine(NT _ _ c.s i.o.s.sl (by have:=HF.o;unfold eo.few at this;omega)).mono ?_;rintro en W6 ⟨R,rfl,g,b9⟩;obtain⟨a4,k4,rfl,-,-⟩:=g.shape;have O4:=D (g.to a.o);have e:=(b9.block b (by have:=a.o;omega)).trans e;have d:=D ((b9.block (b+1) (by have:=a.o;omega)).trans d.o);have i:=D (i.o.keep b9 (G _));have j:=D (j.o.trans (b9.mono (by have:=a.o;omega)));have a:=D (aa a.o b9.size);have m:=D (m.o.keep b9 (G _));have n:=D (n.o.keep b9 (G _));have q:=D (q.o.keep b9 (G _));have S:=D (S.o.keep b9 (G _));clear g b9;refine⟨e,?_⟩;refine f_ 17 ?_;go_simp;refine(NU _ _ c.b i.o.b.sl (by have:=HF.o;unfold eo.few at this;omega)).mono ?_;rintro en W7 ⟨R,rfl,g,b9⟩;obtain⟨a5,k5,rfl,-,-⟩:=g.shape;have O5:=D (g.to a.o);have e:=(b9.block b (by have:=a.o;omega)).trans e;have d:=D ((b9.block (b+1) (by have:=a.o;omega)).trans d.o);have i:=D (i.o.keep b9 (G _));have j:=D (j.o.trans (b9.mono (by have:=a.o;omega)));have a:=D (aa a.o b9.size);have m:=D (m.o.keep b9 (G _));have n:=D (n.o.keep b9 (G _));have q:=D (q.o.keep b9 (G _));have S:=D (S.o.keep b9 (G _));have O4:=D (O4.o.keep b9 (G _));clear g b9;refine⟨e,?_⟩;refine stP 18 (.agg (di a0 c.v.length k0 a1 c.r.length k1 a2 c.e.length k2 a3 c.g.length k3 a4 c.s.length k4 a5 c.b.length k5)) e ?_;obtain⟨g0,g1,g2,g3,g4,g5⟩:=ah d.o;have f0:=aq d.o 0;have f1:=aq d.o 1;have f2:=aq d.o 2;have f3:=aq d.o 3;have f4:=aq d.o 4;have f5:=aq d.o 5;refine dK 19 ?_;go_simp;refine jj ?_;go_wp2;refine au (v:=.agg (di a0 c.v.length k0 a1 c.r.length k1 a2 c.e.length k2 a3 c.g.length k3 a4 c.s.length k4 a5 c.b.length k5)) (by first | simp[results,results160,go_sem, *] | simp[results,results135,go_sem, *]) rfl ?_;refine⟨⟨(a0,k0),(a1,k1),(a2,k2),(a3,k3),(a4,k4),(a5,k5)⟩,rfl,?_,?_⟩
  ·rw[X.o]
   refine bB.to (b2:=b) (B:=b+2) ?_ A;have HH:bB W7 (b+2) ⟨(a0,k0),(a1,k1),(a2,k2),(a3,k3),(a4,k4),(a5,k5)⟩ c:=⟨m.o,n.o,q.o,S.o,O4.o,O5.o⟩;exact(((((HH.put ⟨b+1,0,J⟩ (bu _) _).put ⟨b+1,1,J⟩ (bu _) _).put ⟨b+1,2,J⟩ (bu _) _).put ⟨b+1,3,J⟩ (bu _) _).put ⟨b+1,4,J⟩ (bu _) _).put ⟨b+1,5,J⟩ (bu _) _
  ·rw[X.o]
   repeat (refine cu ?_ (by show b≤b+1;omega) _)
   exact j.o
theorem nL(w:V)(B:Nat)(z:dY)(c:eo)(h:bB w B z c)(a:c.few 99999999):ar M 160 #[.agg ⟨z.l c⟩] w (Lj w c):=Gn (.inl rfl) w B z c h a
theorem Lk(w:V)(B:Nat)(z:dY)(c:eo)(h:bB w B z c)(a:c.few 99999999):ar M 135 #[.agg ⟨z.l c⟩] w (Lj w c):=Gn (.inr rfl) w B z c h a
structure vT{α:Type}(w:V)(fn:Nat)(caps:Array Z)(f:α→List Z):Prop where
 en:∀(args:Array Z)(W:V),(gH fn args).run M W=.ok (.enter fn args) W
 ask:∀W,ae w.heap.size w W→∀x,ar M fn (#[.agg (f x).toArray]++caps) W fun e W'=>(∃n,e=.returned (.int .i64 n))∧ae W.heap.size W W'
def rS(w:V)(n:Nat)(en:Ending)(w':V):Prop:=∃(i:Nat)(q:Bool),en=.returned (.tuple #[.int .i64 i,.bool q])∧Hid (i≤n∧(q=O→i<n))∧Hid (ae w.heap.size w w')
def qY(a:Nat):rH (a:Int) 2=((a/2:Nat):Int):=(Int.ofNat_tdiv a 2).symm
def yu{i j:Nat}(h:i<j):i≤(i+j)/2∧(i+j)/2<j:=A
def PY(v:Z)(l:List yp)(fn:Nat)(n:Array Z)(w:V)(h:cc eJ.f eJ.E w v l)(L:l.length<100000000)(y:vT w fn n nw):
  ar M 274 #[v,.func (.func fn) #[] n] w (rS w l.length):=by
 obtain⟨ao,cap,rfl,N,hm⟩:=Sl.shape h;have HF:=D y.ask;have he:=y.en;have z:=D L;clear y L
 go_enter func274,ntmps274
 go_wp2
 go_loopw[6,7] (fun B vj wr=>∃i j:Nat,B=.int .i64 i∧vj=.int .i64 j∧Hid (i≤j∧j≤l.length)∧ae w.heap.size w wr) (fun B vj _=>(bp vj).toNat-(bp B).toNat)
 case atStart=>exact⟨0,l.length,rfl,rfl,D ⟨aw _,G _⟩,aD _ _⟩
 case round=>
  obtain⟨i,j,rfl,rfl,d,k⟩:=hrel;rcases aL i j with o | C
  ·have P:decide (i<j)=O:=by simpa using o
   obtain⟨m,p⟩:∃m,(i+j)/2=m:=⟨_,rfl⟩;have s:Hid (i≤m∧m<j):=D (by rw[←p];exact yu o);have E:m<l.length:=by have:=s.o;have:=d.o;omega
   have e2:bi ((i:Int)+(j:Int))=(i:Int)+(j:Int):=ag _ (by have:=d.o;have:=z.o;omega);have Q:rH ((i:Int)+(j:Int)) 2=(m:Int):=by rw[←p];exact qY (i+j)
   have R:bi (m:Int)=m:=ag _ (by have:=z.o;omega);obtain⟨b,a,rfl,F,c⟩:=cc.at h eJ.len eJ.pos k (G _) m E;have q:=D (HF.o wr k l[m]);generalize l[m]=x at*;obtain⟨S,T,W,X,x4,x5,x6⟩:=x;have c0:wr.cell? ⟨b,a+m*7,J⟩=I _:=c 0 _ rfl;have c1:wr.cell? ⟨b,a+m*7+1,J⟩=I _:=c 1 _ rfl;have c2:wr.cell? ⟨b,a+m*7+2,J⟩=I _:=c 2 _ rfl;have c3:wr.cell? ⟨b,a+m*7+3,J⟩=I _:=c 3 _ rfl;have c4:wr.cell? ⟨b,a+m*7+4,J⟩=I _:=c 4 _ rfl;have c5:wr.cell? ⟨b,a+m*7+5,J⟩=I _:=c 5 _ rfl;have c6:wr.cell? ⟨b,a+m*7+6,J⟩=I _:=c 6 _ rfl;simp only[nw]at q;have H:(m:Int)<l.length:=A
   have E5:Hid (bi ((m:Int)+1)=(m:Int)+1):=D (ag _ (by have:=z.o;omega));clear c HF o p;go_wp2_with fail
   refine q.o.mono ?_;rintro e w1 ⟨⟨r,rfl⟩,g⟩;have t:=k.trans (g.mono k.size);have e5:=E5.o;clear q g Q R
   cases hq:decide (r<0)with
   | true=>
    go_wp2;go_roundw
    case rel=>exact⟨m+1,j,by go_num,by go_num,D (by have:=s.o;have:=d.o;omega),t⟩
    case measure=>have:=s.o;simp[bp];omega
   | false=>
    go_wp2;go_roundw
    case rel=>exact⟨i,m,by go_num,by go_num,D (by have:=s.o;have:=d.o;omega),t⟩
    case measure=>have:=s.o;simp[bp];omega
  ·have P:decide (i<j)=U:=by simp;omega
   clear C;rcases aL i l.length with f | f
   ·obtain⟨b,a,rfl,F,c⟩:=cc.at h eJ.len eJ.pos k (G _) i f
    have q:=D (HF.o wr k l[i]);generalize l[i]=x at*;obtain⟨S,T,W,X,x4,x5,x6⟩:=x;have c0:wr.cell? ⟨b,a+i*7,J⟩=I _:=c 0 _ rfl;have c1:wr.cell? ⟨b,a+i*7+1,J⟩=I _:=c 1 _ rfl;have c2:wr.cell? ⟨b,a+i*7+2,J⟩=I _:=c 2 _ rfl;have c3:wr.cell? ⟨b,a+i*7+3,J⟩=I _:=c 3 _ rfl;have c4:wr.cell? ⟨b,a+i*7+4,J⟩=I _:=c 4 _ rfl;have c5:wr.cell? ⟨b,a+i*7+5,J⟩=I _:=c 5 _ rfl;have c6:wr.cell? ⟨b,a+i*7+6,J⟩=I _:=c 6 _ rfl;simp only[nw]at q;have H:(i:Int)<l.length:=A
    have e6:decide (i<l.length)=O:=by simpa using f
    have u:=D f;clear c HF f;go_wp2_with fail
    refine q.o.mono ?_;rintro e w1 ⟨⟨r,rfl⟩,g⟩;have K:=D (k.trans (g.mono k.size));clear q g;go_wp2
    go_ret2
    exact⟨i,_,rfl,D ⟨dN u.o,fun _=>u.o⟩,K⟩
   ·have e6:decide (i<l.length)=U:=by simp;omega
    have u:Hid (i≤l.length):=D (aa d.o.1 d.o.2);have HB:=D k;clear f HF;go_wp2
    go_ret2
    exact⟨i,_,rfl,D ⟨u.o,fun h=>by cases h⟩,HB⟩
def PZ(v:Z)(l:List qW)(fn:Nat)(n:Array Z)(w:V)(h:cc dD.f dD.E w v l)(L:l.length<100000000)(y:vT w fn n kv):
  ar M 229 #[v,.func (.func fn) #[] n] w (rS w l.length):=by
 obtain⟨ao,cap,rfl,N,hm⟩:=Sl.shape h;have HF:=D y.ask;have he:=y.en;have z:=D L;clear y L
 go_enter func229,ntmps229
 go_wp2
 go_loopw[6,7] (fun B vj wr=>∃i j:Nat,B=.int .i64 i∧vj=.int .i64 j∧Hid (i≤j∧j≤l.length)∧ae w.heap.size w wr) (fun B vj _=>(bp vj).toNat-(bp B).toNat)
 case atStart=>exact⟨0,l.length,rfl,rfl,D ⟨aw _,G _⟩,aD _ _⟩
 case round=>
  obtain⟨i,j,rfl,rfl,d,k⟩:=hrel;rcases aL i j with o | C
  ·have P:decide (i<j)=O:=by simpa using o
   obtain⟨m,p⟩:∃m,(i+j)/2=m:=⟨_,rfl⟩;have s:Hid (i≤m∧m<j):=D (by rw[←p];exact yu o);have E:m<l.length:=by have:=s.o;have:=d.o;omega
   have e2:bi ((i:Int)+(j:Int))=(i:Int)+(j:Int):=ag _ (by have:=d.o;have:=z.o;omega);have Q:rH ((i:Int)+(j:Int)) 2=(m:Int):=by rw[←p];exact qY (i+j)
   have R:bi (m:Int)=m:=ag _ (by have:=z.o;omega);obtain⟨b,a,rfl,F,c⟩:=cc.at h dD.len dD.pos k (G _) m E;have q:=D (HF.o wr k l[m]);generalize l[m]=x at*;obtain⟨S,T,W,X,x4,x5⟩:=x;have c0:wr.cell? ⟨b,a+m*6,J⟩=I _:=c 0 _ rfl;have c1:wr.cell? ⟨b,a+m*6+1,J⟩=I _:=c 1 _ rfl;have c2:wr.cell? ⟨b,a+m*6+2,J⟩=I _:=c 2 _ rfl;have c3:wr.cell? ⟨b,a+m*6+3,J⟩=I _:=c 3 _ rfl;have c4:wr.cell? ⟨b,a+m*6+4,J⟩=I _:=c 4 _ rfl;have c5:wr.cell? ⟨b,a+m*6+5,J⟩=I _:=c 5 _ rfl;simp only[kv]at q;have H:(m:Int)<l.length:=A
   have E5:Hid (bi ((m:Int)+1)=(m:Int)+1):=D (ag _ (by have:=z.o;omega));clear c HF o p;go_wp2_with fail
   refine q.o.mono ?_;rintro e w1 ⟨⟨r,rfl⟩,g⟩;have t:=k.trans (g.mono k.size);have e5:=E5.o;clear q g Q R
   cases hq:decide (r<0)with
   | true=>
    go_wp2;go_roundw
    case rel=>exact⟨m+1,j,by go_num,by go_num,D (by have:=s.o;have:=d.o;omega),t⟩
    case measure=>have:=s.o;simp[bp];omega
   | false=>
    go_wp2;go_roundw
    case rel=>exact⟨i,m,by go_num,by go_num,D (by have:=s.o;have:=d.o;omega),t⟩
    case measure=>have:=s.o;simp[bp];omega
  ·have P:decide (i<j)=U:=by simp;omega
   clear C;rcases aL i l.length with f | f
   ·obtain⟨b,a,rfl,F,c⟩:=cc.at h dD.len dD.pos k (G _) i f
    have q:=D (HF.o wr k l[i]);generalize l[i]=x at*;obtain⟨S,T,W,X,x4,x5⟩:=x;have c0:wr.cell? ⟨b,a+i*6,J⟩=I _:=c 0 _ rfl;have c1:wr.cell? ⟨b,a+i*6+1,J⟩=I _:=c 1 _ rfl;have c2:wr.cell? ⟨b,a+i*6+2,J⟩=I _:=c 2 _ rfl;have c3:wr.cell? ⟨b,a+i*6+3,J⟩=I _:=c 3 _ rfl;have c4:wr.cell? ⟨b,a+i*6+4,J⟩=I _:=c 4 _ rfl;have c5:wr.cell? ⟨b,a+i*6+5,J⟩=I _:=c 5 _ rfl;simp only[kv]at q;have H:(i:Int)<l.length:=A
    have e6:decide (i<l.length)=O:=by simpa using f
    have u:=D f;clear c HF f;go_wp2_with fail
    refine q.o.mono ?_;rintro e w1 ⟨⟨r,rfl⟩,g⟩;have K:=D (k.trans (g.mono k.size));clear q g;go_wp2
    go_ret2
    exact⟨i,_,rfl,D ⟨dN u.o,fun _=>u.o⟩,K⟩
   ·have e6:decide (i<l.length)=U:=by simp;omega
    have u:Hid (i≤l.length):=D (aa d.o.1 d.o.2);have HB:=D k;clear f HF;go_wp2
    go_ret2
    exact⟨i,_,rfl,D ⟨u.o,fun h=>by cases h⟩,HB⟩
def P1(v:Z)(l:List D3)(fn:Nat)(n:Array Z)(w:V)(h:cc cn.f cn.E w v l)(L:l.length<100000000)(y:vT w fn n ku):
  ar M 279 #[v,.func (.func fn) #[] n] w (rS w l.length):=by
 obtain⟨ao,cap,rfl,N,hm⟩:=Sl.shape h;have HF:=D y.ask;have he:=y.en;have z:=D L;clear y L
 go_enter func279,ntmps279
 go_wp2
 go_loopw[6,7] (fun B vj wr=>∃i j:Nat,B=.int .i64 i∧vj=.int .i64 j∧Hid (i≤j∧j≤l.length)∧ae w.heap.size w wr) (fun B vj _=>(bp vj).toNat-(bp B).toNat)
 case atStart=>exact⟨0,l.length,rfl,rfl,D ⟨aw _,G _⟩,aD _ _⟩
 case round=>
  obtain⟨i,j,rfl,rfl,c,g⟩:=hrel;rcases aL i j with o | C
  ·have P:decide (i<j)=O:=by simpa using o
   obtain⟨m,p⟩:∃m,(i+j)/2=m:=⟨_,rfl⟩;have s:Hid (i≤m∧m<j):=D (by rw[←p];exact yu o);have E:m<l.length:=by have:=s.o;have:=c.o;omega
   have e2:bi ((i:Int)+(j:Int))=(i:Int)+(j:Int):=ag _ (by have:=c.o;have:=z.o;omega);have Q:rH ((i:Int)+(j:Int)) 2=(m:Int):=by rw[←p];exact qY (i+j)
   have R:bi (m:Int)=m:=ag _ (by have:=z.o;omega);obtain⟨b,a,rfl,F,k⟩:=cc.at h cn.len cn.pos g (G _) m E;have q:=D (HF.o wr g l[m]);generalize l[m]=x at*;obtain⟨S,T,W⟩:=x;have c0:wr.cell? ⟨b,a+m*3,J⟩=I _:=k 0 _ rfl;have c1:wr.cell? ⟨b,a+m*3+1,J⟩=I _:=k 1 _ rfl;have c2:wr.cell? ⟨b,a+m*3+2,J⟩=I _:=k 2 _ rfl;simp only[ku]at q;have H:(m:Int)<l.length:=A
   have X:Hid (bi ((m:Int)+1)=(m:Int)+1):=D (ag _ (by have:=z.o;omega));clear k HF o p;go_wp2_with fail
   refine q.o.mono ?_;rintro e w1 ⟨⟨r,rfl⟩,f⟩;have t:=g.trans (f.mono g.size);have e5:=X.o;clear q f Q R
   cases hq:decide (r<0)with
   | true=>
    go_wp2;go_roundw
    case rel=>exact⟨m+1,j,by go_num,by go_num,D (by have:=s.o;have:=c.o;omega),t⟩
    case measure=>have:=s.o;simp[bp];omega
   | false=>
    go_wp2;go_roundw
    case rel=>exact⟨i,m,by go_num,by go_num,D (by have:=s.o;have:=c.o;omega),t⟩
    case measure=>have:=s.o;simp[bp];omega
  ·have P:decide (i<j)=U:=by simp;omega
   clear C;rcases aL i l.length with d | d
   ·obtain⟨b,a,rfl,F,k⟩:=cc.at h cn.len cn.pos g (G _) i d
    have q:=D (HF.o wr g l[i]);generalize l[i]=x at*;obtain⟨S,T,W⟩:=x;have c0:wr.cell? ⟨b,a+i*3,J⟩=I _:=k 0 _ rfl;have c1:wr.cell? ⟨b,a+i*3+1,J⟩=I _:=k 1 _ rfl;have c2:wr.cell? ⟨b,a+i*3+2,J⟩=I _:=k 2 _ rfl;simp only[ku]at q;have H:(i:Int)<l.length:=A
    have e6:decide (i<l.length)=O:=by simpa using d
    have u:=D d;clear k HF d;go_wp2_with fail
    refine q.o.mono ?_;rintro e w1 ⟨⟨r,rfl⟩,f⟩;have K:=D (g.trans (f.mono g.size));clear q f;go_wp2
    go_ret2
    exact⟨i,_,rfl,D ⟨dN u.o,fun _=>u.o⟩,K⟩
   ·have e6:decide (i<l.length)=U:=by simp;omega
    have u:Hid (i≤l.length):=D (aa c.o.1 c.o.2);have HB:=D g;clear d HF;go_wp2
    go_ret2
    exact⟨i,_,rfl,D ⟨u.o,fun h=>by cases h⟩,HB⟩
def P2(v:Z)(l:List yq)(fn:Nat)(k:Array Z)(w:V)(h:cc fh.f fh.E w v l)(L:l.length<100000000)(y:vT w fn k ox):
  ar M 287 #[v,.func (.func fn) #[] k] w (rS w l.length):=by
 obtain⟨ao,cap,rfl,N,hm⟩:=Sl.shape h;have HF:=D y.ask;have he:=y.en;have z:=D L;clear y L
 go_enter func287,ntmps287
 go_wp2
 go_loopw[6,7] (fun B vj wr=>∃i j:Nat,B=.int .i64 i∧vj=.int .i64 j∧Hid (i≤j∧j≤l.length)∧ae w.heap.size w wr) (fun B vj _=>(bp vj).toNat-(bp B).toNat)
 case atStart=>exact⟨0,l.length,rfl,rfl,D ⟨aw _,G _⟩,aD _ _⟩
 case round=>
  obtain⟨i,j,rfl,rfl,a,g⟩:=hrel;rcases aL i j with n | C
  ·have P:decide (i<j)=O:=by simpa using n
   obtain⟨m,o⟩:∃m,(i+j)/2=m:=⟨_,rfl⟩;have s:Hid (i≤m∧m<j):=D (by rw[←o];exact yu n);have E:m<l.length:=by have:=s.o;have:=a.o;omega
   have e2:bi ((i:Int)+(j:Int))=(i:Int)+(j:Int):=ag _ (by have:=a.o;have:=z.o;omega);have Q:rH ((i:Int)+(j:Int)) 2=(m:Int):=by rw[←o];exact qY (i+j)
   have R:bi (m:Int)=m:=ag _ (by have:=z.o;omega);obtain⟨b,d,rfl,F,p⟩:=cc.at h fh.len fh.pos g (G _) m E;have q:=D (HF.o wr g l[m]);generalize l[m]=x at*;obtain⟨S,T⟩:=x;have c0:wr.cell? ⟨b,d+m*2,J⟩=I _:=p 0 _ rfl;have c1:wr.cell? ⟨b,d+m*2+1,J⟩=I _:=p 1 _ rfl;simp only[ox]at q;have H:(m:Int)<l.length:=A
   have W:Hid (bi ((m:Int)+1)=(m:Int)+1):=D (ag _ (by have:=z.o;omega));clear p HF n o;go_wp2_with fail
   refine q.o.mono ?_;rintro e X ⟨⟨r,rfl⟩,f⟩;have t:=g.trans (f.mono g.size);have e5:=W.o;clear q f Q R
   cases hq:decide (r<0)with
   | true=>
    go_wp2;go_roundw
    case rel=>exact⟨m+1,j,by go_num,by go_num,D (by have:=s.o;have:=a.o;omega),t⟩
    case measure=>have:=s.o;simp[bp];omega
   | false=>
    go_wp2;go_roundw
    case rel=>exact⟨i,m,by go_num,by go_num,D (by have:=s.o;have:=a.o;omega),t⟩
    case measure=>have:=s.o;simp[bp];omega
  ·have P:decide (i<j)=U:=by simp;omega
   clear C;rcases aL i l.length with c | c
   ·obtain⟨b,d,rfl,F,p⟩:=cc.at h fh.len fh.pos g (G _) i c
    have q:=D (HF.o wr g l[i]);generalize l[i]=x at*;obtain⟨S,T⟩:=x;have c0:wr.cell? ⟨b,d+i*2,J⟩=I _:=p 0 _ rfl;have c1:wr.cell? ⟨b,d+i*2+1,J⟩=I _:=p 1 _ rfl;simp only[ox]at q;have H:(i:Int)<l.length:=A
    have e6:decide (i<l.length)=O:=by simpa using c
    have u:=D c;clear p HF c;go_wp2_with fail
    refine q.o.mono ?_;rintro e X ⟨⟨r,rfl⟩,f⟩;have K:=D (g.trans (f.mono g.size));clear q f;go_wp2
    go_ret2
    exact⟨i,_,rfl,D ⟨dN u.o,fun _=>u.o⟩,K⟩
   ·have e6:decide (i<l.length)=U:=by simp;omega
    have u:Hid (i≤l.length):=D (aa a.o.1 a.o.2);have HB:=D g;clear c HF;go_wp2
    go_ret2
    exact⟨i,_,rfl,D ⟨u.o,fun h=>by cases h⟩,HB⟩
def P3(v:Z)(l:List yr)(fn:Nat)(n:Array Z)(w:V)(h:cc eV.f eV.E w v l)(L:l.length<100000000)(y:vT w fn n oy):
  ar M 291 #[v,.func (.func fn) #[] n] w (rS w l.length):=by
 obtain⟨ao,cap,rfl,N,hm⟩:=Sl.shape h;have HF:=D y.ask;have he:=y.en;have z:=D L;clear y L
 go_enter func291,ntmps291
 go_wp2
 go_loopw[6,7] (fun B vj wr=>∃i j:Nat,B=.int .i64 i∧vj=.int .i64 j∧Hid (i≤j∧j≤l.length)∧ae w.heap.size w wr) (fun B vj _=>(bp vj).toNat-(bp B).toNat)
 case atStart=>exact⟨0,l.length,rfl,rfl,D ⟨aw _,G _⟩,aD _ _⟩
 case round=>
  obtain⟨i,j,rfl,rfl,d,k⟩:=hrel;rcases aL i j with o | C
  ·have P:decide (i<j)=O:=by simpa using o
   obtain⟨m,p⟩:∃m,(i+j)/2=m:=⟨_,rfl⟩;have s:Hid (i≤m∧m<j):=D (by rw[←p];exact yu o);have E:m<l.length:=by have:=s.o;have:=d.o;omega
   have e2:bi ((i:Int)+(j:Int))=(i:Int)+(j:Int):=ag _ (by have:=d.o;have:=z.o;omega);have Q:rH ((i:Int)+(j:Int)) 2=(m:Int):=by rw[←p];exact qY (i+j)
   have R:bi (m:Int)=m:=ag _ (by have:=z.o;omega);obtain⟨b,a,rfl,F,c⟩:=cc.at h eV.len eV.pos k (G _) m E;have q:=D (HF.o wr k l[m]);generalize l[m]=x at*;obtain⟨S,T,W,X,x4,x5⟩:=x;have c0:wr.cell? ⟨b,a+m*6,J⟩=I _:=c 0 _ rfl;have c1:wr.cell? ⟨b,a+m*6+1,J⟩=I _:=c 1 _ rfl;have c2:wr.cell? ⟨b,a+m*6+2,J⟩=I _:=c 2 _ rfl;have c3:wr.cell? ⟨b,a+m*6+3,J⟩=I _:=c 3 _ rfl;have c4:wr.cell? ⟨b,a+m*6+4,J⟩=I _:=c 4 _ rfl;have c5:wr.cell? ⟨b,a+m*6+5,J⟩=I _:=c 5 _ rfl;simp only[oy]at q;have H:(m:Int)<l.length:=A
   have E5:Hid (bi ((m:Int)+1)=(m:Int)+1):=D (ag _ (by have:=z.o;omega));clear c HF o p;go_wp2_with fail
   refine q.o.mono ?_;rintro e w1 ⟨⟨r,rfl⟩,g⟩;have t:=k.trans (g.mono k.size);have e5:=E5.o;clear q g Q R
   cases hq:decide (r<0)with
   | true=>
    go_wp2;go_roundw
    case rel=>exact⟨m+1,j,by go_num,by go_num,D (by have:=s.o;have:=d.o;omega),t⟩
    case measure=>have:=s.o;simp[bp];omega
   | false=>
    go_wp2;go_roundw
    case rel=>exact⟨i,m,by go_num,by go_num,D (by have:=s.o;have:=d.o;omega),t⟩
    case measure=>have:=s.o;simp[bp];omega
  ·have P:decide (i<j)=U:=by simp;omega
   clear C;rcases aL i l.length with f | f
   ·obtain⟨b,a,rfl,F,c⟩:=cc.at h eV.len eV.pos k (G _) i f
    have q:=D (HF.o wr k l[i]);generalize l[i]=x at*;obtain⟨S,T,W,X,x4,x5⟩:=x;have c0:wr.cell? ⟨b,a+i*6,J⟩=I _:=c 0 _ rfl;have c1:wr.cell? ⟨b,a+i*6+1,J⟩=I _:=c 1 _ rfl;have c2:wr.cell? ⟨b,a+i*6+2,J⟩=I _:=c 2 _ rfl;have c3:wr.cell? ⟨b,a+i*6+3,J⟩=I _:=c 3 _ rfl;have c4:wr.cell? ⟨b,a+i*6+4,J⟩=I _:=c 4 _ rfl;have c5:wr.cell? ⟨b,a+i*6+5,J⟩=I _:=c 5 _ rfl;simp only[oy]at q;have H:(i:Int)<l.length:=A
    have e6:decide (i<l.length)=O:=by simpa using f
    have u:=D f;clear c HF f;go_wp2_with fail
    refine q.o.mono ?_;rintro e w1 ⟨⟨r,rfl⟩,g⟩;have K:=D (k.trans (g.mono k.size));clear q g;go_wp2
    go_ret2
    exact⟨i,_,rfl,D ⟨dN u.o,fun _=>u.o⟩,K⟩
   ·have e6:decide (i<l.length)=U:=by simp;omega
    have u:Hid (i≤l.length):=D (aa d.o.1 d.o.2);have HB:=D k;clear f HF;go_wp2
    go_ret2
    exact⟨i,_,rfl,D ⟨u.o,fun h=>by cases h⟩,HB⟩
def vo(a b:List UInt8)(w:V):ar M 232 #[.string ⟨⟨a⟩⟩,.string ⟨⟨b⟩⟩] w fun e w'=>(∃n,e=.returned (.int .i64 n))∧w'=w:=by
 go_enter func232,ntmps232
 go_wp2;all_goals (go_ret;exact⟨⟨_,rfl⟩,rfl⟩)
def CL(a1 a2 a3 b1 b2 b3:Int)(w:V):ar M 227 #[.agg #[.int .i64 a1,.int .i64 a2,.int .i64 a3],.agg #[.int .i64 b1,.int .i64 b2,.int .i64 b3]] w fun e w'=>e=.returned (.int .i64 (ks (a1,a2,a3) (b1,b2,b3)))∧ae w.heap.size w w':=by
 go_enter func227,ntmps227
 go_wp2
 go_region_held3 (fun w'=>w'.cell? ⟨w.heap.size,0,J⟩=I (.int .i64 a1)∧w'.cell? ⟨w.heap.size,1,J⟩=I (.int .i64 a2)∧w'.cell? ⟨w.heap.size,2,J⟩=I (.int .i64 a3)∧w'.cell? ⟨w.heap.size+1,0,J⟩=I (.int .i64 b1)∧w'.cell? ⟨w.heap.size+1,1,J⟩=I (.int .i64 b2)∧w'.cell? ⟨w.heap.size+1,2,J⟩=I (.int .i64 b3)) (simp [go_sem,World.cell?_alloc_past])
  (first
   | (go_at_call 278;refine(yj _ _ _).mono ?_;rintro e w' ⟨rfl,rfl⟩)
   | (go_at_call 231;refine(Cq _ (lf a1 b1) (lf a2 b2) (lf a3 b3) _ kN kN kN).mono ?_;rintro e w' ⟨rfl,rfl⟩))
 go_wp2;go_ret;refine⟨rfl,?_⟩
 repeat (first | exact aD _ _ | apply Below.drew | apply below_drewN | (refine Below.alloc ?_ (by simp;try omega) _))
def zM(a1 a2 a3 b1 b2 b3:Int)(w:V):ar M 227 #[.agg #[.int .i64 a1,.int .i64 a2,.int .i64 a3],.agg #[.int .i64 b1,.int .i64 b2,.int .i64 b3]] w fun e w'=>(∃n,e=.returned (.int .i64 n))∧ae w.heap.size w w':=
 (CL a1 a2 a3 b1 b2 b3 w).mono fun _ _ h=>⟨⟨_,h.1⟩,h.2⟩
def lE{P:aQ}{w:V}{ops:Array aH}{rest:List aH}{o:aH}{a:Act}{Q:gD→Act→V→Prop}(b:o.guard=J)(d s:aP)(t c:aN)
  (e:o.op=.call { callee:=.builtin .copy,args:= #[d,s],argTypes:= #[t,c] }) (v u:Z) (f:a.eval d=v) (g:a.eval s=u) {v':Z} {w':V}
  (i:(jf #[t,c] o.type #[v,u]).run P w=.ok v' w') (h:cH P ops Q rest (a.put o.dst v') w'):cH P ops Q (o::rest) a w:=by
 refine wpList_plain b fun K j=>?_
 unfold ej;simp[bv,e,il,iO,fp,f,g,i,cT];exact j _ _ h
def wJ{P:aQ}{w:V}{ops:Array aH}{rest:List aH}{o:aH}{a:Act}{Q:gD→Act→V→Prop}(b:o.guard=J)(d s:aP)(t c:aN)
  (e:o.op=.call { callee:=.builtin .append,args:= #[d,s],argTypes:= #[t,c] }) (v u:Z) (f:a.eval d=v) (g:a.eval s=u) {v':Z} {w':V}
  (i:(cK #[t,c] o.type #[v,u]).run P w=.ok v' w') (h:cH P ops Q rest (a.put o.dst v') w'):cH P ops Q (o::rest) a w:=by
 refine wpList_plain b fun K j=>?_
 unfold ej;simp[bv,e,il,iO,fp,f,g,i,cT];exact j _ _ h
def og{P:aQ}(w:V)(x Q R e:aN)(i:fV)(E:Nat)(hu:P.underlying x=I (.slice e))(hi:P.info? e=I i)(y:i.size=E)
  (base g n cap:Nat) (p:List Z) (r:w.ownsRow base e E (.slice (I ⟨g,0,J⟩) n cap) n p)
  (of k b l c m:Nat) (ao:Option aB) (cs:List Z) (z:Nat.min c b=k) (B:of+k≤n) (a:cs.length=k*E) (C:Rd w ao cs) (h1:∀v∈cs,v.oneCell'=O):
  ∃w',(jf #[x,Q] R #[.slice (I ⟨g,of*E,J⟩) b l,.slice ao c m]).run P w=.ok (goInt k) w'∧
   w'.ownsRow base e E (.slice (I ⟨g,0,J⟩) n cap) n (p.take (of*E)++cs++p.drop (of*E+k*E))∧w.grownBy w' (I g):=by
 obtain⟨S,d⟩:=r;rcases d with⟨d,_⟩ | ⟨g',T,f,d,F,W,s,H,t,q⟩
 ·cases d
 injection d with d _ K;injection d with d;injection d with d _ _;subst d K;have X:of*E+k*E≤n*E:=by rw[←cR];exact bE _ B
 have a0:n*E≤cap*E:=bE _ s
 have o:=mL (P:=P) w x Q R e i g (of*E) b l ao c m f e cs hu hi W (by rw[z,y];exact a)
  (fun j v hj=>C j v hj) (by rw[a,t];omega) h1
 rw[z]at o;have u:(p.take (of*E)++cs++p.drop (of*E+k*E)).length=n*E:=by simp only[ay,bN,bh,a,S];omega
 refine⟨_,o,⟨u,.inr ⟨g,cap,_,rfl,F,aO w g f _ e _ W,s,H,?_,?_⟩⟩,⟨rfl,rfl,rfl,by simp[cV],fun k z L=>setRow_other w g k _ (fun h=>L (by rw[h]))⟩⟩
 ·rw[List.size_toArray];simp only[ay,bN,bh,a,dw,t];omega
 ·have N:f.toList=p++f.toList.drop (n*E):=by rw[←q,List.take_append_drop]
  have:=rJ p (f.toList.drop (n*E)) cs (of*E) (k*E) a A;rw[←N,S]at this;rw[a,←this]
def EI{w:V}{base:Nat}{e:aN}{E g n cap:Nat}{i:List Z}(h:w.ownsRow base e E (.slice (I ⟨g,0,J⟩) n cap) n i)(m:n+1≤cap):
  ∃c:List Z,c.length=E∧w.ownsRow base e E (.slice (I ⟨g,0,J⟩) (n+1) cap) (n+1) (i++c):=by
 obtain⟨r,b⟩:=h;rcases b with⟨b,_⟩ | ⟨y,o,a,b,j,s,t,k,f,d⟩
 ·cases b
 injection b with b _ l;injection b with b;injection b with b _ _;subst b l;have u:(n+1)*E≤cap*E:=bE _ m;have p:(n+1)*E=n*E+E:=by rw[cR];omega
 have v:a.toList.length=cap*E:=by rw[dw,f]
 have q:((a.toList.drop (n*E)).take E).length=E:=by rw[bN,bh,v];omega
 have x:a.toList.take ((n+1)*E)=i++(a.toList.drop (n*E)).take E:=by
  rw[p,List.take_add,d]
 refine⟨(a.toList.drop (n*E)).take E,q,⟨by rw[ay,r,q,p],.inr ⟨g,cap,a,rfl,j,s,m,k,f,x⟩⟩⟩
def zN{P:aQ}(w:V)(t q H e:aN)(i:fV)(z:Z)(E bytes:Nat)(K:P.underlying t=I (.slice e))(r:P.underlying q=I (.int .i64))(hi:P.info? e=I i)(L:i.zero=I z)(s:i.size=E)(x:i.bytes=bytes)(d:z.cells.size=E)(hE:0<E)
  (f:aB) (n cap k:Nat) (a:List Z) (g:a.length=n*E) (y:∀j u,a[j]?=I u→w.cell? (f.add j)=I u) (N:0<k) (c:cap<n+k) (Q:n+k≤1000000) (R:bytes≤1000) (_hnc:n≤cap):
  ∃(C:Nat)(w':V)(zs:List Z),(cK #[t,q] H #[.slice (I f) n cap,.int .i64 k]).run P w=.ok (.slice (I ⟨w.heap.size,0,J⟩) (n+k) C) w'∧zs.length=k*E∧
   w'.ownsRow w.heap.size e E (.slice (I ⟨w.heap.size,0,J⟩) (n+k) C) (n+k) (a++zs)∧ae w.heap.size w w':=by
 have h:(bd i.size n (.slice (I f) n cap)).run P w.drew=.ok a.toArray w.drew:=by
  have:=run_loadCells_list (P:=P) w.drew f a (fun j v S=>y j v S);rw[s];simp only[bd,←g,this]
 have l:(n+k)*i.bytes≤140737488355328:=by
  rw[x];have:(n+k)*bytes≤1000000*1000:=fs Q R;omega
 have B:k*i.bytes≤281474976710656:=by
  have:k*i.bytes≤(n+k)*i.bytes:=bE _ A;omega
 have T:=Lib.run_append_grow_zeros (P:=P) w t q H e i z .i64 .i64 K r hi L (I f) n cap a h k N A c A B (growslice_fits c l);have W:=grownCap_ge w (n+k) cap e;have F:=grownCap_le_maxLen w (n+k) cap e (by unfold maxLen;omega);generalize grownCap w (n+k) cap e=C at*;have m:(aX z.cells k).toList.length=k*E:=by simp[aX,d]
 have o:(aX z.cells (C-(n+k))).toList.length=(C-(n+k))*E:=by simp[aX,d]
 have b:(a++(aX z.cells k).toList).length=(n+k)*E:=by rw[ay,g,m,cR]
 have p:((w.drew).alloc (.cells (a.toArray++aX z.cells k++aX z.cells (C-(n+k))) e)).heap[w.heap.size]?=I (.cells (a.toArray++aX z.cells k++aX z.cells (C-(n+k))) e (0,0)):=al w.drew _;refine⟨C,_,(aX z.cells k).toList,T,m,⟨b,.inr ⟨w.heap.size,C,_,rfl,G _,p,W,F,?_,?_⟩⟩,(aD _ _).drew.alloc (G _) _⟩
 ·have X:(a.toArray++aX z.cells k++aX z.cells (C-(n+k))).toList.length=C*E:=by
   simp only[fR];rw[ay,b,o,←cR]
   congr 1
   omega
  simpa using X
 ·simp only[fR]
  rw[List.take_append_of_le_length (by rw[b];exact G _),←b,List.take_length]
def ft{w w':V}{b B:Nat}{o:Obj}(h:w.heap[b]?=I o)(a:ae B w w')(c:b<B):w'.heap[b]?=I o:=by rw[a.block b c];exact h
def yw(w:V)(B:Nat)(v:Z)(E e n:Nat)(cs:List Z)(en:Ending)(w':V):Prop:=
 ∃a,en=.returned a∧w'.ownsRow B e E a n cs∧w.grownBy w' v.ownBlock∧(a.ownBlock=v.ownBlock∨∃g,a.ownBlock=I g∧w.heap.size≤g)
def Ob{w:V}{base:Nat}{e:aN}{E g n cap:Nat}{c:List Z}(h:w.ownsRow base e E (.slice (I ⟨g,0,J⟩) n cap) n c):∃b:List Z,w.heap[g]?=I (.cells b.toArray e (0,0)):=by
 obtain⟨_,a⟩:=h;rcases a with⟨a,_⟩ | ⟨q,f,b,a,_,d,_⟩
 ·cases a
 ·injection a with a
  injection a with a;injection a with a;subst a;exact⟨b.toList,by simpa using d⟩
def zO{w:V}{b:Nat}{cs:List Z}{t:aN}(h:w.heap[b]?=I (.cells cs.toArray t (0,0))):Rd w (I ⟨b,0,J⟩) cs:=fun j u a=>
 ⟨_,rfl,by rw[Addr.add_lit,cO];simp[an,h];simpa using a⟩
def Yz(args:Array Z)(W:V):(gH 275 args).run M W=.ok (.enter 275 args) W:=aj
def SJ{w:V}{p:Nat}{key:List UInt8}(b:w.cell? ⟨p,0,J⟩=I (.string ⟨⟨key⟩⟩)):vT w 275 #[.pointer (I ⟨p,0,J⟩)] nw:=by
 refine⟨Yz,fun W c x=>?_⟩;have d:p<w.heap.size:=aS w _ b;have c0:=dG b c d;have e:p<W.heap.size:=ac d c.size;obtain⟨f,g,h,i,j,k,l⟩:=x;simp only[nw];clear c b d
 go_enter func275,ntmps275
 go_wp2_with ((go_at_call 232;refine(vo _ _ _).mono ?_);rintro en m ⟨⟨n,rfl⟩,a⟩;rw[a];clear a)
 go_ret;exact⟨⟨_,rfl⟩,(aD _ _).alloc (G _) _⟩
def YA(args:Array Z)(W:V):(gH 288 args).run M W=.ok (.enter 288 args) W:=aj
def SK{w:V}{p:Nat}{key:List UInt8}(b:w.cell? ⟨p,0,J⟩=I (.string ⟨⟨key⟩⟩)):vT w 288 #[.pointer (I ⟨p,0,J⟩)] ox:=by
 refine⟨YA,fun W c x=>?_⟩;have d:p<w.heap.size:=aS w _ b;have c0:=dG b c d;have e:p<W.heap.size:=ac d c.size;obtain⟨f,g⟩:=x;simp only[ox];clear c b d
 go_enter func288,ntmps288
 go_wp2_with ((go_at_call 232;refine(vo _ _ _).mono ?_);rintro en h ⟨⟨n,rfl⟩,a⟩;rw[a];clear a)
 go_ret;exact⟨⟨_,rfl⟩,(aD _ _).alloc (G _) _⟩
def YC(args:Array Z)(W:V):(gH 292 args).run M W=.ok (.enter 292 args) W:=aj
def SL{w:V}{p:Nat}{id:Int}(b:w.cell? ⟨p,0,J⟩=I (.int .i64 id)):vT w 292 #[.pointer (I ⟨p,0,J⟩)] oy:=by
 refine⟨YC,fun W c x=>?_⟩;have d:p<w.heap.size:=aS w _ b;have c0:=dG b c d;have e:p<W.heap.size:=ac d c.size;obtain⟨f,g,h,i,j,k⟩:=x;simp only[oy];clear c b d
 go_enter func292,ntmps292
 go_wp2_with ((go_at_call 278;refine(yj _ _ _).mono ?_);rintro en l ⟨rfl,a⟩;rw[←a];clear a)
 go_ret;exact⟨⟨_,rfl⟩,(aD _ _).alloc (G _) _⟩
def SM(args:Array Z)(W:V):(gH 280 args).run M W=.ok (.enter 280 args) W:=aj
def SN(args:Array Z)(W:V):(gH 227 args).run M W=.ok (.enter 227 args) W:=aj
def P4{w:V}{q p:Nat}{i j k:Int}(d:w.cell? ⟨q,0,J⟩=I (.func (.func 227) #[] #[]))(e:w.cell? ⟨p,0,J⟩=I (.int .i64 i))(g:w.cell? ⟨p,1,J⟩=I (.int .i64 j))(h:w.cell? ⟨p,2,J⟩=I (.int .i64 k)):vT w 280 #[.pointer (I ⟨q,0,J⟩),.pointer (I ⟨p,0,J⟩)] ku:=by
 refine⟨SM,fun W a x=>?_⟩;have c:p<w.heap.size:=aS w _ e;have b:q<w.heap.size:=aS w _ d;have c0:=dG e a c;have c1:=dG g a c;have c2:=dG h a c;have r:=dG d a b;have l:p<W.heap.size:=ac c a.size;have m:q<W.heap.size:=ac b a.size;obtain⟨s,t,u⟩:=x;simp only[ku];clear a e g h d c b;have o:= SN
 go_enter func280,ntmps280
 go_wp2_with ((go_at_call 227;refine(zM _ _ _ _ _ _ _).mono ?_);rintro en v ⟨⟨n,rfl⟩,f⟩)
 go_ret;exact⟨⟨_,rfl⟩,((aD _ _).alloc (G _) _).trans (f.mono bW)⟩
def YD(args:Array Z)(W:V):(gH 230 args).run M W=.ok (.enter 230 args) W:=aj
def SO{w:V}{p:Nat}{u y B c v k n t:Int}{C tx:List UInt8}{sl:Z}(N:w.heap[p]?=I (.cells (pv u y B c v k C tx n t sl) 75 (0,0))):vT w 230 #[.pointer (I ⟨p,0,J⟩)] kv:=by
 refine⟨YD,fun W P x=>?_⟩;have i:p<w.heap.size:=(br N).1;have r:=ft N P i;obtain⟨E,F,Q,H,K,L⟩:=x;obtain⟨b,R⟩:∃b,W.heap.size=b:=⟨_,rfl⟩;have l:Hid (p<b):=D (by rw[←R];exact ac i P.size);have HP:=D r;have o:=D R;simp only[kv];clear P N i r R
 go_enter func230,ntmps230
 go_upto_region 1 with fail
 rw[o.o];refine bT 17 (fun g=>g.heap[b]?=I (.cells (vR E F Q H K L) 206 (0,0))∧g.heap[p]?=I (.cells (pv u y B c v k C tx n t sl) 75 (0,0))) aj ?_;obtain⟨q,f⟩:∃q,(W.alloc (.cells (vR E F Q H K L) 206)).drew=q:=⟨_,rfl⟩;have HB:Hid (ae W.heap.size W q):=D (by rw[←f];exact((aD _ _).alloc (G _) _).drew);have l:Hid (p<b∧b+1=q.heap.size):=D ⟨l.o,by rw[←f,←o.o];simp[World.drew]⟩
 have a:q.heap[b]?=I (.cells (vR E F Q H K L) 206 (0,0))∧q.heap[p]?=I (.cells (pv u y B c v k C tx n t sl) 75 (0,0)):=by
  rw[←f,←o.o];exact⟨al W _,(ed W _ p (by rw[o.o];exact l.o.1)).trans HP.o⟩
 rw[f];clear f;refine stP 0 (.pointer (I ⟨b,0,J⟩)) a ?_;refine stP 2 (.pointer (I ⟨p,6,J⟩)) a ?_;refine stP 5 (.pointer (I ⟨b,1,J⟩)) a ?_;refine stP 7 (.pointer (I ⟨p,7,J⟩)) a ?_;refine stP 10 (.pointer (I ⟨b,3,J⟩)) a ?_;refine stP 12 (.pointer (I ⟨p,0,J⟩)) a ?_;refine lT 1 (.string ⟨⟨E⟩⟩) rfl rfl (.inl ⟨rfl,fun g d=>?_⟩) a ?_
 ·obtain⟨a0,a1,a2,a3,a4,a5⟩:=ah d.1
  obtain⟨b0,b1,b2,b3,b4,b5,b6,b7,b8,b9,b10⟩:=bL d.2;go_simp
 refine lT 3 (.string ⟨⟨C⟩⟩) rfl rfl (.inl ⟨rfl,fun g d=>?_⟩) a ?_
 ·obtain⟨a0,a1,a2,a3,a4,a5⟩:=ah d.1
  obtain⟨b0,b1,b2,b3,b4,b5,b6,b7,b8,b9,b10⟩:=bL d.2;go_simp
 refine lT 6 (.string ⟨⟨F⟩⟩) rfl rfl (.inl ⟨rfl,fun g d=>?_⟩) a ?_
 ·obtain⟨a0,a1,a2,a3,a4,a5⟩:=ah d.1
  obtain⟨b0,b1,b2,b3,b4,b5,b6,b7,b8,b9,b10⟩:=bL d.2;go_simp
 refine lT 8 (.string ⟨⟨tx⟩⟩) rfl rfl (.inl ⟨rfl,fun g d=>?_⟩) a ?_
 ·obtain⟨a0,a1,a2,a3,a4,a5⟩:=ah d.1
  obtain⟨b0,b1,b2,b3,b4,b5,b6,b7,b8,b9,b10⟩:=bL d.2;go_simp
 refine lT 11 (.agg #[.int .i64 H,.int .i64 K,.int .i64 L]) rfl rfl (.inl ⟨rfl,fun g d=>?_⟩) a ?_
 ·obtain⟨a0,a1,a2,a3,a4,a5⟩:=ah d.1
  obtain⟨b0,b1,b2,b3,b4,b5,b6,b7,b8,b9,b10⟩:=bL d.2;go_simp
 refine lT 13 (.agg #[.int .i64 u,.int .i64 y,.int .i64 B]) rfl rfl (.inl ⟨rfl,fun g d=>?_⟩) a ?_
 ·obtain⟨a0,a1,a2,a3,a4,a5⟩:=ah d.1
  obtain⟨b0,b1,b2,b3,b4,b5,b6,b7,b8,b9,b10⟩:=bL d.2;go_simp
 refine f_ 4 ?_;go_simp;refine(vo _ _ _).mono ?_;rintro en w2 ⟨⟨S,rfl⟩,e⟩;rw[e];clear e;refine⟨a,?_⟩;refine f_ 9 ?_;go_simp;refine(vo _ _ _).mono ?_;rintro en w3 ⟨⟨T,rfl⟩,e⟩;rw[e];clear e;refine⟨a,?_⟩;refine f_ 14 ?_;go_simp;refine(zM _ _ _ _ _ _ _).mono ?_;rintro en X ⟨⟨n3,rfl⟩,b9⟩;have s:=D b9;have a:=(⟨(b9.block b (by have:=l.o;omega)).trans a.1,(b9.block p (by have:=l.o;omega)).trans a.2⟩:_∧_);clear b9;refine⟨a,?_⟩;have m:∀{j:Nat}{ob:Obj}(z:Obj),X.heap[j]?=I ob→(X.alloc z).heap[j]?=I ob:=fun {j ob} z h=>(ed X z j (br h).1).trans h
 refine dK 15 ?_;go_simp;have a:=(⟨m (.cells #[.int .i64 S,.int .i64 T,.int .i64 n3] 3) a.1,m (.cells #[.int .i64 S,.int .i64 T,.int .i64 n3] 3) a.2⟩:_∧_);clear m;refine f_ 16 ?_;go_simp;refine(Cq _ S T n3 _ kN kN kN).mono ?_;rintro en w5 ⟨rfl,e⟩;rw[←e];clear e;refine⟨a,?_⟩;refine dK 17 ?_;go_simp;refine jj ?_;go_wp2;go_ret;exact⟨⟨_,rfl⟩,(HB.o.trans (s.o.mono (by rw[o.o];have:=l.o;omega))).alloc (by rw[o.o];have:=l.o.2;have:=s.o.size;omega) _⟩
end Go.Proofs.YtdgllhcfablaoaaGreat
