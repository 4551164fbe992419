/- The law: its row, proved: it answers yes, whatever the arguments. No conditions. -/
import Derived.Test.YtdgllhcfablaoaaGreatMg10
import Derived.Test.YtdgllhcfablaoaaGreatMg24
set_option linter.all false
set_option maxRecDepth 100000
set_option maxHeartbeats 16000000
open Go.Proofs.Tryz
open Bool renaming false→U
open Go.Proofs.Tryz renaming prog→M
namespace Go.Proofs.YtdgllhcfablaoaaGreat.topRefused
open Go.ChangeShapes Go.WideShapes Go.ChangeAt Go.RowKit Go.Joins
def lifted(os:Os)(a:os.Started)(H:Type)(enc:TypeId×Value→H):
  ReturnsInHanded {} checked os 3 .any (Rows.topRefusedSpec.pre6 enc M f3 Rows.topRefusedRow.domain U) (Rows.topRefusedSpec.post enc M f3 U true U U):=by
 refine returnsInHanded_of_change (C:= checked) own a aj func3
  (ChangeSpec.witness6 (enc:=enc) (C:= checked) U ⟨#[],#[.slice none 0 0],[]⟩ 8 aj aj aj aj) ?_
 intro W base args ds X i b s _ _;have d:∀(j:Nat) t v,f3.params[j]?=some t→args[j]?=some v→Value.okWide M W .any base t v:=b;have k:=s;obtain⟨p,q,hA0,B,rfl,E,F⟩:=s;have u:DataW.TrodAll enc M W 0 (fun _=>true) true f3.params.toList args.toList ds p:=hA0;rw[params3]at u d;obtain⟨w,K,d0,L,N,q0,n,rfl,rfl,y,P⟩:=trodAll_cons u;obtain⟨rfl,rfl,rfl⟩:=trodAll_nil P;obtain rfl:args=#[w]:=by cases args;simp_all
 obtain⟨rfl,rfl⟩:=trodVars_none B;have k0:=y;have o:∀x∈N,x.block<W.heap.size:=by obtain⟨m,hm⟩:=k0;exact DataW.trod_lt m _ _ _ hm
 obtain⟨a0,f,g,rfl⟩:=okWide_slice underlying22 (d 0 22 w rfl rfl);obtain⟨r,Q,R⟩:∃l,cc OO 1 W (.slice a0 f g) l∧∀c∈l,Rw.ok W c:=by obtain⟨z,S⟩:=y;exact LY S
 clear hA0 b;refine(Hn W _ r MO Q R).mono fun e W' ⟨T,z8⟩=>?_
 subst T;exact⟨_,rfl,_,_,_,[],_,[],k,trodAll_mk1 (shut_bool underlying4 _),(trodAll_cons_mk (Below.trod laidOut aj (of_decide_eq_true aj) k0 z8 o) trodAll_mk0),rfl,z8.frame _,fun h=>by cases h⟩
theorem proved:Rows.TopRefusedSaid:=
 OpenClaim.holds_of_wide 3 f3 rfl rfl rfl rfl rfl rfl rfl ⟨rfl,rfl,rfl,rfl,rfl⟩ rfl rfl rfl rfl rfl Sk func3 closed closed2 Sn
  (fun os a H b _=>lifted os a H b)
#print axioms proved
end Go.Proofs.YtdgllhcfablaoaaGreat.topRefused
