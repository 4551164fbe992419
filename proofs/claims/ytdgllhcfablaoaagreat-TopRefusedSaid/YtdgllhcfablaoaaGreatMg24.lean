/- What the law asks, in parts: VIc VId. -/
import Derived.ProofKit
import Derived.Test.YtdgllhcfablaoaaGreatRows
import Derived.Test.YtdgllhcfablaoaaGreatMg23
set_option linter.all false
set_option maxRecDepth 100000
set_option maxHeartbeats 16000000
open Go.Proofs.Tryz
open Bool renaming true→O
open Go.Calls renaming mono→qE
open Go.Proofs.Tryz renaming prog→M
set_option maxRecDepth 100000
open Go Go.Ev Go.Ev.L
open Go.RowKit (Below)
namespace Go.Proofs.YtdgllhcfablaoaaGreat
open Go.Proofs
def alone{x:Fact}(a:bJ M x){vs:List Value}(b:x.fits x.args ⟨Tr.e,x.n,[],[]⟩=O)(c:∀ρ,cq ρ x.args vs)(w:World):
  Calls M x.f ⟨vs⟩ w (fun e w'=>∃v' ρ',e=.returned v'∧VR ρ' x.v v'∧Below w.heap.size w w'):=by
 refine qE (a.calls b (c _) (Rel.none (Below.refl _ w) (Nat.le_refl _)) (fun _ _ _=>rfl)) ?_;rintro e w' ⟨v',ρ',rfl,_,d,f⟩;exact⟨v',ρ',rfl,d,f.z8⟩
def MO(w:World):Calls M 4 #[] w (fun e w'=>e=.returned (.bool O)∧Below w.heap.size w w'):=by
 refine qE (alone Sj (vs:=[]) (by decide +kernel) (fun _=>rfl) w) ?_;rintro e w' ⟨a,ρ',rfl,b,c⟩;exact⟨by rw[show a=.bool O from b],c⟩
end Go.Proofs.YtdgllhcfablaoaaGreat
set_option maxRecDepth 100000
open Go
namespace Go.Proofs.YtdgllhcfablaoaaGreat
def Zm{a b:Bool}(h:a=O)(k:b=O):(a&&b)=O:=by rw[h,k];rfl
def closed:joinedFacts M 3 f3 Rows.topRefusedSpec Rows.topRefusedRow=O:=by
 unfold joinedFacts
 repeat' with_reducible refine Zm ?_ ?_
 all_goals as_aux_lemma=>kernel_rfl
def Sk: prog.funcNamed Rows.topRefusedRow.func=some 3:=by kernel_rfl
def closed2: f3.isInstance M Rows.topRefusedRow.origin Rows.topRefusedRow.targs:=of_decide_eq_true (by kernel_rfl)
def Sn: f3.isWrapper M Rows.topRefusedRow.wrapper Rows.topRefusedRow.mainSum:=by unfold Func.isWrapper;rw[if_neg (by decide +kernel)];exact⟨rfl,rfl⟩
end Go.Proofs.YtdgllhcfablaoaaGreat
