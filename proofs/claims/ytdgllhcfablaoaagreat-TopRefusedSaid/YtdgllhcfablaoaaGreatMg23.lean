/- What the law asks, in parts: ZE4. -/
import Derived.Test.YtdgllhcfablaoaaGreatMg16
import Derived.Test.YtdgllhcfablaoaaGreatMg17
import Derived.Test.YtdgllhcfablaoaaGreatMg22
set_option linter.all false
set_option maxRecDepth 100000
set_option maxHeartbeats 16000000
open Go.Proofs.Tryz renaming prog→M
set_option maxRecDepth 100000
open Go Go.Ev Go.Ev.L
namespace Go.Proofs
noncomputable section
def Yt:Fact:=⟨4,[],0,[],T,15887,[]⟩
def KJ:List (Nat×List Fact):=[(14,[MM]),(101,[uB,uG,uL]),(102,[ux,uy,uz,uA,uC,uD,uE,uF,uH,uI,uJ,uK])]
end
def Si:Facts.run M (hooks KJ) 100 [Yt]=true:=by decide +kernel
def MN:bq M KJ:=bq.cons (dI.cons rfl Pl dI.nil) (bq.cons (dI.cons rfl Er (dI.cons rfl Ex (dI.cons rfl EC dI.nil))) (bq.cons (dI.cons rfl El (dI.cons rfl Em (dI.cons rfl Eo (dI.cons rfl Ep (dI.cons rfl Es (dI.cons rfl Et (dI.cons rfl Eu (dI.cons rfl Ew (dI.cons rfl Ey (dI.cons rfl Ez (dI.cons rfl EA (dI.cons rfl EB dI.nil)))))))))))) (bq.nil)))
def Sj:bJ M Yt:=Facts.good hm (MN) Si _ (.head _)
end Go.Proofs
