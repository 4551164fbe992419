/- What the law asks, in parts: ZD3. -/
import Derived.Test.YtdgllhcfablaoaaGreatMg11
import Derived.Test.YtdgllhcfablaoaaGreatMg15
set_option linter.all false
set_option maxRecDepth 100000
set_option maxHeartbeats 16000000
open Go.Proofs.Tryz renaming prog→M
set_option maxRecDepth 100000
open Go Go.Ev Go.Ev.L
namespace Go.Proofs
noncomputable section
def uO:Fact:=⟨101,[p 33 0],10409,[Rm,(33,r [p 29 0,o 51 0 1 0,o 10408 0 1 0,i 0] 0),V_,b1,b2,Wa,Ns,Nt,Nu,(10406,r (Ia ([])) 2),(10408,r [i 0,i 0,o 10406 0 15 0] 4)],.dS [],10634,[b3,Wu,Wv]⟩
end
def Zl:Facts.run M (hooks []) 100 [uO]=true:=by decide +kernel
def EF:bJ M uO:=Facts.good hm (bq.nil) Zl _ (.head _)
end Go.Proofs
