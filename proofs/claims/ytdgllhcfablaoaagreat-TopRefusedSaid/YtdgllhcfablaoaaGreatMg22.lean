/- What the law asks, in parts: ZE14. -/
import Derived.Test.YtdgllhcfablaoaaGreatMg18
import Derived.Test.YtdgllhcfablaoaaGreatMg19
import Derived.Test.YtdgllhcfablaoaaGreatMg20
import Derived.Test.YtdgllhcfablaoaaGreatMg21
set_option linter.all false
set_option maxRecDepth 100000
set_option maxHeartbeats 16000000
open Go.Proofs.Tryz renaming prog→M
set_option maxRecDepth 100000
open Go Go.Ev Go.Ev.L
namespace Go.Proofs
noncomputable section
def MM:Fact:=⟨14,[i 1],0,[],p 33 0,10653,[b19,b20,Rm,b3,Z_,b29,Wu,b1,b2,b42,Re,Rf,Rh,Ri,Ns,Nt,(10338,r [] 0),(10342,r [] 0),Nu,Rj,Rk,Rl,Wv]⟩
def GY:List (Nat×List Fact):=[(101,[Ar,As,At,Au,xf,xg,xk,xq,xx,xC,xH,xM,xR,uO]),(102,[xh,xi,xj,xl,xm,xn,xp,xr,xu,xv,xw,xy,xz,xA,xB,xD,xE,xF,xG,xI,xJ,xK,xL,xN,xO,xP,xQ,xS,xT,uM,uN])]
end
def Pk:Facts.run M (hooks GY) 100 [MM]=true:=by decide +kernel
def KH:bq M GY:=bq.cons (dI.cons rfl IL (dI.cons rfl IM (dI.cons rfl IN (dI.cons rfl IP (dI.cons rfl Fm (dI.cons rfl Fo (dI.cons rfl Ft (dI.cons rfl Fy (dI.cons rfl FD (dI.cons rfl FI (dI.cons rfl FP (dI.cons rfl FU (dI.cons rfl FZ (dI.cons rfl EF dI.nil)))))))))))))) (bq.cons (dI.cons rfl Fp (dI.cons rfl Fq (dI.cons rfl Fs (dI.cons rfl Fu (dI.cons rfl Fv (dI.cons rfl Fw (dI.cons rfl Fx (dI.cons rfl Fz (dI.cons rfl FA (dI.cons rfl FB (dI.cons rfl FC (dI.cons rfl FE (dI.cons rfl FF (dI.cons rfl FG (dI.cons rfl FH (dI.cons rfl FJ (dI.cons rfl FL (dI.cons rfl FM (dI.cons rfl FN (dI.cons rfl FQ (dI.cons rfl FR (dI.cons rfl FS (dI.cons rfl FT (dI.cons rfl FV (dI.cons rfl FW (dI.cons rfl FX (dI.cons rfl FY (dI.cons rfl F1 (dI.cons rfl F2 (dI.cons rfl ED (dI.cons rfl EE dI.nil))))))))))))))))))))))))))))))) (bq.nil))
def Pl:bJ M MM:=Facts.good hm (KH) Pk _ (.head _)
end Go.Proofs
