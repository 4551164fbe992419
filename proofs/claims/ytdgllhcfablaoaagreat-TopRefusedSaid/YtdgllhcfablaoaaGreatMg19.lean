/- What the law asks, in parts: ZD1. -/
import Derived.Test.YtdgllhcfablaoaaGreatMg11
import Derived.Test.YtdgllhcfablaoaaGreatMg15
set_option linter.all false
set_option maxRecDepth 100000
set_option maxHeartbeats 16000000
open Go.Proofs.Tryz renaming prog→M
set_option maxRecDepth 100000
open Go Go.Ev Go.Ev.L
namespace Go.Proofs
noncomputable section
def xq:Fact:=⟨101,[p 33 0],3893,[b70,(33,r [p 29 0,o 51 0 1 0,o 3892 0 1 0,i 0] 0),b30,b1,b2,b41,Ze,Zf,Zg,(3890,r (Ia ([])) 2),(3892,r [i 0,i 0,o 3890 0 15 0] 4)],.dS [],4118,[b3,b71,b72]⟩
def xr:Fact:=⟨102,[p 29 0,i 1],4118,[b70,b43,b44,b45,b46,Zg,b67,b68,b69],.dS [],4426,[(29,r (k6 (k9 (c 4407 0 4 4::QV (i 4::i 4::ZU ([.fG,i 0]))))) 0),b73,b74,b75,b76,(4398,r [] 0),(4402,r [] 0),(4407,r (z6 ([])) 0),b77,b78,b79]⟩
def xu:Fact:=⟨102,[p 29 0,i 1],4488,[(29,r (k6 (k9 (c 4484 0 5 5::QV (i 5::i 4::ZU ([.map 4487,i 0]))))) 0),b77,b78,b79,(4484,r (k4 (k2 ([]))) 0)],.dS [],4594,[b80,b81,b82,b83,b84,b85,b86]⟩
def xv:Fact:=⟨102,[p 29 0,i 1],4594,[b80,b81,b82,b83,b84,b85,b86],.dS [],4706,[b87,b88,b89,b90,b91,b92,b93]⟩
def xw:Fact:=⟨102,[p 29 0,i 1],4706,[b87,Ze,Zf,(4487,.map [] 0),b88,b89,b90,b91,b92,b93],.dS [],4916,[(29,r (ZN (k0 ([i 4,o 4899 0 4 0,.map 4487,i 0]))) 0),(4487,.map [(i 5,g [i 1,i 0,i 0,i 0,i 0,i 0,i 0,N,N,N],0)] 1),Zh,Zi,(4888,r [] 0),(4892,r [] 0),Zj,b97,b98,b99]⟩
def xx:Fact:=⟨101,[p 33 0],4959,[Ud,(33,r [p 29 0,o 51 0 1 0,o 4958 0 1 0,i 0] 0),b71,b1,b2,b72,Zh,Zi,Zj,(4956,r (Ia ([])) 2),(4958,r [i 0,i 0,o 4956 0 15 0] 4)],.dS [],5184,[b3,Ue,Uf]⟩
def xy:Fact:=⟨102,[p 29 0,i 1],5184,[Ud,b73,b74,b75,b76,Zj,b97,b98,b99],.dS [],5494,[(29,r (k6 (k9 (c 5475 0 5 5::QW (i 5::i 5::ZV ([.fG,i 0]))))) 0),Ug,Uh,Ui,Uj,(5466,r [] 0),(5470,r [] 0),(5475,r (k4 (k2 ([]))) 0),Uk,Ul,Um]⟩
def xz:Fact:=⟨102,[p 29 0,i 1],5556,[(29,r (k6 (k9 (c 5552 0 6 6::QW (i 6::i 5::ZV ([.map 5555,i 0]))))) 0),Uk,Ul,Um,(5552,r (k4 (k15 ([]))) 0)],.dS [],5664,[Un,Uo,Up,Uq,Ur,Us,Ut]⟩
def xA:Fact:=⟨102,[p 29 0,i 1],5664,[Un,Uo,Up,Uq,Ur,Us,Ut],.dS [],5778,[Uu,Uv,Uw,Ux,Uy,Uz,UA]⟩
def xB:Fact:=⟨102,[p 29 0,i 1],5778,[Uu,Zh,Zi,(5555,.map [] 0),Uv,Uw,Ux,Uy,Uz,UA],.dS [],5990,[(29,r (ZO (k0 ([i 5,o 5973 0 4 0,.map 5555,i 0]))) 0),(5555,.map [(i 6,g [i 1,i 0,i 0,i 0,i 0,i 0,i 0,N,N,N],0)] 1),Q2,Q3,(5962,r [] 0),(5966,r [] 0),Q4,UB,UC,UD]⟩
def xC:Fact:=⟨101,[p 33 0],6033,[UE,(33,r [p 29 0,o 51 0 1 0,o 6032 0 1 0,i 0] 0),Ue,b1,b2,Uf,Q2,Q3,Q4,(6030,r (Ia ([])) 2),(6032,r [i 0,i 0,o 6030 0 15 0] 4)],.dS [],6258,[b3,UF,UG]⟩
def xD:Fact:=⟨102,[p 29 0,i 1],6258,[UE,Ug,Uh,Ui,Uj,Q4,UB,UC,UD],.dS [],6570,[(29,r (k6 (k9 (c 6551 0 6 6::QX (i 6::i 6::ZW ([.fG,i 0]))))) 0),UH,UI,UL,UM,(6542,r [] 0),(6546,r [] 0),(6551,r (k4 (k15 ([]))) 0),UN,UO,UP]⟩
def xE:Fact:=⟨102,[p 29 0,i 1],6632,[(29,r (k6 (k9 (c 6628 0 7 7::QX (i 7::i 6::ZW ([.map 6631,i 0]))))) 0),UN,UO,UP,(6628,r (iZ ([])) 0)],.dS [],6742,[UQ,UR,US,UT,UU,UV,UW]⟩
def xF:Fact:=⟨102,[p 29 0,i 1],6742,[UQ,UR,US,UT,UU,UV,UW],.dS [],6858,[UX,UY,UZ,U1,U2,U3,U4]⟩
def xG:Fact:=⟨102,[p 29 0,i 1],6858,[UX,Q2,Q3,(6631,.map [] 0),UY,UZ,U1,U2,U3,U4],.dS [],7072,[(29,r (ZP (k0 ([i 6,o 7055 0 4 0,.map 6631,i 0]))) 0),(6631,.map [(i 7,g [i 1,i 0,i 0,i 0,i 0,i 0,i 0,N,N,N],0)] 1),Q5,Q6,(7044,r [] 0),(7048,r [] 0),Q7,U5,U6,U7]⟩
end
def mm:Facts.run M (hooks []) 100 [xq,xr,xu,xv,xw,xx,xy,xz,xA,xB,xC,xD,xE,xF,xG]=true:=by decide +kernel
def Fy:bJ M xq:=Facts.good hm (bq.nil) mm _ (.head _)
def Fz:bJ M xr:=Facts.good hm (bq.nil) mm _ (.tail _ (.head _))
def FA:bJ M xu:=Facts.good hm (bq.nil) mm _ (.tail _ (.tail _ (.head _)))
def FB:bJ M xv:=Facts.good hm (bq.nil) mm _ (.tail _ (.tail _ (.tail _ (.head _))))
def FC:bJ M xw:=Facts.good hm (bq.nil) mm _ (.tail _ (.tail _ (.tail _ (.tail _ (.head _)))))
def FD:bJ M xx:=Facts.good hm (bq.nil) mm _ (.tail _ (.tail _ (.tail _ (.tail _ (.tail _ (.head _))))))
def FE:bJ M xy:=Facts.good hm (bq.nil) mm _ (.tail _ (.tail _ (.tail _ (.tail _ (.tail _ (.tail _ (.head _)))))))
def FF:bJ M xz:=Facts.good hm (bq.nil) mm _ (.tail _ (.tail _ (.tail _ (.tail _ (.tail _ (.tail _ (.tail _ (.head _))))))))
def FG:bJ M xA:=Facts.good hm (bq.nil) mm _ (.tail _ (.tail _ (.tail _ (.tail _ (.tail _ (.tail _ (.tail _ (.tail _ (.head _)))))))))
def FH:bJ M xB:=Facts.good hm (bq.nil) mm _ (.tail _ (.tail _ (.tail _ (.tail _ (.tail _ (.tail _ (.tail _ (.tail _ (.tail _ (.head _))))))))))
def FI:bJ M xC:=Facts.good hm (bq.nil) mm _ (.tail _ (.tail _ (.tail _ (.tail _ (.tail _ (.tail _ (.tail _ (.tail _ (.tail _ (.tail _ (.head _)))))))))))
def FJ:bJ M xD:=Facts.good hm (bq.nil) mm _ (.tail _ (.tail _ (.tail _ (.tail _ (.tail _ (.tail _ (.tail _ (.tail _ (.tail _ (.tail _ (.tail _ (.head _))))))))))))
def FL:bJ M xE:=Facts.good hm (bq.nil) mm _ (.tail _ (.tail _ (.tail _ (.tail _ (.tail _ (.tail _ (.tail _ (.tail _ (.tail _ (.tail _ (.tail _ (.tail _ (.head _)))))))))))))
def FM:bJ M xF:=Facts.good hm (bq.nil) mm _ (.tail _ (.tail _ (.tail _ (.tail _ (.tail _ (.tail _ (.tail _ (.tail _ (.tail _ (.tail _ (.tail _ (.tail _ (.tail _ (.head _))))))))))))))
def FN:bJ M xG:=Facts.good hm (bq.nil) mm _ (.tail _ (.tail _ (.tail _ (.tail _ (.tail _ (.tail _ (.tail _ (.tail _ (.tail _ (.tail _ (.tail _ (.tail _ (.tail _ (.tail _ (.head _)))))))))))))))
end Go.Proofs
