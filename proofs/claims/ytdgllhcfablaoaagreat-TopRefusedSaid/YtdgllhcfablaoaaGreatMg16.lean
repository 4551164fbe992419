/- What the law asks, in parts: ZD4. -/
import Derived.Test.YtdgllhcfablaoaaGreatMg11
import Derived.Test.YtdgllhcfablaoaaGreatMg15
set_option linter.all false
set_option maxRecDepth 100000
set_option maxHeartbeats 16000000
open Go.Proofs.Tryz renaming prog→M
set_option maxRecDepth 100000
open Go Go.Ev Go.Ev.L
namespace Go.Proofs
noncomputable section
def ux:Fact:=⟨102,[p 29 0,i 1],10765,[Rm,Re,Rf,Rh,Ri,Nu,Rj,Rk,Rl],.dS [],11085,[(29,r (k6 (k9 (c 11066 0 10 10::QT (i 10::i 10::ZR ([.fG,i 0]))))) 0),Ww,Wx,Wy,Wz,(11057,r [] 0),(11061,r [] 0),(11066,r (iZ (k15 ([]))) 0),WA,WB,WC]⟩
def uy:Fact:=⟨102,[p 29 0,i 1],11147,[(29,r (k6 (k9 (c 11143 0 11 11::QT (i 11::i 10::ZR ([.map 11146,i 0]))))) 0),WA,WB,WC,(11143,r (iZ (k2 (k2 ([])))) 0)],.dS [],11265,[WD,WE,WF,WG,WH,WI,WJ]⟩
def uz:Fact:=⟨102,[p 29 0,i 1],11265,[WD,WE,WF,WG,WH,WI,WJ],.dS [],11389,[WK,WL,WM,WN,WO,WP,WQ]⟩
def uA:Fact:=⟨102,[p 29 0,i 1],11389,[WK,Ns,Nt,(11146,.map [] 0),WL,WM,WN,WO,WP,WQ],.dS [],11611,[(29,r (k6 (k9 (ZI ([o 11594 0 4 0,.map 11146,i 0])))) 0),(11146,.map [(i 11,g [i 1,i 0,i 0,i 0,i 0,i 0,i 0,N,N,N],0)] 1),WR,WS,(11583,r [] 0),(11587,r [] 0),WT,WU,WV,WW]⟩
def uB:Fact:=⟨101,[p 33 0],11678,[(29,r (k6 (k9 (ZI ([o 11594 0 4 0,.fG,i 0])))) 0),(33,r [p 29 0,o 51 0 1 0,o 11677 0 1 0,i 0] 0),(34,r [i 0,i 0,i 6,F,c 10764 0 68 68,i 68,N,i 1048576] 0),(47,r [p 34 0,i 3] 0),(48,r (Ib ([o 10684 0 3 0,i 2,i 0,i 2,i 0,i 1,i 2,i 100,o 10695 0 1 0,N,F,i 0])) 0),b1,b2,(10684,r [T,T,T] 2),(10695,r [t [97],i 3,i 2,i 4] 5),(10764,r (Z2 ([u 0])) 0),Ww,Wx,Wy,Wz,WR,WS,WT,WU,WV,WW,(11675,r (ri ([u 15,u 241,u 131,u 159,u 216,u 2,u 0,u 4,u 0,u 2,u 4,u 129,u 72,u 2,u 2,u 97,u 6,u 4,u 8,u 0])) 2),(11677,r [i 0,i 0,o 11675 0 23 0] 4)],.dS [],12801,[WX,b3,(34,r [i 0,i 0,i 8,F,c 12800 0 107 107,i 107,N,i 1048576] 0),(47,r [p 34 0,i 4] 0),WY,WZ,W8,W9,W_,Xa,Xb,Xc,Xd,Xe,Xf,Xg,(12568,r [] 0),(12572,r [] 0),Xh,Xi,Xj,Xk,Xl,Xm,Xn,(12800,r (Z2 (ri (u 0::u 31::u 116::u 206::u 250::u 177::u 8::ri (u 22::u 67::u 113::u 237::u 232::u 4::u 0::u 4::u 2::ri ([u 2,u 129,u 72,u 1,u 2,u 2,u 97,u 6,u 4,u 0,u 0,u 2,u 0,u 8,u 0]))))) 0)]⟩
def uC:Fact:=⟨102,[p 29 0,i 1],12801,[WX,WZ,W8,W9,W_,Xh,Xi,Xj,Xk],.dS [],13365,[(29,r (k6 (k9 (c 13346 0 12 12::QZ (i 12::k24 (c 13355 0 12 12::k19 (k9 (c 13363 0 12 12::k22 ([N,i 0,i 12,o 13348 0 4 0,.fG,i 0])))))))) 0),Xo,Xp,Xq,Xr,Xs,Xt,Xu,Xv,Xw,Xx,Xy,Xz,XA,XB,(13337,r [] 0),(13341,r [] 0),(13346,r (k4 (k11 ([]))) 0),XC,XD,XE]⟩
def uD:Fact:=⟨102,[p 29 0,i 1],13427,[(29,r (k6 (k9 (c 13423 0 13 13::QZ (i 13::k24 (c 13355 0 12 12::k19 (k9 (c 13363 0 12 12::k22 ([N,i 0,i 12,o 13348 0 4 0,.map 13426,i 0])))))))) 0),XC,XD,XE,(13423,r (zZ ([])) 0)],.dS [],13549,[XF,XG,XH,XI,XJ,XK,XL]⟩
def uE:Fact:=⟨102,[p 29 0,i 1],13549,[XF,XG,XH,XI,XJ,XK,XL],.dS [],13677,[XM,XN,XO,XP,XQ,XR,XS]⟩
def uF:Fact:=⟨102,[p 29 0,i 1],13677,[XM,Xa,Xb,Xc,Xd,Xe,Xf,Xg,(13426,.map [] 0),XN,XO,XP,XQ,XR,XS],.dS [],13942,[(29,r (Z1 ([.map 13426,i 0])) 0),(13426,.map [(i 13,g [i 1,i 0,i 0,i 0,i 0,i 0,i 0,N,N,N],0)] 1),Ro,Rp,Rq,Rr,Rt,Ru,Rv,(13914,r [] 0),(13918,r [] 0),Rx,XT,XU,XV]⟩
end
def sB:Facts.run M (hooks []) 100 [ux,uy,uz,uA,uB,uC,uD,uE,uF]=true:=by decide +kernel
def El:bJ M ux:=Facts.good hm (bq.nil) sB _ (.head _)
def Em:bJ M uy:=Facts.good hm (bq.nil) sB _ (.tail _ (.head _))
def Eo:bJ M uz:=Facts.good hm (bq.nil) sB _ (.tail _ (.tail _ (.head _)))
def Ep:bJ M uA:=Facts.good hm (bq.nil) sB _ (.tail _ (.tail _ (.tail _ (.head _))))
def Er:bJ M uB:=Facts.good hm (bq.nil) sB _ (.tail _ (.tail _ (.tail _ (.tail _ (.head _)))))
def Es:bJ M uC:=Facts.good hm (bq.nil) sB _ (.tail _ (.tail _ (.tail _ (.tail _ (.tail _ (.head _))))))
def Et:bJ M uD:=Facts.good hm (bq.nil) sB _ (.tail _ (.tail _ (.tail _ (.tail _ (.tail _ (.tail _ (.head _)))))))
def Eu:bJ M uE:=Facts.good hm (bq.nil) sB _ (.tail _ (.tail _ (.tail _ (.tail _ (.tail _ (.tail _ (.tail _ (.head _))))))))
def Ew:bJ M uF:=Facts.good hm (bq.nil) sB _ (.tail _ (.tail _ (.tail _ (.tail _ (.tail _ (.tail _ (.tail _ (.tail _ (.head _)))))))))
end Go.Proofs
