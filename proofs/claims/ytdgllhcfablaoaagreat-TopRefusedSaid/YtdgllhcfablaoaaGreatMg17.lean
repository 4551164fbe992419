/- What the law asks, in parts: ZD5. -/
import Derived.Test.YtdgllhcfablaoaaGreatMg11
import Derived.Test.YtdgllhcfablaoaaGreatMg15
set_option linter.all false
set_option maxRecDepth 100000
set_option maxHeartbeats 16000000
open Go.Proofs.Tryz renaming prog→M
set_option maxRecDepth 100000
open Go Go.Ev Go.Ev.L
namespace Go.Proofs
noncomputable section
def uG:Fact:=⟨101,[p 33 0],13985,[XW,(33,r [p 29 0,o 51 0 1 0,o 13984 0 1 0,i 0] 0),WY,b1,b2,Xl,Xm,Xn,Ro,Rp,Rq,Rr,Rt,Ru,Rv,Rx,(13982,r (Ia ([])) 2),(13984,r [i 0,i 0,o 13982 0 15 0] 4)],.dS [],14257,[b3,XX,XY,XZ,X1]⟩
def uH:Fact:=⟨102,[p 29 0,i 1],14257,[XW,Xo,Xp,Xq,Xr,Xs,Xt,Xu,Xv,Xw,Xx,Xy,Xz,XA,XB,Rx,XT,XU,XV],.dS [],14661,[(29,r (k6 (k9 (c 14642 0 13 13::QY (i 13::k18 (c 14651 0 13 13::k20 (k9 (c 14659 0 13 13::k23 ([N,i 0,i 13,o 14644 0 4 0,.fG,i 0])))))))) 0),(14437,r (Md ([i 30,i 30])) 8),(14439,r [i 4,i 40] 3),(14441,r (EV ([o 14446 0 1 0,o 14448 0 1 0,N])) 8),(14446,r (tR ([i 0])) 6),(14448,r [i 0,i 4] 3),(14455,r (tR ([i 0])) 6),(14457,r [i 0,i 4] 3),(14595,r (Md ([i 30,i 30])) 8),(14597,r [i 4,i 40] 3),(14599,r (EV ([o 14604 0 1 0,o 14606 0 1 0,N])) 8),(14604,r (tR ([i 0])) 6),(14606,r [i 0,i 4] 3),(14613,r (tR ([i 0])) 6),(14615,r [i 0,i 4] 3),(14633,r [] 0),(14637,r [] 0),(14642,r (zZ ([])) 0),X2,X3,X4]⟩
def uI:Fact:=⟨102,[p 29 0,i 1],14723,[(29,r (k6 (k9 (c 14719 0 14 14::QY (i 14::k18 (c 14651 0 13 13::k20 (k9 (c 14659 0 13 13::k23 ([N,i 0,i 13,o 14644 0 4 0,.map 14722,i 0])))))))) 0),X2,X3,X4,(14719,r (k4 (k11 (k2 ([])))) 0)],.dS [],14847,[X5,X6,X7,X8,X9,X_,Ya]⟩
def uJ:Fact:=⟨102,[p 29 0,i 1],14847,[X5,X6,X7,X8,X9,X_,Ya],.dS [],14977,[Yb,Yc,Yd,Ye,Yf,Yg,Yh]⟩
def uK:Fact:=⟨102,[p 29 0,i 1],14977,[Yb,Ro,Rp,Rq,Rr,Rt,Ru,Rv,(14722,.map [] 0),Yc,Yd,Ye,Yf,Yg,Yh],.dS [],15244,[(29,r (k6 (k9 (ZS (k23 ([N,i 0,i 13,o 15227 0 4 0,.map 14722,i 0]))))) 0),(14722,.map [(i 14,g [i 1,i 0,i 0,i 0,i 0,i 0,i 0,N,N,N],0)] 1),Yi,Yj,Yk,Yl,Ym,Yn,Yo,(15216,r [] 0),(15220,r [] 0),Yp,(15227,r (k21 (i 14::k12 (i 1::i 14::k13 (i 1::i 14::i 1::i 14::F::c 15216 0 0 0::k17 ([i 1,i 14,i 1,i 14,F,c 15220 0 0 0,t []]))))) 11),(15234,r (k4 (k11 (k2 ([])))) 0),(15242,r (k4 (k11 (k2 ([])))) 0)]⟩
def uL:Fact:=⟨101,[p 33 0],15287,[(29,r (k6 (k9 (ZS (k23 ([N,i 0,i 13,o 15227 0 4 0,.fG,i 0]))))) 0),(33,r [p 29 0,o 51 0 1 0,o 15286 0 1 0,i 0] 0),XX,b1,b2,XY,XZ,X1,Yi,Yj,Yk,Yl,Ym,Yn,Yo,Yp,(15284,r (Ia ([])) 2),(15286,r [i 0,i 0,o 15284 0 15 0] 4)],.dS [],15559,[b3,(48,r (p 47 0::i 0::i 1::EV (o 15525 0 1 0::o 15527 0 1 0::N::i 100::i 0::i 0::N::k16 (o 15529 0 3 0::i 2::Dz ([])))) 0),(15525,r (tR ([i 0])) 6),(15527,r [i 0,i 4] 3),(15529,r [T,T,T] 2)]⟩
end
def Aq:Facts.run M (hooks []) 100 [uG,uH,uI,uJ,uK,uL]=true:=by decide +kernel
def Ex:bJ M uG:=Facts.good hm (bq.nil) Aq _ (.head _)
def Ey:bJ M uH:=Facts.good hm (bq.nil) Aq _ (.tail _ (.head _))
def Ez:bJ M uI:=Facts.good hm (bq.nil) Aq _ (.tail _ (.tail _ (.head _)))
def EA:bJ M uJ:=Facts.good hm (bq.nil) Aq _ (.tail _ (.tail _ (.tail _ (.head _))))
def EB:bJ M uK:=Facts.good hm (bq.nil) Aq _ (.tail _ (.tail _ (.tail _ (.tail _ (.head _)))))
def EC:bJ M uL:=Facts.good hm (bq.nil) Aq _ (.tail _ (.tail _ (.tail _ (.tail _ (.tail _ (.head _))))))
end Go.Proofs
