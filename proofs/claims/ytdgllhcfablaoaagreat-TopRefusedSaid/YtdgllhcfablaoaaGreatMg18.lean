/- What the law asks, in parts: ZD0. -/
import Derived.Test.YtdgllhcfablaoaaGreatMg11
import Derived.Test.YtdgllhcfablaoaaGreatMg15
set_option linter.all false
set_option maxRecDepth 100000
set_option maxHeartbeats 16000000
open Go.Proofs.Tryz renaming prog→M
set_option maxRecDepth 100000
open Go Go.Ev Go.Ev.L
namespace Go.Proofs
noncomputable section
def Ar:Fact:=⟨101,[p 33 0],224,[(29,r (k6 (i 0::yL (c 145 0 0 0::yM (k6 (i 1::i 0::yL (c 153 0 0 0::yM (k6 (i 2::i 0::yL (c 161 0 0 0::yM (k6 ([N,.fG,i 0]))))))))))) 0),(33,r [p 29 0,o 51 0 1 0,o 223 0 1 0,i 0] 0),b0,b1,b2,(145,r [] 0),(221,r (k26 ([u 0])) 2),(223,r [i 0,i 0,o 221 0 17 0] 4)],.dS [],354,[b3]⟩
def As:Fact:=⟨101,[p 33 0],440,[(29,r (k6 (i 0::yL (c 361 0 0 0::i 0::i 0::i 2::F::wU (i 1::i 0::yL (c 369 0 0 0::i 0::i 0::i 2::F::wU (i 2::i 0::yL (c 377 0 0 0::i 0::i 0::i 2::F::wU ([N,.fG,i 0])))))))) 0),(33,r [p 29 0,o 51 0 1 0,o 439 0 1 0,i 0] 0),b0,b1,b2,(361,r [] 0),(437,r (k26 ([u 0])) 2),(439,r [i 0,i 0,o 437 0 17 0] 4)],.dS [],570,[b3]⟩
def At:Fact:=⟨101,[p 33 0],656,[(29,r (k6 (i 0::yL (c 577 0 0 0::i 0::i 0::i 3::F::wU (i 1::i 0::yL (c 585 0 0 0::i 0::i 0::i 3::F::wU (i 2::i 0::yL (c 593 0 0 0::i 0::i 0::i 3::F::wU ([N,.fG,i 0])))))))) 0),(33,r [p 29 0,o 51 0 1 0,o 655 0 1 0,i 0] 0),b0,b1,b2,(577,r [] 0),(653,r (k26 ([u 0])) 2),(655,r [i 0,i 0,o 653 0 17 0] 4)],.dS [],786,[b3]⟩
def Au:Fact:=⟨101,[p 33 0],872,[(29,r (k6 (i 0::yL (c 793 0 0 0::i 0::i 0::i 4::F::wU (i 1::i 0::yL (c 801 0 0 0::i 0::i 0::i 4::F::wU (i 2::i 0::yL (c 809 0 0 0::i 0::i 0::i 4::F::wU ([N,.fG,i 0])))))))) 0),(33,r [p 29 0,o 51 0 1 0,o 871 0 1 0,i 0] 0),b0,b1,b2,(793,r [] 0),(869,r (k26 ([u 0])) 2),(871,r [i 0,i 0,o 869 0 17 0] 4)],.dS [],1002,[b3]⟩
def xf:Fact:=⟨101,[p 33 0],1099,[(29,r (k6 (k9 (c 1019 0 0 0::i 1::i 0::i 0::T::wU (i 1::i 0::yL (c 1028 0 0 0::i 0::i 0::i 5::F::wU (i 2::i 0::yL (c 1036 0 0 0::i 0::i 0::i 5::F::wU ([o 1021 0 2 0,.fG,i 0])))))))) 0),(33,r [p 29 0,o 51 0 1 0,o 1098 0 1 0,i 0] 0),b0,b1,b2,(1019,r [] 0),(1096,r (k26 ([u 0])) 2),(1098,r [i 0,i 0,o 1096 0 17 0] 4)],.dS [],1229,[b3]⟩
def xg:Fact:=⟨101,[p 33 0],1351,[(29,r (k6 (k9 (c 1272 0 0 0::i 1::i 0::i 1::T::wU (i 1::k9 (c 1280 0 0 0::yM (k6 (i 2::k9 (c 1288 0 0 0::yM (k6 ([o 1265 0 2 0,.fG,i 0])))))))))) 0),(33,r [p 29 0,o 51 0 1 0,o 1350 0 1 0,i 0] 0),b0,b1,b2,(1272,r [] 0),(1348,r (k26 ([u 0])) 2),(1350,r [i 0,i 0,o 1348 0 17 0] 4)],.dS [],1481,[b3]⟩
def xh:Fact:=⟨102,[p 29 0,i 1],1615,[(29,r (k6 (k9 (c 1611 0 2 2::i 2::i 0::k25 (i 1::i 1::i 1::i 2::i 0::i 0::T::k6 (i 1::k9 (c 1543 0 0 0::i 0::i 0::i 2::F::wU (i 2::k9 (c 1551 0 0 0::i 0::i 0::i 2::F::wU ([o 1536 0 4 0,.map 1614,i 0]))))))))) 0),(1496,r [i 1,t []] 0),(1500,r [i 1,t []] 0),(1525,r [i 1,t []] 0),(1529,r [i 1,t []] 0),(1536,r (i 3::i 0::i 1::i 1::k3 (F::c 1496 0 1 1::k17 (i 1::k3 (F::c 1500 0 1 1::t []::i 3::i 0::i 1::i 1::k3 (F::c 1525 0 1 1::k17 (i 1::k3 ([F,c 1529 0 1 1,t []]))))))) 11),(1543,r [] 0),(1551,r [] 0),(1611,r (Dy ([])) 0)],.dS [],1729,[b4,b5,b6,b7,b8,b9,b10]⟩
def xi:Fact:=⟨102,[p 29 0,i 1],1729,[b4,(1614,.map [] 0),b5,b6,b7,b8,b9,b10],.dS [],1869,[b11,b12,b13,b14,b15,b16,b17,b18]⟩
def xj:Fact:=⟨102,[p 29 0,i 1],1869,[b19,b20,b11,b12,b13,b14,b15,b16,b17,b18],.dS [],2077,[(29,r (ZJ (i 0::k0 ([i 1,o 2060 0 4 0,.map 1614,i 0]))) 0),(1614,.map [(i 1,g [i 1,i 0,i 0,i 0,i 0,i 0,i 0,N,N,N],0),(i 2,g [i 1,i 0,i 0,i 0,i 0,i 0,i 0,N,N,N],1)] 2),Z3,Z4,(2049,r [] 0),(2053,r [] 0),Z5,Z6,Z7,Z8]⟩
def xk:Fact:=⟨101,[p 33 0],2125,[b19,b20,(29,r (ZJ (i 0::k0 ([i 1,o 2060 0 4 0,.fG,i 0]))) 0),(33,r [p 29 0,o 51 0 1 0,o 2124 0 1 0,i 0] 0),(34,r [i 0,i 0,i 2,F,c 137 0 16 16,i 16,N,i 1048576] 0),(47,r [p 34 0,i 1] 0),b0,b1,b2,(78,r [T,T,T] 2),(137,r (ri (u 8::u 176::u 152::u 201::u 61::u 2::u 2::ri (ri ([])))) 0),Z3,Z4,Z5,Z6,Z7,Z8,(2122,r (k26 ([u 0])) 2),(2124,r [i 0,i 0,o 2122 0 17 0] 4)],.dS [],3012,[Z9,b3,Z_,b29,b30,b31,b32,b33,b34,b35,b36,(2834,r [] 0),(2838,r [] 0),b37,b38,b39,b40,b41,b42]⟩
def xl:Fact:=⟨102,[p 29 0,i 1],3012,[Z9,b31,b32,b33,b34,b37,b38,b39,b40],.dS [],3366,[(29,r (k6 (k9 (c 3347 0 3 3::Q1 (i 3::i 3::ZT ([.fG,i 0]))))) 0),b43,b44,b45,b46,(3338,r [] 0),(3342,r [] 0),(3347,r (k4 ([])) 0),b47,b48,b49]⟩
def xm:Fact:=⟨102,[p 29 0,i 1],3428,[(29,r (k6 (k9 (c 3424 0 4 4::Q1 (i 4::i 3::ZT ([.map 3427,i 0]))))) 0),b47,b48,b49,(3424,r (z6 ([])) 0)],.dS [],3532,[b50,b51,b52,b53,b54,b55,b56]⟩
def xn:Fact:=⟨102,[p 29 0,i 1],3532,[b50,b51,b52,b53,b54,b55,b56],.dS [],3642,[b57,b58,b59,b60,b61,b62,b63]⟩
def xp:Fact:=⟨102,[p 29 0,i 1],3642,[b57,b35,b36,(3427,.map [] 0),b58,b59,b60,b61,b62,b63],.dS [],3850,[(29,r (ZM (k0 ([i 3,o 3833 0 4 0,.map 3427,i 0]))) 0),(3427,.map [(i 4,g [i 1,i 0,i 0,i 0,i 0,i 0,i 0,N,N,N],0)] 1),Ze,Zf,(3822,r [] 0),(3826,r [] 0),Zg,b67,b68,b69]⟩
end
def ni:Facts.run M (hooks []) 100 [Ar,As,At,Au,xf,xg,xh,xi,xj,xk,xl,xm,xn,xp]=true:=by decide +kernel
def IL:bJ M Ar:=Facts.good hm (bq.nil) ni _ (.head _)
def IM:bJ M As:=Facts.good hm (bq.nil) ni _ (.tail _ (.head _))
def IN:bJ M At:=Facts.good hm (bq.nil) ni _ (.tail _ (.tail _ (.head _)))
def IP:bJ M Au:=Facts.good hm (bq.nil) ni _ (.tail _ (.tail _ (.tail _ (.head _))))
def Fm:bJ M xf:=Facts.good hm (bq.nil) ni _ (.tail _ (.tail _ (.tail _ (.tail _ (.head _)))))
def Fo:bJ M xg:=Facts.good hm (bq.nil) ni _ (.tail _ (.tail _ (.tail _ (.tail _ (.tail _ (.head _))))))
def Fp:bJ M xh:=Facts.good hm (bq.nil) ni _ (.tail _ (.tail _ (.tail _ (.tail _ (.tail _ (.tail _ (.head _)))))))
def Fq:bJ M xi:=Facts.good hm (bq.nil) ni _ (.tail _ (.tail _ (.tail _ (.tail _ (.tail _ (.tail _ (.tail _ (.head _))))))))
def Fs:bJ M xj:=Facts.good hm (bq.nil) ni _ (.tail _ (.tail _ (.tail _ (.tail _ (.tail _ (.tail _ (.tail _ (.tail _ (.head _)))))))))
def Ft:bJ M xk:=Facts.good hm (bq.nil) ni _ (.tail _ (.tail _ (.tail _ (.tail _ (.tail _ (.tail _ (.tail _ (.tail _ (.tail _ (.head _))))))))))
def Fu:bJ M xl:=Facts.good hm (bq.nil) ni _ (.tail _ (.tail _ (.tail _ (.tail _ (.tail _ (.tail _ (.tail _ (.tail _ (.tail _ (.tail _ (.head _)))))))))))
def Fv:bJ M xm:=Facts.good hm (bq.nil) ni _ (.tail _ (.tail _ (.tail _ (.tail _ (.tail _ (.tail _ (.tail _ (.tail _ (.tail _ (.tail _ (.tail _ (.head _))))))))))))
def Fw:bJ M xn:=Facts.good hm (bq.nil) ni _ (.tail _ (.tail _ (.tail _ (.tail _ (.tail _ (.tail _ (.tail _ (.tail _ (.tail _ (.tail _ (.tail _ (.tail _ (.head _)))))))))))))
def Fx:bJ M xp:=Facts.good hm (bq.nil) ni _ (.tail _ (.tail _ (.tail _ (.tail _ (.tail _ (.tail _ (.tail _ (.tail _ (.tail _ (.tail _ (.tail _ (.tail _ (.tail _ (.head _))))))))))))))
end Go.Proofs
