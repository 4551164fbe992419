/- What the law asks, in parts: ZD2. -/
import Derived.Test.YtdgllhcfablaoaaGreatMg11
import Derived.Test.YtdgllhcfablaoaaGreatMg15
set_option linter.all false
set_option maxRecDepth 100000
set_option maxHeartbeats 16000000
open Go.Proofs.Tryz renaming prog→M
set_option maxRecDepth 100000
open Go Go.Ev Go.Ev.L
namespace Go.Proofs
noncomputable section
def xH:Fact:=⟨101,[p 33 0],7115,[U8,(33,r [p 29 0,o 51 0 1 0,o 7114 0 1 0,i 0] 0),UF,b1,b2,UG,Q5,Q6,Q7,(7112,r (Ia ([])) 2),(7114,r [i 0,i 0,o 7112 0 15 0] 4)],.dS [],7340,[b3,U9,U_]⟩
def xI:Fact:=⟨102,[p 29 0,i 1],7340,[U8,UH,UI,UL,UM,Q7,U5,U6,U7],.dS [],7654,[(29,r (k6 (k9 (c 7635 0 7 7::JJ (i 7::i 7::ZX ([.fG,i 0]))))) 0),Va,Vb,Vc,Vd,(7626,r [] 0),(7630,r [] 0),(7635,r (iZ ([])) 0),Ve,Vf,Vg]⟩
def xJ:Fact:=⟨102,[p 29 0,i 1],7716,[(29,r (k6 (k9 (c 7712 0 8 8::JJ (i 8::i 7::ZX ([.map 7715,i 0]))))) 0),Ve,Vf,Vg,(7712,r (z7 ([])) 0)],.dS [],7828,[Vh,Vi,Vj,Vk,Vl,Vm,Vn]⟩
def xK:Fact:=⟨102,[p 29 0,i 1],7828,[Vh,Vi,Vj,Vk,Vl,Vm,Vn],.dS [],7946,[Vo,Vp,Vq,Vr,Vs,Vt,Vu]⟩
def xL:Fact:=⟨102,[p 29 0,i 1],7946,[Vo,Q5,Q6,(7715,.map [] 0),Vp,Vq,Vr,Vs,Vt,Vu],.dS [],8162,[(29,r (ZQ (k0 ([i 7,o 8145 0 4 0,.map 7715,i 0]))) 0),(7715,.map [(i 8,g [i 1,i 0,i 0,i 0,i 0,i 0,i 0,N,N,N],0)] 1),Q8,Q9,(8134,r [] 0),(8138,r [] 0),Q_,Vv,Vw,Vx]⟩
def xM:Fact:=⟨101,[p 33 0],8205,[Vy,(33,r [p 29 0,o 51 0 1 0,o 8204 0 1 0,i 0] 0),U9,b1,b2,U_,Q8,Q9,Q_,(8202,r (Ia ([])) 2),(8204,r [i 0,i 0,o 8202 0 15 0] 4)],.dS [],8430,[b3,Vz,VA]⟩
def xN:Fact:=⟨102,[p 29 0,i 1],8430,[Vy,Va,Vb,Vc,Vd,Q_,Vv,Vw,Vx],.dS [],8746,[(29,r (k6 (k9 (c 8727 0 8 8::JK (i 8::i 8::ZY ([.fG,i 0]))))) 0),VB,VC,VD,VE,(8718,r [] 0),(8722,r [] 0),(8727,r (z7 ([])) 0),VF,VG,VH]⟩
def xO:Fact:=⟨102,[p 29 0,i 1],8808,[(29,r (k6 (k9 (c 8804 0 9 9::JK (i 9::i 8::ZY ([.map 8807,i 0]))))) 0),VF,VG,VH,(8804,r (iZ (k2 ([]))) 0)],.dS [],8922,[VI,VL,VM,VN,VO,VP,VQ]⟩
def xP:Fact:=⟨102,[p 29 0,i 1],8922,[VI,VL,VM,VN,VO,VP,VQ],.dS [],9042,[VS,VT,VU,VV,VW,VX,VY]⟩
def xQ:Fact:=⟨102,[p 29 0,i 1],9042,[VS,Q8,Q9,(8807,.map [] 0),VT,VU,VV,VW,VX,VY],.dS [],9260,[(29,r (ZL (k0 ([i 8,o 9243 0 4 0,.map 8807,i 0]))) 0),(8807,.map [(i 9,g [i 1,i 0,i 0,i 0,i 0,i 0,i 0,N,N,N],0)] 1),Ra,Rb,(9232,r [] 0),(9236,r [] 0),Rc,VZ,V6,V7]⟩
def xR:Fact:=⟨101,[p 33 0],9303,[V8,(33,r [p 29 0,o 51 0 1 0,o 9302 0 1 0,i 0] 0),Vz,b1,b2,VA,Ra,Rb,Rc,(9300,r (Ia ([])) 2),(9302,r [i 0,i 0,o 9300 0 15 0] 4)],.dS [],9528,[b3,V_,Wa]⟩
def xS:Fact:=⟨102,[p 29 0,i 1],9528,[V8,VB,VC,VD,VE,Rc,VZ,V6,V7],.dS [],9846,[(29,r (k6 (k9 (c 9827 0 9 9::QU (i 9::i 9::ZZ ([.fG,i 0]))))) 0),Re,Rf,Rh,Ri,(9818,r [] 0),(9822,r [] 0),(9827,r (iZ (k2 ([]))) 0),Wb,Wc,Wd]⟩
def xT:Fact:=⟨102,[p 29 0,i 1],9908,[(29,r (k6 (k9 (c 9904 0 10 10::QU (i 10::i 9::ZZ ([.map 9907,i 0]))))) 0),Wb,Wc,Wd,(9904,r (iZ (k15 ([]))) 0)],.dS [],10024,[We,Wf,Wg,Wh,Wi,Wj,Wk]⟩
def uM:Fact:=⟨102,[p 29 0,i 1],10024,[We,Wf,Wg,Wh,Wi,Wj,Wk],.dS [],10146,[Wl,Wm,Wo,Wp,Wq,Wr,Ws]⟩
def uN:Fact:=⟨102,[p 29 0,i 1],10146,[Wl,Ra,Rb,(9907,.map [] 0),Wm,Wo,Wp,Wq,Wr,Ws],.dS [],10366,[(29,r (ZK (k0 ([i 9,o 10349 0 4 0,.map 9907,i 0]))) 0),(9907,.map [(i 10,g [i 1,i 0,i 0,i 0,i 0,i 0,i 0,N,N,N],0)] 1),Ns,Nt,(10338,r [] 0),(10342,r [] 0),Nu,Rj,Rk,Rl]⟩
end
def mn:Facts.run M (hooks []) 100 [xH,xI,xJ,xK,xL,xM,xN,xO,xP,xQ,xR,xS,xT,uM,uN]=true:=by decide +kernel
def FP:bJ M xH:=Facts.good hm (bq.nil) mn _ (.head _)
def FQ:bJ M xI:=Facts.good hm (bq.nil) mn _ (.tail _ (.head _))
def FR:bJ M xJ:=Facts.good hm (bq.nil) mn _ (.tail _ (.tail _ (.head _)))
def FS:bJ M xK:=Facts.good hm (bq.nil) mn _ (.tail _ (.tail _ (.tail _ (.head _))))
def FT:bJ M xL:=Facts.good hm (bq.nil) mn _ (.tail _ (.tail _ (.tail _ (.tail _ (.head _)))))
def FU:bJ M xM:=Facts.good hm (bq.nil) mn _ (.tail _ (.tail _ (.tail _ (.tail _ (.tail _ (.head _))))))
def FV:bJ M xN:=Facts.good hm (bq.nil) mn _ (.tail _ (.tail _ (.tail _ (.tail _ (.tail _ (.tail _ (.head _)))))))
def FW:bJ M xO:=Facts.good hm (bq.nil) mn _ (.tail _ (.tail _ (.tail _ (.tail _ (.tail _ (.tail _ (.tail _ (.head _))))))))
def FX:bJ M xP:=Facts.good hm (bq.nil) mn _ (.tail _ (.tail _ (.tail _ (.tail _ (.tail _ (.tail _ (.tail _ (.tail _ (.head _)))))))))
def FY:bJ M xQ:=Facts.good hm (bq.nil) mn _ (.tail _ (.tail _ (.tail _ (.tail _ (.tail _ (.tail _ (.tail _ (.tail _ (.tail _ (.head _))))))))))
def FZ:bJ M xR:=Facts.good hm (bq.nil) mn _ (.tail _ (.tail _ (.tail _ (.tail _ (.tail _ (.tail _ (.tail _ (.tail _ (.tail _ (.tail _ (.head _)))))))))))
def F1:bJ M xS:=Facts.good hm (bq.nil) mn _ (.tail _ (.tail _ (.tail _ (.tail _ (.tail _ (.tail _ (.tail _ (.tail _ (.tail _ (.tail _ (.tail _ (.head _))))))))))))
def F2:bJ M xT:=Facts.good hm (bq.nil) mn _ (.tail _ (.tail _ (.tail _ (.tail _ (.tail _ (.tail _ (.tail _ (.tail _ (.tail _ (.tail _ (.tail _ (.tail _ (.head _)))))))))))))
def ED:bJ M uM:=Facts.good hm (bq.nil) mn _ (.tail _ (.tail _ (.tail _ (.tail _ (.tail _ (.tail _ (.tail _ (.tail _ (.tail _ (.tail _ (.tail _ (.tail _ (.tail _ (.head _))))))))))))))
def EE:bJ M uN:=Facts.good hm (bq.nil) mn _ (.tail _ (.tail _ (.tail _ (.tail _ (.tail _ (.tail _ (.tail _ (.tail _ (.tail _ (.tail _ (.tail _ (.tail _ (.tail _ (.tail _ (.head _)))))))))))))))
end Go.Proofs
