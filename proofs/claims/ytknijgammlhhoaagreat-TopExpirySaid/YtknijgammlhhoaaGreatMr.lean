/- What was run holds; the worlds begin. -/
import Derived.Test.YtknijgammlhhoaaGreatMdA
import Derived.Test.YtknijgammlhhoaaGreatMdB
import Derived.Test.YtknijgammlhhoaaGreatMdC
import Derived.Test.YtknijgammlhhoaaGreatMdD
import Derived.Test.YtknijgammlhhoaaGreatMdE
import Derived.Test.YtknijgammlhhoaaGreatMdF
import Derived.Test.YtknijgammlhhoaaGreatMdG
import Derived.Test.YtknijgammlhhoaaGreatMdH
import Derived.Test.YtknijgammlhhoaaGreatMdI
import Derived.Test.YtknijgammlhhoaaGreatMdJ
import Derived.Test.YtknijgammlhhoaaGreatMdK
import Derived.Test.YtknijgammlhhoaaGreatMdL
import Derived.Test.YtknijgammlhhoaaGreatMdM
import Derived.Test.YtknijgammlhhoaaGreatMdN
import Derived.Test.YtknijgammlhhoaaGreatMdO
import Derived.Test.YtknijgammlhhoaaGreatMdP
import Derived.Test.YtknijgammlhhoaaGreatMdQ
import Derived.Test.YtknijgammlhhoaaGreatMdR
import Derived.Test.YtknijgammlhhoaaGreatMdS
import Derived.Test.YtknijgammlhhoaaGreatMdT
import Derived.Test.YtknijgammlhhoaaGreatMdU
import Derived.Test.YtknijgammlhhoaaGreatMdV
import Derived.Test.YtknijgammlhhoaaGreatMdW
import Derived.Test.YtknijgammlhhoaaGreatMdX
import Derived.Test.YtknijgammlhhoaaGreatMdY
import Derived.Test.YtknijgammlhhoaaGreatMdZ
import Derived.Test.YtknijgammlhhoaaGreatMlA
import Derived.Test.YtknijgammlhhoaaGreatMlB
import Derived.Test.YtknijgammlhhoaaGreatMk
set_option maxRecDepth 100000
set_option linter.all false
open Go Go.Ev Go.Ev.L
namespace Go.Proofs
theorem ok_y1 : RdsOk 33 0 y1 := kruns_ok hm lawsOk TableOk.nil ry1
theorem ok_y2 : RdsOk 33 0 y2 := kruns_ok hm lawsOk TableOk.nil ry2
theorem ok_y3 : RdsOk 33 0 y3 := kruns_ok hm lawsOk TableOk.nil ry3
theorem ok_y4 : RdsOk 33 0 y4 := kruns_ok hm lawsOk TableOk.nil ry4
theorem ok_y5 : RdsOk 33 0 y5 := kruns_ok hm lawsOk TableOk.nil ry5
theorem ok_y6 : RdsOk 33 0 y6 := kruns_ok hm lawsOk TableOk.nil ry6
theorem ok_y9 : RdsOk 15920 0 y9 := kruns_ok hm lawsOk TableOk.nil ry9
theorem ok_y10 : RdsOk 15920 0 y10 := kruns_ok hm lawsOk TableOk.nil ry10
theorem ok_y11 : RdsOk 15920 0 y11 := kruns_ok hm lawsOk TableOk.nil ry11
theorem ok_y12 : RdsOk 15920 0 y12 := kruns_ok hm lawsOk TableOk.nil ry12
theorem ok_y13 : RdsOk 15920 0 y13 := kruns_ok hm lawsOk TableOk.nil ry13
theorem ok_y14 : RdsOk 15920 0 y14 := kruns_ok hm lawsOk TableOk.nil ry14
theorem ok_y15 : RdsOk 15920 0 y15 := kruns_ok hm lawsOk TableOk.nil ry15
theorem ok_y16 : RdsOk 15920 0 y16 := kruns_ok hm lawsOk TableOk.nil ry16
theorem ok_y19 : RdsOk 15920 0 y19 := kruns_ok hm lawsOk TableOk.nil ry19
theorem ok_y20 : RdsOk 15920 0 y20 := kruns_ok hm lawsOk TableOk.nil ry20
theorem ok_y21 : RdsOk 15920 0 y21 := kruns_ok hm lawsOk TableOk.nil ry21
theorem ok_y22 : RdsOk 15920 0 y22 := kruns_ok hm lawsOk TableOk.nil ry22
theorem ok_y23 : RdsOk 15920 0 y23 := kruns_ok hm lawsOk TableOk.nil ry23
theorem ok_y24 : RdsOk 15920 0 y24 := kruns_ok hm lawsOk TableOk.nil ry24
theorem ok_y28 : RdsOk 15920 0 y28 := kruns_ok hm lawsOk TableOk.nil ry28
theorem ok_y29 : RdsOk 15920 0 y29 := kruns_ok hm lawsOk TableOk.nil ry29
theorem ok_y30 : RdsOk 15920 0 y30 := kruns_ok hm lawsOk TableOk.nil ry30
theorem ok_y31 : RdsOk 15920 0 y31 := kruns_ok hm lawsOk TableOk.nil ry31
theorem ok_y32 : RdsOk 15920 0 y32 := kruns_ok hm lawsOk TableOk.nil ry32
theorem ok_y33 : RdsOk 15920 0 y33 := kruns_ok hm lawsOk TableOk.nil ry33
theorem ok_y36 : RdsOk 15920 0 y36 := kruns_ok hm lawsOk TableOk.nil ry36
theorem ok_y37 : RdsOk 15920 0 y37 := kruns_ok hm lawsOk TableOk.nil ry37
theorem ok_y38 : RdsOk 15920 0 y38 := kruns_ok hm lawsOk TableOk.nil ry38
theorem ok_y39 : RdsOk 15920 0 y39 := kruns_ok hm lawsOk TableOk.nil ry39
theorem ok_y40 : RdsOk 15920 0 y40 := kruns_ok hm lawsOk TableOk.nil ry40
theorem ok_y41 : RdsOk 15920 0 y41 := kruns_ok hm lawsOk TableOk.nil ry41
theorem ok_y45 : RdsOk 15920 0 y45 := kruns_ok hm lawsOk TableOk.nil ry45
theorem ok_y46 : RdsOk 15920 0 y46 := kruns_ok hm lawsOk TableOk.nil ry46
theorem ok_y47 : RdsOk 15920 0 y47 := kruns_ok hm lawsOk TableOk.nil ry47
theorem ok_y48 : RdsOk 15920 0 y48 := kruns_ok hm lawsOk TableOk.nil ry48
theorem ok_y49 : RdsOk 15920 0 y49 := kruns_ok hm lawsOk TableOk.nil ry49
theorem ok_y50 : RdsOk 15920 0 y50 := kruns_ok hm lawsOk TableOk.nil ry50
theorem ok_y54 : RdsOk 15920 0 y54 := kruns_ok hm lawsOk TableOk.nil ry54
theorem ok_y55 : RdsOk 15920 0 y55 := kruns_ok hm lawsOk TableOk.nil ry55
theorem ok_y56 : RdsOk 15920 0 y56 := kruns_ok hm lawsOk TableOk.nil ry56
theorem ok_y57 : RdsOk 15920 0 y57 := kruns_ok hm lawsOk TableOk.nil ry57
theorem ok_y58 : RdsOk 15920 0 y58 := kruns_ok hm lawsOk TableOk.nil ry58
theorem ok_y59 : RdsOk 15920 0 y59 := kruns_ok hm lawsOk TableOk.nil ry59
theorem ok_y62 : RdsOk 15920 0 y62 := kruns_ok hm lawsOk TableOk.nil ry62
theorem ok_y63 : RdsOk 15920 0 y63 := kruns_ok hm lawsOk TableOk.nil ry63
theorem ok_y64 : RdsOk 15920 0 y64 := kruns_ok hm lawsOk TableOk.nil ry64
theorem ok_y65 : RdsOk 15920 0 y65 := kruns_ok hm lawsOk TableOk.nil ry65
theorem ok_y66 : RdsOk 15920 0 y66 := kruns_ok hm lawsOk TableOk.nil ry66
theorem ok_y67 : RdsOk 15920 0 y67 := kruns_ok hm lawsOk TableOk.nil ry67
theorem ok_y71 : RdsOk 15920 0 y71 := kruns_ok hm lawsOk TableOk.nil ry71
theorem ok_y72 : RdsOk 15920 0 y72 := kruns_ok hm lawsOk TableOk.nil ry72
theorem ok_y73 : RdsOk 15920 0 y73 := kruns_ok hm lawsOk TableOk.nil ry73
theorem ok_y74 : RdsOk 15920 0 y74 := kruns_ok hm lawsOk TableOk.nil ry74
theorem ok_y75 : RdsOk 15920 0 y75 := kruns_ok hm lawsOk TableOk.nil ry75
theorem ok_y76 : RdsOk 15920 0 y76 := kruns_ok hm lawsOk TableOk.nil ry76
theorem ok_y80 : RdsOk 15920 0 y80 := kruns_ok hm lawsOk TableOk.nil ry80
theorem ok_y81 : RdsOk 15920 0 y81 := kruns_ok hm lawsOk TableOk.nil ry81
theorem ok_y82 : RdsOk 15920 0 y82 := kruns_ok hm lawsOk TableOk.nil ry82
theorem ok_y83 : RdsOk 15920 0 y83 := kruns_ok hm lawsOk TableOk.nil ry83
theorem ok_y84 : RdsOk 15920 0 y84 := kruns_ok hm lawsOk TableOk.nil ry84
theorem ok_y85 : RdsOk 15920 0 y85 := kruns_ok hm lawsOk TableOk.nil ry85
theorem ok_y88 : RdsOk 15920 0 y88 := kruns_ok hm lawsOk TableOk.nil ry88
theorem ok_y89 : RdsOk 15920 0 y89 := kruns_ok hm lawsOk TableOk.nil ry89
theorem ok_y90 : RdsOk 15920 0 y90 := kruns_ok hm lawsOk TableOk.nil ry90
theorem ok_y91 : RdsOk 15920 0 y91 := kruns_ok hm lawsOk TableOk.nil ry91
theorem ok_y92 : RdsOk 15920 0 y92 := kruns_ok hm lawsOk TableOk.nil ry92
theorem ok_y93 : RdsOk 15920 0 y93 := kruns_ok hm lawsOk TableOk.nil ry93
theorem ok_y97 : RdsOk 15920 0 y97 := kruns_ok hm lawsOk TableOk.nil ry97
theorem ok_y98 : RdsOk 15920 0 y98 := kruns_ok hm lawsOk TableOk.nil ry98
theorem ok_y99 : RdsOk 15920 0 y99 := kruns_ok hm lawsOk TableOk.nil ry99
theorem ok_y100 : RdsOk 15920 0 y100 := kruns_ok hm lawsOk TableOk.nil ry100
theorem ok_y101 : RdsOk 15920 0 y101 := kruns_ok hm lawsOk TableOk.nil ry101
theorem ok_y102 : RdsOk 15920 0 y102 := kruns_ok hm lawsOk TableOk.nil ry102
theorem ok_y106 : RdsOk 15920 0 y106 := kruns_ok hm lawsOk TableOk.nil ry106
theorem ok_y107 : RdsOk 15920 0 y107 := kruns_ok hm lawsOk TableOk.nil ry107
theorem ok_y108 : RdsOk 15920 0 y108 := kruns_ok hm lawsOk TableOk.nil ry108
theorem ok_y109 : RdsOk 15920 0 y109 := kruns_ok hm lawsOk TableOk.nil ry109
theorem ok_y110 : RdsOk 15920 0 y110 := kruns_ok hm lawsOk TableOk.nil ry110
theorem ok_y111 : RdsOk 15920 0 y111 := kruns_ok hm lawsOk TableOk.nil ry111
theorem ok_y114 : RdsOk 15920 0 y114 := kruns_ok hm lawsOk TableOk.nil ry114
theorem ok_y115 : RdsOk 15920 0 y115 := kruns_ok hm lawsOk TableOk.nil ry115
theorem ok_y116 : RdsOk 15920 0 y116 := kruns_ok hm lawsOk TableOk.nil ry116
theorem ok_y117 : RdsOk 15920 0 y117 := kruns_ok hm lawsOk TableOk.nil ry117
theorem ok_y118 : RdsOk 15920 0 y118 := kruns_ok hm lawsOk TableOk.nil ry118
theorem ok_y119 : RdsOk 15920 0 y119 := kruns_ok hm lawsOk TableOk.nil ry119
theorem ok_y123 : RdsOk 15920 0 y123 := kruns_ok hm lawsOk TableOk.nil ry123
theorem ok_y124 : RdsOk 15920 0 y124 := kruns_ok hm lawsOk TableOk.nil ry124
theorem ok_y125 : RdsOk 15920 0 y125 := kruns_ok hm lawsOk TableOk.nil ry125
theorem ok_y126 : RdsOk 15920 0 y126 := kruns_ok hm lawsOk TableOk.nil ry126
theorem ok_y127 : RdsOk 15920 0 y127 := kruns_ok hm lawsOk TableOk.nil ry127
theorem ok_y128 : RdsOk 15920 0 y128 := kruns_ok hm lawsOk TableOk.nil ry128
theorem ok_y129 : RdsOk 15920 0 y129 := kruns_ok hm lawsOk TableOk.nil ry129
theorem ok_y133 : RdsOk 15920 0 y133 := kruns_ok hm lawsOk TableOk.nil ry133
theorem ok_y134 : RdsOk 15920 0 y134 := kruns_ok hm lawsOk TableOk.nil ry134
theorem ok_y135 : RdsOk 15920 0 y135 := kruns_ok hm lawsOk TableOk.nil ry135
theorem ok_y136 : RdsOk 15920 0 y136 := kruns_ok hm lawsOk TableOk.nil ry136
theorem ok_y137 : RdsOk 15920 0 y137 := kruns_ok hm lawsOk TableOk.nil ry137
theorem ok_y138 : RdsOk 15920 0 y138 := kruns_ok hm lawsOk TableOk.nil ry138
theorem ok_y139 : RdsOk 15920 0 y139 := kruns_ok hm lawsOk TableOk.nil ry139
theorem ok_y142 : RdsOk 15920 0 y142 := kruns_ok hm lawsOk TableOk.nil ry142
theorem ok_y143 : RdsOk 15920 0 y143 := kruns_ok hm lawsOk TableOk.nil ry143
theorem ok_y144 : RdsOk 15920 0 y144 := kruns_ok hm lawsOk TableOk.nil ry144
theorem ok_y145 : RdsOk 15920 0 y145 := kruns_ok hm lawsOk TableOk.nil ry145
theorem ok_y146 : RdsOk 15920 0 y146 := kruns_ok hm lawsOk TableOk.nil ry146
theorem ok_y147 : RdsOk 15920 0 y147 := kruns_ok hm lawsOk TableOk.nil ry147
theorem ok_y148 : RdsOk 15920 0 y148 := kruns_ok hm lawsOk TableOk.nil ry148
theorem ok_y152 : RdsOk 15920 0 y152 := kruns_ok hm lawsOk TableOk.nil ry152
theorem ok_y153 : RdsOk 15920 0 y153 := kruns_ok hm lawsOk TableOk.nil ry153
theorem ok_y154 : RdsOk 15920 0 y154 := kruns_ok hm lawsOk TableOk.nil ry154
theorem ok_y155 : RdsOk 15920 0 y155 := kruns_ok hm lawsOk TableOk.nil ry155
theorem ok_y156 : RdsOk 15920 0 y156 := kruns_ok hm lawsOk TableOk.nil ry156
theorem ok_y157 : RdsOk 15920 0 y157 := kruns_ok hm lawsOk TableOk.nil ry157
theorem ok_y158 : RdsOk 15920 0 y158 := kruns_ok hm lawsOk TableOk.nil ry158
theorem ok_y162 : RdsOk 15920 0 y162 := kruns_ok hm lawsOk TableOk.nil ry162
theorem ok_y163 : RdsOk 15920 0 y163 := kruns_ok hm lawsOk TableOk.nil ry163
theorem ok_y164 : RdsOk 15920 0 y164 := kruns_ok hm lawsOk TableOk.nil ry164
theorem ok_y165 : RdsOk 15920 0 y165 := kruns_ok hm lawsOk TableOk.nil ry165
theorem ok_y166 : RdsOk 15920 0 y166 := kruns_ok hm lawsOk TableOk.nil ry166
theorem ok_y167 : RdsOk 15920 0 y167 := kruns_ok hm lawsOk TableOk.nil ry167
theorem ok_y168 : RdsOk 15920 0 y168 := kruns_ok hm lawsOk TableOk.nil ry168
theorem ok_y171 : RdsOk 15920 0 y171 := kruns_ok hm lawsOk TableOk.nil ry171
theorem ok_y172 : RdsOk 15920 0 y172 := kruns_ok hm lawsOk TableOk.nil ry172
theorem ok_y173 : RdsOk 15920 0 y173 := kruns_ok hm lawsOk TableOk.nil ry173
theorem ok_y174 : RdsOk 15920 0 y174 := kruns_ok hm lawsOk TableOk.nil ry174
theorem ok_y175 : RdsOk 15920 0 y175 := kruns_ok hm lawsOk TableOk.nil ry175
theorem ok_y176 : RdsOk 15920 0 y176 := kruns_ok hm lawsOk TableOk.nil ry176
theorem ok_y177 : RdsOk 15920 0 y177 := kruns_ok hm lawsOk TableOk.nil ry177
theorem ok_x17 : FactOk Tryz.prog x17 := Facts.goodW hm lawsOk TableOk.nil rL0 _ (.head _)
theorem ok_x18 : FactOk Tryz.prog x18 := Facts.goodW hm lawsOk TableOk.nil rL0 _ (.tail _ (.head _))
theorem ok_x25 : FactOk Tryz.prog x25 := Facts.goodW hm lawsOk TableOk.nil rL0 _ (.tail _ (.tail _ (.head _)))
theorem ok_x27 : FactOk Tryz.prog x27 := Facts.goodW hm lawsOk TableOk.nil rL1 _ (.head _)
theorem ok_x35 : FactOk Tryz.prog x35 := Facts.goodW hm lawsOk TableOk.nil rL1 _ (.tail _ (.head _))
theorem ok_x43 : FactOk Tryz.prog x43 := Facts.goodW hm lawsOk TableOk.nil rL1 _ (.tail _ (.tail _ (.head _)))
theorem ok_x44 : FactOk Tryz.prog x44 := Facts.goodW hm lawsOk TableOk.nil rL2 _ (.head _)
theorem ok_x51 : FactOk Tryz.prog x51 := Facts.goodW hm lawsOk TableOk.nil rL2 _ (.tail _ (.head _))
theorem ok_x53 : FactOk Tryz.prog x53 := Facts.goodW hm lawsOk TableOk.nil rL2 _ (.tail _ (.tail _ (.head _)))
theorem ok_x61 : FactOk Tryz.prog x61 := Facts.goodW hm lawsOk TableOk.nil rL3 _ (.head _)
theorem ok_x69 : FactOk Tryz.prog x69 := Facts.goodW hm lawsOk TableOk.nil rL3 _ (.tail _ (.head _))
theorem ok_x70 : FactOk Tryz.prog x70 := Facts.goodW hm lawsOk TableOk.nil rL3 _ (.tail _ (.tail _ (.head _)))
theorem ok_x77 : FactOk Tryz.prog x77 := Facts.goodW hm lawsOk TableOk.nil rL4 _ (.head _)
theorem ok_x79 : FactOk Tryz.prog x79 := Facts.goodW hm lawsOk TableOk.nil rL4 _ (.tail _ (.head _))
theorem ok_x87 : FactOk Tryz.prog x87 := Facts.goodW hm lawsOk TableOk.nil rL4 _ (.tail _ (.tail _ (.head _)))
theorem ok_x95 : FactOk Tryz.prog x95 := Facts.goodW hm lawsOk TableOk.nil rL5 _ (.head _)
theorem ok_x96 : FactOk Tryz.prog x96 := Facts.goodW hm lawsOk TableOk.nil rL5 _ (.tail _ (.head _))
theorem ok_x103 : FactOk Tryz.prog x103 := Facts.goodW hm lawsOk TableOk.nil rL5 _ (.tail _ (.tail _ (.head _)))
theorem ok_x105 : FactOk Tryz.prog x105 := Facts.goodW hm lawsOk TableOk.nil rL6 _ (.head _)
theorem ok_x113 : FactOk Tryz.prog x113 := Facts.goodW hm lawsOk TableOk.nil rL6 _ (.tail _ (.head _))
theorem ok_x121 : FactOk Tryz.prog x121 := Facts.goodW hm lawsOk TableOk.nil rL6 _ (.tail _ (.tail _ (.head _)))
theorem ok_x122 : FactOk Tryz.prog x122 := Facts.goodW hm lawsOk TableOk.nil rL7 _ (.head _)
theorem ok_x130 : FactOk Tryz.prog x130 := Facts.goodW hm lawsOk TableOk.nil rL7 _ (.tail _ (.head _))
theorem ok_x132 : FactOk Tryz.prog x132 := Facts.goodW hm lawsOk TableOk.nil rL7 _ (.tail _ (.tail _ (.head _)))
theorem ok_x141 : FactOk Tryz.prog x141 := Facts.goodW hm lawsOk TableOk.nil rL8 _ (.head _)
theorem ok_x150 : FactOk Tryz.prog x150 := Facts.goodW hm lawsOk TableOk.nil rL8 _ (.tail _ (.head _))
theorem ok_x151 : FactOk Tryz.prog x151 := Facts.goodW hm lawsOk TableOk.nil rL8 _ (.tail _ (.tail _ (.head _)))
theorem ok_x159 : FactOk Tryz.prog x159 := Facts.goodW hm lawsOk TableOk.nil rL9 _ (.head _)
theorem ok_x161 : FactOk Tryz.prog x161 := Facts.goodW hm lawsOk TableOk.nil rL9 _ (.tail _ (.head _))
theorem ok_x170 : FactOk Tryz.prog x170 := Facts.goodW hm lawsOk TableOk.nil rL9 _ (.tail _ (.tail _ (.head _)))
noncomputable def z0 : Fact := ksync 33 0 (kadd (kadd (kadd y1 y2) y3) y4)
theorem ok_z0 : FactOk Tryz.prog z0 := RdsOk.sync hf9 (((ok_y1.add ok_y2 (by decide +kernel)).add ok_y3 (by decide +kernel)).add ok_y4 (by decide +kernel)) (Nat.le_of_ble_eq_true rfl)
noncomputable def z1 : Fact := ksync 33 0 (kadd y5 y6)
theorem ok_z1 : FactOk Tryz.prog z1 := RdsOk.sync hf9 (ok_y5.add ok_y6 (by decide +kernel)) (Nat.le_of_ble_eq_true rfl)
noncomputable def z2 : Fact := ksync 15920 0 (kadd (kadd (kadd (kadd y9 y10) y11) y12) y13)
theorem ok_z2 : FactOk Tryz.prog z2 := RdsOk.sync hf9 ((((ok_y9.add ok_y10 (by decide +kernel)).add ok_y11 (by decide +kernel)).add ok_y12 (by decide +kernel)).add ok_y13 (by decide +kernel)) (Nat.le_of_ble_eq_true rfl)
noncomputable def z3 : Fact := ksync 15920 0 (kadd (kadd y14 y15) y16)
theorem ok_z3 : FactOk Tryz.prog z3 := RdsOk.sync hf9 ((ok_y14.add ok_y15 (by decide +kernel)).add ok_y16 (by decide +kernel)) (Nat.le_of_ble_eq_true rfl)
noncomputable def z4 : Fact := ksync 15920 0 (kadd (kadd (kadd (kadd (kadd y19 y20) y21) y22) y23) y24)
theorem ok_z4 : FactOk Tryz.prog z4 := RdsOk.sync hf9 (((((ok_y19.add ok_y20 (by decide +kernel)).add ok_y21 (by decide +kernel)).add ok_y22 (by decide +kernel)).add ok_y23 (by decide +kernel)).add ok_y24 (by decide +kernel)) (Nat.le_of_ble_eq_true rfl)
noncomputable def z5 : Fact := ksync 15920 0 (kadd (kadd (kadd (kadd (kadd y28 y29) y30) y31) y32) y33)
theorem ok_z5 : FactOk Tryz.prog z5 := RdsOk.sync hf9 (((((ok_y28.add ok_y29 (by decide +kernel)).add ok_y30 (by decide +kernel)).add ok_y31 (by decide +kernel)).add ok_y32 (by decide +kernel)).add ok_y33 (by decide +kernel)) (Nat.le_of_ble_eq_true rfl)
noncomputable def z6 : Fact := ksync 15920 0 (kadd (kadd (kadd (kadd (kadd y36 y37) y38) y39) y40) y41)
theorem ok_z6 : FactOk Tryz.prog z6 := RdsOk.sync hf9 (((((ok_y36.add ok_y37 (by decide +kernel)).add ok_y38 (by decide +kernel)).add ok_y39 (by decide +kernel)).add ok_y40 (by decide +kernel)).add ok_y41 (by decide +kernel)) (Nat.le_of_ble_eq_true rfl)
noncomputable def z7 : Fact := ksync 15920 0 (kadd (kadd (kadd (kadd (kadd y45 y46) y47) y48) y49) y50)
theorem ok_z7 : FactOk Tryz.prog z7 := RdsOk.sync hf9 (((((ok_y45.add ok_y46 (by decide +kernel)).add ok_y47 (by decide +kernel)).add ok_y48 (by decide +kernel)).add ok_y49 (by decide +kernel)).add ok_y50 (by decide +kernel)) (Nat.le_of_ble_eq_true rfl)
noncomputable def z8 : Fact := ksync 15920 0 (kadd (kadd (kadd (kadd (kadd y54 y55) y56) y57) y58) y59)
theorem ok_z8 : FactOk Tryz.prog z8 := RdsOk.sync hf9 (((((ok_y54.add ok_y55 (by decide +kernel)).add ok_y56 (by decide +kernel)).add ok_y57 (by decide +kernel)).add ok_y58 (by decide +kernel)).add ok_y59 (by decide +kernel)) (Nat.le_of_ble_eq_true rfl)
noncomputable def z9 : Fact := ksync 15920 0 (kadd (kadd (kadd (kadd (kadd y62 y63) y64) y65) y66) y67)
theorem ok_z9 : FactOk Tryz.prog z9 := RdsOk.sync hf9 (((((ok_y62.add ok_y63 (by decide +kernel)).add ok_y64 (by decide +kernel)).add ok_y65 (by decide +kernel)).add ok_y66 (by decide +kernel)).add ok_y67 (by decide +kernel)) (Nat.le_of_ble_eq_true rfl)
noncomputable def z10 : Fact := ksync 15920 0 (kadd (kadd (kadd (kadd (kadd y71 y72) y73) y74) y75) y76)
theorem ok_z10 : FactOk Tryz.prog z10 := RdsOk.sync hf9 (((((ok_y71.add ok_y72 (by decide +kernel)).add ok_y73 (by decide +kernel)).add ok_y74 (by decide +kernel)).add ok_y75 (by decide +kernel)).add ok_y76 (by decide +kernel)) (Nat.le_of_ble_eq_true rfl)
noncomputable def z11 : Fact := ksync 15920 0 (kadd (kadd (kadd (kadd (kadd y80 y81) y82) y83) y84) y85)
theorem ok_z11 : FactOk Tryz.prog z11 := RdsOk.sync hf9 (((((ok_y80.add ok_y81 (by decide +kernel)).add ok_y82 (by decide +kernel)).add ok_y83 (by decide +kernel)).add ok_y84 (by decide +kernel)).add ok_y85 (by decide +kernel)) (Nat.le_of_ble_eq_true rfl)
noncomputable def z12 : Fact := ksync 15920 0 (kadd (kadd (kadd (kadd (kadd y88 y89) y90) y91) y92) y93)
theorem ok_z12 : FactOk Tryz.prog z12 := RdsOk.sync hf9 (((((ok_y88.add ok_y89 (by decide +kernel)).add ok_y90 (by decide +kernel)).add ok_y91 (by decide +kernel)).add ok_y92 (by decide +kernel)).add ok_y93 (by decide +kernel)) (Nat.le_of_ble_eq_true rfl)
noncomputable def z13 : Fact := ksync 15920 0 (kadd (kadd (kadd (kadd (kadd y97 y98) y99) y100) y101) y102)
theorem ok_z13 : FactOk Tryz.prog z13 := RdsOk.sync hf9 (((((ok_y97.add ok_y98 (by decide +kernel)).add ok_y99 (by decide +kernel)).add ok_y100 (by decide +kernel)).add ok_y101 (by decide +kernel)).add ok_y102 (by decide +kernel)) (Nat.le_of_ble_eq_true rfl)
noncomputable def z14 : Fact := ksync 15920 0 (kadd (kadd (kadd (kadd (kadd y106 y107) y108) y109) y110) y111)
theorem ok_z14 : FactOk Tryz.prog z14 := RdsOk.sync hf9 (((((ok_y106.add ok_y107 (by decide +kernel)).add ok_y108 (by decide +kernel)).add ok_y109 (by decide +kernel)).add ok_y110 (by decide +kernel)).add ok_y111 (by decide +kernel)) (Nat.le_of_ble_eq_true rfl)
noncomputable def z15 : Fact := ksync 15920 0 (kadd (kadd (kadd (kadd (kadd y114 y115) y116) y117) y118) y119)
theorem ok_z15 : FactOk Tryz.prog z15 := RdsOk.sync hf9 (((((ok_y114.add ok_y115 (by decide +kernel)).add ok_y116 (by decide +kernel)).add ok_y117 (by decide +kernel)).add ok_y118 (by decide +kernel)).add ok_y119 (by decide +kernel)) (Nat.le_of_ble_eq_true rfl)
noncomputable def z16 : Fact := ksync 15920 0 (kadd (kadd (kadd (kadd (kadd (kadd y123 y124) y125) y126) y127) y128) y129)
theorem ok_z16 : FactOk Tryz.prog z16 := RdsOk.sync hf9 ((((((ok_y123.add ok_y124 (by decide +kernel)).add ok_y125 (by decide +kernel)).add ok_y126 (by decide +kernel)).add ok_y127 (by decide +kernel)).add ok_y128 (by decide +kernel)).add ok_y129 (by decide +kernel)) (Nat.le_of_ble_eq_true rfl)
noncomputable def z17 : Fact := ksync 15920 0 (kadd (kadd (kadd (kadd (kadd (kadd y133 y134) y135) y136) y137) y138) y139)
theorem ok_z17 : FactOk Tryz.prog z17 := RdsOk.sync hf9 ((((((ok_y133.add ok_y134 (by decide +kernel)).add ok_y135 (by decide +kernel)).add ok_y136 (by decide +kernel)).add ok_y137 (by decide +kernel)).add ok_y138 (by decide +kernel)).add ok_y139 (by decide +kernel)) (Nat.le_of_ble_eq_true rfl)
noncomputable def z18 : Fact := ksync 15920 0 (kadd (kadd (kadd (kadd (kadd (kadd y142 y143) y144) y145) y146) y147) y148)
theorem ok_z18 : FactOk Tryz.prog z18 := RdsOk.sync hf9 ((((((ok_y142.add ok_y143 (by decide +kernel)).add ok_y144 (by decide +kernel)).add ok_y145 (by decide +kernel)).add ok_y146 (by decide +kernel)).add ok_y147 (by decide +kernel)).add ok_y148 (by decide +kernel)) (Nat.le_of_ble_eq_true rfl)
noncomputable def z19 : Fact := ksync 15920 0 (kadd (kadd (kadd (kadd (kadd (kadd y152 y153) y154) y155) y156) y157) y158)
theorem ok_z19 : FactOk Tryz.prog z19 := RdsOk.sync hf9 ((((((ok_y152.add ok_y153 (by decide +kernel)).add ok_y154 (by decide +kernel)).add ok_y155 (by decide +kernel)).add ok_y156 (by decide +kernel)).add ok_y157 (by decide +kernel)).add ok_y158 (by decide +kernel)) (Nat.le_of_ble_eq_true rfl)
noncomputable def z20 : Fact := ksync 15920 0 (kadd (kadd (kadd (kadd (kadd (kadd y162 y163) y164) y165) y166) y167) y168)
theorem ok_z20 : FactOk Tryz.prog z20 := RdsOk.sync hf9 ((((((ok_y162.add ok_y163 (by decide +kernel)).add ok_y164 (by decide +kernel)).add ok_y165 (by decide +kernel)).add ok_y166 (by decide +kernel)).add ok_y167 (by decide +kernel)).add ok_y168 (by decide +kernel)) (Nat.le_of_ble_eq_true rfl)
noncomputable def z21 : Fact := ksync 15920 0 (kadd (kadd (kadd (kadd (kadd (kadd y171 y172) y173) y174) y175) y176) y177)
theorem ok_z21 : FactOk Tryz.prog z21 := RdsOk.sync hf9 ((((((ok_y171.add ok_y172 (by decide +kernel)).add ok_y173 (by decide +kernel)).add ok_y174 (by decide +kernel)).add ok_y175 (by decide +kernel)).add ok_y176 (by decide +kernel)).add ok_y177 (by decide +kernel)) (Nat.le_of_ble_eq_true rfl)
end Go.Proofs
open Go Go.Ev Go.Ev.L
namespace Go.Proofs
noncomputable section
def x0 : Fact := ⟨5, [i 1], 0, [], p 33 0, 10653, [(24,k0),(26,k1),(29,k2),(33,k3),(34,k4),(47,k5),(48,k6),(49,k7),(51,r [p 49 0] 2),(3011,r q2 0),(9674,k0),(9676,k1),(9793,k0),(9795,k1),(10255,k0),(10257,k1),(10338,r [] 0),(10342,r [] 0),(10347,k8),(10349,k9),(10356,k8),(10364,k8),(10604,r [T,T,T] 2)]⟩
def tabx0 : List (Nat × List Fact) := [(9, [z0])]
def x8 : Fact := ⟨5, [i 2], 15887, [], p 15920 0, 30668, [(15911,k0),(15913,k1),(15916,k32),(15920,k33),(15921,k34),(15934,k35),(15935,k36),(15936,k37),(15939,k38),(15952,k39),(15953,k40),(15954,k41),(15956,k42),(20094,r q2 0),(21082,r q3 0),(29397,k0),(29399,k1),(29516,k0),(29518,k1),(29983,k0),(29985,k1),(30067,r [] 0),(30071,r [] 0),(30076,k43),(30078,k44),(30085,k43),(30093,k43),(30333,r [T,T,T] 2),(30600,r [T,T,T] 2)]⟩
def tabx8 : List (Nat × List Fact) := [(9, [z2])]
end
theorem rx0 : Facts.run Tryz.prog (hooksW laws tabx0) 100 [x0] = true := by decide +kernel
theorem tablex0 : TableOk Tryz.prog tabx0 := (TableOk.cons (AllF.cons rfl ok_z0 AllF.nil) TableOk.nil)
theorem ok_x0 : FactOk Tryz.prog x0 := Facts.goodW hm lawsOk tablex0 rx0 _ (.head _)
theorem rx8 : Facts.run Tryz.prog (hooksW laws tabx8) 100 [x8] = true := by decide +kernel
theorem tablex8 : TableOk Tryz.prog tabx8 := (TableOk.cons (AllF.cons rfl ok_z2 AllF.nil) TableOk.nil)
theorem ok_x8 : FactOk Tryz.prog x8 := Facts.goodW hm lawsOk tablex8 rx8 _ (.head _)
end Go.Proofs
open Go Go.Ev Go.Ev.L
namespace Go.Proofs
noncomputable section
def x7 : Fact := ⟨4, [], 0, [], T, 15887, []⟩
def tabx7 : List (Nat × List Fact) := [(5, [x0]), (9, [z1])]
end
theorem rx7 : Facts.run Tryz.prog (hooksW laws tabx7) 100 [x7] = true := by decide +kernel
theorem tablex7 : TableOk Tryz.prog tabx7 := (TableOk.cons (AllF.cons rfl ok_x0 AllF.nil) (TableOk.cons (AllF.cons rfl ok_z1 AllF.nil) TableOk.nil))
theorem ok_x7 : FactOk Tryz.prog x7 := Facts.goodW hm lawsOk tablex7 rx7 _ (.head _)
end Go.Proofs
