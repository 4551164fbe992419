/- What was run holds. -/
import Derived.Test.YtnjaeoijdjpbkaaGreatMfC
import Derived.Test.YtnjaeoijdjpbkaaGreatChecked
import Derived.Test.YtnjaeoijdjpbkaaGreatMdA
import Derived.Test.YtnjaeoijdjpbkaaGreatMdB
import Derived.Test.YtnjaeoijdjpbkaaGreatMdC
import Derived.Test.YtnjaeoijdjpbkaaGreatMdD
import Derived.Test.YtnjaeoijdjpbkaaGreatMdE
import Derived.Test.YtnjaeoijdjpbkaaGreatMdF
import Derived.Test.YtnjaeoijdjpbkaaGreatMdG
import Derived.Test.YtnjaeoijdjpbkaaGreatMdH
import Derived.Test.YtnjaeoijdjpbkaaGreatMdI
import Derived.Test.YtnjaeoijdjpbkaaGreatMdJ
import Derived.Test.YtnjaeoijdjpbkaaGreatMdK
import Derived.Test.YtnjaeoijdjpbkaaGreatMdL
import Derived.Test.YtnjaeoijdjpbkaaGreatMdM
import Derived.Test.YtnjaeoijdjpbkaaGreatMdN
import Derived.Test.YtnjaeoijdjpbkaaGreatMdO
import Derived.Test.YtnjaeoijdjpbkaaGreatMeA
import Derived.Test.YtnjaeoijdjpbkaaGreatMeB
import Derived.Test.YtnjaeoijdjpbkaaGreatMeC
import Derived.Test.YtnjaeoijdjpbkaaGreatMeD
import Derived.Test.YtnjaeoijdjpbkaaGreatMeE
import Derived.Test.YtnjaeoijdjpbkaaGreatMsm
set_option maxRecDepth 100000
set_option linter.all false
open Go Go.Ev
namespace Go.Proofs
theorem hm : Tryz.prog.follows .mixedOrders = true := by decide +kernel
end Go.Proofs
open Go Go.Ev Go.Ev.L
namespace Go.Proofs
theorem ok_x33_10765 : FactOk Tryz.prog x33_10765 := Facts.good hm (TableOk.nil) runD0 _ (.head _)
theorem ok_x33_11389 : FactOk Tryz.prog x33_11389 := Facts.good hm (TableOk.nil) runD0 _ (.tail _ (.head _))
theorem ok_x32_11678 : FactOk Tryz.prog x32_11678 := Facts.good hm (TableOk.nil) runD0 _ (.tail _ (.tail _ (.head _)))
theorem ok_x33_12801 : FactOk Tryz.prog x33_12801 := Facts.good hm (TableOk.nil) runD0 _ (.tail _ (.tail _ (.tail _ (.head _))))
theorem ok_x33_13677 : FactOk Tryz.prog x33_13677 := Facts.good hm (TableOk.nil) runD0 _ (.tail _ (.tail _ (.tail _ (.tail _ (.head _)))))
theorem ok_x32_13985 : FactOk Tryz.prog x32_13985 := Facts.good hm (TableOk.nil) runD0 _ (.tail _ (.tail _ (.tail _ (.tail _ (.tail _ (.head _))))))
end Go.Proofs
open Go Go.Ev Go.Ev.L
namespace Go.Proofs
theorem ok_x33_14257 : FactOk Tryz.prog x33_14257 := Facts.good hm (TableOk.nil) runD1 _ (.head _)
theorem ok_x33_14977 : FactOk Tryz.prog x33_14977 := Facts.good hm (TableOk.nil) runD1 _ (.tail _ (.head _))
theorem ok_x32_15287 : FactOk Tryz.prog x32_15287 := Facts.good hm (TableOk.nil) runD1 _ (.tail _ (.tail _ (.head _)))
end Go.Proofs
open Go Go.Ev Go.Ev.L
namespace Go.Proofs
theorem ok_x32_224 : FactOk Tryz.prog x32_224 := Facts.good hm (TableOk.nil) runD2 _ (.head _)
theorem ok_x32_440 : FactOk Tryz.prog x32_440 := Facts.good hm (TableOk.nil) runD2 _ (.tail _ (.head _))
theorem ok_x32_656 : FactOk Tryz.prog x32_656 := Facts.good hm (TableOk.nil) runD2 _ (.tail _ (.tail _ (.head _)))
theorem ok_x32_872 : FactOk Tryz.prog x32_872 := Facts.good hm (TableOk.nil) runD2 _ (.tail _ (.tail _ (.tail _ (.head _))))
theorem ok_x32_1099 : FactOk Tryz.prog x32_1099 := Facts.good hm (TableOk.nil) runD2 _ (.tail _ (.tail _ (.tail _ (.tail _ (.head _)))))
theorem ok_x32_1351 : FactOk Tryz.prog x32_1351 := Facts.good hm (TableOk.nil) runD2 _ (.tail _ (.tail _ (.tail _ (.tail _ (.tail _ (.head _))))))
theorem ok_x33_1615 : FactOk Tryz.prog x33_1615 := Facts.good hm (TableOk.nil) runD2 _ (.tail _ (.tail _ (.tail _ (.tail _ (.tail _ (.tail _ (.head _)))))))
theorem ok_x33_1729 : FactOk Tryz.prog x33_1729 := Facts.good hm (TableOk.nil) runD2 _ (.tail _ (.tail _ (.tail _ (.tail _ (.tail _ (.tail _ (.tail _ (.head _))))))))
theorem ok_x33_1869 : FactOk Tryz.prog x33_1869 := Facts.good hm (TableOk.nil) runD2 _ (.tail _ (.tail _ (.tail _ (.tail _ (.tail _ (.tail _ (.tail _ (.tail _ (.head _)))))))))
theorem ok_x32_2125 : FactOk Tryz.prog x32_2125 := Facts.good hm (TableOk.nil) runD2 _ (.tail _ (.tail _ (.tail _ (.tail _ (.tail _ (.tail _ (.tail _ (.tail _ (.tail _ (.head _))))))))))
theorem ok_x33_3012 : FactOk Tryz.prog x33_3012 := Facts.good hm (TableOk.nil) runD2 _ (.tail _ (.tail _ (.tail _ (.tail _ (.tail _ (.tail _ (.tail _ (.tail _ (.tail _ (.tail _ (.head _)))))))))))
theorem ok_x33_3428 : FactOk Tryz.prog x33_3428 := Facts.good hm (TableOk.nil) runD2 _ (.tail _ (.tail _ (.tail _ (.tail _ (.tail _ (.tail _ (.tail _ (.tail _ (.tail _ (.tail _ (.tail _ (.head _))))))))))))
theorem ok_x33_3532 : FactOk Tryz.prog x33_3532 := Facts.good hm (TableOk.nil) runD2 _ (.tail _ (.tail _ (.tail _ (.tail _ (.tail _ (.tail _ (.tail _ (.tail _ (.tail _ (.tail _ (.tail _ (.tail _ (.head _)))))))))))))
theorem ok_x33_3642 : FactOk Tryz.prog x33_3642 := Facts.good hm (TableOk.nil) runD2 _ (.tail _ (.tail _ (.tail _ (.tail _ (.tail _ (.tail _ (.tail _ (.tail _ (.tail _ (.tail _ (.tail _ (.tail _ (.tail _ (.head _))))))))))))))
end Go.Proofs
open Go Go.Ev Go.Ev.L
namespace Go.Proofs
theorem ok_x32_3893 : FactOk Tryz.prog x32_3893 := Facts.good hm (TableOk.nil) runD3 _ (.head _)
theorem ok_x33_4118 : FactOk Tryz.prog x33_4118 := Facts.good hm (TableOk.nil) runD3 _ (.tail _ (.head _))
theorem ok_x33_4488 : FactOk Tryz.prog x33_4488 := Facts.good hm (TableOk.nil) runD3 _ (.tail _ (.tail _ (.head _)))
theorem ok_x33_4594 : FactOk Tryz.prog x33_4594 := Facts.good hm (TableOk.nil) runD3 _ (.tail _ (.tail _ (.tail _ (.head _))))
theorem ok_x33_4706 : FactOk Tryz.prog x33_4706 := Facts.good hm (TableOk.nil) runD3 _ (.tail _ (.tail _ (.tail _ (.tail _ (.head _)))))
theorem ok_x32_4959 : FactOk Tryz.prog x32_4959 := Facts.good hm (TableOk.nil) runD3 _ (.tail _ (.tail _ (.tail _ (.tail _ (.tail _ (.head _))))))
theorem ok_x33_5184 : FactOk Tryz.prog x33_5184 := Facts.good hm (TableOk.nil) runD3 _ (.tail _ (.tail _ (.tail _ (.tail _ (.tail _ (.tail _ (.head _)))))))
theorem ok_x33_5556 : FactOk Tryz.prog x33_5556 := Facts.good hm (TableOk.nil) runD3 _ (.tail _ (.tail _ (.tail _ (.tail _ (.tail _ (.tail _ (.tail _ (.head _))))))))
theorem ok_x33_5664 : FactOk Tryz.prog x33_5664 := Facts.good hm (TableOk.nil) runD3 _ (.tail _ (.tail _ (.tail _ (.tail _ (.tail _ (.tail _ (.tail _ (.tail _ (.head _)))))))))
theorem ok_x33_5778 : FactOk Tryz.prog x33_5778 := Facts.good hm (TableOk.nil) runD3 _ (.tail _ (.tail _ (.tail _ (.tail _ (.tail _ (.tail _ (.tail _ (.tail _ (.tail _ (.head _))))))))))
theorem ok_x32_6033 : FactOk Tryz.prog x32_6033 := Facts.good hm (TableOk.nil) runD3 _ (.tail _ (.tail _ (.tail _ (.tail _ (.tail _ (.tail _ (.tail _ (.tail _ (.tail _ (.tail _ (.head _)))))))))))
theorem ok_x33_6258 : FactOk Tryz.prog x33_6258 := Facts.good hm (TableOk.nil) runD3 _ (.tail _ (.tail _ (.tail _ (.tail _ (.tail _ (.tail _ (.tail _ (.tail _ (.tail _ (.tail _ (.tail _ (.head _))))))))))))
theorem ok_x33_6632 : FactOk Tryz.prog x33_6632 := Facts.good hm (TableOk.nil) runD3 _ (.tail _ (.tail _ (.tail _ (.tail _ (.tail _ (.tail _ (.tail _ (.tail _ (.tail _ (.tail _ (.tail _ (.tail _ (.head _)))))))))))))
theorem ok_x33_6742 : FactOk Tryz.prog x33_6742 := Facts.good hm (TableOk.nil) runD3 _ (.tail _ (.tail _ (.tail _ (.tail _ (.tail _ (.tail _ (.tail _ (.tail _ (.tail _ (.tail _ (.tail _ (.tail _ (.tail _ (.head _))))))))))))))
theorem ok_x33_6858 : FactOk Tryz.prog x33_6858 := Facts.good hm (TableOk.nil) runD3 _ (.tail _ (.tail _ (.tail _ (.tail _ (.tail _ (.tail _ (.tail _ (.tail _ (.tail _ (.tail _ (.tail _ (.tail _ (.tail _ (.tail _ (.head _)))))))))))))))
end Go.Proofs
open Go Go.Ev Go.Ev.L
namespace Go.Proofs
theorem ok_x32_7115 : FactOk Tryz.prog x32_7115 := Facts.good hm (TableOk.nil) runD4 _ (.head _)
theorem ok_x33_7340 : FactOk Tryz.prog x33_7340 := Facts.good hm (TableOk.nil) runD4 _ (.tail _ (.head _))
theorem ok_x33_7716 : FactOk Tryz.prog x33_7716 := Facts.good hm (TableOk.nil) runD4 _ (.tail _ (.tail _ (.head _)))
theorem ok_x33_7828 : FactOk Tryz.prog x33_7828 := Facts.good hm (TableOk.nil) runD4 _ (.tail _ (.tail _ (.tail _ (.head _))))
theorem ok_x33_7946 : FactOk Tryz.prog x33_7946 := Facts.good hm (TableOk.nil) runD4 _ (.tail _ (.tail _ (.tail _ (.tail _ (.head _)))))
theorem ok_x32_8205 : FactOk Tryz.prog x32_8205 := Facts.good hm (TableOk.nil) runD4 _ (.tail _ (.tail _ (.tail _ (.tail _ (.tail _ (.head _))))))
theorem ok_x33_8430 : FactOk Tryz.prog x33_8430 := Facts.good hm (TableOk.nil) runD4 _ (.tail _ (.tail _ (.tail _ (.tail _ (.tail _ (.tail _ (.head _)))))))
theorem ok_x33_8808 : FactOk Tryz.prog x33_8808 := Facts.good hm (TableOk.nil) runD4 _ (.tail _ (.tail _ (.tail _ (.tail _ (.tail _ (.tail _ (.tail _ (.head _))))))))
theorem ok_x33_8922 : FactOk Tryz.prog x33_8922 := Facts.good hm (TableOk.nil) runD4 _ (.tail _ (.tail _ (.tail _ (.tail _ (.tail _ (.tail _ (.tail _ (.tail _ (.head _)))))))))
theorem ok_x33_9042 : FactOk Tryz.prog x33_9042 := Facts.good hm (TableOk.nil) runD4 _ (.tail _ (.tail _ (.tail _ (.tail _ (.tail _ (.tail _ (.tail _ (.tail _ (.tail _ (.head _))))))))))
theorem ok_x32_9303 : FactOk Tryz.prog x32_9303 := Facts.good hm (TableOk.nil) runD4 _ (.tail _ (.tail _ (.tail _ (.tail _ (.tail _ (.tail _ (.tail _ (.tail _ (.tail _ (.tail _ (.head _)))))))))))
theorem ok_x33_9528 : FactOk Tryz.prog x33_9528 := Facts.good hm (TableOk.nil) runD4 _ (.tail _ (.tail _ (.tail _ (.tail _ (.tail _ (.tail _ (.tail _ (.tail _ (.tail _ (.tail _ (.tail _ (.head _))))))))))))
theorem ok_x33_9908 : FactOk Tryz.prog x33_9908 := Facts.good hm (TableOk.nil) runD4 _ (.tail _ (.tail _ (.tail _ (.tail _ (.tail _ (.tail _ (.tail _ (.tail _ (.tail _ (.tail _ (.tail _ (.tail _ (.head _)))))))))))))
theorem ok_x33_10024 : FactOk Tryz.prog x33_10024 := Facts.good hm (TableOk.nil) runD4 _ (.tail _ (.tail _ (.tail _ (.tail _ (.tail _ (.tail _ (.tail _ (.tail _ (.tail _ (.tail _ (.tail _ (.tail _ (.tail _ (.head _))))))))))))))
theorem ok_x33_10146 : FactOk Tryz.prog x33_10146 := Facts.good hm (TableOk.nil) runD4 _ (.tail _ (.tail _ (.tail _ (.tail _ (.tail _ (.tail _ (.tail _ (.tail _ (.tail _ (.tail _ (.tail _ (.tail _ (.tail _ (.tail _ (.head _)))))))))))))))
end Go.Proofs
open Go Go.Ev Go.Ev.L
namespace Go.Proofs
theorem ok_x32_10409 : FactOk Tryz.prog x32_10409 := Facts.good hm (TableOk.nil) runD5 _ (.head _)
end Go.Proofs
open Go Go.Ev Go.Ev.L
namespace Go.Proofs
theorem ok_x32_20328 : FactOk Tryz.prog x32_20328 := Facts.good hm (TableOk.nil) runD6 _ (.head _)
theorem ok_x32_20510 : FactOk Tryz.prog x32_20510 := Facts.good hm (TableOk.nil) runD6 _ (.tail _ (.head _))
theorem ok_x32_20726 : FactOk Tryz.prog x32_20726 := Facts.good hm (TableOk.nil) runD6 _ (.tail _ (.tail _ (.head _)))
theorem ok_x32_20908 : FactOk Tryz.prog x32_20908 := Facts.good hm (TableOk.nil) runD6 _ (.tail _ (.tail _ (.tail _ (.head _))))
theorem ok_x32_21124 : FactOk Tryz.prog x32_21124 := Facts.good hm (TableOk.nil) runD6 _ (.tail _ (.tail _ (.tail _ (.tail _ (.head _)))))
theorem ok_x32_21306 : FactOk Tryz.prog x32_21306 := Facts.good hm (TableOk.nil) runD6 _ (.tail _ (.tail _ (.tail _ (.tail _ (.tail _ (.head _))))))
theorem ok_x32_21522 : FactOk Tryz.prog x32_21522 := Facts.good hm (TableOk.nil) runD6 _ (.tail _ (.tail _ (.tail _ (.tail _ (.tail _ (.tail _ (.head _)))))))
theorem ok_x32_21704 : FactOk Tryz.prog x32_21704 := Facts.good hm (TableOk.nil) runD6 _ (.tail _ (.tail _ (.tail _ (.tail _ (.tail _ (.tail _ (.tail _ (.head _))))))))
theorem ok_x32_21931 : FactOk Tryz.prog x32_21931 := Facts.good hm (TableOk.nil) runD6 _ (.tail _ (.tail _ (.tail _ (.tail _ (.tail _ (.tail _ (.tail _ (.tail _ (.head _)))))))))
theorem ok_x32_22113 : FactOk Tryz.prog x32_22113 := Facts.good hm (TableOk.nil) runD6 _ (.tail _ (.tail _ (.tail _ (.tail _ (.tail _ (.tail _ (.tail _ (.tail _ (.tail _ (.head _))))))))))
theorem ok_x32_22365 : FactOk Tryz.prog x32_22365 := Facts.good hm (TableOk.nil) runD6 _ (.tail _ (.tail _ (.tail _ (.tail _ (.tail _ (.tail _ (.tail _ (.tail _ (.tail _ (.tail _ (.head _)))))))))))
theorem ok_x32_22547 : FactOk Tryz.prog x32_22547 := Facts.good hm (TableOk.nil) runD6 _ (.tail _ (.tail _ (.tail _ (.tail _ (.tail _ (.tail _ (.tail _ (.tail _ (.tail _ (.tail _ (.tail _ (.head _))))))))))))
theorem ok_x33_22811 : FactOk Tryz.prog x33_22811 := Facts.good hm (TableOk.nil) runD6 _ (.tail _ (.tail _ (.tail _ (.tail _ (.tail _ (.tail _ (.tail _ (.tail _ (.tail _ (.tail _ (.tail _ (.tail _ (.head _)))))))))))))
theorem ok_x33_22925 : FactOk Tryz.prog x33_22925 := Facts.good hm (TableOk.nil) runD6 _ (.tail _ (.tail _ (.tail _ (.tail _ (.tail _ (.tail _ (.tail _ (.tail _ (.tail _ (.tail _ (.tail _ (.tail _ (.tail _ (.head _))))))))))))))
theorem ok_x33_23065 : FactOk Tryz.prog x33_23065 := Facts.good hm (TableOk.nil) runD6 _ (.tail _ (.tail _ (.tail _ (.tail _ (.tail _ (.tail _ (.tail _ (.tail _ (.tail _ (.tail _ (.tail _ (.tail _ (.tail _ (.tail _ (.head _)))))))))))))))
theorem ok_x32_23321 : FactOk Tryz.prog x32_23321 := Facts.good hm (TableOk.nil) runD6 _ (.tail _ (.tail _ (.tail _ (.tail _ (.tail _ (.tail _ (.tail _ (.tail _ (.tail _ (.tail _ (.tail _ (.tail _ (.tail _ (.tail _ (.tail _ (.head _))))))))))))))))
end Go.Proofs
open Go Go.Ev Go.Ev.L
namespace Go.Proofs
theorem ok_x32_24255 : FactOk Tryz.prog x32_24255 := Facts.good hm (TableOk.nil) runD7 _ (.head _)
theorem ok_x33_25196 : FactOk Tryz.prog x33_25196 := Facts.good hm (TableOk.nil) runD7 _ (.tail _ (.head _))
theorem ok_x33_25614 : FactOk Tryz.prog x33_25614 := Facts.good hm (TableOk.nil) runD7 _ (.tail _ (.tail _ (.head _)))
theorem ok_x33_25720 : FactOk Tryz.prog x33_25720 := Facts.good hm (TableOk.nil) runD7 _ (.tail _ (.tail _ (.tail _ (.head _))))
theorem ok_x33_25832 : FactOk Tryz.prog x33_25832 := Facts.good hm (TableOk.nil) runD7 _ (.tail _ (.tail _ (.tail _ (.tail _ (.head _)))))
theorem ok_x32_26085 : FactOk Tryz.prog x32_26085 := Facts.good hm (TableOk.nil) runD7 _ (.tail _ (.tail _ (.tail _ (.tail _ (.tail _ (.head _))))))
theorem ok_x32_26352 : FactOk Tryz.prog x32_26352 := Facts.good hm (TableOk.nil) runD7 _ (.tail _ (.tail _ (.tail _ (.tail _ (.tail _ (.tail _ (.head _)))))))
theorem ok_x33_26577 : FactOk Tryz.prog x33_26577 := Facts.good hm (TableOk.nil) runD7 _ (.tail _ (.tail _ (.tail _ (.tail _ (.tail _ (.tail _ (.tail _ (.head _))))))))
theorem ok_x33_26949 : FactOk Tryz.prog x33_26949 := Facts.good hm (TableOk.nil) runD7 _ (.tail _ (.tail _ (.tail _ (.tail _ (.tail _ (.tail _ (.tail _ (.tail _ (.head _)))))))))
theorem ok_x33_27057 : FactOk Tryz.prog x33_27057 := Facts.good hm (TableOk.nil) runD7 _ (.tail _ (.tail _ (.tail _ (.tail _ (.tail _ (.tail _ (.tail _ (.tail _ (.tail _ (.head _))))))))))
theorem ok_x33_27171 : FactOk Tryz.prog x33_27171 := Facts.good hm (TableOk.nil) runD7 _ (.tail _ (.tail _ (.tail _ (.tail _ (.tail _ (.tail _ (.tail _ (.tail _ (.tail _ (.tail _ (.head _)))))))))))
end Go.Proofs
open Go Go.Ev Go.Ev.L
namespace Go.Proofs
theorem ok_x32_27426 : FactOk Tryz.prog x32_27426 := Facts.good hm (TableOk.nil) runD8 _ (.head _)
theorem ok_x32_27693 : FactOk Tryz.prog x32_27693 := Facts.good hm (TableOk.nil) runD8 _ (.tail _ (.head _))
theorem ok_x33_27918 : FactOk Tryz.prog x33_27918 := Facts.good hm (TableOk.nil) runD8 _ (.tail _ (.tail _ (.head _)))
theorem ok_x33_28292 : FactOk Tryz.prog x33_28292 := Facts.good hm (TableOk.nil) runD8 _ (.tail _ (.tail _ (.tail _ (.head _))))
theorem ok_x33_28402 : FactOk Tryz.prog x33_28402 := Facts.good hm (TableOk.nil) runD8 _ (.tail _ (.tail _ (.tail _ (.tail _ (.head _)))))
theorem ok_x33_28518 : FactOk Tryz.prog x33_28518 := Facts.good hm (TableOk.nil) runD8 _ (.tail _ (.tail _ (.tail _ (.tail _ (.tail _ (.head _))))))
theorem ok_x32_28775 : FactOk Tryz.prog x32_28775 := Facts.good hm (TableOk.nil) runD8 _ (.tail _ (.tail _ (.tail _ (.tail _ (.tail _ (.tail _ (.head _)))))))
theorem ok_x32_29042 : FactOk Tryz.prog x32_29042 := Facts.good hm (TableOk.nil) runD8 _ (.tail _ (.tail _ (.tail _ (.tail _ (.tail _ (.tail _ (.tail _ (.head _))))))))
theorem ok_x33_29267 : FactOk Tryz.prog x33_29267 := Facts.good hm (TableOk.nil) runD8 _ (.tail _ (.tail _ (.tail _ (.tail _ (.tail _ (.tail _ (.tail _ (.tail _ (.head _)))))))))
theorem ok_x33_29643 : FactOk Tryz.prog x33_29643 := Facts.good hm (TableOk.nil) runD8 _ (.tail _ (.tail _ (.tail _ (.tail _ (.tail _ (.tail _ (.tail _ (.tail _ (.tail _ (.head _))))))))))
theorem ok_x33_29755 : FactOk Tryz.prog x33_29755 := Facts.good hm (TableOk.nil) runD8 _ (.tail _ (.tail _ (.tail _ (.tail _ (.tail _ (.tail _ (.tail _ (.tail _ (.tail _ (.tail _ (.head _)))))))))))
theorem ok_x33_29873 : FactOk Tryz.prog x33_29873 := Facts.good hm (TableOk.nil) runD8 _ (.tail _ (.tail _ (.tail _ (.tail _ (.tail _ (.tail _ (.tail _ (.tail _ (.tail _ (.tail _ (.tail _ (.head _))))))))))))
theorem ok_x32_30132 : FactOk Tryz.prog x32_30132 := Facts.good hm (TableOk.nil) runD8 _ (.tail _ (.tail _ (.tail _ (.tail _ (.tail _ (.tail _ (.tail _ (.tail _ (.tail _ (.tail _ (.tail _ (.tail _ (.head _)))))))))))))
theorem ok_x32_30399 : FactOk Tryz.prog x32_30399 := Facts.good hm (TableOk.nil) runD8 _ (.tail _ (.tail _ (.tail _ (.tail _ (.tail _ (.tail _ (.tail _ (.tail _ (.tail _ (.tail _ (.tail _ (.tail _ (.tail _ (.head _))))))))))))))
end Go.Proofs
open Go Go.Ev Go.Ev.L
namespace Go.Proofs
theorem ok_x33_30624 : FactOk Tryz.prog x33_30624 := Facts.good hm (TableOk.nil) runD9 _ (.head _)
theorem ok_x33_31002 : FactOk Tryz.prog x33_31002 := Facts.good hm (TableOk.nil) runD9 _ (.tail _ (.head _))
theorem ok_x33_31116 : FactOk Tryz.prog x33_31116 := Facts.good hm (TableOk.nil) runD9 _ (.tail _ (.tail _ (.head _)))
theorem ok_x33_31236 : FactOk Tryz.prog x33_31236 := Facts.good hm (TableOk.nil) runD9 _ (.tail _ (.tail _ (.tail _ (.head _))))
theorem ok_x32_31497 : FactOk Tryz.prog x32_31497 := Facts.good hm (TableOk.nil) runD9 _ (.tail _ (.tail _ (.tail _ (.tail _ (.head _)))))
theorem ok_x32_31764 : FactOk Tryz.prog x32_31764 := Facts.good hm (TableOk.nil) runD9 _ (.tail _ (.tail _ (.tail _ (.tail _ (.tail _ (.head _))))))
theorem ok_x33_31989 : FactOk Tryz.prog x33_31989 := Facts.good hm (TableOk.nil) runD9 _ (.tail _ (.tail _ (.tail _ (.tail _ (.tail _ (.tail _ (.head _)))))))
theorem ok_x33_32369 : FactOk Tryz.prog x33_32369 := Facts.good hm (TableOk.nil) runD9 _ (.tail _ (.tail _ (.tail _ (.tail _ (.tail _ (.tail _ (.tail _ (.head _))))))))
theorem ok_x33_32485 : FactOk Tryz.prog x33_32485 := Facts.good hm (TableOk.nil) runD9 _ (.tail _ (.tail _ (.tail _ (.tail _ (.tail _ (.tail _ (.tail _ (.tail _ (.head _)))))))))
theorem ok_x33_32607 : FactOk Tryz.prog x33_32607 := Facts.good hm (TableOk.nil) runD9 _ (.tail _ (.tail _ (.tail _ (.tail _ (.tail _ (.tail _ (.tail _ (.tail _ (.tail _ (.head _))))))))))
theorem ok_x32_32870 : FactOk Tryz.prog x32_32870 := Facts.good hm (TableOk.nil) runD9 _ (.tail _ (.tail _ (.tail _ (.tail _ (.tail _ (.tail _ (.tail _ (.tail _ (.tail _ (.tail _ (.head _)))))))))))
theorem ok_x32_33137 : FactOk Tryz.prog x32_33137 := Facts.good hm (TableOk.nil) runD9 _ (.tail _ (.tail _ (.tail _ (.tail _ (.tail _ (.tail _ (.tail _ (.tail _ (.tail _ (.tail _ (.tail _ (.head _))))))))))))
theorem ok_x33_33362 : FactOk Tryz.prog x33_33362 := Facts.good hm (TableOk.nil) runD9 _ (.tail _ (.tail _ (.tail _ (.tail _ (.tail _ (.tail _ (.tail _ (.tail _ (.tail _ (.tail _ (.tail _ (.tail _ (.head _)))))))))))))
theorem ok_x33_33744 : FactOk Tryz.prog x33_33744 := Facts.good hm (TableOk.nil) runD9 _ (.tail _ (.tail _ (.tail _ (.tail _ (.tail _ (.tail _ (.tail _ (.tail _ (.tail _ (.tail _ (.tail _ (.tail _ (.tail _ (.head _))))))))))))))
end Go.Proofs
open Go Go.Ev Go.Ev.L
namespace Go.Proofs
theorem ok_x33_33862 : FactOk Tryz.prog x33_33862 := Facts.good hm (TableOk.nil) runD10 _ (.head _)
theorem ok_x33_33986 : FactOk Tryz.prog x33_33986 := Facts.good hm (TableOk.nil) runD10 _ (.tail _ (.head _))
theorem ok_x32_34251 : FactOk Tryz.prog x32_34251 := Facts.good hm (TableOk.nil) runD10 _ (.tail _ (.tail _ (.head _)))
theorem ok_x32_34518 : FactOk Tryz.prog x32_34518 := Facts.good hm (TableOk.nil) runD10 _ (.tail _ (.tail _ (.tail _ (.head _))))
end Go.Proofs
open Go Go.Ev Go.Ev.L
namespace Go.Proofs
theorem ok_x33_50112 : FactOk Tryz.prog x33_50112 := Facts.good hm (TableOk.nil) runD11 _ (.head _)
theorem ok_x33_50736 : FactOk Tryz.prog x33_50736 := Facts.good hm (TableOk.nil) runD11 _ (.tail _ (.head _))
theorem ok_x32_51025 : FactOk Tryz.prog x32_51025 := Facts.good hm (TableOk.nil) runD11 _ (.tail _ (.tail _ (.head _)))
theorem ok_x33_52143 : FactOk Tryz.prog x33_52143 := Facts.good hm (TableOk.nil) runD11 _ (.tail _ (.tail _ (.tail _ (.head _))))
theorem ok_x33_53009 : FactOk Tryz.prog x33_53009 := Facts.good hm (TableOk.nil) runD11 _ (.tail _ (.tail _ (.tail _ (.tail _ (.head _)))))
theorem ok_x32_53314 : FactOk Tryz.prog x32_53314 := Facts.good hm (TableOk.nil) runD11 _ (.tail _ (.tail _ (.tail _ (.tail _ (.tail _ (.head _))))))
end Go.Proofs
open Go Go.Ev Go.Ev.L
namespace Go.Proofs
theorem ok_x33_53583 : FactOk Tryz.prog x33_53583 := Facts.good hm (TableOk.nil) runD12 _ (.head _)
theorem ok_x33_54297 : FactOk Tryz.prog x33_54297 := Facts.good hm (TableOk.nil) runD12 _ (.tail _ (.head _))
theorem ok_x32_54604 : FactOk Tryz.prog x32_54604 := Facts.good hm (TableOk.nil) runD12 _ (.tail _ (.tail _ (.head _)))
end Go.Proofs
open Go Go.Ev Go.Ev.L
namespace Go.Proofs
theorem ok_x33_60112 : FactOk Tryz.prog x33_60112 := Facts.good hm (TableOk.nil) runD13 _ (.head _)
theorem ok_x33_60742 : FactOk Tryz.prog x33_60742 := Facts.good hm (TableOk.nil) runD13 _ (.tail _ (.head _))
theorem ok_x32_61033 : FactOk Tryz.prog x32_61033 := Facts.good hm (TableOk.nil) runD13 _ (.tail _ (.tail _ (.head _)))
theorem ok_x32_62199 : FactOk Tryz.prog x32_62199 := Facts.good hm (TableOk.nil) runD13 _ (.tail _ (.tail _ (.tail _ (.head _))))
theorem ok_x33_62460 : FactOk Tryz.prog x33_62460 := Facts.good hm (TableOk.nil) runD13 _ (.tail _ (.tail _ (.tail _ (.tail _ (.head _)))))
theorem ok_x33_63332 : FactOk Tryz.prog x33_63332 := Facts.good hm (TableOk.nil) runD13 _ (.tail _ (.tail _ (.tail _ (.tail _ (.tail _ (.head _))))))
end Go.Proofs
open Go Go.Ev Go.Ev.L
namespace Go.Proofs
theorem ok_x32_63639 : FactOk Tryz.prog x32_63639 := Facts.good hm (TableOk.nil) runD14 _ (.head _)
theorem ok_x32_63950 : FactOk Tryz.prog x32_63950 := Facts.good hm (TableOk.nil) runD14 _ (.tail _ (.head _))
theorem ok_x33_64211 : FactOk Tryz.prog x33_64211 := Facts.good hm (TableOk.nil) runD14 _ (.tail _ (.tail _ (.head _)))
theorem ok_x33_64931 : FactOk Tryz.prog x33_64931 := Facts.good hm (TableOk.nil) runD14 _ (.tail _ (.tail _ (.tail _ (.head _))))
theorem ok_x32_65240 : FactOk Tryz.prog x32_65240 := Facts.good hm (TableOk.nil) runD14 _ (.tail _ (.tail _ (.tail _ (.tail _ (.head _)))))
theorem ok_x32_65551 : FactOk Tryz.prog x32_65551 := Facts.good hm (TableOk.nil) runD14 _ (.tail _ (.tail _ (.tail _ (.tail _ (.tail _ (.head _))))))
end Go.Proofs
open Go Go.Ev Go.Ev.L
namespace Go.Proofs
theorem tablex5_0 : TableOk Tryz.prog tabx5_0 := TableOk.cons (AllF.cons rfl ok_x32_224 (AllF.cons rfl ok_x32_440 (AllF.cons rfl ok_x32_656 (AllF.cons rfl ok_x32_872 (AllF.cons rfl ok_x32_1099 (AllF.cons rfl ok_x32_1351 (AllF.cons rfl ok_x32_2125 (AllF.cons rfl ok_x32_3893 (AllF.cons rfl ok_x32_4959 (AllF.cons rfl ok_x32_6033 (AllF.cons rfl ok_x32_7115 (AllF.cons rfl ok_x32_8205 (AllF.cons rfl ok_x32_9303 (AllF.cons rfl ok_x32_10409 AllF.nil)))))))))))))) (TableOk.cons (AllF.cons rfl ok_x33_1615 (AllF.cons rfl ok_x33_1729 (AllF.cons rfl ok_x33_1869 (AllF.cons rfl ok_x33_3012 (AllF.cons rfl ok_x33_3428 (AllF.cons rfl ok_x33_3532 (AllF.cons rfl ok_x33_3642 (AllF.cons rfl ok_x33_4118 (AllF.cons rfl ok_x33_4488 (AllF.cons rfl ok_x33_4594 (AllF.cons rfl ok_x33_4706 (AllF.cons rfl ok_x33_5184 (AllF.cons rfl ok_x33_5556 (AllF.cons rfl ok_x33_5664 (AllF.cons rfl ok_x33_5778 (AllF.cons rfl ok_x33_6258 (AllF.cons rfl ok_x33_6632 (AllF.cons rfl ok_x33_6742 (AllF.cons rfl ok_x33_6858 (AllF.cons rfl ok_x33_7340 (AllF.cons rfl ok_x33_7716 (AllF.cons rfl ok_x33_7828 (AllF.cons rfl ok_x33_7946 (AllF.cons rfl ok_x33_8430 (AllF.cons rfl ok_x33_8808 (AllF.cons rfl ok_x33_8922 (AllF.cons rfl ok_x33_9042 (AllF.cons rfl ok_x33_9528 (AllF.cons rfl ok_x33_9908 (AllF.cons rfl ok_x33_10024 (AllF.cons rfl ok_x33_10146 AllF.nil))))))))))))))))))))))))))))))) (TableOk.nil))
theorem ok_x5_0 : FactOk Tryz.prog x5_0 := Facts.good hm (tablex5_0) runx5_0 _ (.head _)
end Go.Proofs
open Go Go.Ev Go.Ev.L
namespace Go.Proofs
theorem tablex5_20000 : TableOk Tryz.prog tabx5_20000 := TableOk.cons (AllF.cons rfl ok_x32_20328 (AllF.cons rfl ok_x32_20510 (AllF.cons rfl ok_x32_20726 (AllF.cons rfl ok_x32_20908 (AllF.cons rfl ok_x32_21124 (AllF.cons rfl ok_x32_21306 (AllF.cons rfl ok_x32_21522 (AllF.cons rfl ok_x32_21704 (AllF.cons rfl ok_x32_21931 (AllF.cons rfl ok_x32_22113 (AllF.cons rfl ok_x32_22365 (AllF.cons rfl ok_x32_22547 (AllF.cons rfl ok_x32_23321 (AllF.cons rfl ok_x32_24255 (AllF.cons rfl ok_x32_26085 (AllF.cons rfl ok_x32_26352 (AllF.cons rfl ok_x32_27426 (AllF.cons rfl ok_x32_27693 (AllF.cons rfl ok_x32_28775 (AllF.cons rfl ok_x32_29042 (AllF.cons rfl ok_x32_30132 (AllF.cons rfl ok_x32_30399 (AllF.cons rfl ok_x32_31497 (AllF.cons rfl ok_x32_31764 (AllF.cons rfl ok_x32_32870 (AllF.cons rfl ok_x32_33137 (AllF.cons rfl ok_x32_34251 (AllF.cons rfl ok_x32_34518 AllF.nil)))))))))))))))))))))))))))) (TableOk.cons (AllF.cons rfl ok_x33_22811 (AllF.cons rfl ok_x33_22925 (AllF.cons rfl ok_x33_23065 (AllF.cons rfl ok_x33_25196 (AllF.cons rfl ok_x33_25614 (AllF.cons rfl ok_x33_25720 (AllF.cons rfl ok_x33_25832 (AllF.cons rfl ok_x33_26577 (AllF.cons rfl ok_x33_26949 (AllF.cons rfl ok_x33_27057 (AllF.cons rfl ok_x33_27171 (AllF.cons rfl ok_x33_27918 (AllF.cons rfl ok_x33_28292 (AllF.cons rfl ok_x33_28402 (AllF.cons rfl ok_x33_28518 (AllF.cons rfl ok_x33_29267 (AllF.cons rfl ok_x33_29643 (AllF.cons rfl ok_x33_29755 (AllF.cons rfl ok_x33_29873 (AllF.cons rfl ok_x33_30624 (AllF.cons rfl ok_x33_31002 (AllF.cons rfl ok_x33_31116 (AllF.cons rfl ok_x33_31236 (AllF.cons rfl ok_x33_31989 (AllF.cons rfl ok_x33_32369 (AllF.cons rfl ok_x33_32485 (AllF.cons rfl ok_x33_32607 (AllF.cons rfl ok_x33_33362 (AllF.cons rfl ok_x33_33744 (AllF.cons rfl ok_x33_33862 (AllF.cons rfl ok_x33_33986 AllF.nil))))))))))))))))))))))))))))))) (TableOk.nil))
theorem ok_x5_20000 : FactOk Tryz.prog x5_20000 := Facts.good hm (tablex5_20000) runx5_20000 _ (.head _)
end Go.Proofs
open Go Go.Ev Go.Ev.L
namespace Go.Proofs
theorem tablex6_50000 : TableOk Tryz.prog tabx6_50000 := TableOk.cons (AllF.cons rfl ok_x32_51025 (AllF.cons rfl ok_x32_53314 (AllF.cons rfl ok_x32_54604 AllF.nil))) (TableOk.cons (AllF.cons rfl ok_x33_50112 (AllF.cons rfl ok_x33_50736 (AllF.cons rfl ok_x33_52143 (AllF.cons rfl ok_x33_53009 (AllF.cons rfl ok_x33_53583 (AllF.cons rfl ok_x33_54297 AllF.nil)))))) (TableOk.nil))
theorem ok_x6_50000 : FactOk Tryz.prog x6_50000 := Facts.good hm (tablex6_50000) runx6_50000 _ (.head _)
end Go.Proofs
open Go Go.Ev Go.Ev.L
namespace Go.Proofs
theorem tablex6_60000 : TableOk Tryz.prog tabx6_60000 := TableOk.cons (AllF.cons rfl ok_x32_61033 (AllF.cons rfl ok_x32_62199 (AllF.cons rfl ok_x32_63639 (AllF.cons rfl ok_x32_63950 (AllF.cons rfl ok_x32_65240 (AllF.cons rfl ok_x32_65551 AllF.nil)))))) (TableOk.cons (AllF.cons rfl ok_x33_60112 (AllF.cons rfl ok_x33_60742 (AllF.cons rfl ok_x33_62460 (AllF.cons rfl ok_x33_63332 (AllF.cons rfl ok_x33_64211 (AllF.cons rfl ok_x33_64931 AllF.nil)))))) (TableOk.nil))
theorem ok_x6_60000 : FactOk Tryz.prog x6_60000 := Facts.good hm (tablex6_60000) runx6_60000 _ (.head _)
end Go.Proofs
open Go Go.Ev Go.Ev.L
namespace Go.Proofs
theorem tablex4_0 : TableOk Tryz.prog tabx4_0 := TableOk.cons (AllF.cons rfl ok_x5_0 AllF.nil) (TableOk.cons (AllF.cons rfl ok_x32_11678 (AllF.cons rfl ok_x32_13985 (AllF.cons rfl ok_x32_15287 AllF.nil))) (TableOk.cons (AllF.cons rfl ok_x33_10765 (AllF.cons rfl ok_x33_11389 (AllF.cons rfl ok_x33_12801 (AllF.cons rfl ok_x33_13677 (AllF.cons rfl ok_x33_14257 (AllF.cons rfl ok_x33_14977 AllF.nil)))))) (TableOk.nil)))
theorem ok_x4_0 : FactOk Tryz.prog x4_0 := Facts.good hm (tablex4_0) runx4_0 _ (.head _)
end Go.Proofs
open Go Go.Ev Go.Ev.L
namespace Go.Proofs
theorem ok_x8_0 : FactOk Tryz.prog x8_0 := Facts.good hm (TableOk.nil) runSmall _ (.head _)
theorem ok_x8_1 : FactOk Tryz.prog x8_1 := Facts.good hm (TableOk.nil) runSmall _ (.tail _ (.head _))
theorem ok_x10_2 : FactOk Tryz.prog x10_2 := Facts.good hm (TableOk.nil) runSmall _ (.tail _ (.tail _ (.head _)))
theorem ok_x10_3 : FactOk Tryz.prog x10_3 := Facts.good hm (TableOk.nil) runSmall _ (.tail _ (.tail _ (.tail _ (.head _))))
theorem ok_x11_90000 : FactOk Tryz.prog x11_90000 := Facts.good hm (TableOk.nil) runSmall _ (.tail _ (.tail _ (.tail _ (.tail _ (.head _)))))
theorem ok_x9_70000 : FactOk Tryz.prog x9_70000 := Facts.good hm (TableOk.nil) runSmall _ (.tail _ (.tail _ (.tail _ (.tail _ (.tail _ (.head _))))))
theorem ok_x11_91000 : FactOk Tryz.prog x11_91000 := Facts.good hm (TableOk.nil) runSmall _ (.tail _ (.tail _ (.tail _ (.tail _ (.tail _ (.tail _ (.head _)))))))
theorem ok_x9_71000 : FactOk Tryz.prog x9_71000 := Facts.good hm (TableOk.nil) runSmall _ (.tail _ (.tail _ (.tail _ (.tail _ (.tail _ (.tail _ (.tail _ (.head _))))))))
theorem ok_x11_92000 : FactOk Tryz.prog x11_92000 := Facts.good hm (TableOk.nil) runSmall _ (.tail _ (.tail _ (.tail _ (.tail _ (.tail _ (.tail _ (.tail _ (.tail _ (.head _)))))))))
theorem ok_x9_72000 : FactOk Tryz.prog x9_72000 := Facts.good hm (TableOk.nil) runSmall _ (.tail _ (.tail _ (.tail _ (.tail _ (.tail _ (.tail _ (.tail _ (.tail _ (.tail _ (.head _))))))))))
theorem ok_x11_93000 : FactOk Tryz.prog x11_93000 := Facts.good hm (TableOk.nil) runSmall _ (.tail _ (.tail _ (.tail _ (.tail _ (.tail _ (.tail _ (.tail _ (.tail _ (.tail _ (.tail _ (.head _)))))))))))
theorem ok_x9_73000 : FactOk Tryz.prog x9_73000 := Facts.good hm (TableOk.nil) runSmall _ (.tail _ (.tail _ (.tail _ (.tail _ (.tail _ (.tail _ (.tail _ (.tail _ (.tail _ (.tail _ (.tail _ (.head _))))))))))))
theorem ok_x11_94000 : FactOk Tryz.prog x11_94000 := Facts.good hm (TableOk.nil) runSmall _ (.tail _ (.tail _ (.tail _ (.tail _ (.tail _ (.tail _ (.tail _ (.tail _ (.tail _ (.tail _ (.tail _ (.tail _ (.head _)))))))))))))
theorem ok_x9_74000 : FactOk Tryz.prog x9_74000 := Facts.good hm (TableOk.nil) runSmall _ (.tail _ (.tail _ (.tail _ (.tail _ (.tail _ (.tail _ (.tail _ (.tail _ (.tail _ (.tail _ (.tail _ (.tail _ (.tail _ (.head _))))))))))))))
theorem ok_x11_95000 : FactOk Tryz.prog x11_95000 := Facts.good hm (TableOk.nil) runSmall _ (.tail _ (.tail _ (.tail _ (.tail _ (.tail _ (.tail _ (.tail _ (.tail _ (.tail _ (.tail _ (.tail _ (.tail _ (.tail _ (.tail _ (.head _)))))))))))))))
theorem ok_x9_75000 : FactOk Tryz.prog x9_75000 := Facts.good hm (TableOk.nil) runSmall _ (.tail _ (.tail _ (.tail _ (.tail _ (.tail _ (.tail _ (.tail _ (.tail _ (.tail _ (.tail _ (.tail _ (.tail _ (.tail _ (.tail _ (.tail _ (.head _))))))))))))))))
theorem ok_x11_96000 : FactOk Tryz.prog x11_96000 := Facts.good hm (TableOk.nil) runSmall _ (.tail _ (.tail _ (.tail _ (.tail _ (.tail _ (.tail _ (.tail _ (.tail _ (.tail _ (.tail _ (.tail _ (.tail _ (.tail _ (.tail _ (.tail _ (.tail _ (.head _)))))))))))))))))
theorem ok_x9_76000 : FactOk Tryz.prog x9_76000 := Facts.good hm (TableOk.nil) runSmall _ (.tail _ (.tail _ (.tail _ (.tail _ (.tail _ (.tail _ (.tail _ (.tail _ (.tail _ (.tail _ (.tail _ (.tail _ (.tail _ (.tail _ (.tail _ (.tail _ (.tail _ (.head _))))))))))))))))))
theorem ok_x11_97000 : FactOk Tryz.prog x11_97000 := Facts.good hm (TableOk.nil) runSmall _ (.tail _ (.tail _ (.tail _ (.tail _ (.tail _ (.tail _ (.tail _ (.tail _ (.tail _ (.tail _ (.tail _ (.tail _ (.tail _ (.tail _ (.tail _ (.tail _ (.tail _ (.tail _ (.head _)))))))))))))))))))
theorem ok_x9_77000 : FactOk Tryz.prog x9_77000 := Facts.good hm (TableOk.nil) runSmall _ (.tail _ (.tail _ (.tail _ (.tail _ (.tail _ (.tail _ (.tail _ (.tail _ (.tail _ (.tail _ (.tail _ (.tail _ (.tail _ (.tail _ (.tail _ (.tail _ (.tail _ (.tail _ (.tail _ (.head _))))))))))))))))))))
theorem ok_x11_98000 : FactOk Tryz.prog x11_98000 := Facts.good hm (TableOk.nil) runSmall _ (.tail _ (.tail _ (.tail _ (.tail _ (.tail _ (.tail _ (.tail _ (.tail _ (.tail _ (.tail _ (.tail _ (.tail _ (.tail _ (.tail _ (.tail _ (.tail _ (.tail _ (.tail _ (.tail _ (.tail _ (.head _)))))))))))))))))))))
theorem ok_x9_78000 : FactOk Tryz.prog x9_78000 := Facts.good hm (TableOk.nil) runSmall _ (.tail _ (.tail _ (.tail _ (.tail _ (.tail _ (.tail _ (.tail _ (.tail _ (.tail _ (.tail _ (.tail _ (.tail _ (.tail _ (.tail _ (.tail _ (.tail _ (.tail _ (.tail _ (.tail _ (.tail _ (.tail _ (.head _))))))))))))))))))))))
theorem ok_x11_99000 : FactOk Tryz.prog x11_99000 := Facts.good hm (TableOk.nil) runSmall _ (.tail _ (.tail _ (.tail _ (.tail _ (.tail _ (.tail _ (.tail _ (.tail _ (.tail _ (.tail _ (.tail _ (.tail _ (.tail _ (.tail _ (.tail _ (.tail _ (.tail _ (.tail _ (.tail _ (.tail _ (.tail _ (.tail _ (.head _)))))))))))))))))))))))
theorem ok_x9_79000 : FactOk Tryz.prog x9_79000 := Facts.good hm (TableOk.nil) runSmall _ (.tail _ (.tail _ (.tail _ (.tail _ (.tail _ (.tail _ (.tail _ (.tail _ (.tail _ (.tail _ (.tail _ (.tail _ (.tail _ (.tail _ (.tail _ (.tail _ (.tail _ (.tail _ (.tail _ (.tail _ (.tail _ (.tail _ (.tail _ (.head _))))))))))))))))))))))))
theorem ok_x11_100000 : FactOk Tryz.prog x11_100000 := Facts.good hm (TableOk.nil) runSmall _ (.tail _ (.tail _ (.tail _ (.tail _ (.tail _ (.tail _ (.tail _ (.tail _ (.tail _ (.tail _ (.tail _ (.tail _ (.tail _ (.tail _ (.tail _ (.tail _ (.tail _ (.tail _ (.tail _ (.tail _ (.tail _ (.tail _ (.tail _ (.tail _ (.head _)))))))))))))))))))))))))
theorem ok_x11_110000 : FactOk Tryz.prog x11_110000 := Facts.good hm (TableOk.nil) runSmall _ (.tail _ (.tail _ (.tail _ (.tail _ (.tail _ (.tail _ (.tail _ (.tail _ (.tail _ (.tail _ (.tail _ (.tail _ (.tail _ (.tail _ (.tail _ (.tail _ (.tail _ (.tail _ (.tail _ (.tail _ (.tail _ (.tail _ (.tail _ (.tail _ (.tail _ (.head _))))))))))))))))))))))))))
theorem ok_x9_120000 : FactOk Tryz.prog x9_120000 := Facts.good hm (TableOk.nil) runSmall _ (.tail _ (.tail _ (.tail _ (.tail _ (.tail _ (.tail _ (.tail _ (.tail _ (.tail _ (.tail _ (.tail _ (.tail _ (.tail _ (.tail _ (.tail _ (.tail _ (.tail _ (.tail _ (.tail _ (.tail _ (.tail _ (.tail _ (.tail _ (.tail _ (.tail _ (.tail _ (.head _)))))))))))))))))))))))))))
end Go.Proofs
