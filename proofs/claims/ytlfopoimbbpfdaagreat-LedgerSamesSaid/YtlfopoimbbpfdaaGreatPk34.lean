/- What the law asks, in parts: LWkF Bb Bc. -/
import Derived.Deep.DrawnRows
import Derived.Test.YtlfopoimbbpfdaaGreatPk3
import Derived.Test.YtlfopoimbbpfdaaGreatPk33
set_option linter.all false
namespace Go.Proofs.YtlfopoimbbpfdaaGreat
open Go.RowKit
set_option maxRecDepth 100000 in
set_option maxHeartbeats 8000000 in
theorem pF (x y:bZ) (a b:Bk) (w:World) (h:eD w x a) (h':eD w y b):
  Calls Tryz.prog 17 #[fT x,fT y] w fun e w'=>e= .returned (.bool (decide (a=b)))∧Below w.heap.size w w':=by
 obtain⟨⟨ca,cn,cc⟩,⟨fa,aX,fc⟩,⟨la,ln,lc⟩,⟨ba,b_n,bc⟩⟩:=x
 obtain⟨⟨Jl,R8,cc'⟩,⟨GH,sH,GI⟩,⟨GJ,PS,Ed⟩,⟨ba',qJ,bc'⟩⟩:=y
 obtain⟨a1,a2,a3,a4⟩:=a
 obtain⟨b1,b2,b3,b4⟩:=b
 obtain⟨hc,hf,hl,hb0⟩:=h
 obtain⟨hc',hf',hl',Sk⟩:=h'
 generalize hres:decide ((⟨a1,a2,a3,a4⟩:Bk)=⟨b1,b2,b3,b4⟩)=res
 have eO:=ah hres
 clear hres
 obtain⟨xs,hx,hxa⟩:=hl
 obtain⟨ys,hy,hya⟩:=hl'
 obtain⟨hn,hcap,hm⟩:=Sl.lens hc
 obtain⟨hn',j6,hm'⟩:=Sl.lens hc'
 obtain⟨hn2,hcap2,hm2⟩:=Sl.lens hx
 obtain⟨Sm,Mi,abw⟩:=Sl.lens hy
 have hlx:=hxa.len
 have PO:=hya.len
 simp only at hc hf hx hb0 hc' hf' hy Sk hn hcap hm hn' j6 hm' hn2 hcap2 hm2 Sm Mi abw hlx PO hxa hya
 rw[hlx]at hn2 hcap2
 rw[PO]at Sm Mi
 subst hn hn' hn2 Sm
 have JR:=ah hlx
 have Ua:=ah PO
 clear hlx PO
 have hb1:Below w.heap.size w ((w.alloc (.cells #[.slice ca a1.length cc,.slice fa aX fc,.slice la a3.length lc,.slice ba b_n bc] 30)).alloc (.cells #[.slice Jl b1.length cc',.slice GH sH GI,.slice GJ b3.length Ed,.slice ba' qJ bc'] 30)):=((aL _ _).alloc (aC _) _).alloc (by simp) _
 have k1:=bJ w (.cells #[.slice ca a1.length cc,.slice fa aX fc,.slice la a3.length lc,.slice ba b_n bc] 30) (.cells #[.slice Jl b1.length cc',.slice GH sH GI,.slice GJ b3.length Ed,.slice ba' qJ bc'] 30)
 have k2:=bE w (.cells #[.slice ca a1.length cc,.slice fa aX fc,.slice la a3.length lc,.slice ba b_n bc] 30) (.cells #[.slice Jl b1.length cc',.slice GH sH GI,.slice GJ b3.length Ed,.slice ba' qJ bc'] 30)
 have hz2:w.heap.size+1<((w.alloc (.cells #[.slice ca a1.length cc,.slice fa aX fc,.slice la a3.length lc,.slice ba b_n bc] 30)).alloc (.cells #[.slice Jl b1.length cc',.slice GH sH GI,.slice GJ b3.length Ed,.slice ba' qJ bc'] 30)).heap.size:=by simp
 have gF:=ah k1
 have fJ:=ah k2
 clear k1 k2
 change Calls Tryz.prog _ #[.agg #[.slice ca a1.length cc,.slice fa aX fc,.slice la a3.length lc,.slice ba b_n bc],.agg #[.slice Jl b1.length cc',.slice GH sH GI,.slice GJ b3.length Ed,.slice ba' qJ bc']] w _
 go_enter Tryz.func17,Tryz.ntmps17
 go_upto_region 1 with fail
 generalize (w.alloc (.cells #[.slice ca a1.length cc,.slice fa aX fc,.slice la a3.length lc,.slice ba b_n bc] 30)).alloc (.cells #[.slice Jl b1.length cc',.slice GH sH GI,.slice GJ b3.length Ed,.slice ba' qJ bc'] 30)=w2 at*
 have hc2:=cK.keep hc hb1 (aC _)
 have hc2':=cK.keep hc' hb1 (aC _)
 have hf2:=fq.keep hf hb1 (aC _)
 have Xa:=fq.keep hf' hb1 (aC _)
 have hx2:=cK.keep hx hb1 (aC _)
 have hy2:=cK.keep hy hb1 (aC _)
 have hu2:=iW.keep hb0 hb1 (aC _)
 have Ny:=iW.keep Sk hb1 (aC _)
 have q_:=ah (bI.imp (fun _ _ r=>lW.keep r hb1 (aC _)) hxa)
 have jU:=ah (bI.imp (fun _ _ r=>lW.keep r hb1 (aC _)) hya)
 clear hc hc' hf hf' hx hy hb0 Sk hxa hya
 go_cut[0,1,38] (fun _ _ v38 wx=>v38= .bool (!(decide (a1.length=b1.length)&&(decide (a3.length=b3.length)&&(decide (a2=b2)&&decide (a4=b4)))))∧Below w2.heap.size w2 wx)
 case first=>
  obtain⟨q0,q1,q2,q3,_⟩:=ay gF.out
  obtain⟨p0,p1,p2,p3,_⟩:=ay fJ.out
  have KS:Hid (∀W,Below w2.heap.size w2 W→(W.cell? ⟨w.heap.size,3,none⟩=some (.slice ba b_n bc)∧W.cell? ⟨w.heap.size+1,3,none⟩=some (.slice ba' qJ bc'))):=fun W hW=>⟨by rw[hW.cell (p:=⟨w.heap.size,3,none⟩) (by show w.heap.size<_;omega)];exact q3,by rw[hW.cell (p:=⟨w.heap.size+1,3,none⟩) hz2];exact p3⟩
  go_wp2_with (first
   | (go_at_call 60;refine(Ca _ _ _ _ _ hf2 Xa).mono ?_;rintro e w3 ⟨rfl,hb3⟩;obtain⟨c6,c6'⟩:=KS.out _ hb3)
   | (go_at_call 61;refine(Cb _ _ _ _ _ (iW.keep hu2 hb3 (aC _)) (iW.keep Ny hb3 (aC _))).mono ?_;rintro e w4 ⟨rfl,hb4⟩))
  all_goals go_meet
  all_goals refine⟨?_,?_⟩
  all_goals first
   | exact hb3.trans (hb4.mono hb3.size)
   | exact hb3
   | exact aL _ _
   | (simp [*];done)
   | (simp [*];omega)
   | (have gl:a1.length=b1.length:=by omega
      have gl2:a3.length=b3.length:=by omega
      simp[*];done)
   | (have gl:¬a1.length=b1.length:=by omega
      simp[*];done)
   | (have gl:¬a3.length=b3.length:=by omega
      simp[*];done)
   | (have gl:a1.length=b1.length:=by omega
      have gl2:¬a3.length=b3.length:=by omega
      simp[*];done)
 case rest=>
 obtain⟨hv,hb⟩:=hcut
 generalize hbb:(decide (a1.length=b1.length)&&(decide (a3.length=b3.length)&&(decide (a2=b2)&&decide (a4=b4))))=bb at*
 subst hv
 have OH:Hid (decide (a1=b1)=false∨decide (a3=b3)=false∨bb=false→res=false):=fun hh=>by
  rw[←eO.out,decide_eq_false_iff_not]
  intro e
  injection e with e1 e2 e3 e4
  subst e1 e2 e3 e4
  rcases hh with hh | hh | hh
  ·simp at hh
  ·simp at hh
  ·rw[hh]at hbb;simp at hbb
 cases bb with
 | false=>
  have lN:=hb1.trans (hb.mono hb1.size)
  clear hbb
  go_wp2
  go_ret
  exact⟨aN (by rw[OH.out (.inr (.inr (by first | rfl | trivial)))]),lN⟩
 | true=>
  simp only[Bool.and_eq_true,decide_eq_true_iff]at hbb
  obtain⟨e1,e2,e3,e4⟩:=hbb
  have HTF:Hid (a1=b1→a3=b3→res=true):=fun h1 h2=>by
   rw[←eO.out]
   subst h1 h2 e3 e4
   simp
  have HLEN:=ah e1
  have PX:=ah e2
  clear e1 e2 e3 e4
  go_upto_block 0 with fail
  go_cut[5] (fun _ wx=>a1=b1∧Below w2.heap.size w2 wx)
  case first=>
   go_wp2
   go_loopw[5] (fun vi wr=>∃k:Nat,k≤a1.length∧vi= .int .i64 k∧a1.take k=b1.take k∧Below w2.heap.size w2 wr) (fun vi _=>a1.length-(intOf vi).toNat)
   case atStart=>exact⟨0,Nat.zero_le _,rfl,rfl,hb⟩
   case round=>
    obtain⟨k,hk,rfl,htk,hbr⟩:=hrel
    have HT:=ah htk
    clear htk
    obtain⟨q0,q1,q2,q3,_⟩:=ay (aj gF.out hbr (by omega))
    obtain⟨p0,p1,p2,p3,_⟩:=ay (aj fJ.out hbr hz2)
    clear q1 q2 q3 p1 p2 p3
    rcases Nat.lt_or_ge k a1.length with hlt | hge
    ·have oI:k<b1.length:=by rw[←HLEN.out];exact hlt
     obtain⟨b,off,rfl,hbl,c0,c1,c2,c3,c4,c5,c6⟩:=cK.ct hc2 hbr (aC _) k hlt
     obtain⟨b',off',rfl,yD,d0,d1,d2,d3,d4,d5,d6⟩:=cK.ct hc2' hbr (aC _) k oI
     have HS:Hid (a1[k]=b1[k]→a1.take (k+1)=b1.take (k+1)):=fun hh=>by rw[aV a1 k hlt,aV b1 k oI,HT.out,hh]
     have jk:Hid (a1[k]≠b1[k]→decide (a1=b1)=false):=fun hh=>by
      rw[decide_eq_false_iff_not];rintro rfl;exact hh rfl
     have hbe:Below w.heap.size w wr:=hb1.trans (hbr.mono hb1.size)
     have iG:(k:Int)<a1.length:=by omega
     have Uk:(k:Int)<b1.length:=by omega
     generalize a1[k]=r at*
     generalize b1[k]=r' at*
     obtain⟨r1,r2,r3,r4,r5,r6,r7⟩:=r
     obtain⟨t1,t2,t3,t4,t5,t6,t7⟩:=r'
     simp only at c0 c1 c2 c3 c4 c5 c6 d0 d1 d2 d3 d4 d5 d6
     by_cases g0:r1=t1
     ·subst g0
      by_cases g1:r2=t2
      ·subst g1
       by_cases g2:r3=t3
       ·subst g2
        by_cases g3:r4=t4
        ·subst g3
         by_cases g4:r5=t5
         ·subst g4
          by_cases g5:r6=t6
          ·subst g5
           by_cases g6:r7=t7
           ·subst g6
            have Ul:=ah (HS.out (by first | rfl | trivial))
            clear HS jk
            go_wp2
            go_quiet (fail)
            go_wp2
            go_roundw
            case rel=>exact⟨k+1,by omega,by go_num,Ul.out,below_drewN hbr _⟩
            case measure=>simp[intOf];omega
           ·have s1:(r7==t7)=false:=by simpa using g6
            have HN:=ah g6
            clear g6
            have oK:=ah (jk.out (by intro e;injection e with e1 e2 e3 e4 e5 e6 e7;exact HN.out e7))
            clear HS jk
            go_wp2
            go_quiet (fail)
            go_wp2
            go_ret
            exact⟨aN (by rw[OH.out (.inl oK.out)]),below_drewN hbe _⟩
          ·have s1:(r6==t6)=false:=by simpa using g5
           have HN:=ah g5
           clear g5
           have oK:=ah (jk.out (by intro e;injection e with e1 e2 e3 e4 e5 e6 e7;exact HN.out e6))
           clear HS jk
           go_wp2
           go_quiet (fail)
           go_wp2
           go_ret
           exact⟨aN (by rw[OH.out (.inl oK.out)]),below_drewN hbe _⟩
         ·have s1:(r5==t5)=false:=by simpa using g4
          have HN:=ah g4
          clear g4
          have oK:=ah (jk.out (by intro e;injection e with e1 e2 e3 e4 e5 e6 e7;exact HN.out e5))
          clear HS jk
          go_wp2
          go_quiet (fail)
          go_wp2
          go_ret
          exact⟨aN (by rw[OH.out (.inl oK.out)]),below_drewN hbe _⟩
        ·have s1:(r4==t4)=false:=by simpa using g3
         have HN:=ah g3
         clear g3
         have oK:=ah (jk.out (by intro e;injection e with e1 e2 e3 e4 e5 e6 e7;exact HN.out e4))
         clear HS jk
         go_wp2
         go_quiet (fail)
         go_wp2
         go_ret
         exact⟨aN (by rw[OH.out (.inl oK.out)]),below_drewN hbe _⟩
       ·have s1:(r3==t3)=false:=by simpa using g2
        have HN:=ah g2
        clear g2
        have oK:=ah (jk.out (by intro e;injection e with e1 e2 e3 e4 e5 e6 e7;exact HN.out e3))
        clear HS jk
        go_wp2
        go_quiet (fail)
        go_wp2
        go_ret
        exact⟨aN (by rw[OH.out (.inl oK.out)]),below_drewN hbe _⟩
      ·have s1:(r2==t2)=false:=by simpa using g1
       have HN:=ah g1
       clear g1
       have oK:=ah (jk.out (by intro e;injection e with e1 e2 e3 e4 e5 e6 e7;exact HN.out e2))
       clear HS jk
       go_wp2
       go_quiet (fail)
       go_wp2
       go_ret
       exact⟨aN (by rw[OH.out (.inl oK.out)]),below_drewN hbe _⟩
     ·have s1:(r1.toList==t1.toList)=false:=by rw[key_eq];simpa using g0
      have HN:=ah g0
      clear g0
      have oK:=ah (jk.out (by intro e;injection e with e1 e2 e3 e4 e5 e6 e7;exact HN.out e1))
      clear HS jk
      go_wp2
      go_quiet (fail)
      go_wp2
      go_ret
      exact⟨aN (by rw[OH.out (.inl oK.out)]),below_drewN hbe _⟩
    ·have e1:decide (k<a1.length)=false:=by simpa using hge
     have Um:Hid (a1=b1):=by
      show _=_
      have:=HT.out
      rw[List.take_of_length_le (by omega),List.take_of_length_le (by have:=HLEN.out;omega)]at this
      exact this
     go_wp2
     go_meet
     exact⟨Um.out,hbr⟩
  case rest=>
  obtain⟨he1,hbc⟩:=hcut
  have HE1:=ah he1
  clear he1 hb
  go_wp2
  go_loopw[6] (fun vi wr=>∃k:Nat,k≤a3.length∧vi= .int .i64 k∧a3.take k=b3.take k∧Below w2.heap.size w2 wr) (fun vi _=>a3.length-(intOf vi).toNat)
  case atStart=>exact⟨0,Nat.zero_le _,rfl,rfl,hbc⟩
  case round=>
   obtain⟨k,hk,rfl,htk,hbr⟩:=hrel
   have HT:=ah htk
   clear htk hbc
   have hbe:Below w.heap.size w wr:=hb1.trans (hbr.mono hb1.size)
   obtain⟨_,_,n2,_,_⟩:=ay (aj gF.out hbr (by omega))
   rcases Nat.lt_or_ge k a3.length with hlt | hge
   ·have oI:k<b3.length:=by rw[←PX.out];exact hlt
    have hltx:k<xs.length:=by rw[JR.out];exact hlt
    have hlty:k<ys.length:=by rw[Ua.out];exact oI
    have hMx:=bI.at q_.out k hltx hlt
    have hMy:=bI.at jU.out k hlty oI
    rw[←JR.out]at hx2
    rw[←Ua.out]at hy2
    obtain⟨b,off,rfl,hbl,-⟩:=cK.ls hx2 hbr (aC _) k hltx
    obtain⟨b',off',rfl,yD,-⟩:=cK.ls hy2 hbr (aC _) k hlty
    have KS:Hid (∀W,Below w2.heap.size w2 W→(Below w2.heap.size w2 W∧
      W.cell? ⟨w.heap.size,2,none⟩=some (.slice (some ⟨b,off,none⟩) a3.length lc)∧W.cell? ⟨w.heap.size+1,2,none⟩=some (.slice (some ⟨b',off',none⟩) b3.length Ed)∧
      W.cell? ⟨b,off+k*7,none⟩=some (.int .i64 xs[k].dev)∧W.cell? ⟨b,off+k*7+1,none⟩=some (.int .i64 xs[k].epoch)∧W.cell? ⟨b,off+k*7+2,none⟩=some (.int .i64 xs[k].bY)∧W.cell? ⟨b,off+k*7+3,none⟩=some (.int .i64 xs[k].last)∧W.cell? ⟨b,off+k*7+4,none⟩=some xs[k].s.v∧W.cell? ⟨b,off+k*7+5,none⟩=some xs[k].i.v∧W.cell? ⟨b,off+k*7+6,none⟩=some xs[k].u.v∧
      W.cell? ⟨b',off'+k*7,none⟩=some (.int .i64 ys[k].dev)∧W.cell? ⟨b',off'+k*7+1,none⟩=some (.int .i64 ys[k].epoch)∧W.cell? ⟨b',off'+k*7+2,none⟩=some (.int .i64 ys[k].bY)∧W.cell? ⟨b',off'+k*7+3,none⟩=some (.int .i64 ys[k].last)∧W.cell? ⟨b',off'+k*7+4,none⟩=some ys[k].s.v∧W.cell? ⟨b',off'+k*7+5,none⟩=some ys[k].i.v∧W.cell? ⟨b',off'+k*7+6,none⟩=some ys[k].u.v)):=fun W hW=>by
     obtain⟨q0,q1,q2,q3,_⟩:=ay (aj gF.out hW (by omega))
     obtain⟨p0,p1,p2,p3,_⟩:=ay (aj fJ.out hW hz2)
     obtain⟨_,_,he,_,c0,c1,c2,c3,c4,c5,c6⟩:=cK.ls hx2 hW (aC _) k hltx
     obtain⟨_,_,he',_,d0,d1,d2,d3,d4,d5,d6⟩:=cK.ls hy2 hW (aC _) k hlty
     injection he with he
     injection he with he1 he2 _
     injection he' with he'
     injection he' with abx aby _
     subst he1 he2 abx aby
     exact⟨hW,q2,p2,c0,c1,c2,c3,c4,c5,c6,d0,d1,d2,d3,d4,d5,d6⟩
    have HS:Hid (decide (a3[k]=b3[k])=true→a3.take (k+1)=b3.take (k+1)):=fun hh=>by rw[aV a3 k hlt,aV b3 k oI,HT.out,of_decide_eq_true hh]
    have jk:Hid (decide (a3[k]=b3[k])=false→decide (a3=b3)=false):=fun hh=>by
     rw[decide_eq_false_iff_not]at hh ⊢;rintro rfl;exact hh rfl
    have HSL:Hid (∀W,Below w2.heap.size w2 W→Calls Tryz.prog 27 #[nI xs[k],nI ys[k]] W fun e w'=>e= .returned (.bool (decide (a3[k]=b3[k])))∧Below w2.heap.size w2 w'):=fun W hW=>
     (j4 xs[k] ys[k] a3[k] b3[k] W (hMx.keep hW (aC _)) (hMy.keep hW (aC _))).mono fun _ _ ⟨g1,g2⟩=>⟨g1,hW.trans (g2.mono hW.size)⟩
    have iG:(k:Int)<a3.length:=by omega
    have Uk:(k:Int)<b3.length:=by omega
    have k0:(0:Int)≤(k:Int):=by omega
    clear hMx hMy hc2 hc2' hf2 Xa hu2 Ny hx2 hy2
    generalize decide (a3[k]=b3[k])=q at*
    generalize xs[k]=r at*
    generalize ys[k]=r' at*
    obtain⟨r1,r2,r3,r4,⟨r5,r6,r7⟩,⟨r8,r9,r10⟩,⟨r11,r12,r13⟩⟩:=r
    obtain⟨t1,t2,t3,t4,⟨t5,t6,t7⟩,⟨t8,t9,t10⟩,⟨t11,t12,Zc⟩⟩:=r'
    simp only[Sv.v]at KS
    go_upto_region 11 with(fail)
    go_cut[75] (fun v75 wx=>v75= .bool (!q)∧Below w2.heap.size w2 wx)
    case first=>
     first
      | (go_region_held3 (fun w'=>Below w2.heap.size w2 w'∧w'.cell? ⟨w.heap.size,2,none⟩=some (.slice (some ⟨b,off,none⟩) a3.length lc)∧w'.cell? ⟨w.heap.size+1,2,none⟩=some (.slice (some ⟨b',off',none⟩) b3.length Ed)∧w'.cell? ⟨b,off+k*7,none⟩=some (.int .i64 r1)∧w'.cell? ⟨b,off+k*7+1,none⟩=some (.int .i64 r2)∧w'.cell? ⟨b,off+k*7+2,none⟩=some (.int .i64 r3)∧w'.cell? ⟨b,off+k*7+3,none⟩=some (.int .i64 r4)∧w'.cell? ⟨b,off+k*7+4,none⟩=some (.slice r5 r6 r7)∧w'.cell? ⟨b,off+k*7+5,none⟩=some (.slice r8 r9 r10)∧w'.cell? ⟨b,off+k*7+6,none⟩=some (.slice r11 r12 r13)∧w'.cell? ⟨b',off'+k*7,none⟩=some (.int .i64 t1)∧w'.cell? ⟨b',off'+k*7+1,none⟩=some (.int .i64 t2)∧w'.cell? ⟨b',off'+k*7+2,none⟩=some (.int .i64 t3)∧w'.cell? ⟨b',off'+k*7+3,none⟩=some (.int .i64 t4)∧w'.cell? ⟨b',off'+k*7+4,none⟩=some (.slice t5 t6 t7)∧w'.cell? ⟨b',off'+k*7+5,none⟩=some (.slice t8 t9 t10)∧w'.cell? ⟨b',off'+k*7+6,none⟩=some (.slice t11 t12 Zc)) (first | assumption | exact KS.out _ (by assumption) | exact KS.out _ hbr.drew)
          (first | (go_at_call 27;(with_reducible refine(HSL.out _ (by go_split_ands;assumption)).mono ?_);rintro e w9 ⟨rfl,lN⟩)))
      | fail
     all_goals
      go_wp2
      go_meet
      exact⟨by rfl,by assumption⟩
    case rest=>
    obtain⟨rfl,lN⟩:=hcut
    have abz:=hb1.trans (lN.mono hb1.size)
    clear KS HSL
    cases q with
    | true=>
     have Ul:=ah (HS.out (by first | rfl | trivial))
     clear HS jk
     go_wp2
     go_roundw
     case rel=>exact⟨k+1,by omega,by go_num,Ul.out,lN⟩
     case measure=>simp[intOf];omega
    | false=>
     have oK:=ah (jk.out (by first | rfl | trivial))
     clear HS jk
     go_wp2
     go_ret
     exact⟨aN (by rw[OH.out (.inr (.inl oK.out))]),abz⟩
   ·have e1:decide (k<a3.length)=false:=by simpa using hge
    have Um:Hid (a3=b3):=by
     show _=_
     have:=HT.out
     rw[List.take_of_length_le (by omega),List.take_of_length_le (by have:=PX.out;omega)]at this
     exact this
    obtain⟨q0,q1,q2,q3,_⟩:=ay (aj gF.out hbr (by omega))
    clear q0 q1 q3
    go_wp2
    go_ret
    exact⟨aN (by rw[HTF.out HE1.out Um.out]),hbe⟩
end Go.Proofs.YtlfopoimbbpfdaaGreat
namespace Go.Proofs.YtlfopoimbbpfdaaGreat
open Go.RowKit
attribute [local go_sem ↓] Go.wp_at_zero Go.wp_at_succ
set_option maxRecDepth 100000 in
set_option maxHeartbeats 8000000 in
theorem Sn (w W:World) (x:ow) (ya yb y z:bZ) (b2:Bk) (g:Int) (p29 p31:Nat) (h:Dq w W x ya yb) (hy:eD W y b2) (hz:eD W z b2) (hk:W.heap[p29]? =some (.cells #[y.c.v,y.f.v,y.l.v,y.b.v] 30 (0,0))) (hl:W.heap[p31]? =some (.cells #[z.c.v,z.f.v,z.l.v,z.b.v] 30 (0,0))) (hp:w.heap.size+1+1+1+1<p29) (hq:w.heap.size+1+1+1+1<p31) (u0 u1 u2 u8 u9 u10 u11 u12 u13 u14 u15 u16 u17 u18 u19 u20 u21 u22 u23 u24 u25 u26 u27 u28 u33 u34 u35 u36 u37 u38 u39 u40 u41 u42 u43 u44 u45 u46 u47 u48 u49 u50 u51 u52 u53 u54 u55 u56 u57 u58 u59 u60 u61 u62 u63 u64 u65 u66 u67 u68 u69 u70 u71 u72 u73 u74 u75 u76 u77 u78 u79 u80 u81 u82 u83 u84 u85 u86 u87 u88 u89 u90 u91 u92 u93 u94 u95 u96 u97 u98 u99 u100 u101 u102 u103 u104 u105 u106 u107 u108 u109 u110 u111 u112 u113 u114 u115 u116 u117 u118 u119 u120 u121 u122 u123 u124 u125 u126 u127 u128 u129 u130 u131 u132 u133 u134 u135 u136 u137 u138 u139 u140 u141 u142 u143 u144 u145 u146 u147 u148 u149 u150 u151 u152 u153 u154 u155 u156 u157 u158 u159 u160 u161 u162 u163 u164 u165 u166 u167 u168 u169 u170 u171 u172 u173 u174 u175 u176 u177 u178 u179 u180 u181 u182 u183 u184 u185 u186 u187 u188 u189 u190 u191 u192 u193 u194 u195 u196 u197 u198 u199 u200 u201 u202 u203 u204 u205 u206 u207 u208 u209 u210 u211 u212 u213 u214 u215 u216 u217 u218 u219 u220 u221 u222 u223 u224 u225 u226 u227 u228 u229 u230 u231 u232 u233 u234 u235 u236 u237 u238:Value):
  ∀c,Tryz.f10.body.bind (spine 16)=some c→Code.wp Tryz.prog c (bodyPost Tryz.prog Tryz.f10 (nD w b2)) ⟨#[u0,u1,u2,.pointer (some ⟨w.heap.size,0,none⟩),.pointer (some ⟨w.heap.size+1,0,none⟩),.pointer (some ⟨w.heap.size+1+1,0,none⟩),.pointer (some ⟨w.heap.size+1+1+1,0,none⟩),.pointer (some ⟨w.heap.size+1+1+1+1,0,none⟩),u8,u9,u10,u11,u12,u13,u14,u15,u16,u17,u18,u19,u20,u21,u22,u23,u24,u25,u26,u27,u28,.pointer (some ⟨p29,0,none⟩),.int .i64 g,.pointer (some ⟨p31,0,none⟩),.int .i64 g,u33,u34,u35,u36,u37,u38,u39,u40,u41,u42,u43,u44,u45,u46,u47,u48,u49,u50,u51,u52,u53,u54,u55,u56,u57,u58,u59,u60,u61,u62,u63,u64,u65,u66,u67,u68,u69,u70,u71,u72,u73,u74,u75,u76,u77,u78,u79,u80,u81,u82,u83,u84,u85,u86,u87,u88,u89,u90,u91,u92,u93,u94,u95,u96,u97,u98,u99,u100,u101,u102,u103,u104,u105,u106,u107,u108,u109,u110,u111,u112,u113,u114,u115,u116,u117,u118,u119,u120,u121,u122,u123,u124,u125,u126,u127,u128,u129,u130,u131,u132,u133,u134,u135,u136,u137,u138,u139,u140,u141,u142,u143,u144,u145,u146,u147,u148,u149,u150,u151,u152,u153,u154,u155,u156,u157,u158,u159,u160,u161,u162,u163,u164,u165,u166,u167,u168,u169,u170,u171,u172,u173,u174,u175,u176,u177,u178,u179,u180,u181,u182,u183,u184,u185,u186,u187,u188,u189,u190,u191,u192,u193,u194,u195,u196,u197,u198,u199,u200,u201,u202,u203,u204,u205,u206,u207,u208,u209,u210,u211,u212,u213,u214,u215,u216,u217,u218,u219,u220,u221,u222,u223,u224,u225,u226,u227,u228,u229,u230,u231,u232,u233,u234,u235,u236,u237,u238],[]⟩ W:=by
 refine dH rfl ?_
 obtain⟨⟨ca,cn,cc⟩,⟨fa,aX,fc⟩,⟨la,ln,lc⟩,⟨ba,b_n,bc⟩⟩:=y
 obtain⟨⟨ga,gn,gc⟩,⟨ha,h_n,hc⟩,⟨ia,dz,ic⟩,⟨ja,jn,jc⟩⟩:=z
 simp only[Sv.v]at hk hl
 have HQ:=ah h
 have HY:=ah hy
 have HZ:=ah hz
 have Mj:=ah hk
 have Mk:=ah hl
 clear h hy hz hk hl
 go_upto_region 31 with fail
 refine aS 12 (dR p29 p31 W) (by kernel_rfl) ?_
 have hS0:dR p29 p31 W W.drew:=⟨rfl,rfl⟩
 refine aD (i:=0) (v:=.agg #[.slice ca cn cc,.slice fa aX fc,.slice la ln lc,.slice ba b_n bc]) rfl rfl (by kernel_rfl) (by kernel_rfl) (by kernel_rfl) (by kernel_rfl) (by kernel_rfl) (by decide) (fun _ _ _ h=>h) (.inl ⟨rfl,fun w' hw=>?_⟩) hS0 ?_
 ·obtain⟨a0,a1,a2,a3,_⟩:=ay (hw.1.trans Mj.out)
  go_simp
 refine aD (i:=1) (v:=.agg #[.slice ga gn gc,.slice ha h_n hc,.slice ia dz ic,.slice ja jn jc]) rfl rfl (by kernel_rfl) (by kernel_rfl) (by kernel_rfl) (by kernel_rfl) (by kernel_rfl) (by decide) (fun _ _ _ h=>h) (.inl ⟨rfl,fun w' hw=>?_⟩) hS0 ?_
 ·obtain⟨a0,a1,a2,a3,_⟩:=ay (hw.2.trans Mk.out)
  go_simp
 refine aG (i:=2) (v:=.int .i64 g) rfl (by kernel_rfl) (by kernel_rfl) (by kernel_rfl) (by decide) (fun _ _ _ h=>h) (.inl ⟨rfl,fun w' _=>?_⟩) hS0 ?_
 ·go_simp
 refine aG (i:=3) (v:=.int .i64 g) rfl (by kernel_rfl) (by kernel_rfl) (by kernel_rfl) (by decide) (fun _ _ _ h=>h) (.inl ⟨rfl,fun w' _=>?_⟩) hS0 ?_
 ·go_simp
 refine aG (i:=4) (v:=.bool true) rfl (by kernel_rfl) (by kernel_rfl) (by kernel_rfl) (by decide) (fun _ _ _ h=>h) (.inl ⟨rfl,fun w' _=>?_⟩) hS0 ?_
 ·go_simp
 refine aG (i:=5) (v:=.bool true) rfl (by kernel_rfl) (by kernel_rfl) (by kernel_rfl) (by decide) (fun _ _ _ h=>h) (.inl ⟨rfl,fun w' _=>?_⟩) hS0 ?_
 ·go_simp
 refine aD (i:=6) (v:=.agg #[.slice ca cn cc,.slice fa aX fc,.slice la ln lc,.slice ba b_n bc]) rfl rfl (by kernel_rfl) (by kernel_rfl) (by kernel_rfl) (by kernel_rfl) (by kernel_rfl) (by decide) (fun _ _ _ h=>h) (.inl ⟨by go_simp,fun w' hw=>?_⟩) hS0 ?_
 ·obtain⟨a0,a1,a2,a3,_⟩:=ay (hw.1.trans Mj.out)
  go_simp
 refine aD (i:=7) (v:=.agg #[.slice ga gn gc,.slice ha h_n hc,.slice ia dz ic,.slice ja jn jc]) rfl rfl (by kernel_rfl) (by kernel_rfl) (by kernel_rfl) (by kernel_rfl) (by kernel_rfl) (by decide) (fun _ _ _ h=>h) (.inl ⟨by go_simp,fun w' hw=>?_⟩) hS0 ?_
 ·obtain⟨a0,a1,a2,a3,_⟩:=ay (hw.2.trans Mk.out)
  go_simp
 refine kT (i:=8) (by kernel_rfl) rfl (by go_simp) ?_
 go_simp
 refine(pF ⟨⟨ca,cn,cc⟩,⟨fa,aX,fc⟩,⟨la,ln,lc⟩,⟨ba,b_n,bc⟩⟩ ⟨⟨ga,gn,gc⟩,⟨ha,h_n,hc⟩,⟨ia,dz,ic⟩,⟨ja,jn,jc⟩⟩ b2 b2 W.drew (HY.out.keep (aL _ _).drew (aC _)) (HZ.out.keep (aL _ _).drew (aC _))).mono ?_
 rw[decide_eq_true (rfl:b2=b2)]
 rintro e2 W2 ⟨rfl,hb2⟩
 have hb2':Below W.heap.size W W2:=(aL W.heap.size W).drew.trans hb2
 have hS2:dR p29 p31 W W2:=⟨(aj Mj.out hb2' (bg Mj.out).1).trans Mj.out.symm,(aj Mk.out hb2' (bg Mk.out).1).trans Mk.out.symm⟩
 refine⟨hS2,?_⟩
 have dO:=ah (HQ.out.keep hb2')
 have Im:=ah (HY.out.keep hb2' (aC _))
 have HZ2:=ah (HZ.out.keep hb2' (aC _))
 clear hb2 hb2'
 have hS0:=hS2
 refine aG (i:=9) (v:=.bool true) rfl (by kernel_rfl) (by kernel_rfl) (by kernel_rfl) (by decide) (fun _ _ _ h=>h) (.inl ⟨rfl,fun w' _=>?_⟩) hS0 ?_
 ·go_simp
 obtain⟨a0,a1,a2,a3,_⟩:=ay dO.out.k6
 have f0:=aA dO.out.k6 0
 have f1:=aA dO.out.k6 1
 have f2:=aA dO.out.k6 2
 have f3:=aA dO.out.k6 3
 have iy:Hid (∀c,c≠w.heap.size+1+1+1→((((W2.setCell ⟨w.heap.size+1+1+1,0,none⟩ (.slice ca cn cc)).setCell ⟨w.heap.size+1+1+1,1,none⟩ (.slice fa aX fc)).setCell ⟨w.heap.size+1+1+1,2,none⟩ (.slice la ln lc)).setCell ⟨w.heap.size+1+1+1,3,none⟩ (.slice ba b_n bc)).heap[c]? =W2.heap[c]?):=ah (fun c hc=>bF W2 (w.heap.size+1+1+1) c (fun e=>hc e.symm) _ _ _ _ 0 1 2 3)
 have qZ:Hid (((((W2.setCell ⟨w.heap.size+1+1+1,0,none⟩ (.slice ca cn cc)).setCell ⟨w.heap.size+1+1+1,1,none⟩ (.slice fa aX fc)).setCell ⟨w.heap.size+1+1+1,2,none⟩ (.slice la ln lc)).setCell ⟨w.heap.size+1+1+1,3,none⟩ (.slice ba b_n bc)).heap[w.heap.size+1+1+1]? =some (.cells #[.slice ca cn cc,.slice fa aX fc,.slice la ln lc,.slice ba b_n bc] 30 (0,0))):=ah (by
  have h6:=dO.out.k6
  simp[World.setCell,Array.getElem?_modify,h6])
 have HB3:Hid (Below w.heap.size w ((((W2.setCell ⟨w.heap.size+1+1+1,0,none⟩ (.slice ca cn cc)).setCell ⟨w.heap.size+1+1+1,1,none⟩ (.slice fa aX fc)).setCell ⟨w.heap.size+1+1+1,2,none⟩ (.slice la ln lc)).setCell ⟨w.heap.size+1+1+1,3,none⟩ (.slice ba b_n bc))):=ah (kS dO.out.aZ (by omega) _ _ _ _)
 have HZ3:Hid (W2.heap.size≤((((W2.setCell ⟨w.heap.size+1+1+1,0,none⟩ (.slice ca cn cc)).setCell ⟨w.heap.size+1+1+1,1,none⟩ (.slice fa aX fc)).setCell ⟨w.heap.size+1+1+1,2,none⟩ (.slice la ln lc)).setCell ⟨w.heap.size+1+1+1,3,none⟩ (.slice ba b_n bc)).heap.size):=ah (by simp)
 refine aF (i:=10) (by kernel_rfl) rfl rfl ?_
 go_simp
 try rw[jr]
 generalize ((((W2.setCell ⟨w.heap.size+1+1+1,0,none⟩ (.slice ca cn cc)).setCell ⟨w.heap.size+1+1+1,1,none⟩ (.slice fa aX fc)).setCell ⟨w.heap.size+1+1+1,2,none⟩ (.slice la ln lc)).setCell ⟨w.heap.size+1+1+1,3,none⟩ (.slice ba b_n bc))=W3 at*
 have pU:dR p29 p31 W W3:=⟨(iy.out _ (by omega)).trans hS2.1,(iy.out _ (by omega)).trans hS2.2⟩
 first | refine⟨pU,?_⟩ | skip
 clear a0 a1 a2 a3 f0 f1 f2 f3
 have k7:=(iy.out (w.heap.size+1+1+1+1) (by omega)).trans dO.out.k7
 have qP:=ah k7
 obtain⟨a0,a1,a2,a3,_⟩:=ay k7
 have f0:=aA k7 0
 have f1:=aA k7 1
 have f2:=aA k7 2
 have f3:=aA k7 3
 have lM:Hid (∀c,c≠w.heap.size+1+1+1+1→((((W3.setCell ⟨w.heap.size+1+1+1+1,0,none⟩ (.slice ga gn gc)).setCell ⟨w.heap.size+1+1+1+1,1,none⟩ (.slice ha h_n hc)).setCell ⟨w.heap.size+1+1+1+1,2,none⟩ (.slice ia dz ic)).setCell ⟨w.heap.size+1+1+1+1,3,none⟩ (.slice ja jn jc)).heap[c]? =W3.heap[c]?):=ah (fun c hc=>bF W3 (w.heap.size+1+1+1+1) c (fun e=>hc e.symm) _ _ _ _ 0 1 2 3)
 have BH:Hid (((((W3.setCell ⟨w.heap.size+1+1+1+1,0,none⟩ (.slice ga gn gc)).setCell ⟨w.heap.size+1+1+1+1,1,none⟩ (.slice ha h_n hc)).setCell ⟨w.heap.size+1+1+1+1,2,none⟩ (.slice ia dz ic)).setCell ⟨w.heap.size+1+1+1+1,3,none⟩ (.slice ja jn jc)).heap[w.heap.size+1+1+1+1]? =some (.cells #[.slice ga gn gc,.slice ha h_n hc,.slice ia dz ic,.slice ja jn jc] 30 (0,0))):=ah (by
  have h6:=qP.out
  simp[World.setCell,Array.getElem?_modify,h6])
 have jd:Hid (Below w.heap.size w ((((W3.setCell ⟨w.heap.size+1+1+1+1,0,none⟩ (.slice ga gn gc)).setCell ⟨w.heap.size+1+1+1+1,1,none⟩ (.slice ha h_n hc)).setCell ⟨w.heap.size+1+1+1+1,2,none⟩ (.slice ia dz ic)).setCell ⟨w.heap.size+1+1+1+1,3,none⟩ (.slice ja jn jc))):=ah (kS HB3.out (by omega) _ _ _ _)
 have DR:Hid (W3.heap.size≤((((W3.setCell ⟨w.heap.size+1+1+1+1,0,none⟩ (.slice ga gn gc)).setCell ⟨w.heap.size+1+1+1+1,1,none⟩ (.slice ha h_n hc)).setCell ⟨w.heap.size+1+1+1+1,2,none⟩ (.slice ia dz ic)).setCell ⟨w.heap.size+1+1+1+1,3,none⟩ (.slice ja jn jc)).heap.size):=ah (by simp)
 clear k7
 refine aF (i:=11) (by kernel_rfl) rfl rfl ?_
 go_simp
 generalize ((((W3.setCell ⟨w.heap.size+1+1+1+1,0,none⟩ (.slice ga gn gc)).setCell ⟨w.heap.size+1+1+1+1,1,none⟩ (.slice ha h_n hc)).setCell ⟨w.heap.size+1+1+1+1,2,none⟩ (.slice ia dz ic)).setCell ⟨w.heap.size+1+1+1+1,3,none⟩ (.slice ja jn jc))=W4 at*
 have Ov:dR p29 p31 W W4:=⟨(lM.out _ (by omega)).trans pU.1,(lM.out _ (by omega)).trans pU.2⟩
 first | refine⟨Ov,?_⟩ | skip
 clear a0 a1 a2 a3 f0 f1 f2 f3
 refine aF (i:=12) (by kernel_rfl) rfl rfl ?_
 go_simp
 refine aT (by kernel_rfl) ?_
 obtain⟨a0,a1,a2,a3,_⟩:=ay ((lM.out (w.heap.size+1+1+1) (by omega)).trans qZ.out)
 obtain⟨b0,b1,b2,b3,_⟩:=ay BH.out
 go_wp2
 refine bodyPost_ret (v:=.tuple #[.agg #[.slice ca cn cc,.slice fa aX fc,.slice la ln lc,.slice ba b_n bc],.agg #[.slice ga gn gc,.slice ha h_n hc,.slice ia dz ic,.slice ja jn jc],.bool true]) (by simp[results,Tryz.results10,go_sem, *]) rfl (show nD _ _ _ _ from ?_)
 exact⟨⟨⟨ca,cn,cc⟩,⟨fa,aX,fc⟩,⟨la,ln,lc⟩,⟨ba,b_n,bc⟩⟩,⟨⟨ga,gn,gc⟩,⟨ha,h_n,hc⟩,⟨ia,dz,ic⟩,⟨ja,jn,jc⟩⟩,rfl,(Im.out.over iy.out HZ3.out dO.out.k6 rfl).over lM.out DR.out qP.out rfl,(HZ2.out.over iy.out HZ3.out dO.out.k6 rfl).over lM.out DR.out qP.out rfl,jd.out⟩
end Go.Proofs.YtlfopoimbbpfdaaGreat
namespace Go.Proofs.YtlfopoimbbpfdaaGreat
open Go.RowKit
attribute [local go_sem ↓] Go.wp_at_zero Go.wp_at_succ
set_option maxRecDepth 100000 in
set_option maxHeartbeats 8000000 in
theorem Sq (w W:World) (x:ow) (ya yb:bZ) (yl ym:bV) (b:Bk) (l:Ls) (iF p25:Nat) (h:Dq w W x ya yb) (hya:eD w ya b) (hyb:eD w yb b) (hk:W.heap[iF]? =some (.cells #[.int .i64 yl.dev,.int .i64 yl.epoch,.int .i64 yl.bY,.int .i64 yl.last,yl.s.v,yl.i.v,yl.u.v] 48 (0,0))) (hl:W.heap[p25]? =some (.cells #[.int .i64 ym.dev,.int .i64 ym.epoch,.int .i64 ym.bY,.int .i64 ym.last,ym.s.v,ym.i.v,ym.u.v] 48 (0,0))) (hyl:lW W yl l) (hym:lW W ym l) (hB:zN b) (hL:wJ l) (hE:kC b l=kR b l) (b2:Bk) (hb2:b2=(kR b l).1) (u0 u1 u2 u8 u9 u10 u11 u12 u13 u14 u15 u16 u17 u18 u19 u20 u21 u22 u24 u26 u27 u28 u29 u30 u31 u32 u33 u34 u35 u36 u37 u38 u39 u40 u41 u42 u43 u44 u45 u46 u47 u48 u49 u50 u51 u52 u53 u54 u55 u56 u57 u58 u59 u60 u61 u62 u63 u64 u65 u66 u67 u68 u69 u70 u71 u72 u73 u74 u75 u76 u77 u78 u79 u80 u81 u82 u83 u84 u85 u86 u87 u88 u89 u90 u91 u92 u93 u94 u95 u96 u97 u98 u99 u100 u101 u102 u103 u104 u105 u106 u107 u108 u109 u110 u111 u112 u113 u114 u115 u116 u117 u118 u119 u120 u121 u122 u123 u124 u125 u126 u127 u128 u129 u130 u131 u132 u133 u134 u135 u136 u137 u138 u139 u140 u141 u142 u143 u144 u145 u146 u147 u148 u149 u150 u151 u152 u153 u154 u155 u156 u157 u158 u159 u160 u161 u162 u163 u164 u165 u166 u167 u168 u169 u170 u171 u172 u173 u174 u175 u176 u177 u178 u179 u180 u181 u182 u183 u184 u185 u186 u187 u188 u189 u190 u191 u192 u193 u194 u195 u196 u197 u198 u199 u200 u201 u202 u203 u204 u205 u206 u207 u208 u209 u210 u211 u212 u213 u214 u215 u216 u217 u218 u219 u220 u221 u222 u223 u224 u225 u226 u227 u228 u229 u230 u231 u232 u233 u234 u235 u236 u237 u238:Value):
  ∀c,Tryz.f10.body.bind (spine 14)=some c→Code.wp Tryz.prog c (bodyPost Tryz.prog Tryz.f10 (nD w b2)) ⟨#[u0,u1,u2,.pointer (some ⟨w.heap.size,0,none⟩),.pointer (some ⟨w.heap.size+1,0,none⟩),.pointer (some ⟨w.heap.size+1+1,0,none⟩),.pointer (some ⟨w.heap.size+1+1+1,0,none⟩),.pointer (some ⟨w.heap.size+1+1+1+1,0,none⟩),u8,u9,u10,u11,u12,u13,u14,u15,u16,u17,u18,u19,u20,u21,u22,.pointer (some ⟨iF,0,none⟩),u24,.pointer (some ⟨p25,0,none⟩),u26,u27,u28,u29,u30,u31,u32,u33,u34,u35,u36,u37,u38,u39,u40,u41,u42,u43,u44,u45,u46,u47,u48,u49,u50,u51,u52,u53,u54,u55,u56,u57,u58,u59,u60,u61,u62,u63,u64,u65,u66,u67,u68,u69,u70,u71,u72,u73,u74,u75,u76,u77,u78,u79,u80,u81,u82,u83,u84,u85,u86,u87,u88,u89,u90,u91,u92,u93,u94,u95,u96,u97,u98,u99,u100,u101,u102,u103,u104,u105,u106,u107,u108,u109,u110,u111,u112,u113,u114,u115,u116,u117,u118,u119,u120,u121,u122,u123,u124,u125,u126,u127,u128,u129,u130,u131,u132,u133,u134,u135,u136,u137,u138,u139,u140,u141,u142,u143,u144,u145,u146,u147,u148,u149,u150,u151,u152,u153,u154,u155,u156,u157,u158,u159,u160,u161,u162,u163,u164,u165,u166,u167,u168,u169,u170,u171,u172,u173,u174,u175,u176,u177,u178,u179,u180,u181,u182,u183,u184,u185,u186,u187,u188,u189,u190,u191,u192,u193,u194,u195,u196,u197,u198,u199,u200,u201,u202,u203,u204,u205,u206,u207,u208,u209,u210,u211,u212,u213,u214,u215,u216,u217,u218,u219,u220,u221,u222,u223,u224,u225,u226,u227,u228,u229,u230,u231,u232,u233,u234,u235,u236,u237,u238],[]⟩ W:=by
 refine dH rfl ?_
 obtain⟨⟨ca,cn,cc⟩,⟨fa,aX,fc⟩,⟨la,ln,lc⟩,⟨ba,b_n,bc⟩⟩:=ya
 obtain⟨⟨ga,gn,gc⟩,⟨ha,h_n,hc⟩,⟨ia,dz,ic⟩,⟨ja,jn,jc⟩⟩:=yb
 obtain⟨y1,y2,y3,y4,⟨y5,y6,y7⟩,⟨y8,y9,bW⟩,⟨bX,cB,y13⟩⟩:=yl
 obtain⟨z1,z2,z3,z4,⟨z5,z6,z7⟩,⟨z8,z9,dD⟩,⟨dI,z12,dJ⟩⟩:=ym
 simp only[Sv.v]at hk hl
 have HQ:=ah h
 have jU:=ah hya
 have o_:=ah hyb
 have M_:=ah hyl
 have Gt:=ah hym
 have I9:=ah hk
 have PZ:=ah hl
 have HB:=ah hB
 have HL:=ah hL
 have HE:=ah hE
 have HB2:=ah hb2
 clear hya hyb hyl hym hB hL hE hb2
 obtain⟨a0,a1,a2,a3,_⟩:=ay h.k4
 obtain⟨d0,d1,d2,d3,d4,d5,d6,_⟩:=aB hk
 simp only[Sv.v]at a0 a1 a2 a3
 clear h hk hl
 go_wp2_with fail
 refine(NJ ⟨⟨ca,cn,cc⟩,⟨fa,aX,fc⟩,⟨la,ln,lc⟩,⟨ba,b_n,bc⟩⟩ b ⟨y1,y2,y3,y4,⟨y5,y6,y7⟩,⟨y8,y9,bW⟩,⟨bX,cB,y13⟩⟩ l W (jU.out.keep HQ.out.aZ (aC _)) HB.out M_.out HL.out).mono ?_
 rintro e W2 ⟨⟨⟨oa,on,oc⟩,⟨pa,pn,pc⟩,⟨qa,qn,qc⟩,⟨ra,rn,rc⟩⟩,rfl,hc2,hb2⟩
 have dK:=(aL W2.heap.size W2).alloc (aC _) (.cells #[.slice oa on oc,.slice pa pn pc,.slice qa qn qc,.slice ra rn rc] 30)
 have hb3:=hb2.trans (dK.mono hb2.size)
 have HC:=ah (hc2.keep dK (aC _))
 have Ub:=ah (heap_alloc_new W2 (.cells #[.slice oa on oc,.slice pa pn pc,.slice qa qn qc,.slice ra rn rc] 30))
 have vR:=ah (HQ.out.keep hb3)
 have OJ:=ah (Gt.out.keep hb3 (aC _))
 have abA:=ah (aj PZ.out hb3 (bg PZ.out).1)
 have NV:=(bg HQ.out.k7).1
 have hz2:=hb2.size
 clear hc2 dK hb2 hb3 a0 a1 a2 a3 d0 d1 d2 d3 d4 d5 d6
 go_upto_region 30 with fail
 generalize W2.alloc (.cells #[.slice oa on oc,.slice pa pn pc,.slice qa qn qc,.slice ra rn rc] 30)=W3 at*
 have abB:w.heap.size+1+1+1+1<W2.heap.size:=by omega
 generalize W2.heap.size=p29 at*
 go_cut[31,32] (fun v31 v32 wx=>∃ (p31:Nat) (z:bZ),v31= .pointer (some ⟨p31,0,none⟩)∧v32= .int .i64 (kR b l).2∧wx.heap[p31]? =some (.cells #[z.c.v,z.f.v,z.l.v,z.b.v] 30 (0,0))∧eD wx z b2∧Below W3.heap.size W3 wx∧W3.heap.size≤p31)
 case first=>
  obtain⟨a0,a1,a2,a3,_⟩:=ay vR.out.k5
  obtain⟨d0,d1,d2,d3,d4,d5,d6,_⟩:=aB abA.out
  simp only[Sv.v]at a0 a1 a2 a3
  go_wp2_with fail
  refine(KX ⟨⟨ga,gn,gc⟩,⟨ha,h_n,hc⟩,⟨ia,dz,ic⟩,⟨ja,jn,jc⟩⟩ b ⟨z1,z2,z3,z4,⟨z5,z6,z7⟩,⟨z8,z9,dD⟩,⟨dI,z12,dJ⟩⟩ l W3 (o_.out.keep vR.out.aZ (aC _)) HB.out OJ.out HL.out).mono ?_
  rw[HE.out]
  rintro e W4 ⟨⟨⟨sa,sn,sc⟩,⟨ta,tn,tc⟩,⟨va,vn,vc⟩,⟨xa,xn,xc⟩⟩,rfl,hd4,hb4⟩
  clear a0 a1 a2 a3 d0 d1 d2 d3 d4 d5 d6
  go_wp2
  go_meet
  have yN:=(aL W4.heap.size W4).alloc (aC _) (.cells #[.slice sa sn sc,.slice ta tn tc,.slice va vn vc,.slice xa xn xc] 30)
  exact⟨W4.heap.size,⟨⟨sa,sn,sc⟩,⟨ta,tn,tc⟩,⟨va,vn,vc⟩,⟨xa,xn,xc⟩⟩,rfl,rfl,heap_alloc_new W4 _,by rw[HB2.out];exact hd4.keep yN (aC _),hb4.trans (yN.mono hb4.size),hb4.size⟩
 case rest=>
 obtain⟨p31,z,rfl,rfl,hk31,abC,hbw,afT⟩:=hcut
 have abD:=(bg Ub.out).1
 go_step
 exact Sn w _ x ⟨⟨ca,cn,cc⟩,⟨fa,aX,fc⟩,⟨la,ln,lc⟩,⟨ba,b_n,bc⟩⟩ ⟨⟨ga,gn,gc⟩,⟨ha,h_n,hc⟩,⟨ia,dz,ic⟩,⟨ja,jn,jc⟩⟩ ⟨⟨oa,on,oc⟩,⟨pa,pn,pc⟩,⟨qa,qn,qc⟩,⟨ra,rn,rc⟩⟩ z b2 _ p29 p31 (vR.out.keep hbw) (by rw[HB2.out];exact HC.out.keep hbw (aC _)) abC (aj Ub.out hbw abD) hk31 abB (by omega) _ _ _ _ _ _ _ _ _ _ _ _ _ _ _ _ _ _ _ _ _ _ _ _ _ _ _ _ _ _ _ _ _ _ _ _ _ _ _ _ _ _ _ _ _ _ _ _ _ _ _ _ _ _ _ _ _ _ _ _ _ _ _ _ _ _ _ _ _ _ _ _ _ _ _ _ _ _ _ _ _ _ _ _ _ _ _ _ _ _ _ _ _ _ _ _ _ _ _ _ _ _ _ _ _ _ _ _ _ _ _ _ _ _ _ _ _ _ _ _ _ _ _ _ _ _ _ _ _ _ _ _ _ _ _ _ _ _ _ _ _ _ _ _ _ _ _ _ _ _ _ _ _ _ _ _ _ _ _ _ _ _ _ _ _ _ _ _ _ _ _ _ _ _ _ _ _ _ _ _ _ _ _ _ _ _ _ _ _ _ _ _ _ _ _ _ _ _ _ _ _ _ _ _ _ _ _ _ _ _ _ _ _ _ _ _ _ _ _ _ _ _ _ _ _ _ _ _ _ _ _ rfl
end Go.Proofs.YtlfopoimbbpfdaaGreat
