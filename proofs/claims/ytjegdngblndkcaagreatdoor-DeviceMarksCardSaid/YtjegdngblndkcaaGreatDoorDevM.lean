/- The law on a device's leaks. -/
import Derived.Test.YtjegdngblndkcaaGreatDoorDevL
import Derived.Test.YtjegdngblndkcaaGreatDoorDV12
set_option linter.unusedSimpArgs false
namespace Go.Proofs.YtjegdngblndkcaaGreatDoor
open Go Go.RowKit Go.Deep Go.Maps Go.Proofs.YtjegdngblndkcaaGreatDoor.Ab Go.Proofs.YtjegdngblndkcaaGreatDoor.Xi
set_option linter.unusedVariables false
attribute [local go_sem] Oper.semAt_some
theorem abG {n:Nat}:(n:Int) * iT 1 = iT n:=by unfold iT; simp
theorem abH:iT 1 = h_ bM:=by unfold iT; simp
set_option maxRecDepth 100000 in
set_option maxHeartbeats 4000000 in
theorem FY {w:World} (hg:oh w) {A:Option Addr} {c:Nat} {ds:List gG} (h:rQ w A ds) (hl:ds.length≤maxLen) (hln:∀ d∈ds,d.2.length≤maxLen∧∀ y∈d.2,y < 256) :
 Calls Tryz.prog 3 #[.slice A ds.length c] w fun e w' => e = .returned (.bool true)∧ah w w' []:=by
 have hfw:=EG (c:=c) 8 h hl (fun d hd => (hln d hd).1)
 have HG:=hide hg
 cases hb:zL ds 8 with
 | false =>
  rw [hb] at hfw
  have haw:=mP hg
  clear h hl hln hg hb
  go_enter Tryz.func3,Tryz.ntmps3
  go_wp2_with fail
  go_at_call 5
  refine hfw.mono ?_
  rintro e w1 ⟨rfl,rfl⟩
  go_wp2_with fail
  go_at_call 6
  refine haw.mono ?_
  rintro e w2 ⟨rfl,hc⟩
  have HC:=hide hc
  clear haw hc hfw
  go_wp2
  go_ret
  exact ⟨rfl,HC.out⟩
 | true =>
  obtain ⟨hb1,hb2⟩:=CG hb
  have hb2:ds.length≤8:=by omega
  rw [hb] at hfw
  have HX:=hide h
  have HLN:=hide hln
  have HB1:=hide hb1
  have hnw:=rP w hg
  have hrs:=J7 (c:=c) h (by omega) (fun d hd => (hln d hd).1)
  have HRS:=hide (show ∀ w1,ah w w1 []→Calls Tryz.prog 14 #[.slice A ds.length c] w1 fun e w' => e = .returned (.int .i64 (kZ ds:Nat))∧w' = w1 from fun w1 hc => J7 (h.keep hc) (by omega) (fun d hd => (hln d hd).1))
  have hmk:=afb
  clear h hl hln hg hb hb1 hrs
  go_enter Tryz.func3,Tryz.ntmps3
  go_wp2_with fail
  go_at_call 5
  refine hfw.mono ?_
  rintro e w1 ⟨rfl,hw1⟩
  obtain rfl:=hw1.symm
  clear hfw
  go_wp2_with fail
  go_at_call 7
  refine hnw.mono ?_
  rintro e w1 ⟨d,c1,F1,I1,rfl,hc1,hd1,hf1⟩
  have bD:=hide hc1
  have HD1:=hide hd1
  have gZ:=hide hf1
  have Tn:=rP w1 (HG.out.aj hc1 (by simp))
  clear hnw hc1 hd1 hf1
  go_wp2_with fail
  go_at_call 7
  refine Tn.mono ?_
  rintro e w2 ⟨o,c2,F2,I2,rfl,hc2,ho2,hf2⟩
  have HC2:=hide (bD.out.trans hc2 (D:=[]) (by simp))
  have HD2:=hide (HD1.out.aJ hc2)
  have aeo:=hide hc2
  have qR:=hide ho2
  have HF2:=hide hf2
  have hmn:=pR HD2.out
  clear Tn hc2 ho2 hf2
  go_wp2_with fail
  go_at_call 8
  refine hmn.mono ?_
  rintro e w3 ⟨rfl,rfl⟩
  have hfd:=kT ((HG.out.aj HC2.out (by simp)).aj (lK _) (by simp)) (qR.out.aJ (lK _)) (by decide) (show z20.length = 20 from rfl) abE (afc _)
  have lM:=hide hfd
  clear hfd hmn
  go_wp2_with fail
  go_at_call 9
  refine lM.out.mono ?_
  rintro e w3 ⟨u,F3,s3,rfl,hc3,hs3,ho3,_⟩
  have HZ1:=hide bD.out.size
  have hz2:=HC2.out.size
  have hzz:=(lK w2).size
  have qI:=hide (show ∀ k∈d :: F1,k < w1.heap.size∧w.heap.size≤k from fun k hk => ⟨HD1.out.low k (kK hk),gZ.out k (kK hk)⟩)
  have HO1:=hide (show ∀ k∈o :: (F3 ++ I2),w1.heap.size≤k from fun k hk => by
   simp only [List.mem_cons,List.mem_append] at hk
   rcases hk with h | h | h
   · exact HF2.out k (by simp [h])
   · rcases hs3 k h with h | h
     · exact HF2.out k (by simp [h])
     · have:=aeo.out.size
       omega
   · exact HF2.out k (by simp [h]))
  have D6:=hide HD1.out.FX
  have hd3:=(HD2.out.aJ (lK w2)).LU hc3 (fun k hk hm => by
   have h1:=HD1.out.low k hk
   have h2:=HF2.out k (kK hm)
   omega) (fun k hk => qR.out.FX k hk)
  have HD3:=hide hd3
  have vG:=hide ho3
  have fD:=hide (show ah w w3 [] from (HC2.out.trans (lK w2) (D:=[]) (by simp)).trans hc3 (fun k hk => .inr (by have:=HF2.out k (kK hk); have:=HZ1.out; omega)))
  have CY:=jI ho3
  have HZ3:=hide hc3.size
  clear lM hc3 hs3 ho3 hd3
  go_wp2_with fail
  go_at_call 8
  refine CY.mono ?_
  rintro e w4 ⟨v4,rfl,hc4,ho4⟩
  have pV:=hide (fD.out.trans hc4 (D:=[]) (by simp))
  have HD4:=hide (HD3.out.aJ hc4)
  have jO:=hide (vG.out.aJ hc4)
  have V8:=hide ho4
  have C_:=hide (show ∀ g,v4.ownBlock = some g→g∉d :: F1 from fun g hg hm => by
   have h1:=(ho4.lt g hg).1
   have h2:=(qI.out g hm).1
   have h3:=HZ3.out
   have h4:=aeo.out.size
   omega)
  obtain ⟨A4,k4,rfl⟩:=yC ho4
  clear CY hc4 ho4 hz2 hzz HD1 HD2 HD3 qR vG gZ HF2 bD HC2 fD aeo
  go_wp2_with fail
  go_loopw [6,7] (fun i _ wr => ∃ j:Nat,j≤ds.length∧i = .int .i64 j∧Hid (ah w4 wr (d :: F1))∧Hid (∃ x s ran F,dJ wr d c1 x s ran (kZ (ds.take j)) F I1∧Sub F F1 w4)) (fun i _ _ => ds.length - (intOf i).toNat)
  case atStart => exact ⟨0,Nat.zero_le _,rfl,hide (ah.refl _ _),hide ⟨_,_,_,F1,HD4.out,Sub.refl _ _⟩⟩
  case round =>
   clear HD4
   obtain ⟨j,hj,rfl,HC,zn⟩:=hrel
   have hcw:ah w wr []:=pV.out.trans HC.out (fun k hk => .inr (qI.out k hk).2)
   by_cases hlt:j < ds.length
   · obtain ⟨⟨f,l⟩,hd⟩:∃ d,ds[j]? = some d:=⟨ds[j],by simp [hlt]⟩
     obtain ⟨bb,off,B,cb,rfl,q1,q2,q3⟩:=HX.out.at_ hd
     have P2:=hide q2
     replace q1:=hcw.cell q1 (by simp)
     replace q2:=hcw.cell q2 (by simp)
     obtain ⟨x,s,ran,F,hdv,hsub⟩:=zn.out
     have hgr:=HG.out.aj hcw (by simp)
     have HT:=hide (J6 hd)
     have hmem:=List.mem_of_getElem? hd
     have hlm:=(HLN.out _ hmem).1
     have hby:=(HLN.out _ hmem).2
     have hrl:=Iy (ds.take j)
     have htl:(ds.take j).length≤j:=by rw [List.length_take]; omega
     have CO:∀ k,k∈d :: F→k∈d :: F1∨w4.heap.size≤k:=fun k hk => by
      rcases List.mem_cons.1 hk with h | h
      · exact .inl (by simp [h])
      · exact (hsub k h).imp_left (fun h => List.mem_cons_of_mem _ h)
     simp only at q1 q2 q3 hlm hby P2
     clear hd hmem zn
     generalize kZ (ds.take j) = r at *
     cases f with
     | false =>
      have hrs:=ED hgr hdv
      clear hdv hgr q3
      go_wp2_with fail
      go_at_call 10
      refine hrs.mono ?_
      rintro e w5 ⟨rfl,hc5,F5,hs5,hd5⟩
      have hmn:=pR hd5
      have cZ:=hide (HC.out.trans hc5 (fun k hk => CO k hk))
      have HD5:=hide hd5
      have qA:=hide (show Sub F5 F1 w4 from fun k hk => (hs5 k hk).elim (fun h => hsub k h) (fun h => .inr (Nat.le_trans HC.out.size h)))
      clear hrs hc5 hs5 hd5
      go_wp2_with fail
      go_at_call 8
      refine hmn.mono ?_
      rintro e w6 ⟨rfl,hw6⟩
      obtain rfl:=hw6
      clear hmn
      go_wp2
      go_roundw
      case rel => exact ⟨j + 1,by omega,by go_num,cZ,hide ⟨_,_,_,F5,by rw [HT.out,show vk (false,l) = 0 from rfl]; exact HD5.out,qA.out⟩⟩
      case measure => simp [intOf]; omega
     | true =>
      by_cases h20:l.length = 20
      · rw [h20] at q2 q3 P2
        cases ran with
        | true =>
         have yD:=jI hdv
         go_wp2_with fail
         go_at_call 8
         refine yD.mono ?_
         rintro e w5 ⟨v5,rfl,hc5,ho5⟩
         have yO:=hide ho5
         obtain ⟨A5,k5,rfl⟩:=yC ho5
         clear yD ho5
         have hfd:=kT (hgr.aj hc5 (by simp)) (hdv.aJ hc5) (by omega) h20 hby ((q3.keep hcw).keep hc5)
         have lM:=hide hfd
         have vC:=hide (hdv.aJ hc5)
         have cZ:=hide (HC.out.trans hc5 (by simp))
         have p5:=(pV.out.trans cZ.out (D:=[]) (fun k hk => .inr (qI.out k hk).2)).cell P2.out (by simp)
         clear hfd hdv hc5 hgr q3 q2
         go_wp2_with fail
         go_at_call 9
         refine lM.out.mono ?_
         rintro e w6 ⟨u6,F6,s6,rfl,hc6,hs6,hd6,rC,_⟩
         obtain ⟨Au,ku,rfl,_⟩:=id rC
         have gJ:=hide (cZ.out.trans hc6 (fun k hk => CO k hk))
         have HD6:=hide hd6
         have Gl:=hide (show Sub F6 F1 w4 from fun k hk => (hs6 k hk).elim (fun h => hsub k h) (fun h => .inr (Nat.le_trans cZ.out.size h)))
         have yE:=jI hd6
         have p6:=(pV.out.trans gJ.out (D:=[]) (fun k hk => .inr (qI.out k hk).2)).cell P2.out (by simp)
         clear lM hc6 hs6 hd6 rC vC cZ p5
         go_wp2_with fail
         go_at_call 8
         refine yE.mono ?_
         rintro e w7 ⟨v7,rfl,hc7,rV⟩
         have kJ:=hide (gJ.out.trans hc7 (by simp))
         have HD7:=hide (HD6.out.aJ hc7)
         have hsm:=LV rV (aF V8.out kJ.out (fun g hg hm => C_.out g hg hm))
         obtain ⟨A7,k7,rfl⟩:=yC rV
         have EH:=hide hsm
         have p7:=(pV.out.trans kJ.out (D:=[]) (fun k hk => .inr (qI.out k hk).2)).cell P2.out (by simp)
         clear yE hc7 rV hsm gJ HD6 p6
         go_wp2_with fail
         go_at_call 11
         refine EH.out.mono ?_
         rintro e w8 ⟨rfl,hc8⟩
         have qE:=hide (kJ.out.trans hc8 (by simp))
         have Tq:=hide (HD7.out.aJ hc8)
         have p8:=(pV.out.trans qE.out (D:=[]) (fun k hk => .inr (qI.out k hk).2)).cell P2.out (by simp)
         clear EH hc8 kJ HD7 p7
         go_wp2
         go_roundw
         case rel => exact ⟨j + 1,by omega,by go_num,qE,hide ⟨_,_,_,F6,by rw [HT.out,show vk (true,l) = 1 by unfold vk; simp [h20]]; exact Tq.out,Gl.out⟩⟩
         case measure => simp [intOf]; omega
        | false =>
         have yD:=pR hdv
         go_wp2_with fail
         go_at_call 8
         refine yD.mono ?_
         rintro e w5 ⟨rfl,hw5⟩
         obtain rfl:=hw5
         have hc5:ah wr wr []:=ah.refl _ _
         clear yD
         have hfd:=kT (hgr.aj hc5 (by simp)) (hdv.aJ hc5) (by omega) h20 hby ((q3.keep hcw).keep hc5)
         have lM:=hide hfd
         have vC:=hide (hdv.aJ hc5)
         have cZ:=hide (HC.out.trans hc5 (by simp))
         have p5:=(pV.out.trans cZ.out (D:=[]) (fun k hk => .inr (qI.out k hk).2)).cell P2.out (by simp)
         clear hfd hdv hc5 hgr q3 q2
         go_wp2_with fail
         go_at_call 9
         refine lM.out.mono ?_
         rintro e w6 ⟨u6,F6,s6,rfl,hc6,hs6,hd6,rC,_⟩
         obtain ⟨Au,ku,rfl,_⟩:=id rC
         have gJ:=hide (cZ.out.trans hc6 (fun k hk => CO k hk))
         have HD6:=hide hd6
         have Gl:=hide (show Sub F6 F1 w4 from fun k hk => (hs6 k hk).elim (fun h => hsub k h) (fun h => .inr (Nat.le_trans cZ.out.size h)))
         have yE:=jI hd6
         have p6:=(pV.out.trans gJ.out (D:=[]) (fun k hk => .inr (qI.out k hk).2)).cell P2.out (by simp)
         clear lM hc6 hs6 hd6 rC vC cZ p5
         go_wp2_with fail
         go_at_call 8
         refine yE.mono ?_
         rintro e w7 ⟨v7,rfl,hc7,rV⟩
         have kJ:=hide (gJ.out.trans hc7 (by simp))
         have HD7:=hide (HD6.out.aJ hc7)
         have hsm:=LV rV (aF V8.out kJ.out (fun g hg hm => C_.out g hg hm))
         obtain ⟨A7,k7,rfl⟩:=yC rV
         have EH:=hide hsm
         have p7:=(pV.out.trans kJ.out (D:=[]) (fun k hk => .inr (qI.out k hk).2)).cell P2.out (by simp)
         clear yE hc7 rV hsm gJ HD6 p6
         go_wp2_with fail
         go_at_call 11
         refine EH.out.mono ?_
         rintro e w8 ⟨rfl,hc8⟩
         have qE:=hide (kJ.out.trans hc8 (by simp))
         have Tq:=hide (HD7.out.aJ hc8)
         have p8:=(pV.out.trans qE.out (D:=[]) (fun k hk => .inr (qI.out k hk).2)).cell P2.out (by simp)
         clear EH hc8 kJ HD7 p7
         go_wp2
         go_roundw
         case rel => exact ⟨j + 1,by omega,by go_num,qE,hide ⟨_,_,_,F6,by rw [HT.out,show vk (true,l) = 1 by unfold vk; simp [h20]]; exact Tq.out,Gl.out⟩⟩
         case measure => simp [intOf]; omega
      · have k1:((l.length:Int) == 20) = false:=by simp; omega
        have k2:((l.length:Int) != 20) = true:=by simp; omega
        cases ran with
        | true =>
         have yD:=jI hdv
         go_wp2_with fail
         go_at_call 8
         refine yD.mono ?_
         rintro e w5 ⟨v5,rfl,hc5,ho5⟩
         have yO:=hide ho5
         obtain ⟨A5,k5,rfl⟩:=yC ho5
         clear yD ho5
         have hfd:=qH (hdv.aJ hc5) (A:=B) (m:=cb) h20 hlm
         have lM:=hide hfd
         have vC:=hide (hdv.aJ hc5)
         have cZ:=hide (HC.out.trans hc5 (by simp))
         have p5:=(pV.out.trans cZ.out (D:=[]) (fun k hk => .inr (qI.out k hk).2)).cell P2.out (by simp)
         clear hfd hdv hc5 hgr q3 q2
         go_wp2_with fail
         go_at_call 9
         refine lM.out.mono ?_
         rintro e w6 ⟨rfl,hc6⟩
         have gJ:=hide (cZ.out.trans hc6 (by simp))
         have HD6:=hide (vC.out.aJ hc6)
         have p6:=(pV.out.trans gJ.out (D:=[]) (fun k hk => .inr (qI.out k hk).2)).cell P2.out (by simp)
         clear lM vC cZ p5
         have yE:=jI HD6.out
         go_wp2_with fail
         go_at_call 8
         refine yE.mono ?_
         rintro e w7 ⟨v7,rfl,hc7,rV⟩
         have kJ:=hide (gJ.out.trans hc7 (by simp))
         have HD7:=hide (HD6.out.aJ hc7)
         have hsm:=LV rV (aF (aF yO.out hc6 (by simp)) hc7 (by simp))
         obtain ⟨A7,k7,rfl⟩:=yC rV
         have EH:=hide hsm
         clear yE hc7 rV hsm gJ HD6 hc6
         go_wp2_with fail
         go_at_call 11
         refine EH.out.mono ?_
         rintro e w8 ⟨rfl,hc8⟩
         have qE:=hide (kJ.out.trans hc8 (by simp))
         have Tq:=hide (HD7.out.aJ hc8)
         clear EH hc8 kJ HD7
         go_wp2
         go_roundw
         case rel => exact ⟨j + 1,by omega,by go_num,qE,hide ⟨_,_,_,F,by rw [HT.out,show vk (true,l) = 0 by unfold vk; simp [h20]]; exact Tq.out,hsub⟩⟩
         case measure => simp [intOf]; omega
        | false =>
         have yD:=pR hdv
         go_wp2_with fail
         go_at_call 8
         refine yD.mono ?_
         rintro e w5 ⟨rfl,hw5⟩
         obtain rfl:=hw5
         have hc5:ah wr wr []:=ah.refl _ _
         clear yD
         have hfd:=qH (hdv.aJ hc5) (A:=B) (m:=cb) h20 hlm
         have lM:=hide hfd
         have vC:=hide (hdv.aJ hc5)
         have cZ:=hide (HC.out.trans hc5 (by simp))
         have p5:=(pV.out.trans cZ.out (D:=[]) (fun k hk => .inr (qI.out k hk).2)).cell P2.out (by simp)
         clear hfd hdv hc5 hgr q3 q2
         go_wp2_with fail
         go_at_call 9
         refine lM.out.mono ?_
         rintro e w6 ⟨rfl,hc6⟩
         have gJ:=hide (cZ.out.trans hc6 (by simp))
         have HD6:=hide (vC.out.aJ hc6)
         have p6:=(pV.out.trans gJ.out (D:=[]) (fun k hk => .inr (qI.out k hk).2)).cell P2.out (by simp)
         clear lM vC cZ p5
         have yE:=pR HD6.out
         go_wp2_with fail
         go_at_call 8
         refine yE.mono ?_
         rintro e w7 ⟨rfl,hw7⟩
         obtain rfl:=hw7
         have kJ:=gJ
         have HD7:=HD6
         have EH:=hide (UG w6)
         clear yE hc6
         go_wp2_with fail
         go_at_call 11
         refine EH.out.mono ?_
         rintro e w8 ⟨rfl,hc8⟩
         have qE:=hide (kJ.out.trans hc8 (by simp))
         have Tq:=hide (HD7.out.aJ hc8)
         clear EH hc8 kJ HD7
         go_wp2
         go_roundw
         case rel => exact ⟨j + 1,by omega,by go_num,qE,hide ⟨_,_,_,F,by rw [HT.out,show vk (true,l) = 0 by unfold vk; simp [h20]]; exact Tq.out,hsub⟩⟩
         case measure => simp [intOf]; omega
   · have hjl:j = ds.length:=by omega
     subst hjl
     obtain ⟨x,s,ran,F,hdv,hsub⟩:=zn.out
     rw [List.take_length] at hdv
     have hcy:=uh hdv
     have hod:=jO.out.LU HC.out (fun k hk hm => by have:=HO1.out k hk; have:=(qI.out k hm).1; omega) D6.out
     have ND:=uh hod
     have hrc:=Oc (aF V8.out HC.out (fun g hg hm => C_.out g hg hm)) VW (by rw [oH]; omega) (by rw [oH]; omega)
     have HCY:=hide hcy
     have Ed:=hide ND
     have HRC:=hide hrc
     have HDF:=hide hdv
     have HOF:=hide hod
     have Vt:=hide (HG.out.aj hcw (by simp))
     have J4:=hide hcw
     have hb0:=LM (n:=1) (by decide)
     have hb1:=LM (n:=kZ ds) (by have:=Iy ds; omega)
     have hmul:=abG (n:=kZ ds)
     have hone:=abH
     have HML:=hide (show IntKind.i64.wrap ((kZ ds:Nat) * iT 1) = iT (kZ ds) from by rw [hmul,IntKind.wrap_i64]; omega)
     have HMW:=hide (show wrap64 ((kZ ds:Nat) * iT 1) = iT (kZ ds) from by rw [hmul]; unfold wrap64; omega)
     have HON:=hide hone
     clear hcy ND hrc hdv hod hcw hb0 hb1 hmul hone zn hlt hj
     go_wp2_with fail
     go_at_call 12
     refine Ed.out.mono ?_
     rintro e w5 ⟨rfl,hw5⟩
     obtain rfl:=hw5
     go_wp2_with fail
     go_at_call 13
     refine HRC.out.mono ?_
     rintro e w5 ⟨rfl,hc5⟩
     have hcy:=uh (HDF.out.aJ hc5)
     have ND:=uh (HOF.out.aJ hc5)
     have hrn:=HRS.out w5 (J4.out.trans hc5 (by simp))
     have haw:=mP (Vt.out.aj hc5 (by simp))
     have cZ:=hide (J4.out.trans hc5 (D:=[]) (by simp))
     rw [← HON.out]
     clear HRC Ed HCY hc5
     go_wp2_with fail
     go_at_call 12
     refine hcy.mono ?_
     rintro e w6 ⟨rfl,hw6⟩
     obtain rfl:=hw6
     go_wp2_with fail
     go_at_call 14
     refine hrn.mono ?_
     rintro e w6 ⟨rfl,hw6⟩
     obtain rfl:=hw6.symm
     go_wp2_with fail
     go_at_call 12
     refine ND.mono ?_
     rintro e w7 ⟨rfl,hw7⟩
     obtain rfl:=hw7
     have hml:=HML.out
     have hmw:=HMW.out
     go_wp2_with fail
     go_at_call 6
     refine haw.mono ?_
     rintro e w7 ⟨rfl,hc7⟩
     have kJ:=hide (cZ.out.trans hc7 (D:=[]) (by simp))
     clear haw hc7
     go_wp2
     go_ret
     exact ⟨rfl,kJ.out⟩
end Go.Proofs.YtjegdngblndkcaaGreatDoor
