/- The law on a device that is reset. -/
import Derived.Test.YtjegdngblndkcaaGreatDoorDevL
set_option linter.unusedSimpArgs false
namespace Go.Proofs.YtjegdngblndkcaaGreatDoor
open Go Go.RowKit Go.Deep Go.Maps Go.Proofs.YtjegdngblndkcaaGreatDoor.Ab Go.Proofs.YtjegdngblndkcaaGreatDoor.Xi
set_option linter.unusedVariables false
attribute [local go_sem] Oper.semAt_some
def Apart (a b:List Nat):Prop:=∀ k∈a,k∉b
theorem Apart.left {a a' b:List Nat} {w:World} (h:Apart a b) (hs:Sub a' a w) (hb:∀ k∈b,k < w.heap.size):Apart a' b:=fun k hk hm => by
 rcases hs k hk with h1 | h1
 · exact h k h1 hm
 · have:=hb k hm
   omega
theorem Apart.right {a b b':List Nat} {w:World} (h:Apart a b) (hs:Sub b' b w) (ha:∀ k∈a,k < w.heap.size):Apart a b':=fun k hk hm => by
 rcases hs k hm with h1 | h1
 · exact h k hk h1
 · have:=ha k hk
   omega
theorem Tz {d:Nat} {F' F:List Nat} {w:World} (h:Sub F' F w):Sub (d :: F') (d :: F) w:=fun k hk => by
 rcases List.mem_cons.1 hk with h1 | h1
 · exact .inl (by simp [h1])
 · exact (h k h1).imp_left (List.mem_cons_of_mem _)
def Two (w5 wr:World) (d c1 o c2:Nat) (F3 I1 F2 I2:List Nat) (j:Nat):Prop:=∃ x s ran n F s' ran' n' F',n≤6 + j∧n'≤j∧dJ wr d c1 x s ran n F I1∧dJ wr o c2 x s' ran' n' F' I2∧Apart (d :: F) (o :: (F' ++ I2))∧Apart (o :: F') (d :: (F ++ I1))∧Sub F F3 w5∧Sub F' F2 w5
theorem Two.keep {w5 wr w':World} {d c1 o c2:Nat} {F3 I1 F2 I2:List Nat} {j:Nat} (h:Two w5 wr d c1 o c2 F3 I1 F2 I2 j) (hc:ah wr w' []):Two w5 w' d c1 o c2 F3 I1 F2 I2 j:=by
 obtain ⟨x,s,ran,n,F,s',ran',n',F',h1,h2,h3,h4,h5⟩:=h
 exact ⟨x,s,ran,n,F,s',ran',n',F',h1,h2,h3.aJ hc,h4.aJ hc,h5⟩
set_option maxRecDepth 100000 in
set_option maxHeartbeats 4000000 in
theorem EI {w:World} (hg:oh w) {A:Option Addr} {c:Nat} {ds:List gG} (h:rQ w A ds) (hl:ds.length≤maxLen) (hln:∀ d∈ds,d.2.length≤maxLen∧∀ y∈d.2,y < 256) {A':Option Addr} {c':Nat} {es:List gG} (h':rQ w A' es) (hl':es.length≤maxLen) (hln':∀ d∈es,d.2.length≤maxLen∧∀ y∈d.2,y < 256) :
 Calls Tryz.prog 4 #[.slice A ds.length c,.slice A' es.length c'] w fun e w' => e = .returned (.bool true)∧ah w w' []:=by
 have hfw:=EG (c:=c) 6 h hl (fun d hd => (hln d hd).1)
 have Iz:=EG (c:=c') 6 h' hl' (fun d hd => (hln' d hd).1)
 have HG:=hide hg
 cases hb:zL ds 6 with
 | false =>
  rw [hb] at hfw
  have haw:=mP hg
  clear h hl hln hg hb h' hl' hln' Iz
  go_enter Tryz.func4,Tryz.ntmps4
  go_wp2_with fail
  go_at_call 5
  refine hfw.mono ?_
  rintro e w1 ⟨rfl,hw1⟩
  obtain rfl:=hw1.symm
  clear hfw
  go_wp2_with fail
  go_at_call 6
  refine haw.mono ?_
  rintro e w2 ⟨rfl,hc⟩
  have HC:=hide hc
  clear haw hc
  go_wp2
  go_ret
  exact ⟨rfl,HC.out⟩
 | true =>
  obtain ⟨hb1,hb2⟩:=CG hb
  have hb2:ds.length≤6:=by omega
  rw [hb] at hfw
  cases hb':zL es 6 with
  | false =>
   rw [hb'] at Iz
   have haw:=mP hg
   clear h hl hln hg hb h' hl' hln' hb1 hb' hb2
   go_enter Tryz.func4,Tryz.ntmps4
   go_wp2_with fail
   go_at_call 5
   refine hfw.mono ?_
   rintro e w1 ⟨rfl,hw1⟩
   obtain rfl:=hw1.symm
   clear hfw
   go_wp2_with fail
   go_at_call 5
   refine Iz.mono ?_
   rintro e w1 ⟨rfl,hw1⟩
   obtain rfl:=hw1.symm
   clear Iz
   go_wp2_with fail
   go_at_call 6
   refine haw.mono ?_
   rintro e w2 ⟨rfl,hc⟩
   have HC:=hide hc
   clear haw hc
   go_wp2
   go_ret
   exact ⟨rfl,HC.out⟩
  | true =>
   obtain ⟨_,hb2'⟩:=CG hb'
   have hb2':es.length≤6:=by omega
   rw [hb'] at Iz
   have HX:=hide h
   have HLN:=hide hln
   have HX':=hide h'
   have akJ:=hide hln'
   have hnw:=rP w hg
   have hqs:=eqS
   clear h hl hln hg hb hb1 h' hl' hln' hb'
   go_enter Tryz.func4,Tryz.ntmps4
   go_wp2_with fail
   go_at_call 5
   refine hfw.mono ?_
   rintro e w1 ⟨rfl,hw1⟩
   obtain rfl:=hw1.symm
   clear hfw
   go_wp2_with fail
   go_at_call 5
   refine Iz.mono ?_
   rintro e w1 ⟨rfl,hw1⟩
   obtain rfl:=hw1.symm
   clear Iz
   go_wp2_with fail
   go_at_call 7
   refine hnw.mono ?_
   rintro e w1 ⟨d,c1,F1,I1,rfl,hc1,hd1,hf1⟩
   have bD:=hide hc1
   have HD1:=hide hd1
   have gZ:=hide hf1
   have Tn:=rP w1 (HG.out.aj hc1 (by simp))
   clear hnw hc1 hd1 hf1
   go_wp2_with fail
   go_at_call 7
   refine Tn.mono ?_
   rintro e w2 ⟨o,c2,F2,I2,rfl,hc2,ho2,hf2⟩
   have HC2:=hide (bD.out.trans hc2 (D:=[]) (by simp))
   have HD2:=hide (HD1.out.aJ hc2)
   have qR:=hide ho2
   have HF2:=hide hf2
   have qI:=hide (show ∀ k∈d :: (F1 ++ I1),k < w1.heap.size∧w.heap.size≤k from fun k hk => ⟨HD1.out.low k hk,gZ.out k hk⟩)
   have HZ1:=hide bD.out.size
   have HZ2:=hide hc2.size
   have D6:=hide HD1.out.FX
   clear Tn hc2 ho2 hf2 HD1 gZ bD
   go_wp2_with fail
   go_loopw [7] (fun i wr => ∃ j:Nat,j≤ds.length∧i = .int .i64 j∧Hid (ah w2 wr (d :: F1))∧Hid (∃ x s ran n F,n≤j∧dJ wr d c1 x s ran n F I1∧Sub F F1 w2)) (fun i _ => ds.length - (intOf i).toNat)
   case atStart => exact ⟨0,Nat.zero_le _,rfl,hide (ah.refl _ _),hide ⟨_,_,_,0,F1,Nat.le_refl _,HD2.out,Sub.refl _ _⟩⟩
   case round =>
    clear HD2
    obtain ⟨j,hj,rfl,HC,zn⟩:=hrel
    have hcw:ah w wr []:=HC2.out.trans HC.out (fun k hk => .inr ((qI.out k (kK hk)).2))
    obtain ⟨x,s,ran,n,F,hnj,hdv,hsub⟩:=zn.out
    have hgr:=HG.out.aj hcw (by simp)
    have CO:∀ k,k∈d :: F→k∈d :: F1∨w2.heap.size≤k:=fun k hk => by
     rcases List.mem_cons.1 hk with h | h
     · exact .inl (by simp [h])
     · exact (hsub k h).imp_left (fun h => List.mem_cons_of_mem _ h)
    by_cases hlt:j < ds.length
    · obtain ⟨⟨f,l⟩,hd⟩:∃ d,ds[j]? = some d:=⟨ds[j],by simp [hlt]⟩
      obtain ⟨bb,off,B,cb,rfl,q1,q2,q3⟩:=HX.out.at_ hd
      replace q2:=hcw.cell q2 (by simp)
      have hmem:=List.mem_of_getElem? hd
      have hlm:=(HLN.out _ hmem).1
      have hby:=(HLN.out _ hmem).2
      simp only at q2 q3 hlm hby
      clear hd hmem zn q1
      by_cases h20:l.length = 20
      · rw [h20] at q2 q3
        have lM:=hide (kT hgr hdv (by omega) h20 hby (q3.keep hcw))
        clear hdv hgr q3
        go_wp2_with fail
        go_at_call 9
        refine lM.out.mono ?_
        rintro e w6 ⟨u6,F6,s6,rfl,hc6,hs6,hd6,rC,_⟩
        obtain ⟨Au,ku,rfl,_⟩:=id rC
        have gJ:=hide (HC.out.trans hc6 (fun k hk => CO k hk))
        have HD6:=hide hd6
        have Gl:=hide (show Sub F6 F1 w2 from fun k hk => (hs6 k hk).elim (fun h => hsub k h) (fun h => .inr (Nat.le_trans HC.out.size h)))
        clear lM hc6 hs6 hd6 rC
        go_wp2
        go_roundw
        case rel => exact ⟨j + 1,by omega,by go_num,gJ,hide ⟨_,_,_,n + 1,F6,by omega,HD6.out,Gl.out⟩⟩
        case measure => simp [intOf]; omega
      · have lM:=hide (qH hdv (A:=B) (m:=cb) h20 hlm)
        have vC:=hide hdv
        clear hdv hgr q3
        go_wp2_with fail
        go_at_call 9
        refine lM.out.mono ?_
        rintro e w6 ⟨rfl,hc6⟩
        have gJ:=hide (HC.out.trans hc6 (by simp))
        have HD6:=hide (vC.out.aJ hc6)
        clear lM hc6 vC
        go_wp2
        go_roundw
        case rel => exact ⟨j + 1,by omega,by go_num,gJ,hide ⟨_,_,_,n,F,by omega,HD6.out,hsub⟩⟩
        case measure => simp [intOf]; omega
    · have hjl:j = ds.length:=by omega
      clear hlt
      subst hjl
      have hrs:=ED hgr hdv
      have HOR:=hide (qR.out.LU HC.out (fun k hk hm => by
       have h1:=(qI.out k (kK hm)).1
       have h2:=HF2.out k hk
       omega) D6.out)
      have HOB:=hide (show ∀ k∈o :: (F2 ++ I2),w1.heap.size≤k∧k < w2.heap.size from fun k hk => ⟨HF2.out k hk,qR.out.low k hk⟩)
      have HNJ:=hide (show n≤6 by omega)
      have hFb:∀ k∈d :: F,(k < w1.heap.size∨w2.heap.size≤k)∧w.heap.size≤k:=fun k hk => by
       rcases CO k hk with h | h
       · have:=qI.out k (kK h)
         exact ⟨.inl this.1,this.2⟩
       · exact ⟨.inr h,by have:=HZ1.out; have:=HZ2.out; omega⟩
      have C_:=hide hFb
      have QF:=hide hcw
      have HIB:=hide (show ∀ k∈I1,k < w1.heap.size from fun k hk => (qI.out k (by simp [hk])).1)
      have Vu:=hdv.FX
      have HQD:=hide Vu
      clear hgr hdv zn qR hFb hcw CO hsub Vu
      go_wp2_with fail
      go_at_call 10
      refine hrs.mono ?_
      rintro e w3 ⟨rfl,hc3,F3,hs3,hd3⟩
      have HDB:=hide (show ∀ k∈d :: (F3 ++ I1),k < w1.heap.size∨w2.heap.size≤k from fun k hk => by
       simp only [List.mem_cons,List.mem_append] at hk
       have hz:=HC.out.size
       rcases hk with h | h | h
       · exact (C_.out k (by simp [h])).1
       · rcases hs3 k h with h | h
         · exact (C_.out k (by simp [h])).1
         · exact .inr (by omega)
       · exact .inl (HIB.out k h))
      have HDW:=hide (show ∀ k∈d :: F3,w.heap.size≤k from fun k hk => by
       rcases List.mem_cons.1 hk with h | h
       · exact (C_.out k (by simp [h])).2
       · rcases hs3 k h with h | h
         · exact (C_.out k (by simp [h])).2
         · have:=QF.out.size
           omega)
      have vG:=hide (HOR.out.LU hc3 (fun k hk hm => by
       have h1:=HOB.out k hk
       rcases (C_.out k hm).1 with h | h <;> omega) HQD.out)
      have HD3:=hide hd3
      have fD:=hide (show ah w w3 [] from QF.out.trans hc3 (fun k hk => .inr (C_.out k hk).2))
      have hst1:=jH hd3
      clear hrs hc3 hs3 hd3 HC HOR
      go_wp2_with fail
      go_at_call 15
      refine hst1.mono ?_
      rintro e w4 ⟨rfl,hc4⟩
      have jO:=hide (vG.out.aJ hc4)
      have HD4:=hide (HD3.out.aJ hc4)
      have fM:=hide (fD.out.trans hc4 (D:=[]) (by simp))
      have hst2:=jH jO.out
      clear hst1 hc4 vG HD3 fD
      go_wp2_with fail
      go_at_call 15
      refine hst2.mono ?_
      rintro e w5 ⟨rfl,hc5⟩
      have yO:=hide (jO.out.aJ hc5)
      have HD5:=hide (HD4.out.aJ hc5)
      have cZ:=hide (fM.out.trans hc5 (D:=[]) (by simp))
      have HA1:=hide (show Apart (d :: F3) (o :: (F2 ++ I2)) from fun k hk hm => by
       have h1:=HOB.out k hm
       rcases HDB.out k (kK hk) with h | h <;> omega)
      have HA2:=hide (show Apart (o :: F2) (d :: (F3 ++ I1)) from fun k hk hm => by
       have h1:=HOB.out k (kK hk)
       rcases HDB.out k hm with h | h <;> omega)
      have HWW:=hide (show ∀ k∈(d :: F3) ++ (o :: F2),w.heap.size≤k from fun k hk => by
       rcases List.mem_append.1 hk with h | h
       · exact HDW.out k h
       · have:=(HOB.out k (kK h)).1
         have:=HZ1.out
         omega)
      clear hst2 hc5 jO HD4 fM
      rw [FQ]
      go_wp2_with fail
      go_loopw [8,9,10,11,12] (fun i _ _ _ _ wr => ∃ j:Nat,j≤es.length∧i = .int .i64 j∧Hid (ah w5 wr ((d :: F3) ++ (o :: F2)))∧Hid (Two w5 wr d c1 o c2 F3 I1 F2 I2 j)) (fun i _ _ _ _ _ => es.length - (intOf i).toNat)
      case atStart => exact ⟨0,Nat.zero_le _,rfl,hide (ah.refl _ _),hide ⟨_,_,_,_,F3,_,_,_,F2,HNJ.out,Nat.le_refl _,HD5.out,yO.out,HA1.out,HA2.out,Sub.refl _ _,Sub.refl _ _⟩⟩
      case round =>
       clear HD5 yO
       obtain ⟨j,hj,rfl,HC,TA⟩:=hrel
       have hcw:ah w wr []:=cZ.out.trans HC.out (fun k hk => .inr (HWW.out k hk))
       have hgr:=HG.out.aj hcw (by simp)
       by_cases hlt:j < es.length
       · obtain ⟨⟨f,l⟩,hd⟩:∃ d,es[j]? = some d:=⟨es[j],by simp [hlt]⟩
         obtain ⟨bb,off,B,cb,rfl,q1,q2,q3⟩:=HX'.out.at_ hd
         have hmem:=List.mem_of_getElem? hd
         have hlm:=(akJ.out _ hmem).1
         have hby:=(akJ.out _ hmem).2
         obtain ⟨x,s,ran,n,F,s',ran',n',F',hn,hn',hdv,hov,ha1,ha2,hs1,hs2⟩:=TA.out
         simp only at q2 q3 hlm hby
         have r2:=hcw.cell q2 (by simp)
         clear hd hmem q1 TA
         by_cases h20:l.length = 20
         · rw [h20] at q2 q3 r2
           have hfd:=kT hgr hdv (by omega) h20 hby (q3.keep hcw)
           have zn:=hide hdv
           have J8:=hide hov
           have pV:=hide hcw
           have VO:=hide q3
           have Dc:=hide q2
           have HBY:=hide hby
           have HA:=hide (show Apart (d :: F) (o :: (F' ++ I2))∧Apart (o :: F') (d :: (F ++ I1)) from ⟨ha1,ha2⟩)
           have HS:=hide (show Sub F F3 w5∧Sub F' F2 w5 from ⟨hs1,hs2⟩)
           clear hdv hov hcw q3 q2 hby ha1 ha2 hs1 hs2
           go_wp2_with fail
           go_at_call 9
           refine hfd.mono ?_
           rintro e w6 ⟨u6,F6,s6,rfl,hc6,hs6,hd6,rC,hn6⟩
           have hwd:∀ k∈d :: F,k∈(d :: F3) ++ (o :: F2)∨w5.heap.size≤k:=fun k hk => by
            rcases List.mem_cons.1 hk with h | h
            · exact .inl (by simp [h])
            · exact (HS.out.1 k h).imp_left (fun h => by simp [h])
           have hwo:∀ k∈o :: F',k∈(d :: F3) ++ (o :: F2)∨w5.heap.size≤k:=fun k hk => by
            rcases List.mem_cons.1 hk with h | h
            · exact .inl (by simp [h])
            · exact (HS.out.2 k h).imp_left (fun h => by simp [h])
           have hge:∀ k,k∈(d :: F3) ++ (o :: F2)∨w5.heap.size≤k→w.heap.size≤k:=fun k hk => by
            rcases hk with h | h
            · exact HWW.out k h
            · have:=cZ.out.size
              omega
           have Vf:=J8.out.LU hc6 (fun k hk hm => HA.out.1 k hm hk) zn.out.FX
           have YR:ah w w6 []:=pV.out.trans hc6 (fun k hk => .inr (hge k (hwd k hk)))
           have r2':=YR.cell Dc.out (by simp)
           have hfo:=kT (HG.out.aj YR (by simp)) Vf (by omega) h20 HBY.out (VO.out.keep YR)
           have B1:Apart (d :: F6) (o :: (F' ++ I2)):=HA.out.1.left (Tz hs6) J8.out.low
           have B2:Apart (o :: F') (d :: (F6 ++ I1)):=HA.out.2.right (fun k hk => by
            simp only [List.mem_cons,List.mem_append] at hk ⊢
            rcases hk with h | h | h
            · exact .inl (.inl h)
            · exact (hs6 k h).imp_left (fun h => .inr (.inl h))
            · exact .inl (.inr (.inr h))) (fun k hk => J8.out.low k (kK hk))
           have HU6:=hide (show Sl w6 u6 (dH ((x.next l).frame (kX l)))∧∀ A n c,u6 = .slice (some A) n c→A.block∉o :: F' from ⟨rC,fun A n c e hm => by
            have:=hn6 A n c e
            have:=J8.out.low A.block (kK hm)
            omega⟩)
           obtain ⟨Au,ku,rfl,_⟩:=id rC
           have HD6:=hide hd6
           have QK:=hide Vf
           have gJ:=hide (HC.out.trans hc6 hwd)
           have HB:=hide (show Apart (d :: F6) (o :: (F' ++ I2))∧Apart (o :: F') (d :: (F6 ++ I1)) from ⟨B1,B2⟩)
           have Gl:=hide (show Sub F6 F3 w5 from fun k hk => (hs6 k hk).elim (fun h => HS.out.1 k h) (fun h => .inr (Nat.le_trans HC.out.size h)))
           have HWO:=hide hwo
           have HGE:=hide hge
           clear hfd hc6 hs6 hd6 rC hn6 Vf B1 B2 hwd hwo hge zn J8 HA YR pV VO Dc r2 hgr
           go_wp2_with fail
           go_at_call 9
           refine hfo.mono ?_
           rintro e w7 ⟨u7,F7,s7,rfl,hc7,hs7,rV,hu7,_⟩
           have hd7:=HD6.out.LU hc7 (fun k hk hm => HB.out.2 k hm hk) QK.out.FX
           have akK:=HU6.out.1.aj hc7 (fun A n c e => HU6.out.2 A n c e)
           have B1:Apart (d :: F6) (o :: (F7 ++ I2)):=HB.out.1.right (fun k hk => by
            simp only [List.mem_cons,List.mem_append] at hk ⊢
            rcases hk with h | h | h
            · exact .inl (.inl h)
            · exact (hs7 k h).imp_left (fun h => .inr (.inl h))
            · exact .inl (.inr (.inr h))) (fun k hk => HD6.out.low k (kK hk))
           have B2:Apart (o :: F7) (d :: (F6 ++ I1)):=HB.out.2.left (Tz hs7) HD6.out.low
           obtain ⟨Av,kv,rfl,_⟩:=id hu7
           have hfl:∀ y∈(x.next l).frame (kX l),y < 256:=Xi.yA (x.next l) (Xi.Eu l)
           have HK:=hide (show ∀ w',ah w7 w' []→_ from fun w' hc => And.intro (LK (akK.keep hc) hfl) (LK (hu7.keep hc) hfl))
           have kJ:=hide (gJ.out.trans hc7 HWO.out)
           have TA:=hide (show Two w5 w7 d c1 o c2 F3 I1 F2 I2 (j + 1) from ⟨_,_,_,_,F6,_,_,_,F7,by omega,by omega,hd7,rV,B1,B2,Gl.out,fun k hk => (hs7 k hk).elim (fun h => HS.out.2 k h) (fun h => .inr (Nat.le_trans gJ.out.size h))⟩)
           have TB:=hide (fun w' (hc:ah w7 w' []) => jH (hd7.aJ hc))
           have TD:=hide (fun w' (hc:ah w7 w' []) => jH (rV.aJ hc))
           clear hfo hc7 hs7 rV hu7 hd7 akK B1 B2 hfl HD6 QK gJ HB Gl HWO HU6 HS r2'
           obtain ⟨k1,k2⟩:=HK.out w7 (ah.refl _ _)
           have ss:=S9
           generalize (dH ((x.next l).frame (kX l))).length = n9 at *
           go_wp2_with fail
           go_at_call 15
           refine (TB.out _ (ah.refl _ _)).mono ?_
           rintro e w8 ⟨rfl,hc8⟩
           have hs2:=TD.out w8 hc8
           have qE:=hide hc8
           clear hc8 k1 k2
           go_wp2_with fail
           go_at_call 15
           refine hs2.mono ?_
           rintro e w9 ⟨rfl,Af⟩
           have Dh:=hide (qE.out.trans Af (D:=[]) (by simp))
           clear hs2 Af qE HK TB TD
           generalize x.next l = y at *
           unfold Xi.St.val stV
           go_wp2_with fail
           go_wp2
           go_roundw
           case rel => exact ⟨j + 1,by omega,by go_num,hide (kJ.out.trans Dh.out (by simp)),hide (TA.out.keep Dh.out)⟩
           case measure => simp [intOf]; omega
         · have hfd:=qH hdv (A:=B) (m:=cb) h20 hlm
           have zn:=hide hdv
           have J8:=hide hov
           have pV:=hide hcw
           have Dc:=hide q2
           have TA:=hide (show Two w5 wr d c1 o c2 F3 I1 F2 I2 (j + 1) from ⟨x,s,ran,n,F,s',ran',n',F',by omega,by omega,hdv,hov,ha1,ha2,hs1,hs2⟩)
           clear hdv hov hcw q3 q2 hby ha1 ha2 hs1 hs2 hgr
           go_wp2_with fail
           go_at_call 9
           refine hfd.mono ?_
           rintro e w6 ⟨rfl,hc6⟩
           have hfo:=qH (J8.out.aJ hc6) (A:=B) (m:=cb) h20 hlm
           have r2':=(pV.out.trans hc6 (D:=[]) (by simp)).cell Dc.out (by simp)
           have gJ:=hide hc6
           clear hfd hc6 r2
           go_wp2_with fail
           go_at_call 9
           refine hfo.mono ?_
           rintro e w7 ⟨rfl,hc7⟩
           have kJ:=hide (gJ.out.trans hc7 (D:=[]) (by simp))
           have TB:=hide (fun w' (hc:ah w7 w' []) => jH ((zn.out.aJ kJ.out).aJ hc))
           have TD:=hide (fun w' (hc:ah w7 w' []) => jH ((J8.out.aJ kJ.out).aJ hc))
           have k1:=LK (xs:=[]) (Xi.abo w7) (by simp)
           have ss:=S9
           clear hfo hc7 gJ zn J8 pV Dc r2'
           generalize rJ l.length = E at *
           go_wp2_with fail
           go_at_call 15
           refine (TB.out _ (ah.refl _ _)).mono ?_
           rintro e w8 ⟨rfl,hc8⟩
           have hs2:=TD.out w8 hc8
           have qE:=hide hc8
           clear hc8 k1
           go_wp2_with fail
           go_at_call 15
           refine hs2.mono ?_
           rintro e w9 ⟨rfl,Af⟩
           have Dh:=hide ((kJ.out.trans qE.out (D:=[]) (by simp)).trans Af (D:=[]) (by simp))
           clear hs2 Af qE TB TD kJ
           unfold Xi.St.val stV
           go_wp2_with fail
           go_wp2
           go_roundw
           case rel => exact ⟨j + 1,by omega,by go_num,hide (HC.out.trans Dh.out (by simp)),hide (TA.out.keep Dh.out)⟩
           case measure => simp [intOf]; omega
       · have hjl:j = es.length:=by omega
         clear hlt
         subst hjl
         have haw:=mP hgr
         have pV:=hide hcw
         clear hgr hcw TA
         go_wp2_with fail
         go_at_call 6
         refine haw.mono ?_
         rintro e w6 ⟨rfl,hc6⟩
         have gJ:=hide (pV.out.trans hc6 (D:=[]) (by simp))
         clear haw hc6
         go_wp2
         go_ret
         exact ⟨rfl,gJ.out⟩
end Go.Proofs.YtjegdngblndkcaaGreatDoor
