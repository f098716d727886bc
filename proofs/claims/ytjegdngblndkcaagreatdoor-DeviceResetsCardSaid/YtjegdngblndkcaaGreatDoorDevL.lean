/- What the device's laws share: a list of twenty noughts, leaks that are none, the example. -/
import Derived.Test.YtjegdngblndkcaaGreatDoorDV21
import Derived.Test.YtjegdngblndkcaaGreatDoorDV22
import Derived.Test.YtjegdngblndkcaaGreatDoorRefSame
import Derived.Test.YtjegdngblndkcaaGreatDoorDV19
set_option linter.unusedSimpArgs false
namespace Go.Proofs.YtjegdngblndkcaaGreatDoor
open Go Go.RowKit Go.Deep Go.Maps Go.Proofs.YtjegdngblndkcaaGreatDoor.Ab Go.Proofs.YtjegdngblndkcaaGreatDoor.Xi
set_option linter.unusedVariables false
attribute [local go_sem] Oper.semAt_some
theorem afb (w:World):(Instr.makeSlice 29 (.int .i64 20) (.int .i64 20)).run Tryz.prog w = .ok (.slice (some ⟨w.heap.size,0,none⟩) 20 20) (w.alloc (.cells #[.int .u8 0,.int .u8 0,.int .u8 0,.int .u8 0,.int .u8 0,.int .u8 0,.int .u8 0,.int .u8 0,.int .u8 0,.int .u8 0,.int .u8 0,.int .u8 0,.int .u8 0,.int .u8 0,.int .u8 0,.int .u8 0,.int .u8 0,.int .u8 0,.int .u8 0,.int .u8 0] 5)):=by kernel_rfl
abbrev wz (w:World):World:=w.alloc (.cells #[.int .u8 0,.int .u8 0,.int .u8 0,.int .u8 0,.int .u8 0,.int .u8 0,.int .u8 0,.int .u8 0,.int .u8 0,.int .u8 0,.int .u8 0,.int .u8 0,.int .u8 0,.int .u8 0,.int .u8 0,.int .u8 0,.int .u8 0,.int .u8 0,.int .u8 0,.int .u8 0] 5)
theorem lK (w:World):ah w (wz w) []:=(ah.refl w []).alloc _
theorem afc (w:World):Sl (wz w) (.slice (some ⟨w.heap.size,0,none⟩) 20 20) (dH z20) :=
 Sl.blk' (aB.new w 5 (dH z20)) rfl (Nat.le_refl _)
theorem abE:∀ y∈z20,y < 256:=fun y hy => by rw [List.eq_of_mem_replicate hy]; decide
theorem kK {d k:Nat} {F I:List Nat} (h:k∈d :: F):k∈d :: (F ++ I):=by
 simp only [List.mem_cons,List.mem_append] at h ⊢
 exact h.imp_right .inl
theorem dJ.LU {w w':World} {d c:Nat} {x:Xi.St} {s:CS} {ran:Bool} {n:Nat} {F I D:List Nat} (h:dJ w d c x s ran n F I) (hc:ah w w' D) (hD:∀ k∈d :: (F ++ I),k∉D) (hG:∀ k∈D,11≤k):dJ w' d c x s ran n F I :=
 h.aj hc (hD d (by simp)) (fun k hk => hD k (by simp [hk])) (fun k hk => hD k (by simp [hk])) hG
theorem dJ.low {w:World} {d c:Nat} {x:Xi.St} {s:CS} {ran:Bool} {n:Nat} {F I:List Nat} (h:dJ w d c x s ran n F I):∀ k∈d :: (F ++ I),k < w.heap.size:=fun k hk => by
 obtain ⟨h1,h2,h3⟩:=h.lt
 simp only [List.mem_cons,List.mem_append] at hk
 rcases hk with rfl | hk | hk
 · exact h1
 · exact h2 k hk
 · exact h3 k hk
theorem dJ.FX {w:World} {d c:Nat} {x:Xi.St} {s:CS} {ran:Bool} {n:Nat} {F I:List Nat} (h:dJ w d c x s ran n F I):∀ k∈d :: F,11≤k:=fun k hk => by
 rcases List.mem_cons.1 hk with rfl | hk
 · exact h.high
 · exact h.core.high k hk
theorem UG (w:World):Calls Tryz.prog 11 #[.slice none 0 0,.slice none 0 0] w fun e w' => e = .returned (.bool true)∧ah w w' []:=by
 go_enter Tryz.func11,Tryz.ntmps11
 go_wp2_with fail
 go_loopw [5] (fun i wr => i = .int .i64 0∧w = wr) (fun i _ => 0)
 case atStart => exact ⟨rfl,rfl⟩
 case round =>
  obtain ⟨rfl,rfl⟩:=hrel
  go_wp2
  go_ret
  exact ⟨rfl,ah.refl _ _⟩
theorem yC {w:World} {b:Nat} {v:Value} (h:w.ownsRow b 68 3 v bM.length (bJ (bM.map vJ))):∃ A c,v = .slice A 22724 c:=by
 rw [oH] at h
 obtain ⟨A,c,e,_⟩:=je h
 exact ⟨A,c,e⟩
theorem LV {w:World} {b b':Nat} {v v':Value} (h:w.ownsRow b 68 3 v bM.length (bJ (bM.map vJ))) (h':w.ownsRow b' 68 3 v' bM.length (bJ (bM.map vJ))):Calls Tryz.prog 11 #[v,v'] w fun e w' => e = .returned (.bool true)∧ah w w' [] :=
 Oe h h' (by rw [oH]; omega) (by rw [oH]; omega)
theorem akG (a b c d s f g:Int) (w:World):(Instr.field 44 (.agg #[.int .i32 a,.int .i32 b,.int .i32 c,.int .i32 d,.int .i64 s,.int .i64 f,.int .i64 g]) 2).run Tryz.prog w = .ok (.int .i64 f) w:=by kernel_rfl
set_option maxRecDepth 100000 in
set_option maxHeartbeats 4000000 in
theorem mP {w:World} (hg:oh w):Calls Tryz.prog 6 #[] w fun e w' => e = .returned (.bool true)∧ah w w' []:=by
 have hmk:=afb
 have hnew:=rP w hg
 have HG:=hide hg
 have hqs:=eqS
 have hfs:=akG
 clear hg
 go_enter Tryz.func6,Tryz.ntmps6
 go_wp2_with fail
 go_at_call 7
 refine hnew.mono ?_
 rintro e w1 ⟨d,c,F,I,rfl,hc1,hd,hfr⟩
 have bD:=hide hc1
 have HD:=hide hd
 have hln:=qH hd (A:=none) (k:=0) (m:=0) (by decide) (by decide)
 rw [show rJ 0 = 4 from rfl] at hln
 clear hnew hc1 hd
 go_wp2_with fail
 go_at_call 9
 refine hln.mono ?_
 rintro e w2 ⟨rfl,hc2⟩
 have bo:=aB.new w2 55 [.pointer none,.slice none 0 0,.slice none 0 0,.slice none 0 0,.slice none 0 0,.slice none 0 0,.int .i32 0,.int .i32 0,.int .i32 0,.int .i32 0,.int .i64 0,.int .i64 0,.int .i64 0,.bool false,.int .i64 0]
 have ND:=(ah.refl w2 []).alloc (.cells #[.pointer none,.slice none 0 0,.slice none 0 0,.slice none 0 0,.slice none 0 0,.slice none 0 0,.int .i32 0,.int .i32 0,.int .i32 0,.int .i32 0,.int .i64 0,.int .i64 0,.int .i64 0,.bool false,.int .i64 0] 55)
 have hq0:=bo.cell' (i:=0) rfl
 have HQ:=hide (show w2.heap.size∉d :: F from fun hm => by
  have h1:=HD.out.lt
  have h2:=hc2.size
  rcases List.mem_cons.1 hm with h | h
  · omega
  · have:=h1.2.1 _ h
    omega)
 have lC:=hide (HD.out.aJ (hc2.trans ND (D:=[]) (by simp)))
 have Ed:=hide (bD.out.trans (hc2.trans ND (D:=[]) (by simp)) (D:=[]) (by simp))
 have hbl:=bo.lt
 clear bo ND hln hc2 HD bD
 go_wp2_with fail
 generalize w2.alloc _ = w3 at *
 generalize w2.heap.size = q at *
 have Qx:=hide hq0
 clear hq0
 go_at_call 9
 refine (J3 uN).mono ?_
 rintro e w4 ⟨rfl,rfl⟩
 go_wp2_with fail
 go_at_call 9
 refine (J3 (Ez (((lK w3).trans (lK _) (D:=[]) (by simp)).cell Qx.out (by simp)))).mono ?_
 rintro e w4 ⟨rfl,h4⟩
 have hc4:ah w3 w4 []:=by rw [← h4]; exact (lK w3).trans (lK _) (by simp)
 have HD4:=hide (lC.out.aJ hc4)
 have fM:=hide (Ed.out.trans hc4 (D:=[]) (by simp))
 have hq4:=hc4.cell Qx.out (by simp)
 have hod:=Ez hq4
 have U4:=hide hq4
 clear h4 hc4 hq4 lC Ed Qx
 go_wp2_with fail
 go_at_call 10
 refine (GK uN).mono ?_
 rintro e w5 ⟨rfl,rfl⟩
 go_wp2_with fail
 go_at_call 10
 refine (GK hod).mono ?_
 rintro e w5 ⟨rfl,rfl⟩
 go_wp2_with fail
 go_at_call 12
 refine (JZ uN).mono ?_
 rintro e w5 ⟨rfl,rfl⟩
 go_wp2_with fail
 go_at_call 12
 refine (JZ hod).mono ?_
 rintro e w5 ⟨rfl,rfl⟩
 go_wp2_with fail
 go_at_call 8
 refine (GI uN).mono ?_
 rintro e w5 ⟨rfl,rfl⟩
 go_wp2_with fail
 go_at_call 8
 refine (GI hod).mono ?_
 rintro e w5 ⟨rfl,rfl⟩
 have hfd:=kT ((HG.out.aj fM.out (by simp)).aj (lK _) (by simp)) (HD4.out.aJ (lK _)) (by decide) (show z20.length = 20 from rfl) abE (afc _)
 have lM:=hide hfd
 clear hfd hod
 go_wp2_with fail
 go_at_call 9
 refine lM.out.mono ?_
 rintro e w6 ⟨u,F6,s6,rfl,hc6,hs6,hd6,hu,_⟩
 rw [aee] at hd6
 have hz6:=HD4.out.lt
 have hw4:=fM.out.size
 have gJ:=hide (show ah w w6 [] from (fM.out.trans (lK _) (by simp)).trans hc6 (fun k hk => .inr (hfr k (kK hk))))
 have hlu:(dH ((st0.next z20).frame (kX z20))).length = 32:=by rw [fA,Xi.iw]
 obtain ⟨Au,cu,rfl,_⟩:=id hu
 rw [hlu]
 have hq6:=hc6.cell ((lK w4).cell U4.out (by simp)) HQ.out
 have hod:=fun w' (hc:ah w6 w' []) => Ez (hc.cell hq6 (by simp))
 have HD6:=hide hd6
 clear lM hc6 hs6 hd6 hu hlu hz6 hw4 HD4 fM hfr hq6 U4 HQ
 go_wp2_with fail
 go_at_call 15
 refine (GL (fun w1 _ => uN)).mono ?_
 rintro e w7 ⟨rfl,hc7⟩
 go_wp2_with fail
 go_at_call 15
 refine (GL (fun w1 h1 => hod w1 (hc7.trans h1 (by simp)))).mono ?_
 rintro e w8 ⟨rfl,hc8⟩
 have aem:=hc7.trans hc8 (D:=[]) (by simp)
 have hst:=jH (HD6.out.aJ aem)
 have qE:=hide aem
 clear hc7 hc8 aem hod
 go_wp2_with fail
 go_at_call 15
 refine hst.mono ?_
 unfold Xi.St.val stV
 rintro e w9 ⟨rfl,Af⟩
 have aen:=qE.out.trans Af (D:=[]) (by simp)
 have hmk:=jI (HD6.out.aJ aen)
 have Dh:=hide aen
 clear hst Af aen
 go_wp2_with fail
 go_at_call 8
 refine hmk.mono ?_
 rintro e w10 ⟨v10,rfl,hc10,ho10⟩
 obtain ⟨A10,k10,rfl⟩:=yC ho10
 have CZ:=hide (gJ.out.trans (Dh.out.trans hc10 (D:=[]) (by simp)) (D:=[]) (by simp))
 clear hmk hc10 ho10
 go_wp2
 go_ret
 exact ⟨rfl,CZ.out⟩
end Go.Proofs.YtjegdngblndkcaaGreatDoor
