/- firm.Image. -/
import Derived.Test.YtjcgiddgafjdpaaGreatDoorFR12
import Derived.Test.YtjcgiddgafjdpaaGreatDoorRso
import Derived.Test.YtjcgiddgafjdpaaGreatDoorFR11
namespace Go.Proofs.YtjcgiddgafjdpaaGreatDoor
open Go Go.RowKit Go.Deep Go.Maps Go.Proofs.YtjcgiddgafjdpaaGreatDoor.Ab Go.Proofs.YtjcgiddgafjdpaaGreatDoor.Xi
set_option linter.unusedVariables false
attribute [local go_sem] Oper.semAt_some
theorem exT_eq6 (vs:Array Value) (k:Nat):exT (.tuple vs) k = vs.getD k undef:=rfl
def gS:Nat→KS
 | 0 => stKeep
 | j + 1 => (gS j).cell (20 + j)
theorem gS_can:∀ j,j < 7→(gS j).can 1 = true:=fun j hj => by
 rcases (by omega:j = 0∨j = 1∨j = 2∨j = 3∨j = 4∨j = 5∨j = 6) with rfl | rfl | rfl | rfl | rfl | rfl | rfl <;> kernel_rfl
theorem gS_used:∀ j,j < 7→(gS j).used = 27 + j:=fun j hj => by
 rcases (by omega:j = 0∨j = 1∨j = 2∨j = 3∨j = 4∨j = 5∨j = 6) with rfl | rfl | rfl | rfl | rfl | rfl | rfl <;> kernel_rfl
def getC (j:Nat):List Value:=(List.range 7).map fun i => .int .i64 (if i < j then ((27 + i:Nat):Int) else 0)
theorem getC_len (j:Nat):(getC j).length = 7:=by simp [getC]
theorem getC_set:∀ j,j < 7→(getC j).set j (.int .i64 ((27 + j:Nat):Int)) = getC (j + 1):=fun j hj => by
 match j,hj with
 | 0,_ => rfl
 | 1,_ => rfl
 | 2,_ => rfl
 | 3,_ => rfl
 | 4,_ => rfl
 | 5,_ => rfl
 | 6,_ => rfl
theorem keepC_at:∀ j,j < 7→(keepC 7)[j]? = some (.int .i64 ((20 + j:Nat):Int)):=fun j hj => by
 match j,hj with
 | 0,_ => rfl
 | 1,_ => rfl
 | 2,_ => rfl
 | 3,_ => rfl
 | 4,_ => rfl
 | 5,_ => rfl
 | 6,_ => rfl
noncomputable def sS (b:MP):Nat→KS
 | 0 => stFed b
 | j + 1 => (sS b j).set (20 + j) (isFirm.getD j 0)
theorem sS_nc (b:MP) (j:Nat) (hj:j < 7):(sS b j).nc≤799990:=by
 have h0:=Nat.le_of_ble_eq_true (ncFirm b)
 have e:∀ j,(sS b j).nc = (stFed b).nc + 2 * j:=fun j => by
  induction j with
  | zero => rfl
  | succ j ih => show (sS b j).nc + 2 = _; rw [ih]; omega
 rw [e]
 omega
def isC:List Value:=isFirm.map fun x:Nat => .int .i64 (x:Int)
theorem isC_at (j:Nat) (hj:j < 7):isC[j]? = some (.int .i64 ((isFirm.getD j 0:Nat):Int)):=by
 match j,hj with
 | 0,_ => rfl
 | 1,_ => rfl
 | 2,_ => rfl
 | 3,_ => rfl
 | 4,_ => rfl
 | 5,_ => rfl
 | 6,_ => rfl
theorem isFirm_le (j:Nat) (hj:j < 7):isFirm.getD j 0≤2048:=by
 match j,hj with
 | 0,_ => decide
 | 1,_ => decide
 | 2,_ => decide
 | 3,_ => decide
 | 4,_ => decide
 | 5,_ => decide
 | 6,_ => decide
def vF6 (b:MP) (g c:Nat) (γ:Gh):Nat→Value
 | 0 => .pointer (some ⟨b.a,0,none⟩)
 | 1 => .agg #[.iface 88 (.pointer (some ⟨b.a,0,none⟩))]
 | 2 => .int .i64 0
 | 3 => .slice (some ⟨g,0,none⟩) 20 c
 | 4 => .agg #[.int .i64 27,.int .i64 28,.int .i64 29,.int .i64 30,.int .i64 31,.int .i64 32,.int .i64 33]
 | 5 => γ 5
 | 6 => γ 5
 | 7 => .agg #[.int .i64 502,.int .i64 505,.int .i64 508,.int .i64 511,.int .i64 514,.int .i64 520,.int .i64 517]
 | 8 => exT (γ 5) 1
 | 9 => γ 9
 | 10 => undef
 | 11 => exT (γ 5) 1
 | _ => undef
theorem agF6_5 (b:MP) (g c:Nat) (γ:Gh) (v:Value):∀ j,j∉([5,6,8,11]:List Nat)→vF6 b g c (upd γ 5 v) j = vF6 b g c γ j:=fun j hj => by
 match j,hj with
 | 0,_ => rfl
 | 1,_ => rfl
 | 2,_ => rfl
 | 3,_ => rfl
 | 4,_ => rfl
 | 5,hj => exact absurd (by decide) hj
 | 6,hj => exact absurd (by decide) hj
 | 7,_ => rfl
 | 8,hj => exact absurd (by decide) hj
 | 9,_ => rfl
 | 10,_ => rfl
 | 11,hj => exact absurd (by decide) hj
 | _ + 12,_ => rfl
theorem agF6_9 (b:MP) (g c:Nat) (γ:Gh) (v:Value):∀ j,j∉([9]:List Nat)→vF6 b g c (upd γ 9 v) j = vF6 b g c γ j:=fun j hj => by
 match j,hj with
 | 0,_ => rfl
 | 1,_ => rfl
 | 2,_ => rfl
 | 3,_ => rfl
 | 4,_ => rfl
 | 5,_ => rfl
 | 6,_ => rfl
 | 7,_ => rfl
 | 8,_ => rfl
 | 9,hj => exact absurd (by decide) hj
 | 10,_ => rfl
 | 11,_ => rfl
 | _ + 12,_ => rfl
theorem putsF6 (v:Nat→Value) (t0 t1 t2 t3 t4 t5 t6 t7 t8 t9 t10 t11 t12 t13 t14 t15 t16 t17 t18 t19 t20 t21 t22 t23 t24 t25 t26 t27 t28 t29 t30 t31 t32 t33:Value):putsD v (some 19 :: some 20 :: some 21 :: some 22 :: some 23 :: some 24 :: some 18 :: some 25 :: some 26 :: some 6 :: none :: some 7 :: []) 0 (t0 :: t1 :: t2 :: t3 :: t4 :: t5 :: t6 :: t7 :: t8 :: t9 :: t10 :: t11 :: t12 :: t13 :: t14 :: t15 :: t16 :: t17 :: t18 :: t19 :: t20 :: t21 :: t22 :: t23 :: t24 :: t25 :: t26 :: t27 :: t28 :: t29 :: t30 :: t31 :: t32 :: t33 :: []) = (t0 :: t1 :: t2 :: t3 :: t4 :: t5 :: v 9 :: v 11 :: t8 :: t9 :: t10 :: t11 :: t12 :: t13 :: t14 :: t15 :: t16 :: t17 :: v 6 :: v 0 :: v 1 :: v 2 :: v 3 :: v 4 :: v 5 :: v 7 :: v 8 :: t27 :: t28 :: t29 :: t30 :: t31 :: t32 :: t33 :: []):=by kernel_rfl
structure R6 (w5:World) (b:MP) (F:List Nat) (γ:Gh) (l5 l9 l10:Bool) (w':World):Prop where
 chg:Chg w5 w' F
 kr:∃ F',Sub F' F w5∧KR w' b (bif l5 then stFed b else stGets) F'∧(∀ a,l9 = true→γ 9 = .pointer (some ⟨a,0,none⟩)→a∉F')∧(l5 = true→∃ u,γ 5 = .tuple #[.agg #[.int .i64 502,.int .i64 505,.int .i64 508,.int .i64 511,.int .i64 514,.int .i64 520,.int .i64 517],u]∧Sl w' u (ints outsFirm)∧∀ A n c,u = .slice (some A) n c→A.block∉F')
 nw:l9 = true→∃ a,γ 9 = .pointer (some ⟨a,0,none⟩)∧w5.heap.size≤a∧Blk w' a 94 (bif l10 then isC else [.int .i64 0,.int .i64 0,.int .i64 0,.int .i64 0,.int .i64 0,.int .i64 0,.int .i64 0])
theorem R6.quiet {w5 w1 w2:World} {b:MP} {F:List Nat} {γ:Gh} {l5 l9 l10:Bool} (h:R6 w5 b F γ l5 l9 l10 w1) (hc:Chg w1 w2 []):R6 w5 b F γ l5 l9 l10 w2 where
 chg:=h.chg.trans hc (by simp)
 kr:=by
  obtain ⟨F',h1,h2,h3,h4⟩:=h.kr
  exact ⟨F',h1,h2.chg0 hc,h3,fun hl => by
   obtain ⟨u,k1,k2,k3⟩:=h4 hl
   exact ⟨u,k1,k2.keep hc,k3⟩⟩
 nw:=fun hl => by
  obtain ⟨a,h1,h2,h3⟩:=h.nw hl
  exact ⟨a,h1,h2,h3.chg hc (by simp)⟩
theorem R6.run {w5 w1 w2:World} {b:MP} {F F6 F':List Nat} {γ:Gh} {l9:Bool} {u:Value} (h:R6 w5 b F γ false l9 false w1) (hs:Sub F' F w5) (hn:∀ a,l9 = true→γ 9 = .pointer (some ⟨a,0,none⟩)→a∉F') (hc:Chg w1 w2 F') (hs6:Sub F6 F' w1) (hk6:KR w2 b (stFed b) F6) (hu:Sl w2 u (ints outsFirm)) (hf:∀ A n c,u = .slice (some A) n c→A.block∉F6) :
 R6 w5 b F (upd γ 5 (.tuple #[.agg #[.int .i64 502,.int .i64 505,.int .i64 508,.int .i64 511,.int .i64 514,.int .i64 520,.int .i64 517],u])) true l9 false w2 where
 chg:=h.chg.trans hc hs
 kr:=⟨F6,fun k hk => by
  rcases hs6 k hk with e | e
  · exact hs k e
  · exact .inr (Nat.le_trans h.chg.size e),hk6,fun a hl ha hm => by
  rw [upd_ne _ _ (by decide)] at ha
  rcases hs6 a hm with e | e
  · exact hn a hl ha e
  · obtain ⟨a',h1,_,h3⟩:=h.nw hl
    rw [ha] at h1
    injection h1 with h1; injection h1 with h1; injection h1 with h1
    have:=h3.lt
    omega,fun _ => ⟨u,upd_self _ _ _,hu,hf⟩⟩
 nw:=fun hl => by
  obtain ⟨a,h1,h2,h3⟩:=h.nw hl
  exact ⟨a,by rw [upd_ne _ _ (by decide)]; exact h1,h2,h3.chg hc (hn a hl h1)⟩
theorem R6.new {w5 w1:World} {b:MP} {F:List Nat} {γ:Gh} {l5:Bool} (h:R6 w5 b F γ l5 false false w1):R6 w5 b F (upd γ 9 (.pointer (some ⟨w1.heap.size,0,none⟩))) l5 true false (w1.alloc (.cells #[.int .i64 0,.int .i64 0,.int .i64 0,.int .i64 0,.int .i64 0,.int .i64 0,.int .i64 0] 94)) where
 chg:=h.chg.alloc _
 kr:=by
  obtain ⟨F',h1,h2,_,h4⟩:=h.kr
  refine ⟨F',h1,h2.chg0 ((Chg.refl w1 []).alloc _),fun a _ ha hm => ?_,fun hl => ?_⟩
  · rw [upd_self] at ha
    injection ha with ha; injection ha with ha; injection ha with ha
    have:=h2.lt a hm
    omega
  · obtain ⟨u,k1,k2,k3⟩:=h4 hl
    exact ⟨u,by rw [upd_ne _ _ (by decide)]; exact k1,k2.keep ((Chg.refl w1 []).alloc _),k3⟩
 nw:=fun _ => ⟨w1.heap.size,upd_self _ _ _,h.chg.size,Blk.new w1 94 [.int .i64 0,.int .i64 0,.int .i64 0,.int .i64 0,.int .i64 0,.int .i64 0,.int .i64 0]⟩
theorem R6.put {w5 w1 w2:World} {b:MP} {F:List Nat} {γ:Gh} {a:Nat} (h:R6 w5 b F γ true true false w1) (hQ:8≤w5.heap.size) (ha:γ 9 = .pointer (some ⟨a,0,none⟩)) (hc:Chg w1 w2 [a]) (hb:Blk w2 a 94 isC):R6 w5 b F γ true true true w2:=by
 obtain ⟨a',h1,h2,h3⟩:=h.nw rfl
 rw [ha] at h1
 injection h1 with h1; injection h1 with h1; injection h1 with h1
 subst h1
 obtain ⟨F',k1,k2,k3,k4⟩:=h.kr
 have hn:=k3 a rfl ha
 exact ⟨h.chg.trans hc (fun k hk => .inr (by simp at hk; omega)),⟨F',k1,k2.chg hc (fun k hk hm => hn (by simp at hm; exact hm ▸ hk)) (fun k hk => by simp at hk; omega),fun x _ hx => k3 x rfl hx,fun _ => by
  obtain ⟨u,h4,h5,h6⟩:=k4 rfl
  exact ⟨u,h4,h5.chg0 hc fun h0 => sl_far h3 h5 (fun u hu hm => by
   have e:u = .int .i64 0:=by
    have hu':u∈[Value.int .i64 0,.int .i64 0,.int .i64 0,.int .i64 0,.int .i64 0,.int .i64 0,.int .i64 0]:=hu
    simpa using hu'
   subst e
   obtain ⟨n,hn,he⟩:=List.mem_map.1 hm
   have hz:=List.all_eq_true.1 (show (outsFirm.all fun n => Nat.blt 0 n) = true by decide +kernel) n hn
   rw [blt_iff] at hz
   injection he with _ he
   omega) h0,h6⟩⟩,fun _ => ⟨a,ha,h2,hb⟩⟩
set_option maxRecDepth 100000 in
set_option maxHeartbeats 4000000 in
theorem firm_image (w:World) (hg:Glo w) :
 Calls Tryz.prog 19 #[] w fun e w' => ∃ v,e = .returned v∧Chg w w' []∧ImgAt w' v ((wordsOf codeFirm 2921).map fun w:Nat => (w:Int)) dataFirm secFirm [0,1,2,3,4,5,6,7,8,9,10,11,12,13,14,15,16,17,18,19] outsFirm:=by
 have hmix:=hide (show Tryz.prog.follows .mixedOrders = true by kernel_rfl)
 have hn:=mnew_calls (w.alloc (.cells #[.slice none 0 0,.slice none 0 0,.slice none 0 0,.slice none 0 0,.slice none 0 0] 42)) (hg.chg ((Chg.refl w []).alloc _) (by simp))
 have hq:=Blk.new w 42 nil5
 have HW:=hide hg
 have hz0:(w.alloc (.cells #[.slice none 0 0,.slice none 0 0,.slice none 0 0,.slice none 0 0,.slice none 0 0] 42)).heap.size = w.heap.size + 1:=size_alloc _ _
 clear hg
 go_enter Tryz.func19,Tryz.ntmps19
 go_wp2_with fail
 go_at_call 41
 refine hn.mono ?_
 rintro e w1 ⟨b,F1,rfl,hc1,hk1,hf1⟩
 have hca:Chg w1 (w1.alloc (.cells #[.pointer (some ⟨b.a,0,none⟩)] 88)) []:=(Chg.refl w1 []).alloc _
 have hgv:=given_calls2 (hk1.chg0 hca) 20 (by decide) (by decide)
 have hQ2:=(hq.chg hc1 (by simp)).chg hca (by simp)
 have HKB:=hide (Blk.new w1 88 [.pointer (some ⟨b.a,0,none⟩)])
 have HF1:=hide (show ∀ k∈F1,w.heap.size + 1≤k∧k < w1.heap.size from fun k hk => ⟨hz0 ▸ hf1 k hk,hk1.lt k hk⟩)
 have hcc:=(((Chg.refl w []).alloc (.cells #[.slice none 0 0,.slice none 0 0,.slice none 0 0,.slice none 0 0,.slice none 0 0] 42)).trans hc1 (by simp)).trans hca (by simp)
 have HC2:=hide (show Chg w (w1.alloc (.cells #[.pointer (some ⟨b.a,0,none⟩)] 88)) [] from hcc)
 have HQ2:=hide hQ2
 have hzk:(w1.alloc (.cells #[.pointer (some ⟨b.a,0,none⟩)] 88)).heap.size = w1.heap.size + 1:=size_alloc _ _
 have hql:w.heap.size < w1.heap.size:=(hq.chg hc1 (by simp)).lt
 clear hn hq hc1 hk1 hf1 hca hQ2 hcc hz0
 go_wp2_with fail
 go_at_call 42
 refine hgv.mono ?_
 rintro e w3 ⟨g,c,rfl,hc3,F2,hs2,hk2,hg1,hg2,hg3,hgc,hnc⟩
 generalize hKK:w1.heap.size = KK at *
 rw [hzk] at hg1
 have HF2:=hide (show ∀ k∈F2,w.heap.size < k∧k≠KK∧k < w3.heap.size from fun k hk => by
  refine ⟨?_,?_,hk2.lt k hk⟩
  · rcases hs2 k hk with h | h
    · have:=HF1.out k h; omega
    · omega
  · rcases hs2 k hk with h | h
    · have:=HF1.out k h; omega
    · omega)
 have hFK:KK∉F1:=fun hm => by have:=HF1.out _ hm; omega
 have hFW:w.heap.size∉F1:=fun hm => by have:=HF1.out _ hm; omega
 have HKB3:=hide (HKB.out.chg hc3 hFK)
 have HQ3:=hide (HQ2.out.chg hc3 hFW)
 have HC3:Hid (Chg w w3 []):=hide (HC2.out.trans hc3 (fun k hk => .inr (by have:=HF1.out k hk; omega)))
 have HGS3:=hide (show Sl w3 (.slice (some ⟨g,0,none⟩) 20 c) (ints (seqL 20 0)) from ⟨_,_,rfl,by simpa [ints,seqL] using hnc,fun _ => ⟨g,0,rfl,fun j hj => by rw [Nat.zero_add,hgc j _ (List.getElem?_eq_getElem hj)]; exact (List.getElem?_eq_getElem hj).symm⟩⟩)
 have HGF3:=hide hg3
 have HGL3:=hide (show KK < g∧g < w3.heap.size from ⟨by omega,hg2⟩)
 have hkp:=fkeep_calls (Nat.le_trans HW.out.size (by have:=HC3.out.size; exact this)) hk2
 rw [show keepC 7 = [.int .i64 20,.int .i64 21,.int .i64 22,.int .i64 23,.int .i64 24,.int .i64 25,.int .i64 26] from rfl] at hkp
 have y0:=HKB3.out.cell' (i:=0) rfl
 clear hgv hc3 hs2 hk2 hg1 hg2 hg3 hgc hnc hFK hFW HF1 HKB HQ2 HC2 hzk
 go_wp2_with fail
 go_at_call 43
 refine hkp.mono ?_
 rintro e w4 ⟨rfl,hc4,F4,hs4,hk4⟩
 have hp4:=(Blk.new w4 94 [.int .i64 20,.int .i64 21,.int .i64 22,.int .i64 23,.int .i64 24,.int .i64 25,.int .i64 26]).alloc (.cells #[.int .i64 0,.int .i64 0,.int .i64 0,.int .i64 0,.int .i64 0,.int .i64 0,.int .i64 0] 94)
 have hp5:=Blk.new (w4.alloc (.cells #[.int .i64 20,.int .i64 21,.int .i64 22,.int .i64 23,.int .i64 24,.int .i64 25,.int .i64 26] 94)) 94 [.int .i64 0,.int .i64 0,.int .i64 0,.int .i64 0,.int .i64 0,.int .i64 0,.int .i64 0]
 have hz4:(w4.alloc (.cells #[.int .i64 20,.int .i64 21,.int .i64 22,.int .i64 23,.int .i64 24,.int .i64 25,.int .i64 26] 94)).heap.size = w4.heap.size + 1:=size_alloc _ _
 rw [hz4] at hp5
 have hcV:Chg w4 ((w4.alloc (.cells #[.int .i64 20,.int .i64 21,.int .i64 22,.int .i64 23,.int .i64 24,.int .i64 25,.int .i64 26] 94)).alloc (.cells #[.int .i64 0,.int .i64 0,.int .i64 0,.int .i64 0,.int .i64 0,.int .i64 0,.int .i64 0] 94)) []:=((Chg.refl w4 []).alloc _).alloc _
 have hkV:=hk4.chg0 hcV
 have hzV:((w4.alloc (.cells #[.int .i64 20,.int .i64 21,.int .i64 22,.int .i64 23,.int .i64 24,.int .i64 25,.int .i64 26] 94)).alloc (.cells #[.int .i64 0,.int .i64 0,.int .i64 0,.int .i64 0,.int .i64 0,.int .i64 0,.int .i64 0] 94)).heap.size = w4.heap.size + 2:=by rw [size_alloc,hz4]
 have HF4:=hide (show ∀ k∈F4,w.heap.size < k∧k≠KK∧k≠g∧k < w4.heap.size from fun k hk => by
  have h0:=hk4.lt k hk
  rcases hs4 k hk with h | h
  · have:=HF2.out k h
    exact ⟨by omega,by omega,fun e => HGF3.out (e ▸ h),h0⟩
  · have:=HGL3.out
    have:=HKB3.out.lt
    have:=HQ3.out.lt
    exact ⟨by omega,by omega,by omega,h0⟩)
 have hKF2:KK∉F2:=fun hm => by have:=HF2.out _ hm; omega
 have hWF2:w.heap.size∉F2:=fun hm => by have:=HF2.out _ hm; omega
 have HKBV:=hide ((HKB3.out.chg hc4 hKF2).chg hcV (by simp))
 have HQV:=hide ((HQ3.out.chg hc4 hWF2).chg hcV (by simp))
 have HGSV:=hide ((HGS3.out.chg hc4 (fun A n c h => by injection h with h1 h2 h3; injection h1 with h1; subst h1; exact HGF3.out)).keep hcV)
 have hcwV:=(HC3.out.trans hc4 (fun k hk => .inr (by have:=HF2.out k hk; omega))).trans hcV (by simp)
 have HCV:Hid (Chg w ((w4.alloc (.cells #[.int .i64 20,.int .i64 21,.int .i64 22,.int .i64 23,.int .i64 24,.int .i64 25,.int .i64 26] 94)).alloc (.cells #[.int .i64 0,.int .i64 0,.int .i64 0,.int .i64 0,.int .i64 0,.int .i64 0,.int .i64 0] 94)) []):=hide hcwV
 have HGLV:=hide (show KK < w4.heap.size∧g < w4.heap.size∧w.heap.size < w4.heap.size from by have:=hc4.size; have:=HGL3.out; omega)
 clear hkp hc4 hs4 hk4 hz4 hcV hKF2 hWF2 hcwV y0 HKB3 HQ3 HGS3 HC3 HF2 HGF3 HGL3
 generalize hP4:w4.heap.size = P4 at *
 generalize hV4:(w4.alloc (.cells #[.int .i64 20,.int .i64 21,.int .i64 22,.int .i64 23,.int .i64 24,.int .i64 25,.int .i64 26] 94)).alloc (.cells #[.int .i64 0,.int .i64 0,.int .i64 0,.int .i64 0,.int .i64 0,.int .i64 0,.int .i64 0] 94) = V4 at *
 have HP4:=hide hp4
 have HZV:=hide hzV
 have hdo:∀ j,j < 7→∀ v,(Chg V4 v ((P4 + 1) :: F4)∧(∃ F',Sub F' F4 V4∧KR v b (gS j) F')∧Blk v (P4 + 1) 94 (getC j))→Calls Tryz.prog 45 #[.pointer (some ⟨P4 + 1,j,none⟩),.pointer (some ⟨P4,j,none⟩),.pointer (some ⟨KK,0,none⟩)] v fun e w' => (∃ x,e = .returned x)∧Chg V4 w' ((P4 + 1) :: F4)∧(∃ F',Sub F' F4 V4∧KR w' b (gS (j + 1)) F')∧Blk w' (P4 + 1) 94 (getC (j + 1)):=fun j hj v ⟨h1,⟨F',h2,h3⟩,h4⟩ => by
  have hfar:∀ k,k < P4 + 2→k∉F4→k∉F':=fun k hk hn hm => by
   rcases h2 k hm with h | h
   · exact hn h
   · have:=HZV.out; omega
  have n4:P4∉F4:=fun hm => by have:=HF4.out _ hm; omega
  have n5:P4 + 1∉F4:=fun hm => by have:=HF4.out _ hm; omega
  have nk:KK∉F4:=fun hm => by have:=HF4.out _ hm; omega
  have nkl:=HGLV.out
  have hb4:Blk v P4 94 (keepC 7):=HP4.out.chg h1 (by simp; exact n4)
  have hbk:=HKBV.out.chg h1 (by simp; exact ⟨by omega,nk⟩)
  have:=image1_calls h3 (P4 + 1) P4 KK j (20 + j) (getC j) (keepC 7) h4 hb4 hbk (hfar _ (by omega) n5) (hfar _ (by omega) n4) (hfar _ (by omega) nk) (by omega) (by omega) (by have:=HW.out.size; omega) hj (getC_len j) (keepC_at j hj) (by omega) (gS_can j hj)
  rw [gS_used j hj,getC_set j hj] at this
  refine this.mono ?_
  rintro e w' ⟨hx,hc,⟨F'',hs,hk⟩,hb⟩
  refine ⟨hx,h1.trans hc (fun k hk => ?_),⟨F'',fun k hk => ?_,hk⟩,hb⟩
  · rcases List.mem_cons.1 hk with rfl | hk
    · exact .inl (by simp)
    · rcases h2 k hk with h | h
      · exact .inl (by simp [h])
      · exact .inr h
  · rcases hs k hk with h | h
    · exact h2 k h
    · exact .inr (Nat.le_trans h1.size h)
 have he:=each1_calls (w:=V4) (P4 + 1) P4 KK (fun j v => Chg V4 v ((P4 + 1) :: F4)∧(∃ F',Sub F' F4 V4∧KR v b (gS j) F')∧Blk v (P4 + 1) 94 (getC j)) (fun j v v' ⟨h1,⟨F',h2,h3⟩,h4⟩ hc => ⟨h1.trans hc (by simp),⟨F',h2,h3.chg0 hc⟩,h4.chg hc (by simp)⟩) hdo ⟨Chg.refl _ _,⟨F4,Sub.refl _ _,hkV⟩,hp5⟩
 have HE:=hide he
 clear hdo he hkV hp4 hp5 hzV
 go_wp2_with fail
 go_at_call 44
 try rw [hV4]
 clear hV4
 refine HE.out.mono ?_
 rintro e W5 ⟨⟨x5,rfl⟩,hc5,⟨F5,hs5,hk5⟩,hb5⟩
 clear HE
 have hk5:KR W5 b stGets F5:=hk5
 have HF5:=hide (show ∀ k∈F5,w.heap.size < k∧k≠KK∧k≠g∧k≠P4∧k≠P4 + 1∧k < W5.heap.size from fun k hk => by
  have h0:=hk5.lt k hk
  have:=HGLV.out
  rcases hs5 k hk with h | h
  · have:=HF4.out k h
    omega
  · have:=HZV.out
    omega)
 have n4:P4∉(P4 + 1) :: F4:=by simp; exact fun hm => by have:=HF4.out _ hm; omega
 have nk:KK∉(P4 + 1) :: F4:=by simp; exact ⟨by have:=HGLV.out; omega,fun hm => by have:=HF4.out _ hm; omega⟩
 have nw:w.heap.size∉(P4 + 1) :: F4:=by simp; exact ⟨by have:=HGLV.out; omega,fun hm => by have:=HF4.out _ hm; omega⟩
 have ng:g∉(P4 + 1) :: F4:=by simp; exact ⟨by have:=HGLV.out; omega,fun hm => by have:=HF4.out _ hm; omega⟩
 have HP4:=hide (HP4.out.chg hc5 n4)
 have HKB:=hide (HKBV.out.chg hc5 nk)
 have HQB:=hide (HQV.out.chg hc5 nw)
 have HGS:=hide (HGSV.out.chg hc5 (fun A n c h => by injection h with h1 h2 h3; injection h1 with h1; subst h1; exact ng))
 have HC5:Hid (Chg w W5 []):=hide (HCV.out.trans hc5 (fun k hk => .inr (by
  have:=HGLV.out
  rcases List.mem_cons.1 hk with rfl | hk
  · omega
  · have:=HF4.out k hk; omega)))
 have HKC:=hide (HKB.out.cell' (i:=0) rfl)
 have HKF:=hide (show KK∉F5 from fun hm => by have:=HF5.out _ hm; omega)
 have HP5_0:=hide (hb5.cell' (i:=0) rfl)
 have HP5_1:=hide (hb5.cell' (i:=1) rfl)
 have HP5_2:=hide (hb5.cell' (i:=2) rfl)
 have HP5_3:=hide (hb5.cell' (i:=3) rfl)
 have HP5_4:=hide (hb5.cell' (i:=4) rfl)
 have HP5_5:=hide (hb5.cell' (i:=5) rfl)
 have HP5_6:=hide (hb5.cell' (i:=6) rfl)
 have HP5F:=hide (show P4 + 1∉F5 from fun hm => by have:=HF5.out _ hm; omega)
 have HGF:=hide (show g∉F5 from fun hm => by have:=HF5.out _ hm; omega)
 have HGL:=hide (show g < W5.heap.size from by have:=HGLV.out; have:=hc5.size; have:=HZV.out; omega)
 have HQ5:=hide (show 8≤W5.heap.size from Nat.le_trans HW.out.size HC5.out.size)
 have HK5:=hide hk5
 clear hc5 hs5 hk5 hb5 n4 nk nw ng HKBV HQV HGSV HCV HF4
 generalize hP5:P4 + 1 = P5 at *
 go_upto_region 6 with (fail)
 refine wp_regionJ hmix.out _ _ (fun γ => vF6 b g c γ) (fun (γ:Gh) L w' => R6 W5 b F5 γ (L 5) (L 9) (L 10) w') (fun _ => undef) (by kernel_rfl) [] (by kernel_rfl) (fun p hp γ => by simp at hp) (by kernel_rfl) ?step ?start ?fin ?ext
 case start => exact ⟨(Chg.refl W5 F5).drew,⟨F5,Sub.refl _ _,HK5.out.chg0 ((Chg.refl W5 []).drew),(fun a h => by cases h),(fun h => by cases h)⟩,(fun h => by cases h)⟩
 case ext =>
  intro γ L L' w' h hw
  have hw':R6 W5 b F5 γ (L 5) (L 9) (L 10) w':=hw
  rw [h 5 (by decide),h 9 (by decide),h 10 (by decide)] at hw'
  exact hw'
 case step =>
  intro i o ho L av w1 γ hdn htm hW hL hpre K' Q' hK
  match i,ho with
  | 0,ho =>
   injection ho with ho; subst ho
   have b1:av.tmps.getD 1 undef = .pointer (some ⟨KK,0,none⟩):=slB htm 1 (by kernel_rfl)
   clear htm
   have y:=hW.chg.cell HKC.out HKF.out
   refine val_now ?_ (hK γ w1 (fun _ _ => rfl) hW); go_simp; rfl
  | 1,ho =>
   injection ho with ho; subst ho
   have s0:=slA htm 19 0 (by kernel_rfl) (hpre ⟨0,.data⟩ (by simp) rfl)
   simp only [vF6] at s0
   clear htm
   refine call_now (f:=48) (args:=#[.pointer (some ⟨b.a,0,none⟩)]) ?_ (work_calls b.a w1) ?_
   · go_simp
   · rintro e w2 ⟨rfl,hc⟩
     exact ⟨_,rfl,hK γ w2 (fun _ _ => rfl) (R6.quiet hW hc)⟩
  | 2,ho =>
   injection ho with ho; subst ho
   have b2:av.tmps.getD 2 undef = .int .i64 0:=slB htm 2 (by kernel_rfl)
   clear htm
   refine val_now ?_ (hK γ w1 (fun _ _ => rfl) hW); go_simp; rfl
  | 3,ho =>
   injection ho with ho; subst ho
   have b3:av.tmps.getD 3 undef = .slice (some ⟨g,0,none⟩) 20 c:=slB htm 3 (by kernel_rfl)
   clear htm
   refine val_now ?_ (hK γ w1 (fun _ _ => rfl) hW); go_simp; rfl
  | 4,ho =>
   injection ho with ho; subst ho
   have b5:av.tmps.getD 5 undef = .pointer (some ⟨P5,0,none⟩):=slB htm 5 (by kernel_rfl)
   clear htm
   have y0:=hW.chg.cell HP5_0.out HP5F.out
   have y1:=hW.chg.cell HP5_1.out HP5F.out
   have y2:=hW.chg.cell HP5_2.out HP5F.out
   have y3:=hW.chg.cell HP5_3.out HP5F.out
   have y4:=hW.chg.cell HP5_4.out HP5F.out
   have y5:=hW.chg.cell HP5_5.out HP5F.out
   have y6:=hW.chg.cell HP5_6.out HP5F.out
   refine val_now ?_ (hK γ w1 (fun _ _ => rfl) hW); go_simp; rfl
  | 5,ho =>
   injection ho with ho; subst ho
   have s1:=slA htm 20 1 (by kernel_rfl) (hpre ⟨1,.data⟩ (by simp) rfl)
   have s2:=slA htm 21 2 (by kernel_rfl) (hpre ⟨2,.data⟩ (by simp) rfl)
   have s3:=slA htm 22 3 (by kernel_rfl) (hpre ⟨3,.data⟩ (by simp) rfl)
   have s4:=slA htm 23 4 (by kernel_rfl) (hpre ⟨4,.data⟩ (by simp) rfl)
   simp only [vF6] at s1 s2 s3 s4
   clear htm
   have n10:L 10 = false:=by
    cases h:L 10 with
    | false => rfl
    | true => have hx:L 5 = true:=hdn 10 _ rfl h ⟨5,.chain⟩ (by simp) rfl; rw [hL] at hx; cases hx
   have hW5:R6 W5 b F5 γ false (L 9) false w1:=by
    have h:R6 W5 b F5 γ (L 5) (L 9) (L 10) w1:=hW
    rw [hL,n10] at h
    exact h
   obtain ⟨F',hs',hk',hn',_⟩:=hW5.kr
   have hk':KR w1 b stGets F':=hk'
   have hgF:g∉F':=fun hm => by
    rcases hs' g hm with h | h
    · exact HGF.out h
    · have:=HGL.out; omega
   have hslw:Sl w1 (.slice (some ⟨g,0,none⟩) 20 c) (ints (seqL 20 0)):=HGS.out.chg hW.chg (fun A n c h => by injection h with h1 h2 h3; injection h1 with h1; subst h1; exact HGF.out)
   refine call_now (f:=47) (args:=#[.agg #[.iface 88 (.pointer (some ⟨b.a,0,none⟩))],.int .i64 0,.slice (some ⟨g,0,none⟩) 20 c,.agg #[.int .i64 27,.int .i64 28,.int .i64 29,.int .i64 30,.int .i64 31,.int .i64 32,.int .i64 33]]) ?_ (fed_calls w1 hk' [.slice (some ⟨g,0,none⟩) 20 c] (fun i cs hi => by
    match i,hi with
    | 0,hi => injection hi with hi; subst hi; exact ⟨_,rfl,hslw⟩
    | _ + 1,hi => cases hi) (fun v hv k hk => by simp at hv; subst hv; injection hk with hk; subst hk; exact hgF) (fun v hv => by simp at hv; subst hv; rfl) (vals:=[.agg #[.iface 88 (.pointer (some ⟨b.a,0,none⟩))],.int .i64 0,.slice (some ⟨g,0,none⟩) 20 c,.agg #[.int .i64 27,.int .i64 28,.int .i64 29,.int .i64 30,.int .i64 31,.int .i64 32,.int .i64 33]]) rfl) ?_
   · go_simp
   · rintro e w2 ⟨us,F6,rfl,hc,hs6,hk6,hau⟩
     match us,hau with
     | [x,y],hau =>
      obtain ⟨rfl,⟨hy,hyf⟩,_⟩:=hau
      exact ⟨_,rfl,hK (upd γ 5 (.tuple #[.agg #[.int .i64 502,.int .i64 505,.int .i64 508,.int .i64 511,.int .i64 514,.int .i64 520,.int .i64 517],y])) w2 (agree_of hdn [5,6,8,11] (by kernel_rfl) hL (agF6_5 b g c γ _)) (show R6 W5 b F5 _ true (L 9) (L 10) w2 from by rw [n10]; exact R6.run hW5 hs' hn' hc hs6 hk6 hy hyf)⟩
  | 6,ho =>
   injection ho with ho; subst ho
   have s5:=slA htm 24 5 (by kernel_rfl) (hpre ⟨5,.data⟩ (by simp) rfl)
   simp only [vF6] at s5
   clear htm
   refine val_now ?_ (hK γ w1 (fun _ _ => rfl) hW); go_simp; rfl
  | 7,ho =>
   injection ho with ho; subst ho
   have s6:=slA htm 18 6 (by kernel_rfl) (hpre ⟨6,.data⟩ (by simp) rfl)
   simp only [vF6] at s6
   clear htm
   have l5:L 5 = true:=hdn 6 _ rfl (hpre ⟨6,.data⟩ (by simp) rfl) ⟨5,.data⟩ (by simp) rfl
   have hW5:R6 W5 b F5 γ true (L 9) (L 10) w1:=by
    have h:R6 W5 b F5 γ (L 5) (L 9) (L 10) w1:=hW
    rw [l5] at h
    exact h
   obtain ⟨_,_,_,_,hout⟩:=hW5.kr
   obtain ⟨u,hu,_⟩:=hout rfl
   rw [hu] at s6
   refine val_now ?_ (hK γ w1 (fun _ _ => rfl) hW); go_simp; rfl
  | 8,ho =>
   injection ho with ho; subst ho
   have s6:=slA htm 18 6 (by kernel_rfl) (hpre ⟨6,.data⟩ (by simp) rfl)
   simp only [vF6] at s6
   clear htm
   have l5:L 5 = true:=hdn 6 _ rfl (hpre ⟨6,.data⟩ (by simp) rfl) ⟨5,.data⟩ (by simp) rfl
   have hW5:R6 W5 b F5 γ true (L 9) (L 10) w1:=by
    have h:R6 W5 b F5 γ (L 5) (L 9) (L 10) w1:=hW
    rw [l5] at h
    exact h
   obtain ⟨_,_,_,_,hout⟩:=hW5.kr
   obtain ⟨u,hu,_⟩:=hout rfl
   rw [hu] at s6
   refine val_now (v:=exT (γ 5) 1) ?_ (hK γ w1 (fun _ _ => rfl) hW); rw [hu]; go_simp; first | done | rfl
  | 9,ho =>
   injection ho with ho; subst ho
   clear htm
   have n10:L 10 = false:=by
    cases h:L 10 with
    | false => rfl
    | true => have hx:L 9 = true:=hdn 10 _ rfl h ⟨9,.data⟩ (by simp) rfl; rw [hL] at hx; cases hx
   have hW9:R6 W5 b F5 γ (L 5) false false w1:=by
    have h:R6 W5 b F5 γ (L 5) (L 9) (L 10) w1:=hW
    rw [hL,n10] at h
    exact h
   refine val_now (v:=.pointer (some ⟨w1.heap.size,0,none⟩)) (w':=w1.alloc (.cells #[.int .i64 0,.int .i64 0,.int .i64 0,.int .i64 0,.int .i64 0,.int .i64 0,.int .i64 0] 94)) ?_ (hK (upd γ 9 (.pointer (some ⟨w1.heap.size,0,none⟩))) _ (agree_of hdn [9] (by kernel_rfl) hL (agF6_9 b g c γ _)) (show R6 W5 b F5 _ (L 5) true (L 10) _ from by rw [n10]; exact R6.new hW9))
   go_simp
  | 10,ho =>
   injection ho with ho; subst ho
   have l9:=hpre ⟨9,.data⟩ (by simp) rfl
   have s9:=slA htm 6 9 (by kernel_rfl) l9
   have s7:=slA htm 25 7 (by kernel_rfl) (hpre ⟨7,.data⟩ (by simp) rfl)
   simp only [vF6] at s9 s7
   clear htm
   have l5:L 5 = true:=hpre ⟨5,.chain⟩ (by simp) rfl
   have l9:L 9 = true:=hpre ⟨9,.data⟩ (by simp) rfl
   have hW10:R6 W5 b F5 γ true true false w1:=by
    have h:R6 W5 b F5 γ (L 5) (L 9) (L 10) w1:=hW
    rw [l5,l9,hL] at h
    exact h
   obtain ⟨a,ha,haz,hb⟩:=hW10.nw rfl
   have hb:Blk w1 a 94 [.int .i64 0,.int .i64 0,.int .i64 0,.int .i64 0,.int .i64 0,.int .i64 0,.int .i64 0]:=hb
   have f0:=hb.frozen 0
   have z0:=hb.cell' (i:=0) rfl
   have f1:=hb.frozen 1
   have z1:=hb.cell' (i:=1) rfl
   have f2:=hb.frozen 2
   have z2:=hb.cell' (i:=2) rfl
   have f3:=hb.frozen 3
   have z3:=hb.cell' (i:=3) rfl
   have f4:=hb.frozen 4
   have z4:=hb.cell' (i:=4) rfl
   have f5:=hb.frozen 5
   have z5:=hb.cell' (i:=5) rfl
   have f6:=hb.frozen 6
   have z6:=hb.cell' (i:=6) rfl
   have hbl:=hb.lt
   rw [ha] at s9
   refine skip_now (w':=(((((((w1.setCell ⟨a,0,none⟩ (.int .i64 502)).setCell ⟨a,1,none⟩ (.int .i64 505)).setCell ⟨a,2,none⟩ (.int .i64 508)).setCell ⟨a,3,none⟩ (.int .i64 511)).setCell ⟨a,4,none⟩ (.int .i64 514)).setCell ⟨a,5,none⟩ (.int .i64 520)).setCell ⟨a,6,none⟩ (.int .i64 517))) ?_ (hK γ _ (fun _ _ => rfl) (show R6 W5 b F5 γ (L 5) (L 9) true _ from by rw [l5,l9]; exact R6.put hW10 HQ5.out ha ((((((((Chg.refl w1 [a]).setCell ⟨a,0,none⟩ (.int .i64 502) (.inl (List.mem_singleton.2 rfl))).setCell ⟨a,1,none⟩ (.int .i64 505) (.inl (List.mem_singleton.2 rfl))).setCell ⟨a,2,none⟩ (.int .i64 508) (.inl (List.mem_singleton.2 rfl))).setCell ⟨a,3,none⟩ (.int .i64 511) (.inl (List.mem_singleton.2 rfl))).setCell ⟨a,4,none⟩ (.int .i64 514) (.inl (List.mem_singleton.2 rfl))).setCell ⟨a,5,none⟩ (.int .i64 520) (.inl (List.mem_singleton.2 rfl))).setCell ⟨a,6,none⟩ (.int .i64 517) (.inl (List.mem_singleton.2 rfl))) (((((((hb.set_ 0 (.int .i64 502)).set_ 1 (.int .i64 505)).set_ 2 (.int .i64 508)).set_ 3 (.int .i64 511)).set_ 4 (.int .i64 514)).set_ 5 (.int .i64 520)).set_ 6 (.int .i64 517))))
   go_simp
  | 11,ho =>
   injection ho with ho; subst ho
   have s8:=slA htm 26 8 (by kernel_rfl) (hpre ⟨8,.data⟩ (by simp) rfl)
   simp only [vF6] at s8
   clear htm
   refine val_now (v:=exT (γ 5) 1) ?_ (hK γ w1 (fun _ _ => rfl) hW); go_simp; first | done | rfl
  | _ + 12,ho => cases ho
 case fin =>
 intro γ w6 hW
 have hW:R6 W5 b F5 γ true true true w6:=hW
 obtain ⟨F6,hs6,hk6,hn6,hu6⟩:=hW.kr
 obtain ⟨u,hu,hsl,hsf⟩:=hu6 rfl
 obtain ⟨A6,ha,hA6,hb6⟩:=hW.nw rfl
 have hb6:Blk w6 A6 94 isC:=hb6
 have hk6:KR w6 b (stFed b) F6:=hk6
 have hA6F:=hn6 A6 rfl ha
 have hc6:=hW.chg
 have HF6:=hide (show ∀ k∈F6,w.heap.size < k∧k≠KK∧k≠P4∧k≠A6∧k < w6.heap.size from fun k hk => by
  have h0:=hk6.lt k hk
  have h9:k≠A6:=fun e => hA6F (e ▸ hk)
  rcases hs6 k hk with h | h
  · have:=HF5.out k h
    omega
  · have:=HKB.out.lt
    have:=HP4.out.lt
    have:=HQB.out.lt
    omega)
 have n4:P4∉F5:=fun hm => by have:=HF5.out _ hm; omega
 have nk:KK∉F5:=fun hm => by have:=HF5.out _ hm; omega
 have nw:w.heap.size∉F5:=fun hm => by have:=HF5.out _ hm; omega
 have HP46:=hide (HP4.out.chg hc6 n4)
 have HKB6:=hide (HKB.out.chg hc6 nk)
 have HQB6:=hide (HQB.out.chg hc6 nw)
 have HB6:=hide hb6
 have HSL6:=hide hsl
 have HSF6:=hide hsf
 have HC6:Hid (Chg w w6 []):=hide (HC5.out.trans hc6 (fun k hk => .inr (by have:=HF5.out k hk; omega)))
 have hdo:∀ j,j < 7→∀ v,(Chg w6 v F6∧∃ F',Sub F' F6 w6∧KR v b (sS b j) F')→Calls Tryz.prog 49 #[.pointer (some ⟨P4,j,none⟩),.pointer (some ⟨A6,j,none⟩),.pointer (some ⟨KK,0,none⟩)] v fun e w' => (∃ x,e = .returned x)∧Chg w6 w' F6∧∃ F',Sub F' F6 w6∧KR w' b (sS b (j + 1)) F':=fun j hj v ⟨h1,F',h2,h3⟩ => by
  have n4:P4∉F6:=fun hm => by have:=HF6.out _ hm; omega
  have na:A6∉F6:=fun hm => by have:=HF6.out _ hm; omega
  have nk:KK∉F6:=fun hm => by have:=HF6.out _ hm; omega
  have hb4:Blk v P4 94 (keepC 7):=HP46.out.chg h1 n4
  refine (image2_calls h3 P4 A6 KK j (20 + j) (isFirm.getD j 0) (keepC 7) isC hb4 (HB6.out.chg h1 na) (HKB6.out.chg h1 nk) (keepC_at j hj) (isC_at j hj) (by omega) (isFirm_le j hj) (sS_nc b j hj)).mono ?_
  rintro e w' ⟨hx,hc,F'',hs,hk⟩
  refine ⟨hx,h1.trans hc h2,F'',fun k hk => ?_,hk⟩
  rcases hs k hk with h | h
  · exact h2 k h
  · exact .inr (Nat.le_trans h1.size h)
 have he:=each2_calls (w:=w6) P4 A6 KK (fun j v => Chg w6 v F6∧∃ F',Sub F' F6 w6∧KR v b (sS b j) F') (fun j v v' ⟨h1,F',h2,h3⟩ hc => ⟨h1.trans hc (by simp),F',h2,h3.chg0 hc⟩) hdo ⟨Chg.refl _ _,F6,Sub.refl _ _,hk6⟩
 have HE:=hide he
 clear hdo he hk6 hs6 hn6 hu6 hA6 hb6 hsl hsf hA6F hc6 n4 nk nw hW
 rw [finG_puts,putsR_list,putsL_dst]
 simp only [List.map_cons,List.map_nil]
 rw [putsF6]
 simp only [vF6]
 rw [ha,hu]
 simp only [exT_eq6]
 clear ha hu
 go_wp2_with fail
 go_at_call 44
 refine HE.out.mono ?_
 rintro e w7 ⟨⟨x7,rfl⟩,hc7,F7,hs7,hk7⟩
 clear HE
 have hk7:KR w7 b (stSets b) F7:=hk7
 have HF7:=hide (show ∀ k∈F7,w.heap.size < k∧k≠KK∧k < w7.heap.size from fun k hk => by
  have h0:=hk7.lt k hk
  rcases hs7 k hk with h | h
  · have:=HF6.out k h
    omega
  · have:=HKB6.out.lt
    have:=HQB6.out.lt
    omega)
 have nk:KK∉F6:=fun hm => by have:=HF6.out _ hm; omega
 have nw:w.heap.size∉F6:=fun hm => by have:=HF6.out _ hm; omega
 have HKB7:=hide (HKB6.out.chg hc7 nk)
 have HQB7:=hide (HQB6.out.chg hc7 nw)
 have hsl7:=HSL6.out.chg hc7 HSF6.out
 have HC7:Hid (Chg w w7 []):=hide (HC6.out.trans hc7 (fun k hk => .inr (by have:=HF6.out k hk; omega)))
 obtain ⟨A,cu,rfl,_⟩:=id hsl7
 have hcu:=fun (j:Nat) (u:Value) (hj:(ints outsFirm)[j]? = some u) => hsl7.at_ hj
 obtain ⟨bu,ou,rfl,_⟩:=hcu 0 (.int .i64 ((outsFirm.getD 0 0:Nat):Int)) rfl
 have han:=answer_calls hk7 outsFirm ⟨bu,ou,none⟩ cu (by decide) (fun j v hj => by
  rw [add_plain]
  obtain ⟨b',o',h1,h2,_⟩:=hcu j v hj
  injection h1 with h1; injection h1 with h1 h3
  subst h1 h3
  exact h2) (Nat.le_of_ble_eq_true (roFirm b))
 have HAN:=hide han
 have y7:=HKB7.out.cell' (i:=0) rfl
 rw [show (ints outsFirm).length = outsFirm.length by simp [ints]]
 clear hk7 hs7 hc7 nk nw hsl7 hcu han
 go_wp2_with fail
 go_at_call 51
 refine HAN.out.mono ?_
 rintro e w8 ⟨rfl,hc8,F8,hs8,hk8⟩
 clear HAN y7
 have HF8:=hide (show ∀ k∈F8,w.heap.size + 1≤k from fun k hk => by
  rcases hs8 k hk with h | h
  · have:=HF7.out k h
    omega
  · have:=HQB7.out.lt
    omega)
 have nk:KK∉F7:=fun hm => by have:=HF7.out _ hm; omega
 have nw:w.heap.size∉F7:=fun hm => by have:=HF7.out _ hm; omega
 have y8:=(HKB7.out.chg hc8 nk).cell' (i:=0) rfl
 have HC4:=hide (HC7.out.trans hc8 (fun k hk => .inr (by have:=HF7.out k hk; omega)))
 have HQ5:=hide (HQB7.out.chg hc8 nw)
 have HF5:=HF8
 have hk3:KR w8 b (stFirm b) F8:=hk8
 have hfi:=mfinish_calls hk3 (okFirm b) (Nat.le_of_ble_eq_true (ruFirm b)) (finFirm b)
 rw [datFirm,secsFirm,insFirm,outzFirm] at hfi
 clear hc8 hs8 hk8 hk3 nk nw
 go_wp2_with fail
 go_at_call 52
 refine hfi.mono ?_
 rintro e w6 ⟨v,rfl,hc6,him⟩
 obtain ⟨vc,vd,vs,vi,vo,rfl,h1,h2,h3,h4,h5⟩:=id him
 obtain ⟨a1,c1,rfl,_⟩:=id h1
 obtain ⟨a2,c2,rfl,_⟩:=id h2
 obtain ⟨a3,c3,rfl,_⟩:=id h3
 obtain ⟨a4,c4,rfl,_⟩:=id h4
 obtain ⟨a5,c5,rfl,_⟩:=id h5
 have hq6n:w.heap.size∉F8:=fun hm => by have:=HF5.out _ hm; omega
 have hb6:=HQ5.out.chg hc6 hq6n
 clear y8
 have v0:=hb6.cell' (i:=0) rfl
 have v1:=hb6.cell' (i:=1) rfl
 have v2:=hb6.cell' (i:=2) rfl
 have v3:=hb6.cell' (i:=3) rfl
 have v4:=hb6.cell' (i:=4) rfl
 have k0:=hb6.frozen 0
 have k1:=hb6.frozen 1
 have k2:=hb6.frozen 2
 have k3:=hb6.frozen 3
 have k4:=hb6.frozen 4
 have hbl:=hb6.lt
 have HB6:=hide hb6
 have HIM:=hide him
 have HC6:Hid (Chg w w6 []):=hide (HC4.out.trans hc6 (fun k hk => .inr (by have:=HF5.out k hk; omega)))
 clear hfi hc6 him h1 h2 h3 h4 h5 hq6n hb6
 go_wp2
 have hfb:=((((HB6.out.set_ 0 (.slice a1 (u32s ((wordsOf codeFirm 2921).map fun w:Nat => (w:Int))).length c1)).set_ 1 (.slice a2 (i32s dataFirm).length c2)).set_ 2 (.slice a3 (bools secFirm).length c3)).set_ 3 (.slice a4 (ints [0,1,2,3,4,5,6,7,8,9,10,11,12,13,14,15,16,17,18,19]).length c4)).set_ 4 (.slice a5 (ints outsFirm).length c5)
 have hcf:Chg w6 (((((w6.setCell ⟨w.heap.size,0,none⟩ (.slice a1 (u32s ((wordsOf codeFirm 2921).map fun w:Nat => (w:Int))).length c1)).setCell ⟨w.heap.size,1,none⟩ (.slice a2 (i32s dataFirm).length c2)).setCell ⟨w.heap.size,2,none⟩ (.slice a3 (bools secFirm).length c3)).setCell ⟨w.heap.size,3,none⟩ (.slice a4 (ints [0,1,2,3,4,5,6,7,8,9,10,11,12,13,14,15,16,17,18,19]).length c4)).setCell ⟨w.heap.size,4,none⟩ (.slice a5 (ints outsFirm).length c5)) [w.heap.size]:=((((((Chg.refl w6 [w.heap.size]).setCell _ _ (.inl (List.mem_singleton.2 rfl))).setCell _ _ (.inl (List.mem_singleton.2 rfl))).setCell _ _ (.inl (List.mem_singleton.2 rfl))).setCell _ _ (.inl (List.mem_singleton.2 rfl))).setCell _ _ (.inl (List.mem_singleton.2 rfl)))
 refine bodyPost_ret (v:=.agg #[.slice a1 (u32s ((wordsOf codeFirm 2921).map fun w:Nat => (w:Int))).length c1,.slice a2 (i32s dataFirm).length c2,.slice a3 (bools secFirm).length c3,.slice a4 (ints [0,1,2,3,4,5,6,7,8,9,10,11,12,13,14,15,16,17,18,19]).length c4,.slice a5 (ints outsFirm).length c5]) (results_cell_row rfl _ _ w.heap.size 42 _ (0,0) _ rfl hfb Tryz.underlying42 rfl (by kernel_rfl)) rfl ⟨_,rfl,HC6.out.trans hcf (fun k hk => .inr (by simp at hk; omega)),HIM.out.far HB6.out hcf⟩
end Go.Proofs.YtjcgiddgafjdpaaGreatDoor
