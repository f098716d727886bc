/- kquat.Image. -/
import Derived.Test.YtakkofepcbkbkaaGreatDoorKQ17
import Derived.Test.YtakkofepcbkbkaaGreatDoorRso
namespace Go.Proofs.YtakkofepcbkbkaaGreatDoor
open Go Go.RowKit Go.Deep Go.Maps Go.Proofs.YtakkofepcbkbkaaGreatDoor.Ab Go.Proofs.YtakkofepcbkbkaaGreatDoor.Xi
set_option linter.unusedVariables false
attribute [local go_sem] Oper.semAt_some
def vKqa (g c : Nat) (γ : Gh) : Nat → Value
 | 0 => .slice (some ⟨g, 0, none⟩) 8 c
 | 1 => .slice (some ⟨g, 0, none⟩) 4 c
 | 2 => .pointer (some ⟨g, 0, none⟩)
 | 3 => .agg #[.int .i64 0, .int .i64 1, .int .i64 2, .int .i64 3]
 | 4 => .slice (some ⟨g, 0, none⟩) 8 c
 | 5 => .slice (some ⟨g, 4, none⟩) 4 (c - 4)
 | 6 => .pointer (some ⟨g, 4, none⟩)
 | 7 => .agg #[.int .i64 4, .int .i64 5, .int .i64 6, .int .i64 7]
 | 8 => γ 8
 | 9 => γ 9
 | 10 => undef
 | 11 => undef
 | _ => undef
def chKqa : Nat → List Nat
 | 0 => [8, 10]
 | 1 => [9, 11]
 | _ => []
def obKqa (g c : Nat) : Nat → ObjD
 | 0 => BlkO 8 93 [.int .i64 0, .int .i64 0, .int .i64 0, .int .i64 0] (fun _ => [.int .i64 0, .int .i64 1, .int .i64 2, .int .i64 3])
 | 1 => BlkO 9 93 [.int .i64 0, .int .i64 0, .int .i64 0, .int .i64 0] (fun _ => [.int .i64 4, .int .i64 5, .int .i64 6, .int .i64 7])
 | _ => fun _ _ _ _ => False
theorem stKqa (g c : Nat) : ∀ j, j < 2 → Stab (obKqa g c j) := fun j hj => by
 match j, hj with
 | 0, _ => exact BlkO.stab _ _ _ _
 | 1, _ => exact BlkO.stab _ _ _ _
theorem agKqa_8 (g c : Nat) (γ : Gh) (v : Value) : ∀ j, j ∉ ([8] : List Nat) → vKqa g c (upd γ 8 v) j = vKqa g c γ j := fun j hj => by
 match j, hj with
 | 0, _ => rfl
 | 1, _ => rfl
 | 2, _ => rfl
 | 3, _ => rfl
 | 4, _ => rfl
 | 5, _ => rfl
 | 6, _ => rfl
 | 7, _ => rfl
 | 8, hj => exact absurd (by decide) hj
 | 9, _ => rfl
 | 10, _ => rfl
 | 11, _ => rfl
 | _ + 12, _ => rfl
theorem agKqa_9 (g c : Nat) (γ : Gh) (v : Value) : ∀ j, j ∉ ([9] : List Nat) → vKqa g c (upd γ 9 v) j = vKqa g c γ j := fun j hj => by
 match j, hj with
 | 0, _ => rfl
 | 1, _ => rfl
 | 2, _ => rfl
 | 3, _ => rfl
 | 4, _ => rfl
 | 5, _ => rfl
 | 6, _ => rfl
 | 7, _ => rfl
 | 8, _ => rfl
 | 9, hj => exact absurd (by decide) hj
 | 10, _ => rfl
 | 11, _ => rfl
 | _ + 12, _ => rfl
theorem putsKqa (v : Nat → Value) (t0 t1 t2 t3 t4 t5 t6 t7 t8 t9 t10 t11 t12 t13 t14 t15 t16 t17 t18 t19 t20 t21 t22 t23 t24 t25 t26 t27 t28 t29 t30 t31 t32 t33 t34 t35 t36 t37 t38 : Value) : putsD v (some 14 :: some 15 :: some 16 :: some 17 :: some 18 :: some 19 :: some 20 :: some 21 :: some 4 :: some 5 :: none :: none :: []) 0 (t0 :: t1 :: t2 :: t3 :: t4 :: t5 :: t6 :: t7 :: t8 :: t9 :: t10 :: t11 :: t12 :: t13 :: t14 :: t15 :: t16 :: t17 :: t18 :: t19 :: t20 :: t21 :: t22 :: t23 :: t24 :: t25 :: t26 :: t27 :: t28 :: t29 :: t30 :: t31 :: t32 :: t33 :: t34 :: t35 :: t36 :: t37 :: t38 :: []) = (t0 :: t1 :: t2 :: t3 :: v 8 :: v 9 :: t6 :: t7 :: t8 :: t9 :: t10 :: t11 :: t12 :: t13 :: v 0 :: v 1 :: v 2 :: v 3 :: v 4 :: v 5 :: v 6 :: v 7 :: t22 :: t23 :: t24 :: t25 :: t26 :: t27 :: t28 :: t29 :: t30 :: t31 :: t32 :: t33 :: t34 :: t35 :: t36 :: t37 :: t38 :: []) := by kernel_rfl
def vKqb (b : MP) (p q : Nat) (γ : Gh) : Nat → Value
 | 0 => .pointer (some ⟨b, 0, none⟩)
 | 1 => .agg #[.iface 68 (.pointer (some ⟨b, 0, none⟩))]
 | 2 => .agg #[.int .i64 0, .int .i64 1, .int .i64 2, .int .i64 3]
 | 3 => .agg #[.int .i64 4, .int .i64 5, .int .i64 6, .int .i64 7]
 | 4 => .agg #[.int .i64 14, .int .i64 21, .int .i64 28, .int .i64 35]
 | 5 => γ 5
 | 6 => undef
 | _ => undef
def chKqb : Nat → List Nat
 | 0 => [4]
 | 1 => [5, 6]
 | _ => []
def obKqb (b : MP) (p q : Nat) : Nat → ObjD
 | 0 => fun _ m w F => match m with | 0 => KR w b (ks0.given 8) F | _ => KR w b (stAQuat b) F
 | 1 => BlkO 5 93 [.int .i64 0, .int .i64 0, .int .i64 0, .int .i64 0] (fun _ => [.int .i64 14, .int .i64 21, .int .i64 28, .int .i64 35])
 | _ => fun _ _ _ _ => False
theorem stKqb (b : MP) (p q : Nat) : ∀ j, j < 2 → Stab (obKqb b p q j) := fun j hj => by
 match j, hj with
 | 0, _ => exact fun γ m w w' F D h hc hF hD => by rcases m with _ | m <;> exact KR.chg h hc hF hD
 | 1, _ => exact BlkO.stab _ _ _ _
theorem agKqb_5 (b : MP) (p q : Nat) (γ : Gh) (v : Value) : ∀ j, j ∉ ([5] : List Nat) → vKqb b p q (upd γ 5 v) j = vKqb b p q γ j := fun j hj => by
 match j, hj with
 | 0, _ => rfl
 | 1, _ => rfl
 | 2, _ => rfl
 | 3, _ => rfl
 | 4, _ => rfl
 | 5, hj => exact absurd (by decide) hj
 | 6, _ => rfl
 | _ + 7, _ => rfl
theorem putsKqb (v : Nat → Value) (t0 t1 t2 t3 t4 t5 t6 t7 t8 t9 t10 t11 t12 t13 t14 t15 t16 t17 t18 t19 t20 t21 t22 t23 t24 t25 t26 t27 t28 t29 t30 t31 t32 t33 t34 t35 t36 t37 t38 : Value) : putsD v (some 22 :: some 23 :: some 24 :: some 25 :: some 26 :: some 6 :: none :: []) 0 (t0 :: t1 :: t2 :: t3 :: t4 :: t5 :: t6 :: t7 :: t8 :: t9 :: t10 :: t11 :: t12 :: t13 :: t14 :: t15 :: t16 :: t17 :: t18 :: t19 :: t20 :: t21 :: t22 :: t23 :: t24 :: t25 :: t26 :: t27 :: t28 :: t29 :: t30 :: t31 :: t32 :: t33 :: t34 :: t35 :: t36 :: t37 :: t38 :: []) = (t0 :: t1 :: t2 :: t3 :: t4 :: t5 :: v 5 :: t7 :: t8 :: t9 :: t10 :: t11 :: t12 :: t13 :: t14 :: t15 :: t16 :: t17 :: t18 :: t19 :: t20 :: t21 :: v 0 :: v 1 :: v 2 :: v 3 :: v 4 :: t27 :: t28 :: t29 :: t30 :: t31 :: t32 :: t33 :: t34 :: t35 :: t36 :: t37 :: t38 :: []) := by kernel_rfl
def vKqc (b : MP) (p q : Nat) (γ : Gh) : Nat → Value
 | 0 => .pointer (some ⟨b, 0, none⟩)
 | 1 => .agg #[.iface 68 (.pointer (some ⟨b, 0, none⟩))]
 | 2 => .agg #[.int .i64 0, .int .i64 1, .int .i64 2, .int .i64 3]
 | 3 => .agg #[.int .i64 68, .int .i64 70, .int .i64 72, .int .i64 74]
 | 4 => γ 4
 | 5 => undef
 | _ => undef
def chKqc : Nat → List Nat
 | 0 => [3]
 | 1 => [4, 5]
 | _ => []
def obKqc (b : MP) (p q : Nat) : Nat → ObjD
 | 0 => fun _ m w F => match m with | 0 => KR w b (stAQuat b) F | _ => KR w b (stQuat b) F
 | 1 => BlkO 4 93 [.int .i64 0, .int .i64 0, .int .i64 0, .int .i64 0] (fun _ => [.int .i64 68, .int .i64 70, .int .i64 72, .int .i64 74])
 | _ => fun _ _ _ _ => False
theorem stKqc (b : MP) (p q : Nat) : ∀ j, j < 2 → Stab (obKqc b p q j) := fun j hj => by
 match j, hj with
 | 0, _ => exact fun γ m w w' F D h hc hF hD => by rcases m with _ | m <;> exact KR.chg h hc hF hD
 | 1, _ => exact BlkO.stab _ _ _ _
theorem agKqc_4 (b : MP) (p q : Nat) (γ : Gh) (v : Value) : ∀ j, j ∉ ([4] : List Nat) → vKqc b p q (upd γ 4 v) j = vKqc b p q γ j := fun j hj => by
 match j, hj with
 | 0, _ => rfl
 | 1, _ => rfl
 | 2, _ => rfl
 | 3, _ => rfl
 | 4, hj => exact absurd (by decide) hj
 | 5, _ => rfl
 | _ + 6, _ => rfl
theorem putsKqc (v : Nat → Value) (t0 t1 t2 t3 t4 t5 t6 t7 t8 t9 t10 t11 t12 t13 t14 t15 t16 t17 t18 t19 t20 t21 t22 t23 t24 t25 t26 t27 t28 t29 t30 t31 t32 t33 t34 t35 t36 t37 t38 : Value) : putsD v (some 27 :: some 28 :: some 29 :: some 30 :: some 7 :: none :: []) 0 (t0 :: t1 :: t2 :: t3 :: t4 :: t5 :: t6 :: t7 :: t8 :: t9 :: t10 :: t11 :: t12 :: t13 :: t14 :: t15 :: t16 :: t17 :: t18 :: t19 :: t20 :: t21 :: t22 :: t23 :: t24 :: t25 :: t26 :: t27 :: t28 :: t29 :: t30 :: t31 :: t32 :: t33 :: t34 :: t35 :: t36 :: t37 :: t38 :: []) = (t0 :: t1 :: t2 :: t3 :: t4 :: t5 :: t6 :: v 4 :: t8 :: t9 :: t10 :: t11 :: t12 :: t13 :: t14 :: t15 :: t16 :: t17 :: t18 :: t19 :: t20 :: t21 :: t22 :: t23 :: t24 :: t25 :: t26 :: v 0 :: v 1 :: v 2 :: v 3 :: t31 :: t32 :: t33 :: t34 :: t35 :: t36 :: t37 :: t38 :: []) := by kernel_rfl
set_option maxRecDepth 100000 in
set_option maxHeartbeats 2000000 in
theorem kquat_image (w : World) (hg : Glo w) :
 Calls Tryz.prog 20 #[] w fun e w' => ∃ v, e = .returned v ∧ Chg w w' [] ∧ ImgAt w' v ((wordsOf codeQuat 241).map fun w : Nat => (w : Int)) dataQuat secQuat [0, 1, 2, 3, 4, 5, 6, 7] outsQuat := by
 have hmix := hide (show Tryz.prog.follows .mixedOrders = true by kernel_rfl)
 have hn := mnew_calls (w.alloc (.cells #[.slice none 0 0, .slice none 0 0, .slice none 0 0, .slice none 0 0, .slice none 0 0] 30)) (hg.chg ((Chg.refl w []).alloc _) (by simp))
 have hq := Blk.new w 30 nil5
 have HW := hide hg
 have hz0 : (w.alloc (.cells #[.slice none 0 0, .slice none 0 0, .slice none 0 0, .slice none 0 0, .slice none 0 0] 30)).heap.size = w.heap.size + 1 := size_alloc _ _
 clear hg
 go_enter Tryz.func20, Tryz.ntmps20
 go_wp2_with fail
 go_at_call 38
 refine hn.mono ?_
 rintro e w1 ⟨b, F1, rfl, hc1, hk1, hf1⟩
 have hq1 := hq.chg hc1 (by simp)
 have HC1 : Hid (Chg w w1 []) := hide (((Chg.refl w []).alloc _).trans hc1 (by simp))
 have HF1 := hide (show ∀ k ∈ F1, w.heap.size + 1 ≤ k from fun k hk => hz0 ▸ hf1 k hk)
 have HQ1 := hide hq1
 have hgv := given_calls2 hk1 8 (by decide) (by decide)
 clear hn hq hc1 hk1 hf1 hq1 hz0
 go_wp2_with fail
 go_at_call 39
 refine hgv.mono ?_
 rintro e w3 ⟨g, c, rfl, hc3, F2, hs2, hk2, hg1, hg2, hg3, hgc, hcap⟩
 have HG0 := hide (show w3.cell? ⟨g, 0, none⟩ = some (.int .i64 0) from hgc 0 _ rfl)
 have HG1 := hide (show w3.cell? ⟨g, 1, none⟩ = some (.int .i64 1) from hgc 1 _ rfl)
 have HG2 := hide (show w3.cell? ⟨g, 2, none⟩ = some (.int .i64 2) from hgc 2 _ rfl)
 have HG3 := hide (show w3.cell? ⟨g, 3, none⟩ = some (.int .i64 3) from hgc 3 _ rfl)
 have HG4 := hide (show w3.cell? ⟨g, 4, none⟩ = some (.int .i64 4) from hgc 4 _ rfl)
 have HG5 := hide (show w3.cell? ⟨g, 5, none⟩ = some (.int .i64 5) from hgc 5 _ rfl)
 have HG6 := hide (show w3.cell? ⟨g, 6, none⟩ = some (.int .i64 6) from hgc 6 _ rfl)
 have HG7 := hide (show w3.cell? ⟨g, 7, none⟩ = some (.int .i64 7) from hgc 7 _ rfl)
 have HCC := hide hcap
 have hql : w.heap.size < w1.heap.size := HQ1.out.lt
 have hqF1 : w.heap.size ∉ F1 := fun hm => by have := HF1.out _ hm; omega
 have HQ3 := hide (HQ1.out.chg hc3 hqF1)
 have hF2 : ∀ k ∈ F2, w.heap.size + 1 ≤ k := fun k hk => by
  rcases hs2 k hk with h | h
  · exact HF1.out k h
  · omega
 have HF2 := hide hF2
 have HC3 : Hid (Chg w w3 []) := hide (HC1.out.trans hc3 (fun k hk => .inr (by have := HF1.out k hk; omega)))
 have HKR := hide hk2
 have HGF := hide (show g ∉ F2 from hg3)
 have hgl3 := hg2
 clear hgv hc3 hs2 hk2 hg1 hg2 hg3 hgc hcap hql hqF1 hF2
 have HZ0 := hide (show 8 ≤ w3.heap.size from Nat.le_trans HW.out.size (by have := HC3.out.size; exact this))
 go_upto_region 3 with (fail)
 refine wp_regionJ hmix.out _ _ (fun γ => vKqa g c γ) (fun (γ : Gh) L w' => RSW 2 (obKqa g c) chKqa w3 [] γ L w') (fun _ => undef) (by kernel_rfl) [] (by kernel_rfl) (fun p hp γ => by simp at hp) (by kernel_rfl) ?step ?start ?fin ?ext
 case ext =>
  intro γ L L' w' h hw
  exact RSW.ext (fun j hj e he => h e (by
   match j, hj with
   | 0, _ => simp [chKqa] at he; rcases he with rfl | rfl <;> decide
   | 1, _ => simp [chKqa] at he; rcases he with rfl | rfl <;> decide
   )) hw
 case step =>
  intro i o ho L av w1 γ hdn htm hW hL hpre K Q hK
  match i, ho with
   | 0, ho =>
    injection ho with ho; subst ho
    have b3 : av.tmps.getD 3 undef = .slice (some ⟨g, 0, none⟩) 8 c := slB htm 3 (by kernel_rfl)
    clear htm
    refine val_now ?_ (hK γ w1 (fun _ _ => rfl) (RSW.same hW 0 (by decide))); go_simp; rfl
   | 1, ho =>
    injection ho with ho; subst ho
    have s0 := slA htm 14 0 (by kernel_rfl) (hpre ⟨0, .data⟩ (by simp) rfl)
    simp only [vKqa] at s0
    clear htm
    have hcc := HCC.out
    have hc4 : (4 : Int) ≤ (c : Int) := by omega
    refine val_now ?_ (hK γ w1 (fun _ _ => rfl) (RSW.same hW 1 (by decide))); go_simp; rfl
   | 2, ho =>
    injection ho with ho; subst ho
    have s1 := slA htm 15 1 (by kernel_rfl) (hpre ⟨1, .data⟩ (by simp) rfl)
    simp only [vKqa] at s1
    clear htm
    refine val_now ?_ (hK γ w1 (fun _ _ => rfl) (RSW.same hW 2 (by decide))); go_simp; rfl
   | 3, ho =>
    injection ho with ho; subst ho
    have s2 := slA htm 16 2 (by kernel_rfl) (hpre ⟨2, .data⟩ (by simp) rfl)
    simp only [vKqa] at s2
    clear htm
    have y0 := Chg.cell (RSW.chg hW) HG0.out (by simp)
    have y1 := Chg.cell (RSW.chg hW) HG1.out (by simp)
    have y2 := Chg.cell (RSW.chg hW) HG2.out (by simp)
    have y3 := Chg.cell (RSW.chg hW) HG3.out (by simp)
    refine val_now ?_ (hK γ w1 (fun _ _ => rfl) (RSW.same hW 3 (by decide))); go_simp; rfl
   | 4, ho =>
    injection ho with ho; subst ho
    have b3 : av.tmps.getD 3 undef = .slice (some ⟨g, 0, none⟩) 8 c := slB htm 3 (by kernel_rfl)
    clear htm
    refine val_now ?_ (hK γ w1 (fun _ _ => rfl) (RSW.same hW 4 (by decide))); go_simp; rfl
   | 5, ho =>
    injection ho with ho; subst ho
    have s4 := slA htm 18 4 (by kernel_rfl) (hpre ⟨4, .data⟩ (by simp) rfl)
    simp only [vKqa] at s4
    clear htm
    have hcc := HCC.out
    have hne : ¬ (c = 4) := by omega
    refine val_now ?_ (hK γ w1 (fun _ _ => rfl) (RSW.same hW 5 (by decide))); go_simp; (try rw [if_neg hne]); rfl
   | 6, ho =>
    injection ho with ho; subst ho
    have s5 := slA htm 19 5 (by kernel_rfl) (hpre ⟨5, .data⟩ (by simp) rfl)
    simp only [vKqa] at s5
    clear htm
    refine val_now ?_ (hK γ w1 (fun _ _ => rfl) (RSW.same hW 6 (by decide))); go_simp; rfl
   | 7, ho =>
    injection ho with ho; subst ho
    have s6 := slA htm 20 6 (by kernel_rfl) (hpre ⟨6, .data⟩ (by simp) rfl)
    simp only [vKqa] at s6
    clear htm
    have y0 := Chg.cell (RSW.chg hW) HG4.out (by simp)
    have y1 := Chg.cell (RSW.chg hW) HG5.out (by simp)
    have y2 := Chg.cell (RSW.chg hW) HG6.out (by simp)
    have y3 := Chg.cell (RSW.chg hW) HG7.out (by simp)
    refine val_now ?_ (hK γ w1 (fun _ _ => rfl) (RSW.same hW 7 (by decide))); go_simp; rfl
   | 8, ho =>
    injection ho with ho; subst ho
    clear htm
    have hm : cntE L (chKqa 0) = 0 := by simp [chKqa, cntE, hL]
    have n10 : L 10 = false := by
     cases h : L 10 with
     | false => rfl
     | true => have hx : L 8 = true := (hdn 10 _ rfl h ⟨8, .data⟩ (by simp) rfl); rw [hL] at hx; cases hx
    have hm2 : cntE (fun e => if e = 8 then true else L e) (chKqa 0) = 1 := by simp [chKqa, cntE, n10]
    refine val_now (v := .pointer (some ⟨w1.heap.size, 0, none⟩)) (w' := w1.alloc (.cells #[.int .i64 0, .int .i64 0, .int .i64 0, .int .i64 0] 93)) ?_ (hK (upd γ 8 (.pointer (some ⟨w1.heap.size, 0, none⟩))) _ (agree_of hdn [8] (by kernel_rfl) hL (agKqa_8 g c γ _)) (RSW.eff (stKqa g c) HZ0.out hW 8 0 (by decide) (by decide) hm hm2 (BlkO.make (st := (fun _ => [.int .i64 0, .int .i64 1, .int .i64 2, .int .i64 3]))) (fun q hq hn F h => by
     match q, hq, hn with
     | 0, _, hn => exact absurd rfl hn
     | 1, _, hn => exact h
    )))
    · go_simp
   | 9, ho =>
    injection ho with ho; subst ho
    clear htm
    have hm : cntE L (chKqa 1) = 0 := by simp [chKqa, cntE, hL]
    have n11 : L 11 = false := by
     cases h : L 11 with
     | false => rfl
     | true => have hx : L 9 = true := (hdn 11 _ rfl h ⟨9, .data⟩ (by simp) rfl); rw [hL] at hx; cases hx
    have hm2 : cntE (fun e => if e = 9 then true else L e) (chKqa 1) = 1 := by simp [chKqa, cntE, n11]
    refine val_now (v := .pointer (some ⟨w1.heap.size, 0, none⟩)) (w' := w1.alloc (.cells #[.int .i64 0, .int .i64 0, .int .i64 0, .int .i64 0] 93)) ?_ (hK (upd γ 9 (.pointer (some ⟨w1.heap.size, 0, none⟩))) _ (agree_of hdn [9] (by kernel_rfl) hL (agKqa_9 g c γ _)) (RSW.eff (stKqa g c) HZ0.out hW 9 1 (by decide) (by decide) hm hm2 (BlkO.make (st := (fun _ => [.int .i64 4, .int .i64 5, .int .i64 6, .int .i64 7]))) (fun q hq hn F h => by
     match q, hq, hn with
     | 0, _, hn => exact h
     | 1, _, hn => exact absurd rfl hn
    )))
    · go_simp
   | 10, ho =>
    injection ho with ho; subst ho
    have s8 := slA htm 4 8 (by kernel_rfl) (hpre ⟨8, .data⟩ (by simp) rfl)
    have s3 := slA htm 17 3 (by kernel_rfl) (hpre ⟨3, .data⟩ (by simp) rfl)
    simp only [vKqa] at s8 s3
    clear htm
    have c8 : L 8 = true := hpre ⟨8, .data⟩ (by simp) rfl
    have hm : cntE L (chKqa 0) = 1 := by simp [chKqa, cntE, hL, c8]
    have hm2 : cntE (fun e => if e = 10 then true else L e) (chKqa 0) = 2 := by simp [chKqa, cntE, c8]
    obtain ⟨F, hF, hF2, _⟩ := RSW.get hW 0 (by decide) hm
    obtain ⟨a, ha, rfl, hb⟩ := hF
    have hal := hb.lt
    have f0 := hb.frozen 0
    have z0 := hb.cell' (i := 0) rfl
    have f1 := hb.frozen 1
    have z1 := hb.cell' (i := 1) rfl
    have f2 := hb.frozen 2
    have z2 := hb.cell' (i := 2) rfl
    have f3 := hb.frozen 3
    have z3 := hb.cell' (i := 3) rfl
    rw [ha] at s8
    refine skip_now (w' := ((((w1.setCell ⟨a, 0, none⟩ (.int .i64 0)).setCell ⟨a, 1, none⟩ (.int .i64 1)).setCell ⟨a, 2, none⟩ (.int .i64 2)).setCell ⟨a, 3, none⟩ (.int .i64 3))) ?_ (hK γ _ (fun _ _ => rfl) (RSW.eff (γ' := γ) (stKqa g c) HZ0.out hW 10 0 (by decide) (by decide) hm hm2 (fun F0 hF0 => ?_) (fun q hq hn F h => h)))
    · go_simp
    · obtain ⟨a0, ha0, rfl, hb0⟩ := hF0
      rw [ha] at ha0
      injection ha0 with ha0; injection ha0 with ha0; injection ha0 with ha0
      subst ha0
      have hcc := (((((Chg.refl w1 [a]).setCell ⟨a, 0, none⟩ (.int .i64 0) (.inl (List.mem_singleton.2 rfl))).setCell ⟨a, 1, none⟩ (.int .i64 1) (.inl (List.mem_singleton.2 rfl))).setCell ⟨a, 2, none⟩ (.int .i64 2) (.inl (List.mem_singleton.2 rfl))).setCell ⟨a, 3, none⟩ (.int .i64 3) (.inl (List.mem_singleton.2 rfl)))
      refine ⟨[a], hcc, Sub.refl _ _, fun k hk => ?_, a, ha, rfl, ((((hb.set_ 0 (.int .i64 0)).set_ 1 (.int .i64 1)).set_ 2 (.int .i64 2)).set_ 3 (.int .i64 3))⟩
      have hk : k = a := by simpa using hk
      subst hk
      exact Nat.lt_of_lt_of_le hal hcc.size
   | 11, ho =>
    injection ho with ho; subst ho
    have s9 := slA htm 5 9 (by kernel_rfl) (hpre ⟨9, .data⟩ (by simp) rfl)
    have s7 := slA htm 21 7 (by kernel_rfl) (hpre ⟨7, .data⟩ (by simp) rfl)
    simp only [vKqa] at s9 s7
    clear htm
    have c9 : L 9 = true := hpre ⟨9, .data⟩ (by simp) rfl
    have hm : cntE L (chKqa 1) = 1 := by simp [chKqa, cntE, hL, c9]
    have hm2 : cntE (fun e => if e = 11 then true else L e) (chKqa 1) = 2 := by simp [chKqa, cntE, c9]
    obtain ⟨F, hF, hF2, _⟩ := RSW.get hW 1 (by decide) hm
    obtain ⟨a, ha, rfl, hb⟩ := hF
    have hal := hb.lt
    have f0 := hb.frozen 0
    have z0 := hb.cell' (i := 0) rfl
    have f1 := hb.frozen 1
    have z1 := hb.cell' (i := 1) rfl
    have f2 := hb.frozen 2
    have z2 := hb.cell' (i := 2) rfl
    have f3 := hb.frozen 3
    have z3 := hb.cell' (i := 3) rfl
    rw [ha] at s9
    refine skip_now (w' := ((((w1.setCell ⟨a, 0, none⟩ (.int .i64 4)).setCell ⟨a, 1, none⟩ (.int .i64 5)).setCell ⟨a, 2, none⟩ (.int .i64 6)).setCell ⟨a, 3, none⟩ (.int .i64 7))) ?_ (hK γ _ (fun _ _ => rfl) (RSW.eff (γ' := γ) (stKqa g c) HZ0.out hW 11 1 (by decide) (by decide) hm hm2 (fun F0 hF0 => ?_) (fun q hq hn F h => h)))
    · go_simp
    · obtain ⟨a0, ha0, rfl, hb0⟩ := hF0
      rw [ha] at ha0
      injection ha0 with ha0; injection ha0 with ha0; injection ha0 with ha0
      subst ha0
      have hcc := (((((Chg.refl w1 [a]).setCell ⟨a, 0, none⟩ (.int .i64 4) (.inl (List.mem_singleton.2 rfl))).setCell ⟨a, 1, none⟩ (.int .i64 5) (.inl (List.mem_singleton.2 rfl))).setCell ⟨a, 2, none⟩ (.int .i64 6) (.inl (List.mem_singleton.2 rfl))).setCell ⟨a, 3, none⟩ (.int .i64 7) (.inl (List.mem_singleton.2 rfl)))
      refine ⟨[a], hcc, Sub.refl _ _, fun k hk => ?_, a, ha, rfl, ((((hb.set_ 0 (.int .i64 4)).set_ 1 (.int .i64 5)).set_ 2 (.int .i64 6)).set_ 3 (.int .i64 7))⟩
      have hk : k = a := by simpa using hk
      subst hk
      exact Nat.lt_of_lt_of_le hal hcc.size
   | _ + 12, ho => cases ho
 case start => exact ⟨(Chg.refl w3 []).drew, fun _ => [], fun j hj => (by
  match j, hj with
  | 0, _ => exact ⟨rfl, by simp [Sub], by simp⟩
  | 1, _ => exact ⟨rfl, by simp [Sub], by simp⟩), by simp⟩
 case fin =>
 intro γ w4 hW
 obtain ⟨F8, ⟨p, hp, hpF, hpb⟩, hp2, hp3⟩ := RSW.get hW 0 (by decide) (m := 2) rfl
 obtain ⟨F9, ⟨q, hq, hqF, hqb⟩, hq2, hq3⟩ := RSW.get hW 1 (by decide) (m := 2) rfl
 have hc4 : Chg w3 w4 [] := hW.chg
 have hp0 : w3.heap.size ≤ p := by
  rcases hp3 p (by rw [hpF]; simp) with h | h
  · simp at h
  · exact h
 have hq0 : w3.heap.size ≤ q := by
  rcases hq3 q (by rw [hqF]; simp) with h | h
  · simp at h
  · exact h
 have hpF2 : p ∉ F2 := fun hm => by have := HKR.out.lt p hm; omega
 have hqF2 : q ∉ F2 := fun hm => by have := HKR.out.lt q hm; omega
 have hk4 : KR w4 b (ks0.given 8) F2 := HKR.out.chg0 hc4
 have HC4 : Hid (Chg w w4 []) := hide (HC3.out.trans hc4 (by simp))
 have HQ4 := hide (HQ3.out.chg hc4 (by simp))
 have HPb4 := hide hpb
 have HQb4 := hide hqb
 have HPbF4 := hide hpF2
 have HQbF4 := hide hqF2
 have HZ4 := hide (show 8 ≤ w4.heap.size from Nat.le_trans HZ0.out hc4.size)
 have HPL := hide (show w.heap.size < p by have := HQ3.out.lt; omega)
 clear hW hp2 hp3 hq2 hq3 hc4 hp0 hq0 hpF2 hqF2 hpF hqF hpb hqb
 rw [finG_puts, putsR_list, putsL_dst]
 simp only [List.map_cons, List.map_nil]
 rw [putsKqa]
 simp only [vKqa]
 rw [hp, hq]
 clear hp hq
 go_wp2_with fail
 go_upto_region 4 with (fail)
 refine wp_regionJ hmix.out _ _ (fun γ => vKqb b p q γ) (fun (γ : Gh) L w' => RSW 2 (obKqb b p q) chKqb w4 F2 γ L w') (fun _ => undef) (by kernel_rfl) [] (by kernel_rfl) (fun p hp γ => by simp at hp) (by kernel_rfl) ?step ?start ?fin ?ext
 case ext =>
  intro γ L L' w' h hw
  exact RSW.ext (fun j hj e he => h e (by
   match j, hj with
   | 0, _ => simp [chKqb] at he; rcases he with rfl <;> decide
   | 1, _ => simp [chKqb] at he; rcases he with rfl | rfl <;> decide
   )) hw
 case step =>
  intro i o ho L av w1 γ hdn htm hW hL hpre K Q hK
  match i, ho with
   | 0, ho =>
    injection ho with ho; subst ho
    have b1 : av.tmps.getD 1 undef = .pointer (some ⟨b.a, 0, none⟩) := slB htm 1 (by kernel_rfl)
    clear htm
    refine val_now ?_ (hK γ w1 (fun _ _ => rfl) (RSW.same hW 0 (by decide))); go_simp; rfl
   | 1, ho =>
    injection ho with ho; subst ho
    have s0 := slA htm 22 0 (by kernel_rfl) (hpre ⟨0, .data⟩ (by simp) rfl)
    simp only [vKqb] at s0
    clear htm
    refine call_now (f := 41) (args := #[.pointer (some ⟨b.a, 0, none⟩)]) ?_ (work_calls b.a w1) ?_
    · go_simp
    · rintro e w2 ⟨rfl, hc⟩
      exact ⟨_, rfl, hK γ _ (fun _ _ => rfl) (RSW.quiet (stKqb b p q) hW 1 (by decide) hc (fun j hj F h => h))⟩
   | 2, ho =>
    injection ho with ho; subst ho
    have b4 : av.tmps.getD 4 undef = .pointer (some ⟨p, 0, none⟩) := slB htm 4 (by kernel_rfl)
    clear htm
    have y0 := (HPb4.out.chg (RSW.chg hW) HPbF4.out).cell' (i := 0) rfl
    have y1 := (HPb4.out.chg (RSW.chg hW) HPbF4.out).cell' (i := 1) rfl
    have y2 := (HPb4.out.chg (RSW.chg hW) HPbF4.out).cell' (i := 2) rfl
    have y3 := (HPb4.out.chg (RSW.chg hW) HPbF4.out).cell' (i := 3) rfl
    refine val_now ?_ (hK γ w1 (fun _ _ => rfl) (RSW.same hW 2 (by decide))); go_simp; rfl
   | 3, ho =>
    injection ho with ho; subst ho
    have b5 : av.tmps.getD 5 undef = .pointer (some ⟨q, 0, none⟩) := slB htm 5 (by kernel_rfl)
    clear htm
    have y0 := (HQb4.out.chg (RSW.chg hW) HQbF4.out).cell' (i := 0) rfl
    have y1 := (HQb4.out.chg (RSW.chg hW) HQbF4.out).cell' (i := 1) rfl
    have y2 := (HQb4.out.chg (RSW.chg hW) HQbF4.out).cell' (i := 2) rfl
    have y3 := (HQb4.out.chg (RSW.chg hW) HQbF4.out).cell' (i := 3) rfl
    refine val_now ?_ (hK γ w1 (fun _ _ => rfl) (RSW.same hW 3 (by decide))); go_simp; rfl
   | 4, ho =>
    injection ho with ho; subst ho
    have s1 := slA htm 23 1 (by kernel_rfl) (hpre ⟨1, .data⟩ (by simp) rfl)
    have s2 := slA htm 24 2 (by kernel_rfl) (hpre ⟨2, .data⟩ (by simp) rfl)
    have s3 := slA htm 25 3 (by kernel_rfl) (hpre ⟨3, .data⟩ (by simp) rfl)
    simp only [vKqb] at s1 s2 s3
    clear htm
    have hm : cntE L (chKqb 0) = 0 := by simp [chKqb, cntE, hL]
    have hm2 : cntE (fun e => if e = 4 then true else L e) (chKqb 0) = 1 := by simp [chKqb, cntE]
    obtain ⟨F5, hF, hF2, hs5⟩ := RSW.get hW 0 (by decide) hm
    refine call_now (f := 55) (args := #[.agg #[.iface 68 (.pointer (some ⟨b.a, 0, none⟩))], .agg #[.int .i64 0, .int .i64 1, .int .i64 2, .int .i64 3], .agg #[.int .i64 4, .int .i64 5, .int .i64 6, .int .i64 7]]) ?_ (cxK_calls (runAQuat b) w1 hF (vs := [.agg #[.iface 68 (.pointer (some ⟨b.a, 0, none⟩))], .agg #[.int .i64 0, .int .i64 1, .int .i64 2, .int .i64 3], .agg #[.int .i64 4, .int .i64 5, .int .i64 6, .int .i64 7]]) rfl) ?_
    · go_simp
    · rintro e w2 ⟨rfl, hc, F6, hs6, hk6⟩
      refine ⟨_, rfl, hK γ w2 (fun _ _ => rfl) (RSW.eff (γ' := γ) (stKqb b p q) HZ4.out hW 4 0 (by decide) (by decide) hm hm2 (fun F0 hF0 => ?_) (fun q hq hn F h => h))⟩
      obtain rfl := KR.uniq hF0 hF
      exact ⟨F6, hc, hs6, fun k hk => hk6.lt k hk, hk6⟩
   | 5, ho =>
    injection ho with ho; subst ho
    clear htm
    have hm : cntE L (chKqb 1) = 0 := by simp [chKqb, cntE, hL]
    have n6 : L 6 = false := by
     cases h : L 6 with
     | false => rfl
     | true => have hx : L 5 = true := (hdn 6 _ rfl h ⟨5, .data⟩ (by simp) rfl); rw [hL] at hx; cases hx
    have hm2 : cntE (fun e => if e = 5 then true else L e) (chKqb 1) = 1 := by simp [chKqb, cntE, n6]
    refine val_now (v := .pointer (some ⟨w1.heap.size, 0, none⟩)) (w' := w1.alloc (.cells #[.int .i64 0, .int .i64 0, .int .i64 0, .int .i64 0] 93)) ?_ (hK (upd γ 5 (.pointer (some ⟨w1.heap.size, 0, none⟩))) _ (agree_of hdn [5] (by kernel_rfl) hL (agKqb_5 b p q γ _)) (RSW.eff (stKqb b p q) HZ4.out hW 5 1 (by decide) (by decide) hm hm2 (BlkO.make (st := (fun _ => [.int .i64 14, .int .i64 21, .int .i64 28, .int .i64 35]))) (fun q hq hn F h => by
     match q, hq, hn with
     | 0, _, hn => exact h
     | 1, _, hn => exact absurd rfl hn
    )))
    · go_simp
   | 6, ho =>
    injection ho with ho; subst ho
    have s5 := slA htm 6 5 (by kernel_rfl) (hpre ⟨5, .data⟩ (by simp) rfl)
    have s4 := slA htm 26 4 (by kernel_rfl) (hpre ⟨4, .data⟩ (by simp) rfl)
    simp only [vKqb] at s5 s4
    clear htm
    have c5 : L 5 = true := hpre ⟨5, .data⟩ (by simp) rfl
    have hm : cntE L (chKqb 1) = 1 := by simp [chKqb, cntE, hL, c5]
    have hm2 : cntE (fun e => if e = 6 then true else L e) (chKqb 1) = 2 := by simp [chKqb, cntE, c5]
    obtain ⟨F, hF, hF2, _⟩ := RSW.get hW 1 (by decide) hm
    obtain ⟨a, ha, rfl, hb⟩ := hF
    have hal := hb.lt
    have f0 := hb.frozen 0
    have z0 := hb.cell' (i := 0) rfl
    have f1 := hb.frozen 1
    have z1 := hb.cell' (i := 1) rfl
    have f2 := hb.frozen 2
    have z2 := hb.cell' (i := 2) rfl
    have f3 := hb.frozen 3
    have z3 := hb.cell' (i := 3) rfl
    rw [ha] at s5
    refine skip_now (w' := ((((w1.setCell ⟨a, 0, none⟩ (.int .i64 14)).setCell ⟨a, 1, none⟩ (.int .i64 21)).setCell ⟨a, 2, none⟩ (.int .i64 28)).setCell ⟨a, 3, none⟩ (.int .i64 35))) ?_ (hK γ _ (fun _ _ => rfl) (RSW.eff (γ' := γ) (stKqb b p q) HZ4.out hW 6 1 (by decide) (by decide) hm hm2 (fun F0 hF0 => ?_) (fun q hq hn F h => h)))
    · go_simp
    · obtain ⟨a0, ha0, rfl, hb0⟩ := hF0
      rw [ha] at ha0
      injection ha0 with ha0; injection ha0 with ha0; injection ha0 with ha0
      subst ha0
      have hcc := (((((Chg.refl w1 [a]).setCell ⟨a, 0, none⟩ (.int .i64 14) (.inl (List.mem_singleton.2 rfl))).setCell ⟨a, 1, none⟩ (.int .i64 21) (.inl (List.mem_singleton.2 rfl))).setCell ⟨a, 2, none⟩ (.int .i64 28) (.inl (List.mem_singleton.2 rfl))).setCell ⟨a, 3, none⟩ (.int .i64 35) (.inl (List.mem_singleton.2 rfl)))
      refine ⟨[a], hcc, Sub.refl _ _, fun k hk => ?_, a, ha, rfl, ((((hb.set_ 0 (.int .i64 14)).set_ 1 (.int .i64 21)).set_ 2 (.int .i64 28)).set_ 3 (.int .i64 35))⟩
      have hk : k = a := by simpa using hk
      subst hk
      exact Nat.lt_of_lt_of_le hal hcc.size
   | _ + 7, ho => cases ho
 case start => exact ⟨(Chg.refl w4 F2).drew, fun j => if j = 0 then F2 else [], fun j hj => (by
  match j, hj with
  | 0, _ => exact ⟨(show KR w4.drew b (ks0.given 8) F2 from KR.chg0 hk4 ((Chg.refl _ _).drew)), fun k hk => .inl hk, fun k hk => ⟨hk4.lt k hk, hk4.high k hk⟩⟩
  | 1, _ => exact ⟨rfl, by simp [Sub], by simp⟩), fun i j k hi hj hij hk => by
   by_cases e : j = 0
   · subst e
     simp only [if_neg hij] at hk
     simp at hk
   · simp only [if_neg e]
     simp⟩
 case fin =>
 intro γ5 w5 hW
 obtain ⟨F5, hk5, hl5, hs5⟩ := RSW.get hW 0 (by decide) (m := 1) rfl
 obtain ⟨F9, ⟨u, hu, huF, hub⟩, hu2, hu3⟩ := RSW.get hW 1 (by decide) (m := 2) rfl
 obtain ⟨Fa, Fb, ha1, ⟨u', hu', huF', _⟩, hap⟩ := RSW.apart hW 0 1 (by decide) (by decide) (by decide) (m := 1) (m' := 2) rfl rfl
 have hk5 : KR w5 b (stAQuat b) F5 := hk5
 obtain rfl := KR.uniq ha1 hk5
 have huu : u' = u := by rw [hu] at hu'; injection hu' with h; injection h with h; injection h with h; exact h.symm
 subst huu
 have hc5 : Chg w4 w5 F2 := hW.chg
 have huF5 : u' ∉ Fa := fun hm => hap u' hm (by rw [huF']; simp)
 have hul : w4.heap.size ≤ u' ∨ u' ∈ F2 := by
  rcases hu3 u' (by rw [huF]; simp) with h | h
  · exact .inr h
  · exact .inl h
 have hs5 : Sub Fa F2 w4 := hs5
 have hpF5 : p ∉ Fa := fun hm => by
  rcases hs5 p hm with h | h
  · exact HPbF4.out h
  · have := HPb4.out.lt; omega
 have hFa : ∀ k ∈ Fa, w.heap.size + 1 ≤ k := fun k hk => by
  rcases hs5 k hk with h | h
  · exact HF2.out k h
  · have := HQ4.out.lt; omega
 have HC5 : Hid (Chg w w5 []) := hide (HC4.out.trans hc5 (fun k hk => .inr (by have := HF2.out k hk; omega)))
 have HQ5 := hide (HQ4.out.chg hc5 (fun hm => by have := HF2.out _ hm; omega))
 have HPb5 := hide (HPb4.out.chg hc5 HPbF4.out)
 have HPbF5 := hide hpF5
 have HU5 := hide hub
 have HUF5 := hide huF5
 have HF5 := hide hFa
 have HZ5 := hide (show 8 ≤ w5.heap.size from Nat.le_trans HZ4.out hc5.size)
 have HUL := hide (show w.heap.size < u' by
  rcases hul with h | h
  · have := HQ4.out.lt; omega
  · have := HF2.out u' h; omega)
 clear hW hl5 hu2 hu3 hap ha1 hu' huF' hc5 huF5 hul hs5 hpF5 hFa hub huF hk4
 rw [finG_puts, putsR_list, putsL_dst]
 simp only [List.map_cons, List.map_nil]
 rw [putsKqb]
 simp only [vKqb]
 rw [hu]
 clear hu
 go_wp2_with fail
 go_upto_region 5 with (fail)
 refine wp_regionJ hmix.out _ _ (fun γ => vKqc b p q γ) (fun (γ : Gh) L w' => RSW 2 (obKqc b p q) chKqc w5 Fa γ L w') (fun _ => undef) (by kernel_rfl) [] (by kernel_rfl) (fun p hp γ => by simp at hp) (by kernel_rfl) ?step ?start ?fin ?ext
 case ext =>
  intro γ L L' w' h hw
  exact RSW.ext (fun j hj e he => h e (by
   match j, hj with
   | 0, _ => simp [chKqc] at he; rcases he with rfl <;> decide
   | 1, _ => simp [chKqc] at he; rcases he with rfl | rfl <;> decide
   )) hw
 case step =>
  intro i o ho L av w1 γ hdn htm hW hL hpre K Q hK
  match i, ho with
   | 0, ho =>
    injection ho with ho; subst ho
    have b1 : av.tmps.getD 1 undef = .pointer (some ⟨b.a, 0, none⟩) := slB htm 1 (by kernel_rfl)
    clear htm
    refine val_now ?_ (hK γ w1 (fun _ _ => rfl) (RSW.same hW 0 (by decide))); go_simp; rfl
   | 1, ho =>
    injection ho with ho; subst ho
    have s0 := slA htm 27 0 (by kernel_rfl) (hpre ⟨0, .data⟩ (by simp) rfl)
    simp only [vKqc] at s0
    clear htm
    refine call_now (f := 41) (args := #[.pointer (some ⟨b.a, 0, none⟩)]) ?_ (work_calls b.a w1) ?_
    · go_simp
    · rintro e w2 ⟨rfl, hc⟩
      exact ⟨_, rfl, hK γ _ (fun _ _ => rfl) (RSW.quiet (stKqc b p q) hW 1 (by decide) hc (fun j hj F h => h))⟩
   | 2, ho =>
    injection ho with ho; subst ho
    have b4 : av.tmps.getD 4 undef = .pointer (some ⟨p, 0, none⟩) := slB htm 4 (by kernel_rfl)
    clear htm
    have y0 := (HPb5.out.chg (RSW.chg hW) HPbF5.out).cell' (i := 0) rfl
    have y1 := (HPb5.out.chg (RSW.chg hW) HPbF5.out).cell' (i := 1) rfl
    have y2 := (HPb5.out.chg (RSW.chg hW) HPbF5.out).cell' (i := 2) rfl
    have y3 := (HPb5.out.chg (RSW.chg hW) HPbF5.out).cell' (i := 3) rfl
    refine val_now ?_ (hK γ w1 (fun _ _ => rfl) (RSW.same hW 2 (by decide))); go_simp; rfl
   | 3, ho =>
    injection ho with ho; subst ho
    have s1 := slA htm 28 1 (by kernel_rfl) (hpre ⟨1, .data⟩ (by simp) rfl)
    have s2 := slA htm 29 2 (by kernel_rfl) (hpre ⟨2, .data⟩ (by simp) rfl)
    simp only [vKqc] at s1 s2
    clear htm
    have hm : cntE L (chKqc 0) = 0 := by simp [chKqc, cntE, hL]
    have hm2 : cntE (fun e => if e = 3 then true else L e) (chKqc 0) = 1 := by simp [chKqc, cntE]
    obtain ⟨F5, hF, hF2, hs5⟩ := RSW.get hW 0 (by decide) hm
    refine call_now (f := 56) (args := #[.agg #[.iface 68 (.pointer (some ⟨b.a, 0, none⟩))], .agg #[.int .i64 0, .int .i64 1, .int .i64 2, .int .i64 3]]) ?_ (cxK_calls (runQuat b) w1 hF (vs := [.agg #[.iface 68 (.pointer (some ⟨b.a, 0, none⟩))], .agg #[.int .i64 0, .int .i64 1, .int .i64 2, .int .i64 3]]) rfl) ?_
    · go_simp
    · rintro e w2 ⟨rfl, hc, F6, hs6, hk6⟩
      refine ⟨_, rfl, hK γ w2 (fun _ _ => rfl) (RSW.eff (γ' := γ) (stKqc b p q) HZ5.out hW 3 0 (by decide) (by decide) hm hm2 (fun F0 hF0 => ?_) (fun q hq hn F h => h))⟩
      obtain rfl := KR.uniq hF0 hF
      exact ⟨F6, hc, hs6, fun k hk => hk6.lt k hk, hk6⟩
   | 4, ho =>
    injection ho with ho; subst ho
    clear htm
    have hm : cntE L (chKqc 1) = 0 := by simp [chKqc, cntE, hL]
    have n5 : L 5 = false := by
     cases h : L 5 with
     | false => rfl
     | true => have hx : L 4 = true := (hdn 5 _ rfl h ⟨4, .data⟩ (by simp) rfl); rw [hL] at hx; cases hx
    have hm2 : cntE (fun e => if e = 4 then true else L e) (chKqc 1) = 1 := by simp [chKqc, cntE, n5]
    refine val_now (v := .pointer (some ⟨w1.heap.size, 0, none⟩)) (w' := w1.alloc (.cells #[.int .i64 0, .int .i64 0, .int .i64 0, .int .i64 0] 93)) ?_ (hK (upd γ 4 (.pointer (some ⟨w1.heap.size, 0, none⟩))) _ (agree_of hdn [4] (by kernel_rfl) hL (agKqc_4 b p q γ _)) (RSW.eff (stKqc b p q) HZ5.out hW 4 1 (by decide) (by decide) hm hm2 (BlkO.make (st := (fun _ => [.int .i64 68, .int .i64 70, .int .i64 72, .int .i64 74]))) (fun q hq hn F h => by
     match q, hq, hn with
     | 0, _, hn => exact h
     | 1, _, hn => exact absurd rfl hn
    )))
    · go_simp
   | 5, ho =>
    injection ho with ho; subst ho
    have s4 := slA htm 7 4 (by kernel_rfl) (hpre ⟨4, .data⟩ (by simp) rfl)
    have s3 := slA htm 30 3 (by kernel_rfl) (hpre ⟨3, .data⟩ (by simp) rfl)
    simp only [vKqc] at s4 s3
    clear htm
    have c4 : L 4 = true := hpre ⟨4, .data⟩ (by simp) rfl
    have hm : cntE L (chKqc 1) = 1 := by simp [chKqc, cntE, hL, c4]
    have hm2 : cntE (fun e => if e = 5 then true else L e) (chKqc 1) = 2 := by simp [chKqc, cntE, c4]
    obtain ⟨F, hF, hF2, _⟩ := RSW.get hW 1 (by decide) hm
    obtain ⟨a, ha, rfl, hb⟩ := hF
    have hal := hb.lt
    have f0 := hb.frozen 0
    have z0 := hb.cell' (i := 0) rfl
    have f1 := hb.frozen 1
    have z1 := hb.cell' (i := 1) rfl
    have f2 := hb.frozen 2
    have z2 := hb.cell' (i := 2) rfl
    have f3 := hb.frozen 3
    have z3 := hb.cell' (i := 3) rfl
    rw [ha] at s4
    refine skip_now (w' := ((((w1.setCell ⟨a, 0, none⟩ (.int .i64 68)).setCell ⟨a, 1, none⟩ (.int .i64 70)).setCell ⟨a, 2, none⟩ (.int .i64 72)).setCell ⟨a, 3, none⟩ (.int .i64 74))) ?_ (hK γ _ (fun _ _ => rfl) (RSW.eff (γ' := γ) (stKqc b p q) HZ5.out hW 5 1 (by decide) (by decide) hm hm2 (fun F0 hF0 => ?_) (fun q hq hn F h => h)))
    · go_simp
    · obtain ⟨a0, ha0, rfl, hb0⟩ := hF0
      rw [ha] at ha0
      injection ha0 with ha0; injection ha0 with ha0; injection ha0 with ha0
      subst ha0
      have hcc := (((((Chg.refl w1 [a]).setCell ⟨a, 0, none⟩ (.int .i64 68) (.inl (List.mem_singleton.2 rfl))).setCell ⟨a, 1, none⟩ (.int .i64 70) (.inl (List.mem_singleton.2 rfl))).setCell ⟨a, 2, none⟩ (.int .i64 72) (.inl (List.mem_singleton.2 rfl))).setCell ⟨a, 3, none⟩ (.int .i64 74) (.inl (List.mem_singleton.2 rfl)))
      refine ⟨[a], hcc, Sub.refl _ _, fun k hk => ?_, a, ha, rfl, ((((hb.set_ 0 (.int .i64 68)).set_ 1 (.int .i64 70)).set_ 2 (.int .i64 72)).set_ 3 (.int .i64 74))⟩
      have hk : k = a := by simpa using hk
      subst hk
      exact Nat.lt_of_lt_of_le hal hcc.size
   | _ + 6, ho => cases ho
 case start => exact ⟨(Chg.refl w5 Fa).drew, fun j => if j = 0 then Fa else [], fun j hj => (by
  match j, hj with
  | 0, _ => exact ⟨(show KR w5.drew b (stAQuat b) Fa from KR.chg0 hk5 ((Chg.refl _ _).drew)), fun k hk => .inl hk, fun k hk => ⟨hk5.lt k hk, hk5.high k hk⟩⟩
  | 1, _ => exact ⟨rfl, by simp [Sub], by simp⟩), fun i j k hi hj hij hk => by
   by_cases e : j = 0
   · subst e
     simp only [if_neg hij] at hk
     simp at hk
   · simp only [if_neg e]
     simp⟩
 case fin =>
 intro γ6 w6 hW
 obtain ⟨F6, hk6, hl6, hs6⟩ := RSW.get hW 0 (by decide) (m := 1) rfl
 obtain ⟨F9, ⟨x, hx, hxF, hxb⟩, hx2, hx3⟩ := RSW.get hW 1 (by decide) (m := 2) rfl
 obtain ⟨Fc, Fb, ha1, ⟨x', hx', hxF', _⟩, hap⟩ := RSW.apart hW 0 1 (by decide) (by decide) (by decide) (m := 1) (m' := 2) rfl rfl
 have hk6 : KR w6 b (stQuat b) F6 := hk6
 obtain rfl := KR.uniq ha1 hk6
 have hxx : x' = x := by rw [hx] at hx'; injection hx' with h; injection h with h; injection h with h; exact h.symm
 subst hxx
 have hc6 : Chg w5 w6 Fa := hW.chg
 have hxF6 : x' ∉ Fc := fun hm => hap x' hm (by rw [hxF']; simp)
 have hs6 : Sub Fc Fa w5 := hs6
 have huF6 : u' ∉ Fc := fun hm => by
  rcases hs6 u' hm with h | h
  · exact HUF5.out h
  · have := HU5.out.lt; omega
 have hFc : ∀ k ∈ Fc, w.heap.size + 1 ≤ k := fun k hk => by
  rcases hs6 k hk with h | h
  · exact HF5.out k h
  · have := HQ5.out.lt; omega
 have HC6 : Hid (Chg w w6 []) := hide (HC5.out.trans hc6 (fun k hk => .inr (by have := HF5.out k hk; omega)))
 have HQ6 := hide (HQ5.out.chg hc6 (fun hm => by have := HF5.out _ hm; omega))
 have HU6 := hide (HU5.out.chg hc6 HUF5.out)
 have HX6 := hide hxb
 have HXF := hide hxF6
 have HF6 := hide hFc
 have hup : u' < w6.heap.size := HU6.out.lt
 have hxp : x' < w6.heap.size := HX6.out.lt
 have han := answer_calls hk6 [14, 21, 28, 35] ⟨u', 0, none⟩ 4 (by decide) (fun j v hj => by
  rw [add_plain, Nat.zero_add]
  exact HU6.out.cell' (i := j) hj) (by have := Nat.le_of_ble_eq_true (roQuat b); simp; omega)
 clear hW hl6 hx2 hx3 hap ha1 hx' hxF' hc6 hxF6 hs6 huF6 hFc hxb hxF hk5
 rw [finG_puts, putsR_list, putsL_dst]
 simp only [List.map_cons, List.map_nil]
 rw [putsKqc]
 simp only [vKqc]
 rw [hx]
 clear hx
 go_wp2_with fail
 go_at_call 42
 refine han.mono ?_
 rintro e w7 ⟨rfl, hc7, F7, hs7, hk7⟩
 have hF7 : ∀ k ∈ F7, w.heap.size + 1 ≤ k := fun k hk => by
  rcases hs7 k hk with h | h
  · exact HF6.out k h
  · have := HQ6.out.lt; omega
 have HC7 : Hid (Chg w w7 []) := hide (HC6.out.trans hc7 (fun k hk => .inr (by have := HF6.out k hk; omega)))
 have HQ7 := hide (HQ6.out.chg hc7 (fun hm => by have := HF6.out _ hm; omega))
 have HX7 := hide (HX6.out.chg hc7 HXF.out)
 have HF7 := hide hF7
 have hx7 : x' < w7.heap.size := HX7.out.lt
 have han2 := answer_calls hk7 [68, 70, 72, 74] ⟨x', 0, none⟩ 4 (by decide) (fun j v hj => by
  rw [add_plain, Nat.zero_add]
  exact HX7.out.cell' (i := j) hj) (by have := Nat.le_of_ble_eq_true (roQuat b); show ([35, 28, 21, 14] ++ (stQuat b).ro).length + 4 ≤ 2048; simp; omega)
 clear han hc7 hs7 hk7 hF7
 go_wp2_with fail
 go_at_call 42
 refine han2.mono ?_
 rintro e w8 ⟨rfl, hc8, F8, hs8, hk8⟩
 have hF8 : ∀ k ∈ F8, w.heap.size + 1 ≤ k := fun k hk => by
  rcases hs8 k hk with h | h
  · exact HF7.out k h
  · have := HQ7.out.lt; omega
 have HC4 : Hid (Chg w w8 []) := hide (HC7.out.trans hc8 (fun k hk => .inr (by have := HF7.out k hk; omega)))
 have HQ5 := hide (HQ7.out.chg hc8 (fun hm => by have := HF7.out _ hm; omega))
 have HF5 := hide hF8
 have hk3 : KR w8 b (ansQuat b) F8 := hk8
 have hfi := mfinish_calls hk3 (okQuat b) (Nat.le_of_ble_eq_true (ruQuat b)) (finQuat b)
 rw [datQuat, secsQuat, insQuat, outzQuat] at hfi
 clear han2 hc8 hs8 hk8 hF8 hk3 hk6
 go_wp2_with fail
 go_at_call 43
 refine hfi.mono ?_
 rintro e w6 ⟨v, rfl, hc6, him⟩
 obtain ⟨vc, vd, vs, vi, vo, rfl, h1, h2, h3, h4, h5⟩ := id him
 obtain ⟨a1, c1, rfl, _⟩ := id h1
 obtain ⟨a2, c2, rfl, _⟩ := id h2
 obtain ⟨a3, c3, rfl, _⟩ := id h3
 obtain ⟨a4, c4, rfl, _⟩ := id h4
 obtain ⟨a5, c5, rfl, _⟩ := id h5
 have hq6n : w.heap.size ∉ F8 := fun hm => by have := HF5.out _ hm; omega
 have hb6 := HQ5.out.chg hc6 hq6n
 have v0 := hb6.cell' (i := 0) rfl
 have v1 := hb6.cell' (i := 1) rfl
 have v2 := hb6.cell' (i := 2) rfl
 have v3 := hb6.cell' (i := 3) rfl
 have v4 := hb6.cell' (i := 4) rfl
 have k0 := hb6.frozen 0
 have k1 := hb6.frozen 1
 have k2 := hb6.frozen 2
 have k3 := hb6.frozen 3
 have k4 := hb6.frozen 4
 have hbl := hb6.lt
 have HB6 := hide hb6
 have HIM := hide him
 have HC6 : Hid (Chg w w6 []) := hide (HC4.out.trans hc6 (fun k hk => .inr (by have := HF5.out k hk; omega)))
 clear hfi hc6 him h1 h2 h3 h4 h5 hq6n hb6
 go_wp2
 have hfb := ((((HB6.out.set_ 0 (.slice a1 (u32s ((wordsOf codeQuat 241).map fun w : Nat => (w : Int))).length c1)).set_ 1 (.slice a2 (i32s dataQuat).length c2)).set_ 2 (.slice a3 (bools secQuat).length c3)).set_ 3 (.slice a4 (ints [0, 1, 2, 3, 4, 5, 6, 7]).length c4)).set_ 4 (.slice a5 (ints outsQuat).length c5)
 have hcf : Chg w6 (((((w6.setCell ⟨w.heap.size, 0, none⟩ (.slice a1 (u32s ((wordsOf codeQuat 241).map fun w : Nat => (w : Int))).length c1)).setCell ⟨w.heap.size, 1, none⟩ (.slice a2 (i32s dataQuat).length c2)).setCell ⟨w.heap.size, 2, none⟩ (.slice a3 (bools secQuat).length c3)).setCell ⟨w.heap.size, 3, none⟩ (.slice a4 (ints [0, 1, 2, 3, 4, 5, 6, 7]).length c4)).setCell ⟨w.heap.size, 4, none⟩ (.slice a5 (ints outsQuat).length c5)) [w.heap.size] := ((((((Chg.refl w6 [w.heap.size]).setCell _ _ (.inl (List.mem_singleton.2 rfl))).setCell _ _ (.inl (List.mem_singleton.2 rfl))).setCell _ _ (.inl (List.mem_singleton.2 rfl))).setCell _ _ (.inl (List.mem_singleton.2 rfl))).setCell _ _ (.inl (List.mem_singleton.2 rfl)))
 refine bodyPost_ret (v := .agg #[.slice a1 (u32s ((wordsOf codeQuat 241).map fun w : Nat => (w : Int))).length c1, .slice a2 (i32s dataQuat).length c2, .slice a3 (bools secQuat).length c3, .slice a4 (ints [0, 1, 2, 3, 4, 5, 6, 7]).length c4, .slice a5 (ints outsQuat).length c5]) (results_cell_row rfl _ _ w.heap.size 30 _ (0, 0) _ rfl hfb Tryz.underlying30 rfl (by kernel_rfl)) rfl ⟨_, rfl, HC6.out.trans hcf (fun k hk => .inr (by simp at hk; omega)), HIM.out.far HB6.out hcf⟩
end Go.Proofs.YtakkofepcbkbkaaGreatDoor
