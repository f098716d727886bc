/- KturnRuns: the walk. -/
import Derived.Test.YtakkofepcbkbkaaGreatDoorKR17
import Derived.Test.YtakkofepcbkbkaaGreatDoorKR18
import Derived.Test.YtakkofepcbkbkaaGreatDoorKR20
namespace Go.Proofs.YtakkofepcbkbkaaGreatDoor
open Go Go.RowKit Go.Deep Go.Maps Go.Proofs.YtakkofepcbkbkaaGreatDoor.Ab Go.Proofs.YtakkofepcbkbkaaGreatDoor.Xi
set_option linter.unusedVariables false
attribute [local go_sem] Oper.semAt_some
def vKu (y x a s : Int) (g c : Nat) (B : Option Addr) (d : Nat) : Nat → Value
 | 0 => .bool true
 | 1 => .bool true
 | 2 => .slice (some ⟨g, 0, none⟩) 1 c
 | 3 => .int .i64 1
 | 4 => .bool true
 | 5 => .bool true
 | 6 => .bool true
 | 7 => .slice (some ⟨g, 0, none⟩) 1 c
 | 8 => .pointer (some ⟨g, 0, none⟩)
 | 9 => .int .i32 a
 | 10 => .int .i32 y
 | 11 => .int .i32 x
 | 12 => .int .i32 a
 | 13 => .bool true
 | 14 => .bool true
 | 15 => .bool true
 | 16 => .int .i32 a
 | 17 => .slice (some ⟨g, 0, none⟩) 1 c
 | 18 => .pointer (some ⟨g, 0, none⟩)
 | 19 => .int .i32 a
 | 20 => .bool true
 | 21 => .bool true
 | 22 => .bool true
 | 23 => .int .i64 s
 | 24 => .slice B 1921 d
 | 25 => .int .i64 s
 | 26 => .bool true
 | 27 => .bool true
 | 28 => .bool true
 | 29 => .bool true
 | 30 => .bool true
 | 31 => .bool true
 | _ => undef
theorem putsKu (v : Nat → Value) (t0 t1 t2 t3 t4 t5 t6 t7 t8 t9 t10 t11 t12 t13 t14 t15 t16 t17 t18 t19 t20 t21 t22 t23 t24 t25 t26 t27 t28 t29 t30 t31 t32 t33 t34 t35 t36 t37 t38 t39 t40 t41 t42 t43 t44 t45 t46 t47 t48 t49 t50 t51 t52 t53 t54 t55 : Value) : putsD v (some 25 :: some 26 :: some 27 :: some 28 :: some 29 :: some 30 :: some 31 :: some 32 :: some 33 :: some 34 :: some 35 :: some 36 :: some 37 :: some 38 :: some 39 :: some 40 :: some 41 :: some 42 :: some 43 :: some 44 :: some 45 :: some 46 :: some 47 :: some 48 :: some 49 :: some 50 :: some 51 :: some 52 :: some 53 :: some 54 :: some 55 :: some 4 :: []) 0 (t0 :: t1 :: t2 :: t3 :: t4 :: t5 :: t6 :: t7 :: t8 :: t9 :: t10 :: t11 :: t12 :: t13 :: t14 :: t15 :: t16 :: t17 :: t18 :: t19 :: t20 :: t21 :: t22 :: t23 :: t24 :: t25 :: t26 :: t27 :: t28 :: t29 :: t30 :: t31 :: t32 :: t33 :: t34 :: t35 :: t36 :: t37 :: t38 :: t39 :: t40 :: t41 :: t42 :: t43 :: t44 :: t45 :: t46 :: t47 :: t48 :: t49 :: t50 :: t51 :: t52 :: t53 :: t54 :: t55 :: []) = (t0 :: t1 :: t2 :: t3 :: v 31 :: t5 :: t6 :: t7 :: t8 :: t9 :: t10 :: t11 :: t12 :: t13 :: t14 :: t15 :: t16 :: t17 :: t18 :: t19 :: t20 :: t21 :: t22 :: t23 :: t24 :: v 0 :: v 1 :: v 2 :: v 3 :: v 4 :: v 5 :: v 6 :: v 7 :: v 8 :: v 9 :: v 10 :: v 11 :: v 12 :: v 13 :: v 14 :: v 15 :: v 16 :: v 17 :: v 18 :: v 19 :: v 20 :: v 21 :: v 22 :: v 23 :: v 24 :: v 25 :: v 26 :: v 27 :: v 28 :: v 29 :: v 30 :: []) := by kernel_rfl
set_option maxRecDepth 100000 in
theorem marks3T : ∀ k ∈ marksTurn, k.co ≤ 3 := fun k hk => of_decide_eq_true (List.all_eq_true.1 (show (marksTurn.all fun k => decide (k.co ≤ 3)) = true by kernel_rfl) k hk)
set_option maxRecDepth 100000 in
set_option maxHeartbeats 2000000 in
theorem kturnRuns_calls {w : World} (hg : Glo w) (y x : Wd) : Calls Tryz.prog 8 #[.int .i32 y.v, .int .i32 x.v] w fun e w' => e = .returned (.bool true) ∧ Chg w w' [] := by
 have hmix := hide (show Tryz.prog.follows .mixedOrders = true by kernel_rfl)
 have him := kturn_image w hg
 have HG0 := hide hg
 clear hg
 go_enter Tryz.func8, Tryz.ntmps8
 go_wp2_with fail
 go_at_call 28
 refine him.mono ?_
 rintro e w1 ⟨v, rfl, hc1, hi1⟩
 have hin : Sl (w1.alloc (.cells #[.int .i32 y.v, .int .i32 x.v] 21)) (.slice (some ⟨w1.heap.size, 0, none⟩) 2 2) (i32s [y.v, x.v]) := Sl.blk' (Blk.new w1 21 [.int .i32 y.v, .int .i32 x.v]) rfl (Nat.le_refl _)
 have hrn := lrun_calls ((HG0.out.chg hc1 (by simp)).chg ((Chg.refl w1 []).alloc (.cells #[.int .i32 y.v, .int .i32 x.v] 21)) (by simp)) (hi1.keep ((Chg.refl w1 []).alloc _)) hin (wayTurn y x)
 have HC1 := hide hc1
 obtain ⟨vc, vd, vs, vi, vo, rfl, _⟩ := id hi1
 clear him hc1 hi1 hin
 go_wp2_with fail
 go_at_call 11
 refine hrn.mono ?_
 rintro e w2 ⟨u, m, rfl, hc2, hu, hm⟩
 have hC2 := (HC1.out.alloc _).trans hc2 (by simp)
 have HC2 := hide hC2
 have HM := hide hm
 obtain ⟨A, c, rfl, hx⟩ := row_open hu
 obtain ⟨g, rfl, hgl, hgb, hcells⟩ := hx (by decide)
 obtain ⟨B, d, rfl, hx'⟩ := row_open hm
 have y0 := hcells 0 _ rfl
 have Y0' := hide y0
 have hg2 : Glo w2 := HG0.out.chg hC2 (by simp)
 have hd := kturn_do hg2 y x
 rw [lenTurn, show outsTurn.length = 1 from rfl]
 clear hrn hc2 hu hx hcells hm hx' hC2 y0 hg2
 go_wp2_with fail
 go_at_call 29
 refine hd.mono ?_
 rintro e w3 ⟨rfl, hc3⟩
 have HG := hide (show Glo w3 from HG0.out.chg (HC2.out.trans hc3 (by simp)) (by simp))
 have HC3 := hide (HC2.out.trans hc3 (by simp))
 have Y0 := hide (hc3.cell Y0'.out (by simp))
 have HM3 := hide (own_chgD HM.out hc3 (by simp))
 have HCO := hide (show ∀ w1, Chg w3 w1 [] → Calls Tryz.prog 15 #[.slice B 1921 d] w1 fun e w' => e = .returned (.int .i64 (sumC marksTurn)) ∧ Chg w1 w' [] from fun w1 hW => by
  have := refcost_calls (own_chgD HM3.out hW (by simp)) marks3T (by rw [lenTurn]; decide) (by rw [lenTurn]; decide)
  rwa [lenTurn] at this)
 clear hc3 hd
 go_upto_region 3 with (fail)
 refine wp_regionJ hmix.out _ _ (fun _ => vKu y.v x.v (angleW y x).v (sumC marksTurn) g c B d) (fun (_ : Unit) L w' => Chg w3 w' []) () (by kernel_rfl) [(1, true), (6, true), (15, true), (22, true), (28, true)] (by kernel_rfl) (fun p hp γ => by simp at hp; rcases hp with rfl | rfl | rfl | rfl | rfl <;> rfl) (by kernel_rfl) ?step ?start ?fin ?ext
 case start => exact (Chg.refl w3 []).drew
 case ext => exact fun γ L L' w' h hw => hw
 case step =>
  intro i o ho L av w1 γ hdn htm hW hL hpre K Q hK
  match i, ho with
  | 0, ho =>
   injection ho with ho; subst ho
   have b7 : av.tmps.getD 7 undef = .bool true := slB htm 7 (by kernel_rfl)
   clear htm
   refine val_now ?_ (hK () w1 (fun _ _ => rfl) hW); go_simp; rfl
  | 1, ho =>
   injection ho with ho; subst ho
   have s0 := slA htm 25 0 (by kernel_rfl) (hpre ⟨0, .data⟩ (by simp) rfl)
   simp only [vKu] at s0
   clear htm
   refine val_now ?_ (hK () w1 (fun _ _ => rfl) hW); go_simp; rfl
  | 2, ho =>
   injection ho with ho; subst ho
   have b5 : av.tmps.getD 5 undef = .slice (some ⟨g, 0, none⟩) 1 c := slB htm 5 (by kernel_rfl)
   clear htm
   refine val_now ?_ (hK () w1 (fun _ _ => rfl) hW); go_simp; rfl
  | 3, ho =>
   injection ho with ho; subst ho
   have s2 := slA htm 27 2 (by kernel_rfl) (hpre ⟨2, .data⟩ (by simp) rfl)
   simp only [vKu] at s2
   clear htm
   refine val_now ?_ (hK () w1 (fun _ _ => rfl) hW); go_simp; rfl
  | 4, ho =>
   injection ho with ho; subst ho
   have s3 := slA htm 28 3 (by kernel_rfl) (hpre ⟨3, .data⟩ (by simp) rfl)
   simp only [vKu] at s3
   clear htm
   refine val_now ?_ (hK () w1 (fun _ _ => rfl) hW); go_simp; rfl
  | 5, ho =>
   injection ho with ho; subst ho
   have s1 := slA htm 26 1 (by kernel_rfl) (hpre ⟨1, .data⟩ (by simp) rfl)
   have s4 := slA htm 29 4 (by kernel_rfl) (hpre ⟨4, .data⟩ (by simp) rfl)
   simp only [vKu] at s1 s4
   clear htm
   refine val_now ?_ (hK () w1 (fun _ _ => rfl) hW); go_simp; rfl
  | 6, ho =>
   injection ho with ho; subst ho
   have s5 := slA htm 30 5 (by kernel_rfl) (hpre ⟨5, .data⟩ (by simp) rfl)
   simp only [vKu] at s5
   clear htm
   refine val_now ?_ (hK () w1 (fun _ _ => rfl) hW); go_simp; rfl
  | 7, ho =>
   injection ho with ho; subst ho
   have b5 : av.tmps.getD 5 undef = .slice (some ⟨g, 0, none⟩) 1 c := slB htm 5 (by kernel_rfl)
   clear htm
   refine val_now ?_ (hK () w1 (fun _ _ => rfl) hW); go_simp; rfl
  | 8, ho =>
   injection ho with ho; subst ho
   have s7 := slA htm 32 7 (by kernel_rfl) (hpre ⟨7, .data⟩ (by simp) rfl)
   simp only [vKu] at s7
   clear htm
   refine val_now ?_ (hK () w1 (fun _ _ => rfl) hW); go_simp; rfl
  | 9, ho =>
   injection ho with ho; subst ho
   have s8 := slA htm 33 8 (by kernel_rfl) (hpre ⟨8, .data⟩ (by simp) rfl)
   simp only [vKu] at s8
   clear htm
   have q0 := Chg.cell (show Chg w3 w1 [] from hW) Y0.out (by simp)
   refine val_now ?_ (hK () w1 (fun _ _ => rfl) hW); go_simp; rfl
  | 10, ho =>
   injection ho with ho; subst ho
   have b0 : av.tmps.getD 0 undef = .int .i32 y.v := slB htm 0 (by kernel_rfl)
   clear htm
   refine val_now ?_ (hK () w1 (fun _ _ => rfl) hW); go_simp; rfl
  | 11, ho =>
   injection ho with ho; subst ho
   have b1 : av.tmps.getD 1 undef = .int .i32 x.v := slB htm 1 (by kernel_rfl)
   clear htm
   refine val_now ?_ (hK () w1 (fun _ _ => rfl) hW); go_simp; rfl
  | 12, ho =>
   injection ho with ho; subst ho
   have s10 := slA htm 35 10 (by kernel_rfl) (hpre ⟨10, .data⟩ (by simp) rfl)
   have s11 := slA htm 36 11 (by kernel_rfl) (hpre ⟨11, .data⟩ (by simp) rfl)
   simp only [vKu] at s10 s11
   clear htm
   refine call_now (f := 30) (args := #[.int .i32 y.v, .int .i32 x.v]) ?_ (Xi.refAngle y x w1) ?_
   · go_simp
   · rintro e w' ⟨rfl, hc⟩
     exact ⟨_, rfl, hK () w' (fun _ _ => rfl) (Chg.trans (show Chg w3 w1 [] from hW) hc (by simp))⟩
  | 13, ho =>
   injection ho with ho; subst ho
   have s9 := slA htm 34 9 (by kernel_rfl) (hpre ⟨9, .data⟩ (by simp) rfl)
   have s12 := slA htm 37 12 (by kernel_rfl) (hpre ⟨12, .data⟩ (by simp) rfl)
   simp only [vKu] at s9 s12
   clear htm
   refine val_now ?_ (hK () w1 (fun _ _ => rfl) hW); go_simp; rfl
  | 14, ho =>
   injection ho with ho; subst ho
   have s6 := slA htm 31 6 (by kernel_rfl) (hpre ⟨6, .data⟩ (by simp) rfl)
   have s13 := slA htm 38 13 (by kernel_rfl) (hpre ⟨13, .data⟩ (by simp) rfl)
   simp only [vKu] at s6 s13
   clear htm
   refine val_now ?_ (hK () w1 (fun _ _ => rfl) hW); go_simp; rfl
  | 15, ho =>
   injection ho with ho; subst ho
   have s14 := slA htm 39 14 (by kernel_rfl) (hpre ⟨14, .data⟩ (by simp) rfl)
   simp only [vKu] at s14
   clear htm
   refine val_now ?_ (hK () w1 (fun _ _ => rfl) hW); go_simp; rfl
  | 16, ho =>
   injection ho with ho; subst ho
   have b8 : av.tmps.getD 8 undef = .int .i32 (angleW y x).v := slB htm 8 (by kernel_rfl)
   clear htm
   refine val_now ?_ (hK () w1 (fun _ _ => rfl) hW); go_simp; rfl
  | 17, ho =>
   injection ho with ho; subst ho
   have b5 : av.tmps.getD 5 undef = .slice (some ⟨g, 0, none⟩) 1 c := slB htm 5 (by kernel_rfl)
   clear htm
   refine val_now ?_ (hK () w1 (fun _ _ => rfl) hW); go_simp; rfl
  | 18, ho =>
   injection ho with ho; subst ho
   have s17 := slA htm 42 17 (by kernel_rfl) (hpre ⟨17, .data⟩ (by simp) rfl)
   simp only [vKu] at s17
   clear htm
   refine val_now ?_ (hK () w1 (fun _ _ => rfl) hW); go_simp; rfl
  | 19, ho =>
   injection ho with ho; subst ho
   have s18 := slA htm 43 18 (by kernel_rfl) (hpre ⟨18, .data⟩ (by simp) rfl)
   simp only [vKu] at s18
   clear htm
   have q0 := Chg.cell (show Chg w3 w1 [] from hW) Y0.out (by simp)
   refine val_now ?_ (hK () w1 (fun _ _ => rfl) hW); go_simp; rfl
  | 20, ho =>
   injection ho with ho; subst ho
   have s16 := slA htm 41 16 (by kernel_rfl) (hpre ⟨16, .data⟩ (by simp) rfl)
   have s19 := slA htm 44 19 (by kernel_rfl) (hpre ⟨19, .data⟩ (by simp) rfl)
   simp only [vKu] at s16 s19
   clear htm
   refine val_now ?_ (hK () w1 (fun _ _ => rfl) hW); go_simp; rfl
  | 21, ho =>
   injection ho with ho; subst ho
   have s15 := slA htm 40 15 (by kernel_rfl) (hpre ⟨15, .data⟩ (by simp) rfl)
   have s20 := slA htm 45 20 (by kernel_rfl) (hpre ⟨20, .data⟩ (by simp) rfl)
   simp only [vKu] at s15 s20
   clear htm
   refine val_now ?_ (hK () w1 (fun _ _ => rfl) hW); go_simp; rfl
  | 22, ho =>
   injection ho with ho; subst ho
   have s21 := slA htm 46 21 (by kernel_rfl) (hpre ⟨21, .data⟩ (by simp) rfl)
   simp only [vKu] at s21
   clear htm
   refine val_now ?_ (hK () w1 (fun _ _ => rfl) hW); go_simp; rfl
  | 23, ho =>
   injection ho with ho; subst ho
   have b9 : av.tmps.getD 9 undef = .int .i64 (sumC marksTurn) := slB htm 9 (by kernel_rfl)
   clear htm
   refine val_now ?_ (hK () w1 (fun _ _ => rfl) hW); go_simp; rfl
  | 24, ho =>
   injection ho with ho; subst ho
   have b6 : av.tmps.getD 6 undef = .slice B 1921 d := slB htm 6 (by kernel_rfl)
   clear htm
   refine val_now ?_ (hK () w1 (fun _ _ => rfl) hW); go_simp; rfl
  | 25, ho =>
   injection ho with ho; subst ho
   have s24 := slA htm 49 24 (by kernel_rfl) (hpre ⟨24, .data⟩ (by simp) rfl)
   simp only [vKu] at s24
   clear htm
   refine call_now (f := 15) (args := #[.slice B 1921 d]) ?_ (HCO.out w1 hW) ?_
   · go_simp
   · rintro e w' ⟨rfl, hc⟩
     exact ⟨_, rfl, hK () w' (fun _ _ => rfl) (Chg.trans (show Chg w3 w1 [] from hW) hc (by simp))⟩
  | 26, ho =>
   injection ho with ho; subst ho
   have s23 := slA htm 48 23 (by kernel_rfl) (hpre ⟨23, .data⟩ (by simp) rfl)
   have s25 := slA htm 50 25 (by kernel_rfl) (hpre ⟨25, .data⟩ (by simp) rfl)
   simp only [vKu] at s23 s25
   clear htm
   refine val_now ?_ (hK () w1 (fun _ _ => rfl) hW); go_simp; rfl
  | 27, ho =>
   injection ho with ho; subst ho
   have s22 := slA htm 47 22 (by kernel_rfl) (hpre ⟨22, .data⟩ (by simp) rfl)
   have s26 := slA htm 51 26 (by kernel_rfl) (hpre ⟨26, .data⟩ (by simp) rfl)
   simp only [vKu] at s22 s26
   clear htm
   refine val_now ?_ (hK () w1 (fun _ _ => rfl) hW); go_simp; rfl
  | 28, ho =>
   injection ho with ho; subst ho
   have s27 := slA htm 52 27 (by kernel_rfl) (hpre ⟨27, .data⟩ (by simp) rfl)
   simp only [vKu] at s27
   clear htm
   refine val_now ?_ (hK () w1 (fun _ _ => rfl) hW); go_simp; rfl
  | 29, ho =>
   injection ho with ho; subst ho
   clear htm
   refine call_now (f := 31) (args := #[]) ?_ (awake28_calls (HG.out.chg (show Chg w3 w1 [] from hW) (by simp))) ?_
   · go_simp
   · rintro e w' ⟨rfl, hc⟩
     exact ⟨_, rfl, hK () w' (fun _ _ => rfl) (Chg.trans (show Chg w3 w1 [] from hW) hc (by simp))⟩
  | 30, ho =>
   injection ho with ho; subst ho
   have s28 := slA htm 53 28 (by kernel_rfl) (hpre ⟨28, .data⟩ (by simp) rfl)
   have s29 := slA htm 54 29 (by kernel_rfl) (hpre ⟨29, .data⟩ (by simp) rfl)
   simp only [vKu] at s28 s29
   clear htm
   refine val_now ?_ (hK () w1 (fun _ _ => rfl) hW); go_simp; rfl
  | 31, ho =>
   injection ho with ho; subst ho
   have s30 := slA htm 55 30 (by kernel_rfl) (hpre ⟨30, .data⟩ (by simp) rfl)
   simp only [vKu] at s30
   clear htm
   refine val_now ?_ (hK () w1 (fun _ _ => rfl) hW); go_simp; rfl
  | _ + 32, ho => cases ho
 case fin =>
 intro γ w4 hW
 rw [finG_puts, putsR_list, putsL_dst]
 simp only [List.map_cons, List.map_nil]
 rw [putsKu]
 simp only [vKu]
 go_wp2
 go_ret
 exact ⟨rfl, HC3.out.trans hW (by simp)⟩
end Go.Proofs.YtakkofepcbkbkaaGreatDoor
