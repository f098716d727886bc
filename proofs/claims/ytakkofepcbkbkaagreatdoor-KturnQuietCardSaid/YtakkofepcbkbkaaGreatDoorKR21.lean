/- Texts of this claim, side by side: RefSame, KrootB, KturnB. -/
import Derived.Test.YtakkofepcbkbkaaGreatDoorKR17
import Derived.Sort.QuietTacIn
import Derived.Test.YtakkofepcbkbkaaGreatDoorKR18
import Derived.Test.YtakkofepcbkbkaaGreatDoorKturnA
/- The reference's Same of two lists of the same leaks. -/
namespace Go.Proofs.YtakkofepcbkbkaaGreatDoor
open Go Go.RowKit Go.Deep Go.Maps Go.Proofs.YtakkofepcbkbkaaGreatDoor.Ab
set_option linter.unusedVariables false
attribute [local go_sem] Oper.semAt_some
theorem eqMark (x0 x1 x2 y0 y1 y2 : Int) (w : World) : (Op.equalIn 10000 83 (.agg #[.int .i64 x0, .int .i64 x1, .int .i64 x2]) (.agg #[.int .i64 y0, .int .i64 y1, .int .i64 y2])).run Tryz.prog w = .ok (x0 == y0 && x1 == y1 && x2 == y2) w := by
 have u3 := Tryz.underlying3
 have k3 := Tryz.isAgg3
 have z3 := Tryz.sizeOf3
 rw [show (10000 : Nat) = 9999 + 1 from rfl, Op.equalIn]
 simp only [Sem.run_bind, run_underlying Tryz.underlying83, Result.andThen_ok]
 go_simp
 by_cases h0 : x0 = y0 <;> by_cases h1 : x1 = y1 <;> by_cases h2 : x2 = y2 <;> simp [h0, h1, h2]
section
variable {w : World} {b b' : Nat} {v v' : Value} {ks : List Mk}
set_option maxRecDepth 100000 in
set_option maxHeartbeats 2000000 in
theorem refsame_calls (h : w.ownsRow b 83 3 v ks.length (markCells (ks.map mkI))) (h' : w.ownsRow b' 83 3 v' ks.length (markCells (ks.map mkI))) (h0 : 0 < ks.length) (hl : ks.length ≤ 1048576) :
 Calls Tryz.prog 17 #[v, v'] w fun e w' => e = .returned (.bool true) ∧ Chg w w' [] := by
 obtain ⟨A, c, rfl, hx⟩ := row_open h
 obtain ⟨g, rfl, hgl, hgb, hcells⟩ := hx h0
 obtain ⟨A', c', rfl, hx'⟩ := row_open h'
 obtain ⟨g', rfl, hgl', hgb', hcells'⟩ := hx' h0
 have HX := hide hcells
 have HX' := hide hcells'
 clear h hx hcells h' hx' hcells'
 go_enter Tryz.func17, Tryz.ntmps17
 go_wp2_with fail
 go_loopw [5] (fun i wr => ∃ j : Nat, j ≤ ks.length ∧ i = .int .i64 j ∧ Hid (Chg w wr [])) (fun i _ => ks.length - (intOf i).toNat)
 case atStart => exact ⟨0, Nat.zero_le _, rfl, hide (Chg.refl w [])⟩
 case round =>
  obtain ⟨j, hj, rfl, HC⟩ := hrel
  by_cases hlt : j < ks.length
  · obtain ⟨k, hk⟩ : ∃ k, ks[j]? = some k := ⟨ks[j], by simp [hlt]⟩
    have hm := markCells_at (ks.map mkI) j (mkI k) (by simp [hk])
    have c0 : wr.cell? ⟨g, j * 3, none⟩ = some (.int .i64 (k.pc : Int)) := HC.out.cell (HX.out _ _ hm.1) (by simp)
    have c1 : wr.cell? ⟨g, j * 3 + 1, none⟩ = some (.int .i64 ((k.ad : Int) - 1)) := HC.out.cell (HX.out _ _ hm.2.1) (by simp)
    have c2 : wr.cell? ⟨g, j * 3 + 2, none⟩ = some (.int .i64 (k.co : Int)) := HC.out.cell (HX.out _ _ hm.2.2) (by simp)
    have d0 : wr.cell? ⟨g', j * 3, none⟩ = some (.int .i64 (k.pc : Int)) := HC.out.cell (HX'.out _ _ hm.1) (by simp)
    have d1 : wr.cell? ⟨g', j * 3 + 1, none⟩ = some (.int .i64 ((k.ad : Int) - 1)) := HC.out.cell (HX'.out _ _ hm.2.1) (by simp)
    have d2 : wr.cell? ⟨g', j * 3 + 2, none⟩ = some (.int .i64 (k.co : Int)) := HC.out.cell (HX'.out _ _ hm.2.2) (by simp)
    clear hm hk
    have qM := fun (x0 x1 x2 y0 y1 y2 : Int) (w : World) => eqMark x0 x1 x2 y0 y1 y2 w
    go_wp2_with fail
    go_quiet (fail)
    go_wp2
    go_roundw
    case rel => exact ⟨j + 1, by omega, by go_num, hide (HC.out.drewN _)⟩
    case measure => simp [intOf]; omega
  · have hjl : j = ks.length := by omega
    subst hjl
    go_wp2
    go_ret
    exact ⟨rfl, HC.out⟩
end
end Go.Proofs.YtakkofepcbkbkaaGreatDoor

/- KrootQuiet: the walk. -/
namespace Go.Proofs.YtakkofepcbkbkaaGreatDoor
open Go Go.RowKit Go.Deep Go.Maps Go.Proofs.YtakkofepcbkbkaaGreatDoor.Ab
set_option linter.unusedVariables false
attribute [local go_sem] Oper.semAt_some
set_option maxRecDepth 100000 in
set_option maxHeartbeats 2000000 in
theorem krootQuiet_calls {w : World} (hg : Glo w) (x y : Wd) : Calls Tryz.prog 4 #[.int .i32 x.v, .int .i32 y.v] w fun e w' => e = .returned (.bool true) ∧ Chg w w' [] := by
 have him := kroot_image w hg
 have HG := hide hg
 clear hg
 go_enter Tryz.func4, Tryz.ntmps4
 go_wp2_with fail
 go_at_call 12
 refine him.mono ?_
 rintro e w1 ⟨v, rfl, hc1, hi1⟩
 obtain ⟨vc, vd, vs, vi, vo, rfl, g1, g2, g3, g4, g5⟩ := id hi1
 obtain ⟨Ac, cc, rfl, _⟩ := id g1
 obtain ⟨Ad, cd, rfl, _⟩ := id g2
 obtain ⟨As, cs, rfl, _⟩ := id g3
 obtain ⟨Ai, ci, rfl, _⟩ := id g4
 obtain ⟨Ao, co, rfl, _⟩ := id g5
 clear g1 g2 g3 g4 g5
 generalize (u32s ((wordsOf codeRoot 69).map fun n : Nat => (n : Int))).length = n1 at *
 generalize (i32s dataRoot).length = n2 at *
 generalize (bools secRoot).length = n3 at *
 generalize (ints [0]).length = n4 at *
 generalize (ints outsRoot).length = n5 at *
 have HC1 := hide hc1
 have HI := hide hi1
 have hz1 : (w1.alloc (.cells #[.slice Ac n1 cc, .slice Ad n2 cd, .slice As n3 cs, .slice Ai n4 ci, .slice Ao n5 co] 30)).heap.size = w1.heap.size + 1 := size_alloc _ _
 have hbk := Blk.new w1 30 [.slice Ac n1 cc, .slice Ad n2 cd, .slice As n3 cs, .slice Ai n4 ci, .slice Ao n5 co]
 have ha : Chg w1 (w1.alloc (.cells #[.slice Ac n1 cc, .slice Ad n2 cd, .slice As n3 cs, .slice Ai n4 ci, .slice Ao n5 co] 30)) [] := (Chg.refl w1 []).alloc _
 have HB := hide hbk
 have hin : Sl ((w1.alloc (.cells #[.slice Ac n1 cc, .slice Ad n2 cd, .slice As n3 cs, .slice Ai n4 ci, .slice Ao n5 co] 30)).alloc (.cells #[.int .i32 x.v] 21)) (.slice (some ⟨w1.heap.size + 1, 0, none⟩) 1 1) (i32s [x.v]) := by
  have := Sl.blk' (n := 1) (c := 1) (Blk.new (w1.alloc (.cells #[.slice Ac n1 cc, .slice Ad n2 cd, .slice As n3 cs, .slice Ai n4 ci, .slice Ao n5 co] 30)) 21 [.int .i32 x.v]) rfl (Nat.le_refl _)
  rw [hz1] at this
  exact this
 have hrn := lrun_calls ((HG.out.chg hc1 (by simp)).chg (ha.alloc (.cells #[.int .i32 x.v] 21)) (by simp)) (hi1.keep (ha.alloc _)) hin (wayRoot x)
 have HA := hide ha
 clear him hc1 hi1 hbk hin ha
 go_wp2_with fail
 go_at_call 11
 refine hrn.mono ?_
 rintro e w2 ⟨u, m, rfl, hc2, hu, hm⟩
 have HB2 := hide ((HB.out.alloc _).chg hc2 (by simp))
 have HI2 := hide ((HI.out.keep (HA.out.alloc _)).keep hc2)
 have hC2 : Chg w w2 [] := HC1.out.trans ((HA.out.alloc _).trans hc2 (by simp)) (by simp)
 have HC2 := hide hC2
 have HM := hide hm
 obtain ⟨A, c, rfl, hx⟩ := row_open hu
 obtain ⟨A', c', rfl, hx'⟩ := row_open hm
 have q0 := HB2.out.cell' (i := 0) rfl
 have q1 := HB2.out.cell' (i := 1) rfl
 have q2 := HB2.out.cell' (i := 2) rfl
 have q3 := HB2.out.cell' (i := 3) rfl
 have q4 := HB2.out.cell' (i := 4) rfl
 have hin : Sl (w2.alloc (.cells #[.int .i32 y.v] 21)) (.slice (some ⟨w2.heap.size, 0, none⟩) 1 1) (i32s [y.v]) := Sl.blk' (Blk.new w2 21 [.int .i32 y.v]) rfl (Nat.le_refl _)
 have hrm := lrun_calls ((HG.out.chg hC2 (by simp)).chg ((Chg.refl w2 []).alloc (.cells #[.int .i32 y.v] 21)) (by simp)) (HI2.out.keep ((Chg.refl w2 []).alloc _)) hin (wayRoot y)
 rw [lenRoot, show outsRoot.length = 2 from rfl]
 clear hrn hc2 hu hx hm hx' hC2 hin hz1
 go_wp2_with fail
 go_at_call 11
 refine hrm.mono ?_
 rintro e w3 ⟨u', m', rfl, hc3, hu', hm'⟩
 have hC3 : Chg w2 w3 [] := ((Chg.refl w2 []).alloc _).trans hc3 (by simp)
 have HM1 := hide (own_chgD HM.out hC3 (by simp))
 have HM2 := hide hm'
 have HC3 := hide (HC2.out.trans hC3 (by simp))
 obtain ⟨B, d, rfl, hx⟩ := row_open hu'
 obtain ⟨B', d', rfl, hx'⟩ := row_open hm'
 have hd := kroot_do (HG.out.chg HC3.out (by simp)) x
 rw [lenRoot, show outsRoot.length = 2 from rfl]
 clear hrm hc3 hu' hx hm' hx' hC3 q0 q1 q2 q3 q4
 go_wp2_with fail
 go_at_call 14
 refine hd.mono ?_
 rintro e w4 ⟨rfl, hc4⟩
 have HC4 := hide (HC3.out.trans hc4 (by simp))
 have HN1 := hide (own_chgD HM1.out hc4 (by simp))
 have HN2 := hide (own_chgD HM2.out hc4 (by simp))
 have hd2 := kroot_do (HG.out.chg HC4.out (by simp)) y
 clear hd hc4
 go_wp2_with fail
 go_at_call 14
 refine hd2.mono ?_
 rintro e w5 ⟨rfl, hc5⟩
 have HC5 := hide (HC4.out.trans hc5 (by simp))
 have hsm := refsame_calls (own_chgD HN1.out hc5 (by simp)) (own_chgD HN2.out hc5 (by simp)) (by rw [lenRoot]; decide) (by rw [lenRoot]; decide)
 rw [lenRoot] at hsm
 clear hd2 hc5
 go_wp2_with fail
 refine hsm.mono ?_
 rintro e w6 ⟨rfl, hc6⟩
 have HC6 := hide (HC5.out.trans hc6 (by simp))
 have haw := awake27_calls (HG.out.chg HC6.out (by simp))
 clear hsm hc6
 go_wp2_with fail
 refine haw.mono ?_
 rintro e w7 ⟨rfl, hc7⟩
 have HC7 := hide (HC6.out.trans hc7 (by simp))
 clear haw hc7
 go_wp2
 go_ret
 exact ⟨rfl, HC7.out⟩
end Go.Proofs.YtakkofepcbkbkaaGreatDoor

/- KturnQuiet: the walk. -/
namespace Go.Proofs.YtakkofepcbkbkaaGreatDoor
open Go Go.RowKit Go.Deep Go.Maps Go.Proofs.YtakkofepcbkbkaaGreatDoor.Ab
set_option linter.unusedVariables false
attribute [local go_sem] Oper.semAt_some
set_option maxRecDepth 100000 in
set_option maxHeartbeats 2000000 in
theorem kturnQuiet_calls {w : World} (hg : Glo w) (y x u0 v0 : Wd) : Calls Tryz.prog 9 #[.int .i32 y.v, .int .i32 x.v, .int .i32 u0.v, .int .i32 v0.v] w fun e w' => e = .returned (.bool true) ∧ Chg w w' [] := by
 have him := kturn_image w hg
 have HG := hide hg
 clear hg
 go_enter Tryz.func9, Tryz.ntmps9
 go_wp2_with fail
 go_at_call 28
 refine him.mono ?_
 rintro e w1 ⟨v, rfl, hc1, hi1⟩
 obtain ⟨vc, vd, vs, vi, vo, rfl, g1, g2, g3, g4, g5⟩ := id hi1
 obtain ⟨Ac, cc, rfl, _⟩ := id g1
 obtain ⟨Ad, cd, rfl, _⟩ := id g2
 obtain ⟨As, cs, rfl, _⟩ := id g3
 obtain ⟨Ai, ci, rfl, _⟩ := id g4
 obtain ⟨Ao, co, rfl, _⟩ := id g5
 clear g1 g2 g3 g4 g5
 generalize (u32s ((wordsOf codeTurn 166).map fun n : Nat => (n : Int))).length = n1 at *
 generalize (i32s dataTurn).length = n2 at *
 generalize (bools secTurn).length = n3 at *
 generalize (ints [0, 1]).length = n4 at *
 generalize (ints outsTurn).length = n5 at *
 have HC1 := hide hc1
 have HI := hide hi1
 have hz1 : (w1.alloc (.cells #[.slice Ac n1 cc, .slice Ad n2 cd, .slice As n3 cs, .slice Ai n4 ci, .slice Ao n5 co] 30)).heap.size = w1.heap.size + 1 := size_alloc _ _
 have hbk := Blk.new w1 30 [.slice Ac n1 cc, .slice Ad n2 cd, .slice As n3 cs, .slice Ai n4 ci, .slice Ao n5 co]
 have ha : Chg w1 (w1.alloc (.cells #[.slice Ac n1 cc, .slice Ad n2 cd, .slice As n3 cs, .slice Ai n4 ci, .slice Ao n5 co] 30)) [] := (Chg.refl w1 []).alloc _
 have HB := hide hbk
 have hin : Sl ((w1.alloc (.cells #[.slice Ac n1 cc, .slice Ad n2 cd, .slice As n3 cs, .slice Ai n4 ci, .slice Ao n5 co] 30)).alloc (.cells #[.int .i32 y.v, .int .i32 x.v] 21)) (.slice (some ⟨w1.heap.size + 1, 0, none⟩) 2 2) (i32s [y.v, x.v]) := by
  have := Sl.blk' (n := 2) (c := 2) (Blk.new (w1.alloc (.cells #[.slice Ac n1 cc, .slice Ad n2 cd, .slice As n3 cs, .slice Ai n4 ci, .slice Ao n5 co] 30)) 21 [.int .i32 y.v, .int .i32 x.v]) rfl (Nat.le_refl _)
  rw [hz1] at this
  exact this
 have hrn := lrun_calls ((HG.out.chg hc1 (by simp)).chg (ha.alloc (.cells #[.int .i32 y.v, .int .i32 x.v] 21)) (by simp)) (hi1.keep (ha.alloc _)) hin (wayTurn y x)
 have HA := hide ha
 clear him hc1 hi1 hbk hin ha
 go_wp2_with fail
 go_at_call 11
 refine hrn.mono ?_
 rintro e w2 ⟨u, m, rfl, hc2, hu, hm⟩
 have HB2 := hide ((HB.out.alloc _).chg hc2 (by simp))
 have HI2 := hide ((HI.out.keep (HA.out.alloc _)).keep hc2)
 have hC2 : Chg w w2 [] := HC1.out.trans ((HA.out.alloc _).trans hc2 (by simp)) (by simp)
 have HC2 := hide hC2
 have HM := hide hm
 obtain ⟨A, c, rfl, hx⟩ := row_open hu
 obtain ⟨A', c', rfl, hx'⟩ := row_open hm
 have q0 := HB2.out.cell' (i := 0) rfl
 have q1 := HB2.out.cell' (i := 1) rfl
 have q2 := HB2.out.cell' (i := 2) rfl
 have q3 := HB2.out.cell' (i := 3) rfl
 have q4 := HB2.out.cell' (i := 4) rfl
 have hin : Sl (w2.alloc (.cells #[.int .i32 u0.v, .int .i32 v0.v] 21)) (.slice (some ⟨w2.heap.size, 0, none⟩) 2 2) (i32s [u0.v, v0.v]) := Sl.blk' (Blk.new w2 21 [.int .i32 u0.v, .int .i32 v0.v]) rfl (Nat.le_refl _)
 have hrm := lrun_calls ((HG.out.chg hC2 (by simp)).chg ((Chg.refl w2 []).alloc (.cells #[.int .i32 u0.v, .int .i32 v0.v] 21)) (by simp)) (HI2.out.keep ((Chg.refl w2 []).alloc _)) hin (wayTurn u0 v0)
 rw [lenTurn, show outsTurn.length = 1 from rfl]
 clear hrn hc2 hu hx hm hx' hC2 hin hz1
 go_wp2_with fail
 go_at_call 11
 refine hrm.mono ?_
 rintro e w3 ⟨u', m', rfl, hc3, hu', hm'⟩
 have hC3 : Chg w2 w3 [] := ((Chg.refl w2 []).alloc _).trans hc3 (by simp)
 have HM1 := hide (own_chgD HM.out hC3 (by simp))
 have HM2 := hide hm'
 have HC3 := hide (HC2.out.trans hC3 (by simp))
 obtain ⟨B, d, rfl, hx⟩ := row_open hu'
 obtain ⟨B', d', rfl, hx'⟩ := row_open hm'
 rw [lenTurn, show outsTurn.length = 1 from rfl]
 clear hrm hc3 hu' hx hm' hx' hC3 q0 q1 q2 q3 q4
 have hsm := refsame_calls HM1.out HM2.out (by rw [lenTurn]; decide) (by rw [lenTurn]; decide)
 rw [lenTurn] at hsm
 go_wp2_with fail
 refine hsm.mono ?_
 rintro e w6 ⟨rfl, hc6⟩
 have HC6 := hide (HC3.out.trans hc6 (by simp))
 have haw := awake28_calls (HG.out.chg HC6.out (by simp))
 clear hsm hc6
 go_wp2_with fail
 refine haw.mono ?_
 rintro e w7 ⟨rfl, hc7⟩
 have HC7 := hide (HC6.out.trans hc7 (by simp))
 clear haw hc7
 go_wp2
 go_ret
 exact ⟨rfl, HC7.out⟩
end Go.Proofs.YtakkofepcbkbkaaGreatDoor
