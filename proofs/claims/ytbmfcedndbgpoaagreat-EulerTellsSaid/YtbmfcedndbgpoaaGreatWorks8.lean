/- Root as others use it, Sqrt, Pointing, Even of package works at numbers. -/
import Derived.Test.YtbmfcedndbgpoaaGreatWorks7
namespace Go.Proofs.YtbmfcedndbgpoaaGreat
open Go.RowKit Go.Deep
set_option linter.unusedVariables false
theorem wroot_calls (b : Nat) (x : Wd) (n : Nat) (w : World) (hn : n ≤ 900) (h : PlR w b (most n)) :
    Calls Tryz.prog 84 #[.agg #[.iface 74 (.pointer (some ⟨b, 0, none⟩))], .int .i32 x.v] w fun e w' => e = .returned (.tuple #[.int .i32 (rootW x).1.v, .int .i32 (rootW x).2.v]) ∧ PlR w' b (most (n + 1)) ∧ Turn w b w' := by
  obtain ⟨cs, ts, vc, vt, ⟨h1, h2⟩, hP⟩ := h
  refine (root_in b x cs ts w (by omega) ⟨cs, ts, vc, vt, ⟨rfl, rfl⟩, hP⟩).mono ?_
  rintro e w' ⟨he, hp, ht⟩
  exact ⟨he, hp.mono (fun c t ⟨h3, h4⟩ => by subst h3 h4; exact ⟨by simp; omega, by omega⟩), ht⟩
def sqrtW (x : Wd) : Wd := scaledW x (rootW x).1 (rootW x).2
set_option maxRecDepth 100000 in
set_option maxHeartbeats 2000000 in
theorem wsqrt_calls (b : Nat) (x : Wd) (n : Nat) (w : World) (hn : n ≤ 900) (h : PlR w b (most n)) :
    Calls Tryz.prog 96 #[.agg #[.iface 74 (.pointer (some ⟨b, 0, none⟩))], .int .i32 x.v] w fun e w' => e = .returned (.int .i32 (sqrtW x).v) ∧ PlR w' b (most (n + 1)) ∧ Turn w b w' := by
  have hal := (Chg.refl w []).alloc (.cells #[.iface 74 (.pointer (some ⟨b, 0, none⟩))] 52)
  have g0 := (Blk.new w 52 [.iface 74 (.pointer (some ⟨b, 0, none⟩))]).cell' (i := 0) rfl
  have hp1 := h.chg hal (by simp)
  have fb := far_of h hal w.heap.size (Nat.le_refl _)
  have HT := hide (Turn.call h hal)
  clear hal h
  go_enter Tryz.func96, Tryz.ntmps96
  go_wp2_with fail
  refine (wroot_calls b x n _ hn hp1).mono ?_
  rintro e w1 ⟨rfl, hp2, ht⟩
  have g1 := ht.cell g0 fb
  have HT2 := hide (HT.out.trans ht)
  have HP := hide hp2
  clear ht HT g0 hp1 hp2 fb
  go_wp2_with fail
  refine (wscaled_calls _ _ _ _ _).mono ?_
  rintro e w2 ⟨rfl, hc⟩
  have HP3 := hide (HP.out.chg hc (by simp))
  have HT3 := hide (HT2.out.trans (Turn.call HP.out hc))
  clear hc
  go_wp2
  go_ret
  exact ⟨rfl, HP3.out, HT3.out⟩
def pointW (x0 x1 x2 : Wd) : T3 := ⟨scaledW (upW x0 15) (rootW (squareW x0 x1 x2)).1 (rootW (squareW x0 x1 x2)).2, scaledW (upW x1 15) (rootW (squareW x0 x1 x2)).1 (rootW (squareW x0 x1 x2)).2, scaledW (upW x2 15) (rootW (squareW x0 x1 x2)).1 (rootW (squareW x0 x1 x2)).2⟩
def wpointL (x0 x1 x2 : Wd) : Nat → List Value
  | 0 => [.int .i32 0, .int .i32 0, .int .i32 0]
  | 1 => [.int .i32 (scaledW (upW x0 15) (rootW (squareW x0 x1 x2)).1 (rootW (squareW x0 x1 x2)).2).v, .int .i32 0, .int .i32 0]
  | 2 => [.int .i32 (scaledW (upW x0 15) (rootW (squareW x0 x1 x2)).1 (rootW (squareW x0 x1 x2)).2).v, .int .i32 (scaledW (upW x1 15) (rootW (squareW x0 x1 x2)).1 (rootW (squareW x0 x1 x2)).2).v, .int .i32 0]
  | _ => [.int .i32 (scaledW (upW x0 15) (rootW (squareW x0 x1 x2)).1 (rootW (squareW x0 x1 x2)).2).v, .int .i32 (scaledW (upW x1 15) (rootW (squareW x0 x1 x2)).1 (rootW (squareW x0 x1 x2)).2).v, .int .i32 (scaledW (upW x2 15) (rootW (squareW x0 x1 x2)).1 (rootW (squareW x0 x1 x2)).2).v]
set_option maxRecDepth 100000 in
set_option maxHeartbeats 8000000 in
theorem wpoint_calls (b : Nat) (x0 x1 x2 : Wd) (n : Nat) (w : World) (hn : n ≤ 900) (hpl : PlR w b (most n)) :
    Calls Tryz.prog 46 #[.agg #[.iface 74 (.pointer (some ⟨b, 0, none⟩))], .agg #[.int .i32 x0.v, .int .i32 x1.v, .int .i32 x2.v]] w fun e w' => e = .returned (.agg #[.int .i32 (pointW x0 x1 x2).a.v, .int .i32 (pointW x0 x1 x2).b.v, .int .i32 (pointW x0 x1 x2).c.v]) ∧ PlR w' b (most (n + 1)) ∧ Turn w b w' := by
  have k0 := Blk.new w 52 [.iface 74 (.pointer (some ⟨b, 0, none⟩))]
  have m0 := ((k0.alloc (.cells #[.int .i32 x0.v, .int .i32 x1.v, .int .i32 x2.v] 22)).alloc (.cells #[.int .i32 0, .int .i32 0, .int .i32 0] 22))
  have g0_0 := m0.cell' (i := 0) rfl
  have k1 := Blk.new (w.alloc (.cells #[.iface 74 (.pointer (some ⟨b, 0, none⟩))] 52)) 22 [.int .i32 x0.v, .int .i32 x1.v, .int .i32 x2.v]
  have m1 := (k1.alloc (.cells #[.int .i32 0, .int .i32 0, .int .i32 0] 22))
  simp only [size_alloc] at m1
  have g1_0 := m1.cell' (i := 0) rfl
  have g1_1 := m1.cell' (i := 1) rfl
  have g1_2 := m1.cell' (i := 2) rfl
  have k2 := Blk.new ((w.alloc (.cells #[.iface 74 (.pointer (some ⟨b, 0, none⟩))] 52)).alloc (.cells #[.int .i32 x0.v, .int .i32 x1.v, .int .i32 x2.v] 22)) 22 [.int .i32 0, .int .i32 0, .int .i32 0]
  have m2 := k2
  simp only [size_alloc] at m2
  have g2_0 := m2.cell' (i := 0) rfl
  have g2_1 := m2.cell' (i := 1) rfl
  have g2_2 := m2.cell' (i := 2) rfl
  have HC := hide ((((Chg.refl w []).alloc (.cells #[.iface 74 (.pointer (some ⟨b, 0, none⟩))] 52)).alloc (.cells #[.int .i32 x0.v, .int .i32 x1.v, .int .i32 x2.v] 22)).alloc (.cells #[.int .i32 0, .int .i32 0, .int .i32 0] 22))
  clear k0 k1 k2
  have h1 := nil_const ⟨b, 0, none⟩
  have h2 := meth_const ⟨b, 0, none⟩
  have h3 := nil_get ⟨b, 0, none⟩
  have h4 := meth_get ⟨b, 0, none⟩
  have h5 := nil_set ⟨b, 0, none⟩
  have h6 := meth_set ⟨b, 0, none⟩
  have h7 := nil_cell ⟨b, 0, none⟩
  have h8 := meth_cell ⟨b, 0, none⟩
  have h9 := nil_loop ⟨b, 0, none⟩
  have h10 := meth_loop ⟨b, 0, none⟩
  have HT0 : Hid (Turn w b (((w.alloc (.cells #[.iface 74 (.pointer (some ⟨b, 0, none⟩))] 52)).alloc (.cells #[.int .i32 x0.v, .int .i32 x1.v, .int .i32 x2.v] 22)).alloc (.cells #[.int .i32 0, .int .i32 0, .int .i32 0] 22))) := hide (Turn.call hpl HC.out)
  have hfar := far_of hpl HC.out
  have fb0 := hfar (w.heap.size) (Nat.le_refl _)
  have fb1 := hfar (w.heap.size + 1) (by omega)
  have fb2 := hfar (w.heap.size + 1 + 1) (by omega)
  have lb1 := m1.lt
  have lb2 := m2.lt
  have hp6 := hpl.chg HC.out (by simp)
  clear hfar HC m0 g2_0 g2_1 g2_2
  go_enter Tryz.func46, Tryz.ntmps46
  go_wp2_with fail
  generalize (((w.alloc (.cells #[.iface 74 (.pointer (some ⟨b, 0, none⟩))] 52)).alloc (.cells #[.int .i32 x0.v, .int .i32 x1.v, .int .i32 x2.v] 22)).alloc (.cells #[.int .i32 0, .int .i32 0, .int .i32 0] 22)) = w6 at *
  obtain ⟨CL, hCL⟩ : ∃ l : List (Addr × Value), l = [(⟨w.heap.size, 0, none⟩, .iface 74 (.pointer (some ⟨b, 0, none⟩))), (⟨w.heap.size + 1, 0, none⟩, .int .i32 (x0).v), (⟨w.heap.size + 1, 1, none⟩, .int .i32 (x1).v), (⟨w.heap.size + 1, 2, none⟩, .int .i32 (x2).v)] := ⟨_, rfl⟩
  have HS0 : Sp w6 b (fun k => most (n + k)) [w.heap.size + 1 + 1] CL 0 w6.drew := Sp.start hp6 (by rw [hCL]; simp only [List.forall_mem_cons]; exact ⟨g0_0, g1_0, g1_1, g1_2, by simp⟩)
  have hap : Apart w6 b [w.heap.size + 1 + 1] [w.heap.size, w.heap.size + 1] CL := ⟨by rw [hCL]; simp only [List.forall_mem_cons]; exact ⟨by simp, by simp, by simp, by simp, by simp⟩, by simp only [List.forall_mem_cons]; exact ⟨World.block_lt_of_cell? _ _ g0_0, World.block_lt_of_cell? _ _ g1_0, by simp⟩, by simp only [List.forall_mem_cons]; exact ⟨fb0, fb1, by simp⟩, by simp only [List.forall_mem_cons]; exact ⟨⟨lb2, fb2⟩, by simp⟩⟩
  refine Reg.wp_region (Reg.of 10 _ _ [.agg #[.iface 74 (.pointer (some ⟨b, 0, none⟩))], .agg #[.iface 74 (.pointer (some ⟨b, 0, none⟩))], .agg #[.int .i32 (x0).v, .int .i32 (x1).v, .int .i32 (x2).v], .int .i32 (squareW (x0) (x1) (x2)).v, .tuple #[.int .i32 ((rootW (squareW (x0) (x1) (x2))).1).v, .int .i32 ((rootW (squareW (x0) (x1) (x2))).2).v], .tuple #[.int .i32 ((rootW (squareW (x0) (x1) (x2))).1).v, .int .i32 ((rootW (squareW (x0) (x1) (x2))).2).v], .int .i32 ((rootW (squareW (x0) (x1) (x2))).1).v, .int .i32 ((rootW (squareW (x0) (x1) (x2))).2).v, .int .i32 ((rootW (squareW (x0) (x1) (x2))).1).v, .int .i32 ((rootW (squareW (x0) (x1) (x2))).2).v] [fun _ => undef, fun _ => undef, fun _ => undef, fun _ => undef, fun _ => undef, fun _ => undef, fun _ => undef, fun _ => undef, fun _ => undef, fun _ => undef] [.val, .val, .val, .val, .val, .val, .val, .val, .val, .val] [(22, [.int .i32 0, .int .i32 0, .int .i32 0])] [w.heap.size + 1 + 1] [4] (Sp w6 b (fun k => most (n + k)) [w.heap.size + 1 + 1] CL) (Fp w6 b [w.heap.size + 1 + 1] [w.heap.size, w.heap.size + 1])) (Reg.good_of _ 34 (by kernel_rfl) (by kernel_rfl)) (stands_p _ hap rfl rfl rfl) (by kernel_rfl) HS0 (hold_of (by kernel_rfl) ?holdwz1) (ne_of (by kernel_rfl) ?hnewz1) (Reg.steps_of _ rfl ⟨?_, ?_, ?_, ?_, ?_, ?_, ?_, ?_, ?_, ?_, trivial⟩) ?hendwz1
  case holdwz1 =>
    intro k T c hk
    cases k with
    | zero => simp only [List.getElem?_cons_zero, Option.some.injEq, Prod.mk.injEq] at hk; obtain ⟨rfl, rfl⟩ := hk; exact ⟨m2, ⟨by simp; try omega, fb2, .inl (by simp)⟩⟩
    | succ k =>
      simp at hk
  case hnewz1 => intro i j hi hj hne; simp at hi hj; omega
  case hendwz1 =>
    intro wz1 γ hSz hBz hnez hOz
    replace hSz : Sp w6 b (fun k => most (n + k)) [w.heap.size + 1 + 1] CL 1 wz1 := hSz
    have ob0 : Blk wz1 (w.heap.size + 1 + 1) 22 [.int .i32 0, .int .i32 0, .int .i32 0] := by have h := (hBz 10 22 [.int .i32 0, .int .i32 0, .int .i32 0] (by kernel_rfl) [.int .i32 0, .int .i32 0, .int .i32 0] (by kernel_rfl)).1; rw [hOz 10 (Nat.le_trans (Nat.le_of_eq (by kernel_rfl : _ = 10)) (by decide : 10 ≤ 10))] at h; exact h
    refine end_of [(5, .int .i32 ((rootW (squareW (x0) (x1) (x2))).1).v), (6, .int .i32 ((rootW (squareW (x0) (x1) (x2))).2).v), (10, .tuple #[.int .i32 ((rootW (squareW (x0) (x1) (x2))).1).v, .int .i32 ((rootW (squareW (x0) (x1) (x2))).2).v]), (11, .agg #[.iface 74 (.pointer (some ⟨b, 0, none⟩))]), (12, .agg #[.iface 74 (.pointer (some ⟨b, 0, none⟩))]), (13, .agg #[.int .i32 (x0).v, .int .i32 (x1).v, .int .i32 (x2).v]), (14, .int .i32 (squareW (x0) (x1) (x2)).v), (15, .tuple #[.int .i32 ((rootW (squareW (x0) (x1) (x2))).1).v, .int .i32 ((rootW (squareW (x0) (x1) (x2))).2).v]), (16, .int .i32 ((rootW (squareW (x0) (x1) (x2))).1).v), (17, .int .i32 ((rootW (squareW (x0) (x1) (x2))).2).v)] (by kernel_rfl) ?_
    clear hBz hnez hOz HS0
    simp only [Reg.of, List.foldl_cons, List.foldl_nil, List.setIfInBounds_toArray, List.set_cons_zero, List.set_cons_succ]
    have HC1 := hide (HT0.out.region hSz (by simp; try omega))
    have pl1 := hSz.pl
    have fr1_0 := hSz.apart hap (w.heap.size) (by simp)
    have fr1_1 := hSz.apart hap (w.heap.size + 1) (by simp)
    have fr1_2 := hSz.turn_far lb2 fb2
    have lt1_0 := ob0.lt
    have y1_0 : wz1.cell? ⟨w.heap.size, 0, none⟩ = some (.iface 74 (.pointer (some ⟨b, 0, none⟩))) := hSz.at_ 0 _ _ (by rw [hCL]; rfl)
    have y1_1 : wz1.cell? ⟨w.heap.size + 1, 0, none⟩ = some (.int .i32 (x0).v) := hSz.at_ 1 _ _ (by rw [hCL]; rfl)
    have y1_2 : wz1.cell? ⟨w.heap.size + 1, 1, none⟩ = some (.int .i32 (x1).v) := hSz.at_ 2 _ _ (by rw [hCL]; rfl)
    have y1_3 : wz1.cell? ⟨w.heap.size + 1, 2, none⟩ = some (.int .i32 (x2).v) := hSz.at_ 3 _ _ (by rw [hCL]; rfl)
    clear hSz hCL hap CL g0_0 g1_0 g1_1 g1_2 HT0 m2 fb0 fb1 fb2 lb2 hp6
    have mo1_0 := ob0
    clear ob0
    have hal2 := (Chg.refl wz1 []).alloc (.cells #[.int .i32 0, .int .i32 0, .int .i32 0] 22)
    have mo2_0 := Blk.new wz1 22 [.int .i32 0, .int .i32 0, .int .i32 0]
    have y2_0 := hal2.cell y1_0 (by simp)
    have y2_1 := hal2.cell y1_1 (by simp)
    have y2_2 := hal2.cell y1_2 (by simp)
    have y2_3 := hal2.cell y1_3 (by simp)
    have hd2 := dof_chg pl1 hal2 (by simp)
    have fn2 := far_of pl1 hal2 wz1.heap.size (Nat.le_refl _)
    have fr2_0 := fr1_0
    rw [← hd2] at fr2_0
    have fr2_1 := fr1_1
    rw [← hd2] at fr2_1
    have fr2_2 := fr1_2
    rw [← hd2] at fr2_2
    have HC2 := hide (HC1.out.trans (Turn.call pl1 hal2))
    have pl2 := pl1.chg hal2 (by simp)
    have le2 := HC1.out.chg.size
    have mo2_1 := mo1_0.chg hal2 (by simp)
    have lt2_1 := mo2_1.lt
    go_wp2_with fail
    have lt2_0 := mo2_0.lt
    clear hal2 hd2 y1_0 y1_1 y1_2 y1_3 fr1_0 fr1_1 fr1_2 pl1 HC1 mo1_0
    generalize (wz1.alloc (.cells #[.int .i32 0, .int .i32 0, .int .i32 0] 22)) = wz2 at *
    generalize wz1.heap.size = bo2 at *
    obtain ⟨CB, hCB⟩ : ∃ l : List (Addr × Value), l = [(⟨w.heap.size, 0, none⟩, .iface 74 (.pointer (some ⟨b, 0, none⟩))), (⟨w.heap.size + 1, 0, none⟩, .int .i32 (x0).v), (⟨w.heap.size + 1, 1, none⟩, .int .i32 (x1).v), (⟨w.heap.size + 1, 2, none⟩, .int .i32 (x2).v)] := ⟨_, rfl⟩
    have hapB : Apart wz2 b [bo2, w.heap.size + 1 + 1] [w.heap.size, w.heap.size + 1] CB := ⟨by rw [hCB]; simp only [List.forall_mem_cons]; exact ⟨by simp, by simp, by simp, by simp, by simp⟩, by simp only [List.forall_mem_cons]; exact ⟨World.block_lt_of_cell? _ _ y2_0, World.block_lt_of_cell? _ _ y2_1, by simp⟩, by simp only [List.forall_mem_cons]; exact ⟨fr2_0, fr2_1, by simp⟩, by simp only [List.forall_mem_cons]; exact ⟨⟨lt2_0, fn2⟩, ⟨lt2_1, fr2_2⟩, by simp⟩⟩
    have HS1 : Hid (Sp wz2 b (fun _ => most (n + 1)) [bo2, w.heap.size + 1 + 1] CB 0 wz2) := hide (Sp.here pl2 (by rw [hCB]; simp only [List.forall_mem_cons]; exact ⟨y2_0, y2_1, y2_2, y2_3, by simp⟩))
    go_loopw [19] (fun i wr => ∃ k : Nat, k ≤ 3 ∧ i = .int .i64 k ∧ Hid (Sp wz2 b (fun _ => most (n + 1)) [bo2, w.heap.size + 1 + 1] CB 0 wr) ∧ Hid (Blk wr (bo2) 22 (wpointL x0 x1 x2 k)) ∧ Hid (Blk wr (w.heap.size + 1 + 1) 22 [.int .i32 0, .int .i32 0, .int .i32 0])) (fun i _ => 3 - (intOf i).toNat)
    case atStart => exact ⟨0, Nat.zero_le _, rfl, HS1, mo2_0, mo2_1⟩
    case round =>
      obtain ⟨k, hk, rfl, HS, HB, HR0⟩ := hrel
      have yr0 : wr.cell? ⟨w.heap.size, 0, none⟩ = some (.iface 74 (.pointer (some ⟨b, 0, none⟩))) := HS.out.at_ 0 _ _ (by rw [hCB]; rfl)
      have yr1 : wr.cell? ⟨w.heap.size + 1, 0, none⟩ = some (.int .i32 (x0).v) := HS.out.at_ 1 _ _ (by rw [hCB]; rfl)
      have yr2 : wr.cell? ⟨w.heap.size + 1, 1, none⟩ = some (.int .i32 (x1).v) := HS.out.at_ 2 _ _ (by rw [hCB]; rfl)
      have yr3 : wr.cell? ⟨w.heap.size + 1, 2, none⟩ = some (.int .i32 (x2).v) := HS.out.at_ 3 _ _ (by rw [hCB]; rfl)
      have far0 := HS.out.apart hapB (w.heap.size) (by simp)
      have far1 := HS.out.apart hapB (w.heap.size + 1) (by simp)
      have fao0 := HS.out.turn_far lt2_0 fn2
      have fao1 := HS.out.turn_far lt2_1 fr2_2
      have HTT := hide (HC2.out.region HS.out (by simp; try omega))
      have plr := HS.out.pl
      rcases (by omega : k = 0 ∨ k = 1 ∨ k = 2 ∨ k = 3) with rfl | rfl | rfl | rfl
      · have mo := HB.out
        have mr0 := HR0.out
        replace mo : Blk wr (bo2) 22 [.int .i32 0, .int .i32 0, .int .i32 0] := mo
        have lto := mo.lt
        have ltr0 := mr0.lt
        clear HB HS1 pl2 y2_0 y2_1 y2_2 y2_3 fr2_0 fr2_1 fr2_2 fn2 HC2 mo2_0 mo2_1 HR0 lt2_1 lt2_0 hapB HTT
        have ix0 : ∀ w, (Instr.index 22 (.agg #[.int .i32 x0.v, .int .i32 x1.v, .int .i32 x2.v]) (.int .i64 0)).run Tryz.prog w = .ok (.int .i32 x0.v) w := fun _ => by kernel_rfl
        go_wp2_with fail
        obtain ⟨CL, hCL⟩ : ∃ l : List (Addr × Value), l = [(⟨w.heap.size, 0, none⟩, .iface 74 (.pointer (some ⟨b, 0, none⟩))), (⟨w.heap.size + 1, 0, none⟩, .int .i32 (x0).v), (⟨w.heap.size + 1, 1, none⟩, .int .i32 (x1).v), (⟨w.heap.size + 1, 2, none⟩, .int .i32 (x2).v)] := ⟨_, rfl⟩
        have HS0 : Sp wr b (fun _ => (most (n + 1))) [bo2, w.heap.size + 1 + 1] CL 0 wr.drew := Sp.start plr (by rw [hCL]; simp only [List.forall_mem_cons]; exact ⟨yr0, yr1, yr2, yr3, by simp⟩)
        have hap : Apart wr b [bo2, w.heap.size + 1 + 1] [w.heap.size, w.heap.size + 1] CL := ⟨by rw [hCL]; simp only [List.forall_mem_cons]; exact ⟨by simp, by simp, by simp, by simp, by simp⟩, by simp only [List.forall_mem_cons]; exact ⟨World.block_lt_of_cell? _ _ yr0, World.block_lt_of_cell? _ _ yr1, by simp⟩, by simp only [List.forall_mem_cons]; exact ⟨far0, far1, by simp⟩, by simp only [List.forall_mem_cons]; exact ⟨⟨lto, fao0⟩, ⟨ltr0, fao1⟩, by simp⟩⟩
        refine Reg.wp_region (Reg.of 10 _ _ [.int .i64 0, .agg #[.iface 74 (.pointer (some ⟨b, 0, none⟩))], .agg #[.iface 74 (.pointer (some ⟨b, 0, none⟩))], .int .i32 (x0).v, .int .i32 (upW (x0) (15)).v, .int .i32 ((rootW (squareW x0 x1 x2)).1).v, .int .i32 ((rootW (squareW x0 x1 x2)).2).v, .int .i32 (scaledW (upW (x0) (15)) ((rootW (squareW x0 x1 x2)).1) ((rootW (squareW x0 x1 x2)).2)).v, .pointer (some ⟨bo2, 0, none⟩), undef] [fun _ => undef, fun _ => undef, fun _ => undef, fun _ => undef, fun _ => undef, fun _ => undef, fun _ => undef, fun _ => undef, fun _ => undef, fun _ => undef] [.val, .val, .val, .val, .val, .val, .val, .val, .val, .put 10 [.int .i32 (scaledW (upW (x0) (15)) ((rootW (squareW x0 x1 x2)).1) ((rootW (squareW x0 x1 x2)).2)).v, .int .i32 0, .int .i32 0]] [(22, [.int .i32 0, .int .i32 0, .int .i32 0]), (22, [.int .i32 0, .int .i32 0, .int .i32 0])] [bo2, w.heap.size + 1 + 1] [] (Sp wr b (fun _ => (most (n + 1))) [bo2, w.heap.size + 1 + 1] CL) (Fp wr b [bo2, w.heap.size + 1 + 1] [w.heap.size, w.heap.size + 1])) (Reg.good_of _ 34 (by kernel_rfl) (by kernel_rfl)) (stands_p _ hap rfl rfl rfl) (by kernel_rfl) HS0 (hold_of (by kernel_rfl) ?holdwz101) (ne_of (by kernel_rfl) ?hnewz101) (Reg.steps_of _ rfl ⟨?_, ?_, ?_, ?_, ?_, ?_, ?_, ?_, ?_, ?_, trivial⟩) ?hendwz101
        case holdwz101 =>
          intro k T c hk
          cases k with
          | zero => simp only [List.getElem?_cons_zero, Option.some.injEq, Prod.mk.injEq] at hk; obtain ⟨rfl, rfl⟩ := hk; exact ⟨mo, ⟨by simp; try omega, fao0, .inl (by simp)⟩⟩
          | succ k =>
            cases k with
            | zero => simp only [List.getElem?_cons_succ, List.getElem?_cons_zero, Option.some.injEq, Prod.mk.injEq] at hk; obtain ⟨rfl, rfl⟩ := hk; exact ⟨mr0, ⟨by simp; try omega, fao1, .inl (by simp)⟩⟩
            | succ k =>
              simp at hk
        case hnewz101 => intro i j hi hj hne; have hi2 : i < 2 := hi; have hj2 : j < 2 := hj; rcases (by omega : i = 0 ∨ i = 1) with rfl | rfl <;> rcases (by omega : j = 0 ∨ j = 1) with rfl | rfl <;> first | exact absurd rfl hne | (simp only [List.getD_cons_zero, List.getD_cons_succ]; omega)
        case hendwz101 =>
          intro wz101 γ hSz hBz hnez hOz
          replace hSz : Sp wr b (fun _ => (most (n + 1))) [bo2, w.heap.size + 1 + 1] CL 0 wz101 := hSz
          have ob0 : Blk wz101 (bo2) 22 [.int .i32 (scaledW (upW (x0) (15)) ((rootW (squareW x0 x1 x2)).1) ((rootW (squareW x0 x1 x2)).2)).v, .int .i32 0, .int .i32 0] := by have h := (hBz 10 22 [.int .i32 0, .int .i32 0, .int .i32 0] (by kernel_rfl) [.int .i32 (scaledW (upW (x0) (15)) ((rootW (squareW x0 x1 x2)).1) ((rootW (squareW x0 x1 x2)).2)).v, .int .i32 0, .int .i32 0] (by kernel_rfl)).1; rw [hOz 10 (Nat.le_trans (Nat.le_of_eq (by kernel_rfl : _ = 10)) (by decide : 10 ≤ 10))] at h; exact h
          have ob1 : Blk wz101 (w.heap.size + 1 + 1) 22 [.int .i32 0, .int .i32 0, .int .i32 0] := by have h := (hBz 11 22 [.int .i32 0, .int .i32 0, .int .i32 0] (by kernel_rfl) [.int .i32 0, .int .i32 0, .int .i32 0] (by kernel_rfl)).1; rw [hOz 11 (Nat.le_trans (Nat.le_of_eq (by kernel_rfl : _ = 10)) (by decide : 10 ≤ 11))] at h; exact h
          refine end_of [(23, .int .i64 0), (24, .agg #[.iface 74 (.pointer (some ⟨b, 0, none⟩))]), (25, .agg #[.iface 74 (.pointer (some ⟨b, 0, none⟩))]), (26, .int .i32 (x0).v), (27, .int .i32 (upW (x0) (15)).v), (28, .int .i32 ((rootW (squareW x0 x1 x2)).1).v), (29, .int .i32 ((rootW (squareW x0 x1 x2)).2).v), (30, .int .i32 (scaledW (upW (x0) (15)) ((rootW (squareW x0 x1 x2)).1) ((rootW (squareW x0 x1 x2)).2)).v), (31, .pointer (some ⟨bo2, 0, none⟩))] (by kernel_rfl) ?_
          clear hBz hnez hOz HS0
          simp only [Reg.of, List.foldl_cons, List.foldl_nil, List.setIfInBounds_toArray, List.set_cons_zero, List.set_cons_succ]
          have HC101 := hide (HS.out.region hSz (by simp; try omega))
          have pl101 := hSz.pl
          have fr101_0 := hSz.apart hap (w.heap.size) (by simp)
          have fr101_1 := hSz.apart hap (w.heap.size + 1) (by simp)
          have fr101_2 := hSz.turn_far lto fao0
          have fr101_3 := hSz.turn_far ltr0 fao1
          have lt101_0 := ob0.lt
          have lt101_1 := ob1.lt
          have y101_0 : wz101.cell? ⟨w.heap.size, 0, none⟩ = some (.iface 74 (.pointer (some ⟨b, 0, none⟩))) := hSz.at_ 0 _ _ (by rw [hCL]; rfl)
          have y101_1 : wz101.cell? ⟨w.heap.size + 1, 0, none⟩ = some (.int .i32 (x0).v) := hSz.at_ 1 _ _ (by rw [hCL]; rfl)
          have y101_2 : wz101.cell? ⟨w.heap.size + 1, 1, none⟩ = some (.int .i32 (x1).v) := hSz.at_ 2 _ _ (by rw [hCL]; rfl)
          have y101_3 : wz101.cell? ⟨w.heap.size + 1, 2, none⟩ = some (.int .i32 (x2).v) := hSz.at_ 3 _ _ (by rw [hCL]; rfl)
          clear hSz hCL hap CL yr0 yr1 yr2 yr3 HS mo mr0 far0 fao1 far1 fao0 lto ltr0 plr
          have mo101_0 := ob0
          clear ob0
          have mo101_1 := ob1
          clear ob1
          go_wp2
          go_roundw
          case rel => exact ⟨1, by omega, by go_num, HC101.out.with_ (by rw [hCB]; simp only [List.forall_mem_cons]; exact ⟨y101_0, y101_1, y101_2, y101_3, by simp⟩), mo101_0, mo101_1⟩
          case measure => simp [intOf]
        · intro a wu γ nph K hp hK
          obtain ⟨e8a, e8b⟩ := hp.old_ 8 (.int .i64 0)
          have hk := hK.pure (.int .i64 0) hp.S
          clear hp hK
          go_simp
          exact hk
        · intro a wu γ nph K hp hK
          obtain ⟨e2a, e2b⟩ := hp.old_ 2 (.pointer (some ⟨w.heap.size, 0, none⟩))
          have hS : Sp wr b (fun _ => (most (n + 1))) [bo2, w.heap.size + 1 + 1] CL nph wu := hp.S
          have c0 := hS.at_ 0 ⟨w.heap.size, 0, none⟩ (.iface 74 (.pointer (some ⟨b, 0, none⟩))) (by rw [hCL]; rfl)
          have hk := hK.pure (.agg #[.iface 74 (.pointer (some ⟨b, 0, none⟩))]) hp.S
          clear hp hK hS
          go_simp
          exact hk
        · intro a wu γ nph K hp hK
          obtain ⟨e2a, e2b⟩ := hp.old_ 2 (.pointer (some ⟨w.heap.size, 0, none⟩))
          have hS : Sp wr b (fun _ => (most (n + 1))) [bo2, w.heap.size + 1 + 1] CL nph wu := hp.S
          have c0 := hS.at_ 0 ⟨w.heap.size, 0, none⟩ (.iface 74 (.pointer (some ⟨b, 0, none⟩))) (by rw [hCL]; rfl)
          have hk := hK.pure (.agg #[.iface 74 (.pointer (some ⟨b, 0, none⟩))]) hp.S
          clear hp hK hS
          go_simp
          exact hk
        · intro a wu γ nph K hp hK
          obtain ⟨e9a, e9b⟩ := hp.old_ 9 (.int .i32 (x0).v)
          have hk := hK.pure (.int .i32 (x0).v) hp.S
          clear hp hK
          go_simp
          exact hk
        · intro a wu γ nph K hp hK
          obtain ⟨e25a, e25b⟩ := hp.dep_ 25 2 (.agg #[.iface 74 (.pointer (some ⟨b, 0, none⟩))])
          obtain ⟨e26a, e26b⟩ := hp.dep_ 26 3 (.int .i32 (x0).v)
          have hS : Sp wr b (fun _ => (most (n + 1))) [bo2, w.heap.size + 1 + 1] CL nph wu := hp.S
          have hk := hK.call (.int .i32 (upW (x0) (15)).v)
          clear hp hK
          go_simp
          refine (w_up _ _ _ _ (by decide)).mono ?_
          rintro e w7 ⟨rfl, hcX⟩
          exact hk _ (hS.call hcX) (Reg.keep_callp _ rfl hS hcX)
        · intro a wu γ nph K hp hK
          obtain ⟨e5a, e5b⟩ := hp.old_ 5 (.int .i32 ((rootW (squareW x0 x1 x2)).1).v)
          have hk := hK.pure (.int .i32 ((rootW (squareW x0 x1 x2)).1).v) hp.S
          clear hp hK
          go_simp
          exact hk
        · intro a wu γ nph K hp hK
          obtain ⟨e6a, e6b⟩ := hp.old_ 6 (.int .i32 ((rootW (squareW x0 x1 x2)).2).v)
          have hk := hK.pure (.int .i32 ((rootW (squareW x0 x1 x2)).2).v) hp.S
          clear hp hK
          go_simp
          exact hk
        · intro a wu γ nph K hp hK
          obtain ⟨e24a, e24b⟩ := hp.dep_ 24 1 (.agg #[.iface 74 (.pointer (some ⟨b, 0, none⟩))])
          obtain ⟨e27a, e27b⟩ := hp.dep_ 27 4 (.int .i32 (upW (x0) (15)).v)
          obtain ⟨e28a, e28b⟩ := hp.dep_ 28 5 (.int .i32 ((rootW (squareW x0 x1 x2)).1).v)
          obtain ⟨e29a, e29b⟩ := hp.dep_ 29 6 (.int .i32 ((rootW (squareW x0 x1 x2)).2).v)
          have hS : Sp wr b (fun _ => (most (n + 1))) [bo2, w.heap.size + 1 + 1] CL nph wu := hp.S
          have hk := hK.call (.int .i32 (scaledW (upW (x0) (15)) ((rootW (squareW x0 x1 x2)).1) ((rootW (squareW x0 x1 x2)).2)).v)
          clear hp hK
          go_simp
          refine (wscaled_calls _ _ _ _ _).mono ?_
          rintro e w7 ⟨rfl, hcX⟩
          exact hk _ (hS.call hcX) (Reg.keep_callp _ rfl hS hcX)
        · intro a wu γ nph K hp hK
          obtain ⟨e7a, e7b⟩ := hp.old_ 7 (.pointer (some ⟨bo2, 0, none⟩))
          obtain ⟨e23a, e23b⟩ := hp.dep_ 23 0 (.int .i64 0)
          have hk := hK.pure (.pointer (some ⟨bo2, 0, none⟩)) hp.S
          clear hp hK
          go_simp
          exact hk
        · intro a wu γ nph K hp hK
          obtain ⟨e31a, e31b⟩ := hp.dep_ 31 8 (.pointer (some ⟨bo2, 0, none⟩))
          obtain ⟨e30a, e30b⟩ := hp.dep_ 30 7 (.int .i32 (scaledW (upW (x0) (15)) ((rootW (squareW x0 x1 x2)).1) ((rootW (squareW x0 x1 x2)).2)).v)
          have hb := (hp.blk_ 10 (T := 22) (c := [.int .i32 0, .int .i32 0, .int .i32 0])).1
          have hk := hK.put 10 22 [.int .i32 0, .int .i32 0, .int .i32 0] [.int .i32 (scaledW (upW (x0) (15)) ((rootW (squareW x0 x1 x2)).1) ((rootW (squareW x0 x1 x2)).2)).v, .int .i32 0, .int .i32 0]
          have hO : γ 10 = bo2 := hp.old 10 (Nat.le_trans (Nat.le_of_eq (by kernel_rfl : _ = 10)) (by decide : 10 ≤ 10))
          rw [hO] at hb hk
          have z0 := hb.cell' (i := 0) rfl
          have f0 := hb.frozen 0
          clear hp hK
          clear hO
          go_simp
          exact hk _ (hb.set_ 0 _) ((Chg.refl wu _).setCell _ _ (.inl (by simp))) (by simp)
      · have mo := HB.out
        have mr0 := HR0.out
        replace mo : Blk wr (bo2) 22 [.int .i32 (scaledW (upW x0 15) (rootW (squareW x0 x1 x2)).1 (rootW (squareW x0 x1 x2)).2).v, .int .i32 0, .int .i32 0] := mo
        have lto := mo.lt
        have ltr0 := mr0.lt
        clear HB HS1 pl2 y2_0 y2_1 y2_2 y2_3 fr2_0 fr2_1 fr2_2 fn2 HC2 mo2_0 mo2_1 HR0 lt2_1 lt2_0 hapB HTT
        have ix1 : ∀ w, (Instr.index 22 (.agg #[.int .i32 x0.v, .int .i32 x1.v, .int .i32 x2.v]) (.int .i64 1)).run Tryz.prog w = .ok (.int .i32 x1.v) w := fun _ => by kernel_rfl
        go_wp2_with fail
        obtain ⟨CL, hCL⟩ : ∃ l : List (Addr × Value), l = [(⟨w.heap.size, 0, none⟩, .iface 74 (.pointer (some ⟨b, 0, none⟩))), (⟨w.heap.size + 1, 0, none⟩, .int .i32 (x0).v), (⟨w.heap.size + 1, 1, none⟩, .int .i32 (x1).v), (⟨w.heap.size + 1, 2, none⟩, .int .i32 (x2).v)] := ⟨_, rfl⟩
        have HS0 : Sp wr b (fun _ => (most (n + 1))) [bo2, w.heap.size + 1 + 1] CL 0 wr.drew := Sp.start plr (by rw [hCL]; simp only [List.forall_mem_cons]; exact ⟨yr0, yr1, yr2, yr3, by simp⟩)
        have hap : Apart wr b [bo2, w.heap.size + 1 + 1] [w.heap.size, w.heap.size + 1] CL := ⟨by rw [hCL]; simp only [List.forall_mem_cons]; exact ⟨by simp, by simp, by simp, by simp, by simp⟩, by simp only [List.forall_mem_cons]; exact ⟨World.block_lt_of_cell? _ _ yr0, World.block_lt_of_cell? _ _ yr1, by simp⟩, by simp only [List.forall_mem_cons]; exact ⟨far0, far1, by simp⟩, by simp only [List.forall_mem_cons]; exact ⟨⟨lto, fao0⟩, ⟨ltr0, fao1⟩, by simp⟩⟩
        refine Reg.wp_region (Reg.of 10 _ _ [.int .i64 1, .agg #[.iface 74 (.pointer (some ⟨b, 0, none⟩))], .agg #[.iface 74 (.pointer (some ⟨b, 0, none⟩))], .int .i32 (x1).v, .int .i32 (upW (x1) (15)).v, .int .i32 ((rootW (squareW x0 x1 x2)).1).v, .int .i32 ((rootW (squareW x0 x1 x2)).2).v, .int .i32 (scaledW (upW (x1) (15)) ((rootW (squareW x0 x1 x2)).1) ((rootW (squareW x0 x1 x2)).2)).v, .pointer (some ⟨bo2, 1, none⟩), undef] [fun _ => undef, fun _ => undef, fun _ => undef, fun _ => undef, fun _ => undef, fun _ => undef, fun _ => undef, fun _ => undef, fun _ => undef, fun _ => undef] [.val, .val, .val, .val, .val, .val, .val, .val, .val, .put 10 [.int .i32 (scaledW (upW x0 15) (rootW (squareW x0 x1 x2)).1 (rootW (squareW x0 x1 x2)).2).v, .int .i32 (scaledW (upW (x1) (15)) ((rootW (squareW x0 x1 x2)).1) ((rootW (squareW x0 x1 x2)).2)).v, .int .i32 0]] [(22, [.int .i32 (scaledW (upW x0 15) (rootW (squareW x0 x1 x2)).1 (rootW (squareW x0 x1 x2)).2).v, .int .i32 0, .int .i32 0]), (22, [.int .i32 0, .int .i32 0, .int .i32 0])] [bo2, w.heap.size + 1 + 1] [] (Sp wr b (fun _ => (most (n + 1))) [bo2, w.heap.size + 1 + 1] CL) (Fp wr b [bo2, w.heap.size + 1 + 1] [w.heap.size, w.heap.size + 1])) (Reg.good_of _ 34 (by kernel_rfl) (by kernel_rfl)) (stands_p _ hap rfl rfl rfl) (by kernel_rfl) HS0 (hold_of (by kernel_rfl) ?holdwz201) (ne_of (by kernel_rfl) ?hnewz201) (Reg.steps_of _ rfl ⟨?_, ?_, ?_, ?_, ?_, ?_, ?_, ?_, ?_, ?_, trivial⟩) ?hendwz201
        case holdwz201 =>
          intro k T c hk
          cases k with
          | zero => simp only [List.getElem?_cons_zero, Option.some.injEq, Prod.mk.injEq] at hk; obtain ⟨rfl, rfl⟩ := hk; exact ⟨mo, ⟨by simp; try omega, fao0, .inl (by simp)⟩⟩
          | succ k =>
            cases k with
            | zero => simp only [List.getElem?_cons_succ, List.getElem?_cons_zero, Option.some.injEq, Prod.mk.injEq] at hk; obtain ⟨rfl, rfl⟩ := hk; exact ⟨mr0, ⟨by simp; try omega, fao1, .inl (by simp)⟩⟩
            | succ k =>
              simp at hk
        case hnewz201 => intro i j hi hj hne; have hi2 : i < 2 := hi; have hj2 : j < 2 := hj; rcases (by omega : i = 0 ∨ i = 1) with rfl | rfl <;> rcases (by omega : j = 0 ∨ j = 1) with rfl | rfl <;> first | exact absurd rfl hne | (simp only [List.getD_cons_zero, List.getD_cons_succ]; omega)
        case hendwz201 =>
          intro wz201 γ hSz hBz hnez hOz
          replace hSz : Sp wr b (fun _ => (most (n + 1))) [bo2, w.heap.size + 1 + 1] CL 0 wz201 := hSz
          have ob0 : Blk wz201 (bo2) 22 [.int .i32 (scaledW (upW x0 15) (rootW (squareW x0 x1 x2)).1 (rootW (squareW x0 x1 x2)).2).v, .int .i32 (scaledW (upW (x1) (15)) ((rootW (squareW x0 x1 x2)).1) ((rootW (squareW x0 x1 x2)).2)).v, .int .i32 0] := by have h := (hBz 10 22 [.int .i32 (scaledW (upW x0 15) (rootW (squareW x0 x1 x2)).1 (rootW (squareW x0 x1 x2)).2).v, .int .i32 0, .int .i32 0] (by kernel_rfl) [.int .i32 (scaledW (upW x0 15) (rootW (squareW x0 x1 x2)).1 (rootW (squareW x0 x1 x2)).2).v, .int .i32 (scaledW (upW (x1) (15)) ((rootW (squareW x0 x1 x2)).1) ((rootW (squareW x0 x1 x2)).2)).v, .int .i32 0] (by kernel_rfl)).1; rw [hOz 10 (Nat.le_trans (Nat.le_of_eq (by kernel_rfl : _ = 10)) (by decide : 10 ≤ 10))] at h; exact h
          have ob1 : Blk wz201 (w.heap.size + 1 + 1) 22 [.int .i32 0, .int .i32 0, .int .i32 0] := by have h := (hBz 11 22 [.int .i32 0, .int .i32 0, .int .i32 0] (by kernel_rfl) [.int .i32 0, .int .i32 0, .int .i32 0] (by kernel_rfl)).1; rw [hOz 11 (Nat.le_trans (Nat.le_of_eq (by kernel_rfl : _ = 10)) (by decide : 10 ≤ 11))] at h; exact h
          refine end_of [(23, .int .i64 1), (24, .agg #[.iface 74 (.pointer (some ⟨b, 0, none⟩))]), (25, .agg #[.iface 74 (.pointer (some ⟨b, 0, none⟩))]), (26, .int .i32 (x1).v), (27, .int .i32 (upW (x1) (15)).v), (28, .int .i32 ((rootW (squareW x0 x1 x2)).1).v), (29, .int .i32 ((rootW (squareW x0 x1 x2)).2).v), (30, .int .i32 (scaledW (upW (x1) (15)) ((rootW (squareW x0 x1 x2)).1) ((rootW (squareW x0 x1 x2)).2)).v), (31, .pointer (some ⟨bo2, 1, none⟩))] (by kernel_rfl) ?_
          clear hBz hnez hOz HS0
          simp only [Reg.of, List.foldl_cons, List.foldl_nil, List.setIfInBounds_toArray, List.set_cons_zero, List.set_cons_succ]
          have HC201 := hide (HS.out.region hSz (by simp; try omega))
          have pl201 := hSz.pl
          have fr201_0 := hSz.apart hap (w.heap.size) (by simp)
          have fr201_1 := hSz.apart hap (w.heap.size + 1) (by simp)
          have fr201_2 := hSz.turn_far lto fao0
          have fr201_3 := hSz.turn_far ltr0 fao1
          have lt201_0 := ob0.lt
          have lt201_1 := ob1.lt
          have y201_0 : wz201.cell? ⟨w.heap.size, 0, none⟩ = some (.iface 74 (.pointer (some ⟨b, 0, none⟩))) := hSz.at_ 0 _ _ (by rw [hCL]; rfl)
          have y201_1 : wz201.cell? ⟨w.heap.size + 1, 0, none⟩ = some (.int .i32 (x0).v) := hSz.at_ 1 _ _ (by rw [hCL]; rfl)
          have y201_2 : wz201.cell? ⟨w.heap.size + 1, 1, none⟩ = some (.int .i32 (x1).v) := hSz.at_ 2 _ _ (by rw [hCL]; rfl)
          have y201_3 : wz201.cell? ⟨w.heap.size + 1, 2, none⟩ = some (.int .i32 (x2).v) := hSz.at_ 3 _ _ (by rw [hCL]; rfl)
          clear hSz hCL hap CL yr0 yr1 yr2 yr3 HS mo mr0 far0 fao1 far1 fao0 lto ltr0 plr
          have mo201_0 := ob0
          clear ob0
          have mo201_1 := ob1
          clear ob1
          go_wp2
          go_roundw
          case rel => exact ⟨2, by omega, by go_num, HC201.out.with_ (by rw [hCB]; simp only [List.forall_mem_cons]; exact ⟨y201_0, y201_1, y201_2, y201_3, by simp⟩), mo201_0, mo201_1⟩
          case measure => simp [intOf]
        · intro a wu γ nph K hp hK
          obtain ⟨e8a, e8b⟩ := hp.old_ 8 (.int .i64 1)
          have hk := hK.pure (.int .i64 1) hp.S
          clear hp hK
          go_simp
          exact hk
        · intro a wu γ nph K hp hK
          obtain ⟨e2a, e2b⟩ := hp.old_ 2 (.pointer (some ⟨w.heap.size, 0, none⟩))
          have hS : Sp wr b (fun _ => (most (n + 1))) [bo2, w.heap.size + 1 + 1] CL nph wu := hp.S
          have c0 := hS.at_ 0 ⟨w.heap.size, 0, none⟩ (.iface 74 (.pointer (some ⟨b, 0, none⟩))) (by rw [hCL]; rfl)
          have hk := hK.pure (.agg #[.iface 74 (.pointer (some ⟨b, 0, none⟩))]) hp.S
          clear hp hK hS
          go_simp
          exact hk
        · intro a wu γ nph K hp hK
          obtain ⟨e2a, e2b⟩ := hp.old_ 2 (.pointer (some ⟨w.heap.size, 0, none⟩))
          have hS : Sp wr b (fun _ => (most (n + 1))) [bo2, w.heap.size + 1 + 1] CL nph wu := hp.S
          have c0 := hS.at_ 0 ⟨w.heap.size, 0, none⟩ (.iface 74 (.pointer (some ⟨b, 0, none⟩))) (by rw [hCL]; rfl)
          have hk := hK.pure (.agg #[.iface 74 (.pointer (some ⟨b, 0, none⟩))]) hp.S
          clear hp hK hS
          go_simp
          exact hk
        · intro a wu γ nph K hp hK
          obtain ⟨e9a, e9b⟩ := hp.old_ 9 (.int .i32 (x1).v)
          have hk := hK.pure (.int .i32 (x1).v) hp.S
          clear hp hK
          go_simp
          exact hk
        · intro a wu γ nph K hp hK
          obtain ⟨e25a, e25b⟩ := hp.dep_ 25 2 (.agg #[.iface 74 (.pointer (some ⟨b, 0, none⟩))])
          obtain ⟨e26a, e26b⟩ := hp.dep_ 26 3 (.int .i32 (x1).v)
          have hS : Sp wr b (fun _ => (most (n + 1))) [bo2, w.heap.size + 1 + 1] CL nph wu := hp.S
          have hk := hK.call (.int .i32 (upW (x1) (15)).v)
          clear hp hK
          go_simp
          refine (w_up _ _ _ _ (by decide)).mono ?_
          rintro e w7 ⟨rfl, hcX⟩
          exact hk _ (hS.call hcX) (Reg.keep_callp _ rfl hS hcX)
        · intro a wu γ nph K hp hK
          obtain ⟨e5a, e5b⟩ := hp.old_ 5 (.int .i32 ((rootW (squareW x0 x1 x2)).1).v)
          have hk := hK.pure (.int .i32 ((rootW (squareW x0 x1 x2)).1).v) hp.S
          clear hp hK
          go_simp
          exact hk
        · intro a wu γ nph K hp hK
          obtain ⟨e6a, e6b⟩ := hp.old_ 6 (.int .i32 ((rootW (squareW x0 x1 x2)).2).v)
          have hk := hK.pure (.int .i32 ((rootW (squareW x0 x1 x2)).2).v) hp.S
          clear hp hK
          go_simp
          exact hk
        · intro a wu γ nph K hp hK
          obtain ⟨e24a, e24b⟩ := hp.dep_ 24 1 (.agg #[.iface 74 (.pointer (some ⟨b, 0, none⟩))])
          obtain ⟨e27a, e27b⟩ := hp.dep_ 27 4 (.int .i32 (upW (x1) (15)).v)
          obtain ⟨e28a, e28b⟩ := hp.dep_ 28 5 (.int .i32 ((rootW (squareW x0 x1 x2)).1).v)
          obtain ⟨e29a, e29b⟩ := hp.dep_ 29 6 (.int .i32 ((rootW (squareW x0 x1 x2)).2).v)
          have hS : Sp wr b (fun _ => (most (n + 1))) [bo2, w.heap.size + 1 + 1] CL nph wu := hp.S
          have hk := hK.call (.int .i32 (scaledW (upW (x1) (15)) ((rootW (squareW x0 x1 x2)).1) ((rootW (squareW x0 x1 x2)).2)).v)
          clear hp hK
          go_simp
          refine (wscaled_calls _ _ _ _ _).mono ?_
          rintro e w7 ⟨rfl, hcX⟩
          exact hk _ (hS.call hcX) (Reg.keep_callp _ rfl hS hcX)
        · intro a wu γ nph K hp hK
          obtain ⟨e7a, e7b⟩ := hp.old_ 7 (.pointer (some ⟨bo2, 0, none⟩))
          obtain ⟨e23a, e23b⟩ := hp.dep_ 23 0 (.int .i64 1)
          have hk := hK.pure (.pointer (some ⟨bo2, 1, none⟩)) hp.S
          clear hp hK
          go_simp
          exact hk
        · intro a wu γ nph K hp hK
          obtain ⟨e31a, e31b⟩ := hp.dep_ 31 8 (.pointer (some ⟨bo2, 1, none⟩))
          obtain ⟨e30a, e30b⟩ := hp.dep_ 30 7 (.int .i32 (scaledW (upW (x1) (15)) ((rootW (squareW x0 x1 x2)).1) ((rootW (squareW x0 x1 x2)).2)).v)
          have hb := (hp.blk_ 10 (T := 22) (c := [.int .i32 (scaledW (upW x0 15) (rootW (squareW x0 x1 x2)).1 (rootW (squareW x0 x1 x2)).2).v, .int .i32 0, .int .i32 0])).1
          have hk := hK.put 10 22 [.int .i32 (scaledW (upW x0 15) (rootW (squareW x0 x1 x2)).1 (rootW (squareW x0 x1 x2)).2).v, .int .i32 0, .int .i32 0] [.int .i32 (scaledW (upW x0 15) (rootW (squareW x0 x1 x2)).1 (rootW (squareW x0 x1 x2)).2).v, .int .i32 (scaledW (upW (x1) (15)) ((rootW (squareW x0 x1 x2)).1) ((rootW (squareW x0 x1 x2)).2)).v, .int .i32 0]
          have hO : γ 10 = bo2 := hp.old 10 (Nat.le_trans (Nat.le_of_eq (by kernel_rfl : _ = 10)) (by decide : 10 ≤ 10))
          rw [hO] at hb hk
          have z1 := hb.cell' (i := 1) rfl
          have f1 := hb.frozen 1
          clear hp hK
          clear hO
          go_simp
          exact hk _ (hb.set_ 1 _) ((Chg.refl wu _).setCell _ _ (.inl (by simp))) (by simp)
      · have mo := HB.out
        have mr0 := HR0.out
        replace mo : Blk wr (bo2) 22 [.int .i32 (scaledW (upW x0 15) (rootW (squareW x0 x1 x2)).1 (rootW (squareW x0 x1 x2)).2).v, .int .i32 (scaledW (upW x1 15) (rootW (squareW x0 x1 x2)).1 (rootW (squareW x0 x1 x2)).2).v, .int .i32 0] := mo
        have lto := mo.lt
        have ltr0 := mr0.lt
        clear HB HS1 pl2 y2_0 y2_1 y2_2 y2_3 fr2_0 fr2_1 fr2_2 fn2 HC2 mo2_0 mo2_1 HR0 lt2_1 lt2_0 hapB HTT
        have ix2 : ∀ w, (Instr.index 22 (.agg #[.int .i32 x0.v, .int .i32 x1.v, .int .i32 x2.v]) (.int .i64 2)).run Tryz.prog w = .ok (.int .i32 x2.v) w := fun _ => by kernel_rfl
        go_wp2_with fail
        obtain ⟨CL, hCL⟩ : ∃ l : List (Addr × Value), l = [(⟨w.heap.size, 0, none⟩, .iface 74 (.pointer (some ⟨b, 0, none⟩))), (⟨w.heap.size + 1, 0, none⟩, .int .i32 (x0).v), (⟨w.heap.size + 1, 1, none⟩, .int .i32 (x1).v), (⟨w.heap.size + 1, 2, none⟩, .int .i32 (x2).v)] := ⟨_, rfl⟩
        have HS0 : Sp wr b (fun _ => (most (n + 1))) [bo2, w.heap.size + 1 + 1] CL 0 wr.drew := Sp.start plr (by rw [hCL]; simp only [List.forall_mem_cons]; exact ⟨yr0, yr1, yr2, yr3, by simp⟩)
        have hap : Apart wr b [bo2, w.heap.size + 1 + 1] [w.heap.size, w.heap.size + 1] CL := ⟨by rw [hCL]; simp only [List.forall_mem_cons]; exact ⟨by simp, by simp, by simp, by simp, by simp⟩, by simp only [List.forall_mem_cons]; exact ⟨World.block_lt_of_cell? _ _ yr0, World.block_lt_of_cell? _ _ yr1, by simp⟩, by simp only [List.forall_mem_cons]; exact ⟨far0, far1, by simp⟩, by simp only [List.forall_mem_cons]; exact ⟨⟨lto, fao0⟩, ⟨ltr0, fao1⟩, by simp⟩⟩
        refine Reg.wp_region (Reg.of 10 _ _ [.int .i64 2, .agg #[.iface 74 (.pointer (some ⟨b, 0, none⟩))], .agg #[.iface 74 (.pointer (some ⟨b, 0, none⟩))], .int .i32 (x2).v, .int .i32 (upW (x2) (15)).v, .int .i32 ((rootW (squareW x0 x1 x2)).1).v, .int .i32 ((rootW (squareW x0 x1 x2)).2).v, .int .i32 (scaledW (upW (x2) (15)) ((rootW (squareW x0 x1 x2)).1) ((rootW (squareW x0 x1 x2)).2)).v, .pointer (some ⟨bo2, 2, none⟩), undef] [fun _ => undef, fun _ => undef, fun _ => undef, fun _ => undef, fun _ => undef, fun _ => undef, fun _ => undef, fun _ => undef, fun _ => undef, fun _ => undef] [.val, .val, .val, .val, .val, .val, .val, .val, .val, .put 10 [.int .i32 (scaledW (upW x0 15) (rootW (squareW x0 x1 x2)).1 (rootW (squareW x0 x1 x2)).2).v, .int .i32 (scaledW (upW x1 15) (rootW (squareW x0 x1 x2)).1 (rootW (squareW x0 x1 x2)).2).v, .int .i32 (scaledW (upW (x2) (15)) ((rootW (squareW x0 x1 x2)).1) ((rootW (squareW x0 x1 x2)).2)).v]] [(22, [.int .i32 (scaledW (upW x0 15) (rootW (squareW x0 x1 x2)).1 (rootW (squareW x0 x1 x2)).2).v, .int .i32 (scaledW (upW x1 15) (rootW (squareW x0 x1 x2)).1 (rootW (squareW x0 x1 x2)).2).v, .int .i32 0]), (22, [.int .i32 0, .int .i32 0, .int .i32 0])] [bo2, w.heap.size + 1 + 1] [] (Sp wr b (fun _ => (most (n + 1))) [bo2, w.heap.size + 1 + 1] CL) (Fp wr b [bo2, w.heap.size + 1 + 1] [w.heap.size, w.heap.size + 1])) (Reg.good_of _ 34 (by kernel_rfl) (by kernel_rfl)) (stands_p _ hap rfl rfl rfl) (by kernel_rfl) HS0 (hold_of (by kernel_rfl) ?holdwz301) (ne_of (by kernel_rfl) ?hnewz301) (Reg.steps_of _ rfl ⟨?_, ?_, ?_, ?_, ?_, ?_, ?_, ?_, ?_, ?_, trivial⟩) ?hendwz301
        case holdwz301 =>
          intro k T c hk
          cases k with
          | zero => simp only [List.getElem?_cons_zero, Option.some.injEq, Prod.mk.injEq] at hk; obtain ⟨rfl, rfl⟩ := hk; exact ⟨mo, ⟨by simp; try omega, fao0, .inl (by simp)⟩⟩
          | succ k =>
            cases k with
            | zero => simp only [List.getElem?_cons_succ, List.getElem?_cons_zero, Option.some.injEq, Prod.mk.injEq] at hk; obtain ⟨rfl, rfl⟩ := hk; exact ⟨mr0, ⟨by simp; try omega, fao1, .inl (by simp)⟩⟩
            | succ k =>
              simp at hk
        case hnewz301 => intro i j hi hj hne; have hi2 : i < 2 := hi; have hj2 : j < 2 := hj; rcases (by omega : i = 0 ∨ i = 1) with rfl | rfl <;> rcases (by omega : j = 0 ∨ j = 1) with rfl | rfl <;> first | exact absurd rfl hne | (simp only [List.getD_cons_zero, List.getD_cons_succ]; omega)
        case hendwz301 =>
          intro wz301 γ hSz hBz hnez hOz
          replace hSz : Sp wr b (fun _ => (most (n + 1))) [bo2, w.heap.size + 1 + 1] CL 0 wz301 := hSz
          have ob0 : Blk wz301 (bo2) 22 [.int .i32 (scaledW (upW x0 15) (rootW (squareW x0 x1 x2)).1 (rootW (squareW x0 x1 x2)).2).v, .int .i32 (scaledW (upW x1 15) (rootW (squareW x0 x1 x2)).1 (rootW (squareW x0 x1 x2)).2).v, .int .i32 (scaledW (upW (x2) (15)) ((rootW (squareW x0 x1 x2)).1) ((rootW (squareW x0 x1 x2)).2)).v] := by have h := (hBz 10 22 [.int .i32 (scaledW (upW x0 15) (rootW (squareW x0 x1 x2)).1 (rootW (squareW x0 x1 x2)).2).v, .int .i32 (scaledW (upW x1 15) (rootW (squareW x0 x1 x2)).1 (rootW (squareW x0 x1 x2)).2).v, .int .i32 0] (by kernel_rfl) [.int .i32 (scaledW (upW x0 15) (rootW (squareW x0 x1 x2)).1 (rootW (squareW x0 x1 x2)).2).v, .int .i32 (scaledW (upW x1 15) (rootW (squareW x0 x1 x2)).1 (rootW (squareW x0 x1 x2)).2).v, .int .i32 (scaledW (upW (x2) (15)) ((rootW (squareW x0 x1 x2)).1) ((rootW (squareW x0 x1 x2)).2)).v] (by kernel_rfl)).1; rw [hOz 10 (Nat.le_trans (Nat.le_of_eq (by kernel_rfl : _ = 10)) (by decide : 10 ≤ 10))] at h; exact h
          have ob1 : Blk wz301 (w.heap.size + 1 + 1) 22 [.int .i32 0, .int .i32 0, .int .i32 0] := by have h := (hBz 11 22 [.int .i32 0, .int .i32 0, .int .i32 0] (by kernel_rfl) [.int .i32 0, .int .i32 0, .int .i32 0] (by kernel_rfl)).1; rw [hOz 11 (Nat.le_trans (Nat.le_of_eq (by kernel_rfl : _ = 10)) (by decide : 10 ≤ 11))] at h; exact h
          refine end_of [(23, .int .i64 2), (24, .agg #[.iface 74 (.pointer (some ⟨b, 0, none⟩))]), (25, .agg #[.iface 74 (.pointer (some ⟨b, 0, none⟩))]), (26, .int .i32 (x2).v), (27, .int .i32 (upW (x2) (15)).v), (28, .int .i32 ((rootW (squareW x0 x1 x2)).1).v), (29, .int .i32 ((rootW (squareW x0 x1 x2)).2).v), (30, .int .i32 (scaledW (upW (x2) (15)) ((rootW (squareW x0 x1 x2)).1) ((rootW (squareW x0 x1 x2)).2)).v), (31, .pointer (some ⟨bo2, 2, none⟩))] (by kernel_rfl) ?_
          clear hBz hnez hOz HS0
          simp only [Reg.of, List.foldl_cons, List.foldl_nil, List.setIfInBounds_toArray, List.set_cons_zero, List.set_cons_succ]
          have HC301 := hide (HS.out.region hSz (by simp; try omega))
          have pl301 := hSz.pl
          have fr301_0 := hSz.apart hap (w.heap.size) (by simp)
          have fr301_1 := hSz.apart hap (w.heap.size + 1) (by simp)
          have fr301_2 := hSz.turn_far lto fao0
          have fr301_3 := hSz.turn_far ltr0 fao1
          have lt301_0 := ob0.lt
          have lt301_1 := ob1.lt
          have y301_0 : wz301.cell? ⟨w.heap.size, 0, none⟩ = some (.iface 74 (.pointer (some ⟨b, 0, none⟩))) := hSz.at_ 0 _ _ (by rw [hCL]; rfl)
          have y301_1 : wz301.cell? ⟨w.heap.size + 1, 0, none⟩ = some (.int .i32 (x0).v) := hSz.at_ 1 _ _ (by rw [hCL]; rfl)
          have y301_2 : wz301.cell? ⟨w.heap.size + 1, 1, none⟩ = some (.int .i32 (x1).v) := hSz.at_ 2 _ _ (by rw [hCL]; rfl)
          have y301_3 : wz301.cell? ⟨w.heap.size + 1, 2, none⟩ = some (.int .i32 (x2).v) := hSz.at_ 3 _ _ (by rw [hCL]; rfl)
          clear hSz hCL hap CL yr0 yr1 yr2 yr3 HS mo mr0 far0 fao1 far1 fao0 lto ltr0 plr
          have mo301_0 := ob0
          clear ob0
          have mo301_1 := ob1
          clear ob1
          go_wp2
          go_roundw
          case rel => exact ⟨3, by omega, by go_num, HC301.out.with_ (by rw [hCB]; simp only [List.forall_mem_cons]; exact ⟨y301_0, y301_1, y301_2, y301_3, by simp⟩), mo301_0, mo301_1⟩
          case measure => simp [intOf]
        · intro a wu γ nph K hp hK
          obtain ⟨e8a, e8b⟩ := hp.old_ 8 (.int .i64 2)
          have hk := hK.pure (.int .i64 2) hp.S
          clear hp hK
          go_simp
          exact hk
        · intro a wu γ nph K hp hK
          obtain ⟨e2a, e2b⟩ := hp.old_ 2 (.pointer (some ⟨w.heap.size, 0, none⟩))
          have hS : Sp wr b (fun _ => (most (n + 1))) [bo2, w.heap.size + 1 + 1] CL nph wu := hp.S
          have c0 := hS.at_ 0 ⟨w.heap.size, 0, none⟩ (.iface 74 (.pointer (some ⟨b, 0, none⟩))) (by rw [hCL]; rfl)
          have hk := hK.pure (.agg #[.iface 74 (.pointer (some ⟨b, 0, none⟩))]) hp.S
          clear hp hK hS
          go_simp
          exact hk
        · intro a wu γ nph K hp hK
          obtain ⟨e2a, e2b⟩ := hp.old_ 2 (.pointer (some ⟨w.heap.size, 0, none⟩))
          have hS : Sp wr b (fun _ => (most (n + 1))) [bo2, w.heap.size + 1 + 1] CL nph wu := hp.S
          have c0 := hS.at_ 0 ⟨w.heap.size, 0, none⟩ (.iface 74 (.pointer (some ⟨b, 0, none⟩))) (by rw [hCL]; rfl)
          have hk := hK.pure (.agg #[.iface 74 (.pointer (some ⟨b, 0, none⟩))]) hp.S
          clear hp hK hS
          go_simp
          exact hk
        · intro a wu γ nph K hp hK
          obtain ⟨e9a, e9b⟩ := hp.old_ 9 (.int .i32 (x2).v)
          have hk := hK.pure (.int .i32 (x2).v) hp.S
          clear hp hK
          go_simp
          exact hk
        · intro a wu γ nph K hp hK
          obtain ⟨e25a, e25b⟩ := hp.dep_ 25 2 (.agg #[.iface 74 (.pointer (some ⟨b, 0, none⟩))])
          obtain ⟨e26a, e26b⟩ := hp.dep_ 26 3 (.int .i32 (x2).v)
          have hS : Sp wr b (fun _ => (most (n + 1))) [bo2, w.heap.size + 1 + 1] CL nph wu := hp.S
          have hk := hK.call (.int .i32 (upW (x2) (15)).v)
          clear hp hK
          go_simp
          refine (w_up _ _ _ _ (by decide)).mono ?_
          rintro e w7 ⟨rfl, hcX⟩
          exact hk _ (hS.call hcX) (Reg.keep_callp _ rfl hS hcX)
        · intro a wu γ nph K hp hK
          obtain ⟨e5a, e5b⟩ := hp.old_ 5 (.int .i32 ((rootW (squareW x0 x1 x2)).1).v)
          have hk := hK.pure (.int .i32 ((rootW (squareW x0 x1 x2)).1).v) hp.S
          clear hp hK
          go_simp
          exact hk
        · intro a wu γ nph K hp hK
          obtain ⟨e6a, e6b⟩ := hp.old_ 6 (.int .i32 ((rootW (squareW x0 x1 x2)).2).v)
          have hk := hK.pure (.int .i32 ((rootW (squareW x0 x1 x2)).2).v) hp.S
          clear hp hK
          go_simp
          exact hk
        · intro a wu γ nph K hp hK
          obtain ⟨e24a, e24b⟩ := hp.dep_ 24 1 (.agg #[.iface 74 (.pointer (some ⟨b, 0, none⟩))])
          obtain ⟨e27a, e27b⟩ := hp.dep_ 27 4 (.int .i32 (upW (x2) (15)).v)
          obtain ⟨e28a, e28b⟩ := hp.dep_ 28 5 (.int .i32 ((rootW (squareW x0 x1 x2)).1).v)
          obtain ⟨e29a, e29b⟩ := hp.dep_ 29 6 (.int .i32 ((rootW (squareW x0 x1 x2)).2).v)
          have hS : Sp wr b (fun _ => (most (n + 1))) [bo2, w.heap.size + 1 + 1] CL nph wu := hp.S
          have hk := hK.call (.int .i32 (scaledW (upW (x2) (15)) ((rootW (squareW x0 x1 x2)).1) ((rootW (squareW x0 x1 x2)).2)).v)
          clear hp hK
          go_simp
          refine (wscaled_calls _ _ _ _ _).mono ?_
          rintro e w7 ⟨rfl, hcX⟩
          exact hk _ (hS.call hcX) (Reg.keep_callp _ rfl hS hcX)
        · intro a wu γ nph K hp hK
          obtain ⟨e7a, e7b⟩ := hp.old_ 7 (.pointer (some ⟨bo2, 0, none⟩))
          obtain ⟨e23a, e23b⟩ := hp.dep_ 23 0 (.int .i64 2)
          have hk := hK.pure (.pointer (some ⟨bo2, 2, none⟩)) hp.S
          clear hp hK
          go_simp
          exact hk
        · intro a wu γ nph K hp hK
          obtain ⟨e31a, e31b⟩ := hp.dep_ 31 8 (.pointer (some ⟨bo2, 2, none⟩))
          obtain ⟨e30a, e30b⟩ := hp.dep_ 30 7 (.int .i32 (scaledW (upW (x2) (15)) ((rootW (squareW x0 x1 x2)).1) ((rootW (squareW x0 x1 x2)).2)).v)
          have hb := (hp.blk_ 10 (T := 22) (c := [.int .i32 (scaledW (upW x0 15) (rootW (squareW x0 x1 x2)).1 (rootW (squareW x0 x1 x2)).2).v, .int .i32 (scaledW (upW x1 15) (rootW (squareW x0 x1 x2)).1 (rootW (squareW x0 x1 x2)).2).v, .int .i32 0])).1
          have hk := hK.put 10 22 [.int .i32 (scaledW (upW x0 15) (rootW (squareW x0 x1 x2)).1 (rootW (squareW x0 x1 x2)).2).v, .int .i32 (scaledW (upW x1 15) (rootW (squareW x0 x1 x2)).1 (rootW (squareW x0 x1 x2)).2).v, .int .i32 0] [.int .i32 (scaledW (upW x0 15) (rootW (squareW x0 x1 x2)).1 (rootW (squareW x0 x1 x2)).2).v, .int .i32 (scaledW (upW x1 15) (rootW (squareW x0 x1 x2)).1 (rootW (squareW x0 x1 x2)).2).v, .int .i32 (scaledW (upW (x2) (15)) ((rootW (squareW x0 x1 x2)).1) ((rootW (squareW x0 x1 x2)).2)).v]
          have hO : γ 10 = bo2 := hp.old 10 (Nat.le_trans (Nat.le_of_eq (by kernel_rfl : _ = 10)) (by decide : 10 ≤ 10))
          rw [hO] at hb hk
          have z2 := hb.cell' (i := 2) rfl
          have f2 := hb.frozen 2
          clear hp hK
          clear hO
          go_simp
          exact hk _ (hb.set_ 2 _) ((Chg.refl wu _).setCell _ _ (.inl (by simp))) (by simp)
      · have mo := HB.out
        have mr0 := HR0.out
        replace mo : Blk wr (bo2) 22 [.int .i32 (scaledW (upW x0 15) (rootW (squareW x0 x1 x2)).1 (rootW (squareW x0 x1 x2)).2).v, .int .i32 (scaledW (upW x1 15) (rootW (squareW x0 x1 x2)).1 (rootW (squareW x0 x1 x2)).2).v, .int .i32 (scaledW (upW x2 15) (rootW (squareW x0 x1 x2)).1 (rootW (squareW x0 x1 x2)).2).v] := mo
        have xo0 := mo.cell' (i := 0) rfl
        have xr0 := mr0.cell' (i := 0) rfl
        have xf0 := mr0.frozen 0
        have xo1 := mo.cell' (i := 1) rfl
        have xr1 := mr0.cell' (i := 1) rfl
        have xf1 := mr0.frozen 1
        have xo2 := mo.cell' (i := 2) rfl
        have xr2 := mr0.cell' (i := 2) rfl
        have xf2 := mr0.frozen 2
        go_wp2
        refine bodyPost_ret (v := .agg #[.int .i32 (pointW x0 x1 x2).a.v, .int .i32 (pointW x0 x1 x2).b.v, .int .i32 (pointW x0 x1 x2).c.v]) (by simp [results, Tryz.f46, go_sem, xr0, xr1, xr2]; exact ⟨rfl, rfl, rfl⟩) rfl ⟨rfl, plr.chg ((((Chg.refl wr [w.heap.size + 1 + 1]).setCell _ _ (.inl (by simp))).setCell _ _ (.inl (by simp))).setCell _ _ (.inl (by simp))) (fun j hj hm => by simp at hm; subst hm; exact fao1 hj), HTT.out.put plr ((((Chg.refl wr [w.heap.size + 1 + 1]).setCell _ _ (.inl (by simp))).setCell _ _ (.inl (by simp))).setCell _ _ (.inl (by simp))) fao1 (by omega)⟩
  · intro a wu γ nph K hp hK
    obtain ⟨e2a, e2b⟩ := hp.old_ 2 (.pointer (some ⟨w.heap.size, 0, none⟩))
    have hS : Sp w6 b (fun k => most (n + k)) [w.heap.size + 1 + 1] CL nph wu := hp.S
    have c0 := hS.at_ 0 ⟨w.heap.size, 0, none⟩ (.iface 74 (.pointer (some ⟨b, 0, none⟩))) (by rw [hCL]; rfl)
    have hk := hK.pure (.agg #[.iface 74 (.pointer (some ⟨b, 0, none⟩))]) hp.S
    clear hp hK hS
    go_simp
    exact hk
  · intro a wu γ nph K hp hK
    obtain ⟨e2a, e2b⟩ := hp.old_ 2 (.pointer (some ⟨w.heap.size, 0, none⟩))
    have hS : Sp w6 b (fun k => most (n + k)) [w.heap.size + 1 + 1] CL nph wu := hp.S
    have c0 := hS.at_ 0 ⟨w.heap.size, 0, none⟩ (.iface 74 (.pointer (some ⟨b, 0, none⟩))) (by rw [hCL]; rfl)
    have hk := hK.pure (.agg #[.iface 74 (.pointer (some ⟨b, 0, none⟩))]) hp.S
    clear hp hK hS
    go_simp
    exact hk
  · intro a wu γ nph K hp hK
    obtain ⟨e3a, e3b⟩ := hp.old_ 3 (.pointer (some ⟨w.heap.size + 1, 0, none⟩))
    have hS : Sp w6 b (fun k => most (n + k)) [w.heap.size + 1 + 1] CL nph wu := hp.S
    have c1 := hS.at_ 1 ⟨w.heap.size + 1, 0, none⟩ (.int .i32 (x0).v) (by rw [hCL]; rfl)
    have c2 := hS.at_ 2 ⟨w.heap.size + 1, 1, none⟩ (.int .i32 (x1).v) (by rw [hCL]; rfl)
    have c3 := hS.at_ 3 ⟨w.heap.size + 1, 2, none⟩ (.int .i32 (x2).v) (by rw [hCL]; rfl)
    have hk := hK.pure (.agg #[.int .i32 (x0).v, .int .i32 (x1).v, .int .i32 (x2).v]) hp.S
    clear hp hK hS
    go_simp
    exact hk
  · intro a wu γ nph K hp hK
    obtain ⟨e12a, e12b⟩ := hp.dep_ 12 1 (.agg #[.iface 74 (.pointer (some ⟨b, 0, none⟩))])
    obtain ⟨e13a, e13b⟩ := hp.dep_ 13 2 (.agg #[.int .i32 (x0).v, .int .i32 (x1).v, .int .i32 (x2).v])
    have hS : Sp w6 b (fun k => most (n + k)) [w.heap.size + 1 + 1] CL nph wu := hp.S
    have hk := hK.call (.int .i32 (squareW (x0) (x1) (x2)).v)
    clear hp hK
    go_simp
    refine (wsquare_calls _ _ _ _ _).mono ?_
    rintro e w7 ⟨rfl, hcX⟩
    exact hk _ (hS.call hcX) (Reg.keep_callp _ rfl hS hcX)
  · intro a wu γ nph K hp hK
    obtain ⟨e11a, e11b⟩ := hp.dep_ 11 0 (.agg #[.iface 74 (.pointer (some ⟨b, 0, none⟩))])
    obtain ⟨e14a, e14b⟩ := hp.dep_ 14 3 (.int .i32 (squareW (x0) (x1) (x2)).v)
    have hS : Sp w6 b (fun k => most (n + k)) [w.heap.size + 1 + 1] CL nph wu := hp.S
    have hn : nph = 0 := hp.eff 0 (by kernel_rfl)
    have hk := hK.eff (.tuple #[.int .i32 ((rootW (squareW (x0) (x1) (x2))).1).v, .int .i32 ((rootW (squareW (x0) (x1) (x2))).2).v])
    clear hp hK
    subst hn
    go_simp
    refine (wroot_calls b (squareW (x0) (x1) (x2)) _ _ (by first | assumption | (simp; omega) | omega) hS.pl).mono ?_
    rintro e w7 ⟨rfl, hpR, htR⟩
    exact hk _ (hS.eff hap hpR htR) (Reg.keep_eff _ rfl htR)
  · intro a wu γ nph K hp hK
    obtain ⟨e15a, e15b⟩ := hp.dep_ 15 4 (.tuple #[.int .i32 ((rootW (squareW (x0) (x1) (x2))).1).v, .int .i32 ((rootW (squareW (x0) (x1) (x2))).2).v])
    have hk := hK.pure (.tuple #[.int .i32 ((rootW (squareW (x0) (x1) (x2))).1).v, .int .i32 ((rootW (squareW (x0) (x1) (x2))).2).v]) hp.S
    clear hp hK
    go_simp
    exact hk
  · intro a wu γ nph K hp hK
    obtain ⟨e10a, e10b⟩ := hp.dep_ 10 5 (.tuple #[.int .i32 ((rootW (squareW (x0) (x1) (x2))).1).v, .int .i32 ((rootW (squareW (x0) (x1) (x2))).2).v])
    have hk := hK.pure (.int .i32 ((rootW (squareW (x0) (x1) (x2))).1).v) hp.S
    clear hp hK
    go_simp
    exact hk
  · intro a wu γ nph K hp hK
    obtain ⟨e10a, e10b⟩ := hp.dep_ 10 5 (.tuple #[.int .i32 ((rootW (squareW (x0) (x1) (x2))).1).v, .int .i32 ((rootW (squareW (x0) (x1) (x2))).2).v])
    have hk := hK.pure (.int .i32 ((rootW (squareW (x0) (x1) (x2))).2).v) hp.S
    clear hp hK
    go_simp
    exact hk
  · intro a wu γ nph K hp hK
    obtain ⟨e16a, e16b⟩ := hp.dep_ 16 6 (.int .i32 ((rootW (squareW (x0) (x1) (x2))).1).v)
    have hk := hK.pure (.int .i32 ((rootW (squareW (x0) (x1) (x2))).1).v) hp.S
    clear hp hK
    go_simp
    exact hk
  · intro a wu γ nph K hp hK
    obtain ⟨e17a, e17b⟩ := hp.dep_ 17 7 (.int .i32 ((rootW (squareW (x0) (x1) (x2))).2).v)
    have hk := hK.pure (.int .i32 ((rootW (squareW (x0) (x1) (x2))).2).v) hp.S
    clear hp hK
    go_simp
    exact hk

def evenW (x0 x1 x2 x3 : Wd) : Q4 := ⟨scaledW x0 (rootW (addsW (normW x0 [x1, x2, x3]) (kW 1024))).1 (rootW (addsW (normW x0 [x1, x2, x3]) (kW 1024))).2, scaledW x1 (rootW (addsW (normW x0 [x1, x2, x3]) (kW 1024))).1 (rootW (addsW (normW x0 [x1, x2, x3]) (kW 1024))).2, scaledW x2 (rootW (addsW (normW x0 [x1, x2, x3]) (kW 1024))).1 (rootW (addsW (normW x0 [x1, x2, x3]) (kW 1024))).2, scaledW x3 (rootW (addsW (normW x0 [x1, x2, x3]) (kW 1024))).1 (rootW (addsW (normW x0 [x1, x2, x3]) (kW 1024))).2⟩
def wevenL (x0 x1 x2 x3 : Wd) : Nat → List Value
  | 0 => [.int .i32 (x0).v, .int .i32 (x1).v, .int .i32 (x2).v, .int .i32 (x3).v]
  | 1 => [.int .i32 (scaledW x0 (rootW (addsW (normW x0 [x1, x2, x3]) (kW 1024))).1 (rootW (addsW (normW x0 [x1, x2, x3]) (kW 1024))).2).v, .int .i32 (x1).v, .int .i32 (x2).v, .int .i32 (x3).v]
  | 2 => [.int .i32 (scaledW x0 (rootW (addsW (normW x0 [x1, x2, x3]) (kW 1024))).1 (rootW (addsW (normW x0 [x1, x2, x3]) (kW 1024))).2).v, .int .i32 (scaledW x1 (rootW (addsW (normW x0 [x1, x2, x3]) (kW 1024))).1 (rootW (addsW (normW x0 [x1, x2, x3]) (kW 1024))).2).v, .int .i32 (x2).v, .int .i32 (x3).v]
  | 3 => [.int .i32 (scaledW x0 (rootW (addsW (normW x0 [x1, x2, x3]) (kW 1024))).1 (rootW (addsW (normW x0 [x1, x2, x3]) (kW 1024))).2).v, .int .i32 (scaledW x1 (rootW (addsW (normW x0 [x1, x2, x3]) (kW 1024))).1 (rootW (addsW (normW x0 [x1, x2, x3]) (kW 1024))).2).v, .int .i32 (scaledW x2 (rootW (addsW (normW x0 [x1, x2, x3]) (kW 1024))).1 (rootW (addsW (normW x0 [x1, x2, x3]) (kW 1024))).2).v, .int .i32 (x3).v]
  | _ => [.int .i32 (scaledW x0 (rootW (addsW (normW x0 [x1, x2, x3]) (kW 1024))).1 (rootW (addsW (normW x0 [x1, x2, x3]) (kW 1024))).2).v, .int .i32 (scaledW x1 (rootW (addsW (normW x0 [x1, x2, x3]) (kW 1024))).1 (rootW (addsW (normW x0 [x1, x2, x3]) (kW 1024))).2).v, .int .i32 (scaledW x2 (rootW (addsW (normW x0 [x1, x2, x3]) (kW 1024))).1 (rootW (addsW (normW x0 [x1, x2, x3]) (kW 1024))).2).v, .int .i32 (scaledW x3 (rootW (addsW (normW x0 [x1, x2, x3]) (kW 1024))).1 (rootW (addsW (normW x0 [x1, x2, x3]) (kW 1024))).2).v]
set_option maxRecDepth 100000 in
set_option maxHeartbeats 8000000 in
theorem weven_calls (b : Nat) (x0 x1 x2 x3 : Wd) (n : Nat) (w : World) (hn : n ≤ 900) (hpl : PlR w b (most n)) :
    Calls Tryz.prog 71 #[.agg #[.iface 74 (.pointer (some ⟨b, 0, none⟩))], .agg #[.int .i32 x0.v, .int .i32 x1.v, .int .i32 x2.v, .int .i32 x3.v]] w fun e w' => e = .returned (.agg #[.int .i32 (evenW x0 x1 x2 x3).a.v, .int .i32 (evenW x0 x1 x2 x3).b.v, .int .i32 (evenW x0 x1 x2 x3).c.v, .int .i32 (evenW x0 x1 x2 x3).d.v]) ∧ PlR w' b (most (n + 1)) ∧ Turn w b w' := by
  have k0 := Blk.new w 52 [.iface 74 (.pointer (some ⟨b, 0, none⟩))]
  have m0 := ((k0.alloc (.cells #[.int .i32 x0.v, .int .i32 x1.v, .int .i32 x2.v, .int .i32 x3.v] 27)).alloc (.cells #[.int .i32 0, .int .i32 0, .int .i32 0, .int .i32 0] 27))
  have g0_0 := m0.cell' (i := 0) rfl
  have k1 := Blk.new (w.alloc (.cells #[.iface 74 (.pointer (some ⟨b, 0, none⟩))] 52)) 27 [.int .i32 x0.v, .int .i32 x1.v, .int .i32 x2.v, .int .i32 x3.v]
  have m1 := (k1.alloc (.cells #[.int .i32 0, .int .i32 0, .int .i32 0, .int .i32 0] 27))
  simp only [size_alloc] at m1
  have g1_0 := m1.cell' (i := 0) rfl
  have g1_1 := m1.cell' (i := 1) rfl
  have g1_2 := m1.cell' (i := 2) rfl
  have g1_3 := m1.cell' (i := 3) rfl
  have k2 := Blk.new ((w.alloc (.cells #[.iface 74 (.pointer (some ⟨b, 0, none⟩))] 52)).alloc (.cells #[.int .i32 x0.v, .int .i32 x1.v, .int .i32 x2.v, .int .i32 x3.v] 27)) 27 [.int .i32 0, .int .i32 0, .int .i32 0, .int .i32 0]
  have m2 := k2
  simp only [size_alloc] at m2
  have g2_0 := m2.cell' (i := 0) rfl
  have g2_1 := m2.cell' (i := 1) rfl
  have g2_2 := m2.cell' (i := 2) rfl
  have g2_3 := m2.cell' (i := 3) rfl
  have HC := hide ((((Chg.refl w []).alloc (.cells #[.iface 74 (.pointer (some ⟨b, 0, none⟩))] 52)).alloc (.cells #[.int .i32 x0.v, .int .i32 x1.v, .int .i32 x2.v, .int .i32 x3.v] 27)).alloc (.cells #[.int .i32 0, .int .i32 0, .int .i32 0, .int .i32 0] 27))
  clear k0 k1 k2
  have h1 := nil_const ⟨b, 0, none⟩
  have h2 := meth_const ⟨b, 0, none⟩
  have h3 := nil_get ⟨b, 0, none⟩
  have h4 := meth_get ⟨b, 0, none⟩
  have h5 := nil_set ⟨b, 0, none⟩
  have h6 := meth_set ⟨b, 0, none⟩
  have h7 := nil_cell ⟨b, 0, none⟩
  have h8 := meth_cell ⟨b, 0, none⟩
  have h9 := nil_loop ⟨b, 0, none⟩
  have h10 := meth_loop ⟨b, 0, none⟩
  have HT0 : Hid (Turn w b (((w.alloc (.cells #[.iface 74 (.pointer (some ⟨b, 0, none⟩))] 52)).alloc (.cells #[.int .i32 x0.v, .int .i32 x1.v, .int .i32 x2.v, .int .i32 x3.v] 27)).alloc (.cells #[.int .i32 0, .int .i32 0, .int .i32 0, .int .i32 0] 27))) := hide (Turn.call hpl HC.out)
  have hfar := far_of hpl HC.out
  have fb0 := hfar (w.heap.size) (Nat.le_refl _)
  have fb1 := hfar (w.heap.size + 1) (by omega)
  have fb2 := hfar (w.heap.size + 1 + 1) (by omega)
  have lb1 := m1.lt
  have lb2 := m2.lt
  have hp6 := hpl.chg HC.out (by simp)
  clear hfar HC m0 g1_0 g2_0 g1_1 g2_1 g1_2 g2_2 g1_3 g2_3
  go_enter Tryz.func71, Tryz.ntmps71
  go_wp2_with fail
  generalize (((w.alloc (.cells #[.iface 74 (.pointer (some ⟨b, 0, none⟩))] 52)).alloc (.cells #[.int .i32 x0.v, .int .i32 x1.v, .int .i32 x2.v, .int .i32 x3.v] 27)).alloc (.cells #[.int .i32 0, .int .i32 0, .int .i32 0, .int .i32 0] 27)) = w6 at *
  obtain ⟨CL, hCL⟩ : ∃ l : List (Addr × Value), l = [(⟨w.heap.size, 0, none⟩, .iface 74 (.pointer (some ⟨b, 0, none⟩)))] := ⟨_, rfl⟩
  have HS0 : Sp w6 b (fun k => most (n + k)) [w.heap.size + 1, w.heap.size + 1 + 1] CL 0 w6.drew := Sp.start hp6 (by rw [hCL]; simp only [List.forall_mem_cons]; exact ⟨g0_0, by simp⟩)
  have hap : Apart w6 b [w.heap.size + 1, w.heap.size + 1 + 1] [w.heap.size] CL := ⟨by rw [hCL]; simp only [List.forall_mem_cons]; exact ⟨by simp, by simp⟩, by simp only [List.forall_mem_cons]; exact ⟨World.block_lt_of_cell? _ _ g0_0, by simp⟩, by simp only [List.forall_mem_cons]; exact ⟨fb0, by simp⟩, by simp only [List.forall_mem_cons]; exact ⟨⟨lb1, fb1⟩, ⟨lb2, fb2⟩, by simp⟩⟩
  refine Reg.wp_region (Reg.of 15 _ _ [.agg #[.iface 74 (.pointer (some ⟨b, 0, none⟩))], .agg #[.iface 74 (.pointer (some ⟨b, 0, none⟩))], .agg #[.iface 74 (.pointer (some ⟨b, 0, none⟩))], .slice (some ⟨w.heap.size + 1, 0, none⟩) 4 4, .int .i32 (normW (x0) [x1, x2, x3]).v, .pointer (some ⟨w.heap.size, 0, none⟩), .iface 74 (.pointer (some ⟨b, 0, none⟩)), .int .i32 (kW (1024)).v, .int .i32 (addsW (normW (x0) [x1, x2, x3]) (kW (1024))).v, .tuple #[.int .i32 ((rootW (addsW (normW (x0) [x1, x2, x3]) (kW (1024)))).1).v, .int .i32 ((rootW (addsW (normW (x0) [x1, x2, x3]) (kW (1024)))).2).v], .tuple #[.int .i32 ((rootW (addsW (normW (x0) [x1, x2, x3]) (kW (1024)))).1).v, .int .i32 ((rootW (addsW (normW (x0) [x1, x2, x3]) (kW (1024)))).2).v], .int .i32 ((rootW (addsW (normW (x0) [x1, x2, x3]) (kW (1024)))).1).v, .int .i32 ((rootW (addsW (normW (x0) [x1, x2, x3]) (kW (1024)))).2).v, .int .i32 ((rootW (addsW (normW (x0) [x1, x2, x3]) (kW (1024)))).1).v, .int .i32 ((rootW (addsW (normW (x0) [x1, x2, x3]) (kW (1024)))).2).v] [fun _ => undef, fun _ => undef, fun _ => undef, fun _ => undef, fun _ => undef, fun _ => undef, fun _ => undef, fun _ => undef, fun _ => undef, fun _ => undef, fun _ => undef, fun _ => undef, fun _ => undef, fun _ => undef, fun _ => undef] [.val, .val, .val, .val, .val, .val, .val, .val, .val, .val, .val, .val, .val, .val, .val] [(27, [.int .i32 (x0).v, .int .i32 (x1).v, .int .i32 (x2).v, .int .i32 (x3).v]), (27, [.int .i32 0, .int .i32 0, .int .i32 0, .int .i32 0])] [w.heap.size + 1, w.heap.size + 1 + 1] [9] (Sp w6 b (fun k => most (n + k)) [w.heap.size + 1, w.heap.size + 1 + 1] CL) (Fp w6 b [w.heap.size + 1, w.heap.size + 1 + 1] [w.heap.size])) (Reg.good_of _ 35 (by kernel_rfl) (by kernel_rfl)) (stands_p _ hap rfl rfl rfl) (by kernel_rfl) HS0 (hold_of (by kernel_rfl) ?holdwz1) (ne_of (by kernel_rfl) ?hnewz1) (Reg.steps_of _ rfl ⟨?_, ?_, ?_, ?_, ?_, ?_, ?_, ?_, ?_, ?_, ?_, ?_, ?_, ?_, ?_, trivial⟩) ?hendwz1
  case holdwz1 =>
    intro k T c hk
    cases k with
    | zero => simp only [List.getElem?_cons_zero, Option.some.injEq, Prod.mk.injEq] at hk; obtain ⟨rfl, rfl⟩ := hk; exact ⟨m1, ⟨by simp; try omega, fb1, .inl (by simp)⟩⟩
    | succ k =>
      cases k with
      | zero => simp only [List.getElem?_cons_succ, List.getElem?_cons_zero, Option.some.injEq, Prod.mk.injEq] at hk; obtain ⟨rfl, rfl⟩ := hk; exact ⟨m2, ⟨by simp; try omega, fb2, .inl (by simp)⟩⟩
      | succ k =>
        simp at hk
  case hnewz1 => intro i j hi hj hne; have hi2 : i < 2 := hi; have hj2 : j < 2 := hj; rcases (by omega : i = 0 ∨ i = 1) with rfl | rfl <;> rcases (by omega : j = 0 ∨ j = 1) with rfl | rfl <;> first | exact absurd rfl hne | (simp only [List.getD_cons_zero, List.getD_cons_succ]; omega)
  case hendwz1 =>
    intro wz1 γ hSz hBz hnez hOz
    replace hSz : Sp w6 b (fun k => most (n + k)) [w.heap.size + 1, w.heap.size + 1 + 1] CL 1 wz1 := hSz
    have ob0 : Blk wz1 (w.heap.size + 1) 27 [.int .i32 (x0).v, .int .i32 (x1).v, .int .i32 (x2).v, .int .i32 (x3).v] := by have h := (hBz 15 27 [.int .i32 (x0).v, .int .i32 (x1).v, .int .i32 (x2).v, .int .i32 (x3).v] (by kernel_rfl) [.int .i32 (x0).v, .int .i32 (x1).v, .int .i32 (x2).v, .int .i32 (x3).v] (by kernel_rfl)).1; rw [hOz 15 (Nat.le_trans (Nat.le_of_eq (by kernel_rfl : _ = 15)) (by decide : 15 ≤ 15))] at h; exact h
    have ob1 : Blk wz1 (w.heap.size + 1 + 1) 27 [.int .i32 0, .int .i32 0, .int .i32 0, .int .i32 0] := by have h := (hBz 16 27 [.int .i32 0, .int .i32 0, .int .i32 0, .int .i32 0] (by kernel_rfl) [.int .i32 0, .int .i32 0, .int .i32 0, .int .i32 0] (by kernel_rfl)).1; rw [hOz 16 (Nat.le_trans (Nat.le_of_eq (by kernel_rfl : _ = 15)) (by decide : 15 ≤ 16))] at h; exact h
    refine end_of [(5, .int .i32 ((rootW (addsW (normW (x0) [x1, x2, x3]) (kW (1024)))).1).v), (6, .int .i32 ((rootW (addsW (normW (x0) [x1, x2, x3]) (kW (1024)))).2).v), (8, .tuple #[.int .i32 ((rootW (addsW (normW (x0) [x1, x2, x3]) (kW (1024)))).1).v, .int .i32 ((rootW (addsW (normW (x0) [x1, x2, x3]) (kW (1024)))).2).v]), (9, .agg #[.iface 74 (.pointer (some ⟨b, 0, none⟩))]), (10, .agg #[.iface 74 (.pointer (some ⟨b, 0, none⟩))]), (11, .agg #[.iface 74 (.pointer (some ⟨b, 0, none⟩))]), (12, .slice (some ⟨w.heap.size + 1, 0, none⟩) 4 4), (13, .int .i32 (normW (x0) [x1, x2, x3]).v), (14, .pointer (some ⟨w.heap.size, 0, none⟩)), (15, .iface 74 (.pointer (some ⟨b, 0, none⟩))), (16, .int .i32 (kW (1024)).v), (17, .int .i32 (addsW (normW (x0) [x1, x2, x3]) (kW (1024))).v), (18, .tuple #[.int .i32 ((rootW (addsW (normW (x0) [x1, x2, x3]) (kW (1024)))).1).v, .int .i32 ((rootW (addsW (normW (x0) [x1, x2, x3]) (kW (1024)))).2).v]), (19, .int .i32 ((rootW (addsW (normW (x0) [x1, x2, x3]) (kW (1024)))).1).v), (20, .int .i32 ((rootW (addsW (normW (x0) [x1, x2, x3]) (kW (1024)))).2).v)] (by kernel_rfl) ?_
    clear hBz hnez hOz HS0
    simp only [Reg.of, List.foldl_cons, List.foldl_nil, List.setIfInBounds_toArray, List.set_cons_zero, List.set_cons_succ]
    have HC1 := hide (HT0.out.region hSz (by simp; try omega))
    have pl1 := hSz.pl
    have fr1_0 := hSz.apart hap (w.heap.size) (by simp)
    have fr1_1 := hSz.turn_far lb1 fb1
    have fr1_2 := hSz.turn_far lb2 fb2
    have lt1_0 := ob0.lt
    have lt1_1 := ob1.lt
    have y1_0 : wz1.cell? ⟨w.heap.size, 0, none⟩ = some (.iface 74 (.pointer (some ⟨b, 0, none⟩))) := hSz.at_ 0 _ _ (by rw [hCL]; rfl)
    clear hSz hCL hap CL g0_0 HT0 m1 m2 fb0 fb1 fb2 lb2 lb1 hp6
    have mo1_0 := ob0
    clear ob0
    have mo1_1 := ob1
    clear ob1
    go_wp2_with fail
    obtain ⟨CB, hCB⟩ : ∃ l : List (Addr × Value), l = [(⟨w.heap.size, 0, none⟩, .iface 74 (.pointer (some ⟨b, 0, none⟩)))] := ⟨_, rfl⟩
    have hapB : Apart wz1 b [w.heap.size + 1, w.heap.size + 1 + 1] [w.heap.size] CB := ⟨by rw [hCB]; simp only [List.forall_mem_cons]; exact ⟨by simp, by simp⟩, by simp only [List.forall_mem_cons]; exact ⟨World.block_lt_of_cell? _ _ y1_0, by simp⟩, by simp only [List.forall_mem_cons]; exact ⟨fr1_0, by simp⟩, by simp only [List.forall_mem_cons]; exact ⟨⟨lt1_0, fr1_1⟩, ⟨lt1_1, fr1_2⟩, by simp⟩⟩
    have HS1 : Hid (Sp wz1 b (fun _ => most (n + 1)) [w.heap.size + 1, w.heap.size + 1 + 1] CB 0 wz1) := hide (Sp.here pl1 (by rw [hCB]; simp only [List.forall_mem_cons]; exact ⟨y1_0, by simp⟩))
    go_loopw [21] (fun i wr => ∃ k : Nat, k ≤ 4 ∧ i = .int .i64 k ∧ Hid (Sp wz1 b (fun _ => most (n + 1)) [w.heap.size + 1, w.heap.size + 1 + 1] CB 0 wr) ∧ Hid (Blk wr (w.heap.size + 1) 27 (wevenL x0 x1 x2 x3 k)) ∧ Hid (Blk wr (w.heap.size + 1 + 1) 27 [.int .i32 0, .int .i32 0, .int .i32 0, .int .i32 0])) (fun i _ => 4 - (intOf i).toNat)
    case atStart => exact ⟨0, Nat.zero_le _, rfl, HS1, mo1_0, mo1_1⟩
    case round =>
      obtain ⟨k, hk, rfl, HS, HB, HR0⟩ := hrel
      have yr0 : wr.cell? ⟨w.heap.size, 0, none⟩ = some (.iface 74 (.pointer (some ⟨b, 0, none⟩))) := HS.out.at_ 0 _ _ (by rw [hCB]; rfl)
      have far0 := HS.out.apart hapB (w.heap.size) (by simp)
      have fao0 := HS.out.turn_far lt1_0 fr1_1
      have fao1 := HS.out.turn_far lt1_1 fr1_2
      have HTT := hide (HC1.out.region HS.out (by simp; try omega))
      have plr := HS.out.pl
      rcases (by omega : k = 0 ∨ k = 1 ∨ k = 2 ∨ k = 3 ∨ k = 4) with rfl | rfl | rfl | rfl | rfl
      · have mo := HB.out
        have mr0 := HR0.out
        replace mo : Blk wr (w.heap.size + 1) 27 [.int .i32 (x0).v, .int .i32 (x1).v, .int .i32 (x2).v, .int .i32 (x3).v] := mo
        have lto := mo.lt
        have ltr0 := mr0.lt
        clear HB HS1 pl1 y1_0 fr1_0 fr1_1 fr1_2 HC1 mo1_0 mo1_1 HR0 lt1_0 lt1_1 hapB HTT
        go_wp2_with fail
        obtain ⟨CL, hCL⟩ : ∃ l : List (Addr × Value), l = [(⟨w.heap.size, 0, none⟩, .iface 74 (.pointer (some ⟨b, 0, none⟩)))] := ⟨_, rfl⟩
        have HS0 : Sp wr b (fun _ => (most (n + 1))) [w.heap.size + 1, w.heap.size + 1 + 1] CL 0 wr.drew := Sp.start plr (by rw [hCL]; simp only [List.forall_mem_cons]; exact ⟨yr0, by simp⟩)
        have hap : Apart wr b [w.heap.size + 1, w.heap.size + 1 + 1] [w.heap.size] CL := ⟨by rw [hCL]; simp only [List.forall_mem_cons]; exact ⟨by simp, by simp⟩, by simp only [List.forall_mem_cons]; exact ⟨World.block_lt_of_cell? _ _ yr0, by simp⟩, by simp only [List.forall_mem_cons]; exact ⟨far0, by simp⟩, by simp only [List.forall_mem_cons]; exact ⟨⟨lto, fao0⟩, ⟨ltr0, fao1⟩, by simp⟩⟩
        refine Reg.wp_region (Reg.of 10 _ _ [.int .i64 0, .agg #[.iface 74 (.pointer (some ⟨b, 0, none⟩))], .int .i64 0, .pointer (some ⟨w.heap.size + 1, 0, none⟩), .int .i32 (x0).v, .int .i32 ((rootW (addsW (normW x0 [x1, x2, x3]) (kW 1024))).1).v, .int .i32 ((rootW (addsW (normW x0 [x1, x2, x3]) (kW 1024))).2).v, .int .i32 (scaledW (x0) ((rootW (addsW (normW x0 [x1, x2, x3]) (kW 1024))).1) ((rootW (addsW (normW x0 [x1, x2, x3]) (kW 1024))).2)).v, .pointer (some ⟨w.heap.size + 1, 0, none⟩), undef] [fun _ => undef, fun _ => undef, fun _ => undef, fun _ => undef, fun _ => undef, fun _ => undef, fun _ => undef, fun _ => undef, fun _ => undef, fun _ => undef] [.val, .val, .val, .val, .val, .val, .val, .val, .val, .put 10 [.int .i32 (scaledW (x0) ((rootW (addsW (normW x0 [x1, x2, x3]) (kW 1024))).1) ((rootW (addsW (normW x0 [x1, x2, x3]) (kW 1024))).2)).v, .int .i32 (x1).v, .int .i32 (x2).v, .int .i32 (x3).v]] [(27, [.int .i32 (x0).v, .int .i32 (x1).v, .int .i32 (x2).v, .int .i32 (x3).v]), (27, [.int .i32 0, .int .i32 0, .int .i32 0, .int .i32 0])] [w.heap.size + 1, w.heap.size + 1 + 1] [] (Sp wr b (fun _ => (most (n + 1))) [w.heap.size + 1, w.heap.size + 1 + 1] CL) (Fp wr b [w.heap.size + 1, w.heap.size + 1 + 1] [w.heap.size])) (Reg.good_of _ 35 (by kernel_rfl) (by kernel_rfl)) (stands_p _ hap rfl rfl rfl) (by kernel_rfl) HS0 (hold_of (by kernel_rfl) ?holdwz101) (ne_of (by kernel_rfl) ?hnewz101) (Reg.steps_of _ rfl ⟨?_, ?_, ?_, ?_, ?_, ?_, ?_, ?_, ?_, ?_, trivial⟩) ?hendwz101
        case holdwz101 =>
          intro k T c hk
          cases k with
          | zero => simp only [List.getElem?_cons_zero, Option.some.injEq, Prod.mk.injEq] at hk; obtain ⟨rfl, rfl⟩ := hk; exact ⟨mo, ⟨by simp; try omega, fao0, .inl (by simp)⟩⟩
          | succ k =>
            cases k with
            | zero => simp only [List.getElem?_cons_succ, List.getElem?_cons_zero, Option.some.injEq, Prod.mk.injEq] at hk; obtain ⟨rfl, rfl⟩ := hk; exact ⟨mr0, ⟨by simp; try omega, fao1, .inl (by simp)⟩⟩
            | succ k =>
              simp at hk
        case hnewz101 => intro i j hi hj hne; have hi2 : i < 2 := hi; have hj2 : j < 2 := hj; rcases (by omega : i = 0 ∨ i = 1) with rfl | rfl <;> rcases (by omega : j = 0 ∨ j = 1) with rfl | rfl <;> first | exact absurd rfl hne | (simp only [List.getD_cons_zero, List.getD_cons_succ]; omega)
        case hendwz101 =>
          intro wz101 γ hSz hBz hnez hOz
          replace hSz : Sp wr b (fun _ => (most (n + 1))) [w.heap.size + 1, w.heap.size + 1 + 1] CL 0 wz101 := hSz
          have ob0 : Blk wz101 (w.heap.size + 1) 27 [.int .i32 (scaledW (x0) ((rootW (addsW (normW x0 [x1, x2, x3]) (kW 1024))).1) ((rootW (addsW (normW x0 [x1, x2, x3]) (kW 1024))).2)).v, .int .i32 (x1).v, .int .i32 (x2).v, .int .i32 (x3).v] := by have h := (hBz 10 27 [.int .i32 (x0).v, .int .i32 (x1).v, .int .i32 (x2).v, .int .i32 (x3).v] (by kernel_rfl) [.int .i32 (scaledW (x0) ((rootW (addsW (normW x0 [x1, x2, x3]) (kW 1024))).1) ((rootW (addsW (normW x0 [x1, x2, x3]) (kW 1024))).2)).v, .int .i32 (x1).v, .int .i32 (x2).v, .int .i32 (x3).v] (by kernel_rfl)).1; rw [hOz 10 (Nat.le_trans (Nat.le_of_eq (by kernel_rfl : _ = 10)) (by decide : 10 ≤ 10))] at h; exact h
          have ob1 : Blk wz101 (w.heap.size + 1 + 1) 27 [.int .i32 0, .int .i32 0, .int .i32 0, .int .i32 0] := by have h := (hBz 11 27 [.int .i32 0, .int .i32 0, .int .i32 0, .int .i32 0] (by kernel_rfl) [.int .i32 0, .int .i32 0, .int .i32 0, .int .i32 0] (by kernel_rfl)).1; rw [hOz 11 (Nat.le_trans (Nat.le_of_eq (by kernel_rfl : _ = 10)) (by decide : 10 ≤ 11))] at h; exact h
          refine end_of [(24, .int .i64 0), (25, .agg #[.iface 74 (.pointer (some ⟨b, 0, none⟩))]), (26, .int .i64 0), (27, .pointer (some ⟨w.heap.size + 1, 0, none⟩)), (28, .int .i32 (x0).v), (29, .int .i32 ((rootW (addsW (normW x0 [x1, x2, x3]) (kW 1024))).1).v), (30, .int .i32 ((rootW (addsW (normW x0 [x1, x2, x3]) (kW 1024))).2).v), (31, .int .i32 (scaledW (x0) ((rootW (addsW (normW x0 [x1, x2, x3]) (kW 1024))).1) ((rootW (addsW (normW x0 [x1, x2, x3]) (kW 1024))).2)).v), (32, .pointer (some ⟨w.heap.size + 1, 0, none⟩))] (by kernel_rfl) ?_
          clear hBz hnez hOz HS0
          simp only [Reg.of, List.foldl_cons, List.foldl_nil, List.setIfInBounds_toArray, List.set_cons_zero, List.set_cons_succ]
          have HC101 := hide (HS.out.region hSz (by simp; try omega))
          have pl101 := hSz.pl
          have fr101_0 := hSz.apart hap (w.heap.size) (by simp)
          have fr101_1 := hSz.turn_far lto fao0
          have fr101_2 := hSz.turn_far ltr0 fao1
          have lt101_0 := ob0.lt
          have lt101_1 := ob1.lt
          have y101_0 : wz101.cell? ⟨w.heap.size, 0, none⟩ = some (.iface 74 (.pointer (some ⟨b, 0, none⟩))) := hSz.at_ 0 _ _ (by rw [hCL]; rfl)
          clear hSz hCL hap CL yr0 HS mo mr0 far0 fao0 fao1 lto ltr0 plr
          have mo101_0 := ob0
          clear ob0
          have mo101_1 := ob1
          clear ob1
          go_wp2
          go_roundw
          case rel => exact ⟨1, by omega, by go_num, HC101.out.with_ (by rw [hCB]; simp only [List.forall_mem_cons]; exact ⟨y101_0, by simp⟩), mo101_0, mo101_1⟩
          case measure => simp [intOf]
        · intro a wu γ nph K hp hK
          obtain ⟨e7a, e7b⟩ := hp.old_ 7 (.int .i64 0)
          have hk := hK.pure (.int .i64 0) hp.S
          clear hp hK
          go_simp
          exact hk
        · intro a wu γ nph K hp hK
          obtain ⟨e2a, e2b⟩ := hp.old_ 2 (.pointer (some ⟨w.heap.size, 0, none⟩))
          have hS : Sp wr b (fun _ => (most (n + 1))) [w.heap.size + 1, w.heap.size + 1 + 1] CL nph wu := hp.S
          have c0 := hS.at_ 0 ⟨w.heap.size, 0, none⟩ (.iface 74 (.pointer (some ⟨b, 0, none⟩))) (by rw [hCL]; rfl)
          have hk := hK.pure (.agg #[.iface 74 (.pointer (some ⟨b, 0, none⟩))]) hp.S
          clear hp hK hS
          go_simp
          exact hk
        · intro a wu γ nph K hp hK
          obtain ⟨e7a, e7b⟩ := hp.old_ 7 (.int .i64 0)
          have hk := hK.pure (.int .i64 0) hp.S
          clear hp hK
          go_simp
          exact hk
        · intro a wu γ nph K hp hK
          obtain ⟨e3a, e3b⟩ := hp.old_ 3 (.pointer (some ⟨w.heap.size + 1, 0, none⟩))
          obtain ⟨e26a, e26b⟩ := hp.dep_ 26 2 (.int .i64 0)
          have hk := hK.pure (.pointer (some ⟨w.heap.size + 1, 0, none⟩)) hp.S
          clear hp hK
          go_simp
          exact hk
        · intro a wu γ nph K hp hK
          obtain ⟨e27a, e27b⟩ := hp.dep_ 27 3 (.pointer (some ⟨w.heap.size + 1, 0, none⟩))
          have hbo0_0 := (hp.blk_ 10 (T := 27) (c := [.int .i32 (x0).v, .int .i32 (x1).v, .int .i32 (x2).v, .int .i32 (x3).v])).1
          rw [hp.old 10 (Nat.le_trans (Nat.le_of_eq (by kernel_rfl : _ = 10)) (by decide : 10 ≤ 10))] at hbo0_0
          have co0_0 : wu.cell? ⟨w.heap.size + 1, 0, none⟩ = some (.int .i32 (x0).v) := hbo0_0.cell' (i := 0) rfl
          have hk := hK.pure (.int .i32 (x0).v) hp.S
          clear hp hK
          go_simp
          exact hk
        · intro a wu γ nph K hp hK
          obtain ⟨e5a, e5b⟩ := hp.old_ 5 (.int .i32 ((rootW (addsW (normW x0 [x1, x2, x3]) (kW 1024))).1).v)
          have hk := hK.pure (.int .i32 ((rootW (addsW (normW x0 [x1, x2, x3]) (kW 1024))).1).v) hp.S
          clear hp hK
          go_simp
          exact hk
        · intro a wu γ nph K hp hK
          obtain ⟨e6a, e6b⟩ := hp.old_ 6 (.int .i32 ((rootW (addsW (normW x0 [x1, x2, x3]) (kW 1024))).2).v)
          have hk := hK.pure (.int .i32 ((rootW (addsW (normW x0 [x1, x2, x3]) (kW 1024))).2).v) hp.S
          clear hp hK
          go_simp
          exact hk
        · intro a wu γ nph K hp hK
          obtain ⟨e25a, e25b⟩ := hp.dep_ 25 1 (.agg #[.iface 74 (.pointer (some ⟨b, 0, none⟩))])
          obtain ⟨e28a, e28b⟩ := hp.dep_ 28 4 (.int .i32 (x0).v)
          obtain ⟨e29a, e29b⟩ := hp.dep_ 29 5 (.int .i32 ((rootW (addsW (normW x0 [x1, x2, x3]) (kW 1024))).1).v)
          obtain ⟨e30a, e30b⟩ := hp.dep_ 30 6 (.int .i32 ((rootW (addsW (normW x0 [x1, x2, x3]) (kW 1024))).2).v)
          have hS : Sp wr b (fun _ => (most (n + 1))) [w.heap.size + 1, w.heap.size + 1 + 1] CL nph wu := hp.S
          have hk := hK.call (.int .i32 (scaledW (x0) ((rootW (addsW (normW x0 [x1, x2, x3]) (kW 1024))).1) ((rootW (addsW (normW x0 [x1, x2, x3]) (kW 1024))).2)).v)
          clear hp hK
          go_simp
          refine (wscaled_calls _ _ _ _ _).mono ?_
          rintro e w7 ⟨rfl, hcX⟩
          exact hk _ (hS.call hcX) (Reg.keep_callp _ rfl hS hcX)
        · intro a wu γ nph K hp hK
          obtain ⟨e3a, e3b⟩ := hp.old_ 3 (.pointer (some ⟨w.heap.size + 1, 0, none⟩))
          obtain ⟨e24a, e24b⟩ := hp.dep_ 24 0 (.int .i64 0)
          have hk := hK.pure (.pointer (some ⟨w.heap.size + 1, 0, none⟩)) hp.S
          clear hp hK
          go_simp
          exact hk
        · intro a wu γ nph K hp hK
          obtain ⟨e32a, e32b⟩ := hp.dep_ 32 8 (.pointer (some ⟨w.heap.size + 1, 0, none⟩))
          obtain ⟨e31a, e31b⟩ := hp.dep_ 31 7 (.int .i32 (scaledW (x0) ((rootW (addsW (normW x0 [x1, x2, x3]) (kW 1024))).1) ((rootW (addsW (normW x0 [x1, x2, x3]) (kW 1024))).2)).v)
          have hb := (hp.blk_ 10 (T := 27) (c := [.int .i32 (x0).v, .int .i32 (x1).v, .int .i32 (x2).v, .int .i32 (x3).v])).1
          have hk := hK.put 10 27 [.int .i32 (x0).v, .int .i32 (x1).v, .int .i32 (x2).v, .int .i32 (x3).v] [.int .i32 (scaledW (x0) ((rootW (addsW (normW x0 [x1, x2, x3]) (kW 1024))).1) ((rootW (addsW (normW x0 [x1, x2, x3]) (kW 1024))).2)).v, .int .i32 (x1).v, .int .i32 (x2).v, .int .i32 (x3).v]
          have hO : γ 10 = w.heap.size + 1 := hp.old 10 (Nat.le_trans (Nat.le_of_eq (by kernel_rfl : _ = 10)) (by decide : 10 ≤ 10))
          rw [hO] at hb hk
          have z0 := hb.cell' (i := 0) rfl
          have f0 := hb.frozen 0
          clear hp hK
          clear hO
          go_simp
          exact hk _ (hb.set_ 0 _) ((Chg.refl wu _).setCell _ _ (.inl (by simp))) (by simp)
      · have mo := HB.out
        have mr0 := HR0.out
        replace mo : Blk wr (w.heap.size + 1) 27 [.int .i32 (scaledW x0 (rootW (addsW (normW x0 [x1, x2, x3]) (kW 1024))).1 (rootW (addsW (normW x0 [x1, x2, x3]) (kW 1024))).2).v, .int .i32 (x1).v, .int .i32 (x2).v, .int .i32 (x3).v] := mo
        have lto := mo.lt
        have ltr0 := mr0.lt
        clear HB HS1 pl1 y1_0 fr1_0 fr1_1 fr1_2 HC1 mo1_0 mo1_1 HR0 lt1_0 lt1_1 hapB HTT
        go_wp2_with fail
        obtain ⟨CL, hCL⟩ : ∃ l : List (Addr × Value), l = [(⟨w.heap.size, 0, none⟩, .iface 74 (.pointer (some ⟨b, 0, none⟩)))] := ⟨_, rfl⟩
        have HS0 : Sp wr b (fun _ => (most (n + 1))) [w.heap.size + 1, w.heap.size + 1 + 1] CL 0 wr.drew := Sp.start plr (by rw [hCL]; simp only [List.forall_mem_cons]; exact ⟨yr0, by simp⟩)
        have hap : Apart wr b [w.heap.size + 1, w.heap.size + 1 + 1] [w.heap.size] CL := ⟨by rw [hCL]; simp only [List.forall_mem_cons]; exact ⟨by simp, by simp⟩, by simp only [List.forall_mem_cons]; exact ⟨World.block_lt_of_cell? _ _ yr0, by simp⟩, by simp only [List.forall_mem_cons]; exact ⟨far0, by simp⟩, by simp only [List.forall_mem_cons]; exact ⟨⟨lto, fao0⟩, ⟨ltr0, fao1⟩, by simp⟩⟩
        refine Reg.wp_region (Reg.of 10 _ _ [.int .i64 1, .agg #[.iface 74 (.pointer (some ⟨b, 0, none⟩))], .int .i64 1, .pointer (some ⟨w.heap.size + 1, 1, none⟩), .int .i32 (x1).v, .int .i32 ((rootW (addsW (normW x0 [x1, x2, x3]) (kW 1024))).1).v, .int .i32 ((rootW (addsW (normW x0 [x1, x2, x3]) (kW 1024))).2).v, .int .i32 (scaledW (x1) ((rootW (addsW (normW x0 [x1, x2, x3]) (kW 1024))).1) ((rootW (addsW (normW x0 [x1, x2, x3]) (kW 1024))).2)).v, .pointer (some ⟨w.heap.size + 1, 1, none⟩), undef] [fun _ => undef, fun _ => undef, fun _ => undef, fun _ => undef, fun _ => undef, fun _ => undef, fun _ => undef, fun _ => undef, fun _ => undef, fun _ => undef] [.val, .val, .val, .val, .val, .val, .val, .val, .val, .put 10 [.int .i32 (scaledW x0 (rootW (addsW (normW x0 [x1, x2, x3]) (kW 1024))).1 (rootW (addsW (normW x0 [x1, x2, x3]) (kW 1024))).2).v, .int .i32 (scaledW (x1) ((rootW (addsW (normW x0 [x1, x2, x3]) (kW 1024))).1) ((rootW (addsW (normW x0 [x1, x2, x3]) (kW 1024))).2)).v, .int .i32 (x2).v, .int .i32 (x3).v]] [(27, [.int .i32 (scaledW x0 (rootW (addsW (normW x0 [x1, x2, x3]) (kW 1024))).1 (rootW (addsW (normW x0 [x1, x2, x3]) (kW 1024))).2).v, .int .i32 (x1).v, .int .i32 (x2).v, .int .i32 (x3).v]), (27, [.int .i32 0, .int .i32 0, .int .i32 0, .int .i32 0])] [w.heap.size + 1, w.heap.size + 1 + 1] [] (Sp wr b (fun _ => (most (n + 1))) [w.heap.size + 1, w.heap.size + 1 + 1] CL) (Fp wr b [w.heap.size + 1, w.heap.size + 1 + 1] [w.heap.size])) (Reg.good_of _ 35 (by kernel_rfl) (by kernel_rfl)) (stands_p _ hap rfl rfl rfl) (by kernel_rfl) HS0 (hold_of (by kernel_rfl) ?holdwz201) (ne_of (by kernel_rfl) ?hnewz201) (Reg.steps_of _ rfl ⟨?_, ?_, ?_, ?_, ?_, ?_, ?_, ?_, ?_, ?_, trivial⟩) ?hendwz201
        case holdwz201 =>
          intro k T c hk
          cases k with
          | zero => simp only [List.getElem?_cons_zero, Option.some.injEq, Prod.mk.injEq] at hk; obtain ⟨rfl, rfl⟩ := hk; exact ⟨mo, ⟨by simp; try omega, fao0, .inl (by simp)⟩⟩
          | succ k =>
            cases k with
            | zero => simp only [List.getElem?_cons_succ, List.getElem?_cons_zero, Option.some.injEq, Prod.mk.injEq] at hk; obtain ⟨rfl, rfl⟩ := hk; exact ⟨mr0, ⟨by simp; try omega, fao1, .inl (by simp)⟩⟩
            | succ k =>
              simp at hk
        case hnewz201 => intro i j hi hj hne; have hi2 : i < 2 := hi; have hj2 : j < 2 := hj; rcases (by omega : i = 0 ∨ i = 1) with rfl | rfl <;> rcases (by omega : j = 0 ∨ j = 1) with rfl | rfl <;> first | exact absurd rfl hne | (simp only [List.getD_cons_zero, List.getD_cons_succ]; omega)
        case hendwz201 =>
          intro wz201 γ hSz hBz hnez hOz
          replace hSz : Sp wr b (fun _ => (most (n + 1))) [w.heap.size + 1, w.heap.size + 1 + 1] CL 0 wz201 := hSz
          have ob0 : Blk wz201 (w.heap.size + 1) 27 [.int .i32 (scaledW x0 (rootW (addsW (normW x0 [x1, x2, x3]) (kW 1024))).1 (rootW (addsW (normW x0 [x1, x2, x3]) (kW 1024))).2).v, .int .i32 (scaledW (x1) ((rootW (addsW (normW x0 [x1, x2, x3]) (kW 1024))).1) ((rootW (addsW (normW x0 [x1, x2, x3]) (kW 1024))).2)).v, .int .i32 (x2).v, .int .i32 (x3).v] := by have h := (hBz 10 27 [.int .i32 (scaledW x0 (rootW (addsW (normW x0 [x1, x2, x3]) (kW 1024))).1 (rootW (addsW (normW x0 [x1, x2, x3]) (kW 1024))).2).v, .int .i32 (x1).v, .int .i32 (x2).v, .int .i32 (x3).v] (by kernel_rfl) [.int .i32 (scaledW x0 (rootW (addsW (normW x0 [x1, x2, x3]) (kW 1024))).1 (rootW (addsW (normW x0 [x1, x2, x3]) (kW 1024))).2).v, .int .i32 (scaledW (x1) ((rootW (addsW (normW x0 [x1, x2, x3]) (kW 1024))).1) ((rootW (addsW (normW x0 [x1, x2, x3]) (kW 1024))).2)).v, .int .i32 (x2).v, .int .i32 (x3).v] (by kernel_rfl)).1; rw [hOz 10 (Nat.le_trans (Nat.le_of_eq (by kernel_rfl : _ = 10)) (by decide : 10 ≤ 10))] at h; exact h
          have ob1 : Blk wz201 (w.heap.size + 1 + 1) 27 [.int .i32 0, .int .i32 0, .int .i32 0, .int .i32 0] := by have h := (hBz 11 27 [.int .i32 0, .int .i32 0, .int .i32 0, .int .i32 0] (by kernel_rfl) [.int .i32 0, .int .i32 0, .int .i32 0, .int .i32 0] (by kernel_rfl)).1; rw [hOz 11 (Nat.le_trans (Nat.le_of_eq (by kernel_rfl : _ = 10)) (by decide : 10 ≤ 11))] at h; exact h
          refine end_of [(24, .int .i64 1), (25, .agg #[.iface 74 (.pointer (some ⟨b, 0, none⟩))]), (26, .int .i64 1), (27, .pointer (some ⟨w.heap.size + 1, 1, none⟩)), (28, .int .i32 (x1).v), (29, .int .i32 ((rootW (addsW (normW x0 [x1, x2, x3]) (kW 1024))).1).v), (30, .int .i32 ((rootW (addsW (normW x0 [x1, x2, x3]) (kW 1024))).2).v), (31, .int .i32 (scaledW (x1) ((rootW (addsW (normW x0 [x1, x2, x3]) (kW 1024))).1) ((rootW (addsW (normW x0 [x1, x2, x3]) (kW 1024))).2)).v), (32, .pointer (some ⟨w.heap.size + 1, 1, none⟩))] (by kernel_rfl) ?_
          clear hBz hnez hOz HS0
          simp only [Reg.of, List.foldl_cons, List.foldl_nil, List.setIfInBounds_toArray, List.set_cons_zero, List.set_cons_succ]
          have HC201 := hide (HS.out.region hSz (by simp; try omega))
          have pl201 := hSz.pl
          have fr201_0 := hSz.apart hap (w.heap.size) (by simp)
          have fr201_1 := hSz.turn_far lto fao0
          have fr201_2 := hSz.turn_far ltr0 fao1
          have lt201_0 := ob0.lt
          have lt201_1 := ob1.lt
          have y201_0 : wz201.cell? ⟨w.heap.size, 0, none⟩ = some (.iface 74 (.pointer (some ⟨b, 0, none⟩))) := hSz.at_ 0 _ _ (by rw [hCL]; rfl)
          clear hSz hCL hap CL yr0 HS mo mr0 far0 fao0 fao1 lto ltr0 plr
          have mo201_0 := ob0
          clear ob0
          have mo201_1 := ob1
          clear ob1
          go_wp2
          go_roundw
          case rel => exact ⟨2, by omega, by go_num, HC201.out.with_ (by rw [hCB]; simp only [List.forall_mem_cons]; exact ⟨y201_0, by simp⟩), mo201_0, mo201_1⟩
          case measure => simp [intOf]
        · intro a wu γ nph K hp hK
          obtain ⟨e7a, e7b⟩ := hp.old_ 7 (.int .i64 1)
          have hk := hK.pure (.int .i64 1) hp.S
          clear hp hK
          go_simp
          exact hk
        · intro a wu γ nph K hp hK
          obtain ⟨e2a, e2b⟩ := hp.old_ 2 (.pointer (some ⟨w.heap.size, 0, none⟩))
          have hS : Sp wr b (fun _ => (most (n + 1))) [w.heap.size + 1, w.heap.size + 1 + 1] CL nph wu := hp.S
          have c0 := hS.at_ 0 ⟨w.heap.size, 0, none⟩ (.iface 74 (.pointer (some ⟨b, 0, none⟩))) (by rw [hCL]; rfl)
          have hk := hK.pure (.agg #[.iface 74 (.pointer (some ⟨b, 0, none⟩))]) hp.S
          clear hp hK hS
          go_simp
          exact hk
        · intro a wu γ nph K hp hK
          obtain ⟨e7a, e7b⟩ := hp.old_ 7 (.int .i64 1)
          have hk := hK.pure (.int .i64 1) hp.S
          clear hp hK
          go_simp
          exact hk
        · intro a wu γ nph K hp hK
          obtain ⟨e3a, e3b⟩ := hp.old_ 3 (.pointer (some ⟨w.heap.size + 1, 0, none⟩))
          obtain ⟨e26a, e26b⟩ := hp.dep_ 26 2 (.int .i64 1)
          have hk := hK.pure (.pointer (some ⟨w.heap.size + 1, 1, none⟩)) hp.S
          clear hp hK
          go_simp
          exact hk
        · intro a wu γ nph K hp hK
          obtain ⟨e27a, e27b⟩ := hp.dep_ 27 3 (.pointer (some ⟨w.heap.size + 1, 1, none⟩))
          have hbo0_1 := (hp.blk_ 10 (T := 27) (c := [.int .i32 (scaledW x0 (rootW (addsW (normW x0 [x1, x2, x3]) (kW 1024))).1 (rootW (addsW (normW x0 [x1, x2, x3]) (kW 1024))).2).v, .int .i32 (x1).v, .int .i32 (x2).v, .int .i32 (x3).v])).1
          rw [hp.old 10 (Nat.le_trans (Nat.le_of_eq (by kernel_rfl : _ = 10)) (by decide : 10 ≤ 10))] at hbo0_1
          have co0_1 : wu.cell? ⟨w.heap.size + 1, 1, none⟩ = some (.int .i32 (x1).v) := hbo0_1.cell' (i := 1) rfl
          have hk := hK.pure (.int .i32 (x1).v) hp.S
          clear hp hK
          go_simp
          exact hk
        · intro a wu γ nph K hp hK
          obtain ⟨e5a, e5b⟩ := hp.old_ 5 (.int .i32 ((rootW (addsW (normW x0 [x1, x2, x3]) (kW 1024))).1).v)
          have hk := hK.pure (.int .i32 ((rootW (addsW (normW x0 [x1, x2, x3]) (kW 1024))).1).v) hp.S
          clear hp hK
          go_simp
          exact hk
        · intro a wu γ nph K hp hK
          obtain ⟨e6a, e6b⟩ := hp.old_ 6 (.int .i32 ((rootW (addsW (normW x0 [x1, x2, x3]) (kW 1024))).2).v)
          have hk := hK.pure (.int .i32 ((rootW (addsW (normW x0 [x1, x2, x3]) (kW 1024))).2).v) hp.S
          clear hp hK
          go_simp
          exact hk
        · intro a wu γ nph K hp hK
          obtain ⟨e25a, e25b⟩ := hp.dep_ 25 1 (.agg #[.iface 74 (.pointer (some ⟨b, 0, none⟩))])
          obtain ⟨e28a, e28b⟩ := hp.dep_ 28 4 (.int .i32 (x1).v)
          obtain ⟨e29a, e29b⟩ := hp.dep_ 29 5 (.int .i32 ((rootW (addsW (normW x0 [x1, x2, x3]) (kW 1024))).1).v)
          obtain ⟨e30a, e30b⟩ := hp.dep_ 30 6 (.int .i32 ((rootW (addsW (normW x0 [x1, x2, x3]) (kW 1024))).2).v)
          have hS : Sp wr b (fun _ => (most (n + 1))) [w.heap.size + 1, w.heap.size + 1 + 1] CL nph wu := hp.S
          have hk := hK.call (.int .i32 (scaledW (x1) ((rootW (addsW (normW x0 [x1, x2, x3]) (kW 1024))).1) ((rootW (addsW (normW x0 [x1, x2, x3]) (kW 1024))).2)).v)
          clear hp hK
          go_simp
          refine (wscaled_calls _ _ _ _ _).mono ?_
          rintro e w7 ⟨rfl, hcX⟩
          exact hk _ (hS.call hcX) (Reg.keep_callp _ rfl hS hcX)
        · intro a wu γ nph K hp hK
          obtain ⟨e3a, e3b⟩ := hp.old_ 3 (.pointer (some ⟨w.heap.size + 1, 0, none⟩))
          obtain ⟨e24a, e24b⟩ := hp.dep_ 24 0 (.int .i64 1)
          have hk := hK.pure (.pointer (some ⟨w.heap.size + 1, 1, none⟩)) hp.S
          clear hp hK
          go_simp
          exact hk
        · intro a wu γ nph K hp hK
          obtain ⟨e32a, e32b⟩ := hp.dep_ 32 8 (.pointer (some ⟨w.heap.size + 1, 1, none⟩))
          obtain ⟨e31a, e31b⟩ := hp.dep_ 31 7 (.int .i32 (scaledW (x1) ((rootW (addsW (normW x0 [x1, x2, x3]) (kW 1024))).1) ((rootW (addsW (normW x0 [x1, x2, x3]) (kW 1024))).2)).v)
          have hb := (hp.blk_ 10 (T := 27) (c := [.int .i32 (scaledW x0 (rootW (addsW (normW x0 [x1, x2, x3]) (kW 1024))).1 (rootW (addsW (normW x0 [x1, x2, x3]) (kW 1024))).2).v, .int .i32 (x1).v, .int .i32 (x2).v, .int .i32 (x3).v])).1
          have hk := hK.put 10 27 [.int .i32 (scaledW x0 (rootW (addsW (normW x0 [x1, x2, x3]) (kW 1024))).1 (rootW (addsW (normW x0 [x1, x2, x3]) (kW 1024))).2).v, .int .i32 (x1).v, .int .i32 (x2).v, .int .i32 (x3).v] [.int .i32 (scaledW x0 (rootW (addsW (normW x0 [x1, x2, x3]) (kW 1024))).1 (rootW (addsW (normW x0 [x1, x2, x3]) (kW 1024))).2).v, .int .i32 (scaledW (x1) ((rootW (addsW (normW x0 [x1, x2, x3]) (kW 1024))).1) ((rootW (addsW (normW x0 [x1, x2, x3]) (kW 1024))).2)).v, .int .i32 (x2).v, .int .i32 (x3).v]
          have hO : γ 10 = w.heap.size + 1 := hp.old 10 (Nat.le_trans (Nat.le_of_eq (by kernel_rfl : _ = 10)) (by decide : 10 ≤ 10))
          rw [hO] at hb hk
          have z1 := hb.cell' (i := 1) rfl
          have f1 := hb.frozen 1
          clear hp hK
          clear hO
          go_simp
          exact hk _ (hb.set_ 1 _) ((Chg.refl wu _).setCell _ _ (.inl (by simp))) (by simp)
      · have mo := HB.out
        have mr0 := HR0.out
        replace mo : Blk wr (w.heap.size + 1) 27 [.int .i32 (scaledW x0 (rootW (addsW (normW x0 [x1, x2, x3]) (kW 1024))).1 (rootW (addsW (normW x0 [x1, x2, x3]) (kW 1024))).2).v, .int .i32 (scaledW x1 (rootW (addsW (normW x0 [x1, x2, x3]) (kW 1024))).1 (rootW (addsW (normW x0 [x1, x2, x3]) (kW 1024))).2).v, .int .i32 (x2).v, .int .i32 (x3).v] := mo
        have lto := mo.lt
        have ltr0 := mr0.lt
        clear HB HS1 pl1 y1_0 fr1_0 fr1_1 fr1_2 HC1 mo1_0 mo1_1 HR0 lt1_0 lt1_1 hapB HTT
        go_wp2_with fail
        obtain ⟨CL, hCL⟩ : ∃ l : List (Addr × Value), l = [(⟨w.heap.size, 0, none⟩, .iface 74 (.pointer (some ⟨b, 0, none⟩)))] := ⟨_, rfl⟩
        have HS0 : Sp wr b (fun _ => (most (n + 1))) [w.heap.size + 1, w.heap.size + 1 + 1] CL 0 wr.drew := Sp.start plr (by rw [hCL]; simp only [List.forall_mem_cons]; exact ⟨yr0, by simp⟩)
        have hap : Apart wr b [w.heap.size + 1, w.heap.size + 1 + 1] [w.heap.size] CL := ⟨by rw [hCL]; simp only [List.forall_mem_cons]; exact ⟨by simp, by simp⟩, by simp only [List.forall_mem_cons]; exact ⟨World.block_lt_of_cell? _ _ yr0, by simp⟩, by simp only [List.forall_mem_cons]; exact ⟨far0, by simp⟩, by simp only [List.forall_mem_cons]; exact ⟨⟨lto, fao0⟩, ⟨ltr0, fao1⟩, by simp⟩⟩
        refine Reg.wp_region (Reg.of 10 _ _ [.int .i64 2, .agg #[.iface 74 (.pointer (some ⟨b, 0, none⟩))], .int .i64 2, .pointer (some ⟨w.heap.size + 1, 2, none⟩), .int .i32 (x2).v, .int .i32 ((rootW (addsW (normW x0 [x1, x2, x3]) (kW 1024))).1).v, .int .i32 ((rootW (addsW (normW x0 [x1, x2, x3]) (kW 1024))).2).v, .int .i32 (scaledW (x2) ((rootW (addsW (normW x0 [x1, x2, x3]) (kW 1024))).1) ((rootW (addsW (normW x0 [x1, x2, x3]) (kW 1024))).2)).v, .pointer (some ⟨w.heap.size + 1, 2, none⟩), undef] [fun _ => undef, fun _ => undef, fun _ => undef, fun _ => undef, fun _ => undef, fun _ => undef, fun _ => undef, fun _ => undef, fun _ => undef, fun _ => undef] [.val, .val, .val, .val, .val, .val, .val, .val, .val, .put 10 [.int .i32 (scaledW x0 (rootW (addsW (normW x0 [x1, x2, x3]) (kW 1024))).1 (rootW (addsW (normW x0 [x1, x2, x3]) (kW 1024))).2).v, .int .i32 (scaledW x1 (rootW (addsW (normW x0 [x1, x2, x3]) (kW 1024))).1 (rootW (addsW (normW x0 [x1, x2, x3]) (kW 1024))).2).v, .int .i32 (scaledW (x2) ((rootW (addsW (normW x0 [x1, x2, x3]) (kW 1024))).1) ((rootW (addsW (normW x0 [x1, x2, x3]) (kW 1024))).2)).v, .int .i32 (x3).v]] [(27, [.int .i32 (scaledW x0 (rootW (addsW (normW x0 [x1, x2, x3]) (kW 1024))).1 (rootW (addsW (normW x0 [x1, x2, x3]) (kW 1024))).2).v, .int .i32 (scaledW x1 (rootW (addsW (normW x0 [x1, x2, x3]) (kW 1024))).1 (rootW (addsW (normW x0 [x1, x2, x3]) (kW 1024))).2).v, .int .i32 (x2).v, .int .i32 (x3).v]), (27, [.int .i32 0, .int .i32 0, .int .i32 0, .int .i32 0])] [w.heap.size + 1, w.heap.size + 1 + 1] [] (Sp wr b (fun _ => (most (n + 1))) [w.heap.size + 1, w.heap.size + 1 + 1] CL) (Fp wr b [w.heap.size + 1, w.heap.size + 1 + 1] [w.heap.size])) (Reg.good_of _ 35 (by kernel_rfl) (by kernel_rfl)) (stands_p _ hap rfl rfl rfl) (by kernel_rfl) HS0 (hold_of (by kernel_rfl) ?holdwz301) (ne_of (by kernel_rfl) ?hnewz301) (Reg.steps_of _ rfl ⟨?_, ?_, ?_, ?_, ?_, ?_, ?_, ?_, ?_, ?_, trivial⟩) ?hendwz301
        case holdwz301 =>
          intro k T c hk
          cases k with
          | zero => simp only [List.getElem?_cons_zero, Option.some.injEq, Prod.mk.injEq] at hk; obtain ⟨rfl, rfl⟩ := hk; exact ⟨mo, ⟨by simp; try omega, fao0, .inl (by simp)⟩⟩
          | succ k =>
            cases k with
            | zero => simp only [List.getElem?_cons_succ, List.getElem?_cons_zero, Option.some.injEq, Prod.mk.injEq] at hk; obtain ⟨rfl, rfl⟩ := hk; exact ⟨mr0, ⟨by simp; try omega, fao1, .inl (by simp)⟩⟩
            | succ k =>
              simp at hk
        case hnewz301 => intro i j hi hj hne; have hi2 : i < 2 := hi; have hj2 : j < 2 := hj; rcases (by omega : i = 0 ∨ i = 1) with rfl | rfl <;> rcases (by omega : j = 0 ∨ j = 1) with rfl | rfl <;> first | exact absurd rfl hne | (simp only [List.getD_cons_zero, List.getD_cons_succ]; omega)
        case hendwz301 =>
          intro wz301 γ hSz hBz hnez hOz
          replace hSz : Sp wr b (fun _ => (most (n + 1))) [w.heap.size + 1, w.heap.size + 1 + 1] CL 0 wz301 := hSz
          have ob0 : Blk wz301 (w.heap.size + 1) 27 [.int .i32 (scaledW x0 (rootW (addsW (normW x0 [x1, x2, x3]) (kW 1024))).1 (rootW (addsW (normW x0 [x1, x2, x3]) (kW 1024))).2).v, .int .i32 (scaledW x1 (rootW (addsW (normW x0 [x1, x2, x3]) (kW 1024))).1 (rootW (addsW (normW x0 [x1, x2, x3]) (kW 1024))).2).v, .int .i32 (scaledW (x2) ((rootW (addsW (normW x0 [x1, x2, x3]) (kW 1024))).1) ((rootW (addsW (normW x0 [x1, x2, x3]) (kW 1024))).2)).v, .int .i32 (x3).v] := by have h := (hBz 10 27 [.int .i32 (scaledW x0 (rootW (addsW (normW x0 [x1, x2, x3]) (kW 1024))).1 (rootW (addsW (normW x0 [x1, x2, x3]) (kW 1024))).2).v, .int .i32 (scaledW x1 (rootW (addsW (normW x0 [x1, x2, x3]) (kW 1024))).1 (rootW (addsW (normW x0 [x1, x2, x3]) (kW 1024))).2).v, .int .i32 (x2).v, .int .i32 (x3).v] (by kernel_rfl) [.int .i32 (scaledW x0 (rootW (addsW (normW x0 [x1, x2, x3]) (kW 1024))).1 (rootW (addsW (normW x0 [x1, x2, x3]) (kW 1024))).2).v, .int .i32 (scaledW x1 (rootW (addsW (normW x0 [x1, x2, x3]) (kW 1024))).1 (rootW (addsW (normW x0 [x1, x2, x3]) (kW 1024))).2).v, .int .i32 (scaledW (x2) ((rootW (addsW (normW x0 [x1, x2, x3]) (kW 1024))).1) ((rootW (addsW (normW x0 [x1, x2, x3]) (kW 1024))).2)).v, .int .i32 (x3).v] (by kernel_rfl)).1; rw [hOz 10 (Nat.le_trans (Nat.le_of_eq (by kernel_rfl : _ = 10)) (by decide : 10 ≤ 10))] at h; exact h
          have ob1 : Blk wz301 (w.heap.size + 1 + 1) 27 [.int .i32 0, .int .i32 0, .int .i32 0, .int .i32 0] := by have h := (hBz 11 27 [.int .i32 0, .int .i32 0, .int .i32 0, .int .i32 0] (by kernel_rfl) [.int .i32 0, .int .i32 0, .int .i32 0, .int .i32 0] (by kernel_rfl)).1; rw [hOz 11 (Nat.le_trans (Nat.le_of_eq (by kernel_rfl : _ = 10)) (by decide : 10 ≤ 11))] at h; exact h
          refine end_of [(24, .int .i64 2), (25, .agg #[.iface 74 (.pointer (some ⟨b, 0, none⟩))]), (26, .int .i64 2), (27, .pointer (some ⟨w.heap.size + 1, 2, none⟩)), (28, .int .i32 (x2).v), (29, .int .i32 ((rootW (addsW (normW x0 [x1, x2, x3]) (kW 1024))).1).v), (30, .int .i32 ((rootW (addsW (normW x0 [x1, x2, x3]) (kW 1024))).2).v), (31, .int .i32 (scaledW (x2) ((rootW (addsW (normW x0 [x1, x2, x3]) (kW 1024))).1) ((rootW (addsW (normW x0 [x1, x2, x3]) (kW 1024))).2)).v), (32, .pointer (some ⟨w.heap.size + 1, 2, none⟩))] (by kernel_rfl) ?_
          clear hBz hnez hOz HS0
          simp only [Reg.of, List.foldl_cons, List.foldl_nil, List.setIfInBounds_toArray, List.set_cons_zero, List.set_cons_succ]
          have HC301 := hide (HS.out.region hSz (by simp; try omega))
          have pl301 := hSz.pl
          have fr301_0 := hSz.apart hap (w.heap.size) (by simp)
          have fr301_1 := hSz.turn_far lto fao0
          have fr301_2 := hSz.turn_far ltr0 fao1
          have lt301_0 := ob0.lt
          have lt301_1 := ob1.lt
          have y301_0 : wz301.cell? ⟨w.heap.size, 0, none⟩ = some (.iface 74 (.pointer (some ⟨b, 0, none⟩))) := hSz.at_ 0 _ _ (by rw [hCL]; rfl)
          clear hSz hCL hap CL yr0 HS mo mr0 far0 fao0 fao1 lto ltr0 plr
          have mo301_0 := ob0
          clear ob0
          have mo301_1 := ob1
          clear ob1
          go_wp2
          go_roundw
          case rel => exact ⟨3, by omega, by go_num, HC301.out.with_ (by rw [hCB]; simp only [List.forall_mem_cons]; exact ⟨y301_0, by simp⟩), mo301_0, mo301_1⟩
          case measure => simp [intOf]
        · intro a wu γ nph K hp hK
          obtain ⟨e7a, e7b⟩ := hp.old_ 7 (.int .i64 2)
          have hk := hK.pure (.int .i64 2) hp.S
          clear hp hK
          go_simp
          exact hk
        · intro a wu γ nph K hp hK
          obtain ⟨e2a, e2b⟩ := hp.old_ 2 (.pointer (some ⟨w.heap.size, 0, none⟩))
          have hS : Sp wr b (fun _ => (most (n + 1))) [w.heap.size + 1, w.heap.size + 1 + 1] CL nph wu := hp.S
          have c0 := hS.at_ 0 ⟨w.heap.size, 0, none⟩ (.iface 74 (.pointer (some ⟨b, 0, none⟩))) (by rw [hCL]; rfl)
          have hk := hK.pure (.agg #[.iface 74 (.pointer (some ⟨b, 0, none⟩))]) hp.S
          clear hp hK hS
          go_simp
          exact hk
        · intro a wu γ nph K hp hK
          obtain ⟨e7a, e7b⟩ := hp.old_ 7 (.int .i64 2)
          have hk := hK.pure (.int .i64 2) hp.S
          clear hp hK
          go_simp
          exact hk
        · intro a wu γ nph K hp hK
          obtain ⟨e3a, e3b⟩ := hp.old_ 3 (.pointer (some ⟨w.heap.size + 1, 0, none⟩))
          obtain ⟨e26a, e26b⟩ := hp.dep_ 26 2 (.int .i64 2)
          have hk := hK.pure (.pointer (some ⟨w.heap.size + 1, 2, none⟩)) hp.S
          clear hp hK
          go_simp
          exact hk
        · intro a wu γ nph K hp hK
          obtain ⟨e27a, e27b⟩ := hp.dep_ 27 3 (.pointer (some ⟨w.heap.size + 1, 2, none⟩))
          have hbo0_2 := (hp.blk_ 10 (T := 27) (c := [.int .i32 (scaledW x0 (rootW (addsW (normW x0 [x1, x2, x3]) (kW 1024))).1 (rootW (addsW (normW x0 [x1, x2, x3]) (kW 1024))).2).v, .int .i32 (scaledW x1 (rootW (addsW (normW x0 [x1, x2, x3]) (kW 1024))).1 (rootW (addsW (normW x0 [x1, x2, x3]) (kW 1024))).2).v, .int .i32 (x2).v, .int .i32 (x3).v])).1
          rw [hp.old 10 (Nat.le_trans (Nat.le_of_eq (by kernel_rfl : _ = 10)) (by decide : 10 ≤ 10))] at hbo0_2
          have co0_2 : wu.cell? ⟨w.heap.size + 1, 2, none⟩ = some (.int .i32 (x2).v) := hbo0_2.cell' (i := 2) rfl
          have hk := hK.pure (.int .i32 (x2).v) hp.S
          clear hp hK
          go_simp
          exact hk
        · intro a wu γ nph K hp hK
          obtain ⟨e5a, e5b⟩ := hp.old_ 5 (.int .i32 ((rootW (addsW (normW x0 [x1, x2, x3]) (kW 1024))).1).v)
          have hk := hK.pure (.int .i32 ((rootW (addsW (normW x0 [x1, x2, x3]) (kW 1024))).1).v) hp.S
          clear hp hK
          go_simp
          exact hk
        · intro a wu γ nph K hp hK
          obtain ⟨e6a, e6b⟩ := hp.old_ 6 (.int .i32 ((rootW (addsW (normW x0 [x1, x2, x3]) (kW 1024))).2).v)
          have hk := hK.pure (.int .i32 ((rootW (addsW (normW x0 [x1, x2, x3]) (kW 1024))).2).v) hp.S
          clear hp hK
          go_simp
          exact hk
        · intro a wu γ nph K hp hK
          obtain ⟨e25a, e25b⟩ := hp.dep_ 25 1 (.agg #[.iface 74 (.pointer (some ⟨b, 0, none⟩))])
          obtain ⟨e28a, e28b⟩ := hp.dep_ 28 4 (.int .i32 (x2).v)
          obtain ⟨e29a, e29b⟩ := hp.dep_ 29 5 (.int .i32 ((rootW (addsW (normW x0 [x1, x2, x3]) (kW 1024))).1).v)
          obtain ⟨e30a, e30b⟩ := hp.dep_ 30 6 (.int .i32 ((rootW (addsW (normW x0 [x1, x2, x3]) (kW 1024))).2).v)
          have hS : Sp wr b (fun _ => (most (n + 1))) [w.heap.size + 1, w.heap.size + 1 + 1] CL nph wu := hp.S
          have hk := hK.call (.int .i32 (scaledW (x2) ((rootW (addsW (normW x0 [x1, x2, x3]) (kW 1024))).1) ((rootW (addsW (normW x0 [x1, x2, x3]) (kW 1024))).2)).v)
          clear hp hK
          go_simp
          refine (wscaled_calls _ _ _ _ _).mono ?_
          rintro e w7 ⟨rfl, hcX⟩
          exact hk _ (hS.call hcX) (Reg.keep_callp _ rfl hS hcX)
        · intro a wu γ nph K hp hK
          obtain ⟨e3a, e3b⟩ := hp.old_ 3 (.pointer (some ⟨w.heap.size + 1, 0, none⟩))
          obtain ⟨e24a, e24b⟩ := hp.dep_ 24 0 (.int .i64 2)
          have hk := hK.pure (.pointer (some ⟨w.heap.size + 1, 2, none⟩)) hp.S
          clear hp hK
          go_simp
          exact hk
        · intro a wu γ nph K hp hK
          obtain ⟨e32a, e32b⟩ := hp.dep_ 32 8 (.pointer (some ⟨w.heap.size + 1, 2, none⟩))
          obtain ⟨e31a, e31b⟩ := hp.dep_ 31 7 (.int .i32 (scaledW (x2) ((rootW (addsW (normW x0 [x1, x2, x3]) (kW 1024))).1) ((rootW (addsW (normW x0 [x1, x2, x3]) (kW 1024))).2)).v)
          have hb := (hp.blk_ 10 (T := 27) (c := [.int .i32 (scaledW x0 (rootW (addsW (normW x0 [x1, x2, x3]) (kW 1024))).1 (rootW (addsW (normW x0 [x1, x2, x3]) (kW 1024))).2).v, .int .i32 (scaledW x1 (rootW (addsW (normW x0 [x1, x2, x3]) (kW 1024))).1 (rootW (addsW (normW x0 [x1, x2, x3]) (kW 1024))).2).v, .int .i32 (x2).v, .int .i32 (x3).v])).1
          have hk := hK.put 10 27 [.int .i32 (scaledW x0 (rootW (addsW (normW x0 [x1, x2, x3]) (kW 1024))).1 (rootW (addsW (normW x0 [x1, x2, x3]) (kW 1024))).2).v, .int .i32 (scaledW x1 (rootW (addsW (normW x0 [x1, x2, x3]) (kW 1024))).1 (rootW (addsW (normW x0 [x1, x2, x3]) (kW 1024))).2).v, .int .i32 (x2).v, .int .i32 (x3).v] [.int .i32 (scaledW x0 (rootW (addsW (normW x0 [x1, x2, x3]) (kW 1024))).1 (rootW (addsW (normW x0 [x1, x2, x3]) (kW 1024))).2).v, .int .i32 (scaledW x1 (rootW (addsW (normW x0 [x1, x2, x3]) (kW 1024))).1 (rootW (addsW (normW x0 [x1, x2, x3]) (kW 1024))).2).v, .int .i32 (scaledW (x2) ((rootW (addsW (normW x0 [x1, x2, x3]) (kW 1024))).1) ((rootW (addsW (normW x0 [x1, x2, x3]) (kW 1024))).2)).v, .int .i32 (x3).v]
          have hO : γ 10 = w.heap.size + 1 := hp.old 10 (Nat.le_trans (Nat.le_of_eq (by kernel_rfl : _ = 10)) (by decide : 10 ≤ 10))
          rw [hO] at hb hk
          have z2 := hb.cell' (i := 2) rfl
          have f2 := hb.frozen 2
          clear hp hK
          clear hO
          go_simp
          exact hk _ (hb.set_ 2 _) ((Chg.refl wu _).setCell _ _ (.inl (by simp))) (by simp)
      · have mo := HB.out
        have mr0 := HR0.out
        replace mo : Blk wr (w.heap.size + 1) 27 [.int .i32 (scaledW x0 (rootW (addsW (normW x0 [x1, x2, x3]) (kW 1024))).1 (rootW (addsW (normW x0 [x1, x2, x3]) (kW 1024))).2).v, .int .i32 (scaledW x1 (rootW (addsW (normW x0 [x1, x2, x3]) (kW 1024))).1 (rootW (addsW (normW x0 [x1, x2, x3]) (kW 1024))).2).v, .int .i32 (scaledW x2 (rootW (addsW (normW x0 [x1, x2, x3]) (kW 1024))).1 (rootW (addsW (normW x0 [x1, x2, x3]) (kW 1024))).2).v, .int .i32 (x3).v] := mo
        have lto := mo.lt
        have ltr0 := mr0.lt
        clear HB HS1 pl1 y1_0 fr1_0 fr1_1 fr1_2 HC1 mo1_0 mo1_1 HR0 lt1_0 lt1_1 hapB HTT
        go_wp2_with fail
        obtain ⟨CL, hCL⟩ : ∃ l : List (Addr × Value), l = [(⟨w.heap.size, 0, none⟩, .iface 74 (.pointer (some ⟨b, 0, none⟩)))] := ⟨_, rfl⟩
        have HS0 : Sp wr b (fun _ => (most (n + 1))) [w.heap.size + 1, w.heap.size + 1 + 1] CL 0 wr.drew := Sp.start plr (by rw [hCL]; simp only [List.forall_mem_cons]; exact ⟨yr0, by simp⟩)
        have hap : Apart wr b [w.heap.size + 1, w.heap.size + 1 + 1] [w.heap.size] CL := ⟨by rw [hCL]; simp only [List.forall_mem_cons]; exact ⟨by simp, by simp⟩, by simp only [List.forall_mem_cons]; exact ⟨World.block_lt_of_cell? _ _ yr0, by simp⟩, by simp only [List.forall_mem_cons]; exact ⟨far0, by simp⟩, by simp only [List.forall_mem_cons]; exact ⟨⟨lto, fao0⟩, ⟨ltr0, fao1⟩, by simp⟩⟩
        refine Reg.wp_region (Reg.of 10 _ _ [.int .i64 3, .agg #[.iface 74 (.pointer (some ⟨b, 0, none⟩))], .int .i64 3, .pointer (some ⟨w.heap.size + 1, 3, none⟩), .int .i32 (x3).v, .int .i32 ((rootW (addsW (normW x0 [x1, x2, x3]) (kW 1024))).1).v, .int .i32 ((rootW (addsW (normW x0 [x1, x2, x3]) (kW 1024))).2).v, .int .i32 (scaledW (x3) ((rootW (addsW (normW x0 [x1, x2, x3]) (kW 1024))).1) ((rootW (addsW (normW x0 [x1, x2, x3]) (kW 1024))).2)).v, .pointer (some ⟨w.heap.size + 1, 3, none⟩), undef] [fun _ => undef, fun _ => undef, fun _ => undef, fun _ => undef, fun _ => undef, fun _ => undef, fun _ => undef, fun _ => undef, fun _ => undef, fun _ => undef] [.val, .val, .val, .val, .val, .val, .val, .val, .val, .put 10 [.int .i32 (scaledW x0 (rootW (addsW (normW x0 [x1, x2, x3]) (kW 1024))).1 (rootW (addsW (normW x0 [x1, x2, x3]) (kW 1024))).2).v, .int .i32 (scaledW x1 (rootW (addsW (normW x0 [x1, x2, x3]) (kW 1024))).1 (rootW (addsW (normW x0 [x1, x2, x3]) (kW 1024))).2).v, .int .i32 (scaledW x2 (rootW (addsW (normW x0 [x1, x2, x3]) (kW 1024))).1 (rootW (addsW (normW x0 [x1, x2, x3]) (kW 1024))).2).v, .int .i32 (scaledW (x3) ((rootW (addsW (normW x0 [x1, x2, x3]) (kW 1024))).1) ((rootW (addsW (normW x0 [x1, x2, x3]) (kW 1024))).2)).v]] [(27, [.int .i32 (scaledW x0 (rootW (addsW (normW x0 [x1, x2, x3]) (kW 1024))).1 (rootW (addsW (normW x0 [x1, x2, x3]) (kW 1024))).2).v, .int .i32 (scaledW x1 (rootW (addsW (normW x0 [x1, x2, x3]) (kW 1024))).1 (rootW (addsW (normW x0 [x1, x2, x3]) (kW 1024))).2).v, .int .i32 (scaledW x2 (rootW (addsW (normW x0 [x1, x2, x3]) (kW 1024))).1 (rootW (addsW (normW x0 [x1, x2, x3]) (kW 1024))).2).v, .int .i32 (x3).v]), (27, [.int .i32 0, .int .i32 0, .int .i32 0, .int .i32 0])] [w.heap.size + 1, w.heap.size + 1 + 1] [] (Sp wr b (fun _ => (most (n + 1))) [w.heap.size + 1, w.heap.size + 1 + 1] CL) (Fp wr b [w.heap.size + 1, w.heap.size + 1 + 1] [w.heap.size])) (Reg.good_of _ 35 (by kernel_rfl) (by kernel_rfl)) (stands_p _ hap rfl rfl rfl) (by kernel_rfl) HS0 (hold_of (by kernel_rfl) ?holdwz401) (ne_of (by kernel_rfl) ?hnewz401) (Reg.steps_of _ rfl ⟨?_, ?_, ?_, ?_, ?_, ?_, ?_, ?_, ?_, ?_, trivial⟩) ?hendwz401
        case holdwz401 =>
          intro k T c hk
          cases k with
          | zero => simp only [List.getElem?_cons_zero, Option.some.injEq, Prod.mk.injEq] at hk; obtain ⟨rfl, rfl⟩ := hk; exact ⟨mo, ⟨by simp; try omega, fao0, .inl (by simp)⟩⟩
          | succ k =>
            cases k with
            | zero => simp only [List.getElem?_cons_succ, List.getElem?_cons_zero, Option.some.injEq, Prod.mk.injEq] at hk; obtain ⟨rfl, rfl⟩ := hk; exact ⟨mr0, ⟨by simp; try omega, fao1, .inl (by simp)⟩⟩
            | succ k =>
              simp at hk
        case hnewz401 => intro i j hi hj hne; have hi2 : i < 2 := hi; have hj2 : j < 2 := hj; rcases (by omega : i = 0 ∨ i = 1) with rfl | rfl <;> rcases (by omega : j = 0 ∨ j = 1) with rfl | rfl <;> first | exact absurd rfl hne | (simp only [List.getD_cons_zero, List.getD_cons_succ]; omega)
        case hendwz401 =>
          intro wz401 γ hSz hBz hnez hOz
          replace hSz : Sp wr b (fun _ => (most (n + 1))) [w.heap.size + 1, w.heap.size + 1 + 1] CL 0 wz401 := hSz
          have ob0 : Blk wz401 (w.heap.size + 1) 27 [.int .i32 (scaledW x0 (rootW (addsW (normW x0 [x1, x2, x3]) (kW 1024))).1 (rootW (addsW (normW x0 [x1, x2, x3]) (kW 1024))).2).v, .int .i32 (scaledW x1 (rootW (addsW (normW x0 [x1, x2, x3]) (kW 1024))).1 (rootW (addsW (normW x0 [x1, x2, x3]) (kW 1024))).2).v, .int .i32 (scaledW x2 (rootW (addsW (normW x0 [x1, x2, x3]) (kW 1024))).1 (rootW (addsW (normW x0 [x1, x2, x3]) (kW 1024))).2).v, .int .i32 (scaledW (x3) ((rootW (addsW (normW x0 [x1, x2, x3]) (kW 1024))).1) ((rootW (addsW (normW x0 [x1, x2, x3]) (kW 1024))).2)).v] := by have h := (hBz 10 27 [.int .i32 (scaledW x0 (rootW (addsW (normW x0 [x1, x2, x3]) (kW 1024))).1 (rootW (addsW (normW x0 [x1, x2, x3]) (kW 1024))).2).v, .int .i32 (scaledW x1 (rootW (addsW (normW x0 [x1, x2, x3]) (kW 1024))).1 (rootW (addsW (normW x0 [x1, x2, x3]) (kW 1024))).2).v, .int .i32 (scaledW x2 (rootW (addsW (normW x0 [x1, x2, x3]) (kW 1024))).1 (rootW (addsW (normW x0 [x1, x2, x3]) (kW 1024))).2).v, .int .i32 (x3).v] (by kernel_rfl) [.int .i32 (scaledW x0 (rootW (addsW (normW x0 [x1, x2, x3]) (kW 1024))).1 (rootW (addsW (normW x0 [x1, x2, x3]) (kW 1024))).2).v, .int .i32 (scaledW x1 (rootW (addsW (normW x0 [x1, x2, x3]) (kW 1024))).1 (rootW (addsW (normW x0 [x1, x2, x3]) (kW 1024))).2).v, .int .i32 (scaledW x2 (rootW (addsW (normW x0 [x1, x2, x3]) (kW 1024))).1 (rootW (addsW (normW x0 [x1, x2, x3]) (kW 1024))).2).v, .int .i32 (scaledW (x3) ((rootW (addsW (normW x0 [x1, x2, x3]) (kW 1024))).1) ((rootW (addsW (normW x0 [x1, x2, x3]) (kW 1024))).2)).v] (by kernel_rfl)).1; rw [hOz 10 (Nat.le_trans (Nat.le_of_eq (by kernel_rfl : _ = 10)) (by decide : 10 ≤ 10))] at h; exact h
          have ob1 : Blk wz401 (w.heap.size + 1 + 1) 27 [.int .i32 0, .int .i32 0, .int .i32 0, .int .i32 0] := by have h := (hBz 11 27 [.int .i32 0, .int .i32 0, .int .i32 0, .int .i32 0] (by kernel_rfl) [.int .i32 0, .int .i32 0, .int .i32 0, .int .i32 0] (by kernel_rfl)).1; rw [hOz 11 (Nat.le_trans (Nat.le_of_eq (by kernel_rfl : _ = 10)) (by decide : 10 ≤ 11))] at h; exact h
          refine end_of [(24, .int .i64 3), (25, .agg #[.iface 74 (.pointer (some ⟨b, 0, none⟩))]), (26, .int .i64 3), (27, .pointer (some ⟨w.heap.size + 1, 3, none⟩)), (28, .int .i32 (x3).v), (29, .int .i32 ((rootW (addsW (normW x0 [x1, x2, x3]) (kW 1024))).1).v), (30, .int .i32 ((rootW (addsW (normW x0 [x1, x2, x3]) (kW 1024))).2).v), (31, .int .i32 (scaledW (x3) ((rootW (addsW (normW x0 [x1, x2, x3]) (kW 1024))).1) ((rootW (addsW (normW x0 [x1, x2, x3]) (kW 1024))).2)).v), (32, .pointer (some ⟨w.heap.size + 1, 3, none⟩))] (by kernel_rfl) ?_
          clear hBz hnez hOz HS0
          simp only [Reg.of, List.foldl_cons, List.foldl_nil, List.setIfInBounds_toArray, List.set_cons_zero, List.set_cons_succ]
          have HC401 := hide (HS.out.region hSz (by simp; try omega))
          have pl401 := hSz.pl
          have fr401_0 := hSz.apart hap (w.heap.size) (by simp)
          have fr401_1 := hSz.turn_far lto fao0
          have fr401_2 := hSz.turn_far ltr0 fao1
          have lt401_0 := ob0.lt
          have lt401_1 := ob1.lt
          have y401_0 : wz401.cell? ⟨w.heap.size, 0, none⟩ = some (.iface 74 (.pointer (some ⟨b, 0, none⟩))) := hSz.at_ 0 _ _ (by rw [hCL]; rfl)
          clear hSz hCL hap CL yr0 HS mo mr0 far0 fao0 fao1 lto ltr0 plr
          have mo401_0 := ob0
          clear ob0
          have mo401_1 := ob1
          clear ob1
          go_wp2
          go_roundw
          case rel => exact ⟨4, by omega, by go_num, HC401.out.with_ (by rw [hCB]; simp only [List.forall_mem_cons]; exact ⟨y401_0, by simp⟩), mo401_0, mo401_1⟩
          case measure => simp [intOf]
        · intro a wu γ nph K hp hK
          obtain ⟨e7a, e7b⟩ := hp.old_ 7 (.int .i64 3)
          have hk := hK.pure (.int .i64 3) hp.S
          clear hp hK
          go_simp
          exact hk
        · intro a wu γ nph K hp hK
          obtain ⟨e2a, e2b⟩ := hp.old_ 2 (.pointer (some ⟨w.heap.size, 0, none⟩))
          have hS : Sp wr b (fun _ => (most (n + 1))) [w.heap.size + 1, w.heap.size + 1 + 1] CL nph wu := hp.S
          have c0 := hS.at_ 0 ⟨w.heap.size, 0, none⟩ (.iface 74 (.pointer (some ⟨b, 0, none⟩))) (by rw [hCL]; rfl)
          have hk := hK.pure (.agg #[.iface 74 (.pointer (some ⟨b, 0, none⟩))]) hp.S
          clear hp hK hS
          go_simp
          exact hk
        · intro a wu γ nph K hp hK
          obtain ⟨e7a, e7b⟩ := hp.old_ 7 (.int .i64 3)
          have hk := hK.pure (.int .i64 3) hp.S
          clear hp hK
          go_simp
          exact hk
        · intro a wu γ nph K hp hK
          obtain ⟨e3a, e3b⟩ := hp.old_ 3 (.pointer (some ⟨w.heap.size + 1, 0, none⟩))
          obtain ⟨e26a, e26b⟩ := hp.dep_ 26 2 (.int .i64 3)
          have hk := hK.pure (.pointer (some ⟨w.heap.size + 1, 3, none⟩)) hp.S
          clear hp hK
          go_simp
          exact hk
        · intro a wu γ nph K hp hK
          obtain ⟨e27a, e27b⟩ := hp.dep_ 27 3 (.pointer (some ⟨w.heap.size + 1, 3, none⟩))
          have hbo0_3 := (hp.blk_ 10 (T := 27) (c := [.int .i32 (scaledW x0 (rootW (addsW (normW x0 [x1, x2, x3]) (kW 1024))).1 (rootW (addsW (normW x0 [x1, x2, x3]) (kW 1024))).2).v, .int .i32 (scaledW x1 (rootW (addsW (normW x0 [x1, x2, x3]) (kW 1024))).1 (rootW (addsW (normW x0 [x1, x2, x3]) (kW 1024))).2).v, .int .i32 (scaledW x2 (rootW (addsW (normW x0 [x1, x2, x3]) (kW 1024))).1 (rootW (addsW (normW x0 [x1, x2, x3]) (kW 1024))).2).v, .int .i32 (x3).v])).1
          rw [hp.old 10 (Nat.le_trans (Nat.le_of_eq (by kernel_rfl : _ = 10)) (by decide : 10 ≤ 10))] at hbo0_3
          have co0_3 : wu.cell? ⟨w.heap.size + 1, 3, none⟩ = some (.int .i32 (x3).v) := hbo0_3.cell' (i := 3) rfl
          have hk := hK.pure (.int .i32 (x3).v) hp.S
          clear hp hK
          go_simp
          exact hk
        · intro a wu γ nph K hp hK
          obtain ⟨e5a, e5b⟩ := hp.old_ 5 (.int .i32 ((rootW (addsW (normW x0 [x1, x2, x3]) (kW 1024))).1).v)
          have hk := hK.pure (.int .i32 ((rootW (addsW (normW x0 [x1, x2, x3]) (kW 1024))).1).v) hp.S
          clear hp hK
          go_simp
          exact hk
        · intro a wu γ nph K hp hK
          obtain ⟨e6a, e6b⟩ := hp.old_ 6 (.int .i32 ((rootW (addsW (normW x0 [x1, x2, x3]) (kW 1024))).2).v)
          have hk := hK.pure (.int .i32 ((rootW (addsW (normW x0 [x1, x2, x3]) (kW 1024))).2).v) hp.S
          clear hp hK
          go_simp
          exact hk
        · intro a wu γ nph K hp hK
          obtain ⟨e25a, e25b⟩ := hp.dep_ 25 1 (.agg #[.iface 74 (.pointer (some ⟨b, 0, none⟩))])
          obtain ⟨e28a, e28b⟩ := hp.dep_ 28 4 (.int .i32 (x3).v)
          obtain ⟨e29a, e29b⟩ := hp.dep_ 29 5 (.int .i32 ((rootW (addsW (normW x0 [x1, x2, x3]) (kW 1024))).1).v)
          obtain ⟨e30a, e30b⟩ := hp.dep_ 30 6 (.int .i32 ((rootW (addsW (normW x0 [x1, x2, x3]) (kW 1024))).2).v)
          have hS : Sp wr b (fun _ => (most (n + 1))) [w.heap.size + 1, w.heap.size + 1 + 1] CL nph wu := hp.S
          have hk := hK.call (.int .i32 (scaledW (x3) ((rootW (addsW (normW x0 [x1, x2, x3]) (kW 1024))).1) ((rootW (addsW (normW x0 [x1, x2, x3]) (kW 1024))).2)).v)
          clear hp hK
          go_simp
          refine (wscaled_calls _ _ _ _ _).mono ?_
          rintro e w7 ⟨rfl, hcX⟩
          exact hk _ (hS.call hcX) (Reg.keep_callp _ rfl hS hcX)
        · intro a wu γ nph K hp hK
          obtain ⟨e3a, e3b⟩ := hp.old_ 3 (.pointer (some ⟨w.heap.size + 1, 0, none⟩))
          obtain ⟨e24a, e24b⟩ := hp.dep_ 24 0 (.int .i64 3)
          have hk := hK.pure (.pointer (some ⟨w.heap.size + 1, 3, none⟩)) hp.S
          clear hp hK
          go_simp
          exact hk
        · intro a wu γ nph K hp hK
          obtain ⟨e32a, e32b⟩ := hp.dep_ 32 8 (.pointer (some ⟨w.heap.size + 1, 3, none⟩))
          obtain ⟨e31a, e31b⟩ := hp.dep_ 31 7 (.int .i32 (scaledW (x3) ((rootW (addsW (normW x0 [x1, x2, x3]) (kW 1024))).1) ((rootW (addsW (normW x0 [x1, x2, x3]) (kW 1024))).2)).v)
          have hb := (hp.blk_ 10 (T := 27) (c := [.int .i32 (scaledW x0 (rootW (addsW (normW x0 [x1, x2, x3]) (kW 1024))).1 (rootW (addsW (normW x0 [x1, x2, x3]) (kW 1024))).2).v, .int .i32 (scaledW x1 (rootW (addsW (normW x0 [x1, x2, x3]) (kW 1024))).1 (rootW (addsW (normW x0 [x1, x2, x3]) (kW 1024))).2).v, .int .i32 (scaledW x2 (rootW (addsW (normW x0 [x1, x2, x3]) (kW 1024))).1 (rootW (addsW (normW x0 [x1, x2, x3]) (kW 1024))).2).v, .int .i32 (x3).v])).1
          have hk := hK.put 10 27 [.int .i32 (scaledW x0 (rootW (addsW (normW x0 [x1, x2, x3]) (kW 1024))).1 (rootW (addsW (normW x0 [x1, x2, x3]) (kW 1024))).2).v, .int .i32 (scaledW x1 (rootW (addsW (normW x0 [x1, x2, x3]) (kW 1024))).1 (rootW (addsW (normW x0 [x1, x2, x3]) (kW 1024))).2).v, .int .i32 (scaledW x2 (rootW (addsW (normW x0 [x1, x2, x3]) (kW 1024))).1 (rootW (addsW (normW x0 [x1, x2, x3]) (kW 1024))).2).v, .int .i32 (x3).v] [.int .i32 (scaledW x0 (rootW (addsW (normW x0 [x1, x2, x3]) (kW 1024))).1 (rootW (addsW (normW x0 [x1, x2, x3]) (kW 1024))).2).v, .int .i32 (scaledW x1 (rootW (addsW (normW x0 [x1, x2, x3]) (kW 1024))).1 (rootW (addsW (normW x0 [x1, x2, x3]) (kW 1024))).2).v, .int .i32 (scaledW x2 (rootW (addsW (normW x0 [x1, x2, x3]) (kW 1024))).1 (rootW (addsW (normW x0 [x1, x2, x3]) (kW 1024))).2).v, .int .i32 (scaledW (x3) ((rootW (addsW (normW x0 [x1, x2, x3]) (kW 1024))).1) ((rootW (addsW (normW x0 [x1, x2, x3]) (kW 1024))).2)).v]
          have hO : γ 10 = w.heap.size + 1 := hp.old 10 (Nat.le_trans (Nat.le_of_eq (by kernel_rfl : _ = 10)) (by decide : 10 ≤ 10))
          rw [hO] at hb hk
          have z3 := hb.cell' (i := 3) rfl
          have f3 := hb.frozen 3
          clear hp hK
          clear hO
          go_simp
          exact hk _ (hb.set_ 3 _) ((Chg.refl wu _).setCell _ _ (.inl (by simp))) (by simp)
      · have mo := HB.out
        have mr0 := HR0.out
        replace mo : Blk wr (w.heap.size + 1) 27 [.int .i32 (scaledW x0 (rootW (addsW (normW x0 [x1, x2, x3]) (kW 1024))).1 (rootW (addsW (normW x0 [x1, x2, x3]) (kW 1024))).2).v, .int .i32 (scaledW x1 (rootW (addsW (normW x0 [x1, x2, x3]) (kW 1024))).1 (rootW (addsW (normW x0 [x1, x2, x3]) (kW 1024))).2).v, .int .i32 (scaledW x2 (rootW (addsW (normW x0 [x1, x2, x3]) (kW 1024))).1 (rootW (addsW (normW x0 [x1, x2, x3]) (kW 1024))).2).v, .int .i32 (scaledW x3 (rootW (addsW (normW x0 [x1, x2, x3]) (kW 1024))).1 (rootW (addsW (normW x0 [x1, x2, x3]) (kW 1024))).2).v] := mo
        have xo0 := mo.cell' (i := 0) rfl
        have xr0 := mr0.cell' (i := 0) rfl
        have xf0 := mr0.frozen 0
        have xo1 := mo.cell' (i := 1) rfl
        have xr1 := mr0.cell' (i := 1) rfl
        have xf1 := mr0.frozen 1
        have xo2 := mo.cell' (i := 2) rfl
        have xr2 := mr0.cell' (i := 2) rfl
        have xf2 := mr0.frozen 2
        have xo3 := mo.cell' (i := 3) rfl
        have xr3 := mr0.cell' (i := 3) rfl
        have xf3 := mr0.frozen 3
        go_wp2
        refine bodyPost_ret (v := .agg #[.int .i32 (evenW x0 x1 x2 x3).a.v, .int .i32 (evenW x0 x1 x2 x3).b.v, .int .i32 (evenW x0 x1 x2 x3).c.v, .int .i32 (evenW x0 x1 x2 x3).d.v]) (by simp [results, Tryz.f71, go_sem, xr0, xr1, xr2, xr3]; exact ⟨rfl, rfl, rfl, rfl⟩) rfl ⟨rfl, plr.chg (((((Chg.refl wr [w.heap.size + 1 + 1]).setCell _ _ (.inl (by simp))).setCell _ _ (.inl (by simp))).setCell _ _ (.inl (by simp))).setCell _ _ (.inl (by simp))) (fun j hj hm => by simp at hm; subst hm; exact fao1 hj), HTT.out.put plr (((((Chg.refl wr [w.heap.size + 1 + 1]).setCell _ _ (.inl (by simp))).setCell _ _ (.inl (by simp))).setCell _ _ (.inl (by simp))).setCell _ _ (.inl (by simp))) fao1 (by omega)⟩
  · intro a wu γ nph K hp hK
    obtain ⟨e2a, e2b⟩ := hp.old_ 2 (.pointer (some ⟨w.heap.size, 0, none⟩))
    have hS : Sp w6 b (fun k => most (n + k)) [w.heap.size + 1, w.heap.size + 1 + 1] CL nph wu := hp.S
    have c0 := hS.at_ 0 ⟨w.heap.size, 0, none⟩ (.iface 74 (.pointer (some ⟨b, 0, none⟩))) (by rw [hCL]; rfl)
    have hk := hK.pure (.agg #[.iface 74 (.pointer (some ⟨b, 0, none⟩))]) hp.S
    clear hp hK hS
    go_simp
    exact hk
  · intro a wu γ nph K hp hK
    obtain ⟨e2a, e2b⟩ := hp.old_ 2 (.pointer (some ⟨w.heap.size, 0, none⟩))
    have hS : Sp w6 b (fun k => most (n + k)) [w.heap.size + 1, w.heap.size + 1 + 1] CL nph wu := hp.S
    have c0 := hS.at_ 0 ⟨w.heap.size, 0, none⟩ (.iface 74 (.pointer (some ⟨b, 0, none⟩))) (by rw [hCL]; rfl)
    have hk := hK.pure (.agg #[.iface 74 (.pointer (some ⟨b, 0, none⟩))]) hp.S
    clear hp hK hS
    go_simp
    exact hk
  · intro a wu γ nph K hp hK
    obtain ⟨e2a, e2b⟩ := hp.old_ 2 (.pointer (some ⟨w.heap.size, 0, none⟩))
    have hS : Sp w6 b (fun k => most (n + k)) [w.heap.size + 1, w.heap.size + 1 + 1] CL nph wu := hp.S
    have c0 := hS.at_ 0 ⟨w.heap.size, 0, none⟩ (.iface 74 (.pointer (some ⟨b, 0, none⟩))) (by rw [hCL]; rfl)
    have hk := hK.pure (.agg #[.iface 74 (.pointer (some ⟨b, 0, none⟩))]) hp.S
    clear hp hK hS
    go_simp
    exact hk
  · intro a wu γ nph K hp hK
    obtain ⟨e3a, e3b⟩ := hp.old_ 3 (.pointer (some ⟨w.heap.size + 1, 0, none⟩))
    have hk := hK.pure (.slice (some ⟨w.heap.size + 1, 0, none⟩) 4 4) hp.S
    clear hp hK
    go_simp
    exact hk
  · intro a wu γ nph K hp hK
    obtain ⟨e11a, e11b⟩ := hp.dep_ 11 2 (.agg #[.iface 74 (.pointer (some ⟨b, 0, none⟩))])
    obtain ⟨e12a, e12b⟩ := hp.dep_ 12 3 (.slice (some ⟨w.heap.size + 1, 0, none⟩) 4 4)
    have hS : Sp w6 b (fun k => most (n + k)) [w.heap.size + 1, w.heap.size + 1 + 1] CL nph wu := hp.S
    have hbo0_0 := (hp.blk_ 15 (T := 27) (c := [.int .i32 (x0).v, .int .i32 (x1).v, .int .i32 (x2).v, .int .i32 (x3).v])).1
    rw [hp.old 15 (Nat.le_trans (Nat.le_of_eq (by kernel_rfl : _ = 15)) (by decide : 15 ≤ 15))] at hbo0_0
    have co0_0 : wu.cell? ⟨w.heap.size + 1, 0, none⟩ = some (.int .i32 (x0).v) := hbo0_0.cell' (i := 0) rfl
    have hbo0_1 := (hp.blk_ 15 (T := 27) (c := [.int .i32 (x0).v, .int .i32 (x1).v, .int .i32 (x2).v, .int .i32 (x3).v])).1
    rw [hp.old 15 (Nat.le_trans (Nat.le_of_eq (by kernel_rfl : _ = 15)) (by decide : 15 ≤ 15))] at hbo0_1
    have co0_1 : wu.cell? ⟨w.heap.size + 1, 1, none⟩ = some (.int .i32 (x1).v) := hbo0_1.cell' (i := 1) rfl
    have hbo0_2 := (hp.blk_ 15 (T := 27) (c := [.int .i32 (x0).v, .int .i32 (x1).v, .int .i32 (x2).v, .int .i32 (x3).v])).1
    rw [hp.old 15 (Nat.le_trans (Nat.le_of_eq (by kernel_rfl : _ = 15)) (by decide : 15 ≤ 15))] at hbo0_2
    have co0_2 : wu.cell? ⟨w.heap.size + 1, 2, none⟩ = some (.int .i32 (x2).v) := hbo0_2.cell' (i := 2) rfl
    have hbo0_3 := (hp.blk_ 15 (T := 27) (c := [.int .i32 (x0).v, .int .i32 (x1).v, .int .i32 (x2).v, .int .i32 (x3).v])).1
    rw [hp.old 15 (Nat.le_trans (Nat.le_of_eq (by kernel_rfl : _ = 15)) (by decide : 15 ≤ 15))] at hbo0_3
    have co0_3 : wu.cell? ⟨w.heap.size + 1, 3, none⟩ = some (.int .i32 (x3).v) := hbo0_3.cell' (i := 3) rfl
    have hk := hK.call (.int .i32 (normW (x0) [x1, x2, x3]).v)
    clear hp hK
    go_simp
    refine (wnorm_calls _ (x0) [x1, x2, x3] _ _ (sl4 co0_0 co0_1 co0_2 co0_3) (by simp) (by simp)).mono ?_
    rintro e w7 ⟨rfl, hcX⟩
    exact hk _ (hS.call hcX) (Reg.keep_callp _ rfl hS hcX)
  · intro a wu γ nph K hp hK
    obtain ⟨e2a, e2b⟩ := hp.old_ 2 (.pointer (some ⟨w.heap.size, 0, none⟩))
    have hk := hK.pure (.pointer (some ⟨w.heap.size, 0, none⟩)) hp.S
    clear hp hK
    go_simp
    exact hk
  · intro a wu γ nph K hp hK
    obtain ⟨e14a, e14b⟩ := hp.dep_ 14 5 (.pointer (some ⟨w.heap.size, 0, none⟩))
    have hS : Sp w6 b (fun k => most (n + k)) [w.heap.size + 1, w.heap.size + 1 + 1] CL nph wu := hp.S
    have c0 := hS.at_ 0 ⟨w.heap.size, 0, none⟩ (.iface 74 (.pointer (some ⟨b, 0, none⟩))) (by rw [hCL]; rfl)
    have hk := hK.pure (.iface 74 (.pointer (some ⟨b, 0, none⟩))) hp.S
    clear hp hK hS
    go_simp
    exact hk
  · intro a wu γ nph K hp hK
    obtain ⟨e15a, e15b⟩ := hp.dep_ 15 6 (.iface 74 (.pointer (some ⟨b, 0, none⟩)))
    have hS : Sp w6 b (fun k => most (n + k)) [w.heap.size + 1, w.heap.size + 1 + 1] CL nph wu := hp.S
    have hk := hK.call (.int .i32 (kW (1024)).v)
    clear hp hK
    go_simp
    refine (w_const _ _ _ (by first | assumption | decide)).mono ?_
    rintro e w7 ⟨rfl, hcX⟩
    exact hk _ (hS.call hcX) (Reg.keep_callp _ rfl hS hcX)
  · intro a wu γ nph K hp hK
    obtain ⟨e10a, e10b⟩ := hp.dep_ 10 1 (.agg #[.iface 74 (.pointer (some ⟨b, 0, none⟩))])
    obtain ⟨e13a, e13b⟩ := hp.dep_ 13 4 (.int .i32 (normW (x0) [x1, x2, x3]).v)
    obtain ⟨e16a, e16b⟩ := hp.dep_ 16 7 (.int .i32 (kW (1024)).v)
    have hS : Sp w6 b (fun k => most (n + k)) [w.heap.size + 1, w.heap.size + 1 + 1] CL nph wu := hp.S
    have hk := hK.call (.int .i32 (addsW (normW (x0) [x1, x2, x3]) (kW (1024))).v)
    clear hp hK
    go_simp
    refine (w_adds _ _ _ _).mono ?_
    rintro e w7 ⟨rfl, hcX⟩
    exact hk _ (hS.call hcX) (Reg.keep_callp _ rfl hS hcX)
  · intro a wu γ nph K hp hK
    obtain ⟨e9a, e9b⟩ := hp.dep_ 9 0 (.agg #[.iface 74 (.pointer (some ⟨b, 0, none⟩))])
    obtain ⟨e17a, e17b⟩ := hp.dep_ 17 8 (.int .i32 (addsW (normW (x0) [x1, x2, x3]) (kW (1024))).v)
    have hS : Sp w6 b (fun k => most (n + k)) [w.heap.size + 1, w.heap.size + 1 + 1] CL nph wu := hp.S
    have hn : nph = 0 := hp.eff 0 (by kernel_rfl)
    have hk := hK.eff (.tuple #[.int .i32 ((rootW (addsW (normW (x0) [x1, x2, x3]) (kW (1024)))).1).v, .int .i32 ((rootW (addsW (normW (x0) [x1, x2, x3]) (kW (1024)))).2).v])
    clear hp hK
    subst hn
    go_simp
    refine (wroot_calls b (addsW (normW (x0) [x1, x2, x3]) (kW (1024))) _ _ (by first | assumption | (simp; omega) | omega) hS.pl).mono ?_
    rintro e w7 ⟨rfl, hpR, htR⟩
    exact hk _ (hS.eff hap hpR htR) (Reg.keep_eff _ rfl htR)
  · intro a wu γ nph K hp hK
    obtain ⟨e18a, e18b⟩ := hp.dep_ 18 9 (.tuple #[.int .i32 ((rootW (addsW (normW (x0) [x1, x2, x3]) (kW (1024)))).1).v, .int .i32 ((rootW (addsW (normW (x0) [x1, x2, x3]) (kW (1024)))).2).v])
    have hk := hK.pure (.tuple #[.int .i32 ((rootW (addsW (normW (x0) [x1, x2, x3]) (kW (1024)))).1).v, .int .i32 ((rootW (addsW (normW (x0) [x1, x2, x3]) (kW (1024)))).2).v]) hp.S
    clear hp hK
    go_simp
    exact hk
  · intro a wu γ nph K hp hK
    obtain ⟨e8a, e8b⟩ := hp.dep_ 8 10 (.tuple #[.int .i32 ((rootW (addsW (normW (x0) [x1, x2, x3]) (kW (1024)))).1).v, .int .i32 ((rootW (addsW (normW (x0) [x1, x2, x3]) (kW (1024)))).2).v])
    have hk := hK.pure (.int .i32 ((rootW (addsW (normW (x0) [x1, x2, x3]) (kW (1024)))).1).v) hp.S
    clear hp hK
    go_simp
    exact hk
  · intro a wu γ nph K hp hK
    obtain ⟨e8a, e8b⟩ := hp.dep_ 8 10 (.tuple #[.int .i32 ((rootW (addsW (normW (x0) [x1, x2, x3]) (kW (1024)))).1).v, .int .i32 ((rootW (addsW (normW (x0) [x1, x2, x3]) (kW (1024)))).2).v])
    have hk := hK.pure (.int .i32 ((rootW (addsW (normW (x0) [x1, x2, x3]) (kW (1024)))).2).v) hp.S
    clear hp hK
    go_simp
    exact hk
  · intro a wu γ nph K hp hK
    obtain ⟨e19a, e19b⟩ := hp.dep_ 19 11 (.int .i32 ((rootW (addsW (normW (x0) [x1, x2, x3]) (kW (1024)))).1).v)
    have hk := hK.pure (.int .i32 ((rootW (addsW (normW (x0) [x1, x2, x3]) (kW (1024)))).1).v) hp.S
    clear hp hK
    go_simp
    exact hk
  · intro a wu γ nph K hp hK
    obtain ⟨e20a, e20b⟩ := hp.dep_ 20 12 (.int .i32 ((rootW (addsW (normW (x0) [x1, x2, x3]) (kW (1024)))).2).v)
    have hk := hK.pure (.int .i32 ((rootW (addsW (normW (x0) [x1, x2, x3]) (kW (1024)))).2).v) hp.S
    clear hp hK
    go_simp
    exact hk

end Go.Proofs.YtbmfcedndbgpoaaGreat
