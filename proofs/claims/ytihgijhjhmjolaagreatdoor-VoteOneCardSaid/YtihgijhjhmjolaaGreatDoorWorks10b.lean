/- Angle of package works at numbers. -/
import Derived.Test.YtihgijhjhmjolaaGreatDoorWorks10
namespace Go.Proofs.YtihgijhjhmjolaaGreatDoor
open Go.RowKit Go.Deep
set_option linter.unusedVariables false
set_option maxRecDepth 100000 in
set_option maxHeartbeats 16000000 in
theorem angle_in (b : Nat) (y x : Wd) (cs : List Wd) (ts : List Value) (w : World) (hlen : cs.length ≤ 900) (hts : ts.length ≤ 900) (hpl : PlR w b (fun c t => t = ts ∧ c = cs)) :
 Calls Tryz.prog 120 #[.agg #[.iface 152 (.pointer (some ⟨b, 0, none⟩))], .int .i32 y.v, .int .i32 x.v] w fun e w' => e = .returned (.int .i32 (angleW y x).v) ∧ (∃ g, PlR w' b (fun c t => t = ts ++ [slv g 28] ∧ c = cs ++ [(angleA y x).a, (angleA y x).b, (angleA y x).c])) ∧ Turn w b w' := by
 have k0 := Blk.new w 106 [.iface 152 (.pointer (some ⟨b, 0, none⟩))]
 have m0 := k0
 have g0_0 := m0.cell' (i := 0) rfl
 have HC := hide ((Chg.refl w []).alloc (.cells #[.iface 152 (.pointer (some ⟨b, 0, none⟩))] 106))
 clear k0
 have h1 := nil_const ⟨b, 0, none⟩
 have h2 := meth_const ⟨b, 0, none⟩
 have h3 := nil_get ⟨b, 0, none⟩
 have h4 := meth_get ⟨b, 0, none⟩
 have h5 := nil_set ⟨b, 0, none⟩
 have h6 := meth_set ⟨b, 0, none⟩
 have h7 := nil_cell ⟨b, 0, none⟩
 have h8 := meth_cell ⟨b, 0, none⟩
 have h9 := nil_loop ⟨b, 0, none⟩
 have h10 := meth_loop ⟨b, 0, none⟩
 have h11 := nil_table ⟨b, 0, none⟩
 have h12 := meth_table ⟨b, 0, none⟩
 have h13 := nil_at ⟨b, 0, none⟩
 have h14 := meth_at ⟨b, 0, none⟩
 obtain ⟨ix0, hix0⟩ : ∃ m, m = cs.length := ⟨_, rfl⟩
 obtain ⟨ix1, hix1⟩ : ∃ m, m = cs.length + 1 := ⟨_, rfl⟩
 obtain ⟨ix2, hix2⟩ : ∃ m, m = cs.length + 2 := ⟨_, rfl⟩
 obtain ⟨ixt, hixt⟩ : ∃ m, m = ts.length := ⟨_, rfl⟩
 obtain ⟨LX, hLX⟩ : ∃ l, l = levelW (maxW (absW x) (absW y)) (subW (clzW (maxW (absW x) (absW y))) (kW 1)) := ⟨_, rfl⟩
 obtain ⟨LY, hLY⟩ : ∃ l, l = levelW (minW (absW x) (absW y)) (subW (clzW (maxW (absW x) (absW y))) (kW 1)) := ⟨_, rfl⟩
 have HLX := hide hLX
 have HLY := hide hLY
 clear hLX hLY
 have hix0l : Hid (ix0 = cs.length) := hide hix0
 have hix1l : Hid (ix1 = (cs ++ [LX]).length) := hide (by simp; exact hix1)
 have hix2l : Hid (ix2 = (cs ++ [LX] ++ [LY]).length) := hide (by simp; exact hix2)
 have hix1h := hide hix1
 have hix2h := hide hix2
 replace hixt := hide hixt
 clear hix0 hix1 hix2
 have hts0 := hts
 replace hts : ts.length ≤ 1000 := by omega
 have HT0 : Hid (Turn w b (w.alloc (.cells #[.iface 152 (.pointer (some ⟨b, 0, none⟩))] 106))) := hide (Turn.call hpl HC.out)
 have hfar := far_of hpl HC.out
 have fb0 := hfar w.heap.size (Nat.le_refl _)
 have hp6 := hpl.chg HC.out (by simp)
 clear hfar HC m0
 go_enter Tryz.func120, Tryz.ntmps120
 go_wp2_with fail
 generalize (w.alloc (.cells #[.iface 152 (.pointer (some ⟨b, 0, none⟩))] 106)) = w6 at *
 obtain ⟨CL, hCL⟩ : ∃ l : List (Addr × Value), l = [(⟨w.heap.size, 0, none⟩, .iface 152 (.pointer (some ⟨b, 0, none⟩)))] := ⟨_, rfl⟩
 have HS0 : Sp w6 b (fun _ => (fun c t => t = ts ∧ c = cs)) [] CL 0 w6.drew := Sp.start hp6 (by rw [hCL]; simp only [List.forall_mem_cons]; exact ⟨g0_0, by simp⟩)
 have hap : Apart w6 b [] [w.heap.size] CL := ⟨by rw [hCL]; simp only [List.forall_mem_cons]; exact ⟨by simp, by simp⟩, by simp only [List.forall_mem_cons]; exact ⟨World.block_lt_of_cell? _ _ g0_0, by simp⟩, by simp only [List.forall_mem_cons]; exact ⟨fb0, by simp⟩, by simp⟩
 refine Reg.wp_region (Reg.of 8 _ _ [.agg #[.iface 152 (.pointer (some ⟨b, 0, none⟩))], .int .i32 (x).v, .int .i32 (absW (x)).v, .agg #[.iface 152 (.pointer (some ⟨b, 0, none⟩))], .int .i32 (y).v, .int .i32 (absW (y)).v, .int .i32 (absW (x)).v, .int .i32 (absW (y)).v] [fun _ => undef, fun _ => undef, fun _ => undef, fun _ => undef, fun _ => undef, fun _ => undef, fun _ => undef, fun _ => undef] [.val, .val, .val, .val, .val, .val, .val, .val] [] [] [] (Sp w6 b (fun _ => (fun c t => t = ts ∧ c = cs)) [] CL) (Fp w6 b [] [w.heap.size])) (Reg.good_of _ 110 (by kernel_rfl) (by kernel_rfl)) (stands_p _ hap rfl rfl rfl) (by kernel_rfl) HS0 (hold_of (by kernel_rfl) ?holdwz1) (ne_of (by kernel_rfl) ?hnewz1) (Reg.steps_of _ rfl ⟨?_, ?_, ?_, ?_, ?_, ?_, ?_, ?_, trivial⟩) ?hendwz1
 case holdwz1 =>
  intro k T c hk; simp at hk
 case hnewz1 => intro i j hi hj hne; exact absurd hi (by simp)
 case hendwz1 =>
  intro wz1 γ hSz hBz hnez hOz
  replace hSz : Sp w6 b (fun _ => (fun c t => t = ts ∧ c = cs)) [] CL 0 wz1 := hSz
  refine end_of [(7, .int .i32 (absW (x)).v), (8, .int .i32 (absW (y)).v), (17, .agg #[.iface 152 (.pointer (some ⟨b, 0, none⟩))]), (18, .int .i32 (x).v), (19, .int .i32 (absW (x)).v), (20, .agg #[.iface 152 (.pointer (some ⟨b, 0, none⟩))]), (21, .int .i32 (y).v), (22, .int .i32 (absW (y)).v)] (by kernel_rfl) ?_
  clear hBz hnez hOz HS0
  simp only [Reg.of, List.foldl_cons, List.foldl_nil, List.setIfInBounds_toArray, List.set_cons_zero, List.set_cons_succ]
  have HC1 := hide (HT0.out.region hSz (by simp))
  have pl1 := hSz.pl
  have fr1_0 := hSz.apart hap (w.heap.size) (by simp)
  have y1_0 : wz1.cell? ⟨w.heap.size, 0, none⟩ = some (.iface 152 (.pointer (some ⟨b, 0, none⟩))) := hSz.at_ 0 _ _ (by rw [hCL]; rfl)
  clear hSz hCL hap CL g0_0 HT0  fb0 hp6
  go_wp2_with fail
  refine (w_max _ (absW x) (absW y) _).mono ?_
  rintro e wz2 ⟨rfl, hcX⟩
  have y2_0 := hcX.cell y1_0 (by simp)
  have hd2 := dof_chg pl1 hcX (by simp)
  have fr2_0 := fr1_0
  rw [← hd2] at fr2_0
  have HC2 := hide (HC1.out.trans (Turn.call pl1 hcX))
  have pl2 := pl1.chg hcX (by simp)
  clear hcX hd2 y1_0 fr1_0 pl1 HC1
  go_wp2_with fail
  obtain ⟨CL, hCL⟩ : ∃ l : List (Addr × Value), l = [(⟨w.heap.size, 0, none⟩, .iface 152 (.pointer (some ⟨b, 0, none⟩)))] := ⟨_, rfl⟩
  have HS0 : Sp wz2 b (fun _ => (fun c t => t = ts ∧ c = cs)) [] CL 0 wz2.drew := Sp.start pl2 (by rw [hCL]; simp only [List.forall_mem_cons]; exact ⟨y2_0, by simp⟩)
  have hap : Apart wz2 b [] [w.heap.size] CL := ⟨by rw [hCL]; simp only [List.forall_mem_cons]; exact ⟨by simp, by simp⟩, by simp only [List.forall_mem_cons]; exact ⟨World.block_lt_of_cell? _ _ y2_0, by simp⟩, by simp only [List.forall_mem_cons]; exact ⟨fr2_0, by simp⟩, by simp⟩
  refine Reg.wp_region (Reg.of 10 _ _ [.agg #[.iface 152 (.pointer (some ⟨b, 0, none⟩))], .agg #[.iface 152 (.pointer (some ⟨b, 0, none⟩))], .int .i32 (maxW (absW x) (absW y)).v, .int .i32 (clzW (maxW (absW x) (absW y))).v, .pointer (some ⟨w.heap.size, 0, none⟩), .iface 152 (.pointer (some ⟨b, 0, none⟩)), .int .i32 (kW (1)).v, .int .i32 (subW (clzW (maxW (absW x) (absW y))) (kW (1))).v, undef, undef] [fun _ => undef, fun _ => undef, fun _ => undef, fun _ => undef, fun _ => undef, fun _ => undef, fun _ => undef, fun _ => undef, fun g => .pointer (some ⟨g, 0, none⟩), fun _ => undef] [.val, .val, .val, .val, .val, .val, .val, .val, .new 21 [.int .i32 0], .put 8 [.int .i32 (subW (clzW (maxW (absW x) (absW y))) (kW (1))).v]] [] [] [] (Sp wz2 b (fun _ => (fun c t => t = ts ∧ c = cs)) [] CL) (Fp wz2 b [] [w.heap.size])) (Reg.good_of _ 110 (by kernel_rfl) (by kernel_rfl)) (stands_p _ hap rfl rfl rfl) (by kernel_rfl) HS0 (hold_of (by kernel_rfl) ?holdwz3) (ne_of (by kernel_rfl) ?hnewz3) (Reg.steps_of _ rfl ⟨?_, ?_, ?_, ?_, ?_, ?_, ?_, ?_, ?_, ?_, trivial⟩) ?hendwz3
  case holdwz3 =>
   intro k T c hk; simp at hk
  case hnewz3 => intro i j hi hj hne; exact absurd hi (by simp)
  case hendwz3 =>
   intro wz3 γ hSz hBz hnez hOz
   replace hSz : Sp wz2 b (fun _ => (fun c t => t = ts ∧ c = cs)) [] CL 0 wz3 := hSz
   have nb8 : Blk wz3 (γ 8) 21 [.int .i32 (subW (clzW (maxW (absW x) (absW y))) (kW (1))).v] := (hBz 8 21 [.int .i32 0] (by kernel_rfl) [.int .i32 (subW (clzW (maxW (absW x) (absW y))) (kW (1))).v] (by kernel_rfl)).1
   have nf8 : Fp wz2 b [] [w.heap.size] wz3 (γ 8) := (hBz 8 21 [.int .i32 0] (by kernel_rfl) [.int .i32 (subW (clzW (maxW (absW x) (absW y))) (kW (1))).v] (by kernel_rfl)).2.1
   refine end_of [(10, .pointer (some ⟨γ 8, 0, none⟩)), (27, .agg #[.iface 152 (.pointer (some ⟨b, 0, none⟩))]), (28, .agg #[.iface 152 (.pointer (some ⟨b, 0, none⟩))]), (29, .int .i32 (maxW (absW x) (absW y)).v), (30, .int .i32 (clzW (maxW (absW x) (absW y))).v), (31, .pointer (some ⟨w.heap.size, 0, none⟩)), (32, .iface 152 (.pointer (some ⟨b, 0, none⟩))), (33, .int .i32 (kW (1)).v), (34, .int .i32 (subW (clzW (maxW (absW x) (absW y))) (kW (1))).v)] (by kernel_rfl) ?_
   clear hBz hnez hOz HS0
   simp only [Reg.of, List.foldl_cons, List.foldl_nil, List.setIfInBounds_toArray, List.set_cons_zero, List.set_cons_succ]
   generalize γ 8 = b8 at *
   have HC3 := hide (HC2.out.region hSz (by simp))
   have pl3 := hSz.pl
   have fr3_0 := hSz.apart hap (w.heap.size) (by simp)
   have y3_0 : wz3.cell? ⟨w.heap.size, 0, none⟩ = some (.iface 152 (.pointer (some ⟨b, 0, none⟩))) := hSz.at_ 0 _ _ (by rw [hCL]; rfl)
   clear hSz hCL hap CL y2_0 HC2  fr2_0 pl2
   generalize b8 = b3_8 at *
   have yn3_8_0 : wz3.cell? ⟨b3_8, 0, none⟩ = some (.int .i32 (subW (clzW (maxW (absW x) (absW y))) (kW (1))).v) := nb8.cell' (i := 0) rfl
   have fn3_8 := nf8.2.1
   go_wp2_with fail
   obtain ⟨CL, hCL⟩ : ∃ l : List (Addr × Value), l = [(⟨w.heap.size, 0, none⟩, .iface 152 (.pointer (some ⟨b, 0, none⟩))), (⟨b3_8, 0, none⟩, .int .i32 (subW (clzW (maxW (absW x) (absW y))) (kW 1)).v)] := ⟨_, rfl⟩
   have HS0 : Sp wz3 b (fun k c t => t = ts ∧ c = (match k with | 0 => cs | 1 => cs ++ [LX] | 2 => cs ++ [LX] | 3 => cs ++ [LX] | 4 => cs ++ [LX] ++ [LY] | 5 => cs ++ [LX] ++ [LY] | _ => cs ++ [LX] ++ [LY] ++ [kW 0])) [] CL 0 wz3.drew := Sp.start pl3 (by rw [hCL]; simp only [List.forall_mem_cons]; exact ⟨y3_0, yn3_8_0, by simp⟩)
   have hap : Apart wz3 b [] [b3_8, w.heap.size] CL := ⟨by rw [hCL]; simp only [List.forall_mem_cons]; exact ⟨by simp, by simp, by simp⟩, by simp only [List.forall_mem_cons]; exact ⟨World.block_lt_of_cell? _ _ yn3_8_0, World.block_lt_of_cell? _ _ y3_0, by simp⟩, by simp only [List.forall_mem_cons]; exact ⟨fn3_8, fr3_0, by simp⟩, by simp⟩
   refine Reg.wp_region (Reg.of 33 _ _ [.pointer (some ⟨w.heap.size, 0, none⟩), .iface 152 (.pointer (some ⟨b, 0, none⟩)), .func (.func 163) #[] #[.pointer (some ⟨w.heap.size, 0, none⟩), .pointer (some ⟨b3_8, 0, none⟩)], .int .i32 (maxW (absW x) (absW y)).v, .int .i32 (LX).v, .iface 152 (.pointer (some ⟨b, 0, none⟩)), .iface 152 (.pointer (some ⟨b, 0, none⟩)), .int .i64 ix0, .pointer (some ⟨w.heap.size, 0, none⟩), .iface 152 (.pointer (some ⟨b, 0, none⟩)), .func (.func 163) #[] #[.pointer (some ⟨w.heap.size, 0, none⟩), .pointer (some ⟨b3_8, 0, none⟩)], .agg #[.iface 152 (.pointer (some ⟨b, 0, none⟩))], .int .i32 (absW x).v, .int .i32 (absW y).v, .int .i32 (minW (absW x) (absW y)).v, .int .i32 (LY).v, .iface 152 (.pointer (some ⟨b, 0, none⟩)), .iface 152 (.pointer (some ⟨b, 0, none⟩)), .int .i64 ix1, .pointer (some ⟨w.heap.size, 0, none⟩), .iface 152 (.pointer (some ⟨b, 0, none⟩)), .pointer (some ⟨w.heap.size, 0, none⟩), .iface 152 (.pointer (some ⟨b, 0, none⟩)), .int .i32 (kW (0)).v, .iface 152 (.pointer (some ⟨b, 0, none⟩)), .iface 152 (.pointer (some ⟨b, 0, none⟩)), .int .i64 ix2, undef, undef, undef, undef, undef, undef] [fun _ => undef, fun _ => undef, fun _ => undef, fun _ => undef, fun _ => undef, fun _ => undef, fun _ => undef, fun _ => undef, fun _ => undef, fun _ => undef, fun _ => undef, fun _ => undef, fun _ => undef, fun _ => undef, fun _ => undef, fun _ => undef, fun _ => undef, fun _ => undef, fun _ => undef, fun _ => undef, fun _ => undef, fun _ => undef, fun _ => undef, fun _ => undef, fun _ => undef, fun _ => undef, fun _ => undef, fun g => .pointer (some ⟨g, 0, none⟩), fun g => .pointer (some ⟨g, 0, none⟩), fun g => .pointer (some ⟨g, 0, none⟩), fun _ => undef, fun _ => undef, fun _ => undef] [.val, .val, .val, .val, .val, .val, .val, .val, .val, .val, .val, .val, .val, .val, .val, .val, .val, .val, .val, .val, .val, .val, .val, .val, .val, .val, .val, .new 3 [.int .i64 0], .new 3 [.int .i64 0], .new 3 [.int .i64 0], .put 27 [.int .i64 ix0], .put 28 [.int .i64 ix1], .put 29 [.int .i64 ix2]] [] [] [7, 14, 15, 18, 23, 26] (Sp wz3 b (fun k c t => t = ts ∧ c = (match k with | 0 => cs | 1 => cs ++ [LX] | 2 => cs ++ [LX] | 3 => cs ++ [LX] | 4 => cs ++ [LX] ++ [LY] | 5 => cs ++ [LX] ++ [LY] | _ => cs ++ [LX] ++ [LY] ++ [kW 0])) [] CL) (Fp wz3 b [] [b3_8, w.heap.size])) (Reg.good_of _ 110 (by kernel_rfl) (by kernel_rfl)) (stands_p _ hap rfl rfl rfl) (by kernel_rfl) HS0 (hold_of (by kernel_rfl) ?holdwz4) (ne_of (by kernel_rfl) ?hnewz4) (Reg.steps_of _ rfl ⟨?_, ?_, ?_, ?_, ?_, ?_, ?_, ?_, ?_, ?_, ?_, ?_, ?_, ?_, ?_, ?_, ?_, ?_, ?_, ?_, ?_, ?_, ?_, ?_, ?_, ?_, ?_, ?_, ?_, ?_, ?_, ?_, ?_, trivial⟩) ?hendwz4
   case holdwz4 =>
    intro k T c hk; simp at hk
   case hnewz4 => intro i j hi hj hne; exact absurd hi (by simp)
   case hendwz4 =>
    intro wz4 γ hSz hBz hnez hOz
    replace hSz : Sp wz3 b (fun k c t => t = ts ∧ c = (match k with | 0 => cs | 1 => cs ++ [LX] | 2 => cs ++ [LX] | 3 => cs ++ [LX] | 4 => cs ++ [LX] ++ [LY] | 5 => cs ++ [LX] ++ [LY] | _ => cs ++ [LX] ++ [LY] ++ [kW 0])) [] CL 6 wz4 := hSz
    have nb27 : Blk wz4 (γ 27) 3 [.int .i64 ix0] := (hBz 27 3 [.int .i64 0] (by kernel_rfl) [.int .i64 ix0] (by kernel_rfl)).1
    have nf27 : Fp wz3 b [] [b3_8, w.heap.size] wz4 (γ 27) := (hBz 27 3 [.int .i64 0] (by kernel_rfl) [.int .i64 ix0] (by kernel_rfl)).2.1
    have nb28 : Blk wz4 (γ 28) 3 [.int .i64 ix1] := (hBz 28 3 [.int .i64 0] (by kernel_rfl) [.int .i64 ix1] (by kernel_rfl)).1
    have nf28 : Fp wz3 b [] [b3_8, w.heap.size] wz4 (γ 28) := (hBz 28 3 [.int .i64 0] (by kernel_rfl) [.int .i64 ix1] (by kernel_rfl)).2.1
    have nb29 : Blk wz4 (γ 29) 3 [.int .i64 ix2] := (hBz 29 3 [.int .i64 0] (by kernel_rfl) [.int .i64 ix2] (by kernel_rfl)).1
    have nf29 : Fp wz3 b [] [b3_8, w.heap.size] wz4 (γ 29) := (hBz 29 3 [.int .i64 0] (by kernel_rfl) [.int .i64 ix2] (by kernel_rfl)).2.1
    refine end_of [(12, .pointer (some ⟨γ 27, 0, none⟩)), (13, .pointer (some ⟨γ 28, 0, none⟩)), (14, .pointer (some ⟨γ 29, 0, none⟩)), (36, .pointer (some ⟨w.heap.size, 0, none⟩)), (37, .iface 152 (.pointer (some ⟨b, 0, none⟩))), (38, .func (.func 163) #[] #[.pointer (some ⟨w.heap.size, 0, none⟩), .pointer (some ⟨b3_8, 0, none⟩)]), (39, .int .i32 (maxW (absW x) (absW y)).v), (40, .int .i32 (LX).v), (41, .iface 152 (.pointer (some ⟨b, 0, none⟩))), (42, .iface 152 (.pointer (some ⟨b, 0, none⟩))), (43, .int .i64 ix0), (44, .pointer (some ⟨w.heap.size, 0, none⟩)), (45, .iface 152 (.pointer (some ⟨b, 0, none⟩))), (46, .func (.func 163) #[] #[.pointer (some ⟨w.heap.size, 0, none⟩), .pointer (some ⟨b3_8, 0, none⟩)]), (47, .agg #[.iface 152 (.pointer (some ⟨b, 0, none⟩))]), (48, .int .i32 (absW x).v), (49, .int .i32 (absW y).v), (50, .int .i32 (minW (absW x) (absW y)).v), (51, .int .i32 (LY).v), (52, .iface 152 (.pointer (some ⟨b, 0, none⟩))), (53, .iface 152 (.pointer (some ⟨b, 0, none⟩))), (54, .int .i64 ix1), (55, .pointer (some ⟨w.heap.size, 0, none⟩)), (56, .iface 152 (.pointer (some ⟨b, 0, none⟩))), (57, .pointer (some ⟨w.heap.size, 0, none⟩)), (58, .iface 152 (.pointer (some ⟨b, 0, none⟩))), (59, .int .i32 (kW (0)).v), (60, .iface 152 (.pointer (some ⟨b, 0, none⟩))), (61, .iface 152 (.pointer (some ⟨b, 0, none⟩))), (62, .int .i64 ix2)] (by kernel_rfl) ?_
    clear hBz hnez hOz HS0
    simp only [Reg.of, List.foldl_cons, List.foldl_nil, List.setIfInBounds_toArray, List.set_cons_zero, List.set_cons_succ]
    generalize γ 27 = b27 at *
    generalize γ 28 = b28 at *
    generalize γ 29 = b29 at *
    have HC4 := hide (HC3.out.region hSz (by simp))
    have pl4 := hSz.pl
    have fr4_0 := hSz.apart hap (w.heap.size) (by simp)
    have fr4_1 := hSz.apart hap (b3_8) (by simp)
    have y4_0 : wz4.cell? ⟨w.heap.size, 0, none⟩ = some (.iface 152 (.pointer (some ⟨b, 0, none⟩))) := hSz.at_ 0 _ _ (by rw [hCL]; rfl)
    have y4_1 : wz4.cell? ⟨b3_8, 0, none⟩ = some (.int .i32 (subW (clzW (maxW (absW x) (absW y))) (kW 1)).v) := hSz.at_ 1 _ _ (by rw [hCL]; rfl)
    clear hSz hCL hap CL y3_0 yn3_8_0 HC3  fr3_0 fn3_8 pl3
    generalize b27 = b4_27 at *
    have yn4_27_0 : wz4.cell? ⟨b4_27, 0, none⟩ = some (.int .i64 ix0) := nb27.cell' (i := 0) rfl
    have fn4_27 := nf27.2.1
    generalize b28 = b4_28 at *
    have yn4_28_0 : wz4.cell? ⟨b4_28, 0, none⟩ = some (.int .i64 ix1) := nb28.cell' (i := 0) rfl
    have fn4_28 := nf28.2.1
    generalize b29 = b4_29 at *
    have yn4_29_0 : wz4.cell? ⟨b4_29, 0, none⟩ = some (.int .i64 ix2) := nb29.cell' (i := 0) rfl
    have fn4_29 := nf29.2.1
    obtain ⟨cs3, hcs3⟩ : ∃ l, l = cs ++ [LX, LY, kW 0] := ⟨_, rfl⟩
    replace pl4 : PlR wz4 b (fun c t => c = cs3 ∧ t = ts) := pl4.mono (fun c t h => ⟨by rw [hcs3, h.2]; simp, h.1⟩)
    have HCS3 := hide hcs3
    clear hcs3
    go_wp2_with fail
    clear y4_1 fr4_1
    obtain ⟨CL, hCL⟩ : ∃ l : List (Addr × Value), l = [(⟨w.heap.size, 0, none⟩, .iface 152 (.pointer (some ⟨b, 0, none⟩))), (⟨b4_27, 0, none⟩, .int .i64 ix0), (⟨b4_28, 0, none⟩, .int .i64 ix1), (⟨b4_29, 0, none⟩, .int .i64 ix2)] := ⟨_, rfl⟩
    have HS0 : SpT wz4 b cs3 ts 21 (wds turnsL) 28 [] CL 0 wz4.drew := SpT.start pl4 (by rw [hCL]; simp only [List.forall_mem_cons]; exact ⟨y4_0, yn4_27_0, yn4_28_0, yn4_29_0, by simp⟩)
    have hap : Apart wz4 b [] [b4_27, b4_28, b4_29, w.heap.size] CL := ⟨by rw [hCL]; simp only [List.forall_mem_cons]; exact ⟨by simp, by simp, by simp, by simp, by simp⟩, by simp only [List.forall_mem_cons]; exact ⟨World.block_lt_of_cell? _ _ yn4_27_0, World.block_lt_of_cell? _ _ yn4_28_0, World.block_lt_of_cell? _ _ yn4_29_0, World.block_lt_of_cell? _ _ y4_0, by simp⟩, by simp only [List.forall_mem_cons]; exact ⟨fn4_27, fn4_28, fn4_29, fr4_0, by simp⟩, by simp⟩
    refine Reg.wp_region (Reg.of 8 _ _ [.pointer (some ⟨w.heap.size, 0, none⟩), .iface 152 (.pointer (some ⟨b, 0, none⟩)), undef, .iface 152 (.pointer (some ⟨b, 0, none⟩)), .iface 152 (.pointer (some ⟨b, 0, none⟩)), .int .i64 ixt, undef, undef] [fun _ => undef, fun _ => undef, fun g => .slice (some ⟨g, 0, none⟩) 28 28, fun _ => undef, fun _ => undef, fun _ => undef, fun g => .pointer (some ⟨g, 0, none⟩), fun _ => undef] [.val, .val, .new 21 (wds turnsL), .val, .val, .val, .new 3 [.int .i64 0], .put 6 [.int .i64 ixt]] [] [] [5] (SpT wz4 b cs3 ts 21 (wds turnsL) 28 [] CL) (Fp wz4 b [] [b4_27, b4_28, b4_29, w.heap.size])) (Reg.good_of _ 110 (by kernel_rfl) (by kernel_rfl)) (stands_t _ hap rfl rfl rfl (Reg.putsB_spec (m := 8) (by kernel_rfl) (fun i j c h => Reg.of_put h))) (by kernel_rfl) HS0 (hold_of (by kernel_rfl) ?holdwz5) (ne_of (by kernel_rfl) ?hnewz5) (Reg.steps_of _ rfl ⟨?_, ?_, ?_, ?_, ?_, ?_, ?_, ?_, trivial⟩) ?hendwz5
    case holdwz5 =>
     intro k T c hk; simp at hk
    case hnewz5 => intro i j hi hj hne; exact absurd hi (by simp)
    case hendwz5 =>
     intro wz5 γ hSz hBz hnez hOz
     replace hSz : SpT wz4 b cs3 ts 21 (wds turnsL) 28 [] CL 1 wz5 := hSz
     have nb2 : Blk wz5 (γ 2) 21 (wds turnsL) := (hBz 2 21 (wds turnsL) (by kernel_rfl) (wds turnsL) (by kernel_rfl)).1
     have nf2 : Fp wz4 b [] [b4_27, b4_28, b4_29, w.heap.size] wz5 (γ 2) := (hBz 2 21 (wds turnsL) (by kernel_rfl) (wds turnsL) (by kernel_rfl)).2.1
     have nb6 : Blk wz5 (γ 6) 3 [.int .i64 ixt] := (hBz 6 3 [.int .i64 0] (by kernel_rfl) [.int .i64 ixt] (by kernel_rfl)).1
     have nf6 : Fp wz4 b [] [b4_27, b4_28, b4_29, w.heap.size] wz5 (γ 6) := (hBz 6 3 [.int .i64 0] (by kernel_rfl) [.int .i64 ixt] (by kernel_rfl)).2.1
     refine end_of [(15, .pointer (some ⟨γ 6, 0, none⟩)), (63, .pointer (some ⟨w.heap.size, 0, none⟩)), (64, .iface 152 (.pointer (some ⟨b, 0, none⟩))), (65, .slice (some ⟨γ 2, 0, none⟩) 28 28), (66, .iface 152 (.pointer (some ⟨b, 0, none⟩))), (67, .iface 152 (.pointer (some ⟨b, 0, none⟩))), (68, .int .i64 ixt)] (by kernel_rfl) ?_
     clear hBz hnez hOz HS0
     simp only [Reg.of, List.foldl_cons, List.foldl_nil, List.setIfInBounds_toArray, List.set_cons_zero, List.set_cons_succ]
     generalize γ 2 = b2 at *
     generalize γ 6 = b6 at *
     obtain ⟨gt, plt, hgt, hbt, hft⟩ := hSz.tb (by decide)
     replace hSz := hSz.sp
     have HC5 := hide (HC4.out.region hSz (by simp))
     have pl5 := plt
     have fr5_0 := hSz.apart hap (b4_28) (by simp)
     have fr5_1 := hSz.apart hap (b4_27) (by simp)
     have fr5_2 := hSz.apart hap (w.heap.size) (by simp)
     have fr5_3 := hSz.apart hap (b4_29) (by simp)
     have y5_0 : wz5.cell? ⟨w.heap.size, 0, none⟩ = some (.iface 152 (.pointer (some ⟨b, 0, none⟩))) := hSz.at_ 0 _ _ (by rw [hCL]; rfl)
     have y5_1 : wz5.cell? ⟨b4_27, 0, none⟩ = some (.int .i64 ix0) := hSz.at_ 1 _ _ (by rw [hCL]; rfl)
     have y5_2 : wz5.cell? ⟨b4_28, 0, none⟩ = some (.int .i64 ix1) := hSz.at_ 2 _ _ (by rw [hCL]; rfl)
     have y5_3 : wz5.cell? ⟨b4_29, 0, none⟩ = some (.int .i64 ix2) := hSz.at_ 3 _ _ (by rw [hCL]; rfl)
     clear hSz hCL hap CL y4_0 yn4_27_0 yn4_28_0 yn4_29_0 HC4  fr4_0 fn4_27 fn4_28 fn4_29 pl4
     clear nb2 nf2
     generalize b6 = b5_6 at *
     have yn5_6_0 : wz5.cell? ⟨b5_6, 0, none⟩ = some (.int .i64 ixt) := nb6.cell' (i := 0) rfl
     have fn5_6 := nf6.2.1
     have htb := hbt
     have hft := hft
     rw [HCS3.out] at pl5
     go_wp2_with fail
     refine (loop_calls _ _ _ 28 (by omega) (fun k wl => PlR wl b (fun c t => t = ts ++ [slv gt 28] ∧ c = cs ++ [(turnW LX LY k).a, (turnW LX LY k).b, (turnW LX LY k).c]) ∧ Turn wz5 b wl) wz5 (fun _ _ => by kernel_rfl) ?_ ⟨pl5.mono (fun c t h => ⟨h.2, h.1⟩), Turn.refl _ _⟩).mono ?_
     · rintro i wl hi ⟨hpl2, ht2⟩
       rw [show (i : Int) = (kW (i : Int)).v from (kW_v (show In32 (i : Int) from ⟨by omega, by omega⟩)).symm]
       refine (angle2_calls b i ix0 ix1 ix2 ixt w.heap.size b4_27 b4_28 b4_29 b5_6 gt (kW (i : Int)) _ _ _ cs (ts ++ [slv gt 28]) wl hi (hide (kW_v (show In32 (i : Int) from ⟨by omega, by omega⟩))) hix0l hix1h hix2h hlen (by simp; omega) hpl2 (ht2.cell y5_0 fr5_2) (ht2.cell y5_1 fr5_1) (ht2.cell y5_2 fr5_0) (ht2.cell y5_3 fr5_3) (ht2.cell yn5_6_0 fn5_6) (ht2.far (World.block_lt_of_cell? _ _ y5_0) fr5_2) (ht2.far (World.block_lt_of_cell? _ _ y5_1) fr5_1) (ht2.far (World.block_lt_of_cell? _ _ y5_2) fr5_0) (ht2.far (World.block_lt_of_cell? _ _ y5_3) fr5_3) (ht2.far (World.block_lt_of_cell? _ _ yn5_6_0) fn5_6) (hide (by rw [hixt.out]; simp)) (htb.chg ht2.chg hft) (ht2.far htb.lt hft)).mono ?_
       rintro e w7 ⟨rfl, h8, h9⟩
       exact ⟨rfl, h8, ht2.trans h9⟩
     rintro e wl ⟨rfl, hpl2, ht2⟩
     obtain ⟨TT, hTT⟩ : ∃ t, t = turnW LX LY 28 := ⟨_, rfl⟩
     rw [← hTT] at hpl2
     have HTT := hide hTT
     clear hTT
     have HT9 := hide (HC5.out.trans ht2)
     have z0 := ht2.cell y5_0 fr5_2
     have z1 := ht2.cell y5_1 fr5_1
     have z2 := ht2.cell y5_2 fr5_0
     have z3 := ht2.cell y5_3 fr5_3
     have z4 := ht2.cell yn5_6_0 fn5_6
     have f0 := ht2.far (World.block_lt_of_cell? _ _ y5_0) fr5_2
     have f1 := ht2.far (World.block_lt_of_cell? _ _ y5_1) fr5_1
     have f2 := ht2.far (World.block_lt_of_cell? _ _ y5_2) fr5_0
     have f3 := ht2.far (World.block_lt_of_cell? _ _ y5_3) fr5_3
     have f4 := ht2.far (World.block_lt_of_cell? _ _ yn5_6_0) fn5_6
     clear y5_0 y5_1 y5_2 y5_3 yn5_6_0 fr5_0 fr5_1 fr5_2 fr5_3 fn5_6 ht2 HC5 pl5 htb hft hbt hgt plt
     go_wp2_with fail
     refine (getm_calls b ix2 (TT.c) _ _ _ (by rw [hix2h.out]; exact idx2 _ _ _ _) hpl2 (by simp; omega)).mono ?_
     rintro e wz6 ⟨rfl, hcX⟩
     have y6_0 := hcX.cell z0 (by simp)
     have y6_1 := hcX.cell z1 (by simp)
     have y6_2 := hcX.cell z2 (by simp)
     have y6_3 := hcX.cell z3 (by simp)
     have y6_4 := hcX.cell z4 (by simp)
     have hd6 := dof_chg hpl2 hcX (by simp)
     have fr6_0 := f0
     rw [← hd6] at fr6_0
     have fr6_1 := f1
     rw [← hd6] at fr6_1
     have fr6_2 := f2
     rw [← hd6] at fr6_2
     have fr6_3 := f3
     rw [← hd6] at fr6_3
     have fr6_4 := f4
     rw [← hd6] at fr6_4
     have HC6 := hide (HT9.out.trans (Turn.call hpl2 hcX))
     have pl6 := hpl2.chg hcX (by simp)
     clear hcX hd6 z0 z1 z2 z3 z4 f0 f1 f2 f3 f4 hpl2 HT9
     go_wp2_with fail
     clear y6_1 y6_2 y6_3 y6_4 fr6_1 fr6_2 fr6_3 fr6_4
     obtain ⟨CL, hCL⟩ : ∃ l : List (Addr × Value), l = [(⟨w.heap.size, 0, none⟩, .iface 152 (.pointer (some ⟨b, 0, none⟩)))] := ⟨_, rfl⟩
     have HS0 : Sp wz6 b (fun _ => (fun c t => t = ts ++ [slv gt 28] ∧ c = cs ++ [TT.a, TT.b, TT.c])) [] CL 0 wz6.drew := Sp.start pl6 (by rw [hCL]; simp only [List.forall_mem_cons]; exact ⟨y6_0, by simp⟩)
     have hap : Apart wz6 b [] [w.heap.size] CL := ⟨by rw [hCL]; simp only [List.forall_mem_cons]; exact ⟨by simp, by simp⟩, by simp only [List.forall_mem_cons]; exact ⟨World.block_lt_of_cell? _ _ y6_0, by simp⟩, by simp only [List.forall_mem_cons]; exact ⟨fr6_0, by simp⟩, by simp⟩
     refine Reg.wp_region (Reg.of 16 _ _ [.agg #[.iface 152 (.pointer (some ⟨b, 0, none⟩))], .agg #[.iface 152 (.pointer (some ⟨b, 0, none⟩))], .agg #[.iface 152 (.pointer (some ⟨b, 0, none⟩))], .int .i32 (absW x).v, .int .i32 (absW y).v, .int .i32 (sltW (absW x) (absW y)).v, .int .i32 (negW (sltW (absW x) (absW y))).v, .agg #[.iface 152 (.pointer (some ⟨b, 0, none⟩))], .pointer (some ⟨w.heap.size, 0, none⟩), .iface 152 (.pointer (some ⟨b, 0, none⟩)), .int .i32 (kW (843314857)).v, .int .i32 (TT.c).v, .int .i32 (subW (kW (843314857)) (TT.c)).v, .int .i32 (TT.c).v, .int .i32 (selW (negW (sltW (absW x) (absW y))) (subW (kW (843314857)) (TT.c)) (TT.c)).v, .int .i32 (selW (negW (sltW (absW x) (absW y))) (subW (kW (843314857)) (TT.c)) (TT.c)).v] [fun _ => undef, fun _ => undef, fun _ => undef, fun _ => undef, fun _ => undef, fun _ => undef, fun _ => undef, fun _ => undef, fun _ => undef, fun _ => undef, fun _ => undef, fun _ => undef, fun _ => undef, fun _ => undef, fun _ => undef, fun _ => undef] [.val, .val, .val, .val, .val, .val, .val, .val, .val, .val, .val, .val, .val, .val, .val, .val] [] [] [] (Sp wz6 b (fun _ => (fun c t => t = ts ++ [slv gt 28] ∧ c = cs ++ [TT.a, TT.b, TT.c])) [] CL) (Fp wz6 b [] [w.heap.size])) (Reg.good_of _ 110 (by kernel_rfl) (by kernel_rfl)) (stands_p _ hap rfl rfl rfl) (by kernel_rfl) HS0 (hold_of (by kernel_rfl) ?holdwz7) (ne_of (by kernel_rfl) ?hnewz7) (Reg.steps_of _ rfl ⟨?_, ?_, ?_, ?_, ?_, ?_, ?_, ?_, ?_, ?_, ?_, ?_, ?_, ?_, ?_, ?_, trivial⟩) ?hendwz7
     case holdwz7 =>
      intro k T c hk; simp at hk
     case hnewz7 => intro i j hi hj hne; exact absurd hi (by simp)
     case hendwz7 =>
      intro wz7 γ hSz hBz hnez hOz
      replace hSz : Sp wz6 b (fun _ => (fun c t => t = ts ++ [slv gt 28] ∧ c = cs ++ [TT.a, TT.b, TT.c])) [] CL 0 wz7 := hSz
      refine end_of [(16, .int .i32 (selW (negW (sltW (absW x) (absW y))) (subW (kW (843314857)) (TT.c)) (TT.c)).v), (77, .agg #[.iface 152 (.pointer (some ⟨b, 0, none⟩))]), (78, .agg #[.iface 152 (.pointer (some ⟨b, 0, none⟩))]), (79, .agg #[.iface 152 (.pointer (some ⟨b, 0, none⟩))]), (80, .int .i32 (absW x).v), (81, .int .i32 (absW y).v), (82, .int .i32 (sltW (absW x) (absW y)).v), (83, .int .i32 (negW (sltW (absW x) (absW y))).v), (84, .agg #[.iface 152 (.pointer (some ⟨b, 0, none⟩))]), (85, .pointer (some ⟨w.heap.size, 0, none⟩)), (86, .iface 152 (.pointer (some ⟨b, 0, none⟩))), (87, .int .i32 (kW (843314857)).v), (88, .int .i32 (TT.c).v), (89, .int .i32 (subW (kW (843314857)) (TT.c)).v), (90, .int .i32 (TT.c).v), (91, .int .i32 (selW (negW (sltW (absW x) (absW y))) (subW (kW (843314857)) (TT.c)) (TT.c)).v)] (by kernel_rfl) ?_
      clear hBz hnez hOz HS0
      simp only [Reg.of, List.foldl_cons, List.foldl_nil, List.setIfInBounds_toArray, List.set_cons_zero, List.set_cons_succ]
      have HC7 := hide (HC6.out.region hSz (by simp))
      have pl7 := hSz.pl
      have fr7_0 := hSz.apart hap (w.heap.size) (by simp)
      have y7_0 : wz7.cell? ⟨w.heap.size, 0, none⟩ = some (.iface 152 (.pointer (some ⟨b, 0, none⟩))) := hSz.at_ 0 _ _ (by rw [hCL]; rfl)
      clear hSz hCL hap CL y6_0 HC6  fr6_0 pl6
      go_wp2_with fail
      obtain ⟨CL, hCL⟩ : ∃ l : List (Addr × Value), l = [(⟨w.heap.size, 0, none⟩, .iface 152 (.pointer (some ⟨b, 0, none⟩)))] := ⟨_, rfl⟩
      have HS0 : Sp wz7 b (fun _ => (fun c t => t = ts ++ [slv gt 28] ∧ c = cs ++ [TT.a, TT.b, TT.c])) [] CL 0 wz7.drew := Sp.start pl7 (by rw [hCL]; simp only [List.forall_mem_cons]; exact ⟨y7_0, by simp⟩)
      have hap : Apart wz7 b [] [w.heap.size] CL := ⟨by rw [hCL]; simp only [List.forall_mem_cons]; exact ⟨by simp, by simp⟩, by simp only [List.forall_mem_cons]; exact ⟨World.block_lt_of_cell? _ _ y7_0, by simp⟩, by simp only [List.forall_mem_cons]; exact ⟨fr7_0, by simp⟩, by simp⟩
      refine Reg.wp_region (Reg.of 13 _ _ [.agg #[.iface 152 (.pointer (some ⟨b, 0, none⟩))], .agg #[.iface 152 (.pointer (some ⟨b, 0, none⟩))], .int .i32 (x).v, .int .i32 (signW (x)).v, .agg #[.iface 152 (.pointer (some ⟨b, 0, none⟩))], .pointer (some ⟨w.heap.size, 0, none⟩), .iface 152 (.pointer (some ⟨b, 0, none⟩)), .int .i32 (kW (1686629713)).v, .int .i32 (angleBof y x TT.c).v, .int .i32 (subW (kW (1686629713)) (angleBof y x TT.c)).v, .int .i32 (angleBof y x TT.c).v, .int .i32 (selW (signW (x)) (subW (kW (1686629713)) (angleBof y x TT.c)) (angleBof y x TT.c)).v, .int .i32 (selW (signW (x)) (subW (kW (1686629713)) (angleBof y x TT.c)) (angleBof y x TT.c)).v] [fun _ => undef, fun _ => undef, fun _ => undef, fun _ => undef, fun _ => undef, fun _ => undef, fun _ => undef, fun _ => undef, fun _ => undef, fun _ => undef, fun _ => undef, fun _ => undef, fun _ => undef] [.val, .val, .val, .val, .val, .val, .val, .val, .val, .val, .val, .val, .val] [] [] [] (Sp wz7 b (fun _ => (fun c t => t = ts ++ [slv gt 28] ∧ c = cs ++ [TT.a, TT.b, TT.c])) [] CL) (Fp wz7 b [] [w.heap.size])) (Reg.good_of _ 110 (by kernel_rfl) (by kernel_rfl)) (stands_p _ hap rfl rfl rfl) (by kernel_rfl) HS0 (hold_of (by kernel_rfl) ?holdwz8) (ne_of (by kernel_rfl) ?hnewz8) (Reg.steps_of _ rfl ⟨?_, ?_, ?_, ?_, ?_, ?_, ?_, ?_, ?_, ?_, ?_, ?_, ?_, trivial⟩) ?hendwz8
      case holdwz8 =>
       intro k T c hk; simp at hk
      case hnewz8 => intro i j hi hj hne; exact absurd hi (by simp)
      case hendwz8 =>
       intro wz8 γ hSz hBz hnez hOz
       replace hSz : Sp wz7 b (fun _ => (fun c t => t = ts ++ [slv gt 28] ∧ c = cs ++ [TT.a, TT.b, TT.c])) [] CL 0 wz8 := hSz
       refine end_of [(16, .int .i32 (selW (signW (x)) (subW (kW (1686629713)) (angleBof y x TT.c)) (angleBof y x TT.c)).v), (92, .agg #[.iface 152 (.pointer (some ⟨b, 0, none⟩))]), (93, .agg #[.iface 152 (.pointer (some ⟨b, 0, none⟩))]), (94, .int .i32 (x).v), (95, .int .i32 (signW (x)).v), (96, .agg #[.iface 152 (.pointer (some ⟨b, 0, none⟩))]), (97, .pointer (some ⟨w.heap.size, 0, none⟩)), (98, .iface 152 (.pointer (some ⟨b, 0, none⟩))), (99, .int .i32 (kW (1686629713)).v), (100, .int .i32 (angleBof y x TT.c).v), (101, .int .i32 (subW (kW (1686629713)) (angleBof y x TT.c)).v), (102, .int .i32 (angleBof y x TT.c).v), (103, .int .i32 (selW (signW (x)) (subW (kW (1686629713)) (angleBof y x TT.c)) (angleBof y x TT.c)).v)] (by kernel_rfl) ?_
       clear hBz hnez hOz HS0
       simp only [Reg.of, List.foldl_cons, List.foldl_nil, List.setIfInBounds_toArray, List.set_cons_zero, List.set_cons_succ]
       have HC8 := hide (HC7.out.region hSz (by simp))
       have pl8 := hSz.pl
       have fr8_0 := hSz.apart hap (w.heap.size) (by simp)
       have y8_0 : wz8.cell? ⟨w.heap.size, 0, none⟩ = some (.iface 152 (.pointer (some ⟨b, 0, none⟩))) := hSz.at_ 0 _ _ (by rw [hCL]; rfl)
       clear hSz hCL hap CL y7_0 HC7  fr7_0 pl7
       go_wp2_with fail
       obtain ⟨CL, hCL⟩ : ∃ l : List (Addr × Value), l = [(⟨w.heap.size, 0, none⟩, .iface 152 (.pointer (some ⟨b, 0, none⟩)))] := ⟨_, rfl⟩
       have HS0 : Sp wz8 b (fun _ => (fun c t => t = ts ++ [slv gt 28] ∧ c = cs ++ [TT.a, TT.b, TT.c])) [] CL 0 wz8.drew := Sp.start pl8 (by rw [hCL]; simp only [List.forall_mem_cons]; exact ⟨y8_0, by simp⟩)
       have hap : Apart wz8 b [] [w.heap.size] CL := ⟨by rw [hCL]; simp only [List.forall_mem_cons]; exact ⟨by simp, by simp⟩, by simp only [List.forall_mem_cons]; exact ⟨World.block_lt_of_cell? _ _ y8_0, by simp⟩, by simp only [List.forall_mem_cons]; exact ⟨fr8_0, by simp⟩, by simp⟩
       refine Reg.wp_region (Reg.of 7 _ _ [.agg #[.iface 152 (.pointer (some ⟨b, 0, none⟩))], .int .i32 (angleCof x (angleBof y x TT.c)).v, .agg #[.iface 152 (.pointer (some ⟨b, 0, none⟩))], .int .i32 (y).v, .int .i32 (signW (y)).v, .int .i32 (flipW (angleCof x (angleBof y x TT.c)) (signW (y))).v, .int .i32 (flipW (angleCof x (angleBof y x TT.c)) (signW (y))).v] [fun _ => undef, fun _ => undef, fun _ => undef, fun _ => undef, fun _ => undef, fun _ => undef, fun _ => undef] [.val, .val, .val, .val, .val, .val, .val] [] [] [] (Sp wz8 b (fun _ => (fun c t => t = ts ++ [slv gt 28] ∧ c = cs ++ [TT.a, TT.b, TT.c])) [] CL) (Fp wz8 b [] [w.heap.size])) (Reg.good_of _ 110 (by kernel_rfl) (by kernel_rfl)) (stands_p _ hap rfl rfl rfl) (by kernel_rfl) HS0 (hold_of (by kernel_rfl) ?holdwz9) (ne_of (by kernel_rfl) ?hnewz9) (Reg.steps_of _ rfl ⟨?_, ?_, ?_, ?_, ?_, ?_, ?_, trivial⟩) ?hendwz9
       case holdwz9 =>
        intro k T c hk; simp at hk
       case hnewz9 => intro i j hi hj hne; exact absurd hi (by simp)
       case hendwz9 =>
        intro wz9 γ hSz hBz hnez hOz
        replace hSz : Sp wz8 b (fun _ => (fun c t => t = ts ++ [slv gt 28] ∧ c = cs ++ [TT.a, TT.b, TT.c])) [] CL 0 wz9 := hSz
        refine end_of [(6, .int .i32 (flipW (angleCof x (angleBof y x TT.c)) (signW (y))).v), (104, .agg #[.iface 152 (.pointer (some ⟨b, 0, none⟩))]), (105, .int .i32 (angleCof x (angleBof y x TT.c)).v), (106, .agg #[.iface 152 (.pointer (some ⟨b, 0, none⟩))]), (107, .int .i32 (y).v), (108, .int .i32 (signW (y)).v), (109, .int .i32 (flipW (angleCof x (angleBof y x TT.c)) (signW (y))).v)] (by kernel_rfl) ?_
        clear hBz hnez hOz HS0
        simp only [Reg.of, List.foldl_cons, List.foldl_nil, List.setIfInBounds_toArray, List.set_cons_zero, List.set_cons_succ]
        have HC9 := hide (HC8.out.region hSz (by simp))
        have pl9 := hSz.pl
        have fr9_0 := hSz.apart hap (w.heap.size) (by simp)
        have y9_0 : wz9.cell? ⟨w.heap.size, 0, none⟩ = some (.iface 152 (.pointer (some ⟨b, 0, none⟩))) := hSz.at_ 0 _ _ (by rw [hCL]; rfl)
        clear hSz hCL hap CL y8_0 HC8  fr8_0 pl8
        go_wp2
        have eT : TT = angleA y x := by rw [HTT.out, HLX.out, HLY.out]; rfl
        subst eT
        go_ret
        exact ⟨rfl, ⟨gt, pl9⟩, HC9.out⟩
       · intro a wu γ nph K hp hK
         obtain ⟨e3a, e3b⟩ := hp.old_ 3 (.pointer (some ⟨w.heap.size, 0, none⟩))
         have hS : Sp wz8 b (fun _ => (fun c t => t = ts ++ [slv gt 28] ∧ c = cs ++ [TT.a, TT.b, TT.c])) [] CL nph wu := hp.S
         have c0 := hS.at_ 0 ⟨w.heap.size, 0, none⟩ (.iface 152 (.pointer (some ⟨b, 0, none⟩))) (by rw [hCL]; rfl)
         have hk := hK.pure (.agg #[.iface 152 (.pointer (some ⟨b, 0, none⟩))]) hp.S
         clear hp hK hS
         go_simp
         exact hk
       · intro a wu γ nph K hp hK
         obtain ⟨e16a, e16b⟩ := hp.old_ 16 (.int .i32 (angleCof x (angleBof y x TT.c)).v)
         have hk := hK.pure (.int .i32 (angleCof x (angleBof y x TT.c)).v) hp.S
         clear hp hK
         go_simp
         exact hk
       · intro a wu γ nph K hp hK
         obtain ⟨e3a, e3b⟩ := hp.old_ 3 (.pointer (some ⟨w.heap.size, 0, none⟩))
         have hS : Sp wz8 b (fun _ => (fun c t => t = ts ++ [slv gt 28] ∧ c = cs ++ [TT.a, TT.b, TT.c])) [] CL nph wu := hp.S
         have c0 := hS.at_ 0 ⟨w.heap.size, 0, none⟩ (.iface 152 (.pointer (some ⟨b, 0, none⟩))) (by rw [hCL]; rfl)
         have hk := hK.pure (.agg #[.iface 152 (.pointer (some ⟨b, 0, none⟩))]) hp.S
         clear hp hK hS
         go_simp
         exact hk
       · intro a wu γ nph K hp hK
         obtain ⟨e1a, e1b⟩ := hp.old_ 1 (.int .i32 (y).v)
         have hk := hK.pure (.int .i32 (y).v) hp.S
         clear hp hK
         go_simp
         exact hk
       · intro a wu γ nph K hp hK
         obtain ⟨e106a, e106b⟩ := hp.dep_ 106 2 (.agg #[.iface 152 (.pointer (some ⟨b, 0, none⟩))])
         obtain ⟨e107a, e107b⟩ := hp.dep_ 107 3 (.int .i32 (y).v)
         have hS : Sp wz8 b (fun _ => (fun c t => t = ts ++ [slv gt 28] ∧ c = cs ++ [TT.a, TT.b, TT.c])) [] CL nph wu := hp.S
         have hk := hK.call (.int .i32 (signW (y)).v)
         clear hp hK
         go_simp
         refine (w_sign _ _ _).mono ?_
         rintro e w7 ⟨rfl, hcX⟩
         exact hk _ (hS.call hcX) (Reg.keep_callp _ rfl hS hcX)
       · intro a wu γ nph K hp hK
         obtain ⟨e104a, e104b⟩ := hp.dep_ 104 0 (.agg #[.iface 152 (.pointer (some ⟨b, 0, none⟩))])
         obtain ⟨e105a, e105b⟩ := hp.dep_ 105 1 (.int .i32 (angleCof x (angleBof y x TT.c)).v)
         obtain ⟨e108a, e108b⟩ := hp.dep_ 108 4 (.int .i32 (signW (y)).v)
         have hS : Sp wz8 b (fun _ => (fun c t => t = ts ++ [slv gt 28] ∧ c = cs ++ [TT.a, TT.b, TT.c])) [] CL nph wu := hp.S
         have hk := hK.call (.int .i32 (flipW (angleCof x (angleBof y x TT.c)) (signW (y))).v)
         clear hp hK
         go_simp
         refine (w_flip _ _ _ _).mono ?_
         rintro e w7 ⟨rfl, hcX⟩
         exact hk _ (hS.call hcX) (Reg.keep_callp _ rfl hS hcX)
       · intro a wu γ nph K hp hK
         obtain ⟨e109a, e109b⟩ := hp.dep_ 109 5 (.int .i32 (flipW (angleCof x (angleBof y x TT.c)) (signW (y))).v)
         have hk := hK.pure (.int .i32 (flipW (angleCof x (angleBof y x TT.c)) (signW (y))).v) hp.S
         clear hp hK
         go_simp
         exact hk
      · intro a wu γ nph K hp hK
        obtain ⟨e3a, e3b⟩ := hp.old_ 3 (.pointer (some ⟨w.heap.size, 0, none⟩))
        have hS : Sp wz7 b (fun _ => (fun c t => t = ts ++ [slv gt 28] ∧ c = cs ++ [TT.a, TT.b, TT.c])) [] CL nph wu := hp.S
        have c0 := hS.at_ 0 ⟨w.heap.size, 0, none⟩ (.iface 152 (.pointer (some ⟨b, 0, none⟩))) (by rw [hCL]; rfl)
        have hk := hK.pure (.agg #[.iface 152 (.pointer (some ⟨b, 0, none⟩))]) hp.S
        clear hp hK hS
        go_simp
        exact hk
      · intro a wu γ nph K hp hK
        obtain ⟨e3a, e3b⟩ := hp.old_ 3 (.pointer (some ⟨w.heap.size, 0, none⟩))
        have hS : Sp wz7 b (fun _ => (fun c t => t = ts ++ [slv gt 28] ∧ c = cs ++ [TT.a, TT.b, TT.c])) [] CL nph wu := hp.S
        have c0 := hS.at_ 0 ⟨w.heap.size, 0, none⟩ (.iface 152 (.pointer (some ⟨b, 0, none⟩))) (by rw [hCL]; rfl)
        have hk := hK.pure (.agg #[.iface 152 (.pointer (some ⟨b, 0, none⟩))]) hp.S
        clear hp hK hS
        go_simp
        exact hk
      · intro a wu γ nph K hp hK
        obtain ⟨e2a, e2b⟩ := hp.old_ 2 (.int .i32 (x).v)
        have hk := hK.pure (.int .i32 (x).v) hp.S
        clear hp hK
        go_simp
        exact hk
      · intro a wu γ nph K hp hK
        obtain ⟨e93a, e93b⟩ := hp.dep_ 93 1 (.agg #[.iface 152 (.pointer (some ⟨b, 0, none⟩))])
        obtain ⟨e94a, e94b⟩ := hp.dep_ 94 2 (.int .i32 (x).v)
        have hS : Sp wz7 b (fun _ => (fun c t => t = ts ++ [slv gt 28] ∧ c = cs ++ [TT.a, TT.b, TT.c])) [] CL nph wu := hp.S
        have hk := hK.call (.int .i32 (signW (x)).v)
        clear hp hK
        go_simp
        refine (w_sign _ _ _).mono ?_
        rintro e w7 ⟨rfl, hcX⟩
        exact hk _ (hS.call hcX) (Reg.keep_callp _ rfl hS hcX)
      · intro a wu γ nph K hp hK
        obtain ⟨e3a, e3b⟩ := hp.old_ 3 (.pointer (some ⟨w.heap.size, 0, none⟩))
        have hS : Sp wz7 b (fun _ => (fun c t => t = ts ++ [slv gt 28] ∧ c = cs ++ [TT.a, TT.b, TT.c])) [] CL nph wu := hp.S
        have c0 := hS.at_ 0 ⟨w.heap.size, 0, none⟩ (.iface 152 (.pointer (some ⟨b, 0, none⟩))) (by rw [hCL]; rfl)
        have hk := hK.pure (.agg #[.iface 152 (.pointer (some ⟨b, 0, none⟩))]) hp.S
        clear hp hK hS
        go_simp
        exact hk
      · intro a wu γ nph K hp hK
        obtain ⟨e3a, e3b⟩ := hp.old_ 3 (.pointer (some ⟨w.heap.size, 0, none⟩))
        have hk := hK.pure (.pointer (some ⟨w.heap.size, 0, none⟩)) hp.S
        clear hp hK
        go_simp
        exact hk
      · intro a wu γ nph K hp hK
        obtain ⟨e97a, e97b⟩ := hp.dep_ 97 5 (.pointer (some ⟨w.heap.size, 0, none⟩))
        have hS : Sp wz7 b (fun _ => (fun c t => t = ts ++ [slv gt 28] ∧ c = cs ++ [TT.a, TT.b, TT.c])) [] CL nph wu := hp.S
        have c0 := hS.at_ 0 ⟨w.heap.size, 0, none⟩ (.iface 152 (.pointer (some ⟨b, 0, none⟩))) (by rw [hCL]; rfl)
        have hk := hK.pure (.iface 152 (.pointer (some ⟨b, 0, none⟩))) hp.S
        clear hp hK hS
        go_simp
        exact hk
      · intro a wu γ nph K hp hK
        obtain ⟨e98a, e98b⟩ := hp.dep_ 98 6 (.iface 152 (.pointer (some ⟨b, 0, none⟩)))
        have hS : Sp wz7 b (fun _ => (fun c t => t = ts ++ [slv gt 28] ∧ c = cs ++ [TT.a, TT.b, TT.c])) [] CL nph wu := hp.S
        have hk := hK.call (.int .i32 (kW (1686629713)).v)
        clear hp hK
        go_simp
        refine (w_const _ _ _ (by first | assumption | decide)).mono ?_
        rintro e w7 ⟨rfl, hcX⟩
        exact hk _ (hS.call hcX) (Reg.keep_callp _ rfl hS hcX)
      · intro a wu γ nph K hp hK
        obtain ⟨e16a, e16b⟩ := hp.old_ 16 (.int .i32 (angleBof y x TT.c).v)
        have hk := hK.pure (.int .i32 (angleBof y x TT.c).v) hp.S
        clear hp hK
        go_simp
        exact hk
      · intro a wu γ nph K hp hK
        obtain ⟨e96a, e96b⟩ := hp.dep_ 96 4 (.agg #[.iface 152 (.pointer (some ⟨b, 0, none⟩))])
        obtain ⟨e99a, e99b⟩ := hp.dep_ 99 7 (.int .i32 (kW (1686629713)).v)
        obtain ⟨e100a, e100b⟩ := hp.dep_ 100 8 (.int .i32 (angleBof y x TT.c).v)
        have hS : Sp wz7 b (fun _ => (fun c t => t = ts ++ [slv gt 28] ∧ c = cs ++ [TT.a, TT.b, TT.c])) [] CL nph wu := hp.S
        have hk := hK.call (.int .i32 (subW (kW (1686629713)) (angleBof y x TT.c)).v)
        clear hp hK
        go_simp
        refine (w_sub _ _ _ _).mono ?_
        rintro e w7 ⟨rfl, hcX⟩
        exact hk _ (hS.call hcX) (Reg.keep_callp _ rfl hS hcX)
      · intro a wu γ nph K hp hK
        obtain ⟨e16a, e16b⟩ := hp.old_ 16 (.int .i32 (angleBof y x TT.c).v)
        have hk := hK.pure (.int .i32 (angleBof y x TT.c).v) hp.S
        clear hp hK
        go_simp
        exact hk
      · intro a wu γ nph K hp hK
        obtain ⟨e92a, e92b⟩ := hp.dep_ 92 0 (.agg #[.iface 152 (.pointer (some ⟨b, 0, none⟩))])
        obtain ⟨e95a, e95b⟩ := hp.dep_ 95 3 (.int .i32 (signW (x)).v)
        obtain ⟨e101a, e101b⟩ := hp.dep_ 101 9 (.int .i32 (subW (kW (1686629713)) (angleBof y x TT.c)).v)
        obtain ⟨e102a, e102b⟩ := hp.dep_ 102 10 (.int .i32 (angleBof y x TT.c).v)
        have hS : Sp wz7 b (fun _ => (fun c t => t = ts ++ [slv gt 28] ∧ c = cs ++ [TT.a, TT.b, TT.c])) [] CL nph wu := hp.S
        have hk := hK.call (.int .i32 (selW (signW (x)) (subW (kW (1686629713)) (angleBof y x TT.c)) (angleBof y x TT.c)).v)
        clear hp hK
        go_simp
        refine (w_sel _ _ _ _ _).mono ?_
        rintro e w7 ⟨rfl, hcX⟩
        exact hk _ (hS.call hcX) (Reg.keep_callp _ rfl hS hcX)
      · intro a wu γ nph K hp hK
        obtain ⟨e103a, e103b⟩ := hp.dep_ 103 11 (.int .i32 (selW (signW (x)) (subW (kW (1686629713)) (angleBof y x TT.c)) (angleBof y x TT.c)).v)
        have hk := hK.pure (.int .i32 (selW (signW (x)) (subW (kW (1686629713)) (angleBof y x TT.c)) (angleBof y x TT.c)).v) hp.S
        clear hp hK
        go_simp
        exact hk
     · intro a wu γ nph K hp hK
       obtain ⟨e3a, e3b⟩ := hp.old_ 3 (.pointer (some ⟨w.heap.size, 0, none⟩))
       have hS : Sp wz6 b (fun _ => (fun c t => t = ts ++ [slv gt 28] ∧ c = cs ++ [TT.a, TT.b, TT.c])) [] CL nph wu := hp.S
       have c0 := hS.at_ 0 ⟨w.heap.size, 0, none⟩ (.iface 152 (.pointer (some ⟨b, 0, none⟩))) (by rw [hCL]; rfl)
       have hk := hK.pure (.agg #[.iface 152 (.pointer (some ⟨b, 0, none⟩))]) hp.S
       clear hp hK hS
       go_simp
       exact hk
     · intro a wu γ nph K hp hK
       obtain ⟨e3a, e3b⟩ := hp.old_ 3 (.pointer (some ⟨w.heap.size, 0, none⟩))
       have hS : Sp wz6 b (fun _ => (fun c t => t = ts ++ [slv gt 28] ∧ c = cs ++ [TT.a, TT.b, TT.c])) [] CL nph wu := hp.S
       have c0 := hS.at_ 0 ⟨w.heap.size, 0, none⟩ (.iface 152 (.pointer (some ⟨b, 0, none⟩))) (by rw [hCL]; rfl)
       have hk := hK.pure (.agg #[.iface 152 (.pointer (some ⟨b, 0, none⟩))]) hp.S
       clear hp hK hS
       go_simp
       exact hk
     · intro a wu γ nph K hp hK
       obtain ⟨e3a, e3b⟩ := hp.old_ 3 (.pointer (some ⟨w.heap.size, 0, none⟩))
       have hS : Sp wz6 b (fun _ => (fun c t => t = ts ++ [slv gt 28] ∧ c = cs ++ [TT.a, TT.b, TT.c])) [] CL nph wu := hp.S
       have c0 := hS.at_ 0 ⟨w.heap.size, 0, none⟩ (.iface 152 (.pointer (some ⟨b, 0, none⟩))) (by rw [hCL]; rfl)
       have hk := hK.pure (.agg #[.iface 152 (.pointer (some ⟨b, 0, none⟩))]) hp.S
       clear hp hK hS
       go_simp
       exact hk
     · intro a wu γ nph K hp hK
       obtain ⟨e7a, e7b⟩ := hp.old_ 7 (.int .i32 (absW x).v)
       have hk := hK.pure (.int .i32 (absW x).v) hp.S
       clear hp hK
       go_simp
       exact hk
     · intro a wu γ nph K hp hK
       obtain ⟨e8a, e8b⟩ := hp.old_ 8 (.int .i32 (absW y).v)
       have hk := hK.pure (.int .i32 (absW y).v) hp.S
       clear hp hK
       go_simp
       exact hk
     · intro a wu γ nph K hp hK
       obtain ⟨e79a, e79b⟩ := hp.dep_ 79 2 (.agg #[.iface 152 (.pointer (some ⟨b, 0, none⟩))])
       obtain ⟨e80a, e80b⟩ := hp.dep_ 80 3 (.int .i32 (absW x).v)
       obtain ⟨e81a, e81b⟩ := hp.dep_ 81 4 (.int .i32 (absW y).v)
       have hS : Sp wz6 b (fun _ => (fun c t => t = ts ++ [slv gt 28] ∧ c = cs ++ [TT.a, TT.b, TT.c])) [] CL nph wu := hp.S
       have hk := hK.call (.int .i32 (sltW (absW x) (absW y)).v)
       clear hp hK
       go_simp
       refine (w_slt _ _ _ _).mono ?_
       rintro e w7 ⟨rfl, hcX⟩
       exact hk _ (hS.call hcX) (Reg.keep_callp _ rfl hS hcX)
     · intro a wu γ nph K hp hK
       obtain ⟨e78a, e78b⟩ := hp.dep_ 78 1 (.agg #[.iface 152 (.pointer (some ⟨b, 0, none⟩))])
       obtain ⟨e82a, e82b⟩ := hp.dep_ 82 5 (.int .i32 (sltW (absW x) (absW y)).v)
       have hS : Sp wz6 b (fun _ => (fun c t => t = ts ++ [slv gt 28] ∧ c = cs ++ [TT.a, TT.b, TT.c])) [] CL nph wu := hp.S
       have hk := hK.call (.int .i32 (negW (sltW (absW x) (absW y))).v)
       clear hp hK
       go_simp
       refine (w_neg _ _ _).mono ?_
       rintro e w7 ⟨rfl, hcX⟩
       exact hk _ (hS.call hcX) (Reg.keep_callp _ rfl hS hcX)
     · intro a wu γ nph K hp hK
       obtain ⟨e3a, e3b⟩ := hp.old_ 3 (.pointer (some ⟨w.heap.size, 0, none⟩))
       have hS : Sp wz6 b (fun _ => (fun c t => t = ts ++ [slv gt 28] ∧ c = cs ++ [TT.a, TT.b, TT.c])) [] CL nph wu := hp.S
       have c0 := hS.at_ 0 ⟨w.heap.size, 0, none⟩ (.iface 152 (.pointer (some ⟨b, 0, none⟩))) (by rw [hCL]; rfl)
       have hk := hK.pure (.agg #[.iface 152 (.pointer (some ⟨b, 0, none⟩))]) hp.S
       clear hp hK hS
       go_simp
       exact hk
     · intro a wu γ nph K hp hK
       obtain ⟨e3a, e3b⟩ := hp.old_ 3 (.pointer (some ⟨w.heap.size, 0, none⟩))
       have hk := hK.pure (.pointer (some ⟨w.heap.size, 0, none⟩)) hp.S
       clear hp hK
       go_simp
       exact hk
     · intro a wu γ nph K hp hK
       obtain ⟨e85a, e85b⟩ := hp.dep_ 85 8 (.pointer (some ⟨w.heap.size, 0, none⟩))
       have hS : Sp wz6 b (fun _ => (fun c t => t = ts ++ [slv gt 28] ∧ c = cs ++ [TT.a, TT.b, TT.c])) [] CL nph wu := hp.S
       have c0 := hS.at_ 0 ⟨w.heap.size, 0, none⟩ (.iface 152 (.pointer (some ⟨b, 0, none⟩))) (by rw [hCL]; rfl)
       have hk := hK.pure (.iface 152 (.pointer (some ⟨b, 0, none⟩))) hp.S
       clear hp hK hS
       go_simp
       exact hk
     · intro a wu γ nph K hp hK
       obtain ⟨e86a, e86b⟩ := hp.dep_ 86 9 (.iface 152 (.pointer (some ⟨b, 0, none⟩)))
       have hS : Sp wz6 b (fun _ => (fun c t => t = ts ++ [slv gt 28] ∧ c = cs ++ [TT.a, TT.b, TT.c])) [] CL nph wu := hp.S
       have hk := hK.call (.int .i32 (kW (843314857)).v)
       clear hp hK
       go_simp
       refine (w_const _ _ _ (by first | assumption | decide)).mono ?_
       rintro e w7 ⟨rfl, hcX⟩
       exact hk _ (hS.call hcX) (Reg.keep_callp _ rfl hS hcX)
     · intro a wu γ nph K hp hK
       obtain ⟨e16a, e16b⟩ := hp.old_ 16 (.int .i32 (TT.c).v)
       have hk := hK.pure (.int .i32 (TT.c).v) hp.S
       clear hp hK
       go_simp
       exact hk
     · intro a wu γ nph K hp hK
       obtain ⟨e84a, e84b⟩ := hp.dep_ 84 7 (.agg #[.iface 152 (.pointer (some ⟨b, 0, none⟩))])
       obtain ⟨e87a, e87b⟩ := hp.dep_ 87 10 (.int .i32 (kW (843314857)).v)
       obtain ⟨e88a, e88b⟩ := hp.dep_ 88 11 (.int .i32 (TT.c).v)
       have hS : Sp wz6 b (fun _ => (fun c t => t = ts ++ [slv gt 28] ∧ c = cs ++ [TT.a, TT.b, TT.c])) [] CL nph wu := hp.S
       have hk := hK.call (.int .i32 (subW (kW (843314857)) (TT.c)).v)
       clear hp hK
       go_simp
       refine (w_sub _ _ _ _).mono ?_
       rintro e w7 ⟨rfl, hcX⟩
       exact hk _ (hS.call hcX) (Reg.keep_callp _ rfl hS hcX)
     · intro a wu γ nph K hp hK
       obtain ⟨e16a, e16b⟩ := hp.old_ 16 (.int .i32 (TT.c).v)
       have hk := hK.pure (.int .i32 (TT.c).v) hp.S
       clear hp hK
       go_simp
       exact hk
     · intro a wu γ nph K hp hK
       obtain ⟨e77a, e77b⟩ := hp.dep_ 77 0 (.agg #[.iface 152 (.pointer (some ⟨b, 0, none⟩))])
       obtain ⟨e83a, e83b⟩ := hp.dep_ 83 6 (.int .i32 (negW (sltW (absW x) (absW y))).v)
       obtain ⟨e89a, e89b⟩ := hp.dep_ 89 12 (.int .i32 (subW (kW (843314857)) (TT.c)).v)
       obtain ⟨e90a, e90b⟩ := hp.dep_ 90 13 (.int .i32 (TT.c).v)
       have hS : Sp wz6 b (fun _ => (fun c t => t = ts ++ [slv gt 28] ∧ c = cs ++ [TT.a, TT.b, TT.c])) [] CL nph wu := hp.S
       have hk := hK.call (.int .i32 (selW (negW (sltW (absW x) (absW y))) (subW (kW (843314857)) (TT.c)) (TT.c)).v)
       clear hp hK
       go_simp
       refine (w_sel _ _ _ _ _).mono ?_
       rintro e w7 ⟨rfl, hcX⟩
       exact hk _ (hS.call hcX) (Reg.keep_callp _ rfl hS hcX)
     · intro a wu γ nph K hp hK
       obtain ⟨e91a, e91b⟩ := hp.dep_ 91 14 (.int .i32 (selW (negW (sltW (absW x) (absW y))) (subW (kW (843314857)) (TT.c)) (TT.c)).v)
       have hk := hK.pure (.int .i32 (selW (negW (sltW (absW x) (absW y))) (subW (kW (843314857)) (TT.c)) (TT.c)).v) hp.S
       clear hp hK
       go_simp
       exact hk
    · intro a wu γ nph K hp hK
      obtain ⟨e3a, e3b⟩ := hp.old_ 3 (.pointer (some ⟨w.heap.size, 0, none⟩))
      have hk := hK.pure (.pointer (some ⟨w.heap.size, 0, none⟩)) hp.S
      clear hp hK
      go_simp
      exact hk
    · intro a wu γ nph K hp hK
      obtain ⟨e63a, e63b⟩ := hp.dep_ 63 0 (.pointer (some ⟨w.heap.size, 0, none⟩))
      have hS : SpT wz4 b cs3 ts 21 (wds turnsL) 28 [] CL nph wu := hp.S
      have c0 := hS.at_ 0 ⟨w.heap.size, 0, none⟩ (.iface 152 (.pointer (some ⟨b, 0, none⟩))) (by rw [hCL]; rfl)
      have hk := hK.pure (.iface 152 (.pointer (some ⟨b, 0, none⟩))) hp.S
      clear hp hK hS
      go_simp
      exact hk
    · intro a wu γ nph K hp hK
      have hk := hK.new 21 (wds turnsL) (fun g => .slice (some ⟨g, 0, none⟩) 28 28)
      clear hp hK
      go_simp
      refine (turns_calls _).mono ?_
      rintro e w7 ⟨rfl, rfl⟩
      exact hk
    · intro a wu γ nph K hp hK
      obtain ⟨e64a, e64b⟩ := hp.dep_ 64 1 (.iface 152 (.pointer (some ⟨b, 0, none⟩)))
      have hk := hK.pure (.iface 152 (.pointer (some ⟨b, 0, none⟩))) hp.S
      clear hp hK
      go_simp
      exact hk
    · intro a wu γ nph K hp hK
      obtain ⟨e64a, e64b⟩ := hp.dep_ 64 1 (.iface 152 (.pointer (some ⟨b, 0, none⟩)))
      have hk := hK.pure (.iface 152 (.pointer (some ⟨b, 0, none⟩))) hp.S
      clear hp hK
      go_simp
      exact hk
    · intro a wu γ nph K hp hK
      obtain ⟨e67a, e67b⟩ := hp.dep_ 67 4 (.iface 152 (.pointer (some ⟨b, 0, none⟩)))
      obtain ⟨e65a, e65b⟩ := hp.dep_ 65 2 (.slice (some ⟨γ 2, 0, none⟩) 28 28)
      have hS : SpT wz4 b cs3 ts 21 (wds turnsL) 28 [] CL nph wu := hp.S
      have nb2 : Blk wu (γ 2) 21 (wds turnsL) := (hp.blk_ 2 (T := 21) (c := (wds turnsL))).1
      have nbF2 := (hp.blk_ 2 (T := 21) (c := (wds turnsL))).2.1
      have hn : nph = 0 := hp.eff 0 (by kernel_rfl)
      have hk := hK.eff (.int .i64 ixt)
      clear hp hK
      subst hn
      have hbF := nbF2
      go_simp
      refine (tablem_calls b ixt (γ 2) 28 cs3 ts _ hixt (hS.sp.pl.mono fun c t h => ⟨h.1, h.2 rfl⟩) hts).mono ?_
      rintro e w7 ⟨rfl, hpR, htR⟩
      exact hk _ (hS.hand hap (by rcases hbF.2.2 with h0 | h0; exact absurd h0 (by simp); exact h0) nb2 hbF.2.1 hpR htR) (Reg.keep_eff _ rfl htR)
    · intro a wu γ nph K hp hK
      have hk := hK.new 3 [.int .i64 0] (fun g => .pointer (some ⟨g, 0, none⟩))
      clear hp hK
      go_simp
      exact hk
    · intro a wu γ nph K hp hK
      obtain ⟨e15a, e15b⟩ := hp.dep_ 15 6 (.pointer (some ⟨γ 6, 0, none⟩))
      obtain ⟨e68a, e68b⟩ := hp.dep_ 68 5 (.int .i64 ixt)
      have hb := (hp.blk_ 6 (T := 3) (c := [.int .i64 0])).1
      have hk := hK.put 6 3 [.int .i64 0] [.int .i64 ixt]
      have z0 := hb.cell' (i := 0) rfl
      have f0 := hb.frozen 0
      clear hp hK
      go_simp
      exact hk _ (hb.set_ 0 _) ((Chg.refl wu _).setCell _ _ (.inl (by simp))) (by simp)
   · intro a wu γ nph K hp hK
     obtain ⟨e3a, e3b⟩ := hp.old_ 3 (.pointer (some ⟨w.heap.size, 0, none⟩))
     have hk := hK.pure (.pointer (some ⟨w.heap.size, 0, none⟩)) hp.S
     clear hp hK
     go_simp
     exact hk
   · intro a wu γ nph K hp hK
     obtain ⟨e36a, e36b⟩ := hp.dep_ 36 0 (.pointer (some ⟨w.heap.size, 0, none⟩))
     have hS : Sp wz3 b (fun k c t => t = ts ∧ c = (match k with | 0 => cs | 1 => cs ++ [LX] | 2 => cs ++ [LX] | 3 => cs ++ [LX] | 4 => cs ++ [LX] ++ [LY] | 5 => cs ++ [LX] ++ [LY] | _ => cs ++ [LX] ++ [LY] ++ [kW 0])) [] CL nph wu := hp.S
     have c0 := hS.at_ 0 ⟨w.heap.size, 0, none⟩ (.iface 152 (.pointer (some ⟨b, 0, none⟩))) (by rw [hCL]; rfl)
     have hk := hK.pure (.iface 152 (.pointer (some ⟨b, 0, none⟩))) hp.S
     clear hp hK hS
     go_simp
     exact hk
   · intro a wu γ nph K hp hK
     obtain ⟨e11a, e11b⟩ := hp.old_ 11 (.func (.func 163) #[] #[.pointer (some ⟨w.heap.size, 0, none⟩), .pointer (some ⟨b3_8, 0, none⟩)])
     have hk := hK.pure (.func (.func 163) #[] #[.pointer (some ⟨w.heap.size, 0, none⟩), .pointer (some ⟨b3_8, 0, none⟩)]) hp.S
     clear hp hK
     go_simp
     exact hk
   · intro a wu γ nph K hp hK
     obtain ⟨e9a, e9b⟩ := hp.old_ 9 (.int .i32 (maxW (absW x) (absW y)).v)
     have hk := hK.pure (.int .i32 (maxW (absW x) (absW y)).v) hp.S
     clear hp hK
     go_simp
     exact hk
   · intro a wu γ nph K hp hK
     obtain ⟨e38a, e38b⟩ := hp.dep_ 38 2 (.func (.func 163) #[] #[.pointer (some ⟨w.heap.size, 0, none⟩), .pointer (some ⟨b3_8, 0, none⟩)])
     obtain ⟨e39a, e39b⟩ := hp.dep_ 39 3 (.int .i32 (maxW (absW x) (absW y)).v)
     have hS : Sp wz3 b (fun k c t => t = ts ∧ c = (match k with | 0 => cs | 1 => cs ++ [LX] | 2 => cs ++ [LX] | 3 => cs ++ [LX] | 4 => cs ++ [LX] ++ [LY] | 5 => cs ++ [LX] ++ [LY] | _ => cs ++ [LX] ++ [LY] ++ [kW 0])) [] CL nph wu := hp.S
     have c0 := hS.at_ 0 ⟨w.heap.size, 0, none⟩ (.iface 152 (.pointer (some ⟨b, 0, none⟩))) (by rw [hCL]; rfl)
     have c1 := hS.at_ 1 ⟨b3_8, 0, none⟩ (.int .i32 (subW (clzW (maxW (absW x) (absW y))) (kW 1)).v) (by rw [hCL]; rfl)
     have hk := hK.call (.int .i32 (LX).v)
     clear hp hK
     go_simp
     refine (angle1_calls _ _ _ (maxW (absW x) (absW y)) (subW (clzW (maxW (absW x) (absW y))) (kW 1)) _ c0 c1).mono ?_
     rintro e w7 ⟨rfl, hcX⟩
     rw [← HLX.out]
     exact hk _ (hS.call hcX) (Reg.keep_callp _ rfl hS hcX)
   · intro a wu γ nph K hp hK
     obtain ⟨e37a, e37b⟩ := hp.dep_ 37 1 (.iface 152 (.pointer (some ⟨b, 0, none⟩)))
     have hk := hK.pure (.iface 152 (.pointer (some ⟨b, 0, none⟩))) hp.S
     clear hp hK
     go_simp
     exact hk
   · intro a wu γ nph K hp hK
     obtain ⟨e37a, e37b⟩ := hp.dep_ 37 1 (.iface 152 (.pointer (some ⟨b, 0, none⟩)))
     have hk := hK.pure (.iface 152 (.pointer (some ⟨b, 0, none⟩))) hp.S
     clear hp hK
     go_simp
     exact hk
   · intro a wu γ nph K hp hK
     obtain ⟨e42a, e42b⟩ := hp.dep_ 42 6 (.iface 152 (.pointer (some ⟨b, 0, none⟩)))
     obtain ⟨e40a, e40b⟩ := hp.dep_ 40 4 (.int .i32 (LX).v)
     have hS : Sp wz3 b (fun k c t => t = ts ∧ c = (match k with | 0 => cs | 1 => cs ++ [LX] | 2 => cs ++ [LX] | 3 => cs ++ [LX] | 4 => cs ++ [LX] ++ [LY] | 5 => cs ++ [LX] ++ [LY] | _ => cs ++ [LX] ++ [LY] ++ [kW 0])) [] CL nph wu := hp.S
     have hn : nph = 0 := hp.eff 0 (by kernel_rfl)
     have hk := hK.eff (.int .i64 ix0)
     clear hp hK
     subst hn
     go_simp
     refine (cellm_calls b ix0 (LX) (cs) ts _ hix0l hS.pl (by first | omega | (simp; omega))).mono ?_
     rintro e w7 ⟨rfl, hpR, htR⟩
     exact hk _ (hS.eff hap hpR htR) (Reg.keep_eff _ rfl htR)
   · intro a wu γ nph K hp hK
     obtain ⟨e3a, e3b⟩ := hp.old_ 3 (.pointer (some ⟨w.heap.size, 0, none⟩))
     have hk := hK.pure (.pointer (some ⟨w.heap.size, 0, none⟩)) hp.S
     clear hp hK
     go_simp
     exact hk
   · intro a wu γ nph K hp hK
     obtain ⟨e44a, e44b⟩ := hp.dep_ 44 8 (.pointer (some ⟨w.heap.size, 0, none⟩))
     have hS : Sp wz3 b (fun k c t => t = ts ∧ c = (match k with | 0 => cs | 1 => cs ++ [LX] | 2 => cs ++ [LX] | 3 => cs ++ [LX] | 4 => cs ++ [LX] ++ [LY] | 5 => cs ++ [LX] ++ [LY] | _ => cs ++ [LX] ++ [LY] ++ [kW 0])) [] CL nph wu := hp.S
     have c0 := hS.at_ 0 ⟨w.heap.size, 0, none⟩ (.iface 152 (.pointer (some ⟨b, 0, none⟩))) (by rw [hCL]; rfl)
     have hk := hK.pure (.iface 152 (.pointer (some ⟨b, 0, none⟩))) hp.S
     clear hp hK hS
     go_simp
     exact hk
   · intro a wu γ nph K hp hK
     obtain ⟨e11a, e11b⟩ := hp.old_ 11 (.func (.func 163) #[] #[.pointer (some ⟨w.heap.size, 0, none⟩), .pointer (some ⟨b3_8, 0, none⟩)])
     have hk := hK.pure (.func (.func 163) #[] #[.pointer (some ⟨w.heap.size, 0, none⟩), .pointer (some ⟨b3_8, 0, none⟩)]) hp.S
     clear hp hK
     go_simp
     exact hk
   · intro a wu γ nph K hp hK
     obtain ⟨e3a, e3b⟩ := hp.old_ 3 (.pointer (some ⟨w.heap.size, 0, none⟩))
     have hS : Sp wz3 b (fun k c t => t = ts ∧ c = (match k with | 0 => cs | 1 => cs ++ [LX] | 2 => cs ++ [LX] | 3 => cs ++ [LX] | 4 => cs ++ [LX] ++ [LY] | 5 => cs ++ [LX] ++ [LY] | _ => cs ++ [LX] ++ [LY] ++ [kW 0])) [] CL nph wu := hp.S
     have c0 := hS.at_ 0 ⟨w.heap.size, 0, none⟩ (.iface 152 (.pointer (some ⟨b, 0, none⟩))) (by rw [hCL]; rfl)
     have hk := hK.pure (.agg #[.iface 152 (.pointer (some ⟨b, 0, none⟩))]) hp.S
     clear hp hK hS
     go_simp
     exact hk
   · intro a wu γ nph K hp hK
     obtain ⟨e7a, e7b⟩ := hp.old_ 7 (.int .i32 (absW x).v)
     have hk := hK.pure (.int .i32 (absW x).v) hp.S
     clear hp hK
     go_simp
     exact hk
   · intro a wu γ nph K hp hK
     obtain ⟨e8a, e8b⟩ := hp.old_ 8 (.int .i32 (absW y).v)
     have hk := hK.pure (.int .i32 (absW y).v) hp.S
     clear hp hK
     go_simp
     exact hk
   · intro a wu γ nph K hp hK
     obtain ⟨e47a, e47b⟩ := hp.dep_ 47 11 (.agg #[.iface 152 (.pointer (some ⟨b, 0, none⟩))])
     obtain ⟨e48a, e48b⟩ := hp.dep_ 48 12 (.int .i32 (absW x).v)
     obtain ⟨e49a, e49b⟩ := hp.dep_ 49 13 (.int .i32 (absW y).v)
     have hS : Sp wz3 b (fun k c t => t = ts ∧ c = (match k with | 0 => cs | 1 => cs ++ [LX] | 2 => cs ++ [LX] | 3 => cs ++ [LX] | 4 => cs ++ [LX] ++ [LY] | 5 => cs ++ [LX] ++ [LY] | _ => cs ++ [LX] ++ [LY] ++ [kW 0])) [] CL nph wu := hp.S
     have hn : nph = 1 := hp.eff 1 (by kernel_rfl)
     have hk := hK.eff (.int .i32 (minW (absW x) (absW y)).v)
     clear hp hK
     subst hn
     go_simp
     refine (w_min _ _ _ _).mono ?_
     rintro e w7 ⟨rfl, hcX⟩
     exact hk _ (hS.skip hcX (fun c t h => h)) (Reg.keep_callp _ rfl hS hcX)
   · intro a wu γ nph K hp hK
     obtain ⟨e46a, e46b⟩ := hp.dep_ 46 10 (.func (.func 163) #[] #[.pointer (some ⟨w.heap.size, 0, none⟩), .pointer (some ⟨b3_8, 0, none⟩)])
     obtain ⟨e50a, e50b⟩ := hp.dep_ 50 14 (.int .i32 (minW (absW x) (absW y)).v)
     have hS : Sp wz3 b (fun k c t => t = ts ∧ c = (match k with | 0 => cs | 1 => cs ++ [LX] | 2 => cs ++ [LX] | 3 => cs ++ [LX] | 4 => cs ++ [LX] ++ [LY] | 5 => cs ++ [LX] ++ [LY] | _ => cs ++ [LX] ++ [LY] ++ [kW 0])) [] CL nph wu := hp.S
     have c0 := hS.at_ 0 ⟨w.heap.size, 0, none⟩ (.iface 152 (.pointer (some ⟨b, 0, none⟩))) (by rw [hCL]; rfl)
     have c1 := hS.at_ 1 ⟨b3_8, 0, none⟩ (.int .i32 (subW (clzW (maxW (absW x) (absW y))) (kW 1)).v) (by rw [hCL]; rfl)
     have hn : nph = 2 := hp.eff 2 (by kernel_rfl)
     have hk := hK.eff (.int .i32 (LY).v)
     clear hp hK
     subst hn
     go_simp
     refine (angle1_calls _ _ _ (minW (absW x) (absW y)) (subW (clzW (maxW (absW x) (absW y))) (kW 1)) _ c0 c1).mono ?_
     rintro e w7 ⟨rfl, hcX⟩
     rw [← HLY.out]
     exact hk _ (hS.skip hcX (fun c t h => h)) (Reg.keep_callp _ rfl hS hcX)
   · intro a wu γ nph K hp hK
     obtain ⟨e45a, e45b⟩ := hp.dep_ 45 9 (.iface 152 (.pointer (some ⟨b, 0, none⟩)))
     have hk := hK.pure (.iface 152 (.pointer (some ⟨b, 0, none⟩))) hp.S
     clear hp hK
     go_simp
     exact hk
   · intro a wu γ nph K hp hK
     obtain ⟨e45a, e45b⟩ := hp.dep_ 45 9 (.iface 152 (.pointer (some ⟨b, 0, none⟩)))
     have hk := hK.pure (.iface 152 (.pointer (some ⟨b, 0, none⟩))) hp.S
     clear hp hK
     go_simp
     exact hk
   · intro a wu γ nph K hp hK
     obtain ⟨e53a, e53b⟩ := hp.dep_ 53 17 (.iface 152 (.pointer (some ⟨b, 0, none⟩)))
     obtain ⟨e51a, e51b⟩ := hp.dep_ 51 15 (.int .i32 (LY).v)
     have hS : Sp wz3 b (fun k c t => t = ts ∧ c = (match k with | 0 => cs | 1 => cs ++ [LX] | 2 => cs ++ [LX] | 3 => cs ++ [LX] | 4 => cs ++ [LX] ++ [LY] | 5 => cs ++ [LX] ++ [LY] | _ => cs ++ [LX] ++ [LY] ++ [kW 0])) [] CL nph wu := hp.S
     have hn : nph = 3 := hp.eff 3 (by kernel_rfl)
     have hk := hK.eff (.int .i64 ix1)
     clear hp hK
     subst hn
     go_simp
     refine (cellm_calls b ix1 (LY) (cs ++ [LX]) ts _ hix1l hS.pl (by first | omega | (simp; omega))).mono ?_
     rintro e w7 ⟨rfl, hpR, htR⟩
     exact hk _ (hS.eff hap hpR htR) (Reg.keep_eff _ rfl htR)
   · intro a wu γ nph K hp hK
     obtain ⟨e3a, e3b⟩ := hp.old_ 3 (.pointer (some ⟨w.heap.size, 0, none⟩))
     have hk := hK.pure (.pointer (some ⟨w.heap.size, 0, none⟩)) hp.S
     clear hp hK
     go_simp
     exact hk
   · intro a wu γ nph K hp hK
     obtain ⟨e55a, e55b⟩ := hp.dep_ 55 19 (.pointer (some ⟨w.heap.size, 0, none⟩))
     have hS : Sp wz3 b (fun k c t => t = ts ∧ c = (match k with | 0 => cs | 1 => cs ++ [LX] | 2 => cs ++ [LX] | 3 => cs ++ [LX] | 4 => cs ++ [LX] ++ [LY] | 5 => cs ++ [LX] ++ [LY] | _ => cs ++ [LX] ++ [LY] ++ [kW 0])) [] CL nph wu := hp.S
     have c0 := hS.at_ 0 ⟨w.heap.size, 0, none⟩ (.iface 152 (.pointer (some ⟨b, 0, none⟩))) (by rw [hCL]; rfl)
     have hk := hK.pure (.iface 152 (.pointer (some ⟨b, 0, none⟩))) hp.S
     clear hp hK hS
     go_simp
     exact hk
   · intro a wu γ nph K hp hK
     obtain ⟨e3a, e3b⟩ := hp.old_ 3 (.pointer (some ⟨w.heap.size, 0, none⟩))
     have hk := hK.pure (.pointer (some ⟨w.heap.size, 0, none⟩)) hp.S
     clear hp hK
     go_simp
     exact hk
   · intro a wu γ nph K hp hK
     obtain ⟨e57a, e57b⟩ := hp.dep_ 57 21 (.pointer (some ⟨w.heap.size, 0, none⟩))
     have hS : Sp wz3 b (fun k c t => t = ts ∧ c = (match k with | 0 => cs | 1 => cs ++ [LX] | 2 => cs ++ [LX] | 3 => cs ++ [LX] | 4 => cs ++ [LX] ++ [LY] | 5 => cs ++ [LX] ++ [LY] | _ => cs ++ [LX] ++ [LY] ++ [kW 0])) [] CL nph wu := hp.S
     have c0 := hS.at_ 0 ⟨w.heap.size, 0, none⟩ (.iface 152 (.pointer (some ⟨b, 0, none⟩))) (by rw [hCL]; rfl)
     have hk := hK.pure (.iface 152 (.pointer (some ⟨b, 0, none⟩))) hp.S
     clear hp hK hS
     go_simp
     exact hk
   · intro a wu γ nph K hp hK
     obtain ⟨e58a, e58b⟩ := hp.dep_ 58 22 (.iface 152 (.pointer (some ⟨b, 0, none⟩)))
     have hS : Sp wz3 b (fun k c t => t = ts ∧ c = (match k with | 0 => cs | 1 => cs ++ [LX] | 2 => cs ++ [LX] | 3 => cs ++ [LX] | 4 => cs ++ [LX] ++ [LY] | 5 => cs ++ [LX] ++ [LY] | _ => cs ++ [LX] ++ [LY] ++ [kW 0])) [] CL nph wu := hp.S
     have hn : nph = 4 := hp.eff 4 (by kernel_rfl)
     have hk := hK.eff (.int .i32 (kW (0)).v)
     clear hp hK
     subst hn
     go_simp
     refine (w_const _ _ _ (by first | assumption | decide)).mono ?_
     rintro e w7 ⟨rfl, hcX⟩
     exact hk _ (hS.skip hcX (fun c t h => h)) (Reg.keep_callp _ rfl hS hcX)
   · intro a wu γ nph K hp hK
     obtain ⟨e56a, e56b⟩ := hp.dep_ 56 20 (.iface 152 (.pointer (some ⟨b, 0, none⟩)))
     have hk := hK.pure (.iface 152 (.pointer (some ⟨b, 0, none⟩))) hp.S
     clear hp hK
     go_simp
     exact hk
   · intro a wu γ nph K hp hK
     obtain ⟨e56a, e56b⟩ := hp.dep_ 56 20 (.iface 152 (.pointer (some ⟨b, 0, none⟩)))
     have hk := hK.pure (.iface 152 (.pointer (some ⟨b, 0, none⟩))) hp.S
     clear hp hK
     go_simp
     exact hk
   · intro a wu γ nph K hp hK
     obtain ⟨e61a, e61b⟩ := hp.dep_ 61 25 (.iface 152 (.pointer (some ⟨b, 0, none⟩)))
     obtain ⟨e59a, e59b⟩ := hp.dep_ 59 23 (.int .i32 (kW (0)).v)
     have hS : Sp wz3 b (fun k c t => t = ts ∧ c = (match k with | 0 => cs | 1 => cs ++ [LX] | 2 => cs ++ [LX] | 3 => cs ++ [LX] | 4 => cs ++ [LX] ++ [LY] | 5 => cs ++ [LX] ++ [LY] | _ => cs ++ [LX] ++ [LY] ++ [kW 0])) [] CL nph wu := hp.S
     have hn : nph = 5 := hp.eff 5 (by kernel_rfl)
     have hk := hK.eff (.int .i64 ix2)
     clear hp hK
     subst hn
     go_simp
     refine (cellm_calls b ix2 (kW (0)) (cs ++ [LX] ++ [LY]) ts _ hix2l hS.pl (by first | omega | (simp; omega))).mono ?_
     rintro e w7 ⟨rfl, hpR, htR⟩
     exact hk _ (hS.eff hap hpR htR) (Reg.keep_eff _ rfl htR)
   · intro a wu γ nph K hp hK
     have hk := hK.new 3 [.int .i64 0] (fun g => .pointer (some ⟨g, 0, none⟩))
     clear hp hK
     go_simp
     exact hk
   · intro a wu γ nph K hp hK
     have hk := hK.new 3 [.int .i64 0] (fun g => .pointer (some ⟨g, 0, none⟩))
     clear hp hK
     go_simp
     exact hk
   · intro a wu γ nph K hp hK
     have hk := hK.new 3 [.int .i64 0] (fun g => .pointer (some ⟨g, 0, none⟩))
     clear hp hK
     go_simp
     exact hk
   · intro a wu γ nph K hp hK
     obtain ⟨e12a, e12b⟩ := hp.dep_ 12 27 (.pointer (some ⟨γ 27, 0, none⟩))
     obtain ⟨e43a, e43b⟩ := hp.dep_ 43 7 (.int .i64 ix0)
     have hb := (hp.blk_ 27 (T := 3) (c := [.int .i64 0])).1
     have hk := hK.put 27 3 [.int .i64 0] [.int .i64 ix0]
     have z0 := hb.cell' (i := 0) rfl
     have f0 := hb.frozen 0
     clear hp hK
     go_simp
     exact hk _ (hb.set_ 0 _) ((Chg.refl wu _).setCell _ _ (.inl (by simp))) (by simp)
   · intro a wu γ nph K hp hK
     obtain ⟨e13a, e13b⟩ := hp.dep_ 13 28 (.pointer (some ⟨γ 28, 0, none⟩))
     obtain ⟨e54a, e54b⟩ := hp.dep_ 54 18 (.int .i64 ix1)
     have hb := (hp.blk_ 28 (T := 3) (c := [.int .i64 0])).1
     have hk := hK.put 28 3 [.int .i64 0] [.int .i64 ix1]
     have z0 := hb.cell' (i := 0) rfl
     have f0 := hb.frozen 0
     clear hp hK
     go_simp
     exact hk _ (hb.set_ 0 _) ((Chg.refl wu _).setCell _ _ (.inl (by simp))) (by simp)
   · intro a wu γ nph K hp hK
     obtain ⟨e14a, e14b⟩ := hp.dep_ 14 29 (.pointer (some ⟨γ 29, 0, none⟩))
     obtain ⟨e62a, e62b⟩ := hp.dep_ 62 26 (.int .i64 ix2)
     have hb := (hp.blk_ 29 (T := 3) (c := [.int .i64 0])).1
     have hk := hK.put 29 3 [.int .i64 0] [.int .i64 ix2]
     have z0 := hb.cell' (i := 0) rfl
     have f0 := hb.frozen 0
     clear hp hK
     go_simp
     exact hk _ (hb.set_ 0 _) ((Chg.refl wu _).setCell _ _ (.inl (by simp))) (by simp)
  · intro a wu γ nph K hp hK
    obtain ⟨e3a, e3b⟩ := hp.old_ 3 (.pointer (some ⟨w.heap.size, 0, none⟩))
    have hS : Sp wz2 b (fun _ => (fun c t => t = ts ∧ c = cs)) [] CL nph wu := hp.S
    have c0 := hS.at_ 0 ⟨w.heap.size, 0, none⟩ (.iface 152 (.pointer (some ⟨b, 0, none⟩))) (by rw [hCL]; rfl)
    have hk := hK.pure (.agg #[.iface 152 (.pointer (some ⟨b, 0, none⟩))]) hp.S
    clear hp hK hS
    go_simp
    exact hk
  · intro a wu γ nph K hp hK
    obtain ⟨e3a, e3b⟩ := hp.old_ 3 (.pointer (some ⟨w.heap.size, 0, none⟩))
    have hS : Sp wz2 b (fun _ => (fun c t => t = ts ∧ c = cs)) [] CL nph wu := hp.S
    have c0 := hS.at_ 0 ⟨w.heap.size, 0, none⟩ (.iface 152 (.pointer (some ⟨b, 0, none⟩))) (by rw [hCL]; rfl)
    have hk := hK.pure (.agg #[.iface 152 (.pointer (some ⟨b, 0, none⟩))]) hp.S
    clear hp hK hS
    go_simp
    exact hk
  · intro a wu γ nph K hp hK
    obtain ⟨e9a, e9b⟩ := hp.old_ 9 (.int .i32 (maxW (absW x) (absW y)).v)
    have hk := hK.pure (.int .i32 (maxW (absW x) (absW y)).v) hp.S
    clear hp hK
    go_simp
    exact hk
  · intro a wu γ nph K hp hK
    obtain ⟨e28a, e28b⟩ := hp.dep_ 28 1 (.agg #[.iface 152 (.pointer (some ⟨b, 0, none⟩))])
    obtain ⟨e29a, e29b⟩ := hp.dep_ 29 2 (.int .i32 (maxW (absW x) (absW y)).v)
    have hS : Sp wz2 b (fun _ => (fun c t => t = ts ∧ c = cs)) [] CL nph wu := hp.S
    have hk := hK.call (.int .i32 (clzW (maxW (absW x) (absW y))).v)
    clear hp hK
    go_simp
    refine (w_clz _ _ _).mono ?_
    rintro e w7 ⟨rfl, hcX⟩
    exact hk _ (hS.call hcX) (Reg.keep_callp _ rfl hS hcX)
  · intro a wu γ nph K hp hK
    obtain ⟨e3a, e3b⟩ := hp.old_ 3 (.pointer (some ⟨w.heap.size, 0, none⟩))
    have hk := hK.pure (.pointer (some ⟨w.heap.size, 0, none⟩)) hp.S
    clear hp hK
    go_simp
    exact hk
  · intro a wu γ nph K hp hK
    obtain ⟨e31a, e31b⟩ := hp.dep_ 31 4 (.pointer (some ⟨w.heap.size, 0, none⟩))
    have hS : Sp wz2 b (fun _ => (fun c t => t = ts ∧ c = cs)) [] CL nph wu := hp.S
    have c0 := hS.at_ 0 ⟨w.heap.size, 0, none⟩ (.iface 152 (.pointer (some ⟨b, 0, none⟩))) (by rw [hCL]; rfl)
    have hk := hK.pure (.iface 152 (.pointer (some ⟨b, 0, none⟩))) hp.S
    clear hp hK hS
    go_simp
    exact hk
  · intro a wu γ nph K hp hK
    obtain ⟨e32a, e32b⟩ := hp.dep_ 32 5 (.iface 152 (.pointer (some ⟨b, 0, none⟩)))
    have hS : Sp wz2 b (fun _ => (fun c t => t = ts ∧ c = cs)) [] CL nph wu := hp.S
    have hk := hK.call (.int .i32 (kW (1)).v)
    clear hp hK
    go_simp
    refine (w_const _ _ _ (by first | assumption | decide)).mono ?_
    rintro e w7 ⟨rfl, hcX⟩
    exact hk _ (hS.call hcX) (Reg.keep_callp _ rfl hS hcX)
  · intro a wu γ nph K hp hK
    obtain ⟨e27a, e27b⟩ := hp.dep_ 27 0 (.agg #[.iface 152 (.pointer (some ⟨b, 0, none⟩))])
    obtain ⟨e30a, e30b⟩ := hp.dep_ 30 3 (.int .i32 (clzW (maxW (absW x) (absW y))).v)
    obtain ⟨e33a, e33b⟩ := hp.dep_ 33 6 (.int .i32 (kW (1)).v)
    have hS : Sp wz2 b (fun _ => (fun c t => t = ts ∧ c = cs)) [] CL nph wu := hp.S
    have hk := hK.call (.int .i32 (subW (clzW (maxW (absW x) (absW y))) (kW (1))).v)
    clear hp hK
    go_simp
    refine (w_sub _ _ _ _).mono ?_
    rintro e w7 ⟨rfl, hcX⟩
    exact hk _ (hS.call hcX) (Reg.keep_callp _ rfl hS hcX)
  · intro a wu γ nph K hp hK
    have hk := hK.new 21 [.int .i32 0] (fun g => .pointer (some ⟨g, 0, none⟩))
    clear hp hK
    go_simp
    exact hk
  · intro a wu γ nph K hp hK
    obtain ⟨e10a, e10b⟩ := hp.dep_ 10 8 (.pointer (some ⟨γ 8, 0, none⟩))
    obtain ⟨e34a, e34b⟩ := hp.dep_ 34 7 (.int .i32 (subW (clzW (maxW (absW x) (absW y))) (kW (1))).v)
    have hb := (hp.blk_ 8 (T := 21) (c := [.int .i32 0])).1
    have hk := hK.put 8 21 [.int .i32 0] [.int .i32 (subW (clzW (maxW (absW x) (absW y))) (kW (1))).v]
    have z0 := hb.cell' (i := 0) rfl
    have f0 := hb.frozen 0
    clear hp hK
    go_simp
    exact hk _ (hb.set_ 0 _) ((Chg.refl wu _).setCell _ _ (.inl (by simp))) (by simp)
 · intro a wu γ nph K hp hK
   obtain ⟨e3a, e3b⟩ := hp.old_ 3 (.pointer (some ⟨w.heap.size, 0, none⟩))
   have hS : Sp w6 b (fun _ => (fun c t => t = ts ∧ c = cs)) [] CL nph wu := hp.S
   have c0 := hS.at_ 0 ⟨w.heap.size, 0, none⟩ (.iface 152 (.pointer (some ⟨b, 0, none⟩))) (by rw [hCL]; rfl)
   have hk := hK.pure (.agg #[.iface 152 (.pointer (some ⟨b, 0, none⟩))]) hp.S
   clear hp hK hS
   go_simp
   exact hk
 · intro a wu γ nph K hp hK
   obtain ⟨e2a, e2b⟩ := hp.old_ 2 (.int .i32 (x).v)
   have hk := hK.pure (.int .i32 (x).v) hp.S
   clear hp hK
   go_simp
   exact hk
 · intro a wu γ nph K hp hK
   obtain ⟨e17a, e17b⟩ := hp.dep_ 17 0 (.agg #[.iface 152 (.pointer (some ⟨b, 0, none⟩))])
   obtain ⟨e18a, e18b⟩ := hp.dep_ 18 1 (.int .i32 (x).v)
   have hS : Sp w6 b (fun _ => (fun c t => t = ts ∧ c = cs)) [] CL nph wu := hp.S
   have hk := hK.call (.int .i32 (absW (x)).v)
   clear hp hK
   go_simp
   refine (w_abs _ _ _).mono ?_
   rintro e w7 ⟨rfl, hcX⟩
   exact hk _ (hS.call hcX) (Reg.keep_callp _ rfl hS hcX)
 · intro a wu γ nph K hp hK
   obtain ⟨e3a, e3b⟩ := hp.old_ 3 (.pointer (some ⟨w.heap.size, 0, none⟩))
   have hS : Sp w6 b (fun _ => (fun c t => t = ts ∧ c = cs)) [] CL nph wu := hp.S
   have c0 := hS.at_ 0 ⟨w.heap.size, 0, none⟩ (.iface 152 (.pointer (some ⟨b, 0, none⟩))) (by rw [hCL]; rfl)
   have hk := hK.pure (.agg #[.iface 152 (.pointer (some ⟨b, 0, none⟩))]) hp.S
   clear hp hK hS
   go_simp
   exact hk
 · intro a wu γ nph K hp hK
   obtain ⟨e1a, e1b⟩ := hp.old_ 1 (.int .i32 (y).v)
   have hk := hK.pure (.int .i32 (y).v) hp.S
   clear hp hK
   go_simp
   exact hk
 · intro a wu γ nph K hp hK
   obtain ⟨e20a, e20b⟩ := hp.dep_ 20 3 (.agg #[.iface 152 (.pointer (some ⟨b, 0, none⟩))])
   obtain ⟨e21a, e21b⟩ := hp.dep_ 21 4 (.int .i32 (y).v)
   have hS : Sp w6 b (fun _ => (fun c t => t = ts ∧ c = cs)) [] CL nph wu := hp.S
   have hk := hK.call (.int .i32 (absW (y)).v)
   clear hp hK
   go_simp
   refine (w_abs _ _ _).mono ?_
   rintro e w7 ⟨rfl, hcX⟩
   exact hk _ (hS.call hcX) (Reg.keep_callp _ rfl hS hcX)
 · intro a wu γ nph K hp hK
   obtain ⟨e19a, e19b⟩ := hp.dep_ 19 2 (.int .i32 (absW (x)).v)
   have hk := hK.pure (.int .i32 (absW (x)).v) hp.S
   clear hp hK
   go_simp
   exact hk
 · intro a wu γ nph K hp hK
   obtain ⟨e22a, e22b⟩ := hp.dep_ 22 5 (.int .i32 (absW (y)).v)
   have hk := hK.pure (.int .i32 (absW (y)).v) hp.S
   clear hp hK
   go_simp
   exact hk
theorem wangle_calls (b : Nat) (y x : Wd) (n : Nat) (w : World) (hn : n ≤ 900) (h : PlR w b (most n)) :
 Calls Tryz.prog 120 #[.agg #[.iface 152 (.pointer (some ⟨b, 0, none⟩))], .int .i32 y.v, .int .i32 x.v] w fun e w' => e = .returned (.int .i32 (angleW y x).v) ∧ PlR w' b (most (n + 3)) ∧ Turn w b w' := by
 obtain ⟨cs, ts, vc, vt, ⟨h1, h2⟩, hP⟩ := h
 refine (angle_in b y x cs ts w (by omega) (by omega) ⟨cs, ts, vc, vt, ⟨rfl, rfl⟩, hP⟩).mono ?_
 rintro e w' ⟨he, ⟨g, hp⟩, ht⟩
 exact ⟨he, hp.mono (fun c t ⟨h3, h4⟩ => by subst h3 h4; exact ⟨by simp; omega, by simp; omega⟩), ht⟩
end Go.Proofs.YtihgijhjhmjolaaGreatDoor
