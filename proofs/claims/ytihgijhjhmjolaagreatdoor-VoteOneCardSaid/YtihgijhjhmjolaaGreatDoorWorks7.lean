/- Root of package works at numbers. -/
import Derived.Test.YtihgijhjhmjolaaGreatDoorVP4
namespace Go.Proofs.YtihgijhjhmjolaaGreatDoor
open Go.RowKit Go.Deep
set_option linter.unusedVariables false
set_option maxRecDepth 100000 in
set_option maxHeartbeats 4000000 in
theorem root1_calls (b i j gw gz gu : Nat) (u : Wd) (cs : List Wd) (ts : List Value) (w : World) (hj : j < cs.length) (hlen : cs.length ≤ 1000) (hpl : PlR w b (fun c t => t = ts ∧ c = cs))
 (cw : w.cell? ⟨gw, 0, none⟩ = some (.iface 152 (.pointer (some ⟨b, 0, none⟩)))) (cz : w.cell? ⟨gz, 0, none⟩ = some (.int .i64 j)) (cu : w.cell? ⟨gu, 0, none⟩ = some (.int .i32 u.v)) (fw : gw ∉ dof w b) (fz : gz ∉ dof w b) (fu : gu ∉ dof w b) :
 Calls Tryz.prog 178 #[.int .i32 i, .pointer (some ⟨gw, 0, none⟩), .pointer (some ⟨gz, 0, none⟩), .pointer (some ⟨gu, 0, none⟩)] w fun e w' => e = .returned (.tuple #[]) ∧ PlR w' b (fun c t => t = ts ∧ c = cs.set j (rootStep u cs[j])) ∧ Turn w b w' := by
 have h1 := nil_const ⟨b, 0, none⟩
 have h2 := meth_const ⟨b, 0, none⟩
 have h3 := nil_get ⟨b, 0, none⟩
 have h4 := meth_get ⟨b, 0, none⟩
 have h5 := nil_set ⟨b, 0, none⟩
 have h6 := meth_set ⟨b, 0, none⟩
 have h7 := nil_cell ⟨b, 0, none⟩
 have h8 := meth_cell ⟨b, 0, none⟩
 have h9 := nil_loop ⟨b, 0, none⟩
 have h10 := meth_loop ⟨b, 0, none⟩
 obtain ⟨y, hy⟩ : ∃ y, y = cs[j] := ⟨_, rfl⟩
 rw [← hy]
 have HY := hide hy
 clear hy
 go_enter Tryz.func178, Tryz.ntmps178
 go_wp2_with fail
 obtain ⟨cs1, ts1, vc1, vt1, ⟨rfl, rfl⟩, hP0⟩ := id hpl
 refine (get_calls b j _ _ _ _ w hP0 hj hlen).mono ?_
 rintro e w1 ⟨rfl, hc⟩
 rw [← HY.out]
 have HT0 : Hid (Turn w b w1) := hide (Turn.call hpl hc)
 replace cw := hc.cell cw (by simp)
 replace cz := hc.cell cz (by simp)
 replace cu := hc.cell cu (by simp)
 have hd := dof_chg hpl hc (by simp)
 rw [← hd] at fw fz fu
 replace hpl : PlR w1 b (fun c t => t = ts1 ∧ c = cs1) := hpl.chg hc (by simp)
 clear hd hc hP0 vc1 vt1
 go_wp2_with fail
 obtain ⟨CL, hCL⟩ : ∃ l : List (Addr × Value), l = [(⟨gw, 0, none⟩, .iface 152 (.pointer (some ⟨b, 0, none⟩))), (⟨gz, 0, none⟩, .int .i64 j), (⟨gu, 0, none⟩, .int .i32 (u).v)] := ⟨_, rfl⟩
 have HS0 : Sp w1 b (fun _ => (fun c t => t = ts1 ∧ c = cs1)) [] CL 0 w1.drew := Sp.start hpl (by rw [hCL]; simp only [List.forall_mem_cons]; exact ⟨cw, cz, cu, by simp⟩)
 have hap : Apart w1 b [] [gu, gw, gz] CL := ⟨by rw [hCL]; simp only [List.forall_mem_cons]; exact ⟨by simp, by simp, by simp, by simp⟩, by simp only [List.forall_mem_cons]; exact ⟨World.block_lt_of_cell? _ _ cu, World.block_lt_of_cell? _ _ cw, World.block_lt_of_cell? _ _ cz, by simp⟩, by simp only [List.forall_mem_cons]; exact ⟨fu, fw, fz, by simp⟩, by simp⟩
 refine Reg.wp_region (Reg.of 15 _ _ [.agg #[.iface 152 (.pointer (some ⟨b, 0, none⟩))], .pointer (some ⟨gw, 0, none⟩), .iface 152 (.pointer (some ⟨b, 0, none⟩)), .int .i32 (kW (1073741824)).v, .agg #[.iface 152 (.pointer (some ⟨b, 0, none⟩))], .agg #[.iface 152 (.pointer (some ⟨b, 0, none⟩))], .int .i32 (u).v, .agg #[.iface 152 (.pointer (some ⟨b, 0, none⟩))], .int .i32 (y).v, .int .i32 (y).v, .int .i32 (mulqW (y) (y)).v, .int .i32 (mulqW (u) (mulqW (y) (y))).v, .int .i32 (upW (mulqW (u) (mulqW (y) (y))) (2)).v, .int .i32 (subsW (kW (1073741824)) (upW (mulqW (u) (mulqW (y) (y))) (2))).v, .int .i32 (subsW (kW (1073741824)) (upW (mulqW (u) (mulqW (y) (y))) (2))).v] [fun _ => undef, fun _ => undef, fun _ => undef, fun _ => undef, fun _ => undef, fun _ => undef, fun _ => undef, fun _ => undef, fun _ => undef, fun _ => undef, fun _ => undef, fun _ => undef, fun _ => undef, fun _ => undef, fun _ => undef] [.val, .val, .val, .val, .val, .val, .val, .val, .val, .val, .val, .val, .val, .val, .val] [] [] [] (Sp w1 b (fun _ => (fun c t => t = ts1 ∧ c = cs1)) [] CL) (Fp w1 b [] [gu, gw, gz])) (Reg.good_of _ 40 (by kernel_rfl) (by kernel_rfl)) (stands_p _ hap rfl rfl rfl) (by kernel_rfl) HS0 (hold_of (by kernel_rfl) ?holdwz1) (ne_of (by kernel_rfl) ?hnewz1) (Reg.steps_of _ rfl ⟨?_, ?_, ?_, ?_, ?_, ?_, ?_, ?_, ?_, ?_, ?_, ?_, ?_, ?_, ?_, trivial⟩) ?hendwz1
 case holdwz1 =>
  intro k T c hk; simp at hk
 case hnewz1 => intro i j hi hj hne; exact absurd hi (by simp)
 case hendwz1 =>
  intro wz1 γ hSz hBz hnez hOz
  replace hSz : Sp w1 b (fun _ => (fun c t => t = ts1 ∧ c = cs1)) [] CL 0 wz1 := hSz
  refine end_of [(6, .int .i32 (subsW (kW (1073741824)) (upW (mulqW (u) (mulqW (y) (y))) (2))).v), (11, .agg #[.iface 152 (.pointer (some ⟨b, 0, none⟩))]), (12, .pointer (some ⟨gw, 0, none⟩)), (13, .iface 152 (.pointer (some ⟨b, 0, none⟩))), (14, .int .i32 (kW (1073741824)).v), (15, .agg #[.iface 152 (.pointer (some ⟨b, 0, none⟩))]), (16, .agg #[.iface 152 (.pointer (some ⟨b, 0, none⟩))]), (17, .int .i32 (u).v), (18, .agg #[.iface 152 (.pointer (some ⟨b, 0, none⟩))]), (19, .int .i32 (y).v), (20, .int .i32 (y).v), (21, .int .i32 (mulqW (y) (y)).v), (22, .int .i32 (mulqW (u) (mulqW (y) (y))).v), (23, .int .i32 (upW (mulqW (u) (mulqW (y) (y))) (2)).v), (24, .int .i32 (subsW (kW (1073741824)) (upW (mulqW (u) (mulqW (y) (y))) (2))).v)] (by kernel_rfl) ?_
  clear hBz hnez hOz HS0
  simp only [Reg.of, List.foldl_cons, List.foldl_nil, List.setIfInBounds_toArray, List.set_cons_zero, List.set_cons_succ]
  have HC1 := hide (HT0.out.region hSz (by simp))
  have pl1 := hSz.pl
  have fr1_0 := hSz.apart hap (gz) (by simp)
  have fr1_1 := hSz.apart hap (gw) (by simp)
  have fr1_2 := hSz.apart hap (gu) (by simp)
  have y1_0 : wz1.cell? ⟨gw, 0, none⟩ = some (.iface 152 (.pointer (some ⟨b, 0, none⟩))) := hSz.at_ 0 _ _ (by rw [hCL]; rfl)
  have y1_1 : wz1.cell? ⟨gz, 0, none⟩ = some (.int .i64 j) := hSz.at_ 1 _ _ (by rw [hCL]; rfl)
  have y1_2 : wz1.cell? ⟨gu, 0, none⟩ = some (.int .i32 (u).v) := hSz.at_ 2 _ _ (by rw [hCL]; rfl)
  clear hSz hCL hap CL cw cz cu HT0  fw fz fu hpl
  go_wp2_with fail
  obtain ⟨CL, hCL⟩ : ∃ l : List (Addr × Value), l = [(⟨gw, 0, none⟩, .iface 152 (.pointer (some ⟨b, 0, none⟩))), (⟨gz, 0, none⟩, .int .i64 j), (⟨gu, 0, none⟩, .int .i32 (u).v)] := ⟨_, rfl⟩
  have HS0 : Sp wz1 b (fun k c t => t = ts1 ∧ c = (match k with | 0 => cs1 | _ => cs1.set j (rootStep u y))) [] CL 0 wz1.drew := Sp.start pl1 (by rw [hCL]; simp only [List.forall_mem_cons]; exact ⟨y1_0, y1_1, y1_2, by simp⟩)
  have hap : Apart wz1 b [] [gu, gw, gz] CL := ⟨by rw [hCL]; simp only [List.forall_mem_cons]; exact ⟨by simp, by simp, by simp, by simp⟩, by simp only [List.forall_mem_cons]; exact ⟨World.block_lt_of_cell? _ _ y1_2, World.block_lt_of_cell? _ _ y1_0, World.block_lt_of_cell? _ _ y1_1, by simp⟩, by simp only [List.forall_mem_cons]; exact ⟨fr1_2, fr1_1, fr1_0, by simp⟩, by simp⟩
  refine Reg.wp_region (Reg.of 15 _ _ [.pointer (some ⟨gw, 0, none⟩), .iface 152 (.pointer (some ⟨b, 0, none⟩)), .int .i64 j, .agg #[.iface 152 (.pointer (some ⟨b, 0, none⟩))], .int .i32 (y).v, .agg #[.iface 152 (.pointer (some ⟨b, 0, none⟩))], .agg #[.iface 152 (.pointer (some ⟨b, 0, none⟩))], .int .i32 (y).v, .int .i32 (subsW (kW (1073741824)) (upW (mulqW (u) (mulqW (y) (y))) (2))).v, .int .i32 (mulqW (y) (subsW (kW (1073741824)) (upW (mulqW (u) (mulqW (y) (y))) (2)))).v, .int .i32 (downW (mulqW (y) (subsW (kW (1073741824)) (upW (mulqW (u) (mulqW (y) (y))) (2)))) (1)).v, .int .i32 (addsW (y) (downW (mulqW (y) (subsW (kW (1073741824)) (upW (mulqW (u) (mulqW (y) (y))) (2)))) (1))).v, .iface 152 (.pointer (some ⟨b, 0, none⟩)), .iface 152 (.pointer (some ⟨b, 0, none⟩)), .tuple #[]] [fun _ => undef, fun _ => undef, fun _ => undef, fun _ => undef, fun _ => undef, fun _ => undef, fun _ => undef, fun _ => undef, fun _ => undef, fun _ => undef, fun _ => undef, fun _ => undef, fun _ => undef, fun _ => undef, fun _ => undef] [.val, .val, .val, .val, .val, .val, .val, .val, .val, .val, .val, .val, .val, .val, .val] [] [] [14] (Sp wz1 b (fun k c t => t = ts1 ∧ c = (match k with | 0 => cs1 | _ => cs1.set j (rootStep u y))) [] CL) (Fp wz1 b [] [gu, gw, gz])) (Reg.good_of _ 40 (by kernel_rfl) (by kernel_rfl)) (stands_p _ hap rfl rfl rfl) (by kernel_rfl) HS0 (hold_of (by kernel_rfl) ?holdwz2) (ne_of (by kernel_rfl) ?hnewz2) (Reg.steps_of _ rfl ⟨?_, ?_, ?_, ?_, ?_, ?_, ?_, ?_, ?_, ?_, ?_, ?_, ?_, ?_, ?_, trivial⟩) ?hendwz2
  case holdwz2 =>
   intro k T c hk; simp at hk
  case hnewz2 => intro i j hi hj hne; exact absurd hi (by simp)
  case hendwz2 =>
   intro wz2 γ hSz hBz hnez hOz
   replace hSz : Sp wz1 b (fun k c t => t = ts1 ∧ c = (match k with | 0 => cs1 | _ => cs1.set j (rootStep u y))) [] CL 1 wz2 := hSz
   refine end_of [(25, .pointer (some ⟨gw, 0, none⟩)), (26, .iface 152 (.pointer (some ⟨b, 0, none⟩))), (27, .int .i64 j), (28, .agg #[.iface 152 (.pointer (some ⟨b, 0, none⟩))]), (29, .int .i32 (y).v), (30, .agg #[.iface 152 (.pointer (some ⟨b, 0, none⟩))]), (31, .agg #[.iface 152 (.pointer (some ⟨b, 0, none⟩))]), (32, .int .i32 (y).v), (33, .int .i32 (subsW (kW (1073741824)) (upW (mulqW (u) (mulqW (y) (y))) (2))).v), (34, .int .i32 (mulqW (y) (subsW (kW (1073741824)) (upW (mulqW (u) (mulqW (y) (y))) (2)))).v), (35, .int .i32 (downW (mulqW (y) (subsW (kW (1073741824)) (upW (mulqW (u) (mulqW (y) (y))) (2)))) (1)).v), (36, .int .i32 (addsW (y) (downW (mulqW (y) (subsW (kW (1073741824)) (upW (mulqW (u) (mulqW (y) (y))) (2)))) (1))).v), (37, .iface 152 (.pointer (some ⟨b, 0, none⟩))), (38, .iface 152 (.pointer (some ⟨b, 0, none⟩))), (39, .tuple #[])] (by kernel_rfl) ?_
   clear hBz hnez hOz HS0
   simp only [Reg.of, List.foldl_cons, List.foldl_nil, List.setIfInBounds_toArray, List.set_cons_zero, List.set_cons_succ]
   have HC2 := hide (HC1.out.region hSz (by simp))
   have pl2 := hSz.pl
   have fr2_0 := hSz.apart hap (gz) (by simp)
   have fr2_1 := hSz.apart hap (gw) (by simp)
   have fr2_2 := hSz.apart hap (gu) (by simp)
   have y2_0 : wz2.cell? ⟨gw, 0, none⟩ = some (.iface 152 (.pointer (some ⟨b, 0, none⟩))) := hSz.at_ 0 _ _ (by rw [hCL]; rfl)
   have y2_1 : wz2.cell? ⟨gz, 0, none⟩ = some (.int .i64 j) := hSz.at_ 1 _ _ (by rw [hCL]; rfl)
   have y2_2 : wz2.cell? ⟨gu, 0, none⟩ = some (.int .i32 (u).v) := hSz.at_ 2 _ _ (by rw [hCL]; rfl)
   clear hSz hCL hap CL y1_0 y1_1 y1_2 HC1  fr1_0 fr1_1 fr1_2 pl1
   go_wp2
   go_end0
   exact ⟨rfl, pl2, HC2.out⟩
  · intro a wu γ nph K hp hK
    obtain ⟨e1a, e1b⟩ := hp.old_ 1 (.pointer (some ⟨gw, 0, none⟩))
    have hk := hK.pure (.pointer (some ⟨gw, 0, none⟩)) hp.S
    clear hp hK
    go_simp
    exact hk
  · intro a wu γ nph K hp hK
    obtain ⟨e25a, e25b⟩ := hp.dep_ 25 0 (.pointer (some ⟨gw, 0, none⟩))
    have hS : Sp wz1 b (fun k c t => t = ts1 ∧ c = (match k with | 0 => cs1 | _ => cs1.set j (rootStep u y))) [] CL nph wu := hp.S
    have c0 := hS.at_ 0 ⟨gw, 0, none⟩ (.iface 152 (.pointer (some ⟨b, 0, none⟩))) (by rw [hCL]; rfl)
    have hk := hK.pure (.iface 152 (.pointer (some ⟨b, 0, none⟩))) hp.S
    clear hp hK hS
    go_simp
    exact hk
  · intro a wu γ nph K hp hK
    obtain ⟨e2a, e2b⟩ := hp.old_ 2 (.pointer (some ⟨gz, 0, none⟩))
    have hS : Sp wz1 b (fun k c t => t = ts1 ∧ c = (match k with | 0 => cs1 | _ => cs1.set j (rootStep u y))) [] CL nph wu := hp.S
    have c1 := hS.at_ 1 ⟨gz, 0, none⟩ (.int .i64 j) (by rw [hCL]; rfl)
    have hk := hK.pure (.int .i64 j) hp.S
    clear hp hK hS
    go_simp
    exact hk
  · intro a wu γ nph K hp hK
    obtain ⟨e1a, e1b⟩ := hp.old_ 1 (.pointer (some ⟨gw, 0, none⟩))
    have hS : Sp wz1 b (fun k c t => t = ts1 ∧ c = (match k with | 0 => cs1 | _ => cs1.set j (rootStep u y))) [] CL nph wu := hp.S
    have c0 := hS.at_ 0 ⟨gw, 0, none⟩ (.iface 152 (.pointer (some ⟨b, 0, none⟩))) (by rw [hCL]; rfl)
    have hk := hK.pure (.agg #[.iface 152 (.pointer (some ⟨b, 0, none⟩))]) hp.S
    clear hp hK hS
    go_simp
    exact hk
  · intro a wu γ nph K hp hK
    obtain ⟨e5a, e5b⟩ := hp.old_ 5 (.int .i32 (y).v)
    have hk := hK.pure (.int .i32 (y).v) hp.S
    clear hp hK
    go_simp
    exact hk
  · intro a wu γ nph K hp hK
    obtain ⟨e1a, e1b⟩ := hp.old_ 1 (.pointer (some ⟨gw, 0, none⟩))
    have hS : Sp wz1 b (fun k c t => t = ts1 ∧ c = (match k with | 0 => cs1 | _ => cs1.set j (rootStep u y))) [] CL nph wu := hp.S
    have c0 := hS.at_ 0 ⟨gw, 0, none⟩ (.iface 152 (.pointer (some ⟨b, 0, none⟩))) (by rw [hCL]; rfl)
    have hk := hK.pure (.agg #[.iface 152 (.pointer (some ⟨b, 0, none⟩))]) hp.S
    clear hp hK hS
    go_simp
    exact hk
  · intro a wu γ nph K hp hK
    obtain ⟨e1a, e1b⟩ := hp.old_ 1 (.pointer (some ⟨gw, 0, none⟩))
    have hS : Sp wz1 b (fun k c t => t = ts1 ∧ c = (match k with | 0 => cs1 | _ => cs1.set j (rootStep u y))) [] CL nph wu := hp.S
    have c0 := hS.at_ 0 ⟨gw, 0, none⟩ (.iface 152 (.pointer (some ⟨b, 0, none⟩))) (by rw [hCL]; rfl)
    have hk := hK.pure (.agg #[.iface 152 (.pointer (some ⟨b, 0, none⟩))]) hp.S
    clear hp hK hS
    go_simp
    exact hk
  · intro a wu γ nph K hp hK
    obtain ⟨e5a, e5b⟩ := hp.old_ 5 (.int .i32 (y).v)
    have hk := hK.pure (.int .i32 (y).v) hp.S
    clear hp hK
    go_simp
    exact hk
  · intro a wu γ nph K hp hK
    obtain ⟨e6a, e6b⟩ := hp.old_ 6 (.int .i32 (subsW (kW (1073741824)) (upW (mulqW (u) (mulqW (y) (y))) (2))).v)
    have hk := hK.pure (.int .i32 (subsW (kW (1073741824)) (upW (mulqW (u) (mulqW (y) (y))) (2))).v) hp.S
    clear hp hK
    go_simp
    exact hk
  · intro a wu γ nph K hp hK
    obtain ⟨e31a, e31b⟩ := hp.dep_ 31 6 (.agg #[.iface 152 (.pointer (some ⟨b, 0, none⟩))])
    obtain ⟨e32a, e32b⟩ := hp.dep_ 32 7 (.int .i32 (y).v)
    obtain ⟨e33a, e33b⟩ := hp.dep_ 33 8 (.int .i32 (subsW (kW (1073741824)) (upW (mulqW (u) (mulqW (y) (y))) (2))).v)
    have hS : Sp wz1 b (fun k c t => t = ts1 ∧ c = (match k with | 0 => cs1 | _ => cs1.set j (rootStep u y))) [] CL nph wu := hp.S
    have hk := hK.call (.int .i32 (mulqW (y) (subsW (kW (1073741824)) (upW (mulqW (u) (mulqW (y) (y))) (2)))).v)
    clear hp hK
    go_simp
    refine (w_mulq _ _ _ _).mono ?_
    rintro e w7 ⟨rfl, hcX⟩
    exact hk _ (hS.call hcX) (Reg.keep_callp _ rfl hS hcX)
  · intro a wu γ nph K hp hK
    obtain ⟨e30a, e30b⟩ := hp.dep_ 30 5 (.agg #[.iface 152 (.pointer (some ⟨b, 0, none⟩))])
    obtain ⟨e34a, e34b⟩ := hp.dep_ 34 9 (.int .i32 (mulqW (y) (subsW (kW (1073741824)) (upW (mulqW (u) (mulqW (y) (y))) (2)))).v)
    have hS : Sp wz1 b (fun k c t => t = ts1 ∧ c = (match k with | 0 => cs1 | _ => cs1.set j (rootStep u y))) [] CL nph wu := hp.S
    have hk := hK.call (.int .i32 (downW (mulqW (y) (subsW (kW (1073741824)) (upW (mulqW (u) (mulqW (y) (y))) (2)))) (1)).v)
    clear hp hK
    go_simp
    refine (w_down _ _ _ _ (by decide)).mono ?_
    rintro e w7 ⟨rfl, hcX⟩
    exact hk _ (hS.call hcX) (Reg.keep_callp _ rfl hS hcX)
  · intro a wu γ nph K hp hK
    obtain ⟨e28a, e28b⟩ := hp.dep_ 28 3 (.agg #[.iface 152 (.pointer (some ⟨b, 0, none⟩))])
    obtain ⟨e29a, e29b⟩ := hp.dep_ 29 4 (.int .i32 (y).v)
    obtain ⟨e35a, e35b⟩ := hp.dep_ 35 10 (.int .i32 (downW (mulqW (y) (subsW (kW (1073741824)) (upW (mulqW (u) (mulqW (y) (y))) (2)))) (1)).v)
    have hS : Sp wz1 b (fun k c t => t = ts1 ∧ c = (match k with | 0 => cs1 | _ => cs1.set j (rootStep u y))) [] CL nph wu := hp.S
    have hk := hK.call (.int .i32 (addsW (y) (downW (mulqW (y) (subsW (kW (1073741824)) (upW (mulqW (u) (mulqW (y) (y))) (2)))) (1))).v)
    clear hp hK
    go_simp
    refine (w_adds _ _ _ _).mono ?_
    rintro e w7 ⟨rfl, hcX⟩
    exact hk _ (hS.call hcX) (Reg.keep_callp _ rfl hS hcX)
  · intro a wu γ nph K hp hK
    obtain ⟨e26a, e26b⟩ := hp.dep_ 26 1 (.iface 152 (.pointer (some ⟨b, 0, none⟩)))
    have hk := hK.pure (.iface 152 (.pointer (some ⟨b, 0, none⟩))) hp.S
    clear hp hK
    go_simp
    exact hk
  · intro a wu γ nph K hp hK
    obtain ⟨e26a, e26b⟩ := hp.dep_ 26 1 (.iface 152 (.pointer (some ⟨b, 0, none⟩)))
    have hk := hK.pure (.iface 152 (.pointer (some ⟨b, 0, none⟩))) hp.S
    clear hp hK
    go_simp
    exact hk
  · intro a wu γ nph K hp hK
    obtain ⟨e38a, e38b⟩ := hp.dep_ 38 13 (.iface 152 (.pointer (some ⟨b, 0, none⟩)))
    obtain ⟨e27a, e27b⟩ := hp.dep_ 27 2 (.int .i64 j)
    obtain ⟨e36a, e36b⟩ := hp.dep_ 36 11 (.int .i32 (addsW (y) (downW (mulqW (y) (subsW (kW (1073741824)) (upW (mulqW (u) (mulqW (y) (y))) (2)))) (1))).v)
    have hS : Sp wz1 b (fun k c t => t = ts1 ∧ c = (match k with | 0 => cs1 | _ => cs1.set j (rootStep u y))) [] CL nph wu := hp.S
    have hn : nph = 0 := hp.eff 0 (by kernel_rfl)
    have hk := hK.eff (.tuple #[])
    clear hp hK
    subst hn
    obtain ⟨cs1, ts1, vc1, vt1, ⟨rfl, rfl⟩, hP1⟩ := hS.pl
    go_simp
    refine (set_calls b j _ _ _ _ _ _ hP1 hj hlen).mono ?_
    rintro e w7 ⟨rfl, hP2, hc2⟩
    exact hk _ (hS.eff hap ⟨_, _, _, _, ⟨rfl, rfl⟩, hP2⟩ (turn_of hP1 hP2 hc2 (.inl rfl) (.inl rfl))) (Reg.keep_eff _ rfl (turn_of hP1 hP2 hc2 (.inl rfl) (.inl rfl)))
 · intro a wu γ nph K hp hK
   obtain ⟨e1a, e1b⟩ := hp.old_ 1 (.pointer (some ⟨gw, 0, none⟩))
   have hS : Sp w1 b (fun _ => (fun c t => t = ts1 ∧ c = cs1)) [] CL nph wu := hp.S
   have c0 := hS.at_ 0 ⟨gw, 0, none⟩ (.iface 152 (.pointer (some ⟨b, 0, none⟩))) (by rw [hCL]; rfl)
   have hk := hK.pure (.agg #[.iface 152 (.pointer (some ⟨b, 0, none⟩))]) hp.S
   clear hp hK hS
   go_simp
   exact hk
 · intro a wu γ nph K hp hK
   obtain ⟨e1a, e1b⟩ := hp.old_ 1 (.pointer (some ⟨gw, 0, none⟩))
   have hk := hK.pure (.pointer (some ⟨gw, 0, none⟩)) hp.S
   clear hp hK
   go_simp
   exact hk
 · intro a wu γ nph K hp hK
   obtain ⟨e12a, e12b⟩ := hp.dep_ 12 1 (.pointer (some ⟨gw, 0, none⟩))
   have hS : Sp w1 b (fun _ => (fun c t => t = ts1 ∧ c = cs1)) [] CL nph wu := hp.S
   have c0 := hS.at_ 0 ⟨gw, 0, none⟩ (.iface 152 (.pointer (some ⟨b, 0, none⟩))) (by rw [hCL]; rfl)
   have hk := hK.pure (.iface 152 (.pointer (some ⟨b, 0, none⟩))) hp.S
   clear hp hK hS
   go_simp
   exact hk
 · intro a wu γ nph K hp hK
   obtain ⟨e13a, e13b⟩ := hp.dep_ 13 2 (.iface 152 (.pointer (some ⟨b, 0, none⟩)))
   have hS : Sp w1 b (fun _ => (fun c t => t = ts1 ∧ c = cs1)) [] CL nph wu := hp.S
   have hk := hK.call (.int .i32 (kW (1073741824)).v)
   clear hp hK
   go_simp
   refine (w_const _ _ _ (by first | assumption | decide)).mono ?_
   rintro e w7 ⟨rfl, hcX⟩
   exact hk _ (hS.call hcX) (Reg.keep_callp _ rfl hS hcX)
 · intro a wu γ nph K hp hK
   obtain ⟨e1a, e1b⟩ := hp.old_ 1 (.pointer (some ⟨gw, 0, none⟩))
   have hS : Sp w1 b (fun _ => (fun c t => t = ts1 ∧ c = cs1)) [] CL nph wu := hp.S
   have c0 := hS.at_ 0 ⟨gw, 0, none⟩ (.iface 152 (.pointer (some ⟨b, 0, none⟩))) (by rw [hCL]; rfl)
   have hk := hK.pure (.agg #[.iface 152 (.pointer (some ⟨b, 0, none⟩))]) hp.S
   clear hp hK hS
   go_simp
   exact hk
 · intro a wu γ nph K hp hK
   obtain ⟨e1a, e1b⟩ := hp.old_ 1 (.pointer (some ⟨gw, 0, none⟩))
   have hS : Sp w1 b (fun _ => (fun c t => t = ts1 ∧ c = cs1)) [] CL nph wu := hp.S
   have c0 := hS.at_ 0 ⟨gw, 0, none⟩ (.iface 152 (.pointer (some ⟨b, 0, none⟩))) (by rw [hCL]; rfl)
   have hk := hK.pure (.agg #[.iface 152 (.pointer (some ⟨b, 0, none⟩))]) hp.S
   clear hp hK hS
   go_simp
   exact hk
 · intro a wu γ nph K hp hK
   obtain ⟨e3a, e3b⟩ := hp.old_ 3 (.pointer (some ⟨gu, 0, none⟩))
   have hS : Sp w1 b (fun _ => (fun c t => t = ts1 ∧ c = cs1)) [] CL nph wu := hp.S
   have c2 := hS.at_ 2 ⟨gu, 0, none⟩ (.int .i32 (u).v) (by rw [hCL]; rfl)
   have hk := hK.pure (.int .i32 (u).v) hp.S
   clear hp hK hS
   go_simp
   exact hk
 · intro a wu γ nph K hp hK
   obtain ⟨e1a, e1b⟩ := hp.old_ 1 (.pointer (some ⟨gw, 0, none⟩))
   have hS : Sp w1 b (fun _ => (fun c t => t = ts1 ∧ c = cs1)) [] CL nph wu := hp.S
   have c0 := hS.at_ 0 ⟨gw, 0, none⟩ (.iface 152 (.pointer (some ⟨b, 0, none⟩))) (by rw [hCL]; rfl)
   have hk := hK.pure (.agg #[.iface 152 (.pointer (some ⟨b, 0, none⟩))]) hp.S
   clear hp hK hS
   go_simp
   exact hk
 · intro a wu γ nph K hp hK
   obtain ⟨e5a, e5b⟩ := hp.old_ 5 (.int .i32 (y).v)
   have hk := hK.pure (.int .i32 (y).v) hp.S
   clear hp hK
   go_simp
   exact hk
 · intro a wu γ nph K hp hK
   obtain ⟨e5a, e5b⟩ := hp.old_ 5 (.int .i32 (y).v)
   have hk := hK.pure (.int .i32 (y).v) hp.S
   clear hp hK
   go_simp
   exact hk
 · intro a wu γ nph K hp hK
   obtain ⟨e18a, e18b⟩ := hp.dep_ 18 7 (.agg #[.iface 152 (.pointer (some ⟨b, 0, none⟩))])
   obtain ⟨e19a, e19b⟩ := hp.dep_ 19 8 (.int .i32 (y).v)
   obtain ⟨e20a, e20b⟩ := hp.dep_ 20 9 (.int .i32 (y).v)
   have hS : Sp w1 b (fun _ => (fun c t => t = ts1 ∧ c = cs1)) [] CL nph wu := hp.S
   have hk := hK.call (.int .i32 (mulqW (y) (y)).v)
   clear hp hK
   go_simp
   refine (w_mulq _ _ _ _).mono ?_
   rintro e w7 ⟨rfl, hcX⟩
   exact hk _ (hS.call hcX) (Reg.keep_callp _ rfl hS hcX)
 · intro a wu γ nph K hp hK
   obtain ⟨e16a, e16b⟩ := hp.dep_ 16 5 (.agg #[.iface 152 (.pointer (some ⟨b, 0, none⟩))])
   obtain ⟨e17a, e17b⟩ := hp.dep_ 17 6 (.int .i32 (u).v)
   obtain ⟨e21a, e21b⟩ := hp.dep_ 21 10 (.int .i32 (mulqW (y) (y)).v)
   have hS : Sp w1 b (fun _ => (fun c t => t = ts1 ∧ c = cs1)) [] CL nph wu := hp.S
   have hk := hK.call (.int .i32 (mulqW (u) (mulqW (y) (y))).v)
   clear hp hK
   go_simp
   refine (w_mulq _ _ _ _).mono ?_
   rintro e w7 ⟨rfl, hcX⟩
   exact hk _ (hS.call hcX) (Reg.keep_callp _ rfl hS hcX)
 · intro a wu γ nph K hp hK
   obtain ⟨e15a, e15b⟩ := hp.dep_ 15 4 (.agg #[.iface 152 (.pointer (some ⟨b, 0, none⟩))])
   obtain ⟨e22a, e22b⟩ := hp.dep_ 22 11 (.int .i32 (mulqW (u) (mulqW (y) (y))).v)
   have hS : Sp w1 b (fun _ => (fun c t => t = ts1 ∧ c = cs1)) [] CL nph wu := hp.S
   have hk := hK.call (.int .i32 (upW (mulqW (u) (mulqW (y) (y))) (2)).v)
   clear hp hK
   go_simp
   refine (w_up _ _ _ _ (by decide)).mono ?_
   rintro e w7 ⟨rfl, hcX⟩
   exact hk _ (hS.call hcX) (Reg.keep_callp _ rfl hS hcX)
 · intro a wu γ nph K hp hK
   obtain ⟨e11a, e11b⟩ := hp.dep_ 11 0 (.agg #[.iface 152 (.pointer (some ⟨b, 0, none⟩))])
   obtain ⟨e14a, e14b⟩ := hp.dep_ 14 3 (.int .i32 (kW (1073741824)).v)
   obtain ⟨e23a, e23b⟩ := hp.dep_ 23 12 (.int .i32 (upW (mulqW (u) (mulqW (y) (y))) (2)).v)
   have hS : Sp w1 b (fun _ => (fun c t => t = ts1 ∧ c = cs1)) [] CL nph wu := hp.S
   have hk := hK.call (.int .i32 (subsW (kW (1073741824)) (upW (mulqW (u) (mulqW (y) (y))) (2))).v)
   clear hp hK
   go_simp
   refine (w_subs _ _ _ _).mono ?_
   rintro e w7 ⟨rfl, hcX⟩
   exact hk _ (hS.call hcX) (Reg.keep_callp _ rfl hS hcX)
 · intro a wu γ nph K hp hK
   obtain ⟨e24a, e24b⟩ := hp.dep_ 24 13 (.int .i32 (subsW (kW (1073741824)) (upW (mulqW (u) (mulqW (y) (y))) (2))).v)
   have hk := hK.pure (.int .i32 (subsW (kW (1073741824)) (upW (mulqW (u) (mulqW (y) (y))) (2))).v) hp.S
   clear hp hK
   go_simp
   exact hk
set_option maxRecDepth 100000 in
set_option maxHeartbeats 4000000 in
theorem root_in (b : Nat) (x : Wd) (cs : List Wd) (ts : List Value) (w : World) (hlen : cs.length ≤ 900) (hpl : PlR w b (fun c t => t = ts ∧ c = cs)) :
 Calls Tryz.prog 146 #[.agg #[.iface 152 (.pointer (some ⟨b, 0, none⟩))], .int .i32 x.v] w fun e w' => e = .returned (.tuple #[.int .i32 (rootW x).1.v, .int .i32 (rootW x).2.v]) ∧ PlR w' b (fun c t => t = ts ∧ c = cs ++ [rootZ (rootU x) 4]) ∧ Turn w b w' := by
 have k0 := Blk.new w 106 [.iface 152 (.pointer (some ⟨b, 0, none⟩))]
 have m0 := k0
 have g0_0 := m0.cell' (i := 0) rfl
 have HC := hide ((Chg.refl w []).alloc (.cells #[.iface 152 (.pointer (some ⟨b, 0, none⟩))] 106))
 clear k0
 have h1 := nil_const ⟨b, 0, none⟩
 have h2 := meth_const ⟨b, 0, none⟩
 have h3 := nil_get ⟨b, 0, none⟩
 have h4 := meth_get ⟨b, 0, none⟩
 have h5 := nil_set ⟨b, 0, none⟩
 have h6 := meth_set ⟨b, 0, none⟩
 have h7 := nil_cell ⟨b, 0, none⟩
 have h8 := meth_cell ⟨b, 0, none⟩
 have h9 := nil_loop ⟨b, 0, none⟩
 have h10 := meth_loop ⟨b, 0, none⟩
 have hlen0 : cs.length + 1 ≤ 1000 := by omega
 replace hlen : cs.length ≤ 1000 := by omega
 have HT0 : Hid (Turn w b (w.alloc (.cells #[.iface 152 (.pointer (some ⟨b, 0, none⟩))] 106))) := hide (Turn.call hpl HC.out)
 have hfar := far_of hpl HC.out
 have fb0 := hfar w.heap.size (Nat.le_refl _)
 have hp6 := hpl.chg HC.out (by simp)
 clear hfar HC m0
 go_enter Tryz.func146, Tryz.ntmps146
 go_wp2_with fail
 generalize (w.alloc (.cells #[.iface 152 (.pointer (some ⟨b, 0, none⟩))] 106)) = w6 at *
 obtain ⟨CL, hCL⟩ : ∃ l : List (Addr × Value), l = [(⟨w.heap.size, 0, none⟩, .iface 152 (.pointer (some ⟨b, 0, none⟩)))] := ⟨_, rfl⟩
 have HS0 : Sp w6 b (fun _ => (fun c t => t = ts ∧ c = cs)) [] CL 0 w6.drew := Sp.start hp6 (by rw [hCL]; simp only [List.forall_mem_cons]; exact ⟨g0_0, by simp⟩)
 have hap : Apart w6 b [] [w.heap.size] CL := ⟨by rw [hCL]; simp only [List.forall_mem_cons]; exact ⟨by simp, by simp⟩, by simp only [List.forall_mem_cons]; exact ⟨World.block_lt_of_cell? _ _ g0_0, by simp⟩, by simp only [List.forall_mem_cons]; exact ⟨fb0, by simp⟩, by simp⟩
 refine Reg.wp_region (Reg.of 9 _ _ [.agg #[.iface 152 (.pointer (some ⟨b, 0, none⟩))], .agg #[.iface 152 (.pointer (some ⟨b, 0, none⟩))], .int .i32 (x).v, .int .i32 (clzW (x)).v, .pointer (some ⟨w.heap.size, 0, none⟩), .iface 152 (.pointer (some ⟨b, 0, none⟩)), .int .i32 (kW (30)).v, .int .i32 (andW (clzW (x)) (kW (30))).v, .int .i32 (andW (clzW (x)) (kW (30))).v] [fun _ => undef, fun _ => undef, fun _ => undef, fun _ => undef, fun _ => undef, fun _ => undef, fun _ => undef, fun _ => undef, fun _ => undef] [.val, .val, .val, .val, .val, .val, .val, .val, .val] [] [] [] (Sp w6 b (fun _ => (fun c t => t = ts ∧ c = cs)) [] CL) (Fp w6 b [] [w.heap.size])) (Reg.good_of _ 56 (by kernel_rfl) (by kernel_rfl)) (stands_p _ hap rfl rfl rfl) (by kernel_rfl) HS0 (hold_of (by kernel_rfl) ?holdwz1) (ne_of (by kernel_rfl) ?hnewz1) (Reg.steps_of _ rfl ⟨?_, ?_, ?_, ?_, ?_, ?_, ?_, ?_, ?_, trivial⟩) ?hendwz1
 case holdwz1 =>
  intro k T c hk; simp at hk
 case hnewz1 => intro i j hi hj hne; exact absurd hi (by simp)
 case hendwz1 =>
  intro wz1 γ hSz hBz hnez hOz
  replace hSz : Sp w6 b (fun _ => (fun c t => t = ts ∧ c = cs)) [] CL 0 wz1 := hSz
  refine end_of [(6, .int .i32 (andW (clzW (x)) (kW (30))).v), (9, .agg #[.iface 152 (.pointer (some ⟨b, 0, none⟩))]), (10, .agg #[.iface 152 (.pointer (some ⟨b, 0, none⟩))]), (11, .int .i32 (x).v), (12, .int .i32 (clzW (x)).v), (13, .pointer (some ⟨w.heap.size, 0, none⟩)), (14, .iface 152 (.pointer (some ⟨b, 0, none⟩))), (15, .int .i32 (kW (30)).v), (16, .int .i32 (andW (clzW (x)) (kW (30))).v)] (by kernel_rfl) ?_
  clear hBz hnez hOz HS0
  simp only [Reg.of, List.foldl_cons, List.foldl_nil, List.setIfInBounds_toArray, List.set_cons_zero, List.set_cons_succ]
  have HC1 := hide (HT0.out.region hSz (by simp))
  have pl1 := hSz.pl
  have fr1_0 := hSz.apart hap (w.heap.size) (by simp)
  have y1_0 : wz1.cell? ⟨w.heap.size, 0, none⟩ = some (.iface 152 (.pointer (some ⟨b, 0, none⟩))) := hSz.at_ 0 _ _ (by rw [hCL]; rfl)
  clear hSz hCL hap CL g0_0 HT0  fb0 hp6
  go_wp2_with fail
  obtain ⟨CL, hCL⟩ : ∃ l : List (Addr × Value), l = [(⟨w.heap.size, 0, none⟩, .iface 152 (.pointer (some ⟨b, 0, none⟩)))] := ⟨_, rfl⟩
  have HS0 : Sp wz1 b (fun _ => (fun c t => t = ts ∧ c = cs)) [] CL 0 wz1.drew := Sp.start pl1 (by rw [hCL]; simp only [List.forall_mem_cons]; exact ⟨y1_0, by simp⟩)
  have hap : Apart wz1 b [] [w.heap.size] CL := ⟨by rw [hCL]; simp only [List.forall_mem_cons]; exact ⟨by simp, by simp⟩, by simp only [List.forall_mem_cons]; exact ⟨World.block_lt_of_cell? _ _ y1_0, by simp⟩, by simp only [List.forall_mem_cons]; exact ⟨fr1_0, by simp⟩, by simp⟩
  refine Reg.wp_region (Reg.of 11 _ _ [.agg #[.iface 152 (.pointer (some ⟨b, 0, none⟩))], .agg #[.iface 152 (.pointer (some ⟨b, 0, none⟩))], .int .i32 (x).v, .int .i32 (rootT x).v, .int .i32 (shlW (x) (rootT x)).v, .pointer (some ⟨w.heap.size, 0, none⟩), .iface 152 (.pointer (some ⟨b, 0, none⟩)), .int .i32 (kW (2)).v, .int .i32 (shrW (shlW (x) (rootT x)) (kW (2))).v, undef, undef] [fun _ => undef, fun _ => undef, fun _ => undef, fun _ => undef, fun _ => undef, fun _ => undef, fun _ => undef, fun _ => undef, fun _ => undef, fun g => .pointer (some ⟨g, 0, none⟩), fun _ => undef] [.val, .val, .val, .val, .val, .val, .val, .val, .val, .new 21 [.int .i32 0], .put 9 [.int .i32 (shrW (shlW (x) (rootT x)) (kW (2))).v]] [] [] [] (Sp wz1 b (fun _ => (fun c t => t = ts ∧ c = cs)) [] CL) (Fp wz1 b [] [w.heap.size])) (Reg.good_of _ 56 (by kernel_rfl) (by kernel_rfl)) (stands_p _ hap rfl rfl rfl) (by kernel_rfl) HS0 (hold_of (by kernel_rfl) ?holdwz2) (ne_of (by kernel_rfl) ?hnewz2) (Reg.steps_of _ rfl ⟨?_, ?_, ?_, ?_, ?_, ?_, ?_, ?_, ?_, ?_, ?_, trivial⟩) ?hendwz2
  case holdwz2 =>
   intro k T c hk; simp at hk
  case hnewz2 => intro i j hi hj hne; exact absurd hi (by simp)
  case hendwz2 =>
   intro wz2 γ hSz hBz hnez hOz
   replace hSz : Sp wz1 b (fun _ => (fun c t => t = ts ∧ c = cs)) [] CL 0 wz2 := hSz
   have nb9 : Blk wz2 (γ 9) 21 [.int .i32 (shrW (shlW (x) (rootT x)) (kW (2))).v] := (hBz 9 21 [.int .i32 0] (by kernel_rfl) [.int .i32 (shrW (shlW (x) (rootT x)) (kW (2))).v] (by kernel_rfl)).1
   have nf9 : Fp wz1 b [] [w.heap.size] wz2 (γ 9) := (hBz 9 21 [.int .i32 0] (by kernel_rfl) [.int .i32 (shrW (shlW (x) (rootT x)) (kW (2))).v] (by kernel_rfl)).2.1
   refine end_of [(7, .pointer (some ⟨γ 9, 0, none⟩)), (17, .agg #[.iface 152 (.pointer (some ⟨b, 0, none⟩))]), (18, .agg #[.iface 152 (.pointer (some ⟨b, 0, none⟩))]), (19, .int .i32 (x).v), (20, .int .i32 (rootT x).v), (21, .int .i32 (shlW (x) (rootT x)).v), (22, .pointer (some ⟨w.heap.size, 0, none⟩)), (23, .iface 152 (.pointer (some ⟨b, 0, none⟩))), (24, .int .i32 (kW (2)).v), (25, .int .i32 (shrW (shlW (x) (rootT x)) (kW (2))).v)] (by kernel_rfl) ?_
   clear hBz hnez hOz HS0
   simp only [Reg.of, List.foldl_cons, List.foldl_nil, List.setIfInBounds_toArray, List.set_cons_zero, List.set_cons_succ]
   generalize γ 9 = b9 at *
   have HC2 := hide (HC1.out.region hSz (by simp))
   have pl2 := hSz.pl
   have fr2_0 := hSz.apart hap (w.heap.size) (by simp)
   have y2_0 : wz2.cell? ⟨w.heap.size, 0, none⟩ = some (.iface 152 (.pointer (some ⟨b, 0, none⟩))) := hSz.at_ 0 _ _ (by rw [hCL]; rfl)
   clear hSz hCL hap CL y1_0 HC1  fr1_0 pl1
   generalize b9 = b2_9 at *
   have yn2_9_0 : wz2.cell? ⟨b2_9, 0, none⟩ = some (.int .i32 (shrW (shlW (x) (rootT x)) (kW (2))).v) := nb9.cell' (i := 0) rfl
   have fn2_9 := nf9.2.1
   go_wp2_with fail
   obtain ⟨CL, hCL⟩ : ∃ l : List (Addr × Value), l = [(⟨w.heap.size, 0, none⟩, .iface 152 (.pointer (some ⟨b, 0, none⟩))), (⟨b2_9, 0, none⟩, .int .i32 (rootU x).v)] := ⟨_, rfl⟩
   have HS0 : Sp wz2 b (fun k c t => t = ts ∧ c = (match k with | 0 => cs | _ => cs ++ [rootZ0 (rootU x)])) [] CL 0 wz2.drew := Sp.start pl2 (by rw [hCL]; simp only [List.forall_mem_cons]; exact ⟨y2_0, yn2_9_0, by simp⟩)
   have hap : Apart wz2 b [] [b2_9, w.heap.size] CL := ⟨by rw [hCL]; simp only [List.forall_mem_cons]; exact ⟨by simp, by simp, by simp⟩, by simp only [List.forall_mem_cons]; exact ⟨World.block_lt_of_cell? _ _ yn2_9_0, World.block_lt_of_cell? _ _ y2_0, by simp⟩, by simp only [List.forall_mem_cons]; exact ⟨fn2_9, fr2_0, by simp⟩, by simp⟩
   refine Reg.wp_region (Reg.of 18 _ _ [.pointer (some ⟨w.heap.size, 0, none⟩), .iface 152 (.pointer (some ⟨b, 0, none⟩)), .agg #[.iface 152 (.pointer (some ⟨b, 0, none⟩))], .pointer (some ⟨w.heap.size, 0, none⟩), .iface 152 (.pointer (some ⟨b, 0, none⟩)), .int .i32 (kW (1184766729)).v, .agg #[.iface 152 (.pointer (some ⟨b, 0, none⟩))], .pointer (some ⟨w.heap.size, 0, none⟩), .iface 152 (.pointer (some ⟨b, 0, none⟩)), .int .i32 (kW (715827883)).v, .int .i32 (rootU x).v, .int .i32 (mulqW (kW (715827883)) (rootU x)).v, .int .i32 (subsW (kW (1184766729)) (mulqW (kW (715827883)) (rootU x))).v, .iface 152 (.pointer (some ⟨b, 0, none⟩)), .iface 152 (.pointer (some ⟨b, 0, none⟩)), .int .i64 cs.length, undef, undef] [fun _ => undef, fun _ => undef, fun _ => undef, fun _ => undef, fun _ => undef, fun _ => undef, fun _ => undef, fun _ => undef, fun _ => undef, fun _ => undef, fun _ => undef, fun _ => undef, fun _ => undef, fun _ => undef, fun _ => undef, fun _ => undef, fun g => .pointer (some ⟨g, 0, none⟩), fun _ => undef] [.val, .val, .val, .val, .val, .val, .val, .val, .val, .val, .val, .val, .val, .val, .val, .val, .new 3 [.int .i64 0], .put 16 [.int .i64 cs.length]] [] [] [15] (Sp wz2 b (fun k c t => t = ts ∧ c = (match k with | 0 => cs | _ => cs ++ [rootZ0 (rootU x)])) [] CL) (Fp wz2 b [] [b2_9, w.heap.size])) (Reg.good_of _ 56 (by kernel_rfl) (by kernel_rfl)) (stands_p _ hap rfl rfl rfl) (by kernel_rfl) HS0 (hold_of (by kernel_rfl) ?holdwz3) (ne_of (by kernel_rfl) ?hnewz3) (Reg.steps_of _ rfl ⟨?_, ?_, ?_, ?_, ?_, ?_, ?_, ?_, ?_, ?_, ?_, ?_, ?_, ?_, ?_, ?_, ?_, ?_, trivial⟩) ?hendwz3
   case holdwz3 =>
    intro k T c hk; simp at hk
   case hnewz3 => intro i j hi hj hne; exact absurd hi (by simp)
   case hendwz3 =>
    intro wz3 γ hSz hBz hnez hOz
    replace hSz : Sp wz2 b (fun k c t => t = ts ∧ c = (match k with | 0 => cs | _ => cs ++ [rootZ0 (rootU x)])) [] CL 1 wz3 := hSz
    have nb16 : Blk wz3 (γ 16) 3 [.int .i64 cs.length] := (hBz 16 3 [.int .i64 0] (by kernel_rfl) [.int .i64 cs.length] (by kernel_rfl)).1
    have nf16 : Fp wz2 b [] [b2_9, w.heap.size] wz3 (γ 16) := (hBz 16 3 [.int .i64 0] (by kernel_rfl) [.int .i64 cs.length] (by kernel_rfl)).2.1
    refine end_of [(8, .pointer (some ⟨γ 16, 0, none⟩)), (26, .pointer (some ⟨w.heap.size, 0, none⟩)), (27, .iface 152 (.pointer (some ⟨b, 0, none⟩))), (28, .agg #[.iface 152 (.pointer (some ⟨b, 0, none⟩))]), (29, .pointer (some ⟨w.heap.size, 0, none⟩)), (30, .iface 152 (.pointer (some ⟨b, 0, none⟩))), (31, .int .i32 (kW (1184766729)).v), (32, .agg #[.iface 152 (.pointer (some ⟨b, 0, none⟩))]), (33, .pointer (some ⟨w.heap.size, 0, none⟩)), (34, .iface 152 (.pointer (some ⟨b, 0, none⟩))), (35, .int .i32 (kW (715827883)).v), (36, .int .i32 (rootU x).v), (37, .int .i32 (mulqW (kW (715827883)) (rootU x)).v), (38, .int .i32 (subsW (kW (1184766729)) (mulqW (kW (715827883)) (rootU x))).v), (39, .iface 152 (.pointer (some ⟨b, 0, none⟩))), (40, .iface 152 (.pointer (some ⟨b, 0, none⟩))), (41, .int .i64 cs.length)] (by kernel_rfl) ?_
    clear hBz hnez hOz HS0
    simp only [Reg.of, List.foldl_cons, List.foldl_nil, List.setIfInBounds_toArray, List.set_cons_zero, List.set_cons_succ]
    generalize γ 16 = b16 at *
    have HC3 := hide (HC2.out.region hSz (by simp))
    have pl3 := hSz.pl
    have fr3_0 := hSz.apart hap (w.heap.size) (by simp)
    have fr3_1 := hSz.apart hap (b2_9) (by simp)
    have y3_0 : wz3.cell? ⟨w.heap.size, 0, none⟩ = some (.iface 152 (.pointer (some ⟨b, 0, none⟩))) := hSz.at_ 0 _ _ (by rw [hCL]; rfl)
    have y3_1 : wz3.cell? ⟨b2_9, 0, none⟩ = some (.int .i32 (rootU x).v) := hSz.at_ 1 _ _ (by rw [hCL]; rfl)
    clear hSz hCL hap CL y2_0 yn2_9_0 HC2  fr2_0 fn2_9 pl2
    generalize b16 = b3_16 at *
    have yn3_16_0 : wz3.cell? ⟨b3_16, 0, none⟩ = some (.int .i64 cs.length) := nb16.cell' (i := 0) rfl
    have fn3_16 := nf16.2.1
    go_wp2_with fail
    refine (loop_calls _ _ _ 4 (by omega) (fun k wl => PlR wl b (fun c t => t = ts ∧ c = cs ++ [rootZ (rootU x) k]) ∧ Turn wz3 b wl) wz3 (fun _ _ => by kernel_rfl) ?_ ⟨pl3, Turn.refl _ _⟩).mono ?_
    · rintro i wl hi ⟨hpl2, ht2⟩
      refine (root1_calls b i cs.length w.heap.size b3_16 b2_9 (rootU x) _ ts wl (by simp) (by rw [List.length_append]; exact hlen0) hpl2 (ht2.cell y3_0 fr3_0) (ht2.cell yn3_16_0 fn3_16) (ht2.cell y3_1 fr3_1) (ht2.far (World.block_lt_of_cell? _ _ y3_0) fr3_0) (ht2.far (World.block_lt_of_cell? _ _ yn3_16_0) fn3_16) (ht2.far (World.block_lt_of_cell? _ _ y3_1) fr3_1)).mono ?_
      rintro e w7 ⟨rfl, h8, h9⟩
      refine ⟨rfl, h8.mono (fun c t ⟨h1, h2⟩ => ⟨h1, h2.trans (by simp [rootZ])⟩), ht2.trans h9⟩
    rintro e wl ⟨rfl, hpl2, ht2⟩
    have HT9 := hide (HC3.out.trans ht2)
    have z0 := ht2.cell y3_0 fr3_0
    have z1 := ht2.cell yn3_16_0 fn3_16
    have z2 := ht2.cell y3_1 fr3_1
    have f0 := ht2.far (World.block_lt_of_cell? _ _ y3_0) fr3_0
    have f1 := ht2.far (World.block_lt_of_cell? _ _ yn3_16_0) fn3_16
    have f2 := ht2.far (World.block_lt_of_cell? _ _ y3_1) fr3_1
    clear y3_0 y3_1 yn3_16_0 fr3_1 fn3_16 fr3_0 ht2 HC3 pl3
    go_wp2_with fail
    obtain ⟨CL, hCL⟩ : ∃ l : List (Addr × Value), l = [(⟨w.heap.size, 0, none⟩, .iface 152 (.pointer (some ⟨b, 0, none⟩))), (⟨b2_9, 0, none⟩, .int .i32 (rootU x).v), (⟨b3_16, 0, none⟩, .int .i64 cs.length)] := ⟨_, rfl⟩
    have HS0 : Sp wl b (fun _ => (fun c t => t = ts ∧ c = cs ++ [rootZ (rootU x) 4])) [] CL 0 wl.drew := Sp.start hpl2 (by rw [hCL]; simp only [List.forall_mem_cons]; exact ⟨z0, z2, z1, by simp⟩)
    have hap : Apart wl b [] [b2_9, b3_16, w.heap.size] CL := ⟨by rw [hCL]; simp only [List.forall_mem_cons]; exact ⟨by simp, by simp, by simp, by simp⟩, by simp only [List.forall_mem_cons]; exact ⟨World.block_lt_of_cell? _ _ z2, World.block_lt_of_cell? _ _ z1, World.block_lt_of_cell? _ _ z0, by simp⟩, by simp only [List.forall_mem_cons]; exact ⟨f2, f1, f0, by simp⟩, by simp⟩
    refine Reg.wp_region (Reg.of 12 _ _ [.pointer (some ⟨w.heap.size, 0, none⟩), .iface 152 (.pointer (some ⟨b, 0, none⟩)), .int .i64 cs.length, .int .i32 (rootZ (rootU x) 4).v, .agg #[.iface 152 (.pointer (some ⟨b, 0, none⟩))], .int .i32 (rootT x).v, .pointer (some ⟨w.heap.size, 0, none⟩), .iface 152 (.pointer (some ⟨b, 0, none⟩)), .int .i32 (kW (1)).v, .int .i32 (shrW (rootT x) (kW (1))).v, .int .i32 (rootZ (rootU x) 4).v, .int .i32 (shrW (rootT x) (kW (1))).v] [fun _ => undef, fun _ => undef, fun _ => undef, fun _ => undef, fun _ => undef, fun _ => undef, fun _ => undef, fun _ => undef, fun _ => undef, fun _ => undef, fun _ => undef, fun _ => undef] [.val, .val, .val, .val, .val, .val, .val, .val, .val, .val, .val, .val] [] [] [] (Sp wl b (fun _ => (fun c t => t = ts ∧ c = cs ++ [rootZ (rootU x) 4])) [] CL) (Fp wl b [] [b2_9, b3_16, w.heap.size])) (Reg.good_of _ 56 (by kernel_rfl) (by kernel_rfl)) (stands_p _ hap rfl rfl rfl) (by kernel_rfl) HS0 (hold_of (by kernel_rfl) ?holdwz4) (ne_of (by kernel_rfl) ?hnewz4) (Reg.steps_of _ rfl ⟨?_, ?_, ?_, ?_, ?_, ?_, ?_, ?_, ?_, ?_, ?_, ?_, trivial⟩) ?hendwz4
    case holdwz4 =>
     intro k T c hk; simp at hk
    case hnewz4 => intro i j hi hj hne; exact absurd hi (by simp)
    case hendwz4 =>
     intro wz4 γ hSz hBz hnez hOz
     replace hSz : Sp wl b (fun _ => (fun c t => t = ts ∧ c = cs ++ [rootZ (rootU x) 4])) [] CL 0 wz4 := hSz
     refine end_of [(4, .int .i32 (rootZ (rootU x) 4).v), (5, .int .i32 (shrW (rootT x) (kW (1))).v), (46, .pointer (some ⟨w.heap.size, 0, none⟩)), (47, .iface 152 (.pointer (some ⟨b, 0, none⟩))), (48, .int .i64 cs.length), (49, .int .i32 (rootZ (rootU x) 4).v), (50, .agg #[.iface 152 (.pointer (some ⟨b, 0, none⟩))]), (51, .int .i32 (rootT x).v), (52, .pointer (some ⟨w.heap.size, 0, none⟩)), (53, .iface 152 (.pointer (some ⟨b, 0, none⟩))), (54, .int .i32 (kW (1)).v), (55, .int .i32 (shrW (rootT x) (kW (1))).v)] (by kernel_rfl) ?_
     clear hBz hnez hOz HS0
     simp only [Reg.of, List.foldl_cons, List.foldl_nil, List.setIfInBounds_toArray, List.set_cons_zero, List.set_cons_succ]
     have HC4 := hide (HT9.out.region hSz (by simp))
     have pl4 := hSz.pl
     have fr4_0 := hSz.apart hap (w.heap.size) (by simp)
     have fr4_1 := hSz.apart hap (b2_9) (by simp)
     have fr4_2 := hSz.apart hap (b3_16) (by simp)
     have y4_0 : wz4.cell? ⟨w.heap.size, 0, none⟩ = some (.iface 152 (.pointer (some ⟨b, 0, none⟩))) := hSz.at_ 0 _ _ (by rw [hCL]; rfl)
     have y4_1 : wz4.cell? ⟨b2_9, 0, none⟩ = some (.int .i32 (rootU x).v) := hSz.at_ 1 _ _ (by rw [hCL]; rfl)
     have y4_2 : wz4.cell? ⟨b3_16, 0, none⟩ = some (.int .i64 cs.length) := hSz.at_ 2 _ _ (by rw [hCL]; rfl)
     clear hSz hCL hap CL z0 z2 z1 HT9  f0 f1 f2 hpl2
     go_wp2
     go_ret2
     exact ⟨rfl, pl4, HC4.out⟩
    · intro a wu γ nph K hp hK
      obtain ⟨e2a, e2b⟩ := hp.old_ 2 (.pointer (some ⟨w.heap.size, 0, none⟩))
      have hk := hK.pure (.pointer (some ⟨w.heap.size, 0, none⟩)) hp.S
      clear hp hK
      go_simp
      exact hk
    · intro a wu γ nph K hp hK
      obtain ⟨e46a, e46b⟩ := hp.dep_ 46 0 (.pointer (some ⟨w.heap.size, 0, none⟩))
      have hS : Sp wl b (fun _ => (fun c t => t = ts ∧ c = cs ++ [rootZ (rootU x) 4])) [] CL nph wu := hp.S
      have c0 := hS.at_ 0 ⟨w.heap.size, 0, none⟩ (.iface 152 (.pointer (some ⟨b, 0, none⟩))) (by rw [hCL]; rfl)
      have hk := hK.pure (.iface 152 (.pointer (some ⟨b, 0, none⟩))) hp.S
      clear hp hK hS
      go_simp
      exact hk
    · intro a wu γ nph K hp hK
      obtain ⟨e8a, e8b⟩ := hp.old_ 8 (.pointer (some ⟨b3_16, 0, none⟩))
      have hS : Sp wl b (fun _ => (fun c t => t = ts ∧ c = cs ++ [rootZ (rootU x) 4])) [] CL nph wu := hp.S
      have c2 := hS.at_ 2 ⟨b3_16, 0, none⟩ (.int .i64 cs.length) (by rw [hCL]; rfl)
      have hk := hK.pure (.int .i64 cs.length) hp.S
      clear hp hK hS
      go_simp
      exact hk
    · intro a wu γ nph K hp hK
      obtain ⟨e47a, e47b⟩ := hp.dep_ 47 1 (.iface 152 (.pointer (some ⟨b, 0, none⟩)))
      obtain ⟨e48a, e48b⟩ := hp.dep_ 48 2 (.int .i64 cs.length)
      have hS : Sp wl b (fun _ => (fun c t => t = ts ∧ c = cs ++ [rootZ (rootU x) 4])) [] CL nph wu := hp.S
      have hk := hK.call (.int .i32 (rootZ (rootU x) 4).v)
      clear hp hK
      obtain ⟨cs1, ts1, vc1, vt1, ⟨rfl, rfl⟩, hP1⟩ := hS.pl
      go_simp
      refine (get_calls b cs.length _ _ _ _ _ hP1 (by simp) (by rw [List.length_append]; exact hlen0)).mono ?_
      rintro e w7 ⟨rfl, hcX⟩
      rw [show (cs ++ [rootZ (rootU x) 4])[cs.length]'(by simp) = rootZ (rootU x) 4 by simp]
      exact hk _ (hS.call hcX) (Reg.keep_callp _ rfl hS hcX)
    · intro a wu γ nph K hp hK
      obtain ⟨e2a, e2b⟩ := hp.old_ 2 (.pointer (some ⟨w.heap.size, 0, none⟩))
      have hS : Sp wl b (fun _ => (fun c t => t = ts ∧ c = cs ++ [rootZ (rootU x) 4])) [] CL nph wu := hp.S
      have c0 := hS.at_ 0 ⟨w.heap.size, 0, none⟩ (.iface 152 (.pointer (some ⟨b, 0, none⟩))) (by rw [hCL]; rfl)
      have hk := hK.pure (.agg #[.iface 152 (.pointer (some ⟨b, 0, none⟩))]) hp.S
      clear hp hK hS
      go_simp
      exact hk
    · intro a wu γ nph K hp hK
      obtain ⟨e6a, e6b⟩ := hp.old_ 6 (.int .i32 (rootT x).v)
      have hk := hK.pure (.int .i32 (rootT x).v) hp.S
      clear hp hK
      go_simp
      exact hk
    · intro a wu γ nph K hp hK
      obtain ⟨e2a, e2b⟩ := hp.old_ 2 (.pointer (some ⟨w.heap.size, 0, none⟩))
      have hk := hK.pure (.pointer (some ⟨w.heap.size, 0, none⟩)) hp.S
      clear hp hK
      go_simp
      exact hk
    · intro a wu γ nph K hp hK
      obtain ⟨e52a, e52b⟩ := hp.dep_ 52 6 (.pointer (some ⟨w.heap.size, 0, none⟩))
      have hS : Sp wl b (fun _ => (fun c t => t = ts ∧ c = cs ++ [rootZ (rootU x) 4])) [] CL nph wu := hp.S
      have c0 := hS.at_ 0 ⟨w.heap.size, 0, none⟩ (.iface 152 (.pointer (some ⟨b, 0, none⟩))) (by rw [hCL]; rfl)
      have hk := hK.pure (.iface 152 (.pointer (some ⟨b, 0, none⟩))) hp.S
      clear hp hK hS
      go_simp
      exact hk
    · intro a wu γ nph K hp hK
      obtain ⟨e53a, e53b⟩ := hp.dep_ 53 7 (.iface 152 (.pointer (some ⟨b, 0, none⟩)))
      have hS : Sp wl b (fun _ => (fun c t => t = ts ∧ c = cs ++ [rootZ (rootU x) 4])) [] CL nph wu := hp.S
      have hk := hK.call (.int .i32 (kW (1)).v)
      clear hp hK
      go_simp
      refine (w_const _ _ _ (by first | assumption | decide)).mono ?_
      rintro e w7 ⟨rfl, hcX⟩
      exact hk _ (hS.call hcX) (Reg.keep_callp _ rfl hS hcX)
    · intro a wu γ nph K hp hK
      obtain ⟨e50a, e50b⟩ := hp.dep_ 50 4 (.agg #[.iface 152 (.pointer (some ⟨b, 0, none⟩))])
      obtain ⟨e51a, e51b⟩ := hp.dep_ 51 5 (.int .i32 (rootT x).v)
      obtain ⟨e54a, e54b⟩ := hp.dep_ 54 8 (.int .i32 (kW (1)).v)
      have hS : Sp wl b (fun _ => (fun c t => t = ts ∧ c = cs ++ [rootZ (rootU x) 4])) [] CL nph wu := hp.S
      have hk := hK.call (.int .i32 (shrW (rootT x) (kW (1))).v)
      clear hp hK
      go_simp
      refine (w_shr _ _ _ _).mono ?_
      rintro e w7 ⟨rfl, hcX⟩
      exact hk _ (hS.call hcX) (Reg.keep_callp _ rfl hS hcX)
    · intro a wu γ nph K hp hK
      obtain ⟨e49a, e49b⟩ := hp.dep_ 49 3 (.int .i32 (rootZ (rootU x) 4).v)
      have hk := hK.pure (.int .i32 (rootZ (rootU x) 4).v) hp.S
      clear hp hK
      go_simp
      exact hk
    · intro a wu γ nph K hp hK
      obtain ⟨e55a, e55b⟩ := hp.dep_ 55 9 (.int .i32 (shrW (rootT x) (kW (1))).v)
      have hk := hK.pure (.int .i32 (shrW (rootT x) (kW (1))).v) hp.S
      clear hp hK
      go_simp
      exact hk
   · intro a wu γ nph K hp hK
     obtain ⟨e2a, e2b⟩ := hp.old_ 2 (.pointer (some ⟨w.heap.size, 0, none⟩))
     have hk := hK.pure (.pointer (some ⟨w.heap.size, 0, none⟩)) hp.S
     clear hp hK
     go_simp
     exact hk
   · intro a wu γ nph K hp hK
     obtain ⟨e26a, e26b⟩ := hp.dep_ 26 0 (.pointer (some ⟨w.heap.size, 0, none⟩))
     have hS : Sp wz2 b (fun k c t => t = ts ∧ c = (match k with | 0 => cs | _ => cs ++ [rootZ0 (rootU x)])) [] CL nph wu := hp.S
     have c0 := hS.at_ 0 ⟨w.heap.size, 0, none⟩ (.iface 152 (.pointer (some ⟨b, 0, none⟩))) (by rw [hCL]; rfl)
     have hk := hK.pure (.iface 152 (.pointer (some ⟨b, 0, none⟩))) hp.S
     clear hp hK hS
     go_simp
     exact hk
   · intro a wu γ nph K hp hK
     obtain ⟨e2a, e2b⟩ := hp.old_ 2 (.pointer (some ⟨w.heap.size, 0, none⟩))
     have hS : Sp wz2 b (fun k c t => t = ts ∧ c = (match k with | 0 => cs | _ => cs ++ [rootZ0 (rootU x)])) [] CL nph wu := hp.S
     have c0 := hS.at_ 0 ⟨w.heap.size, 0, none⟩ (.iface 152 (.pointer (some ⟨b, 0, none⟩))) (by rw [hCL]; rfl)
     have hk := hK.pure (.agg #[.iface 152 (.pointer (some ⟨b, 0, none⟩))]) hp.S
     clear hp hK hS
     go_simp
     exact hk
   · intro a wu γ nph K hp hK
     obtain ⟨e2a, e2b⟩ := hp.old_ 2 (.pointer (some ⟨w.heap.size, 0, none⟩))
     have hk := hK.pure (.pointer (some ⟨w.heap.size, 0, none⟩)) hp.S
     clear hp hK
     go_simp
     exact hk
   · intro a wu γ nph K hp hK
     obtain ⟨e29a, e29b⟩ := hp.dep_ 29 3 (.pointer (some ⟨w.heap.size, 0, none⟩))
     have hS : Sp wz2 b (fun k c t => t = ts ∧ c = (match k with | 0 => cs | _ => cs ++ [rootZ0 (rootU x)])) [] CL nph wu := hp.S
     have c0 := hS.at_ 0 ⟨w.heap.size, 0, none⟩ (.iface 152 (.pointer (some ⟨b, 0, none⟩))) (by rw [hCL]; rfl)
     have hk := hK.pure (.iface 152 (.pointer (some ⟨b, 0, none⟩))) hp.S
     clear hp hK hS
     go_simp
     exact hk
   · intro a wu γ nph K hp hK
     obtain ⟨e30a, e30b⟩ := hp.dep_ 30 4 (.iface 152 (.pointer (some ⟨b, 0, none⟩)))
     have hS : Sp wz2 b (fun k c t => t = ts ∧ c = (match k with | 0 => cs | _ => cs ++ [rootZ0 (rootU x)])) [] CL nph wu := hp.S
     have hk := hK.call (.int .i32 (kW (1184766729)).v)
     clear hp hK
     go_simp
     refine (w_const _ _ _ (by first | assumption | decide)).mono ?_
     rintro e w7 ⟨rfl, hcX⟩
     exact hk _ (hS.call hcX) (Reg.keep_callp _ rfl hS hcX)
   · intro a wu γ nph K hp hK
     obtain ⟨e2a, e2b⟩ := hp.old_ 2 (.pointer (some ⟨w.heap.size, 0, none⟩))
     have hS : Sp wz2 b (fun k c t => t = ts ∧ c = (match k with | 0 => cs | _ => cs ++ [rootZ0 (rootU x)])) [] CL nph wu := hp.S
     have c0 := hS.at_ 0 ⟨w.heap.size, 0, none⟩ (.iface 152 (.pointer (some ⟨b, 0, none⟩))) (by rw [hCL]; rfl)
     have hk := hK.pure (.agg #[.iface 152 (.pointer (some ⟨b, 0, none⟩))]) hp.S
     clear hp hK hS
     go_simp
     exact hk
   · intro a wu γ nph K hp hK
     obtain ⟨e2a, e2b⟩ := hp.old_ 2 (.pointer (some ⟨w.heap.size, 0, none⟩))
     have hk := hK.pure (.pointer (some ⟨w.heap.size, 0, none⟩)) hp.S
     clear hp hK
     go_simp
     exact hk
   · intro a wu γ nph K hp hK
     obtain ⟨e33a, e33b⟩ := hp.dep_ 33 7 (.pointer (some ⟨w.heap.size, 0, none⟩))
     have hS : Sp wz2 b (fun k c t => t = ts ∧ c = (match k with | 0 => cs | _ => cs ++ [rootZ0 (rootU x)])) [] CL nph wu := hp.S
     have c0 := hS.at_ 0 ⟨w.heap.size, 0, none⟩ (.iface 152 (.pointer (some ⟨b, 0, none⟩))) (by rw [hCL]; rfl)
     have hk := hK.pure (.iface 152 (.pointer (some ⟨b, 0, none⟩))) hp.S
     clear hp hK hS
     go_simp
     exact hk
   · intro a wu γ nph K hp hK
     obtain ⟨e34a, e34b⟩ := hp.dep_ 34 8 (.iface 152 (.pointer (some ⟨b, 0, none⟩)))
     have hS : Sp wz2 b (fun k c t => t = ts ∧ c = (match k with | 0 => cs | _ => cs ++ [rootZ0 (rootU x)])) [] CL nph wu := hp.S
     have hk := hK.call (.int .i32 (kW (715827883)).v)
     clear hp hK
     go_simp
     refine (w_const _ _ _ (by first | assumption | decide)).mono ?_
     rintro e w7 ⟨rfl, hcX⟩
     exact hk _ (hS.call hcX) (Reg.keep_callp _ rfl hS hcX)
   · intro a wu γ nph K hp hK
     obtain ⟨e7a, e7b⟩ := hp.old_ 7 (.pointer (some ⟨b2_9, 0, none⟩))
     have hS : Sp wz2 b (fun k c t => t = ts ∧ c = (match k with | 0 => cs | _ => cs ++ [rootZ0 (rootU x)])) [] CL nph wu := hp.S
     have c1 := hS.at_ 1 ⟨b2_9, 0, none⟩ (.int .i32 (rootU x).v) (by rw [hCL]; rfl)
     have hk := hK.pure (.int .i32 (rootU x).v) hp.S
     clear hp hK hS
     go_simp
     exact hk
   · intro a wu γ nph K hp hK
     obtain ⟨e32a, e32b⟩ := hp.dep_ 32 6 (.agg #[.iface 152 (.pointer (some ⟨b, 0, none⟩))])
     obtain ⟨e35a, e35b⟩ := hp.dep_ 35 9 (.int .i32 (kW (715827883)).v)
     obtain ⟨e36a, e36b⟩ := hp.dep_ 36 10 (.int .i32 (rootU x).v)
     have hS : Sp wz2 b (fun k c t => t = ts ∧ c = (match k with | 0 => cs | _ => cs ++ [rootZ0 (rootU x)])) [] CL nph wu := hp.S
     have hk := hK.call (.int .i32 (mulqW (kW (715827883)) (rootU x)).v)
     clear hp hK
     go_simp
     refine (w_mulq _ _ _ _).mono ?_
     rintro e w7 ⟨rfl, hcX⟩
     exact hk _ (hS.call hcX) (Reg.keep_callp _ rfl hS hcX)
   · intro a wu γ nph K hp hK
     obtain ⟨e28a, e28b⟩ := hp.dep_ 28 2 (.agg #[.iface 152 (.pointer (some ⟨b, 0, none⟩))])
     obtain ⟨e31a, e31b⟩ := hp.dep_ 31 5 (.int .i32 (kW (1184766729)).v)
     obtain ⟨e37a, e37b⟩ := hp.dep_ 37 11 (.int .i32 (mulqW (kW (715827883)) (rootU x)).v)
     have hS : Sp wz2 b (fun k c t => t = ts ∧ c = (match k with | 0 => cs | _ => cs ++ [rootZ0 (rootU x)])) [] CL nph wu := hp.S
     have hk := hK.call (.int .i32 (subsW (kW (1184766729)) (mulqW (kW (715827883)) (rootU x))).v)
     clear hp hK
     go_simp
     refine (w_subs _ _ _ _).mono ?_
     rintro e w7 ⟨rfl, hcX⟩
     exact hk _ (hS.call hcX) (Reg.keep_callp _ rfl hS hcX)
   · intro a wu γ nph K hp hK
     obtain ⟨e27a, e27b⟩ := hp.dep_ 27 1 (.iface 152 (.pointer (some ⟨b, 0, none⟩)))
     have hk := hK.pure (.iface 152 (.pointer (some ⟨b, 0, none⟩))) hp.S
     clear hp hK
     go_simp
     exact hk
   · intro a wu γ nph K hp hK
     obtain ⟨e27a, e27b⟩ := hp.dep_ 27 1 (.iface 152 (.pointer (some ⟨b, 0, none⟩)))
     have hk := hK.pure (.iface 152 (.pointer (some ⟨b, 0, none⟩))) hp.S
     clear hp hK
     go_simp
     exact hk
   · intro a wu γ nph K hp hK
     obtain ⟨e40a, e40b⟩ := hp.dep_ 40 14 (.iface 152 (.pointer (some ⟨b, 0, none⟩)))
     obtain ⟨e38a, e38b⟩ := hp.dep_ 38 12 (.int .i32 (subsW (kW (1184766729)) (mulqW (kW (715827883)) (rootU x))).v)
     have hS : Sp wz2 b (fun k c t => t = ts ∧ c = (match k with | 0 => cs | _ => cs ++ [rootZ0 (rootU x)])) [] CL nph wu := hp.S
     have hn : nph = 0 := hp.eff 0 (by kernel_rfl)
     have hk := hK.eff (.int .i64 cs.length)
     clear hp hK
     subst hn
     obtain ⟨cs1, ts1, vc1, vt1, ⟨rfl, rfl⟩, hP1⟩ := hS.pl
     go_simp
     refine (cell_calls b _ _ _ _ _ _ hP1 hlen).mono ?_
     rintro e w7 ⟨rfl, vc2, hP2, hc2, hv2⟩
     exact hk _ (hS.eff hap ⟨_, _, _, _, ⟨rfl, rfl⟩, hP2⟩ (turn_of hP1 hP2 hc2 hv2 (.inl rfl))) (Reg.keep_eff _ rfl (turn_of hP1 hP2 hc2 hv2 (.inl rfl)))
   · intro a wu γ nph K hp hK
     have hk := hK.new 3 [.int .i64 0] (fun g => .pointer (some ⟨g, 0, none⟩))
     clear hp hK
     go_simp
     exact hk
   · intro a wu γ nph K hp hK
     obtain ⟨e8a, e8b⟩ := hp.dep_ 8 16 (.pointer (some ⟨γ 16, 0, none⟩))
     obtain ⟨e41a, e41b⟩ := hp.dep_ 41 15 (.int .i64 cs.length)
     have hb := (hp.blk_ 16 (T := 3) (c := [.int .i64 0])).1
     have hk := hK.put 16 3 [.int .i64 0] [.int .i64 cs.length]
     have z0 := hb.cell' (i := 0) rfl
     have f0 := hb.frozen 0
     clear hp hK
     go_simp
     exact hk _ (hb.set_ 0 _) ((Chg.refl wu _).setCell _ _ (.inl (by simp))) (by simp)
  · intro a wu γ nph K hp hK
    obtain ⟨e2a, e2b⟩ := hp.old_ 2 (.pointer (some ⟨w.heap.size, 0, none⟩))
    have hS : Sp wz1 b (fun _ => (fun c t => t = ts ∧ c = cs)) [] CL nph wu := hp.S
    have c0 := hS.at_ 0 ⟨w.heap.size, 0, none⟩ (.iface 152 (.pointer (some ⟨b, 0, none⟩))) (by rw [hCL]; rfl)
    have hk := hK.pure (.agg #[.iface 152 (.pointer (some ⟨b, 0, none⟩))]) hp.S
    clear hp hK hS
    go_simp
    exact hk
  · intro a wu γ nph K hp hK
    obtain ⟨e2a, e2b⟩ := hp.old_ 2 (.pointer (some ⟨w.heap.size, 0, none⟩))
    have hS : Sp wz1 b (fun _ => (fun c t => t = ts ∧ c = cs)) [] CL nph wu := hp.S
    have c0 := hS.at_ 0 ⟨w.heap.size, 0, none⟩ (.iface 152 (.pointer (some ⟨b, 0, none⟩))) (by rw [hCL]; rfl)
    have hk := hK.pure (.agg #[.iface 152 (.pointer (some ⟨b, 0, none⟩))]) hp.S
    clear hp hK hS
    go_simp
    exact hk
  · intro a wu γ nph K hp hK
    obtain ⟨e1a, e1b⟩ := hp.old_ 1 (.int .i32 (x).v)
    have hk := hK.pure (.int .i32 (x).v) hp.S
    clear hp hK
    go_simp
    exact hk
  · intro a wu γ nph K hp hK
    obtain ⟨e6a, e6b⟩ := hp.old_ 6 (.int .i32 (rootT x).v)
    have hk := hK.pure (.int .i32 (rootT x).v) hp.S
    clear hp hK
    go_simp
    exact hk
  · intro a wu γ nph K hp hK
    obtain ⟨e18a, e18b⟩ := hp.dep_ 18 1 (.agg #[.iface 152 (.pointer (some ⟨b, 0, none⟩))])
    obtain ⟨e19a, e19b⟩ := hp.dep_ 19 2 (.int .i32 (x).v)
    obtain ⟨e20a, e20b⟩ := hp.dep_ 20 3 (.int .i32 (rootT x).v)
    have hS : Sp wz1 b (fun _ => (fun c t => t = ts ∧ c = cs)) [] CL nph wu := hp.S
    have hk := hK.call (.int .i32 (shlW (x) (rootT x)).v)
    clear hp hK
    go_simp
    refine (w_shl _ _ _ _).mono ?_
    rintro e w7 ⟨rfl, hcX⟩
    exact hk _ (hS.call hcX) (Reg.keep_callp _ rfl hS hcX)
  · intro a wu γ nph K hp hK
    obtain ⟨e2a, e2b⟩ := hp.old_ 2 (.pointer (some ⟨w.heap.size, 0, none⟩))
    have hk := hK.pure (.pointer (some ⟨w.heap.size, 0, none⟩)) hp.S
    clear hp hK
    go_simp
    exact hk
  · intro a wu γ nph K hp hK
    obtain ⟨e22a, e22b⟩ := hp.dep_ 22 5 (.pointer (some ⟨w.heap.size, 0, none⟩))
    have hS : Sp wz1 b (fun _ => (fun c t => t = ts ∧ c = cs)) [] CL nph wu := hp.S
    have c0 := hS.at_ 0 ⟨w.heap.size, 0, none⟩ (.iface 152 (.pointer (some ⟨b, 0, none⟩))) (by rw [hCL]; rfl)
    have hk := hK.pure (.iface 152 (.pointer (some ⟨b, 0, none⟩))) hp.S
    clear hp hK hS
    go_simp
    exact hk
  · intro a wu γ nph K hp hK
    obtain ⟨e23a, e23b⟩ := hp.dep_ 23 6 (.iface 152 (.pointer (some ⟨b, 0, none⟩)))
    have hS : Sp wz1 b (fun _ => (fun c t => t = ts ∧ c = cs)) [] CL nph wu := hp.S
    have hk := hK.call (.int .i32 (kW (2)).v)
    clear hp hK
    go_simp
    refine (w_const _ _ _ (by first | assumption | decide)).mono ?_
    rintro e w7 ⟨rfl, hcX⟩
    exact hk _ (hS.call hcX) (Reg.keep_callp _ rfl hS hcX)
  · intro a wu γ nph K hp hK
    obtain ⟨e17a, e17b⟩ := hp.dep_ 17 0 (.agg #[.iface 152 (.pointer (some ⟨b, 0, none⟩))])
    obtain ⟨e21a, e21b⟩ := hp.dep_ 21 4 (.int .i32 (shlW (x) (rootT x)).v)
    obtain ⟨e24a, e24b⟩ := hp.dep_ 24 7 (.int .i32 (kW (2)).v)
    have hS : Sp wz1 b (fun _ => (fun c t => t = ts ∧ c = cs)) [] CL nph wu := hp.S
    have hk := hK.call (.int .i32 (shrW (shlW (x) (rootT x)) (kW (2))).v)
    clear hp hK
    go_simp
    refine (w_shr _ _ _ _).mono ?_
    rintro e w7 ⟨rfl, hcX⟩
    exact hk _ (hS.call hcX) (Reg.keep_callp _ rfl hS hcX)
  · intro a wu γ nph K hp hK
    have hk := hK.new 21 [.int .i32 0] (fun g => .pointer (some ⟨g, 0, none⟩))
    clear hp hK
    go_simp
    exact hk
  · intro a wu γ nph K hp hK
    obtain ⟨e7a, e7b⟩ := hp.dep_ 7 9 (.pointer (some ⟨γ 9, 0, none⟩))
    obtain ⟨e25a, e25b⟩ := hp.dep_ 25 8 (.int .i32 (shrW (shlW (x) (rootT x)) (kW (2))).v)
    have hb := (hp.blk_ 9 (T := 21) (c := [.int .i32 0])).1
    have hk := hK.put 9 21 [.int .i32 0] [.int .i32 (shrW (shlW (x) (rootT x)) (kW (2))).v]
    have z0 := hb.cell' (i := 0) rfl
    have f0 := hb.frozen 0
    clear hp hK
    go_simp
    exact hk _ (hb.set_ 0 _) ((Chg.refl wu _).setCell _ _ (.inl (by simp))) (by simp)
 · intro a wu γ nph K hp hK
   obtain ⟨e2a, e2b⟩ := hp.old_ 2 (.pointer (some ⟨w.heap.size, 0, none⟩))
   have hS : Sp w6 b (fun _ => (fun c t => t = ts ∧ c = cs)) [] CL nph wu := hp.S
   have c0 := hS.at_ 0 ⟨w.heap.size, 0, none⟩ (.iface 152 (.pointer (some ⟨b, 0, none⟩))) (by rw [hCL]; rfl)
   have hk := hK.pure (.agg #[.iface 152 (.pointer (some ⟨b, 0, none⟩))]) hp.S
   clear hp hK hS
   go_simp
   exact hk
 · intro a wu γ nph K hp hK
   obtain ⟨e2a, e2b⟩ := hp.old_ 2 (.pointer (some ⟨w.heap.size, 0, none⟩))
   have hS : Sp w6 b (fun _ => (fun c t => t = ts ∧ c = cs)) [] CL nph wu := hp.S
   have c0 := hS.at_ 0 ⟨w.heap.size, 0, none⟩ (.iface 152 (.pointer (some ⟨b, 0, none⟩))) (by rw [hCL]; rfl)
   have hk := hK.pure (.agg #[.iface 152 (.pointer (some ⟨b, 0, none⟩))]) hp.S
   clear hp hK hS
   go_simp
   exact hk
 · intro a wu γ nph K hp hK
   obtain ⟨e1a, e1b⟩ := hp.old_ 1 (.int .i32 (x).v)
   have hk := hK.pure (.int .i32 (x).v) hp.S
   clear hp hK
   go_simp
   exact hk
 · intro a wu γ nph K hp hK
   obtain ⟨e10a, e10b⟩ := hp.dep_ 10 1 (.agg #[.iface 152 (.pointer (some ⟨b, 0, none⟩))])
   obtain ⟨e11a, e11b⟩ := hp.dep_ 11 2 (.int .i32 (x).v)
   have hS : Sp w6 b (fun _ => (fun c t => t = ts ∧ c = cs)) [] CL nph wu := hp.S
   have hk := hK.call (.int .i32 (clzW (x)).v)
   clear hp hK
   go_simp
   refine (w_clz _ _ _).mono ?_
   rintro e w7 ⟨rfl, hcX⟩
   exact hk _ (hS.call hcX) (Reg.keep_callp _ rfl hS hcX)
 · intro a wu γ nph K hp hK
   obtain ⟨e2a, e2b⟩ := hp.old_ 2 (.pointer (some ⟨w.heap.size, 0, none⟩))
   have hk := hK.pure (.pointer (some ⟨w.heap.size, 0, none⟩)) hp.S
   clear hp hK
   go_simp
   exact hk
 · intro a wu γ nph K hp hK
   obtain ⟨e13a, e13b⟩ := hp.dep_ 13 4 (.pointer (some ⟨w.heap.size, 0, none⟩))
   have hS : Sp w6 b (fun _ => (fun c t => t = ts ∧ c = cs)) [] CL nph wu := hp.S
   have c0 := hS.at_ 0 ⟨w.heap.size, 0, none⟩ (.iface 152 (.pointer (some ⟨b, 0, none⟩))) (by rw [hCL]; rfl)
   have hk := hK.pure (.iface 152 (.pointer (some ⟨b, 0, none⟩))) hp.S
   clear hp hK hS
   go_simp
   exact hk
 · intro a wu γ nph K hp hK
   obtain ⟨e14a, e14b⟩ := hp.dep_ 14 5 (.iface 152 (.pointer (some ⟨b, 0, none⟩)))
   have hS : Sp w6 b (fun _ => (fun c t => t = ts ∧ c = cs)) [] CL nph wu := hp.S
   have hk := hK.call (.int .i32 (kW (30)).v)
   clear hp hK
   go_simp
   refine (w_const _ _ _ (by first | assumption | decide)).mono ?_
   rintro e w7 ⟨rfl, hcX⟩
   exact hk _ (hS.call hcX) (Reg.keep_callp _ rfl hS hcX)
 · intro a wu γ nph K hp hK
   obtain ⟨e9a, e9b⟩ := hp.dep_ 9 0 (.agg #[.iface 152 (.pointer (some ⟨b, 0, none⟩))])
   obtain ⟨e12a, e12b⟩ := hp.dep_ 12 3 (.int .i32 (clzW (x)).v)
   obtain ⟨e15a, e15b⟩ := hp.dep_ 15 6 (.int .i32 (kW (30)).v)
   have hS : Sp w6 b (fun _ => (fun c t => t = ts ∧ c = cs)) [] CL nph wu := hp.S
   have hk := hK.call (.int .i32 (andW (clzW (x)) (kW (30))).v)
   clear hp hK
   go_simp
   refine (w_and _ _ _ _).mono ?_
   rintro e w7 ⟨rfl, hcX⟩
   exact hk _ (hS.call hcX) (Reg.keep_callp _ rfl hS hcX)
 · intro a wu γ nph K hp hK
   obtain ⟨e16a, e16b⟩ := hp.dep_ 16 7 (.int .i32 (andW (clzW (x)) (kW (30))).v)
   have hk := hK.pure (.int .i32 (andW (clzW (x)) (kW (30))).v) hp.S
   clear hp hK
   go_simp
   exact hk
end Go.Proofs.YtihgijhjhmjolaaGreatDoor
