/- Turns, Angle of package works at numbers. -/
import Derived.Test.YtihgijhjhmjolaaGreatDoorVP7
import Derived.Test.YtihgijhjhmjolaaGreatDoorVP5
namespace Go.Proofs.YtihgijhjhmjolaaGreatDoor
open Go.RowKit Go.Deep
set_option linter.unusedVariables false
theorem turnsL_cells : wds turnsL = [.int .i32 421657428, .int .i32 248918915, .int .i32 131521918, .int .i32 66762579, .int .i32 33510843, .int .i32 16771758, .int .i32 8387925, .int .i32 4194219, .int .i32 2097141, .int .i32 1048575, .int .i32 524288, .int .i32 262144, .int .i32 131072, .int .i32 65536, .int .i32 32768, .int .i32 16384, .int .i32 8192, .int .i32 4096, .int .i32 2048, .int .i32 1024, .int .i32 512, .int .i32 256, .int .i32 128, .int .i32 64, .int .i32 32, .int .i32 16, .int .i32 8, .int .i32 4] := by kernel_rfl
theorem turnsL_length : turnsL.length = 28 := by kernel_rfl
theorem turns_calls (w : World) :
 Calls Tryz.prog 165 #[] w fun e w' => e = .returned (.slice (some ⟨w.heap.size, 0, none⟩) 28 28) ∧ w' = w.alloc (.cells (wds turnsL).toArray 21) := by
 rw [turnsL_cells]
 go_enter Tryz.func165, Tryz.ntmps165
 go_wp2
 go_ret
 exact ⟨rfl, rfl⟩
theorem idx0 (c0 : List Wd) (x y a : Wd) : (c0 ++ [x, y, a])[c0.length]? = some x := by simp
theorem idx1 (c0 : List Wd) (x y a : Wd) : (c0 ++ [x, y, a])[c0.length + 1]? = some y := by simp
theorem idx2 (c0 : List Wd) (x y a : Wd) : (c0 ++ [x, y, a])[c0.length + 2]? = some a := by simp
theorem sidx0 (c0 : List Wd) (x y a v : Wd) : (c0 ++ [x, y, a]).set c0.length v = c0 ++ [v, y, a] := by simp
theorem sidx1 (c0 : List Wd) (x y a v : Wd) : (c0 ++ [x, y, a]).set (c0.length + 1) v = c0 ++ [x, v, a] := by simp
theorem sidx2 (c0 : List Wd) (x y a v : Wd) : (c0 ++ [x, y, a]).set (c0.length + 2) v = c0 ++ [x, y, v] := by simp
set_option maxRecDepth 100000 in
set_option maxHeartbeats 4000000 in
theorem angle1_calls (p : Addr) (gw gs : Nat) (pv ps : Wd) (w : World) (cw : w.cell? ⟨gw, 0, none⟩ = some (.iface 152 (.pointer (some p)))) (cs : w.cell? ⟨gs, 0, none⟩ = some (.int .i32 ps.v)) :
 Calls Tryz.prog 163 #[.int .i32 pv.v, .pointer (some ⟨gw, 0, none⟩), .pointer (some ⟨gs, 0, none⟩)] w fun e w' => e = .returned (.int .i32 (levelW pv ps).v) ∧ Chg w w' [] := by
 have HC : Hid (Chg w w []) := hide (Chg.refl w [])
 have h1 := nil_const p
 have h2 := meth_const p
 go_enter Tryz.func163, Tryz.ntmps163
 go_wp2_with fail
 obtain ⟨CL, hCL⟩ : ∃ l : List (Addr × Value), l = [(⟨gw, 0, none⟩, .iface 152 (.pointer (some p))), (⟨gs, 0, none⟩, .int .i32 (ps).v)] := ⟨_, rfl⟩
 have HS0 : Sd w [] CL w.drew := ⟨(Chg.refl w _).drew, by rw [hCL]; simp only [List.forall_mem_cons]; exact ⟨cw, cs, by simp⟩⟩
 have hU0 : ∀ p ∈ CL, p.1.block ∈ ([gs, gw] : List Nat) := by rw [hCL]; simp only [List.forall_mem_cons]; exact ⟨by simp, by simp, by simp⟩
 have hlt0 : ∀ u ∈ ([gs, gw] : List Nat), u < w.heap.size := by simp only [List.forall_mem_cons]; exact ⟨World.block_lt_of_cell? _ _ cs, World.block_lt_of_cell? _ _ cw, by simp⟩
 refine Reg.wp_region (Reg.of 10 _ _ [.agg #[.iface 152 (.pointer (some p))], .agg #[.iface 152 (.pointer (some p))], .int .i32 (pv).v, .int .i32 (ps).v, .int .i32 (shlW (pv) (ps)).v, .pointer (some ⟨gw, 0, none⟩), .iface 152 (.pointer (some p)), .int .i32 (kW (2)).v, .int .i32 (shrW (shlW (pv) (ps)) (kW (2))).v, .int .i32 (shrW (shlW (pv) (ps)) (kW (2))).v] [fun _ => undef, fun _ => undef, fun _ => undef, fun _ => undef, fun _ => undef, fun _ => undef, fun _ => undef, fun _ => undef, fun _ => undef, fun _ => undef] [.val, .val, .val, .val, .val, .val, .val, .val, .val, .val] [] [] [] (fun _ => Sd w [] CL) (Fd w [] [gs, gw])) (Reg.good_of _ 14 (by kernel_rfl) (by kernel_rfl)) (stands_d _ w [] [gs, gw] CL rfl rfl rfl hU0 hlt0) (by kernel_rfl) HS0 (hold_of (by kernel_rfl) ?holdwz1) (ne_of (by kernel_rfl) ?hnewz1) (Reg.steps_of _ rfl ⟨?_, ?_, ?_, ?_, ?_, ?_, ?_, ?_, ?_, ?_, trivial⟩) ?hendwz1
 case holdwz1 =>
  intro k T c hk; simp at hk
 case hnewz1 => intro i j hi hj hne; exact absurd hi (by simp)
 case hendwz1 =>
  intro wz1 γ hSz hBz hnez hOz
  replace hSz : Sd w [] CL wz1 := hSz
  refine end_of [(4, .int .i32 (shrW (shlW (pv) (ps)) (kW (2))).v), (5, .agg #[.iface 152 (.pointer (some p))]), (6, .agg #[.iface 152 (.pointer (some p))]), (7, .int .i32 (pv).v), (8, .int .i32 (ps).v), (9, .int .i32 (shlW (pv) (ps)).v), (10, .pointer (some ⟨gw, 0, none⟩)), (11, .iface 152 (.pointer (some p))), (12, .int .i32 (kW (2)).v), (13, .int .i32 (shrW (shlW (pv) (ps)) (kW (2))).v)] (by kernel_rfl) ?_
  clear hBz hnez hOz HS0 hU0
  simp only [Reg.of, List.foldl_cons, List.foldl_nil, List.setIfInBounds_toArray, List.set_cons_zero, List.set_cons_succ]
  have HC1 := hide (HC.out.trans hSz.chg (D := []) (by simp; try omega))
  have y1_0 : wz1.cell? ⟨gw, 0, none⟩ = some (.iface 152 (.pointer (some p))) := hSz.at_ 0 _ _ (by rw [hCL]; rfl)
  have y1_1 : wz1.cell? ⟨gs, 0, none⟩ = some (.int .i32 (ps).v) := hSz.at_ 1 _ _ (by rw [hCL]; rfl)
  clear hSz hCL hlt0 CL cw cs HC
  go_wp2
  go_ret
  exact ⟨rfl, HC1.out⟩
 · intro a wu γ nph K hp hK
   obtain ⟨e1a, e1b⟩ := hp.old_ 1 (.pointer (some ⟨gw, 0, none⟩))
   have hS : Sd w [] CL wu := hp.S
   have c0 := hS.at_ 0 ⟨gw, 0, none⟩ (.iface 152 (.pointer (some p))) (by rw [hCL]; rfl)
   have hk := hK.pure (.agg #[.iface 152 (.pointer (some p))]) hp.S
   clear hp hK hS
   go_simp
   exact hk
 · intro a wu γ nph K hp hK
   obtain ⟨e1a, e1b⟩ := hp.old_ 1 (.pointer (some ⟨gw, 0, none⟩))
   have hS : Sd w [] CL wu := hp.S
   have c0 := hS.at_ 0 ⟨gw, 0, none⟩ (.iface 152 (.pointer (some p))) (by rw [hCL]; rfl)
   have hk := hK.pure (.agg #[.iface 152 (.pointer (some p))]) hp.S
   clear hp hK hS
   go_simp
   exact hk
 · intro a wu γ nph K hp hK
   obtain ⟨e0a, e0b⟩ := hp.old_ 0 (.int .i32 (pv).v)
   have hk := hK.pure (.int .i32 (pv).v) hp.S
   clear hp hK
   go_simp
   exact hk
 · intro a wu γ nph K hp hK
   obtain ⟨e2a, e2b⟩ := hp.old_ 2 (.pointer (some ⟨gs, 0, none⟩))
   have hS : Sd w [] CL wu := hp.S
   have c1 := hS.at_ 1 ⟨gs, 0, none⟩ (.int .i32 (ps).v) (by rw [hCL]; rfl)
   have hk := hK.pure (.int .i32 (ps).v) hp.S
   clear hp hK hS
   go_simp
   exact hk
 · intro a wu γ nph K hp hK
   obtain ⟨e6a, e6b⟩ := hp.dep_ 6 1 (.agg #[.iface 152 (.pointer (some p))])
   obtain ⟨e7a, e7b⟩ := hp.dep_ 7 2 (.int .i32 (pv).v)
   obtain ⟨e8a, e8b⟩ := hp.dep_ 8 3 (.int .i32 (ps).v)
   have hS : Sd w [] CL wu := hp.S
   have hk := hK.call (.int .i32 (shlW (pv) (ps)).v)
   clear hp hK
   go_simp
   refine (w_shl p _ _ _).mono ?_
   rintro e w7 ⟨rfl, hcX⟩
   exact hk _ (hS.call hcX) (Reg.keep_call _ rfl hcX)
 · intro a wu γ nph K hp hK
   obtain ⟨e1a, e1b⟩ := hp.old_ 1 (.pointer (some ⟨gw, 0, none⟩))
   have hk := hK.pure (.pointer (some ⟨gw, 0, none⟩)) hp.S
   clear hp hK
   go_simp
   exact hk
 · intro a wu γ nph K hp hK
   obtain ⟨e10a, e10b⟩ := hp.dep_ 10 5 (.pointer (some ⟨gw, 0, none⟩))
   have hS : Sd w [] CL wu := hp.S
   have c0 := hS.at_ 0 ⟨gw, 0, none⟩ (.iface 152 (.pointer (some p))) (by rw [hCL]; rfl)
   have hk := hK.pure (.iface 152 (.pointer (some p))) hp.S
   clear hp hK hS
   go_simp
   exact hk
 · intro a wu γ nph K hp hK
   obtain ⟨e11a, e11b⟩ := hp.dep_ 11 6 (.iface 152 (.pointer (some p)))
   have hS : Sd w [] CL wu := hp.S
   have hk := hK.call (.int .i32 (kW (2)).v)
   clear hp hK
   go_simp
   refine (w_const p _ _ (by first | assumption | decide)).mono ?_
   rintro e w7 ⟨rfl, hcX⟩
   exact hk _ (hS.call hcX) (Reg.keep_call _ rfl hcX)
 · intro a wu γ nph K hp hK
   obtain ⟨e5a, e5b⟩ := hp.dep_ 5 0 (.agg #[.iface 152 (.pointer (some p))])
   obtain ⟨e9a, e9b⟩ := hp.dep_ 9 4 (.int .i32 (shlW (pv) (ps)).v)
   obtain ⟨e12a, e12b⟩ := hp.dep_ 12 7 (.int .i32 (kW (2)).v)
   have hS : Sd w [] CL wu := hp.S
   have hk := hK.call (.int .i32 (shrW (shlW (pv) (ps)) (kW (2))).v)
   clear hp hK
   go_simp
   refine (w_shr p _ _ _).mono ?_
   rintro e w7 ⟨rfl, hcX⟩
   exact hk _ (hS.call hcX) (Reg.keep_call _ rfl hcX)
 · intro a wu γ nph K hp hK
   obtain ⟨e13a, e13b⟩ := hp.dep_ 13 8 (.int .i32 (shrW (shlW (pv) (ps)) (kW (2))).v)
   have hk := hK.pure (.int .i32 (shrW (shlW (pv) (ps)) (kW (2))).v) hp.S
   clear hp hK
   go_simp
   exact hk
set_option maxRecDepth 100000 in
set_option maxHeartbeats 8000000 in
theorem angle2_calls (b i j0 j1 j2 tb gw g0 g1 g2 g3 gt : Nat) (iw x y ca : Wd) (c0 : List Wd) (ts : List Value) (w : World) (hi : i < 28) (hiw : Hid (iw.v = i)) (hj0 : Hid (j0 = c0.length)) (hj1 : Hid (j1 = c0.length + 1)) (hj2 : Hid (j2 = c0.length + 2)) (hlen : c0.length ≤ 900) (hts : ts.length ≤ 1000)
 (hpl : PlR w b (fun c t => t = ts ∧ c = c0 ++ [x, y, ca])) (cw : w.cell? ⟨gw, 0, none⟩ = some (.iface 152 (.pointer (some ⟨b, 0, none⟩)))) (cg0 : w.cell? ⟨g0, 0, none⟩ = some (.int .i64 j0)) (cg1 : w.cell? ⟨g1, 0, none⟩ = some (.int .i64 j1)) (cg2 : w.cell? ⟨g2, 0, none⟩ = some (.int .i64 j2)) (cg3 : w.cell? ⟨g3, 0, none⟩ = some (.int .i64 tb))
 (fw : gw ∉ dof w b) (fg0 : g0 ∉ dof w b) (fg1 : g1 ∉ dof w b) (fg2 : g2 ∉ dof w b) (fg3 : g3 ∉ dof w b) (htk : Hid (ts[tb]? = some (slv gt 28))) (htb : Blk w gt 21 (wds turnsL)) (hft : gt ∉ dof w b) :
 Calls Tryz.prog 166 #[.int .i32 iw.v, .pointer (some ⟨gw, 0, none⟩), .pointer (some ⟨g0, 0, none⟩), .pointer (some ⟨g1, 0, none⟩), .pointer (some ⟨g2, 0, none⟩), .pointer (some ⟨g3, 0, none⟩)] w fun e w' => e = .returned (.tuple #[]) ∧ PlR w' b (fun c t => t = ts ∧ c = c0 ++ [(turnStep i x y ca).a, (turnStep i x y ca).b, (turnStep i x y ca).c]) ∧ Turn w b w' := by
 have h1 := nil_const ⟨b, 0, none⟩
 have h2 := meth_const ⟨b, 0, none⟩
 have h3 := nil_get ⟨b, 0, none⟩
 have h4 := meth_get ⟨b, 0, none⟩
 have h5 := nil_set ⟨b, 0, none⟩
 have h6 := meth_set ⟨b, 0, none⟩
 have h7 := nil_cell ⟨b, 0, none⟩
 have h8 := meth_cell ⟨b, 0, none⟩
 have h9 := nil_loop ⟨b, 0, none⟩
 have h10 := meth_loop ⟨b, 0, none⟩
 have h11 := nil_table ⟨b, 0, none⟩
 have h12 := meth_table ⟨b, 0, none⟩
 have h13 := nil_at ⟨b, 0, none⟩
 have h14 := meth_at ⟨b, 0, none⟩
 have HT0 : Hid (Turn w b w) := hide (Turn.refl w b)
 have hix : Hid (turnsL[i]? = some (turnsL.getD i (kW 0))) := by show turnsL[i]? = _; rw [List.getD_eq_getElem?_getD, List.getElem?_eq_getElem (by rw [turnsL_length]; exact hi)]; rfl
 have hki : iw = kW i := Wd.ext_ (by rw [hiw.out, kW_v (show In32 (i : Int) from ⟨by omega, by omega⟩)])
 have HKI := hide hki
 clear hki
 have hltt := htb.lt
 go_enter Tryz.func166, Tryz.ntmps166
 go_wp2_with fail
 obtain ⟨CL, hCL⟩ : ∃ l : List (Addr × Value), l = [(⟨gw, 0, none⟩, .iface 152 (.pointer (some ⟨b, 0, none⟩))), (⟨g0, 0, none⟩, .int .i64 j0), (⟨g1, 0, none⟩, .int .i64 j1), (⟨g2, 0, none⟩, .int .i64 j2), (⟨g3, 0, none⟩, .int .i64 tb)] := ⟨_, rfl⟩
 have HS0 : Sp w b (fun _ => (fun c t => t = ts ∧ c = c0 ++ [x, y, ca])) [] CL 0 w.drew := Sp.start hpl (by rw [hCL]; simp only [List.forall_mem_cons]; exact ⟨cw, cg0, cg1, cg2, cg3, by simp⟩)
 have hap : Apart w b [] [g0, g1, g2, g3, gw] CL := ⟨by rw [hCL]; simp only [List.forall_mem_cons]; exact ⟨by simp, by simp, by simp, by simp, by simp, by simp⟩, by simp only [List.forall_mem_cons]; exact ⟨World.block_lt_of_cell? _ _ cg0, World.block_lt_of_cell? _ _ cg1, World.block_lt_of_cell? _ _ cg2, World.block_lt_of_cell? _ _ cg3, World.block_lt_of_cell? _ _ cw, by simp⟩, by simp only [List.forall_mem_cons]; exact ⟨fg0, fg1, fg2, fg3, fw, by simp⟩, by simp⟩
 refine Reg.wp_region (Reg.of 10 _ _ [.pointer (some ⟨gw, 0, none⟩), .iface 152 (.pointer (some ⟨b, 0, none⟩)), .int .i64 j0, .int .i32 (x).v, .pointer (some ⟨gw, 0, none⟩), .iface 152 (.pointer (some ⟨b, 0, none⟩)), .int .i64 j1, .int .i32 (y).v, .int .i32 (x).v, .int .i32 (y).v] [fun _ => undef, fun _ => undef, fun _ => undef, fun _ => undef, fun _ => undef, fun _ => undef, fun _ => undef, fun _ => undef, fun _ => undef, fun _ => undef] [.val, .val, .val, .val, .val, .val, .val, .val, .val, .val] [] [] [] (Sp w b (fun _ => (fun c t => t = ts ∧ c = c0 ++ [x, y, ca])) [] CL) (Fp w b [] [g0, g1, g2, g3, gw])) (Reg.good_of _ 73 (by kernel_rfl) (by kernel_rfl)) (stands_p _ hap rfl rfl rfl) (by kernel_rfl) HS0 (hold_of (by kernel_rfl) ?holdwz1) (ne_of (by kernel_rfl) ?hnewz1) (Reg.steps_of _ rfl ⟨?_, ?_, ?_, ?_, ?_, ?_, ?_, ?_, ?_, ?_, trivial⟩) ?hendwz1
 case holdwz1 =>
  intro k T c hk; simp at hk
 case hnewz1 => intro i j hi hj hne; exact absurd hi (by simp)
 case hendwz1 =>
  intro wz1 γ hSz hBz hnez hOz
  replace hSz : Sp w b (fun _ => (fun c t => t = ts ∧ c = c0 ++ [x, y, ca])) [] CL 0 wz1 := hSz
  refine end_of [(7, .int .i32 (x).v), (8, .int .i32 (y).v), (10, .pointer (some ⟨gw, 0, none⟩)), (11, .iface 152 (.pointer (some ⟨b, 0, none⟩))), (12, .int .i64 j0), (13, .int .i32 (x).v), (14, .pointer (some ⟨gw, 0, none⟩)), (15, .iface 152 (.pointer (some ⟨b, 0, none⟩))), (16, .int .i64 j1), (17, .int .i32 (y).v)] (by kernel_rfl) ?_
  clear hBz hnez hOz HS0
  simp only [Reg.of, List.foldl_cons, List.foldl_nil, List.setIfInBounds_toArray, List.set_cons_zero, List.set_cons_succ]
  replace htb := htb.chg hSz.chg (by simpa using hft)
  have hftn : gt ∉ dof wz1 b := fun hm => by rcases hSz.sub gt hm with h1 | h1; exact hft h1; exact absurd (hltt) (by omega)
  replace hltt := htb.lt
  clear hft
  have hft := hftn
  clear hftn
  have HC1 := hide (HT0.out.region hSz (by simp))
  have pl1 := hSz.pl
  have fr1_0 := hSz.apart hap (g3) (by simp)
  have fr1_1 := hSz.apart hap (g2) (by simp)
  have fr1_2 := hSz.apart hap (g1) (by simp)
  have fr1_3 := hSz.apart hap (g0) (by simp)
  have fr1_4 := hSz.apart hap (gw) (by simp)
  have y1_0 : wz1.cell? ⟨gw, 0, none⟩ = some (.iface 152 (.pointer (some ⟨b, 0, none⟩))) := hSz.at_ 0 _ _ (by rw [hCL]; rfl)
  have y1_1 : wz1.cell? ⟨g0, 0, none⟩ = some (.int .i64 j0) := hSz.at_ 1 _ _ (by rw [hCL]; rfl)
  have y1_2 : wz1.cell? ⟨g1, 0, none⟩ = some (.int .i64 j1) := hSz.at_ 2 _ _ (by rw [hCL]; rfl)
  have y1_3 : wz1.cell? ⟨g2, 0, none⟩ = some (.int .i64 j2) := hSz.at_ 3 _ _ (by rw [hCL]; rfl)
  have y1_4 : wz1.cell? ⟨g3, 0, none⟩ = some (.int .i64 tb) := hSz.at_ 4 _ _ (by rw [hCL]; rfl)
  clear hSz hCL hap CL cw cg0 cg1 cg2 cg3 HT0  fw fg0 fg1 fg2 fg3 hpl
  go_wp2_with fail
  refine (w_sign _ y _).mono ?_
  rintro e wz2 ⟨rfl, hcX⟩
  have y2_0 := hcX.cell y1_0 (by simp)
  have y2_1 := hcX.cell y1_1 (by simp)
  have y2_2 := hcX.cell y1_2 (by simp)
  have y2_3 := hcX.cell y1_3 (by simp)
  have y2_4 := hcX.cell y1_4 (by simp)
  have hd2 := dof_chg pl1 hcX (by simp)
  replace htb := htb.chg hcX (by simp)
  rw [← hd2] at hft
  replace hltt := htb.lt
  have fr2_0 := fr1_0
  rw [← hd2] at fr2_0
  have fr2_1 := fr1_1
  rw [← hd2] at fr2_1
  have fr2_2 := fr1_2
  rw [← hd2] at fr2_2
  have fr2_3 := fr1_3
  rw [← hd2] at fr2_3
  have fr2_4 := fr1_4
  rw [← hd2] at fr2_4
  have HC2 := hide (HC1.out.trans (Turn.call pl1 hcX))
  have pl2 := pl1.chg hcX (by simp)
  clear hcX hd2 y1_0 y1_1 y1_2 y1_3 y1_4 fr1_0 fr1_1 fr1_2 fr1_3 fr1_4 pl1 HC1
  go_wp2_with fail
  obtain ⟨CL, hCL⟩ : ∃ l : List (Addr × Value), l = [(⟨gw, 0, none⟩, .iface 152 (.pointer (some ⟨b, 0, none⟩))), (⟨g0, 0, none⟩, .int .i64 j0), (⟨g1, 0, none⟩, .int .i64 j1), (⟨g2, 0, none⟩, .int .i64 j2), (⟨g3, 0, none⟩, .int .i64 tb)] := ⟨_, rfl⟩
  have HS0 : Sp wz2 b (fun k c t => t = ts ∧ c = (match k with | 0 => c0 ++ [x, y, ca] | _ => c0 ++ [addW (x) (flipW (sarW (y) (iw)) (signW y)), y, ca])) [] CL 0 wz2.drew := Sp.start pl2 (by rw [hCL]; simp only [List.forall_mem_cons]; exact ⟨y2_0, y2_1, y2_2, y2_3, y2_4, by simp⟩)
  have hap : Apart wz2 b [] [g0, g1, g2, g3, gw] CL := ⟨by rw [hCL]; simp only [List.forall_mem_cons]; exact ⟨by simp, by simp, by simp, by simp, by simp, by simp⟩, by simp only [List.forall_mem_cons]; exact ⟨World.block_lt_of_cell? _ _ y2_1, World.block_lt_of_cell? _ _ y2_2, World.block_lt_of_cell? _ _ y2_3, World.block_lt_of_cell? _ _ y2_4, World.block_lt_of_cell? _ _ y2_0, by simp⟩, by simp only [List.forall_mem_cons]; exact ⟨fr2_3, fr2_2, fr2_1, fr2_0, fr2_4, by simp⟩, by simp⟩
  refine Reg.wp_region (Reg.of 16 _ _ [.pointer (some ⟨gw, 0, none⟩), .iface 152 (.pointer (some ⟨b, 0, none⟩)), .int .i64 j0, .agg #[.iface 152 (.pointer (some ⟨b, 0, none⟩))], .int .i32 (x).v, .agg #[.iface 152 (.pointer (some ⟨b, 0, none⟩))], .agg #[.iface 152 (.pointer (some ⟨b, 0, none⟩))], .int .i32 (y).v, .int .i32 (iw).v, .int .i32 (sarW (y) (iw)).v, .int .i32 (signW y).v, .int .i32 (flipW (sarW (y) (iw)) (signW y)).v, .int .i32 (addW (x) (flipW (sarW (y) (iw)) (signW y))).v, .iface 152 (.pointer (some ⟨b, 0, none⟩)), .iface 152 (.pointer (some ⟨b, 0, none⟩)), .tuple #[]] [fun _ => undef, fun _ => undef, fun _ => undef, fun _ => undef, fun _ => undef, fun _ => undef, fun _ => undef, fun _ => undef, fun _ => undef, fun _ => undef, fun _ => undef, fun _ => undef, fun _ => undef, fun _ => undef, fun _ => undef, fun _ => undef] [.val, .val, .val, .val, .val, .val, .val, .val, .val, .val, .val, .val, .val, .val, .val, .val] [] [] [15] (Sp wz2 b (fun k c t => t = ts ∧ c = (match k with | 0 => c0 ++ [x, y, ca] | _ => c0 ++ [addW (x) (flipW (sarW (y) (iw)) (signW y)), y, ca])) [] CL) (Fp wz2 b [] [g0, g1, g2, g3, gw])) (Reg.good_of _ 73 (by kernel_rfl) (by kernel_rfl)) (stands_p _ hap rfl rfl rfl) (by kernel_rfl) HS0 (hold_of (by kernel_rfl) ?holdwz3) (ne_of (by kernel_rfl) ?hnewz3) (Reg.steps_of _ rfl ⟨?_, ?_, ?_, ?_, ?_, ?_, ?_, ?_, ?_, ?_, ?_, ?_, ?_, ?_, ?_, ?_, trivial⟩) ?hendwz3
  case holdwz3 =>
   intro k T c hk; simp at hk
  case hnewz3 => intro i j hi hj hne; exact absurd hi (by simp)
  case hendwz3 =>
   intro wz3 γ hSz hBz hnez hOz
   replace hSz : Sp wz2 b (fun k c t => t = ts ∧ c = (match k with | 0 => c0 ++ [x, y, ca] | _ => c0 ++ [addW (x) (flipW (sarW (y) (iw)) (signW y)), y, ca])) [] CL 1 wz3 := hSz
   refine end_of [(21, .pointer (some ⟨gw, 0, none⟩)), (22, .iface 152 (.pointer (some ⟨b, 0, none⟩))), (23, .int .i64 j0), (24, .agg #[.iface 152 (.pointer (some ⟨b, 0, none⟩))]), (25, .int .i32 (x).v), (26, .agg #[.iface 152 (.pointer (some ⟨b, 0, none⟩))]), (27, .agg #[.iface 152 (.pointer (some ⟨b, 0, none⟩))]), (28, .int .i32 (y).v), (29, .int .i32 (iw).v), (30, .int .i32 (sarW (y) (iw)).v), (31, .int .i32 (signW y).v), (32, .int .i32 (flipW (sarW (y) (iw)) (signW y)).v), (33, .int .i32 (addW (x) (flipW (sarW (y) (iw)) (signW y))).v), (34, .iface 152 (.pointer (some ⟨b, 0, none⟩))), (35, .iface 152 (.pointer (some ⟨b, 0, none⟩))), (36, .tuple #[])] (by kernel_rfl) ?_
   clear hBz hnez hOz HS0
   simp only [Reg.of, List.foldl_cons, List.foldl_nil, List.setIfInBounds_toArray, List.set_cons_zero, List.set_cons_succ]
   replace htb := htb.chg hSz.chg (by simpa using hft)
   have hftn : gt ∉ dof wz3 b := fun hm => by rcases hSz.sub gt hm with h1 | h1; exact hft h1; exact absurd (hltt) (by omega)
   replace hltt := htb.lt
   clear hft
   have hft := hftn
   clear hftn
   have HC3 := hide (HC2.out.region hSz (by simp))
   have pl3 := hSz.pl
   have fr3_0 := hSz.apart hap (g3) (by simp)
   have fr3_1 := hSz.apart hap (g2) (by simp)
   have fr3_2 := hSz.apart hap (g1) (by simp)
   have fr3_3 := hSz.apart hap (g0) (by simp)
   have fr3_4 := hSz.apart hap (gw) (by simp)
   have y3_0 : wz3.cell? ⟨gw, 0, none⟩ = some (.iface 152 (.pointer (some ⟨b, 0, none⟩))) := hSz.at_ 0 _ _ (by rw [hCL]; rfl)
   have y3_1 : wz3.cell? ⟨g0, 0, none⟩ = some (.int .i64 j0) := hSz.at_ 1 _ _ (by rw [hCL]; rfl)
   have y3_2 : wz3.cell? ⟨g1, 0, none⟩ = some (.int .i64 j1) := hSz.at_ 2 _ _ (by rw [hCL]; rfl)
   have y3_3 : wz3.cell? ⟨g2, 0, none⟩ = some (.int .i64 j2) := hSz.at_ 3 _ _ (by rw [hCL]; rfl)
   have y3_4 : wz3.cell? ⟨g3, 0, none⟩ = some (.int .i64 tb) := hSz.at_ 4 _ _ (by rw [hCL]; rfl)
   clear hSz hCL hap CL y2_0 y2_1 y2_2 y2_3 y2_4 HC2  fr2_0 fr2_1 fr2_2 fr2_3 fr2_4 pl2
   go_wp2_with fail
   obtain ⟨CL, hCL⟩ : ∃ l : List (Addr × Value), l = [(⟨gw, 0, none⟩, .iface 152 (.pointer (some ⟨b, 0, none⟩))), (⟨g0, 0, none⟩, .int .i64 j0), (⟨g1, 0, none⟩, .int .i64 j1), (⟨g2, 0, none⟩, .int .i64 j2), (⟨g3, 0, none⟩, .int .i64 tb)] := ⟨_, rfl⟩
   have HS0 : Sp wz3 b (fun k c t => t = ts ∧ c = (match k with | 0 => c0 ++ [addW (x) (flipW (sarW (y) (iw)) (signW y)), y, ca] | _ => c0 ++ [addW (x) (flipW (sarW (y) (iw)) (signW y)), subW (y) (flipW (sarW (x) (iw)) (signW y)), ca])) [] CL 0 wz3.drew := Sp.start pl3 (by rw [hCL]; simp only [List.forall_mem_cons]; exact ⟨y3_0, y3_1, y3_2, y3_3, y3_4, by simp⟩)
   have hap : Apart wz3 b [] [g0, g1, g2, g3, gw] CL := ⟨by rw [hCL]; simp only [List.forall_mem_cons]; exact ⟨by simp, by simp, by simp, by simp, by simp, by simp⟩, by simp only [List.forall_mem_cons]; exact ⟨World.block_lt_of_cell? _ _ y3_1, World.block_lt_of_cell? _ _ y3_2, World.block_lt_of_cell? _ _ y3_3, World.block_lt_of_cell? _ _ y3_4, World.block_lt_of_cell? _ _ y3_0, by simp⟩, by simp only [List.forall_mem_cons]; exact ⟨fr3_3, fr3_2, fr3_1, fr3_0, fr3_4, by simp⟩, by simp⟩
   refine Reg.wp_region (Reg.of 16 _ _ [.pointer (some ⟨gw, 0, none⟩), .iface 152 (.pointer (some ⟨b, 0, none⟩)), .int .i64 j1, .agg #[.iface 152 (.pointer (some ⟨b, 0, none⟩))], .int .i32 (y).v, .agg #[.iface 152 (.pointer (some ⟨b, 0, none⟩))], .agg #[.iface 152 (.pointer (some ⟨b, 0, none⟩))], .int .i32 (x).v, .int .i32 (iw).v, .int .i32 (sarW (x) (iw)).v, .int .i32 (signW y).v, .int .i32 (flipW (sarW (x) (iw)) (signW y)).v, .int .i32 (subW (y) (flipW (sarW (x) (iw)) (signW y))).v, .iface 152 (.pointer (some ⟨b, 0, none⟩)), .iface 152 (.pointer (some ⟨b, 0, none⟩)), .tuple #[]] [fun _ => undef, fun _ => undef, fun _ => undef, fun _ => undef, fun _ => undef, fun _ => undef, fun _ => undef, fun _ => undef, fun _ => undef, fun _ => undef, fun _ => undef, fun _ => undef, fun _ => undef, fun _ => undef, fun _ => undef, fun _ => undef] [.val, .val, .val, .val, .val, .val, .val, .val, .val, .val, .val, .val, .val, .val, .val, .val] [] [] [15] (Sp wz3 b (fun k c t => t = ts ∧ c = (match k with | 0 => c0 ++ [addW (x) (flipW (sarW (y) (iw)) (signW y)), y, ca] | _ => c0 ++ [addW (x) (flipW (sarW (y) (iw)) (signW y)), subW (y) (flipW (sarW (x) (iw)) (signW y)), ca])) [] CL) (Fp wz3 b [] [g0, g1, g2, g3, gw])) (Reg.good_of _ 73 (by kernel_rfl) (by kernel_rfl)) (stands_p _ hap rfl rfl rfl) (by kernel_rfl) HS0 (hold_of (by kernel_rfl) ?holdwz4) (ne_of (by kernel_rfl) ?hnewz4) (Reg.steps_of _ rfl ⟨?_, ?_, ?_, ?_, ?_, ?_, ?_, ?_, ?_, ?_, ?_, ?_, ?_, ?_, ?_, ?_, trivial⟩) ?hendwz4
   case holdwz4 =>
    intro k T c hk; simp at hk
   case hnewz4 => intro i j hi hj hne; exact absurd hi (by simp)
   case hendwz4 =>
    intro wz4 γ hSz hBz hnez hOz
    replace hSz : Sp wz3 b (fun k c t => t = ts ∧ c = (match k with | 0 => c0 ++ [addW (x) (flipW (sarW (y) (iw)) (signW y)), y, ca] | _ => c0 ++ [addW (x) (flipW (sarW (y) (iw)) (signW y)), subW (y) (flipW (sarW (x) (iw)) (signW y)), ca])) [] CL 1 wz4 := hSz
    refine end_of [(37, .pointer (some ⟨gw, 0, none⟩)), (38, .iface 152 (.pointer (some ⟨b, 0, none⟩))), (39, .int .i64 j1), (40, .agg #[.iface 152 (.pointer (some ⟨b, 0, none⟩))]), (41, .int .i32 (y).v), (42, .agg #[.iface 152 (.pointer (some ⟨b, 0, none⟩))]), (43, .agg #[.iface 152 (.pointer (some ⟨b, 0, none⟩))]), (44, .int .i32 (x).v), (45, .int .i32 (iw).v), (46, .int .i32 (sarW (x) (iw)).v), (47, .int .i32 (signW y).v), (48, .int .i32 (flipW (sarW (x) (iw)) (signW y)).v), (49, .int .i32 (subW (y) (flipW (sarW (x) (iw)) (signW y))).v), (50, .iface 152 (.pointer (some ⟨b, 0, none⟩))), (51, .iface 152 (.pointer (some ⟨b, 0, none⟩))), (52, .tuple #[])] (by kernel_rfl) ?_
    clear hBz hnez hOz HS0
    simp only [Reg.of, List.foldl_cons, List.foldl_nil, List.setIfInBounds_toArray, List.set_cons_zero, List.set_cons_succ]
    replace htb := htb.chg hSz.chg (by simpa using hft)
    have hftn : gt ∉ dof wz4 b := fun hm => by rcases hSz.sub gt hm with h1 | h1; exact hft h1; exact absurd (hltt) (by omega)
    replace hltt := htb.lt
    clear hft
    have hft := hftn
    clear hftn
    have HC4 := hide (HC3.out.region hSz (by simp))
    have pl4 := hSz.pl
    have fr4_0 := hSz.apart hap (g3) (by simp)
    have fr4_1 := hSz.apart hap (g2) (by simp)
    have fr4_2 := hSz.apart hap (g1) (by simp)
    have fr4_3 := hSz.apart hap (g0) (by simp)
    have fr4_4 := hSz.apart hap (gw) (by simp)
    have y4_0 : wz4.cell? ⟨gw, 0, none⟩ = some (.iface 152 (.pointer (some ⟨b, 0, none⟩))) := hSz.at_ 0 _ _ (by rw [hCL]; rfl)
    have y4_1 : wz4.cell? ⟨g0, 0, none⟩ = some (.int .i64 j0) := hSz.at_ 1 _ _ (by rw [hCL]; rfl)
    have y4_2 : wz4.cell? ⟨g1, 0, none⟩ = some (.int .i64 j1) := hSz.at_ 2 _ _ (by rw [hCL]; rfl)
    have y4_3 : wz4.cell? ⟨g2, 0, none⟩ = some (.int .i64 j2) := hSz.at_ 3 _ _ (by rw [hCL]; rfl)
    have y4_4 : wz4.cell? ⟨g3, 0, none⟩ = some (.int .i64 tb) := hSz.at_ 4 _ _ (by rw [hCL]; rfl)
    clear hSz hCL hap CL y3_0 y3_1 y3_2 y3_3 y3_4 HC3  fr3_0 fr3_1 fr3_2 fr3_3 fr3_4 pl3
    go_wp2_with fail
    obtain ⟨CL, hCL⟩ : ∃ l : List (Addr × Value), l = [(⟨gw, 0, none⟩, .iface 152 (.pointer (some ⟨b, 0, none⟩))), (⟨g0, 0, none⟩, .int .i64 j0), (⟨g1, 0, none⟩, .int .i64 j1), (⟨g2, 0, none⟩, .int .i64 j2), (⟨g3, 0, none⟩, .int .i64 tb)] := ⟨_, rfl⟩
    have HS0 : Sp wz4 b (fun k c t => t = ts ∧ c = (match k with | 0 => c0 ++ [addW (x) (flipW (sarW (y) (iw)) (signW y)), subW (y) (flipW (sarW (x) (iw)) (signW y)), ca] | 1 => c0 ++ [addW (x) (flipW (sarW (y) (iw)) (signW y)), subW (y) (flipW (sarW (x) (iw)) (signW y)), ca] | 2 => c0 ++ [addW (x) (flipW (sarW (y) (iw)) (signW y)), subW (y) (flipW (sarW (x) (iw)) (signW y)), ca] | 3 => c0 ++ [addW (x) (flipW (sarW (y) (iw)) (signW y)), subW (y) (flipW (sarW (x) (iw)) (signW y)), ca] | 4 => c0 ++ [addW (x) (flipW (sarW (y) (iw)) (signW y)), subW (y) (flipW (sarW (x) (iw)) (signW y)), ca] | _ => c0 ++ [addW (x) (flipW (sarW (y) (iw)) (signW y)), subW (y) (flipW (sarW (x) (iw)) (signW y)), addW (ca) (flipW (turnsL.getD i (kW 0)) (signW y))])) [] CL 0 wz4.drew := Sp.start pl4 (by rw [hCL]; simp only [List.forall_mem_cons]; exact ⟨y4_0, y4_1, y4_2, y4_3, y4_4, by simp⟩)
    have hap : Apart wz4 b [] [g0, g1, g2, g3, gw] CL := ⟨by rw [hCL]; simp only [List.forall_mem_cons]; exact ⟨by simp, by simp, by simp, by simp, by simp, by simp⟩, by simp only [List.forall_mem_cons]; exact ⟨World.block_lt_of_cell? _ _ y4_1, World.block_lt_of_cell? _ _ y4_2, World.block_lt_of_cell? _ _ y4_3, World.block_lt_of_cell? _ _ y4_4, World.block_lt_of_cell? _ _ y4_0, by simp⟩, by simp only [List.forall_mem_cons]; exact ⟨fr4_3, fr4_2, fr4_1, fr4_0, fr4_4, by simp⟩, by simp⟩
    refine Reg.wp_region (Reg.of 20 _ _ [.pointer (some ⟨gw, 0, none⟩), .iface 152 (.pointer (some ⟨b, 0, none⟩)), .int .i64 j2, .agg #[.iface 152 (.pointer (some ⟨b, 0, none⟩))], .pointer (some ⟨gw, 0, none⟩), .iface 152 (.pointer (some ⟨b, 0, none⟩)), .int .i64 j2, .int .i32 (ca).v, .agg #[.iface 152 (.pointer (some ⟨b, 0, none⟩))], .pointer (some ⟨gw, 0, none⟩), .iface 152 (.pointer (some ⟨b, 0, none⟩)), .int .i64 tb, .int .i32 (iw).v, .int .i32 (turnsL.getD i (kW 0)).v, .int .i32 (signW y).v, .int .i32 (flipW (turnsL.getD i (kW 0)) (signW y)).v, .int .i32 (addW (ca) (flipW (turnsL.getD i (kW 0)) (signW y))).v, .iface 152 (.pointer (some ⟨b, 0, none⟩)), .iface 152 (.pointer (some ⟨b, 0, none⟩)), .tuple #[]] [fun _ => undef, fun _ => undef, fun _ => undef, fun _ => undef, fun _ => undef, fun _ => undef, fun _ => undef, fun _ => undef, fun _ => undef, fun _ => undef, fun _ => undef, fun _ => undef, fun _ => undef, fun _ => undef, fun _ => undef, fun _ => undef, fun _ => undef, fun _ => undef, fun _ => undef, fun _ => undef] [.val, .val, .val, .val, .val, .val, .val, .val, .val, .val, .val, .val, .val, .val, .val, .val, .val, .val, .val, .val] [] [] [7, 13, 15, 16, 19] (Sp wz4 b (fun k c t => t = ts ∧ c = (match k with | 0 => c0 ++ [addW (x) (flipW (sarW (y) (iw)) (signW y)), subW (y) (flipW (sarW (x) (iw)) (signW y)), ca] | 1 => c0 ++ [addW (x) (flipW (sarW (y) (iw)) (signW y)), subW (y) (flipW (sarW (x) (iw)) (signW y)), ca] | 2 => c0 ++ [addW (x) (flipW (sarW (y) (iw)) (signW y)), subW (y) (flipW (sarW (x) (iw)) (signW y)), ca] | 3 => c0 ++ [addW (x) (flipW (sarW (y) (iw)) (signW y)), subW (y) (flipW (sarW (x) (iw)) (signW y)), ca] | 4 => c0 ++ [addW (x) (flipW (sarW (y) (iw)) (signW y)), subW (y) (flipW (sarW (x) (iw)) (signW y)), ca] | _ => c0 ++ [addW (x) (flipW (sarW (y) (iw)) (signW y)), subW (y) (flipW (sarW (x) (iw)) (signW y)), addW (ca) (flipW (turnsL.getD i (kW 0)) (signW y))])) [] CL) (Fp wz4 b [] [g0, g1, g2, g3, gw])) (Reg.good_of _ 73 (by kernel_rfl) (by kernel_rfl)) (stands_p _ hap rfl rfl rfl) (by kernel_rfl) HS0 (hold_of (by kernel_rfl) ?holdwz5) (ne_of (by kernel_rfl) ?hnewz5) (Reg.steps_of _ rfl ⟨?_, ?_, ?_, ?_, ?_, ?_, ?_, ?_, ?_, ?_, ?_, ?_, ?_, ?_, ?_, ?_, ?_, ?_, ?_, ?_, trivial⟩) ?hendwz5
    case holdwz5 =>
     intro k T c hk; simp at hk
    case hnewz5 => intro i j hi hj hne; exact absurd hi (by simp)
    case hendwz5 =>
     intro wz5 γ hSz hBz hnez hOz
     replace hSz : Sp wz4 b (fun k c t => t = ts ∧ c = (match k with | 0 => c0 ++ [addW (x) (flipW (sarW (y) (iw)) (signW y)), subW (y) (flipW (sarW (x) (iw)) (signW y)), ca] | 1 => c0 ++ [addW (x) (flipW (sarW (y) (iw)) (signW y)), subW (y) (flipW (sarW (x) (iw)) (signW y)), ca] | 2 => c0 ++ [addW (x) (flipW (sarW (y) (iw)) (signW y)), subW (y) (flipW (sarW (x) (iw)) (signW y)), ca] | 3 => c0 ++ [addW (x) (flipW (sarW (y) (iw)) (signW y)), subW (y) (flipW (sarW (x) (iw)) (signW y)), ca] | 4 => c0 ++ [addW (x) (flipW (sarW (y) (iw)) (signW y)), subW (y) (flipW (sarW (x) (iw)) (signW y)), ca] | _ => c0 ++ [addW (x) (flipW (sarW (y) (iw)) (signW y)), subW (y) (flipW (sarW (x) (iw)) (signW y)), addW (ca) (flipW (turnsL.getD i (kW 0)) (signW y))])) [] CL 5 wz5 := hSz
     refine end_of [(53, .pointer (some ⟨gw, 0, none⟩)), (54, .iface 152 (.pointer (some ⟨b, 0, none⟩))), (55, .int .i64 j2), (56, .agg #[.iface 152 (.pointer (some ⟨b, 0, none⟩))]), (57, .pointer (some ⟨gw, 0, none⟩)), (58, .iface 152 (.pointer (some ⟨b, 0, none⟩))), (59, .int .i64 j2), (60, .int .i32 (ca).v), (61, .agg #[.iface 152 (.pointer (some ⟨b, 0, none⟩))]), (62, .pointer (some ⟨gw, 0, none⟩)), (63, .iface 152 (.pointer (some ⟨b, 0, none⟩))), (64, .int .i64 tb), (65, .int .i32 (iw).v), (66, .int .i32 (turnsL.getD i (kW 0)).v), (67, .int .i32 (signW y).v), (68, .int .i32 (flipW (turnsL.getD i (kW 0)) (signW y)).v), (69, .int .i32 (addW (ca) (flipW (turnsL.getD i (kW 0)) (signW y))).v), (70, .iface 152 (.pointer (some ⟨b, 0, none⟩))), (71, .iface 152 (.pointer (some ⟨b, 0, none⟩))), (72, .tuple #[])] (by kernel_rfl) ?_
     clear hBz hnez hOz HS0
     simp only [Reg.of, List.foldl_cons, List.foldl_nil, List.setIfInBounds_toArray, List.set_cons_zero, List.set_cons_succ]
     replace htb := htb.chg hSz.chg (by simpa using hft)
     have hftn : gt ∉ dof wz5 b := fun hm => by rcases hSz.sub gt hm with h1 | h1; exact hft h1; exact absurd (hltt) (by omega)
     replace hltt := htb.lt
     clear hft
     have hft := hftn
     clear hftn
     have HC5 := hide (HC4.out.region hSz (by simp))
     have pl5 := hSz.pl
     have fr5_0 := hSz.apart hap (g3) (by simp)
     have fr5_1 := hSz.apart hap (g2) (by simp)
     have fr5_2 := hSz.apart hap (g1) (by simp)
     have fr5_3 := hSz.apart hap (g0) (by simp)
     have fr5_4 := hSz.apart hap (gw) (by simp)
     have y5_0 : wz5.cell? ⟨gw, 0, none⟩ = some (.iface 152 (.pointer (some ⟨b, 0, none⟩))) := hSz.at_ 0 _ _ (by rw [hCL]; rfl)
     have y5_1 : wz5.cell? ⟨g0, 0, none⟩ = some (.int .i64 j0) := hSz.at_ 1 _ _ (by rw [hCL]; rfl)
     have y5_2 : wz5.cell? ⟨g1, 0, none⟩ = some (.int .i64 j1) := hSz.at_ 2 _ _ (by rw [hCL]; rfl)
     have y5_3 : wz5.cell? ⟨g2, 0, none⟩ = some (.int .i64 j2) := hSz.at_ 3 _ _ (by rw [hCL]; rfl)
     have y5_4 : wz5.cell? ⟨g3, 0, none⟩ = some (.int .i64 tb) := hSz.at_ 4 _ _ (by rw [hCL]; rfl)
     clear hSz hCL hap CL y4_0 y4_1 y4_2 y4_3 y4_4 HC4  fr4_0 fr4_1 fr4_2 fr4_3 fr4_4 pl4
     go_wp2
     go_end0
     exact ⟨rfl, by rw [HKI.out] at pl5; exact pl5, HC5.out⟩
    · intro a wu γ nph K hp hK
      obtain ⟨e1a, e1b⟩ := hp.old_ 1 (.pointer (some ⟨gw, 0, none⟩))
      have hk := hK.pure (.pointer (some ⟨gw, 0, none⟩)) hp.S
      clear hp hK
      go_simp
      exact hk
    · intro a wu γ nph K hp hK
      obtain ⟨e53a, e53b⟩ := hp.dep_ 53 0 (.pointer (some ⟨gw, 0, none⟩))
      have hS : Sp wz4 b (fun k c t => t = ts ∧ c = (match k with | 0 => c0 ++ [addW (x) (flipW (sarW (y) (iw)) (signW y)), subW (y) (flipW (sarW (x) (iw)) (signW y)), ca] | 1 => c0 ++ [addW (x) (flipW (sarW (y) (iw)) (signW y)), subW (y) (flipW (sarW (x) (iw)) (signW y)), ca] | 2 => c0 ++ [addW (x) (flipW (sarW (y) (iw)) (signW y)), subW (y) (flipW (sarW (x) (iw)) (signW y)), ca] | 3 => c0 ++ [addW (x) (flipW (sarW (y) (iw)) (signW y)), subW (y) (flipW (sarW (x) (iw)) (signW y)), ca] | 4 => c0 ++ [addW (x) (flipW (sarW (y) (iw)) (signW y)), subW (y) (flipW (sarW (x) (iw)) (signW y)), ca] | _ => c0 ++ [addW (x) (flipW (sarW (y) (iw)) (signW y)), subW (y) (flipW (sarW (x) (iw)) (signW y)), addW (ca) (flipW (turnsL.getD i (kW 0)) (signW y))])) [] CL nph wu := hp.S
      have c0 := hS.at_ 0 ⟨gw, 0, none⟩ (.iface 152 (.pointer (some ⟨b, 0, none⟩))) (by rw [hCL]; rfl)
      have hk := hK.pure (.iface 152 (.pointer (some ⟨b, 0, none⟩))) hp.S
      clear hp hK hS
      go_simp
      exact hk
    · intro a wu γ nph K hp hK
      obtain ⟨e4a, e4b⟩ := hp.old_ 4 (.pointer (some ⟨g2, 0, none⟩))
      have hS : Sp wz4 b (fun k c t => t = ts ∧ c = (match k with | 0 => c0 ++ [addW (x) (flipW (sarW (y) (iw)) (signW y)), subW (y) (flipW (sarW (x) (iw)) (signW y)), ca] | 1 => c0 ++ [addW (x) (flipW (sarW (y) (iw)) (signW y)), subW (y) (flipW (sarW (x) (iw)) (signW y)), ca] | 2 => c0 ++ [addW (x) (flipW (sarW (y) (iw)) (signW y)), subW (y) (flipW (sarW (x) (iw)) (signW y)), ca] | 3 => c0 ++ [addW (x) (flipW (sarW (y) (iw)) (signW y)), subW (y) (flipW (sarW (x) (iw)) (signW y)), ca] | 4 => c0 ++ [addW (x) (flipW (sarW (y) (iw)) (signW y)), subW (y) (flipW (sarW (x) (iw)) (signW y)), ca] | _ => c0 ++ [addW (x) (flipW (sarW (y) (iw)) (signW y)), subW (y) (flipW (sarW (x) (iw)) (signW y)), addW (ca) (flipW (turnsL.getD i (kW 0)) (signW y))])) [] CL nph wu := hp.S
      have c3 := hS.at_ 3 ⟨g2, 0, none⟩ (.int .i64 j2) (by rw [hCL]; rfl)
      have hk := hK.pure (.int .i64 j2) hp.S
      clear hp hK hS
      go_simp
      exact hk
    · intro a wu γ nph K hp hK
      obtain ⟨e1a, e1b⟩ := hp.old_ 1 (.pointer (some ⟨gw, 0, none⟩))
      have hS : Sp wz4 b (fun k c t => t = ts ∧ c = (match k with | 0 => c0 ++ [addW (x) (flipW (sarW (y) (iw)) (signW y)), subW (y) (flipW (sarW (x) (iw)) (signW y)), ca] | 1 => c0 ++ [addW (x) (flipW (sarW (y) (iw)) (signW y)), subW (y) (flipW (sarW (x) (iw)) (signW y)), ca] | 2 => c0 ++ [addW (x) (flipW (sarW (y) (iw)) (signW y)), subW (y) (flipW (sarW (x) (iw)) (signW y)), ca] | 3 => c0 ++ [addW (x) (flipW (sarW (y) (iw)) (signW y)), subW (y) (flipW (sarW (x) (iw)) (signW y)), ca] | 4 => c0 ++ [addW (x) (flipW (sarW (y) (iw)) (signW y)), subW (y) (flipW (sarW (x) (iw)) (signW y)), ca] | _ => c0 ++ [addW (x) (flipW (sarW (y) (iw)) (signW y)), subW (y) (flipW (sarW (x) (iw)) (signW y)), addW (ca) (flipW (turnsL.getD i (kW 0)) (signW y))])) [] CL nph wu := hp.S
      have c0 := hS.at_ 0 ⟨gw, 0, none⟩ (.iface 152 (.pointer (some ⟨b, 0, none⟩))) (by rw [hCL]; rfl)
      have hk := hK.pure (.agg #[.iface 152 (.pointer (some ⟨b, 0, none⟩))]) hp.S
      clear hp hK hS
      go_simp
      exact hk
    · intro a wu γ nph K hp hK
      obtain ⟨e1a, e1b⟩ := hp.old_ 1 (.pointer (some ⟨gw, 0, none⟩))
      have hk := hK.pure (.pointer (some ⟨gw, 0, none⟩)) hp.S
      clear hp hK
      go_simp
      exact hk
    · intro a wu γ nph K hp hK
      obtain ⟨e57a, e57b⟩ := hp.dep_ 57 4 (.pointer (some ⟨gw, 0, none⟩))
      have hS : Sp wz4 b (fun k c t => t = ts ∧ c = (match k with | 0 => c0 ++ [addW (x) (flipW (sarW (y) (iw)) (signW y)), subW (y) (flipW (sarW (x) (iw)) (signW y)), ca] | 1 => c0 ++ [addW (x) (flipW (sarW (y) (iw)) (signW y)), subW (y) (flipW (sarW (x) (iw)) (signW y)), ca] | 2 => c0 ++ [addW (x) (flipW (sarW (y) (iw)) (signW y)), subW (y) (flipW (sarW (x) (iw)) (signW y)), ca] | 3 => c0 ++ [addW (x) (flipW (sarW (y) (iw)) (signW y)), subW (y) (flipW (sarW (x) (iw)) (signW y)), ca] | 4 => c0 ++ [addW (x) (flipW (sarW (y) (iw)) (signW y)), subW (y) (flipW (sarW (x) (iw)) (signW y)), ca] | _ => c0 ++ [addW (x) (flipW (sarW (y) (iw)) (signW y)), subW (y) (flipW (sarW (x) (iw)) (signW y)), addW (ca) (flipW (turnsL.getD i (kW 0)) (signW y))])) [] CL nph wu := hp.S
      have c0 := hS.at_ 0 ⟨gw, 0, none⟩ (.iface 152 (.pointer (some ⟨b, 0, none⟩))) (by rw [hCL]; rfl)
      have hk := hK.pure (.iface 152 (.pointer (some ⟨b, 0, none⟩))) hp.S
      clear hp hK hS
      go_simp
      exact hk
    · intro a wu γ nph K hp hK
      obtain ⟨e4a, e4b⟩ := hp.old_ 4 (.pointer (some ⟨g2, 0, none⟩))
      have hS : Sp wz4 b (fun k c t => t = ts ∧ c = (match k with | 0 => c0 ++ [addW (x) (flipW (sarW (y) (iw)) (signW y)), subW (y) (flipW (sarW (x) (iw)) (signW y)), ca] | 1 => c0 ++ [addW (x) (flipW (sarW (y) (iw)) (signW y)), subW (y) (flipW (sarW (x) (iw)) (signW y)), ca] | 2 => c0 ++ [addW (x) (flipW (sarW (y) (iw)) (signW y)), subW (y) (flipW (sarW (x) (iw)) (signW y)), ca] | 3 => c0 ++ [addW (x) (flipW (sarW (y) (iw)) (signW y)), subW (y) (flipW (sarW (x) (iw)) (signW y)), ca] | 4 => c0 ++ [addW (x) (flipW (sarW (y) (iw)) (signW y)), subW (y) (flipW (sarW (x) (iw)) (signW y)), ca] | _ => c0 ++ [addW (x) (flipW (sarW (y) (iw)) (signW y)), subW (y) (flipW (sarW (x) (iw)) (signW y)), addW (ca) (flipW (turnsL.getD i (kW 0)) (signW y))])) [] CL nph wu := hp.S
      have c3 := hS.at_ 3 ⟨g2, 0, none⟩ (.int .i64 j2) (by rw [hCL]; rfl)
      have hk := hK.pure (.int .i64 j2) hp.S
      clear hp hK hS
      go_simp
      exact hk
    · intro a wu γ nph K hp hK
      obtain ⟨e58a, e58b⟩ := hp.dep_ 58 5 (.iface 152 (.pointer (some ⟨b, 0, none⟩)))
      obtain ⟨e59a, e59b⟩ := hp.dep_ 59 6 (.int .i64 j2)
      have hS : Sp wz4 b (fun k c t => t = ts ∧ c = (match k with | 0 => c0 ++ [addW (x) (flipW (sarW (y) (iw)) (signW y)), subW (y) (flipW (sarW (x) (iw)) (signW y)), ca] | 1 => c0 ++ [addW (x) (flipW (sarW (y) (iw)) (signW y)), subW (y) (flipW (sarW (x) (iw)) (signW y)), ca] | 2 => c0 ++ [addW (x) (flipW (sarW (y) (iw)) (signW y)), subW (y) (flipW (sarW (x) (iw)) (signW y)), ca] | 3 => c0 ++ [addW (x) (flipW (sarW (y) (iw)) (signW y)), subW (y) (flipW (sarW (x) (iw)) (signW y)), ca] | 4 => c0 ++ [addW (x) (flipW (sarW (y) (iw)) (signW y)), subW (y) (flipW (sarW (x) (iw)) (signW y)), ca] | _ => c0 ++ [addW (x) (flipW (sarW (y) (iw)) (signW y)), subW (y) (flipW (sarW (x) (iw)) (signW y)), addW (ca) (flipW (turnsL.getD i (kW 0)) (signW y))])) [] CL nph wu := hp.S
      have hn : nph = 0 := hp.eff 0 (by kernel_rfl)
      have hk := hK.eff (.int .i32 (ca).v)
      clear hp hK
      subst hn
      go_simp
      refine (getm_calls b j2 (ca) _ _ _ (by rw [hj2.out]; exact idx2 _ _ _ _) hS.pl (by simp; omega)).mono ?_
      rintro e w7 ⟨rfl, hcX⟩
      exact hk _ (hS.skip hcX (fun c t h => h)) (Reg.keep_callp _ rfl hS hcX)
    · intro a wu γ nph K hp hK
      obtain ⟨e1a, e1b⟩ := hp.old_ 1 (.pointer (some ⟨gw, 0, none⟩))
      have hS : Sp wz4 b (fun k c t => t = ts ∧ c = (match k with | 0 => c0 ++ [addW (x) (flipW (sarW (y) (iw)) (signW y)), subW (y) (flipW (sarW (x) (iw)) (signW y)), ca] | 1 => c0 ++ [addW (x) (flipW (sarW (y) (iw)) (signW y)), subW (y) (flipW (sarW (x) (iw)) (signW y)), ca] | 2 => c0 ++ [addW (x) (flipW (sarW (y) (iw)) (signW y)), subW (y) (flipW (sarW (x) (iw)) (signW y)), ca] | 3 => c0 ++ [addW (x) (flipW (sarW (y) (iw)) (signW y)), subW (y) (flipW (sarW (x) (iw)) (signW y)), ca] | 4 => c0 ++ [addW (x) (flipW (sarW (y) (iw)) (signW y)), subW (y) (flipW (sarW (x) (iw)) (signW y)), ca] | _ => c0 ++ [addW (x) (flipW (sarW (y) (iw)) (signW y)), subW (y) (flipW (sarW (x) (iw)) (signW y)), addW (ca) (flipW (turnsL.getD i (kW 0)) (signW y))])) [] CL nph wu := hp.S
      have c0 := hS.at_ 0 ⟨gw, 0, none⟩ (.iface 152 (.pointer (some ⟨b, 0, none⟩))) (by rw [hCL]; rfl)
      have hk := hK.pure (.agg #[.iface 152 (.pointer (some ⟨b, 0, none⟩))]) hp.S
      clear hp hK hS
      go_simp
      exact hk
    · intro a wu γ nph K hp hK
      obtain ⟨e1a, e1b⟩ := hp.old_ 1 (.pointer (some ⟨gw, 0, none⟩))
      have hk := hK.pure (.pointer (some ⟨gw, 0, none⟩)) hp.S
      clear hp hK
      go_simp
      exact hk
    · intro a wu γ nph K hp hK
      obtain ⟨e62a, e62b⟩ := hp.dep_ 62 9 (.pointer (some ⟨gw, 0, none⟩))
      have hS : Sp wz4 b (fun k c t => t = ts ∧ c = (match k with | 0 => c0 ++ [addW (x) (flipW (sarW (y) (iw)) (signW y)), subW (y) (flipW (sarW (x) (iw)) (signW y)), ca] | 1 => c0 ++ [addW (x) (flipW (sarW (y) (iw)) (signW y)), subW (y) (flipW (sarW (x) (iw)) (signW y)), ca] | 2 => c0 ++ [addW (x) (flipW (sarW (y) (iw)) (signW y)), subW (y) (flipW (sarW (x) (iw)) (signW y)), ca] | 3 => c0 ++ [addW (x) (flipW (sarW (y) (iw)) (signW y)), subW (y) (flipW (sarW (x) (iw)) (signW y)), ca] | 4 => c0 ++ [addW (x) (flipW (sarW (y) (iw)) (signW y)), subW (y) (flipW (sarW (x) (iw)) (signW y)), ca] | _ => c0 ++ [addW (x) (flipW (sarW (y) (iw)) (signW y)), subW (y) (flipW (sarW (x) (iw)) (signW y)), addW (ca) (flipW (turnsL.getD i (kW 0)) (signW y))])) [] CL nph wu := hp.S
      have c0 := hS.at_ 0 ⟨gw, 0, none⟩ (.iface 152 (.pointer (some ⟨b, 0, none⟩))) (by rw [hCL]; rfl)
      have hk := hK.pure (.iface 152 (.pointer (some ⟨b, 0, none⟩))) hp.S
      clear hp hK hS
      go_simp
      exact hk
    · intro a wu γ nph K hp hK
      obtain ⟨e5a, e5b⟩ := hp.old_ 5 (.pointer (some ⟨g3, 0, none⟩))
      have hS : Sp wz4 b (fun k c t => t = ts ∧ c = (match k with | 0 => c0 ++ [addW (x) (flipW (sarW (y) (iw)) (signW y)), subW (y) (flipW (sarW (x) (iw)) (signW y)), ca] | 1 => c0 ++ [addW (x) (flipW (sarW (y) (iw)) (signW y)), subW (y) (flipW (sarW (x) (iw)) (signW y)), ca] | 2 => c0 ++ [addW (x) (flipW (sarW (y) (iw)) (signW y)), subW (y) (flipW (sarW (x) (iw)) (signW y)), ca] | 3 => c0 ++ [addW (x) (flipW (sarW (y) (iw)) (signW y)), subW (y) (flipW (sarW (x) (iw)) (signW y)), ca] | 4 => c0 ++ [addW (x) (flipW (sarW (y) (iw)) (signW y)), subW (y) (flipW (sarW (x) (iw)) (signW y)), ca] | _ => c0 ++ [addW (x) (flipW (sarW (y) (iw)) (signW y)), subW (y) (flipW (sarW (x) (iw)) (signW y)), addW (ca) (flipW (turnsL.getD i (kW 0)) (signW y))])) [] CL nph wu := hp.S
      have c4 := hS.at_ 4 ⟨g3, 0, none⟩ (.int .i64 tb) (by rw [hCL]; rfl)
      have hk := hK.pure (.int .i64 tb) hp.S
      clear hp hK hS
      go_simp
      exact hk
    · intro a wu γ nph K hp hK
      obtain ⟨e0a, e0b⟩ := hp.old_ 0 (.int .i32 (iw).v)
      have hk := hK.pure (.int .i32 (iw).v) hp.S
      clear hp hK
      go_simp
      exact hk
    · intro a wu γ nph K hp hK
      obtain ⟨e63a, e63b⟩ := hp.dep_ 63 10 (.iface 152 (.pointer (some ⟨b, 0, none⟩)))
      obtain ⟨e64a, e64b⟩ := hp.dep_ 64 11 (.int .i64 tb)
      obtain ⟨e65a, e65b⟩ := hp.dep_ 65 12 (.int .i32 (iw).v)
      have hS : Sp wz4 b (fun k c t => t = ts ∧ c = (match k with | 0 => c0 ++ [addW (x) (flipW (sarW (y) (iw)) (signW y)), subW (y) (flipW (sarW (x) (iw)) (signW y)), ca] | 1 => c0 ++ [addW (x) (flipW (sarW (y) (iw)) (signW y)), subW (y) (flipW (sarW (x) (iw)) (signW y)), ca] | 2 => c0 ++ [addW (x) (flipW (sarW (y) (iw)) (signW y)), subW (y) (flipW (sarW (x) (iw)) (signW y)), ca] | 3 => c0 ++ [addW (x) (flipW (sarW (y) (iw)) (signW y)), subW (y) (flipW (sarW (x) (iw)) (signW y)), ca] | 4 => c0 ++ [addW (x) (flipW (sarW (y) (iw)) (signW y)), subW (y) (flipW (sarW (x) (iw)) (signW y)), ca] | _ => c0 ++ [addW (x) (flipW (sarW (y) (iw)) (signW y)), subW (y) (flipW (sarW (x) (iw)) (signW y)), addW (ca) (flipW (turnsL.getD i (kW 0)) (signW y))])) [] CL nph wu := hp.S
      have hn : nph = 1 := hp.eff 1 (by kernel_rfl)
      have hk := hK.eff (.int .i32 (turnsL.getD i (kW 0)).v)
      clear hp hK
      subst hn
      go_simp
      refine (atm_calls b tb i 28 gt iw (turnsL.getD i (kW 0)) turnsL 21 ts _ _ hS.pl (fun c t h => h.1) htk.out (htb.chg hS.chg (by simpa using hft)) turnsL_length.symm hiw.out hix.out hts (by decide)).mono ?_
      rintro e w7 ⟨rfl, hcX⟩
      exact hk _ (hS.skip hcX (fun c t h => h)) (Reg.keep_callp _ rfl hS hcX)
    · intro a wu γ nph K hp hK
      obtain ⟨e9a, e9b⟩ := hp.old_ 9 (.int .i32 (signW y).v)
      have hk := hK.pure (.int .i32 (signW y).v) hp.S
      clear hp hK
      go_simp
      exact hk
    · intro a wu γ nph K hp hK
      obtain ⟨e61a, e61b⟩ := hp.dep_ 61 8 (.agg #[.iface 152 (.pointer (some ⟨b, 0, none⟩))])
      obtain ⟨e66a, e66b⟩ := hp.dep_ 66 13 (.int .i32 (turnsL.getD i (kW 0)).v)
      obtain ⟨e67a, e67b⟩ := hp.dep_ 67 14 (.int .i32 (signW y).v)
      have hS : Sp wz4 b (fun k c t => t = ts ∧ c = (match k with | 0 => c0 ++ [addW (x) (flipW (sarW (y) (iw)) (signW y)), subW (y) (flipW (sarW (x) (iw)) (signW y)), ca] | 1 => c0 ++ [addW (x) (flipW (sarW (y) (iw)) (signW y)), subW (y) (flipW (sarW (x) (iw)) (signW y)), ca] | 2 => c0 ++ [addW (x) (flipW (sarW (y) (iw)) (signW y)), subW (y) (flipW (sarW (x) (iw)) (signW y)), ca] | 3 => c0 ++ [addW (x) (flipW (sarW (y) (iw)) (signW y)), subW (y) (flipW (sarW (x) (iw)) (signW y)), ca] | 4 => c0 ++ [addW (x) (flipW (sarW (y) (iw)) (signW y)), subW (y) (flipW (sarW (x) (iw)) (signW y)), ca] | _ => c0 ++ [addW (x) (flipW (sarW (y) (iw)) (signW y)), subW (y) (flipW (sarW (x) (iw)) (signW y)), addW (ca) (flipW (turnsL.getD i (kW 0)) (signW y))])) [] CL nph wu := hp.S
      have hn : nph = 2 := hp.eff 2 (by kernel_rfl)
      have hk := hK.eff (.int .i32 (flipW (turnsL.getD i (kW 0)) (signW y)).v)
      clear hp hK
      subst hn
      go_simp
      refine (w_flip _ _ _ _).mono ?_
      rintro e w7 ⟨rfl, hcX⟩
      exact hk _ (hS.skip hcX (fun c t h => h)) (Reg.keep_callp _ rfl hS hcX)
    · intro a wu γ nph K hp hK
      obtain ⟨e56a, e56b⟩ := hp.dep_ 56 3 (.agg #[.iface 152 (.pointer (some ⟨b, 0, none⟩))])
      obtain ⟨e60a, e60b⟩ := hp.dep_ 60 7 (.int .i32 (ca).v)
      obtain ⟨e68a, e68b⟩ := hp.dep_ 68 15 (.int .i32 (flipW (turnsL.getD i (kW 0)) (signW y)).v)
      have hS : Sp wz4 b (fun k c t => t = ts ∧ c = (match k with | 0 => c0 ++ [addW (x) (flipW (sarW (y) (iw)) (signW y)), subW (y) (flipW (sarW (x) (iw)) (signW y)), ca] | 1 => c0 ++ [addW (x) (flipW (sarW (y) (iw)) (signW y)), subW (y) (flipW (sarW (x) (iw)) (signW y)), ca] | 2 => c0 ++ [addW (x) (flipW (sarW (y) (iw)) (signW y)), subW (y) (flipW (sarW (x) (iw)) (signW y)), ca] | 3 => c0 ++ [addW (x) (flipW (sarW (y) (iw)) (signW y)), subW (y) (flipW (sarW (x) (iw)) (signW y)), ca] | 4 => c0 ++ [addW (x) (flipW (sarW (y) (iw)) (signW y)), subW (y) (flipW (sarW (x) (iw)) (signW y)), ca] | _ => c0 ++ [addW (x) (flipW (sarW (y) (iw)) (signW y)), subW (y) (flipW (sarW (x) (iw)) (signW y)), addW (ca) (flipW (turnsL.getD i (kW 0)) (signW y))])) [] CL nph wu := hp.S
      have hn : nph = 3 := hp.eff 3 (by kernel_rfl)
      have hk := hK.eff (.int .i32 (addW (ca) (flipW (turnsL.getD i (kW 0)) (signW y))).v)
      clear hp hK
      subst hn
      go_simp
      refine (w_add _ _ _ _).mono ?_
      rintro e w7 ⟨rfl, hcX⟩
      exact hk _ (hS.skip hcX (fun c t h => h)) (Reg.keep_callp _ rfl hS hcX)
    · intro a wu γ nph K hp hK
      obtain ⟨e54a, e54b⟩ := hp.dep_ 54 1 (.iface 152 (.pointer (some ⟨b, 0, none⟩)))
      have hk := hK.pure (.iface 152 (.pointer (some ⟨b, 0, none⟩))) hp.S
      clear hp hK
      go_simp
      exact hk
    · intro a wu γ nph K hp hK
      obtain ⟨e54a, e54b⟩ := hp.dep_ 54 1 (.iface 152 (.pointer (some ⟨b, 0, none⟩)))
      have hk := hK.pure (.iface 152 (.pointer (some ⟨b, 0, none⟩))) hp.S
      clear hp hK
      go_simp
      exact hk
    · intro a wu γ nph K hp hK
      obtain ⟨e71a, e71b⟩ := hp.dep_ 71 18 (.iface 152 (.pointer (some ⟨b, 0, none⟩)))
      obtain ⟨e55a, e55b⟩ := hp.dep_ 55 2 (.int .i64 j2)
      obtain ⟨e69a, e69b⟩ := hp.dep_ 69 16 (.int .i32 (addW (ca) (flipW (turnsL.getD i (kW 0)) (signW y))).v)
      have hS : Sp wz4 b (fun k c t => t = ts ∧ c = (match k with | 0 => c0 ++ [addW (x) (flipW (sarW (y) (iw)) (signW y)), subW (y) (flipW (sarW (x) (iw)) (signW y)), ca] | 1 => c0 ++ [addW (x) (flipW (sarW (y) (iw)) (signW y)), subW (y) (flipW (sarW (x) (iw)) (signW y)), ca] | 2 => c0 ++ [addW (x) (flipW (sarW (y) (iw)) (signW y)), subW (y) (flipW (sarW (x) (iw)) (signW y)), ca] | 3 => c0 ++ [addW (x) (flipW (sarW (y) (iw)) (signW y)), subW (y) (flipW (sarW (x) (iw)) (signW y)), ca] | 4 => c0 ++ [addW (x) (flipW (sarW (y) (iw)) (signW y)), subW (y) (flipW (sarW (x) (iw)) (signW y)), ca] | _ => c0 ++ [addW (x) (flipW (sarW (y) (iw)) (signW y)), subW (y) (flipW (sarW (x) (iw)) (signW y)), addW (ca) (flipW (turnsL.getD i (kW 0)) (signW y))])) [] CL nph wu := hp.S
      have hn : nph = 4 := hp.eff 4 (by kernel_rfl)
      have hk := hK.eff (.tuple #[])
      clear hp hK
      subst hn
      go_simp
      refine (setm_calls b j2 (addW (ca) (flipW (turnsL.getD i (kW 0)) (signW y))) (c0 ++ [addW (x) (flipW (sarW (y) (iw)) (signW y)), subW (y) (flipW (sarW (x) (iw)) (signW y)), ca]) (c0 ++ [addW (x) (flipW (sarW (y) (iw)) (signW y)), subW (y) (flipW (sarW (x) (iw)) (signW y)), addW (ca) (flipW (turnsL.getD i (kW 0)) (signW y))]) ts _ (by rw [hj2.out]; simp) (by rw [hj2.out]; exact sidx2 _ _ _ _ _) hS.pl (by simp; omega)).mono ?_
      rintro e w7 ⟨rfl, hpR, htR⟩
      exact hk _ (hS.eff hap hpR htR) (Reg.keep_eff _ rfl htR)
   · intro a wu γ nph K hp hK
     obtain ⟨e1a, e1b⟩ := hp.old_ 1 (.pointer (some ⟨gw, 0, none⟩))
     have hk := hK.pure (.pointer (some ⟨gw, 0, none⟩)) hp.S
     clear hp hK
     go_simp
     exact hk
   · intro a wu γ nph K hp hK
     obtain ⟨e37a, e37b⟩ := hp.dep_ 37 0 (.pointer (some ⟨gw, 0, none⟩))
     have hS : Sp wz3 b (fun k c t => t = ts ∧ c = (match k with | 0 => c0 ++ [addW (x) (flipW (sarW (y) (iw)) (signW y)), y, ca] | _ => c0 ++ [addW (x) (flipW (sarW (y) (iw)) (signW y)), subW (y) (flipW (sarW (x) (iw)) (signW y)), ca])) [] CL nph wu := hp.S
     have c0 := hS.at_ 0 ⟨gw, 0, none⟩ (.iface 152 (.pointer (some ⟨b, 0, none⟩))) (by rw [hCL]; rfl)
     have hk := hK.pure (.iface 152 (.pointer (some ⟨b, 0, none⟩))) hp.S
     clear hp hK hS
     go_simp
     exact hk
   · intro a wu γ nph K hp hK
     obtain ⟨e3a, e3b⟩ := hp.old_ 3 (.pointer (some ⟨g1, 0, none⟩))
     have hS : Sp wz3 b (fun k c t => t = ts ∧ c = (match k with | 0 => c0 ++ [addW (x) (flipW (sarW (y) (iw)) (signW y)), y, ca] | _ => c0 ++ [addW (x) (flipW (sarW (y) (iw)) (signW y)), subW (y) (flipW (sarW (x) (iw)) (signW y)), ca])) [] CL nph wu := hp.S
     have c2 := hS.at_ 2 ⟨g1, 0, none⟩ (.int .i64 j1) (by rw [hCL]; rfl)
     have hk := hK.pure (.int .i64 j1) hp.S
     clear hp hK hS
     go_simp
     exact hk
   · intro a wu γ nph K hp hK
     obtain ⟨e1a, e1b⟩ := hp.old_ 1 (.pointer (some ⟨gw, 0, none⟩))
     have hS : Sp wz3 b (fun k c t => t = ts ∧ c = (match k with | 0 => c0 ++ [addW (x) (flipW (sarW (y) (iw)) (signW y)), y, ca] | _ => c0 ++ [addW (x) (flipW (sarW (y) (iw)) (signW y)), subW (y) (flipW (sarW (x) (iw)) (signW y)), ca])) [] CL nph wu := hp.S
     have c0 := hS.at_ 0 ⟨gw, 0, none⟩ (.iface 152 (.pointer (some ⟨b, 0, none⟩))) (by rw [hCL]; rfl)
     have hk := hK.pure (.agg #[.iface 152 (.pointer (some ⟨b, 0, none⟩))]) hp.S
     clear hp hK hS
     go_simp
     exact hk
   · intro a wu γ nph K hp hK
     obtain ⟨e8a, e8b⟩ := hp.old_ 8 (.int .i32 (y).v)
     have hk := hK.pure (.int .i32 (y).v) hp.S
     clear hp hK
     go_simp
     exact hk
   · intro a wu γ nph K hp hK
     obtain ⟨e1a, e1b⟩ := hp.old_ 1 (.pointer (some ⟨gw, 0, none⟩))
     have hS : Sp wz3 b (fun k c t => t = ts ∧ c = (match k with | 0 => c0 ++ [addW (x) (flipW (sarW (y) (iw)) (signW y)), y, ca] | _ => c0 ++ [addW (x) (flipW (sarW (y) (iw)) (signW y)), subW (y) (flipW (sarW (x) (iw)) (signW y)), ca])) [] CL nph wu := hp.S
     have c0 := hS.at_ 0 ⟨gw, 0, none⟩ (.iface 152 (.pointer (some ⟨b, 0, none⟩))) (by rw [hCL]; rfl)
     have hk := hK.pure (.agg #[.iface 152 (.pointer (some ⟨b, 0, none⟩))]) hp.S
     clear hp hK hS
     go_simp
     exact hk
   · intro a wu γ nph K hp hK
     obtain ⟨e1a, e1b⟩ := hp.old_ 1 (.pointer (some ⟨gw, 0, none⟩))
     have hS : Sp wz3 b (fun k c t => t = ts ∧ c = (match k with | 0 => c0 ++ [addW (x) (flipW (sarW (y) (iw)) (signW y)), y, ca] | _ => c0 ++ [addW (x) (flipW (sarW (y) (iw)) (signW y)), subW (y) (flipW (sarW (x) (iw)) (signW y)), ca])) [] CL nph wu := hp.S
     have c0 := hS.at_ 0 ⟨gw, 0, none⟩ (.iface 152 (.pointer (some ⟨b, 0, none⟩))) (by rw [hCL]; rfl)
     have hk := hK.pure (.agg #[.iface 152 (.pointer (some ⟨b, 0, none⟩))]) hp.S
     clear hp hK hS
     go_simp
     exact hk
   · intro a wu γ nph K hp hK
     obtain ⟨e7a, e7b⟩ := hp.old_ 7 (.int .i32 (x).v)
     have hk := hK.pure (.int .i32 (x).v) hp.S
     clear hp hK
     go_simp
     exact hk
   · intro a wu γ nph K hp hK
     obtain ⟨e0a, e0b⟩ := hp.old_ 0 (.int .i32 (iw).v)
     have hk := hK.pure (.int .i32 (iw).v) hp.S
     clear hp hK
     go_simp
     exact hk
   · intro a wu γ nph K hp hK
     obtain ⟨e43a, e43b⟩ := hp.dep_ 43 6 (.agg #[.iface 152 (.pointer (some ⟨b, 0, none⟩))])
     obtain ⟨e44a, e44b⟩ := hp.dep_ 44 7 (.int .i32 (x).v)
     obtain ⟨e45a, e45b⟩ := hp.dep_ 45 8 (.int .i32 (iw).v)
     have hS : Sp wz3 b (fun k c t => t = ts ∧ c = (match k with | 0 => c0 ++ [addW (x) (flipW (sarW (y) (iw)) (signW y)), y, ca] | _ => c0 ++ [addW (x) (flipW (sarW (y) (iw)) (signW y)), subW (y) (flipW (sarW (x) (iw)) (signW y)), ca])) [] CL nph wu := hp.S
     have hk := hK.call (.int .i32 (sarW (x) (iw)).v)
     clear hp hK
     go_simp
     refine (w_sar _ _ _ _).mono ?_
     rintro e w7 ⟨rfl, hcX⟩
     exact hk _ (hS.call hcX) (Reg.keep_callp _ rfl hS hcX)
   · intro a wu γ nph K hp hK
     obtain ⟨e9a, e9b⟩ := hp.old_ 9 (.int .i32 (signW y).v)
     have hk := hK.pure (.int .i32 (signW y).v) hp.S
     clear hp hK
     go_simp
     exact hk
   · intro a wu γ nph K hp hK
     obtain ⟨e42a, e42b⟩ := hp.dep_ 42 5 (.agg #[.iface 152 (.pointer (some ⟨b, 0, none⟩))])
     obtain ⟨e46a, e46b⟩ := hp.dep_ 46 9 (.int .i32 (sarW (x) (iw)).v)
     obtain ⟨e47a, e47b⟩ := hp.dep_ 47 10 (.int .i32 (signW y).v)
     have hS : Sp wz3 b (fun k c t => t = ts ∧ c = (match k with | 0 => c0 ++ [addW (x) (flipW (sarW (y) (iw)) (signW y)), y, ca] | _ => c0 ++ [addW (x) (flipW (sarW (y) (iw)) (signW y)), subW (y) (flipW (sarW (x) (iw)) (signW y)), ca])) [] CL nph wu := hp.S
     have hk := hK.call (.int .i32 (flipW (sarW (x) (iw)) (signW y)).v)
     clear hp hK
     go_simp
     refine (w_flip _ _ _ _).mono ?_
     rintro e w7 ⟨rfl, hcX⟩
     exact hk _ (hS.call hcX) (Reg.keep_callp _ rfl hS hcX)
   · intro a wu γ nph K hp hK
     obtain ⟨e40a, e40b⟩ := hp.dep_ 40 3 (.agg #[.iface 152 (.pointer (some ⟨b, 0, none⟩))])
     obtain ⟨e41a, e41b⟩ := hp.dep_ 41 4 (.int .i32 (y).v)
     obtain ⟨e48a, e48b⟩ := hp.dep_ 48 11 (.int .i32 (flipW (sarW (x) (iw)) (signW y)).v)
     have hS : Sp wz3 b (fun k c t => t = ts ∧ c = (match k with | 0 => c0 ++ [addW (x) (flipW (sarW (y) (iw)) (signW y)), y, ca] | _ => c0 ++ [addW (x) (flipW (sarW (y) (iw)) (signW y)), subW (y) (flipW (sarW (x) (iw)) (signW y)), ca])) [] CL nph wu := hp.S
     have hk := hK.call (.int .i32 (subW (y) (flipW (sarW (x) (iw)) (signW y))).v)
     clear hp hK
     go_simp
     refine (w_sub _ _ _ _).mono ?_
     rintro e w7 ⟨rfl, hcX⟩
     exact hk _ (hS.call hcX) (Reg.keep_callp _ rfl hS hcX)
   · intro a wu γ nph K hp hK
     obtain ⟨e38a, e38b⟩ := hp.dep_ 38 1 (.iface 152 (.pointer (some ⟨b, 0, none⟩)))
     have hk := hK.pure (.iface 152 (.pointer (some ⟨b, 0, none⟩))) hp.S
     clear hp hK
     go_simp
     exact hk
   · intro a wu γ nph K hp hK
     obtain ⟨e38a, e38b⟩ := hp.dep_ 38 1 (.iface 152 (.pointer (some ⟨b, 0, none⟩)))
     have hk := hK.pure (.iface 152 (.pointer (some ⟨b, 0, none⟩))) hp.S
     clear hp hK
     go_simp
     exact hk
   · intro a wu γ nph K hp hK
     obtain ⟨e51a, e51b⟩ := hp.dep_ 51 14 (.iface 152 (.pointer (some ⟨b, 0, none⟩)))
     obtain ⟨e39a, e39b⟩ := hp.dep_ 39 2 (.int .i64 j1)
     obtain ⟨e49a, e49b⟩ := hp.dep_ 49 12 (.int .i32 (subW (y) (flipW (sarW (x) (iw)) (signW y))).v)
     have hS : Sp wz3 b (fun k c t => t = ts ∧ c = (match k with | 0 => c0 ++ [addW (x) (flipW (sarW (y) (iw)) (signW y)), y, ca] | _ => c0 ++ [addW (x) (flipW (sarW (y) (iw)) (signW y)), subW (y) (flipW (sarW (x) (iw)) (signW y)), ca])) [] CL nph wu := hp.S
     have hn : nph = 0 := hp.eff 0 (by kernel_rfl)
     have hk := hK.eff (.tuple #[])
     clear hp hK
     subst hn
     go_simp
     refine (setm_calls b j1 (subW (y) (flipW (sarW (x) (iw)) (signW y))) (c0 ++ [addW (x) (flipW (sarW (y) (iw)) (signW y)), y, ca]) (c0 ++ [addW (x) (flipW (sarW (y) (iw)) (signW y)), subW (y) (flipW (sarW (x) (iw)) (signW y)), ca]) ts _ (by rw [hj1.out]; simp) (by rw [hj1.out]; exact sidx1 _ _ _ _ _) hS.pl (by simp; omega)).mono ?_
     rintro e w7 ⟨rfl, hpR, htR⟩
     exact hk _ (hS.eff hap hpR htR) (Reg.keep_eff _ rfl htR)
  · intro a wu γ nph K hp hK
    obtain ⟨e1a, e1b⟩ := hp.old_ 1 (.pointer (some ⟨gw, 0, none⟩))
    have hk := hK.pure (.pointer (some ⟨gw, 0, none⟩)) hp.S
    clear hp hK
    go_simp
    exact hk
  · intro a wu γ nph K hp hK
    obtain ⟨e21a, e21b⟩ := hp.dep_ 21 0 (.pointer (some ⟨gw, 0, none⟩))
    have hS : Sp wz2 b (fun k c t => t = ts ∧ c = (match k with | 0 => c0 ++ [x, y, ca] | _ => c0 ++ [addW (x) (flipW (sarW (y) (iw)) (signW y)), y, ca])) [] CL nph wu := hp.S
    have c0 := hS.at_ 0 ⟨gw, 0, none⟩ (.iface 152 (.pointer (some ⟨b, 0, none⟩))) (by rw [hCL]; rfl)
    have hk := hK.pure (.iface 152 (.pointer (some ⟨b, 0, none⟩))) hp.S
    clear hp hK hS
    go_simp
    exact hk
  · intro a wu γ nph K hp hK
    obtain ⟨e2a, e2b⟩ := hp.old_ 2 (.pointer (some ⟨g0, 0, none⟩))
    have hS : Sp wz2 b (fun k c t => t = ts ∧ c = (match k with | 0 => c0 ++ [x, y, ca] | _ => c0 ++ [addW (x) (flipW (sarW (y) (iw)) (signW y)), y, ca])) [] CL nph wu := hp.S
    have c1 := hS.at_ 1 ⟨g0, 0, none⟩ (.int .i64 j0) (by rw [hCL]; rfl)
    have hk := hK.pure (.int .i64 j0) hp.S
    clear hp hK hS
    go_simp
    exact hk
  · intro a wu γ nph K hp hK
    obtain ⟨e1a, e1b⟩ := hp.old_ 1 (.pointer (some ⟨gw, 0, none⟩))
    have hS : Sp wz2 b (fun k c t => t = ts ∧ c = (match k with | 0 => c0 ++ [x, y, ca] | _ => c0 ++ [addW (x) (flipW (sarW (y) (iw)) (signW y)), y, ca])) [] CL nph wu := hp.S
    have c0 := hS.at_ 0 ⟨gw, 0, none⟩ (.iface 152 (.pointer (some ⟨b, 0, none⟩))) (by rw [hCL]; rfl)
    have hk := hK.pure (.agg #[.iface 152 (.pointer (some ⟨b, 0, none⟩))]) hp.S
    clear hp hK hS
    go_simp
    exact hk
  · intro a wu γ nph K hp hK
    obtain ⟨e7a, e7b⟩ := hp.old_ 7 (.int .i32 (x).v)
    have hk := hK.pure (.int .i32 (x).v) hp.S
    clear hp hK
    go_simp
    exact hk
  · intro a wu γ nph K hp hK
    obtain ⟨e1a, e1b⟩ := hp.old_ 1 (.pointer (some ⟨gw, 0, none⟩))
    have hS : Sp wz2 b (fun k c t => t = ts ∧ c = (match k with | 0 => c0 ++ [x, y, ca] | _ => c0 ++ [addW (x) (flipW (sarW (y) (iw)) (signW y)), y, ca])) [] CL nph wu := hp.S
    have c0 := hS.at_ 0 ⟨gw, 0, none⟩ (.iface 152 (.pointer (some ⟨b, 0, none⟩))) (by rw [hCL]; rfl)
    have hk := hK.pure (.agg #[.iface 152 (.pointer (some ⟨b, 0, none⟩))]) hp.S
    clear hp hK hS
    go_simp
    exact hk
  · intro a wu γ nph K hp hK
    obtain ⟨e1a, e1b⟩ := hp.old_ 1 (.pointer (some ⟨gw, 0, none⟩))
    have hS : Sp wz2 b (fun k c t => t = ts ∧ c = (match k with | 0 => c0 ++ [x, y, ca] | _ => c0 ++ [addW (x) (flipW (sarW (y) (iw)) (signW y)), y, ca])) [] CL nph wu := hp.S
    have c0 := hS.at_ 0 ⟨gw, 0, none⟩ (.iface 152 (.pointer (some ⟨b, 0, none⟩))) (by rw [hCL]; rfl)
    have hk := hK.pure (.agg #[.iface 152 (.pointer (some ⟨b, 0, none⟩))]) hp.S
    clear hp hK hS
    go_simp
    exact hk
  · intro a wu γ nph K hp hK
    obtain ⟨e8a, e8b⟩ := hp.old_ 8 (.int .i32 (y).v)
    have hk := hK.pure (.int .i32 (y).v) hp.S
    clear hp hK
    go_simp
    exact hk
  · intro a wu γ nph K hp hK
    obtain ⟨e0a, e0b⟩ := hp.old_ 0 (.int .i32 (iw).v)
    have hk := hK.pure (.int .i32 (iw).v) hp.S
    clear hp hK
    go_simp
    exact hk
  · intro a wu γ nph K hp hK
    obtain ⟨e27a, e27b⟩ := hp.dep_ 27 6 (.agg #[.iface 152 (.pointer (some ⟨b, 0, none⟩))])
    obtain ⟨e28a, e28b⟩ := hp.dep_ 28 7 (.int .i32 (y).v)
    obtain ⟨e29a, e29b⟩ := hp.dep_ 29 8 (.int .i32 (iw).v)
    have hS : Sp wz2 b (fun k c t => t = ts ∧ c = (match k with | 0 => c0 ++ [x, y, ca] | _ => c0 ++ [addW (x) (flipW (sarW (y) (iw)) (signW y)), y, ca])) [] CL nph wu := hp.S
    have hk := hK.call (.int .i32 (sarW (y) (iw)).v)
    clear hp hK
    go_simp
    refine (w_sar _ _ _ _).mono ?_
    rintro e w7 ⟨rfl, hcX⟩
    exact hk _ (hS.call hcX) (Reg.keep_callp _ rfl hS hcX)
  · intro a wu γ nph K hp hK
    obtain ⟨e9a, e9b⟩ := hp.old_ 9 (.int .i32 (signW y).v)
    have hk := hK.pure (.int .i32 (signW y).v) hp.S
    clear hp hK
    go_simp
    exact hk
  · intro a wu γ nph K hp hK
    obtain ⟨e26a, e26b⟩ := hp.dep_ 26 5 (.agg #[.iface 152 (.pointer (some ⟨b, 0, none⟩))])
    obtain ⟨e30a, e30b⟩ := hp.dep_ 30 9 (.int .i32 (sarW (y) (iw)).v)
    obtain ⟨e31a, e31b⟩ := hp.dep_ 31 10 (.int .i32 (signW y).v)
    have hS : Sp wz2 b (fun k c t => t = ts ∧ c = (match k with | 0 => c0 ++ [x, y, ca] | _ => c0 ++ [addW (x) (flipW (sarW (y) (iw)) (signW y)), y, ca])) [] CL nph wu := hp.S
    have hk := hK.call (.int .i32 (flipW (sarW (y) (iw)) (signW y)).v)
    clear hp hK
    go_simp
    refine (w_flip _ _ _ _).mono ?_
    rintro e w7 ⟨rfl, hcX⟩
    exact hk _ (hS.call hcX) (Reg.keep_callp _ rfl hS hcX)
  · intro a wu γ nph K hp hK
    obtain ⟨e24a, e24b⟩ := hp.dep_ 24 3 (.agg #[.iface 152 (.pointer (some ⟨b, 0, none⟩))])
    obtain ⟨e25a, e25b⟩ := hp.dep_ 25 4 (.int .i32 (x).v)
    obtain ⟨e32a, e32b⟩ := hp.dep_ 32 11 (.int .i32 (flipW (sarW (y) (iw)) (signW y)).v)
    have hS : Sp wz2 b (fun k c t => t = ts ∧ c = (match k with | 0 => c0 ++ [x, y, ca] | _ => c0 ++ [addW (x) (flipW (sarW (y) (iw)) (signW y)), y, ca])) [] CL nph wu := hp.S
    have hk := hK.call (.int .i32 (addW (x) (flipW (sarW (y) (iw)) (signW y))).v)
    clear hp hK
    go_simp
    refine (w_add _ _ _ _).mono ?_
    rintro e w7 ⟨rfl, hcX⟩
    exact hk _ (hS.call hcX) (Reg.keep_callp _ rfl hS hcX)
  · intro a wu γ nph K hp hK
    obtain ⟨e22a, e22b⟩ := hp.dep_ 22 1 (.iface 152 (.pointer (some ⟨b, 0, none⟩)))
    have hk := hK.pure (.iface 152 (.pointer (some ⟨b, 0, none⟩))) hp.S
    clear hp hK
    go_simp
    exact hk
  · intro a wu γ nph K hp hK
    obtain ⟨e22a, e22b⟩ := hp.dep_ 22 1 (.iface 152 (.pointer (some ⟨b, 0, none⟩)))
    have hk := hK.pure (.iface 152 (.pointer (some ⟨b, 0, none⟩))) hp.S
    clear hp hK
    go_simp
    exact hk
  · intro a wu γ nph K hp hK
    obtain ⟨e35a, e35b⟩ := hp.dep_ 35 14 (.iface 152 (.pointer (some ⟨b, 0, none⟩)))
    obtain ⟨e23a, e23b⟩ := hp.dep_ 23 2 (.int .i64 j0)
    obtain ⟨e33a, e33b⟩ := hp.dep_ 33 12 (.int .i32 (addW (x) (flipW (sarW (y) (iw)) (signW y))).v)
    have hS : Sp wz2 b (fun k c t => t = ts ∧ c = (match k with | 0 => c0 ++ [x, y, ca] | _ => c0 ++ [addW (x) (flipW (sarW (y) (iw)) (signW y)), y, ca])) [] CL nph wu := hp.S
    have hn : nph = 0 := hp.eff 0 (by kernel_rfl)
    have hk := hK.eff (.tuple #[])
    clear hp hK
    subst hn
    go_simp
    refine (setm_calls b j0 (addW (x) (flipW (sarW (y) (iw)) (signW y))) (c0 ++ [x, y, ca]) (c0 ++ [addW (x) (flipW (sarW (y) (iw)) (signW y)), y, ca]) ts _ (by rw [hj0.out]; simp) (by rw [hj0.out]; exact sidx0 _ _ _ _ _) hS.pl (by simp; omega)).mono ?_
    rintro e w7 ⟨rfl, hpR, htR⟩
    exact hk _ (hS.eff hap hpR htR) (Reg.keep_eff _ rfl htR)
 · intro a wu γ nph K hp hK
   obtain ⟨e1a, e1b⟩ := hp.old_ 1 (.pointer (some ⟨gw, 0, none⟩))
   have hk := hK.pure (.pointer (some ⟨gw, 0, none⟩)) hp.S
   clear hp hK
   go_simp
   exact hk
 · intro a wu γ nph K hp hK
   obtain ⟨e10a, e10b⟩ := hp.dep_ 10 0 (.pointer (some ⟨gw, 0, none⟩))
   have hS : Sp w b (fun _ => (fun c t => t = ts ∧ c = c0 ++ [x, y, ca])) [] CL nph wu := hp.S
   have c0 := hS.at_ 0 ⟨gw, 0, none⟩ (.iface 152 (.pointer (some ⟨b, 0, none⟩))) (by rw [hCL]; rfl)
   have hk := hK.pure (.iface 152 (.pointer (some ⟨b, 0, none⟩))) hp.S
   clear hp hK hS
   go_simp
   exact hk
 · intro a wu γ nph K hp hK
   obtain ⟨e2a, e2b⟩ := hp.old_ 2 (.pointer (some ⟨g0, 0, none⟩))
   have hS : Sp w b (fun _ => (fun c t => t = ts ∧ c = c0 ++ [x, y, ca])) [] CL nph wu := hp.S
   have c1 := hS.at_ 1 ⟨g0, 0, none⟩ (.int .i64 j0) (by rw [hCL]; rfl)
   have hk := hK.pure (.int .i64 j0) hp.S
   clear hp hK hS
   go_simp
   exact hk
 · intro a wu γ nph K hp hK
   obtain ⟨e11a, e11b⟩ := hp.dep_ 11 1 (.iface 152 (.pointer (some ⟨b, 0, none⟩)))
   obtain ⟨e12a, e12b⟩ := hp.dep_ 12 2 (.int .i64 j0)
   have hS : Sp w b (fun _ => (fun c t => t = ts ∧ c = c0 ++ [x, y, ca])) [] CL nph wu := hp.S
   have hk := hK.call (.int .i32 (x).v)
   clear hp hK
   go_simp
   refine (getm_calls b j0 (x) _ _ _ (by rw [hj0.out]; exact idx0 _ _ _ _) hS.pl (by simp; omega)).mono ?_
   rintro e w7 ⟨rfl, hcX⟩
   exact hk _ (hS.call hcX) (Reg.keep_callp _ rfl hS hcX)
 · intro a wu γ nph K hp hK
   obtain ⟨e1a, e1b⟩ := hp.old_ 1 (.pointer (some ⟨gw, 0, none⟩))
   have hk := hK.pure (.pointer (some ⟨gw, 0, none⟩)) hp.S
   clear hp hK
   go_simp
   exact hk
 · intro a wu γ nph K hp hK
   obtain ⟨e14a, e14b⟩ := hp.dep_ 14 4 (.pointer (some ⟨gw, 0, none⟩))
   have hS : Sp w b (fun _ => (fun c t => t = ts ∧ c = c0 ++ [x, y, ca])) [] CL nph wu := hp.S
   have c0 := hS.at_ 0 ⟨gw, 0, none⟩ (.iface 152 (.pointer (some ⟨b, 0, none⟩))) (by rw [hCL]; rfl)
   have hk := hK.pure (.iface 152 (.pointer (some ⟨b, 0, none⟩))) hp.S
   clear hp hK hS
   go_simp
   exact hk
 · intro a wu γ nph K hp hK
   obtain ⟨e3a, e3b⟩ := hp.old_ 3 (.pointer (some ⟨g1, 0, none⟩))
   have hS : Sp w b (fun _ => (fun c t => t = ts ∧ c = c0 ++ [x, y, ca])) [] CL nph wu := hp.S
   have c2 := hS.at_ 2 ⟨g1, 0, none⟩ (.int .i64 j1) (by rw [hCL]; rfl)
   have hk := hK.pure (.int .i64 j1) hp.S
   clear hp hK hS
   go_simp
   exact hk
 · intro a wu γ nph K hp hK
   obtain ⟨e15a, e15b⟩ := hp.dep_ 15 5 (.iface 152 (.pointer (some ⟨b, 0, none⟩)))
   obtain ⟨e16a, e16b⟩ := hp.dep_ 16 6 (.int .i64 j1)
   have hS : Sp w b (fun _ => (fun c t => t = ts ∧ c = c0 ++ [x, y, ca])) [] CL nph wu := hp.S
   have hk := hK.call (.int .i32 (y).v)
   clear hp hK
   go_simp
   refine (getm_calls b j1 (y) _ _ _ (by rw [hj1.out]; exact idx1 _ _ _ _) hS.pl (by simp; omega)).mono ?_
   rintro e w7 ⟨rfl, hcX⟩
   exact hk _ (hS.call hcX) (Reg.keep_callp _ rfl hS hcX)
 · intro a wu γ nph K hp hK
   obtain ⟨e13a, e13b⟩ := hp.dep_ 13 3 (.int .i32 (x).v)
   have hk := hK.pure (.int .i32 (x).v) hp.S
   clear hp hK
   go_simp
   exact hk
 · intro a wu γ nph K hp hK
   obtain ⟨e17a, e17b⟩ := hp.dep_ 17 7 (.int .i32 (y).v)
   have hk := hK.pure (.int .i32 (y).v) hp.S
   clear hp hK
   go_simp
   exact hk
end Go.Proofs.YtihgijhjhmjolaaGreatDoor
