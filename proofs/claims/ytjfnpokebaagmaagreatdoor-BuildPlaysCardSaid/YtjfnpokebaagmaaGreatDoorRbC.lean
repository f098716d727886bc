/- The document's builder: Ins, Label. -/
import Derived.Test.YtjfnpokebaagmaaGreatDoorRbB
namespace Go.Proofs.YtjfnpokebaagmaaGreatDoor
open Go.RowKit Go.Deep Go.Maps
set_option linter.unusedVariables false
attribute [local go_sem] Oper.semAt_some
set_option maxRecDepth 100000 in
set_option maxHeartbeats 1000000 in
theorem rins_calls {w : World} {x : Nat} {bm : BM} {F : List Nat} (h : RB w x bm F) (i : Ins5) (hl : bm.code.length ≤ 1000000) :
    Calls Tryz.prog 26 #[.pointer (some ⟨x, 0, none⟩), insVal i] w (GoR (insM bm i) x F w) := by
  obtain ⟨cv, dv, uv, hp, rfl⟩ := h
  obtain ⟨op, d, a, b1, n1⟩ := i
  obtain ⟨i0, hi, hz0, hz1, hz2⟩ := info_parts info_ins
  have HP := hide hp
  have hck := refcheck_any op d a b1 n1 (w.alloc (.cells #[.int .i64 op, .int .i64 d, .int .i64 a, .int .i64 b1, .int .i64 n1] 25))
  clear hp
  unfold insVal
  by_cases h0 : chk op d a b1 n1 = 0
  · have e1 : insM bm ⟨op, d, a, b1, n1⟩ = (0, { bm with code := bm.code ++ [⟨op, d, a, b1, n1⟩] }) := by unfold insM chkI; simp [h0]
    rw [e1]
    rw [h0] at hck
    clear h0 e1
    unfold insV at hck
    go_enter Tryz.func26, Tryz.ntmps26
    go_wp2_with (go_at_call 47; refine hck.mono ?_)
    rintro e w1 ⟨rfl, hc⟩
    have hc0 : Chg w w1 [] := ((Chg.refl w []).alloc _).trans hc (by simp)
    have HP1 := hide (HP.out.chg hc0 (by simp))
    have HC := hide hc0
    have hbx := (Blk.new w 25 [.int .i64 op, .int .i64 d, .int .i64 a, .int .i64 b1, .int .i64 n1]).chg hc (by simp)
    have x0 := hbx.cell' (i := 0) rfl
    have x1 := hbx.cell' (i := 1) rfl
    have x2 := hbx.cell' (i := 2) rfl
    have x3 := hbx.cell' (i := 3) rfl
    have x4 := hbx.cell' (i := 4) rfl
    have c1 := HP1.out.blk.cell' (i := 0) rfl
    have f1 := HP1.out.blk.frozen 0
    have hbl := HP1.out.blk.lt
    have hwl := hbx.lt
    obtain ⟨A, c, rfl⟩ := own_slice HP1.out.rc
    clear hc hc0 hbx
    go_wp2
    go_region_law (refine step_append_lies _ rfl (.tmp 15) (.tmp 17) 32 rfl 0 25 i0 (.agg #[.int .i64 0, .int .i64 0, .int .i64 0, .int .i64 0, .int .i64 0]) 5 40 Tryz.underlying32 hi hz0 hz1 hz2 rfl (by decide) (.slice A bm.code.length c) bm.code.length _ (by simp [Act.eval]) ((HP1.out.rc.alloc _).drew) ⟨w1.heap.size, 0, none⟩ 1 1 [.int .i64 op, .int .i64 d, .int .i64 a, .int .i64 b1, .int .i64 n1] (by simp [Act.eval]) rfl five_new five_one (by decide) (by unfold maxLen; omega) (by omega) (Nat.zero_le _) _ rfl ?_; rintro g cap w4 hown hgr hg2 hg3; have hc4 : Chg w1 w4 (Value.slice A bm.code.length c).ownBlock.toList := ((((Chg.refl w1 _).alloc _).drew).trans (Chg.of_grown hgr (fun k hk => .inl (by simp [hk]))) (fun k hk => .inl hk)); have hb4 := HP1.out.blk.chg hc4 (by simpa using fun e => HP1.out.ne'.1 e); have y1 := hb4.cell' (i := 0) rfl; have yf := hb4.frozen 0; have HB4 := hide hb4; have HC4 := hide hc4; have HO4 := hide hown; have hg2 := hg2.imp id (fun h => h.trans (size_alloc w1 (.cells #[.int .i64 op, .int .i64 d, .int .i64 a, .int .i64 b1, .int .i64 n1] 25))); have HG4 := hide hg2; clear hown hgr hc4 hb4 hg2; skip)
    all_goals
      go_wp2
      go_ret
      obtain ⟨q1, q2, q3, q4, q5⟩ := HP1.out.ne'
      have hgl : g < w4.heap.size := hg3
      have hbg : g ≠ x := fun e => by
        rcases HG4.out with h | h
        · exact q1 (by rw [h, e])
        · omega
      have hc5 : Chg w4 (w4.setCell ⟨x, 0, none⟩ (.slice (some ⟨g, 0, none⟩) (bm.code.length + 1) cap)) [x] := (Chg.refl w4 _).setCell _ _ (by simp)
      have hFF : Chg w (w4.setCell ⟨x, 0, none⟩ (.slice (some ⟨g, 0, none⟩) (bm.code.length + 1) cap)) (footR x (.slice A bm.code.length c) dv uv) :=
        (HC.out.more (D' := footR x (.slice A bm.code.length c) dv uv) (by simp)).trans ((HC4.out.more (D' := footR x (.slice A bm.code.length c) dv uv) (fun k hk => .inl (by simp only [footR, List.mem_append]; exact .inr (.inl hk)))).trans (hc5.more (D' := footR x (.slice A bm.code.length c) dv uv) (fun k hk => .inl (by simp only [footR, List.mem_append]; exact .inl hk))) (fun k hk => .inl hk)) (fun k hk => .inl hk)
      refine ⟨rfl, hFF, footR x (.slice (some ⟨g, 0, none⟩) (bm.code.length + 1) cap) dv uv, ?_, _, dv, uv, ⟨HB4.out.set_ 0 _, ?_, ?_, ?_, HP1.out.ne⟩, rfl⟩
      · intro k hk
        simp only [footR, List.mem_append, List.mem_singleton, Option.mem_toList, Value.ownBlock] at hk ⊢
        rcases hk with hk | hk | hk
        · exact .inl (.inl hk)
        · have hk : g = k := by simpa using hk
          subst hk
          rcases HG4.out with h | h
          · exact .inl (.inr (.inl h))
          · exact .inr (by have := HC.out.size; omega)
        · exact .inl (.inr (.inr hk))
      · rw [codeCells_snoc, List.length_append]
        exact own_chgD HO4.out hc5 (fun k hk => by simp [Value.ownBlock] at hk; subst hk; simpa using hbg)
      · refine own_chgD (own_chgD HP1.out.rd HC4.out (fun k hk => ?_)) hc5 (fun k hk => ?_)
        · simp only [Option.mem_toList]
          exact fun e => q4 k hk e
        · simp only [List.mem_singleton]
          rintro rfl
          exact q2 hk
      · refine own_chgD (own_chgD HP1.out.ru HC4.out (fun k hk => ?_)) hc5 (fun k hk => ?_)
        · simp only [Option.mem_toList]
          exact fun e => q5 k hk e
        · simp only [List.mem_singleton]
          rintro rfl
          exact q3 hk
  · have e1 : insM bm ⟨op, d, a, b1, n1⟩ = (chk op d a b1 n1, bm) := by unfold insM chkI; simp [h0]
    rw [e1]
    generalize chk op d a b1 n1 = e0 at *
    have hx0 : (e0 == 0) = false := beq_eq_false_iff_ne.2 h0
    have hx1 : (e0 != 0) = true := bne_iff_ne.2 h0
    clear h0 e1
    unfold insV at hck
    go_enter Tryz.func26, Tryz.ntmps26
    go_wp2_with (go_at_call 47; refine hck.mono ?_)
    rintro e w1 ⟨rfl, hc⟩
    have hc0 : Chg w w1 [] := ((Chg.refl w []).alloc _).trans hc (by simp)
    have HC := hide hc0
    clear hc hc0
    go_wp2
    go_ret
    exact ⟨rfl, HC.out.more (by simp), _, Sub.refl _ _, cv, dv, uv, HP.out.chg HC.out (by simp), rfl⟩
theorem rins_ok {w : World} {b : Nat} {bm : BM} {F : List Nat} (h : RB w b bm F) (i : Ins5) (hl : bm.code.length ≤ 1000000) (h0 : chkI i = 0) :
    Calls Tryz.prog 26 #[.pointer (some ⟨b, 0, none⟩), insVal i] w (GoR (0, { bm with code := bm.code ++ [i] }) b F w) := by
  have := rins_calls h i hl
  rw [insM_ok h0] at this
  exact this
set_option maxRecDepth 100000 in
set_option maxHeartbeats 1000000 in
theorem rlabel_calls {w : World} {x : Nat} {bm : BM} {F : List Nat} (h : RB w x bm F) (s : Nm) (hs : s.length ≤ 1000000) (hl : bm.code.length ≤ 1000000) (hd : bm.defs.length ≤ 1000000) :
    Calls Tryz.prog 27 #[.pointer (some ⟨x, 0, none⟩), strV s] w (GoR (labelM bm s) x F w) := by
  have hdf := rdefine_calls (h.chg (Chg.refl w []).drew (by simp)) s bm.code.length hs hd
  obtain ⟨cv, dv, uv, hp, rfl⟩ := h
  have c0 := hp.blk.cell' (i := 0) rfl
  obtain ⟨A, c, rfl⟩ := own_slice hp.rc
  clear hp
  unfold strV labelM at *
  go_enter Tryz.func27, Tryz.ntmps27
  go_wp2
  go_still_tail 9, (by kernel_rfl)
  change wpList _ _ _ _ _ w.drew
  go_wp2_with fail
  go_at_call 48
  refine hdf.mono ?_
  rintro e w1 ⟨rfl, hc, F', hs', hp'⟩
  have HC := hide (((Chg.refl w (footR x (.slice A bm.code.length c) dv uv)).drew).trans hc (fun k hk => .inl hk))
  have HS : Hid (Sub F' (footR x (.slice A bm.code.length c) dv uv) w) := hide hs'
  have HP := hide hp'
  clear hc hs' hp' hdf
  go_wp2
  go_ret
  exact ⟨rfl, HC.out, F', HS.out, HP.out⟩
end Go.Proofs.YtjfnpokebaagmaaGreatDoor
