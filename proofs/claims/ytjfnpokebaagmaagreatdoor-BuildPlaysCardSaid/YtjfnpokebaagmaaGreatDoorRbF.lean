/- The document's builder: Open. -/
import Derived.Test.YtjfnpokebaagmaaGreatDoorRbE
namespace Go.Proofs.YtjfnpokebaagmaaGreatDoor
open Go.RowKit Go.Deep Go.Maps
set_option linter.unusedVariables false
attribute [local go_sem] Oper.semAt_some
/-- Ways the document refuses a loop. -/
theorem open_ways {c l n : Int} (h : loopB c l n = false) :
    c < 1 ∨ 1 ≤ c ∧ 31 < c ∨ (1 ≤ c ∧ c ≤ 31) ∧ l < 1 ∨ (1 ≤ c ∧ c ≤ 31) ∧ 1 ≤ l ∧ 31 < l ∨ (1 ≤ c ∧ c ≤ 31) ∧ (1 ≤ l ∧ l ≤ 31) ∧ c = l ∨ (1 ≤ c ∧ c ≤ 31) ∧ (1 ≤ l ∧ l ≤ 31) ∧ c ≠ l ∧ n < 1 ∨ (1 ≤ c ∧ c ≤ 31) ∧ (1 ≤ l ∧ l ≤ 31) ∧ c ≠ l ∧ 1 ≤ n ∧ 32767 < n := by
  have h2 : ¬ (c ≠ 0 ∧ l ≠ 0 ∧ c ≠ l ∧ regB c = true ∧ regB l = true ∧ 1 ≤ n ∧ n ≤ 32767) := fun hh => by rw [(loopB_iff c l n).2 hh] at h; exact absurd h (by decide)
  rw [regB_iff, regB_iff] at h2
  omega
set_option maxRecDepth 100000 in
set_option maxHeartbeats 2000000 in
theorem ropen_bad {w : World} {b : Nat} (c l n : Int) (s : Nm) (hb : loopB c l n = false) :
    Calls Tryz.prog 30 #[.pointer (some ⟨b, 0, none⟩), .int .i64 c, .int .i64 l, .int .i64 n, strV s] w fun e w' => e = .returned (.int .i64 6) ∧ w = w' := by
  have hw := open_ways hb
  clear hb
  unfold strV
  rcases hw with h1 | ⟨h1, h2⟩ | ⟨⟨h1, h2⟩, h3⟩ | ⟨⟨h1, h2⟩, h3, h4⟩ | ⟨⟨h1, h2⟩, ⟨h3, h4⟩, h5⟩ | ⟨⟨h1, h2⟩, ⟨h3, h4⟩, h5, h6⟩ | ⟨⟨h1, h2⟩, ⟨h3, h4⟩, h5, h6, h7⟩
  · have x1 : decide (c < 1) = true := decide_eq_true h1
    go_enter Tryz.func30, Tryz.ntmps30
    go_wp2
    go_ret
    exact ⟨rfl, rfl⟩
  · have x1 : decide (c < 1) = false := decide_eq_false (by omega)
    have x2 : decide (31 < c) = true := decide_eq_true h2
    go_enter Tryz.func30, Tryz.ntmps30
    go_wp2
    go_ret
    exact ⟨rfl, rfl⟩
  · have x1 : decide (c < 1) = false := decide_eq_false (by omega)
    have x2 : decide (31 < c) = false := decide_eq_false (by omega)
    have x3 : decide (l < 1) = true := decide_eq_true h3
    go_enter Tryz.func30, Tryz.ntmps30
    go_wp2
    go_ret
    exact ⟨rfl, rfl⟩
  · have x1 : decide (c < 1) = false := decide_eq_false (by omega)
    have x2 : decide (31 < c) = false := decide_eq_false (by omega)
    have x3 : decide (l < 1) = false := decide_eq_false (by omega)
    have x4 : decide (31 < l) = true := decide_eq_true h4
    go_enter Tryz.func30, Tryz.ntmps30
    go_wp2
    go_ret
    exact ⟨rfl, rfl⟩
  · have x1 : decide (c < 1) = false := decide_eq_false (by omega)
    have x2 : decide (31 < c) = false := decide_eq_false (by omega)
    have x3 : decide (l < 1) = false := decide_eq_false (by omega)
    have x4 : decide (31 < l) = false := decide_eq_false (by omega)
    have x5 : (c == l) = true := beq_iff_eq.2 h5
    clear h5
    go_enter Tryz.func30, Tryz.ntmps30
    go_wp2
    go_ret
    exact ⟨rfl, rfl⟩
  · have x1 : decide (c < 1) = false := decide_eq_false (by omega)
    have x2 : decide (31 < c) = false := decide_eq_false (by omega)
    have x3 : decide (l < 1) = false := decide_eq_false (by omega)
    have x4 : decide (31 < l) = false := decide_eq_false (by omega)
    have x5 : (c == l) = false := beq_eq_false_iff_ne.2 h5
    have x6 : decide (n < 1) = true := decide_eq_true h6
    clear h5
    go_enter Tryz.func30, Tryz.ntmps30
    go_wp2
    go_ret
    exact ⟨rfl, rfl⟩
  · have x1 : decide (c < 1) = false := decide_eq_false (by omega)
    have x2 : decide (31 < c) = false := decide_eq_false (by omega)
    have x3 : decide (l < 1) = false := decide_eq_false (by omega)
    have x4 : decide (31 < l) = false := decide_eq_false (by omega)
    have x5 : (c == l) = false := beq_eq_false_iff_ne.2 h5
    have x6 : decide (n < 1) = false := decide_eq_false (by omega)
    have x7 : decide (32767 < n) = true := decide_eq_true h7
    clear h5
    go_enter Tryz.func30, Tryz.ntmps30
    go_wp2
    go_ret
    exact ⟨rfl, rfl⟩
set_option maxRecDepth 100000 in
set_option maxHeartbeats 1000000 in
theorem ropen_calls {w : World} {b : Nat} {bm : BM} {F : List Nat} (h : RB w b bm F) (c l n : Int) (s : Nm) (hs : s.length ≤ 1000000) (hl : bm.code.length ≤ 800000) (hd : bm.defs.length ≤ 1000000) :
    Calls Tryz.prog 30 #[.pointer (some ⟨b, 0, none⟩), .int .i64 c, .int .i64 l, .int .i64 n, strV s] w (GoR (openM bm c l n s) b F w) := by
  cases hb : loopB c l n with
  | false =>
    refine (ropen_bad c l n s hb).mono ?_
    rintro e w1 ⟨rfl, rfl⟩
    rw [openM_bad hb]
    exact ⟨rfl, Chg.refl _ _, F, Sub.refl _ _, h⟩
  | true =>
    obtain ⟨h1, h2, h3, h4, h5, h6, h7⟩ := (loopB_iff c l n).1 hb
    have HO := hide (@openM_def bm c l n s hb)
    have hp0 : ∃ cv dv uv, RBS w b cv dv uv bm := by
      obtain ⟨cv, dv, uv, hp, _⟩ := h
      exact ⟨cv, dv, uv, hp⟩
    obtain ⟨cv, dv, uv, hp⟩ := hp0
    have g1 := (regB_iff c).1 h4
    have g2 := (regB_iff l).1 h5
    have x1 : decide (c < 1) = false := decide_eq_false (by omega)
    have x2 : decide (31 < c) = false := decide_eq_false (by omega)
    have x3 : decide (l < 1) = false := decide_eq_false (by omega)
    have x4 : decide (31 < l) = false := decide_eq_false (by omega)
    have x5 : (c == l) = false := beq_eq_false_iff_ne.2 h3
    have x6 : decide (n < 1) = false := decide_eq_false (by omega)
    have x7 : decide (32767 < n) = false := decide_eq_false (by omega)
    have hdf := rdefine_calls (h.chg (Chg.refl w []).drew (by simp)) s (bm.code.length + 2) hs hd
    have c0 := hp.blk.cell' (i := 0) rfl
    obtain ⟨A, cc, rfl⟩ := own_slice hp.rc
    have H4 := hide h4
    have H5 := hide h5
    clear hp hb h1 h2 h3 h4 h5 h g1 g2
    unfold strV at hdf ⊢
    go_enter Tryz.func30, Tryz.ntmps30
    go_wp2
    go_still_tail 10, (by kernel_rfl)
    change wpList _ _ _ _ _ w.drew
    go_wp2_with fail
    go_at_call 48
    refine hdf.mono ?_
    rintro e w1 ⟨rfl, hc1, F1, hs1, hp1⟩
    have HC1 : Hid (Chg w w1 F) := hide (((Chg.refl w F).drew).trans hc1 (fun k hk => .inl hk))
    have HS1 : Hid (Sub F1 F w) := hide hs1
    have HP1 := hide hp1
    clear hc1 hs1 hp1 hdf
    by_cases hde : (defM bm s (bm.code.length + 2)).1 = 0
    · have HE := hide hde
      have HCD := hide (@defM_code bm s (bm.code.length + 2))
      rw [hde]
      clear hde
      generalize hD : (defM bm s (bm.code.length + 2)).2 = bm0 at *
      have hi1 := rins_ok HP1.out ⟨31, c, 0, 0, 0⟩ (by have := HCD.out; rw [this]; omega) (show chk 31 c 0 0 0 = 0 from chk_addi H4.out (by decide) (by decide) (by decide))
      unfold insVal at hi1
      have HX1 := hide hi1
      clear hi1
      go_wp2_with fail
      go_at_call 26
      refine HX1.out.mono ?_
      rintro e w2 ⟨rfl, hc2, F2, hs2, hp2⟩
      have HC2 := hide hc2
      have HS2 := hide hs2
      have hi2 := rins_ok hp2 ⟨31, l, 0, 0, n⟩ (by show (bm0.code ++ _).length ≤ _; have := HCD.out; rw [List.length_append, this]; simp; omega) (show chk 31 l 0 0 n = 0 from chk_addi H5.out (by decide) (by omega) (by omega))
      unfold insVal at hi2
      have HX2 := hide hi2
      clear hc2 hs2 hp2 hi2
      go_wp2_with fail
      go_at_call 26
      refine HX2.out.mono ?_
      rintro e w3 ⟨rfl, hc3, F3, hs3, hp3⟩
      have ho3 := HO.out
      rw [HE.out, if_pos rfl] at ho3
      have HCd := HCD.out
      simp only [HCd, List.append_assoc] at hp3
      have hC3 : Chg w w3 F := HC1.out.trans (HC2.out.trans hc3 (fun k hk => HS2.out k hk)) (fun k hk => HS1.out k hk)
      have hS3 : Sub F3 F w := fun k hk => by
        have q1 := HC1.out.size
        have q2 := HC2.out.size
        rcases hs3 k hk with h | h
        · rcases HS2.out k h with h | h
          · exact HS1.out k h
          · exact .inr (by omega)
        · exact .inr (by omega)
      have HO3 := hide ho3
      have HC3 := hide hC3
      have HS3 := hide hS3
      have HP3 := hide hp3
      clear hc3 hs3 hp3 ho3 HCd hC3 hS3
      go_wp2
      go_ret
      rw [HO3.out]
      exact ⟨rfl, HC3.out, F3, HS3.out, HP3.out⟩
    · have hb2 := defM_bad hde
      rw [hb2] at HP1
      have ho3 := HO.out
      rw [if_neg hde] at ho3
      have HO3 := hide ho3
      have hx : ((defM bm s (bm.code.length + 2)).1 == 0) = false := beq_eq_false_iff_ne.2 hde
      have hx2 : ((defM bm s (bm.code.length + 2)).1 != 0) = true := bne_iff_ne.2 hde
      clear hb2 ho3 HO
      generalize (defM bm s (bm.code.length + 2)).1 = e0 at *
      clear hde
      go_wp2
      go_ret
      rw [HO3.out]
      exact ⟨rfl, HC1.out, F1, HS1.out, HP1.out⟩
end Go.Proofs.YtjfnpokebaagmaaGreatDoor
