/- The document's builder: Set, Open, Close. -/
import Derived.Test.YtjfnpokebaagmaaGreatDoorRbD
import Derived.Test.YtjfnpokebaagmaaGreatDoorPbG
namespace Go.Proofs.YtjfnpokebaagmaaGreatDoor
open Go.RowKit Go.Deep Go.Maps
set_option linter.unusedVariables false
attribute [local go_sem] Oper.semAt_some
set_option maxRecDepth 100000 in
set_option maxHeartbeats 1000000 in
theorem rset_calls {w : World} {b : Nat} {bm : BM} {F : List Nat} (h : RB w b bm F) (d n : Int) (hl : bm.code.length ≤ 900000) (hn1 : -2147483648 ≤ n) (hn2 : n ≤ 2147483647) :
    Calls Tryz.prog 29 #[.pointer (some ⟨b, 0, none⟩), .int .i64 d, .int .i32 n] w (GoR (setM bm d n) b F w) := by
  have HP := hide h
  cases hr : regB d with
  | false =>
    have e : setM bm d n = (6, bm) := by unfold setM; rw [if_pos hr]
    rw [e]
    have hd : d < 0 ∨ 0 ≤ d ∧ 31 < d := by
      have : ¬ (0 ≤ d ∧ d ≤ 31) := fun hh => by rw [(regB_iff d).2 hh] at hr; exact absurd hr (by decide)
      omega
    clear h hr e
    rcases hd with h1 | ⟨h1, h2⟩
    · have x1 : decide (d < 0) = true := decide_eq_true h1
      go_enter Tryz.func29, Tryz.ntmps29
      go_wp2
      go_ret
      exact ⟨rfl, Chg.refl _ _, F, Sub.refl _ _, HP.out⟩
    · have x1 : decide (d < 0) = false := decide_eq_false (by omega)
      have x2 : decide (31 < d) = true := decide_eq_true h2
      go_enter Tryz.func29, Tryz.ntmps29
      go_wp2
      go_ret
      exact ⟨rfl, Chg.refl _ _, F, Sub.refl _ _, HP.out⟩
  | true =>
    have e : setM bm d n = (0, { bm with code := bm.code ++ setCode d n }) := by unfold setM; rw [if_neg (by rw [hr]; decide)]
    rw [e]
    have hd := (regB_iff d).1 hr
    have x1 : decide (d < 0) = false := decide_eq_false (by omega)
    have x2 : decide (31 < d) = false := decide_eq_false (by omega)
    by_cases hin : -32768 ≤ n ∧ n ≤ 32767
    · have e2 : setCode d n = [⟨31, d, 0, 0, n⟩] := by unfold setCode; rw [if_pos hin]
      rw [e2]
      obtain ⟨h1, h2⟩ := hin
      have hi := rins_ok h ⟨31, d, 0, 0, n⟩ (by omega) (show chk 31 d 0 0 n = 0 from chk_addi hr (by decide) h1 h2)
      unfold insVal at hi
      clear h hr e e2
      go_enter Tryz.func29, Tryz.ntmps29
      go_wp2_with fail
      go_at_call 26
      refine hi.mono ?_
      rintro e w1 ⟨rfl, hc, F', hs, hp⟩
      go_wp2
      go_ret
      exact ⟨rfl, hc, F', hs, hp⟩
    · have e2 : setCode d n = [⟨33, d, 0, 0, n % 4294967296 / 65536⟩, ⟨32, d, d, 0, n % 65536⟩] := by unfold setCode; rw [if_neg hin]
      rw [e2]
      have hx : (decide (-32768 ≤ n) && decide (n ≤ 32767)) = false := by
        cases hb : (decide (-32768 ≤ n) && decide (n ≤ 32767)) with
        | false => rfl
        | true => simp at hb; exact absurd hb hin
      have hi := rins_ok h ⟨33, d, 0, 0, n % 4294967296 / 65536⟩ (by omega) (show chk 33 d 0 0 (n % 4294967296 / 65536) = 0 from chk_lui hr (by omega) (by omega))
      have HR := hide hr
      unfold insVal at hi
      have hpl := plain_calls n w ⟨hn1, hn2⟩
      have hm : n % 4294967296 % 65536 = n % 65536 := by omega
      have hy1 : 0 ≤ n % 4294967296 := by omega
      have hy2 : n % 4294967296 < 4294967296 := by omega
      have HI2 : Hid (∀ (w1 : World) (F1 : List Nat), RB w1 b { bm with code := bm.code ++ [⟨33, d, 0, 0, n % 4294967296 / 65536⟩] } F1 → Calls Tryz.prog 26 #[.pointer (some ⟨b, 0, none⟩), .agg #[.int .i64 32, .int .i64 d, .int .i64 d, .int .i64 0, .int .i64 (n % 4294967296 % 65536)]] w1 (GoR (0, { bm with code := bm.code ++ [⟨33, d, 0, 0, n % 4294967296 / 65536⟩, ⟨32, d, d, 0, n % 65536⟩] }) b F1 w1)) := hide (by
        intro w1 F1 hp1
        have hi2 := rins_ok hp1 ⟨32, d, d, 0, n % 65536⟩ (by show (bm.code ++ [_]).length ≤ _; rw [List.length_append]; simp; omega) (show chk 32 d d 0 (n % 65536) = 0 from chk_ori HR.out HR.out (by omega) (by omega))
        rw [hm]
        unfold insVal at hi2
        simpa only [List.append_assoc, List.cons_append, List.nil_append] using hi2)
      clear h hr e e2 hm
      generalize n % 4294967296 = y at *
      have hq1 : y.tdiv 65536 = y / 65536 := Int.tdiv_eq_ediv_of_nonneg hy1
      have hq2 : y.tmod 65536 = y % 65536 := Int.tmod_eq_emod_of_nonneg hy1
      by_cases hlo : -32768 ≤ n
      all_goals
        go_enter Tryz.func29, Tryz.ntmps29
        go_wp2_with fail
        go_at_call 51
        refine hpl.mono ?_
        rintro e w1 ⟨rfl, rfl⟩
        go_wp2_with fail
        go_at_call 26
        refine hi.mono ?_
        rintro e w1 ⟨rfl, hc, F1, hs1, hp1⟩
        have HC := hide hc
        have HS1 := hide hs1
        have HX := hide (HI2.out _ _ hp1)
        clear hc hs1 hp1 hi
        go_wp2_with fail
        go_at_call 26
        refine HX.out.mono ?_
        intro e w2 hgp
        have hG := GoR.mk2 HC.out HS1.out hgp
        obtain ⟨rfl, hc2, F2, hs2, hp2⟩ := hG
        have HC2 := hide hc2
        have HS2 := hide hs2
        have HP2 := hide hp2
        clear hgp hc2 hs2 hp2
        go_wp2
        go_ret
        exact ⟨rfl, HC2.out, F2, HS2.out, HP2.out⟩
set_option maxRecDepth 100000 in
set_option maxHeartbeats 1000000 in
theorem rclose_calls {w : World} {b : Nat} {bm : BM} {F : List Nat} (h : RB w b bm F) (c l : Int) (s : Nm) (hs : s.length ≤ 1000000) (hl : bm.code.length ≤ 800000) (hu : bm.uses.length ≤ 1000000) (hc : regB c = true) (hr : regB l = true) (hn : isL s = true) :
    Calls Tryz.prog 32 #[.pointer (some ⟨b, 0, none⟩), .int .i64 c, .int .i64 l, strV s] w fun e w' => (∃ v, e = .returned v) ∧ Chg w w' F ∧ ∃ F', Sub F' F w ∧ RB w' b (closeM bm c l s) F' := by
  have hi5 := rins_ok h ⟨31, c, c, 0, 1⟩ (by omega) (show chk 31 c c 0 1 = 0 from chk_addi hc hc (by decide) (by decide))
  unfold insVal at hi5
  have HI5 := hide hi5
  have HC := hide hc
  have HR := hide hr
  have HN := hide hn
  clear hi5 h hc hr hn
  unfold strV
  go_enter Tryz.func32, Tryz.ntmps32
  go_wp2_with fail
  go_at_call 26
  refine HI5.out.mono ?_
  rintro e w5 ⟨rfl, hc5, F5, hs5, hp5⟩
  have hg6 := rgo_calls hp5 38 c l s hs (by show (bm.code ++ _).length ≤ _; rw [List.length_append]; simp; omega) hu
  rw [goM_ok (bm := { bm with code := bm.code ++ [⟨31, c, c, 0, 1⟩] }) (s := s) (by decide) (chk_blt HC.out HR.out) HN.out] at hg6
  have HG6 := hide hg6
  have HC5 := hide hc5
  have HS5 := hide hs5
  unfold strV at HG6
  clear hc5 hs5 hp5 hg6
  go_wp2_with fail
  go_at_call 28
  refine HG6.out.mono ?_
  intro e w6 hgp
  have hG := GoR.mk2 HC5.out HS5.out hgp
  obtain ⟨rfl, hc6, F6, hs6, hp6⟩ := hG
  have HC6 := hide hc6
  have HS6 := hide hs6
  have HP6 := hide hp6
  clear hgp hc6 hs6 hp6
  go_wp2
  refine bodyPost_end (results_none rfl _ _ _) rfl ?_
  refine ⟨⟨_, rfl⟩, HC6.out, F6, HS6.out, ?_⟩
  have hp := HP6.out
  simpa [closeM] using hp
end Go.Proofs.YtjfnpokebaagmaaGreatDoor
