/- The program's builder: a loop. -/
import Derived.Test.YtjfnpokebaagmaaGreatDoorPbE
namespace Go.Proofs.YtjfnpokebaagmaaGreatDoor
open Go.RowKit Go.Deep Go.Maps
set_option linter.unusedVariables false
attribute [local go_sem] Oper.semAt_some
theorem loopB_iff (c l n : Int) : loopB c l n = true ↔ (c ≠ 0 ∧ l ≠ 0 ∧ c ≠ l ∧ regB c = true ∧ regB l = true ∧ 1 ≤ n ∧ n ≤ 32767) := by
 unfold loopB
 simp only [Bool.and_eq_true, decide_eq_true_eq]
 constructor <;> (intro h; simp_all)
theorem neq_func (k : Nat) (caps : Array Value) (W : World) : (binOp .neq 1 (.func (.func k) #[] caps) .nilFunc).run Tryz.prog W = .ok (.bool true) W := by kernel_rfl
def LoopP (Q : World → BM → List Nat → Prop) (bm : BM) (b : Nat) (c l n : Int) (s : Nm) (F : List Nat) (w : World) (e : Ending) (w' : World) : Prop :=
 ((openM bm c l n s).1 = 0 → ∃ w2 bm2 F2, Q w2 bm2 F2 ∧ GoP (0, closeM bm2 c l s) b F2 w2 e w') ∧ ((openM bm c l n s).1 ≠ 0 → GoP ((openM bm c l n s).1, bm) b F w e w')
theorem loop_ways {c l n : Int} (h : loopB c l n = false) :
 c = 0 ∨ c ≠ 0 ∧ l = 0 ∨ c ≠ 0 ∧ l ≠ 0 ∧ c = l ∨ c ≠ 0 ∧ l ≠ 0 ∧ c ≠ l ∧ regB c = false ∨ c ≠ 0 ∧ l ≠ 0 ∧ c ≠ l ∧ regB c = true ∧ regB l = false ∨ c ≠ 0 ∧ l ≠ 0 ∧ c ≠ l ∧ regB c = true ∧ regB l = true ∧ n < 1 ∨ c ≠ 0 ∧ l ≠ 0 ∧ c ≠ l ∧ regB c = true ∧ regB l = true ∧ 1 ≤ n ∧ 32767 < n := by
 have h2 : ¬ (c ≠ 0 ∧ l ≠ 0 ∧ c ≠ l ∧ regB c = true ∧ regB l = true ∧ 1 ≤ n ∧ n ≤ 32767) := fun hh => by rw [(loopB_iff c l n).2 hh] at h; exact absurd h (by decide)
 cases h3 : regB c <;> cases h4 : regB l <;> (simp [h3, h4] at h2 ⊢; omega)
set_option maxRecDepth 100000 in
set_option maxHeartbeats 1000000 in
theorem loop_bad {w : World} {b : Nat} {bm : BM} {F : List Nat} (h : PB w b bm F) (c l n : Int) (s : Nm) (f : Value) (hb : loopB c l n = false) :
 Calls Tryz.prog 13 #[.pointer (some ⟨b, 0, none⟩), .int .i64 c, .int .i64 l, .int .i64 n, strV s, f] w fun e w' => e = .returned (.int .i64 6) ∧ w = w' := by
 have hlv := h.live
 have hrc := fun W => reg_calls c W
 have hrl := fun W => reg_calls l W
 clear h
 have hw := loop_ways hb
 clear hb
 unfold strV
 rcases hw with h1 | ⟨h1, h2⟩ | ⟨h1, h2, h3⟩ | ⟨h1, h2, h3, h4⟩ | ⟨h1, h2, h3, h4, h5⟩ | ⟨h1, h2, h3, h4, h5, h6⟩ | ⟨h1, h2, h3, h4, h5, h6, h7⟩
 · have x1 : (c == 0) = true := beq_iff_eq.2 h1
   clear h1
   go_enter Tryz.func13, Tryz.ntmps13
   go_wp2_with (go_at_call 33; refine hlv.mono ?_; rintro e w1 ⟨rfl, rfl⟩)
   go_ret
   exact ⟨rfl, rfl⟩
 · have x1 : (c == 0) = false := beq_eq_false_iff_ne.2 h1
   have x2 : (l == 0) = true := beq_iff_eq.2 h2
   clear h1 h2
   go_enter Tryz.func13, Tryz.ntmps13
   go_wp2_with (go_at_call 33; refine hlv.mono ?_; rintro e w1 ⟨rfl, rfl⟩)
   go_ret
   exact ⟨rfl, rfl⟩
 · have x1 : (c == 0) = false := beq_eq_false_iff_ne.2 h1
   have x2 : (l == 0) = false := beq_eq_false_iff_ne.2 h2
   have x3 : (c == l) = true := beq_iff_eq.2 h3
   clear h1 h2 h3
   go_enter Tryz.func13, Tryz.ntmps13
   go_wp2_with (go_at_call 33; refine hlv.mono ?_; rintro e w1 ⟨rfl, rfl⟩)
   go_ret
   exact ⟨rfl, rfl⟩
 · have x1 : (c == 0) = false := beq_eq_false_iff_ne.2 h1
   have x2 : (l == 0) = false := beq_eq_false_iff_ne.2 h2
   have x3 : (c == l) = false := beq_eq_false_iff_ne.2 h3
   rw [h4] at hrc
   clear h1 h2 h3 h4
   go_enter Tryz.func13, Tryz.ntmps13
   go_wp2_with (first | (go_at_call 33; refine hlv.mono ?_; rintro e w1 ⟨rfl, rfl⟩) | (go_at_call 38; refine (hrc _).mono ?_; rintro e w1 ⟨rfl, rfl⟩))
   go_ret
   exact ⟨rfl, rfl⟩
 · have x1 : (c == 0) = false := beq_eq_false_iff_ne.2 h1
   have x2 : (l == 0) = false := beq_eq_false_iff_ne.2 h2
   have x3 : (c == l) = false := beq_eq_false_iff_ne.2 h3
   rw [h4] at hrc
   rw [h5] at hrl
   clear h1 h2 h3 h4 h5
   go_enter Tryz.func13, Tryz.ntmps13
   go_wp2_with (go_at_call 33; refine hlv.mono ?_; rintro e w1 ⟨rfl, rfl⟩)
   go_at_call 38
   refine (hrc _).mono ?_
   rintro e w1 ⟨rfl, rfl⟩
   go_wp2_with fail
   go_at_call 38
   refine (hrl _).mono ?_
   rintro e w1 ⟨rfl, rfl⟩
   go_wp2_with fail
   go_ret
   exact ⟨rfl, rfl⟩
 · have x1 : (c == 0) = false := beq_eq_false_iff_ne.2 h1
   have x2 : (l == 0) = false := beq_eq_false_iff_ne.2 h2
   have x3 : (c == l) = false := beq_eq_false_iff_ne.2 h3
   have x6 : decide (n < 1) = true := decide_eq_true h6
   rw [h4] at hrc
   rw [h5] at hrl
   clear h1 h2 h3 h4 h5 h6
   go_enter Tryz.func13, Tryz.ntmps13
   go_wp2_with (go_at_call 33; refine hlv.mono ?_; rintro e w1 ⟨rfl, rfl⟩)
   go_at_call 38
   refine (hrc _).mono ?_
   rintro e w1 ⟨rfl, rfl⟩
   go_wp2_with fail
   go_at_call 38
   refine (hrl _).mono ?_
   rintro e w1 ⟨rfl, rfl⟩
   go_wp2_with fail
   go_ret
   exact ⟨rfl, rfl⟩
 · have x1 : (c == 0) = false := beq_eq_false_iff_ne.2 h1
   have x2 : (l == 0) = false := beq_eq_false_iff_ne.2 h2
   have x3 : (c == l) = false := beq_eq_false_iff_ne.2 h3
   have x6 : decide (n < 1) = false := decide_eq_false (by omega)
   have x7 : decide (32767 < n) = true := decide_eq_true h7
   rw [h4] at hrc
   rw [h5] at hrl
   clear h1 h2 h3 h4 h5 h6 h7
   go_enter Tryz.func13, Tryz.ntmps13
   go_wp2_with (go_at_call 33; refine hlv.mono ?_; rintro e w1 ⟨rfl, rfl⟩)
   go_at_call 38
   refine (hrc _).mono ?_
   rintro e w1 ⟨rfl, rfl⟩
   go_wp2_with fail
   go_at_call 38
   refine (hrl _).mono ?_
   rintro e w1 ⟨rfl, rfl⟩
   go_wp2_with fail
   go_ret
   exact ⟨rfl, rfl⟩
theorem PB.define {w : World} {b : Nat} {bm : BM} {t m n : Nat} {cv uv : Value} (hp : PBS w b t m cv uv n bm) (hn : n ≤ bm.defs.length) (s : Nm) (p : Int) (hs : s.length ≤ 1000000) (hd : bm.defs.length ≤ 1000000) (hw : (Lit.int .i64 p).wf = true) :
 Calls Tryz.prog 39 #[.pointer (some ⟨t, 0, none⟩), strV s, .int .i64 p] w (GoP (defM bm s p) b (footP b t m cv uv) w) := by
 refine (define_calls hp.tab s p hs (by omega) hw).mono ?_
 rintro e w1 ⟨rfl, hc, n', hn', ht⟩
 obtain ⟨q1, q2, q3, q4, q5, q6⟩ := hp.ne
 rw [defM_eq]
 refine ⟨rfl, hc.more (fun k hk => .inl (by simp only [List.mem_singleton] at hk; subst hk; simp [footP, footT])), _, Sub.refl _ _, t, m, cv, uv, n', ⟨hp.blk.chg hc (by simpa using q2), ht, own_chgD hp.row hc (fun g hg => by simp only [List.mem_singleton]; rintro rfl; exact q5 hg)⟩, rfl, ?_⟩
 show n' ≤ (defD bm.defs s p).length
 omega
def DoP (k : Nat) (caps : Array Value) (Q : World → BM → List Nat → Prop) (r : Int × BM) (b : Nat) (F : List Nat) (w : World) : Prop :=
 r.1 = 0 → ∀ w1 F1, Chg w w1 F → Sub F1 F w → PB w1 b r.2 F1 → Calls Tryz.prog k caps w1 fun e w2 => (∃ v, e = .returned v) ∧ ∃ bm2 F2, PB w2 b bm2 F2 ∧ bm2.code.length ≤ 800000 ∧ bm2.uses.length ≤ 1000000 ∧ Q w2 bm2 F2
theorem openM_bad {bm : BM} {c l n : Int} {s : Nm} (h : loopB c l n = false) : openM bm c l n s = (6, bm) := by unfold openM; rw [if_pos h]
theorem openM_def {bm : BM} {c l n : Int} {s : Nm} (h : loopB c l n = true) : openM bm c l n s = ((defM bm s (bm.code.length + 2)).1, if (defM bm s (bm.code.length + 2)).1 = 0 then { (defM bm s (bm.code.length + 2)).2 with code := bm.code ++ [⟨31, c, 0, 0, 0⟩, ⟨31, l, 0, 0, n⟩] } else bm) := by
 unfold openM defM
 rw [if_neg (by rw [h]; decide)]
 cases h1 : isL s with
 | false => simp
 | true =>
  cases h2 : (findL bm.defs s).isSome with
  | true => simp
  | false => simp
theorem defM_bad {bm : BM} {s : Nm} {p : Int} (h : (defM bm s p).1 ≠ 0) : (defM bm s p).2 = bm := by
 unfold defM at h ⊢
 split
 · rfl
 · split
   · rfl
   · rename_i h1 h2
     rw [if_neg h1, if_neg h2] at h
     exact absurd rfl h
theorem defM_code {bm : BM} {s : Nm} {p : Int} : (defM bm s p).2.code = bm.code := by
 unfold defM
 split
 · rfl
 · split <;> rfl
theorem defM_name {bm : BM} {s : Nm} {p : Int} (h : (defM bm s p).1 = 0) : isL s = true := by
 cases h1 : isL s with
 | true => rfl
 | false => unfold defM at h; rw [if_pos h1] at h; simp at h
theorem setM_ok {bm : BM} {c n : Int} (hc : regB c = true) (h1 : -32768 ≤ n) (h2 : n ≤ 32767) : setM bm c n = (0, { bm with code := bm.code ++ [⟨31, c, 0, 0, n⟩] }) := by
 unfold setM setCode
 rw [if_neg (by rw [hc]; decide), if_pos ⟨h1, h2⟩]
set_option maxRecDepth 100000 in
set_option maxHeartbeats 1000000 in
theorem loop_calls {w : World} {b : Nat} {bm : BM} {F : List Nat} (h : PB w b bm F) (c l n : Int) (s : Nm) (k : Nat) (caps : Array Value) (Q : World → BM → List Nat → Prop)
 (hs : s.length ≤ 1000000) (hl : bm.code.length ≤ 800000) (hd : bm.defs.length ≤ 1000000) (hcl : ∀ W : World, (callFunc k caps).run Tryz.prog W = .ok (.enter k caps) W) (hdo : DoP k caps Q (openM bm c l n s) b F w) :
 Calls Tryz.prog 13 #[.pointer (some ⟨b, 0, none⟩), .int .i64 c, .int .i64 l, .int .i64 n, strV s, .func (.func k) #[] caps] w (LoopP Q bm b c l n s F w) := by
 cases hb : loopB c l n with
 | false =>
  refine (loop_bad h c l n s _ hb).mono ?_
  rintro e w1 ⟨rfl, rfl⟩
  unfold LoopP
  rw [openM_bad hb]
  exact ⟨fun h0 => absurd (show (6 : Int) = 0 from h0) (by decide), fun _ => ⟨rfl, Chg.refl _ _, F, Sub.refl _ _, h⟩⟩
 | true =>
  obtain ⟨h1, h2, h3, h4, h5, h6, h7⟩ := (loopB_iff c l n).1 hb
  have ho := @openM_def bm c l n s hb
  have HO := hide ho
  have HDO := hide hdo
  have HP := hide h
  obtain ⟨t, m, cv, uv, z, hp, hF, hz⟩ := h
  have hlv := blive_calls hp
  have hrc := fun W => reg_calls c W
  have hrl := fun W => reg_calls l W
  rw [h4] at hrc
  rw [h5] at hrl
  have x1 : (c == 0) = false := beq_eq_false_iff_ne.2 h1
  have x2 : (l == 0) = false := beq_eq_false_iff_ne.2 h2
  have x3 : (c == l) = false := beq_eq_false_iff_ne.2 h3
  have x6 : decide (n < 1) = false := decide_eq_false (by omega)
  have x7 : decide (32767 < n) = false := decide_eq_false (by omega)
  have hw2 : wrap64 ((bm.code.length : Int) + 2) = (bm.code.length : Int) + 2 := by unfold wrap64; omega
  have hdf := PB.define (hp.chg (Chg.refl w []).drew (by simp)) hz s (bm.code.length + 2) hs hd (by simp [Lit.wf, IntKind.min, IntKind.max, IntKind.signed, IntKind.bits]; omega)
  rw [← hF] at hdf
  have c0 := hp.blk.cell' (i := 0) rfl
  have c1 := hp.blk.cell' (i := 1) rfl
  obtain ⟨A, cc, rfl⟩ := own_slice hp.row
  have H4 := hide h4
  have H5 := hide h5
  clear ho hdo hp hb h1 h2 h3 h4 h5 hF hz hw2
  unfold strV at hdf ⊢
  go_enter Tryz.func13, Tryz.ntmps13
  go_wp2_with (go_at_call 33; refine hlv.mono ?_; rintro e w1 ⟨rfl, rfl⟩)
  go_at_call 38
  refine (hrc _).mono ?_
  rintro e w1 ⟨rfl, rfl⟩
  go_wp2_with fail
  go_at_call 38
  refine (hrl _).mono ?_
  rintro e w1 ⟨rfl, rfl⟩
  go_wp2_with fail
  go_still_tail 11, (by kernel_rfl)
  change wpList _ _ _ _ _ w.drew
  go_wp2_with fail
  go_at_call 39
  refine hdf.mono ?_
  rintro e w1 ⟨rfl, hc1, F1, hs1, hp1⟩
  have HC1 : Hid (Chg w w1 F) := hide (((Chg.refl w F).drew).trans hc1 (fun k hk => .inl hk))
  have HS1 : Hid (Sub F1 F w) := hide hs1
  have HP1 := hide hp1
  clear hc1 hs1 hp1 hdf
  by_cases hde : (defM bm s (bm.code.length + 2)).1 = 0
  · have HN := hide (defM_name hde)
    have HE := hide hde
    have HCD := hide (@defM_code bm s (bm.code.length + 2))
    rw [hde]
    clear hde
    generalize hD : (defM bm s (bm.code.length + 2)).2 = bm0 at *
    have HSet1 := hide (setM_ok (bm := bm0) (c := c) (n := 0) H4.out (by decide) (by decide))
    have hset1 := set_calls HP1.out c 0 (by have := HCD.out; rw [this]; omega) (by decide) (by decide)
    rw [HSet1.out] at hset1
    have HX1 := hide hset1
    clear hset1
    go_wp2_with fail
    go_at_call 12
    refine HX1.out.mono ?_
    rintro e w2 ⟨rfl, hc2, F2, hs2, hp2⟩
    have HC2 := hide hc2
    have HS2 := hide hs2
    have HP2 := hide hp2
    have HSet2 := hide (setM_ok (bm := { bm0 with code := bm0.code ++ [⟨31, c, 0, 0, 0⟩] }) (c := l) (n := n) H5.out (by omega) (by omega))
    have hset2 := set_calls hp2 l n (by show (bm0.code ++ _).length ≤ _; have := HCD.out; rw [List.length_append, this]; simp; omega) (by omega) (by omega)
    rw [HSet2.out] at hset2
    have HX2 := hide hset2
    clear hc2 hs2 hp2 hset2
    go_wp2_with fail
    go_at_call 12
    refine HX2.out.mono ?_
    rintro e w3 ⟨rfl, hc3, F3, hs3, hp3⟩
    have ho3 := HO.out
    rw [HE.out, if_pos rfl] at ho3
    have HCd := HCD.out
    simp only [HCd, List.append_assoc] at hp3
    have hC3 : Chg w w3 F := HC1.out.trans (HC2.out.trans hc3 (fun k hk => HS2.out k hk)) (fun k hk => HS1.out k hk)
    have hS3 : Sub F3 F w := fun k hk => by
     have q1 := HC1.out.size
     have q2 := HC2.out.size
     rcases hs3 k hk with h | h
     · rcases HS2.out k h with h | h
       · exact HS1.out k h
       · exact .inr (by omega)
     · exact .inr (by omega)
    have hq : (openM bm c l n s).1 = 0 := by rw [ho3]
    have hdoq := HDO.out hq w3 F3 hC3 hS3 (by rw [ho3]; exact hp3)
    have HDQ := hide hdoq
    have HQ := hide hq
    clear hc3 hs3 hp3 ho3 HCd hC3 hS3 hq hdoq
    have hnf := fun W => neq_func k caps W
    go_wp2_with fail
    refine HDQ.out.mono ?_
    rintro e w4 ⟨⟨v, rfl⟩, bm2, F4, hp4, hl4, hu4, hQ4⟩
    have HQ4 := hide hQ4
    have HP4 := hide hp4
    have hi5 := ins_ok_calls hp4 ⟨31, c, c, 0, 1⟩ (by omega) (show chk 31 c c 0 1 = 0 from chk_addi H4.out H4.out (by decide) (by decide))
    unfold insVal at hi5
    have HI5 := hide hi5
    clear hi5 hp4 hQ4
    go_wp2_with fail
    go_at_call 16
    refine HI5.out.mono ?_
    rintro e w5 ⟨rfl, hc5, F5, hs5, hp5⟩
    have hg6 := go_calls hp5 38 c l s hs (by show (bm2.code ++ _).length ≤ _; rw [List.length_append]; simp; omega) hu4
    rw [goM_ok (bm := { bm2 with code := bm2.code ++ [⟨31, c, c, 0, 1⟩] }) (s := s) (by decide) (chk_blt H4.out H5.out) HN.out] at hg6
    have HG6 := hide hg6
    have HC5 := hide hc5
    have HS5 := hide hs5
    unfold strV at HG6
    clear hc5 hs5 hp5 hg6
    go_wp2_with fail
    go_at_call 24
    refine HG6.out.mono ?_
    intro e w6 hgp
    have hG := GoP.mk2 HC5.out HS5.out hgp
    obtain ⟨rfl, hc6, F6, hs6, hp6⟩ := hG
    have HC6 := hide hc6
    have HS6 := hide hs6
    have HP6 := hide hp6
    clear hgp hc6 hs6 hp6
    go_wp2
    go_ret
    refine ⟨fun _ => ⟨w4, bm2, F4, HQ4.out, rfl, HC6.out, F6, HS6.out, ?_⟩, fun h => absurd HQ.out h⟩
    have hp := HP6.out
    simpa [closeM] using hp
  · have hb2 := defM_bad hde
    rw [hb2] at HP1
    have ho3 := HO.out
    rw [if_neg hde] at ho3
    have HO3 := hide ho3
    have HDE := hide hde
    have hx : ((defM bm s (bm.code.length + 2)).1 == 0) = false := beq_eq_false_iff_ne.2 hde
    clear hb2 ho3 HO HDO
    generalize (defM bm s (bm.code.length + 2)).1 = e0 at *
    clear hde
    go_wp2
    go_ret
    unfold LoopP
    rw [HO3.out]
    exact ⟨fun h => absurd h HDE.out, fun _ => ⟨rfl, HC1.out, F1, HS1.out, HP1.out⟩⟩
end Go.Proofs.YtjfnpokebaagmaaGreatDoor
