/- The document's builder: Go, Set. -/
import Derived.Test.YtjfnpokebaagmaaGreatDoorRbC
import Derived.Test.YtjfnpokebaagmaaGreatDoorPbE
import Derived.Test.YtjfnpokebaagmaaGreatDoorRefPl
namespace Go.Proofs.YtjfnpokebaagmaaGreatDoor
open Go.RowKit Go.Deep Go.Maps
set_option linter.unusedVariables false
attribute [local go_sem] Oper.semAt_some
theorem goes_mem (op : Int) : decide (op ∈ [(36 : Int), 37, 38, 39, 40]) = goesB op := by
  unfold goesB
  rw [Bool.eq_iff_iff]
  simp
  omega
theorem useM_bad {bm : BM} {s : Nm} {p : Int} (h : isL s = false) : useM bm s p = (8, bm) := by unfold useM; rw [if_pos h]
theorem useM_ok {bm : BM} {s : Nm} {p : Int} (h : isL s = true) : useM bm s p = (0, { bm with uses := bm.uses ++ [(s, p)] }) := by unfold useM; rw [if_neg (by rw [h]; decide)]
set_option maxRecDepth 100000 in
set_option maxHeartbeats 1000000 in
theorem rgo_calls {w : World} {x : Nat} {bm : BM} {F : List Nat} (h : RB w x bm F) (op d a : Int) (s : Nm) (hs : s.length ≤ 1000000) (hl : bm.code.length ≤ 900000) (hu : bm.uses.length ≤ 1000000) :
    Calls Tryz.prog 28 #[.pointer (some ⟨x, 0, none⟩), .int .i64 op, .int .i64 d, .int .i64 a, strV s] w (GoR (goM bm op d a s) x F w) := by
  have H := hide h
  have hsl : Sl (w.alloc (.cells #[.int .i64 36, .int .i64 37, .int .i64 38, .int .i64 39, .int .i64 40] 3)) (.slice (some ⟨w.heap.size, 0, none⟩) 5 5) (i64s [36, 37, 38, 39, 40]) := Sl.blk' (Blk.new w 3 (i64s [36, 37, 38, 39, 40])) rfl (Nat.le_refl _)
  have hin := in_any (some ⟨w.heap.size, 0, none⟩) 5 op [36, 37, 38, 39, 40] _ hsl (by decide)
  rw [goes_mem] at hin
  have hc1 : Chg w (w.alloc (.cells #[.int .i64 36, .int .i64 37, .int .i64 38, .int .i64 39, .int .i64 40] 3)) [] := (Chg.refl w []).alloc _
  cases hg : goesB op with
  | false =>
    rw [goM_bad hg]
    rw [hg] at hin
    clear hg h hsl hc1
    unfold strV
    go_enter Tryz.func28, Tryz.ntmps28
    go_wp2_with fail
    go_at_call 49
    refine hin.mono ?_
    rintro e w1 ⟨rfl, rfl⟩
    go_wp2
    go_ret
    exact ⟨rfl, (Chg.refl w F).alloc _, F, Sub.refl _ _, H.out.chg ((Chg.refl w []).alloc _) (by simp)⟩
  | true =>
    rw [hg] at hin
    by_cases h0 : chk op d a 0 0 = 0
    · cases hi : isL s with
      | false =>
        rw [goM_name hg h0 hi]
        have HUM := hide (fun p => @useM_bad bm s p hi)
        have H0 := hide h0
        clear hg h hsl hc1 h0 hi
        unfold strV
        go_enter Tryz.func28, Tryz.ntmps28
        go_wp2_with fail
        go_at_call 49
        refine hin.mono ?_
        rintro e w1 ⟨rfl, hw1⟩
        have hc1 : Chg w w1 [] := by rw [← hw1]; exact (Chg.refl w []).alloc _
        have HC1 := hide hc1
        clear hw1 hc1 hin
        have hck := refcheck_any op d a 0 0 (w1.alloc (.cells #[.int .i64 op, .int .i64 d, .int .i64 a, .int .i64 0, .int .i64 0] 25))
        rw [H0.out] at hck
        unfold insV at hck
        go_wp2_with fail
        go_at_call 47
        refine hck.mono ?_
        rintro e w2 ⟨rfl, hc2⟩
        have hc2' : Chg w w2 [] := HC1.out.trans (((Chg.refl w1 []).alloc _).trans hc2 (by simp)) (by simp)
        have hp2 := H.out.chg hc2' (by simp)
        have hus := ruse_calls (hp2.chg (Chg.refl w2 []).drew (by simp)) s bm.code.length hs hu
        rw [HUM.out] at hus
        have HUS := hide hus
        have HC2 := hide hc2'
        obtain ⟨cv, dv, uv, hp3, rfl⟩ := hp2
        have c0 := hp3.blk.cell' (i := 0) rfl
        obtain ⟨A, c, rfl⟩ := own_slice hp3.rc
        unfold strV at HUS
        clear hc2 hc2' hus hck hp3
        go_wp2
        go_still_tail 9, (by kernel_rfl)
        change wpList _ _ _ _ _ w2.drew
        go_wp2_with fail
        go_at_call 50
        refine HUS.out.mono ?_
        rintro e w3 ⟨rfl, hc3, F3, hs3, hp3⟩
        have HC3 := hide (((Chg.refl w2 _).drew).trans hc3 (fun k hk => .inl hk))
        have HS3 : Hid (Sub F3 _ w2) := hide hs3
        have HP3 := hide hp3
        clear hc3 hs3 hp3
        go_wp2
        go_ret
        refine ⟨rfl, (HC2.out.more (by simp)).trans HC3.out (fun k hk => .inl hk), F3, fun k hk => ?_, HP3.out⟩
        rcases HS3.out k hk with h | h
        · exact .inl h
        · exact .inr (by have := HC2.out.size; omega)
      | true =>
        rw [goM_ok hg h0 hi]
        have HUM := hide (fun p => @useM_ok bm s p hi)
        have H0 := hide h0
        clear hg h hsl hc1 h0 hi
        unfold strV
        go_enter Tryz.func28, Tryz.ntmps28
        go_wp2_with fail
        go_at_call 49
        refine hin.mono ?_
        rintro e w1 ⟨rfl, hw1⟩
        have hc1 : Chg w w1 [] := by rw [← hw1]; exact (Chg.refl w []).alloc _
        have HC1 := hide hc1
        clear hw1 hc1 hin
        have hck := refcheck_any op d a 0 0 (w1.alloc (.cells #[.int .i64 op, .int .i64 d, .int .i64 a, .int .i64 0, .int .i64 0] 25))
        rw [H0.out] at hck
        unfold insV at hck
        go_wp2_with fail
        go_at_call 47
        refine hck.mono ?_
        rintro e w2 ⟨rfl, hc2⟩
        have hc2' : Chg w w2 [] := HC1.out.trans (((Chg.refl w1 []).alloc _).trans hc2 (by simp)) (by simp)
        have hp2 := H.out.chg hc2' (by simp)
        have hbx := (Blk.new w1 25 [.int .i64 op, .int .i64 d, .int .i64 a, .int .i64 0, .int .i64 0]).chg hc2 (by simp)
        have hfar : w1.heap.size ∉ F := fun hm => by have := H.out.lt _ hm; have := HC1.out.size; omega
        have HFAR := hide hfar
        have HBX := hide hbx
        have hus := ruse_calls (hp2.chg (Chg.refl w2 []).drew (by simp)) s bm.code.length hs hu
        rw [HUM.out] at hus
        have HUS := hide hus
        have HC2 := hide hc2'
        obtain ⟨cv, dv, uv, hp3, hF⟩ := hp2
        have HF := hide hF
        have c0 := hp3.blk.cell' (i := 0) rfl
        obtain ⟨A, c, rfl⟩ := own_slice hp3.rc
        unfold strV at HUS
        clear hc2 hc2' hus hck hp3 hF hbx hfar
        go_wp2
        go_still_tail 9, (by kernel_rfl)
        change wpList _ _ _ _ _ w2.drew
        go_wp2_with fail
        go_at_call 50
        refine HUS.out.mono ?_
        rintro e w3 ⟨rfl, hc3, F3, hs3, hp3⟩
        have hc3' : Chg w2 w3 F := ((Chg.refl w2 F).drew).trans hc3 (fun k hk => .inl hk)
        have HC3 := hide hc3'
        have HS3 : Hid (Sub F3 F w2) := hide hs3
        have hin4 := rins_ok hp3 ⟨op, d, a, 0, 0⟩ (by show bm.code.length ≤ _; omega) H0.out
        have hbx3 := HBX.out.chg hc3' HFAR.out
        have x0 := hbx3.cell' (i := 0) rfl
        have x1 := hbx3.cell' (i := 1) rfl
        have x2 := hbx3.cell' (i := 2) rfl
        have x3 := hbx3.cell' (i := 3) rfl
        have x4 := hbx3.cell' (i := 4) rfl
        have HI4 := hide hin4
        unfold insVal at HI4
        clear hc3 hc3' hs3 hp3 hin4 hbx3
        go_wp2_with fail
        go_at_call 26
        refine HI4.out.mono ?_
        intro e w4 hgp
        have hcw3 : Chg w w3 F := (HC2.out.more (by simp)).trans HC3.out (fun k hk => .inl hk)
        have hG := GoR.mk2 hcw3 (fun k hk => by
          rcases HS3.out k hk with h | h
          · exact .inl h
          · exact .inr (by have := HC2.out.size; omega)) hgp
        obtain ⟨rfl, hc4, F4, hs4, hp4⟩ := hG
        have HC4 := hide hc4
        have HS4 := hide hs4
        have HP4 := hide hp4
        clear hgp hcw3 hc4 hs4 hp4
        go_wp2
        go_ret
        exact ⟨rfl, HC4.out, F4, HS4.out, HP4.out⟩
    · skip
      rw [goM_chk hg h0]
      have hx0 : (chk op d a 0 0 == 0) = false := beq_eq_false_iff_ne.2 h0
      have hx1 : (chk op d a 0 0 != 0) = true := bne_iff_ne.2 h0
      have hck := fun W => refcheck_any op d a 0 0 W
      generalize chk op d a 0 0 = e0 at *
      clear hg h0 h hsl hc1
      unfold strV insV at *
      go_enter Tryz.func28, Tryz.ntmps28
      go_wp2_with fail
      go_at_call 49
      refine hin.mono ?_
      rintro e w1 ⟨rfl, hw1⟩
      have hc1 : Chg w w1 [] := by rw [← hw1]; exact (Chg.refl w []).alloc _
      have HC1 := hide hc1
      clear hw1 hc1 hin
      go_wp2_with fail
      go_at_call 47
      refine (hck _).mono ?_
      rintro e w2 ⟨rfl, hc2⟩
      have hc2' : Chg w w2 [] := HC1.out.trans (((Chg.refl w1 []).alloc _).trans hc2 (by simp)) (by simp)
      have HC2 := hide hc2'
      clear hc2 hc2' hck
      go_wp2
      go_ret
      exact ⟨rfl, HC2.out.more (by simp), F, Sub.refl _ _, H.out.chg HC2.out (by simp)⟩
end Go.Proofs.YtjfnpokebaagmaaGreatDoor
