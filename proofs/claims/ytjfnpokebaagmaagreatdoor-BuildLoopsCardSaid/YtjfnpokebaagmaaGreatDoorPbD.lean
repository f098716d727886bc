/- The program's builder: an instruction that goes to a name. -/
import Derived.Test.YtjfnpokebaagmaaGreatDoorPbC
namespace Go.Proofs.YtjfnpokebaagmaaGreatDoor
open Go.RowKit Go.Deep Go.Maps
set_option linter.unusedVariables false
attribute [local go_sem] Oper.semAt_some
theorem PBS.lt {w : World} {b t m n : Nat} {cv uv : Value} {bm : BM} (h : PBS w b t m cv uv n bm) : ∀ k ∈ footP b t m cv uv, k < w.heap.size := by
 intro k hk
 simp only [footP, footT, List.mem_append, List.mem_cons, List.not_mem_nil, or_false, Option.mem_toList] at hk
 rcases hk with (rfl | hk) | (rfl | rfl) | hk
 · exact h.blk.lt
 · exact (h.row.lt k hk).2
 · exact h.tab.blk.lt
 · exact h.tab.map.lt
 · exact (h.tab.row.lt k hk).2
theorem PB.lt {w : World} {b : Nat} {bm : BM} {F : List Nat} (h : PB w b bm F) : ∀ k ∈ F, k < w.heap.size := by
 obtain ⟨t, m, cv, uv, n, hp, rfl, _⟩ := h
 exact hp.lt
theorem goM_bad {bm : BM} {op d a : Int} {s : Nm} (h : goesB op = false) : goM bm op d a s = (2, bm) := by unfold goM; rw [if_pos h]
theorem goM_chk {bm : BM} {op d a : Int} {s : Nm} (h : goesB op = true) (h2 : chk op d a 0 0 ≠ 0) : goM bm op d a s = (chk op d a 0 0, bm) := by
 unfold goM chkI; rw [if_neg (by rw [h]; decide), if_pos h2]
theorem goM_name {bm : BM} {op d a : Int} {s : Nm} (h : goesB op = true) (h2 : chk op d a 0 0 = 0) (h3 : isL s = false) : goM bm op d a s = (8, bm) := by
 unfold goM chkI; rw [if_neg (by rw [h]; decide), if_neg (by simp [h2]), if_pos h3]
theorem goM_ok {bm : BM} {op d a : Int} {s : Nm} (h : goesB op = true) (h2 : chk op d a 0 0 = 0) (h3 : isL s = true) : goM bm op d a s = (0, { bm with uses := bm.uses ++ [(s, (bm.code.length : Int))], code := bm.code ++ [⟨op, d, a, 0, 0⟩] }) := by
 unfold goM chkI; rw [if_neg (by rw [h]; decide), if_neg (by simp [h2]), if_neg (by rw [h3]; decide)]
theorem insM_ok {bm : BM} {i : Ins5} (h : chkI i = 0) : insM bm i = (0, { bm with code := bm.code ++ [i] }) := by unfold insM; simp [h]
def GoP (r : Int × BM) (b : Nat) (F : List Nat) (w : World) (e : Ending) (w' : World) : Prop := e = .returned (.int .i64 r.1) ∧ Chg w w' F ∧ ∃ F', Sub F' F w ∧ PB w' b r.2 F'
set_option maxRecDepth 100000 in
set_option maxHeartbeats 1000000 in
theorem go_calls {w : World} {b : Nat} {bm : BM} {F : List Nat} (h : PB w b bm F) (op d a : Int) (s : Nm) (hs : s.length ≤ 1000000) (hl : bm.code.length ≤ 900000) (hu : bm.uses.length ≤ 1000000) :
 Calls Tryz.prog 24 #[.pointer (some ⟨b, 0, none⟩), .int .i64 op, .int .i64 d, .int .i64 a, strV s] w (GoP (goM bm op d a s) b F w) := by
 have hlt := h.lt
 obtain ⟨t, m, cv, uv, n, hp, rfl, hn⟩ := h
 have HP := hide hp
 have hnx := hide hn
 have HLT := hide hlt
 have hq : ∀ k ∈ footP b t m cv uv, k ∉ [w.heap.size] := fun k hk => by have := hlt k hk; simp; omega
 have hck := check_any op d a 0 0 (w.alloc (.cells #[.int .i64 op, .int .i64 d, .int .i64 a, .int .i64 0, .int .i64 0] 25))
 clear hp hn hlt
 cases hg : goesB op with
 | false =>
  rw [goM_bad hg]
  have hgo := fun W => goes_calls op W
  rw [hg] at hgo
  clear hg
  unfold strV insV at *
  go_enter Tryz.func24, Tryz.ntmps24
  go_wp2_with fail
  go_at_call 40
  refine hck.mono ?_
  rintro e w1 ⟨rfl, hc⟩
  have hc0 : Chg w w1 [] := ((Chg.refl w []).alloc _).trans hc (by simp)
  have HP1 := hide (HP.out.chg hc0 (by simp))
  have hlv := blive_calls HP1.out
  have HC := hide hc0
  clear hc hc0 hck
  go_wp2_with (first | (go_at_call 33; refine hlv.mono ?_; rintro e w1 ⟨rfl, rfl⟩) | (go_at_call 45; refine (hgo _).mono ?_; rintro e w1 ⟨rfl, rfl⟩))
  go_ret
  exact ⟨rfl, HC.out.more (by simp), _, Sub.refl _ _, t, m, cv, uv, n, HP1.out, rfl, hnx.out⟩
 | true =>
  by_cases h0 : chk op d a 0 0 = 0
  · cases hi : isL s with
    | false =>
     rw [goM_name hg h0 hi]
     rw [h0] at hck
     have hgo := fun W => goes_calls op W
     rw [hg] at hgo
     have em : mayE s = 8 := by unfold mayE; rw [hi]; rfl
     have eu : useD bm.uses s bm.code.length = bm.uses := by unfold useD; rw [hi]; rfl
     have HEM := hide em
     have HEU := hide eu
     clear hg h0 hi em eu
     unfold strV insV at *
     go_enter Tryz.func24, Tryz.ntmps24
     go_wp2_with fail
     go_at_call 40
     refine hck.mono ?_
     rintro e w1 ⟨rfl, hc⟩
     have hc0 : Chg w w1 [] := ((Chg.refl w []).alloc _).trans hc (by simp)
     have HP1 := hide (HP.out.chg hc0 (by simp))
     have hlv := blive_calls HP1.out
     have hbx := (Blk.new w 25 [.int .i64 op, .int .i64 d, .int .i64 a, .int .i64 0, .int .i64 0]).chg hc (by simp)
     have HBX := hide hbx
     have HC := hide hc0
     have c0 := HP1.out.blk.cell' (i := 0) rfl
     have c1 := HP1.out.blk.cell' (i := 1) rfl
     have hus := use_calls (HP1.out.tab.chg (Chg.refl w1 []).drew (by simp)) s bm.code.length hs hu
     rw [HEM.out, HEU.out] at hus
     obtain ⟨A, c, rfl⟩ := own_slice HP1.out.row
     unfold strV at hus
     clear hc hc0 hbx hck
     go_wp2_with (first | (go_at_call 33; refine hlv.mono ?_; rintro e w1 ⟨rfl, rfl⟩) | (go_at_call 45; refine (hgo _).mono ?_; rintro e w1 ⟨rfl, rfl⟩))
     go_still_tail 10, (by kernel_rfl)
     change wpList _ _ _ _ _ w1.drew
     go_wp2_with fail
     go_at_call 46
     refine hus.mono ?_
     rintro e w2 ⟨rfl, hc2, uv', hrn, ht2⟩
     have hsub : ∀ k ∈ [t] ++ uv.ownBlock.toList, k ∈ footP b t m (.slice A bm.code.length c) uv := fun k hk => by
      simp only [footP, footT, List.mem_append, List.mem_cons, List.not_mem_nil, or_false] at hk ⊢
      rcases hk with hk | hk
      · exact .inr (.inl (.inl hk))
      · exact .inr (.inr hk)
     have hc2' : Chg w1 w2 ([t] ++ uv.ownBlock.toList) := ((Chg.refl w1 []).drew.more (by simp)).trans hc2 (fun k hk => .inl hk)
     obtain ⟨q1, q2, q3, q4, q5, q6⟩ := HP1.out.ne
     have hP2 : PBS w2 b t m (.slice A bm.code.length c) uv' n bm := ⟨HP1.out.blk.chg hc2' (fun hm => by
      simp only [List.mem_append, List.mem_singleton, Option.mem_toList] at hm
      rcases hm with hm | hm
      · exact q1 hm
      · exact (q6 b hm).1 rfl), ht2, own_chgD HP1.out.row hc2' (fun g hg hm => by
      simp only [List.mem_append, List.mem_singleton, Option.mem_toList] at hm
      rcases hm with rfl | hm
      · exact q4 hg
      · exact (q6 g hm).2 hg)⟩
     have hF1 : Sub (footP b t m (.slice A bm.code.length c) uv') (footP b t m (.slice A bm.code.length c) uv) w := fun k hk => by
      simp only [footP, footT, List.mem_append, List.mem_cons, List.not_mem_nil, or_false, Option.mem_toList] at hk ⊢
      rcases hk with hk | hk | hk
      · exact .inl (.inl hk)
      · exact .inl (.inr (.inl hk))
      · rcases hrn with h | ⟨g, h, hg⟩
        · exact .inl (.inr (.inr (by rw [← h]; exact hk)))
        · rw [h] at hk
          injection hk with hk
          subst hk
          have : w1.heap.size ≤ g := hg
          exact .inr (by have := HC.out.size; omega)
     have HF1 := hide hF1
     have HC2 : Hid (Chg w w2 (footP b t m (.slice A bm.code.length c) uv)) := hide ((HC.out.more (by simp)).trans (hc2'.more (fun k hk => .inl (hsub k hk))) (fun k hk => .inl hk))
     have HP2 := hide hP2
     clear hc2 hc2' ht2 hP2 hF1 q1 q2 q3 q4 q5 q6 hrn hsub hus
     go_wp2
     go_ret
     exact ⟨rfl, HC2.out, _, HF1.out, t, m, _, uv', n, HP2.out, rfl, hnx.out⟩
    | true =>
     rw [goM_ok hg h0 hi]
     rw [h0] at hck
     have hgo := fun W => goes_calls op W
     rw [hg] at hgo
     have em : mayE s = 0 := by unfold mayE; rw [hi]; rfl
     have eu : useD bm.uses s bm.code.length = bm.uses ++ [(s, (bm.code.length : Int))] := by unfold useD; rw [hi]; rfl
     have HI := hide (insM_ok (bm := { bm with uses := bm.uses ++ [(s, (bm.code.length : Int))] }) (i := ⟨op, d, a, 0, 0⟩) h0)
     have HEM := hide em
     have HEU := hide eu
     clear hg h0 hi em eu
     unfold strV insV at *
     go_enter Tryz.func24, Tryz.ntmps24
     go_wp2_with fail
     go_at_call 40
     refine hck.mono ?_
     rintro e w1 ⟨rfl, hc⟩
     have hc0 : Chg w w1 [] := ((Chg.refl w []).alloc _).trans hc (by simp)
     have HP1 := hide (HP.out.chg hc0 (by simp))
     have hlv := blive_calls HP1.out
     have hbx := (Blk.new w 25 [.int .i64 op, .int .i64 d, .int .i64 a, .int .i64 0, .int .i64 0]).chg hc (by simp)
     have HBX := hide hbx
     have HC := hide hc0
     have c0 := HP1.out.blk.cell' (i := 0) rfl
     have c1 := HP1.out.blk.cell' (i := 1) rfl
     have hus := use_calls (HP1.out.tab.chg (Chg.refl w1 []).drew (by simp)) s bm.code.length hs hu
     rw [HEM.out, HEU.out] at hus
     obtain ⟨A, c, rfl⟩ := own_slice HP1.out.row
     unfold strV at hus
     clear hc hc0 hbx hck
     go_wp2_with (first | (go_at_call 33; refine hlv.mono ?_; rintro e w1 ⟨rfl, rfl⟩) | (go_at_call 45; refine (hgo _).mono ?_; rintro e w1 ⟨rfl, rfl⟩))
     go_still_tail 10, (by kernel_rfl)
     change wpList _ _ _ _ _ w1.drew
     go_wp2_with fail
     go_at_call 46
     refine hus.mono ?_
     rintro e w2 ⟨rfl, hc2, uv', hrn, ht2⟩
     have hsub : ∀ k ∈ [t] ++ uv.ownBlock.toList, k ∈ footP b t m (.slice A bm.code.length c) uv := fun k hk => by
      simp only [footP, footT, List.mem_append, List.mem_cons, List.not_mem_nil, or_false] at hk ⊢
      rcases hk with hk | hk
      · exact .inr (.inl (.inl hk))
      · exact .inr (.inr hk)
     have hc2' : Chg w1 w2 ([t] ++ uv.ownBlock.toList) := ((Chg.refl w1 []).drew.more (by simp)).trans hc2 (fun k hk => .inl hk)
     obtain ⟨q1, q2, q3, q4, q5, q6⟩ := HP1.out.ne
     have hP2 : PBS w2 b t m (.slice A bm.code.length c) uv' n { bm with uses := bm.uses ++ [(s, (bm.code.length : Int))] } := ⟨HP1.out.blk.chg hc2' (fun hm => by
      simp only [List.mem_append, List.mem_singleton, Option.mem_toList] at hm
      rcases hm with hm | hm
      · exact q1 hm
      · exact (q6 b hm).1 rfl), ht2, own_chgD HP1.out.row hc2' (fun g hg hm => by
      simp only [List.mem_append, List.mem_singleton, Option.mem_toList] at hm
      rcases hm with rfl | hm
      · exact q4 hg
      · exact (q6 g hm).2 hg)⟩
     have hin := ins_calls ⟨t, m, _, uv', n, hP2, rfl, hnx.out⟩ ⟨op, d, a, 0, 0⟩ (by show bm.code.length ≤ _; omega)
     rw [HI.out] at hin
     have hbx2 := HBX.out.chg hc2' (fun hm => hq _ (hsub _ hm) (by simp))
     have x0 := hbx2.cell' (i := 0) rfl
     have x1 := hbx2.cell' (i := 1) rfl
     have x2 := hbx2.cell' (i := 2) rfl
     have x3 := hbx2.cell' (i := 3) rfl
     have x4 := hbx2.cell' (i := 4) rfl
     have hF1 : Sub (footP b t m (.slice A bm.code.length c) uv') (footP b t m (.slice A bm.code.length c) uv) w := fun k hk => by
      simp only [footP, footT, List.mem_append, List.mem_cons, List.not_mem_nil, or_false, Option.mem_toList] at hk ⊢
      rcases hk with hk | hk | hk
      · exact .inl (.inl hk)
      · exact .inl (.inr (.inl hk))
      · rcases hrn with h | ⟨g, h, hg⟩
        · exact .inl (.inr (.inr (by rw [← h]; exact hk)))
        · rw [h] at hk
          injection hk with hk
          subst hk
          have : w1.heap.size ≤ g := hg
          exact .inr (by have := HC.out.size; omega)
     have HF1 := hide hF1
     have HC2 : Hid (Chg w w2 (footP b t m (.slice A bm.code.length c) uv)) := hide ((HC.out.more (by simp)).trans (hc2'.more (fun k hk => .inl (hsub k hk))) (fun k hk => .inl hk))
     unfold insVal at hin
     clear hc2 hc2' ht2 hP2 hbx2 hF1 q1 q2 q3 q4 q5 q6 hrn hsub hus
     go_wp2_with fail
     go_at_call 16
     refine hin.mono ?_
     rintro e w3 ⟨rfl, hc3, F', hs3, hp3⟩
     have HC3 := hide hc3
     have HS3 := hide hs3
     have HP3 := hide hp3
     clear hc3 hs3 hp3 hin
     go_wp2
     go_ret
     refine ⟨rfl, HC2.out.trans HC3.out (fun k hk => HF1.out k hk), F', fun k hk => ?_, HP3.out⟩
     rcases HS3.out k hk with h | h
     · exact HF1.out k h
     · exact .inr (by have := HC2.out.size; omega)
  · skip
    rw [goM_chk hg h0]
    have hgo := fun W => goes_calls op W
    rw [hg] at hgo
    have hx0 : (chk op d a 0 0 == 0) = false := beq_eq_false_iff_ne.2 h0
    generalize chk op d a 0 0 = e0 at *
    clear hg h0
    unfold strV insV at *
    go_enter Tryz.func24, Tryz.ntmps24
    go_wp2_with fail
    go_at_call 40
    refine hck.mono ?_
    rintro e w1 ⟨rfl, hc⟩
    have hc0 : Chg w w1 [] := ((Chg.refl w []).alloc _).trans hc (by simp)
    have HP1 := hide (HP.out.chg hc0 (by simp))
    have hlv := blive_calls HP1.out
    have HC := hide hc0
    clear hc hc0 hck
    go_wp2_with (first | (go_at_call 33; refine hlv.mono ?_; rintro e w1 ⟨rfl, rfl⟩) | (go_at_call 45; refine (hgo _).mono ?_; rintro e w1 ⟨rfl, rfl⟩))
    go_ret
    exact ⟨rfl, HC.out.more (by simp), _, Sub.refl _ _, t, m, cv, uv, n, HP1.out, rfl, hnx.out⟩
end Go.Proofs.YtjfnpokebaagmaaGreatDoor
