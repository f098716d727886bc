/- The document's table of names: Place, Define, Use. -/
import Derived.Test.YtjfnpokebaagmaaGreatDoorRbA
namespace Go.Proofs.YtjfnpokebaagmaaGreatDoor
open Go.RowKit Go.Deep Go.Maps
set_option linter.unusedVariables false
attribute [local go_sem] Oper.semAt_some
theorem findL_take (l : List (Nm × Int)) (s : Nm) (k : Nat) (a : Nm × Int) (h : l[k]? = some a) (h0 : findL (l.take k) s = none) :
    findL l s = if a.1 = s then some a.2 else findL l s := by
  by_cases e : a.1 = s
  · rw [if_pos e]
    obtain ⟨hlt, he⟩ := List.getElem?_eq_some_iff.1 h
    have hd : l = l.take k ++ a :: l.drop (k + 1) := by rw [← he, ← List.drop_eq_getElem_cons hlt, List.take_append_drop]
    unfold findL at h0 ⊢
    rw [hd, List.find?_append]
    have hn : (l.take k).find? (fun p => p.1 == s) = none := by
      cases hq : (l.take k).find? (fun p => p.1 == s) with
      | none => rfl
      | some q => rw [hq] at h0; simp at h0
    rw [hn]
    simp [e]
  · rw [if_neg e]
theorem findL_next (l : List (Nm × Int)) (s : Nm) (k : Nat) (a : Nm × Int) (h : l[k]? = some a) (h0 : findL (l.take k) s = none) (he : a.1 ≠ s) : findL (l.take (k + 1)) s = none := by
  rw [List.take_add_one, h]
  obtain ⟨n, p⟩ := a
  show findL (l.take k ++ [(n, p)]) s = none
  rw [findL_snoc, h0]
  simp [show ¬ n = s from he]
set_option maxRecDepth 100000 in
set_option maxHeartbeats 1000000 in
theorem rplace_calls {w : World} {x : Nat} {cv dv uv : Value} {bm : BM} (h : RBS w x cv dv uv bm) (s : Nm) (hd : bm.defs.length ≤ 1000000) :
    Calls Tryz.prog 57 #[.pointer (some ⟨x, 1, none⟩), strV s] w fun e w' => e = .returned (.tuple #[.int .i64 ((findL bm.defs s).getD 0), .bool (findL bm.defs s).isSome]) ∧ w = w' := by
  have c1 := h.blk.cell' (i := 1) rfl
  obtain ⟨A, c, rfl, hx⟩ := row_open h.rd
  have HX := hide hx
  clear h hx
  unfold strV
  go_enter Tryz.func57, Tryz.ntmps57
  go_wp2
  go_loopw [6] (fun i wr => ∃ k : Nat, k ≤ bm.defs.length ∧ i = .int .i64 k ∧ Hid (findL (bm.defs.take k) s = none) ∧ w = wr) (fun i _ => bm.defs.length - (intOf i).toNat)
  case atStart => exact ⟨0, Nat.zero_le _, rfl, hide (by simp [findL]), rfl⟩
  case round =>
    obtain ⟨k, hk, rfl, HT, rfl⟩ := hrel
    by_cases hlt : k < bm.defs.length
    · obtain ⟨g, rfl, hgl, hgb, hcells⟩ := HX.out (by omega)
      obtain ⟨⟨s', p⟩, hsp⟩ : ∃ x, bm.defs[k]? = some x := ⟨bm.defs[k], by simp [hlt]⟩
      obtain ⟨q0, q1⟩ := pair_at (fun p : Nm × Int => strV p.1) (fun p => .int .i64 p.2) bm.defs k (s', p) hsp
      have ca := hcells _ _ q0
      have cb := hcells _ _ q1
      have HF := hide (findL_take bm.defs s k (s', p) hsp HT.out)
      have HN := hide (findL_next bm.defs s k (s', p) hsp HT.out)
      clear hcells hsp q0 q1
      unfold strV at ca
      by_cases he : s' = s
      · have HF2 := hide (HF.out.trans (if_pos he))
        subst he
        clear HF HN
        have hx : (s' == s') = true := by simp
        go_wp2
        go_ret2
        refine ⟨?_, rfl⟩
        rw [HF2.out]
        rfl
      · have HE := hide (HN.out he)
        have hx : (s' == s) = false := beq_eq_false_iff_ne.2 he
        clear he
        go_wp2
        go_roundw
        case rel => exact ⟨k + 1, by omega, by go_num, HE, by trivial⟩
        case measure => simp [intOf]; omega
    · have hk2 : k = bm.defs.length := by omega
      subst hk2
      have ht := HT.out
      rw [List.take_length] at ht
      go_wp2
      go_ret2
      rw [ht]
      exact ⟨rfl, rfl⟩
theorem info_row : (Tryz.prog.info? 118).map (fun i => (i.zero, i.size, i.bytes)) = some (some (.agg #[.string ⟨#[]⟩, .int .i64 0]), 2, 24) := by kernel_rfl
set_option maxRecDepth 100000 in
set_option maxHeartbeats 1000000 in
theorem rdefine_calls {w : World} {x : Nat} {bm : BM} {F : List Nat} (h : RB w x bm F) (s : Nm) (p : Int) (hs : s.length ≤ 1000000) (hd : bm.defs.length ≤ 1000000) :
    Calls Tryz.prog 48 #[.pointer (some ⟨x, 1, none⟩), strV s, .int .i64 p] w (GoR (defM bm s p) x F w) := by
  obtain ⟨cv, dv, uv, hp, rfl⟩ := h
  obtain ⟨i0, hi, hz0, hz1, hz2⟩ := info_parts info_row
  have his := ris_calls s w hs
  have hpl := rplace_calls hp s hd
  have H := hide hp
  cases hb : isL s with
  | false =>
    have e0 : defM bm s p = (8, bm) := by unfold defM; rw [if_pos hb]
    rw [hb] at his
    rw [e0]
    clear hb e0 hp hpl
    unfold strV at *
    go_enter Tryz.func48, Tryz.ntmps48
    go_wp2_with (go_at_call 64; refine his.mono ?_; rintro e w1 ⟨rfl, rfl⟩)
    go_ret
    exact ⟨rfl, Chg.refl _ _, _, Sub.refl _ _, cv, dv, uv, H.out, rfl⟩
  | true =>
    rw [hb] at his
    cases hf : findL bm.defs s with
    | some q =>
      have e0 : defM bm s p = (9, bm) := by unfold defM; rw [if_neg (by rw [hb]; decide), hf]; rfl
      rw [hf] at hpl
      rw [e0]
      clear hb e0 hp hf
      unfold strV at *
      go_enter Tryz.func48, Tryz.ntmps48
      go_wp2_with (first | (go_at_call 64; refine his.mono ?_; rintro e w1 ⟨rfl, rfl⟩) | (go_at_call 57; refine hpl.mono ?_; rintro e w1 ⟨rfl, rfl⟩))
      go_ret
      exact ⟨rfl, Chg.refl _ _, _, Sub.refl _ _, cv, dv, uv, H.out, rfl⟩
    | none =>
      have e0 : defM bm s p = (0, { bm with defs := bm.defs ++ [(s, p)] }) := by unfold defM; rw [if_neg (by rw [hb]; decide), hf]; rfl
      rw [hf] at hpl
      rw [e0]
      have c1 := hp.blk.cell' (i := 1) rfl
      have f1 := hp.blk.frozen 1
      have hbl := hp.blk.lt
      obtain ⟨A, c, rfl⟩ := own_slice hp.rd
      clear hb e0 hp hf
      unfold strV at *
      go_enter Tryz.func48, Tryz.ntmps48
      go_wp2_with (first | (go_at_call 64; refine his.mono ?_; rintro e w1 ⟨rfl, rfl⟩) | (go_at_call 57; refine hpl.mono ?_; rintro e w1 ⟨rfl, rfl⟩) | (at_builtin; refine wpList_append_lies _ rfl _ _ 33 rfl 0 118 i0 (.agg #[.string ⟨#[]⟩, .int .i64 0]) 2 24 Tryz.underlying33 hi hz0 hz1 hz2 rfl (by decide) _ bm.defs.length _ rfl (H.out.rd.alloc _) ⟨w.heap.size, 0, none⟩ 1 1 [.string ⟨s.toArray⟩, .int .i64 p] rfl rfl two_new (by intro u hu; simp at hu; rcases hu with rfl | rfl <;> rfl) (by decide) (by unfold maxLen; omega) (by omega) (Nat.zero_le _) _ rfl ?_))
      intro g cap w2 hown hgr hg2 hg3
      obtain ⟨q1, q2, q3, q4, q5⟩ := H.out.ne'
      have hc2 : Chg w w2 (Value.slice A bm.defs.length c).ownBlock.toList := ((Chg.refl w _).alloc _).trans (Chg.of_grown hgr (fun k hk => .inl (by simp [hk]))) (fun k hk => .inl hk)
      have hb2 := H.out.blk.chg hc2 (by simpa using fun e => q2 e)
      have d1 := hb2.cell' (i := 1) rfl
      have k1 := hb2.frozen 1
      have HB2 := hide hb2
      have HC2 := hide hc2
      have HO2 := hide hown
      have HG := hide hg2
      have hxg : x ≠ g := fun e => by
        subst e
        rcases hg2 with h | h
        · exact q2 h
        · have := H.out.blk.lt
          omega
      have HXG := hide hxg
      clear hown hgr hb2 hc2 hg2 q1 q2 q3 q4 q5 hxg
      go_wp2
      go_ret
      obtain ⟨q1, q2, q3, q4, q5⟩ := H.out.ne'
      have hc3 : Chg w2 (w2.setCell ⟨x, 1, none⟩ (.slice (some ⟨g, 0, none⟩) (bm.defs.length + 1) cap)) [x] := (Chg.refl w2 _).setCell _ _ (by simp)
      have hgn : ∀ u : Value, (∀ k, u.ownBlock = some k → k < w.heap.size) → u.ownBlock ≠ some g ∨ (Value.slice A bm.defs.length c).ownBlock = some g := fun u hu => by
        rcases HG.out with h | h
        · exact .inr (by omega)
        · exact .inl (fun e => by have := hu _ e; omega)
      refine ⟨rfl, ?_, _, ?_, cv, .slice (some ⟨g, 0, none⟩) (bm.defs.length + 1) cap, uv, ⟨HB2.out.set_ 1 _, ?_, ?_, ?_, ?_⟩, rfl⟩
      · exact (HC2.out.more (D' := footR x cv (.slice A bm.defs.length c) uv) (fun k hk => .inl (by simp only [footR, List.mem_append]; exact .inr (.inr (.inl hk))))).trans (hc3.more (D' := footR x cv (.slice A bm.defs.length c) uv) (fun k hk => .inl (by simp only [footR, List.mem_append]; exact .inl hk))) (fun k hk => .inl hk)
      · intro k hk
        simp only [footR, List.mem_append, List.mem_singleton, Option.mem_toList] at hk ⊢
        rcases hk with hk | hk | hk | hk
        · exact .inl (.inl hk)
        · exact .inl (.inr (.inl hk))
        · have hk : g = k := by simpa [Value.ownBlock] using hk
          subst hk
          rcases HG.out with h | h
          · exact .inl (.inr (.inr (.inl h)))
          · exact .inr (by omega)
        · exact .inl (.inr (.inr (.inr hk)))
      · refine own_chgD (own_chgD H.out.rc HC2.out (fun g' hg' => ?_)) hc3 (fun g' hg' => ?_)
        · simp only [Option.mem_toList]
          exact fun e => q4 g' e hg'
        · simp only [List.mem_singleton]
          rintro rfl
          exact q1 hg'
      · rw [useCells_snoc, List.length_append]
        exact own_chgD HO2.out hc3 (fun k hk => by simp [Value.ownBlock] at hk; subst hk; simpa using fun e => HXG.out e.symm)
      · refine own_chgD (own_chgD H.out.ru HC2.out (fun g' hg' => ?_)) hc3 (fun g' hg' => ?_)
        · simp only [Option.mem_toList]
          exact fun e => H.out.ne g' e hg'
        · simp only [List.mem_singleton]
          rintro rfl
          exact q3 hg'
      · intro g' hg' hu
        have hg' : g = g' := by simpa [Value.ownBlock] using hg'
        subst hg'
        rcases HG.out with h | h
        · exact H.out.ne g h hu
        · have := (H.out.ru.lt g hu).2
          omega
set_option maxRecDepth 100000 in
set_option maxHeartbeats 1000000 in
theorem ruse_calls {w : World} {x : Nat} {bm : BM} {F : List Nat} (h : RB w x bm F) (s : Nm) (p : Int) (hs : s.length ≤ 1000000) (hd : bm.uses.length ≤ 1000000) :
    Calls Tryz.prog 50 #[.pointer (some ⟨x, 1, none⟩), strV s, .int .i64 p] w (GoR (useM bm s p) x F w) := by
  obtain ⟨cv, dv, uv, hp, rfl⟩ := h
  obtain ⟨i0, hi, hz0, hz1, hz2⟩ := info_parts info_row
  have his := ris_calls s w hs
  have H := hide hp
  cases hb : isL s with
  | false =>
    have e0 : useM bm s p = (8, bm) := by unfold useM; rw [if_pos hb]
    rw [hb] at his
    rw [e0]
    clear hb e0 hp
    unfold strV at *
    go_enter Tryz.func50, Tryz.ntmps50
    go_wp2_with (go_at_call 64; refine his.mono ?_; rintro e w1 ⟨rfl, rfl⟩)
    go_ret
    exact ⟨rfl, Chg.refl _ _, _, Sub.refl _ _, cv, dv, uv, H.out, rfl⟩
  | true =>
    rw [hb] at his
    have e0 : useM bm s p = (0, { bm with uses := bm.uses ++ [(s, p)] }) := by unfold useM; rw [if_neg (by rw [hb]; decide)]
    rw [e0]
    have c1 := hp.blk.cell' (i := 2) rfl
    have f1 := hp.blk.frozen 2
    have hbl := hp.blk.lt
    obtain ⟨A, c, rfl⟩ := own_slice hp.ru
    clear hb e0 hp
    unfold strV at *
    go_enter Tryz.func50, Tryz.ntmps50
    go_wp2_with (first | (go_at_call 64; refine his.mono ?_; rintro e w1 ⟨rfl, rfl⟩) | (at_builtin; refine wpList_append_lies _ rfl _ _ 33 rfl 0 118 i0 (.agg #[.string ⟨#[]⟩, .int .i64 0]) 2 24 Tryz.underlying33 hi hz0 hz1 hz2 rfl (by decide) _ bm.uses.length _ rfl (H.out.ru.alloc _) ⟨w.heap.size, 0, none⟩ 1 1 [.string ⟨s.toArray⟩, .int .i64 p] rfl rfl two_new (by intro u hu; simp at hu; rcases hu with rfl | rfl <;> rfl) (by decide) (by unfold maxLen; omega) (by omega) (Nat.zero_le _) _ rfl ?_))
    intro g cap w2 hown hgr hg2 hg3
    obtain ⟨q1, q2, q3, q4, q5⟩ := H.out.ne'
    have hc2 : Chg w w2 (Value.slice A bm.uses.length c).ownBlock.toList := ((Chg.refl w _).alloc _).trans (Chg.of_grown hgr (fun k hk => .inl (by simp [hk]))) (fun k hk => .inl hk)
    have hb2 := H.out.blk.chg hc2 (by simpa using fun e => q3 e)
    have d1 := hb2.cell' (i := 2) rfl
    have k1 := hb2.frozen 2
    have HB2 := hide hb2
    have HC2 := hide hc2
    have HO2 := hide hown
    have HG := hide hg2
    have hxg : x ≠ g := fun e => by
      subst e
      rcases hg2 with h | h
      · exact q3 h
      · have := H.out.blk.lt
        omega
    have HXG := hide hxg
    clear hown hgr hb2 hc2 hg2 q1 q2 q3 q4 q5 hxg
    go_wp2
    go_ret
    obtain ⟨q1, q2, q3, q4, q5⟩ := H.out.ne'
    have hc3 : Chg w2 (w2.setCell ⟨x, 2, none⟩ (.slice (some ⟨g, 0, none⟩) (bm.uses.length + 1) cap)) [x] := (Chg.refl w2 _).setCell _ _ (by simp)
    refine ⟨rfl, ?_, _, ?_, cv, dv, .slice (some ⟨g, 0, none⟩) (bm.uses.length + 1) cap, ⟨HB2.out.set_ 2 _, ?_, ?_, ?_, ?_⟩, rfl⟩
    · exact (HC2.out.more (D' := footR x cv dv (.slice A bm.uses.length c)) (fun k hk => .inl (by simp only [footR, List.mem_append]; exact .inr (.inr (.inr hk))))).trans (hc3.more (D' := footR x cv dv (.slice A bm.uses.length c)) (fun k hk => .inl (by simp only [footR, List.mem_append]; exact .inl hk))) (fun k hk => .inl hk)
    · intro k hk
      simp only [footR, List.mem_append, List.mem_singleton, Option.mem_toList] at hk ⊢
      rcases hk with hk | hk | hk | hk
      · exact .inl (.inl hk)
      · exact .inl (.inr (.inl hk))
      · exact .inl (.inr (.inr (.inl hk)))
      · have hk : g = k := by simpa [Value.ownBlock] using hk
        subst hk
        rcases HG.out with h | h
        · exact .inl (.inr (.inr (.inr h)))
        · exact .inr (by omega)
    · refine own_chgD (own_chgD H.out.rc HC2.out (fun g' hg' => ?_)) hc3 (fun g' hg' => ?_)
      · simp only [Option.mem_toList]
        exact fun e => q5 g' e hg'
      · simp only [List.mem_singleton]
        rintro rfl
        exact q1 hg'
    · refine own_chgD (own_chgD H.out.rd HC2.out (fun g' hg' => ?_)) hc3 (fun g' hg' => ?_)
      · simp only [Option.mem_toList]
        exact fun e => H.out.ne g' hg' e
      · simp only [List.mem_singleton]
        rintro rfl
        exact q2 hg'
    · rw [useCells_snoc, List.length_append]
      exact own_chgD HO2.out hc3 (fun k hk => by simp [Value.ownBlock] at hk; subst hk; simpa using fun e => HXG.out e.symm)
    · intro g' hg' hu
      have hu : g = g' := by simpa [Value.ownBlock] using hu
      subst hu
      rcases HG.out with h | h
      · exact H.out.ne g hg' h
      · have := (H.out.rd.lt g hg').2
        omega
end Go.Proofs.YtjfnpokebaagmaaGreatDoor
