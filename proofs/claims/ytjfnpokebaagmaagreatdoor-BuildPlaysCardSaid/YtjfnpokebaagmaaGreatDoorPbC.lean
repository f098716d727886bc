/- The program's builder: a label. -/
import Derived.Test.YtjfnpokebaagmaaGreatDoorPbB
import Derived.StillTailTactics
namespace Go.Proofs.YtjfnpokebaagmaaGreatDoor
open Go.RowKit Go.Deep Go.Maps
set_option linter.unusedVariables false
attribute [local go_sem] Oper.semAt_some
theorem defM_eq (bm : BM) (s : Nm) (p : Int) : defM bm s p = (defE bm.defs s, { bm with defs := defD bm.defs s p }) := by
  unfold defM defD defE
  cases h : isL s with
  | false => simp
  | true => cases h2 : (findL bm.defs s).isSome <;> simp
set_option maxRecDepth 100000 in
set_option maxHeartbeats 1000000 in
theorem label_calls {w : World} {b : Nat} {bm : BM} {F : List Nat} (h : PB w b bm F) (s : Nm) (hs : s.length ≤ 1000000) (hl : bm.code.length ≤ 1000000) (hd : bm.defs.length ≤ 1000000) :
    Calls Tryz.prog 23 #[.pointer (some ⟨b, 0, none⟩), strV s] w fun e w' => e = .returned (.int .i64 (labelM bm s).1) ∧ Chg w w' F ∧ ∃ F', Sub F' F w ∧ PB w' b (labelM bm s).2 F' := by
  obtain ⟨t, m, cv, uv, n, hp, rfl, hn⟩ := h
  unfold labelM
  rw [defM_eq]
  have HP := hide hp
  have hlv := blive_calls hp
  have hdf := define_calls (hp.tab.chg (Chg.refl w []).drew (by simp)) s bm.code.length hs (by omega) (by simp [Lit.wf, IntKind.min, IntKind.max, IntKind.signed, IntKind.bits]; omega)
  have c0 := hp.blk.cell' (i := 0) rfl
  have c1 := hp.blk.cell' (i := 1) rfl
  have hnx := hide hn
  obtain ⟨A, c, rfl⟩ := own_slice hp.row
  clear hp hn
  unfold strV at *
  go_enter Tryz.func23, Tryz.ntmps23
  go_wp2_with (go_at_call 33; refine hlv.mono ?_; rintro e w1 ⟨rfl, rfl⟩)
  go_still_tail 10, (by kernel_rfl)
  change wpList _ _ _ _ _ w.drew
  go_wp2_with (go_at_call 39; refine hdf.mono ?_)
  rintro e w1 ⟨rfl, hc, n', hn', ht⟩
  have HC : Hid (Chg w w1 [m]) := hide (((Chg.refl w []).drew.more (D' := [m]) (by simp)).trans hc (fun k hk => .inl hk))
  have HT := hide ht
  have HN := hide hn'
  clear hc ht hn' hdf
  go_wp2
  go_ret
  obtain ⟨q1, q2, q3, q4, q5, q6⟩ := HP.out.ne
  refine ⟨rfl, HC.out.more (fun k hk => .inl (by simp only [List.mem_singleton] at hk; subst hk; simp [footP, footT])), _, Sub.refl _ _, t, m, .slice A bm.code.length c, uv, n', ⟨HP.out.blk.chg HC.out (by simpa using q2), HT.out, own_chgD HP.out.row HC.out (fun g hg => by simp only [List.mem_singleton]; rintro rfl; exact q5 hg)⟩, rfl, ?_⟩
  have h1 := HN.out
  have h2 := hnx.out
  show n' ≤ (defD bm.defs s bm.code.length).length
  omega
end Go.Proofs.YtjfnpokebaagmaaGreatDoor
