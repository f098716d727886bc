/- The document's builder: Resolve, Finish. -/
import Derived.Test.YtjfnpokebaagmaaGreatDoorRbB
import Derived.Test.YtjfnpokebaagmaaGreatDoorPbH
import Derived.Test.YtjfnpokebaagmaaGreatDoorDecode
namespace Go.Proofs.YtjfnpokebaagmaaGreatDoor
open Go.RowKit Go.Deep Go.Maps
set_option linter.unusedVariables false
attribute [local go_sem] Oper.semAt_some
set_option maxRecDepth 100000 in
set_option maxHeartbeats 2000000 in
theorem rresolve_calls {w : World} {x : Nat} {bm : BM} {F : List Nat} (h : RB w x bm F) (hd : bm.defs.length ≤ 1000000) (hn : bm.uses.length ≤ 1000000) :
    Calls Tryz.prog 36 #[.pointer (some ⟨x, 1, none⟩)] w (ResP (fixM bm.defs bm.uses) w) := by
  obtain ⟨cv, dv, uv, hp, rfl⟩ := h
  obtain ⟨i0, hi, hz0, hz1, hz2⟩ := info_parts info_fix
  have H := hide hp
  have c1 := hp.blk.cell' (i := 2) rfl
  have hbl := hp.blk.lt
  obtain ⟨A, c, rfl, hx⟩ := row_open hp.ru
  have HX := hide hx
  clear hp hx
  go_enter Tryz.func36, Tryz.ntmps36
  go_wp2
  go_loopw [5, 6] (fun v i wr => ∃ (k : Nat) (acc : List (Int × Int)), k ≤ bm.uses.length ∧ i = .int .i64 k ∧ acc.length ≤ k ∧ Hid (wr.ownsRow w.heap.size 70 2 v acc.length (fixCells acc)) ∧ Hid (Chg w wr []) ∧ Hid (fixM bm.defs bm.uses = withAcc acc (fixM bm.defs (bm.uses.drop k)))) (fun _ i _ => bm.uses.length - (intOf i).toNat)
  case atStart => exact ⟨0, [], Nat.zero_le _, rfl, Nat.le_refl _, hide (World.ownsRow_nil _ _ _ _), hide (Chg.refl _ _), hide (by cases h : fixM bm.defs bm.uses <;> simp [withAcc, h])⟩
  case round =>
    obtain ⟨k, acc, hk, rfl, hacc, HO, HR, HI⟩ := hrel
    have d1 := HR.out.cell c1 (by simp)
    by_cases hlt : k < bm.uses.length
    · obtain ⟨g, rfl, hgl, hgb, hcells⟩ := HX.out (by omega)
      obtain ⟨⟨s, p⟩, hsp⟩ : ∃ x, bm.uses[k]? = some x := ⟨bm.uses[k], by simp [hlt]⟩
      obtain ⟨q0, q1⟩ := pair_at (fun p : Nm × Int => strV p.1) (fun p => .int .i64 p.2) bm.uses k (s, p) hsp
      have ca := HR.out.cell (hcells _ _ q0) (by simp)
      have cb := HR.out.cell (hcells _ _ q1) (by simp)
      have HDR : Hid (bm.uses.drop k = (s, p) :: bm.uses.drop (k + 1)) := hide (by
        rw [List.drop_eq_getElem_cons hlt]
        congr 1
        rw [List.getElem?_eq_getElem hlt] at hsp
        injection hsp)
      have hgr : g < wr.heap.size := by have := HR.out.size; omega
      have hpl := rplace_calls (H.out.chg HR.out (by simp)) s hd
      clear hcells hsp q0 q1
      cases hf : findL bm.defs s with
      | none =>
        rw [hf] at hpl
        have HE := hide (fixM_none (p := p) (r := bm.uses.drop (k + 1)) hf)
        clear hf
        unfold strV at *
        go_wp2_with (go_at_call 57; refine hpl.mono ?_; rintro e w1 ⟨rfl, rfl⟩)
        go_quiet (fail)
        go_wp2
        refine bodyPost_ret (results_tmp3 rfl _ _ _) rfl ?_
        exact ⟨HR.out.drewN _, .inl ⟨s, by rw [HI.out, HDR.out, HE.out]; rfl, rfl⟩⟩
      | some q =>
        rw [hf] at hpl
        have HE := hide (fixM_some (p := p) (r := bm.uses.drop (k + 1)) hf)
        clear hf
        unfold strV at *
        go_wp2_with (first | (go_at_call 57; refine hpl.mono ?_; rintro e w1 ⟨rfl, rfl⟩) | (at_builtin; refine wpList_append_own _ rfl _ _ 65 rfl w.heap.size 70 i0 (.agg #[.int .i64 0, .int .i64 0]) 2 16 Tryz.underlying65 hi hz0 hz1 hz2 rfl (by decide) _ acc.length _ rfl (HO.out.alloc _) ⟨wr.heap.size, 0, none⟩ 1 1 [.int .i64 p, .int .i64 q] rfl rfl ?c1 ?c2 ?c3 ?c4 ?c5 ?_))
        case c1 =>
          intro j u hj
          match j, hj with
          | 0, hj => simp at hj; subst hj; simp [Addr.add]
          | 1, hj => simp at hj; subst hj; simp [Addr.add]
        case c2 => intro u hu; simp at hu; rcases hu with rfl | rfl <;> rfl
        case c3 => unfold maxLen; omega
        case c4 => omega
        case c5 => have := HR.out.size; simp; omega
        intro v' w4 hown' hgrow _
        have HG : Hid (Chg w w4 []) := hide (((HR.out.alloc _).trans (D' := u5.ownBlock.toList) (Chg.of_grown hgrow (fun k hk => .inl (by simp [hk]))) (fun k hk => .inr (HO.out.lt k (by simpa using hk)).1)))
        have HO4 := hide hown'
        obtain ⟨A6, c6, rfl⟩ := own_slice hown'
        clear hown' hgrow
        go_wp2
        go_roundw
        case rel =>
          refine ⟨k + 1, acc ++ [(p, q)], by omega, by go_num, by simp; omega, ?_, HG, hide ?_⟩
          · rw [List.length_append, fixCells_snoc]; exact HO4
          · rw [HI.out, HDR.out, HE.out, withAcc_step]
        case measure => simp [intOf]; omega
    · have hk2 : k = bm.uses.length := by omega
      subst hk2
      have hi := HI.out
      rw [List.drop_length, fixM] at hi
      obtain ⟨A6, c6, rfl⟩ := own_slice HO.out
      go_wp2
      refine bodyPost_ret (results_tmp3 rfl _ _ _) rfl ?_
      exact ⟨HR.out, .inr ⟨acc, _, by rw [hi]; simp [withAcc], rfl, HO.out⟩⟩
theorem refenc_any (i : Ins5) (w : World) : Calls Tryz.prog 37 #[insVal i] w fun e w' => (∃ z, e = .returned (.tuple #[.int .u32 (encI i), .int .i64 z])) ∧ Chg w w' [] := by
  obtain ⟨op, d, a, b, n⟩ := i
  by_cases h : chk op d a b n = 0
  · refine (refencode_good op d a b n w h).mono ?_
    rintro e w' ⟨rfl, hc⟩
    have he : encI ⟨op, d, a, b, n⟩ = encK op d a b n 4 := by unfold encI chkI; rw [if_pos h]
    rw [he]
    exact ⟨⟨_, rfl⟩, hc⟩
  · refine (refencode_bad op d a b n w h).mono ?_
    rintro e w' ⟨rfl, hc⟩
    have he : encI ⟨op, d, a, b, n⟩ = 0 := by unfold encI chkI; rw [if_neg h]
    rw [he]
    exact ⟨⟨_, rfl⟩, hc⟩
end Go.Proofs.YtjfnpokebaagmaaGreatDoor
