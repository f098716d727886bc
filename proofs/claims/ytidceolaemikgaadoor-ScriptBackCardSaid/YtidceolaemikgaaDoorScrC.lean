/- The reference's lines of a text. -/
import Derived.Test.YtidceolaemikgaaDoorScrB
namespace Go.Proofs.YtidceolaemikgaaDoor
open Go.RowKit Go.Deep Go.Shelf
set_option linter.unusedVariables false
attribute [local go_sem] Oper.semAt_some
theorem ext_eq (l : List UInt8) (a b : Nat) : (⟨l.toArray⟩ : ByteArray).extract a b = ⟨((l.take b).drop a).toArray⟩ := by
  have h : ((⟨l.toArray⟩ : ByteArray).extract a b).data.toList = (l.take b).drop a := by
    rw [Lib.extract_data]
    simp
    rw [List.drop_take]
  have : ∀ x : ByteArray, x = ⟨x.data.toList.toArray⟩ := fun x => by simp
  rw [this ((⟨l.toArray⟩ : ByteArray).extract a b), h]
theorem drop_at (l : List UInt8) (k : Nat) (h : k < l.length) : l.drop k = l.getD k 0 :: l.drop (k + 1) := by
  rw [List.drop_eq_getElem_cons h]
  simp [h]
theorem take_at (l : List UInt8) (a k : Nat) (h : k < l.length) (ha : a ≤ k) : (l.take (k + 1)).drop a = (l.take k).drop a ++ [l.getD k 0] := by
  rw [List.take_add_one, List.getElem?_eq_getElem h, List.drop_append_of_le_length (by rw [List.length_take]; omega)]
  simp [h]
set_option maxRecDepth 100000 in
theorem rlines_calls (l : List UInt8) (w : World) (hl : l.length ≤ 1000000) :
    Calls Tryd.prog 35 #[strV l] w fun e w' => ∃ v, e = .returned v ∧ Sl w' v (strs (linesL l)) ∧ Chg w w' [] := by
  obtain ⟨i0, hi, hz0, hz1, hz2⟩ := info_parts info_str
  rw [← linesR_nil]
  unfold strV
  go_enter Tryd.func35, Tryd.ntmps35
  go_wp2
  go_loopw [3, 4, 5] (fun v a i wr => ∃ (k j : Nat) (acc : List (List UInt8)), k ≤ l.length ∧ j ≤ k ∧ i = .int .i64 k ∧ a = .int .i64 j ∧ acc.length ≤ k ∧ Hid (wr.ownsRow w.heap.size 9 1 v acc.length (strs acc)) ∧ Hid (Chg w wr []) ∧
    Hid (acc ++ linesR ((l.take k).drop j) (l.drop k) = linesR [] l)) (fun _ _ i _ => l.length - (intOf i).toNat)
  case atStart => exact ⟨0, 0, [], Nat.zero_le _, Nat.le_refl _, rfl, rfl, Nat.le_refl _, hide (World.ownsRow_nil _ _ _ _), hide (Chg.refl _ _), hide (by simp)⟩
  case round =>
    obtain ⟨k, j, acc, hk, hj, rfl, rfl, hacc, HO, HR, HI⟩ := hrel
    by_cases hlt : k < l.length
    · have HD := hide (drop_at l k hlt)
      have HT := hide (take_at l j k hlt hj)
      have hq : ∀ h, (⟨l.toArray⟩ : ByteArray)[k]'h = l.getD k 0 := by
        intro h
        show l.toArray[k] = _
        simp [hlt]
      have HX := hide (ext_eq l j k)
      by_cases he : l.getD k 0 = 10
      · have HE := hide he
        have hx : ((l.getD k 0).toNat == 10) = true := by rw [he]; decide
        clear he
        generalize l.getD k 0 = x at *
        go_wp2_with (at_builtin; refine wpList_append_own _ rfl _ _ 41 rfl w.heap.size 9 i0 (.string ⟨#[]⟩) 1 16 Tryd.underlying41 hi hz0 hz1 hz2 rfl (by decide) _ acc.length _ rfl (HO.out.alloc _) ⟨wr.heap.size, 0, none⟩ 1 1 [.string ((⟨l.toArray⟩ : ByteArray).extract j k)] rfl rfl ?c1 ?c2 ?c3 ?c4 ?c5 ?_)
        case c1 =>
          intro j u hj
          match j, hj with
          | 0, hj => simp at hj; subst hj; simp [Addr.add]
        case c2 => intro u hu; simp at hu; subst hu; rfl
        case c3 => unfold maxLen; omega
        case c4 => omega
        case c5 => have := HR.out.size; simp; omega
        intro v' w2 hown' hgrow _
        have HG := hide (chg_append HR.out HO.out _ hgrow)
        have HO2 := hide hown'
        obtain ⟨A, c, rfl⟩ := own_str_append hown'
        clear hown' hgrow
        go_wp2
        go_roundw
        case rel =>
          refine ⟨k + 1, k + 1, acc ++ [(l.take k).drop j], by omega, by omega, by go_num, by go_num, by simp; omega, ?_, HG, hide ?_⟩
          · have := HO2.out
            rw [HX.out] at this
            unfold strs at *
            rw [List.map_append]
            simpa [strV] using hide this
          · have := HI.out
            rw [HD.out, linesR, if_pos HE.out] at this
            rw [← this]
            simp
        case measure => simp [intOf]; omega
      · have HE := hide he
        have hx : ((l.getD k 0).toNat == 10) = false := by
          rw [beq_eq_false_iff_ne]
          exact fun h => he (UInt8.toNat_inj.1 h)
        clear he
        generalize l.getD k 0 = x at *
        go_wp2
        go_roundw
        case rel =>
          refine ⟨k + 1, j, acc, by omega, by omega, by go_num, rfl, by omega, HO, HR, hide ?_⟩
          have := HI.out
          rw [HD.out, linesR, if_neg HE.out] at this
          rw [← this, HT.out]
        case measure => simp [intOf]; omega
    · have hk : k = l.length := by omega
      subst hk
      have HX := hide (ext_eq l j l.length)
      by_cases hj2 : j < l.length
      · have HN : Hid (l.drop j ≠ []) := hide (by intro h; have := congrArg List.length h; simp at this; omega)
        go_wp2_with (at_builtin; refine wpList_append_own _ rfl _ _ 41 rfl w.heap.size 9 i0 (.string ⟨#[]⟩) 1 16 Tryd.underlying41 hi hz0 hz1 hz2 rfl (by decide) _ acc.length _ rfl (HO.out.alloc _) ⟨wr.heap.size, 0, none⟩ 1 1 [.string ((⟨l.toArray⟩ : ByteArray).extract j l.length)] rfl rfl ?c1 ?c2 ?c3 ?c4 ?c5 ?_)
        case c1 =>
          intro j u hj
          match j, hj with
          | 0, hj => simp at hj; subst hj; simp [Addr.add]
        case c2 => intro u hu; simp at hu; subst hu; rfl
        case c3 => unfold maxLen; omega
        case c4 => omega
        case c5 => have := HR.out.size; simp; omega
        intro v' w2 hown' hgrow _
        have HG := hide (chg_append HR.out HO.out _ hgrow)
        have HO2 := hide hown'
        obtain ⟨A, c, rfl⟩ := own_str_append hown'
        clear hown' hgrow
        go_wp2
        go_ret
        refine ⟨_, rfl, ?_, HG.out⟩
        have h := HI.out
        rw [List.take_length, List.drop_length, linesR, if_neg HN.out] at h
        have h2 := HO2.out
        rw [HX.out, List.take_length] at h2
        rw [← h]
        unfold strs at *
        rw [List.map_append]
        exact Sl.own h2
      · have HN : Hid (l.drop j = []) := hide (List.drop_eq_nil_of_le (by omega))
        go_wp2
        go_ret
        refine ⟨_, rfl, ?_, HR.out⟩
        have h := HI.out
        rw [List.take_length, List.drop_length, linesR, if_pos HN.out, List.append_nil] at h
        rw [← h]
        exact Sl.own HO.out
end Go.Proofs.YtidceolaemikgaaDoor
