/- The reference's words of a line. -/
import Derived.Test.YtidceolaemikgaaDoorScrC
namespace Go.Proofs.YtidceolaemikgaaDoor
open Go.RowKit Go.Deep Go.Shelf
set_option linter.unusedVariables false
attribute [local go_sem] Oper.semAt_some
theorem bytes_append (a b : List UInt8) : (⟨a.toArray⟩ : ByteArray) ++ ⟨b.toArray⟩ = ⟨(a ++ b).toArray⟩ := by
  apply ByteArray.ext
  simp [ByteArray.data_append]
set_option maxRecDepth 100000 in
theorem rwords_calls (l : List UInt8) (w : World) (hl : l.length ≤ 1000000) :
    Calls Tryd.prog 36 #[strV l] w fun e w' => ∃ v, e = .returned v ∧ Sl w' v (strs (wordsL l)) ∧ Chg w w' [] := by
  obtain ⟨i0, hi, hz0, hz1, hz2⟩ := info_parts info_str
  rw [← wordsR_nil]
  unfold strV
  go_enter Tryd.func36, Tryd.ntmps36
  go_wp2
  go_loopw [3, 4, 5] (fun v a i wr => ∃ (k : Nat) (c : List UInt8) (acc : List (List UInt8)), k ≤ l.length + 1 ∧ c.length ≤ k ∧ i = .int .i64 k ∧ a = .string ⟨c.toArray⟩ ∧ acc.length ≤ k ∧ Hid (wr.ownsRow w.heap.size 9 1 v acc.length (strs acc)) ∧ Hid (Chg w wr []) ∧
    Hid (acc ++ (if k ≤ l.length then wordsR c (l.drop k) else []) = wordsR [] l)) (fun _ _ i _ => l.length + 1 - (intOf i).toNat)
  case atStart => exact ⟨0, [], [], Nat.zero_le _, Nat.le_refl _, rfl, rfl, Nat.le_refl _, hide (World.ownsRow_nil _ _ _ _), hide (Chg.refl _ _), hide (by simp)⟩
  case round =>
    obtain ⟨k, c, acc, hk, hcl, rfl, rfl, hacc, HO, HR, HI⟩ := hrel
    by_cases hlt : k < l.length
    · have HD := hide (drop_at l k hlt)
      have hq : ∀ h, (⟨l.toArray⟩ : ByteArray)[k]'h = l.getD k 0 := by
        intro h
        show l.toArray[k] = _
        simp [hlt]
      have HX : Hid ((⟨l.toArray⟩ : ByteArray).extract k (k + 1) = ⟨#[l.getD k 0]⟩) := hide (by
        rw [ext_eq, take_at l k k hlt (Nat.le_refl _)]
        simp)
      by_cases he : l.getD k 0 = 32
      · have HE := hide he
        have hx : ((l.getD k 0).toNat != 32) = false := by rw [he]; decide
        clear he
        generalize l.getD k 0 = x at *
        by_cases hc : c = []
        · have HC := hide hc
          have hc0 : c.isEmpty = true := by simp [hc]
          clear hc
          go_wp2
          go_roundw
          case rel =>
            refine ⟨k + 1, c, acc, by omega, by omega, by go_num, rfl, by omega, HO, HR, hide ?_⟩
            rw [HC.out]
            have := HI.out
            rw [if_pos (by omega), HD.out, wordsR, if_pos HE.out, if_pos HC.out] at this
            rw [if_pos (by omega)]
            exact this
          case measure => simp [intOf]; omega
        · have HC := hide hc
          have hc0 : c.isEmpty = false := by simpa using hc
          clear hc
          go_wp2_with (at_builtin; refine wpList_append_own _ rfl _ _ 41 rfl w.heap.size 9 i0 (.string ⟨#[]⟩) 1 16 Tryd.underlying41 hi hz0 hz1 hz2 rfl (by decide) _ acc.length _ rfl (HO.out.alloc _) ⟨wr.heap.size, 0, none⟩ 1 1 [.string ⟨c.toArray⟩] rfl rfl ?c1 ?c2 ?c3 ?c4 ?c5 ?_)
          case c1 =>
            intro j u hj
            match j, hj with
            | 0, hj => simp at hj; subst hj; simp [Addr.add]
          case c2 => intro u hu; simp at hu; subst hu; rfl
          case c3 => unfold maxLen; omega
          case c4 => omega
          case c5 => have := HR.out.size; simp; omega
          intro v' w2 hown' hgrow _
          have HG := hide (chg_append HR.out HO.out _ hgrow)
          have HO2 := hide hown'
          obtain ⟨A, ca, rfl⟩ := own_str_append hown'
          clear hown' hgrow
          go_wp2
          go_roundw
          case rel =>
            refine ⟨k + 1, [], acc ++ [c], by omega, by simp, by go_num, rfl, by simp; omega, ?_, HG, hide ?_⟩
            · have := HO2.out
              unfold strs at *
              rw [List.map_append]
              simpa [strV] using hide this
            · have := HI.out
              rw [if_pos (by omega), HD.out, wordsR, if_pos HE.out, if_neg HC.out] at this
              rw [if_pos (by omega), ← this]
              simp
          case measure => simp [intOf]; omega
      · have HE := hide he
        have hx : ((l.getD k 0).toNat != 32) = true := by
          rw [bne_iff_ne]
          exact fun h => he (UInt8.toNat_inj.1 h)
        clear he
        generalize l.getD k 0 = x at *
        go_wp2
        go_roundw
        case rel =>
          refine ⟨k + 1, c ++ [x], acc, by omega, by simp; omega, by go_num, ?_, by omega, HO, HR, hide ?_⟩
          · rw [HX.out]
            exact congrArg Value.string (bytes_append c [x])
          · have := HI.out
            rw [if_pos (by omega), HD.out, wordsR, if_neg HE.out] at this
            rw [if_pos (by omega)]
            exact this
        case measure => simp [intOf]; omega
    · by_cases hkn : k = l.length
      · by_cases hc : c = []
        · have HC := hide hc
          have hc0 : c.isEmpty = true := by simp [hc]
          clear hc
          go_wp2
          go_roundw
          case rel =>
            refine ⟨k + 1, c, acc, by omega, by omega, by go_num, rfl, by omega, HO, HR, hide ?_⟩
            rw [HC.out]
            have := HI.out
            rw [if_pos (by omega), hkn, List.drop_length, wordsR, if_pos HC.out] at this
            rw [if_neg (by omega)]
            exact this
          case measure => simp [intOf]; omega
        · have HC := hide hc
          have hc0 : c.isEmpty = false := by simpa using hc
          clear hc
          go_wp2_with (at_builtin; refine wpList_append_own _ rfl _ _ 41 rfl w.heap.size 9 i0 (.string ⟨#[]⟩) 1 16 Tryd.underlying41 hi hz0 hz1 hz2 rfl (by decide) _ acc.length _ rfl (HO.out.alloc _) ⟨wr.heap.size, 0, none⟩ 1 1 [.string ⟨c.toArray⟩] rfl rfl ?c1 ?c2 ?c3 ?c4 ?c5 ?_)
          case c1 =>
            intro j u hj
            match j, hj with
            | 0, hj => simp at hj; subst hj; simp [Addr.add]
          case c2 => intro u hu; simp at hu; subst hu; rfl
          case c3 => unfold maxLen; omega
          case c4 => omega
          case c5 => have := HR.out.size; simp; omega
          intro v' w2 hown' hgrow _
          have HG := hide (chg_append HR.out HO.out _ hgrow)
          have HO2 := hide hown'
          obtain ⟨A, ca, rfl⟩ := own_str_append hown'
          clear hown' hgrow
          go_wp2
          go_roundw
          case rel =>
            refine ⟨k + 1, [], acc ++ [c], by omega, by simp, by go_num, rfl, by simp; omega, ?_, HG, hide ?_⟩
            · have := HO2.out
              unfold strs at *
              rw [List.map_append]
              simpa [strV] using hide this
            · have := HI.out
              rw [if_pos (by omega), hkn, List.drop_length, wordsR, if_neg HC.out] at this
              rw [if_neg (by omega), ← this]
              simp
          case measure => simp [intOf]; omega
      · have hk2 : k = l.length + 1 := by omega
        go_wp2
        go_ret
        refine ⟨_, rfl, ?_, HR.out⟩
        have h := HI.out
        rw [if_neg (by omega), List.append_nil] at h
        rw [← h]
        exact Sl.own HO.out
end Go.Proofs.YtidceolaemikgaaDoor
