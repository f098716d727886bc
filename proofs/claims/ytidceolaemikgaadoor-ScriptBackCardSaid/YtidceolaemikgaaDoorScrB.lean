/- The program's words of a line. -/
import Derived.Test.YtidceolaemikgaaDoorScrA
namespace Go.Proofs.YtidceolaemikgaaDoor
open Go.RowKit Go.Deep Go.Shelf
set_option linter.unusedVariables false
attribute [local go_sem] Oper.semAt_some
theorem own_str_append {W w2 : World} {v' : Value} {n : Nat} {xs news : List Value} (h : w2.ownsRow W.heap.size 9 1 v' (n + 1) (xs ++ news)) : ∃ A c, v' = .slice A (n + 1) c := by
  obtain ⟨g, c, rest, h, _⟩ := own_form h (by omega)
  exact ⟨_, c, h⟩
def fw (L : List (List UInt8)) (k : Nat) : List (List UInt8) := (L.take k).filter fun w => !w.isEmpty
theorem fw_next (L : List (List UInt8)) (k : Nat) (h : k < L.length) : fw L (k + 1) = if L.getD k [] = [] then fw L k else fw L k ++ [L.getD k []] := by
  unfold fw
  rw [List.take_add_one, List.getElem?_eq_getElem h, List.filter_append]
  have e : L.getD k [] = L[k] := by simp [h]
  rw [e]
  cases L[k] <;> simp
theorem fw_len (L : List (List UInt8)) (k : Nat) : (fw L k).length ≤ k := by
  unfold fw
  exact Nat.le_trans (List.length_filter_le _ _) (by rw [List.length_take]; exact Nat.min_le_left _ _)
theorem words_calls (l : List UInt8) (w : World) (hl : l.length ≤ 1000000) (hm : MxL w) :
    Calls Tryd.prog 33 #[strV l] w fun e w' => ∃ v, e = .returned v ∧ Sl w' v (strs (wordsL l)) ∧ Chg w w' [] := by
  obtain ⟨i0, hi, hz0, hz1, hz2⟩ := info_parts info_str
  have hL := cutL_total 32 l
  have h0 := cutL_len 32 l
  have hsp := split_calls 32 l w hl hm
  show Calls Tryd.prog 33 #[strV l] w fun e w' => ∃ v, e = .returned v ∧ Sl w' v (strs ((cutL 32 l).filter fun w => !w.isEmpty)) ∧ Chg w w' []
  rw [show (cutL 32 l).filter (fun w => !w.isEmpty) = fw (cutL 32 l) (cutL 32 l).length by unfold fw; rw [List.take_length]]
  generalize cutL 32 l = L at *
  unfold strV at *
  go_enter Tryd.func33, Tryd.ntmps33
  go_wp2_with (go_at_call 45; refine hsp.mono ?_)
  rintro e w1 ⟨rfl, hw1⟩
  have hB : Hid (Blk w1 w.heap.size 9 (strs L)) := hide (hw1 ▸ Blk.new w 9 (strs L))
  have HC : Hid (Chg w w1 []) := hide (hw1 ▸ (Chg.refl w []).alloc _)
  have hmx : L.length ≤ 1000001 := by have := hL.1; omega
  have hq : w.heap.size < w1.heap.size := hB.out.lt
  clear hw1 hsp hm hL
  generalize hn : L.length = n at *
  have hn0 := hide h0
  have hl := hide hl
  clear h0
  generalize hqq : w.heap.size = q at *
  go_wp2
  go_loopw [3, 9] (fun v i wr => ∃ k : Nat, k ≤ n ∧ i = .int .i64 k ∧ Hid (wr.ownsRow w1.heap.size 9 1 v (fw L k).length (strs (fw L k))) ∧ Hid (Chg w1 wr [])) (fun _ i _ => n - (intOf i).toNat)
  case atStart => exact ⟨0, Nat.zero_le _, rfl, hide (World.ownsRow_nil _ _ _ _), hide (Chg.refl _ _)⟩
  case round =>
    obtain ⟨k, hk, rfl, HO, HR⟩ := hrel
    by_cases hlt : k < n
    · have hca : wr.cell? ⟨q, k, none⟩ = some (strV (L.getD k [])) := (hB.out.chg HR.out (by simp)).cell' (strs_at L k (by omega))
      have HN := hide (fw_next L k (by omega))
      have hfl := hide (fw_len L k)
      by_cases he : L.getD k [] = []
      · have HE := hide he
        rw [he] at hca
        clear he
        unfold strV at *
        go_wp2
        go_roundw
        case rel => exact ⟨k + 1, by omega, by go_num, by rw [HN.out, if_pos HE.out]; exact HO, HR⟩
        case measure => simp [intOf]; omega
      · have HE := hide he
        have hx : (L.getD k []).isEmpty = false := by simpa using he
        clear he
        unfold strV at *
        generalize L.getD k [] = x at *
        go_wp2_with (at_builtin; refine wpList_append_own _ rfl _ _ 41 rfl w1.heap.size 9 i0 (.string ⟨#[]⟩) 1 16 Tryd.underlying41 hi hz0 hz1 hz2 rfl (by decide) _ (fw L k).length _ rfl (HO.out.alloc _) ⟨wr.heap.size, 0, none⟩ 1 1 [strV x] rfl rfl ?c1 ?c2 ?c3 ?c4 ?c5 ?_)
        case c1 =>
          intro j u hj
          match j, hj with
          | 0, hj => simp at hj; subst hj; simp [Addr.add, strV]
        case c2 => intro u hu; simp at hu; subst hu; rfl
        case c3 => have := hfl.out; unfold maxLen; omega
        case c4 => have := hfl.out; omega
        case c5 => have := HR.out.size; simp; omega
        intro v' w2 hown' hgrow _
        have HG := hide (chg_append HR.out HO.out _ hgrow)
        have HO2 := hide hown'
        obtain ⟨A, c, rfl⟩ := own_str_append hown'
        clear hown' hgrow
        go_wp2
        go_roundw
        case rel =>
          refine ⟨k + 1, by omega, by go_num, ?_, HG⟩
          rw [HN.out, if_neg HE.out]
          have := HO2.out
          unfold strs at *
          rw [List.map_append]
          simpa using hide this
        case measure => simp [intOf]; omega
    · have hk : k = n := by omega
      subst hk
      go_wp2
      go_ret
      refine ⟨u3, rfl, ?_, HC.out.trans HR.out (by simp)⟩
      rw [hn]
      exact Sl.own HO.out
end Go.Proofs.YtidceolaemikgaaDoor
