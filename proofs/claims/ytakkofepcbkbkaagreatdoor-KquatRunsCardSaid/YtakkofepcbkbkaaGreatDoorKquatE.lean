/- The laws' lists of eight words; whether two lists of words are one. -/
import Derived.Test.YtakkofepcbkbkaaGreatDoorKQ17
import Derived.Sort.QuietTacIn
namespace Go.Proofs.YtakkofepcbkbkaaGreatDoor
open Go Go.RowKit Go.Deep Go.Maps Go.Proofs.YtakkofepcbkbkaaGreatDoor.Ab
set_option linter.unusedVariables false
attribute [local go_sem] Oper.semAt_some
set_option maxRecDepth 100000 in
set_option maxHeartbeats 1000000 in
theorem eight_calls (w : World) (a b c d e f g h : Int) : Calls Tryz.prog 21 #[.agg #[.int .i32 a, .int .i32 b, .int .i32 c, .int .i32 d], .agg #[.int .i32 e, .int .i32 f, .int .i32 g, .int .i32 h]] w fun e' w' => ∃ v, e' = .returned v ∧ Chg w w' [] ∧ Sl w' v (i32s [a, b, c, d, e, f, g, h]) := by
 have HC := hide (((((Chg.refl w []).alloc (.cells #[.int .i32 a, .int .i32 b, .int .i32 c, .int .i32 d] 44)).alloc (.cells #[.int .i32 e, .int .i32 f, .int .i32 g, .int .i32 h] 44))).alloc (.cells #[.int .i32 a, .int .i32 b, .int .i32 c, .int .i32 d, .int .i32 e, .int .i32 f, .int .i32 g, .int .i32 h] 21))
 go_enter Tryz.func21, Tryz.ntmps21
 go_wp2
 go_ret
 refine ⟨_, rfl, HC.out, ?_⟩
 have hb := Blk.new ((w.alloc (.cells #[.int .i32 a, .int .i32 b, .int .i32 c, .int .i32 d] 44)).alloc (.cells #[.int .i32 e, .int .i32 f, .int .i32 g, .int .i32 h] 44)) 21 [.int .i32 a, .int .i32 b, .int .i32 c, .int .i32 d, .int .i32 e, .int .i32 f, .int .i32 g, .int .i32 h]
 rw [size_alloc, size_alloc] at hb
 exact Sl.blk' hb rfl (Nat.le_refl _)
set_option maxRecDepth 100000 in
set_option maxHeartbeats 1000000 in
theorem refsame15_calls {w : World} {v v' : Value} {l : List Int} (h : Sl w v (i32s l)) (h' : Sl w v' (i32s l)) (hl : l.length ≤ 100000) : Calls Tryz.prog 23 #[v, v'] w fun e w' => e = .returned (.bool true) ∧ Chg w w' [] := by
 obtain ⟨A, c, rfl, hx⟩ := sl_open h
 obtain ⟨A', c', rfl, hx'⟩ := sl_open h'
 rw [i32s_length]
 have HX := hide hx
 have HX' := hide hx'
 clear h h' hx hx'
 go_enter Tryz.func23, Tryz.ntmps23
 go_wp2_with fail
 go_loopw [5] (fun i wr => ∃ j : Nat, j ≤ l.length ∧ i = .int .i64 j ∧ Hid (Chg w wr [])) (fun i _ => l.length - (intOf i).toNat)
 case atStart => exact ⟨0, Nat.zero_le _, rfl, hide (Chg.refl w [])⟩
 case round =>
  obtain ⟨j, hj, rfl, HC⟩ := hrel
  by_cases hlt : j < l.length
  · obtain ⟨x, hjx⟩ : ∃ x, l[j]? = some x := ⟨l[j], by simp [hlt]⟩
    have hjv : (i32s l)[j]? = some (.int .i32 x) := by simp [i32s, hjx]
    obtain ⟨b, o, rfl, hc, hb⟩ := HX.out j _ hjv
    obtain ⟨b', o', rfl, hc', hb'⟩ := HX'.out j _ hjv
    have c1 := HC.out.cell hc (by simp)
    have c2 := HC.out.cell hc' (by simp)
    clear hc hc' hjx hjv
    go_wp2_with fail
    go_quiet (fail)
    go_wp2
    go_roundw
    case rel => exact ⟨j + 1, by omega, by go_num, hide (HC.out.drewN _)⟩
    case measure => simp [intOf]; omega
  · have hjl : j = l.length := by omega
    subst hjl
    go_wp2
    go_ret
    exact ⟨rfl, HC.out⟩
end Go.Proofs.YtakkofepcbkbkaaGreatDoor
