/- What the core comes to on the image of kquat. No program is in sight. -/
import Derived.Test.YtakkofepcbkbkaaGreatDoorKQ17
import Derived.Test.YtakkofepcbkbkaaGreatDoorKQ8
namespace Go.Proofs.YtakkofepcbkbkaaGreatDoor
open Go Go.RowKit Go.Proofs.YtakkofepcbkbkaaGreatDoor.Ab Go.Proofs.YtakkofepcbkbkaaGreatDoor.Xi
set_option linter.unusedVariables false
def memQuat : Nat := 0x2000000000000000000000000000000000000000000080000000000000000000000000000000000000000000000000055555556234f0d84800000000000000010000000000000000000000003c00000000000000000000000000000000000000000000000000000000000000000000000000000000000000000000000000000000000000000000000000000000000000000000000000000000000000000000000000000000000000000000000000000000000000000000000000000000000000000000000000000000000000000000000000000000000000000000000000000000000000000000000003c0000000d00000002c0000000900000001c0000000500000000c00000001
def psQuat : List Nat := [8, 6, 4, 3, 1]
def marksQuat : List Mk := marksOf (resA codeQuat 241 memQuat 75 8 psQuat)
set_option maxRecDepth 100000
theorem valsQuat (p0 p1 p2 p3 q0 q1 q2 q3 : Wd) : valsK (resA codeQuat 241 memQuat 75 8 psQuat) [p0, p1, p2, p3, q0, q1, q2, q3] 8 [14, 21, 28, 35, 68, 70, 72, 74] = some [(timesW p0 p1 p2 p3 q0 q1 q2 q3).a, (timesW p0 p1 p2 p3 q0 q1 q2 q3).b, (timesW p0 p1 p2 p3 q0 q1 q2 q3).c, (timesW p0 p1 p2 p3 q0 q1 q2 q3).d, (unitW p0 p1 p2 p3).a, (unitW p0 p1 p2 p3).b, (unitW p0 p1 p2 p3).c, (unitW p0 p1 p2 p3).d] := by kernel_rfl
theorem allokQuat : allOkc 8 memQuat 75 = true := by kernel_rfl
theorem sumpQuat : sumP psQuat = 346 := by kernel_rfl
theorem wordsQuat : (wordsOf codeQuat 241).length = 241 := by kernel_rfl
theorem waysQuat (p0 p1 p2 p3 q0 q1 q2 q3 : Wd) : ∃ N m', N ≤ 346 ∧ Ab.Reach (Nx (wordsOf codeQuat 241)) N (ma0 (memOf [p0, p1, p2, p3, q0, q1, q2, q3] memQuat 75)) m' ∧ m'.st = 1 ∧ m'.ks = marksQuat ∧ m'.mm.length = 75 ∧ m'.mm[14]? = some ((timesW p0 p1 p2 p3 q0 q1 q2 q3).a) ∧ m'.mm[21]? = some ((timesW p0 p1 p2 p3 q0 q1 q2 q3).b) ∧ m'.mm[28]? = some ((timesW p0 p1 p2 p3 q0 q1 q2 q3).c) ∧ m'.mm[35]? = some ((timesW p0 p1 p2 p3 q0 q1 q2 q3).d) ∧ m'.mm[68]? = some ((unitW p0 p1 p2 p3).a) ∧ m'.mm[70]? = some ((unitW p0 p1 p2 p3).b) ∧ m'.mm[72]? = some ((unitW p0 p1 p2 p3).c) ∧ m'.mm[74]? = some ((unitW p0 p1 p2 p3).d) := by
 obtain ⟨N, m', pc, ns, mm, T, M, hres, hN, hr, hst, hks, hmm, hlen, hout, _⟩ := told_ok (code := codeQuat) (nc := 241) (mem := memQuat) (nm := 75) (ps := psQuat) (ins := [p0, p1, p2, p3, q0, q1, q2, q3]) (gs := []) (n0 := 8) (outs := [14, 21, 28, 35, 68, 70, 72, 74]) (by decide) rfl (by decide) allokQuat (by decide) (valsQuat p0 p1 p2 p3 q0 q1 q2 q3)
 rw [sumpQuat] at hN
 simp only [List.append_nil] at hr
 refine ⟨N, m', hN, hr, hst, ?_, hmm, hout 0 14 _ rfl rfl, hout 1 21 _ rfl rfl, hout 2 28 _ rfl rfl, hout 3 35 _ rfl rfl, hout 4 68 _ rfl rfl, hout 5 70 _ rfl rfl, hout 6 72 _ rfl rfl, hout 7 74 _ rfl rfl⟩
 unfold marksQuat marksOf
 rw [hres]
 exact hks
end Go.Proofs.YtakkofepcbkbkaaGreatDoor
