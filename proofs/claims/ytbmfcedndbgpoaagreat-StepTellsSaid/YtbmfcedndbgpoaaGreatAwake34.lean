/- The example of layer 34's laws. -/
import Derived.Test.YtbmfcedndbgpoaaGreatNext
import Derived.Test.YtbmfcedndbgpoaaGreatQuietLaw
namespace Go.Proofs.YtbmfcedndbgpoaaGreat
open Go.RowKit Go.Deep
set_option linter.unusedVariables false
theorem zv : Z0.v = 0 := rfl
theorem uv : UU0.v = 1073741824 := rfl
theorem flags_quiet : flagsI (sensedA Z0 Z0 L0) (sensedM Z0 Z0 Z0) = 4 := by rw [q_gateA, q_gateM]; decide +kernel
set_option maxRecDepth 100000 in
set_option maxHeartbeats 4000000 in
theorem awake34_calls (w : World) : Calls Tryz.prog 38 #[] w fun e w' => e = .returned (.bool true) ∧ Chg w w' [] := by
  obtain ⟨u1, u2, u3, u4, u5⟩ := awake34_unit
  obtain ⟨x, hx⟩ : ∃ x, x = (unitW UU0 Z0 Z0 Z0).a := ⟨_, rfl⟩
  have hs : sensedW UU0 Z0 Z0 Z0 Z0 Z0 Z0 Z0 Z0 L0 Z0 Z0 Z0 = ⟨x, Z0, Z0, Z0⟩ := by
    rw [sensed_still]
    show Q4.mk _ (unitW UU0 Z0 Z0 Z0).b (unitW UU0 Z0 Z0 Z0).c (unitW UU0 Z0 Z0 Z0).d = _
    rw [u3, u4, u5, hx]
    rfl
  rw [← hx] at u1 u2
  have HS := hide hs
  clear hs hx u3 u4 u5
  go_enter Tryz.func38, Tryz.ntmps38
  go_wp2_with fail
  refine (next_calls UU0 Z0 Z0 Z0 Z0 Z0 Z0 Z0 Z0 L0 Z0 Z0 Z0 _).mono ?_
  rw [HS.out, flags_quiet]
  simp only [zv]
  rintro e w1 ⟨rfl, hc⟩
  have HC := hide hc
  clear hc
  have k1 : decide (1073740800 < x.v) = true := by simpa using u1
  have k2 : decide (x.v < 1073742848) = true := by simpa using u2
  go_wp2
  go_ret
  exact ⟨rfl, HC.out.alloc _⟩
end Go.Proofs.YtbmfcedndbgpoaaGreat
