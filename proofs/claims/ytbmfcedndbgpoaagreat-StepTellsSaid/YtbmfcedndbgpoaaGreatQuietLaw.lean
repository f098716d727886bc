/- Who stays: a step without turning and field. -/
import Derived.Test.YtbmfcedndbgpoaaGreatWorks13
import Derived.Test.YtbmfcedndbgpoaaGreatStill
import Derived.Test.YtbmfcedndbgpoaaGreatBitLaw
namespace Go.Proofs.YtbmfcedndbgpoaaGreat
open Go.RowKit Go.Deep
set_option linter.unusedVariables false
set_option linter.unusedSimpArgs false
def L0 : Wd := lw 8192 (by decide)
theorem q_kW0 : kW 0 = Z0 := by apply Wd.ext_; decide +kernel
theorem q_adds {a b : Wd} (h : a = Z0) (h' : b = Z0) : addsW a b = Z0 := by subst h h'; exact adds_zz
theorem q_and (x : Wd) : andW x Z0 = Z0 := Wd.ext_ (and_none x.v)
theorem q_addr (x : Wd) : addsW x Z0 = x := by
  apply Wd.ext_
  have := x.ok
  unfold In32 at this
  show satI (x.v + 0) = x.v
  unfold satI
  omega
theorem q_gateA : sensedA Z0 Z0 L0 = kW (-1) := by apply Wd.ext_; decide +kernel
theorem q_gateM : sensedM Z0 Z0 Z0 = Z0 := by apply Wd.ext_; decide +kernel
theorem q_pa : (pointW Z0 Z0 L0).a = Z0 := by apply Wd.ext_; decide +kernel
theorem q_pb : (pointW Z0 Z0 L0).b = Z0 := by apply Wd.ext_; decide +kernel
theorem q_even : evenW Z0 Z0 Z0 Z0 = ⟨Z0, Z0, Z0, Z0⟩ := by
  have h : (evenW Z0 Z0 Z0 Z0).a = Z0 := by apply Wd.ext_; decide +kernel
  show Q4.mk _ _ _ _ = _
  exact congr (congr (congr (congrArg Q4.mk h) h) h) h
theorem q_up : upW Z0 12 = Z0 := by apply Wd.ext_; decide +kernel
theorem q_clip : clipW (subsW Z0 (andW (downW Z0 8) (kW (-1)))) = Z0 := by apply Wd.ext_; decide +kernel
theorem q_part (q : Wd) : partW q Z0 Z0 (kW (-1)) = q := by unfold partW; rw [q_clip, q_addr]
theorem q_pull (c s u : Wd) : pullW c Z0 Z0 s Z0 Z0 u = ⟨Z0, Z0, Z0, Z0⟩ := by
  have f0 : pullF0 c Z0 Z0 s Z0 = Z0 := by
    unfold pullF0 lessW
    rw [mulq_zl rfl, mulq_zr rfl, down_z]
    simp only [List.foldl, subs_zz]
  have f1 : pullF1 c Z0 Z0 s Z0 = Z0 := by
    unfold pullF1 lessW moreW
    rw [mulq_zl (b := s) rfl, mulq_zr rfl, down_z]
    simp only [List.foldl, subs_zz, adds_zz]
  unfold pullW
  rw [f0, f1]
  unfold pullOf lessW moreW
  simp only [List.foldl, mulq_zl rfl, mulq_zr rfl, subs_zz, adds_zz, down_z]
theorem q_rate (c s : Wd) : rateW c Z0 Z0 s Z0 Z0 Z0 = ⟨Z0, Z0, Z0, Z0⟩ := by
  unfold rateW totalW
  simp only [List.foldl, put1, tot0, term, pick, List.getD_cons_zero, List.getD_cons_succ, cond_true, cond_false, mulq_zl rfl, mulq_zr rfl, q_kW0, adds_zz, subs_zz]
theorem sensed_still (c s : Wd) : sensedW c Z0 Z0 s Z0 Z0 Z0 Z0 Z0 L0 Z0 Z0 Z0 = unitW c Z0 Z0 s := by
  have hE : sensedE c Z0 Z0 s Z0 Z0 L0 Z0 Z0 Z0 = ⟨Z0, Z0, Z0, Z0⟩ := by
    unfold sensedE
    have hP : sensedP c Z0 Z0 s Z0 Z0 L0 = ⟨Z0, Z0, Z0, Z0⟩ := by
      unfold sensedP
      rw [q_pa, q_pb, q_pull]
    rw [hP, q_gateM]
    generalize sensedN c Z0 Z0 s Z0 Z0 Z0 = N
    unfold downOf evenOf
    simp only [q_and, adds_zz, q_even]
  have hR : rateOf c Z0 Z0 s Z0 Z0 Z0 = ⟨Z0, Z0, Z0, Z0⟩ := by
    unfold rateOf
    rw [q_up, q_rate]
  unfold sensedW
  rw [hE, hR, q_gateA]
  unfold stepOf
  simp only [q_part]
def UU0 : Wd := lw 1073741824 (by decide)
theorem awake34_unit : 1073740800 < (unitW UU0 Z0 Z0 Z0).a.v ∧ (unitW UU0 Z0 Z0 Z0).a.v < 1073742848 ∧ (unitW UU0 Z0 Z0 Z0).b = Z0 ∧ (unitW UU0 Z0 Z0 Z0).c = Z0 ∧ (unitW UU0 Z0 Z0 Z0).d = Z0 :=
  ⟨by decide +kernel, by decide +kernel, Wd.ext_ (by decide +kernel), Wd.ext_ (by decide +kernel), Wd.ext_ (by decide +kernel)⟩
end Go.Proofs.YtbmfcedndbgpoaaGreat
