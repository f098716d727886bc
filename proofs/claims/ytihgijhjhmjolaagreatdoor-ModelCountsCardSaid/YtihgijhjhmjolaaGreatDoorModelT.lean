/- The reference's Open of twenty bytes: what it says of them. -/
import Derived.Test.YtihgijhjhmjolaaGreatDoorMT18
namespace Go.Proofs.YtihgijhjhmjolaaGreatDoor.Xi
open Go Go.RowKit Go.Deep
set_option linter.unusedVariables false
def osh : List (FuncId × Sh) := [(137, .one)]
noncomputable def otab : List (EntK FTab) := [rStepE.k]
set_option maxRecDepth 100000 in
theorem open_run0 (B : Nat → Int) : runS (cxV [] osh [(44, false)] [opqs 20 0]) (tabK otab) 3000 16 [opqs 20 0] [.vw 1000000 0 20] (vb B 20) = some (true, [.l (vb B 18), .v (.int .i64 0)], [sumO B false]) := by kernel_rfl
set_option maxRecDepth 100000 in
theorem open_run7 (B : Nat → Int) : runS (cxV [] osh [(44, true)] [opqs 20 0]) (tabK otab) 3000 16 [opqs 20 0] [.vw 1000000 0 20] (vb B 20) = some (true, [nilS, .v (.int .i64 7)], [sumO B true]) := by kernel_rfl
theorem oconc {xs : List Nat} (h : xs.length = 20) : concL (getE (vb (xI xs) 20)) (opqs 20 0) = u8s xs := by
  match xs, h with
  | [x0, x1, x2, x3, x4, x5, x6, x7, x8, x9, x10, x11, x12, x13, x14, x15, x16, x17, x18, x19], _ => rfl
theorem ropen {xs : List Nat} (hl : xs.length = 20) (hx : ∀ y ∈ xs, y < 256) (v : Value) (w : World) (hw : FTab w) (hv : Sl w v (u8s xs)) :
    Calls Tryz.prog 16 #[v] w fun e w' => (∃ sv, e = .returned (.tuple #[sv, .int .i64 (bif sumOk xs 18 then 0 else 7)])) ∧ Chg w w' [] := by
  have hsum := sumO_ok hl hx
  have hone : ∀ u ∈ ([v] : List Value), u.oneCell' = true := fun u hu => by
    simp at hu
    subst hu
    obtain ⟨A, c, rfl, _⟩ := hv
    rfl
  have hconc : concL (E0 (ρS (vb (xI xs) 20) [v])) [.vw 1000000 0 20] = [v] := by
    obtain ⟨A, c, rfl, hc, hA⟩ := hv
    obtain ⟨b, o, rfl, _⟩ := hA (by rw [u8s_length]; omega)
    have e : concL (E0 (ρS (vb (xI xs) 20) [.slice (some ⟨b, o, none⟩) (u8s xs).length c])) [.vw 1000000 0 20] = [.slice (some ⟨b, o + 0, none⟩) 20 (c - 0)] := rfl
    rw [e, u8s_length, hl]
    rfl
  have hvw : ∀ (i : Nat) cs, ([opqs 20 0] : List (List AV))[i]? = some cs → ∃ u, ([v] : List Value)[i]? = some u ∧ Sl w u (concL (getE (vb (xI xs) 20)) cs) := fun i cs hi => by
    cases i with
    | succ i => simp at hi
    | zero =>
      simp at hi
      subst hi
      exact ⟨v, rfl, by rw [oconc hl]; exact hv⟩
  have hg : goodL (vb (xI xs) 20) := by rw [vb_nat hl]; exact good_u8s hx
  cases hs : sumOk xs 18 with
  | true =>
    rw [hs] at hsum
    refine (seenF_calls otab (open_run0 (xI xs)) hg (obsKC (obK hsum) obsK0) w hw [v] hvw hone hconc).mono ?_
    rintro e w' ⟨⟨us, ha, rfl⟩, hc⟩
    match us, ha with
    | [y, z], ha =>
      obtain ⟨_, rfl, _⟩ := ha
      exact ⟨⟨y, rfl⟩, hc⟩
  | false =>
    rw [hs] at hsum
    refine (seenF_calls otab (open_run7 (xI xs)) hg (obsKC (obK hsum) obsK0) w hw [v] hvw hone hconc).mono ?_
    rintro e w' ⟨⟨us, ha, rfl⟩, hc⟩
    match us, ha with
    | [y, z], ha =>
      obtain ⟨_, rfl, _⟩ := ha
      exact ⟨⟨y, rfl⟩, hc⟩
end Go.Proofs.YtihgijhjhmjolaaGreatDoor.Xi
