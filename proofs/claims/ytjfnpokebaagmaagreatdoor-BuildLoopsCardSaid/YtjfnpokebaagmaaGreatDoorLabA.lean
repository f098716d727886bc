/- Names of places: the program's table. -/
import Derived.Test.YtjfnpokebaagmaaGreatDoorLabP
import Derived.Test.YtjfnpokebaagmaaGreatDoorBL1
import Derived.Test.YtjfnpokebaagmaaGreatDoorShelfK
import Derived.Deep.AppendLies
namespace Go.Proofs.YtjfnpokebaagmaaGreatDoor
open Go.RowKit Go.Deep Go.Maps
set_option linter.unusedVariables false
attribute [local go_sem] Oper.semAt_some
def strV (l : List UInt8) : Value := .string ⟨l.toArray⟩
set_option maxRecDepth 100000 in
theorem is_calls (l : List UInt8) (w : World) (hl : l.length ≤ 1000000) : Calls Tryz.prog 76 #[strV l] w fun e w' => e = .returned (.bool (isL l)) ∧ Chg w w' [] := by
 match l with
 | [] =>
  unfold strV
  go_enter Tryz.func76, Tryz.ntmps76
  go_wp2
  go_ret
  exact ⟨rfl, Chg.refl _ _⟩
 | c :: r =>
  have hsz : (⟨(c :: r).toArray⟩ : ByteArray).size = r.length + 1 := rfl
  have hlen : (c :: r).length = r.length + 1 := rfl
  rw [hlen] at hl
  by_cases h24 : r.length < 24
  · have hcon := Tryz.strings_Contains_one ⟨smalls.toArray⟩ c w
    have hx : (⟨(c :: r).toArray⟩ : ByteArray).extract 0 1 = ⟨#[c]⟩ := by
     apply ByteArray.ext
     rw [ByteArray.data_extract]
     simp
    have e1 : decide (0 ≤ Lib.indexByte (⟨smalls.toArray⟩ : ByteArray).data.toList c) = smallB c := small_at c
    rw [e1] at hcon
    have HE := hide (isL_cons c r)
    have h24' : ¬ 24 < r.length + 1 := by omega
    unfold smalls at hcon
    cases hsm : smallB c with
    | false =>
     have HS := hide hsm
     rw [hsm] at hcon
     clear hsm e1 hlen
     unfold strV
     go_enter Tryz.func76, Tryz.ntmps76
     go_wp2_with (go_at_call 86; refine hcon.mono ?_; rintro e w1 ⟨rfl, hw⟩; rw [hw])
     go_ret
     refine ⟨ret_bool ?_, Chg.refl _ _⟩
     rw [HE.out, HS.out]; simp
    | true =>
     have HS := hide hsm
     rw [hsm] at hcon
     have htr := Tryz.strings_Trim_laid ⟨(c :: r).toArray⟩ ⟨othersL.toArray⟩ w (by rw [hsz]; omega) (by decide) (fun j b hb => by
      have hm : b ∈ othersL := List.mem_of_getElem? hb
      have : ∀ x ∈ othersL, x.toNat < 128 := by decide
      exact this b hm)
     have htl : (⟨(Lib.trimS (⟨(c :: r).toArray⟩ : ByteArray).data.toList (⟨othersL.toArray⟩ : ByteArray).data.toList).toArray⟩ : ByteArray) = ⟨(Lib.trimS (c :: r) othersL).toArray⟩ := rfl
     rw [htl] at htr
     have HT := hide (trimS_nil (c :: r))
     have hO : othersL = [97, 98, 99, 100, 101, 102, 103, 104, 105, 106, 107, 108, 109, 110, 111, 112, 113, 114, 115, 116, 117, 118, 119, 120, 121, 122, 48, 49, 50, 51, 52, 53, 54, 55, 56, 57, 95] := rfl
     have htr : Calls Tryz.prog 87 #[.string ⟨(c :: r).toArray⟩, .string ⟨#[97, 98, 99, 100, 101, 102, 103, 104, 105, 106, 107, 108, 109, 110, 111, 112, 113, 114, 115, 116, 117, 118, 119, 120, 121, 122, 48, 49, 50, 51, 52, 53, 54, 55, 56, 57, 95]⟩] w fun e w' => e = .returned (.string ⟨(Lib.trimS (c :: r) othersL).toArray⟩) ∧ Below w.heap.size w w' := htr
     generalize hT : Lib.trimS (c :: r) othersL = T at *
     clear hT
     have HTR := hide htr
     clear hsm e1 hlen htl htr hO
     unfold strV
     go_enter Tryz.func76, Tryz.ntmps76
     go_wp2_with (go_at_call 86; refine hcon.mono ?_; rintro e w1 ⟨rfl, hw⟩; rw [hw])
     go_at_call 87
     refine HTR.out.mono ?_
     rintro e w1 ⟨rfl, hb⟩
     go_wp2
     go_ret
     refine ⟨ret_bool ?_, Chg.of_below hb⟩
     rw [HE.out, HS.out]
     rw [HT.out, List.all_cons, smallB_other c HS.out, decide_eq_true h24]
     simp
  · have HE := hide (isL_cons c r)
    have h24' : 24 < r.length + 1 := by omega
    unfold strV
    go_enter Tryz.func76, Tryz.ntmps76
    go_wp2
    go_ret
    refine ⟨ret_bool ?_, Chg.refl _ _⟩
    rw [HE.out]
    simp [h24]
end Go.Proofs.YtjfnpokebaagmaaGreatDoor
