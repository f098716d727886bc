/- Slices of bytes as strings. -/
import Derived.Test.YtidceolaemikgaaDoorMem
import Derived.Laws.IdiomStrings
import Derived.Laws.BytesArg
namespace Go.Proofs.YtidceolaemikgaaDoor
open Go.RowKit Go.Deep
set_option linter.unusedVariables false
/-- A slice reads as bytes. -/
def Bs (w : World) (v : Value) (s : ByteArray) : Prop := Sl w v (s.data.toList.map fun b => .int .u8 b.toNat)
theorem Bs.chg {w w' : World} {v : Value} {s : ByteArray} (h : Bs w v s) (hc : Chg w w' []) : Bs w' v s := Sl.keep h hc
theorem Bs.nil (w : World) : Bs w (.slice none 0 0) ⟨#[]⟩ := ⟨none, 0, rfl, Nat.le_refl _, fun h => absurd h (by simp)⟩
theorem Bs.of_ints {w : World} {v : Value} {z : List Int} (h : Sl w v (z.map (.int .u8))) (hz : ∀ n ∈ z, (Lit.int .u8 n).wf = true) : Bs w v (strOfNums z) := by
  have e : (strOfNums z).data.toList.map (fun b => Value.int .u8 b.toNat) = z.map (.int .u8) := by
    rw [strOfNums_data, List.map_map]
    refine List.map_congr_left fun n hn => ?_
    have hw := hz n hn
    simp only [Lit.wf, IntKind.min, IntKind.max, IntKind.signed, IntKind.bits] at hw
    simp at hw
    show Value.int .u8 ((UInt8.ofNat n.toNat).toNat : Int) = .int .u8 n
    congr 1
    rw [UInt8.toNat_ofNat']
    omega
  unfold Bs
  rw [e]
  exact h
theorem conv_str {w : World} {v : Value} {s : ByteArray} (h : Bs w v s) : (convert 47 9 v).run Tryd.prog w = .ok (.string s) w := by
  obtain ⟨A, c, hv, hc, hx⟩ := h
  have hl : (s.data.toList.map fun b => Value.int .u8 b.toNat).length = s.data.toList.length := by simp
  rw [hl] at hv hx
  by_cases h0 : 0 < s.data.toList.length
  · obtain ⟨b, off, rfl, hk⟩ := hx h0
    rw [hv]
    have := run_convert_bytes_back (P := Tryd.prog) w 47 9 5 ⟨b, off, none⟩ c s.data.toList Tryd.underlying47 Tryd.underlying5 Tryd.underlying9 (fun j hj => by
      rw [add_plain, hk j hj, List.getElem?_map, List.getElem?_eq_getElem hj]
      rfl)
    rw [this]
  · have hn : s.data.toList.length = 0 := by omega
    have hs : s = ⟨#[]⟩ := by
      apply ByteArray.ext
      have := List.length_eq_zero_iff.1 hn
      exact Array.toList_inj.mp this
    rw [hv, hn, hs]
    cases A with
    | none => exact run_convert_bytes_nil w 47 5 Tryd.underlying47 Tryd.underlying5 0 c 9 Tryd.underlying9
    | some a =>
      have := run_convert_bytes_back (P := Tryd.prog) w 47 9 5 a c [] Tryd.underlying47 Tryd.underlying5 Tryd.underlying9 (fun j hj => absurd hj (by simp))
      exact this
end Go.Proofs.YtidceolaemikgaaDoor
