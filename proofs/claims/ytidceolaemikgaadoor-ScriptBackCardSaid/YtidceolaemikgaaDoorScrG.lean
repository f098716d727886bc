/- Digits of 16: the library's search for a rune among them, and the reference's. -/
import Derived.Test.YtidceolaemikgaaDoorScrB
import Derived.Laws.Runes
import Derived.Laws.RangeAny
import Derived.Lib.IndexLaws
namespace Go.Proofs.YtidceolaemikgaaDoor
open Go.RowKit Go.Deep Go.Shelf
set_option linter.unusedVariables false
attribute [local go_sem] Oper.semAt_some
def digs : List UInt8 := [48, 49, 50, 51, 52, 53, 54, 55, 56, 57, 97, 98, 99, 100, 101, 102]
def digB : ByteArray := ⟨#[48, 49, 50, 51, 52, 53, 54, 55, 56, 57, 97, 98, 99, 100, 101, 102]⟩
theorem digB_low : ∀ (pos : Nat) (h : pos < digB.size), (digB[pos]'h).toNat < 128 := by decide
/-- A digit's number; -1: it is none. -/
def digV (x : UInt8) : Int := match digL x with | some n => n | none => -1
theorem digs_byte : ∀ n, n < 256 → Lib.indexByte digs (UInt8.ofNat n) = digV (UInt8.ofNat n) := by decide +kernel
theorem digs_index (x : UInt8) : Lib.indexByte digs x = digV x := by
  have h := digs_byte x.toNat x.toNat_lt
  simpa using h
theorem indexByte_absent : ∀ (l : List UInt8) (c : UInt8), c ∉ l → Lib.indexByte l c = -1
  | [], _, _ => rfl
  | b :: l, c, h => by
    have hb : (b == c) = false := by
      rw [beq_eq_false_iff_ne]; rintro rfl; exact h (List.mem_cons_self ..)
    unfold Lib.indexByte
    rw [hb, indexByte_absent l c (fun m => h (List.mem_cons_of_mem _ m))]
    rfl
theorem digs_low : ∀ x ∈ digs, x.toNat < 128 := by decide
set_option maxRecDepth 100000 in
theorem indexRune_err (w : World) :
    Calls Tryd.prog 54 #[.string digB, .int .i32 65533] w fun e w' => e = .returned (.int .i64 (-1)) ∧ Below w.heap.size w w' := by
  go_enter Tryd.func54, Tryd.ntmps54
  go_wp2
  go_loopw [] (fun wr => ∃ pos : Nat, wr.heap[w.heap.size]? = some (.stringIter digB pos) ∧ Below w.heap.size w wr) (fun wr => digB.size - wr.iterPos w.heap.size)
  case atStart =>
    refine ⟨0, ?_, (Below.refl _ w).alloc (Nat.le_refl _) _⟩
    have := World.iter_heap w digB 0
    simpa using this
  case round =>
    obtain ⟨pos, hit, hbw⟩ := hrel
    by_cases hp : pos < digB.size
    · have hlo := digB_low pos hp
      have hnx : ∀ ty, (Instr.next (.pointer (some ⟨w.heap.size, 0, none⟩)) true ty).run Tryd.prog wr = _ := fun ty => Lib.run_next_ascii_at wr w.heap.size digB pos ty hit hp hlo
      have hx : (((digB[pos]'hp).toNat : Int) == 65533) = false := by
        rw [beq_eq_false_iff_ne]; omega
      have hit2 := Lib.iterAt_heap wr w.heap.size digB pos (pos + 1) hit
      have hbw2 := Lib.below_iterAt hbw (k := w.heap.size) (Nat.le_refl _) digB (pos + 1)
      clear hlo
      go_wp2
      go_roundw
      case rel => exact ⟨pos + 1, hit2, hbw2⟩
      case measure =>
        simp only [World.iterPos, hit2, hit]
        omega
    · have hnx : ∀ ty, (Instr.next (.pointer (some ⟨w.heap.size, 0, none⟩)) true ty).run Tryd.prog wr = _ := fun ty => Lib.run_next_end_at wr w.heap.size digB pos ty hit hp
      go_wp2
      go_ret
      exact ⟨rfl, hbw⟩
set_option maxRecDepth 100000 in
theorem indexRune_bad (r : Int) (w : World) (h0 : 128 ≤ r) (h1 : r ≤ 2147483647) (hne : r ≠ 65533) (hv : Lib.validRune r = false) :
    Calls Tryd.prog 54 #[.string digB, .int .i32 r] w fun e w' => e = .returned (.int .i64 (-1)) ∧ w = w' := by
  have hx : (r == 65533) = false := by simpa using hne
  have hx1 : decide (0 ≤ r) = true := by simp; omega
  have hx2 : decide (r < 128) = false := by simp; omega
  go_enter Tryd.func54, Tryd.ntmps54
  go_wp2_with (go_at_call 63; refine (Tryd.utf8_ValidRune _ _).mono ?_; rw [hv]; rintro e w1 ⟨rfl, hw⟩; rw [hw])
  go_ret
  exact ⟨rfl, rfl⟩
set_option maxRecDepth 100000 in
theorem indexRune_far (r : Int) (w : World) (h0 : 128 ≤ r) (h1 : r ≤ 2147483647) (hne : r ≠ 65533) (hv : Lib.validRune r = true) :
    Calls Tryd.prog 54 #[.string digB, .int .i32 r] w fun e w' => e = .returned (.int .i64 (-1)) ∧ Below w.heap.size w w' := by
  have hx : (r == 65533) = false := by simpa using hne
  have hx1 : decide (0 ≤ r) = true := by simp; omega
  have hx2 : decide (r < 128) = false := by simp; omega
  have hval : Utf8.valid r = true := by
    unfold Lib.validRune at hv
    unfold Utf8.valid
    simp only [decide_eq_true_eq] at hv
    simp
    omega
  obtain ⟨e1, e2, e3⟩ := encode_facts r hval h0
  have HV := hide hv
  have hcv : ∀ w, (convert 21 9 (.int .i32 r)).run Tryd.prog w = .ok (.string (Utf8.encode r)) w := fun w => run_convert_int_string w _ _ _ _ (by rw [Tryd.underlying21]; rfl) Tryd.underlying9
  clear hval hne hv h0 h1
  generalize Utf8.encode r = rs at *
  obtain ⟨m, hm⟩ : ∃ m, rs.size = m + 1 := ⟨rs.size - 1, by omega⟩
  obtain ⟨y, hy, hy2⟩ : ∃ y : UInt8, (∀ h : m < rs.size, rs[m]'h = y) ∧ 128 ≤ y.toNat := by
    refine ⟨rs[m]'(by omega), fun _ => rfl, ?_⟩
    have := e3 (by omega)
    simpa [hm] using this
  have hm1 : m < digB.size := by show m < 16; omega
  obtain ⟨z, hz, hz2⟩ : ∃ z : UInt8, (∀ h : m < digB.size, digB[m]'h = z) ∧ z.toNat < 128 := ⟨digB[m]'hm1, fun _ => rfl, digB_low m hm1⟩
  have hne : (z.toNat != y.toNat) = true := by rw [bne_iff_ne]; omega
  have hix : ∀ a b, Lib.indexByte (digB.extract a b).data.toList y = -1 := by
    intro a b
    refine indexByte_absent _ _ fun h => ?_
    rw [Lib.extract_data] at h
    have h' : y ∈ digs := by
      have := List.mem_of_mem_drop (List.mem_of_mem_take h)
      exact this
    have := digs_low y h'
    omega
  have hcall : ∀ a (W : World), Calls Tryd.prog 62 #[.string (digB.extract a digB.size), .int .u8 y.toNat] W fun e w' => e = .returned (.int .i64 (-1)) ∧ w' = W := by
    intro a W
    refine (Tryd.strings_IndexByte _ _ _).mono ?_
    rintro e w' ⟨rfl, rfl⟩
    rw [show ((y.toNat : Int)).toNat.toUInt8 = y by simp, hix]
    exact ⟨rfl, rfl⟩
  have hm3 : m ≤ 3 := by omega
  have hm0 : 1 ≤ m := by omega
  have hsz : digB.size = 16 := rfl
  clear e1 e2 e3 hy2 hz2 hix
  have hcall2 := hcall (m + 1)
  rw [hsz] at hcall2
  go_enter Tryd.func54, Tryd.ntmps54
  go_wp2_with (go_at_call 63; refine (Tryd.utf8_ValidRune _ _).mono ?_; rw [HV.out]; rintro e w1 ⟨rfl, hw⟩; rw [hw])
  go_step3
  go_wp2
  go_loopw [9] (fun i wr => i = .int .i64 m ∧ wr = w) (fun _ _ => 0)
  case atStart => exact ⟨by go_num, rfl⟩
  case round =>
    obtain ⟨rfl, rfl⟩ := hrel
    go_wp2_with fail
    try go_step3
    go_wp2_with fail
    go_quiet (fail)
    go_wp2_with fail
    have hwr : IntKind.i64.wrap ((m : Int) + 1) = (m : Int) + 1 := by rw [IntKind.wrap_i64]; omega
    have hw1 : (m : Int) + 1 ≤ 16 := by omega
    have hw0 : 0 ≤ (m : Int) + 1 := by omega
    have hwn : ((m : Int) + 1).toNat = m + 1 := by omega
    have hml : (m : Int) < (m : Int) + 1 := by omega
    have HQ := hide ((Chg.refl wr []).drewN nq)
    have HQ0 : Hid (wr.heap.size ≤ wr.heap.size) := hide (Nat.le_refl _)
    generalize wr.drewN nq = wq at *
    go_quiet ((go_at_call 62; exact Calls.quiet_of_same (hcall2 _)))
    clear hwr hw1 hw0 hwn hml
    go_wp2
    rw [Exit.noGoto_ret]
    dsimp (config := { zetaDelta := true }) only [Exit.inBlock, Exit.then]
    rw [Exit.noGoto_ret]
    go_ret
    exact ⟨rfl, (HQ.out.drewN _).to_below⟩
end Go.Proofs.YtidceolaemikgaaDoor
