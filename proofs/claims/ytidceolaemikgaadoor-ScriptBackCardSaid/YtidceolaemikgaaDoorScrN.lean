/- The program's script.hex. -/
import Derived.Test.YtidceolaemikgaaDoorScrK
namespace Go.Proofs.YtidceolaemikgaaDoor
open Go.RowKit Go.Deep Go.Shelf
set_option linter.unusedVariables false
attribute [local go_sem] Oper.semAt_some
theorem hexB_snoc (l : List UInt8) (x : UInt8) : hexB (l ++ [x]) = hexB l ++ [hexD (x.toNat / 16), hexD (x.toNat % 16)] := by simp [hexB]
theorem hexB_len (l : List UInt8) : (hexB l).length = 2 * l.length := by
  unfold hexB
  induction l with
  | nil => rfl
  | cons x xs ih => simp only [List.flatMap_cons, List.length_append, List.length_cons, List.length_nil, ih]; omega
theorem digB_hex : ∀ n, n < 16 → ∀ h : n < digB.size, (digB[n]'h) = hexD n := by decide
theorem byteCells_at (l : List UInt8) (k : Nat) (h : k < l.length) : (Lib.byteCells l)[k]? = some (.int .u8 (l.getD k 0).toNat) := by
  simp [Lib.byteCells, h]
theorem bytes_open {w : World} {v : Value} {bs : List UInt8} (hs : Sl w v (Lib.byteCells bs)) : ∃ A c, v = .slice A bs.length c ∧ (0 < bs.length → ∃ b off, A = some ⟨b, off, none⟩ ∧ b < w.heap.size ∧ ∀ k, k < bs.length → w.cell? ⟨b, off + k, none⟩ = some (.int .u8 (bs.getD k 0).toNat)) := by
  obtain ⟨A, c, rfl, hc, hx⟩ := hs
  rw [Lib.byteCells_length] at *
  refine ⟨A, c, rfl, fun h => ?_⟩
  obtain ⟨b, off, rfl, h2⟩ := hx h
  have h3 : ∀ k, k < bs.length → w.cell? ⟨b, off + k, none⟩ = some (.int .u8 (bs.getD k 0).toNat) := fun k hk => (h2 k hk).trans (byteCells_at bs k hk)
  exact ⟨b, off, rfl, World.block_lt_of_cell? w _ (h3 0 h), h3⟩
set_option maxRecDepth 100000 in
theorem hex_calls (bs : List UInt8) (v : Value) (w : World) (hl : bs.length ≤ 1000000) (hs : Sl w v (Lib.byteCells bs)) :
    Calls Tryd.prog 39 #[v] w fun e w' => e = .returned (strV (hexL bs)) ∧ Below w.heap.size w w' := by
  obtain ⟨A, c, rfl, hx⟩ := bytes_open hs
  by_cases h0 : bs = []
  · subst h0
    simp only [List.length_nil]
    go_enter Tryd.func39, Tryd.ntmps39
    go_wp2
    go_ret
    exact ⟨rfl, Below.refl _ _⟩
  · have hp : 0 < bs.length := List.length_pos_iff.2 h0
    obtain ⟨b, off, rfl, hbl, h2⟩ := hx hp
    have H2 := hide h2
    have H0 := hide h0
    have hz : ((bs.length : Int) == 0) = false := by rw [beq_eq_false_iff_ne]; omega
    have HB := hide (Lib.IsBuilderF.of (Lib.fresh_isBuilder TB T8 w))
    have HBL := hide ((Below.refl w.heap.size w).alloc (Nat.le_refl _) (.cells #[.pointer none, .slice none 0 0] TB))
    clear h2 hx hs h0
    go_enter Tryd.func39, Tryd.ntmps39
    go_wp2
    generalize w.alloc (.cells #[.pointer none, .slice none 0 0] TB) = w1 at *
    go_loopw [11] (fun i wr => ∃ k : Nat, k ≤ bs.length ∧ i = .int .i64 k ∧ Hid (Lib.IsBuilderF TB T8 w.heap.size w.heap.size (Lib.byteCells (hexB (bs.take k))) wr) ∧ Hid (Below w.heap.size w wr)) (fun i _ => bs.length - (intOf i).toNat)
    case atStart => exact ⟨0, Nat.zero_le _, rfl, HB, HBL⟩
    case round =>
      obtain ⟨k, hk, rfl, HI, HR⟩ := hrel
      by_cases hlt : k < bs.length
      · have hcell := (HR.out.cell (p := ⟨b, off + k, none⟩) hbl).trans (H2.out k hlt)
        have HT : Hid (bs.take (k + 1) = bs.take k ++ [bs.getD k 0]) := hide (by have := take_at bs 0 k hlt (Nat.zero_le _); simpa using this)
        have hb256 := (bs.getD k 0).toNat_lt
        have hhl := hexB_len (bs.take k)
        rw [List.length_take] at hhl
        have hlen : (Lib.byteCells (hexB (bs.take k))).length ≤ 2000000 := by rw [Lib.byteCells_length]; omega
        have HE : Hid (Lib.byteCells (hexB (bs.take (k + 1))) = Lib.byteCells (hexB (bs.take k)) ++ [.int .u8 (hexD ((bs.getD k 0).toNat / 16)).toNat] ++ [.int .u8 (hexD ((bs.getD k 0).toNat % 16)).toNat]) := hide (by
          rw [HT.out, hexB_snoc]; simp [Lib.byteCells])
        have hq1 : ∀ h, ((⟨#[48, 49, 50, 51, 52, 53, 54, 55, 56, 57, 97, 98, 99, 100, 101, 102]⟩ : ByteArray)[(bs.getD k 0).toNat / 16]'h) = hexD ((bs.getD k 0).toNat / 16) := fun h => digB_hex _ (by omega) h
        have hq2 : ∀ h, ((⟨#[48, 49, 50, 51, 52, 53, 54, 55, 56, 57, 97, 98, 99, 100, 101, 102]⟩ : ByteArray)[(bs.getD k 0).toNat % 16]'h) = hexD ((bs.getD k 0).toNat % 16) := fun h => digB_hex _ (by omega) h
        clear hhl
        generalize (bs.getD k 0).toNat = x at *
        go_wp2_with fail
        go_at_call 50
        refine (writeByte_calls w.heap.size w.heap.size _ _ wr HI.out (by omega) HR.out.size).mono ?_
        rintro e w2 ⟨rfl, hi2, hb2⟩
        have HI2 := hide hi2
        have HR2 := hide (HR.out.trans hb2)
        clear hi2 hb2
        go_wp2_with fail
        go_at_call 50
        refine (writeByte_calls w.heap.size w.heap.size _ _ w2 HI2.out (by simp; omega) HR2.out.size).mono ?_
        rintro e w3 ⟨rfl, hi3, hb3⟩
        have HI3 := hide hi3
        have HR3 := hide (HR2.out.trans hb3)
        clear hi3 hb3
        go_wp2
        go_roundw
        case rel => exact ⟨k + 1, by omega, by go_num, by rw [HE.out]; exact HI3, HR3⟩
        case measure => simp [intOf]; omega
      · have hk2 : k = bs.length := by omega
        subst hk2
        rw [List.take_length] at HI
        go_wp2_with fail
        go_at_call 40
        refine (Tryd.Builder_String_any_k w.heap.size w.heap.size _ wr HI.out HR.out.size).mono ?_
        rintro e w2 ⟨rfl, _, hb2, _⟩
        go_wp2
        go_ret
        refine ⟨?_, HR.out.trans hb2⟩
        unfold hexL
        rw [if_neg H0.out]
        rfl
end Go.Proofs.YtidceolaemikgaaDoor
