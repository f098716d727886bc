/- Scripts in the reference: few deeds, a digit, bytes as a word. -/
import Derived.Test.YtidceolaemikgaaDoorScrO
namespace Go.Proofs.YtidceolaemikgaaDoor
open Go.RowKit Go.Deep Go.Shelf
set_option linter.unusedVariables false
attribute [local go_sem] Oper.semAt_some
def fewB (ds : List DeedL) (m : Int) : Bool := ds.all (fun d => decide (d.2.length ≤ 100)) && decide ((ds.length : Int) ≤ m)
theorem fewB_mem {ds : List DeedL} {m : Int} (h : fewB ds m = true) : (∀ d ∈ ds, d.2.length ≤ 100) ∧ (ds.length : Int) ≤ m := by
  unfold fewB at h
  simp only [Bool.and_eq_true, List.all_eq_true, decide_eq_true_eq] at h
  exact h
theorem all_far {ds : List DeedL} {k : Nat} (hk : k < ds.length) (h : 100 < (ds.getD k (false, [])).2.length) (m : Int) : fewB ds m = false := by
  cases hb : fewB ds m with
  | false => rfl
  | true =>
    have h2 : (ds.getD k (false, [])).2.length ≤ 100 := (fewB_mem hb).1 (ds.getD k (false, [])) (by simp [hk])
    omega
set_option maxRecDepth 100000 in
theorem few_calls (ds : List DeedL) (m : Int) (v : Value) (w : World) (hl : ds.length ≤ maxLen) (hlens : ∀ d ∈ ds, d.2.length ≤ maxLen) (hs : DSl w v ds) :
    Calls Tryd.prog 20 #[v, .int .i64 m] w fun e w' => e = .returned (.bool (fewB ds m)) ∧ w' = w := by
  obtain ⟨A, c, rfl, hx⟩ := dsl_open hs
  have HX := hide hx
  have HL := hide hlens
  unfold maxLen at hl
  clear hx hs hlens
  go_enter Tryd.func20, Tryd.ntmps20
  go_wp2
  go_loop [5] (fun i => ∃ k : Nat, k ≤ ds.length ∧ i = .int .i64 k ∧ Hid (∀ d ∈ ds.take k, d.2.length ≤ 100)) (fun i => ds.length - (intOf i).toNat)
  case atStart => exact ⟨0, Nat.zero_le _, rfl, hide (by simp)⟩
  case round =>
    obtain ⟨k, hk, rfl, HI⟩ := hrel
    by_cases hlt : k < ds.length
    · obtain ⟨b, off, rfl, hbl, h2⟩ := HX.out (by omega)
      obtain ⟨f, d, hc1, hc2, hf, hsd⟩ := h2 k hlt
      have HT := hide (dtake_at ds k hlt)
      have HF := hide (fun h => all_far (ds := ds) (k := k) hlt h m)
      have hln := HL.out (ds.getD k (false, [])) (by simp [hlt])
      unfold maxLen at hln
      obtain ⟨A2, c2, rfl, hx2⟩ := bytes_open hsd
      clear hx2 h2 hsd hf
      generalize ds.getD k (false, []) = dx at *
      by_cases h100 : 100 < dx.2.length
      · have e := HF.out h100
        have HE := hide e
        clear e
        go_wp2
        go_ret
        exact ⟨ret_bool HE.out.symm, rfl⟩
      · go_wp2
        go_round
        case rel =>
          refine ⟨k + 1, by omega, by go_num, hide ?_⟩
          rw [HT.out]
          intro d hd
          rw [List.mem_append] at hd
          rcases hd with hd | hd
          · exact HI.out d hd
          · simp at hd; subst hd; omega
        case measure => simp [intOf]; omega
    · have hk2 : k = ds.length := by omega
      subst hk2
      go_wp2
      go_ret
      refine ⟨ret_bool ?_, rfl⟩
      have := HI.out
      rw [List.take_length] at this
      unfold fewB
      rw [show ds.all (fun d => decide (d.2.length ≤ 100)) = true by simpa using this, Bool.true_and]
theorem digV_at : ∀ k, k < 16 → digV (digs.getD k 0) = k := by decide
theorem digV_find_all : ∀ n, n < 256 → digV (UInt8.ofNat n) < 0 ∨ digs.getD (digV (UInt8.ofNat n)).toNat 0 = UInt8.ofNat n := by decide +kernel
theorem digV_find (x : UInt8) : digV x < 0 ∨ digs.getD (digV x).toNat 0 = x := by
  have h := digV_find_all x.toNat x.toNat_lt
  simpa using h
theorem digV_no (x : UInt8) (h : ∀ k, k < 16 → digs.getD k 0 ≠ x) : digV x = -1 := by
  have hr := digV_range x
  rcases digV_find x with h1 | h1
  · omega
  · exact absurd h1 (by
      by_cases h0 : 0 ≤ digV x
      · exact h _ (by omega)
      · rw [show (digV x).toNat = 0 by omega]; exact h 0 (by omega))
set_option maxRecDepth 100000 in
theorem digit_calls (x : UInt8) (w : World) : Calls Tryd.prog 48 #[.int .u8 x.toNat] w fun e w' => e = .returned (.int .i64 (digV x)) ∧ w' = w := by
  have hx := x.toNat_lt
  go_enter Tryd.func48, Tryd.ntmps48
  go_wp2
  go_loop [3] (fun i => ∃ k : Nat, k ≤ 16 ∧ i = .int .i64 k ∧ Hid (∀ j, j < k → digs.getD j 0 ≠ x)) (fun i => 16 - (intOf i).toNat)
  case atStart => exact ⟨0, Nat.zero_le _, rfl, hide (by intro j h; omega)⟩
  case round =>
    obtain ⟨k, hk, rfl, HI⟩ := hrel
    by_cases hlt : k < 16
    · have hq : ∀ h, ((⟨#[48, 49, 50, 51, 52, 53, 54, 55, 56, 57, 97, 98, 99, 100, 101, 102]⟩ : ByteArray)[k]'h) = digs.getD k 0 := by
        intro h
        show (digB[k]'h) = _
        have : ∀ k, k < 16 → ∀ h : k < digB.size, (digB[k]'h) = digs.getD k 0 := by decide
        exact this k hlt h
      have HA := hide (digV_at k hlt)
      by_cases he : digs.getD k 0 = x
      · have HE := hide he
        have hx1 : ((digs.getD k 0).toNat == x.toNat) = true := by rw [he]; exact beq_self_eq_true _
        clear he
        generalize digs.getD k 0 = y at *
        go_wp2
        go_ret
        refine ⟨ret_int ?_, rfl⟩
        rw [← HE.out, HA.out]
      · have HE : Hid (∀ j, j < k + 1 → digs.getD j 0 ≠ x) := hide (by
          intro j hj
          by_cases hjk : j = k
          · subst hjk; exact he
          · exact HI.out j (by omega))
        have hx1 : ((digs.getD k 0).toNat == x.toNat) = false := by
          rw [beq_eq_false_iff_ne]; exact fun h => he (UInt8.toNat_inj.1 h)
        clear he
        generalize digs.getD k 0 = y at *
        go_wp2
        go_round
        case rel =>
          exact ⟨k + 1, by omega, by go_num, HE⟩
        case measure => simp [intOf]; omega
    · have hk2 : k = 16 := by omega
      subst hk2
      have HV := hide (digV_no x HI.out)
      go_wp2
      go_ret
      exact ⟨ret_int HV.out.symm, rfl⟩
theorem digB_cut (n : Nat) (h : n < 16) : digB.extract n (n + 1) = ⟨#[hexD n]⟩ := by
  have e : digB = ⟨digs.toArray⟩ := rfl
  rw [e, ext_eq]
  have : ∀ n, n < 16 → (digs.take (n + 1)).drop n = [hexD n] := by decide
  rw [this n h]
set_option maxRecDepth 100000 in
theorem rhex_calls (bs : List UInt8) (v : Value) (w : World) (hl : bs.length ≤ 1000000) (hs : Sl w v (Lib.byteCells bs)) :
    Calls Tryd.prog 41 #[v] w fun e w' => e = .returned (strV (hexL bs)) ∧ Chg w w' [] := by
  obtain ⟨A, c, rfl, hx⟩ := bytes_open hs
  have HX := hide hx
  clear hx hs
  go_enter Tryd.func41, Tryd.ntmps41
  go_wp2
  go_loopw [3, 4] (fun s i wr => ∃ k : Nat, k ≤ bs.length ∧ i = .int .i64 k ∧ s = .string ⟨(hexB (bs.take k)).toArray⟩ ∧ Hid (Chg w wr [])) (fun _ i _ => bs.length - (intOf i).toNat)
  case atStart => exact ⟨0, Nat.zero_le _, rfl, rfl, hide (Chg.refl _ _)⟩
  case round =>
    obtain ⟨k, hk, rfl, rfl, HR⟩ := hrel
    by_cases hlt : k < bs.length
    · obtain ⟨b, off, rfl, hbl, h2⟩ := HX.out (by omega)
      have hcell := HR.out.cell (h2 k hlt) (by simp)
      have HT : Hid (bs.take (k + 1) = bs.take k ++ [bs.getD k 0]) := hide (by have := take_at bs 0 k hlt (Nat.zero_le _); simpa using this)
      have hb256 := (bs.getD k 0).toNat_lt
      have HE : Hid (hexB (bs.take (k + 1)) = hexB (bs.take k) ++ [hexD ((bs.getD k 0).toNat / 16)] ++ [hexD ((bs.getD k 0).toNat % 16)]) := hide (by rw [HT.out, hexB_snoc]; simp)
      clear h2
      generalize (bs.getD k 0).toNat = x at *
      have HX1 := hide (digB_cut (x / 16) (by omega))
      have HX2 := hide (digB_cut (x % 16) (by omega))
      go_wp2
      go_quiet (fail)
      go_wp2
      rw [show (x : Int) / 16 = ((x / 16 : Nat) : Int) by omega, show (x : Int) % 16 = ((x % 16 : Nat) : Int) by omega]
      have hh1 : x / 16 < 16 := by omega
      have hh2 : x % 16 < 16 := by omega
      generalize x / 16 = hi at *
      generalize x % 16 = lo at *
      have s1 : IntKind.i64.wrap ((hi : Int) + 1) = (hi : Int) + 1 := by rw [IntKind.wrap_i64]; omega
      have s2 : (0 : Int) ≤ (hi : Int) + 1 := by omega
      have s3 : ((hi : Int) + 1).toNat = hi + 1 := by omega
      have s4 : (hi : Int) + 1 ≤ 16 := by omega
      have s8 : (hi : Int) ≤ (hi : Int) + 1 := by omega
      have r1 : IntKind.i64.wrap ((lo : Int) + 1) = (lo : Int) + 1 := by rw [IntKind.wrap_i64]; omega
      have r2 : (0 : Int) ≤ (lo : Int) + 1 := by omega
      have r3 : ((lo : Int) + 1).toNat = lo + 1 := by omega
      have r4 : (lo : Int) + 1 ≤ 16 := by omega
      have r8 : (lo : Int) ≤ (lo : Int) + 1 := by omega
      have g0 : (hexB (bs.take k)).length ≤ 3000000 := by rw [hexB_len, List.length_take]; omega
      have g1 : ¬ (9223372036854775807 < (hexB (bs.take k)).length + (min (hi + 1) 16 - hi)) := by omega
      have g2 : ¬ (9223372036854775807 < (hexB (bs.take k)).length + (min (hi + 1) 16 - hi) + (min (lo + 1) 16 - lo)) := by omega
      go_quiet (fail)
      clear s1 s2 s3 s4 s8 r1 r2 r3 r4 r8 g0 g1 g2
      go_wp2
      go_roundw
      case rel =>
        refine ⟨k + 1, by omega, by go_num, ?_, hide (HR.out.drewN _)⟩
        rw [HE.out]
        have e1 := HX1.out
        have e2 := HX2.out
        unfold digB at e1 e2
        rw [e1, e2]
        exact congrArg Value.string (lit_append (hexB (bs.take k) ++ [hexD hi]) [hexD lo] _ _ (bytes_append (hexB (bs.take k)) [hexD hi]) rfl)
      case measure => simp [intOf]; omega
    · have hk2 : k = bs.length := by omega
      subst hk2
      rw [List.take_length]
      have hl2 := hexB_len bs
      by_cases h0 : bs = []
      · subst h0
        go_wp2
        go_ret
        exact ⟨rfl, HR.out⟩
      · have HE : Hid (hexL bs = hexB bs) := hide (by unfold hexL; rw [if_neg h0])
        have hne : (hexB bs).isEmpty = false := by
          rw [List.isEmpty_eq_false_iff]
          intro h
          rw [h] at hl2
          have := List.length_pos_iff.2 h0
          simp at hl2; omega
        clear h0 hl2
        go_wp2
        go_ret
        refine ⟨?_, HR.out⟩
        rw [HE.out]
        rfl
end Go.Proofs.YtidceolaemikgaaDoor
