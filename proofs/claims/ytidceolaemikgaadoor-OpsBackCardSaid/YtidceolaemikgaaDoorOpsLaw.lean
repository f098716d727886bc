/- The law functions of layer 6. -/
import Derived.Test.YtidceolaemikgaaDoorOpsCost
namespace Go.Proofs.YtidceolaemikgaaDoor
open Go.RowKit Go.Deep Go.Shelf
set_option linter.unusedVariables false

theorem CTab.below {w w' : World} (h : CTab w) (hb : Below w.heap.size w w') (hl : 0 < w.heap.size) : CTab w' := by
  have h' : w.var? Tryd.prog "astrolabe/ops.costs" = some _ := h
  show w'.var? Tryd.prog "astrolabe/ops.costs" = some _
  unfold World.var? at h' ⊢
  rw [show Tryd.prog.globalNamed "astrolabe/ops.costs" = some 0 by kernel_rfl] at h' ⊢
  simp only [Option.bind_some] at h' ⊢
  rw [hb.block _ hl]; exact h'
theorem CTab.lt {w : World} (h : CTab w) : 0 < w.heap.size := World.block_lt_of_cell? w _ (h.cell (g := 0) (by kernel_rfl) 0 (by decide))

/-- Both tables, and what has turned since w0. -/
structure Far (w0 w : World) : Prop where
  tab : Tab w
  costs : CTab w
  below : Below w0.heap.size w0 w
theorem Far.step {w0 w w' : World} (h : Far w0 w) (hb : Below w.heap.size w w') : Far w0 w' :=
  ⟨h.tab.below hb, h.costs.below hb h.costs.lt, h.below.trans (hb.mono h.below.size)⟩
theorem Far.start {w : World} (ht : Tab w) (hc : CTab w) : Far w w := ⟨ht, hc, Below.refl _ _⟩

set_option maxRecDepth 100000 in
set_option maxHeartbeats 2000000 in
theorem awake06_calls (w : World) (ht : Tab w) (hc : CTab w) : Calls Tryd.prog 7 #[] w fun e w' => e = .returned (.bool true) ∧ Below w.heap.size w w' := by
  have HF := hide (Far.start ht hc)
  clear ht hc
  go_enter Tryd.func7, Tryd.ntmps7
  go_wp2_with fail
  refine (Name_calls 20 _ HF.out.tab).mono ?_
  rintro e w1 ⟨rfl, hB⟩
  replace HF := hide (HF.out.step hB); clear hB
  rw [show nameOf 20 = ⟨#[109, 117, 108, 113]⟩ by kernel_rfl]
  go_wp2_with fail
  refine (shape_calls 35 _).mono ?_
  rintro e w2 ⟨rfl, rfl⟩
  rw [show shapeOf 35 = ⟨#[100, 97, 45, 117]⟩ by kernel_rfl]
  go_wp2_with fail
  refine (Find_calls _ _ HF.out.tab).mono ?_
  rintro e w2 ⟨rfl, hB⟩
  replace HF := hide (HF.out.step hB); clear hB
  rw [show findOf ⟨#[104, 97, 108, 116]⟩ = 43 by kernel_rfl]
  go_wp2_with fail
  refine (cost_calls 20 _ HF.out.costs).mono ?_
  rintro e w3 ⟨rfl, rfl⟩
  rw [show costOf 20 = 3 by kernel_rfl]
  go_wp2_with fail
  refine (leaks_calls 34 _ HF.out.tab).mono ?_
  rintro e w3 ⟨rfl, hB⟩
  replace HF := hide (HF.out.step hB); clear hB
  rw [show leakOf 34 = true by kernel_rfl]
  go_wp2_with fail
  refine (reckons_calls 30 _).mono ?_
  rintro e w4 ⟨rfl, rfl⟩
  rw [show reckOf 30 = true by kernel_rfl]
  go_wp2_with fail
  refine (reckons_calls 31 _).mono ?_
  rintro e w4 ⟨rfl, rfl⟩
  rw [show reckOf 31 = false by kernel_rfl]
  go_wp2
  go_ret
  exact ⟨rfl, HF.out.below⟩

set_option maxRecDepth 100000 in
set_option maxHeartbeats 2000000 in
theorem opsTell_calls (n : Int) (s : ByteArray) (w : World) (ht : Tab w) (hc : CTab w) (h0 : -9223372036854775808 ≤ n) (h1 : n ≤ 9223372036854775807) :
    Calls Tryd.prog 3 #[.int .i64 n, .string s] w fun e w' => e = .returned (.bool true) ∧ Below w.heap.size w w' := by
  have HF := hide (Far.start ht hc)
  clear ht hc
  cases hl : decide ((s.size : Int) > 100) with
  | true =>
    go_enter Tryd.func3, Tryd.ntmps3
    go_wp2_with fail
    refine (awake06_calls _ HF.out.tab HF.out.costs).mono ?_
    rintro e w1 ⟨rfl, hB⟩
    replace HF := hide (HF.out.step hB); clear hB
    go_wp2
    go_ret
    exact ⟨rfl, HF.out.below⟩
  | false =>
    go_enter Tryd.func3, Tryd.ntmps3
    go_wp2_with fail
    refine (Name_calls n _ HF.out.tab).mono ?_
    rintro e w1 ⟨rfl, hB⟩
    replace HF := hide (HF.out.step hB); clear hB
    go_wp2_with fail
    refine (refname_calls n _ h0 h1).mono ?_
    rintro e w2 ⟨rfl, hB⟩
    replace HF := hide (HF.out.step hB); clear hB
    generalize nameOf n = nn at *
    go_wp2_with fail
    refine (Find_calls s _ HF.out.tab).mono ?_
    rintro e w3 ⟨rfl, hB⟩
    replace HF := hide (HF.out.step hB); clear hB
    go_wp2_with fail
    refine (reffind_calls s _).mono ?_
    rintro e w4 ⟨rfl, hB⟩
    replace HF := hide (HF.out.step hB); clear hB
    generalize findOf s = fs at *
    go_wp2_with fail
    refine (shape_calls n _).mono ?_
    rintro e w5 ⟨rfl, rfl⟩
    go_wp2_with fail
    refine (refshape_calls n _).mono ?_
    rintro e w5 ⟨rfl, rfl⟩
    generalize shapeOf n = sn at *
    go_wp2_with fail
    refine (cost_calls n _ HF.out.costs).mono ?_
    rintro e w6 ⟨rfl, rfl⟩
    go_wp2_with fail
    refine (refcost_calls n _ h0 h1).mono ?_
    rintro e w6 ⟨rfl, hB⟩
    replace HF := hide (HF.out.step hB); clear hB
    generalize costOf n = cn at *
    go_wp2_with fail
    refine (reckons_calls n _).mono ?_
    rintro e w7 ⟨rfl, rfl⟩
    go_wp2_with fail
    refine (refreckons_calls n _).mono ?_
    rintro e w7 ⟨rfl, rfl⟩
    generalize reckOf n = rn at *
    go_wp2_with fail
    refine (leaks_calls n _ HF.out.tab).mono ?_
    rintro e w7 ⟨rfl, hB⟩
    replace HF := hide (HF.out.step hB); clear hB
    go_wp2_with fail
    refine (refleaks_calls n _).mono ?_
    rintro e w8 ⟨rfl, hB⟩
    replace HF := hide (HF.out.step hB); clear hB
    generalize leakOf n = kn at *
    go_wp2_with fail
    refine (awake06_calls _ HF.out.tab HF.out.costs).mono ?_
    rintro e w9 ⟨rfl, hB⟩
    replace HF := hide (HF.out.step hB); clear hB
    go_wp2
    go_ret
    exact ⟨rfl, HF.out.below⟩


theorem back_all : ((List.range 43).all fun k => decide (findOf (nm k) = (k : Int) + 1) && decide (1 ≤ costOf ((k : Int) + 1)) && decide (costOf ((k : Int) + 1) ≤ 3) && decide ((shapeOf ((k : Int) + 1)).size = 4) && !decide ((nm k).toList.isEmpty = true)) = true := by kernel_rfl
theorem back_at (n : Int) (h : 1 ≤ n) (h' : n ≤ 43) : findOf (nameOf n) = n ∧ 1 ≤ costOf n ∧ costOf n ≤ 3 ∧ (shapeOf n).size = 4 ∧ (nameOf n).toList.isEmpty = false := by
  have := List.all_eq_true.1 back_all (n - 1).toNat (List.mem_range.2 (by omega))
  rw [show (((n - 1).toNat : Nat) : Int) + 1 = n by omega] at this
  have e : nameOf n = nm (n - 1).toNat := by unfold nameOf; rw [if_pos ⟨h, h'⟩]
  simp only [Bool.and_eq_true, decide_eq_true_eq, Bool.not_eq_true', decide_eq_false_iff_not] at this
  obtain ⟨⟨⟨⟨a, b⟩, c⟩, d⟩, f⟩ := this
  rw [e]
  exact ⟨a, b, c, d, by simpa using f⟩

set_option maxRecDepth 100000 in
set_option maxHeartbeats 2000000 in
theorem opsBack_calls (n : Int) (w : World) (ht : Tab w) (hc : CTab w) (h0 : -9223372036854775808 ≤ n) (h1 : n ≤ 9223372036854775807) :
    Calls Tryd.prog 4 #[.int .i64 n] w fun e w' => e = .returned (.bool true) ∧ Below w.heap.size w w' := by
  have hcases : (n < 1 ∨ 43 < n) ∨ (1 ≤ n ∧ n ≤ 23) ∨ (23 < n ∧ n ≤ 30) ∨ (30 < n ∧ n ≤ 43) := by omega
  rcases hcases with h | ⟨h, h'⟩ | ⟨h, h'⟩ | ⟨h, h'⟩
  · have e1 : nameOf n = ⟨#[]⟩ := by unfold nameOf; rw [if_neg (by omega)]
    have e2 : shapeOf n = ⟨#[]⟩ := by unfold shapeOf; rcases h with h | h; rw [if_pos h]; rw [if_neg (by omega), if_pos h]
    have hi : isOp n = false := by unfold isOp; simp; omega
    have e3 : costOf n = 0 := by unfold costOf; rw [hi]; rfl
    have e4 : reckOf n = false := by unfold reckOf; simp; omega
    have e5 : leakOf n = false := leak_isOp n hi
    have HF := hide (Far.start ht hc)
    have hd : decide (n > 43) = true ∨ decide (n < 1) = true := by rcases h with h | h; exact .inr (by simpa using h); exact .inl (by simpa using h)
    clear ht hc hi
    have HH := hide h
    clear h
    cases hd1 : decide (n < 1) with
    | true =>
      clear hd
      go_enter Tryd.func4, Tryd.ntmps4
      go_wp2_with fail
      refine (Name_calls n _ HF.out.tab).mono ?_
      rintro e w1 ⟨rfl, hB⟩
      replace HF := hide (HF.out.step hB); clear hB
      rw [e1]
      go_wp2_with fail
      refine (shape_calls n _).mono ?_
      rintro e w2 ⟨rfl, rfl⟩
      rw [e2]
      go_wp2_with fail
      refine (cost_calls n _ HF.out.costs).mono ?_
      rintro e w2 ⟨rfl, rfl⟩
      rw [e3]
      go_wp2_with fail
      refine (reckons_calls n _).mono ?_
      rintro e w2 ⟨rfl, rfl⟩
      rw [e4]
      go_wp2_with fail
      refine (leaks_calls n _ HF.out.tab).mono ?_
      rintro e w2 ⟨rfl, hB⟩
      replace HF := hide (HF.out.step hB); clear hB
      rw [e5]
      go_wp2_with fail
      refine (awake06_calls _ HF.out.tab HF.out.costs).mono ?_
      rintro e w3 ⟨rfl, hB⟩
      replace HF := hide (HF.out.step hB); clear hB
      go_wp2
      go_ret
      exact ⟨rfl, HF.out.below⟩
    | false =>
      have hd := hd.resolve_right (by rw [hd1]; decide)
      go_enter Tryd.func4, Tryd.ntmps4
      go_wp2_with fail
      refine (Name_calls n _ HF.out.tab).mono ?_
      rintro e w1 ⟨rfl, hB⟩
      replace HF := hide (HF.out.step hB); clear hB
      rw [e1]
      go_wp2_with fail
      refine (shape_calls n _).mono ?_
      rintro e w2 ⟨rfl, rfl⟩
      rw [e2]
      go_wp2_with fail
      refine (cost_calls n _ HF.out.costs).mono ?_
      rintro e w2 ⟨rfl, rfl⟩
      rw [e3]
      go_wp2_with fail
      refine (reckons_calls n _).mono ?_
      rintro e w2 ⟨rfl, rfl⟩
      rw [e4]
      go_wp2_with fail
      refine (leaks_calls n _ HF.out.tab).mono ?_
      rintro e w2 ⟨rfl, hB⟩
      replace HF := hide (HF.out.step hB); clear hB
      rw [e5]
      go_wp2_with fail
      refine (awake06_calls _ HF.out.tab HF.out.costs).mono ?_
      rintro e w3 ⟨rfl, hB⟩
      replace HF := hide (HF.out.step hB); clear hB
      go_wp2
      go_ret
      exact ⟨rfl, HF.out.below⟩
  · obtain ⟨hf, hc1, hc3, _, hn⟩ := back_at n h (by omega)
    have hf := hide hf
    have hs : Hid (shapeOf n = ⟨#[100, 97, 98, 45]⟩) := hide (by unfold shapeOf; rw [if_neg (by omega), if_neg (by omega), if_pos h'])
    have hr : reckOf n = true := by unfold reckOf; simp; omega
    have hd1 : decide (n < 1) = false := by simp; omega
    have hd2 : decide (n > 43) = false := by simp; omega
    have HF := hide (Far.start ht hc)
    clear ht hc h h'
    go_enter Tryd.func4, Tryd.ntmps4
    go_wp2_with fail
    refine (Name_calls n _ HF.out.tab).mono ?_
    rintro e w1 ⟨rfl, hB⟩
    replace HF := hide (HF.out.step hB); clear hB
    go_wp2_with fail
    refine (shape_calls n _).mono ?_
    rintro e w2 ⟨rfl, rfl⟩
    rw [hs.out]
    generalize nameOf n = nn at *
    go_wp2_with fail
    refine (Find_calls nn _ HF.out.tab).mono ?_
    rintro e w3 ⟨rfl, hB⟩
    replace HF := hide (HF.out.step hB); clear hB
    rw [hf.out]
    go_wp2_with fail
    refine (cost_calls n _ HF.out.costs).mono ?_
    rintro e w6 ⟨rfl, rfl⟩
    obtain ⟨cn, hcn⟩ : ∃ cn, Hid (costOf n = cn) := ⟨_, hide rfl⟩
    rw [hcn.out] at hc1 hc3 ⊢
    go_wp2_with fail
    refine (cost_calls n _ HF.out.costs).mono ?_
    rintro e w6 ⟨rfl, rfl⟩
    rw [hcn.out]
    go_wp2_with fail
    refine (reckons_calls n _).mono ?_
    rintro e w7 ⟨rfl, rfl⟩
    rw [hr]
    go_wp2_with fail
    refine (awake06_calls _ HF.out.tab HF.out.costs).mono ?_
    rintro e w9 ⟨rfl, hB⟩
    replace HF := hide (HF.out.step hB); clear hB
    go_wp2
    go_ret
    exact ⟨rfl, HF.out.below⟩

  · obtain ⟨hf, hc1, hc3, _, hn⟩ := back_at n (by omega) (by omega)
    have hf := hide hf
    have hs : Hid (shapeOf n = ⟨#[100, 97, 45, 45]⟩) := hide (by unfold shapeOf; rw [if_neg (by omega), if_neg (by omega), if_neg (by omega), if_pos h'])
    have hr : reckOf n = true := by unfold reckOf; simp; omega
    have hd1 : decide (n < 1) = false := by simp; omega
    have hd2 : decide (n > 43) = false := by simp; omega
    have HF := hide (Far.start ht hc)
    clear ht hc h h'
    go_enter Tryd.func4, Tryd.ntmps4
    go_wp2_with fail
    refine (Name_calls n _ HF.out.tab).mono ?_
    rintro e w1 ⟨rfl, hB⟩
    replace HF := hide (HF.out.step hB); clear hB
    go_wp2_with fail
    refine (shape_calls n _).mono ?_
    rintro e w2 ⟨rfl, rfl⟩
    rw [hs.out]
    generalize nameOf n = nn at *
    go_wp2_with fail
    refine (Find_calls nn _ HF.out.tab).mono ?_
    rintro e w3 ⟨rfl, hB⟩
    replace HF := hide (HF.out.step hB); clear hB
    rw [hf.out]
    go_wp2_with fail
    refine (cost_calls n _ HF.out.costs).mono ?_
    rintro e w6 ⟨rfl, rfl⟩
    obtain ⟨cn, hcn⟩ : ∃ cn, Hid (costOf n = cn) := ⟨_, hide rfl⟩
    rw [hcn.out] at hc1 hc3 ⊢
    go_wp2_with fail
    refine (cost_calls n _ HF.out.costs).mono ?_
    rintro e w6 ⟨rfl, rfl⟩
    rw [hcn.out]
    go_wp2_with fail
    refine (reckons_calls n _).mono ?_
    rintro e w7 ⟨rfl, rfl⟩
    rw [hr]
    go_wp2_with fail
    refine (awake06_calls _ HF.out.tab HF.out.costs).mono ?_
    rintro e w9 ⟨rfl, hB⟩
    replace HF := hide (HF.out.step hB); clear hB
    go_wp2
    go_ret
    exact ⟨rfl, HF.out.below⟩

  · obtain ⟨hf, hc1, hc3, hs, hn⟩ := back_at n (by omega) (by omega)
    have hf := hide hf
    have hr : reckOf n = false := by unfold reckOf; simp; omega
    have hd1 : decide (n < 1) = false := by simp; omega
    have hd2 : decide (n > 43) = false := by simp; omega
    have HF := hide (Far.start ht hc)
    clear ht hc h h'
    go_enter Tryd.func4, Tryd.ntmps4
    go_wp2_with fail
    refine (Name_calls n _ HF.out.tab).mono ?_
    rintro e w1 ⟨rfl, hB⟩
    replace HF := hide (HF.out.step hB); clear hB
    go_wp2_with fail
    refine (shape_calls n _).mono ?_
    rintro e w2 ⟨rfl, rfl⟩
    generalize shapeOf n = sn at *
    generalize nameOf n = nn at *
    go_wp2_with fail
    refine (Find_calls nn _ HF.out.tab).mono ?_
    rintro e w3 ⟨rfl, hB⟩
    replace HF := hide (HF.out.step hB); clear hB
    rw [hf.out]
    go_wp2_with fail
    refine (cost_calls n _ HF.out.costs).mono ?_
    rintro e w6 ⟨rfl, rfl⟩
    obtain ⟨cn, hcn⟩ : ∃ cn, Hid (costOf n = cn) := ⟨_, hide rfl⟩
    rw [hcn.out] at hc1 hc3 ⊢
    go_wp2_with fail
    refine (cost_calls n _ HF.out.costs).mono ?_
    rintro e w6 ⟨rfl, rfl⟩
    rw [hcn.out]
    go_wp2_with fail
    refine (reckons_calls n _).mono ?_
    rintro e w7 ⟨rfl, rfl⟩
    rw [hr]
    go_wp2_with fail
    refine (awake06_calls _ HF.out.tab HF.out.costs).mono ?_
    rintro e w9 ⟨rfl, hB⟩
    replace HF := hide (HF.out.step hB); clear hB
    go_wp2
    go_ret
    exact ⟨rfl, HF.out.below⟩

end Go.Proofs.YtidceolaemikgaaDoor
