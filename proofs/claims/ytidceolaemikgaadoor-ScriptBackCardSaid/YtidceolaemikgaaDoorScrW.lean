/- The laws of scripts: ScriptTells, ScriptBack. -/
import Derived.Test.YtidceolaemikgaaDoorScrV
namespace Go.Proofs.YtidceolaemikgaaDoor
open Go.RowKit Go.Deep Go.Shelf
set_option linter.unusedVariables false
attribute [local go_sem] Oper.semAt_some
theorem few_same (ds : List DeedL) (m : Int) (v : Value) (w : World) (hl : ds.length ≤ maxLen) (hlens : ∀ d ∈ ds, d.2.length ≤ maxLen) (hs : DSl w v ds) :
    Calls Tryd.prog 20 #[v, .int .i64 m] w fun e w' => e = .returned (.bool (fewB ds m)) ∧ w = w' :=
  (few_calls ds m v w hl hlens hs).mono fun _ _ ⟨h1, h2⟩ => ⟨h1, h2.symm⟩
theorem parseL_len : ∀ (L : List (List UInt8)) (i : Nat) (out : List DeedL), out.length ≤ 1000 → (parseL i out L).1.length ≤ 1000
  | [], i, out, h => h
  | t :: ts, i, out, h => by
    rw [parseL]
    split
    · exact parseL_len ts _ _ h
    · split
      · simp
      · split
        · simp
        · exact parseL_len ts _ _ (by simp; omega)
set_option maxRecDepth 100000 in
theorem scriptTells_calls (l : List UInt8) (ds : List DeedL) (v : Value) (w : World) (hm : MxL w) (hl : l.length ≤ maxLen) (hn : ds.length ≤ maxLen) (hd : ∀ d ∈ ds, d.2.length ≤ maxLen) (hs : DSl w v ds) :
    Calls Tryd.prog 5 #[strV l, v] w fun e w' => e = .returned (.bool true) ∧ Chg w w' [] := by
  have haw := awake40_calls w hm
  have hfew := few_same ds 1100 v w hn hd hs
  unfold maxLen at hl
  by_cases h9 : 9000 < l.length
  · have hz : decide (9000 < (l.length : Int)) = true := by simp; omega
    have hz2 : decide (9000 < l.length) = true := by simp; omega
    clear hfew hs
    unfold strV
    go_enter Tryd.func5, Tryd.ntmps5
    go_wp2_with (go_at_call 21; refine haw.mono ?_)
    rintro e w1 ⟨rfl, hc⟩
    go_wp2
    go_ret
    exact ⟨rfl, hc⟩
  · have hz : decide (9000 < (l.length : Int)) = false := by simp; omega
    have hz2 : decide (9000 < l.length) = false := by simp; omega
    cases hf : fewB ds 1100 with
    | false =>
      rw [hf] at hfew
      clear hf hs
      unfold strV
      go_enter Tryd.func5, Tryd.ntmps5
      go_wp2_with (go_at_call 20; refine hfew.mono ?_)
      rintro e w1 ⟨rfl, rfl⟩
      go_wp2_with (go_at_call 21; refine haw.mono ?_)
      rintro e w1 ⟨rfl, hc⟩
      go_wp2
      go_ret
      exact ⟨rfl, hc⟩
    | true =>
      rw [hf] at hfew
      obtain ⟨hd100, h1100⟩ := fewB_mem hf
      have hp := parse_calls l w (by omega) hm
      have HS := hide hs
      have HM := hide hm
      have HD := hide hd100
      have hle : ds.length ≤ 1100 := by omega
      have hL : (parseL 0 [] (linesL l)).1.length ≤ 1000000 := by have := parseL_len (linesL l) 0 [] (by decide); omega
      generalize hR : parseL 0 [] (linesL l) = R at *
      have HR := hide hR
      clear hf haw hs hm hd100 hd h1100 hR
      unfold strV at *
      go_enter Tryd.func5, Tryd.ntmps5
      go_wp2_with (go_at_call 20; refine hfew.mono ?_)
      rintro e w1 ⟨rfl, rfl⟩
      go_wp2_with (go_at_call 22; refine hp.mono ?_)
      rintro e w1 ⟨va, rfl, hsa, hc1⟩
      have hp2 := rparse_calls l w1 (by omega)
      rw [HR.out] at hp2
      have HSA := hide hsa
      have HC1 := hide hc1
      unfold strV at hp2
      clear hp hsa hc1 hfew
      go_wp2_with (go_at_call 23; refine hp2.mono ?_)
      rintro e w2 ⟨vb, rfl, hsb, hc2⟩
      have HC2 := hide (HC1.out.trans hc2 (by simp))
      have HSA2 := hide (HSA.out.chg hc2)
      have HSB := hide hsb
      have ht := text_calls ds v w2 hle HD.out (HS.out.chg HC2.out)
      clear hp2 hsb hc2
      unfold strV at ht
      go_wp2_with (go_at_call 24; refine ht.mono ?_)
      rintro e w3 ⟨rfl, hb3⟩
      have hc3 := Chg.of_below (D := []) hb3
      have HC3 := hide (HC2.out.trans hc3 (by simp))
      have HSA3 := hide (HSA2.out.chg hc3)
      have HSB3 := hide (HSB.out.chg hc3)
      have ht2 := rtext_calls ds v w3 hle HD.out (HS.out.chg HC3.out)
      clear ht hb3 hc3
      unfold strV at ht2
      go_wp2_with (go_at_call 25; refine ht2.mono ?_)
      rintro e w4 ⟨rfl, hc4⟩
      have HC4 := hide (HC3.out.trans hc4 (by simp))
      have hsm := same_calls R.1 R.1 va vb w4 hL hL (HSA3.out.chg hc4) (HSB3.out.chg hc4)
      rw [sameL_self] at hsm
      clear ht2 hc4
      go_wp2_with (go_at_call 26; refine hsm.mono ?_)
      rintro e w5 ⟨rfl, hc5⟩
      have HC5 := hide (HC4.out.trans hc5 (by simp))
      have haw := awake40_calls w5 (HM.out.chg HC5.out)
      clear hsm hc5
      go_wp2_with (go_at_call 21; refine haw.mono ?_)
      rintro e w6 ⟨rfl, hc6⟩
      go_wp2
      go_ret
      exact ⟨rfl, HC5.out.trans hc6 (by simp)⟩
set_option maxRecDepth 100000 in
theorem scriptBack_calls (ds : List DeedL) (v : Value) (w : World) (hm : MxL w) (hn : ds.length ≤ maxLen) (hd : ∀ d ∈ ds, d.2.length ≤ maxLen) (hs : DSl w v ds) :
    Calls Tryd.prog 6 #[v] w fun e w' => e = .returned (.bool true) ∧ Chg w w' [] := by
  have haw := awake40_calls w hm
  have hfew := few_same ds 1100 v w hn hd hs
  cases hf : fewB ds 1100 with
  | false =>
    rw [hf] at hfew
    clear hf hs
    go_enter Tryd.func6, Tryd.ntmps6
    go_wp2_with (go_at_call 20; refine hfew.mono ?_; rintro e w1 ⟨rfl, rfl⟩)
    go_wp2_with (go_at_call 21; refine haw.mono ?_)
    rintro e w1 ⟨rfl, hc⟩
    go_wp2
    go_ret
    exact ⟨rfl, hc⟩
  | true =>
    rw [hf] at hfew
    obtain ⟨hd100, h1100⟩ := fewB_mem hf
    have hle : ds.length ≤ 1100 := by omega
    have ht := text_calls ds v w hle hd100 hs
    obtain ⟨A, c, rfl, _⟩ := dsl_open hs
    by_cases h1000 : 1000 < ds.length
    · have e : textR ds = ([], 5) := by unfold textR; rw [if_pos h1000]
      rw [e] at ht
      have ht : Calls Tryd.prog 24 #[.slice A ds.length c] w fun e w' => e = .returned (.tuple #[.string ⟨#[]⟩, .int .i64 5]) ∧ Below w.heap.size w w' := ht
      have hz : decide (1000 < (ds.length : Int)) = true := by simp; omega
      have hz2 : decide (1000 < ds.length) = true := by simp; omega
      have HM := hide hm
      clear hf haw hs hm hd100 hd h1100 e
      go_enter Tryd.func6, Tryd.ntmps6
      go_wp2_with (go_at_call 20; refine hfew.mono ?_; rintro e w1 ⟨rfl, rfl⟩)
      go_wp2_with fail
      go_at_call 24
      refine ht.mono ?_
      rintro e w1 ⟨rfl, hb⟩
      have HC := hide (Chg.of_below (D := []) hb)
      have haw := awake40_calls w1 (HM.out.chg HC.out)
      clear hb ht hfew
      go_wp2_with (go_at_call 21; refine haw.mono ?_)
      rintro e w2 ⟨rfl, hc⟩
      go_wp2
      go_ret
      exact ⟨rfl, HC.out.trans hc (by simp)⟩
    · have e : textR ds = (textL ds, 0) := by unfold textR; rw [if_neg h1000]
      rw [e] at ht
      have hz : decide (1000 < (ds.length : Int)) = false := by simp; omega
      have hz2 : decide (1000 < ds.length) = false := by simp; omega
      have htl := textL_len ds hd100
      have HPT := hide (parse_text ds (by omega))
      have HSN := hide (sameL_norm ds)
      have hl1 : (ds.map normL).length ≤ 1000000 := by simp; omega
      have HM := hide hm
      have HS := hide hs
      have hp0 := fun W h => parse_calls (textL ds) W (by omega) h
      rw [HPT.out] at hp0
      have ht : Calls Tryd.prog 24 #[.slice A ds.length c] w fun e w' => e = .returned (.tuple #[.string ⟨(textL ds).toArray⟩, .int .i64 0]) ∧ Below w.heap.size w w' := ht
      have hp0 : ∀ W, MxL W → Calls Tryd.prog 22 #[.string ⟨(textL ds).toArray⟩] W fun e w' => ∃ v, e = .returned (.tuple #[v, .int .i64 ds.length, .int .i64 0]) ∧ DSl w' v (ds.map normL) ∧ Chg W w' [] := hp0
      have HP := hide hp0
      clear hf haw hs hm hd100 hd h1100 e hp0 htl
      generalize textL ds = T at *
      go_enter Tryd.func6, Tryd.ntmps6
      go_wp2_with (go_at_call 20; refine hfew.mono ?_; rintro e w1 ⟨rfl, rfl⟩)
      go_wp2_with fail
      go_at_call 24
      refine ht.mono ?_
      rintro e w1 ⟨rfl, hb⟩
      have HC := hide (Chg.of_below (D := []) hb)
      have hp := HP.out w1 (HM.out.chg HC.out)
      clear hb ht hfew
      go_wp2_with fail
      go_at_call 22
      refine hp.mono ?_
      rintro e w2 ⟨va, rfl, hsa, hc2⟩
      have HC2 := hide (HC.out.trans hc2 (by simp))
      have hsm := same_calls (ds.map normL) ds va _ w2 hl1 (by omega) hsa (HS.out.chg HC2.out)
      rw [HSN.out] at hsm
      obtain ⟨A2, c2, hv, _⟩ := dsl_open hsa
      rw [List.length_map] at hv
      subst hv
      clear hp hsa hc2
      go_wp2_with fail
      go_at_call 26
      refine hsm.mono ?_
      rintro e w3 ⟨rfl, hc3⟩
      have HC3 := hide (HC2.out.trans hc3 (by simp))
      have haw := awake40_calls w3 (HM.out.chg HC3.out)
      clear hsm hc3
      go_wp2_with (go_at_call 21; refine haw.mono ?_)
      rintro e w4 ⟨rfl, hc4⟩
      go_wp2
      go_ret
      exact ⟨rfl, HC3.out.trans hc4 (by simp)⟩
end Go.Proofs.YtidceolaemikgaaDoor
