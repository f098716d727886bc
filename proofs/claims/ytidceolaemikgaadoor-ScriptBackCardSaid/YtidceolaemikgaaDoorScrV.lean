/- The laws of scripts: their walks. -/
import Derived.Test.YtidceolaemikgaaDoorScrS
import Derived.Test.YtidceolaemikgaaDoorScrT
namespace Go.Proofs.YtidceolaemikgaaDoor
open Go.RowKit Go.Deep Go.Shelf
set_option linter.unusedVariables false
attribute [local go_sem] Oper.semAt_some
theorem DSl.chg {w w' : World} {v : Value} {ds : List DeedL} (h : DSl w v ds) (hc : Chg w w' []) : DSl w' v ds := by
  obtain ⟨A, c, rfl, hx⟩ := h
  refine ⟨A, c, rfl, fun h0 => ?_⟩
  obtain ⟨b, off, rfl, h2⟩ := hx h0
  refine ⟨b, off, rfl, fun k hk => ?_⟩
  obtain ⟨f, d, h1, h2, h3, h4⟩ := h2 k hk
  exact ⟨f, d, hc.cell h1 (by simp), hc.cell h2 (by simp), h3, h4.keep hc⟩
def exL : List UInt8 := [35, 32, 120, 10, 102, 101, 101, 100, 32, 48, 48, 102, 102, 10, 114, 101, 115, 101, 116]
theorem ex_parse : parseL 0 [] (linesL exL) = ([(true, [0, 255]), (false, [])], 3, 0) := by decide
theorem ex_text : textR [(true, [0, 255]), (false, [])] = ([102, 101, 101, 100, 32, 48, 48, 102, 102, 10, 114, 101, 115, 101, 116, 10], 0) := by decide
set_option maxRecDepth 100000 in
theorem awake40_calls (w : World) (hm : MxL w) : Calls Tryd.prog 21 #[] w fun e w' => e = .returned (.bool true) ∧ Chg w w' [] := by
  have hp := parse_calls exL w (by decide) hm
  rw [ex_parse] at hp
  unfold strV exL at hp
  have hp' : Calls Tryd.prog 22 #[.string ⟨#[35, 32, 120, 10, 102, 101, 101, 100, 32, 48, 48, 102, 102, 10, 114, 101, 115, 101, 116]⟩] w fun e w' => ∃ v, e = .returned (.tuple #[v, .int .i64 3, .int .i64 0]) ∧ DSl w' v [(true, [0, 255]), (false, [])] ∧ Chg w w' []   := hp
  clear hp
  go_enter Tryd.func21, Tryd.ntmps21
  go_wp2_with (go_at_call 22; refine hp'.mono ?_)
  rintro e w1 ⟨v, rfl, hs, hc⟩
  have ht := text_calls _ _ _ (by decide) (by decide) hs
  rw [ex_text] at ht
  obtain ⟨A, c, hv, hx⟩ := dsl_open hs
  have hv : v = .slice A 2 c := hv
  subst hv
  obtain ⟨b, off, rfl, hbl, h2⟩ := hx (by decide)
  obtain ⟨f0, d0, c00, c01, hf0, hd0⟩ := h2 0 (by decide)
  obtain ⟨f1, d1, c10, c11, hf1, hd1⟩ := h2 1 (by decide)
  obtain rfl : f0 = true := hf0
  obtain rfl : f1 = false := hf1
  simp only [Nat.zero_mul, Nat.one_mul, Nat.add_zero] at c00 c01 c10 c11
  have HC := hide hc
  have hd0 : Sl w1 d0 (Lib.byteCells [0, 255]) := hd0
  have HD := hide hd0
  clear hs hc hx h2 hd0 hd1 hp'
  have ht : Calls Tryd.prog 24 #[.slice (some ⟨b, off, none⟩) 2 c] w1 fun e w' => e = .returned (.tuple #[.string ⟨#[102, 101, 101, 100, 32, 48, 48, 102, 102, 10, 114, 101, 115, 101, 116, 10]⟩, .int .i64 0]) ∧ Below w1.heap.size w1 w' := ht
  go_wp2_with fail
  go_at_call 24
  refine ht.mono ?_
  rintro e w2 ⟨rfl, hb⟩
  have hc2 := Chg.of_below (D := []) hb
  have k00 := hc2.cell c00 (by simp)
  have k01 := hc2.cell c01 (by simp)
  have k10 := hc2.cell c10 (by simp)
  have hcv : (convert 47 9 d0).run Tryd.prog w2 = .ok (.string ⟨#[0, 255]⟩) w2 := conv_str (s := ⟨#[0, 255]⟩) (HD.out.keep hc2)
  have HC2 := hide (HC.out.trans hc2 (by simp))
  obtain ⟨A0, m0, rfl, _, _⟩ := HD.out
  clear hc2 hb ht c00 c01 c10 c11
  go_wp2
  go_ret
  exact ⟨rfl, HC2.out⟩
end Go.Proofs.YtidceolaemikgaaDoor
