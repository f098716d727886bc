/- RamPlays proved: whatever words and calls are handed in, the law answers true, and both slices read as they did. (The frame follows the kit's own shell; the walk stands in RamPlays.) -/
import Derived.Test.YtidceolaemikgaaRows
import Derived.Test.YtidceolaemikgaaRamPlays
import Derived.Test.YtidceolaemikgaaOpen
import Derived.WalkKit
import Derived.ProofKit
import Derived.OpenShut
import Derived.ShutString
import Derived.ChangeOld
import Derived.Below
namespace Go.Proofs.Ytidceolaemikgaa.ramPlays
open Go.ChangeShapes Go.WideShapes Go.ChangeAt Go.RowKit
open Go.ChangeMaps (open_string shut_string)
set_option linter.unusedVariables false

theorem own : ownKnob Try.prog.godebug = none := by kernel_rfl
theorem laidOut : laidOutB Try.prog = true := by kernel_rfl
theorem cells3 : Try.prog.cellsOf 30 = 3 := by kernel_rfl
theorem cells1 : Try.prog.cellsOf 21 = 1 := by kernel_rfl
theorem cellsb : Try.prog.cellsOf 4 = 1 := by kernel_rfl

theorem moves {H : Type} {enc : TypeId × Value → H} {w : World} {base : Nat} {spare : Nat → Bool} {held : Bool} {fuel : Nat} {a0 : Option Addr} {n c : Nat} {x : DataW H × List MemPlace}
    (h : DataW.trod enc Try.prog w base spare held fuel 23 [.slice a0 n c] = some x) :
    n ≤ maxLen ∧ ∃ l : Nat → Mv, Mvs w a0 n l ∧ ∀ k, k < n → -2147483648 ≤ (l k).a ∧ (l k).a ≤ 2147483647 := by
  obtain ⟨hl, hm, hi⟩ := open_elems Try.underlying23 cells3 (by omega) h
  refine ⟨by omega, ?_⟩
  have hone : ∀ k, ∃ m : Mv, k < n → (∃ b off, a0 = some ⟨b, off, none⟩ ∧ w.cell? ⟨b, off + k * 3, none⟩ = some (.bool m.s) ∧ w.cell? ⟨b, off + k * 3 + 1, none⟩ = some (.int .i32 m.a) ∧ w.cell? ⟨b, off + k * 3 + 2, none⟩ = some (.int .i32 m.x)) ∧ -2147483648 ≤ m.a ∧ m.a ≤ 2147483647 := by
    intro k
    by_cases hk : k < n
    · obtain ⟨b, off, rfl, hi2⟩ := hi (by omega)
      obtain ⟨cs, m, y, hlen, hc, ht⟩ := hi2 k hk
      obtain ⟨xs, q, _, _, _, hxl, hf⟩ := DataW.trod_struct Try.underlying30 ht
      match cs, hlen with
      | [c0, c1, c2], _ =>
        match xs, hxl with
        | [y0, y1, y2], _ =>
          have f0 : DataW.trod enc Try.prog w base spare held q 4 (([c0, c1, c2].drop 0).take (Try.prog.cellsOf 4)) = some y0 := hf 0 _ rfl
          have f1 : DataW.trod enc Try.prog w base spare held q 21 (([c0, c1, c2].drop 1).take (Try.prog.cellsOf 21)) = some y1 := hf 1 _ rfl
          have f2 : DataW.trod enc Try.prog w base spare held q 21 (([c0, c1, c2].drop 2).take (Try.prog.cellsOf 21)) = some y2 := hf 2 _ rfl
          rw [cellsb] at f0
          rw [cells1] at f1 f2
          obtain ⟨s, h0, _⟩ := DataW.trod_bool Try.underlying4 f0
          obtain ⟨z, h1, _, wz⟩ := DataW.trod_int Try.underlying21 f1
          obtain ⟨u, h2, _, _⟩ := DataW.trod_int Try.underlying21 f2
          simp at h0 h1 h2
          subst h0 h1 h2
          have g0 := hc 0 (by omega)
          have g1 := hc 1 (by omega)
          have g2 := hc 2 (by omega)
          refine ⟨⟨s, z, u⟩, fun _ => ⟨⟨b, off, rfl, g0, ?_, ?_⟩, bounds_i32 wz⟩⟩
          · simpa [Nat.add_assoc] using g1
          · simpa [Nat.add_assoc] using g2
    · exact ⟨⟨false, 0, 0⟩, fun h => absurd h hk⟩
  exact ⟨fun k => (hone k).choose, fun k hk => ((hone k).choose_spec hk).1, fun k hk => ((hone k).choose_spec hk).2⟩

set_option maxRecDepth 100000 in
theorem lifted (os : Os) (started : os.Started) (H : Type) (enc : TypeId × Value → H) :
    ReturnsInHanded {} Try.checked os 3 .any (Rows.ramPlaysSpec.pre6 enc Try.prog Try.f3 Rows.ramPlaysRow.domain false) (Rows.ramPlaysSpec.post enc Try.prog Try.f3 false true false false) := by
  refine returnsInHanded_of_change (C := Try.checked) own started (by kernel_rfl) Try.func3
    (ChangeSpec.witness6 (enc := enc) (C := Try.checked) false ⟨#[], #[.slice none 0 0, .slice none 0 0], []⟩ 8 (by kernel_rfl) (by kernel_rfl) (by kernel_rfl) (by kernel_rfl)) ?_
  intro W base args ds gs before hval0 hW hcnd _
  have hval : ∀ (j : Nat) t v, Try.f3.params[j]? = some t → args[j]? = some v → Value.okWide Try.prog W .any base t v := hval0
  have hW' := hW
  obtain ⟨p, q, hA0, hV, rfl, hfz, hnd⟩ := hW
  have hA : DataW.TrodAll enc Try.prog W 0 (fun _ => true) true Try.f3.params.toList args.toList ds p := hA0
  rw [Try.params3] at hA hval
  obtain ⟨v0, vs0, d0, ds0, p0, q0, hargs, rfl, rfl, h0, r0⟩ := trodAll_cons hA
  obtain ⟨v1, vs1, d1, ds1, p1, q1, rfl, rfl, rfl, h1, r1⟩ := trodAll_cons r0
  obtain ⟨rfl, rfl, rfl⟩ := trodAll_nil r1
  obtain rfl : args = #[v0, v1] := by cases args; simp_all
  obtain ⟨rfl, rfl⟩ := trodVars_none hV
  obtain ⟨a0, len0, cap0, rfl⟩ := okWide_slice Try.underlying22 (hval 0 22 v0 rfl rfl)
  obtain ⟨a1, len1, cap1, rfl⟩ := okWide_slice Try.underlying23 (hval 1 23 v1 rfl rfl)
  have k0 := h0
  have k1 := h1
  have lt0 : ∀ x ∈ p0, x.block < W.heap.size := by obtain ⟨m, hm⟩ := k0; exact DataW.trod_lt m _ _ _ hm
  have lt1 : ∀ x ∈ p1, x.block < W.heap.size := by obtain ⟨m, hm⟩ := k1; exact DataW.trod_lt m _ _ _ hm
  obtain ⟨z0, hs, hl, hm, _⟩ : ∃ zs : List Int, Sl W (.slice a0 len0 cap0) (i32s zs) ∧ zs.length = len0 ∧ len0 ≤ maxLen ∧ ∀ n ∈ zs, (Lit.int .i32 n).wf = true := by
    obtain ⟨fuel, hf⟩ := h0
    rcases open_ints Try.underlying22 Try.underlying21 (by kernel_rfl) hf with ⟨hcs, _⟩ | ⟨x, l, c, zs, hcs, _, hl, hm, hz, _, hcell, hwz⟩
    · simp [Value.cells] at hcs
      obtain ⟨rfl, rfl, rfl⟩ := hcs
      exact ⟨_, Sl.of_row (k := .i32) (zs := []) (.inl ⟨rfl, rfl, rfl, rfl⟩)⟩
    · simp [Value.cells] at hcs
      obtain ⟨rfl, rfl, rfl⟩ := hcs
      exact ⟨_, Sl.of_row (.inr ⟨_, rfl, hl, hm, by simpa using hz, hcell, hwz⟩)⟩
  obtain ⟨hm1, l, hMv, hbd⟩ : len1 ≤ maxLen ∧ ∃ l : Nat → Mv, Mvs W a1 len1 l ∧ ∀ k, k < len1 → -2147483648 ≤ (l k).a ∧ (l k).a ≤ 2147483647 := by
    obtain ⟨fuel, hf⟩ := h1
    exact moves hf
  clear hA0 hval0
  have hwalk : Calls Try.prog 3 #[.slice a0 len0 cap0, .slice a1 len1 cap1] W fun e w' => e = .returned (.bool true) ∧ Chg W w' [] := by
    subst hl
    by_cases g1 : 200 < len1 ∨ 3000 < z0.length
    · exact plays_long a0 a1 _ cap0 len1 cap1 W hm hm1 g1
    · by_cases g2 : 2048 < z0.length
      · exact plays_refused a0 a1 _ cap0 len1 cap1 W (by omega) (by omega) g2
      · exact plays_yes a0 a1 cap0 len1 cap1 z0 l W hs (by omega) (by omega) hMv hbd
  refine hwalk.mono fun e W' ⟨he, hc⟩ => ?_
  have bel := hc.to_below
  subst he
  exact ⟨_, rfl, _, _, _, [], _, [], hW', trodAll_mk1 (shut_bool Try.underlying4 _), (trodAll_cons_mk (Below.trod laidOut (by kernel_rfl) (of_decide_eq_true (by kernel_rfl)) k0 bel lt0) (trodAll_cons_mk (Below.trod laidOut (by kernel_rfl) (of_decide_eq_true (by kernel_rfl)) k1 bel lt1) trodAll_mk0)), rfl, bel.frame _, fun h => by cases h⟩

theorem over : Rows.ramPlaysRow.holds Try.pinned (OpenSpec.ofChange Rows.ramPlaysSpec) :=
  OpenClaim.holds_of_wide 3 Try.f3 rfl rfl rfl rfl rfl rfl rfl ⟨rfl, rfl, rfl, rfl, rfl⟩ rfl rfl rfl rfl rfl (by kernel_rfl) Try.func3 (by kernel_rfl)
    (of_decide_eq_true (by kernel_rfl)) (by unfold Func.isWrapper; first | (rw [if_pos (by decide +kernel)]; kernel_rfl) | (rw [if_neg (by decide +kernel)]; exact ⟨rfl, rfl⟩))
    (fun os started H enc _ => lifted os started H enc)

/-- The statement. -/
theorem proved : Rows.RamPlaysSaid := over
#print axioms proved

end Go.Proofs.Ytidceolaemikgaa.ramPlays
