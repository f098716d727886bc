/- Packages gate and grad (but Mag of grad). -/
import Derived.Test.YtkfkoobdmnndcaaGreatWorks8
import Derived.Deep.RegionWith
namespace Go.Proofs.YtkfkoobdmnndcaaGreat
open Go.RowKit Go.Deep
set_option linter.unusedVariables false
/-- A new mill's blocks are new. -/
theorem new_far {w0 w : World} {b : Nat} (hP : Pl w b [] [] (.slice none 0 0) (.slice none 0 0)) (hb : w0.heap.size ≤ b) : ∀ u, u < w0.heap.size → u ∉ dof w b := fun u hu hm => by
  rw [hP.dof] at hm
  rcases mem_own.1 hm with rfl | h | h
  · omega
  · cases h
  · cases h
theorem Pl.most {w : World} {b : Nat} (hP : Pl w b [] [] (.slice none 0 0) (.slice none 0 0)) : PlR w b (most 0) := ⟨_, _, _, _, ⟨by simp, by simp⟩, hP⟩
/-- Work on a new mill changes nothing that was there. -/
theorem Turn.new {w0 w w' : World} {b : Nat} {D : List Nat} (hc : Chg w0 w D) (hP : Pl w b [] [] (.slice none 0 0) (.slice none 0 0)) (hb : w0.heap.size ≤ b) (ht : Turn w b w') : Chg w0 w' D :=
  hc.trans ht.chg (fun k hk => by
    rw [hP.dof] at hk
    rcases mem_own.1 hk with rfl | h | h
    · exact .inr hb
    · cases h
    · cases h)
set_option maxRecDepth 100000 in
set_option maxHeartbeats 2000000 in
theorem gnorm_calls (a b c : Wd) (w : World) :
    Calls Tryz.prog 6 #[.agg #[.int .i32 a.v, .int .i32 b.v, .int .i32 c.v]] w fun e w' => e = .returned (.int .i32 (squareW a b c).v) ∧ Chg w w' [] := by
  have k0 := Blk.new w 22 [.int .i32 a.v, .int .i32 b.v, .int .i32 c.v]
  have m0 := k0
  have g0_0 := m0.cell' (i := 0) rfl
  have g0_1 := m0.cell' (i := 1) rfl
  have g0_2 := m0.cell' (i := 2) rfl
  have HC := hide ((Chg.refl w []).alloc (.cells #[.int .i32 a.v, .int .i32 b.v, .int .i32 c.v] 22))
  clear k0
  clear m0
  go_enter Tryz.func6, Tryz.ntmps6
  go_wp2_with fail
  generalize (w.alloc (.cells #[.int .i32 a.v, .int .i32 b.v, .int .i32 c.v] 22)) = w6 at *
  go_region_held3 (fun w' => Chg w6 w' [] ∧ w'.cell? ⟨w.heap.size, 0, none⟩ = some (.int .i32 a.v) ∧ w'.cell? ⟨w.heap.size, 1, none⟩ = some (.int .i32 b.v) ∧ w'.cell? ⟨w.heap.size, 2, none⟩ = some (.int .i32 c.v))
    (first | exact ⟨(Chg.refl w6 []).drew, g0_0, g0_1, g0_2⟩ | exact keep3 hcX (by assumption))
    (first | (go_at_call 26; refine (numbers_calls _).mono ?_; rintro e w7 ⟨p, rfl, hPX, hcX, hbX⟩) | (go_at_call 25; refine (wsquare_calls _ _ _ _ _).mono ?_; rintro e w8 ⟨rfl, hcX⟩))
  have hlast := ‹Chg w6 _ [] ∧ _›
  go_wp2
  go_ret
  exact ⟨rfl, HC.out.trans hlast.1 (by simp)⟩

/-- Within bounds: all ones, or 0. -/
def gateB (n : Wd) (low high : Int) : Bool := (withinW n (kW low) (kW high)).v != 0
set_option maxRecDepth 100000 in
set_option maxHeartbeats 2000000 in
theorem between1_calls (a b c : Wd) (low high : Int) (hl : In32 low) (hh : In32 high) (gl gh : Nat) (w : World) (hgl : w.cell? ⟨gl, 0, none⟩ = some (.int .i32 low)) (hgh : w.cell? ⟨gh, 0, none⟩ = some (.int .i32 high)) :
    Calls Tryz.prog 59 #[.agg #[.int .i32 a.v, .int .i32 b.v, .int .i32 c.v], .pointer (some ⟨gl, 0, none⟩), .pointer (some ⟨gh, 0, none⟩)] w fun e w' => e = .returned (.bool (gateB (squareW a b c) low high)) ∧ Chg w w' [] := by
  have k0 := Blk.new w 22 [.int .i32 a.v, .int .i32 b.v, .int .i32 c.v]
  have m0 := k0
  have g0_0 := m0.cell' (i := 0) rfl
  have g0_1 := m0.cell' (i := 1) rfl
  have g0_2 := m0.cell' (i := 2) rfl
  have HC := hide ((Chg.refl w []).alloc (.cells #[.int .i32 a.v, .int .i32 b.v, .int .i32 c.v] 22))
  clear k0
  clear m0
  have q0 := HC.out.cell hgl (by simp)
  have q1 := HC.out.cell hgh (by simp)
  clear hgl hgh
  go_enter Tryz.func59, Tryz.ntmps59
  go_wp2_with fail
  generalize (w.alloc (.cells #[.int .i32 a.v, .int .i32 b.v, .int .i32 c.v] 22)) = w6 at *
  go_region_held3 (fun w' => Chg w6 w' [] ∧ w'.cell? ⟨w.heap.size, 0, none⟩ = some (.int .i32 a.v) ∧ w'.cell? ⟨w.heap.size, 1, none⟩ = some (.int .i32 b.v) ∧ w'.cell? ⟨w.heap.size, 2, none⟩ = some (.int .i32 c.v) ∧ w'.cell? ⟨gl, 0, none⟩ = some (.int .i32 low) ∧ w'.cell? ⟨gh, 0, none⟩ = some (.int .i32 high))
    (first | exact ⟨(Chg.refl w6 []).drew, g0_0, g0_1, g0_2, q0, q1⟩ | exact keep5 hcX (by assumption))
    (first | (go_at_call 26; refine (numbers_calls _).mono ?_; rintro e w7 ⟨p, rfl, hPX, hcX, hbX⟩) | (go_at_call 6; refine (gnorm_calls _ _ _ _).mono ?_; rintro e w8 ⟨rfl, hcX⟩) | (go_at_call 60; refine (wwithin_calls _ _ low high _ hl hh).mono ?_; rintro e w8 ⟨rfl, hcX⟩))
  have hlast := ‹Chg w6 _ [] ∧ _›
  go_wp2
  go_ret
  exact ⟨rfl, HC.out.trans hlast.1 (by simp)⟩

set_option maxRecDepth 100000 in
set_option maxHeartbeats 1000000 in
theorem between_calls (low high : Int) (w : World) :
    Calls Tryz.prog 29 #[.int .i32 low, .int .i32 high] w fun e w' => ∃ gl gh, e = .returned (.func (.func 59) #[] #[.pointer (some ⟨gl, 0, none⟩), .pointer (some ⟨gh, 0, none⟩)]) ∧ w'.cell? ⟨gl, 0, none⟩ = some (.int .i32 low) ∧ w'.cell? ⟨gh, 0, none⟩ = some (.int .i32 high) ∧ Chg w w' [] := by
  have k0 := (Blk.new w 21 [.int .i32 low]).alloc (.cells #[.int .i32 high] 21)
  have k1 := Blk.new (w.alloc (.cells #[.int .i32 low] 21)) 21 [.int .i32 high]
  rw [size_alloc] at k1
  have HC := hide (((Chg.refl w []).alloc (.cells #[.int .i32 low] 21)).alloc (.cells #[.int .i32 high] 21))
  have c0 := hide (k0.cell' (i := 0) rfl)
  have c1 := hide (k1.cell' (i := 0) rfl)
  clear k0 k1
  go_enter Tryz.func29, Tryz.ntmps29
  go_wp2
  go_ret
  exact ⟨_, _, rfl, c0.out, c1.out, HC.out⟩

set_option maxRecDepth 100000 in
set_option maxHeartbeats 2000000 in
theorem accel_calls (a b c : Wd) (w : World) :
    Calls Tryz.prog 8 #[.agg #[.int .i32 a.v, .int .i32 b.v, .int .i32 c.v]] w fun e w' => e = .returned (.bool (gateB (squareW a b c) 16777216 150994944)) ∧ Chg w w' [] := by
  have k0 := Blk.new w 22 [.int .i32 a.v, .int .i32 b.v, .int .i32 c.v]
  have m0 := k0
  have g0_0 := m0.cell' (i := 0) rfl
  have g0_1 := m0.cell' (i := 1) rfl
  have g0_2 := m0.cell' (i := 2) rfl
  have HC := hide ((Chg.refl w []).alloc (.cells #[.int .i32 a.v, .int .i32 b.v, .int .i32 c.v] 22))
  clear k0
  clear m0
  go_enter Tryz.func8, Tryz.ntmps8
  go_wp2_with fail
  generalize (w.alloc (.cells #[.int .i32 a.v, .int .i32 b.v, .int .i32 c.v] 22)) = w6 at *
  go_region_held3 (fun w' => Chg w6 w' [] ∧ w'.cell? ⟨w.heap.size, 0, none⟩ = some (.int .i32 a.v) ∧ w'.cell? ⟨w.heap.size, 1, none⟩ = some (.int .i32 b.v) ∧ w'.cell? ⟨w.heap.size, 2, none⟩ = some (.int .i32 c.v))
    (first | exact ⟨(Chg.refl w6 []).drew, g0_0, g0_1, g0_2⟩ | exact keep3 hcX (by assumption))
    (first | (go_at_call 29; refine (between_calls 16777216 150994944 _).mono ?_; rintro e w7 ⟨gl, gh, rfl, hgl, hgh, hcX⟩) | (go_at_call 59; refine (between1_calls _ _ _ 16777216 150994944 (by decide) (by decide) _ _ _ hgl hgh).mono ?_; rintro e w8 ⟨rfl, hcX⟩))
  have hlast := ‹Chg w6 _ [] ∧ _›
  go_wp2
  go_ret
  exact ⟨rfl, HC.out.trans hlast.1 (by simp)⟩

set_option maxRecDepth 100000 in
set_option maxHeartbeats 2000000 in
theorem mag_calls (a b c : Wd) (w : World) :
    Calls Tryz.prog 10 #[.agg #[.int .i32 a.v, .int .i32 b.v, .int .i32 c.v]] w fun e w' => e = .returned (.bool (gateB (squareW a b c) 1000000 400000000)) ∧ Chg w w' [] := by
  have k0 := Blk.new w 22 [.int .i32 a.v, .int .i32 b.v, .int .i32 c.v]
  have m0 := k0
  have g0_0 := m0.cell' (i := 0) rfl
  have g0_1 := m0.cell' (i := 1) rfl
  have g0_2 := m0.cell' (i := 2) rfl
  have HC := hide ((Chg.refl w []).alloc (.cells #[.int .i32 a.v, .int .i32 b.v, .int .i32 c.v] 22))
  clear k0
  clear m0
  go_enter Tryz.func10, Tryz.ntmps10
  go_wp2_with fail
  generalize (w.alloc (.cells #[.int .i32 a.v, .int .i32 b.v, .int .i32 c.v] 22)) = w6 at *
  go_region_held3 (fun w' => Chg w6 w' [] ∧ w'.cell? ⟨w.heap.size, 0, none⟩ = some (.int .i32 a.v) ∧ w'.cell? ⟨w.heap.size, 1, none⟩ = some (.int .i32 b.v) ∧ w'.cell? ⟨w.heap.size, 2, none⟩ = some (.int .i32 c.v))
    (first | exact ⟨(Chg.refl w6 []).drew, g0_0, g0_1, g0_2⟩ | exact keep3 hcX (by assumption))
    (first | (go_at_call 29; refine (between_calls 1000000 400000000 _).mono ?_; rintro e w7 ⟨gl, gh, rfl, hgl, hgh, hcX⟩) | (go_at_call 59; refine (between1_calls _ _ _ 1000000 400000000 (by decide) (by decide) _ _ _ hgl hgh).mono ?_; rintro e w8 ⟨rfl, hcX⟩))
  have hlast := ‹Chg w6 _ [] ∧ _›
  go_wp2
  go_ret
  exact ⟨rfl, HC.out.trans hlast.1 (by simp)⟩

set_option maxRecDepth 100000 in
set_option maxHeartbeats 4000000 in
theorem gunit_calls (x0 x1 x2 : Wd) (w : World) :
    Calls Tryz.prog 12 #[.agg #[.int .i32 x0.v, .int .i32 x1.v, .int .i32 x2.v]] w fun e w' => e = .returned (.agg #[.int .i32 (pointW x0 x1 x2).a.v, .int .i32 (pointW x0 x1 x2).b.v, .int .i32 (pointW x0 x1 x2).c.v]) ∧ Chg w w' [] := by
  have k0 := Blk.new w 22 [.int .i32 x0.v, .int .i32 x1.v, .int .i32 x2.v]
  have m0 := (k0.alloc (.cells #[.int .i32 0, .int .i32 0, .int .i32 0] 22))
  have g0_0 := m0.cell' (i := 0) rfl
  have g0_1 := m0.cell' (i := 1) rfl
  have g0_2 := m0.cell' (i := 2) rfl
  have k1 := Blk.new (w.alloc (.cells #[.int .i32 x0.v, .int .i32 x1.v, .int .i32 x2.v] 22)) 22 [.int .i32 0, .int .i32 0, .int .i32 0]
  have m1 := k1
  simp only [size_alloc] at m1
  have g1_0 := m1.cell' (i := 0) rfl
  have g1_1 := m1.cell' (i := 1) rfl
  have g1_2 := m1.cell' (i := 2) rfl
  have HC := hide (((Chg.refl w []).alloc (.cells #[.int .i32 x0.v, .int .i32 x1.v, .int .i32 x2.v] 22)).alloc (.cells #[.int .i32 0, .int .i32 0, .int .i32 0] 22))
  clear k0 k1
  have HM := hide m1
  clear g1_0 g1_1 g1_2
  have lb : w.heap.size + 1 < (((w.alloc (.cells #[.int .i32 x0.v, .int .i32 x1.v, .int .i32 x2.v] 22)).alloc (.cells #[.int .i32 0, .int .i32 0, .int .i32 0] 22))).heap.size := m1.lt
  clear m0 m1
  go_enter Tryz.func12, Tryz.ntmps12
  go_wp2_with fail
  generalize ((w.alloc (.cells #[.int .i32 x0.v, .int .i32 x1.v, .int .i32 x2.v] 22)).alloc (.cells #[.int .i32 0, .int .i32 0, .int .i32 0] 22)) = w6 at *
  go_region_with (first | (go_at_call 26; refine (numbers_calls _).mono ?_; rintro e w7 ⟨p, rfl, hPX, hcX, hbX⟩; have g0_0x := hcX.cell (w := w6.drew) g0_0 (by simp); have g0_1x := hcX.cell (w := w6.drew) g0_1 (by simp); have g0_2x := hcX.cell (w := w6.drew) g0_2 (by simp); skip) | (go_at_call 31; refine (wpoint_calls p _ _ _ 0 _ (by omega) hPX.most).mono ?_; rintro e w8 ⟨rfl, _, ht⟩; have z0 := (ht.cell ((HM.out.drew.chg hcX (by simp)).cell' (i := 0) rfl) (new_far hPX hbX _ lb)); have f0 := ((HM.out.drew.chg hcX (by simp)).chg ht.chg (new_far hPX hbX _ lb)).frozen 0; have z1 := (ht.cell ((HM.out.drew.chg hcX (by simp)).cell' (i := 1) rfl) (new_far hPX hbX _ lb)); have f1 := ((HM.out.drew.chg hcX (by simp)).chg ht.chg (new_far hPX hbX _ lb)).frozen 1; have z2 := (ht.cell ((HM.out.drew.chg hcX (by simp)).cell' (i := 2) rfl) (new_far hPX hbX _ lb)); have f2 := ((HM.out.drew.chg hcX (by simp)).chg ht.chg (new_far hPX hbX _ lb)).frozen 2; have HB8 := hide ((HM.out.drew.chg hcX (by simp)).chg ht.chg (new_far hPX hbX _ lb)); have HC8 := hide (Turn.new hcX hPX hbX ht)))
  all_goals
    have hb := (((HB8.out.set_ 0 (.int .i32 (pointW x0 x1 x2).a.v)).set_ 1 (.int .i32 (pointW x0 x1 x2).b.v)).set_ 2 (.int .i32 (pointW x0 x1 x2).c.v))
    have qq0 := hb.cell' (i := 0) rfl
    have qq1 := hb.cell' (i := 1) rfl
    have qq2 := hb.cell' (i := 2) rfl
    have hcg := hide (((((HC.out.trans HC8.out.from_drew (D := []) (by simp))).setCell ⟨w.heap.size + 1, 0, none⟩ (.int .i32 (pointW x0 x1 x2).a.v) (.inr (by dsimp only; omega))).setCell ⟨w.heap.size + 1, 1, none⟩ (.int .i32 (pointW x0 x1 x2).b.v) (.inr (by dsimp only; omega))).setCell ⟨w.heap.size + 1, 2, none⟩ (.int .i32 (pointW x0 x1 x2).c.v) (.inr (by dsimp only; omega)))
    go_wp2
    refine bodyPost_ret (v := .agg #[.int .i32 (pointW x0 x1 x2).a.v, .int .i32 (pointW x0 x1 x2).b.v, .int .i32 (pointW x0 x1 x2).c.v]) (by simp [results, Tryz.f12, go_sem, qq0, qq1, qq2]) rfl ⟨rfl, hcg.out⟩

set_option maxRecDepth 100000 in
set_option maxHeartbeats 4000000 in
theorem dunit_calls (q0 q1 q2 q3 : Wd) (w : World) :
    Calls Tryz.prog 22 #[.agg #[.int .i32 q0.v, .int .i32 q1.v, .int .i32 q2.v, .int .i32 q3.v]] w fun e w' => e = .returned (.agg #[.int .i32 (evenW q0 q1 q2 q3).a.v, .int .i32 (evenW q0 q1 q2 q3).b.v, .int .i32 (evenW q0 q1 q2 q3).c.v, .int .i32 (evenW q0 q1 q2 q3).d.v]) ∧ Chg w w' [] := by
  have k0 := Blk.new w 28 [.int .i32 q0.v, .int .i32 q1.v, .int .i32 q2.v, .int .i32 q3.v]
  have m0 := (k0.alloc (.cells #[.int .i32 0, .int .i32 0, .int .i32 0, .int .i32 0] 28))
  have g0_0 := m0.cell' (i := 0) rfl
  have g0_1 := m0.cell' (i := 1) rfl
  have g0_2 := m0.cell' (i := 2) rfl
  have g0_3 := m0.cell' (i := 3) rfl
  have k1 := Blk.new (w.alloc (.cells #[.int .i32 q0.v, .int .i32 q1.v, .int .i32 q2.v, .int .i32 q3.v] 28)) 28 [.int .i32 0, .int .i32 0, .int .i32 0, .int .i32 0]
  have m1 := k1
  simp only [size_alloc] at m1
  have g1_0 := m1.cell' (i := 0) rfl
  have g1_1 := m1.cell' (i := 1) rfl
  have g1_2 := m1.cell' (i := 2) rfl
  have g1_3 := m1.cell' (i := 3) rfl
  have HC := hide (((Chg.refl w []).alloc (.cells #[.int .i32 q0.v, .int .i32 q1.v, .int .i32 q2.v, .int .i32 q3.v] 28)).alloc (.cells #[.int .i32 0, .int .i32 0, .int .i32 0, .int .i32 0] 28))
  clear k0 k1
  have HM := hide m1
  clear g1_0 g1_1 g1_2 g1_3
  have lb : w.heap.size + 1 < (((w.alloc (.cells #[.int .i32 q0.v, .int .i32 q1.v, .int .i32 q2.v, .int .i32 q3.v] 28)).alloc (.cells #[.int .i32 0, .int .i32 0, .int .i32 0, .int .i32 0] 28))).heap.size := m1.lt
  clear m0 m1
  go_enter Tryz.func22, Tryz.ntmps22
  go_wp2_with fail
  generalize ((w.alloc (.cells #[.int .i32 q0.v, .int .i32 q1.v, .int .i32 q2.v, .int .i32 q3.v] 28)).alloc (.cells #[.int .i32 0, .int .i32 0, .int .i32 0, .int .i32 0] 28)) = w6 at *
  go_region_with (first | (go_at_call 26; refine (numbers_calls _).mono ?_; rintro e w7 ⟨p, rfl, hPX, hcX, hbX⟩; have g0_0x := hcX.cell (w := w6.drew) g0_0 (by simp); have g0_1x := hcX.cell (w := w6.drew) g0_1 (by simp); have g0_2x := hcX.cell (w := w6.drew) g0_2 (by simp); have g0_3x := hcX.cell (w := w6.drew) g0_3 (by simp); skip) | (go_at_call 53; refine (weven_calls p _ _ _ _ 0 _ (by omega) hPX.most).mono ?_; rintro e w8 ⟨rfl, _, ht⟩; have z0 := (ht.cell ((HM.out.drew.chg hcX (by simp)).cell' (i := 0) rfl) (new_far hPX hbX _ lb)); have f0 := ((HM.out.drew.chg hcX (by simp)).chg ht.chg (new_far hPX hbX _ lb)).frozen 0; have z1 := (ht.cell ((HM.out.drew.chg hcX (by simp)).cell' (i := 1) rfl) (new_far hPX hbX _ lb)); have f1 := ((HM.out.drew.chg hcX (by simp)).chg ht.chg (new_far hPX hbX _ lb)).frozen 1; have z2 := (ht.cell ((HM.out.drew.chg hcX (by simp)).cell' (i := 2) rfl) (new_far hPX hbX _ lb)); have f2 := ((HM.out.drew.chg hcX (by simp)).chg ht.chg (new_far hPX hbX _ lb)).frozen 2; have z3 := (ht.cell ((HM.out.drew.chg hcX (by simp)).cell' (i := 3) rfl) (new_far hPX hbX _ lb)); have f3 := ((HM.out.drew.chg hcX (by simp)).chg ht.chg (new_far hPX hbX _ lb)).frozen 3; have HB8 := hide ((HM.out.drew.chg hcX (by simp)).chg ht.chg (new_far hPX hbX _ lb)); have HC8 := hide (Turn.new hcX hPX hbX ht)))
  all_goals
    have hb := ((((HB8.out.set_ 0 (.int .i32 (evenW q0 q1 q2 q3).a.v)).set_ 1 (.int .i32 (evenW q0 q1 q2 q3).b.v)).set_ 2 (.int .i32 (evenW q0 q1 q2 q3).c.v)).set_ 3 (.int .i32 (evenW q0 q1 q2 q3).d.v))
    have qq0 := hb.cell' (i := 0) rfl
    have qq1 := hb.cell' (i := 1) rfl
    have qq2 := hb.cell' (i := 2) rfl
    have qq3 := hb.cell' (i := 3) rfl
    have hcg := hide ((((((HC.out.trans HC8.out.from_drew (D := []) (by simp))).setCell ⟨w.heap.size + 1, 0, none⟩ (.int .i32 (evenW q0 q1 q2 q3).a.v) (.inr (by dsimp only; omega))).setCell ⟨w.heap.size + 1, 1, none⟩ (.int .i32 (evenW q0 q1 q2 q3).b.v) (.inr (by dsimp only; omega))).setCell ⟨w.heap.size + 1, 2, none⟩ (.int .i32 (evenW q0 q1 q2 q3).c.v) (.inr (by dsimp only; omega))).setCell ⟨w.heap.size + 1, 3, none⟩ (.int .i32 (evenW q0 q1 q2 q3).d.v) (.inr (by dsimp only; omega)))
    go_wp2
    refine bodyPost_ret (v := .agg #[.int .i32 (evenW q0 q1 q2 q3).a.v, .int .i32 (evenW q0 q1 q2 q3).b.v, .int .i32 (evenW q0 q1 q2 q3).c.v, .int .i32 (evenW q0 q1 q2 q3).d.v]) (by simp [results, Tryz.f22, go_sem, qq0, qq1, qq2, qq3]) rfl ⟨rfl, hcg.out⟩
end Go.Proofs.YtkfkoobdmnndcaaGreat
