/- Norm, conj, times of package works at numbers. -/
import Derived.Test.YtkfkoobdmnndcaaGreatWorks1
import Derived.Deep.RegionWith
namespace Go.Proofs.YtkfkoobdmnndcaaGreat
open Go.RowKit Go.Deep
set_option linter.unusedVariables false
set_option maxRecDepth 100000 in
set_option maxHeartbeats 2000000 in
theorem wnorm_calls (p : Addr) (x : Wd) (l : List Wd) (v : Value) (w : World) (hs : Sl w v (wds (x :: l))) (hn : l.length ≤ 3000) (h1 : 1 ≤ l.length) :
    Calls Tryz.prog 75 #[.agg #[.iface 59 (.pointer (some p))], v] w fun e w' => e = .returned (.int .i32 (normW x l).v) ∧ Chg w w' [] := by
  obtain ⟨A, c, rfl, hcap, hx⟩ := hs
  have hlen : (wds (x :: l)).length = l.length + 1 := by simp [wds]
  rw [hlen] at hcap hx
  rw [hlen]
  obtain ⟨b, off, rfl, hc⟩ := hx (by omega)
  have hblt := World.block_lt_of_cell? w _ ((hc 0 (by omega)).trans rfl)
  have HS : Hid (Sl w (.slice (some ⟨b, off + 1, none⟩) l.length (c - 1)) (wds l)) := by
    refine ⟨_, c - 1, by rw [length_wds], by rw [length_wds]; omega, fun _ => ⟨b, off + 1, rfl, fun k hk => ?_⟩⟩
    rw [length_wds] at hk
    have := hc (k + 1) (by omega)
    rw [show off + 1 + k = off + (k + 1) by omega, this]
    rfl
  have q0 := ((Chg.refl w []).alloc (.cells #[.iface 59 (.pointer (some p))] 40)).cell (hc 0 (by omega)) (by simp)
  rw [Nat.add_zero] at q0
  replace q0 : (w.alloc (.cells #[.iface 59 (.pointer (some p))] 40)).cell? ⟨b, off, none⟩ = some (.int .i32 x.v) := q0
  clear hx hc hlen
  have k0 := Blk.new w 40 [.iface 59 (.pointer (some p))]
  have m0 := k0
  have g0_0 := m0.cell' (i := 0) rfl
  have HC := hide ((Chg.refl w []).alloc (.cells #[.iface 59 (.pointer (some p))] 40))
  clear k0
  clear m0
  go_enter Tryz.func75, Tryz.ntmps75
  go_wp2_with fail
  generalize (w.alloc (.cells #[.iface 59 (.pointer (some p))] 40)) = w6 at *
  go_region_held3 (fun w' => Chg w6 w' [] ∧ w'.cell? ⟨w.heap.size, 0, none⟩ = some (.iface 59 (.pointer (some p))) ∧ w'.cell? ⟨b, off, none⟩ = some (.int .i32 x.v))
    (first | exact ⟨(Chg.refl w6 []).drew, g0_0, q0⟩ | exact keep2 hcX (by assumption))
    (first | (go_at_call 70; refine (w_mulq p _ _ _).mono ?_; rintro e w7 ⟨rfl, hcX⟩))
  have hlast := ‹Chg w6 _ [] ∧ _›
  have HC7 := HC.out.trans hlast.1 (D' := []) (by simp)
  have g7 := hlast.2.1
  clear HC hlast q0 g0_0
  have HC := hide HC7
  clear HC7
  have hcl : ¬ c = 1 := by omega
  go_wp2_with fail
  go_loopw [5, 19] (fun s i wr => ∃ k : Nat, k ≤ l.length ∧ i = .int .i64 k ∧ s = .int .i32 (normW x (l.take k)).v ∧ Hid (Chg w7 wr [])) (fun _ i _ => l.length - (intOf i).toNat)
  case atStart => exact ⟨0, Nat.zero_le _, rfl, rfl, Chg.refl w7 []⟩
  case round =>
    obtain ⟨k, hk, rfl, rfl, HK⟩ := hrel
    by_cases hlt : k < l.length
    · have hc6 := HC.out.trans HK.out (D' := []) (by simp)
      have hg := HK.out.cell g7 (by simp)
      obtain ⟨b', off', hA, hca, _⟩ := (HS.out.chg hc6 (by simp)).at_ (wds_at l k hlt)
      injection hA with hA
      injection hA with hb hoff _
      subst hb
      subst hoff
      clear hc6
      have HE := hide (normW_take x l k hlt)
      generalize normW x (l.take k) = s at *
      generalize l[k] = y at *
      go_wp2_with fail
      generalize hww : wr = w6' at *
      go_region_held3 (fun w' => Chg w6' w' [] ∧ w'.cell? ⟨w.heap.size, 0, none⟩ = some (.iface 59 (.pointer (some p))))
        (first | exact ⟨(Chg.refl w6' []).drew, hg⟩ | exact keep1 hcX (by assumption))
        (first | (go_at_call 70; refine (w_mulq p _ _ _).mono ?_; rintro e w7 ⟨rfl, hcX⟩) | (go_at_call 95; refine (w_adds p _ _ _).mono ?_; rintro e w7 ⟨rfl, hcX⟩))
      have hl := ‹Chg w6' _ [] ∧ _›
      have HK2 := hide (HK.out.trans hl.1 (D' := []) (by simp))
      clear hl hg hca
      go_wp2
      go_roundw
      case rel => exact ⟨k + 1, by omega, by go_num, by rw [HE.out], HK2⟩
      case measure => simp [intOf]; omega
    · have hk : k = l.length := by omega
      subst hk
      rw [List.take_length]
      go_wp2
      go_ret
      exact ⟨rfl, HC.out.trans HK.out (by simp)⟩

set_option maxRecDepth 100000 in
set_option maxHeartbeats 2000000 in
theorem wconj_calls (p : Addr) (a b c d : Wd) (w : World) :
    Calls Tryz.prog 88 #[.agg #[.iface 59 (.pointer (some p))], .agg #[.int .i32 a.v, .int .i32 b.v, .int .i32 c.v, .int .i32 d.v]] w fun e w' => e = .returned (.agg #[.int .i32 a.v, .int .i32 (negW b).v, .int .i32 (negW c).v, .int .i32 (negW d).v]) ∧ Chg w w' [] := by
  have k0 := Blk.new w 40 [.iface 59 (.pointer (some p))]
  have m0 := ((k0.alloc (.cells #[.int .i32 a.v, .int .i32 b.v, .int .i32 c.v, .int .i32 d.v] 27)).alloc (.cells #[.int .i32 0, .int .i32 0, .int .i32 0, .int .i32 0] 27))
  have g0_0 := m0.cell' (i := 0) rfl
  have k1 := Blk.new (w.alloc (.cells #[.iface 59 (.pointer (some p))] 40)) 27 [.int .i32 a.v, .int .i32 b.v, .int .i32 c.v, .int .i32 d.v]
  have m1 := (k1.alloc (.cells #[.int .i32 0, .int .i32 0, .int .i32 0, .int .i32 0] 27))
  simp only [size_alloc] at m1
  have g1_0 := m1.cell' (i := 0) rfl
  have g1_1 := m1.cell' (i := 1) rfl
  have g1_2 := m1.cell' (i := 2) rfl
  have g1_3 := m1.cell' (i := 3) rfl
  have k2 := Blk.new ((w.alloc (.cells #[.iface 59 (.pointer (some p))] 40)).alloc (.cells #[.int .i32 a.v, .int .i32 b.v, .int .i32 c.v, .int .i32 d.v] 27)) 27 [.int .i32 0, .int .i32 0, .int .i32 0, .int .i32 0]
  have m2 := k2
  simp only [size_alloc] at m2
  have g2_0 := m2.cell' (i := 0) rfl
  have g2_1 := m2.cell' (i := 1) rfl
  have g2_2 := m2.cell' (i := 2) rfl
  have g2_3 := m2.cell' (i := 3) rfl
  have HC := hide ((((Chg.refl w []).alloc (.cells #[.iface 59 (.pointer (some p))] 40)).alloc (.cells #[.int .i32 a.v, .int .i32 b.v, .int .i32 c.v, .int .i32 d.v] 27)).alloc (.cells #[.int .i32 0, .int .i32 0, .int .i32 0, .int .i32 0] 27))
  clear k0 k1 k2

  go_enter Tryz.func88, Tryz.ntmps88
  go_wp2_with fail
  generalize (((w.alloc (.cells #[.iface 59 (.pointer (some p))] 40)).alloc (.cells #[.int .i32 a.v, .int .i32 b.v, .int .i32 c.v, .int .i32 d.v] 27)).alloc (.cells #[.int .i32 0, .int .i32 0, .int .i32 0, .int .i32 0] 27)) = w6 at *
  go_region_held3 (fun w' => Chg w6 w' [w.heap.size + 1 + 1] ∧ w'.cell? ⟨w.heap.size, 0, none⟩ = some (.iface 59 (.pointer (some p))) ∧ w'.cell? ⟨w.heap.size + 1, 0, none⟩ = some (.int .i32 a.v) ∧ w'.cell? ⟨w.heap.size + 1, 1, none⟩ = some (.int .i32 b.v) ∧ w'.cell? ⟨w.heap.size + 1, 2, none⟩ = some (.int .i32 c.v) ∧ w'.cell? ⟨w.heap.size + 1, 3, none⟩ = some (.int .i32 d.v) ∧ w'.cell? ⟨w.heap.size + 1 + 1, 0, none⟩ = some (cellAt w' ⟨w.heap.size + 1 + 1, 0, none⟩) ∧ w'.cell? ⟨w.heap.size + 1 + 1, 1, none⟩ = some (cellAt w' ⟨w.heap.size + 1 + 1, 1, none⟩) ∧ w'.cell? ⟨w.heap.size + 1 + 1, 2, none⟩ = some (cellAt w' ⟨w.heap.size + 1 + 1, 2, none⟩) ∧ w'.cell? ⟨w.heap.size + 1 + 1, 3, none⟩ = some (cellAt w' ⟨w.heap.size + 1 + 1, 3, none⟩) ∧ w'.frozen? ⟨w.heap.size + 1 + 1, 0, none⟩ = false ∧ w'.frozen? ⟨w.heap.size + 1 + 1, 1, none⟩ = false ∧ w'.frozen? ⟨w.heap.size + 1 + 1, 2, none⟩ = false ∧ w'.frozen? ⟨w.heap.size + 1 + 1, 3, none⟩ = false)
    (first | exact ⟨(Chg.refl w6 _).drew, g0_0, g1_0, g1_1, g1_2, g1_3, cellAt_of g2_0, cellAt_of g2_1, cellAt_of g2_2, cellAt_of g2_3, m2.frozen 0, m2.frozen 1, m2.frozen 2, m2.frozen 3⟩ | exact keep5_r4 hcX (by assumption) | exact keepa5_r4 (by assumption) | exact put5_r4 (.inl (by simp)) (by dsimp only; omega) (by dsimp only; omega) (by dsimp only; omega) (by dsimp only; omega) (by dsimp only; omega) (by assumption))
    (first | (go_at_call 93; refine (w_neg p _ _).mono ?_; rintro e w7 ⟨rfl, hcX⟩))

  have hl := ‹Chg w6 (World.setCell _ _ _) _ ∧ _›
  obtain ⟨q0, q1, q2, q3⟩ := got4 hl.2.2.2.2.2.2.1 hl.2.2.2.2.2.2.2.1 hl.2.2.2.2.2.2.2.2.1 hl.2.2.2.2.2.2.2.2.2.1
  have HL := hide hl.1
  clear hl
  go_wp2
  refine bodyPost_ret (v := .agg #[.int .i32 a.v, .int .i32 (negW b).v, .int .i32 (negW c).v, .int .i32 (negW d).v]) (by simp [results, Tryz.f88, go_sem, q0, q1, q2, q3]) rfl ⟨rfl, HC.out.trans HL.out (by simp; try omega)⟩

theorem Blk.at_ {w : World} {g : Nat} {t : TypeId} {cs : List Value} (h : Blk w g t cs) (i : Nat) {v : Value} (hv : cs[i]? = some v) : w.cell? ⟨g, i, none⟩ = some v ∧ w.frozen? ⟨g, i, none⟩ = false := ⟨h.cell' hv, h.frozen i⟩
def timesL (n a b c d : Wd) : Nat → List Value
  | 0 => [.int .i32 a.v, .int .i32 b.v, .int .i32 c.v, .int .i32 d.v]
  | 1 => [.int .i32 (mulqW n a).v, .int .i32 b.v, .int .i32 c.v, .int .i32 d.v]
  | 2 => [.int .i32 (mulqW n a).v, .int .i32 (mulqW n b).v, .int .i32 c.v, .int .i32 d.v]
  | 3 => [.int .i32 (mulqW n a).v, .int .i32 (mulqW n b).v, .int .i32 (mulqW n c).v, .int .i32 d.v]
  | _ => [.int .i32 (mulqW n a).v, .int .i32 (mulqW n b).v, .int .i32 (mulqW n c).v, .int .i32 (mulqW n d).v]
set_option maxRecDepth 100000 in
set_option maxHeartbeats 2000000 in
theorem wtimes_calls (p : Addr) (n a b c d : Wd) (w : World) :
    Calls Tryz.prog 90 #[.agg #[.iface 59 (.pointer (some p))], .int .i32 n.v, .agg #[.int .i32 a.v, .int .i32 b.v, .int .i32 c.v, .int .i32 d.v]] w fun e w' => e = .returned (.agg #[.int .i32 (mulqW n a).v, .int .i32 (mulqW n b).v, .int .i32 (mulqW n c).v, .int .i32 (mulqW n d).v]) ∧ Chg w w' [] := by
  have k0 := Blk.new w 40 [.iface 59 (.pointer (some p))]
  have m0 := ((k0.alloc (.cells #[.int .i32 a.v, .int .i32 b.v, .int .i32 c.v, .int .i32 d.v] 27)).alloc (.cells #[.int .i32 0, .int .i32 0, .int .i32 0, .int .i32 0] 27))
  have g0_0 := m0.cell' (i := 0) rfl
  have k1 := Blk.new (w.alloc (.cells #[.iface 59 (.pointer (some p))] 40)) 27 [.int .i32 a.v, .int .i32 b.v, .int .i32 c.v, .int .i32 d.v]
  have m1 := (k1.alloc (.cells #[.int .i32 0, .int .i32 0, .int .i32 0, .int .i32 0] 27))
  simp only [size_alloc] at m1
  have g1_0 := m1.cell' (i := 0) rfl
  have g1_1 := m1.cell' (i := 1) rfl
  have g1_2 := m1.cell' (i := 2) rfl
  have g1_3 := m1.cell' (i := 3) rfl
  have k2 := Blk.new ((w.alloc (.cells #[.iface 59 (.pointer (some p))] 40)).alloc (.cells #[.int .i32 a.v, .int .i32 b.v, .int .i32 c.v, .int .i32 d.v] 27)) 27 [.int .i32 0, .int .i32 0, .int .i32 0, .int .i32 0]
  have m2 := k2
  simp only [size_alloc] at m2
  have g2_0 := m2.cell' (i := 0) rfl
  have g2_1 := m2.cell' (i := 1) rfl
  have g2_2 := m2.cell' (i := 2) rfl
  have g2_3 := m2.cell' (i := 3) rfl
  have HC := hide ((((Chg.refl w []).alloc (.cells #[.iface 59 (.pointer (some p))] 40)).alloc (.cells #[.int .i32 a.v, .int .i32 b.v, .int .i32 c.v, .int .i32 d.v] 27)).alloc (.cells #[.int .i32 0, .int .i32 0, .int .i32 0, .int .i32 0] 27))
  clear k0 k1 k2

  have z0 := m2.at_ 0 rfl
  have z1 := m2.at_ 1 rfl
  have z2 := m2.at_ 2 rfl
  have z3 := m2.at_ 3 rfl
  clear g1_0 g1_1 g1_2 g1_3 g2_0 g2_1 g2_2 g2_3
  go_enter Tryz.func90, Tryz.ntmps90
  go_wp2_with fail
  generalize (((w.alloc (.cells #[.iface 59 (.pointer (some p))] 40)).alloc (.cells #[.int .i32 a.v, .int .i32 b.v, .int .i32 c.v, .int .i32 d.v] 27)).alloc (.cells #[.int .i32 0, .int .i32 0, .int .i32 0, .int .i32 0] 27)) = w6 at *
  go_loopw [8] (fun i wr => ∃ k : Nat, k ≤ 4 ∧ i = .int .i64 k ∧ Hid (Chg w6 wr [w.heap.size + 1]) ∧ Hid (Blk wr (w.heap.size + 1) 27 (timesL n a b c d k))) (fun i _ => 4 - (intOf i).toNat)
  case atStart => exact ⟨0, Nat.zero_le _, rfl, Chg.refl w6 _, m1⟩
  case round =>
    obtain ⟨k, hk, rfl, HK, HB⟩ := hrel
    have hg := HK.out.cell g0_0 (by simp)
    have hz0 := HK.out.cell z0.1 (by simp)
    have hz1 := HK.out.cell z1.1 (by simp)
    have hz2 := HK.out.cell z2.1 (by simp)
    have hz3 := HK.out.cell z3.1 (by simp)
    have M2 := hide (m2.chg HK.out (by simp))
    rcases (by omega : k = 0 ∨ k = 1 ∨ k = 2 ∨ k = 3 ∨ k = 4) with rfl | rfl | rfl | rfl | rfl
    · have hb := HB.out.at_ 0 rfl
      have h1 := hb.1
      have h2 := hb.2
      have hl := HB.out.lt
      clear m0 m1 m2 z0 z1 z2 z3 g0_0 hb
      go_wp2_with fail
      go_region_with ((go_at_call 70; refine (w_mulq p _ _ _).mono ?_; rintro e w7 ⟨rfl, hcX⟩; have h3 := hcX.cell h1 (by simp); have h4 := (hcX.frozen (a := ⟨w.heap.size + 1, 0, none⟩) hl (by simp)).trans h2; have HX := hide hcX; clear hcX))
      all_goals
        have HK2 := hide ((HK.out.trans (Chg.from_drew HX.out) (by simp)).setCell ⟨w.heap.size + 1, 0, none⟩ (.int .i32 (mulqW n a).v) (.inl (by simp)))
        have HB2 := hide ((HB.out.drew.chg HX.out (by simp)).set_ 0 (.int .i32 (mulqW n a).v))
        generalize (World.setCell w7 _ _) = w8 at *
        go_wp2
        go_roundw
        case rel => exact ⟨1, by omega, by go_num, HK2, HB2⟩
        case measure => simp [intOf]
    · have hb := HB.out.at_ 1 rfl
      have h1 := hb.1
      have h2 := hb.2
      have hl := HB.out.lt
      clear m0 m1 m2 z0 z1 z2 z3 g0_0 hb
      go_wp2_with fail
      go_region_with ((go_at_call 70; refine (w_mulq p _ _ _).mono ?_; rintro e w7 ⟨rfl, hcX⟩; have h3 := hcX.cell h1 (by simp); have h4 := (hcX.frozen (a := ⟨w.heap.size + 1, 1, none⟩) hl (by simp)).trans h2; have HX := hide hcX; clear hcX))
      all_goals
        have HK2 := hide ((HK.out.trans (Chg.from_drew HX.out) (by simp)).setCell ⟨w.heap.size + 1, 1, none⟩ (.int .i32 (mulqW n b).v) (.inl (by simp)))
        have HB2 := hide ((HB.out.drew.chg HX.out (by simp)).set_ 1 (.int .i32 (mulqW n b).v))
        generalize (World.setCell w7 _ _) = w8 at *
        go_wp2
        go_roundw
        case rel => exact ⟨2, by omega, by go_num, HK2, HB2⟩
        case measure => simp [intOf]
    · have hb := HB.out.at_ 2 rfl
      have h1 := hb.1
      have h2 := hb.2
      have hl := HB.out.lt
      clear m0 m1 m2 z0 z1 z2 z3 g0_0 hb
      go_wp2_with fail
      go_region_with ((go_at_call 70; refine (w_mulq p _ _ _).mono ?_; rintro e w7 ⟨rfl, hcX⟩; have h3 := hcX.cell h1 (by simp); have h4 := (hcX.frozen (a := ⟨w.heap.size + 1, 2, none⟩) hl (by simp)).trans h2; have HX := hide hcX; clear hcX))
      all_goals
        have HK2 := hide ((HK.out.trans (Chg.from_drew HX.out) (by simp)).setCell ⟨w.heap.size + 1, 2, none⟩ (.int .i32 (mulqW n c).v) (.inl (by simp)))
        have HB2 := hide ((HB.out.drew.chg HX.out (by simp)).set_ 2 (.int .i32 (mulqW n c).v))
        generalize (World.setCell w7 _ _) = w8 at *
        go_wp2
        go_roundw
        case rel => exact ⟨3, by omega, by go_num, HK2, HB2⟩
        case measure => simp [intOf]
    · have hb := HB.out.at_ 3 rfl
      have h1 := hb.1
      have h2 := hb.2
      have hl := HB.out.lt
      clear m0 m1 m2 z0 z1 z2 z3 g0_0 hb
      go_wp2_with fail
      go_region_with ((go_at_call 70; refine (w_mulq p _ _ _).mono ?_; rintro e w7 ⟨rfl, hcX⟩; have h3 := hcX.cell h1 (by simp); have h4 := (hcX.frozen (a := ⟨w.heap.size + 1, 3, none⟩) hl (by simp)).trans h2; have HX := hide hcX; clear hcX))
      all_goals
        have HK2 := hide ((HK.out.trans (Chg.from_drew HX.out) (by simp)).setCell ⟨w.heap.size + 1, 3, none⟩ (.int .i32 (mulqW n d).v) (.inl (by simp)))
        have HB2 := hide ((HB.out.drew.chg HX.out (by simp)).set_ 3 (.int .i32 (mulqW n d).v))
        generalize (World.setCell w7 _ _) = w8 at *
        go_wp2
        go_roundw
        case rel => exact ⟨4, by omega, by go_num, HK2, HB2⟩
        case measure => simp [intOf]
    · have y0 := HB.out.at_ 0 rfl
      have y1 := HB.out.at_ 1 rfl
      have y2 := HB.out.at_ 2 rfl
      have y3 := HB.out.at_ 3 rfl
      clear m0 m1 m2 z0 z1 z2 z3 g0_0
      have f0 := M2.out.frozen 0
      have f1 := M2.out.frozen 1
      have f2 := M2.out.frozen 2
      have f3 := M2.out.frozen 3
      go_wp2
      refine bodyPost_ret (v := .agg #[.int .i32 (mulqW n a).v, .int .i32 (mulqW n b).v, .int .i32 (mulqW n c).v, .int .i32 (mulqW n d).v]) (by simp [results, Tryz.f90, go_sem, hz0, hz1, hz2, hz3]) rfl ⟨rfl, ?_⟩
      exact ((((HC.out.trans HK.out (D := []) (by simp)).setCell _ _ (.inr (by dsimp only; omega))).setCell _ _ (.inr (by dsimp only; omega))).setCell _ _ (.inr (by dsimp only; omega))).setCell _ _ (.inr (by dsimp only; omega))
end Go.Proofs.YtkfkoobdmnndcaaGreat
