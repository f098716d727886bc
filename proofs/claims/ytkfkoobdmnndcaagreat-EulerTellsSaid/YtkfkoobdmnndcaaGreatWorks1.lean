/- Square, Within, Scaled, less, more, Norm of package works at numbers. -/
import Derived.Test.YtkfkoobdmnndcaaGreatWdef
import Derived.Test.YtkfkoobdmnndcaaGreatKeep
namespace Go.Proofs.YtkfkoobdmnndcaaGreat
open Go.RowKit Go.Deep
set_option linter.unusedVariables false
/-- Words as values. -/
def wds (l : List Wd) : List Value := l.map fun x => .int .i32 x.v
theorem length_wds (l : List Wd) : (wds l).length = l.length := by simp [wds]
theorem wds_at (l : List Wd) (k : Nat) (h : k < l.length) : (wds l)[k]? = some (.int .i32 (l[k]).v) := by simp [wds, h]
theorem lessW_take (x : Wd) (l : List Wd) (k : Nat) (h : k < l.length) : lessW x (l.take (k + 1)) = subsW (lessW x (l.take k)) l[k] := by
  unfold lessW; rw [List.take_add_one, List.getElem?_eq_getElem h, List.foldl_append]; rfl
theorem moreW_take (x : Wd) (l : List Wd) (k : Nat) (h : k < l.length) : moreW x (l.take (k + 1)) = addsW (moreW x (l.take k)) l[k] := by
  unfold moreW; rw [List.take_add_one, List.getElem?_eq_getElem h, List.foldl_append]; rfl
theorem normW_take (x : Wd) (l : List Wd) (k : Nat) (h : k < l.length) : normW x (l.take (k + 1)) = addsW (normW x (l.take k)) (mulqW l[k] l[k]) := by
  unfold normW; rw [List.take_add_one, List.getElem?_eq_getElem h, List.foldl_append]; rfl
set_option maxRecDepth 100000 in
set_option maxHeartbeats 2000000 in
theorem wsquare_calls (p : Addr) (a b c : Wd) (w : World) :
    Calls Tryz.prog 25 #[.agg #[.iface 59 (.pointer (some p))], .agg #[.int .i32 a.v, .int .i32 b.v, .int .i32 c.v]] w fun e w' => e = .returned (.int .i32 (squareW a b c).v) ∧ Chg w w' [] := by
  have k0 := Blk.new w 40 [.iface 59 (.pointer (some p))]
  have m0 := (k0.alloc (.cells #[.int .i32 a.v, .int .i32 b.v, .int .i32 c.v] 22))
  have g0_0 := m0.cell' (i := 0) rfl
  have k1 := Blk.new (w.alloc (.cells #[.iface 59 (.pointer (some p))] 40)) 22 [.int .i32 a.v, .int .i32 b.v, .int .i32 c.v]
  have m1 := k1
  simp only [size_alloc] at m1
  have g1_0 := m1.cell' (i := 0) rfl
  have g1_1 := m1.cell' (i := 1) rfl
  have g1_2 := m1.cell' (i := 2) rfl
  have HC := hide (((Chg.refl w []).alloc (.cells #[.iface 59 (.pointer (some p))] 40)).alloc (.cells #[.int .i32 a.v, .int .i32 b.v, .int .i32 c.v] 22))
  clear k0 k1
  clear m0 m1
  go_enter Tryz.func25, Tryz.ntmps25
  go_wp2_with fail
  generalize ((w.alloc (.cells #[.iface 59 (.pointer (some p))] 40)).alloc (.cells #[.int .i32 a.v, .int .i32 b.v, .int .i32 c.v] 22)) = w6 at *
  go_region_held3 (fun w' => Chg w6 w' [] ∧ w'.cell? ⟨w.heap.size, 0, none⟩ = some (.iface 59 (.pointer (some p))) ∧ w'.cell? ⟨w.heap.size + 1, 0, none⟩ = some (.int .i32 a.v) ∧ w'.cell? ⟨w.heap.size + 1, 1, none⟩ = some (.int .i32 b.v) ∧ w'.cell? ⟨w.heap.size + 1, 2, none⟩ = some (.int .i32 c.v))
    (first | exact ⟨(Chg.refl w6 []).drew, g0_0, g1_0, g1_1, g1_2⟩ | exact keep4 hcX (by assumption))
    (first | (go_at_call 55; refine (w_add p _ _ _).mono ?_; rintro e w7 ⟨rfl, hcX⟩) | (go_at_call 56; refine (w_mul p _ _ _).mono ?_; rintro e w7 ⟨rfl, hcX⟩))
  have hlast := ‹Chg w6 _ [] ∧ _›
  go_wp2
  go_ret
  exact ⟨rfl, HC.out.trans hlast.1 (by simp)⟩

set_option maxRecDepth 100000 in
set_option maxHeartbeats 2000000 in
theorem wwithin_calls (p : Addr) (n : Wd) (low high : Int) (w : World) (hl : In32 low) (hh : In32 high) :
    Calls Tryz.prog 60 #[.agg #[.iface 59 (.pointer (some p))], .int .i32 n.v, .int .i32 low, .int .i32 high] w fun e w' => e = .returned (.int .i32 (withinW n (kW low) (kW high)).v) ∧ Chg w w' [] := by
  have k0 := Blk.new w 40 [.iface 59 (.pointer (some p))]
  have m0 := k0
  have g0_0 := m0.cell' (i := 0) rfl
  have HC := hide ((Chg.refl w []).alloc (.cells #[.iface 59 (.pointer (some p))] 40))
  clear k0
  have h1 := nil_const p
  have h2 := meth_const p
  clear m0
  go_enter Tryz.func60, Tryz.ntmps60
  go_wp2_with fail
  generalize (w.alloc (.cells #[.iface 59 (.pointer (some p))] 40)) = w6 at *
  go_region_held3 (fun w' => Chg w6 w' [] ∧ w'.cell? ⟨w.heap.size, 0, none⟩ = some (.iface 59 (.pointer (some p))))
    (first | exact ⟨(Chg.refl w6 []).drew, g0_0⟩ | exact keep1 hcX (by assumption))
    (first | (go_at_call 98; refine (w_sltu p _ _ _).mono ?_; rintro e w7 ⟨rfl, hcX⟩) | (go_at_call 97; refine (w_or p _ _ _).mono ?_; rintro e w7 ⟨rfl, hcX⟩) | (go_at_call 76; refine (w_sub p _ _ _).mono ?_; rintro e w7 ⟨rfl, hcX⟩) | (go_at_call 139; refine (w_const p _ _ (by first | assumption | decide)).mono ?_; rintro e w7 ⟨rfl, hcX⟩))
  have hlast := ‹Chg w6 _ [] ∧ _›
  go_wp2
  go_ret
  exact ⟨rfl, HC.out.trans hlast.1 (by simp)⟩

set_option maxRecDepth 100000 in
set_option maxHeartbeats 2000000 in
theorem wscaled_calls (p : Addr) (x z h : Wd) (w : World) :
    Calls Tryz.prog 62 #[.agg #[.iface 59 (.pointer (some p))], .int .i32 x.v, .int .i32 z.v, .int .i32 h.v] w fun e w' => e = .returned (.int .i32 (scaledW x z h).v) ∧ Chg w w' [] := by
  have k0 := Blk.new w 40 [.iface 59 (.pointer (some p))]
  have m0 := k0
  have g0_0 := m0.cell' (i := 0) rfl
  have HC := hide ((Chg.refl w []).alloc (.cells #[.iface 59 (.pointer (some p))] 40))
  clear k0
  clear m0
  go_enter Tryz.func62, Tryz.ntmps62
  go_wp2_with fail
  generalize (w.alloc (.cells #[.iface 59 (.pointer (some p))] 40)) = w6 at *
  go_region_held3 (fun w' => Chg w6 w' [] ∧ w'.cell? ⟨w.heap.size, 0, none⟩ = some (.iface 59 (.pointer (some p))))
    (first | exact ⟨(Chg.refl w6 []).drew, g0_0⟩ | exact keep1 hcX (by assumption))
    (first | (go_at_call 70; refine (w_mulq p _ _ _).mono ?_; rintro e w7 ⟨rfl, hcX⟩) | (go_at_call 102; refine (w_shl p _ _ _).mono ?_; rintro e w7 ⟨rfl, hcX⟩))
  have hlast := ‹Chg w6 _ [] ∧ _›
  go_wp2
  go_ret
  exact ⟨rfl, HC.out.trans hlast.1 (by simp)⟩

set_option maxRecDepth 100000 in
set_option maxHeartbeats 2000000 in
theorem wless_calls (p : Addr) (x : Wd) (l : List Wd) (v : Value) (w : World) (hs : Sl w v (wds l)) (hn : l.length ≤ 3000) :
    Calls Tryz.prog 72 #[.agg #[.iface 59 (.pointer (some p))], .int .i32 x.v, v] w fun e w' => e = .returned (.int .i32 (lessW x l).v) ∧ Chg w w' [] := by
  obtain ⟨A, c, rfl, hcap, hx⟩ := hs
  have HS : Hid (Sl w (.slice A (wds l).length c) (wds l)) := hide ⟨A, c, rfl, hcap, hx⟩
  rw [length_wds] at *
  clear hx hcap
  have k0 := Blk.new w 40 [.iface 59 (.pointer (some p))]
  have m0 := k0
  have g0_0 := m0.cell' (i := 0) rfl
  have HC := hide ((Chg.refl w []).alloc (.cells #[.iface 59 (.pointer (some p))] 40))
  clear k0
  clear m0
  go_enter Tryz.func72, Tryz.ntmps72
  go_wp2_with fail
  generalize (w.alloc (.cells #[.iface 59 (.pointer (some p))] 40)) = w6 at *
  go_loopw [1, 11] (fun x' i wr => ∃ k : Nat, k ≤ l.length ∧ i = .int .i64 k ∧ x' = .int .i32 (lessW x (l.take k)).v ∧ Hid (Chg w6 wr [])) (fun _ i _ => l.length - (intOf i).toNat)
  case atStart => exact ⟨0, Nat.zero_le _, rfl, rfl, Chg.refl w6 []⟩
  case round =>
    obtain ⟨k, hk, rfl, rfl, HK⟩ := hrel
    by_cases hlt : k < l.length
    · have hc6 := HC.out.trans HK.out (D' := []) (by simp)
      have hg := HK.out.cell g0_0 (by simp)
      obtain ⟨b, off, hA, hca, _⟩ := (HS.out.chg hc6 (by simp)).at_ (wds_at l k hlt)
      subst hA
      clear hc6
      have HE := hide (lessW_take x l k hlt)
      generalize lessW x (l.take k) = s at *
      generalize l[k] = y at *
      go_wp2_with fail
      refine (w_subs p _ _ _).mono ?_
      rintro e w7 ⟨rfl, hcX⟩
      have HK2 := hide (HK.out.trans hcX (by simp))
      clear hcX hg hca
      go_wp2
      go_roundw
      case rel => exact ⟨k + 1, by omega, by go_num, by rw [HE.out], HK2⟩
      case measure => simp [intOf]; omega
    · have hk : k = l.length := by omega
      subst hk
      rw [List.take_length]
      go_wp2
      go_ret
      exact ⟨rfl, HC.out.trans HK.out (by simp)⟩

set_option maxRecDepth 100000 in
set_option maxHeartbeats 2000000 in
theorem wmore_calls (p : Addr) (x : Wd) (l : List Wd) (v : Value) (w : World) (hs : Sl w v (wds l)) (hn : l.length ≤ 3000) :
    Calls Tryz.prog 71 #[.agg #[.iface 59 (.pointer (some p))], .int .i32 x.v, v] w fun e w' => e = .returned (.int .i32 (moreW x l).v) ∧ Chg w w' [] := by
  obtain ⟨A, c, rfl, hcap, hx⟩ := hs
  have HS : Hid (Sl w (.slice A (wds l).length c) (wds l)) := hide ⟨A, c, rfl, hcap, hx⟩
  rw [length_wds] at *
  clear hx hcap
  have k0 := Blk.new w 40 [.iface 59 (.pointer (some p))]
  have m0 := k0
  have g0_0 := m0.cell' (i := 0) rfl
  have HC := hide ((Chg.refl w []).alloc (.cells #[.iface 59 (.pointer (some p))] 40))
  clear k0
  clear m0
  go_enter Tryz.func71, Tryz.ntmps71
  go_wp2_with fail
  generalize (w.alloc (.cells #[.iface 59 (.pointer (some p))] 40)) = w6 at *
  go_loopw [1, 11] (fun x' i wr => ∃ k : Nat, k ≤ l.length ∧ i = .int .i64 k ∧ x' = .int .i32 (moreW x (l.take k)).v ∧ Hid (Chg w6 wr [])) (fun _ i _ => l.length - (intOf i).toNat)
  case atStart => exact ⟨0, Nat.zero_le _, rfl, rfl, Chg.refl w6 []⟩
  case round =>
    obtain ⟨k, hk, rfl, rfl, HK⟩ := hrel
    by_cases hlt : k < l.length
    · have hc6 := HC.out.trans HK.out (D' := []) (by simp)
      have hg := HK.out.cell g0_0 (by simp)
      obtain ⟨b, off, hA, hca, _⟩ := (HS.out.chg hc6 (by simp)).at_ (wds_at l k hlt)
      subst hA
      clear hc6
      have HE := hide (moreW_take x l k hlt)
      generalize moreW x (l.take k) = s at *
      generalize l[k] = y at *
      go_wp2_with fail
      refine (w_adds p _ _ _).mono ?_
      rintro e w7 ⟨rfl, hcX⟩
      have HK2 := hide (HK.out.trans hcX (by simp))
      clear hcX hg hca
      go_wp2
      go_roundw
      case rel => exact ⟨k + 1, by omega, by go_num, by rw [HE.out], HK2⟩
      case measure => simp [intOf]; omega
    · have hk : k = l.length := by omega
      subst hk
      rw [List.take_length]
      go_wp2
      go_ret
      exact ⟨rfl, HC.out.trans HK.out (by simp)⟩

end Go.Proofs.YtkfkoobdmnndcaaGreat
