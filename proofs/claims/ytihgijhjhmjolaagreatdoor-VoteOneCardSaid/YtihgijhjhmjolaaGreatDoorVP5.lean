/- Texts of this claim, side by side: Ref32, Ref32b, BitLaw, Slots4. -/
import Derived.Test.YtihgijhjhmjolaaGreatDoorVP4
import Derived.Test.YtihgijhjhmjolaaGreatDoorVP1
import Derived.Test.YtihgijhjhmjolaaGreatDoorVP3
/- Norm, Accel, Mag as layer 32's reference says them. -/
namespace Go.Proofs.YtihgijhjhmjolaaGreatDoor
open Go.RowKit Go.Deep
set_option linter.unusedVariables false
theorem wrap32_in (x : Int) : -2147483648 ≤ wrap32 x ∧ wrap32 x ≤ 2147483647 := by unfold wrap32; omega
theorem sq_ok (x : Int) (h : -2147483648 ≤ x ∧ x ≤ 2147483647) : -9223372036854775808 ≤ x * x ∧ x * x ≤ 9223372036854775807 := by
 have h1 : x * x = (x.natAbs * x.natAbs : Nat) := by rw [Int.natAbs_mul_self]
 have h2 : x.natAbs * x.natAbs ≤ 2147483648 * 2147483648 := Nat.mul_le_mul (by omega) (by omega)
 omega
def sqP (x : Int) : Int := wrap32 (x * x) % 4294967296
theorem sq_lo (x : Int) : 0 ≤ sqP x ∧ sqP x < 4294967296 := by unfold sqP; omega
def refNorm (a b c : Int) : Int := wrap32 (sqP a + sqP b + sqP c)
set_option maxRecDepth 100000 in
set_option maxHeartbeats 4000000 in
theorem refNorm_calls (a b c : Int) (w : World) (ha : -2147483648 ≤ a ∧ a ≤ 2147483647) (hb : -2147483648 ≤ b ∧ b ≤ 2147483647) (hc : -2147483648 ≤ c ∧ c ≤ 2147483647) :
 Calls Tryz.prog 109 #[.agg #[.int .i32 a, .int .i32 b, .int .i32 c]] w fun e w' => e = .returned (.int .i32 (refNorm a b c)) ∧ Chg w w' [] := by
 have k0 := Blk.new w 36 [.int .i32 a, .int .i32 b, .int .i32 c]
 have m0 := k0
 have g0_0 := m0.cell' (i := 0) rfl
 have g0_1 := m0.cell' (i := 1) rfl
 have g0_2 := m0.cell' (i := 2) rfl
 have HC := hide ((Chg.refl w []).alloc (.cells #[.int .i32 a, .int .i32 b, .int .i32 c] 36))
 clear k0
 have HR := hide m0
 clear m0
 go_enter Tryz.func109, Tryz.ntmps109
 go_wp2_with fail
 generalize hw5 : (w.alloc (.cells #[.int .i32 a, .int .i32 b, .int .i32 c] 36)) = w5 at *
 clear hw5
 go_loopw [3, 4] (fun n i wr => ∃ k : Nat, k ≤ 3 ∧ i = .int .i64 k ∧ n = .int .i64 ([0, sqP a, sqP a + sqP b, sqP a + sqP b + sqP c].getD k 0) ∧ Hid (Blk wr w.heap.size 36 [.int .i32 a, .int .i32 b, .int .i32 c]) ∧ Hid (Chg w wr [])) (fun _ i _ => 3 - (intOf i).toNat)
 case atStart => exact ⟨0, by omega, rfl, rfl, HR, HC⟩
 case round =>
  clear HR HC
  obtain ⟨k, hk, rfl, rfl, HB, HK⟩ := hrel
  have sa := sq_lo a
  have sb := sq_lo b
  have sc := sq_lo c
  rcases (by omega : k = 0 ∨ k = 1 ∨ k = 2 ∨ k = 3) with rfl | rfl | rfl | rfl
  · have x0 := HB.out.cell' (i := 0) rfl
    have hm := sq_ok a ha
    simp only [List.getD_cons_zero]
    have e1 : IntKind.i64.wrap a = a := by rw [IntKind.wrap_i64]; omega
    have e2 : IntKind.i64.wrap (a * a) = a * a := by rw [IntKind.wrap_i64]; omega
    go_wp2_with fail
    go_region_with (first | (go_at_call 79; refine (low_calls (a * a) _ hm).mono ?_; rintro e w9 ⟨rfl, rfl⟩) | (go_at_call 136; refine (plain_calls (wrap32 (a * a)) _ (wrap32_in _)).mono ?_; rintro e w9 ⟨rfl, rfl⟩))
    all_goals
     go_wp2
     go_roundw
     case rel => exact ⟨1, by omega, by go_num, by first | rfl | (simp [sqP]; done) | (simp [sqP]; omega), hide (HB.out.drew), hide (HK.out.drew)⟩
     case measure => simp [intOf]
  · have x0 := HB.out.cell' (i := 1) rfl
    have hm := sq_ok b hb
    simp only [List.getD_cons_zero, List.getD_cons_succ]
    have e1 : IntKind.i64.wrap b = b := by rw [IntKind.wrap_i64]; omega
    have e2 : IntKind.i64.wrap (b * b) = b * b := by rw [IntKind.wrap_i64]; omega
    go_wp2_with fail
    go_region_with (first | (go_at_call 79; refine (low_calls (b * b) _ hm).mono ?_; rintro e w9 ⟨rfl, rfl⟩) | (go_at_call 136; refine (plain_calls (wrap32 (b * b)) _ (wrap32_in _)).mono ?_; rintro e w9 ⟨rfl, rfl⟩))
    all_goals
     go_wp2
     go_roundw
     case rel => exact ⟨2, by omega, by go_num, by first | rfl | (simp [sqP]; done) | (simp [sqP]; omega), hide (HB.out.drew), hide (HK.out.drew)⟩
     case measure => simp [intOf]
  · have x0 := HB.out.cell' (i := 2) rfl
    have hm := sq_ok c hc
    simp only [List.getD_cons_zero, List.getD_cons_succ]
    have e1 : IntKind.i64.wrap c = c := by rw [IntKind.wrap_i64]; omega
    have e2 : IntKind.i64.wrap (c * c) = c * c := by rw [IntKind.wrap_i64]; omega
    go_wp2_with fail
    go_region_with (first | (go_at_call 79; refine (low_calls (c * c) _ hm).mono ?_; rintro e w9 ⟨rfl, rfl⟩) | (go_at_call 136; refine (plain_calls (wrap32 (c * c)) _ (wrap32_in _)).mono ?_; rintro e w9 ⟨rfl, rfl⟩))
    all_goals
     go_wp2
     go_roundw
     case rel => exact ⟨3, by omega, by go_num, by first | rfl | (simp [sqP]; done) | (simp [sqP]; omega), hide (HB.out.drew), hide (HK.out.drew)⟩
     case measure => simp [intOf]
  · simp only [List.getD_cons_zero, List.getD_cons_succ]
    go_wp2_with fail
    refine (low_calls (sqP a + sqP b + sqP c) _ (by omega)).mono ?_
    rintro e w9 ⟨rfl, rfl⟩
    have hw := wrap32_in (sqP a + sqP b + sqP c)
    go_wp2
    go_ret
    exact ⟨rfl, HK.out⟩
end Go.Proofs.YtihgijhjhmjolaaGreatDoor

/- Accel, Mag as layer 32's reference says them. -/
namespace Go.Proofs.YtihgijhjhmjolaaGreatDoor
open Go.RowKit Go.Deep
set_option linter.unusedVariables false
def inside (lo hi a b c : Int) : Bool := decide (lo ≤ refNorm a b c % 4294967296) && decide (refNorm a b c % 4294967296 ≤ hi)
set_option maxRecDepth 100000 in
set_option maxHeartbeats 4000000 in
theorem within_calls (a b c lo hi : Int) (w : World) (ha : -2147483648 ≤ a ∧ a ≤ 2147483647) (hb : -2147483648 ≤ b ∧ b ≤ 2147483647) (hc : -2147483648 ≤ c ∧ c ≤ 2147483647) :
 Calls Tryz.prog 111 #[.agg #[.int .i32 a, .int .i32 b, .int .i32 c], .int .i64 lo, .int .i64 hi] w fun e w' => e = .returned (.bool (inside lo hi a b c)) ∧ Chg w w' [] := by
 have k0 := Blk.new w 36 [.int .i32 a, .int .i32 b, .int .i32 c]
 have m0 := k0
 have g0_0 := m0.cell' (i := 0) rfl
 have g0_1 := m0.cell' (i := 1) rfl
 have g0_2 := m0.cell' (i := 2) rfl
 have HC := hide ((Chg.refl w []).alloc (.cells #[.int .i32 a, .int .i32 b, .int .i32 c] 36))
 clear k0
 clear m0
 go_enter Tryz.func111, Tryz.ntmps111
 go_wp2_with fail
 generalize hw5 : (w.alloc (.cells #[.int .i32 a, .int .i32 b, .int .i32 c] 36)) = w5 at *
 clear hw5
 refine (refNorm_calls a b c _ ha hb hc).mono ?_
 rintro e w6 ⟨rfl, hx⟩
 have HC6 := hide (HC.out.trans hx (D := []) (by simp))
 clear hx
 go_wp2_with fail
 refine (plain_calls (refNorm a b c) _ (wrap32_in _)).mono ?_
 rintro e w7 ⟨rfl, rfl⟩
 generalize hp : refNorm a b c % 4294967296 = p at *
 by_cases h1 : lo ≤ p
 · have hres : inside lo hi a b c = decide (p ≤ hi) := by unfold inside; rw [hp]; simp [h1]
   go_wp2
   go_ret
   exact ⟨by first | rfl | (rw [hres]; rfl), HC6.out⟩
 · have hres : inside lo hi a b c = false := by unfold inside; rw [hp]; simp [h1]
   go_wp2
   go_ret
   exact ⟨by first | rfl | (rw [hres]; rfl), HC6.out⟩
set_option maxRecDepth 100000 in
set_option maxHeartbeats 4000000 in
theorem refAccel_calls (a b c : Int) (w : World) (ha : -2147483648 ≤ a ∧ a ≤ 2147483647) (hb : -2147483648 ≤ b ∧ b ≤ 2147483647) (hc : -2147483648 ≤ c ∧ c ≤ 2147483647) :
 Calls Tryz.prog 60 #[.agg #[.int .i32 a, .int .i32 b, .int .i32 c]] w fun e w' => e = .returned (.bool (inside 16777216 150994944 a b c)) ∧ Chg w w' [] := by
 have k0 := Blk.new w 36 [.int .i32 a, .int .i32 b, .int .i32 c]
 have m0 := k0
 have g0_0 := m0.cell' (i := 0) rfl
 have g0_1 := m0.cell' (i := 1) rfl
 have g0_2 := m0.cell' (i := 2) rfl
 have HC := hide ((Chg.refl w []).alloc (.cells #[.int .i32 a, .int .i32 b, .int .i32 c] 36))
 clear k0
 clear m0
 go_enter Tryz.func60, Tryz.ntmps60
 go_wp2_with fail
 generalize hw5 : (w.alloc (.cells #[.int .i32 a, .int .i32 b, .int .i32 c] 36)) = w5 at *
 clear hw5
 refine (within_calls a b c 16777216 150994944 _ ha hb hc).mono ?_
 rintro e w6 ⟨rfl, hx⟩
 have HC6 := hide (HC.out.trans hx (D := []) (by simp))
 go_wp2
 go_ret
 exact ⟨rfl, HC6.out⟩
set_option maxRecDepth 100000 in
set_option maxHeartbeats 4000000 in
theorem refMag_calls (a b c : Int) (w : World) (ha : -2147483648 ≤ a ∧ a ≤ 2147483647) (hb : -2147483648 ≤ b ∧ b ≤ 2147483647) (hc : -2147483648 ≤ c ∧ c ≤ 2147483647) :
 Calls Tryz.prog 56 #[.agg #[.int .i32 a, .int .i32 b, .int .i32 c]] w fun e w' => e = .returned (.bool (inside 1000000 400000000 a b c)) ∧ Chg w w' [] := by
 have k0 := Blk.new w 36 [.int .i32 a, .int .i32 b, .int .i32 c]
 have m0 := k0
 have g0_0 := m0.cell' (i := 0) rfl
 have g0_1 := m0.cell' (i := 1) rfl
 have g0_2 := m0.cell' (i := 2) rfl
 have HC := hide ((Chg.refl w []).alloc (.cells #[.int .i32 a, .int .i32 b, .int .i32 c] 36))
 clear k0
 clear m0
 go_enter Tryz.func56, Tryz.ntmps56
 go_wp2_with fail
 generalize hw5 : (w.alloc (.cells #[.int .i32 a, .int .i32 b, .int .i32 c] 36)) = w5 at *
 clear hw5
 refine (within_calls a b c 1000000 400000000 _ ha hb hc).mono ?_
 rintro e w6 ⟨rfl, hx⟩
 have HC6 := hide (HC.out.trans hx (D := []) (by simp))
 go_wp2
 go_ret
 exact ⟨rfl, HC6.out⟩
end Go.Proofs.YtihgijhjhmjolaaGreatDoor

/- Words and masks: all ones, or 0. -/
namespace Go.Proofs.YtihgijhjhmjolaaGreatDoor
open Go.RowKit
set_option linter.unusedVariables false
theorem of_all : BitVec.ofInt 32 (-1) = BitVec.allOnes 32 := by decide
theorem of_zero : BitVec.ofInt 32 0 = 0#32 := by decide
theorem and_all {x : Int} (h : In32 x) : andI x (-1) = x := by
 show IntKind.i32.wrap ((BitVec.ofInt 32 x &&& BitVec.ofInt 32 (-1)).toNat : Int) = _
 rw [of_all, BitVec.and_allOnes, IntKind.wrap_i32, BitVec.toNat_ofInt]
 unfold In32 at h
 omega
theorem and_none (x : Int) : andI x 0 = 0 := by
 show IntKind.i32.wrap ((BitVec.ofInt 32 x &&& BitVec.ofInt 32 0).toNat : Int) = _
 rw [of_zero, BitVec.and_zero]
 decide
theorem or_none {x : Int} (h : In32 x) : orI x 0 = x := by
 show IntKind.i32.wrap ((BitVec.ofInt 32 x ||| BitVec.ofInt 32 0).toNat : Int) = _
 rw [of_zero, BitVec.or_zero, IntKind.wrap_i32, BitVec.toNat_ofInt]
 unfold In32 at h
 omega
theorem none_or {x : Int} (h : In32 x) : orI 0 x = x := by
 show IntKind.i32.wrap ((BitVec.ofInt 32 0 ||| BitVec.ofInt 32 x).toNat : Int) = _
 rw [of_zero, BitVec.zero_or, IntKind.wrap_i32, BitVec.toNat_ofInt]
 unfold In32 at h
 omega
theorem xor_none {x : Int} (h : In32 x) : xorI x 0 = x := by
 show IntKind.i32.wrap ((BitVec.ofInt 32 x ^^^ BitVec.ofInt 32 0).toNat : Int) = _
 rw [of_zero, BitVec.xor_zero, IntKind.wrap_i32, BitVec.toNat_ofInt]
 unfold In32 at h
 omega
theorem xor_all {x : Int} (h : In32 x) : xorI x (-1) = -x - 1 := by
 show IntKind.i32.wrap ((BitVec.ofInt 32 x ^^^ BitVec.ofInt 32 (-1)).toNat : Int) = _
 rw [of_all, BitVec.xor_allOnes, IntKind.wrap_i32, BitVec.toNat_not, BitVec.toNat_ofInt]
 unfold In32 at h
 omega
theorem bic_none {x : Int} (h : In32 x) : bicI x 0 = x := by
 show IntKind.i32.wrap ((BitVec.ofInt 32 x &&& ~~~BitVec.ofInt 32 0).toNat : Int) = _
 rw [of_zero, BitVec.not_zero, BitVec.and_allOnes, IntKind.wrap_i32, BitVec.toNat_ofInt]
 unfold In32 at h
 omega
theorem bic_all {x : Int} (h : In32 x) : bicI x (-1) = 0 := by
 show IntKind.i32.wrap ((BitVec.ofInt 32 x &&& ~~~BitVec.ofInt 32 (-1)).toNat : Int) = _
 rw [of_all, BitVec.not_allOnes, BitVec.and_zero]
 decide
theorem sign_pos {y : Wd} (h : 0 ≤ y.v) : signW y = kW 0 := Wd.ext_ (by
 have := y.ok; unfold In32 at this
 show y.v / 2147483648 = (kW 0).v
 rw [kW_v (by decide)]; omega)
theorem sign_neg {y : Wd} (h : y.v < 0) : signW y = kW (-1) := Wd.ext_ (by
 have := y.ok; unfold In32 at this
 show y.v / 2147483648 = (kW (-1)).v
 rw [kW_v (by decide)]; omega)
theorem flip_none (x : Wd) : flipW x (kW 0) = x := Wd.ext_ (by
 have := x.ok
 show wrap32 (xorI x.v (kW 0).v - (kW 0).v) = x.v
 rw [kW_v (by decide), xor_none this]
 unfold In32 at this; unfold wrap32; omega)
theorem sel_all (a b : Wd) : selW (kW (-1)) a b = a := Wd.ext_ (by
 show orI (andI a.v (kW (-1)).v) (bicI b.v (kW (-1)).v) = a.v
 rw [kW_v (by decide), and_all a.ok, bic_all b.ok, or_none a.ok])
theorem sel_none (a b : Wd) : selW (kW 0) a b = b := Wd.ext_ (by
 show orI (andI a.v (kW 0).v) (bicI b.v (kW 0).v) = b.v
 rw [kW_v (by decide), and_none, bic_none b.ok, none_or b.ok])
theorem slt_yes {a b : Wd} (h : a.v < b.v) : negW (sltW a b) = kW (-1) := Wd.ext_ (by
 show satI (-(if a.v < b.v then 1 else 0)) = _
 rw [if_pos h]; decide +kernel)
theorem slt_no {a b : Wd} (h : b.v ≤ a.v) : negW (sltW a b) = kW 0 := Wd.ext_ (by
 show satI (-(if a.v < b.v then 1 else 0)) = _
 rw [if_neg (by omega)]; decide +kernel)
end Go.Proofs.YtihgijhjhmjolaaGreatDoor

/- Regions by slots, once more: quiet calls that are counted, a new list that is handed to the mill's tables; the mill's methods at exact cells. -/
namespace Go.Proofs.YtihgijhjhmjolaaGreatDoor
open Go.RowKit Go.Deep
set_option linter.unusedVariables false
section
variable {w6 w w' : World} {b k : Nat} {R : Nat → List Wd → List Value → Prop} {D U : List Nat} {cells : List (Addr × Value)}
theorem Sp.skip (h : Sp w6 b R D cells k w) (hc : Chg w w' []) (hR : ∀ c t, R k c t → R (k + 1) c t) : Sp w6 b R D cells (k + 1) w' :=
 ⟨(h.pl.mono hR).chg hc (by simp), h.chg.trans hc (by simp), by rw [dof_chg h.pl hc (by simp)]; exact h.sub, fun p hp => hc.cell (h.cell p hp) (by simp)⟩
end
def slv (g n : Nat) : Value := .slice (some ⟨g, 0, none⟩) n n
structure SpT (w6 : World) (b : Nat) (cs : List Wd) (ts : List Value) (T : TypeId) (L : List Value) (n : Nat) (D : List Nat) (cells : List (Addr × Value)) (k : Nat) (w : World) : Prop where
 sp : Sp w6 b (fun k c t => c = cs ∧ (k = 0 → t = ts)) D cells k w
 tb : 1 ≤ k → ∃ g, PlR w b (fun c t => c = cs ∧ t = ts ++ [slv g n]) ∧ w6.heap.size ≤ g ∧ Blk w g T L ∧ g ∉ dof w b
section
variable {w6 w w' : World} {b k n : Nat} {cs : List Wd} {ts : List Value} {T : TypeId} {L : List Value} {D U : List Nat} {cells : List (Addr × Value)}
theorem SpT.start (hp : PlR w6 b (fun c t => c = cs ∧ t = ts)) (hc : ∀ p ∈ cells, w6.cell? p.1 = some p.2) : SpT w6 b cs ts T L n D cells 0 w6.drew :=
 ⟨Sp.start (hp.mono fun c t h => ⟨h.1, fun _ => h.2⟩) hc, fun h => by omega⟩
theorem SpT.at_ (h : SpT w6 b cs ts T L n D cells k w) (i : Nat) (a : Addr) (v : Value) (hi : cells[i]? = some (a, v)) : w.cell? a = some v := h.sp.at_ i a v hi
theorem SpT.call (h : SpT w6 b cs ts T L n D cells k w) (hc : Chg w w' []) : SpT w6 b cs ts T L n D cells k w' := by
 refine ⟨h.sp.call hc, fun hk => ?_⟩
 obtain ⟨g, h1, h2, h3, h4⟩ := h.tb hk
 exact ⟨g, h1.chg hc (by simp), h2, h3.chg hc (by simp), by rw [dof_chg h1 hc (by simp)]; exact h4⟩
theorem SpT.hand (h : SpT w6 b cs ts T L n D cells 0 w) (ha : Apart w6 b D U cells) {g : Nat} (hg : w6.heap.size ≤ g) (hb : Blk w g T L) (hf : g ∉ dof w b)
 (hp : PlR w' b (fun c t => c = cs ∧ t = ts ++ [slv g n])) (ht : Turn w b w') : SpT w6 b cs ts T L n D cells 1 w' :=
 ⟨h.sp.eff ha (hp.mono fun c t h => ⟨h.1, fun h0 => by cases h0⟩) ht, fun _ => ⟨g, hp, hg, hb.chg ht.chg hf, ht.far hb.lt hf⟩⟩
def Reg.putsB (r : Reg) (n : Nat) (T : TypeId) : Bool := (List.range n).all fun i => match r.kd i with
 | .put j _ => (match r.kd j with | .new T' _ => T' != T | _ => true)
 | _ => true
theorem kdOf_put {m : Nat} {KL : List Kd} {olds : List (TypeId × List Value)} {i j : Nat} {c : List Value} (h : kdOf m KL olds i = .put j c) : i < m := by
 unfold kdOf at h
 by_cases hi : i < m
 · exact hi
 · rw [if_neg hi] at h
   split at h <;> cases h
theorem Reg.of_put {m : Nat} {ops : Array Oper} {a0 : Act} {VL : List Value} {NL : List (Nat → Value)} {KL : List Kd} {olds : List (TypeId × List Value)} {OL : List Nat} {E : List Nat} {S : Nat → World → Prop} {F : World → Nat → Prop} {i j : Nat} {c : List Value}
 (h : (Reg.of m ops a0 VL NL KL olds OL E S F).kd i = .put j c) : i < m := by
 have h' : kdOf m KL olds i = .put j c := h
 exact kdOf_put h'
theorem Reg.putsB_spec {r : Reg} {m : Nat} {T : TypeId} (h : r.putsB m T = true) (hlt : ∀ i j c, r.kd i = .put j c → i < m) : ∀ i j T' c0 c1, r.kd i = .put j c1 → r.kd j = .new T' c0 → T' ≠ T := by
 intro i j T' c0 c1 h1 h2
 unfold Reg.putsB at h
 have := List.all_eq_true.1 h i (List.mem_range.2 (hlt i j c1 h1))
 rw [h1] at this
 simp only [h2] at this
 simpa using this
theorem stands_t (r : Reg) (ha : Apart w6 b D U cells) (hS : r.S = SpT w6 b cs ts T L n D cells) (hF : r.F = Fp w6 b D U) (hB : r.B = 0) (hput : ∀ i j T' c0 c1, r.kd i = .put j c1 → r.kd j = .new T' c0 → T' ≠ T) : r.Stands := by
 refine ⟨fun n w o h => ?_, fun n w o g h hf => ?_, fun n w o h => ?_, fun n w w' g h hf _ ht hc hsz => ?_⟩
 · rw [hS] at h ⊢; exact h.call ((Chg.refl w []).alloc o)
 · rw [hS] at h; rw [hF] at hf ⊢
   exact ⟨hf.1, by rw [dof_chg h.sp.pl ((Chg.refl w []).alloc o) (by simp)]; exact hf.2.1, hf.2.2⟩
 · rw [hS] at h
   rw [hF, hB]
   have := h.sp.chg.size
   refine ⟨⟨fun hu => ?_, fun hm => ?_, .inr this⟩, Nat.zero_le _⟩
   · have := ha.lt _ hu; omega
   · rw [dof_chg h.sp.pl ((Chg.refl w []).alloc o) (by simp)] at hm
     have := h.sp.pl.lt _ hm; omega
 · rw [hS] at h ⊢
   rw [hF] at hf ⊢
   have hbg : b ∉ [g] := fun hm => by
    simp at hm; subst hm; exact hf.2.1 h.sp.pl.mem
   have hd := dof_chg h.sp.pl hc hbg
   refine ⟨⟨⟨h.sp.pl.chg hc (fun j hj hm => by simp at hm; subst hm; exact hf.2.1 hj), h.sp.chg.trans hc ?_, by rw [hd]; exact h.sp.sub, fun p hp => ?_⟩, fun hk => ?_⟩, fun g' h' => ⟨h'.1, by rw [hd]; exact h'.2.1, h'.2.2⟩⟩
   · intro j hj
     simp at hj
     subst hj
     exact hf.2.2.imp (fun h => List.mem_append_right _ h) id
   · exact hc.cell (h.sp.cell p hp) (by simp; intro e; exact hf.1 (e ▸ ha.cell p hp))
   · obtain ⟨q, h1, h2, h3, h4⟩ := h.tb hk
     obtain ⟨i, j, T', c0, c1, c, hk1, hk2, hb'⟩ := ht
     have hne : q ≠ g := h3.ne_ hb' (Ne.symm (hput i j T' c0 c1 hk1 hk2))
     exact ⟨q, h1.chg hc (fun j hj hm => by simp at hm; subst hm; exact hf.2.1 hj), h2, h3.chg hc (by simpa using hne), by rw [hd]; exact h4⟩
end
theorem cellm_calls (b m : Nat) (x : Wd) (cs : List Wd) (ts : List Value) (w : World) (hm : Hid (m = cs.length)) (h : PlR w b (fun c t => t = ts ∧ c = cs)) (hb : cs.length ≤ 1000) :
 Calls Tryz.prog 199 #[.pointer (some ⟨b, 0, none⟩), .int .i32 x.v] w fun e w' => e = .returned (.int .i64 m) ∧ PlR w' b (fun c t => t = ts ∧ c = cs ++ [x]) ∧ Turn w b w' := by
 obtain ⟨cs1, ts1, vc, vt, ⟨rfl, rfl⟩, hP⟩ := h
 refine (cell_calls b x _ _ _ _ w hP hb).mono ?_
 rintro e w' ⟨rfl, vc', hP', hc, hv⟩
 exact ⟨by rw [hm.out], ⟨_, _, _, _, ⟨rfl, rfl⟩, hP'⟩, turn_of hP hP' hc hv (.inl rfl)⟩
theorem getm_calls (b k : Nat) (x : Wd) (cs : List Wd) (ts : List Value) (w : World) (hk : cs[k]? = some x) (h : PlR w b (fun c t => t = ts ∧ c = cs)) (hb : cs.length ≤ 1000) :
 Calls Tryz.prog 203 #[.pointer (some ⟨b, 0, none⟩), .int .i64 k] w fun e w' => e = .returned (.int .i32 x.v) ∧ Chg w w' [] := by
 obtain ⟨cs1, ts1, vc, vt, ⟨rfl, rfl⟩, hP⟩ := h
 obtain ⟨hlt, hx⟩ := List.getElem?_eq_some_iff.1 hk
 refine (get_calls b k _ _ _ _ w hP hlt hb).mono ?_
 rintro e w' ⟨rfl, hc⟩
 exact ⟨by rw [hx], hc⟩
theorem setm_calls (b k : Nat) (x : Wd) (cs cs' : List Wd) (ts : List Value) (w : World) (hk : k < cs.length) (hs : cs.set k x = cs') (h : PlR w b (fun c t => t = ts ∧ c = cs)) (hb : cs.length ≤ 1000) :
 Calls Tryz.prog 205 #[.pointer (some ⟨b, 0, none⟩), .int .i64 k, .int .i32 x.v] w fun e w' => e = .returned (.tuple #[]) ∧ PlR w' b (fun c t => t = ts ∧ c = cs') ∧ Turn w b w' := by
 obtain ⟨cs1, ts1, vc, vt, ⟨rfl, rfl⟩, hP⟩ := h
 refine (set_calls b k x _ _ _ _ w hP hk hb).mono ?_
 rintro e w' ⟨rfl, hP', hc⟩
 rw [hs] at hP'
 exact ⟨rfl, ⟨_, _, _, _, ⟨rfl, rfl⟩, hP'⟩, turn_of hP hP' hc (.inl rfl) (.inl rfl)⟩
theorem tablem_calls (b m g n : Nat) (cs : List Wd) (ts : List Value) (w : World) (hm : Hid (m = ts.length)) (h : PlR w b (fun c t => c = cs ∧ t = ts)) (hb : ts.length ≤ 1000) :
 Calls Tryz.prog 206 #[.pointer (some ⟨b, 0, none⟩), .slice (some ⟨g, 0, none⟩) n n] w fun e w' => e = .returned (.int .i64 m) ∧ PlR w' b (fun c t => c = cs ∧ t = ts ++ [slv g n]) ∧ Turn w b w' := by
 obtain ⟨cs1, ts1, vc, vt, ⟨rfl, rfl⟩, hP⟩ := h
 refine (table_calls b _ rfl _ _ _ rfl _ _ _ _ w hP hb).mono ?_
 rintro e w' ⟨rfl, vt', hP', hc, hv⟩
 exact ⟨by rw [hm.out], ⟨_, _, _, _, ⟨rfl, rfl⟩, hP'⟩, turn_of hP hP' hc (.inl rfl) hv⟩
theorem atm_calls (b k i n g : Nat) (iw x : Wd) (l : List Wd) (T : TypeId) (ts : List Value) (R : List Wd → List Value → Prop) (w : World) (h : PlR w b R) (hR : ∀ c t, R c t → t = ts) (hk : ts[k]? = some (slv g n)) (hbl : Blk w g T (wds l)) (hn : n = l.length) (hi : iw.v = i) (hx : l[i]? = some x) (hb : ts.length ≤ 1000) (hl : l.length ≤ 1000) :
 Calls Tryz.prog 198 #[.pointer (some ⟨b, 0, none⟩), .int .i64 k, .int .i32 iw.v] w fun e w' => e = .returned (.int .i32 x.v) ∧ Chg w w' [] := by
 obtain ⟨cs1, ts1, vc, vt, hr, hP⟩ := h
 obtain rfl := hR _ _ hr
 obtain ⟨hlt, hx⟩ := List.getElem?_eq_some_iff.1 hx
 rw [hi]
 refine (at_calls b k i l _ _ _ _ _ w hP hk (Sl.blk' hbl (by simp [wds, hn]) (Nat.le_refl _)) hlt hb hl).mono ?_
 rintro e w' ⟨rfl, hc⟩
 exact ⟨by rw [hx], hc⟩
end Go.Proofs.YtihgijhjhmjolaaGreatDoor
