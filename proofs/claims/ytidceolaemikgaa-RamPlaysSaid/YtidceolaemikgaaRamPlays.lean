/- The walk of the law RamPlays: whatever is stored and loaded, the memory answers as the reference's list does. -/
import Derived.Test.YtidceolaemikgaaRamAwake
namespace Go.Proofs.Ytidceolaemikgaa
open Go.RowKit Go.Deep

/-- A call of the law: Store of X at Addr, or Load of it. -/
structure Mv where
  s : Bool
  a : Int
  x : Int
/-- The words behind one call. -/
def wstep (ws : List Int) (m : Mv) : List Int := if m.s then st ws m.a m.x else ws
/-- The words behind the first k calls. -/
def wsAt (ws : List Int) (l : Nat → Mv) : Nat → List Int
  | 0 => ws
  | k + 1 => wstep (wsAt ws l k) (l k)
theorem length_wsAt (ws : List Int) (l : Nat → Mv) (k : Nat) : (wsAt ws l k).length = ws.length := by
  induction k with
  | zero => rfl
  | succ k ih => unfold wsAt wstep; split
                 · rw [length_st, ih]
                 · exact ih

/-- The slice of calls that came in. -/
def Mvs (w : World) (A : Option Addr) (n : Nat) (l : Nat → Mv) : Prop :=
  ∀ k, k < n → ∃ b off, A = some ⟨b, off, none⟩ ∧ w.cell? ⟨b, off + k * 3, none⟩ = some (.bool (l k).s) ∧ w.cell? ⟨b, off + k * 3 + 1, none⟩ = some (.int .i32 (l k).a) ∧ w.cell? ⟨b, off + k * 3 + 2, none⟩ = some (.int .i32 (l k).x)
theorem Mvs.keep {w w' : World} {A : Option Addr} {n : Nat} {l : Nat → Mv} (h : Mvs w A n l) (hc : Chg w w' []) : Mvs w' A n l := by
  intro k hk
  obtain ⟨b, off, hA, h0, h1, h2⟩ := h k hk
  exact ⟨b, off, hA, hc.cell h0 (by simp), hc.cell h1 (by simp), hc.cell h2 (by simp)⟩

set_option maxHeartbeats 400000 in
theorem plays_long (A B : Option Addr) (n c m d : Nat) (w : World) (hn : n ≤ maxLen) (hm : m ≤ maxLen) (h : 200 < m ∨ 3000 < n) :
    Calls Try.prog 3 #[.slice A n c, .slice B m d] w fun e w' => e = .returned (.bool true) ∧ Chg w w' [] := by
  unfold maxLen at hn hm
  by_cases h1 : 200 < m
  · clear h
    go_enter Try.func3, Try.ntmps3
    go_wp2_with (go_at_call 8; refine (awake15 _).mono ?_; rintro e w1 ⟨rfl, hc⟩)
    go_ret
    exact ⟨rfl, hc⟩
  · have h2 : 3000 < n := by omega
    clear h
    go_enter Try.func3, Try.ntmps3
    go_wp2_with (go_at_call 8; refine (awake15 _).mono ?_; rintro e w1 ⟨rfl, hc⟩)
    go_ret
    exact ⟨rfl, hc⟩

set_option maxHeartbeats 400000 in
theorem plays_refused (A B : Option Addr) (n c m d : Nat) (w : World) (hn : n ≤ 3000) (hm : m ≤ 200) (h : 2048 < n) :
    Calls Try.prog 3 #[.slice A n c, .slice B m d] w fun e w' => e = .returned (.bool true) ∧ Chg w w' [] := by
  go_enter Try.func3, Try.ntmps3
  go_wp2_with (first
    | (go_at_call 9; refine (new_long _ _ _ _ h (by unfold maxLen; omega)).mono ?_; rintro e w1 ⟨rfl, rfl⟩)
    | (go_at_call 8; refine (awake15 _).mono ?_; rintro e w1 ⟨rfl, hc⟩))
  go_ret
  exact ⟨rfl, hc⟩

/-- What holds at the head of a round. -/
def PlaysRel (w : World) (ws : List Int) (n : Nat) (l : Nat → Mv) (b r : Nat) (v i : Value) (wr : World) : Prop :=
  ∃ k, k ≤ n ∧ i = .int .i64 (k : Int) ∧ (∃ A c, v = .slice A ws.length c ∧ Sl wr v (i32s (wsAt ws l k)) ∧ (0 < ws.length → ∀ ad, A = some ad → ad.block ≠ r)) ∧ IsRam wr b r (wsAt ws l k) ∧ Chg w wr [] ∧ w.heap.size ≤ r

set_option maxRecDepth 100000 in
set_option maxHeartbeats 2000000 in
theorem plays_yes (A B : Option Addr) (c n d : Nat) (ws : List Int) (l : Nat → Mv) (w : World) (hs : Sl w (.slice A ws.length c) (i32s ws)) (hn : ws.length ≤ 2048) (hm : n ≤ 200) (hl : Mvs w B n l)
    (hb : ∀ k, k < n → -2147483648 ≤ (l k).a ∧ (l k).a ≤ 2147483647) :
    Calls Try.prog 3 #[.slice A ws.length c, .slice B n d] w fun e w' => e = .returned (.bool true) ∧ Chg w w' [] := by
  have HL := hide hl
  have HS := hide hs
  have HBd := hide hb
  clear hl hs hb
  go_enter Try.func3, Try.ntmps3
  go_wp2_with (go_at_call 9; refine (new_any _ _ ws _ hn HS.out).mono ?_; rintro e w1 ⟨b, r, rfl, hr, hb, hr', hc1⟩; have HR := hide hr; clear hr; have HC := hide hc1; clear hc1)
  have hstart : PlaysRel w ws n l b r (.slice A ws.length c) (.int .i64 (0 : Nat)) w1 := by
    refine ⟨0, Nat.zero_le _, rfl, ⟨A, c, rfl, HS.out.keep HC.out, ?_⟩, HR.out, HC.out, hr'⟩
    intro h0 ad hA
    subst hA
    obtain ⟨b', off', e, hcell, hlt⟩ := HS.out.at_ (i32s_at ws 0 h0)
    injection e with e
    subst e
    show b' ≠ r
    omega
  go_loopw [7, 8] (fun v i wr => PlaysRel w ws n l b r v i wr) (fun _ i _ => n - (intOf i).toNat)
  case atStart => exact hstart
  case round =>
    obtain ⟨k, hk, rfl, ⟨A', c', rfl, hsl, hA'⟩, hram, hchg, hrge⟩ := hrel
    have hlen := length_wsAt ws l k
    by_cases hlt : k < n
    · obtain ⟨lb, lo, rfl, g0, g1, g2⟩ := (HL.out.keep hchg) k hlt
      obtain ⟨ha0, ha1⟩ := HBd.out k hlt
      have hlbr : lb ≠ r := by
        obtain ⟨_, _, e, g, _, _⟩ := HL.out k hlt
        injection e with e; injection e with e _ _; subst e
        have h3 := World.block_lt_of_cell? w _ g
        have h4 : lb < w.heap.size := h3
        omega
      have hnext : wsAt ws l (k + 1) = wstep (wsAt ws l k) (l k) := rfl
      unfold wstep at hnext
      generalize l k = m at *
      obtain ⟨s, a, x⟩ := m
      dsimp only at g0 g1 g2 ha0 ha1 hnext
      generalize wsAt ws l k = zs at *
      have Hlen := hide hlen
      have HSl := hide hsl
      have HR := hide hram
      have HC2 := hide hchg
      have HA2 := hide hA'
      clear hlen hsl hram hchg hA'
      by_cases hs : s = true
      · subst hs
        rw [if_pos rfl] at hnext
        have HN := hide hnext
        clear hnext
        have kr : ∀ j, j ≠ r → j ∉ [r] := by simp
        have hzl : (st zs a x).length = ws.length := (length_st zs a x).trans Hlen.out
        have HZl := hide hzl
        have HI := hide (inB_st zs a a x)
        clear hzl
        by_cases hin : inB zs a = true
        · have HIn := hide hin
          have Hyz := hide (HI.out.trans hin)
          clear hin
          go_wp2_with fail
          go_region_held3 (fun w' => w'.cell? ⟨lb, lo + k * 3 + 1, none⟩ = some (.int .i32 a) ∧ w'.cell? ⟨lb, lo + k * 3 + 2, none⟩ = some (.int .i32 x)) (first | exact ⟨g1, g2⟩ | exact ⟨hc2.cell g1 (by simp), hc2.cell g2 (by simp)⟩)
            (first | (go_at_call 10; refine (refstore_yes_n A' ws.length c' zs a x _ Hlen.out.symm (Sl.drew HSl.out) (by omega) HIn.out).mono ?_; rintro e w2 ⟨g, c'', rfl, hsl2, hg, hc2⟩))
          have hc2 := hc2.from_drew
          have hgr2 : g ≠ r := by have h1 := HR.out.row.lt; have h2 : wr.heap.size ≤ g := hg; omega
          have hA2 : 0 < ws.length → ∀ ad, some (⟨g, 0, none⟩ : Addr) = some ad → ad.block ≠ r := by intro _ ad e; injection e with e; subst e; exact hgr2
          replace g0 := hc2.cell g0 (by simp)
          replace g1 := hc2.cell g1 (by simp)
          replace g2 := hc2.cell g2 (by simp)
          have HR2 := hide (HR.out.chg hc2 (by simp) (by simp))
          have HC3 := hide (HC2.out.trans hc2 (by simp))
          have HSl2 := hide hsl2
          have hbb0 : (true != true) = false := by simp
          clear hsl2 hc2
          go_wp2_with fail
          go_region_held3 (fun w' => w'.cell? ⟨lb, lo + k * 3 + 1, none⟩ = some (.int .i32 a) ∧ w'.cell? ⟨lb, lo + k * 3 + 2, none⟩ = some (.int .i32 x)) (first | exact ⟨g1, g2⟩ | exact ⟨hc4.cell g1 (kr _ hlbr), hc4.cell g2 (kr _ hlbr)⟩)
            (first | (go_at_call 11; refine (store_any b r zs a x _ (IsRam.drew HR2.out) ha0 ha1).mono ?_; rintro e w4 ⟨he, hr4, hc4⟩; rw [HIn.out] at he; subst he))
          have hc4 := hc4.from_drew
          replace g0 := hc4.cell g0 (kr _ hlbr)
          replace g1 := hc4.cell g1 (kr _ hlbr)
          replace g2 := hc4.cell g2 (kr _ hlbr)
          have HR4 := hide hr4
          have HSl4 := hide (HSl2.out.chg0 hc4 (by
            intro h0 ad n' c'' e
            injection e with e _ _
            exact kr _ (hA2 (by rw [length_i32s, length_st, Hlen.out] at h0; exact h0) ad e)))
          have HC4 := hide (HC3.out.trans hc4 (by intro j hj; right; have hjr : j = r := by simpa using hj
                                                  rw [hjr]; exact hrge))
          clear hr4 hc4
          have hxx : (ld (st zs a x) a != ld (st zs a x) a) = false := by simp
          have HYz : Hid (ld (st zs a x) a = ld (st zs a x) a) := rfl
          generalize hys : ld (st zs a x) a = ys at *
          have HYs := hide hys
          clear hys HYz
          go_wp2_with fail
          refine (load_any b r (st zs a x) a _ HR4.out ha0 ha1).mono ?_
          rintro e w5 ⟨he, hc5⟩
          rw [HYs.out, Hyz.out] at he
          subst he
          replace g0 := hc5.cell g0 (by simp)
          replace g1 := hc5.cell g1 (by simp)
          replace g2 := hc5.cell g2 (by simp)
          go_wp2_with fail
          refine (refload_n (some ⟨g, 0, none⟩) ws.length c'' (st zs a x) a _ HZl.out.symm (HSl4.out.keep hc5) (by omega) ha0 ha1).mono ?_
          rintro e w6 ⟨he, rfl⟩
          rw [HYs.out, Hyz.out] at he
          subst he
          go_wp2
          go_roundw
          case rel => exact ⟨k + 1, by omega, by go_num, ⟨some ⟨g, 0, none⟩, c'', rfl, by rw [HN.out]; exact HSl4.out.keep hc5, hA2⟩, by rw [HN.out]; exact HR4.out.chg hc5 (by simp) (by simp), HC4.out.trans hc5 (by simp), hrge⟩
          case measure => simp [intOf]; omega
        · have hin : inB zs a = false := by simpa using hin
          have HIn := hide hin
          have Hyz := hide (HI.out.trans hin)
          have hst : st zs a x = zs := by
            unfold inB at hin
            have := of_decide_eq_false hin
            unfold st
            rw [if_neg this]
          clear hin
          go_wp2_with fail
          go_region_held3 (fun w' => w'.cell? ⟨lb, lo + k * 3 + 1, none⟩ = some (.int .i32 a) ∧ w'.cell? ⟨lb, lo + k * 3 + 2, none⟩ = some (.int .i32 x)) (first | exact ⟨g1, g2⟩)
            (first | (go_at_call 10; refine (refstore_no_n A' ws.length c' zs a x _ Hlen.out.symm (by omega) ha0 ha1 HIn.out).mono ?_; rintro e w2 ⟨rfl, rfl⟩))
          have hc2 : Chg wr wr.drew [] := (Chg.refl _ _).drew
          have hsl2 : Sl wr.drew (.slice A' ws.length c') (i32s (st zs a x)) := by rw [hst]; exact HSl.out
          have hA2 := HA2.out
          clear hst
          replace g0 := hc2.cell g0 (by simp)
          replace g1 := hc2.cell g1 (by simp)
          replace g2 := hc2.cell g2 (by simp)
          have HR2 := hide (HR.out.chg hc2 (by simp) (by simp))
          have HC3 := hide (HC2.out.trans hc2 (by simp))
          have HSl2 := hide hsl2
          have hbb0 : (false != false) = false := by simp
          clear hsl2 hc2
          go_wp2_with fail
          go_region_held3 (fun w' => w'.cell? ⟨lb, lo + k * 3 + 1, none⟩ = some (.int .i32 a) ∧ w'.cell? ⟨lb, lo + k * 3 + 2, none⟩ = some (.int .i32 x)) (first | exact ⟨g1, g2⟩ | exact ⟨hc4.cell g1 (kr _ hlbr), hc4.cell g2 (kr _ hlbr)⟩)
            (first | (go_at_call 11; refine (store_any b r zs a x _ (IsRam.drew HR2.out) ha0 ha1).mono ?_; rintro e w4 ⟨he, hr4, hc4⟩; rw [HIn.out] at he; subst he))
          have hc4 := hc4.from_drew
          replace g0 := hc4.cell g0 (kr _ hlbr)
          replace g1 := hc4.cell g1 (kr _ hlbr)
          replace g2 := hc4.cell g2 (kr _ hlbr)
          have HR4 := hide hr4
          have HSl4 := hide (HSl2.out.chg0 hc4 (by
            intro h0 ad n' c'' e
            injection e with e _ _
            exact kr _ (hA2 (by rw [length_i32s, length_st, Hlen.out] at h0; exact h0) ad e)))
          have HC4 := hide (HC3.out.trans hc4 (by intro j hj; right; have hjr : j = r := by simpa using hj
                                                  rw [hjr]; exact hrge))
          clear hr4 hc4
          have hxx : (ld (st zs a x) a != ld (st zs a x) a) = false := by simp
          have HYz : Hid (ld (st zs a x) a = ld (st zs a x) a) := rfl
          generalize hys : ld (st zs a x) a = ys at *
          have HYs := hide hys
          clear hys HYz
          go_wp2_with fail
          refine (load_any b r (st zs a x) a _ HR4.out ha0 ha1).mono ?_
          rintro e w5 ⟨he, hc5⟩
          rw [HYs.out, Hyz.out] at he
          subst he
          replace g0 := hc5.cell g0 (by simp)
          replace g1 := hc5.cell g1 (by simp)
          replace g2 := hc5.cell g2 (by simp)
          go_wp2_with fail
          refine (refload_n A' ws.length c' (st zs a x) a _ HZl.out.symm (HSl4.out.keep hc5) (by omega) ha0 ha1).mono ?_
          rintro e w6 ⟨he, rfl⟩
          rw [HYs.out, Hyz.out] at he
          subst he
          go_wp2
          go_roundw
          case rel => exact ⟨k + 1, by omega, by go_num, ⟨A', c', rfl, by rw [HN.out]; exact HSl4.out.keep hc5, hA2⟩, by rw [HN.out]; exact HR4.out.chg hc5 (by simp) (by simp), HC4.out.trans hc5 (by simp), hrge⟩
          case measure => simp [intOf]; omega
      · obtain rfl : s = false := by simpa using hs
        rw [if_neg (by simp)] at hnext
        have HN := hide hnext
        clear hnext hs
        have hbb : (inB zs a != inB zs a) = false := by simp
        have hxx : (ld zs a != ld zs a) = false := by simp
        generalize hy : ld zs a = y at *
        have HY := hide hy
        generalize hz : inB zs a = z at *
        have HZ := hide hz
        clear hy hz
        go_wp2_with fail
        refine (load_any b r zs a _ HR.out ha0 ha1).mono ?_
        rintro e w2 ⟨he, hc2⟩
        rw [HY.out, HZ.out] at he
        subst he
        replace g0 := hc2.cell g0 (by simp)
        replace g1 := hc2.cell g1 (by simp)
        replace g2 := hc2.cell g2 (by simp)
        go_wp2_with fail
        refine (refload_n A' ws.length c' zs a _ Hlen.out.symm (HSl.out.keep hc2) (by omega) ha0 ha1).mono ?_
        rintro e w3 ⟨he, rfl⟩
        rw [HY.out, HZ.out] at he
        subst he
        go_wp2
        go_roundw
        case rel => exact ⟨k + 1, by omega, by go_num, ⟨A', c', rfl, by rw [HN.out]; exact HSl.out.keep hc2, HA2.out⟩, by rw [HN.out]; exact HR.out.chg hc2 (by simp) (by simp), HC2.out.trans hc2 (by simp), hrge⟩
        case measure => simp [intOf]; omega
    · generalize wsAt ws l k = zs at *
      have Hlen := hide hlen
      have HSl := hide hsl
      have HR := hide hram
      have HC2 := hide hchg
      clear hlen hsl hram hchg hA'
      have hll : ((ws.length : Int) == (ws.length : Int)) = true := by simp
      go_wp2_with fail
      refine (len_any b r zs _ HR.out).mono ?_
      rintro e w2 ⟨rfl, rfl⟩
      rw [Hlen.out]
      go_wp2_with fail
      refine (all_any b r zs _ HR.out).mono ?_
      rintro e w3 ⟨q, rfl, hq, hqge, hc3⟩
      rw [Hlen.out]
      go_wp2_with fail
      refine (same_n _ _ ws.length ws.length _ _ zs zs _ (Sl.blk' hq (by rw [length_i32s, Hlen.out]) (Nat.le_refl _)) (HSl.out.keep hc3) Hlen.out.symm Hlen.out.symm rfl (by omega)).mono ?_
      rintro e w4 ⟨he, j, rfl⟩
      rw [decide_eq_true rfl] at he
      subst he
      have hc5 := ((HC2.out.trans hc3 (by simp)).drewN j)
      go_wp2_with (go_at_call 8; refine (awake15 _).mono ?_; rintro e w5 ⟨rfl, hcA⟩)
      go_ret
      exact ⟨rfl, hc5.trans hcA (by simp)⟩

end Go.Proofs.Ytidceolaemikgaa
