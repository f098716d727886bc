/- The walks of the laws CodeBack and CodeApart. -/
import Derived.Test.YtidceolaemikgaaCodeBackLaw
namespace Go.Proofs.Ytidceolaemikgaa
open Go.RowKit Go.Deep
set_option linter.unusedVariables false

/-- The second half of CodeBack: what is decoded is encoded to its word. -/
def BackPost (w : World) (e : Ending) (w' : World) : Prop := e = .returned (.bool true) ∧ Chg w w' []

set_option maxRecDepth 100000 in
set_option maxHeartbeats 4000000 in
theorem codeback_any (op x y z u n : Int) (w : World) (hn0 : 0 ≤ n) (hn1 : n ≤ 4294967295) :
    Calls Try.prog 6 #[insV op x y z u, .int .u32 n] w fun e w' => BackPost w e w' := by
  have hb0 := Blk.new w 43 (insC op x y z u)
  have hc0 := (Chg.refl w []).alloc (.cells (insC op x y z u).toArray 43)
  have hrange := encV_range op x y z u
  have HENC : Hid (∀ W : World, Calls Try.prog 17 #[insV op x y z u] W fun e w' => e = .returned (.tuple #[.int .u32 (encV op x y z u), .int .i64 (chk op x y z u)]) ∧ Chg W w' []) := fun W => encode_any op x y z u W
  rcases Decidable.em (chk op x y z u = 0) with hk | hk
  all_goals rcases dec_cases n hn0 with ⟨e1, he1, hd⟩ | ⟨o, x', y', z', u', hd, hk', he'⟩
  · skip
    have HD := hide hd
    have hne : (e1 != 0) = true := by rw [bne_iff_ne]; exact he1
    clear hd he1
    have HDE := hide (dec_encV hk)
    have HK := hide hk
    clear hk
    obtain ⟨E, hE⟩ : ∃ E, encV op x y z u = E := ⟨_, rfl⟩
    rw [hE] at hrange HDE
    replace hE := hide hE
    obtain ⟨hr0, hr1⟩ := hrange
    go_enter Try.func6, Try.ntmps6
    go_wp2_with fail
    generalize w.heap.size = b at *
    generalize w.alloc (.cells #[.int .i64 op, .int .i64 x, .int .i64 y, .int .i64 z, .int .i64 u] 43) = w0 at *
    refine (HENC.out _).mono ?_
    rintro e w1 ⟨he, hc1⟩
    rw [hE.out, HK.out] at he
    subst he
    replace hb0 := hb0.chg hc1 (by simp)
    replace hc0 := hc0.trans hc1 (by simp)
    clear hc1
    go_wp2_with fail
    refine (decode_any E _ hr0 hr1).mono ?_
    rintro e w2 ⟨he, hc1⟩
    rw [HDE.out] at he
    subst he
    replace hb0 := (hb0.chg hc1 (by simp)).alloc (.cells (insC op x y z u).toArray 43)
    replace hc0 := (hc0.trans hc1 (by simp)).alloc (.cells (insC op x y z u).toArray 43)
    clear hc1
    obtain ⟨i0, i1, i2, i3, i4⟩ := blk5 hb0
    have hbl := hb0.lt
    clear hb0
    have HC := hide hc0
    clear hc0
    go_wp2_with fail
    refine (decode_any n _ hn0 hn1).mono ?_
    rintro e w3 ⟨he, hc1⟩
    rw [HD.out] at he
    subst he
    have HC3 := hide (HC.out.trans hc1 (by simp))
    clear hc1
    go_wp2_with (go_at_call 23; refine (awake13 _).mono ?_; rintro e w9 ⟨rfl, hcX⟩)
    go_ret
    exact ⟨rfl, ((HC3.out.alloc _).trans hcX (by simp))⟩
  · skip
    have HD := hide hd
    have HEE := hide (encV_of hk')
    have HK' := hide hk'
    have HE' := hide he'
    have hnn : (n == n) = true := by simp
    clear hd hk' he'
    have HDE := hide (dec_encV hk)
    have HK := hide hk
    clear hk
    obtain ⟨E, hE⟩ : ∃ E, encV op x y z u = E := ⟨_, rfl⟩
    rw [hE] at hrange HDE
    replace hE := hide hE
    obtain ⟨hr0, hr1⟩ := hrange
    go_enter Try.func6, Try.ntmps6
    go_wp2_with fail
    generalize w.heap.size = b at *
    generalize w.alloc (.cells #[.int .i64 op, .int .i64 x, .int .i64 y, .int .i64 z, .int .i64 u] 43) = w0 at *
    refine (HENC.out _).mono ?_
    rintro e w1 ⟨he, hc1⟩
    rw [hE.out, HK.out] at he
    subst he
    replace hb0 := hb0.chg hc1 (by simp)
    replace hc0 := hc0.trans hc1 (by simp)
    clear hc1
    go_wp2_with fail
    refine (decode_any E _ hr0 hr1).mono ?_
    rintro e w2 ⟨he, hc1⟩
    rw [HDE.out] at he
    subst he
    replace hb0 := (hb0.chg hc1 (by simp)).alloc (.cells (insC op x y z u).toArray 43)
    replace hc0 := (hc0.trans hc1 (by simp)).alloc (.cells (insC op x y z u).toArray 43)
    clear hc1
    obtain ⟨i0, i1, i2, i3, i4⟩ := blk5 hb0
    have hbl := hb0.lt
    clear hb0
    have HC := hide hc0
    clear hc0
    go_wp2_with fail
    refine (decode_any n _ hn0 hn1).mono ?_
    rintro e w3 ⟨he, hc1⟩
    rw [HD.out] at he
    subst he
    have HC3 := hide ((HC.out.trans hc1 (by simp)).alloc (.cells (insC o x' y' z' u').toArray 43))
    have hb3 := Blk.new w3 43 (insC o x' y' z' u')
    clear hc1
    go_wp2_with fail
    generalize w3.heap.size = b3 at *
    generalize w3.alloc (.cells #[.int .i64 o, .int .i64 x', .int .i64 y', .int .i64 z', .int .i64 u'] 43) = w4 at *
    refine (encode_any o x' y' z' u' _).mono ?_
    rintro e w5 ⟨he, hc1⟩
    rw [HEE.out, HE'.out, HK'.out] at he
    subst he
    replace hb3 := hb3.chg hc1 (by simp)
    have HC5 := hide (HC3.out.trans hc1 (by simp))
    obtain ⟨j0, j1, j2, j3, j4⟩ := blk5 hb3
    have hbl3 := hb3.lt
    clear hc1 hb3
    go_wp2_with fail
    refine (check_any o x' y' z' u' _).mono ?_
    rintro e w6 ⟨he, hc1⟩
    rw [HK'.out] at he
    subst he
    have HC6 := hide (HC5.out.trans hc1 (by simp))
    clear hc1
    go_wp2_with (go_at_call 23; refine (awake13 _).mono ?_; rintro e w9 ⟨rfl, hcX⟩)
    go_ret
    exact ⟨rfl, HC6.out.trans hcX (by simp)⟩
  · skip
    have HD := hide hd
    have hne : (e1 != 0) = true := by rw [bne_iff_ne]; exact he1
    clear hd he1
    have hkb : (chk op x y z u != 0) = true := by rw [bne_iff_ne]; exact hk
    obtain ⟨K, hK⟩ : ∃ K, chk op x y z u = K := ⟨_, rfl⟩
    rw [hK] at hkb
    replace hK := hide hK
    clear hk
    go_enter Try.func6, Try.ntmps6
    go_wp2_with fail
    generalize w.heap.size = b at *
    generalize w.alloc (.cells #[.int .i64 op, .int .i64 x, .int .i64 y, .int .i64 z, .int .i64 u] 43) = w0 at *
    refine (HENC.out _).mono ?_
    rintro e w1 ⟨he, hc1⟩
    rw [hK.out] at he
    subst he
    have HC := hide (hc0.trans hc1 (by simp))
    clear hc0 hc1 hb0
    go_wp2_with fail
    refine (decode_any n _ hn0 hn1).mono ?_
    rintro e w3 ⟨he, hc1⟩
    rw [HD.out] at he
    subst he
    have HC3 := hide (HC.out.trans hc1 (by simp))
    clear hc1
    go_wp2_with (go_at_call 23; refine (awake13 _).mono ?_; rintro e w9 ⟨rfl, hcX⟩)
    go_ret
    exact ⟨rfl, ((HC3.out.alloc _).trans hcX (by simp))⟩
  · skip
    have HD := hide hd
    have HEE := hide (encV_of hk')
    have HK' := hide hk'
    have HE' := hide he'
    have hnn : (n == n) = true := by simp
    clear hd hk' he'
    have hkb : (chk op x y z u != 0) = true := by rw [bne_iff_ne]; exact hk
    obtain ⟨K, hK⟩ : ∃ K, chk op x y z u = K := ⟨_, rfl⟩
    rw [hK] at hkb
    replace hK := hide hK
    clear hk
    go_enter Try.func6, Try.ntmps6
    go_wp2_with fail
    generalize w.heap.size = b at *
    generalize w.alloc (.cells #[.int .i64 op, .int .i64 x, .int .i64 y, .int .i64 z, .int .i64 u] 43) = w0 at *
    refine (HENC.out _).mono ?_
    rintro e w1 ⟨he, hc1⟩
    rw [hK.out] at he
    subst he
    have HC := hide (hc0.trans hc1 (by simp))
    clear hc0 hc1 hb0
    go_wp2_with fail
    refine (decode_any n _ hn0 hn1).mono ?_
    rintro e w3 ⟨he, hc1⟩
    rw [HD.out] at he
    subst he
    have HC3 := hide ((HC.out.trans hc1 (by simp)).alloc (.cells (insC o x' y' z' u').toArray 43))
    have hb3 := Blk.new w3 43 (insC o x' y' z' u')
    clear hc1
    go_wp2_with fail
    generalize w3.heap.size = b3 at *
    generalize w3.alloc (.cells #[.int .i64 o, .int .i64 x', .int .i64 y', .int .i64 z', .int .i64 u'] 43) = w4 at *
    refine (encode_any o x' y' z' u' _).mono ?_
    rintro e w5 ⟨he, hc1⟩
    rw [HEE.out, HE'.out, HK'.out] at he
    subst he
    replace hb3 := hb3.chg hc1 (by simp)
    have HC5 := hide (HC3.out.trans hc1 (by simp))
    obtain ⟨j0, j1, j2, j3, j4⟩ := blk5 hb3
    have hbl3 := hb3.lt
    clear hc1 hb3
    go_wp2_with fail
    refine (check_any o x' y' z' u' _).mono ?_
    rintro e w6 ⟨he, hc1⟩
    rw [HK'.out] at he
    subst he
    have HC6 := hide (HC5.out.trans hc1 (by simp))
    clear hc1
    go_wp2_with (go_at_call 23; refine (awake13 _).mono ?_; rintro e w9 ⟨rfl, hcX⟩)
    go_ret
    exact ⟨rfl, HC6.out.trans hcX (by simp)⟩

/-- CodeApart. -/
theorem struct_ne {op x y z u op' x' y' z' u' : Int} (h : ¬ (op = op' ∧ x = x' ∧ y = y' ∧ z = z' ∧ u = u')) : True := trivial

end Go.Proofs.Ytidceolaemikgaa
