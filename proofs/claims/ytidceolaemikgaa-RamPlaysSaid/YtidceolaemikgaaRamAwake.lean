/- The walk of layer 15's 'awake': the page's example, and who is nobody. -/
import Derived.Test.YtidceolaemikgaaRamSame
namespace Go.Proofs.Ytidceolaemikgaa
open Go.RowKit Go.Deep

/-- A memory that nobody made: no words, not live. -/
def Odd (w : World) (b : Nat) : Prop := Blk w b 53 [.slice none 0 0, .bool false]

set_option maxHeartbeats 400000 in
theorem load_odd (b : Nat) (a : Int) (w : World) (h : Odd w b) (ha0 : 0 ≤ a) (ha1 : a ≤ 2147483647) :
    Calls Try.prog 12 #[.pointer (some ⟨b, 0, none⟩), .int .i32 a] w fun e w' => e = .returned (.tuple #[.int .i32 0, .bool false]) ∧ Chg w w' [] := by
  have hf : Chg w (w.alloc (.cells #[.int .i32 0] 21)) [] := (Chg.refl w []).alloc _
  have hb := Blk.lt h
  have hc0 := Blk.cell' h (i := 0) rfl
  clear h
  go_enter Try.func12, Try.ntmps12
  go_wp2
  go_ret2
  exact ⟨rfl, hf⟩
set_option maxHeartbeats 400000 in
theorem store_odd (b : Nat) (a x : Int) (w : World) (h : Odd w b) (ha0 : 0 ≤ a) (ha1 : a ≤ 2147483647) :
    Calls Try.prog 11 #[.pointer (some ⟨b, 0, none⟩), .int .i32 a, .int .i32 x] w fun e w' => e = .returned (.bool false) ∧ Chg w w' [] := by
  have hf : Chg w (w.alloc (.cells #[.int .i32 x] 21)) [] := (Chg.refl w []).alloc _
  have hb := Blk.lt h
  have hc0 := Blk.cell' h (i := 0) rfl
  clear h
  go_enter Try.func11, Try.ntmps11
  go_wp2
  go_ret
  exact ⟨rfl, hf⟩
set_option maxHeartbeats 400000 in
theorem len_odd (b : Nat) (w : World) (h : Odd w b) :
    Calls Try.prog 14 #[.pointer (some ⟨b, 0, none⟩)] w fun e w' => e = .returned (.int .i64 0) ∧ w = w' := by
  have hc0 := Blk.cell' h (i := 0) rfl
  clear h
  go_enter Try.func14, Try.ntmps14
  go_wp2
  go_ret
  exact ⟨rfl, rfl⟩
set_option maxHeartbeats 400000 in
theorem all_odd (b : Nat) (w : World) (h : Odd w b) :
    Calls Try.prog 16 #[.pointer (some ⟨b, 0, none⟩)] w fun e w' => e = .returned (.slice none 0 0) ∧ w = w' := by
  have hc1 := Blk.cell' h (i := 1) rfl
  clear h
  go_enter Try.func16, Try.ntmps16
  go_wp2
  go_ret
  exact ⟨rfl, rfl⟩

theorem ex1 : ld [1, 2] 1 = 2 := by decide
theorem ex2 : inB [1, 2] 1 = true := by decide
theorem ex3 : ld [1, 2] 2 = 0 := by decide
theorem ex4 : inB [1, 2] 2 = false := by decide
set_option maxHeartbeats 1000000 in
theorem awake15 (w : World) : Calls Try.prog 8 #[] w fun e w' => e = .returned (.bool true) ∧ Chg w w' [] := by
  go_enter Try.func8, Try.ntmps8
  go_wp2_with fail
  refine (new_any (some ⟨w.heap.size, 0, none⟩) 2 [1, 2] _ (by simp) (Sl.blk' (Blk.new w _ [.int .i32 1, .int .i32 2]) rfl (by simp))).mono ?_
  rintro e w1 ⟨b, r, rfl, hr, _, _, hc1⟩
  have hc : Chg w w1 [] := ((Chg.refl w []).alloc _).trans hc1 (by simp)
  clear hc1
  go_wp2_with fail
  refine (load_any b r [1, 2] 1 _ hr (by omega) (by omega)).mono ?_
  rintro e w2 ⟨he, hc2⟩
  rw [ex1, ex2] at he
  subst he
  replace hr := hr.chg hc2 (by simp) (by simp)
  replace hc := hc.trans hc2 (by simp)
  clear hc2
  go_wp2_with fail
  refine (load_any b r [1, 2] 2 _ hr (by omega) (by omega)).mono ?_
  rintro e w3 ⟨he, hc3⟩
  rw [ex3, ex4] at he
  subst he
  replace hc := hc.trans hc3 (by simp)
  clear hc3 hr
  have ho : Odd (w3.alloc (.cells #[.slice none 0 0, .bool false] 53)) w3.heap.size := Blk.new _ _ _
  replace hc := hc.alloc (.cells #[.slice none 0 0, .bool false] 53)
  go_wp2_with fail
  generalize w3.heap.size = q at *
  refine (load_nil 0 _ (by omega) (by omega)).mono ?_
  rintro e w4 ⟨rfl, hc4⟩
  replace ho := Blk.chg ho hc4 (by simp)
  replace hc := hc.trans hc4 (by simp)
  clear hc4
  go_wp2_with fail
  refine (load_odd q 0 _ ho (by omega) (by omega)).mono ?_
  rintro e w5 ⟨rfl, hc5⟩
  replace ho := Blk.chg ho hc5 (by simp)
  replace hc := hc.trans hc5 (by simp)
  clear hc5
  go_wp2_with fail
  refine (store_nil 0 1 _ (by omega) (by omega)).mono ?_
  rintro e w6 ⟨rfl, hc6⟩
  replace ho := Blk.chg ho hc6 (by simp)
  replace hc := hc.trans hc6 (by simp)
  clear hc6
  go_wp2_with fail
  refine (store_odd q 0 1 _ ho (by omega) (by omega)).mono ?_
  rintro e w7 ⟨rfl, hc7⟩
  replace ho := Blk.chg ho hc7 (by simp)
  replace hc := hc.trans hc7 (by simp)
  clear hc7
  go_wp2_with fail
  refine (len_nil _).mono ?_
  rintro e w8 ⟨rfl, rfl⟩
  go_wp2_with fail
  refine (len_odd q _ ho).mono ?_
  rintro e w8 ⟨rfl, rfl⟩
  go_wp2_with fail
  refine (all_nil _).mono ?_
  rintro e w8 ⟨rfl, rfl⟩
  go_wp2_with fail
  refine (all_odd q _ ho).mono ?_
  rintro e w8 ⟨rfl, rfl⟩
  go_wp2
  go_ret
  exact ⟨rfl, hc⟩

end Go.Proofs.Ytidceolaemikgaa
