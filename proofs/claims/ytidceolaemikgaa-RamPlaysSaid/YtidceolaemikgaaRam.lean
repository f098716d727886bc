/- The walks of package ram: what New, Load, Store, Len and All do, of a memory that reads as a list of words. -/
import Derived.Test.YtidceolaemikgaaMem
namespace Go.Proofs.Ytidceolaemikgaa
open Go.RowKit Go.Deep

theorem info_i32 : (Try.prog.info? 21).map (fun i => (i.zero, i.size, i.bytes)) = some (some (.int .i32 0), 1, 4) := by kernel_rfl
theorem size_i32 : (Try.prog.info? 21).map (·.size) = some 1 := by kernel_rfl

set_option maxHeartbeats 400000 in
theorem own_any (A : Option Addr) (c : Nat) (ws : List Int) (w : World) (hn : ws.length ≤ 3000) (hs : Sl w (.slice A ws.length c) (i32s ws)) :
    Calls Try.prog 24 #[.slice A ws.length c] w fun e w' => e = .returned (.slice (some ⟨w.heap.size, 0, none⟩) ws.length ws.length) ∧
      Blk w' w.heap.size 21 (i32s ws) ∧ Chg w w' [] := by
  obtain ⟨i0, hi0, hz0, hz1, hz2⟩ := info_parts info_i32
  have hmk := run_make_row' (P := Try.prog) 22 21 (.int .i32 0) 4 Try.underlying22 info_i32 rfl .i64 .i64 ws.length (by omega) (by omega)
  rw [madeCells_zeros] at hmk
  have hs1 := fun o => hs.chg (D := []) ((Chg.refl w []).alloc o) (by simp)
  have hb1 := Blk.new w 21 (zeros (.int .i32 0) ws.length)
  go_enter Try.func24, Try.ntmps24
  go_wp2_with (with_reducible refine wpList_copy_all rfl (.tmp 7) (.tmp 8) 22 22 rfl 21 Try.underlying22 size_i32 w.heap.size ws.length ws.length (.slice A ws.length c) (i32s ws) _ 21 rfl rfl hb1 (hs1 _) (length_zeros _ _) (by simp) (one_i32s _) ?_; intro w1 hblk hchg)
  go_ret
  exact ⟨rfl, hblk, ((Chg.refl w []).alloc _).trans hchg (by simp)⟩

/-- Block b is a memory whose words lie in block r. -/
structure IsRam (w : World) (b r : Nat) (ws : List Int) : Prop where
  n : ws.length ≤ 2048
  head : Blk w b 53 [.slice (some ⟨r, 0, none⟩) ws.length ws.length, .bool true]
  row : Blk w r 21 (i32s ws)

theorem IsRam.ne {w : World} {b r : Nat} {ws : List Int} (h : IsRam w b r ws) : b ≠ r := h.head.ne_ h.row (by decide)
theorem IsRam.drew {w : World} {b r : Nat} {ws : List Int} (h : IsRam w b r ws) : IsRam w.drew b r ws := ⟨h.n, h.head, h.row⟩
theorem IsRam.drewN {w : World} {b r : Nat} {ws : List Int} (h : IsRam w b r ws) (n : Nat) : IsRam (w.drewN n) b r ws := ⟨h.n, h.head, h.row⟩
theorem IsRam.chg {w w' : World} {b r : Nat} {ws : List Int} {D : List Nat} (h : IsRam w b r ws) (hc : Chg w w' D) (hb : b ∉ D) (hr : r ∉ D) : IsRam w' b r ws :=
  ⟨h.n, h.head.chg hc hb, h.row.chg hc hr⟩

set_option maxHeartbeats 400000 in
theorem new_long (A : Option Addr) (n c : Nat) (w : World) (h0 : 2048 < n) (hn : n ≤ maxLen) :
    Calls Try.prog 9 #[.slice A n c] w fun e w' => e = .returned (.tuple #[.pointer none, .int .i64 5]) ∧ w = w' := by
  unfold maxLen at hn
  go_enter Try.func9, Try.ntmps9
  go_wp2
  go_ret2
  exact ⟨rfl, rfl⟩

set_option maxHeartbeats 400000 in
theorem new_any (A : Option Addr) (c : Nat) (ws : List Int) (w : World) (hn : ws.length ≤ 2048) (hs : Sl w (.slice A ws.length c) (i32s ws)) :
    Calls Try.prog 9 #[.slice A ws.length c] w fun e w' => ∃ b r, e = .returned (.tuple #[.pointer (some ⟨b, 0, none⟩), .int .i64 0]) ∧
      IsRam w' b r ws ∧ w.heap.size ≤ b ∧ w.heap.size ≤ r ∧ Chg w w' [] := by
  go_enter Try.func9, Try.ntmps9
  go_wp2_with (go_at_call 24; refine (own_any A c ws _ (by omega) hs).mono ?_; rintro e w1 ⟨rfl, hblk, hchg⟩)
  go_ret2
  have hsz := hchg.size
  have hne := hblk.lt
  exact ⟨w1.heap.size, w.heap.size, rfl, ⟨hn, Blk.new w1 _ _, hblk.alloc _⟩, hsz, Nat.le_refl _, hchg.alloc _⟩

/-- What a load tells. -/
def ld (ws : List Int) (a : Int) : Int := if 0 ≤ a ∧ a < ws.length then ws.getD a.toNat 0 else 0
/-- Whether there is such a word. -/
def inB (ws : List Int) (a : Int) : Bool := decide (0 ≤ a ∧ a < ws.length)
/-- The words behind a store. -/
def st (ws : List Int) (a x : Int) : List Int := if 0 ≤ a ∧ a < ws.length then ws.set a.toNat x else ws

theorem length_st (ws : List Int) (a x : Int) : (st ws a x).length = ws.length := by
  unfold st; split
  · simp
  · rfl
theorem ld_st (ws : List Int) (i : Nat) (x : Int) (hi : i < ws.length) : ld (st ws i x) i = x := by
  have h := length_st ws i x
  unfold ld
  rw [if_pos (by rw [h]; omega)]
  unfold st
  rw [if_pos (by omega)]
  simp [hi, List.getD_eq_getElem?_getD]
theorem inB_st (ws : List Int) (a b x : Int) : inB (st ws a x) b = inB ws b := by unfold inB; rw [length_st]
theorem back_st (ws : List Int) (i : Nat) (x : Int) (hi : i < ws.length) : (st ws i x).set i (ws.getD i 0) = ws := by
  unfold st
  rw [if_pos (by omega)]
  simp only [Int.toNat_natCast, List.set_set]
  simp [List.getD_eq_getElem?_getD, hi]

set_option maxHeartbeats 400000 in
theorem load_any (b r : Nat) (ws : List Int) (a : Int) (w : World) (h : IsRam w b r ws) (ha0 : -2147483648 ≤ a) (ha1 : a ≤ 2147483647) :
    Calls Try.prog 12 #[.pointer (some ⟨b, 0, none⟩), .int .i32 a] w fun e w' => e = .returned (.tuple #[.int .i32 (ld ws a), .bool (inB ws a)]) ∧ Chg w w' [] := by
  have hb := h.head.lt
  have hr := h.row.lt
  have hn := h.n
  have hc0 := h.head.cell' (i := 0) rfl
  have hc1 := fun i => h.row.cell i
  have hf : Chg w (w.alloc (.cells #[.int .i32 0] 21)) [] := (Chg.refl w []).alloc _
  by_cases h0 : a < 0
  · have e1 : ld ws a = 0 := by unfold ld; rw [if_neg (by omega)]
    have e2 : inB ws a = false := by unfold inB; simp; omega
    rw [e1, e2]
    clear hc1 hn
    go_enter Try.func12, Try.ntmps12
    go_wp2
    go_ret2
    exact ⟨rfl, hf⟩
  · by_cases h1 : a < ws.length
    · obtain ⟨i, rfl⟩ := Int.eq_ofNat_of_zero_le (show 0 ≤ a by omega)
      have e1 : ld ws i = ws.getD i 0 := by unfold ld; rw [if_pos (by omega)]; simp
      have e2 : inB ws i = true := by unfold inB; simp; omega
      rw [e1, e2]
      have hi : i < ws.length := by omega
      have hci : w.cell? ⟨r, i, none⟩ = some (.int .i32 (ws.getD i 0)) := by rw [hc1]; exact i32s_at _ _ hi
      generalize ws.getD i 0 = x at *
      have hf : Chg w (w.alloc (.cells #[.int .i32 x] 21)) [] := (Chg.refl w []).alloc _
      clear hc1 h1
      go_enter Try.func12, Try.ntmps12
      go_wp2
      go_end0
      go_wp2
      go_ret2
      exact ⟨rfl, hf⟩
    · have e1 : ld ws a = 0 := by unfold ld; rw [if_neg (by omega)]
      have e2 : inB ws a = false := by unfold inB; simp; omega
      rw [e1, e2]
      clear hc1
      go_enter Try.func12, Try.ntmps12
      go_wp2
      go_ret2
      exact ⟨rfl, hf⟩

set_option maxHeartbeats 400000 in
theorem load_nil (a : Int) (w : World) (ha0 : -2147483648 ≤ a) (ha1 : a ≤ 2147483647) :
    Calls Try.prog 12 #[.pointer none, .int .i32 a] w fun e w' => e = .returned (.tuple #[.int .i32 0, .bool false]) ∧ Chg w w' [] := by
  have hf : Chg w (w.alloc (.cells #[.int .i32 0] 21)) [] := (Chg.refl w []).alloc _
  by_cases h0 : a < 0
  all_goals
    go_enter Try.func12, Try.ntmps12
    go_wp2
    go_ret2
    exact ⟨rfl, hf⟩

set_option maxHeartbeats 400000 in
theorem store_any (b r : Nat) (ws : List Int) (a x : Int) (w : World) (h : IsRam w b r ws) (ha0 : -2147483648 ≤ a) (ha1 : a ≤ 2147483647) :
    Calls Try.prog 11 #[.pointer (some ⟨b, 0, none⟩), .int .i32 a, .int .i32 x] w fun e w' => e = .returned (.bool (inB ws a)) ∧ IsRam w' b r (st ws a x) ∧ Chg w w' [r] := by
  have hb := h.head.lt
  have hr := h.row.lt
  have hn := h.n
  have hc0 := h.head.cell' (i := 0) rfl
  have hc1 := fun i => h.row.cell i
  have hfr := fun i => h.row.frozen i
  have hf : Chg w (w.alloc (.cells #[.int .i32 x] 21)) [r] := (Chg.refl w [r]).alloc _
  have hne := h.ne
  have hram : ∀ y : Value, IsRam (w.alloc (.cells #[y] 21)) b r ws := fun y => ⟨h.n, h.head.alloc _, h.row.alloc _⟩
  by_cases h0 : a < 0
  · have e1 : st ws a x = ws := by unfold st; rw [if_neg (by omega)]
    have e2 : inB ws a = false := by unfold inB; simp; omega
    rw [e1, e2]
    clear hc1 hn hfr
    go_enter Try.func11, Try.ntmps11
    go_wp2
    go_ret
    exact ⟨rfl, hram _, hf⟩
  · by_cases h1 : a < ws.length
    · obtain ⟨i, rfl⟩ := Int.eq_ofNat_of_zero_le (show 0 ≤ a by omega)
      have e1 : st ws i x = ws.set i x := by unfold st; rw [if_pos (by omega)]; simp
      have e2 : inB ws i = true := by unfold inB; simp; omega
      have hi : i < ws.length := by omega
      have hci : w.cell? ⟨r, i, none⟩ = some (.int .i32 (ws.getD i 0)) := by rw [hc1]; exact i32s_at _ _ hi
      have hfi := hfr i
      have hfin : IsRam ((w.setCell ⟨r, i, none⟩ (.int .i32 x)).alloc (.cells #[.int .i32 x] 21)) b r (ws.set i x) := by
        refine ⟨by simpa using h.n, ?_, ?_⟩
        · simpa using (h.head.far (p := ⟨r, i, none⟩) hne _).alloc _
        · have := (h.row.set_ i (.int .i32 x)).alloc (.cells #[.int .i32 x] 21)
          rw [i32s_set]; exact this
      have hf : Chg w ((w.setCell ⟨r, i, none⟩ (.int .i32 x)).alloc (.cells #[.int .i32 x] 21)) [r] := ((Chg.refl w [r]).setCell _ _ (by simp)).alloc _
      rw [e1, e2]
      generalize ws.getD i 0 = x0 at *
      clear hc1 h1 hfr
      go_enter Try.func11, Try.ntmps11
      go_wp2
      go_end0
      go_wp2
      go_ret
      exact ⟨rfl, hfin, hf⟩
    · have e1 : st ws a x = ws := by unfold st; rw [if_neg (by omega)]
      have e2 : inB ws a = false := by unfold inB; simp; omega
      rw [e1, e2]
      clear hc1 hfr
      go_enter Try.func11, Try.ntmps11
      go_wp2
      go_ret
      exact ⟨rfl, hram _, hf⟩

set_option maxHeartbeats 400000 in
theorem store_nil (a x : Int) (w : World) (ha0 : -2147483648 ≤ a) (ha1 : a ≤ 2147483647) :
    Calls Try.prog 11 #[.pointer none, .int .i32 a, .int .i32 x] w fun e w' => e = .returned (.bool false) ∧ Chg w w' [] := by
  have hf : Chg w (w.alloc (.cells #[.int .i32 x] 21)) [] := (Chg.refl w []).alloc _
  by_cases h0 : a < 0
  all_goals
    go_enter Try.func11, Try.ntmps11
    go_wp2
    go_ret
    exact ⟨rfl, hf⟩

set_option maxHeartbeats 400000 in
theorem len_any (b r : Nat) (ws : List Int) (w : World) (h : IsRam w b r ws) :
    Calls Try.prog 14 #[.pointer (some ⟨b, 0, none⟩)] w fun e w' => e = .returned (.int .i64 ws.length) ∧ w = w' := by
  have hn := h.n
  have hc0 := h.head.cell' (i := 0) rfl
  go_enter Try.func14, Try.ntmps14
  go_wp2
  go_ret
  exact ⟨rfl, rfl⟩

set_option maxHeartbeats 400000 in
theorem len_nil (w : World) :
    Calls Try.prog 14 #[.pointer none] w fun e w' => e = .returned (.int .i64 0) ∧ w = w' := by
  go_enter Try.func14, Try.ntmps14
  go_wp2
  go_ret
  exact ⟨rfl, rfl⟩

set_option maxHeartbeats 400000 in
theorem all_any (b r : Nat) (ws : List Int) (w : World) (h : IsRam w b r ws) :
    Calls Try.prog 16 #[.pointer (some ⟨b, 0, none⟩)] w fun e w' => ∃ q, e = .returned (.slice (some ⟨q, 0, none⟩) ws.length ws.length) ∧
      Blk w' q 21 (i32s ws) ∧ w.heap.size ≤ q ∧ Chg w w' [] := by
  have hn := h.n
  have hc0 := h.head.cell' (i := 0) rfl
  have hc1 := h.head.cell' (i := 1) rfl
  have hs : Sl w (.slice (some ⟨r, 0, none⟩) ws.length ws.length) (i32s ws) := Sl.blk' h.row (by simp) (Nat.le_refl _)
  go_enter Try.func16, Try.ntmps16
  go_wp2_with (go_at_call 24; refine (own_any _ _ ws _ (by omega) hs).mono ?_; rintro e w1 ⟨rfl, hblk, hchg⟩)
  go_ret
  exact ⟨_, rfl, hblk, Nat.le_refl _, hchg⟩

set_option maxHeartbeats 400000 in
theorem all_nil (w : World) :
    Calls Try.prog 16 #[.pointer none] w fun e w' => e = .returned (.slice none 0 0) ∧ w = w' := by
  go_enter Try.func16, Try.ntmps16
  go_wp2
  go_ret
  exact ⟨rfl, rfl⟩

end Go.Proofs.Ytidceolaemikgaa
