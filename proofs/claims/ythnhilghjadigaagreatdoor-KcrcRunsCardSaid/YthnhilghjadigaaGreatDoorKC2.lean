/- Texts of this claim, side by side: Ram, Num1, Encode, Decode, DecK, MapL. -/
import Derived.Test.YthnhilghjadigaaGreatDoorKC1
import Derived.Maps.OwnSet
import Derived.Maps.OwnOps
import Derived.Maps.Views
import Derived.Maps.Own
/- The walks of package ram: what New, Load, Store, Len and All do, of a memory that reads as a list of words. -/
namespace Go.Proofs.YthnhilghjadigaaGreatDoor
open Go.RowKit Go.Deep
set_option linter.unusedVariables false
theorem info_i32 : (Tryz.prog.info? 21).map (fun i => (i.zero, i.size, i.bytes)) = some (some (.int .i32 0), 1, 4) := by kernel_rfl
theorem size_i32 : (Tryz.prog.info? 21).map (·.size) = some 1 := by kernel_rfl
set_option maxHeartbeats 400000 in
theorem own_any (A : Option Addr) (c : Nat) (ws : List Int) (w : World) (hn : ws.length ≤ 3000) (hs : Sl w (.slice A ws.length c) (i32s ws)) :
 Calls Tryz.prog 77 #[.slice A ws.length c] w fun e w' => e = .returned (.slice (some ⟨w.heap.size, 0, none⟩) ws.length ws.length) ∧
  Blk w' w.heap.size 21 (i32s ws) ∧ Chg w w' [] := by
 obtain ⟨i0, hi0, hz0, hz1, hz2⟩ := info_parts info_i32
 have hmk := run_make_row' (P := Tryz.prog) 25 21 (.int .i32 0) 4 Tryz.underlying25 info_i32 rfl .i64 .i64 ws.length (by omega) (by omega)
 rw [madeCells_zeros] at hmk
 have hs1 := fun o => hs.chg (D := []) ((Chg.refl w []).alloc o) (by simp)
 have hb1 := Blk.new w 21 (zeros (.int .i32 0) ws.length)
 go_enter Tryz.func77, Tryz.ntmps77
 go_wp2_with (with_reducible refine wpList_copy_all rfl (.tmp 7) (.tmp 8) 25 25 rfl 21 Tryz.underlying25 size_i32 w.heap.size ws.length ws.length (.slice A ws.length c) (i32s ws) _ 21 rfl rfl hb1 (hs1 _) (length_zeros _ _) (by simp) (one_i32s _) ?_; intro w1 hblk hchg)
 go_ret
 exact ⟨rfl, hblk, ((Chg.refl w []).alloc _).trans hchg (by simp)⟩
structure IsRam (w : World) (b r : Nat) (ws : List Int) : Prop where
 n : ws.length ≤ 2048
 head : Blk w b 154 [.slice (some ⟨r, 0, none⟩) ws.length ws.length, .bool true]
 row : Blk w r 21 (i32s ws)
theorem IsRam.ne {w : World} {b r : Nat} {ws : List Int} (h : IsRam w b r ws) : b ≠ r := h.head.ne_ h.row (by decide)
theorem IsRam.drew {w : World} {b r : Nat} {ws : List Int} (h : IsRam w b r ws) : IsRam w.drew b r ws := ⟨h.n, h.head, h.row⟩
theorem IsRam.drewN {w : World} {b r : Nat} {ws : List Int} (h : IsRam w b r ws) (n : Nat) : IsRam (w.drewN n) b r ws := ⟨h.n, h.head, h.row⟩
theorem IsRam.chg {w w' : World} {b r : Nat} {ws : List Int} {D : List Nat} (h : IsRam w b r ws) (hc : Chg w w' D) (hb : b ∉ D) (hr : r ∉ D) : IsRam w' b r ws :=
 ⟨h.n, h.head.chg hc hb, h.row.chg hc hr⟩
set_option maxHeartbeats 400000 in
theorem new_any (A : Option Addr) (c : Nat) (ws : List Int) (w : World) (hn : ws.length ≤ 2048) (hs : Sl w (.slice A ws.length c) (i32s ws)) :
 Calls Tryz.prog 53 #[.slice A ws.length c] w fun e w' => ∃ b r, e = .returned (.tuple #[.pointer (some ⟨b, 0, none⟩), .int .i64 0]) ∧
  IsRam w' b r ws ∧ w.heap.size ≤ b ∧ w.heap.size ≤ r ∧ Chg w w' [] := by
 go_enter Tryz.func53, Tryz.ntmps53
 go_wp2_with (go_at_call 77; refine (own_any A c ws _ (by omega) hs).mono ?_; rintro e w1 ⟨rfl, hblk, hchg⟩)
 go_ret2
 have hsz := hchg.size
 have hne := hblk.lt
 exact ⟨w1.heap.size, w.heap.size, rfl, ⟨hn, Blk.new w1 _ _, hblk.alloc _⟩, hsz, Nat.le_refl _, hchg.alloc _⟩
def ld (ws : List Int) (a : Int) : Int := if 0 ≤ a ∧ a < ws.length then ws.getD a.toNat 0 else 0
def inB (ws : List Int) (a : Int) : Bool := decide (0 ≤ a ∧ a < ws.length)
def st (ws : List Int) (a x : Int) : List Int := if 0 ≤ a ∧ a < ws.length then ws.set a.toNat x else ws
set_option maxHeartbeats 400000 in
theorem load_any (b r : Nat) (ws : List Int) (a : Int) (w : World) (h : IsRam w b r ws) (ha0 : -2147483648 ≤ a) (ha1 : a ≤ 2147483647) :
 Calls Tryz.prog 59 #[.pointer (some ⟨b, 0, none⟩), .int .i32 a] w fun e w' => e = .returned (.tuple #[.int .i32 (ld ws a), .bool (inB ws a)]) ∧ Chg w w' [] := by
 have hb := h.head.lt
 have hr := h.row.lt
 have hn := h.n
 have hc0 := h.head.cell' (i := 0) rfl
 have hc1 := fun i => h.row.cell i
 have hf : Chg w (w.alloc (.cells #[.int .i32 0] 21)) [] := (Chg.refl w []).alloc _
 by_cases h0 : a < 0
 · have e1 : ld ws a = 0 := by unfold ld; rw [if_neg (by omega)]
   have e2 : inB ws a = false := by unfold inB; simp; omega
   rw [e1, e2]
   clear hc1 hn
   go_enter Tryz.func59, Tryz.ntmps59
   go_wp2
   go_ret2
   exact ⟨rfl, hf⟩
 · by_cases h1 : a < ws.length
   · obtain ⟨i, rfl⟩ := Int.eq_ofNat_of_zero_le (show 0 ≤ a by omega)
     have e1 : ld ws i = ws.getD i 0 := by unfold ld; rw [if_pos (by omega)]; simp
     have e2 : inB ws i = true := by unfold inB; simp; omega
     rw [e1, e2]
     have hi : i < ws.length := by omega
     have hci : w.cell? ⟨r, i, none⟩ = some (.int .i32 (ws.getD i 0)) := by rw [hc1]; exact i32s_at _ _ hi
     generalize ws.getD i 0 = x at *
     have hf : Chg w (w.alloc (.cells #[.int .i32 x] 21)) [] := (Chg.refl w []).alloc _
     clear hc1 h1
     go_enter Tryz.func59, Tryz.ntmps59
     go_wp2
     go_end0
     go_wp2
     go_ret2
     exact ⟨rfl, hf⟩
   · have e1 : ld ws a = 0 := by unfold ld; rw [if_neg (by omega)]
     have e2 : inB ws a = false := by unfold inB; simp; omega
     rw [e1, e2]
     clear hc1
     go_enter Tryz.func59, Tryz.ntmps59
     go_wp2
     go_ret2
     exact ⟨rfl, hf⟩
set_option maxHeartbeats 400000 in
theorem store_any (b r : Nat) (ws : List Int) (a x : Int) (w : World) (h : IsRam w b r ws) (ha0 : -2147483648 ≤ a) (ha1 : a ≤ 2147483647) :
 Calls Tryz.prog 57 #[.pointer (some ⟨b, 0, none⟩), .int .i32 a, .int .i32 x] w fun e w' => e = .returned (.bool (inB ws a)) ∧ IsRam w' b r (st ws a x) ∧ Chg w w' [r] := by
 have hb := h.head.lt
 have hr := h.row.lt
 have hn := h.n
 have hc0 := h.head.cell' (i := 0) rfl
 have hc1 := fun i => h.row.cell i
 have hfr := fun i => h.row.frozen i
 have hf : Chg w (w.alloc (.cells #[.int .i32 x] 21)) [r] := (Chg.refl w [r]).alloc _
 have hne := h.ne
 have hram : ∀ y : Value, IsRam (w.alloc (.cells #[y] 21)) b r ws := fun y => ⟨h.n, h.head.alloc _, h.row.alloc _⟩
 by_cases h0 : a < 0
 · have e1 : st ws a x = ws := by unfold st; rw [if_neg (by omega)]
   have e2 : inB ws a = false := by unfold inB; simp; omega
   rw [e1, e2]
   clear hc1 hn hfr
   go_enter Tryz.func57, Tryz.ntmps57
   go_wp2
   go_ret
   exact ⟨rfl, hram _, hf⟩
 · by_cases h1 : a < ws.length
   · obtain ⟨i, rfl⟩ := Int.eq_ofNat_of_zero_le (show 0 ≤ a by omega)
     have e1 : st ws i x = ws.set i x := by unfold st; rw [if_pos (by omega)]; simp
     have e2 : inB ws i = true := by unfold inB; simp; omega
     have hi : i < ws.length := by omega
     have hci : w.cell? ⟨r, i, none⟩ = some (.int .i32 (ws.getD i 0)) := by rw [hc1]; exact i32s_at _ _ hi
     have hfi := hfr i
     have hfin : IsRam ((w.setCell ⟨r, i, none⟩ (.int .i32 x)).alloc (.cells #[.int .i32 x] 21)) b r (ws.set i x) := by
      refine ⟨by simpa using h.n, ?_, ?_⟩
      · simpa using (h.head.far (p := ⟨r, i, none⟩) hne _).alloc _
      · have := (h.row.set_ i (.int .i32 x)).alloc (.cells #[.int .i32 x] 21)
        rw [i32s_set]; exact this
     have hf : Chg w ((w.setCell ⟨r, i, none⟩ (.int .i32 x)).alloc (.cells #[.int .i32 x] 21)) [r] := ((Chg.refl w [r]).setCell _ _ (by simp)).alloc _
     rw [e1, e2]
     generalize ws.getD i 0 = x0 at *
     clear hc1 h1 hfr
     go_enter Tryz.func57, Tryz.ntmps57
     go_wp2
     go_end0
     go_wp2
     go_ret
     exact ⟨rfl, hfin, hf⟩
   · have e1 : st ws a x = ws := by unfold st; rw [if_neg (by omega)]
     have e2 : inB ws a = false := by unfold inB; simp; omega
     rw [e1, e2]
     clear hc1 hfr
     go_enter Tryz.func57, Tryz.ntmps57
     go_wp2
     go_ret
     exact ⟨rfl, hram _, hf⟩
end Go.Proofs.YthnhilghjadigaaGreatDoor

/- The small packages of numbers: shift, sat, pick, word, fix. -/
namespace Go.Proofs.YthnhilghjadigaaGreatDoor
open Go.RowKit Go.Deep
set_option linter.unusedVariables false
def sh (b : Int) : Nat := min (IntKind.u64.wrap (bits BinOp.and IntKind.i32 b 31)).toNat 32
def sarI (a b : Int) : Int := a / 2 ^ sh b
def shlI (a b : Int) : Int := wrap32 (a % 4294967296 * 2 ^ sh b % 4294967296)
def shrI (a b : Int) : Int := wrap32 (a % 4294967296 / 2 ^ sh b)
def ltI (a b : Int) : Int := if a < b then 1 else 0
def ltuI (a b : Int) : Int := if a % 4294967296 < b % 4294967296 then 1 else 0
def eqI (a b : Int) : Int := if a = b then 1 else 0
def satI (x : Int) : Int := min (max x (-2147483648)) 2147483647
def addsI (a b : Int) : Int := satI (a + b)
def subsI (a b : Int) : Int := satI (a - b)
def negI (a : Int) : Int := satI (-a)
def absI (a : Int) : Int := max a (negI a)
def signI (a : Int) : Int := a / 2147483648
set_option maxHeartbeats 400000 in
theorem sar_calls (a b : Int) (w : World) : Calls Tryz.prog 136 #[.int .i32 a, .int .i32 b] w fun e w' => e = .returned (.int .i32 (sarI a b)) ∧ Chg w w' [] := by
 have HC := hide (Chg.refl w [])
 go_enter Tryz.func136, Tryz.ntmps136
 go_wp2
 go_ret
 exact ⟨rfl, HC.out⟩
set_option maxHeartbeats 400000 in
theorem shl_calls (a b : Int) (w : World) : Calls Tryz.prog 134 #[.int .i32 a, .int .i32 b] w fun e w' => e = .returned (.int .i32 (shlI a b)) ∧ Chg w w' [] := by
 go_enter Tryz.func134, Tryz.ntmps134
 go_wp2
 go_ret
 exact ⟨rfl, (Chg.refl w []).alloc _⟩
set_option maxHeartbeats 400000 in
theorem shr_calls (a b : Int) (w : World) : Calls Tryz.prog 135 #[.int .i32 a, .int .i32 b] w fun e w' => e = .returned (.int .i32 (shrI a b)) ∧ Chg w w' [] := by
 go_enter Tryz.func135, Tryz.ntmps135
 go_wp2
 go_ret
 exact ⟨rfl, (Chg.refl w []).alloc _⟩
set_option maxHeartbeats 400000 in
theorem less_calls (a b : Int) (w : World) : Calls Tryz.prog 138 #[.int .i32 a, .int .i32 b] w fun e w' => e = .returned (.int .i32 (ltI a b)) ∧ w = w' := by
 by_cases h : a < b
 · have e : ltI a b = 1 := by unfold ltI; rw [if_pos h]
   rw [e]
   go_enter Tryz.func138, Tryz.ntmps138
   go_wp2
   go_ret
   exact ⟨rfl, rfl⟩
 · have e : ltI a b = 0 := by unfold ltI; rw [if_neg h]
   rw [e]
   go_enter Tryz.func138, Tryz.ntmps138
   go_wp2
   go_ret
   exact ⟨rfl, rfl⟩
set_option maxHeartbeats 400000 in
theorem under_calls (a b : Int) (w : World) : Calls Tryz.prog 139 #[.int .i32 a, .int .i32 b] w fun e w' => e = .returned (.int .i32 (ltuI a b)) ∧ w = w' := by
 by_cases h : a % 4294967296 < b % 4294967296
 · have e : ltuI a b = 1 := by unfold ltuI; rw [if_pos h]
   rw [e]
   go_enter Tryz.func139, Tryz.ntmps139
   go_wp2
   go_ret
   exact ⟨rfl, rfl⟩
 · have e : ltuI a b = 0 := by unfold ltuI; rw [if_neg h]
   rw [e]
   go_enter Tryz.func139, Tryz.ntmps139
   go_wp2
   go_ret
   exact ⟨rfl, rfl⟩
set_option maxHeartbeats 400000 in
theorem same_calls (a b : Int) (w : World) : Calls Tryz.prog 140 #[.int .i32 a, .int .i32 b] w fun e w' => e = .returned (.int .i32 (eqI a b)) ∧ w = w' := by
 by_cases h : a = b
 · have e : eqI a b = 1 := by unfold eqI; rw [if_pos h]
   rw [e]
   subst h
   go_enter Tryz.func140, Tryz.ntmps140
   go_wp2
   go_ret
   exact ⟨rfl, rfl⟩
 · have e : eqI a b = 0 := by unfold eqI; rw [if_neg h]
   rw [e]
   have hb : (a == b) = false := by simpa using h
   go_enter Tryz.func140, Tryz.ntmps140
   go_wp2
   go_ret
   exact ⟨rfl, rfl⟩
set_option maxHeartbeats 400000 in
theorem sign_calls (a : Int) (w : World) : Calls Tryz.prog 256 #[.int .i32 a] w fun e w' => e = .returned (.int .i32 (signI a)) ∧ w = w' := by
 go_enter Tryz.func256, Tryz.ntmps256
 go_wp2
 go_ret
 exact ⟨rfl, rfl⟩
set_option maxHeartbeats 400000 in
theorem sat_calls (x : Int) (w : World) : Calls Tryz.prog 214 #[.int .i64 x] w fun e w' => e = .returned (.int .i32 (satI x)) ∧ w = w' := by
 go_enter Tryz.func214, Tryz.ntmps214
 go_wp2
 · go_ret
   exact ⟨by rw [show satI x = 2147483647 by unfold satI; split at h <;> omega]; rfl, rfl⟩
 · go_ret
   exact ⟨by rw [show satI x = -2147483648 by unfold satI; omega]; rfl, rfl⟩
 · rename_i h1
   rw [if_neg (by omega)] at h1
   go_ret
   exact ⟨by rw [show satI x = x by unfold satI; omega]; rfl, rfl⟩
def sum64 (l : List Int) : Int := l.foldl (fun s x => wrap64 (s + x)) 0
theorem sum64_take {l : List Int} {k : Nat} (h : k < l.length) : sum64 (l.take (k + 1)) = wrap64 (sum64 (l.take k) + l.getD k 0) := by
 rw [List.take_add_one, List.getElem?_eq_getElem h]
 unfold sum64
 rw [List.foldl_append, List.getD_eq_getElem?_getD, List.getElem?_eq_getElem h]
 rfl
theorem of64_at (l : List Int) (k : Nat) (h : k < l.length) : (l.map (Value.int .i64))[k]? = some (.int .i64 (l.getD k 0)) := by simp [h]
set_option maxHeartbeats 400000 in
theorem sum_calls (A : Option Addr) (c : Nat) (l : List Int) (w : World) (hs : Sl w (.slice A l.length c) (l.map (Value.int .i64))) (hn : l.length ≤ 3000) :
 Calls Tryz.prog 165 #[.slice A l.length c] w fun e w' => e = .returned (.int .i32 (satI (sum64 l))) ∧ w = w' := by
 have HS := hide hs
 clear hs
 go_enter Tryz.func165, Tryz.ntmps165
 go_wp2
 go_loopw [3, 8] (fun n i wr => ∃ k : Nat, k ≤ l.length ∧ i = .int .i64 k ∧ n = .int .i64 (sum64 (l.take k)) ∧ wr = w) (fun _ i _ => l.length - (intOf i).toNat)
 case atStart => exact ⟨0, Nat.zero_le _, rfl, rfl, rfl⟩
 case round =>
  obtain ⟨k, hk, rfl, rfl, rfl⟩ := hrel
  by_cases hlt : k < l.length
  · obtain ⟨b, off, rfl, hca, _⟩ := HS.out.at_ (of64_at l k hlt)
    have HE := hide (sum64_take hlt)
    generalize l.getD k 0 = x at *
    generalize sum64 (l.take k) = n at *
    go_wp2
    go_roundw
    case rel => exact ⟨k + 1, by omega, by go_num, by rw [HE.out], by trivial⟩
    case measure => simp [intOf]; omega
  · have hk : k = l.length := by omega
    subst hk
    rw [List.take_length]
    go_wp2_with fail
    refine (sat_calls _ _).mono ?_
    rintro e w1 ⟨rfl, rfl⟩
    go_wp2
    go_ret
    exact ⟨rfl, rfl⟩
theorem in32 {a : Int} (h : -2147483648 ≤ a ∧ a ≤ 2147483647) : wrap64 a = a := by unfold wrap64; omega
set_option maxHeartbeats 400000 in
theorem sadd_calls (a b : Int) (w : World) (ha : -2147483648 ≤ a ∧ a ≤ 2147483647) (hb : -2147483648 ≤ b ∧ b ≤ 2147483647) :
 Calls Tryz.prog 132 #[.int .i32 a, .int .i32 b] w fun e w' => e = .returned (.int .i32 (addsI a b)) ∧ Chg w w' [] := by
 have e : addsI a b = satI (sum64 [a, b]) := by unfold addsI sum64; simp; rw [in32 ha, show wrap64 (a + b) = a + b by unfold wrap64; omega]
 rw [e]
 go_enter Tryz.func132, Tryz.ntmps132
 go_wp2_with fail
 have hs : Sl (w.alloc (.cells #[.int .i64 a, .int .i64 b] 2)) (.slice (some ⟨w.heap.size, 0, none⟩) 2 2) ([a, b].map (Value.int .i64)) := Sl.blk' (Blk.new w _ _) rfl (Nat.le_refl _)
 refine (sum_calls _ _ [a, b] _ hs (by simp)).mono ?_
 rintro e w1 ⟨rfl, rfl⟩
 clear hs
 go_wp2
 go_ret
 exact ⟨rfl, (Chg.refl w []).alloc _⟩
set_option maxHeartbeats 400000 in
theorem ssub_calls (a b : Int) (w : World) (ha : -2147483648 ≤ a ∧ a ≤ 2147483647) (hb : -2147483648 ≤ b ∧ b ≤ 2147483647) :
 Calls Tryz.prog 133 #[.int .i32 a, .int .i32 b] w fun e w' => e = .returned (.int .i32 (subsI a b)) ∧ Chg w w' [] := by
 have e : subsI a b = satI (sum64 [a, -b]) := by unfold subsI sum64; simp; rw [in32 ha, show wrap64 (a + -b) = a - b by unfold wrap64; omega]
 have hn : wrap64 (-b) = -b := by unfold wrap64; omega
 rw [e]
 go_enter Tryz.func133, Tryz.ntmps133
 go_wp2_with fail
 have hs : Sl (w.alloc (.cells #[.int .i64 a, .int .i64 (-b)] 2)) (.slice (some ⟨w.heap.size, 0, none⟩) 2 2) ([a, -b].map (Value.int .i64)) := Sl.blk' (Blk.new w _ _) rfl (Nat.le_refl _)
 refine (sum_calls _ _ [a, -b] _ hs (by simp)).mono ?_
 rintro e w1 ⟨rfl, rfl⟩
 clear hs
 go_wp2
 go_ret
 exact ⟨rfl, (Chg.refl w []).alloc _⟩
set_option maxHeartbeats 400000 in
theorem sneg_calls (a : Int) (w : World) (ha : -2147483648 ≤ a ∧ a ≤ 2147483647) :
 Calls Tryz.prog 253 #[.int .i32 a] w fun e w' => e = .returned (.int .i32 (negI a)) ∧ Chg w w' [] := by
 have e : negI a = satI (sum64 [-a]) := by unfold negI sum64; simp; rw [show wrap64 (-a) = -a by unfold wrap64; omega]
 have hn : wrap64 (-a) = -a := by unfold wrap64; omega
 rw [e]
 go_enter Tryz.func253, Tryz.ntmps253
 go_wp2_with fail
 have hs : Sl (w.alloc (.cells #[.int .i64 (-a)] 2)) (.slice (some ⟨w.heap.size, 0, none⟩) 1 1) ([-a].map (Value.int .i64)) := Sl.blk' (Blk.new w _ _) rfl (Nat.le_refl _)
 refine (sum_calls _ _ [-a] _ hs (by simp)).mono ?_
 rintro e w1 ⟨rfl, rfl⟩
 clear hs
 go_wp2
 go_ret
 exact ⟨rfl, (Chg.refl w []).alloc _⟩
end Go.Proofs.YthnhilghjadigaaGreatDoor

/- The walks of package code: Encode. -/
namespace Go.Proofs.YthnhilghjadigaaGreatDoor
open Go.RowKit Go.Deep
set_option linter.unusedVariables false
theorem fld1' (ib : Nat) (w : World) : Calls Tryz.prog 98 #[.pointer (some ⟨ib, 0, none⟩)] w fun e w' => e = .returned (.pointer (some ⟨ib, 1, none⟩)) ∧ w' = w := (fld1 ib w).mono fun _ _ ⟨h, h'⟩ => ⟨h, h'.symm⟩
theorem fld2' (ib : Nat) (w : World) : Calls Tryz.prog 99 #[.pointer (some ⟨ib, 0, none⟩)] w fun e w' => e = .returned (.pointer (some ⟨ib, 2, none⟩)) ∧ w' = w := (fld2 ib w).mono fun _ _ ⟨h, h'⟩ => ⟨h, h'.symm⟩
theorem fld3' (ib : Nat) (w : World) : Calls Tryz.prog 100 #[.pointer (some ⟨ib, 0, none⟩)] w fun e w' => e = .returned (.pointer (some ⟨ib, 3, none⟩)) ∧ w' = w := (fld3 ib w).mono fun _ _ ⟨h, h'⟩ => ⟨h, h'.symm⟩
theorem fld4' (ib : Nat) (w : World) : Calls Tryz.prog 101 #[.pointer (some ⟨ib, 0, none⟩)] w fun e w' => e = .returned (.pointer (some ⟨ib, 4, none⟩)) ∧ w' = w := (fld4 ib w).mono fun _ _ ⟨h, h'⟩ => ⟨h, h'.symm⟩
set_option maxHeartbeats 400000 in
theorem encode_bad (op x y z u : Int) (w : World) (h : chk op x y z u ≠ 0) :
 Calls Tryz.prog 73 #[insV op x y z u] w fun e w' => e = .returned (.tuple #[.int .u32 0, .int .i64 (chk op x y z u)]) ∧ Chg w w' [] := by
 have hb : (chk op x y z u != 0) = true := by rw [bne_iff_ne]; exact h
 have hc := check_any op x y z u (w.alloc (.cells #[.int .i64 op, .int .i64 x, .int .i64 y, .int .i64 z, .int .i64 u] 96))
 have HC := hide hc
 clear hc h
 generalize chk op x y z u = e0 at *
 go_enter Tryz.func73, Tryz.ntmps73
 go_wp2_with (go_at_call 71; refine HC.out.mono ?_; rintro e w1 ⟨rfl, hc⟩)
 go_ret2
 exact ⟨rfl, ((Chg.refl _ _).alloc _).trans hc (by simp)⟩
def EncRel (w : World) (op x y z u : Int) (ib q : Nat) (s v : Value) (wr : World) : Prop :=
 ∃ k : Nat, k ≤ 4 ∧ v = .int .i64 (k : Int) ∧ s = .int .u32 (encK op x y z u k) ∧ Blk wr ib 96 (insC op x y z u) ∧ Blk wr q 161 fcells ∧ Chg w wr []
set_option maxHeartbeats 2000000 in
theorem encode_good (op x y z u : Int) (w : World) (h0 : chk op x y z u = 0) :
 Calls Tryz.prog 73 #[insV op x y z u] w fun e w' => e = .returned (.tuple #[.int .u32 (encK op x y z u 4), .int .i64 0]) ∧ Chg w w' [] := by
 have hfit := fits_bounds ((chk_iff op x y z u).1 h0)
 obtain ⟨⟨ho1, ho2⟩, hx, hy, hz, hu, hzu⟩ := hfit
 have HZU := hide hzu
 clear hzu
 obtain ⟨a, b, c, d, h⟩ : ∃ a b c d, shp op = [a, b, c, d] := by
  rcases shp_form op with h | h
  · rw [show chk op x y z u = 2 by unfold chk; rw [h]] at h0; omega
  · exact h
 go_enter Tryz.func73, Tryz.ntmps73
 go_wp2_with fail
 have hib : Blk (w.alloc (.cells (insC op x y z u).toArray 96)) w.heap.size 96 (insC op x y z u) := Blk.new _ _ _
 have hc0 : Chg w (w.alloc (.cells (insC op x y z u).toArray 96)) [] := (Chg.refl _ _).alloc _
 generalize hib0 : w.heap.size = ib at *
 have HI := hide hib0
 clear hib0
 generalize w.alloc (.cells #[.int .i64 op, .int .i64 x, .int .i64 y, .int .i64 z, .int .i64 u] 96) = w0 at *
 refine (check_any op x y z u _).mono ?_
 rintro e w1 ⟨rfl, hc1⟩
 rw [h0]
 have H0 := hide h0
 clear h0
 replace hib := hib.chg hc1 (by simp)
 replace hc0 := hc0.trans hc1 (by simp)
 clear hc1
 have c0 := hib.cell' (i := 0) rfl
 go_wp2_with fail
 refine (shape_any op _).mono ?_
 rintro e w2 ⟨rfl, rfl⟩
 rw [h]
 have H := hide h
 clear h
 go_wp2_with fail
 refine (fields_any a b c d _).mono ?_
 rintro e w2 ⟨rfl, rfl⟩
 go_wp2_with fail
 have hstart : EncRel w op x y z u ib w1.heap.size (.int .u32 (op * 67108864)) (.int .i64 (0 : Nat)) (w1.alloc (.cells fcells.toArray 161)) :=
  ⟨0, by omega, rfl, rfl, hib.alloc _, Blk.new w1 _ _, hc0.alloc _⟩
 clear hib hc0 c0
 generalize w1.heap.size = q at *
 generalize w1.alloc (.cells fcells.toArray 161) = w2 at *
 go_loopw [5, 22] (fun s v wr => EncRel w op x y z u ib q s v wr) (fun _ i _ => 4 - (intOf i).toNat)
 case atStart => exact hstart
 case round =>
  clear hstart
  obtain ⟨k, hk, rfl, rfl, hbi, hbq, hc⟩ := hrel
  have kk : k = 0 ∨ k = 1 ∨ k = 2 ∨ k = 3 ∨ k = 4 := by omega
  have c1 := hbi.cell' (i := 1) rfl
  have c2 := hbi.cell' (i := 2) rfl
  have c3 := hbi.cell' (i := 3) rfl
  have c4 := hbi.cell' (i := 4) rfl
  have hbil := hbi.lt
  have hbql := hbq.lt
  have HBI := hide hbi
  have HBQ := hide hbq
  rcases kk with rfl | rfl | rfl | rfl | rfl
  · have q0 := hbq.cell' (i := 0) rfl
    have q1 := hbq.cell' (i := 1) rfl
    have q2 := hbq.cell' (i := 2) rfl
    unfold encK
    clear hbi hbq
    go_wp2_with fail
    go_quiet ((go_at_call 98; exact Calls.quiet_of_same (fld1' ib _)))
    go_wp2
    go_roundw
    case rel => exact ⟨1, by omega, rfl, congrArg (Value.int .u32) (enc1 ⟨ho1, ho2⟩ hx), (HBI.out.alloc _).drewN _, (HBQ.out.alloc _).drewN _, (hc.alloc _).drewN _⟩
    case measure => simp [intOf]
  · have q0 := hbq.cell' (i := 3) rfl
    have q1 := hbq.cell' (i := 4) rfl
    have q2 := hbq.cell' (i := 5) rfl
    unfold encK
    clear hbi hbq
    go_wp2_with fail
    go_quiet ((go_at_call 99; exact Calls.quiet_of_same (fld2' ib _)))
    go_wp2
    go_roundw
    case rel => exact ⟨2, by omega, rfl, congrArg (Value.int .u32) (enc2 ⟨ho1, ho2⟩ hx hy), (HBI.out.alloc _).drewN _, (HBQ.out.alloc _).drewN _, (hc.alloc _).drewN _⟩
    case measure => simp [intOf]
  · have q0 := hbq.cell' (i := 6) rfl
    have q1 := hbq.cell' (i := 7) rfl
    have q2 := hbq.cell' (i := 8) rfl
    unfold encK
    clear hbi hbq
    go_wp2_with fail
    go_quiet ((go_at_call 100; exact Calls.quiet_of_same (fld3' ib _)))
    go_wp2
    go_roundw
    case rel => exact ⟨3, by omega, rfl, congrArg (Value.int .u32) (enc3 ⟨ho1, ho2⟩ hx hy hz), (HBI.out.alloc _).drewN _, (HBQ.out.alloc _).drewN _, (hc.alloc _).drewN _⟩
    case measure => simp [intOf]
  · have q0 := hbq.cell' (i := 9) rfl
    have q1 := hbq.cell' (i := 10) rfl
    have q2 := hbq.cell' (i := 11) rfl
    unfold encK
    clear hbi hbq
    go_wp2_with fail
    go_quiet ((go_at_call 101; exact Calls.quiet_of_same (fld4' ib _)))
    go_wp2
    go_roundw
    case rel => exact ⟨4, by omega, rfl, congrArg (Value.int .u32) (enc4 ⟨ho1, ho2⟩ hx hy hz HZU.out), (HBI.out.alloc _).drewN _, (HBQ.out.alloc _).drewN _, (hc.alloc _).drewN _⟩
    case measure => simp [intOf]
  · clear hbi hbq
    go_wp2
    go_ret2
    exact ⟨rfl, hc⟩
end Go.Proofs.YthnhilghjadigaaGreatDoor

/- The walks of package code: Decode; and of the reference's Encode. -/
namespace Go.Proofs.YthnhilghjadigaaGreatDoor
open Go.RowKit Go.Deep
set_option linter.unusedVariables false
def decC (n op : Int) (a b c d : UInt8) : Nat → List Value
 | 0 => insC op 0 0 0 0
 | 1 => insC op (dx n a) 0 0 0
 | 2 => insC op (dx n a) (dy n b) 0 0
 | 3 => insC op (dx n a) (dy n b) (dz n c) 0
 | _ => insC op (dx n a) (dy n b) (dz n c) (du n d)
theorem decC_set0 (n op : Int) (a b c d : UInt8) (V : Int) (h : V = dx n a) : (decC n op a b c d 0).set 1 (.int .i64 V) = decC n op a b c d 1 := by rw [h]; rfl
theorem decC_set1 (n op : Int) (a b c d : UInt8) (V : Int) (h : V = dy n b) : (decC n op a b c d 1).set 2 (.int .i64 V) = decC n op a b c d 2 := by rw [h]; rfl
theorem decC_set2 (n op : Int) (a b c d : UInt8) (V : Int) (h : V = dz n c) : (decC n op a b c d 2).set 3 (.int .i64 V) = decC n op a b c d 3 := by rw [h]; rfl
theorem decC_set3 (n op : Int) (a b c d : UInt8) (V : Int) (h : V = du n d) : (decC n op a b c d 3).set 4 (.int .i64 V) = decC n op a b c d 4 := by rw [h]; rfl
def DecRel (w : World) (n op : Int) (a b c d : UInt8) (rb ib q : Nat) (v : Value) (wr : World) : Prop :=
 ∃ k : Nat, k ≤ 4 ∧ v = .int .i64 (k : Int) ∧ Blk wr ib 96 (decC n op a b c d k) ∧ Blk wr q 161 fcells ∧ Blk wr rb 96 (insC 0 0 0 0 0) ∧ Chg w wr []
set_option maxHeartbeats 400000 in
theorem decode_none (n : Int) (w : World) (hn0 : 0 ≤ n) (hn1 : n ≤ 4294967295) (h : shp (n / 67108864) = []) :
 Calls Tryz.prog 54 #[.int .u32 n] w fun e w' => e = .returned (.tuple #[insV 0 0 0 0 0, .int .i64 2]) ∧ Chg w w' [] := by
 have H := hide h
 clear h
 go_enter Tryz.func54, Tryz.ntmps54
 go_wp2_with (go_at_call 78; refine (shape_any _ _).mono ?_; rintro e w2 ⟨rfl, rfl⟩; rw [H.out])
 exact bodyPost_ret (v := .tuple #[insV 0 0 0 0 0, .int .i64 2]) (by simp [results, Tryz.results54, go_sem]) rfl ⟨rfl, ((Chg.refl _ _).alloc _).alloc _⟩
def decOut (n : Int) (a b c d : UInt8) : Value :=
 if encK (n / 67108864) (dx n a) (dy n b) (dz n c) (du n d) 4 = n then .tuple #[insV (n / 67108864) (dx n a) (dy n b) (dz n c) (du n d), .int .i64 0] else .tuple #[insV 0 0 0 0 0, .int .i64 3]
set_option maxRecDepth 100000 in
set_option maxHeartbeats 4000000 in
theorem decode_some (n : Int) (a b c d : UInt8) (w : World) (hn0 : 0 ≤ n) (hn1 : n ≤ 4294967295) (h : shp (n / 67108864) = [a, b, c, d]) :
 Calls Tryz.prog 54 #[.int .u32 n] w fun e w' => e = .returned (decOut n a b c d) ∧ Chg w w' [] := by
 go_enter Tryz.func54, Tryz.ntmps54
 go_wp2_with fail
 refine (shape_any _ _).mono ?_
 rintro e w2 ⟨rfl, rfl⟩
 rw [h]
 have HCH := hide (dec_chk hn0 h)
 clear h
 go_wp2_with fail
 refine (fields_any a b c d _).mono ?_
 rintro e w2 ⟨rfl, rfl⟩
 have hstart : DecRel w n (n / 67108864) a b c d w.heap.size (w.heap.size + 1) (w.heap.size + 2) (.int .i64 (0 : Nat)) (((w.alloc (.cells (insC 0 0 0 0 0).toArray 96)).alloc (.cells (insC (n / 67108864) 0 0 0 0).toArray 96)).alloc (.cells fcells.toArray 161)) := by
  have b0 := Blk.new w 96 (insC 0 0 0 0 0)
  have b1 := Blk.new (w.alloc (.cells (insC 0 0 0 0 0).toArray 96)) 96 (insC (n / 67108864) 0 0 0 0)
  have b2 := Blk.new ((w.alloc (.cells (insC 0 0 0 0 0).toArray 96)).alloc (.cells (insC (n / 67108864) 0 0 0 0).toArray 96)) 161 fcells
  rw [size_alloc] at b1 b2
  rw [size_alloc] at b2
  exact ⟨0, by omega, rfl, b1.alloc _, b2, (b0.alloc _).alloc _, (((Chg.refl _ _).alloc _).alloc _).alloc _⟩
 go_wp2_with fail
 have hsz : w.heap.size + 1 + 1 = w.heap.size + 2 := rfl
 generalize hwl : ((w.alloc (.cells (insC 0 0 0 0 0).toArray 96)).alloc (.cells (insC (n / 67108864) 0 0 0 0).toArray 96)).alloc (.cells fcells.toArray 161) = wl at *
 clear hwl
 go_loopw [24] (fun v wr => DecRel w n (n / 67108864) a b c d w.heap.size (w.heap.size + 1) (w.heap.size + 2) v wr) (fun i _ => 4 - (intOf i).toNat)
 case atStart => exact hstart
 case round =>
  clear hstart
  obtain ⟨k, hk, rfl, hbi, hbq, hbr, hc⟩ := hrel
  have kk : k = 0 ∨ k = 1 ∨ k = 2 ∨ k = 3 ∨ k = 4 := by omega
  have hbil := hbi.lt
  have hbql := hbq.lt
  have hbrl := hbr.lt
  have HBI := hide hbi
  have HBQ := hide hbq
  have HBR := hide hbr
  have HC := hide hc
  clear hc
  have key : ∀ l m : UInt8, l ≠ m → ((l.toNat : Int) == (m.toNat : Int)) = false := fun l m h => by
   rw [beq_eq_false_iff_ne]; intro h2; exact h (by rw [← UInt8.toNat_inj]; omega)
  have HK := hide key
  clear key
  rcases kk with rfl | rfl | rfl | rfl | rfl
  · have q0 := hbq.cell' (i := 0) rfl
    have q1 := hbq.cell' (i := 1) rfl
    have q2 := hbq.cell' (i := 2) rfl
    have c4 := hbi.cell' (i := 1) rfl
    have f4 := hbi.frozen 1
    clear hbi hbq hbr
    by_cases h1 : a = 45
    · subst h1
      go_wp2_with (first | (go_at_call 98; refine (fld1 _ _).mono ?_; rintro e w2 ⟨rfl, rfl⟩))
      · refine ⟨⟨1, by omega, rfl, ?_, (HBQ.out.far (p := ⟨w.heap.size + 1, 1, none⟩) (by show w.heap.size + 2 ≠ w.heap.size + 1; omega) _).alloc _, (HBR.out.far (p := ⟨w.heap.size + 1, 1, none⟩) (by show w.heap.size ≠ w.heap.size + 1; omega) _).alloc _, (HC.out.setCell ⟨w.heap.size + 1, 1, none⟩ _ (.inr (by show w.heap.size ≤ w.heap.size + 1; omega))).alloc _⟩, by simp [intOf]⟩
        have hset := (HBI.out.set_ 1 (.int .i64 (0))).alloc (.cells #[.func (.func 98) #[] #[], .int .u64 21, .int .u64 5] 161)
        rw [decC_set0 _ _ _ _ _ _ _ (by rfl)] at hset
        exact hset
    · have k1 : ((((⟨#[a, b, c, d]⟩ : ByteArray)[0]'(by show 0 < 4; omega)).toNat : Int) == 45) = false := HK.out a 45 h1
      have H1 := hide h1
      clear h1
      by_cases h2 : a = 115
      · subst h2
        go_wp2_with (first | (go_at_call 98; refine (fld1 _ _).mono ?_; rintro e w2 ⟨rfl, rfl⟩))
        refine ⟨⟨1, by omega, rfl, ?_, (HBQ.out.far (p := ⟨w.heap.size + 1, 1, none⟩) (by show w.heap.size + 2 ≠ w.heap.size + 1; omega) _).alloc _, (HBR.out.far (p := ⟨w.heap.size + 1, 1, none⟩) (by show w.heap.size ≠ w.heap.size + 1; omega) _).alloc _, (HC.out.setCell ⟨w.heap.size + 1, 1, none⟩ _ (.inr (by show w.heap.size ≤ w.heap.size + 1; omega))).alloc _⟩, by simp [intOf]⟩
        have hset := (HBI.out.set_ 1 (.int .i64 (wrap64 (IntKind.i16.wrap (wrap64 (bits .and .u32 (n / 2097152) 31)))))).alloc (.cells #[.func (.func 98) #[] #[], .int .u64 21, .int .u64 5] 161)
        rw [decC_set0 _ _ _ _ _ _ _ (by rw [raw31 _ (by omega) (by omega), sx64]; unfold dx fx; rw [if_neg (by decide), if_pos rfl])] at hset
        exact hset
      · have k2 : ((((⟨#[a, b, c, d]⟩ : ByteArray)[0]'(by show 0 < 4; omega)).toNat : Int) == 115) = false := HK.out a 115 h2
        have H2 := hide h2
        clear h2
        go_wp2_with (first | (go_at_call 98; refine (fld1 _ _).mono ?_; rintro e w2 ⟨rfl, rfl⟩))
        refine ⟨⟨1, by omega, rfl, ?_, (HBQ.out.far (p := ⟨w.heap.size + 1, 1, none⟩) (by show w.heap.size + 2 ≠ w.heap.size + 1; omega) _).alloc _, (HBR.out.far (p := ⟨w.heap.size + 1, 1, none⟩) (by show w.heap.size ≠ w.heap.size + 1; omega) _).alloc _, (HC.out.setCell ⟨w.heap.size + 1, 1, none⟩ _ (.inr (by show w.heap.size ≤ w.heap.size + 1; omega))).alloc _⟩, by simp [intOf]⟩
        have hset := (HBI.out.set_ 1 (.int .i64 (wrap64 (bits .and .u32 (n / 2097152) 31)))).alloc (.cells #[.func (.func 98) #[] #[], .int .u64 21, .int .u64 5] 161)
        rw [decC_set0 _ _ _ _ _ _ _ (by rw [raw31 _ (by omega) (by omega)]; unfold dx fx; rw [if_neg H1.out, if_neg H2.out])] at hset
        exact hset
  · have q0 := hbq.cell' (i := 3) rfl
    have q1 := hbq.cell' (i := 4) rfl
    have q2 := hbq.cell' (i := 5) rfl
    have c4 := hbi.cell' (i := 2) rfl
    have f4 := hbi.frozen 2
    clear hbi hbq hbr
    by_cases h1 : b = 45
    · subst h1
      go_wp2_with (first | (go_at_call 99; refine (fld2 _ _).mono ?_; rintro e w2 ⟨rfl, rfl⟩))
      · refine ⟨⟨2, by omega, rfl, ?_, (HBQ.out.far (p := ⟨w.heap.size + 1, 2, none⟩) (by show w.heap.size + 2 ≠ w.heap.size + 1; omega) _).alloc _, (HBR.out.far (p := ⟨w.heap.size + 1, 2, none⟩) (by show w.heap.size ≠ w.heap.size + 1; omega) _).alloc _, (HC.out.setCell ⟨w.heap.size + 1, 2, none⟩ _ (.inr (by show w.heap.size ≤ w.heap.size + 1; omega))).alloc _⟩, by simp [intOf]⟩
        have hset := (HBI.out.set_ 2 (.int .i64 (0))).alloc (.cells #[.func (.func 99) #[] #[], .int .u64 16, .int .u64 5] 161)
        rw [decC_set1 _ _ _ _ _ _ _ (by rfl)] at hset
        exact hset
    · have k1 : ((((⟨#[a, b, c, d]⟩ : ByteArray)[1]'(by show 1 < 4; omega)).toNat : Int) == 45) = false := HK.out b 45 h1
      have H1 := hide h1
      clear h1
      by_cases h2 : b = 115
      · subst h2
        go_wp2_with (first | (go_at_call 99; refine (fld2 _ _).mono ?_; rintro e w2 ⟨rfl, rfl⟩))
        refine ⟨⟨2, by omega, rfl, ?_, (HBQ.out.far (p := ⟨w.heap.size + 1, 2, none⟩) (by show w.heap.size + 2 ≠ w.heap.size + 1; omega) _).alloc _, (HBR.out.far (p := ⟨w.heap.size + 1, 2, none⟩) (by show w.heap.size ≠ w.heap.size + 1; omega) _).alloc _, (HC.out.setCell ⟨w.heap.size + 1, 2, none⟩ _ (.inr (by show w.heap.size ≤ w.heap.size + 1; omega))).alloc _⟩, by simp [intOf]⟩
        have hset := (HBI.out.set_ 2 (.int .i64 (wrap64 (IntKind.i16.wrap (wrap64 (bits .and .u32 (n / 65536) 31)))))).alloc (.cells #[.func (.func 99) #[] #[], .int .u64 16, .int .u64 5] 161)
        rw [decC_set1 _ _ _ _ _ _ _ (by rw [raw31 _ (by omega) (by omega), sx64]; unfold dy fx; rw [if_neg (by decide), if_pos rfl])] at hset
        exact hset
      · have k2 : ((((⟨#[a, b, c, d]⟩ : ByteArray)[1]'(by show 1 < 4; omega)).toNat : Int) == 115) = false := HK.out b 115 h2
        have H2 := hide h2
        clear h2
        go_wp2_with (first | (go_at_call 99; refine (fld2 _ _).mono ?_; rintro e w2 ⟨rfl, rfl⟩))
        refine ⟨⟨2, by omega, rfl, ?_, (HBQ.out.far (p := ⟨w.heap.size + 1, 2, none⟩) (by show w.heap.size + 2 ≠ w.heap.size + 1; omega) _).alloc _, (HBR.out.far (p := ⟨w.heap.size + 1, 2, none⟩) (by show w.heap.size ≠ w.heap.size + 1; omega) _).alloc _, (HC.out.setCell ⟨w.heap.size + 1, 2, none⟩ _ (.inr (by show w.heap.size ≤ w.heap.size + 1; omega))).alloc _⟩, by simp [intOf]⟩
        have hset := (HBI.out.set_ 2 (.int .i64 (wrap64 (bits .and .u32 (n / 65536) 31)))).alloc (.cells #[.func (.func 99) #[] #[], .int .u64 16, .int .u64 5] 161)
        rw [decC_set1 _ _ _ _ _ _ _ (by rw [raw31 _ (by omega) (by omega)]; unfold dy fx; rw [if_neg H1.out, if_neg H2.out])] at hset
        exact hset
  · have q0 := hbq.cell' (i := 6) rfl
    have q1 := hbq.cell' (i := 7) rfl
    have q2 := hbq.cell' (i := 8) rfl
    have c4 := hbi.cell' (i := 3) rfl
    have f4 := hbi.frozen 3
    clear hbi hbq hbr
    by_cases h1 : c = 45
    · subst h1
      go_wp2_with (first | (go_at_call 100; refine (fld3 _ _).mono ?_; rintro e w2 ⟨rfl, rfl⟩))
      · refine ⟨⟨3, by omega, rfl, ?_, (HBQ.out.far (p := ⟨w.heap.size + 1, 3, none⟩) (by show w.heap.size + 2 ≠ w.heap.size + 1; omega) _).alloc _, (HBR.out.far (p := ⟨w.heap.size + 1, 3, none⟩) (by show w.heap.size ≠ w.heap.size + 1; omega) _).alloc _, (HC.out.setCell ⟨w.heap.size + 1, 3, none⟩ _ (.inr (by show w.heap.size ≤ w.heap.size + 1; omega))).alloc _⟩, by simp [intOf]⟩
        have hset := (HBI.out.set_ 3 (.int .i64 (0))).alloc (.cells #[.func (.func 100) #[] #[], .int .u64 11, .int .u64 5] 161)
        rw [decC_set2 _ _ _ _ _ _ _ (by rfl)] at hset
        exact hset
    · have k1 : ((((⟨#[a, b, c, d]⟩ : ByteArray)[2]'(by show 2 < 4; omega)).toNat : Int) == 45) = false := HK.out c 45 h1
      have H1 := hide h1
      clear h1
      by_cases h2 : c = 115
      · subst h2
        go_wp2_with (first | (go_at_call 100; refine (fld3 _ _).mono ?_; rintro e w2 ⟨rfl, rfl⟩))
        refine ⟨⟨3, by omega, rfl, ?_, (HBQ.out.far (p := ⟨w.heap.size + 1, 3, none⟩) (by show w.heap.size + 2 ≠ w.heap.size + 1; omega) _).alloc _, (HBR.out.far (p := ⟨w.heap.size + 1, 3, none⟩) (by show w.heap.size ≠ w.heap.size + 1; omega) _).alloc _, (HC.out.setCell ⟨w.heap.size + 1, 3, none⟩ _ (.inr (by show w.heap.size ≤ w.heap.size + 1; omega))).alloc _⟩, by simp [intOf]⟩
        have hset := (HBI.out.set_ 3 (.int .i64 (wrap64 (IntKind.i16.wrap (wrap64 (bits .and .u32 (n / 2048) 31)))))).alloc (.cells #[.func (.func 100) #[] #[], .int .u64 11, .int .u64 5] 161)
        rw [decC_set2 _ _ _ _ _ _ _ (by rw [raw31 _ (by omega) (by omega), sx64]; unfold dz fx; rw [if_neg (by decide), if_pos rfl])] at hset
        exact hset
      · have k2 : ((((⟨#[a, b, c, d]⟩ : ByteArray)[2]'(by show 2 < 4; omega)).toNat : Int) == 115) = false := HK.out c 115 h2
        have H2 := hide h2
        clear h2
        go_wp2_with (first | (go_at_call 100; refine (fld3 _ _).mono ?_; rintro e w2 ⟨rfl, rfl⟩))
        refine ⟨⟨3, by omega, rfl, ?_, (HBQ.out.far (p := ⟨w.heap.size + 1, 3, none⟩) (by show w.heap.size + 2 ≠ w.heap.size + 1; omega) _).alloc _, (HBR.out.far (p := ⟨w.heap.size + 1, 3, none⟩) (by show w.heap.size ≠ w.heap.size + 1; omega) _).alloc _, (HC.out.setCell ⟨w.heap.size + 1, 3, none⟩ _ (.inr (by show w.heap.size ≤ w.heap.size + 1; omega))).alloc _⟩, by simp [intOf]⟩
        have hset := (HBI.out.set_ 3 (.int .i64 (wrap64 (bits .and .u32 (n / 2048) 31)))).alloc (.cells #[.func (.func 100) #[] #[], .int .u64 11, .int .u64 5] 161)
        rw [decC_set2 _ _ _ _ _ _ _ (by rw [raw31 _ (by omega) (by omega)]; unfold dz fx; rw [if_neg H1.out, if_neg H2.out])] at hset
        exact hset
  · have q0 := hbq.cell' (i := 9) rfl
    have q1 := hbq.cell' (i := 10) rfl
    have q2 := hbq.cell' (i := 11) rfl
    have c4 := hbi.cell' (i := 4) rfl
    have f4 := hbi.frozen 4
    clear hbi hbq hbr
    by_cases h1 : d = 45
    · subst h1
      go_wp2_with (first | (go_at_call 101; refine (fld4 _ _).mono ?_; rintro e w2 ⟨rfl, rfl⟩))
      · refine ⟨⟨4, by omega, rfl, ?_, (HBQ.out.far (p := ⟨w.heap.size + 1, 4, none⟩) (by show w.heap.size + 2 ≠ w.heap.size + 1; omega) _).alloc _, (HBR.out.far (p := ⟨w.heap.size + 1, 4, none⟩) (by show w.heap.size ≠ w.heap.size + 1; omega) _).alloc _, (HC.out.setCell ⟨w.heap.size + 1, 4, none⟩ _ (.inr (by show w.heap.size ≤ w.heap.size + 1; omega))).alloc _⟩, by simp [intOf]⟩
        have hset := (HBI.out.set_ 4 (.int .i64 (0))).alloc (.cells #[.func (.func 101) #[] #[], .int .u64 0, .int .u64 16] 161)
        rw [decC_set3 _ _ _ _ _ _ _ (by rfl)] at hset
        exact hset
    · have k1 : ((((⟨#[a, b, c, d]⟩ : ByteArray)[3]'(by show 3 < 4; omega)).toNat : Int) == 45) = false := HK.out d 45 h1
      have H1 := hide h1
      clear h1
      by_cases h2 : d = 115
      · subst h2
        go_wp2_with (first | (go_at_call 101; refine (fld4 _ _).mono ?_; rintro e w2 ⟨rfl, rfl⟩))
        refine ⟨⟨4, by omega, rfl, ?_, (HBQ.out.far (p := ⟨w.heap.size + 1, 4, none⟩) (by show w.heap.size + 2 ≠ w.heap.size + 1; omega) _).alloc _, (HBR.out.far (p := ⟨w.heap.size + 1, 4, none⟩) (by show w.heap.size ≠ w.heap.size + 1; omega) _).alloc _, (HC.out.setCell ⟨w.heap.size + 1, 4, none⟩ _ (.inr (by show w.heap.size ≤ w.heap.size + 1; omega))).alloc _⟩, by simp [intOf]⟩
        have hset := (HBI.out.set_ 4 (.int .i64 (wrap64 (IntKind.i16.wrap (wrap64 (bits .and .u32 (n) 65535)))))).alloc (.cells #[.func (.func 101) #[] #[], .int .u64 0, .int .u64 16] 161)
        rw [decC_set3 _ _ _ _ _ _ _ (by rw [raw65535 _ (by omega) (by omega), sx64]; unfold du fx; rw [if_neg (by decide), if_pos rfl])] at hset
        exact hset
      · have k2 : ((((⟨#[a, b, c, d]⟩ : ByteArray)[3]'(by show 3 < 4; omega)).toNat : Int) == 115) = false := HK.out d 115 h2
        have H2 := hide h2
        clear h2
        go_wp2_with (first | (go_at_call 101; refine (fld4 _ _).mono ?_; rintro e w2 ⟨rfl, rfl⟩))
        refine ⟨⟨4, by omega, rfl, ?_, (HBQ.out.far (p := ⟨w.heap.size + 1, 4, none⟩) (by show w.heap.size + 2 ≠ w.heap.size + 1; omega) _).alloc _, (HBR.out.far (p := ⟨w.heap.size + 1, 4, none⟩) (by show w.heap.size ≠ w.heap.size + 1; omega) _).alloc _, (HC.out.setCell ⟨w.heap.size + 1, 4, none⟩ _ (.inr (by show w.heap.size ≤ w.heap.size + 1; omega))).alloc _⟩, by simp [intOf]⟩
        have hset := (HBI.out.set_ 4 (.int .i64 (wrap64 (bits .and .u32 (n) 65535)))).alloc (.cells #[.func (.func 101) #[] #[], .int .u64 0, .int .u64 16] 161)
        rw [decC_set3 _ _ _ _ _ _ _ (by rw [raw65535 _ (by omega) (by omega)]; unfold du fx; rw [if_neg H1.out, if_neg H2.out])] at hset
        exact hset
  · have c0 := hbi.cell' (i := 0) rfl
    have c1 := hbi.cell' (i := 1) rfl
    have c2 := hbi.cell' (i := 2) rfl
    have c3 := hbi.cell' (i := 3) rfl
    have c4 := hbi.cell' (i := 4) rfl
    have r0 := hbr.cell' (i := 0) rfl
    have r1 := hbr.cell' (i := 1) rfl
    have r2 := hbr.cell' (i := 2) rfl
    have r3 := hbr.cell' (i := 3) rfl
    have r4 := hbr.cell' (i := 4) rfl
    clear hbi hbq hbr HK
    have hge := HC.out.size
    clear r0 r1 r2 r3 r4
    by_cases heq : encK (n / 67108864) (dx n a) (dy n b) (dz n c) (du n d) 4 = n
    · have HO := hide (show decOut n a b c d = _ from if_pos heq)
      have HE := hide heq
      clear heq
      generalize dx n a = X at *
      generalize dy n b = Y at *
      generalize dz n c = Z at *
      generalize du n d = U at *
      have hnn : (n != n) = false := by simp
      go_wp2_with fail
      refine (encode_good _ X Y Z U _ HCH.out).mono ?_
      rintro e w5 ⟨rfl, hc5⟩
      rw [HE.out]
      replace c0 := hc5.cell c0 (by simp)
      replace c1 := hc5.cell c1 (by simp)
      replace c2 := hc5.cell c2 (by simp)
      replace c3 := hc5.cell c3 (by simp)
      replace c4 := hc5.cell c4 (by simp)
      have HB5 := hide (HBR.out.chg hc5 (by simp))
      have r0 := HB5.out.cell' (i := 0) rfl
      have r1 := HB5.out.cell' (i := 1) rfl
      have r2 := HB5.out.cell' (i := 2) rfl
      have r3 := HB5.out.cell' (i := 3) rfl
      have r4 := HB5.out.cell' (i := 4) rfl
      have f0 := HB5.out.frozen 0
      have f1 := HB5.out.frozen 1
      have f2 := HB5.out.frozen 2
      have f3 := HB5.out.frozen 3
      have f4 := HB5.out.frozen 4
      have hl5 := HB5.out.lt
      replace HC := hide (HC.out.trans hc5 (by simp))
      go_wp2
      refine bodyPost_ret (v := .tuple #[insV (n / 67108864) X Y Z U, .int .i64 0]) (by simp [results, Tryz.results54, go_sem, r0, r1, r2, r3, r4]) rfl ⟨by rw [HO.out], ?_⟩
      exact ((((HC.out.setCell _ _ (.inr (Nat.le_refl _))).setCell _ _ (.inr (Nat.le_refl _))).setCell _ _ (.inr (Nat.le_refl _))).setCell _ _ (.inr (Nat.le_refl _))).setCell _ _ (.inr (Nat.le_refl _))
    · have HO := hide (show decOut n a b c d = _ from if_neg heq)
      have HE := hide heq
      clear heq
      generalize dx n a = X at *
      generalize dy n b = Y at *
      generalize dz n c = Z at *
      generalize du n d = U at *
      have hnn : (encK (n / 67108864) X Y Z U 4 != n) = true := by rw [bne_iff_ne]; exact HE.out
      go_wp2_with fail
      refine (encode_good _ X Y Z U _ HCH.out).mono ?_
      rintro e w5 ⟨rfl, hc5⟩
      generalize encK (n / 67108864) X Y Z U 4 = E at *
      replace c0 := hc5.cell c0 (by simp)
      replace c1 := hc5.cell c1 (by simp)
      replace c2 := hc5.cell c2 (by simp)
      replace c3 := hc5.cell c3 (by simp)
      replace c4 := hc5.cell c4 (by simp)
      have HB5 := hide (HBR.out.chg hc5 (by simp))
      have r0 := HB5.out.cell' (i := 0) rfl
      have r1 := HB5.out.cell' (i := 1) rfl
      have r2 := HB5.out.cell' (i := 2) rfl
      have r3 := HB5.out.cell' (i := 3) rfl
      have r4 := HB5.out.cell' (i := 4) rfl
      have f0 := HB5.out.frozen 0
      have f1 := HB5.out.frozen 1
      have f2 := HB5.out.frozen 2
      have f3 := HB5.out.frozen 3
      have f4 := HB5.out.frozen 4
      have hl5 := HB5.out.lt
      replace HC := hide (HC.out.trans hc5 (by simp))
      go_wp2
      refine bodyPost_ret (v := .tuple #[insV 0 0 0 0 0, .int .i64 3]) (by simp [results, Tryz.results54, go_sem, r0, r1, r2, r3, r4]) rfl ⟨by rw [HO.out], ?_⟩
      exact ((((HC.out.setCell _ _ (.inr (Nat.le_refl _))).setCell _ _ (.inr (Nat.le_refl _))).setCell _ _ (.inr (Nat.le_refl _))).setCell _ _ (.inr (Nat.le_refl _))).setCell _ _ (.inr (Nat.le_refl _))
end Go.Proofs.YthnhilghjadigaaGreatDoor

/- Decode as one contract, and that an encoded instruction decodes to itself (where the document's Decode is not reached). -/
namespace Go.Proofs.YthnhilghjadigaaGreatDoor
open Go.RowKit Go.Deep
set_option linter.unusedVariables false
theorem decOut_good {n : Int} {a b c d : UInt8} {x y z u : Int} (h1 : dx n a = x) (h2 : dy n b = y) (h3 : dz n c = z) (h4 : du n d = u) (h : encK (n / 67108864) x y z u 4 = n) : decOut n a b c d = .tuple #[insV (n / 67108864) x y z u, .int .i64 0] := by
 unfold decOut; rw [h1, h2, h3, h4, if_pos h]
def decAll (n : Int) : Value := match shp (n / 67108864) with
 | [a, b, c, d] => decOut n a b c d
 | _ => .tuple #[insV 0 0 0 0 0, .int .i64 2]
theorem decode_any (n : Int) (w : World) (hn0 : 0 ≤ n) (hn1 : n ≤ 4294967295) :
 Calls Tryz.prog 54 #[.int .u32 n] w fun e w' => e = .returned (decAll n) ∧ Chg w w' [] := by
 unfold decAll
 rcases shp_form (n / 67108864) with h | ⟨a, b, c, d, h⟩
 · rw [h]; exact decode_none n w hn0 hn1 h
 · rw [h]; exact decode_some n a b c d w hn0 hn1 h
theorem decAll_of {n op : Int} {a b c d : UInt8} {x y z u : Int} (ho : n / 67108864 = op) (h : shp op = [a, b, c, d]) (h1 : dx n a = x) (h2 : dy n b = y) (h3 : dz n c = z) (h4 : du n d = u) (he : encK op x y z u 4 = n) :
 decAll n = .tuple #[insV op x y z u, .int .i64 0] := by
 subst ho
 unfold decAll
 rw [h]
 exact decOut_good h1 h2 h3 h4 he
theorem dec_enc (op x y z u : Int) (h : Fits op x y z u) : decAll (encK op x y z u 4) = .tuple #[insV op x y z u, .int .i64 0] := by
 have hb := fits_bounds h
 have hE : encK op x y z u 4 = op * 67108864 + x * 2097152 + y * 65536 + z * 2048 + u % 65536 := rfl
 generalize hn : encK op x y z u 4 = n at *
 have hop : n / 67108864 = op := by omega
 unfold Fits regOk at h
 rcases h with h | h | h | h | h | h | h | h
 · have hs : shp op = [100, 97, 98, 45] := by
    rcases shp_cases op with ⟨g, e⟩ | ⟨g, e⟩ | ⟨g, e⟩ | ⟨g, e⟩ | ⟨g, e⟩ | ⟨g, e⟩ | ⟨g, e⟩ | ⟨g, e⟩ | ⟨g, e⟩ | ⟨g, e⟩ <;> first | (rw [e]; done) | (exfalso; omega)
   exact decAll_of hop hs (by show fx 100 _ = _; unfold fx; rw [if_neg (by decide), if_neg (by decide)]; omega) (by show fx 97 _ = _; unfold fx; rw [if_neg (by decide), if_neg (by decide)]; omega) (by show fx 98 _ = _; unfold fx; rw [if_neg (by decide), if_neg (by decide)]; omega) (by show fx 45 _ = _; unfold fx; rw [if_pos rfl]; omega) hn
 · have hs : shp op = [100, 97, 45, 45] := by
    rcases shp_cases op with ⟨g, e⟩ | ⟨g, e⟩ | ⟨g, e⟩ | ⟨g, e⟩ | ⟨g, e⟩ | ⟨g, e⟩ | ⟨g, e⟩ | ⟨g, e⟩ | ⟨g, e⟩ | ⟨g, e⟩ <;> first | (rw [e]; done) | (exfalso; omega)
   exact decAll_of hop hs (by show fx 100 _ = _; unfold fx; rw [if_neg (by decide), if_neg (by decide)]; omega) (by show fx 97 _ = _; unfold fx; rw [if_neg (by decide), if_neg (by decide)]; omega) (by show fx 45 _ = _; unfold fx; rw [if_pos rfl]; omega) (by show fx 45 _ = _; unfold fx; rw [if_pos rfl]; omega) hn
 · have hs : shp op = [100, 97, 45, 115] := by
    rcases shp_cases op with ⟨g, e⟩ | ⟨g, e⟩ | ⟨g, e⟩ | ⟨g, e⟩ | ⟨g, e⟩ | ⟨g, e⟩ | ⟨g, e⟩ | ⟨g, e⟩ | ⟨g, e⟩ | ⟨g, e⟩ <;> first | (rw [e]; done) | (exfalso; omega)
   exact decAll_of hop hs (by show fx 100 _ = _; unfold fx; rw [if_neg (by decide), if_neg (by decide)]; omega) (by show fx 97 _ = _; unfold fx; rw [if_neg (by decide), if_neg (by decide)]; omega) (by show fx 45 _ = _; unfold fx; rw [if_pos rfl]; omega) (by show fx 115 _ = _; unfold fx; rw [if_neg (by decide), if_pos rfl, i16_wrap]; omega) hn
 · have hs : shp op = [100, 45, 45, 117] := by
    rcases shp_cases op with ⟨g, e⟩ | ⟨g, e⟩ | ⟨g, e⟩ | ⟨g, e⟩ | ⟨g, e⟩ | ⟨g, e⟩ | ⟨g, e⟩ | ⟨g, e⟩ | ⟨g, e⟩ | ⟨g, e⟩ <;> first | (rw [e]; done) | (exfalso; omega)
   exact decAll_of hop hs (by show fx 100 _ = _; unfold fx; rw [if_neg (by decide), if_neg (by decide)]; omega) (by show fx 45 _ = _; unfold fx; rw [if_pos rfl]; omega) (by show fx 45 _ = _; unfold fx; rw [if_pos rfl]; omega) (by show fx 117 _ = _; unfold fx; rw [if_neg (by decide), if_neg (by decide)]; omega) hn
 · have hs : shp op = [100, 97, 45, 117] := by
    rcases shp_cases op with ⟨g, e⟩ | ⟨g, e⟩ | ⟨g, e⟩ | ⟨g, e⟩ | ⟨g, e⟩ | ⟨g, e⟩ | ⟨g, e⟩ | ⟨g, e⟩ | ⟨g, e⟩ | ⟨g, e⟩ <;> first | (rw [e]; done) | (exfalso; omega)
   exact decAll_of hop hs (by show fx 100 _ = _; unfold fx; rw [if_neg (by decide), if_neg (by decide)]; omega) (by show fx 97 _ = _; unfold fx; rw [if_neg (by decide), if_neg (by decide)]; omega) (by show fx 45 _ = _; unfold fx; rw [if_pos rfl]; omega) (by show fx 117 _ = _; unfold fx; rw [if_neg (by decide), if_neg (by decide)]; omega) hn
 · have hs : shp op = [45, 45, 45, 117] := by
    rcases shp_cases op with ⟨g, e⟩ | ⟨g, e⟩ | ⟨g, e⟩ | ⟨g, e⟩ | ⟨g, e⟩ | ⟨g, e⟩ | ⟨g, e⟩ | ⟨g, e⟩ | ⟨g, e⟩ | ⟨g, e⟩ <;> first | (rw [e]; done) | (exfalso; omega)
   exact decAll_of hop hs (by show fx 45 _ = _; unfold fx; rw [if_pos rfl]; omega) (by show fx 45 _ = _; unfold fx; rw [if_pos rfl]; omega) (by show fx 45 _ = _; unfold fx; rw [if_pos rfl]; omega) (by show fx 117 _ = _; unfold fx; rw [if_neg (by decide), if_neg (by decide)]; omega) hn
 · have hs : shp op = [45, 97, 45, 45] := by
    rcases shp_cases op with ⟨g, e⟩ | ⟨g, e⟩ | ⟨g, e⟩ | ⟨g, e⟩ | ⟨g, e⟩ | ⟨g, e⟩ | ⟨g, e⟩ | ⟨g, e⟩ | ⟨g, e⟩ | ⟨g, e⟩ <;> first | (rw [e]; done) | (exfalso; omega)
   exact decAll_of hop hs (by show fx 45 _ = _; unfold fx; rw [if_pos rfl]; omega) (by show fx 97 _ = _; unfold fx; rw [if_neg (by decide), if_neg (by decide)]; omega) (by show fx 45 _ = _; unfold fx; rw [if_pos rfl]; omega) (by show fx 45 _ = _; unfold fx; rw [if_pos rfl]; omega) hn
 · have hs : shp op = [45, 45, 45, 45] := by
    rcases shp_cases op with ⟨g, e⟩ | ⟨g, e⟩ | ⟨g, e⟩ | ⟨g, e⟩ | ⟨g, e⟩ | ⟨g, e⟩ | ⟨g, e⟩ | ⟨g, e⟩ | ⟨g, e⟩ | ⟨g, e⟩ <;> first | (rw [e]; done) | (exfalso; omega)
   exact decAll_of hop hs (by show fx 45 _ = _; unfold fx; rw [if_pos rfl]; omega) (by show fx 45 _ = _; unfold fx; rw [if_pos rfl]; omega) (by show fx 45 _ = _; unfold fx; rw [if_pos rfl]; omega) (by show fx 45 _ = _; unfold fx; rw [if_pos rfl]; omega) hn
theorem dec_encI {i : Ins5} (h : chkI i = 0) : decAll (encI i) = .tuple #[insV i.op i.d i.a i.b i.n, .int .i64 0] := by
 unfold encI
 rw [if_pos h]
 exact dec_enc _ _ _ _ _ ((chk_iff _ _ _ _ _).1 h)
end Go.Proofs.YthnhilghjadigaaGreatDoor

/- Maps of one's own whose elements are ints of any kind, or bools, as functions of keys. -/
namespace Go.Proofs.YthnhilghjadigaaGreatDoor
open Go.RowKit Go.Maps
set_option linter.unusedVariables false
def MapL (w : World) (kty ety : TypeId) (m n : Nat) (f : Lit → Option Lit) : Prop :=
 ∃ D : DataW Unit, w.ownsMap Tryz.prog kty (plainElem Tryz.prog ety) m n D ∧ Tidy D ∧ IsMap D ∧ ∀ k, WideAt.IsKeyLit k → Maps.has D k = (f k).isSome ∧ ∀ z, D.atKey k (.lit z) = .lit ((f k).getD z)
theorem MapL.made (w : World) (kty ety : TypeId) : MapL (w.alloc (.map #[] 0)) kty ety w.heap.size 0 fun _ => none :=
 ⟨.map [], World.ownsMap_made _ _ _ _, tidy_empty, isMap_empty, fun k _ => ⟨rfl, fun _ => rfl⟩⟩
section
variable {w w' : World} {kty ety : TypeId} {m n : Nat} {f : Lit → Option Lit} {L : List Nat}
theorem MapL.lt (h : MapL w kty ety m n f) : m < w.heap.size := by
 obtain ⟨D, ⟨es, clock, hb, _⟩, _⟩ := h
 exact lt_of_heap hb
theorem MapL.obj (h : MapL w kty ety m n f) : ∃ es c, w.heap[m]? = some (.map es c) := by
 obtain ⟨D, ⟨es, clock, hb, _⟩, _⟩ := h
 exact ⟨es, clock, hb⟩
theorem MapL.chg (h : MapL w kty ety m n f) (hc : Chg w w' L) (hm : m ∉ L) : MapL w' kty ety m n f := by
 obtain ⟨D, ⟨es, clock, hb, hr⟩, hx⟩ := h
 exact ⟨D, ⟨es, clock, hc.heap hb hm, hr⟩, hx⟩
theorem MapL.alloc (h : MapL w kty ety m n f) (o : Obj) : MapL (w.alloc o) kty ety m n f := h.chg ((Chg.refl w []).alloc o) (by simp)
end
open Classical in
noncomputable def putL (f : Lit → Option Lit) (kl : Lit) (v : Lit) : Lit → Option Lit := fun k => if k = kl then some v else f k
section
variable {w : World} {ops : Array Oper} {rest : List Oper} {o : Oper} {a : Act} {Q : Exit → Act → World → Prop} (hg : o.guard = none) (mo x : Operand) (t : TypeId)
 (kty ety : TypeId) (q : IntKind) (K : Keyed Tryz.prog kty) (m n : Nat) (f : Lit → Option Lit)
include hg K
theorem wpList_lookLi (hop : o.op = Op.lookup t mo x true) (ht : Tryz.prog.underlying t = some (.map kty ety)) (he : Tryz.prog.underlying ety = some (.int q)) (hz : (zeroValue ety).run Tryz.prog w = .ok (.int q 0) w)
 (hm : a.eval mo = .map (some m)) (hM : MapL w kty ety m n f) (key : Value) (kl : Lit) (hx : a.eval x = key) (hkey : keyOf Tryz.prog kty key = some kl) (hk : WideAt.IsKeyLit kl) (v : Int) (hv : (f kl).getD (.int q 0) = .int q v)
 (hK : wpList Tryz.prog ops Q rest (a.put o.dst (.tuple #[.int q v, .bool (f kl).isSome])) w) :
 wpList Tryz.prog ops Q (o :: rest) a w := by
 obtain ⟨D, hown, hT, hD, hf⟩ := hM
 refine wpList_lookup_own_ok_int w hg mo x t hop kty ety q K ht he hz m n D hm hown key kl hx hkey ?_
 intro c hc _
 obtain ⟨h1, h2⟩ := hf kl hk
 rw [h2, hv] at hc
 injection hc with hc
 injection hc with _ hc
 rw [h1, ← hc]
 exact hK
theorem wpList_putLl (v : Operand) (hop : o.op = Op.mapUpdate t mo x v) (ht : Tryz.prog.underlying t = some (.map kty ety))
 (hm : a.eval mo = .map (some m)) (hM : MapL w kty ety m n f) (hn : n < maxLen) (key : Value) (kl : Lit) (hx : a.eval x = key) (hkey : keyOf Tryz.prog kty key = some kl) (hk : WideAt.IsKeyLit kl) (u : Value) (l : Lit)
 (hv : a.eval v = u) (hval : plainElem (H := Unit) Tryz.prog ety u = some (.lit l, []))
 (hK : ∀ w', MapL w' kty ety m (n + 1) (putL f kl l) → Chg w w' [m] → wpList Tryz.prog ops Q rest (a.put o.dst undef) w') :
 wpList Tryz.prog ops Q (o :: rest) a w := by
 obtain ⟨D, hown, hT, hD, hf⟩ := hM
 refine wpList_mapUpdate_own w hg mo x v t hop kty ety K ht (plainElem Tryz.prog ety) m n D hm hown hn key u kl hx hv hkey (.lit l) [] hval ?_
 intro w' h1 h2
 refine hK w' ⟨_, h1, hT.put hk _, hD.put kl _, fun k hkk => ?_⟩ (Chg.of_grown h2 (fun k hk => .inl (by simp at hk; simp [hk])))
 unfold putL
 by_cases e : k = kl
 · subst e
   rw [if_pos rfl, has_put_same hD hk]
   exact ⟨rfl, fun z => atKey_put_same hD hk _ _⟩
 · rw [if_neg e, has_put_other e]
   exact ⟨(hf k hkk).1, fun z => by rw [atKey_put_other e]; exact (hf k hkk).2 z⟩
end
end Go.Proofs.YthnhilghjadigaaGreatDoor
