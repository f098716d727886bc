/- ModelTells. -/
import Derived.Test.YtihgijhjhmjolaaGreatDoorMT18
import Derived.Test.YtihgijhjhmjolaaGreatDoorMT2
namespace Go.Proofs.YtihgijhjhmjolaaGreatDoor.Xi
open Go Go.RowKit Go.Deep
set_option linter.unusedVariables false
theorem conv_u8 {w : World} {v : Value} {xs : List Nat} (h : Sl w v (u8s xs)) (hx : ∀ x ∈ xs, x < 256) : (convert 26 9 v).run Tryz.prog w = .ok (.string (strOfNums (nI xs))) w := by
  refine conv_str (Bs.of_ints (z := nI xs) ?_ ?_)
  · unfold nI; rw [List.map_map]; exact h
  · intro n hn
    obtain ⟨y, hy, rfl⟩ := List.mem_map.1 hn
    have := hx y hy
    simp [Lit.wf, IntKind.min, IntKind.max, IntKind.signed, IntKind.bits]
    omega
theorem feedR_lt (x : St) {xs : List Nat} (hx : x.i64) : ∀ y ∈ (feedR x xs).2.1, y < 256 := by
  unfold feedR
  cases x.rb with
  | false => simp
  | true => cases decide (xs.length = 20) with
    | false => simp
    | true => exact frame_lt _ (flN_in xs)
theorem tellR_lt (x : St) (fl : Int) : ∀ y ∈ (tellR x fl).1, y < 256 := by
  unfold tellR
  cases x.rb with
  | false => simp
  | true =>
    cases h : decide (0 ≤ fl ∧ fl ≤ 7) with
    | false => simp
    | true => exact frame_lt x (of_decide_eq_true h)
theorem str_self (s : ByteArray) : (s.toList == s.toList) = true := by simp
def St.cells (x : St) : List Value := [.int .i32 x.q.a.v, .int .i32 x.q.b.v, .int .i32 x.q.c.v, .int .i32 x.q.d.v, .int .i64 x.s, .int .i64 x.f, .int .i64 x.g]
theorem c7 {w : World} {g : Nat} {t : TypeId} {a b c d e f h : Value} (H : Blk w g t [a, b, c, d, e, f, h]) : w.cell? ⟨g, 0, none⟩ = some a ∧ w.cell? ⟨g, 1, none⟩ = some b ∧ w.cell? ⟨g, 2, none⟩ = some c ∧ w.cell? ⟨g, 3, none⟩ = some d ∧ w.cell? ⟨g, 4, none⟩ = some e ∧ w.cell? ⟨g, 5, none⟩ = some f ∧ w.cell? ⟨g, 6, none⟩ = some h :=
  ⟨H.cell' (i := 0) rfl, H.cell' (i := 1) rfl, H.cell' (i := 2) rfl, H.cell' (i := 3) rfl, H.cell' (i := 4) rfl, H.cell' (i := 5) rfl, H.cell' (i := 6) rfl⟩
theorem St.val_eq (x : St) : x.val = .agg #[.int .i32 x.q.a.v, .int .i32 x.q.b.v, .int .i32 x.q.c.v, .int .i32 x.q.d.v, .int .i64 x.s, .int .i64 x.f, .int .i64 x.g] := rfl
set_option maxRecDepth 100000 in
set_option maxHeartbeats 8000000 in
theorem modelTells_calls (x : St) (hx : x.i64) (xs : List Nat) (hb : ∀ y ∈ xs, y < 256) (fl : Int) (hfl : -9223372036854775808 ≤ fl ∧ fl ≤ 9223372036854775807) (A : Option Addr) (n c : Nat) (hn : xs.length = n) (hm : n ≤ maxLen) (W : World) (hw : FTab W) (hs : Sl W (.slice A n c) (u8s xs)) :
    Calls Tryz.prog 3 #[.agg #[.int .i32 x.q.a.v, .int .i32 x.q.b.v, .int .i32 x.q.c.v, .int .i32 x.q.d.v, .int .i64 x.s, .int .i64 x.f, .int .i64 x.g], .slice A n c, .int .i64 fl] W fun e w' => e = .returned (.bool true) ∧ Chg W w' [] := by
  have HW := hide hw
  have HS := hide hs
  clear hw hs
  go_enter Tryz.func3, Tryz.ntmps3
  by_cases hgt : (100 : Int) < (n : Int)
  · go_wp2_with fail
    have h1 : Chg W (W.alloc (.cells #[.int .i32 x.q.a.v, .int .i32 x.q.b.v, .int .i32 x.q.c.v, .int .i32 x.q.d.v, .int .i64 x.s, .int .i64 x.f, .int .i64 x.g] 25)) [] := (Chg.refl W []).alloc _
    refine (awake37_calls _ (HW.out.chg h1 (by simp))).mono ?_
    rintro e w1 ⟨rfl, hc⟩
    have hend := hide (h1.trans hc (D := []) (by simp))
    clear hc h1
    go_wp2_with fail
    go_ret
    exact ⟨rfl, hend.out⟩
  · go_wp2_with fail
    generalize hw0 : W.alloc (.cells #[.int .i32 x.q.a.v, .int .i32 x.q.b.v, .int .i32 x.q.c.v, .int .i32 x.q.d.v, .int .i64 x.s, .int .i64 x.f, .int .i64 x.g] 25) = w0
    have h0 : Chg W w0 [] := by subst hw0; exact (Chg.refl W []).alloc _
    have b0 : Blk w0 W.heap.size 25 [.int .i32 x.q.a.v, .int .i32 x.q.b.v, .int .i32 x.q.c.v, .int .i32 x.q.d.v, .int .i64 x.s, .int .i64 x.f, .int .i64 x.g] := by subst hw0; exact Blk.new W _ _
    clear hw0
    have H0 := hide h0
    have B0 := hide b0
    obtain ⟨p0, p1, p2, p3, p4, p5, p6⟩ := c7 b0
    clear b0 h0
    have hF := hide (pfeed x hx xs hb (by unfold maxLen; omega) (.slice A n c) w0 (HW.out.chg H0.out (by simp)) (HS.out.keep H0.out))
    have hG := fun w => rfeed x hx xs hb (by unfold maxLen; omega) (.slice A n c) w
    have hlt := feedR_lt x (xs := xs) hx
    unfold feedC at hF hG
    generalize feedR x xs = R at hF hG hlt
    obtain ⟨y, ys, ye⟩ := R
    simp only at hF hG hlt
    rw [St.val_eq, St.val_eq] at hF
    simp only [St.val_eq] at hG
    have hG := hide hG
    go_wp2_with fail
    refine hF.out.mono ?_
    rintro e w1 ⟨⟨sv, rfl, hsv⟩, hc⟩
    have H1 := hide (H0.out.trans hc (D := []) (by simp))
    have B1 := hide (B0.out.chg hc (by simp))
    have S1 := hide hsv
    clear hF hc hsv p0 p1 p2 p3 p4 p5 p6 H0 B0
    obtain ⟨p0, p1, p2, p3, p4, p5, p6⟩ := c7 (B1.out.alloc (.cells #[.int .i32 y.q.a.v, .int .i32 y.q.b.v, .int .i32 y.q.c.v, .int .i32 y.q.d.v, .int .i64 y.s, .int .i64 y.f, .int .i64 y.g] 25))
    go_wp2_with fail
    clear p0 p1 p2 p3 p4 p5 p6
    generalize hw0 : w1.alloc (.cells #[.int .i32 y.q.a.v, .int .i32 y.q.b.v, .int .i32 y.q.c.v, .int .i32 y.q.d.v, .int .i64 y.s, .int .i64 y.f, .int .i64 y.g] 25) = w2
    have h0 : Chg w1 w2 [] := by subst hw0; exact (Chg.refl w1 []).alloc _
    have b0 : Blk w2 w1.heap.size 25 [.int .i32 y.q.a.v, .int .i32 y.q.b.v, .int .i32 y.q.c.v, .int .i32 y.q.d.v, .int .i64 y.s, .int .i64 y.f, .int .i64 y.g] := by subst hw0; exact Blk.new w1 _ _
    clear hw0
    have H2 := hide (H1.out.trans h0 (D := []) (by simp))
    have B2 := hide (B1.out.chg h0 (by simp))
    have S2 := hide (S1.out.keep h0)
    have C2 := hide b0
    clear b0 h0 H1 B1 S1
    refine (hG.out w2 (HW.out.chg H2.out (by simp)) (HS.out.keep H2.out)).mono ?_
    rintro e w3 ⟨⟨tv, rfl, htv⟩, hc⟩
    have H3 := hide (H2.out.trans hc (D := []) (by simp))
    have B3 := hide (B2.out.chg hc (by simp))
    have S3 := hide (S2.out.keep hc)
    have C3 := hide (C2.out.chg hc (by simp))
    have T3 := hide htv
    clear hc htv H2 B2 S2 C2
    obtain ⟨p0, p1, p2, p3, p4, p5, p6⟩ := c7 (B3.out.alloc (.cells #[.int .i32 y.q.a.v, .int .i32 y.q.b.v, .int .i32 y.q.c.v, .int .i32 y.q.d.v, .int .i64 y.s, .int .i64 y.f, .int .i64 y.g] 25))
    go_wp2_with fail
    clear p0 p1 p2 p3 p4 p5 p6
    generalize hw0 : w3.alloc (.cells #[.int .i32 y.q.a.v, .int .i32 y.q.b.v, .int .i32 y.q.c.v, .int .i32 y.q.d.v, .int .i64 y.s, .int .i64 y.f, .int .i64 y.g] 25) = w4
    have h0 : Chg w3 w4 [] := by subst hw0; exact (Chg.refl w3 []).alloc _
    have b0 : Blk w4 w3.heap.size 25 [.int .i32 y.q.a.v, .int .i32 y.q.b.v, .int .i32 y.q.c.v, .int .i32 y.q.d.v, .int .i64 y.s, .int .i64 y.f, .int .i64 y.g] := by subst hw0; exact Blk.new w3 _ _
    clear hw0
    have H4 := hide (H3.out.trans h0 (D := []) (by simp))
    have B4 := hide (B3.out.chg h0 (by simp))
    have S4 := hide (S3.out.keep h0)
    have T4 := hide (T3.out.keep h0)
    have C4 := hide (C3.out.chg h0 (by simp))
    have D4 := hide b0
    clear b0 h0 H3 B3 S3 T3 C3
    have hP := hide (ptell x hx fl hfl w4 (HW.out.chg H4.out (by simp)))
    have hQ := hide (fun w => rtell x hx fl hfl w)
    have hlt2 := tellR_lt x fl
    unfold tellP at hP hQ
    generalize tellR x fl = R at hP hQ hlt2
    obtain ⟨zs, ze⟩ := R
    simp only at hP hQ hlt2
    simp only [St.val_eq] at hP hQ
    refine hP.out.mono ?_
    rintro e w5 ⟨⟨uv, rfl, huv⟩, hc⟩
    have H5 := hide (H4.out.trans hc (D := []) (by simp))
    have B5 := hide (B4.out.chg hc (by simp))
    have S5 := hide (S4.out.keep hc)
    have T5 := hide (T4.out.keep hc)
    have U5 := hide huv
    have C5 := hide (C4.out.chg hc (by simp))
    have D5 := hide (D4.out.chg hc (by simp))
    clear hP hc huv H4 B4 S4 T4 C4 D4
    obtain ⟨p0, p1, p2, p3, p4, p5, p6⟩ := c7 B5.out
    go_wp2_with fail
    refine (hQ.out w5 (HW.out.chg H5.out (by simp))).mono ?_
    rintro e w6 ⟨⟨vv, rfl, hvv⟩, hc⟩
    have H6 := hide (H5.out.trans hc (D := []) (by simp))
    have S6 := conv_u8 (S5.out.keep hc) hlt
    have T6 := conv_u8 (T5.out.keep hc) hlt
    have U6 := conv_u8 (U5.out.keep hc) hlt2
    have V6 := conv_u8 hvv hlt2
    obtain ⟨q0, q1, q2, q3, q4, q5, q6⟩ := c7 (C5.out.chg hc (by simp))
    obtain ⟨r0, r1, r2, r3, r4, r5, r6⟩ := c7 (D5.out.chg hc (by simp))
    have e1 := eqS y.q.a.v y.q.b.v y.q.c.v y.q.d.v y.q.a.v y.q.b.v y.q.c.v y.q.d.v y.s y.f y.g y.s y.f y.g w6
    simp only [BEq.rfl, Bool.and_self] at e1
    have hq9 := eqQ9
    have ss := str_self
    clear hQ hc hvv p0 p1 p2 p3 p4 p5 p6 H5 B5 S5 T5 U5 C5 D5 hG hlt hlt2
    go_wp2_with fail
    refine (awake37_calls w6 (HW.out.chg H6.out (by simp))).mono ?_
    rintro e w7 ⟨rfl, hc⟩
    have H7 := hide (H6.out.trans hc (D := []) (by simp))
    clear hc
    go_wp2_with fail
    go_ret
    exact ⟨rfl, H7.out⟩
end Go.Proofs.YtihgijhjhmjolaaGreatDoor.Xi
