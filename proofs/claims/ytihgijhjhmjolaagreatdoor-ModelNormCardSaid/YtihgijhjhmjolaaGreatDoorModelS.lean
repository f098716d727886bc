/- ModelNorm. -/
import Derived.Test.YtihgijhjhmjolaaGreatDoorModelQ
import Derived.Test.YtihgijhjhmjolaaGreatDoorByteRows
import Derived.Test.YtihgijhjhmjolaaGreatDoorMT20
import Derived.Test.YtihgijhjhmjolaaGreatDoorMT19
namespace Go.Proofs.YtihgijhjhmjolaaGreatDoor.Xi
open Go Go.RowKit Go.Deep
set_option linter.unusedVariables false
def vNo (x y : St) (sl : Value) (j : Nat) (ptr rv : Value) (er : Int) (sv : Value) : Nat → Value
  | 0 => .agg #[.int .i32 x.q.a.v, .int .i32 x.q.b.v, .int .i32 x.q.c.v, .int .i32 x.q.d.v, .int .i64 x.s, .int .i64 x.f, .int .i64 x.g]
  | 1 => sl
  | 2 => .int .i64 j
  | 3 => ptr
  | 4 => rv
  | 5 => .tuple #[.agg #[.int .i32 y.q.a.v, .int .i32 y.q.b.v, .int .i32 y.q.c.v, .int .i32 y.q.d.v, .int .i64 y.s, .int .i64 y.f, .int .i64 y.g], sv, .int .i64 er]
  | 6 => .tuple #[.agg #[.int .i32 y.q.a.v, .int .i32 y.q.b.v, .int .i32 y.q.c.v, .int .i32 y.q.d.v, .int .i64 y.s, .int .i64 y.f, .int .i64 y.g], sv, .int .i64 er]
  | 7 => .agg #[.int .i32 y.q.a.v, .int .i32 y.q.b.v, .int .i32 y.q.c.v, .int .i32 y.q.d.v, .int .i64 y.s, .int .i64 y.f, .int .i64 y.g]
  | 8 => sv
  | 9 => .int .i64 er
  | _ => undef
structure WNo (w0 : World) (p : Nat) (x y : St) (L : Nat → Bool) (w : World) : Prop where
  chg : Chg w0 w [p]
  blk : Blk w p 25 (bif L 10 then [.int .i32 y.q.a.v, .int .i32 y.q.b.v, .int .i32 y.q.c.v, .int .i32 y.q.d.v, .int .i64 y.s, .int .i64 y.f, .int .i64 y.g] else [.int .i32 x.q.a.v, .int .i32 x.q.b.v, .int .i32 x.q.c.v, .int .i32 x.q.d.v, .int .i64 x.s, .int .i64 x.f, .int .i64 x.g])
theorem WNo.ext {w0 : World} {p : Nat} {x y : St} {L L' : Nat → Bool} {w : World} (h : WNo w0 p x y L w) (e : L 10 = L' 10) : WNo w0 p x y L' w :=
  ⟨h.chg, by rw [← e]; exact h.blk⟩
theorem WNo.keep {w0 : World} {p : Nat} {x y : St} {L : Nat → Bool} {w w' : World} (h : WNo w0 p x y L w) (hc : Chg w w' []) : WNo w0 p x y L w' :=
  ⟨h.chg.trans hc (by simp), h.blk.chg hc (by simp)⟩
theorem feedR_keeps (x : St) (hr : x.right) (hq : IsQ x.q.a x.q.b x.q.c x.q.d) (xs : List Nat) : (feedR x xs).1.right ∧ IsQ (feedR x xs).1.q.a (feedR x xs).1.q.b (feedR x xs).1.q.c (feedR x xs).1.q.d := by
  unfold feedR
  cases x.rb with
  | false => exact ⟨hr, hq⟩
  | true =>
    cases decide (xs.length = 20) with
    | false => exact ⟨hr, hq⟩
    | true =>
      simp only [cond_true]
      have hr' := hr
      unfold St.right in16 at hr
      unfold St.next
      cases sumOk xs 18 with
      | false =>
        refine ⟨?_, hq⟩
        unfold St.right in16
        simp only [cond_false]
        omega
      | true =>
        simp only [cond_true]
        refine ⟨?_, ?_⟩
        · unfold St.right in16
          simp only []
          omega
        · unfold nextK
          rw [kW_self, kW_self, kW_self, kW_self]
          obtain ⟨x0, x1, x2, x3, e, h, _⟩ := sensed_far x.q.a x.q.b x.q.c x.q.d (smp (xI xs) 0) (smp (xI xs) 1) (smp (xI xs) 2) (smp (xI xs) 3) (smp (xI xs) 4) (smp (xI xs) 5) (smp (xI xs) 6) (smp (xI xs) 7) (smp (xI xs) 8) hq
          rw [e]
          exact h
theorem right_i64 {x : St} (h : x.right) : x.i64 := by
  unfold St.right in16 at h
  unfold St.i64
  omega
theorem q1_is : IsQ st0.q.a st0.q.b st0.q.c st0.q.d := by unfold IsQ; decide +kernel
set_option maxRecDepth 100000 in
set_option maxHeartbeats 8000000 in
theorem modelNorm_calls (A : Option Addr) (n c : Nat) (hm : n ≤ maxLen) (W : World) (hw : FTab W) (hR : BRows W A n) :
    Calls Tryz.prog 5 #[.slice A n c] W fun e w' => e = .returned (.bool true) ∧ Chg W w' [] := by
  have HW := hide hw
  have HR := hide hR
  clear hw hR
  have hmix : Tryz.prog.follows .mixedOrders = true := by kernel_rfl
  by_cases hgt : (40 : Int) < (n : Int)
  · go_enter Tryz.func5, Tryz.ntmps5
    go_wp2_with fail
    refine (awake37_calls _ HW.out).mono ?_
    rintro e w1 ⟨rfl, hc⟩
    have hend := hide hc
    clear hc
    go_wp2_with fail
    go_ret
    exact ⟨rfl, hend.out⟩
  · have h40 : n ≤ 40 := by omega
    replace h40 := hide h40
    go_enter Tryz.func5, Tryz.ntmps5
    go_wp2_with fail
    refine (reset_calls _).mono ?_
    rintro e w0 ⟨rfl, hc⟩
    have H0 := hide hc
    clear hc
    have hgt' := hgt
    go_wp2_with fail
    generalize hP : w0.heap.size = P
    have hge : W.heap.size ≤ P := by rw [← hP]; exact H0.out.size
    have b0 : Blk (w0.alloc (.cells #[.int .i32 1073741824, .int .i32 0, .int .i32 0, .int .i32 0, .int .i64 0, .int .i64 0, .int .i64 0] 25)) P 25 [.int .i32 1073741824, .int .i32 0, .int .i32 0, .int .i32 0, .int .i64 0, .int .i64 0, .int .i64 0] := by rw [← hP]; exact Blk.new w0 _ _
    have h0 : Chg W (w0.alloc (.cells #[.int .i32 1073741824, .int .i32 0, .int .i32 0, .int .i32 0, .int .i64 0, .int .i64 0, .int .i64 0] 25)) [] := H0.out.alloc _
    generalize w0.alloc (.cells #[.int .i32 1073741824, .int .i32 0, .int .i32 0, .int .i32 0, .int .i64 0, .int .i64 0, .int .i64 0] 25) = w1 at *
    replace b0 := hide b0
    replace h0 := hide h0
    replace hge := hide hge
    clear hP H0
    go_loopw [4] (fun i wr => ∃ (j : Nat) (x : St), j ≤ n ∧ i = .int .i64 j ∧ Hid (x.right ∧ IsQ x.q.a x.q.b x.q.c x.q.d) ∧ Hid (Chg W wr []) ∧ Hid (Blk wr P 25 [.int .i32 x.q.a.v, .int .i32 x.q.b.v, .int .i32 x.q.c.v, .int .i32 x.q.d.v, .int .i64 x.s, .int .i64 x.f, .int .i64 x.g])) (fun i _ => n - (intOf i).toNat)
    case atStart =>
      refine ⟨0, st0, by omega, rfl, hide ⟨st0_right, q1_is⟩, h0, hide ?_⟩
      rw [show st0.q.a.v = 1073741824 by decide +kernel, show st0.q.b.v = 0 by decide +kernel, show st0.q.c.v = 0 by decide +kernel, show st0.q.d.v = 0 by decide +kernel]
      exact b0.out
    case round =>
      obtain ⟨j, x, hj, rfl, hx, HK, HB⟩ := hrel
      clear b0 h0
      by_cases hlt : j < n
      · have k3 : decide ((j : Int) < (n : Int)) = true := by simpa using (by omega : (j : Int) < (n : Int))
        obtain ⟨b, off, rfl, hall⟩ := HR.out (by omega)
        obtain ⟨rv, hcell, RA, rl, rc, xs, rfl, hrow, hlen, hml, hby⟩ := hall j hlt
        clear hall
        have hfd := fun w hw hs => pfeed x (right_i64 hx.out.1) xs hby (by omega) (.slice RA rl rc) w hw hs
        obtain ⟨hy1, hy2⟩ := feedR_keeps x hx.out.1 hx.out.2 xs
        unfold feedC at hfd
        generalize feedR x xs = R at hfd hy1 hy2
        obtain ⟨y, ys, er⟩ := R
        simp only [St.val_eq] at hfd hy1 hy2
        replace hfd := hide hfd
        replace hy1 := hide hy1
        replace hy2 := hide hy2
        replace hcell := hide hcell
        replace hrow := hide hrow
        go_upto_region 7 with (fail)
        refine wp_regionG hmix _ _ (fun sv => vNo x y (.slice (some ⟨b, off, none⟩) n c) j (.pointer (some ⟨b, off + j, none⟩)) (.slice RA rl rc) er sv) (fun _ => WNo wr P x y) undef (by kernel_rfl) (by kernel_rfl) (by kernel_rfl) ?step ?start ?fin ?ext
        case start => exact ⟨(Chg.refl wr _).drew, HB.out.drew⟩
        case ext => exact fun γ L L' w' he h => h.ext (he 10 (by decide))
        case step =>
          replace hfd := hfd.out
          replace hcell := hcell.out
          replace hrow := hrow.out
          replace hge := hge.out
          intro i o ho L a w1 sv hdn htm hW hL hpre K Q hK
          match i, ho with
          | 0, ho =>
            injection ho with ho
            subst ho
            have sb := slot_base htm (t := 3) (by kernel_rfl) (by kernel_rfl)
            simp only [Array.getD_eq_getD_getElem?, List.getElem?_toArray, List.getElem?_cons_succ, List.getElem?_cons_zero, Option.getD_some] at sb
            clear htm
            have l10 : L 10 = false := by
              cases h : L 10 with
              | false => rfl
              | true =>
                have i7 : L 7 = true := hdn 10 _ rfl h ⟨7, .data⟩ (by simp) rfl
                have i6 : L 6 = true := hdn 7 _ rfl i7 ⟨6, .data⟩ (by simp) rfl
                have i5 : L 5 = true := hdn 6 _ rfl i6 ⟨5, .data⟩ (by simp) rfl
                have this : L 0 = true := hdn 5 _ rfl i5 ⟨0, .data⟩ (by simp) rfl
                rw [hL] at this
                cases this
            have hb := hW.blk
            rw [l10] at hb
            simp only [cond_false] at hb
            have c0 := hb.cell' (i := 0) rfl
            have c1 := hb.cell' (i := 1) rfl
            have c2 := hb.cell' (i := 2) rfl
            have c3 := hb.cell' (i := 3) rfl
            have c4 := hb.cell' (i := 4) rfl
            have c5 := hb.cell' (i := 5) rfl
            have c6 := hb.cell' (i := 6) rfl
            refine val_now (v := vNo x y (.slice (some ⟨b, off, none⟩) n c) j (.pointer (some ⟨b, off + j, none⟩)) (.slice RA rl rc) er sv 0) (w' := w1) ?_ (hK sv w1 (fun _ _ => rfl) (hW.ext (by simp)))
            go_simp
            rfl
          | 1, ho =>
            injection ho with ho
            subst ho
            have sb := slot_base htm (t := 0) (by kernel_rfl) (by kernel_rfl)
            simp only [Array.getD_eq_getD_getElem?, List.getElem?_toArray, List.getElem?_cons_zero, Option.getD_some] at sb
            clear htm
            refine val_now (v := vNo x y (.slice (some ⟨b, off, none⟩) n c) j (.pointer (some ⟨b, off + j, none⟩)) (.slice RA rl rc) er sv 1) (w' := w1) ?_ (hK sv w1 (fun _ _ => rfl) (hW.ext (by simp)))
            go_simp
            rfl
          | 2, ho =>
            injection ho with ho
            subst ho
            have sb := slot_base htm (t := 4) (by kernel_rfl) (by kernel_rfl)
            simp only [Array.getD_eq_getD_getElem?, List.getElem?_toArray, List.getElem?_cons_succ, List.getElem?_cons_zero, Option.getD_some] at sb
            clear htm
            refine val_now (v := vNo x y (.slice (some ⟨b, off, none⟩) n c) j (.pointer (some ⟨b, off + j, none⟩)) (.slice RA rl rc) er sv 2) (w' := w1) ?_ (hK sv w1 (fun _ _ => rfl) (hW.ext (by simp)))
            go_simp
            rfl
          | 3, ho =>
            injection ho with ho
            subst ho
            have l1 := hpre ⟨1, .data⟩ (by simp) rfl
            have s1 := slot_at htm (t := 18) (i := 1) (by kernel_rfl) (by kernel_rfl) l1
            simp only [vNo] at s1
            have l2 := hpre ⟨2, .data⟩ (by simp) rfl
            have s2 := slot_at htm (t := 19) (i := 2) (by kernel_rfl) (by kernel_rfl) l2
            simp only [vNo] at s2
            clear htm
            refine val_now (v := vNo x y (.slice (some ⟨b, off, none⟩) n c) j (.pointer (some ⟨b, off + j, none⟩)) (.slice RA rl rc) er sv 3) (w' := w1) ?_ (hK sv w1 (fun _ _ => rfl) (hW.ext (by simp)))
            go_simp
            rfl
          | 4, ho =>
            injection ho with ho
            subst ho
            have l3 := hpre ⟨3, .data⟩ (by simp) rfl
            have s3 := slot_at htm (t := 20) (i := 3) (by kernel_rfl) (by kernel_rfl) l3
            simp only [vNo] at s3
            clear htm
            have hrc := (HK.out.trans hW.chg (D := []) (fun k hk => by simp at hk; omega)).cell hcell (by simp)
            refine val_now (v := vNo x y (.slice (some ⟨b, off, none⟩) n c) j (.pointer (some ⟨b, off + j, none⟩)) (.slice RA rl rc) er sv 4) (w' := w1) ?_ (hK sv w1 (fun _ _ => rfl) (hW.ext (by simp)))
            go_simp
            rfl
          | 5, ho =>
            injection ho with ho
            subst ho
            have l0 := hpre ⟨0, .data⟩ (by simp) rfl
            have s0 := slot_at htm (t := 17) (i := 0) (by kernel_rfl) (by kernel_rfl) l0
            simp only [vNo] at s0
            have l4 := hpre ⟨4, .data⟩ (by simp) rfl
            have s4 := slot_at htm (t := 21) (i := 4) (by kernel_rfl) (by kernel_rfl) l4
            simp only [vNo] at s4
            clear htm
            have h01 := HK.out.trans hW.chg (D := []) (fun k hk => by simp at hk; omega)
            refine call_now (f := 10) (args := #[.agg #[.int .i32 x.q.a.v, .int .i32 x.q.b.v, .int .i32 x.q.c.v, .int .i32 x.q.d.v, .int .i64 x.s, .int .i64 x.f, .int .i64 x.g], .slice RA rl rc]) ?_ (hfd w1 (HW.out.chg h01 (by simp)) (hrow.keep h01)) ?_
            · go_simp
            · rintro e w2 ⟨⟨sv', rfl, _⟩, hc⟩
              refine ⟨_, rfl, hK sv' w2 (fun j hj => ?_) ((hW.keep hc).ext (by simp))⟩
              have n6 : L 6 = false := by
                cases h : L 6 with
                | false => rfl
                | true => have this : L 5 = true := hdn 6 _ rfl h ⟨5, .data⟩ (by simp) rfl; rw [hL] at this; cases this
              have n8 : L 8 = false := by
                cases h : L 8 with
                | false => rfl
                | true => have this : L 6 = true := hdn 8 _ rfl h ⟨6, .data⟩ (by simp) rfl; rw [n6] at this; cases this
              match j, hj with
                | 0, _ => rfl
                | 1, _ => rfl
                | 2, _ => rfl
                | 3, _ => rfl
                | 4, _ => rfl
                | 5, hj => rw [hL] at hj; cases hj
                | 6, hj => rw [n6] at hj; cases hj
                | 7, _ => rfl
                | 8, hj => rw [n8] at hj; cases hj
                | 9, _ => rfl
                | _ + 10, _ => rfl
          | 6, ho =>
            injection ho with ho
            subst ho
            have l5 := hpre ⟨5, .data⟩ (by simp) rfl
            have s5 := slot_at htm (t := 22) (i := 5) (by kernel_rfl) (by kernel_rfl) l5
            simp only [vNo] at s5
            clear htm
            refine val_now (v := vNo x y (.slice (some ⟨b, off, none⟩) n c) j (.pointer (some ⟨b, off + j, none⟩)) (.slice RA rl rc) er sv 6) (w' := w1) ?_ (hK sv w1 (fun _ _ => rfl) (hW.ext (by simp)))
            go_simp
            rfl
          | 7, ho =>
            injection ho with ho
            subst ho
            have l6 := hpre ⟨6, .data⟩ (by simp) rfl
            have s6 := slot_at htm (t := 16) (i := 6) (by kernel_rfl) (by kernel_rfl) l6
            simp only [vNo] at s6
            clear htm
            refine val_now (v := vNo x y (.slice (some ⟨b, off, none⟩) n c) j (.pointer (some ⟨b, off + j, none⟩)) (.slice RA rl rc) er sv 7) (w' := w1) ?_ (hK sv w1 (fun _ _ => rfl) (hW.ext (by simp)))
            go_simp
            rfl
          | 8, ho =>
            injection ho with ho
            subst ho
            have l6 := hpre ⟨6, .data⟩ (by simp) rfl
            have s6 := slot_at htm (t := 16) (i := 6) (by kernel_rfl) (by kernel_rfl) l6
            simp only [vNo] at s6
            clear htm
            refine val_now (v := vNo x y (.slice (some ⟨b, off, none⟩) n c) j (.pointer (some ⟨b, off + j, none⟩)) (.slice RA rl rc) er sv 8) (w' := w1) ?_ (hK sv w1 (fun _ _ => rfl) (hW.ext (by simp)))
            go_simp
            rfl
          | 9, ho =>
            injection ho with ho
            subst ho
            have l6 := hpre ⟨6, .data⟩ (by simp) rfl
            have s6 := slot_at htm (t := 16) (i := 6) (by kernel_rfl) (by kernel_rfl) l6
            simp only [vNo] at s6
            clear htm
            refine val_now (v := vNo x y (.slice (some ⟨b, off, none⟩) n c) j (.pointer (some ⟨b, off + j, none⟩)) (.slice RA rl rc) er sv 9) (w' := w1) ?_ (hK sv w1 (fun _ _ => rfl) (hW.ext (by simp)))
            go_simp
            rfl
          | 10, ho =>
            injection ho with ho
            subst ho
            have l7 := hpre ⟨7, .data⟩ (by simp) rfl
            have s7 := slot_at htm (t := 23) (i := 7) (by kernel_rfl) (by kernel_rfl) l7
            simp only [vNo] at s7
            have sb := slot_base htm (t := 3) (by kernel_rfl) (by kernel_rfl)
            simp only [Array.getD_eq_getD_getElem?, List.getElem?_toArray, List.getElem?_cons_succ, List.getElem?_cons_zero, Option.getD_some] at sb
            clear htm
            have hb := hW.blk
            rw [hL] at hb
            simp only [cond_false] at hb
            have c0 := hb.cell' (i := 0) rfl
            have f0 := hb.frozen 0
            have c1 := hb.cell' (i := 1) rfl
            have f1 := hb.frozen 1
            have c2 := hb.cell' (i := 2) rfl
            have f2 := hb.frozen 2
            have c3 := hb.cell' (i := 3) rfl
            have f3 := hb.frozen 3
            have c4 := hb.cell' (i := 4) rfl
            have f4 := hb.frozen 4
            have c5 := hb.cell' (i := 5) rfl
            have f5 := hb.frozen 5
            have c6 := hb.cell' (i := 6) rfl
            have f6 := hb.frozen 6
            refine skip_now (w' := put7 w1 P (.int .i32 y.q.a.v) (.int .i32 y.q.b.v) (.int .i32 y.q.c.v) (.int .i32 y.q.d.v) (.int .i64 y.s) (.int .i64 y.f) (.int .i64 y.g)) ?_ (hK sv _ (fun _ _ => rfl) ?_)
            · go_simp
              rfl
            · have hc7 := put7_chg w1 P (.int .i32 y.q.a.v) (.int .i32 y.q.b.v) (.int .i32 y.q.c.v) (.int .i32 y.q.d.v) (.int .i64 y.s) (.int .i64 y.f) (.int .i64 y.g)
              refine ⟨hW.chg.trans hc7 (D := [P]) (fun k hk => .inl hk), ?_⟩
              simp only [if_true, cond_true]
              exact put7_blk hb (.int .i32 y.q.a.v) (.int .i32 y.q.b.v) (.int .i32 y.q.c.v) (.int .i32 y.q.d.v) (.int .i64 y.s) (.int .i64 y.f) (.int .i64 y.g)
          | _ + 11, ho => cases ho
        case fin =>
          intro sv w1 hW
          generalize hF : finG _ _ (fun sv => vNo x y (.slice (some ⟨b, off, none⟩) n c) j (.pointer (some ⟨b, off + j, none⟩)) (.slice RA rl rc) er sv) _ sv = F
          have hF2 : F = #[.slice (some ⟨b, off, none⟩) n c, undef, u2, .pointer (some ⟨P, 0, none⟩), .int .i64 j, .slice (some ⟨b, off, none⟩) n c, .int .i64 n, .bool false, undef, .agg #[.int .i32 1073741824, .int .i32 0, .int .i32 0, .int .i32 0, .int .i64 0, .int .i64 0, .int .i64 0], .int .i64 j, .slice (some ⟨b, off, none⟩) n c, .int .i64 n, .bool true, u14, u15, .tuple #[.agg #[.int .i32 y.q.a.v, .int .i32 y.q.b.v, .int .i32 y.q.c.v, .int .i32 y.q.d.v, .int .i64 y.s, .int .i64 y.f, .int .i64 y.g], sv, .int .i64 er], .agg #[.int .i32 x.q.a.v, .int .i32 x.q.b.v, .int .i32 x.q.c.v, .int .i32 x.q.d.v, .int .i64 x.s, .int .i64 x.f, .int .i64 x.g], .slice (some ⟨b, off, none⟩) n c, .int .i64 j, .pointer (some ⟨b, off + j, none⟩), .slice RA rl rc, .tuple #[.agg #[.int .i32 y.q.a.v, .int .i32 y.q.b.v, .int .i32 y.q.c.v, .int .i32 y.q.d.v, .int .i64 y.s, .int .i64 y.f, .int .i64 y.g], sv, .int .i64 er], .agg #[.int .i32 y.q.a.v, .int .i32 y.q.b.v, .int .i32 y.q.c.v, .int .i32 y.q.d.v, .int .i64 y.s, .int .i64 y.f, .int .i64 y.g], sv, .int .i64 er, u26, u27, u28, u29, undef] := hF.symm.trans (by kernel_rfl)
          clear hF
          subst hF2
          have hb := hW.blk
          simp only [cond_true] at hb
          replace hb := hide hb
          have h01 := hide (HK.out.trans hW.chg (D := []) (fun k hk => by have := hge.out; simp at hk; omega))
          clear hW hfd hx HB HK hcell hrow
          replace hj := hide hj
          have c0 := hb.out.cell' (i := 0) rfl
          have c1 := hb.out.cell' (i := 1) rfl
          have c2 := hb.out.cell' (i := 2) rfl
          have c3 := hb.out.cell' (i := 3) rfl
          go_wp2_with fail
          refine (is_calls y.q.a y.q.b y.q.c y.q.d w1).mono ?_
          rw [isB_yes hy2.out]
          rintro e w2 ⟨rfl, hc⟩
          have hb2 := hide (hb.out.chg hc (by simp))
          have h02 := hide (h01.out.trans hc (D := []) (by simp))
          clear hc hb h01 c0 c1 c2 c3
          go_wp2_with fail
          have hlt' : j < n := by simpa using k3
          have hm' := h40.out
          rw [show ((j : Int) + 1) = ((j + 1 : Nat) : Int) by omega]
          refine ⟨⟨j + 1, y, by omega, rfl, hide ⟨hy1.out, hy2.out⟩, h02, hb2⟩, ?_⟩
          simp only [intOf, Int.toNat_natCast]
          omega
      · have k3 : decide ((j : Int) < (n : Int)) = false := by simpa using (by omega : (n : Int) ≤ (j : Int))
        go_wp2_with fail
        refine (awake37_calls wr (HW.out.chg HK.out (by simp))).mono ?_
        rintro e w2 ⟨rfl, hc⟩
        have hend := hide (HK.out.trans hc (D := []) (by simp))
        clear hc HK HB
        go_wp2_with fail
        go_ret
        exact ⟨rfl, hend.out⟩
end Go.Proofs.YtihgijhjhmjolaaGreatDoor.Xi
