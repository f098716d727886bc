/- ModelTurns. -/
import Derived.Test.YtihgijhjhmjolaaGreatDoorModelQ
namespace Go.Proofs.YtihgijhjhmjolaaGreatDoor.Xi
open Go Go.RowKit Go.Deep
set_option linter.unusedVariables false
theorem feedT (x : St) (hr : x.right) (W : World) (g : Nat) (hs : Sl W (.slice (some ⟨g, 0, none⟩) 20 20) (u8s z20)) (ht : FTab W) :
    Calls Tryz.prog 10 #[.agg #[.int .i32 x.q.a.v, .int .i32 x.q.b.v, .int .i32 x.q.c.v, .int .i32 x.q.d.v, .int .i64 x.s, .int .i64 x.f, .int .i64 x.g], .slice (some ⟨g, 0, none⟩) 20 20] W fun e w' => ∃ sv, e = .returned (.tuple #[.agg #[.int .i32 (x.next z20).q.a.v, .int .i32 (x.next z20).q.b.v, .int .i32 (x.next z20).q.c.v, .int .i32 (x.next z20).q.d.v, .int .i64 (x.next z20).s, .int .i64 (x.next z20).f, .int .i64 (x.next z20).g], sv, .int .i64 0]) ∧ Chg W w' [] := by
  have h := pfeed_ok hr (xs := z20) rfl (fun y hy => by rw [List.eq_of_mem_replicate hy]; decide) g 0 20 W ht hs
  rw [St.val_eq] at h
  refine h.mono ?_
  rintro e w' ⟨⟨sv, rfl, hsv⟩, hc⟩
  rw [St.val_eq]
  exact ⟨sv, rfl, hc⟩
structure GTu where
  g : Nat
  sv : Value
def vTu (x y : St) (γ : GTu) : Nat → Value
  | 0 => .agg #[.int .i32 x.q.a.v, .int .i32 x.q.b.v, .int .i32 x.q.c.v, .int .i32 x.q.d.v, .int .i64 x.s, .int .i64 x.f, .int .i64 x.g]
  | 1 => .slice (some ⟨γ.g, 0, none⟩) 20 20
  | 2 => .tuple #[.agg #[.int .i32 y.q.a.v, .int .i32 y.q.b.v, .int .i32 y.q.c.v, .int .i32 y.q.d.v, .int .i64 y.s, .int .i64 y.f, .int .i64 y.g], γ.sv, .int .i64 0]
  | 3 => .tuple #[.agg #[.int .i32 y.q.a.v, .int .i32 y.q.b.v, .int .i32 y.q.c.v, .int .i32 y.q.d.v, .int .i64 y.s, .int .i64 y.f, .int .i64 y.g], γ.sv, .int .i64 0]
  | 4 => .agg #[.int .i32 y.q.a.v, .int .i32 y.q.b.v, .int .i32 y.q.c.v, .int .i32 y.q.d.v, .int .i64 y.s, .int .i64 y.f, .int .i64 y.g]
  | 5 => γ.sv
  | 6 => .int .i64 0
  | _ => undef
structure WTu (w0 : World) (p : Nat) (x y : St) (γ : GTu) (L : Nat → Bool) (w : World) : Prop where
  chg : Chg w0 w [p]
  sl : L 1 = true → L 2 = false → Sl w (.slice (some ⟨γ.g, 0, none⟩) 20 20) (u8s z20)
  blk : Blk w p 25 (bif L 7 then [.int .i32 y.q.a.v, .int .i32 y.q.b.v, .int .i32 y.q.c.v, .int .i32 y.q.d.v, .int .i64 y.s, .int .i64 y.f, .int .i64 y.g] else [.int .i32 x.q.a.v, .int .i32 x.q.b.v, .int .i32 x.q.c.v, .int .i32 x.q.d.v, .int .i64 x.s, .int .i64 x.f, .int .i64 x.g])
theorem WTu.ext {w0 : World} {p : Nat} {x y : St} {γ : GTu} {L L' : Nat → Bool} {w : World} (h : WTu w0 p x y γ L w) (e1 : L 1 = L' 1) (e2 : L 2 = L' 2) (e7 : L 7 = L' 7) : WTu w0 p x y γ L' w :=
  ⟨h.chg, by rw [← e1, ← e2]; exact h.sl, by rw [← e7]; exact h.blk⟩
theorem WTu.keep {w0 : World} {p : Nat} {x y : St} {γ : GTu} {L : Nat → Bool} {w w' : World} (h : WTu w0 p x y γ L w) (hc : Chg w w' []) : WTu w0 p x y γ L w' :=
  ⟨h.chg.trans hc (by simp), fun a b => (h.sl a b).keep hc, h.blk.chg hc (by simp)⟩
theorem eqQ10 (x0 x1 x2 x3 y0 y1 y2 y3 : Int) (w : World) : (Op.equalIn 10000 23 (.agg #[.int .i32 x0, .int .i32 x1, .int .i32 x2, .int .i32 x3]) (.agg #[.int .i32 y0, .int .i32 y1, .int .i32 y2, .int .i32 y3])).run Tryz.prog w = .ok (x0 == y0 && x1 == y1 && x2 == y2 && x3 == y3) w := by
  have u3 := Tryz.underlying21
  have k3 := Tryz.isAgg21
  have z3 := Tryz.sizeOf21
  rw [show (10000 : Nat) = 9999 + 1 from rfl, Op.equalIn]
  simp only [Sem.run_bind, run_underlying Tryz.underlying23, Result.andThen_ok]
  simp only [Std.Legacy.Range.forIn_eq_forIn_range', Std.Legacy.Range.size, Nat.sub_zero, Nat.add_sub_cancel, Nat.div_one, List.range'_succ, List.range'_zero, List.forIn_cons, List.forIn_nil]
  go_simp
  by_cases h0 : x0 = y0 <;> by_cases h1 : x1 = y1 <;> by_cases h2 : x2 = y2 <;> by_cases h3 : x3 = y3 <;> simp [h0, h1, h2, h3]
theorem y_s {k j : Int} : ((k + j - 1) % 65536 + 1) % 65536 = (k + j) % 65536 := by omega
set_option maxRecDepth 100000 in
set_option maxHeartbeats 8000000 in
theorem modelTurns_calls (q : Q4) (k : Int) (hk : -9223372036854775808 ≤ k ∧ k ≤ 9223372036854775807) (W : World) (hw : FTab W) :
    Calls Tryz.prog 6 #[.agg #[.int .i32 q.a.v, .int .i32 q.b.v, .int .i32 q.c.v, .int .i32 q.d.v], .int .i64 k] W fun e w' => e = .returned (.bool true) ∧ Chg W w' [] := by
  have HW := hide hw
  clear hw
  have hmk := mk20
  have hmix : Tryz.prog.follows .mixedOrders = true := by kernel_rfl
  by_cases h1 : k < 65530
  · have k1 : decide (k < 65530) = true := by simpa using h1
    go_enter Tryz.func6, Tryz.ntmps6
    go_wp2_with fail
    have h1 : Chg W (W.alloc (.cells #[.int .i32 q.a.v, .int .i32 q.b.v, .int .i32 q.c.v, .int .i32 q.d.v] 23)) [] := (Chg.refl W []).alloc _
    refine (awake37_calls _ (HW.out.chg h1 (by simp))).mono ?_
    rintro e w1 ⟨rfl, hc⟩
    have hend := hide (h1.trans hc (D := []) (by simp))
    clear hc h1
    go_wp2_with fail
    go_ret
    exact ⟨rfl, hend.out⟩
  · by_cases h2 : 65535 < k
    · have k1 : decide (k < 65530) = false := by simpa using h1
      have k2 : decide (65535 < k) = true := by simpa using h2
      go_enter Tryz.func6, Tryz.ntmps6
      go_wp2_with fail
      have h1 : Chg W (W.alloc (.cells #[.int .i32 q.a.v, .int .i32 q.b.v, .int .i32 q.c.v, .int .i32 q.d.v] 23)) [] := (Chg.refl W []).alloc _
      refine (awake37_calls _ (HW.out.chg h1 (by simp))).mono ?_
      rintro e w1 ⟨rfl, hc⟩
      have hend := hide (h1.trans hc (D := []) (by simp))
      clear hc h1
      go_wp2_with fail
      go_ret
      exact ⟨rfl, hend.out⟩
    · have k1 : decide (k < 65530) = false := by simpa using h1
      have k2 : decide (65535 < k) = false := by simpa using h2
      have KK := hide (show 65530 ≤ k ∧ k ≤ 65535 by omega)
      go_enter Tryz.func6, Tryz.ntmps6
      go_wp2_with fail
      have B0 := hide (Blk.new (W.alloc (.cells #[.int .i32 q.a.v, .int .i32 q.b.v, .int .i32 q.c.v, .int .i32 q.d.v] 23)) 25 [.int .i32 q.a.v, .int .i32 q.b.v, .int .i32 q.c.v, .int .i32 q.d.v, .int .i64 k, .int .i64 k, .int .i64 k])
      have Q0 := hide ((Blk.new W 23 [.int .i32 q.a.v, .int .i32 q.b.v, .int .i32 q.c.v, .int .i32 q.d.v]).alloc (.cells #[.int .i32 q.a.v, .int .i32 q.b.v, .int .i32 q.c.v, .int .i32 q.d.v, .int .i64 k, .int .i64 k, .int .i64 k] 25))
      have H0 := hide (((Chg.refl W []).alloc (.cells #[.int .i32 q.a.v, .int .i32 q.b.v, .int .i32 q.c.v, .int .i32 q.d.v] 23)).alloc (.cells #[.int .i32 q.a.v, .int .i32 q.b.v, .int .i32 q.c.v, .int .i32 q.d.v, .int .i64 k, .int .i64 k, .int .i64 k] 25))
      simp only [size_alloc, List.toArray] at B0 Q0 H0
      go_loopw [6] (fun i wr => ∃ (j : Nat) (x : St), (1 ≤ j ∧ j ≤ 9) ∧ i = .int .i64 j ∧ Hid (x.q = q ∧ x.s = (k + j - 1) % 65536 ∧ x.f = min (k + j - 1) 65535 ∧ x.g = k) ∧ Hid (Chg W wr []) ∧ Hid (Blk wr (W.heap.size + 1) 25 [.int .i32 x.q.a.v, .int .i32 x.q.b.v, .int .i32 x.q.c.v, .int .i32 x.q.d.v, .int .i64 x.s, .int .i64 x.f, .int .i64 x.g]) ∧ Hid (Blk wr W.heap.size 23 [.int .i32 q.a.v, .int .i32 q.b.v, .int .i32 q.c.v, .int .i32 q.d.v])) (fun i _ => 9 - (intOf i).toNat)
      case atStart => exact ⟨1, ⟨q, k, k, k⟩, by omega, rfl, hide ⟨rfl, by have := KK.out; simp only []; omega, by have := KK.out; simp only []; omega, rfl⟩, H0, B0, Q0⟩
      case round =>
        obtain ⟨j, x, hj, rfl, hx, HK, HB, HQ⟩ := hrel
        clear B0 Q0 H0
        by_cases hlt : j ≤ 8
        · have k3 : decide ((j : Int) ≤ 8) = true := by simpa using (by omega : (j : Int) ≤ 8)
          have hr : x.right := by
            have := hx.out
            have := KK.out
            unfold St.right in16
            omega
          have hy : (x.next z20).q = q ∧ (x.next z20).s = (k + j) % 65536 ∧ (x.next z20).f = min (k + j) 65535 ∧ (x.next z20).g = k := by
            have hxx := hx.out
            have := KK.out
            unfold St.next
            rw [z20_sum]
            simp only [cond_false]
            refine ⟨hxx.1, ?_, ?_, ?_⟩ <;> omega
          have hfd := feedT x hr
          generalize x.next z20 = y at hfd hy
          replace hfd := hide hfd
          replace hy := hide hy
          have hft := hide (HW.out.chg HK.out (by simp))
          have hpf := hide (show 1 ∉ [W.heap.size + 1] by have := HW.out.lt; intro h; have h2 := List.mem_singleton.1 h; omega)
          go_upto_region 7 with (fail)
          refine wp_regionG hmix _ _ (vTu x y) (WTu wr (W.heap.size + 1) x y) ⟨0, undef⟩ (by kernel_rfl) (by kernel_rfl) (by kernel_rfl) ?step ?start ?fin ?ext
          case start => exact ⟨(Chg.refl wr _).drew, (fun h _ => by cases h), HB.out.drew⟩
          case ext => exact fun γ L L' w' he h => h.ext (he 1 (by decide)) (he 2 (by decide)) (he 7 (by decide))
          case step =>
            replace hfd := hfd.out
            replace hft := hft.out
            replace hpf := hpf.out
            intro i o ho L a w1 γ hdn htm hW hL hpre K Q hK
            match i, ho with
            | 0, ho =>
              injection ho with ho
              subst ho
              have s5 := slot_base htm (t := 5) (by kernel_rfl) (by kernel_rfl)
              rw [show ∀ (l : Array Value), l.getD 5 undef = l.getD 5 undef from fun _ => rfl] at s5
              simp only [Array.getD_eq_getD_getElem?, List.getElem?_toArray, List.getElem?_cons_succ, List.getElem?_cons_zero, Option.getD_some] at s5
              clear htm
              have l7 : L 7 = false := by
                cases h : L 7 with
                | false => rfl
                | true =>
                  have i4 : L 4 = true := hdn 7 _ rfl h ⟨4, .data⟩ (by simp) rfl
                  have i3 : L 3 = true := hdn 4 _ rfl i4 ⟨3, .data⟩ (by simp) rfl
                  have i2 : L 2 = true := hdn 3 _ rfl i3 ⟨2, .data⟩ (by simp) rfl
                  have this : L 0 = true := hdn 2 _ rfl i2 ⟨0, .data⟩ (by simp) rfl
                  rw [hL] at this
                  cases this
              have hb := hW.blk
              rw [l7] at hb
              simp only [cond_false] at hb
              have c0 := hb.cell' (i := 0) rfl
              have c1 := hb.cell' (i := 1) rfl
              have c2 := hb.cell' (i := 2) rfl
              have c3 := hb.cell' (i := 3) rfl
              have c4 := hb.cell' (i := 4) rfl
              have c5 := hb.cell' (i := 5) rfl
              have c6 := hb.cell' (i := 6) rfl
              refine val_now (v := vTu x y γ 0) (w' := w1) ?_ (hK γ w1 (fun _ _ => rfl) (hW.ext (by simp) (by simp) (by simp)))
              go_simp
              rfl
            | 1, ho =>
              injection ho with ho
              subst ho
              clear htm
              have l2 : L 2 = false := by
                cases h : L 2 with
                | false => rfl
                | true =>
                  have this : L 1 = true := hdn 2 _ rfl h ⟨1, .data⟩ (by simp) rfl
                  rw [hL] at this
                  cases this
              refine val_now (v := vTu x y ⟨w1.heap.size, γ.sv⟩ 1) (w' := w1.alloc (.cells (u8s z20).toArray 5)) ?_ (hK ⟨w1.heap.size, γ.sv⟩ _ (fun j hj => ?_) ?_)
              · go_simp
                exact ⟨rfl, rfl⟩
              · match j, hj with
                | 0, _ => rfl
                | 1, hj => rw [hL] at hj; cases hj
                | 2, _ => rfl
                | 3, _ => rfl
                | 4, _ => rfl
                | 5, _ => rfl
                | 6, _ => rfl
                | _ + 7, _ => rfl
              · have hk := hW.keep ((Chg.refl w1 []).alloc (.cells (u8s z20).toArray 5))
                exact ⟨hk.chg, fun _ _ => sl20 w1, by simpa using hk.blk⟩
            | 2, ho =>
              injection ho with ho
              subst ho
              have l0 := hpre ⟨0, .data⟩ (by simp) rfl
              have s0 := slot_at htm (t := 24) (i := 0) (by kernel_rfl) (by kernel_rfl) l0
              simp only [vTu] at s0
              have l1 := hpre ⟨1, .data⟩ (by simp) rfl
              have s1 := slot_at htm (t := 25) (i := 1) (by kernel_rfl) (by kernel_rfl) l1
              simp only [vTu] at s1
              clear htm
              have hsl := hW.sl l1 hL
              refine call_now (f := 10) (args := #[.agg #[.int .i32 x.q.a.v, .int .i32 x.q.b.v, .int .i32 x.q.c.v, .int .i32 x.q.d.v, .int .i64 x.s, .int .i64 x.f, .int .i64 x.g], .slice (some ⟨γ.g, 0, none⟩) 20 20]) ?_ (hfd w1 γ.g hsl (hft.chg hW.chg hpf)) ?_
              · go_simp
              · rintro e w2 ⟨sv, rfl, hc⟩
                refine ⟨_, rfl, hK ⟨γ.g, sv⟩ w2 (fun j hj => ?_) ?_⟩
                · have n3 : L 3 = false := by
                    cases h : L 3 with
                    | false => rfl
                    | true => have this : L 2 = true := hdn 3 _ rfl h ⟨2, .data⟩ (by simp) rfl; rw [hL] at this; cases this
                  have n5 : L 5 = false := by
                    cases h : L 5 with
                    | false => rfl
                    | true => have this : L 3 = true := hdn 5 _ rfl h ⟨3, .data⟩ (by simp) rfl; rw [n3] at this; cases this
                  match j, hj with
                  | 0, _ => rfl
                  | 1, _ => rfl
                  | 2, hj => rw [hL] at hj; cases hj
                  | 3, hj => rw [n3] at hj; cases hj
                  | 4, _ => rfl
                  | 5, hj => rw [n5] at hj; cases hj
                  | 6, _ => rfl
                  | _ + 7, _ => rfl
                · have hk := hW.keep hc
                  exact ⟨hk.chg, fun _ h => by simp at h, by simpa using hk.blk⟩
            | 3, ho =>
              injection ho with ho
              subst ho
              have l2 := hpre ⟨2, .data⟩ (by simp) rfl
              have s2 := slot_at htm (t := 26) (i := 2) (by kernel_rfl) (by kernel_rfl) l2
              simp only [vTu] at s2
              clear htm
              refine val_now (v := vTu x y γ 3) (w' := w1) ?_ (hK γ w1 (fun _ _ => rfl) (hW.ext (by simp) (by simp) (by simp)))
              go_simp
              rfl
            | 4, ho =>
              injection ho with ho
              subst ho
              have l3 := hpre ⟨3, .data⟩ (by simp) rfl
              have s3 := slot_at htm (t := 23) (i := 3) (by kernel_rfl) (by kernel_rfl) l3
              simp only [vTu] at s3
              clear htm
              refine val_now (v := vTu x y γ 4) (w' := w1) ?_ (hK γ w1 (fun _ _ => rfl) (hW.ext (by simp) (by simp) (by simp)))
              go_simp
              rfl
            | 5, ho =>
              injection ho with ho
              subst ho
              have l3 := hpre ⟨3, .data⟩ (by simp) rfl
              have s3 := slot_at htm (t := 23) (i := 3) (by kernel_rfl) (by kernel_rfl) l3
              simp only [vTu] at s3
              clear htm
              refine val_now (v := vTu x y γ 5) (w' := w1) ?_ (hK γ w1 (fun _ _ => rfl) (hW.ext (by simp) (by simp) (by simp)))
              go_simp
              rfl
            | 6, ho =>
              injection ho with ho
              subst ho
              have l3 := hpre ⟨3, .data⟩ (by simp) rfl
              have s3 := slot_at htm (t := 23) (i := 3) (by kernel_rfl) (by kernel_rfl) l3
              simp only [vTu] at s3
              clear htm
              refine val_now (v := vTu x y γ 6) (w' := w1) ?_ (hK γ w1 (fun _ _ => rfl) (hW.ext (by simp) (by simp) (by simp)))
              go_simp
              rfl
            | 7, ho =>
              injection ho with ho
              subst ho
              have l4 := hpre ⟨4, .data⟩ (by simp) rfl
              have s4 := slot_at htm (t := 27) (i := 4) (by kernel_rfl) (by kernel_rfl) l4
              simp only [vTu] at s4
              have s5 := slot_base htm (t := 5) (by kernel_rfl) (by kernel_rfl)
              rw [show ∀ (l : Array Value), l.getD 5 undef = l.getD 5 undef from fun _ => rfl] at s5
              simp only [Array.getD_eq_getD_getElem?, List.getElem?_toArray, List.getElem?_cons_succ, List.getElem?_cons_zero, Option.getD_some] at s5
              clear htm
              have hb := hW.blk
              rw [hL] at hb
              simp only [cond_false] at hb
              have l3 : L 3 = true := hdn 4 _ rfl l4 ⟨3, .data⟩ (by simp) rfl
              have l2 : L 2 = true := hdn 3 _ rfl l3 ⟨2, .data⟩ (by simp) rfl
              have c0 := hb.cell' (i := 0) rfl
              have f0 := hb.frozen 0
              have c1 := hb.cell' (i := 1) rfl
              have f1 := hb.frozen 1
              have c2 := hb.cell' (i := 2) rfl
              have f2 := hb.frozen 2
              have c3 := hb.cell' (i := 3) rfl
              have f3 := hb.frozen 3
              have c4 := hb.cell' (i := 4) rfl
              have f4 := hb.frozen 4
              have c5 := hb.cell' (i := 5) rfl
              have f5 := hb.frozen 5
              have c6 := hb.cell' (i := 6) rfl
              have f6 := hb.frozen 6
              refine skip_now (w' := put7 w1 (W.heap.size + 1) (.int .i32 y.q.a.v) (.int .i32 y.q.b.v) (.int .i32 y.q.c.v) (.int .i32 y.q.d.v) (.int .i64 y.s) (.int .i64 y.f) (.int .i64 y.g)) ?_ (hK γ _ (fun _ _ => rfl) ?_)
              · go_simp
                rfl
              · have hc7 := put7_chg w1 (W.heap.size + 1) (.int .i32 y.q.a.v) (.int .i32 y.q.b.v) (.int .i32 y.q.c.v) (.int .i32 y.q.d.v) (.int .i64 y.s) (.int .i64 y.f) (.int .i64 y.g)
                refine ⟨hW.chg.trans hc7 (D := [W.heap.size + 1]) (fun k hk => .inl hk), fun _ h => ?_, ?_⟩
                · simp [l2] at h
                · simp only [if_true, cond_true]
                  exact put7_blk hb (.int .i32 y.q.a.v) (.int .i32 y.q.b.v) (.int .i32 y.q.c.v) (.int .i32 y.q.d.v) (.int .i64 y.s) (.int .i64 y.f) (.int .i64 y.g)
            | _ + 8, ho => cases ho
          case fin =>
            intro γ w1 hW
            generalize hF : finG _ _ (vTu x y) _ γ = F
            have hF2 : F = #[.agg #[.int .i32 q.a.v, .int .i32 q.b.v, .int .i32 q.c.v, .int .i32 q.d.v], .int .i64 k, .pointer (some ⟨W.heap.size, 0, none⟩), undef, u4, .pointer (some ⟨W.heap.size + 1, 0, none⟩), .int .i64 j, .int .i64 k, .bool false, .bool false, .int .i64 k, .bool false, .bool false, undef, .agg #[.int .i32 q.a.v, .int .i32 q.b.v, .int .i32 q.c.v, .int .i32 q.d.v], .int .i64 k, .int .i64 k, .int .i64 k, .agg #[.int .i32 q.a.v, .int .i32 q.b.v, .int .i32 q.c.v, .int .i32 q.d.v, .int .i64 k, .int .i64 k, .int .i64 k], .int .i64 j, .bool true, u21, u22, .tuple #[.agg #[.int .i32 y.q.a.v, .int .i32 y.q.b.v, .int .i32 y.q.c.v, .int .i32 y.q.d.v, .int .i64 y.s, .int .i64 y.f, .int .i64 y.g], γ.sv, .int .i64 0], .agg #[.int .i32 x.q.a.v, .int .i32 x.q.b.v, .int .i32 x.q.c.v, .int .i32 x.q.d.v, .int .i64 x.s, .int .i64 x.f, .int .i64 x.g], .slice (some ⟨γ.g, 0, none⟩) 20 20, .tuple #[.agg #[.int .i32 y.q.a.v, .int .i32 y.q.b.v, .int .i32 y.q.c.v, .int .i32 y.q.d.v, .int .i64 y.s, .int .i64 y.f, .int .i64 y.g], γ.sv, .int .i64 0], .agg #[.int .i32 y.q.a.v, .int .i32 y.q.b.v, .int .i32 y.q.c.v, .int .i32 y.q.d.v, .int .i64 y.s, .int .i64 y.f, .int .i64 y.g], γ.sv, .int .i64 0, u30, u31, u32, u33, u34, u35, u36, u37, u38, u39, u40, u41, u42, u43, u44, u45, u46, u47, u48, u49, u50, u51, u52, u53, u54, u55, u56, u57, undef] := hF.symm.trans (by kernel_rfl)
            clear hF
            subst hF2
            have hb := hW.blk
            simp only [cond_true] at hb
            rw [hy.out.1] at hb
            replace hb := hide hb
            have hchg := hide hW.chg
            clear hW
            obtain ⟨bg, bs⟩ := γ
            replace hj := hide hj
            replace hlt := hide hlt
            clear hfd hft hx HB
            have HQ1 := hide (HQ.out.chg hchg.out (by simp))
            have c0 := hb.out.cell' (i := 0) rfl
            have c1 := hb.out.cell' (i := 1) rfl
            have c2 := hb.out.cell' (i := 2) rfl
            have c3 := hb.out.cell' (i := 3) rfl
            have c4 := hb.out.cell' (i := 4) rfl
            have c5 := hb.out.cell' (i := 5) rfl
            have c6 := hb.out.cell' (i := 6) rfl
            have d0 := HQ1.out.cell' (i := 0) rfl
            have d1 := HQ1.out.cell' (i := 1) rfl
            have d2 := HQ1.out.cell' (i := 2) rfl
            have d3 := HQ1.out.cell' (i := 3) rfl
            have hwr : wrap64 (k + j) = k + j := by
              have := KK.out
              have := hj.out
              unfold wrap64
              omega
            have t1 : (y.s != (wrap64 (k + j)).tmod 65536) = false := by
              have := KK.out
              have := hj.out
              rw [hy.out.2.1, hwr, tmodP (by omega)]
              simp
            have t2 : (y.f != min 65535 (wrap64 (k + j))) = false := by
              have := KK.out
              rw [hy.out.2.2.1, hwr, Int.min_comm]
              simp
            have t3 : (y.g != k) = false := by rw [hy.out.2.2.2]; simp
            have hq := eqQ10 q.a.v q.b.v q.c.v q.d.v q.a.v q.b.v q.c.v q.d.v w1
            simp only [BEq.rfl, Bool.and_self] at hq
            clear hwr
            go_wp2_with fail
            have hj' := hj.out
            have hlt' := hlt.out
            rw [show wrap64 ((j : Int) + 1) = ((j + 1 : Nat) : Int) by unfold wrap64; omega]
            refine ⟨⟨j + 1, y, by omega, rfl, hide ⟨hy.out.1, ?_, ?_, hy.out.2.2.2⟩, hide (HK.out.trans hchg.out (D := []) (fun k hk => by simp at hk; omega)), hide (by rw [hy.out.1]; exact hb.out), HQ1⟩, ?_⟩
            · rw [hy.out.2.1]; congr 1; omega
            · rw [hy.out.2.2.1]; congr 1; omega
            · simp only [intOf, Int.toNat_natCast]
              omega
        · have k3 : decide ((j : Int) ≤ 8) = false := by simpa using (by omega : 8 < (j : Int))
          go_wp2_with fail
          refine (awake37_calls wr (HW.out.chg HK.out (by simp))).mono ?_
          rintro e w1 ⟨rfl, hc⟩
          have hend := hide (HK.out.trans hc (D := []) (by simp))
          clear hc HK HB HQ
          go_wp2_with fail
          go_ret
          exact ⟨rfl, hend.out⟩
end Go.Proofs.YtihgijhjhmjolaaGreatDoor.Xi
