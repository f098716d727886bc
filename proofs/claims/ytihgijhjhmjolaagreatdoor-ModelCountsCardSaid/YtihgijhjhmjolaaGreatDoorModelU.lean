/- ModelCounts. -/
import Derived.Test.YtihgijhjhmjolaaGreatDoorModelQ
import Derived.Test.YtihgijhjhmjolaaGreatDoorByteRows
import Derived.Test.YtihgijhjhmjolaaGreatDoorModelT
import Derived.Test.YtihgijhjhmjolaaGreatDoorRegH
namespace Go.Proofs.YtihgijhjhmjolaaGreatDoor.Xi
open Go Go.RowKit Go.Deep
set_option linter.unusedVariables false
theorem eqQ10 (x0 x1 x2 x3 y0 y1 y2 y3 : Int) (w : World) : (Op.equalIn 10000 23 (.agg #[.int .i32 x0, .int .i32 x1, .int .i32 x2, .int .i32 x3]) (.agg #[.int .i32 y0, .int .i32 y1, .int .i32 y2, .int .i32 y3])).run Tryz.prog w = .ok (x0 == y0 && x1 == y1 && x2 == y2 && x3 == y3) w := by
  have u3 := Tryz.underlying21
  have k3 := Tryz.isAgg21
  have z3 := Tryz.sizeOf21
  rw [show (10000 : Nat) = 9999 + 1 from rfl, Op.equalIn]
  simp only [Sem.run_bind, run_underlying Tryz.underlying23, Result.andThen_ok]
  simp only [Std.Legacy.Range.forIn_eq_forIn_range', Std.Legacy.Range.size, Nat.sub_zero, Nat.add_sub_cancel, Nat.div_one, List.range'_succ, List.range'_zero, List.forIn_cons, List.forIn_nil]
  go_simp
  by_cases h0 : x0 = y0 <;> by_cases h1 : x1 = y1 <;> by_cases h2 : x2 = y2 <;> by_cases h3 : x3 = y3 <;> simp [h0, h1, h2, h3]
theorem right_i64 {x : St} (h : x.right) : x.i64 := by
  unfold St.right in16 at h
  unfold St.i64
  omega
theorem feed_ne {x : St} (hr : x.right) {xs : List Nat} (h : xs.length ≠ 20) : feedR x xs = (x, [], errLen xs.length) := by
  unfold feedR
  rw [x.rb_iff.2 hr, decide_eq_false h]
  rfl
theorem feed_20 {x : St} (hr : x.right) {xs : List Nat} (h : xs.length = 20) : feedR x xs = (x.next xs, (x.next xs).frame (flN xs), 0) := by
  unfold feedR
  rw [x.rb_iff.2 hr, decide_eq_true h]
  rfl
theorem errLen_ne (n : Nat) : errLen n ≠ 0 := by unfold errLen; split <;> decide
theorem and7 : ∀ (k : Fin 8) (l : Bool), bits .and .i64 ((k : Nat) + (bif l then 8 else 0) : Int) 7 = (k : Nat) := by decide +kernel
theorem and1 : ∀ (k : Fin 8) (l : Bool), bits .and .i64 ((k : Nat) + (bif l then 8 else 0) : Int) 1 = ((k : Nat) % 2 : Nat) := by decide +kernel
theorem and7' {f : Int} (h : 0 ≤ f ∧ f ≤ 7) (l : Bool) : bits .and .i64 (f + (bif l then 8 else 0)) 7 = f := by
  have := and7 ⟨f.toNat, by omega⟩ l
  simp only at this
  rw [Int.toNat_of_nonneg h.1] at this
  exact this
theorem and1' {f : Int} (h : 0 ≤ f ∧ f ≤ 7) (l : Bool) : bits .and .i64 (f + (bif l then 8 else 0)) 1 = f % 2 := by
  have := and1 ⟨f.toNat, by omega⟩ l
  simp only at this
  rw [Int.toNat_of_nonneg h.1] at this
  rw [this]
  omega
theorem w_inc (N : Nat) (h : N ≤ 40) : wrap64 ((N : Int) + 1) = ((N + 1 : Nat) : Int) := by unfold wrap64; omega
theorem w_dec (N B : Nat) (h : N ≤ 41) (hB : B ≤ N) : wrap64 ((N : Int) - B) = (N : Int) - B := by unfold wrap64; omega
theorem w_sub (N B : Nat) (h : N ≤ 40) (hB : B ≤ N) : wrap64 (wrap64 ((N : Int) + 1) - (B : Int)) = (N : Int) - B + 1 :=
  (congrArg (fun z => wrap64 (z - (B : Int))) (w_inc N h)).trans ((w_dec (N + 1) B (by omega) (by omega)).trans (by omega))
theorem w_sub2 (N B : Nat) (h : N ≤ 40) (hB : B ≤ N) : wrap64 (wrap64 ((N : Int) + 1) - wrap64 ((B : Int) + 1)) = (N : Int) - B :=
  (congrArg (fun z => wrap64 (z - wrap64 ((B : Int) + 1))) (w_inc N h)).trans ((congrArg (fun z => wrap64 (((N + 1 : Nat) : Int) - z)) (w_inc B (by omega))).trans ((w_dec (N + 1) (B + 1) (by omega) (by omega)).trans (by omega)))
theorem eq_self (a b : Int) (h : a = b) : (a == b) = true := by rw [h]; simp
theorem ne_self (a b : Int) (h : a = b) : (a != b) = false := by rw [h]; simp
theorem nextF_even (B : Nat → Int) : nextF B % 2 = 0 := by
  unfold nextF flagsI flagI
  split <;> split <;> rfl
theorem next_right {x : St} (hr : x.right) (xs : List Nat) : (x.next xs).right := by
  unfold St.right in16 at *
  unfold St.next
  cases sumOk xs 18 <;> simp only [cond_true, cond_false] <;> omega
structure GC where
  p : Nat
  sv : Value
def vCo (x y : St) (sl : Value) (j : Nat) (ptr rv : Value) (er : Int) (γ : GC) : Nat → Value
  | 0 => .agg #[.int .i32 x.q.a.v, .int .i32 x.q.b.v, .int .i32 x.q.c.v, .int .i32 x.q.d.v, .int .i64 x.s, .int .i64 x.f, .int .i64 x.g]
  | 1 => sl
  | 2 => .int .i64 j
  | 3 => ptr
  | 4 => rv
  | 5 => .tuple #[.agg #[.int .i32 y.q.a.v, .int .i32 y.q.b.v, .int .i32 y.q.c.v, .int .i32 y.q.d.v, .int .i64 y.s, .int .i64 y.f, .int .i64 y.g], γ.sv, .int .i64 er]
  | 6 => .tuple #[.agg #[.int .i32 y.q.a.v, .int .i32 y.q.b.v, .int .i32 y.q.c.v, .int .i32 y.q.d.v, .int .i64 y.s, .int .i64 y.f, .int .i64 y.g], γ.sv, .int .i64 er]
  | 7 => .agg #[.int .i32 y.q.a.v, .int .i32 y.q.b.v, .int .i32 y.q.c.v, .int .i32 y.q.d.v, .int .i64 y.s, .int .i64 y.f, .int .i64 y.g]
  | 8 => γ.sv
  | 9 => .int .i64 er
  | 10 => .pointer (some ⟨γ.p, 0, none⟩)
  | 12 => γ.sv
  | 13 => .int .i64 er
  | _ => undef
structure WCo (w0 : World) (y : St) (ys : List Nat) (γ : GC) (L : Nat → Bool) (w : World) : Prop where
  chg : Chg w0 w []
  ans : L 5 = true → Sl w γ.sv (u8s ys)
  new : L 10 = true → w0.heap.size ≤ γ.p ∧ Blk w γ.p 25 (bif L 11 then [.int .i32 y.q.a.v, .int .i32 y.q.b.v, .int .i32 y.q.c.v, .int .i32 y.q.d.v, .int .i64 y.s, .int .i64 y.f, .int .i64 y.g] else [.int .i32 0, .int .i32 0, .int .i32 0, .int .i32 0, .int .i64 0, .int .i64 0, .int .i64 0])
theorem WCo.ext {w0 : World} {y : St} {ys : List Nat} {γ : GC} {L L' : Nat → Bool} {w : World} (h : WCo w0 y ys γ L w) (e5 : L 5 = L' 5) (e10 : L 10 = L' 10) (e11 : L 11 = L' 11) : WCo w0 y ys γ L' w :=
  ⟨h.chg, by rw [← e5]; exact h.ans, by rw [← e10, ← e11]; exact h.new⟩
theorem WCo.keep {w0 : World} {y : St} {ys : List Nat} {γ : GC} {L : Nat → Bool} {w w' : World} (h : WCo w0 y ys γ L w) (hc : Chg w w' []) : WCo w0 y ys γ L w' :=
  ⟨h.chg.trans hc (D := []) (by simp), fun a => (h.ans a).keep hc, fun a => ⟨(h.new a).1, (h.new a).2.chg hc (by simp)⟩⟩
set_option maxRecDepth 100000 in
set_option maxHeartbeats 16000000 in
theorem modelCounts_calls (A : Option Addr) (n c : Nat) (hm : n ≤ maxLen) (W : World) (hw : FTab W) (hR : BRows W A n) :
    Calls Tryz.prog 4 #[.slice A n c] W fun e w' => e = .returned (.bool true) ∧ Chg W w' [] := by
  have HW := hide hw
  have HR := hide hR
  clear hw hR
  have hmix : Tryz.prog.follows .mixedOrders = true := by kernel_rfl
  by_cases hgt : (40 : Int) < (n : Int)
  · go_enter Tryz.func4, Tryz.ntmps4
    go_wp2_with fail
    refine (awake37_calls _ HW.out).mono ?_
    rintro e w1 ⟨rfl, hc⟩
    have hend := hide hc
    clear hc
    go_wp2_with fail
    go_ret
    exact ⟨rfl, hend.out⟩
  · have h40 : n ≤ 40 := by omega
    replace h40 := hide h40
    go_enter Tryz.func4, Tryz.ntmps4
    go_wp2_with fail
    refine (reset_calls _).mono ?_
    rintro e w0 ⟨rfl, hc⟩
    have H0 := hide hc
    clear hc
    go_wp2_with fail
    generalize hP : w0.heap.size = P
    have hge : W.heap.size ≤ P := by rw [← hP]; exact H0.out.size
    have b0 : Blk (w0.alloc (.cells #[.int .i32 1073741824, .int .i32 0, .int .i32 0, .int .i32 0, .int .i64 0, .int .i64 0, .int .i64 0] 25)) P 25 [.int .i32 1073741824, .int .i32 0, .int .i32 0, .int .i32 0, .int .i64 0, .int .i64 0, .int .i64 0] := by rw [← hP]; exact Blk.new w0 _ _
    have h0 : Chg W (w0.alloc (.cells #[.int .i32 1073741824, .int .i32 0, .int .i32 0, .int .i32 0, .int .i64 0, .int .i64 0, .int .i64 0] 25)) [] := H0.out.alloc _
    generalize w0.alloc (.cells #[.int .i32 1073741824, .int .i32 0, .int .i32 0, .int .i32 0, .int .i64 0, .int .i64 0, .int .i64 0] 25) = w1 at *
    replace b0 := hide b0
    replace h0 := hide h0
    replace hge := hide hge
    clear hP H0
    go_loopw [4, 5, 6] (fun nn bb i wr => ∃ (j N B : Nat) (x : St), (j ≤ n ∧ N ≤ j ∧ B ≤ N) ∧ i = .int .i64 j ∧ nn = .int .i64 N ∧ bb = .int .i64 B ∧ Hid (x.right ∧ x.s = N ∧ x.f = B ∧ x.g = N - B) ∧ Hid (Chg W wr []) ∧ Hid (Blk wr P 25 [.int .i32 x.q.a.v, .int .i32 x.q.b.v, .int .i32 x.q.c.v, .int .i32 x.q.d.v, .int .i64 x.s, .int .i64 x.f, .int .i64 x.g])) (fun _ _ i _ => n - (intOf i).toNat)
    case atStart =>
      refine ⟨0, 0, 0, st0, by omega, rfl, rfl, rfl, hide ⟨st0_right, rfl, rfl, rfl⟩, h0, hide ?_⟩
      rw [show st0.q.a.v = 1073741824 by decide +kernel, show st0.q.b.v = 0 by decide +kernel, show st0.q.c.v = 0 by decide +kernel, show st0.q.d.v = 0 by decide +kernel]
      exact b0.out
    case round =>
      obtain ⟨j, N, B, x, hj, rfl, rfl, rfl, hx, HK, HB⟩ := hrel
      clear b0 h0
      replace hj := hide hj
      by_cases hlt : j < n
      · have k3 : decide ((j : Int) < (n : Int)) = true := by simpa using (by omega : (j : Int) < (n : Int))
        obtain ⟨b, off, rfl, hall⟩ := HR.out (by omega)
        obtain ⟨rv, hcell, RA, rl, rc, xs, rfl, hrow, hlen, hml, hby⟩ := hall j hlt
        clear hall
        have hcellW := hide hcell
        have hrowW := hide hrow
        replace hcell := HK.out.cell hcell (by simp)
        replace hrow := hide (hrow.keep HK.out)
        replace hlen := hide hlen
        replace hby := hide hby
        replace hml := hide hml
        by_cases h100 : (100 : Int) < (rl : Int)
        · go_wp2_with fail
          refine (awake37_calls wr (HW.out.chg HK.out (by simp))).mono ?_
          rintro e w2 ⟨rfl, hc⟩
          have hend := hide (HK.out.trans hc (D := []) (by simp))
          clear hc HK HB
          go_wp2_with fail
          go_ret
          exact ⟨rfl, hend.out⟩
        · have x0 := HB.out.cell' (i := 0) rfl
          have x1 := HB.out.cell' (i := 1) rfl
          have x2 := HB.out.cell' (i := 2) rfl
          have x3 := HB.out.cell' (i := 3) rfl
          have x4 := HB.out.cell' (i := 4) rfl
          have x5 := HB.out.cell' (i := 5) rfl
          have x6 := HB.out.cell' (i := 6) rfl
          go_upto_region 11 with (fail)
          clear x0 x1 x2 x3 x4 x5 x6
          have hwas : Blk (wr.alloc (.cells #[.int .i32 x.q.a.v, .int .i32 x.q.b.v, .int .i32 x.q.c.v, .int .i32 x.q.d.v, .int .i64 x.s, .int .i64 x.f, .int .i64 x.g] 25)) wr.heap.size 25 [.int .i32 x.q.a.v, .int .i32 x.q.b.v, .int .i32 x.q.c.v, .int .i32 x.q.d.v, .int .i64 x.s, .int .i64 x.f, .int .i64 x.g] := Blk.new wr _ _
          have hq : Chg wr (wr.alloc (.cells #[.int .i32 x.q.a.v, .int .i32 x.q.b.v, .int .i32 x.q.c.v, .int .i32 x.q.d.v, .int .i64 x.s, .int .i64 x.f, .int .i64 x.g] 25)) [] := (Chg.refl wr []).alloc _
          generalize wr.alloc (.cells #[.int .i32 x.q.a.v, .int .i32 x.q.b.v, .int .i32 x.q.c.v, .int .i32 x.q.d.v, .int .i64 x.s, .int .i64 x.f, .int .i64 x.g] 25) = wq at *
          replace hcell := hide (hq.cell hcell (by simp))
          replace hrow := hide (hrow.out.keep hq)
          have hPW := hide HB.out.lt
          replace HK := hide (HK.out.trans hq (D := []) (by simp))
          replace HB := hide (HB.out.chg hq (by simp))
          have HWq := hide (HW.out.chg HK.out (by simp))
          replace hwas := hide hwas
          have hqW : wr.heap.size < wq.heap.size := hwas.lt
          replace hqW := hide hqW
          generalize wr.heap.size = Wb at *
          clear hq
          have hfd := fun w hw hs => pfeed x (right_i64 hx.out.1) xs hby.out (by have := hlen.out; have := hml.out; omega) (.slice RA rl rc) w hw hs
          have hne := fun h => feed_ne (xs := xs) hx.out.1 h
          have h20 := fun h => feed_20 (xs := xs) hx.out.1 h
          unfold feedC at hfd
          generalize feedR x xs = R at hfd hne h20
          obtain ⟨y, ys, er⟩ := R
          simp only [St.val_eq] at hfd
          replace hfd := hide hfd
          replace hne := hide hne
          replace h20 := hide h20
          refine wp_regionG hmix _ _ (vCo x y (.slice (some ⟨b, off, none⟩) n c) j (.pointer (some ⟨b, off + j, none⟩)) (.slice RA rl rc) er) (WCo wq y ys) ⟨0, undef⟩ (by kernel_rfl) (by kernel_rfl) (by kernel_rfl) ?step ?start ?fin ?ext
          case start => exact ⟨(Chg.refl wq _).drew, (fun h => by cases h), (fun h => by cases h)⟩
          case ext => exact fun γ L L' w' he h => h.ext (he 5 (by decide)) (he 10 (by decide)) (he 11 (by decide))
          case step =>
            replace hfd := hfd.out
            replace hcell := hcell.out
            replace hrow := hrow.out
            intro i o ho L a w1 γ hdn htm hW hL hpre K Q hK
            match i, ho with
            | 0, ho =>
              injection ho with ho
              subst ho
              have sb := slot_base htm (t := 3) (by kernel_rfl) (by kernel_rfl)
              simp only [Array.getD_eq_getD_getElem?, List.getElem?_toArray, List.getElem?_cons_succ, List.getElem?_cons_zero, Option.getD_some] at sb
              clear htm
              have hb := HB.out.chg hW.chg (by simp)
              have c0 := hb.cell' (i := 0) rfl
              have c1 := hb.cell' (i := 1) rfl
              have c2 := hb.cell' (i := 2) rfl
              have c3 := hb.cell' (i := 3) rfl
              have c4 := hb.cell' (i := 4) rfl
              have c5 := hb.cell' (i := 5) rfl
              have c6 := hb.cell' (i := 6) rfl
              refine val_now (v := vCo x y (.slice (some ⟨b, off, none⟩) n c) j (.pointer (some ⟨b, off + j, none⟩)) (.slice RA rl rc) er γ 0) (w' := w1) ?_ (hK γ w1 (fun _ _ => rfl) (hW.ext (by simp) (by simp) (by simp)))
              go_simp
              rfl
            | 1, ho =>
              injection ho with ho
              subst ho
              have sb := slot_base htm (t := 0) (by kernel_rfl) (by kernel_rfl)
              simp only [Array.getD_eq_getD_getElem?, List.getElem?_toArray, List.getElem?_cons_zero, Option.getD_some] at sb
              clear htm
              refine val_now (v := vCo x y (.slice (some ⟨b, off, none⟩) n c) j (.pointer (some ⟨b, off + j, none⟩)) (.slice RA rl rc) er γ 1) (w' := w1) ?_ (hK γ w1 (fun _ _ => rfl) (hW.ext (by simp) (by simp) (by simp)))
              go_simp
              rfl
            | 2, ho =>
              injection ho with ho
              subst ho
              have sb := slot_base htm (t := 6) (by kernel_rfl) (by kernel_rfl)
              simp only [Array.getD_eq_getD_getElem?, List.getElem?_toArray, List.getElem?_cons_succ, List.getElem?_cons_zero, Option.getD_some] at sb
              clear htm
              refine val_now (v := vCo x y (.slice (some ⟨b, off, none⟩) n c) j (.pointer (some ⟨b, off + j, none⟩)) (.slice RA rl rc) er γ 2) (w' := w1) ?_ (hK γ w1 (fun _ _ => rfl) (hW.ext (by simp) (by simp) (by simp)))
              go_simp
              rfl
            | 3, ho =>
              injection ho with ho
              subst ho
              have l1 := hpre ⟨1, .data⟩ (by simp) rfl
              have s1 := slot_at htm (t := 36) (i := 1) (by kernel_rfl) (by kernel_rfl) l1
              simp only [vCo] at s1
              have l2 := hpre ⟨2, .data⟩ (by simp) rfl
              have s2 := slot_at htm (t := 37) (i := 2) (by kernel_rfl) (by kernel_rfl) l2
              simp only [vCo] at s2
              clear htm
              refine val_now (v := vCo x y (.slice (some ⟨b, off, none⟩) n c) j (.pointer (some ⟨b, off + j, none⟩)) (.slice RA rl rc) er γ 3) (w' := w1) ?_ (hK γ w1 (fun _ _ => rfl) (hW.ext (by simp) (by simp) (by simp)))
              go_simp
              rfl
            | 4, ho =>
              injection ho with ho
              subst ho
              have l3 := hpre ⟨3, .data⟩ (by simp) rfl
              have s3 := slot_at htm (t := 38) (i := 3) (by kernel_rfl) (by kernel_rfl) l3
              simp only [vCo] at s3
              clear htm
              have hrc := hW.chg.cell hcell (by simp)
              refine val_now (v := vCo x y (.slice (some ⟨b, off, none⟩) n c) j (.pointer (some ⟨b, off + j, none⟩)) (.slice RA rl rc) er γ 4) (w' := w1) ?_ (hK γ w1 (fun _ _ => rfl) (hW.ext (by simp) (by simp) (by simp)))
              go_simp
              rfl
            | 5, ho =>
              injection ho with ho
              subst ho
              have l0 := hpre ⟨0, .data⟩ (by simp) rfl
              have s0 := slot_at htm (t := 35) (i := 0) (by kernel_rfl) (by kernel_rfl) l0
              simp only [vCo] at s0
              have l4 := hpre ⟨4, .data⟩ (by simp) rfl
              have s4 := slot_at htm (t := 39) (i := 4) (by kernel_rfl) (by kernel_rfl) l4
              simp only [vCo] at s4
              clear htm
              refine call_now (f := 10) (args := #[.agg #[.int .i32 x.q.a.v, .int .i32 x.q.b.v, .int .i32 x.q.c.v, .int .i32 x.q.d.v, .int .i64 x.s, .int .i64 x.f, .int .i64 x.g], .slice RA rl rc]) ?_ (hfd w1 (HWq.out.chg hW.chg (by simp)) (hrow.keep hW.chg)) ?_
              · go_simp
              · rintro e w2 ⟨⟨sv', rfl, hsv'⟩, hc⟩
                refine ⟨_, rfl, hK ⟨γ.p, sv'⟩ w2 (fun j hj => ?_) ?_⟩
                · have n6 : L 6 = false := by
                    cases h : L 6 with
                    | false => rfl
                    | true => have this : L 5 = true := hdn 6 _ rfl h ⟨5, .data⟩ (by simp) rfl; rw [hL] at this; cases this
                  have n8 : L 8 = false := by
                    cases h : L 8 with
                    | false => rfl
                    | true => have this : L 6 = true := hdn 8 _ rfl h ⟨6, .data⟩ (by simp) rfl; rw [n6] at this; cases this
                  have n12 : L 12 = false := by
                    cases h : L 12 with
                    | false => rfl
                    | true => have this : L 8 = true := hdn 12 _ rfl h ⟨8, .data⟩ (by simp) rfl; rw [n8] at this; cases this
                  match j, hj with
                    | 0, _ => rfl
                    | 1, _ => rfl
                    | 2, _ => rfl
                    | 3, _ => rfl
                    | 4, _ => rfl
                    | 5, hj => rw [hL] at hj; cases hj
                    | 6, hj => rw [n6] at hj; cases hj
                    | 7, _ => rfl
                    | 8, hj => rw [n8] at hj; cases hj
                    | 9, _ => rfl
                    | 10, _ => rfl
                    | 11, _ => rfl
                    | 12, hj => rw [n12] at hj; cases hj
                    | 13, _ => rfl
                    | _ + 14, _ => rfl
                · have hk := hW.keep hc
                  exact ⟨hk.chg, fun _ => hsv', fun h => by simpa using hk.new (by simpa using h)⟩
            | 6, ho =>
              injection ho with ho
              subst ho
              have l5 := hpre ⟨5, .data⟩ (by simp) rfl
              have s5 := slot_at htm (t := 40) (i := 5) (by kernel_rfl) (by kernel_rfl) l5
              simp only [vCo] at s5
              clear htm
              refine val_now (v := vCo x y (.slice (some ⟨b, off, none⟩) n c) j (.pointer (some ⟨b, off + j, none⟩)) (.slice RA rl rc) er γ 6) (w' := w1) ?_ (hK γ w1 (fun _ _ => rfl) (hW.ext (by simp) (by simp) (by simp)))
              go_simp
              rfl
            | 7, ho =>
              injection ho with ho
              subst ho
              have l6 := hpre ⟨6, .data⟩ (by simp) rfl
              have s6 := slot_at htm (t := 34) (i := 6) (by kernel_rfl) (by kernel_rfl) l6
              simp only [vCo] at s6
              clear htm
              refine val_now (v := vCo x y (.slice (some ⟨b, off, none⟩) n c) j (.pointer (some ⟨b, off + j, none⟩)) (.slice RA rl rc) er γ 7) (w' := w1) ?_ (hK γ w1 (fun _ _ => rfl) (hW.ext (by simp) (by simp) (by simp)))
              go_simp
              rfl
            | 8, ho =>
              injection ho with ho
              subst ho
              have l6 := hpre ⟨6, .data⟩ (by simp) rfl
              have s6 := slot_at htm (t := 34) (i := 6) (by kernel_rfl) (by kernel_rfl) l6
              simp only [vCo] at s6
              clear htm
              refine val_now (v := vCo x y (.slice (some ⟨b, off, none⟩) n c) j (.pointer (some ⟨b, off + j, none⟩)) (.slice RA rl rc) er γ 8) (w' := w1) ?_ (hK γ w1 (fun _ _ => rfl) (hW.ext (by simp) (by simp) (by simp)))
              go_simp
              rfl
            | 9, ho =>
              injection ho with ho
              subst ho
              have l6 := hpre ⟨6, .data⟩ (by simp) rfl
              have s6 := slot_at htm (t := 34) (i := 6) (by kernel_rfl) (by kernel_rfl) l6
              simp only [vCo] at s6
              clear htm
              refine val_now (v := vCo x y (.slice (some ⟨b, off, none⟩) n c) j (.pointer (some ⟨b, off + j, none⟩)) (.slice RA rl rc) er γ 9) (w' := w1) ?_ (hK γ w1 (fun _ _ => rfl) (hW.ext (by simp) (by simp) (by simp)))
              go_simp
              rfl
            | 10, ho =>
              injection ho with ho
              subst ho
              clear htm
              have l11 : L 11 = false := by
                cases h : L 11 with
                | false => rfl
                | true =>
                  have this : L 10 = true := hdn 11 _ rfl h ⟨10, .data⟩ (by simp) rfl
                  rw [hL] at this
                  cases this
              refine val_now (v := vCo x y (.slice (some ⟨b, off, none⟩) n c) j (.pointer (some ⟨b, off + j, none⟩)) (.slice RA rl rc) er ⟨w1.heap.size, γ.sv⟩ 10) (w' := w1.alloc (.cells #[.int .i32 0, .int .i32 0, .int .i32 0, .int .i32 0, .int .i64 0, .int .i64 0, .int .i64 0] 25)) ?_ (hK ⟨w1.heap.size, γ.sv⟩ _ (fun j hj => ?_) ?_)
              · go_simp
                rfl
              · match j, hj with
                  | 0, _ => rfl
                  | 1, _ => rfl
                  | 2, _ => rfl
                  | 3, _ => rfl
                  | 4, _ => rfl
                  | 5, _ => rfl
                  | 6, _ => rfl
                  | 7, _ => rfl
                  | 8, _ => rfl
                  | 9, _ => rfl
                  | 10, hj => rw [hL] at hj; cases hj
                  | 11, _ => rfl
                  | 12, _ => rfl
                  | 13, _ => rfl
                  | _ + 14, _ => rfl
              · have hk := hW.keep ((Chg.refl w1 []).alloc (.cells #[.int .i32 0, .int .i32 0, .int .i32 0, .int .i32 0, .int .i64 0, .int .i64 0, .int .i64 0] 25))
                refine ⟨hk.chg, fun h => hk.ans (by simpa using h), fun _ => ⟨hW.chg.size, ?_⟩⟩
                simp only [l11]
                exact Blk.new w1 _ _
            | 11, ho =>
              injection ho with ho
              subst ho
              have l10 := hpre ⟨10, .data⟩ (by simp) rfl
              have s10 := slot_at htm (t := 8) (i := 10) (by kernel_rfl) (by kernel_rfl) l10
              simp only [vCo] at s10
              have l7 := hpre ⟨7, .data⟩ (by simp) rfl
              have s7 := slot_at htm (t := 41) (i := 7) (by kernel_rfl) (by kernel_rfl) l7
              simp only [vCo] at s7
              clear htm
              have l6 : L 6 = true := hdn 7 _ rfl l7 ⟨6, .data⟩ (by simp) rfl
              have l5 : L 5 = true := hdn 6 _ rfl l6 ⟨5, .data⟩ (by simp) rfl
              obtain ⟨hp, hb⟩ := hW.new l10
              rw [hL] at hb
              simp only [cond_false] at hb
              have c0 := hb.cell' (i := 0) rfl
              have f0 := hb.frozen 0
              have c1 := hb.cell' (i := 1) rfl
              have f1 := hb.frozen 1
              have c2 := hb.cell' (i := 2) rfl
              have f2 := hb.frozen 2
              have c3 := hb.cell' (i := 3) rfl
              have f3 := hb.frozen 3
              have c4 := hb.cell' (i := 4) rfl
              have f4 := hb.frozen 4
              have c5 := hb.cell' (i := 5) rfl
              have f5 := hb.frozen 5
              have c6 := hb.cell' (i := 6) rfl
              have f6 := hb.frozen 6
              refine skip_now (w' := put7 w1 γ.p (.int .i32 y.q.a.v) (.int .i32 y.q.b.v) (.int .i32 y.q.c.v) (.int .i32 y.q.d.v) (.int .i64 y.s) (.int .i64 y.f) (.int .i64 y.g)) ?_ (hK γ _ (fun _ _ => rfl) ?_)
              · go_simp
                rfl
              · have hc7 := put7_chg w1 γ.p (.int .i32 y.q.a.v) (.int .i32 y.q.b.v) (.int .i32 y.q.c.v) (.int .i32 y.q.d.v) (.int .i64 y.s) (.int .i64 y.f) (.int .i64 y.g)
                have hans := hW.ans l5
                refine ⟨hW.chg.trans hc7 (D := []) (fun k hk => by simp at hk; omega), fun _ => hans.chg0 hc7 (fun h0 => not_state hb hans h0), fun _ => ⟨hp, ?_⟩⟩
                simp only [if_true, cond_true]
                exact put7_blk hb (.int .i32 y.q.a.v) (.int .i32 y.q.b.v) (.int .i32 y.q.c.v) (.int .i32 y.q.d.v) (.int .i64 y.s) (.int .i64 y.f) (.int .i64 y.g)
            | 12, ho =>
              injection ho with ho
              subst ho
              have l8 := hpre ⟨8, .data⟩ (by simp) rfl
              have s8 := slot_at htm (t := 42) (i := 8) (by kernel_rfl) (by kernel_rfl) l8
              simp only [vCo] at s8
              clear htm
              refine val_now (v := vCo x y (.slice (some ⟨b, off, none⟩) n c) j (.pointer (some ⟨b, off + j, none⟩)) (.slice RA rl rc) er γ 12) (w' := w1) ?_ (hK γ w1 (fun _ _ => rfl) (hW.ext (by simp) (by simp) (by simp)))
              go_simp
              rfl
            | 13, ho =>
              injection ho with ho
              subst ho
              have l9 := hpre ⟨9, .data⟩ (by simp) rfl
              have s9 := slot_at htm (t := 43) (i := 9) (by kernel_rfl) (by kernel_rfl) l9
              simp only [vCo] at s9
              clear htm
              refine val_now (v := vCo x y (.slice (some ⟨b, off, none⟩) n c) j (.pointer (some ⟨b, off + j, none⟩)) (.slice RA rl rc) er γ 13) (w' := w1) ?_ (hK γ w1 (fun _ _ => rfl) (hW.ext (by simp) (by simp) (by simp)))
              go_simp
              rfl
            | _ + 14, ho => cases ho
          case fin =>
            intro γ w1 hW
            rw [finG_puts]
            simp only [putsR, vCo]
            have hans := hW.ans rfl
            obtain ⟨hp, hb2⟩ := hW.new rfl
            simp only [cond_true] at hb2
            have hchg := hW.chg
            clear hW
            obtain ⟨gp, gs⟩ := γ
            have hPb := HB.out.chg hchg (by simp)
            have hWb := hide (hwas.out.chg hchg (by simp))
            have hK1 := hide (HK.out.trans hchg (D := []) (by simp))
            clear hcell hrow HK HB hwas HWq hfd hchg hp
            have hsP := hide (fun h0 => not_state hPb hans h0)
            have y0 := hb2.cell' (i := 0) rfl
            have y1 := hb2.cell' (i := 1) rfl
            have y2 := hb2.cell' (i := 2) rfl
            have y3 := hb2.cell' (i := 3) rfl
            have y4 := hb2.cell' (i := 4) rfl
            have y5 := hb2.cell' (i := 5) rfl
            have y6 := hb2.cell' (i := 6) rfl
            have x0 := hPb.cell' (i := 0) rfl
            have x1 := hPb.cell' (i := 1) rfl
            have x2 := hPb.cell' (i := 2) rfl
            have x3 := hPb.cell' (i := 3) rfl
            have x4 := hPb.cell' (i := 4) rfl
            have x5 := hPb.cell' (i := 5) rfl
            have x6 := hPb.cell' (i := 6) rfl
            have f0 := hPb.frozen 0
            have f1 := hPb.frozen 1
            have f2 := hPb.frozen 2
            have f3 := hPb.frozen 3
            have f4 := hPb.frozen 4
            have f5 := hPb.frozen 5
            have f6 := hPb.frozen 6
            replace hb2 := hide hb2
            replace hPb := hide hPb
            replace hans := hide hans
            go_upto_region 13 with (fail)
            clear x0 x1 x2 x3 x4 x5 x6 y0 y1 y2 y3 y4 y5 y6 f0 f1 f2 f3 f4 f5 f6
            change Code.wp _ _ _ _ (put7 w1 P (.int .i32 y.q.a.v) (.int .i32 y.q.b.v) (.int .i32 y.q.c.v) (.int .i32 y.q.d.v) (.int .i64 y.s) (.int .i64 y.f) (.int .i64 y.g))
            have hc7 := put7_chg w1 P (.int .i32 y.q.a.v) (.int .i32 y.q.b.v) (.int .i32 y.q.c.v) (.int .i32 y.q.d.v) (.int .i64 y.s) (.int .i64 y.f) (.int .i64 y.g)
            have kP := put7_blk hPb.out (.int .i32 y.q.a.v) (.int .i32 y.q.b.v) (.int .i32 y.q.c.v) (.int .i32 y.q.d.v) (.int .i64 y.s) (.int .i64 y.f) (.int .i64 y.g)
            have kW := hWb.out.chg hc7 (by have := hPW.out; simp; omega)
            have kK := hK1.out.trans hc7 (D := []) (fun k hk => by have := hge.out; simp at hk; omega)
            have kS := hans.out.chg0 hc7 hsP.out
            generalize put7 w1 P (.int .i32 y.q.a.v) (.int .i32 y.q.b.v) (.int .i32 y.q.c.v) (.int .i32 y.q.d.v) (.int .i64 y.s) (.int .i64 y.f) (.int .i64 y.g) = w2 at *
            replace kP := hide kP
            replace kW := hide kW
            replace kK := hide kK
            replace kS := hide kS
            clear hc7 hPb hWb hK1 hans hsP hb2 hge hqW hPW
            have kH := hide (HW.out.chg kK.out (by simp))
            have hcell := kK.out.cell hcellW.out (by simp)
            have hrow := hide (hrowW.out.keep kK.out)
            by_cases hl : rl = 20
            · subst hl
              have hx20 : xs.length = 20 := hlen.out
              replace hx20 := hide hx20
              have h20' := h20.out hx20.out
              injection h20' with e1 e2
              injection e2 with e2 e3
              subst e3
              have hyr : y.right := by rw [e1]; exact next_right hx.out.1 xs
              rw [← e1] at e2
              replace e1 := hide e1
              have hget := get_ok y hyr (flN_in xs) gs w2 kH.out (by rw [← e2]; exact kS.out)
              have hF7 := and7' (flN_in xs) (lockB y.q.a y.q.b y.q.c y.q.d)
              have hF1 := and1' (flN_in xs) (lockB y.q.a y.q.b y.q.c y.q.d)
              obtain ⟨F, ra, rb, rc2, hrep, hF⟩ : ∃ F a b c, y.rep (flN xs) = .agg #[.int .i64 F, .int .i64 y.s, .int .i64 y.f, .int .i64 y.g, .int .i32 y.q.a.v, .int .i32 y.q.b.v, .int .i32 y.q.c.v, .int .i32 y.q.d.v, .int .i32 a, .int .i32 b, .int .i32 c] ∧ F = flN xs + (bif lockB y.q.a y.q.b y.q.c y.q.d then 8 else 0) := ⟨_, _, _, _, rfl, rfl⟩
              rw [hrep] at hget
              rw [← hF] at hF7 hF1
              replace hget := hide hget
              replace hF7 := hide hF7
              replace hF1 := hide hF1
              replace hyr := hide hyr
              have hopen := hide (fun w hw hs => ropen hx20.out hby.out (.slice RA 20 rc) w hw hs)
              clear hrep hF hne h20 e2 kS
              go_wp2_with fail
              refine hget.out.mono ?_
              rintro e w3 ⟨rfl, hc⟩
              replace kP := hide (kP.out.chg hc (by simp))
              replace kW := hide (kW.out.chg hc (by simp))
              replace kK := hide (kK.out.trans hc (D := []) (by simp))
              clear hc hget hcell hrow kH
              go_upto_region 18 with (fail)
              have kR := Blk.new w3 38 [.int .i64 F, .int .i64 y.s, .int .i64 y.f, .int .i64 y.g, .int .i32 y.q.a.v, .int .i32 y.q.b.v, .int .i32 y.q.c.v, .int .i32 y.q.d.v, .int .i32 ra, .int .i32 rb, .int .i32 rc2]
              have hc : Chg w3 (w3.alloc (.cells #[.int .i64 F, .int .i64 y.s, .int .i64 y.f, .int .i64 y.g, .int .i32 y.q.a.v, .int .i32 y.q.b.v, .int .i32 y.q.c.v, .int .i32 y.q.d.v, .int .i32 ra, .int .i32 rb, .int .i32 rc2] 38)) [] := (Chg.refl w3 []).alloc _
              change Blk (w3.alloc (.cells #[.int .i64 F, .int .i64 y.s, .int .i64 y.f, .int .i64 y.g, .int .i32 y.q.a.v, .int .i32 y.q.b.v, .int .i32 y.q.c.v, .int .i32 y.q.d.v, .int .i32 ra, .int .i32 rb, .int .i32 rc2] 38)) _ _ _ at kR
              generalize w3.alloc (.cells #[.int .i64 F, .int .i64 y.s, .int .i64 y.f, .int .i64 y.g, .int .i32 y.q.a.v, .int .i32 y.q.b.v, .int .i32 y.q.c.v, .int .i32 y.q.d.v, .int .i32 ra, .int .i32 rb, .int .i32 rc2] 38) = w4 at *
              replace kP := hide (kP.out.chg hc (by simp))
              replace kW := hide (kW.out.chg hc (by simp))
              replace kK := hide (kK.out.trans hc (D := []) (by simp))
              replace kR := hide kR
              have hcell := kK.out.cell hcellW.out (by simp)
              have hrow := hide (hrowW.out.keep kK.out)
              generalize w3.heap.size = Rb at *
              clear hc
              go_wp2_with fail
              refine (hopen.out w4 (HW.out.chg kK.out (by simp)) hrow.out).mono ?_
              rintro e w5 ⟨⟨ov, rfl⟩, hc⟩
              replace kP := hide (kP.out.chg hc (by simp))
              replace kW := hide (kW.out.chg hc (by simp))
              replace kK := hide (kK.out.trans hc (D := []) (by simp))
              replace kR := hide (kR.out.chg hc (by simp))
              clear hc hopen hcell hrow
              obtain ⟨x0, x1, x2, x3, x4, x5, x6⟩ := c7 kP.out
              obtain ⟨y0, y1, y2, y3, y4, y5, y6⟩ := c7 kW.out
              have r0 := kR.out.cell' (i := 0) rfl
              have r1 := kR.out.cell' (i := 1) rfl
              have r2 := kR.out.cell' (i := 2) rfl
              have r3 := kR.out.cell' (i := 3) rfl
              have r4 := kR.out.cell' (i := 4) rfl
              have r5 := kR.out.cell' (i := 5) rfl
              have r6 := kR.out.cell' (i := 6) rfl
              have r7 := kR.out.cell' (i := 7) rfl
              have hq := eqQ10 y.q.a.v y.q.b.v y.q.c.v y.q.d.v y.q.a.v y.q.b.v y.q.c.v y.q.d.v w5
              simp only [BEq.rfl, Bool.and_self] at hq
              have hjj := hj.out
              have hnn := h40.out
              cases hsum : sumOk xs 18 with
              | true =>
                have hy : y.s = N + 1 ∧ y.f = B ∧ y.g = N - B + 1 ∧ flN xs % 2 = 0 := by
                  have hxx := hx.out
                  rw [e1.out]
                  unfold St.next flN
                  rw [hsum]
                  simp only [cond_true]
                  exact ⟨by omega, by omega, by omega, nextF_even _⟩
                simp only [cond_true]
                have t1 : (bits .and .i64 F 1 != 0) = false := by rw [hF1.out, hy.2.2.2]; rfl
                have t2 := ne_self y.s (wrap64 ((N : Int) + 1)) (hy.1.trans (w_inc N (by omega)).symm)
                have t3 := ne_self y.f (B : Int) hy.2.1
                have t4 := ne_self y.g (wrap64 (wrap64 ((N : Int) + 1) - (B : Int))) (hy.2.2.1.trans (w_sub N B (by omega) (by omega)).symm)
                replace hy := hide hy
                replace hjj := hide hjj
                replace hnn := hide hnn
                clear hsum
                go_wp2_with fail
                have hjj := hj.out
                have hnn := h40.out
                have h40j : j ≤ 40 := by omega
                have hy := hy.out
                refine ⟨⟨j + 1, N + 1, B, y, by omega, (by first | (simp only [w_inc j h40j]; done) | exact congrArg _ (Int.natCast_add j 1).symm), congrArg _ (w_inc N (by omega)), rfl, hide ⟨hyr.out, hy.1, hy.2.1, by rw [hy.2.2.1]; omega⟩, kK, kP⟩, ?_⟩
                simp only [intOf]
                omega
              | false =>
                have hy : y.q = x.q ∧ y.s = N + 1 ∧ y.f = B + 1 ∧ y.g = N - B ∧ flN xs = 1 := by
                  have hxx := hx.out
                  rw [e1.out]
                  unfold St.next flN
                  rw [hsum]
                  simp only [cond_false]
                  exact ⟨trivial, by omega, by omega, by omega, trivial⟩
                simp only [cond_false]
                have kW' := kW.out
                rw [← hy.1] at kW'
                clear y0 y1 y2 y3 y4 y5 y6
                obtain ⟨y0, y1, y2, y3, y4, y5, y6⟩ := c7 kW'
                have t1 := ne_self (bits .and .i64 F 7) 1 (hF7.out.trans hy.2.2.2.2)
                have t2 := ne_self y.s (wrap64 ((N : Int) + 1)) (hy.2.1.trans (w_inc N (by omega)).symm)
                have t3 := ne_self y.f (wrap64 ((B : Int) + 1)) (hy.2.2.1.trans (w_inc B (by omega)).symm)
                have t4 := ne_self y.g (wrap64 (wrap64 ((N : Int) + 1) - wrap64 ((B : Int) + 1))) (hy.2.2.2.1.trans (w_sub2 N B (by omega) (by omega)).symm)
                replace hy := hide hy
                replace hjj := hide hjj
                replace hnn := hide hnn
                clear hsum kW'
                go_wp2_with fail
                have hjj := hj.out
                have hnn := h40.out
                have h40j : j ≤ 40 := by omega
                have hy := hy.out
                refine ⟨⟨j + 1, N + 1, B + 1, y, by omega, (by first | (simp only [w_inc j h40j]; done) | exact congrArg _ (Int.natCast_add j 1).symm), congrArg _ (w_inc N (by omega)), congrArg _ (w_inc B (by omega)), hide ⟨hyr.out, hy.2.1, hy.2.2.1, by rw [hy.2.2.2.1]; omega⟩, kK, kP⟩, ?_⟩
                simp only [intOf]
                omega
            · have hln := hide hl
              have k20 : ((rl : Int) != 20) = true := by simp; omega
              have hne' := hne.out (by have := hlen.out; omega)
              injection hne' with e1 e2
              injection e2 with e2 e3
              subst e1 e2 e3
              have her : (errLen xs.length == 0) = false := by simpa using errLen_ne xs.length
              obtain ⟨SA, sc, rfl, _⟩ := kS.out
              obtain ⟨x0, x1, x2, x3, x4, x5, x6⟩ := c7 kP.out
              obtain ⟨y0, y1, y2, y3, y4, y5, y6⟩ := c7 kW.out
              have e1 := eqS y.q.a.v y.q.b.v y.q.c.v y.q.d.v y.q.a.v y.q.b.v y.q.c.v y.q.d.v y.s y.f y.g y.s y.f y.g w2
              simp only [BEq.rfl, Bool.and_self] at e1
              have hq9 := eqQ9
              clear hne h20
              go_wp2_with fail
              have hjj := hj.out
              have hnn := h40.out
              have h40j : j ≤ 40 := by omega
              refine ⟨⟨j + 1, N, B, y, by omega, (by first | (simp only [w_inc j h40j]; done) | exact congrArg _ (Int.natCast_add j 1).symm), rfl, rfl, hx, kK, kP⟩, ?_⟩
              simp only [intOf]
              omega
      · have k3 : decide ((j : Int) < (n : Int)) = false := by simpa using (by omega : (n : Int) ≤ (j : Int))
        have hxx := hx.out
        have hjj := hj.out
        have hnn := h40.out
        have u1 := eq_self x.s (N : Int) hxx.2.1
        have u2 := eq_self x.f (B : Int) hxx.2.2.1
        have u3 := eq_self x.g (wrap64 ((N : Int) - (B : Int))) (hxx.2.2.2.trans (w_dec N B (by omega) (by omega)).symm)
        clear hxx hjj hnn
        obtain ⟨x0, x1, x2, x3, x4, x5, x6⟩ := c7 HB.out
        go_wp2_with fail
        refine (awake37_calls wr (HW.out.chg HK.out (by simp))).mono ?_
        rintro e w2 ⟨rfl, hc⟩
        have hend := hide (HK.out.trans hc (D := []) (by simp))
        clear hc HK HB
        go_wp2_with fail
        go_ret
        exact ⟨rfl, hend.out⟩
end Go.Proofs.YtihgijhjhmjolaaGreatDoor.Xi
