/- The walks of package code: Decode; and of the reference's Encode. -/
import Derived.Test.YtjfnpokebaagmaaGreatDoorEncode
namespace Go.Proofs.YtjfnpokebaagmaaGreatDoor
open Go.RowKit Go.Deep
set_option linter.unusedVariables false

set_option maxHeartbeats 400000 in
theorem refencode_bad (op x y z u : Int) (w : World) (h : chk op x y z u ≠ 0) :
    Calls Tryz.prog 37 #[insV op x y z u] w fun e w' => e = .returned (.tuple #[.int .u32 0, .int .i64 (chk op x y z u)]) ∧ Chg w w' [] := by
  have hb : (chk op x y z u != 0) = true := by rw [bne_iff_ne]; exact h
  have hc := refcheck_any op x y z u (w.alloc (.cells #[.int .i64 op, .int .i64 x, .int .i64 y, .int .i64 z, .int .i64 u] 25))
  have HC := hide hc
  clear hc h
  generalize chk op x y z u = e0 at *
  go_enter Tryz.func37, Tryz.ntmps37
  go_wp2_with (go_at_call 47; refine HC.out.mono ?_; rintro e w1 ⟨rfl, hc⟩)
  go_ret2
  exact ⟨rfl, ((Chg.refl _ _).alloc _).trans hc (by simp)⟩

theorem ret_u32 {a b : Int} (h : a = b) : Ending.returned (.tuple #[.int .u32 a, .int .i64 0]) = .returned (.tuple #[.int .u32 b, .int .i64 0]) := by rw [h]

set_option maxHeartbeats 2000000 in
theorem refencode_good (op x y z u : Int) (w : World) (h0 : chk op x y z u = 0) :
    Calls Tryz.prog 37 #[insV op x y z u] w fun e w' => e = .returned (.tuple #[.int .u32 (encK op x y z u 4), .int .i64 0]) ∧ Chg w w' [] := by
  obtain ⟨⟨ho1, ho2⟩, ⟨hx1, hx2⟩, ⟨hy1, hy2⟩, ⟨hz1, hz2⟩, ⟨hu1, hu2⟩, hzu⟩ := fits_bounds ((chk_iff op x y z u).1 h0)
  have HZU := hide hzu
  clear hzu
  have hcc : Hid (∀ W : World, Calls Tryz.prog 47 #[insV op x y z u] W fun e w' => e = .returned (.int .i64 0) ∧ Chg W w' []) := by
    intro W
    have := refcheck_any op x y z u W
    rwa [h0] at this
  clear h0
  have hib : Blk (w.alloc (.cells (insC op x y z u).toArray 25)) w.heap.size 25 (insC op x y z u) := Blk.new _ _ _
  have hc0 : Chg w (w.alloc (.cells (insC op x y z u).toArray 25)) [] := (Chg.refl _ _).alloc _
  by_cases hneg : u < 0
  all_goals
    go_enter Tryz.func37, Tryz.ntmps37
    go_wp2_with fail
    generalize w.heap.size = ib at *
    generalize w.alloc (.cells #[.int .i64 op, .int .i64 x, .int .i64 y, .int .i64 z, .int .i64 u] 25) = w0 at *
    refine (hcc.out _).mono ?_
    rintro e w1 ⟨rfl, hc1⟩
    replace hib := hib.chg hc1 (by simp)
    replace hc0 := hc0.trans hc1 (by simp)
    have c0 := hib.cell' (i := 0) rfl
    have c1 := hib.cell' (i := 1) rfl
    have c2 := hib.cell' (i := 2) rfl
    have c3 := hib.cell' (i := 3) rfl
    have c4 := hib.cell' (i := 4) rfl
    go_wp2
    go_ret2
    refine ⟨ret_u32 ?_, hc0⟩
    have hz := HZU.out
    show _ = op * 67108864 + x * 2097152 + y * 65536 + z * 2048 + u % 65536
    omega

/-- The fields behind the first k. -/
def decC (n op : Int) (a b c d : UInt8) : Nat → List Value
  | 0 => insC op 0 0 0 0
  | 1 => insC op (dx n a) 0 0 0
  | 2 => insC op (dx n a) (dy n b) 0 0
  | 3 => insC op (dx n a) (dy n b) (dz n c) 0
  | _ => insC op (dx n a) (dy n b) (dz n c) (du n d)
theorem decC_set0 (n op : Int) (a b c d : UInt8) (V : Int) (h : V = dx n a) : (decC n op a b c d 0).set 1 (.int .i64 V) = decC n op a b c d 1 := by rw [h]; rfl
theorem decC_set1 (n op : Int) (a b c d : UInt8) (V : Int) (h : V = dy n b) : (decC n op a b c d 1).set 2 (.int .i64 V) = decC n op a b c d 2 := by rw [h]; rfl
theorem decC_set2 (n op : Int) (a b c d : UInt8) (V : Int) (h : V = dz n c) : (decC n op a b c d 2).set 3 (.int .i64 V) = decC n op a b c d 3 := by rw [h]; rfl
theorem decC_set3 (n op : Int) (a b c d : UInt8) (V : Int) (h : V = du n d) : (decC n op a b c d 3).set 4 (.int .i64 V) = decC n op a b c d 4 := by rw [h]; rfl
def DecRel (w : World) (n op : Int) (a b c d : UInt8) (rb ib q : Nat) (v : Value) (wr : World) : Prop :=
  ∃ k : Nat, k ≤ 4 ∧ v = .int .i64 (k : Int) ∧ Blk wr ib 25 (decC n op a b c d k) ∧ Blk wr q 112 fcells ∧ Blk wr rb 25 (insC 0 0 0 0 0) ∧ Chg w wr []

set_option maxHeartbeats 400000 in
theorem decode_none (n : Int) (w : World) (hn0 : 0 ≤ n) (hn1 : n ≤ 4294967295) (h : shp (n / 67108864) = []) :
    Calls Tryz.prog 42 #[.int .u32 n] w fun e w' => e = .returned (.tuple #[insV 0 0 0 0 0, .int .i64 2]) ∧ Chg w w' [] := by
  have H := hide h
  clear h
  go_enter Tryz.func42, Tryz.ntmps42
  go_wp2_with (go_at_call 56; refine (shape_any _ _).mono ?_; rintro e w2 ⟨rfl, rfl⟩; rw [H.out])
  exact bodyPost_ret (v := .tuple #[insV 0 0 0 0 0, .int .i64 2]) (by simp [results, Tryz.results42, go_sem]) rfl ⟨rfl, ((Chg.refl _ _).alloc _).alloc _⟩

/-- What Decode answers of a word whose operation there is. -/
def decOut (n : Int) (a b c d : UInt8) : Value :=
  if encK (n / 67108864) (dx n a) (dy n b) (dz n c) (du n d) 4 = n then .tuple #[insV (n / 67108864) (dx n a) (dy n b) (dz n c) (du n d), .int .i64 0] else .tuple #[insV 0 0 0 0 0, .int .i64 3]

set_option maxRecDepth 100000 in
set_option maxHeartbeats 4000000 in
theorem decode_some (n : Int) (a b c d : UInt8) (w : World) (hn0 : 0 ≤ n) (hn1 : n ≤ 4294967295) (h : shp (n / 67108864) = [a, b, c, d]) :
    Calls Tryz.prog 42 #[.int .u32 n] w fun e w' => e = .returned (decOut n a b c d) ∧ Chg w w' [] := by
  go_enter Tryz.func42, Tryz.ntmps42
  go_wp2_with fail
  refine (shape_any _ _).mono ?_
  rintro e w2 ⟨rfl, rfl⟩
  rw [h]
  have HCH := hide (dec_chk hn0 h)
  clear h
  go_wp2_with fail
  refine (fields_any a b c d _).mono ?_
  rintro e w2 ⟨rfl, rfl⟩
  have hstart : DecRel w n (n / 67108864) a b c d w.heap.size (w.heap.size + 1) (w.heap.size + 2) (.int .i64 (0 : Nat)) (((w.alloc (.cells (insC 0 0 0 0 0).toArray 25)).alloc (.cells (insC (n / 67108864) 0 0 0 0).toArray 25)).alloc (.cells fcells.toArray 112)) := by
    have b0 := Blk.new w 25 (insC 0 0 0 0 0)
    have b1 := Blk.new (w.alloc (.cells (insC 0 0 0 0 0).toArray 25)) 25 (insC (n / 67108864) 0 0 0 0)
    have b2 := Blk.new ((w.alloc (.cells (insC 0 0 0 0 0).toArray 25)).alloc (.cells (insC (n / 67108864) 0 0 0 0).toArray 25)) 112 fcells
    rw [size_alloc] at b1 b2
    rw [size_alloc] at b2
    exact ⟨0, by omega, rfl, b1.alloc _, b2, (b0.alloc _).alloc _, (((Chg.refl _ _).alloc _).alloc _).alloc _⟩
  go_wp2_with fail
  have hsz : w.heap.size + 1 + 1 = w.heap.size + 2 := rfl
  generalize hwl : ((w.alloc (.cells (insC 0 0 0 0 0).toArray 25)).alloc (.cells (insC (n / 67108864) 0 0 0 0).toArray 25)).alloc (.cells fcells.toArray 112) = wl at *
  clear hwl
  go_loopw [24] (fun v wr => DecRel w n (n / 67108864) a b c d w.heap.size (w.heap.size + 1) (w.heap.size + 2) v wr) (fun i _ => 4 - (intOf i).toNat)
  case atStart => exact hstart
  case round =>
    clear hstart
    obtain ⟨k, hk, rfl, hbi, hbq, hbr, hc⟩ := hrel
    have kk : k = 0 ∨ k = 1 ∨ k = 2 ∨ k = 3 ∨ k = 4 := by omega
    have hbil := hbi.lt
    have hbql := hbq.lt
    have hbrl := hbr.lt
    have HBI := hide hbi
    have HBQ := hide hbq
    have HBR := hide hbr
    have HC := hide hc
    clear hc
    have key : ∀ l m : UInt8, l ≠ m → ((l.toNat : Int) == (m.toNat : Int)) = false := fun l m h => by
      rw [beq_eq_false_iff_ne]; intro h2; exact h (by rw [← UInt8.toNat_inj]; omega)
    have HK := hide key
    clear key
    rcases kk with rfl | rfl | rfl | rfl | rfl
    · have q0 := hbq.cell' (i := 0) rfl
      have q1 := hbq.cell' (i := 1) rfl
      have q2 := hbq.cell' (i := 2) rfl
      have c4 := hbi.cell' (i := 1) rfl
      have f4 := hbi.frozen 1
      clear hbi hbq hbr
      by_cases h1 : a = 45
      · subst h1
        go_wp2_with (first | (go_at_call 71; refine (fld1 _ _).mono ?_; rintro e w2 ⟨rfl, rfl⟩))
        · refine ⟨⟨1, by omega, rfl, ?_, (HBQ.out.far (p := ⟨w.heap.size + 1, 1, none⟩) (by show w.heap.size + 2 ≠ w.heap.size + 1; omega) _).alloc _, (HBR.out.far (p := ⟨w.heap.size + 1, 1, none⟩) (by show w.heap.size ≠ w.heap.size + 1; omega) _).alloc _, (HC.out.setCell ⟨w.heap.size + 1, 1, none⟩ _ (.inr (by show w.heap.size ≤ w.heap.size + 1; omega))).alloc _⟩, by simp [intOf]⟩
          have hset := (HBI.out.set_ 1 (.int .i64 (0))).alloc (.cells #[.func (.func 71) #[] #[], .int .u64 21, .int .u64 5] 112)
          rw [decC_set0 _ _ _ _ _ _ _ (by rfl)] at hset
          exact hset

      · have k1 : ((((⟨#[a, b, c, d]⟩ : ByteArray)[0]'(by show 0 < 4; omega)).toNat : Int) == 45) = false := HK.out a 45 h1
        have H1 := hide h1
        clear h1
        by_cases h2 : a = 115
        · subst h2
          go_wp2_with (first | (go_at_call 71; refine (fld1 _ _).mono ?_; rintro e w2 ⟨rfl, rfl⟩))
          refine ⟨⟨1, by omega, rfl, ?_, (HBQ.out.far (p := ⟨w.heap.size + 1, 1, none⟩) (by show w.heap.size + 2 ≠ w.heap.size + 1; omega) _).alloc _, (HBR.out.far (p := ⟨w.heap.size + 1, 1, none⟩) (by show w.heap.size ≠ w.heap.size + 1; omega) _).alloc _, (HC.out.setCell ⟨w.heap.size + 1, 1, none⟩ _ (.inr (by show w.heap.size ≤ w.heap.size + 1; omega))).alloc _⟩, by simp [intOf]⟩
          have hset := (HBI.out.set_ 1 (.int .i64 (wrap64 (IntKind.i16.wrap (wrap64 (bits .and .u32 (n / 2097152) 31)))))).alloc (.cells #[.func (.func 71) #[] #[], .int .u64 21, .int .u64 5] 112)
          rw [decC_set0 _ _ _ _ _ _ _ (by rw [raw31 _ (by omega) (by omega), sx64]; unfold dx fx; rw [if_neg (by decide), if_pos rfl])] at hset
          exact hset

        · have k2 : ((((⟨#[a, b, c, d]⟩ : ByteArray)[0]'(by show 0 < 4; omega)).toNat : Int) == 115) = false := HK.out a 115 h2
          have H2 := hide h2
          clear h2
          go_wp2_with (first | (go_at_call 71; refine (fld1 _ _).mono ?_; rintro e w2 ⟨rfl, rfl⟩))
          refine ⟨⟨1, by omega, rfl, ?_, (HBQ.out.far (p := ⟨w.heap.size + 1, 1, none⟩) (by show w.heap.size + 2 ≠ w.heap.size + 1; omega) _).alloc _, (HBR.out.far (p := ⟨w.heap.size + 1, 1, none⟩) (by show w.heap.size ≠ w.heap.size + 1; omega) _).alloc _, (HC.out.setCell ⟨w.heap.size + 1, 1, none⟩ _ (.inr (by show w.heap.size ≤ w.heap.size + 1; omega))).alloc _⟩, by simp [intOf]⟩
          have hset := (HBI.out.set_ 1 (.int .i64 (wrap64 (bits .and .u32 (n / 2097152) 31)))).alloc (.cells #[.func (.func 71) #[] #[], .int .u64 21, .int .u64 5] 112)
          rw [decC_set0 _ _ _ _ _ _ _ (by rw [raw31 _ (by omega) (by omega)]; unfold dx fx; rw [if_neg H1.out, if_neg H2.out])] at hset
          exact hset

    · have q0 := hbq.cell' (i := 3) rfl
      have q1 := hbq.cell' (i := 4) rfl
      have q2 := hbq.cell' (i := 5) rfl
      have c4 := hbi.cell' (i := 2) rfl
      have f4 := hbi.frozen 2
      clear hbi hbq hbr
      by_cases h1 : b = 45
      · subst h1
        go_wp2_with (first | (go_at_call 72; refine (fld2 _ _).mono ?_; rintro e w2 ⟨rfl, rfl⟩))
        · refine ⟨⟨2, by omega, rfl, ?_, (HBQ.out.far (p := ⟨w.heap.size + 1, 2, none⟩) (by show w.heap.size + 2 ≠ w.heap.size + 1; omega) _).alloc _, (HBR.out.far (p := ⟨w.heap.size + 1, 2, none⟩) (by show w.heap.size ≠ w.heap.size + 1; omega) _).alloc _, (HC.out.setCell ⟨w.heap.size + 1, 2, none⟩ _ (.inr (by show w.heap.size ≤ w.heap.size + 1; omega))).alloc _⟩, by simp [intOf]⟩
          have hset := (HBI.out.set_ 2 (.int .i64 (0))).alloc (.cells #[.func (.func 72) #[] #[], .int .u64 16, .int .u64 5] 112)
          rw [decC_set1 _ _ _ _ _ _ _ (by rfl)] at hset
          exact hset

      · have k1 : ((((⟨#[a, b, c, d]⟩ : ByteArray)[1]'(by show 1 < 4; omega)).toNat : Int) == 45) = false := HK.out b 45 h1
        have H1 := hide h1
        clear h1
        by_cases h2 : b = 115
        · subst h2
          go_wp2_with (first | (go_at_call 72; refine (fld2 _ _).mono ?_; rintro e w2 ⟨rfl, rfl⟩))
          refine ⟨⟨2, by omega, rfl, ?_, (HBQ.out.far (p := ⟨w.heap.size + 1, 2, none⟩) (by show w.heap.size + 2 ≠ w.heap.size + 1; omega) _).alloc _, (HBR.out.far (p := ⟨w.heap.size + 1, 2, none⟩) (by show w.heap.size ≠ w.heap.size + 1; omega) _).alloc _, (HC.out.setCell ⟨w.heap.size + 1, 2, none⟩ _ (.inr (by show w.heap.size ≤ w.heap.size + 1; omega))).alloc _⟩, by simp [intOf]⟩
          have hset := (HBI.out.set_ 2 (.int .i64 (wrap64 (IntKind.i16.wrap (wrap64 (bits .and .u32 (n / 65536) 31)))))).alloc (.cells #[.func (.func 72) #[] #[], .int .u64 16, .int .u64 5] 112)
          rw [decC_set1 _ _ _ _ _ _ _ (by rw [raw31 _ (by omega) (by omega), sx64]; unfold dy fx; rw [if_neg (by decide), if_pos rfl])] at hset
          exact hset

        · have k2 : ((((⟨#[a, b, c, d]⟩ : ByteArray)[1]'(by show 1 < 4; omega)).toNat : Int) == 115) = false := HK.out b 115 h2
          have H2 := hide h2
          clear h2
          go_wp2_with (first | (go_at_call 72; refine (fld2 _ _).mono ?_; rintro e w2 ⟨rfl, rfl⟩))
          refine ⟨⟨2, by omega, rfl, ?_, (HBQ.out.far (p := ⟨w.heap.size + 1, 2, none⟩) (by show w.heap.size + 2 ≠ w.heap.size + 1; omega) _).alloc _, (HBR.out.far (p := ⟨w.heap.size + 1, 2, none⟩) (by show w.heap.size ≠ w.heap.size + 1; omega) _).alloc _, (HC.out.setCell ⟨w.heap.size + 1, 2, none⟩ _ (.inr (by show w.heap.size ≤ w.heap.size + 1; omega))).alloc _⟩, by simp [intOf]⟩
          have hset := (HBI.out.set_ 2 (.int .i64 (wrap64 (bits .and .u32 (n / 65536) 31)))).alloc (.cells #[.func (.func 72) #[] #[], .int .u64 16, .int .u64 5] 112)
          rw [decC_set1 _ _ _ _ _ _ _ (by rw [raw31 _ (by omega) (by omega)]; unfold dy fx; rw [if_neg H1.out, if_neg H2.out])] at hset
          exact hset

    · have q0 := hbq.cell' (i := 6) rfl
      have q1 := hbq.cell' (i := 7) rfl
      have q2 := hbq.cell' (i := 8) rfl
      have c4 := hbi.cell' (i := 3) rfl
      have f4 := hbi.frozen 3
      clear hbi hbq hbr
      by_cases h1 : c = 45
      · subst h1
        go_wp2_with (first | (go_at_call 73; refine (fld3 _ _).mono ?_; rintro e w2 ⟨rfl, rfl⟩))
        · refine ⟨⟨3, by omega, rfl, ?_, (HBQ.out.far (p := ⟨w.heap.size + 1, 3, none⟩) (by show w.heap.size + 2 ≠ w.heap.size + 1; omega) _).alloc _, (HBR.out.far (p := ⟨w.heap.size + 1, 3, none⟩) (by show w.heap.size ≠ w.heap.size + 1; omega) _).alloc _, (HC.out.setCell ⟨w.heap.size + 1, 3, none⟩ _ (.inr (by show w.heap.size ≤ w.heap.size + 1; omega))).alloc _⟩, by simp [intOf]⟩
          have hset := (HBI.out.set_ 3 (.int .i64 (0))).alloc (.cells #[.func (.func 73) #[] #[], .int .u64 11, .int .u64 5] 112)
          rw [decC_set2 _ _ _ _ _ _ _ (by rfl)] at hset
          exact hset

      · have k1 : ((((⟨#[a, b, c, d]⟩ : ByteArray)[2]'(by show 2 < 4; omega)).toNat : Int) == 45) = false := HK.out c 45 h1
        have H1 := hide h1
        clear h1
        by_cases h2 : c = 115
        · subst h2
          go_wp2_with (first | (go_at_call 73; refine (fld3 _ _).mono ?_; rintro e w2 ⟨rfl, rfl⟩))
          refine ⟨⟨3, by omega, rfl, ?_, (HBQ.out.far (p := ⟨w.heap.size + 1, 3, none⟩) (by show w.heap.size + 2 ≠ w.heap.size + 1; omega) _).alloc _, (HBR.out.far (p := ⟨w.heap.size + 1, 3, none⟩) (by show w.heap.size ≠ w.heap.size + 1; omega) _).alloc _, (HC.out.setCell ⟨w.heap.size + 1, 3, none⟩ _ (.inr (by show w.heap.size ≤ w.heap.size + 1; omega))).alloc _⟩, by simp [intOf]⟩
          have hset := (HBI.out.set_ 3 (.int .i64 (wrap64 (IntKind.i16.wrap (wrap64 (bits .and .u32 (n / 2048) 31)))))).alloc (.cells #[.func (.func 73) #[] #[], .int .u64 11, .int .u64 5] 112)
          rw [decC_set2 _ _ _ _ _ _ _ (by rw [raw31 _ (by omega) (by omega), sx64]; unfold dz fx; rw [if_neg (by decide), if_pos rfl])] at hset
          exact hset

        · have k2 : ((((⟨#[a, b, c, d]⟩ : ByteArray)[2]'(by show 2 < 4; omega)).toNat : Int) == 115) = false := HK.out c 115 h2
          have H2 := hide h2
          clear h2
          go_wp2_with (first | (go_at_call 73; refine (fld3 _ _).mono ?_; rintro e w2 ⟨rfl, rfl⟩))
          refine ⟨⟨3, by omega, rfl, ?_, (HBQ.out.far (p := ⟨w.heap.size + 1, 3, none⟩) (by show w.heap.size + 2 ≠ w.heap.size + 1; omega) _).alloc _, (HBR.out.far (p := ⟨w.heap.size + 1, 3, none⟩) (by show w.heap.size ≠ w.heap.size + 1; omega) _).alloc _, (HC.out.setCell ⟨w.heap.size + 1, 3, none⟩ _ (.inr (by show w.heap.size ≤ w.heap.size + 1; omega))).alloc _⟩, by simp [intOf]⟩
          have hset := (HBI.out.set_ 3 (.int .i64 (wrap64 (bits .and .u32 (n / 2048) 31)))).alloc (.cells #[.func (.func 73) #[] #[], .int .u64 11, .int .u64 5] 112)
          rw [decC_set2 _ _ _ _ _ _ _ (by rw [raw31 _ (by omega) (by omega)]; unfold dz fx; rw [if_neg H1.out, if_neg H2.out])] at hset
          exact hset

    · have q0 := hbq.cell' (i := 9) rfl
      have q1 := hbq.cell' (i := 10) rfl
      have q2 := hbq.cell' (i := 11) rfl
      have c4 := hbi.cell' (i := 4) rfl
      have f4 := hbi.frozen 4
      clear hbi hbq hbr
      by_cases h1 : d = 45
      · subst h1
        go_wp2_with (first | (go_at_call 74; refine (fld4 _ _).mono ?_; rintro e w2 ⟨rfl, rfl⟩))
        · refine ⟨⟨4, by omega, rfl, ?_, (HBQ.out.far (p := ⟨w.heap.size + 1, 4, none⟩) (by show w.heap.size + 2 ≠ w.heap.size + 1; omega) _).alloc _, (HBR.out.far (p := ⟨w.heap.size + 1, 4, none⟩) (by show w.heap.size ≠ w.heap.size + 1; omega) _).alloc _, (HC.out.setCell ⟨w.heap.size + 1, 4, none⟩ _ (.inr (by show w.heap.size ≤ w.heap.size + 1; omega))).alloc _⟩, by simp [intOf]⟩
          have hset := (HBI.out.set_ 4 (.int .i64 (0))).alloc (.cells #[.func (.func 74) #[] #[], .int .u64 0, .int .u64 16] 112)
          rw [decC_set3 _ _ _ _ _ _ _ (by rfl)] at hset
          exact hset

      · have k1 : ((((⟨#[a, b, c, d]⟩ : ByteArray)[3]'(by show 3 < 4; omega)).toNat : Int) == 45) = false := HK.out d 45 h1
        have H1 := hide h1
        clear h1
        by_cases h2 : d = 115
        · subst h2
          go_wp2_with (first | (go_at_call 74; refine (fld4 _ _).mono ?_; rintro e w2 ⟨rfl, rfl⟩))
          refine ⟨⟨4, by omega, rfl, ?_, (HBQ.out.far (p := ⟨w.heap.size + 1, 4, none⟩) (by show w.heap.size + 2 ≠ w.heap.size + 1; omega) _).alloc _, (HBR.out.far (p := ⟨w.heap.size + 1, 4, none⟩) (by show w.heap.size ≠ w.heap.size + 1; omega) _).alloc _, (HC.out.setCell ⟨w.heap.size + 1, 4, none⟩ _ (.inr (by show w.heap.size ≤ w.heap.size + 1; omega))).alloc _⟩, by simp [intOf]⟩
          have hset := (HBI.out.set_ 4 (.int .i64 (wrap64 (IntKind.i16.wrap (wrap64 (bits .and .u32 (n) 65535)))))).alloc (.cells #[.func (.func 74) #[] #[], .int .u64 0, .int .u64 16] 112)
          rw [decC_set3 _ _ _ _ _ _ _ (by rw [raw65535 _ (by omega) (by omega), sx64]; unfold du fx; rw [if_neg (by decide), if_pos rfl])] at hset
          exact hset

        · have k2 : ((((⟨#[a, b, c, d]⟩ : ByteArray)[3]'(by show 3 < 4; omega)).toNat : Int) == 115) = false := HK.out d 115 h2
          have H2 := hide h2
          clear h2
          go_wp2_with (first | (go_at_call 74; refine (fld4 _ _).mono ?_; rintro e w2 ⟨rfl, rfl⟩))
          refine ⟨⟨4, by omega, rfl, ?_, (HBQ.out.far (p := ⟨w.heap.size + 1, 4, none⟩) (by show w.heap.size + 2 ≠ w.heap.size + 1; omega) _).alloc _, (HBR.out.far (p := ⟨w.heap.size + 1, 4, none⟩) (by show w.heap.size ≠ w.heap.size + 1; omega) _).alloc _, (HC.out.setCell ⟨w.heap.size + 1, 4, none⟩ _ (.inr (by show w.heap.size ≤ w.heap.size + 1; omega))).alloc _⟩, by simp [intOf]⟩
          have hset := (HBI.out.set_ 4 (.int .i64 (wrap64 (bits .and .u32 (n) 65535)))).alloc (.cells #[.func (.func 74) #[] #[], .int .u64 0, .int .u64 16] 112)
          rw [decC_set3 _ _ _ _ _ _ _ (by rw [raw65535 _ (by omega) (by omega)]; unfold du fx; rw [if_neg H1.out, if_neg H2.out])] at hset
          exact hset

    · have c0 := hbi.cell' (i := 0) rfl
      have c1 := hbi.cell' (i := 1) rfl
      have c2 := hbi.cell' (i := 2) rfl
      have c3 := hbi.cell' (i := 3) rfl
      have c4 := hbi.cell' (i := 4) rfl
      have r0 := hbr.cell' (i := 0) rfl
      have r1 := hbr.cell' (i := 1) rfl
      have r2 := hbr.cell' (i := 2) rfl
      have r3 := hbr.cell' (i := 3) rfl
      have r4 := hbr.cell' (i := 4) rfl
      clear hbi hbq hbr HK
      have hge := HC.out.size
      clear r0 r1 r2 r3 r4
      by_cases heq : encK (n / 67108864) (dx n a) (dy n b) (dz n c) (du n d) 4 = n
      · have HO := hide (show decOut n a b c d = _ from if_pos heq)
        have HE := hide heq
        clear heq
        generalize dx n a = X at *
        generalize dy n b = Y at *
        generalize dz n c = Z at *
        generalize du n d = U at *
        have hnn : (n != n) = false := by simp
        go_wp2_with fail
        refine (encode_good _ X Y Z U _ HCH.out).mono ?_
        rintro e w5 ⟨rfl, hc5⟩
        rw [HE.out]
        replace c0 := hc5.cell c0 (by simp)
        replace c1 := hc5.cell c1 (by simp)
        replace c2 := hc5.cell c2 (by simp)
        replace c3 := hc5.cell c3 (by simp)
        replace c4 := hc5.cell c4 (by simp)
        have HB5 := hide (HBR.out.chg hc5 (by simp))
        have r0 := HB5.out.cell' (i := 0) rfl
        have r1 := HB5.out.cell' (i := 1) rfl
        have r2 := HB5.out.cell' (i := 2) rfl
        have r3 := HB5.out.cell' (i := 3) rfl
        have r4 := HB5.out.cell' (i := 4) rfl
        have f0 := HB5.out.frozen 0
        have f1 := HB5.out.frozen 1
        have f2 := HB5.out.frozen 2
        have f3 := HB5.out.frozen 3
        have f4 := HB5.out.frozen 4
        have hl5 := HB5.out.lt
        replace HC := hide (HC.out.trans hc5 (by simp))
        go_wp2
        refine bodyPost_ret (v := .tuple #[insV (n / 67108864) X Y Z U, .int .i64 0]) (by simp [results, Tryz.results42, go_sem, r0, r1, r2, r3, r4]) rfl ⟨by rw [HO.out], ?_⟩
        exact ((((HC.out.setCell _ _ (.inr (Nat.le_refl _))).setCell _ _ (.inr (Nat.le_refl _))).setCell _ _ (.inr (Nat.le_refl _))).setCell _ _ (.inr (Nat.le_refl _))).setCell _ _ (.inr (Nat.le_refl _))
      · have HO := hide (show decOut n a b c d = _ from if_neg heq)
        have HE := hide heq
        clear heq
        generalize dx n a = X at *
        generalize dy n b = Y at *
        generalize dz n c = Z at *
        generalize du n d = U at *
        have hnn : (encK (n / 67108864) X Y Z U 4 != n) = true := by rw [bne_iff_ne]; exact HE.out
        go_wp2_with fail
        refine (encode_good _ X Y Z U _ HCH.out).mono ?_
        rintro e w5 ⟨rfl, hc5⟩
        generalize encK (n / 67108864) X Y Z U 4 = E at *
        replace c0 := hc5.cell c0 (by simp)
        replace c1 := hc5.cell c1 (by simp)
        replace c2 := hc5.cell c2 (by simp)
        replace c3 := hc5.cell c3 (by simp)
        replace c4 := hc5.cell c4 (by simp)
        have HB5 := hide (HBR.out.chg hc5 (by simp))
        have r0 := HB5.out.cell' (i := 0) rfl
        have r1 := HB5.out.cell' (i := 1) rfl
        have r2 := HB5.out.cell' (i := 2) rfl
        have r3 := HB5.out.cell' (i := 3) rfl
        have r4 := HB5.out.cell' (i := 4) rfl
        have f0 := HB5.out.frozen 0
        have f1 := HB5.out.frozen 1
        have f2 := HB5.out.frozen 2
        have f3 := HB5.out.frozen 3
        have f4 := HB5.out.frozen 4
        have hl5 := HB5.out.lt
        replace HC := hide (HC.out.trans hc5 (by simp))
        go_wp2
        refine bodyPost_ret (v := .tuple #[insV 0 0 0 0 0, .int .i64 3]) (by simp [results, Tryz.results42, go_sem, r0, r1, r2, r3, r4]) rfl ⟨by rw [HO.out], ?_⟩
        exact ((((HC.out.setCell _ _ (.inr (Nat.le_refl _))).setCell _ _ (.inr (Nat.le_refl _))).setCell _ _ (.inr (Nat.le_refl _))).setCell _ _ (.inr (Nat.le_refl _))).setCell _ _ (.inr (Nat.le_refl _))

end Go.Proofs.YtjfnpokebaagmaaGreatDoor
