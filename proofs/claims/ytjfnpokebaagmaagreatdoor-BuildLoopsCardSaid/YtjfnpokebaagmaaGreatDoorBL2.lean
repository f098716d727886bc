/- Texts of this claim, side by side: Decode, DecK, Ram. -/
import Derived.Test.YtjfnpokebaagmaaGreatDoorBL1
/- The walks of package code: Decode; and of the reference's Encode. -/
namespace Go.Proofs.YtjfnpokebaagmaaGreatDoor
open Go.RowKit Go.Deep
set_option linter.unusedVariables false
def decC (n op : Int) (a b c d : UInt8) : Nat → List Value
 | 0 => insC op 0 0 0 0
 | 1 => insC op (dx n a) 0 0 0
 | 2 => insC op (dx n a) (dy n b) 0 0
 | 3 => insC op (dx n a) (dy n b) (dz n c) 0
 | _ => insC op (dx n a) (dy n b) (dz n c) (du n d)
theorem decC_set0 (n op : Int) (a b c d : UInt8) (V : Int) (h : V = dx n a) : (decC n op a b c d 0).set 1 (.int .i64 V) = decC n op a b c d 1 := by rw [h]; rfl
theorem decC_set1 (n op : Int) (a b c d : UInt8) (V : Int) (h : V = dy n b) : (decC n op a b c d 1).set 2 (.int .i64 V) = decC n op a b c d 2 := by rw [h]; rfl
theorem decC_set2 (n op : Int) (a b c d : UInt8) (V : Int) (h : V = dz n c) : (decC n op a b c d 2).set 3 (.int .i64 V) = decC n op a b c d 3 := by rw [h]; rfl
theorem decC_set3 (n op : Int) (a b c d : UInt8) (V : Int) (h : V = du n d) : (decC n op a b c d 3).set 4 (.int .i64 V) = decC n op a b c d 4 := by rw [h]; rfl
def DecRel (w : World) (n op : Int) (a b c d : UInt8) (rb ib q : Nat) (v : Value) (wr : World) : Prop :=
 ∃ k : Nat, k ≤ 4 ∧ v = .int .i64 (k : Int) ∧ Blk wr ib 25 (decC n op a b c d k) ∧ Blk wr q 112 fcells ∧ Blk wr rb 25 (insC 0 0 0 0 0) ∧ Chg w wr []
set_option maxHeartbeats 400000 in
theorem decode_none (n : Int) (w : World) (hn0 : 0 ≤ n) (hn1 : n ≤ 4294967295) (h : shp (n / 67108864) = []) :
 Calls Tryz.prog 42 #[.int .u32 n] w fun e w' => e = .returned (.tuple #[insV 0 0 0 0 0, .int .i64 2]) ∧ Chg w w' [] := by
 have H := hide h
 clear h
 go_enter Tryz.func42, Tryz.ntmps42
 go_wp2_with (go_at_call 56; refine (shape_any _ _).mono ?_; rintro e w2 ⟨rfl, rfl⟩; rw [H.out])
 exact bodyPost_ret (v := .tuple #[insV 0 0 0 0 0, .int .i64 2]) (by simp [results, Tryz.results42, go_sem]) rfl ⟨rfl, ((Chg.refl _ _).alloc _).alloc _⟩
def decOut (n : Int) (a b c d : UInt8) : Value :=
 if encK (n / 67108864) (dx n a) (dy n b) (dz n c) (du n d) 4 = n then .tuple #[insV (n / 67108864) (dx n a) (dy n b) (dz n c) (du n d), .int .i64 0] else .tuple #[insV 0 0 0 0 0, .int .i64 3]
set_option maxRecDepth 100000 in
set_option maxHeartbeats 4000000 in
theorem decode_some (n : Int) (a b c d : UInt8) (w : World) (hn0 : 0 ≤ n) (hn1 : n ≤ 4294967295) (h : shp (n / 67108864) = [a, b, c, d]) :
 Calls Tryz.prog 42 #[.int .u32 n] w fun e w' => e = .returned (decOut n a b c d) ∧ Chg w w' [] := by
 go_enter Tryz.func42, Tryz.ntmps42
 go_wp2_with fail
 refine (shape_any _ _).mono ?_
 rintro e w2 ⟨rfl, rfl⟩
 rw [h]
 have HCH := hide (dec_chk hn0 h)
 clear h
 go_wp2_with fail
 refine (fields_any a b c d _).mono ?_
 rintro e w2 ⟨rfl, rfl⟩
 have hstart : DecRel w n (n / 67108864) a b c d w.heap.size (w.heap.size + 1) (w.heap.size + 2) (.int .i64 (0 : Nat)) (((w.alloc (.cells (insC 0 0 0 0 0).toArray 25)).alloc (.cells (insC (n / 67108864) 0 0 0 0).toArray 25)).alloc (.cells fcells.toArray 112)) := by
  have b0 := Blk.new w 25 (insC 0 0 0 0 0)
  have b1 := Blk.new (w.alloc (.cells (insC 0 0 0 0 0).toArray 25)) 25 (insC (n / 67108864) 0 0 0 0)
  have b2 := Blk.new ((w.alloc (.cells (insC 0 0 0 0 0).toArray 25)).alloc (.cells (insC (n / 67108864) 0 0 0 0).toArray 25)) 112 fcells
  rw [size_alloc] at b1 b2
  rw [size_alloc] at b2
  exact ⟨0, by omega, rfl, b1.alloc _, b2, (b0.alloc _).alloc _, (((Chg.refl _ _).alloc _).alloc _).alloc _⟩
 go_wp2_with fail
 have hsz : w.heap.size + 1 + 1 = w.heap.size + 2 := rfl
 generalize hwl : ((w.alloc (.cells (insC 0 0 0 0 0).toArray 25)).alloc (.cells (insC (n / 67108864) 0 0 0 0).toArray 25)).alloc (.cells fcells.toArray 112) = wl at *
 clear hwl
 go_loopw [24] (fun v wr => DecRel w n (n / 67108864) a b c d w.heap.size (w.heap.size + 1) (w.heap.size + 2) v wr) (fun i _ => 4 - (intOf i).toNat)
 case atStart => exact hstart
 case round =>
  clear hstart
  obtain ⟨k, hk, rfl, hbi, hbq, hbr, hc⟩ := hrel
  have kk : k = 0 ∨ k = 1 ∨ k = 2 ∨ k = 3 ∨ k = 4 := by omega
  have hbil := hbi.lt
  have hbql := hbq.lt
  have hbrl := hbr.lt
  have HBI := hide hbi
  have HBQ := hide hbq
  have HBR := hide hbr
  have HC := hide hc
  clear hc
  have key : ∀ l m : UInt8, l ≠ m → ((l.toNat : Int) == (m.toNat : Int)) = false := fun l m h => by
   rw [beq_eq_false_iff_ne]; intro h2; exact h (by rw [← UInt8.toNat_inj]; omega)
  have HK := hide key
  clear key
  rcases kk with rfl | rfl | rfl | rfl | rfl
  · have q0 := hbq.cell' (i := 0) rfl
    have q1 := hbq.cell' (i := 1) rfl
    have q2 := hbq.cell' (i := 2) rfl
    have c4 := hbi.cell' (i := 1) rfl
    have f4 := hbi.frozen 1
    clear hbi hbq hbr
    by_cases h1 : a = 45
    · subst h1
      go_wp2_with (first | (go_at_call 71; refine (fld1 _ _).mono ?_; rintro e w2 ⟨rfl, rfl⟩))
      · refine ⟨⟨1, by omega, rfl, ?_, (HBQ.out.far (p := ⟨w.heap.size + 1, 1, none⟩) (by show w.heap.size + 2 ≠ w.heap.size + 1; omega) _).alloc _, (HBR.out.far (p := ⟨w.heap.size + 1, 1, none⟩) (by show w.heap.size ≠ w.heap.size + 1; omega) _).alloc _, (HC.out.setCell ⟨w.heap.size + 1, 1, none⟩ _ (.inr (by show w.heap.size ≤ w.heap.size + 1; omega))).alloc _⟩, by simp [intOf]⟩
        have hset := (HBI.out.set_ 1 (.int .i64 (0))).alloc (.cells #[.func (.func 71) #[] #[], .int .u64 21, .int .u64 5] 112)
        rw [decC_set0 _ _ _ _ _ _ _ (by rfl)] at hset
        exact hset
    · have k1 : ((((⟨#[a, b, c, d]⟩ : ByteArray)[0]'(by show 0 < 4; omega)).toNat : Int) == 45) = false := HK.out a 45 h1
      have H1 := hide h1
      clear h1
      by_cases h2 : a = 115
      · subst h2
        go_wp2_with (first | (go_at_call 71; refine (fld1 _ _).mono ?_; rintro e w2 ⟨rfl, rfl⟩))
        refine ⟨⟨1, by omega, rfl, ?_, (HBQ.out.far (p := ⟨w.heap.size + 1, 1, none⟩) (by show w.heap.size + 2 ≠ w.heap.size + 1; omega) _).alloc _, (HBR.out.far (p := ⟨w.heap.size + 1, 1, none⟩) (by show w.heap.size ≠ w.heap.size + 1; omega) _).alloc _, (HC.out.setCell ⟨w.heap.size + 1, 1, none⟩ _ (.inr (by show w.heap.size ≤ w.heap.size + 1; omega))).alloc _⟩, by simp [intOf]⟩
        have hset := (HBI.out.set_ 1 (.int .i64 (wrap64 (IntKind.i16.wrap (wrap64 (bits .and .u32 (n / 2097152) 31)))))).alloc (.cells #[.func (.func 71) #[] #[], .int .u64 21, .int .u64 5] 112)
        rw [decC_set0 _ _ _ _ _ _ _ (by rw [raw31 _ (by omega) (by omega), sx64]; unfold dx fx; rw [if_neg (by decide), if_pos rfl])] at hset
        exact hset
      · have k2 : ((((⟨#[a, b, c, d]⟩ : ByteArray)[0]'(by show 0 < 4; omega)).toNat : Int) == 115) = false := HK.out a 115 h2
        have H2 := hide h2
        clear h2
        go_wp2_with (first | (go_at_call 71; refine (fld1 _ _).mono ?_; rintro e w2 ⟨rfl, rfl⟩))
        refine ⟨⟨1, by omega, rfl, ?_, (HBQ.out.far (p := ⟨w.heap.size + 1, 1, none⟩) (by show w.heap.size + 2 ≠ w.heap.size + 1; omega) _).alloc _, (HBR.out.far (p := ⟨w.heap.size + 1, 1, none⟩) (by show w.heap.size ≠ w.heap.size + 1; omega) _).alloc _, (HC.out.setCell ⟨w.heap.size + 1, 1, none⟩ _ (.inr (by show w.heap.size ≤ w.heap.size + 1; omega))).alloc _⟩, by simp [intOf]⟩
        have hset := (HBI.out.set_ 1 (.int .i64 (wrap64 (bits .and .u32 (n / 2097152) 31)))).alloc (.cells #[.func (.func 71) #[] #[], .int .u64 21, .int .u64 5] 112)
        rw [decC_set0 _ _ _ _ _ _ _ (by rw [raw31 _ (by omega) (by omega)]; unfold dx fx; rw [if_neg H1.out, if_neg H2.out])] at hset
        exact hset
  · have q0 := hbq.cell' (i := 3) rfl
    have q1 := hbq.cell' (i := 4) rfl
    have q2 := hbq.cell' (i := 5) rfl
    have c4 := hbi.cell' (i := 2) rfl
    have f4 := hbi.frozen 2
    clear hbi hbq hbr
    by_cases h1 : b = 45
    · subst h1
      go_wp2_with (first | (go_at_call 72; refine (fld2 _ _).mono ?_; rintro e w2 ⟨rfl, rfl⟩))
      · refine ⟨⟨2, by omega, rfl, ?_, (HBQ.out.far (p := ⟨w.heap.size + 1, 2, none⟩) (by show w.heap.size + 2 ≠ w.heap.size + 1; omega) _).alloc _, (HBR.out.far (p := ⟨w.heap.size + 1, 2, none⟩) (by show w.heap.size ≠ w.heap.size + 1; omega) _).alloc _, (HC.out.setCell ⟨w.heap.size + 1, 2, none⟩ _ (.inr (by show w.heap.size ≤ w.heap.size + 1; omega))).alloc _⟩, by simp [intOf]⟩
        have hset := (HBI.out.set_ 2 (.int .i64 (0))).alloc (.cells #[.func (.func 72) #[] #[], .int .u64 16, .int .u64 5] 112)
        rw [decC_set1 _ _ _ _ _ _ _ (by rfl)] at hset
        exact hset
    · have k1 : ((((⟨#[a, b, c, d]⟩ : ByteArray)[1]'(by show 1 < 4; omega)).toNat : Int) == 45) = false := HK.out b 45 h1
      have H1 := hide h1
      clear h1
      by_cases h2 : b = 115
      · subst h2
        go_wp2_with (first | (go_at_call 72; refine (fld2 _ _).mono ?_; rintro e w2 ⟨rfl, rfl⟩))
        refine ⟨⟨2, by omega, rfl, ?_, (HBQ.out.far (p := ⟨w.heap.size + 1, 2, none⟩) (by show w.heap.size + 2 ≠ w.heap.size + 1; omega) _).alloc _, (HBR.out.far (p := ⟨w.heap.size + 1, 2, none⟩) (by show w.heap.size ≠ w.heap.size + 1; omega) _).alloc _, (HC.out.setCell ⟨w.heap.size + 1, 2, none⟩ _ (.inr (by show w.heap.size ≤ w.heap.size + 1; omega))).alloc _⟩, by simp [intOf]⟩
        have hset := (HBI.out.set_ 2 (.int .i64 (wrap64 (IntKind.i16.wrap (wrap64 (bits .and .u32 (n / 65536) 31)))))).alloc (.cells #[.func (.func 72) #[] #[], .int .u64 16, .int .u64 5] 112)
        rw [decC_set1 _ _ _ _ _ _ _ (by rw [raw31 _ (by omega) (by omega), sx64]; unfold dy fx; rw [if_neg (by decide), if_pos rfl])] at hset
        exact hset
      · have k2 : ((((⟨#[a, b, c, d]⟩ : ByteArray)[1]'(by show 1 < 4; omega)).toNat : Int) == 115) = false := HK.out b 115 h2
        have H2 := hide h2
        clear h2
        go_wp2_with (first | (go_at_call 72; refine (fld2 _ _).mono ?_; rintro e w2 ⟨rfl, rfl⟩))
        refine ⟨⟨2, by omega, rfl, ?_, (HBQ.out.far (p := ⟨w.heap.size + 1, 2, none⟩) (by show w.heap.size + 2 ≠ w.heap.size + 1; omega) _).alloc _, (HBR.out.far (p := ⟨w.heap.size + 1, 2, none⟩) (by show w.heap.size ≠ w.heap.size + 1; omega) _).alloc _, (HC.out.setCell ⟨w.heap.size + 1, 2, none⟩ _ (.inr (by show w.heap.size ≤ w.heap.size + 1; omega))).alloc _⟩, by simp [intOf]⟩
        have hset := (HBI.out.set_ 2 (.int .i64 (wrap64 (bits .and .u32 (n / 65536) 31)))).alloc (.cells #[.func (.func 72) #[] #[], .int .u64 16, .int .u64 5] 112)
        rw [decC_set1 _ _ _ _ _ _ _ (by rw [raw31 _ (by omega) (by omega)]; unfold dy fx; rw [if_neg H1.out, if_neg H2.out])] at hset
        exact hset
  · have q0 := hbq.cell' (i := 6) rfl
    have q1 := hbq.cell' (i := 7) rfl
    have q2 := hbq.cell' (i := 8) rfl
    have c4 := hbi.cell' (i := 3) rfl
    have f4 := hbi.frozen 3
    clear hbi hbq hbr
    by_cases h1 : c = 45
    · subst h1
      go_wp2_with (first | (go_at_call 73; refine (fld3 _ _).mono ?_; rintro e w2 ⟨rfl, rfl⟩))
      · refine ⟨⟨3, by omega, rfl, ?_, (HBQ.out.far (p := ⟨w.heap.size + 1, 3, none⟩) (by show w.heap.size + 2 ≠ w.heap.size + 1; omega) _).alloc _, (HBR.out.far (p := ⟨w.heap.size + 1, 3, none⟩) (by show w.heap.size ≠ w.heap.size + 1; omega) _).alloc _, (HC.out.setCell ⟨w.heap.size + 1, 3, none⟩ _ (.inr (by show w.heap.size ≤ w.heap.size + 1; omega))).alloc _⟩, by simp [intOf]⟩
        have hset := (HBI.out.set_ 3 (.int .i64 (0))).alloc (.cells #[.func (.func 73) #[] #[], .int .u64 11, .int .u64 5] 112)
        rw [decC_set2 _ _ _ _ _ _ _ (by rfl)] at hset
        exact hset
    · have k1 : ((((⟨#[a, b, c, d]⟩ : ByteArray)[2]'(by show 2 < 4; omega)).toNat : Int) == 45) = false := HK.out c 45 h1
      have H1 := hide h1
      clear h1
      by_cases h2 : c = 115
      · subst h2
        go_wp2_with (first | (go_at_call 73; refine (fld3 _ _).mono ?_; rintro e w2 ⟨rfl, rfl⟩))
        refine ⟨⟨3, by omega, rfl, ?_, (HBQ.out.far (p := ⟨w.heap.size + 1, 3, none⟩) (by show w.heap.size + 2 ≠ w.heap.size + 1; omega) _).alloc _, (HBR.out.far (p := ⟨w.heap.size + 1, 3, none⟩) (by show w.heap.size ≠ w.heap.size + 1; omega) _).alloc _, (HC.out.setCell ⟨w.heap.size + 1, 3, none⟩ _ (.inr (by show w.heap.size ≤ w.heap.size + 1; omega))).alloc _⟩, by simp [intOf]⟩
        have hset := (HBI.out.set_ 3 (.int .i64 (wrap64 (IntKind.i16.wrap (wrap64 (bits .and .u32 (n / 2048) 31)))))).alloc (.cells #[.func (.func 73) #[] #[], .int .u64 11, .int .u64 5] 112)
        rw [decC_set2 _ _ _ _ _ _ _ (by rw [raw31 _ (by omega) (by omega), sx64]; unfold dz fx; rw [if_neg (by decide), if_pos rfl])] at hset
        exact hset
      · have k2 : ((((⟨#[a, b, c, d]⟩ : ByteArray)[2]'(by show 2 < 4; omega)).toNat : Int) == 115) = false := HK.out c 115 h2
        have H2 := hide h2
        clear h2
        go_wp2_with (first | (go_at_call 73; refine (fld3 _ _).mono ?_; rintro e w2 ⟨rfl, rfl⟩))
        refine ⟨⟨3, by omega, rfl, ?_, (HBQ.out.far (p := ⟨w.heap.size + 1, 3, none⟩) (by show w.heap.size + 2 ≠ w.heap.size + 1; omega) _).alloc _, (HBR.out.far (p := ⟨w.heap.size + 1, 3, none⟩) (by show w.heap.size ≠ w.heap.size + 1; omega) _).alloc _, (HC.out.setCell ⟨w.heap.size + 1, 3, none⟩ _ (.inr (by show w.heap.size ≤ w.heap.size + 1; omega))).alloc _⟩, by simp [intOf]⟩
        have hset := (HBI.out.set_ 3 (.int .i64 (wrap64 (bits .and .u32 (n / 2048) 31)))).alloc (.cells #[.func (.func 73) #[] #[], .int .u64 11, .int .u64 5] 112)
        rw [decC_set2 _ _ _ _ _ _ _ (by rw [raw31 _ (by omega) (by omega)]; unfold dz fx; rw [if_neg H1.out, if_neg H2.out])] at hset
        exact hset
  · have q0 := hbq.cell' (i := 9) rfl
    have q1 := hbq.cell' (i := 10) rfl
    have q2 := hbq.cell' (i := 11) rfl
    have c4 := hbi.cell' (i := 4) rfl
    have f4 := hbi.frozen 4
    clear hbi hbq hbr
    by_cases h1 : d = 45
    · subst h1
      go_wp2_with (first | (go_at_call 74; refine (fld4 _ _).mono ?_; rintro e w2 ⟨rfl, rfl⟩))
      · refine ⟨⟨4, by omega, rfl, ?_, (HBQ.out.far (p := ⟨w.heap.size + 1, 4, none⟩) (by show w.heap.size + 2 ≠ w.heap.size + 1; omega) _).alloc _, (HBR.out.far (p := ⟨w.heap.size + 1, 4, none⟩) (by show w.heap.size ≠ w.heap.size + 1; omega) _).alloc _, (HC.out.setCell ⟨w.heap.size + 1, 4, none⟩ _ (.inr (by show w.heap.size ≤ w.heap.size + 1; omega))).alloc _⟩, by simp [intOf]⟩
        have hset := (HBI.out.set_ 4 (.int .i64 (0))).alloc (.cells #[.func (.func 74) #[] #[], .int .u64 0, .int .u64 16] 112)
        rw [decC_set3 _ _ _ _ _ _ _ (by rfl)] at hset
        exact hset
    · have k1 : ((((⟨#[a, b, c, d]⟩ : ByteArray)[3]'(by show 3 < 4; omega)).toNat : Int) == 45) = false := HK.out d 45 h1
      have H1 := hide h1
      clear h1
      by_cases h2 : d = 115
      · subst h2
        go_wp2_with (first | (go_at_call 74; refine (fld4 _ _).mono ?_; rintro e w2 ⟨rfl, rfl⟩))
        refine ⟨⟨4, by omega, rfl, ?_, (HBQ.out.far (p := ⟨w.heap.size + 1, 4, none⟩) (by show w.heap.size + 2 ≠ w.heap.size + 1; omega) _).alloc _, (HBR.out.far (p := ⟨w.heap.size + 1, 4, none⟩) (by show w.heap.size ≠ w.heap.size + 1; omega) _).alloc _, (HC.out.setCell ⟨w.heap.size + 1, 4, none⟩ _ (.inr (by show w.heap.size ≤ w.heap.size + 1; omega))).alloc _⟩, by simp [intOf]⟩
        have hset := (HBI.out.set_ 4 (.int .i64 (wrap64 (IntKind.i16.wrap (wrap64 (bits .and .u32 (n) 65535)))))).alloc (.cells #[.func (.func 74) #[] #[], .int .u64 0, .int .u64 16] 112)
        rw [decC_set3 _ _ _ _ _ _ _ (by rw [raw65535 _ (by omega) (by omega), sx64]; unfold du fx; rw [if_neg (by decide), if_pos rfl])] at hset
        exact hset
      · have k2 : ((((⟨#[a, b, c, d]⟩ : ByteArray)[3]'(by show 3 < 4; omega)).toNat : Int) == 115) = false := HK.out d 115 h2
        have H2 := hide h2
        clear h2
        go_wp2_with (first | (go_at_call 74; refine (fld4 _ _).mono ?_; rintro e w2 ⟨rfl, rfl⟩))
        refine ⟨⟨4, by omega, rfl, ?_, (HBQ.out.far (p := ⟨w.heap.size + 1, 4, none⟩) (by show w.heap.size + 2 ≠ w.heap.size + 1; omega) _).alloc _, (HBR.out.far (p := ⟨w.heap.size + 1, 4, none⟩) (by show w.heap.size ≠ w.heap.size + 1; omega) _).alloc _, (HC.out.setCell ⟨w.heap.size + 1, 4, none⟩ _ (.inr (by show w.heap.size ≤ w.heap.size + 1; omega))).alloc _⟩, by simp [intOf]⟩
        have hset := (HBI.out.set_ 4 (.int .i64 (wrap64 (bits .and .u32 (n) 65535)))).alloc (.cells #[.func (.func 74) #[] #[], .int .u64 0, .int .u64 16] 112)
        rw [decC_set3 _ _ _ _ _ _ _ (by rw [raw65535 _ (by omega) (by omega)]; unfold du fx; rw [if_neg H1.out, if_neg H2.out])] at hset
        exact hset
  · have c0 := hbi.cell' (i := 0) rfl
    have c1 := hbi.cell' (i := 1) rfl
    have c2 := hbi.cell' (i := 2) rfl
    have c3 := hbi.cell' (i := 3) rfl
    have c4 := hbi.cell' (i := 4) rfl
    have r0 := hbr.cell' (i := 0) rfl
    have r1 := hbr.cell' (i := 1) rfl
    have r2 := hbr.cell' (i := 2) rfl
    have r3 := hbr.cell' (i := 3) rfl
    have r4 := hbr.cell' (i := 4) rfl
    clear hbi hbq hbr HK
    have hge := HC.out.size
    clear r0 r1 r2 r3 r4
    by_cases heq : encK (n / 67108864) (dx n a) (dy n b) (dz n c) (du n d) 4 = n
    · have HO := hide (show decOut n a b c d = _ from if_pos heq)
      have HE := hide heq
      clear heq
      generalize dx n a = X at *
      generalize dy n b = Y at *
      generalize dz n c = Z at *
      generalize du n d = U at *
      have hnn : (n != n) = false := by simp
      go_wp2_with fail
      refine (encode_good _ X Y Z U _ HCH.out).mono ?_
      rintro e w5 ⟨rfl, hc5⟩
      rw [HE.out]
      replace c0 := hc5.cell c0 (by simp)
      replace c1 := hc5.cell c1 (by simp)
      replace c2 := hc5.cell c2 (by simp)
      replace c3 := hc5.cell c3 (by simp)
      replace c4 := hc5.cell c4 (by simp)
      have HB5 := hide (HBR.out.chg hc5 (by simp))
      have r0 := HB5.out.cell' (i := 0) rfl
      have r1 := HB5.out.cell' (i := 1) rfl
      have r2 := HB5.out.cell' (i := 2) rfl
      have r3 := HB5.out.cell' (i := 3) rfl
      have r4 := HB5.out.cell' (i := 4) rfl
      have f0 := HB5.out.frozen 0
      have f1 := HB5.out.frozen 1
      have f2 := HB5.out.frozen 2
      have f3 := HB5.out.frozen 3
      have f4 := HB5.out.frozen 4
      have hl5 := HB5.out.lt
      replace HC := hide (HC.out.trans hc5 (by simp))
      go_wp2
      refine bodyPost_ret (v := .tuple #[insV (n / 67108864) X Y Z U, .int .i64 0]) (by simp [results, Tryz.results42, go_sem, r0, r1, r2, r3, r4]) rfl ⟨by rw [HO.out], ?_⟩
      exact ((((HC.out.setCell _ _ (.inr (Nat.le_refl _))).setCell _ _ (.inr (Nat.le_refl _))).setCell _ _ (.inr (Nat.le_refl _))).setCell _ _ (.inr (Nat.le_refl _))).setCell _ _ (.inr (Nat.le_refl _))
    · have HO := hide (show decOut n a b c d = _ from if_neg heq)
      have HE := hide heq
      clear heq
      generalize dx n a = X at *
      generalize dy n b = Y at *
      generalize dz n c = Z at *
      generalize du n d = U at *
      have hnn : (encK (n / 67108864) X Y Z U 4 != n) = true := by rw [bne_iff_ne]; exact HE.out
      go_wp2_with fail
      refine (encode_good _ X Y Z U _ HCH.out).mono ?_
      rintro e w5 ⟨rfl, hc5⟩
      generalize encK (n / 67108864) X Y Z U 4 = E at *
      replace c0 := hc5.cell c0 (by simp)
      replace c1 := hc5.cell c1 (by simp)
      replace c2 := hc5.cell c2 (by simp)
      replace c3 := hc5.cell c3 (by simp)
      replace c4 := hc5.cell c4 (by simp)
      have HB5 := hide (HBR.out.chg hc5 (by simp))
      have r0 := HB5.out.cell' (i := 0) rfl
      have r1 := HB5.out.cell' (i := 1) rfl
      have r2 := HB5.out.cell' (i := 2) rfl
      have r3 := HB5.out.cell' (i := 3) rfl
      have r4 := HB5.out.cell' (i := 4) rfl
      have f0 := HB5.out.frozen 0
      have f1 := HB5.out.frozen 1
      have f2 := HB5.out.frozen 2
      have f3 := HB5.out.frozen 3
      have f4 := HB5.out.frozen 4
      have hl5 := HB5.out.lt
      replace HC := hide (HC.out.trans hc5 (by simp))
      go_wp2
      refine bodyPost_ret (v := .tuple #[insV 0 0 0 0 0, .int .i64 3]) (by simp [results, Tryz.results42, go_sem, r0, r1, r2, r3, r4]) rfl ⟨by rw [HO.out], ?_⟩
      exact ((((HC.out.setCell _ _ (.inr (Nat.le_refl _))).setCell _ _ (.inr (Nat.le_refl _))).setCell _ _ (.inr (Nat.le_refl _))).setCell _ _ (.inr (Nat.le_refl _))).setCell _ _ (.inr (Nat.le_refl _))
end Go.Proofs.YtjfnpokebaagmaaGreatDoor

/- Decode as one contract, and that an encoded instruction decodes to itself (where the document's Decode is not reached). -/
namespace Go.Proofs.YtjfnpokebaagmaaGreatDoor
open Go.RowKit Go.Deep
set_option linter.unusedVariables false
theorem decOut_good {n : Int} {a b c d : UInt8} {x y z u : Int} (h1 : dx n a = x) (h2 : dy n b = y) (h3 : dz n c = z) (h4 : du n d = u) (h : encK (n / 67108864) x y z u 4 = n) : decOut n a b c d = .tuple #[insV (n / 67108864) x y z u, .int .i64 0] := by
 unfold decOut; rw [h1, h2, h3, h4, if_pos h]
def decAll (n : Int) : Value := match shp (n / 67108864) with
 | [a, b, c, d] => decOut n a b c d
 | _ => .tuple #[insV 0 0 0 0 0, .int .i64 2]
theorem decode_any (n : Int) (w : World) (hn0 : 0 ≤ n) (hn1 : n ≤ 4294967295) :
 Calls Tryz.prog 42 #[.int .u32 n] w fun e w' => e = .returned (decAll n) ∧ Chg w w' [] := by
 unfold decAll
 rcases shp_form (n / 67108864) with h | ⟨a, b, c, d, h⟩
 · rw [h]; exact decode_none n w hn0 hn1 h
 · rw [h]; exact decode_some n a b c d w hn0 hn1 h
theorem decAll_of {n op : Int} {a b c d : UInt8} {x y z u : Int} (ho : n / 67108864 = op) (h : shp op = [a, b, c, d]) (h1 : dx n a = x) (h2 : dy n b = y) (h3 : dz n c = z) (h4 : du n d = u) (he : encK op x y z u 4 = n) :
 decAll n = .tuple #[insV op x y z u, .int .i64 0] := by
 subst ho
 unfold decAll
 rw [h]
 exact decOut_good h1 h2 h3 h4 he
theorem dec_enc (op x y z u : Int) (h : Fits op x y z u) : decAll (encK op x y z u 4) = .tuple #[insV op x y z u, .int .i64 0] := by
 have hb := fits_bounds h
 have hE : encK op x y z u 4 = op * 67108864 + x * 2097152 + y * 65536 + z * 2048 + u % 65536 := rfl
 generalize hn : encK op x y z u 4 = n at *
 have hop : n / 67108864 = op := by omega
 unfold Fits regOk at h
 rcases h with h | h | h | h | h | h | h | h
 · have hs : shp op = [100, 97, 98, 45] := by
    rcases shp_cases op with ⟨g, e⟩ | ⟨g, e⟩ | ⟨g, e⟩ | ⟨g, e⟩ | ⟨g, e⟩ | ⟨g, e⟩ | ⟨g, e⟩ | ⟨g, e⟩ | ⟨g, e⟩ | ⟨g, e⟩ <;> first | (rw [e]; done) | (exfalso; omega)
   exact decAll_of hop hs (by show fx 100 _ = _; unfold fx; rw [if_neg (by decide), if_neg (by decide)]; omega) (by show fx 97 _ = _; unfold fx; rw [if_neg (by decide), if_neg (by decide)]; omega) (by show fx 98 _ = _; unfold fx; rw [if_neg (by decide), if_neg (by decide)]; omega) (by show fx 45 _ = _; unfold fx; rw [if_pos rfl]; omega) hn
 · have hs : shp op = [100, 97, 45, 45] := by
    rcases shp_cases op with ⟨g, e⟩ | ⟨g, e⟩ | ⟨g, e⟩ | ⟨g, e⟩ | ⟨g, e⟩ | ⟨g, e⟩ | ⟨g, e⟩ | ⟨g, e⟩ | ⟨g, e⟩ | ⟨g, e⟩ <;> first | (rw [e]; done) | (exfalso; omega)
   exact decAll_of hop hs (by show fx 100 _ = _; unfold fx; rw [if_neg (by decide), if_neg (by decide)]; omega) (by show fx 97 _ = _; unfold fx; rw [if_neg (by decide), if_neg (by decide)]; omega) (by show fx 45 _ = _; unfold fx; rw [if_pos rfl]; omega) (by show fx 45 _ = _; unfold fx; rw [if_pos rfl]; omega) hn
 · have hs : shp op = [100, 97, 45, 115] := by
    rcases shp_cases op with ⟨g, e⟩ | ⟨g, e⟩ | ⟨g, e⟩ | ⟨g, e⟩ | ⟨g, e⟩ | ⟨g, e⟩ | ⟨g, e⟩ | ⟨g, e⟩ | ⟨g, e⟩ | ⟨g, e⟩ <;> first | (rw [e]; done) | (exfalso; omega)
   exact decAll_of hop hs (by show fx 100 _ = _; unfold fx; rw [if_neg (by decide), if_neg (by decide)]; omega) (by show fx 97 _ = _; unfold fx; rw [if_neg (by decide), if_neg (by decide)]; omega) (by show fx 45 _ = _; unfold fx; rw [if_pos rfl]; omega) (by show fx 115 _ = _; unfold fx; rw [if_neg (by decide), if_pos rfl, i16_wrap]; omega) hn
 · have hs : shp op = [100, 45, 45, 117] := by
    rcases shp_cases op with ⟨g, e⟩ | ⟨g, e⟩ | ⟨g, e⟩ | ⟨g, e⟩ | ⟨g, e⟩ | ⟨g, e⟩ | ⟨g, e⟩ | ⟨g, e⟩ | ⟨g, e⟩ | ⟨g, e⟩ <;> first | (rw [e]; done) | (exfalso; omega)
   exact decAll_of hop hs (by show fx 100 _ = _; unfold fx; rw [if_neg (by decide), if_neg (by decide)]; omega) (by show fx 45 _ = _; unfold fx; rw [if_pos rfl]; omega) (by show fx 45 _ = _; unfold fx; rw [if_pos rfl]; omega) (by show fx 117 _ = _; unfold fx; rw [if_neg (by decide), if_neg (by decide)]; omega) hn
 · have hs : shp op = [100, 97, 45, 117] := by
    rcases shp_cases op with ⟨g, e⟩ | ⟨g, e⟩ | ⟨g, e⟩ | ⟨g, e⟩ | ⟨g, e⟩ | ⟨g, e⟩ | ⟨g, e⟩ | ⟨g, e⟩ | ⟨g, e⟩ | ⟨g, e⟩ <;> first | (rw [e]; done) | (exfalso; omega)
   exact decAll_of hop hs (by show fx 100 _ = _; unfold fx; rw [if_neg (by decide), if_neg (by decide)]; omega) (by show fx 97 _ = _; unfold fx; rw [if_neg (by decide), if_neg (by decide)]; omega) (by show fx 45 _ = _; unfold fx; rw [if_pos rfl]; omega) (by show fx 117 _ = _; unfold fx; rw [if_neg (by decide), if_neg (by decide)]; omega) hn
 · have hs : shp op = [45, 45, 45, 117] := by
    rcases shp_cases op with ⟨g, e⟩ | ⟨g, e⟩ | ⟨g, e⟩ | ⟨g, e⟩ | ⟨g, e⟩ | ⟨g, e⟩ | ⟨g, e⟩ | ⟨g, e⟩ | ⟨g, e⟩ | ⟨g, e⟩ <;> first | (rw [e]; done) | (exfalso; omega)
   exact decAll_of hop hs (by show fx 45 _ = _; unfold fx; rw [if_pos rfl]; omega) (by show fx 45 _ = _; unfold fx; rw [if_pos rfl]; omega) (by show fx 45 _ = _; unfold fx; rw [if_pos rfl]; omega) (by show fx 117 _ = _; unfold fx; rw [if_neg (by decide), if_neg (by decide)]; omega) hn
 · have hs : shp op = [45, 97, 45, 45] := by
    rcases shp_cases op with ⟨g, e⟩ | ⟨g, e⟩ | ⟨g, e⟩ | ⟨g, e⟩ | ⟨g, e⟩ | ⟨g, e⟩ | ⟨g, e⟩ | ⟨g, e⟩ | ⟨g, e⟩ | ⟨g, e⟩ <;> first | (rw [e]; done) | (exfalso; omega)
   exact decAll_of hop hs (by show fx 45 _ = _; unfold fx; rw [if_pos rfl]; omega) (by show fx 97 _ = _; unfold fx; rw [if_neg (by decide), if_neg (by decide)]; omega) (by show fx 45 _ = _; unfold fx; rw [if_pos rfl]; omega) (by show fx 45 _ = _; unfold fx; rw [if_pos rfl]; omega) hn
 · have hs : shp op = [45, 45, 45, 45] := by
    rcases shp_cases op with ⟨g, e⟩ | ⟨g, e⟩ | ⟨g, e⟩ | ⟨g, e⟩ | ⟨g, e⟩ | ⟨g, e⟩ | ⟨g, e⟩ | ⟨g, e⟩ | ⟨g, e⟩ | ⟨g, e⟩ <;> first | (rw [e]; done) | (exfalso; omega)
   exact decAll_of hop hs (by show fx 45 _ = _; unfold fx; rw [if_pos rfl]; omega) (by show fx 45 _ = _; unfold fx; rw [if_pos rfl]; omega) (by show fx 45 _ = _; unfold fx; rw [if_pos rfl]; omega) (by show fx 45 _ = _; unfold fx; rw [if_pos rfl]; omega) hn
theorem dec_encI {i : Ins5} (h : chkI i = 0) : decAll (encI i) = .tuple #[insV i.op i.d i.a i.b i.n, .int .i64 0] := by
 unfold encI
 rw [if_pos h]
 exact dec_enc _ _ _ _ _ ((chk_iff _ _ _ _ _).1 h)
end Go.Proofs.YtjfnpokebaagmaaGreatDoor

/- The walks of package ram: what New, Load, Store, Len and All do, of a memory that reads as a list of words. -/
namespace Go.Proofs.YtjfnpokebaagmaaGreatDoor
open Go.RowKit Go.Deep
set_option linter.unusedVariables false
theorem info_i32 : (Tryz.prog.info? 21).map (fun i => (i.zero, i.size, i.bytes)) = some (some (.int .i32 0), 1, 4) := by kernel_rfl
theorem size_i32 : (Tryz.prog.info? 21).map (·.size) = some 1 := by kernel_rfl
set_option maxHeartbeats 400000 in
theorem own_any (A : Option Addr) (c : Nat) (ws : List Int) (w : World) (hn : ws.length ≤ 3000) (hs : Sl w (.slice A ws.length c) (i32s ws)) :
 Calls Tryz.prog 60 #[.slice A ws.length c] w fun e w' => e = .returned (.slice (some ⟨w.heap.size, 0, none⟩) ws.length ws.length) ∧
  Blk w' w.heap.size 21 (i32s ws) ∧ Chg w w' [] := by
 obtain ⟨i0, hi0, hz0, hz1, hz2⟩ := info_parts info_i32
 have hmk := run_make_row' (P := Tryz.prog) 78 21 (.int .i32 0) 4 Tryz.underlying78 info_i32 rfl .i64 .i64 ws.length (by omega) (by omega)
 rw [madeCells_zeros] at hmk
 have hs1 := fun o => hs.chg (D := []) ((Chg.refl w []).alloc o) (by simp)
 have hb1 := Blk.new w 21 (zeros (.int .i32 0) ws.length)
 go_enter Tryz.func60, Tryz.ntmps60
 go_wp2_with (with_reducible refine wpList_copy_all rfl (.tmp 7) (.tmp 8) 78 78 rfl 21 Tryz.underlying78 size_i32 w.heap.size ws.length ws.length (.slice A ws.length c) (i32s ws) _ 21 rfl rfl hb1 (hs1 _) (length_zeros _ _) (by simp) (one_i32s _) ?_; intro w1 hblk hchg)
 go_ret
 exact ⟨rfl, hblk, ((Chg.refl w []).alloc _).trans hchg (by simp)⟩
structure IsRam (w : World) (b r : Nat) (ws : List Int) : Prop where
 n : ws.length ≤ 2048
 head : Blk w b 123 [.slice (some ⟨r, 0, none⟩) ws.length ws.length, .bool true]
 row : Blk w r 21 (i32s ws)
theorem IsRam.ne {w : World} {b r : Nat} {ws : List Int} (h : IsRam w b r ws) : b ≠ r := h.head.ne_ h.row (by decide)
theorem IsRam.drew {w : World} {b r : Nat} {ws : List Int} (h : IsRam w b r ws) : IsRam w.drew b r ws := ⟨h.n, h.head, h.row⟩
theorem IsRam.drewN {w : World} {b r : Nat} {ws : List Int} (h : IsRam w b r ws) (n : Nat) : IsRam (w.drewN n) b r ws := ⟨h.n, h.head, h.row⟩
theorem IsRam.chg {w w' : World} {b r : Nat} {ws : List Int} {D : List Nat} (h : IsRam w b r ws) (hc : Chg w w' D) (hb : b ∉ D) (hr : r ∉ D) : IsRam w' b r ws :=
 ⟨h.n, h.head.chg hc hb, h.row.chg hc hr⟩
set_option maxHeartbeats 400000 in
theorem new_any (A : Option Addr) (c : Nat) (ws : List Int) (w : World) (hn : ws.length ≤ 2048) (hs : Sl w (.slice A ws.length c) (i32s ws)) :
 Calls Tryz.prog 41 #[.slice A ws.length c] w fun e w' => ∃ b r, e = .returned (.tuple #[.pointer (some ⟨b, 0, none⟩), .int .i64 0]) ∧
  IsRam w' b r ws ∧ w.heap.size ≤ b ∧ w.heap.size ≤ r ∧ Chg w w' [] := by
 go_enter Tryz.func41, Tryz.ntmps41
 go_wp2_with (go_at_call 60; refine (own_any A c ws _ (by omega) hs).mono ?_; rintro e w1 ⟨rfl, hblk, hchg⟩)
 go_ret2
 have hsz := hchg.size
 have hne := hblk.lt
 exact ⟨w1.heap.size, w.heap.size, rfl, ⟨hn, Blk.new w1 _ _, hblk.alloc _⟩, hsz, Nat.le_refl _, hchg.alloc _⟩
def ld (ws : List Int) (a : Int) : Int := if 0 ≤ a ∧ a < ws.length then ws.getD a.toNat 0 else 0
def st (ws : List Int) (a x : Int) : List Int := if 0 ≤ a ∧ a < ws.length then ws.set a.toNat x else ws
end Go.Proofs.YtjfnpokebaagmaaGreatDoor
