/- The walk of the reference of layer 13: Decode. -/
import Derived.Test.YtidceolaemikgaaDecode
namespace Go.Proofs.Ytidceolaemikgaa
open Go.RowKit Go.Deep
set_option linter.unusedVariables false

theorem decOut_good {n : Int} {a b c d : UInt8} {x y z u : Int} (h1 : dx n a = x) (h2 : dy n b = y) (h3 : dz n c = z) (h4 : du n d = u) (h : encK (n / 67108864) x y z u 4 = n) : decOut n a b c d = .tuple #[insV (n / 67108864) x y z u, .int .i64 0] := by
  unfold decOut; rw [h1, h2, h3, h4, if_pos h]
theorem decOut_bad {n : Int} {a b c d : UInt8} {x y z u : Int} (h1 : dx n a = x) (h2 : dy n b = y) (h3 : dz n c = z) (h4 : du n d = u) (h : encK (n / 67108864) x y z u 4 ≠ n) : decOut n a b c d = .tuple #[insV 0 0 0 0 0, .int .i64 3] := by
  unfold decOut; rw [h1, h2, h3, h4, if_neg h]
theorem enc_eq (n x y z u : Int) : encK (n / 67108864) x y z u 4 = n / 67108864 * 67108864 + x * 2097152 + y * 65536 + z * 2048 + u % 65536 := rfl

set_option maxHeartbeats 400000 in
theorem refdecode_none (n : Int) (w : World) (hn0 : 0 ≤ n) (hn1 : n ≤ 4294967295) (h : shp (n / 67108864) = []) :
    Calls Try.prog 20 #[.int .u32 n] w fun e w' => e = .returned (.tuple #[insV 0 0 0 0 0, .int .i64 2]) ∧ Chg w w' [] := by
  have H := hide h
  clear h
  go_enter Try.func20, Try.ntmps20
  go_wp2_with (go_at_call 30; refine (refshape_any _ _).mono ?_; rintro e w2 ⟨rfl, rfl⟩; rw [H.out])
  exact bodyPost_ret (v := .tuple #[insV 0 0 0 0 0, .int .i64 2]) (by simp [results, Try.results20, go_sem]) rfl ⟨rfl, ((Chg.refl _ _).alloc _).alloc _⟩

set_option maxHeartbeats 2000000 in
theorem refdecode_dab (n : Int) (w : World) (hn0 : 0 ≤ n) (hn1 : n ≤ 4294967295) (h : shp (n / 67108864) = [100, 97, 98, 45]) :
    Calls Try.prog 20 #[.int .u32 n] w fun e w' => e = .returned (decOut n 100 97 98 45) ∧ Chg w w' [] := by
  have H := hide h
  clear h
  rcases (Decidable.em (n % 2048 = 0)).symm with c0 | c0
  · skip
    have hout : decOut n 100 97 98 45 = .tuple #[insV 0 0 0 0 0, .int .i64 3] := decOut_bad (x := n / 2097152 % 32) (y := n / 65536 % 32) (z := n % 65536 / 2048) (u := 0) (by show fx 100 _ = _; unfold fx; rw [if_neg (by decide), if_neg (by decide)]) (by show fx 97 _ = _; unfold fx; rw [if_neg (by decide), if_neg (by decide)]) (by show fx 98 _ = _; unfold fx; rw [if_neg (by decide), if_neg (by decide)]; omega) rfl (by rw [enc_eq]; omega)
    have t0 : ((n % 2048 : Int) != 0) = true := by simp; omega
    have HF := hide hout
    clear hout
    have C0 := hide c0
    clear c0
    go_enter Try.func20, Try.ntmps20
    go_wp2_with (go_at_call 30; refine (refshape_any _ _).mono ?_; rintro e w2 ⟨rfl, rfl⟩; rw [H.out])
    refine bodyPost_ret (v := .tuple #[insV 0 0 0 0 0, .int .i64 3]) (by simp [results, Try.results20, go_sem]) rfl ⟨by rw [HF.out], ?_⟩
    exact ((Chg.refl _ _).alloc _).alloc _
  · skip
    have hout : decOut n 100 97 98 45 = .tuple #[insV (n / 67108864) (n / 2097152 % 32) (n / 65536 % 32) (n % 65536 / 2048) (0), .int .i64 0] := decOut_good (by show fx 100 _ = _; unfold fx; rw [if_neg (by decide), if_neg (by decide)]) (by show fx 97 _ = _; unfold fx; rw [if_neg (by decide), if_neg (by decide)]) (by show fx 98 _ = _; unfold fx; rw [if_neg (by decide), if_neg (by decide)]; omega) rfl (by rw [enc_eq]; omega)
    have t0 : ((n % 2048 : Int) != 0) = false := by simp; omega
    have HF := hide hout
    clear hout
    have C0 := hide c0
    clear c0
    go_enter Try.func20, Try.ntmps20
    go_wp2_with (go_at_call 30; refine (refshape_any _ _).mono ?_; rintro e w2 ⟨rfl, rfl⟩; rw [H.out])
    refine bodyPost_ret (v := .tuple #[insV (n / 67108864) (n / 2097152 % 32) (n / 65536 % 32) (n % 65536 / 2048) (0), .int .i64 0]) (by simp [results, Try.results20, go_sem]) rfl ⟨by rw [HF.out], ?_⟩
    exact ((Chg.refl _ _).alloc _).alloc _

set_option maxHeartbeats 2000000 in
theorem refdecode_da (n : Int) (w : World) (hn0 : 0 ≤ n) (hn1 : n ≤ 4294967295) (h : shp (n / 67108864) = [100, 97, 45, 45]) :
    Calls Try.prog 20 #[.int .u32 n] w fun e w' => e = .returned (decOut n 100 97 45 45) ∧ Chg w w' [] := by
  have H := hide h
  clear h
  rcases (Decidable.em (n % 65536 = 0)).symm with c0 | c0
  · skip
    have hout : decOut n 100 97 45 45 = .tuple #[insV 0 0 0 0 0, .int .i64 3] := decOut_bad (x := n / 2097152 % 32) (y := n / 65536 % 32) (z := 0) (u := 0) (by show fx 100 _ = _; unfold fx; rw [if_neg (by decide), if_neg (by decide)]) (by show fx 97 _ = _; unfold fx; rw [if_neg (by decide), if_neg (by decide)]) rfl rfl (by rw [enc_eq]; omega)
    have t0 : ((n % 65536 : Int) != 0) = true := by simp; omega
    have HF := hide hout
    clear hout
    have C0 := hide c0
    clear c0
    go_enter Try.func20, Try.ntmps20
    go_wp2_with (go_at_call 30; refine (refshape_any _ _).mono ?_; rintro e w2 ⟨rfl, rfl⟩; rw [H.out])
    refine bodyPost_ret (v := .tuple #[insV 0 0 0 0 0, .int .i64 3]) (by simp [results, Try.results20, go_sem]) rfl ⟨by rw [HF.out], ?_⟩
    exact ((Chg.refl _ _).alloc _).alloc _
  · skip
    have hout : decOut n 100 97 45 45 = .tuple #[insV (n / 67108864) (n / 2097152 % 32) (n / 65536 % 32) (0) (0), .int .i64 0] := decOut_good (by show fx 100 _ = _; unfold fx; rw [if_neg (by decide), if_neg (by decide)]) (by show fx 97 _ = _; unfold fx; rw [if_neg (by decide), if_neg (by decide)]) rfl rfl (by rw [enc_eq]; omega)
    have t0 : ((n % 65536 : Int) != 0) = false := by simp; omega
    have HF := hide hout
    clear hout
    have C0 := hide c0
    clear c0
    go_enter Try.func20, Try.ntmps20
    go_wp2_with (go_at_call 30; refine (refshape_any _ _).mono ?_; rintro e w2 ⟨rfl, rfl⟩; rw [H.out])
    refine bodyPost_ret (v := .tuple #[insV (n / 67108864) (n / 2097152 % 32) (n / 65536 % 32) (0) (0), .int .i64 0]) (by simp [results, Try.results20, go_sem]) rfl ⟨by rw [HF.out], ?_⟩
    exact ((Chg.refl _ _).alloc _).alloc _

set_option maxHeartbeats 2000000 in
theorem refdecode_das (n : Int) (w : World) (hn0 : 0 ≤ n) (hn1 : n ≤ 4294967295) (h : shp (n / 67108864) = [100, 97, 45, 115]) :
    Calls Try.prog 20 #[.int .u32 n] w fun e w' => e = .returned (decOut n 100 97 45 115) ∧ Chg w w' [] := by
  have H := hide h
  clear h
  by_cases hs : 32768 ≤ n % 65536
  · skip
    have hout : decOut n 100 97 45 115 = .tuple #[insV (n / 67108864) (n / 2097152 % 32) (n / 65536 % 32) (0) (n % 65536 - 65536), .int .i64 0] := decOut_good (by show fx 100 _ = _; unfold fx; rw [if_neg (by decide), if_neg (by decide)]) (by show fx 97 _ = _; unfold fx; rw [if_neg (by decide), if_neg (by decide)]) rfl (by show fx 115 _ = _; unfold fx; rw [if_neg (by decide), if_pos rfl, i16_wrap]; omega) (by rw [enc_eq]; omega)
    have HF := hide hout
    clear hout
    go_enter Try.func20, Try.ntmps20
    go_wp2_with (go_at_call 30; refine (refshape_any _ _).mono ?_; rintro e w2 ⟨rfl, rfl⟩; rw [H.out])
    refine bodyPost_ret (v := .tuple #[insV (n / 67108864) (n / 2097152 % 32) (n / 65536 % 32) (0) (n % 65536 - 65536), .int .i64 0]) (by simp [results, Try.results20, go_sem]) rfl ⟨by rw [HF.out], ?_⟩
    exact ((Chg.refl _ _).alloc _).alloc _
  · skip
    have hout : decOut n 100 97 45 115 = .tuple #[insV (n / 67108864) (n / 2097152 % 32) (n / 65536 % 32) (0) (n % 65536), .int .i64 0] := decOut_good (by show fx 100 _ = _; unfold fx; rw [if_neg (by decide), if_neg (by decide)]) (by show fx 97 _ = _; unfold fx; rw [if_neg (by decide), if_neg (by decide)]) rfl (by show fx 115 _ = _; unfold fx; rw [if_neg (by decide), if_pos rfl, i16_wrap]; omega) (by rw [enc_eq]; omega)
    have HF := hide hout
    clear hout
    go_enter Try.func20, Try.ntmps20
    go_wp2_with (go_at_call 30; refine (refshape_any _ _).mono ?_; rintro e w2 ⟨rfl, rfl⟩; rw [H.out])
    refine bodyPost_ret (v := .tuple #[insV (n / 67108864) (n / 2097152 % 32) (n / 65536 % 32) (0) (n % 65536), .int .i64 0]) (by simp [results, Try.results20, go_sem]) rfl ⟨by rw [HF.out], ?_⟩
    exact ((Chg.refl _ _).alloc _).alloc _

set_option maxHeartbeats 2000000 in
theorem refdecode_du (n : Int) (w : World) (hn0 : 0 ≤ n) (hn1 : n ≤ 4294967295) (h : shp (n / 67108864) = [100, 45, 45, 117]) :
    Calls Try.prog 20 #[.int .u32 n] w fun e w' => e = .returned (decOut n 100 45 45 117) ∧ Chg w w' [] := by
  have H := hide h
  clear h
  rcases (Decidable.em (n / 65536 % 32 = 0)).symm with c0 | c0
  · skip
    have hout : decOut n 100 45 45 117 = .tuple #[insV 0 0 0 0 0, .int .i64 3] := decOut_bad (x := n / 2097152 % 32) (y := 0) (z := 0) (u := n % 65536) (by show fx 100 _ = _; unfold fx; rw [if_neg (by decide), if_neg (by decide)]) rfl rfl (by show fx 117 _ = _; unfold fx; rw [if_neg (by decide), if_neg (by decide)]) (by rw [enc_eq]; omega)
    have t0 : ((n / 65536 % 32 : Int) != 0) = true := by simp; omega
    have HF := hide hout
    clear hout
    have C0 := hide c0
    clear c0
    go_enter Try.func20, Try.ntmps20
    go_wp2_with (go_at_call 30; refine (refshape_any _ _).mono ?_; rintro e w2 ⟨rfl, rfl⟩; rw [H.out])
    refine bodyPost_ret (v := .tuple #[insV 0 0 0 0 0, .int .i64 3]) (by simp [results, Try.results20, go_sem]) rfl ⟨by rw [HF.out], ?_⟩
    exact ((Chg.refl _ _).alloc _).alloc _
  · skip
    have hout : decOut n 100 45 45 117 = .tuple #[insV (n / 67108864) (n / 2097152 % 32) (0) (0) (n % 65536), .int .i64 0] := decOut_good (by show fx 100 _ = _; unfold fx; rw [if_neg (by decide), if_neg (by decide)]) rfl rfl (by show fx 117 _ = _; unfold fx; rw [if_neg (by decide), if_neg (by decide)]) (by rw [enc_eq]; omega)
    have t0 : ((n / 65536 % 32 : Int) != 0) = false := by simp; omega
    have HF := hide hout
    clear hout
    have C0 := hide c0
    clear c0
    go_enter Try.func20, Try.ntmps20
    go_wp2_with (go_at_call 30; refine (refshape_any _ _).mono ?_; rintro e w2 ⟨rfl, rfl⟩; rw [H.out])
    refine bodyPost_ret (v := .tuple #[insV (n / 67108864) (n / 2097152 % 32) (0) (0) (n % 65536), .int .i64 0]) (by simp [results, Try.results20, go_sem, C0.out]) rfl ⟨by rw [HF.out], ?_⟩
    exact ((Chg.refl _ _).alloc _).alloc _

set_option maxHeartbeats 2000000 in
theorem refdecode_dau (n : Int) (w : World) (hn0 : 0 ≤ n) (hn1 : n ≤ 4294967295) (h : shp (n / 67108864) = [100, 97, 45, 117]) :
    Calls Try.prog 20 #[.int .u32 n] w fun e w' => e = .returned (decOut n 100 97 45 117) ∧ Chg w w' [] := by
  have H := hide h
  clear h
  have hout : decOut n 100 97 45 117 = .tuple #[insV (n / 67108864) (n / 2097152 % 32) (n / 65536 % 32) (0) (n % 65536), .int .i64 0] := decOut_good (by show fx 100 _ = _; unfold fx; rw [if_neg (by decide), if_neg (by decide)]) (by show fx 97 _ = _; unfold fx; rw [if_neg (by decide), if_neg (by decide)]) rfl (by show fx 117 _ = _; unfold fx; rw [if_neg (by decide), if_neg (by decide)]) (by rw [enc_eq]; omega)
  have HF := hide hout
  clear hout
  go_enter Try.func20, Try.ntmps20
  go_wp2_with (go_at_call 30; refine (refshape_any _ _).mono ?_; rintro e w2 ⟨rfl, rfl⟩; rw [H.out])
  refine bodyPost_ret (v := .tuple #[insV (n / 67108864) (n / 2097152 % 32) (n / 65536 % 32) (0) (n % 65536), .int .i64 0]) (by simp [results, Try.results20, go_sem]) rfl ⟨by rw [HF.out], ?_⟩
  exact ((Chg.refl _ _).alloc _).alloc _

set_option maxHeartbeats 2000000 in
theorem refdecode_u (n : Int) (w : World) (hn0 : 0 ≤ n) (hn1 : n ≤ 4294967295) (h : shp (n / 67108864) = [45, 45, 45, 117]) :
    Calls Try.prog 20 #[.int .u32 n] w fun e w' => e = .returned (decOut n 45 45 45 117) ∧ Chg w w' [] := by
  have H := hide h
  clear h
  rcases (Decidable.em (n / 2097152 % 32 = 0)).symm with c0 | c0
  · skip
    have hout : decOut n 45 45 45 117 = .tuple #[insV 0 0 0 0 0, .int .i64 3] := decOut_bad (x := 0) (y := 0) (z := 0) (u := n % 65536) rfl rfl rfl (by show fx 117 _ = _; unfold fx; rw [if_neg (by decide), if_neg (by decide)]) (by rw [enc_eq]; omega)
    have t0 : ((n / 2097152 % 32 : Int) != 0) = true := by simp; omega
    have HF := hide hout
    clear hout
    have C0 := hide c0
    clear c0
    go_enter Try.func20, Try.ntmps20
    go_wp2_with (go_at_call 30; refine (refshape_any _ _).mono ?_; rintro e w2 ⟨rfl, rfl⟩; rw [H.out])
    refine bodyPost_ret (v := .tuple #[insV 0 0 0 0 0, .int .i64 3]) (by simp [results, Try.results20, go_sem]) rfl ⟨by rw [HF.out], ?_⟩
    exact ((Chg.refl _ _).alloc _).alloc _
  rcases (Decidable.em (n / 65536 % 32 = 0)).symm with c1 | c1
  · skip
    have hout : decOut n 45 45 45 117 = .tuple #[insV 0 0 0 0 0, .int .i64 3] := decOut_bad (x := 0) (y := 0) (z := 0) (u := n % 65536) rfl rfl rfl (by show fx 117 _ = _; unfold fx; rw [if_neg (by decide), if_neg (by decide)]) (by rw [enc_eq]; omega)
    have t0 : ((n / 2097152 % 32 : Int) != 0) = false := by simp; omega
    have t1 : ((n / 65536 % 32 : Int) != 0) = true := by simp; omega
    have HF := hide hout
    clear hout
    have C0 := hide c0
    have C1 := hide c1
    clear c0 c1
    go_enter Try.func20, Try.ntmps20
    go_wp2_with (go_at_call 30; refine (refshape_any _ _).mono ?_; rintro e w2 ⟨rfl, rfl⟩; rw [H.out])
    refine bodyPost_ret (v := .tuple #[insV 0 0 0 0 0, .int .i64 3]) (by simp [results, Try.results20, go_sem]) rfl ⟨by rw [HF.out], ?_⟩
    exact ((Chg.refl _ _).alloc _).alloc _
  · skip
    have hout : decOut n 45 45 45 117 = .tuple #[insV (n / 67108864) (0) (0) (0) (n % 65536), .int .i64 0] := decOut_good rfl rfl rfl (by show fx 117 _ = _; unfold fx; rw [if_neg (by decide), if_neg (by decide)]) (by rw [enc_eq]; omega)
    have t0 : ((n / 2097152 % 32 : Int) != 0) = false := by simp; omega
    have t1 : ((n / 65536 % 32 : Int) != 0) = false := by simp; omega
    have HF := hide hout
    clear hout
    have C0 := hide c0
    have C1 := hide c1
    clear c0 c1
    go_enter Try.func20, Try.ntmps20
    go_wp2_with (go_at_call 30; refine (refshape_any _ _).mono ?_; rintro e w2 ⟨rfl, rfl⟩; rw [H.out])
    refine bodyPost_ret (v := .tuple #[insV (n / 67108864) (0) (0) (0) (n % 65536), .int .i64 0]) (by simp [results, Try.results20, go_sem, C0.out, C1.out]) rfl ⟨by rw [HF.out], ?_⟩
    exact ((Chg.refl _ _).alloc _).alloc _

set_option maxHeartbeats 2000000 in
theorem refdecode_a (n : Int) (w : World) (hn0 : 0 ≤ n) (hn1 : n ≤ 4294967295) (h : shp (n / 67108864) = [45, 97, 45, 45]) :
    Calls Try.prog 20 #[.int .u32 n] w fun e w' => e = .returned (decOut n 45 97 45 45) ∧ Chg w w' [] := by
  have H := hide h
  clear h
  rcases (Decidable.em (n % 65536 = 0)).symm with c0 | c0
  · skip
    have hout : decOut n 45 97 45 45 = .tuple #[insV 0 0 0 0 0, .int .i64 3] := decOut_bad (x := 0) (y := n / 65536 % 32) (z := 0) (u := 0) rfl (by show fx 97 _ = _; unfold fx; rw [if_neg (by decide), if_neg (by decide)]) rfl rfl (by rw [enc_eq]; omega)
    have t0 : ((n % 65536 : Int) != 0) = true := by simp; omega
    have HF := hide hout
    clear hout
    have C0 := hide c0
    clear c0
    go_enter Try.func20, Try.ntmps20
    go_wp2_with (go_at_call 30; refine (refshape_any _ _).mono ?_; rintro e w2 ⟨rfl, rfl⟩; rw [H.out])
    refine bodyPost_ret (v := .tuple #[insV 0 0 0 0 0, .int .i64 3]) (by simp [results, Try.results20, go_sem]) rfl ⟨by rw [HF.out], ?_⟩
    exact ((Chg.refl _ _).alloc _).alloc _
  rcases (Decidable.em (n / 2097152 % 32 = 0)).symm with c1 | c1
  · skip
    have hout : decOut n 45 97 45 45 = .tuple #[insV 0 0 0 0 0, .int .i64 3] := decOut_bad (x := 0) (y := n / 65536 % 32) (z := 0) (u := 0) rfl (by show fx 97 _ = _; unfold fx; rw [if_neg (by decide), if_neg (by decide)]) rfl rfl (by rw [enc_eq]; omega)
    have t0 : ((n % 65536 : Int) != 0) = false := by simp; omega
    have t1 : ((n / 2097152 % 32 : Int) != 0) = true := by simp; omega
    have HF := hide hout
    clear hout
    have C0 := hide c0
    have C1 := hide c1
    clear c0 c1
    go_enter Try.func20, Try.ntmps20
    go_wp2_with (go_at_call 30; refine (refshape_any _ _).mono ?_; rintro e w2 ⟨rfl, rfl⟩; rw [H.out])
    refine bodyPost_ret (v := .tuple #[insV 0 0 0 0 0, .int .i64 3]) (by simp [results, Try.results20, go_sem]) rfl ⟨by rw [HF.out], ?_⟩
    exact ((Chg.refl _ _).alloc _).alloc _
  · skip
    have hout : decOut n 45 97 45 45 = .tuple #[insV (n / 67108864) (0) (n / 65536 % 32) (0) (0), .int .i64 0] := decOut_good rfl (by show fx 97 _ = _; unfold fx; rw [if_neg (by decide), if_neg (by decide)]) rfl rfl (by rw [enc_eq]; omega)
    have t0 : ((n % 65536 : Int) != 0) = false := by simp; omega
    have t1 : ((n / 2097152 % 32 : Int) != 0) = false := by simp; omega
    have HF := hide hout
    clear hout
    have C0 := hide c0
    have C1 := hide c1
    clear c0 c1
    go_enter Try.func20, Try.ntmps20
    go_wp2_with (go_at_call 30; refine (refshape_any _ _).mono ?_; rintro e w2 ⟨rfl, rfl⟩; rw [H.out])
    refine bodyPost_ret (v := .tuple #[insV (n / 67108864) (0) (n / 65536 % 32) (0) (0), .int .i64 0]) (by simp [results, Try.results20, go_sem, C1.out]) rfl ⟨by rw [HF.out], ?_⟩
    exact ((Chg.refl _ _).alloc _).alloc _

set_option maxHeartbeats 2000000 in
theorem refdecode_none4 (n : Int) (w : World) (hn0 : 0 ≤ n) (hn1 : n ≤ 4294967295) (h : shp (n / 67108864) = [45, 45, 45, 45]) :
    Calls Try.prog 20 #[.int .u32 n] w fun e w' => e = .returned (decOut n 45 45 45 45) ∧ Chg w w' [] := by
  have H := hide h
  clear h
  rcases (Decidable.em (n % 65536 = 0)).symm with c0 | c0
  · skip
    have hout : decOut n 45 45 45 45 = .tuple #[insV 0 0 0 0 0, .int .i64 3] := decOut_bad (x := 0) (y := 0) (z := 0) (u := 0) rfl rfl rfl rfl (by rw [enc_eq]; omega)
    have t0 : ((n % 65536 : Int) != 0) = true := by simp; omega
    have HF := hide hout
    clear hout
    have C0 := hide c0
    clear c0
    go_enter Try.func20, Try.ntmps20
    go_wp2_with (go_at_call 30; refine (refshape_any _ _).mono ?_; rintro e w2 ⟨rfl, rfl⟩; rw [H.out])
    refine bodyPost_ret (v := .tuple #[insV 0 0 0 0 0, .int .i64 3]) (by simp [results, Try.results20, go_sem]) rfl ⟨by rw [HF.out], ?_⟩
    exact ((Chg.refl _ _).alloc _).alloc _
  rcases (Decidable.em (n / 2097152 % 32 = 0)).symm with c1 | c1
  · skip
    have hout : decOut n 45 45 45 45 = .tuple #[insV 0 0 0 0 0, .int .i64 3] := decOut_bad (x := 0) (y := 0) (z := 0) (u := 0) rfl rfl rfl rfl (by rw [enc_eq]; omega)
    have t0 : ((n % 65536 : Int) != 0) = false := by simp; omega
    have t1 : ((n / 2097152 % 32 : Int) != 0) = true := by simp; omega
    have HF := hide hout
    clear hout
    have C0 := hide c0
    have C1 := hide c1
    clear c0 c1
    go_enter Try.func20, Try.ntmps20
    go_wp2_with (go_at_call 30; refine (refshape_any _ _).mono ?_; rintro e w2 ⟨rfl, rfl⟩; rw [H.out])
    refine bodyPost_ret (v := .tuple #[insV 0 0 0 0 0, .int .i64 3]) (by simp [results, Try.results20, go_sem]) rfl ⟨by rw [HF.out], ?_⟩
    exact ((Chg.refl _ _).alloc _).alloc _
  rcases (Decidable.em (n / 65536 % 32 = 0)).symm with c2 | c2
  · skip
    have hout : decOut n 45 45 45 45 = .tuple #[insV 0 0 0 0 0, .int .i64 3] := decOut_bad (x := 0) (y := 0) (z := 0) (u := 0) rfl rfl rfl rfl (by rw [enc_eq]; omega)
    have t0 : ((n % 65536 : Int) != 0) = false := by simp; omega
    have t1 : ((n / 2097152 % 32 : Int) != 0) = false := by simp; omega
    have t2 : ((n / 65536 % 32 : Int) != 0) = true := by simp; omega
    have HF := hide hout
    clear hout
    have C0 := hide c0
    have C1 := hide c1
    have C2 := hide c2
    clear c0 c1 c2
    go_enter Try.func20, Try.ntmps20
    go_wp2_with (go_at_call 30; refine (refshape_any _ _).mono ?_; rintro e w2 ⟨rfl, rfl⟩; rw [H.out])
    refine bodyPost_ret (v := .tuple #[insV 0 0 0 0 0, .int .i64 3]) (by simp [results, Try.results20, go_sem]) rfl ⟨by rw [HF.out], ?_⟩
    exact ((Chg.refl _ _).alloc _).alloc _
  · skip
    have hout : decOut n 45 45 45 45 = .tuple #[insV (n / 67108864) (0) (0) (0) (0), .int .i64 0] := decOut_good rfl rfl rfl rfl (by rw [enc_eq]; omega)
    have t0 : ((n % 65536 : Int) != 0) = false := by simp; omega
    have t1 : ((n / 2097152 % 32 : Int) != 0) = false := by simp; omega
    have t2 : ((n / 65536 % 32 : Int) != 0) = false := by simp; omega
    have HF := hide hout
    clear hout
    have C0 := hide c0
    have C1 := hide c1
    have C2 := hide c2
    clear c0 c1 c2
    go_enter Try.func20, Try.ntmps20
    go_wp2_with (go_at_call 30; refine (refshape_any _ _).mono ?_; rintro e w2 ⟨rfl, rfl⟩; rw [H.out])
    refine bodyPost_ret (v := .tuple #[insV (n / 67108864) (0) (0) (0) (0), .int .i64 0]) (by simp [results, Try.results20, go_sem, C1.out, C2.out]) rfl ⟨by rw [HF.out], ?_⟩
    exact ((Chg.refl _ _).alloc _).alloc _

/-- What Decode answers of any word. -/
def decAll (n : Int) : Value := match shp (n / 67108864) with
  | [a, b, c, d] => decOut n a b c d
  | _ => .tuple #[insV 0 0 0 0 0, .int .i64 2]

theorem decode_any (n : Int) (w : World) (hn0 : 0 ≤ n) (hn1 : n ≤ 4294967295) :
    Calls Try.prog 19 #[.int .u32 n] w fun e w' => e = .returned (decAll n) ∧ Chg w w' [] := by
  unfold decAll
  rcases shp_form (n / 67108864) with h | ⟨a, b, c, d, h⟩
  · rw [h]; exact decode_none n w hn0 hn1 h
  · rw [h]; exact decode_some n a b c d w hn0 hn1 h
theorem refdecode_any (n : Int) (w : World) (hn0 : 0 ≤ n) (hn1 : n ≤ 4294967295) :
    Calls Try.prog 20 #[.int .u32 n] w fun e w' => e = .returned (decAll n) ∧ Chg w w' [] := by
  unfold decAll
  rcases shp_cases (n / 67108864) with ⟨_, h⟩ | ⟨_, h⟩ | ⟨_, h⟩ | ⟨_, h⟩ | ⟨_, h⟩ | ⟨_, h⟩ | ⟨_, h⟩ | ⟨_, h⟩ | ⟨_, h⟩ | ⟨_, h⟩
  · rw [h]; exact refdecode_none n w hn0 hn1 h
  · rw [h]; exact refdecode_dab n w hn0 hn1 h
  · rw [h]; exact refdecode_da n w hn0 hn1 h
  · rw [h]; exact refdecode_das n w hn0 hn1 h
  · rw [h]; exact refdecode_du n w hn0 hn1 h
  · rw [h]; exact refdecode_du n w hn0 hn1 h
  · rw [h]; exact refdecode_dau n w hn0 hn1 h
  · rw [h]; exact refdecode_u n w hn0 hn1 h
  · rw [h]; exact refdecode_a n w hn0 hn1 h
  · rw [h]; exact refdecode_none4 n w hn0 hn1 h

end Go.Proofs.Ytidceolaemikgaa
