/- The walks of the laws of layer 13: awake, CodeTells, CodeBack, CodeApart. -/
import Derived.Test.YtidceolaemikgaaRefDecode
import Derived.Laws.StructEq
namespace Go.Proofs.Ytidceolaemikgaa
open Go.RowKit Go.Deep
set_option linter.unusedVariables false

/-- What Encode answers of any instruction. -/
def encV (op x y z u : Int) : Int := if chk op x y z u = 0 then encK op x y z u 4 else 0
theorem encode_any (op x y z u : Int) (w : World) :
    Calls Try.prog 17 #[insV op x y z u] w fun e w' => e = .returned (.tuple #[.int .u32 (encV op x y z u), .int .i64 (chk op x y z u)]) ∧ Chg w w' [] := by
  unfold encV
  by_cases h : chk op x y z u = 0
  · rw [if_pos h, h]; exact encode_good op x y z u w h
  · rw [if_neg h]; exact encode_bad op x y z u w h
theorem refencode_any (op x y z u : Int) (w : World) :
    Calls Try.prog 18 #[insV op x y z u] w fun e w' => e = .returned (.tuple #[.int .u32 (encV op x y z u), .int .i64 (chk op x y z u)]) ∧ Chg w w' [] := by
  unfold encV
  by_cases h : chk op x y z u = 0
  · rw [if_pos h, h]; exact refencode_good op x y z u w h
  · rw [if_neg h]; exact refencode_bad op x y z u w h
theorem encV_range (op x y z u : Int) : 0 ≤ encV op x y z u ∧ encV op x y z u ≤ 4294967295 := by
  unfold encV
  split
  · rename_i h
    obtain ⟨a, b, c, d, e, f⟩ := fits_bounds ((chk_iff op x y z u).1 h)
    show 0 ≤ op * 67108864 + x * 2097152 + y * 65536 + z * 2048 + u % 65536 ∧ _ ≤ 4294967295
    show 0 ≤ op * 67108864 + x * 2097152 + y * 65536 + z * 2048 + u % 65536 ∧ op * 67108864 + x * 2097152 + y * 65536 + z * 2048 + u % 65536 ≤ 4294967295
    omega
  · omega
theorem decAll_form (n : Int) : ∃ o x y z u e, decAll n = .tuple #[insV o x y z u, .int .i64 e] := by
  unfold decAll
  split
  · unfold decOut; split
    · exact ⟨_, _, _, _, _, _, rfl⟩
    · exact ⟨_, _, _, _, _, _, rfl⟩
  · exact ⟨_, _, _, _, _, _, rfl⟩

theorem ex13a : encV 31 1 2 0 (-1) = 2082668543 := by decide
theorem ex13b : chk 31 1 2 0 (-1) = 0 := by decide
theorem ex13c : decAll 0 = .tuple #[insV 0 0 0 0 0, .int .i64 2] := by rfl
theorem ex13d : decAll 2082668543 = .tuple #[insV 31 1 2 0 (-1), .int .i64 0] := by rfl

set_option maxHeartbeats 1000000 in
theorem awake13 (w : World) : Calls Try.prog 23 #[] w fun e w' => e = .returned (.bool true) ∧ Chg w w' [] := by
  go_enter Try.func23, Try.ntmps23
  go_wp2_with fail
  refine (encode_any 31 1 2 0 (-1) _).mono ?_
  rintro e w1 ⟨he, hc1⟩
  rw [ex13a, ex13b] at he
  subst he
  go_wp2_with fail
  refine (decode_any 2082668543 _ (by omega) (by omega)).mono ?_
  rintro e w2 ⟨he, hc2⟩
  rw [ex13d] at he
  subst he
  go_wp2_with fail
  have hc := hc1.trans hc2 (by simp)
  have hb := Blk.new w2 43 (insC 31 1 2 0 (-1))
  have hc := hc.alloc (.cells (insC 31 1 2 0 (-1)).toArray 43)
  generalize w2.heap.size = q at *
  generalize w2.alloc (.cells #[.int .i64 31, .int .i64 1, .int .i64 2, .int .i64 0, .int .i64 (-1)] 43) = w3 at *
  refine (decode_any 0 _ (by omega) (by omega)).mono ?_
  rintro e w4 ⟨he, hc4⟩
  rw [ex13c] at he
  subst he
  replace hb := hb.chg hc4 (by simp)
  have c0 := hb.cell' (i := 0) rfl
  have c1 := hb.cell' (i := 1) rfl
  have c2 := hb.cell' (i := 2) rfl
  have c3 := hb.cell' (i := 3) rfl
  have c4 := hb.cell' (i := 4) rfl
  have hl := hb.lt
  replace hc := hc.trans hc4 (by simp)
  clear hb hc4 hc1 hc2
  go_wp2_with fail
  go_ret
  exact ⟨rfl, hc.alloc _⟩

theorem keep5 {w w' : World} {b : Nat} {v0 v1 v2 v3 v4 : Value} {D : List Nat} (hc : Chg w w' D) (hb : b ∉ D)
    (h : w.cell? ⟨b, 0, none⟩ = some v0 ∧ w.cell? ⟨b, 1, none⟩ = some v1 ∧ w.cell? ⟨b, 2, none⟩ = some v2 ∧ w.cell? ⟨b, 3, none⟩ = some v3 ∧ w.cell? ⟨b, 4, none⟩ = some v4) :
    w'.cell? ⟨b, 0, none⟩ = some v0 ∧ w'.cell? ⟨b, 1, none⟩ = some v1 ∧ w'.cell? ⟨b, 2, none⟩ = some v2 ∧ w'.cell? ⟨b, 3, none⟩ = some v3 ∧ w'.cell? ⟨b, 4, none⟩ = some v4 :=
  ⟨hc.cell h.1 hb, hc.cell h.2.1 hb, hc.cell h.2.2.1 hb, hc.cell h.2.2.2.1 hb, hc.cell h.2.2.2.2 hb⟩
theorem blk5 {w : World} {b t : Nat} {v0 v1 v2 v3 v4 : Value} (h : Blk w b t [v0, v1, v2, v3, v4]) :
    w.cell? ⟨b, 0, none⟩ = some v0 ∧ w.cell? ⟨b, 1, none⟩ = some v1 ∧ w.cell? ⟨b, 2, none⟩ = some v2 ∧ w.cell? ⟨b, 3, none⟩ = some v3 ∧ w.cell? ⟨b, 4, none⟩ = some v4 :=
  ⟨h.cell' rfl, h.cell' rfl, h.cell' rfl, h.cell' rfl, h.cell' rfl⟩

theorem keep555 {w0 w1 w2 : World} {a b c : Nat} {p0 p1 p2 p3 p4 q0 q1 q2 q3 q4 r0 r1 r2 r3 r4 : Value} (hc : Chg w1 w2 []) (h : Chg w0 w1 [] ∧ (w1.cell? ⟨a, 0, none⟩ = some p0 ∧ w1.cell? ⟨a, 1, none⟩ = some p1 ∧ w1.cell? ⟨a, 2, none⟩ = some p2 ∧ w1.cell? ⟨a, 3, none⟩ = some p3 ∧ w1.cell? ⟨a, 4, none⟩ = some p4) ∧ (w1.cell? ⟨b, 0, none⟩ = some q0 ∧ w1.cell? ⟨b, 1, none⟩ = some q1 ∧ w1.cell? ⟨b, 2, none⟩ = some q2 ∧ w1.cell? ⟨b, 3, none⟩ = some q3 ∧ w1.cell? ⟨b, 4, none⟩ = some q4) ∧ (w1.cell? ⟨c, 0, none⟩ = some r0 ∧ w1.cell? ⟨c, 1, none⟩ = some r1 ∧ w1.cell? ⟨c, 2, none⟩ = some r2 ∧ w1.cell? ⟨c, 3, none⟩ = some r3 ∧ w1.cell? ⟨c, 4, none⟩ = some r4)) : Chg w0 w2 [] ∧ (w2.cell? ⟨a, 0, none⟩ = some p0 ∧ w2.cell? ⟨a, 1, none⟩ = some p1 ∧ w2.cell? ⟨a, 2, none⟩ = some p2 ∧ w2.cell? ⟨a, 3, none⟩ = some p3 ∧ w2.cell? ⟨a, 4, none⟩ = some p4) ∧ (w2.cell? ⟨b, 0, none⟩ = some q0 ∧ w2.cell? ⟨b, 1, none⟩ = some q1 ∧ w2.cell? ⟨b, 2, none⟩ = some q2 ∧ w2.cell? ⟨b, 3, none⟩ = some q3 ∧ w2.cell? ⟨b, 4, none⟩ = some q4) ∧ (w2.cell? ⟨c, 0, none⟩ = some r0 ∧ w2.cell? ⟨c, 1, none⟩ = some r1 ∧ w2.cell? ⟨c, 2, none⟩ = some r2 ∧ w2.cell? ⟨c, 3, none⟩ = some r3 ∧ w2.cell? ⟨c, 4, none⟩ = some r4) :=
  ⟨h.1.trans hc (by simp), keep5 hc (by simp) h.2.1, keep5 hc (by simp) h.2.2.1, keep5 hc (by simp) h.2.2.2⟩
theorem keep_5 {w0 w1 w2 : World} {a : Nat} {p0 p1 p2 p3 p4 : Value} (hc : Chg w1 w2 []) (h : Chg w0 w1 [] ∧ (w1.cell? ⟨a, 0, none⟩ = some p0 ∧ w1.cell? ⟨a, 1, none⟩ = some p1 ∧ w1.cell? ⟨a, 2, none⟩ = some p2 ∧ w1.cell? ⟨a, 3, none⟩ = some p3 ∧ w1.cell? ⟨a, 4, none⟩ = some p4)) : Chg w0 w2 [] ∧ (w2.cell? ⟨a, 0, none⟩ = some p0 ∧ w2.cell? ⟨a, 1, none⟩ = some p1 ∧ w2.cell? ⟨a, 2, none⟩ = some p2 ∧ w2.cell? ⟨a, 3, none⟩ = some p3 ∧ w2.cell? ⟨a, 4, none⟩ = some p4) :=
  ⟨h.1.trans hc (by simp), keep5 hc (by simp) h.2⟩

set_option maxRecDepth 100000 in
set_option maxHeartbeats 2000000 in
theorem codetells_any (op x y z u n : Int) (w : World) (hn0 : 0 ≤ n) (hn1 : n ≤ 4294967295) :
    Calls Try.prog 5 #[insV op x y z u, .int .u32 n] w fun e w' => e = .returned (.bool true) ∧ Chg w w' [] := by
  have hb0 := Blk.new w 43 (insC op x y z u)
  have hc0 := (Chg.refl w []).alloc (.cells (insC op x y z u).toArray 43)
  obtain ⟨o, x', y', z', u', e', hd⟩ := decAll_form n
  have HD := hide hd
  clear hd
  have hEE : (encV op x y z u == encV op x y z u) = true := by simp
  have hcc : (chk op x y z u == chk op x y z u) = true := by simp
  have hee : (e' == e') = true := by simp
  have HE : Hid (encV op x y z u = encV op x y z u) := rfl
  obtain ⟨E, hE⟩ : ∃ E, encV op x y z u = E := ⟨_, rfl⟩
  obtain ⟨K, hK⟩ : ∃ K, chk op x y z u = K := ⟨_, rfl⟩
  rw [hE] at hEE
  rw [hK] at hcc
  replace hE := hide hE
  replace hK := hide hK
  go_enter Try.func5, Try.ntmps5
  go_wp2_with fail
  generalize w.heap.size = b at *
  generalize w.alloc (.cells #[.int .i64 op, .int .i64 x, .int .i64 y, .int .i64 z, .int .i64 u] 43) = w0 at *
  refine (encode_any op x y z u _).mono ?_
  rintro e w1 ⟨he, hc1⟩
  rw [hE.out, hK.out] at he
  subst he
  replace hb0 := hb0.chg hc1 (by simp)
  replace hc0 := hc0.trans hc1 (by simp)
  clear hc1
  have s0 := blk5 hb0
  go_wp2_with fail
  refine (refencode_any op x y z u _).mono ?_
  rintro e w2 ⟨he, hc1⟩
  rw [hE.out, hK.out] at he
  subst he
  replace hb0 := hb0.chg hc1 (by simp)
  replace hc0 := hc0.trans hc1 (by simp)
  clear hc1 s0
  go_wp2_with fail
  refine (decode_any n _ hn0 hn1).mono ?_
  rintro e w3 ⟨he, hc1⟩
  rw [HD.out] at he
  subst he
  replace hb0 := (hb0.chg hc1 (by simp)).alloc (.cells (insC o x' y' z' u').toArray 43)
  replace hc0 := (hc0.trans hc1 (by simp)).alloc (.cells (insC o x' y' z' u').toArray 43)
  have hb1 := Blk.new w3 43 (insC o x' y' z' u')
  clear hc1
  go_wp2_with fail
  generalize w3.heap.size = b1 at *
  generalize w3.alloc (.cells #[.int .i64 o, .int .i64 x', .int .i64 y', .int .i64 z', .int .i64 u'] 43) = w4 at *
  refine (refdecode_any n _ hn0 hn1).mono ?_
  rintro e w5 ⟨he, hc1⟩
  rw [HD.out] at he
  subst he
  replace hb0 := (hb0.chg hc1 (by simp)).alloc (.cells (insC o x' y' z' u').toArray 43)
  replace hb1 := (hb1.chg hc1 (by simp)).alloc (.cells (insC o x' y' z' u').toArray 43)
  replace hc0 := (hc0.trans hc1 (by simp)).alloc (.cells (insC o x' y' z' u').toArray 43)
  have hb2 := Blk.new w5 43 (insC o x' y' z' u')
  clear hc1
  go_wp2_with fail
  generalize w5.heap.size = b2 at *
  generalize w5.alloc (.cells #[.int .i64 o, .int .i64 x', .int .i64 y', .int .i64 z', .int .i64 u'] 43) = w6 at *
  have g0 := blk5 hb0
  have g1 := blk5 hb1
  have g2 := blk5 hb2
  have HC := hide hc0
  clear hb0 hb1 hb2 hc0
  have kC : Hid (∀ W : World, Calls Try.prog 21 #[insV op x y z u] W fun e w' => e = .returned (.int .i64 K) ∧ Chg W w' []) := fun W => by
    have := check_any op x y z u W
    rwa [hK.out] at this
  have kR : Hid (∀ W : World, Calls Try.prog 22 #[insV op x y z u] W fun e w' => e = .returned (.int .i64 K) ∧ Chg W w' []) := fun W => by
    have := refcheck_any op x y z u W
    rwa [hK.out] at this
  go_region_held3 (fun w' => Chg w6 w' [] ∧ (w'.cell? ⟨b, 0, none⟩ = some (.int .i64 op) ∧ w'.cell? ⟨b, 1, none⟩ = some (.int .i64 x) ∧ w'.cell? ⟨b, 2, none⟩ = some (.int .i64 y) ∧ w'.cell? ⟨b, 3, none⟩ = some (.int .i64 z) ∧ w'.cell? ⟨b, 4, none⟩ = some (.int .i64 u)) ∧ (w'.cell? ⟨b1, 0, none⟩ = some (.int .i64 o) ∧ w'.cell? ⟨b1, 1, none⟩ = some (.int .i64 x') ∧ w'.cell? ⟨b1, 2, none⟩ = some (.int .i64 y') ∧ w'.cell? ⟨b1, 3, none⟩ = some (.int .i64 z') ∧ w'.cell? ⟨b1, 4, none⟩ = some (.int .i64 u')) ∧ (w'.cell? ⟨b2, 0, none⟩ = some (.int .i64 o) ∧ w'.cell? ⟨b2, 1, none⟩ = some (.int .i64 x') ∧ w'.cell? ⟨b2, 2, none⟩ = some (.int .i64 y') ∧ w'.cell? ⟨b2, 3, none⟩ = some (.int .i64 z') ∧ w'.cell? ⟨b2, 4, none⟩ = some (.int .i64 u')))
    (first | exact ⟨(Chg.refl w6 []).drew, g0, g1, g2⟩ | exact keep555 hcX (by assumption))
    (first | (go_at_call 21; refine (kC.out _).mono ?_; rintro e w7 ⟨rfl, hcX⟩) | (go_at_call 22; refine (kR.out _).mono ?_; rintro e w7 ⟨rfl, hcX⟩) | (go_at_call 23; refine (awake13 _).mono ?_; rintro e w7 ⟨rfl, hcX⟩))
  have hlast := ‹Chg w6 _ [] ∧ _›
  go_wp2
  go_ret
  exact ⟨rfl, HC.out.trans hlast.1 (by simp)⟩

end Go.Proofs.Ytidceolaemikgaa
