/- Plain laws: what is encoded is decoded to itself, and what is decoded is encoded to its word. -/
import Derived.Test.YtidceolaemikgaaCodeTells
namespace Go.Proofs.Ytidceolaemikgaa
open Go.RowKit Go.Deep
set_option linter.unusedVariables false

theorem dec_cases (n : Int) (h0 : 0 ≤ n) : (∃ e : Int, e ≠ 0 ∧ decAll n = .tuple #[insV 0 0 0 0 0, .int .i64 e]) ∨
    ∃ o x y z u, decAll n = .tuple #[insV o x y z u, .int .i64 0] ∧ chk o x y z u = 0 ∧ encK o x y z u 4 = n := by
  unfold decAll
  rcases shp_form (n / 67108864) with h | ⟨a, b, c, d, h⟩
  · rw [h]; exact .inl ⟨2, by omega, rfl⟩
  · rw [h]
    show (∃ e : Int, e ≠ 0 ∧ decOut n a b c d = _) ∨ ∃ o x y z u, decOut n a b c d = _ ∧ _
    by_cases hq : encK (n / 67108864) (dx n a) (dy n b) (dz n c) (du n d) 4 = n
    · exact .inr ⟨_, _, _, _, _, by unfold decOut; rw [if_pos hq], dec_chk h0 h, hq⟩
    · exact .inl ⟨3, by omega, by unfold decOut; rw [if_neg hq]⟩

theorem decAll_of {n op : Int} {a b c d : UInt8} {x y z u : Int} (ho : n / 67108864 = op) (h : shp op = [a, b, c, d]) (h1 : dx n a = x) (h2 : dy n b = y) (h3 : dz n c = z) (h4 : du n d = u) (he : encK op x y z u 4 = n) :
    decAll n = .tuple #[insV op x y z u, .int .i64 0] := by
  subst ho
  unfold decAll
  rw [h]
  exact decOut_good h1 h2 h3 h4 he

theorem dec_enc (op x y z u : Int) (h : Fits op x y z u) : decAll (encK op x y z u 4) = .tuple #[insV op x y z u, .int .i64 0] := by
  have hb := fits_bounds h
  have hE : encK op x y z u 4 = op * 67108864 + x * 2097152 + y * 65536 + z * 2048 + u % 65536 := rfl
  generalize hn : encK op x y z u 4 = n at *
  have hop : n / 67108864 = op := by omega
  unfold Fits regOk at h
  rcases h with h | h | h | h | h | h | h | h
  · have hs : shp op = [100, 97, 98, 45] := by
      rcases shp_cases op with ⟨g, e⟩ | ⟨g, e⟩ | ⟨g, e⟩ | ⟨g, e⟩ | ⟨g, e⟩ | ⟨g, e⟩ | ⟨g, e⟩ | ⟨g, e⟩ | ⟨g, e⟩ | ⟨g, e⟩ <;> first | (rw [e]; done) | (exfalso; omega)
    exact decAll_of hop hs (by show fx 100 _ = _; unfold fx; rw [if_neg (by decide), if_neg (by decide)]; omega) (by show fx 97 _ = _; unfold fx; rw [if_neg (by decide), if_neg (by decide)]; omega) (by show fx 98 _ = _; unfold fx; rw [if_neg (by decide), if_neg (by decide)]; omega) (by show fx 45 _ = _; unfold fx; rw [if_pos rfl]; omega) hn
  · have hs : shp op = [100, 97, 45, 45] := by
      rcases shp_cases op with ⟨g, e⟩ | ⟨g, e⟩ | ⟨g, e⟩ | ⟨g, e⟩ | ⟨g, e⟩ | ⟨g, e⟩ | ⟨g, e⟩ | ⟨g, e⟩ | ⟨g, e⟩ | ⟨g, e⟩ <;> first | (rw [e]; done) | (exfalso; omega)
    exact decAll_of hop hs (by show fx 100 _ = _; unfold fx; rw [if_neg (by decide), if_neg (by decide)]; omega) (by show fx 97 _ = _; unfold fx; rw [if_neg (by decide), if_neg (by decide)]; omega) (by show fx 45 _ = _; unfold fx; rw [if_pos rfl]; omega) (by show fx 45 _ = _; unfold fx; rw [if_pos rfl]; omega) hn
  · have hs : shp op = [100, 97, 45, 115] := by
      rcases shp_cases op with ⟨g, e⟩ | ⟨g, e⟩ | ⟨g, e⟩ | ⟨g, e⟩ | ⟨g, e⟩ | ⟨g, e⟩ | ⟨g, e⟩ | ⟨g, e⟩ | ⟨g, e⟩ | ⟨g, e⟩ <;> first | (rw [e]; done) | (exfalso; omega)
    exact decAll_of hop hs (by show fx 100 _ = _; unfold fx; rw [if_neg (by decide), if_neg (by decide)]; omega) (by show fx 97 _ = _; unfold fx; rw [if_neg (by decide), if_neg (by decide)]; omega) (by show fx 45 _ = _; unfold fx; rw [if_pos rfl]; omega) (by show fx 115 _ = _; unfold fx; rw [if_neg (by decide), if_pos rfl, i16_wrap]; omega) hn
  · have hs : shp op = [100, 45, 45, 117] := by
      rcases shp_cases op with ⟨g, e⟩ | ⟨g, e⟩ | ⟨g, e⟩ | ⟨g, e⟩ | ⟨g, e⟩ | ⟨g, e⟩ | ⟨g, e⟩ | ⟨g, e⟩ | ⟨g, e⟩ | ⟨g, e⟩ <;> first | (rw [e]; done) | (exfalso; omega)
    exact decAll_of hop hs (by show fx 100 _ = _; unfold fx; rw [if_neg (by decide), if_neg (by decide)]; omega) (by show fx 45 _ = _; unfold fx; rw [if_pos rfl]; omega) (by show fx 45 _ = _; unfold fx; rw [if_pos rfl]; omega) (by show fx 117 _ = _; unfold fx; rw [if_neg (by decide), if_neg (by decide)]; omega) hn
  · have hs : shp op = [100, 97, 45, 117] := by
      rcases shp_cases op with ⟨g, e⟩ | ⟨g, e⟩ | ⟨g, e⟩ | ⟨g, e⟩ | ⟨g, e⟩ | ⟨g, e⟩ | ⟨g, e⟩ | ⟨g, e⟩ | ⟨g, e⟩ | ⟨g, e⟩ <;> first | (rw [e]; done) | (exfalso; omega)
    exact decAll_of hop hs (by show fx 100 _ = _; unfold fx; rw [if_neg (by decide), if_neg (by decide)]; omega) (by show fx 97 _ = _; unfold fx; rw [if_neg (by decide), if_neg (by decide)]; omega) (by show fx 45 _ = _; unfold fx; rw [if_pos rfl]; omega) (by show fx 117 _ = _; unfold fx; rw [if_neg (by decide), if_neg (by decide)]; omega) hn
  · have hs : shp op = [45, 45, 45, 117] := by
      rcases shp_cases op with ⟨g, e⟩ | ⟨g, e⟩ | ⟨g, e⟩ | ⟨g, e⟩ | ⟨g, e⟩ | ⟨g, e⟩ | ⟨g, e⟩ | ⟨g, e⟩ | ⟨g, e⟩ | ⟨g, e⟩ <;> first | (rw [e]; done) | (exfalso; omega)
    exact decAll_of hop hs (by show fx 45 _ = _; unfold fx; rw [if_pos rfl]; omega) (by show fx 45 _ = _; unfold fx; rw [if_pos rfl]; omega) (by show fx 45 _ = _; unfold fx; rw [if_pos rfl]; omega) (by show fx 117 _ = _; unfold fx; rw [if_neg (by decide), if_neg (by decide)]; omega) hn
  · have hs : shp op = [45, 97, 45, 45] := by
      rcases shp_cases op with ⟨g, e⟩ | ⟨g, e⟩ | ⟨g, e⟩ | ⟨g, e⟩ | ⟨g, e⟩ | ⟨g, e⟩ | ⟨g, e⟩ | ⟨g, e⟩ | ⟨g, e⟩ | ⟨g, e⟩ <;> first | (rw [e]; done) | (exfalso; omega)
    exact decAll_of hop hs (by show fx 45 _ = _; unfold fx; rw [if_pos rfl]; omega) (by show fx 97 _ = _; unfold fx; rw [if_neg (by decide), if_neg (by decide)]; omega) (by show fx 45 _ = _; unfold fx; rw [if_pos rfl]; omega) (by show fx 45 _ = _; unfold fx; rw [if_pos rfl]; omega) hn
  · have hs : shp op = [45, 45, 45, 45] := by
      rcases shp_cases op with ⟨g, e⟩ | ⟨g, e⟩ | ⟨g, e⟩ | ⟨g, e⟩ | ⟨g, e⟩ | ⟨g, e⟩ | ⟨g, e⟩ | ⟨g, e⟩ | ⟨g, e⟩ | ⟨g, e⟩ <;> first | (rw [e]; done) | (exfalso; omega)
    exact decAll_of hop hs (by show fx 45 _ = _; unfold fx; rw [if_pos rfl]; omega) (by show fx 45 _ = _; unfold fx; rw [if_pos rfl]; omega) (by show fx 45 _ = _; unfold fx; rw [if_pos rfl]; omega) (by show fx 45 _ = _; unfold fx; rw [if_pos rfl]; omega) hn

theorem encV_of {op x y z u : Int} (h : chk op x y z u = 0) : encV op x y z u = encK op x y z u 4 := by unfold encV; rw [if_pos h]
theorem dec_encV {op x y z u : Int} (h : chk op x y z u = 0) : decAll (encV op x y z u) = .tuple #[insV op x y z u, .int .i64 0] := by
  rw [encV_of h]; exact dec_enc op x y z u ((chk_iff op x y z u).1 h)
theorem enc_inj {op x y z u op' x' y' z' u' : Int} (h : chk op x y z u = 0) (h' : chk op' x' y' z' u' = 0) (he : encV op x y z u = encV op' x' y' z' u') : op = op' ∧ x = x' ∧ y = y' ∧ z = z' ∧ u = u' := by
  have h1 := dec_encV h
  rw [he, dec_encV h'] at h1
  simp at h1
  omega

end Go.Proofs.Ytidceolaemikgaa
