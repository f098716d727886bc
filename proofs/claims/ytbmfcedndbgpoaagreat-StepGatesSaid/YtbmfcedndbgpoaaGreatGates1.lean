/- StepGates, walked: each way through its gates. -/
import Derived.Test.YtbmfcedndbgpoaaGreatGateFree
import Derived.Test.YtbmfcedndbgpoaaGreatArrEq
import Derived.Test.YtbmfcedndbgpoaaGreatAwake34
namespace Go.Proofs.YtbmfcedndbgpoaaGreat
open Go.RowKit Go.Deep
set_option linter.unusedVariables false
theorem keep17 {w w' : World} (h : Chg w w' []) {p0 p1 p2 p3 p4 p5 p6 p7 p8 p9 p10 p11 p12 p13 p14 p15 p16 : Addr} {v0 v1 v2 v3 v4 v5 v6 v7 v8 v9 v10 v11 v12 v13 v14 v15 v16 : Value} (h0 : w.cell? p0 = some v0) (h1 : w.cell? p1 = some v1) (h2 : w.cell? p2 = some v2) (h3 : w.cell? p3 = some v3) (h4 : w.cell? p4 = some v4) (h5 : w.cell? p5 = some v5) (h6 : w.cell? p6 = some v6) (h7 : w.cell? p7 = some v7) (h8 : w.cell? p8 = some v8) (h9 : w.cell? p9 = some v9) (h10 : w.cell? p10 = some v10) (h11 : w.cell? p11 = some v11) (h12 : w.cell? p12 = some v12) (h13 : w.cell? p13 = some v13) (h14 : w.cell? p14 = some v14) (h15 : w.cell? p15 = some v15) (h16 : w.cell? p16 = some v16) : w'.cell? p0 = some v0 ∧ w'.cell? p1 = some v1 ∧ w'.cell? p2 = some v2 ∧ w'.cell? p3 = some v3 ∧ w'.cell? p4 = some v4 ∧ w'.cell? p5 = some v5 ∧ w'.cell? p6 = some v6 ∧ w'.cell? p7 = some v7 ∧ w'.cell? p8 = some v8 ∧ w'.cell? p9 = some v9 ∧ w'.cell? p10 = some v10 ∧ w'.cell? p11 = some v11 ∧ w'.cell? p12 = some v12 ∧ w'.cell? p13 = some v13 ∧ w'.cell? p14 = some v14 ∧ w'.cell? p15 = some v15 ∧ w'.cell? p16 = some v16 := ⟨h.cell h0 (by simp), h.cell h1 (by simp), h.cell h2 (by simp), h.cell h3 (by simp), h.cell h4 (by simp), h.cell h5 (by simp), h.cell h6 (by simp), h.cell h7 (by simp), h.cell h8 (by simp), h.cell h9 (by simp), h.cell h10 (by simp), h.cell h11 (by simp), h.cell h12 (by simp), h.cell h13 (by simp), h.cell h14 (by simp), h.cell h15 (by simp), h.cell h16 (by simp)⟩
theorem keep20 {w w' : World} (h : Chg w w' []) {p0 p1 p2 p3 p4 p5 p6 p7 p8 p9 p10 p11 p12 p13 p14 p15 p16 p17 p18 p19 : Addr} {v0 v1 v2 v3 v4 v5 v6 v7 v8 v9 v10 v11 v12 v13 v14 v15 v16 v17 v18 v19 : Value} (h0 : w.cell? p0 = some v0) (h1 : w.cell? p1 = some v1) (h2 : w.cell? p2 = some v2) (h3 : w.cell? p3 = some v3) (h4 : w.cell? p4 = some v4) (h5 : w.cell? p5 = some v5) (h6 : w.cell? p6 = some v6) (h7 : w.cell? p7 = some v7) (h8 : w.cell? p8 = some v8) (h9 : w.cell? p9 = some v9) (h10 : w.cell? p10 = some v10) (h11 : w.cell? p11 = some v11) (h12 : w.cell? p12 = some v12) (h13 : w.cell? p13 = some v13) (h14 : w.cell? p14 = some v14) (h15 : w.cell? p15 = some v15) (h16 : w.cell? p16 = some v16) (h17 : w.cell? p17 = some v17) (h18 : w.cell? p18 = some v18) (h19 : w.cell? p19 = some v19) : w'.cell? p0 = some v0 ∧ w'.cell? p1 = some v1 ∧ w'.cell? p2 = some v2 ∧ w'.cell? p3 = some v3 ∧ w'.cell? p4 = some v4 ∧ w'.cell? p5 = some v5 ∧ w'.cell? p6 = some v6 ∧ w'.cell? p7 = some v7 ∧ w'.cell? p8 = some v8 ∧ w'.cell? p9 = some v9 ∧ w'.cell? p10 = some v10 ∧ w'.cell? p11 = some v11 ∧ w'.cell? p12 = some v12 ∧ w'.cell? p13 = some v13 ∧ w'.cell? p14 = some v14 ∧ w'.cell? p15 = some v15 ∧ w'.cell? p16 = some v16 ∧ w'.cell? p17 = some v17 ∧ w'.cell? p18 = some v18 ∧ w'.cell? p19 = some v19 := ⟨h.cell h0 (by simp), h.cell h1 (by simp), h.cell h2 (by simp), h.cell h3 (by simp), h.cell h4 (by simp), h.cell h5 (by simp), h.cell h6 (by simp), h.cell h7 (by simp), h.cell h8 (by simp), h.cell h9 (by simp), h.cell h10 (by simp), h.cell h11 (by simp), h.cell h12 (by simp), h.cell h13 (by simp), h.cell h14 (by simp), h.cell h15 (by simp), h.cell h16 (by simp), h.cell h17 (by simp), h.cell h18 (by simp), h.cell h19 (by simp)⟩
theorem keep23 {w w' : World} (h : Chg w w' []) {p0 p1 p2 p3 p4 p5 p6 p7 p8 p9 p10 p11 p12 p13 p14 p15 p16 p17 p18 p19 p20 p21 p22 : Addr} {v0 v1 v2 v3 v4 v5 v6 v7 v8 v9 v10 v11 v12 v13 v14 v15 v16 v17 v18 v19 v20 v21 v22 : Value} (h0 : w.cell? p0 = some v0) (h1 : w.cell? p1 = some v1) (h2 : w.cell? p2 = some v2) (h3 : w.cell? p3 = some v3) (h4 : w.cell? p4 = some v4) (h5 : w.cell? p5 = some v5) (h6 : w.cell? p6 = some v6) (h7 : w.cell? p7 = some v7) (h8 : w.cell? p8 = some v8) (h9 : w.cell? p9 = some v9) (h10 : w.cell? p10 = some v10) (h11 : w.cell? p11 = some v11) (h12 : w.cell? p12 = some v12) (h13 : w.cell? p13 = some v13) (h14 : w.cell? p14 = some v14) (h15 : w.cell? p15 = some v15) (h16 : w.cell? p16 = some v16) (h17 : w.cell? p17 = some v17) (h18 : w.cell? p18 = some v18) (h19 : w.cell? p19 = some v19) (h20 : w.cell? p20 = some v20) (h21 : w.cell? p21 = some v21) (h22 : w.cell? p22 = some v22) : w'.cell? p0 = some v0 ∧ w'.cell? p1 = some v1 ∧ w'.cell? p2 = some v2 ∧ w'.cell? p3 = some v3 ∧ w'.cell? p4 = some v4 ∧ w'.cell? p5 = some v5 ∧ w'.cell? p6 = some v6 ∧ w'.cell? p7 = some v7 ∧ w'.cell? p8 = some v8 ∧ w'.cell? p9 = some v9 ∧ w'.cell? p10 = some v10 ∧ w'.cell? p11 = some v11 ∧ w'.cell? p12 = some v12 ∧ w'.cell? p13 = some v13 ∧ w'.cell? p14 = some v14 ∧ w'.cell? p15 = some v15 ∧ w'.cell? p16 = some v16 ∧ w'.cell? p17 = some v17 ∧ w'.cell? p18 = some v18 ∧ w'.cell? p19 = some v19 ∧ w'.cell? p20 = some v20 ∧ w'.cell? p21 = some v21 ∧ w'.cell? p22 = some v22 := ⟨h.cell h0 (by simp), h.cell h1 (by simp), h.cell h2 (by simp), h.cell h3 (by simp), h.cell h4 (by simp), h.cell h5 (by simp), h.cell h6 (by simp), h.cell h7 (by simp), h.cell h8 (by simp), h.cell h9 (by simp), h.cell h10 (by simp), h.cell h11 (by simp), h.cell h12 (by simp), h.cell h13 (by simp), h.cell h14 (by simp), h.cell h15 (by simp), h.cell h16 (by simp), h.cell h17 (by simp), h.cell h18 (by simp), h.cell h19 (by simp), h.cell h20 (by simp), h.cell h21 (by simp), h.cell h22 (by simp)⟩
theorem gates_boxes (a b c d u0 u1 u2 a0 a1 a2 v0 v1 v2 b0 b1 b2 n0 n1 n2 : Wd) (w : World) : (((((w.alloc (.cells #[.int .i32 a.v, .int .i32 b.v, .int .i32 c.v, .int .i32 d.v] 28)).alloc (.cells #[.int .i32 u0.v, .int .i32 u1.v, .int .i32 u2.v, .int .i32 a0.v, .int .i32 a1.v, .int .i32 a2.v, .int .i32 v0.v, .int .i32 v1.v, .int .i32 v2.v] 41)).alloc (.cells #[.int .i32 b0.v, .int .i32 b1.v, .int .i32 b2.v] 22)).alloc (.cells #[.int .i32 n0.v, .int .i32 n1.v, .int .i32 n2.v] 22))).cell? ⟨w.heap.size, 0, none⟩ = some (.int .i32 a.v) ∧ (((((w.alloc (.cells #[.int .i32 a.v, .int .i32 b.v, .int .i32 c.v, .int .i32 d.v] 28)).alloc (.cells #[.int .i32 u0.v, .int .i32 u1.v, .int .i32 u2.v, .int .i32 a0.v, .int .i32 a1.v, .int .i32 a2.v, .int .i32 v0.v, .int .i32 v1.v, .int .i32 v2.v] 41)).alloc (.cells #[.int .i32 b0.v, .int .i32 b1.v, .int .i32 b2.v] 22)).alloc (.cells #[.int .i32 n0.v, .int .i32 n1.v, .int .i32 n2.v] 22))).cell? ⟨w.heap.size, 1, none⟩ = some (.int .i32 b.v) ∧ (((((w.alloc (.cells #[.int .i32 a.v, .int .i32 b.v, .int .i32 c.v, .int .i32 d.v] 28)).alloc (.cells #[.int .i32 u0.v, .int .i32 u1.v, .int .i32 u2.v, .int .i32 a0.v, .int .i32 a1.v, .int .i32 a2.v, .int .i32 v0.v, .int .i32 v1.v, .int .i32 v2.v] 41)).alloc (.cells #[.int .i32 b0.v, .int .i32 b1.v, .int .i32 b2.v] 22)).alloc (.cells #[.int .i32 n0.v, .int .i32 n1.v, .int .i32 n2.v] 22))).cell? ⟨w.heap.size, 2, none⟩ = some (.int .i32 c.v) ∧ (((((w.alloc (.cells #[.int .i32 a.v, .int .i32 b.v, .int .i32 c.v, .int .i32 d.v] 28)).alloc (.cells #[.int .i32 u0.v, .int .i32 u1.v, .int .i32 u2.v, .int .i32 a0.v, .int .i32 a1.v, .int .i32 a2.v, .int .i32 v0.v, .int .i32 v1.v, .int .i32 v2.v] 41)).alloc (.cells #[.int .i32 b0.v, .int .i32 b1.v, .int .i32 b2.v] 22)).alloc (.cells #[.int .i32 n0.v, .int .i32 n1.v, .int .i32 n2.v] 22))).cell? ⟨w.heap.size, 3, none⟩ = some (.int .i32 d.v) ∧ (((((w.alloc (.cells #[.int .i32 a.v, .int .i32 b.v, .int .i32 c.v, .int .i32 d.v] 28)).alloc (.cells #[.int .i32 u0.v, .int .i32 u1.v, .int .i32 u2.v, .int .i32 a0.v, .int .i32 a1.v, .int .i32 a2.v, .int .i32 v0.v, .int .i32 v1.v, .int .i32 v2.v] 41)).alloc (.cells #[.int .i32 b0.v, .int .i32 b1.v, .int .i32 b2.v] 22)).alloc (.cells #[.int .i32 n0.v, .int .i32 n1.v, .int .i32 n2.v] 22))).cell? ⟨w.heap.size + 1, 0, none⟩ = some (.int .i32 u0.v) ∧ (((((w.alloc (.cells #[.int .i32 a.v, .int .i32 b.v, .int .i32 c.v, .int .i32 d.v] 28)).alloc (.cells #[.int .i32 u0.v, .int .i32 u1.v, .int .i32 u2.v, .int .i32 a0.v, .int .i32 a1.v, .int .i32 a2.v, .int .i32 v0.v, .int .i32 v1.v, .int .i32 v2.v] 41)).alloc (.cells #[.int .i32 b0.v, .int .i32 b1.v, .int .i32 b2.v] 22)).alloc (.cells #[.int .i32 n0.v, .int .i32 n1.v, .int .i32 n2.v] 22))).cell? ⟨w.heap.size + 1, 1, none⟩ = some (.int .i32 u1.v) ∧ (((((w.alloc (.cells #[.int .i32 a.v, .int .i32 b.v, .int .i32 c.v, .int .i32 d.v] 28)).alloc (.cells #[.int .i32 u0.v, .int .i32 u1.v, .int .i32 u2.v, .int .i32 a0.v, .int .i32 a1.v, .int .i32 a2.v, .int .i32 v0.v, .int .i32 v1.v, .int .i32 v2.v] 41)).alloc (.cells #[.int .i32 b0.v, .int .i32 b1.v, .int .i32 b2.v] 22)).alloc (.cells #[.int .i32 n0.v, .int .i32 n1.v, .int .i32 n2.v] 22))).cell? ⟨w.heap.size + 1, 2, none⟩ = some (.int .i32 u2.v) ∧ (((((w.alloc (.cells #[.int .i32 a.v, .int .i32 b.v, .int .i32 c.v, .int .i32 d.v] 28)).alloc (.cells #[.int .i32 u0.v, .int .i32 u1.v, .int .i32 u2.v, .int .i32 a0.v, .int .i32 a1.v, .int .i32 a2.v, .int .i32 v0.v, .int .i32 v1.v, .int .i32 v2.v] 41)).alloc (.cells #[.int .i32 b0.v, .int .i32 b1.v, .int .i32 b2.v] 22)).alloc (.cells #[.int .i32 n0.v, .int .i32 n1.v, .int .i32 n2.v] 22))).cell? ⟨w.heap.size + 1, 3, none⟩ = some (.int .i32 a0.v) ∧ (((((w.alloc (.cells #[.int .i32 a.v, .int .i32 b.v, .int .i32 c.v, .int .i32 d.v] 28)).alloc (.cells #[.int .i32 u0.v, .int .i32 u1.v, .int .i32 u2.v, .int .i32 a0.v, .int .i32 a1.v, .int .i32 a2.v, .int .i32 v0.v, .int .i32 v1.v, .int .i32 v2.v] 41)).alloc (.cells #[.int .i32 b0.v, .int .i32 b1.v, .int .i32 b2.v] 22)).alloc (.cells #[.int .i32 n0.v, .int .i32 n1.v, .int .i32 n2.v] 22))).cell? ⟨w.heap.size + 1, 4, none⟩ = some (.int .i32 a1.v) ∧ (((((w.alloc (.cells #[.int .i32 a.v, .int .i32 b.v, .int .i32 c.v, .int .i32 d.v] 28)).alloc (.cells #[.int .i32 u0.v, .int .i32 u1.v, .int .i32 u2.v, .int .i32 a0.v, .int .i32 a1.v, .int .i32 a2.v, .int .i32 v0.v, .int .i32 v1.v, .int .i32 v2.v] 41)).alloc (.cells #[.int .i32 b0.v, .int .i32 b1.v, .int .i32 b2.v] 22)).alloc (.cells #[.int .i32 n0.v, .int .i32 n1.v, .int .i32 n2.v] 22))).cell? ⟨w.heap.size + 1, 5, none⟩ = some (.int .i32 a2.v) ∧ (((((w.alloc (.cells #[.int .i32 a.v, .int .i32 b.v, .int .i32 c.v, .int .i32 d.v] 28)).alloc (.cells #[.int .i32 u0.v, .int .i32 u1.v, .int .i32 u2.v, .int .i32 a0.v, .int .i32 a1.v, .int .i32 a2.v, .int .i32 v0.v, .int .i32 v1.v, .int .i32 v2.v] 41)).alloc (.cells #[.int .i32 b0.v, .int .i32 b1.v, .int .i32 b2.v] 22)).alloc (.cells #[.int .i32 n0.v, .int .i32 n1.v, .int .i32 n2.v] 22))).cell? ⟨w.heap.size + 1, 6, none⟩ = some (.int .i32 v0.v) ∧ (((((w.alloc (.cells #[.int .i32 a.v, .int .i32 b.v, .int .i32 c.v, .int .i32 d.v] 28)).alloc (.cells #[.int .i32 u0.v, .int .i32 u1.v, .int .i32 u2.v, .int .i32 a0.v, .int .i32 a1.v, .int .i32 a2.v, .int .i32 v0.v, .int .i32 v1.v, .int .i32 v2.v] 41)).alloc (.cells #[.int .i32 b0.v, .int .i32 b1.v, .int .i32 b2.v] 22)).alloc (.cells #[.int .i32 n0.v, .int .i32 n1.v, .int .i32 n2.v] 22))).cell? ⟨w.heap.size + 1, 7, none⟩ = some (.int .i32 v1.v) ∧ (((((w.alloc (.cells #[.int .i32 a.v, .int .i32 b.v, .int .i32 c.v, .int .i32 d.v] 28)).alloc (.cells #[.int .i32 u0.v, .int .i32 u1.v, .int .i32 u2.v, .int .i32 a0.v, .int .i32 a1.v, .int .i32 a2.v, .int .i32 v0.v, .int .i32 v1.v, .int .i32 v2.v] 41)).alloc (.cells #[.int .i32 b0.v, .int .i32 b1.v, .int .i32 b2.v] 22)).alloc (.cells #[.int .i32 n0.v, .int .i32 n1.v, .int .i32 n2.v] 22))).cell? ⟨w.heap.size + 1, 8, none⟩ = some (.int .i32 v2.v) ∧ (((((w.alloc (.cells #[.int .i32 a.v, .int .i32 b.v, .int .i32 c.v, .int .i32 d.v] 28)).alloc (.cells #[.int .i32 u0.v, .int .i32 u1.v, .int .i32 u2.v, .int .i32 a0.v, .int .i32 a1.v, .int .i32 a2.v, .int .i32 v0.v, .int .i32 v1.v, .int .i32 v2.v] 41)).alloc (.cells #[.int .i32 b0.v, .int .i32 b1.v, .int .i32 b2.v] 22)).alloc (.cells #[.int .i32 n0.v, .int .i32 n1.v, .int .i32 n2.v] 22))).cell? ⟨w.heap.size + 1 + 1, 0, none⟩ = some (.int .i32 b0.v) ∧ (((((w.alloc (.cells #[.int .i32 a.v, .int .i32 b.v, .int .i32 c.v, .int .i32 d.v] 28)).alloc (.cells #[.int .i32 u0.v, .int .i32 u1.v, .int .i32 u2.v, .int .i32 a0.v, .int .i32 a1.v, .int .i32 a2.v, .int .i32 v0.v, .int .i32 v1.v, .int .i32 v2.v] 41)).alloc (.cells #[.int .i32 b0.v, .int .i32 b1.v, .int .i32 b2.v] 22)).alloc (.cells #[.int .i32 n0.v, .int .i32 n1.v, .int .i32 n2.v] 22))).cell? ⟨w.heap.size + 1 + 1, 1, none⟩ = some (.int .i32 b1.v) ∧ (((((w.alloc (.cells #[.int .i32 a.v, .int .i32 b.v, .int .i32 c.v, .int .i32 d.v] 28)).alloc (.cells #[.int .i32 u0.v, .int .i32 u1.v, .int .i32 u2.v, .int .i32 a0.v, .int .i32 a1.v, .int .i32 a2.v, .int .i32 v0.v, .int .i32 v1.v, .int .i32 v2.v] 41)).alloc (.cells #[.int .i32 b0.v, .int .i32 b1.v, .int .i32 b2.v] 22)).alloc (.cells #[.int .i32 n0.v, .int .i32 n1.v, .int .i32 n2.v] 22))).cell? ⟨w.heap.size + 1 + 1, 2, none⟩ = some (.int .i32 b2.v) ∧ (((((w.alloc (.cells #[.int .i32 a.v, .int .i32 b.v, .int .i32 c.v, .int .i32 d.v] 28)).alloc (.cells #[.int .i32 u0.v, .int .i32 u1.v, .int .i32 u2.v, .int .i32 a0.v, .int .i32 a1.v, .int .i32 a2.v, .int .i32 v0.v, .int .i32 v1.v, .int .i32 v2.v] 41)).alloc (.cells #[.int .i32 b0.v, .int .i32 b1.v, .int .i32 b2.v] 22)).alloc (.cells #[.int .i32 n0.v, .int .i32 n1.v, .int .i32 n2.v] 22))).cell? ⟨w.heap.size + 1 + 1 + 1, 0, none⟩ = some (.int .i32 n0.v) ∧ (((((w.alloc (.cells #[.int .i32 a.v, .int .i32 b.v, .int .i32 c.v, .int .i32 d.v] 28)).alloc (.cells #[.int .i32 u0.v, .int .i32 u1.v, .int .i32 u2.v, .int .i32 a0.v, .int .i32 a1.v, .int .i32 a2.v, .int .i32 v0.v, .int .i32 v1.v, .int .i32 v2.v] 41)).alloc (.cells #[.int .i32 b0.v, .int .i32 b1.v, .int .i32 b2.v] 22)).alloc (.cells #[.int .i32 n0.v, .int .i32 n1.v, .int .i32 n2.v] 22))).cell? ⟨w.heap.size + 1 + 1 + 1, 1, none⟩ = some (.int .i32 n1.v) ∧ (((((w.alloc (.cells #[.int .i32 a.v, .int .i32 b.v, .int .i32 c.v, .int .i32 d.v] 28)).alloc (.cells #[.int .i32 u0.v, .int .i32 u1.v, .int .i32 u2.v, .int .i32 a0.v, .int .i32 a1.v, .int .i32 a2.v, .int .i32 v0.v, .int .i32 v1.v, .int .i32 v2.v] 41)).alloc (.cells #[.int .i32 b0.v, .int .i32 b1.v, .int .i32 b2.v] 22)).alloc (.cells #[.int .i32 n0.v, .int .i32 n1.v, .int .i32 n2.v] 22))).cell? ⟨w.heap.size + 1 + 1 + 1, 2, none⟩ = some (.int .i32 n2.v) ∧ w.heap.size + 1 + 1 + 1 < (((((w.alloc (.cells #[.int .i32 a.v, .int .i32 b.v, .int .i32 c.v, .int .i32 d.v] 28)).alloc (.cells #[.int .i32 u0.v, .int .i32 u1.v, .int .i32 u2.v, .int .i32 a0.v, .int .i32 a1.v, .int .i32 a2.v, .int .i32 v0.v, .int .i32 v1.v, .int .i32 v2.v] 41)).alloc (.cells #[.int .i32 b0.v, .int .i32 b1.v, .int .i32 b2.v] 22)).alloc (.cells #[.int .i32 n0.v, .int .i32 n1.v, .int .i32 n2.v] 22))).heap.size ∧ Chg w (((((w.alloc (.cells #[.int .i32 a.v, .int .i32 b.v, .int .i32 c.v, .int .i32 d.v] 28)).alloc (.cells #[.int .i32 u0.v, .int .i32 u1.v, .int .i32 u2.v, .int .i32 a0.v, .int .i32 a1.v, .int .i32 a2.v, .int .i32 v0.v, .int .i32 v1.v, .int .i32 v2.v] 41)).alloc (.cells #[.int .i32 b0.v, .int .i32 b1.v, .int .i32 b2.v] 22)).alloc (.cells #[.int .i32 n0.v, .int .i32 n1.v, .int .i32 n2.v] 22))) [] := by
  have k0 := Blk.new (w) 28 [.int .i32 a.v, .int .i32 b.v, .int .i32 c.v, .int .i32 d.v]
  have m0 := (((k0).alloc (.cells #[.int .i32 u0.v, .int .i32 u1.v, .int .i32 u2.v, .int .i32 a0.v, .int .i32 a1.v, .int .i32 a2.v, .int .i32 v0.v, .int .i32 v1.v, .int .i32 v2.v] 41)).alloc (.cells #[.int .i32 b0.v, .int .i32 b1.v, .int .i32 b2.v] 22)).alloc (.cells #[.int .i32 n0.v, .int .i32 n1.v, .int .i32 n2.v] 22)
  have g0_0 := m0.cell' (i := 0) rfl
  have g0_1 := m0.cell' (i := 1) rfl
  have g0_2 := m0.cell' (i := 2) rfl
  have g0_3 := m0.cell' (i := 3) rfl
  have k1 := Blk.new ((w).alloc (.cells #[.int .i32 a.v, .int .i32 b.v, .int .i32 c.v, .int .i32 d.v] 28)) 41 [.int .i32 u0.v, .int .i32 u1.v, .int .i32 u2.v, .int .i32 a0.v, .int .i32 a1.v, .int .i32 a2.v, .int .i32 v0.v, .int .i32 v1.v, .int .i32 v2.v]
  have m1 := ((k1).alloc (.cells #[.int .i32 b0.v, .int .i32 b1.v, .int .i32 b2.v] 22)).alloc (.cells #[.int .i32 n0.v, .int .i32 n1.v, .int .i32 n2.v] 22)
  simp only [size_alloc] at m1
  have g1_0 := m1.cell' (i := 0) rfl
  have g1_1 := m1.cell' (i := 1) rfl
  have g1_2 := m1.cell' (i := 2) rfl
  have g1_3 := m1.cell' (i := 3) rfl
  have g1_4 := m1.cell' (i := 4) rfl
  have g1_5 := m1.cell' (i := 5) rfl
  have g1_6 := m1.cell' (i := 6) rfl
  have g1_7 := m1.cell' (i := 7) rfl
  have g1_8 := m1.cell' (i := 8) rfl
  have k2 := Blk.new (((w).alloc (.cells #[.int .i32 a.v, .int .i32 b.v, .int .i32 c.v, .int .i32 d.v] 28)).alloc (.cells #[.int .i32 u0.v, .int .i32 u1.v, .int .i32 u2.v, .int .i32 a0.v, .int .i32 a1.v, .int .i32 a2.v, .int .i32 v0.v, .int .i32 v1.v, .int .i32 v2.v] 41)) 22 [.int .i32 b0.v, .int .i32 b1.v, .int .i32 b2.v]
  have m2 := (k2).alloc (.cells #[.int .i32 n0.v, .int .i32 n1.v, .int .i32 n2.v] 22)
  simp only [size_alloc] at m2
  have g2_0 := m2.cell' (i := 0) rfl
  have g2_1 := m2.cell' (i := 1) rfl
  have g2_2 := m2.cell' (i := 2) rfl
  have k3 := Blk.new ((((w).alloc (.cells #[.int .i32 a.v, .int .i32 b.v, .int .i32 c.v, .int .i32 d.v] 28)).alloc (.cells #[.int .i32 u0.v, .int .i32 u1.v, .int .i32 u2.v, .int .i32 a0.v, .int .i32 a1.v, .int .i32 a2.v, .int .i32 v0.v, .int .i32 v1.v, .int .i32 v2.v] 41)).alloc (.cells #[.int .i32 b0.v, .int .i32 b1.v, .int .i32 b2.v] 22)) 22 [.int .i32 n0.v, .int .i32 n1.v, .int .i32 n2.v]
  have m3 := k3
  simp only [size_alloc] at m3
  have g3_0 := m3.cell' (i := 0) rfl
  have g3_1 := m3.cell' (i := 1) rfl
  have g3_2 := m3.cell' (i := 2) rfl
  exact ⟨g0_0, g0_1, g0_2, g0_3, g1_0, g1_1, g1_2, g1_3, g1_4, g1_5, g1_6, g1_7, g1_8, g2_0, g2_1, g2_2, g3_0, g3_1, g3_2, m3.lt, ((((((Chg.refl w []).alloc (.cells #[.int .i32 a.v, .int .i32 b.v, .int .i32 c.v, .int .i32 d.v] 28)).alloc (.cells #[.int .i32 u0.v, .int .i32 u1.v, .int .i32 u2.v, .int .i32 a0.v, .int .i32 a1.v, .int .i32 a2.v, .int .i32 v0.v, .int .i32 v1.v, .int .i32 v2.v] 41)).alloc (.cells #[.int .i32 b0.v, .int .i32 b1.v, .int .i32 b2.v] 22)).alloc (.cells #[.int .i32 n0.v, .int .i32 n1.v, .int .i32 n2.v] 22)))⟩
set_option maxRecDepth 100000 in
set_option maxHeartbeats 8000000 in
theorem gates_t_t (a b c d u0 u1 u2 a0 a1 a2 v0 v1 v2 b0 b1 b2 n0 n1 n2 : Wd) (x : Q4) (F G : Int)
    (H1 : Hid (sensedW a b c d u0 u1 u2 a0 a1 a2 v0 v1 v2 = x)) (H2 : Hid (sensedW a b c d u0 u1 u2 a0 a1 a2 v0 v1 v2 = x)) (F1 : Hid (flagsI (sensedA a0 a1 a2) (sensedM v0 v1 v2) = F)) (G1 : Hid (flagsI (sensedA a0 a1 a2) (sensedM v0 v1 v2) = G))
    (fa : bits BinOp.and IntKind.i64 F 2 = 0) (fm : bits BinOp.and IntKind.i64 F 4 = 0) (fr : bits BinOp.andNot IntKind.i64 F 6 = 0) (fg : bits BinOp.and IntKind.i64 G 2 = 0)
    (IA : Hid (inside 16777216 150994944 a0.v a1.v a2.v = true)) (IM : Hid (inside 1000000 400000000 v0.v v1.v v2.v = true))
    (w : World) : Calls Tryz.prog 10 #[.agg #[.int .i32 a.v, .int .i32 b.v, .int .i32 c.v, .int .i32 d.v], .agg #[.int .i32 u0.v, .int .i32 u1.v, .int .i32 u2.v, .int .i32 a0.v, .int .i32 a1.v, .int .i32 a2.v, .int .i32 v0.v, .int .i32 v1.v, .int .i32 v2.v], .agg #[.int .i32 b0.v, .int .i32 b1.v, .int .i32 b2.v], .agg #[.int .i32 n0.v, .int .i32 n1.v, .int .i32 n2.v]] w fun e w' => e = .returned (.bool true) ∧ Chg w w' [] := by
  obtain ⟨g0_0, g0_1, g0_2, g0_3, g1_0, g1_1, g1_2, g1_3, g1_4, g1_5, g1_6, g1_7, g1_8, g2_0, g2_1, g2_2, g3_0, g3_1, g3_2, lq, HC⟩ := gates_boxes a b c d u0 u1 u2 a0 a1 a2 v0 v1 v2 b0 b1 b2 n0 n1 n2 w
  replace HC := hide HC
  go_enter Tryz.func10, Tryz.ntmps10
  go_wp2_with fail
  generalize ((((w.alloc (.cells #[.int .i32 a.v, .int .i32 b.v, .int .i32 c.v, .int .i32 d.v] 28)).alloc (.cells #[.int .i32 u0.v, .int .i32 u1.v, .int .i32 u2.v, .int .i32 a0.v, .int .i32 a1.v, .int .i32 a2.v, .int .i32 v0.v, .int .i32 v1.v, .int .i32 v2.v] 41)).alloc (.cells #[.int .i32 b0.v, .int .i32 b1.v, .int .i32 b2.v] 22)).alloc (.cells #[.int .i32 n0.v, .int .i32 n1.v, .int .i32 n2.v] 22)) = w6 at *
  refine (next_calls a b c d u0 u1 u2 a0 a1 a2 v0 v1 v2 _).mono ?_
  rw [H1.out, F1.out]
  rintro e w7 ⟨rfl, hc⟩
  have HC7 := hide (HC.out.trans hc (D := []) (by simp))
  have xb := Blk.new w7 28 [.int .i32 x.a.v, .int .i32 x.b.v, .int .i32 x.c.v, .int .i32 x.d.v]
  have x0 := xb.cell' (i := 0) rfl
  have x1 := xb.cell' (i := 1) rfl
  have x2 := xb.cell' (i := 2) rfl
  have x3 := xb.cell' (i := 3) rfl
  have hz := (Chg.refl w7 []).alloc (.cells #[.int .i32 x.a.v, .int .i32 x.b.v, .int .i32 x.c.v, .int .i32 x.d.v] 28)
  replace g0_0 := hz.cell (hc.cell g0_0 (by simp)) (by simp)
  replace g0_1 := hz.cell (hc.cell g0_1 (by simp)) (by simp)
  replace g0_2 := hz.cell (hc.cell g0_2 (by simp)) (by simp)
  replace g0_3 := hz.cell (hc.cell g0_3 (by simp)) (by simp)
  replace g1_0 := hz.cell (hc.cell g1_0 (by simp)) (by simp)
  replace g1_1 := hz.cell (hc.cell g1_1 (by simp)) (by simp)
  replace g1_2 := hz.cell (hc.cell g1_2 (by simp)) (by simp)
  replace g1_3 := hz.cell (hc.cell g1_3 (by simp)) (by simp)
  replace g1_4 := hz.cell (hc.cell g1_4 (by simp)) (by simp)
  replace g1_5 := hz.cell (hc.cell g1_5 (by simp)) (by simp)
  replace g1_6 := hz.cell (hc.cell g1_6 (by simp)) (by simp)
  replace g1_7 := hz.cell (hc.cell g1_7 (by simp)) (by simp)
  replace g1_8 := hz.cell (hc.cell g1_8 (by simp)) (by simp)
  replace g2_0 := hz.cell (hc.cell g2_0 (by simp)) (by simp)
  replace g2_1 := hz.cell (hc.cell g2_1 (by simp)) (by simp)
  replace g2_2 := hz.cell (hc.cell g2_2 (by simp)) (by simp)
  replace g3_0 := hz.cell (hc.cell g3_0 (by simp)) (by simp)
  replace g3_1 := hz.cell (hc.cell g3_1 (by simp)) (by simp)
  replace g3_2 := hz.cell (hc.cell g3_2 (by simp)) (by simp)
  replace HC := hide (HC7.out.alloc (.cells #[.int .i32 x.a.v, .int .i32 x.b.v, .int .i32 x.c.v, .int .i32 x.d.v] 28))
  have lx := xb.lt
  replace lq := Nat.lt_of_lt_of_le lq (Nat.le_trans hc.size hz.size)
  clear hc hz xb HC7
  clear g3_0 g3_1 g3_2
  clear g2_0 g2_1 g2_2
  go_wp2_with fail
  generalize w7.alloc (.cells #[.int .i32 x.a.v, .int .i32 x.b.v, .int .i32 x.c.v, .int .i32 x.d.v] 28) = w8 at *
  generalize w7.heap.size = xa at *
  refine (refAccel_calls a0.v a1.v a2.v _ a0.ok a1.ok a2.ok).mono ?_
  rw [IA.out]
  rintro e w9 ⟨rfl, hc⟩
  replace HC := hide (HC.out.trans hc (D := []) (by simp))
  replace lq := Nat.lt_of_lt_of_le lq hc.size
  replace lx := Nat.lt_of_lt_of_le lx hc.size
  have KK := keep17 hc g0_0 g0_1 g0_2 g0_3 g1_0 g1_1 g1_2 g1_3 g1_4 g1_5 g1_6 g1_7 g1_8 x0 x1 x2 x3
  clear hc g0_0 g0_1 g0_2 g0_3 g1_0 g1_1 g1_2 g1_3 g1_4 g1_5 g1_6 g1_7 g1_8 x0 x1 x2 x3
  obtain ⟨g0_0, g0_1, g0_2, g0_3, g1_0, g1_1, g1_2, g1_3, g1_4, g1_5, g1_6, g1_7, g1_8, x0, x1, x2, x3⟩ := KK
  go_wp2_with fail
  refine (refMag_calls v0.v v1.v v2.v _ v0.ok v1.ok v2.ok).mono ?_
  rw [IM.out]
  rintro e w10 ⟨rfl, hc⟩
  replace HC := hide (HC.out.trans hc (D := []) (by simp))
  replace lq := Nat.lt_of_lt_of_le lq hc.size
  replace lx := Nat.lt_of_lt_of_le lx hc.size
  have KK := keep17 hc g0_0 g0_1 g0_2 g0_3 g1_0 g1_1 g1_2 g1_3 g1_4 g1_5 g1_6 g1_7 g1_8 x0 x1 x2 x3
  clear hc g0_0 g0_1 g0_2 g0_3 g1_0 g1_1 g1_2 g1_3 g1_4 g1_5 g1_6 g1_7 g1_8 x0 x1 x2 x3
  obtain ⟨g0_0, g0_1, g0_2, g0_3, g1_0, g1_1, g1_2, g1_3, g1_4, g1_5, g1_6, g1_7, g1_8, x0, x1, x2, x3⟩ := KK
  go_upto_region 5 with (fail)
  have ob := Blk.new w10 41 [.int .i32 u0.v, .int .i32 u1.v, .int .i32 u2.v, .int .i32 a0.v, .int .i32 a1.v, .int .i32 a2.v, .int .i32 v0.v, .int .i32 v1.v, .int .i32 v2.v]
  have hz := (Chg.refl w10 []).alloc (.cells #[.int .i32 u0.v, .int .i32 u1.v, .int .i32 u2.v, .int .i32 a0.v, .int .i32 a1.v, .int .i32 a2.v, .int .i32 v0.v, .int .i32 v1.v, .int .i32 v2.v] 41)
  have lo := HC.out.size
  replace HC := hide (HC.out.alloc (.cells #[.int .i32 u0.v, .int .i32 u1.v, .int .i32 u2.v, .int .i32 a0.v, .int .i32 a1.v, .int .i32 a2.v, .int .i32 v0.v, .int .i32 v1.v, .int .i32 v2.v] 41))
  have KK := keep17 hz g0_0 g0_1 g0_2 g0_3 g1_0 g1_1 g1_2 g1_3 g1_4 g1_5 g1_6 g1_7 g1_8 x0 x1 x2 x3
  clear hz g0_0 g0_1 g0_2 g0_3 g1_0 g1_1 g1_2 g1_3 g1_4 g1_5 g1_6 g1_7 g1_8 x0 x1 x2 x3
  obtain ⟨g0_0, g0_1, g0_2, g0_3, g1_0, g1_1, g1_2, g1_3, g1_4, g1_5, g1_6, g1_7, g1_8, x0, x1, x2, x3⟩ := KK
  generalize w10.alloc (.cells #[.int .i32 u0.v, .int .i32 u1.v, .int .i32 u2.v, .int .i32 a0.v, .int .i32 a1.v, .int .i32 a2.v, .int .i32 v0.v, .int .i32 v1.v, .int .i32 v2.v] 41) = w11 at *
  generalize w10.heap.size = oa at *
  replace ob := hide ob
  go_wp2_with fail
  refine (refMag_calls v0.v v1.v v2.v _ v0.ok v1.ok v2.ok).mono ?_
  rw [IM.out]
  rintro e w12 ⟨rfl, hc⟩
  replace HC := hide (HC.out.trans hc (D := []) (by simp))
  replace ob := hide (ob.out.chg hc (by simp))
  have KK := keep17 hc g0_0 g0_1 g0_2 g0_3 g1_0 g1_1 g1_2 g1_3 g1_4 g1_5 g1_6 g1_7 g1_8 x0 x1 x2 x3
  clear hc g0_0 g0_1 g0_2 g0_3 g1_0 g1_1 g1_2 g1_3 g1_4 g1_5 g1_6 g1_7 g1_8 x0 x1 x2 x3
  obtain ⟨g0_0, g0_1, g0_2, g0_3, g1_0, g1_1, g1_2, g1_3, g1_4, g1_5, g1_6, g1_7, g1_8, x0, x1, x2, x3⟩ := KK
  go_wp2_with fail
  refine (refAccel_calls a0.v a1.v a2.v _ a0.ok a1.ok a2.ok).mono ?_
  rw [IA.out]
  rintro e w13 ⟨rfl, hc⟩
  replace HC := hide (HC.out.trans hc (D := []) (by simp))
  replace ob := hide (ob.out.chg hc (by simp))
  have KK := keep17 hc g0_0 g0_1 g0_2 g0_3 g1_0 g1_1 g1_2 g1_3 g1_4 g1_5 g1_6 g1_7 g1_8 x0 x1 x2 x3
  clear hc g0_0 g0_1 g0_2 g0_3 g1_0 g1_1 g1_2 g1_3 g1_4 g1_5 g1_6 g1_7 g1_8 x0 x1 x2 x3
  obtain ⟨g0_0, g0_1, g0_2, g0_3, g1_0, g1_1, g1_2, g1_3, g1_4, g1_5, g1_6, g1_7, g1_8, x0, x1, x2, x3⟩ := KK
  clear g1_0 g1_1 g1_2 g1_3 g1_4 g1_5 g1_6 g1_7 g1_8
  have y0 := ob.out.cell' (i := 0) rfl
  have y1 := ob.out.cell' (i := 1) rfl
  have y2 := ob.out.cell' (i := 2) rfl
  have y3 := ob.out.cell' (i := 3) rfl
  have y4 := ob.out.cell' (i := 4) rfl
  have y5 := ob.out.cell' (i := 5) rfl
  have y6 := ob.out.cell' (i := 6) rfl
  have y7 := ob.out.cell' (i := 7) rfl
  have y8 := ob.out.cell' (i := 8) rfl
  clear ob
  go_wp2_with fail
  refine (next_calls a b c d u0 u1 u2 a0 a1 a2 v0 v1 v2 _).mono ?_
  rw [H2.out, G1.out]
  rintro e w14 ⟨rfl, hc⟩
  replace HC := hide (HC.out.trans hc (D := []) (by simp))
  have zb := Blk.new w14 28 [.int .i32 x.a.v, .int .i32 x.b.v, .int .i32 x.c.v, .int .i32 x.d.v]
  have z0 := zb.cell' (i := 0) rfl
  have z1 := zb.cell' (i := 1) rfl
  have z2 := zb.cell' (i := 2) rfl
  have z3 := zb.cell' (i := 3) rfl
  have hz := (Chg.refl w14 []).alloc (.cells #[.int .i32 x.a.v, .int .i32 x.b.v, .int .i32 x.c.v, .int .i32 x.d.v] 28)
  replace x0 := hz.cell (hc.cell x0 (by simp)) (by simp)
  replace x1 := hz.cell (hc.cell x1 (by simp)) (by simp)
  replace x2 := hz.cell (hc.cell x2 (by simp)) (by simp)
  replace x3 := hz.cell (hc.cell x3 (by simp)) (by simp)
  replace HC := hide (HC.out.alloc (.cells #[.int .i32 x.a.v, .int .i32 x.b.v, .int .i32 x.c.v, .int .i32 x.d.v] 28))
  clear hc hz zb y0 y1 y2 y3 y4 y5 y6 y7 y8 g0_0 g0_1 g0_2 g0_3
  have EQ := eql_quat x.a.v x.b.v x.c.v x.d.v
  go_wp2_with fail
  refine (awake34_calls _).mono ?_
  rintro e w16 ⟨rfl, hc⟩
  replace HC := hide (HC.out.trans hc (D := []) (by simp))
  clear hc
  go_wp2
  go_ret
  exact ⟨rfl, HC.out⟩
set_option maxRecDepth 100000 in
set_option maxHeartbeats 8000000 in
theorem gates_t_ft (a b c d u0 u1 u2 a0 a1 a2 v0 v1 v2 b0 b1 b2 n0 n1 n2 : Wd) (x : Q4) (F G : Int)
    (H1 : Hid (sensedW a b c d u0 u1 u2 a0 a1 a2 v0 v1 v2 = x)) (H2 : Hid (sensedW a b c d u0 u1 u2 a0 a1 a2 v0 v1 v2 = x)) (F1 : Hid (flagsI (sensedA a0 a1 a2) (sensedM v0 v1 v2) = F)) (G1 : Hid (flagsI (sensedA a0 a1 a2) (sensedM v0 v1 v2) = G))
    (fa : bits BinOp.and IntKind.i64 F 2 = 2) (fm : bits BinOp.and IntKind.i64 F 4 = 0) (fr : bits BinOp.andNot IntKind.i64 F 6 = 0) (fg : bits BinOp.and IntKind.i64 G 2 = 2)
    (IA : Hid (inside 16777216 150994944 a0.v a1.v a2.v = false)) (IM : Hid (inside 1000000 400000000 v0.v v1.v v2.v = true))
    (JA : Hid (inside 16777216 150994944 b0.v b1.v b2.v = true))
    (w : World) : Calls Tryz.prog 10 #[.agg #[.int .i32 a.v, .int .i32 b.v, .int .i32 c.v, .int .i32 d.v], .agg #[.int .i32 u0.v, .int .i32 u1.v, .int .i32 u2.v, .int .i32 a0.v, .int .i32 a1.v, .int .i32 a2.v, .int .i32 v0.v, .int .i32 v1.v, .int .i32 v2.v], .agg #[.int .i32 b0.v, .int .i32 b1.v, .int .i32 b2.v], .agg #[.int .i32 n0.v, .int .i32 n1.v, .int .i32 n2.v]] w fun e w' => e = .returned (.bool true) ∧ Chg w w' [] := by
  obtain ⟨g0_0, g0_1, g0_2, g0_3, g1_0, g1_1, g1_2, g1_3, g1_4, g1_5, g1_6, g1_7, g1_8, g2_0, g2_1, g2_2, g3_0, g3_1, g3_2, lq, HC⟩ := gates_boxes a b c d u0 u1 u2 a0 a1 a2 v0 v1 v2 b0 b1 b2 n0 n1 n2 w
  replace HC := hide HC
  go_enter Tryz.func10, Tryz.ntmps10
  go_wp2_with fail
  generalize ((((w.alloc (.cells #[.int .i32 a.v, .int .i32 b.v, .int .i32 c.v, .int .i32 d.v] 28)).alloc (.cells #[.int .i32 u0.v, .int .i32 u1.v, .int .i32 u2.v, .int .i32 a0.v, .int .i32 a1.v, .int .i32 a2.v, .int .i32 v0.v, .int .i32 v1.v, .int .i32 v2.v] 41)).alloc (.cells #[.int .i32 b0.v, .int .i32 b1.v, .int .i32 b2.v] 22)).alloc (.cells #[.int .i32 n0.v, .int .i32 n1.v, .int .i32 n2.v] 22)) = w6 at *
  refine (next_calls a b c d u0 u1 u2 a0 a1 a2 v0 v1 v2 _).mono ?_
  rw [H1.out, F1.out]
  rintro e w7 ⟨rfl, hc⟩
  have HC7 := hide (HC.out.trans hc (D := []) (by simp))
  have xb := Blk.new w7 28 [.int .i32 x.a.v, .int .i32 x.b.v, .int .i32 x.c.v, .int .i32 x.d.v]
  have x0 := xb.cell' (i := 0) rfl
  have x1 := xb.cell' (i := 1) rfl
  have x2 := xb.cell' (i := 2) rfl
  have x3 := xb.cell' (i := 3) rfl
  have hz := (Chg.refl w7 []).alloc (.cells #[.int .i32 x.a.v, .int .i32 x.b.v, .int .i32 x.c.v, .int .i32 x.d.v] 28)
  replace g0_0 := hz.cell (hc.cell g0_0 (by simp)) (by simp)
  replace g0_1 := hz.cell (hc.cell g0_1 (by simp)) (by simp)
  replace g0_2 := hz.cell (hc.cell g0_2 (by simp)) (by simp)
  replace g0_3 := hz.cell (hc.cell g0_3 (by simp)) (by simp)
  replace g1_0 := hz.cell (hc.cell g1_0 (by simp)) (by simp)
  replace g1_1 := hz.cell (hc.cell g1_1 (by simp)) (by simp)
  replace g1_2 := hz.cell (hc.cell g1_2 (by simp)) (by simp)
  replace g1_3 := hz.cell (hc.cell g1_3 (by simp)) (by simp)
  replace g1_4 := hz.cell (hc.cell g1_4 (by simp)) (by simp)
  replace g1_5 := hz.cell (hc.cell g1_5 (by simp)) (by simp)
  replace g1_6 := hz.cell (hc.cell g1_6 (by simp)) (by simp)
  replace g1_7 := hz.cell (hc.cell g1_7 (by simp)) (by simp)
  replace g1_8 := hz.cell (hc.cell g1_8 (by simp)) (by simp)
  replace g2_0 := hz.cell (hc.cell g2_0 (by simp)) (by simp)
  replace g2_1 := hz.cell (hc.cell g2_1 (by simp)) (by simp)
  replace g2_2 := hz.cell (hc.cell g2_2 (by simp)) (by simp)
  replace g3_0 := hz.cell (hc.cell g3_0 (by simp)) (by simp)
  replace g3_1 := hz.cell (hc.cell g3_1 (by simp)) (by simp)
  replace g3_2 := hz.cell (hc.cell g3_2 (by simp)) (by simp)
  replace HC := hide (HC7.out.alloc (.cells #[.int .i32 x.a.v, .int .i32 x.b.v, .int .i32 x.c.v, .int .i32 x.d.v] 28))
  have lx := xb.lt
  replace lq := Nat.lt_of_lt_of_le lq (Nat.le_trans hc.size hz.size)
  clear hc hz xb HC7
  clear g3_0 g3_1 g3_2
  go_wp2_with fail
  generalize w7.alloc (.cells #[.int .i32 x.a.v, .int .i32 x.b.v, .int .i32 x.c.v, .int .i32 x.d.v] 28) = w8 at *
  generalize w7.heap.size = xa at *
  refine (refAccel_calls a0.v a1.v a2.v _ a0.ok a1.ok a2.ok).mono ?_
  rw [IA.out]
  rintro e w9 ⟨rfl, hc⟩
  replace HC := hide (HC.out.trans hc (D := []) (by simp))
  replace lq := Nat.lt_of_lt_of_le lq hc.size
  replace lx := Nat.lt_of_lt_of_le lx hc.size
  have KK := keep20 hc g0_0 g0_1 g0_2 g0_3 g1_0 g1_1 g1_2 g1_3 g1_4 g1_5 g1_6 g1_7 g1_8 g2_0 g2_1 g2_2 x0 x1 x2 x3
  clear hc g0_0 g0_1 g0_2 g0_3 g1_0 g1_1 g1_2 g1_3 g1_4 g1_5 g1_6 g1_7 g1_8 g2_0 g2_1 g2_2 x0 x1 x2 x3
  obtain ⟨g0_0, g0_1, g0_2, g0_3, g1_0, g1_1, g1_2, g1_3, g1_4, g1_5, g1_6, g1_7, g1_8, g2_0, g2_1, g2_2, x0, x1, x2, x3⟩ := KK
  go_wp2_with fail
  refine (refMag_calls v0.v v1.v v2.v _ v0.ok v1.ok v2.ok).mono ?_
  rw [IM.out]
  rintro e w10 ⟨rfl, hc⟩
  replace HC := hide (HC.out.trans hc (D := []) (by simp))
  replace lq := Nat.lt_of_lt_of_le lq hc.size
  replace lx := Nat.lt_of_lt_of_le lx hc.size
  have KK := keep20 hc g0_0 g0_1 g0_2 g0_3 g1_0 g1_1 g1_2 g1_3 g1_4 g1_5 g1_6 g1_7 g1_8 g2_0 g2_1 g2_2 x0 x1 x2 x3
  clear hc g0_0 g0_1 g0_2 g0_3 g1_0 g1_1 g1_2 g1_3 g1_4 g1_5 g1_6 g1_7 g1_8 g2_0 g2_1 g2_2 x0 x1 x2 x3
  obtain ⟨g0_0, g0_1, g0_2, g0_3, g1_0, g1_1, g1_2, g1_3, g1_4, g1_5, g1_6, g1_7, g1_8, g2_0, g2_1, g2_2, x0, x1, x2, x3⟩ := KK
  go_upto_region 5 with (fail)
  have ob := Blk.new w10 41 [.int .i32 u0.v, .int .i32 u1.v, .int .i32 u2.v, .int .i32 a0.v, .int .i32 a1.v, .int .i32 a2.v, .int .i32 v0.v, .int .i32 v1.v, .int .i32 v2.v]
  have hz := (Chg.refl w10 []).alloc (.cells #[.int .i32 u0.v, .int .i32 u1.v, .int .i32 u2.v, .int .i32 a0.v, .int .i32 a1.v, .int .i32 a2.v, .int .i32 v0.v, .int .i32 v1.v, .int .i32 v2.v] 41)
  have lo := HC.out.size
  replace HC := hide (HC.out.alloc (.cells #[.int .i32 u0.v, .int .i32 u1.v, .int .i32 u2.v, .int .i32 a0.v, .int .i32 a1.v, .int .i32 a2.v, .int .i32 v0.v, .int .i32 v1.v, .int .i32 v2.v] 41))
  have KK := keep20 hz g0_0 g0_1 g0_2 g0_3 g1_0 g1_1 g1_2 g1_3 g1_4 g1_5 g1_6 g1_7 g1_8 g2_0 g2_1 g2_2 x0 x1 x2 x3
  clear hz g0_0 g0_1 g0_2 g0_3 g1_0 g1_1 g1_2 g1_3 g1_4 g1_5 g1_6 g1_7 g1_8 g2_0 g2_1 g2_2 x0 x1 x2 x3
  obtain ⟨g0_0, g0_1, g0_2, g0_3, g1_0, g1_1, g1_2, g1_3, g1_4, g1_5, g1_6, g1_7, g1_8, g2_0, g2_1, g2_2, x0, x1, x2, x3⟩ := KK
  generalize w10.alloc (.cells #[.int .i32 u0.v, .int .i32 u1.v, .int .i32 u2.v, .int .i32 a0.v, .int .i32 a1.v, .int .i32 a2.v, .int .i32 v0.v, .int .i32 v1.v, .int .i32 v2.v] 41) = w11 at *
  generalize w10.heap.size = oa at *
  replace ob := hide ob
  go_wp2_with fail
  refine (refMag_calls v0.v v1.v v2.v _ v0.ok v1.ok v2.ok).mono ?_
  rw [IM.out]
  rintro e w12 ⟨rfl, hc⟩
  replace HC := hide (HC.out.trans hc (D := []) (by simp))
  replace ob := hide (ob.out.chg hc (by simp))
  have KK := keep20 hc g0_0 g0_1 g0_2 g0_3 g1_0 g1_1 g1_2 g1_3 g1_4 g1_5 g1_6 g1_7 g1_8 g2_0 g2_1 g2_2 x0 x1 x2 x3
  clear hc g0_0 g0_1 g0_2 g0_3 g1_0 g1_1 g1_2 g1_3 g1_4 g1_5 g1_6 g1_7 g1_8 g2_0 g2_1 g2_2 x0 x1 x2 x3
  obtain ⟨g0_0, g0_1, g0_2, g0_3, g1_0, g1_1, g1_2, g1_3, g1_4, g1_5, g1_6, g1_7, g1_8, g2_0, g2_1, g2_2, x0, x1, x2, x3⟩ := KK
  go_wp2_with fail
  refine (refAccel_calls a0.v a1.v a2.v _ a0.ok a1.ok a2.ok).mono ?_
  rw [IA.out]
  rintro e w13 ⟨rfl, hc⟩
  replace HC := hide (HC.out.trans hc (D := []) (by simp))
  replace ob := hide (ob.out.chg hc (by simp))
  have KK := keep20 hc g0_0 g0_1 g0_2 g0_3 g1_0 g1_1 g1_2 g1_3 g1_4 g1_5 g1_6 g1_7 g1_8 g2_0 g2_1 g2_2 x0 x1 x2 x3
  clear hc g0_0 g0_1 g0_2 g0_3 g1_0 g1_1 g1_2 g1_3 g1_4 g1_5 g1_6 g1_7 g1_8 g2_0 g2_1 g2_2 x0 x1 x2 x3
  obtain ⟨g0_0, g0_1, g0_2, g0_3, g1_0, g1_1, g1_2, g1_3, g1_4, g1_5, g1_6, g1_7, g1_8, g2_0, g2_1, g2_2, x0, x1, x2, x3⟩ := KK
  go_wp2_with fail
  refine (refAccel_calls b0.v b1.v b2.v _ b0.ok b1.ok b2.ok).mono ?_
  rw [JA.out]
  rintro e w14 ⟨rfl, hc⟩
  replace HC := hide (HC.out.trans hc (D := []) (by simp))
  replace ob := hide (ob.out.chg hc (by simp))
  have KK := keep20 hc g0_0 g0_1 g0_2 g0_3 g1_0 g1_1 g1_2 g1_3 g1_4 g1_5 g1_6 g1_7 g1_8 g2_0 g2_1 g2_2 x0 x1 x2 x3
  clear hc g0_0 g0_1 g0_2 g0_3 g1_0 g1_1 g1_2 g1_3 g1_4 g1_5 g1_6 g1_7 g1_8 g2_0 g2_1 g2_2 x0 x1 x2 x3
  obtain ⟨g0_0, g0_1, g0_2, g0_3, g1_0, g1_1, g1_2, g1_3, g1_4, g1_5, g1_6, g1_7, g1_8, g2_0, g2_1, g2_2, x0, x1, x2, x3⟩ := KK
  clear g1_0 g1_1 g1_2 g1_3 g1_4 g1_5 g1_6 g1_7 g1_8 g2_0 g2_1 g2_2
  have y0 := ob.out.cell' (i := 0) rfl
  have y1 := ob.out.cell' (i := 1) rfl
  have y2 := ob.out.cell' (i := 2) rfl
  have y3 := ob.out.cell' (i := 3) rfl
  have y4 := ob.out.cell' (i := 4) rfl
  have y5 := ob.out.cell' (i := 5) rfl
  have y6 := ob.out.cell' (i := 6) rfl
  have y7 := ob.out.cell' (i := 7) rfl
  have y8 := ob.out.cell' (i := 8) rfl
  clear ob
  go_wp2_with fail
  refine (next_calls a b c d u0 u1 u2 a0 a1 a2 v0 v1 v2 _).mono ?_
  rw [H2.out, G1.out]
  rintro e w15 ⟨rfl, hc⟩
  replace HC := hide (HC.out.trans hc (D := []) (by simp))
  have zb := Blk.new w15 28 [.int .i32 x.a.v, .int .i32 x.b.v, .int .i32 x.c.v, .int .i32 x.d.v]
  have z0 := zb.cell' (i := 0) rfl
  have z1 := zb.cell' (i := 1) rfl
  have z2 := zb.cell' (i := 2) rfl
  have z3 := zb.cell' (i := 3) rfl
  have hz := (Chg.refl w15 []).alloc (.cells #[.int .i32 x.a.v, .int .i32 x.b.v, .int .i32 x.c.v, .int .i32 x.d.v] 28)
  replace x0 := hz.cell (hc.cell x0 (by simp)) (by simp)
  replace x1 := hz.cell (hc.cell x1 (by simp)) (by simp)
  replace x2 := hz.cell (hc.cell x2 (by simp)) (by simp)
  replace x3 := hz.cell (hc.cell x3 (by simp)) (by simp)
  replace HC := hide (HC.out.alloc (.cells #[.int .i32 x.a.v, .int .i32 x.b.v, .int .i32 x.c.v, .int .i32 x.d.v] 28))
  clear hc hz zb y0 y1 y2 y3 y4 y5 y6 y7 y8 g0_0 g0_1 g0_2 g0_3
  have EQ := eql_quat x.a.v x.b.v x.c.v x.d.v
  go_wp2_with fail
  refine (awake34_calls _).mono ?_
  rintro e w17 ⟨rfl, hc⟩
  replace HC := hide (HC.out.trans hc (D := []) (by simp))
  clear hc
  go_wp2
  go_ret
  exact ⟨rfl, HC.out⟩
set_option maxRecDepth 100000 in
set_option maxHeartbeats 8000000 in
theorem gates_t_ff (a b c d u0 u1 u2 a0 a1 a2 v0 v1 v2 b0 b1 b2 n0 n1 n2 : Wd) (x : Q4) (F G : Int)
    (H1 : Hid (sensedW a b c d u0 u1 u2 a0 a1 a2 v0 v1 v2 = x)) (H2 : Hid (sensedW a b c d u0 u1 u2 b0 b1 b2 n0 n1 n2 = x)) (F1 : Hid (flagsI (sensedA a0 a1 a2) (sensedM v0 v1 v2) = F)) (G1 : Hid (flagsI (sensedA b0 b1 b2) (sensedM n0 n1 n2) = G))
    (fa : bits BinOp.and IntKind.i64 F 2 = 2) (fm : bits BinOp.and IntKind.i64 F 4 = 0) (fr : bits BinOp.andNot IntKind.i64 F 6 = 0) (fg : bits BinOp.and IntKind.i64 G 2 = 2)
    (IA : Hid (inside 16777216 150994944 a0.v a1.v a2.v = false)) (IM : Hid (inside 1000000 400000000 v0.v v1.v v2.v = true))
    (JA : Hid (inside 16777216 150994944 b0.v b1.v b2.v = false))
    (w : World) : Calls Tryz.prog 10 #[.agg #[.int .i32 a.v, .int .i32 b.v, .int .i32 c.v, .int .i32 d.v], .agg #[.int .i32 u0.v, .int .i32 u1.v, .int .i32 u2.v, .int .i32 a0.v, .int .i32 a1.v, .int .i32 a2.v, .int .i32 v0.v, .int .i32 v1.v, .int .i32 v2.v], .agg #[.int .i32 b0.v, .int .i32 b1.v, .int .i32 b2.v], .agg #[.int .i32 n0.v, .int .i32 n1.v, .int .i32 n2.v]] w fun e w' => e = .returned (.bool true) ∧ Chg w w' [] := by
  obtain ⟨g0_0, g0_1, g0_2, g0_3, g1_0, g1_1, g1_2, g1_3, g1_4, g1_5, g1_6, g1_7, g1_8, g2_0, g2_1, g2_2, g3_0, g3_1, g3_2, lq, HC⟩ := gates_boxes a b c d u0 u1 u2 a0 a1 a2 v0 v1 v2 b0 b1 b2 n0 n1 n2 w
  replace HC := hide HC
  go_enter Tryz.func10, Tryz.ntmps10
  go_wp2_with fail
  generalize ((((w.alloc (.cells #[.int .i32 a.v, .int .i32 b.v, .int .i32 c.v, .int .i32 d.v] 28)).alloc (.cells #[.int .i32 u0.v, .int .i32 u1.v, .int .i32 u2.v, .int .i32 a0.v, .int .i32 a1.v, .int .i32 a2.v, .int .i32 v0.v, .int .i32 v1.v, .int .i32 v2.v] 41)).alloc (.cells #[.int .i32 b0.v, .int .i32 b1.v, .int .i32 b2.v] 22)).alloc (.cells #[.int .i32 n0.v, .int .i32 n1.v, .int .i32 n2.v] 22)) = w6 at *
  refine (next_calls a b c d u0 u1 u2 a0 a1 a2 v0 v1 v2 _).mono ?_
  rw [H1.out, F1.out]
  rintro e w7 ⟨rfl, hc⟩
  have HC7 := hide (HC.out.trans hc (D := []) (by simp))
  have xb := Blk.new w7 28 [.int .i32 x.a.v, .int .i32 x.b.v, .int .i32 x.c.v, .int .i32 x.d.v]
  have x0 := xb.cell' (i := 0) rfl
  have x1 := xb.cell' (i := 1) rfl
  have x2 := xb.cell' (i := 2) rfl
  have x3 := xb.cell' (i := 3) rfl
  have hz := (Chg.refl w7 []).alloc (.cells #[.int .i32 x.a.v, .int .i32 x.b.v, .int .i32 x.c.v, .int .i32 x.d.v] 28)
  replace g0_0 := hz.cell (hc.cell g0_0 (by simp)) (by simp)
  replace g0_1 := hz.cell (hc.cell g0_1 (by simp)) (by simp)
  replace g0_2 := hz.cell (hc.cell g0_2 (by simp)) (by simp)
  replace g0_3 := hz.cell (hc.cell g0_3 (by simp)) (by simp)
  replace g1_0 := hz.cell (hc.cell g1_0 (by simp)) (by simp)
  replace g1_1 := hz.cell (hc.cell g1_1 (by simp)) (by simp)
  replace g1_2 := hz.cell (hc.cell g1_2 (by simp)) (by simp)
  replace g1_3 := hz.cell (hc.cell g1_3 (by simp)) (by simp)
  replace g1_4 := hz.cell (hc.cell g1_4 (by simp)) (by simp)
  replace g1_5 := hz.cell (hc.cell g1_5 (by simp)) (by simp)
  replace g1_6 := hz.cell (hc.cell g1_6 (by simp)) (by simp)
  replace g1_7 := hz.cell (hc.cell g1_7 (by simp)) (by simp)
  replace g1_8 := hz.cell (hc.cell g1_8 (by simp)) (by simp)
  replace g2_0 := hz.cell (hc.cell g2_0 (by simp)) (by simp)
  replace g2_1 := hz.cell (hc.cell g2_1 (by simp)) (by simp)
  replace g2_2 := hz.cell (hc.cell g2_2 (by simp)) (by simp)
  replace g3_0 := hz.cell (hc.cell g3_0 (by simp)) (by simp)
  replace g3_1 := hz.cell (hc.cell g3_1 (by simp)) (by simp)
  replace g3_2 := hz.cell (hc.cell g3_2 (by simp)) (by simp)
  replace HC := hide (HC7.out.alloc (.cells #[.int .i32 x.a.v, .int .i32 x.b.v, .int .i32 x.c.v, .int .i32 x.d.v] 28))
  have lx := xb.lt
  replace lq := Nat.lt_of_lt_of_le lq (Nat.le_trans hc.size hz.size)
  clear hc hz xb HC7
  go_wp2_with fail
  generalize w7.alloc (.cells #[.int .i32 x.a.v, .int .i32 x.b.v, .int .i32 x.c.v, .int .i32 x.d.v] 28) = w8 at *
  generalize w7.heap.size = xa at *
  refine (refAccel_calls a0.v a1.v a2.v _ a0.ok a1.ok a2.ok).mono ?_
  rw [IA.out]
  rintro e w9 ⟨rfl, hc⟩
  replace HC := hide (HC.out.trans hc (D := []) (by simp))
  replace lq := Nat.lt_of_lt_of_le lq hc.size
  replace lx := Nat.lt_of_lt_of_le lx hc.size
  have KK := keep23 hc g0_0 g0_1 g0_2 g0_3 g1_0 g1_1 g1_2 g1_3 g1_4 g1_5 g1_6 g1_7 g1_8 g2_0 g2_1 g2_2 g3_0 g3_1 g3_2 x0 x1 x2 x3
  clear hc g0_0 g0_1 g0_2 g0_3 g1_0 g1_1 g1_2 g1_3 g1_4 g1_5 g1_6 g1_7 g1_8 g2_0 g2_1 g2_2 g3_0 g3_1 g3_2 x0 x1 x2 x3
  obtain ⟨g0_0, g0_1, g0_2, g0_3, g1_0, g1_1, g1_2, g1_3, g1_4, g1_5, g1_6, g1_7, g1_8, g2_0, g2_1, g2_2, g3_0, g3_1, g3_2, x0, x1, x2, x3⟩ := KK
  go_wp2_with fail
  refine (refMag_calls v0.v v1.v v2.v _ v0.ok v1.ok v2.ok).mono ?_
  rw [IM.out]
  rintro e w10 ⟨rfl, hc⟩
  replace HC := hide (HC.out.trans hc (D := []) (by simp))
  replace lq := Nat.lt_of_lt_of_le lq hc.size
  replace lx := Nat.lt_of_lt_of_le lx hc.size
  have KK := keep23 hc g0_0 g0_1 g0_2 g0_3 g1_0 g1_1 g1_2 g1_3 g1_4 g1_5 g1_6 g1_7 g1_8 g2_0 g2_1 g2_2 g3_0 g3_1 g3_2 x0 x1 x2 x3
  clear hc g0_0 g0_1 g0_2 g0_3 g1_0 g1_1 g1_2 g1_3 g1_4 g1_5 g1_6 g1_7 g1_8 g2_0 g2_1 g2_2 g3_0 g3_1 g3_2 x0 x1 x2 x3
  obtain ⟨g0_0, g0_1, g0_2, g0_3, g1_0, g1_1, g1_2, g1_3, g1_4, g1_5, g1_6, g1_7, g1_8, g2_0, g2_1, g2_2, g3_0, g3_1, g3_2, x0, x1, x2, x3⟩ := KK
  go_upto_region 5 with (fail)
  have ob := Blk.new w10 41 [.int .i32 u0.v, .int .i32 u1.v, .int .i32 u2.v, .int .i32 a0.v, .int .i32 a1.v, .int .i32 a2.v, .int .i32 v0.v, .int .i32 v1.v, .int .i32 v2.v]
  have hz := (Chg.refl w10 []).alloc (.cells #[.int .i32 u0.v, .int .i32 u1.v, .int .i32 u2.v, .int .i32 a0.v, .int .i32 a1.v, .int .i32 a2.v, .int .i32 v0.v, .int .i32 v1.v, .int .i32 v2.v] 41)
  have lo := HC.out.size
  replace HC := hide (HC.out.alloc (.cells #[.int .i32 u0.v, .int .i32 u1.v, .int .i32 u2.v, .int .i32 a0.v, .int .i32 a1.v, .int .i32 a2.v, .int .i32 v0.v, .int .i32 v1.v, .int .i32 v2.v] 41))
  have KK := keep23 hz g0_0 g0_1 g0_2 g0_3 g1_0 g1_1 g1_2 g1_3 g1_4 g1_5 g1_6 g1_7 g1_8 g2_0 g2_1 g2_2 g3_0 g3_1 g3_2 x0 x1 x2 x3
  clear hz g0_0 g0_1 g0_2 g0_3 g1_0 g1_1 g1_2 g1_3 g1_4 g1_5 g1_6 g1_7 g1_8 g2_0 g2_1 g2_2 g3_0 g3_1 g3_2 x0 x1 x2 x3
  obtain ⟨g0_0, g0_1, g0_2, g0_3, g1_0, g1_1, g1_2, g1_3, g1_4, g1_5, g1_6, g1_7, g1_8, g2_0, g2_1, g2_2, g3_0, g3_1, g3_2, x0, x1, x2, x3⟩ := KK
  generalize w10.alloc (.cells #[.int .i32 u0.v, .int .i32 u1.v, .int .i32 u2.v, .int .i32 a0.v, .int .i32 a1.v, .int .i32 a2.v, .int .i32 v0.v, .int .i32 v1.v, .int .i32 v2.v] 41) = w11 at *
  generalize w10.heap.size = oa at *
  replace ob := hide ob
  go_wp2_with fail
  refine (refMag_calls v0.v v1.v v2.v _ v0.ok v1.ok v2.ok).mono ?_
  rw [IM.out]
  rintro e w12 ⟨rfl, hc⟩
  replace HC := hide (HC.out.trans hc (D := []) (by simp))
  replace ob := hide (ob.out.chg hc (by simp))
  have KK := keep23 hc g0_0 g0_1 g0_2 g0_3 g1_0 g1_1 g1_2 g1_3 g1_4 g1_5 g1_6 g1_7 g1_8 g2_0 g2_1 g2_2 g3_0 g3_1 g3_2 x0 x1 x2 x3
  clear hc g0_0 g0_1 g0_2 g0_3 g1_0 g1_1 g1_2 g1_3 g1_4 g1_5 g1_6 g1_7 g1_8 g2_0 g2_1 g2_2 g3_0 g3_1 g3_2 x0 x1 x2 x3
  obtain ⟨g0_0, g0_1, g0_2, g0_3, g1_0, g1_1, g1_2, g1_3, g1_4, g1_5, g1_6, g1_7, g1_8, g2_0, g2_1, g2_2, g3_0, g3_1, g3_2, x0, x1, x2, x3⟩ := KK
  go_wp2_with fail
  refine (refAccel_calls a0.v a1.v a2.v _ a0.ok a1.ok a2.ok).mono ?_
  rw [IA.out]
  rintro e w13 ⟨rfl, hc⟩
  replace HC := hide (HC.out.trans hc (D := []) (by simp))
  replace ob := hide (ob.out.chg hc (by simp))
  have KK := keep23 hc g0_0 g0_1 g0_2 g0_3 g1_0 g1_1 g1_2 g1_3 g1_4 g1_5 g1_6 g1_7 g1_8 g2_0 g2_1 g2_2 g3_0 g3_1 g3_2 x0 x1 x2 x3
  clear hc g0_0 g0_1 g0_2 g0_3 g1_0 g1_1 g1_2 g1_3 g1_4 g1_5 g1_6 g1_7 g1_8 g2_0 g2_1 g2_2 g3_0 g3_1 g3_2 x0 x1 x2 x3
  obtain ⟨g0_0, g0_1, g0_2, g0_3, g1_0, g1_1, g1_2, g1_3, g1_4, g1_5, g1_6, g1_7, g1_8, g2_0, g2_1, g2_2, g3_0, g3_1, g3_2, x0, x1, x2, x3⟩ := KK
  go_wp2_with fail
  refine (refAccel_calls b0.v b1.v b2.v _ b0.ok b1.ok b2.ok).mono ?_
  rw [JA.out]
  rintro e w14 ⟨rfl, hc⟩
  replace HC := hide (HC.out.trans hc (D := []) (by simp))
  replace ob := hide (ob.out.chg hc (by simp))
  have KK := keep23 hc g0_0 g0_1 g0_2 g0_3 g1_0 g1_1 g1_2 g1_3 g1_4 g1_5 g1_6 g1_7 g1_8 g2_0 g2_1 g2_2 g3_0 g3_1 g3_2 x0 x1 x2 x3
  clear hc g0_0 g0_1 g0_2 g0_3 g1_0 g1_1 g1_2 g1_3 g1_4 g1_5 g1_6 g1_7 g1_8 g2_0 g2_1 g2_2 g3_0 g3_1 g3_2 x0 x1 x2 x3
  obtain ⟨g0_0, g0_1, g0_2, g0_3, g1_0, g1_1, g1_2, g1_3, g1_4, g1_5, g1_6, g1_7, g1_8, g2_0, g2_1, g2_2, g3_0, g3_1, g3_2, x0, x1, x2, x3⟩ := KK
  have y3 := ob.out.cell' (i := 3) rfl
  have y4 := ob.out.cell' (i := 4) rfl
  have y5 := ob.out.cell' (i := 5) rfl
  have y6 := ob.out.cell' (i := 6) rfl
  have y7 := ob.out.cell' (i := 7) rfl
  have y8 := ob.out.cell' (i := 8) rfl
  have f3 := ob.out.frozen 3
  have f4 := ob.out.frozen 4
  have f5 := ob.out.frozen 5
  have f6 := ob.out.frozen 6
  have f7 := ob.out.frozen 7
  have f8 := ob.out.frozen 8
  go_upto_region 10 with (fail)
  clear y3 f3 y4 f4 y5 f5 y6 f6 y7 f7 y8 f8
  have hz := (((((((Chg.refl w14 [oa]).setCell ⟨oa, 3, none⟩ (.int .i32 b0.v) (.inl (by simp))).setCell ⟨oa, 4, none⟩ (.int .i32 b1.v) (.inl (by simp))).setCell ⟨oa, 5, none⟩ (.int .i32 b2.v) (.inl (by simp))).setCell ⟨oa, 6, none⟩ (.int .i32 n0.v) (.inl (by simp))).setCell ⟨oa, 7, none⟩ (.int .i32 n1.v) (.inl (by simp))).setCell ⟨oa, 8, none⟩ (.int .i32 n2.v) (.inl (by simp)))
  replace HC := hide ((((((HC.out.setCell ⟨oa, 3, none⟩ (.int .i32 b0.v) (.inr lo)).setCell ⟨oa, 4, none⟩ (.int .i32 b1.v) (.inr lo)).setCell ⟨oa, 5, none⟩ (.int .i32 b2.v) (.inr lo)).setCell ⟨oa, 6, none⟩ (.int .i32 n0.v) (.inr lo)).setCell ⟨oa, 7, none⟩ (.int .i32 n1.v) (.inr lo)).setCell ⟨oa, 8, none⟩ (.int .i32 n2.v) (.inr lo))
  replace g0_0 := hz.cell g0_0 (by simp only [List.mem_singleton]; omega)
  replace g0_1 := hz.cell g0_1 (by simp only [List.mem_singleton]; omega)
  replace g0_2 := hz.cell g0_2 (by simp only [List.mem_singleton]; omega)
  replace g0_3 := hz.cell g0_3 (by simp only [List.mem_singleton]; omega)
  replace g1_0 := hz.cell g1_0 (by simp only [List.mem_singleton]; omega)
  replace g1_1 := hz.cell g1_1 (by simp only [List.mem_singleton]; omega)
  replace g1_2 := hz.cell g1_2 (by simp only [List.mem_singleton]; omega)
  replace g1_3 := hz.cell g1_3 (by simp only [List.mem_singleton]; omega)
  replace g1_4 := hz.cell g1_4 (by simp only [List.mem_singleton]; omega)
  replace g1_5 := hz.cell g1_5 (by simp only [List.mem_singleton]; omega)
  replace g1_6 := hz.cell g1_6 (by simp only [List.mem_singleton]; omega)
  replace g1_7 := hz.cell g1_7 (by simp only [List.mem_singleton]; omega)
  replace g1_8 := hz.cell g1_8 (by simp only [List.mem_singleton]; omega)
  replace g2_0 := hz.cell g2_0 (by simp only [List.mem_singleton]; omega)
  replace g2_1 := hz.cell g2_1 (by simp only [List.mem_singleton]; omega)
  replace g2_2 := hz.cell g2_2 (by simp only [List.mem_singleton]; omega)
  replace g3_0 := hz.cell g3_0 (by simp only [List.mem_singleton]; omega)
  replace g3_1 := hz.cell g3_1 (by simp only [List.mem_singleton]; omega)
  replace g3_2 := hz.cell g3_2 (by simp only [List.mem_singleton]; omega)
  replace x0 := hz.cell x0 (by simp only [List.mem_singleton]; omega)
  replace x1 := hz.cell x1 (by simp only [List.mem_singleton]; omega)
  replace x2 := hz.cell x2 (by simp only [List.mem_singleton]; omega)
  replace x3 := hz.cell x3 (by simp only [List.mem_singleton]; omega)
  replace ob : Hid (Blk _ oa 41 [.int .i32 u0.v, .int .i32 u1.v, .int .i32 u2.v, .int .i32 b0.v, .int .i32 b1.v, .int .i32 b2.v, .int .i32 n0.v, .int .i32 n1.v, .int .i32 n2.v]) := hide ((((((ob.out.set_ 3 (.int .i32 b0.v)).set_ 4 (.int .i32 b1.v)).set_ 5 (.int .i32 b2.v)).set_ 6 (.int .i32 n0.v)).set_ 7 (.int .i32 n1.v)).set_ 8 (.int .i32 n2.v))
  clear hz
  generalize ((((((w14.setCell ⟨oa, 3, none⟩ (.int .i32 b0.v)).setCell ⟨oa, 4, none⟩ (.int .i32 b1.v)).setCell ⟨oa, 5, none⟩ (.int .i32 b2.v)).setCell ⟨oa, 6, none⟩ (.int .i32 n0.v)).setCell ⟨oa, 7, none⟩ (.int .i32 n1.v)).setCell ⟨oa, 8, none⟩ (.int .i32 n2.v)) = w15 at *
  clear g1_0 g1_1 g1_2 g1_3 g1_4 g1_5 g1_6 g1_7 g1_8 g2_0 g2_1 g2_2 g3_0 g3_1 g3_2
  have y0 := ob.out.cell' (i := 0) rfl
  have y1 := ob.out.cell' (i := 1) rfl
  have y2 := ob.out.cell' (i := 2) rfl
  have y3 := ob.out.cell' (i := 3) rfl
  have y4 := ob.out.cell' (i := 4) rfl
  have y5 := ob.out.cell' (i := 5) rfl
  have y6 := ob.out.cell' (i := 6) rfl
  have y7 := ob.out.cell' (i := 7) rfl
  have y8 := ob.out.cell' (i := 8) rfl
  clear ob
  go_wp2_with fail
  refine (next_calls a b c d u0 u1 u2 b0 b1 b2 n0 n1 n2 _).mono ?_
  rw [H2.out, G1.out]
  rintro e w16 ⟨rfl, hc⟩
  replace HC := hide (HC.out.trans hc (D := []) (by simp))
  have zb := Blk.new w16 28 [.int .i32 x.a.v, .int .i32 x.b.v, .int .i32 x.c.v, .int .i32 x.d.v]
  have z0 := zb.cell' (i := 0) rfl
  have z1 := zb.cell' (i := 1) rfl
  have z2 := zb.cell' (i := 2) rfl
  have z3 := zb.cell' (i := 3) rfl
  have hz := (Chg.refl w16 []).alloc (.cells #[.int .i32 x.a.v, .int .i32 x.b.v, .int .i32 x.c.v, .int .i32 x.d.v] 28)
  replace x0 := hz.cell (hc.cell x0 (by simp)) (by simp)
  replace x1 := hz.cell (hc.cell x1 (by simp)) (by simp)
  replace x2 := hz.cell (hc.cell x2 (by simp)) (by simp)
  replace x3 := hz.cell (hc.cell x3 (by simp)) (by simp)
  replace HC := hide (HC.out.alloc (.cells #[.int .i32 x.a.v, .int .i32 x.b.v, .int .i32 x.c.v, .int .i32 x.d.v] 28))
  clear hc hz zb y0 y1 y2 y3 y4 y5 y6 y7 y8 g0_0 g0_1 g0_2 g0_3
  have EQ := eql_quat x.a.v x.b.v x.c.v x.d.v
  go_wp2_with fail
  refine (awake34_calls _).mono ?_
  rintro e w18 ⟨rfl, hc⟩
  replace HC := hide (HC.out.trans hc (D := []) (by simp))
  clear hc
  go_wp2
  go_ret
  exact ⟨rfl, HC.out⟩
set_option maxRecDepth 100000 in
set_option maxHeartbeats 8000000 in
theorem gates_ft_t (a b c d u0 u1 u2 a0 a1 a2 v0 v1 v2 b0 b1 b2 n0 n1 n2 : Wd) (x : Q4) (F G : Int)
    (H1 : Hid (sensedW a b c d u0 u1 u2 a0 a1 a2 v0 v1 v2 = x)) (H2 : Hid (sensedW a b c d u0 u1 u2 a0 a1 a2 v0 v1 v2 = x)) (F1 : Hid (flagsI (sensedA a0 a1 a2) (sensedM v0 v1 v2) = F)) (G1 : Hid (flagsI (sensedA a0 a1 a2) (sensedM v0 v1 v2) = G))
    (fa : bits BinOp.and IntKind.i64 F 2 = 0) (fm : bits BinOp.and IntKind.i64 F 4 = 4) (fr : bits BinOp.andNot IntKind.i64 F 6 = 0) (fg : bits BinOp.and IntKind.i64 G 2 = 0)
    (IA : Hid (inside 16777216 150994944 a0.v a1.v a2.v = true)) (IM : Hid (inside 1000000 400000000 v0.v v1.v v2.v = false))
    (JM : Hid (inside 1000000 400000000 n0.v n1.v n2.v = true))
    (w : World) : Calls Tryz.prog 10 #[.agg #[.int .i32 a.v, .int .i32 b.v, .int .i32 c.v, .int .i32 d.v], .agg #[.int .i32 u0.v, .int .i32 u1.v, .int .i32 u2.v, .int .i32 a0.v, .int .i32 a1.v, .int .i32 a2.v, .int .i32 v0.v, .int .i32 v1.v, .int .i32 v2.v], .agg #[.int .i32 b0.v, .int .i32 b1.v, .int .i32 b2.v], .agg #[.int .i32 n0.v, .int .i32 n1.v, .int .i32 n2.v]] w fun e w' => e = .returned (.bool true) ∧ Chg w w' [] := by
  obtain ⟨g0_0, g0_1, g0_2, g0_3, g1_0, g1_1, g1_2, g1_3, g1_4, g1_5, g1_6, g1_7, g1_8, g2_0, g2_1, g2_2, g3_0, g3_1, g3_2, lq, HC⟩ := gates_boxes a b c d u0 u1 u2 a0 a1 a2 v0 v1 v2 b0 b1 b2 n0 n1 n2 w
  replace HC := hide HC
  go_enter Tryz.func10, Tryz.ntmps10
  go_wp2_with fail
  generalize ((((w.alloc (.cells #[.int .i32 a.v, .int .i32 b.v, .int .i32 c.v, .int .i32 d.v] 28)).alloc (.cells #[.int .i32 u0.v, .int .i32 u1.v, .int .i32 u2.v, .int .i32 a0.v, .int .i32 a1.v, .int .i32 a2.v, .int .i32 v0.v, .int .i32 v1.v, .int .i32 v2.v] 41)).alloc (.cells #[.int .i32 b0.v, .int .i32 b1.v, .int .i32 b2.v] 22)).alloc (.cells #[.int .i32 n0.v, .int .i32 n1.v, .int .i32 n2.v] 22)) = w6 at *
  refine (next_calls a b c d u0 u1 u2 a0 a1 a2 v0 v1 v2 _).mono ?_
  rw [H1.out, F1.out]
  rintro e w7 ⟨rfl, hc⟩
  have HC7 := hide (HC.out.trans hc (D := []) (by simp))
  have xb := Blk.new w7 28 [.int .i32 x.a.v, .int .i32 x.b.v, .int .i32 x.c.v, .int .i32 x.d.v]
  have x0 := xb.cell' (i := 0) rfl
  have x1 := xb.cell' (i := 1) rfl
  have x2 := xb.cell' (i := 2) rfl
  have x3 := xb.cell' (i := 3) rfl
  have hz := (Chg.refl w7 []).alloc (.cells #[.int .i32 x.a.v, .int .i32 x.b.v, .int .i32 x.c.v, .int .i32 x.d.v] 28)
  replace g0_0 := hz.cell (hc.cell g0_0 (by simp)) (by simp)
  replace g0_1 := hz.cell (hc.cell g0_1 (by simp)) (by simp)
  replace g0_2 := hz.cell (hc.cell g0_2 (by simp)) (by simp)
  replace g0_3 := hz.cell (hc.cell g0_3 (by simp)) (by simp)
  replace g1_0 := hz.cell (hc.cell g1_0 (by simp)) (by simp)
  replace g1_1 := hz.cell (hc.cell g1_1 (by simp)) (by simp)
  replace g1_2 := hz.cell (hc.cell g1_2 (by simp)) (by simp)
  replace g1_3 := hz.cell (hc.cell g1_3 (by simp)) (by simp)
  replace g1_4 := hz.cell (hc.cell g1_4 (by simp)) (by simp)
  replace g1_5 := hz.cell (hc.cell g1_5 (by simp)) (by simp)
  replace g1_6 := hz.cell (hc.cell g1_6 (by simp)) (by simp)
  replace g1_7 := hz.cell (hc.cell g1_7 (by simp)) (by simp)
  replace g1_8 := hz.cell (hc.cell g1_8 (by simp)) (by simp)
  replace g2_0 := hz.cell (hc.cell g2_0 (by simp)) (by simp)
  replace g2_1 := hz.cell (hc.cell g2_1 (by simp)) (by simp)
  replace g2_2 := hz.cell (hc.cell g2_2 (by simp)) (by simp)
  replace g3_0 := hz.cell (hc.cell g3_0 (by simp)) (by simp)
  replace g3_1 := hz.cell (hc.cell g3_1 (by simp)) (by simp)
  replace g3_2 := hz.cell (hc.cell g3_2 (by simp)) (by simp)
  replace HC := hide (HC7.out.alloc (.cells #[.int .i32 x.a.v, .int .i32 x.b.v, .int .i32 x.c.v, .int .i32 x.d.v] 28))
  have lx := xb.lt
  replace lq := Nat.lt_of_lt_of_le lq (Nat.le_trans hc.size hz.size)
  clear hc hz xb HC7
  clear g2_0 g2_1 g2_2
  go_wp2_with fail
  generalize w7.alloc (.cells #[.int .i32 x.a.v, .int .i32 x.b.v, .int .i32 x.c.v, .int .i32 x.d.v] 28) = w8 at *
  generalize w7.heap.size = xa at *
  refine (refAccel_calls a0.v a1.v a2.v _ a0.ok a1.ok a2.ok).mono ?_
  rw [IA.out]
  rintro e w9 ⟨rfl, hc⟩
  replace HC := hide (HC.out.trans hc (D := []) (by simp))
  replace lq := Nat.lt_of_lt_of_le lq hc.size
  replace lx := Nat.lt_of_lt_of_le lx hc.size
  have KK := keep20 hc g0_0 g0_1 g0_2 g0_3 g1_0 g1_1 g1_2 g1_3 g1_4 g1_5 g1_6 g1_7 g1_8 g3_0 g3_1 g3_2 x0 x1 x2 x3
  clear hc g0_0 g0_1 g0_2 g0_3 g1_0 g1_1 g1_2 g1_3 g1_4 g1_5 g1_6 g1_7 g1_8 g3_0 g3_1 g3_2 x0 x1 x2 x3
  obtain ⟨g0_0, g0_1, g0_2, g0_3, g1_0, g1_1, g1_2, g1_3, g1_4, g1_5, g1_6, g1_7, g1_8, g3_0, g3_1, g3_2, x0, x1, x2, x3⟩ := KK
  go_wp2_with fail
  refine (refMag_calls v0.v v1.v v2.v _ v0.ok v1.ok v2.ok).mono ?_
  rw [IM.out]
  rintro e w10 ⟨rfl, hc⟩
  replace HC := hide (HC.out.trans hc (D := []) (by simp))
  replace lq := Nat.lt_of_lt_of_le lq hc.size
  replace lx := Nat.lt_of_lt_of_le lx hc.size
  have KK := keep20 hc g0_0 g0_1 g0_2 g0_3 g1_0 g1_1 g1_2 g1_3 g1_4 g1_5 g1_6 g1_7 g1_8 g3_0 g3_1 g3_2 x0 x1 x2 x3
  clear hc g0_0 g0_1 g0_2 g0_3 g1_0 g1_1 g1_2 g1_3 g1_4 g1_5 g1_6 g1_7 g1_8 g3_0 g3_1 g3_2 x0 x1 x2 x3
  obtain ⟨g0_0, g0_1, g0_2, g0_3, g1_0, g1_1, g1_2, g1_3, g1_4, g1_5, g1_6, g1_7, g1_8, g3_0, g3_1, g3_2, x0, x1, x2, x3⟩ := KK
  go_upto_region 5 with (fail)
  have ob := Blk.new w10 41 [.int .i32 u0.v, .int .i32 u1.v, .int .i32 u2.v, .int .i32 a0.v, .int .i32 a1.v, .int .i32 a2.v, .int .i32 v0.v, .int .i32 v1.v, .int .i32 v2.v]
  have hz := (Chg.refl w10 []).alloc (.cells #[.int .i32 u0.v, .int .i32 u1.v, .int .i32 u2.v, .int .i32 a0.v, .int .i32 a1.v, .int .i32 a2.v, .int .i32 v0.v, .int .i32 v1.v, .int .i32 v2.v] 41)
  have lo := HC.out.size
  replace HC := hide (HC.out.alloc (.cells #[.int .i32 u0.v, .int .i32 u1.v, .int .i32 u2.v, .int .i32 a0.v, .int .i32 a1.v, .int .i32 a2.v, .int .i32 v0.v, .int .i32 v1.v, .int .i32 v2.v] 41))
  have KK := keep20 hz g0_0 g0_1 g0_2 g0_3 g1_0 g1_1 g1_2 g1_3 g1_4 g1_5 g1_6 g1_7 g1_8 g3_0 g3_1 g3_2 x0 x1 x2 x3
  clear hz g0_0 g0_1 g0_2 g0_3 g1_0 g1_1 g1_2 g1_3 g1_4 g1_5 g1_6 g1_7 g1_8 g3_0 g3_1 g3_2 x0 x1 x2 x3
  obtain ⟨g0_0, g0_1, g0_2, g0_3, g1_0, g1_1, g1_2, g1_3, g1_4, g1_5, g1_6, g1_7, g1_8, g3_0, g3_1, g3_2, x0, x1, x2, x3⟩ := KK
  generalize w10.alloc (.cells #[.int .i32 u0.v, .int .i32 u1.v, .int .i32 u2.v, .int .i32 a0.v, .int .i32 a1.v, .int .i32 a2.v, .int .i32 v0.v, .int .i32 v1.v, .int .i32 v2.v] 41) = w11 at *
  generalize w10.heap.size = oa at *
  replace ob := hide ob
  go_wp2_with fail
  refine (refMag_calls v0.v v1.v v2.v _ v0.ok v1.ok v2.ok).mono ?_
  rw [IM.out]
  rintro e w12 ⟨rfl, hc⟩
  replace HC := hide (HC.out.trans hc (D := []) (by simp))
  replace ob := hide (ob.out.chg hc (by simp))
  have KK := keep20 hc g0_0 g0_1 g0_2 g0_3 g1_0 g1_1 g1_2 g1_3 g1_4 g1_5 g1_6 g1_7 g1_8 g3_0 g3_1 g3_2 x0 x1 x2 x3
  clear hc g0_0 g0_1 g0_2 g0_3 g1_0 g1_1 g1_2 g1_3 g1_4 g1_5 g1_6 g1_7 g1_8 g3_0 g3_1 g3_2 x0 x1 x2 x3
  obtain ⟨g0_0, g0_1, g0_2, g0_3, g1_0, g1_1, g1_2, g1_3, g1_4, g1_5, g1_6, g1_7, g1_8, g3_0, g3_1, g3_2, x0, x1, x2, x3⟩ := KK
  go_wp2_with fail
  refine (refMag_calls n0.v n1.v n2.v _ n0.ok n1.ok n2.ok).mono ?_
  rw [JM.out]
  rintro e w13 ⟨rfl, hc⟩
  replace HC := hide (HC.out.trans hc (D := []) (by simp))
  replace ob := hide (ob.out.chg hc (by simp))
  have KK := keep20 hc g0_0 g0_1 g0_2 g0_3 g1_0 g1_1 g1_2 g1_3 g1_4 g1_5 g1_6 g1_7 g1_8 g3_0 g3_1 g3_2 x0 x1 x2 x3
  clear hc g0_0 g0_1 g0_2 g0_3 g1_0 g1_1 g1_2 g1_3 g1_4 g1_5 g1_6 g1_7 g1_8 g3_0 g3_1 g3_2 x0 x1 x2 x3
  obtain ⟨g0_0, g0_1, g0_2, g0_3, g1_0, g1_1, g1_2, g1_3, g1_4, g1_5, g1_6, g1_7, g1_8, g3_0, g3_1, g3_2, x0, x1, x2, x3⟩ := KK
  go_wp2_with fail
  refine (refAccel_calls a0.v a1.v a2.v _ a0.ok a1.ok a2.ok).mono ?_
  rw [IA.out]
  rintro e w14 ⟨rfl, hc⟩
  replace HC := hide (HC.out.trans hc (D := []) (by simp))
  replace ob := hide (ob.out.chg hc (by simp))
  have KK := keep20 hc g0_0 g0_1 g0_2 g0_3 g1_0 g1_1 g1_2 g1_3 g1_4 g1_5 g1_6 g1_7 g1_8 g3_0 g3_1 g3_2 x0 x1 x2 x3
  clear hc g0_0 g0_1 g0_2 g0_3 g1_0 g1_1 g1_2 g1_3 g1_4 g1_5 g1_6 g1_7 g1_8 g3_0 g3_1 g3_2 x0 x1 x2 x3
  obtain ⟨g0_0, g0_1, g0_2, g0_3, g1_0, g1_1, g1_2, g1_3, g1_4, g1_5, g1_6, g1_7, g1_8, g3_0, g3_1, g3_2, x0, x1, x2, x3⟩ := KK
  clear g1_0 g1_1 g1_2 g1_3 g1_4 g1_5 g1_6 g1_7 g1_8 g3_0 g3_1 g3_2
  have y0 := ob.out.cell' (i := 0) rfl
  have y1 := ob.out.cell' (i := 1) rfl
  have y2 := ob.out.cell' (i := 2) rfl
  have y3 := ob.out.cell' (i := 3) rfl
  have y4 := ob.out.cell' (i := 4) rfl
  have y5 := ob.out.cell' (i := 5) rfl
  have y6 := ob.out.cell' (i := 6) rfl
  have y7 := ob.out.cell' (i := 7) rfl
  have y8 := ob.out.cell' (i := 8) rfl
  clear ob
  go_wp2_with fail
  refine (next_calls a b c d u0 u1 u2 a0 a1 a2 v0 v1 v2 _).mono ?_
  rw [H2.out, G1.out]
  rintro e w15 ⟨rfl, hc⟩
  replace HC := hide (HC.out.trans hc (D := []) (by simp))
  have zb := Blk.new w15 28 [.int .i32 x.a.v, .int .i32 x.b.v, .int .i32 x.c.v, .int .i32 x.d.v]
  have z0 := zb.cell' (i := 0) rfl
  have z1 := zb.cell' (i := 1) rfl
  have z2 := zb.cell' (i := 2) rfl
  have z3 := zb.cell' (i := 3) rfl
  have hz := (Chg.refl w15 []).alloc (.cells #[.int .i32 x.a.v, .int .i32 x.b.v, .int .i32 x.c.v, .int .i32 x.d.v] 28)
  replace x0 := hz.cell (hc.cell x0 (by simp)) (by simp)
  replace x1 := hz.cell (hc.cell x1 (by simp)) (by simp)
  replace x2 := hz.cell (hc.cell x2 (by simp)) (by simp)
  replace x3 := hz.cell (hc.cell x3 (by simp)) (by simp)
  replace HC := hide (HC.out.alloc (.cells #[.int .i32 x.a.v, .int .i32 x.b.v, .int .i32 x.c.v, .int .i32 x.d.v] 28))
  clear hc hz zb y0 y1 y2 y3 y4 y5 y6 y7 y8 g0_0 g0_1 g0_2 g0_3
  have EQ := eql_quat x.a.v x.b.v x.c.v x.d.v
  go_wp2_with fail
  refine (awake34_calls _).mono ?_
  rintro e w17 ⟨rfl, hc⟩
  replace HC := hide (HC.out.trans hc (D := []) (by simp))
  clear hc
  go_wp2
  go_ret
  exact ⟨rfl, HC.out⟩
set_option maxRecDepth 100000 in
set_option maxHeartbeats 8000000 in
theorem gates_ft_ft (a b c d u0 u1 u2 a0 a1 a2 v0 v1 v2 b0 b1 b2 n0 n1 n2 : Wd) (x : Q4) (F G : Int)
    (H1 : Hid (sensedW a b c d u0 u1 u2 a0 a1 a2 v0 v1 v2 = x)) (H2 : Hid (sensedW a b c d u0 u1 u2 a0 a1 a2 v0 v1 v2 = x)) (F1 : Hid (flagsI (sensedA a0 a1 a2) (sensedM v0 v1 v2) = F)) (G1 : Hid (flagsI (sensedA a0 a1 a2) (sensedM v0 v1 v2) = G))
    (fa : bits BinOp.and IntKind.i64 F 2 = 2) (fm : bits BinOp.and IntKind.i64 F 4 = 4) (fr : bits BinOp.andNot IntKind.i64 F 6 = 0) (fg : bits BinOp.and IntKind.i64 G 2 = 2)
    (IA : Hid (inside 16777216 150994944 a0.v a1.v a2.v = false)) (IM : Hid (inside 1000000 400000000 v0.v v1.v v2.v = false))
    (JA : Hid (inside 16777216 150994944 b0.v b1.v b2.v = true))
    (JM : Hid (inside 1000000 400000000 n0.v n1.v n2.v = true))
    (w : World) : Calls Tryz.prog 10 #[.agg #[.int .i32 a.v, .int .i32 b.v, .int .i32 c.v, .int .i32 d.v], .agg #[.int .i32 u0.v, .int .i32 u1.v, .int .i32 u2.v, .int .i32 a0.v, .int .i32 a1.v, .int .i32 a2.v, .int .i32 v0.v, .int .i32 v1.v, .int .i32 v2.v], .agg #[.int .i32 b0.v, .int .i32 b1.v, .int .i32 b2.v], .agg #[.int .i32 n0.v, .int .i32 n1.v, .int .i32 n2.v]] w fun e w' => e = .returned (.bool true) ∧ Chg w w' [] := by
  obtain ⟨g0_0, g0_1, g0_2, g0_3, g1_0, g1_1, g1_2, g1_3, g1_4, g1_5, g1_6, g1_7, g1_8, g2_0, g2_1, g2_2, g3_0, g3_1, g3_2, lq, HC⟩ := gates_boxes a b c d u0 u1 u2 a0 a1 a2 v0 v1 v2 b0 b1 b2 n0 n1 n2 w
  replace HC := hide HC
  go_enter Tryz.func10, Tryz.ntmps10
  go_wp2_with fail
  generalize ((((w.alloc (.cells #[.int .i32 a.v, .int .i32 b.v, .int .i32 c.v, .int .i32 d.v] 28)).alloc (.cells #[.int .i32 u0.v, .int .i32 u1.v, .int .i32 u2.v, .int .i32 a0.v, .int .i32 a1.v, .int .i32 a2.v, .int .i32 v0.v, .int .i32 v1.v, .int .i32 v2.v] 41)).alloc (.cells #[.int .i32 b0.v, .int .i32 b1.v, .int .i32 b2.v] 22)).alloc (.cells #[.int .i32 n0.v, .int .i32 n1.v, .int .i32 n2.v] 22)) = w6 at *
  refine (next_calls a b c d u0 u1 u2 a0 a1 a2 v0 v1 v2 _).mono ?_
  rw [H1.out, F1.out]
  rintro e w7 ⟨rfl, hc⟩
  have HC7 := hide (HC.out.trans hc (D := []) (by simp))
  have xb := Blk.new w7 28 [.int .i32 x.a.v, .int .i32 x.b.v, .int .i32 x.c.v, .int .i32 x.d.v]
  have x0 := xb.cell' (i := 0) rfl
  have x1 := xb.cell' (i := 1) rfl
  have x2 := xb.cell' (i := 2) rfl
  have x3 := xb.cell' (i := 3) rfl
  have hz := (Chg.refl w7 []).alloc (.cells #[.int .i32 x.a.v, .int .i32 x.b.v, .int .i32 x.c.v, .int .i32 x.d.v] 28)
  replace g0_0 := hz.cell (hc.cell g0_0 (by simp)) (by simp)
  replace g0_1 := hz.cell (hc.cell g0_1 (by simp)) (by simp)
  replace g0_2 := hz.cell (hc.cell g0_2 (by simp)) (by simp)
  replace g0_3 := hz.cell (hc.cell g0_3 (by simp)) (by simp)
  replace g1_0 := hz.cell (hc.cell g1_0 (by simp)) (by simp)
  replace g1_1 := hz.cell (hc.cell g1_1 (by simp)) (by simp)
  replace g1_2 := hz.cell (hc.cell g1_2 (by simp)) (by simp)
  replace g1_3 := hz.cell (hc.cell g1_3 (by simp)) (by simp)
  replace g1_4 := hz.cell (hc.cell g1_4 (by simp)) (by simp)
  replace g1_5 := hz.cell (hc.cell g1_5 (by simp)) (by simp)
  replace g1_6 := hz.cell (hc.cell g1_6 (by simp)) (by simp)
  replace g1_7 := hz.cell (hc.cell g1_7 (by simp)) (by simp)
  replace g1_8 := hz.cell (hc.cell g1_8 (by simp)) (by simp)
  replace g2_0 := hz.cell (hc.cell g2_0 (by simp)) (by simp)
  replace g2_1 := hz.cell (hc.cell g2_1 (by simp)) (by simp)
  replace g2_2 := hz.cell (hc.cell g2_2 (by simp)) (by simp)
  replace g3_0 := hz.cell (hc.cell g3_0 (by simp)) (by simp)
  replace g3_1 := hz.cell (hc.cell g3_1 (by simp)) (by simp)
  replace g3_2 := hz.cell (hc.cell g3_2 (by simp)) (by simp)
  replace HC := hide (HC7.out.alloc (.cells #[.int .i32 x.a.v, .int .i32 x.b.v, .int .i32 x.c.v, .int .i32 x.d.v] 28))
  have lx := xb.lt
  replace lq := Nat.lt_of_lt_of_le lq (Nat.le_trans hc.size hz.size)
  clear hc hz xb HC7
  go_wp2_with fail
  generalize w7.alloc (.cells #[.int .i32 x.a.v, .int .i32 x.b.v, .int .i32 x.c.v, .int .i32 x.d.v] 28) = w8 at *
  generalize w7.heap.size = xa at *
  refine (refAccel_calls a0.v a1.v a2.v _ a0.ok a1.ok a2.ok).mono ?_
  rw [IA.out]
  rintro e w9 ⟨rfl, hc⟩
  replace HC := hide (HC.out.trans hc (D := []) (by simp))
  replace lq := Nat.lt_of_lt_of_le lq hc.size
  replace lx := Nat.lt_of_lt_of_le lx hc.size
  have KK := keep23 hc g0_0 g0_1 g0_2 g0_3 g1_0 g1_1 g1_2 g1_3 g1_4 g1_5 g1_6 g1_7 g1_8 g2_0 g2_1 g2_2 g3_0 g3_1 g3_2 x0 x1 x2 x3
  clear hc g0_0 g0_1 g0_2 g0_3 g1_0 g1_1 g1_2 g1_3 g1_4 g1_5 g1_6 g1_7 g1_8 g2_0 g2_1 g2_2 g3_0 g3_1 g3_2 x0 x1 x2 x3
  obtain ⟨g0_0, g0_1, g0_2, g0_3, g1_0, g1_1, g1_2, g1_3, g1_4, g1_5, g1_6, g1_7, g1_8, g2_0, g2_1, g2_2, g3_0, g3_1, g3_2, x0, x1, x2, x3⟩ := KK
  go_wp2_with fail
  refine (refMag_calls v0.v v1.v v2.v _ v0.ok v1.ok v2.ok).mono ?_
  rw [IM.out]
  rintro e w10 ⟨rfl, hc⟩
  replace HC := hide (HC.out.trans hc (D := []) (by simp))
  replace lq := Nat.lt_of_lt_of_le lq hc.size
  replace lx := Nat.lt_of_lt_of_le lx hc.size
  have KK := keep23 hc g0_0 g0_1 g0_2 g0_3 g1_0 g1_1 g1_2 g1_3 g1_4 g1_5 g1_6 g1_7 g1_8 g2_0 g2_1 g2_2 g3_0 g3_1 g3_2 x0 x1 x2 x3
  clear hc g0_0 g0_1 g0_2 g0_3 g1_0 g1_1 g1_2 g1_3 g1_4 g1_5 g1_6 g1_7 g1_8 g2_0 g2_1 g2_2 g3_0 g3_1 g3_2 x0 x1 x2 x3
  obtain ⟨g0_0, g0_1, g0_2, g0_3, g1_0, g1_1, g1_2, g1_3, g1_4, g1_5, g1_6, g1_7, g1_8, g2_0, g2_1, g2_2, g3_0, g3_1, g3_2, x0, x1, x2, x3⟩ := KK
  go_upto_region 5 with (fail)
  have ob := Blk.new w10 41 [.int .i32 u0.v, .int .i32 u1.v, .int .i32 u2.v, .int .i32 a0.v, .int .i32 a1.v, .int .i32 a2.v, .int .i32 v0.v, .int .i32 v1.v, .int .i32 v2.v]
  have hz := (Chg.refl w10 []).alloc (.cells #[.int .i32 u0.v, .int .i32 u1.v, .int .i32 u2.v, .int .i32 a0.v, .int .i32 a1.v, .int .i32 a2.v, .int .i32 v0.v, .int .i32 v1.v, .int .i32 v2.v] 41)
  have lo := HC.out.size
  replace HC := hide (HC.out.alloc (.cells #[.int .i32 u0.v, .int .i32 u1.v, .int .i32 u2.v, .int .i32 a0.v, .int .i32 a1.v, .int .i32 a2.v, .int .i32 v0.v, .int .i32 v1.v, .int .i32 v2.v] 41))
  have KK := keep23 hz g0_0 g0_1 g0_2 g0_3 g1_0 g1_1 g1_2 g1_3 g1_4 g1_5 g1_6 g1_7 g1_8 g2_0 g2_1 g2_2 g3_0 g3_1 g3_2 x0 x1 x2 x3
  clear hz g0_0 g0_1 g0_2 g0_3 g1_0 g1_1 g1_2 g1_3 g1_4 g1_5 g1_6 g1_7 g1_8 g2_0 g2_1 g2_2 g3_0 g3_1 g3_2 x0 x1 x2 x3
  obtain ⟨g0_0, g0_1, g0_2, g0_3, g1_0, g1_1, g1_2, g1_3, g1_4, g1_5, g1_6, g1_7, g1_8, g2_0, g2_1, g2_2, g3_0, g3_1, g3_2, x0, x1, x2, x3⟩ := KK
  generalize w10.alloc (.cells #[.int .i32 u0.v, .int .i32 u1.v, .int .i32 u2.v, .int .i32 a0.v, .int .i32 a1.v, .int .i32 a2.v, .int .i32 v0.v, .int .i32 v1.v, .int .i32 v2.v] 41) = w11 at *
  generalize w10.heap.size = oa at *
  replace ob := hide ob
  go_wp2_with fail
  refine (refMag_calls v0.v v1.v v2.v _ v0.ok v1.ok v2.ok).mono ?_
  rw [IM.out]
  rintro e w12 ⟨rfl, hc⟩
  replace HC := hide (HC.out.trans hc (D := []) (by simp))
  replace ob := hide (ob.out.chg hc (by simp))
  have KK := keep23 hc g0_0 g0_1 g0_2 g0_3 g1_0 g1_1 g1_2 g1_3 g1_4 g1_5 g1_6 g1_7 g1_8 g2_0 g2_1 g2_2 g3_0 g3_1 g3_2 x0 x1 x2 x3
  clear hc g0_0 g0_1 g0_2 g0_3 g1_0 g1_1 g1_2 g1_3 g1_4 g1_5 g1_6 g1_7 g1_8 g2_0 g2_1 g2_2 g3_0 g3_1 g3_2 x0 x1 x2 x3
  obtain ⟨g0_0, g0_1, g0_2, g0_3, g1_0, g1_1, g1_2, g1_3, g1_4, g1_5, g1_6, g1_7, g1_8, g2_0, g2_1, g2_2, g3_0, g3_1, g3_2, x0, x1, x2, x3⟩ := KK
  go_wp2_with fail
  refine (refMag_calls n0.v n1.v n2.v _ n0.ok n1.ok n2.ok).mono ?_
  rw [JM.out]
  rintro e w13 ⟨rfl, hc⟩
  replace HC := hide (HC.out.trans hc (D := []) (by simp))
  replace ob := hide (ob.out.chg hc (by simp))
  have KK := keep23 hc g0_0 g0_1 g0_2 g0_3 g1_0 g1_1 g1_2 g1_3 g1_4 g1_5 g1_6 g1_7 g1_8 g2_0 g2_1 g2_2 g3_0 g3_1 g3_2 x0 x1 x2 x3
  clear hc g0_0 g0_1 g0_2 g0_3 g1_0 g1_1 g1_2 g1_3 g1_4 g1_5 g1_6 g1_7 g1_8 g2_0 g2_1 g2_2 g3_0 g3_1 g3_2 x0 x1 x2 x3
  obtain ⟨g0_0, g0_1, g0_2, g0_3, g1_0, g1_1, g1_2, g1_3, g1_4, g1_5, g1_6, g1_7, g1_8, g2_0, g2_1, g2_2, g3_0, g3_1, g3_2, x0, x1, x2, x3⟩ := KK
  go_wp2_with fail
  refine (refAccel_calls a0.v a1.v a2.v _ a0.ok a1.ok a2.ok).mono ?_
  rw [IA.out]
  rintro e w14 ⟨rfl, hc⟩
  replace HC := hide (HC.out.trans hc (D := []) (by simp))
  replace ob := hide (ob.out.chg hc (by simp))
  have KK := keep23 hc g0_0 g0_1 g0_2 g0_3 g1_0 g1_1 g1_2 g1_3 g1_4 g1_5 g1_6 g1_7 g1_8 g2_0 g2_1 g2_2 g3_0 g3_1 g3_2 x0 x1 x2 x3
  clear hc g0_0 g0_1 g0_2 g0_3 g1_0 g1_1 g1_2 g1_3 g1_4 g1_5 g1_6 g1_7 g1_8 g2_0 g2_1 g2_2 g3_0 g3_1 g3_2 x0 x1 x2 x3
  obtain ⟨g0_0, g0_1, g0_2, g0_3, g1_0, g1_1, g1_2, g1_3, g1_4, g1_5, g1_6, g1_7, g1_8, g2_0, g2_1, g2_2, g3_0, g3_1, g3_2, x0, x1, x2, x3⟩ := KK
  go_wp2_with fail
  refine (refAccel_calls b0.v b1.v b2.v _ b0.ok b1.ok b2.ok).mono ?_
  rw [JA.out]
  rintro e w15 ⟨rfl, hc⟩
  replace HC := hide (HC.out.trans hc (D := []) (by simp))
  replace ob := hide (ob.out.chg hc (by simp))
  have KK := keep23 hc g0_0 g0_1 g0_2 g0_3 g1_0 g1_1 g1_2 g1_3 g1_4 g1_5 g1_6 g1_7 g1_8 g2_0 g2_1 g2_2 g3_0 g3_1 g3_2 x0 x1 x2 x3
  clear hc g0_0 g0_1 g0_2 g0_3 g1_0 g1_1 g1_2 g1_3 g1_4 g1_5 g1_6 g1_7 g1_8 g2_0 g2_1 g2_2 g3_0 g3_1 g3_2 x0 x1 x2 x3
  obtain ⟨g0_0, g0_1, g0_2, g0_3, g1_0, g1_1, g1_2, g1_3, g1_4, g1_5, g1_6, g1_7, g1_8, g2_0, g2_1, g2_2, g3_0, g3_1, g3_2, x0, x1, x2, x3⟩ := KK
  clear g1_0 g1_1 g1_2 g1_3 g1_4 g1_5 g1_6 g1_7 g1_8 g2_0 g2_1 g2_2 g3_0 g3_1 g3_2
  have y0 := ob.out.cell' (i := 0) rfl
  have y1 := ob.out.cell' (i := 1) rfl
  have y2 := ob.out.cell' (i := 2) rfl
  have y3 := ob.out.cell' (i := 3) rfl
  have y4 := ob.out.cell' (i := 4) rfl
  have y5 := ob.out.cell' (i := 5) rfl
  have y6 := ob.out.cell' (i := 6) rfl
  have y7 := ob.out.cell' (i := 7) rfl
  have y8 := ob.out.cell' (i := 8) rfl
  clear ob
  go_wp2_with fail
  refine (next_calls a b c d u0 u1 u2 a0 a1 a2 v0 v1 v2 _).mono ?_
  rw [H2.out, G1.out]
  rintro e w16 ⟨rfl, hc⟩
  replace HC := hide (HC.out.trans hc (D := []) (by simp))
  have zb := Blk.new w16 28 [.int .i32 x.a.v, .int .i32 x.b.v, .int .i32 x.c.v, .int .i32 x.d.v]
  have z0 := zb.cell' (i := 0) rfl
  have z1 := zb.cell' (i := 1) rfl
  have z2 := zb.cell' (i := 2) rfl
  have z3 := zb.cell' (i := 3) rfl
  have hz := (Chg.refl w16 []).alloc (.cells #[.int .i32 x.a.v, .int .i32 x.b.v, .int .i32 x.c.v, .int .i32 x.d.v] 28)
  replace x0 := hz.cell (hc.cell x0 (by simp)) (by simp)
  replace x1 := hz.cell (hc.cell x1 (by simp)) (by simp)
  replace x2 := hz.cell (hc.cell x2 (by simp)) (by simp)
  replace x3 := hz.cell (hc.cell x3 (by simp)) (by simp)
  replace HC := hide (HC.out.alloc (.cells #[.int .i32 x.a.v, .int .i32 x.b.v, .int .i32 x.c.v, .int .i32 x.d.v] 28))
  clear hc hz zb y0 y1 y2 y3 y4 y5 y6 y7 y8 g0_0 g0_1 g0_2 g0_3
  have EQ := eql_quat x.a.v x.b.v x.c.v x.d.v
  go_wp2_with fail
  refine (awake34_calls _).mono ?_
  rintro e w18 ⟨rfl, hc⟩
  replace HC := hide (HC.out.trans hc (D := []) (by simp))
  clear hc
  go_wp2
  go_ret
  exact ⟨rfl, HC.out⟩
set_option maxRecDepth 100000 in
set_option maxHeartbeats 8000000 in
theorem gates_ft_ff (a b c d u0 u1 u2 a0 a1 a2 v0 v1 v2 b0 b1 b2 n0 n1 n2 : Wd) (x : Q4) (F G : Int)
    (H1 : Hid (sensedW a b c d u0 u1 u2 a0 a1 a2 v0 v1 v2 = x)) (H2 : Hid (sensedW a b c d u0 u1 u2 b0 b1 b2 n0 n1 n2 = x)) (F1 : Hid (flagsI (sensedA a0 a1 a2) (sensedM v0 v1 v2) = F)) (G1 : Hid (flagsI (sensedA b0 b1 b2) (sensedM n0 n1 n2) = G))
    (fa : bits BinOp.and IntKind.i64 F 2 = 2) (fm : bits BinOp.and IntKind.i64 F 4 = 4) (fr : bits BinOp.andNot IntKind.i64 F 6 = 0) (fg : bits BinOp.and IntKind.i64 G 2 = 2)
    (IA : Hid (inside 16777216 150994944 a0.v a1.v a2.v = false)) (IM : Hid (inside 1000000 400000000 v0.v v1.v v2.v = false))
    (JA : Hid (inside 16777216 150994944 b0.v b1.v b2.v = false))
    (JM : Hid (inside 1000000 400000000 n0.v n1.v n2.v = true))
    (w : World) : Calls Tryz.prog 10 #[.agg #[.int .i32 a.v, .int .i32 b.v, .int .i32 c.v, .int .i32 d.v], .agg #[.int .i32 u0.v, .int .i32 u1.v, .int .i32 u2.v, .int .i32 a0.v, .int .i32 a1.v, .int .i32 a2.v, .int .i32 v0.v, .int .i32 v1.v, .int .i32 v2.v], .agg #[.int .i32 b0.v, .int .i32 b1.v, .int .i32 b2.v], .agg #[.int .i32 n0.v, .int .i32 n1.v, .int .i32 n2.v]] w fun e w' => e = .returned (.bool true) ∧ Chg w w' [] := by
  obtain ⟨g0_0, g0_1, g0_2, g0_3, g1_0, g1_1, g1_2, g1_3, g1_4, g1_5, g1_6, g1_7, g1_8, g2_0, g2_1, g2_2, g3_0, g3_1, g3_2, lq, HC⟩ := gates_boxes a b c d u0 u1 u2 a0 a1 a2 v0 v1 v2 b0 b1 b2 n0 n1 n2 w
  replace HC := hide HC
  go_enter Tryz.func10, Tryz.ntmps10
  go_wp2_with fail
  generalize ((((w.alloc (.cells #[.int .i32 a.v, .int .i32 b.v, .int .i32 c.v, .int .i32 d.v] 28)).alloc (.cells #[.int .i32 u0.v, .int .i32 u1.v, .int .i32 u2.v, .int .i32 a0.v, .int .i32 a1.v, .int .i32 a2.v, .int .i32 v0.v, .int .i32 v1.v, .int .i32 v2.v] 41)).alloc (.cells #[.int .i32 b0.v, .int .i32 b1.v, .int .i32 b2.v] 22)).alloc (.cells #[.int .i32 n0.v, .int .i32 n1.v, .int .i32 n2.v] 22)) = w6 at *
  refine (next_calls a b c d u0 u1 u2 a0 a1 a2 v0 v1 v2 _).mono ?_
  rw [H1.out, F1.out]
  rintro e w7 ⟨rfl, hc⟩
  have HC7 := hide (HC.out.trans hc (D := []) (by simp))
  have xb := Blk.new w7 28 [.int .i32 x.a.v, .int .i32 x.b.v, .int .i32 x.c.v, .int .i32 x.d.v]
  have x0 := xb.cell' (i := 0) rfl
  have x1 := xb.cell' (i := 1) rfl
  have x2 := xb.cell' (i := 2) rfl
  have x3 := xb.cell' (i := 3) rfl
  have hz := (Chg.refl w7 []).alloc (.cells #[.int .i32 x.a.v, .int .i32 x.b.v, .int .i32 x.c.v, .int .i32 x.d.v] 28)
  replace g0_0 := hz.cell (hc.cell g0_0 (by simp)) (by simp)
  replace g0_1 := hz.cell (hc.cell g0_1 (by simp)) (by simp)
  replace g0_2 := hz.cell (hc.cell g0_2 (by simp)) (by simp)
  replace g0_3 := hz.cell (hc.cell g0_3 (by simp)) (by simp)
  replace g1_0 := hz.cell (hc.cell g1_0 (by simp)) (by simp)
  replace g1_1 := hz.cell (hc.cell g1_1 (by simp)) (by simp)
  replace g1_2 := hz.cell (hc.cell g1_2 (by simp)) (by simp)
  replace g1_3 := hz.cell (hc.cell g1_3 (by simp)) (by simp)
  replace g1_4 := hz.cell (hc.cell g1_4 (by simp)) (by simp)
  replace g1_5 := hz.cell (hc.cell g1_5 (by simp)) (by simp)
  replace g1_6 := hz.cell (hc.cell g1_6 (by simp)) (by simp)
  replace g1_7 := hz.cell (hc.cell g1_7 (by simp)) (by simp)
  replace g1_8 := hz.cell (hc.cell g1_8 (by simp)) (by simp)
  replace g2_0 := hz.cell (hc.cell g2_0 (by simp)) (by simp)
  replace g2_1 := hz.cell (hc.cell g2_1 (by simp)) (by simp)
  replace g2_2 := hz.cell (hc.cell g2_2 (by simp)) (by simp)
  replace g3_0 := hz.cell (hc.cell g3_0 (by simp)) (by simp)
  replace g3_1 := hz.cell (hc.cell g3_1 (by simp)) (by simp)
  replace g3_2 := hz.cell (hc.cell g3_2 (by simp)) (by simp)
  replace HC := hide (HC7.out.alloc (.cells #[.int .i32 x.a.v, .int .i32 x.b.v, .int .i32 x.c.v, .int .i32 x.d.v] 28))
  have lx := xb.lt
  replace lq := Nat.lt_of_lt_of_le lq (Nat.le_trans hc.size hz.size)
  clear hc hz xb HC7
  go_wp2_with fail
  generalize w7.alloc (.cells #[.int .i32 x.a.v, .int .i32 x.b.v, .int .i32 x.c.v, .int .i32 x.d.v] 28) = w8 at *
  generalize w7.heap.size = xa at *
  refine (refAccel_calls a0.v a1.v a2.v _ a0.ok a1.ok a2.ok).mono ?_
  rw [IA.out]
  rintro e w9 ⟨rfl, hc⟩
  replace HC := hide (HC.out.trans hc (D := []) (by simp))
  replace lq := Nat.lt_of_lt_of_le lq hc.size
  replace lx := Nat.lt_of_lt_of_le lx hc.size
  have KK := keep23 hc g0_0 g0_1 g0_2 g0_3 g1_0 g1_1 g1_2 g1_3 g1_4 g1_5 g1_6 g1_7 g1_8 g2_0 g2_1 g2_2 g3_0 g3_1 g3_2 x0 x1 x2 x3
  clear hc g0_0 g0_1 g0_2 g0_3 g1_0 g1_1 g1_2 g1_3 g1_4 g1_5 g1_6 g1_7 g1_8 g2_0 g2_1 g2_2 g3_0 g3_1 g3_2 x0 x1 x2 x3
  obtain ⟨g0_0, g0_1, g0_2, g0_3, g1_0, g1_1, g1_2, g1_3, g1_4, g1_5, g1_6, g1_7, g1_8, g2_0, g2_1, g2_2, g3_0, g3_1, g3_2, x0, x1, x2, x3⟩ := KK
  go_wp2_with fail
  refine (refMag_calls v0.v v1.v v2.v _ v0.ok v1.ok v2.ok).mono ?_
  rw [IM.out]
  rintro e w10 ⟨rfl, hc⟩
  replace HC := hide (HC.out.trans hc (D := []) (by simp))
  replace lq := Nat.lt_of_lt_of_le lq hc.size
  replace lx := Nat.lt_of_lt_of_le lx hc.size
  have KK := keep23 hc g0_0 g0_1 g0_2 g0_3 g1_0 g1_1 g1_2 g1_3 g1_4 g1_5 g1_6 g1_7 g1_8 g2_0 g2_1 g2_2 g3_0 g3_1 g3_2 x0 x1 x2 x3
  clear hc g0_0 g0_1 g0_2 g0_3 g1_0 g1_1 g1_2 g1_3 g1_4 g1_5 g1_6 g1_7 g1_8 g2_0 g2_1 g2_2 g3_0 g3_1 g3_2 x0 x1 x2 x3
  obtain ⟨g0_0, g0_1, g0_2, g0_3, g1_0, g1_1, g1_2, g1_3, g1_4, g1_5, g1_6, g1_7, g1_8, g2_0, g2_1, g2_2, g3_0, g3_1, g3_2, x0, x1, x2, x3⟩ := KK
  go_upto_region 5 with (fail)
  have ob := Blk.new w10 41 [.int .i32 u0.v, .int .i32 u1.v, .int .i32 u2.v, .int .i32 a0.v, .int .i32 a1.v, .int .i32 a2.v, .int .i32 v0.v, .int .i32 v1.v, .int .i32 v2.v]
  have hz := (Chg.refl w10 []).alloc (.cells #[.int .i32 u0.v, .int .i32 u1.v, .int .i32 u2.v, .int .i32 a0.v, .int .i32 a1.v, .int .i32 a2.v, .int .i32 v0.v, .int .i32 v1.v, .int .i32 v2.v] 41)
  have lo := HC.out.size
  replace HC := hide (HC.out.alloc (.cells #[.int .i32 u0.v, .int .i32 u1.v, .int .i32 u2.v, .int .i32 a0.v, .int .i32 a1.v, .int .i32 a2.v, .int .i32 v0.v, .int .i32 v1.v, .int .i32 v2.v] 41))
  have KK := keep23 hz g0_0 g0_1 g0_2 g0_3 g1_0 g1_1 g1_2 g1_3 g1_4 g1_5 g1_6 g1_7 g1_8 g2_0 g2_1 g2_2 g3_0 g3_1 g3_2 x0 x1 x2 x3
  clear hz g0_0 g0_1 g0_2 g0_3 g1_0 g1_1 g1_2 g1_3 g1_4 g1_5 g1_6 g1_7 g1_8 g2_0 g2_1 g2_2 g3_0 g3_1 g3_2 x0 x1 x2 x3
  obtain ⟨g0_0, g0_1, g0_2, g0_3, g1_0, g1_1, g1_2, g1_3, g1_4, g1_5, g1_6, g1_7, g1_8, g2_0, g2_1, g2_2, g3_0, g3_1, g3_2, x0, x1, x2, x3⟩ := KK
  generalize w10.alloc (.cells #[.int .i32 u0.v, .int .i32 u1.v, .int .i32 u2.v, .int .i32 a0.v, .int .i32 a1.v, .int .i32 a2.v, .int .i32 v0.v, .int .i32 v1.v, .int .i32 v2.v] 41) = w11 at *
  generalize w10.heap.size = oa at *
  replace ob := hide ob
  go_wp2_with fail
  refine (refMag_calls v0.v v1.v v2.v _ v0.ok v1.ok v2.ok).mono ?_
  rw [IM.out]
  rintro e w12 ⟨rfl, hc⟩
  replace HC := hide (HC.out.trans hc (D := []) (by simp))
  replace ob := hide (ob.out.chg hc (by simp))
  have KK := keep23 hc g0_0 g0_1 g0_2 g0_3 g1_0 g1_1 g1_2 g1_3 g1_4 g1_5 g1_6 g1_7 g1_8 g2_0 g2_1 g2_2 g3_0 g3_1 g3_2 x0 x1 x2 x3
  clear hc g0_0 g0_1 g0_2 g0_3 g1_0 g1_1 g1_2 g1_3 g1_4 g1_5 g1_6 g1_7 g1_8 g2_0 g2_1 g2_2 g3_0 g3_1 g3_2 x0 x1 x2 x3
  obtain ⟨g0_0, g0_1, g0_2, g0_3, g1_0, g1_1, g1_2, g1_3, g1_4, g1_5, g1_6, g1_7, g1_8, g2_0, g2_1, g2_2, g3_0, g3_1, g3_2, x0, x1, x2, x3⟩ := KK
  go_wp2_with fail
  refine (refMag_calls n0.v n1.v n2.v _ n0.ok n1.ok n2.ok).mono ?_
  rw [JM.out]
  rintro e w13 ⟨rfl, hc⟩
  replace HC := hide (HC.out.trans hc (D := []) (by simp))
  replace ob := hide (ob.out.chg hc (by simp))
  have KK := keep23 hc g0_0 g0_1 g0_2 g0_3 g1_0 g1_1 g1_2 g1_3 g1_4 g1_5 g1_6 g1_7 g1_8 g2_0 g2_1 g2_2 g3_0 g3_1 g3_2 x0 x1 x2 x3
  clear hc g0_0 g0_1 g0_2 g0_3 g1_0 g1_1 g1_2 g1_3 g1_4 g1_5 g1_6 g1_7 g1_8 g2_0 g2_1 g2_2 g3_0 g3_1 g3_2 x0 x1 x2 x3
  obtain ⟨g0_0, g0_1, g0_2, g0_3, g1_0, g1_1, g1_2, g1_3, g1_4, g1_5, g1_6, g1_7, g1_8, g2_0, g2_1, g2_2, g3_0, g3_1, g3_2, x0, x1, x2, x3⟩ := KK
  go_wp2_with fail
  refine (refAccel_calls a0.v a1.v a2.v _ a0.ok a1.ok a2.ok).mono ?_
  rw [IA.out]
  rintro e w14 ⟨rfl, hc⟩
  replace HC := hide (HC.out.trans hc (D := []) (by simp))
  replace ob := hide (ob.out.chg hc (by simp))
  have KK := keep23 hc g0_0 g0_1 g0_2 g0_3 g1_0 g1_1 g1_2 g1_3 g1_4 g1_5 g1_6 g1_7 g1_8 g2_0 g2_1 g2_2 g3_0 g3_1 g3_2 x0 x1 x2 x3
  clear hc g0_0 g0_1 g0_2 g0_3 g1_0 g1_1 g1_2 g1_3 g1_4 g1_5 g1_6 g1_7 g1_8 g2_0 g2_1 g2_2 g3_0 g3_1 g3_2 x0 x1 x2 x3
  obtain ⟨g0_0, g0_1, g0_2, g0_3, g1_0, g1_1, g1_2, g1_3, g1_4, g1_5, g1_6, g1_7, g1_8, g2_0, g2_1, g2_2, g3_0, g3_1, g3_2, x0, x1, x2, x3⟩ := KK
  go_wp2_with fail
  refine (refAccel_calls b0.v b1.v b2.v _ b0.ok b1.ok b2.ok).mono ?_
  rw [JA.out]
  rintro e w15 ⟨rfl, hc⟩
  replace HC := hide (HC.out.trans hc (D := []) (by simp))
  replace ob := hide (ob.out.chg hc (by simp))
  have KK := keep23 hc g0_0 g0_1 g0_2 g0_3 g1_0 g1_1 g1_2 g1_3 g1_4 g1_5 g1_6 g1_7 g1_8 g2_0 g2_1 g2_2 g3_0 g3_1 g3_2 x0 x1 x2 x3
  clear hc g0_0 g0_1 g0_2 g0_3 g1_0 g1_1 g1_2 g1_3 g1_4 g1_5 g1_6 g1_7 g1_8 g2_0 g2_1 g2_2 g3_0 g3_1 g3_2 x0 x1 x2 x3
  obtain ⟨g0_0, g0_1, g0_2, g0_3, g1_0, g1_1, g1_2, g1_3, g1_4, g1_5, g1_6, g1_7, g1_8, g2_0, g2_1, g2_2, g3_0, g3_1, g3_2, x0, x1, x2, x3⟩ := KK
  have y3 := ob.out.cell' (i := 3) rfl
  have y4 := ob.out.cell' (i := 4) rfl
  have y5 := ob.out.cell' (i := 5) rfl
  have y6 := ob.out.cell' (i := 6) rfl
  have y7 := ob.out.cell' (i := 7) rfl
  have y8 := ob.out.cell' (i := 8) rfl
  have f3 := ob.out.frozen 3
  have f4 := ob.out.frozen 4
  have f5 := ob.out.frozen 5
  have f6 := ob.out.frozen 6
  have f7 := ob.out.frozen 7
  have f8 := ob.out.frozen 8
  go_upto_region 10 with (fail)
  clear y3 f3 y4 f4 y5 f5 y6 f6 y7 f7 y8 f8
  have hz := (((((((Chg.refl w15 [oa]).setCell ⟨oa, 3, none⟩ (.int .i32 b0.v) (.inl (by simp))).setCell ⟨oa, 4, none⟩ (.int .i32 b1.v) (.inl (by simp))).setCell ⟨oa, 5, none⟩ (.int .i32 b2.v) (.inl (by simp))).setCell ⟨oa, 6, none⟩ (.int .i32 n0.v) (.inl (by simp))).setCell ⟨oa, 7, none⟩ (.int .i32 n1.v) (.inl (by simp))).setCell ⟨oa, 8, none⟩ (.int .i32 n2.v) (.inl (by simp)))
  replace HC := hide ((((((HC.out.setCell ⟨oa, 3, none⟩ (.int .i32 b0.v) (.inr lo)).setCell ⟨oa, 4, none⟩ (.int .i32 b1.v) (.inr lo)).setCell ⟨oa, 5, none⟩ (.int .i32 b2.v) (.inr lo)).setCell ⟨oa, 6, none⟩ (.int .i32 n0.v) (.inr lo)).setCell ⟨oa, 7, none⟩ (.int .i32 n1.v) (.inr lo)).setCell ⟨oa, 8, none⟩ (.int .i32 n2.v) (.inr lo))
  replace g0_0 := hz.cell g0_0 (by simp only [List.mem_singleton]; omega)
  replace g0_1 := hz.cell g0_1 (by simp only [List.mem_singleton]; omega)
  replace g0_2 := hz.cell g0_2 (by simp only [List.mem_singleton]; omega)
  replace g0_3 := hz.cell g0_3 (by simp only [List.mem_singleton]; omega)
  replace g1_0 := hz.cell g1_0 (by simp only [List.mem_singleton]; omega)
  replace g1_1 := hz.cell g1_1 (by simp only [List.mem_singleton]; omega)
  replace g1_2 := hz.cell g1_2 (by simp only [List.mem_singleton]; omega)
  replace g1_3 := hz.cell g1_3 (by simp only [List.mem_singleton]; omega)
  replace g1_4 := hz.cell g1_4 (by simp only [List.mem_singleton]; omega)
  replace g1_5 := hz.cell g1_5 (by simp only [List.mem_singleton]; omega)
  replace g1_6 := hz.cell g1_6 (by simp only [List.mem_singleton]; omega)
  replace g1_7 := hz.cell g1_7 (by simp only [List.mem_singleton]; omega)
  replace g1_8 := hz.cell g1_8 (by simp only [List.mem_singleton]; omega)
  replace g2_0 := hz.cell g2_0 (by simp only [List.mem_singleton]; omega)
  replace g2_1 := hz.cell g2_1 (by simp only [List.mem_singleton]; omega)
  replace g2_2 := hz.cell g2_2 (by simp only [List.mem_singleton]; omega)
  replace g3_0 := hz.cell g3_0 (by simp only [List.mem_singleton]; omega)
  replace g3_1 := hz.cell g3_1 (by simp only [List.mem_singleton]; omega)
  replace g3_2 := hz.cell g3_2 (by simp only [List.mem_singleton]; omega)
  replace x0 := hz.cell x0 (by simp only [List.mem_singleton]; omega)
  replace x1 := hz.cell x1 (by simp only [List.mem_singleton]; omega)
  replace x2 := hz.cell x2 (by simp only [List.mem_singleton]; omega)
  replace x3 := hz.cell x3 (by simp only [List.mem_singleton]; omega)
  replace ob : Hid (Blk _ oa 41 [.int .i32 u0.v, .int .i32 u1.v, .int .i32 u2.v, .int .i32 b0.v, .int .i32 b1.v, .int .i32 b2.v, .int .i32 n0.v, .int .i32 n1.v, .int .i32 n2.v]) := hide ((((((ob.out.set_ 3 (.int .i32 b0.v)).set_ 4 (.int .i32 b1.v)).set_ 5 (.int .i32 b2.v)).set_ 6 (.int .i32 n0.v)).set_ 7 (.int .i32 n1.v)).set_ 8 (.int .i32 n2.v))
  clear hz
  generalize ((((((w15.setCell ⟨oa, 3, none⟩ (.int .i32 b0.v)).setCell ⟨oa, 4, none⟩ (.int .i32 b1.v)).setCell ⟨oa, 5, none⟩ (.int .i32 b2.v)).setCell ⟨oa, 6, none⟩ (.int .i32 n0.v)).setCell ⟨oa, 7, none⟩ (.int .i32 n1.v)).setCell ⟨oa, 8, none⟩ (.int .i32 n2.v)) = w16 at *
  clear g1_0 g1_1 g1_2 g1_3 g1_4 g1_5 g1_6 g1_7 g1_8 g2_0 g2_1 g2_2 g3_0 g3_1 g3_2
  have y0 := ob.out.cell' (i := 0) rfl
  have y1 := ob.out.cell' (i := 1) rfl
  have y2 := ob.out.cell' (i := 2) rfl
  have y3 := ob.out.cell' (i := 3) rfl
  have y4 := ob.out.cell' (i := 4) rfl
  have y5 := ob.out.cell' (i := 5) rfl
  have y6 := ob.out.cell' (i := 6) rfl
  have y7 := ob.out.cell' (i := 7) rfl
  have y8 := ob.out.cell' (i := 8) rfl
  clear ob
  go_wp2_with fail
  refine (next_calls a b c d u0 u1 u2 b0 b1 b2 n0 n1 n2 _).mono ?_
  rw [H2.out, G1.out]
  rintro e w17 ⟨rfl, hc⟩
  replace HC := hide (HC.out.trans hc (D := []) (by simp))
  have zb := Blk.new w17 28 [.int .i32 x.a.v, .int .i32 x.b.v, .int .i32 x.c.v, .int .i32 x.d.v]
  have z0 := zb.cell' (i := 0) rfl
  have z1 := zb.cell' (i := 1) rfl
  have z2 := zb.cell' (i := 2) rfl
  have z3 := zb.cell' (i := 3) rfl
  have hz := (Chg.refl w17 []).alloc (.cells #[.int .i32 x.a.v, .int .i32 x.b.v, .int .i32 x.c.v, .int .i32 x.d.v] 28)
  replace x0 := hz.cell (hc.cell x0 (by simp)) (by simp)
  replace x1 := hz.cell (hc.cell x1 (by simp)) (by simp)
  replace x2 := hz.cell (hc.cell x2 (by simp)) (by simp)
  replace x3 := hz.cell (hc.cell x3 (by simp)) (by simp)
  replace HC := hide (HC.out.alloc (.cells #[.int .i32 x.a.v, .int .i32 x.b.v, .int .i32 x.c.v, .int .i32 x.d.v] 28))
  clear hc hz zb y0 y1 y2 y3 y4 y5 y6 y7 y8 g0_0 g0_1 g0_2 g0_3
  have EQ := eql_quat x.a.v x.b.v x.c.v x.d.v
  go_wp2_with fail
  refine (awake34_calls _).mono ?_
  rintro e w19 ⟨rfl, hc⟩
  replace HC := hide (HC.out.trans hc (D := []) (by simp))
  clear hc
  go_wp2
  go_ret
  exact ⟨rfl, HC.out⟩
set_option maxRecDepth 100000 in
set_option maxHeartbeats 8000000 in
theorem gates_ff_t (a b c d u0 u1 u2 a0 a1 a2 v0 v1 v2 b0 b1 b2 n0 n1 n2 : Wd) (x : Q4) (F G : Int)
    (H1 : Hid (sensedW a b c d u0 u1 u2 a0 a1 a2 v0 v1 v2 = x)) (H2 : Hid (sensedW a b c d u0 u1 u2 a0 a1 a2 n0 n1 n2 = x)) (F1 : Hid (flagsI (sensedA a0 a1 a2) (sensedM v0 v1 v2) = F)) (G1 : Hid (flagsI (sensedA a0 a1 a2) (sensedM n0 n1 n2) = G))
    (fa : bits BinOp.and IntKind.i64 F 2 = 0) (fm : bits BinOp.and IntKind.i64 F 4 = 4) (fr : bits BinOp.andNot IntKind.i64 F 6 = 0) (fg : bits BinOp.and IntKind.i64 G 2 = 0)
    (IA : Hid (inside 16777216 150994944 a0.v a1.v a2.v = true)) (IM : Hid (inside 1000000 400000000 v0.v v1.v v2.v = false))
    (JM : Hid (inside 1000000 400000000 n0.v n1.v n2.v = false))
    (w : World) : Calls Tryz.prog 10 #[.agg #[.int .i32 a.v, .int .i32 b.v, .int .i32 c.v, .int .i32 d.v], .agg #[.int .i32 u0.v, .int .i32 u1.v, .int .i32 u2.v, .int .i32 a0.v, .int .i32 a1.v, .int .i32 a2.v, .int .i32 v0.v, .int .i32 v1.v, .int .i32 v2.v], .agg #[.int .i32 b0.v, .int .i32 b1.v, .int .i32 b2.v], .agg #[.int .i32 n0.v, .int .i32 n1.v, .int .i32 n2.v]] w fun e w' => e = .returned (.bool true) ∧ Chg w w' [] := by
  obtain ⟨g0_0, g0_1, g0_2, g0_3, g1_0, g1_1, g1_2, g1_3, g1_4, g1_5, g1_6, g1_7, g1_8, g2_0, g2_1, g2_2, g3_0, g3_1, g3_2, lq, HC⟩ := gates_boxes a b c d u0 u1 u2 a0 a1 a2 v0 v1 v2 b0 b1 b2 n0 n1 n2 w
  replace HC := hide HC
  go_enter Tryz.func10, Tryz.ntmps10
  go_wp2_with fail
  generalize ((((w.alloc (.cells #[.int .i32 a.v, .int .i32 b.v, .int .i32 c.v, .int .i32 d.v] 28)).alloc (.cells #[.int .i32 u0.v, .int .i32 u1.v, .int .i32 u2.v, .int .i32 a0.v, .int .i32 a1.v, .int .i32 a2.v, .int .i32 v0.v, .int .i32 v1.v, .int .i32 v2.v] 41)).alloc (.cells #[.int .i32 b0.v, .int .i32 b1.v, .int .i32 b2.v] 22)).alloc (.cells #[.int .i32 n0.v, .int .i32 n1.v, .int .i32 n2.v] 22)) = w6 at *
  refine (next_calls a b c d u0 u1 u2 a0 a1 a2 v0 v1 v2 _).mono ?_
  rw [H1.out, F1.out]
  rintro e w7 ⟨rfl, hc⟩
  have HC7 := hide (HC.out.trans hc (D := []) (by simp))
  have xb := Blk.new w7 28 [.int .i32 x.a.v, .int .i32 x.b.v, .int .i32 x.c.v, .int .i32 x.d.v]
  have x0 := xb.cell' (i := 0) rfl
  have x1 := xb.cell' (i := 1) rfl
  have x2 := xb.cell' (i := 2) rfl
  have x3 := xb.cell' (i := 3) rfl
  have hz := (Chg.refl w7 []).alloc (.cells #[.int .i32 x.a.v, .int .i32 x.b.v, .int .i32 x.c.v, .int .i32 x.d.v] 28)
  replace g0_0 := hz.cell (hc.cell g0_0 (by simp)) (by simp)
  replace g0_1 := hz.cell (hc.cell g0_1 (by simp)) (by simp)
  replace g0_2 := hz.cell (hc.cell g0_2 (by simp)) (by simp)
  replace g0_3 := hz.cell (hc.cell g0_3 (by simp)) (by simp)
  replace g1_0 := hz.cell (hc.cell g1_0 (by simp)) (by simp)
  replace g1_1 := hz.cell (hc.cell g1_1 (by simp)) (by simp)
  replace g1_2 := hz.cell (hc.cell g1_2 (by simp)) (by simp)
  replace g1_3 := hz.cell (hc.cell g1_3 (by simp)) (by simp)
  replace g1_4 := hz.cell (hc.cell g1_4 (by simp)) (by simp)
  replace g1_5 := hz.cell (hc.cell g1_5 (by simp)) (by simp)
  replace g1_6 := hz.cell (hc.cell g1_6 (by simp)) (by simp)
  replace g1_7 := hz.cell (hc.cell g1_7 (by simp)) (by simp)
  replace g1_8 := hz.cell (hc.cell g1_8 (by simp)) (by simp)
  replace g2_0 := hz.cell (hc.cell g2_0 (by simp)) (by simp)
  replace g2_1 := hz.cell (hc.cell g2_1 (by simp)) (by simp)
  replace g2_2 := hz.cell (hc.cell g2_2 (by simp)) (by simp)
  replace g3_0 := hz.cell (hc.cell g3_0 (by simp)) (by simp)
  replace g3_1 := hz.cell (hc.cell g3_1 (by simp)) (by simp)
  replace g3_2 := hz.cell (hc.cell g3_2 (by simp)) (by simp)
  replace HC := hide (HC7.out.alloc (.cells #[.int .i32 x.a.v, .int .i32 x.b.v, .int .i32 x.c.v, .int .i32 x.d.v] 28))
  have lx := xb.lt
  replace lq := Nat.lt_of_lt_of_le lq (Nat.le_trans hc.size hz.size)
  clear hc hz xb HC7
  clear g2_0 g2_1 g2_2
  go_wp2_with fail
  generalize w7.alloc (.cells #[.int .i32 x.a.v, .int .i32 x.b.v, .int .i32 x.c.v, .int .i32 x.d.v] 28) = w8 at *
  generalize w7.heap.size = xa at *
  refine (refAccel_calls a0.v a1.v a2.v _ a0.ok a1.ok a2.ok).mono ?_
  rw [IA.out]
  rintro e w9 ⟨rfl, hc⟩
  replace HC := hide (HC.out.trans hc (D := []) (by simp))
  replace lq := Nat.lt_of_lt_of_le lq hc.size
  replace lx := Nat.lt_of_lt_of_le lx hc.size
  have KK := keep20 hc g0_0 g0_1 g0_2 g0_3 g1_0 g1_1 g1_2 g1_3 g1_4 g1_5 g1_6 g1_7 g1_8 g3_0 g3_1 g3_2 x0 x1 x2 x3
  clear hc g0_0 g0_1 g0_2 g0_3 g1_0 g1_1 g1_2 g1_3 g1_4 g1_5 g1_6 g1_7 g1_8 g3_0 g3_1 g3_2 x0 x1 x2 x3
  obtain ⟨g0_0, g0_1, g0_2, g0_3, g1_0, g1_1, g1_2, g1_3, g1_4, g1_5, g1_6, g1_7, g1_8, g3_0, g3_1, g3_2, x0, x1, x2, x3⟩ := KK
  go_wp2_with fail
  refine (refMag_calls v0.v v1.v v2.v _ v0.ok v1.ok v2.ok).mono ?_
  rw [IM.out]
  rintro e w10 ⟨rfl, hc⟩
  replace HC := hide (HC.out.trans hc (D := []) (by simp))
  replace lq := Nat.lt_of_lt_of_le lq hc.size
  replace lx := Nat.lt_of_lt_of_le lx hc.size
  have KK := keep20 hc g0_0 g0_1 g0_2 g0_3 g1_0 g1_1 g1_2 g1_3 g1_4 g1_5 g1_6 g1_7 g1_8 g3_0 g3_1 g3_2 x0 x1 x2 x3
  clear hc g0_0 g0_1 g0_2 g0_3 g1_0 g1_1 g1_2 g1_3 g1_4 g1_5 g1_6 g1_7 g1_8 g3_0 g3_1 g3_2 x0 x1 x2 x3
  obtain ⟨g0_0, g0_1, g0_2, g0_3, g1_0, g1_1, g1_2, g1_3, g1_4, g1_5, g1_6, g1_7, g1_8, g3_0, g3_1, g3_2, x0, x1, x2, x3⟩ := KK
  go_upto_region 5 with (fail)
  have ob := Blk.new w10 41 [.int .i32 u0.v, .int .i32 u1.v, .int .i32 u2.v, .int .i32 a0.v, .int .i32 a1.v, .int .i32 a2.v, .int .i32 v0.v, .int .i32 v1.v, .int .i32 v2.v]
  have hz := (Chg.refl w10 []).alloc (.cells #[.int .i32 u0.v, .int .i32 u1.v, .int .i32 u2.v, .int .i32 a0.v, .int .i32 a1.v, .int .i32 a2.v, .int .i32 v0.v, .int .i32 v1.v, .int .i32 v2.v] 41)
  have lo := HC.out.size
  replace HC := hide (HC.out.alloc (.cells #[.int .i32 u0.v, .int .i32 u1.v, .int .i32 u2.v, .int .i32 a0.v, .int .i32 a1.v, .int .i32 a2.v, .int .i32 v0.v, .int .i32 v1.v, .int .i32 v2.v] 41))
  have KK := keep20 hz g0_0 g0_1 g0_2 g0_3 g1_0 g1_1 g1_2 g1_3 g1_4 g1_5 g1_6 g1_7 g1_8 g3_0 g3_1 g3_2 x0 x1 x2 x3
  clear hz g0_0 g0_1 g0_2 g0_3 g1_0 g1_1 g1_2 g1_3 g1_4 g1_5 g1_6 g1_7 g1_8 g3_0 g3_1 g3_2 x0 x1 x2 x3
  obtain ⟨g0_0, g0_1, g0_2, g0_3, g1_0, g1_1, g1_2, g1_3, g1_4, g1_5, g1_6, g1_7, g1_8, g3_0, g3_1, g3_2, x0, x1, x2, x3⟩ := KK
  generalize w10.alloc (.cells #[.int .i32 u0.v, .int .i32 u1.v, .int .i32 u2.v, .int .i32 a0.v, .int .i32 a1.v, .int .i32 a2.v, .int .i32 v0.v, .int .i32 v1.v, .int .i32 v2.v] 41) = w11 at *
  generalize w10.heap.size = oa at *
  replace ob := hide ob
  go_wp2_with fail
  refine (refMag_calls v0.v v1.v v2.v _ v0.ok v1.ok v2.ok).mono ?_
  rw [IM.out]
  rintro e w12 ⟨rfl, hc⟩
  replace HC := hide (HC.out.trans hc (D := []) (by simp))
  replace ob := hide (ob.out.chg hc (by simp))
  have KK := keep20 hc g0_0 g0_1 g0_2 g0_3 g1_0 g1_1 g1_2 g1_3 g1_4 g1_5 g1_6 g1_7 g1_8 g3_0 g3_1 g3_2 x0 x1 x2 x3
  clear hc g0_0 g0_1 g0_2 g0_3 g1_0 g1_1 g1_2 g1_3 g1_4 g1_5 g1_6 g1_7 g1_8 g3_0 g3_1 g3_2 x0 x1 x2 x3
  obtain ⟨g0_0, g0_1, g0_2, g0_3, g1_0, g1_1, g1_2, g1_3, g1_4, g1_5, g1_6, g1_7, g1_8, g3_0, g3_1, g3_2, x0, x1, x2, x3⟩ := KK
  go_wp2_with fail
  refine (refMag_calls n0.v n1.v n2.v _ n0.ok n1.ok n2.ok).mono ?_
  rw [JM.out]
  rintro e w13 ⟨rfl, hc⟩
  replace HC := hide (HC.out.trans hc (D := []) (by simp))
  replace ob := hide (ob.out.chg hc (by simp))
  have KK := keep20 hc g0_0 g0_1 g0_2 g0_3 g1_0 g1_1 g1_2 g1_3 g1_4 g1_5 g1_6 g1_7 g1_8 g3_0 g3_1 g3_2 x0 x1 x2 x3
  clear hc g0_0 g0_1 g0_2 g0_3 g1_0 g1_1 g1_2 g1_3 g1_4 g1_5 g1_6 g1_7 g1_8 g3_0 g3_1 g3_2 x0 x1 x2 x3
  obtain ⟨g0_0, g0_1, g0_2, g0_3, g1_0, g1_1, g1_2, g1_3, g1_4, g1_5, g1_6, g1_7, g1_8, g3_0, g3_1, g3_2, x0, x1, x2, x3⟩ := KK
  have y6 := ob.out.cell' (i := 6) rfl
  have y7 := ob.out.cell' (i := 7) rfl
  have y8 := ob.out.cell' (i := 8) rfl
  have f6 := ob.out.frozen 6
  have f7 := ob.out.frozen 7
  have f8 := ob.out.frozen 8
  go_upto_region 7 with (fail)
  clear y6 f6 y7 f7 y8 f8
  have hz := ((((Chg.refl w13 [oa]).setCell ⟨oa, 6, none⟩ (.int .i32 n0.v) (.inl (by simp))).setCell ⟨oa, 7, none⟩ (.int .i32 n1.v) (.inl (by simp))).setCell ⟨oa, 8, none⟩ (.int .i32 n2.v) (.inl (by simp)))
  replace HC := hide (((HC.out.setCell ⟨oa, 6, none⟩ (.int .i32 n0.v) (.inr lo)).setCell ⟨oa, 7, none⟩ (.int .i32 n1.v) (.inr lo)).setCell ⟨oa, 8, none⟩ (.int .i32 n2.v) (.inr lo))
  replace g0_0 := hz.cell g0_0 (by simp only [List.mem_singleton]; omega)
  replace g0_1 := hz.cell g0_1 (by simp only [List.mem_singleton]; omega)
  replace g0_2 := hz.cell g0_2 (by simp only [List.mem_singleton]; omega)
  replace g0_3 := hz.cell g0_3 (by simp only [List.mem_singleton]; omega)
  replace g1_0 := hz.cell g1_0 (by simp only [List.mem_singleton]; omega)
  replace g1_1 := hz.cell g1_1 (by simp only [List.mem_singleton]; omega)
  replace g1_2 := hz.cell g1_2 (by simp only [List.mem_singleton]; omega)
  replace g1_3 := hz.cell g1_3 (by simp only [List.mem_singleton]; omega)
  replace g1_4 := hz.cell g1_4 (by simp only [List.mem_singleton]; omega)
  replace g1_5 := hz.cell g1_5 (by simp only [List.mem_singleton]; omega)
  replace g1_6 := hz.cell g1_6 (by simp only [List.mem_singleton]; omega)
  replace g1_7 := hz.cell g1_7 (by simp only [List.mem_singleton]; omega)
  replace g1_8 := hz.cell g1_8 (by simp only [List.mem_singleton]; omega)
  replace g3_0 := hz.cell g3_0 (by simp only [List.mem_singleton]; omega)
  replace g3_1 := hz.cell g3_1 (by simp only [List.mem_singleton]; omega)
  replace g3_2 := hz.cell g3_2 (by simp only [List.mem_singleton]; omega)
  replace x0 := hz.cell x0 (by simp only [List.mem_singleton]; omega)
  replace x1 := hz.cell x1 (by simp only [List.mem_singleton]; omega)
  replace x2 := hz.cell x2 (by simp only [List.mem_singleton]; omega)
  replace x3 := hz.cell x3 (by simp only [List.mem_singleton]; omega)
  replace ob : Hid (Blk _ oa 41 [.int .i32 u0.v, .int .i32 u1.v, .int .i32 u2.v, .int .i32 a0.v, .int .i32 a1.v, .int .i32 a2.v, .int .i32 n0.v, .int .i32 n1.v, .int .i32 n2.v]) := hide (((ob.out.set_ 6 (.int .i32 n0.v)).set_ 7 (.int .i32 n1.v)).set_ 8 (.int .i32 n2.v))
  clear hz
  generalize (((w13.setCell ⟨oa, 6, none⟩ (.int .i32 n0.v)).setCell ⟨oa, 7, none⟩ (.int .i32 n1.v)).setCell ⟨oa, 8, none⟩ (.int .i32 n2.v)) = w14 at *
  go_wp2_with fail
  refine (refAccel_calls a0.v a1.v a2.v _ a0.ok a1.ok a2.ok).mono ?_
  rw [IA.out]
  rintro e w15 ⟨rfl, hc⟩
  replace HC := hide (HC.out.trans hc (D := []) (by simp))
  replace ob := hide (ob.out.chg hc (by simp))
  have KK := keep20 hc g0_0 g0_1 g0_2 g0_3 g1_0 g1_1 g1_2 g1_3 g1_4 g1_5 g1_6 g1_7 g1_8 g3_0 g3_1 g3_2 x0 x1 x2 x3
  clear hc g0_0 g0_1 g0_2 g0_3 g1_0 g1_1 g1_2 g1_3 g1_4 g1_5 g1_6 g1_7 g1_8 g3_0 g3_1 g3_2 x0 x1 x2 x3
  obtain ⟨g0_0, g0_1, g0_2, g0_3, g1_0, g1_1, g1_2, g1_3, g1_4, g1_5, g1_6, g1_7, g1_8, g3_0, g3_1, g3_2, x0, x1, x2, x3⟩ := KK
  clear g1_0 g1_1 g1_2 g1_3 g1_4 g1_5 g1_6 g1_7 g1_8 g3_0 g3_1 g3_2
  have y0 := ob.out.cell' (i := 0) rfl
  have y1 := ob.out.cell' (i := 1) rfl
  have y2 := ob.out.cell' (i := 2) rfl
  have y3 := ob.out.cell' (i := 3) rfl
  have y4 := ob.out.cell' (i := 4) rfl
  have y5 := ob.out.cell' (i := 5) rfl
  have y6 := ob.out.cell' (i := 6) rfl
  have y7 := ob.out.cell' (i := 7) rfl
  have y8 := ob.out.cell' (i := 8) rfl
  clear ob
  go_wp2_with fail
  refine (next_calls a b c d u0 u1 u2 a0 a1 a2 n0 n1 n2 _).mono ?_
  rw [H2.out, G1.out]
  rintro e w16 ⟨rfl, hc⟩
  replace HC := hide (HC.out.trans hc (D := []) (by simp))
  have zb := Blk.new w16 28 [.int .i32 x.a.v, .int .i32 x.b.v, .int .i32 x.c.v, .int .i32 x.d.v]
  have z0 := zb.cell' (i := 0) rfl
  have z1 := zb.cell' (i := 1) rfl
  have z2 := zb.cell' (i := 2) rfl
  have z3 := zb.cell' (i := 3) rfl
  have hz := (Chg.refl w16 []).alloc (.cells #[.int .i32 x.a.v, .int .i32 x.b.v, .int .i32 x.c.v, .int .i32 x.d.v] 28)
  replace x0 := hz.cell (hc.cell x0 (by simp)) (by simp)
  replace x1 := hz.cell (hc.cell x1 (by simp)) (by simp)
  replace x2 := hz.cell (hc.cell x2 (by simp)) (by simp)
  replace x3 := hz.cell (hc.cell x3 (by simp)) (by simp)
  replace HC := hide (HC.out.alloc (.cells #[.int .i32 x.a.v, .int .i32 x.b.v, .int .i32 x.c.v, .int .i32 x.d.v] 28))
  clear hc hz zb y0 y1 y2 y3 y4 y5 y6 y7 y8 g0_0 g0_1 g0_2 g0_3
  have EQ := eql_quat x.a.v x.b.v x.c.v x.d.v
  go_wp2_with fail
  refine (awake34_calls _).mono ?_
  rintro e w18 ⟨rfl, hc⟩
  replace HC := hide (HC.out.trans hc (D := []) (by simp))
  clear hc
  go_wp2
  go_ret
  exact ⟨rfl, HC.out⟩
set_option maxRecDepth 100000 in
set_option maxHeartbeats 8000000 in
theorem gates_ff_ft (a b c d u0 u1 u2 a0 a1 a2 v0 v1 v2 b0 b1 b2 n0 n1 n2 : Wd) (x : Q4) (F G : Int)
    (H1 : Hid (sensedW a b c d u0 u1 u2 a0 a1 a2 v0 v1 v2 = x)) (H2 : Hid (sensedW a b c d u0 u1 u2 a0 a1 a2 n0 n1 n2 = x)) (F1 : Hid (flagsI (sensedA a0 a1 a2) (sensedM v0 v1 v2) = F)) (G1 : Hid (flagsI (sensedA a0 a1 a2) (sensedM n0 n1 n2) = G))
    (fa : bits BinOp.and IntKind.i64 F 2 = 2) (fm : bits BinOp.and IntKind.i64 F 4 = 4) (fr : bits BinOp.andNot IntKind.i64 F 6 = 0) (fg : bits BinOp.and IntKind.i64 G 2 = 2)
    (IA : Hid (inside 16777216 150994944 a0.v a1.v a2.v = false)) (IM : Hid (inside 1000000 400000000 v0.v v1.v v2.v = false))
    (JA : Hid (inside 16777216 150994944 b0.v b1.v b2.v = true))
    (JM : Hid (inside 1000000 400000000 n0.v n1.v n2.v = false))
    (w : World) : Calls Tryz.prog 10 #[.agg #[.int .i32 a.v, .int .i32 b.v, .int .i32 c.v, .int .i32 d.v], .agg #[.int .i32 u0.v, .int .i32 u1.v, .int .i32 u2.v, .int .i32 a0.v, .int .i32 a1.v, .int .i32 a2.v, .int .i32 v0.v, .int .i32 v1.v, .int .i32 v2.v], .agg #[.int .i32 b0.v, .int .i32 b1.v, .int .i32 b2.v], .agg #[.int .i32 n0.v, .int .i32 n1.v, .int .i32 n2.v]] w fun e w' => e = .returned (.bool true) ∧ Chg w w' [] := by
  obtain ⟨g0_0, g0_1, g0_2, g0_3, g1_0, g1_1, g1_2, g1_3, g1_4, g1_5, g1_6, g1_7, g1_8, g2_0, g2_1, g2_2, g3_0, g3_1, g3_2, lq, HC⟩ := gates_boxes a b c d u0 u1 u2 a0 a1 a2 v0 v1 v2 b0 b1 b2 n0 n1 n2 w
  replace HC := hide HC
  go_enter Tryz.func10, Tryz.ntmps10
  go_wp2_with fail
  generalize ((((w.alloc (.cells #[.int .i32 a.v, .int .i32 b.v, .int .i32 c.v, .int .i32 d.v] 28)).alloc (.cells #[.int .i32 u0.v, .int .i32 u1.v, .int .i32 u2.v, .int .i32 a0.v, .int .i32 a1.v, .int .i32 a2.v, .int .i32 v0.v, .int .i32 v1.v, .int .i32 v2.v] 41)).alloc (.cells #[.int .i32 b0.v, .int .i32 b1.v, .int .i32 b2.v] 22)).alloc (.cells #[.int .i32 n0.v, .int .i32 n1.v, .int .i32 n2.v] 22)) = w6 at *
  refine (next_calls a b c d u0 u1 u2 a0 a1 a2 v0 v1 v2 _).mono ?_
  rw [H1.out, F1.out]
  rintro e w7 ⟨rfl, hc⟩
  have HC7 := hide (HC.out.trans hc (D := []) (by simp))
  have xb := Blk.new w7 28 [.int .i32 x.a.v, .int .i32 x.b.v, .int .i32 x.c.v, .int .i32 x.d.v]
  have x0 := xb.cell' (i := 0) rfl
  have x1 := xb.cell' (i := 1) rfl
  have x2 := xb.cell' (i := 2) rfl
  have x3 := xb.cell' (i := 3) rfl
  have hz := (Chg.refl w7 []).alloc (.cells #[.int .i32 x.a.v, .int .i32 x.b.v, .int .i32 x.c.v, .int .i32 x.d.v] 28)
  replace g0_0 := hz.cell (hc.cell g0_0 (by simp)) (by simp)
  replace g0_1 := hz.cell (hc.cell g0_1 (by simp)) (by simp)
  replace g0_2 := hz.cell (hc.cell g0_2 (by simp)) (by simp)
  replace g0_3 := hz.cell (hc.cell g0_3 (by simp)) (by simp)
  replace g1_0 := hz.cell (hc.cell g1_0 (by simp)) (by simp)
  replace g1_1 := hz.cell (hc.cell g1_1 (by simp)) (by simp)
  replace g1_2 := hz.cell (hc.cell g1_2 (by simp)) (by simp)
  replace g1_3 := hz.cell (hc.cell g1_3 (by simp)) (by simp)
  replace g1_4 := hz.cell (hc.cell g1_4 (by simp)) (by simp)
  replace g1_5 := hz.cell (hc.cell g1_5 (by simp)) (by simp)
  replace g1_6 := hz.cell (hc.cell g1_6 (by simp)) (by simp)
  replace g1_7 := hz.cell (hc.cell g1_7 (by simp)) (by simp)
  replace g1_8 := hz.cell (hc.cell g1_8 (by simp)) (by simp)
  replace g2_0 := hz.cell (hc.cell g2_0 (by simp)) (by simp)
  replace g2_1 := hz.cell (hc.cell g2_1 (by simp)) (by simp)
  replace g2_2 := hz.cell (hc.cell g2_2 (by simp)) (by simp)
  replace g3_0 := hz.cell (hc.cell g3_0 (by simp)) (by simp)
  replace g3_1 := hz.cell (hc.cell g3_1 (by simp)) (by simp)
  replace g3_2 := hz.cell (hc.cell g3_2 (by simp)) (by simp)
  replace HC := hide (HC7.out.alloc (.cells #[.int .i32 x.a.v, .int .i32 x.b.v, .int .i32 x.c.v, .int .i32 x.d.v] 28))
  have lx := xb.lt
  replace lq := Nat.lt_of_lt_of_le lq (Nat.le_trans hc.size hz.size)
  clear hc hz xb HC7
  go_wp2_with fail
  generalize w7.alloc (.cells #[.int .i32 x.a.v, .int .i32 x.b.v, .int .i32 x.c.v, .int .i32 x.d.v] 28) = w8 at *
  generalize w7.heap.size = xa at *
  refine (refAccel_calls a0.v a1.v a2.v _ a0.ok a1.ok a2.ok).mono ?_
  rw [IA.out]
  rintro e w9 ⟨rfl, hc⟩
  replace HC := hide (HC.out.trans hc (D := []) (by simp))
  replace lq := Nat.lt_of_lt_of_le lq hc.size
  replace lx := Nat.lt_of_lt_of_le lx hc.size
  have KK := keep23 hc g0_0 g0_1 g0_2 g0_3 g1_0 g1_1 g1_2 g1_3 g1_4 g1_5 g1_6 g1_7 g1_8 g2_0 g2_1 g2_2 g3_0 g3_1 g3_2 x0 x1 x2 x3
  clear hc g0_0 g0_1 g0_2 g0_3 g1_0 g1_1 g1_2 g1_3 g1_4 g1_5 g1_6 g1_7 g1_8 g2_0 g2_1 g2_2 g3_0 g3_1 g3_2 x0 x1 x2 x3
  obtain ⟨g0_0, g0_1, g0_2, g0_3, g1_0, g1_1, g1_2, g1_3, g1_4, g1_5, g1_6, g1_7, g1_8, g2_0, g2_1, g2_2, g3_0, g3_1, g3_2, x0, x1, x2, x3⟩ := KK
  go_wp2_with fail
  refine (refMag_calls v0.v v1.v v2.v _ v0.ok v1.ok v2.ok).mono ?_
  rw [IM.out]
  rintro e w10 ⟨rfl, hc⟩
  replace HC := hide (HC.out.trans hc (D := []) (by simp))
  replace lq := Nat.lt_of_lt_of_le lq hc.size
  replace lx := Nat.lt_of_lt_of_le lx hc.size
  have KK := keep23 hc g0_0 g0_1 g0_2 g0_3 g1_0 g1_1 g1_2 g1_3 g1_4 g1_5 g1_6 g1_7 g1_8 g2_0 g2_1 g2_2 g3_0 g3_1 g3_2 x0 x1 x2 x3
  clear hc g0_0 g0_1 g0_2 g0_3 g1_0 g1_1 g1_2 g1_3 g1_4 g1_5 g1_6 g1_7 g1_8 g2_0 g2_1 g2_2 g3_0 g3_1 g3_2 x0 x1 x2 x3
  obtain ⟨g0_0, g0_1, g0_2, g0_3, g1_0, g1_1, g1_2, g1_3, g1_4, g1_5, g1_6, g1_7, g1_8, g2_0, g2_1, g2_2, g3_0, g3_1, g3_2, x0, x1, x2, x3⟩ := KK
  go_upto_region 5 with (fail)
  have ob := Blk.new w10 41 [.int .i32 u0.v, .int .i32 u1.v, .int .i32 u2.v, .int .i32 a0.v, .int .i32 a1.v, .int .i32 a2.v, .int .i32 v0.v, .int .i32 v1.v, .int .i32 v2.v]
  have hz := (Chg.refl w10 []).alloc (.cells #[.int .i32 u0.v, .int .i32 u1.v, .int .i32 u2.v, .int .i32 a0.v, .int .i32 a1.v, .int .i32 a2.v, .int .i32 v0.v, .int .i32 v1.v, .int .i32 v2.v] 41)
  have lo := HC.out.size
  replace HC := hide (HC.out.alloc (.cells #[.int .i32 u0.v, .int .i32 u1.v, .int .i32 u2.v, .int .i32 a0.v, .int .i32 a1.v, .int .i32 a2.v, .int .i32 v0.v, .int .i32 v1.v, .int .i32 v2.v] 41))
  have KK := keep23 hz g0_0 g0_1 g0_2 g0_3 g1_0 g1_1 g1_2 g1_3 g1_4 g1_5 g1_6 g1_7 g1_8 g2_0 g2_1 g2_2 g3_0 g3_1 g3_2 x0 x1 x2 x3
  clear hz g0_0 g0_1 g0_2 g0_3 g1_0 g1_1 g1_2 g1_3 g1_4 g1_5 g1_6 g1_7 g1_8 g2_0 g2_1 g2_2 g3_0 g3_1 g3_2 x0 x1 x2 x3
  obtain ⟨g0_0, g0_1, g0_2, g0_3, g1_0, g1_1, g1_2, g1_3, g1_4, g1_5, g1_6, g1_7, g1_8, g2_0, g2_1, g2_2, g3_0, g3_1, g3_2, x0, x1, x2, x3⟩ := KK
  generalize w10.alloc (.cells #[.int .i32 u0.v, .int .i32 u1.v, .int .i32 u2.v, .int .i32 a0.v, .int .i32 a1.v, .int .i32 a2.v, .int .i32 v0.v, .int .i32 v1.v, .int .i32 v2.v] 41) = w11 at *
  generalize w10.heap.size = oa at *
  replace ob := hide ob
  go_wp2_with fail
  refine (refMag_calls v0.v v1.v v2.v _ v0.ok v1.ok v2.ok).mono ?_
  rw [IM.out]
  rintro e w12 ⟨rfl, hc⟩
  replace HC := hide (HC.out.trans hc (D := []) (by simp))
  replace ob := hide (ob.out.chg hc (by simp))
  have KK := keep23 hc g0_0 g0_1 g0_2 g0_3 g1_0 g1_1 g1_2 g1_3 g1_4 g1_5 g1_6 g1_7 g1_8 g2_0 g2_1 g2_2 g3_0 g3_1 g3_2 x0 x1 x2 x3
  clear hc g0_0 g0_1 g0_2 g0_3 g1_0 g1_1 g1_2 g1_3 g1_4 g1_5 g1_6 g1_7 g1_8 g2_0 g2_1 g2_2 g3_0 g3_1 g3_2 x0 x1 x2 x3
  obtain ⟨g0_0, g0_1, g0_2, g0_3, g1_0, g1_1, g1_2, g1_3, g1_4, g1_5, g1_6, g1_7, g1_8, g2_0, g2_1, g2_2, g3_0, g3_1, g3_2, x0, x1, x2, x3⟩ := KK
  go_wp2_with fail
  refine (refMag_calls n0.v n1.v n2.v _ n0.ok n1.ok n2.ok).mono ?_
  rw [JM.out]
  rintro e w13 ⟨rfl, hc⟩
  replace HC := hide (HC.out.trans hc (D := []) (by simp))
  replace ob := hide (ob.out.chg hc (by simp))
  have KK := keep23 hc g0_0 g0_1 g0_2 g0_3 g1_0 g1_1 g1_2 g1_3 g1_4 g1_5 g1_6 g1_7 g1_8 g2_0 g2_1 g2_2 g3_0 g3_1 g3_2 x0 x1 x2 x3
  clear hc g0_0 g0_1 g0_2 g0_3 g1_0 g1_1 g1_2 g1_3 g1_4 g1_5 g1_6 g1_7 g1_8 g2_0 g2_1 g2_2 g3_0 g3_1 g3_2 x0 x1 x2 x3
  obtain ⟨g0_0, g0_1, g0_2, g0_3, g1_0, g1_1, g1_2, g1_3, g1_4, g1_5, g1_6, g1_7, g1_8, g2_0, g2_1, g2_2, g3_0, g3_1, g3_2, x0, x1, x2, x3⟩ := KK
  have y6 := ob.out.cell' (i := 6) rfl
  have y7 := ob.out.cell' (i := 7) rfl
  have y8 := ob.out.cell' (i := 8) rfl
  have f6 := ob.out.frozen 6
  have f7 := ob.out.frozen 7
  have f8 := ob.out.frozen 8
  go_upto_region 7 with (fail)
  clear y6 f6 y7 f7 y8 f8
  have hz := ((((Chg.refl w13 [oa]).setCell ⟨oa, 6, none⟩ (.int .i32 n0.v) (.inl (by simp))).setCell ⟨oa, 7, none⟩ (.int .i32 n1.v) (.inl (by simp))).setCell ⟨oa, 8, none⟩ (.int .i32 n2.v) (.inl (by simp)))
  replace HC := hide (((HC.out.setCell ⟨oa, 6, none⟩ (.int .i32 n0.v) (.inr lo)).setCell ⟨oa, 7, none⟩ (.int .i32 n1.v) (.inr lo)).setCell ⟨oa, 8, none⟩ (.int .i32 n2.v) (.inr lo))
  replace g0_0 := hz.cell g0_0 (by simp only [List.mem_singleton]; omega)
  replace g0_1 := hz.cell g0_1 (by simp only [List.mem_singleton]; omega)
  replace g0_2 := hz.cell g0_2 (by simp only [List.mem_singleton]; omega)
  replace g0_3 := hz.cell g0_3 (by simp only [List.mem_singleton]; omega)
  replace g1_0 := hz.cell g1_0 (by simp only [List.mem_singleton]; omega)
  replace g1_1 := hz.cell g1_1 (by simp only [List.mem_singleton]; omega)
  replace g1_2 := hz.cell g1_2 (by simp only [List.mem_singleton]; omega)
  replace g1_3 := hz.cell g1_3 (by simp only [List.mem_singleton]; omega)
  replace g1_4 := hz.cell g1_4 (by simp only [List.mem_singleton]; omega)
  replace g1_5 := hz.cell g1_5 (by simp only [List.mem_singleton]; omega)
  replace g1_6 := hz.cell g1_6 (by simp only [List.mem_singleton]; omega)
  replace g1_7 := hz.cell g1_7 (by simp only [List.mem_singleton]; omega)
  replace g1_8 := hz.cell g1_8 (by simp only [List.mem_singleton]; omega)
  replace g2_0 := hz.cell g2_0 (by simp only [List.mem_singleton]; omega)
  replace g2_1 := hz.cell g2_1 (by simp only [List.mem_singleton]; omega)
  replace g2_2 := hz.cell g2_2 (by simp only [List.mem_singleton]; omega)
  replace g3_0 := hz.cell g3_0 (by simp only [List.mem_singleton]; omega)
  replace g3_1 := hz.cell g3_1 (by simp only [List.mem_singleton]; omega)
  replace g3_2 := hz.cell g3_2 (by simp only [List.mem_singleton]; omega)
  replace x0 := hz.cell x0 (by simp only [List.mem_singleton]; omega)
  replace x1 := hz.cell x1 (by simp only [List.mem_singleton]; omega)
  replace x2 := hz.cell x2 (by simp only [List.mem_singleton]; omega)
  replace x3 := hz.cell x3 (by simp only [List.mem_singleton]; omega)
  replace ob : Hid (Blk _ oa 41 [.int .i32 u0.v, .int .i32 u1.v, .int .i32 u2.v, .int .i32 a0.v, .int .i32 a1.v, .int .i32 a2.v, .int .i32 n0.v, .int .i32 n1.v, .int .i32 n2.v]) := hide (((ob.out.set_ 6 (.int .i32 n0.v)).set_ 7 (.int .i32 n1.v)).set_ 8 (.int .i32 n2.v))
  clear hz
  generalize (((w13.setCell ⟨oa, 6, none⟩ (.int .i32 n0.v)).setCell ⟨oa, 7, none⟩ (.int .i32 n1.v)).setCell ⟨oa, 8, none⟩ (.int .i32 n2.v)) = w14 at *
  go_wp2_with fail
  refine (refAccel_calls a0.v a1.v a2.v _ a0.ok a1.ok a2.ok).mono ?_
  rw [IA.out]
  rintro e w15 ⟨rfl, hc⟩
  replace HC := hide (HC.out.trans hc (D := []) (by simp))
  replace ob := hide (ob.out.chg hc (by simp))
  have KK := keep23 hc g0_0 g0_1 g0_2 g0_3 g1_0 g1_1 g1_2 g1_3 g1_4 g1_5 g1_6 g1_7 g1_8 g2_0 g2_1 g2_2 g3_0 g3_1 g3_2 x0 x1 x2 x3
  clear hc g0_0 g0_1 g0_2 g0_3 g1_0 g1_1 g1_2 g1_3 g1_4 g1_5 g1_6 g1_7 g1_8 g2_0 g2_1 g2_2 g3_0 g3_1 g3_2 x0 x1 x2 x3
  obtain ⟨g0_0, g0_1, g0_2, g0_3, g1_0, g1_1, g1_2, g1_3, g1_4, g1_5, g1_6, g1_7, g1_8, g2_0, g2_1, g2_2, g3_0, g3_1, g3_2, x0, x1, x2, x3⟩ := KK
  go_wp2_with fail
  refine (refAccel_calls b0.v b1.v b2.v _ b0.ok b1.ok b2.ok).mono ?_
  rw [JA.out]
  rintro e w16 ⟨rfl, hc⟩
  replace HC := hide (HC.out.trans hc (D := []) (by simp))
  replace ob := hide (ob.out.chg hc (by simp))
  have KK := keep23 hc g0_0 g0_1 g0_2 g0_3 g1_0 g1_1 g1_2 g1_3 g1_4 g1_5 g1_6 g1_7 g1_8 g2_0 g2_1 g2_2 g3_0 g3_1 g3_2 x0 x1 x2 x3
  clear hc g0_0 g0_1 g0_2 g0_3 g1_0 g1_1 g1_2 g1_3 g1_4 g1_5 g1_6 g1_7 g1_8 g2_0 g2_1 g2_2 g3_0 g3_1 g3_2 x0 x1 x2 x3
  obtain ⟨g0_0, g0_1, g0_2, g0_3, g1_0, g1_1, g1_2, g1_3, g1_4, g1_5, g1_6, g1_7, g1_8, g2_0, g2_1, g2_2, g3_0, g3_1, g3_2, x0, x1, x2, x3⟩ := KK
  clear g1_0 g1_1 g1_2 g1_3 g1_4 g1_5 g1_6 g1_7 g1_8 g2_0 g2_1 g2_2 g3_0 g3_1 g3_2
  have y0 := ob.out.cell' (i := 0) rfl
  have y1 := ob.out.cell' (i := 1) rfl
  have y2 := ob.out.cell' (i := 2) rfl
  have y3 := ob.out.cell' (i := 3) rfl
  have y4 := ob.out.cell' (i := 4) rfl
  have y5 := ob.out.cell' (i := 5) rfl
  have y6 := ob.out.cell' (i := 6) rfl
  have y7 := ob.out.cell' (i := 7) rfl
  have y8 := ob.out.cell' (i := 8) rfl
  clear ob
  go_wp2_with fail
  refine (next_calls a b c d u0 u1 u2 a0 a1 a2 n0 n1 n2 _).mono ?_
  rw [H2.out, G1.out]
  rintro e w17 ⟨rfl, hc⟩
  replace HC := hide (HC.out.trans hc (D := []) (by simp))
  have zb := Blk.new w17 28 [.int .i32 x.a.v, .int .i32 x.b.v, .int .i32 x.c.v, .int .i32 x.d.v]
  have z0 := zb.cell' (i := 0) rfl
  have z1 := zb.cell' (i := 1) rfl
  have z2 := zb.cell' (i := 2) rfl
  have z3 := zb.cell' (i := 3) rfl
  have hz := (Chg.refl w17 []).alloc (.cells #[.int .i32 x.a.v, .int .i32 x.b.v, .int .i32 x.c.v, .int .i32 x.d.v] 28)
  replace x0 := hz.cell (hc.cell x0 (by simp)) (by simp)
  replace x1 := hz.cell (hc.cell x1 (by simp)) (by simp)
  replace x2 := hz.cell (hc.cell x2 (by simp)) (by simp)
  replace x3 := hz.cell (hc.cell x3 (by simp)) (by simp)
  replace HC := hide (HC.out.alloc (.cells #[.int .i32 x.a.v, .int .i32 x.b.v, .int .i32 x.c.v, .int .i32 x.d.v] 28))
  clear hc hz zb y0 y1 y2 y3 y4 y5 y6 y7 y8 g0_0 g0_1 g0_2 g0_3
  have EQ := eql_quat x.a.v x.b.v x.c.v x.d.v
  go_wp2_with fail
  refine (awake34_calls _).mono ?_
  rintro e w19 ⟨rfl, hc⟩
  replace HC := hide (HC.out.trans hc (D := []) (by simp))
  clear hc
  go_wp2
  go_ret
  exact ⟨rfl, HC.out⟩
set_option maxRecDepth 100000 in
set_option maxHeartbeats 8000000 in
theorem gates_ff_ff (a b c d u0 u1 u2 a0 a1 a2 v0 v1 v2 b0 b1 b2 n0 n1 n2 : Wd) (x : Q4) (F G : Int)
    (H1 : Hid (sensedW a b c d u0 u1 u2 a0 a1 a2 v0 v1 v2 = x)) (H2 : Hid (sensedW a b c d u0 u1 u2 b0 b1 b2 n0 n1 n2 = x)) (F1 : Hid (flagsI (sensedA a0 a1 a2) (sensedM v0 v1 v2) = F)) (G1 : Hid (flagsI (sensedA b0 b1 b2) (sensedM n0 n1 n2) = G))
    (fa : bits BinOp.and IntKind.i64 F 2 = 2) (fm : bits BinOp.and IntKind.i64 F 4 = 4) (fr : bits BinOp.andNot IntKind.i64 F 6 = 0) (fg : bits BinOp.and IntKind.i64 G 2 = 2)
    (IA : Hid (inside 16777216 150994944 a0.v a1.v a2.v = false)) (IM : Hid (inside 1000000 400000000 v0.v v1.v v2.v = false))
    (JA : Hid (inside 16777216 150994944 b0.v b1.v b2.v = false))
    (JM : Hid (inside 1000000 400000000 n0.v n1.v n2.v = false))
    (w : World) : Calls Tryz.prog 10 #[.agg #[.int .i32 a.v, .int .i32 b.v, .int .i32 c.v, .int .i32 d.v], .agg #[.int .i32 u0.v, .int .i32 u1.v, .int .i32 u2.v, .int .i32 a0.v, .int .i32 a1.v, .int .i32 a2.v, .int .i32 v0.v, .int .i32 v1.v, .int .i32 v2.v], .agg #[.int .i32 b0.v, .int .i32 b1.v, .int .i32 b2.v], .agg #[.int .i32 n0.v, .int .i32 n1.v, .int .i32 n2.v]] w fun e w' => e = .returned (.bool true) ∧ Chg w w' [] := by
  obtain ⟨g0_0, g0_1, g0_2, g0_3, g1_0, g1_1, g1_2, g1_3, g1_4, g1_5, g1_6, g1_7, g1_8, g2_0, g2_1, g2_2, g3_0, g3_1, g3_2, lq, HC⟩ := gates_boxes a b c d u0 u1 u2 a0 a1 a2 v0 v1 v2 b0 b1 b2 n0 n1 n2 w
  replace HC := hide HC
  go_enter Tryz.func10, Tryz.ntmps10
  go_wp2_with fail
  generalize ((((w.alloc (.cells #[.int .i32 a.v, .int .i32 b.v, .int .i32 c.v, .int .i32 d.v] 28)).alloc (.cells #[.int .i32 u0.v, .int .i32 u1.v, .int .i32 u2.v, .int .i32 a0.v, .int .i32 a1.v, .int .i32 a2.v, .int .i32 v0.v, .int .i32 v1.v, .int .i32 v2.v] 41)).alloc (.cells #[.int .i32 b0.v, .int .i32 b1.v, .int .i32 b2.v] 22)).alloc (.cells #[.int .i32 n0.v, .int .i32 n1.v, .int .i32 n2.v] 22)) = w6 at *
  refine (next_calls a b c d u0 u1 u2 a0 a1 a2 v0 v1 v2 _).mono ?_
  rw [H1.out, F1.out]
  rintro e w7 ⟨rfl, hc⟩
  have HC7 := hide (HC.out.trans hc (D := []) (by simp))
  have xb := Blk.new w7 28 [.int .i32 x.a.v, .int .i32 x.b.v, .int .i32 x.c.v, .int .i32 x.d.v]
  have x0 := xb.cell' (i := 0) rfl
  have x1 := xb.cell' (i := 1) rfl
  have x2 := xb.cell' (i := 2) rfl
  have x3 := xb.cell' (i := 3) rfl
  have hz := (Chg.refl w7 []).alloc (.cells #[.int .i32 x.a.v, .int .i32 x.b.v, .int .i32 x.c.v, .int .i32 x.d.v] 28)
  replace g0_0 := hz.cell (hc.cell g0_0 (by simp)) (by simp)
  replace g0_1 := hz.cell (hc.cell g0_1 (by simp)) (by simp)
  replace g0_2 := hz.cell (hc.cell g0_2 (by simp)) (by simp)
  replace g0_3 := hz.cell (hc.cell g0_3 (by simp)) (by simp)
  replace g1_0 := hz.cell (hc.cell g1_0 (by simp)) (by simp)
  replace g1_1 := hz.cell (hc.cell g1_1 (by simp)) (by simp)
  replace g1_2 := hz.cell (hc.cell g1_2 (by simp)) (by simp)
  replace g1_3 := hz.cell (hc.cell g1_3 (by simp)) (by simp)
  replace g1_4 := hz.cell (hc.cell g1_4 (by simp)) (by simp)
  replace g1_5 := hz.cell (hc.cell g1_5 (by simp)) (by simp)
  replace g1_6 := hz.cell (hc.cell g1_6 (by simp)) (by simp)
  replace g1_7 := hz.cell (hc.cell g1_7 (by simp)) (by simp)
  replace g1_8 := hz.cell (hc.cell g1_8 (by simp)) (by simp)
  replace g2_0 := hz.cell (hc.cell g2_0 (by simp)) (by simp)
  replace g2_1 := hz.cell (hc.cell g2_1 (by simp)) (by simp)
  replace g2_2 := hz.cell (hc.cell g2_2 (by simp)) (by simp)
  replace g3_0 := hz.cell (hc.cell g3_0 (by simp)) (by simp)
  replace g3_1 := hz.cell (hc.cell g3_1 (by simp)) (by simp)
  replace g3_2 := hz.cell (hc.cell g3_2 (by simp)) (by simp)
  replace HC := hide (HC7.out.alloc (.cells #[.int .i32 x.a.v, .int .i32 x.b.v, .int .i32 x.c.v, .int .i32 x.d.v] 28))
  have lx := xb.lt
  replace lq := Nat.lt_of_lt_of_le lq (Nat.le_trans hc.size hz.size)
  clear hc hz xb HC7
  go_wp2_with fail
  generalize w7.alloc (.cells #[.int .i32 x.a.v, .int .i32 x.b.v, .int .i32 x.c.v, .int .i32 x.d.v] 28) = w8 at *
  generalize w7.heap.size = xa at *
  refine (refAccel_calls a0.v a1.v a2.v _ a0.ok a1.ok a2.ok).mono ?_
  rw [IA.out]
  rintro e w9 ⟨rfl, hc⟩
  replace HC := hide (HC.out.trans hc (D := []) (by simp))
  replace lq := Nat.lt_of_lt_of_le lq hc.size
  replace lx := Nat.lt_of_lt_of_le lx hc.size
  have KK := keep23 hc g0_0 g0_1 g0_2 g0_3 g1_0 g1_1 g1_2 g1_3 g1_4 g1_5 g1_6 g1_7 g1_8 g2_0 g2_1 g2_2 g3_0 g3_1 g3_2 x0 x1 x2 x3
  clear hc g0_0 g0_1 g0_2 g0_3 g1_0 g1_1 g1_2 g1_3 g1_4 g1_5 g1_6 g1_7 g1_8 g2_0 g2_1 g2_2 g3_0 g3_1 g3_2 x0 x1 x2 x3
  obtain ⟨g0_0, g0_1, g0_2, g0_3, g1_0, g1_1, g1_2, g1_3, g1_4, g1_5, g1_6, g1_7, g1_8, g2_0, g2_1, g2_2, g3_0, g3_1, g3_2, x0, x1, x2, x3⟩ := KK
  go_wp2_with fail
  refine (refMag_calls v0.v v1.v v2.v _ v0.ok v1.ok v2.ok).mono ?_
  rw [IM.out]
  rintro e w10 ⟨rfl, hc⟩
  replace HC := hide (HC.out.trans hc (D := []) (by simp))
  replace lq := Nat.lt_of_lt_of_le lq hc.size
  replace lx := Nat.lt_of_lt_of_le lx hc.size
  have KK := keep23 hc g0_0 g0_1 g0_2 g0_3 g1_0 g1_1 g1_2 g1_3 g1_4 g1_5 g1_6 g1_7 g1_8 g2_0 g2_1 g2_2 g3_0 g3_1 g3_2 x0 x1 x2 x3
  clear hc g0_0 g0_1 g0_2 g0_3 g1_0 g1_1 g1_2 g1_3 g1_4 g1_5 g1_6 g1_7 g1_8 g2_0 g2_1 g2_2 g3_0 g3_1 g3_2 x0 x1 x2 x3
  obtain ⟨g0_0, g0_1, g0_2, g0_3, g1_0, g1_1, g1_2, g1_3, g1_4, g1_5, g1_6, g1_7, g1_8, g2_0, g2_1, g2_2, g3_0, g3_1, g3_2, x0, x1, x2, x3⟩ := KK
  go_upto_region 5 with (fail)
  have ob := Blk.new w10 41 [.int .i32 u0.v, .int .i32 u1.v, .int .i32 u2.v, .int .i32 a0.v, .int .i32 a1.v, .int .i32 a2.v, .int .i32 v0.v, .int .i32 v1.v, .int .i32 v2.v]
  have hz := (Chg.refl w10 []).alloc (.cells #[.int .i32 u0.v, .int .i32 u1.v, .int .i32 u2.v, .int .i32 a0.v, .int .i32 a1.v, .int .i32 a2.v, .int .i32 v0.v, .int .i32 v1.v, .int .i32 v2.v] 41)
  have lo := HC.out.size
  replace HC := hide (HC.out.alloc (.cells #[.int .i32 u0.v, .int .i32 u1.v, .int .i32 u2.v, .int .i32 a0.v, .int .i32 a1.v, .int .i32 a2.v, .int .i32 v0.v, .int .i32 v1.v, .int .i32 v2.v] 41))
  have KK := keep23 hz g0_0 g0_1 g0_2 g0_3 g1_0 g1_1 g1_2 g1_3 g1_4 g1_5 g1_6 g1_7 g1_8 g2_0 g2_1 g2_2 g3_0 g3_1 g3_2 x0 x1 x2 x3
  clear hz g0_0 g0_1 g0_2 g0_3 g1_0 g1_1 g1_2 g1_3 g1_4 g1_5 g1_6 g1_7 g1_8 g2_0 g2_1 g2_2 g3_0 g3_1 g3_2 x0 x1 x2 x3
  obtain ⟨g0_0, g0_1, g0_2, g0_3, g1_0, g1_1, g1_2, g1_3, g1_4, g1_5, g1_6, g1_7, g1_8, g2_0, g2_1, g2_2, g3_0, g3_1, g3_2, x0, x1, x2, x3⟩ := KK
  generalize w10.alloc (.cells #[.int .i32 u0.v, .int .i32 u1.v, .int .i32 u2.v, .int .i32 a0.v, .int .i32 a1.v, .int .i32 a2.v, .int .i32 v0.v, .int .i32 v1.v, .int .i32 v2.v] 41) = w11 at *
  generalize w10.heap.size = oa at *
  replace ob := hide ob
  go_wp2_with fail
  refine (refMag_calls v0.v v1.v v2.v _ v0.ok v1.ok v2.ok).mono ?_
  rw [IM.out]
  rintro e w12 ⟨rfl, hc⟩
  replace HC := hide (HC.out.trans hc (D := []) (by simp))
  replace ob := hide (ob.out.chg hc (by simp))
  have KK := keep23 hc g0_0 g0_1 g0_2 g0_3 g1_0 g1_1 g1_2 g1_3 g1_4 g1_5 g1_6 g1_7 g1_8 g2_0 g2_1 g2_2 g3_0 g3_1 g3_2 x0 x1 x2 x3
  clear hc g0_0 g0_1 g0_2 g0_3 g1_0 g1_1 g1_2 g1_3 g1_4 g1_5 g1_6 g1_7 g1_8 g2_0 g2_1 g2_2 g3_0 g3_1 g3_2 x0 x1 x2 x3
  obtain ⟨g0_0, g0_1, g0_2, g0_3, g1_0, g1_1, g1_2, g1_3, g1_4, g1_5, g1_6, g1_7, g1_8, g2_0, g2_1, g2_2, g3_0, g3_1, g3_2, x0, x1, x2, x3⟩ := KK
  go_wp2_with fail
  refine (refMag_calls n0.v n1.v n2.v _ n0.ok n1.ok n2.ok).mono ?_
  rw [JM.out]
  rintro e w13 ⟨rfl, hc⟩
  replace HC := hide (HC.out.trans hc (D := []) (by simp))
  replace ob := hide (ob.out.chg hc (by simp))
  have KK := keep23 hc g0_0 g0_1 g0_2 g0_3 g1_0 g1_1 g1_2 g1_3 g1_4 g1_5 g1_6 g1_7 g1_8 g2_0 g2_1 g2_2 g3_0 g3_1 g3_2 x0 x1 x2 x3
  clear hc g0_0 g0_1 g0_2 g0_3 g1_0 g1_1 g1_2 g1_3 g1_4 g1_5 g1_6 g1_7 g1_8 g2_0 g2_1 g2_2 g3_0 g3_1 g3_2 x0 x1 x2 x3
  obtain ⟨g0_0, g0_1, g0_2, g0_3, g1_0, g1_1, g1_2, g1_3, g1_4, g1_5, g1_6, g1_7, g1_8, g2_0, g2_1, g2_2, g3_0, g3_1, g3_2, x0, x1, x2, x3⟩ := KK
  have y6 := ob.out.cell' (i := 6) rfl
  have y7 := ob.out.cell' (i := 7) rfl
  have y8 := ob.out.cell' (i := 8) rfl
  have f6 := ob.out.frozen 6
  have f7 := ob.out.frozen 7
  have f8 := ob.out.frozen 8
  go_upto_region 7 with (fail)
  clear y6 f6 y7 f7 y8 f8
  have hz := ((((Chg.refl w13 [oa]).setCell ⟨oa, 6, none⟩ (.int .i32 n0.v) (.inl (by simp))).setCell ⟨oa, 7, none⟩ (.int .i32 n1.v) (.inl (by simp))).setCell ⟨oa, 8, none⟩ (.int .i32 n2.v) (.inl (by simp)))
  replace HC := hide (((HC.out.setCell ⟨oa, 6, none⟩ (.int .i32 n0.v) (.inr lo)).setCell ⟨oa, 7, none⟩ (.int .i32 n1.v) (.inr lo)).setCell ⟨oa, 8, none⟩ (.int .i32 n2.v) (.inr lo))
  replace g0_0 := hz.cell g0_0 (by simp only [List.mem_singleton]; omega)
  replace g0_1 := hz.cell g0_1 (by simp only [List.mem_singleton]; omega)
  replace g0_2 := hz.cell g0_2 (by simp only [List.mem_singleton]; omega)
  replace g0_3 := hz.cell g0_3 (by simp only [List.mem_singleton]; omega)
  replace g1_0 := hz.cell g1_0 (by simp only [List.mem_singleton]; omega)
  replace g1_1 := hz.cell g1_1 (by simp only [List.mem_singleton]; omega)
  replace g1_2 := hz.cell g1_2 (by simp only [List.mem_singleton]; omega)
  replace g1_3 := hz.cell g1_3 (by simp only [List.mem_singleton]; omega)
  replace g1_4 := hz.cell g1_4 (by simp only [List.mem_singleton]; omega)
  replace g1_5 := hz.cell g1_5 (by simp only [List.mem_singleton]; omega)
  replace g1_6 := hz.cell g1_6 (by simp only [List.mem_singleton]; omega)
  replace g1_7 := hz.cell g1_7 (by simp only [List.mem_singleton]; omega)
  replace g1_8 := hz.cell g1_8 (by simp only [List.mem_singleton]; omega)
  replace g2_0 := hz.cell g2_0 (by simp only [List.mem_singleton]; omega)
  replace g2_1 := hz.cell g2_1 (by simp only [List.mem_singleton]; omega)
  replace g2_2 := hz.cell g2_2 (by simp only [List.mem_singleton]; omega)
  replace g3_0 := hz.cell g3_0 (by simp only [List.mem_singleton]; omega)
  replace g3_1 := hz.cell g3_1 (by simp only [List.mem_singleton]; omega)
  replace g3_2 := hz.cell g3_2 (by simp only [List.mem_singleton]; omega)
  replace x0 := hz.cell x0 (by simp only [List.mem_singleton]; omega)
  replace x1 := hz.cell x1 (by simp only [List.mem_singleton]; omega)
  replace x2 := hz.cell x2 (by simp only [List.mem_singleton]; omega)
  replace x3 := hz.cell x3 (by simp only [List.mem_singleton]; omega)
  replace ob : Hid (Blk _ oa 41 [.int .i32 u0.v, .int .i32 u1.v, .int .i32 u2.v, .int .i32 a0.v, .int .i32 a1.v, .int .i32 a2.v, .int .i32 n0.v, .int .i32 n1.v, .int .i32 n2.v]) := hide (((ob.out.set_ 6 (.int .i32 n0.v)).set_ 7 (.int .i32 n1.v)).set_ 8 (.int .i32 n2.v))
  clear hz
  generalize (((w13.setCell ⟨oa, 6, none⟩ (.int .i32 n0.v)).setCell ⟨oa, 7, none⟩ (.int .i32 n1.v)).setCell ⟨oa, 8, none⟩ (.int .i32 n2.v)) = w14 at *
  go_wp2_with fail
  refine (refAccel_calls a0.v a1.v a2.v _ a0.ok a1.ok a2.ok).mono ?_
  rw [IA.out]
  rintro e w15 ⟨rfl, hc⟩
  replace HC := hide (HC.out.trans hc (D := []) (by simp))
  replace ob := hide (ob.out.chg hc (by simp))
  have KK := keep23 hc g0_0 g0_1 g0_2 g0_3 g1_0 g1_1 g1_2 g1_3 g1_4 g1_5 g1_6 g1_7 g1_8 g2_0 g2_1 g2_2 g3_0 g3_1 g3_2 x0 x1 x2 x3
  clear hc g0_0 g0_1 g0_2 g0_3 g1_0 g1_1 g1_2 g1_3 g1_4 g1_5 g1_6 g1_7 g1_8 g2_0 g2_1 g2_2 g3_0 g3_1 g3_2 x0 x1 x2 x3
  obtain ⟨g0_0, g0_1, g0_2, g0_3, g1_0, g1_1, g1_2, g1_3, g1_4, g1_5, g1_6, g1_7, g1_8, g2_0, g2_1, g2_2, g3_0, g3_1, g3_2, x0, x1, x2, x3⟩ := KK
  go_wp2_with fail
  refine (refAccel_calls b0.v b1.v b2.v _ b0.ok b1.ok b2.ok).mono ?_
  rw [JA.out]
  rintro e w16 ⟨rfl, hc⟩
  replace HC := hide (HC.out.trans hc (D := []) (by simp))
  replace ob := hide (ob.out.chg hc (by simp))
  have KK := keep23 hc g0_0 g0_1 g0_2 g0_3 g1_0 g1_1 g1_2 g1_3 g1_4 g1_5 g1_6 g1_7 g1_8 g2_0 g2_1 g2_2 g3_0 g3_1 g3_2 x0 x1 x2 x3
  clear hc g0_0 g0_1 g0_2 g0_3 g1_0 g1_1 g1_2 g1_3 g1_4 g1_5 g1_6 g1_7 g1_8 g2_0 g2_1 g2_2 g3_0 g3_1 g3_2 x0 x1 x2 x3
  obtain ⟨g0_0, g0_1, g0_2, g0_3, g1_0, g1_1, g1_2, g1_3, g1_4, g1_5, g1_6, g1_7, g1_8, g2_0, g2_1, g2_2, g3_0, g3_1, g3_2, x0, x1, x2, x3⟩ := KK
  have y3 := ob.out.cell' (i := 3) rfl
  have y4 := ob.out.cell' (i := 4) rfl
  have y5 := ob.out.cell' (i := 5) rfl
  have y6 := ob.out.cell' (i := 6) rfl
  have y7 := ob.out.cell' (i := 7) rfl
  have y8 := ob.out.cell' (i := 8) rfl
  have f3 := ob.out.frozen 3
  have f4 := ob.out.frozen 4
  have f5 := ob.out.frozen 5
  have f6 := ob.out.frozen 6
  have f7 := ob.out.frozen 7
  have f8 := ob.out.frozen 8
  go_upto_region 10 with (fail)
  clear y3 f3 y4 f4 y5 f5 y6 f6 y7 f7 y8 f8
  have hz := (((((((Chg.refl w16 [oa]).setCell ⟨oa, 3, none⟩ (.int .i32 b0.v) (.inl (by simp))).setCell ⟨oa, 4, none⟩ (.int .i32 b1.v) (.inl (by simp))).setCell ⟨oa, 5, none⟩ (.int .i32 b2.v) (.inl (by simp))).setCell ⟨oa, 6, none⟩ (.int .i32 n0.v) (.inl (by simp))).setCell ⟨oa, 7, none⟩ (.int .i32 n1.v) (.inl (by simp))).setCell ⟨oa, 8, none⟩ (.int .i32 n2.v) (.inl (by simp)))
  replace HC := hide ((((((HC.out.setCell ⟨oa, 3, none⟩ (.int .i32 b0.v) (.inr lo)).setCell ⟨oa, 4, none⟩ (.int .i32 b1.v) (.inr lo)).setCell ⟨oa, 5, none⟩ (.int .i32 b2.v) (.inr lo)).setCell ⟨oa, 6, none⟩ (.int .i32 n0.v) (.inr lo)).setCell ⟨oa, 7, none⟩ (.int .i32 n1.v) (.inr lo)).setCell ⟨oa, 8, none⟩ (.int .i32 n2.v) (.inr lo))
  replace g0_0 := hz.cell g0_0 (by simp only [List.mem_singleton]; omega)
  replace g0_1 := hz.cell g0_1 (by simp only [List.mem_singleton]; omega)
  replace g0_2 := hz.cell g0_2 (by simp only [List.mem_singleton]; omega)
  replace g0_3 := hz.cell g0_3 (by simp only [List.mem_singleton]; omega)
  replace g1_0 := hz.cell g1_0 (by simp only [List.mem_singleton]; omega)
  replace g1_1 := hz.cell g1_1 (by simp only [List.mem_singleton]; omega)
  replace g1_2 := hz.cell g1_2 (by simp only [List.mem_singleton]; omega)
  replace g1_3 := hz.cell g1_3 (by simp only [List.mem_singleton]; omega)
  replace g1_4 := hz.cell g1_4 (by simp only [List.mem_singleton]; omega)
  replace g1_5 := hz.cell g1_5 (by simp only [List.mem_singleton]; omega)
  replace g1_6 := hz.cell g1_6 (by simp only [List.mem_singleton]; omega)
  replace g1_7 := hz.cell g1_7 (by simp only [List.mem_singleton]; omega)
  replace g1_8 := hz.cell g1_8 (by simp only [List.mem_singleton]; omega)
  replace g2_0 := hz.cell g2_0 (by simp only [List.mem_singleton]; omega)
  replace g2_1 := hz.cell g2_1 (by simp only [List.mem_singleton]; omega)
  replace g2_2 := hz.cell g2_2 (by simp only [List.mem_singleton]; omega)
  replace g3_0 := hz.cell g3_0 (by simp only [List.mem_singleton]; omega)
  replace g3_1 := hz.cell g3_1 (by simp only [List.mem_singleton]; omega)
  replace g3_2 := hz.cell g3_2 (by simp only [List.mem_singleton]; omega)
  replace x0 := hz.cell x0 (by simp only [List.mem_singleton]; omega)
  replace x1 := hz.cell x1 (by simp only [List.mem_singleton]; omega)
  replace x2 := hz.cell x2 (by simp only [List.mem_singleton]; omega)
  replace x3 := hz.cell x3 (by simp only [List.mem_singleton]; omega)
  replace ob : Hid (Blk _ oa 41 [.int .i32 u0.v, .int .i32 u1.v, .int .i32 u2.v, .int .i32 b0.v, .int .i32 b1.v, .int .i32 b2.v, .int .i32 n0.v, .int .i32 n1.v, .int .i32 n2.v]) := hide ((((((ob.out.set_ 3 (.int .i32 b0.v)).set_ 4 (.int .i32 b1.v)).set_ 5 (.int .i32 b2.v)).set_ 6 (.int .i32 n0.v)).set_ 7 (.int .i32 n1.v)).set_ 8 (.int .i32 n2.v))
  clear hz
  generalize ((((((w16.setCell ⟨oa, 3, none⟩ (.int .i32 b0.v)).setCell ⟨oa, 4, none⟩ (.int .i32 b1.v)).setCell ⟨oa, 5, none⟩ (.int .i32 b2.v)).setCell ⟨oa, 6, none⟩ (.int .i32 n0.v)).setCell ⟨oa, 7, none⟩ (.int .i32 n1.v)).setCell ⟨oa, 8, none⟩ (.int .i32 n2.v)) = w17 at *
  clear g1_0 g1_1 g1_2 g1_3 g1_4 g1_5 g1_6 g1_7 g1_8 g2_0 g2_1 g2_2 g3_0 g3_1 g3_2
  have y0 := ob.out.cell' (i := 0) rfl
  have y1 := ob.out.cell' (i := 1) rfl
  have y2 := ob.out.cell' (i := 2) rfl
  have y3 := ob.out.cell' (i := 3) rfl
  have y4 := ob.out.cell' (i := 4) rfl
  have y5 := ob.out.cell' (i := 5) rfl
  have y6 := ob.out.cell' (i := 6) rfl
  have y7 := ob.out.cell' (i := 7) rfl
  have y8 := ob.out.cell' (i := 8) rfl
  clear ob
  go_wp2_with fail
  refine (next_calls a b c d u0 u1 u2 b0 b1 b2 n0 n1 n2 _).mono ?_
  rw [H2.out, G1.out]
  rintro e w18 ⟨rfl, hc⟩
  replace HC := hide (HC.out.trans hc (D := []) (by simp))
  have zb := Blk.new w18 28 [.int .i32 x.a.v, .int .i32 x.b.v, .int .i32 x.c.v, .int .i32 x.d.v]
  have z0 := zb.cell' (i := 0) rfl
  have z1 := zb.cell' (i := 1) rfl
  have z2 := zb.cell' (i := 2) rfl
  have z3 := zb.cell' (i := 3) rfl
  have hz := (Chg.refl w18 []).alloc (.cells #[.int .i32 x.a.v, .int .i32 x.b.v, .int .i32 x.c.v, .int .i32 x.d.v] 28)
  replace x0 := hz.cell (hc.cell x0 (by simp)) (by simp)
  replace x1 := hz.cell (hc.cell x1 (by simp)) (by simp)
  replace x2 := hz.cell (hc.cell x2 (by simp)) (by simp)
  replace x3 := hz.cell (hc.cell x3 (by simp)) (by simp)
  replace HC := hide (HC.out.alloc (.cells #[.int .i32 x.a.v, .int .i32 x.b.v, .int .i32 x.c.v, .int .i32 x.d.v] 28))
  clear hc hz zb y0 y1 y2 y3 y4 y5 y6 y7 y8 g0_0 g0_1 g0_2 g0_3
  have EQ := eql_quat x.a.v x.b.v x.c.v x.d.v
  go_wp2_with fail
  refine (awake34_calls _).mono ?_
  rintro e w20 ⟨rfl, hc⟩
  replace HC := hide (HC.out.trans hc (D := []) (by simp))
  clear hc
  go_wp2
  go_ret
  exact ⟨rfl, HC.out⟩
end Go.Proofs.YtbmfcedndbgpoaaGreat
