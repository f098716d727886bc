/- What the reference's panel answers. -/
import Derived.Test.YtihgijhjhmjolaaGreatDoorPanelE
namespace Go.Proofs.YtihgijhjhmjolaaGreatDoor.Xi
open Go Go.RowKit Go.Deep
set_option linter.unusedVariables false
def Ran (w : World) (p : Nat) (x : St) (a b c : Int) : Prop := Blk w p 52 [.int .i32 x.q.a.v, .int .i32 x.q.b.v, .int .i32 x.q.c.v, .int .i32 x.q.d.v, .int .i64 x.s, .int .i64 x.f, .int .i64 x.g, .int .i64 a, .int .i64 b, .int .i64 c]
theorem eqR0 (a0 a1 a2 a3 b0 b1 b2 b3 s f g s' f' g' e e' : Int) (t u : ByteArray) (w : World) : (Op.equalIn 10000 90 (.agg #[.int .i32 a0, .int .i32 a1, .int .i32 a2, .int .i32 a3, .int .i64 s, .int .i64 f, .int .i64 g, .string t, .int .i64 e]) (.agg #[.int .i32 b0, .int .i32 b1, .int .i32 b2, .int .i32 b3, .int .i64 s', .int .i64 f', .int .i64 g', .string u, .int .i64 e'])).run Tryz.prog w =
 .ok (((a0 == b0 && a1 == b1 && a2 == b2 && a3 == b3) && s == s' && f == f' && g == g') && t.toList == u.toList && e == e') w := by
 have u4 := Tryz.underlying25
 have k4 := Tryz.isAgg25
 have z4 := Tryz.sizeOf25
 have q := eqQ8 a0 a1 a2 a3 b0 b1 b2 b3 w
 rw [show (10000 : Nat) = 9999 + 1 from rfl, Op.equalIn]
 simp only [Sem.run_bind, run_underlying Tryz.underlying90, Result.andThen_ok]
 go_simp
 by_cases h0 : a0 = b0 <;> by_cases h1 : a1 = b1 <;> by_cases h2 : a2 = b2 <;> by_cases h3 : a3 = b3 <;> by_cases h4 : s = s' <;> by_cases h5 : f = f' <;> by_cases h6 : g = g' <;> by_cases h7 : t.toList = u.toList <;> by_cases h8 : e = e' <;> simp [h0, h1, h2, h3, h4, h5, h6, h7, h8]
theorem eqR (X Y : An) (w : World) : (Op.equalIn 10000 90 (.agg #[.int .i32 X.s.q.a.v, .int .i32 X.s.q.b.v, .int .i32 X.s.q.c.v, .int .i32 X.s.q.d.v, .int .i64 X.s.s, .int .i64 X.s.f, .int .i64 X.s.g, .string X.t, .int .i64 X.e]) (.agg #[.int .i32 Y.s.q.a.v, .int .i32 Y.s.q.b.v, .int .i32 Y.s.q.c.v, .int .i32 Y.s.q.d.v, .int .i64 Y.s.s, .int .i64 Y.s.f, .int .i64 Y.s.g, .string Y.t, .int .i64 Y.e])).run Tryz.prog w = .ok (X.eqB Y) w := by
 unfold An.eqB
 exact eqR0 _ _ _ _ _ _ _ _ _ _ _ _ _ _ _ _ _ _ w
theorem eqlR (X Y : An) (w : World) : (binOp .eql 90 (.agg #[.int .i32 X.s.q.a.v, .int .i32 X.s.q.b.v, .int .i32 X.s.q.c.v, .int .i32 X.s.q.d.v, .int .i64 X.s.s, .int .i64 X.s.f, .int .i64 X.s.g, .string X.t, .int .i64 X.e]) (.agg #[.int .i32 Y.s.q.a.v, .int .i32 Y.s.q.b.v, .int .i32 Y.s.q.c.v, .int .i32 Y.s.q.d.v, .int .i64 Y.s.s, .int .i64 Y.s.f, .int .i64 Y.s.g, .string Y.t, .int .i64 Y.e])).run Tryz.prog w = .ok (.bool (X.eqB Y)) w := by
 have e : (Op.equal 90 (.agg #[.int .i32 X.s.q.a.v, .int .i32 X.s.q.b.v, .int .i32 X.s.q.c.v, .int .i32 X.s.q.d.v, .int .i64 X.s.s, .int .i64 X.s.f, .int .i64 X.s.g, .string X.t, .int .i64 X.e]) (.agg #[.int .i32 Y.s.q.a.v, .int .i32 Y.s.q.b.v, .int .i32 Y.s.q.c.v, .int .i32 Y.s.q.d.v, .int .i64 Y.s.s, .int .i64 Y.s.f, .int .i64 Y.s.g, .string Y.t, .int .i64 Y.e])).run Tryz.prog w = .ok (X.eqB Y) w := eqR X Y w
 simp only [binOp, Sem.run_bind, e, Result.andThen_ok, Sem.run_pure]
theorem exec_eqlR {a : Act} {o : Oper} {x y : Nat} {X Y : An} {t : TypeId} (ho : o.op = .binOp .eql 90 (.tmp x) (.tmp y) t) (hx : a.tmps.getD x undef = .agg #[.int .i32 X.s.q.a.v, .int .i32 X.s.q.b.v, .int .i32 X.s.q.c.v, .int .i32 X.s.q.d.v, .int .i64 X.s.s, .int .i64 X.s.f, .int .i64 X.s.g, .string X.t, .int .i64 X.e]) (hy : a.tmps.getD y undef = .agg #[.int .i32 Y.s.q.a.v, .int .i32 Y.s.q.b.v, .int .i32 Y.s.q.c.v, .int .i32 Y.s.q.d.v, .int .i64 Y.s.s, .int .i64 Y.s.f, .int .i64 Y.s.g, .string Y.t, .int .i64 Y.e]) (w : World) : (execOp a.eval o).run Tryz.prog w = .ok (.value (.bool (X.eqB Y))) w := by
 have hg := run_eqGuard_agg (P := Tryz.prog) w .eql 90 (.tmp x) (.tmp y) #[.int .i32 X.s.q.a.v, .int .i32 X.s.q.b.v, .int .i32 X.s.q.c.v, .int .i32 X.s.q.d.v, .int .i64 X.s.s, .int .i64 X.s.f, .int .i64 X.s.g, .string X.t, .int .i64 X.e] #[.int .i32 Y.s.q.a.v, .int .i32 Y.s.q.b.v, .int .i32 Y.s.q.c.v, .int .i32 Y.s.q.d.v, .int .i64 Y.s.s, .int .i64 Y.s.f, .int .i64 Y.s.g, .string Y.t, .int .i64 Y.e] (by kernel_rfl)
 have hx' : a.eval (.tmp x) = _ := hx
 have hy' : a.eval (.tmp y) = _ := hy
 unfold execOp
 simp only [ho, hx', hy', Sem.run_bind, hg, eqlR X Y w, Result.andThen_ok, Sem.run_pure]
theorem five_an (A B C : An) : (chosenA A B C = some (A, -1) ∧ choiceR (A.eqB B) (A.eqB C) (B.eqB C) = (0, -1)) ∨ (chosenA A B C = some (A, 2) ∧ choiceR (A.eqB B) (A.eqB C) (B.eqB C) = (0, 2)) ∨ (chosenA A B C = some (A, 1) ∧ choiceR (A.eqB B) (A.eqB C) (B.eqB C) = (0, 1)) ∨
 (chosenA A B C = some (B, 0) ∧ choiceR (A.eqB B) (A.eqB C) (B.eqB C) = (1, 0)) ∨ (chosenA A B C = none ∧ choiceR (A.eqB B) (A.eqB C) (B.eqB C) = (-1, -1)) := by
 unfold chosenA choiceR
 by_cases h1 : A = B
 · subst h1
   by_cases h2 : A = C
   · subst h2
     simp [An.eqB_true.2 rfl]
   · simp [An.eqB_true.2 rfl, An.eqB_false.2 h2]
 · have h1' : ¬ B = A := fun e => h1 e.symm
   by_cases h2 : A = C
   · subst h2
     simp [An.eqB_true.2 rfl, An.eqB_false.2 h1, An.eqB_false.2 h1']
   · by_cases h3 : B = C
     · subst h3
       simp [An.eqB_true.2 rfl, An.eqB_false.2 h1, An.eqB_false.2 h1']
     · simp [An.eqB_false.2 h1, An.eqB_false.2 h2, An.eqB_false.2 h3]
structure GR where
 p : Nat
 sv : Value
def vR6 (q : Nat) (x : St) (Lb i : Nat) (rv : Value) (A : An) (γ : GR) : Nat → Value
 | 0 => .pointer (some ⟨q, 0, none⟩)
 | 1 => .pointer (some ⟨q, 0, none⟩)
 | 2 => .pointer (some ⟨q, 0, none⟩)
 | 3 => .agg #[.int .i32 x.q.a.v, .int .i32 x.q.b.v, .int .i32 x.q.c.v, .int .i32 x.q.d.v, .int .i64 x.s, .int .i64 x.f, .int .i64 x.g]
 | 4 => .slice (some ⟨Lb, 0, none⟩) 3 3
 | 5 => .int .i64 i
 | 6 => .pointer (some ⟨Lb, i, none⟩)
 | 7 => rv
 | 8 => .tuple #[.agg #[.int .i32 A.s.q.a.v, .int .i32 A.s.q.b.v, .int .i32 A.s.q.c.v, .int .i32 A.s.q.d.v, .int .i64 A.s.s, .int .i64 A.s.f, .int .i64 A.s.g], γ.sv, .int .i64 A.e]
 | 9 => .tuple #[.agg #[.int .i32 A.s.q.a.v, .int .i32 A.s.q.b.v, .int .i32 A.s.q.c.v, .int .i32 A.s.q.d.v, .int .i64 A.s.s, .int .i64 A.s.f, .int .i64 A.s.g], γ.sv, .int .i64 A.e]
 | 10 => .agg #[.int .i32 A.s.q.a.v, .int .i32 A.s.q.b.v, .int .i32 A.s.q.c.v, .int .i32 A.s.q.d.v, .int .i64 A.s.s, .int .i64 A.s.f, .int .i64 A.s.g]
 | 11 => γ.sv
 | 12 => .int .i64 A.e
 | 13 => .pointer (some ⟨γ.p, 0, none⟩)
 | 15 => γ.sv
 | 16 => .int .i64 A.e
 | _ => undef
structure WR6 (w0 : World) (A : An) (γ : GR) (L : Nat → Bool) (w : World) : Prop where
 chg : Chg w0 w []
 ans : L 8 = true → Bs w γ.sv A.t ∧ ∃ B n c, γ.sv = .slice B n c
 new : L 13 = true → w0.heap.size ≤ γ.p ∧ Blk w γ.p 25 (bif L 14 then [.int .i32 A.s.q.a.v, .int .i32 A.s.q.b.v, .int .i32 A.s.q.c.v, .int .i32 A.s.q.d.v, .int .i64 A.s.s, .int .i64 A.s.f, .int .i64 A.s.g] else [.int .i32 0, .int .i32 0, .int .i32 0, .int .i32 0, .int .i64 0, .int .i64 0, .int .i64 0])
theorem WR6.ext {w0 : World} {A : An} {γ : GR} {L L' : Nat → Bool} {w : World} (h : WR6 w0 A γ L w) (e5 : L 8 = L' 8) (e10 : L 13 = L' 13) (e11 : L 14 = L' 14) : WR6 w0 A γ L' w :=
 ⟨h.chg, by rw [← e5]; exact h.ans, by rw [← e10, ← e11]; exact h.new⟩
theorem WR6.keep {w0 : World} {A : An} {γ : GR} {L : Nat → Bool} {w w' : World} (h : WR6 w0 A γ L w) (hc : Chg w w' []) : WR6 w0 A γ L w' :=
 ⟨h.chg.trans hc (D := []) (by simp), fun a => ⟨(h.ans a).1.chg hc, (h.ans a).2⟩, fun a => ⟨(h.new a).1, (h.new a).2.chg hc (by simp)⟩⟩
def vR8 (D : Nat) (A B C : An) : Nat → Value
 | 0 => .pointer (some ⟨D, 0, none⟩)
 | 1 => .agg #[.int .i32 A.s.q.a.v, .int .i32 A.s.q.b.v, .int .i32 A.s.q.c.v, .int .i32 A.s.q.d.v, .int .i64 A.s.s, .int .i64 A.s.f, .int .i64 A.s.g, .string A.t, .int .i64 A.e]
 | 2 => .pointer (some ⟨D, 9, none⟩)
 | 3 => .agg #[.int .i32 B.s.q.a.v, .int .i32 B.s.q.b.v, .int .i32 B.s.q.c.v, .int .i32 B.s.q.d.v, .int .i64 B.s.s, .int .i64 B.s.f, .int .i64 B.s.g, .string B.t, .int .i64 B.e]
 | 4 => .bool (A.eqB B)
 | 5 => .pointer (some ⟨D, 0, none⟩)
 | 6 => .agg #[.int .i32 A.s.q.a.v, .int .i32 A.s.q.b.v, .int .i32 A.s.q.c.v, .int .i32 A.s.q.d.v, .int .i64 A.s.s, .int .i64 A.s.f, .int .i64 A.s.g, .string A.t, .int .i64 A.e]
 | 7 => .pointer (some ⟨D, 18, none⟩)
 | 8 => .agg #[.int .i32 C.s.q.a.v, .int .i32 C.s.q.b.v, .int .i32 C.s.q.c.v, .int .i32 C.s.q.d.v, .int .i64 C.s.s, .int .i64 C.s.f, .int .i64 C.s.g, .string C.t, .int .i64 C.e]
 | 9 => .bool (A.eqB C)
 | 10 => .pointer (some ⟨D, 9, none⟩)
 | 11 => .agg #[.int .i32 B.s.q.a.v, .int .i32 B.s.q.b.v, .int .i32 B.s.q.c.v, .int .i32 B.s.q.d.v, .int .i64 B.s.s, .int .i64 B.s.f, .int .i64 B.s.g, .string B.t, .int .i64 B.e]
 | 12 => .pointer (some ⟨D, 18, none⟩)
 | 13 => .agg #[.int .i32 C.s.q.a.v, .int .i32 C.s.q.b.v, .int .i32 C.s.q.c.v, .int .i32 C.s.q.d.v, .int .i64 C.s.s, .int .i64 C.s.f, .int .i64 C.s.g, .string C.t, .int .i64 C.e]
 | 14 => .bool (B.eqB C)
 | 15 => .tuple #[.int .i64 (choiceR (A.eqB B) (A.eqB C) (B.eqB C)).1, .int .i64 (choiceR (A.eqB B) (A.eqB C) (B.eqB C)).2]
 | 16 => .tuple #[.int .i64 (choiceR (A.eqB B) (A.eqB C) (B.eqB C)).1, .int .i64 (choiceR (A.eqB B) (A.eqB C) (B.eqB C)).2]
 | 17 => .int .i64 (choiceR (A.eqB B) (A.eqB C) (B.eqB C)).1
 | 18 => .int .i64 (choiceR (A.eqB B) (A.eqB C) (B.eqB C)).2
 | 19 => .int .i64 (choiceR (A.eqB B) (A.eqB C) (B.eqB C)).1
 | 20 => .int .i64 (choiceR (A.eqB B) (A.eqB C) (B.eqB C)).2
 | _ => undef
def vR14 (r : An) (D k : Nat) (n : Int) (γ : Value) : Nat → Value
 | 0 => .int .i64 k
 | 1 => .pointer (some ⟨D, k * 9, none⟩)
 | 2 => .pointer (some ⟨D, k * 9 + 7, none⟩)
 | 3 => .string r.t
 | 4 => γ
 | 5 => .int .i64 n
 | 6 => .int .i64 k
 | 7 => .pointer (some ⟨D, k * 9, none⟩)
 | 8 => .pointer (some ⟨D, k * 9 + 8, none⟩)
 | 9 => .int .i64 r.e
 | 10 => γ
 | 11 => .int .i64 n
 | 12 => .int .i64 r.e
 | _ => undef
structure WR14 (w0 : World) (S : ByteArray) (γ : Value) (L : Nat → Bool) (w : World) : Prop where
 chg : Chg w0 w []
 ans : L 4 = true → Bs w γ S
theorem WR14.ext {w0 : World} {S : ByteArray} {γ : Value} {L L' : Nat → Bool} {w : World} (h : WR14 w0 S γ L w) (e : L 4 = L' 4) : WR14 w0 S γ L' w :=
 ⟨h.chg, by rw [← e]; exact h.ans⟩
set_option maxRecDepth 100000 in
set_option maxHeartbeats 16000000 in
theorem ranFeed_calls (x : St) (a b c : Int) (q : Nat) (A B C : An) (P0 P1 P2 : Option Addr) (n0 n1 n2 m0 m1 m2 : Nat) (xs ys zs : List Nat) (W : World) (hF : FTab W) (hP : Ran W q x a b c)
 (h0 : Sl W (.slice P0 n0 m0) (u8s xs)) (h1 : Sl W (.slice P1 n1 m1) (u8s ys)) (h2 : Sl W (.slice P2 n2 m2) (u8s zs))
 (l0 : ∀ w, FTab w → Sl w (.slice P0 n0 m0) (u8s xs) → Calls Tryz.prog 11 #[.agg #[.int .i32 x.q.a.v, .int .i32 x.q.b.v, .int .i32 x.q.c.v, .int .i32 x.q.d.v, .int .i64 x.s, .int .i64 x.f, .int .i64 x.g], .slice P0 n0 m0] w fun e w' => laneC w A e w')
 (l1 : ∀ w, FTab w → Sl w (.slice P1 n1 m1) (u8s ys) → Calls Tryz.prog 11 #[.agg #[.int .i32 x.q.a.v, .int .i32 x.q.b.v, .int .i32 x.q.c.v, .int .i32 x.q.d.v, .int .i64 x.s, .int .i64 x.f, .int .i64 x.g], .slice P1 n1 m1] w fun e w' => laneC w B e w')
 (l2 : ∀ w, FTab w → Sl w (.slice P2 n2 m2) (u8s zs) → Calls Tryz.prog 11 #[.agg #[.int .i32 x.q.a.v, .int .i32 x.q.b.v, .int .i32 x.q.c.v, .int .i32 x.q.d.v, .int .i64 x.s, .int .i64 x.f, .int .i64 x.g], .slice P2 n2 m2] w fun e w' => laneC w C e w') :
 Calls Tryz.prog 25 #[.pointer (some ⟨q, 0, none⟩), .slice P0 n0 m0, .slice P1 n1 m1, .slice P2 n2 m2] W fun e w' => ∃ sv, e = .returned (.tuple #[sv, .int .i64 (panR x a b c A B C).n, .int .i64 (panR x a b c A B C).e]) ∧ Bs w' sv (panR x a b c A B C).t ∧
  Ran w' q (panR x a b c A B C).x (panR x a b c A B C).a (panR x a b c A B C).b (panR x a b c A B C).c ∧ Chg W w' [q] := by
 have FT := hide hF
 have L0 := hide l0
 have L1 := hide l1
 have L2 := hide l2
 have S0 := hide h0
 have S1 := hide h1
 have S2 := hide h2
 have HP := hide hP
 clear hF hP h0 h1 h2 l0 l1 l2
 have hmix : Tryz.prog.follows .mixedOrders = true := by kernel_rfl
 replace hmix := hide hmix
 go_enter Tryz.func25, Tryz.ntmps25
 go_upto_region 3 with (fail)
 have hl0 : Blk ((W.alloc (.cells #[.slice P0 n0 m0, .slice P1 n1 m1, .slice P2 n2 m2] 26)).alloc (.cells #[.int .i32 0, .int .i32 0, .int .i32 0, .int .i32 0, .int .i64 0, .int .i64 0, .int .i64 0, .string ⟨#[]⟩, .int .i64 0, .int .i32 0, .int .i32 0, .int .i32 0, .int .i32 0, .int .i64 0, .int .i64 0, .int .i64 0, .string ⟨#[]⟩, .int .i64 0, .int .i32 0, .int .i32 0, .int .i32 0, .int .i32 0, .int .i64 0, .int .i64 0, .int .i64 0, .string ⟨#[]⟩, .int .i64 0] 91)) W.heap.size 26 [.slice P0 n0 m0, .slice P1 n1 m1, .slice P2 n2 m2] := (Blk.new W _ _).alloc _
 have hd0 : Blk ((W.alloc (.cells #[.slice P0 n0 m0, .slice P1 n1 m1, .slice P2 n2 m2] 26)).alloc (.cells #[.int .i32 0, .int .i32 0, .int .i32 0, .int .i32 0, .int .i64 0, .int .i64 0, .int .i64 0, .string ⟨#[]⟩, .int .i64 0, .int .i32 0, .int .i32 0, .int .i32 0, .int .i32 0, .int .i64 0, .int .i64 0, .int .i64 0, .string ⟨#[]⟩, .int .i64 0, .int .i32 0, .int .i32 0, .int .i32 0, .int .i32 0, .int .i64 0, .int .i64 0, .int .i64 0, .string ⟨#[]⟩, .int .i64 0] 91)) (W.heap.size + 1) 91 (dAt A B C 0) := by
  have := Blk.new (W.alloc (.cells #[.slice P0 n0 m0, .slice P1 n1 m1, .slice P2 n2 m2] 26)) 91 (dAt A B C 0)
  rwa [size_alloc] at this
 have HC := hide (((Chg.refl W []).alloc (.cells #[.slice P0 n0 m0, .slice P1 n1 m1, .slice P2 n2 m2] 26)).alloc (.cells #[.int .i32 0, .int .i32 0, .int .i32 0, .int .i32 0, .int .i64 0, .int .i64 0, .int .i64 0, .string ⟨#[]⟩, .int .i64 0, .int .i32 0, .int .i32 0, .int .i32 0, .int .i32 0, .int .i64 0, .int .i64 0, .int .i64 0, .string ⟨#[]⟩, .int .i64 0, .int .i32 0, .int .i32 0, .int .i32 0, .int .i32 0, .int .i64 0, .int .i64 0, .int .i64 0, .string ⟨#[]⟩, .int .i64 0] 91))
 have HP0 := hide (Blk.alloc (Blk.alloc HP.out (.cells #[.slice P0 n0 m0, .slice P1 n1 m1, .slice P2 n2 m2] 26)) (.cells #[.int .i32 0, .int .i32 0, .int .i32 0, .int .i32 0, .int .i64 0, .int .i64 0, .int .i64 0, .string ⟨#[]⟩, .int .i64 0, .int .i32 0, .int .i32 0, .int .i32 0, .int .i32 0, .int .i64 0, .int .i64 0, .int .i64 0, .string ⟨#[]⟩, .int .i64 0, .int .i32 0, .int .i32 0, .int .i32 0, .int .i32 0, .int .i64 0, .int .i64 0, .int .i64 0, .string ⟨#[]⟩, .int .i64 0] 91))
 have hqD := hide (show q < W.heap.size + 1 from Nat.lt_succ_of_lt (Blk.lt HP.out))
 have hLD := hide (show W.heap.size < W.heap.size + 1 by omega)
 have hWD := hide (show W.heap.size ≤ W.heap.size + 1 by omega)
 generalize hw0 : ((W.alloc (.cells #[.slice P0 n0 m0, .slice P1 n1 m1, .slice P2 n2 m2] 26)).alloc (.cells #[.int .i32 0, .int .i32 0, .int .i32 0, .int .i32 0, .int .i64 0, .int .i64 0, .int .i64 0, .string ⟨#[]⟩, .int .i64 0, .int .i32 0, .int .i32 0, .int .i32 0, .int .i32 0, .int .i64 0, .int .i64 0, .int .i64 0, .string ⟨#[]⟩, .int .i64 0, .int .i32 0, .int .i32 0, .int .i32 0, .int .i32 0, .int .i64 0, .int .i64 0, .int .i64 0, .string ⟨#[]⟩, .int .i64 0] 91)) = w0 at *
 clear hw0
 generalize hD : W.heap.size + 1 = D at *
 generalize hLb : W.heap.size = Lb at *
 replace hd0 := hide hd0
 replace hl0 := hide hl0
 go_wp2_with fail
 go_loopw [13] (fun v wr => ∃ i : Nat, v = .int .i64 i ∧ i ≤ 3 ∧ Hid (Chg W wr []) ∧ Hid (Blk wr D 91 (dAt A B C i)) ∧ Hid (Ran wr q x a b c) ∧ Hid (Blk wr Lb 26 [.slice P0 n0 m0, .slice P1 n1 m1, .slice P2 n2 m2])) (fun v _ => (3 - intOf v).toNat)
 case atStart => exact ⟨0, rfl, by omega, HC, hd0, HP0, hl0⟩
 case round =>
  obtain ⟨i, rfl, hi, hc, hd, hp, hl⟩ := hrel
  clear hd0 HC HP0 hl0 w0
  rcases (by omega : i = 0 ∨ i = 1 ∨ i = 2 ∨ i = 3) with rfl | rfl | rfl | rfl
  · go_upto_region 6 with (fail)
    refine wp_regionG hmix.out _ _ (vR6 q x Lb 0 (.slice P0 n0 m0) A) (WR6 wr A) ⟨0, undef⟩ (by kernel_rfl) (by kernel_rfl) (by kernel_rfl) ?step ?start ?fin ?ext
    case start => exact ⟨(Chg.refl wr _).drew, (fun h => by cases h), (fun h => by cases h)⟩
    case ext => exact fun γ L L' w' h hw => hw.ext (by rw [h 8 (by decide)]) (by rw [h 13 (by decide)]) (by rw [h 14 (by decide)])
    case step =>
     have HQ : Blk wr q 52 [.int .i32 x.q.a.v, .int .i32 x.q.b.v, .int .i32 x.q.c.v, .int .i32 x.q.d.v, .int .i64 x.s, .int .i64 x.f, .int .i64 x.g, .int .i64 a, .int .i64 b, .int .i64 c] := hp.out
     have HL : Blk wr Lb 26 [.slice P0 n0 m0, .slice P1 n1 m1, .slice P2 n2 m2] := hl.out
     have HF := FT.out.chg hc.out (by simp)
     have HS := S0.out.keep hc.out
     intro i o ho L a w1 γ hdn htm hW hL hpre K Q hK
     match i, ho with
     | 0, ho =>
      injection ho with ho; subst ho
      have b0 : a.tmps.getD 0 undef = .pointer (some ⟨q, 0, none⟩) := slB htm 0 (by kernel_rfl)
      clear htm
      refine val_now ?_ (hK γ w1 (fun _ _ => rfl) (hW.ext (by simp) (by simp) (by simp))); go_simp; rfl
     | 1, ho =>
      injection ho with ho; subst ho
      have s0 := slA htm 28 0 (by kernel_rfl) (hpre ⟨0, .data⟩ (by simp) rfl)
      simp only [vR6] at s0
      clear htm
      refine val_now ?_ (hK γ w1 (fun _ _ => rfl) (hW.ext (by simp) (by simp) (by simp))); go_simp; rfl
     | 2, ho =>
      injection ho with ho; subst ho
      have s1 := slA htm 29 1 (by kernel_rfl) (hpre ⟨1, .data⟩ (by simp) rfl)
      simp only [vR6] at s1
      clear htm
      refine val_now ?_ (hK γ w1 (fun _ _ => rfl) (hW.ext (by simp) (by simp) (by simp))); go_simp; rfl
     | 3, ho =>
      injection ho with ho; subst ho
      have s2 := slA htm 30 2 (by kernel_rfl) (hpre ⟨2, .data⟩ (by simp) rfl)
      simp only [vR6] at s2
      clear htm
      have c0 := (HQ.chg hW.chg (by simp)).cell' (i := 0) rfl
      have c1 := (HQ.chg hW.chg (by simp)).cell' (i := 1) rfl
      have c2 := (HQ.chg hW.chg (by simp)).cell' (i := 2) rfl
      have c3 := (HQ.chg hW.chg (by simp)).cell' (i := 3) rfl
      have c4 := (HQ.chg hW.chg (by simp)).cell' (i := 4) rfl
      have c5 := (HQ.chg hW.chg (by simp)).cell' (i := 5) rfl
      have c6 := (HQ.chg hW.chg (by simp)).cell' (i := 6) rfl
      refine val_now ?_ (hK γ w1 (fun _ _ => rfl) (hW.ext (by simp) (by simp) (by simp))); go_simp; rfl
     | 4, ho =>
      injection ho with ho; subst ho
      have b11 : a.tmps.getD 11 undef = .slice (some ⟨Lb, 0, none⟩) 3 3 := slB htm 11 (by kernel_rfl)
      clear htm
      refine val_now ?_ (hK γ w1 (fun _ _ => rfl) (hW.ext (by simp) (by simp) (by simp))); go_simp; rfl
     | 5, ho =>
      injection ho with ho; subst ho
      have b13 : a.tmps.getD 13 undef = .int .i64 0 := slB htm 13 (by kernel_rfl)
      clear htm
      refine val_now ?_ (hK γ w1 (fun _ _ => rfl) (hW.ext (by simp) (by simp) (by simp))); go_simp; rfl
     | 6, ho =>
      injection ho with ho; subst ho
      have s4 := slA htm 32 4 (by kernel_rfl) (hpre ⟨4, .data⟩ (by simp) rfl)
      have s5 := slA htm 33 5 (by kernel_rfl) (hpre ⟨5, .data⟩ (by simp) rfl)
      simp only [vR6] at s4 s5
      clear htm
      refine val_now ?_ (hK γ w1 (fun _ _ => rfl) (hW.ext (by simp) (by simp) (by simp))); go_simp; rfl
     | 7, ho =>
      injection ho with ho; subst ho
      have s6 := slA htm 34 6 (by kernel_rfl) (hpre ⟨6, .data⟩ (by simp) rfl)
      simp only [vR6] at s6
      clear htm
      have c0 := (HL.chg hW.chg (by simp)).cell' (i := 0) rfl
      refine val_now ?_ (hK γ w1 (fun _ _ => rfl) (hW.ext (by simp) (by simp) (by simp))); go_simp; rfl
     | 8, ho =>
      injection ho with ho; subst ho
      have s3 := slA htm 31 3 (by kernel_rfl) (hpre ⟨3, .data⟩ (by simp) rfl)
      have s7 := slA htm 35 7 (by kernel_rfl) (hpre ⟨7, .data⟩ (by simp) rfl)
      simp only [vR6] at s3 s7
      clear htm
      refine call_now (f := 11) (args := #[.agg #[.int .i32 x.q.a.v, .int .i32 x.q.b.v, .int .i32 x.q.c.v, .int .i32 x.q.d.v, .int .i64 x.s, .int .i64 x.f, .int .i64 x.g], .slice P0 n0 m0]) ?_ (L0.out w1 (HF.chg hW.chg (by simp)) (HS.keep hW.chg)) ?_
      · go_simp
      · rintro e w2 ⟨⟨Bv, bn, bc, rfl, hs⟩, hc⟩
        refine ⟨_, rfl, hK ⟨γ.p, .slice Bv bn bc⟩ w2 (fun j hj => ?_) ?_⟩
        · have n9 : L 9 = false := by
           cases h : L 9 with
           | false => rfl
           | true => have this : L 8 = true := hdn 9 _ rfl h ⟨8, .data⟩ (by simp) rfl; rw [hL] at this; cases this
          have n11 : L 11 = false := by
           cases h : L 11 with
           | false => rfl
           | true => have this : L 9 = true := hdn 11 _ rfl h ⟨9, .data⟩ (by simp) rfl; rw [n9] at this; cases this
          have n15 : L 15 = false := by
           cases h : L 15 with
           | false => rfl
           | true => have this : L 11 = true := hdn 15 _ rfl h ⟨11, .data⟩ (by simp) rfl; rw [n11] at this; cases this
          match j, hj with
          | 0, _ => rfl
          | 1, _ => rfl
          | 2, _ => rfl
          | 3, _ => rfl
          | 4, _ => rfl
          | 5, _ => rfl
          | 6, _ => rfl
          | 7, _ => rfl
          | 8, hj => rw [hL] at hj; cases hj
          | 9, hj => rw [n9] at hj; cases hj
          | 10, _ => rfl
          | 11, hj => rw [n11] at hj; cases hj
          | 12, _ => rfl
          | 13, _ => rfl
          | 14, _ => rfl
          | 15, hj => rw [n15] at hj; cases hj
          | 16, _ => rfl
          | _ + 17, _ => rfl
        · have hk := hW.keep hc
          exact ⟨hk.chg, fun _ => ⟨hs, Bv, bn, bc, rfl⟩, fun h => by simpa using hk.new (by simpa using h)⟩
     | 9, ho =>
      injection ho with ho; subst ho
      have s8 := slA htm 36 8 (by kernel_rfl) (hpre ⟨8, .data⟩ (by simp) rfl)
      simp only [vR6] at s8
      clear htm
      refine val_now ?_ (hK γ w1 (fun _ _ => rfl) (hW.ext (by simp) (by simp) (by simp))); go_simp; rfl
     | 10, ho =>
      injection ho with ho; subst ho
      have s9 := slA htm 27 9 (by kernel_rfl) (hpre ⟨9, .data⟩ (by simp) rfl)
      simp only [vR6] at s9
      clear htm
      refine val_now ?_ (hK γ w1 (fun _ _ => rfl) (hW.ext (by simp) (by simp) (by simp))); go_simp; rfl
     | 11, ho =>
      injection ho with ho; subst ho
      have s9 := slA htm 27 9 (by kernel_rfl) (hpre ⟨9, .data⟩ (by simp) rfl)
      simp only [vR6] at s9
      clear htm
      refine val_now ?_ (hK γ w1 (fun _ _ => rfl) (hW.ext (by simp) (by simp) (by simp))); go_simp; rfl
     | 12, ho =>
      injection ho with ho; subst ho
      have s9 := slA htm 27 9 (by kernel_rfl) (hpre ⟨9, .data⟩ (by simp) rfl)
      simp only [vR6] at s9
      clear htm
      refine val_now ?_ (hK γ w1 (fun _ _ => rfl) (hW.ext (by simp) (by simp) (by simp))); go_simp; rfl
     | 13, ho =>
      injection ho with ho; subst ho
      clear htm
      have l14 : L 14 = false := by
       cases h : L 14 with
       | false => rfl
       | true => have this : L 13 = true := hdn 14 _ rfl h ⟨13, .data⟩ (by simp) rfl; rw [hL] at this; cases this
      refine val_now (v := vR6 q x Lb 0 (.slice P0 n0 m0) A ⟨w1.heap.size, γ.sv⟩ 13) (w' := w1.alloc (.cells #[.int .i32 0, .int .i32 0, .int .i32 0, .int .i32 0, .int .i64 0, .int .i64 0, .int .i64 0] 25)) ?_ (hK ⟨w1.heap.size, γ.sv⟩ _ (fun j hj => ?_) ?_)
      · go_simp
        rfl
      · match j, hj with
        | 0, _ => rfl
        | 1, _ => rfl
        | 2, _ => rfl
        | 3, _ => rfl
        | 4, _ => rfl
        | 5, _ => rfl
        | 6, _ => rfl
        | 7, _ => rfl
        | 8, _ => rfl
        | 9, _ => rfl
        | 10, _ => rfl
        | 11, _ => rfl
        | 12, _ => rfl
        | 13, hj => rw [hL] at hj; cases hj
        | 14, _ => rfl
        | 15, _ => rfl
        | 16, _ => rfl
        | _ + 17, _ => rfl
      · have hk := hW.keep ((Chg.refl w1 []).alloc (.cells #[.int .i32 0, .int .i32 0, .int .i32 0, .int .i32 0, .int .i64 0, .int .i64 0, .int .i64 0] 25))
        refine ⟨hk.chg, fun h => hk.ans (by simpa using h), fun _ => ⟨hW.chg.size, ?_⟩⟩
        simp only [l14]
        exact Blk.new w1 _ _
     | 14, ho =>
      injection ho with ho; subst ho
      have l13 := hpre ⟨13, .data⟩ (by simp) rfl
      have s13 := slA htm 14 13 (by kernel_rfl) l13
      have l10 := hpre ⟨10, .data⟩ (by simp) rfl
      have s10 := slA htm 37 10 (by kernel_rfl) l10
      simp only [vR6] at s13 s10
      clear htm
      have l9 : L 9 = true := hdn 10 _ rfl l10 ⟨9, .data⟩ (by simp) rfl
      have l8 : L 8 = true := hdn 9 _ rfl l9 ⟨8, .data⟩ (by simp) rfl
      obtain ⟨hp, hb⟩ := hW.new l13
      rw [hL] at hb
      simp only [cond_false] at hb
      have c0 := hb.cell' (i := 0) rfl
      have f0 := hb.frozen 0
      have c1 := hb.cell' (i := 1) rfl
      have f1 := hb.frozen 1
      have c2 := hb.cell' (i := 2) rfl
      have f2 := hb.frozen 2
      have c3 := hb.cell' (i := 3) rfl
      have f3 := hb.frozen 3
      have c4 := hb.cell' (i := 4) rfl
      have f4 := hb.frozen 4
      have c5 := hb.cell' (i := 5) rfl
      have f5 := hb.frozen 5
      have c6 := hb.cell' (i := 6) rfl
      have f6 := hb.frozen 6
      refine skip_now (w' := put7 w1 γ.p (.int .i32 A.s.q.a.v) (.int .i32 A.s.q.b.v) (.int .i32 A.s.q.c.v) (.int .i32 A.s.q.d.v) (.int .i64 A.s.s) (.int .i64 A.s.f) (.int .i64 A.s.g)) ?_ (hK γ _ (fun _ _ => rfl) ?_)
      · go_simp
        rfl
      · have hc7 := put7_chg w1 γ.p (.int .i32 A.s.q.a.v) (.int .i32 A.s.q.b.v) (.int .i32 A.s.q.c.v) (.int .i32 A.s.q.d.v) (.int .i64 A.s.s) (.int .i64 A.s.f) (.int .i64 A.s.g)
        have hans := hW.ans l8
        refine ⟨hW.chg.trans hc7 (D := []) (fun k hk => by simp at hk; omega), fun _ => ⟨not_stB hb hans.1 hc7, hans.2⟩, fun _ => ⟨hp, ?_⟩⟩
        simp only [if_true, cond_true]
        exact put7_blk hb (.int .i32 A.s.q.a.v) (.int .i32 A.s.q.b.v) (.int .i32 A.s.q.c.v) (.int .i32 A.s.q.d.v) (.int .i64 A.s.s) (.int .i64 A.s.f) (.int .i64 A.s.g)
     | 15, ho =>
      injection ho with ho; subst ho
      have s11 := slA htm 38 11 (by kernel_rfl) (hpre ⟨11, .data⟩ (by simp) rfl)
      simp only [vR6] at s11
      clear htm
      refine val_now ?_ (hK γ w1 (fun _ _ => rfl) (hW.ext (by simp) (by simp) (by simp))); go_simp; rfl
     | 16, ho =>
      injection ho with ho; subst ho
      have s12 := slA htm 39 12 (by kernel_rfl) (hpre ⟨12, .data⟩ (by simp) rfl)
      simp only [vR6] at s12
      clear htm
      refine val_now ?_ (hK γ w1 (fun _ _ => rfl) (hW.ext (by simp) (by simp) (by simp))); go_simp; rfl
     | _ + 17, ho => cases ho
    case fin =>
     intro γ w3 hW
     obtain ⟨gp, gs⟩ := γ
     rw [finG_puts]
     simp only [putsR, vR6]
     obtain ⟨hs, Bv, bn, bc, e⟩ := hW.ans rfl
     simp only at e
     subst e
     obtain ⟨hgp, hS3⟩ := hW.new rfl
     simp only [cond_true] at hS3
     have hc3 := hW.chg
     clear hW
     have hP3 := hide (Blk.chg hp.out hc3 (by simp))
     have hL3 := hide (Blk.chg hl.out hc3 (by simp))
     have hD3 := hide (hd.out.chg hc3 (by simp))
     have hC3 := hide (hc.out.trans hc3 (D := []) (by simp))
     clear hp hl hd hc hc3 hgp
     have z0 := hS3.cell' (i := 0) rfl
     have z1 := hS3.cell' (i := 1) rfl
     have z2 := hS3.cell' (i := 2) rfl
     have z3 := hS3.cell' (i := 3) rfl
     have z4 := hS3.cell' (i := 4) rfl
     have z5 := hS3.cell' (i := 5) rfl
     have z6 := hS3.cell' (i := 6) rfl
     clear hS3
     have cx := conv_str hs
     clear hs
     have d0 := hD3.out.cell' (i := 0) rfl
     have df0 := hD3.out.frozen 0
     have d1 := hD3.out.cell' (i := 1) rfl
     have df1 := hD3.out.frozen 1
     have d2 := hD3.out.cell' (i := 2) rfl
     have df2 := hD3.out.frozen 2
     have d3 := hD3.out.cell' (i := 3) rfl
     have df3 := hD3.out.frozen 3
     have d4 := hD3.out.cell' (i := 4) rfl
     have df4 := hD3.out.frozen 4
     have d5 := hD3.out.cell' (i := 5) rfl
     have df5 := hD3.out.frozen 5
     have d6 := hD3.out.cell' (i := 6) rfl
     have df6 := hD3.out.frozen 6
     have d7 := hD3.out.cell' (i := 7) rfl
     have df7 := hD3.out.frozen 7
     have d8 := hD3.out.cell' (i := 8) rfl
     have df8 := hD3.out.frozen 8
     go_upto_region 5 with (fail)
     change Code.wp _ _ _ _ (put9 w3 D 0 (.int .i32 A.s.q.a.v) (.int .i32 A.s.q.b.v) (.int .i32 A.s.q.c.v) (.int .i32 A.s.q.d.v) (.int .i64 A.s.s) (.int .i64 A.s.f) (.int .i64 A.s.g) (.string A.t) (.int .i64 A.e))
     clear d0 df0 d1 df1 d2 df2 d3 df3 d4 df4 d5 df5 d6 df6 d7 df7 d8 df8
     clear z0 z1 z2 z3 z4 z5 z6
     have hc9 := put9_chg w3 D 0 (.int .i32 A.s.q.a.v) (.int .i32 A.s.q.b.v) (.int .i32 A.s.q.c.v) (.int .i32 A.s.q.d.v) (.int .i64 A.s.s) (.int .i64 A.s.f) (.int .i64 A.s.g) (.string A.t) (.int .i64 A.e)
     have hD4 := hide (show Blk _ _ _ (dAt A B C 1) from put9_blk hD3.out 0 (.int .i32 A.s.q.a.v) (.int .i32 A.s.q.b.v) (.int .i32 A.s.q.c.v) (.int .i32 A.s.q.d.v) (.int .i64 A.s.s) (.int .i64 A.s.f) (.int .i64 A.s.g) (.string A.t) (.int .i64 A.e))
     have hP4 := hide (Blk.chg hP3.out hc9 (by have := hqD.out; simp; omega))
     have hL4 := hide (Blk.chg hL3.out hc9 (by have := hLD.out; simp; omega))
     have hC4 := hide (hC3.out.trans hc9 (D := []) (fun k hk => by have := hWD.out; simp at hk; omega))
     generalize put9 w3 D 0 (.int .i32 A.s.q.a.v) (.int .i32 A.s.q.b.v) (.int .i32 A.s.q.c.v) (.int .i32 A.s.q.d.v) (.int .i64 A.s.s) (.int .i64 A.s.f) (.int .i64 A.s.g) (.string A.t) (.int .i64 A.e) = w4 at *
     clear hc9 hD3 hP3 hL3 hC3 cx
     go_wp2
     go_roundw
     case rel => exact ⟨1, by go_num, by omega, hC4, hD4, hP4, hL4⟩
     case measure => simp [intOf]
  · go_upto_region 6 with (fail)
    refine wp_regionG hmix.out _ _ (vR6 q x Lb 1 (.slice P1 n1 m1) B) (WR6 wr B) ⟨0, undef⟩ (by kernel_rfl) (by kernel_rfl) (by kernel_rfl) ?step ?start ?fin ?ext
    case start => exact ⟨(Chg.refl wr _).drew, (fun h => by cases h), (fun h => by cases h)⟩
    case ext => exact fun γ L L' w' h hw => hw.ext (by rw [h 8 (by decide)]) (by rw [h 13 (by decide)]) (by rw [h 14 (by decide)])
    case step =>
     have HQ : Blk wr q 52 [.int .i32 x.q.a.v, .int .i32 x.q.b.v, .int .i32 x.q.c.v, .int .i32 x.q.d.v, .int .i64 x.s, .int .i64 x.f, .int .i64 x.g, .int .i64 a, .int .i64 b, .int .i64 c] := hp.out
     have HL : Blk wr Lb 26 [.slice P0 n0 m0, .slice P1 n1 m1, .slice P2 n2 m2] := hl.out
     have HF := FT.out.chg hc.out (by simp)
     have HS := S1.out.keep hc.out
     intro i o ho L a w1 γ hdn htm hW hL hpre K Q hK
     match i, ho with
     | 0, ho =>
      injection ho with ho; subst ho
      have b0 : a.tmps.getD 0 undef = .pointer (some ⟨q, 0, none⟩) := slB htm 0 (by kernel_rfl)
      clear htm
      refine val_now ?_ (hK γ w1 (fun _ _ => rfl) (hW.ext (by simp) (by simp) (by simp))); go_simp; rfl
     | 1, ho =>
      injection ho with ho; subst ho
      have s0 := slA htm 28 0 (by kernel_rfl) (hpre ⟨0, .data⟩ (by simp) rfl)
      simp only [vR6] at s0
      clear htm
      refine val_now ?_ (hK γ w1 (fun _ _ => rfl) (hW.ext (by simp) (by simp) (by simp))); go_simp; rfl
     | 2, ho =>
      injection ho with ho; subst ho
      have s1 := slA htm 29 1 (by kernel_rfl) (hpre ⟨1, .data⟩ (by simp) rfl)
      simp only [vR6] at s1
      clear htm
      refine val_now ?_ (hK γ w1 (fun _ _ => rfl) (hW.ext (by simp) (by simp) (by simp))); go_simp; rfl
     | 3, ho =>
      injection ho with ho; subst ho
      have s2 := slA htm 30 2 (by kernel_rfl) (hpre ⟨2, .data⟩ (by simp) rfl)
      simp only [vR6] at s2
      clear htm
      have c0 := (HQ.chg hW.chg (by simp)).cell' (i := 0) rfl
      have c1 := (HQ.chg hW.chg (by simp)).cell' (i := 1) rfl
      have c2 := (HQ.chg hW.chg (by simp)).cell' (i := 2) rfl
      have c3 := (HQ.chg hW.chg (by simp)).cell' (i := 3) rfl
      have c4 := (HQ.chg hW.chg (by simp)).cell' (i := 4) rfl
      have c5 := (HQ.chg hW.chg (by simp)).cell' (i := 5) rfl
      have c6 := (HQ.chg hW.chg (by simp)).cell' (i := 6) rfl
      refine val_now ?_ (hK γ w1 (fun _ _ => rfl) (hW.ext (by simp) (by simp) (by simp))); go_simp; rfl
     | 4, ho =>
      injection ho with ho; subst ho
      have b11 : a.tmps.getD 11 undef = .slice (some ⟨Lb, 0, none⟩) 3 3 := slB htm 11 (by kernel_rfl)
      clear htm
      refine val_now ?_ (hK γ w1 (fun _ _ => rfl) (hW.ext (by simp) (by simp) (by simp))); go_simp; rfl
     | 5, ho =>
      injection ho with ho; subst ho
      have b13 : a.tmps.getD 13 undef = .int .i64 1 := slB htm 13 (by kernel_rfl)
      clear htm
      refine val_now ?_ (hK γ w1 (fun _ _ => rfl) (hW.ext (by simp) (by simp) (by simp))); go_simp; rfl
     | 6, ho =>
      injection ho with ho; subst ho
      have s4 := slA htm 32 4 (by kernel_rfl) (hpre ⟨4, .data⟩ (by simp) rfl)
      have s5 := slA htm 33 5 (by kernel_rfl) (hpre ⟨5, .data⟩ (by simp) rfl)
      simp only [vR6] at s4 s5
      clear htm
      refine val_now ?_ (hK γ w1 (fun _ _ => rfl) (hW.ext (by simp) (by simp) (by simp))); go_simp; rfl
     | 7, ho =>
      injection ho with ho; subst ho
      have s6 := slA htm 34 6 (by kernel_rfl) (hpre ⟨6, .data⟩ (by simp) rfl)
      simp only [vR6] at s6
      clear htm
      have c0 := (HL.chg hW.chg (by simp)).cell' (i := 1) rfl
      refine val_now ?_ (hK γ w1 (fun _ _ => rfl) (hW.ext (by simp) (by simp) (by simp))); go_simp; rfl
     | 8, ho =>
      injection ho with ho; subst ho
      have s3 := slA htm 31 3 (by kernel_rfl) (hpre ⟨3, .data⟩ (by simp) rfl)
      have s7 := slA htm 35 7 (by kernel_rfl) (hpre ⟨7, .data⟩ (by simp) rfl)
      simp only [vR6] at s3 s7
      clear htm
      refine call_now (f := 11) (args := #[.agg #[.int .i32 x.q.a.v, .int .i32 x.q.b.v, .int .i32 x.q.c.v, .int .i32 x.q.d.v, .int .i64 x.s, .int .i64 x.f, .int .i64 x.g], .slice P1 n1 m1]) ?_ (L1.out w1 (HF.chg hW.chg (by simp)) (HS.keep hW.chg)) ?_
      · go_simp
      · rintro e w2 ⟨⟨Bv, bn, bc, rfl, hs⟩, hc⟩
        refine ⟨_, rfl, hK ⟨γ.p, .slice Bv bn bc⟩ w2 (fun j hj => ?_) ?_⟩
        · have n9 : L 9 = false := by
           cases h : L 9 with
           | false => rfl
           | true => have this : L 8 = true := hdn 9 _ rfl h ⟨8, .data⟩ (by simp) rfl; rw [hL] at this; cases this
          have n11 : L 11 = false := by
           cases h : L 11 with
           | false => rfl
           | true => have this : L 9 = true := hdn 11 _ rfl h ⟨9, .data⟩ (by simp) rfl; rw [n9] at this; cases this
          have n15 : L 15 = false := by
           cases h : L 15 with
           | false => rfl
           | true => have this : L 11 = true := hdn 15 _ rfl h ⟨11, .data⟩ (by simp) rfl; rw [n11] at this; cases this
          match j, hj with
          | 0, _ => rfl
          | 1, _ => rfl
          | 2, _ => rfl
          | 3, _ => rfl
          | 4, _ => rfl
          | 5, _ => rfl
          | 6, _ => rfl
          | 7, _ => rfl
          | 8, hj => rw [hL] at hj; cases hj
          | 9, hj => rw [n9] at hj; cases hj
          | 10, _ => rfl
          | 11, hj => rw [n11] at hj; cases hj
          | 12, _ => rfl
          | 13, _ => rfl
          | 14, _ => rfl
          | 15, hj => rw [n15] at hj; cases hj
          | 16, _ => rfl
          | _ + 17, _ => rfl
        · have hk := hW.keep hc
          exact ⟨hk.chg, fun _ => ⟨hs, Bv, bn, bc, rfl⟩, fun h => by simpa using hk.new (by simpa using h)⟩
     | 9, ho =>
      injection ho with ho; subst ho
      have s8 := slA htm 36 8 (by kernel_rfl) (hpre ⟨8, .data⟩ (by simp) rfl)
      simp only [vR6] at s8
      clear htm
      refine val_now ?_ (hK γ w1 (fun _ _ => rfl) (hW.ext (by simp) (by simp) (by simp))); go_simp; rfl
     | 10, ho =>
      injection ho with ho; subst ho
      have s9 := slA htm 27 9 (by kernel_rfl) (hpre ⟨9, .data⟩ (by simp) rfl)
      simp only [vR6] at s9
      clear htm
      refine val_now ?_ (hK γ w1 (fun _ _ => rfl) (hW.ext (by simp) (by simp) (by simp))); go_simp; rfl
     | 11, ho =>
      injection ho with ho; subst ho
      have s9 := slA htm 27 9 (by kernel_rfl) (hpre ⟨9, .data⟩ (by simp) rfl)
      simp only [vR6] at s9
      clear htm
      refine val_now ?_ (hK γ w1 (fun _ _ => rfl) (hW.ext (by simp) (by simp) (by simp))); go_simp; rfl
     | 12, ho =>
      injection ho with ho; subst ho
      have s9 := slA htm 27 9 (by kernel_rfl) (hpre ⟨9, .data⟩ (by simp) rfl)
      simp only [vR6] at s9
      clear htm
      refine val_now ?_ (hK γ w1 (fun _ _ => rfl) (hW.ext (by simp) (by simp) (by simp))); go_simp; rfl
     | 13, ho =>
      injection ho with ho; subst ho
      clear htm
      have l14 : L 14 = false := by
       cases h : L 14 with
       | false => rfl
       | true => have this : L 13 = true := hdn 14 _ rfl h ⟨13, .data⟩ (by simp) rfl; rw [hL] at this; cases this
      refine val_now (v := vR6 q x Lb 1 (.slice P1 n1 m1) B ⟨w1.heap.size, γ.sv⟩ 13) (w' := w1.alloc (.cells #[.int .i32 0, .int .i32 0, .int .i32 0, .int .i32 0, .int .i64 0, .int .i64 0, .int .i64 0] 25)) ?_ (hK ⟨w1.heap.size, γ.sv⟩ _ (fun j hj => ?_) ?_)
      · go_simp
        rfl
      · match j, hj with
        | 0, _ => rfl
        | 1, _ => rfl
        | 2, _ => rfl
        | 3, _ => rfl
        | 4, _ => rfl
        | 5, _ => rfl
        | 6, _ => rfl
        | 7, _ => rfl
        | 8, _ => rfl
        | 9, _ => rfl
        | 10, _ => rfl
        | 11, _ => rfl
        | 12, _ => rfl
        | 13, hj => rw [hL] at hj; cases hj
        | 14, _ => rfl
        | 15, _ => rfl
        | 16, _ => rfl
        | _ + 17, _ => rfl
      · have hk := hW.keep ((Chg.refl w1 []).alloc (.cells #[.int .i32 0, .int .i32 0, .int .i32 0, .int .i32 0, .int .i64 0, .int .i64 0, .int .i64 0] 25))
        refine ⟨hk.chg, fun h => hk.ans (by simpa using h), fun _ => ⟨hW.chg.size, ?_⟩⟩
        simp only [l14]
        exact Blk.new w1 _ _
     | 14, ho =>
      injection ho with ho; subst ho
      have l13 := hpre ⟨13, .data⟩ (by simp) rfl
      have s13 := slA htm 14 13 (by kernel_rfl) l13
      have l10 := hpre ⟨10, .data⟩ (by simp) rfl
      have s10 := slA htm 37 10 (by kernel_rfl) l10
      simp only [vR6] at s13 s10
      clear htm
      have l9 : L 9 = true := hdn 10 _ rfl l10 ⟨9, .data⟩ (by simp) rfl
      have l8 : L 8 = true := hdn 9 _ rfl l9 ⟨8, .data⟩ (by simp) rfl
      obtain ⟨hp, hb⟩ := hW.new l13
      rw [hL] at hb
      simp only [cond_false] at hb
      have c0 := hb.cell' (i := 0) rfl
      have f0 := hb.frozen 0
      have c1 := hb.cell' (i := 1) rfl
      have f1 := hb.frozen 1
      have c2 := hb.cell' (i := 2) rfl
      have f2 := hb.frozen 2
      have c3 := hb.cell' (i := 3) rfl
      have f3 := hb.frozen 3
      have c4 := hb.cell' (i := 4) rfl
      have f4 := hb.frozen 4
      have c5 := hb.cell' (i := 5) rfl
      have f5 := hb.frozen 5
      have c6 := hb.cell' (i := 6) rfl
      have f6 := hb.frozen 6
      refine skip_now (w' := put7 w1 γ.p (.int .i32 B.s.q.a.v) (.int .i32 B.s.q.b.v) (.int .i32 B.s.q.c.v) (.int .i32 B.s.q.d.v) (.int .i64 B.s.s) (.int .i64 B.s.f) (.int .i64 B.s.g)) ?_ (hK γ _ (fun _ _ => rfl) ?_)
      · go_simp
        rfl
      · have hc7 := put7_chg w1 γ.p (.int .i32 B.s.q.a.v) (.int .i32 B.s.q.b.v) (.int .i32 B.s.q.c.v) (.int .i32 B.s.q.d.v) (.int .i64 B.s.s) (.int .i64 B.s.f) (.int .i64 B.s.g)
        have hans := hW.ans l8
        refine ⟨hW.chg.trans hc7 (D := []) (fun k hk => by simp at hk; omega), fun _ => ⟨not_stB hb hans.1 hc7, hans.2⟩, fun _ => ⟨hp, ?_⟩⟩
        simp only [if_true, cond_true]
        exact put7_blk hb (.int .i32 B.s.q.a.v) (.int .i32 B.s.q.b.v) (.int .i32 B.s.q.c.v) (.int .i32 B.s.q.d.v) (.int .i64 B.s.s) (.int .i64 B.s.f) (.int .i64 B.s.g)
     | 15, ho =>
      injection ho with ho; subst ho
      have s11 := slA htm 38 11 (by kernel_rfl) (hpre ⟨11, .data⟩ (by simp) rfl)
      simp only [vR6] at s11
      clear htm
      refine val_now ?_ (hK γ w1 (fun _ _ => rfl) (hW.ext (by simp) (by simp) (by simp))); go_simp; rfl
     | 16, ho =>
      injection ho with ho; subst ho
      have s12 := slA htm 39 12 (by kernel_rfl) (hpre ⟨12, .data⟩ (by simp) rfl)
      simp only [vR6] at s12
      clear htm
      refine val_now ?_ (hK γ w1 (fun _ _ => rfl) (hW.ext (by simp) (by simp) (by simp))); go_simp; rfl
     | _ + 17, ho => cases ho
    case fin =>
     intro γ w3 hW
     obtain ⟨gp, gs⟩ := γ
     rw [finG_puts]
     simp only [putsR, vR6]
     obtain ⟨hs, Bv, bn, bc, e⟩ := hW.ans rfl
     simp only at e
     subst e
     obtain ⟨hgp, hS3⟩ := hW.new rfl
     simp only [cond_true] at hS3
     have hc3 := hW.chg
     clear hW
     have hP3 := hide (Blk.chg hp.out hc3 (by simp))
     have hL3 := hide (Blk.chg hl.out hc3 (by simp))
     have hD3 := hide (hd.out.chg hc3 (by simp))
     have hC3 := hide (hc.out.trans hc3 (D := []) (by simp))
     clear hp hl hd hc hc3 hgp
     have z0 := hS3.cell' (i := 0) rfl
     have z1 := hS3.cell' (i := 1) rfl
     have z2 := hS3.cell' (i := 2) rfl
     have z3 := hS3.cell' (i := 3) rfl
     have z4 := hS3.cell' (i := 4) rfl
     have z5 := hS3.cell' (i := 5) rfl
     have z6 := hS3.cell' (i := 6) rfl
     clear hS3
     have cx := conv_str hs
     clear hs
     have d0 := hD3.out.cell' (i := 9) rfl
     have df0 := hD3.out.frozen 9
     have d1 := hD3.out.cell' (i := 10) rfl
     have df1 := hD3.out.frozen 10
     have d2 := hD3.out.cell' (i := 11) rfl
     have df2 := hD3.out.frozen 11
     have d3 := hD3.out.cell' (i := 12) rfl
     have df3 := hD3.out.frozen 12
     have d4 := hD3.out.cell' (i := 13) rfl
     have df4 := hD3.out.frozen 13
     have d5 := hD3.out.cell' (i := 14) rfl
     have df5 := hD3.out.frozen 14
     have d6 := hD3.out.cell' (i := 15) rfl
     have df6 := hD3.out.frozen 15
     have d7 := hD3.out.cell' (i := 16) rfl
     have df7 := hD3.out.frozen 16
     have d8 := hD3.out.cell' (i := 17) rfl
     have df8 := hD3.out.frozen 17
     go_upto_region 5 with (fail)
     change Code.wp _ _ _ _ (put9 w3 D 9 (.int .i32 B.s.q.a.v) (.int .i32 B.s.q.b.v) (.int .i32 B.s.q.c.v) (.int .i32 B.s.q.d.v) (.int .i64 B.s.s) (.int .i64 B.s.f) (.int .i64 B.s.g) (.string B.t) (.int .i64 B.e))
     clear d0 df0 d1 df1 d2 df2 d3 df3 d4 df4 d5 df5 d6 df6 d7 df7 d8 df8
     clear z0 z1 z2 z3 z4 z5 z6
     have hc9 := put9_chg w3 D 9 (.int .i32 B.s.q.a.v) (.int .i32 B.s.q.b.v) (.int .i32 B.s.q.c.v) (.int .i32 B.s.q.d.v) (.int .i64 B.s.s) (.int .i64 B.s.f) (.int .i64 B.s.g) (.string B.t) (.int .i64 B.e)
     have hD4 := hide (show Blk _ _ _ (dAt A B C 2) from put9_blk hD3.out 9 (.int .i32 B.s.q.a.v) (.int .i32 B.s.q.b.v) (.int .i32 B.s.q.c.v) (.int .i32 B.s.q.d.v) (.int .i64 B.s.s) (.int .i64 B.s.f) (.int .i64 B.s.g) (.string B.t) (.int .i64 B.e))
     have hP4 := hide (Blk.chg hP3.out hc9 (by have := hqD.out; simp; omega))
     have hL4 := hide (Blk.chg hL3.out hc9 (by have := hLD.out; simp; omega))
     have hC4 := hide (hC3.out.trans hc9 (D := []) (fun k hk => by have := hWD.out; simp at hk; omega))
     generalize put9 w3 D 9 (.int .i32 B.s.q.a.v) (.int .i32 B.s.q.b.v) (.int .i32 B.s.q.c.v) (.int .i32 B.s.q.d.v) (.int .i64 B.s.s) (.int .i64 B.s.f) (.int .i64 B.s.g) (.string B.t) (.int .i64 B.e) = w4 at *
     clear hc9 hD3 hP3 hL3 hC3 cx
     go_wp2
     go_roundw
     case rel => exact ⟨2, by go_num, by omega, hC4, hD4, hP4, hL4⟩
     case measure => simp [intOf]
  · go_upto_region 6 with (fail)
    refine wp_regionG hmix.out _ _ (vR6 q x Lb 2 (.slice P2 n2 m2) C) (WR6 wr C) ⟨0, undef⟩ (by kernel_rfl) (by kernel_rfl) (by kernel_rfl) ?step ?start ?fin ?ext
    case start => exact ⟨(Chg.refl wr _).drew, (fun h => by cases h), (fun h => by cases h)⟩
    case ext => exact fun γ L L' w' h hw => hw.ext (by rw [h 8 (by decide)]) (by rw [h 13 (by decide)]) (by rw [h 14 (by decide)])
    case step =>
     have HQ : Blk wr q 52 [.int .i32 x.q.a.v, .int .i32 x.q.b.v, .int .i32 x.q.c.v, .int .i32 x.q.d.v, .int .i64 x.s, .int .i64 x.f, .int .i64 x.g, .int .i64 a, .int .i64 b, .int .i64 c] := hp.out
     have HL : Blk wr Lb 26 [.slice P0 n0 m0, .slice P1 n1 m1, .slice P2 n2 m2] := hl.out
     have HF := FT.out.chg hc.out (by simp)
     have HS := S2.out.keep hc.out
     intro i o ho L a w1 γ hdn htm hW hL hpre K Q hK
     match i, ho with
     | 0, ho =>
      injection ho with ho; subst ho
      have b0 : a.tmps.getD 0 undef = .pointer (some ⟨q, 0, none⟩) := slB htm 0 (by kernel_rfl)
      clear htm
      refine val_now ?_ (hK γ w1 (fun _ _ => rfl) (hW.ext (by simp) (by simp) (by simp))); go_simp; rfl
     | 1, ho =>
      injection ho with ho; subst ho
      have s0 := slA htm 28 0 (by kernel_rfl) (hpre ⟨0, .data⟩ (by simp) rfl)
      simp only [vR6] at s0
      clear htm
      refine val_now ?_ (hK γ w1 (fun _ _ => rfl) (hW.ext (by simp) (by simp) (by simp))); go_simp; rfl
     | 2, ho =>
      injection ho with ho; subst ho
      have s1 := slA htm 29 1 (by kernel_rfl) (hpre ⟨1, .data⟩ (by simp) rfl)
      simp only [vR6] at s1
      clear htm
      refine val_now ?_ (hK γ w1 (fun _ _ => rfl) (hW.ext (by simp) (by simp) (by simp))); go_simp; rfl
     | 3, ho =>
      injection ho with ho; subst ho
      have s2 := slA htm 30 2 (by kernel_rfl) (hpre ⟨2, .data⟩ (by simp) rfl)
      simp only [vR6] at s2
      clear htm
      have c0 := (HQ.chg hW.chg (by simp)).cell' (i := 0) rfl
      have c1 := (HQ.chg hW.chg (by simp)).cell' (i := 1) rfl
      have c2 := (HQ.chg hW.chg (by simp)).cell' (i := 2) rfl
      have c3 := (HQ.chg hW.chg (by simp)).cell' (i := 3) rfl
      have c4 := (HQ.chg hW.chg (by simp)).cell' (i := 4) rfl
      have c5 := (HQ.chg hW.chg (by simp)).cell' (i := 5) rfl
      have c6 := (HQ.chg hW.chg (by simp)).cell' (i := 6) rfl
      refine val_now ?_ (hK γ w1 (fun _ _ => rfl) (hW.ext (by simp) (by simp) (by simp))); go_simp; rfl
     | 4, ho =>
      injection ho with ho; subst ho
      have b11 : a.tmps.getD 11 undef = .slice (some ⟨Lb, 0, none⟩) 3 3 := slB htm 11 (by kernel_rfl)
      clear htm
      refine val_now ?_ (hK γ w1 (fun _ _ => rfl) (hW.ext (by simp) (by simp) (by simp))); go_simp; rfl
     | 5, ho =>
      injection ho with ho; subst ho
      have b13 : a.tmps.getD 13 undef = .int .i64 2 := slB htm 13 (by kernel_rfl)
      clear htm
      refine val_now ?_ (hK γ w1 (fun _ _ => rfl) (hW.ext (by simp) (by simp) (by simp))); go_simp; rfl
     | 6, ho =>
      injection ho with ho; subst ho
      have s4 := slA htm 32 4 (by kernel_rfl) (hpre ⟨4, .data⟩ (by simp) rfl)
      have s5 := slA htm 33 5 (by kernel_rfl) (hpre ⟨5, .data⟩ (by simp) rfl)
      simp only [vR6] at s4 s5
      clear htm
      refine val_now ?_ (hK γ w1 (fun _ _ => rfl) (hW.ext (by simp) (by simp) (by simp))); go_simp; rfl
     | 7, ho =>
      injection ho with ho; subst ho
      have s6 := slA htm 34 6 (by kernel_rfl) (hpre ⟨6, .data⟩ (by simp) rfl)
      simp only [vR6] at s6
      clear htm
      have c0 := (HL.chg hW.chg (by simp)).cell' (i := 2) rfl
      refine val_now ?_ (hK γ w1 (fun _ _ => rfl) (hW.ext (by simp) (by simp) (by simp))); go_simp; rfl
     | 8, ho =>
      injection ho with ho; subst ho
      have s3 := slA htm 31 3 (by kernel_rfl) (hpre ⟨3, .data⟩ (by simp) rfl)
      have s7 := slA htm 35 7 (by kernel_rfl) (hpre ⟨7, .data⟩ (by simp) rfl)
      simp only [vR6] at s3 s7
      clear htm
      refine call_now (f := 11) (args := #[.agg #[.int .i32 x.q.a.v, .int .i32 x.q.b.v, .int .i32 x.q.c.v, .int .i32 x.q.d.v, .int .i64 x.s, .int .i64 x.f, .int .i64 x.g], .slice P2 n2 m2]) ?_ (L2.out w1 (HF.chg hW.chg (by simp)) (HS.keep hW.chg)) ?_
      · go_simp
      · rintro e w2 ⟨⟨Bv, bn, bc, rfl, hs⟩, hc⟩
        refine ⟨_, rfl, hK ⟨γ.p, .slice Bv bn bc⟩ w2 (fun j hj => ?_) ?_⟩
        · have n9 : L 9 = false := by
           cases h : L 9 with
           | false => rfl
           | true => have this : L 8 = true := hdn 9 _ rfl h ⟨8, .data⟩ (by simp) rfl; rw [hL] at this; cases this
          have n11 : L 11 = false := by
           cases h : L 11 with
           | false => rfl
           | true => have this : L 9 = true := hdn 11 _ rfl h ⟨9, .data⟩ (by simp) rfl; rw [n9] at this; cases this
          have n15 : L 15 = false := by
           cases h : L 15 with
           | false => rfl
           | true => have this : L 11 = true := hdn 15 _ rfl h ⟨11, .data⟩ (by simp) rfl; rw [n11] at this; cases this
          match j, hj with
          | 0, _ => rfl
          | 1, _ => rfl
          | 2, _ => rfl
          | 3, _ => rfl
          | 4, _ => rfl
          | 5, _ => rfl
          | 6, _ => rfl
          | 7, _ => rfl
          | 8, hj => rw [hL] at hj; cases hj
          | 9, hj => rw [n9] at hj; cases hj
          | 10, _ => rfl
          | 11, hj => rw [n11] at hj; cases hj
          | 12, _ => rfl
          | 13, _ => rfl
          | 14, _ => rfl
          | 15, hj => rw [n15] at hj; cases hj
          | 16, _ => rfl
          | _ + 17, _ => rfl
        · have hk := hW.keep hc
          exact ⟨hk.chg, fun _ => ⟨hs, Bv, bn, bc, rfl⟩, fun h => by simpa using hk.new (by simpa using h)⟩
     | 9, ho =>
      injection ho with ho; subst ho
      have s8 := slA htm 36 8 (by kernel_rfl) (hpre ⟨8, .data⟩ (by simp) rfl)
      simp only [vR6] at s8
      clear htm
      refine val_now ?_ (hK γ w1 (fun _ _ => rfl) (hW.ext (by simp) (by simp) (by simp))); go_simp; rfl
     | 10, ho =>
      injection ho with ho; subst ho
      have s9 := slA htm 27 9 (by kernel_rfl) (hpre ⟨9, .data⟩ (by simp) rfl)
      simp only [vR6] at s9
      clear htm
      refine val_now ?_ (hK γ w1 (fun _ _ => rfl) (hW.ext (by simp) (by simp) (by simp))); go_simp; rfl
     | 11, ho =>
      injection ho with ho; subst ho
      have s9 := slA htm 27 9 (by kernel_rfl) (hpre ⟨9, .data⟩ (by simp) rfl)
      simp only [vR6] at s9
      clear htm
      refine val_now ?_ (hK γ w1 (fun _ _ => rfl) (hW.ext (by simp) (by simp) (by simp))); go_simp; rfl
     | 12, ho =>
      injection ho with ho; subst ho
      have s9 := slA htm 27 9 (by kernel_rfl) (hpre ⟨9, .data⟩ (by simp) rfl)
      simp only [vR6] at s9
      clear htm
      refine val_now ?_ (hK γ w1 (fun _ _ => rfl) (hW.ext (by simp) (by simp) (by simp))); go_simp; rfl
     | 13, ho =>
      injection ho with ho; subst ho
      clear htm
      have l14 : L 14 = false := by
       cases h : L 14 with
       | false => rfl
       | true => have this : L 13 = true := hdn 14 _ rfl h ⟨13, .data⟩ (by simp) rfl; rw [hL] at this; cases this
      refine val_now (v := vR6 q x Lb 2 (.slice P2 n2 m2) C ⟨w1.heap.size, γ.sv⟩ 13) (w' := w1.alloc (.cells #[.int .i32 0, .int .i32 0, .int .i32 0, .int .i32 0, .int .i64 0, .int .i64 0, .int .i64 0] 25)) ?_ (hK ⟨w1.heap.size, γ.sv⟩ _ (fun j hj => ?_) ?_)
      · go_simp
        rfl
      · match j, hj with
        | 0, _ => rfl
        | 1, _ => rfl
        | 2, _ => rfl
        | 3, _ => rfl
        | 4, _ => rfl
        | 5, _ => rfl
        | 6, _ => rfl
        | 7, _ => rfl
        | 8, _ => rfl
        | 9, _ => rfl
        | 10, _ => rfl
        | 11, _ => rfl
        | 12, _ => rfl
        | 13, hj => rw [hL] at hj; cases hj
        | 14, _ => rfl
        | 15, _ => rfl
        | 16, _ => rfl
        | _ + 17, _ => rfl
      · have hk := hW.keep ((Chg.refl w1 []).alloc (.cells #[.int .i32 0, .int .i32 0, .int .i32 0, .int .i32 0, .int .i64 0, .int .i64 0, .int .i64 0] 25))
        refine ⟨hk.chg, fun h => hk.ans (by simpa using h), fun _ => ⟨hW.chg.size, ?_⟩⟩
        simp only [l14]
        exact Blk.new w1 _ _
     | 14, ho =>
      injection ho with ho; subst ho
      have l13 := hpre ⟨13, .data⟩ (by simp) rfl
      have s13 := slA htm 14 13 (by kernel_rfl) l13
      have l10 := hpre ⟨10, .data⟩ (by simp) rfl
      have s10 := slA htm 37 10 (by kernel_rfl) l10
      simp only [vR6] at s13 s10
      clear htm
      have l9 : L 9 = true := hdn 10 _ rfl l10 ⟨9, .data⟩ (by simp) rfl
      have l8 : L 8 = true := hdn 9 _ rfl l9 ⟨8, .data⟩ (by simp) rfl
      obtain ⟨hp, hb⟩ := hW.new l13
      rw [hL] at hb
      simp only [cond_false] at hb
      have c0 := hb.cell' (i := 0) rfl
      have f0 := hb.frozen 0
      have c1 := hb.cell' (i := 1) rfl
      have f1 := hb.frozen 1
      have c2 := hb.cell' (i := 2) rfl
      have f2 := hb.frozen 2
      have c3 := hb.cell' (i := 3) rfl
      have f3 := hb.frozen 3
      have c4 := hb.cell' (i := 4) rfl
      have f4 := hb.frozen 4
      have c5 := hb.cell' (i := 5) rfl
      have f5 := hb.frozen 5
      have c6 := hb.cell' (i := 6) rfl
      have f6 := hb.frozen 6
      refine skip_now (w' := put7 w1 γ.p (.int .i32 C.s.q.a.v) (.int .i32 C.s.q.b.v) (.int .i32 C.s.q.c.v) (.int .i32 C.s.q.d.v) (.int .i64 C.s.s) (.int .i64 C.s.f) (.int .i64 C.s.g)) ?_ (hK γ _ (fun _ _ => rfl) ?_)
      · go_simp
        rfl
      · have hc7 := put7_chg w1 γ.p (.int .i32 C.s.q.a.v) (.int .i32 C.s.q.b.v) (.int .i32 C.s.q.c.v) (.int .i32 C.s.q.d.v) (.int .i64 C.s.s) (.int .i64 C.s.f) (.int .i64 C.s.g)
        have hans := hW.ans l8
        refine ⟨hW.chg.trans hc7 (D := []) (fun k hk => by simp at hk; omega), fun _ => ⟨not_stB hb hans.1 hc7, hans.2⟩, fun _ => ⟨hp, ?_⟩⟩
        simp only [if_true, cond_true]
        exact put7_blk hb (.int .i32 C.s.q.a.v) (.int .i32 C.s.q.b.v) (.int .i32 C.s.q.c.v) (.int .i32 C.s.q.d.v) (.int .i64 C.s.s) (.int .i64 C.s.f) (.int .i64 C.s.g)
     | 15, ho =>
      injection ho with ho; subst ho
      have s11 := slA htm 38 11 (by kernel_rfl) (hpre ⟨11, .data⟩ (by simp) rfl)
      simp only [vR6] at s11
      clear htm
      refine val_now ?_ (hK γ w1 (fun _ _ => rfl) (hW.ext (by simp) (by simp) (by simp))); go_simp; rfl
     | 16, ho =>
      injection ho with ho; subst ho
      have s12 := slA htm 39 12 (by kernel_rfl) (hpre ⟨12, .data⟩ (by simp) rfl)
      simp only [vR6] at s12
      clear htm
      refine val_now ?_ (hK γ w1 (fun _ _ => rfl) (hW.ext (by simp) (by simp) (by simp))); go_simp; rfl
     | _ + 17, ho => cases ho
    case fin =>
     intro γ w3 hW
     obtain ⟨gp, gs⟩ := γ
     rw [finG_puts]
     simp only [putsR, vR6]
     obtain ⟨hs, Bv, bn, bc, e⟩ := hW.ans rfl
     simp only at e
     subst e
     obtain ⟨hgp, hS3⟩ := hW.new rfl
     simp only [cond_true] at hS3
     have hc3 := hW.chg
     clear hW
     have hP3 := hide (Blk.chg hp.out hc3 (by simp))
     have hL3 := hide (Blk.chg hl.out hc3 (by simp))
     have hD3 := hide (hd.out.chg hc3 (by simp))
     have hC3 := hide (hc.out.trans hc3 (D := []) (by simp))
     clear hp hl hd hc hc3 hgp
     have z0 := hS3.cell' (i := 0) rfl
     have z1 := hS3.cell' (i := 1) rfl
     have z2 := hS3.cell' (i := 2) rfl
     have z3 := hS3.cell' (i := 3) rfl
     have z4 := hS3.cell' (i := 4) rfl
     have z5 := hS3.cell' (i := 5) rfl
     have z6 := hS3.cell' (i := 6) rfl
     clear hS3
     have cx := conv_str hs
     clear hs
     have d0 := hD3.out.cell' (i := 18) rfl
     have df0 := hD3.out.frozen 18
     have d1 := hD3.out.cell' (i := 19) rfl
     have df1 := hD3.out.frozen 19
     have d2 := hD3.out.cell' (i := 20) rfl
     have df2 := hD3.out.frozen 20
     have d3 := hD3.out.cell' (i := 21) rfl
     have df3 := hD3.out.frozen 21
     have d4 := hD3.out.cell' (i := 22) rfl
     have df4 := hD3.out.frozen 22
     have d5 := hD3.out.cell' (i := 23) rfl
     have df5 := hD3.out.frozen 23
     have d6 := hD3.out.cell' (i := 24) rfl
     have df6 := hD3.out.frozen 24
     have d7 := hD3.out.cell' (i := 25) rfl
     have df7 := hD3.out.frozen 25
     have d8 := hD3.out.cell' (i := 26) rfl
     have df8 := hD3.out.frozen 26
     go_upto_region 5 with (fail)
     change Code.wp _ _ _ _ (put9 w3 D 18 (.int .i32 C.s.q.a.v) (.int .i32 C.s.q.b.v) (.int .i32 C.s.q.c.v) (.int .i32 C.s.q.d.v) (.int .i64 C.s.s) (.int .i64 C.s.f) (.int .i64 C.s.g) (.string C.t) (.int .i64 C.e))
     clear d0 df0 d1 df1 d2 df2 d3 df3 d4 df4 d5 df5 d6 df6 d7 df7 d8 df8
     clear z0 z1 z2 z3 z4 z5 z6
     have hc9 := put9_chg w3 D 18 (.int .i32 C.s.q.a.v) (.int .i32 C.s.q.b.v) (.int .i32 C.s.q.c.v) (.int .i32 C.s.q.d.v) (.int .i64 C.s.s) (.int .i64 C.s.f) (.int .i64 C.s.g) (.string C.t) (.int .i64 C.e)
     have hD4 := hide (show Blk _ _ _ (dAt A B C 3) from put9_blk hD3.out 18 (.int .i32 C.s.q.a.v) (.int .i32 C.s.q.b.v) (.int .i32 C.s.q.c.v) (.int .i32 C.s.q.d.v) (.int .i64 C.s.s) (.int .i64 C.s.f) (.int .i64 C.s.g) (.string C.t) (.int .i64 C.e))
     have hP4 := hide (Blk.chg hP3.out hc9 (by have := hqD.out; simp; omega))
     have hL4 := hide (Blk.chg hL3.out hc9 (by have := hLD.out; simp; omega))
     have hC4 := hide (hC3.out.trans hc9 (D := []) (fun k hk => by have := hWD.out; simp at hk; omega))
     generalize put9 w3 D 18 (.int .i32 C.s.q.a.v) (.int .i32 C.s.q.b.v) (.int .i32 C.s.q.c.v) (.int .i32 C.s.q.d.v) (.int .i64 C.s.s) (.int .i64 C.s.f) (.int .i64 C.s.g) (.string C.t) (.int .i64 C.e) = w4 at *
     clear hc9 hD3 hP3 hL3 hC3 cx
     go_wp2
     go_roundw
     case rel => exact ⟨3, by go_num, by omega, hC4, hD4, hP4, hL4⟩
     case measure => simp [intOf]
  · have HD : Blk wr D 91 (l27 A B C) := hd.out
    go_upto_region 8 with (fail)
    refine wp_regionJ hmix.out _ _ (fun _ => vR8 D A B C) (fun (_ : Unit) (_ : Nat → Bool) w => Chg wr w []) () (by kernel_rfl) [] (by kernel_rfl) (fun p hp => by cases hp) (by kernel_rfl) ?step ?start ?fin ?ext
    case start => exact (Chg.refl wr _).drew
    case ext => exact fun γ L L' w' h hw => hw
    case step =>
     have hg0 : Tryz.prog.eqGuardType Tryz.prog.depth 90 = false := by kernel_rfl
     intro i o ho L a w1 γ hdn htm hW hL hpre K Q hK
     match i, ho with
     | 0, ho =>
      injection ho with ho; subst ho
      have b12 : a.tmps.getD 12 undef = .pointer (some ⟨D, 0, none⟩) := slB htm 12 (by kernel_rfl)
      clear htm
      refine val_now ?_ (hK () w1 (fun _ _ => rfl) hW); go_simp; rfl
     | 1, ho =>
      injection ho with ho; subst ho
      have s0 := slA htm 48 0 (by kernel_rfl) (hpre ⟨0, .data⟩ (by simp) rfl)
      simp only [vR8] at s0
      clear htm
      have c0 := (HD.chg hW (by simp)).cell' (i := 0) rfl
      have c1 := (HD.chg hW (by simp)).cell' (i := 1) rfl
      have c2 := (HD.chg hW (by simp)).cell' (i := 2) rfl
      have c3 := (HD.chg hW (by simp)).cell' (i := 3) rfl
      have c4 := (HD.chg hW (by simp)).cell' (i := 4) rfl
      have c5 := (HD.chg hW (by simp)).cell' (i := 5) rfl
      have c6 := (HD.chg hW (by simp)).cell' (i := 6) rfl
      have c7 := (HD.chg hW (by simp)).cell' (i := 7) rfl
      have c8 := (HD.chg hW (by simp)).cell' (i := 8) rfl
      refine val_now ?_ (hK () w1 (fun _ _ => rfl) hW); go_simp; rfl
     | 2, ho =>
      injection ho with ho; subst ho
      have b12 : a.tmps.getD 12 undef = .pointer (some ⟨D, 0, none⟩) := slB htm 12 (by kernel_rfl)
      clear htm
      refine val_now ?_ (hK () w1 (fun _ _ => rfl) hW); go_simp; rfl
     | 3, ho =>
      injection ho with ho; subst ho
      have s2 := slA htm 50 2 (by kernel_rfl) (hpre ⟨2, .data⟩ (by simp) rfl)
      simp only [vR8] at s2
      clear htm
      have c0 := (HD.chg hW (by simp)).cell' (i := 9) rfl
      have c1 := (HD.chg hW (by simp)).cell' (i := 10) rfl
      have c2 := (HD.chg hW (by simp)).cell' (i := 11) rfl
      have c3 := (HD.chg hW (by simp)).cell' (i := 12) rfl
      have c4 := (HD.chg hW (by simp)).cell' (i := 13) rfl
      have c5 := (HD.chg hW (by simp)).cell' (i := 14) rfl
      have c6 := (HD.chg hW (by simp)).cell' (i := 15) rfl
      have c7 := (HD.chg hW (by simp)).cell' (i := 16) rfl
      have c8 := (HD.chg hW (by simp)).cell' (i := 17) rfl
      refine val_now ?_ (hK () w1 (fun _ _ => rfl) hW); go_simp; rfl
     | 4, ho =>
      injection ho with ho; subst ho
      have s1 := slA htm 49 1 (by kernel_rfl) (hpre ⟨1, .data⟩ (by simp) rfl)
      have s3 := slA htm 51 3 (by kernel_rfl) (hpre ⟨3, .data⟩ (by simp) rfl)
      simp only [vR8] at s1 s3
      clear htm
      exact val_now (exec_eqlR (X := A) (Y := B) rfl s1 s3 w1) (hK () w1 (fun _ _ => rfl) (hW.trans (Chg.refl w1 []) (by simp)))
     | 5, ho =>
      injection ho with ho; subst ho
      have b12 : a.tmps.getD 12 undef = .pointer (some ⟨D, 0, none⟩) := slB htm 12 (by kernel_rfl)
      clear htm
      refine val_now ?_ (hK () w1 (fun _ _ => rfl) hW); go_simp; rfl
     | 6, ho =>
      injection ho with ho; subst ho
      have s5 := slA htm 53 5 (by kernel_rfl) (hpre ⟨5, .data⟩ (by simp) rfl)
      simp only [vR8] at s5
      clear htm
      have c0 := (HD.chg hW (by simp)).cell' (i := 0) rfl
      have c1 := (HD.chg hW (by simp)).cell' (i := 1) rfl
      have c2 := (HD.chg hW (by simp)).cell' (i := 2) rfl
      have c3 := (HD.chg hW (by simp)).cell' (i := 3) rfl
      have c4 := (HD.chg hW (by simp)).cell' (i := 4) rfl
      have c5 := (HD.chg hW (by simp)).cell' (i := 5) rfl
      have c6 := (HD.chg hW (by simp)).cell' (i := 6) rfl
      have c7 := (HD.chg hW (by simp)).cell' (i := 7) rfl
      have c8 := (HD.chg hW (by simp)).cell' (i := 8) rfl
      refine val_now ?_ (hK () w1 (fun _ _ => rfl) hW); go_simp; rfl
     | 7, ho =>
      injection ho with ho; subst ho
      have b12 : a.tmps.getD 12 undef = .pointer (some ⟨D, 0, none⟩) := slB htm 12 (by kernel_rfl)
      clear htm
      refine val_now ?_ (hK () w1 (fun _ _ => rfl) hW); go_simp; rfl
     | 8, ho =>
      injection ho with ho; subst ho
      have s7 := slA htm 55 7 (by kernel_rfl) (hpre ⟨7, .data⟩ (by simp) rfl)
      simp only [vR8] at s7
      clear htm
      have c0 := (HD.chg hW (by simp)).cell' (i := 18) rfl
      have c1 := (HD.chg hW (by simp)).cell' (i := 19) rfl
      have c2 := (HD.chg hW (by simp)).cell' (i := 20) rfl
      have c3 := (HD.chg hW (by simp)).cell' (i := 21) rfl
      have c4 := (HD.chg hW (by simp)).cell' (i := 22) rfl
      have c5 := (HD.chg hW (by simp)).cell' (i := 23) rfl
      have c6 := (HD.chg hW (by simp)).cell' (i := 24) rfl
      have c7 := (HD.chg hW (by simp)).cell' (i := 25) rfl
      have c8 := (HD.chg hW (by simp)).cell' (i := 26) rfl
      refine val_now ?_ (hK () w1 (fun _ _ => rfl) hW); go_simp; rfl
     | 9, ho =>
      injection ho with ho; subst ho
      have s6 := slA htm 54 6 (by kernel_rfl) (hpre ⟨6, .data⟩ (by simp) rfl)
      have s8 := slA htm 56 8 (by kernel_rfl) (hpre ⟨8, .data⟩ (by simp) rfl)
      simp only [vR8] at s6 s8
      clear htm
      exact val_now (exec_eqlR (X := A) (Y := C) rfl s6 s8 w1) (hK () w1 (fun _ _ => rfl) (hW.trans (Chg.refl w1 []) (by simp)))
     | 10, ho =>
      injection ho with ho; subst ho
      have b12 : a.tmps.getD 12 undef = .pointer (some ⟨D, 0, none⟩) := slB htm 12 (by kernel_rfl)
      clear htm
      refine val_now ?_ (hK () w1 (fun _ _ => rfl) hW); go_simp; rfl
     | 11, ho =>
      injection ho with ho; subst ho
      have s10 := slA htm 58 10 (by kernel_rfl) (hpre ⟨10, .data⟩ (by simp) rfl)
      simp only [vR8] at s10
      clear htm
      have c0 := (HD.chg hW (by simp)).cell' (i := 9) rfl
      have c1 := (HD.chg hW (by simp)).cell' (i := 10) rfl
      have c2 := (HD.chg hW (by simp)).cell' (i := 11) rfl
      have c3 := (HD.chg hW (by simp)).cell' (i := 12) rfl
      have c4 := (HD.chg hW (by simp)).cell' (i := 13) rfl
      have c5 := (HD.chg hW (by simp)).cell' (i := 14) rfl
      have c6 := (HD.chg hW (by simp)).cell' (i := 15) rfl
      have c7 := (HD.chg hW (by simp)).cell' (i := 16) rfl
      have c8 := (HD.chg hW (by simp)).cell' (i := 17) rfl
      refine val_now ?_ (hK () w1 (fun _ _ => rfl) hW); go_simp; rfl
     | 12, ho =>
      injection ho with ho; subst ho
      have b12 : a.tmps.getD 12 undef = .pointer (some ⟨D, 0, none⟩) := slB htm 12 (by kernel_rfl)
      clear htm
      refine val_now ?_ (hK () w1 (fun _ _ => rfl) hW); go_simp; rfl
     | 13, ho =>
      injection ho with ho; subst ho
      have s12 := slA htm 60 12 (by kernel_rfl) (hpre ⟨12, .data⟩ (by simp) rfl)
      simp only [vR8] at s12
      clear htm
      have c0 := (HD.chg hW (by simp)).cell' (i := 18) rfl
      have c1 := (HD.chg hW (by simp)).cell' (i := 19) rfl
      have c2 := (HD.chg hW (by simp)).cell' (i := 20) rfl
      have c3 := (HD.chg hW (by simp)).cell' (i := 21) rfl
      have c4 := (HD.chg hW (by simp)).cell' (i := 22) rfl
      have c5 := (HD.chg hW (by simp)).cell' (i := 23) rfl
      have c6 := (HD.chg hW (by simp)).cell' (i := 24) rfl
      have c7 := (HD.chg hW (by simp)).cell' (i := 25) rfl
      have c8 := (HD.chg hW (by simp)).cell' (i := 26) rfl
      refine val_now ?_ (hK () w1 (fun _ _ => rfl) hW); go_simp; rfl
     | 14, ho =>
      injection ho with ho; subst ho
      have s11 := slA htm 59 11 (by kernel_rfl) (hpre ⟨11, .data⟩ (by simp) rfl)
      have s13 := slA htm 61 13 (by kernel_rfl) (hpre ⟨13, .data⟩ (by simp) rfl)
      simp only [vR8] at s11 s13
      clear htm
      exact val_now (exec_eqlR (X := B) (Y := C) rfl s11 s13 w1) (hK () w1 (fun _ _ => rfl) (hW.trans (Chg.refl w1 []) (by simp)))
     | 15, ho =>
      injection ho with ho; subst ho
      have s4 := slA htm 52 4 (by kernel_rfl) (hpre ⟨4, .data⟩ (by simp) rfl)
      have s9 := slA htm 57 9 (by kernel_rfl) (hpre ⟨9, .data⟩ (by simp) rfl)
      have s14 := slA htm 62 14 (by kernel_rfl) (hpre ⟨14, .data⟩ (by simp) rfl)
      simp only [vR8] at s4 s9 s14
      clear htm
      refine call_now (f := 44) (args := #[.bool (A.eqB B), .bool (A.eqB C), .bool (B.eqB C)]) ?_ (choice_calls _ _ _ w1) ?_
      · go_simp
      · rintro e w2 ⟨rfl, hc⟩
        exact ⟨_, rfl, hK () w2 (fun _ _ => rfl) (hW.trans hc (by simp))⟩
     | 16, ho =>
      injection ho with ho; subst ho
      have s15 := slA htm 63 15 (by kernel_rfl) (hpre ⟨15, .data⟩ (by simp) rfl)
      simp only [vR8] at s15
      clear htm
      refine val_now ?_ (hK () w1 (fun _ _ => rfl) hW); go_simp; rfl
     | 17, ho =>
      injection ho with ho; subst ho
      have s16 := slA htm 47 16 (by kernel_rfl) (hpre ⟨16, .data⟩ (by simp) rfl)
      simp only [vR8] at s16
      clear htm
      refine val_now ?_ (hK () w1 (fun _ _ => rfl) hW); go_simp; rfl
     | 18, ho =>
      injection ho with ho; subst ho
      have s16 := slA htm 47 16 (by kernel_rfl) (hpre ⟨16, .data⟩ (by simp) rfl)
      simp only [vR8] at s16
      clear htm
      refine val_now ?_ (hK () w1 (fun _ _ => rfl) hW); go_simp; rfl
     | 19, ho =>
      injection ho with ho; subst ho
      have s17 := slA htm 64 17 (by kernel_rfl) (hpre ⟨17, .data⟩ (by simp) rfl)
      simp only [vR8] at s17
      clear htm
      refine val_now ?_ (hK () w1 (fun _ _ => rfl) hW); go_simp; rfl
     | 20, ho =>
      injection ho with ho; subst ho
      have s18 := slA htm 65 18 (by kernel_rfl) (hpre ⟨18, .data⟩ (by simp) rfl)
      simp only [vR8] at s18
      clear htm
      refine val_now ?_ (hK () w1 (fun _ _ => rfl) hW); go_simp; rfl
     | _ + 21, ho => cases ho
    case fin =>
    intro γ w2 hW
    rw [finG_puts]
    have hp2 := hide (Blk.chg hp.out hW (by simp))
    have hD2 := hide (HD.chg hW (by simp))
    have hC2 := hide (hc.out.trans hW (D := []) (by simp))
    clear hp hd hc hW HD hl
    simp only [putsR, vR8]
    have h5 := five_an A B C
    generalize choiceR (A.eqB B) (A.eqB C) (B.eqB C) = ch at *
    rcases h5 with ⟨hR, rfl⟩ | ⟨hR, rfl⟩ | ⟨hR, rfl⟩ | ⟨hR, rfl⟩ | ⟨hR, rfl⟩ <;> replace hR := hide hR <;> simp only
    · have hp4 := hp2
      have hC4 := hide (hC2.out.more (D' := [q]) (by simp))
      have hD4 := hD2
      clear hp2 hC2 hD2
      have hb : Blk w2 q 52 [.int .i32 x.q.a.v, .int .i32 x.q.b.v, .int .i32 x.q.c.v, .int .i32 x.q.d.v, .int .i64 x.s, .int .i64 x.f, .int .i64 x.g, .int .i64 a, .int .i64 b, .int .i64 c] := hp4.out
      have p0 := hb.cell' (i := 0) rfl
      have pf0 := hb.frozen 0
      have x0 := hD4.out.cell' (i := 0) rfl
      have p1 := hb.cell' (i := 1) rfl
      have pf1 := hb.frozen 1
      have x1 := hD4.out.cell' (i := 1) rfl
      have p2 := hb.cell' (i := 2) rfl
      have pf2 := hb.frozen 2
      have x2 := hD4.out.cell' (i := 2) rfl
      have p3 := hb.cell' (i := 3) rfl
      have pf3 := hb.frozen 3
      have x3 := hD4.out.cell' (i := 3) rfl
      have p4 := hb.cell' (i := 4) rfl
      have pf4 := hb.frozen 4
      have x4 := hD4.out.cell' (i := 4) rfl
      have p5 := hb.cell' (i := 5) rfl
      have pf5 := hb.frozen 5
      have x5 := hD4.out.cell' (i := 5) rfl
      have p6 := hb.cell' (i := 6) rfl
      have pf6 := hb.frozen 6
      have x6 := hD4.out.cell' (i := 6) rfl
      clear hb
      go_upto_region 14 with (fail)
      clear p0 pf0 x0 p1 pf1 x1 p2 pf2 x2 p3 pf3 x3 p4 pf4 x4 p5 pf5 x5 p6 pf6 x6
      change Code.wp _ _ _ _ (put7 w2 q (.int .i32 A.s.q.a.v) (.int .i32 A.s.q.b.v) (.int .i32 A.s.q.c.v) (.int .i32 A.s.q.d.v) (.int .i64 A.s.s) (.int .i64 A.s.f) (.int .i64 A.s.g))
      have hc7 := put7_chg w2 q (.int .i32 A.s.q.a.v) (.int .i32 A.s.q.b.v) (.int .i32 A.s.q.c.v) (.int .i32 A.s.q.d.v) (.int .i64 A.s.s) (.int .i64 A.s.f) (.int .i64 A.s.g)
      have hP5 : Ran (put7 w2 q (.int .i32 A.s.q.a.v) (.int .i32 A.s.q.b.v) (.int .i32 A.s.q.c.v) (.int .i32 A.s.q.d.v) (.int .i64 A.s.s) (.int .i64 A.s.f) (.int .i64 A.s.g)) q A.s a b c := put7_more hp4.out (.int .i32 A.s.q.a.v) (.int .i32 A.s.q.b.v) (.int .i32 A.s.q.c.v) (.int .i32 A.s.q.d.v) (.int .i64 A.s.s) (.int .i64 A.s.f) (.int .i64 A.s.g)
      have hD5 := hide (hD4.out.chg hc7 (by have := hqD.out; simp; omega))
      have hC5 := hide (hC4.out.trans hc7 (fun k hk => .inl hk))
      generalize put7 w2 q (.int .i32 A.s.q.a.v) (.int .i32 A.s.q.b.v) (.int .i32 A.s.q.c.v) (.int .i32 A.s.q.d.v) (.int .i64 A.s.s) (.int .i64 A.s.f) (.int .i64 A.s.g) = w5 at *
      replace hP5 := hide hP5
      clear hc7 hp4 hD4 hC4
      refine wp_regionG hmix.out _ _ (vR14 A D 0 (-1)) (WR14 w5 A.t) undef (by kernel_rfl) (by kernel_rfl) (by kernel_rfl) ?step ?start ?fin ?ext
      case start => exact ⟨(Chg.refl w5 _).drew, (fun h => by cases h)⟩
      case ext => exact fun γ L L' w' h hw => hw.ext (by rw [h 4 (by decide)])
      case step =>
       have HX := hD5.out
       intro i o ho L a w1 γ hdn htm hW hL hpre K Q hK
       match i, ho with
       | 0, ho =>
        injection ho with ho; subst ho
        have b17 : a.tmps.getD 17 undef = .int .i64 0 := slB htm 17 (by kernel_rfl)
        clear htm
        refine val_now ?_ (hK γ w1 (fun _ _ => rfl) (hW.ext (by simp))); go_simp; rfl
       | 1, ho =>
        injection ho with ho; subst ho
        have b12 : a.tmps.getD 12 undef = .pointer (some ⟨D, 0, none⟩) := slB htm 12 (by kernel_rfl)
        have s0 := slA htm 87 0 (by kernel_rfl) (hpre ⟨0, .data⟩ (by simp) rfl)
        simp only [vR14] at s0
        clear htm
        refine val_now ?_ (hK γ w1 (fun _ _ => rfl) (hW.ext (by simp))); go_simp; rfl
       | 2, ho =>
        injection ho with ho; subst ho
        have s1 := slA htm 88 1 (by kernel_rfl) (hpre ⟨1, .data⟩ (by simp) rfl)
        simp only [vR14] at s1
        clear htm
        refine val_now ?_ (hK γ w1 (fun _ _ => rfl) (hW.ext (by simp))); go_simp; rfl
       | 3, ho =>
        injection ho with ho; subst ho
        have s2 := slA htm 89 2 (by kernel_rfl) (hpre ⟨2, .data⟩ (by simp) rfl)
        simp only [vR14] at s2
        clear htm
        have c7 := (HX.chg hW.chg (by simp)).cell' (i := 7) rfl
        refine val_now ?_ (hK γ w1 (fun _ _ => rfl) (hW.ext (by simp))); go_simp; rfl
       | 4, ho =>
        injection ho with ho; subst ho
        have s3 := slA htm 90 3 (by kernel_rfl) (hpre ⟨3, .data⟩ (by simp) rfl)
        simp only [vR14] at s3
        clear htm
        obtain ⟨sv, w2', hcv, hbs, hch⟩ := conv_back w1 A.t
        refine val_now (v := vR14 A D 0 (-1) sv 4) (w' := w2') ?_ (hK sv w2' (fun j hj => ?_) ?_)
        · go_simp
          rfl
        · have n10 : L 10 = false := by
           cases h : L 10 with
           | false => rfl
           | true => have this : L 4 = true := hdn 10 _ rfl h ⟨4, .data⟩ (by simp) rfl; rw [hL] at this; cases this
          match j, hj with
          | 0, _ => rfl
          | 1, _ => rfl
          | 2, _ => rfl
          | 3, _ => rfl
          | 4, hj => rw [hL] at hj; cases hj
          | 5, _ => rfl
          | 6, _ => rfl
          | 7, _ => rfl
          | 8, _ => rfl
          | 9, _ => rfl
          | 10, hj => rw [n10] at hj; cases hj
          | 11, _ => rfl
          | 12, _ => rfl
          | _ + 13, _ => rfl
        · exact ⟨hW.chg.trans hch (D := []) (by simp), fun _ => hbs⟩
       | 5, ho =>
        injection ho with ho; subst ho
        have b18 : a.tmps.getD 18 undef = .int .i64 (-1) := slB htm 18 (by kernel_rfl)
        clear htm
        refine val_now ?_ (hK γ w1 (fun _ _ => rfl) (hW.ext (by simp))); go_simp; rfl
       | 6, ho =>
        injection ho with ho; subst ho
        have b17 : a.tmps.getD 17 undef = .int .i64 0 := slB htm 17 (by kernel_rfl)
        clear htm
        refine val_now ?_ (hK γ w1 (fun _ _ => rfl) (hW.ext (by simp))); go_simp; rfl
       | 7, ho =>
        injection ho with ho; subst ho
        have b12 : a.tmps.getD 12 undef = .pointer (some ⟨D, 0, none⟩) := slB htm 12 (by kernel_rfl)
        have s6 := slA htm 93 6 (by kernel_rfl) (hpre ⟨6, .data⟩ (by simp) rfl)
        simp only [vR14] at s6
        clear htm
        refine val_now ?_ (hK γ w1 (fun _ _ => rfl) (hW.ext (by simp))); go_simp; rfl
       | 8, ho =>
        injection ho with ho; subst ho
        have s7 := slA htm 94 7 (by kernel_rfl) (hpre ⟨7, .data⟩ (by simp) rfl)
        simp only [vR14] at s7
        clear htm
        refine val_now ?_ (hK γ w1 (fun _ _ => rfl) (hW.ext (by simp))); go_simp; rfl
       | 9, ho =>
        injection ho with ho; subst ho
        have s8 := slA htm 95 8 (by kernel_rfl) (hpre ⟨8, .data⟩ (by simp) rfl)
        simp only [vR14] at s8
        clear htm
        have c8 := (HX.chg hW.chg (by simp)).cell' (i := 8) rfl
        refine val_now ?_ (hK γ w1 (fun _ _ => rfl) (hW.ext (by simp))); go_simp; rfl
       | 10, ho =>
        injection ho with ho; subst ho
        have s4 := slA htm 91 4 (by kernel_rfl) (hpre ⟨4, .data⟩ (by simp) rfl)
        simp only [vR14] at s4
        clear htm
        refine val_now ?_ (hK γ w1 (fun _ _ => rfl) (hW.ext (by simp))); go_simp; rfl
       | 11, ho =>
        injection ho with ho; subst ho
        have s5 := slA htm 92 5 (by kernel_rfl) (hpre ⟨5, .data⟩ (by simp) rfl)
        simp only [vR14] at s5
        clear htm
        refine val_now ?_ (hK γ w1 (fun _ _ => rfl) (hW.ext (by simp))); go_simp; rfl
       | 12, ho =>
        injection ho with ho; subst ho
        have s9 := slA htm 96 9 (by kernel_rfl) (hpre ⟨9, .data⟩ (by simp) rfl)
        simp only [vR14] at s9
        clear htm
        refine val_now ?_ (hK γ w1 (fun _ _ => rfl) (hW.ext (by simp))); go_simp; rfl
       | _ + 13, ho => cases ho
      case fin =>
       intro γ w6 hW
       rw [finG_puts]
       have hs := hide (hW.ans rfl)
       have hch := hide hW.chg
       clear hW
       go_wp2_with fail
       refine bodyPost_ret (results_ttt rfl _ _ _) rfl ?_
       rw [putsR_at _ _ 8 (blt_iff.1 (by kernel_rfl)), putsR_at _ _ 9 (blt_iff.1 (by kernel_rfl)), putsR_at _ _ 10 (blt_iff.1 (by kernel_rfl))]
       have e : panR x a b c A B C = ⟨A.s, (oddP (-1) a b c).1, (oddP (-1) a b c).2.1, (oddP (-1) a b c).2.2, A.t, -1, A.e⟩ := by unfold panR; rw [hR.out]
       rw [e]
       exact ⟨γ, rfl, hs.out, Blk.chg hP5.out hch.out (by simp), hC5.out.trans hch.out (by simp)⟩
    · go_upto_region 12 with (fail)
      have hb := hp2.out
      unfold Ran at hb
      have pc := hb.cell' (i := 9) rfl
      have pf := hb.frozen 9
      go_region_with (fail)
      clear pc pf
      have hc4 : Chg w2 (w2.setCell ⟨q, 9, none⟩ (.int .i64 (IntKind.i64.wrap (c + 1)))).drew [q] := ((Chg.refl w2 [q]).setCell ⟨q, 9, none⟩ (.int .i64 (IntKind.i64.wrap (c + 1))) (.inl (by simp))).drew
      have hp4 := hide (Blk.chg (hb.set_ 9 (.int .i64 (IntKind.i64.wrap (c + 1)))) ((Chg.refl _ []).drew) (by simp))
      have hD4 := hide (hD2.out.chg hc4 (by have := hqD.out; simp; omega))
      have hC4 := hide ((hC2.out.more (D' := [q]) (by simp)).trans hc4 (fun k hk => .inl hk))
      generalize (w2.setCell ⟨q, 9, none⟩ (.int .i64 (IntKind.i64.wrap (c + 1)))).drew = w4 at *
      clear hc4 hb hp2 hD2 hC2
      have hb : Blk w4 q 52 [.int .i32 x.q.a.v, .int .i32 x.q.b.v, .int .i32 x.q.c.v, .int .i32 x.q.d.v, .int .i64 x.s, .int .i64 x.f, .int .i64 x.g, .int .i64 a, .int .i64 b, .int .i64 (IntKind.i64.wrap (c + 1))] := hp4.out
      have p0 := hb.cell' (i := 0) rfl
      have pf0 := hb.frozen 0
      have x0 := hD4.out.cell' (i := 0) rfl
      have p1 := hb.cell' (i := 1) rfl
      have pf1 := hb.frozen 1
      have x1 := hD4.out.cell' (i := 1) rfl
      have p2 := hb.cell' (i := 2) rfl
      have pf2 := hb.frozen 2
      have x2 := hD4.out.cell' (i := 2) rfl
      have p3 := hb.cell' (i := 3) rfl
      have pf3 := hb.frozen 3
      have x3 := hD4.out.cell' (i := 3) rfl
      have p4 := hb.cell' (i := 4) rfl
      have pf4 := hb.frozen 4
      have x4 := hD4.out.cell' (i := 4) rfl
      have p5 := hb.cell' (i := 5) rfl
      have pf5 := hb.frozen 5
      have x5 := hD4.out.cell' (i := 5) rfl
      have p6 := hb.cell' (i := 6) rfl
      have pf6 := hb.frozen 6
      have x6 := hD4.out.cell' (i := 6) rfl
      clear hb
      go_upto_region 14 with (fail)
      clear p0 pf0 x0 p1 pf1 x1 p2 pf2 x2 p3 pf3 x3 p4 pf4 x4 p5 pf5 x5 p6 pf6 x6
      change Code.wp _ _ _ _ (put7 w4 q (.int .i32 A.s.q.a.v) (.int .i32 A.s.q.b.v) (.int .i32 A.s.q.c.v) (.int .i32 A.s.q.d.v) (.int .i64 A.s.s) (.int .i64 A.s.f) (.int .i64 A.s.g))
      have hc7 := put7_chg w4 q (.int .i32 A.s.q.a.v) (.int .i32 A.s.q.b.v) (.int .i32 A.s.q.c.v) (.int .i32 A.s.q.d.v) (.int .i64 A.s.s) (.int .i64 A.s.f) (.int .i64 A.s.g)
      have hP5 : Ran (put7 w4 q (.int .i32 A.s.q.a.v) (.int .i32 A.s.q.b.v) (.int .i32 A.s.q.c.v) (.int .i32 A.s.q.d.v) (.int .i64 A.s.s) (.int .i64 A.s.f) (.int .i64 A.s.g)) q A.s a b (IntKind.i64.wrap (c + 1)) := put7_more hp4.out (.int .i32 A.s.q.a.v) (.int .i32 A.s.q.b.v) (.int .i32 A.s.q.c.v) (.int .i32 A.s.q.d.v) (.int .i64 A.s.s) (.int .i64 A.s.f) (.int .i64 A.s.g)
      have hD5 := hide (hD4.out.chg hc7 (by have := hqD.out; simp; omega))
      have hC5 := hide (hC4.out.trans hc7 (fun k hk => .inl hk))
      generalize put7 w4 q (.int .i32 A.s.q.a.v) (.int .i32 A.s.q.b.v) (.int .i32 A.s.q.c.v) (.int .i32 A.s.q.d.v) (.int .i64 A.s.s) (.int .i64 A.s.f) (.int .i64 A.s.g) = w5 at *
      replace hP5 := hide hP5
      clear hc7 hp4 hD4 hC4
      refine wp_regionG hmix.out _ _ (vR14 A D 0 (2)) (WR14 w5 A.t) undef (by kernel_rfl) (by kernel_rfl) (by kernel_rfl) ?step ?start ?fin ?ext
      case start => exact ⟨(Chg.refl w5 _).drew, (fun h => by cases h)⟩
      case ext => exact fun γ L L' w' h hw => hw.ext (by rw [h 4 (by decide)])
      case step =>
       have HX := hD5.out
       intro i o ho L a w1 γ hdn htm hW hL hpre K Q hK
       match i, ho with
       | 0, ho =>
        injection ho with ho; subst ho
        have b17 : a.tmps.getD 17 undef = .int .i64 0 := slB htm 17 (by kernel_rfl)
        clear htm
        refine val_now ?_ (hK γ w1 (fun _ _ => rfl) (hW.ext (by simp))); go_simp; rfl
       | 1, ho =>
        injection ho with ho; subst ho
        have b12 : a.tmps.getD 12 undef = .pointer (some ⟨D, 0, none⟩) := slB htm 12 (by kernel_rfl)
        have s0 := slA htm 87 0 (by kernel_rfl) (hpre ⟨0, .data⟩ (by simp) rfl)
        simp only [vR14] at s0
        clear htm
        refine val_now ?_ (hK γ w1 (fun _ _ => rfl) (hW.ext (by simp))); go_simp; rfl
       | 2, ho =>
        injection ho with ho; subst ho
        have s1 := slA htm 88 1 (by kernel_rfl) (hpre ⟨1, .data⟩ (by simp) rfl)
        simp only [vR14] at s1
        clear htm
        refine val_now ?_ (hK γ w1 (fun _ _ => rfl) (hW.ext (by simp))); go_simp; rfl
       | 3, ho =>
        injection ho with ho; subst ho
        have s2 := slA htm 89 2 (by kernel_rfl) (hpre ⟨2, .data⟩ (by simp) rfl)
        simp only [vR14] at s2
        clear htm
        have c7 := (HX.chg hW.chg (by simp)).cell' (i := 7) rfl
        refine val_now ?_ (hK γ w1 (fun _ _ => rfl) (hW.ext (by simp))); go_simp; rfl
       | 4, ho =>
        injection ho with ho; subst ho
        have s3 := slA htm 90 3 (by kernel_rfl) (hpre ⟨3, .data⟩ (by simp) rfl)
        simp only [vR14] at s3
        clear htm
        obtain ⟨sv, w2', hcv, hbs, hch⟩ := conv_back w1 A.t
        refine val_now (v := vR14 A D 0 (2) sv 4) (w' := w2') ?_ (hK sv w2' (fun j hj => ?_) ?_)
        · go_simp
          rfl
        · have n10 : L 10 = false := by
           cases h : L 10 with
           | false => rfl
           | true => have this : L 4 = true := hdn 10 _ rfl h ⟨4, .data⟩ (by simp) rfl; rw [hL] at this; cases this
          match j, hj with
          | 0, _ => rfl
          | 1, _ => rfl
          | 2, _ => rfl
          | 3, _ => rfl
          | 4, hj => rw [hL] at hj; cases hj
          | 5, _ => rfl
          | 6, _ => rfl
          | 7, _ => rfl
          | 8, _ => rfl
          | 9, _ => rfl
          | 10, hj => rw [n10] at hj; cases hj
          | 11, _ => rfl
          | 12, _ => rfl
          | _ + 13, _ => rfl
        · exact ⟨hW.chg.trans hch (D := []) (by simp), fun _ => hbs⟩
       | 5, ho =>
        injection ho with ho; subst ho
        have b18 : a.tmps.getD 18 undef = .int .i64 (2) := slB htm 18 (by kernel_rfl)
        clear htm
        refine val_now ?_ (hK γ w1 (fun _ _ => rfl) (hW.ext (by simp))); go_simp; rfl
       | 6, ho =>
        injection ho with ho; subst ho
        have b17 : a.tmps.getD 17 undef = .int .i64 0 := slB htm 17 (by kernel_rfl)
        clear htm
        refine val_now ?_ (hK γ w1 (fun _ _ => rfl) (hW.ext (by simp))); go_simp; rfl
       | 7, ho =>
        injection ho with ho; subst ho
        have b12 : a.tmps.getD 12 undef = .pointer (some ⟨D, 0, none⟩) := slB htm 12 (by kernel_rfl)
        have s6 := slA htm 93 6 (by kernel_rfl) (hpre ⟨6, .data⟩ (by simp) rfl)
        simp only [vR14] at s6
        clear htm
        refine val_now ?_ (hK γ w1 (fun _ _ => rfl) (hW.ext (by simp))); go_simp; rfl
       | 8, ho =>
        injection ho with ho; subst ho
        have s7 := slA htm 94 7 (by kernel_rfl) (hpre ⟨7, .data⟩ (by simp) rfl)
        simp only [vR14] at s7
        clear htm
        refine val_now ?_ (hK γ w1 (fun _ _ => rfl) (hW.ext (by simp))); go_simp; rfl
       | 9, ho =>
        injection ho with ho; subst ho
        have s8 := slA htm 95 8 (by kernel_rfl) (hpre ⟨8, .data⟩ (by simp) rfl)
        simp only [vR14] at s8
        clear htm
        have c8 := (HX.chg hW.chg (by simp)).cell' (i := 8) rfl
        refine val_now ?_ (hK γ w1 (fun _ _ => rfl) (hW.ext (by simp))); go_simp; rfl
       | 10, ho =>
        injection ho with ho; subst ho
        have s4 := slA htm 91 4 (by kernel_rfl) (hpre ⟨4, .data⟩ (by simp) rfl)
        simp only [vR14] at s4
        clear htm
        refine val_now ?_ (hK γ w1 (fun _ _ => rfl) (hW.ext (by simp))); go_simp; rfl
       | 11, ho =>
        injection ho with ho; subst ho
        have s5 := slA htm 92 5 (by kernel_rfl) (hpre ⟨5, .data⟩ (by simp) rfl)
        simp only [vR14] at s5
        clear htm
        refine val_now ?_ (hK γ w1 (fun _ _ => rfl) (hW.ext (by simp))); go_simp; rfl
       | 12, ho =>
        injection ho with ho; subst ho
        have s9 := slA htm 96 9 (by kernel_rfl) (hpre ⟨9, .data⟩ (by simp) rfl)
        simp only [vR14] at s9
        clear htm
        refine val_now ?_ (hK γ w1 (fun _ _ => rfl) (hW.ext (by simp))); go_simp; rfl
       | _ + 13, ho => cases ho
      case fin =>
       intro γ w6 hW
       rw [finG_puts]
       have hs := hide (hW.ans rfl)
       have hch := hide hW.chg
       clear hW
       go_wp2_with fail
       refine bodyPost_ret (results_ttt rfl _ _ _) rfl ?_
       rw [putsR_at _ _ 8 (blt_iff.1 (by kernel_rfl)), putsR_at _ _ 9 (blt_iff.1 (by kernel_rfl)), putsR_at _ _ 10 (blt_iff.1 (by kernel_rfl))]
       have e : panR x a b c A B C = ⟨A.s, (oddP (2) a b c).1, (oddP (2) a b c).2.1, (oddP (2) a b c).2.2, A.t, 2, A.e⟩ := by unfold panR; rw [hR.out]
       rw [e]
       exact ⟨γ, rfl, hs.out, Blk.chg hP5.out hch.out (by simp), hC5.out.trans hch.out (by simp)⟩
    · go_upto_region 12 with (fail)
      have hb := hp2.out
      unfold Ran at hb
      have pc := hb.cell' (i := 8) rfl
      have pf := hb.frozen 8
      go_region_with (fail)
      clear pc pf
      have hc4 : Chg w2 (w2.setCell ⟨q, 8, none⟩ (.int .i64 (IntKind.i64.wrap (b + 1)))).drew [q] := ((Chg.refl w2 [q]).setCell ⟨q, 8, none⟩ (.int .i64 (IntKind.i64.wrap (b + 1))) (.inl (by simp))).drew
      have hp4 := hide (Blk.chg (hb.set_ 8 (.int .i64 (IntKind.i64.wrap (b + 1)))) ((Chg.refl _ []).drew) (by simp))
      have hD4 := hide (hD2.out.chg hc4 (by have := hqD.out; simp; omega))
      have hC4 := hide ((hC2.out.more (D' := [q]) (by simp)).trans hc4 (fun k hk => .inl hk))
      generalize (w2.setCell ⟨q, 8, none⟩ (.int .i64 (IntKind.i64.wrap (b + 1)))).drew = w4 at *
      clear hc4 hb hp2 hD2 hC2
      have hb : Blk w4 q 52 [.int .i32 x.q.a.v, .int .i32 x.q.b.v, .int .i32 x.q.c.v, .int .i32 x.q.d.v, .int .i64 x.s, .int .i64 x.f, .int .i64 x.g, .int .i64 a, .int .i64 (IntKind.i64.wrap (b + 1)), .int .i64 c] := hp4.out
      have p0 := hb.cell' (i := 0) rfl
      have pf0 := hb.frozen 0
      have x0 := hD4.out.cell' (i := 0) rfl
      have p1 := hb.cell' (i := 1) rfl
      have pf1 := hb.frozen 1
      have x1 := hD4.out.cell' (i := 1) rfl
      have p2 := hb.cell' (i := 2) rfl
      have pf2 := hb.frozen 2
      have x2 := hD4.out.cell' (i := 2) rfl
      have p3 := hb.cell' (i := 3) rfl
      have pf3 := hb.frozen 3
      have x3 := hD4.out.cell' (i := 3) rfl
      have p4 := hb.cell' (i := 4) rfl
      have pf4 := hb.frozen 4
      have x4 := hD4.out.cell' (i := 4) rfl
      have p5 := hb.cell' (i := 5) rfl
      have pf5 := hb.frozen 5
      have x5 := hD4.out.cell' (i := 5) rfl
      have p6 := hb.cell' (i := 6) rfl
      have pf6 := hb.frozen 6
      have x6 := hD4.out.cell' (i := 6) rfl
      clear hb
      go_upto_region 14 with (fail)
      clear p0 pf0 x0 p1 pf1 x1 p2 pf2 x2 p3 pf3 x3 p4 pf4 x4 p5 pf5 x5 p6 pf6 x6
      change Code.wp _ _ _ _ (put7 w4 q (.int .i32 A.s.q.a.v) (.int .i32 A.s.q.b.v) (.int .i32 A.s.q.c.v) (.int .i32 A.s.q.d.v) (.int .i64 A.s.s) (.int .i64 A.s.f) (.int .i64 A.s.g))
      have hc7 := put7_chg w4 q (.int .i32 A.s.q.a.v) (.int .i32 A.s.q.b.v) (.int .i32 A.s.q.c.v) (.int .i32 A.s.q.d.v) (.int .i64 A.s.s) (.int .i64 A.s.f) (.int .i64 A.s.g)
      have hP5 : Ran (put7 w4 q (.int .i32 A.s.q.a.v) (.int .i32 A.s.q.b.v) (.int .i32 A.s.q.c.v) (.int .i32 A.s.q.d.v) (.int .i64 A.s.s) (.int .i64 A.s.f) (.int .i64 A.s.g)) q A.s a (IntKind.i64.wrap (b + 1)) c := put7_more hp4.out (.int .i32 A.s.q.a.v) (.int .i32 A.s.q.b.v) (.int .i32 A.s.q.c.v) (.int .i32 A.s.q.d.v) (.int .i64 A.s.s) (.int .i64 A.s.f) (.int .i64 A.s.g)
      have hD5 := hide (hD4.out.chg hc7 (by have := hqD.out; simp; omega))
      have hC5 := hide (hC4.out.trans hc7 (fun k hk => .inl hk))
      generalize put7 w4 q (.int .i32 A.s.q.a.v) (.int .i32 A.s.q.b.v) (.int .i32 A.s.q.c.v) (.int .i32 A.s.q.d.v) (.int .i64 A.s.s) (.int .i64 A.s.f) (.int .i64 A.s.g) = w5 at *
      replace hP5 := hide hP5
      clear hc7 hp4 hD4 hC4
      refine wp_regionG hmix.out _ _ (vR14 A D 0 (1)) (WR14 w5 A.t) undef (by kernel_rfl) (by kernel_rfl) (by kernel_rfl) ?step ?start ?fin ?ext
      case start => exact ⟨(Chg.refl w5 _).drew, (fun h => by cases h)⟩
      case ext => exact fun γ L L' w' h hw => hw.ext (by rw [h 4 (by decide)])
      case step =>
       have HX := hD5.out
       intro i o ho L a w1 γ hdn htm hW hL hpre K Q hK
       match i, ho with
       | 0, ho =>
        injection ho with ho; subst ho
        have b17 : a.tmps.getD 17 undef = .int .i64 0 := slB htm 17 (by kernel_rfl)
        clear htm
        refine val_now ?_ (hK γ w1 (fun _ _ => rfl) (hW.ext (by simp))); go_simp; rfl
       | 1, ho =>
        injection ho with ho; subst ho
        have b12 : a.tmps.getD 12 undef = .pointer (some ⟨D, 0, none⟩) := slB htm 12 (by kernel_rfl)
        have s0 := slA htm 87 0 (by kernel_rfl) (hpre ⟨0, .data⟩ (by simp) rfl)
        simp only [vR14] at s0
        clear htm
        refine val_now ?_ (hK γ w1 (fun _ _ => rfl) (hW.ext (by simp))); go_simp; rfl
       | 2, ho =>
        injection ho with ho; subst ho
        have s1 := slA htm 88 1 (by kernel_rfl) (hpre ⟨1, .data⟩ (by simp) rfl)
        simp only [vR14] at s1
        clear htm
        refine val_now ?_ (hK γ w1 (fun _ _ => rfl) (hW.ext (by simp))); go_simp; rfl
       | 3, ho =>
        injection ho with ho; subst ho
        have s2 := slA htm 89 2 (by kernel_rfl) (hpre ⟨2, .data⟩ (by simp) rfl)
        simp only [vR14] at s2
        clear htm
        have c7 := (HX.chg hW.chg (by simp)).cell' (i := 7) rfl
        refine val_now ?_ (hK γ w1 (fun _ _ => rfl) (hW.ext (by simp))); go_simp; rfl
       | 4, ho =>
        injection ho with ho; subst ho
        have s3 := slA htm 90 3 (by kernel_rfl) (hpre ⟨3, .data⟩ (by simp) rfl)
        simp only [vR14] at s3
        clear htm
        obtain ⟨sv, w2', hcv, hbs, hch⟩ := conv_back w1 A.t
        refine val_now (v := vR14 A D 0 (1) sv 4) (w' := w2') ?_ (hK sv w2' (fun j hj => ?_) ?_)
        · go_simp
          rfl
        · have n10 : L 10 = false := by
           cases h : L 10 with
           | false => rfl
           | true => have this : L 4 = true := hdn 10 _ rfl h ⟨4, .data⟩ (by simp) rfl; rw [hL] at this; cases this
          match j, hj with
          | 0, _ => rfl
          | 1, _ => rfl
          | 2, _ => rfl
          | 3, _ => rfl
          | 4, hj => rw [hL] at hj; cases hj
          | 5, _ => rfl
          | 6, _ => rfl
          | 7, _ => rfl
          | 8, _ => rfl
          | 9, _ => rfl
          | 10, hj => rw [n10] at hj; cases hj
          | 11, _ => rfl
          | 12, _ => rfl
          | _ + 13, _ => rfl
        · exact ⟨hW.chg.trans hch (D := []) (by simp), fun _ => hbs⟩
       | 5, ho =>
        injection ho with ho; subst ho
        have b18 : a.tmps.getD 18 undef = .int .i64 (1) := slB htm 18 (by kernel_rfl)
        clear htm
        refine val_now ?_ (hK γ w1 (fun _ _ => rfl) (hW.ext (by simp))); go_simp; rfl
       | 6, ho =>
        injection ho with ho; subst ho
        have b17 : a.tmps.getD 17 undef = .int .i64 0 := slB htm 17 (by kernel_rfl)
        clear htm
        refine val_now ?_ (hK γ w1 (fun _ _ => rfl) (hW.ext (by simp))); go_simp; rfl
       | 7, ho =>
        injection ho with ho; subst ho
        have b12 : a.tmps.getD 12 undef = .pointer (some ⟨D, 0, none⟩) := slB htm 12 (by kernel_rfl)
        have s6 := slA htm 93 6 (by kernel_rfl) (hpre ⟨6, .data⟩ (by simp) rfl)
        simp only [vR14] at s6
        clear htm
        refine val_now ?_ (hK γ w1 (fun _ _ => rfl) (hW.ext (by simp))); go_simp; rfl
       | 8, ho =>
        injection ho with ho; subst ho
        have s7 := slA htm 94 7 (by kernel_rfl) (hpre ⟨7, .data⟩ (by simp) rfl)
        simp only [vR14] at s7
        clear htm
        refine val_now ?_ (hK γ w1 (fun _ _ => rfl) (hW.ext (by simp))); go_simp; rfl
       | 9, ho =>
        injection ho with ho; subst ho
        have s8 := slA htm 95 8 (by kernel_rfl) (hpre ⟨8, .data⟩ (by simp) rfl)
        simp only [vR14] at s8
        clear htm
        have c8 := (HX.chg hW.chg (by simp)).cell' (i := 8) rfl
        refine val_now ?_ (hK γ w1 (fun _ _ => rfl) (hW.ext (by simp))); go_simp; rfl
       | 10, ho =>
        injection ho with ho; subst ho
        have s4 := slA htm 91 4 (by kernel_rfl) (hpre ⟨4, .data⟩ (by simp) rfl)
        simp only [vR14] at s4
        clear htm
        refine val_now ?_ (hK γ w1 (fun _ _ => rfl) (hW.ext (by simp))); go_simp; rfl
       | 11, ho =>
        injection ho with ho; subst ho
        have s5 := slA htm 92 5 (by kernel_rfl) (hpre ⟨5, .data⟩ (by simp) rfl)
        simp only [vR14] at s5
        clear htm
        refine val_now ?_ (hK γ w1 (fun _ _ => rfl) (hW.ext (by simp))); go_simp; rfl
       | 12, ho =>
        injection ho with ho; subst ho
        have s9 := slA htm 96 9 (by kernel_rfl) (hpre ⟨9, .data⟩ (by simp) rfl)
        simp only [vR14] at s9
        clear htm
        refine val_now ?_ (hK γ w1 (fun _ _ => rfl) (hW.ext (by simp))); go_simp; rfl
       | _ + 13, ho => cases ho
      case fin =>
       intro γ w6 hW
       rw [finG_puts]
       have hs := hide (hW.ans rfl)
       have hch := hide hW.chg
       clear hW
       go_wp2_with fail
       refine bodyPost_ret (results_ttt rfl _ _ _) rfl ?_
       rw [putsR_at _ _ 8 (blt_iff.1 (by kernel_rfl)), putsR_at _ _ 9 (blt_iff.1 (by kernel_rfl)), putsR_at _ _ 10 (blt_iff.1 (by kernel_rfl))]
       have e : panR x a b c A B C = ⟨A.s, (oddP (1) a b c).1, (oddP (1) a b c).2.1, (oddP (1) a b c).2.2, A.t, 1, A.e⟩ := by unfold panR; rw [hR.out]
       rw [e]
       exact ⟨γ, rfl, hs.out, Blk.chg hP5.out hch.out (by simp), hC5.out.trans hch.out (by simp)⟩
    · go_upto_region 12 with (fail)
      have hb := hp2.out
      unfold Ran at hb
      have pc := hb.cell' (i := 7) rfl
      have pf := hb.frozen 7
      go_region_with (fail)
      clear pc pf
      have hc4 : Chg w2 (w2.setCell ⟨q, 7, none⟩ (.int .i64 (IntKind.i64.wrap (a + 1)))).drew [q] := ((Chg.refl w2 [q]).setCell ⟨q, 7, none⟩ (.int .i64 (IntKind.i64.wrap (a + 1))) (.inl (by simp))).drew
      have hp4 := hide (Blk.chg (hb.set_ 7 (.int .i64 (IntKind.i64.wrap (a + 1)))) ((Chg.refl _ []).drew) (by simp))
      have hD4 := hide (hD2.out.chg hc4 (by have := hqD.out; simp; omega))
      have hC4 := hide ((hC2.out.more (D' := [q]) (by simp)).trans hc4 (fun k hk => .inl hk))
      generalize (w2.setCell ⟨q, 7, none⟩ (.int .i64 (IntKind.i64.wrap (a + 1)))).drew = w4 at *
      clear hc4 hb hp2 hD2 hC2
      have hb : Blk w4 q 52 [.int .i32 x.q.a.v, .int .i32 x.q.b.v, .int .i32 x.q.c.v, .int .i32 x.q.d.v, .int .i64 x.s, .int .i64 x.f, .int .i64 x.g, .int .i64 (IntKind.i64.wrap (a + 1)), .int .i64 b, .int .i64 c] := hp4.out
      have p0 := hb.cell' (i := 0) rfl
      have pf0 := hb.frozen 0
      have x0 := hD4.out.cell' (i := 9) rfl
      have p1 := hb.cell' (i := 1) rfl
      have pf1 := hb.frozen 1
      have x1 := hD4.out.cell' (i := 10) rfl
      have p2 := hb.cell' (i := 2) rfl
      have pf2 := hb.frozen 2
      have x2 := hD4.out.cell' (i := 11) rfl
      have p3 := hb.cell' (i := 3) rfl
      have pf3 := hb.frozen 3
      have x3 := hD4.out.cell' (i := 12) rfl
      have p4 := hb.cell' (i := 4) rfl
      have pf4 := hb.frozen 4
      have x4 := hD4.out.cell' (i := 13) rfl
      have p5 := hb.cell' (i := 5) rfl
      have pf5 := hb.frozen 5
      have x5 := hD4.out.cell' (i := 14) rfl
      have p6 := hb.cell' (i := 6) rfl
      have pf6 := hb.frozen 6
      have x6 := hD4.out.cell' (i := 15) rfl
      clear hb
      go_upto_region 14 with (fail)
      clear p0 pf0 x0 p1 pf1 x1 p2 pf2 x2 p3 pf3 x3 p4 pf4 x4 p5 pf5 x5 p6 pf6 x6
      change Code.wp _ _ _ _ (put7 w4 q (.int .i32 B.s.q.a.v) (.int .i32 B.s.q.b.v) (.int .i32 B.s.q.c.v) (.int .i32 B.s.q.d.v) (.int .i64 B.s.s) (.int .i64 B.s.f) (.int .i64 B.s.g))
      have hc7 := put7_chg w4 q (.int .i32 B.s.q.a.v) (.int .i32 B.s.q.b.v) (.int .i32 B.s.q.c.v) (.int .i32 B.s.q.d.v) (.int .i64 B.s.s) (.int .i64 B.s.f) (.int .i64 B.s.g)
      have hP5 : Ran (put7 w4 q (.int .i32 B.s.q.a.v) (.int .i32 B.s.q.b.v) (.int .i32 B.s.q.c.v) (.int .i32 B.s.q.d.v) (.int .i64 B.s.s) (.int .i64 B.s.f) (.int .i64 B.s.g)) q B.s (IntKind.i64.wrap (a + 1)) b c := put7_more hp4.out (.int .i32 B.s.q.a.v) (.int .i32 B.s.q.b.v) (.int .i32 B.s.q.c.v) (.int .i32 B.s.q.d.v) (.int .i64 B.s.s) (.int .i64 B.s.f) (.int .i64 B.s.g)
      have hD5 := hide (hD4.out.chg hc7 (by have := hqD.out; simp; omega))
      have hC5 := hide (hC4.out.trans hc7 (fun k hk => .inl hk))
      generalize put7 w4 q (.int .i32 B.s.q.a.v) (.int .i32 B.s.q.b.v) (.int .i32 B.s.q.c.v) (.int .i32 B.s.q.d.v) (.int .i64 B.s.s) (.int .i64 B.s.f) (.int .i64 B.s.g) = w5 at *
      replace hP5 := hide hP5
      clear hc7 hp4 hD4 hC4
      refine wp_regionG hmix.out _ _ (vR14 B D 1 (0)) (WR14 w5 B.t) undef (by kernel_rfl) (by kernel_rfl) (by kernel_rfl) ?step ?start ?fin ?ext
      case start => exact ⟨(Chg.refl w5 _).drew, (fun h => by cases h)⟩
      case ext => exact fun γ L L' w' h hw => hw.ext (by rw [h 4 (by decide)])
      case step =>
       have HX := hD5.out
       intro i o ho L a w1 γ hdn htm hW hL hpre K Q hK
       match i, ho with
       | 0, ho =>
        injection ho with ho; subst ho
        have b17 : a.tmps.getD 17 undef = .int .i64 1 := slB htm 17 (by kernel_rfl)
        clear htm
        refine val_now ?_ (hK γ w1 (fun _ _ => rfl) (hW.ext (by simp))); go_simp; rfl
       | 1, ho =>
        injection ho with ho; subst ho
        have b12 : a.tmps.getD 12 undef = .pointer (some ⟨D, 0, none⟩) := slB htm 12 (by kernel_rfl)
        have s0 := slA htm 87 0 (by kernel_rfl) (hpre ⟨0, .data⟩ (by simp) rfl)
        simp only [vR14] at s0
        clear htm
        refine val_now ?_ (hK γ w1 (fun _ _ => rfl) (hW.ext (by simp))); go_simp; rfl
       | 2, ho =>
        injection ho with ho; subst ho
        have s1 := slA htm 88 1 (by kernel_rfl) (hpre ⟨1, .data⟩ (by simp) rfl)
        simp only [vR14] at s1
        clear htm
        refine val_now ?_ (hK γ w1 (fun _ _ => rfl) (hW.ext (by simp))); go_simp; rfl
       | 3, ho =>
        injection ho with ho; subst ho
        have s2 := slA htm 89 2 (by kernel_rfl) (hpre ⟨2, .data⟩ (by simp) rfl)
        simp only [vR14] at s2
        clear htm
        have c7 := (HX.chg hW.chg (by simp)).cell' (i := 16) rfl
        refine val_now ?_ (hK γ w1 (fun _ _ => rfl) (hW.ext (by simp))); go_simp; rfl
       | 4, ho =>
        injection ho with ho; subst ho
        have s3 := slA htm 90 3 (by kernel_rfl) (hpre ⟨3, .data⟩ (by simp) rfl)
        simp only [vR14] at s3
        clear htm
        obtain ⟨sv, w2', hcv, hbs, hch⟩ := conv_back w1 B.t
        refine val_now (v := vR14 B D 1 (0) sv 4) (w' := w2') ?_ (hK sv w2' (fun j hj => ?_) ?_)
        · go_simp
          rfl
        · have n10 : L 10 = false := by
           cases h : L 10 with
           | false => rfl
           | true => have this : L 4 = true := hdn 10 _ rfl h ⟨4, .data⟩ (by simp) rfl; rw [hL] at this; cases this
          match j, hj with
          | 0, _ => rfl
          | 1, _ => rfl
          | 2, _ => rfl
          | 3, _ => rfl
          | 4, hj => rw [hL] at hj; cases hj
          | 5, _ => rfl
          | 6, _ => rfl
          | 7, _ => rfl
          | 8, _ => rfl
          | 9, _ => rfl
          | 10, hj => rw [n10] at hj; cases hj
          | 11, _ => rfl
          | 12, _ => rfl
          | _ + 13, _ => rfl
        · exact ⟨hW.chg.trans hch (D := []) (by simp), fun _ => hbs⟩
       | 5, ho =>
        injection ho with ho; subst ho
        have b18 : a.tmps.getD 18 undef = .int .i64 (0) := slB htm 18 (by kernel_rfl)
        clear htm
        refine val_now ?_ (hK γ w1 (fun _ _ => rfl) (hW.ext (by simp))); go_simp; rfl
       | 6, ho =>
        injection ho with ho; subst ho
        have b17 : a.tmps.getD 17 undef = .int .i64 1 := slB htm 17 (by kernel_rfl)
        clear htm
        refine val_now ?_ (hK γ w1 (fun _ _ => rfl) (hW.ext (by simp))); go_simp; rfl
       | 7, ho =>
        injection ho with ho; subst ho
        have b12 : a.tmps.getD 12 undef = .pointer (some ⟨D, 0, none⟩) := slB htm 12 (by kernel_rfl)
        have s6 := slA htm 93 6 (by kernel_rfl) (hpre ⟨6, .data⟩ (by simp) rfl)
        simp only [vR14] at s6
        clear htm
        refine val_now ?_ (hK γ w1 (fun _ _ => rfl) (hW.ext (by simp))); go_simp; rfl
       | 8, ho =>
        injection ho with ho; subst ho
        have s7 := slA htm 94 7 (by kernel_rfl) (hpre ⟨7, .data⟩ (by simp) rfl)
        simp only [vR14] at s7
        clear htm
        refine val_now ?_ (hK γ w1 (fun _ _ => rfl) (hW.ext (by simp))); go_simp; rfl
       | 9, ho =>
        injection ho with ho; subst ho
        have s8 := slA htm 95 8 (by kernel_rfl) (hpre ⟨8, .data⟩ (by simp) rfl)
        simp only [vR14] at s8
        clear htm
        have c8 := (HX.chg hW.chg (by simp)).cell' (i := 17) rfl
        refine val_now ?_ (hK γ w1 (fun _ _ => rfl) (hW.ext (by simp))); go_simp; rfl
       | 10, ho =>
        injection ho with ho; subst ho
        have s4 := slA htm 91 4 (by kernel_rfl) (hpre ⟨4, .data⟩ (by simp) rfl)
        simp only [vR14] at s4
        clear htm
        refine val_now ?_ (hK γ w1 (fun _ _ => rfl) (hW.ext (by simp))); go_simp; rfl
       | 11, ho =>
        injection ho with ho; subst ho
        have s5 := slA htm 92 5 (by kernel_rfl) (hpre ⟨5, .data⟩ (by simp) rfl)
        simp only [vR14] at s5
        clear htm
        refine val_now ?_ (hK γ w1 (fun _ _ => rfl) (hW.ext (by simp))); go_simp; rfl
       | 12, ho =>
        injection ho with ho; subst ho
        have s9 := slA htm 96 9 (by kernel_rfl) (hpre ⟨9, .data⟩ (by simp) rfl)
        simp only [vR14] at s9
        clear htm
        refine val_now ?_ (hK γ w1 (fun _ _ => rfl) (hW.ext (by simp))); go_simp; rfl
       | _ + 13, ho => cases ho
      case fin =>
       intro γ w6 hW
       rw [finG_puts]
       have hs := hide (hW.ans rfl)
       have hch := hide hW.chg
       clear hW
       go_wp2_with fail
       refine bodyPost_ret (results_ttt rfl _ _ _) rfl ?_
       rw [putsR_at _ _ 8 (blt_iff.1 (by kernel_rfl)), putsR_at _ _ 9 (blt_iff.1 (by kernel_rfl)), putsR_at _ _ 10 (blt_iff.1 (by kernel_rfl))]
       have e : panR x a b c A B C = ⟨B.s, (oddP (0) a b c).1, (oddP (0) a b c).2.1, (oddP (0) a b c).2.2, B.t, 0, B.e⟩ := by unfold panR; rw [hR.out]
       rw [e]
       exact ⟨γ, rfl, hs.out, Blk.chg hP5.out hch.out (by simp), hC5.out.trans hch.out (by simp)⟩
    · go_wp2_with fail
      refine bodyPost_ret (results_ttt rfl _ _ _) rfl ?_
      have e : panR x a b c A B C = ⟨x, a, b, c, ⟨#[]⟩, -1, 10⟩ := by unfold panR; rw [hR.out]
      rw [e]
      exact ⟨_, rfl, Bs.nil _, hp2.out, hC2.out.more (by simp)⟩
end Go.Proofs.YtihgijhjhmjolaaGreatDoor.Xi
