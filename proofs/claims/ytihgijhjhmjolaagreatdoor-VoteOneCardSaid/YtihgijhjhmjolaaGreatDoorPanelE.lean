/- What a lane answers; what a panel answers. -/
import Derived.Test.YtihgijhjhmjolaaGreatDoorVP17
import Derived.Test.YtihgijhjhmjolaaGreatDoorVP14
import Derived.Laws.Rows
namespace Go.Proofs.YtihgijhjhmjolaaGreatDoor.Xi
open Go Go.RowKit Go.Deep
set_option linter.unusedVariables false
def an (x : St) (xs : List Nat) : An := ⟨(feedR x xs).1, strOfNums (nI (feedR x xs).2.1), (feedR x xs).2.2⟩
theorem u8s_bs {w : World} {v : Value} {ys : List Nat} (h : Sl w v (u8s ys)) (hb : ∀ y ∈ ys, y < 256) : Bs w v (strOfNums (nI ys)) := by
 refine Bs.of_ints (z := nI ys) ?_ ?_
 · unfold nI; rw [List.map_map]; exact h
 · intro n hn
   obtain ⟨y, hy, rfl⟩ := List.mem_map.1 hn
   have := hb y hy
   simp [Lit.wf, IntKind.min, IntKind.max, IntKind.signed, IntKind.bits]
   omega
theorem bs_u8s {w : World} {v : Value} {S : ByteArray} (h : Bs w v S) : Sl w v (u8s (S.data.toList.map UInt8.toNat)) := by
 unfold Bs at h
 unfold u8s
 rw [List.map_map]
 exact h
theorem not_stB {w : World} {B : Nat} {t : TypeId} {sv : Value} {S : ByteArray} {x0 x1 x2 x3 x4 x5 x6 : Int} (hb : Blk w B t [.int .i32 x0, .int .i32 x1, .int .i32 x2, .int .i32 x3, .int .i64 x4, .int .i64 x5, .int .i64 x6]) (hs : Bs w sv S) {w' : World} (hc : Chg w w' [B]) : Bs w' sv S := by
 have h := bs_u8s hs
 have := h.chg0 hc (fun h0 => not_state hb h h0)
 unfold u8s at this
 rw [List.map_map] at this
 exact this
def laneC (w : World) (A : An) (e : Ending) (w' : World) : Prop := (∃ B n c, e = .returned (.tuple #[.agg #[.int .i32 A.s.q.a.v, .int .i32 A.s.q.b.v, .int .i32 A.s.q.c.v, .int .i32 A.s.q.d.v, .int .i64 A.s.s, .int .i64 A.s.f, .int .i64 A.s.g], .slice B n c, .int .i64 A.e]) ∧ Bs w' (.slice B n c) A.t) ∧ Chg w w' []
theorem lane_of {w : World} {x : St} {xs : List Nat} (hx : x.i64) {e : Ending} {w' : World} (h : feedC w x xs e w') : laneC w (an x xs) e w' := by
 obtain ⟨⟨sv, rfl, hs⟩, hc⟩ := h
 have hb := u8s_bs hs (feedR_lt x hx)
 obtain ⟨B, c, rfl, _⟩ := hs
 exact ⟨⟨B, _, c, rfl, hb⟩, hc⟩
theorem plane (x : St) (hx : x.i64) (xs : List Nat) (hb : ∀ y ∈ xs, y < 256) (hn : xs.length ≤ maxLen) (v : Value) (w : World) (hw : FTab w) (hv : Sl w v (u8s xs)) : Calls Tryz.prog 10 #[.agg #[.int .i32 x.q.a.v, .int .i32 x.q.b.v, .int .i32 x.q.c.v, .int .i32 x.q.d.v, .int .i64 x.s, .int .i64 x.f, .int .i64 x.g], v] w fun e w' => laneC w (an x xs) e w' :=
 (pfeed x hx xs hb hn v w hw hv).mono fun e w' h => lane_of hx h
theorem rlane (x : St) (hx : x.i64) (xs : List Nat) (hb : ∀ y ∈ xs, y < 256) (hn : xs.length ≤ maxLen) (v : Value) (w : World) (hw : FTab w) (hv : Sl w v (u8s xs)) : Calls Tryz.prog 11 #[.agg #[.int .i32 x.q.a.v, .int .i32 x.q.b.v, .int .i32 x.q.c.v, .int .i32 x.q.d.v, .int .i64 x.s, .int .i64 x.f, .int .i64 x.g], v] w fun e w' => laneC w (an x xs) e w' :=
 (rfeed x hx xs hb hn v w hw hv).mono fun e w' h => lane_of hx h
def oddP (n : Int) (a b c : Int) : Int × Int × Int := if n = 0 then (IntKind.i64.wrap (a + 1), b, c) else if n = 1 then (a, IntKind.i64.wrap (b + 1), c) else if n = 2 then (a, b, IntKind.i64.wrap (c + 1)) else (a, b, c)
structure PR where
 x : St
 a : Int
 b : Int
 c : Int
 t : ByteArray
 n : Int
 e : Int
def panR (x : St) (a b c : Int) (A B C : An) : PR := match chosenA A B C with
 | some (r, n) => ⟨r.s, (oddP n a b c).1, (oddP n a b c).2.1, (oddP n a b c).2.2, r.t, n, r.e⟩
 | none => ⟨x, a, b, c, ⟨#[]⟩, -1, 10⟩
theorem chosen_four {X Y Z r : An} {n : Int} (h : chosenA X Y Z = some (r, n)) : n = -1 ∨ n = 0 ∨ n = 1 ∨ n = 2 := by
 unfold chosenA at h
 generalize Y.eqB Z = p1 at h
 generalize Y.eqB X = p2 at h
 generalize X.eqB Z = p3 at h
 generalize X.eqB Y = p4 at h
 cases p1 <;> cases p2 <;> cases p3 <;> cases p4 <;> first | (cases h; done) | (injection h with h; injection h with h1 h2; omega)
def dAt (A B C : An) : Nat → List Value
 | 0 => zeroA ++ (zeroA ++ zeroA)
 | 1 => A.cells ++ (zeroA ++ zeroA)
 | 2 => A.cells ++ (B.cells ++ zeroA)
 | _ => l27 A B C
theorem bs_row (w : World) (s : ByteArray) (cap : Nat) (q : Nat × Nat) (hc : s.data.size ≤ cap) : Bs (w.alloc (.cells (bytesRow s cap) 5 q)) (.slice (some ⟨w.heap.size, 0, none⟩) s.size cap) s := by
 have hl : (s.data.toList.map fun b => Value.int .u8 b.toNat).length = s.size := by rw [List.length_map]; rfl
 refine ⟨some ⟨w.heap.size, 0, none⟩, cap, by rw [hl], by rw [hl]; exact hc, fun _ => ⟨w.heap.size, 0, rfl, fun k hk => ?_⟩⟩
 rw [hl] at hk
 have hk' : k < s.data.size := hk
 have h1 := heap_alloc_new w (.cells (bytesRow s cap) 5 q)
 rw [Nat.zero_add, cell_of_row _ _ _ _ _ _ h1, bytesRow_at s cap k hk', List.getElem?_map, List.getElem?_eq_getElem (by simpa using hk')]
 simp
def vPf (r : An) (X : Nat) (n : Int) (γ : Value) : Nat → Value
 | 0 => .pointer (some ⟨X, 7, none⟩)
 | 1 => .string r.t
 | 2 => γ
 | 3 => .int .i64 n
 | 4 => .pointer (some ⟨X, 8, none⟩)
 | 5 => .int .i64 r.e
 | 6 => γ
 | 7 => .int .i64 n
 | 8 => .int .i64 r.e
 | _ => undef
structure WPf (w0 : World) (S : ByteArray) (γ : Value) (L : Nat → Bool) (w : World) : Prop where
 chg : Chg w0 w []
 ans : L 2 = true → Bs w γ S
theorem WPf.ext {w0 : World} {S : ByteArray} {γ : Value} {L L' : Nat → Bool} {w : World} (h : WPf w0 S γ L w) (e : L 2 = L' 2) : WPf w0 S γ L' w :=
 ⟨h.chg, by rw [← e]; exact h.ans⟩
theorem put7_more {w : World} {g : Nat} {t : TypeId} {z0 z1 z2 z3 z4 z5 z6 : Value} {l : List Value} (k : Blk w g t (z0 :: z1 :: z2 :: z3 :: z4 :: z5 :: z6 :: l)) (p0 p1 p2 p3 p4 p5 p6 : Value) : Blk (put7 w g p0 p1 p2 p3 p4 p5 p6) g t (p0 :: p1 :: p2 :: p3 :: p4 :: p5 :: p6 :: l) := (((((((k.set_ 0 p0)).set_ 1 p1).set_ 2 p2).set_ 3 p3).set_ 4 p4).set_ 5 p5).set_ 6 p6
theorem results_ttt {fn : Func} {a b c : Tmp} (h : fn.results = #[.tmp a, .tmp b, .tmp c]) (tmps : Array Value) (P : Program) (w : World) : (results fn tmps).run P w = .ok (.tuple #[tmps.getD a undef, tmps.getD b undef, tmps.getD c undef]) w := by
 simp [results, h]
theorem conv_back (w : World) (S : ByteArray) : ∃ sv w', (convert 9 26 (.string S)).run Tryz.prog w = .ok sv w' ∧ Bs w' sv S ∧ Chg w w' [] := by
 have k := run_bytes_of_string (P := Tryz.prog) w 9 26 5 S Tryz.underlying9 Tryz.underlying26 Tryz.underlying5
 have hcap : S.data.size ≤ grownCap w S.size 0 5 := grownCap_ge w S.size 0 5
 refine ⟨_, _, k, bs_row w.drew S _ _ hcap, (Chg.refl w []).drew.alloc _⟩
set_option maxRecDepth 100000 in
set_option maxHeartbeats 16000000 in
theorem panFeed_calls (x : St) (a b c : Int) (p : Nat) (A B C : An) (P0 P1 P2 : Option Addr) (n0 n1 n2 m0 m1 m2 : Nat) (xs ys zs : List Nat) (W : World) (hF : FTab W) (hP : Pan W p x a b c)
 (h0 : Sl W (.slice P0 n0 m0) (u8s xs)) (h1 : Sl W (.slice P1 n1 m1) (u8s ys)) (h2 : Sl W (.slice P2 n2 m2) (u8s zs))
 (l0 : ∀ w, FTab w → Sl w (.slice P0 n0 m0) (u8s xs) → Calls Tryz.prog 10 #[.agg #[.int .i32 x.q.a.v, .int .i32 x.q.b.v, .int .i32 x.q.c.v, .int .i32 x.q.d.v, .int .i64 x.s, .int .i64 x.f, .int .i64 x.g], .slice P0 n0 m0] w fun e w' => laneC w A e w')
 (l1 : ∀ w, FTab w → Sl w (.slice P1 n1 m1) (u8s ys) → Calls Tryz.prog 10 #[.agg #[.int .i32 x.q.a.v, .int .i32 x.q.b.v, .int .i32 x.q.c.v, .int .i32 x.q.d.v, .int .i64 x.s, .int .i64 x.f, .int .i64 x.g], .slice P1 n1 m1] w fun e w' => laneC w B e w')
 (l2 : ∀ w, FTab w → Sl w (.slice P2 n2 m2) (u8s zs) → Calls Tryz.prog 10 #[.agg #[.int .i32 x.q.a.v, .int .i32 x.q.b.v, .int .i32 x.q.c.v, .int .i32 x.q.d.v, .int .i64 x.s, .int .i64 x.f, .int .i64 x.g], .slice P2 n2 m2] w fun e w' => laneC w C e w') :
 Calls Tryz.prog 24 #[.pointer (some ⟨p, 0, none⟩), .slice P0 n0 m0, .slice P1 n1 m1, .slice P2 n2 m2] W fun e w' => ∃ sv, e = .returned (.tuple #[sv, .int .i64 (panR x a b c A B C).n, .int .i64 (panR x a b c A B C).e]) ∧ Bs w' sv (panR x a b c A B C).t ∧
  Pan w' p (panR x a b c A B C).x (panR x a b c A B C).a (panR x a b c A B C).b (panR x a b c A B C).c ∧ Chg W w' [p] := by
 have FT := hide hF
 have L0 := hide l0
 have L1 := hide l1
 have L2 := hide l2
 have S0 := hide h0
 have S1 := hide h1
 have S2 := hide h2
 have hlt := hide hP.lt
 have c10 : W.cell? ⟨p, 10, none⟩ = some (.bool true) := by unfold Pan at hP; exact hP.cell' (i := 10) rfl
 have HP := hide hP
 clear hF hP h0 h1 h2 l0 l1 l2
 have hmix : Tryz.prog.follows .mixedOrders = true := by kernel_rfl
 replace hmix := hide hmix
 go_enter Tryz.func24, Tryz.ntmps24
 go_wp2_with fail
 clear c10
 have hd0 : Blk (W.alloc (.cells #[.int .i32 0, .int .i32 0, .int .i32 0, .int .i32 0, .int .i64 0, .int .i64 0, .int .i64 0, .string ⟨#[]⟩, .int .i64 0, .int .i32 0, .int .i32 0, .int .i32 0, .int .i32 0, .int .i64 0, .int .i64 0, .int .i64 0, .string ⟨#[]⟩, .int .i64 0, .int .i32 0, .int .i32 0, .int .i32 0, .int .i32 0, .int .i64 0, .int .i64 0, .int .i64 0, .string ⟨#[]⟩, .int .i64 0] 85)) W.heap.size 85 (dAt A B C 0) := Blk.new W _ _
 have HC := hide ((Chg.refl W []).alloc (.cells #[.int .i32 0, .int .i32 0, .int .i32 0, .int .i32 0, .int .i64 0, .int .i64 0, .int .i64 0, .string ⟨#[]⟩, .int .i64 0, .int .i32 0, .int .i32 0, .int .i32 0, .int .i32 0, .int .i64 0, .int .i64 0, .int .i64 0, .string ⟨#[]⟩, .int .i64 0, .int .i32 0, .int .i32 0, .int .i32 0, .int .i32 0, .int .i64 0, .int .i64 0, .int .i64 0, .string ⟨#[]⟩, .int .i64 0] 85))
 have HP0 := hide (HP.out.alloc (.cells #[.int .i32 0, .int .i32 0, .int .i32 0, .int .i32 0, .int .i64 0, .int .i64 0, .int .i64 0, .string ⟨#[]⟩, .int .i64 0, .int .i32 0, .int .i32 0, .int .i32 0, .int .i32 0, .int .i64 0, .int .i64 0, .int .i64 0, .string ⟨#[]⟩, .int .i64 0, .int .i32 0, .int .i32 0, .int .i32 0, .int .i32 0, .int .i64 0, .int .i64 0, .int .i64 0, .string ⟨#[]⟩, .int .i64 0] 85))
 generalize hw0 : (W.alloc (.cells #[.int .i32 0, .int .i32 0, .int .i32 0, .int .i32 0, .int .i64 0, .int .i64 0, .int .i64 0, .string ⟨#[]⟩, .int .i64 0, .int .i32 0, .int .i32 0, .int .i32 0, .int .i32 0, .int .i64 0, .int .i64 0, .int .i64 0, .string ⟨#[]⟩, .int .i64 0, .int .i32 0, .int .i32 0, .int .i32 0, .int .i32 0, .int .i64 0, .int .i64 0, .int .i64 0, .string ⟨#[]⟩, .int .i64 0] 85)) = w0 at *
 go_loopw [33] (fun v wr => ∃ i : Nat, v = .int .i64 i ∧ i ≤ 3 ∧ Hid (Chg W wr []) ∧ Hid (Blk wr W.heap.size 85 (dAt A B C i)) ∧ Hid (Pan wr p x a b c)) (fun v _ => (3 - intOf v).toNat)
 case atStart => exact ⟨0, rfl, by omega, HC, hide hd0, HP0⟩
 case round =>
  obtain ⟨i, rfl, hi, hc, hd, hp⟩ := hrel
  clear hd0 HC HP0 hw0 w0
  rcases (by omega : i = 0 ∨ i = 1 ∨ i = 2 ∨ i = 3) with rfl | rfl | rfl | rfl
  · have hb := hp.out
    unfold Pan at hb
    have x0 := hb.cell' (i := 0) rfl
    have x1 := hb.cell' (i := 1) rfl
    have x2 := hb.cell' (i := 2) rfl
    have x3 := hb.cell' (i := 3) rfl
    have x4 := hb.cell' (i := 4) rfl
    have x5 := hb.cell' (i := 5) rfl
    have x6 := hb.cell' (i := 6) rfl
    clear hb
    have ix : ∀ w, (Instr.index 86 (.agg #[.slice P0 n0 m0, .slice P1 n1 m1, .slice P2 n2 m2]) (.int .i64 0)).run Tryz.prog w = .ok (.slice P0 n0 m0) w := fun _ => by kernel_rfl
    go_wp2_with fail
    clear x0 x1 x2 x3 x4 x5 x6
    refine (L0.out _ (FT.out.chg hc.out (by simp)) (S0.out.keep hc.out)).mono ?_
    rintro e w1 ⟨⟨Bv, bn, bc, rfl, hs⟩, hc1⟩
    have hP1 := hide (hp.out.chg hc1 (by simp))
    have hD1 := hide (hd.out.chg hc1 (by simp))
    have hC1 := hide (hc.out.trans hc1 (D := []) (by simp))
    have hWd := hide (Nat.lt_of_lt_of_le hd.out.lt hc1.size)
    have hWp := hide (Nat.lt_of_lt_of_le hp.out.lt hc1.size)
    replace hs := hide hs
    clear ix
    go_upto_region 8 with (fail)
    have hS3 := Blk.new w1 25 [.int .i32 A.s.q.a.v, .int .i32 A.s.q.b.v, .int .i32 A.s.q.c.v, .int .i32 A.s.q.d.v, .int .i64 A.s.s, .int .i64 A.s.f, .int .i64 A.s.g]
    have hD3 := hide (hD1.out.alloc (.cells #[.int .i32 A.s.q.a.v, .int .i32 A.s.q.b.v, .int .i32 A.s.q.c.v, .int .i32 A.s.q.d.v, .int .i64 A.s.s, .int .i64 A.s.f, .int .i64 A.s.g] 25))
    have hP3 := hide (Blk.alloc hP1.out (.cells #[.int .i32 A.s.q.a.v, .int .i32 A.s.q.b.v, .int .i32 A.s.q.c.v, .int .i32 A.s.q.d.v, .int .i64 A.s.s, .int .i64 A.s.f, .int .i64 A.s.g] 25))
    have hC3 := hide (hC1.out.alloc (.cells #[.int .i32 A.s.q.a.v, .int .i32 A.s.q.b.v, .int .i32 A.s.q.c.v, .int .i32 A.s.q.d.v, .int .i64 A.s.s, .int .i64 A.s.f, .int .i64 A.s.g] 25))
    have hs3 := hide (hs.out.chg ((Chg.refl w1 []).alloc (.cells #[.int .i32 A.s.q.a.v, .int .i32 A.s.q.b.v, .int .i32 A.s.q.c.v, .int .i32 A.s.q.d.v, .int .i64 A.s.s, .int .i64 A.s.f, .int .i64 A.s.g] 25)))
    clear hP1 hD1 hC1 hs hc1 hp hd hc
    change Code.wp _ _ _ _ (w1.alloc (.cells #[.int .i32 A.s.q.a.v, .int .i32 A.s.q.b.v, .int .i32 A.s.q.c.v, .int .i32 A.s.q.d.v, .int .i64 A.s.s, .int .i64 A.s.f, .int .i64 A.s.g] 25))
    generalize (w1.alloc (.cells #[.int .i32 A.s.q.a.v, .int .i32 A.s.q.b.v, .int .i32 A.s.q.c.v, .int .i32 A.s.q.d.v, .int .i64 A.s.s, .int .i64 A.s.f, .int .i64 A.s.g] 25)) = w3 at *
    have z0 := hS3.cell' (i := 0) rfl
    have z1 := hS3.cell' (i := 1) rfl
    have z2 := hS3.cell' (i := 2) rfl
    have z3 := hS3.cell' (i := 3) rfl
    have z4 := hS3.cell' (i := 4) rfl
    have z5 := hS3.cell' (i := 5) rfl
    have z6 := hS3.cell' (i := 6) rfl
    clear hS3
    have cx := conv_str hs3.out
    have d0 := hD3.out.cell' (i := 0) rfl
    have df0 := hD3.out.frozen 0
    have d1 := hD3.out.cell' (i := 1) rfl
    have df1 := hD3.out.frozen 1
    have d2 := hD3.out.cell' (i := 2) rfl
    have df2 := hD3.out.frozen 2
    have d3 := hD3.out.cell' (i := 3) rfl
    have df3 := hD3.out.frozen 3
    have d4 := hD3.out.cell' (i := 4) rfl
    have df4 := hD3.out.frozen 4
    have d5 := hD3.out.cell' (i := 5) rfl
    have df5 := hD3.out.frozen 5
    have d6 := hD3.out.cell' (i := 6) rfl
    have df6 := hD3.out.frozen 6
    have d7 := hD3.out.cell' (i := 7) rfl
    have df7 := hD3.out.frozen 7
    have d8 := hD3.out.cell' (i := 8) rfl
    have df8 := hD3.out.frozen 8
    go_upto_region 9 with (fail)
    change Code.wp _ _ _ _ (put9 w3 W.heap.size 0 (.int .i32 A.s.q.a.v) (.int .i32 A.s.q.b.v) (.int .i32 A.s.q.c.v) (.int .i32 A.s.q.d.v) (.int .i64 A.s.s) (.int .i64 A.s.f) (.int .i64 A.s.g) (.string A.t) (.int .i64 A.e))
    clear d0 df0 d1 df1 d2 df2 d3 df3 d4 df4 d5 df5 d6 df6 d7 df7 d8 df8
    clear z0 z1 z2 z3 z4 z5 z6
    have hc9 := put9_chg w3 W.heap.size 0 (.int .i32 A.s.q.a.v) (.int .i32 A.s.q.b.v) (.int .i32 A.s.q.c.v) (.int .i32 A.s.q.d.v) (.int .i64 A.s.s) (.int .i64 A.s.f) (.int .i64 A.s.g) (.string A.t) (.int .i64 A.e)
    have hD4 := hide (show Blk _ _ _ (dAt A B C 1) from put9_blk hD3.out 0 (.int .i32 A.s.q.a.v) (.int .i32 A.s.q.b.v) (.int .i32 A.s.q.c.v) (.int .i32 A.s.q.d.v) (.int .i64 A.s.s) (.int .i64 A.s.f) (.int .i64 A.s.g) (.string A.t) (.int .i64 A.e))
    have hP4 := hide (Blk.chg hP3.out hc9 (by have := hlt.out; simp; omega))
    have hC4 := hide (hC3.out.trans hc9 (D := []) (fun k hk => by simp at hk; omega))
    generalize put9 w3 W.heap.size 0 (.int .i32 A.s.q.a.v) (.int .i32 A.s.q.b.v) (.int .i32 A.s.q.c.v) (.int .i32 A.s.q.d.v) (.int .i64 A.s.s) (.int .i64 A.s.f) (.int .i64 A.s.g) (.string A.t) (.int .i64 A.e) = w4 at *
    clear hc9 hD3 hP3 hC3 cx hs3
    go_wp2
    go_roundw
    case rel => exact ⟨1, by go_num, by omega, hC4, hD4, hP4⟩
    case measure => simp [intOf]
  · have hb := hp.out
    unfold Pan at hb
    have x0 := hb.cell' (i := 0) rfl
    have x1 := hb.cell' (i := 1) rfl
    have x2 := hb.cell' (i := 2) rfl
    have x3 := hb.cell' (i := 3) rfl
    have x4 := hb.cell' (i := 4) rfl
    have x5 := hb.cell' (i := 5) rfl
    have x6 := hb.cell' (i := 6) rfl
    clear hb
    have ix : ∀ w, (Instr.index 86 (.agg #[.slice P0 n0 m0, .slice P1 n1 m1, .slice P2 n2 m2]) (.int .i64 1)).run Tryz.prog w = .ok (.slice P1 n1 m1) w := fun _ => by kernel_rfl
    go_wp2_with fail
    clear x0 x1 x2 x3 x4 x5 x6
    refine (L1.out _ (FT.out.chg hc.out (by simp)) (S1.out.keep hc.out)).mono ?_
    rintro e w1 ⟨⟨Bv, bn, bc, rfl, hs⟩, hc1⟩
    have hP1 := hide (hp.out.chg hc1 (by simp))
    have hD1 := hide (hd.out.chg hc1 (by simp))
    have hC1 := hide (hc.out.trans hc1 (D := []) (by simp))
    have hWd := hide (Nat.lt_of_lt_of_le hd.out.lt hc1.size)
    have hWp := hide (Nat.lt_of_lt_of_le hp.out.lt hc1.size)
    replace hs := hide hs
    clear ix
    go_upto_region 8 with (fail)
    have hS3 := Blk.new w1 25 [.int .i32 B.s.q.a.v, .int .i32 B.s.q.b.v, .int .i32 B.s.q.c.v, .int .i32 B.s.q.d.v, .int .i64 B.s.s, .int .i64 B.s.f, .int .i64 B.s.g]
    have hD3 := hide (hD1.out.alloc (.cells #[.int .i32 B.s.q.a.v, .int .i32 B.s.q.b.v, .int .i32 B.s.q.c.v, .int .i32 B.s.q.d.v, .int .i64 B.s.s, .int .i64 B.s.f, .int .i64 B.s.g] 25))
    have hP3 := hide (Blk.alloc hP1.out (.cells #[.int .i32 B.s.q.a.v, .int .i32 B.s.q.b.v, .int .i32 B.s.q.c.v, .int .i32 B.s.q.d.v, .int .i64 B.s.s, .int .i64 B.s.f, .int .i64 B.s.g] 25))
    have hC3 := hide (hC1.out.alloc (.cells #[.int .i32 B.s.q.a.v, .int .i32 B.s.q.b.v, .int .i32 B.s.q.c.v, .int .i32 B.s.q.d.v, .int .i64 B.s.s, .int .i64 B.s.f, .int .i64 B.s.g] 25))
    have hs3 := hide (hs.out.chg ((Chg.refl w1 []).alloc (.cells #[.int .i32 B.s.q.a.v, .int .i32 B.s.q.b.v, .int .i32 B.s.q.c.v, .int .i32 B.s.q.d.v, .int .i64 B.s.s, .int .i64 B.s.f, .int .i64 B.s.g] 25)))
    clear hP1 hD1 hC1 hs hc1 hp hd hc
    change Code.wp _ _ _ _ (w1.alloc (.cells #[.int .i32 B.s.q.a.v, .int .i32 B.s.q.b.v, .int .i32 B.s.q.c.v, .int .i32 B.s.q.d.v, .int .i64 B.s.s, .int .i64 B.s.f, .int .i64 B.s.g] 25))
    generalize (w1.alloc (.cells #[.int .i32 B.s.q.a.v, .int .i32 B.s.q.b.v, .int .i32 B.s.q.c.v, .int .i32 B.s.q.d.v, .int .i64 B.s.s, .int .i64 B.s.f, .int .i64 B.s.g] 25)) = w3 at *
    have z0 := hS3.cell' (i := 0) rfl
    have z1 := hS3.cell' (i := 1) rfl
    have z2 := hS3.cell' (i := 2) rfl
    have z3 := hS3.cell' (i := 3) rfl
    have z4 := hS3.cell' (i := 4) rfl
    have z5 := hS3.cell' (i := 5) rfl
    have z6 := hS3.cell' (i := 6) rfl
    clear hS3
    have cx := conv_str hs3.out
    have d0 := hD3.out.cell' (i := 9) rfl
    have df0 := hD3.out.frozen 9
    have d1 := hD3.out.cell' (i := 10) rfl
    have df1 := hD3.out.frozen 10
    have d2 := hD3.out.cell' (i := 11) rfl
    have df2 := hD3.out.frozen 11
    have d3 := hD3.out.cell' (i := 12) rfl
    have df3 := hD3.out.frozen 12
    have d4 := hD3.out.cell' (i := 13) rfl
    have df4 := hD3.out.frozen 13
    have d5 := hD3.out.cell' (i := 14) rfl
    have df5 := hD3.out.frozen 14
    have d6 := hD3.out.cell' (i := 15) rfl
    have df6 := hD3.out.frozen 15
    have d7 := hD3.out.cell' (i := 16) rfl
    have df7 := hD3.out.frozen 16
    have d8 := hD3.out.cell' (i := 17) rfl
    have df8 := hD3.out.frozen 17
    go_upto_region 9 with (fail)
    change Code.wp _ _ _ _ (put9 w3 W.heap.size 9 (.int .i32 B.s.q.a.v) (.int .i32 B.s.q.b.v) (.int .i32 B.s.q.c.v) (.int .i32 B.s.q.d.v) (.int .i64 B.s.s) (.int .i64 B.s.f) (.int .i64 B.s.g) (.string B.t) (.int .i64 B.e))
    clear d0 df0 d1 df1 d2 df2 d3 df3 d4 df4 d5 df5 d6 df6 d7 df7 d8 df8
    clear z0 z1 z2 z3 z4 z5 z6
    have hc9 := put9_chg w3 W.heap.size 9 (.int .i32 B.s.q.a.v) (.int .i32 B.s.q.b.v) (.int .i32 B.s.q.c.v) (.int .i32 B.s.q.d.v) (.int .i64 B.s.s) (.int .i64 B.s.f) (.int .i64 B.s.g) (.string B.t) (.int .i64 B.e)
    have hD4 := hide (show Blk _ _ _ (dAt A B C 2) from put9_blk hD3.out 9 (.int .i32 B.s.q.a.v) (.int .i32 B.s.q.b.v) (.int .i32 B.s.q.c.v) (.int .i32 B.s.q.d.v) (.int .i64 B.s.s) (.int .i64 B.s.f) (.int .i64 B.s.g) (.string B.t) (.int .i64 B.e))
    have hP4 := hide (Blk.chg hP3.out hc9 (by have := hlt.out; simp; omega))
    have hC4 := hide (hC3.out.trans hc9 (D := []) (fun k hk => by simp at hk; omega))
    generalize put9 w3 W.heap.size 9 (.int .i32 B.s.q.a.v) (.int .i32 B.s.q.b.v) (.int .i32 B.s.q.c.v) (.int .i32 B.s.q.d.v) (.int .i64 B.s.s) (.int .i64 B.s.f) (.int .i64 B.s.g) (.string B.t) (.int .i64 B.e) = w4 at *
    clear hc9 hD3 hP3 hC3 cx hs3
    go_wp2
    go_roundw
    case rel => exact ⟨2, by go_num, by omega, hC4, hD4, hP4⟩
    case measure => simp [intOf]
  · have hb := hp.out
    unfold Pan at hb
    have x0 := hb.cell' (i := 0) rfl
    have x1 := hb.cell' (i := 1) rfl
    have x2 := hb.cell' (i := 2) rfl
    have x3 := hb.cell' (i := 3) rfl
    have x4 := hb.cell' (i := 4) rfl
    have x5 := hb.cell' (i := 5) rfl
    have x6 := hb.cell' (i := 6) rfl
    clear hb
    have ix : ∀ w, (Instr.index 86 (.agg #[.slice P0 n0 m0, .slice P1 n1 m1, .slice P2 n2 m2]) (.int .i64 2)).run Tryz.prog w = .ok (.slice P2 n2 m2) w := fun _ => by kernel_rfl
    go_wp2_with fail
    clear x0 x1 x2 x3 x4 x5 x6
    refine (L2.out _ (FT.out.chg hc.out (by simp)) (S2.out.keep hc.out)).mono ?_
    rintro e w1 ⟨⟨Bv, bn, bc, rfl, hs⟩, hc1⟩
    have hP1 := hide (hp.out.chg hc1 (by simp))
    have hD1 := hide (hd.out.chg hc1 (by simp))
    have hC1 := hide (hc.out.trans hc1 (D := []) (by simp))
    have hWd := hide (Nat.lt_of_lt_of_le hd.out.lt hc1.size)
    have hWp := hide (Nat.lt_of_lt_of_le hp.out.lt hc1.size)
    replace hs := hide hs
    clear ix
    go_upto_region 8 with (fail)
    have hS3 := Blk.new w1 25 [.int .i32 C.s.q.a.v, .int .i32 C.s.q.b.v, .int .i32 C.s.q.c.v, .int .i32 C.s.q.d.v, .int .i64 C.s.s, .int .i64 C.s.f, .int .i64 C.s.g]
    have hD3 := hide (hD1.out.alloc (.cells #[.int .i32 C.s.q.a.v, .int .i32 C.s.q.b.v, .int .i32 C.s.q.c.v, .int .i32 C.s.q.d.v, .int .i64 C.s.s, .int .i64 C.s.f, .int .i64 C.s.g] 25))
    have hP3 := hide (Blk.alloc hP1.out (.cells #[.int .i32 C.s.q.a.v, .int .i32 C.s.q.b.v, .int .i32 C.s.q.c.v, .int .i32 C.s.q.d.v, .int .i64 C.s.s, .int .i64 C.s.f, .int .i64 C.s.g] 25))
    have hC3 := hide (hC1.out.alloc (.cells #[.int .i32 C.s.q.a.v, .int .i32 C.s.q.b.v, .int .i32 C.s.q.c.v, .int .i32 C.s.q.d.v, .int .i64 C.s.s, .int .i64 C.s.f, .int .i64 C.s.g] 25))
    have hs3 := hide (hs.out.chg ((Chg.refl w1 []).alloc (.cells #[.int .i32 C.s.q.a.v, .int .i32 C.s.q.b.v, .int .i32 C.s.q.c.v, .int .i32 C.s.q.d.v, .int .i64 C.s.s, .int .i64 C.s.f, .int .i64 C.s.g] 25)))
    clear hP1 hD1 hC1 hs hc1 hp hd hc
    change Code.wp _ _ _ _ (w1.alloc (.cells #[.int .i32 C.s.q.a.v, .int .i32 C.s.q.b.v, .int .i32 C.s.q.c.v, .int .i32 C.s.q.d.v, .int .i64 C.s.s, .int .i64 C.s.f, .int .i64 C.s.g] 25))
    generalize (w1.alloc (.cells #[.int .i32 C.s.q.a.v, .int .i32 C.s.q.b.v, .int .i32 C.s.q.c.v, .int .i32 C.s.q.d.v, .int .i64 C.s.s, .int .i64 C.s.f, .int .i64 C.s.g] 25)) = w3 at *
    have z0 := hS3.cell' (i := 0) rfl
    have z1 := hS3.cell' (i := 1) rfl
    have z2 := hS3.cell' (i := 2) rfl
    have z3 := hS3.cell' (i := 3) rfl
    have z4 := hS3.cell' (i := 4) rfl
    have z5 := hS3.cell' (i := 5) rfl
    have z6 := hS3.cell' (i := 6) rfl
    clear hS3
    have cx := conv_str hs3.out
    have d0 := hD3.out.cell' (i := 18) rfl
    have df0 := hD3.out.frozen 18
    have d1 := hD3.out.cell' (i := 19) rfl
    have df1 := hD3.out.frozen 19
    have d2 := hD3.out.cell' (i := 20) rfl
    have df2 := hD3.out.frozen 20
    have d3 := hD3.out.cell' (i := 21) rfl
    have df3 := hD3.out.frozen 21
    have d4 := hD3.out.cell' (i := 22) rfl
    have df4 := hD3.out.frozen 22
    have d5 := hD3.out.cell' (i := 23) rfl
    have df5 := hD3.out.frozen 23
    have d6 := hD3.out.cell' (i := 24) rfl
    have df6 := hD3.out.frozen 24
    have d7 := hD3.out.cell' (i := 25) rfl
    have df7 := hD3.out.frozen 25
    have d8 := hD3.out.cell' (i := 26) rfl
    have df8 := hD3.out.frozen 26
    go_upto_region 9 with (fail)
    change Code.wp _ _ _ _ (put9 w3 W.heap.size 18 (.int .i32 C.s.q.a.v) (.int .i32 C.s.q.b.v) (.int .i32 C.s.q.c.v) (.int .i32 C.s.q.d.v) (.int .i64 C.s.s) (.int .i64 C.s.f) (.int .i64 C.s.g) (.string C.t) (.int .i64 C.e))
    clear d0 df0 d1 df1 d2 df2 d3 df3 d4 df4 d5 df5 d6 df6 d7 df7 d8 df8
    clear z0 z1 z2 z3 z4 z5 z6
    have hc9 := put9_chg w3 W.heap.size 18 (.int .i32 C.s.q.a.v) (.int .i32 C.s.q.b.v) (.int .i32 C.s.q.c.v) (.int .i32 C.s.q.d.v) (.int .i64 C.s.s) (.int .i64 C.s.f) (.int .i64 C.s.g) (.string C.t) (.int .i64 C.e)
    have hD4 := hide (show Blk _ _ _ (dAt A B C 3) from put9_blk hD3.out 18 (.int .i32 C.s.q.a.v) (.int .i32 C.s.q.b.v) (.int .i32 C.s.q.c.v) (.int .i32 C.s.q.d.v) (.int .i64 C.s.s) (.int .i64 C.s.f) (.int .i64 C.s.g) (.string C.t) (.int .i64 C.e))
    have hP4 := hide (Blk.chg hP3.out hc9 (by have := hlt.out; simp; omega))
    have hC4 := hide (hC3.out.trans hc9 (D := []) (fun k hk => by simp at hk; omega))
    generalize put9 w3 W.heap.size 18 (.int .i32 C.s.q.a.v) (.int .i32 C.s.q.b.v) (.int .i32 C.s.q.c.v) (.int .i32 C.s.q.d.v) (.int .i64 C.s.s) (.int .i64 C.s.f) (.int .i64 C.s.g) (.string C.t) (.int .i64 C.e) = w4 at *
    clear hc9 hD3 hP3 hC3 cx hs3
    go_wp2
    go_roundw
    case rel => exact ⟨3, by go_num, by omega, hC4, hD4, hP4⟩
    case measure => simp [intOf]
  · have hD : Blk wr W.heap.size 85 (l27 A B C) := hd.out
    replace hD := hide hD
    have hcall := chosenA_calls A B C wr
    cases hR : chosenA A B C with
    | none =>
     rw [hR] at hcall
     simp only [chosenV] at hcall
     replace hcall := hide hcall
     replace hR := hide hR
     go_wp2_with (refine wpList_load_row rfl 85 (.tmp 11) rfl W.heap.size rfl 85 (l27 A B C).toArray (0, 0) _ hD.out Tryz.underlying85 rfl (by kernel_rfl) ?_)
     clear hD
     refine hcall.out.mono ?_
     rintro e w1 ⟨rfl, hc1⟩
     replace hc1 := hide hc1
     go_wp2_with fail
     go_ret3
     have e : panR x a b c A B C = ⟨x, a, b, c, ⟨#[]⟩, -1, 10⟩ := by unfold panR; rw [hR.out]
     rw [e]
     exact ⟨_, rfl, Bs.nil _, Blk.alloc (Blk.chg hp.out hc1.out (by simp)) _, ((hc.out.trans hc1.out (D := []) (by simp)).alloc _).more (by simp)⟩
    | some rn =>
     obtain ⟨r, n⟩ := rn
     rw [hR] at hcall
     simp only [chosenV] at hcall
     replace hcall := hide hcall
     have hn := chosen_four hR
     replace hR := hide hR
     go_wp2_with (refine wpList_load_row rfl 85 (.tmp 11) rfl W.heap.size rfl 85 (l27 A B C).toArray (0, 0) _ hD.out Tryz.underlying85 rfl (by kernel_rfl) ?_)
     clear hD
     refine hcall.out.mono ?_
     rintro e w1 ⟨rfl, hc1⟩
     replace hc1 := hide hc1
     go_upto_region 11 with (fail)
     have hX := Blk.new w1 84 [.int .i32 r.s.q.a.v, .int .i32 r.s.q.b.v, .int .i32 r.s.q.c.v, .int .i32 r.s.q.d.v, .int .i64 r.s.s, .int .i64 r.s.f, .int .i64 r.s.g, .string r.t, .int .i64 r.e]
     have hp2 := hide (Blk.alloc (Blk.chg hp.out hc1.out (by simp)) (.cells #[.int .i32 r.s.q.a.v, .int .i32 r.s.q.b.v, .int .i32 r.s.q.c.v, .int .i32 r.s.q.d.v, .int .i64 r.s.s, .int .i64 r.s.f, .int .i64 r.s.g, .string r.t, .int .i64 r.e] 84))
     have hC2 := hide ((hc.out.trans hc1.out (D := []) (by simp)).alloc (.cells #[.int .i32 r.s.q.a.v, .int .i32 r.s.q.b.v, .int .i32 r.s.q.c.v, .int .i32 r.s.q.d.v, .int .i64 r.s.s, .int .i64 r.s.f, .int .i64 r.s.g, .string r.t, .int .i64 r.e] 84))
     have hpX := hide (Nat.lt_of_lt_of_le hp.out.lt hc1.out.size)
     have hWX := hide (hc.out.trans hc1.out (D := []) (by simp)).size
     clear hp hc hc1 hd hcall
     change Code.wp _ _ _ _ (w1.alloc (.cells #[.int .i32 r.s.q.a.v, .int .i32 r.s.q.b.v, .int .i32 r.s.q.c.v, .int .i32 r.s.q.d.v, .int .i64 r.s.s, .int .i64 r.s.f, .int .i64 r.s.g, .string r.t, .int .i64 r.e] 84))
     generalize w1.alloc (.cells #[.int .i32 r.s.q.a.v, .int .i32 r.s.q.b.v, .int .i32 r.s.q.c.v, .int .i32 r.s.q.d.v, .int .i64 r.s.s, .int .i64 r.s.f, .int .i64 r.s.g, .string r.t, .int .i64 r.e] 84) = w2 at *
     generalize w1.heap.size = X at *
     replace hX := hide hX
     rcases hn with rfl | rfl | rfl | rfl
     · have hp4 := hp2
       have hC4 := hide (hC2.out.more (D' := [p]) (by simp))
       have hX4 := hX
       clear hp2 hC2 hX
       have hb : Blk w2 p 82 [.int .i32 x.q.a.v, .int .i32 x.q.b.v, .int .i32 x.q.c.v, .int .i32 x.q.d.v, .int .i64 x.s, .int .i64 x.f, .int .i64 x.g, .int .i64 a, .int .i64 b, .int .i64 c, .bool true] := hp4.out
       have p0 := hb.cell' (i := 0) rfl
       have pf0 := hb.frozen 0
       have x0 := hX4.out.cell' (i := 0) rfl
       have p1 := hb.cell' (i := 1) rfl
       have pf1 := hb.frozen 1
       have x1 := hX4.out.cell' (i := 1) rfl
       have p2 := hb.cell' (i := 2) rfl
       have pf2 := hb.frozen 2
       have x2 := hX4.out.cell' (i := 2) rfl
       have p3 := hb.cell' (i := 3) rfl
       have pf3 := hb.frozen 3
       have x3 := hX4.out.cell' (i := 3) rfl
       have p4 := hb.cell' (i := 4) rfl
       have pf4 := hb.frozen 4
       have x4 := hX4.out.cell' (i := 4) rfl
       have p5 := hb.cell' (i := 5) rfl
       have pf5 := hb.frozen 5
       have x5 := hX4.out.cell' (i := 5) rfl
       have p6 := hb.cell' (i := 6) rfl
       have pf6 := hb.frozen 6
       have x6 := hX4.out.cell' (i := 6) rfl
       clear hb
       go_upto_region 16 with (fail)
       clear p0 pf0 x0 p1 pf1 x1 p2 pf2 x2 p3 pf3 x3 p4 pf4 x4 p5 pf5 x5 p6 pf6 x6
       change Code.wp _ _ _ _ (put7 w2 p (.int .i32 r.s.q.a.v) (.int .i32 r.s.q.b.v) (.int .i32 r.s.q.c.v) (.int .i32 r.s.q.d.v) (.int .i64 r.s.s) (.int .i64 r.s.f) (.int .i64 r.s.g))
       have hc7 := put7_chg w2 p (.int .i32 r.s.q.a.v) (.int .i32 r.s.q.b.v) (.int .i32 r.s.q.c.v) (.int .i32 r.s.q.d.v) (.int .i64 r.s.s) (.int .i64 r.s.f) (.int .i64 r.s.g)
       have hP5 : Pan (put7 w2 p (.int .i32 r.s.q.a.v) (.int .i32 r.s.q.b.v) (.int .i32 r.s.q.c.v) (.int .i32 r.s.q.d.v) (.int .i64 r.s.s) (.int .i64 r.s.f) (.int .i64 r.s.g)) p r.s a b c := put7_more hp4.out (.int .i32 r.s.q.a.v) (.int .i32 r.s.q.b.v) (.int .i32 r.s.q.c.v) (.int .i32 r.s.q.d.v) (.int .i64 r.s.s) (.int .i64 r.s.f) (.int .i64 r.s.g)
       have hX5 := hide (hX4.out.chg hc7 (by have := hpX.out; simp; omega))
       have hC5 := hide (hC4.out.trans hc7 (fun k hk => .inl hk))
       generalize put7 w2 p (.int .i32 r.s.q.a.v) (.int .i32 r.s.q.b.v) (.int .i32 r.s.q.c.v) (.int .i32 r.s.q.d.v) (.int .i64 r.s.s) (.int .i64 r.s.f) (.int .i64 r.s.g) = w5 at *
       replace hP5 := hide hP5
       clear hc7 hp4 hX4 hC4
       refine wp_regionG hmix.out _ _ (vPf r X (-1)) (WPf w5 r.t) undef (by kernel_rfl) (by kernel_rfl) (by kernel_rfl) ?step ?start ?fin ?ext
       case start => exact ⟨(Chg.refl w5 _).drew, (fun h => by cases h)⟩
       case ext => exact fun γ L L' w' h hw => hw.ext (by rw [h 2 (by decide)])
       case step =>
        have HX := hX5.out
        intro i o ho L a w1 γ hdn htm hW hL hpre K Q hK
        match i, ho with
        | 0, ho =>
         injection ho with ho; subst ho
         have b17 : a.tmps.getD 17 undef = .pointer (some ⟨X, 0, none⟩) := slB htm 17 (by kernel_rfl)
         clear htm
         refine val_now ?_ (hK γ w1 (fun _ _ => rfl) (hW.ext (by simp))); go_simp; rfl
        | 1, ho =>
         injection ho with ho; subst ho
         have s0 := slA htm 80 0 (by kernel_rfl) (hpre ⟨0, .data⟩ (by simp) rfl)
         simp only [vPf] at s0
         clear htm
         have c7 := (HX.chg hW.chg (by simp)).cell' (i := 7) rfl
         refine val_now ?_ (hK γ w1 (fun _ _ => rfl) (hW.ext (by simp))); go_simp; rfl
        | 2, ho =>
         injection ho with ho; subst ho
         have s1 := slA htm 81 1 (by kernel_rfl) (hpre ⟨1, .data⟩ (by simp) rfl)
         simp only [vPf] at s1
         clear htm
         obtain ⟨sv, w2', hcv, hbs, hch⟩ := conv_back w1 r.t
         refine val_now (v := vPf r X (-1) sv 2) (w' := w2') ?_ (hK sv w2' (fun j hj => ?_) ?_)
         · go_simp
           rfl
         · have n6 : L 6 = false := by
            cases h : L 6 with
            | false => rfl
            | true => have this : L 2 = true := hdn 6 _ rfl h ⟨2, .data⟩ (by simp) rfl; rw [hL] at this; cases this
           match j, hj with
           | 0, _ => rfl
           | 1, _ => rfl
           | 2, hj => rw [hL] at hj; cases hj
           | 3, _ => rfl
           | 4, _ => rfl
           | 5, _ => rfl
           | 6, hj => rw [n6] at hj; cases hj
           | 7, _ => rfl
           | 8, _ => rfl
           | _ + 9, _ => rfl
         · exact ⟨hW.chg.trans hch (D := []) (by simp), fun _ => hbs⟩
        | 3, ho =>
         injection ho with ho; subst ho
         have b18 : a.tmps.getD 18 undef = .int .i64 (-1) := slB htm 18 (by kernel_rfl)
         clear htm
         refine val_now ?_ (hK γ w1 (fun _ _ => rfl) (hW.ext (by simp))); go_simp; rfl
        | 4, ho =>
         injection ho with ho; subst ho
         have b17 : a.tmps.getD 17 undef = .pointer (some ⟨X, 0, none⟩) := slB htm 17 (by kernel_rfl)
         clear htm
         refine val_now ?_ (hK γ w1 (fun _ _ => rfl) (hW.ext (by simp))); go_simp; rfl
        | 5, ho =>
         injection ho with ho; subst ho
         have s4 := slA htm 84 4 (by kernel_rfl) (hpre ⟨4, .data⟩ (by simp) rfl)
         simp only [vPf] at s4
         clear htm
         have c8 := (HX.chg hW.chg (by simp)).cell' (i := 8) rfl
         refine val_now ?_ (hK γ w1 (fun _ _ => rfl) (hW.ext (by simp))); go_simp; rfl
        | 6, ho =>
         injection ho with ho; subst ho
         have s2 := slA htm 82 2 (by kernel_rfl) (hpre ⟨2, .data⟩ (by simp) rfl)
         simp only [vPf] at s2
         clear htm
         refine val_now ?_ (hK γ w1 (fun _ _ => rfl) (hW.ext (by simp))); go_simp; rfl
        | 7, ho =>
         injection ho with ho; subst ho
         have s3 := slA htm 83 3 (by kernel_rfl) (hpre ⟨3, .data⟩ (by simp) rfl)
         simp only [vPf] at s3
         clear htm
         refine val_now ?_ (hK γ w1 (fun _ _ => rfl) (hW.ext (by simp))); go_simp; rfl
        | 8, ho =>
         injection ho with ho; subst ho
         have s5 := slA htm 85 5 (by kernel_rfl) (hpre ⟨5, .data⟩ (by simp) rfl)
         simp only [vPf] at s5
         clear htm
         refine val_now ?_ (hK γ w1 (fun _ _ => rfl) (hW.ext (by simp))); go_simp; rfl
        | _ + 9, ho => cases ho
       case fin =>
        intro γ w6 hW
        rw [finG_puts]
        have hs := hide (hW.ans rfl)
        have hch := hide hW.chg
        clear hW
        go_wp2_with fail
        refine bodyPost_ret (results_ttt rfl _ _ _) rfl ?_
        rw [putsR_at _ _ 8 (blt_iff.1 (by kernel_rfl)), putsR_at _ _ 9 (blt_iff.1 (by kernel_rfl)), putsR_at _ _ 10 (blt_iff.1 (by kernel_rfl))]
        have e : panR x a b c A B C = ⟨r.s, (oddP (-1) a b c).1, (oddP (-1) a b c).2.1, (oddP (-1) a b c).2.2, r.t, -1, r.e⟩ := by unfold panR; rw [hR.out]
        rw [e]
        exact ⟨γ, rfl, hs.out, Blk.chg hP5.out hch.out (by simp), hC5.out.trans hch.out (by simp)⟩
     · go_upto_region 14 with (fail)
       have hb := hp2.out
       unfold Pan at hb
       have pc := hb.cell' (i := 7) rfl
       have pf := hb.frozen 7
       go_region_with (fail)
       clear pc pf
       have hc4 : Chg w2 (w2.setCell ⟨p, 7, none⟩ (.int .i64 (IntKind.i64.wrap (a + 1)))).drew [p] := ((Chg.refl w2 [p]).setCell ⟨p, 7, none⟩ (.int .i64 (IntKind.i64.wrap (a + 1))) (.inl (by simp))).drew
       have hp4 := hide (Blk.chg (hb.set_ 7 (.int .i64 (IntKind.i64.wrap (a + 1)))) ((Chg.refl _ []).drew) (by simp))
       have hX4 := hide (hX.out.chg hc4 (by have := hpX.out; simp; omega))
       have hC4 := hide ((hC2.out.more (D' := [p]) (by simp)).trans hc4 (fun k hk => .inl hk))
       generalize (w2.setCell ⟨p, 7, none⟩ (.int .i64 (IntKind.i64.wrap (a + 1)))).drew = w4 at *
       clear hc4 hb hp2 hX hC2
       have hb : Blk w4 p 82 [.int .i32 x.q.a.v, .int .i32 x.q.b.v, .int .i32 x.q.c.v, .int .i32 x.q.d.v, .int .i64 x.s, .int .i64 x.f, .int .i64 x.g, .int .i64 (IntKind.i64.wrap (a + 1)), .int .i64 b, .int .i64 c, .bool true] := hp4.out
       have p0 := hb.cell' (i := 0) rfl
       have pf0 := hb.frozen 0
       have x0 := hX4.out.cell' (i := 0) rfl
       have p1 := hb.cell' (i := 1) rfl
       have pf1 := hb.frozen 1
       have x1 := hX4.out.cell' (i := 1) rfl
       have p2 := hb.cell' (i := 2) rfl
       have pf2 := hb.frozen 2
       have x2 := hX4.out.cell' (i := 2) rfl
       have p3 := hb.cell' (i := 3) rfl
       have pf3 := hb.frozen 3
       have x3 := hX4.out.cell' (i := 3) rfl
       have p4 := hb.cell' (i := 4) rfl
       have pf4 := hb.frozen 4
       have x4 := hX4.out.cell' (i := 4) rfl
       have p5 := hb.cell' (i := 5) rfl
       have pf5 := hb.frozen 5
       have x5 := hX4.out.cell' (i := 5) rfl
       have p6 := hb.cell' (i := 6) rfl
       have pf6 := hb.frozen 6
       have x6 := hX4.out.cell' (i := 6) rfl
       clear hb
       go_upto_region 16 with (fail)
       clear p0 pf0 x0 p1 pf1 x1 p2 pf2 x2 p3 pf3 x3 p4 pf4 x4 p5 pf5 x5 p6 pf6 x6
       change Code.wp _ _ _ _ (put7 w4 p (.int .i32 r.s.q.a.v) (.int .i32 r.s.q.b.v) (.int .i32 r.s.q.c.v) (.int .i32 r.s.q.d.v) (.int .i64 r.s.s) (.int .i64 r.s.f) (.int .i64 r.s.g))
       have hc7 := put7_chg w4 p (.int .i32 r.s.q.a.v) (.int .i32 r.s.q.b.v) (.int .i32 r.s.q.c.v) (.int .i32 r.s.q.d.v) (.int .i64 r.s.s) (.int .i64 r.s.f) (.int .i64 r.s.g)
       have hP5 : Pan (put7 w4 p (.int .i32 r.s.q.a.v) (.int .i32 r.s.q.b.v) (.int .i32 r.s.q.c.v) (.int .i32 r.s.q.d.v) (.int .i64 r.s.s) (.int .i64 r.s.f) (.int .i64 r.s.g)) p r.s (IntKind.i64.wrap (a + 1)) b c := put7_more hp4.out (.int .i32 r.s.q.a.v) (.int .i32 r.s.q.b.v) (.int .i32 r.s.q.c.v) (.int .i32 r.s.q.d.v) (.int .i64 r.s.s) (.int .i64 r.s.f) (.int .i64 r.s.g)
       have hX5 := hide (hX4.out.chg hc7 (by have := hpX.out; simp; omega))
       have hC5 := hide (hC4.out.trans hc7 (fun k hk => .inl hk))
       generalize put7 w4 p (.int .i32 r.s.q.a.v) (.int .i32 r.s.q.b.v) (.int .i32 r.s.q.c.v) (.int .i32 r.s.q.d.v) (.int .i64 r.s.s) (.int .i64 r.s.f) (.int .i64 r.s.g) = w5 at *
       replace hP5 := hide hP5
       clear hc7 hp4 hX4 hC4
       refine wp_regionG hmix.out _ _ (vPf r X (0)) (WPf w5 r.t) undef (by kernel_rfl) (by kernel_rfl) (by kernel_rfl) ?step ?start ?fin ?ext
       case start => exact ⟨(Chg.refl w5 _).drew, (fun h => by cases h)⟩
       case ext => exact fun γ L L' w' h hw => hw.ext (by rw [h 2 (by decide)])
       case step =>
        have HX := hX5.out
        intro i o ho L a w1 γ hdn htm hW hL hpre K Q hK
        match i, ho with
        | 0, ho =>
         injection ho with ho; subst ho
         have b17 : a.tmps.getD 17 undef = .pointer (some ⟨X, 0, none⟩) := slB htm 17 (by kernel_rfl)
         clear htm
         refine val_now ?_ (hK γ w1 (fun _ _ => rfl) (hW.ext (by simp))); go_simp; rfl
        | 1, ho =>
         injection ho with ho; subst ho
         have s0 := slA htm 80 0 (by kernel_rfl) (hpre ⟨0, .data⟩ (by simp) rfl)
         simp only [vPf] at s0
         clear htm
         have c7 := (HX.chg hW.chg (by simp)).cell' (i := 7) rfl
         refine val_now ?_ (hK γ w1 (fun _ _ => rfl) (hW.ext (by simp))); go_simp; rfl
        | 2, ho =>
         injection ho with ho; subst ho
         have s1 := slA htm 81 1 (by kernel_rfl) (hpre ⟨1, .data⟩ (by simp) rfl)
         simp only [vPf] at s1
         clear htm
         obtain ⟨sv, w2', hcv, hbs, hch⟩ := conv_back w1 r.t
         refine val_now (v := vPf r X (0) sv 2) (w' := w2') ?_ (hK sv w2' (fun j hj => ?_) ?_)
         · go_simp
           rfl
         · have n6 : L 6 = false := by
            cases h : L 6 with
            | false => rfl
            | true => have this : L 2 = true := hdn 6 _ rfl h ⟨2, .data⟩ (by simp) rfl; rw [hL] at this; cases this
           match j, hj with
           | 0, _ => rfl
           | 1, _ => rfl
           | 2, hj => rw [hL] at hj; cases hj
           | 3, _ => rfl
           | 4, _ => rfl
           | 5, _ => rfl
           | 6, hj => rw [n6] at hj; cases hj
           | 7, _ => rfl
           | 8, _ => rfl
           | _ + 9, _ => rfl
         · exact ⟨hW.chg.trans hch (D := []) (by simp), fun _ => hbs⟩
        | 3, ho =>
         injection ho with ho; subst ho
         have b18 : a.tmps.getD 18 undef = .int .i64 (0) := slB htm 18 (by kernel_rfl)
         clear htm
         refine val_now ?_ (hK γ w1 (fun _ _ => rfl) (hW.ext (by simp))); go_simp; rfl
        | 4, ho =>
         injection ho with ho; subst ho
         have b17 : a.tmps.getD 17 undef = .pointer (some ⟨X, 0, none⟩) := slB htm 17 (by kernel_rfl)
         clear htm
         refine val_now ?_ (hK γ w1 (fun _ _ => rfl) (hW.ext (by simp))); go_simp; rfl
        | 5, ho =>
         injection ho with ho; subst ho
         have s4 := slA htm 84 4 (by kernel_rfl) (hpre ⟨4, .data⟩ (by simp) rfl)
         simp only [vPf] at s4
         clear htm
         have c8 := (HX.chg hW.chg (by simp)).cell' (i := 8) rfl
         refine val_now ?_ (hK γ w1 (fun _ _ => rfl) (hW.ext (by simp))); go_simp; rfl
        | 6, ho =>
         injection ho with ho; subst ho
         have s2 := slA htm 82 2 (by kernel_rfl) (hpre ⟨2, .data⟩ (by simp) rfl)
         simp only [vPf] at s2
         clear htm
         refine val_now ?_ (hK γ w1 (fun _ _ => rfl) (hW.ext (by simp))); go_simp; rfl
        | 7, ho =>
         injection ho with ho; subst ho
         have s3 := slA htm 83 3 (by kernel_rfl) (hpre ⟨3, .data⟩ (by simp) rfl)
         simp only [vPf] at s3
         clear htm
         refine val_now ?_ (hK γ w1 (fun _ _ => rfl) (hW.ext (by simp))); go_simp; rfl
        | 8, ho =>
         injection ho with ho; subst ho
         have s5 := slA htm 85 5 (by kernel_rfl) (hpre ⟨5, .data⟩ (by simp) rfl)
         simp only [vPf] at s5
         clear htm
         refine val_now ?_ (hK γ w1 (fun _ _ => rfl) (hW.ext (by simp))); go_simp; rfl
        | _ + 9, ho => cases ho
       case fin =>
        intro γ w6 hW
        rw [finG_puts]
        have hs := hide (hW.ans rfl)
        have hch := hide hW.chg
        clear hW
        go_wp2_with fail
        refine bodyPost_ret (results_ttt rfl _ _ _) rfl ?_
        rw [putsR_at _ _ 8 (blt_iff.1 (by kernel_rfl)), putsR_at _ _ 9 (blt_iff.1 (by kernel_rfl)), putsR_at _ _ 10 (blt_iff.1 (by kernel_rfl))]
        have e : panR x a b c A B C = ⟨r.s, (oddP (0) a b c).1, (oddP (0) a b c).2.1, (oddP (0) a b c).2.2, r.t, 0, r.e⟩ := by unfold panR; rw [hR.out]
        rw [e]
        exact ⟨γ, rfl, hs.out, Blk.chg hP5.out hch.out (by simp), hC5.out.trans hch.out (by simp)⟩
     · go_upto_region 14 with (fail)
       have hb := hp2.out
       unfold Pan at hb
       have pc := hb.cell' (i := 8) rfl
       have pf := hb.frozen 8
       go_region_with (fail)
       clear pc pf
       have hc4 : Chg w2 (w2.setCell ⟨p, 8, none⟩ (.int .i64 (IntKind.i64.wrap (b + 1)))).drew [p] := ((Chg.refl w2 [p]).setCell ⟨p, 8, none⟩ (.int .i64 (IntKind.i64.wrap (b + 1))) (.inl (by simp))).drew
       have hp4 := hide (Blk.chg (hb.set_ 8 (.int .i64 (IntKind.i64.wrap (b + 1)))) ((Chg.refl _ []).drew) (by simp))
       have hX4 := hide (hX.out.chg hc4 (by have := hpX.out; simp; omega))
       have hC4 := hide ((hC2.out.more (D' := [p]) (by simp)).trans hc4 (fun k hk => .inl hk))
       generalize (w2.setCell ⟨p, 8, none⟩ (.int .i64 (IntKind.i64.wrap (b + 1)))).drew = w4 at *
       clear hc4 hb hp2 hX hC2
       have hb : Blk w4 p 82 [.int .i32 x.q.a.v, .int .i32 x.q.b.v, .int .i32 x.q.c.v, .int .i32 x.q.d.v, .int .i64 x.s, .int .i64 x.f, .int .i64 x.g, .int .i64 a, .int .i64 (IntKind.i64.wrap (b + 1)), .int .i64 c, .bool true] := hp4.out
       have p0 := hb.cell' (i := 0) rfl
       have pf0 := hb.frozen 0
       have x0 := hX4.out.cell' (i := 0) rfl
       have p1 := hb.cell' (i := 1) rfl
       have pf1 := hb.frozen 1
       have x1 := hX4.out.cell' (i := 1) rfl
       have p2 := hb.cell' (i := 2) rfl
       have pf2 := hb.frozen 2
       have x2 := hX4.out.cell' (i := 2) rfl
       have p3 := hb.cell' (i := 3) rfl
       have pf3 := hb.frozen 3
       have x3 := hX4.out.cell' (i := 3) rfl
       have p4 := hb.cell' (i := 4) rfl
       have pf4 := hb.frozen 4
       have x4 := hX4.out.cell' (i := 4) rfl
       have p5 := hb.cell' (i := 5) rfl
       have pf5 := hb.frozen 5
       have x5 := hX4.out.cell' (i := 5) rfl
       have p6 := hb.cell' (i := 6) rfl
       have pf6 := hb.frozen 6
       have x6 := hX4.out.cell' (i := 6) rfl
       clear hb
       go_upto_region 16 with (fail)
       clear p0 pf0 x0 p1 pf1 x1 p2 pf2 x2 p3 pf3 x3 p4 pf4 x4 p5 pf5 x5 p6 pf6 x6
       change Code.wp _ _ _ _ (put7 w4 p (.int .i32 r.s.q.a.v) (.int .i32 r.s.q.b.v) (.int .i32 r.s.q.c.v) (.int .i32 r.s.q.d.v) (.int .i64 r.s.s) (.int .i64 r.s.f) (.int .i64 r.s.g))
       have hc7 := put7_chg w4 p (.int .i32 r.s.q.a.v) (.int .i32 r.s.q.b.v) (.int .i32 r.s.q.c.v) (.int .i32 r.s.q.d.v) (.int .i64 r.s.s) (.int .i64 r.s.f) (.int .i64 r.s.g)
       have hP5 : Pan (put7 w4 p (.int .i32 r.s.q.a.v) (.int .i32 r.s.q.b.v) (.int .i32 r.s.q.c.v) (.int .i32 r.s.q.d.v) (.int .i64 r.s.s) (.int .i64 r.s.f) (.int .i64 r.s.g)) p r.s a (IntKind.i64.wrap (b + 1)) c := put7_more hp4.out (.int .i32 r.s.q.a.v) (.int .i32 r.s.q.b.v) (.int .i32 r.s.q.c.v) (.int .i32 r.s.q.d.v) (.int .i64 r.s.s) (.int .i64 r.s.f) (.int .i64 r.s.g)
       have hX5 := hide (hX4.out.chg hc7 (by have := hpX.out; simp; omega))
       have hC5 := hide (hC4.out.trans hc7 (fun k hk => .inl hk))
       generalize put7 w4 p (.int .i32 r.s.q.a.v) (.int .i32 r.s.q.b.v) (.int .i32 r.s.q.c.v) (.int .i32 r.s.q.d.v) (.int .i64 r.s.s) (.int .i64 r.s.f) (.int .i64 r.s.g) = w5 at *
       replace hP5 := hide hP5
       clear hc7 hp4 hX4 hC4
       refine wp_regionG hmix.out _ _ (vPf r X (1)) (WPf w5 r.t) undef (by kernel_rfl) (by kernel_rfl) (by kernel_rfl) ?step ?start ?fin ?ext
       case start => exact ⟨(Chg.refl w5 _).drew, (fun h => by cases h)⟩
       case ext => exact fun γ L L' w' h hw => hw.ext (by rw [h 2 (by decide)])
       case step =>
        have HX := hX5.out
        intro i o ho L a w1 γ hdn htm hW hL hpre K Q hK
        match i, ho with
        | 0, ho =>
         injection ho with ho; subst ho
         have b17 : a.tmps.getD 17 undef = .pointer (some ⟨X, 0, none⟩) := slB htm 17 (by kernel_rfl)
         clear htm
         refine val_now ?_ (hK γ w1 (fun _ _ => rfl) (hW.ext (by simp))); go_simp; rfl
        | 1, ho =>
         injection ho with ho; subst ho
         have s0 := slA htm 80 0 (by kernel_rfl) (hpre ⟨0, .data⟩ (by simp) rfl)
         simp only [vPf] at s0
         clear htm
         have c7 := (HX.chg hW.chg (by simp)).cell' (i := 7) rfl
         refine val_now ?_ (hK γ w1 (fun _ _ => rfl) (hW.ext (by simp))); go_simp; rfl
        | 2, ho =>
         injection ho with ho; subst ho
         have s1 := slA htm 81 1 (by kernel_rfl) (hpre ⟨1, .data⟩ (by simp) rfl)
         simp only [vPf] at s1
         clear htm
         obtain ⟨sv, w2', hcv, hbs, hch⟩ := conv_back w1 r.t
         refine val_now (v := vPf r X (1) sv 2) (w' := w2') ?_ (hK sv w2' (fun j hj => ?_) ?_)
         · go_simp
           rfl
         · have n6 : L 6 = false := by
            cases h : L 6 with
            | false => rfl
            | true => have this : L 2 = true := hdn 6 _ rfl h ⟨2, .data⟩ (by simp) rfl; rw [hL] at this; cases this
           match j, hj with
           | 0, _ => rfl
           | 1, _ => rfl
           | 2, hj => rw [hL] at hj; cases hj
           | 3, _ => rfl
           | 4, _ => rfl
           | 5, _ => rfl
           | 6, hj => rw [n6] at hj; cases hj
           | 7, _ => rfl
           | 8, _ => rfl
           | _ + 9, _ => rfl
         · exact ⟨hW.chg.trans hch (D := []) (by simp), fun _ => hbs⟩
        | 3, ho =>
         injection ho with ho; subst ho
         have b18 : a.tmps.getD 18 undef = .int .i64 (1) := slB htm 18 (by kernel_rfl)
         clear htm
         refine val_now ?_ (hK γ w1 (fun _ _ => rfl) (hW.ext (by simp))); go_simp; rfl
        | 4, ho =>
         injection ho with ho; subst ho
         have b17 : a.tmps.getD 17 undef = .pointer (some ⟨X, 0, none⟩) := slB htm 17 (by kernel_rfl)
         clear htm
         refine val_now ?_ (hK γ w1 (fun _ _ => rfl) (hW.ext (by simp))); go_simp; rfl
        | 5, ho =>
         injection ho with ho; subst ho
         have s4 := slA htm 84 4 (by kernel_rfl) (hpre ⟨4, .data⟩ (by simp) rfl)
         simp only [vPf] at s4
         clear htm
         have c8 := (HX.chg hW.chg (by simp)).cell' (i := 8) rfl
         refine val_now ?_ (hK γ w1 (fun _ _ => rfl) (hW.ext (by simp))); go_simp; rfl
        | 6, ho =>
         injection ho with ho; subst ho
         have s2 := slA htm 82 2 (by kernel_rfl) (hpre ⟨2, .data⟩ (by simp) rfl)
         simp only [vPf] at s2
         clear htm
         refine val_now ?_ (hK γ w1 (fun _ _ => rfl) (hW.ext (by simp))); go_simp; rfl
        | 7, ho =>
         injection ho with ho; subst ho
         have s3 := slA htm 83 3 (by kernel_rfl) (hpre ⟨3, .data⟩ (by simp) rfl)
         simp only [vPf] at s3
         clear htm
         refine val_now ?_ (hK γ w1 (fun _ _ => rfl) (hW.ext (by simp))); go_simp; rfl
        | 8, ho =>
         injection ho with ho; subst ho
         have s5 := slA htm 85 5 (by kernel_rfl) (hpre ⟨5, .data⟩ (by simp) rfl)
         simp only [vPf] at s5
         clear htm
         refine val_now ?_ (hK γ w1 (fun _ _ => rfl) (hW.ext (by simp))); go_simp; rfl
        | _ + 9, ho => cases ho
       case fin =>
        intro γ w6 hW
        rw [finG_puts]
        have hs := hide (hW.ans rfl)
        have hch := hide hW.chg
        clear hW
        go_wp2_with fail
        refine bodyPost_ret (results_ttt rfl _ _ _) rfl ?_
        rw [putsR_at _ _ 8 (blt_iff.1 (by kernel_rfl)), putsR_at _ _ 9 (blt_iff.1 (by kernel_rfl)), putsR_at _ _ 10 (blt_iff.1 (by kernel_rfl))]
        have e : panR x a b c A B C = ⟨r.s, (oddP (1) a b c).1, (oddP (1) a b c).2.1, (oddP (1) a b c).2.2, r.t, 1, r.e⟩ := by unfold panR; rw [hR.out]
        rw [e]
        exact ⟨γ, rfl, hs.out, Blk.chg hP5.out hch.out (by simp), hC5.out.trans hch.out (by simp)⟩
     · go_upto_region 14 with (fail)
       have hb := hp2.out
       unfold Pan at hb
       have pc := hb.cell' (i := 9) rfl
       have pf := hb.frozen 9
       go_region_with (fail)
       clear pc pf
       have hc4 : Chg w2 (w2.setCell ⟨p, 9, none⟩ (.int .i64 (IntKind.i64.wrap (c + 1)))).drew [p] := ((Chg.refl w2 [p]).setCell ⟨p, 9, none⟩ (.int .i64 (IntKind.i64.wrap (c + 1))) (.inl (by simp))).drew
       have hp4 := hide (Blk.chg (hb.set_ 9 (.int .i64 (IntKind.i64.wrap (c + 1)))) ((Chg.refl _ []).drew) (by simp))
       have hX4 := hide (hX.out.chg hc4 (by have := hpX.out; simp; omega))
       have hC4 := hide ((hC2.out.more (D' := [p]) (by simp)).trans hc4 (fun k hk => .inl hk))
       generalize (w2.setCell ⟨p, 9, none⟩ (.int .i64 (IntKind.i64.wrap (c + 1)))).drew = w4 at *
       clear hc4 hb hp2 hX hC2
       have hb : Blk w4 p 82 [.int .i32 x.q.a.v, .int .i32 x.q.b.v, .int .i32 x.q.c.v, .int .i32 x.q.d.v, .int .i64 x.s, .int .i64 x.f, .int .i64 x.g, .int .i64 a, .int .i64 b, .int .i64 (IntKind.i64.wrap (c + 1)), .bool true] := hp4.out
       have p0 := hb.cell' (i := 0) rfl
       have pf0 := hb.frozen 0
       have x0 := hX4.out.cell' (i := 0) rfl
       have p1 := hb.cell' (i := 1) rfl
       have pf1 := hb.frozen 1
       have x1 := hX4.out.cell' (i := 1) rfl
       have p2 := hb.cell' (i := 2) rfl
       have pf2 := hb.frozen 2
       have x2 := hX4.out.cell' (i := 2) rfl
       have p3 := hb.cell' (i := 3) rfl
       have pf3 := hb.frozen 3
       have x3 := hX4.out.cell' (i := 3) rfl
       have p4 := hb.cell' (i := 4) rfl
       have pf4 := hb.frozen 4
       have x4 := hX4.out.cell' (i := 4) rfl
       have p5 := hb.cell' (i := 5) rfl
       have pf5 := hb.frozen 5
       have x5 := hX4.out.cell' (i := 5) rfl
       have p6 := hb.cell' (i := 6) rfl
       have pf6 := hb.frozen 6
       have x6 := hX4.out.cell' (i := 6) rfl
       clear hb
       go_upto_region 16 with (fail)
       clear p0 pf0 x0 p1 pf1 x1 p2 pf2 x2 p3 pf3 x3 p4 pf4 x4 p5 pf5 x5 p6 pf6 x6
       change Code.wp _ _ _ _ (put7 w4 p (.int .i32 r.s.q.a.v) (.int .i32 r.s.q.b.v) (.int .i32 r.s.q.c.v) (.int .i32 r.s.q.d.v) (.int .i64 r.s.s) (.int .i64 r.s.f) (.int .i64 r.s.g))
       have hc7 := put7_chg w4 p (.int .i32 r.s.q.a.v) (.int .i32 r.s.q.b.v) (.int .i32 r.s.q.c.v) (.int .i32 r.s.q.d.v) (.int .i64 r.s.s) (.int .i64 r.s.f) (.int .i64 r.s.g)
       have hP5 : Pan (put7 w4 p (.int .i32 r.s.q.a.v) (.int .i32 r.s.q.b.v) (.int .i32 r.s.q.c.v) (.int .i32 r.s.q.d.v) (.int .i64 r.s.s) (.int .i64 r.s.f) (.int .i64 r.s.g)) p r.s a b (IntKind.i64.wrap (c + 1)) := put7_more hp4.out (.int .i32 r.s.q.a.v) (.int .i32 r.s.q.b.v) (.int .i32 r.s.q.c.v) (.int .i32 r.s.q.d.v) (.int .i64 r.s.s) (.int .i64 r.s.f) (.int .i64 r.s.g)
       have hX5 := hide (hX4.out.chg hc7 (by have := hpX.out; simp; omega))
       have hC5 := hide (hC4.out.trans hc7 (fun k hk => .inl hk))
       generalize put7 w4 p (.int .i32 r.s.q.a.v) (.int .i32 r.s.q.b.v) (.int .i32 r.s.q.c.v) (.int .i32 r.s.q.d.v) (.int .i64 r.s.s) (.int .i64 r.s.f) (.int .i64 r.s.g) = w5 at *
       replace hP5 := hide hP5
       clear hc7 hp4 hX4 hC4
       refine wp_regionG hmix.out _ _ (vPf r X (2)) (WPf w5 r.t) undef (by kernel_rfl) (by kernel_rfl) (by kernel_rfl) ?step ?start ?fin ?ext
       case start => exact ⟨(Chg.refl w5 _).drew, (fun h => by cases h)⟩
       case ext => exact fun γ L L' w' h hw => hw.ext (by rw [h 2 (by decide)])
       case step =>
        have HX := hX5.out
        intro i o ho L a w1 γ hdn htm hW hL hpre K Q hK
        match i, ho with
        | 0, ho =>
         injection ho with ho; subst ho
         have b17 : a.tmps.getD 17 undef = .pointer (some ⟨X, 0, none⟩) := slB htm 17 (by kernel_rfl)
         clear htm
         refine val_now ?_ (hK γ w1 (fun _ _ => rfl) (hW.ext (by simp))); go_simp; rfl
        | 1, ho =>
         injection ho with ho; subst ho
         have s0 := slA htm 80 0 (by kernel_rfl) (hpre ⟨0, .data⟩ (by simp) rfl)
         simp only [vPf] at s0
         clear htm
         have c7 := (HX.chg hW.chg (by simp)).cell' (i := 7) rfl
         refine val_now ?_ (hK γ w1 (fun _ _ => rfl) (hW.ext (by simp))); go_simp; rfl
        | 2, ho =>
         injection ho with ho; subst ho
         have s1 := slA htm 81 1 (by kernel_rfl) (hpre ⟨1, .data⟩ (by simp) rfl)
         simp only [vPf] at s1
         clear htm
         obtain ⟨sv, w2', hcv, hbs, hch⟩ := conv_back w1 r.t
         refine val_now (v := vPf r X (2) sv 2) (w' := w2') ?_ (hK sv w2' (fun j hj => ?_) ?_)
         · go_simp
           rfl
         · have n6 : L 6 = false := by
            cases h : L 6 with
            | false => rfl
            | true => have this : L 2 = true := hdn 6 _ rfl h ⟨2, .data⟩ (by simp) rfl; rw [hL] at this; cases this
           match j, hj with
           | 0, _ => rfl
           | 1, _ => rfl
           | 2, hj => rw [hL] at hj; cases hj
           | 3, _ => rfl
           | 4, _ => rfl
           | 5, _ => rfl
           | 6, hj => rw [n6] at hj; cases hj
           | 7, _ => rfl
           | 8, _ => rfl
           | _ + 9, _ => rfl
         · exact ⟨hW.chg.trans hch (D := []) (by simp), fun _ => hbs⟩
        | 3, ho =>
         injection ho with ho; subst ho
         have b18 : a.tmps.getD 18 undef = .int .i64 (2) := slB htm 18 (by kernel_rfl)
         clear htm
         refine val_now ?_ (hK γ w1 (fun _ _ => rfl) (hW.ext (by simp))); go_simp; rfl
        | 4, ho =>
         injection ho with ho; subst ho
         have b17 : a.tmps.getD 17 undef = .pointer (some ⟨X, 0, none⟩) := slB htm 17 (by kernel_rfl)
         clear htm
         refine val_now ?_ (hK γ w1 (fun _ _ => rfl) (hW.ext (by simp))); go_simp; rfl
        | 5, ho =>
         injection ho with ho; subst ho
         have s4 := slA htm 84 4 (by kernel_rfl) (hpre ⟨4, .data⟩ (by simp) rfl)
         simp only [vPf] at s4
         clear htm
         have c8 := (HX.chg hW.chg (by simp)).cell' (i := 8) rfl
         refine val_now ?_ (hK γ w1 (fun _ _ => rfl) (hW.ext (by simp))); go_simp; rfl
        | 6, ho =>
         injection ho with ho; subst ho
         have s2 := slA htm 82 2 (by kernel_rfl) (hpre ⟨2, .data⟩ (by simp) rfl)
         simp only [vPf] at s2
         clear htm
         refine val_now ?_ (hK γ w1 (fun _ _ => rfl) (hW.ext (by simp))); go_simp; rfl
        | 7, ho =>
         injection ho with ho; subst ho
         have s3 := slA htm 83 3 (by kernel_rfl) (hpre ⟨3, .data⟩ (by simp) rfl)
         simp only [vPf] at s3
         clear htm
         refine val_now ?_ (hK γ w1 (fun _ _ => rfl) (hW.ext (by simp))); go_simp; rfl
        | 8, ho =>
         injection ho with ho; subst ho
         have s5 := slA htm 85 5 (by kernel_rfl) (hpre ⟨5, .data⟩ (by simp) rfl)
         simp only [vPf] at s5
         clear htm
         refine val_now ?_ (hK γ w1 (fun _ _ => rfl) (hW.ext (by simp))); go_simp; rfl
        | _ + 9, ho => cases ho
       case fin =>
        intro γ w6 hW
        rw [finG_puts]
        have hs := hide (hW.ans rfl)
        have hch := hide hW.chg
        clear hW
        go_wp2_with fail
        refine bodyPost_ret (results_ttt rfl _ _ _) rfl ?_
        rw [putsR_at _ _ 8 (blt_iff.1 (by kernel_rfl)), putsR_at _ _ 9 (blt_iff.1 (by kernel_rfl)), putsR_at _ _ 10 (blt_iff.1 (by kernel_rfl))]
        have e : panR x a b c A B C = ⟨r.s, (oddP (2) a b c).1, (oddP (2) a b c).2.1, (oddP (2) a b c).2.2, r.t, 2, r.e⟩ := by unfold panR; rw [hR.out]
        rw [e]
        exact ⟨γ, rfl, hs.out, Blk.chg hP5.out hch.out (by simp), hC5.out.trans hch.out (by simp)⟩
end Go.Proofs.YtihgijhjhmjolaaGreatDoor.Xi
