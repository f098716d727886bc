/- BuildLoops: the law's walk. -/
import Derived.Test.YtjfnpokebaagmaaGreatDoorLoopF
import Derived.Test.YtjfnpokebaagmaaGreatDoorCoreK
import Derived.Test.YtjfnpokebaagmaaGreatDoorAwkB
namespace Go.Proofs.YtjfnpokebaagmaaGreatDoor
open Go Go.RowKit Go.Deep Go.Maps Go.Proofs.YtjfnpokebaagmaaGreatDoor.Xi
set_option linter.unusedVariables false
attribute [local go_sem] Oper.semAt_some
theorem set_chk {d n : Int} (h : regB d = true) (h1 : -2147483648 ≤ n) (h2 : n ≤ 2147483647) : ∀ i ∈ setCode d n, chkI i = 0 := by
 intro i hi
 unfold setCode at hi
 split at hi
 · simp at hi; subst hi; show chk 31 d 0 0 n = 0; exact chk_addi h (by decide) (by omega) (by omega)
 · simp at hi
   rcases hi with rfl | rfl
   · show chk 33 d 0 0 (n % 4294967296 / 65536) = 0; exact chk_lui h (by omega) (by omega)
   · show chk 32 d d 0 (n % 65536) = 0; exact chk_ori h h (by omega) (by omega)
theorem loops_chk {p : Nat} {x y : Int} (hp : p ≤ 100) (hx : 0 ≤ x ∧ x ≤ 30) (hy : 0 ≤ y ∧ y ≤ 30) : ∀ i ∈ loopsCode p x y, chkI i = 0 := by
 intro i hi
 simp only [loopsCode, List.mem_cons, List.not_mem_nil, or_false] at hi
 rcases hi with rfl | rfl | rfl | rfl | rfl | rfl | rfl | rfl | rfl | rfl | rfl | rfl <;> (show chk _ _ _ _ _ = 0; rw [chk_iff]; unfold Fits regOk; first | (simp; done) | (simp; omega))
theorem holds_ok {l l2 : List Ins5} : Holds (okRows (l ++ l2)) 0 l ∧ Holds (okRows (l ++ l2)) l.length l2 := by
 refine ⟨fun k i hi => ?_, fun k i hi => ?_⟩
 · have : k < l.length := (List.getElem?_eq_some_iff.1 hi).1
   simp only [okRows, List.map_append, Nat.zero_add]
   rw [List.getElem?_append_left (by simpa using this), List.getElem?_map, hi]
   rfl
 · simp only [okRows, List.map_append]
   rw [List.getElem?_append_right (by simp)]
   simp [hi]
theorem tri_two : ∀ n : Nat, ((n + 1 : Nat) : Int) * (n : Int) = 2 * tri (n + 1)
 | 0 => rfl
 | n + 1 => by
  rw [tri_succ]
  have := tri_two n
  have e : ((n + 1 + 1 : Nat) : Int) * ((n + 1 : Nat) : Int) = ((n + 1 : Nat) : Int) * (n : Int) + 2 * ((n + 1 : Nat) : Int) := by
   push_cast
   grind
  omega
def vL13 (c : Nat) (k xi yi r6 r7 r8 p2 p3 : Int) : Nat → Value
 | 0 => .pointer (some ⟨c, 0, none⟩)
 | 1 => .int .i64 (1)
 | 2 => .bool true
 | 3 => .bool true
 | 4 => .pointer (some ⟨c, 0, none⟩)
 | 5 => .int .i32 (k)
 | 6 => .int .i32 (k)
 | 7 => .bool true
 | 8 => .bool true
 | 9 => .bool true
 | 10 => .pointer (some ⟨c, 0, none⟩)
 | 11 => .int .i32 (r6)
 | 12 => .int .i64 (r6)
 | 13 => .int .i64 (xi)
 | 14 => .int .i64 (yi)
 | 15 => .int .i64 (r6)
 | 16 => .bool true
 | 17 => .bool true
 | 18 => .bool true
 | 19 => .pointer (some ⟨c, 0, none⟩)
 | 20 => .int .i32 (r7)
 | 21 => .int .i64 (r7)
 | 22 => .int .i64 (yi)
 | 23 => .int .i64 (xi)
 | 24 => .int .i64 (r6)
 | 25 => .int .i64 (xi)
 | 26 => .int .i64 (xi - 1)
 | 27 => .int .i64 (p2)
 | 28 => .int .i64 (r7)
 | 29 => .bool true
 | 30 => .bool true
 | 31 => .bool true
 | 32 => .pointer (some ⟨c, 0, none⟩)
 | 33 => .int .i32 (r8)
 | 34 => .int .i64 (r8)
 | 35 => .int .i64 (xi)
 | 36 => .int .i64 (yi)
 | 37 => .int .i64 (r6)
 | 38 => .int .i64 (yi)
 | 39 => .int .i64 (yi - 1)
 | 40 => .int .i64 (p3)
 | 41 => .int .i64 (r8)
 | 42 => .bool true
 | 43 => .bool true
 | 44 => .bool true
 | 45 => .bool true
 | 46 => .bool true
 | 47 => .bool true
 | _ => undef
theorem putsL13 (v : Nat → Value) (t0 t1 t2 t3 t4 t5 t6 t7 t8 t9 t10 t11 t12 t13 t14 t15 t16 t17 t18 t19 t20 t21 t22 t23 t24 t25 t26 t27 t28 t29 t30 t31 t32 t33 t34 t35 t36 t37 t38 t39 t40 t41 t42 t43 t44 t45 t46 t47 t48 t49 t50 t51 t52 t53 t54 t55 t56 t57 t58 t59 t60 t61 t62 t63 t64 t65 t66 t67 t68 t69 t70 t71 t72 t73 t74 t75 t76 t77 t78 t79 t80 t81 t82 t83 t84 t85 t86 t87 t88 t89 t90 t91 t92 t93 t94 t95 t96 t97 t98 t99 t100 t101 t102 t103 t104 t105 : Value) : putsD v (some 59 :: some 60 :: some 61 :: some 62 :: some 63 :: some 64 :: some 65 :: some 66 :: some 67 :: some 68 :: some 69 :: some 70 :: some 71 :: some 72 :: some 73 :: some 74 :: some 75 :: some 76 :: some 77 :: some 78 :: some 79 :: some 80 :: some 81 :: some 82 :: some 83 :: some 84 :: some 85 :: some 86 :: some 87 :: some 88 :: some 89 :: some 90 :: some 91 :: some 92 :: some 93 :: some 94 :: some 95 :: some 96 :: some 97 :: some 98 :: some 99 :: some 100 :: some 101 :: some 102 :: some 103 :: some 104 :: some 105 :: some 6 :: []) 0 (t0 :: t1 :: t2 :: t3 :: t4 :: t5 :: t6 :: t7 :: t8 :: t9 :: t10 :: t11 :: t12 :: t13 :: t14 :: t15 :: t16 :: t17 :: t18 :: t19 :: t20 :: t21 :: t22 :: t23 :: t24 :: t25 :: t26 :: t27 :: t28 :: t29 :: t30 :: t31 :: t32 :: t33 :: t34 :: t35 :: t36 :: t37 :: t38 :: t39 :: t40 :: t41 :: t42 :: t43 :: t44 :: t45 :: t46 :: t47 :: t48 :: t49 :: t50 :: t51 :: t52 :: t53 :: t54 :: t55 :: t56 :: t57 :: t58 :: t59 :: t60 :: t61 :: t62 :: t63 :: t64 :: t65 :: t66 :: t67 :: t68 :: t69 :: t70 :: t71 :: t72 :: t73 :: t74 :: t75 :: t76 :: t77 :: t78 :: t79 :: t80 :: t81 :: t82 :: t83 :: t84 :: t85 :: t86 :: t87 :: t88 :: t89 :: t90 :: t91 :: t92 :: t93 :: t94 :: t95 :: t96 :: t97 :: t98 :: t99 :: t100 :: t101 :: t102 :: t103 :: t104 :: t105 :: []) = (t0 :: t1 :: t2 :: t3 :: t4 :: t5 :: v 47 :: t7 :: t8 :: t9 :: t10 :: t11 :: t12 :: t13 :: t14 :: t15 :: t16 :: t17 :: t18 :: t19 :: t20 :: t21 :: t22 :: t23 :: t24 :: t25 :: t26 :: t27 :: t28 :: t29 :: t30 :: t31 :: t32 :: t33 :: t34 :: t35 :: t36 :: t37 :: t38 :: t39 :: t40 :: t41 :: t42 :: t43 :: t44 :: t45 :: t46 :: t47 :: t48 :: t49 :: t50 :: t51 :: t52 :: t53 :: t54 :: t55 :: t56 :: t57 :: t58 :: v 0 :: v 1 :: v 2 :: v 3 :: v 4 :: v 5 :: v 6 :: v 7 :: v 8 :: v 9 :: v 10 :: v 11 :: v 12 :: v 13 :: v 14 :: v 15 :: v 16 :: v 17 :: v 18 :: v 19 :: v 20 :: v 21 :: v 22 :: v 23 :: v 24 :: v 25 :: v 26 :: v 27 :: v 28 :: v 29 :: v 30 :: v 31 :: v 32 :: v 33 :: v 34 :: v 35 :: v 36 :: v 37 :: v 38 :: v 39 :: v 40 :: v 41 :: v 42 :: v 43 :: v 44 :: v 45 :: v 46 :: []) := by kernel_rfl
set_option maxRecDepth 100000 in
set_option maxHeartbeats 4000000 in
theorem buildLoops_calls (n m k : Int) (W : World) (hn0 : 0 ≤ n) (hn1 : n ≤ 255) (hm0 : 0 ≤ m) (hm1 : m ≤ 255) (hk0 : -2147483648 ≤ k) (hk1 : k ≤ 2147483647) (hE : ErT W) (hct : CTab W) (hgl : 1 < W.heap.size) :
 Calls Tryz.prog 4 #[.int .u8 n, .int .u8 m, .int .i32 k] W fun e w' => e = .returned (.bool true) ∧ Chg W w' [] := by
 have HE := hide hE
 have HCT := hide hct
 have HGL := hide hgl
 have hmix : Tryz.prog.follows .mixedOrders = true := by kernel_rfl
 replace hmix := hide hmix
 have heg : 0 < W.heap.size := World.block_lt_of_cell? _ _ hE
 have HEG := hide heg
 have hnew := new_calls W
 obtain ⟨x, tx⟩ : ∃ x : Nat, n.tmod 30 = (x : Int) := ⟨(n.tmod 30).toNat, by rw [Int.tmod_eq_emod_of_nonneg hn0]; omega⟩
 obtain ⟨y, ty⟩ : ∃ y : Nat, m.tmod 30 = (y : Int) := ⟨(m.tmod 30).toNat, by rw [Int.tmod_eq_emod_of_nonneg hm0]; omega⟩
 have hxb : x ≤ 29 := by rw [Int.tmod_eq_emod_of_nonneg hn0] at tx; omega
 have hyb : y ≤ 29 := by rw [Int.tmod_eq_emod_of_nonneg hm0] at ty; omega
 clear hE hct hgl heg
 go_enter Tryz.func4, Tryz.ntmps4
 go_wp2_with fail
 go_at_call 6
 refine hnew.mono ?_
 rintro e w1 ⟨b, F, rfl, hc1, hp1, hF⟩
 have hc12 : Chg w1 ((w1.alloc (.cells #[.pointer (some ⟨b, 0, none⟩)] 29)).alloc (.cells #[.int .i64 (1 + (y : Int))] 3)) [] := ((Chg.refl w1 []).alloc _).alloc _
 have hk7 : Held ((w1.alloc (.cells #[.pointer (some ⟨b, 0, none⟩)] 29)).alloc (.cells #[.int .i64 (1 + (y : Int))] 3)) b w1.heap.size := (Blk.new w1 29 [.pointer (some ⟨b, 0, none⟩)]).alloc _
 have hk9 : Blk ((w1.alloc (.cells #[.pointer (some ⟨b, 0, none⟩)] 29)).alloc (.cells #[.int .i64 (1 + (y : Int))] 3)) (w1.heap.size + 1) 3 [.int .i64 (1 + (y : Int))] := by
  have h := Blk.new (w1.alloc (.cells #[.pointer (some ⟨b, 0, none⟩)] 29)) 3 [.int .i64 (1 + (y : Int))]
  rw [size_alloc] at h
  exact h
 have hp2 := hp1.chg hc12 (by simp)
 have hn7 : w1.heap.size ∉ F := fun hm => by have := hp1.lt _ hm; omega
 have hn9 : w1.heap.size + 1 ∉ F := fun hm => by have := hp1.lt _ hm; omega
 have hc02 := hc1.trans hc12 (by simp)
 have hF2 := hF
 clear hnew hp1 hc1 hF
 go_upto_region 5 with (fail)
 generalize ((w1.alloc (.cells #[.pointer (some ⟨b, 0, none⟩)] 29)).alloc (.cells #[.int .i64 (1 + (y : Int))] 3)) = w2 at *
 generalize w1.heap.size + 1 = k9 at *
 generalize w1.heap.size = k7 at *
 have c7 := hk7.cell' (i := 0) rfl
 have hset := set_calls hp2 5 k (by simp) hk0 hk1
 have hse : setM ⟨[], [], []⟩ 5 k = (0, ⟨setCode 5 k, [], []⟩) := by unfold setM; rw [if_neg (by decide)]; simp
 rw [hse] at hset
 have HC2 := hide hc02
 have HF := hide hF2
 have HN7 := hide hn7
 have HN9 := hide hn9
 have HK7 := hide hk7
 have HK9 := hide hk9
 clear hc02 hF2 hp2 hc12 hn7 hn9 hk7 hk9 hse
 go_wp2_with fail
 go_at_call 12
 refine hset.mono ?_
 rintro e w3 ⟨rfl, hc3, F3, hs3, hp3⟩
 obtain ⟨B1, B2, q1, q2, q3, qa, qb, qc, qd⟩ := calls_L k (1 + (x : Int)) (1 + (y : Int)) (by omega) (by omega) (by omega) (by omega)
 have hk7 := HK7.out.chg hc3 HN7.out
 have hk9 := HK9.out.chg hc3 HN9.out
 have n7 := far_of hs3 HN7.out HK7.out.lt
 have n9 := far_of hs3 HN9.out HK9.out.lt
 have c7b := hk7.cell' (i := 0) rfl
 have hlen := setCode_len 5 k
 have hlo := loop_calls hp3 1 2 (1 + (x : Int)) nOuter 14 #[.pointer (some ⟨k7, 0, none⟩), .pointer (some ⟨k9, 0, none⟩)] _ (by decide) (by simp only []; omega) (by simp) (run_outer _) (outer_do (b := b) hk7 n7 hk9 n9 q1 q2 qa qb (by omega) (by omega))
 have HC3 := hide (HC2.out.trans hc3 (fun k hk => .inr (HF.out k hk)))
 have HS3 : Hid (∀ k ∈ F3, W.heap.size ≤ k) := hide (fun k hk => by
  rcases hs3 k hk with h | h
  · exact HF.out k h
  · have := HC2.out.size; omega)
 have HK73 := hide hk7
 have HK93 := hide hk9
 have HN73 := hide n7
 have HN93 := hide n9
 have Q1 := hide q1
 have Q3 := hide q3
 have HLEN := hide hlen
 clear hc3 hs3 hp3 hset hk7 hk9 n7 n9 q1 q2 q3 qa qb qc qd c7 HK7 HK9 HN7 HN9 HC2 HF hlen
 unfold strV nOuter at hlo
 go_wp2_with fail
 go_at_call 13
 refine hlo.mono ?_
 intro e w4 hL
 have h1 := hL.1
 change (openM ⟨setCode 5 k, [], []⟩ 1 2 (1 + (x : Int)) nOuter).1 = 0 → _ at h1
 rw [Q1.out] at h1
 obtain ⟨w5, bm2, F5, ⟨rfl, hc5, hs5⟩, rfl, hc4, F4, hs4, hp4⟩ := h1 rfl
 change PB w4 b (closeM _ 1 2 nOuter) F4 at hp4
 have hse : Hid (∀ M : BM, M = closeM (closeM { B2 with code := B2.code ++ inner3 } 3 4 nInner) 1 2 nOuter → M = { bmL (setCode 5 k) (1 + (x : Int)) (1 + (y : Int)) with code := (bmL (setCode 5 k) (1 + (x : Int)) (1 + (y : Int))).code.dropLast }) := hide (fun M e => by rw [e]; exact Q3.out)
 rw [hse.out _ rfl] at hp4
 have hc34 := hs5.chg hc5 hc4
 have hs34 := hs5.trans hs4 hc5.size
 have hk7 := HK73.out.chg hc34 HN73.out
 have hk9 := HK93.out.chg hc34 HN93.out
 have n7 := far_of hs34 HN73.out HK73.out.lt
 have n9 := far_of hs34 HN93.out HK93.out.lt
 have c7c := hk7.cell' (i := 0) rfl
 have hln : (bmL (setCode 5 k) (1 + (x : Int)) (1 + (y : Int))).code.length ≤ 900 := by have := HLEN.out; simp only [bmL, rawCode, List.length_append, List.length_cons, List.length_nil]; omega
 have hins := On.ins hp4 ⟨43, 0, 0, 0, 0⟩ (by simp only [List.length_dropLast]; omega) (by decide)
 have hde : ({ bmL (setCode 5 k) (1 + (x : Int)) (1 + (y : Int)) with code := (bmL (setCode 5 k) (1 + (x : Int)) (1 + (y : Int))).code.dropLast ++ [⟨43, 0, 0, 0, 0⟩] } : BM) = bmL (setCode 5 k) (1 + (x : Int)) (1 + (y : Int)) := by
  unfold bmL rawCode
  simp [List.dropLast_append_of_ne_nil]
 change Calls Tryz.prog 16 _ _ (fun e w' => _ ∧ On b { bmL (setCode 5 k) (1 + (x : Int)) (1 + (y : Int)) with code := (bmL (setCode 5 k) (1 + (x : Int)) (1 + (y : Int))).code.dropLast ++ [⟨43, 0, 0, 0, 0⟩] } _ _ _) at hins
 rw [hde] at hins
 have HC4 := hide (HC3.out.trans hc34 (fun k hk => .inr (HS3.out k hk)))
 have HS4 : Hid (∀ k ∈ F4, W.heap.size ≤ k) := hide (fun k hk => by
  rcases hs34 k hk with h | h
  · exact HS3.out k h
  · have := HC3.out.size; omega)
 have HK74 := hide hk7
 have HK94 := hide hk9
 have HN74 := hide n7
 have HN94 := hide n9
 clear hL h1 hlo hse hp4 hc34 hs34 hk7 hk9 n7 n9 hde hln hc5 hs5 hc4 hs4 c7b Q1 Q3 HC3 HS3 HK73 HK93 HN73 HN93
 unfold insVal at hins
 go_wp2_with fail
 go_at_call 16
 refine hins.mono ?_
 rintro e w6 ⟨rfl, hc6, F6, hs6, hp6⟩
 have hk7 := HK74.out.chg hc6 HN74.out
 have hk9 := HK94.out.chg hc6 HN94.out
 have c7d := hk7.cell' (i := 0) rfl
 have hc06 := HC4.out.trans hc6 (fun k hk => .inr (HS4.out k hk))
 have hE6 := HE.out.chg hc06 (by simp)
 have hfin := finish_calls hp6 (Fine_bmL _ HLEN.out _ _) (by have := HLEN.out; simp only [bmL, rawCode, List.length_append, List.length_cons, List.length_nil]; omega) (by simp [bmL]) hE6
 rw [fin_loops _ HLEN.out] at hfin
 have HC6 := hide hc06
 have HE6 := hide hE6
 have HK9 := hide hk9
 clear hc6 hs6 hp6 hc06 hE6 hk7 hk9 hins c7c HC4 HS4 HK74 HK94 HN74 HN94
 unfold FinP strV at hfin
 go_wp2_with fail
 go_at_call 8
 refine hfin.mono ?_
 rintro e w7 ⟨hc7, v, rfl, hsl⟩
 obtain ⟨p, s, hp5, hpath, hst, g5, g6, g7, g8⟩ := loops_run (code := okRows (setCode 5 k ++ loopsCode (setCode 5 k).length ((x + 1 : Nat) : Int) ((y + 1 : Nat) : Int))) k (x + 1) (y + 1) hk0 hk1 (by omega) (by omega) (by omega) (by omega) holds_ok.1 holds_ok.2
 have ex : (1 + (x : Int)) = ((x + 1 : Nat) : Int) := by omega
 have ey : (1 + (y : Int)) = ((y + 1 : Nat) : Int) := by omega
 rw [ex, ey] at hsl
 obtain ⟨is, his⟩ : ∃ is, is = setCode 5 k ++ loopsCode (setCode 5 k).length ((x + 1 : Nat) : Int) ((y + 1 : Nat) : Int) := ⟨_, rfl⟩
 have hisl : is.length ≤ 20 := by have := HLEN.out; rw [his]; simp only [loopsCode, List.length_append, List.length_cons, List.length_nil]; omega
 have hik : ∀ i ∈ is, chkI i = 0 := by
  intro i hi
  rw [his] at hi
  rcases List.mem_append.1 hi with h | h
  · exact set_chk (by decide) hk0 hk1 i h
  · exact loops_chk (by have := HLEN.out; omega) (by omega) (by omega) i h
 rw [← his] at hsl hpath
 obtain ⟨A, cp, rfl, _⟩ := id hsl
 have hul : (u32s (is.map encI)).length = is.length := by simp [u32s]
 rw [hul] at hsl
 have hcn := cnew_calls A cp is hsl hik (by omega) none 0 [] (by decide) ⟨none, 0, rfl, Nat.le_refl _, fun h => absurd h (by decide)⟩
 obtain ⟨it, i0, iN, ist⟩ := hpath.it
 have HIT := hide i0
 have HIN := hide iN
 have HIS := hide ist
 have HST := hide hst
 have HG := hide (And.intro g5 (And.intro g6 (And.intro g7 g8)))
 have HC7 := hide (HC6.out.trans hc7 (by simp))
 have hk9 := HK9.out.chg hc7 (by simp)
 have HK97 := hide hk9
 have HK97B := hide hk9.lt
 have hE7 := HE6.out.chg hc7 (by simp)
 have HE7 := hide hE7
 have hctc := HCT.out.chg HC7.out HGL.out (by simp)
 have HCT7 := hide hctc
 rw [hul]
 have HOL : Hid ((okRows is).length ≤ 20) := hide (by simpa [okRows] using hisl)
 generalize is.length = il at *
 have HUL := hide hul
 have HIS2 := hide his
 clear hc7 hsl hfin hk9 hE7 hctc hul his hik hisl i0 iN ist hst g5 g6 g7 g8 hpath ex ey HC6 HE6 HK9 c7d
 go_wp2_with fail
 go_at_call 17
 refine hcn.mono ?_
 rintro e w8 ⟨c, rb, r, cv, rfl, hc8, hcb, hram, hb1, hr1, hfo⟩
 have hce : CEnv w8 c cv (.slice none 0 0) := ⟨HCT7.out.chg hc8 (by have := HC7.out.size; have := HGL.out; omega) (by simp), by have := HC7.out.size; have := hc8.size; have := HGL.out; omega, fun hm => by have := hfo _ hm; have := HC7.out.size; have := HGL.out; omega⟩
 have hrun := run_calls hcb hce (by have := HOL.out; omega) p 10000 it HIT.out HIS.out (by rw [HIN.out, HST.out]; decide) (by omega) (by omega) (fun j hj => by
  have h1 := it_marks HIS.out j hj
  rw [HIT.out] at h1
  have h2 : cs0.marks.length = 0 := rfl
  omega)
 have HX7 := hide HC7.out.size
 have HC8 := hide (HC7.out.trans hc8 (by simp))
 have HFO := hide hfo
 have hk9 := HK97.out.chg hc8 (by simp)
 have HK98 := hide hk9
 have HE8 := hide (HE7.out.chg hc8 (by simp))
 clear hcn hc8 hcb hram hb1 hr1 hfo hce hk9 HC7 HK97 HE7 HCT7
 go_wp2_with fail
 go_at_call 18
 refine hrun.mono ?_
 rintro e w9 ⟨rfl, hc9, mv, hmv, hcb, hce⟩
 rw [HIN.out] at hcb
 obtain ⟨g5, g6, g7, g8⟩ := HG.out
 have hsto := HST.out
 have hz := HC8.out.size
 have hw7 := HFO.out
 have HC9 : Hid (Chg W w9 []) := hide (HC8.out.trans hc9 (fun q hq => .inr (by
  have := HFO.out q (by simp only [footC, List.mem_append] at hq ⊢; exact hq.elim .inl (fun h => .inr (.inr h)))
  have := HX7.out
  omega)))
 have hst := fun W' (h : Chg w9 W' []) => cstate_calls (hcb.chg h (by simp))
 have hreg := fun W' (h : Chg w9 W' []) i (hi : i < 32) => creg_calls (hcb.chg h (by simp)) i hi
 rw [HST.out] at hst
 have hr5 := fun W' h => hreg W' h 5 (by decide)
 have hr6 := fun W' h => hreg W' h 6 (by decide)
 have hr7 := fun W' h => hreg W' h 7 (by decide)
 have hr8 := fun W' h => hreg W' h 8 (by decide)
 rw [g5] at hr5
 rw [g6] at hr6
 rw [g7] at hr7
 rw [g8] at hr8
 have HRS := hide hst
 have HR5 := hide hr5
 have hk9 := HK98.out.chg hc9 (fun hm => by
  have := HFO.out k9 (by simp only [footC, List.mem_append] at hm ⊢; exact hm.elim .inl (fun h => .inr (.inr h)))
  have := HK97B.out
  omega)
 have c9 := hk9.cell' (i := 0) rfl
 have HAW := hide (fun W' (h : Chg w9 W' []) => awake21_calls ((HE8.out.chg hc9 (fun hm => by
  have := HFO.out _ (by simp only [footC, List.mem_append] at hm ⊢; exact hm.elim .inl (fun h => .inr (.inr h)))
  have := HEG.out
  have := HX7.out
  omega)).chg h (by simp)))
 obtain ⟨tb0, tb1⟩ := @tri_bound (x + 1) (by omega)
 obtain ⟨ub0, ub1⟩ := @tri_bound (y + 1) (by omega)
 have t2 : ((x + 1 : Nat) : Int) * ((x : Int)) = 2 * tri (x + 1) := tri_two x
 have u2 : ((y + 1 : Nat) : Int) * ((y : Int)) = 2 * tri (y + 1) := tri_two y
 obtain ⟨r6, z6⟩ : ∃ r6, r6 = ((x + 1 : Nat) : Int) * ((y + 1 : Nat) : Int) := ⟨_, rfl⟩
 obtain ⟨r7, z7⟩ : ∃ r7, r7 = ((y + 1 : Nat) : Int) * tri (x + 1) := ⟨_, rfl⟩
 obtain ⟨r8, z8⟩ : ∃ r8, r8 = ((x + 1 : Nat) : Int) * tri (y + 1) := ⟨_, rfl⟩
 rw [← z6] at hr6
 rw [← z7] at hr7
 rw [← z8] at hr8
 have HR6 := hide hr6
 have HR7 := hide hr7
 have HR8 := hide hr8
 have b6 : 0 ≤ r6 ∧ r6 ≤ 900 := by
  rw [z6]
  exact ⟨Int.mul_nonneg (by omega) (by omega), Int.le_trans (Int.mul_le_mul (show ((x + 1 : Nat) : Int) ≤ 30 by omega) (show ((y + 1 : Nat) : Int) ≤ 30 by omega) (by omega) (by omega)) (by decide)⟩
 have b7 : 0 ≤ r7 ∧ r7 ≤ 27000 := by
  rw [z7]
  exact ⟨Int.mul_nonneg (by omega) (by omega), Int.le_trans (Int.mul_le_mul (show ((y + 1 : Nat) : Int) ≤ 30 by omega) tb1 tb0 (by omega)) (by decide)⟩
 have b8 : 0 ≤ r8 ∧ r8 ≤ 27000 := by
  rw [z8]
  exact ⟨Int.mul_nonneg (by omega) (by omega), Int.le_trans (Int.mul_le_mul (show ((x + 1 : Nat) : Int) ≤ 30 by omega) ub1 ub0 (by omega)) (by decide)⟩
 have exi : ((x + 1 : Nat) : Int) = 1 + (x : Int) := by omega
 have eyi : ((y + 1 : Nat) : Int) = 1 + (y : Int) := by omega
 have k3 : r6 * (x : Int) = 2 * r7 := by
  have e : r6 * (x : Int) = ((y + 1 : Nat) : Int) * (((x + 1 : Nat) : Int) * (x : Int)) := by rw [z6]; grind
  rw [e, t2, z7]; grind
 have k4 : r6 * (y : Int) = 2 * r8 := by
  have e : r6 * (y : Int) = ((x + 1 : Nat) : Int) * (((y + 1 : Nat) : Int) * (y : Int)) := by rw [z6]; grind
  rw [e, u2, z8]; grind
 obtain ⟨p2, e2⟩ : ∃ p2, p2 = 2 * r7 := ⟨_, rfl⟩
 obtain ⟨p3, e3⟩ : ∃ p3, p3 = 2 * r8 := ⟨_, rfl⟩
 obtain ⟨xi, hxi⟩ : ∃ xi, xi = 1 + (x : Int) := ⟨_, rfl⟩
 obtain ⟨yi, hyi⟩ : ∃ yi, yi = 1 + (y : Int) := ⟨_, rfl⟩
 rw [exi, eyi, ← hxi, ← hyi] at z6
 have M1 : Hid (wrap64 (xi * yi) = r6) := hide (by rw [← z6]; exact w64 (by omega) (by omega))
 have M2 : Hid (wrap64 (yi * xi) = r6) := hide (by rw [Int.mul_comm, ← z6]; exact w64 (by omega) (by omega))
 have M3 : Hid (wrap64 (r6 * (xi - 1)) = p2) := hide (by rw [show xi - 1 = (x : Int) by omega, k3, e2]; exact w64 (by omega) (by omega))
 have M4 : Hid (wrap64 (r6 * (yi - 1)) = p3) := hide (by rw [show yi - 1 = (y : Int) by omega, k4, e3]; exact w64 (by omega) (by omega))
 have D3 : Hid (p2.tdiv 2 = r7) := hide (by rw [Int.tdiv_eq_ediv_of_nonneg (by omega), e2]; omega)
 have D4 : Hid (p3.tdiv 2 = r8) := hide (by rw [Int.tdiv_eq_ediv_of_nonneg (by omega), e3]; omega)
 have bxi : 1 ≤ xi ∧ xi ≤ 30 := by omega
 have byi : 1 ≤ yi ∧ yi ≤ 30 := by omega
 have bp2 : 0 ≤ p2 ∧ p2 ≤ 54000 := by omega
 have bp3 : 0 ≤ p3 ∧ p3 ≤ 54000 := by omega
 rw [← hyi] at c9
 clear hrun hc9 hmv hcb hce g5 g6 g7 g8 hsto hz hw7 hst hreg hr5 hr6 hr7 hr8 hk9 tb0 tb1 ub0 ub1 t2 u2 z6 z7 z8 exi eyi k3 k4 e2 e3 HIT HIN HIS HST HG HFO HK98 HK97B HE8 HC8 HX7
 go_upto_region 13 with (fail)
 generalize 1 + (x : Int) = xq at *
 generalize 1 + (y : Int) = yq at *
 subst hxi hyi
 refine wp_regionJ hmix.out _ _ (fun _ => vL13 c k xi yi r6 r7 r8 p2 p3) (fun (_ : Unit) L w' => Chg w9 w' []) () (by kernel_rfl) [(3, true), (9, true), (18, true), (31, true), (44, true)] (by kernel_rfl) (fun p hp γ => by simp at hp; rcases hp with rfl | rfl | rfl | rfl | rfl <;> rfl) (by kernel_rfl) ?step ?start ?fin ?ext
 case start => exact (Chg.refl w9 []).drew
 case ext => exact fun γ L L' w' h hw => hw
 case step =>
  intro i o ho L av w1 γ hdn htm hW hL hpre K Q hK
  match i, ho with
  | 0, ho =>
   injection ho with ho; subst ho
   have b13 : av.tmps.getD 13 undef = .pointer (some ⟨c, 0, none⟩) := slB htm 13 (by kernel_rfl)
   clear htm
   refine val_now ?_ (hK () w1 (fun _ _ => rfl) hW); go_simp; rfl
  | 1, ho =>
   injection ho with ho; subst ho
   have s0 := slA htm 59 0 (by kernel_rfl) (hpre ⟨0, .data⟩ (by simp) rfl)
   simp only [vL13] at s0
   clear htm
   refine call_now (f := 19) (args := #[.pointer (some ⟨c, 0, none⟩)]) ?_ (HRS.out _ hW) ?_
   · go_simp
   · rintro e w2 ⟨rfl, rfl⟩
     exact ⟨_, rfl, hK () _ (fun _ _ => rfl) hW⟩
  | 2, ho =>
   injection ho with ho; subst ho
   have s1 := slA htm 60 1 (by kernel_rfl) (hpre ⟨1, .data⟩ (by simp) rfl)
   simp only [vL13] at s1
   clear htm
   refine val_now ?_ (hK () w1 (fun _ _ => rfl) hW); go_simp; rfl
  | 3, ho =>
   injection ho with ho; subst ho
   have s2 := slA htm 61 2 (by kernel_rfl) (hpre ⟨2, .data⟩ (by simp) rfl)
   simp only [vL13] at s2
   clear htm
   refine val_now ?_ (hK () w1 (fun _ _ => rfl) hW); go_simp; rfl
  | 4, ho =>
   injection ho with ho; subst ho
   have b13 : av.tmps.getD 13 undef = .pointer (some ⟨c, 0, none⟩) := slB htm 13 (by kernel_rfl)
   clear htm
   refine val_now ?_ (hK () w1 (fun _ _ => rfl) hW); go_simp; rfl
  | 5, ho =>
   injection ho with ho; subst ho
   have s4 := slA htm 63 4 (by kernel_rfl) (hpre ⟨4, .data⟩ (by simp) rfl)
   simp only [vL13] at s4
   clear htm
   refine call_now (f := 20) (args := #[.pointer (some ⟨c, 0, none⟩), .int .i64 5]) ?_ (HR5.out _ hW) ?_
   · go_simp
   · rintro e w2 ⟨rfl, rfl⟩
     exact ⟨_, rfl, hK () _ (fun _ _ => rfl) hW⟩
  | 6, ho =>
   injection ho with ho; subst ho
   have b2 : av.tmps.getD 2 undef = .int .i32 k := slB htm 2 (by kernel_rfl)
   clear htm
   refine val_now ?_ (hK () w1 (fun _ _ => rfl) hW); go_simp; rfl
  | 7, ho =>
   injection ho with ho; subst ho
   have s5 := slA htm 64 5 (by kernel_rfl) (hpre ⟨5, .data⟩ (by simp) rfl)
   have s6 := slA htm 65 6 (by kernel_rfl) (hpre ⟨6, .data⟩ (by simp) rfl)
   simp only [vL13] at s5 s6
   clear htm
   refine val_now ?_ (hK () w1 (fun _ _ => rfl) hW); go_simp; rfl
  | 8, ho =>
   injection ho with ho; subst ho
   have s3 := slA htm 62 3 (by kernel_rfl) (hpre ⟨3, .data⟩ (by simp) rfl)
   have s7 := slA htm 66 7 (by kernel_rfl) (hpre ⟨7, .data⟩ (by simp) rfl)
   simp only [vL13] at s3 s7
   clear htm
   refine val_now ?_ (hK () w1 (fun _ _ => rfl) hW); go_simp; rfl
  | 9, ho =>
   injection ho with ho; subst ho
   have s8 := slA htm 67 8 (by kernel_rfl) (hpre ⟨8, .data⟩ (by simp) rfl)
   simp only [vL13] at s8
   clear htm
   refine val_now ?_ (hK () w1 (fun _ _ => rfl) hW); go_simp; rfl
  | 10, ho =>
   injection ho with ho; subst ho
   have b13 : av.tmps.getD 13 undef = .pointer (some ⟨c, 0, none⟩) := slB htm 13 (by kernel_rfl)
   clear htm
   refine val_now ?_ (hK () w1 (fun _ _ => rfl) hW); go_simp; rfl
  | 11, ho =>
   injection ho with ho; subst ho
   have s10 := slA htm 69 10 (by kernel_rfl) (hpre ⟨10, .data⟩ (by simp) rfl)
   simp only [vL13] at s10
   clear htm
   refine call_now (f := 20) (args := #[.pointer (some ⟨c, 0, none⟩), .int .i64 6]) ?_ (HR6.out _ hW) ?_
   · go_simp
   · rintro e w2 ⟨rfl, rfl⟩
     exact ⟨_, rfl, hK () _ (fun _ _ => rfl) hW⟩
  | 12, ho =>
   injection ho with ho; subst ho
   have s11 := slA htm 70 11 (by kernel_rfl) (hpre ⟨11, .data⟩ (by simp) rfl)
   simp only [vL13] at s11
   clear htm
   refine val_now ?_ (hK () w1 (fun _ _ => rfl) hW); go_simp; exact congrArg (Value.int .i64) ((Go.IntWalk.i64_left _).trans (w64 (by omega) (by omega)))
  | 13, ho =>
   injection ho with ho; subst ho
   have b8 : av.tmps.getD 8 undef = .int .i64 xi := slB htm 8 (by kernel_rfl)
   clear htm
   refine val_now ?_ (hK () w1 (fun _ _ => rfl) hW); go_simp; rfl
  | 14, ho =>
   injection ho with ho; subst ho
   have b9 : av.tmps.getD 9 undef = .pointer (some ⟨k9, 0, none⟩) := slB htm 9 (by kernel_rfl)
   clear htm
   have y := hW.cell c9 (by simp)
   refine val_now ?_ (hK () w1 (fun _ _ => rfl) hW); go_simp; rfl
  | 15, ho =>
   injection ho with ho; subst ho
   have s13 := slA htm 72 13 (by kernel_rfl) (hpre ⟨13, .data⟩ (by simp) rfl)
   have s14 := slA htm 73 14 (by kernel_rfl) (hpre ⟨14, .data⟩ (by simp) rfl)
   simp only [vL13] at s13 s14
   clear htm
   refine val_now ?_ (hK () w1 (fun _ _ => rfl) hW); go_simp; exact congrArg (Value.int .i64) ((Go.IntWalk.i64_left _).trans (M1.out))
  | 16, ho =>
   injection ho with ho; subst ho
   have s12 := slA htm 71 12 (by kernel_rfl) (hpre ⟨12, .data⟩ (by simp) rfl)
   have s15 := slA htm 74 15 (by kernel_rfl) (hpre ⟨15, .data⟩ (by simp) rfl)
   simp only [vL13] at s12 s15
   clear htm
   refine val_now ?_ (hK () w1 (fun _ _ => rfl) hW); go_simp; rfl
  | 17, ho =>
   injection ho with ho; subst ho
   have s9 := slA htm 68 9 (by kernel_rfl) (hpre ⟨9, .data⟩ (by simp) rfl)
   have s16 := slA htm 75 16 (by kernel_rfl) (hpre ⟨16, .data⟩ (by simp) rfl)
   simp only [vL13] at s9 s16
   clear htm
   refine val_now ?_ (hK () w1 (fun _ _ => rfl) hW); go_simp; rfl
  | 18, ho =>
   injection ho with ho; subst ho
   have s17 := slA htm 76 17 (by kernel_rfl) (hpre ⟨17, .data⟩ (by simp) rfl)
   simp only [vL13] at s17
   clear htm
   refine val_now ?_ (hK () w1 (fun _ _ => rfl) hW); go_simp; rfl
  | 19, ho =>
   injection ho with ho; subst ho
   have b13 : av.tmps.getD 13 undef = .pointer (some ⟨c, 0, none⟩) := slB htm 13 (by kernel_rfl)
   clear htm
   refine val_now ?_ (hK () w1 (fun _ _ => rfl) hW); go_simp; rfl
  | 20, ho =>
   injection ho with ho; subst ho
   have s19 := slA htm 78 19 (by kernel_rfl) (hpre ⟨19, .data⟩ (by simp) rfl)
   simp only [vL13] at s19
   clear htm
   refine call_now (f := 20) (args := #[.pointer (some ⟨c, 0, none⟩), .int .i64 7]) ?_ (HR7.out _ hW) ?_
   · go_simp
   · rintro e w2 ⟨rfl, rfl⟩
     exact ⟨_, rfl, hK () _ (fun _ _ => rfl) hW⟩
  | 21, ho =>
   injection ho with ho; subst ho
   have s20 := slA htm 79 20 (by kernel_rfl) (hpre ⟨20, .data⟩ (by simp) rfl)
   simp only [vL13] at s20
   clear htm
   refine val_now ?_ (hK () w1 (fun _ _ => rfl) hW); go_simp; exact congrArg (Value.int .i64) ((Go.IntWalk.i64_left _).trans (w64 (by omega) (by omega)))
  | 22, ho =>
   injection ho with ho; subst ho
   have b9 : av.tmps.getD 9 undef = .pointer (some ⟨k9, 0, none⟩) := slB htm 9 (by kernel_rfl)
   clear htm
   have y := hW.cell c9 (by simp)
   refine val_now ?_ (hK () w1 (fun _ _ => rfl) hW); go_simp; rfl
  | 23, ho =>
   injection ho with ho; subst ho
   have b8 : av.tmps.getD 8 undef = .int .i64 xi := slB htm 8 (by kernel_rfl)
   clear htm
   refine val_now ?_ (hK () w1 (fun _ _ => rfl) hW); go_simp; rfl
  | 24, ho =>
   injection ho with ho; subst ho
   have s22 := slA htm 81 22 (by kernel_rfl) (hpre ⟨22, .data⟩ (by simp) rfl)
   have s23 := slA htm 82 23 (by kernel_rfl) (hpre ⟨23, .data⟩ (by simp) rfl)
   simp only [vL13] at s22 s23
   clear htm
   refine val_now ?_ (hK () w1 (fun _ _ => rfl) hW); go_simp; exact congrArg (Value.int .i64) ((Go.IntWalk.i64_left _).trans (M2.out))
  | 25, ho =>
   injection ho with ho; subst ho
   have b8 : av.tmps.getD 8 undef = .int .i64 xi := slB htm 8 (by kernel_rfl)
   clear htm
   refine val_now ?_ (hK () w1 (fun _ _ => rfl) hW); go_simp; rfl
  | 26, ho =>
   injection ho with ho; subst ho
   have s25 := slA htm 84 25 (by kernel_rfl) (hpre ⟨25, .data⟩ (by simp) rfl)
   simp only [vL13] at s25
   clear htm
   refine val_now ?_ (hK () w1 (fun _ _ => rfl) hW); go_simp; exact congrArg (Value.int .i64) ((Go.IntWalk.i64_left _).trans (w64 (by omega) (by omega)))
  | 27, ho =>
   injection ho with ho; subst ho
   have s24 := slA htm 83 24 (by kernel_rfl) (hpre ⟨24, .data⟩ (by simp) rfl)
   have s26 := slA htm 85 26 (by kernel_rfl) (hpre ⟨26, .data⟩ (by simp) rfl)
   simp only [vL13] at s24 s26
   clear htm
   refine val_now ?_ (hK () w1 (fun _ _ => rfl) hW); go_simp; exact congrArg (Value.int .i64) ((Go.IntWalk.i64_left _).trans (M3.out))
  | 28, ho =>
   injection ho with ho; subst ho
   have s27 := slA htm 86 27 (by kernel_rfl) (hpre ⟨27, .data⟩ (by simp) rfl)
   simp only [vL13] at s27
   clear htm
   refine val_now ?_ (hK () w1 (fun _ _ => rfl) hW); go_simp; exact congrArg (Value.int .i64) ((Go.IntWalk.i64_left _).trans ((show wrap64 (p2.tdiv 2) = r7 by rw [D3.out]; exact w64 (by omega) (by omega))))
  | 29, ho =>
   injection ho with ho; subst ho
   have s21 := slA htm 80 21 (by kernel_rfl) (hpre ⟨21, .data⟩ (by simp) rfl)
   have s28 := slA htm 87 28 (by kernel_rfl) (hpre ⟨28, .data⟩ (by simp) rfl)
   simp only [vL13] at s21 s28
   clear htm
   refine val_now ?_ (hK () w1 (fun _ _ => rfl) hW); go_simp; rfl
  | 30, ho =>
   injection ho with ho; subst ho
   have s18 := slA htm 77 18 (by kernel_rfl) (hpre ⟨18, .data⟩ (by simp) rfl)
   have s29 := slA htm 88 29 (by kernel_rfl) (hpre ⟨29, .data⟩ (by simp) rfl)
   simp only [vL13] at s18 s29
   clear htm
   refine val_now ?_ (hK () w1 (fun _ _ => rfl) hW); go_simp; rfl
  | 31, ho =>
   injection ho with ho; subst ho
   have s30 := slA htm 89 30 (by kernel_rfl) (hpre ⟨30, .data⟩ (by simp) rfl)
   simp only [vL13] at s30
   clear htm
   refine val_now ?_ (hK () w1 (fun _ _ => rfl) hW); go_simp; rfl
  | 32, ho =>
   injection ho with ho; subst ho
   have b13 : av.tmps.getD 13 undef = .pointer (some ⟨c, 0, none⟩) := slB htm 13 (by kernel_rfl)
   clear htm
   refine val_now ?_ (hK () w1 (fun _ _ => rfl) hW); go_simp; rfl
  | 33, ho =>
   injection ho with ho; subst ho
   have s32 := slA htm 91 32 (by kernel_rfl) (hpre ⟨32, .data⟩ (by simp) rfl)
   simp only [vL13] at s32
   clear htm
   refine call_now (f := 20) (args := #[.pointer (some ⟨c, 0, none⟩), .int .i64 8]) ?_ (HR8.out _ hW) ?_
   · go_simp
   · rintro e w2 ⟨rfl, rfl⟩
     exact ⟨_, rfl, hK () _ (fun _ _ => rfl) hW⟩
  | 34, ho =>
   injection ho with ho; subst ho
   have s33 := slA htm 92 33 (by kernel_rfl) (hpre ⟨33, .data⟩ (by simp) rfl)
   simp only [vL13] at s33
   clear htm
   refine val_now ?_ (hK () w1 (fun _ _ => rfl) hW); go_simp; exact congrArg (Value.int .i64) ((Go.IntWalk.i64_left _).trans (w64 (by omega) (by omega)))
  | 35, ho =>
   injection ho with ho; subst ho
   have b8 : av.tmps.getD 8 undef = .int .i64 xi := slB htm 8 (by kernel_rfl)
   clear htm
   refine val_now ?_ (hK () w1 (fun _ _ => rfl) hW); go_simp; rfl
  | 36, ho =>
   injection ho with ho; subst ho
   have b9 : av.tmps.getD 9 undef = .pointer (some ⟨k9, 0, none⟩) := slB htm 9 (by kernel_rfl)
   clear htm
   have y := hW.cell c9 (by simp)
   refine val_now ?_ (hK () w1 (fun _ _ => rfl) hW); go_simp; rfl
  | 37, ho =>
   injection ho with ho; subst ho
   have s35 := slA htm 94 35 (by kernel_rfl) (hpre ⟨35, .data⟩ (by simp) rfl)
   have s36 := slA htm 95 36 (by kernel_rfl) (hpre ⟨36, .data⟩ (by simp) rfl)
   simp only [vL13] at s35 s36
   clear htm
   refine val_now ?_ (hK () w1 (fun _ _ => rfl) hW); go_simp; exact congrArg (Value.int .i64) ((Go.IntWalk.i64_left _).trans (M1.out))
  | 38, ho =>
   injection ho with ho; subst ho
   have b9 : av.tmps.getD 9 undef = .pointer (some ⟨k9, 0, none⟩) := slB htm 9 (by kernel_rfl)
   clear htm
   have y := hW.cell c9 (by simp)
   refine val_now ?_ (hK () w1 (fun _ _ => rfl) hW); go_simp; rfl
  | 39, ho =>
   injection ho with ho; subst ho
   have s38 := slA htm 97 38 (by kernel_rfl) (hpre ⟨38, .data⟩ (by simp) rfl)
   simp only [vL13] at s38
   clear htm
   refine val_now ?_ (hK () w1 (fun _ _ => rfl) hW); go_simp; exact congrArg (Value.int .i64) ((Go.IntWalk.i64_left _).trans (w64 (by omega) (by omega)))
  | 40, ho =>
   injection ho with ho; subst ho
   have s37 := slA htm 96 37 (by kernel_rfl) (hpre ⟨37, .data⟩ (by simp) rfl)
   have s39 := slA htm 98 39 (by kernel_rfl) (hpre ⟨39, .data⟩ (by simp) rfl)
   simp only [vL13] at s37 s39
   clear htm
   refine val_now ?_ (hK () w1 (fun _ _ => rfl) hW); go_simp; exact congrArg (Value.int .i64) ((Go.IntWalk.i64_left _).trans (M4.out))
  | 41, ho =>
   injection ho with ho; subst ho
   have s40 := slA htm 99 40 (by kernel_rfl) (hpre ⟨40, .data⟩ (by simp) rfl)
   simp only [vL13] at s40
   clear htm
   refine val_now ?_ (hK () w1 (fun _ _ => rfl) hW); go_simp; exact congrArg (Value.int .i64) ((Go.IntWalk.i64_left _).trans ((show wrap64 (p3.tdiv 2) = r8 by rw [D4.out]; exact w64 (by omega) (by omega))))
  | 42, ho =>
   injection ho with ho; subst ho
   have s34 := slA htm 93 34 (by kernel_rfl) (hpre ⟨34, .data⟩ (by simp) rfl)
   have s41 := slA htm 100 41 (by kernel_rfl) (hpre ⟨41, .data⟩ (by simp) rfl)
   simp only [vL13] at s34 s41
   clear htm
   refine val_now ?_ (hK () w1 (fun _ _ => rfl) hW); go_simp; rfl
  | 43, ho =>
   injection ho with ho; subst ho
   have s31 := slA htm 90 31 (by kernel_rfl) (hpre ⟨31, .data⟩ (by simp) rfl)
   have s42 := slA htm 101 42 (by kernel_rfl) (hpre ⟨42, .data⟩ (by simp) rfl)
   simp only [vL13] at s31 s42
   clear htm
   refine val_now ?_ (hK () w1 (fun _ _ => rfl) hW); go_simp; rfl
  | 44, ho =>
   injection ho with ho; subst ho
   have s43 := slA htm 102 43 (by kernel_rfl) (hpre ⟨43, .data⟩ (by simp) rfl)
   simp only [vL13] at s43
   clear htm
   refine val_now ?_ (hK () w1 (fun _ _ => rfl) hW); go_simp; rfl
  | 45, ho =>
   injection ho with ho; subst ho
   clear htm
   refine call_now (f := 5) (args := #[]) ?_ (HAW.out _ hW) ?_
   · go_simp
   · rintro e w2 ⟨rfl, hc⟩
     exact ⟨_, rfl, hK () w2 (fun _ _ => rfl) (hW.trans hc (by simp))⟩
  | 46, ho =>
   injection ho with ho; subst ho
   have s44 := slA htm 103 44 (by kernel_rfl) (hpre ⟨44, .data⟩ (by simp) rfl)
   have s45 := slA htm 104 45 (by kernel_rfl) (hpre ⟨45, .data⟩ (by simp) rfl)
   simp only [vL13] at s44 s45
   clear htm
   refine val_now ?_ (hK () w1 (fun _ _ => rfl) hW); go_simp; rfl
  | 47, ho =>
   injection ho with ho; subst ho
   have s46 := slA htm 105 46 (by kernel_rfl) (hpre ⟨46, .data⟩ (by simp) rfl)
   simp only [vL13] at s46
   clear htm
   refine val_now ?_ (hK () w1 (fun _ _ => rfl) hW); go_simp; rfl
  | _ + 48, ho => cases ho
 case fin =>
  intro γ w10 hW
  rw [finG_puts, putsR_list, putsL_dst]
  simp only [List.map_cons, List.map_nil]
  rw [putsL13]
  simp only [vL13]
  have HW := hide hW
  clear hW c9
  go_wp2
  go_ret
  exact ⟨rfl, HC9.out.trans HW.out (by simp)⟩
end Go.Proofs.YtjfnpokebaagmaaGreatDoor
