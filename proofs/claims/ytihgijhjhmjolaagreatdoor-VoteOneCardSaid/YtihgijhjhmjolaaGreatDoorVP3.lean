/- Texts of this claim, side by side: Num2, Alu, Mill, Mill2, In32, Sel, Wd. -/
import Derived.Test.YtihgijhjhmjolaaGreatDoorVP1
import Derived.Test.YtihgijhjhmjolaaGreatDoorShelfB
/- fix, word, clz. -/
namespace Go.Proofs.YtihgijhjhmjolaaGreatDoor
open Go.RowKit Go.Deep
set_option linter.unusedVariables false
def clzI (a : Int) : Int := 32 - (Lib.bitLen (a % 4294967296).toNat : Int)
def mulI (a b : Int) : Int := wrap32 (a * b % 4294967296)
def mulqI (a b : Int) : Int := satI (a * b / 1073741824 + a * b / 536870912 % 2)
set_option maxHeartbeats 400000 in
theorem sabs_calls (a : Int) (w : World) (ha : -2147483648 ≤ a ∧ a ≤ 2147483647) :
 Calls Tryz.prog 251 #[.int .i32 a] w fun e w' => e = .returned (.int .i32 (absI a)) ∧ Chg w w' [] := by
 obtain ⟨n, hn⟩ : ∃ n, n = negI a := ⟨_, rfl⟩
 have e : absI a = max a n := by unfold absI; rw [hn]
 rw [e]
 have HN := hide hn
 clear hn e
 go_enter Tryz.func251, Tryz.ntmps251
 go_wp2_with fail
 refine (sneg_calls a _ ha).mono ?_
 rintro e w1 ⟨rfl, hc⟩
 rw [← HN.out]
 have HC := hide hc
 clear hc HN
 go_wp2
 all_goals
  go_ret
  exact ⟨by first | (rw [show max a n = if a < n then n else a by split <;> omega]; rfl) | (rw [show max a n = n by omega]; rfl) | (rw [show max a n = a by omega]; rfl), HC.out⟩
set_option maxHeartbeats 400000 in
theorem clz_calls (a : Int) (w : World) (ha : -2147483648 ≤ a ∧ a ≤ 2147483647) :
 Calls Tryz.prog 249 #[.int .i32 a] w fun e w' => e = .returned (.int .i32 (clzI a)) ∧ w = w' := by
 have l := Any.bitLen_le32 (a % 4294967296) (by omega) (by omega)
 have hw : wrap32 (32 - (Lib.bitLen (a % 4294967296).toNat : Int)) = clzI a := by unfold clzI wrap32; omega
 have HW := hide hw
 clear hw
 go_enter Tryz.func249, Tryz.ntmps249
 go_wp2_with fail
 refine (Tryz.bits_LeadingZeros32 _ _ (by omega) (by omega)).mono ?_
 rintro e w1 ⟨rfl, rfl⟩
 clear l
 generalize (32 - (Lib.bitLen (a % 4294967296).toNat : Int)) = n at *
 go_wp2
 go_ret
 exact ⟨by rw [← HW.out]; rfl, rfl⟩
set_option maxHeartbeats 400000 in
theorem mull_calls (a b : Int) (w : World) (ha : -2147483648 ≤ a ∧ a ≤ 2147483647) (hb : -2147483648 ≤ b ∧ b ≤ 2147483647) :
 Calls Tryz.prog 227 #[.int .i32 a, .int .i32 b] w fun e w' => e = .returned (.int .i32 (mulI a b)) ∧ Chg w w' [] := by
 have e : mulI a b = wrap32 (wrap64 (a * b) % 4294967296) := by
  unfold mulI
  generalize a * b = p
  unfold wrap64; congr 1; omega
 rw [e]
 clear e
 go_enter Tryz.func227, Tryz.ntmps227
 go_wp2
 go_ret
 exact ⟨rfl, (Chg.refl w []).alloc _⟩
theorem and_one_i64 (x : Int) : bits BinOp.and IntKind.i64 x 1 = x % 2 := by
 show IntKind.i64.wrap ((BitVec.ofInt 64 x &&& BitVec.ofInt 64 1).toNat : Int) = _
 have h2 : (BitVec.ofInt 64 1).toNat = 1 := by decide
 rw [BitVec.toNat_and, h2, Nat.and_one_is_mod, IntKind.wrap_i64, BitVec.toNat_ofInt]
 omega
set_option maxHeartbeats 400000 in
theorem scaled_calls (w : World) : Calls Tryz.prog 237 #[.int .i64 30] w fun e w' => e = .returned (.agg #[.func (.func 247) #[] #[.pointer (some ⟨w.heap.size, 0, none⟩)]]) ∧ Chg w w' [] ∧ w'.cell? ⟨w.heap.size, 0, none⟩ = some (.int .i64 30) ∧ w.heap.size < w'.heap.size := by
 have hc := (Blk.new w 3 [.int .i64 30])
 have hz := Blk.new (w.alloc (.cells #[.int .i64 30] 3)) 245 [(.func (.func 247) #[] #[.pointer (some ⟨w.heap.size, 0, none⟩)])]
 have h1 := hc.alloc (.cells #[(.func (.func 247) #[] #[.pointer (some ⟨w.heap.size, 0, none⟩)])] 245)
 have c1 := h1.cell' (i := 0) rfl
 have c2 := hz.cell' (i := 0) rfl
 rw [size_alloc] at c2
 have HC := hide (((Chg.refl w []).alloc (.cells #[.int .i64 30] 3)).alloc (.cells #[(.func (.func 247) #[] #[.pointer (some ⟨w.heap.size, 0, none⟩)])] 245))
 clear hc hz h1
 go_enter Tryz.func237, Tryz.ntmps237
 go_wp2
 refine bodyPost_ret (v := .agg #[.func (.func 247) #[] #[.pointer (some ⟨w.heap.size, 0, none⟩)]]) ?_ rfl ⟨rfl, HC.out, c1, by simp; omega⟩
 simp [results, Tryz.f237, go_sem, c2]
set_option maxHeartbeats 400000 in
theorem scaled1_calls (x : Int) (p : Addr) (w : World) (hp : w.cell? p = some (.int .i64 30)) (hx : -4611686018427387904 ≤ x ∧ x ≤ 4611686018427387904) : Calls Tryz.prog 247 #[.int .i64 x, .pointer (some p)] w fun e w' => e = .returned (.int .i32 (satI (x / 1073741824 + x / 536870912 % 2))) ∧ w = w' := by
 have hb := and_one_i64 (x / 536870912)
 have hw : wrap64 (x / 1073741824 + x / 536870912 % 2) = x / 1073741824 + x / 536870912 % 2 := by unfold wrap64; omega
 go_enter Tryz.func247, Tryz.ntmps247
 go_wp2
 go_ret
 exact ⟨by simp only [satI]; rfl, rfl⟩
theorem prod_bound {a b : Int} (ha : -2147483648 ≤ a ∧ a ≤ 2147483647) (hb : -2147483648 ≤ b ∧ b ≤ 2147483647) : -4611686018427387904 ≤ a * b ∧ a * b ≤ 4611686018427387904 := by
 have h : (a * b).natAbs ≤ 2147483648 * 2147483648 := by
  rw [Int.natAbs_mul]; exact Nat.mul_le_mul (by omega) (by omega)
 omega
set_option maxHeartbeats 400000 in
theorem of_calls (a b : Int) (p : Addr) (w : World) (ha : -2147483648 ≤ a ∧ a ≤ 2147483647) (hb : -2147483648 ≤ b ∧ b ≤ 2147483647) (hp : w.cell? p = some (.int .i64 30)) :
 Calls Tryz.prog 235 #[.agg #[.func (.func 247) #[] #[.pointer (some p)]], .int .i32 a, .int .i32 b] w fun e w' => e = .returned (.int .i32 (mulqI a b)) ∧ Chg w w' [] := by
 have hpb := prod_bound ha hb
 have hm : wrap64 (a * b) = a * b := by generalize a * b = p at *; unfold wrap64; omega
 have hp1 := fun o => ((Chg.refl w []).alloc o).cell hp (by simp)
 go_enter Tryz.func235, Tryz.ntmps235
 go_wp2_with fail
 refine (scaled1_calls _ _ _ (hp1 _) hpb).mono ?_
 rintro e w1 ⟨rfl, rfl⟩
 go_wp2
 go_ret
 exact ⟨rfl, (Chg.refl w []).alloc _⟩
set_option maxHeartbeats 400000 in
theorem mulq_calls (a b : Int) (w : World) (ha : -2147483648 ≤ a ∧ a ≤ 2147483647) (hb : -2147483648 ≤ b ∧ b ≤ 2147483647) :
 Calls Tryz.prog 229 #[.int .i32 a, .int .i32 b] w fun e w' => e = .returned (.int .i32 (mulqI a b)) ∧ Chg w w' [] := by
 go_enter Tryz.func229, Tryz.ntmps229
 go_wp2_with fail
 refine (scaled_calls _).mono ?_
 rintro e w1 ⟨rfl, hc, hp, _⟩
 have HC := hide hc
 clear hc
 go_wp2_with fail
 refine (of_calls a b _ _ ha hb hp).mono ?_
 rintro e w2 ⟨rfl, hc⟩
 have HC2 := hide hc
 clear hc
 go_wp2
 go_ret
 exact ⟨rfl, HC.out.trans HC2.out (by simp)⟩
end Go.Proofs.YtihgijhjhmjolaaGreatDoor

/- alu.Do at each operation. -/
namespace Go.Proofs.YtihgijhjhmjolaaGreatDoor
open Go.RowKit Go.Deep
set_option linter.unusedVariables false
def addI (a b : Int) : Int := wrap32 (a + b)
def subI (a b : Int) : Int := wrap32 (a - b)
def andI (a b : Int) : Int := bits BinOp.and IntKind.i32 a b
def orI (a b : Int) : Int := bits BinOp.or IntKind.i32 a b
def xorI (a b : Int) : Int := bits BinOp.xor IntKind.i32 a b
def bicI (a b : Int) : Int := bits BinOp.andNot IntKind.i32 a b
abbrev In32 (a : Int) : Prop := -2147483648 ≤ a ∧ a ≤ 2147483647
set_option maxRecDepth 100000 in
set_option maxHeartbeats 1000000 in
theorem do_add (a b : Int) (w : World) (ha : In32 a) (hb : In32 b) : Calls Tryz.prog 207 #[.int .i64 1, .int .i32 a, .int .i32 b] w fun e w' => e = .returned (.tuple #[.int .i32 (addI a b), .bool true]) ∧ Chg w w' [] := by
 have HC := hide (Chg.refl w [])
 go_enter Tryz.func207, Tryz.ntmps207
 go_wp2
 go_ret2
 exact ⟨rfl, HC.out⟩
set_option maxRecDepth 100000 in
set_option maxHeartbeats 1000000 in
theorem do_sub (a b : Int) (w : World) (ha : In32 a) (hb : In32 b) : Calls Tryz.prog 207 #[.int .i64 2, .int .i32 a, .int .i32 b] w fun e w' => e = .returned (.tuple #[.int .i32 (subI a b), .bool true]) ∧ Chg w w' [] := by
 have HC := hide (Chg.refl w [])
 go_enter Tryz.func207, Tryz.ntmps207
 go_wp2
 go_ret2
 exact ⟨rfl, HC.out⟩
set_option maxRecDepth 100000 in
set_option maxHeartbeats 1000000 in
theorem do_adds (a b : Int) (w : World) (ha : In32 a) (hb : In32 b) : Calls Tryz.prog 207 #[.int .i64 3, .int .i32 a, .int .i32 b] w fun e w' => e = .returned (.tuple #[.int .i32 (addsI a b), .bool true]) ∧ Chg w w' [] := by
 go_enter Tryz.func207, Tryz.ntmps207
 go_wp2_with fail
 refine (sadd_calls a b _ ha hb).mono ?_
 rintro e w1 ⟨rfl, hc⟩
 have HC := hide hc
 clear hc
 go_wp2
 go_ret2
 exact ⟨rfl, HC.out⟩
set_option maxRecDepth 100000 in
set_option maxHeartbeats 1000000 in
theorem do_subs (a b : Int) (w : World) (ha : In32 a) (hb : In32 b) : Calls Tryz.prog 207 #[.int .i64 4, .int .i32 a, .int .i32 b] w fun e w' => e = .returned (.tuple #[.int .i32 (subsI a b), .bool true]) ∧ Chg w w' [] := by
 go_enter Tryz.func207, Tryz.ntmps207
 go_wp2_with fail
 refine (ssub_calls a b _ ha hb).mono ?_
 rintro e w1 ⟨rfl, hc⟩
 have HC := hide hc
 clear hc
 go_wp2
 go_ret2
 exact ⟨rfl, HC.out⟩
set_option maxRecDepth 100000 in
set_option maxHeartbeats 1000000 in
theorem do_and (a b : Int) (w : World) (ha : In32 a) (hb : In32 b) : Calls Tryz.prog 207 #[.int .i64 5, .int .i32 a, .int .i32 b] w fun e w' => e = .returned (.tuple #[.int .i32 (andI a b), .bool true]) ∧ Chg w w' [] := by
 have HC := hide (Chg.refl w [])
 go_enter Tryz.func207, Tryz.ntmps207
 go_wp2
 go_ret2
 exact ⟨rfl, HC.out⟩
set_option maxRecDepth 100000 in
set_option maxHeartbeats 1000000 in
theorem do_or (a b : Int) (w : World) (ha : In32 a) (hb : In32 b) : Calls Tryz.prog 207 #[.int .i64 6, .int .i32 a, .int .i32 b] w fun e w' => e = .returned (.tuple #[.int .i32 (orI a b), .bool true]) ∧ Chg w w' [] := by
 have HC := hide (Chg.refl w [])
 go_enter Tryz.func207, Tryz.ntmps207
 go_wp2
 go_ret2
 exact ⟨rfl, HC.out⟩
set_option maxRecDepth 100000 in
set_option maxHeartbeats 1000000 in
theorem do_xor (a b : Int) (w : World) (ha : In32 a) (hb : In32 b) : Calls Tryz.prog 207 #[.int .i64 7, .int .i32 a, .int .i32 b] w fun e w' => e = .returned (.tuple #[.int .i32 (xorI a b), .bool true]) ∧ Chg w w' [] := by
 have HC := hide (Chg.refl w [])
 go_enter Tryz.func207, Tryz.ntmps207
 go_wp2
 go_ret2
 exact ⟨rfl, HC.out⟩
set_option maxRecDepth 100000 in
set_option maxHeartbeats 1000000 in
theorem do_bic (a b : Int) (w : World) (ha : In32 a) (hb : In32 b) : Calls Tryz.prog 207 #[.int .i64 8, .int .i32 a, .int .i32 b] w fun e w' => e = .returned (.tuple #[.int .i32 (bicI a b), .bool true]) ∧ Chg w w' [] := by
 have HC := hide (Chg.refl w [])
 go_enter Tryz.func207, Tryz.ntmps207
 go_wp2
 go_ret2
 exact ⟨rfl, HC.out⟩
set_option maxRecDepth 100000 in
set_option maxHeartbeats 1000000 in
theorem do_shl (a b : Int) (w : World) (ha : In32 a) (hb : In32 b) : Calls Tryz.prog 207 #[.int .i64 9, .int .i32 a, .int .i32 b] w fun e w' => e = .returned (.tuple #[.int .i32 (shlI a b), .bool true]) ∧ Chg w w' [] := by
 go_enter Tryz.func207, Tryz.ntmps207
 go_wp2_with fail
 refine (shl_calls a b _).mono ?_
 rintro e w1 ⟨rfl, hc⟩
 have HC := hide hc
 clear hc
 go_wp2
 go_ret2
 exact ⟨rfl, HC.out⟩
set_option maxRecDepth 100000 in
set_option maxHeartbeats 1000000 in
theorem do_shr (a b : Int) (w : World) (ha : In32 a) (hb : In32 b) : Calls Tryz.prog 207 #[.int .i64 10, .int .i32 a, .int .i32 b] w fun e w' => e = .returned (.tuple #[.int .i32 (shrI a b), .bool true]) ∧ Chg w w' [] := by
 go_enter Tryz.func207, Tryz.ntmps207
 go_wp2_with fail
 refine (shr_calls a b _).mono ?_
 rintro e w1 ⟨rfl, hc⟩
 have HC := hide hc
 clear hc
 go_wp2
 go_ret2
 exact ⟨rfl, HC.out⟩
set_option maxRecDepth 100000 in
set_option maxHeartbeats 1000000 in
theorem do_sar (a b : Int) (w : World) (ha : In32 a) (hb : In32 b) : Calls Tryz.prog 207 #[.int .i64 11, .int .i32 a, .int .i32 b] w fun e w' => e = .returned (.tuple #[.int .i32 (sarI a b), .bool true]) ∧ Chg w w' [] := by
 go_enter Tryz.func207, Tryz.ntmps207
 go_wp2_with fail
 refine (sar_calls a b _).mono ?_
 rintro e w1 ⟨rfl, hc⟩
 have HC := hide hc
 clear hc
 go_wp2
 go_ret2
 exact ⟨rfl, HC.out⟩
set_option maxRecDepth 100000 in
set_option maxHeartbeats 1000000 in
theorem do_slt (a b : Int) (w : World) (ha : In32 a) (hb : In32 b) : Calls Tryz.prog 207 #[.int .i64 13, .int .i32 a, .int .i32 b] w fun e w' => e = .returned (.tuple #[.int .i32 (ltI a b), .bool true]) ∧ Chg w w' [] := by
 have HC := hide (Chg.refl w [])
 go_enter Tryz.func207, Tryz.ntmps207
 go_wp2_with fail
 refine (less_calls a b _).mono ?_
 rintro e w1 ⟨rfl, rfl⟩
 go_wp2
 go_ret2
 exact ⟨rfl, HC.out⟩
set_option maxRecDepth 100000 in
set_option maxHeartbeats 1000000 in
theorem do_sltu (a b : Int) (w : World) (ha : In32 a) (hb : In32 b) : Calls Tryz.prog 207 #[.int .i64 14, .int .i32 a, .int .i32 b] w fun e w' => e = .returned (.tuple #[.int .i32 (ltuI a b), .bool true]) ∧ Chg w w' [] := by
 have HC := hide (Chg.refl w [])
 go_enter Tryz.func207, Tryz.ntmps207
 go_wp2_with fail
 refine (under_calls a b _).mono ?_
 rintro e w1 ⟨rfl, rfl⟩
 go_wp2
 go_ret2
 exact ⟨rfl, HC.out⟩
set_option maxRecDepth 100000 in
set_option maxHeartbeats 1000000 in
theorem product_mul (a b : Int) (w : World) (ha : In32 a) (hb : In32 b) : Calls Tryz.prog 217 #[.int .i64 18, .int .i32 a, .int .i32 b] w fun e w' => e = .returned (.tuple #[.int .i32 (mulI a b), .bool true]) ∧ Chg w w' [] := by
 go_enter Tryz.func217, Tryz.ntmps217
 go_wp2_with fail
 refine (mull_calls a b _ ha hb).mono ?_
 rintro e w1 ⟨rfl, hc⟩
 have HC := hide hc
 clear hc
 go_wp2
 go_ret2
 exact ⟨rfl, HC.out⟩
set_option maxRecDepth 100000 in
set_option maxHeartbeats 1000000 in
theorem do_mul (a b : Int) (w : World) (ha : In32 a) (hb : In32 b) : Calls Tryz.prog 207 #[.int .i64 18, .int .i32 a, .int .i32 b] w fun e w' => e = .returned (.tuple #[.int .i32 (mulI a b), .bool true]) ∧ Chg w w' [] := by
 go_enter Tryz.func207, Tryz.ntmps207
 go_wp2_with fail
 refine (product_mul a b _ ha hb).mono ?_
 rintro e w1 ⟨rfl, hc⟩
 have HC := hide hc
 clear hc
 go_wp2
 go_ret2
 exact ⟨rfl, HC.out⟩
set_option maxRecDepth 100000 in
set_option maxHeartbeats 1000000 in
theorem product_mulq (a b : Int) (w : World) (ha : In32 a) (hb : In32 b) : Calls Tryz.prog 217 #[.int .i64 20, .int .i32 a, .int .i32 b] w fun e w' => e = .returned (.tuple #[.int .i32 (mulqI a b), .bool true]) ∧ Chg w w' [] := by
 go_enter Tryz.func217, Tryz.ntmps217
 go_wp2_with fail
 refine (mulq_calls a b _ ha hb).mono ?_
 rintro e w1 ⟨rfl, hc⟩
 have HC := hide hc
 clear hc
 go_wp2
 go_ret2
 exact ⟨rfl, HC.out⟩
set_option maxRecDepth 100000 in
set_option maxHeartbeats 1000000 in
theorem do_mulq (a b : Int) (w : World) (ha : In32 a) (hb : In32 b) : Calls Tryz.prog 207 #[.int .i64 20, .int .i32 a, .int .i32 b] w fun e w' => e = .returned (.tuple #[.int .i32 (mulqI a b), .bool true]) ∧ Chg w w' [] := by
 go_enter Tryz.func207, Tryz.ntmps207
 go_wp2_with fail
 refine (product_mulq a b _ ha hb).mono ?_
 rintro e w1 ⟨rfl, hc⟩
 have HC := hide hc
 clear hc
 go_wp2
 go_ret2
 exact ⟨rfl, HC.out⟩
set_option maxRecDepth 100000 in
set_option maxHeartbeats 1000000 in
theorem single_clz (a : Int) (w : World) (ha : In32 a) : Calls Tryz.prog 239 #[.int .i32 a] w fun e w' => e = .returned (.int .i32 (clzI a)) ∧ Chg w w' [] := by
 have HC := hide (Chg.refl w [])
 go_enter Tryz.func239, Tryz.ntmps239
 go_wp2_with fail
 refine (clz_calls a _ ha).mono ?_
 rintro e w1 ⟨rfl, rfl⟩
 go_wp2
 go_ret
 exact ⟨rfl, HC.out⟩
set_option maxRecDepth 100000 in
set_option maxHeartbeats 1000000 in
theorem apply_clz (a : Int) (w : World) (ha : In32 a) : Calls Tryz.prog 238 #[.func (.func 239) #[] #[], .int .i32 a] w fun e w' => e = .returned (.tuple #[.int .i32 (clzI a), .bool true]) ∧ Chg w w' [] := by
 go_enter Tryz.func238, Tryz.ntmps238
 go_wp2_with fail
 refine (single_clz a _ ha).mono ?_
 rintro e w1 ⟨rfl, hc⟩
 have HC := hide hc
 clear hc
 go_wp2
 go_ret2
 exact ⟨rfl, HC.out⟩
set_option maxRecDepth 100000 in
set_option maxHeartbeats 1000000 in
theorem alone_clz (a : Int) (w : World) (ha : In32 a) : Calls Tryz.prog 231 #[.int .i64 24, .int .i32 a] w fun e w' => e = .returned (.tuple #[.int .i32 (clzI a), .bool true]) ∧ Chg w w' [] := by
 go_enter Tryz.func231, Tryz.ntmps231
 go_wp2_with fail
 refine (apply_clz a _ ha).mono ?_
 rintro e w1 ⟨rfl, hc⟩
 have HC := hide hc
 clear hc
 go_wp2
 go_ret2
 exact ⟨rfl, HC.out⟩
set_option maxRecDepth 100000 in
set_option maxHeartbeats 1000000 in
theorem product_clz (a b : Int) (w : World) (ha : In32 a) (hb : In32 b) : Calls Tryz.prog 217 #[.int .i64 24, .int .i32 a, .int .i32 b] w fun e w' => e = .returned (.tuple #[.int .i32 (clzI a), .bool true]) ∧ Chg w w' [] := by
 go_enter Tryz.func217, Tryz.ntmps217
 go_wp2_with fail
 refine (alone_clz a _ ha).mono ?_
 rintro e w1 ⟨rfl, hc⟩
 have HC := hide hc
 clear hc
 go_wp2
 go_ret2
 exact ⟨rfl, HC.out⟩
set_option maxRecDepth 100000 in
set_option maxHeartbeats 1000000 in
theorem do_clz (a b : Int) (w : World) (ha : In32 a) (hb : In32 b) : Calls Tryz.prog 207 #[.int .i64 24, .int .i32 a, .int .i32 b] w fun e w' => e = .returned (.tuple #[.int .i32 (clzI a), .bool true]) ∧ Chg w w' [] := by
 go_enter Tryz.func207, Tryz.ntmps207
 go_wp2_with fail
 refine (product_clz a b _ ha hb).mono ?_
 rintro e w1 ⟨rfl, hc⟩
 have HC := hide hc
 clear hc
 go_wp2
 go_ret2
 exact ⟨rfl, HC.out⟩
set_option maxRecDepth 100000 in
set_option maxHeartbeats 1000000 in
theorem single_neg (a : Int) (w : World) (ha : In32 a) : Calls Tryz.prog 240 #[.int .i32 a] w fun e w' => e = .returned (.int .i32 (negI a)) ∧ Chg w w' [] := by
 go_enter Tryz.func240, Tryz.ntmps240
 go_wp2_with fail
 refine (sneg_calls a _ ha).mono ?_
 rintro e w1 ⟨rfl, hc⟩
 have HC := hide hc
 clear hc
 go_wp2
 go_ret
 exact ⟨rfl, HC.out⟩
set_option maxRecDepth 100000 in
set_option maxHeartbeats 1000000 in
theorem apply_neg (a : Int) (w : World) (ha : In32 a) : Calls Tryz.prog 238 #[.func (.func 240) #[] #[], .int .i32 a] w fun e w' => e = .returned (.tuple #[.int .i32 (negI a), .bool true]) ∧ Chg w w' [] := by
 go_enter Tryz.func238, Tryz.ntmps238
 go_wp2_with fail
 refine (single_neg a _ ha).mono ?_
 rintro e w1 ⟨rfl, hc⟩
 have HC := hide hc
 clear hc
 go_wp2
 go_ret2
 exact ⟨rfl, HC.out⟩
set_option maxRecDepth 100000 in
set_option maxHeartbeats 1000000 in
theorem alone_neg (a : Int) (w : World) (ha : In32 a) : Calls Tryz.prog 231 #[.int .i64 25, .int .i32 a] w fun e w' => e = .returned (.tuple #[.int .i32 (negI a), .bool true]) ∧ Chg w w' [] := by
 go_enter Tryz.func231, Tryz.ntmps231
 go_wp2_with fail
 refine (apply_neg a _ ha).mono ?_
 rintro e w1 ⟨rfl, hc⟩
 have HC := hide hc
 clear hc
 go_wp2
 go_ret2
 exact ⟨rfl, HC.out⟩
set_option maxRecDepth 100000 in
set_option maxHeartbeats 1000000 in
theorem product_neg (a b : Int) (w : World) (ha : In32 a) (hb : In32 b) : Calls Tryz.prog 217 #[.int .i64 25, .int .i32 a, .int .i32 b] w fun e w' => e = .returned (.tuple #[.int .i32 (negI a), .bool true]) ∧ Chg w w' [] := by
 go_enter Tryz.func217, Tryz.ntmps217
 go_wp2_with fail
 refine (alone_neg a _ ha).mono ?_
 rintro e w1 ⟨rfl, hc⟩
 have HC := hide hc
 clear hc
 go_wp2
 go_ret2
 exact ⟨rfl, HC.out⟩
set_option maxRecDepth 100000 in
set_option maxHeartbeats 1000000 in
theorem do_neg (a b : Int) (w : World) (ha : In32 a) (hb : In32 b) : Calls Tryz.prog 207 #[.int .i64 25, .int .i32 a, .int .i32 b] w fun e w' => e = .returned (.tuple #[.int .i32 (negI a), .bool true]) ∧ Chg w w' [] := by
 go_enter Tryz.func207, Tryz.ntmps207
 go_wp2_with fail
 refine (product_neg a b _ ha hb).mono ?_
 rintro e w1 ⟨rfl, hc⟩
 have HC := hide hc
 clear hc
 go_wp2
 go_ret2
 exact ⟨rfl, HC.out⟩
set_option maxRecDepth 100000 in
set_option maxHeartbeats 1000000 in
theorem single_abs (a : Int) (w : World) (ha : In32 a) : Calls Tryz.prog 241 #[.int .i32 a] w fun e w' => e = .returned (.int .i32 (absI a)) ∧ Chg w w' [] := by
 go_enter Tryz.func241, Tryz.ntmps241
 go_wp2_with fail
 refine (sabs_calls a _ ha).mono ?_
 rintro e w1 ⟨rfl, hc⟩
 have HC := hide hc
 clear hc
 go_wp2
 go_ret
 exact ⟨rfl, HC.out⟩
set_option maxRecDepth 100000 in
set_option maxHeartbeats 1000000 in
theorem apply_abs (a : Int) (w : World) (ha : In32 a) : Calls Tryz.prog 238 #[.func (.func 241) #[] #[], .int .i32 a] w fun e w' => e = .returned (.tuple #[.int .i32 (absI a), .bool true]) ∧ Chg w w' [] := by
 go_enter Tryz.func238, Tryz.ntmps238
 go_wp2_with fail
 refine (single_abs a _ ha).mono ?_
 rintro e w1 ⟨rfl, hc⟩
 have HC := hide hc
 clear hc
 go_wp2
 go_ret2
 exact ⟨rfl, HC.out⟩
set_option maxRecDepth 100000 in
set_option maxHeartbeats 1000000 in
theorem alone_abs (a : Int) (w : World) (ha : In32 a) : Calls Tryz.prog 231 #[.int .i64 26, .int .i32 a] w fun e w' => e = .returned (.tuple #[.int .i32 (absI a), .bool true]) ∧ Chg w w' [] := by
 go_enter Tryz.func231, Tryz.ntmps231
 go_wp2_with fail
 refine (apply_abs a _ ha).mono ?_
 rintro e w1 ⟨rfl, hc⟩
 have HC := hide hc
 clear hc
 go_wp2
 go_ret2
 exact ⟨rfl, HC.out⟩
set_option maxRecDepth 100000 in
set_option maxHeartbeats 1000000 in
theorem product_abs (a b : Int) (w : World) (ha : In32 a) (hb : In32 b) : Calls Tryz.prog 217 #[.int .i64 26, .int .i32 a, .int .i32 b] w fun e w' => e = .returned (.tuple #[.int .i32 (absI a), .bool true]) ∧ Chg w w' [] := by
 go_enter Tryz.func217, Tryz.ntmps217
 go_wp2_with fail
 refine (alone_abs a _ ha).mono ?_
 rintro e w1 ⟨rfl, hc⟩
 have HC := hide hc
 clear hc
 go_wp2
 go_ret2
 exact ⟨rfl, HC.out⟩
set_option maxRecDepth 100000 in
set_option maxHeartbeats 1000000 in
theorem do_abs (a b : Int) (w : World) (ha : In32 a) (hb : In32 b) : Calls Tryz.prog 207 #[.int .i64 26, .int .i32 a, .int .i32 b] w fun e w' => e = .returned (.tuple #[.int .i32 (absI a), .bool true]) ∧ Chg w w' [] := by
 go_enter Tryz.func207, Tryz.ntmps207
 go_wp2_with fail
 refine (product_abs a b _ ha hb).mono ?_
 rintro e w1 ⟨rfl, hc⟩
 have HC := hide hc
 clear hc
 go_wp2
 go_ret2
 exact ⟨rfl, HC.out⟩
set_option maxRecDepth 100000 in
set_option maxHeartbeats 1000000 in
theorem single_sign (a : Int) (w : World) (ha : In32 a) : Calls Tryz.prog 243 #[.int .i32 a] w fun e w' => e = .returned (.int .i32 (signI a)) ∧ Chg w w' [] := by
 have HC := hide (Chg.refl w [])
 go_enter Tryz.func243, Tryz.ntmps243
 go_wp2_with fail
 refine (sign_calls a _).mono ?_
 rintro e w1 ⟨rfl, rfl⟩
 go_wp2
 go_ret
 exact ⟨rfl, HC.out⟩
set_option maxRecDepth 100000 in
set_option maxHeartbeats 1000000 in
theorem apply_sign (a : Int) (w : World) (ha : In32 a) : Calls Tryz.prog 238 #[.func (.func 243) #[] #[], .int .i32 a] w fun e w' => e = .returned (.tuple #[.int .i32 (signI a), .bool true]) ∧ Chg w w' [] := by
 go_enter Tryz.func238, Tryz.ntmps238
 go_wp2_with fail
 refine (single_sign a _ ha).mono ?_
 rintro e w1 ⟨rfl, hc⟩
 have HC := hide hc
 clear hc
 go_wp2
 go_ret2
 exact ⟨rfl, HC.out⟩
set_option maxRecDepth 100000 in
set_option maxHeartbeats 1000000 in
theorem alone_sign (a : Int) (w : World) (ha : In32 a) : Calls Tryz.prog 231 #[.int .i64 28, .int .i32 a] w fun e w' => e = .returned (.tuple #[.int .i32 (signI a), .bool true]) ∧ Chg w w' [] := by
 go_enter Tryz.func231, Tryz.ntmps231
 go_wp2_with fail
 refine (apply_sign a _ ha).mono ?_
 rintro e w1 ⟨rfl, hc⟩
 have HC := hide hc
 clear hc
 go_wp2
 go_ret2
 exact ⟨rfl, HC.out⟩
set_option maxRecDepth 100000 in
set_option maxHeartbeats 1000000 in
theorem product_sign (a b : Int) (w : World) (ha : In32 a) (hb : In32 b) : Calls Tryz.prog 217 #[.int .i64 28, .int .i32 a, .int .i32 b] w fun e w' => e = .returned (.tuple #[.int .i32 (signI a), .bool true]) ∧ Chg w w' [] := by
 go_enter Tryz.func217, Tryz.ntmps217
 go_wp2_with fail
 refine (alone_sign a _ ha).mono ?_
 rintro e w1 ⟨rfl, hc⟩
 have HC := hide hc
 clear hc
 go_wp2
 go_ret2
 exact ⟨rfl, HC.out⟩
set_option maxRecDepth 100000 in
set_option maxHeartbeats 1000000 in
theorem do_sign (a b : Int) (w : World) (ha : In32 a) (hb : In32 b) : Calls Tryz.prog 207 #[.int .i64 28, .int .i32 a, .int .i32 b] w fun e w' => e = .returned (.tuple #[.int .i32 (signI a), .bool true]) ∧ Chg w w' [] := by
 go_enter Tryz.func207, Tryz.ntmps207
 go_wp2_with fail
 refine (product_sign a b _ ha hb).mono ?_
 rintro e w1 ⟨rfl, hc⟩
 have HC := hide hc
 clear hc
 go_wp2
 go_ret2
 exact ⟨rfl, HC.out⟩
end Go.Proofs.YtihgijhjhmjolaaGreatDoor

/- mill.Plain and mill.Work at numbers. -/
namespace Go.Proofs.YtihgijhjhmjolaaGreatDoor
open Go.RowKit Go.Deep
set_option linter.unusedVariables false
set_option maxHeartbeats 400000 in
theorem plain_do (op : Int) (p : Value) (r : Int) (a b : Int) (w : World) (h : Calls Tryz.prog 207 #[.int .i64 op, .int .i32 a, .int .i32 b] w fun e w' => e = .returned (.tuple #[.int .i32 r, .bool true]) ∧ Chg w w' []) :
 Calls Tryz.prog 201 #[p, .int .i64 op, .int .i32 a, .int .i32 b] w fun e w' => e = .returned (.int .i32 r) ∧ Chg w w' [] := by
 go_enter Tryz.func201, Tryz.ntmps201
 go_wp2_with fail
 refine h.mono ?_
 rintro e w1 ⟨rfl, hc⟩
 have HC := hide hc
 clear hc h
 go_wp2
 go_ret
 exact ⟨rfl, HC.out⟩
theorem nil_do (p : Addr) (w : World) : (nilAhead 372 152 (.pointer (some p)) "Do").run Tryz.prog w = .ok (some false) w := by kernel_rfl
theorem meth_do (p : Addr) (w : World) : (method 372 152 (.pointer (some p)) "Do").run Tryz.prog w = .ok (201, .pointer (some p)) w := by kernel_rfl
def wk (p : Addr) : Value := .agg #[.iface 152 (.pointer (some p))]
set_option maxRecDepth 100000 in
set_option maxHeartbeats 1000000 in
theorem work_add (p : Addr) (a b : Int) (w : World) (ha : In32 a) (hb : In32 b) :
 Calls Tryz.prog 144 #[wk p, .int .i32 a, .int .i32 b] w fun e w' => e = .returned (.int .i32 (addI a b)) ∧ Chg w w' [] := by
 unfold wk
 have hn := nil_do p
 have hm := meth_do p
 go_enter Tryz.func144, Tryz.ntmps144
 go_wp2_with fail
 refine (plain_do 1 _ _ a b _ (do_add a b _ ha hb)).mono ?_
 rintro e w1 ⟨rfl, hc⟩
 have HC := hide (((Chg.refl w []).alloc _).trans hc (by simp))
 clear hc
 go_wp2
 go_ret
 exact ⟨rfl, HC.out⟩
set_option maxRecDepth 100000 in
set_option maxHeartbeats 1000000 in
theorem work_sub (p : Addr) (a b : Int) (w : World) (ha : In32 a) (hb : In32 b) :
 Calls Tryz.prog 123 #[wk p, .int .i32 a, .int .i32 b] w fun e w' => e = .returned (.int .i32 (subI a b)) ∧ Chg w w' [] := by
 unfold wk
 have hn := nil_do p
 have hm := meth_do p
 go_enter Tryz.func123, Tryz.ntmps123
 go_wp2_with fail
 refine (plain_do 2 _ _ a b _ (do_sub a b _ ha hb)).mono ?_
 rintro e w1 ⟨rfl, hc⟩
 have HC := hide (((Chg.refl w []).alloc _).trans hc (by simp))
 clear hc
 go_wp2
 go_ret
 exact ⟨rfl, HC.out⟩
set_option maxRecDepth 100000 in
set_option maxHeartbeats 1000000 in
theorem work_adds (p : Addr) (a b : Int) (w : World) (ha : In32 a) (hb : In32 b) :
 Calls Tryz.prog 92 #[wk p, .int .i32 a, .int .i32 b] w fun e w' => e = .returned (.int .i32 (addsI a b)) ∧ Chg w w' [] := by
 unfold wk
 have hn := nil_do p
 have hm := meth_do p
 go_enter Tryz.func92, Tryz.ntmps92
 go_wp2_with fail
 refine (plain_do 3 _ _ a b _ (do_adds a b _ ha hb)).mono ?_
 rintro e w1 ⟨rfl, hc⟩
 have HC := hide (((Chg.refl w []).alloc _).trans hc (by simp))
 clear hc
 go_wp2
 go_ret
 exact ⟨rfl, HC.out⟩
set_option maxRecDepth 100000 in
set_option maxHeartbeats 1000000 in
theorem work_subs (p : Addr) (a b : Int) (w : World) (ha : In32 a) (hb : In32 b) :
 Calls Tryz.prog 98 #[wk p, .int .i32 a, .int .i32 b] w fun e w' => e = .returned (.int .i32 (subsI a b)) ∧ Chg w w' [] := by
 unfold wk
 have hn := nil_do p
 have hm := meth_do p
 go_enter Tryz.func98, Tryz.ntmps98
 go_wp2_with fail
 refine (plain_do 4 _ _ a b _ (do_subs a b _ ha hb)).mono ?_
 rintro e w1 ⟨rfl, hc⟩
 have HC := hide (((Chg.refl w []).alloc _).trans hc (by simp))
 clear hc
 go_wp2
 go_ret
 exact ⟨rfl, HC.out⟩
set_option maxRecDepth 100000 in
set_option maxHeartbeats 1000000 in
theorem work_and (p : Addr) (a b : Int) (w : World) (ha : In32 a) (hb : In32 b) :
 Calls Tryz.prog 93 #[wk p, .int .i32 a, .int .i32 b] w fun e w' => e = .returned (.int .i32 (andI a b)) ∧ Chg w w' [] := by
 unfold wk
 have hn := nil_do p
 have hm := meth_do p
 go_enter Tryz.func93, Tryz.ntmps93
 go_wp2_with fail
 refine (plain_do 5 _ _ a b _ (do_and a b _ ha hb)).mono ?_
 rintro e w1 ⟨rfl, hc⟩
 have HC := hide (((Chg.refl w []).alloc _).trans hc (by simp))
 clear hc
 go_wp2
 go_ret
 exact ⟨rfl, HC.out⟩
set_option maxRecDepth 100000 in
set_option maxHeartbeats 1000000 in
theorem work_or (p : Addr) (a b : Int) (w : World) (ha : In32 a) (hb : In32 b) :
 Calls Tryz.prog 142 #[wk p, .int .i32 a, .int .i32 b] w fun e w' => e = .returned (.int .i32 (orI a b)) ∧ Chg w w' [] := by
 unfold wk
 have hn := nil_do p
 have hm := meth_do p
 go_enter Tryz.func142, Tryz.ntmps142
 go_wp2_with fail
 refine (plain_do 6 _ _ a b _ (do_or a b _ ha hb)).mono ?_
 rintro e w1 ⟨rfl, hc⟩
 have HC := hide (((Chg.refl w []).alloc _).trans hc (by simp))
 clear hc
 go_wp2
 go_ret
 exact ⟨rfl, HC.out⟩
set_option maxRecDepth 100000 in
set_option maxHeartbeats 1000000 in
theorem work_xor (p : Addr) (a b : Int) (w : World) (ha : In32 a) (hb : In32 b) :
 Calls Tryz.prog 179 #[wk p, .int .i32 a, .int .i32 b] w fun e w' => e = .returned (.int .i32 (xorI a b)) ∧ Chg w w' [] := by
 unfold wk
 have hn := nil_do p
 have hm := meth_do p
 go_enter Tryz.func179, Tryz.ntmps179
 go_wp2_with fail
 refine (plain_do 7 _ _ a b _ (do_xor a b _ ha hb)).mono ?_
 rintro e w1 ⟨rfl, hc⟩
 have HC := hide (((Chg.refl w []).alloc _).trans hc (by simp))
 clear hc
 go_wp2
 go_ret
 exact ⟨rfl, HC.out⟩
set_option maxRecDepth 100000 in
set_option maxHeartbeats 1000000 in
theorem work_bic (p : Addr) (a b : Int) (w : World) (ha : In32 a) (hb : In32 b) :
 Calls Tryz.prog 180 #[wk p, .int .i32 a, .int .i32 b] w fun e w' => e = .returned (.int .i32 (bicI a b)) ∧ Chg w w' [] := by
 unfold wk
 have hn := nil_do p
 have hm := meth_do p
 go_enter Tryz.func180, Tryz.ntmps180
 go_wp2_with fail
 refine (plain_do 8 _ _ a b _ (do_bic a b _ ha hb)).mono ?_
 rintro e w1 ⟨rfl, hc⟩
 have HC := hide (((Chg.refl w []).alloc _).trans hc (by simp))
 clear hc
 go_wp2
 go_ret
 exact ⟨rfl, HC.out⟩
set_option maxRecDepth 100000 in
set_option maxHeartbeats 1000000 in
theorem work_shl (p : Addr) (a b : Int) (w : World) (ha : In32 a) (hb : In32 b) :
 Calls Tryz.prog 155 #[wk p, .int .i32 a, .int .i32 b] w fun e w' => e = .returned (.int .i32 (shlI a b)) ∧ Chg w w' [] := by
 unfold wk
 have hn := nil_do p
 have hm := meth_do p
 go_enter Tryz.func155, Tryz.ntmps155
 go_wp2_with fail
 refine (plain_do 9 _ _ a b _ (do_shl a b _ ha hb)).mono ?_
 rintro e w1 ⟨rfl, hc⟩
 have HC := hide (((Chg.refl w []).alloc _).trans hc (by simp))
 clear hc
 go_wp2
 go_ret
 exact ⟨rfl, HC.out⟩
set_option maxRecDepth 100000 in
set_option maxHeartbeats 1000000 in
theorem work_shr (p : Addr) (a b : Int) (w : World) (ha : In32 a) (hb : In32 b) :
 Calls Tryz.prog 164 #[wk p, .int .i32 a, .int .i32 b] w fun e w' => e = .returned (.int .i32 (shrI a b)) ∧ Chg w w' [] := by
 unfold wk
 have hn := nil_do p
 have hm := meth_do p
 go_enter Tryz.func164, Tryz.ntmps164
 go_wp2_with fail
 refine (plain_do 10 _ _ a b _ (do_shr a b _ ha hb)).mono ?_
 rintro e w1 ⟨rfl, hc⟩
 have HC := hide (((Chg.refl w []).alloc _).trans hc (by simp))
 clear hc
 go_wp2
 go_ret
 exact ⟨rfl, HC.out⟩
set_option maxRecDepth 100000 in
set_option maxHeartbeats 1000000 in
theorem work_sar (p : Addr) (a b : Int) (w : World) (ha : In32 a) (hb : In32 b) :
 Calls Tryz.prog 159 #[wk p, .int .i32 a, .int .i32 b] w fun e w' => e = .returned (.int .i32 (sarI a b)) ∧ Chg w w' [] := by
 unfold wk
 have hn := nil_do p
 have hm := meth_do p
 go_enter Tryz.func159, Tryz.ntmps159
 go_wp2_with fail
 refine (plain_do 11 _ _ a b _ (do_sar a b _ ha hb)).mono ?_
 rintro e w1 ⟨rfl, hc⟩
 have HC := hide (((Chg.refl w []).alloc _).trans hc (by simp))
 clear hc
 go_wp2
 go_ret
 exact ⟨rfl, HC.out⟩
set_option maxRecDepth 100000 in
set_option maxHeartbeats 1000000 in
theorem work_slt (p : Addr) (a b : Int) (w : World) (ha : In32 a) (hb : In32 b) :
 Calls Tryz.prog 124 #[wk p, .int .i32 a, .int .i32 b] w fun e w' => e = .returned (.int .i32 (ltI a b)) ∧ Chg w w' [] := by
 unfold wk
 have hn := nil_do p
 have hm := meth_do p
 go_enter Tryz.func124, Tryz.ntmps124
 go_wp2_with fail
 refine (plain_do 13 _ _ a b _ (do_slt a b _ ha hb)).mono ?_
 rintro e w1 ⟨rfl, hc⟩
 have HC := hide (((Chg.refl w []).alloc _).trans hc (by simp))
 clear hc
 go_wp2
 go_ret
 exact ⟨rfl, HC.out⟩
set_option maxRecDepth 100000 in
set_option maxHeartbeats 1000000 in
theorem work_sltu (p : Addr) (a b : Int) (w : World) (ha : In32 a) (hb : In32 b) :
 Calls Tryz.prog 143 #[wk p, .int .i32 a, .int .i32 b] w fun e w' => e = .returned (.int .i32 (ltuI a b)) ∧ Chg w w' [] := by
 unfold wk
 have hn := nil_do p
 have hm := meth_do p
 go_enter Tryz.func143, Tryz.ntmps143
 go_wp2_with fail
 refine (plain_do 14 _ _ a b _ (do_sltu a b _ ha hb)).mono ?_
 rintro e w1 ⟨rfl, hc⟩
 have HC := hide (((Chg.refl w []).alloc _).trans hc (by simp))
 clear hc
 go_wp2
 go_ret
 exact ⟨rfl, HC.out⟩
set_option maxRecDepth 100000 in
set_option maxHeartbeats 1000000 in
theorem work_mul (p : Addr) (a b : Int) (w : World) (ha : In32 a) (hb : In32 b) :
 Calls Tryz.prog 145 #[wk p, .int .i32 a, .int .i32 b] w fun e w' => e = .returned (.int .i32 (mulI a b)) ∧ Chg w w' [] := by
 unfold wk
 have hn := nil_do p
 have hm := meth_do p
 go_enter Tryz.func145, Tryz.ntmps145
 go_wp2_with fail
 refine (plain_do 18 _ _ a b _ (do_mul a b _ ha hb)).mono ?_
 rintro e w1 ⟨rfl, hc⟩
 have HC := hide (((Chg.refl w []).alloc _).trans hc (by simp))
 clear hc
 go_wp2
 go_ret
 exact ⟨rfl, HC.out⟩
set_option maxRecDepth 100000 in
set_option maxHeartbeats 1000000 in
theorem work_mulq (p : Addr) (a b : Int) (w : World) (ha : In32 a) (hb : In32 b) :
 Calls Tryz.prog 117 #[wk p, .int .i32 a, .int .i32 b] w fun e w' => e = .returned (.int .i32 (mulqI a b)) ∧ Chg w w' [] := by
 unfold wk
 have hn := nil_do p
 have hm := meth_do p
 go_enter Tryz.func117, Tryz.ntmps117
 go_wp2_with fail
 refine (plain_do 20 _ _ a b _ (do_mulq a b _ ha hb)).mono ?_
 rintro e w1 ⟨rfl, hc⟩
 have HC := hide (((Chg.refl w []).alloc _).trans hc (by simp))
 clear hc
 go_wp2
 go_ret
 exact ⟨rfl, HC.out⟩
set_option maxRecDepth 100000 in
set_option maxHeartbeats 1000000 in
theorem work_clz (p : Addr) (a : Int) (w : World) (ha : In32 a) :
 Calls Tryz.prog 162 #[wk p, .int .i32 a] w fun e w' => e = .returned (.int .i32 (clzI a)) ∧ Chg w w' [] := by
 unfold wk
 have hn := nil_do p
 have hm := meth_do p
 go_enter Tryz.func162, Tryz.ntmps162
 go_wp2_with fail
 refine (plain_do 24 _ _ a a _ (do_clz a a _ ha ha)).mono ?_
 rintro e w1 ⟨rfl, hc⟩
 have HC := hide (((Chg.refl w []).alloc _).trans hc (by simp))
 clear hc
 go_wp2
 go_ret
 exact ⟨rfl, HC.out⟩
set_option maxRecDepth 100000 in
set_option maxHeartbeats 1000000 in
theorem work_neg (p : Addr) (a : Int) (w : World) (ha : In32 a) :
 Calls Tryz.prog 154 #[wk p, .int .i32 a] w fun e w' => e = .returned (.int .i32 (negI a)) ∧ Chg w w' [] := by
 unfold wk
 have hn := nil_do p
 have hm := meth_do p
 go_enter Tryz.func154, Tryz.ntmps154
 go_wp2_with fail
 refine (plain_do 25 _ _ a a _ (do_neg a a _ ha ha)).mono ?_
 rintro e w1 ⟨rfl, hc⟩
 have HC := hide (((Chg.refl w []).alloc _).trans hc (by simp))
 clear hc
 go_wp2
 go_ret
 exact ⟨rfl, HC.out⟩
set_option maxRecDepth 100000 in
set_option maxHeartbeats 1000000 in
theorem work_abs (p : Addr) (a : Int) (w : World) (ha : In32 a) :
 Calls Tryz.prog 125 #[wk p, .int .i32 a] w fun e w' => e = .returned (.int .i32 (absI a)) ∧ Chg w w' [] := by
 unfold wk
 have hn := nil_do p
 have hm := meth_do p
 go_enter Tryz.func125, Tryz.ntmps125
 go_wp2_with fail
 refine (plain_do 26 _ _ a a _ (do_abs a a _ ha ha)).mono ?_
 rintro e w1 ⟨rfl, hc⟩
 have HC := hide (((Chg.refl w []).alloc _).trans hc (by simp))
 clear hc
 go_wp2
 go_ret
 exact ⟨rfl, HC.out⟩
set_option maxRecDepth 100000 in
set_option maxHeartbeats 1000000 in
theorem work_sign (p : Addr) (a : Int) (w : World) (ha : In32 a) :
 Calls Tryz.prog 167 #[wk p, .int .i32 a] w fun e w' => e = .returned (.int .i32 (signI a)) ∧ Chg w w' [] := by
 unfold wk
 have hn := nil_do p
 have hm := meth_do p
 go_enter Tryz.func167, Tryz.ntmps167
 go_wp2_with fail
 refine (plain_do 28 _ _ a a _ (do_sign a a _ ha ha)).mono ?_
 rintro e w1 ⟨rfl, hc⟩
 have HC := hide (((Chg.refl w []).alloc _).trans hc (by simp))
 clear hc
 go_wp2
 go_ret
 exact ⟨rfl, HC.out⟩
end Go.Proofs.YtihgijhjhmjolaaGreatDoor

/- min, max; the worker's Const, Up, Down. -/
namespace Go.Proofs.YtihgijhjhmjolaaGreatDoor
open Go.RowKit Go.Deep
set_option linter.unusedVariables false
def minI (a b : Int) : Int := min a b
def maxI (a b : Int) : Int := max a b
set_option maxRecDepth 100000 in
set_option maxHeartbeats 1000000 in
theorem do_min (a b : Int) (w : World) (ha : In32 a) (hb : In32 b) : Calls Tryz.prog 207 #[.int .i64 16, .int .i32 a, .int .i32 b] w fun e w' => e = .returned (.tuple #[.int .i32 (minI a b), .bool true]) ∧ Chg w w' [] := by
 have HC := hide (Chg.refl w [])
 go_enter Tryz.func207, Tryz.ntmps207
 go_wp2
 go_ret2
 exact ⟨rfl, HC.out⟩
set_option maxRecDepth 100000 in
set_option maxHeartbeats 1000000 in
theorem do_max (a b : Int) (w : World) (ha : In32 a) (hb : In32 b) : Calls Tryz.prog 207 #[.int .i64 17, .int .i32 a, .int .i32 b] w fun e w' => e = .returned (.tuple #[.int .i32 (maxI a b), .bool true]) ∧ Chg w w' [] := by
 have HC := hide (Chg.refl w [])
 go_enter Tryz.func207, Tryz.ntmps207
 go_wp2
 go_ret2
 exact ⟨rfl, HC.out⟩
set_option maxRecDepth 100000 in
set_option maxHeartbeats 1000000 in
theorem work_min (p : Addr) (a b : Int) (w : World) (ha : In32 a) (hb : In32 b) :
 Calls Tryz.prog 157 #[wk p, .int .i32 a, .int .i32 b] w fun e w' => e = .returned (.int .i32 (minI a b)) ∧ Chg w w' [] := by
 unfold wk
 have hn := nil_do p
 have hm := meth_do p
 go_enter Tryz.func157, Tryz.ntmps157
 go_wp2_with fail
 refine (plain_do 16 _ _ a b _ (do_min a b _ ha hb)).mono ?_
 rintro e w1 ⟨rfl, hc⟩
 have HC := hide (((Chg.refl w []).alloc _).trans hc (by simp))
 clear hc
 go_wp2
 go_ret
 exact ⟨rfl, HC.out⟩
set_option maxRecDepth 100000 in
set_option maxHeartbeats 1000000 in
theorem work_max (p : Addr) (a b : Int) (w : World) (ha : In32 a) (hb : In32 b) :
 Calls Tryz.prog 158 #[wk p, .int .i32 a, .int .i32 b] w fun e w' => e = .returned (.int .i32 (maxI a b)) ∧ Chg w w' [] := by
 unfold wk
 have hn := nil_do p
 have hm := meth_do p
 go_enter Tryz.func158, Tryz.ntmps158
 go_wp2_with fail
 refine (plain_do 17 _ _ a b _ (do_max a b _ ha hb)).mono ?_
 rintro e w1 ⟨rfl, hc⟩
 have HC := hide (((Chg.refl w []).alloc _).trans hc (by simp))
 clear hc
 go_wp2
 go_ret
 exact ⟨rfl, HC.out⟩
theorem nil_const (p : Addr) (w : World) : (nilAhead 372 152 (.pointer (some p)) "Const").run Tryz.prog w = .ok (some false) w := by kernel_rfl
theorem meth_const (p : Addr) (w : World) : (method 372 152 (.pointer (some p)) "Const").run Tryz.prog w = .ok (200, .pointer (some p)) w := by kernel_rfl
theorem plain_const (p : Addr) (n : Int) (w : World) : Calls Tryz.prog 200 #[.pointer (some p), .int .i32 n] w fun e w' => e = .returned (.int .i32 n) ∧ w = w' := by
 go_enter Tryz.func200, Tryz.ntmps200
 go_wp2
 go_ret
 exact ⟨rfl, rfl⟩
theorem keepU {w0 w1 w2 : World} {q : Addr} {v : Value} (hc : Chg w1 w2 []) (h : Chg w0 w1 [] ∧ w1.cell? q = some v) : Chg w0 w2 [] ∧ w2.cell? q = some v := ⟨h.1.trans hc (by simp), hc.cell h.2 (by simp)⟩
set_option maxRecDepth 100000 in
set_option maxHeartbeats 1000000 in
theorem work_up (p : Addr) (a n : Int) (w : World) (ha : In32 a) (hn : In32 n) :
 Calls Tryz.prog 95 #[wk p, .int .i32 a, .int .i32 n] w fun e w' => e = .returned (.int .i32 (shlI a n)) ∧ Chg w w' [] := by
 have g0 := (Blk.new w 106 [.iface 152 (.pointer (some p))]).cell' (i := 0) rfl
 have HC := hide ((Chg.refl w []).alloc (.cells #[.iface 152 (.pointer (some p))] 106))
 have kS : Hid (∀ W : World, Calls Tryz.prog 155 #[.agg #[.iface 152 (.pointer (some p))], .int .i32 a, .int .i32 n] W fun e w' => e = .returned (.int .i32 (shlI a n)) ∧ Chg W w' []) := hide (fun W => work_shl p a n W ha hn)
 unfold wk
 have h1 := nil_const p
 have h2 := meth_const p
 go_enter Tryz.func95, Tryz.ntmps95
 go_wp2_with fail
 generalize (w.alloc (.cells #[.iface 152 (.pointer (some p))] 106)) = w6 at *
 go_region_held3 (fun w' => Chg w6 w' [] ∧ w'.cell? ⟨w.heap.size, 0, none⟩ = some (.iface 152 (.pointer (some p))))
  (first | exact ⟨(Chg.refl w6 []).drew, g0⟩ | exact keepU hcX (by assumption))
  (first | (go_at_call 200; refine (plain_const _ _ _).mono ?_; rintro e w7 ⟨rfl, rfl⟩) | (go_at_call 155; refine (kS.out _).mono ?_; rintro e w7 ⟨rfl, hcX⟩))
 have hlast := ‹Chg w6 _ [] ∧ _›
 go_wp2
 go_ret
 exact ⟨rfl, HC.out.trans hlast.1 (by simp)⟩
set_option maxRecDepth 100000 in
set_option maxHeartbeats 1000000 in
theorem work_down (p : Addr) (a n : Int) (w : World) (ha : In32 a) (hn : In32 n) :
 Calls Tryz.prog 99 #[wk p, .int .i32 a, .int .i32 n] w fun e w' => e = .returned (.int .i32 (sarI a n)) ∧ Chg w w' [] := by
 have g0 := (Blk.new w 106 [.iface 152 (.pointer (some p))]).cell' (i := 0) rfl
 have HC := hide ((Chg.refl w []).alloc (.cells #[.iface 152 (.pointer (some p))] 106))
 have kS : Hid (∀ W : World, Calls Tryz.prog 159 #[.agg #[.iface 152 (.pointer (some p))], .int .i32 a, .int .i32 n] W fun e w' => e = .returned (.int .i32 (sarI a n)) ∧ Chg W w' []) := hide (fun W => work_sar p a n W ha hn)
 unfold wk
 have h1 := nil_const p
 have h2 := meth_const p
 go_enter Tryz.func99, Tryz.ntmps99
 go_wp2_with fail
 generalize (w.alloc (.cells #[.iface 152 (.pointer (some p))] 106)) = w6 at *
 go_region_held3 (fun w' => Chg w6 w' [] ∧ w'.cell? ⟨w.heap.size, 0, none⟩ = some (.iface 152 (.pointer (some p))))
  (first | exact ⟨(Chg.refl w6 []).drew, g0⟩ | exact keepU hcX (by assumption))
  (first | (go_at_call 200; refine (plain_const _ _ _).mono ?_; rintro e w7 ⟨rfl, rfl⟩) | (go_at_call 159; refine (kS.out _).mono ?_; rintro e w7 ⟨rfl, hcX⟩))
 have hlast := ‹Chg w6 _ [] ∧ _›
 go_wp2
 go_ret
 exact ⟨rfl, HC.out.trans hlast.1 (by simp)⟩
end Go.Proofs.YtihgijhjhmjolaaGreatDoor

/- What each operation reckons is a word. -/
namespace Go.Proofs.YtihgijhjhmjolaaGreatDoor
open Go.RowKit Go.Deep
set_option linter.unusedVariables false
theorem in_wrap (n : Int) : In32 (wrap32 n) := by unfold In32 wrap32; omega
theorem in_sat (n : Int) : In32 (satI n) := by unfold In32 satI; omega
theorem in_add (a b : Int) : In32 (addI a b) := in_wrap _
theorem in_sub (a b : Int) : In32 (subI a b) := in_wrap _
theorem in_adds (a b : Int) : In32 (addsI a b) := in_sat _
theorem in_subs (a b : Int) : In32 (subsI a b) := in_sat _
theorem wrap_i32' (n : Int) : IntKind.i32.wrap n = wrap32 n := by rw [IntKind.wrap_i32]; unfold wrap32; rfl
theorem in_and (a b : Int) : In32 (andI a b) := by
 show In32 (IntKind.i32.wrap _); rw [wrap_i32']; exact in_wrap _
theorem in_or (a b : Int) : In32 (orI a b) := by
 show In32 (IntKind.i32.wrap _); rw [wrap_i32']; exact in_wrap _
theorem in_xor (a b : Int) : In32 (xorI a b) := by
 show In32 (IntKind.i32.wrap _); rw [wrap_i32']; exact in_wrap _
theorem in_bic (a b : Int) : In32 (bicI a b) := by
 show In32 (IntKind.i32.wrap _); rw [wrap_i32']; exact in_wrap _
theorem in_shl (a b : Int) : In32 (shlI a b) := in_wrap _
theorem in_shr (a b : Int) : In32 (shrI a b) := in_wrap _
theorem in_sar (a b : Int) (h : In32 a) : In32 (sarI a b) := by
 unfold In32 sarI at *
 have h2 : (1 : Int) ≤ 2 ^ sh b := by
  have := Nat.one_le_two_pow (n := sh b)
  exact_mod_cast this
 generalize (2 : Int) ^ sh b = d at *
 constructor
 · rw [Int.le_ediv_iff_mul_le (by omega)]
   have : (2147483648 : Int) * 1 ≤ 2147483648 * d := Int.mul_le_mul_of_nonneg_left h2 (by omega)
   omega
 · exact Int.ediv_le_of_le_mul (by omega) (by
    have : (2147483647 : Int) * 1 ≤ 2147483647 * d := Int.mul_le_mul_of_nonneg_left h2 (by omega)
    omega)
theorem in_lt (a b : Int) : In32 (ltI a b) := by unfold In32 ltI; split <;> omega
theorem in_ltu (a b : Int) : In32 (ltuI a b) := by unfold In32 ltuI; split <;> omega
theorem in_mul (a b : Int) : In32 (mulI a b) := in_wrap _
theorem in_mulq (a b : Int) : In32 (mulqI a b) := in_sat _
theorem in_neg (a : Int) : In32 (negI a) := in_sat _
theorem in_abs (a : Int) (h : In32 a) : In32 (absI a) := by have := in_neg a; unfold In32 absI at *; omega
theorem in_sign (a : Int) (h : In32 a) : In32 (signI a) := by unfold In32 signI at *; omega
theorem in_clz (a : Int) : In32 (clzI a) := by
 have := Any.bitLen_le32 (a % 4294967296) (by omega) (by omega)
 unfold In32 clzI; omega
theorem in_min (a b : Int) (ha : In32 a) (hb : In32 b) : In32 (minI a b) := by unfold In32 minI at *; omega
theorem in_max (a b : Int) (ha : In32 a) (hb : In32 b) : In32 (maxI a b) := by unfold In32 maxI at *; omega
def selI (m a b : Int) : Int := orI (andI a m) (bicI b m)
def flipI (x m : Int) : Int := subI (xorI x m) m
end Go.Proofs.YtihgijhjhmjolaaGreatDoor

/- Sel and Flip. -/
namespace Go.Proofs.YtihgijhjhmjolaaGreatDoor
open Go.RowKit Go.Deep
set_option linter.unusedVariables false
set_option maxRecDepth 100000 in
set_option maxHeartbeats 2000000 in
theorem work_flip (p : Addr) (x m : Int) (w : World) (hx : In32 x) (hm : In32 m) :
 Calls Tryz.prog 168 #[wk p, .int .i32 x, .int .i32 m] w fun e w' => e = .returned (.int .i32 (flipI x m)) ∧ Chg w w' [] := by
 have g0 := (Blk.new w 106 [.iface 152 (.pointer (some p))]).cell' (i := 0) rfl
 have HC := hide ((Chg.refl w []).alloc (.cells #[.iface 152 (.pointer (some p))] 106))
 have k1 : Hid (∀ W : World, Calls Tryz.prog 179 #[.agg #[.iface 152 (.pointer (some p))], .int .i32 x, .int .i32 m] W fun e w' => e = .returned (.int .i32 (xorI x m)) ∧ Chg W w' []) := hide (fun W => work_xor p x m W hx hm)
 have k2 : Hid (∀ W : World, Calls Tryz.prog 123 #[.agg #[.iface 152 (.pointer (some p))], .int .i32 (xorI x m), .int .i32 m] W fun e w' => e = .returned (.int .i32 (flipI x m)) ∧ Chg W w' []) := hide (fun W => work_sub p (xorI x m) m W (in_xor _ _) hm)
 unfold wk
 go_enter Tryz.func168, Tryz.ntmps168
 go_wp2_with fail
 generalize (w.alloc (.cells #[.iface 152 (.pointer (some p))] 106)) = w6 at *
 go_region_held3 (fun w' => Chg w6 w' [] ∧ w'.cell? ⟨w.heap.size, 0, none⟩ = some (.iface 152 (.pointer (some p))))
  (first | exact ⟨(Chg.refl w6 []).drew, g0⟩ | exact keepU hcX (by assumption))
  (first | (go_at_call 179; refine (k1.out _).mono ?_; rintro e w7 ⟨rfl, hcX⟩) | (go_at_call 123; refine (k2.out _).mono ?_; rintro e w7 ⟨rfl, hcX⟩))
 have hlast := ‹Chg w6 _ [] ∧ _›
 go_wp2
 go_ret
 exact ⟨rfl, HC.out.trans hlast.1 (by simp)⟩
set_option maxRecDepth 100000 in
set_option maxHeartbeats 2000000 in
theorem work_sel (p : Addr) (m a b : Int) (w : World) (hm : In32 m) (ha : In32 a) (hb : In32 b) :
 Calls Tryz.prog 169 #[wk p, .int .i32 m, .int .i32 a, .int .i32 b] w fun e w' => e = .returned (.int .i32 (selI m a b)) ∧ Chg w w' [] := by
 have g0 := (Blk.new w 106 [.iface 152 (.pointer (some p))]).cell' (i := 0) rfl
 have HC := hide ((Chg.refl w []).alloc (.cells #[.iface 152 (.pointer (some p))] 106))
 have k1 : Hid (∀ W : World, Calls Tryz.prog 93 #[.agg #[.iface 152 (.pointer (some p))], .int .i32 a, .int .i32 m] W fun e w' => e = .returned (.int .i32 (andI a m)) ∧ Chg W w' []) := hide (fun W => work_and p a m W ha hm)
 have k2 : Hid (∀ W : World, Calls Tryz.prog 180 #[.agg #[.iface 152 (.pointer (some p))], .int .i32 b, .int .i32 m] W fun e w' => e = .returned (.int .i32 (bicI b m)) ∧ Chg W w' []) := hide (fun W => work_bic p b m W hb hm)
 have k3 : Hid (∀ W : World, Calls Tryz.prog 142 #[.agg #[.iface 152 (.pointer (some p))], .int .i32 (andI a m), .int .i32 (bicI b m)] W fun e w' => e = .returned (.int .i32 (selI m a b)) ∧ Chg W w' []) := hide (fun W => work_or p _ _ W (in_and _ _) (in_bic _ _))
 unfold wk
 go_enter Tryz.func169, Tryz.ntmps169
 go_wp2_with fail
 generalize (w.alloc (.cells #[.iface 152 (.pointer (some p))] 106)) = w6 at *
 go_region_held3 (fun w' => Chg w6 w' [] ∧ w'.cell? ⟨w.heap.size, 0, none⟩ = some (.iface 152 (.pointer (some p))))
  (first | exact ⟨(Chg.refl w6 []).drew, g0⟩ | exact keepU hcX (by assumption))
  (first | (go_at_call 93; refine (k1.out _).mono ?_; rintro e w7 ⟨rfl, hcX⟩) | (go_at_call 180; refine (k2.out _).mono ?_; rintro e w7 ⟨rfl, hcX⟩) | (go_at_call 142; refine (k3.out _).mono ?_; rintro e w7 ⟨rfl, hcX⟩))
 have hlast := ‹Chg w6 _ [] ∧ _›
 go_wp2
 go_ret
 exact ⟨rfl, HC.out.trans hlast.1 (by simp)⟩
end Go.Proofs.YtihgijhjhmjolaaGreatDoor

/- Words, and the worker's methods at words. -/
namespace Go.Proofs.YtihgijhjhmjolaaGreatDoor
open Go.RowKit Go.Deep
set_option linter.unusedVariables false
structure Wd where
 v : Int
 ok : In32 v
theorem Wd.ext_ {a b : Wd} (h : a.v = b.v) : a = b := by cases a; cases b; cases h; rfl
def kW (n : Int) : Wd := ⟨wrap32 n, in_wrap n⟩
theorem kW_v {n : Int} (h : In32 n) : (kW n).v = n := by show wrap32 n = n; unfold In32 at h; unfold wrap32; omega
def addW (a b : Wd) : Wd := ⟨addI a.v b.v, in_add _ _⟩
def subW (a b : Wd) : Wd := ⟨subI a.v b.v, in_sub _ _⟩
def addsW (a b : Wd) : Wd := ⟨addsI a.v b.v, in_adds _ _⟩
def subsW (a b : Wd) : Wd := ⟨subsI a.v b.v, in_subs _ _⟩
def andW (a b : Wd) : Wd := ⟨andI a.v b.v, in_and _ _⟩
def orW (a b : Wd) : Wd := ⟨orI a.v b.v, in_or _ _⟩
def xorW (a b : Wd) : Wd := ⟨xorI a.v b.v, in_xor _ _⟩
def bicW (a b : Wd) : Wd := ⟨bicI a.v b.v, in_bic _ _⟩
def shlW (a b : Wd) : Wd := ⟨shlI a.v b.v, in_shl _ _⟩
def shrW (a b : Wd) : Wd := ⟨shrI a.v b.v, in_shr _ _⟩
def sarW (a b : Wd) : Wd := ⟨sarI a.v b.v, in_sar _ _ a.ok⟩
def sltW (a b : Wd) : Wd := ⟨ltI a.v b.v, in_lt _ _⟩
def sltuW (a b : Wd) : Wd := ⟨ltuI a.v b.v, in_ltu _ _⟩
def mulW (a b : Wd) : Wd := ⟨mulI a.v b.v, in_mul _ _⟩
def mulqW (a b : Wd) : Wd := ⟨mulqI a.v b.v, in_mulq _ _⟩
def minW (a b : Wd) : Wd := ⟨minI a.v b.v, in_min _ _ a.ok b.ok⟩
def maxW (a b : Wd) : Wd := ⟨maxI a.v b.v, in_max _ _ a.ok b.ok⟩
def clzW (a : Wd) : Wd := ⟨clzI a.v, in_clz _⟩
def negW (a : Wd) : Wd := ⟨negI a.v, in_neg _⟩
def absW (a : Wd) : Wd := ⟨absI a.v, in_abs _ a.ok⟩
def signW (a : Wd) : Wd := ⟨signI a.v, in_sign _ a.ok⟩
def selW (m a b : Wd) : Wd := orW (andW a m) (bicW b m)
def flipW (x m : Wd) : Wd := subW (xorW x m) m
def upW (a : Wd) (n : Int) : Wd := ⟨shlI a.v n, in_shl _ _⟩
def downW (a : Wd) (n : Int) : Wd := ⟨sarI a.v n, in_sar _ _ a.ok⟩
theorem w_add (p : Addr) (a b : Wd) (w : World) : Calls Tryz.prog 144 #[.agg #[.iface 152 (.pointer (some p))], .int .i32 a.v, .int .i32 b.v] w fun e w' => e = .returned (.int .i32 (addW a b).v) ∧ Chg w w' [] := work_add p a.v b.v w a.ok b.ok
theorem w_sub (p : Addr) (a b : Wd) (w : World) : Calls Tryz.prog 123 #[.agg #[.iface 152 (.pointer (some p))], .int .i32 a.v, .int .i32 b.v] w fun e w' => e = .returned (.int .i32 (subW a b).v) ∧ Chg w w' [] := work_sub p a.v b.v w a.ok b.ok
theorem w_adds (p : Addr) (a b : Wd) (w : World) : Calls Tryz.prog 92 #[.agg #[.iface 152 (.pointer (some p))], .int .i32 a.v, .int .i32 b.v] w fun e w' => e = .returned (.int .i32 (addsW a b).v) ∧ Chg w w' [] := work_adds p a.v b.v w a.ok b.ok
theorem w_subs (p : Addr) (a b : Wd) (w : World) : Calls Tryz.prog 98 #[.agg #[.iface 152 (.pointer (some p))], .int .i32 a.v, .int .i32 b.v] w fun e w' => e = .returned (.int .i32 (subsW a b).v) ∧ Chg w w' [] := work_subs p a.v b.v w a.ok b.ok
theorem w_and (p : Addr) (a b : Wd) (w : World) : Calls Tryz.prog 93 #[.agg #[.iface 152 (.pointer (some p))], .int .i32 a.v, .int .i32 b.v] w fun e w' => e = .returned (.int .i32 (andW a b).v) ∧ Chg w w' [] := work_and p a.v b.v w a.ok b.ok
theorem w_or (p : Addr) (a b : Wd) (w : World) : Calls Tryz.prog 142 #[.agg #[.iface 152 (.pointer (some p))], .int .i32 a.v, .int .i32 b.v] w fun e w' => e = .returned (.int .i32 (orW a b).v) ∧ Chg w w' [] := work_or p a.v b.v w a.ok b.ok
theorem w_xor (p : Addr) (a b : Wd) (w : World) : Calls Tryz.prog 179 #[.agg #[.iface 152 (.pointer (some p))], .int .i32 a.v, .int .i32 b.v] w fun e w' => e = .returned (.int .i32 (xorW a b).v) ∧ Chg w w' [] := work_xor p a.v b.v w a.ok b.ok
theorem w_bic (p : Addr) (a b : Wd) (w : World) : Calls Tryz.prog 180 #[.agg #[.iface 152 (.pointer (some p))], .int .i32 a.v, .int .i32 b.v] w fun e w' => e = .returned (.int .i32 (bicW a b).v) ∧ Chg w w' [] := work_bic p a.v b.v w a.ok b.ok
theorem w_shl (p : Addr) (a b : Wd) (w : World) : Calls Tryz.prog 155 #[.agg #[.iface 152 (.pointer (some p))], .int .i32 a.v, .int .i32 b.v] w fun e w' => e = .returned (.int .i32 (shlW a b).v) ∧ Chg w w' [] := work_shl p a.v b.v w a.ok b.ok
theorem w_shr (p : Addr) (a b : Wd) (w : World) : Calls Tryz.prog 164 #[.agg #[.iface 152 (.pointer (some p))], .int .i32 a.v, .int .i32 b.v] w fun e w' => e = .returned (.int .i32 (shrW a b).v) ∧ Chg w w' [] := work_shr p a.v b.v w a.ok b.ok
theorem w_sar (p : Addr) (a b : Wd) (w : World) : Calls Tryz.prog 159 #[.agg #[.iface 152 (.pointer (some p))], .int .i32 a.v, .int .i32 b.v] w fun e w' => e = .returned (.int .i32 (sarW a b).v) ∧ Chg w w' [] := work_sar p a.v b.v w a.ok b.ok
theorem w_slt (p : Addr) (a b : Wd) (w : World) : Calls Tryz.prog 124 #[.agg #[.iface 152 (.pointer (some p))], .int .i32 a.v, .int .i32 b.v] w fun e w' => e = .returned (.int .i32 (sltW a b).v) ∧ Chg w w' [] := work_slt p a.v b.v w a.ok b.ok
theorem w_sltu (p : Addr) (a b : Wd) (w : World) : Calls Tryz.prog 143 #[.agg #[.iface 152 (.pointer (some p))], .int .i32 a.v, .int .i32 b.v] w fun e w' => e = .returned (.int .i32 (sltuW a b).v) ∧ Chg w w' [] := work_sltu p a.v b.v w a.ok b.ok
theorem w_mul (p : Addr) (a b : Wd) (w : World) : Calls Tryz.prog 145 #[.agg #[.iface 152 (.pointer (some p))], .int .i32 a.v, .int .i32 b.v] w fun e w' => e = .returned (.int .i32 (mulW a b).v) ∧ Chg w w' [] := work_mul p a.v b.v w a.ok b.ok
theorem w_mulq (p : Addr) (a b : Wd) (w : World) : Calls Tryz.prog 117 #[.agg #[.iface 152 (.pointer (some p))], .int .i32 a.v, .int .i32 b.v] w fun e w' => e = .returned (.int .i32 (mulqW a b).v) ∧ Chg w w' [] := work_mulq p a.v b.v w a.ok b.ok
theorem w_min (p : Addr) (a b : Wd) (w : World) : Calls Tryz.prog 157 #[.agg #[.iface 152 (.pointer (some p))], .int .i32 a.v, .int .i32 b.v] w fun e w' => e = .returned (.int .i32 (minW a b).v) ∧ Chg w w' [] := work_min p a.v b.v w a.ok b.ok
theorem w_max (p : Addr) (a b : Wd) (w : World) : Calls Tryz.prog 158 #[.agg #[.iface 152 (.pointer (some p))], .int .i32 a.v, .int .i32 b.v] w fun e w' => e = .returned (.int .i32 (maxW a b).v) ∧ Chg w w' [] := work_max p a.v b.v w a.ok b.ok
theorem w_clz (p : Addr) (a : Wd) (w : World) : Calls Tryz.prog 162 #[.agg #[.iface 152 (.pointer (some p))], .int .i32 a.v] w fun e w' => e = .returned (.int .i32 (clzW a).v) ∧ Chg w w' [] := work_clz p a.v w a.ok
theorem w_neg (p : Addr) (a : Wd) (w : World) : Calls Tryz.prog 154 #[.agg #[.iface 152 (.pointer (some p))], .int .i32 a.v] w fun e w' => e = .returned (.int .i32 (negW a).v) ∧ Chg w w' [] := work_neg p a.v w a.ok
theorem w_abs (p : Addr) (a : Wd) (w : World) : Calls Tryz.prog 125 #[.agg #[.iface 152 (.pointer (some p))], .int .i32 a.v] w fun e w' => e = .returned (.int .i32 (absW a).v) ∧ Chg w w' [] := work_abs p a.v w a.ok
theorem w_sign (p : Addr) (a : Wd) (w : World) : Calls Tryz.prog 167 #[.agg #[.iface 152 (.pointer (some p))], .int .i32 a.v] w fun e w' => e = .returned (.int .i32 (signW a).v) ∧ Chg w w' [] := work_sign p a.v w a.ok
theorem w_sel (p : Addr) (m a b : Wd) (w : World) : Calls Tryz.prog 169 #[.agg #[.iface 152 (.pointer (some p))], .int .i32 m.v, .int .i32 a.v, .int .i32 b.v] w fun e w' => e = .returned (.int .i32 (selW m a b).v) ∧ Chg w w' [] := work_sel p m.v a.v b.v w m.ok a.ok b.ok
theorem w_flip (p : Addr) (x m : Wd) (w : World) : Calls Tryz.prog 168 #[.agg #[.iface 152 (.pointer (some p))], .int .i32 x.v, .int .i32 m.v] w fun e w' => e = .returned (.int .i32 (flipW x m).v) ∧ Chg w w' [] := work_flip p x.v m.v w x.ok m.ok
theorem w_up (p : Addr) (a : Wd) (n : Int) (w : World) (hn : In32 n) : Calls Tryz.prog 95 #[.agg #[.iface 152 (.pointer (some p))], .int .i32 a.v, .int .i32 n] w fun e w' => e = .returned (.int .i32 (upW a n).v) ∧ Chg w w' [] := work_up p a.v n w a.ok hn
theorem w_down (p : Addr) (a : Wd) (n : Int) (w : World) (hn : In32 n) : Calls Tryz.prog 99 #[.agg #[.iface 152 (.pointer (some p))], .int .i32 a.v, .int .i32 n] w fun e w' => e = .returned (.int .i32 (downW a n).v) ∧ Chg w w' [] := work_down p a.v n w a.ok hn
theorem w_const (p : Addr) (n : Int) (w : World) (hn : In32 n) : Calls Tryz.prog 200 #[.pointer (some p), .int .i32 n] w fun e w' => e = .returned (.int .i32 (kW n).v) ∧ Chg w w' [] :=
 (plain_const p n w).mono fun e w' ⟨he, hw⟩ => ⟨by rw [he, kW_v hn], hw ▸ Chg.refl w []⟩
end Go.Proofs.YtihgijhjhmjolaaGreatDoor
