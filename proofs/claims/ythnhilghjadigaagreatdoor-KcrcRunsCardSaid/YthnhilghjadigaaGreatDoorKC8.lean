/- Texts of this claim, side by side: Num2, Alu, Mill2, In32, Wd, Wdef, Ref01. -/
import Derived.Test.YthnhilghjadigaaGreatDoorKC2
import Derived.Test.YthnhilghjadigaaGreatDoorShelfB
/- fix, word, clz. -/
namespace Go.Proofs.YthnhilghjadigaaGreatDoor
open Go.RowKit Go.Deep
set_option linter.unusedVariables false
def clzI (a : Int) : Int := 32 - (Lib.bitLen (a % 4294967296).toNat : Int)
def mulI (a b : Int) : Int := wrap32 (a * b % 4294967296)
def mulqI (a b : Int) : Int := satI (a * b / 1073741824 + a * b / 536870912 % 2)
set_option maxHeartbeats 400000 in
theorem sabs_calls (a : Int) (w : World) (ha : -2147483648 ≤ a ∧ a ≤ 2147483647) :
 Calls Tryz.prog 254 #[.int .i32 a] w fun e w' => e = .returned (.int .i32 (absI a)) ∧ Chg w w' [] := by
 obtain ⟨n, hn⟩ : ∃ n, n = negI a := ⟨_, rfl⟩
 have e : absI a = max a n := by unfold absI; rw [hn]
 rw [e]
 have HN := hide hn
 clear hn e
 go_enter Tryz.func254, Tryz.ntmps254
 go_wp2_with fail
 refine (sneg_calls a _ ha).mono ?_
 rintro e w1 ⟨rfl, hc⟩
 rw [← HN.out]
 have HC := hide hc
 clear hc HN
 go_wp2
 all_goals
  go_ret
  exact ⟨by first | (rw [show max a n = if a < n then n else a by split <;> omega]; rfl) | (rw [show max a n = n by omega]; rfl) | (rw [show max a n = a by omega]; rfl), HC.out⟩
set_option maxHeartbeats 400000 in
theorem clz_calls (a : Int) (w : World) (ha : -2147483648 ≤ a ∧ a ≤ 2147483647) :
 Calls Tryz.prog 252 #[.int .i32 a] w fun e w' => e = .returned (.int .i32 (clzI a)) ∧ w = w' := by
 have l := Any.bitLen_le32 (a % 4294967296) (by omega) (by omega)
 have hw : wrap32 (32 - (Lib.bitLen (a % 4294967296).toNat : Int)) = clzI a := by unfold clzI wrap32; omega
 have HW := hide hw
 clear hw
 go_enter Tryz.func252, Tryz.ntmps252
 go_wp2_with fail
 refine (Tryz.bits_LeadingZeros32 _ _ (by omega) (by omega)).mono ?_
 rintro e w1 ⟨rfl, rfl⟩
 clear l
 generalize (32 - (Lib.bitLen (a % 4294967296).toNat : Int)) = n at *
 go_wp2
 go_ret
 exact ⟨by rw [← HW.out]; rfl, rfl⟩
set_option maxHeartbeats 400000 in
theorem mull_calls (a b : Int) (w : World) (ha : -2147483648 ≤ a ∧ a ≤ 2147483647) (hb : -2147483648 ≤ b ∧ b ≤ 2147483647) :
 Calls Tryz.prog 174 #[.int .i32 a, .int .i32 b] w fun e w' => e = .returned (.int .i32 (mulI a b)) ∧ Chg w w' [] := by
 have e : mulI a b = wrap32 (wrap64 (a * b) % 4294967296) := by
  unfold mulI
  generalize a * b = p
  unfold wrap64; congr 1; omega
 rw [e]
 clear e
 go_enter Tryz.func174, Tryz.ntmps174
 go_wp2
 go_ret
 exact ⟨rfl, (Chg.refl w []).alloc _⟩
theorem and_one_i64 (x : Int) : bits BinOp.and IntKind.i64 x 1 = x % 2 := by
 show IntKind.i64.wrap ((BitVec.ofInt 64 x &&& BitVec.ofInt 64 1).toNat : Int) = _
 have h2 : (BitVec.ofInt 64 1).toNat = 1 := by decide
 rw [BitVec.toNat_and, h2, Nat.and_one_is_mod, IntKind.wrap_i64, BitVec.toNat_ofInt]
 omega
set_option maxHeartbeats 400000 in
theorem scaled_calls (w : World) : Calls Tryz.prog 219 #[.int .i64 30] w fun e w' => e = .returned (.agg #[.func (.func 250) #[] #[.pointer (some ⟨w.heap.size, 0, none⟩)]]) ∧ Chg w w' [] ∧ w'.cell? ⟨w.heap.size, 0, none⟩ = some (.int .i64 30) ∧ w.heap.size < w'.heap.size := by
 have hc := (Blk.new w 3 [.int .i64 30])
 have hz := Blk.new (w.alloc (.cells #[.int .i64 30] 3)) 287 [(.func (.func 250) #[] #[.pointer (some ⟨w.heap.size, 0, none⟩)])]
 have h1 := hc.alloc (.cells #[(.func (.func 250) #[] #[.pointer (some ⟨w.heap.size, 0, none⟩)])] 287)
 have c1 := h1.cell' (i := 0) rfl
 have c2 := hz.cell' (i := 0) rfl
 rw [size_alloc] at c2
 have HC := hide (((Chg.refl w []).alloc (.cells #[.int .i64 30] 3)).alloc (.cells #[(.func (.func 250) #[] #[.pointer (some ⟨w.heap.size, 0, none⟩)])] 287))
 clear hc hz h1
 go_enter Tryz.func219, Tryz.ntmps219
 go_wp2
 refine bodyPost_ret (v := .agg #[.func (.func 250) #[] #[.pointer (some ⟨w.heap.size, 0, none⟩)]]) ?_ rfl ⟨rfl, HC.out, c1, by simp; omega⟩
 simp [results, Tryz.f219, go_sem, c2]
set_option maxHeartbeats 400000 in
theorem scaled1_calls (x : Int) (p : Addr) (w : World) (hp : w.cell? p = some (.int .i64 30)) (hx : -4611686018427387904 ≤ x ∧ x ≤ 4611686018427387904) : Calls Tryz.prog 250 #[.int .i64 x, .pointer (some p)] w fun e w' => e = .returned (.int .i32 (satI (x / 1073741824 + x / 536870912 % 2))) ∧ w = w' := by
 have hb := and_one_i64 (x / 536870912)
 have hw : wrap64 (x / 1073741824 + x / 536870912 % 2) = x / 1073741824 + x / 536870912 % 2 := by unfold wrap64; omega
 go_enter Tryz.func250, Tryz.ntmps250
 go_wp2
 go_ret
 exact ⟨by simp only [satI]; rfl, rfl⟩
theorem prod_bound {a b : Int} (ha : -2147483648 ≤ a ∧ a ≤ 2147483647) (hb : -2147483648 ≤ b ∧ b ≤ 2147483647) : -4611686018427387904 ≤ a * b ∧ a * b ≤ 4611686018427387904 := by
 have h : (a * b).natAbs ≤ 2147483648 * 2147483648 := by
  rw [Int.natAbs_mul]; exact Nat.mul_le_mul (by omega) (by omega)
 omega
set_option maxHeartbeats 400000 in
theorem of_calls (a b : Int) (p : Addr) (w : World) (ha : -2147483648 ≤ a ∧ a ≤ 2147483647) (hb : -2147483648 ≤ b ∧ b ≤ 2147483647) (hp : w.cell? p = some (.int .i64 30)) :
 Calls Tryz.prog 217 #[.agg #[.func (.func 250) #[] #[.pointer (some p)]], .int .i32 a, .int .i32 b] w fun e w' => e = .returned (.int .i32 (mulqI a b)) ∧ Chg w w' [] := by
 have hpb := prod_bound ha hb
 have hm : wrap64 (a * b) = a * b := by generalize a * b = p at *; unfold wrap64; omega
 have hp1 := fun o => ((Chg.refl w []).alloc o).cell hp (by simp)
 go_enter Tryz.func217, Tryz.ntmps217
 go_wp2_with fail
 refine (scaled1_calls _ _ _ (hp1 _) hpb).mono ?_
 rintro e w1 ⟨rfl, rfl⟩
 go_wp2
 go_ret
 exact ⟨rfl, (Chg.refl w []).alloc _⟩
set_option maxHeartbeats 400000 in
theorem mulq_calls (a b : Int) (w : World) (ha : -2147483648 ≤ a ∧ a ≤ 2147483647) (hb : -2147483648 ≤ b ∧ b ≤ 2147483647) :
 Calls Tryz.prog 176 #[.int .i32 a, .int .i32 b] w fun e w' => e = .returned (.int .i32 (mulqI a b)) ∧ Chg w w' [] := by
 go_enter Tryz.func176, Tryz.ntmps176
 go_wp2_with fail
 refine (scaled_calls _).mono ?_
 rintro e w1 ⟨rfl, hc, hp, _⟩
 have HC := hide hc
 clear hc
 go_wp2_with fail
 refine (of_calls a b _ _ ha hb hp).mono ?_
 rintro e w2 ⟨rfl, hc⟩
 have HC2 := hide hc
 clear hc
 go_wp2
 go_ret
 exact ⟨rfl, HC.out.trans HC2.out (by simp)⟩
end Go.Proofs.YthnhilghjadigaaGreatDoor

/- alu.Do at each operation. -/
namespace Go.Proofs.YthnhilghjadigaaGreatDoor
open Go.RowKit Go.Deep
set_option linter.unusedVariables false
def addI (a b : Int) : Int := wrap32 (a + b)
def subI (a b : Int) : Int := wrap32 (a - b)
def andI (a b : Int) : Int := bits BinOp.and IntKind.i32 a b
def orI (a b : Int) : Int := bits BinOp.or IntKind.i32 a b
def xorI (a b : Int) : Int := bits BinOp.xor IntKind.i32 a b
def bicI (a b : Int) : Int := bits BinOp.andNot IntKind.i32 a b
abbrev In32 (a : Int) : Prop := -2147483648 ≤ a ∧ a ≤ 2147483647
set_option maxRecDepth 100000 in
set_option maxHeartbeats 1000000 in
theorem do_add (a b : Int) (w : World) (ha : In32 a) (hb : In32 b) : Calls Tryz.prog 103 #[.int .i64 1, .int .i32 a, .int .i32 b] w fun e w' => e = .returned (.tuple #[.int .i32 (addI a b), .bool true]) ∧ Chg w w' [] := by
 have HC := hide (Chg.refl w [])
 go_enter Tryz.func103, Tryz.ntmps103
 go_wp2
 go_ret2
 exact ⟨rfl, HC.out⟩
set_option maxRecDepth 100000 in
set_option maxHeartbeats 1000000 in
theorem do_sub (a b : Int) (w : World) (ha : In32 a) (hb : In32 b) : Calls Tryz.prog 103 #[.int .i64 2, .int .i32 a, .int .i32 b] w fun e w' => e = .returned (.tuple #[.int .i32 (subI a b), .bool true]) ∧ Chg w w' [] := by
 have HC := hide (Chg.refl w [])
 go_enter Tryz.func103, Tryz.ntmps103
 go_wp2
 go_ret2
 exact ⟨rfl, HC.out⟩
set_option maxRecDepth 100000 in
set_option maxHeartbeats 1000000 in
theorem do_adds (a b : Int) (w : World) (ha : In32 a) (hb : In32 b) : Calls Tryz.prog 103 #[.int .i64 3, .int .i32 a, .int .i32 b] w fun e w' => e = .returned (.tuple #[.int .i32 (addsI a b), .bool true]) ∧ Chg w w' [] := by
 go_enter Tryz.func103, Tryz.ntmps103
 go_wp2_with fail
 refine (sadd_calls a b _ ha hb).mono ?_
 rintro e w1 ⟨rfl, hc⟩
 have HC := hide hc
 clear hc
 go_wp2
 go_ret2
 exact ⟨rfl, HC.out⟩
set_option maxRecDepth 100000 in
set_option maxHeartbeats 1000000 in
theorem do_subs (a b : Int) (w : World) (ha : In32 a) (hb : In32 b) : Calls Tryz.prog 103 #[.int .i64 4, .int .i32 a, .int .i32 b] w fun e w' => e = .returned (.tuple #[.int .i32 (subsI a b), .bool true]) ∧ Chg w w' [] := by
 go_enter Tryz.func103, Tryz.ntmps103
 go_wp2_with fail
 refine (ssub_calls a b _ ha hb).mono ?_
 rintro e w1 ⟨rfl, hc⟩
 have HC := hide hc
 clear hc
 go_wp2
 go_ret2
 exact ⟨rfl, HC.out⟩
set_option maxRecDepth 100000 in
set_option maxHeartbeats 1000000 in
theorem do_and (a b : Int) (w : World) (ha : In32 a) (hb : In32 b) : Calls Tryz.prog 103 #[.int .i64 5, .int .i32 a, .int .i32 b] w fun e w' => e = .returned (.tuple #[.int .i32 (andI a b), .bool true]) ∧ Chg w w' [] := by
 have HC := hide (Chg.refl w [])
 go_enter Tryz.func103, Tryz.ntmps103
 go_wp2
 go_ret2
 exact ⟨rfl, HC.out⟩
set_option maxRecDepth 100000 in
set_option maxHeartbeats 1000000 in
theorem do_or (a b : Int) (w : World) (ha : In32 a) (hb : In32 b) : Calls Tryz.prog 103 #[.int .i64 6, .int .i32 a, .int .i32 b] w fun e w' => e = .returned (.tuple #[.int .i32 (orI a b), .bool true]) ∧ Chg w w' [] := by
 have HC := hide (Chg.refl w [])
 go_enter Tryz.func103, Tryz.ntmps103
 go_wp2
 go_ret2
 exact ⟨rfl, HC.out⟩
set_option maxRecDepth 100000 in
set_option maxHeartbeats 1000000 in
theorem do_xor (a b : Int) (w : World) (ha : In32 a) (hb : In32 b) : Calls Tryz.prog 103 #[.int .i64 7, .int .i32 a, .int .i32 b] w fun e w' => e = .returned (.tuple #[.int .i32 (xorI a b), .bool true]) ∧ Chg w w' [] := by
 have HC := hide (Chg.refl w [])
 go_enter Tryz.func103, Tryz.ntmps103
 go_wp2
 go_ret2
 exact ⟨rfl, HC.out⟩
set_option maxRecDepth 100000 in
set_option maxHeartbeats 1000000 in
theorem do_bic (a b : Int) (w : World) (ha : In32 a) (hb : In32 b) : Calls Tryz.prog 103 #[.int .i64 8, .int .i32 a, .int .i32 b] w fun e w' => e = .returned (.tuple #[.int .i32 (bicI a b), .bool true]) ∧ Chg w w' [] := by
 have HC := hide (Chg.refl w [])
 go_enter Tryz.func103, Tryz.ntmps103
 go_wp2
 go_ret2
 exact ⟨rfl, HC.out⟩
set_option maxRecDepth 100000 in
set_option maxHeartbeats 1000000 in
theorem do_shl (a b : Int) (w : World) (ha : In32 a) (hb : In32 b) : Calls Tryz.prog 103 #[.int .i64 9, .int .i32 a, .int .i32 b] w fun e w' => e = .returned (.tuple #[.int .i32 (shlI a b), .bool true]) ∧ Chg w w' [] := by
 go_enter Tryz.func103, Tryz.ntmps103
 go_wp2_with fail
 refine (shl_calls a b _).mono ?_
 rintro e w1 ⟨rfl, hc⟩
 have HC := hide hc
 clear hc
 go_wp2
 go_ret2
 exact ⟨rfl, HC.out⟩
set_option maxRecDepth 100000 in
set_option maxHeartbeats 1000000 in
theorem do_shr (a b : Int) (w : World) (ha : In32 a) (hb : In32 b) : Calls Tryz.prog 103 #[.int .i64 10, .int .i32 a, .int .i32 b] w fun e w' => e = .returned (.tuple #[.int .i32 (shrI a b), .bool true]) ∧ Chg w w' [] := by
 go_enter Tryz.func103, Tryz.ntmps103
 go_wp2_with fail
 refine (shr_calls a b _).mono ?_
 rintro e w1 ⟨rfl, hc⟩
 have HC := hide hc
 clear hc
 go_wp2
 go_ret2
 exact ⟨rfl, HC.out⟩
set_option maxRecDepth 100000 in
set_option maxHeartbeats 1000000 in
theorem do_sar (a b : Int) (w : World) (ha : In32 a) (hb : In32 b) : Calls Tryz.prog 103 #[.int .i64 11, .int .i32 a, .int .i32 b] w fun e w' => e = .returned (.tuple #[.int .i32 (sarI a b), .bool true]) ∧ Chg w w' [] := by
 go_enter Tryz.func103, Tryz.ntmps103
 go_wp2_with fail
 refine (sar_calls a b _).mono ?_
 rintro e w1 ⟨rfl, hc⟩
 have HC := hide hc
 clear hc
 go_wp2
 go_ret2
 exact ⟨rfl, HC.out⟩
set_option maxRecDepth 100000 in
set_option maxHeartbeats 1000000 in
theorem do_slt (a b : Int) (w : World) (ha : In32 a) (hb : In32 b) : Calls Tryz.prog 103 #[.int .i64 13, .int .i32 a, .int .i32 b] w fun e w' => e = .returned (.tuple #[.int .i32 (ltI a b), .bool true]) ∧ Chg w w' [] := by
 have HC := hide (Chg.refl w [])
 go_enter Tryz.func103, Tryz.ntmps103
 go_wp2_with fail
 refine (less_calls a b _).mono ?_
 rintro e w1 ⟨rfl, rfl⟩
 go_wp2
 go_ret2
 exact ⟨rfl, HC.out⟩
set_option maxRecDepth 100000 in
set_option maxHeartbeats 1000000 in
theorem do_sltu (a b : Int) (w : World) (ha : In32 a) (hb : In32 b) : Calls Tryz.prog 103 #[.int .i64 14, .int .i32 a, .int .i32 b] w fun e w' => e = .returned (.tuple #[.int .i32 (ltuI a b), .bool true]) ∧ Chg w w' [] := by
 have HC := hide (Chg.refl w [])
 go_enter Tryz.func103, Tryz.ntmps103
 go_wp2_with fail
 refine (under_calls a b _).mono ?_
 rintro e w1 ⟨rfl, rfl⟩
 go_wp2
 go_ret2
 exact ⟨rfl, HC.out⟩
set_option maxRecDepth 100000 in
set_option maxHeartbeats 1000000 in
theorem do_seq (a b : Int) (w : World) (ha : In32 a) (hb : In32 b) : Calls Tryz.prog 103 #[.int .i64 15, .int .i32 a, .int .i32 b] w fun e w' => e = .returned (.tuple #[.int .i32 (eqI a b), .bool true]) ∧ Chg w w' [] := by
 have HC := hide (Chg.refl w [])
 go_enter Tryz.func103, Tryz.ntmps103
 go_wp2_with fail
 refine (same_calls a b _).mono ?_
 rintro e w1 ⟨rfl, rfl⟩
 go_wp2
 go_ret2
 exact ⟨rfl, HC.out⟩
set_option maxRecDepth 100000 in
set_option maxHeartbeats 1000000 in
theorem product_mul (a b : Int) (w : World) (ha : In32 a) (hb : In32 b) : Calls Tryz.prog 141 #[.int .i64 18, .int .i32 a, .int .i32 b] w fun e w' => e = .returned (.tuple #[.int .i32 (mulI a b), .bool true]) ∧ Chg w w' [] := by
 go_enter Tryz.func141, Tryz.ntmps141
 go_wp2_with fail
 refine (mull_calls a b _ ha hb).mono ?_
 rintro e w1 ⟨rfl, hc⟩
 have HC := hide hc
 clear hc
 go_wp2
 go_ret2
 exact ⟨rfl, HC.out⟩
set_option maxRecDepth 100000 in
set_option maxHeartbeats 1000000 in
theorem do_mul (a b : Int) (w : World) (ha : In32 a) (hb : In32 b) : Calls Tryz.prog 103 #[.int .i64 18, .int .i32 a, .int .i32 b] w fun e w' => e = .returned (.tuple #[.int .i32 (mulI a b), .bool true]) ∧ Chg w w' [] := by
 go_enter Tryz.func103, Tryz.ntmps103
 go_wp2_with fail
 refine (product_mul a b _ ha hb).mono ?_
 rintro e w1 ⟨rfl, hc⟩
 have HC := hide hc
 clear hc
 go_wp2
 go_ret2
 exact ⟨rfl, HC.out⟩
set_option maxRecDepth 100000 in
set_option maxHeartbeats 1000000 in
theorem product_mulq (a b : Int) (w : World) (ha : In32 a) (hb : In32 b) : Calls Tryz.prog 141 #[.int .i64 20, .int .i32 a, .int .i32 b] w fun e w' => e = .returned (.tuple #[.int .i32 (mulqI a b), .bool true]) ∧ Chg w w' [] := by
 go_enter Tryz.func141, Tryz.ntmps141
 go_wp2_with fail
 refine (mulq_calls a b _ ha hb).mono ?_
 rintro e w1 ⟨rfl, hc⟩
 have HC := hide hc
 clear hc
 go_wp2
 go_ret2
 exact ⟨rfl, HC.out⟩
set_option maxRecDepth 100000 in
set_option maxHeartbeats 1000000 in
theorem do_mulq (a b : Int) (w : World) (ha : In32 a) (hb : In32 b) : Calls Tryz.prog 103 #[.int .i64 20, .int .i32 a, .int .i32 b] w fun e w' => e = .returned (.tuple #[.int .i32 (mulqI a b), .bool true]) ∧ Chg w w' [] := by
 go_enter Tryz.func103, Tryz.ntmps103
 go_wp2_with fail
 refine (product_mulq a b _ ha hb).mono ?_
 rintro e w1 ⟨rfl, hc⟩
 have HC := hide hc
 clear hc
 go_wp2
 go_ret2
 exact ⟨rfl, HC.out⟩
set_option maxRecDepth 100000 in
set_option maxHeartbeats 1000000 in
theorem single_clz (a : Int) (w : World) (ha : In32 a) : Calls Tryz.prog 221 #[.int .i32 a] w fun e w' => e = .returned (.int .i32 (clzI a)) ∧ Chg w w' [] := by
 have HC := hide (Chg.refl w [])
 go_enter Tryz.func221, Tryz.ntmps221
 go_wp2_with fail
 refine (clz_calls a _ ha).mono ?_
 rintro e w1 ⟨rfl, rfl⟩
 go_wp2
 go_ret
 exact ⟨rfl, HC.out⟩
set_option maxRecDepth 100000 in
set_option maxHeartbeats 1000000 in
theorem apply_clz (a : Int) (w : World) (ha : In32 a) : Calls Tryz.prog 220 #[.func (.func 221) #[] #[], .int .i32 a] w fun e w' => e = .returned (.tuple #[.int .i32 (clzI a), .bool true]) ∧ Chg w w' [] := by
 go_enter Tryz.func220, Tryz.ntmps220
 go_wp2_with fail
 refine (single_clz a _ ha).mono ?_
 rintro e w1 ⟨rfl, hc⟩
 have HC := hide hc
 clear hc
 go_wp2
 go_ret2
 exact ⟨rfl, HC.out⟩
set_option maxRecDepth 100000 in
set_option maxHeartbeats 1000000 in
theorem alone_clz (a : Int) (w : World) (ha : In32 a) : Calls Tryz.prog 178 #[.int .i64 24, .int .i32 a] w fun e w' => e = .returned (.tuple #[.int .i32 (clzI a), .bool true]) ∧ Chg w w' [] := by
 go_enter Tryz.func178, Tryz.ntmps178
 go_wp2_with fail
 refine (apply_clz a _ ha).mono ?_
 rintro e w1 ⟨rfl, hc⟩
 have HC := hide hc
 clear hc
 go_wp2
 go_ret2
 exact ⟨rfl, HC.out⟩
set_option maxRecDepth 100000 in
set_option maxHeartbeats 1000000 in
theorem product_clz (a b : Int) (w : World) (ha : In32 a) (hb : In32 b) : Calls Tryz.prog 141 #[.int .i64 24, .int .i32 a, .int .i32 b] w fun e w' => e = .returned (.tuple #[.int .i32 (clzI a), .bool true]) ∧ Chg w w' [] := by
 go_enter Tryz.func141, Tryz.ntmps141
 go_wp2_with fail
 refine (alone_clz a _ ha).mono ?_
 rintro e w1 ⟨rfl, hc⟩
 have HC := hide hc
 clear hc
 go_wp2
 go_ret2
 exact ⟨rfl, HC.out⟩
set_option maxRecDepth 100000 in
set_option maxHeartbeats 1000000 in
theorem do_clz (a b : Int) (w : World) (ha : In32 a) (hb : In32 b) : Calls Tryz.prog 103 #[.int .i64 24, .int .i32 a, .int .i32 b] w fun e w' => e = .returned (.tuple #[.int .i32 (clzI a), .bool true]) ∧ Chg w w' [] := by
 go_enter Tryz.func103, Tryz.ntmps103
 go_wp2_with fail
 refine (product_clz a b _ ha hb).mono ?_
 rintro e w1 ⟨rfl, hc⟩
 have HC := hide hc
 clear hc
 go_wp2
 go_ret2
 exact ⟨rfl, HC.out⟩
set_option maxRecDepth 100000 in
set_option maxHeartbeats 1000000 in
theorem single_neg (a : Int) (w : World) (ha : In32 a) : Calls Tryz.prog 222 #[.int .i32 a] w fun e w' => e = .returned (.int .i32 (negI a)) ∧ Chg w w' [] := by
 go_enter Tryz.func222, Tryz.ntmps222
 go_wp2_with fail
 refine (sneg_calls a _ ha).mono ?_
 rintro e w1 ⟨rfl, hc⟩
 have HC := hide hc
 clear hc
 go_wp2
 go_ret
 exact ⟨rfl, HC.out⟩
set_option maxRecDepth 100000 in
set_option maxHeartbeats 1000000 in
theorem apply_neg (a : Int) (w : World) (ha : In32 a) : Calls Tryz.prog 220 #[.func (.func 222) #[] #[], .int .i32 a] w fun e w' => e = .returned (.tuple #[.int .i32 (negI a), .bool true]) ∧ Chg w w' [] := by
 go_enter Tryz.func220, Tryz.ntmps220
 go_wp2_with fail
 refine (single_neg a _ ha).mono ?_
 rintro e w1 ⟨rfl, hc⟩
 have HC := hide hc
 clear hc
 go_wp2
 go_ret2
 exact ⟨rfl, HC.out⟩
set_option maxRecDepth 100000 in
set_option maxHeartbeats 1000000 in
theorem alone_neg (a : Int) (w : World) (ha : In32 a) : Calls Tryz.prog 178 #[.int .i64 25, .int .i32 a] w fun e w' => e = .returned (.tuple #[.int .i32 (negI a), .bool true]) ∧ Chg w w' [] := by
 go_enter Tryz.func178, Tryz.ntmps178
 go_wp2_with fail
 refine (apply_neg a _ ha).mono ?_
 rintro e w1 ⟨rfl, hc⟩
 have HC := hide hc
 clear hc
 go_wp2
 go_ret2
 exact ⟨rfl, HC.out⟩
set_option maxRecDepth 100000 in
set_option maxHeartbeats 1000000 in
theorem product_neg (a b : Int) (w : World) (ha : In32 a) (hb : In32 b) : Calls Tryz.prog 141 #[.int .i64 25, .int .i32 a, .int .i32 b] w fun e w' => e = .returned (.tuple #[.int .i32 (negI a), .bool true]) ∧ Chg w w' [] := by
 go_enter Tryz.func141, Tryz.ntmps141
 go_wp2_with fail
 refine (alone_neg a _ ha).mono ?_
 rintro e w1 ⟨rfl, hc⟩
 have HC := hide hc
 clear hc
 go_wp2
 go_ret2
 exact ⟨rfl, HC.out⟩
set_option maxRecDepth 100000 in
set_option maxHeartbeats 1000000 in
theorem do_neg (a b : Int) (w : World) (ha : In32 a) (hb : In32 b) : Calls Tryz.prog 103 #[.int .i64 25, .int .i32 a, .int .i32 b] w fun e w' => e = .returned (.tuple #[.int .i32 (negI a), .bool true]) ∧ Chg w w' [] := by
 go_enter Tryz.func103, Tryz.ntmps103
 go_wp2_with fail
 refine (product_neg a b _ ha hb).mono ?_
 rintro e w1 ⟨rfl, hc⟩
 have HC := hide hc
 clear hc
 go_wp2
 go_ret2
 exact ⟨rfl, HC.out⟩
set_option maxRecDepth 100000 in
set_option maxHeartbeats 1000000 in
theorem single_abs (a : Int) (w : World) (ha : In32 a) : Calls Tryz.prog 223 #[.int .i32 a] w fun e w' => e = .returned (.int .i32 (absI a)) ∧ Chg w w' [] := by
 go_enter Tryz.func223, Tryz.ntmps223
 go_wp2_with fail
 refine (sabs_calls a _ ha).mono ?_
 rintro e w1 ⟨rfl, hc⟩
 have HC := hide hc
 clear hc
 go_wp2
 go_ret
 exact ⟨rfl, HC.out⟩
set_option maxRecDepth 100000 in
set_option maxHeartbeats 1000000 in
theorem apply_abs (a : Int) (w : World) (ha : In32 a) : Calls Tryz.prog 220 #[.func (.func 223) #[] #[], .int .i32 a] w fun e w' => e = .returned (.tuple #[.int .i32 (absI a), .bool true]) ∧ Chg w w' [] := by
 go_enter Tryz.func220, Tryz.ntmps220
 go_wp2_with fail
 refine (single_abs a _ ha).mono ?_
 rintro e w1 ⟨rfl, hc⟩
 have HC := hide hc
 clear hc
 go_wp2
 go_ret2
 exact ⟨rfl, HC.out⟩
set_option maxRecDepth 100000 in
set_option maxHeartbeats 1000000 in
theorem alone_abs (a : Int) (w : World) (ha : In32 a) : Calls Tryz.prog 178 #[.int .i64 26, .int .i32 a] w fun e w' => e = .returned (.tuple #[.int .i32 (absI a), .bool true]) ∧ Chg w w' [] := by
 go_enter Tryz.func178, Tryz.ntmps178
 go_wp2_with fail
 refine (apply_abs a _ ha).mono ?_
 rintro e w1 ⟨rfl, hc⟩
 have HC := hide hc
 clear hc
 go_wp2
 go_ret2
 exact ⟨rfl, HC.out⟩
set_option maxRecDepth 100000 in
set_option maxHeartbeats 1000000 in
theorem product_abs (a b : Int) (w : World) (ha : In32 a) (hb : In32 b) : Calls Tryz.prog 141 #[.int .i64 26, .int .i32 a, .int .i32 b] w fun e w' => e = .returned (.tuple #[.int .i32 (absI a), .bool true]) ∧ Chg w w' [] := by
 go_enter Tryz.func141, Tryz.ntmps141
 go_wp2_with fail
 refine (alone_abs a _ ha).mono ?_
 rintro e w1 ⟨rfl, hc⟩
 have HC := hide hc
 clear hc
 go_wp2
 go_ret2
 exact ⟨rfl, HC.out⟩
set_option maxRecDepth 100000 in
set_option maxHeartbeats 1000000 in
theorem do_abs (a b : Int) (w : World) (ha : In32 a) (hb : In32 b) : Calls Tryz.prog 103 #[.int .i64 26, .int .i32 a, .int .i32 b] w fun e w' => e = .returned (.tuple #[.int .i32 (absI a), .bool true]) ∧ Chg w w' [] := by
 go_enter Tryz.func103, Tryz.ntmps103
 go_wp2_with fail
 refine (product_abs a b _ ha hb).mono ?_
 rintro e w1 ⟨rfl, hc⟩
 have HC := hide hc
 clear hc
 go_wp2
 go_ret2
 exact ⟨rfl, HC.out⟩
set_option maxRecDepth 100000 in
set_option maxHeartbeats 1000000 in
theorem single_sign (a : Int) (w : World) (ha : In32 a) : Calls Tryz.prog 225 #[.int .i32 a] w fun e w' => e = .returned (.int .i32 (signI a)) ∧ Chg w w' [] := by
 have HC := hide (Chg.refl w [])
 go_enter Tryz.func225, Tryz.ntmps225
 go_wp2_with fail
 refine (sign_calls a _).mono ?_
 rintro e w1 ⟨rfl, rfl⟩
 go_wp2
 go_ret
 exact ⟨rfl, HC.out⟩
set_option maxRecDepth 100000 in
set_option maxHeartbeats 1000000 in
theorem apply_sign (a : Int) (w : World) (ha : In32 a) : Calls Tryz.prog 220 #[.func (.func 225) #[] #[], .int .i32 a] w fun e w' => e = .returned (.tuple #[.int .i32 (signI a), .bool true]) ∧ Chg w w' [] := by
 go_enter Tryz.func220, Tryz.ntmps220
 go_wp2_with fail
 refine (single_sign a _ ha).mono ?_
 rintro e w1 ⟨rfl, hc⟩
 have HC := hide hc
 clear hc
 go_wp2
 go_ret2
 exact ⟨rfl, HC.out⟩
set_option maxRecDepth 100000 in
set_option maxHeartbeats 1000000 in
theorem alone_sign (a : Int) (w : World) (ha : In32 a) : Calls Tryz.prog 178 #[.int .i64 28, .int .i32 a] w fun e w' => e = .returned (.tuple #[.int .i32 (signI a), .bool true]) ∧ Chg w w' [] := by
 go_enter Tryz.func178, Tryz.ntmps178
 go_wp2_with fail
 refine (apply_sign a _ ha).mono ?_
 rintro e w1 ⟨rfl, hc⟩
 have HC := hide hc
 clear hc
 go_wp2
 go_ret2
 exact ⟨rfl, HC.out⟩
set_option maxRecDepth 100000 in
set_option maxHeartbeats 1000000 in
theorem product_sign (a b : Int) (w : World) (ha : In32 a) (hb : In32 b) : Calls Tryz.prog 141 #[.int .i64 28, .int .i32 a, .int .i32 b] w fun e w' => e = .returned (.tuple #[.int .i32 (signI a), .bool true]) ∧ Chg w w' [] := by
 go_enter Tryz.func141, Tryz.ntmps141
 go_wp2_with fail
 refine (alone_sign a _ ha).mono ?_
 rintro e w1 ⟨rfl, hc⟩
 have HC := hide hc
 clear hc
 go_wp2
 go_ret2
 exact ⟨rfl, HC.out⟩
set_option maxRecDepth 100000 in
set_option maxHeartbeats 1000000 in
theorem do_sign (a b : Int) (w : World) (ha : In32 a) (hb : In32 b) : Calls Tryz.prog 103 #[.int .i64 28, .int .i32 a, .int .i32 b] w fun e w' => e = .returned (.tuple #[.int .i32 (signI a), .bool true]) ∧ Chg w w' [] := by
 go_enter Tryz.func103, Tryz.ntmps103
 go_wp2_with fail
 refine (product_sign a b _ ha hb).mono ?_
 rintro e w1 ⟨rfl, hc⟩
 have HC := hide hc
 clear hc
 go_wp2
 go_ret2
 exact ⟨rfl, HC.out⟩
end Go.Proofs.YthnhilghjadigaaGreatDoor

/- min, max; the worker's Const, Up, Down. -/
namespace Go.Proofs.YthnhilghjadigaaGreatDoor
open Go.RowKit Go.Deep
set_option linter.unusedVariables false
def minI (a b : Int) : Int := min a b
def maxI (a b : Int) : Int := max a b
set_option maxRecDepth 100000 in
set_option maxHeartbeats 1000000 in
theorem do_min (a b : Int) (w : World) (ha : In32 a) (hb : In32 b) : Calls Tryz.prog 103 #[.int .i64 16, .int .i32 a, .int .i32 b] w fun e w' => e = .returned (.tuple #[.int .i32 (minI a b), .bool true]) ∧ Chg w w' [] := by
 have HC := hide (Chg.refl w [])
 go_enter Tryz.func103, Tryz.ntmps103
 go_wp2
 go_ret2
 exact ⟨rfl, HC.out⟩
set_option maxRecDepth 100000 in
set_option maxHeartbeats 1000000 in
theorem do_max (a b : Int) (w : World) (ha : In32 a) (hb : In32 b) : Calls Tryz.prog 103 #[.int .i64 17, .int .i32 a, .int .i32 b] w fun e w' => e = .returned (.tuple #[.int .i32 (maxI a b), .bool true]) ∧ Chg w w' [] := by
 have HC := hide (Chg.refl w [])
 go_enter Tryz.func103, Tryz.ntmps103
 go_wp2
 go_ret2
 exact ⟨rfl, HC.out⟩
end Go.Proofs.YthnhilghjadigaaGreatDoor

/- What each operation reckons is a word. -/
namespace Go.Proofs.YthnhilghjadigaaGreatDoor
open Go.RowKit Go.Deep
set_option linter.unusedVariables false
theorem in_wrap (n : Int) : In32 (wrap32 n) := by unfold In32 wrap32; omega
theorem in_sat (n : Int) : In32 (satI n) := by unfold In32 satI; omega
theorem in_add (a b : Int) : In32 (addI a b) := in_wrap _
theorem in_sub (a b : Int) : In32 (subI a b) := in_wrap _
theorem in_adds (a b : Int) : In32 (addsI a b) := in_sat _
theorem in_subs (a b : Int) : In32 (subsI a b) := in_sat _
theorem wrap_i32' (n : Int) : IntKind.i32.wrap n = wrap32 n := by rw [IntKind.wrap_i32]; unfold wrap32; rfl
theorem in_and (a b : Int) : In32 (andI a b) := by
 show In32 (IntKind.i32.wrap _); rw [wrap_i32']; exact in_wrap _
theorem in_or (a b : Int) : In32 (orI a b) := by
 show In32 (IntKind.i32.wrap _); rw [wrap_i32']; exact in_wrap _
theorem in_xor (a b : Int) : In32 (xorI a b) := by
 show In32 (IntKind.i32.wrap _); rw [wrap_i32']; exact in_wrap _
theorem in_bic (a b : Int) : In32 (bicI a b) := by
 show In32 (IntKind.i32.wrap _); rw [wrap_i32']; exact in_wrap _
theorem in_shl (a b : Int) : In32 (shlI a b) := in_wrap _
theorem in_shr (a b : Int) : In32 (shrI a b) := in_wrap _
theorem in_sar (a b : Int) (h : In32 a) : In32 (sarI a b) := by
 unfold In32 sarI at *
 have h2 : (1 : Int) ≤ 2 ^ sh b := by
  have := Nat.one_le_two_pow (n := sh b)
  exact_mod_cast this
 generalize (2 : Int) ^ sh b = d at *
 constructor
 · rw [Int.le_ediv_iff_mul_le (by omega)]
   have : (2147483648 : Int) * 1 ≤ 2147483648 * d := Int.mul_le_mul_of_nonneg_left h2 (by omega)
   omega
 · exact Int.ediv_le_of_le_mul (by omega) (by
    have : (2147483647 : Int) * 1 ≤ 2147483647 * d := Int.mul_le_mul_of_nonneg_left h2 (by omega)
    omega)
theorem in_lt (a b : Int) : In32 (ltI a b) := by unfold In32 ltI; split <;> omega
theorem in_ltu (a b : Int) : In32 (ltuI a b) := by unfold In32 ltuI; split <;> omega
theorem in_eq (a b : Int) : In32 (eqI a b) := by unfold In32 eqI; split <;> omega
theorem in_mul (a b : Int) : In32 (mulI a b) := in_wrap _
theorem in_mulq (a b : Int) : In32 (mulqI a b) := in_sat _
theorem in_neg (a : Int) : In32 (negI a) := in_sat _
theorem in_abs (a : Int) (h : In32 a) : In32 (absI a) := by have := in_neg a; unfold In32 absI at *; omega
theorem in_sign (a : Int) (h : In32 a) : In32 (signI a) := by unfold In32 signI at *; omega
theorem in_clz (a : Int) : In32 (clzI a) := by
 have := Any.bitLen_le32 (a % 4294967296) (by omega) (by omega)
 unfold In32 clzI; omega
theorem in_min (a b : Int) (ha : In32 a) (hb : In32 b) : In32 (minI a b) := by unfold In32 minI at *; omega
theorem in_max (a b : Int) (ha : In32 a) (hb : In32 b) : In32 (maxI a b) := by unfold In32 maxI at *; omega
end Go.Proofs.YthnhilghjadigaaGreatDoor

/- Words, and the worker's methods at words. -/
namespace Go.Proofs.YthnhilghjadigaaGreatDoor
open Go.RowKit Go.Deep
set_option linter.unusedVariables false
structure Wd where
 v : Int
 ok : In32 v
theorem Wd.ext_ {a b : Wd} (h : a.v = b.v) : a = b := by cases a; cases b; cases h; rfl
def kW (n : Int) : Wd := ⟨wrap32 n, in_wrap n⟩
theorem kW_v {n : Int} (h : In32 n) : (kW n).v = n := by show wrap32 n = n; unfold In32 at h; unfold wrap32; omega
def addW (a b : Wd) : Wd := ⟨addI a.v b.v, in_add _ _⟩
def subW (a b : Wd) : Wd := ⟨subI a.v b.v, in_sub _ _⟩
def addsW (a b : Wd) : Wd := ⟨addsI a.v b.v, in_adds _ _⟩
def subsW (a b : Wd) : Wd := ⟨subsI a.v b.v, in_subs _ _⟩
def andW (a b : Wd) : Wd := ⟨andI a.v b.v, in_and _ _⟩
def orW (a b : Wd) : Wd := ⟨orI a.v b.v, in_or _ _⟩
def xorW (a b : Wd) : Wd := ⟨xorI a.v b.v, in_xor _ _⟩
def bicW (a b : Wd) : Wd := ⟨bicI a.v b.v, in_bic _ _⟩
def shlW (a b : Wd) : Wd := ⟨shlI a.v b.v, in_shl _ _⟩
def shrW (a b : Wd) : Wd := ⟨shrI a.v b.v, in_shr _ _⟩
def sarW (a b : Wd) : Wd := ⟨sarI a.v b.v, in_sar _ _ a.ok⟩
def sltW (a b : Wd) : Wd := ⟨ltI a.v b.v, in_lt _ _⟩
def sltuW (a b : Wd) : Wd := ⟨ltuI a.v b.v, in_ltu _ _⟩
def mulW (a b : Wd) : Wd := ⟨mulI a.v b.v, in_mul _ _⟩
def mulqW (a b : Wd) : Wd := ⟨mulqI a.v b.v, in_mulq _ _⟩
def minW (a b : Wd) : Wd := ⟨minI a.v b.v, in_min _ _ a.ok b.ok⟩
def maxW (a b : Wd) : Wd := ⟨maxI a.v b.v, in_max _ _ a.ok b.ok⟩
def clzW (a : Wd) : Wd := ⟨clzI a.v, in_clz _⟩
def negW (a : Wd) : Wd := ⟨negI a.v, in_neg _⟩
def absW (a : Wd) : Wd := ⟨absI a.v, in_abs _ a.ok⟩
def signW (a : Wd) : Wd := ⟨signI a.v, in_sign _ a.ok⟩
def upW (a : Wd) (n : Int) : Wd := ⟨shlI a.v n, in_shl _ _⟩
def downW (a : Wd) (n : Int) : Wd := ⟨sarI a.v n, in_sar _ _ a.ok⟩
end Go.Proofs.YthnhilghjadigaaGreatDoor

/- What the filter's steps reckon, as words. -/
namespace Go.Proofs.YthnhilghjadigaaGreatDoor
open Go.RowKit Go.Deep
set_option linter.unusedVariables false
def lessW (x : Wd) (l : List Wd) : Wd := l.foldl subsW x
def moreW (x : Wd) (l : List Wd) : Wd := l.foldl addsW x
structure Tm where
 a : Nat
 b : Nat
 less : Bool
def pick (l : List Wd) (k : Nat) : Wd := l.getD k (kW 0)
def term (ps qs : List Wd) (t : Tm) : Wd := mulqW (pick ps t.a) (pick qs t.b)
structure Q4 where
 a : Wd
 b : Wd
 c : Wd
 d : Wd
structure T3 where
 a : Wd
 b : Wd
 c : Wd
def sumW (a b c e0 e1 e2 : Wd) : Wd := downW (moreW (mulqW a e0) [mulqW b e1, mulqW c e2]) 1
def fieldOf (x y : Q4) (e : T3) : Q4 :=
 ⟨sumW (negW y.c) (lessW y.b [x.d]) x.c e.a e.b e.c,
  sumW y.d (moreW x.c [y.a]) (lessW x.d [y.b, y.b]) e.a e.b e.c,
  sumW (negW (moreW x.c [x.c, y.a])) (moreW x.b [y.d]) (lessW x.a [y.c, y.c]) e.a e.b e.c,
  sumW (lessW y.b [x.d, x.d]) (lessW y.c [x.a]) x.b e.a e.b e.c⟩
end Go.Proofs.YthnhilghjadigaaGreatDoor

/- The plain words of layer 1: Mod, Signed, Low, Plain. -/
namespace Go.Proofs.YthnhilghjadigaaGreatDoor
open Go.RowKit Go.Deep
set_option linter.unusedVariables false
theorem emod_of_tmod {x n : Int} (hn : 0 < n) : x % n = if x.tmod n < 0 then x.tmod n + n else x.tmod n := by
 rw [Int.tmod_eq_emod]
 have h1 := Int.emod_nonneg x (by omega : n ≠ 0)
 have h2 := Int.emod_lt_of_pos x hn
 split <;> split <;> omega
set_option maxRecDepth 100000 in
set_option maxHeartbeats 1000000 in
theorem mod_calls (x n : Int) (w : World) (hx : -9223372036854775808 ≤ x ∧ x ≤ 9223372036854775807) (hn : 0 < n ∧ n ≤ 9223372036854775807) :
 Calls Tryz.prog 62 #[.int .i64 x, .int .i64 n] w fun e w' => e = .returned (.int .i64 (x % n)) ∧ w = w' := by
 have hm := @emod_of_tmod x n hn.1
 have h1 := Int.emod_nonneg x (by omega : n ≠ 0)
 have h2 := Int.emod_lt_of_pos x hn.1
 by_cases h0 : x.tmod n < 0
 · rw [if_pos h0] at hm
   go_enter Tryz.func62, Tryz.ntmps62
   go_wp2_with fail
   go_ret
   exact ⟨by first | rfl | (rw [hm]; rfl), rfl⟩
 · rw [if_neg h0] at hm
   go_enter Tryz.func62, Tryz.ntmps62
   go_wp2_with fail
   go_ret
   exact ⟨by first | rfl | (rw [hm]; rfl), rfl⟩
end Go.Proofs.YthnhilghjadigaaGreatDoor
