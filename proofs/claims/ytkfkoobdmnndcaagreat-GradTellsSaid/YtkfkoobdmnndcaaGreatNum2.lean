/- fix, word, clz. -/
import Derived.Test.YtkfkoobdmnndcaaGreatNum1
import Derived.Test.YtkfkoobdmnndcaaGreatShelfB
namespace Go.Proofs.YtkfkoobdmnndcaaGreat
open Go.RowKit Go.Deep
set_option linter.unusedVariables false

def clzI (a : Int) : Int := 32 - (Lib.bitLen (a % 4294967296).toNat : Int)
def mulI (a b : Int) : Int := wrap32 (a * b % 4294967296)
def mulqI (a b : Int) : Int := satI (a * b / 1073741824 + a * b / 536870912 % 2)

set_option maxHeartbeats 400000 in
theorem sabs_calls (a : Int) (w : World) (ha : -2147483648 ≤ a ∧ a ≤ 2147483647) :
    Calls Tryz.prog 190 #[.int .i32 a] w fun e w' => e = .returned (.int .i32 (absI a)) ∧ Chg w w' [] := by
  obtain ⟨n, hn⟩ : ∃ n, n = negI a := ⟨_, rfl⟩
  have e : absI a = max a n := by unfold absI; rw [hn]
  rw [e]
  have HN := hide hn
  clear hn e
  go_enter Tryz.func190, Tryz.ntmps190
  go_wp2_with fail
  refine (sneg_calls a _ ha).mono ?_
  rintro e w1 ⟨rfl, hc⟩
  rw [← HN.out]
  have HC := hide hc
  clear hc HN
  go_wp2
  all_goals
    go_ret
    exact ⟨by first | (rw [show max a n = if a < n then n else a by split <;> omega]; rfl) | (rw [show max a n = n by omega]; rfl) | (rw [show max a n = a by omega]; rfl), HC.out⟩

set_option maxHeartbeats 400000 in
theorem clz_calls (a : Int) (w : World) (ha : -2147483648 ≤ a ∧ a ≤ 2147483647) :
    Calls Tryz.prog 188 #[.int .i32 a] w fun e w' => e = .returned (.int .i32 (clzI a)) ∧ w = w' := by
  have l := Any.bitLen_le32 (a % 4294967296) (by omega) (by omega)
  have hw : wrap32 (32 - (Lib.bitLen (a % 4294967296).toNat : Int)) = clzI a := by unfold clzI wrap32; omega
  have HW := hide hw
  clear hw
  go_enter Tryz.func188, Tryz.ntmps188
  go_wp2_with fail
  refine (Tryz.bits_LeadingZeros32 _ _ (by omega) (by omega)).mono ?_
  rintro e w1 ⟨rfl, rfl⟩
  clear l
  generalize (32 - (Lib.bitLen (a % 4294967296).toNat : Int)) = n at *
  go_wp2
  go_ret
  exact ⟨by rw [← HW.out]; rfl, rfl⟩

set_option maxHeartbeats 400000 in
theorem mull_calls (a b : Int) (w : World) (ha : -2147483648 ≤ a ∧ a ≤ 2147483647) (hb : -2147483648 ≤ b ∧ b ≤ 2147483647) :
    Calls Tryz.prog 166 #[.int .i32 a, .int .i32 b] w fun e w' => e = .returned (.int .i32 (mulI a b)) ∧ Chg w w' [] := by
  have e : mulI a b = wrap32 (wrap64 (a * b) % 4294967296) := by
    unfold mulI
    generalize a * b = p
    unfold wrap64; congr 1; omega
  rw [e]
  clear e
  go_enter Tryz.func166, Tryz.ntmps166
  go_wp2
  go_ret
  exact ⟨rfl, (Chg.refl w []).alloc _⟩

theorem and_one_i64 (x : Int) : bits BinOp.and IntKind.i64 x 1 = x % 2 := by
  show IntKind.i64.wrap ((BitVec.ofInt 64 x &&& BitVec.ofInt 64 1).toNat : Int) = _
  have h2 : (BitVec.ofInt 64 1).toNat = 1 := by decide
  rw [BitVec.toNat_and, h2, Nat.and_one_is_mod, IntKind.wrap_i64, BitVec.toNat_ofInt]
  omega

set_option maxHeartbeats 400000 in
theorem scaled_calls (w : World) : Calls Tryz.prog 176 #[.int .i64 30] w fun e w' => e = .returned (.agg #[.func (.func 186) #[] #[.pointer (some ⟨w.heap.size, 0, none⟩)]]) ∧ Chg w w' [] ∧ w'.cell? ⟨w.heap.size, 0, none⟩ = some (.int .i64 30) ∧ w.heap.size < w'.heap.size := by
  have hc := (Blk.new w 3 [.int .i64 30])
  have hz := Blk.new (w.alloc (.cells #[.int .i64 30] 3)) 125 [(.func (.func 186) #[] #[.pointer (some ⟨w.heap.size, 0, none⟩)])]
  have h1 := hc.alloc (.cells #[(.func (.func 186) #[] #[.pointer (some ⟨w.heap.size, 0, none⟩)])] 125)
  have c1 := h1.cell' (i := 0) rfl
  have c2 := hz.cell' (i := 0) rfl
  rw [size_alloc] at c2
  have HC := hide (((Chg.refl w []).alloc (.cells #[.int .i64 30] 3)).alloc (.cells #[(.func (.func 186) #[] #[.pointer (some ⟨w.heap.size, 0, none⟩)])] 125))
  clear hc hz h1
  go_enter Tryz.func176, Tryz.ntmps176
  go_wp2
  refine bodyPost_ret (v := .agg #[.func (.func 186) #[] #[.pointer (some ⟨w.heap.size, 0, none⟩)]]) ?_ rfl ⟨rfl, HC.out, c1, by simp; omega⟩
  simp [results, Tryz.f176, go_sem, c2]

set_option maxHeartbeats 400000 in
theorem scaled1_calls (x : Int) (p : Addr) (w : World) (hp : w.cell? p = some (.int .i64 30)) (hx : -4611686018427387904 ≤ x ∧ x ≤ 4611686018427387904) : Calls Tryz.prog 186 #[.int .i64 x, .pointer (some p)] w fun e w' => e = .returned (.int .i32 (satI (x / 1073741824 + x / 536870912 % 2))) ∧ w = w' := by
  have hb := and_one_i64 (x / 536870912)
  have hw : wrap64 (x / 1073741824 + x / 536870912 % 2) = x / 1073741824 + x / 536870912 % 2 := by unfold wrap64; omega
  go_enter Tryz.func186, Tryz.ntmps186
  go_wp2
  go_ret
  exact ⟨by simp only [satI]; rfl, rfl⟩

theorem prod_bound {a b : Int} (ha : -2147483648 ≤ a ∧ a ≤ 2147483647) (hb : -2147483648 ≤ b ∧ b ≤ 2147483647) : -4611686018427387904 ≤ a * b ∧ a * b ≤ 4611686018427387904 := by
  have h : (a * b).natAbs ≤ 2147483648 * 2147483648 := by
    rw [Int.natAbs_mul]; exact Nat.mul_le_mul (by omega) (by omega)
  omega

set_option maxHeartbeats 400000 in
theorem of_calls (a b : Int) (p : Addr) (w : World) (ha : -2147483648 ≤ a ∧ a ≤ 2147483647) (hb : -2147483648 ≤ b ∧ b ≤ 2147483647) (hp : w.cell? p = some (.int .i64 30)) :
    Calls Tryz.prog 174 #[.agg #[.func (.func 186) #[] #[.pointer (some p)]], .int .i32 a, .int .i32 b] w fun e w' => e = .returned (.int .i32 (mulqI a b)) ∧ Chg w w' [] := by
  have hpb := prod_bound ha hb
  have hm : wrap64 (a * b) = a * b := by generalize a * b = p at *; unfold wrap64; omega
  have hp1 := fun o => ((Chg.refl w []).alloc o).cell hp (by simp)
  go_enter Tryz.func174, Tryz.ntmps174
  go_wp2_with fail
  refine (scaled1_calls _ _ _ (hp1 _) hpb).mono ?_
  rintro e w1 ⟨rfl, rfl⟩
  go_wp2
  go_ret
  exact ⟨rfl, (Chg.refl w []).alloc _⟩

set_option maxHeartbeats 400000 in
theorem mulq_calls (a b : Int) (w : World) (ha : -2147483648 ≤ a ∧ a ≤ 2147483647) (hb : -2147483648 ≤ b ∧ b ≤ 2147483647) :
    Calls Tryz.prog 168 #[.int .i32 a, .int .i32 b] w fun e w' => e = .returned (.int .i32 (mulqI a b)) ∧ Chg w w' [] := by
  go_enter Tryz.func168, Tryz.ntmps168
  go_wp2_with fail
  refine (scaled_calls _).mono ?_
  rintro e w1 ⟨rfl, hc, hp, _⟩
  have HC := hide hc
  clear hc
  go_wp2_with fail
  refine (of_calls a b _ _ ha hb hp).mono ?_
  rintro e w2 ⟨rfl, hc⟩
  have HC2 := hide hc
  clear hc
  go_wp2
  go_ret
  exact ⟨rfl, HC.out.trans HC2.out (by simp)⟩

end Go.Proofs.YtkfkoobdmnndcaaGreat
