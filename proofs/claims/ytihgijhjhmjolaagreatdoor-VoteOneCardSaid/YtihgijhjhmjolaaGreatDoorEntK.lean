/- Tables of calls that answer values in worlds of a kind; a sum's step, of any word, the program's and the reference's. -/
import Derived.Test.YtihgijhjhmjolaaGreatDoorVP6
import Derived.Test.YtihgijhjhmjolaaGreatDoorVP8
import Derived.Test.YtihgijhjhmjolaaGreatDoorRef11
namespace Go.Proofs.YtihgijhjhmjolaaGreatDoor
open Go.RowKit Go.Deep
set_option linter.unusedVariables false
theorem bits_and_16 (c : Int) : bits BinOp.and IntKind.i32 c 65535 = c % 65536 := by
 show IntKind.i32.wrap (((BitVec.ofInt 32 c) &&& (BitVec.ofInt 32 65535)).toNat : Int) = _
 rw [show BitVec.ofInt 32 65535 = BitVec.ofNat 32 65535 from rfl, BitVec.toNat_and, BitVec.toNat_ofInt, BitVec.toNat_ofNat, show 65535 % 2 ^ 32 = 65535 from rfl, and_65535, IntKind.wrap_i32]
 omega
def stepI (c b : Int) : Int := (stepN (c % 65536).toNat b.toNat : Nat)
theorem stepI_nat (n b : Nat) (h : n < 65536) : stepI n b = (stepN n b : Nat) := by
 unfold stepI
 rw [show ((n : Int) % 65536).toNat = n by omega, show (b : Int).toNat = b by omega]
theorem stepI_lt (c b : Int) : 0 ≤ stepI c b ∧ stepI c b < 65536 := by
 unfold stepI
 have := stepN_lt (c % 65536).toNat b.toNat
 omega
set_option maxRecDepth 100000 in
set_option maxHeartbeats 1000000 in
theorem crcStepI_calls (c b : Int) (hc : -2147483648 ≤ c ∧ c ≤ 2147483647) (hb : 0 ≤ b ∧ b ≤ 255) (w : World) (ht : FTab w) : Calls Tryz.prog 141 #[.int .i32 c, .int .u8 b] w fun e w' => e = .returned (.int .i32 (stepI c b)) ∧ w = w' := by
 obtain ⟨b, rfl⟩ : ∃ n : Nat, b = n := ⟨b.toNat, by omega⟩
 have hb' : b < 256 := by omega
 have hm : (c % 65536).toNat < 65536 := by omega
 have n1 := crcNibble_calls (c % 65536).toNat (b / 16) hm (by omega) w ht
 have n2 := crcNibble_calls (nibN (c % 65536).toNat (b / 16)) (b % 16) (nibN_lt _ _) (by omega) w ht
 have g1 : bits BinOp.and IntKind.i32 c 65535 = ((c % 65536).toNat : Int) := by rw [bits_and_16]; omega
 have g2 : (b : Int) / 16 = ((b / 16 : Nat) : Int) := by omega
 have g3 : IntKind.i32.wrap ((b / 16 : Nat) : Int) = ((b / 16 : Nat) : Int) := by rw [IntKind.wrap_i32]; omega
 have g4 := bits8_15 b hb'
 have g5 : IntKind.i32.wrap ((b % 16 : Nat) : Int) = ((b % 16 : Nat) : Int) := by rw [IntKind.wrap_i32]; omega
 show Calls Tryz.prog 141 #[.int .i32 c, .int .u8 b] w fun e w' => e = .returned (.int .i32 (nibN (nibN (c % 65536).toNat (b / 16)) (b % 16) : Nat)) ∧ w = w'
 generalize ((nibN (nibN (c % 65536).toNat (b / 16)) (b % 16) : Nat) : Int) = R at *
 generalize ((nibN (c % 65536).toNat (b / 16) : Nat) : Int) = M at *
 generalize ((b / 16 : Nat) : Int) = H at *
 generalize ((b % 16 : Nat) : Int) = L at *
 generalize ((c % 65536).toNat : Int) = C at *
 generalize (b : Int) = B at *
 have N1 := hide n1
 have N2 := hide n2
 clear n1 n2 hc hb ht hm
 go_enter Tryz.func141, Tryz.ntmps141
 go_wp2_with fail
 refine N1.out.mono ?_
 rintro e w1 ⟨rfl, rfl⟩
 go_wp2_with fail
 refine N2.out.mono ?_
 rintro e w1 ⟨rfl, rfl⟩
 go_wp2
 go_ret
 exact ⟨rfl, rfl⟩
set_option maxRecDepth 100000 in
set_option maxHeartbeats 1000000 in
theorem rstepI_calls (c b : Int) (hc : -2147483648 ≤ c ∧ c ≤ 2147483647) (hb : 0 ≤ b ∧ b ≤ 255) (w : World) :
 Calls Tryz.prog 137 #[.int .i32 c, .int .u8 b] w fun e w' => e = .returned (.int .i32 (stepI c b)) ∧ Chg w w' [] := by
 obtain ⟨b, rfl⟩ : ∃ n : Nat, b = n := ⟨b.toNat, by omega⟩
 have h := rstep_body (c % 65536).toNat c b (by omega) hc (by omega) (by omega) w
 unfold stepI
 rw [show (b : Int).toNat = b by omega]
 exact h
end Go.Proofs.YtihgijhjhmjolaaGreatDoor
namespace Go.Proofs.YtihgijhjhmjolaaGreatDoor.Xi
open Go Go.RowKit
set_option linter.unusedVariables false
structure EntK (K : World → Prop) where
 f : FuncId
 fn : List Value → Option Value
 ok : ∀ us v, fn us = some v → (∀ u ∈ us, good1 u) → goodC v ∧ ∀ w : World, K w → Calls Tryz.prog f us.toArray w fun e w' => e = .returned v ∧ Chg w w' []
def Ent.k {K : World → Prop} (e : Ent) : EntK K := ⟨e.f, e.fn, fun us v h hg => ⟨(e.ok us v h hg).1, fun w _ => (e.ok us v h hg).2 w⟩⟩
def tabK {K : World → Prop} : List (EntK K) → Tab
 | [], _, _ => none
 | e :: l, f, us => bif Nat.beq e.f f then e.fn us else tabK l f us
theorem tabK_ok {K : World → Prop} : ∀ l : List (EntK K), TabOkK Tryz.prog K (tabK l)
 | [], f, us, v, h, hg => by cases h
 | e :: l, f, us, v, h, hg => by
  unfold tabK at h
  cases hb : Nat.beq e.f f with
  | true =>
   rw [hb] at h
   obtain rfl := beq_iff.1 hb
   exact e.ok us v h hg
  | false =>
   rw [hb] at h
   exact tabK_ok l f us v h hg
def fStep : List Value → Option Value
 | [.int .i32 c, .int .u8 b] => some (.int .i32 (stepI c b))
 | _ => none
theorem good_u8 {b : Int} (h : goodV (.int .u8 b)) : 0 ≤ b ∧ b ≤ 255 := by
 simp only [goodV, Lit.wf, IntKind.min, IntKind.max, IntKind.signed, IntKind.bits] at h
 simp at h
 omega
theorem good_u8' {b : Int} (h : 0 ≤ b ∧ b ≤ 255) : goodV (.int .u8 b) := by
 simp only [goodV, Lit.wf, IntKind.min, IntKind.max, IntKind.signed, IntKind.bits]
 simp
 omega
theorem good_i32 {b : Int} (h : goodV (.int .i32 b)) : -2147483648 ≤ b ∧ b ≤ 2147483647 := by
 have := in_of_good h
 unfold In32 at this
 omega
theorem good_i32' {b : Int} (h : -2147483648 ≤ b ∧ b ≤ 2147483647) : goodV (.int .i32 b) := by
 simp only [goodV, Lit.wf, IntKind.min, IntKind.max, IntKind.signed, IntKind.bits]
 simp
 omega
theorem goodC_step (c b : Int) : goodC (.int .i32 (stepI c b)) := .inl (.inl (good_i32' (by have := stepI_lt c b; omega)))
def gStepE : EntK FTab where
 f := 141
 fn := fStep
 ok := fun us v hv hg => by
  unfold fStep at hv
  split at hv
  · rename_i c b
    injection hv with hv
    subst hv
    refine ⟨goodC_step _ _, fun w hw => (crcStepI_calls c b (good_i32 (good1_int (hg (.int .i32 c) (by simp)))) (good_u8 (good1_int (hg (.int .u8 b) (by simp)))) w hw).mono ?_⟩
    rintro e w1 ⟨rfl, rfl⟩
    exact ⟨rfl, Chg.refl _ _⟩
  · cases hv
end Go.Proofs.YtihgijhjhmjolaaGreatDoor.Xi
