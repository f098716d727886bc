/- Texts of this claim, side by side: Ma, Alu2, Mb, Mc, FedW, CrcW, Ref11LawK. -/
import Derived.Test.YthnhilghjadigaaGreatDoorAb
import Derived.Test.YthnhilghjadigaaGreatDoorKC8
/- Ma: a core as a Lean state of words, its step; that runs with numbered values (Ab) tell its runs. No program is in sight. -/
namespace Go.Proofs.YthnhilghjadigaaGreatDoor.Ab
open Go Go.RowKit Go.Proofs.YthnhilghjadigaaGreatDoor Go.Proofs.YthnhilghjadigaaGreatDoor.Xi
set_option linter.unusedVariables false
def halfI (a : Int) : Int := (a + 32768) % 65536 - 32768
def highI (a : Int) : Int := a / 65536
theorem in_half (a : Int) : In32 (halfI a) := by unfold In32 halfI; omega
theorem in_high (a : Int) (h : In32 a) : In32 (highI a) := by unfold In32 highI at *; omega
def seqW (a b : Wd) : Wd := ⟨eqI a.v b.v, in_eq _ _⟩
def halfW (a : Wd) : Wd := ⟨halfI a.v, in_half _⟩
def highW (a : Wd) : Wd := ⟨highI a.v, in_high _ a.ok⟩
def aluW (op : Nat) (x y : Wd) : Wd := match op with
 | 1 => addW x y
 | 2 => subW x y
 | 3 => addsW x y
 | 4 => subsW x y
 | 5 => andW x y
 | 6 => orW x y
 | 7 => xorW x y
 | 8 => bicW x y
 | 9 => shlW x y
 | 10 => shrW x y
 | 11 => sarW x y
 | 13 => sltW x y
 | 14 => sltuW x y
 | 15 => seqW x y
 | 16 => minW x y
 | 17 => maxW x y
 | 18 => mulW x y
 | 20 => mulqW x y
 | 24 => clzW x
 | 25 => negW x
 | 26 => absW x
 | 28 => signW x
 | 29 => halfW x
 | 30 => highW x
 | _ => kW 0
structure Ma where
 rg : List Wd
 mm : List Wd
 pc : Nat
 st : Nat
 ks : List Mk
def Ma.r (m : Ma) (i : Nat) : Wd := m.rg.getD i (kW 0)
def Ma.put (m : Ma) (d : Nat) (x : Wd) (pc : Nat) (k : Mk) : Ma := ⟨m.rg.set d x, m.mm, pc, 0, m.ks ++ [k]⟩
def nextM (w : Nat) (m : Ma) : Option Ma :=
 if opN w = 34 then
  (if (m.r (aN w)).v + nN w < m.mm.length ∧ 0 ≤ (m.r (aN w)).v ∧ dN w ≠ 0 then
    some (m.put (dN w) (m.mm.getD ((m.r (aN w)).v.toNat + nN w) (kW 0)) (m.pc + 1) ⟨m.pc, (m.r (aN w)).v.toNat + nN w + 1, costK ((m.r (aN w)).v.toNat + nN w)⟩) else none)
 else if opN w = 35 then
  (if (m.r (aN w)).v + nN w < m.mm.length ∧ 0 ≤ (m.r (aN w)).v then
    some ⟨m.rg, m.mm.set ((m.r (aN w)).v.toNat + nN w) (m.r (dN w)), m.pc + 1, 0, m.ks ++ [⟨m.pc, (m.r (aN w)).v.toNat + nN w + 1, costK ((m.r (aN w)).v.toNat + nN w)⟩]⟩ else none)
 else if opN w = 31 then
  (if 0 ≤ (m.r (aN w)).v ∧ (m.r (aN w)).v + nN w < 32768 ∧ dN w ≠ 0 then some (m.put (dN w) (kW ((m.r (aN w)).v + nN w)) (m.pc + 1) ⟨m.pc, 0, 1⟩) else none)
 else if opN w = 38 then
  (if (m.r (dN w)).v < (m.r (aN w)).v then some ⟨m.rg, m.mm, nN w, 0, m.ks ++ [⟨m.pc, 0, 3⟩]⟩ else some ⟨m.rg, m.mm, m.pc + 1, 0, m.ks ++ [⟨m.pc, 0, 1⟩]⟩)
 else if opN w = 43 then some ⟨m.rg, m.mm, m.pc, 1, m.ks ++ [⟨m.pc, 0, 1⟩]⟩
 else if aluB (opN w) = true ∧ dN w ≠ 0 then some (m.put (dN w) (aluW (opN w) (m.r (aN w)) (m.r (bN w))) (m.pc + 1) ⟨m.pc, 0, aluCost (opN w)⟩)
 else none
def Nx (code : List Nat) (m m' : Ma) : Prop := m.st = 0 ∧ ∃ w, code[m.pc]? = some w ∧ nextM w m = some m'
inductive Reach {X : Type} (nx : X → X → Prop) : Nat → X → X → Prop
 | nil (x : X) : Reach nx 0 x x
 | cons {n : Nat} {x y z : X} : nx x y → Reach nx n y z → Reach nx (n + 1) x z
theorem Reach.trans {X : Type} {nx : X → X → Prop} : ∀ {n m : Nat} {x y z : X}, Reach nx n x y → Reach nx m y z → Reach nx (n + m) x z
 | _, m, _, _, _, .nil _, h => by rw [Nat.zero_add]; exact h
 | _, m, _, _, _, .cons (n := n) h h1, h2 => by
  have := Reach.cons h (h1.trans h2)
  rwa [show n + m + 1 = n + 1 + m by omega] at this
def isGo : St → Prop
 | .go _ _ _ _ _ _ => True
 | _ => False
theorem stepsA_bad (code nc nm : Nat) : ∀ k, stepsA code nc nm k .bad = .bad
 | 0 => rfl
 | k + 1 => by simp only [stepsA]; rw [stepsA_bad code nc nm k, stepsA_bad code nc nm k]
theorem sim {X : Type} {nx : X → X → Prop} {Rel : St → X → Prop} {code nc nm : Nat} (h : ∀ s x, isGo s → Rel s x → stepA code nc nm s ≠ .bad → ∃ x', nx x x' ∧ Rel (stepA code nc nm s) x') :
 ∀ (k : Nat) (s : St) (x : X), Rel s x → stepsA code nc nm k s ≠ .bad → ∃ N x', N ≤ 2 ^ k ∧ Reach nx N x x' ∧ Rel (stepsA code nc nm k s) x'
 | 0, s, x, hr, hb => by
  simp only [stepsA] at hb ⊢
  match s, hr, hb with
  | .go pc ns rg mm T M, hr, hb =>
   obtain ⟨x', h1, h2⟩ := h (.go pc ns rg mm T M) x trivial hr hb
   exact ⟨1, x', by decide, .cons h1 (.nil _), h2⟩
  | .done pc ns mm T M, hr, hb => exact ⟨0, x, by decide, .nil _, hr⟩
  | .bad, hr, hb => exact absurd rfl hb
 | k + 1, s, x, hr, hb => by
  simp only [stepsA] at hb ⊢
  have hb1 : stepsA code nc nm k s ≠ .bad := fun e => hb (by rw [e, stepsA_bad])
  obtain ⟨N, x1, hN, h1, r1⟩ := sim h k s x hr hb1
  obtain ⟨M, x2, hM, h2, r2⟩ := sim h k _ x1 r1 hb
  exact ⟨N + M, x2, by rw [Nat.pow_succ]; omega, h1.trans h2, r2⟩
theorem runA_bad (code nc nm : Nat) : ∀ l, runA code nc nm l .bad = .bad
 | [] => rfl
 | k :: l => by simp only [runA]; rw [stepsA_bad, runA_bad code nc nm l]
def sumP : List Nat → Nat
 | [] => 0
 | k :: l => 2 ^ k + sumP l
theorem simR {X : Type} {nx : X → X → Prop} {Rel : St → X → Prop} {code nc nm : Nat} (h : ∀ s x, isGo s → Rel s x → stepA code nc nm s ≠ .bad → ∃ x', nx x x' ∧ Rel (stepA code nc nm s) x') :
 ∀ (l : List Nat) (s : St) (x : X), Rel s x → runA code nc nm l s ≠ .bad → ∃ N x', N ≤ sumP l ∧ Reach nx N x x' ∧ Rel (runA code nc nm l s) x'
 | [], s, x, hr, hb => ⟨0, x, Nat.le_refl _, .nil _, hr⟩
 | k :: l, s, x, hr, hb => by
  simp only [runA] at hb ⊢
  have hb1 : stepsA code nc nm k s ≠ .bad := fun e => hb (by rw [e, runA_bad])
  obtain ⟨N, x1, hN, h1, r1⟩ := sim h k s x hr hb1
  obtain ⟨M, x2, hM, h2, r2⟩ := simR h l _ x1 r1 hb
  exact ⟨N + M, x2, by simp only [sumP]; omega, h1.trans h2, r2⟩
def cw (vals : List Wd) (c : Nat) : Wd := if c % 2 = 0 then kW ((c / 2 : Nat) : Int) else vals.getD (c / 2) (kW 0)
def evE (vals : List Wd) (e : Ev) : Wd := aluW e.op (cw vals e.x) (cw vals e.y)
def evT (ins : List Wd) : List Ev → List Wd
 | [] => ins
 | e :: T => evT ins T ++ [evE (evT ins T) e]
theorem evT_len (ins : List Wd) : ∀ T, (evT ins T).length = ins.length + T.length
 | [] => rfl
 | e :: T => by simp only [evT, List.length_append, List.length_cons, List.length_nil, evT_len ins T]; omega
def Okc (n c : Nat) : Prop := c % 2 = 0 ∨ c / 2 < n
theorem cw_more {vals : List Wd} {c : Nat} (h : Okc vals.length c) (x : Wd) : cw (vals ++ [x]) c = cw vals c := by
 unfold cw
 split
 · rfl
 · rcases h with h | h
   · exact absurd h (by assumption)
   · simp only [List.getD_eq_getElem?_getD]
     rw [List.getElem?_append_left h]
theorem Okc.more {n c : Nat} (h : Okc n c) : Okc (n + 1) c := h.imp id (fun h => by omega)
theorem knownN_iff (c : Nat) : knownN c = true ↔ c % 2 = 0 := by
 unfold knownN
 rw [beq_iff]
 show (c &&& 1) = 0 ↔ _
 rw [Nat.and_one_is_mod]
theorem fld_lt (N k : Nat) : fld N k < 17179869184 := Nat.lt_of_le_of_lt (show Nat.land _ _ ≤ _ from Nat.and_le_right) (by decide)
theorem fld_bit (N k i : Nat) : (fld N k).testBit i = (decide (i < 34) && N.testBit (34 * k + i)) := by
 show ((N >>> (34 * k)) &&& 17179869183).testBit i = _
 rw [show (17179869183 : Nat) = 2 ^ 34 - 1 by decide, Nat.testBit_and, Nat.testBit_shiftRight, Nat.testBit_two_pow_sub_one, Bool.and_comm]
theorem fld_setf (N k v j : Nat) (hv : v < 17179869184) : fld (setf N k v) j = if j = k then v else fld N j := by
 have hlt : (fld N k ^^^ v) < 2 ^ 34 := Nat.xor_lt_two_pow (fld_lt N k) hv
 have hs : ∀ i, (setf N k v).testBit i = (N.testBit i ^^ (decide (34 * k ≤ i) && (fld N k ^^^ v).testBit (i - 34 * k))) := fun i => by
  show (N ^^^ ((fld N k ^^^ v) <<< (34 * k))).testBit i = _
  rw [Nat.testBit_xor, Nat.testBit_shiftLeft]
 refine Nat.eq_of_testBit_eq fun i => ?_
 rw [fld_bit, hs]
 by_cases e : j = k
 · subst e
   rw [if_pos rfl]
   by_cases hi : i < 34
   · rw [decide_eq_true hi, decide_eq_true (show 34 * j ≤ 34 * j + i by omega), Nat.testBit_xor, fld_bit]
     simp [hi]
   · rw [decide_eq_false hi, Bool.false_and]
     exact (Nat.testBit_lt_two_pow (Nat.lt_of_lt_of_le hv (Nat.pow_le_pow_right (show 0 < 2 by decide) (show 34 ≤ i by omega)))).symm
 · rw [if_neg e, fld_bit]
   by_cases hi : i < 34
   · have hz : (decide (34 * k ≤ 34 * j + i) && (fld N k ^^^ v).testBit (34 * j + i - 34 * k)) = false := by
      by_cases hle : 34 * k ≤ 34 * j + i
      · rw [Nat.testBit_lt_two_pow (Nat.lt_of_lt_of_le hlt (Nat.pow_le_pow_right (show 0 < 2 by decide) (show 34 ≤ 34 * j + i - 34 * k by omega))), Bool.and_false]
      · rw [decide_eq_false hle, Bool.false_and]
     rw [hz, Bool.xor_false]
   · rw [decide_eq_false hi, Bool.false_and, Bool.false_and]
structure RelC (ins : List Wd) (nm ns rg mm : Nat) (T : List Ev) (m : Ma) : Prop where
 hn : ns = (evT ins T).length
 rl : m.rg.length = 32
 ml : m.mm.length = nm
 hr : ∀ i, i < 32 → m.r i = cw (evT ins T) (fld rg i) ∧ Okc ns (fld rg i)
 hm : ∀ i, i < nm → m.mm[i]? = some (cw (evT ins T) (fld mm i)) ∧ Okc ns (fld mm i)
def Rel (ins : List Wd) (nm : Nat) : St → Ma → Prop
 | .go pc ns rg mm T M, m => RelC ins nm ns rg mm T m ∧ m.pc = pc ∧ m.st = 0 ∧ m.ks = M.reverse
 | .done pc ns mm T M, m => m.pc = pc ∧ m.st = 1 ∧ m.ks = M.reverse ∧ ns = (evT ins T).length ∧ m.mm.length = nm ∧ (∀ i, i < nm → m.mm[i]? = some (cw (evT ins T) (fld mm i)) ∧ Okc ns (fld mm i))
 | .bad, _ => False
end Go.Proofs.YthnhilghjadigaaGreatDoor.Ab

/- alu.Do at half and high; at all operations that the machine uses. -/
namespace Go.Proofs.YthnhilghjadigaaGreatDoor
open Go.RowKit Go.Deep Go.Proofs.YthnhilghjadigaaGreatDoor.Ab
set_option linter.unusedVariables false
theorem i16_half (a : Int) : IntKind.i16.wrap a = halfI a := by
 simp only [IntKind.wrap, IntKind.bits, IntKind.signed]
 unfold halfI
 simp
 split <;> omega
set_option maxRecDepth 100000 in
theorem half_calls (a : Int) (w : World) (ha : In32 a) : Calls Tryz.prog 257 #[.int .i32 a] w fun e w' => e = .returned (.int .i32 (halfI a)) ∧ w = w' := by
 have h1 := i16_half a
 have h2 := in_half a
 generalize halfI a = h at *
 go_enter Tryz.func257, Tryz.ntmps257
 go_wp2
 go_ret
 exact ⟨rfl, rfl⟩
set_option maxRecDepth 100000 in
set_option maxHeartbeats 1000000 in
theorem single_half (a : Int) (w : World) (ha : In32 a) : Calls Tryz.prog 226 #[.int .i32 a] w fun e w' => e = .returned (.int .i32 (halfI a)) ∧ Chg w w' [] := by
 have HC := hide (Chg.refl w [])
 go_enter Tryz.func226, Tryz.ntmps226
 go_wp2_with fail
 refine (half_calls a _ ha).mono ?_
 rintro e w1 ⟨rfl, rfl⟩
 go_wp2
 go_ret
 exact ⟨rfl, HC.out⟩
set_option maxRecDepth 100000 in
set_option maxHeartbeats 1000000 in
theorem apply_half (a : Int) (w : World) (ha : In32 a) : Calls Tryz.prog 220 #[.func (.func 226) #[] #[], .int .i32 a] w fun e w' => e = .returned (.tuple #[.int .i32 (halfI a), .bool true]) ∧ Chg w w' [] := by
 go_enter Tryz.func220, Tryz.ntmps220
 go_wp2_with fail
 refine (single_half a _ ha).mono ?_
 rintro e w1 ⟨rfl, hc⟩
 have HC := hide hc
 clear hc
 go_wp2
 go_ret2
 exact ⟨rfl, HC.out⟩
set_option maxRecDepth 100000 in
set_option maxHeartbeats 1000000 in
theorem alone_half (a : Int) (w : World) (ha : In32 a) : Calls Tryz.prog 178 #[.int .i64 29, .int .i32 a] w fun e w' => e = .returned (.tuple #[.int .i32 (halfI a), .bool true]) ∧ Chg w w' [] := by
 go_enter Tryz.func178, Tryz.ntmps178
 go_wp2_with fail
 refine (apply_half a _ ha).mono ?_
 rintro e w1 ⟨rfl, hc⟩
 have HC := hide hc
 clear hc
 go_wp2
 go_ret2
 exact ⟨rfl, HC.out⟩
set_option maxRecDepth 100000 in
set_option maxHeartbeats 1000000 in
theorem product_half (a b : Int) (w : World) (ha : In32 a) (hb : In32 b) : Calls Tryz.prog 141 #[.int .i64 29, .int .i32 a, .int .i32 b] w fun e w' => e = .returned (.tuple #[.int .i32 (halfI a), .bool true]) ∧ Chg w w' [] := by
 go_enter Tryz.func141, Tryz.ntmps141
 go_wp2_with fail
 refine (alone_half a _ ha).mono ?_
 rintro e w1 ⟨rfl, hc⟩
 have HC := hide hc
 clear hc
 go_wp2
 go_ret2
 exact ⟨rfl, HC.out⟩
set_option maxRecDepth 100000 in
set_option maxHeartbeats 1000000 in
theorem do_half (a b : Int) (w : World) (ha : In32 a) (hb : In32 b) : Calls Tryz.prog 103 #[.int .i64 29, .int .i32 a, .int .i32 b] w fun e w' => e = .returned (.tuple #[.int .i32 (halfI a), .bool true]) ∧ Chg w w' [] := by
 go_enter Tryz.func103, Tryz.ntmps103
 go_wp2_with fail
 refine (product_half a b _ ha hb).mono ?_
 rintro e w1 ⟨rfl, hc⟩
 have HC := hide hc
 clear hc
 go_wp2
 go_ret2
 exact ⟨rfl, HC.out⟩
set_option maxRecDepth 100000 in
set_option maxHeartbeats 1000000 in
theorem single_high (a : Int) (w : World) (ha : In32 a) : Calls Tryz.prog 227 #[.int .i32 a] w fun e w' => e = .returned (.int .i32 (highI a)) ∧ Chg w w' [] := by
 have HC := hide (Chg.refl w [])
 go_enter Tryz.func227, Tryz.ntmps227
 go_wp2
 go_ret
 exact ⟨rfl, HC.out⟩
set_option maxRecDepth 100000 in
set_option maxHeartbeats 1000000 in
theorem apply_high (a : Int) (w : World) (ha : In32 a) : Calls Tryz.prog 220 #[.func (.func 227) #[] #[], .int .i32 a] w fun e w' => e = .returned (.tuple #[.int .i32 (highI a), .bool true]) ∧ Chg w w' [] := by
 go_enter Tryz.func220, Tryz.ntmps220
 go_wp2_with fail
 refine (single_high a _ ha).mono ?_
 rintro e w1 ⟨rfl, hc⟩
 have HC := hide hc
 clear hc
 go_wp2
 go_ret2
 exact ⟨rfl, HC.out⟩
set_option maxRecDepth 100000 in
set_option maxHeartbeats 1000000 in
theorem alone_high (a : Int) (w : World) (ha : In32 a) : Calls Tryz.prog 178 #[.int .i64 30, .int .i32 a] w fun e w' => e = .returned (.tuple #[.int .i32 (highI a), .bool true]) ∧ Chg w w' [] := by
 go_enter Tryz.func178, Tryz.ntmps178
 go_wp2_with fail
 refine (apply_high a _ ha).mono ?_
 rintro e w1 ⟨rfl, hc⟩
 have HC := hide hc
 clear hc
 go_wp2
 go_ret2
 exact ⟨rfl, HC.out⟩
set_option maxRecDepth 100000 in
set_option maxHeartbeats 1000000 in
theorem product_high (a b : Int) (w : World) (ha : In32 a) (hb : In32 b) : Calls Tryz.prog 141 #[.int .i64 30, .int .i32 a, .int .i32 b] w fun e w' => e = .returned (.tuple #[.int .i32 (highI a), .bool true]) ∧ Chg w w' [] := by
 go_enter Tryz.func141, Tryz.ntmps141
 go_wp2_with fail
 refine (alone_high a _ ha).mono ?_
 rintro e w1 ⟨rfl, hc⟩
 have HC := hide hc
 clear hc
 go_wp2
 go_ret2
 exact ⟨rfl, HC.out⟩
set_option maxRecDepth 100000 in
set_option maxHeartbeats 1000000 in
theorem do_high (a b : Int) (w : World) (ha : In32 a) (hb : In32 b) : Calls Tryz.prog 103 #[.int .i64 30, .int .i32 a, .int .i32 b] w fun e w' => e = .returned (.tuple #[.int .i32 (highI a), .bool true]) ∧ Chg w w' [] := by
 go_enter Tryz.func103, Tryz.ntmps103
 go_wp2_with fail
 refine (product_high a b _ ha hb).mono ?_
 rintro e w1 ⟨rfl, hc⟩
 have HC := hide hc
 clear hc
 go_wp2
 go_ret2
 exact ⟨rfl, HC.out⟩
theorem aluB_cases {op : Nat} (h : aluB op = true) : op = 1 ∨ op = 2 ∨ op = 3 ∨ op = 4 ∨ op = 5 ∨ op = 6 ∨ op = 7 ∨ op = 8 ∨ op = 9 ∨ op = 10 ∨ op = 11 ∨ op = 13 ∨ op = 14 ∨ op = 15 ∨ op = 16 ∨ op = 17 ∨ op = 18 ∨ op = 20 ∨ op = 24 ∨ op = 25 ∨ op = 26 ∨ op = 28 ∨ op = 29 ∨ op = 30 := by
 by_cases hb : op < 32
 · have : ∀ k, k < 32 → aluB k = true → k = 1 ∨ k = 2 ∨ k = 3 ∨ k = 4 ∨ k = 5 ∨ k = 6 ∨ k = 7 ∨ k = 8 ∨ k = 9 ∨ k = 10 ∨ k = 11 ∨ k = 13 ∨ k = 14 ∨ k = 15 ∨ k = 16 ∨ k = 17 ∨ k = 18 ∨ k = 20 ∨ k = 24 ∨ k = 25 ∨ k = 26 ∨ k = 28 ∨ k = 29 ∨ k = 30 := by
    intro k hk h
    match k, hk, h with
    | 0, _, h => exact absurd h (by decide)
    | 1, _, _ => simp
    | 2, _, _ => simp
    | 3, _, _ => simp
    | 4, _, _ => simp
    | 5, _, _ => simp
    | 6, _, _ => simp
    | 7, _, _ => simp
    | 8, _, _ => simp
    | 9, _, _ => simp
    | 10, _, _ => simp
    | 11, _, _ => simp
    | 12, _, h => exact absurd h (by decide)
    | 13, _, _ => simp
    | 14, _, _ => simp
    | 15, _, _ => simp
    | 16, _, _ => simp
    | 17, _, _ => simp
    | 18, _, _ => simp
    | 19, _, h => exact absurd h (by decide)
    | 20, _, _ => simp
    | 21, _, h => exact absurd h (by decide)
    | 22, _, h => exact absurd h (by decide)
    | 23, _, h => exact absurd h (by decide)
    | 24, _, _ => simp
    | 25, _, _ => simp
    | 26, _, _ => simp
    | 27, _, h => exact absurd h (by decide)
    | 28, _, _ => simp
    | 29, _, _ => simp
    | 30, _, _ => simp
    | 31, _, h => exact absurd h (by decide)
    | _ + 32, hk, _ => omega
   exact this op hb h
 · exfalso
   unfold aluB at h
   rw [show Nat.shiftRight 0x7717EFFE op = 0 from ?_] at h
   · cases h
   · show 0x7717EFFE >>> op = 0
     rw [Nat.shiftRight_eq_div_pow]
     exact Nat.div_eq_of_lt (Nat.lt_of_lt_of_le (show 0x7717EFFE < 2 ^ 32 by decide) (Nat.pow_le_pow_right (by decide) (by omega)))
theorem do_any (op : Nat) (h : aluB op = true) (x y : Wd) (w : World) : Calls Tryz.prog 103 #[.int .i64 op, .int .i32 x.v, .int .i32 y.v] w fun e w' => e = .returned (.tuple #[.int .i32 (aluW op x y).v, .bool true]) ∧ Chg w w' [] := by
 rcases aluB_cases h with rfl | rfl | rfl | rfl | rfl | rfl | rfl | rfl | rfl | rfl | rfl | rfl | rfl | rfl | rfl | rfl | rfl | rfl | rfl | rfl | rfl | rfl | rfl | rfl
 · exact do_add x.v y.v w x.ok y.ok
 · exact do_sub x.v y.v w x.ok y.ok
 · exact do_adds x.v y.v w x.ok y.ok
 · exact do_subs x.v y.v w x.ok y.ok
 · exact do_and x.v y.v w x.ok y.ok
 · exact do_or x.v y.v w x.ok y.ok
 · exact do_xor x.v y.v w x.ok y.ok
 · exact do_bic x.v y.v w x.ok y.ok
 · exact do_shl x.v y.v w x.ok y.ok
 · exact do_shr x.v y.v w x.ok y.ok
 · exact do_sar x.v y.v w x.ok y.ok
 · exact do_slt x.v y.v w x.ok y.ok
 · exact do_sltu x.v y.v w x.ok y.ok
 · exact do_seq x.v y.v w x.ok y.ok
 · exact do_min x.v y.v w x.ok y.ok
 · exact do_max x.v y.v w x.ok y.ok
 · exact do_mul x.v y.v w x.ok y.ok
 · exact do_mulq x.v y.v w x.ok y.ok
 · exact do_clz x.v y.v w x.ok y.ok
 · exact do_neg x.v y.v w x.ok y.ok
 · exact do_abs x.v y.v w x.ok y.ok
 · exact do_sign x.v y.v w x.ok y.ok
 · exact do_half x.v y.v w x.ok y.ok
 · exact do_high x.v y.v w x.ok y.ok
end Go.Proofs.YthnhilghjadigaaGreatDoor

/- A step with numbered values is a step of the core. No program is in sight. -/
namespace Go.Proofs.YthnhilghjadigaaGreatDoor.Ab
open Go Go.RowKit Go.Proofs.YthnhilghjadigaaGreatDoor Go.Proofs.YthnhilghjadigaaGreatDoor.Xi
set_option linter.unusedVariables false
set_option linter.unusedSimpArgs false
theorem knK_bad {c : Nat} {k : Nat → St} (h : knK c k ≠ .bad) : c % 2 = 0 ∧ knK c k = k (c / 2) := by
 unfold knK at h ⊢
 cases hk : knownN c with
 | false => rw [hk] at h; exact absurd rfl h
 | true =>
  refine ⟨(knownN_iff c).1 hk, ?_⟩
  simp only [fP_eq, cond_true]
  rfl
theorem beqD (a b : Nat) : Nat.beq a b = decide (a = b) := by
 cases h : Nat.beq a b with
 | true => exact (decide_eq_true (beq_iff.1 h)).symm
 | false => exact (decide_eq_false (fun e => by rw [beq_iff.2 e] at h; cases h)).symm
theorem dN_lt (w : Nat) : dN w < 32 := by
 show Nat.land _ 31 < 32
 exact Nat.lt_of_le_of_lt Nat.and_le_right (by decide)
theorem nN_lt (w : Nat) : nN w < 65536 := by
 show Nat.land _ 65535 < 65536
 exact Nat.lt_of_le_of_lt Nat.and_le_right (by decide)
theorem kW_small {n : Nat} (h : n < 2147483648) : (kW (n : Int)).v = n := kW_v (by unfold In32; omega)
theorem cw_known {vals : List Wd} {c : Nat} (h : c % 2 = 0) : cw vals c = kW ((c / 2 : Nat) : Int) := by unfold cw; rw [if_pos h]
theorem aN_lt (w : Nat) : aN w < 32 := by
 show Nat.land _ 31 < 32
 exact Nat.lt_of_le_of_lt Nat.and_le_right (by decide)
theorem bN_lt (w : Nat) : bN w < 32 := by
 show Nat.land _ 31 < 32
 exact Nat.lt_of_le_of_lt Nat.and_le_right (by decide)
section
variable {ins : List Wd} {nm ns rg mm : Nat} {T : List Ev} {m : Ma}
theorem RelC.reg (h : RelC ins nm ns rg mm T m) {d c : Nat} (hd : d < 32) (hc : Okc ns c) (hv : c < 17179869184) (pc : Nat) (k : Mk) : RelC ins nm ns (setf rg d c) mm T (m.put d (cw (evT ins T) c) pc k) where
 hn := h.hn
 rl := by simp [Ma.put, h.rl]
 ml := h.ml
 hr := fun i hi => by
  rw [fld_setf _ _ _ _ hv]
  by_cases e : i = d
  · subst e
    rw [if_pos rfl]
    refine ⟨?_, hc⟩
    simp [Ma.r, Ma.put, List.getD_eq_getElem?_getD, h.rl, hd]
  · rw [if_neg e]
    obtain ⟨h2, h3⟩ := h.hr i hi
    refine ⟨?_, h3⟩
    rw [← h2]
    simp [Ma.r, Ma.put, List.getD_eq_getElem?_getD, List.getElem?_set, Ne.symm e]
 hm := h.hm
theorem RelC.pcs (h : RelC ins nm ns rg mm T m) (pc st : Nat) (ks : List Mk) : RelC ins nm ns rg mm T ⟨m.rg, m.mm, pc, st, ks⟩ := ⟨h.hn, h.rl, h.ml, h.hr, h.hm⟩
theorem RelC.mem (h : RelC ins nm ns rg mm T m) {a c : Nat} (ha : a < nm) (hc : Okc ns c) (hv : c < 17179869184) (pc st : Nat) (ks : List Mk) : RelC ins nm ns rg (setf mm a c) T ⟨m.rg, m.mm.set a (cw (evT ins T) c), pc, st, ks⟩ where
 hn := h.hn
 rl := h.rl
 ml := by simpa using h.ml
 hr := h.hr
 hm := fun i hi => by
  rw [fld_setf _ _ _ _ hv]
  by_cases e : i = a
  · subst e
    rw [if_pos rfl]
    have := h.ml
    exact ⟨by rw [List.getElem?_set_self (by omega)], hc⟩
  · rw [if_neg e]
    obtain ⟨h2, h3⟩ := h.hm i hi
    refine ⟨?_, h3⟩
    rw [← h2]
    simp [List.getElem?_set, Ne.symm e]
theorem RelC.more (h : RelC ins nm ns rg mm T m) (e : Ev) : RelC ins nm (ns + 1) rg mm (e :: T) m where
 hn := by rw [evT_len, List.length_cons]; have := h.hn; rw [evT_len] at this; omega
 rl := h.rl
 ml := h.ml
 hr := fun i hi => by
  obtain ⟨h2, h3⟩ := h.hr i hi
  refine ⟨?_, h3.more⟩
  rw [h2]
  exact (cw_more (by rw [← h.hn]; exact h3) _).symm
 hm := fun i hi => by
  obtain ⟨h2, h3⟩ := h.hm i hi
  refine ⟨?_, h3.more⟩
  rw [h2]
  exact congrArg some (cw_more (by rw [← h.hn]; exact h3) _).symm
theorem RelC.known (h : RelC ins nm ns rg mm T m) {i : Nat} (hi : i < 32) (h2 : fld rg i % 2 = 0) (h3 : fld rg i / 2 < 2147483648) : (m.r i).v = ((fld rg i / 2 : Nat) : Int) := by
 obtain ⟨e1, _⟩ := h.hr i hi
 rw [e1, cw_known h2]
 exact kW_small h3
end
theorem rev_snoc (M : List Mk) (k : Mk) : M.reverse ++ [k] = (k :: M).reverse := by simp
theorem bifB {β : Type} {b : Bool} {x y : β} {z : β} (h : (bif b then x else y) ≠ z) (hy : y = z) : b = true := by
 cases b with
 | true => rfl
 | false => exact absurd hy h
section
variable {ins : List Wd} {nm w pc ns rg mm : Nat} {T : List Ev} {M : List Mk} {m : Ma}
theorem memA_ok {sw : Bool} (hnm : nm ≤ 2048) (h : RelC ins nm ns rg mm T m) (hpc : m.pc = pc) (hst : m.st = 0) (hks : m.ks = M.reverse) (ho : opN w = if sw then 35 else 34) (hb : memA nm w pc ns rg mm T M sw ≠ .bad) :
 ∃ m', nextM w m = some m' ∧ Rel ins nm (memA nm w pc ns rg mm T M sw) m' := by
 unfold memA at hb ⊢
 simp only [fP_eq] at hb ⊢
 obtain ⟨h2, e2⟩ := knK_bad hb
 rw [e2] at hb ⊢
 have ea : Nat.add (fld rg (aN w) / 2) (nN w) = fld rg (aN w) / 2 + nN w := rfl
 rw [ea] at hb ⊢
 have hlt := bifB hb rfl
 rw [hlt] at hb ⊢
 rw [blt_iff] at hlt
 simp only [cond_true] at hb ⊢
 have q1 := h.known (aN_lt w) h2 (by omega)
 have qt : (m.r (aN w)).v.toNat = fld rg (aN w) / 2 := by omega
 have hml := h.ml
 obtain ⟨q3, q4⟩ := h.hm _ hlt
 generalize hra : fld rg (aN w) / 2 + nN w = ad at *
 cases sw with
 | true =>
  simp only [cond_true] at hb ⊢
  obtain ⟨r2, r3⟩ := h.hr _ (dN_lt w)
  have ho : opN w = 35 := ho
  refine ⟨⟨m.rg, m.mm.set ad (m.r (dN w)), m.pc + 1, 0, m.ks ++ [⟨m.pc, ad + 1, costK ad⟩]⟩, ?_, ?_⟩
  · unfold nextM
    rw [if_neg (by omega), if_pos ho, if_pos (by omega), qt, hra]
  · rw [r2]
    refine ⟨h.mem hlt r3 (fld_lt _ _) _ _ _, by rw [hpc], rfl, ?_⟩
    rw [hks, hpc]
    exact rev_snoc _ _
 | false =>
  simp only [cond_false] at hb ⊢
  rw [beqD] at hb ⊢
  by_cases hd : dN w = 0
  · rw [decide_eq_true hd] at hb; exact absurd rfl hb
  · rw [decide_eq_false hd]
    simp only [cond_false]
    have ho : opN w = 34 := ho
    refine ⟨m.put (dN w) (m.mm.getD ad (kW 0)) (m.pc + 1) ⟨m.pc, ad + 1, costK ad⟩, ?_, ?_⟩
    · unfold nextM
      rw [if_pos ho, if_pos (by omega), qt, hra]
    · rw [show m.mm.getD ad (kW 0) = cw (evT ins T) (fld mm ad) by simp [List.getD_eq_getElem?_getD, q3]]
      refine ⟨h.reg (dN_lt w) q4 (fld_lt _ _) _ _, by show m.pc + 1 = _; rw [hpc], rfl, ?_⟩
      show m.ks ++ [_] = _
      rw [hks, hpc]
      exact rev_snoc _ _
theorem addiA_ok (h : RelC ins nm ns rg mm T m) (hpc : m.pc = pc) (hst : m.st = 0) (hks : m.ks = M.reverse) (ho : opN w = 31) (hb : addiA w pc ns rg mm T M ≠ .bad) :
 ∃ m', nextM w m = some m' ∧ Rel ins nm (addiA w pc ns rg mm T M) m' := by
 unfold addiA at hb ⊢
 simp only [fP_eq] at hb ⊢
 obtain ⟨h2, e2⟩ := knK_bad hb
 rw [e2] at hb ⊢
 have ea : Nat.add (fld rg (aN w) / 2) (nN w) = fld rg (aN w) / 2 + nN w := rfl
 rw [ea] at hb ⊢
 have hc := bifB hb rfl
 rw [hc] at hb ⊢
 simp only [cond_true] at hb ⊢
 simp only [Bool.and_eq_true, Bool.not_eq_true'] at hc
 obtain ⟨hc1, hc2⟩ := hc
 rw [blt_iff] at hc1
 rw [beqD, decide_eq_false_iff_not] at hc2
 have rv := h.known (aN_lt w) h2 (by omega)
 refine ⟨m.put (dN w) (kW ((m.r (aN w)).v + nN w)) (m.pc + 1) ⟨m.pc, 0, 1⟩, ?_, ?_⟩
 · unfold nextM
   rw [if_neg (by omega), if_neg (by omega), if_pos ho, if_pos (by omega)]
 · have ec : kW ((m.r (aN w)).v + nN w) = cw (evT ins T) (Nat.mul 2 (fld rg (aN w) / 2 + nN w)) := by
    have e : Nat.mul 2 (fld rg (aN w) / 2 + nN w) = 2 * (fld rg (aN w) / 2 + nN w) := rfl
    rw [e, cw_known (by omega), rv]
    congr 1
    omega
   rw [ec]
   refine ⟨h.reg (dN_lt w) (.inl (by show 2 * (fld rg (aN w) / 2 + nN w) % 2 = 0; omega)) (by show 2 * (fld rg (aN w) / 2 + nN w) < _; omega) _ _, by show m.pc + 1 = _; rw [hpc], rfl, ?_⟩
   show m.ks ++ [_] = _
   rw [hks, hpc]
   exact rev_snoc _ _
theorem bltA_ok (h : RelC ins nm ns rg mm T m) (hpc : m.pc = pc) (hst : m.st = 0) (hks : m.ks = M.reverse) (ho : opN w = 38) (hb : bltA w pc ns rg mm T M ≠ .bad) :
 ∃ m', nextM w m = some m' ∧ Rel ins nm (bltA w pc ns rg mm T M) m' := by
 unfold bltA at hb ⊢
 simp only [fP_eq] at hb ⊢
 obtain ⟨h2, e2⟩ := knK_bad hb
 rw [e2] at hb ⊢
 obtain ⟨h4, e4⟩ := knK_bad hb
 rw [e4] at hb ⊢
 have hc := bifB hb rfl
 rw [hc] at hb ⊢
 simp only [cond_true] at hb ⊢
 simp only [Bool.and_eq_true] at hc
 obtain ⟨hc1, hc2⟩ := hc
 rw [blt_iff] at hc1 hc2
 have rv := h.known (dN_lt w) h2 (by omega)
 have sv := h.known (aN_lt w) h4 (by omega)
 cases hl : Nat.blt (fld rg (dN w) / 2) (fld rg (aN w) / 2) with
 | true =>
  simp only [cond_true]
  rw [blt_iff] at hl
  refine ⟨⟨m.rg, m.mm, nN w, 0, m.ks ++ [⟨m.pc, 0, 3⟩]⟩, ?_, h.pcs _ _ _, rfl, rfl, ?_⟩
  · unfold nextM
    rw [if_neg (by omega), if_neg (by omega), if_neg (by omega), if_pos ho, if_pos (by omega)]
  · show m.ks ++ [_] = _
    rw [hks, hpc]
    exact rev_snoc _ _
 | false =>
  simp only [cond_false]
  have hl : ¬ fld rg (dN w) / 2 < fld rg (aN w) / 2 := fun e => by rw [blt_iff.2 e] at hl; cases hl
  refine ⟨⟨m.rg, m.mm, m.pc + 1, 0, m.ks ++ [⟨m.pc, 0, 1⟩]⟩, ?_, h.pcs _ _ _, by show m.pc + 1 = _; rw [hpc], rfl, ?_⟩
  · unfold nextM
    rw [if_neg (by omega), if_neg (by omega), if_neg (by omega), if_pos ho, if_neg (by omega)]
  · show m.ks ++ [_] = _
    rw [hks, hpc]
    exact rev_snoc _ _
theorem aluA_ok {op : Nat} (h : RelC ins nm ns rg mm T m) (hpc : m.pc = pc) (hst : m.st = 0) (hks : m.ks = M.reverse) (ho : opN w = op) (h1 : op ≠ 34) (h2 : op ≠ 35) (h3 : op ≠ 31) (h4 : op ≠ 38) (h5 : op ≠ 43) (hb : aluA op w pc ns rg mm T M ≠ .bad) :
 ∃ m', nextM w m = some m' ∧ Rel ins nm (aluA op w pc ns rg mm T M) m' := by
 unfold aluA at hb ⊢
 have ha := bifB hb rfl
 rw [ha] at hb ⊢
 simp only [cond_true, fP_eq] at hb ⊢
 simp only [Bool.and_eq_true] at ha
 obtain ⟨ha, hns⟩ := ha
 rw [blt_iff] at hns
 rw [beqD] at hb ⊢
 by_cases hd : dN w = 0
 · rw [decide_eq_true hd] at hb; exact absurd rfl hb
 · rw [decide_eq_false hd]
   simp only [cond_false]
   obtain ⟨x2, x3⟩ := h.hr _ (aN_lt w)
   obtain ⟨y2, y3⟩ := h.hr _ (bN_lt w)
   have e : Nat.add (Nat.mul 2 ns) 1 = 2 * ns + 1 := rfl
   rw [e]
   refine ⟨m.put (dN w) (aluW op (m.r (aN w)) (m.r (bN w))) (m.pc + 1) ⟨m.pc, 0, aluCost op⟩, ?_, ?_⟩
   · unfold nextM
     rw [ho, if_neg h1, if_neg h2, if_neg h3, if_neg h4, if_neg h5, if_pos ⟨ha, hd⟩]
   · have hv : aluW op (m.r (aN w)) (m.r (bN w)) = cw (evT ins (⟨op, fld rg (aN w), fld rg (bN w)⟩ :: T)) (2 * ns + 1) := by
      unfold cw
      rw [if_neg (by omega), show (2 * ns + 1) / 2 = ns by omega, h.hn]
      simp [evT, List.getD_eq_getElem?_getD, evE, x2, y2]
     rw [hv]
     refine ⟨(h.more _).reg (dN_lt w) (.inr (by omega)) (by omega) _ _, by show m.pc + 1 = _; rw [hpc], rfl, ?_⟩
     show m.ks ++ [_] = _
     rw [hks, hpc]
     exact rev_snoc _ _
end
theorem step_ok {ins : List Wd} {code nc nm : Nat} {words : List Nat} (hnm : nm ≤ 2048) (hcode : ∀ pc, pc < nc → words[pc]? = some (wordAt code pc)) (s : St) (m : Ma) (hgo : isGo s) (h : Rel ins nm s m) (hb : stepA code nc nm s ≠ .bad) : ∃ m', Nx words m m' ∧ Rel ins nm (stepA code nc nm s) m' := by
 match s, hgo with
 | .go pc ns rg mm T M, _ =>
  obtain ⟨h, hpc, hst, hks⟩ := h
  unfold stepA at hb ⊢
  simp only [fP_eq] at hb ⊢
  have hlt := bifB hb rfl
  rw [hlt] at hb ⊢
  rw [blt_iff] at hlt
  simp only [cond_true] at hb ⊢
  have hw := hcode pc hlt
  generalize wordAt code pc = w at *
  have key : ∃ m', nextM w m = some m' ∧ Rel ins nm (exA nm w (opN w) pc ns rg mm T M) m' := by
   unfold exA at hb ⊢
   simp only [beqD] at hb ⊢
   by_cases e1 : opN w = 34
   · rw [decide_eq_true e1] at hb ⊢; exact memA_ok hnm h hpc hst hks e1 hb
   rw [decide_eq_false e1] at hb ⊢
   by_cases e2 : opN w = 35
   · rw [decide_eq_true e2] at hb ⊢; exact memA_ok hnm h hpc hst hks e2 hb
   rw [decide_eq_false e2] at hb ⊢
   by_cases e3 : opN w = 31
   · rw [decide_eq_true e3] at hb ⊢; exact addiA_ok h hpc hst hks e3 hb
   rw [decide_eq_false e3] at hb ⊢
   by_cases e4 : opN w = 38
   · rw [decide_eq_true e4] at hb ⊢; exact bltA_ok h hpc hst hks e4 hb
   rw [decide_eq_false e4] at hb ⊢
   by_cases e5 : opN w = 43
   · rw [decide_eq_true e5]
     refine ⟨⟨m.rg, m.mm, m.pc, 1, m.ks ++ [⟨m.pc, 0, 1⟩]⟩, ?_, hpc, rfl, ?_, h.hn, h.ml, h.hm⟩
     · unfold nextM
       rw [if_neg e1, if_neg e2, if_neg e3, if_neg e4, if_pos e5]
     · show m.ks ++ [_] = _
       rw [hks, hpc]
       exact rev_snoc _ _
   rw [decide_eq_false e5] at hb ⊢
   exact aluA_ok h hpc hst hks rfl e1 e2 e3 e4 e5 hb
  obtain ⟨m', n1, n2⟩ := key
  exact ⟨m', ⟨hst, w, by rw [hpc]; exact hw, n1⟩, n2⟩
end Go.Proofs.YthnhilghjadigaaGreatDoor.Ab

/- Runs with numbered values: how they begin, what they tell, and what their values are. No program is in sight. -/
namespace Go.Proofs.YthnhilghjadigaaGreatDoor.Ab
open Go Go.RowKit Go.Proofs.YthnhilghjadigaaGreatDoor Go.Proofs.YthnhilghjadigaaGreatDoor.Xi
set_option linter.unusedVariables false
set_option linter.unusedSimpArgs false
def digsL (f : Nat → Nat) (n : Nat) : List Nat := (List.range n).map f
theorem digsL_at {f : Nat → Nat} {n k : Nat} (h : k < n) : (digsL f n)[k]? = some (f k) := by simp [digsL, h]
def wordsOf (code nc : Nat) : List Nat := digsL (wordAt code) nc
def ma0 (mm : List Wd) : Ma := ⟨List.replicate 32 (kW 0), mm, 0, 0, []⟩
def okcB (n c : Nat) : Bool := knownN c || Nat.blt (Nat.div c 2) n
theorem okcB_ok {n c : Nat} (h : okcB n c = true) : Okc n c := by
 unfold okcB at h
 simp only [Bool.or_eq_true] at h
 exact h.imp (knownN_iff c).1 (fun h => blt_iff.1 h)
def allOkc (n mem : Nat) : Nat → Bool
 | 0 => true
 | k + 1 => okcB n (fld mem k) && allOkc n mem k
theorem allOkc_ok {n mem : Nat} : ∀ {k : Nat}, allOkc n mem k = true → ∀ i, i < k → Okc n (fld mem i)
 | 0, _, i, hi => by omega
 | k + 1, h, i, hi => by
  simp only [allOkc, Bool.and_eq_true] at h
  by_cases e : i = k
  · subst e; exact okcB_ok h.1
  · exact allOkc_ok h.2 i (by omega)
def memOf (ins : List Wd) (mem nm : Nat) : List Wd := digsL (fld mem) nm |>.map (cw ins)
theorem fld_zero (i : Nat) : fld 0 i = 0 := by
 refine Nat.eq_of_testBit_eq fun k => ?_
 rw [fld_bit]
 simp
theorem init_rel {ins : List Wd} {mem nm : Nat} (ho : allOkc ins.length mem nm = true) : Rel ins nm (initA ins.length mem) (ma0 (memOf ins mem nm)) := by
 refine ⟨⟨rfl, rfl, by simp [ma0, memOf, digsL], fun i hi => ?_, fun i hi => ?_⟩, rfl, rfl, rfl⟩
 · rw [fld_zero]
   refine ⟨?_, .inl rfl⟩
   show (List.replicate 32 (kW 0)).getD i (kW 0) = kW ((0 / 2 : Nat) : Int)
   rw [List.getD_eq_getElem?_getD, List.getElem?_replicate, if_pos hi]
   rfl
 · refine ⟨?_, allOkc_ok ho i hi⟩
   simp [ma0, memOf, digsL, hi, evT]
def resA (code nc mem nm nin : Nat) (ps : List Nat) : St := runA code nc nm ps (initA nin mem)
theorem res_ok {code nc mem nm : Nat} {ps : List Nat} {ins : List Wd} {pc ns mm : Nat} {T : List Ev} {M : List Mk} (hl : nm ≤ 2048) (ho : allOkc ins.length mem nm = true) (h : resA code nc mem nm ins.length ps = .done pc ns mm T M) :
 ∃ N m', N ≤ sumP ps ∧ Reach (Nx (wordsOf code nc)) N (ma0 (memOf ins mem nm)) m' ∧ m'.st = 1 ∧ m'.ks = M.reverse ∧ m'.mm.length = nm ∧ ∀ i, i < nm → m'.mm[i]? = some (cw (evT ins T) (fld mm i)) ∧ Okc (evT ins T).length (fld mm i) := by
 have h' := h
 unfold resA at h'
 obtain ⟨N, m', hN, hr, hrel⟩ := simR (Rel := Rel ins nm) (fun s x hg hr hb => step_ok (words := wordsOf code nc) hl (fun pc e => digsL_at e) s x hg hr hb) ps _ _ (init_rel ho) (by rw [h']; exact fun e => by cases e)
 rw [h'] at hrel
 obtain ⟨_, h1, h2, h3, h4, h5⟩ := hrel
 exact ⟨N, m', hN, hr, h1, h2, h4, fun i hi => by rw [← h3]; exact h5 i hi⟩
def cwK {β : Type} (t : Tr Wd) (c : Nat) (no : β) (k : Wd → β) : β := bif knownN c then fP (Nat.div c 2) fun n => k (kW (n : Int)) else match t.get (Nat.div c 2) with | some v => k v | none => no
def aluK {β : Type} (op : Nat) (x y : Wd) (k : Wd → β) : β := match op with
 | 1 => k (addW x y)
 | 2 => k (subW x y)
 | 3 => k (addsW x y)
 | 4 => k (subsW x y)
 | 5 => k (andW x y)
 | 6 => k (orW x y)
 | 7 => k (xorW x y)
 | 8 => k (bicW x y)
 | 9 => k (shlW x y)
 | 10 => k (shrW x y)
 | 11 => k (sarW x y)
 | 13 => k (sltW x y)
 | 14 => k (sltuW x y)
 | 15 => k (seqW x y)
 | 16 => k (minW x y)
 | 17 => k (maxW x y)
 | 18 => k (mulW x y)
 | 20 => k (mulqW x y)
 | 24 => k (clzW x)
 | 25 => k (negW x)
 | 26 => k (absW x)
 | 28 => k (signW x)
 | 29 => k (halfW x)
 | 30 => k (highW x)
 | _ => k (kW 0)
theorem aluK_eq {β : Type} (op : Nat) (x y : Wd) (k : Wd → β) : aluK op x y k = k (aluW op x y) := by
 match op with
 | 0 => rfl
 | 1 => rfl
 | 2 => rfl
 | 3 => rfl
 | 4 => rfl
 | 5 => rfl
 | 6 => rfl
 | 7 => rfl
 | 8 => rfl
 | 9 => rfl
 | 10 => rfl
 | 11 => rfl
 | 12 => rfl
 | 13 => rfl
 | 14 => rfl
 | 15 => rfl
 | 16 => rfl
 | 17 => rfl
 | 18 => rfl
 | 19 => rfl
 | 20 => rfl
 | 21 => rfl
 | 22 => rfl
 | 23 => rfl
 | 24 => rfl
 | 25 => rfl
 | 26 => rfl
 | 27 => rfl
 | 28 => rfl
 | 29 => rfl
 | 30 => rfl
 | _ + 31 => rfl
def evK {β : Type} : List Ev → Nat → Tr Wd → β → (Tr Wd → β) → β
 | [], _, t, _, k => k t
 | e :: l, n, t, no, k => cwK t e.x no fun x => cwK t e.y no fun y => aluK e.op x y fun v => Tr.setK 20 t n (some v) fun t => evK l (Nat.succ n) t no k
def trW : List Wd → Nat → Tr Wd → Tr Wd
 | [], _, t => t
 | x :: l, i, t => Tr.setK 20 t i (some x) fun t => trW l (Nat.succ i) t
theorem trW_get : ∀ (l : List Wd) (i : Nat) (t : Tr Wd) (k : Nat), i + l.length < 1000000 → (trW l i t).get k = if i ≤ k ∧ k < i + l.length then l[k - i]? else t.get k
 | [], i, t, k, h => by simp only [trW, List.length_nil]; rw [if_neg (by omega)]
 | x :: l, i, t, k, h => by
  simp only [trW, setK_eq', List.length_cons] at h ⊢
  rw [trW_get l (Nat.succ i) _ k (by omega), Tr.get_set20 _ _ _ _ (by omega)]
  by_cases e : k = i
  · subst e
    rw [if_neg (by omega), if_pos rfl, if_pos (by omega)]
    simp
  · by_cases h2 : i ≤ k ∧ k < i + (l.length + 1)
    · rw [if_pos (by omega), if_pos h2, show k - i = (k - Nat.succ i) + 1 by omega]
      rfl
    · rw [if_neg (by omega), if_neg e, if_neg h2]
def Has (t : Tr Wd) (vals : List Wd) : Prop := ∀ k v, t.get k = some v → vals[k]? = some v
theorem cwK_ok {β : Type} {t : Tr Wd} {vals : List Wd} (h : Has t vals) (c : Nat) (no : β) (k : Wd → β) : cwK t c no k = no ∨ cwK t c no k = k (cw vals c) := by
 unfold cwK
 cases hk : knownN c with
 | true =>
  right
  rw [cond_true, fP_eq, cw_known ((knownN_iff c).1 hk)]
  rfl
 | false =>
  have hc : ¬ c % 2 = 0 := fun e => by rw [(knownN_iff c).2 e] at hk; cases hk
  rw [cond_false]
  have e : Nat.div c 2 = c / 2 := rfl
  rw [e]
  cases ht : t.get (c / 2) with
  | none => left; rfl
  | some v =>
   right
   have hg := h (c / 2) v ht
   unfold cw
   rw [if_neg hc]
   simp [List.getD_eq_getElem?_getD, hg]
theorem Has.snoc {t : Tr Wd} {vals : List Wd} (h : Has t vals) (hl : vals.length < 1000000) (v : Wd) : Has (Tr.set 20 t vals.length (some v)) (vals ++ [v]) := fun k u hu => by
 rw [Tr.get_set20 _ _ _ _ hl] at hu
 by_cases e : k = vals.length
 · subst e; rw [if_pos rfl] at hu; rw [← hu]; simp
 · rw [if_neg e] at hu
   have := h k u hu
   rw [List.getElem?_append_left (List.getElem?_eq_some_iff.1 this).1]
   exact this
theorem evT_append (ins : List Wd) : ∀ (A B : List Ev), evT ins (A ++ B) = evT (evT ins B) A
 | [], B => rfl
 | e :: A, B => by simp only [List.cons_append, evT, evT_append ins A B]
theorem evK_ok {β : Type} (no : β) (k : Tr Wd → β) : ∀ (l : List Ev) (t : Tr Wd) (vals : List Wd), Has t vals → vals.length + l.length < 1000000 → evK l vals.length t no k = no ∨ ∃ t', evK l vals.length t no k = k t' ∧ Has t' (evT vals l.reverse)
 | [], t, vals, h, _ => .inr ⟨t, rfl, h⟩
 | e :: l, t, vals, h, hl => by
  simp only [evK, List.length_cons] at hl ⊢
  rcases cwK_ok h e.x no (fun x => cwK t e.y no fun y => aluK e.op x y fun v => Tr.setK 20 t vals.length (some v) fun t => evK l (Nat.succ vals.length) t no k) with h1 | h1
  · exact .inl h1
  · rw [h1]
    rcases cwK_ok h e.y no (fun y => aluK e.op (cw vals e.x) y fun v => Tr.setK 20 t vals.length (some v) fun t => evK l (Nat.succ vals.length) t no k) with h2 | h2
    · exact .inl h2
    · rw [h2, aluK_eq, setK_eq']
      have hs := h.snoc (by omega) (evE vals e)
      have ih := evK_ok no k l _ _ hs (by simp; omega)
      rw [List.length_append] at ih
      rw [List.reverse_cons, evT_append]
      exact ih
def memK (mm : Nat) (t : Tr Wd) : List Nat → Option (List Wd)
 | [] => some []
 | a :: l => fP (fld mm a) fun c => cwK t c none fun v => match memK mm t l with
   | some vs => some (v :: vs)
   | none => none
def valsK (s : St) (ins : List Wd) (n0 : Nat) (outs : List Nat) : Option (List Wd) := match s with
 | .done _ _ mm T _ => bif Nat.ble (lenL T) 900000 then evK T.reverse n0 (trW ins 0 .nil) none fun t => memK mm t outs else none
 | _ => none
theorem memK_ok {mm : Nat} {t : Tr Wd} {vals : List Wd} (h : Has t vals) : ∀ {l : List Nat} {vs : List Wd}, memK mm t l = some vs → vs.length = l.length ∧ ∀ (j a : Nat) (v : Wd), l[j]? = some a → vs[j]? = some v → v = cw vals (fld mm a)
 | [], vs, hv => by
  unfold memK at hv
  injection hv with hv
  subst hv
  exact ⟨rfl, fun j a v h1 => by simp at h1⟩
 | a :: l, vs, hv => by
  unfold memK at hv
  simp only [fP_eq] at hv
  rcases cwK_ok h (fld mm a) none (fun v => match memK mm t l with | some vs => some (v :: vs) | none => none) with h1 | h1
  · rw [h1] at hv; cases hv
  · rw [h1] at hv
    cases hm : memK mm t l with
    | none => rw [hm] at hv; cases hv
    | some us =>
     rw [hm] at hv
     injection hv with hv
     subst hv
     obtain ⟨q1, q2⟩ := memK_ok h hm
     refine ⟨by simp [q1], fun j b v hj hv => ?_⟩
     cases j with
     | zero =>
      simp at hj hv
      subst hj hv
      rfl
     | succ j => exact q2 j b v (by simpa using hj) (by simpa using hv)
theorem told_ok {code nc mem nm : Nat} {ps : List Nat} {ins gs : List Wd} {n0 : Nat} {outs : List Nat} {vs : List Wd} (hl : nm ≤ 2048) (hn : (ins ++ gs).length = n0) (h3000 : n0 ≤ 3000) (ho : allOkc n0 mem nm = true) (hout : ∀ a ∈ outs, a < nm)
 (h : valsK (resA code nc mem nm n0 ps) ins n0 outs = some vs) :
 ∃ N m' pc ns mm T M, resA code nc mem nm n0 ps = .done pc ns mm T M ∧ N ≤ sumP ps ∧ Reach (Nx (wordsOf code nc)) N (ma0 (memOf (ins ++ gs) mem nm)) m' ∧ m'.st = 1 ∧ m'.ks = M.reverse ∧ m'.mm.length = nm ∧ vs.length = outs.length ∧
  (∀ (j a : Nat) (v : Wd), outs[j]? = some a → vs[j]? = some v → m'.mm[a]? = some v) ∧ ∀ i, i < nm → m'.mm[i]? = some (cw (evT (ins ++ gs) T) (fld mm i)) := by
 subst hn
 cases hs : resA code nc mem nm (ins ++ gs).length ps with
 | bad => rw [hs] at h; cases h
 | go _ _ _ _ _ _ => rw [hs] at h; cases h
 | done pc ns mm T M =>
  obtain ⟨N, m', h1, h2, h3, h4, h5, h6⟩ := res_ok (ins := ins ++ gs) hl ho hs
  rw [hs] at h
  unfold valsK at h
  simp only [] at h
  cases hb : Nat.ble (lenL T) 900000 with
  | false => rw [hb] at h; cases h
  | true =>
  rw [hb] at h
  simp only [cond_true] at h
  have hTl : T.length ≤ 900000 := ble_iff.1 hb
  have hil : ins.length ≤ 3000 := by rw [List.length_append] at h3000; omega
  have h0 : Has (trW ins 0 .nil) (ins ++ gs) := fun k v hv => by
   rw [trW_get ins 0 _ k (by omega), Tr.get_nil] at hv
   split at hv
   · rw [List.getElem?_append_left (by omega)]; exact hv
   · cases hv
  have hK := evK_ok (none : Option (List Wd)) (fun t => memK mm t outs) T.reverse _ (ins ++ gs) h0 (by simp at h3000 ⊢; omega)
  rcases hK with hK | ⟨t', hK, ht⟩
  · rw [hK] at h; cases h
  · rw [hK] at h
    rw [List.reverse_reverse] at ht
    obtain ⟨q1, q2⟩ := memK_ok ht h
    refine ⟨N, m', pc, ns, mm, T, M, rfl, h1, h2, h3, h4, h5, q1, fun j a v hj hv => ?_, fun i hi => (h6 i hi).1⟩
    rw [q2 j a v hj hv]
    exact (h6 a (hout a (List.mem_of_getElem? hj))).1
end Go.Proofs.YthnhilghjadigaaGreatDoor.Ab

/- What the filter's program reckons of bytes, as words. No program is in sight. -/
namespace Go.Proofs.YthnhilghjadigaaGreatDoor.Ab
open Go.RowKit Go.Proofs.YthnhilghjadigaaGreatDoor
set_option linter.unusedVariables false
def crcBit (c : Wd) : Wd := andW (xorW (shlW c (kW 1)) (andW (negW (andW (shrW c (kW 15)) (kW 1))) (kW 4129))) (kW 65535)
def crcByte (c b : Wd) : Wd := crcBit (crcBit (crcBit (crcBit (crcBit (crcBit (crcBit (crcBit (xorW c (upW b 8)))))))))
def crcW (l : List Wd) : Wd := l.foldl crcByte (kW 65535)
structure St7 where
 q : Q4
 s : Wd
 f : Wd
 g : Wd
end Go.Proofs.YthnhilghjadigaaGreatDoor.Ab

/- The sum of bytes, as words, is the sum of bytes. No program is in sight. -/
namespace Go.Proofs.YthnhilghjadigaaGreatDoor.Ab
open Go Go.RowKit Go.Proofs.YthnhilghjadigaaGreatDoor
set_option linter.unusedVariables false
def bitN (x : Nat) : Nat := if 32768 ≤ x then (2 * x % 65536) ^^^ 4129 else 2 * x % 65536
theorem bitN_lt (x : Nat) : bitN x < 65536 := by
 unfold bitN
 split
 · exact Nat.xor_lt_two_pow (n := 16) (Nat.mod_lt _ (by decide)) (by decide)
 · exact Nat.mod_lt _ (by decide)
def byteN8 (x : Nat) : Nat := bitN (bitN (bitN (bitN (bitN (bitN (bitN (bitN x)))))))
theorem xor_nat (a b : Nat) (ha : a < 2147483648) (hb : b < 2147483648) : bits BinOp.xor IntKind.i32 a b = ((a ^^^ b : Nat) : Int) := by
 show IntKind.i32.wrap (((BitVec.ofInt 32 (a : Int)) ^^^ (BitVec.ofInt 32 (b : Int))).toNat : Int) = _
 have hx : a ^^^ b < 2 ^ 31 := Nat.xor_lt_two_pow (by omega) (by omega)
 rw [BitVec.ofInt_natCast, BitVec.ofInt_natCast, BitVec.toNat_xor, BitVec.toNat_ofNat, BitVec.toNat_ofNat, Nat.mod_eq_of_lt (by omega : a < 2 ^ 32), Nat.mod_eq_of_lt (by omega : b < 2 ^ 32), IntKind.wrap_i32]
 omega
theorem and_nat (a b : Nat) (ha : a < 2147483648) (hb : b < 2147483648) : bits BinOp.and IntKind.i32 a b = ((a &&& b : Nat) : Int) := by
 show IntKind.i32.wrap (((BitVec.ofInt 32 (a : Int)) &&& (BitVec.ofInt 32 (b : Int))).toNat : Int) = _
 have hx : a &&& b ≤ a := Nat.and_le_left
 rw [BitVec.ofInt_natCast, BitVec.ofInt_natCast, BitVec.toNat_and, BitVec.toNat_ofNat, BitVec.toNat_ofNat, Nat.mod_eq_of_lt (by omega : a < 2 ^ 32), Nat.mod_eq_of_lt (by omega : b < 2 ^ 32), IntKind.wrap_i32]
 omega
theorem kW_nat {n : Nat} (h : n < 2147483648) : (kW (n : Int)).v = n := kW_v (by unfold In32; omega)
theorem and_kW {a b : Nat} (ha : a < 2147483648) (hb : b < 2147483648) : andW (kW (a : Int)) (kW (b : Int)) = kW ((a &&& b : Nat) : Int) := by
 apply Wd.ext_
 show bits .and .i32 (kW (a : Int)).v (kW (b : Int)).v = _
 rw [kW_nat ha, kW_nat hb, and_nat a b ha hb, kW_nat (Nat.lt_of_le_of_lt Nat.and_le_left ha)]
theorem xor_kW {a b : Nat} (ha : a < 2147483648) (hb : b < 2147483648) : xorW (kW (a : Int)) (kW (b : Int)) = kW ((a ^^^ b : Nat) : Int) := by
 apply Wd.ext_
 show bits .xor .i32 (kW (a : Int)).v (kW (b : Int)).v = _
 rw [kW_nat ha, kW_nat hb, xor_nat a b ha hb, kW_nat (Nat.xor_lt_two_pow (n := 31) ha hb)]
theorem shl_kW {a : Nat} (ha : a < 65536) (k : Nat) (hk : k ≤ 8) : shlW (kW (a : Int)) (kW (k : Int)) = kW ((a * 2 ^ k : Nat) : Int) := by
 have h2 : a * 2 ^ k ≤ 65535 * 2 ^ 8 := Nat.mul_le_mul (by omega) (Nat.pow_le_pow_right (by decide) hk)
 have hb : a * 2 ^ k < 2147483648 := by omega
 apply Wd.ext_
 show shlI (kW (a : Int)).v (kW (k : Int)).v = _
 rw [kW_nat (by omega), kW_nat (by omega), kW_nat hb]
 have hs : sh (k : Int) = k := by
  have : ∀ k : Nat, k ≤ 8 → sh (k : Int) = k := by decide
  exact this k hk
 unfold shlI
 rw [hs, show (a : Int) % 4294967296 = (a : Int) by omega]
 have e : (a : Int) * 2 ^ k = ((a * 2 ^ k : Nat) : Int) := by push_cast; rfl
 rw [e]
 unfold wrap32
 omega
theorem shr15_kW {a : Nat} (ha : a < 65536) : shrW (kW (a : Int)) (kW 15) = kW ((a / 32768 : Nat) : Int) := by
 apply Wd.ext_
 show shrI (kW (a : Int)).v (kW 15).v = _
 rw [kW_nat (by omega), kW_nat (by omega), show (kW 15).v = 15 by decide +kernel]
 unfold shrI
 rw [show sh 15 = 15 by decide, show (a : Int) % 4294967296 = (a : Int) by omega]
 unfold wrap32
 omega
theorem crcBit_kW {c : Nat} (hc : c < 65536) : crcBit (kW (c : Int)) = kW ((bitN c : Nat) : Int) := by
 unfold crcBit
 rw [shr15_kW hc]
 have e1 : shlW (kW (c : Int)) (kW 1) = kW ((c * 2 ^ 1 : Nat) : Int) := shl_kW hc 1 (by decide)
 rw [e1]
 by_cases h : 32768 ≤ c
 · have hd : c / 32768 = 1 := by omega
   have e2 : andW (negW (andW (kW ((1 : Nat) : Int)) (kW 1))) (kW 4129) = kW ((4129 : Nat) : Int) := by apply Wd.ext_; decide +kernel
   rw [hd, e2, xor_kW (by omega) (by decide)]
   have hx : c * 2 ^ 1 ^^^ 4129 < 2 ^ 17 := Nat.xor_lt_two_pow (by omega) (by decide)
   have e3 : andW (kW ((c * 2 ^ 1 ^^^ 4129 : Nat) : Int)) (kW 65535) = kW (((c * 2 ^ 1 ^^^ 4129) &&& 65535 : Nat) : Int) := and_kW (by omega) (by decide)
   rw [e3]
   congr 2
   unfold bitN
   rw [if_pos h, show (65535 : Nat) = 2 ^ 16 - 1 by decide, Nat.and_two_pow_sub_one_eq_mod, Nat.xor_mod_two_pow, show c * 2 ^ 1 % 2 ^ 16 = 2 * c % 65536 by omega]
 · have hd : c / 32768 = 0 := by omega
   have e2 : andW (negW (andW (kW ((0 : Nat) : Int)) (kW 1))) (kW 4129) = kW ((0 : Nat) : Int) := by apply Wd.ext_; decide +kernel
   rw [hd, e2, xor_kW (by omega) (by decide), Nat.xor_zero]
   have e3 : andW (kW ((c * 2 ^ 1 : Nat) : Int)) (kW 65535) = kW (((c * 2 ^ 1) &&& 65535 : Nat) : Int) := and_kW (by omega) (by decide)
   rw [e3]
   congr 2
   unfold bitN
   rw [if_neg h, show (65535 : Nat) = 2 ^ 16 - 1 by decide, Nat.and_two_pow_sub_one_eq_mod, show c * 2 ^ 1 % 2 ^ 16 = 2 * c % 65536 by omega]
theorem crcByte_kW {c b : Nat} (hc : c < 65536) (hb : b < 256) : crcByte (kW (c : Int)) (kW (b : Int)) = kW ((byteN8 (c ^^^ (256 * b)) : Nat) : Int) := by
 unfold crcByte byteN8
 have e1 : upW (kW (b : Int)) 8 = kW ((b * 2 ^ 8 : Nat) : Int) := by
  have h := shl_kW (a := b) (by omega) 8 (by decide)
  rw [← h]
  apply Wd.ext_
  show shlI (kW (b : Int)).v 8 = shlI (kW (b : Int)).v (kW ((8 : Nat) : Int)).v
  rw [kW_nat (n := 8) (by decide)]
  rfl
 have hx : c ^^^ (256 * b) < 2 ^ 16 := Nat.xor_lt_two_pow hc (by omega)
 rw [e1, show b * 2 ^ 8 = 256 * b by omega, xor_kW (by omega) (by omega), crcBit_kW hx, crcBit_kW (bitN_lt _), crcBit_kW (bitN_lt _), crcBit_kW (bitN_lt _), crcBit_kW (bitN_lt _), crcBit_kW (bitN_lt _), crcBit_kW (bitN_lt _), crcBit_kW (bitN_lt _)]
theorem byteN8_lt (x : Nat) : byteN8 x < 65536 := bitN_lt _
def sumN (c : Nat) (l : List Nat) : Nat := l.foldl (fun c b => byteN8 (c ^^^ (256 * b))) c
theorem crcW_kW : ∀ (l : List Nat) (c : Nat), c < 65536 → (∀ b ∈ l, b < 256) → (l.map fun (b : Nat) => kW (b : Int)).foldl crcByte (kW (c : Int)) = kW ((sumN c l : Nat) : Int)
 | [], c, _, _ => rfl
 | b :: l, c, hc, hb => by
  simp only [List.map_cons, List.foldl_cons, sumN]
  rw [crcByte_kW hc (hb b (by simp))]
  exact crcW_kW l _ (byteN8_lt _) (fun x hx => hb x (by simp [hx]))
end Go.Proofs.YthnhilghjadigaaGreatDoor.Ab

/- xor by bits, and a sum's step bit by bit: plain. -/
namespace Go.Proofs.YthnhilghjadigaaGreatDoor
open Go.RowKit Go.Proofs.YthnhilghjadigaaGreatDoor.Ab
set_option linter.unusedVariables false
theorem xor_bit (a b i : Nat) : (a ^^^ b) / 2 ^ i % 2 = if a / 2 ^ i % 2 = b / 2 ^ i % 2 then 0 else 1 := by
 have h := Nat.testBit_xor a b i
 rw [Nat.testBit_eq_decide_div_mod_eq, Nat.testBit_eq_decide_div_mod_eq, Nat.testBit_eq_decide_div_mod_eq] at h
 have hx := Nat.mod_lt ((a ^^^ b) / 2 ^ i) (show 0 < 2 by decide)
 have ha := Nat.mod_lt (a / 2 ^ i) (show 0 < 2 by decide)
 have hb := Nat.mod_lt (b / 2 ^ i) (show 0 < 2 by decide)
 generalize (a ^^^ b) / 2 ^ i % 2 = x at *
 generalize a / 2 ^ i % 2 = y at *
 generalize b / 2 ^ i % 2 = z at *
 rcases (by omega : x = 0 ∨ x = 1) with rfl | rfl <;> rcases (by omega : y = 0 ∨ y = 1) with rfl | rfl <;> rcases (by omega : z = 0 ∨ z = 1) with rfl | rfl <;> simp_all
theorem xor_more (a b i : Nat) : (a ^^^ b) % 2 ^ (i + 1) = (a ^^^ b) % 2 ^ i + (if a / 2 ^ i % 2 = b / 2 ^ i % 2 then 0 else 2 ^ i) := by
 have h : (a ^^^ b) % 2 ^ (i + 1) = (a ^^^ b) % 2 ^ i + 2 ^ i * ((a ^^^ b) / 2 ^ i % 2) := by rw [Nat.pow_succ, Nat.mod_mul]
 rw [h, xor_bit]
 split <;> simp
def itN : Nat → Nat → Nat
 | 0, x => x
 | i + 1, x => bitN (itN i x)
theorem itN_8 (x : Nat) : itN 8 x = byteN8 x := rfl
theorem itN_lt {x : Nat} (h : x < 65536) : ∀ i, itN i x < 65536
 | 0 => h
 | i + 1 => bitN_lt _
end Go.Proofs.YthnhilghjadigaaGreatDoor
