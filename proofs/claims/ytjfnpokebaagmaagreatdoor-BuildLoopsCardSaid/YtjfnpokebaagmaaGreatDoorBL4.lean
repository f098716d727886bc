/- Texts of this claim, side by side: CoreI, LoopA, LoopB, LoopC, LoopD. -/
import Derived.Test.YtjfnpokebaagmaaGreatDoorCoreH
/- The core: good instructions, as one contract; a step as a function. -/
namespace Go.Proofs.YtjfnpokebaagmaaGreatDoor
open Go.RowKit Go.Deep Go.Maps
set_option linter.unusedVariables false
attribute [local go_sem] Oper.semAt_some
set_option maxRecDepth 100000 in
set_option maxHeartbeats 1000000 in
theorem doAdd_calls (a b : Int) (w : World) : Calls Tryz.prog 77 #[.int .i64 1, .int .i32 a, .int .i32 b] w fun e w' => e = .returned (.tuple #[.int .i32 (wrap32 (a + b)), .bool true]) ∧ Chg w w' [] := by
 have HC := hide (Chg.refl w [])
 go_enter Tryz.func77, Tryz.ntmps77
 go_wp2
 go_ret2
 exact ⟨rfl, HC.out⟩
inductive GoodI : Ins5 → Prop
 | addi (d a : Nat) (n : Int) : d < 32 → a < 32 → -32768 ≤ n → n ≤ 32767 → GoodI ⟨31, d, a, 0, n⟩
 | ori (d a : Nat) (n : Int) : d < 32 → a < 32 → 0 ≤ n → n ≤ 65535 → GoodI ⟨32, d, a, 0, n⟩
 | lui (d : Nat) (n : Int) : d < 32 → 0 ≤ n → n ≤ 65535 → GoodI ⟨33, d, 0, 0, n⟩
 | blt (d a : Nat) (n : Int) : d < 32 → a < 32 → GoodI ⟨38, d, a, 0, n⟩
 | halt : GoodI ⟨43, 0, 0, 0, 0⟩
 | add (d a b : Nat) : d < 32 → a < 32 → b < 32 → GoodI ⟨1, d, a, b, 0⟩
def rg (s : CS) (i : Int) : Int := regC s i.toNat
def doI (i : Ins5) (s : CS) : CS :=
 if i.op = 31 then onC (putC s i.d.toNat (wrap32 (rg s i.a + i.n))) 1
 else if i.op = 32 then onC (putC s i.d.toNat (bits .or .i32 (rg s i.a) i.n)) 1
 else if i.op = 33 then onC (putC s i.d.toNat (wrap32 (i.n * 65536))) 1
 else if i.op = 38 then branchC s i.n (decide (rg s i.d < rg s i.a))
 else if i.op = 43 then haltC s
 else onC (putC s i.d.toNat (wrap32 (rg s i.a + rg s i.b))) 1
structure CEnv (w : World) (c : Nat) (cv mv : Value) : Prop where
 tab : CTab w
 lt : 1 < w.heap.size
 far : 1 ∉ footC c cv mv
theorem CEnv.chg {w w' : World} {c : Nat} {cv mv : Value} (h : CEnv w c cv mv) (hc : Chg w w' []) : CEnv w' c cv mv := ⟨h.tab.chg hc h.lt (by simp), Nat.lt_of_lt_of_le h.lt hc.size, h.far⟩
theorem CEnv.core {w w' : World} {c : Nat} {bp cv mv mv' : Value} {code : List (Ins5 × Bool)} {s : CS} (h : CEnv w c cv mv) (hc : Chg w w' ([c] ++ mv.ownBlock.toList)) (hm : mv'.ownBlock = mv.ownBlock ∨ ∃ g, mv'.ownBlock = some g ∧ w.heap.size ≤ g) : CEnv w' c cv mv' := by
 refine ⟨h.tab.chg hc h.lt (fun hm => h.far (by simp only [footC, List.mem_append] at hm ⊢; exact hm.elim .inl (fun h => .inr (.inr h)))), Nat.lt_of_lt_of_le h.lt hc.size, fun hf => ?_⟩
 simp only [footC, List.mem_append, List.mem_singleton, Option.mem_toList] at hf
 rcases hf with hf | hf | hf
 · exact h.far (by simp [footC, hf])
 · exact h.far (by simp [footC, hf])
 · rcases hm with e | ⟨g, e, hg⟩
   · exact h.far (by rw [e] at hf; simp [footC, hf])
   · rw [e] at hf
     injection hf with hf
     have := h.lt
     omega
theorem cost1 : costOf 1 = 1 := by kernel_rfl
theorem does_good {w : World} {c : Nat} {bp cv mv : Value} {code : List (Ins5 × Bool)} {s : CS} {i : Ins5} (h : CB w c bp cv mv code s) (he : CEnv w c cv mv) (hi : GoodI i) (hm : s.marks.length ≤ 2000000) :
 Calls Tryz.prog 61 #[.pointer (some ⟨c, 0, none⟩), insVal i] w fun e w' => (∃ v, e = .returned v) ∧ CoreP (doI i s) c bp cv mv code w w' := by
 cases hi with
 | addi d a n hd ha h1 h2 => exact does_addi h d a n hd ha h1 h2 hm
 | ori d a n hd ha h1 h2 => exact does_ori h d a n hd ha h1 h2 hm
 | lui d n hd h1 h2 => exact does_lui h d n hd h1 h2 hm
 | blt d a n hd ha => exact does_blt h d a n hd ha hm
 | halt => exact does_halt h hm he.tab he.lt
 | add d a b hd ha hb => exact does_alu h 1 _ 1 d a b (by decide) hd ha hb hm (fun W => doAdd_calls _ _ W) (fun W hc => by have := alucost_calls 1 (regC s a) W hc (by decide) (by decide); rw [cost1] at this; exact this) he.tab he.lt he.far
theorem doI_marks (i : Ins5) (s : CS) : (doI i s).marks.length ≤ s.marks.length + 1 := by
 unfold doI
 split
 · unfold onC goesC; simp [putC_marks]
 · split
   · unfold onC goesC; simp [putC_marks]
   · split
     · unfold onC goesC; simp [putC_marks]
     · split
       · unfold branchC
         split
         · unfold goesC; simp
         · unfold onC goesC; simp
       · split
         · unfold haltC goesC; simp
         · unfold onC goesC; simp [putC_marks]
def Stp (code : List (Ins5 × Bool)) (s s' : CS) : Prop := ∃ k i, s.pc = ((k : Nat) : Int) ∧ code[k]? = some (i, true) ∧ GoodI i ∧ s.st = 0 ∧ s' = doI i s
theorem step_good {w : World} {c : Nat} {b : Addr} {cv mv : Value} {code : List (Ins5 × Bool)} {s s' : CS} (h : CB w c (.pointer (some b)) cv mv code s) (he : CEnv w c cv mv) (hs : Stp code s s') (hm : s.marks.length ≤ 2000000) (hl : code.length ≤ 100000) :
 Calls Tryz.prog 43 #[.pointer (some ⟨c, 0, none⟩)] w fun e w' => e = .returned (.bool true) ∧ CoreP s' c (.pointer (some b)) cv mv code w w' := by
 obtain ⟨k, i, hk, hc, hi, hst, rfl⟩ := hs
 refine step_runs h k hk i hc hst hl (fun W' hcw => ?_)
 have h' := h.chg hcw (by simp)
 exact does_good h' (he.chg hcw) hi hm
end Go.Proofs.YtjfnpokebaagmaaGreatDoor

/- BuildLoops: paths of a core; registers one to eight. -/
namespace Go.Proofs.YtjfnpokebaagmaaGreatDoor
open Go.RowKit Go.Deep Go.Maps
set_option linter.unusedVariables false
inductive Path (code : List (Ins5 × Bool)) : CS → Nat → CS → Prop
 | nil (s : CS) : Path code s 0 s
 | cons {s s1 s2 : CS} {n : Nat} : Stp code s s1 → Path code s1 n s2 → Path code s (n + 1) s2
theorem Path.trans {code : List (Ins5 × Bool)} {s1 s2 s3 : CS} {n m : Nat} (h : Path code s1 n s2) (h2 : Path code s2 m s3) : Path code s1 (n + m) s3 := by
 induction h with
 | nil s => simpa using h2
 | cons hs _ ih =>
  rw [show ∀ a b : Nat, a + 1 + b = (a + b) + 1 by intro a b; omega]
  exact .cons hs (ih h2)
theorem Path.it {code : List (Ins5 × Bool)} {s s' : CS} {n : Nat} (h : Path code s n s') : ∃ it : Nat → CS, it 0 = s ∧ it n = s' ∧ ∀ j, j < n → Stp code (it j) (it (j + 1)) := by
 induction h with
 | nil s => exact ⟨fun _ => s, rfl, rfl, fun j hj => by omega⟩
 | @cons s s1 s2 n hs _ ih =>
  obtain ⟨it, h0, hn, hst⟩ := ih
  refine ⟨fun j => match j with | 0 => s | j + 1 => it j, rfl, hn, fun j hj => ?_⟩
  cases j with
  | zero => show Stp code s (it 0); rw [h0]; exact hs
  | succ j => exact hst j (by omega)
theorem it_marks {code : List (Ins5 × Bool)} {it : Nat → CS} {n : Nat} (h : ∀ j, j < n → Stp code (it j) (it (j + 1))) : ∀ j, j ≤ n → (it j).marks.length ≤ (it 0).marks.length + j
 | 0, _ => Nat.le_refl _
 | j + 1, hj => by
  have h1 := it_marks h j (by omega)
  obtain ⟨k, i, _, _, _, _, e⟩ := h j (by omega)
  have := doI_marks i (it j)
  rw [← e] at this
  omega
theorem regC_put (s : CS) (d i : Nat) (x : Int) (hd : 0 < d) (hl : s.regs.length = 32) (hd2 : d < 32) : regC (putC s d x) i = if i = d then x else regC s i := by
 unfold putC regC
 rw [if_neg (by omega)]
 simp only [List.getD_eq_getElem?_getD, List.getElem?_set]
 by_cases h : i = d
 · subst h; simp [hl, hd2]
 · rw [if_neg (fun e => h e.symm), if_neg h]
theorem put_len (s : CS) (d : Nat) (x : Int) : (putC s d x).regs.length = s.regs.length := by unfold putC; split <;> simp
theorem w32 {x : Int} (h1 : -2147483648 ≤ x) (h2 : x ≤ 2147483647) : wrap32 x = x := by unfold wrap32; omega
theorem w64 {x : Int} (h1 : -9223372036854775808 ≤ x) (h2 : x ≤ 9223372036854775807) : wrap64 x = x := by unfold wrap64; omega
structure RV (s : CS) (pc : Nat) (f : Nat → Int) : Prop where
 len : s.regs.length = 32
 st : s.st = 0
 pc : s.pc = (pc : Int)
 reg : ∀ i, i ≤ 8 → regC s i = f i
def upd (f : Nat → Int) (d : Nat) (x : Int) : Nat → Int := fun i => if i = d then x else f i
section
variable {code : List (Ins5 × Bool)} {s : CS} {pc : Nat} {f : Nat → Int}
theorem RV.put (h : RV s pc f) (d : Nat) (x : Int) (hd : 0 < d) (hd2 : d < 32) (hp : pc < 1000000) : RV (onC (putC s d x) 1) (pc + 1) (upd f d x) := by
 refine ⟨by show (putC s d x).regs.length = 32; rw [put_len]; exact h.len, ?_, ?_, fun i hi => ?_⟩
 · show (putC s d x).st = 0
   unfold putC
   split
   · exact h.st
   · exact h.st
 · show wrap64 ((putC s d x).pc + 1) = _
   have : (putC s d x).pc = s.pc := by unfold putC; split <;> rfl
   rw [this, h.pc, w64 (by omega) (by omega)]
   omega
 · show regC (putC s d x) i = _
   rw [regC_put s d i x hd h.len hd2]
   unfold upd
   split
   · rfl
   · exact h.reg i hi
theorem RV.addi (h : RV s pc f) (d a : Nat) (n : Int) (hc : code[pc]? = some (⟨31, d, a, 0, n⟩, true)) (hd : 0 < d) (hd2 : d < 32) (ha : a ≤ 8) (h1 : -32768 ≤ n) (h2 : n ≤ 32767) (hp : pc < 1000000) (hr1 : -2147483648 ≤ f a + n) (hr2 : f a + n ≤ 2147483647) :
 ∃ s', Stp code s s' ∧ RV s' (pc + 1) (upd f d (f a + n)) := by
 refine ⟨_, ⟨pc, _, h.pc, hc, .addi d a n hd2 (by omega) h1 h2, h.st, rfl⟩, ?_⟩
 have e : doI ⟨31, d, a, 0, n⟩ s = onC (putC s d (f a + n)) 1 := by
  unfold doI rg
  rw [if_pos rfl]
  simp only [Int.toNat_natCast]
  rw [h.reg a ha, w32 hr1 hr2]
 rw [e]
 exact h.put d _ hd hd2 hp
theorem RV.add (h : RV s pc f) (d a b : Nat) (hc : code[pc]? = some (⟨1, d, a, b, 0⟩, true)) (hd : 0 < d) (hd2 : d < 32) (ha : a ≤ 8) (hb : b ≤ 8) (hp : pc < 1000000) (hr1 : -2147483648 ≤ f a + f b) (hr2 : f a + f b ≤ 2147483647) :
 ∃ s', Stp code s s' ∧ RV s' (pc + 1) (upd f d (f a + f b)) := by
 refine ⟨_, ⟨pc, _, h.pc, hc, .add d a b hd2 (by omega) (by omega), h.st, rfl⟩, ?_⟩
 have e : doI ⟨1, d, a, b, 0⟩ s = onC (putC s d (f a + f b)) 1 := by
  unfold doI rg
  simp only [Int.toNat_natCast]
  rw [if_neg (by decide : ¬ (1 : Int) = 31), if_neg (by decide : ¬ (1 : Int) = 32), if_neg (by decide : ¬ (1 : Int) = 33), if_neg (by decide : ¬ (1 : Int) = 38), if_neg (by decide : ¬ (1 : Int) = 43), h.reg a ha, h.reg b hb, w32 hr1 hr2]
 rw [e]
 exact h.put d _ hd hd2 hp
theorem RV.blt (h : RV s pc f) (d a t : Nat) (hc : code[pc]? = some (⟨38, d, a, 0, t⟩, true)) (hd : d ≤ 8) (ha : a ≤ 8) (hp : pc < 1000000) :
 ∃ s', Stp code s s' ∧ RV s' (if f d < f a then t else pc + 1) f := by
 refine ⟨_, ⟨pc, _, h.pc, hc, .blt d a t (by omega) (by omega), h.st, rfl⟩, ?_⟩
 have e : doI ⟨38, d, a, 0, t⟩ s = branchC s t (decide (f d < f a)) := by
  unfold doI rg
  simp only [Int.toNat_natCast]
  rw [if_neg (by decide : ¬ (38 : Int) = 31), if_neg (by decide : ¬ (38 : Int) = 32), if_neg (by decide : ¬ (38 : Int) = 33), if_pos trivial]
  simp only [h.reg a ha, h.reg d hd]
 rw [e]
 unfold branchC
 by_cases hx : f d < f a
 · rw [if_pos (by simpa using hx), if_pos hx]
   exact ⟨h.len, h.st, rfl, fun i hi => h.reg i hi⟩
 · rw [if_neg (by simpa using hx), if_neg hx]
   refine ⟨h.len, h.st, ?_, fun i hi => h.reg i hi⟩
   show wrap64 (s.pc + 1) = _
   rw [h.pc, w64 (by omega) (by omega)]
   omega
end
end Go.Proofs.YtjfnpokebaagmaaGreatDoor

/- BuildLoops: what its code comes to. -/
namespace Go.Proofs.YtjfnpokebaagmaaGreatDoor
open Go.RowKit Go.Deep Go.Maps
set_option linter.unusedVariables false
def loopsCode (p : Nat) (x y : Int) : List Ins5 :=
 [⟨31, 1, 0, 0, 0⟩, ⟨31, 2, 0, 0, x⟩, ⟨31, 3, 0, 0, 0⟩, ⟨31, 4, 0, 0, y⟩, ⟨31, 6, 6, 0, 1⟩, ⟨1, 7, 7, 1, 0⟩, ⟨1, 8, 8, 3, 0⟩, ⟨31, 3, 3, 0, 1⟩, ⟨38, 3, 4, 0, ((p + 4 : Nat) : Int)⟩, ⟨31, 1, 1, 0, 1⟩, ⟨38, 1, 2, 0, ((p + 2 : Nat) : Int)⟩, ⟨43, 0, 0, 0, 0⟩]
def Holds (code : List (Ins5 × Bool)) (p : Nat) (l : List Ins5) : Prop := ∀ k i, l[k]? = some i → code[p + k]? = some (i, true)
def tri (n : Nat) : Int := (n * (n - 1) / 2 : Nat)
theorem tri_succ (n : Nat) : tri (n + 1) = tri n + n := by
 unfold tri
 have h : (n + 1) * (n + 1 - 1) / 2 = n * (n - 1) / 2 + n := by
  cases n with
  | zero => rfl
  | succ n =>
   simp only [Nat.add_sub_cancel]
   rw [show (n + 1 + 1) * (n + 1) = (n + 1) * n + (n + 1) * 2 by rw [Nat.add_mul (n+1) 1 (n+1), Nat.mul_add, Nat.mul_add]; omega]
   rw [Nat.add_mul_div_right _ _ (by decide)]
 rw [h]
 push_cast
 rfl
section
variable {code : List (Ins5 × Bool)} {p : Nat} {x y : Nat}
theorem inner (h : Holds code p (loopsCode p x y)) (hp : p ≤ 10) (hx : x ≤ 30) (hy : y ≤ 30) : ∀ (m j : Nat) (s : CS) (f : Nat → Int), y = j + m → 0 < m → RV s (p + 4) f → f 3 = j → f 4 = y → (0 ≤ f 1 ∧ f 1 ≤ 30) → (0 ≤ f 6 ∧ f 6 + m ≤ 100000) → (0 ≤ f 7 ∧ f 7 + 30 * m ≤ 100000) → (0 ≤ f 8 ∧ f 8 + 30 * m ≤ 100000) →
 ∃ s' g, Path code s (5 * m) s' ∧ RV s' (p + 9) g ∧ g 1 = f 1 ∧ g 2 = f 2 ∧ g 5 = f 5 ∧ g 0 = f 0 ∧ g 6 = f 6 + m ∧ g 7 = f 7 + m * f 1 ∧ g 8 = f 8 + (tri y - tri j) := by
 intro m
 induction m with
 | zero => intro j s f _ h0; omega
 | succ m ih =>
  intro j s f hyj _ hr h3 h4 h1 h6 h7 h8
  obtain ⟨s1, t1, r1⟩ := hr.addi 6 6 1 (h 4 _ rfl) (by decide) (by decide) (by decide) (by decide) (by decide) (by omega) (by omega) (by omega)
  obtain ⟨s2, t2, r2⟩ := r1.add 7 7 1 (h 5 _ rfl) (by decide) (by decide) (by decide) (by decide) (by omega) (by simp [upd]; omega) (by simp [upd]; omega)
  obtain ⟨s3, t3, r3⟩ := r2.add 8 8 3 (h 6 _ rfl) (by decide) (by decide) (by decide) (by decide) (by omega) (by simp [upd]; omega) (by simp [upd]; omega)
  obtain ⟨s4, t4, r4⟩ := r3.addi 3 3 1 (h 7 _ rfl) (by decide) (by decide) (by decide) (by decide) (by decide) (by omega) (by simp [upd]; omega) (by simp [upd]; omega)
  obtain ⟨s5, t5, r5⟩ := r4.blt 3 4 (p + 4) (h 8 _ rfl) (by decide) (by decide) (by omega)
  have hpath : Path code s 5 s5 := .cons t1 (.cons t2 (.cons t3 (.cons t4 (.cons t5 (.nil _)))))
  generalize hg : upd (upd (upd (upd f 6 (f 6 + 1)) 7 (upd f 6 (f 6 + 1) 7 + upd f 6 (f 6 + 1) 1)) 8 (upd (upd f 6 (f 6 + 1)) 7 (upd f 6 (f 6 + 1) 7 + upd f 6 (f 6 + 1) 1) 8 + upd (upd f 6 (f 6 + 1)) 7 (upd f 6 (f 6 + 1) 7 + upd f 6 (f 6 + 1) 1) 3)) 3 (upd (upd (upd f 6 (f 6 + 1)) 7 (upd f 6 (f 6 + 1) 7 + upd f 6 (f 6 + 1) 1)) 8 (upd (upd f 6 (f 6 + 1)) 7 (upd f 6 (f 6 + 1) 7 + upd f 6 (f 6 + 1) 1) 8 + upd (upd f 6 (f 6 + 1)) 7 (upd f 6 (f 6 + 1) 7 + upd f 6 (f 6 + 1) 1) 3) 3 + 1) = f' at r5
  have e0 : f' 0 = f 0 := by rw [← hg]; simp [upd]
  have e1 : f' 1 = f 1 := by rw [← hg]; simp [upd]
  have e2 : f' 2 = f 2 := by rw [← hg]; simp [upd]
  have e3 : f' 3 = f 3 + 1 := by rw [← hg]; simp [upd]
  have e4 : f' 4 = f 4 := by rw [← hg]; simp [upd]
  have e5 : f' 5 = f 5 := by rw [← hg]; simp [upd]
  have e6 : f' 6 = f 6 + 1 := by rw [← hg]; simp [upd]
  have e7 : f' 7 = f 7 + f 1 := by rw [← hg]; simp [upd]
  have e8 : f' 8 = f 8 + f 3 := by rw [← hg]; simp [upd]
  clear hg
  have ht := tri_succ j
  by_cases hm : m = 0
  · subst hm
    rw [if_neg (by omega)] at r5
    have hyj' : y = j + 1 := by omega
    refine ⟨s5, f', hpath, r5, e1, e2, e5, e0, by omega, by omega, ?_⟩
    rw [hyj', ht, e8, h3]
    omega
  · rw [if_pos (by omega)] at r5
    have hmf : (m : Int) * f 1 + f 1 = ((m + 1 : Nat) : Int) * f 1 := by push_cast; rw [Int.add_mul, Int.one_mul]
    obtain ⟨s', g, hp', hr', g1, g2, g5, g0, g6, g7, g8⟩ := ih (j + 1) s5 f' (by omega) (by omega) r5 (by omega) (by omega) (by omega) (by omega) (by omega) (by omega)
    refine ⟨s', g, ?_, hr', by omega, by omega, by omega, by omega, by omega, ?_, by omega⟩
    · have := hpath.trans hp'
      rw [show 5 * (m + 1) = 5 + 5 * m by omega]
      exact this
    · rw [g7, e7, e1, ← hmf]
      omega
end
end Go.Proofs.YtjfnpokebaagmaaGreatDoor

/- BuildLoops: the outer loop, and the whole run. -/
namespace Go.Proofs.YtjfnpokebaagmaaGreatDoor
open Go.RowKit Go.Deep Go.Maps
set_option linter.unusedVariables false
theorem tri_bound {n : Nat} (h : n ≤ 30) : 0 ≤ tri n ∧ tri n ≤ 900 := by
 unfold tri
 have h2 : n * (n - 1) / 2 ≤ 900 := by
  have : n * (n - 1) ≤ 30 * 30 := Nat.mul_le_mul h (by omega)
  omega
 omega
section
variable {code : List (Ins5 × Bool)} {p : Nat} {x y : Nat}
theorem outer (h : Holds code p (loopsCode p x y)) (hp : p ≤ 10) (hx : x ≤ 30) (hy : y ≤ 30) (hy0 : 0 < y) : ∀ (m i : Nat) (s : CS) (f : Nat → Int), x = i + m → 0 < m → RV s (p + 2) f → f 0 = 0 → f 1 = i → f 2 = x → (0 ≤ f 6 ∧ f 6 + 30 * m ≤ 50000) → (0 ≤ f 7 ∧ f 7 + 900 * m ≤ 50000) → (0 ≤ f 8 ∧ f 8 + 900 * m ≤ 50000) →
 ∃ n s' g, n ≤ 160 * m ∧ Path code s n s' ∧ RV s' (p + 11) g ∧ g 5 = f 5 ∧ g 6 = f 6 + m * y ∧ g 7 = f 7 + y * (tri x - tri i) ∧ g 8 = f 8 + m * tri y := by
 intro m
 induction m with
 | zero => intro i s f _ h0; omega
 | succ m ih =>
  intro i s f hxi _ hr h0 h1 h2 h6 h7 h8
  obtain ⟨s1, t1, r1⟩ := hr.addi 3 0 0 (h 2 _ rfl) (by decide) (by decide) (by decide) (by decide) (by decide) (by omega) (by omega) (by omega)
  obtain ⟨s2, t2, r2⟩ := r1.addi 4 0 y (h 3 _ rfl) (by decide) (by decide) (by decide) (by omega) (by omega) (by omega) (by simp [upd]; omega) (by simp [upd]; omega)
  generalize hg : upd (upd f 3 (f 0 + 0)) 4 (upd f 3 (f 0 + 0) 0 + (y : Int)) = f2 at r2
  have e0 : f2 0 = f 0 := by rw [← hg]; simp [upd]
  have e1 : f2 1 = f 1 := by rw [← hg]; simp [upd]
  have e2 : f2 2 = f 2 := by rw [← hg]; simp [upd]
  have e3 : f2 3 = f 0 := by rw [← hg]; simp [upd]
  have e4 : f2 4 = f 0 + y := by rw [← hg]; simp [upd]
  have e5 : f2 5 = f 5 := by rw [← hg]; simp [upd]
  have e6 : f2 6 = f 6 := by rw [← hg]; simp [upd]
  have e7 : f2 7 = f 7 := by rw [← hg]; simp [upd]
  have e8 : f2 8 = f 8 := by rw [← hg]; simp [upd]
  clear hg
  have htb := tri_bound hy
  have hti : (0 : Int) ≤ f2 1 ∧ f2 1 ≤ 30 := by omega
  obtain ⟨s3, g, hpi, r3, g1, g2, g5, g0, g6, g7, g8⟩ := inner h hp hx hy y 0 s2 f2 (by omega) hy0 r2 (by simp [e3, h0]) (by omega) hti (by omega) (by omega) (by omega)
  have ht0 : tri 0 = 0 := rfl
  have hyf : 0 ≤ (y : Int) * f2 1 ∧ (y : Int) * f2 1 ≤ 900 := by
   refine ⟨Int.mul_nonneg (by omega) hti.1, ?_⟩
   have h3 : (y : Int) * f2 1 ≤ 30 * 30 := Int.mul_le_mul (by omega) hti.2 hti.1 (by decide)
   omega
  obtain ⟨s4, t4, r4⟩ := r3.addi 1 1 1 (h 9 _ rfl) (by decide) (by decide) (by decide) (by decide) (by decide) (by omega) (by omega) (by omega)
  obtain ⟨s5, t5, r5⟩ := r4.blt 1 2 (p + 2) (h 10 _ rfl) (by decide) (by decide) (by omega)
  generalize hg : upd g 1 (g 1 + 1) = f5 at r5
  have k0 : f5 0 = g 0 := by rw [← hg]; simp [upd]
  have k1 : f5 1 = g 1 + 1 := by rw [← hg]; simp [upd]
  have k2 : f5 2 = g 2 := by rw [← hg]; simp [upd]
  have k5 : f5 5 = g 5 := by rw [← hg]; simp [upd]
  have k6 : f5 6 = g 6 := by rw [← hg]; simp [upd]
  have k7 : f5 7 = g 7 := by rw [← hg]; simp [upd]
  have k8 : f5 8 = g 8 := by rw [← hg]; simp [upd]
  clear hg
  have hpath : Path code s (2 + (5 * y + 2)) s5 := (Path.cons t1 (.cons t2 (.nil _))).trans (hpi.trans (.cons t4 (.cons t5 (.nil _))))
  have hts := tri_succ i
  have hfi : f2 1 = (i : Int) := by omega
  rw [hfi] at g7 hyf
  by_cases hm : m = 0
  · subst hm
    rw [if_neg (by omega)] at r5
    have hxe : x = i + 1 := by omega
    refine ⟨_, s5, f5, by omega, hpath, r5, by omega, by push_cast; omega, ?_, by push_cast; omega⟩
    rw [hxe, hts, k7, g7, e7]
    rw [show tri i + (i : Int) - tri i = i by omega]
  · rw [if_pos (by omega)] at r5
    obtain ⟨n, s', g', hn, hp', hr', q5, q6, q7, q8⟩ := ih (i + 1) s5 f5 (by omega) (by omega) r5 (by omega) (by omega) (by omega) (by omega) (by omega) (by omega)
    refine ⟨_, s', g', ?_, hpath.trans hp', hr', by omega, ?_, ?_, ?_⟩
    · omega
    · rw [q6, k6, g6, e6]
      push_cast
      rw [Int.add_mul, Int.one_mul]
      omega
    · rw [q7, k7, g7, e7, hts]
      rw [show tri x - (tri i + (i : Int)) = (tri x - tri i) - i by omega, Int.mul_sub (y : Int) (tri x - tri i) i]
      omega
    · rw [q8, k8, g8, e8, ht0]
      push_cast
      rw [Int.add_mul, Int.one_mul]
      omega
end
end Go.Proofs.YtjfnpokebaagmaaGreatDoor

/- BuildLoops: the whole run. -/
namespace Go.Proofs.YtjfnpokebaagmaaGreatDoor
open Go.RowKit Go.Deep Go.Maps
set_option linter.unusedVariables false
theorem or_parts (k : Int) (h1 : -2147483648 ≤ k) (h2 : k ≤ 2147483647) : bits .or .i32 (wrap32 (k % 4294967296 / 65536 * 65536)) (k % 65536) = k := by
 show IntKind.i32.wrap ((BitVec.ofInt 32 (wrap32 (k % 4294967296 / 65536 * 65536)) ||| BitVec.ofInt 32 (k % 65536)).toNat : Int) = _
 have e1 : (BitVec.ofInt 32 (wrap32 (k % 4294967296 / 65536 * 65536))).toNat = (k % 4294967296 / 65536 * 65536).toNat := by
  rw [BitVec.toNat_ofInt]
  congr 1
  unfold wrap32
  omega
 have e2 : (BitVec.ofInt 32 (k % 65536)).toNat = (k % 65536).toNat := by
  rw [BitVec.toNat_ofInt]
  congr 1
  omega
 rw [BitVec.toNat_or, e1, e2, nat_join 16 _ _ (by omega) (by omega)]
 simp only [IntKind.wrap, IntKind.bits, IntKind.signed]
 simp
 omega
def cs0 : CS := ⟨List.replicate 32 0, 0, 0, 0, []⟩
theorem RV_0 : RV cs0 0 (fun _ => 0) := ⟨rfl, rfl, rfl, fun i hi => by
 unfold regC cs0
 simp only [List.getD_eq_getElem?_getD, List.getElem?_replicate]
 rw [if_pos (by omega)]
 rfl⟩
section
variable {code : List (Ins5 × Bool)} {s : CS} {pc : Nat} {f : Nat → Int}
theorem RV.lui (h : RV s pc f) (d : Nat) (n : Int) (hc : code[pc]? = some (⟨33, d, 0, 0, n⟩, true)) (hd : 0 < d) (hd2 : d < 32) (h1 : 0 ≤ n) (h2 : n ≤ 65535) (hp : pc < 1000000) :
 ∃ s', Stp code s s' ∧ RV s' (pc + 1) (upd f d (wrap32 (n * 65536))) := by
 refine ⟨_, ⟨pc, _, h.pc, hc, .lui d n hd2 h1 h2, h.st, rfl⟩, ?_⟩
 have e : doI ⟨33, d, 0, 0, n⟩ s = onC (putC s d (wrap32 (n * 65536))) 1 := by
  unfold doI rg
  simp only [Int.toNat_natCast]
  rw [if_neg (by decide : ¬ (33 : Int) = 31), if_neg (by decide : ¬ (33 : Int) = 32), if_pos trivial]
 rw [e]
 exact h.put d _ hd hd2 hp
theorem RV.ori (h : RV s pc f) (d a : Nat) (n : Int) (hc : code[pc]? = some (⟨32, d, a, 0, n⟩, true)) (hd : 0 < d) (hd2 : d < 32) (ha : a ≤ 8) (h1 : 0 ≤ n) (h2 : n ≤ 65535) (hp : pc < 1000000) :
 ∃ s', Stp code s s' ∧ RV s' (pc + 1) (upd f d (bits .or .i32 (f a) n)) := by
 refine ⟨_, ⟨pc, _, h.pc, hc, .ori d a n hd2 (by omega) h1 h2, h.st, rfl⟩, ?_⟩
 have e : doI ⟨32, d, a, 0, n⟩ s = onC (putC s d (bits .or .i32 (f a) n)) 1 := by
  unfold doI rg
  simp only [Int.toNat_natCast]
  rw [if_neg (by decide : ¬ (32 : Int) = 31), if_pos trivial, h.reg a ha]
 rw [e]
 exact h.put d _ hd hd2 hp
theorem RV.halt (h : RV s pc f) (hc : code[pc]? = some (⟨43, 0, 0, 0, 0⟩, true)) :
 ∃ s', Stp code s s' ∧ s'.st = 1 ∧ ∀ i, i ≤ 8 → regC s' i = f i := by
 refine ⟨_, ⟨pc, _, h.pc, hc, .halt, h.st, rfl⟩, ?_⟩
 have e : doI ⟨43, 0, 0, 0, 0⟩ s = haltC s := by
  unfold doI
  rw [if_neg (by decide), if_neg (by decide), if_neg (by decide), if_neg (by decide), if_pos rfl]
 rw [e]
 exact ⟨rfl, fun i hi => h.reg i hi⟩
end
theorem put_run {code : List (Ins5 × Bool)} (k : Int) (h1 : -2147483648 ≤ k) (h2 : k ≤ 2147483647) (h : Holds code 0 (setCode 5 k)) : ∃ n s f, n ≤ 2 ∧ n = (setCode 5 k).length ∧ Path code cs0 n s ∧ RV s n f ∧ f 5 = k ∧ ∀ i, i ≠ 5 → f i = 0 := by
 by_cases hk : -32768 ≤ k ∧ k ≤ 32767
 · have e : setCode 5 k = [⟨31, 5, 0, 0, k⟩] := by unfold setCode; rw [if_pos hk]
   rw [e] at h ⊢
   obtain ⟨s1, t1, r1⟩ := RV_0.addi 5 0 k (h 0 _ rfl) (by decide) (by decide) (by decide) hk.1 hk.2 (by decide) (by simp; omega) (by simp; omega)
   exact ⟨1, s1, _, by decide, rfl, .cons t1 (.nil _), r1, by simp [upd], fun i hi => by simp [upd, hi]⟩
 · have e : setCode 5 k = [⟨33, 5, 0, 0, k % 4294967296 / 65536⟩, ⟨32, 5, 5, 0, k % 65536⟩] := by unfold setCode; rw [if_neg hk]
   rw [e] at h ⊢
   obtain ⟨s1, t1, r1⟩ := RV_0.lui 5 (k % 4294967296 / 65536) (h 0 _ rfl) (by decide) (by decide) (by omega) (by omega) (by decide)
   obtain ⟨s2, t2, r2⟩ := r1.ori 5 5 (k % 65536) (h 1 _ rfl) (by decide) (by decide) (by decide) (by omega) (by omega) (by decide)
   refine ⟨2, s2, _, by decide, rfl, .cons t1 (.cons t2 (.nil _)), r2, ?_, fun i hi => by simp [upd, hi]⟩
   simp only [upd, if_true]
   exact or_parts k h1 h2
theorem loops_run {code : List (Ins5 × Bool)} (k : Int) (x y : Nat) (h1 : -2147483648 ≤ k) (h2 : k ≤ 2147483647) (hx0 : 0 < x) (hx : x ≤ 30) (hy0 : 0 < y) (hy : y ≤ 30) (h : Holds code 0 (setCode 5 k)) (h' : Holds code (setCode 5 k).length (loopsCode (setCode 5 k).length x y)) :
 ∃ n s, n ≤ 5000 ∧ Path code cs0 n s ∧ s.st = 1 ∧ regC s 5 = k ∧ regC s 6 = x * y ∧ regC s 7 = y * tri x ∧ regC s 8 = x * tri y := by
 obtain ⟨p, s, f, hp, hpe, t, r, f5, fz⟩ := put_run k h1 h2 h
 rw [← hpe] at h'
 obtain ⟨s1, t1, r1⟩ := r.addi 1 0 0 (h' 0 _ rfl) (by decide) (by decide) (by decide) (by decide) (by decide) (by omega) (by rw [fz 0 (by decide)]; decide) (by rw [fz 0 (by decide)]; decide)
 have z0 := fz 0 (by decide)
 have z6 := fz 6 (by decide)
 have z7 := fz 7 (by decide)
 have z8 := fz 8 (by decide)
 obtain ⟨s2, t2, r2⟩ := r1.addi 2 0 x (h' 1 _ rfl) (by decide) (by decide) (by decide) (by omega) (by omega) (by omega) (by simp [upd, z0] <;> omega) (by simp [upd, z0] <;> omega)
 obtain ⟨n, s3, g, hn, hp3, r3, g5, g6, g7, g8⟩ := outer h' (by omega) hx hy hy0 x 0 s2 _ (by omega) hx0 r2 (by simp [upd, z0]) (by simp [upd, z0]) (by simp [upd, z0]) (by simp [upd, z6] <;> omega) (by simp [upd, z7] <;> omega) (by simp [upd, z8] <;> omega)
 obtain ⟨s4, t4, hst, hreg⟩ := r3.halt (h' 11 _ rfl)
 refine ⟨_, s4, ?_, t.trans ((Path.cons t1 (.cons t2 (.nil _))).trans (hp3.trans (.cons t4 (.nil _)))), hst, ?_, ?_, ?_, ?_⟩
 · omega
 · rw [hreg 5 (by decide), g5]; simp [upd, f5]
 · rw [hreg 6 (by decide), g6]; simp [upd, z6]
 · rw [hreg 7 (by decide), g7]; simp [upd, z7, show tri 0 = 0 from rfl]
 · rw [hreg 8 (by decide), g8]; simp [upd, z8]
end Go.Proofs.YtjfnpokebaagmaaGreatDoor
