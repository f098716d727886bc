/- Texts of this claim, side by side: ModelA, ModelB, EqS, ModelC, ModelD, ModelE, ModelF, ModelG. -/
import Derived.Test.YtihgijhjhmjolaaGreatDoorEntK
import Derived.Test.YtihgijhjhmjolaaGreatDoorVP11
/- model.Tell, as a run. -/
namespace Go.Proofs.YtihgijhjhmjolaaGreatDoor.Xi
open Go Go.RowKit
set_option linter.unusedVariables false
theorem t_neq (T : TypeId) (k : IntKind) (a b : Int) : PrOk Tryz.prog (.bin .neq T) [.int k a, .int k b] (.bool (a != b)) := fun x y w => by simp [eqGuard, binOp, Op.intCmp]
theorem t_leq (T : TypeId) (k : IntKind) (a b : Int) : PrOk Tryz.prog (.bin .leq T) [.int k a, .int k b] (.bool (decide (a ≤ b))) := fun x y w => by simp [eqGuard, binOp, Op.intCmp]
def oNeq (T : TypeId) (k : IntKind) (a b : Int) (r : Bool) : Ob := .test (.bin .neq T) [.int k a, .int k b] (.bool r)
def oLeq (T : TypeId) (k : IntKind) (a b : Int) (r : Bool) : Ob := .test (.bin .leq T) [.int k a, .int k b] (.bool r)
def oIs (a r : Bool) : Ob := .test .is [.bool a] (.bool r)
def stV (a b c d : Wd) (s f g : Int) : Value := .agg #[.int .i32 a.v, .int .i32 b.v, .int .i32 c.v, .int .i32 d.v, .int .i64 s, .int .i64 f, .int .i64 g]
def inS (a b c d : Wd) (s f g : Int) : List Value := [.int .i32 a.v, .int .i32 b.v, .int .i32 c.v, .int .i32 d.v, .int .i64 s, .int .i64 f, .int .i64 g]
def pB (x : Int) (i : Nat) : Int := IntKind.u8.wrap ((IntKind.u32.wrap x).fdiv (2 ^ i))
def p2 (x : Int) : List Int := [pB x 8, pB x 0]
def p4 (x : Int) : List Int := [pB x 24, pB x 16, pB x 8, pB x 0]
def foldI (c : Int) (l : List Int) : Int := l.foldl stepI c
def u8I (l : List Int) : List Value := l.map (Value.int .u8)
def pSeal (l : List Int) : List Int := l ++ [IntKind.u8.wrap ((foldI 65535 l).fdiv (2 ^ 8)), IntKind.u8.wrap (foldI 65535 l)]
def pBody (a b c d : Wd) (s f g fl r p y : Int) : List Int := [1, IntKind.u8.wrap fl] ++ p2 (IntKind.i32.wrap s) ++ p2 (IntKind.i32.wrap f) ++ p2 (IntKind.i32.wrap g) ++ p4 a.v ++ p4 b.v ++ p4 c.v ++ p4 d.v ++ p2 (r.fdiv (2 ^ 16)) ++ p2 (p.fdiv (2 ^ 16)) ++ p2 (y.fdiv (2 ^ 16))
def angK (a b c d : Wd) : T3 := anglesW (kW a.v) (kW b.v) (kW c.v) (kW d.v)
def lockK (a b c d : Wd) : Bool := lockB (kW a.v) (kW b.v) (kW c.v) (kW d.v)
def tlit : List (FuncId × AV) := [(27, .lit (.bool true)), (65, .lit (.int .i64 0))]
def tsh : List (FuncId × Sh) := [(33, .agg 4), (141, .one)]
noncomputable def ttab : List (EntK FTab) := [gStepE, gOfE.k]
def tbr1 : List (Nat × Bool) := [(9, false), (14, true), (23, false), (24, false), (25, false), (26, false), (29, false), (32, false), (35, false)]
def tbr0 : List (Nat × Bool) := [(9, false), (14, false), (22, false), (23, false), (24, false), (25, false), (28, false), (31, false), (34, false)]
def rightO (a b c d : Wd) (s f g : Int) (r : Bool) : Ob := .call 27 [stV a b c d s f g] (.bool r)
def flagO (fl : Int) (r : Bool) : Ob := oNeq 3 .i64 (bits .andNot .i64 fl 7) 0 r
def zO (x m : Int) : Ob := oNeq 3 .i64 (bits .andNot .i64 x m) 0 false
def halfO (x : Int) : Ob := oNeq 21 .i32 (IntKind.i32.wrap (IntKind.i16.wrap (x.fdiv (2 ^ 16)))) (x.fdiv (2 ^ 16)) false
def numO : Ob := .call 65 [.nilIface] (.int .i64 0)
def tellO (a b c d : Wd) (s f g fl fl' : Int) (l : Bool) : List Ob := [numO, halfO (angK a b c d).c.v, halfO (angK a b c d).b.v, halfO (angK a b c d).a.v, zO g 65535, zO f 65535, zO s 65535, zO fl' 15, oIs (lockK a b c d) l, flagO fl false, rightO a b c d s f g true]
def tellA (a b c d : Wd) (s f g fl : Int) : List Value := inS a b c d s f g ++ [.int .i64 fl]
set_option maxRecDepth 100000 in
theorem tell_run0 (a b c d : Wd) (s f g fl : Int) : runS (cxV tlit tsh tbr0 []) (tabK ttab) 2000 12 [] [.agg (opqs 7 0), .opq 7] (tellA a b c d s f g fl) =
 some (true, [.l (u8I (pSeal (pBody a b c d s f g fl (angK a b c d).a.v (angK a b c d).b.v (angK a b c d).c.v))), .v (.int .i64 0)], tellO a b c d s f g fl fl false) := by kernel_rfl
set_option maxRecDepth 100000 in
theorem tell_run1 (a b c d : Wd) (s f g fl : Int) : runS (cxV tlit tsh tbr1 []) (tabK ttab) 2000 12 [] [.agg (opqs 7 0), .opq 7] (tellA a b c d s f g fl) =
 some (true, [.l (u8I (pSeal (pBody a b c d s f g (bits .or .i64 fl 8) (angK a b c d).a.v (angK a b c d).b.v (angK a b c d).c.v))), .v (.int .i64 0)], tellO a b c d s f g fl (bits .or .i64 fl 8) true) := by kernel_rfl
end Go.Proofs.YtihgijhjhmjolaaGreatDoor.Xi

/- model.Tell: what a frame is, in numbers. -/
namespace Go.Proofs.YtihgijhjhmjolaaGreatDoor.Xi
open Go Go.RowKit Go.Deep
set_option linter.unusedVariables false
def byteN (x : Int) (k : Int) : Nat := (x / k % 256).toNat
def b2 (x : Int) : List Nat := [byteN x 256, byteN x 1]
def b4 (x : Int) : List Nat := [byteN x 16777216, byteN x 65536, byteN x 256, byteN x 1]
theorem byteN_lt (x k : Int) : byteN x k < 256 := by unfold byteN; omega
theorem fdiv_pos (x : Int) {k : Int} (h : 0 ≤ k) : x.fdiv k = x / k := Int.fdiv_eq_ediv_of_nonneg x h
theorem pB0 (x : Int) : pB x 0 = (byteN x 1 : Nat) := by
 unfold pB byteN
 rw [fdiv_pos _ (by decide), IntKind.wrap_u8, IntKind.wrap_u32]
 omega
theorem pB8 (x : Int) : pB x 8 = (byteN x 256 : Nat) := by
 unfold pB byteN
 rw [fdiv_pos _ (by decide), IntKind.wrap_u8, IntKind.wrap_u32]
 omega
theorem pB16 (x : Int) : pB x 16 = (byteN x 65536 : Nat) := by
 unfold pB byteN
 rw [fdiv_pos _ (by decide), IntKind.wrap_u8, IntKind.wrap_u32]
 omega
theorem pB24 (x : Int) : pB x 24 = (byteN x 16777216 : Nat) := by
 unfold pB byteN
 rw [fdiv_pos _ (by decide), IntKind.wrap_u8, IntKind.wrap_u32]
 omega
def nI (l : List Nat) : List Int := l.map fun (x : Nat) => (x : Int)
theorem p2_nat (x : Int) : p2 x = nI (b2 x) := by unfold p2 nI b2; rw [pB0, pB8]; rfl
theorem p4_nat (x : Int) : p4 x = nI (b4 x) := by unfold p4 nI b4; rw [pB0, pB8, pB16, pB24]; rfl
theorem foldI_nat : ∀ (l : List Nat) (c : Nat), c < 65536 → foldI c (nI l) = (foldN c l : Nat)
 | [], c, _ => rfl
 | x :: l, c, h => by
  show foldI (stepI c x) (nI l) = _
  rw [stepI_nat c x h, foldI_nat l _ (stepN_lt _ _)]
  rfl
theorem pSeal_nat (l : List Nat) : pSeal (nI l) = nI (sealN l) := by
 have h := foldI_nat l 65535 (by decide)
 have h' : foldI 65535 (nI l) = (foldN 65535 l : Nat) := h
 have hl := foldN_lt (c := 65535) (by decide) l
 unfold pSeal sealN
 rw [h', fdiv_pos _ (by decide), IntKind.wrap_u8, IntKind.wrap_u8]
 unfold nI
 have e1 : ((foldN 65535 l : Nat) : Int) / 2 ^ 8 % 256 = ((foldN 65535 l / 256 : Nat) : Int) := by
  show ((foldN 65535 l : Nat) : Int) / 256 % 256 = _
  omega
 have e2 : ((foldN 65535 l : Nat) : Int) % 256 = ((foldN 65535 l % 256 : Nat) : Int) := by omega
 rw [List.map_append, e1, e2]
 rfl
theorem u8I_nat (l : List Nat) : u8I (nI l) = u8s l := by unfold u8I nI u8s; rw [List.map_map]; rfl
def bodyN (a b c d : Wd) (s f g fl : Int) : List Nat := [1, (fl + (bif lockB a b c d then 8 else 0)).toNat] ++ b2 s ++ b2 f ++ b2 g ++ b4 a.v ++ b4 b.v ++ b4 c.v ++ b4 d.v ++ b2 ((anglesW a b c d).a.v / 65536) ++ b2 ((anglesW a b c d).b.v / 65536) ++ b2 ((anglesW a b c d).c.v / 65536)
def frameN (a b c d : Wd) (s f g fl : Int) : List Nat := sealN (bodyN a b c d s f g fl)
def in16 (x : Int) : Prop := 0 ≤ x ∧ x ≤ 65535
theorem wrap_in16 {x : Int} (h : in16 x) : IntKind.i32.wrap x = x := by unfold in16 at h; rw [IntKind.wrap_i32]; omega
theorem angK_eq (a b c d : Wd) : angK a b c d = anglesW a b c d := by unfold angK; simp only [kW_self]
theorem lockK_eq (a b c d : Wd) : lockK a b c d = lockB a b c d := by unfold lockK; simp only [kW_self]
theorem nI_app (l m : List Nat) : nI (l ++ m) = nI l ++ nI m := by unfold nI; rw [List.map_append]
theorem pBody_nat (a b c d : Wd) {s f g fl fl' : Int} (hs : in16 s) (hf : in16 f) (hg : in16 g) (h0 : 0 ≤ fl ∧ fl ≤ 7) (hl : fl' = fl + (bif lockB a b c d then 8 else 0)) :
 pBody a b c d s f g fl' (angK a b c d).a.v (angK a b c d).b.v (angK a b c d).c.v = nI (bodyN a b c d s f g fl) := by
 unfold pBody bodyN
 simp only [nI_app, p2_nat, p4_nat, wrap_in16 hs, wrap_in16 hf, wrap_in16 hg, angK_eq]
 rw [fdiv_pos _ (by decide), fdiv_pos _ (by decide), fdiv_pos _ (by decide), IntKind.wrap_u8, ← hl]
 have hb : 0 ≤ fl' ∧ fl' ≤ 15 := by rw [hl]; cases lockB a b c d <;> simp <;> omega
 have e : nI [1, fl'.toNat] = [1, fl' % 256] := by
  show [(1 : Int), ((fl'.toNat : Nat) : Int)] = _
  rw [show ((fl'.toNat : Nat) : Int) = fl' % 256 by omega]
 rw [e]
 rfl
theorem andNot_16 {x : Int} (h : in16 x) : (bits .andNot .i64 x 65535 != 0) = false := by
 unfold in16 at h
 obtain ⟨n, rfl⟩ : ∃ n : Nat, x = n := ⟨x.toNat, by omega⟩
 have hn : n < 65536 := by omega
 have e : bits .andNot .i64 (n : Int) 65535 = 0 := by
  show IntKind.i64.wrap (((BitVec.ofInt 64 (n : Int)) &&& ~~~(BitVec.ofInt 64 65535)).toNat : Int) = 0
  have : (BitVec.ofInt 64 (n : Int)) &&& ~~~(BitVec.ofInt 64 65535) = 0 := by
   rw [BitVec.ofInt_natCast]
   apply BitVec.eq_of_getLsbD_eq
   intro i hi
   rw [BitVec.getLsbD_and, BitVec.getLsbD_ofNat]
   by_cases h16 : i < 16
   · have : (BitVec.ofInt 64 65535).getLsbD i = true := by
      rcases (by omega : i = 0 ∨ i = 1 ∨ i = 2 ∨ i = 3 ∨ i = 4 ∨ i = 5 ∨ i = 6 ∨ i = 7 ∨ i = 8 ∨ i = 9 ∨ i = 10 ∨ i = 11 ∨ i = 12 ∨ i = 13 ∨ i = 14 ∨ i = 15) with rfl | rfl | rfl | rfl | rfl | rfl | rfl | rfl | rfl | rfl | rfl | rfl | rfl | rfl | rfl | rfl <;> rfl
     rw [BitVec.getLsbD_not, this]; simp
   · have : n.testBit i = false := Nat.testBit_lt_two_pow (Nat.lt_of_lt_of_le hn (by
      have := Nat.pow_le_pow_right (n := 2) (by decide) (show 16 ≤ i by omega)
      simpa using this))
     rw [this]; simp
  rw [this]; rfl
 rw [e]; rfl
theorem flags_in : ∀ n : Nat, n < 8 → (bits .andNot .i64 (n : Int) 7 != 0) = false ∧ bits .or .i64 (n : Int) 8 = (n : Int) + 8 ∧ (bits .andNot .i64 (n : Int) 15 != 0) = false ∧ (bits .andNot .i64 ((n : Int) + 8) 15 != 0) = false := by decide +kernel
theorem half_ok {x : Int} (h : -2147483648 ≤ x ∧ x ≤ 2147483647) : (IntKind.i32.wrap (IntKind.i16.wrap (x.fdiv (2 ^ 16))) != x.fdiv (2 ^ 16)) = false := by
 rw [fdiv_pos _ (by decide)]
 have e : IntKind.i16.wrap (x / 2 ^ 16) = x / 2 ^ 16 := by
  have : IntKind.i16.wrap (x / 2 ^ 16) = (x / 2 ^ 16 + 32768) % 65536 - 32768 := by
   simp only [IntKind.wrap, IntKind.bits, IntKind.signed]
   simp
   split <;> omega
  rw [this]; omega
 rw [e, IntKind.wrap_i32]
 simp
 omega
theorem obK {P : Program} {K : World → Prop} {ob : Ob} (h : ObOk P ob) : ObOkK P K ob := by
 cases ob with
 | call f args v => exact fun w _ => h w
 | test p xs v => exact h
theorem obsK0 {P : Program} {K : World → Prop} : ∀ ob ∈ ([] : List Ob), ObOkK P K ob := fun ob h => by cases h
theorem obsKC {P : Program} {K : World → Prop} {a : Ob} {l : List Ob} (ha : ObOkK P K a) (hl : ∀ ob ∈ l, ObOkK P K ob) : ∀ ob ∈ a :: l, ObOkK P K ob := fun ob h => by
 rcases List.mem_cons.1 h with rfl | h
 · exact ha
 · exact hl ob h
theorem oNeq_ok {T : TypeId} {k : IntKind} {a b : Int} {r : Bool} (h : (a != b) = r) : ObOk Tryz.prog (oNeq T k a b r) := by subst h; exact t_neq T k a b
theorem oLeq_ok {T : TypeId} {k : IntKind} {a b : Int} {r : Bool} (h : decide (a ≤ b) = r) : ObOk Tryz.prog (oLeq T k a b r) := by subst h; exact t_leq T k a b
theorem oIs_ok {a r : Bool} (h : a = r) : ObOk Tryz.prog (oIs a r) := by subst h; exact rfl
set_option maxRecDepth 100000 in
theorem number_calls (w : World) : Calls Tryz.prog 65 #[.nilIface] w fun e w' => e = .returned (.int .i64 0) ∧ Chg w w' [] := by
 have HC := hide (Chg.refl w [])
 go_enter Tryz.func65, Tryz.ntmps65
 go_wp2
 go_ret
 exact ⟨rfl, HC.out⟩
theorem good_in7 {a b c d : Wd} {s f g : Int} (hs : goodV (.int .i64 s)) (hf : goodV (.int .i64 f)) (hg : goodV (.int .i64 g)) : goodL (inS a b c d s f g) := fun v hv => by
 simp only [inS, List.mem_cons, List.not_mem_nil, or_false] at hv
 rcases hv with rfl | rfl | rfl | rfl | rfl | rfl | rfl
 · exact good_w _
 · exact good_w _
 · exact good_w _
 · exact good_w _
 · exact hs
 · exact hf
 · exact hg
theorem good_16 {x : Int} (h : in16 x) : goodV (.int .i64 x) := good_64 (by unfold in16 at h; omega)
theorem FTab.of_heap {w w1 : World} (h : FTab w) (hk : ∀ k ∈ [1], w1.heap[k]? = w.heap[k]?) : FTab w1 := by
 have h' : w.var? Tryz.prog "astrolabe/crc.four" = some _ := h
 show w1.var? Tryz.prog "astrolabe/crc.four" = some _
 unfold World.var? at h' ⊢
 rw [show Tryz.prog.globalNamed "astrolabe/crc.four" = some 1 by kernel_rfl] at h' ⊢
 simp only [Option.bind_some] at h' ⊢
 rw [hk _ (by simp)]; exact h'
theorem seenF_calls {lits : List (FuncId × AV)} {shs : List (FuncId × Sh)} {br : List (Nat × Bool)} (tab : List (EntK FTab)) {fuel : Nat} {f : FuncId} {vws : List (List AV)} {args : List AV} {ins : List Value} {t : Bool} {cas : List CA} {obs : List Ob}
 (h : runS (cxV lits shs br vws) (tabK tab) fuel f vws args ins = some (t, cas, obs)) (hg : goodL ins) (ho : ∀ ob ∈ obs, ObOkK Tryz.prog FTab ob) (w : World) (hw : FTab w) (ss : List Value)
 (hss : ∀ (i : Nat) cs, vws[i]? = some cs → ∃ v, ss[i]? = some v ∧ Sl w v (concL (getE ins) cs)) (h1 : ∀ v ∈ ss, v.oneCell' = true) {vals : List Value} (hvs : concL (E0 (ρS ins ss)) args = vals) :
 Calls Tryz.prog f vals.toArray w fun e w' => (∃ us, ArgsOk [] w' us cas ∧ e = .returned (outV t us)) ∧ Chg w w' [] :=
 seen_calls (cx := cxV lits shs br vws) (by kernel_rfl) (fun t n g h => by cases h) (tabK_ok tab) rfl h hg ho w [1] (fun k hk => by simp at hk; subst hk; exact hw.lt) (fun w1 hk => FTab.of_heap hw hk) ss hss h1 hvs
theorem tell_ok (a b c d : Wd) {s f g fl : Int} (hs : in16 s) (hf : in16 f) (hg : in16 g) (hfl : 0 ≤ fl ∧ fl ≤ 7) (hr : ObOk Tryz.prog (rightO a b c d s f g true)) (w : World) (hw : FTab w) :
 Calls Tryz.prog 12 #[stV a b c d s f g, .int .i64 fl] w fun e w' => (∃ sv, e = .returned (.tuple #[sv, .int .i64 0]) ∧ Sl w' sv (u8s (frameN a b c d s f g fl))) ∧ Chg w w' [] := by
 obtain ⟨n, rfl⟩ : ∃ n : Nat, fl = n := ⟨fl.toNat, by omega⟩
 obtain ⟨k1, k2, k3, k4⟩ := flags_in n (by omega)
 have hang : ∀ x : Wd, -2147483648 ≤ x.v ∧ x.v ≤ 2147483647 := fun x => by have := x.ok; unfold In32 at this; exact this
 have hgi : goodL (tellA a b c d s f g n) := fun v hv => (List.mem_append.1 hv).elim (good_in7 (good_16 hs) (good_16 hf) (good_16 hg) v) (fun h => by simp at h; subst h; exact good_64 (by omega))
 have fin : ∀ {fl' : Int} {w' : World} {us : List Value}, fl' = (n : Int) + (bif lockB a b c d then 8 else 0) → ArgsOk [] w' us [.l (u8I (pSeal (pBody a b c d s f g fl' (angK a b c d).a.v (angK a b c d).b.v (angK a b c d).c.v))), .v (.int .i64 0)] → ∃ sv, Ending.returned (outV true us) = .returned (.tuple #[sv, .int .i64 0]) ∧ Sl w' sv (u8s (frameN a b c d s f g n)) := fun {fl' w' us} hl ha => by
  match us, ha with
  | [x, y], ha =>
   obtain ⟨h1, rfl, _⟩ := ha
   rw [pBody_nat a b c d hs hf hg hfl hl, pSeal_nat, u8I_nat] at h1
   exact ⟨x, rfl, h1.1⟩
 have obs : ∀ {fl' : Int} {l : Bool}, lockB a b c d = l → (bits .andNot .i64 fl' 15 != 0) = false → ∀ ob ∈ tellO a b c d s f g n fl' l, ObOkK Tryz.prog FTab ob := fun {fl' l} hl h15 => by
  unfold tellO
  refine obsKC (fun w _ => number_calls w) (obsKC (obK (oNeq_ok (half_ok (hang _)))) (obsKC (obK (oNeq_ok (half_ok (hang _)))) (obsKC (obK (oNeq_ok (half_ok (hang _)))) (obsKC (obK (oNeq_ok (andNot_16 hg))) (obsKC (obK (oNeq_ok (andNot_16 hf))) (obsKC (obK (oNeq_ok (andNot_16 hs))) (obsKC (obK (oNeq_ok h15)) (obsKC (obK (oIs_ok (by rw [lockK_eq]; exact hl))) (obsKC (obK (oNeq_ok k1)) (obsKC (obK hr) obsK0))))))))))
 cases hl : lockB a b c d with
 | false =>
  refine (seenF_calls ttab (tell_run0 a b c d s f g n) hgi (obs hl k3) w hw [] (fun i cs hi => by cases hi) (fun v hv => by cases hv) (vals := [stV a b c d s f g, .int .i64 n]) rfl).mono ?_
  rintro e w' ⟨⟨us, ha, rfl⟩, hc⟩
  exact ⟨fin (by rw [hl]; simp) ha, hc⟩
 | true =>
  refine (seenF_calls ttab (tell_run1 a b c d s f g n) hgi (obs hl (by rw [k2]; exact k4)) w hw [] (fun i cs hi => by cases hi) (fun v hv => by cases hv) (vals := [stV a b c d s f g, .int .i64 n]) rfl).mono ?_
  rintro e w' ⟨⟨us, ha, rfl⟩, hc⟩
  exact ⟨fin (by rw [hl, k2]; rfl) ha, hc⟩
end Go.Proofs.YtihgijhjhmjolaaGreatDoor.Xi

/- Two states compared. -/
namespace Go.Proofs.YtihgijhjhmjolaaGreatDoor.Xi
open Go Go.RowKit Go.Deep
set_option linter.unusedVariables false
theorem eqQ9 (x0 x1 x2 x3 y0 y1 y2 y3 : Int) (w : World) : (Op.equalIn 9999 23 (.agg #[.int .i32 x0, .int .i32 x1, .int .i32 x2, .int .i32 x3]) (.agg #[.int .i32 y0, .int .i32 y1, .int .i32 y2, .int .i32 y3])).run Tryz.prog w = .ok (x0 == y0 && x1 == y1 && x2 == y2 && x3 == y3) w := by
 have u3 := Tryz.underlying21
 have k3 := Tryz.isAgg21
 have z3 := Tryz.sizeOf21
 rw [show (9999 : Nat) = 9998 + 1 from rfl, Op.equalIn]
 simp only [Sem.run_bind, run_underlying Tryz.underlying23, Result.andThen_ok]
 simp only [Std.Legacy.Range.forIn_eq_forIn_range', Std.Legacy.Range.size, Nat.sub_zero, Nat.add_sub_cancel, Nat.div_one, List.range'_succ, List.range'_zero, List.forIn_cons, List.forIn_nil]
 go_simp
 by_cases h0 : x0 = y0 <;> by_cases h1 : x1 = y1 <;> by_cases h2 : x2 = y2 <;> by_cases h3 : x3 = y3 <;> simp [h0, h1, h2, h3]
theorem eqS (a0 a1 a2 a3 b0 b1 b2 b3 s f g s' f' g' : Int) (w : World) : (Op.equalIn 10000 25 (.agg #[.int .i32 a0, .int .i32 a1, .int .i32 a2, .int .i32 a3, .int .i64 s, .int .i64 f, .int .i64 g]) (.agg #[.int .i32 b0, .int .i32 b1, .int .i32 b2, .int .i32 b3, .int .i64 s', .int .i64 f', .int .i64 g'])).run Tryz.prog w =
 .ok ((a0 == b0 && a1 == b1 && a2 == b2 && a3 == b3) && s == s' && f == f' && g == g') w := by
 have u3 := Tryz.underlying3
 have k3 := Tryz.isAgg3
 have z3 := Tryz.sizeOf3
 have u4 := Tryz.underlying23
 have k4 := Tryz.isAgg23
 have z4 := Tryz.sizeOf23
 have q := eqQ9 a0 a1 a2 a3 b0 b1 b2 b3 w
 rw [show (10000 : Nat) = 9999 + 1 from rfl, Op.equalIn]
 simp only [Sem.run_bind, run_underlying Tryz.underlying25, Result.andThen_ok]
 go_simp
 by_cases h0 : a0 = b0 <;> by_cases h1 : a1 = b1 <;> by_cases h2 : a2 = b2 <;> by_cases h3 : a3 = b3 <;> by_cases h4 : s = s' <;> by_cases h5 : f = f' <;> by_cases h6 : g = g' <;> simp [h0, h1, h2, h3, h4, h5, h6]
end Go.Proofs.YtihgijhjhmjolaaGreatDoor.Xi

/- Whose counters may be: the program's, the reference's. -/
namespace Go.Proofs.YtihgijhjhmjolaaGreatDoor.Xi
open Go Go.RowKit Go.Deep
set_option linter.unusedVariables false
def rightB (s f g : Int) : Bool := decide (0 ≤ s ∧ s ≤ 65535 ∧ 0 ≤ f ∧ f ≤ 65535 ∧ 0 ≤ g ∧ g ≤ 65535)
theorem rightB_iff (s f g : Int) : rightB s f g = true ↔ in16 s ∧ in16 f ∧ in16 g := by unfold rightB in16; simp; omega
set_option maxRecDepth 100000 in
theorem rright_run0 (a b c d : Wd) (s f g : Int) : runP (cxR [] [] [(7, true)]) (tabOf []) 400 30 [.agg (opqs 7 0)] (inS a b c d s f g) = some (.bool false, [oLss 3 .i64 s 0 true]) := by kernel_rfl
set_option maxRecDepth 100000 in
theorem rright_run1 (a b c d : Wd) (s f g : Int) : runP (cxR [] [] [(7, false), (8, true)]) (tabOf []) 400 30 [.agg (opqs 7 0)] (inS a b c d s f g) = some (.bool false, [oGtr 3 .i64 s 65535 true, oLss 3 .i64 s 0 false]) := by kernel_rfl
set_option maxRecDepth 100000 in
theorem rright_run2 (a b c d : Wd) (s f g : Int) : runP (cxR [] [] [(7, false), (8, false), (9, true)]) (tabOf []) 400 30 [.agg (opqs 7 0)] (inS a b c d s f g) = some (.bool false, [oLss 3 .i64 f 0 true, oGtr 3 .i64 s 65535 false, oLss 3 .i64 s 0 false]) := by kernel_rfl
set_option maxRecDepth 100000 in
theorem rright_run3 (a b c d : Wd) (s f g : Int) : runP (cxR [] [] [(7, false), (8, false), (9, false), (10, true)]) (tabOf []) 400 30 [.agg (opqs 7 0)] (inS a b c d s f g) = some (.bool false, [oGtr 3 .i64 f 65535 true, oLss 3 .i64 f 0 false, oGtr 3 .i64 s 65535 false, oLss 3 .i64 s 0 false]) := by kernel_rfl
set_option maxRecDepth 100000 in
theorem rright_run4 (a b c d : Wd) (s f g : Int) : runP (cxR [] [] [(7, false), (8, false), (9, false), (10, false), (11, true)]) (tabOf []) 400 30 [.agg (opqs 7 0)] (inS a b c d s f g) = some (.bool false, [oLss 3 .i64 g 0 true, oGtr 3 .i64 f 65535 false, oLss 3 .i64 f 0 false, oGtr 3 .i64 s 65535 false, oLss 3 .i64 s 0 false]) := by kernel_rfl
set_option maxRecDepth 100000 in
theorem rright_run5 (a b c d : Wd) (s f g : Int) : runP (cxR [] [] [(7, false), (8, false), (9, false), (10, false), (11, false), (12, true)]) (tabOf []) 400 30 [.agg (opqs 7 0)] (inS a b c d s f g) = some (.bool false, [oGtr 3 .i64 g 65535 true, oLss 3 .i64 g 0 false, oGtr 3 .i64 f 65535 false, oLss 3 .i64 f 0 false, oGtr 3 .i64 s 65535 false, oLss 3 .i64 s 0 false]) := by kernel_rfl
set_option maxRecDepth 100000 in
theorem rright_run6 (a b c d : Wd) (s f g : Int) : runP (cxR [] [] [(7, false), (8, false), (9, false), (10, false), (11, false), (12, false)]) (tabOf []) 400 30 [.agg (opqs 7 0)] (inS a b c d s f g) = some (.bool true, [oGtr 3 .i64 g 65535 false, oLss 3 .i64 g 0 false, oGtr 3 .i64 f 65535 false, oLss 3 .i64 f 0 false, oGtr 3 .i64 s 65535 false, oLss 3 .i64 s 0 false]) := by kernel_rfl
theorem rright_calls (a b c d : Wd) (s f g : Int) (hg : goodL (inS a b c d s f g)) (w : World) : Calls Tryz.prog 30 #[stV a b c d s f g] w fun e w' => e = .returned (.bool (rightB s f g)) ∧ Chg w w' [] := by
 by_cases h0 : s < 0
 · rw [show rightB s f g = false by unfold rightB; simp; omega]
   exact cxR_calls _ (rright_run0 a b c d s f g) hg (obs1 (oLss_ok (by simp; omega))) w
 by_cases h1 : 65535 < s
 · rw [show rightB s f g = false by unfold rightB; simp; omega]
   exact cxR_calls _ (rright_run1 a b c d s f g) hg (obsC (oGtr_ok (by simp; omega)) (obs1 (oLss_ok (by simp; omega)))) w
 by_cases h2 : f < 0
 · rw [show rightB s f g = false by unfold rightB; simp; omega]
   exact cxR_calls _ (rright_run2 a b c d s f g) hg (obsC (oLss_ok (by simp; omega)) (obsC (oGtr_ok (by simp; omega)) (obs1 (oLss_ok (by simp; omega))))) w
 by_cases h3 : 65535 < f
 · rw [show rightB s f g = false by unfold rightB; simp; omega]
   exact cxR_calls _ (rright_run3 a b c d s f g) hg (obsC (oGtr_ok (by simp; omega)) (obsC (oLss_ok (by simp; omega)) (obsC (oGtr_ok (by simp; omega)) (obs1 (oLss_ok (by simp; omega)))))) w
 by_cases h4 : g < 0
 · rw [show rightB s f g = false by unfold rightB; simp; omega]
   exact cxR_calls _ (rright_run4 a b c d s f g) hg (obsC (oLss_ok (by simp; omega)) (obsC (oGtr_ok (by simp; omega)) (obsC (oLss_ok (by simp; omega)) (obsC (oGtr_ok (by simp; omega)) (obs1 (oLss_ok (by simp; omega))))))) w
 by_cases h5 : 65535 < g
 · rw [show rightB s f g = false by unfold rightB; simp; omega]
   exact cxR_calls _ (rright_run5 a b c d s f g) hg (obsC (oGtr_ok (by simp; omega)) (obsC (oLss_ok (by simp; omega)) (obsC (oGtr_ok (by simp; omega)) (obsC (oLss_ok (by simp; omega)) (obsC (oGtr_ok (by simp; omega)) (obs1 (oLss_ok (by simp; omega)))))))) w
 rw [show rightB s f g = true by unfold rightB; simp; omega]
 exact cxR_calls _ (rright_run6 a b c d s f g) hg (obsC (oGtr_ok (by simp; omega)) (obsC (oLss_ok (by simp; omega)) (obsC (oGtr_ok (by simp; omega)) (obsC (oLss_ok (by simp; omega)) (obsC (oGtr_ok (by simp; omega)) (obs1 (oLss_ok (by simp; omega)))))))) w
theorem bits_and_16' (x : Int) : bits .and .i64 x 65535 = x % 65536 := by
 show IntKind.i64.wrap (((BitVec.ofInt 64 x) &&& (BitVec.ofInt 64 65535)).toNat : Int) = _
 rw [show BitVec.ofInt 64 65535 = BitVec.ofNat 64 65535 from rfl, BitVec.toNat_and, BitVec.toNat_ofInt, BitVec.toNat_ofNat, show 65535 % 2 ^ 64 = 65535 from rfl, and_65535, IntKind.wrap_i64]
 omega
def maskO (a b c d : Wd) (s f g : Int) (r : Bool) : Ob := .test (.bin .eql 25) [stV a b c d (bits .and .i64 s 65535) (bits .and .i64 f 65535) (bits .and .i64 g 65535), stV a b c d s f g] (.bool r)
set_option maxRecDepth 100000 in
theorem pright_run1 (a b c d : Wd) (s f g : Int) : runP (cxR [] [] [(10, true)]) (tabOf []) 400 27 [.agg (opqs 7 0)] (inS a b c d s f g) = some (.bool true, [maskO a b c d s f g true]) := by kernel_rfl
set_option maxRecDepth 100000 in
theorem pright_run0 (a b c d : Wd) (s f g : Int) : runP (cxR [] [] [(10, false)]) (tabOf []) 400 27 [.agg (opqs 7 0)] (inS a b c d s f g) = some (.bool false, [maskO a b c d s f g false]) := by kernel_rfl
theorem maskO_ok (a b c d : Wd) (s f g : Int) : ObOk Tryz.prog (maskO a b c d s f g (rightB s f g)) :=
 oArr_ok (by kernel_rfl) fun w => by
  rw [eqS, bits_and_16', bits_and_16', bits_and_16']
  congr 1
  unfold rightB
  simp only [BEq.rfl, Bool.and_self, Bool.true_and, Bool.beq_eq_decide_eq]
  simp only [← Bool.decide_and]
  congr 1
  simp only [eq_iff_iff]
  omega
theorem pright_calls (a b c d : Wd) (s f g : Int) (hg : goodL (inS a b c d s f g)) (w : World) : Calls Tryz.prog 27 #[stV a b c d s f g] w fun e w' => e = .returned (.bool (rightB s f g)) ∧ Chg w w' [] := by
 have h := maskO_ok a b c d s f g
 cases hr : rightB s f g with
 | true => rw [hr] at h; exact cxR_calls _ (pright_run1 a b c d s f g) hg (obs1 h) w
 | false => rw [hr] at h; exact cxR_calls _ (pright_run0 a b c d s f g) hg (obs1 h) w
end Go.Proofs.YtihgijhjhmjolaaGreatDoor.Xi

/- The reference's Tell, as a run. -/
namespace Go.Proofs.YtihgijhjhmjolaaGreatDoor.Xi
open Go Go.RowKit Go.Deep
set_option linter.unusedVariables false
def rStepE : Ent where
 f := 137
 fn := fStep
 ok := fun us v hv hg => by
  unfold fStep at hv
  split at hv
  · rename_i c b
    injection hv with hv
    subst hv
    exact ⟨goodC_step _ _, fun w => rstepI_calls c b (good_i32 (good1_int (hg (.int .i32 c) (by simp)))) (good_u8 (good1_int (hg (.int .u8 b) (by simp)))) w⟩
  · cases hv
def r2 (x : Int) : List Int := [IntKind.u8.wrap (IntKind.i64.wrap ((x % 65536).tdiv 256)), IntKind.u8.wrap (IntKind.i64.wrap ((x % 65536).tmod 256))]
def r4 (x : Int) : List Int := [IntKind.u8.wrap (IntKind.i64.wrap ((IntKind.i64.wrap x % 4294967296).tdiv 16777216)), IntKind.u8.wrap (IntKind.i64.wrap ((IntKind.i64.wrap ((IntKind.i64.wrap x % 4294967296).tdiv 65536)).tmod 256)), IntKind.u8.wrap (IntKind.i64.wrap ((IntKind.i64.wrap ((IntKind.i64.wrap x % 4294967296).tdiv 256)).tmod 256)), IntKind.u8.wrap (IntKind.i64.wrap ((IntKind.i64.wrap x % 4294967296).tmod 256))]
def rSeal (l : List Int) : List Int := l ++ [IntKind.u8.wrap (IntKind.i32.wrap ((foldI 65535 l).tdiv 256)), IntKind.u8.wrap (IntKind.i32.wrap ((foldI 65535 l).tmod 256))]
def rBody (a b c d : Wd) (s f g fl r p y : Int) : List Int := [1, IntKind.u8.wrap fl] ++ r2 s ++ r2 f ++ r2 g ++ r4 a.v ++ r4 b.v ++ r4 c.v ++ r4 d.v ++ r2 (IntKind.i64.wrap r) ++ r2 (IntKind.i64.wrap p) ++ r2 (IntKind.i64.wrap y)
def sar16 (x : Wd) : Int := (sarW (kW x.v) (kW 16)).v
def rlit : List (FuncId × AV) := [(30, .lit (.bool true))]
def rsh : List (FuncId × Sh) := [(32, .two (.agg 4) .one), (35, .agg 4), (137, .one), (37, .one), (78, .one)]
def rRightO (a b c d : Wd) (s f g : Int) (r : Bool) : Ob := .call 30 [stV a b c d s f g] (.bool r)
def inO (x lo hi : Int) : List Ob := [oLeq 3 .i64 x hi true, oGeq 3 .i64 x lo true]
def rputO (r p y fl s f g : Int) : List Ob := inO g 0 65535 ++ inO f 0 65535 ++ inO s 0 65535 ++ inO fl 0 15 ++ inO (IntKind.i64.wrap y) (-32768) 32767 ++ inO (IntKind.i64.wrap p) (-32768) 32767 ++ inO (IntKind.i64.wrap r) (-32768) 32767
def rtellO (a b c d : Wd) (s f g fl fl' : Int) (l : Bool) : List Ob := rputO (sar16 (angK a b c d).a) (sar16 (angK a b c d).b) (sar16 (angK a b c d).c) fl' s f g ++ [oIs (lockK a b c d) l, oGtr 3 .i64 fl 7 false, oLss 3 .i64 fl 0 false, rRightO a b c d s f g true]
end Go.Proofs.YtihgijhjhmjolaaGreatDoor.Xi

/- The reference's Tell: the same frame. -/
namespace Go.Proofs.YtihgijhjhmjolaaGreatDoor.Xi
open Go Go.RowKit Go.Deep
set_option linter.unusedVariables false
theorem tdivP {x k : Int} (hx : 0 ≤ x) (hk : 0 ≤ k) : x.tdiv k = x / k := Int.tdiv_eq_ediv_of_nonneg hx
theorem tmodP {x k : Int} (hx : 0 ≤ x) : x.tmod k = x % k := Int.tmod_eq_emod_of_nonneg hx
theorem r2_nat (x : Int) : r2 x = nI (b2 x) := by
 unfold r2 nI b2 byteN
 rw [tdivP (by omega) (by decide), tmodP (by omega), IntKind.wrap_u8, IntKind.wrap_i64, IntKind.wrap_u8, IntKind.wrap_i64]
 simp only [List.map_cons, List.map_nil]
 congr 1
 · omega
 · congr 1
   omega
theorem r4_nat {x : Int} (h : -2147483648 ≤ x ∧ x ≤ 2147483647) : r4 x = nI (b4 x) := by
 unfold r4 nI b4 byteN
 have e : IntKind.i64.wrap x = x := by rw [IntKind.wrap_i64]; omega
 rw [e]
 have w : ∀ y : Int, 0 ≤ y → y ≤ 4294967295 → IntKind.i64.wrap y = y := fun y h1 h2 => by rw [IntKind.wrap_i64]; omega
 rw [tdivP (by omega) (by decide), tdivP (by omega) (by decide), tdivP (by omega) (by decide), tmodP (x := x % 4294967296) (by omega)]
 rw [w (x % 4294967296 / 65536) (by omega) (by omega), w (x % 4294967296 / 256) (by omega) (by omega), w (x % 4294967296 / 16777216) (by omega) (by omega), w (x % 4294967296 % 256) (by omega) (by omega)]
 rw [tmodP (by omega), tmodP (by omega), w (x % 4294967296 / 65536 % 256) (by omega) (by omega), w (x % 4294967296 / 256 % 256) (by omega) (by omega)]
 simp only [IntKind.wrap_u8]
 simp only [List.map_cons, List.map_nil]
 congr 1
 · omega
 · congr 1
   · omega
   · congr 1
     · omega
     · congr 1
       omega
theorem rSeal_nat (l : List Nat) : rSeal (nI l) = nI (sealN l) := by
 have h := foldI_nat l 65535 (by decide)
 have h' : foldI 65535 (nI l) = (foldN 65535 l : Nat) := h
 have hl := foldN_lt (c := 65535) (by decide) l
 unfold rSeal sealN
 rw [h', tdivP (by omega) (by decide), tmodP (by omega), IntKind.wrap_u8, IntKind.wrap_u8, IntKind.wrap_i32, IntKind.wrap_i32]
 unfold nI
 have e1 : (((foldN 65535 l : Nat) : Int) / 256 + 2147483648) % 4294967296 - 2147483648 = ((foldN 65535 l / 256 : Nat) : Int) := by omega
 have e2 : (((foldN 65535 l : Nat) : Int) % 256 + 2147483648) % 4294967296 - 2147483648 = ((foldN 65535 l % 256 : Nat) : Int) := by omega
 rw [List.map_append, e1, e2, show ((foldN 65535 l / 256 : Nat) : Int) % 256 = ((foldN 65535 l / 256 : Nat) : Int) by omega, show ((foldN 65535 l % 256 : Nat) : Int) % 256 = ((foldN 65535 l % 256 : Nat) : Int) by omega]
 rfl
theorem sar16_eq (x : Wd) : sar16 x = x.v / 65536 := by
 unfold sar16
 rw [kW_self]
 show sarI x.v (kW 16).v = _
 unfold sarI
 rw [show sh (kW 16).v = 16 by decide +kernel]
 rfl
theorem wdB (x : Wd) : -2147483648 ≤ x.v ∧ x.v ≤ 2147483647 := by have := x.ok; unfold In32 at this; exact this
theorem rBody_nat (a b c d : Wd) {s f g fl fl' : Int} (h0 : 0 ≤ fl ∧ fl ≤ 7) (hl : fl' = fl + (bif lockB a b c d then 8 else 0)) :
 rBody a b c d s f g fl' (sar16 (angK a b c d).a) (sar16 (angK a b c d).b) (sar16 (angK a b c d).c) = nI (bodyN a b c d s f g fl) := by
 have w : ∀ x : Wd, IntKind.i64.wrap (x.v / 65536) = x.v / 65536 := fun x => by have := wdB x; rw [IntKind.wrap_i64]; omega
 unfold rBody bodyN
 simp only [nI_app, r2_nat, r4_nat (wdB _), angK_eq, sar16_eq, w]
 rw [IntKind.wrap_u8, ← hl]
 have hb : 0 ≤ fl' ∧ fl' ≤ 15 := by rw [hl]; cases lockB a b c d <;> simp <;> omega
 have e : nI [1, fl'.toNat] = [1, fl' % 256] := by
  show [(1 : Int), ((fl'.toNat : Nat) : Int)] = _
  rw [show ((fl'.toNat : Nat) : Int) = fl' % 256 by omega]
 rw [e]
 all_goals rfl
theorem inO_ok {x lo hi : Int} (h1 : lo ≤ x) (h2 : x ≤ hi) : ∀ ob ∈ inO x lo hi, ObOkK Tryz.prog FTab ob := obsKC (obK (oLeq_ok (by simpa using h2))) (obsKC (obK (oGeq_ok (by simpa using h1))) obsK0)
theorem obsKA {P : Program} {K : World → Prop} {l m : List Ob} (ha : ∀ ob ∈ l, ObOkK P K ob) (hm : ∀ ob ∈ m, ObOkK P K ob) : ∀ ob ∈ l ++ m, ObOkK P K ob := fun ob h => (List.mem_append.1 h).elim (ha ob) (hm ob)
theorem rputO_ok {r p y : Wd} {fl s f g : Int} (hfl : 0 ≤ fl ∧ fl ≤ 15) (hs : in16 s) (hf : in16 f) (hg : in16 g) : ∀ ob ∈ rputO (sar16 r) (sar16 p) (sar16 y) fl s f g, ObOkK Tryz.prog FTab ob := by
 have w : ∀ x : Wd, -32768 ≤ IntKind.i64.wrap (sar16 x) ∧ IntKind.i64.wrap (sar16 x) ≤ 32767 := fun x => by have := wdB x; rw [sar16_eq, IntKind.wrap_i64]; omega
 unfold rputO
 exact obsKA (obsKA (obsKA (obsKA (obsKA (obsKA (inO_ok hg.1 hg.2) (inO_ok hf.1 hf.2)) (inO_ok hs.1 hs.2)) (inO_ok hfl.1 hfl.2)) (inO_ok (w y).1 (w y).2)) (inO_ok (w p).1 (w p).2)) (inO_ok (w r).1 (w r).2)
end Go.Proofs.YtihgijhjhmjolaaGreatDoor.Xi

/- The reference's Feed, as runs. -/
namespace Go.Proofs.YtihgijhjhmjolaaGreatDoor.Xi
open Go Go.RowKit Go.Deep
set_option linter.unusedVariables false
def pairI (h l : Int) : Int := (256 * h + l + 32768) % 65536 - 32768
def pairX (h l : Int) : Int := IntKind.i64.wrap (IntKind.i64.wrap (256 * IntKind.i64.wrap h) + IntKind.i64.wrap l)
set_option maxRecDepth 100000 in
theorem pair_run0 (h l : Int) : runP (cxR [] [(78, .one)] [(7, false)]) (tabOf [modE]) 400 40 [.opq 0, .opq 1] [.int .u8 h, .int .u8 l] = some (.int .i32 (IntKind.i32.wrap (pairX h l % 65536)), [oGeq 2 .i64 (pairX h l % 65536) 32768 false]) := by kernel_rfl
set_option maxRecDepth 100000 in
theorem pair_run1 (h l : Int) : runP (cxR [] [(78, .one)] [(7, true)]) (tabOf [modE]) 400 40 [.opq 0, .opq 1] [.int .u8 h, .int .u8 l] = some (.int .i32 (IntKind.i32.wrap (IntKind.i64.wrap (pairX h l % 65536 - 65536))), [oGeq 2 .i64 (pairX h l % 65536) 32768 true]) := by kernel_rfl
theorem rpair_calls (h l : Int) (hh : 0 ≤ h ∧ h ≤ 255) (hl : 0 ≤ l ∧ l ≤ 255) (w : World) : Calls Tryz.prog 40 #[.int .u8 h, .int .u8 l] w fun e w' => e = .returned (.int .i32 (pairI h l)) ∧ Chg w w' [] := by
 have e : pairX h l = 256 * h + l := by
  unfold pairX
  rw [show IntKind.i64.wrap h = h by rw [IntKind.wrap_i64]; omega, show IntKind.i64.wrap l = l by rw [IntKind.wrap_i64]; omega, show IntKind.i64.wrap (256 * h) = 256 * h by rw [IntKind.wrap_i64]; omega, IntKind.wrap_i64]
  omega
 have hg : goodL [.int .u8 h, .int .u8 l] := fun v hv => by
  simp at hv
  rcases hv with rfl | rfl
  · exact good_u8' hh
  · exact good_u8' hl
 by_cases hc : 32768 ≤ (256 * h + l) % 65536
 · have := cxR_calls _ (pair_run1 h l) hg (obs1 (oGeq_ok (by rw [e]; simpa using hc))) w
   rw [e, show IntKind.i32.wrap (IntKind.i64.wrap ((256 * h + l) % 65536 - 65536)) = pairI h l by unfold pairI; rw [IntKind.wrap_i64, IntKind.wrap_i32]; omega] at this
   exact this
 · have := cxR_calls _ (pair_run0 h l) hg (obs1 (oGeq_ok (by rw [e]; simpa using hc))) w
   rw [e, show IntKind.i32.wrap ((256 * h + l) % 65536) = pairI h l by unfold pairI; rw [IntKind.wrap_i32]; omega] at this
   exact this
def fPair : List Value → Option Value
 | [.int .u8 h, .int .u8 l] => some (.int .i32 (pairI h l))
 | _ => none
theorem pairI_in (h l : Int) : -2147483648 ≤ pairI h l ∧ pairI h l ≤ 2147483647 := by unfold pairI; omega
def rPairE : Ent where
 f := 40
 fn := fPair
 ok := fun us v hv hg => by
  unfold fPair at hv
  split at hv
  · rename_i h l
    injection hv with hv
    subst hv
    exact ⟨.inl (.inl (good_i32' (pairI_in h l))), fun w => rpair_calls h l (good_u8 (good1_int (hg (.int .u8 h) (by simp)))) (good_u8 (good1_int (hg (.int .u8 l) (by simp)))) w⟩
  · cases hv
def vb (B : Nat → Int) (n : Nat) : List Value := (List.range n).map fun i => .int .u8 (B i)
def smp (B : Nat → Int) (i : Nat) : Wd := kW (pairI (B (2 * i)) (B (2 * i + 1)))
def nextK (a b c d : Wd) (B : Nat → Int) : Q4 := sensedW (kW a.v) (kW b.v) (kW c.v) (kW d.v) (smp B 0) (smp B 1) (smp B 2) (smp B 3) (smp B 4) (smp B 5) (smp B 6) (smp B 7) (smp B 8)
def nextF (B : Nat → Int) : Int := flagsI (sensedA (smp B 3) (smp B 4) (smp B 5)) (sensedM (smp B 6) (smp B 7) (smp B 8))
def feedA (a b c d : Wd) (s f g : Int) (B : Nat → Int) : List Value := inS a b c d s f g ++ vb B 20
noncomputable def ftab : List (EntK FTab) := [rStepE.k, modE.k, rOfE.k, sarE.k, rPairE.k, rNextE.k]
def fsh : List (FuncId × Sh) := (40, .one) :: rsh
def rinc (x : Int) : Int := IntKind.i64.wrap ((IntKind.i64.wrap (x + 1)).tmod 65536)
def front (B : Nat → Int) (n : Nat) : List Int := (List.range n).map B
def sumO (B : Nat → Int) (r : Bool) : Ob := .test (.bin .neq 9) [.string (bstr (rSeal (front B 18))), .string (bstr (front B 20))] (.bool r)
def fbr (n : Nat) (l : Bool) : List (Nat × Bool) := [(60, false), (70, false), (71, false), (76, l)] ++ [n, n + 1, n + 3, n + 4, n + 6, n + 7, n + 8, n + 9, n + 10, n + 11, n + 12, n + 13, n + 14, n + 15].map fun k => (k, true)
def fframe (a b c d : Wd) (s f g fl : Int) : CA := .l (u8I (rSeal (rBody a b c d s f g fl (sar16 (angK a b c d).a) (sar16 (angK a b c d).b) (sar16 (angK a b c d).c))))
def st4 (x : Q4) (s f g : Int) : Value := stV x.a x.b x.c x.d s f g
def fOk (a b c d : Wd) (s f g fl : Int) (B : Nat → Int) (x : Q4) (l : Bool) (fl' : Int) : List Ob := rtellO x.a x.b x.c x.d (rinc s) f (rinc g) fl fl' l ++ [sumO B false, rRightO a b c d s f g true]
set_option maxRecDepth 100000 in
theorem feed_run0 (a b c d : Wd) (s f g : Int) (B : Nat → Int) : runS (cxV rlit fsh (fbr 81 false) [opqs 20 7]) (tabK ftab) 3000 11 [opqs 20 7] [.agg (opqs 7 0), .vw 1000000 0 20] (feedA a b c d s f g B) =
 some (true, [.v (st4 (nextK a b c d B) (rinc s) f (rinc g)), fframe (nextK a b c d B).a (nextK a b c d B).b (nextK a b c d B).c (nextK a b c d B).d (rinc s) f (rinc g) (nextF B), .v (.int .i64 0)], fOk a b c d s f g (nextF B) B (nextK a b c d B) false (nextF B)) := by kernel_rfl
set_option maxRecDepth 100000 in
theorem feed_run1 (a b c d : Wd) (s f g : Int) (B : Nat → Int) : runS (cxV rlit fsh (fbr 82 true) [opqs 20 7]) (tabK ftab) 3000 11 [opqs 20 7] [.agg (opqs 7 0), .vw 1000000 0 20] (feedA a b c d s f g B) =
 some (true, [.v (st4 (nextK a b c d B) (rinc s) f (rinc g)), fframe (nextK a b c d B).a (nextK a b c d B).b (nextK a b c d B).c (nextK a b c d B).d (rinc s) f (rinc g) (IntKind.i64.wrap (nextF B + 8)), .v (.int .i64 0)], fOk a b c d s f g (nextF B) B (nextK a b c d B) true (IntKind.i64.wrap (nextF B + 8))) := by kernel_rfl
end Go.Proofs.YtihgijhjhmjolaaGreatDoor.Xi

/- The reference's Feed of bytes with a wrong sum, as runs. -/
namespace Go.Proofs.YtihgijhjhmjolaaGreatDoor.Xi
open Go Go.RowKit Go.Deep
set_option linter.unusedVariables false
def bbr (k n : Nat) (l r : Bool) : List (Nat × Bool) := [(60, true), (63, r), (k, l)] ++ [n, n + 1, n + 3, n + 4, n + 6, n + 7, n + 8, n + 9, n + 10, n + 11, n + 12, n + 13].map fun k => (k, true)
def rputB (r p y s f g : Int) : List Ob := inO g 0 65535 ++ inO f 0 65535 ++ inO s 0 65535 ++ inO (IntKind.i64.wrap y) (-32768) 32767 ++ inO (IntKind.i64.wrap p) (-32768) 32767 ++ inO (IntKind.i64.wrap r) (-32768) 32767
def bOb (a b c d : Wd) (s f g f' : Int) (B : Nat → Int) (l r : Bool) : List Ob := rputB (sar16 (angK a b c d).a) (sar16 (angK a b c d).b) (sar16 (angK a b c d).c) (rinc s) f' g ++ [oIs (lockK a b c d) l, rRightO a b c d (rinc s) f' g true, oLss 3 .i64 f 65535 r, sumO B true, rRightO a b c d s f g true]
def bRes (a b c d : Wd) (s f g f' : Int) (B : Nat → Int) (l r : Bool) (fl : Int) : Option (Bool × List CA × List Ob) :=
 some (true, [.v (stV a b c d (rinc s) f' g), fframe a b c d (rinc s) f' g fl, .v (.int .i64 0)], bOb a b c d s f g f' B l r)
noncomputable def bRun (a b c d : Wd) (s f g : Int) (B : Nat → Int) (br : List (Nat × Bool)) : Option (Bool × List CA × List Ob) := runS (cxV rlit fsh br [opqs 20 7]) (tabK ftab) 3000 11 [opqs 20 7] [.agg (opqs 7 0), .vw 1000000 0 20] (feedA a b c d s f g B)
set_option maxRecDepth 100000 in
theorem bad_run00 (a b c d : Wd) (s f g : Int) (B : Nat → Int) : bRun a b c d s f g B (bbr 68 73 false false) = bRes a b c d s f g f B false false 1 := by kernel_rfl
set_option maxRecDepth 100000 in
theorem bad_run10 (a b c d : Wd) (s f g : Int) (B : Nat → Int) : bRun a b c d s f g B (bbr 68 73 true false) = bRes a b c d s f g f B true false 9 := by kernel_rfl
set_option maxRecDepth 100000 in
theorem bad_run01 (a b c d : Wd) (s f g : Int) (B : Nat → Int) : bRun a b c d s f g B (bbr 69 74 false true) = bRes a b c d s f g (IntKind.i64.wrap (f + 1)) B false true 1 := by kernel_rfl
set_option maxRecDepth 100000 in
theorem bad_run11 (a b c d : Wd) (s f g : Int) (B : Nat → Int) : bRun a b c d s f g B (bbr 69 74 true true) = bRes a b c d s f g (IntKind.i64.wrap (f + 1)) B true true 9 := by kernel_rfl
end Go.Proofs.YtihgijhjhmjolaaGreatDoor.Xi
