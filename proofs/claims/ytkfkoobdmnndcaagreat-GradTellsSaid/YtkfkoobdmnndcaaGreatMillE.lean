/- Xi: the mill's calls, as entries of runs on the mill. -/
import Derived.Test.YtkfkoobdmnndcaaGreatMillM
import Derived.Test.YtkfkoobdmnndcaaGreatTab
namespace Go.Proofs.YtkfkoobdmnndcaaGreat.Xm
open Go Go.RowKit Go.Proofs.YtkfkoobdmnndcaaGreat.Xi
set_option linter.unusedVariables false
set_option linter.unusedSimpArgs false
/-- Calls that change nothing. -/
def entPure (b : Nat) (f : FuncId) (R : List MA → Option MO) (h : ∀ us o, R us = some o → ∀ w : World, Calls Tryz.prog f (us.map MA.val).toArray w fun e w' => e = .returned o.val ∧ Chg w w' []) : EntM b where
  f := f
  top := 1000000
  fn := fun us => match R us with | some o => some (o, 0) | none => none
  ok := fun us o d hv hp n w hn hpl => by
    cases hR : R us with
    | none => rw [hR] at hv; cases hv
    | some o' =>
      rw [hR] at hv
      injection hv with hv; injection hv with h1 h2
      subst h1 h2
      exact (h us o' hR w).mono fun e w' ⟨he, hc⟩ => ⟨he, hpl.chg hc (by simp), Turn.call hpl hc⟩
/-- Calls that may add cells. -/
def entCell (b : Nat) (f : FuncId) (top k : Nat) (R : List MA → Option MO) (h : ∀ us o, R us = some o → (∀ p, (MA.mill p ∈ us ∨ MA.bare p ∈ us) → p = ⟨b, 0, none⟩) → ∀ n w, n ≤ top → PlR w b (most n) → Calls Tryz.prog f (us.map MA.val).toArray w fun e w' => e = .returned o.val ∧ PlR w' b (most (n + k)) ∧ Turn w b w') : EntM b where
  f := f
  top := top
  fn := fun us => match R us with | some o => some (o, k) | none => none
  ok := fun us o d hv hp n w hn hpl => by
    cases hR : R us with
    | none => rw [hR] at hv; cases hv
    | some o' =>
      rw [hR] at hv
      injection hv with hv; injection hv with h1 h2
      subst h1 h2
      exact h us o' hR hp n w hn hpl
def R1 (F : Wd → MO) : List MA → Option MO
  | [.mill _, .w a] => some (F a)
  | _ => none
def R2 (F : Wd → Wd → MO) : List MA → Option MO
  | [.mill _, .w a, .w c] => some (F a c)
  | _ => none
def R3 (F : Wd → Wd → Wd → MO) : List MA → Option MO
  | [.mill _, .w a, .w c, .w d] => some (F a c d)
  | _ => none
def RB1 (F : Wd → MO) : List MA → Option MO
  | [.bare _, .w a] => some (F a)
  | _ => none
def RA3 (F : Wd → Wd → Wd → MO) : List MA → Option MO
  | [.mill _, .a [a, c, d]] => some (F a c d)
  | _ => none
def RA4 (F : Wd → Wd → Wd → Wd → MO) : List MA → Option MO
  | [.mill _, .a [a, c, d, e]] => some (F a c d e)
  | _ => none
def RA43 (F : Wd → Wd → Wd → Wd → Wd → Wd → Wd → MO) : List MA → Option MO
  | [.mill _, .a [a, c, d, e], .a [x, y, z]] => some (F a c d e x y z)
  | _ => none
def RA44 (F : Wd → Wd → Wd → Wd → Wd → Wd → Wd → Wd → MO) : List MA → Option MO
  | [.mill _, .a [a, c, d, e], .a [x, y, z, t]] => some (F a c d e x y z t)
  | _ => none
def RAE (F : Wd → Wd → Wd → Wd → Wd → Wd → Wd → Wd → Wd → MO) : List MA → Option MO
  | [.mill _, .a [a, c, d, e], .w u, .w v, .a [x, y, z]] => some (F a c d e u v x y z)
  | _ => none
def pure2 (b : Nat) (f : FuncId) (F : Wd → Wd → Wd) (h : ∀ (p : Addr) (a c : Wd) (w : World), Calls Tryz.prog f #[.agg #[.iface 59 (.pointer (some p))], .int .i32 a.v, .int .i32 c.v] w fun e w' => e = .returned (.int .i32 (F a c).v) ∧ Chg w w' []) : EntM b :=
  entPure b f (R2 fun a c => .w (F a c)) fun us o hv w => by
    unfold R2 at hv
    split at hv
    · injection hv with hv
      subst hv
      exact h _ _ _ w
    · cases hv
def pure1 (b : Nat) (f : FuncId) (F : Wd → Wd) (h : ∀ (p : Addr) (a : Wd) (w : World), Calls Tryz.prog f #[.agg #[.iface 59 (.pointer (some p))], .int .i32 a.v] w fun e w' => e = .returned (.int .i32 (F a).v) ∧ Chg w w' []) : EntM b :=
  entPure b f (R1 fun a => .w (F a)) fun us o hv w => by
    unfold R1 at hv
    split at hv
    · injection hv with hv
      subst hv
      exact h _ _ w
    · cases hv
def pure3 (b : Nat) (f : FuncId) (F : Wd → Wd → Wd → Wd) (h : ∀ (p : Addr) (a c d : Wd) (w : World), Calls Tryz.prog f #[.agg #[.iface 59 (.pointer (some p))], .int .i32 a.v, .int .i32 c.v, .int .i32 d.v] w fun e w' => e = .returned (.int .i32 (F a c d).v) ∧ Chg w w' []) : EntM b :=
  entPure b f (R3 fun a c d => .w (F a c d)) fun us o hv w => by
    unfold R3 at hv
    split at hv
    · injection hv with hv
      subst hv
      exact h _ _ _ _ w
    · cases hv
/-- The mill's own operations. -/
def entConst (b : Nat) : EntM b :=
  entPure b 139 (RB1 fun a => .w a) fun us o hv w => by
    unfold RB1 at hv
    split at hv
    · rename_i p a
      injection hv with hv
      subst hv
      have := w_const p a.v w a.ok
      rw [kW_self] at this
      exact this
    · cases hv
def entUp (b : Nat) : EntM b := pure2 b 63 (fun a c => upW a c.v) fun p a c w => w_up p a c.v w c.ok
def entDown (b : Nat) : EntM b := pure2 b 85 (fun a c => downW a c.v) fun p a c w => w_down p a c.v w c.ok
def entSel (b : Nat) : EntM b := pure3 b 114 selW fun p a c d w => w_sel p a c d w
def entFlip (b : Nat) : EntM b := pure2 b 112 flipW fun p a c w => w_flip p a c w
def opsM (b : Nat) : List (EntM b) := [
  pure2 b 55 addW (w_add · · · ·),
  pure2 b 76 subW (w_sub · · · ·),
  pure2 b 95 addsW (w_adds · · · ·),
  pure2 b 103 subsW (w_subs · · · ·),
  pure2 b 99 andW (w_and · · · ·),
  pure2 b 97 orW (w_or · · · ·),
  pure2 b 119 xorW (w_xor · · · ·),
  pure2 b 120 bicW (w_bic · · · ·),
  pure2 b 102 shlW (w_shl · · · ·),
  pure2 b 101 shrW (w_shr · · · ·),
  pure2 b 113 sarW (w_sar · · · ·),
  pure2 b 77 sltW (w_slt · · · ·),
  pure2 b 98 sltuW (w_sltu · · · ·),
  pure2 b 56 mulW (w_mul · · · ·),
  pure2 b 70 mulqW (w_mulq · · · ·),
  pure2 b 108 minW (w_min · · · ·),
  pure2 b 106 maxW (w_max · · · ·),
  pure1 b 100 clzW (w_clz · · ·),
  pure1 b 93 negW (w_neg · · ·),
  pure1 b 78 absW (w_abs · · ·),
  pure1 b 111 signW (w_sign · · ·),
  entConst b,
  entUp b,
  entDown b,
  entSel b,
  entFlip b]
def opsS : List (FuncId × Sh) := [(55, .one), (76, .one), (95, .one), (103, .one), (99, .one), (97, .one), (119, .one), (120, .one), (102, .one), (101, .one), (113, .one), (77, .one), (98, .one), (56, .one), (70, .one), (108, .one), (106, .one), (100, .one), (93, .one), (78, .one), (111, .one), (63, .one), (85, .one), (114, .one), (112, .one), (139, .one)]
def mtC (n : String) : Option FuncId := match n with | "Const" => some 139 | _ => none
theorem mtC_ok {n : String} {g : FuncId} (h : mtC n = some g) (a : Addr) (w : World) : (method (Tryz.prog.types.size + Made.depth) 59 (.pointer (some a)) n).run Tryz.prog w = .ok (g, .pointer (some a)) w := by
  unfold mtC at h
  split at h
  · have h := Option.some.inj h
    subst h
    have e : Tryz.prog.types.size + Made.depth = 234 := by kernel_rfl
    rw [e]
    exact meth_const a w
  · cases h
/-- The runner's view: calls that answer words, and the mill's Const. -/
noncomputable def cxM (shs : List (FuncId × Sh)) : Cx where
  P := Tryz.prog
  ev := fun f _ nv => match shOf shs f with
    | some s => some (s.mk nv)
    | none => match shOf opsS f with
      | some s => some (s.mk nv)
      | none => none
  lp := fun _ => false
  mt := fun t n => bif Nat.beq t 59 then mtC n else none
  br := fun _ => none
theorem cxM_mt (shs : List (FuncId × Sh)) : MtOk (cxM shs) := fun t n g h a w => by
  have h' : (bif Nat.beq t 59 then mtC n else none) = some g := h
  cases ht : Nat.beq t 59 with
  | false => rw [ht] at h'; cases h'
  | true =>
    rw [ht] at h'
    rw [beq_iff] at ht
    subst ht
    exact mtC_ok h' a w
/-- The mill at b, as it is handed on. -/
def mil (b : Nat) : AV := .agg [.ifc 59 (.lit (.pointer (some ⟨b, 0, none⟩)))]
def pp (b m : Nat) : List Addr := List.replicate m ⟨b, 0, none⟩
theorem pp_ok (b m : Nat) : ∀ p ∈ pp b m, p = ⟨b, 0, none⟩ := fun p hp => (List.mem_replicate.1 hp).2
theorem cxM_calls {b H m k fuel : Nat} {shs : List (FuncId × Sh)} {tab : List (EntM b)} {f : FuncId} {args : List AV} {ins : List Wd} {o : MO}
    (h : runM (cxM shs) H (tab ++ opsM b) fuel f args ins = some (o, k, pp b m)) {n : Nat} (hn : n ≤ H) (w : World) (hpl : PlR w b (most n)) {vs : List Value} (hvs : concL (getW ins) args = vs) :
    Calls Tryz.prog f vs.toArray w fun e w' => e = .returned o.val ∧ PlR w' b (most (n + k)) ∧ Turn w b w' :=
  mill_calls rfl (by kernel_rfl) (cxM_mt shs) h (pp_ok b m) hn w hpl hvs
end Go.Proofs.YtkfkoobdmnndcaaGreat.Xm
