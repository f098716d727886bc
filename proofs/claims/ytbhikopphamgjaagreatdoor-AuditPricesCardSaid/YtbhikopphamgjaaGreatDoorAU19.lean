/- Texts of this claim, side by side: ModelH, ModelI, ModelK. -/
import Derived.Test.YtbhikopphamgjaaGreatDoorAU14
import Derived.Lib.ItoaNum
import Derived.Test.YtbhikopphamgjaaGreatDoorAU6
import Derived.Lib.SlicesS
set_option linter.unusedVariables false
namespace Go.Proofs.YtbhikopphamgjaaGreatDoor
namespace Xi
open Go Go.RowKit
inductive PA where
 | w (x:Wd)
 | a (l:List Wd)
def PA.val:PA->Value
 | .w x => .int .i32 x.v
 | .a l => .agg (l.map fun x => .int .i32 x.v).toArray
def pws:List Value->Option (List Wd)
 | [] => some []
 | .int .i32 n :: l => match pws l with | some r => some (kW n :: r) | none => none
 | _ :: _ => none
def pas:List Value->Option (List PA)
 | [] => some []
 | .int .i32 n :: l => match pas l with | some r => some (.w (kW n) :: r) | none => none
 | .agg ds :: l => match pws ds.toList with
  | some q => match pas l with | some r => some (.a q :: r) | none => none
  | none => none
 | _ :: _ => none
def fP (R:List PA->Option Value) (us:List Value):Option Value:=match pas us with | some ps => R ps | none => none
def wl (l:List Wd):List Value:=l.map fun x => .int .i32 x.v
structure I3 where
 x:Int
 y:Int
 a:Int
end Xi

section
open Go.RowKit Go.Deep
theorem wrapN (n:Nat) (h:n<=100000):IntKind.i64.wrap (n:Int) = (n:Int):=by rw [IntKind.wrap_i64]; omega
end

section
open Go.RowKit Go.Deep
end
namespace Xi
open Go Go.RowKit
structure ZI (K:World->Prop) where
 f:FuncId
 fn:List Value->Option Value
 ok:∀ us v,fn us = some v->(∀ u∈us,good1 u)->JQ v/\∀ w:World,K w->Calls Tryz.prog f us.toArray w fun e w' => e = .returned v/\ah w w' []
def Ent.k {K:World->Prop} (e:Ent):ZI K:=⟨e.f,e.fn,fun us v h hg => ⟨(e.ok us v h hg).1,fun w _ => (e.ok us v h hg).2 w⟩⟩
def Uk {K:World->Prop}:List (ZI K)->Tab
 | [],_,_ => none
 | e :: l,f,us => bif Nat.beq e.f f then e.fn us else Uk l f us
theorem XD {K:World->Prop}:∀ l:List (ZI K),QS Tryz.prog K (Uk l)
 | [],f,us,v,h,hg => by cases h
 | e :: l,f,us,v,h,hg => by
  unfold Uk at h
  cases hb:Nat.beq e.f f with
  | true =>
   rw [hb] at h;obtain rfl:=beq_iff.1 hb;exact e.ok us v h hg
  | false =>
   rw [hb] at h;exact XD l f us v h hg
theorem afy {b:Int} (h:0<=b/\b<=255):kT (.int .u8 b):=by
 simp only [kT,Lit.wf,IntKind.min,IntKind.max,IntKind.signed,IntKind.bits];simp;omega
end Xi

namespace Xi
open Go Go.RowKit
theorem agK (T:TypeId) (k:IntKind) (a b:Int):Iy Tryz.prog (.bin .neq T) [.int k a,.int k b] (.bool (a != b)):=fun x y w => by simp [eqGuard,binOp,Op.intCmp]
def stV (a b c d:Wd) (s f g:Int):Value:=.agg #[.int .i32 a.v,.int .i32 b.v,.int .i32 c.v,.int .i32 d.v,.int .i64 s,.int .i64 f,.int .i64 g]
end Xi

namespace Xi
open Go Go.RowKit Go.Deep
def aZ (x:Int) (k:Int):Nat:=(x / k % 256).toNat
def b2 (x:Int):List Nat:=[aZ x 256,aZ x 1]
def b4 (x:Int):List Nat:=[aZ x 16777216,aZ x 65536,aZ x 256,aZ x 1]
theorem mZ (x k:Int):aZ x k < 256:=by unfold aZ; omega
def Qc (a b c d:Wd) (s f g fl:Int):List Nat:=[1,(fl + (bif pO a b c d then 8 else 0)).toNat] ++ b2 s ++ b2 f ++ b2 g ++ b4 a.v ++ b4 b.v ++ b4 c.v ++ b4 d.v ++ b2 ((iM a b c d).a.v / 65536) ++ b2 ((iM a b c d).b.v / 65536) ++ b2 ((iM a b c d).c.v / 65536)
def acO (a b c d:Wd) (s f g fl:Int):List Nat:=Ll (Qc a b c d s f g fl)
def vS (x:Int):Prop:=0<=x/\x<=65535
theorem obK {P:Program} {K:World->Prop} {ob:Ob} (h:apa P ob):qA P K ob:=by
 cases ob with
 | call f args v => exact fun w _ => h w
 | test p xs v => exact h
theorem anK {P:Program} {K:World->Prop}:∀ ob∈([]:List Ob),qA P K ob:=fun ob h => by cases h
theorem agL {P:Program} {K:World->Prop} {a:Ob} {l:List Ob} (ha:qA P K a) (hl:∀ ob∈l,qA P K ob):∀ ob∈a :: l,qA P K ob:=fun ob h => by
 rcases List.mem_cons.1 h with rfl | h
 . exact ha
 . exact hl ob h
theorem jU.of_heap {w w1:World} (h:jU w) (hk:∀ k∈[3],w1.heap[k]? = w.heap[k]?):jU w1:=by
 have h' : w.var? Tryz.prog "astrolabe/crc.four" = some _ := h;show w1.var? Tryz.prog "astrolabe/crc.four" = some _;unfold World.var? at h' ⊢;rw [show Tryz.prog.globalNamed "astrolabe/crc.four" = some 3 by kernel_rfl] at h' ⊢;simp only [Option.bind_some] at h' ⊢;rw [hk _ (by simp)]; exact h'
theorem VK {lits:List (FuncId × AV)} {shs:List (FuncId × Sh)} {br:List (Nat × Bool)} (tab:List (ZI jU)) {fuel:Nat} {f:FuncId} {vws:List (List AV)} {args:List AV} {ins:List Value} {t:Bool} {cas:List CA} {obs:List Ob}
 (h:Zd (cxV lits shs br vws) (Uk tab) fuel f vws args ins = some (t,cas,obs)) (hg:kU ins) (ho:∀ ob∈obs,qA Tryz.prog jU ob) (w:World) (hw:jU w) (ss:List Value)
 (hss:∀ (i:Nat) cs,vws[i]? = some cs->∃ v,ss[i]? = some v/\Sl w v (aB (jd ins) cs)) (h1:∀ v∈ss,v.oneCell' = true) {vals:List Value} (hvs:aB (E0 (ρS ins ss)) args = vals) :
 Calls Tryz.prog f vals.toArray w fun e w' => (∃ us,fF [] w' us cas/\e = .returned (SX t us))/\ah w w' [] :=
 KC (cx:=cxV lits shs br vws) (by kernel_rfl) (fun t n g h => by cases h) (XD tab) rfl h hg ho w [3] (fun k hk => by simp at hk; subst hk; exact hw.lt) (fun w1 hk => jU.of_heap hw hk) ss hss h1 hvs
theorem wdB (x:Wd):-2147483648<=x.v/\x.v<=2147483647:=by have:=x.ok; unfold aC at this; exact this
def Lm (h l:Int):Int:=(256 * h + l + 32768) % 65536 - 32768
def vb (B:Nat->Int) (n:Nat):List Value:=(List.range n).map fun i => .int .u8 (B i)
def yP (B:Nat->Int) (i:Nat):Wd:=kW (Lm (B (2 * i)) (B (2 * i + 1)))
def nextK (a b c d:Wd) (B:Nat->Int):Q4:=W9 (kW a.v) (kW b.v) (kW c.v) (kW d.v) (yP B 0) (yP B 1) (yP B 2) (yP B 3) (yP B 4) (yP B 5) (yP B 6) (yP B 7) (yP B 8)
def Qd (B:Nat->Int):Int:=acN (xw (yP B 3) (yP B 4) (yP B 5)) (xA (yP B 6) (yP B 7) (yP B 8))
end Xi

namespace Xi
open Go Go.RowKit Go.Deep
structure St where
 q:Q4
 s:Int
 f:Int
 g:Int
def St.val (x:St):Value:=stV x.q.a x.q.b x.q.c x.q.d x.s x.f x.g
def St.right (x:St):Prop:=vS x.s/\vS x.f/\vS x.g
def xI (xs:List Nat) (i:Nat):Int:=(xs.getD i 0:Nat)
def St.next (x:St) (xs:List Nat):St:=bif uK xs 18 then ⟨nextK x.q.a x.q.b x.q.c x.q.d (xI xs),(x.s + 1) % 65536,x.f,(x.g + 1) % 65536⟩ else ⟨x.q,(x.s + 1) % 65536,min (x.f + 1) 65535,x.g⟩
def oz (xs:List Nat):Int:=bif uK xs 18 then Qd (xI xs) else 1
def St.frame (x:St) (fl:Int):List Nat:=acO x.q.a x.q.b x.q.c x.q.d x.s x.f x.g fl
theorem ZK {x:Int} (h:vS x):vS ((x + 1) % 65536):=by unfold vS at *; omega
theorem St.Dw {x:St} (h:x.right) (xs:List Nat):(x.next xs).right:=by
 obtain ⟨h1,h2,h3⟩:=h;unfold St.next
 cases uK xs 18 with
 | true => exact ⟨ZK h1,h2,ZK h3⟩
 | false => exact ⟨ZK h1,by simp only [cond_false]; unfold vS at *; omega,h3⟩
theorem afz (B:Nat->Int):0<=Qd B/\Qd B<=7:=by
 unfold Qd acN ZJ;split <;> split <;> omega
theorem Lp (xs:List Nat):0<=oz xs/\oz xs<=7:=by
 unfold oz
 cases uK xs 18 with
 | true => exact afz _
 | false => simp
theorem afA {l:List Nat} (h:∀ x∈l,x < 256):∀ x∈Ll l,x < 256:=fun x hx => by
 have:=Jl (c:=65535) (by decide) l;unfold Ll at hx;rcases List.mem_append.1 hx with hx | hx
 . exact h x hx
 . simp at hx
   omega
theorem afB {xs:List Nat} (hx:∀ x∈xs,x < 256):kU (dB xs):=fun v hv => by
 obtain ⟨x,hm,rfl⟩:=List.mem_map.1 hv;have:=hx x hm;exact afy (by omega)
def St.i64 (x:St):Prop:=(-9223372036854775808<=x.s/\x.s<=9223372036854775807)/\(-9223372036854775808<=x.f/\x.f<=9223372036854775807)/\(-9223372036854775808<=x.g/\x.g<=9223372036854775807)
theorem al4 (w:World):Sl w (.slice none 0 0) (dB []):=⟨none,0,rfl,Nat.le_refl _,fun h => absurd h (by simp [dB])⟩
end Xi
end Go.Proofs.YtbhikopphamgjaaGreatDoor
