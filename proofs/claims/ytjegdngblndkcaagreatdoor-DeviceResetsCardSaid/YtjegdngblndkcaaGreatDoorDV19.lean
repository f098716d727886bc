/- Texts of this claim, side by side: ModelH, ModelI, ModelK. -/
import Derived.Test.YtjegdngblndkcaaGreatDoorDV14
import Derived.Lib.ItoaNum
import Derived.Test.YtjegdngblndkcaaGreatDoorDV10
import Derived.Laws.StructEq
import Derived.Laws.Tables
import Derived.Test.YtjegdngblndkcaaGreatDoorDV6
import Derived.Lib.SlicesS
/- The reference's signs, picks, counts: Sign, Min, Max, Clamp, Flip, Clz. -/
namespace Go.Proofs.YtjegdngblndkcaaGreatDoor.Xi
open Go Go.RowKit
set_option linter.unusedVariables false
inductive PA where
 | w (x:Wd)
 | a (l:List Wd)
def PA.val:PA→Value
 | .w x => .int .i32 x.v
 | .a l => .agg (l.map fun x => .int .i32 x.v).toArray
def pws:List Value→Option (List Wd)
 | [] => some []
 | .int .i32 n :: l => match pws l with | some r => some (kW n :: r) | none => none
 | _ :: _ => none
def pas:List Value→Option (List PA)
 | [] => some []
 | .int .i32 n :: l => match pas l with | some r => some (.w (kW n) :: r) | none => none
 | .agg ds :: l => match pws ds.toList with
  | some q => match pas l with | some r => some (.a q :: r) | none => none
  | none => none
 | _ :: _ => none
def fP (R:List PA→Option Value) (us:List Value):Option Value:=match pas us with | some ps => R ps | none => none
def wl (l:List Wd):List Value:=l.map fun x => .int .i32 x.v
structure I3 where
 x:Int
 y:Int
 a:Int
end Go.Proofs.YtjegdngblndkcaaGreatDoor.Xi

namespace Go.Proofs.YtjegdngblndkcaaGreatDoor
open Go.RowKit Go.Deep
set_option linter.unusedVariables false
theorem wrapN (n:Nat) (h:n≤100000):IntKind.i64.wrap (n:Int) = (n:Int):=by rw [IntKind.wrap_i64]; omega
end Go.Proofs.YtjegdngblndkcaaGreatDoor

namespace Go.Proofs.YtjegdngblndkcaaGreatDoor
open Go.RowKit Go.Deep
set_option linter.unusedVariables false
end Go.Proofs.YtjegdngblndkcaaGreatDoor
namespace Go.Proofs.YtjegdngblndkcaaGreatDoor.Xi
open Go Go.RowKit
set_option linter.unusedVariables false
structure YA (K:World→Prop) where
 f:FuncId
 fn:List Value→Option Value
 ok:∀ us v,fn us = some v→(∀ u∈us,good1 u)→I8 v∧∀ w:World,K w→Calls Tryz.prog f us.toArray w fun e w' => e = .returned v∧ah w w' []
def Ent.k {K:World→Prop} (e:Ent):YA K:=⟨e.f,e.fn,fun us v h hg => ⟨(e.ok us v h hg).1,fun w _ => (e.ok us v h hg).2 w⟩⟩
def SS {K:World→Prop}:List (YA K)→Tab
 | [],_,_ => none
 | e :: l,f,us => bif Nat.beq e.f f then e.fn us else SS l f us
theorem V5 {K:World→Prop}:∀ l:List (YA K),PY Tryz.prog K (SS l)
 | [],f,us,v,h,hg => by cases h
 | e :: l,f,us,v,h,hg => by
  unfold SS at h
  cases hb:Nat.beq e.f f with
  | true =>
   rw [hb] at h
   obtain rfl:=beq_iff.1 hb
   exact e.ok us v h hg
  | false =>
   rw [hb] at h
   exact V5 l f us v h hg
theorem ad9 {b:Int} (h:0≤b∧b≤255):kC (.int .u8 b):=by
 simp only [kC,Lit.wf,IntKind.min,IntKind.max,IntKind.signed,IntKind.bits]
 simp
 omega
end Go.Proofs.YtjegdngblndkcaaGreatDoor.Xi

/- model.Tell, as a run. -/
namespace Go.Proofs.YtjegdngblndkcaaGreatDoor.Xi
open Go Go.RowKit
set_option linter.unusedVariables false
theorem ae8 (T:TypeId) (k:IntKind) (a b:Int):G6 Tryz.prog (.bin .neq T) [.int k a,.int k b] (.bool (a != b)):=fun x y w => by simp [eqGuard,binOp,Op.intCmp]
def stV (a b c d:Wd) (s f g:Int):Value:=.agg #[.int .i32 a.v,.int .i32 b.v,.int .i32 c.v,.int .i32 d.v,.int .i64 s,.int .i64 f,.int .i64 g]
end Go.Proofs.YtjegdngblndkcaaGreatDoor.Xi

/- model.Tell: what a frame is, in numbers. -/
namespace Go.Proofs.YtjegdngblndkcaaGreatDoor.Xi
open Go Go.RowKit Go.Deep
set_option linter.unusedVariables false
def aX (x:Int) (k:Int):Nat:=(x / k % 256).toNat
def b2 (x:Int):List Nat:=[aX x 256,aX x 1]
def b4 (x:Int):List Nat:=[aX x 16777216,aX x 65536,aX x 256,aX x 1]
theorem mF (x k:Int):aX x k < 256:=by unfold aX; omega
def nI (l:List Nat):List Int:=l.map fun (x:Nat) => (x:Int)
def OU (a b c d:Wd) (s f g fl:Int):List Nat:=[1,(fl + (bif oZ a b c d then 8 else 0)).toNat] ++ b2 s ++ b2 f ++ b2 g ++ b4 a.v ++ b4 b.v ++ b4 c.v ++ b4 d.v ++ b2 ((ig a b c d).a.v / 65536) ++ b2 ((ig a b c d).b.v / 65536) ++ b2 ((ig a b c d).c.v / 65536)
def abn (a b c d:Wd) (s f g fl:Int):List Nat:=JW (OU a b c d s f g fl)
def vg (x:Int):Prop:=0≤x∧x≤65535
theorem obK {P:Program} {K:World→Prop} {ob:Ob} (h:am2 P ob):pY P K ob:=by
 cases ob with
 | call f args v => exact fun w _ => h w
 | test p xs v => exact h
theorem alL {P:Program} {K:World→Prop}:∀ ob∈([]:List Ob),pY P K ob:=fun ob h => by cases h
theorem ae9 {P:Program} {K:World→Prop} {a:Ob} {l:List Ob} (ha:pY P K a) (hl:∀ ob∈l,pY P K ob):∀ ob∈a :: l,pY P K ob:=fun ob h => by
 rcases List.mem_cons.1 h with rfl | h
 · exact ha
 · exact hl ob h
theorem jE.of_heap {w w1:World} (h:jE w) (hk:∀ k∈[3],w1.heap[k]? = w.heap[k]?):jE w1:=by
 have h' : w.var? Tryz.prog "astrolabe/crc.four" = some _ := h
 show w1.var? Tryz.prog "astrolabe/crc.four" = some _
 unfold World.var? at h' ⊢
 rw [show Tryz.prog.globalNamed "astrolabe/crc.four" = some 3 by kernel_rfl] at h' ⊢
 simp only [Option.bind_some] at h' ⊢
 rw [hk _ (by simp)]; exact h'
theorem UE {lits:List (FuncId × AV)} {shs:List (FuncId × Sh)} {br:List (Nat × Bool)} (tab:List (YA jE)) {fuel:Nat} {f:FuncId} {vws:List (List AV)} {args:List AV} {ins:List Value} {t:Bool} {cas:List CA} {obs:List Ob}
 (h:X5 (cxV lits shs br vws) (SS tab) fuel f vws args ins = some (t,cas,obs)) (hg:kD ins) (ho:∀ ob∈obs,pY Tryz.prog jE ob) (w:World) (hw:jE w) (ss:List Value)
 (hss:∀ (i:Nat) cs,vws[i]? = some cs→∃ v,ss[i]? = some v∧Sl w v (aA (iJ ins) cs)) (h1:∀ v∈ss,v.oneCell' = true) {vals:List Value} (hvs:aA (E0 (ρS ins ss)) args = vals) :
 Calls Tryz.prog f vals.toArray w fun e w' => (∃ us,dW [] w' us cas∧e = .returned (Rl t us))∧ah w w' [] :=
 Jw (cx:=cxV lits shs br vws) (by kernel_rfl) (fun t n g h => by cases h) (V5 tab) rfl h hg ho w [3] (fun k hk => by simp at hk; subst hk; exact hw.lt) (fun w1 hk => jE.of_heap hw hk) ss hss h1 hvs
theorem anz (x0 x1 x2 x3 y0 y1 y2 y3:Int) (w:World):(Op.equalIn 9999 42 (.agg #[.int .i32 x0,.int .i32 x1,.int .i32 x2,.int .i32 x3]) (.agg #[.int .i32 y0,.int .i32 y1,.int .i32 y2,.int .i32 y3])).run Tryz.prog w = .ok (x0 == y0 && x1 == y1 && x2 == y2 && x3 == y3) w:=by
 have u3:=Tryz.underlying21
 have k3:=Tryz.isAgg21
 have z3:=Tryz.sizeOf21
 rw [show (9999:Nat) = 9998 + 1 from rfl,Op.equalIn]
 simp only [Sem.run_bind,run_underlying Tryz.underlying42,Result.andThen_ok]
 simp only [Std.Legacy.Range.forIn_eq_forIn_range',Std.Legacy.Range.size,Nat.sub_zero,Nat.add_sub_cancel,Nat.div_one,List.range'_succ,List.range'_zero,List.forIn_cons,List.forIn_nil]
 go_simp
 by_cases h0:x0 = y0 <;> by_cases h1:x1 = y1 <;> by_cases h2:x2 = y2 <;> by_cases h3:x3 = y3 <;> simp [h0,h1,h2,h3]
theorem eqS (a0 a1 a2 a3 b0 b1 b2 b3 s f g s' f' g':Int) (w:World):(Op.equalIn 10000 44 (.agg #[.int .i32 a0,.int .i32 a1,.int .i32 a2,.int .i32 a3,.int .i64 s,.int .i64 f,.int .i64 g]) (.agg #[.int .i32 b0,.int .i32 b1,.int .i32 b2,.int .i32 b3,.int .i64 s',.int .i64 f',.int .i64 g'])).run Tryz.prog w =
 .ok ((a0 == b0 && a1 == b1 && a2 == b2 && a3 == b3) && s == s' && f == f' && g == g') w:=by
 have u3:=Tryz.underlying3
 have k3:=Tryz.isAgg3
 have z3:=Tryz.sizeOf3
 have u4:=Tryz.underlying42
 have k4:=Tryz.isAgg42
 have z4:=Tryz.sizeOf42
 have q:=anz a0 a1 a2 a3 b0 b1 b2 b3 w
 rw [show (10000:Nat) = 9999 + 1 from rfl,Op.equalIn]
 simp only [Sem.run_bind,run_underlying Tryz.underlying44,Result.andThen_ok]
 go_simp
 by_cases h0:a0 = b0 <;> by_cases h1:a1 = b1 <;> by_cases h2:a2 = b2 <;> by_cases h3:a3 = b3 <;> by_cases h4:s = s' <;> by_cases h5:f = f' <;> by_cases h6:g = g' <;> simp [h0,h1,h2,h3,h4,h5,h6]
theorem wdB (x:Wd):-2147483648≤x.v∧x.v≤2147483647:=by have:=x.ok; unfold aC at this; exact this
def JX (h l:Int):Int:=(256 * h + l + 32768) % 65536 - 32768
def vb (B:Nat→Int) (n:Nat):List Value:=(List.range n).map fun i => .int .u8 (B i)
def yx (B:Nat→Int) (i:Nat):Wd:=kW (JX (B (2 * i)) (B (2 * i + 1)))
def nextK (a b c d:Wd) (B:Nat→Int):Q4:=Vy (kW a.v) (kW b.v) (kW c.v) (kW d.v) (yx B 0) (yx B 1) (yx B 2) (yx B 3) (yx B 4) (yx B 5) (yx B 6) (yx B 7) (yx B 8)
def OV (B:Nat→Int):Int:=abl (wS (yx B 3) (yx B 4) (yx B 5)) (wU (yx B 6) (yx B 7) (yx B 8))
end Go.Proofs.YtjegdngblndkcaaGreatDoor.Xi

/- The reference's Feed: what it makes of a state and twenty bytes. -/
namespace Go.Proofs.YtjegdngblndkcaaGreatDoor.Xi
open Go Go.RowKit Go.Deep
set_option linter.unusedVariables false
structure St where
 q:Q4
 s:Int
 f:Int
 g:Int
def St.val (x:St):Value:=stV x.q.a x.q.b x.q.c x.q.d x.s x.f x.g
def St.right (x:St):Prop:=vg x.s∧vg x.f∧vg x.g
def xI (xs:List Nat) (i:Nat):Int:=(xs.getD i 0:Nat)
def St.next (x:St) (xs:List Nat):St:=bif rG xs 18 then ⟨nextK x.q.a x.q.b x.q.c x.q.d (xI xs),(x.s + 1) % 65536,x.f,(x.g + 1) % 65536⟩ else ⟨x.q,(x.s + 1) % 65536,min (x.f + 1) 65535,x.g⟩
def kX (xs:List Nat):Int:=bif rG xs 18 then OV (xI xs) else 1
def St.frame (x:St) (fl:Int):List Nat:=abn x.q.a x.q.b x.q.c x.q.d x.s x.f x.g fl
theorem YC {x:Int} (h:vg x):vg ((x + 1) % 65536):=by unfold vg at *; omega
theorem St.Ce {x:St} (h:x.right) (xs:List Nat):(x.next xs).right:=by
 obtain ⟨h1,h2,h3⟩:=h
 unfold St.next
 cases rG xs 18 with
 | true => exact ⟨YC h1,h2,YC h3⟩
 | false => exact ⟨YC h1,by simp only [cond_false]; unfold vg at *; omega,h3⟩
theorem ad_ (B:Nat→Int):0≤OV B∧OV B≤7:=by
 unfold OV abl YB
 split <;> split <;> omega
theorem Eu (xs:List Nat):0≤kX xs∧kX xs≤7:=by
 unfold kX
 cases rG xs 18 with
 | true => exact ad_ _
 | false => simp
theorem aea {l:List Nat} (h:∀ x∈l,x < 256):∀ x∈JW l,x < 256:=fun x hx => by
 have:=Ip (c:=65535) (by decide) l
 unfold JW at hx
 rcases List.mem_append.1 hx with hx | hx
 · exact h x hx
 · simp at hx
   omega
theorem aeb {xs:List Nat} (hx:∀ x∈xs,x < 256):kD (dH xs):=fun v hv => by
 obtain ⟨x,hm,rfl⟩:=List.mem_map.1 hv
 have:=hx x hm
 exact ad9 (by omega)
def St.i64 (x:St):Prop:=(-9223372036854775808≤x.s∧x.s≤9223372036854775807)∧(-9223372036854775808≤x.f∧x.f≤9223372036854775807)∧(-9223372036854775808≤x.g∧x.g≤9223372036854775807)
theorem abo (w:World):Sl w (.slice none 0 0) (dH []):=⟨none,0,rfl,Nat.le_refl _,fun h => absurd h (by simp [dH])⟩
end Go.Proofs.YtjegdngblndkcaaGreatDoor.Xi
