/- Texts of this claim, side by side: ModelA, ModelB, EqS, ModelC, ModelD, ModelE, ModelF, ModelG. -/
import Derived.Test.YtjcgiddgafjdpaaGreatDoorEntK
import Derived.Test.YtjcgiddgafjdpaaGreatDoorFR17
/- model.Tell, as a run. -/
namespace Go.Proofs.YtjcgiddgafjdpaaGreatDoor.Xi
open Go Go.RowKit
set_option linter.unusedVariables false
theorem t_neq (T:TypeId) (k:IntKind) (a b:Int):PrOk Tryz.prog (.bin .neq T) [.int k a,.int k b] (.bool (a != b)):=fun x y w => by simp [eqGuard,binOp,Op.intCmp]
def stV (a b c d:Wd) (s f g:Int):Value:=.agg #[.int .i32 a.v,.int .i32 b.v,.int .i32 c.v,.int .i32 d.v,.int .i64 s,.int .i64 f,.int .i64 g]
def foldI (c:Int) (l:List Int):Int:=l.foldl stepI c
end Go.Proofs.YtjcgiddgafjdpaaGreatDoor.Xi

/- model.Tell: what a frame is, in numbers. -/
namespace Go.Proofs.YtjcgiddgafjdpaaGreatDoor.Xi
open Go Go.RowKit Go.Deep
set_option linter.unusedVariables false
def byteN (x:Int) (k:Int):Nat:=(x / k % 256).toNat
def b2 (x:Int):List Nat:=[byteN x 256,byteN x 1]
def b4 (x:Int):List Nat:=[byteN x 16777216,byteN x 65536,byteN x 256,byteN x 1]
theorem byteN_lt (x k:Int):byteN x k < 256:=by unfold byteN; omega
def nI (l:List Nat):List Int:=l.map fun (x:Nat) => (x:Int)
theorem foldI_nat:∀ (l:List Nat) (c:Nat),c < 65536→foldI c (nI l) = (foldN c l:Nat)
 | [],c,_ => rfl
 | x :: l,c,h => by
  show foldI (stepI c x) (nI l) = _
  rw [stepI_nat c x h,foldI_nat l _ (stepN_lt _ _)]
  rfl
def bodyN (a b c d:Wd) (s f g fl:Int):List Nat:=[1,(fl + (bif lockB a b c d then 8 else 0)).toNat] ++ b2 s ++ b2 f ++ b2 g ++ b4 a.v ++ b4 b.v ++ b4 c.v ++ b4 d.v ++ b2 ((anglesW a b c d).a.v / 65536) ++ b2 ((anglesW a b c d).b.v / 65536) ++ b2 ((anglesW a b c d).c.v / 65536)
def frameN (a b c d:Wd) (s f g fl:Int):List Nat:=sealN (bodyN a b c d s f g fl)
def in16 (x:Int):Prop:=0≤x∧x≤65535
theorem obK {P:Program} {K:World→Prop} {ob:Ob} (h:ObOk P ob):ObOkK P K ob:=by
 cases ob with
 | call f args v => exact fun w _ => h w
 | test p xs v => exact h
theorem obsK0 {P:Program} {K:World→Prop}:∀ ob∈([]:List Ob),ObOkK P K ob:=fun ob h => by cases h
theorem obsKC {P:Program} {K:World→Prop} {a:Ob} {l:List Ob} (ha:ObOkK P K a) (hl:∀ ob∈l,ObOkK P K ob):∀ ob∈a :: l,ObOkK P K ob:=fun ob h => by
 rcases List.mem_cons.1 h with rfl | h
 · exact ha
 · exact hl ob h
theorem seenF_calls {lits:List (FuncId × AV)} {shs:List (FuncId × Sh)} {br:List (Nat × Bool)} (tab:List (EntK FTab)) {fuel:Nat} {f:FuncId} {vws:List (List AV)} {args:List AV} {ins:List Value} {t:Bool} {cas:List CA} {obs:List Ob}
 (h:runS (cxV lits shs br vws) (tabK tab) fuel f vws args ins = some (t,cas,obs)) (hg:goodL ins) (ho:∀ ob∈obs,ObOkK Tryz.prog FTab ob) (w:World) (hw:FTab w) (ss:List Value)
 (hss:∀ (i:Nat) cs,vws[i]? = some cs→∃ v,ss[i]? = some v∧Sl w v (concL (getE ins) cs)) (h1:∀ v∈ss,v.oneCell' = true) {vals:List Value} (hvs:concL (E0 (ρS ins ss)) args = vals) :
 Calls Tryz.prog f vals.toArray w fun e w' => (∃ us,ArgsOk [] w' us cas∧e = .returned (outV t us))∧Chg w w' [] :=
 seen_calls (cx:=cxV lits shs br vws) (by kernel_rfl) (fun t n g h => by cases h) (tabK_ok tab) rfl h hg ho w [] (fun k hk => by simp at hk) (fun w1 hk => trivial) ss hss h1 hvs
def rStepE:Ent where
 f:=213
 fn:=fStep
 ok:=fun us v hv hg => by
  unfold fStep at hv
  split at hv
  · rename_i c b
    injection hv with hv
    subst hv
    exact ⟨goodC_step _ _,fun w => rstepI_calls c b (good_i32 (good1_int (hg (.int .i32 c) (by simp)))) (good_u8 (good1_int (hg (.int .u8 b) (by simp)))) w⟩
  · cases hv
def rSeal (l:List Int):List Int:=l ++ [IntKind.u8.wrap (IntKind.i32.wrap ((foldI 65535 l).tdiv 256)),IntKind.u8.wrap (IntKind.i32.wrap ((foldI 65535 l).tmod 256))]
theorem tdivP {x k:Int} (hx:0≤x) (hk:0≤k):x.tdiv k = x / k:=Int.tdiv_eq_ediv_of_nonneg hx
theorem tmodP {x k:Int} (hx:0≤x):x.tmod k = x % k:=Int.tmod_eq_emod_of_nonneg hx
theorem rSeal_nat (l:List Nat):rSeal (nI l) = nI (sealN l):=by
 have h:=foldI_nat l 65535 (by decide)
 have h':foldI 65535 (nI l) = (foldN 65535 l:Nat):=h
 have hl:=foldN_lt (c:=65535) (by decide) l
 unfold rSeal sealN
 rw [h',tdivP (by omega) (by decide),tmodP (by omega),IntKind.wrap_u8,IntKind.wrap_u8,IntKind.wrap_i32,IntKind.wrap_i32]
 unfold nI
 have e1:(((foldN 65535 l:Nat):Int) / 256 + 2147483648) % 4294967296 - 2147483648 = ((foldN 65535 l / 256:Nat):Int):=by omega
 have e2:(((foldN 65535 l:Nat):Int) % 256 + 2147483648) % 4294967296 - 2147483648 = ((foldN 65535 l % 256:Nat):Int):=by omega
 rw [List.map_append,e1,e2,show ((foldN 65535 l / 256:Nat):Int) % 256 = ((foldN 65535 l / 256:Nat):Int) by omega,show ((foldN 65535 l % 256:Nat):Int) % 256 = ((foldN 65535 l % 256:Nat):Int) by omega]
 rfl
theorem wdB (x:Wd):-2147483648≤x.v∧x.v≤2147483647:=by have:=x.ok; unfold In32 at this; exact this
def pairI (h l:Int):Int:=(256 * h + l + 32768) % 65536 - 32768
def pairX (h l:Int):Int:=IntKind.i64.wrap (IntKind.i64.wrap (256 * IntKind.i64.wrap h) + IntKind.i64.wrap l)
set_option maxRecDepth 100000 in
theorem pair_run0 (h l:Int):runP (cxR [] [(131,.one)] [(7,false)]) (tabOf [modE]) 400 40 [.opq 0,.opq 1] [.int .u8 h,.int .u8 l] = some (.int .i32 (IntKind.i32.wrap (pairX h l % 65536)),[oGeq 2 .i64 (pairX h l % 65536) 32768 false]):=by kernel_rfl
set_option maxRecDepth 100000 in
theorem pair_run1 (h l:Int):runP (cxR [] [(131,.one)] [(7,true)]) (tabOf [modE]) 400 40 [.opq 0,.opq 1] [.int .u8 h,.int .u8 l] = some (.int .i32 (IntKind.i32.wrap (IntKind.i64.wrap (pairX h l % 65536 - 65536))),[oGeq 2 .i64 (pairX h l % 65536) 32768 true]):=by kernel_rfl
theorem rpair_calls (h l:Int) (hh:0≤h∧h≤255) (hl:0≤l∧l≤255) (w:World):Calls Tryz.prog 40 #[.int .u8 h,.int .u8 l] w fun e w' => e = .returned (.int .i32 (pairI h l))∧Chg w w' []:=by
 have e:pairX h l = 256 * h + l:=by
  unfold pairX
  rw [show IntKind.i64.wrap h = h by rw [IntKind.wrap_i64]; omega,show IntKind.i64.wrap l = l by rw [IntKind.wrap_i64]; omega,show IntKind.i64.wrap (256 * h) = 256 * h by rw [IntKind.wrap_i64]; omega,IntKind.wrap_i64]
  omega
 have hg:goodL [.int .u8 h,.int .u8 l]:=fun v hv => by
  simp at hv
  rcases hv with rfl | rfl
  · exact good_u8' hh
  · exact good_u8' hl
 by_cases hc:32768≤(256 * h + l) % 65536
 · have:=cxR_calls _ (pair_run1 h l) hg (obs1 (oGeq_ok (by rw [e]; simpa using hc))) w
   rw [e,show IntKind.i32.wrap (IntKind.i64.wrap ((256 * h + l) % 65536 - 65536)) = pairI h l by unfold pairI; rw [IntKind.wrap_i64,IntKind.wrap_i32]; omega] at this
   exact this
 · have:=cxR_calls _ (pair_run0 h l) hg (obs1 (oGeq_ok (by rw [e]; simpa using hc))) w
   rw [e,show IntKind.i32.wrap ((256 * h + l) % 65536) = pairI h l by unfold pairI; rw [IntKind.wrap_i32]; omega] at this
   exact this
def fPair:List Value→Option Value
 | [.int .u8 h,.int .u8 l] => some (.int .i32 (pairI h l))
 | _ => none
theorem pairI_in (h l:Int):-2147483648≤pairI h l∧pairI h l≤2147483647:=by unfold pairI; omega
def rPairE:Ent where
 f:=40
 fn:=fPair
 ok:=fun us v hv hg => by
  unfold fPair at hv
  split at hv
  · rename_i h l
    injection hv with hv
    subst hv
    exact ⟨.inl (.inl (good_i32' (pairI_in h l))),fun w => rpair_calls h l (good_u8 (good1_int (hg (.int .u8 h) (by simp)))) (good_u8 (good1_int (hg (.int .u8 l) (by simp)))) w⟩
  · cases hv
def vb (B:Nat→Int) (n:Nat):List Value:=(List.range n).map fun i => .int .u8 (B i)
def smp (B:Nat→Int) (i:Nat):Wd:=kW (pairI (B (2 * i)) (B (2 * i + 1)))
def nextK (a b c d:Wd) (B:Nat→Int):Q4:=sensedW (kW a.v) (kW b.v) (kW c.v) (kW d.v) (smp B 0) (smp B 1) (smp B 2) (smp B 3) (smp B 4) (smp B 5) (smp B 6) (smp B 7) (smp B 8)
def nextF (B:Nat→Int):Int:=flagsI (sensedA (smp B 3) (smp B 4) (smp B 5)) (sensedM (smp B 6) (smp B 7) (smp B 8))
def front (B:Nat→Int) (n:Nat):List Int:=(List.range n).map B
end Go.Proofs.YtjcgiddgafjdpaaGreatDoor.Xi
