/- Texts of this claim, side by side: ModelA, ModelB, EqS, ModelC, ModelD, ModelE, ModelF, ModelG. -/
import Derived.Test.YtjcgiddgafjdpaaGreatDoorEntK
import Derived.Test.YtjcgiddgafjdpaaGreatDoorFQ17
/- model.Tell, as a run. -/
namespace Go.Proofs.YtjcgiddgafjdpaaGreatDoor.Xi
open Go Go.RowKit
set_option linter.unusedVariables false
theorem anT (T:TypeId) (k:IntKind) (a b:Int):u_ Tryz.prog (.bin .neq T) [.int k a,.int k b] (.bool (a != b)):=fun x y w => by simp [eqGuard,binOp,Op.intCmp]
def stV (a b c d:Wd) (s f g:Int):Value:=.agg #[.int .i32 a.v,.int .i32 b.v,.int .i32 c.v,.int .i32 d.v,.int .i64 s,.int .i64 f,.int .i64 g]
def foldI (c:Int) (l:List Int):Int:=l.foldl rX c
end Go.Proofs.YtjcgiddgafjdpaaGreatDoor.Xi

/- model.Tell: what a frame is, in numbers. -/
namespace Go.Proofs.YtjcgiddgafjdpaaGreatDoor.Xi
open Go Go.RowKit Go.Deep
set_option linter.unusedVariables false
def aV (x:Int) (k:Int):Nat:=(x / k % 256).toNat
def b2 (x:Int):List Nat:=[aV x 256,aV x 1]
def b4 (x:Int):List Nat:=[aV x 16777216,aV x 65536,aV x 256,aV x 1]
theorem qG (x k:Int):aV x k < 256:=by unfold aV; omega
def nI (l:List Nat):List Int:=l.map fun (x:Nat) => (x:Int)
theorem Nz:∀ (l:List Nat) (c:Nat),c < 65536→foldI c (nI l) = (iH c l:Nat)
 | [],c,_ => rfl
 | x :: l,c,h => by
  show foldI (rX c x) (nI l) = _
  rw [ab3 c x h,Nz l _ (Gu _ _)]
  rfl
def OX (a b c d:Wd) (s f g fl:Int):List Nat:=[1,(fl + (bif pq a b c d then 8 else 0)).toNat] ++ b2 s ++ b2 f ++ b2 g ++ b4 a.v ++ b4 b.v ++ b4 c.v ++ b4 d.v ++ b2 ((jH a b c d).a.v / 65536) ++ b2 ((jH a b c d).b.v / 65536) ++ b2 ((jH a b c d).c.v / 65536)
def acd (a b c d:Wd) (s f g fl:Int):List Nat:=wU (OX a b c d s f g fl)
def vI (x:Int):Prop:=0≤x∧x≤65535
theorem obK {P:Program} {K:World→Prop} {ob:Ob} (h:lX P ob):qg P K ob:=by
 cases ob with
 | call f args v => exact fun w _ => h w
 | test p xs v => exact h
theorem anU {P:Program} {K:World→Prop}:∀ ob∈([]:List Ob),qg P K ob:=fun ob h => by cases h
theorem Zm {P:Program} {K:World→Prop} {a:Ob} {l:List Ob} (ha:qg P K a) (hl:∀ ob∈l,qg P K ob):∀ ob∈a :: l,qg P K ob:=fun ob h => by
 rcases List.mem_cons.1 h with rfl | h
 · exact ha
 · exact hl ob h
theorem U6 {lits:List (FuncId × AV)} {shs:List (FuncId × Sh)} {br:List (Nat × Bool)} (tab:List (TA J7)) {fuel:Nat} {f:FuncId} {vws:List (List AV)} {args:List AV} {ins:List Value} {t:Bool} {cas:List CA} {obs:List Ob}
 (h:YN (cxV lits shs br vws) (TB tab) fuel f vws args ins = some (t,cas,obs)) (hg:eG ins) (ho:∀ ob∈obs,qg Tryz.prog J7 ob) (w:World) (hw:J7 w) (ss:List Value)
 (hss:∀ (i:Nat) cs,vws[i]? = some cs→∃ v,ss[i]? = some v∧Sl w v (aA (dL ins) cs)) (h1:∀ v∈ss,v.oneCell' = true) {vals:List Value} (hvs:aA (E0 (ρS ins ss)) args = vals) :
 Calls Tryz.prog f vals.toArray w fun e w' => (∃ us,dQ [] w' us cas∧e = .returned (RZ t us))∧ah w w' [] :=
 Jq (cx:=cxV lits shs br vws) (by kernel_rfl) (fun t n g h => by cases h) (WE tab) rfl h hg ho w [] (fun k hk => by simp at hk) (fun w1 hk => trivial) ss hss h1 hvs
def al_:iM where
 f:=213
 fn:=afY
 ok:=fun us v hv hg => by
  unfold afY at hv
  split at hv
  · rename_i c b
    injection hv with hv
    subst hv
    exact ⟨Y4 _ _,fun w => Tz c b (aeN (eY (hg (.int .i32 c) (by simp)))) (Lr (eY (hg (.int .u8 b) (by simp)))) w⟩
  · cases hv
def OY (l:List Int):List Int:=l ++ [IntKind.u8.wrap (IntKind.i32.wrap ((foldI 65535 l).tdiv 256)),IntKind.u8.wrap (IntKind.i32.wrap ((foldI 65535 l).tmod 256))]
theorem anV {x k:Int} (hx:0≤x) (hk:0≤k):x.tdiv k = x / k:=Int.tdiv_eq_ediv_of_nonneg hx
theorem anW {x k:Int} (hx:0≤x):x.tmod k = x % k:=Int.tmod_eq_emod_of_nonneg hx
theorem NC (l:List Nat):OY (nI l) = nI (wU l):=by
 have h:=Nz l 65535 (by decide)
 have h':foldI 65535 (nI l) = (iH 65535 l:Nat):=h
 have hl:=O9 (c:=65535) (by decide) l
 unfold OY wU
 rw [h',anV (by omega) (by decide),anW (by omega),IntKind.wrap_u8,IntKind.wrap_u8,IntKind.wrap_i32,IntKind.wrap_i32]
 unfold nI
 have e1:(((iH 65535 l:Nat):Int) / 256 + 2147483648) % 4294967296 - 2147483648 = ((iH 65535 l / 256:Nat):Int):=by omega
 have e2:(((iH 65535 l:Nat):Int) % 256 + 2147483648) % 4294967296 - 2147483648 = ((iH 65535 l % 256:Nat):Int):=by omega
 rw [List.map_append,e1,e2,show ((iH 65535 l / 256:Nat):Int) % 256 = ((iH 65535 l / 256:Nat):Int) by omega,show ((iH 65535 l % 256:Nat):Int) % 256 = ((iH 65535 l % 256:Nat):Int) by omega]
 rfl
theorem wdB (x:Wd):-2147483648≤x.v∧x.v≤2147483647:=by have:=x.ok; unfold aB at this; exact this
def jS (h l:Int):Int:=(256 * h + l + 32768) % 65536 - 32768
def Fz (h l:Int):Int:=IntKind.i64.wrap (IntKind.i64.wrap (256 * IntKind.i64.wrap h) + IntKind.i64.wrap l)
set_option maxRecDepth 100000 in
theorem ace (h l:Int):jm (mW [] [(131,.one)] [(7,false)]) (fQ [TJ]) 400 40 [.opq 0,.opq 1] [.int .u8 h,.int .u8 l] = some (.int .i32 (IntKind.i32.wrap (Fz h l % 65536)),[Ie 2 .i64 (Fz h l % 65536) 32768 false]):=by kernel_rfl
set_option maxRecDepth 100000 in
theorem acf (h l:Int):jm (mW [] [(131,.one)] [(7,true)]) (fQ [TJ]) 400 40 [.opq 0,.opq 1] [.int .u8 h,.int .u8 l] = some (.int .i32 (IntKind.i32.wrap (IntKind.i64.wrap (Fz h l % 65536 - 65536))),[Ie 2 .i64 (Fz h l % 65536) 32768 true]):=by kernel_rfl
theorem U7 (h l:Int) (hh:0≤h∧h≤255) (hl:0≤l∧l≤255) (w:World):Calls Tryz.prog 40 #[.int .u8 h,.int .u8 l] w fun e w' => e = .returned (.int .i32 (jS h l))∧ah w w' []:=by
 have e:Fz h l = 256 * h + l:=by
  unfold Fz
  rw [show IntKind.i64.wrap h = h by rw [IntKind.wrap_i64]; omega,show IntKind.i64.wrap l = l by rw [IntKind.wrap_i64]; omega,show IntKind.i64.wrap (256 * h) = 256 * h by rw [IntKind.wrap_i64]; omega,IntKind.wrap_i64]
  omega
 have hg:eG [.int .u8 h,.int .u8 l]:=fun v hv => by
  simp at hv
  rcases hv with rfl | rfl
  · exact Ic hh
  · exact Ic hl
 by_cases hc:32768≤(256 * h + l) % 65536
 · have:=bM _ (acf h l) hg (Cc (w_ (by rw [e]; simpa using hc))) w
   rw [e,show IntKind.i32.wrap (IntKind.i64.wrap ((256 * h + l) % 65536 - 65536)) = jS h l by unfold jS; rw [IntKind.wrap_i64,IntKind.wrap_i32]; omega] at this
   exact this
 · have:=bM _ (ace h l) hg (Cc (w_ (by rw [e]; simpa using hc))) w
   rw [e,show IntKind.i32.wrap ((256 * h + l) % 65536) = jS h l by unfold jS; rw [IntKind.wrap_i32]; omega] at this
   exact this
def af5:List Value→Option Value
 | [.int .u8 h,.int .u8 l] => some (.int .i32 (jS h l))
 | _ => none
theorem ae3 (h l:Int):-2147483648≤jS h l∧jS h l≤2147483647:=by unfold jS; omega
def ama:iM where
 f:=40
 fn:=af5
 ok:=fun us v hv hg => by
  unfold af5 at hv
  split at hv
  · rename_i h l
    injection hv with hv
    subst hv
    exact ⟨.inl (.inl (Nu (ae3 h l))),fun w => U7 h l (Lr (eY (hg (.int .u8 h) (by simp)))) (Lr (eY (hg (.int .u8 l) (by simp)))) w⟩
  · cases hv
def vb (B:Nat→Int) (n:Nat):List Value:=(List.range n).map fun i => .int .u8 (B i)
def yx (B:Nat→Int) (i:Nat):Wd:=kW (jS (B (2 * i)) (B (2 * i + 1)))
def nextK (a b c d:Wd) (B:Nat→Int):Q4:=Wp (kW a.v) (kW b.v) (kW c.v) (kW d.v) (yx B 0) (yx B 1) (yx B 2) (yx B 3) (yx B 4) (yx B 5) (yx B 6) (yx B 7) (yx B 8)
def OZ (B:Nat→Int):Int:=ab_ (wY (yx B 3) (yx B 4) (yx B 5)) (wZ (yx B 6) (yx B 7) (yx B 8))
def front (B:Nat→Int) (n:Nat):List Int:=(List.range n).map B
end Go.Proofs.YtjcgiddgafjdpaaGreatDoor.Xi
