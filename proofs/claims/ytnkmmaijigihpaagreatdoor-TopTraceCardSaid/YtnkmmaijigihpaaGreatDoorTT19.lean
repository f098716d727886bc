/- Texts of this claim, side by side: ModelH, ModelI, ModelK. -/
import Derived.Test.YtnkmmaijigihpaaGreatDoorTT14
import Derived.Lib.ItoaNum
import Derived.Test.YtnkmmaijigihpaaGreatDoorTT6
import Derived.Lib.SlicesS
set_option linter.unusedVariables false
set_option maxRecDepth 100000
namespace Go.Proofs.YtnkmmaijigihpaaGreatDoor
namespace Xi
open Go Go.RowKit
inductive PA where
 | w (x:Wd)
 | a (l:List Wd)
def PA.val:PA->Value
 | .w x => .int .i32 x.v
 | .a l => .agg (l.map fun x => .int .i32 x.v).toArray
def pws:List Value->Option (List Wd)
 | [] => some []
 | .int .i32 n :: l => match pws l with | some r => some (kW n :: r) | none => none
 | _ :: _ => none
def pas:List Value->Option (List PA)
 | [] => some []
 | .int .i32 n :: l => match pas l with | some r => some (.w (kW n) :: r) | none => none
 | .agg ds :: l => match pws ds.toList with
  | some q => match pas l with | some r => some (.a q :: r) | none => none
  | none => none
 | _ :: _ => none
def fP (R:List PA->Option Value) (us:List Value):Option Value:=match pas us with | some ps => R ps | none => none
def wl (l:List Wd):List Value:=l.map fun x => .int .i32 x.v
structure I3 where
 x:Int
 y:Int
 a:Int
end Xi

set_option maxHeartbeats 8000000
section
open Go.RowKit Go.Deep
theorem acU {i:Nat} (h:i < 16):2 ^ i < 65536:=by
 have:=Nat.pow_le_pow_right (n:=2) (by omega) (show i<=15 by omega);omega
theorem wrapN (n:Nat) (h:n<=100000):IntKind.i64.wrap (n:Int) = (n:Int):=by rw [IntKind.wrap_i64]; omega
theorem KJ (a b:Nat) (ha:a < 65536) (hb:b < 65536) (w:World) :
 Calls Tryz.prog 192 #[.int .i64 a,.int .i64 b] w fun e w' => e = .returned (.int .i64 ((a ^^^ b:Nat):Int))/\ah w w' []:=by
 have HC:=hide (ah.refl w []);go_enter Tryz.func192,Tryz.ntmps192
 go_wp2_with fail
 go_loopw [5,6] (fun o m wr => ∃ i:Nat,i<=16/\o = .int .i64 (((a ^^^ b) % 2 ^ i:Nat):Int)/\m = .int .i64 ((2 ^ i:Nat):Int)/\Hid (ah w wr [])) (fun o m _ => 65537 - (intOf m).toNat)
 case atStart => exact ⟨0,by omega,by simp [Nat.mod_one],rfl,HC⟩
 case round =>
  clear HC;obtain ⟨i,hi,rfl,rfl,HC⟩:=hrel;by_cases hlt:i < 16
  . have hp:=acU hlt
    have hp0:0 < 2 ^ i:=Nat.pow_pos (by omega);have hm:=afL a b i;have hs:2 ^ (i + 1) = 2 * 2 ^ i:=by rw [Nat.pow_succ,Nat.mul_comm]
    have hl:=Nat.mod_lt (a ^^^ b) hp0;have hi1:i + 1<=16:=by omega
    rw [hs] at hm;have REL:=hide (show ∃ j:Nat,j<=16/\(a ^^^ b) % (2 * 2 ^ i) = (a ^^^ b) % 2 ^ j/\2 * 2 ^ i = 2 ^ j from ⟨i + 1,hi1,by rw [hs],hs.symm⟩);clear hs hi hi1 hlt;generalize 2 ^ i = p at *;have k0:decide ((p:Int) < 65536) = true:=by simp; omega
    have da:(a:Int).tdiv p = ((a / p:Nat):Int):=by rw [Int.ofNat_tdiv]
    have db:(b:Int).tdiv p = ((b / p:Nat):Int):=by rw [Int.ofNat_tdiv]
    have p0:((p:Int) == 0) = false:=by simp; omega
    have p1:¬ (p:Int) = 0:=by omega
    have la:a / p<=a:=Nat.div_le_self _ _;have lb:b / p<=b:=Nat.div_le_self _ _;have wa:=wrapN (a / p) (by omega);have wb:=wrapN (b / p) (by omega);have ma:((a / p:Nat):Int).tmod 2 = ((a / p % 2:Nat):Int):=by rw [Int.ofNat_tmod]; rfl
    have mb:((b / p:Nat):Int).tmod 2 = ((b / p % 2:Nat):Int):=by rw [Int.ofNat_tmod]; rfl
    have hne:(((a / p % 2:Nat):Int) != ((b / p % 2:Nat):Int)) = !(a / p % 2 == b / p % 2):=bne_cast _ _
    have FIN:∀ {o':Int},o' = (((a ^^^ b) % (2 * p):Nat):Int)->∀ w1,Hid (ah w w1 [])->∃ i,i<=16/\Value.int IntKind.i64 o' = Value.int IntKind.i64 (((a ^^^ b) % 2 ^ i:Nat):Int)/\Value.int IntKind.i64 (2 * (p:Int)) = Value.int IntKind.i64 ((2 ^ i:Nat):Int)/\Hid (ah w w1 []):=fun {o'} ho w1 hw => by
     obtain ⟨j,h1,h2,h3⟩:=REL.out;exact ⟨j,h1,by rw [ho,h2],by rw [<- h3]; rfl,hw⟩
    clear REL
    cases he:a / p % 2 == b / p % 2 with
    | true =>
     rw [he] at hne;rw [if_pos (by simpa using he)] at hm;have hm':(((a ^^^ b) % (2 * p):Nat):Int) = (((a ^^^ b) % p:Nat):Int):=by rw [hm]; rfl
     have F:=hide (FIN hm'.symm);clear FIN hm hm' he la lb hl hp0;generalize ((a / p % 2:Nat):Int) = A2 at *;generalize ((b / p % 2:Nat):Int) = B2 at *;generalize ((a / p:Nat):Int) = A at *;generalize ((b / p:Nat):Int) = B at *;generalize (((a ^^^ b) % p:Nat):Int) = o at *;go_wp2_with fail
     go_quiet (fail)
     go_wp2_with fail
     go_roundw
     case rel => exact F.out _ (hide (HC.out.drewN _))
     case measure => simp [intOf]; omega
    | false =>
     rw [he] at hne;rw [if_neg (by simpa using he)] at hm;have hm':(((a ^^^ b) % (2 * p):Nat):Int) = (((a ^^^ b) % p:Nat):Int) + (p:Int):=by rw [hm]; rfl
     have hol:(a ^^^ b) % p < 65536:=by omega
     have F:=hide (FIN hm'.symm);clear FIN hm hm' he la lb hl hp0;generalize ((a / p % 2:Nat):Int) = A2 at *;generalize ((b / p % 2:Nat):Int) = B2 at *;generalize ((a / p:Nat):Int) = A at *;generalize ((b / p:Nat):Int) = B at *;generalize (a ^^^ b) % p = o at *;go_wp2_with fail
     go_quiet (fail)
     go_wp2_with fail
     go_roundw
     case rel =>
      exact F.out _ (hide (HC.out.drewN _))
     case measure => simp [intOf]; omega
  . obtain rfl:i = 16:=by omega
    have hx:(a ^^^ b) % 2 ^ 16 = a ^^^ b:=Nat.mod_eq_of_lt (Nat.xor_lt_two_pow (by omega) (by omega));rw [hx,show ((2 ^ 16:Nat):Int) = 65536 from rfl];generalize hO:(((a ^^^ b):Nat):Int) = o at *;have O:=hide hO;clear hO;go_wp2_with fail
    go_ret;exact ⟨O.out.symm ▸ rfl,HC.out⟩
theorem ZR (c:Nat) (C:Int) (b:Nat) (hc:c < 65536) (hC:-2147483648<=C/\C<=2147483647) (he:C % 65536 = c) (hb:b < 256) (w:World) :
 Calls Tryz.prog 151 #[.int .i32 C,.int .u8 b] w fun e w' => e = .returned (.int .i32 (pG c b:Nat))/\ah w w' []:=by
 have hx0:c ^^^ (256 * b) < 65536:=Nat.xor_lt_two_pow (n:=16) hc (by omega);have HM:=hide (EP C 65536 w (by omega) (by omega));rw [he] at HM;have e1:wrap64 (256 * (b:Int)) = ((256 * b:Nat):Int):=by unfold wrap64; omega
 have e2:IntKind.i64.wrap (b:Int) = b:=wrapN b (by omega);have e3:IntKind.i64.wrap C = C:=by rw [IntKind.wrap_i64]; omega
 have HX:=hide (KJ c (256 * b) hc (by omega) w);rw [Oz hc hb];generalize c ^^^ (256 * b) = x0 at *;clear he;go_enter Tryz.func151,Tryz.ntmps151
 go_wp2_with fail
 refine HM.out.mono ?_;rintro e w1 ⟨rfl,rfl⟩;go_wp2_with fail
 refine HX.out.mono ?_;rintro e w1 ⟨rfl,hc1⟩;have HC:=hide hc1;clear hc1 HX HM;clear e1 e2 e3 hc hb hC;go_wp2_with fail
 go_loopw [5,6] (fun x m wr => ∃ i:Nat,i<=8/\x = .int .i64 ((kD i x0:Nat):Int)/\m = .int .i64 ((i:Nat):Int)/\Hid (ah w wr [])) (fun x m _ => 8 - (intOf m).toNat)
 case atStart => exact ⟨0,by omega,rfl,rfl,HC⟩
 case round =>
  clear HC;obtain ⟨i,hi,rfl,rfl,HC⟩:=hrel;by_cases hlt:i < 8
  . have hx:=amF hx0 i
    have hn:kD (i + 1) x0 = lZ (kD i x0):=rfl;have k0:decide ((i:Int) < 8) = true:=by simp; omega
    have ei:wrap64 ((i:Int) + 1) = ((i + 1:Nat):Int):=by unfold wrap64; omega
    by_cases hg:32768<=kD i x0
    . have hb1:lZ (kD i x0) = (2 * kD i x0 % 65536) ^^^ 4129:=by unfold lZ; rw [if_pos hg]
      rw [hb1] at hn;have HX:=hide (KJ (2 * kD i x0 % 65536) 4129 (Nat.mod_lt _ (by omega)) (by omega) wr);have kg:decide (((kD i x0:Nat):Int) >= 32768) = true:=by simp; omega
      have m1:(2 * ((kD i x0:Nat):Int)).tmod 65536 = ((2 * kD i x0 % 65536:Nat):Int):=by rw [Int.tmod_eq_emod_of_nonneg (by omega)]; omega
      have m2:2 * ((kD i x0:Nat):Int) % 65536 = ((2 * kD i x0 % 65536:Nat):Int):=by omega
      have w2:wrap64 (2 * ((kD i x0:Nat):Int)) = 2 * ((kD i x0:Nat):Int):=by unfold wrap64; omega
      have N:=hide hn;clear hb1 hn;generalize ((2 * kD i x0 % 65536:Nat):Int) = M at *;generalize kD i x0 = x at *;go_wp2_with fail
      refine HX.out.mono ?_;rintro e w2 ⟨rfl,hc2⟩;have HC2:=hide (HC.out.trans hc2 (D:=[]) (by simp));rw [<- N.out];clear hc2 HX N;go_wp2_with fail
      go_roundw
      case rel => exact ⟨i + 1,by omega,rfl,by go_num,HC2⟩
      case measure => simp [intOf]; omega
    . have hb1:lZ (kD i x0) = 2 * kD i x0 % 65536:=by unfold lZ; rw [if_neg hg]
      rw [hb1] at hn;have kg:decide (((kD i x0:Nat):Int) >= 32768) = false:=by simp; omega
      have m1:(2 * ((kD i x0:Nat):Int)).tmod 65536 = ((kD (i + 1) x0:Nat):Int):=by rw [Int.tmod_eq_emod_of_nonneg (by omega),hn]; omega
      have m2:2 * ((kD i x0:Nat):Int) % 65536 = ((kD (i + 1) x0:Nat):Int):=by rw [hn]; omega
      have w2:wrap64 (2 * ((kD i x0:Nat):Int)) = 2 * ((kD i x0:Nat):Int):=by unfold wrap64; omega
      clear hb1 hn;generalize hY:((kD (i + 1) x0:Nat):Int) = y at *;have Y:=hide hY;clear hY;generalize kD i x0 = x at *;go_wp2_with fail
      go_roundw
      case rel => exact ⟨i + 1,by omega,by rw [<- Y.out],by go_num,HC⟩
      case measure => simp [intOf]; omega
  . obtain rfl:i = 8:=by omega
    rw [aov];have hl:EO x0 < 65536:=ai7 _;have e4:IntKind.i32.wrap ((EO x0:Nat):Int) = ((EO x0:Nat):Int):=by rw [IntKind.wrap_i32]; omega
    generalize hO:((EO x0:Nat):Int) = o at *;have O:=hide hO;clear hO;go_wp2_with fail
    go_ret;exact ⟨O.out.symm ▸ rfl,HC.out⟩
end

section
open Go.RowKit Go.Deep
def rY (c b:Int):Int:=(pG (c % 65536).toNat b.toNat:Nat)
theorem acV (n b:Nat) (h:n < 65536):rY n b = (pG n b:Nat):=by
 unfold rY;rw [show ((n:Int) % 65536).toNat = n by omega,show (b:Int).toNat = b by omega]
theorem afM (c b:Int):0<=rY c b/\rY c b < 65536:=by
 unfold rY;have:=IC (c % 65536).toNat b.toNat;omega
set_option maxHeartbeats 1000000 in
theorem Ux (c b:Int) (hc:-2147483648<=c/\c<=2147483647) (hb:0<=b/\b<=255) (w:World) :
 Calls Tryz.prog 151 #[.int .i32 c,.int .u8 b] w fun e w' => e = .returned (.int .i32 (rY c b))/\ah w w' []:=by
 obtain ⟨b,rfl⟩:∃ n:Nat,b = n:=⟨b.toNat,by omega⟩
 have h:=ZR (c % 65536).toNat c b (by omega) hc (by omega) (by omega) w;unfold rY;rw [show (b:Int).toNat = b by omega];exact h
end
namespace Xi
open Go Go.RowKit
structure Uy (K:World->Prop) where
 f:FuncId
 fn:List Value->Option Value
 ok:∀ us v,fn us = some v->(∀ u∈us,good1 u)->uJ v/\∀ w:World,K w->Calls Tryz.prog f us.toArray w fun e w' => e = .returned v/\ah w w' []
def He.k {K:World->Prop} (e:He):Uy K:=⟨e.f,e.fn,fun us v h hg => ⟨(e.ok us v h hg).1,fun w _ => (e.ok us v h hg).2 w⟩⟩
def MW {K:World->Prop}:List (Uy K)->Tab
 | [],_,_ => none
 | e :: l,f,us => bif Nat.beq e.f f then e.fn us else MW l f us
theorem XB {K:World->Prop}:∀ l:List (Uy K),QW Tryz.prog K (MW l)
 | [],f,us,v,h,hg => by cases h
 | e :: l,f,us,v,h,hg => by
  unfold MW at h
  cases hb:Nat.beq e.f f with
  | true =>
   rw [hb] at h;obtain rfl:=beq_iff.1 hb;exact e.ok us v h hg
  | false =>
   rw [hb] at h;exact XB l f us v h hg
def ag6:List Value->Option Value
 | [.int .i32 c,.int .u8 b] => some (.int .i32 (rY c b))
 | _ => none
theorem MX {b:Int} (h:fC (.int .u8 b)):0<=b/\b<=255:=by
 simp only [fC,Lit.wf,IntKind.min,IntKind.max,IntKind.signed,IntKind.bits] at h;simp at h;omega
theorem Jd {b:Int} (h:0<=b/\b<=255):fC (.int .u8 b):=by
 simp only [fC,Lit.wf,IntKind.min,IntKind.max,IntKind.signed,IntKind.bits];simp;omega
theorem afN {b:Int} (h:fC (.int .i32 b)):-2147483648<=b/\b<=2147483647:=by
 have:=Zk h;unfold aC at this;omega
theorem OA {b:Int} (h:-2147483648<=b/\b<=2147483647):fC (.int .i32 b):=by
 simp only [fC,Lit.wf,IntKind.min,IntKind.max,IntKind.signed,IntKind.bits];simp;omega
theorem ZT (c b:Int):uJ (.int .i32 (rY c b)):=.inl (.inl (OA (by have:=afM c b; omega)))
end Xi

namespace Xi
open Go Go.RowKit
theorem ZV (T:TypeId) (k:IntKind) (a b:Int):zT Tryz.prog (.bin .neq T) [.int k a,.int k b] (.bool (a != b)):=fun x y w => by simp [eqGuard,binOp,Op.intCmp]
def stV (a b c d:Wd) (s f g:Int):Value:=.agg #[.int .i32 a.v,.int .i32 b.v,.int .i32 c.v,.int .i32 d.v,.int .i64 s,.int .i64 f,.int .i64 g]
def foldI (c:Int) (l:List Int):Int:=l.foldl rY c
end Xi

namespace Xi
open Go Go.RowKit Go.Deep
def aI (x:Int) (k:Int):Nat:=(x / k % 256).toNat
def b2 (x:Int):List Nat:=[aI x 256,aI x 1]
def b4 (x:Int):List Nat:=[aI x 16777216,aI x 65536,aI x 256,aI x 1]
theorem g_ (x k:Int):aI x k < 256:=by unfold aI; omega
def nI (l:List Nat):List Int:=l.map fun (x:Nat) => (x:Int)
theorem OB:∀ (l:List Nat) (c:Nat),c < 65536->foldI c (nI l) = (bP c l:Nat)
 | [],c,_ => rfl
 | x :: l,c,h => by
  show foldI (rY c x) (nI l) = _;rw [acV c x h,OB l _ (IC _ _)];rfl
def Qg (a b c d:Wd) (s f g fl:Int):List Nat:=[1,(fl + (bif jy a b c d then 8 else 0)).toNat] ++ b2 s ++ b2 f ++ b2 g ++ b4 a.v ++ b4 b.v ++ b4 c.v ++ b4 d.v ++ b2 ((eY a b c d).a.v / 65536) ++ b2 ((eY a b c d).b.v / 65536) ++ b2 ((eY a b c d).c.v / 65536)
def acX (a b c d:Wd) (s f g fl:Int):List Nat:=xw (Qg a b c d s f g fl)
def rZ (x:Int):Prop:=0<=x/\x<=65535
theorem obK {P:Program} {K:World->Prop} {ob:Ob} (h:BR P ob):o9 P K ob:=by
 cases ob with
 | call f args v => exact fun w _ => h w
 | test p xs v => exact h
theorem ag7 {P:Program} {K:World->Prop}:∀ ob∈([]:List Ob),o9 P K ob:=fun ob h => by cases h
theorem KL {P:Program} {K:World->Prop} {a:Ob} {l:List Ob} (ha:o9 P K a) (hl:∀ ob∈l,o9 P K ob):∀ ob∈a :: l,o9 P K ob:=fun ob h => by
 rcases List.mem_cons.1 h with rfl | h
 . exact ha
 . exact hl ob h
theorem jq.of_heap {w w1:World} (h:jq w) (hk:∀ k∈[3],w1.heap[k]? = w.heap[k]?):jq w1:=by
 have h' : w.var? Tryz.prog "astrolabe/crc.four" = some _ := h;show w1.var? Tryz.prog "astrolabe/crc.four" = some _;unfold World.var? at h' ⊢;rw [show Tryz.prog.globalNamed "astrolabe/crc.four" = some 3 by kernel_rfl] at h' ⊢;simp only [Option.bind_some] at h' ⊢;rw [hk _ (by simp)]; exact h'
theorem Hr {lits:List (FuncId × AV)} {shs:List (FuncId × Sh)} {br:List (Nat × Bool)} (tab:List (Uy jq)) {fuel:Nat} {f:FuncId} {vws:List (List AV)} {args:List AV} {ins:List Value} {t:Bool} {cas:List CA} {obs:List Ob}
 (h:Tj (cxV lits shs br vws) (MW tab) fuel f vws args ins = some (t,cas,obs)) (hg:iW ins) (ho:∀ ob∈obs,o9 Tryz.prog jq ob) (w:World) (hw:jq w) (ss:List Value)
 (hss:∀ (i:Nat) cs,vws[i]? = some cs->∃ v,ss[i]? = some v/\Sl w v (aB (dY ins) cs)) (h1:∀ v∈ss,v.oneCell' = true) {vals:List Value} (hvs:aB (E0 (ρS ins ss)) args = vals) :
 Calls Tryz.prog f vals.toArray w fun e w' => (∃ us,eF [] w' us cas/\e = .returned (Ti t us))/\ah w w' [] :=
 J3 (cx:=cxV lits shs br vws) (by kernel_rfl) (fun t n g h => by cases h) (XB tab) rfl h hg ho w [3] (fun k hk => by simp at hk; subst hk; exact hw.lt) (fun w1 hk => jq.of_heap hw hk) ss hss h1 hvs
theorem aqp (x0 x1 x2 x3 y0 y1 y2 y3:Int) (w:World):(Op.equalIn 9999 45 (.agg #[.int .i32 x0,.int .i32 x1,.int .i32 x2,.int .i32 x3]) (.agg #[.int .i32 y0,.int .i32 y1,.int .i32 y2,.int .i32 y3])).run Tryz.prog w = .ok (x0 == y0 && x1 == y1 && x2 == y2 && x3 == y3) w:=by
 have u3:=Tryz.underlying21;have k3:=Tryz.isAgg21;have z3:=Tryz.sizeOf21;rw [show (9999:Nat) = 9998 + 1 from rfl,Op.equalIn];simp only [Sem.run_bind,run_underlying Tryz.underlying45,Result.andThen_ok];simp only [Std.Legacy.Range.forIn_eq_forIn_range',Std.Legacy.Range.size,Nat.sub_zero,Nat.add_sub_cancel,Nat.div_one,List.range'_succ,List.range'_zero,List.forIn_cons,List.forIn_nil];go_simp;by_cases h0:x0 = y0 <;> by_cases h1:x1 = y1 <;> by_cases h2:x2 = y2 <;> by_cases h3:x3 = y3 <;> simp [h0,h1,h2,h3]
def amK:He where
 f:=151
 fn:=ag6
 ok:=fun us v hv hg => by
  unfold ag6 at hv;split at hv
  . rename_i c b
    injection hv with hv;subst hv;exact ⟨ZT _ _,fun w => Ux c b (afN (oM (hg (.int .i32 c) (by simp)))) (MX (oM (hg (.int .u8 b) (by simp)))) w⟩
  . cases hv
def Qh (l:List Int):List Int:=l ++ [IntKind.u8.wrap (IntKind.i32.wrap ((foldI 65535 l).tdiv 256)),IntKind.u8.wrap (IntKind.i32.wrap ((foldI 65535 l).tmod 256))]
theorem aoy {x k:Int} (hx:0<=x) (hk:0<=k):x.tdiv k = x / k:=Int.tdiv_eq_ediv_of_nonneg hx
theorem aoz {x k:Int} (hx:0<=x):x.tmod k = x % k:=Int.tmod_eq_emod_of_nonneg hx
theorem OC (l:List Nat):Qh (nI l) = nI (xw l):=by
 have h:=OB l 65535 (by decide);have h':foldI 65535 (nI l) = (bP 65535 l:Nat):=h;have hl:=Dk (c:=65535) (by decide) l;unfold Qh xw;rw [h',aoy (by omega) (by decide),aoz (by omega),IntKind.wrap_u8,IntKind.wrap_u8,IntKind.wrap_i32,IntKind.wrap_i32];unfold nI;have e1:(((bP 65535 l:Nat):Int) / 256 + 2147483648) % 4294967296 - 2147483648 = ((bP 65535 l / 256:Nat):Int):=by omega
 have e2:(((bP 65535 l:Nat):Int) % 256 + 2147483648) % 4294967296 - 2147483648 = ((bP 65535 l % 256:Nat):Int):=by omega
 rw [List.map_append,e1,e2,show ((bP 65535 l / 256:Nat):Int) % 256 = ((bP 65535 l / 256:Nat):Int) by omega,show ((bP 65535 l % 256:Nat):Int) % 256 = ((bP 65535 l % 256:Nat):Int) by omega];rfl
theorem wdB (x:Wd):-2147483648<=x.v/\x.v<=2147483647:=by have:=x.ok; unfold aC at this; exact this
def jA (h l:Int):Int:=(256 * h + l + 32768) % 65536 - 32768
def Gw (h l:Int):Int:=IntKind.i64.wrap (IntKind.i64.wrap (256 * IntKind.i64.wrap h) + IntKind.i64.wrap l)
theorem acZ (h l:Int):QX (cxR [] [(103,.one)] [(7,false)]) (Gi [amG]) 400 33 [.opq 0,.opq 1] [.int .u8 h,.int .u8 l] = some (.int .i32 (IntKind.i32.wrap (Gw h l % 65536)),[afO 2 .i64 (Gw h l % 65536) 32768 false]):=by kernel_rfl
theorem ac0 (h l:Int):QX (cxR [] [(103,.one)] [(7,true)]) (Gi [amG]) 400 33 [.opq 0,.opq 1] [.int .u8 h,.int .u8 l] = some (.int .i32 (IntKind.i32.wrap (IntKind.i64.wrap (Gw h l % 65536 - 65536))),[afO 2 .i64 (Gw h l % 65536) 32768 true]):=by kernel_rfl
theorem VR (h l:Int) (hh:0<=h/\h<=255) (hl:0<=l/\l<=255) (w:World):Calls Tryz.prog 33 #[.int .u8 h,.int .u8 l] w fun e w' => e = .returned (.int .i32 (jA h l))/\ah w w' []:=by
 have e:Gw h l = 256 * h + l:=by
  unfold Gw;rw [show IntKind.i64.wrap h = h by rw [IntKind.wrap_i64]; omega,show IntKind.i64.wrap l = l by rw [IntKind.wrap_i64]; omega,show IntKind.i64.wrap (256 * h) = 256 * h by rw [IntKind.wrap_i64]; omega,IntKind.wrap_i64];omega
 have hg:iW [.int .u8 h,.int .u8 l]:=fun v hv => by
  simp at hv;rcases hv with rfl | rfl
  . exact Jd hh
  . exact Jd hl
 by_cases hc:32768<=(256 * h + l) % 65536
 . have:=Oj _ (ac0 h l) hg (amH (XC (by rw [e]; simpa using hc))) w
   rw [e,show IntKind.i32.wrap (IntKind.i64.wrap ((256 * h + l) % 65536 - 65536)) = jA h l by unfold jA; rw [IntKind.wrap_i64,IntKind.wrap_i32]; omega] at this;exact this
 . have:=Oj _ (acZ h l) hg (amH (XC (by rw [e]; simpa using hc))) w
   rw [e,show IntKind.i32.wrap ((256 * h + l) % 65536) = jA h l by unfold jA; rw [IntKind.wrap_i32]; omega] at this;exact this
def ag9:List Value->Option Value
 | [.int .u8 h,.int .u8 l] => some (.int .i32 (jA h l))
 | _ => none
theorem afP (h l:Int):-2147483648<=jA h l/\jA h l<=2147483647:=by unfold jA; omega
def amL:He where
 f:=33
 fn:=ag9
 ok:=fun us v hv hg => by
  unfold ag9 at hv;split at hv
  . rename_i h l
    injection hv with hv;subst hv;exact ⟨.inl (.inl (OA (afP h l))),fun w => VR h l (MX (oM (hg (.int .u8 h) (by simp)))) (MX (oM (hg (.int .u8 l) (by simp)))) w⟩
  . cases hv
def vb (B:Nat->Int) (n:Nat):List Value:=(List.range n).map fun i => .int .u8 (B i)
def yN (B:Nat->Int) (i:Nat):Wd:=kW (jA (B (2 * i)) (B (2 * i + 1)))
def nextK (a b c d:Wd) (B:Nat->Int):Q4:=Xa (kW a.v) (kW b.v) (kW c.v) (kW d.v) (yN B 0) (yN B 1) (yN B 2) (yN B 3) (yN B 4) (yN B 5) (yN B 6) (yN B 7) (yN B 8)
def Qi (B:Nat->Int):Int:=acW (xE (yN B 3) (yN B 4) (yN B 5)) (xG (yN B 6) (yN B 7) (yN B 8))
def front (B:Nat->Int) (n:Nat):List Int:=(List.range n).map B
end Xi

namespace Xi
open Go Go.RowKit Go.Deep
structure St where
 q:Q4
 s:Int
 f:Int
 g:Int
def St.val (x:St):Value:=stV x.q.a x.q.b x.q.c x.q.d x.s x.f x.g
def St.right (x:St):Prop:=rZ x.s/\rZ x.f/\rZ x.g
def xI (xs:List Nat) (i:Nat):Int:=(xs.getD i 0:Nat)
def St.next (x:St) (xs:List Nat):St:=bif rX xs 18 then ⟨nextK x.q.a x.q.b x.q.c x.q.d (xI xs),(x.s + 1) % 65536,x.f,(x.g + 1) % 65536⟩ else ⟨x.q,(x.s + 1) % 65536,min (x.f + 1) 65535,x.g⟩
def lJ (xs:List Nat):Int:=bif rX xs 18 then Qi (xI xs) else 1
def St.frame (x:St) (fl:Int):List Nat:=acX x.q.a x.q.b x.q.c x.q.d x.s x.f x.g fl
theorem ZW {x:Int} (h:rZ x):rZ ((x + 1) % 65536):=by unfold rZ at *; omega
theorem St.xA {x:St} (h:x.right) (xs:List Nat):(x.next xs).right:=by
 obtain ⟨h1,h2,h3⟩:=h;unfold St.next
 cases rX xs 18 with
 | true => exact ⟨ZW h1,h2,ZW h3⟩
 | false => exact ⟨ZW h1,by simp only [cond_false]; unfold rZ at *; omega,h3⟩
theorem afQ (B:Nat->Int):0<=Qi B/\Qi B<=7:=by
 unfold Qi acW ZU;split <;> split <;> omega
theorem ER (xs:List Nat):0<=lJ xs/\lJ xs<=7:=by
 unfold lJ
 cases rX xs 18 with
 | true => exact afQ _
 | false => simp
theorem OD:∀ (l:List Nat) (b:ByteArray),((nI l).foldl (fun r n => r.push (UInt8.ofNat n.toNat)) b).data.toList = b.data.toList ++ l.map UInt8.ofNat
 | [],b => by simp [nI]
 | x :: l,b => by
  show ((nI l).foldl _ (b.push (UInt8.ofNat ((x:Int).toNat)))).data.toList = _;rw [OD l];simp [ByteArray.push]
theorem Uz (l:List Nat):BU (nI l) = ⟨(l.map UInt8.ofNat).toArray⟩:=by
 unfold BU;have h:=OD l ByteArray.empty;apply ByteArray.ext;apply Array.ext';rw [h];simp
theorem amM {a b:Nat} (ha:a < 256) (hb:b < 256) (h:UInt8.ofNat a = UInt8.ofNat b):a = b:=by
 have:=congrArg UInt8.toNat h;simp at this;omega
theorem XE:∀ {l m:List Nat},(∀ x∈l,x < 256)->(∀ x∈m,x < 256)->l.map UInt8.ofNat = m.map UInt8.ofNat->l = m
 | [],[],_,_,_ => rfl
 | [],_ :: _,_,_,h => by cases h
 | _ :: _,[],_,_,h => by cases h
 | x :: l,y :: m,hl,hm,h => by
  simp only [List.map_cons,List.cons.injEq] at h;rw [amM (hl x (by simp)) (hm y (by simp)) h.1,XE (fun z hz => hl z (by simp [hz])) (fun z hz => hm z (by simp [hz])) h.2]
theorem ai9 {l m:List Nat} (hl:∀ x∈l,x < 256) (hm:∀ x∈m,x < 256):((BU (nI l)).toList == (BU (nI m)).toList) = decide (l = m):=by
 by_cases h:l = m
 . subst h; simp
 . rw [decide_eq_false h,Lib.bytes_beq_false_iff]
   intro e;rw [Uz,Uz] at e;injection e with e;exact h (XE hl hm (by simpa using congrArg Array.toList e))
theorem amN (T:TypeId) (a b:ByteArray):zT Tryz.prog (.bin .neq T) [.string a,.string b] (.bool (!(a.toList == b.toList))):=fun x y w => by simp [eqGuard,binOp,Op.stringOp]
theorem UA {l:List Nat} (h:∀ x∈l,x < 256):∀ x∈xw l,x < 256:=fun x hx => by
 have:=Dk (c:=65535) (by decide) l;unfold xw at hx;rcases List.mem_append.1 hx with hx | hx
 . exact h x hx
 . simp at hx
   omega
theorem UC {xs:List Nat} (hx:∀ x∈xs,x < 256):iW (bU xs):=fun v hv => by
 obtain ⟨x,hm,rfl⟩:=List.mem_map.1 hv;have:=hx x hm;exact Jd (by omega)
def St.i64 (x:St):Prop:=(-9223372036854775808<=x.s/\x.s<=9223372036854775807)/\(-9223372036854775808<=x.f/\x.f<=9223372036854775807)/\(-9223372036854775808<=x.g/\x.g<=9223372036854775807)
theorem amO (w:World):Sl w (.slice none 0 0) (bU []):=⟨none,0,rfl,Nat.le_refl _,fun h => absurd h (by simp [bU])⟩
end Xi
end Go.Proofs.YtnkmmaijigihpaaGreatDoor
