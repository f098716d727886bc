/- Texts of this claim, side by side: RunE, RunF, RunG, RunH, RunN, RunO, RunJ, RunK. -/
import Derived.Test.YtjcgiddgafjdpaaGreatDoorFR14
import Derived.Lib.ItoaNum
import Derived.Test.YtjcgiddgafjdpaaGreatDoorFR10
import Derived.Laws.StructEq
import Derived.Laws.Tables
/- The reference's signs, picks, counts: Sign, Min, Max, Clamp, Flip, Clz. -/
namespace Go.Proofs.YtjcgiddgafjdpaaGreatDoor.Xi
open Go Go.RowKit
set_option linter.unusedVariables false
def clzO (y:Int):Nat→List Ob
 | 0 => []
 | j + 1 => oEql 2 .i64 (y / 2 ^ (31 - j) % 2) 0 true :: clzO y j
def clzB (c:Nat):List (Nat × Bool):=(List.range c).map (fun j => (33 + j,true)) ++ [(33 + c,false)]
def clzOb (y:Int) (c:Nat):List Ob:=bif Nat.blt c 32 then oEql 2 .i64 (y / 2 ^ (31 - c) % 2) 0 false :: clzO y c else clzO y 32
set_option maxRecDepth 100000 in
theorem clz_run (a:Wd):∀ c:Nat,c < 33→runP (cxR [] [(189,.agg 32)] (clzB c)) (tabOf [bitsE]) 400 266 [.opq 0] [.int .i32 a.v] = some (.int .i32 (Int.ofNat c),clzOb ((kW a.v).v % 4294967296) c)
 | 0,_ => by kernel_rfl
 | 1,_ => by kernel_rfl
 | 2,_ => by kernel_rfl
 | 3,_ => by kernel_rfl
 | 4,_ => by kernel_rfl
 | 5,_ => by kernel_rfl
 | 6,_ => by kernel_rfl
 | 7,_ => by kernel_rfl
 | 8,_ => by kernel_rfl
 | 9,_ => by kernel_rfl
 | 10,_ => by kernel_rfl
 | 11,_ => by kernel_rfl
 | 12,_ => by kernel_rfl
 | 13,_ => by kernel_rfl
 | 14,_ => by kernel_rfl
 | 15,_ => by kernel_rfl
 | 16,_ => by kernel_rfl
 | 17,_ => by kernel_rfl
 | 18,_ => by kernel_rfl
 | 19,_ => by kernel_rfl
 | 20,_ => by kernel_rfl
 | 21,_ => by kernel_rfl
 | 22,_ => by kernel_rfl
 | 23,_ => by kernel_rfl
 | 24,_ => by kernel_rfl
 | 25,_ => by kernel_rfl
 | 26,_ => by kernel_rfl
 | 27,_ => by kernel_rfl
 | 28,_ => by kernel_rfl
 | 29,_ => by kernel_rfl
 | 30,_ => by kernel_rfl
 | 31,_ => by kernel_rfl
 | 32,_ => by kernel_rfl
 | k + 33,h => absurd h (by omega)
theorem clzO_ok (y:Int) (c:Nat) (h0:0≤y) (h:y < 2 ^ (32 - c)):∀ j,j≤c→j≤32→∀ ob∈clzO y j,ObOk Tryz.prog ob
 | 0,_,_ => obs0
 | j + 1,h1,h2 => obsC (oEql_ok (by
  have hp:(2:Int) ^ (32 - c)≤2 ^ (31 - j):=by exact_mod_cast Nat.pow_le_pow_right (by omega:1≤2) (by omega:32 - c≤31 - j)
  rw [Int.ediv_eq_zero_of_lt h0 (by omega)]; rfl)) (clzO_ok y c h0 h j (by omega) (by omega))
theorem refClz (a:Wd) (w:World):Calls Tryz.prog 266 #[.int .i32 a.v] w fun e w' => e = .returned (.int .i32 (clzW a).v)∧Chg w w' []:=by
 obtain ⟨Y,hY⟩:∃ Y:Nat,a.v % 4294967296 = Y:=⟨(a.v % 4294967296).toNat,by omega⟩
 have hlt:Y < 4294967296:=by omega
 have hv:(clzW a).v = 32 - (Lib.bitLen Y:Int):=by show 32 - (Lib.bitLen (a.v % 4294967296).toNat:Int) = _; rw [hY,Int.toNat_natCast]
 rw [hv]
 by_cases h0:Y = 0
 · subst h0
   have hb:Lib.bitLen 0 = 0:=Lib.bitLenAux_zero 64
   rw [hb]
   have h:=cxR_calls _ (clz_run a 32 (by omega)) (ins1 a) (by
    rw [kW_self,hY]
    exact clzO_ok _ 32 (by omega) (by decide) 32 (by omega) (by omega)) w
   exact h
 · obtain ⟨l1,l2,l3⟩:=Lib.bitLenAux_bounds 64 Y (by omega) h0
   have hL:Lib.bitLenAux 64 Y = Lib.bitLen Y:=rfl
   rw [hL] at l1 l2 l3
   have l4:Lib.bitLen Y≤32:=by
    rcases Nat.lt_or_ge 32 (Lib.bitLen Y) with h | h
    · have:2 ^ 32≤2 ^ (Lib.bitLen Y - 1):=Nat.pow_le_pow_right (by omega) (by omega)
      omega
    · exact h
   generalize Lib.bitLen Y = n at *
   have h:=cxR_calls _ (clz_run a (32 - n) (by omega)) (ins1 a) (by
    rw [kW_self,hY]
    unfold clzOb
    rw [show Nat.blt (32 - n) 32 = true from blt_iff.2 (by omega)]
    refine obsC (oEql_ok ?_) (clzO_ok _ (32 - n) (by omega) (by rw [show 32 - (32 - n) = n by omega]; exact_mod_cast l3) _ (by omega) (by omega))
    rw [show 31 - (32 - n) = n - 1 by omega]
    have e:(Y:Int) / 2 ^ (n - 1) = 1:=by
     have:Y / 2 ^ (n - 1) = 1:=by
      have hp:2 ^ n = 2 * 2 ^ (n - 1):=by rw [← Nat.pow_succ']; congr 1; omega
      refine Nat.div_eq_of_lt_le (by omega) (by omega)
     rw [show (Y:Int) / 2 ^ (n - 1) = ((Y / 2 ^ (n - 1):Nat):Int) by simp,this]; rfl
    rw [e]; rfl) w
   have e:Int.ofNat (32 - n) = 32 - (n:Int):=by simp; omega
   rw [e] at h
   exact h
noncomputable def clzE:Ent:=ent1 266 (fun a => .int .i32 (clzW a).v) (fun _ => goodC_w _) refClz
inductive PA where
 | w (x:Wd)
 | a (l:List Wd)
def PA.val:PA→Value
 | .w x => .int .i32 x.v
 | .a l => .agg (l.map fun x => .int .i32 x.v).toArray
def pws:List Value→Option (List Wd)
 | [] => some []
 | .int .i32 n :: l => match pws l with | some r => some (kW n :: r) | none => none
 | _ :: _ => none
def pas:List Value→Option (List PA)
 | [] => some []
 | .int .i32 n :: l => match pas l with | some r => some (.w (kW n) :: r) | none => none
 | .agg ds :: l => match pws ds.toList with
  | some q => match pas l with | some r => some (.a q :: r) | none => none
  | none => none
 | _ :: _ => none
theorem pws_ok:∀ {l:List Value} {r:List Wd},pws l = some r→(∀ u∈l,goodV u)→l = r.map fun x => .int .i32 x.v
 | [],r,h,hg => by injection h with h; subst h; rfl
 | .int .i32 n :: l,r,h,hg => by
  unfold pws at h
  cases hl:pws l with
  | none => rw [hl] at h; cases h
  | some q =>
   rw [hl] at h
   injection h with h
   subst h
   rw [List.map_cons,← pws_ok hl (fun u hu => hg u (by simp [hu])),kW_good (hg (.int .i32 n) (by simp))]
 | .int .i8 _ :: _,_,h,_ => by cases h
 | .int .i16 _ :: _,_,h,_ => by cases h
 | .int .i64 _ :: _,_,h,_ => by cases h
 | .int .u8 _ :: _,_,h,_ => by cases h
 | .int .u16 _ :: _,_,h,_ => by cases h
 | .int .u32 _ :: _,_,h,_ => by cases h
 | .int .u64 _ :: _,_,h,_ => by cases h
 | .bool _ :: _,_,h,_ => by cases h
 | .float _ _ :: _,_,h,_ => by cases h
 | .complex _ _ _ :: _,_,h,_ => by cases h
 | .string _ :: _,_,h,_ => by cases h
 | .pointer _ :: _,_,h,_ => by cases h
 | .slice _ _ _ :: _,_,h,_ => by cases h
 | .map _ :: _,_,h,_ => by cases h
 | .chan _ :: _,_,h,_ => by cases h
 | .func _ _ _ :: _,_,h,_ => by cases h
 | .nilFunc :: _,_,h,_ => by cases h
 | .iface _ _ :: _,_,h,_ => by cases h
 | .nilIface :: _,_,h,_ => by cases h
 | .tuple _ :: _,_,h,_ => by cases h
 | .agg _ :: _,_,h,_ => by cases h
theorem pas_ok:∀ {l:List Value} {r:List PA},pas l = some r→(∀ u∈l,good1 u)→l = r.map PA.val
 | [],r,h,hg => by injection h with h; subst h; rfl
 | .int .i32 n :: l,r,h,hg => by
  unfold pas at h
  cases hl:pas l with
  | none => rw [hl] at h; cases h
  | some q =>
   rw [hl] at h
   injection h with h
   subst h
   rw [List.map_cons,← pas_ok hl (fun u hu => hg u (by simp [hu]))]
   show _ = Value.int .i32 (kW n).v :: l
   rw [kW_good (good1_int (hg (.int .i32 n) (by simp)))]
 | .agg ds :: l,r,h,hg => by
  unfold pas at h
  cases hd:pws ds.toList with
  | none => rw [hd] at h; cases h
  | some d =>
   rw [hd] at h
   simp only [] at h
   cases hl:pas l with
   | none => rw [hl] at h; cases h
   | some q =>
    rw [hl] at h
    injection h with h
    subst h
    have hgd:∀ u∈ds.toList,goodV u:=by
     rcases hg (.agg ds) (by simp) with h | ⟨ds',h,hd'⟩
     · cases h
     · injection h with h; subst h; exact hd'
    rw [List.map_cons,← pas_ok hl (fun u hu => hg u (by simp [hu]))]
    show _ = Value.agg (d.map fun x => .int .i32 x.v).toArray :: l
    rw [← pws_ok hd hgd]
 | .int .i8 _ :: _,_,h,_ => by cases h
 | .int .i16 _ :: _,_,h,_ => by cases h
 | .int .i64 _ :: _,_,h,_ => by cases h
 | .int .u8 _ :: _,_,h,_ => by cases h
 | .int .u16 _ :: _,_,h,_ => by cases h
 | .int .u32 _ :: _,_,h,_ => by cases h
 | .int .u64 _ :: _,_,h,_ => by cases h
 | .bool _ :: _,_,h,_ => by cases h
 | .float _ _ :: _,_,h,_ => by cases h
 | .complex _ _ _ :: _,_,h,_ => by cases h
 | .string _ :: _,_,h,_ => by cases h
 | .pointer _ :: _,_,h,_ => by cases h
 | .slice _ _ _ :: _,_,h,_ => by cases h
 | .map _ :: _,_,h,_ => by cases h
 | .chan _ :: _,_,h,_ => by cases h
 | .func _ _ _ :: _,_,h,_ => by cases h
 | .nilFunc :: _,_,h,_ => by cases h
 | .iface _ _ :: _,_,h,_ => by cases h
 | .nilIface :: _,_,h,_ => by cases h
 | .tuple _ :: _,_,h,_ => by cases h
def fP (R:List PA→Option Value) (us:List Value):Option Value:=match pas us with | some ps => R ps | none => none
def entP (f:FuncId) (R:List PA→Option Value) (h:∀ ps v,R ps = some v→goodC v∧∀ w:World,Calls Tryz.prog f (ps.map PA.val).toArray w fun e w' => e = .returned v∧Chg w w' []):Ent where
 f:=f
 fn:=fP R
 ok:=fun us v hv hg => by
  unfold fP at hv
  cases hp:pas us with
  | none => rw [hp] at hv; cases hv
  | some ps =>
   rw [hp] at hv
   have:=h ps v hv
   rw [← pas_ok hp hg] at this
   exact this
theorem goodC_2 (a b:Wd):goodC (.tuple #[.int .i32 a.v,.int .i32 b.v]):=.inr ⟨_,rfl,fun u hu => by
 simp at hu
 rcases hu with rfl | rfl
 · exact .inl (good_w _)
 · exact .inl (good_w _)⟩
def wl (l:List Wd):List Value:=l.map fun x => .int .i32 x.v
theorem goodL_l (l:List Wd):goodL (wl l):=fun v hv => by
 obtain ⟨x,_,rfl⟩:=List.mem_map.1 hv
 exact good_w x
def addK (a b:Int):Int:=(addsW (kW a) (kW b)).v
def subK (a b:Int):Int:=(subsW (kW a) (kW b)).v
def mulK (a b:Int):Int:=(mulqW (kW a) (kW b)).v
def shlK (a b:Int):Int:=(shlW (kW a) (kW b)).v
def shrK (a b:Int):Int:=(shrW (kW a) (kW b)).v
def sarK (a b:Int):Int:=(sarW (kW a) (kW b)).v
def levT0 (c:Int):Int:=IntKind.i32.wrap (c - IntKind.i32.wrap (c.tmod 2))
def levT1 (c:Int):Int:=levT0 (IntKind.i32.wrap (c - 32))
def levS:List (FuncId × Sh):=[(266,.one),(115,.one),(268,.one)]
noncomputable def levT:List Ent:=[clzE,shlE,shrE]
set_option maxRecDepth 100000 in
theorem level_run0 (a:Wd):runP (cxR [] levS [(2,true)]) (tabOf levT) 100 262 [.opq 0] [.int .i32 a.v] = some (.tuple #[.int .i32 (shrK (shlK a.v (levT1 (clzW (kW a.v)).v)) 2),.int .i32 (IntKind.i32.wrap ((levT1 (clzW (kW a.v)).v).tdiv 2))],[oGeq 21 .i32 (clzW (kW a.v)).v 32 true]):=by kernel_rfl
set_option maxRecDepth 100000 in
theorem level_run1 (a:Wd):runP (cxR [] levS [(2,false)]) (tabOf levT) 100 262 [.opq 0] [.int .i32 a.v] = some (.tuple #[.int .i32 (shrK (shlK a.v (levT0 (clzW (kW a.v)).v)) 2),.int .i32 (IntKind.i32.wrap ((levT0 (clzW (kW a.v)).v).tdiv 2))],[oGeq 21 .i32 (clzW (kW a.v)).v 32 false]):=by kernel_rfl
def rootH (x:Wd):Wd:=shrW (rootT x) (kW 1)
theorem lev_all:∀ c:Fin 32,levT0 (Int.ofNat c.val) = andI (Int.ofNat c.val) 30∧IntKind.i32.wrap ((levT0 (Int.ofNat c.val)).tdiv 2) = shrI (andI (Int.ofNat c.val) 30) 1:=by decide +kernel
theorem clz_bd (a:Wd):0≤(clzW a).v∧(clzW a).v≤32:=by
 have h:=Any.bitLen_le32 (a.v % 4294967296) (by omega) (by omega)
 show 0≤32 - (Lib.bitLen (a.v % 4294967296).toNat:Int)∧32 - (Lib.bitLen (a.v % 4294967296).toNat:Int)≤32
 omega
theorem refLevel (a:Wd) (w:World):Calls Tryz.prog 262 #[.int .i32 a.v] w fun e w' => e = .returned (.tuple #[.int .i32 (rootU a).v,.int .i32 (rootH a).v])∧Chg w w' []:=by
 have hc:=clz_bd a
 have key:∀ T:Int,T = (rootT a).v→IntKind.i32.wrap (T.tdiv 2) = (rootH a).v→Value.tuple #[.int .i32 (shrK (shlK a.v T) 2),.int .i32 (IntKind.i32.wrap (T.tdiv 2))] = .tuple #[.int .i32 (rootU a).v,.int .i32 (rootH a).v]:=fun T h1 h2 => by
  rw [h2,h1]
  unfold shrK shlK
  rw [kW_self,kW_self,kW_self]
  rfl
 by_cases h32:32≤(clzW a).v
 · have e:(clzW a).v = 32:=by omega
   have h:=cxR_calls _ (level_run0 a) (ins1 a) (obs1 (oGeq_ok (by rw [kW_self]; simpa using h32))) w
   rw [kW_self] at h
   rw [key _ ?_ ?_] at h
   · exact h
   · rw [e]; show levT1 32 = andI (clzW a).v (kW 30).v; rw [e]; decide +kernel
   · rw [e]; show _ = shrI (andI (clzW a).v (kW 30).v) (kW 1).v; rw [e]; decide +kernel
 · obtain ⟨q1,q2⟩:=lev_all ⟨(clzW a).v.toNat,by omega⟩
   have e:Int.ofNat (clzW a).v.toNat = (clzW a).v:=by simp; omega
   simp only [e] at q1 q2
   have h:=cxR_calls _ (level_run1 a) (ins1 a) (obs1 (oGeq_ok (by rw [kW_self]; simpa using h32))) w
   rw [kW_self] at h
   have k30:(kW 30).v = 30:=kW_v (by decide)
   have k1:(kW 1).v = 1:=kW_v (by decide)
   rw [key _ (q1.trans (by show _ = andI (clzW a).v (kW 30).v; rw [k30])) (q2.trans (by show _ = shrI (andI (clzW a).v (kW 30).v) (kW 1).v; rw [k30,k1]))] at h
   exact h
noncomputable def levelE:Ent:=ent1 262 (fun a => .tuple #[.int .i32 (rootU a).v,.int .i32 (rootH a).v]) (fun a => goodC_2 _ _) refLevel
theorem up_eq (a:Wd) {n:Int} (h:In32 n):upW a n = shlW a (kW n):=Wd.ext_ (by show shlI a.v n = shlI a.v (kW n).v; rw [kW_v h])
theorem down_eq (a:Wd) {n:Int} (h:In32 n):downW a n = sarW a (kW n):=Wd.ext_ (by show sarI a.v n = sarI a.v (kW n).v; rw [kW_v h])
def rsK (u:Int):Nat→Int
 | 0 => subK 1184766729 (mulK 715827883 u)
 | n + 1 => addK (rsK u n) (sarK (mulK (rsK u n) (subK 1073741824 (shlK (mulK u (mulK (rsK u n) (rsK u n))) 2))) 1)
def rsS:List (FuncId × Sh):=[(262,.two .one .one),(261,.one),(121,.one),(126,.one),(115,.one),(124,.one)]
noncomputable def rsT:List Ent:=[levelE,mulqE,addE,subE,shlE,sarE]
set_option maxRecDepth 100000 in
theorem rsqrt_run (a:Wd):runP (cxR [] rsS []) (tabOf rsT) 100 197 [.opq 0] [.int .i32 a.v] = some (.tuple #[.int .i32 (rsK (rootU (kW a.v)).v 4),.int .i32 (rootH (kW a.v)).v],[]):=by kernel_rfl
theorem rsK_eq (u:Wd):∀ n,rsK u.v n = (rootZ u n).v
 | 0 => by unfold rsK subK mulK; rw [kW_self,kW_self]; rfl
 | n + 1 => by
  unfold rsK addK sarK mulK subK shlK
  rw [rsK_eq u n]
  simp only [kW_self]
  rw [rootZ,rootStep,up_eq _ (by decide),down_eq _ (by decide)]
theorem refRsqrt (a:Wd) (w:World):Calls Tryz.prog 197 #[.int .i32 a.v] w fun e w' => e = .returned (.tuple #[.int .i32 (rootW a).1.v,.int .i32 (rootW a).2.v])∧Chg w w' []:=by
 have h:=cxR_calls _ (rsqrt_run a) (ins1 a) obs0 w
 rw [kW_self,rsK_eq] at h
 exact h
noncomputable def rsqrtE:Ent:=ent1 197 (fun a => .tuple #[.int .i32 (rootW a).1.v,.int .i32 (rootW a).2.v]) (fun a => goodC_2 _ _) refRsqrt
set_option maxRecDepth 100000 in
theorem scale_run (a z h:Wd):runP (cxR [] rsS []) (tabOf rsT) 100 199 [.opq 0,.opq 1,.opq 2] [.int .i32 a.v,.int .i32 z.v,.int .i32 h.v] = some (.int .i32 (shlK (mulK a.v z.v) h.v),[]):=by kernel_rfl
theorem refScale (a z h:Wd) (w:World):Calls Tryz.prog 199 #[.int .i32 a.v,.int .i32 z.v,.int .i32 h.v] w fun e w' => e = .returned (.int .i32 (scaledW a z h).v)∧Chg w w' []:=by
 have h:=cxR_calls _ (scale_run a z h) (ins3 a z h) obs0 w
 unfold shlK mulK at h
 simp only [kW_self] at h
 exact h
noncomputable def scaleE:Ent:=ent3 199 (fun a b c => .int .i32 (scaledW a b c).v) (fun _ _ _ => goodC_w _) refScale
def q4 (a b c d:Wd):Value:=.agg #[.int .i32 a.v,.int .i32 b.v,.int .i32 c.v,.int .i32 d.v]
def RQ (F:Wd→Wd→Wd→Wd→Value):List PA→Option Value
 | [.a [a,b,c,d]] => some (F a b c d)
 | _ => none
def entQ (f:FuncId) (F:Wd→Wd→Wd→Wd→Value) (hR:∀ a b c d,goodC (F a b c d)) (h:∀ (a b c d:Wd) (w:World),Calls Tryz.prog f #[q4 a b c d] w fun e w' => e = .returned (F a b c d)∧Chg w w' []):Ent :=
 entP f (RQ F) fun ps v hv => by
  unfold RQ at hv
  split at hv
  · injection hv with hv
    subst hv
    exact ⟨hR _ _ _ _,h _ _ _ _⟩
  · cases hv
def in4 (a b c d:Wd):List Value:=[.int .i32 a.v,.int .i32 b.v,.int .i32 c.v,.int .i32 d.v]
theorem ins4 (a b c d:Wd):goodL (in4 a b c d):=goodL_l [a,b,c,d]
def wS:List (FuncId × Sh):=[(261,.one),(121,.one),(126,.one),(204,.one),(124,.one)]
noncomputable def wT:List Ent:=[mulqE,addE,subE,negE,sarE]
set_option maxRecDepth 100000 in
theorem qnorm_run (a b c d:Wd):runP (cxR [] wS []) (tabOf wT) 300 206 [.agg (opqs 4 0)] (in4 a b c d) = some (.int .i32 (addK (addK (addK (mulK a.v a.v) (mulK b.v b.v)) (mulK c.v c.v)) (mulK d.v d.v)),[]):=by kernel_rfl
theorem refQNorm (a b c d:Wd) (w:World):Calls Tryz.prog 206 #[q4 a b c d] w fun e w' => e = .returned (.int .i32 (normW a [b,c,d]).v)∧Chg w w' []:=by
 have h:=cxR_calls _ (qnorm_run a b c d) (ins4 a b c d) obs0 w
 unfold addK mulK at h
 simp only [kW_self] at h
 exact h
noncomputable def qnormE:Ent:=entQ 206 (fun a b c d => .int .i32 (normW a [b,c,d]).v) (fun _ _ _ _ => goodC_w _) refQNorm
noncomputable def evT:List Ent:=[qnormE,addE,rsqrtE,scaleE]
structure I3 where
 x:Int
 y:Int
 a:Int
end Go.Proofs.YtjcgiddgafjdpaaGreatDoor.Xi
