/- Texts of this claim, side by side: RunE, RunF, RunG, RunH, RunN, RunO, RunJ, RunK. -/
import Derived.Test.YtjcgiddgafjdpaaGreatDoorFQ16
import Derived.Lib.ItoaNum
import Derived.Test.YtjcgiddgafjdpaaGreatDoorFQ7
import Derived.Laws.StructEq
import Derived.Laws.Tables
/- The reference's signs, picks, counts: Sign, Min, Max, Clamp, Flip, Clz. -/
namespace Go.Proofs.YtjcgiddgafjdpaaGreatDoor.Xi
open Go Go.RowKit
set_option linter.unusedVariables false
def Zf (y:Int):Nat→List Ob
 | 0 => []
 | j + 1 => aeQ 2 .i64 (y / 2 ^ (31 - j) % 2) 0 true :: Zf y j
def apO (c:Nat):List (Nat × Bool):=(List.range c).map (fun j => (33 + j,true)) ++ [(33 + c,false)]
def af4 (y:Int) (c:Nat):List Ob:=bif Nat.blt c 32 then aeQ 2 .i64 (y / 2 ^ (31 - c) % 2) 0 false :: Zf y c else Zf y 32
set_option maxRecDepth 100000 in
theorem WO (a:Wd):∀ c:Nat,c < 33→jm (mW [] [(189,.agg 32)] (apO c)) (fQ [afZ]) 400 266 [.opq 0] [.int .i32 a.v] = some (.int .i32 (Int.ofNat c),af4 ((kW a.v).v % 4294967296) c)
 | 0,_ => by kernel_rfl
 | 1,_ => by kernel_rfl
 | 2,_ => by kernel_rfl
 | 3,_ => by kernel_rfl
 | 4,_ => by kernel_rfl
 | 5,_ => by kernel_rfl
 | 6,_ => by kernel_rfl
 | 7,_ => by kernel_rfl
 | 8,_ => by kernel_rfl
 | 9,_ => by kernel_rfl
 | 10,_ => by kernel_rfl
 | 11,_ => by kernel_rfl
 | 12,_ => by kernel_rfl
 | 13,_ => by kernel_rfl
 | 14,_ => by kernel_rfl
 | 15,_ => by kernel_rfl
 | 16,_ => by kernel_rfl
 | 17,_ => by kernel_rfl
 | 18,_ => by kernel_rfl
 | 19,_ => by kernel_rfl
 | 20,_ => by kernel_rfl
 | 21,_ => by kernel_rfl
 | 22,_ => by kernel_rfl
 | 23,_ => by kernel_rfl
 | 24,_ => by kernel_rfl
 | 25,_ => by kernel_rfl
 | 26,_ => by kernel_rfl
 | 27,_ => by kernel_rfl
 | 28,_ => by kernel_rfl
 | 29,_ => by kernel_rfl
 | 30,_ => by kernel_rfl
 | 31,_ => by kernel_rfl
 | 32,_ => by kernel_rfl
 | k + 33,h => absurd h (by omega)
theorem LD (y:Int) (c:Nat) (h0:0≤y) (h:y < 2 ^ (32 - c)):∀ j,j≤c→j≤32→∀ ob∈Zf y j,lX Tryz.prog ob
 | 0,_,_ => Eh
 | j + 1,h1,h2 => Zb (WL (by
  have hp:(2:Int) ^ (32 - c)≤2 ^ (31 - j):=by exact_mod_cast Nat.pow_le_pow_right (by omega:1≤2) (by omega:32 - c≤31 - j)
  rw [Int.ediv_eq_zero_of_lt h0 (by omega)]; rfl)) (LD y c h0 h j (by omega) (by omega))
theorem alZ (a:Wd) (w:World):Calls Tryz.prog 266 #[.int .i32 a.v] w fun e w' => e = .returned (.int .i32 (jc a).v)∧ah w w' []:=by
 obtain ⟨Y,hY⟩:∃ Y:Nat,a.v % 4294967296 = Y:=⟨(a.v % 4294967296).toNat,by omega⟩
 have hlt:Y < 4294967296:=by omega
 have hv:(jc a).v = 32 - (Lib.bitLen Y:Int):=by show 32 - (Lib.bitLen (a.v % 4294967296).toNat:Int) = _; rw [hY,Int.toNat_natCast]
 rw [hv]
 by_cases h0:Y = 0
 · subst h0
   have hb:Lib.bitLen 0 = 0:=Lib.bitLenAux_zero 64
   rw [hb]
   have h:=bM _ (WO a 32 (by omega)) (LC a) (by
    rw [fG,hY]
    exact LD _ 32 (by omega) (by decide) 32 (by omega) (by omega)) w
   exact h
 · obtain ⟨l1,l2,l3⟩:=Lib.bitLenAux_bounds 64 Y (by omega) h0
   have hL:Lib.bitLenAux 64 Y = Lib.bitLen Y:=rfl
   rw [hL] at l1 l2 l3
   have l4:Lib.bitLen Y≤32:=by
    rcases Nat.lt_or_ge 32 (Lib.bitLen Y) with h | h
    · have:2 ^ 32≤2 ^ (Lib.bitLen Y - 1):=Nat.pow_le_pow_right (by omega) (by omega)
      omega
    · exact h
   generalize Lib.bitLen Y = n at *
   have h:=bM _ (WO a (32 - n) (by omega)) (LC a) (by
    rw [fG,hY]
    unfold af4
    rw [show Nat.blt (32 - n) 32 = true from aH.2 (by omega)]
    refine Zb (WL ?_) (LD _ (32 - n) (by omega) (by rw [show 32 - (32 - n) = n by omega]; exact_mod_cast l3) _ (by omega) (by omega))
    rw [show 31 - (32 - n) = n - 1 by omega]
    have e:(Y:Int) / 2 ^ (n - 1) = 1:=by
     have:Y / 2 ^ (n - 1) = 1:=by
      have hp:2 ^ n = 2 * 2 ^ (n - 1):=by rw [← Nat.pow_succ']; congr 1; omega
      refine Nat.div_eq_of_lt_le (by omega) (by omega)
     rw [show (Y:Int) / 2 ^ (n - 1) = ((Y / 2 ^ (n - 1):Nat):Int) by simp,this]; rfl
    rw [e]; rfl) w
   have e:Int.ofNat (32 - n) = 32 - (n:Int):=by simp; omega
   rw [e] at h
   exact h
noncomputable def apP:iM:=Lc 266 (fun a => .int .i32 (jc a).v) (fun _ => jG _) alZ
inductive PA where
 | w (x:Wd)
 | a (l:List Wd)
def PA.val:PA→Value
 | .w x => .int .i32 x.v
 | .a l => .agg (l.map fun x => .int .i32 x.v).toArray
def WQ:List Value→Option (List Wd)
 | [] => some []
 | .int .i32 n :: l => match WQ l with | some r => some (kW n :: r) | none => none
 | _ :: _ => none
def JO:List Value→Option (List PA)
 | [] => some []
 | .int .i32 n :: l => match JO l with | some r => some (.w (kW n) :: r) | none => none
 | .agg ds :: l => match WQ ds.toList with
  | some q => match JO l with | some r => some (.a q :: r) | none => none
  | none => none
 | _ :: _ => none
theorem ab5:∀ {l:List Value} {r:List Wd},WQ l = some r→(∀ u∈l,dD u)→l = r.map fun x => .int .i32 x.v
 | [],r,h,hg => by injection h with h; subst h; rfl
 | .int .i32 n :: l,r,h,hg => by
  unfold WQ at h
  cases hl:WQ l with
  | none => rw [hl] at h; cases h
  | some q =>
   rw [hl] at h
   injection h with h
   subst h
   rw [List.map_cons,← ab5 hl (fun u hu => hg u (by simp [hu])),qP (hg (.int .i32 n) (by simp))]
 | .int .i8 _ :: _,_,h,_ => by cases h
 | .int .i16 _ :: _,_,h,_ => by cases h
 | .int .i64 _ :: _,_,h,_ => by cases h
 | .int .u8 _ :: _,_,h,_ => by cases h
 | .int .u16 _ :: _,_,h,_ => by cases h
 | .int .u32 _ :: _,_,h,_ => by cases h
 | .int .u64 _ :: _,_,h,_ => by cases h
 | .bool _ :: _,_,h,_ => by cases h
 | .float _ _ :: _,_,h,_ => by cases h
 | .complex _ _ _ :: _,_,h,_ => by cases h
 | .string _ :: _,_,h,_ => by cases h
 | .pointer _ :: _,_,h,_ => by cases h
 | .slice _ _ _ :: _,_,h,_ => by cases h
 | .map _ :: _,_,h,_ => by cases h
 | .chan _ :: _,_,h,_ => by cases h
 | .func _ _ _ :: _,_,h,_ => by cases h
 | .nilFunc :: _,_,h,_ => by cases h
 | .iface _ _ :: _,_,h,_ => by cases h
 | .nilIface :: _,_,h,_ => by cases h
 | .tuple _ :: _,_,h,_ => by cases h
 | .agg _ :: _,_,h,_ => by cases h
theorem TN:∀ {l:List Value} {r:List PA},JO l = some r→(∀ u∈l,good1 u)→l = r.map PA.val
 | [],r,h,hg => by injection h with h; subst h; rfl
 | .int .i32 n :: l,r,h,hg => by
  unfold JO at h
  cases hl:JO l with
  | none => rw [hl] at h; cases h
  | some q =>
   rw [hl] at h
   injection h with h
   subst h
   rw [List.map_cons,← TN hl (fun u hu => hg u (by simp [hu]))]
   show _ = Value.int .i32 (kW n).v :: l
   rw [qP (eY (hg (.int .i32 n) (by simp)))]
 | .agg ds :: l,r,h,hg => by
  unfold JO at h
  cases hd:WQ ds.toList with
  | none => rw [hd] at h; cases h
  | some d =>
   rw [hd] at h
   simp only [] at h
   cases hl:JO l with
   | none => rw [hl] at h; cases h
   | some q =>
    rw [hl] at h
    injection h with h
    subst h
    have hgd:∀ u∈ds.toList,dD u:=by
     rcases hg (.agg ds) (by simp) with h | ⟨ds',h,hd'⟩
     · cases h
     · injection h with h; subst h; exact hd'
    rw [List.map_cons,← TN hl (fun u hu => hg u (by simp [hu]))]
    show _ = Value.agg (d.map fun x => .int .i32 x.v).toArray :: l
    rw [← ab5 hd hgd]
 | .int .i8 _ :: _,_,h,_ => by cases h
 | .int .i16 _ :: _,_,h,_ => by cases h
 | .int .i64 _ :: _,_,h,_ => by cases h
 | .int .u8 _ :: _,_,h,_ => by cases h
 | .int .u16 _ :: _,_,h,_ => by cases h
 | .int .u32 _ :: _,_,h,_ => by cases h
 | .int .u64 _ :: _,_,h,_ => by cases h
 | .bool _ :: _,_,h,_ => by cases h
 | .float _ _ :: _,_,h,_ => by cases h
 | .complex _ _ _ :: _,_,h,_ => by cases h
 | .string _ :: _,_,h,_ => by cases h
 | .pointer _ :: _,_,h,_ => by cases h
 | .slice _ _ _ :: _,_,h,_ => by cases h
 | .map _ :: _,_,h,_ => by cases h
 | .chan _ :: _,_,h,_ => by cases h
 | .func _ _ _ :: _,_,h,_ => by cases h
 | .nilFunc :: _,_,h,_ => by cases h
 | .iface _ _ :: _,_,h,_ => by cases h
 | .nilIface :: _,_,h,_ => by cases h
 | .tuple _ :: _,_,h,_ => by cases h
def fP (R:List PA→Option Value) (us:List Value):Option Value:=match JO us with | some ps => R ps | none => none
def apQ (f:FuncId) (R:List PA→Option Value) (h:∀ ps v,R ps = some v→kK v∧∀ w:World,Calls Tryz.prog f (ps.map PA.val).toArray w fun e w' => e = .returned v∧ah w w' []):iM where
 f:=f
 fn:=fP R
 ok:=fun us v hv hg => by
  unfold fP at hv
  cases hp:JO us with
  | none => rw [hp] at hv; cases hv
  | some ps =>
   rw [hp] at hv
   have:=h ps v hv
   rw [← TN hp hg] at this
   exact this
theorem WR (a b:Wd):kK (.tuple #[.int .i32 a.v,.int .i32 b.v]):=.inr ⟨_,rfl,fun u hu => by
 simp at hu
 rcases hu with rfl | rfl
 · exact .inl (oH _)
 · exact .inl (oH _)⟩
def wl (l:List Wd):List Value:=l.map fun x => .int .i32 x.v
theorem aia (l:List Wd):eG (wl l):=fun v hv => by
 obtain ⟨x,_,rfl⟩:=List.mem_map.1 hv
 exact oH x
def LG (a b:Int):Int:=(iI (kW a) (kW b)).v
def Zg (a b:Int):Int:=(rO (kW a) (kW b)).v
def t_ (a b:Int):Int:=(aP (kW a) (kW b)).v
def Ej (a b:Int):Int:=(tJ (kW a) (kW b)).v
def Zh (a b:Int):Int:=(tK (kW a) (kW b)).v
def al0 (a b:Int):Int:=(zB (kW a) (kW b)).v
def JQ (c:Int):Int:=IntKind.i32.wrap (c - IntKind.i32.wrap (c.tmod 2))
def Zi (c:Int):Int:=JQ (IntKind.i32.wrap (c - 32))
def al1:List (FuncId × Sh):=[(266,.one),(115,.one),(268,.one)]
noncomputable def al2:List iM:=[apP,alQ,apL]
set_option maxRecDepth 100000 in
theorem Zj (a:Wd):jm (mW [] al1 [(2,true)]) (fQ al2) 100 262 [.opq 0] [.int .i32 a.v] = some (.tuple #[.int .i32 (Zh (Ej a.v (Zi (jc (kW a.v)).v)) 2),.int .i32 (IntKind.i32.wrap ((Zi (jc (kW a.v)).v).tdiv 2))],[Ie 21 .i32 (jc (kW a.v)).v 32 true]):=by kernel_rfl
set_option maxRecDepth 100000 in
theorem Zk (a:Wd):jm (mW [] al1 [(2,false)]) (fQ al2) 100 262 [.opq 0] [.int .i32 a.v] = some (.tuple #[.int .i32 (Zh (Ej a.v (JQ (jc (kW a.v)).v)) 2),.int .i32 (IntKind.i32.wrap ((JQ (jc (kW a.v)).v).tdiv 2))],[Ie 21 .i32 (jc (kW a.v)).v 32 false]):=by kernel_rfl
def JR (x:Wd):Wd:=tK (OG x) (kW 1)
theorem aib:∀ c:Fin 32,JQ (Int.ofNat c.val) = tC (Int.ofNat c.val) 30∧IntKind.i32.wrap ((JQ (Int.ofNat c.val)).tdiv 2) = sZ (tC (Int.ofNat c.val) 30) 1:=by decide +kernel
theorem al3 (a:Wd):0≤(jc a).v∧(jc a).v≤32:=by
 have h:=Any.bitLen_le32 (a.v % 4294967296) (by omega) (by omega)
 show 0≤32 - (Lib.bitLen (a.v % 4294967296).toNat:Int)∧32 - (Lib.bitLen (a.v % 4294967296).toNat:Int)≤32
 omega
theorem aeZ (a:Wd) (w:World):Calls Tryz.prog 262 #[.int .i32 a.v] w fun e w' => e = .returned (.tuple #[.int .i32 (Js a).v,.int .i32 (JR a).v])∧ah w w' []:=by
 have hc:=al3 a
 have key:∀ T:Int,T = (OG a).v→IntKind.i32.wrap (T.tdiv 2) = (JR a).v→Value.tuple #[.int .i32 (Zh (Ej a.v T) 2),.int .i32 (IntKind.i32.wrap (T.tdiv 2))] = .tuple #[.int .i32 (Js a).v,.int .i32 (JR a).v]:=fun T h1 h2 => by
  rw [h2,h1]
  unfold Zh Ej
  rw [fG,fG,fG]
  rfl
 by_cases h32:32≤(jc a).v
 · have e:(jc a).v = 32:=by omega
   have h:=bM _ (Zj a) (LC a) (Cc (w_ (by rw [fG]; simpa using h32))) w
   rw [fG] at h
   rw [key _ ?_ ?_] at h
   · exact h
   · rw [e]; show Zi 32 = tC (jc a).v (kW 30).v; rw [e]; decide +kernel
   · rw [e]; show _ = sZ (tC (jc a).v (kW 30).v) (kW 1).v; rw [e]; decide +kernel
 · obtain ⟨q1,q2⟩:=aib ⟨(jc a).v.toNat,by omega⟩
   have e:Int.ofNat (jc a).v.toNat = (jc a).v:=by simp; omega
   simp only [e] at q1 q2
   have h:=bM _ (Zk a) (LC a) (Cc (w_ (by rw [fG]; simpa using h32))) w
   rw [fG] at h
   have k30:(kW 30).v = 30:=tH (by decide)
   have k1:(kW 1).v = 1:=tH (by decide)
   rw [key _ (q1.trans (by show _ = tC (jc a).v (kW 30).v; rw [k30])) (q2.trans (by show _ = sZ (tC (jc a).v (kW 30).v) (kW 1).v; rw [k30,k1]))] at h
   exact h
noncomputable def al4:iM:=Lc 262 (fun a => .tuple #[.int .i32 (Js a).v,.int .i32 (JR a).v]) (fun a => WR _ _) aeZ
theorem anS (a:Wd) {n:Int} (h:aB n):yQ a n = tJ a (kW n):=Wd.dJ (by show qw a.v n = qw a.v (kW n).v; rw [tH h])
theorem aic (a:Wd) {n:Int} (h:aB n):nM a n = zB a (kW n):=Wd.dJ (by show xM a.v n = xM a.v (kW n).v; rw [tH h])
def Ny (u:Int):Nat→Int
 | 0 => Zg 1184766729 (t_ 715827883 u)
 | n + 1 => LG (Ny u n) (al0 (t_ (Ny u n) (Zg 1073741824 (Ej (t_ u (t_ (Ny u n) (Ny u n))) 2))) 1)
def rsS:List (FuncId × Sh):=[(262,.two .one .one),(261,.one),(121,.one),(126,.one),(115,.one),(124,.one)]
noncomputable def rsT:List iM:=[al4,af2,aeW,alX,alQ,alR]
set_option maxRecDepth 100000 in
theorem ab6 (a:Wd):jm (mW [] rsS []) (fQ rsT) 100 197 [.opq 0] [.int .i32 a.v] = some (.tuple #[.int .i32 (Ny (Js (kW a.v)).v 4),.int .i32 (JR (kW a.v)).v],[]):=by kernel_rfl
theorem ab7 (u:Wd):∀ n,Ny u.v n = (OH u n).v
 | 0 => by unfold Ny Zg t_; rw [fG,fG]; rfl
 | n + 1 => by
  unfold Ny LG al0 t_ Zg Ej
  rw [ab7 u n]
  simp only [fG]
  rw [OH,Sv,anS _ (by decide),aic _ (by decide)]
theorem ae0 (a:Wd) (w:World):Calls Tryz.prog 197 #[.int .i32 a.v] w fun e w' => e = .returned (.tuple #[.int .i32 (eP a).1.v,.int .i32 (eP a).2.v])∧ah w w' []:=by
 have h:=bM _ (ab6 a) (LC a) Eh w
 rw [fG,ab7] at h
 exact h
noncomputable def al5:iM:=Lc 197 (fun a => .tuple #[.int .i32 (eP a).1.v,.int .i32 (eP a).2.v]) (fun a => WR _ _) ae0
set_option maxRecDepth 100000 in
theorem ab8 (a z h:Wd):jm (mW [] rsS []) (fQ rsT) 100 199 [.opq 0,.opq 1,.opq 2] [.int .i32 a.v,.int .i32 z.v,.int .i32 h.v] = some (.int .i32 (Ej (t_ a.v z.v) h.v),[]):=by kernel_rfl
theorem ae1 (a z h:Wd) (w:World):Calls Tryz.prog 199 #[.int .i32 a.v,.int .i32 z.v,.int .i32 h.v] w fun e w' => e = .returned (.int .i32 (jg a z h).v)∧ah w w' []:=by
 have h:=bM _ (ab8 a z h) (apM a z h) Eh w
 unfold Ej t_ at h
 simp only [fG] at h
 exact h
noncomputable def al6:iM:=apC 199 (fun a b c => .int .i32 (jg a b c).v) (fun _ _ _ => jG _) ae1
def q4 (a b c d:Wd):Value:=.agg #[.int .i32 a.v,.int .i32 b.v,.int .i32 c.v,.int .i32 d.v]
def RQ (F:Wd→Wd→Wd→Wd→Value):List PA→Option Value
 | [.a [a,b,c,d]] => some (F a b c d)
 | _ => none
def apR (f:FuncId) (F:Wd→Wd→Wd→Wd→Value) (hR:∀ a b c d,kK (F a b c d)) (h:∀ (a b c d:Wd) (w:World),Calls Tryz.prog f #[q4 a b c d] w fun e w' => e = .returned (F a b c d)∧ah w w' []):iM :=
 apQ f (RQ F) fun ps v hv => by
  unfold RQ at hv
  split at hv
  · injection hv with hv
    subst hv
    exact ⟨hR _ _ _ _,h _ _ _ _⟩
  · cases hv
def in4 (a b c d:Wd):List Value:=[.int .i32 a.v,.int .i32 b.v,.int .i32 c.v,.int .i32 d.v]
theorem apS (a b c d:Wd):eG (in4 a b c d):=aia [a,b,c,d]
def wS:List (FuncId × Sh):=[(261,.one),(121,.one),(126,.one),(204,.one),(124,.one)]
noncomputable def wT:List iM:=[af2,aeW,alX,apN,alR]
set_option maxRecDepth 100000 in
theorem ab9 (a b c d:Wd):jm (mW [] wS []) (fQ wT) 300 206 [.agg (jZ 4 0)] (in4 a b c d) = some (.int .i32 (LG (LG (LG (t_ a.v a.v) (t_ b.v b.v)) (t_ c.v c.v)) (t_ d.v d.v)),[]):=by kernel_rfl
theorem ae2 (a b c d:Wd) (w:World):Calls Tryz.prog 206 #[q4 a b c d] w fun e w' => e = .returned (.int .i32 (jh a [b,c,d]).v)∧ah w w' []:=by
 have h:=bM _ (ab9 a b c d) (apS a b c d) Eh w
 unfold LG t_ at h
 simp only [fG] at h
 exact h
noncomputable def al8:iM:=apR 206 (fun a b c d => .int .i32 (jh a [b,c,d]).v) (fun _ _ _ _ => jG _) ae2
noncomputable def mO:List iM:=[al8,aeW,al5,al6]
structure I3 where
 x:Int
 y:Int
 a:Int
end Go.Proofs.YtjcgiddgafjdpaaGreatDoor.Xi
