/- Texts of this claim, side by side. -/
import Derived.Test.YtjmojlhnmkjdkaaGreatDoorFR14
import Derived.Lib.ItoaNum
set_option linter.unusedVariables false
set_option maxRecDepth 100000
namespace Go.Proofs.YtjmojlhnmkjdkaaGreatDoor.Xi
open Go Go.RowKit
theorem af4 (a:Wd):bJ (dn [] [] [(1,true)]) (bg []) 100 283 [.opq 0] [.int .i32 a.v]=some (.int .i32 (-1),[cZ 21 .i32 a.v 0 true]):=by kernel_rfl
theorem af5 (a:Wd):bJ (dn [] [] [(1,false)]) (bg []) 100 283 [.opq 0] [.int .i32 a.v]=some (.int .i32 0,[cZ 21 .i32 a.v 0 false]):=by kernel_rfl
theorem anj (a:Wd) (w:World):Calls Tryz.prog 283 #[.int .i32 a.v] w fun e w'=>e=.returned (.int .i32 (ql a).v)/\ah w w' []:=by
 have ha:=a.ok;unfold aB at ha;have hv:(ql a).v=a.v / 2147483648:=rfl;rw [hv];by_cases h0:a.v < 0
 . rw [show a.v / 2147483648=-1 by omega]
   exact aG _ (af4 a) (Bc a) (gy (aV (by simpa using h0))) w
 . rw [show a.v / 2147483648=0 by omega]
   exact aG _ (af5 a) (Bc a) (gy (aV (by simpa using h0))) w
noncomputable def atG:fA:=Fb 283 (fun a=>.int .i32 (ql a).v) (fun _=>gG _) anj
theorem ajh (a b:Wd):bJ (dn [] [] [(2,true)]) (bg []) 100 247 [.opq 0,.opq 1] [.int .i32 a.v,.int .i32 b.v]=some (.int .i32 a.v,[cZ 21 .i32 a.v b.v true]):=by kernel_rfl
theorem aji (a b:Wd):bJ (dn [] [] [(2,false)]) (bg []) 100 247 [.opq 0,.opq 1] [.int .i32 a.v,.int .i32 b.v]=some (.int .i32 b.v,[cZ 21 .i32 a.v b.v false]):=by kernel_rfl
theorem aq9 (a b:Wd) (w:World):Calls Tryz.prog 247 #[.int .i32 a.v,.int .i32 b.v] w fun e w'=>e=.returned (.int .i32 (Dc a b).v)/\ah w w' []:=by
 have hv:(Dc a b).v=EU a.v b.v:=rfl;by_cases h0:a.v < b.v
 . rw [hv,show EU a.v b.v=a.v by unfold EU; first | omega | (split<;>omega)]
   exact aG _ (ajh a b) (jf a b) (gy (aV (by simpa using h0))) w
 . rw [hv,show EU a.v b.v=b.v by unfold EU; first | omega | (split<;>omega)]
   exact aG _ (aji a b) (jf a b) (gy (aV (by simpa using h0))) w
noncomputable def awf:fA:=AQ 247 (fun a b=>.int .i32 (Dc a b).v) (fun _ _=>gG _) aq9
theorem ajj (a b:Wd):bJ (dn [] [] [(2,true)]) (bg []) 100 246 [.opq 0,.opq 1] [.int .i32 a.v,.int .i32 b.v]=some (.int .i32 b.v,[cZ 21 .i32 a.v b.v true]):=by kernel_rfl
theorem ajk (a b:Wd):bJ (dn [] [] [(2,false)]) (bg []) 100 246 [.opq 0,.opq 1] [.int .i32 a.v,.int .i32 b.v]=some (.int .i32 a.v,[cZ 21 .i32 a.v b.v false]):=by kernel_rfl
theorem aq_ (a b:Wd) (w:World):Calls Tryz.prog 246 #[.int .i32 a.v,.int .i32 b.v] w fun e w'=>e=.returned (.int .i32 (AO a b).v)/\ah w w' []:=by
 have hv:(AO a b).v=EW a.v b.v:=rfl;by_cases h0:a.v < b.v
 . rw [hv,show EW a.v b.v=b.v by unfold EW; first | omega | (split<;>omega)]
   exact aG _ (ajj a b) (jf a b) (gy (aV (by simpa using h0))) w
 . rw [hv,show EW a.v b.v=a.v by unfold EW; first | omega | (split<;>omega)]
   exact aG _ (ajk a b) (jf a b) (gy (aV (by simpa using h0))) w
noncomputable def awg:fA:=AQ 246 (fun a b=>.int .i32 (AO a b).v) (fun _ _=>gG _) aq_
theorem ac2 (a b c:Wd):bJ (dn [] [] [(3,true)]) (bg []) 100 124 [.opq 0,.opq 1,.opq 2] [.int .i32 a.v,.int .i32 b.v,.int .i32 c.v]=some (.int .i32 c.v,[lC 21 .i32 a.v c.v true]):=by kernel_rfl
theorem ac3 (a b c:Wd):bJ (dn [] [] [(3,false),(4,true)]) (bg []) 100 124 [.opq 0,.opq 1,.opq 2] [.int .i32 a.v,.int .i32 b.v,.int .i32 c.v]=some (.int .i32 c.v,[lC 21 .i32 b.v c.v true,lC 21 .i32 a.v c.v false]):=by kernel_rfl
theorem ac4 (a b c:Wd):bJ (dn [] [] [(3,false),(4,false),(5,true)]) (bg []) 100 124 [.opq 0,.opq 1,.opq 2] [.int .i32 a.v,.int .i32 b.v,.int .i32 c.v]=some (.int .i32 b.v,[cZ 21 .i32 a.v b.v true,lC 21 .i32 b.v c.v false,lC 21 .i32 a.v c.v false]):=by kernel_rfl
theorem ac5 (a b c:Wd):bJ (dn [] [] [(3,false),(4,false),(5,false)]) (bg []) 100 124 [.opq 0,.opq 1,.opq 2] [.int .i32 a.v,.int .i32 b.v,.int .i32 c.v]=some (.int .i32 a.v,[cZ 21 .i32 a.v b.v false,lC 21 .i32 b.v c.v false,lC 21 .i32 a.v c.v false]):=by kernel_rfl
noncomputable def Eb (a b c:Wd):Wd:=if c.v < a.v then c else if c.v < b.v then c else if a.v < b.v then b else a
theorem ajl (a b c:Wd) (w:World):Calls Tryz.prog 124 #[.int .i32 a.v,.int .i32 b.v,.int .i32 c.v] w fun e w'=>e=.returned (.int .i32 (Eb a b c).v)/\ah w w' []:=by
 unfold Eb;by_cases h0:c.v < a.v
 . rw [if_pos h0]
   exact aG _ (ac2 a b c) (Qe a b c) (gy (fU (by simpa using h0))) w
 . rw [if_neg h0]
   by_cases h1:c.v < b.v
   . rw [if_pos h1]
     exact aG _ (ac3 a b c) (Qe a b c) (eP (fU (by simpa using h1)) (gy (fU (by simpa using h0)))) w
   . rw [if_neg h1]
     by_cases h2:a.v < b.v
     . rw [if_pos h2]
       exact aG _ (ac4 a b c) (Qe a b c) (eP (aV (by simpa using h2)) (eP (fU (by simpa using h1)) (gy (fU (by simpa using h0))))) w
     . rw [if_neg h2]
       exact aG _ (ac5 a b c) (Qe a b c) (eP (aV (by simpa using h2)) (eP (fU (by simpa using h1)) (gy (fU (by simpa using h0))))) w
def TM:List Int->List Int->List Int
 | b :: l,c :: m=>IntKind.i64.wrap ((IntKind.i64.wrap (b+c)).tmod 2) :: TM l m
 | _,_=>[]
theorem ajm (a m:Wd):bJ (dn [] [(179,.agg 32),(181,.one),(78,.one)] []) (bg [acS,ofE,Xg]) 400 284 [.opq 0,.opq 1] [.int .i32 a.v,.int .i32 m.v] =
 some (.int .i32 (kW (IntKind.i64.wrap (IntKind.i64.wrap (kW (J4 (TM (m_ ((kW a.v).v % 4294967296) 0 32) (m_ ((kW m.v).v % 4294967296) 0 32)).reverse 0)).v - IntKind.i64.wrap m.v))).v,[]):=by kernel_rfl
theorem Xn (Y Z:Nat):∀ n i,TM (m_ Y i n) (m_ Z i n)=m_ ((Y ^^^ Z:Nat):Int) i n
 | 0,i=>rfl
 | n+1,i=>by
  simp only [m_,TM];rw [Xn Y Z n (i+1)];congr 1;have h:=Nat.testBit_xor Y Z i;have c:∀ X:Nat,((X:Int) / 2 ^ i % 2)=((X / 2 ^ i % 2:Nat):Int):=fun X=>by simp
  have t:∀ X:Nat,X.testBit i=decide (X / 2 ^ i % 2=1):=fun X=>Nat.testBit_eq_decide_div_mod_eq;rw [t,t,t] at h;rw [c,c,c];have hy:Y / 2 ^ i % 2=0\/Y / 2 ^ i % 2=1:=by omega
  have hz:Z / 2 ^ i % 2=0\/Z / 2 ^ i % 2=1:=by omega
  have hr:(Y ^^^ Z) / 2 ^ i % 2=0\/(Y ^^^ Z) / 2 ^ i % 2=1:=by omega
  generalize (Y ^^^ Z) / 2 ^ i % 2=r at *;generalize Y / 2 ^ i % 2=y at *;generalize Z / 2 ^ i % 2=z at *;rcases hy with rfl | rfl<;>rcases hz with rfl | rfl<;>rcases hr with rfl | rfl<;>first | (exfalso; revert h; decide) | decide +kernel
theorem ank (a m:Wd):∃ Y Z:Nat,a.v % 4294967296=Y/\m.v % 4294967296=Z/\(yw a m).v=(kW ((Y ^^^ Z:Nat):Int)).v/\Y ^^^ Z < 4294967296:=by
 refine ⟨(BitVec.ofInt 32 a.v).toNat,(BitVec.ofInt 32 m.v).toNat,?_,?_,?_,?_⟩
 . rw [BitVec.toNat_ofInt]; omega
 . rw [BitVec.toNat_ofInt]; omega
 . show IntKind.i32.wrap ((BitVec.ofInt 32 a.v ^^^ BitVec.ofInt 32 m.v).toNat:Int)=wrap32 _
   rw [BitVec.toNat_xor,IntKind.wrap_i32]; unfold wrap32; rfl
 . rw [<- BitVec.toNat_xor]
   exact (BitVec.ofInt 32 a.v ^^^ BitVec.ofInt 32 m.v).isLt
theorem anl (a m:Wd) (w:World):Calls Tryz.prog 284 #[.int .i32 a.v,.int .i32 m.v] w fun e w'=>e=.returned (.int .i32 (wW a m).v)/\ah w w' []:=by
 have h:=aG _ (ajm a m) (jf a m) pR w;obtain ⟨Y,Z,hY,hZ,hx,hlt⟩:=ank a m;rw [aU,aU,hY,hZ,Xn,Qd (LM _ _ _) (by simp [w_]),Cj] at h
 have e:(((Y ^^^ Z:Nat):Int) / 2 ^ 0 % 2 ^ 32)=((Y ^^^ Z:Nat):Int):=by
  rw [show (2:Int) ^ 0=1 from rfl,Int.ediv_one];omega
 have hm:=m.ok;have hq:=(yw a m).ok;unfold aB at hm hq;rw [e,<- hx,w64,w64] at h
 have e2:(kW (IntKind.i64.wrap ((yw a m).v - m.v))).v=(wW a m).v:=by
  show wrap32 (IntKind.i64.wrap ((yw a m).v - m.v))=wrap32 ((yw a m).v - m.v);rw [IntKind.wrap_i64];congr 1;omega
 rw [e2] at h;exact h
noncomputable def atH:fA:=AQ 284 (fun a b=>.int .i32 (wW a b).v) (fun _ _=>gG _) anl
def ac6 (y:Int):Nat->List Ob
 | 0=>[]
 | j+1=>ai7 2 .i64 (y / 2 ^ (31 - j) % 2) 0 true :: ac6 y j
def awh (c:Nat):List (Nat × Bool):=(List.range c).map (fun j=>(33+j,true)) ++ [(33+c,false)]
def akV (y:Int) (c:Nat):List Ob:=bif Nat.blt c 32 then ai7 2 .i64 (y / 2 ^ (31 - c) % 2) 0 false :: ac6 y c else ac6 y 32
theorem aaz (a:Wd):∀ c:Nat,c < 33->bJ (dn [] [(179,.agg 32)] (awh c)) (bg [acS]) 400 248 [.opq 0] [.int .i32 a.v]=some (.int .i32 (Int.ofNat c),akV ((kW a.v).v % 4294967296) c)
 | 0,_=>by kernel_rfl
 | 1,_=>by kernel_rfl
 | 2,_=>by kernel_rfl
 | 3,_=>by kernel_rfl
 | 4,_=>by kernel_rfl
 | 5,_=>by kernel_rfl
 | 6,_=>by kernel_rfl
 | 7,_=>by kernel_rfl
 | 8,_=>by kernel_rfl
 | 9,_=>by kernel_rfl
 | 10,_=>by kernel_rfl
 | 11,_=>by kernel_rfl
 | 12,_=>by kernel_rfl
 | 13,_=>by kernel_rfl
 | 14,_=>by kernel_rfl
 | 15,_=>by kernel_rfl
 | 16,_=>by kernel_rfl
 | 17,_=>by kernel_rfl
 | 18,_=>by kernel_rfl
 | 19,_=>by kernel_rfl
 | 20,_=>by kernel_rfl
 | 21,_=>by kernel_rfl
 | 22,_=>by kernel_rfl
 | 23,_=>by kernel_rfl
 | 24,_=>by kernel_rfl
 | 25,_=>by kernel_rfl
 | 26,_=>by kernel_rfl
 | 27,_=>by kernel_rfl
 | 28,_=>by kernel_rfl
 | 29,_=>by kernel_rfl
 | 30,_=>by kernel_rfl
 | 31,_=>by kernel_rfl
 | 32,_=>by kernel_rfl
 | k+33,h=>absurd h (by omega)
theorem Qg (y:Int) (c:Nat) (h0:0<=y) (h:y < 2 ^ (32 - c)):∀ j,j<=c->j<=32->∀ ob∈ac6 y j,kY Tryz.prog ob
 | 0,_,_=>pR
 | j+1,h1,h2=>eP (aay (by
  have hp:(2:Int) ^ (32 - c)<=2 ^ (31 - j):=by exact_mod_cast Nat.pow_le_pow_right (by omega:1<=2) (by omega:32 - c<=31 - j)
  rw [Int.ediv_eq_zero_of_lt h0 (by omega)]; rfl)) (Qg y c h0 h j (by omega) (by omega))
theorem ara (a:Wd) (w:World):Calls Tryz.prog 248 #[.int .i32 a.v] w fun e w'=>e=.returned (.int .i32 (jJ a).v)/\ah w w' []:=by
 obtain ⟨Y,hY⟩:∃ Y:Nat,a.v % 4294967296=Y:=⟨(a.v % 4294967296).toNat,by omega⟩
 have hlt:Y < 4294967296:=by omega
 have hv:(jJ a).v=32 - (Lib.bitLen Y:Int):=by show 32 - (Lib.bitLen (a.v % 4294967296).toNat:Int)=_; rw [hY,Int.toNat_natCast]
 rw [hv];by_cases h0:Y=0
 . subst h0
   have hb:Lib.bitLen 0=0:=Lib.bitLenAux_zero 64;rw [hb]
   have h:=aG _ (aaz a 32 (by omega)) (Bc a) (by
    rw [aU,hY]
    exact Qg _ 32 (by omega) (by decide) 32 (by omega) (by omega)) w
   exact h
 . obtain ⟨l1,l2,l3⟩:=Lib.bitLenAux_bounds 64 Y (by omega) h0
   have hL:Lib.bitLenAux 64 Y=Lib.bitLen Y:=rfl;rw [hL] at l1 l2 l3
   have l4:Lib.bitLen Y<=32:=by
    rcases Nat.lt_or_ge 32 (Lib.bitLen Y) with h | h
    . have:2 ^ 32<=2 ^ (Lib.bitLen Y - 1):=Nat.pow_le_pow_right (by omega) (by omega)
      omega
    . exact h
   generalize Lib.bitLen Y=n at *
   have h:=aG _ (aaz a (32 - n) (by omega)) (Bc a) (by
    rw [aU,hY];unfold akV;rw [show Nat.blt (32 - n) 32=true from aI.2 (by omega)];refine eP (aay ?_) (Qg _ (32 - n) (by omega) (by rw [show 32 - (32 - n)=n by omega]; exact_mod_cast l3) _ (by omega) (by omega));rw [show 31 - (32 - n)=n - 1 by omega]
    have e:(Y:Int) / 2 ^ (n - 1)=1:=by
     have:Y / 2 ^ (n - 1)=1:=by
      have hp:2 ^ n=2 * 2 ^ (n - 1):=by rw [<- Nat.pow_succ']; congr 1; omega
      refine Nat.div_eq_of_lt_le (by omega) (by omega)
     rw [show (Y:Int) / 2 ^ (n - 1)=((Y / 2 ^ (n - 1):Nat):Int) by simp,this]; rfl
    rw [e]; rfl) w
   have e:Int.ofNat (32 - n)=32 - (n:Int):=by simp; omega
   rw [e] at h;exact h
noncomputable def arb:fA:=Fb 248 (fun a=>.int .i32 (jJ a).v) (fun _=>gG _) ara
inductive PA where
 | w (x:Wd)
 | a (l:List Wd)
def PA.val:PA->Value
 | .w x=>.int .i32 x.v
 | .a l=>.agg (l.map fun x=>.int .i32 x.v).toArray
def pws:List Value->Option (List Wd)
 | []=>some []
 | .int .i32 n :: l=>match pws l with | some r=>some (kW n :: r) | none=>none
 | _ :: _=>none
def Ov:List Value->Option (List PA)
 | []=>some []
 | .int .i32 n :: l=>match Ov l with | some r=>some (.w (kW n) :: r) | none=>none
 | .agg ds :: l=>match pws ds.toList with
  | some q=>match Ov l with | some r=>some (.a q :: r) | none=>none
  | none=>none
 | _ :: _=>none
theorem af6:∀ {l:List Value} {r:List Wd},pws l=some r->(∀ u∈l,dS u)->l=r.map fun x=>.int .i32 x.v
 | [],r,h,hg=>by injection h with h; subst h; rfl
 | .int .i32 n :: l,r,h,hg=>by
  unfold pws at h
  cases hl:pws l with
  | none=>rw [hl] at h; cases h
  | some q =>
   rw [hl] at h;injection h with h;subst h;rw [List.map_cons,<- af6 hl (fun u hu=>hg u (by simp [hu])),uy (hg (.int .i32 n) (by simp))]
 | .int .i8 _ :: _,_,h,_=>by cases h
 | .int .i16 _ :: _,_,h,_=>by cases h
 | .int .i64 _ :: _,_,h,_=>by cases h
 | .int .u8 _ :: _,_,h,_=>by cases h
 | .int .u16 _ :: _,_,h,_=>by cases h
 | .int .u32 _ :: _,_,h,_=>by cases h
 | .int .u64 _ :: _,_,h,_=>by cases h
 | .bool _ :: _,_,h,_=>by cases h
 | .float _ _ :: _,_,h,_=>by cases h
 | .complex _ _ _ :: _,_,h,_=>by cases h
 | .string _ :: _,_,h,_=>by cases h
 | .pointer _ :: _,_,h,_=>by cases h
 | .slice _ _ _ :: _,_,h,_=>by cases h
 | .map _ :: _,_,h,_=>by cases h
 | .chan _ :: _,_,h,_=>by cases h
 | .func _ _ _ :: _,_,h,_=>by cases h
 | .nilFunc :: _,_,h,_=>by cases h
 | .iface _ _ :: _,_,h,_=>by cases h
 | .nilIface :: _,_,h,_=>by cases h
 | .tuple _ :: _,_,h,_=>by cases h
 | .agg _ :: _,_,h,_=>by cases h
theorem Xo:∀ {l:List Value} {r:List PA},Ov l=some r->(∀ u∈l,good1 u)->l=r.map PA.val
 | [],r,h,hg=>by injection h with h; subst h; rfl
 | .int .i32 n :: l,r,h,hg=>by
  unfold Ov at h
  cases hl:Ov l with
  | none=>rw [hl] at h; cases h
  | some q =>
   rw [hl] at h;injection h with h;subst h;rw [List.map_cons,<- Xo hl (fun u hu=>hg u (by simp [hu]))];show _=Value.int .i32 (kW n).v :: l;rw [uy (gY (hg (.int .i32 n) (by simp)))]
 | .agg ds :: l,r,h,hg=>by
  unfold Ov at h
  cases hd:pws ds.toList with
  | none=>rw [hd] at h; cases h
  | some d =>
   rw [hd] at h;simp only [] at h
   cases hl:Ov l with
   | none=>rw [hl] at h; cases h
   | some q =>
    rw [hl] at h;injection h with h;subst h
    have hgd:∀ u∈ds.toList,dS u:=by
     rcases hg (.agg ds) (by simp) with h | ⟨ds',h,hd'⟩
     . cases h
     . injection h with h; subst h; exact hd'
    rw [List.map_cons,<- Xo hl (fun u hu=>hg u (by simp [hu]))];show _=Value.agg (d.map fun x=>.int .i32 x.v).toArray :: l;rw [<- af6 hd hgd]
 | .int .i8 _ :: _,_,h,_=>by cases h
 | .int .i16 _ :: _,_,h,_=>by cases h
 | .int .i64 _ :: _,_,h,_=>by cases h
 | .int .u8 _ :: _,_,h,_=>by cases h
 | .int .u16 _ :: _,_,h,_=>by cases h
 | .int .u32 _ :: _,_,h,_=>by cases h
 | .int .u64 _ :: _,_,h,_=>by cases h
 | .bool _ :: _,_,h,_=>by cases h
 | .float _ _ :: _,_,h,_=>by cases h
 | .complex _ _ _ :: _,_,h,_=>by cases h
 | .string _ :: _,_,h,_=>by cases h
 | .pointer _ :: _,_,h,_=>by cases h
 | .slice _ _ _ :: _,_,h,_=>by cases h
 | .map _ :: _,_,h,_=>by cases h
 | .chan _ :: _,_,h,_=>by cases h
 | .func _ _ _ :: _,_,h,_=>by cases h
 | .nilFunc :: _,_,h,_=>by cases h
 | .iface _ _ :: _,_,h,_=>by cases h
 | .nilIface :: _,_,h,_=>by cases h
 | .tuple _ :: _,_,h,_=>by cases h
def fP (R:List PA->Option Value) (us:List Value):Option Value:=match Ov us with | some ps=>R ps | none=>none
def Qh (f:FuncId) (R:List PA->Option Value) (h:∀ ps v,R ps=some v->iw v/\∀ w:World,Calls Tryz.prog f (ps.map PA.val).toArray w fun e w'=>e=.returned v/\ah w w' []):fA where
 f:=f
 fn:=fP R
 ok:=fun us v hv hg=>by
  unfold fP at hv
  cases hp:Ov us with
  | none=>rw [hp] at hv; cases hv
  | some ps =>
   rw [hp] at hv;have:=h ps v hv;rw [<- Xo hp hg] at this;exact this
theorem anm (l:List Wd):good1 (.agg (l.map fun x=>.int .i32 x.v).toArray):=.inr ⟨_,rfl,fun u hu=>by
 simp only [List.mem_map] at hu;obtain ⟨x,_,rfl⟩:=hu
 exact gX x⟩
theorem ano (l:List Wd):iw (.agg (l.map fun x=>.int .i32 x.v).toArray):=.inl (anm l)
theorem aaB (a b:Wd):iw (.tuple #[.int .i32 a.v,.int .i32 b.v]):=.inr ⟨_,rfl,fun u hu=>by
 simp at hu;rcases hu with rfl | rfl
 . exact .inl (gX _)
 . exact .inl (gX _)⟩
def wl (l:List Wd):List Value:=l.map fun x=>.int .i32 x.v
theorem Ec (l:List Wd):fC (wl l):=fun v hv=>by
 obtain ⟨x,_,rfl⟩:=List.mem_map.1 hv;exact gX x
def fD (a b:Int):Int:=(gK (kW a) (kW b)).v
def bV (a b:Int):Int:=(rE (kW a) (kW b)).v
def aJ (a b:Int):Int:=(aQ (kW a) (kW b)).v
def yB (a b:Int):Int:=(nU (kW a) (kW b)).v
def Qi (a b:Int):Int:=(wz (kW a) (kW b)).v
def lQ (a b:Int):Int:=(wB (kW a) (kW b)).v
def Ox (c:Int):Int:=IntKind.i32.wrap (c - IntKind.i32.wrap (c.tmod 2))
def ac7 (c:Int):Int:=Ox (IntKind.i32.wrap (c - 32))
def ard:List (FuncId × Sh):=[(248,.one),(114,.one),(250,.one)]
noncomputable def arf:List fA:=[arb,acV,aq3]
theorem ac8 (a:Wd):bJ (dn [] ard [(2,true)]) (bg arf) 100 244 [.opq 0] [.int .i32 a.v]=some (.tuple #[.int .i32 (Qi (yB a.v (ac7 (jJ (kW a.v)).v)) 2),.int .i32 (IntKind.i32.wrap ((ac7 (jJ (kW a.v)).v).tdiv 2))],[Dn 21 .i32 (jJ (kW a.v)).v 32 true]):=by kernel_rfl
theorem ac9 (a:Wd):bJ (dn [] ard [(2,false)]) (bg arf) 100 244 [.opq 0] [.int .i32 a.v]=some (.tuple #[.int .i32 (Qi (yB a.v (Ox (jJ (kW a.v)).v)) 2),.int .i32 (IntKind.i32.wrap ((Ox (jJ (kW a.v)).v).tdiv 2))],[Dn 21 .i32 (jJ (kW a.v)).v 32 false]):=by kernel_rfl
def Oy (x:Wd):Wd:=wz (Tq x) (kW 1)
theorem anp:∀ c:Fin 32,Ox (Int.ofNat c.val)=tY (Int.ofNat c.val) 30/\IntKind.i32.wrap ((Ox (Int.ofNat c.val)).tdiv 2)=wu (tY (Int.ofNat c.val) 30) 1:=by decide +kernel
theorem arh (a:Wd):0<=(jJ a).v/\(jJ a).v<=32:=by
 have h:=Any.bitLen_le32 (a.v % 4294967296) (by omega) (by omega);show 0<=32 - (Lib.bitLen (a.v % 4294967296).toNat:Int)/\32 - (Lib.bitLen (a.v % 4294967296).toNat:Int)<=32;omega
theorem ajn (a:Wd) (w:World):Calls Tryz.prog 244 #[.int .i32 a.v] w fun e w'=>e=.returned (.tuple #[.int .i32 (NR a).v,.int .i32 (Oy a).v])/\ah w w' []:=by
 have hc:=arh a
 have key:∀ T:Int,T=(Tq a).v->IntKind.i32.wrap (T.tdiv 2)=(Oy a).v->Value.tuple #[.int .i32 (Qi (yB a.v T) 2),.int .i32 (IntKind.i32.wrap (T.tdiv 2))]=.tuple #[.int .i32 (NR a).v,.int .i32 (Oy a).v]:=fun T h1 h2=>by
  rw [h2,h1];unfold Qi yB;rw [aU,aU,aU];rfl
 by_cases h32:32<=(jJ a).v
 . have e:(jJ a).v=32:=by omega
   have h:=aG _ (ac8 a) (Bc a) (gy (rO (by rw [aU]; simpa using h32))) w;rw [aU] at h;rw [key _ ?_ ?_] at h
   . exact h
   . rw [e]; show ac7 32=tY (jJ a).v (kW 30).v; rw [e]; decide +kernel
   . rw [e]; show _=wu (tY (jJ a).v (kW 30).v) (kW 1).v; rw [e]; decide +kernel
 . obtain ⟨q1,q2⟩:=anp ⟨(jJ a).v.toNat,by omega⟩
   have e:Int.ofNat (jJ a).v.toNat=(jJ a).v:=by simp; omega
   simp only [e] at q1 q2;have h:=aG _ (ac9 a) (Bc a) (gy (rO (by rw [aU]; simpa using h32))) w;rw [aU] at h;have k30:(kW 30).v=30:=jq (by decide);have k1:(kW 1).v=1:=jq (by decide);rw [key _ (q1.trans (by show _=tY (jJ a).v (kW 30).v; rw [k30])) (q2.trans (by show _=wu (tY (jJ a).v (kW 30).v) (kW 1).v; rw [k30,k1]))] at h;exact h
noncomputable def ari:fA:=Fb 244 (fun a=>.tuple #[.int .i32 (NR a).v,.int .i32 (Oy a).v]) (fun a=>aaB _ _) ajn
theorem Oz (a:Wd) {n:Int} (h:aB n):BR a n=nU a (kW n):=Wd.dw (by show tX a.v n=tX a.v (kW n).v; rw [jq h])
theorem jF (a:Wd) {n:Int} (h:aB n):qo a n=wB a (kW n):=Wd.dw (by show wo a.v n=wo a.v (kW n).v; rw [jq h])
def Rz (u:Int):Nat->Int
 | 0=>bV 1184766729 (aJ 715827883 u)
 | n+1=>fD (Rz u n) (lQ (aJ (Rz u n) (bV 1073741824 (yB (aJ u (aJ (Rz u n) (Rz u n))) 2))) 1)
def rsS:List (FuncId × Sh):=[(244,.two .one .one),(243,.one),(120,.one),(125,.one),(114,.one),(123,.one)]
noncomputable def rsT:List fA:=[ari,ac1,acY,ajb,acV,acW]
theorem af7 (a:Wd):bJ (dn [] rsS []) (bg rsT) 100 187 [.opq 0] [.int .i32 a.v]=some (.tuple #[.int .i32 (Rz (NR (kW a.v)).v 4),.int .i32 (Oy (kW a.v)).v],[]):=by kernel_rfl
theorem af8 (u:Wd):∀ n,Rz u.v n=(Tt u n).v
 | 0=>by unfold Rz bV aJ; rw [aU,aU]; rfl
 | n+1=>by
  unfold Rz fD lQ aJ bV yB;rw [af8 u n];simp only [aU];rw [Tt,V7,Oz _ (by decide),jF _ (by decide)]
theorem Xp (a:Wd) (w:World):Calls Tryz.prog 187 #[.int .i32 a.v] w fun e w'=>e=.returned (.tuple #[.int .i32 (dA a).1.v,.int .i32 (dA a).2.v])/\ah w w' []:=by
 have h:=aG _ (af7 a) (Bc a) pR w;rw [aU,af8] at h;exact h
noncomputable def Xq:fA:=Fb 187 (fun a=>.tuple #[.int .i32 (dA a).1.v,.int .i32 (dA a).2.v]) (fun a=>aaB _ _) Xp
theorem af9 (a z h:Wd):bJ (dn [] rsS []) (bg rsT) 100 189 [.opq 0,.opq 1,.opq 2] [.int .i32 a.v,.int .i32 z.v,.int .i32 h.v]=some (.int .i32 (yB (aJ a.v z.v) h.v),[]):=by kernel_rfl
theorem Xr (a z h:Wd) (w:World):Calls Tryz.prog 189 #[.int .i32 a.v,.int .i32 z.v,.int .i32 h.v] w fun e w'=>e=.returned (.int .i32 (gQ a z h).v)/\ah w w' []:=by
 have h:=aG _ (af9 a z h) (Qe a z h) pR w;unfold yB aJ at h;simp only [aU] at h;exact h
noncomputable def Xt:fA:=av2 189 (fun a b c=>.int .i32 (gQ a b c).v) (fun _ _ _=>gG _) Xr
theorem ajo (a:Wd):bJ (dn [] [(187,.two .one .one),(189,.one)] []) (bg [Xq,Xt]) 100 193 [.opq 0] [.int .i32 a.v]=some (.int .i32 (gQ (kW a.v) (kW (dA (kW a.v)).1.v) (kW (dA (kW a.v)).2.v)).v,[]):=by kernel_rfl
theorem anq (a:Wd) (w:World):Calls Tryz.prog 193 #[.int .i32 a.v] w fun e w'=>e=.returned (.int .i32 (B_ a).v)/\ah w w' []:=by
 have h:=aG _ (ajo a) (Bc a) pR w;simp only [aU] at h;exact h
noncomputable def akW:fA:=Fb 193 (fun a=>.int .i32 (B_ a).v) (fun _=>gG _) anq
def RV (F:Wd->Wd->Wd->Value):List PA->Option Value
 | [.a [x,y,z]]=>some (F x y z)
 | _=>none
def awi (f:FuncId) (F:Wd->Wd->Wd->Value) (hR:∀ a b c,iw (F a b c)) (h:∀ (a b c:Wd) (w:World),Calls Tryz.prog f #[.agg #[.int .i32 a.v,.int .i32 b.v,.int .i32 c.v]] w fun e w'=>e=.returned (F a b c)/\ah w w' []):fA :=
 Qh f (RV F) fun ps v hv=>by
  unfold RV at hv;split at hv
  . injection hv with hv
    subst hv;exact ⟨hR _ _ _,h _ _ _⟩
  . cases hv
def q4 (a b c d:Wd):Value:=.agg #[.int .i32 a.v,.int .i32 b.v,.int .i32 c.v,.int .i32 d.v]
def q3 (a b c:Wd):Value:=.agg #[.int .i32 a.v,.int .i32 b.v,.int .i32 c.v]
theorem Xv (a b c d:Wd):iw (q4 a b c d):=ano [a,b,c,d]
theorem OA (a b c:Wd):(dM a b c).v=uF a.v b.v c.v:=by
 show PG (PG (Aw a.v a.v) (Aw b.v b.v)) (Aw c.v c.v)=_;unfold PG Aw uF pq;generalize a.v * a.v=x;generalize b.v * b.v=y;generalize c.v * c.v=z;unfold wrap32;omega
theorem OB (a b c:Wd) (lo hi:Int) (h0:0<=lo/\lo<=2147483647) (h1:0<=hi/\hi<=2147483647) :
 inside lo hi a.v b.v c.v=Cm (dM a b c) lo hi:=by
 have e:=OA a b c;have k0:(kW lo).v=lo:=jq ⟨by omega,by omega⟩;have k1:(kW hi).v=hi:=jq ⟨by omega,by omega⟩;have hw:(rG (dM a b c) (kW lo) (kW hi)).v=rX (BP (mX (dM a b c).v (kW lo).v) (mX (kW hi).v (dM a b c).v)) (kW 1).v:=rfl;unfold Cm;rw [hw,e,k0,k1];unfold inside mX;have m0:lo % 4294967296=lo:=by omega
 have m1:hi % 4294967296=hi:=by omega
 rw [m0,m1];generalize uF a.v b.v c.v % 4294967296=p;by_cases u:p < lo<;>by_cases v:hi < p
 . rw [if_pos u,if_pos v,show rX (BP 1 1) (kW 1).v=0 by decide +kernel]; simp; omega
 . rw [if_pos u,if_neg v,show rX (BP 1 0) (kW 1).v=0 by decide +kernel]; simp; omega
 . rw [if_neg u,if_pos v,show rX (BP 0 1) (kW 1).v=0 by decide +kernel]; simp; omega
 . rw [if_neg u,if_neg v,show rX (BP 0 0) (kW 1).v=-1 by decide +kernel]; simp; omega
noncomputable def arj:fA:=awi 188 (fun a b c=>.int .i32 (dM a b c).v) (fun _ _ _=>gG _) fun a b c w=>by
 rw [OA];exact (Gt a.v b.v c.v w a.ok b.ok c.ok)
def scK (a z h:Int):Int:=(gQ (kW a) (kW z) (kW h)).v
def gu (a b c:Wd) (v:Int):Value:=.int .i32 (scK (yB v 15) (dA (kW (dM (kW a.v) (kW b.v) (kW c.v)).v)).1.v (dA (kW (dM (kW a.v) (kW b.v) (kW c.v)).v)).2.v)
theorem af_ (a b c:Wd):bJ (dn [] [(188,.one),(187,.two .one .one),(114,.one),(189,.one)] []) (bg [arj,Xq,acV,Xt]) 200 117 [.agg [.opq 0,.opq 1,.opq 2]] [.int .i32 a.v,.int .i32 b.v,.int .i32 c.v] =
 some (.agg #[gu a b c a.v,gu a b c b.v,gu a b c c.v],[]):=by kernel_rfl
theorem ajs (a b c:Wd) (w:World):Calls Tryz.prog 117 #[.agg #[.int .i32 a.v,.int .i32 b.v,.int .i32 c.v]] w fun e w'=>e=.returned (q3 (mJ a b c).a (mJ a b c).b (mJ a b c).c)/\ah w w' []:=by
 have h:=aG _ (af_ a b c) (Qe a b c) pR w;unfold gu scK yB at h;simp only [aU] at h
 have e:q3 (mJ a b c).a (mJ a b c).b (mJ a b c).c=q3 (gQ (nU a (kW 15)) (dA (dM a b c)).1 (dA (dM a b c)).2) (gQ (nU b (kW 15)) (dA (dM a b c)).1 (dA (dM a b c)).2) (gQ (nU c (kW 15)) (dA (dM a b c)).1 (dA (dM a b c)).2):=by
  unfold mJ;rw [Oz a (by decide:aB 15),Oz b (by decide:aB 15),Oz c (by decide:aB 15)]
 rw [e];exact h
def RQ (F:Wd->Wd->Wd->Wd->Value):List PA->Option Value
 | [.a [a,b,c,d]]=>some (F a b c d)
 | _=>none
def ark (f:FuncId) (F:Wd->Wd->Wd->Wd->Value) (hR:∀ a b c d,iw (F a b c d)) (h:∀ (a b c d:Wd) (w:World),Calls Tryz.prog f #[q4 a b c d] w fun e w'=>e=.returned (F a b c d)/\ah w w' []):fA :=
 Qh f (RQ F) fun ps v hv=>by
  unfold RQ at hv;split at hv
  . injection hv with hv
    subst hv;exact ⟨hR _ _ _ _,h _ _ _ _⟩
  . cases hv
def RQV (F:Wd->Wd->Wd->Wd->Wd->Wd->Wd->Value):List PA->Option Value
 | [.a [a,b,c,d],.a [x,y,z]]=>some (F a b c d x y z)
 | _=>none
def atI (f:FuncId) (F:Wd->Wd->Wd->Wd->Wd->Wd->Wd->Value) (hR:∀ a b c d x y z,iw (F a b c d x y z)) (h:∀ (a b c d x y z:Wd) (w:World),Calls Tryz.prog f #[q4 a b c d,q3 x y z] w fun e w'=>e=.returned (F a b c d x y z)/\ah w w' []):fA :=
 Qh f (RQV F) fun ps v hv=>by
  unfold RQV at hv;split at hv
  . injection hv with hv
    subst hv;exact ⟨hR _ _ _ _ _ _ _,h _ _ _ _ _ _ _⟩
  . cases hv
def RQQ (F:Wd->Wd->Wd->Wd->Wd->Wd->Wd->Wd->Value):List PA->Option Value
 | [.a [a,b,c,d],.a [x,y,z,t]]=>some (F a b c d x y z t)
 | _=>none
def atJ (f:FuncId) (F:Wd->Wd->Wd->Wd->Wd->Wd->Wd->Wd->Value) (hR:∀ a b c d x y z t,iw (F a b c d x y z t)) (h:∀ (a b c d x y z t:Wd) (w:World),Calls Tryz.prog f #[q4 a b c d,q4 x y z t] w fun e w'=>e=.returned (F a b c d x y z t)/\ah w w' []):fA :=
 Qh f (RQQ F) fun ps v hv=>by
  unfold RQQ at hv;split at hv
  . injection hv with hv
    subst hv;exact ⟨hR _ _ _ _ _ _ _ _,h _ _ _ _ _ _ _ _⟩
  . cases hv
abbrev v3 (a b c:Wd):Value:=q3 a b c
def qv (x:Q4):Value:=q4 x.a x.b x.c x.d
def qI (a b c d:Int):Value:=.agg #[.int .i32 a,.int .i32 b,.int .i32 c,.int .i32 d]
theorem Xw (x:Q4):iw (qv x):=Xv _ _ _ _
def Bd (a:Int):Int:=(jZ (kW a)).v
def in4 (a b c d:Wd):List Value:=[.int .i32 a.v,.int .i32 b.v,.int .i32 c.v,.int .i32 d.v]
def in7 (a b c d x y z:Wd):List Value:=[.int .i32 a.v,.int .i32 b.v,.int .i32 c.v,.int .i32 d.v,.int .i32 x.v,.int .i32 y.v,.int .i32 z.v]
def in8 (a b c d x y z t:Wd):List Value:=[.int .i32 a.v,.int .i32 b.v,.int .i32 c.v,.int .i32 d.v,.int .i32 x.v,.int .i32 y.v,.int .i32 z.v,.int .i32 t.v]
theorem ajt (a b c d:Wd):fC (in4 a b c d):=Ec [a,b,c,d]
theorem aju (a b c d x y z:Wd):fC (in7 a b c d x y z):=Ec [a,b,c,d,x,y,z]
theorem awj (a b c d x y z t:Wd):fC (in8 a b c d x y z t):=Ec [a,b,c,d,x,y,z,t]
def wS:List (FuncId × Sh):=[(243,.one),(120,.one),(125,.one),(194,.one),(123,.one)]
noncomputable def wT:List fA:=[ac1,acY,ajb,ajc,acW]
theorem aga (a b c d:Wd):bJ (dn [] wS []) (bg wT) 300 196 [.agg (bQ 4 0)] (in4 a b c d)=some (.int .i32 (fD (fD (fD (aJ a.v a.v) (aJ b.v b.v)) (aJ c.v c.v)) (aJ d.v d.v)),[]):=by kernel_rfl
theorem Xx (a b c d:Wd) (w:World):Calls Tryz.prog 196 #[q4 a b c d] w fun e w'=>e=.returned (.int .i32 (ji a [b,c,d]).v)/\ah w w' []:=by
 have h:=aG _ (aga a b c d) (ajt a b c d) pR w;unfold fD aJ at h;simp only [aU] at h;exact h
noncomputable def arl:fA:=ark 196 (fun a b c d=>.int .i32 (ji a [b,c,d]).v) (fun _ _ _ _=>gG _) Xx
theorem ajv (a b c d:Wd):bJ (dn [] wS []) (bg wT) 300 192 [.agg (bQ 4 0)] (in4 a b c d)=some (qI a.v (Bd b.v) (Bd c.v) (Bd d.v),[]):=by kernel_rfl
theorem anr (a b c d:Wd) (w:World):Calls Tryz.prog 192 #[q4 a b c d] w fun e w'=>e=.returned (q4 a (jZ b) (jZ c) (jZ d))/\ah w w' []:=by
 have h:=aG _ (ajv a b c d) (ajt a b c d) pR w;unfold Bd at h;simp only [aU] at h;exact h
noncomputable def atK:fA:=ark 192 (fun a b c d=>q4 a (jZ b) (jZ c) (jZ d)) (fun _ _ _ _=>Xv _ _ _ _) anr
def agb (p0 p1 p2 p3 q0 q1 q2 q3:Int):Value:=qI
 (bV (bV (bV (aJ p0 q0) (aJ p1 q1)) (aJ p2 q2)) (aJ p3 q3))
 (bV (fD (fD (aJ p0 q1) (aJ p1 q0)) (aJ p2 q3)) (aJ p3 q2))
 (fD (fD (bV (aJ p0 q2) (aJ p1 q3)) (aJ p2 q0)) (aJ p3 q1))
 (fD (bV (fD (aJ p0 q3) (aJ p1 q2)) (aJ p2 q1)) (aJ p3 q0))
theorem agc (p0 p1 p2 p3 q0 q1 q2 q3:Wd):bJ (dn [] wS []) (bg wT) 300 191 [.agg (bQ 4 0),.agg (bQ 4 4)] (in8 p0 p1 p2 p3 q0 q1 q2 q3)=some (agb p0.v p1.v p2.v p3.v q0.v q1.v q2.v q3.v,[]):=by kernel_rfl
theorem ajw (p0 p1 p2 p3 q0 q1 q2 q3:Wd) (w:World):Calls Tryz.prog 191 #[q4 p0 p1 p2 p3,q4 q0 q1 q2 q3] w fun e w'=>e=.returned (qv (NP p0 p1 p2 p3 q0 q1 q2 q3))/\ah w w' []:=by
 have h:=aG _ (agc p0 p1 p2 p3 q0 q1 q2 q3) (awj p0 p1 p2 p3 q0 q1 q2 q3) pR w;unfold agb fD bV aJ at h;simp only [aU] at h;exact h
noncomputable def arn:fA:=atJ 191 (fun a b c d x y z t=>qv (NP a b c d x y z t)) (fun _ _ _ _ _ _ _ _=>Xw _) ajw
def akZ (q0 q1 q2 q3 w0 w1 w2:Int):Value:=qI
 (bV (bV (bV 0 (aJ q1 w0)) (aJ q2 w1)) (aJ q3 w2))
 (bV (fD (aJ q0 w0) (aJ q2 w2)) (aJ q3 w1))
 (fD (bV (aJ q0 w1) (aJ q1 w2)) (aJ q3 w0))
 (bV (fD (aJ q0 w2) (aJ q1 w1)) (aJ q2 w0))
theorem ajx (q0 q1 q2 q3 w0 w1 w2:Wd):bJ (dn [] wS []) (bg wT) 300 115 [.agg (bQ 4 0),.agg (bQ 3 4)] (in7 q0 q1 q2 q3 w0 w1 w2)=some (akZ q0.v q1.v q2.v q3.v w0.v w1.v w2.v,[]):=by kernel_rfl
theorem aaC (q0 q1 q2 q3 w0 w1 w2:Wd) (w:World):Calls Tryz.prog 115 #[q4 q0 q1 q2 q3,v3 w0 w1 w2] w fun e w'=>e=.returned (qv (wY q0 q1 q2 q3 w0 w1 w2))/\ah w w' []:=by
 have h:=aG _ (ajx q0 q1 q2 q3 w0 w1 w2) (aju q0 q1 q2 q3 w0 w1 w2) pR w;unfold akZ fD bV aJ at h;simp only [aU] at h;exact h
noncomputable def atL:fA:=atI 115 (fun a b c d x y z=>qv (wY a b c d x y z)) (fun _ _ _ _ _ _ _=>Xw _) aaC
def ajy (q0 q1 q2 q3 a:Int):Int:=bV (bV (aJ q1 q3) (aJ q0 q2)) (lQ a 1)
def ajz (q0 q1 q2 q3 a:Int):Int:=bV (fD (aJ q0 q1) (aJ q2 q3)) (lQ a 1)
def ajA (q1 q2 a:Int):Int:=bV (bV (bV 536870912 (aJ q1 q1)) (aJ q2 q2)) (lQ a 1)
def imK (q0 q1 q2 q3 f0 f1 f2:Int):Value:=qI (lQ (bV (aJ q1 f1) (aJ q2 f0)) 1) (bV (lQ (fD (aJ q3 f0) (aJ q0 f1)) 1) (aJ q1 f2)) (bV (lQ (bV (aJ q3 f1) (aJ q0 f0)) 1) (aJ q2 f2)) (lQ (fD (aJ q1 f0) (aJ q2 f1)) 1)
theorem ant (q0 q1 q2 q3 a0 a1 a2:Wd):bJ (dn [] wS []) (bg wT) 300 116 [.agg (bQ 4 0),.agg (bQ 3 4)] (in7 q0 q1 q2 q3 a0 a1 a2)=some (imK q0.v q1.v q2.v q3.v (ajy q0.v q1.v q2.v q3.v a0.v) (ajz q0.v q1.v q2.v q3.v a1.v) (ajA q1.v q2.v a2.v),[]):=by kernel_rfl
theorem arp (q0 q1 q2 q3 a0 a1 a2:Wd) (w:World):Calls Tryz.prog 116 #[q4 q0 q1 q2 q3,v3 a0 a1 a2] w fun e w'=>e=.returned (qv (NQ q0 q1 q2 q3 a0 a1 a2))/\ah w w' []:=by
 have h:=aG _ (ant q0 q1 q2 q3 a0 a1 a2) (aju q0 q1 q2 q3 a0 a1 a2) pR w
 have e0:ajy q0.v q1.v q2.v q3.v a0.v=(H6 q0 q1 q2 q3 a0).v:=by
  unfold ajy bV aJ lQ H6; simp only [aU]; rw [jF _ (by decide:aB 1)]; rfl
 have e1:ajz q0.v q1.v q2.v q3.v a1.v=(H7 q0 q1 q2 q3 a1).v:=by
  unfold ajz bV fD aJ lQ H7; simp only [aU]; rw [jF _ (by decide:aB 1)]; rfl
 have e2:ajA q1.v q2.v a2.v=(H8 q1 q2 a2).v:=by
  unfold ajA bV aJ lQ H8; simp only [aU]; rw [jF _ (by decide:aB 1)]; rfl
 rw [e0,e1,e2] at h
 have e:qv (NQ q0 q1 q2 q3 a0 a1 a2)=imK q0.v q1.v q2.v q3.v (H6 q0 q1 q2 q3 a0).v (H7 q0 q1 q2 q3 a1).v (H8 q1 q2 a2).v:=by
  unfold NQ;generalize H6 q0 q1 q2 q3 a0=f0;generalize H7 q0 q1 q2 q3 a1=f1;generalize H8 q1 q2 a2=f2;unfold imK afh bV fD aJ lQ;simp only [aU];rw [jF _ (by decide:aB 1),jF _ (by decide:aB 1),jF _ (by decide:aB 1),jF _ (by decide:aB 1)];rfl
 rw [e];exact h
def evS:List (FuncId × Sh):=[(196,.one),(120,.one),(187,.two .one .one),(189,.one)]
noncomputable def awk:List fA:=[arl,acY,Xq,Xt]
def evN (a b c d:Int):Wd:=kW (fD (ji (kW a) [kW b,kW c,kW d]).v 1024)
def evP (a b c d x:Int):Int:=scK x (dA (evN a b c d)).1.v (dA (evN a b c d)).2.v
theorem agf (a b c d:Wd):bJ (dn [] evS []) (bg awk) 300 121 [.agg (bQ 4 0)] (in4 a b c d)=some (qI (evP a.v b.v c.v d.v a.v) (evP a.v b.v c.v d.v b.v) (evP a.v b.v c.v d.v c.v) (evP a.v b.v c.v d.v d.v),[]):=by kernel_rfl
theorem ajB (a b c d:Wd) (w:World):Calls Tryz.prog 121 #[q4 a b c d] w fun e w'=>e=.returned (qv (Tv a b c d))/\ah w w' []:=by
 have h:=aG _ (agf a b c d) (ajt a b c d) pR w;unfold evP evN scK fD at h;simp only [aU] at h;exact h
def mgR (q0 q1 q2 q3 f0 f1 f2:Int):Q4:=wY (kW q0) (kW q1) (kW q2) (kW q3) (kW f0) (kW f1) (kW f2)
def mgH (r:Q4) (q0 q1 q2 q3:Int):Q4:=NP (kW r.a.v) (kW r.b.v) (kW r.c.v) (kW r.d.v) (kW (kW q0).v) (kW (Bd q1)) (kW (Bd q2)) (kW (Bd q3))
def mgB (h:Q4):Int:=(B_ (kW (fD (aJ h.b.v h.b.v) (aJ h.c.v h.c.v)))).v
def ajC (q0 q1 q2 q3 bx bz f:Int):Int:=bV (fD (aJ bx (bV (bV 536870912 (aJ q2 q2)) (aJ q3 q3))) (aJ bz (bV (aJ q1 q3) (aJ q0 q2)))) (lQ f 1)
def ajD (q0 q1 q2 q3 bx bz f:Int):Int:=bV (fD (aJ bx (bV (aJ q1 q2) (aJ q0 q3))) (aJ bz (fD (aJ q0 q1) (aJ q2 q3)))) (lQ f 1)
def ajE (q0 q1 q2 q3 bx bz f:Int):Int:=bV (fD (aJ bx (fD (aJ q0 q2) (aJ q1 q3))) (aJ bz (bV (bV 536870912 (aJ q1 q1)) (aJ q2 q2)))) (lQ f 1)
def Xy (a b c e0 e1 e2:Int):Int:=lQ (fD (fD (aJ a e0) (aJ b e1)) (aJ c e2)) 1
def ajF (x0 x1 x2 x3 y0 y1 y2 y3 e0 e1 e2:Int):Value:=qI
 (Xy (Bd y2) (bV y1 x3) x2 e0 e1 e2)
 (Xy y3 (fD x2 y0) (bV (bV x3 y1) y1) e0 e1 e2)
 (Xy (Bd (fD (fD x2 x2) y0)) (fD x1 y3) (bV (bV x0 y2) y2) e0 e1 e2)
 (Xy (bV (bV y1 x3) x3) (bV y2 x0) x1 e0 e1 e2)
def mgK (q0 q1 q2 q3 f0 f1 f2 bx bz:Int):Value:=ajF (aJ bx q0) (aJ bx q1) (aJ bx q2) (aJ bx q3) (aJ bz q0) (aJ bz q1) (aJ bz q2) (aJ bz q3) (ajC q0 q1 q2 q3 bx bz f0) (ajD q0 q1 q2 q3 bx bz f1) (ajE q0 q1 q2 q3 bx bz f2)
def adb (q0 q1 q2 q3 f0 f1 f2:Int) (h:Q4):Value:=mgK q0 q1 q2 q3 f0 f1 f2 (mgB h) h.d.v
def mgS:List (FuncId × Sh):=(115,.agg 4) :: (191,.agg 4) :: (192,.agg 4) :: (193,.one) :: wS
noncomputable def mgT:List fA:=atL :: arn :: atK :: akW :: wT
theorem anu (q0 q1 q2 q3 f0 f1 f2:Wd):bJ (dn [] mgS []) (bg mgT) 400 119 [.agg (bQ 4 0),.agg (bQ 3 4)] (in7 q0 q1 q2 q3 f0 f1 f2)=some (adb q0.v q1.v q2.v q3.v f0.v f1.v f2.v (mgH (mgR q0.v q1.v q2.v q3.v f0.v f1.v f2.v) q0.v q1.v q2.v q3.v),[]):=by kernel_rfl
theorem anv (x y:Q4) (e:T3):ajF x.a.v x.b.v x.c.v x.d.v y.a.v y.b.v y.c.v y.d.v e.a.v e.b.v e.c.v=qv (Go.Proofs.YtjmojlhnmkjdkaaGreatDoor.nH x y e):=by
 unfold ajF Xy Bd bV fD aJ lQ Go.Proofs.YtjmojlhnmkjdkaaGreatDoor.nH sumW;simp only [aU];rw [jF _ (by decide:aB 1),jF _ (by decide:aB 1),jF _ (by decide:aB 1),jF _ (by decide:aB 1)];rfl
theorem atM (q0 q1 q2 q3 bx bz f0 f1 f2:Wd):ajC q0.v q1.v q2.v q3.v bx.v bz.v f0.v=(zK q0 q1 q2 q3 bx bz f0 f1 f2).a.v/\ajD q0.v q1.v q2.v q3.v bx.v bz.v f1.v=(zK q0 q1 q2 q3 bx bz f0 f1 f2).b.v/\ajE q0.v q1.v q2.v q3.v bx.v bz.v f2.v=(zK q0 q1 q2 q3 bx bz f0 f1 f2).c.v:=by
 unfold ajC ajD ajE bV fD aJ lQ zK;simp only [aU];rw [jF f0 (by decide:aB 1),jF f1 (by decide:aB 1),jF f2 (by decide:aB 1)];exact ⟨rfl,rfl,rfl⟩
theorem atN (a b:Wd):aJ a.v b.v=(aQ a b).v:=by unfold aJ; rw [aU,aU]
theorem arv (q0 q1 q2 q3 f0 f1 f2 bx bz:Wd):mgK q0.v q1.v q2.v q3.v f0.v f1.v f2.v bx.v bz.v=qv (Go.Proofs.YtjmojlhnmkjdkaaGreatDoor.nH ⟨aQ bx q0,aQ bx q1,aQ bx q2,aQ bx q3⟩ ⟨aQ bz q0,aQ bz q1,aQ bz q2,aQ bz q3⟩ (zK q0 q1 q2 q3 bx bz f0 f1 f2)):=by
 obtain ⟨e0,e1,e2⟩:=atM q0 q1 q2 q3 bx bz f0 f1 f2;rw [<- anv];unfold mgK;rw [e0,e1,e2];simp only [atN]
theorem arw (q0 q1 q2 q3 f0 f1 f2:Wd):mgH (mgR q0.v q1.v q2.v q3.v f0.v f1.v f2.v) q0.v q1.v q2.v q3.v=xM q0 q1 q2 q3 f0 f1 f2:=by
 unfold mgH mgR Bd xM;simp only [aU]
theorem arx (h:Q4):mgB h=(B_ (ji h.b [h.c])).v:=by
 unfold mgB fD aJ;simp only [aU];rfl
theorem anw (q0 q1 q2 q3 f0 f1 f2:Wd) (w:World):Calls Tryz.prog 119 #[q4 q0 q1 q2 q3,v3 f0 f1 f2] w fun e w'=>e=.returned (qv (H9 q0 q1 q2 q3 f0 f1 f2))/\ah w w' []:=by
 have h:=aG _ (anu q0 q1 q2 q3 f0 f1 f2) (aju q0 q1 q2 q3 f0 f1 f2) pR w
 have e:adb q0.v q1.v q2.v q3.v f0.v f1.v f2.v (mgH (mgR q0.v q1.v q2.v q3.v f0.v f1.v f2.v) q0.v q1.v q2.v q3.v)=qv (H9 q0 q1 q2 q3 f0 f1 f2):=by
  unfold adb;rw [arw,arx];have e2:(xM q0 q1 q2 q3 f0 f1 f2).d=D5 q0 q1 q2 q3 f0 f1 f2:=rfl;have e3:B_ (ji (xM q0 q1 q2 q3 f0 f1 f2).b [(xM q0 q1 q2 q3 f0 f1 f2).c])=DZ q0 q1 q2 q3 f0 f1 f2:=rfl;rw [e2,e3,arv];unfold H9 afj afk afi;rfl
 rw [e] at h;exact h
def mq (x:Q4):MO:=.a [x.a,x.b,x.c,x.d]
def mt3 (x:T3):MO:=.a [x.a,x.b,x.c]
noncomputable def atS:pV:=ajG 196 (fun a b c d=>.w (ji a [b,c,d])) Xx
noncomputable def arC:pV:=ew1 187 (fun x=>.t [.w (dA x).1,.w (dA x).2]) Xp
noncomputable def arD:pV:=ew3 189 (fun a z h=>.w (gQ a z h)) Xr
def quS:List (FuncId × Sh):=[(196,.one),(187,.two .one .one),(189,.one)]
theorem agi (a b c d:Wd):FQ (dn [] quS []) [atS,arC,arD] 200 126 [.agg (bQ 4 0)] [a,b,c,d]=some (mq (NS a b c d),[]):=by kernel_rfl
theorem ajH (a b c d:Wd) (w:World):Calls Tryz.prog 126 #[q4 a b c d] w fun e w'=>e=.returned (mq (NS a b c d)).val/\ah w w' []:=sV (agi a b c d) XE rfl w
noncomputable def nxT:List pV:=[ew2 114 (fun a b=>.w (nU a b)) afX,ew2 123 (fun a b=>.w (wB a b)) afY,ew2 120 (fun a b=>.w (gK a b)) afZ,ew2 125 (fun a b=>.w (rE a b)) af0,
 ew3 124 (fun a b c=>.w (Eb a b c)) ajl,adh 115 (fun a b c d x y z=>mq (wY a b c d x y z)) aaC,awl 117 (fun a b c=>mt3 (mJ a b c)) ajs,
 adh 116 (fun a b c d x y z=>mq (NQ a b c d x y z)) arp,adh 119 (fun a b c d x y z=>mq (H9 a b c d x y z)) anw,ajG 121 (fun a b c d=>mq (Tv a b c d)) ajB,ajG 126 (fun a b c d=>mq (NS a b c d)) ajH]
def nxS:List (FuncId × Sh):=[(114,.one),(123,.one),(120,.one),(125,.one),(124,.one),(115,.agg 4),(117,.agg 3),(116,.agg 4),(119,.agg 4),(121,.agg 4),(126,.agg 4)]
def nxL (m t:Bool):List (FuncId × AV):=[(118,.lit (.bool m)),(122,.lit (.bool t))]
def nxG (m:Bool) (P N:Q4):Q4:=bif m then ⟨gK P.a N.a,gK P.b N.b,gK P.c N.c,gK P.d N.d⟩ else P
def nxB (t:Bool) (e:Wd):Wd:=bif t then wB e (kW 8) else kW 0
noncomputable def nxV (t:Bool) (q r e:Wd):Wd:=gK q (Eb (rE r (nxB t e)) (kW (-134217728)) (kW 134217728))
def nxR (q0 q1 q2 q3 u0 u1 u2:Wd):Q4:=wY q0 q1 q2 q3 (nU u0 (kW 12)) (nU u1 (kW 12)) (nU u2 (kW 12))
def nxE (G:Q4):Q4:=Tv G.a G.b G.c G.d
noncomputable def nxU (t:Bool) (q0 q1 q2 q3:Wd) (R E:Q4):Q4:=NS (nxV t q0 R.a E.a) (nxV t q1 R.b E.b) (nxV t q2 R.c E.c) (nxV t q3 R.d E.d)
noncomputable def nxW (m t:Bool) (q0 q1 q2 q3 u0 u1 u2 a0 a1 a2 v0 v1 v2:Wd):Q4:=nxU t q0 q1 q2 q3 (nxR q0 q1 q2 q3 u0 u1 u2) (nxE (nxG m (ZW q0 q1 q2 q3 a0 a1 a2) (ZX q0 q1 q2 q3 v0 v1 v2)))
def nxF (m t:Bool):Int:=(bif m then 0 else 4)+(bif t then 0 else 2)
def nxO (m t:Bool) (a0 a1 a2 v0 v1 v2:Wd):List OW:=[.call 122 [.a [a0,a1,a2]] (.bool t),.call 118 [.a [v0,v1,v2]] (.bool m)]
def nxA:List AV:=[.agg (bQ 4 0),.agg (bQ 9 4)]
theorem adi (q0 q1 q2 q3 u0 u1 u2 a0 a1 a2 v0 v1 v2:Wd):FQ (dn (nxL true true) nxS []) nxT 300 64 nxA [q0,q1,q2,q3,u0,u1,u2,a0,a1,a2,v0,v1,v2]=some (.t [mq (nxW true true q0 q1 q2 q3 u0 u1 u2 a0 a1 a2 v0 v1 v2),.v (.int .i64 0)],nxO true true a0 a1 a2 v0 v1 v2):=by kernel_rfl
theorem adk (q0 q1 q2 q3 u0 u1 u2 a0 a1 a2 v0 v1 v2:Wd):FQ (dn (nxL true false) nxS []) nxT 300 64 nxA [q0,q1,q2,q3,u0,u1,u2,a0,a1,a2,v0,v1,v2]=some (.t [mq (nxW true false q0 q1 q2 q3 u0 u1 u2 a0 a1 a2 v0 v1 v2),.v (.int .i64 2)],nxO true false a0 a1 a2 v0 v1 v2):=by kernel_rfl
theorem adl (q0 q1 q2 q3 u0 u1 u2 a0 a1 a2 v0 v1 v2:Wd):FQ (dn (nxL false true) nxS []) nxT 300 64 nxA [q0,q1,q2,q3,u0,u1,u2,a0,a1,a2,v0,v1,v2]=some (.t [mq (nxW false true q0 q1 q2 q3 u0 u1 u2 a0 a1 a2 v0 v1 v2),.v (.int .i64 4)],nxO false true a0 a1 a2 v0 v1 v2):=by kernel_rfl
theorem adn (q0 q1 q2 q3 u0 u1 u2 a0 a1 a2 v0 v1 v2:Wd):FQ (dn (nxL false false) nxS []) nxT 300 64 nxA [q0,q1,q2,q3,u0,u1,u2,a0,a1,a2,v0,v1,v2]=some (.t [mq (nxW false false q0 q1 q2 q3 u0 u1 u2 a0 a1 a2 v0 v1 v2),.v (.int .i64 6)],nxO false false a0 a1 a2 v0 v1 v2):=by kernel_rfl
theorem Bg (x m:Wd) (h:m.v=-1):iG x m=x:=Wd.dw (by show tY x.v m.v=x.v; rw [h]; exact aas x.ok)
theorem xU (x m:Wd) (h:m.v=0):iG x m=kW 0:=Wd.dw (by show tY x.v m.v=(kW 0).v; rw [h,WY]; decide +kernel)
theorem zG (x:Wd):gK x (kW 0)=x:=by
 apply Wd.dw;have:=x.ok;unfold aB at this;show jY (x.v+(kW 0).v)=x.v;rw [jq (by decide)];unfold jY;omega
theorem ado (x:Wd):Eb x (kW (-134217728)) (kW 134217728)=akL x:=by
 apply Wd.dw;have e1:(kW (-134217728)).v=-134217728:=jq (by decide);have e2:(kW 134217728).v=134217728:=jq (by decide);show _=min (max x.v (kW (-134217728)).v) (kW 134217728).v;unfold Eb;rw [e1,e2];split<;>(try split)<;>(try split)<;>simp_all<;>omega
theorem anz (P N:Q4) (g:Wd) (m:Bool) (h:g.v=bif m then -1 else 0):Wi P N g=nxG m P N:=by
 unfold Wi nxG
 cases m with
 | true=>simp only [cond_true] at h ⊢; rw [Bg _ _ h,Bg _ _ h,Bg _ _ h,Bg _ _ h]
 | false=>simp only [cond_false] at h ⊢; rw [xU _ _ h,xU _ _ h,xU _ _ h,xU _ _ h,zG,zG,zG,zG]
theorem anA (q r e g:Wd) (t:Bool) (h:g.v=bif t then -1 else 0):Jl q r e g=nxV t q r e:=by
 unfold Jl nxV nxB;rw [ado]
 cases t with
 | true=>simp only [cond_true] at h ⊢; rw [Bg _ _ h,jF _ (by decide:aB 8)]
 | false=>simp only [cond_false] at h ⊢; rw [xU _ _ h]
theorem agj (q0 q1 q2 q3 u0 u1 u2 a0 a1 a2 v0 v1 v2:Wd) (m t:Bool) (hm:(nY v0 v1 v2).v=bif m then -1 else 0) (ht:(nX a0 a1 a2).v=bif t then -1 else 0) :
 zL q0 q1 q2 q3 u0 u1 u2 a0 a1 a2 v0 v1 v2=nxW m t q0 q1 q2 q3 u0 u1 u2 a0 a1 a2 v0 v1 v2:=by
 unfold zL stepOf nxW nxU ZY afp nxE afq nxR;rw [anz _ _ _ m hm];simp only [anA _ _ _ _ t ht,Oz _ (by decide:aB 12)]
theorem ajI (a0 a1 a2 v0 v1 v2:Wd) (m t:Bool) (hm:(nY v0 v1 v2).v=bif m then -1 else 0) (ht:(nX a0 a1 a2).v=bif t then -1 else 0):vC (nX a0 a1 a2) (nY v0 v1 v2)=nxF m t:=by
 unfold vC OH nxF;rw [hm,ht]
 cases m<;>cases t<;>rfl
theorem aaF (n:Wd) (lo hi:Int):(rG n (kW lo) (kW hi)).v=bif Cm n lo hi then -1 else 0:=by
 unfold Cm;rcases agh n (kW lo) (kW hi) with h | h<;>rw [h]<;>rfl
theorem anB (q0 q1 q2 q3 u0 u1 u2 a0 a1 a2 v0 v1 v2:Wd) (w:World):Calls Tryz.prog 64 #[q4 q0 q1 q2 q3,.agg #[.int .i32 u0.v,.int .i32 u1.v,.int .i32 u2.v,.int .i32 a0.v,.int .i32 a1.v,.int .i32 a2.v,.int .i32 v0.v,.int .i32 v1.v,.int .i32 v2.v]] w fun e w' =>
 e=.returned (.tuple #[qv (zL q0 q1 q2 q3 u0 u1 u2 a0 a1 a2 v0 v1 v2),.int .i64 (vC (nX a0 a1 a2) (nY v0 v1 v2))])/\ah w w' []:=by
 have hm:=aaF (dM v0 v1 v2) 1000000 400000000;have ht:=aaF (dM a0 a1 a2) 16777216 150994944
 have om:Bf (.call 118 [.a [v0,v1,v2]] (.bool (Cm (dM v0 v1 v2) 1000000 400000000))):=fun w=>by
  rw [<- OB v0 v1 v2 _ _ (by omega) (by omega)];exact Xu v0.v v1.v v2.v w v0.ok v1.ok v2.ok
 have ot:Bf (.call 122 [.a [a0,a1,a2]] (.bool (Cm (dM a0 a1 a2) 16777216 150994944))):=fun w=>by
  rw [<- OB a0 a1 a2 _ _ (by omega) (by omega)];exact Qj a0.v a1.v a2.v w a0.ok a1.ok a2.ok
 rw [agj _ _ _ _ _ _ _ _ _ _ _ _ _ _ _ hm ht,ajI _ _ _ _ _ _ _ _ hm ht];clear hm ht;generalize Cm (dM v0 v1 v2) 1000000 400000000=m at *;generalize Cm (dM a0 a1 a2) 16777216 150994944=t at *
 cases m<;>cases t
 . exact sV (adn q0 q1 q2 q3 u0 u1 u2 a0 a1 a2 v0 v1 v2) (Ir ot (Ir om XE)) rfl w
 . exact sV (adl q0 q1 q2 q3 u0 u1 u2 a0 a1 a2 v0 v1 v2) (Ir ot (Ir om XE)) rfl w
 . exact sV (adk q0 q1 q2 q3 u0 u1 u2 a0 a1 a2 v0 v1 v2) (Ir ot (Ir om XE)) rfl w
 . exact sV (adi q0 q1 q2 q3 u0 u1 u2 a0 a1 a2 v0 v1 v2) (Ir ot (Ir om XE)) rfl w
noncomputable def adp (q0 q1 q2 q3 u0 u1 u2 a0 a1 a2 v0 v1 v2:Wd):Value:=.tuple #[qv (zL q0 q1 q2 q3 u0 u1 u2 a0 a1 a2 v0 v1 v2),.int .i64 (vC (nX a0 a1 a2) (nY v0 v1 v2))]
theorem ajJ (g m:Wd):-9223372036854775808<=vC g m/\vC g m<=9223372036854775807:=by
 unfold vC OH;split<;>split<;>omega
theorem ajK (x:Q4):good1 (qv x):=.inr ⟨_,rfl,fun u hu=>by
 simp at hu
 rcases hu with rfl | rfl | rfl | rfl<;>exact gX _⟩
theorem adq (q0 q1 q2 q3 u0 u1 u2 a0 a1 a2 v0 v1 v2:Wd):iw (adp q0 q1 q2 q3 u0 u1 u2 a0 a1 a2 v0 v1 v2):=.inr ⟨_,rfl,fun u hu=>by
 simp at hu;rcases hu with rfl | rfl
 . exact ajK _
 . exact .inl (DW (ajJ _ _))⟩
noncomputable def RNx:List PA->Option Value
 | [.a [q0,q1,q2,q3],.a [u0,u1,u2,a0,a1,a2,v0,v1,v2]]=>some (adp q0 q1 q2 q3 u0 u1 u2 a0 a1 a2 v0 v1 v2)
 | _=>none
noncomputable def atT (f:FuncId) (h:∀ (q0 q1 q2 q3 u0 u1 u2 a0 a1 a2 v0 v1 v2:Wd) (w:World),Calls Tryz.prog f #[q4 q0 q1 q2 q3,.agg #[.int .i32 u0.v,.int .i32 u1.v,.int .i32 u2.v,.int .i32 a0.v,.int .i32 a1.v,.int .i32 a2.v,.int .i32 v0.v,.int .i32 v1.v,.int .i32 v2.v]] w fun e w'=>e=.returned (adp q0 q1 q2 q3 u0 u1 u2 a0 a1 a2 v0 v1 v2)/\ah w w' []):fA :=
 Qh f RNx fun ps v hv=>by
  unfold RNx at hv;split at hv
  . injection hv with hv
    subst hv;exact ⟨adq _ _ _ _ _ _ _ _ _ _ _ _ _,h _ _ _ _ _ _ _ _ _ _ _ _ _⟩
  . cases hv
noncomputable def arF:fA:=atT 64 anB
def TN (a b:Int):Int:=(wW (kW a) (kW b)).v
def TP (a:Int):Int:=(ql (kW a)).v
def W64 (a:Int):Int:=IntKind.i64.wrap a
structure I3 where
 x:Int
 y:Int
 a:Int
def ajL (i:Nat):Int:=([421657428,248918915,131521918,66762579,33510843,16771758,8387925,4194219,2097141,1048575,524288,262144,131072,65536,32768,16384,8192,4096,2048,1024,512,256,128,64,32,16,8,4]:List Int).getD i 0
def arG (i:Nat) (s:I3):I3:=⟨(kW (W64 (W64 s.x+W64 (TN (lQ s.y (Int.ofNat i)) (TP s.y))))).v,(kW (W64 (W64 s.y - W64 (TN (lQ s.x (Int.ofNat i)) (TP s.y))))).v,(kW (W64 (W64 s.a+W64 (TN (ajL i) (TP s.y))))).v⟩
def vec (x y:Int):Nat->I3
 | 0=>⟨x,y,0⟩
 | i+1=>arG i (vec x y i)
def vS:List (FuncId × Sh):=[(283,.one),(284,.one),(123,.one),(78,.one)]
noncomputable def vT:List fA:=[atG,atH,acW,Xg]
theorem adr (y x:Wd):bJ (dn [] vS []) (bg vT) 400 249 [.opq 0,.opq 1] [.int .i32 y.v,.int .i32 x.v]=some (.tuple #[.int .i32 (vec x.v y.v 28).x,.int .i32 (vec x.v y.v 28).y,.int .i32 (vec x.v y.v 28).a],[]):=by kernel_rfl
theorem ak_ (a b:Wd):(kW (W64 (W64 a.v+W64 b.v))).v=(C_ a b).v:=by
 have ha:=a.ok;have hb:=b.ok;unfold aB at ha hb;unfold W64;rw [w64,w64];show wrap32 (IntKind.i64.wrap (a.v+b.v))=wrap32 (a.v+b.v);rw [show IntKind.i64.wrap (a.v+b.v)=a.v+b.v by rw [IntKind.wrap_i64]; omega]
theorem ala (a b:Wd):(kW (W64 (W64 a.v - W64 b.v))).v=(uT a b).v:=by
 have ha:=a.ok;have hb:=b.ok;unfold aB at ha hb;unfold W64;rw [w64,w64];show wrap32 (IntKind.i64.wrap (a.v - b.v))=wrap32 (a.v - b.v);rw [show IntKind.i64.wrap (a.v - b.v)=a.v - b.v by rw [IntKind.wrap_i64]; omega]
theorem anC:∀ i:Fin 28,(kW (ajL i.val)).v=(V8.getD i.val (kW 0)).v:=by decide +kernel
theorem agk (x y:Wd):∀ n,n<=28->vec x.v y.v n=⟨(tu x y n).a.v,(tu x y n).b.v,(tu x y n).c.v⟩
 | 0,_=>by
  show I3.mk x.v y.v 0=⟨x.v,y.v,(kW 0).v⟩;rw [jq (by decide:aB 0)]
 | n+1,h=>by
  have ht:kW (ajL n)=V8.getD n (kW 0):=Wd.dw (anC ⟨n,by omega⟩);rw [vec,agk x y n (by omega),tu];generalize tu x y n=s;unfold arG V9 TN lQ TP;simp only [aU,ht,Int.ofNat_eq_natCast];rw [ak_,ala,ak_]
theorem anD (a b c:Wd):iw (.tuple #[.int .i32 a.v,.int .i32 b.v,.int .i32 c.v]):=.inr ⟨_,rfl,fun u hu=>by
 simp at hu;rcases hu with rfl | rfl | rfl
 . exact .inl (gX _)
 . exact .inl (gX _)
 . exact .inl (gX _)⟩
def t3v (t:T3):Value:=.tuple #[.int .i32 t.a.v,.int .i32 t.b.v,.int .i32 t.c.v]
theorem agl (y x:Wd) (w:World):Calls Tryz.prog 249 #[.int .i32 y.v,.int .i32 x.v] w fun e w'=>e=.returned (t3v (tu x y 28))/\ah w w' []:=by
 have h:=aG _ (adr y x) (jf y x) pR w;rw [agk x y 28 (by omega)] at h;exact h
noncomputable def anE:fA:=AQ 249 (fun y x=>t3v (tu x y 28)) (fun _ _=>anD _ _ _) agl
def iU (a:Int):Int:=(iT (kW a)).v
def ads (a b:Int):Int:=(AO (kW a) (kW b)).v
def arH (a b:Int):Int:=(Dc (kW a) (kW b)).v
def agS (y x:Int):Int:=IntKind.i32.wrap ((jJ (kW (ads (iU x) (iU y)))).v - 1)
def agL (v s:Int):Int:=Qi (yB v s) 2
def J6 (y x:Int):Int:=(tu (kW (agL (ads (iU x) (iU y)) (agS y x))) (kW (agL (arH (iU x) (iU y)) (agS y x))) 28).c.v
def wL (k a:Int):Int:=(kW (W64 (k - W64 a))).v
def aS:List (FuncId × Sh):=[(199,.one),(246,.one),(247,.one),(248,.one),(114,.one),(250,.one),(249,.three .one .one .one),(78,.one)]
noncomputable def aT:List fA:=[aq7,awg,awf,arb,acV,aq3,anE,Xg]
theorem XF (y x:Wd):bJ (dn [] aS [(15,true),(19,true),(23,true)]) (bg aT) 200 198 [.opq 0,.opq 1] [.int .i32 y.v,.int .i32 x.v]=some (.int .i32 (wL 0 (wL 1686629713 (wL 843314857 (J6 y.v x.v)))),[cZ 21 .i32 y.v 0 true,cZ 21 .i32 x.v 0 true,cZ 21 .i32 (iU x.v) (iU y.v) true]):=by kernel_rfl
theorem XG (y x:Wd):bJ (dn [] aS [(15,true),(19,true),(23,false)]) (bg aT) 200 198 [.opq 0,.opq 1] [.int .i32 y.v,.int .i32 x.v]=some (.int .i32 (wL 1686629713 (wL 843314857 (J6 y.v x.v))),[cZ 21 .i32 y.v 0 false,cZ 21 .i32 x.v 0 true,cZ 21 .i32 (iU x.v) (iU y.v) true]):=by kernel_rfl
theorem XH (y x:Wd):bJ (dn [] aS [(15,true),(19,false),(20,true)]) (bg aT) 200 198 [.opq 0,.opq 1] [.int .i32 y.v,.int .i32 x.v]=some (.int .i32 (wL 0 (wL 843314857 (J6 y.v x.v))),[cZ 21 .i32 y.v 0 true,cZ 21 .i32 x.v 0 false,cZ 21 .i32 (iU x.v) (iU y.v) true]):=by kernel_rfl
theorem XI (y x:Wd):bJ (dn [] aS [(15,true),(19,false),(20,false)]) (bg aT) 200 198 [.opq 0,.opq 1] [.int .i32 y.v,.int .i32 x.v]=some (.int .i32 (wL 843314857 (J6 y.v x.v)),[cZ 21 .i32 y.v 0 false,cZ 21 .i32 x.v 0 false,cZ 21 .i32 (iU x.v) (iU y.v) true]):=by kernel_rfl
theorem XJ (y x:Wd):bJ (dn [] aS [(15,false),(16,true),(20,true)]) (bg aT) 200 198 [.opq 0,.opq 1] [.int .i32 y.v,.int .i32 x.v]=some (.int .i32 (wL 0 (wL 1686629713 (J6 y.v x.v))),[cZ 21 .i32 y.v 0 true,cZ 21 .i32 x.v 0 true,cZ 21 .i32 (iU x.v) (iU y.v) false]):=by kernel_rfl
theorem XK (y x:Wd):bJ (dn [] aS [(15,false),(16,true),(20,false)]) (bg aT) 200 198 [.opq 0,.opq 1] [.int .i32 y.v,.int .i32 x.v]=some (.int .i32 (wL 1686629713 (J6 y.v x.v)),[cZ 21 .i32 y.v 0 false,cZ 21 .i32 x.v 0 true,cZ 21 .i32 (iU x.v) (iU y.v) false]):=by kernel_rfl
theorem XL (y x:Wd):bJ (dn [] aS [(15,false),(16,false),(17,true)]) (bg aT) 200 198 [.opq 0,.opq 1] [.int .i32 y.v,.int .i32 x.v]=some (.int .i32 (wL 0 (J6 y.v x.v)),[cZ 21 .i32 y.v 0 true,cZ 21 .i32 x.v 0 false,cZ 21 .i32 (iU x.v) (iU y.v) false]):=by kernel_rfl
theorem XM (y x:Wd):bJ (dn [] aS [(15,false),(16,false),(17,false)]) (bg aT) 200 198 [.opq 0,.opq 1] [.int .i32 y.v,.int .i32 x.v]=some (.int .i32 (J6 y.v x.v),[cZ 21 .i32 y.v 0 false,cZ 21 .i32 x.v 0 false,cZ 21 .i32 (iU x.v) (iU y.v) false]):=by kernel_rfl
theorem xW (y x:Wd):J6 y.v x.v=(afm y x).c.v:=by
 have e:kW (agS y.v x.v)=uT (jJ (AO (iT x) (iT y))) (kW 1):=by
  unfold agS ads iU;simp only [aU];apply Wd.dw;show wrap32 (IntKind.i32.wrap _)=wrap32 (_ - (kW 1).v);rw [jq (by decide:aB 1),IntKind.wrap_i32];unfold wrap32;omega
 unfold J6 agL Qi yB;rw [e];unfold ads arH iU;simp only [aU];rfl
theorem lV {k:Int} (hk:aB k) (a:Wd):wL k a.v=(uT (kW k) a).v:=by
 have e:=ala (kW k) a;rw [jq hk] at e;have hw:W64 k=k:=by unfold W64; rw [<- jq hk]; exact w64 _
 rw [hw] at e;exact e
theorem FT (a:Wd):wW a (kW (-1))=uT (kW 0) a:=Wd.dw (by
 have ok:=a.ok;unfold aB at ok;show rX (KT a.v (kW (-1)).v) (kW (-1)).v=rX (kW 0).v a.v;rw [jq (by decide:aB (-1)),jq (by decide:aB 0),am1 a.ok];unfold rX;congr 1
 omega)
theorem ajM (y x:Wd) (w:World):Calls Tryz.prog 198 #[.int .i32 y.v,.int .i32 x.v] w fun e w'=>e=.returned (.int .i32 (AY y x).v)/\ah w w' []:=by
 have i1:aB 843314857:=by decide
 have i2:aB 1686629713:=by decide
 have i3:aB 0:=by decide
 have ka:iU x.v=(iT x).v:=by unfold iU; rw [aU]
 have kb:iU y.v=(iT y).v:=by unfold iU; rw [aU]
 unfold AY afo Wh afn V_;by_cases h1:(iT x).v < (iT y).v
 . rw [am3 h1,Ju]
   by_cases h2:x.v < 0
   . rw [sign_neg h2,Ju]
     by_cases h3:y.v < 0
     . rw [sign_neg h3,FT]
       have h:=aG _ (XF y x) (jf y x) (eP (aV (by simpa using h3)) (eP (aV (by simpa using h2)) (gy (aV (by rw [ka,kb]; simpa using h1))))) w;rw [xW,lV i1,lV i2,lV i3] at h;exact h
     . rw [wK (by omega:0<=y.v),Ce]
       have h:=aG _ (XG y x) (jf y x) (eP (aV (by simpa using h3)) (eP (aV (by simpa using h2)) (gy (aV (by rw [ka,kb]; simpa using h1))))) w;rw [xW,lV i1,lV i2] at h;exact h
   . rw [wK (by omega:0<=x.v),FM]
     by_cases h3:y.v < 0
     . rw [sign_neg h3,FT]
       have h:=aG _ (XH y x) (jf y x) (eP (aV (by simpa using h3)) (eP (aV (by simpa using h2)) (gy (aV (by rw [ka,kb]; simpa using h1))))) w;rw [xW,lV i1,lV i3] at h;exact h
     . rw [wK (by omega:0<=y.v),Ce]
       have h:=aG _ (XI y x) (jf y x) (eP (aV (by simpa using h3)) (eP (aV (by simpa using h2)) (gy (aV (by rw [ka,kb]; simpa using h1))))) w;rw [xW,lV i1] at h;exact h
 . rw [aqN (by omega),FM]
   by_cases h2:x.v < 0
   . rw [sign_neg h2,Ju]
     by_cases h3:y.v < 0
     . rw [sign_neg h3,FT]
       have h:=aG _ (XJ y x) (jf y x) (eP (aV (by simpa using h3)) (eP (aV (by simpa using h2)) (gy (aV (by rw [ka,kb]; simpa using h1))))) w;rw [xW,lV i2,lV i3] at h;exact h
     . rw [wK (by omega:0<=y.v),Ce]
       have h:=aG _ (XK y x) (jf y x) (eP (aV (by simpa using h3)) (eP (aV (by simpa using h2)) (gy (aV (by rw [ka,kb]; simpa using h1))))) w;rw [xW,lV i2] at h;exact h
   . rw [wK (by omega:0<=x.v),FM]
     by_cases h3:y.v < 0
     . rw [sign_neg h3,FT]
       have h:=aG _ (XL y x) (jf y x) (eP (aV (by simpa using h3)) (eP (aV (by simpa using h2)) (gy (aV (by rw [ka,kb]; simpa using h1))))) w;rw [xW,lV i3] at h;exact h
     . rw [wK (by omega:0<=y.v),Ce]
       have h:=aG _ (XM y x) (jf y x) (eP (aV (by simpa using h3)) (eP (aV (by simpa using h2)) (gy (aV (by rw [ka,kb]; simpa using h1))))) w;rw [xW] at h;exact h
noncomputable def arJ:fA:=AQ 198 (fun y x=>.int .i32 (AY y x).v) (fun _ _=>gG _) ajM
def RQ' (F:Wd->Wd->Wd->Wd->Value):List PA->Option Value
 | [.a [a,b,c,d]]=>some (F a b c d)
 | _=>none
def atU (f:FuncId) (F:Wd->Wd->Wd->Wd->Value) (hR:∀ a b c d,iw (F a b c d)) (h:∀ (a b c d:Wd) (w:World),Calls Tryz.prog f #[q4 a b c d] w fun e w'=>e=.returned (F a b c d)/\ah w w' []):fA :=
 Qh f (RQ' F) fun ps v hv=>by
  unfold RQ' at hv;split at hv
  . injection hv with hv
    subst hv;exact ⟨hR _ _ _ _,h _ _ _ _⟩
  . cases hv
def eul (x:T3) (l:Bool):Value:=.agg #[.int .i32 x.a.v,.int .i32 x.b.v,.int .i32 x.c.v,.bool l]
def awm (a b c:Int) (l:Bool):Value:=.agg #[.int .i32 a,.int .i32 b,.int .i32 c,.bool l]
theorem agm (x:T3) (l:Bool):iw (eul x l):=.inl (.inr ⟨_,rfl,fun u hu=>by
 simp at hu;rcases hu with rfl | rfl | rfl | rfl
 . exact gX _
 . exact gX _
 . exact gX _
 . trivial⟩)
def eY (q0 q1 q2 q3:Int):Int:=fD (aJ q0 q1) (aJ q2 q3)
def eX (q1 q2:Int):Int:=bV (bV 536870912 (aJ q1 q1)) (aJ q2 q2)
def eS (q0 q1 q2 q3:Int):Int:=bV (aJ q0 q2) (aJ q3 q1)
def eA (y x:Int):Int:=(AY (kW y) (kW x)).v
def eR (x y:Int):Int:=(B_ (kW (fD (aJ x x) (aJ y y)))).v
def eS':List (FuncId × Sh):=[(243,.one),(120,.one),(125,.one),(199,.one),(193,.one),(198,.one)]
noncomputable def eT:List fA:=[ac1,acY,ajb,aq7,akW,arJ]
def adt (a b c d:Int) (l:Bool):Value:=awm (eA (eY a b c d) (eX b c)) (eA (eS a b c d) (eR (eX b c) (eY a b c d))) (eA (eY a d b c) (eX c d)) l
def inq (a b c d:Wd):List Value:=[.int .i32 a.v,.int .i32 b.v,.int .i32 c.v,.int .i32 d.v]
theorem anF (a b c d:Wd):bJ (dn [] eS' [(29,true)]) (bg eT) 300 127 [.agg (bQ 4 0)] (inq a b c d)=some (adt a.v b.v c.v d.v true,[Dn 21 .i32 (iU (eS a.v b.v c.v d.v)) 536000000 true]):=by kernel_rfl
theorem anG (a b c d:Wd):bJ (dn [] eS' [(29,false)]) (bg eT) 300 127 [.agg (bQ 4 0)] (inq a b c d)=some (adt a.v b.v c.v d.v false,[Dn 21 .i32 (iU (eS a.v b.v c.v d.v)) 536000000 false]):=by kernel_rfl
theorem aaG (a b c d:Wd) (l:Bool):adt a.v b.v c.v d.v l=eul (iQ a b c d) l:=by
 have y:eY a.v b.v c.v d.v=(Jj a b c d).v:=by unfold eY fD aJ; simp only [aU]; rfl
 have x:eX b.v c.v=(Jk a b c d).v:=by unfold eX bV aJ; simp only [aU]; rfl
 have s:eS a.v b.v c.v d.v=(rH a b c d).v:=by unfold eS bV aJ; simp only [aU]; rfl
 have u:eY a.v d.v b.v c.v=(ZT a b c d).v:=by unfold eY fD aJ; simp only [aU]; rfl
 have v:eX c.v d.v=(ZU a b c d).v:=by unfold eX bV aJ; simp only [aU]; rfl
 have r:eR (Jk a b c d).v (Jj a b c d).v=(ZV a b c d).v:=by unfold eR fD aJ; simp only [aU]; rfl
 unfold adt;rw [y,x,s,u,v,r];unfold eA;simp only [aU];rfl
theorem anH (a b c d:Wd):iP a b c d=decide (536000000<=(iT (rH a b c d)).v):=by
 unfold iP;show (rX (Aq (iT (rH a b c d)).v (kW 536000000).v) (kW 1).v != 0)=_;rw [jq (by decide:aB 536000000),jq (by decide:aB 1)];unfold Aq;by_cases h:(iT (rH a b c d)).v < 536000000
 . rw [if_pos h,show rX 1 1=0 by decide +kernel]
   simp;omega
 . rw [if_neg h,show rX 0 1=-1 by decide +kernel]
   simp;omega
theorem atV (a b c d:Wd) (w:World):Calls Tryz.prog 127 #[q4 a b c d] w fun e w'=>e=.returned (eul (iQ a b c d) (iP a b c d))/\ah w w' []:=by
 have s:iU (eS a.v b.v c.v d.v)=(iT (rH a b c d)).v:=by unfold iU eS bV aJ; simp only [aU]; rfl
 rw [anH];by_cases h:536000000<=(iT (rH a b c d)).v
 . rw [decide_eq_true h]
   have:=aG _ (anF a b c d) (Ec [a,b,c,d]) (gy (rO (by rw [s]; simpa using h))) w;rw [aaG] at this;exact this
 . rw [decide_eq_false h]
   have:=aG _ (anG a b c d) (Ec [a,b,c,d]) (gy (rO (by rw [s]; simpa using h))) w;rw [aaG] at this;exact this
noncomputable def awn:fA:=atU 127 (fun a b c d=>eul (iQ a b c d) (iP a b c d)) (fun _ _ _ _=>agm _ _) atV
