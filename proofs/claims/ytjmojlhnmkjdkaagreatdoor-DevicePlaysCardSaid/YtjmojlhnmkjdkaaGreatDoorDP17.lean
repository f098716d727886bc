/- Texts of this claim, side by side. -/
import Derived.Test.YtjmojlhnmkjdkaaGreatDoorDP14
import Derived.Lib.ItoaNum
set_option linter.unusedVariables false
set_option maxRecDepth 100000
namespace Go.Proofs.YtjmojlhnmkjdkaaGreatDoor.Xi
open Go Go.RowKit
theorem agt(a:Wd):bF (dn [] [] [(1,true)]) (aZ []) 100 283 [.opq 0] [.int .i32 a.v]=some (.int .i32 (-1),[dh 21 .i32 a.v 0 true]):=by kernel_rfl
theorem agu(a:Wd):bF (dn [] [] [(1,false)]) (aZ []) 100 283 [.opq 0] [.int .i32 a.v]=some (.int .i32 0,[dh 21 .i32 a.v 0 false]):=by kernel_rfl
theorem anP(a:Wd)(w:World):Calls Tryz.prog 283 #[.int .i32 a.v] w fun e w'=>e=.returned (.int .i32 (qh a).v)/\ah w w' []:=by
 have ha:=a.ok;unfold aB at ha;have hv:(qh a).v=a.v / 2147483648:=rfl;rw [hv];by_cases h0:a.v<0
 . rw [show a.v / 2147483648=-1 by omega]
   exact aG _ (agt a) (Bd a) (gI (aU (by simpa using h0))) w
 . rw [show a.v / 2147483648=0 by omega]
   exact aG _ (agu a) (Bd a) (gI (aU (by simpa using h0))) w
noncomputable def aus:eG:=Fb 283 (fun a=>.int .i32 (qh a).v) (fun _=>gK _) anP
theorem ajI(a b:Wd):bF (dn [] [] [(2,true)]) (aZ []) 100 247 [.opq 0,.opq 1] [.int .i32 a.v,.int .i32 b.v]=some (.int .i32 a.v,[dh 21 .i32 a.v b.v true]):=by kernel_rfl
theorem ajJ(a b:Wd):bF (dn [] [] [(2,false)]) (aZ []) 100 247 [.opq 0,.opq 1] [.int .i32 a.v,.int .i32 b.v]=some (.int .i32 b.v,[dh 21 .i32 a.v b.v false]):=by kernel_rfl
theorem arF(a b:Wd)(w:World):Calls Tryz.prog 247 #[.int .i32 a.v,.int .i32 b.v] w fun e w'=>e=.returned (.int .i32 (Di a b).v)/\ah w w' []:=by
 have hv:(Di a b).v=ET a.v b.v:=rfl;by_cases h0:a.v<b.v
 . rw [hv,show ET a.v b.v=a.v by unfold ET; first | omega | (split<;>omega)]
   exact aG _ (ajI a b) (je a b) (gI (aU (by simpa using h0))) w
 . rw [hv,show ET a.v b.v=b.v by unfold ET; first | omega | (split<;>omega)]
   exact aG _ (ajJ a b) (je a b) (gI (aU (by simpa using h0))) w
noncomputable def axh:eG:=AX 247 (fun a b=>.int .i32 (Di a b).v) (fun _ _=>gK _) arF
theorem ajK(a b:Wd):bF (dn [] [] [(2,true)]) (aZ []) 100 246 [.opq 0,.opq 1] [.int .i32 a.v,.int .i32 b.v]=some (.int .i32 b.v,[dh 21 .i32 a.v b.v true]):=by kernel_rfl
theorem ajL(a b:Wd):bF (dn [] [] [(2,false)]) (aZ []) 100 246 [.opq 0,.opq 1] [.int .i32 a.v,.int .i32 b.v]=some (.int .i32 a.v,[dh 21 .i32 a.v b.v false]):=by kernel_rfl
theorem arG(a b:Wd)(w:World):Calls Tryz.prog 246 #[.int .i32 a.v,.int .i32 b.v] w fun e w'=>e=.returned (.int .i32 (AQ a b).v)/\ah w w' []:=by
 have hv:(AQ a b).v=EU a.v b.v:=rfl;by_cases h0:a.v<b.v
 . rw [hv,show EU a.v b.v=b.v by unfold EU; first | omega | (split<;>omega)]
   exact aG _ (ajK a b) (je a b) (gI (aU (by simpa using h0))) w
 . rw [hv,show EU a.v b.v=a.v by unfold EU; first | omega | (split<;>omega)]
   exact aG _ (ajL a b) (je a b) (gI (aU (by simpa using h0))) w
noncomputable def axi:eG:=AX 246 (fun a b=>.int .i32 (AQ a b).v) (fun _ _=>gK _) arG
theorem ada(a b c:Wd):bF (dn [] [] [(3,true)]) (aZ []) 100 124 [.opq 0,.opq 1,.opq 2] [.int .i32 a.v,.int .i32 b.v,.int .i32 c.v]=some (.int .i32 c.v,[lq 21 .i32 a.v c.v true]):=by kernel_rfl
theorem adb(a b c:Wd):bF (dn [] [] [(3,false),(4,true)]) (aZ []) 100 124 [.opq 0,.opq 1,.opq 2] [.int .i32 a.v,.int .i32 b.v,.int .i32 c.v]=some (.int .i32 c.v,[lq 21 .i32 b.v c.v true,lq 21 .i32 a.v c.v false]):=by kernel_rfl
theorem ade(a b c:Wd):bF (dn [] [] [(3,false),(4,false),(5,true)]) (aZ []) 100 124 [.opq 0,.opq 1,.opq 2] [.int .i32 a.v,.int .i32 b.v,.int .i32 c.v]=some (.int .i32 b.v,[dh 21 .i32 a.v b.v true,lq 21 .i32 b.v c.v false,lq 21 .i32 a.v c.v false]):=by kernel_rfl
theorem adf(a b c:Wd):bF (dn [] [] [(3,false),(4,false),(5,false)]) (aZ []) 100 124 [.opq 0,.opq 1,.opq 2] [.int .i32 a.v,.int .i32 b.v,.int .i32 c.v]=some (.int .i32 a.v,[dh 21 .i32 a.v b.v false,lq 21 .i32 b.v c.v false,lq 21 .i32 a.v c.v false]):=by kernel_rfl
noncomputable def Ec (a b c:Wd):Wd:=if c.v<a.v then c else if c.v<b.v then c else if a.v<b.v then b else a
theorem ajM(a b c:Wd)(w:World):Calls Tryz.prog 124 #[.int .i32 a.v,.int .i32 b.v,.int .i32 c.v] w fun e w'=>e=.returned (.int .i32 (Ec a b c).v)/\ah w w' []:=by
 unfold Ec;by_cases h0:c.v<a.v
 . rw [if_pos h0]
   exact aG _ (ada a b c) (Qr a b c) (gI (fV (by simpa using h0))) w
 . rw [if_neg h0]
   by_cases h1:c.v<b.v
   . rw [if_pos h1]
     exact aG _ (adb a b c) (Qr a b c) (eF (fV (by simpa using h1)) (gI (fV (by simpa using h0)))) w
   . rw [if_neg h1]
     by_cases h2:a.v<b.v
     . rw [if_pos h2]
       exact aG _ (ade a b c) (Qr a b c) (eF (aU (by simpa using h2)) (eF (fV (by simpa using h1)) (gI (fV (by simpa using h0))))) w
     . rw [if_neg h2]
       exact aG _ (adf a b c) (Qr a b c) (eF (aU (by simpa using h2)) (eF (fV (by simpa using h1)) (gI (fV (by simpa using h0))))) w
def Ua:List Int->List Int->List Int
 | b::l,c::m=>IntKind.i64.wrap ((IntKind.i64.wrap (b+c)).tmod 2)::Ua l m
 | _,_=>[]
theorem ajN (a m:Wd):bF (dn [] [(179,.agg 32),(181,.one),(78,.one)] []) (aZ [ac1,ofE,acX]) 400 284 [.opq 0,.opq 1] [.int .i32 a.v,.int .i32 m.v] =
 some (.int .i32 (kW (IntKind.i64.wrap (IntKind.i64.wrap (kW (Kw (Ua (mY ((kW a.v).v%4294967296) 0 32) (mY ((kW m.v).v%4294967296) 0 32)).reverse 0)).v - IntKind.i64.wrap m.v))).v,[]):=by kernel_rfl
theorem Xz(Y Z:Nat):∀ n i,Ua (mY Y i n) (mY Z i n)=mY ((Y ^^^ Z:Nat):Int) i n
 | 0,i=>rfl
 | n+1,i=>by
  simp only [mY,Ua];rw [Xz Y Z n (i+1)];congr 1;have h:=Nat.testBit_xor Y Z i;have c:∀ X:Nat,((X:Int) / 2 ^ i%2)=((X / 2 ^ i%2:Nat):Int):=fun X=>by simp
  have t:∀ X:Nat,X.testBit i=decide (X / 2 ^ i%2=1):=fun X=>Nat.testBit_eq_decide_div_mod_eq;rw [t,t,t] at h;rw [c,c,c];have hy:Y / 2 ^ i%2=0\/Y / 2 ^ i%2=1:=by omega
  have hz:Z / 2 ^ i%2=0\/Z / 2 ^ i%2=1:=by omega
  have hr:(Y ^^^ Z) / 2 ^ i%2=0\/(Y ^^^ Z) / 2 ^ i%2=1:=by omega
  generalize (Y ^^^ Z) / 2 ^ i%2=r at *;generalize Y / 2 ^ i%2=y at *;generalize Z / 2 ^ i%2=z at *;rcases hy with rfl | rfl<;>rcases hz with rfl | rfl<;>rcases hr with rfl | rfl<;>first | (exfalso; revert h; decide) | decide +kernel
theorem anQ(a m:Wd):∃ Y Z:Nat,a.v%4294967296=Y/\m.v%4294967296=Z/\(yG a m).v=(kW ((Y ^^^ Z:Nat):Int)).v/\Y ^^^ Z<4294967296:=by
 refine⟨(BitVec.ofInt 32 a.v).toNat,(BitVec.ofInt 32 m.v).toNat,?_,?_,?_,?_⟩
 . rw [BitVec.toNat_ofInt]; omega
 . rw [BitVec.toNat_ofInt]; omega
 . show IntKind.i32.wrap ((BitVec.ofInt 32 a.v ^^^ BitVec.ofInt 32 m.v).toNat:Int)=wrap32 _
   rw [BitVec.toNat_xor,IntKind.wrap_i32]; unfold wrap32; rfl
 . rw [<- BitVec.toNat_xor]
   exact(BitVec.ofInt 32 a.v ^^^ BitVec.ofInt 32 m.v).isLt
theorem anR(a m:Wd)(w:World):Calls Tryz.prog 284 #[.int .i32 a.v,.int .i32 m.v] w fun e w'=>e=.returned (.int .i32 (xk a m).v)/\ah w w' []:=by
 have h:=aG _ (ajN a m) (je a m) pU w;obtain⟨Y,Z,hY,hZ,hx,hlt⟩:=anQ a m;rw [aQ,aQ,hY,hZ,Xz,Qq (Me _ _ _) (by simp [xA]),CG] at h
 have e:(((Y ^^^ Z:Nat):Int) / 2 ^ 0%2 ^ 32)=((Y ^^^ Z:Nat):Int):=by
  rw [show(2:Int) ^ 0=1 from rfl,Int.ediv_one];omega
 have hm:=m.ok;have hq:=(yG a m).ok;unfold aB at hm hq;rw [e,<- hx,w64,w64] at h
 have e2:(kW (IntKind.i64.wrap ((yG a m).v - m.v))).v=(xk a m).v:=by
  show wrap32 (IntKind.i64.wrap ((yG a m).v - m.v))=wrap32 ((yG a m).v - m.v);rw [IntKind.wrap_i64];congr 1;omega
 rw [e2] at h;exact h
noncomputable def aut:eG:=AX 284 (fun a b=>.int .i32 (xk a b).v) (fun _ _=>gK _) anR
def adg (y:Int):Nat->List Ob
 | 0=>[]
 | j+1=>ajx 2 .i64 (y / 2 ^ (31 - j)%2) 0 true::adg y j
def axj(c:Nat):List (Nat×Bool):=(List.range c).map (fun j=>(33+j,true))++[(33+c,false)]
def alo(y:Int)(c:Nat):List Ob:=bif Nat.blt c 32 then ajx 2 .i64 (y / 2 ^ (31 - c)%2) 0 false::adg y c else adg y 32
theorem aaH(a:Wd):∀ c:Nat,c<33->bF (dn [] [(179,.agg 32)] (axj c)) (aZ [ac1]) 400 248 [.opq 0] [.int .i32 a.v]=some (.int .i32 (Int.ofNat c),alo ((kW a.v).v%4294967296) c)
 | 0,_=>by kernel_rfl
 | 1,_=>by kernel_rfl
 | 2,_=>by kernel_rfl
 | 3,_=>by kernel_rfl
 | 4,_=>by kernel_rfl
 | 5,_=>by kernel_rfl
 | 6,_=>by kernel_rfl
 | 7,_=>by kernel_rfl
 | 8,_=>by kernel_rfl
 | 9,_=>by kernel_rfl
 | 10,_=>by kernel_rfl
 | 11,_=>by kernel_rfl
 | 12,_=>by kernel_rfl
 | 13,_=>by kernel_rfl
 | 14,_=>by kernel_rfl
 | 15,_=>by kernel_rfl
 | 16,_=>by kernel_rfl
 | 17,_=>by kernel_rfl
 | 18,_=>by kernel_rfl
 | 19,_=>by kernel_rfl
 | 20,_=>by kernel_rfl
 | 21,_=>by kernel_rfl
 | 22,_=>by kernel_rfl
 | 23,_=>by kernel_rfl
 | 24,_=>by kernel_rfl
 | 25,_=>by kernel_rfl
 | 26,_=>by kernel_rfl
 | 27,_=>by kernel_rfl
 | 28,_=>by kernel_rfl
 | 29,_=>by kernel_rfl
 | 30,_=>by kernel_rfl
 | 31,_=>by kernel_rfl
 | 32,_=>by kernel_rfl
 | k+33,h=>absurd h (by omega)
theorem Qs(y:Int)(c:Nat)(h0:0<=y)(h:y<2 ^ (32 - c)):∀ j,j<=c->j<=32->∀ ob∈adg y j,lJ Tryz.prog ob
 | 0,_,_=>pU
 | j+1,h1,h2=>eF (aaG (by
  have hp:(2:Int) ^ (32 - c)<=2 ^ (31 - j):=by exact_mod_cast Nat.pow_le_pow_right (by omega:1<=2) (by omega:32 - c<=31 - j)
  rw [Int.ediv_eq_zero_of_lt h0 (by omega)]; rfl)) (Qs y c h0 h j (by omega) (by omega))
theorem arH(a:Wd)(w:World):Calls Tryz.prog 248 #[.int .i32 a.v] w fun e w'=>e=.returned (.int .i32 (jI a).v)/\ah w w' []:=by
 obtain⟨Y,hY⟩:∃ Y:Nat,a.v%4294967296=Y:=⟨(a.v%4294967296).toNat,by omega⟩
 have hlt:Y<4294967296:=by omega
 have hv:(jI a).v=32 - (Lib.bitLen Y:Int):=by show 32 - (Lib.bitLen (a.v%4294967296).toNat:Int)=_; rw [hY,Int.toNat_natCast]
 rw [hv];by_cases h0:Y=0
 . subst h0
   have hb:Lib.bitLen 0=0:=Lib.bitLenAux_zero 64;rw [hb]
   have h:=aG _ (aaH a 32 (by omega)) (Bd a) (by
    rw [aQ,hY]
    exact Qs _ 32 (by omega) (by decide) 32 (by omega) (by omega)) w
   exact h
 . obtain⟨l1,l2,l3⟩:=Lib.bitLenAux_bounds 64 Y (by omega) h0
   have hL:Lib.bitLenAux 64 Y=Lib.bitLen Y:=rfl;rw [hL] at l1 l2 l3
   have l4:Lib.bitLen Y<=32:=by
    rcases Nat.lt_or_ge 32 (Lib.bitLen Y) with h | h
    . have:2 ^ 32<=2 ^ (Lib.bitLen Y - 1):=Nat.pow_le_pow_right (by omega) (by omega)
      omega
    . exact h
   generalize Lib.bitLen Y=n at *
   have h:=aG _ (aaH a (32 - n) (by omega)) (Bd a) (by
    rw [aQ,hY];unfold alo;rw [show Nat.blt (32 - n) 32=true from aI.2 (by omega)];refine eF (aaG ?_) (Qs _ (32 - n) (by omega) (by rw [show 32 - (32 - n)=n by omega]; exact_mod_cast l3) _ (by omega) (by omega));rw [show 31 - (32 - n)=n - 1 by omega]
    have e:(Y:Int) / 2 ^ (n - 1)=1:=by
     have:Y / 2 ^ (n - 1)=1:=by
      have hp:2 ^ n=2*2 ^ (n - 1):=by rw [<- Nat.pow_succ']; congr 1; omega
      refine Nat.div_eq_of_lt_le (by omega) (by omega)
     rw [show(Y:Int) / 2 ^ (n - 1)=((Y / 2 ^ (n - 1):Nat):Int) by simp,this]; rfl
    rw [e]; rfl) w
   have e:Int.ofNat (32 - n)=32 - (n:Int):=by simp; omega
   rw [e] at h;exact h
noncomputable def arI:eG:=Fb 248 (fun a=>.int .i32 (jI a).v) (fun _=>gK _) arH
inductive PA where
 | w (x:Wd)
 | a (l:List Wd)
def PA.val:PA->Value
 | .w x=>.int .i32 x.v
 | .a l=>.agg (l.map fun x=>.int .i32 x.v).toArray
def pws:List Value->Option (List Wd)
 | []=>some []
 | .int .i32 n::l=>match pws l with | some r=>some (kW n::r) | none=>none
 | _::_=>none
def OI:List Value->Option (List PA)
 | []=>some []
 | .int .i32 n::l=>match OI l with | some r=>some (.w (kW n)::r) | none=>none
 | .agg ds::l=>match pws ds.toList with
  | some q=>match OI l with | some r=>some (.a q::r) | none=>none
  | none=>none
 | _::_=>none
theorem agv:∀ {l:List Value} {r:List Wd},pws l=some r->(∀ u∈l,dR u)->l=r.map fun x=>.int .i32 x.v
 | [],r,h,hg=>by injection h with h; subst h; rfl
 | .int .i32 n::l,r,h,hg=>by
  unfold pws at h
  cases hl:pws l with
  | none=>rw [hl] at h; cases h
  | some q =>
   rw [hl] at h;injection h with h;subst h;rw [List.map_cons,<- agv hl (fun u hu=>hg u (by simp [hu])),uz (hg (.int .i32 n) (by simp))]
 | .int .i8 _::_,_,h,_=>by cases h
 | .int .i16 _::_,_,h,_=>by cases h
 | .int .i64 _::_,_,h,_=>by cases h
 | .int .u8 _::_,_,h,_=>by cases h
 | .int .u16 _::_,_,h,_=>by cases h
 | .int .u32 _::_,_,h,_=>by cases h
 | .int .u64 _::_,_,h,_=>by cases h
 | .bool _::_,_,h,_=>by cases h
 | .float _ _::_,_,h,_=>by cases h
 | .complex _ _ _::_,_,h,_=>by cases h
 | .string _::_,_,h,_=>by cases h
 | .pointer _::_,_,h,_=>by cases h
 | .slice _ _ _::_,_,h,_=>by cases h
 | .map _::_,_,h,_=>by cases h
 | .chan _::_,_,h,_=>by cases h
 | .func _ _ _::_,_,h,_=>by cases h
 | .nilFunc::_,_,h,_=>by cases h
 | .iface _ _::_,_,h,_=>by cases h
 | .nilIface::_,_,h,_=>by cases h
 | .tuple _::_,_,h,_=>by cases h
 | .agg _::_,_,h,_=>by cases h
theorem XA:∀ {l:List Value} {r:List PA},OI l=some r->(∀ u∈l,good1 u)->l=r.map PA.val
 | [],r,h,hg=>by injection h with h; subst h; rfl
 | .int .i32 n::l,r,h,hg=>by
  unfold OI at h
  cases hl:OI l with
  | none=>rw [hl] at h; cases h
  | some q =>
   rw [hl] at h;injection h with h;subst h;rw [List.map_cons,<- XA hl (fun u hu=>hg u (by simp [hu]))];show _=Value.int .i32 (kW n).v::l;rw [uz (h_ (hg (.int .i32 n) (by simp)))]
 | .agg ds::l,r,h,hg=>by
  unfold OI at h
  cases hd:pws ds.toList with
  | none=>rw [hd] at h; cases h
  | some d =>
   rw [hd] at h;simp only [] at h
   cases hl:OI l with
   | none=>rw [hl] at h; cases h
   | some q =>
    rw [hl] at h;injection h with h;subst h
    have hgd:∀ u∈ds.toList,dR u:=by
     rcases hg (.agg ds) (by simp) with h | ⟨ds',h,hd'⟩
     . cases h
     . injection h with h; subst h; exact hd'
    rw [List.map_cons,<- XA hl (fun u hu=>hg u (by simp [hu]))];show _=Value.agg (d.map fun x=>.int .i32 x.v).toArray::l;rw [<- agv hd hgd]
 | .int .i8 _::_,_,h,_=>by cases h
 | .int .i16 _::_,_,h,_=>by cases h
 | .int .i64 _::_,_,h,_=>by cases h
 | .int .u8 _::_,_,h,_=>by cases h
 | .int .u16 _::_,_,h,_=>by cases h
 | .int .u32 _::_,_,h,_=>by cases h
 | .int .u64 _::_,_,h,_=>by cases h
 | .bool _::_,_,h,_=>by cases h
 | .float _ _::_,_,h,_=>by cases h
 | .complex _ _ _::_,_,h,_=>by cases h
 | .string _::_,_,h,_=>by cases h
 | .pointer _::_,_,h,_=>by cases h
 | .slice _ _ _::_,_,h,_=>by cases h
 | .map _::_,_,h,_=>by cases h
 | .chan _::_,_,h,_=>by cases h
 | .func _ _ _::_,_,h,_=>by cases h
 | .nilFunc::_,_,h,_=>by cases h
 | .iface _ _::_,_,h,_=>by cases h
 | .nilIface::_,_,h,_=>by cases h
 | .tuple _::_,_,h,_=>by cases h
def fP(R:List PA->Option Value)(us:List Value):Option Value:=match OI us with | some ps=>R ps | none=>none
def Qu(f:FuncId)(R:List PA->Option Value)(h:∀ ps v,R ps=some v->iy v/\∀ w:World,Calls Tryz.prog f (ps.map PA.val).toArray w fun e w'=>e=.returned v/\ah w w' []):eG where
 f:=f
 fn:=fP R
 ok:=fun us v hv hg=>by
  unfold fP at hv
  cases hp:OI us with
  | none=>rw [hp] at hv; cases hv
  | some ps =>
   rw [hp] at hv;have:=h ps v hv;rw [<- XA hp hg] at this;exact this
theorem anS(l:List Wd):good1 (.agg (l.map fun x=>.int .i32 x.v).toArray):=.inr ⟨_,rfl,fun u hu=>by
 simp only [List.mem_map] at hu;obtain⟨x,_,rfl⟩:=hu
 exact g_ x⟩
theorem anT(l:List Wd):iy (.agg (l.map fun x=>.int .i32 x.v).toArray):=.inl (anS l)
theorem aaJ(a b:Wd):iy (.tuple #[.int .i32 a.v,.int .i32 b.v]):=.inr ⟨_,rfl,fun u hu=>by
 simp at hu;rcases hu with rfl | rfl
 . exact .inl (g_ _)
 . exact .inl (g_ _)⟩
def wl(l:List Wd):List Value:=l.map fun x=>.int .i32 x.v
theorem Ed(l:List Wd):eP (wl l):=fun v hv=>by
 obtain⟨x,_,rfl⟩:=List.mem_map.1 hv;exact g_ x
def fE (a b:Int):Int:=(gV (kW a) (kW b)).v
def bW (a b:Int):Int:=(rP (kW a) (kW b)).v
def aO (a b:Int):Int:=(aP (kW a) (kW b)).v
def yJ (a b:Int):Int:=(nP (kW a) (kW b)).v
def Qv (a b:Int):Int:=(wK (kW a) (kW b)).v
def lQ (a b:Int):Int:=(wL (kW a) (kW b)).v
def OJ (c:Int):Int:=IntKind.i32.wrap (c - IntKind.i32.wrap (c.tmod 2))
def adh (c:Int):Int:=OJ (IntKind.i32.wrap (c - 32))
def arJ:List (FuncId×Sh):=[(248,.one),(114,.one),(250,.one)]
noncomputable def arK:List eG:=[arI,ac4,arz]
theorem adi(a:Wd):bF (dn [] arJ [(2,true)]) (aZ arK) 100 244 [.opq 0] [.int .i32 a.v]=some (.tuple #[.int .i32 (Qv (yJ a.v (adh (jI (kW a.v)).v)) 2),.int .i32 (IntKind.i32.wrap ((adh (jI (kW a.v)).v).tdiv 2))],[Dq 21 .i32 (jI (kW a.v)).v 32 true]):=by kernel_rfl
theorem adk(a:Wd):bF (dn [] arJ [(2,false)]) (aZ arK) 100 244 [.opq 0] [.int .i32 a.v]=some (.tuple #[.int .i32 (Qv (yJ a.v (OJ (jI (kW a.v)).v)) 2),.int .i32 (IntKind.i32.wrap ((OJ (jI (kW a.v)).v).tdiv 2))],[Dq 21 .i32 (jI (kW a.v)).v 32 false]):=by kernel_rfl
def OL (x:Wd):Wd:=wK (TN x) (kW 1)
theorem anU:∀ c:Fin 32,OJ (Int.ofNat c.val)=uh (Int.ofNat c.val) 30/\IntKind.i32.wrap ((OJ (Int.ofNat c.val)).tdiv 2)=wI (uh (Int.ofNat c.val) 30) 1:=by decide +kernel
theorem arL (a:Wd):0<=(jI a).v/\(jI a).v<=32:=by
 have h:=Any.bitLen_le32 (a.v%4294967296) (by omega) (by omega);show 0<=32 - (Lib.bitLen (a.v%4294967296).toNat:Int)/\32 - (Lib.bitLen (a.v%4294967296).toNat:Int)<=32;omega
theorem ajO(a:Wd)(w:World):Calls Tryz.prog 244 #[.int .i32 a.v] w fun e w'=>e=.returned (.tuple #[.int .i32 (Oe a).v,.int .i32 (OL a).v])/\ah w w' []:=by
 have hc:=arL a
 have key:∀ T:Int,T=(TN a).v->IntKind.i32.wrap (T.tdiv 2)=(OL a).v->Value.tuple #[.int .i32 (Qv (yJ a.v T) 2),.int .i32 (IntKind.i32.wrap (T.tdiv 2))]=.tuple #[.int .i32 (Oe a).v,.int .i32 (OL a).v]:=fun T h1 h2=>by
  rw [h2,h1];unfold Qv yJ;rw [aQ,aQ,aQ];rfl
 by_cases h32:32<=(jI a).v
 . have e:(jI a).v=32:=by omega
   have h:=aG _ (adi a) (Bd a) (gI (rW (by rw [aQ]; simpa using h32))) w;rw [aQ] at h;rw [key _ ?_ ?_] at h
   . exact h
   . rw [e]; show adh 32=uh (jI a).v (kW 30).v; rw [e]; decide +kernel
   . rw [e]; show _=wI (uh (jI a).v (kW 30).v) (kW 1).v; rw [e]; decide +kernel
 . obtain⟨q1,q2⟩:=anU ⟨(jI a).v.toNat,by omega⟩
   have e:Int.ofNat (jI a).v.toNat=(jI a).v:=by simp; omega
   simp only [e] at q1 q2;have h:=aG _ (adk a) (Bd a) (gI (rW (by rw [aQ]; simpa using h32))) w;rw [aQ] at h;have k30:(kW 30).v=30:=jl (by decide);have k1:(kW 1).v=1:=jl (by decide);rw [key _ (q1.trans (by show _=uh (jI a).v (kW 30).v; rw [k30])) (q2.trans (by show _=wI (uh (jI a).v (kW 30).v) (kW 1).v; rw [k30,k1]))] at h;exact h
noncomputable def arM:eG:=Fb 244 (fun a=>.tuple #[.int .i32 (Oe a).v,.int .i32 (OL a).v]) (fun a=>aaJ _ _) ajO
theorem OM(a:Wd){n:Int}(h:aB n):BR a n=nP a (kW n):=Wd.dw (by show ug a.v n=ug a.v (kW n).v; rw [jl h])
theorem jE(a:Wd){n:Int}(h:aB n):qj a n=wL a (kW n):=Wd.dw (by show wH a.v n=wH a.v (kW n).v; rw [jl h])
def RY (u:Int):Nat->Int
 | 0=>bW 1184766729 (aO 715827883 u)
 | n+1=>fE (RY u n) (lQ (aO (RY u n) (bW 1073741824 (yJ (aO u (aO (RY u n) (RY u n))) 2))) 1)
def rsS:List (FuncId×Sh):=[(244,.two .one .one),(243,.one),(120,.one),(125,.one),(114,.one),(123,.one)]
noncomputable def rsT:List eG:=[arM,ac_,ac7,ajC,ac4,ac5]
theorem agw(a:Wd):bF (dn [] rsS []) (aZ rsT) 100 187 [.opq 0] [.int .i32 a.v]=some (.tuple #[.int .i32 (RY (Oe (kW a.v)).v 4),.int .i32 (OL (kW a.v)).v],[]):=by kernel_rfl
theorem agx(u:Wd):∀ n,RY u.v n=(TP u n).v
 | 0=>by unfold RY bW aO; rw [aQ,aQ]; rfl
 | n+1=>by
  unfold RY fE lQ aO bW yJ;rw [agx u n];simp only [aQ];rw [TP,Wx,OM _ (by decide),jE _ (by decide)]
theorem XB(a:Wd)(w:World):Calls Tryz.prog 187 #[.int .i32 a.v] w fun e w'=>e=.returned (.tuple #[.int .i32 (dB a).1.v,.int .i32 (dB a).2.v])/\ah w w' []:=by
 have h:=aG _ (agw a) (Bd a) pU w;rw [aQ,agx] at h;exact h
noncomputable def XC:eG:=Fb 187 (fun a=>.tuple #[.int .i32 (dB a).1.v,.int .i32 (dB a).2.v]) (fun a=>aaJ _ _) XB
theorem agy(a z h:Wd):bF (dn [] rsS []) (aZ rsT) 100 189 [.opq 0,.opq 1,.opq 2] [.int .i32 a.v,.int .i32 z.v,.int .i32 h.v]=some (.int .i32 (yJ (aO a.v z.v) h.v),[]):=by kernel_rfl
theorem XD(a z h:Wd)(w:World):Calls Tryz.prog 189 #[.int .i32 a.v,.int .i32 z.v,.int .i32 h.v] w fun e w'=>e=.returned (.int .i32 (gW a z h).v)/\ah w w' []:=by
 have h:=aG _ (agy a z h) (Qr a z h) pU w;unfold yJ aO at h;simp only [aQ] at h;exact h
noncomputable def XE:eG:=aw7 189 (fun a b c=>.int .i32 (gW a b c).v) (fun _ _ _=>gK _) XD
theorem ajP(a:Wd):bF (dn [] [(187,.two .one .one),(189,.one)] []) (aZ [XC,XE]) 100 193 [.opq 0] [.int .i32 a.v]=some (.int .i32 (gW (kW a.v) (kW (dB (kW a.v)).1.v) (kW (dB (kW a.v)).2.v)).v,[]):=by kernel_rfl
theorem anV(a:Wd)(w:World):Calls Tryz.prog 193 #[.int .i32 a.v] w fun e w'=>e=.returned (.int .i32 (B_ a).v)/\ah w w' []:=by
 have h:=aG _ (ajP a) (Bd a) pU w;simp only [aQ] at h;exact h
noncomputable def alp:eG:=Fb 193 (fun a=>.int .i32 (B_ a).v) (fun _=>gK _) anV
def RV (F:Wd->Wd->Wd->Value):List PA->Option Value
 | [.a [x,y,z]]=>some (F x y z)
 | _=>none
def axk(f:FuncId)(F:Wd->Wd->Wd->Value)(hR:∀ a b c,iy (F a b c))(h:∀(a b c:Wd) (w:World),Calls Tryz.prog f #[.agg #[.int .i32 a.v,.int .i32 b.v,.int .i32 c.v]] w fun e w'=>e=.returned (F a b c)/\ah w w' []):eG :=
 Qu f (RV F) fun ps v hv=>by
  unfold RV at hv;split at hv
  . injection hv with hv
    subst hv;exact⟨hR _ _ _,h _ _ _⟩
  . cases hv
def q4 (a b c d:Wd):Value:=.agg #[.int .i32 a.v,.int .i32 b.v,.int .i32 c.v,.int .i32 d.v]
def q3 (a b c:Wd):Value:=.agg #[.int .i32 a.v,.int .i32 b.v,.int .i32 c.v]
theorem XG (a b c d:Wd):iy (q4 a b c d):=anT [a,b,c,d]
theorem OO(a b c:Wd):(dK a b c).v=uG a.v b.v c.v:=by
 show PX (PX (AL a.v a.v) (AL b.v b.v)) (AL c.v c.v)=_;unfold PX AL uG pq;generalize a.v*a.v=x;generalize b.v*b.v=y;generalize c.v*c.v=z;unfold wrap32;omega
theorem OQ (a b c:Wd) (lo hi:Int) (h0:0<=lo/\lo<=2147483647) (h1:0<=hi/\hi<=2147483647) :
 inside lo hi a.v b.v c.v=CJ (dK a b c) lo hi:=by
 have e:=OO a b c;have k0:(kW lo).v=lo:=jl ⟨by omega,by omega⟩;have k1:(kW hi).v=hi:=jl ⟨by omega,by omega⟩;have hw:(rQ (dK a b c) (kW lo) (kW hi)).v=sF (BO (mV (dK a b c).v (kW lo).v) (mV (kW hi).v (dK a b c).v)) (kW 1).v:=rfl;unfold CJ;rw [hw,e,k0,k1];unfold inside mV;have m0:lo%4294967296=lo:=by omega
 have m1:hi%4294967296=hi:=by omega
 rw [m0,m1];generalize uG a.v b.v c.v%4294967296=p;by_cases u:p<lo<;>by_cases v:hi<p
 . rw [if_pos u,if_pos v,show sF (BO 1 1) (kW 1).v=0 by decide +kernel]; simp; omega
 . rw [if_pos u,if_neg v,show sF (BO 1 0) (kW 1).v=0 by decide +kernel]; simp; omega
 . rw [if_neg u,if_pos v,show sF (BO 0 1) (kW 1).v=0 by decide +kernel]; simp; omega
 . rw [if_neg u,if_neg v,show sF (BO 0 0) (kW 1).v=-1 by decide +kernel]; simp; omega
noncomputable def arN:eG:=axk 188 (fun a b c=>.int .i32 (dK a b c).v) (fun _ _ _=>gK _) fun a b c w=>by
 rw [OO];exact(Gv a.v b.v c.v w a.ok b.ok c.ok)
def scK (a z h:Int):Int:=(gW (kW a) (kW z) (kW h)).v
def gu (a b c:Wd) (v:Int):Value:=.int .i32 (scK (yJ v 15) (dB (kW (dK (kW a.v) (kW b.v) (kW c.v)).v)).1.v (dB (kW (dK (kW a.v) (kW b.v) (kW c.v)).v)).2.v)
theorem agz (a b c:Wd):bF (dn [] [(188,.one),(187,.two .one .one),(114,.one),(189,.one)] []) (aZ [arN,XC,ac4,XE]) 200 117 [.agg [.opq 0,.opq 1,.opq 2]] [.int .i32 a.v,.int .i32 b.v,.int .i32 c.v] =
 some (.agg #[gu a b c a.v,gu a b c b.v,gu a b c c.v],[]):=by kernel_rfl
theorem ajT(a b c:Wd)(w:World):Calls Tryz.prog 117 #[.agg #[.int .i32 a.v,.int .i32 b.v,.int .i32 c.v]] w fun e w'=>e=.returned (q3 (mG a b c).a (mG a b c).b (mG a b c).c)/\ah w w' []:=by
 have h:=aG _ (agz a b c) (Qr a b c) pU w;unfold gu scK yJ at h;simp only [aQ] at h
 have e:q3 (mG a b c).a (mG a b c).b (mG a b c).c=q3 (gW (nP a (kW 15)) (dB (dK a b c)).1 (dB (dK a b c)).2) (gW (nP b (kW 15)) (dB (dK a b c)).1 (dB (dK a b c)).2) (gW (nP c (kW 15)) (dB (dK a b c)).1 (dB (dK a b c)).2):=by
  unfold mG;rw [OM a (by decide:aB 15),OM b (by decide:aB 15),OM c (by decide:aB 15)]
 rw [e];exact h
def RQ (F:Wd->Wd->Wd->Wd->Value):List PA->Option Value
 | [.a [a,b,c,d]]=>some (F a b c d)
 | _=>none
def arO(f:FuncId)(F:Wd->Wd->Wd->Wd->Value)(hR:∀ a b c d,iy (F a b c d))(h:∀(a b c d:Wd) (w:World),Calls Tryz.prog f #[q4 a b c d] w fun e w'=>e=.returned (F a b c d)/\ah w w' []):eG :=
 Qu f (RQ F) fun ps v hv=>by
  unfold RQ at hv;split at hv
  . injection hv with hv
    subst hv;exact⟨hR _ _ _ _,h _ _ _ _⟩
  . cases hv
def RQV (F:Wd->Wd->Wd->Wd->Wd->Wd->Wd->Value):List PA->Option Value
 | [.a [a,b,c,d],.a [x,y,z]]=>some (F a b c d x y z)
 | _=>none
def auu(f:FuncId)(F:Wd->Wd->Wd->Wd->Wd->Wd->Wd->Value)(hR:∀ a b c d x y z,iy (F a b c d x y z))(h:∀(a b c d x y z:Wd) (w:World),Calls Tryz.prog f #[q4 a b c d,q3 x y z] w fun e w'=>e=.returned (F a b c d x y z)/\ah w w' []):eG :=
 Qu f (RQV F) fun ps v hv=>by
  unfold RQV at hv;split at hv
  . injection hv with hv
    subst hv;exact⟨hR _ _ _ _ _ _ _,h _ _ _ _ _ _ _⟩
  . cases hv
def RQQ (F:Wd->Wd->Wd->Wd->Wd->Wd->Wd->Wd->Value):List PA->Option Value
 | [.a [a,b,c,d],.a [x,y,z,t]]=>some (F a b c d x y z t)
 | _=>none
def auv(f:FuncId)(F:Wd->Wd->Wd->Wd->Wd->Wd->Wd->Wd->Value)(hR:∀ a b c d x y z t,iy (F a b c d x y z t))(h:∀(a b c d x y z t:Wd) (w:World),Calls Tryz.prog f #[q4 a b c d,q4 x y z t] w fun e w'=>e=.returned (F a b c d x y z t)/\ah w w' []):eG :=
 Qu f (RQQ F) fun ps v hv=>by
  unfold RQQ at hv;split at hv
  . injection hv with hv
    subst hv;exact⟨hR _ _ _ _ _ _ _ _,h _ _ _ _ _ _ _ _⟩
  . cases hv
abbrev v3 (a b c:Wd):Value:=q3 a b c
def qv (x:Q4):Value:=q4 x.a x.b x.c x.d
def qI (a b c d:Int):Value:=.agg #[.int .i32 a,.int .i32 b,.int .i32 c,.int .i32 d]
theorem XH (x:Q4):iy (qv x):=XG _ _ _ _
def Bf (a:Int):Int:=(j_ (kW a)).v
def in4 (a b c d:Wd):List Value:=[.int .i32 a.v,.int .i32 b.v,.int .i32 c.v,.int .i32 d.v]
def in7 (a b c d x y z:Wd):List Value:=[.int .i32 a.v,.int .i32 b.v,.int .i32 c.v,.int .i32 d.v,.int .i32 x.v,.int .i32 y.v,.int .i32 z.v]
def in8 (a b c d x y z t:Wd):List Value:=[.int .i32 a.v,.int .i32 b.v,.int .i32 c.v,.int .i32 d.v,.int .i32 x.v,.int .i32 y.v,.int .i32 z.v,.int .i32 t.v]
theorem ajU (a b c d:Wd):eP (in4 a b c d):=Ed [a,b,c,d]
theorem ajV (a b c d x y z:Wd):eP (in7 a b c d x y z):=Ed [a,b,c,d,x,y,z]
theorem axl (a b c d x y z t:Wd):eP (in8 a b c d x y z t):=Ed [a,b,c,d,x,y,z,t]
def wS:List (FuncId×Sh):=[(243,.one),(120,.one),(125,.one),(194,.one),(123,.one)]
noncomputable def wT:List eG:=[ac_,ac7,ajC,ajD,ac5]
theorem agB(a b c d:Wd):bF (dn [] wS []) (aZ wT) 300 196 [.agg (bQ 4 0)] (in4 a b c d)=some (.int .i32 (fE (fE (fE (aO a.v a.v) (aO b.v b.v)) (aO c.v c.v)) (aO d.v d.v)),[]):=by kernel_rfl
theorem XI(a b c d:Wd)(w:World):Calls Tryz.prog 196 #[q4 a b c d] w fun e w'=>e=.returned (.int .i32 (jh a [b,c,d]).v)/\ah w w' []:=by
 have h:=aG _ (agB a b c d) (ajU a b c d) pU w;unfold fE aO at h;simp only [aQ] at h;exact h
noncomputable def arP:eG:=arO 196 (fun a b c d=>.int .i32 (jh a [b,c,d]).v) (fun _ _ _ _=>gK _) XI
theorem ajW(a b c d:Wd):bF (dn [] wS []) (aZ wT) 300 192 [.agg (bQ 4 0)] (in4 a b c d)=some (qI a.v (Bf b.v) (Bf c.v) (Bf d.v),[]):=by kernel_rfl
theorem anW(a b c d:Wd)(w:World):Calls Tryz.prog 192 #[q4 a b c d] w fun e w'=>e=.returned (q4 a (j_ b) (j_ c) (j_ d))/\ah w w' []:=by
 have h:=aG _ (ajW a b c d) (ajU a b c d) pU w;unfold Bf at h;simp only [aQ] at h;exact h
noncomputable def auw:eG:=arO 192 (fun a b c d=>q4 a (j_ b) (j_ c) (j_ d)) (fun _ _ _ _=>XG _ _ _ _) anW
def agC (p0 p1 p2 p3 q0 q1 q2 q3:Int):Value:=qI
 (bW (bW (bW (aO p0 q0) (aO p1 q1)) (aO p2 q2)) (aO p3 q3))
 (bW (fE (fE (aO p0 q1) (aO p1 q0)) (aO p2 q3)) (aO p3 q2))
 (fE (fE (bW (aO p0 q2) (aO p1 q3)) (aO p2 q0)) (aO p3 q1))
 (fE (bW (fE (aO p0 q3) (aO p1 q2)) (aO p2 q1)) (aO p3 q0))
theorem agD(p0 p1 p2 p3 q0 q1 q2 q3:Wd):bF (dn [] wS []) (aZ wT) 300 191 [.agg (bQ 4 0),.agg (bQ 4 4)] (in8 p0 p1 p2 p3 q0 q1 q2 q3)=some (agC p0.v p1.v p2.v p3.v q0.v q1.v q2.v q3.v,[]):=by kernel_rfl
theorem ajX(p0 p1 p2 p3 q0 q1 q2 q3:Wd)(w:World):Calls Tryz.prog 191 #[q4 p0 p1 p2 p3,q4 q0 q1 q2 q3] w fun e w'=>e=.returned (qv (Oa p0 p1 p2 p3 q0 q1 q2 q3))/\ah w w' []:=by
 have h:=aG _ (agD p0 p1 p2 p3 q0 q1 q2 q3) (axl p0 p1 p2 p3 q0 q1 q2 q3) pU w;unfold agC fE bW aO at h;simp only [aQ] at h;exact h
noncomputable def arQ:eG:=auv 191 (fun a b c d x y z t=>qv (Oa a b c d x y z t)) (fun _ _ _ _ _ _ _ _=>XH _) ajX
def alu (q0 q1 q2 q3 w0 w1 w2:Int):Value:=qI
 (bW (bW (bW 0 (aO q1 w0)) (aO q2 w1)) (aO q3 w2))
 (bW (fE (aO q0 w0) (aO q2 w2)) (aO q3 w1))
 (fE (bW (aO q0 w1) (aO q1 w2)) (aO q3 w0))
 (bW (fE (aO q0 w2) (aO q1 w1)) (aO q2 w0))
theorem ajY(q0 q1 q2 q3 w0 w1 w2:Wd):bF (dn [] wS []) (aZ wT) 300 115 [.agg (bQ 4 0),.agg (bQ 3 4)] (in7 q0 q1 q2 q3 w0 w1 w2)=some (alu q0.v q1.v q2.v q3.v w0.v w1.v w2.v,[]):=by kernel_rfl
theorem aaK(q0 q1 q2 q3 w0 w1 w2:Wd)(w:World):Calls Tryz.prog 115 #[q4 q0 q1 q2 q3,v3 w0 w1 w2] w fun e w'=>e=.returned (qv (xu q0 q1 q2 q3 w0 w1 w2))/\ah w w' []:=by
 have h:=aG _ (ajY q0 q1 q2 q3 w0 w1 w2) (ajV q0 q1 q2 q3 w0 w1 w2) pU w;unfold alu fE bW aO at h;simp only [aQ] at h;exact h
noncomputable def auy:eG:=auu 115 (fun a b c d x y z=>qv (xu a b c d x y z)) (fun _ _ _ _ _ _ _=>XH _) aaK
def ajZ (q0 q1 q2 q3 a:Int):Int:=bW (bW (aO q1 q3) (aO q0 q2)) (lQ a 1)
def aj0 (q0 q1 q2 q3 a:Int):Int:=bW (fE (aO q0 q1) (aO q2 q3)) (lQ a 1)
def aj1 (q1 q2 a:Int):Int:=bW (bW (bW 536870912 (aO q1 q1)) (aO q2 q2)) (lQ a 1)
def imK (q0 q1 q2 q3 f0 f1 f2:Int):Value:=qI (lQ (bW (aO q1 f1) (aO q2 f0)) 1) (bW (lQ (fE (aO q3 f0) (aO q0 f1)) 1) (aO q1 f2)) (bW (lQ (bW (aO q3 f1) (aO q0 f0)) 1) (aO q2 f2)) (lQ (fE (aO q1 f0) (aO q2 f1)) 1)
theorem anX(q0 q1 q2 q3 a0 a1 a2:Wd):bF (dn [] wS []) (aZ wT) 300 116 [.agg (bQ 4 0),.agg (bQ 3 4)] (in7 q0 q1 q2 q3 a0 a1 a2)=some (imK q0.v q1.v q2.v q3.v (ajZ q0.v q1.v q2.v q3.v a0.v) (aj0 q0.v q1.v q2.v q3.v a1.v) (aj1 q1.v q2.v a2.v),[]):=by kernel_rfl
theorem arS(q0 q1 q2 q3 a0 a1 a2:Wd)(w:World):Calls Tryz.prog 116 #[q4 q0 q1 q2 q3,v3 a0 a1 a2] w fun e w'=>e=.returned (qv (Oc q0 q1 q2 q3 a0 a1 a2))/\ah w w' []:=by
 have h:=aG _ (anX q0 q1 q2 q3 a0 a1 a2) (ajV q0 q1 q2 q3 a0 a1 a2) pU w
 have e0:ajZ q0.v q1.v q2.v q3.v a0.v=(Ia q0 q1 q2 q3 a0).v:=by
  unfold ajZ bW aO lQ Ia; simp only [aQ]; rw [jE _ (by decide:aB 1)]; rfl
 have e1:aj0 q0.v q1.v q2.v q3.v a1.v=(Ib q0 q1 q2 q3 a1).v:=by
  unfold aj0 bW fE aO lQ Ib; simp only [aQ]; rw [jE _ (by decide:aB 1)]; rfl
 have e2:aj1 q1.v q2.v a2.v=(Ic q1 q2 a2).v:=by
  unfold aj1 bW aO lQ Ic; simp only [aQ]; rw [jE _ (by decide:aB 1)]; rfl
 rw [e0,e1,e2] at h
 have e:qv (Oc q0 q1 q2 q3 a0 a1 a2)=imK q0.v q1.v q2.v q3.v (Ia q0 q1 q2 q3 a0).v (Ib q0 q1 q2 q3 a1).v (Ic q1 q2 a2).v:=by
  unfold Oc;generalize Ia q0 q1 q2 q3 a0=f0;generalize Ib q0 q1 q2 q3 a1=f1;generalize Ic q1 q2 a2=f2;unfold imK afD bW fE aO lQ;simp only [aQ];rw [jE _ (by decide:aB 1),jE _ (by decide:aB 1),jE _ (by decide:aB 1),jE _ (by decide:aB 1)];rfl
 rw [e];exact h
def evS:List (FuncId×Sh):=[(196,.one),(120,.one),(187,.two .one .one),(189,.one)]
noncomputable def axn:List eG:=[arP,ac7,XC,XE]
def evN (a b c d:Int):Wd:=kW (fE (jh (kW a) [kW b,kW c,kW d]).v 1024)
def evP (a b c d x:Int):Int:=scK x (dB (evN a b c d)).1.v (dB (evN a b c d)).2.v
theorem agF(a b c d:Wd):bF (dn [] evS []) (aZ axn) 300 121 [.agg (bQ 4 0)] (in4 a b c d)=some (qI (evP a.v b.v c.v d.v a.v) (evP a.v b.v c.v d.v b.v) (evP a.v b.v c.v d.v c.v) (evP a.v b.v c.v d.v d.v),[]):=by kernel_rfl
theorem aj2(a b c d:Wd)(w:World):Calls Tryz.prog 121 #[q4 a b c d] w fun e w'=>e=.returned (qv (TQ a b c d))/\ah w w' []:=by
 have h:=aG _ (agF a b c d) (ajU a b c d) pU w;unfold evP evN scK fE at h;simp only [aQ] at h;exact h
def mgR (q0 q1 q2 q3 f0 f1 f2:Int):Q4:=xu (kW q0) (kW q1) (kW q2) (kW q3) (kW f0) (kW f1) (kW f2)
def mgH (r:Q4) (q0 q1 q2 q3:Int):Q4:=Oa (kW r.a.v) (kW r.b.v) (kW r.c.v) (kW r.d.v) (kW (kW q0).v) (kW (Bf q1)) (kW (Bf q2)) (kW (Bf q3))
def mgB (h:Q4):Int:=(B_ (kW (fE (aO h.b.v h.b.v) (aO h.c.v h.c.v)))).v
def aj3 (q0 q1 q2 q3 bx bz f:Int):Int:=bW (fE (aO bx (bW (bW 536870912 (aO q2 q2)) (aO q3 q3))) (aO bz (bW (aO q1 q3) (aO q0 q2)))) (lQ f 1)
def aj6 (q0 q1 q2 q3 bx bz f:Int):Int:=bW (fE (aO bx (bW (aO q1 q2) (aO q0 q3))) (aO bz (fE (aO q0 q1) (aO q2 q3)))) (lQ f 1)
def aj7 (q0 q1 q2 q3 bx bz f:Int):Int:=bW (fE (aO bx (fE (aO q0 q2) (aO q1 q3))) (aO bz (bW (bW 536870912 (aO q1 q1)) (aO q2 q2)))) (lQ f 1)
def XJ (a b c e0 e1 e2:Int):Int:=lQ (fE (fE (aO a e0) (aO b e1)) (aO c e2)) 1
def aj8 (x0 x1 x2 x3 y0 y1 y2 y3 e0 e1 e2:Int):Value:=qI
 (XJ (Bf y2) (bW y1 x3) x2 e0 e1 e2)
 (XJ y3 (fE x2 y0) (bW (bW x3 y1) y1) e0 e1 e2)
 (XJ (Bf (fE (fE x2 x2) y0)) (fE x1 y3) (bW (bW x0 y2) y2) e0 e1 e2)
 (XJ (bW (bW y1 x3) x3) (bW y2 x0) x1 e0 e1 e2)
def mgK (q0 q1 q2 q3 f0 f1 f2 bx bz:Int):Value:=aj8 (aO bx q0) (aO bx q1) (aO bx q2) (aO bx q3) (aO bz q0) (aO bz q1) (aO bz q2) (aO bz q3) (aj3 q0 q1 q2 q3 bx bz f0) (aj6 q0 q1 q2 q3 bx bz f1) (aj7 q0 q1 q2 q3 bx bz f2)
def ado (q0 q1 q2 q3 f0 f1 f2:Int) (h:Q4):Value:=mgK q0 q1 q2 q3 f0 f1 f2 (mgB h) h.d.v
def mgS:List (FuncId×Sh):=(115,.agg 4)::(191,.agg 4)::(192,.agg 4)::(193,.one)::wS
noncomputable def mgT:List eG:=auy::arQ::auw::alp::wT
theorem anY(q0 q1 q2 q3 f0 f1 f2:Wd):bF (dn [] mgS []) (aZ mgT) 400 119 [.agg (bQ 4 0),.agg (bQ 3 4)] (in7 q0 q1 q2 q3 f0 f1 f2)=some (ado q0.v q1.v q2.v q3.v f0.v f1.v f2.v (mgH (mgR q0.v q1.v q2.v q3.v f0.v f1.v f2.v) q0.v q1.v q2.v q3.v),[]):=by kernel_rfl
theorem anZ(x y:Q4)(e:T3):aj8 x.a.v x.b.v x.c.v x.d.v y.a.v y.b.v y.c.v y.d.v e.a.v e.b.v e.c.v=qv (Go.Proofs.YtjmojlhnmkjdkaaGreatDoor.nC x y e):=by
 unfold aj8 XJ Bf bW fE aO lQ Go.Proofs.YtjmojlhnmkjdkaaGreatDoor.nC sumW;simp only [aQ];rw [jE _ (by decide:aB 1),jE _ (by decide:aB 1),jE _ (by decide:aB 1),jE _ (by decide:aB 1)];rfl
theorem auz(q0 q1 q2 q3 bx bz f0 f1 f2:Wd):aj3 q0.v q1.v q2.v q3.v bx.v bz.v f0.v=(zL q0 q1 q2 q3 bx bz f0 f1 f2).a.v/\aj6 q0.v q1.v q2.v q3.v bx.v bz.v f1.v=(zL q0 q1 q2 q3 bx bz f0 f1 f2).b.v/\aj7 q0.v q1.v q2.v q3.v bx.v bz.v f2.v=(zL q0 q1 q2 q3 bx bz f0 f1 f2).c.v:=by
 unfold aj3 aj6 aj7 bW fE aO lQ zL;simp only [aQ];rw [jE f0 (by decide:aB 1),jE f1 (by decide:aB 1),jE f2 (by decide:aB 1)];exact⟨rfl,rfl,rfl⟩
theorem auA(a b:Wd):aO a.v b.v=(aP a b).v:=by unfold aO; rw [aQ,aQ]
theorem arW(q0 q1 q2 q3 f0 f1 f2 bx bz:Wd):mgK q0.v q1.v q2.v q3.v f0.v f1.v f2.v bx.v bz.v=qv (Go.Proofs.YtjmojlhnmkjdkaaGreatDoor.nC ⟨aP bx q0,aP bx q1,aP bx q2,aP bx q3⟩ ⟨aP bz q0,aP bz q1,aP bz q2,aP bz q3⟩ (zL q0 q1 q2 q3 bx bz f0 f1 f2)):=by
 obtain⟨e0,e1,e2⟩:=auz q0 q1 q2 q3 bx bz f0 f1 f2;rw [<- anZ];unfold mgK;rw [e0,e1,e2];simp only [auA]
theorem arX(q0 q1 q2 q3 f0 f1 f2:Wd):mgH (mgR q0.v q1.v q2.v q3.v f0.v f1.v f2.v) q0.v q1.v q2.v q3.v=xW q0 q1 q2 q3 f0 f1 f2:=by
 unfold mgH mgR Bf xW;simp only [aQ]
theorem arY(h:Q4):mgB h=(B_ (jh h.b [h.c])).v:=by
 unfold mgB fE aO;simp only [aQ];rfl
theorem an0(q0 q1 q2 q3 f0 f1 f2:Wd)(w:World):Calls Tryz.prog 119 #[q4 q0 q1 q2 q3,v3 f0 f1 f2] w fun e w'=>e=.returned (qv (Ie q0 q1 q2 q3 f0 f1 f2))/\ah w w' []:=by
 have h:=aG _ (anY q0 q1 q2 q3 f0 f1 f2) (ajV q0 q1 q2 q3 f0 f1 f2) pU w
 have e:ado q0.v q1.v q2.v q3.v f0.v f1.v f2.v (mgH (mgR q0.v q1.v q2.v q3.v f0.v f1.v f2.v) q0.v q1.v q2.v q3.v)=qv (Ie q0 q1 q2 q3 f0 f1 f2):=by
  unfold ado;rw [arX,arY];have e2:(xW q0 q1 q2 q3 f0 f1 f2).d=D5 q0 q1 q2 q3 f0 f1 f2:=rfl;have e3:B_ (jh (xW q0 q1 q2 q3 f0 f1 f2).b [(xW q0 q1 q2 q3 f0 f1 f2).c])=DZ q0 q1 q2 q3 f0 f1 f2:=rfl;rw [e2,e3,arW];unfold Ie afF afG afE;rfl
 rw [e] at h;exact h
def mq (x:Q4):MO:=.a [x.a,x.b,x.c,x.d]
def mt3 (x:T3):MO:=.a [x.a,x.b,x.c]
noncomputable def auE:pV:=aj9 196 (fun a b c d=>.w (jh a [b,c,d])) XI
noncomputable def ar2:pV:=ew1 187 (fun x=>.t [.w (dB x).1,.w (dB x).2]) XB
noncomputable def ar4:pV:=ew3 189 (fun a z h=>.w (gW a z h)) XD
def quS:List (FuncId×Sh):=[(196,.one),(187,.two .one .one),(189,.one)]
theorem agH(a b c d:Wd):FU (dn [] quS []) [auE,ar2,ar4] 200 126 [.agg (bQ 4 0)] [a,b,c,d]=some (mq (Og a b c d),[]):=by kernel_rfl
theorem aj_(a b c d:Wd)(w:World):Calls Tryz.prog 126 #[q4 a b c d] w fun e w'=>e=.returned (mq (Og a b c d)).val/\ah w w' []:=sZ (agH a b c d) XR rfl w
noncomputable def nxT:List pV:=[ew2 114 (fun a b=>.w (nP a b)) agn,ew2 123 (fun a b=>.w (wL a b)) agp,ew2 120 (fun a b=>.w (gV a b)) agq,ew2 125 (fun a b=>.w (rP a b)) agr,
 ew3 124 (fun a b c=>.w (Ec a b c)) ajM,ads 115 (fun a b c d x y z=>mq (xu a b c d x y z)) aaK,axo 117 (fun a b c=>mt3 (mG a b c)) ajT,
 ads 116 (fun a b c d x y z=>mq (Oc a b c d x y z)) arS,ads 119 (fun a b c d x y z=>mq (Ie a b c d x y z)) an0,aj9 121 (fun a b c d=>mq (TQ a b c d)) aj2,aj9 126 (fun a b c d=>mq (Og a b c d)) aj_]
def nxS:List (FuncId×Sh):=[(114,.one),(123,.one),(120,.one),(125,.one),(124,.one),(115,.agg 4),(117,.agg 3),(116,.agg 4),(119,.agg 4),(121,.agg 4),(126,.agg 4)]
def nxL(m t:Bool):List (FuncId×AV):=[(118,.lit (.bool m)),(122,.lit (.bool t))]
def nxG(m:Bool)(P N:Q4):Q4:=bif m then⟨gV P.a N.a,gV P.b N.b,gV P.c N.c,gV P.d N.d⟩ else P
def nxB (t:Bool) (e:Wd):Wd:=bif t then wL e (kW 8) else kW 0
noncomputable def nxV (t:Bool) (q r e:Wd):Wd:=gV q (Ec (rP r (nxB t e)) (kW (-134217728)) (kW 134217728))
def nxR (q0 q1 q2 q3 u0 u1 u2:Wd):Q4:=xu q0 q1 q2 q3 (nP u0 (kW 12)) (nP u1 (kW 12)) (nP u2 (kW 12))
def nxE (G:Q4):Q4:=TQ G.a G.b G.c G.d
noncomputable def nxU (t:Bool) (q0 q1 q2 q3:Wd) (R E:Q4):Q4:=Og (nxV t q0 R.a E.a) (nxV t q1 R.b E.b) (nxV t q2 R.c E.c) (nxV t q3 R.d E.d)
noncomputable def nxW (m t:Bool) (q0 q1 q2 q3 u0 u1 u2 a0 a1 a2 v0 v1 v2:Wd):Q4:=nxU t q0 q1 q2 q3 (nxR q0 q1 q2 q3 u0 u1 u2) (nxE (nxG m (Z9 q0 q1 q2 q3 a0 a1 a2) (Z_ q0 q1 q2 q3 v0 v1 v2)))
def nxF(m t:Bool):Int:=(bif m then 0 else 4)+(bif t then 0 else 2)
def nxO (m t:Bool) (a0 a1 a2 v0 v1 v2:Wd):List OW:=[.call 122 [.a [a0,a1,a2]] (.bool t),.call 118 [.a [v0,v1,v2]] (.bool m)]
def nxA:List AV:=[.agg (bQ 4 0),.agg (bQ 9 4)]
theorem adt(q0 q1 q2 q3 u0 u1 u2 a0 a1 a2 v0 v1 v2:Wd):FU (dn (nxL true true) nxS []) nxT 300 64 nxA [q0,q1,q2,q3,u0,u1,u2,a0,a1,a2,v0,v1,v2]=some (.t [mq (nxW true true q0 q1 q2 q3 u0 u1 u2 a0 a1 a2 v0 v1 v2),.v (.int .i64 0)],nxO true true a0 a1 a2 v0 v1 v2):=by kernel_rfl
theorem adu(q0 q1 q2 q3 u0 u1 u2 a0 a1 a2 v0 v1 v2:Wd):FU (dn (nxL true false) nxS []) nxT 300 64 nxA [q0,q1,q2,q3,u0,u1,u2,a0,a1,a2,v0,v1,v2]=some (.t [mq (nxW true false q0 q1 q2 q3 u0 u1 u2 a0 a1 a2 v0 v1 v2),.v (.int .i64 2)],nxO true false a0 a1 a2 v0 v1 v2):=by kernel_rfl
theorem adv(q0 q1 q2 q3 u0 u1 u2 a0 a1 a2 v0 v1 v2:Wd):FU (dn (nxL false true) nxS []) nxT 300 64 nxA [q0,q1,q2,q3,u0,u1,u2,a0,a1,a2,v0,v1,v2]=some (.t [mq (nxW false true q0 q1 q2 q3 u0 u1 u2 a0 a1 a2 v0 v1 v2),.v (.int .i64 4)],nxO false true a0 a1 a2 v0 v1 v2):=by kernel_rfl
theorem adw(q0 q1 q2 q3 u0 u1 u2 a0 a1 a2 v0 v1 v2:Wd):FU (dn (nxL false false) nxS []) nxT 300 64 nxA [q0,q1,q2,q3,u0,u1,u2,a0,a1,a2,v0,v1,v2]=some (.t [mq (nxW false false q0 q1 q2 q3 u0 u1 u2 a0 a1 a2 v0 v1 v2),.v (.int .i64 6)],nxO false false a0 a1 a2 v0 v1 v2):=by kernel_rfl
theorem Bj(x m:Wd)(h:m.v=-1):iH x m=x:=Wd.dw (by show uh x.v m.v=x.v; rw [h]; exact aaA x.ok)
theorem yg(x m:Wd)(h:m.v=0):iH x m=kW 0:=Wd.dw (by show uh x.v m.v=(kW 0).v; rw [h,Xj]; decide +kernel)
theorem zF(x:Wd):gV x (kW 0)=x:=by
 apply Wd.dw;have:=x.ok;unfold aB at this;show jZ (x.v+(kW 0).v)=x.v;rw [jl (by decide)];unfold jZ;omega
theorem adx(x:Wd):Ec x (kW (-134217728)) (kW 134217728)=alf x:=by
 apply Wd.dw;have e1:(kW (-134217728)).v=-134217728:=jl (by decide);have e2:(kW 134217728).v=134217728:=jl (by decide);show _=min (max x.v (kW (-134217728)).v) (kW 134217728).v;unfold Ec;rw [e1,e2];split<;>(try split)<;>(try split)<;>simp_all<;>omega
theorem an2(P N:Q4)(g:Wd)(m:Bool)(h:g.v=bif m then -1 else 0):WE P N g=nxG m P N:=by
 unfold WE nxG
 cases m with
 | true=>simp only [cond_true] at h ⊢; rw [Bj _ _ h,Bj _ _ h,Bj _ _ h,Bj _ _ h]
 | false=>simp only [cond_false] at h ⊢; rw [yg _ _ h,yg _ _ h,yg _ _ h,yg _ _ h,zF,zF,zF,zF]
theorem an3(q r e g:Wd)(t:Bool)(h:g.v=bif t then -1 else 0):Jv q r e g=nxV t q r e:=by
 unfold Jv nxV nxB;rw [adx]
 cases t with
 | true=>simp only [cond_true] at h ⊢; rw [Bj _ _ h,jE _ (by decide:aB 8)]
 | false=>simp only [cond_false] at h ⊢; rw [yg _ _ h]
theorem agI(q0 q1 q2 q3 u0 u1 u2 a0 a1 a2 v0 v1 v2:Wd)(m t:Bool)(hm:(nU v0 v1 v2).v=bif m then -1 else 0)(ht:(nT a0 a1 a2).v=bif t then -1 else 0) :
 zM q0 q1 q2 q3 u0 u1 u2 a0 a1 a2 v0 v1 v2=nxW m t q0 q1 q2 q3 u0 u1 u2 a0 a1 a2 v0 v1 v2:=by
 unfold zM stepOf nxW nxU aac afL nxE afM nxR;rw [an2 _ _ _ m hm];simp only [an3 _ _ _ _ t ht,OM _ (by decide:aB 12)]
theorem akb(a0 a1 a2 v0 v1 v2:Wd)(m t:Bool)(hm:(nU v0 v1 v2).v=bif m then -1 else 0)(ht:(nT a0 a1 a2).v=bif t then -1 else 0):vG (nT a0 a1 a2) (nU v0 v1 v2)=nxF m t:=by
 unfold vG OY nxF;rw [hm,ht]
 cases m<;>cases t<;>rfl
theorem aaN(n:Wd)(lo hi:Int):(rQ n (kW lo) (kW hi)).v=bif CJ n lo hi then -1 else 0:=by
 unfold CJ;rcases agG n (kW lo) (kW hi) with h | h<;>rw [h]<;>rfl
theorem an4 (q0 q1 q2 q3 u0 u1 u2 a0 a1 a2 v0 v1 v2:Wd) (w:World):Calls Tryz.prog 64 #[q4 q0 q1 q2 q3,.agg #[.int .i32 u0.v,.int .i32 u1.v,.int .i32 u2.v,.int .i32 a0.v,.int .i32 a1.v,.int .i32 a2.v,.int .i32 v0.v,.int .i32 v1.v,.int .i32 v2.v]] w fun e w' =>
 e=.returned (.tuple #[qv (zM q0 q1 q2 q3 u0 u1 u2 a0 a1 a2 v0 v1 v2),.int .i64 (vG (nT a0 a1 a2) (nU v0 v1 v2))])/\ah w w' []:=by
 have hm:=aaN (dK v0 v1 v2) 1000000 400000000;have ht:=aaN (dK a0 a1 a2) 16777216 150994944
 have om:Bh (.call 118 [.a [v0,v1,v2]] (.bool (CJ (dK v0 v1 v2) 1000000 400000000))):=fun w=>by
  rw [<- OQ v0 v1 v2 _ _ (by omega) (by omega)];exact XF v0.v v1.v v2.v w v0.ok v1.ok v2.ok
 have ot:Bh (.call 122 [.a [a0,a1,a2]] (.bool (CJ (dK a0 a1 a2) 16777216 150994944))):=fun w=>by
  rw [<- OQ a0 a1 a2 _ _ (by omega) (by omega)];exact Qw a0.v a1.v a2.v w a0.ok a1.ok a2.ok
 rw [agI _ _ _ _ _ _ _ _ _ _ _ _ _ _ _ hm ht,akb _ _ _ _ _ _ _ _ hm ht];clear hm ht;generalize CJ (dK v0 v1 v2) 1000000 400000000=m at *;generalize CJ (dK a0 a1 a2) 16777216 150994944=t at *
 cases m<;>cases t
 . exact sZ (adw q0 q1 q2 q3 u0 u1 u2 a0 a1 a2 v0 v1 v2) (Iw ot (Iw om XR)) rfl w
 . exact sZ (adv q0 q1 q2 q3 u0 u1 u2 a0 a1 a2 v0 v1 v2) (Iw ot (Iw om XR)) rfl w
 . exact sZ (adu q0 q1 q2 q3 u0 u1 u2 a0 a1 a2 v0 v1 v2) (Iw ot (Iw om XR)) rfl w
 . exact sZ (adt q0 q1 q2 q3 u0 u1 u2 a0 a1 a2 v0 v1 v2) (Iw ot (Iw om XR)) rfl w
noncomputable def ady (q0 q1 q2 q3 u0 u1 u2 a0 a1 a2 v0 v1 v2:Wd):Value:=.tuple #[qv (zM q0 q1 q2 q3 u0 u1 u2 a0 a1 a2 v0 v1 v2),.int .i64 (vG (nT a0 a1 a2) (nU v0 v1 v2))]
theorem akc (g m:Wd):-9223372036854775808<=vG g m/\vG g m<=9223372036854775807:=by
 unfold vG OY;split<;>split<;>omega
theorem akd(x:Q4):good1 (qv x):=.inr ⟨_,rfl,fun u hu=>by
 simp at hu
 rcases hu with rfl | rfl | rfl | rfl<;>exact g_ _⟩
theorem adz(q0 q1 q2 q3 u0 u1 u2 a0 a1 a2 v0 v1 v2:Wd):iy (ady q0 q1 q2 q3 u0 u1 u2 a0 a1 a2 v0 v1 v2):=.inr ⟨_,rfl,fun u hu=>by
 simp at hu;rcases hu with rfl | rfl
 . exact akd _
 . exact .inl (DW (akc _ _))⟩
noncomputable def RNx:List PA->Option Value
 | [.a [q0,q1,q2,q3],.a [u0,u1,u2,a0,a1,a2,v0,v1,v2]]=>some (ady q0 q1 q2 q3 u0 u1 u2 a0 a1 a2 v0 v1 v2)
 | _=>none
noncomputable def auF (f:FuncId) (h:∀(q0 q1 q2 q3 u0 u1 u2 a0 a1 a2 v0 v1 v2:Wd) (w:World),Calls Tryz.prog f #[q4 q0 q1 q2 q3,.agg #[.int .i32 u0.v,.int .i32 u1.v,.int .i32 u2.v,.int .i32 a0.v,.int .i32 a1.v,.int .i32 a2.v,.int .i32 v0.v,.int .i32 v1.v,.int .i32 v2.v]] w fun e w'=>e=.returned (ady q0 q1 q2 q3 u0 u1 u2 a0 a1 a2 v0 v1 v2)/\ah w w' []):eG :=
 Qu f RNx fun ps v hv=>by
  unfold RNx at hv;split at hv
  . injection hv with hv
    subst hv;exact⟨adz _ _ _ _ _ _ _ _ _ _ _ _ _,h _ _ _ _ _ _ _ _ _ _ _ _ _⟩
  . cases hv
noncomputable def ar6:eG:=auF 64 an4
def Ub (a b:Int):Int:=(xk (kW a) (kW b)).v
def Uc (a:Int):Int:=(qh (kW a)).v
def W64 (a:Int):Int:=IntKind.i64.wrap a
structure I3 where
 x:Int
 y:Int
 a:Int
def ake (i:Nat):Int:=([421657428,248918915,131521918,66762579,33510843,16771758,8387925,4194219,2097141,1048575,524288,262144,131072,65536,32768,16384,8192,4096,2048,1024,512,256,128,64,32,16,8,4]:List Int).getD i 0
def ar7(i:Nat)(s:I3):I3:=⟨(kW (W64 (W64 s.x+W64 (Ub (lQ s.y (Int.ofNat i)) (Uc s.y))))).v,(kW (W64 (W64 s.y - W64 (Ub (lQ s.x (Int.ofNat i)) (Uc s.y))))).v,(kW (W64 (W64 s.a+W64 (Ub (ake i) (Uc s.y))))).v⟩
def vec (x y:Int):Nat->I3
 | 0=>⟨x,y,0⟩
 | i+1=>ar7 i (vec x y i)
def vS:List (FuncId×Sh):=[(283,.one),(284,.one),(123,.one),(78,.one)]
noncomputable def vT:List eG:=[aus,aut,ac5,acX]
theorem adA(y x:Wd):bF (dn [] vS []) (aZ vT) 400 249 [.opq 0,.opq 1] [.int .i32 y.v,.int .i32 x.v]=some (.tuple #[.int .i32 (vec x.v y.v 28).x,.int .i32 (vec x.v y.v 28).y,.int .i32 (vec x.v y.v 28).a],[]):=by kernel_rfl
theorem alG(a b:Wd):(kW (W64 (W64 a.v+W64 b.v))).v=(Dh a b).v:=by
 have ha:=a.ok;have hb:=b.ok;unfold aB at ha hb;unfold W64;rw [w64,w64];show wrap32 (IntKind.i64.wrap (a.v+b.v))=wrap32 (a.v+b.v);rw [show IntKind.i64.wrap (a.v+b.v)=a.v+b.v by rw [IntKind.wrap_i64]; omega]
theorem alI(a b:Wd):(kW (W64 (W64 a.v - W64 b.v))).v=(uV a b).v:=by
 have ha:=a.ok;have hb:=b.ok;unfold aB at ha hb;unfold W64;rw [w64,w64];show wrap32 (IntKind.i64.wrap (a.v - b.v))=wrap32 (a.v - b.v);rw [show IntKind.i64.wrap (a.v - b.v)=a.v - b.v by rw [IntKind.wrap_i64]; omega]
theorem an5:∀ i:Fin 28,(kW (ake i.val)).v=(Wy.getD i.val (kW 0)).v:=by decide +kernel
theorem agJ(x y:Wd):∀ n,n<=28->vec x.v y.v n=⟨(tN x y n).a.v,(tN x y n).b.v,(tN x y n).c.v⟩
 | 0,_=>by
  show I3.mk x.v y.v 0=⟨x.v,y.v,(kW 0).v⟩;rw [jl (by decide:aB 0)]
 | n+1,h=>by
  have ht:kW (ake n)=Wy.getD n (kW 0):=Wd.dw (an5 ⟨n,by omega⟩);rw [vec,agJ x y n (by omega),tN];generalize tN x y n=s;unfold ar7 WA Ub lQ Uc;simp only [aQ,ht,Int.ofNat_eq_natCast];rw [alG,alI,alG]
theorem an6(a b c:Wd):iy (.tuple #[.int .i32 a.v,.int .i32 b.v,.int .i32 c.v]):=.inr ⟨_,rfl,fun u hu=>by
 simp at hu;rcases hu with rfl | rfl | rfl
 . exact .inl (g_ _)
 . exact .inl (g_ _)
 . exact .inl (g_ _)⟩
def t3v (t:T3):Value:=.tuple #[.int .i32 t.a.v,.int .i32 t.b.v,.int .i32 t.c.v]
theorem agK(y x:Wd)(w:World):Calls Tryz.prog 249 #[.int .i32 y.v,.int .i32 x.v] w fun e w'=>e=.returned (t3v (tN x y 28))/\ah w w' []:=by
 have h:=aG _ (adA y x) (je y x) pU w;rw [agJ x y 28 (by omega)] at h;exact h
noncomputable def an7:eG:=AX 249 (fun y x=>t3v (tN x y 28)) (fun _ _=>an6 _ _ _) agK
def iU (a:Int):Int:=(iT (kW a)).v
def adB (a b:Int):Int:=(AQ (kW a) (kW b)).v
def ar8 (a b:Int):Int:=(Di (kW a) (kW b)).v
def agS (y x:Int):Int:=IntKind.i32.wrap ((jI (kW (adB (iU x) (iU y)))).v - 1)
def agL (v s:Int):Int:=Qv (yJ v s) 2
def Kz (y x:Int):Int:=(tN (kW (agL (adB (iU x) (iU y)) (agS y x))) (kW (agL (ar8 (iU x) (iU y)) (agS y x))) 28).c.v
def wU (k a:Int):Int:=(kW (W64 (k - W64 a))).v
def aS:List (FuncId×Sh):=[(199,.one),(246,.one),(247,.one),(248,.one),(114,.one),(250,.one),(249,.three .one .one .one),(78,.one)]
noncomputable def aT:List eG:=[arD,axi,axh,arI,ac4,arz,an7,acX]
theorem XT(y x:Wd):bF (dn [] aS [(15,true),(19,true),(23,true)]) (aZ aT) 200 198 [.opq 0,.opq 1] [.int .i32 y.v,.int .i32 x.v]=some (.int .i32 (wU 0 (wU 1686629713 (wU 843314857 (Kz y.v x.v)))),[dh 21 .i32 y.v 0 true,dh 21 .i32 x.v 0 true,dh 21 .i32 (iU x.v) (iU y.v) true]):=by kernel_rfl
theorem XU(y x:Wd):bF (dn [] aS [(15,true),(19,true),(23,false)]) (aZ aT) 200 198 [.opq 0,.opq 1] [.int .i32 y.v,.int .i32 x.v]=some (.int .i32 (wU 1686629713 (wU 843314857 (Kz y.v x.v))),[dh 21 .i32 y.v 0 false,dh 21 .i32 x.v 0 true,dh 21 .i32 (iU x.v) (iU y.v) true]):=by kernel_rfl
theorem XV(y x:Wd):bF (dn [] aS [(15,true),(19,false),(20,true)]) (aZ aT) 200 198 [.opq 0,.opq 1] [.int .i32 y.v,.int .i32 x.v]=some (.int .i32 (wU 0 (wU 843314857 (Kz y.v x.v))),[dh 21 .i32 y.v 0 true,dh 21 .i32 x.v 0 false,dh 21 .i32 (iU x.v) (iU y.v) true]):=by kernel_rfl
theorem XW(y x:Wd):bF (dn [] aS [(15,true),(19,false),(20,false)]) (aZ aT) 200 198 [.opq 0,.opq 1] [.int .i32 y.v,.int .i32 x.v]=some (.int .i32 (wU 843314857 (Kz y.v x.v)),[dh 21 .i32 y.v 0 false,dh 21 .i32 x.v 0 false,dh 21 .i32 (iU x.v) (iU y.v) true]):=by kernel_rfl
theorem XY(y x:Wd):bF (dn [] aS [(15,false),(16,true),(20,true)]) (aZ aT) 200 198 [.opq 0,.opq 1] [.int .i32 y.v,.int .i32 x.v]=some (.int .i32 (wU 0 (wU 1686629713 (Kz y.v x.v))),[dh 21 .i32 y.v 0 true,dh 21 .i32 x.v 0 true,dh 21 .i32 (iU x.v) (iU y.v) false]):=by kernel_rfl
theorem XZ(y x:Wd):bF (dn [] aS [(15,false),(16,true),(20,false)]) (aZ aT) 200 198 [.opq 0,.opq 1] [.int .i32 y.v,.int .i32 x.v]=some (.int .i32 (wU 1686629713 (Kz y.v x.v)),[dh 21 .i32 y.v 0 false,dh 21 .i32 x.v 0 true,dh 21 .i32 (iU x.v) (iU y.v) false]):=by kernel_rfl
theorem X3(y x:Wd):bF (dn [] aS [(15,false),(16,false),(17,true)]) (aZ aT) 200 198 [.opq 0,.opq 1] [.int .i32 y.v,.int .i32 x.v]=some (.int .i32 (wU 0 (Kz y.v x.v)),[dh 21 .i32 y.v 0 true,dh 21 .i32 x.v 0 false,dh 21 .i32 (iU x.v) (iU y.v) false]):=by kernel_rfl
theorem X4(y x:Wd):bF (dn [] aS [(15,false),(16,false),(17,false)]) (aZ aT) 200 198 [.opq 0,.opq 1] [.int .i32 y.v,.int .i32 x.v]=some (.int .i32 (Kz y.v x.v),[dh 21 .i32 y.v 0 false,dh 21 .i32 x.v 0 false,dh 21 .i32 (iU x.v) (iU y.v) false]):=by kernel_rfl
theorem yh(y x:Wd):Kz y.v x.v=(afI y x).c.v:=by
 have e:kW (agS y.v x.v)=uV (jI (AQ (iT x) (iT y))) (kW 1):=by
  unfold agS adB iU;simp only [aQ];apply Wd.dw;show wrap32 (IntKind.i32.wrap _)=wrap32 (_ - (kW 1).v);rw [jl (by decide:aB 1),IntKind.wrap_i32];unfold wrap32;omega
 unfold Kz agL Qv yJ;rw [e];unfold adB ar8 iU;simp only [aQ];rfl
theorem lV{k:Int}(hk:aB k)(a:Wd):wU k a.v=(uV (kW k) a).v:=by
 have e:=alI (kW k) a;rw [jl hk] at e;have hw:W64 k=k:=by unfold W64; rw [<- jl hk]; exact w64 _
 rw [hw] at e;exact e
theorem FV(a:Wd):xk a (kW (-1))=uV (kW 0) a:=Wd.dw (by
 have ok:=a.ok;unfold aB at ok;show sF (LC a.v (kW (-1)).v) (kW (-1)).v=sF (kW 0).v a.v;rw [jl (by decide:aB (-1)),jl (by decide:aB 0),anv a.ok];unfold sF;congr 1
 omega)
theorem akf(y x:Wd)(w:World):Calls Tryz.prog 198 #[.int .i32 y.v,.int .i32 x.v] w fun e w'=>e=.returned (.int .i32 (AZ y x).v)/\ah w w' []:=by
 have i1:aB 843314857:=by decide
 have i2:aB 1686629713:=by decide
 have i3:aB 0:=by decide
 have ka:iU x.v=(iT x).v:=by unfold iU; rw [aQ]
 have kb:iU y.v=(iT y).v:=by unfold iU; rw [aQ]
 unfold AZ afK WC afJ WB;by_cases h1:(iT x).v<(iT y).v
 . rw [anx h1,JD]
   by_cases h2:x.v<0
   . rw [sign_neg h2,JD]
     by_cases h3:y.v<0
     . rw [sign_neg h3,FV]
       have h:=aG _ (XT y x) (je y x) (eF (aU (by simpa using h3)) (eF (aU (by simpa using h2)) (gI (aU (by rw [ka,kb]; simpa using h1))))) w;rw [yh,lV i1,lV i2,lV i3] at h;exact h
     . rw [wR (by omega:0<=y.v),Cj]
       have h:=aG _ (XU y x) (je y x) (eF (aU (by simpa using h3)) (eF (aU (by simpa using h2)) (gI (aU (by rw [ka,kb]; simpa using h1))))) w;rw [yh,lV i1,lV i2] at h;exact h
   . rw [wR (by omega:0<=x.v),FP]
     by_cases h3:y.v<0
     . rw [sign_neg h3,FV]
       have h:=aG _ (XV y x) (je y x) (eF (aU (by simpa using h3)) (eF (aU (by simpa using h2)) (gI (aU (by rw [ka,kb]; simpa using h1))))) w;rw [yh,lV i1,lV i3] at h;exact h
     . rw [wR (by omega:0<=y.v),Cj]
       have h:=aG _ (XW y x) (je y x) (eF (aU (by simpa using h3)) (eF (aU (by simpa using h2)) (gI (aU (by rw [ka,kb]; simpa using h1))))) w;rw [yh,lV i1] at h;exact h
 . rw [ard (by omega),FP]
   by_cases h2:x.v<0
   . rw [sign_neg h2,JD]
     by_cases h3:y.v<0
     . rw [sign_neg h3,FV]
       have h:=aG _ (XY y x) (je y x) (eF (aU (by simpa using h3)) (eF (aU (by simpa using h2)) (gI (aU (by rw [ka,kb]; simpa using h1))))) w;rw [yh,lV i2,lV i3] at h;exact h
     . rw [wR (by omega:0<=y.v),Cj]
       have h:=aG _ (XZ y x) (je y x) (eF (aU (by simpa using h3)) (eF (aU (by simpa using h2)) (gI (aU (by rw [ka,kb]; simpa using h1))))) w;rw [yh,lV i2] at h;exact h
   . rw [wR (by omega:0<=x.v),FP]
     by_cases h3:y.v<0
     . rw [sign_neg h3,FV]
       have h:=aG _ (X3 y x) (je y x) (eF (aU (by simpa using h3)) (eF (aU (by simpa using h2)) (gI (aU (by rw [ka,kb]; simpa using h1))))) w;rw [yh,lV i3] at h;exact h
     . rw [wR (by omega:0<=y.v),Cj]
       have h:=aG _ (X4 y x) (je y x) (eF (aU (by simpa using h3)) (eF (aU (by simpa using h2)) (gI (aU (by rw [ka,kb]; simpa using h1))))) w;rw [yh] at h;exact h
noncomputable def ar_:eG:=AX 198 (fun y x=>.int .i32 (AZ y x).v) (fun _ _=>gK _) akf
def RQ' (F:Wd->Wd->Wd->Wd->Value):List PA->Option Value
 | [.a [a,b,c,d]]=>some (F a b c d)
 | _=>none
def auG(f:FuncId)(F:Wd->Wd->Wd->Wd->Value)(hR:∀ a b c d,iy (F a b c d))(h:∀(a b c d:Wd) (w:World),Calls Tryz.prog f #[q4 a b c d] w fun e w'=>e=.returned (F a b c d)/\ah w w' []):eG :=
 Qu f (RQ' F) fun ps v hv=>by
  unfold RQ' at hv;split at hv
  . injection hv with hv
    subst hv;exact⟨hR _ _ _ _,h _ _ _ _⟩
  . cases hv
def eul (x:T3) (l:Bool):Value:=.agg #[.int .i32 x.a.v,.int .i32 x.b.v,.int .i32 x.c.v,.bool l]
def axp (a b c:Int) (l:Bool):Value:=.agg #[.int .i32 a,.int .i32 b,.int .i32 c,.bool l]
theorem agM(x:T3)(l:Bool):iy (eul x l):=.inl (.inr ⟨_,rfl,fun u hu=>by
 simp at hu;rcases hu with rfl | rfl | rfl | rfl
 . exact g_ _
 . exact g_ _
 . exact g_ _
 . trivial⟩)
def eY (q0 q1 q2 q3:Int):Int:=fE (aO q0 q1) (aO q2 q3)
def eX (q1 q2:Int):Int:=bW (bW 536870912 (aO q1 q1)) (aO q2 q2)
def eS (q0 q1 q2 q3:Int):Int:=bW (aO q0 q2) (aO q3 q1)
def eA (y x:Int):Int:=(AZ (kW y) (kW x)).v
def eR (x y:Int):Int:=(B_ (kW (fE (aO x x) (aO y y)))).v
def eS':List (FuncId×Sh):=[(243,.one),(120,.one),(125,.one),(199,.one),(193,.one),(198,.one)]
noncomputable def eT:List eG:=[ac_,ac7,ajC,arD,alp,ar_]
def adC (a b c d:Int) (l:Bool):Value:=axp (eA (eY a b c d) (eX b c)) (eA (eS a b c d) (eR (eX b c) (eY a b c d))) (eA (eY a d b c) (eX c d)) l
def inq (a b c d:Wd):List Value:=[.int .i32 a.v,.int .i32 b.v,.int .i32 c.v,.int .i32 d.v]
theorem an8(a b c d:Wd):bF (dn [] eS' [(29,true)]) (aZ eT) 300 127 [.agg (bQ 4 0)] (inq a b c d)=some (adC a.v b.v c.v d.v true,[Dq 21 .i32 (iU (eS a.v b.v c.v d.v)) 536000000 true]):=by kernel_rfl
theorem an9(a b c d:Wd):bF (dn [] eS' [(29,false)]) (aZ eT) 300 127 [.agg (bQ 4 0)] (inq a b c d)=some (adC a.v b.v c.v d.v false,[Dq 21 .i32 (iU (eS a.v b.v c.v d.v)) 536000000 false]):=by kernel_rfl
theorem aaO(a b c d:Wd)(l:Bool):adC a.v b.v c.v d.v l=eul (gQ a b c d) l:=by
 have y:eY a.v b.v c.v d.v=(Jt a b c d).v:=by unfold eY fE aO; simp only [aQ]; rfl
 have x:eX b.v c.v=(Ju a b c d).v:=by unfold eX bW aO; simp only [aQ]; rfl
 have s:eS a.v b.v c.v d.v=(rU a b c d).v:=by unfold eS bW aO; simp only [aQ]; rfl
 have u:eY a.v d.v b.v c.v=(Z5 a b c d).v:=by unfold eY fE aO; simp only [aQ]; rfl
 have v:eX c.v d.v=(Z7 a b c d).v:=by unfold eX bW aO; simp only [aQ]; rfl
 have r:eR (Ju a b c d).v (Jt a b c d).v=(Z8 a b c d).v:=by unfold eR fE aO; simp only [aQ]; rfl
 unfold adC;rw [y,x,s,u,v,r];unfold eA;simp only [aQ];rfl
theorem an_(a b c d:Wd):iR a b c d=decide (536000000<=(iT (rU a b c d)).v):=by
 unfold iR;show(sF (Ar (iT (rU a b c d)).v (kW 536000000).v) (kW 1).v != 0)=_;rw [jl (by decide:aB 536000000),jl (by decide:aB 1)];unfold Ar;by_cases h:(iT (rU a b c d)).v<536000000
 . rw [if_pos h,show sF 1 1=0 by decide +kernel]
   simp;omega
 . rw [if_neg h,show sF 0 1=-1 by decide +kernel]
   simp;omega
theorem auH(a b c d:Wd)(w:World):Calls Tryz.prog 127 #[q4 a b c d] w fun e w'=>e=.returned (eul (gQ a b c d) (iR a b c d))/\ah w w' []:=by
 have s:iU (eS a.v b.v c.v d.v)=(iT (rU a b c d)).v:=by unfold iU eS bW aO; simp only [aQ]; rfl
 rw [an_];by_cases h:536000000<=(iT (rU a b c d)).v
 . rw [decide_eq_true h]
   have:=aG _ (an8 a b c d) (Ed [a,b,c,d]) (gI (rW (by rw [s]; simpa using h))) w;rw [aaO] at this;exact this
 . rw [decide_eq_false h]
   have:=aG _ (an9 a b c d) (Ed [a,b,c,d]) (gI (rW (by rw [s]; simpa using h))) w;rw [aaO] at this;exact this
noncomputable def axq:eG:=auG 127 (fun a b c d=>eul (gQ a b c d) (iR a b c d)) (fun _ _ _ _=>agM _ _) auH
