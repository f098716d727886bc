/- Texts of this claim, side by side: CoreN, CoreO, CoreP, CoreQ, CoreR, FirmP. -/
import Derived.Test.YtnkmmaijigihpaaGreatDoorTT15
import Derived.Test.YtnkmmaijigihpaaGreatDoorTT13
set_option linter.unusedVariables false
set_option maxRecDepth 100000
set_option maxHeartbeats 8000000
namespace Go.Proofs.YtnkmmaijigihpaaGreatDoor
section
open Go.RowKit Go.Deep Go.Maps Ab
attribute [local go_sem] Oper.semAt_some
theorem TG {w:World} {c b r:Nat} {cv mv:Value} {code:List (aO × Bool)} {s s':CS} {ws ws':List Int} (h:CM w c b r cv mv code s ws) (op d a n:Nat) (hop:op = 34\/op = 35) (ha:a < 32)
 (hdo:∀ W,ah w W []->Calls Tryz.prog 189 #[.pointer (some ⟨c,0,none⟩),aZ ⟨op,d,a,0,n⟩] W fun e w' => (∃ v,e = .returned v)/\lI s' ws' c b r cv mv code W w') :
 Calls Tryz.prog 145 #[.pointer (some ⟨c,0,none⟩),aZ ⟨op,d,a,0,n⟩] w fun e w' => (∃ v,e = .returned v)/\lI s' ws' c b r cv mv code w w':=by
 have H:=hide h;have nU:=hide hdo;have hca:=h.core.blk.cell' (lW h.core.reg a ha);have hlt:=h.core.blk.lt;have ha2:(a:Int) < 32:=by omega
 generalize s.regs.getD a 0 = ra at *;clear h hdo;unfold aZ at nU ⊢;rcases hop with rfl | rfl
 . go_enter Tryz.func145,Tryz.ntmps145
   go_wp2;go_quiet (fail)
   have hc0:ah w ((w.alloc (.cells #[.int .i64 34,.int .i64 d,.int .i64 a,.int .i64 0,.int .i64 n] 152)).drewN nq) []:=((ah.refl w []).alloc _).drewN nq;have HB:=hide (nU.out _ hc0);have kX:=hide hc0;clear hc0;go_wp2_with fail
   go_at_call 189;refine HB.out.mono ?_;rintro e w1 ⟨⟨v,rfl⟩,hp⟩;have HP:=hide hp;clear hp HB;go_wp2;refine bodyPost_end (results_none rfl _ _ _) rfl ?_;exact ⟨⟨_,rfl⟩,lI.alloc kX.out HP.out⟩
 . go_enter Tryz.func145,Tryz.ntmps145
   go_wp2;go_quiet (fail)
   have hc0:ah w ((w.alloc (.cells #[.int .i64 35,.int .i64 d,.int .i64 a,.int .i64 0,.int .i64 n] 152)).drewN nq) []:=((ah.refl w []).alloc _).drewN nq;have HB:=hide (nU.out _ hc0);have kX:=hide hc0;clear hc0;go_wp2_with fail
   go_at_call 189;refine HB.out.mono ?_;rintro e w1 ⟨⟨v,rfl⟩,hp⟩;have HP:=hide hp;clear hp HB;go_wp2;refine bodyPost_end (results_none rfl _ _ _) rfl ?_;exact ⟨⟨_,rfl⟩,lI.alloc kX.out HP.out⟩
def jr:List Mk->Int
 | [] => 0
 | k :: l => (k.co:Int) + jr l
def sQ (k:Mk):Int × Int × Int:=((k.pc:Int),(k.ad:Int) - 1,(k.co:Int))
def iE (m:Ma):CS:=⟨m.rg.map (·.v),(m.pc:Int),(m.st:Int),jr m.ks,m.ks.map sQ⟩
def mg (m:Ma):List Int:=m.mm.map (·.v)
theorem Om (k:Mk):∀ l:List Mk,jr (l ++ [k]) = jr l + (k.co:Int)
 | [] => by simp [jr]
 | x :: l => by simp only [List.cons_append,jr,Om k l]; omega
structure Hf (m:Ma):Prop where
 rg:m.rg.length = 32
 pc:m.pc<=65536
 ks:m.ks.length<=1048576
 co:∀ k∈m.ks,k.co<=3
theorem C_:∀ (l:List Mk),(∀ k∈l,k.co<=3)->0<=jr l/\jr l<=3 * (l.length:Int)
 | [],_ => by simp [jr]
 | k :: l,h => by
  have h1:=C_ l (fun x hx => h x (by simp [hx]));have h2:=h k (by simp);simp only [jr,List.length_cons];omega
def gI (w:Nat):aO :=
 if fZ w<=23 then ⟨fZ w,dN w,aN w,bN w,0⟩ else if fZ w<=30 then ⟨fZ w,dN w,aN w,0,0⟩ else if fZ w = 43 then ⟨43,0,0,0,0⟩ else ⟨fZ w,dN w,aN w,0,nN w⟩
end

section
open Go.RowKit Go.Deep Go.Maps Ab
theorem al8 {x:Int} (h1:-9223372036854775808<=x) (h2:x<=9223372036854775807):wrap64 x = x:=by unfold wrap64; omega
theorem qG {m:Ma} (hok:Hf m) (nx:Nat) (k:Mk) (hk:k.pc = m.pc) (hc:k.co<=3) (rg:List Wd) (mm:List Wd) (hst:m.st = 0) :
 rU { iE m with regs:=rg.map (·.v) } (nx:Int) ((k.ad:Int) - 1) (k.co:Int) = iE ⟨rg,mm,nx,0,m.ks ++ [k]⟩:=by
 obtain ⟨b1,b2⟩:=C_ m.ks hok.co;have hl:=hok.ks;unfold rU iE;simp only [Om,List.map_append,List.map_cons,List.map_nil,hst,sQ,hk];rw [al8 (by omega) (by omega)]
theorem afj (m:Ma):iE m = { iE m with regs:=m.rg.map (·.v) }:=rfl
theorem I7 (m:Ma) (d:Nat) (x:Wd) (hd:d≠0):uj (iE m) d x.v = { iE m with regs:=(m.rg.set d x).map (·.v) }:=by
 unfold uj;rw [if_neg hd];simp [iE,List.map_set]
theorem oP {m:Ma} (hok:Hf m) {i:Nat} (hi:i < 32):kJ (iE m) i = (m.r i).v:=by
 have hl:=hok.rg;unfold kJ iE Ma.r;simp only [List.getD_eq_getElem?_getD,List.getElem?_map];rw [List.getElem?_eq_getElem (by omega)];rfl
theorem Bh {m:Ma} (hok:Hf m):wrap64 ((iE m).pc + 1) = ((m.pc + 1:Nat):Int):=by
 have:=hok.pc;show wrap64 ((m.pc:Int) + 1) = _;rw [al8 (by omega) (by omega)];omega
theorem Di (ad:Nat):pz ad<=3:=by unfold pz; cases Nat.blt ad 1024 <;> decide
theorem Kt (op:Nat):nG op<=3:=by unfold nG; cases (Nat.blt 17 op && Nat.blt op 22) <;> decide
theorem Xf (ad:Nat):Gl ad = ((pz ad:Nat):Int):=by
 unfold Gl pz;by_cases h:ad < 1024
 . rw [if_pos h,Xi.aJ.2 h]; rfl
 . have : Nat.blt ad 1024 = false := by
    cases e:Nat.blt ad 1024 with
    | false => rfl
    | true => exact absurd (Xi.aJ.1 e) h
   rw [if_neg h,this]; rfl
theorem VE:((List.range 31).all fun k => !zY k || decide (pW (k:Int) = ((nG k:Nat):Int))) = true:=by kernel_rfl
theorem ZF {op:Nat} (h:zY op = true):pW (op:Int) = ((nG op:Nat):Int):=by
 have h3:=xq h;have h1:=List.all_eq_true.1 VE op (List.mem_range.2 (by omega));rw [h] at h1;exact of_decide_eq_true (by simpa using h1)
theorem Xg (x y:Wd):iV 24 x y = MB x:=by unfold iV; rfl
theorem Xh (x y:Wd):iV 25 x y = uh x:=by unfold iV; rfl
theorem Xj (x y:Wd):iV 26 x y = qE x:=by unfold iV; rfl
theorem Xk (x y:Wd):iV 27 x y = kW 0:=by unfold iV; rfl
theorem Xl (x y:Wd):iV 28 x y = zy x:=by unfold iV; rfl
theorem Xm (x y:Wd):iV 29 x y = P6 x:=by unfold iV; rfl
theorem Xn (x y:Wd):iV 30 x y = wZ x:=by unfold iV; rfl
theorem afk {op:Nat} (h:zY op = true) (h2:¬ op<=23) (x y z:Wd):iV op x y = iV op x z:=by
 have h3:op<=30:=by
  rcases xq h with rfl | rfl | rfl | rfl | rfl | rfl | rfl | rfl | rfl | rfl | rfl | rfl | rfl | rfl | rfl | rfl | rfl | rfl | rfl | rfl | rfl | rfl | rfl | rfl <;> decide
 match op,h2,h3 with
 | 0,h,_ => exact absurd (by decide) h
 | 1,h,_ => exact absurd (by decide) h
 | 2,h,_ => exact absurd (by decide) h
 | 3,h,_ => exact absurd (by decide) h
 | 4,h,_ => exact absurd (by decide) h
 | 5,h,_ => exact absurd (by decide) h
 | 6,h,_ => exact absurd (by decide) h
 | 7,h,_ => exact absurd (by decide) h
 | 8,h,_ => exact absurd (by decide) h
 | 9,h,_ => exact absurd (by decide) h
 | 10,h,_ => exact absurd (by decide) h
 | 11,h,_ => exact absurd (by decide) h
 | 12,h,_ => exact absurd (by decide) h
 | 13,h,_ => exact absurd (by decide) h
 | 14,h,_ => exact absurd (by decide) h
 | 15,h,_ => exact absurd (by decide) h
 | 16,h,_ => exact absurd (by decide) h
 | 17,h,_ => exact absurd (by decide) h
 | 18,h,_ => exact absurd (by decide) h
 | 19,h,_ => exact absurd (by decide) h
 | 20,h,_ => exact absurd (by decide) h
 | 21,h,_ => exact absurd (by decide) h
 | 22,h,_ => exact absurd (by decide) h
 | 23,h,_ => exact absurd (by decide) h
 | 24,_,_ => exact (Xg x y).trans (Xg x z).symm
 | 25,_,_ => exact (Xh x y).trans (Xh x z).symm
 | 26,_,_ => exact (Xj x y).trans (Xj x z).symm
 | 27,_,_ => exact (Xk x y).trans (Xk x z).symm
 | 28,_,_ => exact (Xl x y).trans (Xl x z).symm
 | 29,_,_ => exact (Xm x y).trans (Xm x z).symm
 | 30,_,_ => exact (Xn x y).trans (Xn x z).symm
 | _ + 31,_,h => exact absurd h (by omega)
theorem aiN {op:Nat} (h:zY op = true):op<=30/\1<=op/\op≠22/\op≠23:=by
 have:=xq h;omega
theorem acu {w:World} {c b r:Nat} {cv mv:Value} {code:List (aO × Bool)} {m m':Ma} (h:CM w c b r cv mv code (iE m) (mg m)) (hok:Hf m) (hst:m.st = 0) (x:Nat) (hn:kY x m = some m') :
 Calls Tryz.prog 145 #[.pointer (some ⟨c,0,none⟩),aZ (gI x)] w fun e w' => (∃ v,e = .returned v)/\lI (iE m') (mg m') c b r cv mv code w w':=by
 have hml:(iE m).marks.length<=2000000:=by
  have:=hok.ks;show (m.ks.map sQ).length<=_;rw [List.length_map]; omega
 unfold kY at hn;split at hn
 . -- lw
   rename_i ho;split at hn
   . rename_i hcnd
     obtain ⟨q1,q2,q3⟩:=hcnd;injection hn with hn;subst hn;have hd:gI x = ⟨((34:Nat):Int),dN x,aN x,0,nN x⟩:=by unfold gI; rw [ho]; rfl
     rw [hd];have hv:kJ (iE m) (aN x) = (((m.r (aN x)).v.toNat:Nat):Int):=by rw [oP hok (lK x)]; omega
     have hin:(m.r (aN x)).v.toNat + nN x < (mg m).length:=by simp only [mg,List.length_map]; omega
     refine TG h 34 (dN x) (aN x) (nN x) (.inl rfl) (lK x) (fun W hc => ?_);refine (ab_ (h.aj hc (fun k _ => by simp) (by simp)) (dN x) (aN x) (nN x) _ (qw x) (lK x) hv hin hml).mono ?_;rintro e w' ⟨he,hp⟩;refine ⟨he,?_⟩
     have e1:(mg m).getD ((m.r (aN x)).v.toNat + nN x) 0 = (m.mm.getD ((m.r (aN x)).v.toNat + nN x) (kW 0)).v:=by
      simp only [mg,List.getD_eq_getElem?_getD,List.getElem?_map];rw [List.getElem?_eq_getElem (by simpa [mg] using hin)];rfl
     have e2:=qG hok (m.pc + 1) ⟨m.pc,(m.r (aN x)).v.toNat + nN x + 1,pz ((m.r (aN x)).v.toNat + nN x)⟩ rfl (Di _) (m.rg.set (dN x) (m.mm.getD ((m.r (aN x)).v.toNat + nN x) (kW 0))) m.mm hst;rw [e1,I7 m _ _ q3,Bh hok,Xf] at hp;rw [show (((m.r (aN x)).v.toNat:Nat):Int) + ((nN x:Nat):Int) = (((m.r (aN x)).v.toNat + nN x + 1:Nat):Int) - 1 by omega] at hp;rw [e2] at hp;exact hp
   . cases hn
 split at hn
 . -- sw
   rename_i ho;split at hn
   . rename_i hcnd
     obtain ⟨q1,q2⟩:=hcnd;injection hn with hn;subst hn;have hd:gI x = ⟨((35:Nat):Int),dN x,aN x,0,nN x⟩:=by unfold gI; rw [ho]; rfl
     rw [hd];have hv:kJ (iE m) (aN x) = (((m.r (aN x)).v.toNat:Nat):Int):=by rw [oP hok (lK x)]; omega
     have hin:(m.r (aN x)).v.toNat + nN x < (mg m).length:=by simp only [mg,List.length_map]; omega
     refine TG h 35 (dN x) (aN x) (nN x) (.inr rfl) (lK x) (fun W hc => ?_);refine (ace (h.aj hc (fun k _ => by simp) (by simp)) (dN x) (aN x) (nN x) _ (qw x) (lK x) hv hin hml).mono ?_;rintro e w' ⟨he,hp⟩;refine ⟨he,?_⟩
     have e1:(mg m).set ((m.r (aN x)).v.toNat + nN x) (kJ (iE m) (dN x)) = mg ⟨m.rg,m.mm.set ((m.r (aN x)).v.toNat + nN x) (m.r (dN x)),m.pc + 1,0,m.ks ++ [⟨m.pc,(m.r (aN x)).v.toNat + nN x + 1,pz ((m.r (aN x)).v.toNat + nN x)⟩]⟩:=by
      rw [oP hok (qw x)];simp [mg,List.map_set]
     have e2:=qG hok (m.pc + 1) ⟨m.pc,(m.r (aN x)).v.toNat + nN x + 1,pz ((m.r (aN x)).v.toNat + nN x)⟩ rfl (Di _) m.rg (m.mm.set ((m.r (aN x)).v.toNat + nN x) (m.r (dN x))) hst;rw [e1,Bh hok,Xf,show (((m.r (aN x)).v.toNat:Nat):Int) + ((nN x:Nat):Int) = (((m.r (aN x)).v.toNat + nN x + 1:Nat):Int) - 1 by omega,afj m,e2] at hp;exact hp
   . cases hn
 split at hn
 . -- addi
   rename_i ho;split at hn
   . rename_i hcnd
     obtain ⟨q1,q2,q3⟩:=hcnd;injection hn with hn;subst hn;have hd:gI x = ⟨31,dN x,aN x,0,nN x⟩:=by unfold gI; rw [ho]; rfl
     rw [hd];refine (ab5 h.core (dN x) (aN x) (nN x) (qw x) (lK x) (by omega) (by omega) hml).mono ?_;rintro e w' ⟨he,hp⟩;refine ⟨he,?_⟩;have hp:=h.um hp;have e2:=qG hok (m.pc + 1) ⟨m.pc,0,1⟩ rfl (show 1<=3 by decide) (m.rg.set (dN x) (kW ((m.r (aN x)).v + nN x))) m.mm hst;rw [oP hok (lK x),show wrap32 ((m.r (aN x)).v + ((nN x:Nat):Int)) = (kW ((m.r (aN x)).v + nN x)).v from rfl,I7 m _ _ q3] at hp;unfold TA at hp;rw [show wrap64 (({ iE m with regs:=(m.rg.set (dN x) (kW ((m.r (aN x)).v + nN x))).map (·.v) }:CS).pc + 1) = ((m.pc + 1:Nat):Int) from Bh hok] at hp
     exact e2 ▸ hp
   . cases hn
 split at hn
 . -- blt
   rename_i ho;have hd:gI x = ⟨38,dN x,aN x,0,nN x⟩:=by unfold gI; rw [ho]; rfl
   rw [hd];refine (ae4 h.core (dN x) (aN x) (nN x) (qw x) (lK x) hml).mono ?_;rintro e w' ⟨he,hp⟩;refine ⟨he,?_⟩;have hp:=h.um hp;rw [oP hok (lK x),oP hok (qw x)] at hp;split at hn
   . rename_i hlt
     injection hn with hn;subst hn;have e2:=qG hok (nN x) ⟨m.pc,0,3⟩ rfl (show 3<=3 by decide) m.rg m.mm hst;unfold Bc at hp;rw [decide_eq_true hlt,if_pos rfl] at hp;exact e2 ▸ hp
   . rename_i hlt
     injection hn with hn;subst hn;have e2:=qG hok (m.pc + 1) ⟨m.pc,0,1⟩ rfl (show 1<=3 by decide) m.rg m.mm hst;unfold Bc TA at hp;rw [decide_eq_false hlt,if_neg (by decide),Bh hok] at hp;exact e2 ▸ hp
 split at hn
 . -- halt
   rename_i ho;have hd:gI x = ⟨43,0,0,0,0⟩:=by unfold gI; rw [ho]; rfl
   rw [hd];injection hn with hn;subst hn;refine (ab8 h.core hml h.env.tab h.env.lt).mono ?_;rintro e w' ⟨he,hp⟩;refine ⟨he,?_⟩;have hp:=h.um hp;have e2:=qG hok m.pc ⟨m.pc,0,1⟩ rfl (show 1<=3 by decide) m.rg m.mm hst
   have e3:J5 (iE m) = iE ⟨m.rg,m.mm,m.pc,1,m.ks ++ [⟨m.pc,0,1⟩]⟩:=by
    unfold J5;have e4:rU (iE m) (iE m).pc (-1) 1 = iE ⟨m.rg,m.mm,m.pc,0,m.ks ++ [⟨m.pc,0,1⟩]⟩:=e2;rw [e4];rfl
   rw [e3] at hp;exact hp
 split at hn
 . -- alu
   rename_i hcnd;obtain ⟨ha,hd0⟩:=hcnd;injection hn with hn;subst hn;obtain ⟨l1,l2,l3,l4⟩:=aiN ha
   have key:∀ (bb:Nat) (hb:bb < 32) (hy:iV (fZ x) (m.r (aN x)) (m.r bb) = iV (fZ x) (m.r (aN x)) (m.r (bN x))),
    Calls Tryz.prog 145 #[.pointer (some ⟨c,0,none⟩),aZ ⟨((fZ x:Nat):Int),dN x,aN x,bb,0⟩] w fun e w' => (∃ v,e = .returned v)/\lI (iE (m.put (dN x) (iV (fZ x) (m.r (aN x)) (m.r (bN x))) (m.pc + 1) ⟨m.pc,0,nG (fZ x)⟩)) (mg m) c b r cv mv code w w':=by
    intro bb hb hy;refine (ae2 h.core (fZ x) (iV (fZ x) (m.r (aN x)) (m.r bb)).v (nG (fZ x)) (dN x) (aN x) bb (by omega) (qw x) (lK x) hb hml (fun W => ?_) (fun W hc => ?_) h.env.tab h.env.lt h.env.far).mono ?_
    . rw [oP hok (lK x),oP hok hb]
      exact alz (fZ x) ha _ _ W
    . rw [<- ZF ha]
      exact O7 (fZ x) _ W hc (by omega) (by omega)
    . rintro e w' ⟨he,hp⟩
      refine ⟨he,?_⟩;have hp:=h.um hp;have e2:=qG hok (m.pc + 1) ⟨m.pc,0,nG (fZ x)⟩ rfl (Kt _) (m.rg.set (dN x) (iV (fZ x) (m.r (aN x)) (m.r (bN x)))) m.mm hst;rw [hy,I7 m _ _ hd0] at hp;unfold TA at hp;rw [show wrap64 (({ iE m with regs:=(m.rg.set (dN x) (iV (fZ x) (m.r (aN x)) (m.r (bN x)))).map (·.v) }:CS).pc + 1) = ((m.pc + 1:Nat):Int) from Bh hok] at hp
      exact e2 ▸ hp
   by_cases h23:fZ x<=23
   . have hd:gI x = ⟨((fZ x:Nat):Int),dN x,aN x,bN x,0⟩:=by unfold gI; rw [if_pos h23]
     rw [hd];exact key (bN x) (agP x) rfl
   . have hd:gI x = ⟨((fZ x:Nat):Int),dN x,aN x,((0:Nat):Int),0⟩:=by unfold gI; rw [if_neg h23,if_pos l1]; rfl
     rw [hd];exact key 0 (by decide) (afk ha h23 _ _ _)
 . cases hn
end

section
open Go.RowKit Go.Deep Go.Maps Ab
attribute [local go_sem] Oper.semAt_some
def rowsOf (words:List Nat):List (aO × Bool):=words.map fun w => (gI w,true)
theorem step_next {w:World} {c b r:Nat} {cv mv:Value} {words:List Nat} {m m':Ma} (h:CM w c b r cv mv (rowsOf words) (iE m) (mg m)) (hok:Hf m) (hn:Nx words m m') (hl:words.length<=100000) :
 Calls Tryz.prog 96 #[.pointer (some ⟨c,0,none⟩)] w fun e w' => e = .returned (.bool true)/\lI (iE m') (mg m') c b r cv mv (rowsOf words) w w':=by
 obtain ⟨hst,x,hx,hn⟩:=hn;refine Zo (Q:=fun w w' => lI (iE m') (mg m') c b r cv mv (rowsOf words) w w') (fun _ _ _ hc hp => lI.alloc hc hp) h.core m.pc rfl (gI x) ?_ (by show ((m.st:Nat):Int) = 0; rw [hst]; rfl) (by simpa [rowsOf] using hl) (fun W hc => ?_)
 . simp [rowsOf,hx]
 . exact acu (h.aj hc (fun k _ => by simp) (by simp)) hok hst x hn
theorem afl {m m':Ma} {x:Nat} (hok:Hf m) (hn:kY x m = some m'):m'.rg.length = 32/\m'.pc<=65537/\m'.ks.length = m.ks.length + 1/\(∀ k∈m'.ks,k.co<=3)/\m'.mm.length = m.mm.length:=by
 have hco:∀ (k:Mk),k.co<=3->∀ y∈m.ks ++ [k],y.co<=3:=fun k hk y hy => by
  rcases List.mem_append.1 hy with h | h
  . exact hok.co y h
  . simp at h; subst h; exact hk
 have hp:=hok.pc;have hr:=hok.rg;have hN:=an7 x;unfold kY at hn;split at hn
 . split at hn
   . injection hn with hn
     subst hn;exact ⟨by simp [Ma.put,hr],by show m.pc + 1<=_; omega,by simp [Ma.put],hco _ (Di _),rfl⟩
   . cases hn
 split at hn
 . split at hn
   . injection hn with hn
     subst hn;exact ⟨hr,by show m.pc + 1<=_; omega,by simp,hco _ (Di _),by simp⟩
   . cases hn
 split at hn
 . split at hn
   . injection hn with hn
     subst hn;exact ⟨by simp [Ma.put,hr],by show m.pc + 1<=_; omega,by simp [Ma.put],hco _ (show 1<=3 by decide),rfl⟩
   . cases hn
 split at hn
 . split at hn
   . injection hn with hn
     subst hn;exact ⟨hr,by show nN x<=_; omega,by simp,hco _ (show 3<=3 by decide),rfl⟩
   . injection hn with hn
     subst hn;exact ⟨hr,by show m.pc + 1<=_; omega,by simp,hco _ (show 1<=3 by decide),rfl⟩
 split at hn
 . injection hn with hn
   subst hn;exact ⟨hr,by show m.pc<=_; omega,by simp,hco _ (show 1<=3 by decide),rfl⟩
 split at hn
 . injection hn with hn
   subst hn;exact ⟨by simp [Ma.put,hr],by show m.pc + 1<=_; omega,by simp [Ma.put],hco _ (Kt _),rfl⟩
 . cases hn
theorem Oq {X:Type} {nx:X->X->Prop}:∀ {n:Nat} {x y:X},Ab.Reach nx n x y->∃ it:Nat->X,it 0 = x/\it n = y/\∀ j,j < n->nx (it j) (it (j + 1))
 | _,x,_,.nil _ => ⟨fun _ => x,rfl,rfl,fun j hj => by omega⟩
 | _,x,z,.cons (n:=n) h h1 => by
  obtain ⟨it,i0,iN,is⟩:=Oq h1;refine ⟨fun j => match j with | 0 => x | j + 1 => it j,rfl,iN,fun j hj => ?_⟩
  cases j with
  | zero => show nx x (it 0); rw [i0]; exact h
  | succ j => exact is j (by omega)
theorem seq_ok {words:List Nat} (hl:words.length<=60000) {it:Nat->Ma} {n:Nat} (hn:n<=1048000) (h0:Hf (it 0)) (hk:(it 0).ks.length = 0) (h:∀ j,j < n->Nx words (it j) (it (j + 1))):∀ j,j < n->Hf (it j)/\(it j).ks.length = j
 | 0,hj => ⟨h0,hk⟩
 | j + 1,hj => by
  obtain ⟨ih,ik⟩:=seq_ok hl hn h0 hk h j (by omega);obtain ⟨_,x,hx,hnx⟩:=h j (by omega);obtain ⟨a1,a2,a3,a4,_⟩:=afl ih hnx;obtain ⟨_,y,hy,_⟩:=h (j + 1) hj;have hpc:=(List.getElem?_eq_some_iff.1 hy).1;exact ⟨⟨a1,by omega,by omega,a4⟩,by omega⟩
theorem afm {w:World} {c b r:Nat} {cv mv:Value} {words:List Nat} {m m':Ma} {N fuel:Nat} (h:CM w c b r cv mv (rowsOf words) (iE m) (mg m)) (hok:Hf m) (hk0:m.ks.length = 0) (hr:Ab.Reach (Nx words) N m m') (hend:m'.st = 1) (hl:words.length<=60000) (hN:N<=1048000) (hf:fuel<=1048576) (hNf:N < fuel) :
 Calls Tryz.prog 51 #[.pointer (some ⟨c,0,none⟩),.int .i64 fuel] w fun e w' => e = .returned (.int .i64 N)/\lI (iE m') (mg m') c b r cv mv (rowsOf words) w w':=by
 obtain ⟨it,i0,iN,is⟩:=Oq hr;have al9:=seq_ok hl hN (by rw [i0]; exact hok) (by rw [i0]; exact hk0) is;have H:Hid (lI (iE (it 0)) (mg (it 0)) c b r cv mv (rowsOf words) w w):=hide ⟨ah.refl _ _,mv,.inl rfl,by rw [i0]; exact h⟩;have HIS:=hide is;have HOK:=hide al9;have TT:=hide iN;have HE:Hid ((iE (it N)).st≠0):=hide (by rw [iN]; show ((m'.st:Nat):Int)≠0; rw [hend]; decide);have hl2:words.length<=100000:=by omega
 clear h hok hk0 hr hend i0 iN is al9;have hmin:min (fuel:Int) 1048576 = fuel:=by omega
 go_enter Tryz.func51,Tryz.ntmps51
 go_wp2;go_loopw [5] (fun i wr => ∃ j:Nat,j<=N/\i = .int .i64 j/\Hid (lI (iE (it j)) (mg (it j)) c b r cv mv (rowsOf words) w wr)) (fun i _ => N + 1 - (intOf i).toNat)
 case atStart => exact ⟨0,Nat.zero_le _,rfl,H⟩
 case round =>
  obtain ⟨j,hj,rfl,HC⟩:=hrel;obtain ⟨hc,mv',hmv,hb⟩:=HC.out;have hjf:decide ((j:Int) < (fuel:Int)) = true:=by simp; omega
  by_cases hlt:j < N
  . have hsg:=step_next hb (HOK.out j hlt).1 (HIS.out j hlt) hl2
    have HSG:=hide hsg;have HX:=hide hc;have HV:=hide hmv;clear hsg hc hmv hb;go_wp2_with fail
    go_at_call 96;refine HSG.out.mono ?_;rintro e w1 ⟨rfl,hp⟩;have HN:Hid (lI (iE (it (j + 1))) (mg (it (j + 1))) c b r cv mv (rowsOf words) w w1):=hide (lI.step HX.out HV.out hp);clear hp HSG;go_wp2;go_roundw
    case rel => exact ⟨j + 1,by omega,by go_num,HN⟩
    case measure => simp [intOf]; omega
  . obtain rfl:j = N:=by omega
    have hss:=Zn hb.core HE.out;clear hc hmv hb;go_wp2_with fail
    go_at_call 96;refine hss.mono ?_;rintro e w1 ⟨rfl,rfl⟩;go_wp2;go_ret;rw [TT.out] at HC;exact ⟨rfl,HC.out⟩
end

section
open Go Go.RowKit Go.Deep Go.Maps
attribute [local go_sem] Oper.semAt_some
theorem EH (a:Nat) (ha:a < 2048) (w:World):Calls Tryz.prog 94 #[.int .i64 (a:Int)] w fun e w' => e = .returned (.bool true)/\w = w':=by
 have x1:decide ((a:Int) < 0) = false:=decide_eq_false (by omega);have x2:decide ((0:Int)<=(a:Int)) = true:=decide_eq_true (by omega);have x3:decide ((a:Int) < 2048) = true:=decide_eq_true (by omega);go_enter Tryz.func94,Tryz.ntmps94
 go_wp2;go_ret;exact ⟨rfl,rfl⟩
section
variable {w:World} {c b r:Nat} {cv mv:Value} {code:List (aO × Bool)} {s:CS} {ws:List Int}
theorem CM.aok {w':World} {ws':List Int} (h:CM w c b r cv mv code s ws) (hc:ah w w' [r]) (hr:nV w' b r ws'):CM w' c b r cv mv code s ws' :=
 ⟨h.core.aj hc (fun k hk hm => h.far.2 (by simp at hm; exact hm ▸ hk)),hr,⟨h.env.tab.aj hc h.env.lt (by simpa using h.gr),Nat.lt_of_lt_of_le h.env.lt hc.size,h.env.far⟩,h.gb,h.gr⟩
theorem ZG (h:CM w c b r cv mv code s ws) (a:Nat) (x:Int) (ha:a < ws.length) :
 Calls Tryz.prog 47 #[.pointer (some ⟨c,0,none⟩),.int .i64 (a:Int),.int .i32 x] w fun e w' => e = .returned (.bool true)/\ah w w' [r]/\CM w' c b r cv mv code s (ws.set a x):=by
 have hn:=h.sO.n;have hl:=lF h.core;have hwi:=EH a (by omega);have hst:=Oc b r ws (a:Int) x w h.sO (by omega) (by omega);rw [show inB ws (a:Int) = true from decide_eq_true ⟨by omega,by omega⟩,show st ws (a:Int) x = ws.set a x by unfold st; rw [if_pos ⟨by omega,by omega⟩]; rfl] at hst;have c0:=h.core.blk.cell' (i:=0) rfl;have hw:IntKind.i32.wrap (a:Int) = (a:Int):=by rw [IntKind.wrap_i32]; omega
 have H:=hide h;clear h;go_enter Tryz.func47,Tryz.ntmps47
 go_wp2_with fail
 go_at_call 53;refine hl.mono ?_;rintro e w1 ⟨rfl,rfl⟩;go_wp2_with fail
 go_at_call 94;refine (hwi _).mono ?_;rintro e w1 ⟨rfl,rfl⟩;go_wp2_with fail
 go_at_call 95;refine hst.mono ?_;rintro e w1 ⟨rfl,hr,hc⟩;have HR:=hide hr;have HC:=hide hc;clear hr hc hst hl;go_wp2;go_ret;exact ⟨rfl,HC.out,H.out.aok HC.out HR.out⟩
theorem VF (h:CM w c b r cv mv code s ws) (a:Nat) (x:Int) (ha:ws[a]? = some x) :
 Calls Tryz.prog 52 #[.pointer (some ⟨c,0,none⟩),.int .i64 (a:Int)] w fun e w' => e = .returned (.tuple #[.int .i32 x,.bool true])/\ah w w' []:=by
 have hal:=(List.getElem?_eq_some_iff.1 ha).1;have hn:=h.sO.n;have hl:=lF h.core;have hwi:=EH a (by omega);have hst:=IL b r ws (a:Int) w h.sO (by omega) (by omega);rw [show inB ws (a:Int) = true from decide_eq_true ⟨by omega,by omega⟩,show ld ws (a:Int) = x by unfold ld; rw [if_pos ⟨by omega,by omega⟩]; simp [List.getD,ha]] at hst;have c0:=h.core.blk.cell' (i:=0) rfl;have hw:IntKind.i32.wrap (a:Int) = (a:Int):=by rw [IntKind.wrap_i32]; omega
 clear h;go_enter Tryz.func52,Tryz.ntmps52
 go_wp2_with fail
 go_at_call 53;refine hl.mono ?_;rintro e w1 ⟨rfl,rfl⟩;go_wp2_with fail
 go_at_call 94;refine (hwi _).mono ?_;rintro e w1 ⟨rfl,rfl⟩;go_wp2_with fail
 go_at_call 97;refine hst.mono ?_;rintro e w1 ⟨rfl,hc⟩;have HC:=hide hc;clear hc hst hl;go_wp2;go_ret2;exact ⟨rfl,HC.out⟩
theorem O8 {bp:Addr} (h:CB w c (.pointer (some bp)) cv mv code s):Calls Tryz.prog 23 #[.pointer (some ⟨c,0,none⟩)] w fun e w' => e = .returned (.int .i64 s.cost)/\w = w':=by
 have hl:=lF h;have c36:=h.blk.cell' (@mX _ cv mv s h.reg).2.2.1;clear h;go_enter Tryz.func23,Tryz.ntmps23
 go_wp2_with (go_at_call 53; refine hl.mono ?_; rintro e w1 ⟨rfl,rfl⟩);go_ret;exact ⟨rfl,rfl⟩
end
end

section
open Go Go.RowKit Go.Deep Go.Maps
attribute [local go_sem] Oper.semAt_some
theorem afo (bb:Addr) (A:Option Addr) (n c:Nat):(zeroCells (.pointer (some bb)) (.slice A n c)).toArray.all (·.oneCell') = true:=by
 rw [List.all_toArray]
 cases A <;> rfl
theorem Ku (w:World) (g:Nat) (cs:Array Value):ah w (w.setRow g cs) [g] :=
 ⟨rfl,rfl,rfl,by simp [World.setRow],fun k hk hn => setRow_other w g k cs (fun e => hn (by simp [e]))⟩
section
variable {w:World} {c b r:Nat} {cv mv:Value} {code:List (aO × Bool)} {s:CS} {ws:List Int}
theorem VK (h:CM w c b r cv mv code s ws) :
 Calls Tryz.prog 48 #[.pointer (some ⟨c,0,none⟩)] w fun e w' => e = .returned (.tuple #[])/\ah w w' [c]/\CM w' c b r cv (.slice none 0 0) code iD ws:=by
 have hl:=lF h.core;have H:=hide h;obtain ⟨A,cc,hcv⟩:=bG h.core.rQ;subst hcv;have c0:=h.core.blk.cell' (i:=0) rfl;have c1:=h.core.blk.cell' (i:=1) rfl;have hlt:=h.core.blk.lt;have hblk:=h.core.blk.drew
 have hsz:(bK (.pointer (some ⟨b,0,none⟩)) (.slice A code.length cc) mv s).toArray.size = (zeroCells (.pointer (some ⟨b,0,none⟩)) (.slice A code.length cc)).toArray.size:=by
  simp [bK,zeroCells,iD,h.core.reg]
 have HB:=hide hblk;have HSZ:=hide hsz;clear h hblk hsz;go_enter Tryz.func48,Tryz.ntmps48
 go_wp2_with (go_at_call 53; refine hl.mono ?_; rintro e w1 ⟨rfl,rfl⟩);go_still_tail 11,(by kernel_rfl)
 change wpList _ _ _ _ _ w.drew;refine wpList_store_row rfl 111 _ _ rfl c (zeroCells (.pointer (some ⟨b,0,none⟩)) (.slice A code.length cc)).toArray rfl rfl 111 _ HB.out (by kernel_rfl) HSZ.out (afo _ _ _ _) ?_;have hb':aA (w.drew.setRow c (zeroCells (.pointer (some ⟨b,0,none⟩)) (.slice A code.length cc)).toArray) c 111 (bK (.pointer (some ⟨b,0,none⟩)) (.slice A code.length cc) (.slice none 0 0) iD):=setRow_heap w.drew c _ _ _ _ HB.out;have hc':ah w (w.drew.setRow c (zeroCells (.pointer (some ⟨b,0,none⟩)) (.slice A code.length cc)).toArray) [c]:=((ah.refl w [c]).drew).trans (Ku _ _ _) (fun k hk => .inl hk);generalize w.drew.setRow c (zeroCells (.pointer (some ⟨b,0,none⟩)) (.slice A code.length cc)).toArray = w2 at *;have HB':=hide hb';have HC':=hide hc';clear hb' hc' c0 c1;go_wp2;refine bodyPost_end (results_none rfl _ _ _) rfl ⟨rfl,HC'.out,?_⟩;obtain ⟨n1,n2,n3⟩:=H.out.core.ne;obtain ⟨f1,f2⟩:=H.out.far;have fb:b≠c:=fun e => f1 (by simp [fF,e]);have fr:r≠c:=fun e => f2 (by simp [fF,e])
 exact ⟨⟨HB'.out,aH H.out.core.rQ HC'.out (fun g hg hm => by simp at hm; subst hm; exact n1 hg),World.ownsRow_nil _ _ _ _,by simp [iD]⟩,
  H.out.sO.aj HC'.out (by simpa using fb) (by simpa using fr),
  ⟨H.out.env.tab.aj HC'.out H.out.env.lt (fun hm => H.out.env.far (by simp at hm; simp [fF,hm])),Nat.lt_of_lt_of_le H.out.env.lt HC'.out.size,fun hm => H.out.env.far (by
    simp only [fF,List.mem_append] at hm ⊢;rcases hm with hm | hm | hm
    . exact .inl hm
    . exact .inr (.inl hm)
    . simp [Value.ownBlock] at hm)⟩,H.out.gb,H.out.gr⟩
end
end

section
open Go Go.RowKit Ab Xi
def KQ:List Mk->Bool
 | [] => false
 | k :: l => Nat.ble 1 k.co || KQ l
theorem UH:∀ {l:List Mk},KQ l = true->∃ k∈l,1<=k.co
 | [],h => by cases h
 | q :: l,h => by
  unfold KQ at h;rw [Bool.or_eq_true] at h;rcases h with h | h
  . exact ⟨q,by simp,aY.1 h⟩
  . obtain ⟨k,hk,hc⟩:=UH h
    exact ⟨k,by simp [hk],hc⟩
def ac6 (r:Ab.St):Bool:=match r with
 | .done _ _ _ _ M => KQ M
 | _ => false
theorem ac7:ac6 (Aa aP 2921 lX 908 908 yI) = true:=by kernel_rfl
theorem Z5:ac6 uq = true:=ac7
theorem Hu:∀ l:List Mk,0<=jr l
 | [] => by simp [jr]
 | k :: l => by have:=Hu l; simp only [jr]; omega
theorem UJ:∀ {l:List Mk} {k:Mk},k∈l->1<=k.co->0 < jr l
 | q :: l,k,hk,hc => by
  have h0:=Hu l;simp only [jr];rcases List.mem_cons.1 hk with rfl | hk
  . omega
  . have:=UJ hk hc
    omega
theorem Hw:0 < jr aX:=by
 have h:=Z5;have hm:aX = I5 uq:=rfl;generalize uq = r at *
 cases r with
 | bad => cases h
 | go _ _ _ _ _ _ => cases h
 | done pc ns mm T M =>
  obtain ⟨k,hk,hc⟩:=UH (show KQ M = true from h);rw [show aX = M.reverse from hm];exact UJ (List.mem_reverse.2 hk) hc
end
end Go.Proofs.YtnkmmaijigihpaaGreatDoor
