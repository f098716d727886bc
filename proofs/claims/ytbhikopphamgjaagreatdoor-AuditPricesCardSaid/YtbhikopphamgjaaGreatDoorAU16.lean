/- Texts of this claim, side by side: CoreN, CoreO, CoreP, CoreQ, CoreR, FirmP. -/
import Derived.Test.YtbhikopphamgjaaGreatDoorAU15
import Derived.Test.YtbhikopphamgjaaGreatDoorAU13
set_option linter.unusedVariables false
set_option maxRecDepth 100000
set_option maxHeartbeats 8000000
namespace Go.Proofs.YtbhikopphamgjaaGreatDoor
section
open Go.RowKit Go.Deep Go.Maps Ab
attribute [local go_sem] Oper.semAt_some
theorem Tq {w:World} {c b r:Nat} {cv mv:Value} {code:List (aO × Bool)} {s s':CS} {ws ws':List Int} (h:CM w c b r cv mv code s ws) (op d a n:Nat) (hop:op = 34\/op = 35) (ha:a < 32)
 (hdo:∀ W,ah w W []->Calls Tryz.prog 183 #[.pointer (some ⟨c,0,none⟩),aY ⟨op,d,a,0,n⟩] W fun e w' => (∃ v,e = .returned v)/\lM s' ws' c b r cv mv code W w') :
 Calls Tryz.prog 140 #[.pointer (some ⟨c,0,none⟩),aY ⟨op,d,a,0,n⟩] w fun e w' => (∃ v,e = .returned v)/\lM s' ws' c b r cv mv code w w':=by
 have H:=hide h;have nV:=hide hdo;have hca:=h.core.blk.cell' (lY h.core.reg a ha);have hlt:=h.core.blk.lt;have ha2:(a:Int) < 32:=by omega
 generalize s.regs.getD a 0 = ra at *;clear h hdo;unfold aY at nV ⊢;rcases hop with rfl | rfl
 . go_enter Tryz.func140,Tryz.ntmps140
   go_wp2;go_quiet (fail)
   have hc0:ah w ((w.alloc (.cells #[.int .i64 34,.int .i64 d,.int .i64 a,.int .i64 0,.int .i64 n] 150)).drewN nq) []:=((ah.refl w []).alloc _).drewN nq;have HB:=hide (nV.out _ hc0);have jL:=hide hc0;clear hc0;go_wp2_with fail
   go_at_call 183;refine HB.out.mono ?_;rintro e w1 ⟨⟨v,rfl⟩,hp⟩;have HP:=hide hp;clear hp HB;go_wp2;refine bodyPost_end (results_none rfl _ _ _) rfl ?_;exact ⟨⟨_,rfl⟩,lM.alloc jL.out HP.out⟩
 . go_enter Tryz.func140,Tryz.ntmps140
   go_wp2;go_quiet (fail)
   have hc0:ah w ((w.alloc (.cells #[.int .i64 35,.int .i64 d,.int .i64 a,.int .i64 0,.int .i64 n] 150)).drewN nq) []:=((ah.refl w []).alloc _).drewN nq;have HB:=hide (nV.out _ hc0);have jL:=hide hc0;clear hc0;go_wp2_with fail
   go_at_call 183;refine HB.out.mono ?_;rintro e w1 ⟨⟨v,rfl⟩,hp⟩;have HP:=hide hp;clear hp HB;go_wp2;refine bodyPost_end (results_none rfl _ _ _) rfl ?_;exact ⟨⟨_,rfl⟩,lM.alloc jL.out HP.out⟩
def iE:List Mk->Int
 | [] => 0
 | k :: l => (k.co:Int) + iE l
def Bo (k:Mk):Int × Int × Int:=((k.pc:Int),(k.ad:Int) - 1,(k.co:Int))
def ig (m:Ma):CS:=⟨m.rg.map (·.v),(m.pc:Int),(m.st:Int),iE m.ks,m.ks.map Bo⟩
def kC (m:Ma):List Int:=m.mm.map (·.v)
theorem Oz (k:Mk):∀ l:List Mk,iE (l ++ [k]) = iE l + (k.co:Int)
 | [] => by simp [iE]
 | x :: l => by simp only [List.cons_append,iE,Oz k l]; omega
structure Hz (m:Ma):Prop where
 rg:m.rg.length = 32
 pc:m.pc<=65536
 ks:m.ks.length<=1048576
 co:∀ k∈m.ks,k.co<=3
theorem Dk:∀ (l:List Mk),(∀ k∈l,k.co<=3)->0<=iE l/\iE l<=3 * (l.length:Int)
 | [],_ => by simp [iE]
 | k :: l,h => by
  have h1:=Dk l (fun x hx => h x (by simp [hx]));have h2:=h k (by simp);simp only [iE,List.length_cons];omega
def gG (w:Nat):aO :=
 if fV w<=23 then ⟨fV w,dN w,aN w,bN w,0⟩ else if fV w<=30 then ⟨fV w,dN w,aN w,0,0⟩ else if fV w = 43 then ⟨43,0,0,0,0⟩ else ⟨fV w,dN w,aN w,0,nN w⟩
end

section
open Go.RowKit Go.Deep Go.Maps Ab
theorem alu {x:Int} (h1:-9223372036854775808<=x) (h2:x<=9223372036854775807):wrap64 x = x:=by unfold wrap64; omega
theorem qL {m:Ma} (hok:Hz m) (nx:Nat) (k:Mk) (hk:k.pc = m.pc) (hc:k.co<=3) (rg:List Wd) (mm:List Wd) (hst:m.st = 0) :
 rU { ig m with regs:=rg.map (·.v) } (nx:Int) ((k.ad:Int) - 1) (k.co:Int) = ig ⟨rg,mm,nx,0,m.ks ++ [k]⟩:=by
 obtain ⟨b1,b2⟩:=Dk m.ks hok.co;have hl:=hok.ks;unfold rU ig;simp only [Oz,List.map_append,List.map_cons,List.map_nil,hst,Bo,hk];rw [alu (by omega) (by omega)]
theorem ae7 (m:Ma):ig m = { ig m with regs:=m.rg.map (·.v) }:=rfl
theorem Jh (m:Ma) (d:Nat) (x:Wd) (hd:d≠0):uf (ig m) d x.v = { ig m with regs:=(m.rg.set d x).map (·.v) }:=by
 unfold uf;rw [if_neg hd];simp [ig,List.map_set]
theorem oV {m:Ma} (hok:Hz m) {i:Nat} (hi:i < 32):kG (ig m) i = (m.r i).v:=by
 have hl:=hok.rg;unfold kG ig Ma.r;simp only [List.getD_eq_getElem?_getD,List.getElem?_map];rw [List.getElem?_eq_getElem (by omega)];rfl
theorem Bz {m:Ma} (hok:Hz m):wrap64 ((ig m).pc + 1) = ((m.pc + 1:Nat):Int):=by
 have:=hok.pc;show wrap64 ((m.pc:Int) + 1) = _;rw [alu (by omega) (by omega)];omega
theorem Dq (ad:Nat):pG ad<=3:=by unfold pG; cases Nat.blt ad 1024 <;> decide
theorem KT (op:Nat):nK op<=3:=by unfold nK; cases (Nat.blt 17 op && Nat.blt op 22) <;> decide
theorem Xf (ad:Nat):GH ad = ((pG ad:Nat):Int):=by
 unfold GH pG;by_cases h:ad < 1024
 . rw [if_pos h,Xi.aI.2 h]; rfl
 . have : Nat.blt ad 1024 = false := by
    cases e:Nat.blt ad 1024 with
    | false => rfl
    | true => exact absurd (Xi.aI.1 e) h
   rw [if_neg h,this]; rfl
theorem Vx:((List.range 31).all fun k => !z_ k || decide (qc (k:Int) = ((nK k:Nat):Int))) = true:=by kernel_rfl
theorem Zx {op:Nat} (h:z_ op = true):qc (op:Int) = ((nK op:Nat):Int):=by
 have h3:=w_ h;have h1:=List.all_eq_true.1 Vx op (List.mem_range.2 (by omega));rw [h] at h1;exact of_decide_eq_true (by simpa using h1)
theorem Xg (x y:Wd):iT 24 x y = MX x:=by unfold iT; rfl
theorem Xh (x y:Wd):iT 25 x y = t_ x:=by unfold iT; rfl
theorem Xj (x y:Wd):iT 26 x y = qJ x:=by unfold iT; rfl
theorem Xk (x y:Wd):iT 27 x y = kW 0:=by unfold iT; rfl
theorem Xl (x y:Wd):iT 28 x y = zB x:=by unfold iT; rfl
theorem Xm (x y:Wd):iT 29 x y = PX x:=by unfold iT; rfl
theorem Xn (x y:Wd):iT 30 x y = wW x:=by unfold iT; rfl
theorem ae8 {op:Nat} (h:z_ op = true) (h2:¬ op<=23) (x y z:Wd):iT op x y = iT op x z:=by
 have h3:op<=30:=by
  rcases w_ h with rfl | rfl | rfl | rfl | rfl | rfl | rfl | rfl | rfl | rfl | rfl | rfl | rfl | rfl | rfl | rfl | rfl | rfl | rfl | rfl | rfl | rfl | rfl | rfl <;> decide
 match op,h2,h3 with
 | 0,h,_ => exact absurd (by decide) h
 | 1,h,_ => exact absurd (by decide) h
 | 2,h,_ => exact absurd (by decide) h
 | 3,h,_ => exact absurd (by decide) h
 | 4,h,_ => exact absurd (by decide) h
 | 5,h,_ => exact absurd (by decide) h
 | 6,h,_ => exact absurd (by decide) h
 | 7,h,_ => exact absurd (by decide) h
 | 8,h,_ => exact absurd (by decide) h
 | 9,h,_ => exact absurd (by decide) h
 | 10,h,_ => exact absurd (by decide) h
 | 11,h,_ => exact absurd (by decide) h
 | 12,h,_ => exact absurd (by decide) h
 | 13,h,_ => exact absurd (by decide) h
 | 14,h,_ => exact absurd (by decide) h
 | 15,h,_ => exact absurd (by decide) h
 | 16,h,_ => exact absurd (by decide) h
 | 17,h,_ => exact absurd (by decide) h
 | 18,h,_ => exact absurd (by decide) h
 | 19,h,_ => exact absurd (by decide) h
 | 20,h,_ => exact absurd (by decide) h
 | 21,h,_ => exact absurd (by decide) h
 | 22,h,_ => exact absurd (by decide) h
 | 23,h,_ => exact absurd (by decide) h
 | 24,_,_ => exact (Xg x y).trans (Xg x z).symm
 | 25,_,_ => exact (Xh x y).trans (Xh x z).symm
 | 26,_,_ => exact (Xj x y).trans (Xj x z).symm
 | 27,_,_ => exact (Xk x y).trans (Xk x z).symm
 | 28,_,_ => exact (Xl x y).trans (Xl x z).symm
 | 29,_,_ => exact (Xm x y).trans (Xm x z).symm
 | 30,_,_ => exact (Xn x y).trans (Xn x z).symm
 | _ + 31,_,h => exact absurd h (by omega)
theorem aia {op:Nat} (h:z_ op = true):op<=30/\1<=op/\op≠22/\op≠23:=by
 have:=w_ h;omega
theorem acn {w:World} {c b r:Nat} {cv mv:Value} {code:List (aO × Bool)} {m m':Ma} (h:CM w c b r cv mv code (ig m) (kC m)) (hok:Hz m) (hst:m.st = 0) (x:Nat) (hn:kZ x m = some m') :
 Calls Tryz.prog 140 #[.pointer (some ⟨c,0,none⟩),aY (gG x)] w fun e w' => (∃ v,e = .returned v)/\lM (ig m') (kC m') c b r cv mv code w w':=by
 have hml:(ig m).marks.length<=2000000:=by
  have:=hok.ks;show (m.ks.map Bo).length<=_;rw [List.length_map]; omega
 unfold kZ at hn;split at hn
 . -- lw
   rename_i ho;split at hn
   . rename_i hcnd
     obtain ⟨q1,q2,q3⟩:=hcnd;injection hn with hn;subst hn;have hd:gG x = ⟨((34:Nat):Int),dN x,aN x,0,nN x⟩:=by unfold gG; rw [ho]; rfl
     rw [hd];have hv:kG (ig m) (aN x) = (((m.r (aN x)).v.toNat:Nat):Int):=by rw [oV hok (lN x)]; omega
     have hin:(m.r (aN x)).v.toNat + nN x < (kC m).length:=by simp only [kC,List.length_map]; omega
     refine Tq h 34 (dN x) (aN x) (nN x) (.inl rfl) (lN x) (fun W hc => ?_);refine (ab5 (h.aj hc (fun k _ => by simp) (by simp)) (dN x) (aN x) (nN x) _ (qC x) (lN x) hv hin hml).mono ?_;rintro e w' ⟨he,hp⟩;refine ⟨he,?_⟩
     have e1:(kC m).getD ((m.r (aN x)).v.toNat + nN x) 0 = (m.mm.getD ((m.r (aN x)).v.toNat + nN x) (kW 0)).v:=by
      simp only [kC,List.getD_eq_getElem?_getD,List.getElem?_map];rw [List.getElem?_eq_getElem (by simpa [kC] using hin)];rfl
     have e2:=qL hok (m.pc + 1) ⟨m.pc,(m.r (aN x)).v.toNat + nN x + 1,pG ((m.r (aN x)).v.toNat + nN x)⟩ rfl (Dq _) (m.rg.set (dN x) (m.mm.getD ((m.r (aN x)).v.toNat + nN x) (kW 0))) m.mm hst;rw [e1,Jh m _ _ q3,Bz hok,Xf] at hp;rw [show (((m.r (aN x)).v.toNat:Nat):Int) + ((nN x:Nat):Int) = (((m.r (aN x)).v.toNat + nN x + 1:Nat):Int) - 1 by omega] at hp;rw [e2] at hp;exact hp
   . cases hn
 split at hn
 . -- sw
   rename_i ho;split at hn
   . rename_i hcnd
     obtain ⟨q1,q2⟩:=hcnd;injection hn with hn;subst hn;have hd:gG x = ⟨((35:Nat):Int),dN x,aN x,0,nN x⟩:=by unfold gG; rw [ho]; rfl
     rw [hd];have hv:kG (ig m) (aN x) = (((m.r (aN x)).v.toNat:Nat):Int):=by rw [oV hok (lN x)]; omega
     have hin:(m.r (aN x)).v.toNat + nN x < (kC m).length:=by simp only [kC,List.length_map]; omega
     refine Tq h 35 (dN x) (aN x) (nN x) (.inr rfl) (lN x) (fun W hc => ?_);refine (ab7 (h.aj hc (fun k _ => by simp) (by simp)) (dN x) (aN x) (nN x) _ (qC x) (lN x) hv hin hml).mono ?_;rintro e w' ⟨he,hp⟩;refine ⟨he,?_⟩
     have e1:(kC m).set ((m.r (aN x)).v.toNat + nN x) (kG (ig m) (dN x)) = kC ⟨m.rg,m.mm.set ((m.r (aN x)).v.toNat + nN x) (m.r (dN x)),m.pc + 1,0,m.ks ++ [⟨m.pc,(m.r (aN x)).v.toNat + nN x + 1,pG ((m.r (aN x)).v.toNat + nN x)⟩]⟩:=by
      rw [oV hok (qC x)];simp [kC,List.map_set]
     have e2:=qL hok (m.pc + 1) ⟨m.pc,(m.r (aN x)).v.toNat + nN x + 1,pG ((m.r (aN x)).v.toNat + nN x)⟩ rfl (Dq _) m.rg (m.mm.set ((m.r (aN x)).v.toNat + nN x) (m.r (dN x))) hst;rw [e1,Bz hok,Xf,show (((m.r (aN x)).v.toNat:Nat):Int) + ((nN x:Nat):Int) = (((m.r (aN x)).v.toNat + nN x + 1:Nat):Int) - 1 by omega,ae7 m,e2] at hp;exact hp
   . cases hn
 split at hn
 . -- addi
   rename_i ho;split at hn
   . rename_i hcnd
     obtain ⟨q1,q2,q3⟩:=hcnd;injection hn with hn;subst hn;have hd:gG x = ⟨31,dN x,aN x,0,nN x⟩:=by unfold gG; rw [ho]; rfl
     rw [hd];refine (ab1 h.core (dN x) (aN x) (nN x) (qC x) (lN x) (by omega) (by omega) hml).mono ?_;rintro e w' ⟨he,hp⟩;refine ⟨he,?_⟩;have hp:=h.ug hp;have e2:=qL hok (m.pc + 1) ⟨m.pc,0,1⟩ rfl (show 1<=3 by decide) (m.rg.set (dN x) (kW ((m.r (aN x)).v + nN x))) m.mm hst;rw [oV hok (lN x),show wrap32 ((m.r (aN x)).v + ((nN x:Nat):Int)) = (kW ((m.r (aN x)).v + nN x)).v from rfl,Jh m _ _ q3] at hp;unfold Tf at hp;rw [show wrap64 (({ ig m with regs:=(m.rg.set (dN x) (kW ((m.r (aN x)).v + nN x))).map (·.v) }:CS).pc + 1) = ((m.pc + 1:Nat):Int) from Bz hok] at hp
     exact e2 ▸ hp
   . cases hn
 split at hn
 . -- blt
   rename_i ho;have hd:gG x = ⟨38,dN x,aN x,0,nN x⟩:=by unfold gG; rw [ho]; rfl
   rw [hd];refine (aeR h.core (dN x) (aN x) (nN x) (qC x) (lN x) hml).mono ?_;rintro e w' ⟨he,hp⟩;refine ⟨he,?_⟩;have hp:=h.ug hp;rw [oV hok (lN x),oV hok (qC x)] at hp;split at hn
   . rename_i hlt
     injection hn with hn;subst hn;have e2:=qL hok (nN x) ⟨m.pc,0,3⟩ rfl (show 3<=3 by decide) m.rg m.mm hst;unfold Bj at hp;rw [decide_eq_true hlt,if_pos rfl] at hp;exact e2 ▸ hp
   . rename_i hlt
     injection hn with hn;subst hn;have e2:=qL hok (m.pc + 1) ⟨m.pc,0,1⟩ rfl (show 1<=3 by decide) m.rg m.mm hst;unfold Bj Tf at hp;rw [decide_eq_false hlt,if_neg (by decide),Bz hok] at hp;exact e2 ▸ hp
 split at hn
 . -- halt
   rename_i ho;have hd:gG x = ⟨43,0,0,0,0⟩:=by unfold gG; rw [ho]; rfl
   rw [hd];injection hn with hn;subst hn;refine (ab3 h.core hml h.env.tab h.env.lt).mono ?_;rintro e w' ⟨he,hp⟩;refine ⟨he,?_⟩;have hp:=h.ug hp;have e2:=qL hok m.pc ⟨m.pc,0,1⟩ rfl (show 1<=3 by decide) m.rg m.mm hst
   have e3:KD (ig m) = ig ⟨m.rg,m.mm,m.pc,1,m.ks ++ [⟨m.pc,0,1⟩]⟩:=by
    unfold KD;have e4:rU (ig m) (ig m).pc (-1) 1 = ig ⟨m.rg,m.mm,m.pc,0,m.ks ++ [⟨m.pc,0,1⟩]⟩:=e2;rw [e4];rfl
   rw [e3] at hp;exact hp
 split at hn
 . -- alu
   rename_i hcnd;obtain ⟨ha,hd0⟩:=hcnd;injection hn with hn;subst hn;obtain ⟨l1,l2,l3,l4⟩:=aia ha
   have key:∀ (bb:Nat) (hb:bb < 32) (hy:iT (fV x) (m.r (aN x)) (m.r bb) = iT (fV x) (m.r (aN x)) (m.r (bN x))),
    Calls Tryz.prog 140 #[.pointer (some ⟨c,0,none⟩),aY ⟨((fV x:Nat):Int),dN x,aN x,bb,0⟩] w fun e w' => (∃ v,e = .returned v)/\lM (ig (m.put (dN x) (iT (fV x) (m.r (aN x)) (m.r (bN x))) (m.pc + 1) ⟨m.pc,0,nK (fV x)⟩)) (kC m) c b r cv mv code w w':=by
    intro bb hb hy;refine (aeP h.core (fV x) (iT (fV x) (m.r (aN x)) (m.r bb)).v (nK (fV x)) (dN x) (aN x) bb (by omega) (qC x) (lN x) hb hml (fun W => ?_) (fun W hc => ?_) h.env.tab h.env.lt h.env.far).mono ?_
    . rw [oV hok (lN x),oV hok hb]
      exact akV (fV x) ha _ _ W
    . rw [<- Zx ha]
      exact O7 (fV x) _ W hc (by omega) (by omega)
    . rintro e w' ⟨he,hp⟩
      refine ⟨he,?_⟩;have hp:=h.ug hp;have e2:=qL hok (m.pc + 1) ⟨m.pc,0,nK (fV x)⟩ rfl (KT _) (m.rg.set (dN x) (iT (fV x) (m.r (aN x)) (m.r (bN x)))) m.mm hst;rw [hy,Jh m _ _ hd0] at hp;unfold Tf at hp;rw [show wrap64 (({ ig m with regs:=(m.rg.set (dN x) (iT (fV x) (m.r (aN x)) (m.r (bN x)))).map (·.v) }:CS).pc + 1) = ((m.pc + 1:Nat):Int) from Bz hok] at hp
      exact e2 ▸ hp
   by_cases h23:fV x<=23
   . have hd:gG x = ⟨((fV x:Nat):Int),dN x,aN x,bN x,0⟩:=by unfold gG; rw [if_pos h23]
     rw [hd];exact key (bN x) (agu x) rfl
   . have hd:gG x = ⟨((fV x:Nat):Int),dN x,aN x,((0:Nat):Int),0⟩:=by unfold gG; rw [if_neg h23,if_pos l1]; rfl
     rw [hd];exact key 0 (by decide) (ae8 ha h23 _ _ _)
 . cases hn
end

section
open Go.RowKit Go.Deep Go.Maps Ab
attribute [local go_sem] Oper.semAt_some
def rowsOf (words:List Nat):List (aO × Bool):=words.map fun w => (gG w,true)
theorem step_next {w:World} {c b r:Nat} {cv mv:Value} {words:List Nat} {m m':Ma} (h:CM w c b r cv mv (rowsOf words) (ig m) (kC m)) (hok:Hz m) (hn:Nx words m m') (hl:words.length<=100000) :
 Calls Tryz.prog 92 #[.pointer (some ⟨c,0,none⟩)] w fun e w' => e = .returned (.bool true)/\lM (ig m') (kC m') c b r cv mv (rowsOf words) w w':=by
 obtain ⟨hst,x,hx,hn⟩:=hn;refine Zh (Q:=fun w w' => lM (ig m') (kC m') c b r cv mv (rowsOf words) w w') (fun _ _ _ hc hp => lM.alloc hc hp) h.core m.pc rfl (gG x) ?_ (by show ((m.st:Nat):Int) = 0; rw [hst]; rfl) (by simpa [rowsOf] using hl) (fun W hc => ?_)
 . simp [rowsOf,hx]
 . exact acn (h.aj hc (fun k _ => by simp) (by simp)) hok hst x hn
theorem ae9 {m m':Ma} {x:Nat} (hok:Hz m) (hn:kZ x m = some m'):m'.rg.length = 32/\m'.pc<=65537/\m'.ks.length = m.ks.length + 1/\(∀ k∈m'.ks,k.co<=3)/\m'.mm.length = m.mm.length:=by
 have hco:∀ (k:Mk),k.co<=3->∀ y∈m.ks ++ [k],y.co<=3:=fun k hk y hy => by
  rcases List.mem_append.1 hy with h | h
  . exact hok.co y h
  . simp at h; subst h; exact hk
 have hp:=hok.pc;have hr:=hok.rg;have hN:=anj x;unfold kZ at hn;split at hn
 . split at hn
   . injection hn with hn
     subst hn;exact ⟨by simp [Ma.put,hr],by show m.pc + 1<=_; omega,by simp [Ma.put],hco _ (Dq _),rfl⟩
   . cases hn
 split at hn
 . split at hn
   . injection hn with hn
     subst hn;exact ⟨hr,by show m.pc + 1<=_; omega,by simp,hco _ (Dq _),by simp⟩
   . cases hn
 split at hn
 . split at hn
   . injection hn with hn
     subst hn;exact ⟨by simp [Ma.put,hr],by show m.pc + 1<=_; omega,by simp [Ma.put],hco _ (show 1<=3 by decide),rfl⟩
   . cases hn
 split at hn
 . split at hn
   . injection hn with hn
     subst hn;exact ⟨hr,by show nN x<=_; omega,by simp,hco _ (show 3<=3 by decide),rfl⟩
   . injection hn with hn
     subst hn;exact ⟨hr,by show m.pc + 1<=_; omega,by simp,hco _ (show 1<=3 by decide),rfl⟩
 split at hn
 . injection hn with hn
   subst hn;exact ⟨hr,by show m.pc<=_; omega,by simp,hco _ (show 1<=3 by decide),rfl⟩
 split at hn
 . injection hn with hn
   subst hn;exact ⟨by simp [Ma.put,hr],by show m.pc + 1<=_; omega,by simp [Ma.put],hco _ (KT _),rfl⟩
 . cases hn
theorem OB {X:Type} {nx:X->X->Prop}:∀ {n:Nat} {x y:X},Ab.Reach nx n x y->∃ it:Nat->X,it 0 = x/\it n = y/\∀ j,j < n->nx (it j) (it (j + 1))
 | _,x,_,.nil _ => ⟨fun _ => x,rfl,rfl,fun j hj => by omega⟩
 | _,x,z,.cons (n:=n) h h1 => by
  obtain ⟨it,i0,iN,is⟩:=OB h1;refine ⟨fun j => match j with | 0 => x | j + 1 => it j,rfl,iN,fun j hj => ?_⟩
  cases j with
  | zero => show nx x (it 0); rw [i0]; exact h
  | succ j => exact is j (by omega)
theorem seq_ok {words:List Nat} (hl:words.length<=60000) {it:Nat->Ma} {n:Nat} (hn:n<=1048000) (h0:Hz (it 0)) (hk:(it 0).ks.length = 0) (h:∀ j,j < n->Nx words (it j) (it (j + 1))):∀ j,j < n->Hz (it j)/\(it j).ks.length = j
 | 0,hj => ⟨h0,hk⟩
 | j + 1,hj => by
  obtain ⟨ih,ik⟩:=seq_ok hl hn h0 hk h j (by omega);obtain ⟨_,x,hx,hnx⟩:=h j (by omega);obtain ⟨a1,a2,a3,a4,_⟩:=ae9 ih hnx;obtain ⟨_,y,hy,_⟩:=h (j + 1) hj;have hpc:=(List.getElem?_eq_some_iff.1 hy).1;exact ⟨⟨a1,by omega,by omega,a4⟩,by omega⟩
theorem ae_ {w:World} {c b r:Nat} {cv mv:Value} {words:List Nat} {m m':Ma} {N fuel:Nat} (h:CM w c b r cv mv (rowsOf words) (ig m) (kC m)) (hok:Hz m) (hk0:m.ks.length = 0) (hr:Ab.Reach (Nx words) N m m') (hend:m'.st = 1) (hl:words.length<=60000) (hN:N<=1048000) (hf:fuel<=1048576) (hNf:N < fuel) :
 Calls Tryz.prog 52 #[.pointer (some ⟨c,0,none⟩),.int .i64 fuel] w fun e w' => e = .returned (.int .i64 N)/\lM (ig m') (kC m') c b r cv mv (rowsOf words) w w':=by
 obtain ⟨it,i0,iN,is⟩:=OB hr;have alv:=seq_ok hl hN (by rw [i0]; exact hok) (by rw [i0]; exact hk0) is;have H:Hid (lM (ig (it 0)) (kC (it 0)) c b r cv mv (rowsOf words) w w):=hide ⟨ah.refl _ _,mv,.inl rfl,by rw [i0]; exact h⟩;have HIS:=hide is;have HOK:=hide alv;have TK:=hide iN;have HE:Hid ((ig (it N)).st≠0):=hide (by rw [iN]; show ((m'.st:Nat):Int)≠0; rw [hend]; decide);have hl2:words.length<=100000:=by omega
 clear h hok hk0 hr hend i0 iN is alv;have hmin:min (fuel:Int) 1048576 = fuel:=by omega
 go_enter Tryz.func52,Tryz.ntmps52
 go_wp2;go_loopw [5] (fun i wr => ∃ j:Nat,j<=N/\i = .int .i64 j/\Hid (lM (ig (it j)) (kC (it j)) c b r cv mv (rowsOf words) w wr)) (fun i _ => N + 1 - (intOf i).toNat)
 case atStart => exact ⟨0,Nat.zero_le _,rfl,H⟩
 case round =>
  obtain ⟨j,hj,rfl,HC⟩:=hrel;obtain ⟨hc,mv',hmv,hb⟩:=HC.out;have hjf:decide ((j:Int) < (fuel:Int)) = true:=by simp; omega
  by_cases hlt:j < N
  . have hsg:=step_next hb (HOK.out j hlt).1 (HIS.out j hlt) hl2
    have HSG:=hide hsg;have HX:=hide hc;have HV:=hide hmv;clear hsg hc hmv hb;go_wp2_with fail
    go_at_call 92;refine HSG.out.mono ?_;rintro e w1 ⟨rfl,hp⟩;have HN:Hid (lM (ig (it (j + 1))) (kC (it (j + 1))) c b r cv mv (rowsOf words) w w1):=hide (lM.step HX.out HV.out hp);clear hp HSG;go_wp2;go_roundw
    case rel => exact ⟨j + 1,by omega,by go_num,HN⟩
    case measure => simp [intOf]; omega
  . obtain rfl:j = N:=by omega
    have hss:=Zg hb.core HE.out;clear hc hmv hb;go_wp2_with fail
    go_at_call 92;refine hss.mono ?_;rintro e w1 ⟨rfl,rfl⟩;go_wp2;go_ret;rw [TK.out] at HC;exact ⟨rfl,HC.out⟩
end

section
open Go Go.RowKit Go.Deep Go.Maps
attribute [local go_sem] Oper.semAt_some
theorem EW (a:Nat) (ha:a < 2048) (w:World):Calls Tryz.prog 90 #[.int .i64 (a:Int)] w fun e w' => e = .returned (.bool true)/\w = w':=by
 have x1:decide ((a:Int) < 0) = false:=decide_eq_false (by omega);have x2:decide ((0:Int)<=(a:Int)) = true:=decide_eq_true (by omega);have x3:decide ((a:Int) < 2048) = true:=decide_eq_true (by omega);go_enter Tryz.func90,Tryz.ntmps90
 go_wp2;go_ret;exact ⟨rfl,rfl⟩
section
variable {w:World} {c b r:Nat} {cv mv:Value} {code:List (aO × Bool)} {s:CS} {ws:List Int}
theorem CM.anz {w':World} {ws':List Int} (h:CM w c b r cv mv code s ws) (hc:ah w w' [r]) (hr:nY w' b r ws'):CM w' c b r cv mv code s ws' :=
 ⟨h.core.aj hc (fun k hk hm => h.far.2 (by simp at hm; exact hm ▸ hk)),hr,⟨h.env.tab.aj hc h.env.lt (by simpa using h.gr),Nat.lt_of_lt_of_le h.env.lt hc.size,h.env.far⟩,h.gb,h.gr⟩
theorem Zy (h:CM w c b r cv mv code s ws) (a:Nat) (x:Int) (ha:a < ws.length) :
 Calls Tryz.prog 48 #[.pointer (some ⟨c,0,none⟩),.int .i64 (a:Int),.int .i32 x] w fun e w' => e = .returned (.bool true)/\ah w w' [r]/\CM w' c b r cv mv code s (ws.set a x):=by
 have hn:=h.sN.n;have hl:=lG h.core;have hwi:=EW a (by omega);have hst:=Oo b r ws (a:Int) x w h.sN (by omega) (by omega);rw [show inB ws (a:Int) = true from decide_eq_true ⟨by omega,by omega⟩,show st ws (a:Int) x = ws.set a x by unfold st; rw [if_pos ⟨by omega,by omega⟩]; rfl] at hst;have c0:=h.core.blk.cell' (i:=0) rfl;have hw:IntKind.i32.wrap (a:Int) = (a:Int):=by rw [IntKind.wrap_i32]; omega
 have H:=hide h;clear h;go_enter Tryz.func48,Tryz.ntmps48
 go_wp2_with fail
 go_at_call 54;refine hl.mono ?_;rintro e w1 ⟨rfl,rfl⟩;go_wp2_with fail
 go_at_call 90;refine (hwi _).mono ?_;rintro e w1 ⟨rfl,rfl⟩;go_wp2_with fail
 go_at_call 91;refine hst.mono ?_;rintro e w1 ⟨rfl,hr,hc⟩;have HR:=hide hr;have HC:=hide hc;clear hr hc hst hl;go_wp2;go_ret;exact ⟨rfl,HC.out,H.out.anz HC.out HR.out⟩
theorem Vy (h:CM w c b r cv mv code s ws) (a:Nat) (x:Int) (ha:ws[a]? = some x) :
 Calls Tryz.prog 53 #[.pointer (some ⟨c,0,none⟩),.int .i64 (a:Int)] w fun e w' => e = .returned (.tuple #[.int .i32 x,.bool true])/\ah w w' []:=by
 have hal:=(List.getElem?_eq_some_iff.1 ha).1;have hn:=h.sN.n;have hl:=lG h.core;have hwi:=EW a (by omega);have hst:=I8 b r ws (a:Int) w h.sN (by omega) (by omega);rw [show inB ws (a:Int) = true from decide_eq_true ⟨by omega,by omega⟩,show ld ws (a:Int) = x by unfold ld; rw [if_pos ⟨by omega,by omega⟩]; simp [List.getD,ha]] at hst;have c0:=h.core.blk.cell' (i:=0) rfl;have hw:IntKind.i32.wrap (a:Int) = (a:Int):=by rw [IntKind.wrap_i32]; omega
 clear h;go_enter Tryz.func53,Tryz.ntmps53
 go_wp2_with fail
 go_at_call 54;refine hl.mono ?_;rintro e w1 ⟨rfl,rfl⟩;go_wp2_with fail
 go_at_call 90;refine (hwi _).mono ?_;rintro e w1 ⟨rfl,rfl⟩;go_wp2_with fail
 go_at_call 93;refine hst.mono ?_;rintro e w1 ⟨rfl,hc⟩;have HC:=hide hc;clear hc hst hl;go_wp2;go_ret2;exact ⟨rfl,HC.out⟩
theorem O8 {bp:Addr} (h:CB w c (.pointer (some bp)) cv mv code s):Calls Tryz.prog 30 #[.pointer (some ⟨c,0,none⟩)] w fun e w' => e = .returned (.int .i64 s.cost)/\w = w':=by
 have hl:=lG h;have c36:=h.blk.cell' (@mX _ cv mv s h.reg).2.2.1;clear h;go_enter Tryz.func30,Tryz.ntmps30
 go_wp2_with (go_at_call 54; refine hl.mono ?_; rintro e w1 ⟨rfl,rfl⟩);go_ret;exact ⟨rfl,rfl⟩
end
end

section
open Go Go.RowKit Go.Deep Go.Maps
attribute [local go_sem] Oper.semAt_some
theorem afb (bb:Addr) (A:Option Addr) (n c:Nat):(zeroCells (.pointer (some bb)) (.slice A n c)).toArray.all (·.oneCell') = true:=by
 rw [List.all_toArray]
 cases A <;> rfl
theorem KU (w:World) (g:Nat) (cs:Array Value):ah w (w.setRow g cs) [g] :=
 ⟨rfl,rfl,rfl,by simp [World.setRow],fun k hk hn => setRow_other w g k cs (fun e => hn (by simp [e]))⟩
section
variable {w:World} {c b r:Nat} {cv mv:Value} {code:List (aO × Bool)} {s:CS} {ws:List Int}
theorem VE (h:CM w c b r cv mv code s ws) :
 Calls Tryz.prog 49 #[.pointer (some ⟨c,0,none⟩)] w fun e w' => e = .returned (.tuple #[])/\ah w w' [c]/\CM w' c b r cv (.slice none 0 0) code iU ws:=by
 have hl:=lG h.core;have H:=hide h;obtain ⟨A,cc,hcv⟩:=bI h.core.rQ;subst hcv;have c0:=h.core.blk.cell' (i:=0) rfl;have c1:=h.core.blk.cell' (i:=1) rfl;have hlt:=h.core.blk.lt;have hblk:=h.core.blk.drew
 have hsz:(bM (.pointer (some ⟨b,0,none⟩)) (.slice A code.length cc) mv s).toArray.size = (zeroCells (.pointer (some ⟨b,0,none⟩)) (.slice A code.length cc)).toArray.size:=by
  simp [bM,zeroCells,iU,h.core.reg]
 have HB:=hide hblk;have HSZ:=hide hsz;clear h hblk hsz;go_enter Tryz.func49,Tryz.ntmps49
 go_wp2_with (go_at_call 54; refine hl.mono ?_; rintro e w1 ⟨rfl,rfl⟩);go_still_tail 11,(by kernel_rfl)
 change wpList _ _ _ _ _ w.drew;refine wpList_store_row rfl 117 _ _ rfl c (zeroCells (.pointer (some ⟨b,0,none⟩)) (.slice A code.length cc)).toArray rfl rfl 117 _ HB.out (by kernel_rfl) HSZ.out (afb _ _ _ _) ?_;have hb':ay (w.drew.setRow c (zeroCells (.pointer (some ⟨b,0,none⟩)) (.slice A code.length cc)).toArray) c 117 (bM (.pointer (some ⟨b,0,none⟩)) (.slice A code.length cc) (.slice none 0 0) iU):=setRow_heap w.drew c _ _ _ _ HB.out;have hc':ah w (w.drew.setRow c (zeroCells (.pointer (some ⟨b,0,none⟩)) (.slice A code.length cc)).toArray) [c]:=((ah.refl w [c]).drew).trans (KU _ _ _) (fun k hk => .inl hk);generalize w.drew.setRow c (zeroCells (.pointer (some ⟨b,0,none⟩)) (.slice A code.length cc)).toArray = w2 at *;have HB':=hide hb';have HC':=hide hc';clear hb' hc' c0 c1;go_wp2;refine bodyPost_end (results_none rfl _ _ _) rfl ⟨rfl,HC'.out,?_⟩;obtain ⟨n1,n2,n3⟩:=H.out.core.ne;obtain ⟨f1,f2⟩:=H.out.far;have fb:b≠c:=fun e => f1 (by simp [fD,e]);have fr:r≠c:=fun e => f2 (by simp [fD,e])
 exact ⟨⟨HB'.out,aF H.out.core.rQ HC'.out (fun g hg hm => by simp at hm; subst hm; exact n1 hg),World.ownsRow_nil _ _ _ _,by simp [iU]⟩,
  H.out.sN.aj HC'.out (by simpa using fb) (by simpa using fr),
  ⟨H.out.env.tab.aj HC'.out H.out.env.lt (fun hm => H.out.env.far (by simp at hm; simp [fD,hm])),Nat.lt_of_lt_of_le H.out.env.lt HC'.out.size,fun hm => H.out.env.far (by
    simp only [fD,List.mem_append] at hm ⊢;rcases hm with hm | hm | hm
    . exact .inl hm
    . exact .inr (.inl hm)
    . simp [Value.ownBlock] at hm)⟩,H.out.gb,H.out.gr⟩
end
end

section
open Go Go.RowKit Ab Xi
def Ls:List Mk->Bool
 | [] => false
 | k :: l => Nat.ble 1 k.co || Ls l
theorem Uo:∀ {l:List Mk},Ls l = true->∃ k∈l,1<=k.co
 | [],h => by cases h
 | q :: l,h => by
  unfold Ls at h;rw [Bool.or_eq_true] at h;rcases h with h | h
  . exact ⟨q,by simp,aX.1 h⟩
  . obtain ⟨k,hk,hc⟩:=Uo h
    exact ⟨k,by simp [hk],hc⟩
def acT (r:Ab.St):Bool:=match r with
 | .done _ _ _ _ M => Ls M
 | _ => false
theorem acU:acT (Af aK 2921 lZ 908 908 yJ) = true:=by kernel_rfl
theorem ZN:acT uj = true:=acU
theorem Ia:∀ l:List Mk,0<=iE l
 | [] => by simp [iE]
 | k :: l => by have:=Ia l; simp only [iE]; omega
theorem Ur:∀ {l:List Mk} {k:Mk},k∈l->1<=k.co->0 < iE l
 | q :: l,k,hk,hc => by
  have h0:=Ia l;simp only [iE];rcases List.mem_cons.1 hk with rfl | hk
  . omega
  . have:=Ur hk hc
    omega
theorem Ib:0 < iE aW:=by
 have h:=ZN;have hm:aW = Jg uj:=rfl;generalize uj = r at *
 cases r with
 | bad => cases h
 | go _ _ _ _ _ _ => cases h
 | done pc ns mm T M =>
  obtain ⟨k,hk,hc⟩:=Uo (show Ls M = true from h);rw [show aW = M.reverse from hm];exact Ur (List.mem_reverse.2 hk) hc
end
end Go.Proofs.YtbhikopphamgjaaGreatDoor
