/- Texts of this claim, side by side: CoreN, CoreO, CoreP, CoreQ, CoreR, FirmP. -/
import Derived.Test.YtjcgiddgafjdpaaGreatDoorFQ6
import Derived.Test.YtjcgiddgafjdpaaGreatDoorFQ8
import Derived.Laws.Rows
import Derived.Laws.Tables
import Derived.StillTailTactics
/- The core with its memory: what does any instruction of a made program. -/
namespace Go.Proofs.YtjcgiddgafjdpaaGreatDoor
open Go.RowKit Go.Deep Go.Maps Go.Proofs.YtjcgiddgafjdpaaGreatDoor.Ab
set_option linter.unusedVariables false
attribute [local go_sem] Oper.semAt_some
set_option maxRecDepth 100000 in
set_option maxHeartbeats 2000000 in
theorem QM {w:World} {c b r:Nat} {cv mv:Value} {code:List (aI × Bool)} {s s':CS} {ws ws':List Int} (h:CM w c b r cv mv code s ws) (op d a n:Nat) (hop:op = 34∨op = 35) (ha:a < 32)
 (hdo:∀ W,ah w W []→Calls Tryz.prog 177 #[.pointer (some ⟨c,0,none⟩),aX ⟨op,d,a,0,n⟩] W fun e w' => (∃ v,e = .returned v)∧kY s' ws' c b r cv mv code W w') :
 Calls Tryz.prog 107 #[.pointer (some ⟨c,0,none⟩),aX ⟨op,d,a,0,n⟩] w fun e w' => (∃ v,e = .returned v)∧kY s' ws' c b r cv mv code w w':=by
 have H:=hide h
 have nJ:=hide hdo
 have hca:=h.core.blk.cell' (lu h.core.reg a ha)
 have hlt:=h.core.blk.lt
 have ha2:(a:Int) < 32:=by omega
 generalize s.regs.getD a 0 = ra at *
 clear h hdo
 unfold aX at nJ ⊢
 rcases hop with rfl | rfl
 · go_enter Tryz.func107,Tryz.ntmps107
   go_wp2
   go_quiet (fail)
   have hc0:ah w ((w.alloc (.cells #[.int .i64 34,.int .i64 d,.int .i64 a,.int .i64 0,.int .i64 n] 118)).drewN nq) []:=((ah.refl w []).alloc _).drewN nq
   have HB:=hide (nJ.out _ hc0)
   have kF:=hide hc0
   clear hc0
   go_wp2_with fail
   go_at_call 177
   refine HB.out.mono ?_
   rintro e w1 ⟨⟨v,rfl⟩,hp⟩
   have HP:=hide hp
   clear hp HB
   go_wp2
   refine bodyPost_end (results_none rfl _ _ _) rfl ?_
   exact ⟨⟨_,rfl⟩,kY.alloc kF.out HP.out⟩
 · go_enter Tryz.func107,Tryz.ntmps107
   go_wp2
   go_quiet (fail)
   have hc0:ah w ((w.alloc (.cells #[.int .i64 35,.int .i64 d,.int .i64 a,.int .i64 0,.int .i64 n] 118)).drewN nq) []:=((ah.refl w []).alloc _).drewN nq
   have HB:=hide (nJ.out _ hc0)
   have kF:=hide hc0
   clear hc0
   go_wp2_with fail
   go_at_call 177
   refine HB.out.mono ?_
   rintro e w1 ⟨⟨v,rfl⟩,hp⟩
   have HP:=hide hp
   clear hp HB
   go_wp2
   refine bodyPost_end (results_none rfl _ _ _) rfl ?_
   exact ⟨⟨_,rfl⟩,kY.alloc kF.out HP.out⟩
def jo:List Mk→Int
 | [] => 0
 | k :: l => (k.co:Int) + jo l
def xR (k:Mk):Int × Int × Int:=((k.pc:Int),(k.ad:Int) - 1,(k.co:Int))
def fV (m:Ma):CS:=⟨m.rg.map (·.v),(m.pc:Int),(m.st:Int),jo m.ks,m.ks.map xR⟩
def kZ (m:Ma):List Int:=m.mm.map (·.v)
theorem MG (k:Mk):∀ l:List Mk,jo (l ++ [k]) = jo l + (k.co:Int)
 | [] => by simp [jo]
 | x :: l => by simp only [List.cons_append,jo,MG k l]; omega
structure FV (m:Ma):Prop where
 rg:m.rg.length = 32
 pc:m.pc≤65536
 ks:m.ks.length≤1048576
 co:∀ k∈m.ks,k.co≤3
theorem Bz:∀ (l:List Mk),(∀ k∈l,k.co≤3)→0≤jo l∧jo l≤3 * (l.length:Int)
 | [],_ => by simp [jo]
 | k :: l,h => by
  have h1:=Bz l (fun x hx => h x (by simp [hx]))
  have h2:=h k (by simp)
  simp only [jo,List.length_cons]
  omega
def fK (w:Nat):aI :=
 if eX w≤23 then ⟨eX w,dN w,aN w,bN w,0⟩ else if eX w≤30 then ⟨eX w,dN w,aN w,0,0⟩ else if eX w = 43 then ⟨43,0,0,0,0⟩ else ⟨eX w,dN w,aN w,0,nN w⟩
end Go.Proofs.YtjcgiddgafjdpaaGreatDoor

/- The core with its memory: each step is nextM. -/
namespace Go.Proofs.YtjcgiddgafjdpaaGreatDoor
open Go.RowKit Go.Deep Go.Maps Go.Proofs.YtjcgiddgafjdpaaGreatDoor.Ab
set_option linter.unusedVariables false
theorem ajs {x:Int} (h1:-9223372036854775808≤x) (h2:x≤9223372036854775807):wrap64 x = x:=by unfold wrap64; omega
theorem qB {m:Ma} (hok:FV m) (nx:Nat) (k:Mk) (hk:k.pc = m.pc) (hc:k.co≤3) (rg:List Wd) (mm:List Wd) (hst:m.st = 0) :
 qX { fV m with regs:=rg.map (·.v) } (nx:Int) ((k.ad:Int) - 1) (k.co:Int) = fV ⟨rg,mm,nx,0,m.ks ++ [k]⟩:=by
 obtain ⟨b1,b2⟩:=Bz m.ks hok.co
 have hl:=hok.ks
 unfold qX fV
 simp only [MG,List.map_append,List.map_cons,List.map_nil,hst,xR,hk]
 rw [ajs (by omega) (by omega)]
theorem ady (m:Ma):fV m = { fV m with regs:=m.rg.map (·.v) }:=rfl
theorem Ht (m:Ma) (d:Nat) (x:Wd) (hd:d≠0):sH (fV m) d x.v = { fV m with regs:=(m.rg.set d x).map (·.v) }:=by
 unfold sH
 rw [if_neg hd]
 simp [fV,List.map_set]
theorem oz {m:Ma} (hok:FV m) {i:Nat} (hi:i < 32):jV (fV m) i = (m.r i).v:=by
 have hl:=hok.rg
 unfold jV fV Ma.r
 simp only [List.getD_eq_getElem?_getD,List.getElem?_map]
 rw [List.getElem?_eq_getElem (by omega)]
 rfl
theorem zZ {m:Ma} (hok:FV m):wrap64 ((fV m).pc + 1) = ((m.pc + 1:Nat):Int):=by
 have:=hok.pc
 show wrap64 ((m.pc:Int) + 1) = _
 rw [ajs (by omega) (by omega)]
 omega
theorem BA (ad:Nat):oZ ad≤3:=by unfold oZ; cases Nat.blt ad 1024 <;> decide
theorem I_ (op:Nat):mZ op≤3:=by unfold mZ; cases (Nat.blt 17 op && Nat.blt op 22) <;> decide
theorem Vw (ad:Nat):EN ad = ((oZ ad:Nat):Int):=by
 unfold EN oZ
 by_cases h:ad < 1024
 · rw [if_pos h,Xi.aH.2 h]; rfl
 · have : Nat.blt ad 1024 = false := by
    cases e:Nat.blt ad 1024 with
    | false => rfl
    | true => exact absurd (Xi.aH.1 e) h
   rw [if_neg h,this]; rfl
theorem UC:((List.range 31).all fun k => !zy k || decide (pI (k:Int) = ((mZ k:Nat):Int))) = true:=by kernel_rfl
theorem Ya {op:Nat} (h:zy op = true):pI (op:Int) = ((mZ op:Nat):Int):=by
 have h3:=wL h
 have h1:=List.all_eq_true.1 UC op (List.mem_range.2 (by omega))
 rw [h] at h1
 exact of_decide_eq_true (by simpa using h1)
theorem Vx (x y:Wd):iE 24 x y = jc x:=by unfold iE; rfl
theorem Vy (x y:Wd):iE 25 x y = qx x:=by unfold iE; rfl
theorem Vz (x y:Wd):iE 26 x y = qy x:=by unfold iE; rfl
theorem VA (x y:Wd):iE 27 x y = kW 0:=by unfold iE; rfl
theorem VB (x y:Wd):iE 28 x y = yP x:=by unfold iE; rfl
theorem VD (x y:Wd):iE 29 x y = OA x:=by unfold iE; rfl
theorem VE (x y:Wd):iE 30 x y = wI x:=by unfold iE; rfl
theorem adz {op:Nat} (h:zy op = true) (h2:¬ op≤23) (x y z:Wd):iE op x y = iE op x z:=by
 have h3:op≤30:=by
  rcases wL h with rfl | rfl | rfl | rfl | rfl | rfl | rfl | rfl | rfl | rfl | rfl | rfl | rfl | rfl | rfl | rfl | rfl | rfl | rfl | rfl | rfl | rfl | rfl | rfl <;> decide
 match op,h2,h3 with
 | 0,h,_ => exact absurd (by decide) h
 | 1,h,_ => exact absurd (by decide) h
 | 2,h,_ => exact absurd (by decide) h
 | 3,h,_ => exact absurd (by decide) h
 | 4,h,_ => exact absurd (by decide) h
 | 5,h,_ => exact absurd (by decide) h
 | 6,h,_ => exact absurd (by decide) h
 | 7,h,_ => exact absurd (by decide) h
 | 8,h,_ => exact absurd (by decide) h
 | 9,h,_ => exact absurd (by decide) h
 | 10,h,_ => exact absurd (by decide) h
 | 11,h,_ => exact absurd (by decide) h
 | 12,h,_ => exact absurd (by decide) h
 | 13,h,_ => exact absurd (by decide) h
 | 14,h,_ => exact absurd (by decide) h
 | 15,h,_ => exact absurd (by decide) h
 | 16,h,_ => exact absurd (by decide) h
 | 17,h,_ => exact absurd (by decide) h
 | 18,h,_ => exact absurd (by decide) h
 | 19,h,_ => exact absurd (by decide) h
 | 20,h,_ => exact absurd (by decide) h
 | 21,h,_ => exact absurd (by decide) h
 | 22,h,_ => exact absurd (by decide) h
 | 23,h,_ => exact absurd (by decide) h
 | 24,_,_ => exact (Vx x y).trans (Vx x z).symm
 | 25,_,_ => exact (Vy x y).trans (Vy x z).symm
 | 26,_,_ => exact (Vz x y).trans (Vz x z).symm
 | 27,_,_ => exact (VA x y).trans (VA x z).symm
 | 28,_,_ => exact (VB x y).trans (VB x z).symm
 | 29,_,_ => exact (VD x y).trans (VD x z).symm
 | 30,_,_ => exact (VE x y).trans (VE x z).symm
 | _ + 31,_,h => exact absurd h (by omega)
theorem agZ {op:Nat} (h:zy op = true):op≤30∧1≤op∧op≠22∧op≠23:=by
 have:=wL h
 omega
set_option maxHeartbeats 1000000 in
theorem aaH {w:World} {c b r:Nat} {cv mv:Value} {code:List (aI × Bool)} {m m':Ma} (h:CM w c b r cv mv code (fV m) (kZ m)) (hok:FV m) (hst:m.st = 0) (x:Nat) (hn:kM x m = some m') :
 Calls Tryz.prog 107 #[.pointer (some ⟨c,0,none⟩),aX (fK x)] w fun e w' => (∃ v,e = .returned v)∧kY (fV m') (kZ m') c b r cv mv code w w':=by
 have hml:(fV m).marks.length≤2000000:=by
  have:=hok.ks
  show (m.ks.map xR).length≤_
  rw [List.length_map]; omega
 unfold kM at hn
 split at hn
 · -- lw
   rename_i ho
   split at hn
   · rename_i hcnd
     obtain ⟨q1,q2,q3⟩:=hcnd
     injection hn with hn
     subst hn
     have hd:fK x = ⟨((34:Nat):Int),dN x,aN x,0,nN x⟩:=by unfold fK; rw [ho]; rfl
     rw [hd]
     have hv:jV (fV m) (aN x) = (((m.r (aN x)).v.toNat:Nat):Int):=by rw [oz hok (lq x)]; omega
     have hin:(m.r (aN x)).v.toNat + nN x < (kZ m).length:=by simp only [kZ,List.length_map]; omega
     refine QM h 34 (dN x) (aN x) (nN x) (.inl rfl) (lq x) (fun W hc => ?_)
     refine (aar (h.aj hc (fun k _ => by simp) (by simp)) (dN x) (aN x) (nN x) _ (qh x) (lq x) hv hin hml).mono ?_
     rintro e w' ⟨he,hp⟩
     refine ⟨he,?_⟩
     have e1:(kZ m).getD ((m.r (aN x)).v.toNat + nN x) 0 = (m.mm.getD ((m.r (aN x)).v.toNat + nN x) (kW 0)).v:=by
      simp only [kZ,List.getD_eq_getElem?_getD,List.getElem?_map]
      rw [List.getElem?_eq_getElem (by simpa [kZ] using hin)]
      rfl
     have e2:=qB hok (m.pc + 1) ⟨m.pc,(m.r (aN x)).v.toNat + nN x + 1,oZ ((m.r (aN x)).v.toNat + nN x)⟩ rfl (BA _) (m.rg.set (dN x) (m.mm.getD ((m.r (aN x)).v.toNat + nN x) (kW 0))) m.mm hst
     rw [e1,Ht m _ _ q3,zZ hok,Vw] at hp
     rw [show (((m.r (aN x)).v.toNat:Nat):Int) + ((nN x:Nat):Int) = (((m.r (aN x)).v.toNat + nN x + 1:Nat):Int) - 1 by omega] at hp
     rw [e2] at hp
     exact hp
   · cases hn
 split at hn
 · -- sw
   rename_i ho
   split at hn
   · rename_i hcnd
     obtain ⟨q1,q2⟩:=hcnd
     injection hn with hn
     subst hn
     have hd:fK x = ⟨((35:Nat):Int),dN x,aN x,0,nN x⟩:=by unfold fK; rw [ho]; rfl
     rw [hd]
     have hv:jV (fV m) (aN x) = (((m.r (aN x)).v.toNat:Nat):Int):=by rw [oz hok (lq x)]; omega
     have hin:(m.r (aN x)).v.toNat + nN x < (kZ m).length:=by simp only [kZ,List.length_map]; omega
     refine QM h 35 (dN x) (aN x) (nN x) (.inr rfl) (lq x) (fun W hc => ?_)
     refine (aas (h.aj hc (fun k _ => by simp) (by simp)) (dN x) (aN x) (nN x) _ (qh x) (lq x) hv hin hml).mono ?_
     rintro e w' ⟨he,hp⟩
     refine ⟨he,?_⟩
     have e1:(kZ m).set ((m.r (aN x)).v.toNat + nN x) (jV (fV m) (dN x)) = kZ ⟨m.rg,m.mm.set ((m.r (aN x)).v.toNat + nN x) (m.r (dN x)),m.pc + 1,0,m.ks ++ [⟨m.pc,(m.r (aN x)).v.toNat + nN x + 1,oZ ((m.r (aN x)).v.toNat + nN x)⟩]⟩:=by
      rw [oz hok (qh x)]
      simp [kZ,List.map_set]
     have e2:=qB hok (m.pc + 1) ⟨m.pc,(m.r (aN x)).v.toNat + nN x + 1,oZ ((m.r (aN x)).v.toNat + nN x)⟩ rfl (BA _) m.rg (m.mm.set ((m.r (aN x)).v.toNat + nN x) (m.r (dN x))) hst
     rw [e1,zZ hok,Vw,show (((m.r (aN x)).v.toNat:Nat):Int) + ((nN x:Nat):Int) = (((m.r (aN x)).v.toNat + nN x + 1:Nat):Int) - 1 by omega,ady m,e2] at hp
     exact hp
   · cases hn
 split at hn
 · -- addi
   rename_i ho
   split at hn
   · rename_i hcnd
     obtain ⟨q1,q2,q3⟩:=hcnd
     injection hn with hn
     subst hn
     have hd:fK x = ⟨31,dN x,aN x,0,nN x⟩:=by unfold fK; rw [ho]; rfl
     rw [hd]
     refine (ZO h.core (dN x) (aN x) (nN x) (qh x) (lq x) (by omega) (by omega) hml).mono ?_
     rintro e w' ⟨he,hp⟩
     refine ⟨he,?_⟩
     have hp:=h.sW hp
     have e2:=qB hok (m.pc + 1) ⟨m.pc,0,1⟩ rfl (show 1≤3 by decide) (m.rg.set (dN x) (kW ((m.r (aN x)).v + nN x))) m.mm hst
     rw [oz hok (lq x),show wrap32 ((m.r (aN x)).v + ((nN x:Nat):Int)) = (kW ((m.r (aN x)).v + nN x)).v from rfl,Ht m _ _ q3] at hp
     unfold Py at hp
     rw [show wrap64 (({ fV m with regs:=(m.rg.set (dN x) (kW ((m.r (aN x)).v + nN x))).map (·.v) }:CS).pc + 1) = ((m.pc + 1:Nat):Int) from zZ hok] at hp
     exact e2 ▸ hp
   · cases hn
 split at hn
 · -- blt
   rename_i ho
   have hd:fK x = ⟨38,dN x,aN x,0,nN x⟩:=by unfold fK; rw [ho]; rfl
   rw [hd]
   refine (adq h.core (dN x) (aN x) (nN x) (qh x) (lq x) hml).mono ?_
   rintro e w' ⟨he,hp⟩
   refine ⟨he,?_⟩
   have hp:=h.sW hp
   rw [oz hok (lq x),oz hok (qh x)] at hp
   split at hn
   · rename_i hlt
     injection hn with hn
     subst hn
     have e2:=qB hok (nN x) ⟨m.pc,0,3⟩ rfl (show 3≤3 by decide) m.rg m.mm hst
     unfold zM at hp
     rw [decide_eq_true hlt,if_pos rfl] at hp
     exact e2 ▸ hp
   · rename_i hlt
     injection hn with hn
     subst hn
     have e2:=qB hok (m.pc + 1) ⟨m.pc,0,1⟩ rfl (show 1≤3 by decide) m.rg m.mm hst
     unfold zM Py at hp
     rw [decide_eq_false hlt,if_neg (by decide),zZ hok] at hp
     exact e2 ▸ hp
 split at hn
 · -- halt
   rename_i ho
   have hd:fK x = ⟨43,0,0,0,0⟩:=by unfold fK; rw [ho]; rfl
   rw [hd]
   injection hn with hn
   subst hn
   refine (aap h.core hml h.env.tab h.env.lt).mono ?_
   rintro e w' ⟨he,hp⟩
   refine ⟨he,?_⟩
   have hp:=h.sW hp
   have e2:=qB hok m.pc ⟨m.pc,0,1⟩ rfl (show 1≤3 by decide) m.rg m.mm hst
   have e3:I8 (fV m) = fV ⟨m.rg,m.mm,m.pc,1,m.ks ++ [⟨m.pc,0,1⟩]⟩:=by
    unfold I8
    have e4:qX (fV m) (fV m).pc (-1) 1 = fV ⟨m.rg,m.mm,m.pc,0,m.ks ++ [⟨m.pc,0,1⟩]⟩:=e2
    rw [e4]
    rfl
   rw [e3] at hp
   exact hp
 split at hn
 · -- alu
   rename_i hcnd
   obtain ⟨ha,hd0⟩:=hcnd
   injection hn with hn
   subst hn
   obtain ⟨l1,l2,l3,l4⟩:=agZ ha
   have key:∀ (bb:Nat) (hb:bb < 32) (hy:iE (eX x) (m.r (aN x)) (m.r bb) = iE (eX x) (m.r (aN x)) (m.r (bN x))),
    Calls Tryz.prog 107 #[.pointer (some ⟨c,0,none⟩),aX ⟨((eX x:Nat):Int),dN x,aN x,bb,0⟩] w fun e w' => (∃ v,e = .returned v)∧kY (fV (m.put (dN x) (iE (eX x) (m.r (aN x)) (m.r (bN x))) (m.pc + 1) ⟨m.pc,0,mZ (eX x)⟩)) (kZ m) c b r cv mv code w w':=by
    intro bb hb hy
    refine (ado h.core (eX x) (iE (eX x) (m.r (aN x)) (m.r bb)).v (mZ (eX x)) (dN x) (aN x) bb (by omega) (qh x) (lq x) hb hml (fun W => ?_) (fun W hc => ?_) h.env.tab h.env.lt h.env.far).mono ?_
    · rw [oz hok (lq x),oz hok hb]
      exact ajr (eX x) ha _ _ W
    · rw [← Ya ha]
      exact NQ (eX x) _ W hc (by omega) (by omega)
    · rintro e w' ⟨he,hp⟩
      refine ⟨he,?_⟩
      have hp:=h.sW hp
      have e2:=qB hok (m.pc + 1) ⟨m.pc,0,mZ (eX x)⟩ rfl (I_ _) (m.rg.set (dN x) (iE (eX x) (m.r (aN x)) (m.r (bN x)))) m.mm hst
      rw [hy,Ht m _ _ hd0] at hp
      unfold Py at hp
      rw [show wrap64 (({ fV m with regs:=(m.rg.set (dN x) (iE (eX x) (m.r (aN x)) (m.r (bN x)))).map (·.v) }:CS).pc + 1) = ((m.pc + 1:Nat):Int) from zZ hok] at hp
      exact e2 ▸ hp
   by_cases h23:eX x≤23
   · have hd:fK x = ⟨((eX x:Nat):Int),dN x,aN x,bN x,0⟩:=by unfold fK; rw [if_pos h23]
     rw [hd]
     exact key (bN x) (afz x) rfl
   · have hd:fK x = ⟨((eX x:Nat):Int),dN x,aN x,((0:Nat):Int),0⟩:=by unfold fK; rw [if_neg h23,if_pos l1]; rfl
     rw [hd]
     exact key 0 (by decide) (adz ha h23 _ _ _)
 · cases hn
end Go.Proofs.YtjcgiddgafjdpaaGreatDoor

/- The core with its memory: Step, Run, of a made program. -/
namespace Go.Proofs.YtjcgiddgafjdpaaGreatDoor
open Go.RowKit Go.Deep Go.Maps Go.Proofs.YtjcgiddgafjdpaaGreatDoor.Ab
set_option linter.unusedVariables false
attribute [local go_sem] Oper.semAt_some
def rowsOf (words:List Nat):List (aI × Bool):=words.map fun w => (fK w,true)
theorem step_next {w:World} {c b r:Nat} {cv mv:Value} {words:List Nat} {m m':Ma} (h:CM w c b r cv mv (rowsOf words) (fV m) (kZ m)) (hok:FV m) (hn:Nx words m m') (hl:words.length≤100000) :
 Calls Tryz.prog 58 #[.pointer (some ⟨c,0,none⟩)] w fun e w' => e = .returned (.bool true)∧kY (fV m') (kZ m') c b r cv mv (rowsOf words) w w':=by
 obtain ⟨hst,x,hx,hn⟩:=hn
 refine XG (Q:=fun w w' => kY (fV m') (kZ m') c b r cv mv (rowsOf words) w w') (fun _ _ _ hc hp => kY.alloc hc hp) h.core m.pc rfl (fK x) ?_ (by show ((m.st:Nat):Int) = 0; rw [hst]; rfl) (by simpa [rowsOf] using hl) (fun W hc => ?_)
 · simp [rowsOf,hx]
 · exact aaH (h.aj hc (fun k _ => by simp) (by simp)) hok hst x hn
theorem adA {m m':Ma} {x:Nat} (hok:FV m) (hn:kM x m = some m'):m'.rg.length = 32∧m'.pc≤65537∧m'.ks.length = m.ks.length + 1∧(∀ k∈m'.ks,k.co≤3)∧m'.mm.length = m.mm.length:=by
 have hco:∀ (k:Mk),k.co≤3→∀ y∈m.ks ++ [k],y.co≤3:=fun k hk y hy => by
  rcases List.mem_append.1 hy with h | h
  · exact hok.co y h
  · simp at h; subst h; exact hk
 have hp:=hok.pc
 have hr:=hok.rg
 have hN:=am3 x
 unfold kM at hn
 split at hn
 · split at hn
   · injection hn with hn
     subst hn
     exact ⟨by simp [Ma.put,hr],by show m.pc + 1≤_; omega,by simp [Ma.put],hco _ (BA _),rfl⟩
   · cases hn
 split at hn
 · split at hn
   · injection hn with hn
     subst hn
     exact ⟨hr,by show m.pc + 1≤_; omega,by simp,hco _ (BA _),by simp⟩
   · cases hn
 split at hn
 · split at hn
   · injection hn with hn
     subst hn
     exact ⟨by simp [Ma.put,hr],by show m.pc + 1≤_; omega,by simp [Ma.put],hco _ (show 1≤3 by decide),rfl⟩
   · cases hn
 split at hn
 · split at hn
   · injection hn with hn
     subst hn
     exact ⟨hr,by show nN x≤_; omega,by simp,hco _ (show 3≤3 by decide),rfl⟩
   · injection hn with hn
     subst hn
     exact ⟨hr,by show m.pc + 1≤_; omega,by simp,hco _ (show 1≤3 by decide),rfl⟩
 split at hn
 · injection hn with hn
   subst hn
   exact ⟨hr,by show m.pc≤_; omega,by simp,hco _ (show 1≤3 by decide),rfl⟩
 split at hn
 · injection hn with hn
   subst hn
   exact ⟨by simp [Ma.put,hr],by show m.pc + 1≤_; omega,by simp [Ma.put],hco _ (I_ _),rfl⟩
 · cases hn
theorem MH {X:Type} {nx:X→X→Prop}:∀ {n:Nat} {x y:X},Ab.Reach nx n x y→∃ it:Nat→X,it 0 = x∧it n = y∧∀ j,j < n→nx (it j) (it (j + 1))
 | _,x,_,.nil _ => ⟨fun _ => x,rfl,rfl,fun j hj => by omega⟩
 | _,x,z,.cons (n:=n) h h1 => by
  obtain ⟨it,i0,iN,is⟩:=MH h1
  refine ⟨fun j => match j with | 0 => x | j + 1 => it j,rfl,iN,fun j hj => ?_⟩
  cases j with
  | zero => show nx x (it 0); rw [i0]; exact h
  | succ j => exact is j (by omega)
theorem seq_ok {words:List Nat} (hl:words.length≤60000) {it:Nat→Ma} {n:Nat} (hn:n≤1048000) (h0:FV (it 0)) (hk:(it 0).ks.length = 0) (h:∀ j,j < n→Nx words (it j) (it (j + 1))):∀ j,j < n→FV (it j)∧(it j).ks.length = j
 | 0,hj => ⟨h0,hk⟩
 | j + 1,hj => by
  obtain ⟨ih,ik⟩:=seq_ok hl hn h0 hk h j (by omega)
  obtain ⟨_,x,hx,hnx⟩:=h j (by omega)
  obtain ⟨a1,a2,a3,a4,_⟩:=adA ih hnx
  obtain ⟨_,y,hy,_⟩:=h (j + 1) hj
  have hpc:=(List.getElem?_eq_some_iff.1 hy).1
  exact ⟨⟨a1,by omega,by omega,a4⟩,by omega⟩
set_option maxRecDepth 100000 in
set_option maxHeartbeats 1000000 in
theorem adB {w:World} {c b r:Nat} {cv mv:Value} {words:List Nat} {m m':Ma} {N fuel:Nat} (h:CM w c b r cv mv (rowsOf words) (fV m) (kZ m)) (hok:FV m) (hk0:m.ks.length = 0) (hr:Ab.Reach (Nx words) N m m') (hend:m'.st = 1) (hl:words.length≤60000) (hN:N≤1048000) (hf:fuel≤1048576) (hNf:N < fuel) :
 Calls Tryz.prog 27 #[.pointer (some ⟨c,0,none⟩),.int .i64 fuel] w fun e w' => e = .returned (.int .i64 N)∧kY (fV m') (kZ m') c b r cv mv (rowsOf words) w w':=by
 obtain ⟨it,i0,iN,is⟩:=MH hr
 have ajt:=seq_ok hl hN (by rw [i0]; exact hok) (by rw [i0]; exact hk0) is
 have H:Hid (kY (fV (it 0)) (kZ (it 0)) c b r cv mv (rowsOf words) w w):=hide ⟨ah.refl _ _,mv,.inl rfl,by rw [i0]; exact h⟩
 have HIS:=hide is
 have HOK:=hide ajt
 have HIN:=hide iN
 have HE:Hid ((fV (it N)).st≠0):=hide (by rw [iN]; show ((m'.st:Nat):Int)≠0; rw [hend]; decide)
 have hl2:words.length≤100000:=by omega
 clear h hok hk0 hr hend i0 iN is ajt
 have hmin:min (fuel:Int) 1048576 = fuel:=by omega
 go_enter Tryz.func27,Tryz.ntmps27
 go_wp2
 go_loopw [5] (fun i wr => ∃ j:Nat,j≤N∧i = .int .i64 j∧Hid (kY (fV (it j)) (kZ (it j)) c b r cv mv (rowsOf words) w wr)) (fun i _ => N + 1 - (intOf i).toNat)
 case atStart => exact ⟨0,Nat.zero_le _,rfl,H⟩
 case round =>
  obtain ⟨j,hj,rfl,HC⟩:=hrel
  obtain ⟨hc,mv',hmv,hb⟩:=HC.out
  have hjf:decide ((j:Int) < (fuel:Int)) = true:=by simp; omega
  by_cases hlt:j < N
  · have hsg:=step_next hb (HOK.out j hlt).1 (HIS.out j hlt) hl2
    have HSG:=hide hsg
    have HX:=hide hc
    have HV:=hide hmv
    clear hsg hc hmv hb
    go_wp2_with fail
    go_at_call 58
    refine HSG.out.mono ?_
    rintro e w1 ⟨rfl,hp⟩
    have HN:Hid (kY (fV (it (j + 1))) (kZ (it (j + 1))) c b r cv mv (rowsOf words) w w1):=hide (kY.step HX.out HV.out hp)
    clear hp HSG
    go_wp2
    go_roundw
    case rel => exact ⟨j + 1,by omega,by go_num,HN⟩
    case measure => simp [intOf]; omega
  · obtain rfl:j = N:=by omega
    have hss:=XF hb.core HE.out
    clear hc hmv hb
    go_wp2_with fail
    go_at_call 58
    refine hss.mono ?_
    rintro e w1 ⟨rfl,rfl⟩
    go_wp2
    go_ret
    rw [HIN.out] at HC
    exact ⟨rfl,HC.out⟩
end Go.Proofs.YtjcgiddgafjdpaaGreatDoor

/- The core: Poke, Load, Cycles, Begin. -/
namespace Go.Proofs.YtjcgiddgafjdpaaGreatDoor
open Go Go.RowKit Go.Deep Go.Maps
set_option linter.unusedVariables false
attribute [local go_sem] Oper.semAt_some
set_option maxRecDepth 100000 in
theorem DC (a:Nat) (ha:a < 2048) (w:World):Calls Tryz.prog 56 #[.int .i64 (a:Int)] w fun e w' => e = .returned (.bool true)∧w = w':=by
 have x1:decide ((a:Int) < 0) = false:=decide_eq_false (by omega)
 have x2:decide ((0:Int)≤(a:Int)) = true:=decide_eq_true (by omega)
 have x3:decide ((a:Int) < 2048) = true:=decide_eq_true (by omega)
 go_enter Tryz.func56,Tryz.ntmps56
 go_wp2
 go_ret
 exact ⟨rfl,rfl⟩
section
variable {w:World} {c b r:Nat} {cv mv:Value} {code:List (aI × Bool)} {s:CS} {ws:List Int}
theorem CM.am4 {w':World} {ws':List Int} (h:CM w c b r cv mv code s ws) (hc:ah w w' [r]) (hr:nK w' b r ws'):CM w' c b r cv mv code s ws' :=
 ⟨h.core.aj hc (fun k hk hm => h.far.2 (by simp at hm; exact hm ▸ hk)),hr,⟨h.env.tab.aj hc h.env.lt (by simpa using h.gr),Nat.lt_of_lt_of_le h.env.lt hc.size,h.env.far⟩,h.gb,h.gr⟩
set_option maxRecDepth 100000 in
theorem Yb (h:CM w c b r cv mv code s ws) (a:Nat) (x:Int) (ha:a < ws.length) :
 Calls Tryz.prog 25 #[.pointer (some ⟨c,0,none⟩),.int .i64 (a:Int),.int .i32 x] w fun e w' => e = .returned (.bool true)∧ah w w' [r]∧CM w' c b r cv mv code s (ws.set a x):=by
 have hn:=h.vK.n
 have hl:=jD h.core
 have hwi:=DC a (by omega)
 have hst:=MC b r ws (a:Int) x w h.vK (by omega) (by omega)
 rw [show inB ws (a:Int) = true from decide_eq_true ⟨by omega,by omega⟩,show st ws (a:Int) x = ws.set a x by unfold st; rw [if_pos ⟨by omega,by omega⟩]; rfl] at hst
 have c0:=h.core.blk.cell' (i:=0) rfl
 have hw:IntKind.i32.wrap (a:Int) = (a:Int):=by rw [IntKind.wrap_i32]; omega
 have H:=hide h
 clear h
 go_enter Tryz.func25,Tryz.ntmps25
 go_wp2_with fail
 go_at_call 55
 refine hl.mono ?_
 rintro e w1 ⟨rfl,rfl⟩
 go_wp2_with fail
 go_at_call 56
 refine (hwi _).mono ?_
 rintro e w1 ⟨rfl,rfl⟩
 go_wp2_with fail
 go_at_call 57
 refine hst.mono ?_
 rintro e w1 ⟨rfl,hr,hc⟩
 have HR:=hide hr
 have HC:=hide hc
 clear hr hc hst hl
 go_wp2
 go_ret
 exact ⟨rfl,HC.out,H.out.am4 HC.out HR.out⟩
set_option maxRecDepth 100000 in
theorem UD (h:CM w c b r cv mv code s ws) (a:Nat) (x:Int) (ha:ws[a]? = some x) :
 Calls Tryz.prog 28 #[.pointer (some ⟨c,0,none⟩),.int .i64 (a:Int)] w fun e w' => e = .returned (.tuple #[.int .i32 x,.bool true])∧ah w w' []:=by
 have hal:=(List.getElem?_eq_some_iff.1 ha).1
 have hn:=h.vK.n
 have hl:=jD h.core
 have hwi:=DC a (by omega)
 have hst:=Hf b r ws (a:Int) w h.vK (by omega) (by omega)
 rw [show inB ws (a:Int) = true from decide_eq_true ⟨by omega,by omega⟩,show ld ws (a:Int) = x by unfold ld; rw [if_pos ⟨by omega,by omega⟩]; simp [List.getD,ha]] at hst
 have c0:=h.core.blk.cell' (i:=0) rfl
 have hw:IntKind.i32.wrap (a:Int) = (a:Int):=by rw [IntKind.wrap_i32]; omega
 clear h
 go_enter Tryz.func28,Tryz.ntmps28
 go_wp2_with fail
 go_at_call 55
 refine hl.mono ?_
 rintro e w1 ⟨rfl,rfl⟩
 go_wp2_with fail
 go_at_call 56
 refine (hwi _).mono ?_
 rintro e w1 ⟨rfl,rfl⟩
 go_wp2_with fail
 go_at_call 59
 refine hst.mono ?_
 rintro e w1 ⟨rfl,hc⟩
 have HC:=hide hc
 clear hc hst hl
 go_wp2
 go_ret2
 exact ⟨rfl,HC.out⟩
set_option maxRecDepth 100000 in
theorem NS {bp:Addr} (h:CB w c (.pointer (some bp)) cv mv code s):Calls Tryz.prog 24 #[.pointer (some ⟨c,0,none⟩)] w fun e w' => e = .returned (.int .i64 s.cost)∧w = w':=by
 have hl:=jD h
 have c36:=h.blk.cell' (@lg _ cv mv s h.reg).2.2.1
 clear h
 go_enter Tryz.func24,Tryz.ntmps24
 go_wp2_with (go_at_call 55; refine hl.mono ?_; rintro e w1 ⟨rfl,rfl⟩)
 go_ret
 exact ⟨rfl,rfl⟩
end
end Go.Proofs.YtjcgiddgafjdpaaGreatDoor

/- The core: Begin, Marks. -/
namespace Go.Proofs.YtjcgiddgafjdpaaGreatDoor
open Go Go.RowKit Go.Deep Go.Maps
set_option linter.unusedVariables false
attribute [local go_sem] Oper.semAt_some
theorem adD (bb:Addr) (A:Option Addr) (n c:Nat):(zeroCells (.pointer (some bb)) (.slice A n c)).toArray.all (·.oneCell') = true:=by
 rw [List.all_toArray]
 cases A <;> rfl
theorem Ja (w:World) (g:Nat) (cs:Array Value):ah w (w.setRow g cs) [g] :=
 ⟨rfl,rfl,rfl,by simp [World.setRow],fun k hk hn => setRow_other w g k cs (fun e => hn (by simp [e]))⟩
section
variable {w:World} {c b r:Nat} {cv mv:Value} {code:List (aI × Bool)} {s:CS} {ws:List Int}
set_option maxRecDepth 100000 in
set_option maxHeartbeats 1000000 in
theorem UJ (h:CM w c b r cv mv code s ws) :
 Calls Tryz.prog 26 #[.pointer (some ⟨c,0,none⟩)] w fun e w' => e = .returned (.tuple #[])∧ah w w' [c]∧CM w' c b r cv (.slice none 0 0) code qC ws:=by
 have hl:=jD h.core
 have H:=hide h
 obtain ⟨A,cc,hcv⟩:=aO h.core.qW
 subst hcv
 have c0:=h.core.blk.cell' (i:=0) rfl
 have c1:=h.core.blk.cell' (i:=1) rfl
 have hlt:=h.core.blk.lt
 have hblk:=h.core.blk.drew
 have hsz:(bG (.pointer (some ⟨b,0,none⟩)) (.slice A code.length cc) mv s).toArray.size = (zeroCells (.pointer (some ⟨b,0,none⟩)) (.slice A code.length cc)).toArray.size:=by
  simp [bG,zeroCells,qC,h.core.reg]
 have HB:=hide hblk
 have HSZ:=hide hsz
 clear h hblk hsz
 go_enter Tryz.func26,Tryz.ntmps26
 go_wp2_with (go_at_call 55; refine hl.mono ?_; rintro e w1 ⟨rfl,rfl⟩)
 go_still_tail 11,(by kernel_rfl)
 change wpList _ _ _ _ _ w.drew
 refine wpList_store_row rfl 115 _ _ rfl c (zeroCells (.pointer (some ⟨b,0,none⟩)) (.slice A code.length cc)).toArray rfl rfl 115 _ HB.out (by kernel_rfl) HSZ.out (adD _ _ _ _) ?_
 have hb':aC (w.drew.setRow c (zeroCells (.pointer (some ⟨b,0,none⟩)) (.slice A code.length cc)).toArray) c 115 (bG (.pointer (some ⟨b,0,none⟩)) (.slice A code.length cc) (.slice none 0 0) qC):=setRow_heap w.drew c _ _ _ _ HB.out
 have hc':ah w (w.drew.setRow c (zeroCells (.pointer (some ⟨b,0,none⟩)) (.slice A code.length cc)).toArray) [c]:=((ah.refl w [c]).drew).trans (Ja _ _ _) (fun k hk => .inl hk)
 generalize w.drew.setRow c (zeroCells (.pointer (some ⟨b,0,none⟩)) (.slice A code.length cc)).toArray = w2 at *
 have HB':=hide hb'
 have HC':=hide hc'
 clear hb' hc' c0 c1
 go_wp2
 refine bodyPost_end (results_none rfl _ _ _) rfl ⟨rfl,HC'.out,?_⟩
 obtain ⟨n1,n2,n3⟩:=H.out.core.ne
 obtain ⟨f1,f2⟩:=H.out.far
 have fb:b≠c:=fun e => f1 (by simp [dS,e])
 have fr:r≠c:=fun e => f2 (by simp [dS,e])
 exact ⟨⟨HB'.out,aF H.out.core.qW HC'.out (fun g hg hm => by simp at hm; subst hm; exact n1 hg),World.ownsRow_nil _ _ _ _,by simp [qC]⟩,
  H.out.vK.aj HC'.out (by simpa using fb) (by simpa using fr),
  ⟨H.out.env.tab.aj HC'.out H.out.env.lt (fun hm => H.out.env.far (by simp at hm; simp [dS,hm])),Nat.lt_of_lt_of_le H.out.env.lt HC'.out.size,fun hm => H.out.env.far (by
    simp only [dS,List.mem_append] at hm ⊢
    rcases hm with hm | hm | hm
    · exact .inl hm
    · exact .inr (.inl hm)
    · simp [Value.ownBlock] at hm)⟩,H.out.gb,H.out.gr⟩
end
end Go.Proofs.YtjcgiddgafjdpaaGreatDoor

/- The filter costs something. -/
namespace Go.Proofs.YtjcgiddgafjdpaaGreatDoor
open Go Go.RowKit Go.Proofs.YtjcgiddgafjdpaaGreatDoor.Ab Go.Proofs.YtjcgiddgafjdpaaGreatDoor.Xi
set_option linter.unusedVariables false
def JY:List Mk→Bool
 | [] => false
 | k :: l => Nat.ble 1 k.co || JY l
theorem Ua:∀ {l:List Mk},JY l = true→∃ k∈l,1≤k.co
 | [],h => by cases h
 | q :: l,h => by
  unfold JY at h
  rw [Bool.or_eq_true] at h
  rcases h with h | h
  · exact ⟨q,by simp,aY.1 h⟩
  · obtain ⟨k,hk,hc⟩:=Ua h
    exact ⟨k,by simp [hk],hc⟩
def acr (r:Ab.St):Bool:=match r with
 | .done _ _ _ _ M => JY M
 | _ => false
set_option maxRecDepth 100000 in
theorem acs:acr (zD aK 2921 lN 908 908 yt) = true:=by kernel_rfl
theorem Zq:acr tY = true:=acs
theorem Gq:∀ l:List Mk,0≤jo l
 | [] => by simp [jo]
 | k :: l => by have:=Gq l; simp only [jo]; omega
theorem Ub:∀ {l:List Mk} {k:Mk},k∈l→1≤k.co→0 < jo l
 | q :: l,k,hk,hc => by
  have h0:=Gq l
  simp only [jo]
  rcases List.mem_cons.1 hk with rfl | hk
  · omega
  · have:=Ub hk hc
    omega
theorem U_:0 < jo bV:=by
 have h:=Zq
 have hm:bV = H7 tY:=rfl
 generalize tY = r at *
 cases r with
 | bad => cases h
 | go _ _ _ _ _ _ => cases h
 | done pc ns mm T M =>
  obtain ⟨k,hk,hc⟩:=Ua (show JY M = true from h)
  rw [show bV = M.reverse from hm]
  exact Ub (List.mem_reverse.2 hk) hc
end Go.Proofs.YtjcgiddgafjdpaaGreatDoor
