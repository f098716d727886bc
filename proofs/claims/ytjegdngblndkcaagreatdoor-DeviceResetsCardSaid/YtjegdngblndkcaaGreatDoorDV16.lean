/- Texts of this claim, side by side: CoreN, CoreO, CoreP, CoreQ, CoreR, FirmP. -/
import Derived.Test.YtjegdngblndkcaaGreatDoorDV15
import Derived.Test.YtjegdngblndkcaaGreatDoorDV13
import Derived.Laws.Rows
import Derived.Laws.Tables
import Derived.StillTailTactics
/- The core with its memory: what does any instruction of a made program. -/
namespace Go.Proofs.YtjegdngblndkcaaGreatDoor
open Go.RowKit Go.Deep Go.Maps Go.Proofs.YtjegdngblndkcaaGreatDoor.Ab
set_option linter.unusedVariables false
attribute [local go_sem] Oper.semAt_some
set_option maxRecDepth 100000 in
set_option maxHeartbeats 2000000 in
theorem RD {w:World} {c b r:Nat} {cv mv:Value} {code:List (aK × Bool)} {s s':CS} {ws ws':List Int} (h:CM w c b r cv mv code s ws) (op d a n:Nat) (hop:op = 34∨op = 35) (ha:a < 32)
 (hdo:∀ W,ah w W []→Calls Tryz.prog 173 #[.pointer (some ⟨c,0,none⟩),aW ⟨op,d,a,0,n⟩] W fun e w' => (∃ v,e = .returned v)∧kV s' ws' c b r cv mv code W w') :
 Calls Tryz.prog 130 #[.pointer (some ⟨c,0,none⟩),aW ⟨op,d,a,0,n⟩] w fun e w' => (∃ v,e = .returned v)∧kV s' ws' c b r cv mv code w w':=by
 have H:=hide h
 have lC:=hide hdo
 have hca:=h.core.blk.cell' (lI h.core.reg a ha)
 have hlt:=h.core.blk.lt
 have ha2:(a:Int) < 32:=by omega
 generalize s.regs.getD a 0 = ra at *
 clear h hdo
 unfold aW at lC ⊢
 rcases hop with rfl | rfl
 · go_enter Tryz.func130,Tryz.ntmps130
   go_wp2
   go_quiet (fail)
   have hc0:ah w ((w.alloc (.cells #[.int .i64 34,.int .i64 d,.int .i64 a,.int .i64 0,.int .i64 n] 134)).drewN nq) []:=((ah.refl w []).alloc _).drewN nq
   have HB:=hide (lC.out _ hc0)
   have kF:=hide hc0
   clear hc0
   go_wp2_with fail
   go_at_call 173
   refine HB.out.mono ?_
   rintro e w1 ⟨⟨v,rfl⟩,hp⟩
   have HP:=hide hp
   clear hp HB
   go_wp2
   refine bodyPost_end (results_none rfl _ _ _) rfl ?_
   exact ⟨⟨_,rfl⟩,kV.alloc kF.out HP.out⟩
 · go_enter Tryz.func130,Tryz.ntmps130
   go_wp2
   go_quiet (fail)
   have hc0:ah w ((w.alloc (.cells #[.int .i64 35,.int .i64 d,.int .i64 a,.int .i64 0,.int .i64 n] 134)).drewN nq) []:=((ah.refl w []).alloc _).drewN nq
   have HB:=hide (lC.out _ hc0)
   have kF:=hide hc0
   clear hc0
   go_wp2_with fail
   go_at_call 173
   refine HB.out.mono ?_
   rintro e w1 ⟨⟨v,rfl⟩,hp⟩
   have HP:=hide hp
   clear hp HB
   go_wp2
   refine bodyPost_end (results_none rfl _ _ _) rfl ?_
   exact ⟨⟨_,rfl⟩,kV.alloc kF.out HP.out⟩
def h_:List Mk→Int
 | [] => 0
 | k :: l => (k.co:Int) + h_ l
def vJ (k:Mk):Int × Int × Int:=((k.pc:Int),(k.ad:Int) - 1,(k.co:Int))
def gK (m:Ma):CS:=⟨m.rg.map (·.v),(m.pc:Int),(m.st:Int),h_ m.ks,m.ks.map vJ⟩
def lN (m:Ma):List Int:=m.mm.map (·.v)
theorem Ee (k:Mk):∀ l:List Mk,h_ (l ++ [k]) = h_ l + (k.co:Int)
 | [] => by simp [h_]
 | x :: l => by simp only [List.cons_append,h_,Ee k l]; omega
structure Gv (m:Ma):Prop where
 rg:m.rg.length = 32
 pc:m.pc≤65536
 ks:m.ks.length≤1048576
 co:∀ k∈m.ks,k.co≤3
theorem wM:∀ (l:List Mk),(∀ k∈l,k.co≤3)→0≤h_ l∧h_ l≤3 * (l.length:Int)
 | [],_ => by simp [h_]
 | k :: l,h => by
  have h1:=wM l (fun x hx => h x (by simp [hx]))
  have h2:=h k (by simp)
  simp only [h_,List.length_cons]
  omega
def fG (w:Nat):aK :=
 if eP w≤23 then ⟨eP w,dN w,aN w,bN w,0⟩ else if eP w≤30 then ⟨eP w,dN w,aN w,0,0⟩ else if eP w = 43 then ⟨43,0,0,0,0⟩ else ⟨eP w,dN w,aN w,0,nN w⟩
end Go.Proofs.YtjegdngblndkcaaGreatDoor

/- The core with its memory: each step is nextM. -/
namespace Go.Proofs.YtjegdngblndkcaaGreatDoor
open Go.RowKit Go.Deep Go.Maps Go.Proofs.YtjegdngblndkcaaGreatDoor.Ab
set_option linter.unusedVariables false
theorem ajN {x:Int} (h1:-9223372036854775808≤x) (h2:x≤9223372036854775807):wrap64 x = x:=by unfold wrap64; omega
theorem qp {m:Ma} (hok:Gv m) (nx:Nat) (k:Mk) (hk:k.pc = m.pc) (hc:k.co≤3) (rg:List Wd) (mm:List Wd) (hst:m.st = 0) :
 qZ { gK m with regs:=rg.map (·.v) } (nx:Int) ((k.ad:Int) - 1) (k.co:Int) = gK ⟨rg,mm,nx,0,m.ks ++ [k]⟩:=by
 obtain ⟨b1,b2⟩:=wM m.ks hok.co
 have hl:=hok.ks
 unfold qZ gK
 simp only [Ee,List.map_append,List.map_cons,List.map_nil,hst,vJ,hk]
 rw [ajN (by omega) (by omega)]
theorem adF (m:Ma):gK m = { gK m with regs:=m.rg.map (·.v) }:=rfl
theorem Ii (m:Ma) (d:Nat) (x:Wd) (hd:d≠0):tu (gK m) d x.v = { gK m with regs:=(m.rg.set d x).map (·.v) }:=by
 unfold tu
 rw [if_neg hd]
 simp [gK,List.map_set]
theorem oG {m:Ma} (hok:Gv m) {i:Nat} (hi:i < 32):jS (gK m) i = (m.r i).v:=by
 have hl:=hok.rg
 unfold jS gK Ma.r
 simp only [List.getD_eq_getElem?_getD,List.getElem?_map]
 rw [List.getElem?_eq_getElem (by omega)]
 rfl
theorem Aq {m:Ma} (hok:Gv m):wrap64 ((gK m).pc + 1) = ((m.pc + 1:Nat):Int):=by
 have:=hok.pc
 show wrap64 ((m.pc:Int) + 1) = _
 rw [ajN (by omega) (by omega)]
 omega
theorem B_ (ad:Nat):oP ad≤3:=by unfold oP; cases Nat.blt ad 1024 <;> decide
theorem JH (op:Nat):mX op≤3:=by unfold mX; cases (Nat.blt 17 op && Nat.blt op 22) <;> decide
theorem VD (ad:Nat):Fp ad = ((oP ad:Nat):Int):=by
 unfold Fp oP
 by_cases h:ad < 1024
 · rw [if_pos h,Xi.aH.2 h]; rfl
 · have : Nat.blt ad 1024 = false := by
    cases e:Nat.blt ad 1024 with
    | false => rfl
    | true => exact absurd (Xi.aH.1 e) h
   rw [if_neg h,this]; rfl
theorem Uo:((List.range 31).all fun k => !zD k || decide (pz (k:Int) = ((mX k:Nat):Int))) = true:=by kernel_rfl
theorem Yn {op:Nat} (h:zD op = true):pz (op:Int) = ((mX op:Nat):Int):=by
 have h3:=wL h
 have h1:=List.all_eq_true.1 Uo op (List.mem_range.2 (by omega))
 rw [h] at h1
 exact of_decide_eq_true (by simpa using h1)
theorem VE (x y:Wd):iD 24 x y = Lj x:=by unfold iD; rfl
theorem VF (x y:Wd):iD 25 x y = sZ x:=by unfold iD; rfl
theorem VG (x y:Wd):iD 26 x y = ql x:=by unfold iD; rfl
theorem VH (x y:Wd):iD 27 x y = kW 0:=by unfold iD; rfl
theorem VI (x y:Wd):iD 28 x y = yT x:=by unfold iD; rfl
theorem VJ (x y:Wd):iD 29 x y = OG x:=by unfold iD; rfl
theorem VK (x y:Wd):iD 30 x y = wH x:=by unfold iD; rfl
theorem adG {op:Nat} (h:zD op = true) (h2:¬ op≤23) (x y z:Wd):iD op x y = iD op x z:=by
 have h3:op≤30:=by
  rcases wL h with rfl | rfl | rfl | rfl | rfl | rfl | rfl | rfl | rfl | rfl | rfl | rfl | rfl | rfl | rfl | rfl | rfl | rfl | rfl | rfl | rfl | rfl | rfl | rfl <;> decide
 match op,h2,h3 with
 | 0,h,_ => exact absurd (by decide) h
 | 1,h,_ => exact absurd (by decide) h
 | 2,h,_ => exact absurd (by decide) h
 | 3,h,_ => exact absurd (by decide) h
 | 4,h,_ => exact absurd (by decide) h
 | 5,h,_ => exact absurd (by decide) h
 | 6,h,_ => exact absurd (by decide) h
 | 7,h,_ => exact absurd (by decide) h
 | 8,h,_ => exact absurd (by decide) h
 | 9,h,_ => exact absurd (by decide) h
 | 10,h,_ => exact absurd (by decide) h
 | 11,h,_ => exact absurd (by decide) h
 | 12,h,_ => exact absurd (by decide) h
 | 13,h,_ => exact absurd (by decide) h
 | 14,h,_ => exact absurd (by decide) h
 | 15,h,_ => exact absurd (by decide) h
 | 16,h,_ => exact absurd (by decide) h
 | 17,h,_ => exact absurd (by decide) h
 | 18,h,_ => exact absurd (by decide) h
 | 19,h,_ => exact absurd (by decide) h
 | 20,h,_ => exact absurd (by decide) h
 | 21,h,_ => exact absurd (by decide) h
 | 22,h,_ => exact absurd (by decide) h
 | 23,h,_ => exact absurd (by decide) h
 | 24,_,_ => exact (VE x y).trans (VE x z).symm
 | 25,_,_ => exact (VF x y).trans (VF x z).symm
 | 26,_,_ => exact (VG x y).trans (VG x z).symm
 | 27,_,_ => exact (VH x y).trans (VH x z).symm
 | 28,_,_ => exact (VI x y).trans (VI x z).symm
 | 29,_,_ => exact (VJ x y).trans (VJ x z).symm
 | 30,_,_ => exact (VK x y).trans (VK x z).symm
 | _ + 31,_,h => exact absurd h (by omega)
theorem agI {op:Nat} (h:zD op = true):op≤30∧1≤op∧op≠22∧op≠23:=by
 have:=wL h
 omega
set_option maxHeartbeats 1000000 in
theorem aaW {w:World} {c b r:Nat} {cv mv:Value} {code:List (aK × Bool)} {m m':Ma} (h:CM w c b r cv mv code (gK m) (lN m)) (hok:Gv m) (hst:m.st = 0) (x:Nat) (hn:kG x m = some m') :
 Calls Tryz.prog 130 #[.pointer (some ⟨c,0,none⟩),aW (fG x)] w fun e w' => (∃ v,e = .returned v)∧kV (gK m') (lN m') c b r cv mv code w w':=by
 have hml:(gK m).marks.length≤2000000:=by
  have:=hok.ks
  show (m.ks.map vJ).length≤_
  rw [List.length_map]; omega
 unfold kG at hn
 split at hn
 · -- lw
   rename_i ho
   split at hn
   · rename_i hcnd
     obtain ⟨q1,q2,q3⟩:=hcnd
     injection hn with hn
     subst hn
     have hd:fG x = ⟨((34:Nat):Int),dN x,aN x,0,nN x⟩:=by unfold fG; rw [ho]; rfl
     rw [hd]
     have hv:jS (gK m) (aN x) = (((m.r (aN x)).v.toNat:Nat):Int):=by rw [oG hok (kY x)]; omega
     have hin:(m.r (aN x)).v.toNat + nN x < (lN m).length:=by simp only [lN,List.length_map]; omega
     refine RD h 34 (dN x) (aN x) (nN x) (.inl rfl) (kY x) (fun W hc => ?_)
     refine (aaI (h.aj hc (fun k _ => by simp) (by simp)) (dN x) (aN x) (nN x) _ (qc x) (kY x) hv hin hml).mono ?_
     rintro e w' ⟨he,hp⟩
     refine ⟨he,?_⟩
     have e1:(lN m).getD ((m.r (aN x)).v.toNat + nN x) 0 = (m.mm.getD ((m.r (aN x)).v.toNat + nN x) (kW 0)).v:=by
      simp only [lN,List.getD_eq_getElem?_getD,List.getElem?_map]
      rw [List.getElem?_eq_getElem (by simpa [lN] using hin)]
      rfl
     have e2:=qp hok (m.pc + 1) ⟨m.pc,(m.r (aN x)).v.toNat + nN x + 1,oP ((m.r (aN x)).v.toNat + nN x)⟩ rfl (B_ _) (m.rg.set (dN x) (m.mm.getD ((m.r (aN x)).v.toNat + nN x) (kW 0))) m.mm hst
     rw [e1,Ii m _ _ q3,Aq hok,VD] at hp
     rw [show (((m.r (aN x)).v.toNat:Nat):Int) + ((nN x:Nat):Int) = (((m.r (aN x)).v.toNat + nN x + 1:Nat):Int) - 1 by omega] at hp
     rw [e2] at hp
     exact hp
   · cases hn
 split at hn
 · -- sw
   rename_i ho
   split at hn
   · rename_i hcnd
     obtain ⟨q1,q2⟩:=hcnd
     injection hn with hn
     subst hn
     have hd:fG x = ⟨((35:Nat):Int),dN x,aN x,0,nN x⟩:=by unfold fG; rw [ho]; rfl
     rw [hd]
     have hv:jS (gK m) (aN x) = (((m.r (aN x)).v.toNat:Nat):Int):=by rw [oG hok (kY x)]; omega
     have hin:(m.r (aN x)).v.toNat + nN x < (lN m).length:=by simp only [lN,List.length_map]; omega
     refine RD h 35 (dN x) (aN x) (nN x) (.inr rfl) (kY x) (fun W hc => ?_)
     refine (aaK (h.aj hc (fun k _ => by simp) (by simp)) (dN x) (aN x) (nN x) _ (qc x) (kY x) hv hin hml).mono ?_
     rintro e w' ⟨he,hp⟩
     refine ⟨he,?_⟩
     have e1:(lN m).set ((m.r (aN x)).v.toNat + nN x) (jS (gK m) (dN x)) = lN ⟨m.rg,m.mm.set ((m.r (aN x)).v.toNat + nN x) (m.r (dN x)),m.pc + 1,0,m.ks ++ [⟨m.pc,(m.r (aN x)).v.toNat + nN x + 1,oP ((m.r (aN x)).v.toNat + nN x)⟩]⟩:=by
      rw [oG hok (qc x)]
      simp [lN,List.map_set]
     have e2:=qp hok (m.pc + 1) ⟨m.pc,(m.r (aN x)).v.toNat + nN x + 1,oP ((m.r (aN x)).v.toNat + nN x)⟩ rfl (B_ _) m.rg (m.mm.set ((m.r (aN x)).v.toNat + nN x) (m.r (dN x))) hst
     rw [e1,Aq hok,VD,show (((m.r (aN x)).v.toNat:Nat):Int) + ((nN x:Nat):Int) = (((m.r (aN x)).v.toNat + nN x + 1:Nat):Int) - 1 by omega,adF m,e2] at hp
     exact hp
   · cases hn
 split at hn
 · -- addi
   rename_i ho
   split at hn
   · rename_i hcnd
     obtain ⟨q1,q2,q3⟩:=hcnd
     injection hn with hn
     subst hn
     have hd:fG x = ⟨31,dN x,aN x,0,nN x⟩:=by unfold fG; rw [ho]; rfl
     rw [hd]
     refine (aaD h.core (dN x) (aN x) (nN x) (qc x) (kY x) (by omega) (by omega) hml).mono ?_
     rintro e w' ⟨he,hp⟩
     refine ⟨he,?_⟩
     have hp:=h.tC hp
     have e2:=qp hok (m.pc + 1) ⟨m.pc,0,1⟩ rfl (show 1≤3 by decide) (m.rg.set (dN x) (kW ((m.r (aN x)).v + nN x))) m.mm hst
     rw [oG hok (kY x),show wrap32 ((m.r (aN x)).v + ((nN x:Nat):Int)) = (kW ((m.r (aN x)).v + nN x)).v from rfl,Ii m _ _ q3] at hp
     unfold Rw at hp
     rw [show wrap64 (({ gK m with regs:=(m.rg.set (dN x) (kW ((m.r (aN x)).v + nN x))).map (·.v) }:CS).pc + 1) = ((m.pc + 1:Nat):Int) from Aq hok] at hp
     exact e2 ▸ hp
   · cases hn
 split at hn
 · -- blt
   rename_i ho
   have hd:fG x = ⟨38,dN x,aN x,0,nN x⟩:=by unfold fG; rw [ho]; rfl
   rw [hd]
   refine (adq h.core (dN x) (aN x) (nN x) (qc x) (kY x) hml).mono ?_
   rintro e w' ⟨he,hp⟩
   refine ⟨he,?_⟩
   have hp:=h.tC hp
   rw [oG hok (kY x),oG hok (qc x)] at hp
   split at hn
   · rename_i hlt
     injection hn with hn
     subst hn
     have e2:=qp hok (nN x) ⟨m.pc,0,3⟩ rfl (show 3≤3 by decide) m.rg m.mm hst
     unfold Ah at hp
     rw [decide_eq_true hlt,if_pos rfl] at hp
     exact e2 ▸ hp
   · rename_i hlt
     injection hn with hn
     subst hn
     have e2:=qp hok (m.pc + 1) ⟨m.pc,0,1⟩ rfl (show 1≤3 by decide) m.rg m.mm hst
     unfold Ah Rw at hp
     rw [decide_eq_false hlt,if_neg (by decide),Aq hok] at hp
     exact e2 ▸ hp
 split at hn
 · -- halt
   rename_i ho
   have hd:fG x = ⟨43,0,0,0,0⟩:=by unfold fG; rw [ho]; rfl
   rw [hd]
   injection hn with hn
   subst hn
   refine (aaG h.core hml h.env.tab h.env.lt).mono ?_
   rintro e w' ⟨he,hp⟩
   refine ⟨he,?_⟩
   have hp:=h.tC hp
   have e2:=qp hok m.pc ⟨m.pc,0,1⟩ rfl (show 1≤3 by decide) m.rg m.mm hst
   have e3:Jz (gK m) = gK ⟨m.rg,m.mm,m.pc,1,m.ks ++ [⟨m.pc,0,1⟩]⟩:=by
    unfold Jz
    have e4:qZ (gK m) (gK m).pc (-1) 1 = gK ⟨m.rg,m.mm,m.pc,0,m.ks ++ [⟨m.pc,0,1⟩]⟩:=e2
    rw [e4]
    rfl
   rw [e3] at hp
   exact hp
 split at hn
 · -- alu
   rename_i hcnd
   obtain ⟨ha,hd0⟩:=hcnd
   injection hn with hn
   subst hn
   obtain ⟨l1,l2,l3,l4⟩:=agI ha
   have key:∀ (bb:Nat) (hb:bb < 32) (hy:iD (eP x) (m.r (aN x)) (m.r bb) = iD (eP x) (m.r (aN x)) (m.r (bN x))),
    Calls Tryz.prog 130 #[.pointer (some ⟨c,0,none⟩),aW ⟨((eP x:Nat):Int),dN x,aN x,bb,0⟩] w fun e w' => (∃ v,e = .returned v)∧kV (gK (m.put (dN x) (iD (eP x) (m.r (aN x)) (m.r (bN x))) (m.pc + 1) ⟨m.pc,0,mX (eP x)⟩)) (lN m) c b r cv mv code w w':=by
    intro bb hb hy
    refine (ado h.core (eP x) (iD (eP x) (m.r (aN x)) (m.r bb)).v (mX (eP x)) (dN x) (aN x) bb (by omega) (qc x) (kY x) hb hml (fun W => ?_) (fun W hc => ?_) h.env.tab h.env.lt h.env.far).mono ?_
    · rw [oG hok (kY x),oG hok hb]
      exact aji (eP x) ha _ _ W
    · rw [← Yn ha]
      exact NV (eP x) _ W hc (by omega) (by omega)
    · rintro e w' ⟨he,hp⟩
      refine ⟨he,?_⟩
      have hp:=h.tC hp
      have e2:=qp hok (m.pc + 1) ⟨m.pc,0,mX (eP x)⟩ rfl (JH _) (m.rg.set (dN x) (iD (eP x) (m.r (aN x)) (m.r (bN x)))) m.mm hst
      rw [hy,Ii m _ _ hd0] at hp
      unfold Rw at hp
      rw [show wrap64 (({ gK m with regs:=(m.rg.set (dN x) (iD (eP x) (m.r (aN x)) (m.r (bN x)))).map (·.v) }:CS).pc + 1) = ((m.pc + 1:Nat):Int) from Aq hok] at hp
      exact e2 ▸ hp
   by_cases h23:eP x≤23
   · have hd:fG x = ⟨((eP x:Nat):Int),dN x,aN x,bN x,0⟩:=by unfold fG; rw [if_pos h23]
     rw [hd]
     exact key (bN x) (aeU x) rfl
   · have hd:fG x = ⟨((eP x:Nat):Int),dN x,aN x,((0:Nat):Int),0⟩:=by unfold fG; rw [if_neg h23,if_pos l1]; rfl
     rw [hd]
     exact key 0 (by decide) (adG ha h23 _ _ _)
 · cases hn
end Go.Proofs.YtjegdngblndkcaaGreatDoor

/- The core with its memory: Step, Run, of a made program. -/
namespace Go.Proofs.YtjegdngblndkcaaGreatDoor
open Go.RowKit Go.Deep Go.Maps Go.Proofs.YtjegdngblndkcaaGreatDoor.Ab
set_option linter.unusedVariables false
attribute [local go_sem] Oper.semAt_some
def rowsOf (words:List Nat):List (aK × Bool):=words.map fun w => (fG w,true)
theorem step_next {w:World} {c b r:Nat} {cv mv:Value} {words:List Nat} {m m':Ma} (h:CM w c b r cv mv (rowsOf words) (gK m) (lN m)) (hok:Gv m) (hn:Nx words m m') (hl:words.length≤100000) :
 Calls Tryz.prog 83 #[.pointer (some ⟨c,0,none⟩)] w fun e w' => e = .returned (.bool true)∧kV (gK m') (lN m') c b r cv mv (rowsOf words) w w':=by
 obtain ⟨hst,x,hx,hn⟩:=hn
 refine X9 (Q:=fun w w' => kV (gK m') (lN m') c b r cv mv (rowsOf words) w w') (fun _ _ _ hc hp => kV.alloc hc hp) h.core m.pc rfl (fG x) ?_ (by show ((m.st:Nat):Int) = 0; rw [hst]; rfl) (by simpa [rowsOf] using hl) (fun W hc => ?_)
 · simp [rowsOf,hx]
 · exact aaW (h.aj hc (fun k _ => by simp) (by simp)) hok hst x hn
theorem adH {m m':Ma} {x:Nat} (hok:Gv m) (hn:kG x m = some m'):m'.rg.length = 32∧m'.pc≤65537∧m'.ks.length = m.ks.length + 1∧(∀ k∈m'.ks,k.co≤3)∧m'.mm.length = m.mm.length:=by
 have hco:∀ (k:Mk),k.co≤3→∀ y∈m.ks ++ [k],y.co≤3:=fun k hk y hy => by
  rcases List.mem_append.1 hy with h | h
  · exact hok.co y h
  · simp at h; subst h; exact hk
 have hp:=hok.pc
 have hr:=hok.rg
 have hN:=ali x
 unfold kG at hn
 split at hn
 · split at hn
   · injection hn with hn
     subst hn
     exact ⟨by simp [Ma.put,hr],by show m.pc + 1≤_; omega,by simp [Ma.put],hco _ (B_ _),rfl⟩
   · cases hn
 split at hn
 · split at hn
   · injection hn with hn
     subst hn
     exact ⟨hr,by show m.pc + 1≤_; omega,by simp,hco _ (B_ _),by simp⟩
   · cases hn
 split at hn
 · split at hn
   · injection hn with hn
     subst hn
     exact ⟨by simp [Ma.put,hr],by show m.pc + 1≤_; omega,by simp [Ma.put],hco _ (show 1≤3 by decide),rfl⟩
   · cases hn
 split at hn
 · split at hn
   · injection hn with hn
     subst hn
     exact ⟨hr,by show nN x≤_; omega,by simp,hco _ (show 3≤3 by decide),rfl⟩
   · injection hn with hn
     subst hn
     exact ⟨hr,by show m.pc + 1≤_; omega,by simp,hco _ (show 1≤3 by decide),rfl⟩
 split at hn
 · injection hn with hn
   subst hn
   exact ⟨hr,by show m.pc≤_; omega,by simp,hco _ (show 1≤3 by decide),rfl⟩
 split at hn
 · injection hn with hn
   subst hn
   exact ⟨by simp [Ma.put,hr],by show m.pc + 1≤_; omega,by simp [Ma.put],hco _ (JH _),rfl⟩
 · cases hn
theorem Ns {X:Type} {nx:X→X→Prop}:∀ {n:Nat} {x y:X},Ab.Reach nx n x y→∃ it:Nat→X,it 0 = x∧it n = y∧∀ j,j < n→nx (it j) (it (j + 1))
 | _,x,_,.nil _ => ⟨fun _ => x,rfl,rfl,fun j hj => by omega⟩
 | _,x,z,.cons (n:=n) h h1 => by
  obtain ⟨it,i0,iN,is⟩:=Ns h1
  refine ⟨fun j => match j with | 0 => x | j + 1 => it j,rfl,iN,fun j hj => ?_⟩
  cases j with
  | zero => show nx x (it 0); rw [i0]; exact h
  | succ j => exact is j (by omega)
theorem seq_ok {words:List Nat} (hl:words.length≤60000) {it:Nat→Ma} {n:Nat} (hn:n≤1048000) (h0:Gv (it 0)) (hk:(it 0).ks.length = 0) (h:∀ j,j < n→Nx words (it j) (it (j + 1))):∀ j,j < n→Gv (it j)∧(it j).ks.length = j
 | 0,hj => ⟨h0,hk⟩
 | j + 1,hj => by
  obtain ⟨ih,ik⟩:=seq_ok hl hn h0 hk h j (by omega)
  obtain ⟨_,x,hx,hnx⟩:=h j (by omega)
  obtain ⟨a1,a2,a3,a4,_⟩:=adH ih hnx
  obtain ⟨_,y,hy,_⟩:=h (j + 1) hj
  have hpc:=(List.getElem?_eq_some_iff.1 hy).1
  exact ⟨⟨a1,by omega,by omega,a4⟩,by omega⟩
set_option maxRecDepth 100000 in
set_option maxHeartbeats 1000000 in
theorem adI {w:World} {c b r:Nat} {cv mv:Value} {words:List Nat} {m m':Ma} {N fuel:Nat} (h:CM w c b r cv mv (rowsOf words) (gK m) (lN m)) (hok:Gv m) (hk0:m.ks.length = 0) (hr:Ab.Reach (Nx words) N m m') (hend:m'.st = 1) (hl:words.length≤60000) (hN:N≤1048000) (hf:fuel≤1048576) (hNf:N < fuel) :
 Calls Tryz.prog 45 #[.pointer (some ⟨c,0,none⟩),.int .i64 fuel] w fun e w' => e = .returned (.int .i64 N)∧kV (gK m') (lN m') c b r cv mv (rowsOf words) w w':=by
 obtain ⟨it,i0,iN,is⟩:=Ns hr
 have ajO:=seq_ok hl hN (by rw [i0]; exact hok) (by rw [i0]; exact hk0) is
 have H:Hid (kV (gK (it 0)) (lN (it 0)) c b r cv mv (rowsOf words) w w):=hide ⟨ah.refl _ _,mv,.inl rfl,by rw [i0]; exact h⟩
 have HIS:=hide is
 have HOK:=hide ajO
 have RV:=hide iN
 have HE:Hid ((gK (it N)).st≠0):=hide (by rw [iN]; show ((m'.st:Nat):Int)≠0; rw [hend]; decide)
 have hl2:words.length≤100000:=by omega
 clear h hok hk0 hr hend i0 iN is ajO
 have hmin:min (fuel:Int) 1048576 = fuel:=by omega
 go_enter Tryz.func45,Tryz.ntmps45
 go_wp2
 go_loopw [5] (fun i wr => ∃ j:Nat,j≤N∧i = .int .i64 j∧Hid (kV (gK (it j)) (lN (it j)) c b r cv mv (rowsOf words) w wr)) (fun i _ => N + 1 - (intOf i).toNat)
 case atStart => exact ⟨0,Nat.zero_le _,rfl,H⟩
 case round =>
  obtain ⟨j,hj,rfl,HC⟩:=hrel
  obtain ⟨hc,mv',hmv,hb⟩:=HC.out
  have hjf:decide ((j:Int) < (fuel:Int)) = true:=by simp; omega
  by_cases hlt:j < N
  · have hsg:=step_next hb (HOK.out j hlt).1 (HIS.out j hlt) hl2
    have HSG:=hide hsg
    have HX:=hide hc
    have HV:=hide hmv
    clear hsg hc hmv hb
    go_wp2_with fail
    go_at_call 83
    refine HSG.out.mono ?_
    rintro e w1 ⟨rfl,hp⟩
    have HN:Hid (kV (gK (it (j + 1))) (lN (it (j + 1))) c b r cv mv (rowsOf words) w w1):=hide (kV.step HX.out HV.out hp)
    clear hp HSG
    go_wp2
    go_roundw
    case rel => exact ⟨j + 1,by omega,by go_num,HN⟩
    case measure => simp [intOf]; omega
  · obtain rfl:j = N:=by omega
    have hss:=X8 hb.core HE.out
    clear hc hmv hb
    go_wp2_with fail
    go_at_call 83
    refine hss.mono ?_
    rintro e w1 ⟨rfl,rfl⟩
    go_wp2
    go_ret
    rw [RV.out] at HC
    exact ⟨rfl,HC.out⟩
end Go.Proofs.YtjegdngblndkcaaGreatDoor

/- The core: Poke, Load, Cycles, Begin. -/
namespace Go.Proofs.YtjegdngblndkcaaGreatDoor
open Go Go.RowKit Go.Deep Go.Maps
set_option linter.unusedVariables false
attribute [local go_sem] Oper.semAt_some
set_option maxRecDepth 100000 in
theorem Ej (a:Nat) (ha:a < 2048) (w:World):Calls Tryz.prog 81 #[.int .i64 (a:Int)] w fun e w' => e = .returned (.bool true)∧w = w':=by
 have x1:decide ((a:Int) < 0) = false:=decide_eq_false (by omega)
 have x2:decide ((0:Int)≤(a:Int)) = true:=decide_eq_true (by omega)
 have x3:decide ((a:Int) < 2048) = true:=decide_eq_true (by omega)
 go_enter Tryz.func81,Tryz.ntmps81
 go_wp2
 go_ret
 exact ⟨rfl,rfl⟩
section
variable {w:World} {c b r:Nat} {cv mv:Value} {code:List (aK × Bool)} {s:CS} {ws:List Int}
theorem CM.alz {w':World} {ws':List Int} (h:CM w c b r cv mv code s ws) (hc:ah w w' [r]) (hr:nG w' b r ws'):CM w' c b r cv mv code s ws' :=
 ⟨h.core.aj hc (fun k hk hm => h.far.2 (by simp at hm; exact hm ▸ hk)),hr,⟨h.env.tab.aj hc h.env.lt (by simpa using h.gr),Nat.lt_of_lt_of_le h.env.lt hc.size,h.env.far⟩,h.gb,h.gr⟩
set_option maxRecDepth 100000 in
theorem Yo (h:CM w c b r cv mv code s ws) (a:Nat) (x:Int) (ha:a < ws.length) :
 Calls Tryz.prog 39 #[.pointer (some ⟨c,0,none⟩),.int .i64 (a:Int),.int .i32 x] w fun e w' => e = .returned (.bool true)∧ah w w' [r]∧CM w' c b r cv mv code s (ws.set a x):=by
 have hn:=h.vI.n
 have hl:=kQ h.core
 have hwi:=Ej a (by omega)
 have hst:=Nh b r ws (a:Int) x w h.vI (by omega) (by omega)
 rw [show inB ws (a:Int) = true from decide_eq_true ⟨by omega,by omega⟩,show st ws (a:Int) x = ws.set a x by unfold st; rw [if_pos ⟨by omega,by omega⟩]; rfl] at hst
 have c0:=h.core.blk.cell' (i:=0) rfl
 have hw:IntKind.i32.wrap (a:Int) = (a:Int):=by rw [IntKind.wrap_i32]; omega
 have H:=hide h
 clear h
 go_enter Tryz.func39,Tryz.ntmps39
 go_wp2_with fail
 go_at_call 42
 refine hl.mono ?_
 rintro e w1 ⟨rfl,rfl⟩
 go_wp2_with fail
 go_at_call 81
 refine (hwi _).mono ?_
 rintro e w1 ⟨rfl,rfl⟩
 go_wp2_with fail
 go_at_call 82
 refine hst.mono ?_
 rintro e w1 ⟨rfl,hr,hc⟩
 have HR:=hide hr
 have HC:=hide hc
 clear hr hc hst hl
 go_wp2
 go_ret
 exact ⟨rfl,HC.out,H.out.alz HC.out HR.out⟩
set_option maxRecDepth 100000 in
theorem Ur (h:CM w c b r cv mv code s ws) (a:Nat) (x:Int) (ha:ws[a]? = some x) :
 Calls Tryz.prog 46 #[.pointer (some ⟨c,0,none⟩),.int .i64 (a:Int)] w fun e w' => e = .returned (.tuple #[.int .i32 x,.bool true])∧ah w w' []:=by
 have hal:=(List.getElem?_eq_some_iff.1 ha).1
 have hn:=h.vI.n
 have hl:=kQ h.core
 have hwi:=Ej a (by omega)
 have hst:=H8 b r ws (a:Int) w h.vI (by omega) (by omega)
 rw [show inB ws (a:Int) = true from decide_eq_true ⟨by omega,by omega⟩,show ld ws (a:Int) = x by unfold ld; rw [if_pos ⟨by omega,by omega⟩]; simp [List.getD,ha]] at hst
 have c0:=h.core.blk.cell' (i:=0) rfl
 have hw:IntKind.i32.wrap (a:Int) = (a:Int):=by rw [IntKind.wrap_i32]; omega
 clear h
 go_enter Tryz.func46,Tryz.ntmps46
 go_wp2_with fail
 go_at_call 42
 refine hl.mono ?_
 rintro e w1 ⟨rfl,rfl⟩
 go_wp2_with fail
 go_at_call 81
 refine (hwi _).mono ?_
 rintro e w1 ⟨rfl,rfl⟩
 go_wp2_with fail
 go_at_call 84
 refine hst.mono ?_
 rintro e w1 ⟨rfl,hc⟩
 have HC:=hide hc
 clear hc hst hl
 go_wp2
 go_ret2
 exact ⟨rfl,HC.out⟩
set_option maxRecDepth 100000 in
theorem NW {bp:Addr} (h:CB w c (.pointer (some bp)) cv mv code s):Calls Tryz.prog 24 #[.pointer (some ⟨c,0,none⟩)] w fun e w' => e = .returned (.int .i64 s.cost)∧w = w':=by
 have hl:=kQ h
 have c36:=h.blk.cell' (@mg _ cv mv s h.reg).2.2.1
 clear h
 go_enter Tryz.func24,Tryz.ntmps24
 go_wp2_with (go_at_call 42; refine hl.mono ?_; rintro e w1 ⟨rfl,rfl⟩)
 go_ret
 exact ⟨rfl,rfl⟩
end
end Go.Proofs.YtjegdngblndkcaaGreatDoor

/- The core: Begin, Marks. -/
namespace Go.Proofs.YtjegdngblndkcaaGreatDoor
open Go Go.RowKit Go.Deep Go.Maps
set_option linter.unusedVariables false
attribute [local go_sem] Oper.semAt_some
theorem adK (bb:Addr) (A:Option Addr) (n c:Nat):(zeroCells (.pointer (some bb)) (.slice A n c)).toArray.all (·.oneCell') = true:=by
 rw [List.all_toArray]
 cases A <;> rfl
theorem JI (w:World) (g:Nat) (cs:Array Value):ah w (w.setRow g cs) [g] :=
 ⟨rfl,rfl,rfl,by simp [World.setRow],fun k hk hn => setRow_other w g k cs (fun e => hn (by simp [e]))⟩
section
variable {w:World} {c b r:Nat} {cv mv:Value} {code:List (aK × Bool)} {s:CS} {ws:List Int}
set_option maxRecDepth 100000 in
set_option maxHeartbeats 1000000 in
theorem Ux (h:CM w c b r cv mv code s ws) :
 Calls Tryz.prog 40 #[.pointer (some ⟨c,0,none⟩)] w fun e w' => e = .returned (.tuple #[])∧ah w w' [c]∧CM w' c b r cv (.slice none 0 0) code jF ws:=by
 have hl:=kQ h.core
 have H:=hide h
 obtain ⟨A,cc,hcv⟩:=bC h.core.qY
 subst hcv
 have c0:=h.core.blk.cell' (i:=0) rfl
 have c1:=h.core.blk.cell' (i:=1) rfl
 have hlt:=h.core.blk.lt
 have hblk:=h.core.blk.drew
 have hsz:(bH (.pointer (some ⟨b,0,none⟩)) (.slice A code.length cc) mv s).toArray.size = (zeroCells (.pointer (some ⟨b,0,none⟩)) (.slice A code.length cc)).toArray.size:=by
  simp [bH,zeroCells,jF,h.core.reg]
 have HB:=hide hblk
 have HSZ:=hide hsz
 clear h hblk hsz
 go_enter Tryz.func40,Tryz.ntmps40
 go_wp2_with (go_at_call 42; refine hl.mono ?_; rintro e w1 ⟨rfl,rfl⟩)
 go_still_tail 11,(by kernel_rfl)
 change wpList _ _ _ _ _ w.drew
 refine wpList_store_row rfl 99 _ _ rfl c (zeroCells (.pointer (some ⟨b,0,none⟩)) (.slice A code.length cc)).toArray rfl rfl 99 _ HB.out (by kernel_rfl) HSZ.out (adK _ _ _ _) ?_
 have hb':aB (w.drew.setRow c (zeroCells (.pointer (some ⟨b,0,none⟩)) (.slice A code.length cc)).toArray) c 99 (bH (.pointer (some ⟨b,0,none⟩)) (.slice A code.length cc) (.slice none 0 0) jF):=setRow_heap w.drew c _ _ _ _ HB.out
 have hc':ah w (w.drew.setRow c (zeroCells (.pointer (some ⟨b,0,none⟩)) (.slice A code.length cc)).toArray) [c]:=((ah.refl w [c]).drew).trans (JI _ _ _) (fun k hk => .inl hk)
 generalize w.drew.setRow c (zeroCells (.pointer (some ⟨b,0,none⟩)) (.slice A code.length cc)).toArray = w2 at *
 have HB':=hide hb'
 have HC':=hide hc'
 clear hb' hc' c0 c1
 go_wp2
 refine bodyPost_end (results_none rfl _ _ _) rfl ⟨rfl,HC'.out,?_⟩
 obtain ⟨n1,n2,n3⟩:=H.out.core.ne
 obtain ⟨f1,f2⟩:=H.out.far
 have fb:b≠c:=fun e => f1 (by simp [dU,e])
 have fr:r≠c:=fun e => f2 (by simp [dU,e])
 exact ⟨⟨HB'.out,aF H.out.core.qY HC'.out (fun g hg hm => by simp at hm; subst hm; exact n1 hg),World.ownsRow_nil _ _ _ _,by simp [jF]⟩,
  H.out.vI.aj HC'.out (by simpa using fb) (by simpa using fr),
  ⟨H.out.env.tab.aj HC'.out H.out.env.lt (fun hm => H.out.env.far (by simp at hm; simp [dU,hm])),Nat.lt_of_lt_of_le H.out.env.lt HC'.out.size,fun hm => H.out.env.far (by
    simp only [dU,List.mem_append] at hm ⊢
    rcases hm with hm | hm | hm
    · exact .inl hm
    · exact .inr (.inl hm)
    · simp [Value.ownBlock] at hm)⟩,H.out.gb,H.out.gr⟩
end
end Go.Proofs.YtjegdngblndkcaaGreatDoor

/- The filter costs something. -/
namespace Go.Proofs.YtjegdngblndkcaaGreatDoor
open Go Go.RowKit Go.Proofs.YtjegdngblndkcaaGreatDoor.Ab Go.Proofs.YtjegdngblndkcaaGreatDoor.Xi
set_option linter.unusedVariables false
end Go.Proofs.YtjegdngblndkcaaGreatDoor
