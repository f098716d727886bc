/- Texts of this claim, side by side: CoreN, CoreO, CoreP, CoreQ, CoreR, FirmP. -/
import Derived.Test.YtjcgiddgafjdpaaGreatDoorFR15
import Derived.Test.YtjcgiddgafjdpaaGreatDoorFR13
import Derived.Laws.Rows
import Derived.Laws.Tables
import Derived.StillTailTactics
/- The core with its memory: what does any instruction of a made program. -/
namespace Go.Proofs.YtjcgiddgafjdpaaGreatDoor
open Go.RowKit Go.Deep Go.Maps Go.Proofs.YtjcgiddgafjdpaaGreatDoor.Ab
set_option linter.unusedVariables false
attribute [local go_sem] Oper.semAt_some
set_option maxRecDepth 100000 in
set_option maxHeartbeats 2000000 in
theorem does_mem {w:World} {c b r:Nat} {cv mv:Value} {code:List (Ins5 × Bool)} {s s':CS} {ws ws':List Int} (h:CM w c b r cv mv code s ws) (op d a n:Nat) (hop:op = 34∨op = 35) (ha:a < 32)
 (hdo:∀ W,Chg w W []→Calls Tryz.prog 177 #[.pointer (some ⟨c,0,none⟩),insVal ⟨op,d,a,0,n⟩] W fun e w' => (∃ v,e = .returned v)∧CMP s' ws' c b r cv mv code W w') :
 Calls Tryz.prog 107 #[.pointer (some ⟨c,0,none⟩),insVal ⟨op,d,a,0,n⟩] w fun e w' => (∃ v,e = .returned v)∧CMP s' ws' c b r cv mv code w w':=by
 have H:=hide h
 have HDO:=hide hdo
 have hca:=h.core.blk.cell' (cc_reg h.core.reg a ha)
 have hlt:=h.core.blk.lt
 have ha2:(a:Int) < 32:=by omega
 generalize s.regs.getD a 0 = ra at *
 clear h hdo
 unfold insVal at HDO ⊢
 rcases hop with rfl | rfl
 · go_enter Tryz.func107,Tryz.ntmps107
   go_wp2
   go_quiet (fail)
   have hc0:Chg w ((w.alloc (.cells #[.int .i64 34,.int .i64 d,.int .i64 a,.int .i64 0,.int .i64 n] 118)).drewN nq) []:=((Chg.refl w []).alloc _).drewN nq
   have HB:=hide (HDO.out _ hc0)
   have HC0:=hide hc0
   clear hc0
   go_wp2_with fail
   go_at_call 177
   refine HB.out.mono ?_
   rintro e w1 ⟨⟨v,rfl⟩,hp⟩
   have HP:=hide hp
   clear hp HB
   go_wp2
   refine bodyPost_end (results_none rfl _ _ _) rfl ?_
   exact ⟨⟨_,rfl⟩,CMP.alloc HC0.out HP.out⟩
 · go_enter Tryz.func107,Tryz.ntmps107
   go_wp2
   go_quiet (fail)
   have hc0:Chg w ((w.alloc (.cells #[.int .i64 35,.int .i64 d,.int .i64 a,.int .i64 0,.int .i64 n] 118)).drewN nq) []:=((Chg.refl w []).alloc _).drewN nq
   have HB:=hide (HDO.out _ hc0)
   have HC0:=hide hc0
   clear hc0
   go_wp2_with fail
   go_at_call 177
   refine HB.out.mono ?_
   rintro e w1 ⟨⟨v,rfl⟩,hp⟩
   have HP:=hide hp
   clear hp HB
   go_wp2
   refine bodyPost_end (results_none rfl _ _ _) rfl ?_
   exact ⟨⟨_,rfl⟩,CMP.alloc HC0.out HP.out⟩
def sumC:List Mk→Int
 | [] => 0
 | k :: l => (k.co:Int) + sumC l
def mkI (k:Mk):Int × Int × Int:=((k.pc:Int),(k.ad:Int) - 1,(k.co:Int))
def csM (m:Ma):CS:=⟨m.rg.map (·.v),(m.pc:Int),(m.st:Int),sumC m.ks,m.ks.map mkI⟩
def wsM (m:Ma):List Int:=m.mm.map (·.v)
theorem sumC_snoc (k:Mk):∀ l:List Mk,sumC (l ++ [k]) = sumC l + (k.co:Int)
 | [] => by simp [sumC]
 | x :: l => by simp only [List.cons_append,sumC,sumC_snoc k l]; omega
structure MOk (m:Ma):Prop where
 rg:m.rg.length = 32
 pc:m.pc≤65536
 ks:m.ks.length≤1048576
 co:∀ k∈m.ks,k.co≤3
theorem sumC_bound:∀ (l:List Mk),(∀ k∈l,k.co≤3)→0≤sumC l∧sumC l≤3 * (l.length:Int)
 | [],_ => by simp [sumC]
 | k :: l,h => by
  have h1:=sumC_bound l (fun x hx => h x (by simp [hx]))
  have h2:=h k (by simp)
  simp only [sumC,List.length_cons]
  omega
def decN (w:Nat):Ins5 :=
 if opN w≤23 then ⟨opN w,dN w,aN w,bN w,0⟩ else if opN w≤30 then ⟨opN w,dN w,aN w,0,0⟩ else if opN w = 43 then ⟨43,0,0,0,0⟩ else ⟨opN w,dN w,aN w,0,nN w⟩
end Go.Proofs.YtjcgiddgafjdpaaGreatDoor

/- The core with its memory: each step is nextM. -/
namespace Go.Proofs.YtjcgiddgafjdpaaGreatDoor
open Go.RowKit Go.Deep Go.Maps Go.Proofs.YtjcgiddgafjdpaaGreatDoor.Ab
set_option linter.unusedVariables false
theorem w64m {x:Int} (h1:-9223372036854775808≤x) (h2:x≤9223372036854775807):wrap64 x = x:=by unfold wrap64; omega
theorem csM_goes {m:Ma} (hok:MOk m) (nx:Nat) (k:Mk) (hk:k.pc = m.pc) (hc:k.co≤3) (rg:List Wd) (mm:List Wd) (hst:m.st = 0) :
 goesC { csM m with regs:=rg.map (·.v) } (nx:Int) ((k.ad:Int) - 1) (k.co:Int) = csM ⟨rg,mm,nx,0,m.ks ++ [k]⟩:=by
 obtain ⟨b1,b2⟩:=sumC_bound m.ks hok.co
 have hl:=hok.ks
 unfold goesC csM
 simp only [sumC_snoc,List.map_append,List.map_cons,List.map_nil,hst,mkI,hk]
 rw [w64m (by omega) (by omega)]
theorem csM_regs (m:Ma):csM m = { csM m with regs:=m.rg.map (·.v) }:=rfl
theorem putC_csM (m:Ma) (d:Nat) (x:Wd) (hd:d≠0):putC (csM m) d x.v = { csM m with regs:=(m.rg.set d x).map (·.v) }:=by
 unfold putC
 rw [if_neg hd]
 simp [csM,List.map_set]
theorem regC_csM {m:Ma} (hok:MOk m) {i:Nat} (hi:i < 32):regC (csM m) i = (m.r i).v:=by
 have hl:=hok.rg
 unfold regC csM Ma.r
 simp only [List.getD_eq_getElem?_getD,List.getElem?_map]
 rw [List.getElem?_eq_getElem (by omega)]
 rfl
theorem wrap_pc {m:Ma} (hok:MOk m):wrap64 ((csM m).pc + 1) = ((m.pc + 1:Nat):Int):=by
 have:=hok.pc
 show wrap64 ((m.pc:Int) + 1) = _
 rw [w64m (by omega) (by omega)]
 omega
theorem costK_le (ad:Nat):costK ad≤3:=by unfold costK; cases Nat.blt ad 1024 <;> decide
theorem aluCost_le (op:Nat):aluCost op≤3:=by unfold aluCost; cases (Nat.blt 17 op && Nat.blt op 22) <;> decide
theorem costA_K (ad:Nat):costA ad = ((costK ad:Nat):Int):=by
 unfold costA costK
 by_cases h:ad < 1024
 · rw [if_pos h,Xi.blt_iff.2 h]; rfl
 · have : Nat.blt ad 1024 = false := by
    cases e:Nat.blt ad 1024 with
    | false => rfl
    | true => exact absurd (Xi.blt_iff.1 e) h
   rw [if_neg h,this]; rfl
theorem aluCost_all:((List.range 31).all fun k => !aluB k || decide (costOf (k:Int) = ((aluCost k:Nat):Int))) = true:=by kernel_rfl
theorem aluCost_of {op:Nat} (h:aluB op = true):costOf (op:Int) = ((aluCost op:Nat):Int):=by
 have h3:=aluB_cases h
 have h1:=List.all_eq_true.1 aluCost_all op (List.mem_range.2 (by omega))
 rw [h] at h1
 exact of_decide_eq_true (by simpa using h1)
theorem aluW_24 (x y:Wd):aluW 24 x y = clzW x:=by unfold aluW; rfl
theorem aluW_25 (x y:Wd):aluW 25 x y = negW x:=by unfold aluW; rfl
theorem aluW_26 (x y:Wd):aluW 26 x y = absW x:=by unfold aluW; rfl
theorem aluW_27 (x y:Wd):aluW 27 x y = kW 0:=by unfold aluW; rfl
theorem aluW_28 (x y:Wd):aluW 28 x y = signW x:=by unfold aluW; rfl
theorem aluW_29 (x y:Wd):aluW 29 x y = halfW x:=by unfold aluW; rfl
theorem aluW_30 (x y:Wd):aluW 30 x y = highW x:=by unfold aluW; rfl
theorem aluW_one {op:Nat} (h:aluB op = true) (h2:¬ op≤23) (x y z:Wd):aluW op x y = aluW op x z:=by
 have h3:op≤30:=by
  rcases aluB_cases h with rfl | rfl | rfl | rfl | rfl | rfl | rfl | rfl | rfl | rfl | rfl | rfl | rfl | rfl | rfl | rfl | rfl | rfl | rfl | rfl | rfl | rfl | rfl | rfl <;> decide
 match op,h2,h3 with
 | 0,h,_ => exact absurd (by decide) h
 | 1,h,_ => exact absurd (by decide) h
 | 2,h,_ => exact absurd (by decide) h
 | 3,h,_ => exact absurd (by decide) h
 | 4,h,_ => exact absurd (by decide) h
 | 5,h,_ => exact absurd (by decide) h
 | 6,h,_ => exact absurd (by decide) h
 | 7,h,_ => exact absurd (by decide) h
 | 8,h,_ => exact absurd (by decide) h
 | 9,h,_ => exact absurd (by decide) h
 | 10,h,_ => exact absurd (by decide) h
 | 11,h,_ => exact absurd (by decide) h
 | 12,h,_ => exact absurd (by decide) h
 | 13,h,_ => exact absurd (by decide) h
 | 14,h,_ => exact absurd (by decide) h
 | 15,h,_ => exact absurd (by decide) h
 | 16,h,_ => exact absurd (by decide) h
 | 17,h,_ => exact absurd (by decide) h
 | 18,h,_ => exact absurd (by decide) h
 | 19,h,_ => exact absurd (by decide) h
 | 20,h,_ => exact absurd (by decide) h
 | 21,h,_ => exact absurd (by decide) h
 | 22,h,_ => exact absurd (by decide) h
 | 23,h,_ => exact absurd (by decide) h
 | 24,_,_ => exact (aluW_24 x y).trans (aluW_24 x z).symm
 | 25,_,_ => exact (aluW_25 x y).trans (aluW_25 x z).symm
 | 26,_,_ => exact (aluW_26 x y).trans (aluW_26 x z).symm
 | 27,_,_ => exact (aluW_27 x y).trans (aluW_27 x z).symm
 | 28,_,_ => exact (aluW_28 x y).trans (aluW_28 x z).symm
 | 29,_,_ => exact (aluW_29 x y).trans (aluW_29 x z).symm
 | 30,_,_ => exact (aluW_30 x y).trans (aluW_30 x z).symm
 | _ + 31,_,h => exact absurd h (by omega)
theorem aluB_le {op:Nat} (h:aluB op = true):op≤30∧1≤op∧op≠22∧op≠23:=by
 have:=aluB_cases h
 omega
set_option maxHeartbeats 1000000 in
theorem does_next {w:World} {c b r:Nat} {cv mv:Value} {code:List (Ins5 × Bool)} {m m':Ma} (h:CM w c b r cv mv code (csM m) (wsM m)) (hok:MOk m) (hst:m.st = 0) (x:Nat) (hn:nextM x m = some m') :
 Calls Tryz.prog 107 #[.pointer (some ⟨c,0,none⟩),insVal (decN x)] w fun e w' => (∃ v,e = .returned v)∧CMP (csM m') (wsM m') c b r cv mv code w w':=by
 have hml:(csM m).marks.length≤2000000:=by
  have:=hok.ks
  show (m.ks.map mkI).length≤_
  rw [List.length_map]; omega
 unfold nextM at hn
 split at hn
 · -- lw
   rename_i ho
   split at hn
   · rename_i hcnd
     obtain ⟨q1,q2,q3⟩:=hcnd
     injection hn with hn
     subst hn
     have hd:decN x = ⟨((34:Nat):Int),dN x,aN x,0,nN x⟩:=by unfold decN; rw [ho]; rfl
     rw [hd]
     have hv:regC (csM m) (aN x) = (((m.r (aN x)).v.toNat:Nat):Int):=by rw [regC_csM hok (aN_lt x)]; omega
     have hin:(m.r (aN x)).v.toNat + nN x < (wsM m).length:=by simp only [wsM,List.length_map]; omega
     refine does_mem h 34 (dN x) (aN x) (nN x) (.inl rfl) (aN_lt x) (fun W hc => ?_)
     refine (memory_lw (h.chg hc (fun k _ => by simp) (by simp)) (dN x) (aN x) (nN x) _ (dN_lt x) (aN_lt x) hv hin hml).mono ?_
     rintro e w' ⟨he,hp⟩
     refine ⟨he,?_⟩
     have e1:(wsM m).getD ((m.r (aN x)).v.toNat + nN x) 0 = (m.mm.getD ((m.r (aN x)).v.toNat + nN x) (kW 0)).v:=by
      simp only [wsM,List.getD_eq_getElem?_getD,List.getElem?_map]
      rw [List.getElem?_eq_getElem (by simpa [wsM] using hin)]
      rfl
     have e2:=csM_goes hok (m.pc + 1) ⟨m.pc,(m.r (aN x)).v.toNat + nN x + 1,costK ((m.r (aN x)).v.toNat + nN x)⟩ rfl (costK_le _) (m.rg.set (dN x) (m.mm.getD ((m.r (aN x)).v.toNat + nN x) (kW 0))) m.mm hst
     rw [e1,putC_csM m _ _ q3,wrap_pc hok,costA_K] at hp
     rw [show (((m.r (aN x)).v.toNat:Nat):Int) + ((nN x:Nat):Int) = (((m.r (aN x)).v.toNat + nN x + 1:Nat):Int) - 1 by omega] at hp
     rw [e2] at hp
     exact hp
   · cases hn
 split at hn
 · -- sw
   rename_i ho
   split at hn
   · rename_i hcnd
     obtain ⟨q1,q2⟩:=hcnd
     injection hn with hn
     subst hn
     have hd:decN x = ⟨((35:Nat):Int),dN x,aN x,0,nN x⟩:=by unfold decN; rw [ho]; rfl
     rw [hd]
     have hv:regC (csM m) (aN x) = (((m.r (aN x)).v.toNat:Nat):Int):=by rw [regC_csM hok (aN_lt x)]; omega
     have hin:(m.r (aN x)).v.toNat + nN x < (wsM m).length:=by simp only [wsM,List.length_map]; omega
     refine does_mem h 35 (dN x) (aN x) (nN x) (.inr rfl) (aN_lt x) (fun W hc => ?_)
     refine (memory_sw (h.chg hc (fun k _ => by simp) (by simp)) (dN x) (aN x) (nN x) _ (dN_lt x) (aN_lt x) hv hin hml).mono ?_
     rintro e w' ⟨he,hp⟩
     refine ⟨he,?_⟩
     have e1:(wsM m).set ((m.r (aN x)).v.toNat + nN x) (regC (csM m) (dN x)) = wsM ⟨m.rg,m.mm.set ((m.r (aN x)).v.toNat + nN x) (m.r (dN x)),m.pc + 1,0,m.ks ++ [⟨m.pc,(m.r (aN x)).v.toNat + nN x + 1,costK ((m.r (aN x)).v.toNat + nN x)⟩]⟩:=by
      rw [regC_csM hok (dN_lt x)]
      simp [wsM,List.map_set]
     have e2:=csM_goes hok (m.pc + 1) ⟨m.pc,(m.r (aN x)).v.toNat + nN x + 1,costK ((m.r (aN x)).v.toNat + nN x)⟩ rfl (costK_le _) m.rg (m.mm.set ((m.r (aN x)).v.toNat + nN x) (m.r (dN x))) hst
     rw [e1,wrap_pc hok,costA_K,show (((m.r (aN x)).v.toNat:Nat):Int) + ((nN x:Nat):Int) = (((m.r (aN x)).v.toNat + nN x + 1:Nat):Int) - 1 by omega,csM_regs m,e2] at hp
     exact hp
   · cases hn
 split at hn
 · -- addi
   rename_i ho
   split at hn
   · rename_i hcnd
     obtain ⟨q1,q2,q3⟩:=hcnd
     injection hn with hn
     subst hn
     have hd:decN x = ⟨31,dN x,aN x,0,nN x⟩:=by unfold decN; rw [ho]; rfl
     rw [hd]
     refine (does_addi h.core (dN x) (aN x) (nN x) (dN_lt x) (aN_lt x) (by omega) (by omega) hml).mono ?_
     rintro e w' ⟨he,hp⟩
     refine ⟨he,?_⟩
     have hp:=h.of_core hp
     have e2:=csM_goes hok (m.pc + 1) ⟨m.pc,0,1⟩ rfl (show 1≤3 by decide) (m.rg.set (dN x) (kW ((m.r (aN x)).v + nN x))) m.mm hst
     rw [regC_csM hok (aN_lt x),show wrap32 ((m.r (aN x)).v + ((nN x:Nat):Int)) = (kW ((m.r (aN x)).v + nN x)).v from rfl,putC_csM m _ _ q3] at hp
     unfold onC at hp
     rw [show wrap64 (({ csM m with regs:=(m.rg.set (dN x) (kW ((m.r (aN x)).v + nN x))).map (·.v) }:CS).pc + 1) = ((m.pc + 1:Nat):Int) from wrap_pc hok] at hp
     exact e2 ▸ hp
   · cases hn
 split at hn
 · -- blt
   rename_i ho
   have hd:decN x = ⟨38,dN x,aN x,0,nN x⟩:=by unfold decN; rw [ho]; rfl
   rw [hd]
   refine (does_blt h.core (dN x) (aN x) (nN x) (dN_lt x) (aN_lt x) hml).mono ?_
   rintro e w' ⟨he,hp⟩
   refine ⟨he,?_⟩
   have hp:=h.of_core hp
   rw [regC_csM hok (aN_lt x),regC_csM hok (dN_lt x)] at hp
   split at hn
   · rename_i hlt
     injection hn with hn
     subst hn
     have e2:=csM_goes hok (nN x) ⟨m.pc,0,3⟩ rfl (show 3≤3 by decide) m.rg m.mm hst
     unfold branchC at hp
     rw [decide_eq_true hlt,if_pos rfl] at hp
     exact e2 ▸ hp
   · rename_i hlt
     injection hn with hn
     subst hn
     have e2:=csM_goes hok (m.pc + 1) ⟨m.pc,0,1⟩ rfl (show 1≤3 by decide) m.rg m.mm hst
     unfold branchC onC at hp
     rw [decide_eq_false hlt,if_neg (by decide),wrap_pc hok] at hp
     exact e2 ▸ hp
 split at hn
 · -- halt
   rename_i ho
   have hd:decN x = ⟨43,0,0,0,0⟩:=by unfold decN; rw [ho]; rfl
   rw [hd]
   injection hn with hn
   subst hn
   refine (does_halt h.core hml h.env.tab h.env.lt).mono ?_
   rintro e w' ⟨he,hp⟩
   refine ⟨he,?_⟩
   have hp:=h.of_core hp
   have e2:=csM_goes hok m.pc ⟨m.pc,0,1⟩ rfl (show 1≤3 by decide) m.rg m.mm hst
   have e3:haltC (csM m) = csM ⟨m.rg,m.mm,m.pc,1,m.ks ++ [⟨m.pc,0,1⟩]⟩:=by
    unfold haltC
    have e4:goesC (csM m) (csM m).pc (-1) 1 = csM ⟨m.rg,m.mm,m.pc,0,m.ks ++ [⟨m.pc,0,1⟩]⟩:=e2
    rw [e4]
    rfl
   rw [e3] at hp
   exact hp
 split at hn
 · -- alu
   rename_i hcnd
   obtain ⟨ha,hd0⟩:=hcnd
   injection hn with hn
   subst hn
   obtain ⟨l1,l2,l3,l4⟩:=aluB_le ha
   have key:∀ (bb:Nat) (hb:bb < 32) (hy:aluW (opN x) (m.r (aN x)) (m.r bb) = aluW (opN x) (m.r (aN x)) (m.r (bN x))),
    Calls Tryz.prog 107 #[.pointer (some ⟨c,0,none⟩),insVal ⟨((opN x:Nat):Int),dN x,aN x,bb,0⟩] w fun e w' => (∃ v,e = .returned v)∧CMP (csM (m.put (dN x) (aluW (opN x) (m.r (aN x)) (m.r (bN x))) (m.pc + 1) ⟨m.pc,0,aluCost (opN x)⟩)) (wsM m) c b r cv mv code w w':=by
    intro bb hb hy
    refine (does_alu h.core (opN x) (aluW (opN x) (m.r (aN x)) (m.r bb)).v (aluCost (opN x)) (dN x) (aN x) bb (by omega) (dN_lt x) (aN_lt x) hb hml (fun W => ?_) (fun W hc => ?_) h.env.tab h.env.lt h.env.far).mono ?_
    · rw [regC_csM hok (aN_lt x),regC_csM hok hb]
      exact do_any (opN x) ha _ _ W
    · rw [← aluCost_of ha]
      exact alucost_calls (opN x) _ W hc (by omega) (by omega)
    · rintro e w' ⟨he,hp⟩
      refine ⟨he,?_⟩
      have hp:=h.of_core hp
      have e2:=csM_goes hok (m.pc + 1) ⟨m.pc,0,aluCost (opN x)⟩ rfl (aluCost_le _) (m.rg.set (dN x) (aluW (opN x) (m.r (aN x)) (m.r (bN x)))) m.mm hst
      rw [hy,putC_csM m _ _ hd0] at hp
      unfold onC at hp
      rw [show wrap64 (({ csM m with regs:=(m.rg.set (dN x) (aluW (opN x) (m.r (aN x)) (m.r (bN x)))).map (·.v) }:CS).pc + 1) = ((m.pc + 1:Nat):Int) from wrap_pc hok] at hp
      exact e2 ▸ hp
   by_cases h23:opN x≤23
   · have hd:decN x = ⟨((opN x:Nat):Int),dN x,aN x,bN x,0⟩:=by unfold decN; rw [if_pos h23]
     rw [hd]
     exact key (bN x) (bN_lt x) rfl
   · have hd:decN x = ⟨((opN x:Nat):Int),dN x,aN x,((0:Nat):Int),0⟩:=by unfold decN; rw [if_neg h23,if_pos l1]; rfl
     rw [hd]
     exact key 0 (by decide) (aluW_one ha h23 _ _ _)
 · cases hn
end Go.Proofs.YtjcgiddgafjdpaaGreatDoor

/- The core with its memory: Step, Run, of a made program. -/
namespace Go.Proofs.YtjcgiddgafjdpaaGreatDoor
open Go.RowKit Go.Deep Go.Maps Go.Proofs.YtjcgiddgafjdpaaGreatDoor.Ab
set_option linter.unusedVariables false
attribute [local go_sem] Oper.semAt_some
def rowsOf (words:List Nat):List (Ins5 × Bool):=words.map fun w => (decN w,true)
theorem step_next {w:World} {c b r:Nat} {cv mv:Value} {words:List Nat} {m m':Ma} (h:CM w c b r cv mv (rowsOf words) (csM m) (wsM m)) (hok:MOk m) (hn:Nx words m m') (hl:words.length≤100000) :
 Calls Tryz.prog 58 #[.pointer (some ⟨c,0,none⟩)] w fun e w' => e = .returned (.bool true)∧CMP (csM m') (wsM m') c b r cv mv (rowsOf words) w w':=by
 obtain ⟨hst,x,hx,hn⟩:=hn
 refine step_runsQ (Q:=fun w w' => CMP (csM m') (wsM m') c b r cv mv (rowsOf words) w w') (fun _ _ _ hc hp => CMP.alloc hc hp) h.core m.pc rfl (decN x) ?_ (by show ((m.st:Nat):Int) = 0; rw [hst]; rfl) (by simpa [rowsOf] using hl) (fun W hc => ?_)
 · simp [rowsOf,hx]
 · exact does_next (h.chg hc (fun k _ => by simp) (by simp)) hok hst x hn
theorem nextM_ok {m m':Ma} {x:Nat} (hok:MOk m) (hn:nextM x m = some m'):m'.rg.length = 32∧m'.pc≤65537∧m'.ks.length = m.ks.length + 1∧(∀ k∈m'.ks,k.co≤3)∧m'.mm.length = m.mm.length:=by
 have hco:∀ (k:Mk),k.co≤3→∀ y∈m.ks ++ [k],y.co≤3:=fun k hk y hy => by
  rcases List.mem_append.1 hy with h | h
  · exact hok.co y h
  · simp at h; subst h; exact hk
 have hp:=hok.pc
 have hr:=hok.rg
 have hN:=nN_lt x
 unfold nextM at hn
 split at hn
 · split at hn
   · injection hn with hn
     subst hn
     exact ⟨by simp [Ma.put,hr],by show m.pc + 1≤_; omega,by simp [Ma.put],hco _ (costK_le _),rfl⟩
   · cases hn
 split at hn
 · split at hn
   · injection hn with hn
     subst hn
     exact ⟨hr,by show m.pc + 1≤_; omega,by simp,hco _ (costK_le _),by simp⟩
   · cases hn
 split at hn
 · split at hn
   · injection hn with hn
     subst hn
     exact ⟨by simp [Ma.put,hr],by show m.pc + 1≤_; omega,by simp [Ma.put],hco _ (show 1≤3 by decide),rfl⟩
   · cases hn
 split at hn
 · split at hn
   · injection hn with hn
     subst hn
     exact ⟨hr,by show nN x≤_; omega,by simp,hco _ (show 3≤3 by decide),rfl⟩
   · injection hn with hn
     subst hn
     exact ⟨hr,by show m.pc + 1≤_; omega,by simp,hco _ (show 1≤3 by decide),rfl⟩
 split at hn
 · injection hn with hn
   subst hn
   exact ⟨hr,by show m.pc≤_; omega,by simp,hco _ (show 1≤3 by decide),rfl⟩
 split at hn
 · injection hn with hn
   subst hn
   exact ⟨by simp [Ma.put,hr],by show m.pc + 1≤_; omega,by simp [Ma.put],hco _ (aluCost_le _),rfl⟩
 · cases hn
theorem reach_seq {X:Type} {nx:X→X→Prop}:∀ {n:Nat} {x y:X},Ab.Reach nx n x y→∃ it:Nat→X,it 0 = x∧it n = y∧∀ j,j < n→nx (it j) (it (j + 1))
 | _,x,_,.nil _ => ⟨fun _ => x,rfl,rfl,fun j hj => by omega⟩
 | _,x,z,.cons (n:=n) h h1 => by
  obtain ⟨it,i0,iN,is⟩:=reach_seq h1
  refine ⟨fun j => match j with | 0 => x | j + 1 => it j,rfl,iN,fun j hj => ?_⟩
  cases j with
  | zero => show nx x (it 0); rw [i0]; exact h
  | succ j => exact is j (by omega)
theorem seq_ok {words:List Nat} (hl:words.length≤60000) {it:Nat→Ma} {n:Nat} (hn:n≤1048000) (h0:MOk (it 0)) (hk:(it 0).ks.length = 0) (h:∀ j,j < n→Nx words (it j) (it (j + 1))):∀ j,j < n→MOk (it j)∧(it j).ks.length = j
 | 0,hj => ⟨h0,hk⟩
 | j + 1,hj => by
  obtain ⟨ih,ik⟩:=seq_ok hl hn h0 hk h j (by omega)
  obtain ⟨_,x,hx,hnx⟩:=h j (by omega)
  obtain ⟨a1,a2,a3,a4,_⟩:=nextM_ok ih hnx
  obtain ⟨_,y,hy,_⟩:=h (j + 1) hj
  have hpc:=(List.getElem?_eq_some_iff.1 hy).1
  exact ⟨⟨a1,by omega,by omega,a4⟩,by omega⟩
set_option maxRecDepth 100000 in
set_option maxHeartbeats 1000000 in
theorem run_next {w:World} {c b r:Nat} {cv mv:Value} {words:List Nat} {m m':Ma} {N fuel:Nat} (h:CM w c b r cv mv (rowsOf words) (csM m) (wsM m)) (hok:MOk m) (hk0:m.ks.length = 0) (hr:Ab.Reach (Nx words) N m m') (hend:m'.st = 1) (hl:words.length≤60000) (hN:N≤1048000) (hf:fuel≤1048576) (hNf:N < fuel) :
 Calls Tryz.prog 27 #[.pointer (some ⟨c,0,none⟩),.int .i64 fuel] w fun e w' => e = .returned (.int .i64 N)∧CMP (csM m') (wsM m') c b r cv mv (rowsOf words) w w':=by
 obtain ⟨it,i0,iN,is⟩:=reach_seq hr
 have hoks:=seq_ok hl hN (by rw [i0]; exact hok) (by rw [i0]; exact hk0) is
 have H:Hid (CMP (csM (it 0)) (wsM (it 0)) c b r cv mv (rowsOf words) w w):=hide ⟨Chg.refl _ _,mv,.inl rfl,by rw [i0]; exact h⟩
 have HIS:=hide is
 have HOK:=hide hoks
 have HIN:=hide iN
 have HE:Hid ((csM (it N)).st≠0):=hide (by rw [iN]; show ((m'.st:Nat):Int)≠0; rw [hend]; decide)
 have hl2:words.length≤100000:=by omega
 clear h hok hk0 hr hend i0 iN is hoks
 have hmin:min (fuel:Int) 1048576 = fuel:=by omega
 go_enter Tryz.func27,Tryz.ntmps27
 go_wp2
 go_loopw [5] (fun i wr => ∃ j:Nat,j≤N∧i = .int .i64 j∧Hid (CMP (csM (it j)) (wsM (it j)) c b r cv mv (rowsOf words) w wr)) (fun i _ => N + 1 - (intOf i).toNat)
 case atStart => exact ⟨0,Nat.zero_le _,rfl,H⟩
 case round =>
  obtain ⟨j,hj,rfl,HC⟩:=hrel
  obtain ⟨hc,mv',hmv,hb⟩:=HC.out
  have hjf:decide ((j:Int) < (fuel:Int)) = true:=by simp; omega
  by_cases hlt:j < N
  · have hsg:=step_next hb (HOK.out j hlt).1 (HIS.out j hlt) hl2
    have HSG:=hide hsg
    have HX:=hide hc
    have HV:=hide hmv
    clear hsg hc hmv hb
    go_wp2_with fail
    go_at_call 58
    refine HSG.out.mono ?_
    rintro e w1 ⟨rfl,hp⟩
    have HN:Hid (CMP (csM (it (j + 1))) (wsM (it (j + 1))) c b r cv mv (rowsOf words) w w1):=hide (CMP.step HX.out HV.out hp)
    clear hp HSG
    go_wp2
    go_roundw
    case rel => exact ⟨j + 1,by omega,by go_num,HN⟩
    case measure => simp [intOf]; omega
  · obtain rfl:j = N:=by omega
    have hss:=step_still hb.core HE.out
    clear hc hmv hb
    go_wp2_with fail
    go_at_call 58
    refine hss.mono ?_
    rintro e w1 ⟨rfl,rfl⟩
    go_wp2
    go_ret
    rw [HIN.out] at HC
    exact ⟨rfl,HC.out⟩
end Go.Proofs.YtjcgiddgafjdpaaGreatDoor

/- The core: Poke, Load, Cycles, Begin. -/
namespace Go.Proofs.YtjcgiddgafjdpaaGreatDoor
open Go Go.RowKit Go.Deep Go.Maps
set_option linter.unusedVariables false
attribute [local go_sem] Oper.semAt_some
set_option maxRecDepth 100000 in
theorem within_calls (a:Nat) (ha:a < 2048) (w:World):Calls Tryz.prog 56 #[.int .i64 (a:Int)] w fun e w' => e = .returned (.bool true)∧w = w':=by
 have x1:decide ((a:Int) < 0) = false:=decide_eq_false (by omega)
 have x2:decide ((0:Int)≤(a:Int)) = true:=decide_eq_true (by omega)
 have x3:decide ((a:Int) < 2048) = true:=decide_eq_true (by omega)
 go_enter Tryz.func56,Tryz.ntmps56
 go_wp2
 go_ret
 exact ⟨rfl,rfl⟩
section
variable {w:World} {c b r:Nat} {cv mv:Value} {code:List (Ins5 × Bool)} {s:CS} {ws:List Int}
theorem CM.poked {w':World} {ws':List Int} (h:CM w c b r cv mv code s ws) (hc:Chg w w' [r]) (hr:IsRam w' b r ws'):CM w' c b r cv mv code s ws' :=
 ⟨h.core.chg hc (fun k hk hm => h.far.2 (by simp at hm; exact hm ▸ hk)),hr,⟨h.env.tab.chg hc h.env.lt (by simpa using h.gr),Nat.lt_of_lt_of_le h.env.lt hc.size,h.env.far⟩,h.gb,h.gr⟩
set_option maxRecDepth 100000 in
theorem poke_calls (h:CM w c b r cv mv code s ws) (a:Nat) (x:Int) (ha:a < ws.length) :
 Calls Tryz.prog 25 #[.pointer (some ⟨c,0,none⟩),.int .i64 (a:Int),.int .i32 x] w fun e w' => e = .returned (.bool true)∧Chg w w' [r]∧CM w' c b r cv mv code s (ws.set a x):=by
 have hn:=h.ram.n
 have hl:=clive_calls h.core
 have hwi:=within_calls a (by omega)
 have hst:=store_any b r ws (a:Int) x w h.ram (by omega) (by omega)
 rw [show inB ws (a:Int) = true from decide_eq_true ⟨by omega,by omega⟩,show st ws (a:Int) x = ws.set a x by unfold st; rw [if_pos ⟨by omega,by omega⟩]; rfl] at hst
 have c0:=h.core.blk.cell' (i:=0) rfl
 have hw:IntKind.i32.wrap (a:Int) = (a:Int):=by rw [IntKind.wrap_i32]; omega
 have H:=hide h
 clear h
 go_enter Tryz.func25,Tryz.ntmps25
 go_wp2_with fail
 go_at_call 55
 refine hl.mono ?_
 rintro e w1 ⟨rfl,rfl⟩
 go_wp2_with fail
 go_at_call 56
 refine (hwi _).mono ?_
 rintro e w1 ⟨rfl,rfl⟩
 go_wp2_with fail
 go_at_call 57
 refine hst.mono ?_
 rintro e w1 ⟨rfl,hr,hc⟩
 have HR:=hide hr
 have HC:=hide hc
 clear hr hc hst hl
 go_wp2
 go_ret
 exact ⟨rfl,HC.out,H.out.poked HC.out HR.out⟩
set_option maxRecDepth 100000 in
theorem cload_calls (h:CM w c b r cv mv code s ws) (a:Nat) (x:Int) (ha:ws[a]? = some x) :
 Calls Tryz.prog 28 #[.pointer (some ⟨c,0,none⟩),.int .i64 (a:Int)] w fun e w' => e = .returned (.tuple #[.int .i32 x,.bool true])∧Chg w w' []:=by
 have hal:=(List.getElem?_eq_some_iff.1 ha).1
 have hn:=h.ram.n
 have hl:=clive_calls h.core
 have hwi:=within_calls a (by omega)
 have hst:=load_any b r ws (a:Int) w h.ram (by omega) (by omega)
 rw [show inB ws (a:Int) = true from decide_eq_true ⟨by omega,by omega⟩,show ld ws (a:Int) = x by unfold ld; rw [if_pos ⟨by omega,by omega⟩]; simp [List.getD,ha]] at hst
 have c0:=h.core.blk.cell' (i:=0) rfl
 have hw:IntKind.i32.wrap (a:Int) = (a:Int):=by rw [IntKind.wrap_i32]; omega
 clear h
 go_enter Tryz.func28,Tryz.ntmps28
 go_wp2_with fail
 go_at_call 55
 refine hl.mono ?_
 rintro e w1 ⟨rfl,rfl⟩
 go_wp2_with fail
 go_at_call 56
 refine (hwi _).mono ?_
 rintro e w1 ⟨rfl,rfl⟩
 go_wp2_with fail
 go_at_call 59
 refine hst.mono ?_
 rintro e w1 ⟨rfl,hc⟩
 have HC:=hide hc
 clear hc hst hl
 go_wp2
 go_ret2
 exact ⟨rfl,HC.out⟩
set_option maxRecDepth 100000 in
theorem ccycles_calls {bp:Addr} (h:CB w c (.pointer (some bp)) cv mv code s):Calls Tryz.prog 24 #[.pointer (some ⟨c,0,none⟩)] w fun e w' => e = .returned (.int .i64 s.cost)∧w = w':=by
 have hl:=clive_calls h
 have c36:=h.blk.cell' (@cc_at _ cv mv s h.reg).2.2.1
 clear h
 go_enter Tryz.func24,Tryz.ntmps24
 go_wp2_with (go_at_call 55; refine hl.mono ?_; rintro e w1 ⟨rfl,rfl⟩)
 go_ret
 exact ⟨rfl,rfl⟩
end
end Go.Proofs.YtjcgiddgafjdpaaGreatDoor

/- The core: Begin, Marks. -/
namespace Go.Proofs.YtjcgiddgafjdpaaGreatDoor
open Go Go.RowKit Go.Deep Go.Maps
set_option linter.unusedVariables false
attribute [local go_sem] Oper.semAt_some
theorem zero_one (bb:Addr) (A:Option Addr) (n c:Nat):(zeroCells (.pointer (some bb)) (.slice A n c)).toArray.all (·.oneCell') = true:=by
 rw [List.all_toArray]
 cases A <;> rfl
theorem chg_setRow (w:World) (g:Nat) (cs:Array Value):Chg w (w.setRow g cs) [g] :=
 ⟨rfl,rfl,rfl,by simp [World.setRow],fun k hk hn => setRow_other w g k cs (fun e => hn (by simp [e]))⟩
section
variable {w:World} {c b r:Nat} {cv mv:Value} {code:List (Ins5 × Bool)} {s:CS} {ws:List Int}
set_option maxRecDepth 100000 in
set_option maxHeartbeats 1000000 in
theorem begin_calls (h:CM w c b r cv mv code s ws) :
 Calls Tryz.prog 26 #[.pointer (some ⟨c,0,none⟩)] w fun e w' => e = .returned (.tuple #[])∧Chg w w' [c]∧CM w' c b r cv (.slice none 0 0) code cs00 ws:=by
 have hl:=clive_calls h.core
 have H:=hide h
 obtain ⟨A,cc,hcv⟩:=own_slice h.core.rowC
 subst hcv
 have c0:=h.core.blk.cell' (i:=0) rfl
 have c1:=h.core.blk.cell' (i:=1) rfl
 have hlt:=h.core.blk.lt
 have hblk:=h.core.blk.drew
 have hsz:(coreCells (.pointer (some ⟨b,0,none⟩)) (.slice A code.length cc) mv s).toArray.size = (zeroCells (.pointer (some ⟨b,0,none⟩)) (.slice A code.length cc)).toArray.size:=by
  simp [coreCells,zeroCells,cs00,h.core.reg]
 have HB:=hide hblk
 have HSZ:=hide hsz
 clear h hblk hsz
 go_enter Tryz.func26,Tryz.ntmps26
 go_wp2_with (go_at_call 55; refine hl.mono ?_; rintro e w1 ⟨rfl,rfl⟩)
 go_still_tail 11,(by kernel_rfl)
 change wpList _ _ _ _ _ w.drew
 refine wpList_store_row rfl 115 _ _ rfl c (zeroCells (.pointer (some ⟨b,0,none⟩)) (.slice A code.length cc)).toArray rfl rfl 115 _ HB.out (by kernel_rfl) HSZ.out (zero_one _ _ _ _) ?_
 have hb':Blk (w.drew.setRow c (zeroCells (.pointer (some ⟨b,0,none⟩)) (.slice A code.length cc)).toArray) c 115 (coreCells (.pointer (some ⟨b,0,none⟩)) (.slice A code.length cc) (.slice none 0 0) cs00):=setRow_heap w.drew c _ _ _ _ HB.out
 have hc':Chg w (w.drew.setRow c (zeroCells (.pointer (some ⟨b,0,none⟩)) (.slice A code.length cc)).toArray) [c]:=((Chg.refl w [c]).drew).trans (chg_setRow _ _ _) (fun k hk => .inl hk)
 generalize w.drew.setRow c (zeroCells (.pointer (some ⟨b,0,none⟩)) (.slice A code.length cc)).toArray = w2 at *
 have HB':=hide hb'
 have HC':=hide hc'
 clear hb' hc' c0 c1
 go_wp2
 refine bodyPost_end (results_none rfl _ _ _) rfl ⟨rfl,HC'.out,?_⟩
 obtain ⟨n1,n2,n3⟩:=H.out.core.ne
 obtain ⟨f1,f2⟩:=H.out.far
 have fb:b≠c:=fun e => f1 (by simp [footC,e])
 have fr:r≠c:=fun e => f2 (by simp [footC,e])
 exact ⟨⟨HB'.out,own_chgD H.out.core.rowC HC'.out (fun g hg hm => by simp at hm; subst hm; exact n1 hg),World.ownsRow_nil _ _ _ _,by simp [cs00]⟩,
  H.out.ram.chg HC'.out (by simpa using fb) (by simpa using fr),
  ⟨H.out.env.tab.chg HC'.out H.out.env.lt (fun hm => H.out.env.far (by simp at hm; simp [footC,hm])),Nat.lt_of_lt_of_le H.out.env.lt HC'.out.size,fun hm => H.out.env.far (by
    simp only [footC,List.mem_append] at hm ⊢
    rcases hm with hm | hm | hm
    · exact .inl hm
    · exact .inr (.inl hm)
    · simp [Value.ownBlock] at hm)⟩,H.out.gb,H.out.gr⟩
end
end Go.Proofs.YtjcgiddgafjdpaaGreatDoor

/- The filter costs something. -/
namespace Go.Proofs.YtjcgiddgafjdpaaGreatDoor
open Go Go.RowKit Go.Proofs.YtjcgiddgafjdpaaGreatDoor.Ab Go.Proofs.YtjcgiddgafjdpaaGreatDoor.Xi
set_option linter.unusedVariables false
def anyCo:List Mk→Bool
 | [] => false
 | k :: l => Nat.ble 1 k.co || anyCo l
theorem anyCo_ok:∀ {l:List Mk},anyCo l = true→∃ k∈l,1≤k.co
 | [],h => by cases h
 | q :: l,h => by
  unfold anyCo at h
  rw [Bool.or_eq_true] at h
  rcases h with h | h
  · exact ⟨q,by simp,ble_iff.1 h⟩
  · obtain ⟨k,hk,hc⟩:=anyCo_ok h
    exact ⟨k,by simp [hk],hc⟩
def costsB (r:Ab.St):Bool:=match r with
 | .done _ _ _ _ M => anyCo M
 | _ => false
set_option maxRecDepth 100000 in
theorem costsFirm:costsB (resA codeFirm 2921 memFirm 908 908 psFirm) = true:=by kernel_rfl
theorem costsFirm':costsB resFirm = true:=costsFirm
theorem sumC_nonneg:∀ l:List Mk,0≤sumC l
 | [] => by simp [sumC]
 | k :: l => by have:=sumC_nonneg l; simp only [sumC]; omega
theorem sumC_pos:∀ {l:List Mk} {k:Mk},k∈l→1≤k.co→0 < sumC l
 | q :: l,k,hk,hc => by
  have h0:=sumC_nonneg l
  simp only [sumC]
  rcases List.mem_cons.1 hk with rfl | hk
  · omega
  · have:=sumC_pos hk hc
    omega
theorem sumC_marksP:0 < sumC marksFirm:=by
 have h:=costsFirm'
 have hm:marksFirm = marksOfF resFirm:=rfl
 generalize resFirm = r at *
 cases r with
 | bad => cases h
 | go _ _ _ _ _ _ => cases h
 | done pc ns mm T M =>
  obtain ⟨k,hk,hc⟩:=anyCo_ok (show anyCo M = true from h)
  rw [show marksFirm = M.reverse from hm]
  exact sumC_pos (List.mem_reverse.2 hk) hc
end Go.Proofs.YtjcgiddgafjdpaaGreatDoor
