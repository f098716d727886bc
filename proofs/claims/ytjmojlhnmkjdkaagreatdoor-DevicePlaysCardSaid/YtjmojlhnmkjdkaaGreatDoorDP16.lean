/- Texts of this claim, side by side. -/
import Derived.Test.YtjmojlhnmkjdkaaGreatDoorDP15
import Derived.Test.YtjmojlhnmkjdkaaGreatDoorDP13
set_option linter.unusedVariables false
set_option maxRecDepth 100000
set_option maxHeartbeats 8000000
namespace Go.Proofs.YtjmojlhnmkjdkaaGreatDoor
section
open Go.RowKit Go.Deep Go.Maps Ab
attribute [local go_sem] Oper.semAt_some
theorem Wu{w:World}{c b r:Nat}{cv mv:Value}{code:List (aW×Bool)}{s s':CS}{ws ws':List Int}(h:CM w c b r cv mv code s ws)(op d a n:Nat)(hop:op=34\/op=35)(ha:a<32)
 (hdo:∀ W,ah w W []->Calls Tryz.prog 208 #[.pointer (some ⟨c,0,none⟩),bD ⟨op,d,a,0,n⟩] W fun e w'=>(∃ v,e=.returned v)/\m_ s' ws' c b r cv mv code W w') :
 Calls Tryz.prog 131 #[.pointer (some ⟨c,0,none⟩),bD ⟨op,d,a,0,n⟩] w fun e w'=>(∃ v,e=.returned v)/\m_ s' ws' c b r cv mv code w w':=by
 have H:=hide h;have kM:=hide hdo;have hca:=h.core.blk.cell' (nR h.core.reg a ha);have hlt:=h.core.blk.lt;have ha2:(a:Int)<32:=by omega
 generalize s.regs.getD a 0=ra at *;clear h hdo;unfold bD at kM ⊢;rcases hop with rfl | rfl
 . go_enter Tryz.func131,Tryz.ntmps131
   go_wp2;go_quiet (fail)
   have hc0:ah w ((w.alloc (.cells #[.int .i64 34,.int .i64 d,.int .i64 a,.int .i64 0,.int .i64 n] 126)).drewN nq) []:=((ah.refl w []).alloc _).drewN nq;have HB:=hide (kM.out _ hc0);have mg:=hide hc0;clear hc0;go_wp2_with fail
   go_at_call 208;refine HB.out.mono ?_;rintro e w1 ⟨⟨v,rfl⟩,hp⟩;have HP:=hide hp;clear hp HB;go_wp2;refine bodyPost_end (results_none rfl _ _ _) rfl ?_;exact⟨⟨_,rfl⟩,m_.alloc mg.out HP.out⟩
 . go_enter Tryz.func131,Tryz.ntmps131
   go_wp2;go_quiet (fail)
   have hc0:ah w ((w.alloc (.cells #[.int .i64 35,.int .i64 d,.int .i64 a,.int .i64 0,.int .i64 n] 126)).drewN nq) []:=((ah.refl w []).alloc _).drewN nq;have HB:=hide (kM.out _ hc0);have mg:=hide hc0;clear hc0;go_wp2_with fail
   go_at_call 208;refine HB.out.mono ?_;rintro e w1 ⟨⟨v,rfl⟩,hp⟩;have HP:=hide hp;clear hp HB;go_wp2;refine bodyPost_end (results_none rfl _ _ _) rfl ?_;exact⟨⟨_,rfl⟩,m_.alloc mg.out HP.out⟩
def nS:List Mk->Int
 | []=>0
 | k::l=>(k.co:Int)+nS l
def Wv(k:Mk):Int×Int×Int:=((k.pc:Int),(k.ad:Int) - 1,(k.co:Int))
def jo (m:Ma):CS:=⟨m.rg.map (·.v),(m.pc:Int),(m.st:Int),nS m.ks,m.ks.map Wv⟩
def oz (m:Ma):List Int:=m.mm.map (·.v)
theorem RD(k:Mk):∀ l:List Mk,nS (l++[k])=nS l+(k.co:Int)
 | []=>by simp [nS]
 | x::l=>by simp only [List.cons_append,nS,RD k l]; omega
structure Kq (m:Ma):Prop where
 rg:m.rg.length=32
 pc:m.pc<=65536
 ks:m.ks.length<=1048576
 co:∀ k∈m.ks,k.co<=3
theorem Fh:∀(l:List Mk),(∀ k∈l,k.co<=3)->0<=nS l/\nS l<=3*(l.length:Int)
 | [],_=>by simp [nS]
 | k::l,h=>by
  have h1:=Fh l (fun x hx=>h x (by simp [hx]));have h2:=h k (by simp);simp only [nS,List.length_cons];omega
def iI (w:Nat):aW :=
 if gY w<=23 then⟨gY w,dN w,aN w,bN w,0⟩ else if gY w<=30 then⟨gY w,dN w,aN w,0,0⟩ else if gY w=43 then⟨43,0,0,0,0⟩ else⟨gY w,dN w,aN w,0,nN w⟩
end

section
open Go.RowKit Go.Deep Go.Maps Ab
theorem aqM{x:Int}(h1:-9223372036854775808<=x)(h2:x<=9223372036854775807):wrap64 x=x:=by unfold wrap64; omega
theorem um{m:Ma}(hok:Kq m)(nx:Nat)(k:Mk)(hk:k.pc=m.pc)(hc:k.co<=3)(rg:List Wd)(mm:List Wd)(hst:m.st=0) :
 uZ { jo m with regs:=rg.map (·.v) } (nx:Int) ((k.ad:Int) - 1) (k.co:Int)=jo ⟨rg,mm,nx,0,m.ks++[k]⟩:=by
 obtain⟨b1,b2⟩:=Fh m.ks hok.co;have hl:=hok.ks;unfold uZ jo;simp only [RD,List.map_append,List.map_cons,List.map_nil,hst,Wv,hk];rw [aqM (by omega) (by omega)]
theorem ai2(m:Ma):jo m={ jo m with regs:=m.rg.map (·.v) }:=rfl
theorem LZ(m:Ma)(d:Nat)(x:Wd)(hd:d≠0):wO (jo m) d x.v={ jo m with regs:=(m.rg.set d x).map (·.v) }:=by
 unfold wO;rw [if_neg hd];simp [jo,List.map_set]
theorem qV{m:Ma}(hok:Kq m){i:Nat}(hi:i<32):lN (jo m) i=(m.r i).v:=by
 have hl:=hok.rg;unfold lN jo Ma.r;simp only [List.getD_eq_getElem?_getD,List.getElem?_map];rw [List.getElem?_eq_getElem (by omega)];rfl
theorem D8{m:Ma}(hok:Kq m):wrap64 ((jo m).pc+1)=((m.pc+1:Nat):Int):=by
 have:=hok.pc;show wrap64 ((m.pc:Int)+1)=_;rw [aqM (by omega) (by omega)];omega
theorem Fv(ad:Nat):rJ ad<=3:=by unfold rJ; cases Nat.blt ad 1024<;>decide
theorem Oq(op:Nat):pG op<=3:=by unfold pG; cases (Nat.blt 17 op&&Nat.blt op 22)<;>decide
theorem aah(ad:Nat):Js ad=((rJ ad:Nat):Int):=by
 unfold Js rJ;by_cases h:ad<1024
 . rw [if_pos h,Xi.aI.2 h]; rfl
 . have : Nat.blt ad 1024=false := by
    cases e:Nat.blt ad 1024 with
    | false=>rfl
    | true=>exact absurd (Xi.aI.1 e) h
   rw [if_neg h,this]; rfl
theorem YW:((List.range 31).all fun k=>!Dc k||decide (sJ (k:Int)=((pG k:Nat):Int)))=true:=by kernel_rfl
theorem acI{op:Nat}(h:Dc op=true):sJ (op:Int)=((pG op:Nat):Int):=by
 have h3:=zC h;have h1:=List.all_eq_true.1 YW op (List.mem_range.2 (by omega));rw [h] at h1;exact of_decide_eq_true (by simpa using h1)
theorem aai(x y:Wd):jJ 24 x y=jI x:=by unfold jJ; rfl
theorem aaj(x y:Wd):jJ 25 x y=j_ x:=by unfold jJ; rfl
theorem aak(x y:Wd):jJ 26 x y=iT x:=by unfold jJ; rfl
theorem aal(x y:Wd):jJ 27 x y=kW 0:=by unfold jJ; rfl
theorem aam(x y:Wd):jJ 28 x y=qh x:=by unfold jJ; rfl
theorem aan(x y:Wd):jJ 29 x y=TM x:=by unfold jJ; rfl
theorem aao(x y:Wd):jJ 30 x y=zx x:=by unfold jJ; rfl
theorem ai3{op:Nat}(h:Dc op=true)(h2:¬ op<=23)(x y z:Wd):jJ op x y=jJ op x z:=by
 have h3:op<=30:=by
  rcases zC h with rfl | rfl | rfl | rfl | rfl | rfl | rfl | rfl | rfl | rfl | rfl | rfl | rfl | rfl | rfl | rfl | rfl | rfl | rfl | rfl | rfl | rfl | rfl | rfl<;>decide
 match op,h2,h3 with
 | 0,h,_=>exact absurd (by decide) h
 | 1,h,_=>exact absurd (by decide) h
 | 2,h,_=>exact absurd (by decide) h
 | 3,h,_=>exact absurd (by decide) h
 | 4,h,_=>exact absurd (by decide) h
 | 5,h,_=>exact absurd (by decide) h
 | 6,h,_=>exact absurd (by decide) h
 | 7,h,_=>exact absurd (by decide) h
 | 8,h,_=>exact absurd (by decide) h
 | 9,h,_=>exact absurd (by decide) h
 | 10,h,_=>exact absurd (by decide) h
 | 11,h,_=>exact absurd (by decide) h
 | 12,h,_=>exact absurd (by decide) h
 | 13,h,_=>exact absurd (by decide) h
 | 14,h,_=>exact absurd (by decide) h
 | 15,h,_=>exact absurd (by decide) h
 | 16,h,_=>exact absurd (by decide) h
 | 17,h,_=>exact absurd (by decide) h
 | 18,h,_=>exact absurd (by decide) h
 | 19,h,_=>exact absurd (by decide) h
 | 20,h,_=>exact absurd (by decide) h
 | 21,h,_=>exact absurd (by decide) h
 | 22,h,_=>exact absurd (by decide) h
 | 23,h,_=>exact absurd (by decide) h
 | 24,_,_=>exact(aai x y).trans (aai x z).symm
 | 25,_,_=>exact(aaj x y).trans (aaj x z).symm
 | 26,_,_=>exact(aak x y).trans (aak x z).symm
 | 27,_,_=>exact(aal x y).trans (aal x z).symm
 | 28,_,_=>exact(aam x y).trans (aam x z).symm
 | 29,_,_=>exact(aan x y).trans (aan x z).symm
 | 30,_,_=>exact(aao x y).trans (aao x z).symm
 | _+31,_,h=>exact absurd h (by omega)
theorem anf{op:Nat}(h:Dc op=true):op<=30/\1<=op/\op≠22/\op≠23:=by
 have:=zC h;omega
theorem afW{w:World}{c b r:Nat}{cv mv:Value}{code:List (aW×Bool)}{m m':Ma}(h:CM w c b r cv mv code (jo m) (oz m))(hok:Kq m)(hst:m.st=0)(x:Nat)(hn:mD x m=some m') :
 Calls Tryz.prog 131 #[.pointer (some ⟨c,0,none⟩),bD (iI x)] w fun e w'=>(∃ v,e=.returned v)/\m_ (jo m') (oz m') c b r cv mv code w w':=by
 have hml:(jo m).marks.length<=2000000:=by
  have:=hok.ks;show(m.ks.map Wv).length<=_;rw [List.length_map]; omega
 unfold mD at hn;split at hn
 . -- lw
   rename_i ho;split at hn
   . rename_i hcnd
     obtain⟨q1,q2,q3⟩:=hcnd;injection hn with hn;subst hn;have hd:iI x=⟨((34:Nat):Int),dN x,aN x,0,nN x⟩:=by unfold iI; rw [ho]; rfl
     rw [hd];have hv:lN (jo m) (aN x)=(((m.r (aN x)).v.toNat:Nat):Int):=by rw [qV hok (ni x)]; omega
     have hin:(m.r (aN x)).v.toNat+nN x<(oz m).length:=by simp only [oz,List.length_map]; omega
     refine Wu h 34 (dN x) (aN x) (nN x) (.inl rfl) (ni x) (fun W hc=>?_);refine(afA (h.aj hc (fun k _=>by simp) (by simp)) (dN x) (aN x) (nN x) _ (tK x) (ni x) hv hin hml).mono ?_;rintro e w' ⟨he,hp⟩;refine⟨he,?_⟩
     have e1:(oz m).getD ((m.r (aN x)).v.toNat+nN x) 0=(m.mm.getD ((m.r (aN x)).v.toNat+nN x) (kW 0)).v:=by
      simp only [oz,List.getD_eq_getElem?_getD,List.getElem?_map];rw [List.getElem?_eq_getElem (by simpa [oz] using hin)];rfl
     have e2:=um hok (m.pc+1) ⟨m.pc,(m.r (aN x)).v.toNat+nN x+1,rJ ((m.r (aN x)).v.toNat+nN x)⟩ rfl (Fv _) (m.rg.set (dN x) (m.mm.getD ((m.r (aN x)).v.toNat+nN x) (kW 0))) m.mm hst;rw [e1,LZ m _ _ q3,D8 hok,aah] at hp;rw [show(((m.r (aN x)).v.toNat:Nat):Int)+((nN x:Nat):Int)=(((m.r (aN x)).v.toNat+nN x+1:Nat):Int) - 1 by omega] at hp;rw [e2] at hp;exact hp
   . cases hn
 split at hn
 . -- sw
   rename_i ho;split at hn
   . rename_i hcnd
     obtain⟨q1,q2⟩:=hcnd;injection hn with hn;subst hn;have hd:iI x=⟨((35:Nat):Int),dN x,aN x,0,nN x⟩:=by unfold iI; rw [ho]; rfl
     rw [hd];have hv:lN (jo m) (aN x)=(((m.r (aN x)).v.toNat:Nat):Int):=by rw [qV hok (ni x)]; omega
     have hin:(m.r (aN x)).v.toNat+nN x<(oz m).length:=by simp only [oz,List.length_map]; omega
     refine Wu h 35 (dN x) (aN x) (nN x) (.inr rfl) (ni x) (fun W hc=>?_);refine(afC (h.aj hc (fun k _=>by simp) (by simp)) (dN x) (aN x) (nN x) _ (tK x) (ni x) hv hin hml).mono ?_;rintro e w' ⟨he,hp⟩;refine⟨he,?_⟩
     have e1:(oz m).set ((m.r (aN x)).v.toNat+nN x) (lN (jo m) (dN x))=oz ⟨m.rg,m.mm.set ((m.r (aN x)).v.toNat+nN x) (m.r (dN x)),m.pc+1,0,m.ks++[⟨m.pc,(m.r (aN x)).v.toNat+nN x+1,rJ ((m.r (aN x)).v.toNat+nN x)⟩]⟩:=by
      rw [qV hok (tK x)];simp [oz,List.map_set]
     have e2:=um hok (m.pc+1) ⟨m.pc,(m.r (aN x)).v.toNat+nN x+1,rJ ((m.r (aN x)).v.toNat+nN x)⟩ rfl (Fv _) m.rg (m.mm.set ((m.r (aN x)).v.toNat+nN x) (m.r (dN x))) hst;rw [e1,D8 hok,aah,show(((m.r (aN x)).v.toNat:Nat):Int)+((nN x:Nat):Int)=(((m.r (aN x)).v.toNat+nN x+1:Nat):Int) - 1 by omega,ai2 m,e2] at hp;exact hp
   . cases hn
 split at hn
 . -- addi
   rename_i ho;split at hn
   . rename_i hcnd
     obtain⟨q1,q2,q3⟩:=hcnd;injection hn with hn;subst hn;have hd:iI x=⟨31,dN x,aN x,0,nN x⟩:=by unfold iI; rw [ho]; rfl
     rw [hd];refine(afv h.core (dN x) (aN x) (nN x) (tK x) (ni x) (by omega) (by omega) hml).mono ?_;rintro e w' ⟨he,hp⟩;refine⟨he,?_⟩;have hp:=h.wP hp;have e2:=um hok (m.pc+1) ⟨m.pc,0,1⟩ rfl (show 1<=3 by decide) (m.rg.set (dN x) (kW ((m.r (aN x)).v+nN x))) m.mm hst;rw [qV hok (ni x),show wrap32 ((m.r (aN x)).v+((nN x:Nat):Int))=(kW ((m.r (aN x)).v+nN x)).v from rfl,LZ m _ _ q3] at hp;unfold Wj at hp;rw [show wrap64 (({ jo m with regs:=(m.rg.set (dN x) (kW ((m.r (aN x)).v+nN x))).map (·.v) }:CS).pc+1)=((m.pc+1:Nat):Int) from D8 hok] at hp
     exact e2▸hp
   . cases hn
 split at hn
 . -- blt
   rename_i ho;have hd:iI x=⟨38,dN x,aN x,0,nN x⟩:=by unfold iI; rw [ho]; rfl
   rw [hd];refine(aiQ h.core (dN x) (aN x) (nN x) (tK x) (ni x) hml).mono ?_;rintro e w' ⟨he,hp⟩;refine⟨he,?_⟩;have hp:=h.wP hp;rw [qV hok (ni x),qV hok (tK x)] at hp;split at hn
   . rename_i hlt
     injection hn with hn;subst hn;have e2:=um hok (nN x) ⟨m.pc,0,3⟩ rfl (show 3<=3 by decide) m.rg m.mm hst;unfold DX at hp;rw [decide_eq_true hlt,if_pos rfl] at hp;exact e2▸hp
   . rename_i hlt
     injection hn with hn;subst hn;have e2:=um hok (m.pc+1) ⟨m.pc,0,1⟩ rfl (show 1<=3 by decide) m.rg m.mm hst;unfold DX Wj at hp;rw [decide_eq_false hlt,if_neg (by decide),D8 hok] at hp;exact e2▸hp
 split at hn
 . -- halt
   rename_i ho;have hd:iI x=⟨43,0,0,0,0⟩:=by unfold iI; rw [ho]; rfl
   rw [hd];injection hn with hn;subst hn;refine(afy h.core hml h.env.tab h.env.lt).mono ?_;rintro e w' ⟨he,hp⟩;refine⟨he,?_⟩;have hp:=h.wP hp;have e2:=um hok m.pc ⟨m.pc,0,1⟩ rfl (show 1<=3 by decide) m.rg m.mm hst
   have e3:N_ (jo m)=jo ⟨m.rg,m.mm,m.pc,1,m.ks++[⟨m.pc,0,1⟩]⟩:=by
    unfold N_;have e4:uZ (jo m) (jo m).pc (-1) 1=jo ⟨m.rg,m.mm,m.pc,0,m.ks++[⟨m.pc,0,1⟩]⟩:=e2;rw [e4];rfl
   rw [e3] at hp;exact hp
 split at hn
 . -- alu
   rename_i hcnd;obtain⟨ha,hd0⟩:=hcnd;injection hn with hn;subst hn;obtain⟨l1,l2,l3,l4⟩:=anf ha
   have key:∀(bb:Nat) (hb:bb<32) (hy:jJ (gY x) (m.r (aN x)) (m.r bb)=jJ (gY x) (m.r (aN x)) (m.r (bN x))),
    Calls Tryz.prog 131 #[.pointer (some ⟨c,0,none⟩),bD ⟨((gY x:Nat):Int),dN x,aN x,bb,0⟩] w fun e w'=>(∃ v,e=.returned v)/\m_ (jo (m.put (dN x) (jJ (gY x) (m.r (aN x)) (m.r (bN x))) (m.pc+1) ⟨m.pc,0,pG (gY x)⟩)) (oz m) c b r cv mv code w w':=by
    intro bb hb hy;refine(aiO h.core (gY x) (jJ (gY x) (m.r (aN x)) (m.r bb)).v (pG (gY x)) (dN x) (aN x) bb (by omega) (tK x) (ni x) hb hml (fun W=>?_) (fun W hc=>?_) h.env.tab h.env.lt h.env.far).mono ?_
    . rw [qV hok (ni x),qV hok hb]
      exact aqv (gY x) ha _ _ W
    . rw [<- acI ha]
      exact SQ (gY x) _ W hc (by omega) (by omega)
    . rintro e w' ⟨he,hp⟩
      refine⟨he,?_⟩;have hp:=h.wP hp;have e2:=um hok (m.pc+1) ⟨m.pc,0,pG (gY x)⟩ rfl (Oq _) (m.rg.set (dN x) (jJ (gY x) (m.r (aN x)) (m.r (bN x)))) m.mm hst;rw [hy,LZ m _ _ hd0] at hp;unfold Wj at hp;rw [show wrap64 (({ jo m with regs:=(m.rg.set (dN x) (jJ (gY x) (m.r (aN x)) (m.r (bN x)))).map (·.v) }:CS).pc+1)=((m.pc+1:Nat):Int) from D8 hok] at hp
      exact e2▸hp
   by_cases h23:gY x<=23
   . have hd:iI x=⟨((gY x:Nat):Int),dN x,aN x,bN x,0⟩:=by unfold iI; rw [if_pos h23]
     rw [hd];exact key (bN x) (ak9 x) rfl
   . have hd:iI x=⟨((gY x:Nat):Int),dN x,aN x,((0:Nat):Int),0⟩:=by unfold iI; rw [if_neg h23,if_pos l1]; rfl
     rw [hd];exact key 0 (by decide) (ai3 ha h23 _ _ _)
 . cases hn
end

section
open Go.RowKit Go.Deep Go.Maps Ab
attribute [local go_sem] Oper.semAt_some
def rowsOf(words:List Nat):List (aW×Bool):=words.map fun w=>(iI w,true)
theorem step_next {w:World} {c b r:Nat} {cv mv:Value} {words:List Nat} {m m':Ma} (h:CM w c b r cv mv (rowsOf words) (jo m) (oz m)) (hok:Kq m) (hn:Nx words m m') (hl:words.length<=100000) :
 Calls Tryz.prog 69 #[.pointer (some ⟨c,0,none⟩)] w fun e w'=>e=.returned (.bool true)/\m_ (jo m') (oz m') c b r cv mv (rowsOf words) w w':=by
 obtain⟨hst,x,hx,hn⟩:=hn;refine acr (Q:=fun w w'=>m_ (jo m') (oz m') c b r cv mv (rowsOf words) w w') (fun _ _ _ hc hp=>m_.alloc hc hp) h.core m.pc rfl (iI x) ?_ (by show((m.st:Nat):Int)=0; rw [hst]; rfl) (by simpa [rowsOf] using hl) (fun W hc=>?_)
 . simp [rowsOf,hx]
 . exact afW (h.aj hc (fun k _=>by simp) (by simp)) hok hst x hn
theorem ai4{m m':Ma}{x:Nat}(hok:Kq m)(hn:mD x m=some m'):m'.rg.length=32/\m'.pc<=65537/\m'.ks.length=m.ks.length+1/\(∀ k∈m'.ks,k.co<=3)/\m'.mm.length=m.mm.length:=by
 have hco:∀(k:Mk),k.co<=3->∀ y∈m.ks++[k],y.co<=3:=fun k hk y hy=>by
  rcases List.mem_append.1 hy with h | h
  . exact hok.co y h
  . simp at h; subst h; exact hk
 have hp:=hok.pc;have hr:=hok.rg;have hN:=atX x;unfold mD at hn;split at hn
 . split at hn
   . injection hn with hn
     subst hn;exact⟨by simp [Ma.put,hr],by show m.pc+1<=_; omega,by simp [Ma.put],hco _ (Fv _),rfl⟩
   . cases hn
 split at hn
 . split at hn
   . injection hn with hn
     subst hn;exact⟨hr,by show m.pc+1<=_; omega,by simp,hco _ (Fv _),by simp⟩
   . cases hn
 split at hn
 . split at hn
   . injection hn with hn
     subst hn;exact⟨by simp [Ma.put,hr],by show m.pc+1<=_; omega,by simp [Ma.put],hco _ (show 1<=3 by decide),rfl⟩
   . cases hn
 split at hn
 . split at hn
   . injection hn with hn
     subst hn;exact⟨hr,by show nN x<=_; omega,by simp,hco _ (show 3<=3 by decide),rfl⟩
   . injection hn with hn
     subst hn;exact⟨hr,by show m.pc+1<=_; omega,by simp,hco _ (show 1<=3 by decide),rfl⟩
 split at hn
 . injection hn with hn
   subst hn;exact⟨hr,by show m.pc<=_; omega,by simp,hco _ (show 1<=3 by decide),rfl⟩
 split at hn
 . injection hn with hn
   subst hn;exact⟨by simp [Ma.put,hr],by show m.pc+1<=_; omega,by simp [Ma.put],hco _ (Oq _),rfl⟩
 . cases hn
theorem RG{X:Type}{nx:X->X->Prop}:∀ {n:Nat} {x y:X},Ab.Reach nx n x y->∃ it:Nat->X,it 0=x/\it n=y/\∀ j,j<n->nx (it j) (it (j+1))
 | _,x,_,.nil _=>⟨fun _=>x,rfl,rfl,fun j hj=>by omega⟩
 | _,x,z,.cons (n:=n) h h1=>by
  obtain⟨it,i0,iN,is⟩:=RG h1;refine⟨fun j=>match j with | 0=>x | j+1=>it j,rfl,iN,fun j hj=>?_⟩
  cases j with
  | zero=>show nx x (it 0); rw [i0]; exact h
  | succ j=>exact is j (by omega)
theorem seq_ok{words:List Nat}(hl:words.length<=60000){it:Nat->Ma}{n:Nat}(hn:n<=1048000)(h0:Kq (it 0))(hk:(it 0).ks.length=0)(h:∀ j,j<n->Nx words (it j) (it (j+1))):∀ j,j<n->Kq (it j)/\(it j).ks.length=j
 | 0,hj=>⟨h0,hk⟩
 | j+1,hj=>by
  obtain⟨ih,ik⟩:=seq_ok hl hn h0 hk h j (by omega);obtain⟨_,x,hx,hnx⟩:=h j (by omega);obtain⟨a1,a2,a3,a4,_⟩:=ai4 ih hnx;obtain⟨_,y,hy,_⟩:=h (j+1) hj;have hpc:=(List.getElem?_eq_some_iff.1 hy).1;exact⟨⟨a1,by omega,by omega,a4⟩,by omega⟩
theorem ai5{w:World}{c b r:Nat}{cv mv:Value}{words:List Nat}{m m':Ma}{N fuel:Nat}(h:CM w c b r cv mv (rowsOf words) (jo m) (oz m))(hok:Kq m)(hk0:m.ks.length=0)(hr:Ab.Reach (Nx words) N m m')(hend:m'.st=1)(hl:words.length<=60000)(hN:N<=1048000)(hf:fuel<=1048576)(hNf:N<fuel) :
 Calls Tryz.prog 28 #[.pointer (some ⟨c,0,none⟩),.int .i64 fuel] w fun e w'=>e=.returned (.int .i64 N)/\m_ (jo m') (oz m') c b r cv mv (rowsOf words) w w':=by
 obtain⟨it,i0,iN,is⟩:=RG hr;have aqN:=seq_ok hl hN (by rw [i0]; exact hok) (by rw [i0]; exact hk0) is;have H:Hid (m_ (jo (it 0)) (oz (it 0)) c b r cv mv (rowsOf words) w w):=hide ⟨ah.refl _ _,mv,.inl rfl,by rw [i0]; exact h⟩;have HIS:=hide is;have HOK:=hide aqN;have WT:=hide iN;have HE:Hid ((jo (it N)).st≠0):=hide (by rw [iN]; show((m'.st:Nat):Int)≠0; rw [hend]; decide);have hl2:words.length<=100000:=by omega
 clear h hok hk0 hr hend i0 iN is aqN;have hmin:min (fuel:Int) 1048576=fuel:=by omega
 go_enter Tryz.func28,Tryz.ntmps28
 go_wp2;go_loopw [5] (fun i wr=>∃ j:Nat,j<=N/\i=.int .i64 j/\Hid (m_ (jo (it j)) (oz (it j)) c b r cv mv (rowsOf words) w wr)) (fun i _=>N+1 - (intOf i).toNat)
 case atStart=>exact⟨0,Nat.zero_le _,rfl,H⟩
 case round =>
  obtain⟨j,hj,rfl,HC⟩:=hrel;obtain⟨hc,mv',hmv,hb⟩:=HC.out;have hjf:decide ((j:Int)<(fuel:Int))=true:=by simp; omega
  by_cases hlt:j<N
  . have hsg:=step_next hb (HOK.out j hlt).1 (HIS.out j hlt) hl2
    have HSG:=hide hsg;have HX:=hide hc;have HV:=hide hmv;clear hsg hc hmv hb;go_wp2_with fail
    go_at_call 69;refine HSG.out.mono ?_;rintro e w1 ⟨rfl,hp⟩;have HN:Hid (m_ (jo (it (j+1))) (oz (it (j+1))) c b r cv mv (rowsOf words) w w1):=hide (m_.step HX.out HV.out hp);clear hp HSG;go_wp2;go_roundw
    case rel=>exact⟨j+1,by omega,by go_num,HN⟩
    case measure=>simp [intOf]; omega
  . obtain rfl:j=N:=by omega
    have hss:=acp hb.core HE.out;clear hc hmv hb;go_wp2_with fail
    go_at_call 69;refine hss.mono ?_;rintro e w1 ⟨rfl,rfl⟩;go_wp2;go_ret;rw [WT.out] at HC;exact⟨rfl,HC.out⟩
end

section
open Go Go.RowKit Go.Deep Go.Maps
attribute [local go_sem] Oper.semAt_some
theorem Ih(a:Nat)(ha:a<2048)(w:World):Calls Tryz.prog 67 #[.int .i64 (a:Int)] w fun e w'=>e=.returned (.bool true)/\w=w':=by
 have x1:decide ((a:Int)<0)=false:=decide_eq_false (by omega);have x2:decide ((0:Int)<=(a:Int))=true:=decide_eq_true (by omega);have x3:decide ((a:Int)<2048)=true:=decide_eq_true (by omega);go_enter Tryz.func67,Tryz.ntmps67
 go_wp2;go_ret;exact⟨rfl,rfl⟩
section
variable {w:World} {c b r:Nat} {cv mv:Value} {code:List (aW×Bool)} {s:CS} {ws:List Int}
theorem CM.auc {w':World} {ws':List Int} (h:CM w c b r cv mv code s ws) (hc:ah w w' [r]) (hr:qg w' b r ws'):CM w' c b r cv mv code s ws' :=
 ⟨h.core.aj hc (fun k hk hm=>h.far.2 (by simp at hm; exact hm▸hk)),hr,⟨h.env.tab.aj hc h.env.lt (by simpa using h.gr),Nat.lt_of_lt_of_le h.env.lt hc.size,h.env.far⟩,h.gb,h.gr⟩
theorem acJ(h:CM w c b r cv mv code s ws)(a:Nat)(x:Int)(ha:a<ws.length) :
 Calls Tryz.prog 26 #[.pointer (some ⟨c,0,none⟩),.int .i64 (a:Int),.int .i32 x] w fun e w'=>e=.returned (.bool true)/\ah w w' [r]/\CM w' c b r cv mv code s (ws.set a x):=by
 have hn:=h.yM.n;have hl:=mW h.core;have hwi:=Ih a (by omega);have hst:=Rq b r ws (a:Int) x w h.yM (by omega) (by omega);rw [show inB ws (a:Int)=true from decide_eq_true ⟨by omega,by omega⟩,show st ws (a:Int) x=ws.set a x by unfold st; rw [if_pos ⟨by omega,by omega⟩]; rfl] at hst;have c0:=h.core.blk.cell' (i:=0) rfl;have hw:IntKind.i32.wrap (a:Int)=(a:Int):=by rw [IntKind.wrap_i32]; omega
 have H:=hide h;clear h;go_enter Tryz.func26,Tryz.ntmps26
 go_wp2_with fail
 go_at_call 66;refine hl.mono ?_;rintro e w1 ⟨rfl,rfl⟩;go_wp2_with fail
 go_at_call 67;refine(hwi _).mono ?_;rintro e w1 ⟨rfl,rfl⟩;go_wp2_with fail
 go_at_call 68;refine hst.mono ?_;rintro e w1 ⟨rfl,hr,hc⟩;have HR:=hide hr;have HC:=hide hc;clear hr hc hst hl;go_wp2;go_ret;exact⟨rfl,HC.out,H.out.auc HC.out HR.out⟩
theorem YX(h:CM w c b r cv mv code s ws)(a:Nat)(x:Int)(ha:ws[a]?=some x) :
 Calls Tryz.prog 29 #[.pointer (some ⟨c,0,none⟩),.int .i64 (a:Int)] w fun e w'=>e=.returned (.tuple #[.int .i32 x,.bool true])/\ah w w' []:=by
 have hal:=(List.getElem?_eq_some_iff.1 ha).1;have hn:=h.yM.n;have hl:=mW h.core;have hwi:=Ih a (by omega);have hst:=LH b r ws (a:Int) w h.yM (by omega) (by omega);rw [show inB ws (a:Int)=true from decide_eq_true ⟨by omega,by omega⟩,show ld ws (a:Int)=x by unfold ld; rw [if_pos ⟨by omega,by omega⟩]; simp [List.getD,ha]] at hst;have c0:=h.core.blk.cell' (i:=0) rfl;have hw:IntKind.i32.wrap (a:Int)=(a:Int):=by rw [IntKind.wrap_i32]; omega
 clear h;go_enter Tryz.func29,Tryz.ntmps29
 go_wp2_with fail
 go_at_call 66;refine hl.mono ?_;rintro e w1 ⟨rfl,rfl⟩;go_wp2_with fail
 go_at_call 67;refine(hwi _).mono ?_;rintro e w1 ⟨rfl,rfl⟩;go_wp2_with fail
 go_at_call 70;refine hst.mono ?_;rintro e w1 ⟨rfl,hc⟩;have HC:=hide hc;clear hc hst hl;go_wp2;go_ret2;exact⟨rfl,HC.out⟩
theorem SS{bp:Addr}(h:CB w c (.pointer (some bp)) cv mv code s):Calls Tryz.prog 36 #[.pointer (some ⟨c,0,none⟩)] w fun e w'=>e=.returned (.int .i64 s.cost)/\w=w':=by
 have hl:=mW h;have c36:=h.blk.cell' (@oP _ cv mv s h.reg).2.2.1;clear h;go_enter Tryz.func36,Tryz.ntmps36
 go_wp2_with (go_at_call 66; refine hl.mono ?_; rintro e w1 ⟨rfl,rfl⟩);go_ret;exact⟨rfl,rfl⟩
end
end

section
open Go Go.RowKit Go.Deep Go.Maps
attribute [local go_sem] Oper.semAt_some
theorem ai7(bb:Addr)(A:Option Addr)(n c:Nat):(zeroCells (.pointer (some bb)) (.slice A n c)).toArray.all (·.oneCell')=true:=by
 rw [List.all_toArray]
 cases A<;>rfl
theorem Ot (w:World) (g:Nat) (cs:Array Value):ah w (w.setRow g cs) [g] :=
 ⟨rfl,rfl,rfl,by simp [World.setRow],fun k hk hn=>setRow_other w g k cs (fun e=>hn (by simp [e]))⟩
section
variable {w:World} {c b r:Nat} {cv mv:Value} {code:List (aW×Bool)} {s:CS} {ws:List Int}
theorem Y3 (h:CM w c b r cv mv code s ws) :
 Calls Tryz.prog 27 #[.pointer (some ⟨c,0,none⟩)] w fun e w'=>e=.returned (.tuple #[])/\ah w w' [c]/\CM w' c b r cv (.slice none 0 0) code kZ ws:=by
 have hl:=mW h.core;have H:=hide h;obtain⟨A,cc,hcv⟩:=bK h.core.uY;subst hcv;have c0:=h.core.blk.cell' (i:=0) rfl;have c1:=h.core.blk.cell' (i:=1) rfl;have hlt:=h.core.blk.lt;have hblk:=h.core.blk.drew
 have hsz:(bT (.pointer (some ⟨b,0,none⟩)) (.slice A code.length cc) mv s).toArray.size=(zeroCells (.pointer (some ⟨b,0,none⟩)) (.slice A code.length cc)).toArray.size:=by
  simp [bT,zeroCells,kZ,h.core.reg]
 have HB:=hide hblk;have HSZ:=hide hsz;clear h hblk hsz;go_enter Tryz.func27,Tryz.ntmps27
 go_wp2_with (go_at_call 66; refine hl.mono ?_; rintro e w1 ⟨rfl,rfl⟩);go_still_tail 11,(by kernel_rfl)
 change wpList _ _ _ _ _ w.drew;refine wpList_store_row rfl 123 _ _ rfl c (zeroCells (.pointer (some ⟨b,0,none⟩)) (.slice A code.length cc)).toArray rfl rfl 123 _ HB.out (by kernel_rfl) HSZ.out (ai7 _ _ _ _) ?_;have hb':aC (w.drew.setRow c (zeroCells (.pointer (some ⟨b,0,none⟩)) (.slice A code.length cc)).toArray) c 123 (bT (.pointer (some ⟨b,0,none⟩)) (.slice A code.length cc) (.slice none 0 0) kZ):=setRow_heap w.drew c _ _ _ _ HB.out;have hc':ah w (w.drew.setRow c (zeroCells (.pointer (some ⟨b,0,none⟩)) (.slice A code.length cc)).toArray) [c]:=((ah.refl w [c]).drew).trans (Ot _ _ _) (fun k hk=>.inl hk);generalize w.drew.setRow c (zeroCells (.pointer (some ⟨b,0,none⟩)) (.slice A code.length cc)).toArray=w2 at *;have HB':=hide hb';have HC':=hide hc';clear hb' hc' c0 c1;go_wp2;refine bodyPost_end (results_none rfl _ _ _) rfl ⟨rfl,HC'.out,?_⟩;obtain⟨n1,n2,n3⟩:=H.out.core.ne;obtain⟨f1,f2⟩:=H.out.far;have fb:b≠c:=fun e=>f1 (by simp [gB,e]);have fr:r≠c:=fun e=>f2 (by simp [gB,e])
 exact ⟨⟨HB'.out,aH H.out.core.uY HC'.out (fun g hg hm => by simp at hm; subst hm; exact n1 hg),World.ownsRow_nil _ _ _ _,by simp [kZ]⟩,
  H.out.yM.aj HC'.out (by simpa using fb) (by simpa using fr),
  ⟨H.out.env.tab.aj HC'.out H.out.env.lt (fun hm=>H.out.env.far (by simp at hm; simp [gB,hm])),Nat.lt_of_lt_of_le H.out.env.lt HC'.out.size,fun hm=>H.out.env.far (by
    simp only [gB,List.mem_append] at hm ⊢;rcases hm with hm | hm | hm
    . exact .inl hm
    . exact .inr (.inl hm)
    . simp [Value.ownBlock] at hm)⟩,H.out.gb,H.out.gr⟩
end
end

section
open Go Go.RowKit Ab Xi
