/- Go functions run by the kernel on shapes, and that this is so: the second part. -/
import Derived.Test.YtjmojlhnmkjdkaaGreatDoorXiUD
import Derived.OpenShut
set_option linter.unusedVariables false
set_option linter.unusedSimpArgs false
namespace Go.Proofs.YtjmojlhnmkjdkaaGreatDoor
namespace Xi
open Go Go.RowKit
section
variable {cx:Cx} {M:f_ cx.P} {E:Env} {s:M.σ} {g g':G} {w w':World} {tm:Tm} {ρ:Operand->Value} {v:AV} {δ:List Ev}
theorem ahJ{n:Nat}{h0 h1:Nat->Option AB}{B':AB}{a c:Nat}(hid:Option Nat)(r:Rep M E s h0 n w)(hf:Fr w w' fun k=>∃ b,hid=some b/\E.γ b=k)
 (hhid:∀ b,hid=some b->∃ B,h0 b=some B/\B.ro=false) (hh:∀ b,h1 b=if b=n then some B' else if hid=some b then none else h0 b)
 (hids:∀ k,(dM B'.cs).testBit k=true->k<n) (hB:kT (E.new n a c) w' n B') (ha:a=w.heap.size\/∃ b,hid=some b/\E.γ b=a) :
 jk M E h0 n s w (E.new n a c) h1 (n+1) s w':=by
 have hk:=M.keep s w w' _ r.sD hf (fun k ⟨b,hb,e⟩=>by
  obtain⟨B,hB,_⟩:=hhid b hb
  rw [<- e]; exact(r.blk b B hB).2)
 have hold:∀ b C,b≠n->h1 b=some C->h0 b=some C/\hid≠some b:=fun b C hb h=>by
  rw [hh,if_neg hb] at h;split at h
  . cases h
  . rename_i hne; exact⟨h,hne⟩
 have hat:h1 n=some B':=by rw [hh,if_pos rfl]
 have heq:∀ b,b<n->(E.new n a c).γ b=E.γ b/\(E.new n a c).κ b=E.κ b:=fun b hb=>by
  have:b≠n:=by omega
  simp [Env.new,this]
 have MV:(E.new n a c).γ n=a:=by simp [Env.new]
 have awM:a∉M.fp s w:=by
  rcases ha with h | ⟨b,hb,e⟩
  . intro hm; have:=M.lt s w r.sD a hm; omega
  . obtain⟨B,hB,_⟩:=hhid b hb
    rw [<- e]; exact(r.blk b B hB).2
 have hapart:∀ b C,h0 b=some C->hid≠some b->E.γ b≠a:=fun b C hb hne=>by
  rcases ha with h | ⟨d,hd,e⟩
  . have:=r.lt hb; omega
  . obtain⟨D,hD,_⟩:=hhid d hd
    rw [<- e];exact r.inj b d C D hb hD (fun h=>hne (h▸hd))
 refine⟨heq,rfl,⟨hk.1,fun b C hb=>?_,fun b b' C C' hb hb' hne=>?_,fun b C hb k hkb=>?_,fun b C hb=>?_⟩,hf.more fun k _ ⟨b,hb,e⟩=>?_,fun d hd=>.inl (hk.2▸hd),fun b C hb hbn=>?_,fun b C hb hbn=>?_,Nat.le_succ _⟩
 . rw [hk.2]
   by_cases e:b=n
   . subst e
     rw [hat] at hb; injection hb with hb; subst hb;rw [MV]; exact⟨hB,awM⟩
   . obtain⟨hb0,hne⟩:=hold b C e hb
     have ht:=r.top b C hb0;obtain⟨h2,h3⟩:=r.blk b C hb0;rw [(heq b ht).1];refine⟨(h2.frame hf ?_).congr (heq b ht).1 (heq b ht).2 (iq (E:=E) (E':=E.new n a c) rfl _ fun k hk=>heq k (r.ids b C hb0 k hk)),h3⟩;rintro ⟨d,hd,e'⟩;obtain⟨D,hD,_⟩:=hhid d hd;exact r.inj d b D C hD hb0 (fun h=>hne (h▸hd)) e'
 . by_cases e:b=n
   . have e':b'≠n:=fun h=>hne (e.trans h.symm)
     obtain⟨hb0,hn⟩:=hold b' C' e' hb';rw [e,MV,(heq b' (r.top _ _ hb0)).1];exact fun h=>hapart b' C' hb0 hn h.symm
   . obtain⟨hb0,hn⟩:=hold b C e hb
     by_cases e':b'=n
     . rw [e',MV,(heq b (r.top _ _ hb0)).1]
       exact hapart b C hb0 hn
     . obtain⟨hb0',_⟩:=hold b' C' e' hb'
       rw [(heq b (r.top _ _ hb0)).1,(heq b' (r.top _ _ hb0')).1];exact r.inj b b' C C' hb0 hb0' hne
 . by_cases e:b=n
   . subst e
     rw [hat] at hb; injection hb with hb; subst hb;have:=hids k hkb; omega
   . have:=r.ids b C (hold b C e hb).1 k hkb; omega
 . by_cases e:b=n
   . omega
   . have:=r.top b C (hold b C e hb).1; omega
 . obtain⟨B,hB,hro⟩:=hhid b hb
   exact .inr ⟨b,B,hB,hro,e⟩
 . exact⟨C,(hold b C (by omega) hb).1,id⟩
 . by_cases e:b=n
   . subst e
     rw [MV];rcases ha with h | ⟨d,hd,e'⟩
     . left; omega
     . obtain⟨D,hD,hro⟩:=hhid d hd
       exact .inr ⟨d,D,hD,hro,e'⟩
   . have:=r.top b C (hold b C e hb).1; omega
theorem MX(hvw:tX cx M E.ρ)(r:Rep M E s g.at g.n w){x:AV}{new:List AV}{b':Nat}(h:IZ cx g x=some (new,b')) :
 ∃ A m c,x.aA E=.slice (some A) m c/\new.length=m/\(∀ j u,(ay E new)[j]?=some u->w.cell? (A.add j)=some u)/\iE g.n new=true:=by
 unfold IZ at h;split at h
 . rename_i b off n c
   cases hl:ld g b off n with
   | none=>rw [hl] at h; cases h
   | some l =>
    rw [hl] at h;injection h with h; injection h with h1 h2;subst h1;obtain⟨q1,q2,_⟩:=vX r hl;obtain⟨B,hB,he,_⟩:=DF hl;refine⟨_,n,c,rfl,q1,fun j u hu=>by rw [add_plain]; exact q2 j u hu,?_⟩;have:=r.iE hB;unfold iE at this ⊢;rw [aI,pow_eq] at this ⊢;exact dP fun k hk=>fQ this (Eu (l:=l) (fun v hv=>by rw [he] at hv; exact List.mem_of_mem_drop (List.mem_of_mem_take hv)) hk)
 . rename_i b n
   cases hl:ld g b 0 n with
   | none=>rw [hl] at h; cases h
   | some l =>
    rw [hl] at h;injection h with h; injection h with h1 h2;subst h1;obtain⟨q1,q2,_⟩:=vX r hl;obtain⟨B,hB,he,_⟩:=DF hl;refine⟨_,n,E.κ b,rfl,q1,fun j u hu=>by rw [add_plain]; exact q2 j u hu,?_⟩;have:=r.iE hB;unfold iE at this ⊢;rw [aI,pow_eq] at this ⊢;exact dP fun k hk=>fQ this (Eu (l:=l) (fun v hv=>by rw [he] at hv; exact List.mem_of_mem_drop (List.mem_of_mem_take hv)) hk)
 . rename_i b off n
   cases hl:ld g b off n with
   | none=>rw [hl] at h; cases h
   | some l =>
    rw [hl] at h;injection h with h; injection h with h1 h2;subst h1;obtain⟨q1,q2,_⟩:=vX r hl;obtain⟨B,hB,he,_⟩:=DF hl;refine⟨_,n,E.κ b - off,rfl,q1,fun j u hu=>by rw [add_plain]; exact q2 j u hu,?_⟩;have:=r.iE hB;unfold iE at this ⊢;rw [aI,pow_eq] at this ⊢;exact dP fun k hk=>fQ this (Eu (l:=l) (fun v hv=>by rw [he] at hv; exact List.mem_of_mem_drop (List.mem_of_mem_take hv)) hk)
 . rename_i i off n
   cases hcs:cx.vw i with
   | none=>rw [hcs] at h; cases h
   | some cs =>
    rw [hcs] at h;simp only [jr] at h
    cases hc:Nat.ble (off+n) (aF cs) with
    | false=>rw [hc] at h; cases h
    | true =>
     rw [hc] at h;rw [bn] at hc;unfold aF at hc;injection h with h; injection h with h1 h2;subst h1;obtain⟨b0,a0,m0,c0,hρ0,_,hlt,hw⟩:=hvw i cs hcs;refine⟨⟨b0,a0+off,none⟩,n,c0 - off,by simp only [AV.aA,hρ0,MI],by simp; omega,fun j u hu=>?_,?_⟩
     . rw [add_plain]
       rw [cO,List.getElem?_map] at hu
       cases hj:((cs.drop off).take n)[j]? with
       | none=>rw [hj] at hu; cases hu
       | some y =>
        rw [hj] at hu;injection hu with hu;subst hu;rw [List.getElem?_take] at hj;split at hj
        . rw [List.getElem?_drop] at hj
          rw [Nat.add_assoc];exact(hw s w r.sD).2 (off+j) y hj E rfl
        . cases hj
     . unfold iE at hlt ⊢
       rw [aI,pow_eq] at hlt ⊢;exact dP fun k hk=>absurd (fQ hlt (Eu (l:=(cs.drop off).take n) (fun v hv=>List.mem_of_mem_drop (List.mem_of_mem_take hv)) hk)) (by omega)
 . cases h
theorem ahK(hvw:tX cx M E.ρ)(he:mZ E tm ρ)(r:Rep M E s g.at g.n w){s':M.σ}{src dst:TypeId}{x:Operand}{o:Oper}(ho:o.op=.convert src dst x)(h:aaY cx src dst (dD tm x) g=some (v,g',δ))(hs:gX M E.ρ δ s s'):Fine M E s g w (execOp ρ o) v g' δ:=by
 cases hx:dD tm x with
 | none=>rw [hx] at h; cases h
 | some u =>
  rw [hx] at h;unfold aaY at h;split at h
  . rename_i k n heq
    injection heq with heq; subst heq
    cases h1:kindOf cx src with
    | none=>rw [h1] at h; cases h
    | some k1 =>
     cases h2:kindOf cx dst with
     | none=>rw [h1,h2] at h; cases h
     | some k2 =>
      rw [h1,h2] at h;obtain⟨rfl,q2,q3⟩:=got h;refine Fine.of r ?_ q2 q3;have u1:=wY (w:=w) h1;have u2:=wY (w:=w) h2;simp only [execOp,ho,he x _ hx,AV.aA,convert,Sem.run_bind,u1,u2,Result.andThen_ok,Conv.intToInt,Sem.run_pure]
  . rename_i u' _ heq
    injection heq with heq; subst heq
    cases hn:IZ cx g u with
    | none =>
     rw [hn] at h;obtain⟨hq,hp,hw⟩:=zW r h hs;refine⟨hq,E,w,.inl ?_,hw⟩;simp only [execOp,ho,he x _ hx,Sem.run_bind,hp w];rfl
    | some q =>
     obtain⟨l,b'⟩:=q;rw [hn] at h;obtain⟨A,m,c,e1,e2,e3,_⟩:=MX hvw r hn;obtain⟨hq,hp,hw⟩:=zW r h hs;refine⟨hq,E,w,.inl ?_,hw⟩;have:=hp w A m c (by rw [aV]; exact e2) e3;simp only [execOp,ho,he x _ hx,e1,Sem.run_bind,this];rfl
  . rename_i heq; cases heq
theorem aa5(hvw:tX cx M E.ρ)(he:mZ E tm ρ)(hE:E.one)(r:Rep M E s g.at g.n w){c:Call}{o:Oper}(ho:o.op=.call c)(hc:c.callee=.builtin .append)(h:Pn cx tm c.argTypes.toList c.args.toList g=some (v,g',δ)):Fine M E s g w (execOp ρ o) v g' δ:=by
 unfold Pn at h;split at h
 . rename_i t u s0 x hts has
   cases htu:Nat.beq t u with
   | false=>rw [htu] at h; cases h
   | true =>
    rw [htu] at h;rw [beq_iff] at htu;subst htu;simp only [cond_true] at h
    cases hso:sliceOf cx t with
    | none=>rw [hso] at h; cases h
    | some e =>
     rw [hso] at h;simp only [] at h;obtain⟨ti,htt,htd⟩:=GV hso;have htu:=vW htt;rw [htd] at htu;unfold Uj at h
     cases hj:bV cx.P e with
     | none=>simp only [hj] at h; cases h
     | some j =>
      simp only [hj] at h
      cases hcond:(Nat.beq j.size 1&&Nat.beq (aF j.zero) 1&&Nat.ble j.bytes 64) with
      | false=>rw [hcond] at h; cases h
      | true =>
       rw [hcond] at h;simp only [cond_true] at h;simp only [Bool.and_eq_true,beq_iff,bn,aF] at hcond;obtain⟨⟨j1,j2⟩,j3⟩:=hcond;obtain⟨f,z,k1,k2,k3,k4,k5,k6⟩:=lY hj;have hzs:z.cells.size=1:=by rw [<- j2,k6]; simp
       cases hnw:IZ cx g x with
       | none=>rw [hnw] at h; cases h
       | some p =>
        obtain⟨new,b'⟩:=p;rw [hnw] at h;simp only [] at h
        cases hcond2:(Nat.ble 1 (aF new)&&GH new&&Nat.ble (aF new) 100000) with
        | false=>rw [hcond2] at h; cases h
        | true =>
         rw [hcond2] at h;simp only [cond_true] at h;simp only [Bool.and_eq_true,bn,aF] at hcond2;obtain⟨⟨n1,n2⟩,n3⟩:=hcond2;obtain⟨A,m,cc,hx,hm,hcells,hlow⟩:=MX hvw r hnw
         have hone:∀ u∈ay E new,u.oneCell'=true:=by
          rw [cO]; intro u hu; obtain⟨q,hq,rfl⟩:=List.mem_map.1 hu; exact GR hE (Uz n2 q hq)
         have hevs:=uq he has;have hargs:c.args.map ρ=#[s0.aA E,x.aA E]:=by apply Array.ext'; rw [Array.toList_map,hevs]; rfl
         have aoz:c.argTypes=#[t,t]:=by apply Array.ext'; rw [hts]
         have MZ:∀ {v' w'},(Builtin.append_ #[t,t] o.type #[s0.aA E,x.aA E]).run cx.P w=.ok v' w'->(execOp ρ o).run cx.P w=.ok (.value v') w':=fun {v' w'} hr=>by
          simp only [execOp,ho,resolve,hc,Sem.run_bind,Sem.run_pure,Result.andThen_ok,invoke,builtin,aoz,hargs,hr]
         have main:∀(hid:Option Nat) (xs:List AV) (k:Nat),xs.length=k->k+m<=200000->w.ownsRow 0 e 1 (s0.aA E) k (ay E xs)->(∀ q,(dM xs).testBit q=true->q<g.n) ->
          (∀ row,(s0.aA E).ownBlock=row->∀ q,some q=row->∃ b,hid=some b/\E.γ b=q)->(∀ b,hid=some b->∃ B,g.at b=some B/\B.ro=false)->v=.row g.n (k+m) ->
          (∀ b,g'.at b=if b=g.n then some ⟨e,false,true,xs++new⟩ else if hid=some b then none else g.at b)->g'.n=g.n+1->δ=[]->Fine M E s g w (execOp ρ o) v g' δ:=by
          intro hid xs k hk hbd hown hxs hrow hhid hv hat hn hδ;have h63:k+m<=maxLen:=by unfold maxLen; omega
          obtain ⟨v',w',hrun,hown',hgrown,_,hblk⟩:=run_append_own_at (P:=cx.P) w 0 t o.type e f z 1 j.bytes htu k1 k5 (by rw [k3,j1]) k4 hzs (by omega) _ k (ay E xs) hown A m cc (ay E new) (by rw [aV]; omega) hcells hone h63
           (by have : (k+m)*j.bytes<=200000*64 := Nat.mul_le_mul hbd j3
               omega) (Nat.zero_le _)
          rw [<- hx] at hrun;rcases hown'.2 with⟨_,h0⟩ | ⟨a,cap,cur,rfl,h0,h1,h2⟩
          . omega
          . subst hδ
            have hfr:Fr w w' fun q=>∃ b,hid=some b/\E.γ b=q:=⟨hgrown.os,hgrown.tape,hgrown.output,hgrown.size,fun q hq hn=>hgrown.block q hq (fun hr=>hn (hrow _ rfl q hr))⟩
            have hcs:iE g.n (xs++new)=true:=by
             unfold iE;rw [aI,pow_eq];refine dP fun q hq=>?_;obtain⟨y,hy,hyb⟩:=Dz hq;rcases List.mem_append.1 hy with hy | hy
             . exact hxs q (fF hy hyb)
             . exact kE hlow (fF hy hyb)
            have akM:=ahJ (B':=⟨e,false,true,xs++new⟩) (a:=a) (c:=cap) hid r hfr hhid hat (fun q hq=>kE hcs hq) ?_ ?_
            . rw [<- hn] at akM
              refine⟨rfl,_,w',.inl ?_,akM⟩;rw [MZ hrun,hv];simp [AV.aA,Env.new]
            . unfold kT
              simp only [if_true];have hγ:(E.new g.n a cap).γ g.n=a:=by simp [Env.new]
              have hκ:(E.new g.n a cap).κ g.n=cap:=by simp [Env.new]
              rw [hγ,hκ,QJ hcs,jw];have hl:(xs++new).length=k+m:=by simp [hk,hm]
              rw [hl];exact hown'
            . rcases hblk with hb | hb
              . right
                exact hrow _ rfl a hb
              . left
                injection hb
         unfold Ui at h;split at h
         . simp only [yA,jr,dG,dY] at h
           cases hn:Nat.blt g.n 1000000 with
           | false=>rw [hn] at h; cases h
           | true =>
            rw [hn] at h;obtain⟨rfl,hg,hδ⟩:=got h;rw [aI] at hn;refine main none [] 0 rfl (by omega) ⟨rfl,.inl ⟨rfl,rfl⟩⟩ (by simp [dM]) (fun row hr q hq=>by subst hr; cases hq) (fun b hb=>by cases hb) (by simp [aF,hm]) (fun b=>?_) (by rw [hg]) hδ;rw [hg]; simpa using at_new g ⟨e,false,true,new⟩ g.nv hn b
         . rename_i b n
           cases hb:g.at b with
           | none=>rw [hb] at h; cases h
           | some B =>
            rw [hb] at h;simp only [yA,jG,jr,dG,dY] at h
            cases hcond3:(!B.ro&&B.row&&Nat.beq B.T e&&Nat.beq (aF B.cs) n&&Nat.ble (n+aF new) 100000&&!Nat.beq b' b) with
            | false=>rw [hcond3] at h; cases h
            | true =>
             rw [hcond3] at h;simp only [cond_true] at h;simp only [Bool.and_eq_true,Bool.not_eq_true',beq_iff,bn,aF] at hcond3;obtain⟨⟨⟨⟨⟨b1,b2⟩,b3⟩,b4⟩,b5⟩,_⟩:=hcond3
             cases hbn:Nat.blt b 1000000 with
             | false=>rw [hbn] at h; cases h
             | true =>
              rw [hbn] at h;simp only [cond_true] at h
              cases hn:Nat.blt g.n 1000000 with
              | false=>rw [hn] at h; cases h
              | true =>
               rw [hn] at h;obtain⟨rfl,hg,hδ⟩:=got h;rw [aI] at hn hbn;have hB:=(r.blk b B hb).1;unfold kT at hB;rw [if_pos b2,b3,b4] at hB;refine main (some b) B.cs n b4 (by omega) hB (fun q hq=>r.ids b B hb q hq) (fun row hr q hq=>?_) (fun d hd=>by injection hd with hd; subst hd; exact⟨B,hb,b1⟩) (by simp [aF,hm]) (fun d=>?_) (by rw [hg]) hδ
               . subst hr
                 injection hq with hq;exact⟨b,rfl,hq.symm⟩
               . rw [hg]
                 have e1:=at_new ⟨Tr.set 20 g.hp b none,g.n,g.nv⟩ ⟨e,false,true,B.cs++new⟩ g.nv hn d;have e2:=at_set g b none g.nv hbn (dQ hb) d;simp only at e1;rw [e1];by_cases q:d=g.n
                 . rw [if_pos q,if_pos q]
                 . rw [if_neg q,if_neg q,e2]
                   by_cases q2:d=b
                   . rw [if_pos q2,if_pos (by rw [q2])]
                   . rw [if_neg q2,if_neg (fun h=>q2 (by injection h with h; exact h.symm))]
         . rename_i b off n c
           cases hb:g.at b with
           | none=>rw [hb] at h; cases h
           | some B =>
            rw [hb] at h;simp only [yA,jG,jr,dG,dY] at h
            cases hcond3:(!B.ro&&!B.row&&Nat.beq B.T e&&Nat.beq off 0&&Nat.beq n c&&Nat.beq (aF B.cs) n&&Nat.ble (n+aF new) 100000&&!Nat.beq b' b) with
            | false=>rw [hcond3] at h; cases h
            | true =>
             rw [hcond3] at h;simp only [cond_true] at h;simp only [Bool.and_eq_true,Bool.not_eq_true',beq_iff,bn,aF] at hcond3;obtain⟨⟨⟨⟨⟨⟨⟨b1,b2⟩,b3⟩,bo⟩,bc⟩,b4⟩,b5⟩,_⟩:=hcond3;subst bo bc
             cases hbn:Nat.blt b 1000000 with
             | false=>rw [hbn] at h; cases h
             | true =>
              rw [hbn] at h;simp only [cond_true] at h
              cases hn:Nat.blt g.n 1000000 with
              | false=>rw [hn] at h; cases h
              | true =>
               rw [hn] at h;obtain⟨rfl,hg,hδ⟩:=got h;rw [aI] at hn hbn;have hB:=(r.blk b B hb).1;unfold kT at hB;rw [if_neg (by rw [b2]; decide),b3] at hB
               have hown:w.ownsRow 0 e 1 ((AV.slc b 0 n n).aA E) n (ay E B.cs) :=
                ⟨by rw [aV]; omega,.inr ⟨E.γ b,n,(ay E B.cs).toArray,rfl,Nat.zero_le _,hB,Nat.le_refl _,by unfold maxLen; omega,by simp [aV,b4],by simp only [List.toList_toArray,Nat.mul_one]; exact List.take_of_length_le (by rw [aV]; omega)⟩⟩
               refine main (some b) B.cs n b4 (by omega) hown (fun q hq=>r.ids b B hb q hq) (fun row hr q hq=>?_) (fun d hd=>by injection hd with hd; subst hd; exact⟨B,hb,b1⟩) (by simp [aF,hm]) (fun d=>?_) (by rw [hg]) hδ
               . subst hr
                 injection hq with hq;exact⟨b,rfl,hq.symm⟩
               . rw [hg]
                 have e1:=at_new ⟨Tr.set 20 g.hp b none,g.n,g.nv⟩ ⟨e,false,true,B.cs++new⟩ g.nv hn d;have e2:=at_set g b none g.nv hbn (dQ hb) d;simp only at e1;rw [e1];by_cases q:d=g.n
                 . rw [if_pos q,if_pos q]
                 . rw [if_neg q,if_neg q,e2]
                   by_cases q2:d=b
                   . rw [if_pos q2,if_pos (by rw [q2])]
                   . rw [if_neg q2,if_neg (fun h=>q2 (by injection h with h; exact h.symm))]
         . cases h
 . cases h
end
end Xi
namespace Xi
open Go Go.RowKit
def lC (h:G) (ro:Bool):List Nat->Tr AB->Tr AB
 | [],t=>t
 | b::l,t=>match h.at b with
  | some B=>bif Nat.blt b 1000000 then lC h ro l (Tr.set 20 t b (some (B.I5 ro))) else lC h ro l t
  | none=>lC h ro l t
theorem zX{β:Type}(h:G)(ro:Bool):∀(l:List Nat) (t:Tr AB) (k:Tr AB->β),BA h ro l t k=k (lC h ro l t)
 | [],t,k=>rfl
 | b::l,t,k=>by
  unfold BA lC
  cases h.at b with
  | none=>exact zX h ro l t k
  | some B =>
   simp only [dY]
   cases Nat.blt b 1000000 with
   | true=>exact zX h ro l _ k
   | false=>exact zX h ro l t k
theorem yU(h:G)(ro:Bool):∀(l:List Nat) (t:Tr AB) (b:Nat) (B:AB),(lC h ro l t).get b=some B->(b∈l/\∃ B0,h.at b=some B0/\B=B0.I5 ro)\/t.get b=some B
 | [],t,b,B,hb=>.inr hb
 | c::l,t,b,B,hb=>by
  unfold lC at hb
  cases hc:h.at c with
  | none =>
   rw [hc] at hb;rcases yU h ro l t b B hb with⟨h1,h2⟩ | h1
   . exact .inl ⟨by simp [h1],h2⟩
   . exact .inr h1
  | some C =>
   rw [hc] at hb;simp only [] at hb
   cases hn:Nat.blt c 1000000 with
   | false =>
    rw [hn] at hb;rcases yU h ro l t b B hb with⟨h1,h2⟩ | h1
    . exact .inl ⟨by simp [h1],h2⟩
    . exact .inr h1
   | true =>
    rw [hn] at hb;rcases yU h ro l _ b B hb with⟨h1,h2⟩ | h1
    . exact .inl ⟨by simp [h1],h2⟩
    . rw [Tr.lX _ _ _ _ (aI.1 hn)] at h1
      by_cases e:b=c
      . rw [if_pos e] at h1
        injection h1 with h1;subst e;exact .inl ⟨by simp,C,hc,h1.symm⟩
      . rw [if_neg e] at h1; exact .inr h1
theorem BF{g:G}{ro:Bool}{l:List Nat}{nv:Nat}:Part (⟨lC g ro l .nil,g.n,nv⟩:G).at g.at/\∀ b B,(⟨lC g ro l .nil,g.n,nv⟩:G).at b=some B->b∈l/\(ro=true->B.ro=true):=by
 have key:∀ b B,(⟨lC g ro l .nil,g.n,nv⟩:G).at b=some B->b∈l/\∃ B0,g.at b=some B0/\B=B0.I5 ro:=fun b B hb=>by
  have hlt:b<g.n:=dQ (g:=⟨lC g ro l .nil,g.n,nv⟩) hb;rw [nG (g:=⟨lC g ro l .nil,g.n,nv⟩) hlt] at hb;rcases yU g ro l .nil b B hb with h | h
  . exact h
  . cases h
 refine⟨fun b B hb=>?_,fun b B hb=>?_⟩
 . obtain⟨_,B0,h0,rfl⟩:=key b B hb
   refine⟨B0,h0,rfl,rfl,rfl,fun h=>?_⟩;simp only [AB.I5,Bool.or_eq_false_iff] at h;exact h.2
 . obtain⟨h1,B0,h0,rfl⟩:=key b B hb
   exact⟨h1,fun h=>by simp [AB.I5,h]⟩
theorem pF{β:Type}(h:G):∀(l:List Nat) (t:Tr AB) (k:Tr AB->Option β) (r:β),xC h none l t k=some r->∃ t',(∀ b,t'.get b=if b∈l then h.at b else t.get b)/\k t'=some r
 | [],t,k,r,hr=>⟨t,fun b=>by simp,hr⟩
 | c::l,t,k,r,hr=>by
  unfold xC at hr
  cases hn:Nat.blt c 1000000 with
  | false=>rw [hn] at hr; cases hr
  | true =>
   rw [hn] at hr;simp only [cond_true,akL,dY] at hr;obtain⟨t',h1,h2⟩:=pF h l _ k r hr;refine⟨t',fun b=>?_,h2⟩;rw [h1,Tr.lX _ _ _ _ (aI.1 hn)];by_cases e:b=c
   . subst e; simp
   . by_cases hl:b∈l
     . simp [hl]
     . simp [hl,e]
theorem Ew:∀(f n b:Nat),b∈sG f n↔n<=b/\b<n+f
 | 0,n,b=>by
  constructor
  . intro h; cases h
  . intro h; omega
 | f+1,n,b=>by
  unfold sG;rw [List.mem_cons,Ew f (Nat.succ n) b];constructor
  . rintro (h | h)<;>omega
  . intro h; omega
theorem qE{S:Nat}{g:G}:∀ {l:List Nat},kP S g l=true->∀ b∈l,∀ B,g.at b=some B->∀ k,(dM B.cs).testBit k=true->S.testBit k=true
 | [],_,b,hb,_,_,_,_=>by cases hb
 | c::l,h,b,hb,B,hB,k,hk=>by
  unfold kP at h;simp only [Bool.and_eq_true] at h;rcases List.mem_cons.1 hb with rfl | hb
  . rw [hB] at h; exact zV h.1 hk
  . exact qE h.2 b hb B hB k hk
section
variable {P:Program} {M:f_ P} {E E':Env} {s s':M.σ} {g gm g1:G} {w w':World} {l:List Nat}
theorem ahL{n k:Nat}(h:(Nat.sub (Nat.pow 2 n) 1).testBit k=true):k<n:=by
 have e:Nat.sub (Nat.pow 2 n) 1=2 ^ n - 1:=rfl;rw [e,Nat.testBit_two_pow_sub_one] at h
 simpa using h
theorem jk.whole(r:Rep M E s g.at g.n w)(hp:Part gm.at g.at)(hn:gm.n=g.n)(hl:∀ b B,gm.at b=some B->B.ro=false->b∈l)(hlt:∀ b∈l,b<g.n)
 (hw:jk M E gm.at gm.n s w E' g1.at g1.n s' w'):jk M E g.at g.n s w (patch E E' g.n g1.n) (joined g.at g1.at g.n g1.n l) g1.n s' w':=by
 rw [hn] at hw;obtain⟨hrep,hfr⟩:=r.joined (N':=g1.n) (lw:=l) hp hl hlt hw (fun b h1 _=>pz h1) (fun b B hb _ k hk ⟨h1,_⟩=>by have:=r.ids b B hb k hk; omega) hw.le (Nat.le_refl _);refine⟨fun b hb=>?_,rfl,hrep,hfr.more ?_,hw.grow,fun b B' hb hbn=>?_,fun b B' hb hbn=>?_,hw.le⟩
 . have:¬ (g.n<=b/\b<g1.n):=by omega
   unfold patch;simp [this]
 . rintro k _ (h1 | ⟨b,B,hb,hro,hk⟩)
   . exact .inl h1
   . obtain⟨B0,h0,_,_,_,hr⟩:=hp b B hb
     exact .inr ⟨b,B0,h0,hr hro,hk⟩
 . unfold joined at hb
   rw [if_neg (by omega)] at hb;split at hb
   . obtain⟨B1,h1,hr1⟩:=hw.sub b B' hb hbn
     obtain⟨B0,h0,_,_,_,hr0⟩:=hp b B1 h1;exact⟨B0,h0,fun h=>hr0 (hr1 h)⟩
   . exact⟨B',hb,id⟩
 . unfold joined at hb
   by_cases hb1:b<g1.n
   . rw [if_pos ⟨hbn,hb1⟩] at hb
     have eγ:(patch E E' g.n g1.n).γ b=E'.γ b:=by unfold patch; simp [hbn,hb1]
     rw [eγ];rcases hw.new b B' hb hbn with h1 | ⟨c,C,hc,hro,hce⟩
     . exact .inl h1
     . obtain⟨C0,h0,_,_,_,hr⟩:=hp c C hc
       exact .inr ⟨c,C0,h0,hr hro,hce⟩
   . rw [if_neg (by omega)] at hb
     split at hb
     . rename_i hbl; have:=hlt b hbl; omega
     . have:=dQ hb; omega
theorem jk.cut{h h' h2:Nat->Option AB}{n n':Nat}(hw:jk M E h n s w E' h' n' s' w')(hat:∀ b,h2 b=if b<n then h' b else none)(hids:∀ b B,h2 b=some B->∀ k,(dM B.cs).testBit k=true->k<n) :
 jk M E h n s w E' h2 n s' w':=by
 have hs:∀ b B,h2 b=some B->b<n/\h' b=some B:=fun b B hb=>by
  rw [hat] at hb;split at hb
  . rename_i h1; exact⟨h1,hb⟩
  . cases hb
 exact⟨hw.ext,hw.rho,hw.rep.part (fun b B hb=>⟨B,(hs b B hb).2,rfl,rfl,rfl,id⟩) hids (fun b B hb=>(hs b B hb).1),hw.fr,hw.grow,fun b B hb hbn=>hw.sub b B (hs b B hb).2 hbn,fun b B hb hbn=>absurd (hs b B hb).1 (by omega),Nat.le_refl _⟩
theorem Ey{v:AV}{m m':Nat}(hw:∀ b,b<m->E'.γ b=E.γ b/\E'.κ b=E.κ b)(hρ:E'.ρ=E.ρ)(hv:v.lt m'=true):v.aA (patch E E' m m')=v.aA E' :=
 rG (E:=E') (E':=patch E E' m m') hρ.symm v fun k hk=>QH hw (AV.fQ hv hk)
end
def zY (cx:Cx) (M:f_ cx.P) (ρv:Nat->Value) (call:jU):Prop :=
 tX cx M ρv/\∀ f args g v g' δ,call f args g=some (v,g',δ)->v.lt g'.n=true/\∀(E:Env) s s' w,E.ρ=ρv->Rep M E s g.at g.n w->(∀ u∈args,u.lt g.n=true)->gX M ρv δ s s' ->
  Calls cx.P f (ay E args).toArray w fun e w'=>∃ E',e=.returned (v.aA E')/\jk M E g.at g.n s w E' g'.at g'.n s' w'
def vZ(cx:Cx):Prop:=∀ t name f,cx.mt t name=some f->∀ a w,(method (cx.P.types.size+Made.depth) t (.pointer (some a)) name).run cx.P w=.ok (f,.pointer (some a)) w
theorem QK {P : Program} {f : FuncId} {F : FI} (h : CV P f = some F) : ∃ fn, P.funcs[f]? = some fn ∧ (fn.name == "runtime.NumGoroutine") = false ∧ fn.body = some F.body ∧ fn.ntmps = F.ntmps ∧ fn.results.toList = F.res := by
 unfold CV at h
 cases h1:P.funcs[f]? with
 | none=>rw [h1] at h; cases h
 | some fn =>
  rw [h1] at h;simp only [] at h
  cases h2 : (fn.name == "runtime.NumGoroutine") with
  | true=>rw [h2] at h; cases h
  | false =>
   rw [h2] at h;simp only [cond_false] at h
   cases h3:fn.body with
   | none=>rw [h3] at h; cases h
   | some c =>
    rw [h3] at h;injection h with h;subst h;exact⟨fn,rfl,h2,h3,rfl,rfl⟩
theorem zZ{P:Program}{f:FuncId}{F:FI}(h:CV P f=some F)(args:Array Value)(w:World):(callFunc f args).run P w=.ok (.enter f args) w:=by
 obtain ⟨fn,h1,h2,h3,_⟩:=QK h;have h2' : fn.name ≠ "runtime.NumGoroutine" := by simpa using h2
 simp [callFunc,program,Sem.run,h1,h2',h3]
section
variable {cx:Cx} {M:f_ cx.P} {E:Env} {s s':M.σ} {g g':G} {w:World} {tm:Tm} {ρ:Operand->Value} {v:AV} {δ:List Ev} {call:jU}
theorem ahM(hmt:vZ cx)(hcall:zY cx M E.ρ call)(he:mZ E tm ρ)(hl:Low tm g.n)(r:Rep M E s g.at g.n w){c:Call}{o:Oper}(ho:o.op=.call c)(h:Tn cx call tm c g=some (v,g',δ))(hs:gX M E.ρ δ s s') :
 ∃ f args,(execOp ρ o).run cx.P w=.ok (.enter f args) w/\Calls cx.P f args w fun e w'=>∃ E',e=.returned (v.aA E')/\jk M E g.at g.n s w E' g'.at g'.n s' w':=by
 unfold Tn at h
 cases ht:Pm cx tm c with
 | none=>rw [ht] at h; cases h
 | some p =>
  obtain⟨f,args⟩:=p;rw [ht] at h;simp only [] at h
  cases hf:CV cx.P f with
  | none=>rw [hf] at h; cases h
  | some F =>
   rw [hf] at h;simp only [jr,dG] at h
   have MZ:(execOp ρ o).run cx.P w=.ok (.enter f (ay E args).toArray) w/\∀ u∈args,u.lt g.n=true:=by
    unfold Pm at ht
    cases has:jO tm c.args.toList with
    | none=>rw [has] at ht; cases ht
    | some us =>
     rw [has] at ht;simp only [] at ht;have e1:c.args.map ρ=(ay E us).toArray:=by apply Array.ext'; rw [Array.toList_map,uq he has]
     have l1:=KZ hl has;split at ht
     . rename_i x hx
       split at ht
       . rename_i k first cap hv
         injection ht with ht;injection ht with h1 h2;subst h1 h2;have hρ:=he x _ hv;have hlx:=hl x _ hv;refine⟨?_,fun u hu=>?_⟩
         . simp only [execOp,ho,resolve,hx,Sem.run_bind,e1,hρ,AV.aA,Deferred.ofValue,Sem.run_pure,Result.andThen_ok,invoke]
           rw [zZ hf];congr 2;rw [jw,jw];simp
         . simp only [List.append_assoc,List.mem_append] at hu
           unfold AV.lt at hlx;rw [aI,pow_eq] at hlx
           have sub:∀ u,(u∈first\/u∈cap)->u.lt g.n=true:=fun u hu=>by
            unfold AV.lt;rw [aI,pow_eq];refine dP fun q hq=>fQ hlx ?_;simp only [AV.kL,lor_eq,Nat.testBit_or,Bool.or_eq_true];exact hu.imp (fun h=>fF h hq) (fun h=>fF h hq)
           rcases hu with hu | hu | hu
           . exact sub u (.inl hu)
           . exact l1 u hu
           . exact sub u (.inr hu)
       . cases ht
     . rename_i x name hx
       split at ht
       . rename_i t a hv
         cases hm:cx.mt t name with
         | none=>rw [hm] at ht; cases ht
         | some k =>
          rw [hm] at ht;injection ht with ht;injection ht with h1 h2;subst h1 h2;have hρ:=he x _ hv;refine⟨?_,fun u hu=>?_⟩
          . have hmm:=hmt t name k hm a w
            have hex:(#[ρ x]++(ay E us).toArray).extract 1 (#[ρ x]++(ay E us).toArray).size=(ay E us).toArray:=by
             apply Array.ext';simp
            have h0:(#[ρ x]++(ay E us).toArray)[0]?=some (ρ x):=by simp
            simp only [execOp,ho,resolve,hx,Sem.run_bind,e1,Sem.run_pure,Result.andThen_ok,invoke,h0,hex];rw [hρ];simp only [AV.aA,callMethod,Sem.run_bind,program,Sem.run,Result.andThen_ok,hmm];rw [zZ hf];congr 2;simp [ay,AV.aA]
          . rcases List.mem_cons.1 hu with rfl | hu
            . show Nat.blt 0 _=true
              rw [aI]; exact Nat.two_pow_pos _
            . exact l1 u hu
       . cases ht
     . cases ht
   refine⟨f,_,MZ.1,?_⟩;unfold ad2 at h;simp only [oG,zX] at h;generalize hT:reach g 100 (dM args)=T at h;generalize hL:Em 1000 T=l at h
   cases hcond:(Nat.blt T (Nat.pow 2 g.n)&&kP T g l) with
   | false=>rw [hcond] at h; cases h
   | true =>
    rw [hcond] at h;simp only [cond_true] at h;simp only [Bool.and_eq_true,aI,pow_eq] at hcond;obtain⟨hp,hmem⟩:=BF (g:=g) (ro:=false) (l:=l) (nv:=g.nv);have hlt:∀ b∈l,b<g.n:=fun b hb=>fQ hcond.1 (QG 1000 T b (hL▸hb))
    have rm:Rep M E s (⟨lC g false l .nil,g.n,g.nv⟩:G).at g.n w:=r.part hp (fun b B hb k hk=>by
     obtain⟨B0,h0,_,_,hcs,_⟩:=hp b B hb;rw [hcs] at hk
     exact r.ids b B0 h0 k hk) (fun b B hb=>dQ (g:=⟨lC g false l .nil,g.n,g.nv⟩) hb)
    unfold ad1 at h
    cases hc:call f args ⟨lC g false l .nil,g.n,g.nv⟩ with
    | none=>rw [hc] at h; cases h
    | some q =>
     obtain⟨v1,g1,δ1⟩:=q;rw [hc] at h;simp only [] at h;obtain⟨hv1,hcc⟩:=hcall.2 _ _ _ _ _ _ hc
     cases hcond2:(v1.lt g.n&&kP (Nat.sub (Nat.pow 2 g.n) 1) g1 l) with
     | true =>
      rw [hcond2] at h;simp only [cond_true,dG] at h;simp only [Bool.and_eq_true] at hcond2;obtain⟨t',ht',hk⟩:=pF _ _ _ _ _ h;injection hk with hk; injection hk with k1 hk; injection hk with k2 k3;subst k1 k2 k3;refine(hcc E s s' w rfl rm MZ.2 hs).mono ?_;rintro e w' ⟨E',rfl,hw⟩;have hw1:=jk.whole (gm:=⟨lC g false l .nil,g.n,g.nv⟩) (l:=l) r hp rfl (fun b B hb _=>(hmem b B hb).1) hlt hw
      have hv2:v1.lt g1.n=true:=by
       have h1:=hcond2.1;unfold AV.lt at h1 ⊢;rw [aI,pow_eq] at h1 ⊢;exact Nat.lt_of_lt_of_le h1 (Nat.pow_le_pow_right (by omega) hw.le)
      have hat:∀ b,(⟨t',g.n,g1.nv⟩:G).at b=if b<g.n then joined g.at g1.at g.n g1.n l b else none:=fun b=>by
       by_cases hb:b<g.n
       . rw [if_pos hb,nG (g:=⟨t',g.n,g1.nv⟩) hb]
         show t'.get b=_;rw [ht'];unfold joined;have hno:¬ (g.n<=b/\b<g1.n):=by omega
         rw [if_neg hno];by_cases hbl:b∈l
         . rw [if_pos hbl,if_pos hbl]
         . rw [if_neg hbl,if_neg hbl,nG hb]
       . rw [if_neg hb,pz (g:=⟨t',g.n,g1.nv⟩) (by show g.n<=b; omega)]
      refine⟨patch E E' g.n g1.n,by rw [Ey hw.ext hw.rho hv2],hw1.cut hat fun b B hb k hk=>?_⟩;rw [hat] at hb;split at hb
      . rename_i hbn
        unfold joined at hb;rw [if_neg (by omega)] at hb;split at hb
        . rename_i hbl
          exact ahL (qE hcond2.2 b hbl B hb k hk)
        . exact r.ids b B hb k hk
      . cases hb
     | false =>
      rw [hcond2] at h;simp only [cond_false] at h
      cases hle:Nat.ble g.n g1.n with
      | false=>rw [hle] at h; cases h
      | true =>
       rw [hle] at h;simp only [cond_true,dG] at h;rw [bn] at hle;obtain⟨t1,ht1,hk⟩:=pF _ _ _ _ _ h;obtain⟨t2,ht2,hk2⟩:=pF _ _ _ _ _ hk;injection hk2 with hk2; injection hk2 with k1 hk2; injection hk2 with k2 k3;subst k1 k2 k3;refine(hcc E s s' w rfl rm MZ.2 hs).mono ?_;rintro e w' ⟨E',rfl,hw⟩;have hw1:=jk.whole (gm:=⟨lC g false l .nil,g.n,g.nv⟩) (l:=l) r hp rfl (fun b B hb _=>(hmem b B hb).1) hlt hw
       have hat:(⟨t2,g1.n,g1.nv⟩:G).at=joined g.at g1.at g.n g1.n l:=funext fun b=>by
        unfold joined;by_cases hb:b<g1.n
        . rw [nG (g:=⟨t2,g1.n,g1.nv⟩) hb]
          show t2.get b=_;rw [ht2,ht1]
          have hr:b∈sG (Nat.sub g1.n g.n) g.n↔g.n<=b:=by
           rw [Ew];have:Nat.sub g1.n g.n=g1.n - g.n:=rfl;omega
          by_cases hbn:g.n<=b
          . have hbl:b∉l:=fun h=>by have:=hlt b h; omega
            rw [if_neg hbl,if_pos (hr.2 hbn),if_pos ⟨hbn,hb⟩]
          . have hno:¬ (g.n<=b/\b<g1.n):=fun h=>hbn h.1
            have ahN:¬ b∈sG (Nat.sub g1.n g.n) g.n:=fun h=>hbn (hr.1 h);rw [if_neg hno,if_neg ahN];by_cases hbl:b∈l
            . rw [if_pos hbl,if_pos hbl]
            . rw [if_neg hbl,if_neg hbl,nG (by omega)]
        . rw [pz (g:=⟨t2,g1.n,g1.nv⟩) (by show g1.n<=b; omega),if_neg (by omega)]
          rw [if_neg (fun h=>by have:=hlt b h; omega),pz (by omega)]
       refine⟨patch E E' g.n g1.n,by rw [Ey hw.ext hw.rho hv1],?_⟩;rw [hat];exact hw1
end
end Xi
namespace Xi
open Go Go.RowKit
section
variable {cx:Cx} {M:f_ cx.P} {ρv:Nat->Value} {E:Env} {s s':M.σ} {g g':G} {w:World} {tm:Tm} {v:AV} {δ:List Ev} {call:jU} {a:Act} {o:Oper} {K:Act->World->Prop} {Q:Exit->Act->World->Prop}
theorem Fine.wp (h:Fine M E s g w (execOp a.eval o) v g' δ) (hs:gX M ρv δ s s') (hK:∀ E' w',jk M E g.at g.n s w E' g'.at g'.n s' w'->K (a.put o.dst (v.aA E')) w'):Oper.wp cx.P o a w K Q:=by
 obtain⟨hq,E',w',hx,hw⟩:=h;have hs':s=s':=(BD hq hs).1;subst hs';unfold Oper.wp;rcases hx with hx | ⟨hx,hu⟩
 . rw [hx]; exact hK E' w' hw
 . rw [hx]
   have:=hK E' w' hw;rw [hu] at this;exact this
theorem aea(hmt:vZ cx)(hcall:zY cx M ρv call)(hone:∀ i,(ρv i).oneCell'=true)(h:MK cx call tm o g=some (v,g',δ))(hρ:E.ρ=ρv)
 (he:∀ x∈o.op.operands,∀ u,dD tm x=some u->a.eval x=u.aA E) (hl:Low tm g.n) (r:Rep M E s g.at g.n w) (hs:gX M ρv δ s s')
 (hK:∀ E' w',jk M E g.at g.n s w E' g'.at g'.n s' w'->K (a.put o.dst (v.aA E')) w'):Oper.wp cx.P o a w K Q:=by
 subst hρ;have hE:E.one:=hone;obtain⟨ρ,hρ⟩:∃ ρ:Operand->Value,ρ=fun x=>match dD tm x with | some u=>u.aA E | none=>a.eval x:=⟨_,rfl⟩
 have hev:mZ E tm ρ:=fun x u hx=>by rw [hρ]; simp only [hx]
 have hsel:∀ cs b,o.op≠.select cs b:=fun cs b e=>by unfold MK at h; rw [e] at h; cases h
 have hcg:execOp a.eval o=execOp ρ o:=execOp_congr o hsel fun x hx=>by
  rw [hρ];show a.eval x=match dD tm x with | some u=>u.aA E | none=>a.eval x
  cases hu:dD tm x with
  | none=>rfl
  | some u=>exact he x hx u hu
 have fine:Fine M E s g w (execOp ρ o) v g' δ->Oper.wp cx.P o a w K Q:=fun hf=>by
  rw [<- hcg] at hf;exact hf.wp hs hK
 have fin:∀ {x:Sem Next},execOp ρ o=x->Fine M E s g w x v g' δ->Oper.wp cx.P o a w K Q:=fun e hf=>fine (e▸hf);unfold MK at h;split at h
 . rename_i x ho; exact fin (by simp only [execOp,ho]) (K_ hev r h)
 . rename_i x ho; exact fin (by simp only [execOp,ho]) (K_ hev r h)
 . rename_i c a b ho; exact fin (by simp only [execOp,ho]) (ahG hev r h)
 . rename_i T ho; exact fin (by simp only [execOp,ho]) (ad4 r h)
 . rename_i T x ho; exact fin (by simp only [execOp,ho]) (alX hev hl hE r h)
 . rename_i T parts ho; exact fin (by simp only [execOp,ho]) (ad6 hev hE r h)
 . rename_i T len parts ho; exact fin (by simp only [execOp,ho]) (Pz hev hl hE r h)
 . rename_i T x ho; exact fin (by simp only [execOp,ho]) (ahH hcall.1 hev r h)
 . rename_i T x y ho; exact fin (by simp only [execOp,ho]) (ad5 hev hl hE r h)
 . rename_i x ho; exact fine (alZ hev r ho h)
 . rename_i op T x y U ho; exact fine (al1 hev r ho h hs)
 . rename_i op T x ho; exact fine (aoy hev r ho h hs)
 . rename_i src dst x ho; exact fine (ahK hcall.1 hev r ho h hs)
 . rename_i T x ho; exact fine (al2 hev r ho h)
 . rename_i f x c ho; exact fine (al3 hev r ho h)
 . rename_i T x lo hi mx ho; exact fine (ad_ hcall.1 hev r ho h)
 . rename_i T x k ho; exact fine (Sz hev r ho h)
 . rename_i T x k ho; exact fine (ad7 hev r ho h)
 . rename_i T x i ho; exact fine (SA hcall.1 hev r ho h)
 . rename_i T x i ho; exact fine (ad8 hev r ho h)
 . rename_i x i ho; exact fine (Yq hev r ho h)
 . rename_i c ho
   unfold ad3 at h
   have plain:Tn cx call tm c g=some (v,g',δ)->Oper.wp cx.P o a w K Q:=fun h=>by
    obtain⟨f,args,hx,hc⟩:=ahM hmt hcall hev hl r ho h hs;unfold Oper.wp;rw [hcg,hx,Oper.upon_enter];refine hc.mono ?_;rintro e w' ⟨E',rfl,hw⟩;exact hK E' w' hw
   split at h
   . rename_i b hb
     split at h
     . exact fine (al6 hcall.1 hev r ho hb h)
     . exact fine (aa5 hcall.1 hev hE r ho hb h)
     . exact fine (al5 hev r ho hb h hs)
     . cases h
   . exact plain h
 . cases h
structure uM (E:Env) (tm:Tm) (a:Act):Prop where
 size:a.tmps.size=tm.n
 val:∀ t,a.tmps.getD t undef=(tm.at t).aA E
 top:∀ t,tm.n<=t->tm.at t=.lit undef
 defers:a.defers=[]
def kJ(tm:Tm)(n:Nat):Prop:=∀ t,(tm.at t).lt n=true
theorem UG(v:Value)(n:Nat):(AV.lit v).lt n=true:=by
 show Nat.blt 0 _=true;rw [aI]; exact Nat.two_pow_pos _
theorem kJ.low{n:Nat}(h:kJ tm n):Low tm n:=fun x u hx=>by
 unfold dD at hx;split at hx
 . injection hx with hx; subst hx; exact h _
 . injection hx with hx; subst hx
   show Nat.blt (dM _) _=true;rw [QI,aI]; exact Nat.two_pow_pos _
 . injection hx with hx; subst hx; exact UG _ _
 . injection hx with hx; subst hx
   show Nat.blt 0 _=true;rw [aI]; exact Nat.two_pow_pos _
 . cases hx
theorem AV.Ja{v:AV}{n n':Nat}(h:v.lt n=true)(hn:n<=n'):v.lt n'=true:=by
 unfold AV.lt at h ⊢;rw [aI,pow_eq] at h ⊢;exact Nat.lt_of_lt_of_le h (Nat.pow_le_pow_right (by omega) hn)
theorem La(ht:uM E tm a)(x:Operand)(u:AV)(hx:dD tm x=some u):a.eval x=u.aA E:=by
 unfold dD at hx;split at hx
 . injection hx with hx; subst hx; exact ht.val _
 . injection hx with hx; subst hx
   show Value.agg _=Value.agg _;rw [yR]
 . injection hx with hx; subst hx; rfl
 . injection hx with hx; subst hx; rfl
 . cases hx
theorem BG{β:Type}{tm:Tm}{d:Option Nat}{v:AV}{k:Tm->Option β}{r:β}(h:zT tm d v none k=some r) :
 ∃ tm',tm'.n=tm.n/\(∀ t,tm'.at t=if d=some t then v else tm.at t)/\(∀ t,d=some t->t<tm.n)/\k tm'=some r:=by
 unfold zT at h
 cases d with
 | none=>exact⟨tm,rfl,fun t=>by simp,fun t ht=>(by cases ht),h⟩
 | some d =>
  simp only [dY] at h
  cases hc:(Nat.blt d tm.n&&Nat.blt d 1000000) with
  | false=>rw [hc] at h; cases h
  | true =>
   rw [hc] at h;simp only [Bool.and_eq_true,aI] at hc;refine⟨⟨tm.n,Tr.set 20 tm.t d (some v)⟩,rfl,fun t=>?_,fun t ht=>(by injection ht with ht; subst ht; exact hc.1),h⟩;unfold Tm.at;rw [Tr.lX _ _ _ _ hc.2];by_cases e:t=d
   . subst e; simp
   . have:¬ (some d=some t):=fun h=>e (by injection h with h; exact h.symm)
     rw [if_neg e,if_neg this]
theorem Lc{d:Option Nat}{u:Value}{t:Nat}(h:d≠some t):(a.put d u).tmps.getD t undef=a.tmps.getD t undef:=by
 cases d with
 | none=>rfl
 | some d =>
  have hne:d≠t:=fun e=>h (by rw [e]);simp [Act.put,Array.getElem?_setIfInBounds_ne hne]
theorem yC{d:Nat}{u:Value}(h:d<a.tmps.size):(a.put (some d) u).tmps.getD d undef=u:=by
 simp [Act.put,h]
theorem size_put{d:Option Nat}{u:Value}:(a.put d u).tmps.size=a.tmps.size:=by cases d<;>simp [Act.put]
theorem Ez{d:Option Nat}{u:Value}:(a.put d u).defers=a.defers:=by cases d<;>rfl
theorem uM.put{tm':Tm}{u:Value}(ht:uM E tm a)(d:Option Nat)(hn:tm'.n=tm.n)(hat:∀ t,tm'.at t=if d=some t then v else tm.at t)(hd:∀ t,d=some t->t<tm.n)(hu:u=v.aA E):uM E tm' (a.put d u):=by
 refine⟨by rw [hn,size_put]; exact ht.size,fun t=>?_,fun t htt=>?_,by rw [Ez]; exact ht.defers⟩
 . rw [hat]
   by_cases e:d=some t
   . rw [if_pos e]
     subst e;rw [yC (by rw [ht.size]; exact hd t rfl)];exact hu
   . rw [if_neg e,Lc e]
     exact ht.val t
 . rw [hat,if_neg (fun e=>by have:=hd t e; omega)]
   exact ht.top t (by omega)
theorem uM.env{E':Env}{n:Nat}(ht:uM E tm a)(hl:kJ tm n)(hext:∀ b,b<n->E'.γ b=E.γ b/\E'.κ b=E.κ b)(hρ:E'.ρ=E.ρ):uM E' tm a :=
 ⟨ht.size,fun t=>by rw [ht.val t]; exact(rG hρ _ fun k hk=>hext k (AV.fQ (hl t) hk)).symm,ht.top,ht.defers⟩
theorem M_{ops:Array Oper}{b:Bool}(h:En ops tm o=some b)(hv:∀ j want oj d,o.guard=some (j,want)->ops[j]?=some oj->oj.dst=some d->a.tmps.getD d undef=(tm.at d).aA E)(hsz:a.tmps.size=tm.n):Region.wanted o (yielded ops a.tmps)=b:=by
 unfold En at h;unfold Region.wanted
 cases hg:o.guard with
 | none=>rw [hg] at h; injection h
 | some p =>
  obtain⟨j,want⟩:=p;rw [hg] at h;simp only [] at h ⊢
  cases hj:ops[j]? with
  | none=>rw [hj] at h; cases h
  | some oj =>
   rw [hj] at h;simp only [] at h
   cases hd:oj.dst with
   | none=>rw [hd] at h; cases h
   | some d =>
    rw [hd] at h;simp only [] at h;split at h
    . rename_i b' hb
      cases hlt:Nat.blt d tm.n with
      | false=>rw [hlt] at h; cases h
      | true =>
       rw [hlt] at h;injection h with h;have:=hv j want oj d hg hj hd;rw [hb] at this;have hdl:d<a.tmps.size:=by rw [hsz]; exact aI.1 hlt
       unfold yielded;rw [hj];simp only [Option.bind_some,hd,Array.getElem?_eq_getElem hdl];have e2:a.tmps[d]=.bool b':=by simpa [Array.getD_eq_getD_getElem?,Array.getElem?_eq_getElem hdl,AV.aA] using this
       rw [e2,<- h]
       cases b'<;>cases want<;>rfl
    . cases h
def akN (cx:Cx) (M:f_ cx.P) (ρv:Nat->Value) (tm:Tm) (g:G) (tm':Tm) (g':G) (δ:List Ev) (wp:(Act->World->Prop)->Act->World->Prop):Prop :=
 ∀(E:Env) (s s':M.σ) w a (K:Act->World->Prop),E.ρ=ρv->uM E tm a->Rep M E s g.at g.n w->gX M ρv δ s s' ->
  (∀ E' a' w',uM E' tm' a'->jk M E g.at g.n s w E' g'.at g'.n s' w'->K a' w')->wp K a w
theorem PD(hmt:vZ cx)(hcall:zY cx M ρv call)(hone:∀ i,(ρv i).oneCell'=true){ops:Array Oper}:∀(l:List Nat) {tm tm':Tm} {g g':G} {δ:List Ev},(∀ i∈l,i<ops.size) ->
 CX cx call ops (l.filterMap (ops[·]?)) tm g=some (tm',g',δ)->kJ tm g.n->kJ tm' g'.n/\∀ Q:Exit->Act->World->Prop,akN cx M ρv tm g tm' g' δ fun K a w=>wpOps cx.P ops (Exit.then K Q) l a w
 | [],tm,tm',g,g',δ,_,h,hl=>by
  unfold CX at h;injection h with h; injection h with h1 h; injection h with h2 h3;subst h1 h2 h3;refine⟨hl,fun Q E s s' w a K hρ ht r hs hK=>?_⟩;have:s=s':=hs;subst this;exact hK E a w ht r.went
 | i::l,tm,tm',g,g',δ,hin,h,hl=>by
  have hi:i<ops.size:=hin i (by simp);have ho:ops[i]?=some ops[i]:=Array.getElem?_eq_getElem hi;rw [List.filterMap_cons,ho] at h;simp only [] at h;generalize ops[i]=o at *;unfold CX at h;have hin':∀ j∈l,j<ops.size:=fun j hj=>hin j (by simp [hj])
  cases hw:En ops tm o with
  | none=>rw [hw] at h; cases h
  | some b =>
   rw [hw] at h;have hwant:∀ {E:Env} {a:Act},uM E tm a->Region.wanted o (yielded ops a.tmps)=b:=fun ht=>M_ hw (fun _ _ _ d _ _ _=>ht.val d) ht.size
   cases b with
   | false =>
    simp only [] at h;obtain⟨tm1,hn,hat,hd,hk⟩:=BG h
    have hl1:kJ tm1 g.n:=fun t=>by
     rw [hat]; split
     . exact UG _ _
     . exact hl t
    obtain⟨h1,h2⟩:=PD hmt hcall hone l hin' hk hl1;refine⟨h1,fun Q E s s' w a K hρ ht r hs hK=>?_⟩;simp only [wpOps,ho];rw [if_neg (by rw [hwant ht]; simp)];exact h2 Q E s s' w _ K hρ (ht.put o.dst hn hat hd rfl) r hs hK
   | true =>
    simp only [] at h;unfold akJ at h
    cases hop:MK cx call tm o g with
    | none=>rw [hop] at h; cases h
    | some q =>
     obtain⟨v,g1,δ1⟩:=q;rw [hop] at h;simp only [] at h
     cases Gg:(v.lt g1.n&&Nat.ble g.n g1.n) with
     | false=>rw [Gg] at h; cases h
     | true =>
      rw [Gg] at h;simp only [cond_true] at h;simp only [Bool.and_eq_true,bn] at Gg;obtain⟨hv,hle⟩:=Gg;obtain⟨tm1,hn,hat,hd,hk⟩:=BG h
      cases hr:CX cx call ops (l.filterMap (ops[·]?)) tm1 g1 with
      | none=>rw [hr] at hk; cases hk
      | some q2 =>
       obtain⟨tm2,g2,δ2⟩:=q2;rw [hr] at hk;injection hk with hk; injection hk with k1 hk; injection hk with k2 k3;subst k1 k2 k3
       have hl1:kJ tm1 g1.n:=fun t=>by
        rw [hat]; split
        . exact hv
        . exact AV.Ja (hl t) hle
       obtain⟨h1,h2⟩:=PD hmt hcall hone l hin' hr hl1;refine⟨h1,fun Q E s s' w a K hρ ht r hs hK=>?_⟩;simp only [wpOps,ho];rw [if_pos (hwant ht)];obtain⟨s1,hs1,hs2⟩:=mM.1 hs;left;refine aea hmt hcall hone hop hρ (fun x _ u hx=>La ht x u hx) hl.low r hs1 fun E' w' hw'=>?_;refine h2 Q E' s1 s' w' _ K (hw'.rho.trans hρ) ?_ hw'.rep hs2 fun E'' a'' w'' ht'' hw''=>hK E'' a'' w'' ht'' (hw'.trans hw'');exact(ht.env hl hw'.ext hw'.rho).put o.dst hn hat hd rfl
end
end Xi
namespace Xi
open Go Go.RowKit
def qF(ops:Array Oper)(L:Nat->Prop):Prop:=∀(k:Nat) (o:Oper),ops[k]?=some o->L k->∀ e∈o.after,Region.binds .any e=true->L e.on
theorem JX{acc:List Nat}{i:Nat}:∀ {es:List Edge} {s:Nat},(I8 acc es s).testBit i=true->s.testBit i=true\/∃ e∈es,Region.binds .any e=true/\(i=e.on\/∃ m,acc[e.on]?=some m/\m.testBit i=true)
 | [],s,h=>.inl h
 | e::es,s,h=>by
  unfold I8 at h;rcases JX h with h1 | ⟨e',he',hb,h2⟩
  . cases hb:Region.binds .any e with
    | false=>rw [hb] at h1; exact .inl h1
    | true =>
     rw [hb] at h1;simp only [cond_true,lor_eq,pow_eq,Nat.testBit_or,Bool.or_eq_true,nD] at h1;rcases h1 with(h1 | h1) | h1
     . exact .inl h1
     . rw [I9] at h1
       exact .inr ⟨e,by simp,hb,.inl (by simpa using (of_decide_eq_true h1).symm)⟩
     . cases hm:acc[e.on]? with
       | none=>rw [hm] at h1; simp at h1
       | some m=>rw [hm] at h1; exact .inr ⟨e,by simp,hb,.inr ⟨m,hm,h1⟩⟩
  . exact .inr ⟨e',by simp [he'],hb,h2⟩
def PE(ops:Array Oper)(acc:List Nat):Prop:=∀(k m:Nat) (o:Oper),acc[k]?=some m->ops[k]?=some o->∀ L:Nat->Prop,qF ops L->(∀ e∈o.after,Region.binds .any e=true->L e.on)->∀ i,m.testBit i=true->L i
theorem Na{ops:Array Oper}:∀(l:List Oper) (acc:List Nat),(∀ j,l[j]?=ops[acc.length+j]?)->PE ops acc->PE ops (ahead l acc)
 | [],acc,_,h=>h
 | o::l,acc,hl,h=>by
  unfold ahead;simp only [dG,oG];refine Na l _ (fun j=>by have:=hl (j+1); simp at this; rw [this]; congr 1; simp; omega) ?_;intro k m o' hk ho' L hL hd i hi;rw [List.getElem?_append] at hk;split at hk
  . exact h k m o' hk ho' L hL hd i hi
  . rename_i hlt
    have hkl:k=acc.length:=by
     rcases Nat.lt_or_ge (k - acc.length) 1 with h1 | h1
     . omega
     . rw [List.getElem?_eq_none (by simpa using h1)] at hk; cases hk
    subst hkl;simp at hk;subst hk;have h0:=hl 0;simp at h0;rw [<- h0] at ho';injection ho' with ho';subst ho';rcases JX hi with h1 | ⟨e,he,hb,h1⟩
    . simp at h1
    . have hLe:=hd e (by simpa using he) hb
      rcases h1 with rfl | ⟨m,hm,hmi⟩
      . exact hLe
      . cases hoe:ops[e.on]? with
        | none =>
         exfalso;have h3:e.on<acc.length:=(List.getElem?_eq_some_iff.1 hm).1;have h4:acc.length<ops.size:=(Array.getElem?_eq_some_iff.1 h0.symm).1;rw [Array.getElem?_eq_none_iff] at hoe;omega
        | some oe=>exact h e.on m oe hm hoe L hL (fun e' he' hb'=>hL e.on oe hoe hLe e' he' hb') i hmi
theorem ahO(ops:Array Oper):PE ops (ahead ops.toList []):=Na ops.toList [] (fun j=>by simp) (fun k m o h=>by simp at h)
theorem JY{y:Rec}{m:Nat}:∀ {k:Nat} {l:List Rec},MN y m k l=true->∀ i x,l[i]?=some x->m.testBit (k+i)=true\/conflict x y=false
 | k,[],h,i,x,hx=>by simp at hx
 | k,z::l,h,i,x,hx=>by
  unfold MN at h;simp only [Bool.and_eq_true,Bool.or_eq_true,Bool.not_eq_true',att] at h
  cases i with
  | zero=>simp at hx; subst hx; exact h.1
  | succ i =>
   have:=JY h.2 i x (by simpa using hx);rwa [show k+1+i=k+(i+1) by omega] at this
theorem QL:∀ {rs done:List Rec} {ms:List Nat},fine done rs ms=true->∀ j y,rs[j]?=some y->∃ m,ms[j]?=some m/\∀ i x,(done++rs)[i]?=some x->i<done.length+j->m.testBit i=true\/conflict x y=false
 | [],done,ms,h,j,y,hy=>by simp at hy
 | z::rs,done,[],h,j,y,hy=>by cases h
 | z::rs,done,m::ms,h,j,y,hy=>by
  unfold fine at h;simp only [Bool.and_eq_true] at h
  cases j with
  | zero =>
   simp at hy;subst hy;refine⟨m,rfl,fun i x hx hi=>?_⟩;have:=JY h.1 i x (by rwa [List.getElem?_append_left (by omega)] at hx);rwa [Nat.zero_add] at this
  | succ j =>
   obtain⟨m',hm,h2⟩:=QL h.2 j y (by simpa using hy);refine⟨m',by simpa using hm,fun i x hx hi=>h2 i x (by simpa using hx) (by simp; omega)⟩
theorem Nb{i:Nat}:∀ {l:List Edge},Tt i l=true->∀ e∈l,Region.binds .any e=true->e.on<i
 | [],_,e,he,_=>by cases he
 | d::l,h,e,he,hb=>by
  unfold Tt at h;simp only [Bool.and_eq_true,Bool.or_eq_true,Bool.not_eq_true',aI] at h;rcases List.mem_cons.1 he with rfl | he
  . rcases h.1 with h1 | h1
    . rw [h1] at hb; cases hb
    . exact h1
  . exact Nb h.2 e he hb
theorem yD:∀ {k:Nat} {l:List Oper},backward k l=true->∀ i o,l[i]?=some o->∀ e∈o.after,Region.binds .any e=true->e.on<k+i
 | k,[],_,i,o,h=>by simp at h
 | k,x::l,h,i,o,ho=>by
  unfold backward at h;simp only [Bool.and_eq_true] at h
  cases i with
  | zero=>simp at ho; subst ho; exact fun e he hb=>Nb h.1 e (by simpa using he) hb
  | succ i =>
   intro e he hb;have:=yD h.2 i o (by simpa using ho) e he hb;omega
structure Nc (cx:Cx) (call:jU) (ops:Array Oper) (tm:Tm) (g:G) (r:Rec) (tm':Tm) (g':G):Prop where
 want:En ops tm r.o=some r.want
 tn:tm'.n=tm.n
 at_:∀ t,tm'.at t=if r.o.dst=some t then r.v else tm.at t
 dst:∀ t,r.o.dst=some t->t<tm.n
 n0:r.n0=g.n
 n1:g'.n=r.n1
 le:r.n0<=r.n1
 L:r.L=Nat.lor (wW r.o.op.operands.toList) (uI ops r.o)\/(r.want=false/\r.L=uI ops r.o)
 D:r.D=KW r.o
 T:r.T<2 ^ r.n0
 l:∀ b∈r.l,r.T.testBit b=true/\r.W.testBit b=true
 heap:∀ b,g'.at b=joined g.at r.g.at r.n0 r.n1 r.l b
 v:∀ k,r.v.kL.testBit k=true->r.T.testBit k=true\/(r.n0<=k/\k<r.n1)
 cells:∀ b B,r.g.at b=some B->(r.n0<=b/\b<r.n1)\/b∈r.l->∀ k,(dM B.cs).testBit k=true->r.T.testBit k=true\/(r.n0<=k/\k<r.n1)
 off:r.want=false->r.ev=[]/\r.v=.lit undef/\r.n0=r.n1/\r.l=[]
 op:r.want=true->∃ gm:G,Part gm.at g.at/\gm.n=g.n/\(∀ b B,gm.at b=some B->r.T.testBit b=true/\(B.ro=false->b∈r.l)/\∀ k,(dM B.cs).testBit k=true->r.T.testBit k=true)/\r.g.n=r.n1/\MK cx call tm r.o gm=some (r.v,r.g,r.ev)
inductive Chain (cx:Cx) (call:jU) (ops:Array Oper):List Rec->Tm->G->Tm->G->Prop where
 | nil (tm:Tm) (g:G):Chain cx call ops [] tm g tm g
 | cons {r:Rec} {rs:List Rec} {tm tm1 tm':Tm} {g g1 g':G} (h:Nc cx call ops tm g r tm1 g1) (t:Chain cx call ops rs tm1 g1 tm' g'):Chain cx call ops (r::rs) tm g tm' g'
section
variable {cx:Cx} {call:jU} {ops:Array Oper}
theorem Chain.awN{rs:List Rec}{tm tm':Tm}{g g':G}(h:Chain cx call ops rs tm g tm' g'):∃(T:Nat->Tm) (H:Nat->G),T 0=tm/\H 0=g/\T rs.length=tm'/\H rs.length=g'/\∀ i r,rs[i]?=some r->Nc cx call ops (T i) (H i) r (T (i+1)) (H (i+1)):=by
 induction h with
 | nil tm g=>exact⟨fun _=>tm,fun _=>g,rfl,rfl,rfl,rfl,fun i r h=>by simp at h⟩
 | @cons r rs tm tm1 tm' g g1 g' h t ih =>
  obtain⟨T,H,h1,h2,h3,h4,h5⟩:=ih;refine⟨fun n=>match n with | 0=>tm | n+1=>T n,fun n=>match n with | 0=>g | n+1=>H n,rfl,rfl,h3,h4,fun i x hx=>?_⟩
  cases i with
  | zero=>simp at hx; subst hx; show Nc cx call ops tm g r (T 0) (H 0); rw [h1,h2]; exact h
  | succ i=>exact h5 i x (by simpa using hx)
theorem Nh{o:Oper}{T W n0 L D:Nat}{l:List Nat}{old g':G}{y:bI}{no:Unit->Option (Rec×G)}{r:Rec}(hn0:n0=old.n)(hl:∀ b∈l,b<n0)(h:Tq o T W n0 L D l old y no=some (r,g')) :
 (y=none/\no ()=some (r,g'))\/(∃ v g δ,y=some (v,g,δ)/\r=⟨o,true,v,T,W,l,n0,g.n,g,δ,L,D⟩/\n0<=g.n/\g'.n=g.n/\(∀ b,g'.at b=joined old.at g.at n0 g.n l b) /\
   (∀ k,v.kL.testBit k=true->T.testBit k=true\/(n0<=k/\k<g.n))/\∀ b B,g.at b=some B->(n0<=b/\b<g.n)\/b∈l->∀ k,(dM B.cs).testBit k=true->T.testBit k=true\/(n0<=k/\k<g.n)):=by
 unfold Tq at h
 cases y with
 | none=>exact .inl ⟨rfl,h⟩
 | some q =>
  obtain⟨v,g,δ⟩:=q;right;simp only [dG,oG] at h
  cases hc:(Nat.ble n0 g.n&&KQ v.kL (Nat.lor T (news n0 g.n))&&kP (Nat.lor T (news n0 g.n)) g (sG (Nat.sub g.n n0) n0)&&kP (Nat.lor T (news n0 g.n)) g l) with
  | false=>rw [hc] at h; cases h
  | true =>
   rw [hc] at h;simp only [cond_true] at h;simp only [Bool.and_eq_true,bn] at hc;obtain⟨⟨⟨c1,c2⟩,c3⟩,c4⟩:=hc;obtain⟨t1,h1,hk⟩:=pF _ _ _ _ _ h;obtain⟨t2,h2,hk2⟩:=pF _ _ _ _ _ hk;injection hk2 with hk2; injection hk2 with k1 k2;subst k1 k2
   have hS:∀ k,(Nat.lor T (news n0 g.n)).testBit k=true->T.testBit k=true\/(n0<=k/\k<g.n):=fun k hk=>by
    have e:news n0 g.n=2 ^ g.n - 2 ^ n0:=rfl;rw [lor_eq,Nat.testBit_or,e,Uy c1] at hk
    simpa using hk
   have hr:∀ b,b∈sG (Nat.sub g.n n0) n0↔n0<=b/\b<g.n:=fun b=>by
    rw [Ew];have:Nat.sub g.n n0=g.n - n0:=rfl;omega
   refine⟨v,g,δ,rfl,rfl,c1,rfl,fun b=>?_,fun k hk=>hS k (zV c2 hk),fun b B hb hbm k hk=>hS k ?_⟩
   . unfold joined
     by_cases hb:b<g.n
     . rw [nG (g:=⟨t2,g.n,g.nv⟩) hb]
       show t2.get b=_;rw [h2,h1];by_cases hbn:n0<=b
       . have hbl:b∉l:=fun h=>by have:=hl b h; omega
         rw [if_neg hbl,if_pos ((hr b).2 ⟨hbn,hb⟩),if_pos ⟨hbn,hb⟩]
       . have hno:¬ (n0<=b/\b<g.n):=fun h=>hbn h.1
         have ahN:¬ b∈sG (Nat.sub g.n n0) n0:=fun h=>hbn ((hr b).1 h).1;rw [if_neg hno,if_neg ahN];by_cases hbl:b∈l
         . rw [if_pos hbl,if_pos hbl]
         . rw [if_neg hbl,if_neg hbl,nG (by omega)]
     . have hno:¬ (n0<=b/\b<g.n):=fun h=>hb h.2
       rw [pz (g:=⟨t2,g.n,g.nv⟩) (by show g.n<=b; omega),if_neg hno,if_neg (fun h=>by have:=hl b h; omega),pz (by omega)]
   . rcases hbm with hbm | hbm
     . exact qE c3 b ((hr b).2 hbm) B hb k hk
     . exact qE c4 b hbm B hb k hk
theorem aa6{tm:Tm}{o:Oper}{g g':G}{T TH L D:Nat}{r:Rec}(h:I7 cx call tm o g T TH L D=some (r,g')) :
 r.o=o/\r.want=true/\r.L=L/\r.D=D/\r.n0=g.n/\g'.n=r.n1/\r.n0<=r.n1/\r.T<2 ^ r.n0/\(∀ b∈r.l,r.T.testBit b=true/\r.W.testBit b=true)/\(∀ b,g'.at b=joined g.at r.g.at r.n0 r.n1 r.l b) /\
 (∀ k,r.v.kL.testBit k=true->r.T.testBit k=true\/(r.n0<=k/\k<r.n1)) /\
 (∀ b B,r.g.at b=some B->(r.n0<=b/\b<r.n1)\/b∈r.l->∀ k,(dM B.cs).testBit k=true->r.T.testBit k=true\/(r.n0<=k/\k<r.n1)) /\
 ∃ gm:G,Part gm.at g.at/\gm.n=g.n/\(∀ b B,gm.at b=some B->r.T.testBit b=true/\(B.ro=false->b∈r.l)/\∀ k,(dM B.cs).testBit k=true->r.T.testBit k=true)/\r.g.n=r.n1/\MK cx call tm o gm=some (r.v,r.g,r.ev):=by
 unfold I7 at h;simp only [oG,zX] at h;generalize hL:Em 1000 TH=l at h
 cases hc:(Nat.blt T (Nat.pow 2 g.n)&&KQ TH T&&kP T g l) with
 | false=>rw [hc] at h; cases h
 | true =>
  rw [hc] at h;simp only [cond_true] at h;simp only [Bool.and_eq_true,aI,pow_eq] at hc;obtain⟨⟨c1,c2⟩,c3⟩:=hc;have hlT:∀ b∈l,TH.testBit b=true:=fun b hb=>QG 1000 TH b (hL▸hb);have hlt:∀ b∈l,b<g.n:=fun b hb=>fQ c1 (zV c2 (hlT b hb))
  have cells:∀(ro:Bool) (nv:Nat) (b:Nat) (B:AB),(⟨lC g ro l .nil,g.n,nv⟩:G).at b=some B->T.testBit b=true/\∀ k,(dM B.cs).testBit k=true->T.testBit k=true:=fun ro nv b B hb=>by
   obtain⟨hp,hm⟩:=BF (g:=g) (ro:=ro) (l:=l) (nv:=nv);obtain⟨h1,_⟩:=hm b B hb;obtain⟨B0,h0,_,_,hcs,_⟩:=hp b B hb;refine⟨zV c2 (hlT b h1),fun k hk=>?_⟩;rw [hcs] at hk;exact qE c3 b h1 B0 h0 k hk
  rcases Nh rfl (fun b hb=>by cases hb) h with⟨_,h⟩ | ⟨v,g1,δ,hy,rfl,q1,q2,q3,q4,q5⟩
  . rcases Nh rfl hlt h with⟨_,h⟩ | ⟨v,g1,δ,hy,rfl,q1,q2,q3,q4,q5⟩
    . cases h
    . obtain⟨hp,hm⟩:=BF (g:=g) (ro:=false) (l:=l) (nv:=g.nv)
      exact⟨rfl,rfl,rfl,rfl,rfl,q2,q1,c1,fun b hb=>⟨zV c2 (hlT b hb),hlT b hb⟩,q3,q4,q5,_,hp,rfl,fun b B hb=>⟨(cells _ _ b B hb).1,fun _=>(hm b B hb).1,(cells _ _ b B hb).2⟩,rfl,hy⟩
  . obtain⟨hp,hm⟩:=BF (g:=g) (ro:=true) (l:=l) (nv:=g.nv)
    exact⟨rfl,rfl,rfl,rfl,rfl,q2,q1,c1,fun b hb=>(by cases hb),q3,q4,q5,_,hp,rfl,fun b B hb=>⟨(cells _ _ b B hb).1,fun h=>(by rw [(hm b B hb).2 rfl] at h; cases h),(cells _ _ b B hb).2⟩,rfl,hy⟩
theorem EC:∀(l:List Oper) {tm tm':Tm} {g g':G} {rs:List Rec},yQ cx call ops l tm g=some (rs,tm',g')->Chain cx call ops rs tm g tm' g'/\rs.map (·.o)=l
 | [],tm,tm',g,g',rs,h=>by
  unfold yQ at h;injection h with h; injection h with h1 h; injection h with h2 h3;subst h1 h2 h3;exact⟨.nil _ _,rfl⟩
 | o::l,tm,tm',g,g',rs,h=>by
  unfold yQ at h
  cases hw:En ops tm o with
  | none=>rw [hw] at h; cases h
  | some b =>
   rw [hw] at h
   cases b with
   | false =>
    simp only [] at h;obtain⟨tm1,hn,hat,hd,hk⟩:=BG h
    cases hr:yQ cx call ops l tm1 g with
    | none=>rw [hr] at hk; cases hk
    | some q =>
     obtain⟨rs2,tm2,g2⟩:=q;rw [hr] at hk;injection hk with hk; injection hk with k1 hk; injection hk with k2 k3;subst k1 k2 k3;obtain⟨h1,h2⟩:=EC l hr;refine⟨.cons ?_ h1,by rw [List.map_cons,h2]⟩;refine⟨hw,hn,hat,hd,rfl,rfl,Nat.le_refl _,.inr ⟨rfl,rfl⟩,rfl,Nat.two_pow_pos _,fun b hb=>(by cases hb),fun b=>?_,fun k hk=>(by simp [AV.kL] at hk),fun b B _ hb=>?_,fun _=>⟨rfl,rfl,rfl,rfl⟩,fun h=>(by cases h)⟩
     . show g.at b=joined g.at g.at g.n g.n [] b
       unfold joined;rw [if_neg (by omega)];simp
     . exfalso
       rcases hb with hb | hb
       . simp only at hb; omega
       . cases hb
   | true =>
    simp only [] at h;unfold recOn at h
    cases hx:ahz cx call ops tm o g with
    | none=>rw [hx] at h; cases h
    | some q0 =>
     obtain⟨r,g1⟩:=q0;rw [hx] at h;simp only [] at h;obtain⟨tm1,hn,hat,hd,hk⟩:=BG h
     cases hr:yQ cx call ops l tm1 g1 with
     | none=>rw [hr] at hk; cases hk
     | some q =>
      obtain⟨rs2,tm2,g2⟩:=q;rw [hr] at hk;injection hk with hk; injection hk with k1 hk; injection hk with k2 k3;subst k1 k2 k3;obtain⟨h1,h2⟩:=EC l hr
      have hx':∃ T TH,I7 cx call tm o g T TH (Nat.lor (wW o.op.operands.toList) (uI ops o)) (KW o)=some (r,g1):=by
       unfold ahz at hx
       cases hv:jO tm o.op.operands.toList with
       | none=>rw [hv] at hx; cases hx
       | some vs =>
        rw [hv] at hx;simp only [dG] at hx
        cases hs:shallow o.op with
        | true=>rw [hs] at hx; exact⟨_,_,hx⟩
        | false =>
        rw [hs] at hx;simp only [cond_false] at hx
        cases hh:akK o.op with
        | true=>rw [hh] at hx; exact⟨_,_,hx⟩
        | false=>rw [hh] at hx; exact⟨_,_,hx⟩
      obtain⟨T,TH,hx'⟩:=hx';obtain⟨a1,a2,a3,a4,a5,a6,a7,a8,a9,a10,a11,a12,gm,a13,a14,a15,a16,a17⟩:=aa6 hx';refine⟨.cons ?_ h1,by rw [List.map_cons,h2,a1]⟩;refine⟨by rw [a1,a2]; exact hw,hn,hat,hd,a5,a6,a7,.inl (by rw [a1]; exact a3),by rw [a1]; exact a4,a8,a9,a10,a11,a12,(fun h=>by rw [a2] at h; cases h),fun _=>⟨gm,a13,a14,a15,a16,by rw [a1]; exact a17⟩⟩
end
end Xi
namespace Xi
open Go Go.RowKit
def cZ {β:Type} (upd:Nat->Nat->Option β) (f0:Nat->β) (L:Nat->Bool):Nat->Nat->β
 | 0,x=>f0 x
 | k+1,x=>match L k,upd k x with
  | true,some y=>y
  | _,_=>cZ upd f0 L k x
section
variable {β:Type} {upd:Nat->Nat->Option β} {f0:Nat->β} {L L':Nat->Bool}
theorem yV{m:Nat}{x:Nat}:∀ {d:Nat},(∀ j,m<=j->j<m+d->(upd j x).isSome=true->L j=false)->cZ upd f0 L (m+d) x=cZ upd f0 L m x
 | 0,_=>rfl
 | d+1,h=>by
  have ih:=yV (d:=d) (fun j h1 h2 h3=>h j h1 (by omega) h3);show cZ upd f0 L (m+d+1) x=_;rw [cZ];split
  . rename_i y hl hu
    rw [h (m+d) (by omega) (by omega) (by rw [hu]; rfl)] at hl; cases hl
  . exact ih
theorem GY{m:Nat}{x:Nat}:(∀ j,j<m->(upd j x).isSome=true->L j=true)->cZ upd f0 L m x=cZ upd f0 (fun _=>true) m x:=by
 induction m with
 | zero=>intro _; rfl
 | succ m ih =>
  intro h;have ih:=ih (fun j hj hs=>h j (by omega) hs);rw [cZ,cZ,ih]
  cases hu:upd m x with
  | none=>cases L m<;>rfl
  | some y=>rw [h m (by omega) (by rw [hu]; rfl)]
theorem UH{n i x:Nat}(hi:i<=n)(h1:∀ j,j<i->(upd j x).isSome=true->L j=true)(h2:∀ j,i<=j->j<n->(upd j x).isSome=true->L j=false):cZ upd f0 L n x=cZ upd f0 (fun _=>true) i x:=by
 obtain⟨d,rfl⟩:∃ d,n=i+d:=⟨n - i,by omega⟩
 rw [yV h2,GY h1]
theorem ED{i x:Nat}(hL:L i=false)(hL':∀ j,L' j=if j=i then true else L j):∀ {n:Nat},(∀ j,i<j->j<n->L j=true->(upd j x).isSome=true->upd i x=none) ->
 cZ upd f0 L' n x=if i<n then(match upd i x with | some y=>y | none=>cZ upd f0 L n x) else cZ upd f0 L n x
 | 0,_=>by rw [if_neg (by omega)]; rfl
 | n+1,h=>by
  have ih:=ED hL hL' (n:=n) (fun j h1 h2=>h j h1 (by omega));rw [cZ,cZ,hL' n];by_cases e:n=i
  . subst e
    rw [if_pos rfl,if_pos (by omega),hL];rw [if_neg (by omega)] at ih
    cases hu:upd n x with
    | none=>exact ih
    | some y=>rfl
  . rw [if_neg e]
    by_cases hin:i<n
    . rw [if_pos hin] at ih
      rw [if_pos (by omega)]
      cases hl:L n with
      | false =>
       cases hu:upd n x with
       | none=>exact ih
       | some y=>exact ih
      | true =>
       cases hu:upd n x with
       | none=>exact ih
       | some y =>
        rw [h n hin (by omega) hl (by rw [hu]; rfl)]
    . rw [if_neg hin] at ih
      rw [if_neg (by omega)]
      cases hl:L n with
      | false =>
       cases hu:upd n x with
       | none=>exact ih
       | some y=>exact ih
      | true =>
       cases hu:upd n x with
       | none=>exact ih
       | some y=>rfl
end
def uN(R:Nat->Rec)(k t:Nat):Option AV:=if(R k).o.dst=some t then some (R k).v else none
def lI(R:Nat->Rec)(k b:Nat):Option (Option AB):=if((R k).n0<=b/\b<(R k).n1)\/b∈(R k).l then some ((R k).g.at b) else none
theorem BH{R:Nat->Rec}{k t:Nat}(h:(uN R k t).isSome=true):(R k).o.dst=some t:=by
 unfold uN at h; split at h
 . assumption
 . cases h
theorem GZ{R:Nat->Rec}{k b:Nat}(h:(lI R k b).isSome=true):((R k).n0<=b/\b<(R k).n1)\/b∈(R k).l:=by
 unfold lI at h; split at h
 . assumption
 . cases h
theorem UJ{t:Nat}:∀ {l:List Operand},Operand.tmp t∈l->(wW l).testBit t=true
 | x::l,h=>by
  rcases List.mem_cons.1 h with rfl | h
  . simp only [wW,lor_eq,pow_eq,Nat.testBit_or,I9]; simp
  . have ih:=UJ h
    cases x<;>simp only [wW,lor_eq,pow_eq,Nat.testBit_or,ih]<;>simp
theorem iw{x y:Rec}(hx:x.n0<=x.n1)(h:conflict x y=false) :
 (∀ t,x.D.testBit t=true->y.L.testBit t=false/\y.D.testBit t=false)/\(∀ t,y.D.testBit t=true->x.L.testBit t=false) /\
 (∀ b,(x.W.testBit b=true\/(x.n0<=b/\b<x.n1))->y.T.testBit b=false)/\(∀ b,y.W.testBit b=true->x.T.testBit b=false)/\(kH x.ev=true\/kH y.ev=true):=by
 unfold conflict at h;simp only [Bool.not_eq_false',Bool.and_eq_true] at h;obtain⟨⟨⟨⟨h1,h2⟩,h3⟩,h4⟩,h5⟩:=h;refine⟨fun t ht=>?_,fun t ht=>Es h2 ht,fun b hb=>Es h3 ?_,fun b hb=>Es h4 hb,?_⟩
 . have:=Es h1 ht
   rw [lor_eq,Nat.testBit_or] at this
   simpa using this
 . have e:news x.n0 x.n1=2 ^ x.n1 - 2 ^ x.n0:=rfl
   rw [lor_eq,Nat.testBit_or,e,Uy hx];rcases hb with hb | hb
   . simp [hb]
   . simp [hb]
 . simpa using h5
structure Told (cx:Cx) (M:f_ cx.P) (ρv:Nat->Value) (call:jU) (ops:Array Oper) (R:Nat->Rec) (T:Nat->Tm) (H:Nat->G) (st:Nat->M.σ):Prop where
 step:∀ i o,ops[i]?=some o->(R i).o=o/\Nc cx call ops (T i) (H i) (R i) (T (i+1)) (H (i+1))
 fine:∀ i j o,i<j->ops[j]?=some o->conflict (R i) (R j)=true->∀ L:Nat->Prop,qF ops L->(∀ e∈o.after,Region.binds .any e=true->L e.on)->L i
 back:∀(i:Nat) (o:Oper),ops[i]?=some o->∀ e∈o.after,Region.binds .any e=true->e.on<i
 run:∀ i,i<ops.size->gX M ρv (R i).ev (st i) (st (i+1))
 low:kJ (T 0) (H 0).n
section
variable {cx:Cx} {M:f_ cx.P} {ρv:Nat->Value} {call:jU} {ops:Array Oper} {R:Nat->Rec} {T:Nat->Tm} {H:Nat->G} {st:Nat->M.σ}
theorem Told.at_(h:Told cx M ρv call ops R T H st){i:Nat}(hi:i<ops.size):Nc cx call ops (T i) (H i) (R i) (T (i+1)) (H (i+1))/\ops[i]?=some (R i).o:=by
 have ho:ops[i]?=some ops[i]:=Array.getElem?_eq_getElem hi;obtain⟨h1,h2⟩:=h.step i _ ho;exact⟨h2,by rw [h1]; exact ho⟩
theorem Told.mono(h:Told cx M ρv call ops R T H st){i:Nat}:∀ {d:Nat},i+d<=ops.size->(H i).n<=(H (i+d)).n
 | 0,_=>Nat.le_refl _
 | d+1,hd=>by
  have ih:=h.mono (i:=i) (d:=d) (by omega);obtain⟨hs,_⟩:=h.at_ (i:=i+d) (by omega);have h1:=hs.n0;have h2:=hs.n1;have h3:=hs.le;show(H i).n<=(H (i+d+1)).n;omega
theorem Told.le (h:Told cx M ρv call ops R T H st) {i j:Nat} (hij:i<=j) (hj:j<=ops.size):(H i).n<=(H j).n:=by
 obtain⟨d,rfl⟩:∃ d,j=i+d:=⟨j - i,by omega⟩
 exact h.mono hj
theorem Told.tat(h:Told cx M ρv call ops R T H st):∀ {i:Nat},i<=ops.size->∀ t,(T i).at t=cZ (uN R) (T 0).at (fun _=>true) i t
 | 0,_,t=>rfl
 | i+1,hi,t=>by
  obtain⟨hs,_⟩:=h.at_ (i:=i) (by omega);rw [hs.at_,cZ];unfold uN;split
  . rfl
  . exact h.tat (by omega) t
theorem Told.hat(h:Told cx M ρv call ops R T H st):∀ {i:Nat},i<=ops.size->∀ b,(H i).at b=cZ (lI R) (H 0).at (fun _=>true) i b
 | 0,_,b=>rfl
 | i+1,hi,b=>by
  obtain⟨hs,_⟩:=h.at_ (i:=i) (by omega);rw [hs.heap,cZ];unfold lI joined;by_cases h1:(R i).n0<=b/\b<(R i).n1
  . rw [if_pos h1,if_pos (.inl h1)]
  . rw [if_neg h1]
    by_cases h2:b∈(R i).l
    . rw [if_pos h2,if_pos (.inr h2)]
    . rw [if_neg h2,if_neg (by rintro (h | h); exact h1 h; exact h2 h)]
      exact h.hat (by omega) b
theorem Told.tn(h:Told cx M ρv call ops R T H st):∀ {i:Nat},i<=ops.size->(T i).n=(T 0).n
 | 0,_=>rfl
 | i+1,hi=>by
  obtain⟨hs,_⟩:=h.at_ (i:=i) (by omega);rw [hs.tn]; exact h.tn (by omega)
theorem Told.aoB(h:Told cx M ρv call ops R T H st){i:Nat}(hi:i<ops.size):(R i).v.lt (R i).n1=true:=by
 obtain⟨hs,_⟩:=h.at_ hi;unfold AV.lt;rw [aI,pow_eq];refine dP fun k hk=>?_;rcases hs.v k hk with h1 | h1
 . have:=fQ hs.T h1
   have:=hs.le;omega
 . exact h1.2
theorem Told.aoC (h:Told cx M ρv call ops R T H st):∀ {i:Nat},i<=ops.size->kJ (T i) (H i).n
 | 0,_=>h.low
 | i+1,hi=>by
  intro t;obtain⟨hs,_⟩:=h.at_ (i:=i) (by omega);rw [hs.at_];split
  . rw [hs.n1]; exact h.aoB (by omega)
  . exact AV.Ja (h.aoC (by omega) t) (h.le (by omega) hi)
theorem Told.stat(h:Told cx M ρv call ops R T H st){i:Nat}:∀ {d:Nat},i+d<=ops.size->(∀ j,i<=j->j<i+d->kH (R j).ev=true)->st i=st (i+d)
 | 0,_,_=>rfl
 | d+1,hd,hev=>by
  have ih:=h.stat (i:=i) (d:=d) (by omega) (fun j h1 h2=>hev j h1 (by omega));exact ih.trans (BD (hev (i+d) (by omega) (by omega)) (h.run (i+d) (by omega))).1
theorem Told.akP(h:Told cx M ρv call ops R T H st){i k:Nat}(hi:i<=ops.size)(hk:k<=ops.size)(he:∀ j,j<ops.size->kH (R j).ev=false->(j<k↔j<i)):st k=st i:=by
 have none:∀ j,j<ops.size->¬ (j<k↔j<i)->kH (R j).ev=true:=fun j hj hn=>by
  cases hev:kH (R j).ev with
  | true=>rfl
  | false=>exact absurd (he j hj hev) hn
 rcases Nat.le_total i k with hik | hik
 . obtain⟨d,rfl⟩:∃ d,k=i+d:=⟨k - i,by omega⟩
   exact(h.stat hk (fun j h1 h2=>none j (by omega) (by omega))).symm
 . obtain⟨d,rfl⟩:∃ d,i=k+d:=⟨i - k,by omega⟩
   exact h.stat hi (fun j h1 h2=>none j (by omega) (by omega))
def Al(ops:Array Oper)(R:Nat->Rec)(H:Nat->G)(L:Nat->Bool)(q:Nat):Prop:=q<(H 0).n\/∃ j,j<ops.size/\L j=true/\(R j).n0<=q/\q<(R j).n1
theorem Al.more{L L':Nat->Bool}{q:Nat}(h:Al ops R H L q)(hL:∀ j,L j=true->L' j=true):Al ops R H L' q:=h.imp id fun⟨j,h1,h2,h3⟩=>⟨j,h1,hL j h2,h3⟩
theorem Told.UK(h:Told cx M ρv call ops R T H st){L:Nat->Bool}{q i:Nat}(hq:Al ops R H L q)(hi:i<ops.size)(hL:L i=false):¬ ((R i).n0<=q/\q<(R i).n1):=by
 rintro ⟨h1,h2⟩;obtain⟨hs,_⟩:=h.at_ hi;have n0:=hs.n0;have n1:=hs.n1;rcases hq with hq | ⟨j,hj,hl,h3,h4⟩
 . have:=h.le (Nat.zero_le i) (by omega); omega
 . obtain⟨hs',_⟩:=h.at_ hj
   have n0':=hs'.n0;have n1':=hs'.n1;rcases Nat.lt_trichotomy i j with hij | hij | hij
   . have:=h.le (i:=i+1) (j:=j) (by omega) (by omega); omega
   . subst hij; rw [hL] at hl; cases hl
   . have:=h.le (i:=j+1) (j:=i) (by omega) (by omega); omega
theorem Told.aa7(h:Told cx M ρv call ops R T H st){L:Nat->Bool}{q:Nat}:∀ {i:Nat},i<ops.size+1->q<(H i).n->(∀ j,j<i->((R j).n0<=q/\q<(R j).n1)->L j=true)->Al ops R H L q
 | 0,_,hq,_=>.inl hq
 | i+1,hi,hq,hl=>by
  obtain⟨hs,_⟩:=h.at_ (i:=i) (by omega);by_cases h1:q<(H i).n
  . exact h.aa7 (i:=i) (by omega) h1 (fun j hj=>hl j (by omega))
  . have e1:=hs.n0
    have e2:=hs.n1;have hin:(R i).n0<=q/\q<(R i).n1:=by omega
    exact .inr ⟨i,by omega,hl i (by omega) hin,hin⟩
structure Inv (cx:Cx) (M:f_ cx.P) (ops:Array Oper) (R:Nat->Rec) (T:Nat->Tm) (H:Nat->G) (st:Nat->M.σ) (E0:Env) (w0:World) (L:Nat->Bool) (a:Act) (w:World) (E:Env) (k:Nat):Prop where
 size:a.tmps.size=(T 0).n
 val:∀ t,a.tmps.getD t undef=(cZ (uN R) (T 0).at L ops.size t).aA E
 defers:a.defers=[]
 went:jk M E0 (H 0).at (H 0).n (st 0) w0 E (cZ (lI R) (H 0).at L ops.size) (H ops.size).n (st k) w
 top:k<=ops.size
 ev:∀ j,j<ops.size->kH (R j).ev=false->(L j=true↔j<k)
 alT:∀ t q,(cZ (uN R) (T 0).at L ops.size t).kL.testBit q=true->Al ops R H L q
 alH:∀ b B,cZ (lI R) (H 0).at L ops.size b=some B->Al ops R H L b/\∀ q,(dM B.cs).testBit q=true->Al ops R H L q
end
end Xi
namespace Xi
open Go Go.RowKit
section
variable {cx:Cx} {M:f_ cx.P} {ρv:Nat->Value} {call:jU} {ops:Array Oper} {R:Nat->Rec} {T:Nat->Tm} {H:Nat->G} {st:Nat->M.σ} {E0:Env} {w0:World}
theorem Told.more(h:Told cx M ρv call ops R T H st)(hmt:vZ cx)(hcall:zY cx M ρv call)(hone:∀ i,(ρv i).oneCell'=true)(hρ0:E0.ρ=ρv){L L':Nat->Bool}{a:Act}{w:World}{E:Env}{k:Nat}
 (I:Inv cx M ops R T H st E0 w0 L a w E k) {i:Nat} {o:Oper} (ho:ops[i]?=some o) (hLi:L i=false) (hL':∀ j,L' j=if j=i then true else L j)
 (hdown:qF ops (fun j=>L j=true)) (UL:∀ e∈o.after,Region.binds .any e=true->L e.on=true)
 (K:Act->World->Prop) (Q:Exit->Act->World->Prop) (hK:∀ a' w' E' k',Inv cx M ops R T H st E0 w0 L' a' w' E' k'->K a' w'):wpOp cx.P ops Q i K a w:=by
 have hi:i<ops.size:=(Array.getElem?_eq_some_iff.1 ho).1;obtain⟨hro,hs⟩:=h.step i o ho;have xE:∀ j,L j=true->L' j=true:=fun j hj=>by rw [hL']; split<;>simp_all
 have aoE:L' i=true:=by rw [hL',if_pos rfl]
 have al7:∀ j,j<i->conflict (R j) (R i)=true->L j=true:=fun j hji hc=>h.fine j i o hji ho hc _ hdown UL
 have al8:∀ j,i<j->j<ops.size->conflict (R i) (R j)=true->L j=false:=fun j hij hj hc=>by
  cases hl:L j with
  | false=>rfl
  | true =>
   have hoj:ops[j]?=some ops[j]:=Array.getElem?_eq_getElem hj;have:=h.fine i j _ hij hoj hc _ hdown (fun e he hb=>hdown j _ hoj hl e he hb);rw [hLi] at this; cases this
 have hle:∀ {j:Nat},j<ops.size->(R j).n0<=(R j).n1:=fun {j} hj=>(h.at_ hj).1.le
 have free:∀ j,j<i->L j=false->conflict (R j) (R i)=false:=fun j hji hl=>by
  cases hc:conflict (R j) (R i) with
  | false=>rfl
  | true=>rw [al7 j hji hc] at hl; cases hl
 have free':∀ j,i<j->j<ops.size->L j=true->conflict (R i) (R j)=false:=fun j hij hj hl=>by
  cases hc:conflict (R i) (R j) with
  | false=>rfl
  | true=>rw [al8 j hij hj hc] at hl; cases hl
 have hD:∀ {j t:Nat},j<ops.size->(R j).o.dst=some t->(R j).D.testBit t=true:=fun {j t} hj hd=>by
  rw [(h.at_ hj).1.D]; unfold KW; rw [hd]; show(2 ^ t).testBit t=true; rw [I9]; simp
 have slot:∀ t,(R i).L.testBit t=true->cZ (uN R) (T 0).at L ops.size t=(T i).at t:=fun t ht=>by
  rw [h.tat (Nat.le_of_lt hi)];refine UH (Nat.le_of_lt hi) (fun j hji hu=>?_) (fun j hij hj hu=>?_)
  . have hd:=BH hu
    cases hl:L j with
    | true=>rfl
    | false =>
     have:=((iw (hle (by omega)) (free j hji hl)).1 t (hD (by omega) hd)).1;rw [ht] at this; cases this
  . have hd:=BH hu
    rcases Nat.lt_or_ge i j with hlt | hge
    . cases hl:L j with
      | false=>rfl
      | true =>
       have:=(iw (hle hi) (free' j hlt hj hl)).2.1 t (hD hj hd);rw [ht] at this; cases this
    . have:j=i:=by omega
      subst this; exact hLi
 have block:∀ b,(R i).T.testBit b=true->cZ (lI R) (H 0).at L ops.size b=(H i).at b:=fun b hb=>by
  rw [h.hat (Nat.le_of_lt hi)];have hbn:b<(R i).n0:=fQ hs.T hb;refine UH (Nat.le_of_lt hi) (fun j hji hu=>?_) (fun j hij hj hu=>?_)
  . cases hl:L j with
    | true=>rfl
    | false =>
     have hspec:=(iw (hle (j:=j) (by omega)) (free j hji hl)).2.2.1 b;rcases GZ hu with h1 | h1
     . rw [hspec (.inr h1)] at hb; cases hb
     . rw [hspec (.inl ((h.at_ (by omega)).1.l b h1).2)] at hb; cases hb
  . rcases Nat.lt_or_ge i j with hlt | hge
    . cases hl:L j with
      | false=>rfl
      | true =>
       have hspec:=(iw (hle hi) (free' j hlt hj hl)).2.2.2.1 b;rcases GZ hu with h1 | h1
       . have e1:=(h.at_ hj).1.n0
         have e2:=h.le (i:=i) (j:=j) (by omega) (by omega);have e3:=hs.n0;omega
       . rw [hspec ((h.at_ hj).1.l b h1).2] at hb; cases hb
    . have:j=i:=by omega
      subst this; exact hLi
 have Tv:∀ t,cZ (uN R) (T 0).at L' ops.size t=if o.dst=some t then(R i).v else cZ (uN R) (T 0).at L ops.size t:=fun t=>by
  rw [ED hLi hL' (n:=ops.size),if_pos hi]
  . unfold uN
    rw [hro];by_cases hd:o.dst=some t
    . rw [if_pos hd,if_pos hd]
    . rw [if_neg hd,if_neg hd]
  . intro j hij hj hl hu
    have hd:=BH hu;unfold uN;split
    . rename_i hdi
      have:=((iw (hle hi) (free' j hij hj hl)).1 t (hD hi hdi)).2;rw [hD hj hd] at this; cases this
    . rfl
 have aa8:∀ b,cZ (lI R) (H 0).at L' ops.size b=joined (cZ (lI R) (H 0).at L ops.size) (R i).g.at (R i).n0 (R i).n1 (R i).l b:=fun b=>by
  rw [ED hLi hL' (n:=ops.size),if_pos hi]
  . unfold lI joined
    by_cases h1:(R i).n0<=b/\b<(R i).n1
    . rw [if_pos h1,if_pos (.inl h1)]
    . rw [if_neg h1]
      by_cases h2:b∈(R i).l
      . rw [if_pos h2,if_pos (.inr h2)]
      . rw [if_neg h2,if_neg (by rintro (h | h); exact h1 h; exact h2 h)]
  . intro j hij hj hl hu
    have hsp:=iw (hle hi) (free' j hij hj hl);have hs':=(h.at_ hj).1;unfold lI;split
    . rename_i hk
      exfalso;rcases GZ hu with h1 | h1
      . have e1:=hs'.n0
        have e2:=h.le (i:=i+1) (j:=j) (by omega) (by omega);have e3:=hs.n1;have e4:=hs.n0;rcases hk with hk | hk
        . omega
        . have:=fQ hs.T (hs.l b hk).1
          have:=hs.le;omega
      . have hT:=(hs'.l b h1).1
        rcases hk with hk | hk
        . rw [hsp.2.2.1 b (.inr hk)] at hT; cases hT
        . rw [hsp.2.2.1 b (.inl (hs.l b hk).2)] at hT; cases hT
    . rfl
 have atv:Region.wanted o (yielded ops a.tmps)=(R i).want:=by
  have hw:=hs.want;rw [hro] at hw;refine M_ (E:=E) (tm:=T i) hw (fun j want oj d hg hj hd=>?_) (by rw [I.size,h.tn (Nat.le_of_lt hi)]);rw [I.val,slot d]
  have hbit:(uI ops o).testBit d=true:=by
   unfold uI; rw [hg]; simp only [hj,hd]; show(2 ^ d).testBit d=true; rw [I9]; simp
  rcases hs.L with h1 | ⟨_,h1⟩
  . rw [h1,hro,lor_eq,Nat.testBit_or,hbit]; simp
  . rw [h1,hro]; exact hbit
 unfold wpOp;rw [ho];simp only [atv]
 cases hwant:(R i).want with
 | false =>
  rw [if_neg (by simp)];obtain⟨e1,e2,e3,e4⟩:=hs.off hwant;refine hK _ _ E k ⟨by rw [size_put]; exact I.size,fun t=>?_,by rw [Ez]; exact I.defers,?_,I.top,fun j hj hev=>?_,fun t q hq=>?_,fun b B hb=>?_⟩
  . rw [Tv]
    by_cases hd:o.dst=some t
    . rw [if_pos hd,e2,hd,yC]
      . rfl
      . rw [I.size,<- h.tn (Nat.le_of_lt hi)]
        exact hs.dst t (by rw [hro]; exact hd)
    . rw [if_neg hd,Lc hd]; exact I.val t
  . have e : cZ (lI R) (H 0).at L' ops.size=cZ (lI R) (H 0).at L ops.size := funext fun b=>by
     rw [aa8]; unfold joined; rw [e4,if_neg (by omega)]; simp
    rw [e]; exact I.went
  . rw [hL']
    split
    . rename_i hji; subst hji; rw [e1] at hev; cases hev
    . exact I.ev j hj hev
  . rw [Tv] at hq
    split at hq
    . rw [e2] at hq; simp [AV.kL] at hq
    . exact(I.alT t q hq).more xE
  . have e : cZ (lI R) (H 0).at L' ops.size b=cZ (lI R) (H 0).at L ops.size b := by
     rw [aa8]; unfold joined; rw [e4,if_neg (by omega)]; simp
    rw [e] at hb;obtain⟨h1,h2⟩:=I.alH b B hb;exact⟨h1.more xE,fun q hq=>(h2 q hq).more xE⟩
 | true =>
  rw [if_pos rfl];left;obtain⟨gm,hp,hgn,hgm,hrn,hop⟩:=hs.op hwant;rw [hro] at hop;have hρ:E.ρ=ρv:=I.went.rho.trans hρ0
  have aoF:∀ t,Operand.tmp t∈o.op.operands->(R i).L.testBit t=true:=fun t ht=>by
   rcases hs.L with h1 | ⟨h1,_⟩
   . rw [h1,hro,lor_eq,Nat.testBit_or,UJ (by simpa using ht)]; simp
   . rw [hwant] at h1; cases h1
  have hev:∀ x∈o.op.operands,∀ u,dD (T i) x=some u->a.eval x=u.aA E:=fun x hx u hu=>by
   unfold dD at hu;split at hu
   . rename_i t
     injection hu with hu;subst hu;show a.tmps.getD t undef=_;rw [I.val,slot t (aoF t hx)]
   . injection hu with hu; subst hu
     show Value.agg _=Value.agg _;rw [yR]
   . injection hu with hu; subst hu; rfl
   . injection hu with hu; subst hu; rfl
   . cases hu
  have atw:kJ (T i) gm.n:=by rw [hgn]; exact h.aoC (Nat.le_of_lt hi)
  have hpart:Part gm.at (cZ (lI R) (H 0).at L ops.size):=fun b B hb=>by
   obtain⟨B0,h0,h1⟩:=hp b B hb;exact⟨B0,by rw [block b (hgm b B hb).1]; exact h0,h1⟩
  have aoG:gm.n=(R i).n0:=by rw [hgn,hs.n0]
  have rm:Rep M E (st k) gm.at gm.n w:=I.went.rep.part hpart (fun b B hb q hq=>by
   rw [aoG]; exact fQ hs.T ((hgm b B hb).2.2 q hq)) (fun b B hb=>dQ hb)
  obtain ⟨s2,k',hrun,hs2,hk',hevs⟩:∃ s2 k',gX M ρv (R i).ev (st k) s2/\s2 = st k'/\k'<=ops.size/\∀ j,j < ops.size->kH (R j).ev = false->(L' j = true↔j < k'):=by
   cases hevi:kH (R i).ev with
   | true =>
    refine⟨st k,k,(BD hevi (h.run i hi)).2 _,rfl,I.top,fun j hj hne=>?_⟩;rw [hL'];split
    . rename_i hji; subst hji; rw [hevi] at hne; cases hne
    . exact I.ev j hj hne
   | false =>
    have hord:∀ j,j<ops.size->kH (R j).ev=false->(L j=true↔j<i):=fun j hj hne=>by
     rcases Nat.lt_trichotomy j i with hji | hji | hji
     . refine⟨fun _=>hji,fun _=>?_⟩
       cases hl:L j with
       | true=>rfl
       | false =>
        rcases (iw (hle hj) (free j hji hl)).2.2.2.2 with h1 | h1
        . rw [h1] at hne; cases hne
        . rw [hevi] at h1; cases h1
     . subst hji; rw [hLi]; simp
     . refine⟨fun hl=>?_,fun hlt=>by omega⟩
       rcases (iw (hle hi) (free' j hji hj hl)).2.2.2.2 with h1 | h1
       . rw [hevi] at h1; cases h1
       . rw [h1] at hne; cases hne
    have hst:st k=st i:=h.akP (Nat.le_of_lt hi) I.top fun j hj hne=>by rw [<- I.ev j hj hne]; exact hord j hj hne
    refine⟨st (i+1),i+1,by rw [hst]; exact h.run i hi,rfl,hi,fun j hj hne=>?_⟩;rw [hL'];split
    . rename_i hji; subst hji; simp
    . rename_i hji; rw [hord j hj hne]; omega
  subst hs2;refine aea hmt hcall hone hop hρ hev atw.low rm hrun fun E1 w1 hw=>hK _ _ (patch E E1 (R i).n0 (R i).n1) k' ?_;rw [aoG,hrn] at hw
  have ahD:∀ b,(R i).n0<=b->b<(R i).n1->cZ (lI R) (H 0).at L ops.size b=none:=fun b h1 h2=>by
   cases hb:cZ (lI R) (H 0).at L ops.size b with
   | none=>rfl
   | some B=>exact absurd ⟨h1,h2⟩ (h.UK (I.alH b B hb).1 hi hLi)
  have hlm:∀ b∈(R i).l,b<(R i).n0:=fun b hb=>fQ hs.T (hs.l b hb).1
  obtain ⟨hrep,hfr⟩:=I.went.rep.joined (N':=(H ops.size).n) (lw:=(R i).l) hpart (fun b B hb hro => (hgm b B hb).2.1 hro) hlm hw ahD (fun b B hb _ q hq => h.UK ((I.alH b B hb).2 q hq) hi hLi) (Nat.le_refl _)
   (by rw [<- hs.n1]; exact h.le (by omega) (Nat.le_refl _))
  have eH:cZ (lI R) (H 0).at L' ops.size=joined (cZ (lI R) (H 0).at L ops.size) (R i).g.at (R i).n0 (R i).n1 (R i).l:=funext aa8;have hn0:(H 0).n<=(R i).n0:=by rw [hs.n0]; exact h.le (Nat.zero_le _) (Nat.le_of_lt hi)
  have ahP:∀ q,¬ ((R i).n0<=q/\q<(R i).n1)->(patch E E1 (R i).n0 (R i).n1).γ q=E.γ q/\(patch E E1 (R i).n0 (R i).n1).κ q=E.κ q:=fun q hq=>by unfold patch; simp [hq]
  have whence:∀ c C,gm.at c=some C->C.ro=false->w0.heap.size<=E.γ c\/∃ d D,(H 0).at d=some D/\D.ro=false/\E0.γ d=E.γ c:=fun c C hc hcr=>by
   obtain⟨C0,h0,_,_,_,hr0⟩:=hpart c C hc;by_cases hcn:c<(H 0).n
   . obtain⟨D,hD1,hDr⟩:=I.went.sub c C0 h0 hcn
     exact .inr ⟨c,D,hD1,hDr (hr0 hcr),((I.went.ext c hcn).1).symm⟩
   . exact I.went.new c C0 h0 (by omega)
  refine⟨by rw [size_put]; exact I.size,fun t=>?_,by rw [Ez]; exact I.defers,⟨fun b hb=>?_,I.went.rho,by rw [eH]; exact hrep,I.went.fr.trans hfr ?_,fun d hd=>?_,fun b B' hb hbn=>?_,fun b B' hb hbn=>?_,I.went.le⟩,hk',hevs,fun t q hq=>?_,fun b B hb=>?_⟩
  . rw [Tv]
    by_cases hd:o.dst=some t
    . rw [if_pos hd,hd,yC]
      . exact(Ey hw.ext hw.rho (h.aoB hi)).symm
      . rw [I.size,<- h.tn (Nat.le_of_lt hi)]
        exact hs.dst t (by rw [hro]; exact hd)
    . rw [if_neg hd,Lc hd,I.val]
      exact(rG (E:=E) (E':=patch E E1 (R i).n0 (R i).n1) rfl _ fun q hq=>ahP q (h.UK (I.alT t q hq) hi hLi)).symm
  . have h1:=ahP b (by omega)
    have h2:=I.went.ext b hb;exact⟨h1.1.trans h2.1,h1.2.trans h2.2⟩
  . rintro q hq (h1 | ⟨c,C,hc,hcr,rfl⟩)
    . rcases I.went.grow q h1 with h2 | h2
      . exact .inl h2
      . omega
    . rcases whence c C hc hcr with h2 | ⟨d,D,h2,h3,h4⟩
      . omega
      . exact .inr ⟨d,D,h2,h3,h4⟩
  . rcases hw.grow d hd with h1 | h1
    . exact I.went.grow d h1
    . have:=I.went.fr.size; right; omega
  . rw [eH] at hb
    unfold joined at hb;rw [if_neg (by omega)] at hb;split at hb
    . rename_i hbl
      obtain⟨B1,h1,hr1⟩:=hw.sub b B' hb (hlm b hbl);obtain⟨B0,h0,_,_,_,hr0⟩:=hpart b B1 h1;obtain⟨B2,h2,hr2⟩:=I.went.sub b B0 h0 hbn;exact⟨B2,h2,fun hr=>hr2 (hr0 (hr1 hr))⟩
    . exact I.went.sub b B' hb hbn
  . rw [eH] at hb
    unfold joined at hb;split at hb
    . rename_i hbi
      have eγ:(patch E E1 (R i).n0 (R i).n1).γ b=E1.γ b:=by unfold patch; simp [hbi]
      rw [eγ];rcases hw.new b B' hb hbi.1 with h1 | ⟨c,C,hc,hcr,hce⟩
      . have:=I.went.fr.size; left; omega
      . rw [<- hce]; exact whence c C hc hcr
    . rename_i hbi
      rw [(ahP b hbi).1];split at hb
      . rename_i hbl
        obtain⟨B1,h1,hr1⟩:=hw.sub b B' hb (hlm b hbl);obtain⟨B0,h0,_,_,_,hr0⟩:=hpart b B1 h1;exact I.went.new b B0 h0 hbn
      . exact I.went.new b B' hb hbn
  . rw [Tv] at hq
    split at hq
    . rcases hs.v q hq with h1 | h1
      . -- what it looks at is there
        have hqn:q<(H i).n:=by rw [<- hs.n0]; exact fQ hs.T h1
        exact (h.aa7 (i:=i) (by omega) hqn (fun j hji hin => by
         cases hl:L j with
         | true=>rfl
         | false =>
          have:=(iw (hle (j:=j) (by omega)) (free j hji hl)).2.2.1 q (.inr hin)
          rw [h1] at this; cases this)).more xE
      . exact .inr ⟨i,hi,aoE,h1.1,h1.2⟩
    . exact(I.alT t q hq).more xE
  . have alq : ∀ q, (R i).T.testBit q=true \/ ((R i).n0<=q /\ q<(R i).n1) -> Al ops R H L' q := fun q hq=>by
     rcases hq with h1 | h1
     . have hqn:q<(H i).n:=by rw [<- hs.n0]; exact fQ hs.T h1
       exact (h.aa7 (i:=i) (by omega) hqn (fun j hji hin => by
        cases hl:L j with
        | true=>rfl
        | false =>
         have:=(iw (hle (j:=j) (by omega)) (free j hji hl)).2.2.1 q (.inr hin)
         rw [h1] at this; cases this)).more xE
     . exact .inr ⟨i,hi,aoE,h1.1,h1.2⟩
    rw [eH] at hb;unfold joined at hb;split at hb
    . rename_i hbi
      exact⟨alq b (.inr hbi),fun q hq=>alq q (hs.cells b B hb (.inl hbi) q hq)⟩
    . split at hb
      . rename_i hbl
        exact⟨alq b (.inl (hs.l b hbl).1),fun q hq=>alq q (hs.cells b B hb (.inr hbl) q hq)⟩
      . obtain⟨h1,h2⟩:=I.alH b B hb
        exact⟨h1.more xE,fun q hq=>(h2 q hq).more xE⟩
end
end Xi
namespace Xi
open Go Go.RowKit
theorem Jb{L:Array Bool}{i:Nat}(h:i<L.size):L.getD i true=L.getD i false:=by
 simp [Array.getD_eq_getD_getElem?,Array.getElem?_eq_getElem h]
theorem G5(L:Array Bool)(i k:Nat)(hi:i<L.size):(L.setIfInBounds i true).getD k false=if k=i then true else L.getD k false:=by
 by_cases h:k=i
 . subst h; simp [hi]
 . rw [if_neg h]; simp [Array.getElem?_setIfInBounds_ne (Ne.symm h)]
def unl(n:Nat)(L:Array Bool):Nat:=((List.range n).filter fun i=>!L.getD i true).length
theorem filter_lt{p q:Nat->Bool}:∀(l:List Nat),(∀ x,q x=true->p x=true)->(∃ x∈l,p x=true/\q x=false)->(l.filter q).length<(l.filter p).length:=by
 intro l h
 induction l with
 | nil=>rintro ⟨x,hx,_⟩; cases hx
 | cons y l ih =>
  have hle:(l.filter q).length<=(l.filter p).length:=by
   clear ih
   induction l with
   | nil=>simp
   | cons z l ih =>
    simp only [List.filter_cons]
    cases hq:q z with
    | true=>simp [h z hq]; exact ih
    | false=>cases p z<;>simp<;>omega
  rintro ⟨x,hx,hp,hq⟩;simp only [List.filter_cons];rcases List.mem_cons.1 hx with rfl | hx
  . simp [hp,hq]; omega
  . have:=ih ⟨x,hx,hp,hq⟩
    cases hqy:q y with
    | true=>simp [h y hqy]; exact this
    | false=>cases p y<;>simp<;>omega
theorem Zr{n:Nat}{L:Array Bool}{i:Nat}(hn:L.size=n)(hi:i<n)(h:L.getD i true=false):unl n (L.setIfInBounds i true)<unl n L:=by
 refine filter_lt _ (fun x hx=>?_) ⟨i,List.mem_range.2 hi,by simp [h],by simp [hn,hi]⟩;by_cases hxi:x=i
 . subst hxi; simp [hn,hi] at hx
 . simpa [Array.getElem?_setIfInBounds_ne (Ne.symm hxi)] using hx
theorem Zt {P:Program} {ops:Array Oper} {Q:Exit->Act->World->Prop} (J:(Nat->Bool)->Act->World->Prop)
 (hback:∀(i:Nat) (o:Oper),ops[i]?=some o->∀ e∈o.after,Region.binds .any e=true->e.on<i)
 (hstep:∀(L:Array Bool) a w i o (K:Act->World->Prop),L.size=ops.size->qF ops (fun j=>L.getD j false=true)->J (fun j=>L.getD j false) a w->ops[i]?=some o->L.getD i false=false->(∀ e∈o.after,Region.binds .any e=true->L.getD e.on false=true) ->
   (∀ a' w',J (fun j=>(L.setIfInBounds i true).getD j false) a' w'->K a' w')->wpOp P ops Q i K a w)
 (hend:∀(L:Array Bool) a w,L.size=ops.size->(∀ j,j<ops.size->L.getD j false=true)->J (fun j=>L.getD j false) a w->Q .normal a w) :
 ∀(fuel:Nat) (L:Array Bool) (a:Act) (w:World),L.size=ops.size->unl ops.size L<=fuel->qF ops (fun j=>L.getD j false=true)->J (fun j=>L.getD j false) a w->wpAny P .any ops Q fuel L a w:=by
 have UL:∀ L:Array Bool,L.size=ops.size->Region.ready .any ops L=[]->∀ j,j<ops.size->L.getD j false=true:=by
  intro L hL hr k
  induction k using Nat.strongRecOn with
  | _ k ih =>
   intro hk
   cases h:L.getD k false with
   | true=>rfl
   | false =>
    have ho:ops[k]?=some ops[k]:=Array.getElem?_eq_getElem hk
    have:k∈Region.ready .any ops L:=by
     rw [mem_ready];refine⟨by rw [Jb (by omega)]; exact h,_,ho,fun e he hb=>?_⟩;have hlt:=hback k _ ho e he hb;exact ih e.on hlt (by omega)
    rw [hr] at this;cases this
 intro fuel
 induction fuel with
 | zero =>
  intro L a w hL hu hcl hI
  have hfull:∀ j,j<ops.size->L.getD j false=true:=fun k hk=>by
   cases h:L.getD k false with
   | true=>rfl
   | false =>
    have:=Zr (i:=k) hL hk (by rw [Jb (by omega)]; exact h);omega
  refine⟨?_,hend L a w hL hfull hI⟩
  cases hr:Region.ready .any ops L with
  | nil=>rfl
  | cons i l =>
   have hi:i∈Region.ready .any ops L:=by rw [hr]; simp
   obtain⟨h1,o,ho,_⟩:=mem_ready.1 hi;have hin:i<ops.size:=(Array.getElem?_eq_some_iff.1 ho).1;rw [Jb (by omega),hfull i hin] at h1;cases h1
 | succ fuel ih =>
  intro L a w hL hu hcl hI;refine⟨fun hr=>hend L a w hL (UL L hL hr) hI,fun i hi=>?_⟩;obtain⟨h1,o,ho,hall⟩:=mem_ready.1 hi;have hin:i<ops.size:=(Array.getElem?_eq_some_iff.1 ho).1;have h1':L.getD i false=false:=by rw [<- Jb (by omega)]; exact h1
  refine hstep L a w i o _ hL hcl hI ho h1' hall fun a' w' hI'=>?_;have hlt:=Zr hL hin h1;refine ih _ a' w' (by simpa using hL) (by omega) ?_ hI';intro k ok hk hl e he hb;simp only [G5 L i _ (by omega)] at hl ⊢;split
  . rfl
  . by_cases hki:k=i
    . subst hki
      rw [ho] at hk;injection hk with hk;subst hk;exact hall e he hb
    . rw [if_neg hki] at hl
      exact hcl k ok hk hl e he hb
theorem Nj{P:Program}{M:f_ P}{ρ:Nat->Value}:∀ {rs:List Rec} {s s':M.σ},gX M ρ (rs.map (·.ev)).flatten s s'->∃ st:Nat->M.σ,st 0=s/\st rs.length=s'/\∀ i r,rs[i]?=some r->gX M ρ r.ev (st i) (st (i+1))
 | [],s,s',h=>⟨fun _=>s,rfl,h,fun i r h=>by simp at h⟩
 | r::rs,s,s',h=>by
  simp only [List.map_cons,List.flatten_cons] at h;obtain⟨s1,h1,h2⟩:=mM.1 h;obtain⟨st,e1,e2,h3⟩:=Nj h2;refine⟨fun n=>match n with | 0=>s | n+1=>st n,rfl,e2,fun i x hx=>?_⟩
  cases i with
  | zero=>simp at hx; subst hx; show gX M ρ r.ev s (st 0); rw [e1]; exact h1
  | succ i=>exact h3 i x (by simpa using hx)
section
variable {cx:Cx} {M:f_ cx.P} {ρv:Nat->Value} {call:jU}
theorem al9(fG:cx.P.follows .mixedOrders=true)(hmt:vZ cx)(hcall:zY cx M ρv call)(hone:∀ i,(ρv i).oneCell'=true){ops:Array Oper}{tm tm':Tm}{g g':G}{δ:List Ev}
 (h:Uw cx call ops tm g=some (tm',g',δ)) (hl:kJ tm g.n):kJ tm' g'.n/\∀(id:Nat) (Q:Exit->Act->World->Prop),akN cx M ρv tm g tm' g' δ fun K a w=>(Code.region id ops true).wp cx.P (Exit.then K Q) a w:=by
 unfold Uw at h
 cases hr:yQ cx call ops ops.toList tm g with
 | none=>rw [hr] at h; cases h
 | some q =>
  obtain⟨rs,tm1,g1⟩:=q;rw [hr] at h;simp only [] at h
  cases hc:(backward 0 ops.toList&&fine [] rs (ahead ops.toList [])) with
  | false=>rw [hc] at h; cases h
  | true =>
   rw [hc] at h;injection h with h; injection h with h1 h; injection h with h2 h3;subst h1 h2 h3;simp only [Bool.and_eq_true] at hc;obtain⟨hch,hmap⟩:=EC _ hr;obtain⟨T,H,t0,h0,tn,hn,hst⟩:=hch.awN;have hlen:rs.length=ops.size:=by rw [<- List.length_map (f:=fun r:Rec=>r.o),hmap]; simp
   have hget:∀(i:Nat) (o:Oper),ops[i]?=some o->∃ r,rs[i]?=some r/\r.o=o:=fun i o ho=>by
    have:(rs.map (·.o))[i]?=some o:=by rw [hmap]; simpa using ho
    rw [List.getElem?_map] at this
    cases hx:rs[i]? with
    | none=>rw [hx] at this; cases this
    | some r=>rw [hx] at this; injection this with this; exact⟨r,rfl,this⟩
   obtain⟨R,hR⟩:∃ R:Nat->Rec,∀ i r,rs[i]?=some r->R i=r:=⟨fun i=>match rs[i]? with | some r=>r | none=>⟨default,false,.lit undef,0,0,[],0,0,default,[],0,0⟩,fun i r h=>by simp only [h]⟩
   have told:∀ st:Nat->M.σ,(∀ i r,rs[i]?=some r->gX M ρv r.ev (st i) (st (i+1)))->Told cx M ρv call ops R T H st:=fun st hrun=>by
    refine⟨fun i o ho=>?_,fun i j o hij ho hcf L hL hd=>?_,fun i o ho e he hb=>?_,fun i hi=>?_,by rw [t0,h0]; exact hl⟩
    . obtain⟨r,hx,hro⟩:=hget i o ho
      rw [hR i r hx];exact⟨hro,hst i r hx⟩
    . obtain⟨y,hy,_⟩:=hget j o ho
      obtain⟨m,hm,hf⟩:=QL hc.2 j y hy;have hi:i<ops.size:=by have:=(Array.getElem?_eq_some_iff.1 ho).1; omega
      obtain⟨x,hx,_⟩:=hget i _ (Array.getElem?_eq_getElem hi);rcases hf i x (by simpa using hx) (by simpa using hij) with h1 | h1
      . exact ahO ops j m o hm ho L hL hd i h1
      . rw [hR i x hx,hR j y hy,h1] at hcf; cases hcf
    . have:=yD hc.1 i o (by simpa using ho) e he hb
      omega
    . obtain⟨r,hx,_⟩:=hget i _ (Array.getElem?_eq_getElem hi)
      rw [hR i r hx];exact hrun i r hx
   refine⟨?_,fun id Q E s s' w a K hρ ht r hs hK=>?_⟩
   . have hI:=told
     have key:∀ i,i<=ops.size->kJ (T i) (H i).n:=by
      intro i
      induction i with
      | zero=>intro _; rw [t0,h0]; exact hl
      | succ i ih =>
       intro hi;obtain⟨x,hx,hxo⟩:=hget i _ (Array.getElem?_eq_getElem (show i<ops.size by omega));have hs:=hst i x hx;intro t;rw [hs.at_];split
       . rw [hs.n1]
         unfold AV.lt;rw [aI,pow_eq];refine dP fun k hk=>?_;rcases hs.v k hk with h1 | h1
         . have:=fQ hs.T h1
           have:=hs.le;omega
         . exact h1.2
       . refine AV.Ja (ih (by omega) t) ?_
         have:=hs.n0;have:=hs.n1;have:=hs.le;omega
     have:=key ops.size (Nat.le_refl _);rwa [<- hlen,tn,hn] at this
   . obtain⟨st,e0,en,hrun⟩:=Nj hs
     have D:=told st hrun;rw [hlen] at tn hn en;refine wp_region_any fG ?_;refine Zt (fun L a2 w2=>∃ E' k,Inv cx M ops R T H st E w L a2 w2 E' k) D.back ?_ ?_ ops.size _ a _ (by simp) ?_ ?_ ?_
     . intro L a1 w1 i o K1 hsz hdn ⟨E1,k,I⟩ ho hLi hall hK1
       have hi:i<ops.size:=(Array.getElem?_eq_some_iff.1 ho).1;exact D.more hmt hcall hone hρ I ho hLi (fun j=>G5 L i j (by omega)) hdn hall K1 _ fun a' w' E' k' I'=>hK1 a' w' ⟨E',k',I'⟩
     . intro L a1 w1 hsz hfull ⟨E1,k,I⟩
       have eT:∀ t,cZ (uN R) (T 0).at (fun j=>L.getD j false) ops.size t=tm1.at t:=fun t=>by
        rw [GY (fun j hj _=>hfull j hj),<- D.tat (Nat.le_refl _),tn]
       have eH:cZ (lI R) (H 0).at (fun j=>L.getD j false) ops.size=g1.at:=funext fun b=>by
        rw [GY (fun j hj _=>hfull j hj),<- D.hat (Nat.le_refl _),hn]
       have hk:st k=s':=by
        rw [<- en];exact D.akP (Nat.le_refl _) I.top fun j hj hne=>by rw [<- I.ev j hj hne]; simp [hj,hfull j hj]
       have hw:=I.went;rw [eH,hn,hk,h0,e0] at hw;refine hK E1 a1 w1 ⟨?_,fun t=>?_,fun t htt=>?_,I.defers⟩ hw
       . rw [I.size,<- D.tn (Nat.le_refl _),tn]
       . rw [I.val,eT]
       . have htn:tm1.n=tm.n:=by rw [<- tn,D.tn (Nat.le_refl _),t0]
         rw [<- eT]
         have:cZ (uN R) (T 0).at (fun j=>L.getD j false) ops.size t=(T 0).at t:=by
          have:=yV (upd:=uN R) (f0:=(T 0).at) (L:=fun j=>L.getD j false) (m:=0) (x:=t) (d:=ops.size) (fun j _ hj hu=>by
           have hd:=BH hu;have hs:=(D.at_ (i:=j) (by omega)).1;have e3:t<(T j).n:=hs.dst t hd;have e2:=D.tn (i:=j) (by omega);rw [t0] at e2;have e4:tm1.n<=t:=htt;exfalso
           omega)
          rwa [Nat.zero_add] at this
         rw [this,t0];exact ht.top t (by omega)
     . unfold unl
       have:=List.length_filter_le (fun i=>!(Array.replicate ops.size false).getD i true) (List.range ops.size)
       simpa using this
     . intro k o hk hl
       simp only [Array.getD_eq_getD_getElem?,Array.getElem?_replicate] at hl;split at hl<;>cases hl
     . have hno : ∀ k, (Array.replicate ops.size false).getD k false=false := fun k=>by
        simp [Array.getD_eq_getD_getElem?,Array.getElem?_replicate]; split<;>rfl
       have eU:∀ {β:Type} (upd:Nat->Nat->Option β) (f0:Nat->β) (x:Nat),cZ upd f0 (fun j=>(Array.replicate ops.size false).getD j false) ops.size x=f0 x:=fun upd f0 x=>by
        have:=yV (upd:=upd) (f0:=f0) (L:=fun j=>(Array.replicate ops.size false).getD j false) (m:=0) (x:=x) (d:=ops.size) (fun j _ _ _=>hno j);rwa [Nat.zero_add] at this
       have hmono:g.n<=(H ops.size).n:=by rw [<- h0]; exact D.le (Nat.zero_le _) (Nat.le_refl _)
       have hfr:Fr w { w with drawn:=w.drawn+1 } (fun _=>False):=⟨rfl,rfl,rfl,Nat.le_refl _,fun _ _ _=>rfl⟩
       have hkp:=M.keep s w { w with drawn:=w.drawn+1 } _ r.sD hfr (fun k h=>h.elim);have eHf:cZ (lI R) (H 0).at (fun j=>(Array.replicate ops.size false).getD j false) ops.size=g.at:=funext fun b=>by rw [eU,h0]
       refine⟨E,0,by rw [ht.size,t0],fun t=>by rw [eU,t0]; exact ht.val t,ht.defers,?_,Nat.zero_le _,fun j _ _=>by rw [hno]; simp,fun t q hq=>?_,fun b B hb=>?_⟩
       . rw [eHf,h0,e0]
         refine⟨fun _ _=>⟨rfl,rfl⟩,rfl,⟨hkp.1,fun b B hb=>?_,r.inj,fun b B hb q hq=>Nat.lt_of_lt_of_le (r.ids b B hb q hq) hmono,fun b B hb=>Nat.lt_of_lt_of_le (r.top b B hb) hmono⟩,hfr.more (fun _ _ h=>h.elim),fun d hd=>.inl (hkp.2▸hd),fun b B hb _=>⟨B,hb,fun h=>h⟩,fun b B hb hbn=>absurd (r.top b B hb) (by omega),hmono⟩;obtain⟨q1,q2⟩:=r.blk b B hb;exact⟨q1.frame hfr (fun h=>h.elim),hkp.2▸q2⟩
       . rw [eU,t0] at hq
         exact .inl (by rw [h0]; exact AV.fQ (hl t) hq)
       . rw [eU,h0] at hb
         exact⟨.inl (by rw [h0]; exact r.top b B hb),fun q hq=>.inl (by rw [h0]; exact r.ids b B hb q hq)⟩
end
end Xi
namespace Xi
open Go Go.RowKit
def QE.aA:QE->Exit
 | .normal=>.normal
 | .exit id=>.exit id
 | .ret=>.ret
section
variable {P:Program} {M:f_ P} {E:Env} {s s':M.σ} {g:G} {w w':World}
theorem Rep.event {h:Nat->Option AB} {n:Nat} (r:Rep M E s h n w) (hI:M.I s' w') (hf:Fr w w' (·∈M.fp s w)) (hg:∀ d∈M.fp s' w',d∈M.fp s w\/w.heap.size<=d):jk M E h n s w E h n s' w':=by
 refine⟨fun _ _=>⟨rfl,rfl⟩,rfl,⟨hI,fun b B hb=>?_,r.inj,r.ids,r.top⟩,hf.more fun k _ hk=>.inl hk,hg,fun b B hb _=>⟨B,hb,fun h=>h⟩,fun b B hb hbn=>absurd (r.top b B hb) (by omega),Nat.le_refl _⟩;obtain⟨h1,h2⟩:=r.blk b B hb;refine⟨h1.frame hf h2,fun hm=>?_⟩;rcases hg _ hm with h3 | h3
 . exact h2 h3
 . have:=h1.lt; omega
theorem ahQ{v:AV}(h:v.lt 0=true)(k:Nat):v.kL.testBit k=false:=by
 cases hb:v.kL.testBit k with
 | false=>rfl
 | true=>have:=AV.fQ h hb; omega
theorem n_{v:AV}{E':Env}(h:v.lt 0=true)(hρ:E'.ρ=E.ρ):v.aA E'=v.aA E:=rG hρ v fun k hk=>by rw [ahQ h k] at hk; cases hk
theorem aa9{l:List AV}{E':Env}(h:iE 0 l=true)(hρ:E'.ρ=E.ρ):ay E' l=ay E l:=iq hρ l fun k hk=>by have:=kE h hk; omega
theorem aec(r:Rep M E s g.at g.n w){a:AV}{x:EA}(h:GI g a=some x):MR (M.fp s w) w (a.aA E) (x.aA (E0 E.ρ)):=by
 have slice:∀ {b off n c:Nat} {l:List AV},ld g b off n=some l->iE 0 l=true->n<=c->MR (M.fp s w) w (.slice (some ⟨E.γ b,off,none⟩) n c) (.l (ay (E0 E.ρ) l)):=fun {b off n c l} hl h0 hnc=>by
  obtain⟨q1,q2,q3⟩:=vX r hl;rw [aa9 (E:=E) (E':=E0 E.ρ) h0 rfl];refine⟨⟨some ⟨E.γ b,off,none⟩,c,by rw [aV,q1],by rw [aV,q1]; exact hnc,fun _=>⟨E.γ b,off,rfl,fun k hk=>?_⟩⟩,fun A n c hA=>by injection hA with hA; injection hA with hA; rw [<- hA]; exact q3⟩;rw [List.getElem?_eq_getElem hk];exact q2 k _ (List.getElem?_eq_getElem hk)
 unfold GI at h;split at h
 . rename_i b off n c
   cases hl:ld g b off n with
   | none=>rw [hl] at h; cases h
   | some l =>
    rw [hl] at h;simp only [] at h
    cases hc:(iE 0 l&&Nat.ble n c) with
    | false=>rw [hc] at h; cases h
    | true =>
     rw [hc] at h;injection h with h;subst h;simp only [Bool.and_eq_true,bn] at hc;exact slice hl hc.1 hc.2
 . rename_i b n
   cases hB:g.at b with
   | none=>rw [hB] at h; cases h
   | some B =>
    rw [hB] at h;simp only [] at h
    cases hl:ld g b 0 n with
    | none=>rw [hl] at h; cases h
    | some l =>
     rw [hl] at h;simp only [] at h
     cases hc:(iE 0 l&&B.row) with
     | false=>rw [hc] at h; cases h
     | true =>
      rw [hc] at h;injection h with h;subst h;simp only [Bool.and_eq_true] at hc;obtain⟨B',hB',_,hle⟩:=DF hl;rw [hB] at hB';injection hB' with hB';subst hB';have hb:=(r.blk b B hB).1;unfold kT at hb;rw [if_pos hc.2] at hb
      have hcap:n<=E.κ b:=by
       rcases hb.2 with⟨h1,_⟩ | ⟨g',cap,cur,h1,_,_,h2,_⟩
       . cases h1
       . injection h1 with _ _ h3
         omega
      exact slice hl hc.1 hcap
 . rename_i hns hnr
   cases hc:a.lt 0 with
   | false=>rw [hc] at h; cases h
   | true =>
    rw [hc] at h;injection h with h;subst h;show a.aA E=a.aA (E0 E.ρ);exact(n_ (E:=E) (E':=E0 E.ρ) hc rfl).symm
theorem uO(r:Rep M E s g.at g.n w):∀ {l:List AV} {xs:List EA},eargs g l=some xs->b_ (M.fp s w) w (ay E l) (xs.map (EA.aA (E0 E.ρ)))
 | [],xs,h=>by unfold eargs at h; injection h with h; subst h; trivial
 | a::l,xs,h=>by
  unfold eargs at h
  cases hx:GI g a with
  | none=>rw [hx] at h; cases h
  | some x =>
   cases hl:eargs g l with
   | none=>rw [hx,hl] at h; cases h
   | some xs' =>
    rw [hx,hl] at h;injection h with h;subst h;exact⟨aec r hx,uO r hl⟩
theorem PG:∀(t:Tr AB) (b:Nat),(zU t).get b=(t.get b).map fun B=>{ B with ro:=true }
 | .nil,b=>rfl
 | .nd v l r,0=>by cases v<;>rfl
 | .nd v l r,b+1=>by
  have e:∀ x,(Tr.nd x (zU l) (zU r)).get (b+1)=((Tr.nd v l r).get (b+1)).map fun B=>{ B with ro:=true }:=fun x=>by
   rw [Tr.Ep,Tr.Ep]
   cases Nat.beq (Nat.mod b 2) 0 with
   | true=>exact PG l _
   | false=>exact PG r _
  cases v with
  | none=>exact e none
  | some B=>exact e _
theorem UM:∀(l:List AV) (i:Nat) (t:Tr AV) (k:Nat),i+l.length<1000000->(Eo l i t).get k=if i<=k/\k<i+l.length then l[k - i]? else t.get k
 | [],i,t,k,_=>by rw [if_neg (by simp only [List.length_nil]; omega)]; rfl
 | v::l,i,t,k,h=>by
  simp only [List.length_cons] at h;unfold Eo;rw [UM l (Nat.succ i) _ k (by omega),Tr.lX _ _ _ _ (by omega)];simp only [List.length_cons];by_cases hk:k=i
  . subst hk
    rw [if_neg (by omega),if_pos rfl,if_pos (by omega)];simp
  . by_cases h1:i+1<=k/\k<i+1+l.length
    . rw [if_pos h1,if_pos (by omega),show k - i=(k - (i+1))+1 by omega]
      simp
    . rw [if_neg h1,if_neg hk,if_neg (by omega)]
end
section
variable {cx:Cx} {M:f_ cx.P} {ρv:Nat->Value} {E:Env} {s s':M.σ} {g:G} {w:World} {tm:Tm} {a:Act}
def G6 (tmps:Array Value):ResultVar->Sem Value
 | .tmp t=>pure (tmps.getD t undef)
 | .cell a t=>do loadVar t (<- asAddr (tmps.getD a undef))
theorem G7(ht:uM E tm a)(r:Rep M E s g.at g.n w):∀ {l:List ResultVar} {vs:List AV},yB cx g tm l=some vs->(l.mapM (G6 a.tmps)).run cx.P w=.ok (ay E vs) w
 | [],vs,h=>by unfold yB at h; injection h with h; subst h; rfl
 | .tmp t::l,vs,h=>by
  unfold yB at h
  cases hl:yB cx g tm l with
  | none=>rw [hl] at h; cases h
  | some us =>
   rw [hl] at h;injection h with h;subst h;rw [List.mapM_cons];simp only [G6,Sem.run_bind,Sem.run_pure,Result.andThen_ok,G7 ht r hl,ht.val];rfl
 | .cell x T::l,vs,h=>by
  unfold yB at h
  cases hl:yB cx g tm l with
  | none=>rw [hl] at h; split at h<;>first | cases h | (rename_i h2; cases h2)
  | some us =>
   rw [hl] at h;split at h
   . rename_i b off us' hb heq
     injection heq with heq;subst heq
     cases hv:IY cx g T b off with
     | none=>rw [hv] at h; cases h
     | some v =>
      rw [hv] at h;injection h with h;subst h;rw [List.mapM_cons];simp only [G6,Sem.run_bind,ht.val,hb,AV.aA,asAddr,Sem.run_pure,Result.andThen_ok,MS r hv,G7 ht r hl];rfl
   . cases h
theorem Yr(ht:uM E tm a)(r:Rep M E s g.at g.n w){fn:Func}{vs:List AV}(h:yB cx g tm fn.results.toList=some vs) :
 (results fn a.tmps).run cx.P w=.ok (if h:(ay E vs).toArray.size=1 then(ay E vs).toArray[0] else .tuple (ay E vs).toArray) w:=by
 have e:results fn a.tmps=(do let vs <- fn.results.mapM (G6 a.tmps); pure (if h:vs.size=1 then vs[0] else .tuple vs)):=rfl;rw [e,Array.mapM_eq_mapM_toList];have hs:=G7 ht r h;simp [hs]
end
end Xi
namespace Xi
open Go Go.RowKit
section
variable {cx:Cx} {M:f_ cx.P} {ρv:Nat->Value}
def DI (cx:Cx) (M:f_ cx.P) (ρv:Nat->Value) (tm:Tm) (g:G) (ex:QE) (tm':Tm) (g':G) (δ:List Ev) (wp:(Exit->Act->World->Prop)->Act->World->Prop):Prop :=
 ∀(E:Env) (s s':M.σ) w a (Q:Exit->Act->World->Prop),E.ρ=ρv->uM E tm a->Rep M E s g.at g.n w->gX M ρv δ s s' ->
  (∀ E' a' w',uM E' tm' a'->jk M E g.at g.n s w E' g'.at g'.n s' w'->Q ex.aA a' w')->wp Q a w
theorem aed(ops:Array Oper):(List.range ops.size).filterMap (ops[·]?)=ops.toList:=by
 apply List.ext_getElem?;intro i
 have:∀ n,n<=ops.size->(List.range n).filterMap (ops[·]?)=ops.toList.take n:=by
  intro n
  induction n with
  | zero=>intro _; simp
  | succ n ih =>
   intro hn;rw [List.range_succ,List.filterMap_append,ih (by omega),List.take_add_one];have h1:ops[n]?=some ops[n]:=Array.getElem?_eq_getElem (by omega);have h2:ops.toList[n]?=some ops[n]:=by rw [Array.getElem?_toList,h1]
   simp [h1]
 rw [this ops.size (Nat.le_refl _),<- Array.length_toList,List.take_length]
theorem then_self{Q:Exit->Act->World->Prop}:Exit.then (Q .normal) Q=Q:=by
 funext e a w
 cases e<;>rfl
theorem aee(cx:Cx)(f:Nat)(tm:Tm)(g:G):dI cx (f+1) .skip tm g=some (.normal,tm,g,[]):=by rw [dI]
theorem Yt(cx:Cx)(f id:Nat)(ops:Array Oper)(draw:Bool)(tm:Tm)(g:G):dI cx (f+1) (.region id ops draw) tm g=Pq (bif draw then Uw cx (iK cx f) ops tm g else CX cx (iK cx f) ops ops.toList tm g):=by rw [dI]
theorem ahR(cx:Cx)(f:Nat)(x y:Code)(tm:Tm)(g:G):dI cx (f+1) (.seq x y) tm g=Po (dI cx f x tm g) (dI cx f y):=by rw [dI]
theorem aef(cx:Cx)(f:Nat)(c:Operand)(x y:Code)(tm:Tm)(g:G):dI cx (f+1) (.cond c x y) tm g=(match dD tm c with | some (.lit (.bool t))=>dI cx f (bif t then x else y) tm g | some (.opq i)=>ahA (cx.br g.nv) i g (fun t g=>dI cx f (bif t then x else y) tm g) | _=>none):=by rw [dI]; rfl
theorem aa_(cx:Cx)(f id:Nat)(x:Code)(tm:Tm)(g:G):dI cx (f+1) (.block id x) tm g=Ux id (dI cx f x tm g):=by rw [dI]
theorem aeg(cx:Cx)(f:Nat)(x:Code)(tm:Tm)(g:G):dI cx (f+1) (.loop x) tm g=Po (dI cx f x tm g) (dI cx f (.loop x)):=by rw [dI]
theorem aeh(cx:Cx)(f id:Nat)(tm:Tm)(g:G):dI cx (f+1) (.exit id) tm g=some (.exit id,tm,g,[]):=by rw [dI]
theorem ahS(cx:Cx)(f:Nat)(tm:Tm)(g:G):dI cx (f+1) .ret tm g=some (.ret,tm,g,[]):=by rw [dI]
theorem al_(cx:Cx)(f:Nat)(fn:FuncId)(args:List AV)(g:G):iK cx (f+1) fn args g=match cx.ev fn args g.nv with
  | some (out,k)=>kEv fn args g out k
  | none=>bif cx.lp fn then aa0 cx.P fn args g (iK cx f) else
   match CV cx.P fn with
   | some F=>bif Nat.ble (aF args) F.ntmps&&Nat.ble F.ntmps 1000 then aa1 cx F.res (dI cx f F.body ⟨F.ntmps,Eo args 0 .nil⟩ g) else none
   | none=>none:=by rw [iK]; rfl
structure Deep (cx:Cx) (M:f_ cx.P) (ρv:Nat->Value) (f:Nat):Prop where
 code:∀ c tm g ex tm' g' δ,dI cx f c tm g=some (ex,tm',g',δ)->kJ tm g.n->kJ tm' g'.n/\DI cx M ρv tm g ex tm' g' δ fun Q a w=>c.wp cx.P Q a w
 loop:∀ c tm g ex tm' g' δ,dI cx f (.loop c) tm g=some (ex,tm',g',δ)->kJ tm g.n->kJ tm' g'.n/\DI cx M ρv tm g ex tm' g' δ fun Q a w=>Code.rounds cx.P c Q f a w
 call:zY cx M ρv (iK cx f)
theorem seq_ok{tm tm':Tm}{g g':G}{ex:QE}{δ:List Ev}{r:pW}{next:Tm->G->pW}{wp wp2:(Exit->Act->World->Prop)->Act->World->Prop}(h:Po r next=some (ex,tm',g',δ))
 (h1:∀ ex1 tm1 g1 δ1,r=some (ex1,tm1,g1,δ1)->kJ tm1 g1.n/\DI cx M ρv tm g ex1 tm1 g1 δ1 wp)
 (h2:∀ tm1 g1 ex2 tm2 g2 δ2,next tm1 g1=some (ex2,tm2,g2,δ2)->kJ tm1 g1.n->kJ tm2 g2.n/\DI cx M ρv tm1 g1 ex2 tm2 g2 δ2 wp2) :
 kJ tm' g'.n/\DI cx M ρv tm g ex tm' g' δ fun Q a w=>wp (Exit.then (wp2 Q) Q) a w:=by
 unfold Po at h;split at h
 . rename_i tm1 g1 δ1
   obtain⟨l1,ok1⟩:=h1 _ _ _ _ rfl
   cases hn:next tm1 g1 with
   | none=>rw [hn] at h; cases h
   | some q =>
    obtain⟨ex2,tm2,g2,δ2⟩:=q;rw [hn] at h;injection h with h; injection h with k1 h; injection h with k2 h; injection h with k3 k4;subst k1 k2 k3 k4;obtain⟨l2,ok2⟩:=h2 _ _ _ _ _ _ hn l1;refine⟨l2,fun E s s' w a Q hρ ht r hs hK=>?_⟩;obtain⟨s1,hs1,hs2⟩:=mM.1 hs;refine ok1 E s s1 w a _ hρ ht r hs1 fun E' a' w' ht' hw'=>?_;show wp2 Q a' w';exact ok2 E' s1 s' w' a' Q (hw'.rho.trans hρ) ht' hw'.rep hs2 fun E'' a'' w'' ht'' hw''=>hK E'' a'' w'' ht'' (hw'.trans hw'')
 . rename_i hne
   obtain⟨l1,ok1⟩:=h1 _ _ _ _ h;refine⟨l1,fun E s s' w a Q hρ ht r hs hK=>ok1 E s s' w a _ hρ ht r hs fun E' a' w' ht' hw'=>?_⟩;have hq:=hK E' a' w' ht' hw'
   cases ex with
   | normal=>exact absurd h (hne tm' g' δ)
   | exit id=>exact hq
   | ret=>exact hq
theorem deep(fG:cx.P.follows .mixedOrders=true)(hmt:vZ cx)(hone:∀ i,(ρv i).oneCell'=true)(hvw:tX cx M ρv):∀ f,Deep cx M ρv f
 | 0=>⟨fun _ _ _ _ _ _ _ h=>(by rw [dI] at h; cases h),fun _ _ _ _ _ _ _ h=>(by rw [dI] at h; cases h),⟨hvw,fun _ _ _ _ _ _ h=>(by rw [iK] at h; cases h)⟩⟩
 | f+1=>by
  have D:=deep fG hmt hone hvw f
  have hloop:∀ c tm g ex tm' g' δ,dI cx (f+1) (.loop c) tm g=some (ex,tm',g',δ)->kJ tm g.n->kJ tm' g'.n/\DI cx M ρv tm g ex tm' g' δ fun Q a w=>Code.rounds cx.P c Q (f+1) a w:=fun c tm g ex tm' g' δ h hl=>by
   rw [aeg] at h;exact seq_ok h (fun ex1 tm1 g1 δ1 h1=>D.code c tm g ex1 tm1 g1 δ1 h1 hl) (fun tm1 g1 ex2 tm2 g2 δ2 h2 l1=>D.loop c tm1 g1 ex2 tm2 g2 δ2 h2 l1)
  refine⟨fun c tm g ex tm' g' δ h hl=>?_,hloop,hvw,fun fn args g v g' δ h=>?_⟩
  . cases c with
    | skip =>
     rw [aee] at h;injection h with h; injection h with k1 h; injection h with k2 h; injection h with k3 k4;subst k1 k2 k3 k4;refine⟨hl,fun E s s' w a Q hρ ht r hs hK=>wp_skip ?_⟩;have hss:s=s':=hs;subst hss;exact hK E a w ht r.went
    | region id ops draw =>
     rw [Yt] at h;unfold Pq at h
     cases hr:(bif draw then Uw cx (iK cx f) ops tm g else CX cx (iK cx f) ops ops.toList tm g) with
     | none=>rw [hr] at h; cases h
     | some q =>
      obtain⟨tm1,g1,δ1⟩:=q;rw [hr] at h;injection h with h; injection h with k1 h; injection h with k2 h; injection h with k3 k4;subst k1 k2 k3 k4
      cases draw with
      | true =>
       obtain⟨l1,ok1⟩:=al9 fG hmt D.call hone hr hl;refine⟨l1,fun E s s' w a Q hρ ht r hs hK=>?_⟩;have:=ok1 id Q E s s' w a (Q .normal) hρ ht r hs hK;dsimp only at this;rwa [then_self] at this
      | false =>
       have hr':CX cx (iK cx f) ops ((List.range ops.size).filterMap (ops[·]?)) tm g=some (tm1,g1,δ1):=by rw [aed]; exact hr
       obtain⟨l1,ok1⟩:=PD hmt D.call hone (List.range ops.size) (fun i hi=>List.mem_range.1 hi) hr' hl;refine⟨l1,fun E s s' w a Q hρ ht r hs hK=>wp_region ?_⟩;have:=ok1 Q E s s' w a (Q .normal) hρ ht r hs hK;dsimp only at this;rwa [then_self] at this
    | seq x y =>
     rw [ahR] at h;obtain⟨l1,ok1⟩:=seq_ok h (fun ex1 tm1 g1 δ1 h1=>D.code x tm g ex1 tm1 g1 δ1 h1 hl) (fun tm1 g1 ex2 tm2 g2 δ2 h2 l1=>D.code y tm1 g1 ex2 tm2 g2 δ2 h2 l1);exact⟨l1,fun E s s' w a Q hρ ht r hs hK=>wp_seq (ok1 E s s' w a Q hρ ht r hs hK)⟩
    | cond c x y =>
     rw [aef] at h;split at h
     . rename_i t hc
       obtain⟨l1,ok1⟩:=D.code _ _ _ _ _ _ _ h hl;refine⟨l1,fun E s s' w a Q hρ ht r hs hK=>wp_cond (La ht c _ hc) ?_⟩;have:=ok1 E s s' w a Q hρ ht r hs hK
       cases t<;>exact this
     . rename_i i hc
       unfold ahA at h
       cases hb:cx.br g.nv with
       | none=>rw [hb] at h; cases h
       | some t =>
        rw [hb] at h;simp only [dG] at h
        cases hq:dI cx f (bif t then x else y) tm ⟨g.hp,g.n,Nat.succ g.nv⟩ with
        | none=>rw [hq] at h; cases h
        | some q =>
         obtain⟨ex1,tm1,g1,δ1⟩:=q;rw [hq] at h;injection h with h; injection h with k1 h; injection h with k2 h; injection h with k3 k4;subst k1 k2 k3 k4;obtain⟨l1,ok1⟩:=D.code _ _ _ _ _ _ _ hq hl;refine⟨l1,fun E s s' w a Q hρ ht r hs hK=>?_⟩;obtain⟨s1,⟨hp,rfl⟩,hs2⟩:=hs;have hp':E.ρ i=.bool t:=by rw [hρ]; exact hp
         refine wp_cond ((La ht c _ hc).trans hp') ?_;have:=ok1 E s s' w a Q hρ ht r hs2 hK
         cases t<;>exact this
     . cases h
    | block id x =>
     rw [aa_] at h;unfold Ux at h;split at h
     . rename_i id' tm1 g1 δ1 hx
       injection h with h; injection h with k1 h; injection h with k2 h; injection h with k3 k4;subst k1 k2 k3 k4;obtain⟨l1,ok1⟩:=D.code _ _ _ _ _ _ _ hx hl;refine⟨l1,fun E s s' w a Q hρ ht r hs hK=>wp_block (ok1 E s s' w a _ hρ ht r hs fun E' a' w' ht' hw'=>?_)⟩;have hq:=hK E' a' w' ht' hw';show Exit.inBlock id Q (.exit id') a' w';simp only [Exit.inBlock];rw [rE] at hq;by_cases e:id'=id
       . rw [if_pos e]; simpa [e,QE.aA] using hq
       . rw [if_neg e]; simpa [e,QE.aA] using hq
     . rename_i hne
       obtain⟨l1,ok1⟩:=D.code _ _ _ _ _ _ _ h hl;refine⟨l1,fun E s s' w a Q hρ ht r hs hK=>wp_block (ok1 E s s' w a _ hρ ht r hs fun E' a' w' ht' hw'=>?_)⟩;have hq:=hK E' a' w' ht' hw'
       cases ex with
       | normal=>exact hq
       | ret=>exact hq
       | exit id'=>exact absurd h (hne id' tm' g' δ)
    | loop x =>
     obtain⟨l1,ok1⟩:=hloop x tm g ex tm' g' δ h hl;exact⟨l1,fun E s s' w a Q hρ ht r hs hK=>wp_loop_rounds (f+1) (ok1 E s s' w a Q hρ ht r hs hK)⟩
    | exit id =>
     rw [aeh] at h;injection h with h; injection h with k1 h; injection h with k2 h; injection h with k3 k4;subst k1 k2 k3 k4;refine⟨hl,fun E s s' w a Q hρ ht r hs hK=>wp_exit ?_⟩;have hss:s=s':=hs;subst hss;exact hK E a w ht r.went
    | ret =>
     rw [ahS] at h;injection h with h; injection h with k1 h; injection h with k2 h; injection h with k3 k4;subst k1 k2 k3 k4;refine⟨hl,fun E s s' w a Q hρ ht r hs hK=>wp_ret ?_⟩;have hss:s=s':=hs;subst hss;exact hK E a w ht r.went
    | _=>simp [dI] at h
  . rw [al_] at h
    cases hev:cx.ev fn args g.nv with
    | some p =>
     obtain⟨out,k⟩:=p;rw [hev] at h;simp only [kEv] at h
     cases hx:eargs g args with
     | none=>rw [hx] at h; cases h
     | some xs =>
      rw [hx] at h;simp only [MQ,dG] at h
      cases ho:out.lt 0 with
      | false=>rw [ho] at h; cases h
      | true =>
       rw [ho] at h;injection h with h; injection h with k1 h; injection h with k2 k3;subst k1 k2 k3;refine⟨AV.Ja ho (Nat.zero_le _),fun E s s' w hρ r ha hs=>?_⟩;obtain⟨s1,hs1,hs2⟩:=hs;have hs2':s1=s':=hs2;subst hs2';subst hρ;have hstep:M.step s fn (xs.map (EA.aA (E0 E.ρ))) (out.aA (E0 E.ρ)) s1:=hs1;refine(M.step_ok s w fn _ _ _ s1 r.sD (uO r hx) hstep).mono ?_;rintro e w' ⟨rfl,hI,hf,hg⟩;exact⟨E,by rw [n_ (E:=E) (E':=E0 E.ρ) ho rfl],r.event hI hf hg⟩
    | none =>
     rw [hev] at h;simp only [] at h
     cases hlp:cx.lp fn with
     | true =>
      rw [hlp] at h;simp only [cond_true] at h;unfold aa0 at h;split at h
      . rename_i recv n b first cap
        cases hfb:CV cx.P b with
        | none=>rw [hfb] at h; cases h
        | some FB =>
        rw [hfb] at h;simp only [] at h;split at h
        . rename_i g1 δ1 hc
          simp only [dG] at h
          cases hr0:recv.lt 0 with
          | false=>rw [hr0] at h; cases h
          | true =>
           rw [hr0] at h;injection h with h; injection h with k1 h; injection h with k2 k3;subst k1 k2 k3;obtain⟨_,hcc⟩:=D.call.2 _ _ _ _ _ _ hc;refine⟨by show Nat.blt 0 _=true; rw [aI]; exact Nat.two_pow_pos _,fun E s s' w hρ r ha hs=>?_⟩;subst hρ;obtain⟨s3,⟨s1,s2,hb,hbody,hfin⟩,hs2⟩:=hs;have hs2':s3=s':=hs2;subst hs2'
           have hargs:(ay E [recv,.lit (.int .i64 n),.fn (.func b) first cap]).toArray=#[recv.aA (E0 E.ρ),.int .i64 n,.func (.func b) (ay E first).toArray (ay E cap).toArray]:=by
            simp only [ay,AV.aA];rw [n_ (E:=E) (E':=E0 E.ρ) hr0 rfl]
           rw [hargs];refine(M.I_ s w fn _ n _ b (ay E first) (ay E cap) s1 s2 s3 r.sD hb hfin (fun args W=>zZ hfb args W) fun w1 hI1 hf1 hg1=>?_).mono ?_
           . have r1:=(r.event hI1 hf1 hg1).rep
             have hat:∀ b B,(⟨zU g.hp,g.n,g.nv+1⟩:G).at b=some B->∃ B0,g.at b=some B0/\B={ B0 with ro:=true }:=fun b B hB=>by
              have hlt:b<g.n:=dQ (g:=⟨zU g.hp,g.n,g.nv+1⟩) hB;rw [nG (g:=⟨zU g.hp,g.n,g.nv+1⟩) hlt] at hB;rw [nG hlt];rw [show(⟨zU g.hp,g.n,g.nv+1⟩:G).hp=zU g.hp from rfl,PG] at hB
              cases hx:g.hp.get b with
              | none=>rw [hx] at hB; cases hB
              | some B0=>rw [hx] at hB; injection hB with hB; exact⟨B0,rfl,hB.symm⟩
             have r2:Rep M E s1 (⟨zU g.hp,g.n,g.nv+1⟩:G).at g.n w1:=r1.part (fun b B hB=>by
              obtain⟨B0,h0,rfl⟩:=hat b B hB;exact⟨B0,h0,rfl,rfl,rfl,fun h=>by cases h⟩) (fun b B hB k hk=>by
              obtain⟨B0,h0,rfl⟩:=hat b B hB
              exact r1.ids b B0 h0 k hk) (fun b B hB=>dQ (g:=⟨zU g.hp,g.n,g.nv+1⟩) hB)
             have hlow:∀ u∈first++[.opq g.nv]++cap,u.lt g.n=true:=fun u hu=>by
              have hfn:=ha (.fn (.func b) first cap) (by simp);unfold AV.lt at hfn;rw [aI,pow_eq] at hfn
              have sub:∀ u,(u∈first\/u∈cap)->u.lt g.n=true:=fun u hu=>by
               unfold AV.lt;rw [aI,pow_eq];refine dP fun q hq=>fQ hfn ?_;simp only [AV.kL,lor_eq,Nat.testBit_or,Bool.or_eq_true];exact hu.imp (fun h=>fF h hq) (fun h=>fF h hq)
              simp only [List.append_assoc,List.mem_append,List.mem_singleton] at hu;rcases hu with hu | rfl | hu
              . exact sub u (.inl hu)
              . show Nat.blt 0 _=true; rw [aI]; exact Nat.two_pow_pos _
              . exact sub u (.inr hu)
             have hcl:=hcc E s1 s2 w1 rfl r2 hlow hbody
             have awO:(ay E (first++[.opq g.nv]++cap)).toArray=(ay E first++[E.ρ g.nv]++ay E cap).toArray:=by
              rw [jw,jw]; rfl
             rw [awO] at hcl;refine hcl.mono ?_;rintro e w2 ⟨E',rfl,hw⟩;refine⟨rfl,hw.rep.sD,hw.fr.more fun k _ hk=>?_,hw.grow⟩;rcases hk with hk | ⟨c,C,hc,hro,_⟩
             . exact hk
             . obtain⟨B0,_,rfl⟩:=hat c C hc
               cases hro
           . rintro e w' ⟨rfl,hI,hf,hg⟩
             exact⟨E,rfl,r.event hI hf hg⟩
        . cases h
      . cases h
     | false =>
      rw [hlp] at h;simp only [cond_false] at h
      cases hfi:CV cx.P fn with
      | none=>rw [hfi] at h; cases h
      | some F =>
       rw [hfi] at h;simp only [] at h
       cases hn:(Nat.ble (aF args) F.ntmps&&Nat.ble F.ntmps 1000) with
       | false=>rw [hn] at h; cases h
       | true =>
        rw [hn] at h;simp only [cond_true] at h;simp only [Bool.and_eq_true,bn,aF] at hn;obtain⟨func,f1,f2,f3,f4,f5⟩:=QK hfi;unfold aa1 at h
        have awP:∀ t,(Eo args 0 .nil).get t=args[t]?:=fun t=>by
         rw [UM _ _ _ _ (by omega)];by_cases ht:t<args.length
         . rw [if_pos (by omega)]; rfl
         . rw [if_neg (by omega),List.getElem?_eq_none (by omega)]; rfl
        have hat:∀ t,(⟨F.ntmps,Eo args 0 .nil⟩:Tm).at t=(args[t]?).getD (.lit undef):=fun t=>by
         unfold Tm.at;simp only [awP]
         cases args[t]?<;>rfl
        have key:∀(ex:QE) (tm':Tm) (g1:G) (δ1:List Ev),dI cx f F.body ⟨F.ntmps,Eo args 0 .nil⟩ g=some (ex,tm',g1,δ1)->(∀ id,ex≠.exit id)->ahB (yB cx g1 tm' F.res) g1 δ1=some (v,g',δ) ->
         v.lt g'.n=true/\∀(E:Env) s s' w,E.ρ=ρv->Rep M E s g.at g.n w->(∀ u∈args,u.lt g.n=true)->gX M ρv δ s s'->Calls cx.P fn (ay E args).toArray w fun e w'=>∃ E',e=.returned (v.aA E')/\jk M E g.at g.n s w E' g'.at g'.n s' w':=fun ex tm' g1 δ1 hcode hex hres=>by
         unfold ahB at hres
         have fin:∀ vs,yB cx g1 tm' F.res=some vs->v.lt g1.n=true->g'=g1->δ=δ1->(∀ E:Env,(if h:(ay E vs).toArray.size=1 then(ay E vs).toArray[0] else .tuple (ay E vs).toArray)=v.aA E) ->
          v.lt g'.n=true/\∀(E:Env) s s' w,E.ρ=ρv->Rep M E s g.at g.n w->(∀ u∈args,u.lt g.n=true)->gX M ρv δ s s'->Calls cx.P fn (ay E args).toArray w fun e w'=>∃ E',e=.returned (v.aA E')/\jk M E g.at g.n s w E' g'.at g'.n s' w':=fun vs hvs hvl hg hδ hval=>by
          subst hg hδ;refine⟨hvl,fun E s s' w hρ r ha hs=>calls_of_wp f1 f3 ?_⟩
          have htl:kJ ⟨F.ntmps,Eo args 0 .nil⟩ g.n:=fun t=>by
           rw [hat]
           cases hx:args[t]? with
           | none=>exact UG _ _
           | some u=>exact ha u (List.mem_of_getElem? hx)
          obtain⟨_,ok⟩:=D.code _ _ _ _ _ _ _ hcode htl
          have hsz:((ay E args).toArray++Array.replicate (func.ntmps - (ay E args).toArray.size) undef).size=F.ntmps:=by
           simp [aV,f4]; omega
          refine ok E s s' w _ _ hρ ⟨hsz,fun t=>?_,fun t ht=>?_,rfl⟩ r hs fun E' a' w' ht' hw'=>?_
          . rw [hat]
            show((ay E args).toArray++Array.replicate _ undef).getD t undef=_;rw [Array.getD_eq_getD_getElem?,Array.getElem?_append];by_cases ht:t<args.length
            . have h1:t<(ay E args).toArray.size:=by simp [aV]; exact ht
              rw [if_pos h1,List.getElem?_eq_getElem ht];simp [cO,ht]
            . have h1:¬ t<(ay E args).toArray.size:=by simp [aV]; omega
              rw [if_neg h1,List.getElem?_eq_none (by omega),Array.getElem?_replicate];split<;>rfl
          . rw [hat,List.getElem?_eq_none (by have:F.ntmps<=t:=ht; omega)]
            rfl
          . have hrun:=Yr ht' hw'.rep (fn:=func) (vs:=vs) (by rw [f5]; exact hvs)
            rw [hval E'] at hrun
            cases ex with
            | normal=>exact⟨ht'.defers,_,hrun,E',rfl,hw'⟩
            | ret=>exact⟨ht'.defers,_,hrun,E',rfl,hw'⟩
            | exit id=>exact absurd rfl (hex id)
         split at hres
         . rename_i u hvs
           cases hvl:u.lt g1.n with
           | false=>rw [hvl] at hres; cases hres
           | true =>
            rw [hvl] at hres;injection hres with hres; injection hres with k1 hres; injection hres with k2 k3;subst k1;exact fin _ hvs hvl k2.symm k3.symm fun E=>by simp [ay]
         . rename_i vs hne hvs
           simp only [jr] at hres
           cases hvl:iE g1.n vs with
           | false=>rw [hvl] at hres; cases hres
           | true =>
            rw [hvl] at hres;injection hres with hres; injection hres with k1 hres; injection hres with k2 k3;subst k1;refine fin _ hvs hvl k2.symm k3.symm fun E=>?_;rw [dif_neg]
            . rfl
            . intro h1
              simp only [List.size_toArray,aV] at h1;obtain⟨u,hu⟩:=List.length_eq_one_iff.1 h1;exact hne u hu
         . cases hres
        split at h
        . cases h
        . rename_i ex tm' g1 δ1 hne hcode
          exact key ex tm' g1 δ1 hcode (fun id e=>by subst e; exact hne id rfl) h
        . cases h
theorem z_(fG:cx.P.follows .mixedOrders=true)(hmt:vZ cx)(hone:∀ i,(ρv i).oneCell'=true)(hvw:tX cx M ρv)(f:Nat):zY cx M ρv (iK cx f):=(deep fG hmt hone hvw f).call
theorem tX.none{cx:Cx}{M:f_ cx.P}{ρv:Nat->Value}(h:∀ i,cx.vw i=Option.none):tX cx M ρv:=fun i cs hi=>by rw [h i] at hi; cases hi
end
end Xi
namespace Xi
open Go Go.RowKit
def EF (P:Program):f_ P where
 σ:=Unit
 I:=fun _ _=>True
 fp:=fun _ _=>[]
 lt:=fun _ _ _ d hd=>by cases hd
 keep:=fun _ _ _ _ _ _ _=>⟨trivial,rfl⟩
 step:=fun _ f cas v _=>∀(w:World) (args:List Value),b_ [] w args cas->Calls P f args.toArray w fun e w'=>e=.returned v/\ah w w' []
 GN:=fun _ _ _ _ _ _=>False
 fin:=fun _ _ _ _=>False
 step_ok:=fun s w f args cas v s' _ ha hs=>(hs w args ha).mono fun e w' ⟨he,hc⟩=>⟨he,trivial,Fr.DC hc,fun d hd=>by cases hd⟩
 I_:=fun _ _ _ _ _ _ _ _ _ _ _ _ _ hb=>hb.elim
mutual
def AV.known (n:Nat):AV->Bool
 | .lit (.int k i)=>(Lit.int k i).wf
 | .lit (.bool _)=>true
 | .lit .nilIface=>true
 | .opq i=>Nat.blt i n
 | .agg cs=>kU n cs
 | .jm vs=>kU n vs
 | _=>false
def kU (n:Nat):List AV->Bool
 | []=>true
 | v::l=>AV.known n v&&kU n l
end
def dR:Value->Prop
 | .int k n=>(Lit.int k n).wf=true
 | .bool _=>True
 | .nilIface=>True
 | .string _=>True
 | _=>False
def good1(v:Value):Prop:=dR v\/∃ ds:Array Value,v=.agg ds/\∀ u∈ds.toList,dR u
def iy(v:Value):Prop:=good1 v\/∃ ds:Array Value,v=.tuple ds/\∀ u∈ds.toList,good1 u
def dV(ρ:List Value):Env:=E0 fun i=>ρ.getD i (.int .i64 0)
abbrev Tab:=FuncId->List Value->Option Value
inductive Ob where
 | call (f:FuncId) (args:List Value) (v:Value)
 | test (p:Pr) (xs:List Value) (v:Value)
def lJ (P:Program):Ob->Prop
 | .call f args v=>∀ w:World,Calls P f args.toArray w fun e w'=>e=.returned v/\ah w w' []
 | .test p xs v=>uJ P p xs v
def u8N:Value->Option Int
 | .int .u8 n=>some n
 | _=>none
def u8L:List Value->Option (List Int)
 | []=>some []
 | v::l=>match u8N v,u8L l with | some n,some ns=>some (n::ns) | _,_=>none
def Aa(ns:List Int):ByteArray:=ns.foldl (fun r n=>r.push (UInt8.ofNat n.toNat)) ByteArray.empty
theorem UN:∀ {l:List Value} {ns:List Int},u8L l=some ns->l=ns.map (Value.int .u8)
 | [],ns,h=>by unfold u8L at h; injection h with h; subst h; rfl
 | v::l,ns,h=>by
  unfold u8L at h;split at h
  . rename_i n ns' h1 h2
    injection h with h;subst h;rw [List.map_cons,<- UN h2];unfold u8N at h1;split at h1
    . injection h1 with h1; subst h1; rfl
    . cases h1
  . cases h
def isStr (cx:Cx) (T:TypeId):Bool:=match bV cx.P T with
 | some i=>match i.d with | .string=>true | _=>false
 | none=>false
def aoI (cx:Cx) (T:TypeId):Bool:=match kindOf cx T with
 | some .u8=>true
 | _=>false
def akS (cx:Cx) (src dst:TypeId):Bool:=match sliceOf cx src with
 | some e=>aoI cx e&&isStr cx dst
 | none=>false
def Zu (cx:Cx):Pr->List Value->Option Value
 | .str src dst,xs=>match akS cx src dst,u8L xs with
  | true,some ns=>some (.string (Aa ns))
  | _,_=>none
 | .bin op _,[.int k a,.int k' b]=>bif vU op then(match Dx op k a b with | some n=>some (.int k n) | none=>none) else if k=k' then
  match op with
  | .and=>some (.int k (bits .and k a b))
  | .or=>some (.int k (bits .or k a b))
  | .xor=>some (.int k (bits .xor k a b))
  | .andNot=>some (.int k (bits .andNot k a b))
  | .add=>some (.int k (k.wrap (a+b)))
  | .sub=>some (.int k (k.wrap (a - b)))
  | .mul=>some (.int k (k.wrap (a*b)))
  | .quo=>bif b==0 then none else some (.int k (k.wrap (a.tdiv b)))
  | .rem=>bif b==0 then none else some (.int k (k.wrap (a.tmod b)))
  | _=>none
  else none
 | .min,[.int k a,.int k' b]=>if k=k' then some (.int k (if b<a then b else a)) else none
 | .conv src dst,[.int _ n]=>match kindOf cx src,kindOf cx dst with
  | some _,some k=>some (.int k (k.wrap n))
  | _,_=>none
 | _,_=>none
def pX:List AV->List Value->List Value->Option (List Value)
 | [],[],ρ=>some ρ
 | .opq i::l,v::vs,ρ=>bif Nat.beq i (aF ρ) then fL (ρ++[v]) fun ρ=>pX l vs ρ else none
 | _,_,_=>none
def lD:List AV->List Value->List Value->Option (List Value)
 | [],[],ρ=>some ρ
 | .opq i::l,v::vs,ρ=>bif Nat.beq i (aF ρ)&&v.oneCell' then fL (ρ++[v]) fun ρ=>lD l vs ρ else none
 | .agg cs::l,.agg ds::vs,ρ=>match pX cs ds.toList ρ with | some ρ'=>lD l vs ρ' | none=>none
 | _,_,_=>none
def Jc:AV->Value->List Value->Option (List Value)
 | .jm l,.tuple vs,ρ=>lD l vs.toList ρ
 | a,v,ρ=>lD [a] [v] ρ
def Ext(ρ:List Value)(ρF:Nat->Value):Prop:=∀ i v,ρ[i]?=some v->ρF i=v
theorem Ext.of_append{ρ τ:List Value}{ρF:Nat->Value}(h:Ext (ρ++τ) ρF):Ext ρ ρF:=fun i v hv=>h i v (by
 have:=(List.getElem?_eq_some_iff.1 hv).1
 rw [List.getElem?_append_left this]; exact hv)
def eP (ρ:List Value):Prop:=∀ v∈ρ,dR v
theorem G8{v:Value}(h:dR v):v.oneCell'=true:=by cases v<;>first | rfl | cases h
theorem UO:∀ {l:List AV} {vs ρ ρ':List Value},pX l vs ρ=some ρ'->∃ τ,ρ'=ρ++τ/\((∀ v∈vs,dR v)->eP τ)/\∀ ρF,Ext ρ' ρF->ay (E0 ρF) l=vs
 | [],[],ρ,ρ',h=>by
  unfold pX at h; injection h with h; subst h;exact⟨[],by simp,fun _ v hv=>(by cases hv),fun _ _=>rfl⟩
 | .opq i::l,v::vs,ρ,ρ',h=>by
  unfold pX at h;simp only [oG] at h
  cases hi:Nat.beq i (aF ρ) with
  | false=>rw [hi] at h; cases h
  | true =>
   rw [hi] at h;rw [beq_iff] at hi;obtain⟨τ,rfl,h2,h3⟩:=UO (l:=l) h;refine⟨v::τ,by simp,fun hg u hu=>?_,fun ρF hF=>?_⟩
   . rcases List.mem_cons.1 hu with rfl | hu
     . exact hg _ (by simp)
     . exact h2 (fun x hx=>hg x (by simp [hx])) u hu
   . have:ρF i=v:=hF i v (by rw [hi]; unfold aF; simp)
     simp only [ay,AV.aA,h3 ρF hF];rw [show(E0 ρF).ρ i=ρF i from rfl,this]
 | .opq _::_,[],_,_,h=>by cases h
 | [],_::_,_,_,h=>by cases h
 | .lit _::_,_,_,_,h=>by unfold pX at h; cases h
 | .ptr _ _::_,_,_,_,h=>by unfold pX at h; cases h
 | .slc _ _ _ _::_,_,_,_,h=>by unfold pX at h; cases h
 | .row _ _::_,_,_,_,h=>by unfold pX at h; cases h
 | .fn _ _ _::_,_,_,_,h=>by unfold pX at h; cases h
 | .qC _ _::_,_,_,_,h=>by unfold pX at h; cases h
 | .agg _::_,_,_,_,h=>by unfold pX at h; cases h
 | .jm _::_,_,_,_,h=>by unfold pX at h; cases h
theorem ahT{v:Value}(h:good1 v)(h1:v.oneCell'=true):dR v:=by
 rcases h with h | ⟨ds,rfl,_⟩
 . exact h
 . cases h1
theorem EG:∀ {l:List AV} {vs ρ ρ':List Value},lD l vs ρ=some ρ'->∃ τ,ρ'=ρ++τ/\((∀ v∈vs,good1 v)->eP τ)/\∀ ρF,Ext ρ' ρF->ay (E0 ρF) l=vs
 | [],[],ρ,ρ',h=>by
  unfold lD at h; injection h with h; subst h;exact⟨[],by simp,fun _ v hv=>(by cases hv),fun _ _=>rfl⟩
 | .opq i::l,v::vs,ρ,ρ',h=>by
  unfold lD at h;simp only [oG] at h
  cases hi:(Nat.beq i (aF ρ)&&v.oneCell') with
  | false=>rw [hi] at h; cases h
  | true =>
   rw [hi] at h;simp only [Bool.and_eq_true,beq_iff] at hi;obtain⟨τ,rfl,h2,h3⟩:=EG (l:=l) h;refine⟨v::τ,by simp,fun hg u hu=>?_,fun ρF hF=>?_⟩
   . rcases List.mem_cons.1 hu with rfl | hu
     . exact ahT (hg _ (by simp)) hi.2
     . exact h2 (fun x hx=>hg x (by simp [hx])) u hu
   . have:ρF i=v:=hF i v (by rw [hi.1]; unfold aF; simp)
     simp only [ay,AV.aA,h3 ρF hF];rw [show(E0 ρF).ρ i=ρF i from rfl,this]
 | .agg cs::l,.agg ds::vs,ρ,ρ',h=>by
  unfold lD at h
  cases hb:pX cs ds.toList ρ with
  | none=>rw [hb] at h; cases h
  | some ρ1 =>
   rw [hb] at h;obtain⟨τ1,rfl,g1,c1⟩:=UO hb;obtain⟨τ,rfl,h2,h3⟩:=EG (l:=l) h;refine⟨τ1++τ,by simp,fun hg u hu=>?_,fun ρF hF=>?_⟩
   . rcases List.mem_append.1 hu with hu | hu
     . refine g1 (fun x hx=>?_) u hu
       rcases hg (.agg ds) (by simp) with h | ⟨ds',h,hd⟩
       . cases h
       . injection h with h; subst h; exact hd x hx
     . exact h2 (fun x hx=>hg x (by simp [hx])) u hu
   . simp only [ay,AV.aA,h3 ρF hF,c1 ρF hF.of_append]
 | .opq _::_,[],_,_,h=>by cases h
 | [],_::_,_,_,h=>by cases h
 | .agg _::_,[],_,_,h=>by cases h
 | .agg _::_,.bool _::_,_,_,h=>by cases h
 | .agg _::_,.int _ _::_,_,_,h=>by cases h
 | .agg _::_,.float _ _::_,_,_,h=>by cases h
 | .agg _::_,.complex _ _ _::_,_,_,h=>by cases h
 | .agg _::_,.string _::_,_,_,h=>by cases h
 | .agg _::_,.pointer _::_,_,_,h=>by cases h
 | .agg _::_,.slice _ _ _::_,_,_,h=>by cases h
 | .agg _::_,.map _::_,_,_,h=>by cases h
 | .agg _::_,.chan _::_,_,_,h=>by cases h
 | .agg _::_,.func _ _ _::_,_,_,h=>by cases h
 | .agg _::_,.nilFunc::_,_,_,h=>by cases h
 | .agg _::_,.iface _ _::_,_,_,h=>by cases h
 | .agg _::_,.nilIface::_,_,_,h=>by cases h
 | .agg _::_,.tuple _::_,_,_,h=>by cases h
 | .lit _::_,_,_,_,h=>by unfold lD at h; cases h
 | .ptr _ _::_,_,_,_,h=>by unfold lD at h; cases h
 | .slc _ _ _ _::_,_,_,_,h=>by unfold lD at h; cases h
 | .row _ _::_,_,_,_,h=>by unfold lD at h; cases h
 | .fn _ _ _::_,_,_,_,h=>by unfold lD at h; cases h
 | .qC _ _::_,_,_,_,h=>by unfold lD at h; cases h
 | .jm _::_,_,_,_,h=>by unfold lD at h; cases h
theorem UQ{a:AV}{v:Value}{ρ ρ':List Value}(h:Jc a v ρ=some ρ'):∃ τ,ρ'=ρ++τ/\(iy v->eP τ)/\∀ ρF,Ext ρ' ρF->a.aA (E0 ρF)=v:=by
 have single:lD [a] [v] ρ=some ρ'->(∀ ds,v≠.tuple ds)->∃ τ,ρ'=ρ++τ/\(iy v->eP τ)/\∀ ρF,Ext ρ' ρF->a.aA (E0 ρF)=v:=fun h hne=>by
  obtain⟨τ,h1,h2,h3⟩:=EG h;refine⟨τ,h1,fun hg=>h2 fun u hu=>?_,fun ρF hF=>?_⟩
  . simp at hu; subst hu
    rcases hg with hg | ⟨ds,hd,_⟩
    . exact hg
    . exact absurd hd (hne ds)
  . have:=h3 ρF hF
    simp only [ay] at this;injection this
 unfold Jc at h;split at h
 . rename_i l vs
   obtain⟨τ,h1,h2,h3⟩:=EG h;refine⟨τ,h1,fun hg=>h2 fun u hu=>?_,fun ρF hF=>?_⟩
   . rcases hg with hg | ⟨ds,hd,hg⟩
     . rcases hg with hg | ⟨ds,hd,_⟩
       . cases hg
       . cases hd
     . injection hd with hd; subst hd; exact hg u hu
   . simp only [AV.aA,h3 ρF hF]
 . rename_i hne
   cases v with
   | tuple ds =>
    exfalso
    cases a with
    | jm l=>exact hne l ds rfl rfl
    | opq i =>
     unfold lD at h;simp only [oG] at h
     cases hi:(Nat.beq i (aF ρ)&&(Value.tuple ds).oneCell') with
     | false=>rw [hi] at h; cases h
     | true=>simp [Value.oneCell'] at hi
    | _=>unfold lD at h; cases h
   | _=>exact single h (fun ds h=>by cases h)
end Xi
namespace Xi
open Go Go.RowKit
def Tz:AV->Bool
 | .lit _=>true
 | .opq _=>true
 | _=>false
def TA:List AV->Bool
 | []=>true
 | v::l=>Tz v&&TA l
def abb:AV->Bool
 | .agg cs=>TA cs
 | v=>Tz v
def BI (ρ:List Value):List EA->Option (List Value)
 | []=>some []
 | .v a::l=>bif a.known (aF ρ)&&abb a then(match BI ρ l with | some vs=>some (a.aA (dV ρ)::vs) | none=>none) else none
 | .l _::_=>none
def tY(cx:Cx)(tab:Tab):List Ev->List Value->List Ob->Option (List Value×List Ob)
 | [],ρ,obs=>some (ρ,obs)
 | .call f args out::l,ρ,obs=>match BI ρ args with
  | none=>none
  | some us=>match tab f us with
   | some v=>match Jc out v ρ with | some ρ'=>fL ρ' fun ρ'=>tY cx tab l ρ' obs | none=>none
   | none=>bif out.known (aF ρ) then tY cx tab l ρ (.call f us (out.aA (dV ρ))::obs) else none
 | .yx p xs out::l,ρ,obs=>bif kU (aF ρ) xs then
  (match Zu cx p (ay (dV ρ) xs) with
  | some v=>match Jc out v ρ with | some ρ'=>fL ρ' fun ρ'=>tY cx tab l ρ' obs | none=>none
  | none=>match out with
   | .lit (.bool b)=>fL (ρ++[.bool b]) fun ρ'=>tY cx tab l ρ' (.test p (ay (dV ρ) xs) (.bool b)::obs)
   | _=>none)
  else none
 | .loop _ _ _ _ _::_,_,_=>none
def abd(P:Program)(tab:Tab):Prop:=∀ f us v,tab f us=some v->(∀ u∈us,good1 u)->iy v/\∀ w:World,Calls P f us.toArray w fun e w'=>e=.returned v/\ah w w' []
mutual
theorem yX{ρ:List Value}{ρF:Nat->Value}(hF:Ext ρ ρF):∀(a:AV),a.known (aF ρ)=true->a.aA (E0 ρF)=a.aA (dV ρ)
 | .lit v,_=>rfl
 | .opq i,h=>by
  have hi:i<ρ.length:=by have:Nat.blt i (aF ρ)=true:=h; rwa [aI] at this
  show ρF i=ρ.getD i _;rw [hF i ρ[i] (List.getElem?_eq_getElem hi)];simp [List.getD,List.getElem?_eq_getElem hi]
 | .agg cs,h=>by simp only [AV.aA]; rw [jq hF cs (by simpa [AV.known] using h)]
 | .jm vs,h=>by simp only [AV.aA]; rw [jq hF vs (by simpa [AV.known] using h)]
 | .ptr _ _,h=>by simp [AV.known] at h
 | .slc _ _ _ _,h=>by simp [AV.known] at h
 | .row _ _,h=>by simp [AV.known] at h
 | .fn _ _ _,h=>by simp [AV.known] at h
 | .qC _ _,h=>by simp [AV.known] at h
theorem jq{ρ:List Value}{ρF:Nat->Value}(hF:Ext ρ ρF):∀(l:List AV),kU (aF ρ) l=true->ay (E0 ρF) l=ay (dV ρ) l
 | [],_=>rfl
 | v::l,h=>by
  simp only [kU,Bool.and_eq_true] at h;simp only [ay];rw [yX hF v h.1,jq hF l h.2]
end
theorem Yu{ρ:List Value}(hg:eP ρ){a:AV}(h:a.known (aF ρ)=true)(h1:(a.aA (dV ρ)).oneCell'=true):dR (a.aA (dV ρ)):=by
 cases a with
 | lit v=>cases v<;>first | exact h | trivial | (simp [AV.known] at h)
 | opq i =>
  have hi:i<ρ.length:=by have:Nat.blt i (aF ρ)=true:=h; rwa [aI] at this
  show dR (ρ.getD i _);simp only [List.getD,List.getElem?_eq_getElem hi,Option.getD_some];exact hg _ (List.getElem_mem hi)
 | agg cs=>cases h1
 | jm vs=>cases h1
 | _=>simp [AV.known] at h
theorem aej{l:List AV}(h:TA l=true):∀ v∈l,Tz v=true:=by
 induction l with
 | nil=>simp
 | cons x l ih =>
  simp only [TA,Bool.and_eq_true] at h;intro v hv;rcases List.mem_cons.1 hv with rfl | hv
  . exact h.1
  . exact ih h.2 v hv
theorem Nk{n:Nat}{l:List AV}(h:kU n l=true):∀ v∈l,v.known n=true:=by
 induction l with
 | nil=>simp
 | cons x l ih =>
  simp only [kU,Bool.and_eq_true] at h;intro v hv;rcases List.mem_cons.1 hv with rfl | hv
  . exact h.1
  . exact ih h.2 v hv
theorem EH{ρ:List Value}(hg:eP ρ){a:AV}(h:a.known (aF ρ)=true)(hf:Tz a=true):dR (a.aA (dV ρ)):=by
 cases a with
 | lit v=>cases v<;>first | exact h | trivial | (simp [AV.known] at h)
 | opq i =>
  have hi:i<ρ.length:=by have:Nat.blt i (aF ρ)=true:=h; rwa [aI] at this
  show dR (ρ.getD i _);simp only [List.getD,List.getElem?_eq_getElem hi,Option.getD_some];exact hg _ (List.getElem_mem hi)
 | _=>cases hf
theorem abe{ρ:List Value}(hg:eP ρ){a:AV}(h:a.known (aF ρ)=true)(hf:abb a=true):good1 (a.aA (dV ρ)):=by
 cases a with
 | agg cs =>
  right;refine⟨_,rfl,fun u hu=>?_⟩;simp only [cO] at hu;obtain⟨q,hq,rfl⟩:=List.mem_map.1 hu;have hk:kU (aF ρ) cs=true:=by simpa [AV.known] using h
  exact EH hg (Nk hk q hq) (aej hf q hq)
 | lit v=>exact .inl (EH hg h rfl)
 | opq i=>exact .inl (EH hg h rfl)
 | _=>cases hf
theorem UR{P:Program}{ρ:List Value}(hg:eP ρ):∀ {l:List EA} {us:List Value},BI ρ l=some us->(∀ u∈us,good1 u)/\∀ ρF,Ext ρ ρF->∀(w:World) (args:List Value),b_ [] w args (l.map (EA.aA (E0 ρF)))->args=us
 | [],us,h=>by
  unfold BI at h; injection h with h; subst h;refine⟨fun u hu=>(by cases hu),fun ρF hF w args ha=>?_⟩
  cases args with
  | nil=>rfl
  | cons a l=>exact ha.elim
 | .v a::l,us,h=>by
  unfold BI at h
  cases hk:(a.known (aF ρ)&&abb a) with
  | false=>rw [hk] at h; cases h
  | true =>
   rw [hk] at h;simp only [cond_true] at h;simp only [Bool.and_eq_true] at hk
   cases hl:BI ρ l with
   | none=>rw [hl] at h; cases h
   | some vs =>
    rw [hl] at h;injection h with h;subst h;obtain⟨h1,h2⟩:=UR (P:=P) hg hl;refine⟨fun u hu=>?_,fun ρF hF w args ha=>?_⟩
    . rcases List.mem_cons.1 hu with rfl | hu
      . exact abe hg hk.1 hk.2
      . exact h1 u hu
    . cases args with
      | nil=>exact ha.elim
      | cons x xs =>
       obtain⟨hx,hxs⟩:=ha;have hx':x=a.aA (E0 ρF):=hx;rw [hx',yX hF a hk.1,h2 ρF hF w xs hxs]
 | .l _::_,us,h=>by unfold BI at h; cases h
theorem ama{k:IntKind}{a:Int}(h:(Lit.int k a).wf=true)(n:Nat):(Lit.int k (a.fdiv (2 ^ n))).wf=true:=by
 have hp:(0:Int)<2 ^ n:=Int.pow_pos (by decide);have e:a.fdiv (2 ^ n)=a / 2 ^ n:=Int.fdiv_eq_ediv_of_nonneg a (Int.le_of_lt hp);rw [e];generalize (2:Int) ^ n=m at *;have b1:0<=a->0<=a / m/\a / m<=a:=fun h=>⟨Int.ediv_nonneg h (Int.le_of_lt hp),Int.ediv_le_self m h⟩
 have b2:a<0->a<=a / m/\a / m<0:=fun h=>⟨(Int.le_ediv_iff_mul_le hp).2 (by
  have:=Int.mul_le_mul_of_nonpos_left (a:=a) (b:=m) (c:=1) (by omega) (by omega)
  simpa using this),Int.ediv_neg_of_neg_of_pos h hp⟩
 generalize a / m=r at *
 cases k<;>simp [Lit.wf,IntKind.min,IntKind.max,IntKind.signed,IntKind.bits] at h ⊢<;>omega
theorem aek{P:Program}{op:BinOp}{k k':IntKind}{T:TypeId}{a b n:Int}(h:Dx op k a b=some n)(hs:vU op=true)(hw:(Lit.int k a).wf=true):(Lit.int k n).wf=true/\uJ P (.bin op T) [.int k a,.int k' b] (.int k n):=by
 unfold Dx at h
 cases b with
 | negSucc q=>cases h
 | ofNat q =>
  cases op<;>first
   | (simp only [vU,reduceCtorEq] at hs; done)
   | (injection h with h; subst h; exact⟨wf_wrap _ _,fun x y w=>by simp [eqGuard,binOp,Op.shift]; intro h; omega⟩)
   | (injection h with h; subst h; exact⟨ama hw _,fun x y w=>by simp [eqGuard,binOp,Op.shift]; intro h; omega⟩)
theorem aoJ{cx:Cx}{p:Pr}{xs:List Value}{v:Value}(h:Zu cx p xs=some v)(hg:∀ x∈xs,dR x):dR v/\uJ cx.P p xs v:=by
 unfold Zu at h;split at h
 . rename_i src dst
   split at h
   . rename_i ns h1 h2
     injection h with h;subst h;refine⟨trivial,fun w A m c hm hc=>?_⟩;unfold akS at h1
     cases hs:sliceOf cx src with
     | none=>rw [hs] at h1; cases h1
     | some e =>
      rw [hs] at h1;simp only [Bool.and_eq_true] at h1;obtain⟨h3,h4⟩:=h1
      have t1:cx.P.underlying src=some (.slice e):=by
       unfold sliceOf at hs
       cases ht:bV cx.P src with
       | none=>rw [ht] at hs; cases hs
       | some i =>
        rw [ht] at hs;simp only [] at hs;have:=vW ht;split at hs
        . rename_i e' hd; injection hs with hs; subst hs; rw [this,hd]
        . cases hs
      have t2:cx.P.underlying e=some (.int .u8):=by
       unfold aoI at h3;split at h3
       . rename_i hk
         unfold kindOf at hk
         cases ht:bV cx.P e with
         | none=>rw [ht] at hk; cases hk
         | some i =>
          rw [ht] at hk;simp only [] at hk;have:=vW ht;split at hk
          . rename_i e' hd; injection hk with hk; subst hk; rw [this,hd]
          . cases hk
       . cases h3
      have t3:cx.P.underlying dst=some .string:=by
       unfold isStr at h4
       cases ht:bV cx.P dst with
       | none=>rw [ht] at h4; cases h4
       | some i =>
        rw [ht] at h4;simp only [] at h4;have:=vW ht;split at h4
        . rename_i hd; rw [this,hd]
        . cases h4
      rw [run_convert_bytes_string w src dst e _ _ _ t1 t2 t3];have e2:=UN h2;subst e2;refine run_bytesToString w A m c ns ?_;rw [<- hm];exact run_loadCells_list w A _ hc
   . cases h
 . rename_i op T k a k' b
   cases hsh:vU op with
   | true =>
    rw [hsh] at h;simp only [cond_true] at h
    cases hq:Dx op k a b with
    | none=>rw [hq] at h; cases h
    | some n =>
     rw [hq] at h;injection h with h;subst h;exact aek hq hsh (hg (.int k a) (by simp))
   | false =>
   rw [hsh] at h;simp only [cond_false] at h;split at h
   . rename_i hk
     subst hk
     have dv:∀ {z v:Value},(bif b==0 then none else some z)=some v->b≠0/\z=v:=fun {z v} h=>by
      by_cases hb:b=0
      . subst hb; cases h
      . have:(b==0)=false:=by simpa using hb
        rw [this] at h;injection h with h;exact⟨hb,h⟩
     split at h
     . injection h with h; subst h
       exact⟨wf_wrap _ _,fun x y w=>by simp [eqGuard,binOp,intBits_and]⟩
     . injection h with h; subst h
       exact⟨wf_wrap _ _,fun x y w=>by simp [eqGuard,binOp,intBits_or]⟩
     . injection h with h; subst h
       exact⟨wf_wrap _ _,fun x y w=>by simp [eqGuard,binOp,intBits_xor]⟩
     . injection h with h; subst h
       exact⟨wf_wrap _ _,fun x y w=>by simp [eqGuard,binOp,intBits_andNot]⟩
     . injection h with h; subst h
       exact⟨wf_wrap _ _,fun x y w=>by simp [eqGuard,binOp,Op.intArith]⟩
     . injection h with h; subst h
       exact⟨wf_wrap _ _,fun x y w=>by simp [eqGuard,binOp,Op.intArith]⟩
     . injection h with h; subst h
       exact⟨wf_wrap _ _,fun x y w=>by simp [eqGuard,binOp,Op.intArith]⟩
     . obtain⟨hb,rfl⟩:=dv h
       exact⟨wf_wrap _ _,fun x y w=>by simp [eqGuard,binOp,Op.intDiv,hb]⟩
     . obtain⟨hb,rfl⟩:=dv h
       have ha:(Lit.int k a).wf=true:=hg (.int k a) (by simp)
       have hw:k.wrap (a.tmod b)=a.tmod b:=by
        have hq:(a.tmod b).natAbs<=a.natAbs:=by
         rw [Int.natAbs_tmod]; exact Nat.mod_le _ _
        have hs:0<=a->0<=a.tmod b:=fun h=>Int.tmod_nonneg b h
        have hs':a<=0->a.tmod b<=0:=fun h=>by
         have:=Int.tmod_nonneg b (a:=-a) (by omega);rw [Int.neg_tmod] at this; omega
        generalize a.tmod b=r at *
        cases k<;>simp [Lit.wf,IntKind.min,IntKind.max,IntKind.signed,IntKind.bits,IntKind.wrap] at ha ⊢<;>(try split)<;>omega
       refine⟨wf_wrap _ _,fun x y w=>by rw [hw]; simp [eqGuard,binOp,Op.intDiv,hb]⟩
     . cases h
   . cases h
 . rename_i k a k' b
   split at h
   . rename_i hk
     subst hk;injection h with h;subst h;refine⟨?_,fun w=>by simp [Builtin.min2,Sem.run_pure]⟩;have h1:dR (.int k a):=hg (.int k a) (by simp);have h2:dR (.int k b):=hg (.int k b) (by simp);split
     . exact h2
     . exact h1
   . cases h
 . rename_i src dst k n
   cases h1:kindOf cx src with
   | none=>rw [h1] at h; cases h
   | some k1 =>
    cases h2:kindOf cx dst with
    | none=>rw [h1,h2] at h; cases h
    | some k2 =>
     rw [h1,h2] at h;injection h with h;subst h;refine⟨wf_wrap _ _,fun w=>?_⟩;have u1:=wY (w:=w) h1;have u2:=wY (w:=w) h2;simp only [convert,Sem.run_bind,u1,u2,Result.andThen_ok,Conv.intToInt,Sem.run_pure]
 . cases h
theorem Ae{ρ τ:List Value}(h:eP ρ)(h':eP τ):eP (ρ++τ):=fun v hv=>(List.mem_append.1 hv).elim (h v) (h' v)
def Nl(P:Program)(K:World->Prop)(tab:Tab):Prop:=∀ f us v,tab f us=some v->(∀ u∈us,good1 u)->iy v/\∀ w:World,K w->Calls P f us.toArray w fun e w'=>e=.returned v/\ah w w' []
def kF (P:Program) (K:World->Prop):Ob->Prop
 | .call f args v=>∀ w:World,K w->Calls P f args.toArray w fun e w'=>e=.returned v/\ah w w' []
 | .test p xs v=>uJ P p xs v
theorem tZ{cx:Cx}{tab:Tab}{K:World->Prop}{M:f_ cx.P}(hM:∀ s f cas v,(∀(w:World) (args:List Value),K w->b_ [] w args cas->Calls cx.P f args.toArray w fun e w'=>e=.returned v/\ah w w' [])->M.step s f cas v s)(hT:Nl cx.P K tab):∀ {δ:List Ev} {ρ ρ':List Value} {obs obs':List Ob},tY cx tab δ ρ obs=some (ρ',obs')->eP ρ->(∀ ob∈obs',kF cx.P K ob) ->
 (∃ τ,ρ'=ρ++τ)/\eP ρ'/\(∀ ob∈obs,kF cx.P K ob)/\∀ ρF,Ext ρ' ρF->∀ s,gX M ρF δ s s
 | [],ρ,ρ',obs,obs',h,hg,ho=>by
  unfold tY at h;injection h with h; injection h with h1 h2;subst h1 h2;exact⟨⟨[],by simp⟩,hg,ho,fun _ _ _=>rfl⟩
 | .loop _ _ _ _ _::_,ρ,ρ',obs,obs',h,hg,ho=>by unfold tY at h; cases h
 | .call f args out::l,ρ,ρ',obs,obs',h,hg,ho=>by
  unfold tY at h
  cases hc:BI ρ args with
  | none=>rw [hc] at h; cases h
  | some us =>
   rw [hc] at h;simp only [] at h;obtain⟨hu,hargs⟩:=UR (P:=cx.P) hg hc
   cases ht:tab f us with
   | some v =>
    rw [ht] at h;simp only [] at h;obtain⟨hgv,hcall⟩:=hT f us v ht hu
    cases hb:Jc out v ρ with
    | none=>rw [hb] at h; cases h
    | some ρ1 =>
     rw [hb] at h;simp only [oG] at h;obtain⟨τ1,rfl,g1,c1⟩:=UQ hb;obtain⟨⟨τ,rfl⟩,h2,h3,h4⟩:=tZ hM hT (δ:=l) h (Ae hg (g1 hgv)) ho;refine⟨⟨τ1++τ,by simp⟩,h2,h3,fun ρF hF s=>⟨s,hM s _ _ _ ?_,h4 ρF hF s⟩⟩;intro w xs hK hxs;have e1:=hargs ρF hF.of_append.of_append w xs hxs;subst e1;rw [c1 ρF hF.of_append];exact hcall w hK
   | none =>
    rw [ht] at h;simp only [] at h
    cases hk:out.known (aF ρ) with
    | false=>rw [hk] at h; cases h
    | true =>
     rw [hk] at h;obtain⟨⟨τ,rfl⟩,h2,h3,h4⟩:=tZ hM hT (δ:=l) h hg ho;refine⟨⟨τ,rfl⟩,h2,fun ob hob=>h3 ob (by simp [hob]),fun ρF hF s=>⟨s,hM s _ _ _ ?_,h4 ρF hF s⟩⟩;intro w xs hK hxs;have e1:=hargs ρF hF.of_append w xs hxs;subst e1;rw [yX hF.of_append out hk];have h5:kF cx.P K (.call f xs (out.aA (dV ρ))):=h3 _ (by simp);exact h5 w hK
 | .yx p xs out::l,ρ,ρ',obs,obs',h,hg,ho=>by
  unfold tY at h
  cases hx:kU (aF ρ) xs with
  | false=>rw [hx] at h; cases h
  | true =>
   rw [hx] at h;simp only [cond_true] at h
   cases hp:Zu cx p (ay (dV ρ) xs) with
   | some v =>
    rw [hp] at h;simp only [] at h
    have hgx:∀ x∈ay (dV ρ) xs,dR x:=fun x hx'=>by
     rw [cO] at hx';obtain⟨q,hq,rfl⟩:=List.mem_map.1 hx';have hkq:=Nk hx q hq;refine Yu hg hkq ?_
     have:∀ {xs:List Value},Zu cx p xs=some v->∀ x∈xs,x.oneCell'=true:=fun {xs} h x hx=>by
      unfold Zu at h;split at h
      . split at h
        . rename_i ns h1 h2
          rw [UN h2] at hx;obtain⟨n,_,rfl⟩:=List.mem_map.1 hx;rfl
        . cases h
      . simp at hx; rcases hx with rfl | rfl<;>rfl
      . simp at hx; rcases hx with rfl | rfl<;>rfl
      . simp at hx; subst hx; rfl
      . cases h
     exact this hp _ (by rw [cO]; exact List.mem_map.2 ⟨q,hq,rfl⟩)
    obtain⟨hgv,hpr⟩:=aoJ hp hgx
    cases hb:Jc out v ρ with
    | none=>rw [hb] at h; cases h
    | some ρ1 =>
     rw [hb] at h;simp only [oG] at h;obtain⟨τ1,rfl,g1,c1⟩:=UQ hb;obtain⟨⟨τ,rfl⟩,h2,h3,h4⟩:=tZ hM hT (δ:=l) h (Ae hg (g1 (.inl (.inl hgv)))) ho;refine⟨⟨τ1++τ,by simp⟩,h2,h3,fun ρF hF s=>⟨s,⟨?_,rfl⟩,h4 ρF hF s⟩⟩;rw [c1 ρF hF.of_append,jq hF.of_append.of_append xs hx];exact hpr
   | none =>
    rw [hp] at h;simp only [] at h;split at h
    . rename_i b
      simp only [oG] at h;have hgb:eP [Value.bool b]:=fun v hv=>by simp at hv; subst hv; trivial
      obtain⟨⟨τ,rfl⟩,h2,h3,h4⟩:=tZ hM hT (δ:=l) h (Ae hg hgb) ho;refine⟨⟨[.bool b]++τ,by simp⟩,h2,fun ob hob=>h3 ob (by simp [hob]),fun ρF hF s=>⟨s,⟨?_,rfl⟩,h4 ρF hF s⟩⟩;rw [jq hF.of_append.of_append xs hx];have h5:kF cx.P K (.test p (ay (dV ρ) xs) (.bool b)):=h3 _ (by simp);exact h5
    . cases h
theorem amb{cx:Cx}{tab:Tab}(hT:abd cx.P tab){δ:List Ev}{ρ ρ':List Value}{obs obs':List Ob}(h:tY cx tab δ ρ obs=some (ρ',obs'))(hg:eP ρ)(ho:∀ ob∈obs',lJ cx.P ob) :
 (∃ τ,ρ'=ρ++τ)/\eP ρ'/\(∀ ob∈obs,lJ cx.P ob)/\∀ ρF,Ext ρ' ρF->gX (EF cx.P) ρF δ () ():=by
 obtain ⟨h1,h2,h3,h4⟩:=tZ (K:=fun _ => True) (M:=EF cx.P) (fun s f cas v hs w args ha => hs w args trivial ha) (fun f us v ht hu => ⟨(hT f us v ht hu).1,fun w _ => (hT f us v ht hu).2 w⟩) h hg (fun ob hob => by
  have:=ho ob hob
  cases ob with
  | call f args v=>exact fun w _=>this w
  | test p xs v=>exact this)
 exact ⟨h1,h2,fun ob hob => by
  have:=h3 ob hob
  cases ob with
  | call f args v=>exact fun w=>this w trivial
  | test p xs v=>exact this,fun ρF hF=>h4 ρF hF ()⟩
def bF(cx:Cx)(tab:Tab)(fuel:Nat)(f:FuncId)(args:List AV)(ins:List Value):Option (Value×List Ob) :=
 match iK cx fuel f args ⟨.nil,0,aF ins⟩ with
 | some (v,_,δ)=>bif v.lt 0&&iE 0 args&&kU (aF ins) args then(match tY cx tab δ ins [] with
  | some (ρ,obs)=>bif v.known (aF ρ) then some (v.aA (dV ρ),obs) else none
  | none=>none) else none
 | none=>none
theorem abf{cx:Cx}{tab:Tab}{fuel:Nat}{f:FuncId}{args:List AV}{ins:List Value}{out:Value}{obs:List Ob}(fG:cx.P.follows .mixedOrders=true)(hmt:vZ cx)(hT:abd cx.P tab)
 (h:bF cx tab fuel f args ins=some (out,obs)) (hg:eP ins) (ho:∀ ob∈obs,lJ cx.P ob) (w:World) (hvn:∀ i,cx.vw i=none:=by intro i; rfl) :
 Calls cx.P f (ay (dV ins) args).toArray w fun e w'=>e=.returned out/\ah w w' []:=by
 unfold bF at h
 cases hc:iK cx fuel f args ⟨.nil,0,aF ins⟩ with
 | none=>rw [hc] at h; cases h
 | some q =>
  obtain⟨v,g',δ⟩:=q;rw [hc] at h;simp only [] at h
  cases hk:(v.lt 0&&iE 0 args&&kU (aF ins) args) with
  | false=>rw [hk] at h; cases h
  | true =>
   rw [hk] at h;simp only [cond_true] at h;simp only [Bool.and_eq_true] at hk;obtain⟨⟨k1,k2⟩,k3⟩:=hk
   cases hr:tY cx tab δ ins [] with
   | none=>rw [hr] at h; cases h
   | some q2 =>
    obtain⟨ρ,obs'⟩:=q2;rw [hr] at h;simp only [] at h
    cases hkv:v.known (aF ρ) with
    | false=>rw [hkv] at h; cases h
    | true =>
     rw [hkv] at h;injection h with h; injection h with h1 h2;subst h1 h2;obtain⟨⟨τ,hτ⟩,hgρ,_,hrun⟩:=amb hT hr hg ho
     have hF:Ext ρ (dV ρ).ρ:=fun i x hx=>by
      show ρ.getD i _=x;simp [List.getD,hx]
     have hone:∀ i,((dV ρ).ρ i).oneCell'=true:=fun i=>by
      show(ρ.getD i _).oneCell'=true;by_cases hi:i<ρ.length
      . simp only [List.getD,List.getElem?_eq_getElem hi,Option.getD_some]
        exact G8 (hgρ _ (List.getElem_mem hi))
      . simp [List.getD,List.getElem?_eq_none (by omega:ρ.length<=i),Value.oneCell']
     obtain⟨_,hcall⟩:=z_ (M:=EF cx.P) (ρv:=(dV ρ).ρ) fG hmt hone (tX.none hvn) fuel |>.2 f args ⟨.nil,0,aF ins⟩ v g' δ hc;have hrep:Rep (EF cx.P) (dV ρ) () (⟨.nil,0,aF ins⟩:G).at 0 w:=⟨trivial,(fun b B hb=>by have:=dQ hb; cases this),(fun b b' B B' hb=>by have:=dQ hb; cases this),(fun b B hb=>by have:=dQ hb; cases this),(fun b B hb=>dQ hb)⟩
     have hcl:=hcall (dV ρ) () () w rfl hrep (fun u hu=>by
      unfold AV.lt;rw [aI,pow_eq];refine dP fun q hq=>?_;have:=kE k2 (fF hu hq)
      omega) (hrun _ hF)
     have Np:Ext ins (dV ρ).ρ:=by subst hτ; exact hF.of_append
     have eargs:ay (dV ρ) args=ay (dV ins) args:=jq Np args k3;rw [eargs] at hcl;refine hcl.mono ?_;rintro e w' ⟨E',rfl,hw⟩;refine⟨by rw [n_ (E:=dV ρ) (E':=E') k1 hw.rho],?_⟩;refine Fr.aj (hw.fr.more fun k _ hk=>?_);rcases hk with hk | ⟨b,B,hb,_⟩
     . exact hk
     . have:=dQ hb; cases this
