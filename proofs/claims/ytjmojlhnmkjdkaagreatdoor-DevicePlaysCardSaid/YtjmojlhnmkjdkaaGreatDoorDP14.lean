/- Texts of this claim, side by side. -/
import Derived.Test.YtjmojlhnmkjdkaaGreatDoorXiVD
import Derived.Test.YtjmojlhnmkjdkaaGreatDoorDP10
set_option linter.unusedVariables false
set_option linter.unusedSimpArgs false
set_option maxRecDepth 100000
namespace Go.Proofs.YtjmojlhnmkjdkaaGreatDoor
namespace Xi
open Go Go.RowKit
structure eG where
 f:FuncId
 fn:List Value->Option Value
 ok:∀ us v,fn us=some v->(∀ u∈us,good1 u)->iy v/\∀ w:World,Calls Tryz.prog f us.toArray w fun e w'=>e=.returned v/\ah w w' []
def aZ:List eG->Tab
 | [],_,_=>none
 | e::l,f,us=>bif Nat.beq e.f f then e.fn us else aZ l f us
theorem V9:∀ l:List eG,abd Tryz.prog (aZ l)
 | [],f,us,v,h,hg=>by cases h
 | e::l,f,us,v,h,hg=>by
  unfold aZ at h
  cases hb:Nat.beq e.f f with
  | true =>
   rw [hb] at h;obtain rfl:=beq_iff.1 hb;exact e.ok us v h hg
  | false =>
   rw [hb] at h;exact V9 l f us v h hg
inductive Sh where
 | one
 | agg (n:Nat)
 | two (a b:Sh)
 | three (a b c:Sh)
def bQ:Nat->Nat->List AV
 | 0,_=>[]
 | n+1,i=>.opq i::bQ n (Nat.succ i)
def Sh.mk:Sh->Nat->AV×Nat
 | .one,nv=>(.opq nv,1)
 | .agg n,nv=>(.agg (bQ n nv),n)
 | .two a b,nv=>match Sh.mk a nv with | (x,i)=>match Sh.mk b (nv+i) with | (y,j)=>(.jm [x,y],i+j)
 | .three a b c,nv=>match Sh.mk a nv with | (x,i)=>match Sh.mk b (nv+i) with | (y,j)=>match Sh.mk c (nv+i+j) with | (z,k)=>(.jm [x,y,z],i+j+k)
def aqg:List (FuncId×Sh)->FuncId->Option Sh
 | [],_=>none
 | (g,s)::l,f=>bif Nat.beq g f then some s else aqg l f
def ak_:List (FuncId×AV)->FuncId->Option AV
 | [],_=>none
 | (g,s)::l,f=>bif Nat.beq g f then some s else ak_ l f
def aqh:List (Nat×Bool)->Nat->Option Bool
 | [],_=>none
 | (g,s)::l,f=>bif Nat.beq g f then some s else aqh l f
noncomputable def dn (lits:List (FuncId×AV)) (shs:List (FuncId×Sh)) (br:List (Nat×Bool)):Cx where
 P:=Tryz.prog
 ev:=fun f _ nv=>match ak_ lits f with
  | some a=>some (a,0)
  | none=>match aqg shs f with
   | some s=>some (s.mk nv)
   | none=>none
 lp:=fun _=>false
 mt:=fun _ _=>none
 br:=aqh br
theorem aG{lits:List (FuncId×AV)}{shs:List (FuncId×Sh)}{br:List (Nat×Bool)}(l:List eG){fuel:Nat}{f:FuncId}{args:List AV}{ins:List Value}{out:Value}{obs:List Ob}
 (h:bF (dn lits shs br) (aZ l) fuel f args ins=some (out,obs)) (hg:eP ins) (ho:∀ ob∈obs,lJ Tryz.prog ob) (w:World) :
 Calls Tryz.prog f (ay (dV ins) args).toArray w fun e w'=>e=.returned out/\ah w w' [] :=
 abf (cx:=dn lits shs br) (by kernel_rfl) (fun t n g h=>by cases h) (V9 l) h hg ho w
theorem g_ (x:Wd):dR (.int .i32 x.v):=by
 have:=x.ok;unfold aB at this;simp only [dR,Lit.wf,IntKind.min,IntKind.max,IntKind.signed,IntKind.bits];simp;omega
theorem aQ(x:Wd):kW x.v=x:=Wd.dw (jl x.ok)
theorem NV {n:Int} (h:dR (.int .i32 n)):aB n:=by
 simp only [dR,Lit.wf,IntKind.min,IntKind.max,IntKind.signed,IntKind.bits] at h;simp at h;unfold aB;omega
theorem uz{n:Int}(h:dR (.int .i32 n)):(kW n).v=n:=jl (NV h)
theorem h_ {k:IntKind} {n:Int} (h:good1 (.int k n)):dR (.int k n):=by
 rcases h with h | ⟨ds,h,_⟩
 . exact h
 . cases h
theorem uX {n:Int} (h:dR (.int .i64 n)):-9223372036854775808<=n/\n<=9223372036854775807:=by
 simp only [dR,Lit.wf,IntKind.min,IntKind.max,IntKind.signed,IntKind.bits] at h;simp at h;omega
theorem DW {n:Int} (h:-9223372036854775808<=n/\n<=9223372036854775807):dR (.int .i64 n):=by
 simp only [dR,Lit.wf,IntKind.min,IntKind.max,IntKind.signed,IntKind.bits];simp;omega
def f1 (R:Wd->Value):List Value->Option Value
 | [.int .i32 a]=>some (R (kW a))
 | _=>none
def f2 (R:Wd->Wd->Value):List Value->Option Value
 | [.int .i32 a,.int .i32 b]=>some (R (kW a) (kW b))
 | _=>none
def f3 (R:Wd->Wd->Wd->Value):List Value->Option Value
 | [.int .i32 a,.int .i32 b,.int .i32 c]=>some (R (kW a) (kW b) (kW c))
 | _=>none
def g1 (R:Int->Value):List Value->Option Value
 | [.int .i64 a]=>some (R a)
 | _=>none
def Fb(f:FuncId)(R:Wd->Value)(hR:∀ a,iy (R a))(h:∀(a:Wd) (w:World),Calls Tryz.prog f #[.int .i32 a.v] w fun e w'=>e=.returned (R a)/\ah w w' []):eG where
 f:=f
 fn:=f1 R
 ok:=fun us v hv hg=>by
  unfold f1 at hv;split at hv
  . rename_i a
    injection hv with hv;subst hv;have ha:=uz (h_ (hg (.int .i32 a) (by simp)));refine⟨hR _,fun w=>?_⟩;have:=h (kW a) w;rw [ha] at this;exact this
  . cases hv
def AX(f:FuncId)(R:Wd->Wd->Value)(hR:∀ a b,iy (R a b))(h:∀(a b:Wd) (w:World),Calls Tryz.prog f #[.int .i32 a.v,.int .i32 b.v] w fun e w'=>e=.returned (R a b)/\ah w w' []):eG where
 f:=f
 fn:=f2 R
 ok:=fun us v hv hg=>by
  unfold f2 at hv;split at hv
  . rename_i a b
    injection hv with hv;subst hv;have ha:=uz (h_ (hg (.int .i32 a) (by simp)));have hb:=uz (h_ (hg (.int .i32 b) (by simp)));refine⟨hR _ _,fun w=>?_⟩;have:=h (kW a) (kW b) w;rw [ha,hb] at this;exact this
  . cases hv
def aw7(f:FuncId)(R:Wd->Wd->Wd->Value)(hR:∀ a b c,iy (R a b c))(h:∀(a b c:Wd) (w:World),Calls Tryz.prog f #[.int .i32 a.v,.int .i32 b.v,.int .i32 c.v] w fun e w'=>e=.returned (R a b c)/\ah w w' []):eG where
 f:=f
 fn:=f3 R
 ok:=fun us v hv hg=>by
  unfold f3 at hv;split at hv
  . rename_i a b c
    injection hv with hv;subst hv;have ha:=uz (h_ (hg (.int .i32 a) (by simp)));have hb:=uz (h_ (hg (.int .i32 b) (by simp)));have hc:=uz (h_ (hg (.int .i32 c) (by simp)));refine⟨hR _ _ _,fun w=>?_⟩;have:=h (kW a) (kW b) (kW c) w;rw [ha,hb,hc] at this;exact this
  . cases hv
theorem gK (x:Wd):iy (.int .i32 x.v):=.inl (.inl (g_ x))
theorem LP {n:Int} (h:-9223372036854775808<=n/\n<=9223372036854775807):iy (.int .i64 n):=.inl (.inl (DW h))
def ala(f:FuncId)(R:Int->Value)(h:∀ a:Int,-9223372036854775808<=a/\a<=9223372036854775807->iy (R a)/\∀ w:World,Calls Tryz.prog f #[.int .i64 a] w fun e w'=>e=.returned (R a)/\ah w w' []):eG where
 f:=f
 fn:=g1 R
 ok:=fun us v hv hg=>by
  unfold g1 at hv;split at hv
  . rename_i a
    injection hv with hv;subst hv;exact h a (uX (h_ (hg (.int .i64 a) (by simp))))
  . cases hv
end Xi

namespace Xi
open Go Go.RowKit
theorem b_.nil {fp:List Nat} {w:World}:∀ {l:List Value} {cs:List CA},b_ fp w l cs->b_ [] w l cs
 | [],[],_=>trivial
 | a::l,.v x::cs,h=>⟨h.1,b_.nil h.2⟩
 | a::l,.l xs::cs,h=>⟨⟨h.1.1,fun _ _ _ _ hm=>by cases hm⟩,b_.nil h.2⟩
 | [],_::_,h=>h.elim
 | _::_,[],h=>h.elim
def BX(P:Program)(w0:World)(fps:List Nat)(K:World->Prop)(hK:∀ w:World,(∀ k∈fps,k<w.heap.size/\w.heap[k]?=w0.heap[k]?)->K w):f_ P where
 σ:=Unit
 I:=fun _ w=>∀ k∈fps,k<w.heap.size/\w.heap[k]?=w0.heap[k]?
 fp:=fun _ _=>fps
 lt:=fun _ w h d hd=>(h d hd).1
 keep:=fun _ w w' D h hf hD=>⟨fun k hk=>⟨Nat.lt_of_lt_of_le (h k hk).1 hf.size,(hf.block k (h k hk).1 (fun hd=>hD k hd hk)).trans (h k hk).2⟩,rfl⟩
 step:=fun _ f cas v _=>∀(w:World) (args:List Value),K w->b_ [] w args cas->Calls P f args.toArray w fun e w'=>e=.returned v/\ah w w' []
 GN:=fun _ _ _ _ _ _=>False
 fin:=fun _ _ _ _=>False
 step_ok:=fun s w f args cas v s' hI ha hs=>(hs w args (hK w hI) ha.nil).mono fun e w' ⟨he,hc⟩ =>
  ⟨he,fun k hk=>⟨Nat.lt_of_lt_of_le (hI k hk).1 hc.size,(hc.block k (hI k hk).1 (by simp)).trans (hI k hk).2⟩,((Fr.DC hc).more (fun _ _ h=>(by cases h))),fun d hd=>.inl hd⟩
 I_:=fun _ _ _ _ _ _ _ _ _ _ _ _ _ hb=>hb.elim
def Dj (vws:List (List AV)) (i:Nat):Option (List AV):=bif Nat.ble 1000000 i then nth vws (i - 1000000) else none
noncomputable def NW (lits:List (FuncId×AV)) (shs:List (FuncId×Sh)) (br:List (Nat×Bool)) (vws:List (List AV)):Cx:={ dn lits shs br with vw:=Dj vws }
def xq(g:G):AV->Option (Bool×List EA)
 | .jm vs=>match eargs g vs with | some l=>some (true,l) | none=>none
 | v=>match GI g v with | some x=>some (false,[x]) | none=>none
def LQ:Bool->List Value->Value
 | true,vs=>.tuple vs.toArray
 | false,[v]=>v
 | false,_=>undef
def EA.kn (n:Nat):EA->Bool
 | .v (.lit _)=>true
 | .v a=>a.known n
 | .l cs=>kU n cs
def ZY (n:Nat):List EA->Bool
 | []=>true
 | x::l=>x.kn n&&ZY n l
mutual
def inV (n:Nat):AV->Bool
 | .lit _=>true
 | .opq i=>Nat.blt i n
 | .vw i _ _=>Nat.ble 1000000 i
 | .agg cs=>wM n cs
 | .jm vs=>wM n vs
 | .fn _ a c=>wM n a&&wM n c
 | .qC _ v=>inV n v
 | _=>false
def wM (n:Nat):List AV->Bool
 | []=>true
 | v::l=>inV n v&&wM n l
end
def okV (n:Nat):List (List AV)->Bool
 | []=>true
 | cs::l=>iE 0 cs&&kU n cs&&Nat.ble 1 (aF cs)&&okV n l
def AY(cx:Cx)(tab:Tab)(fuel:Nat)(f:FuncId)(vws:List (List AV))(args:List AV)(ins:List Value):Option (Bool×List CA×List Ob) :=
 match iK cx fuel f args ⟨.nil,0,aF ins⟩ with
 | some (v,g,δ)=>bif iE 0 args&&wM (aF ins) args&&okV (aF ins) vws then(match tY cx tab δ ins [] with
  | some (ρ,obs)=>bif Nat.ble (aF ρ) 1000000 then(match xq g v with
   | some (t,xs)=>bif ZY (aF ρ) xs then some (t,xs.map (EA.aA (dV ρ)),obs) else none
   | none=>none) else none
  | none=>none) else none
 | none=>none
def ρS(ρ:List Value)(ss:List Value)(i:Nat):Value:=if i<ρ.length then ρ.getD i (.int .i64 0) else ss.getD (i - 1000000) (.int .i64 0)
theorem V_(ρ ss:List Value):Ext ρ (ρS ρ ss):=fun i v h=>by
 have hi:i<ρ.length:=(List.getElem?_eq_some_iff.1 h).1;unfold ρS;rw [if_pos hi,List.getD,h]; rfl
mutual
theorem Wh{ins τ ss:List Value}(hl:(ins++τ).length<=1000000):∀(a:AV),inV (aF ins) a=true->a.aA (E0 (ρS (ins++τ) ss))=a.aA (E0 (ρS ins ss))
 | .lit v,_=>rfl
 | .opq i,h=>by
  have hi:i<ins.length:=by have:Nat.blt i (aF ins)=true:=h; rwa [aI] at this
  show ρS (ins++τ) ss i=ρS ins ss i;unfold ρS;rw [if_pos hi,if_pos (by simp; omega),List.getD,List.getD,List.getElem?_append_left hi]
 | .vw i o n,h=>by
  have hi:1000000<=i:=bn.1 h;show MI (ρS (ins++τ) ss i) o n=MI (ρS ins ss i) o n;unfold ρS;have:ins.length<=(ins++τ).length:=by simp
  rw [if_neg (by omega),if_neg (by omega)]
 | .agg cs,h=>by simp only [AV.aA]; rw [oq hl cs h]
 | .jm vs,h=>by simp only [AV.aA]; rw [oq hl vs h]
 | .fn f a c,h=>by
  have h':(wM (aF ins) a&&wM (aF ins) c)=true:=h;rw [Bool.and_eq_true] at h';simp only [AV.aA]; rw [oq hl a h'.1,oq hl c h'.2]
 | .ptr _ _,h=>by cases h
 | .slc _ _ _ _,h=>by cases h
 | .row _ _,h=>by cases h
 | .qC t v,h=>by
  have h':inV (aF ins) v=true:=h;simp only [AV.aA]; rw [Wh hl v h']
 | .vp _ _,h=>by cases h
theorem oq{ins τ ss:List Value}(hl:(ins++τ).length<=1000000):∀(l:List AV),wM (aF ins) l=true->ay (E0 (ρS (ins++τ) ss)) l=ay (E0 (ρS ins ss)) l
 | [],_=>rfl
 | v::l,h=>by
  simp only [wM,Bool.and_eq_true] at h;simp only [ay];rw [Wh hl v h.1,oq hl l h.2]
end
theorem NY{n:Nat}:∀ {l:List (List AV)} {i:Nat} {cs:List AV},okV n l=true->l[i]?=some cs->iE 0 cs=true/\kU n cs=true/\1<=cs.length
 | [],i,cs,h,hi=>by cases hi
 | x::l,0,cs,h,hi=>by
  injection hi with hi;subst hi;simp only [okV,Bool.and_eq_true,bn,aF] at h;exact⟨h.1.1.1,h.1.1.2,h.1.2⟩
 | x::l,i+1,cs,h,hi=>by
  simp only [okV,Bool.and_eq_true] at h;exact NY (l:=l) (i:=i) h.2 (by simpa using hi)
theorem LU{ρ:List Value}{ρF:Nat->Value}(hF:Ext ρ ρF):∀ {xs:List EA},ZY (aF ρ) xs=true->xs.map (EA.aA (E0 ρF))=xs.map (EA.aA (dV ρ))
 | [],_=>rfl
 | x::l,h=>by
  simp only [ZY,Bool.and_eq_true] at h;simp only [List.map_cons];rw [LU hF h.2];congr 1
  cases x with
  | l cs=>simp only [EA.aA]; rw [jq hF cs h.1]
  | v a =>
   cases a with
   | lit v=>rfl
   | _=>simp only [EA.aA]; rw [yX hF _ h.1]
def dU:Value->Option Nat
 | .slice (some ⟨b,_,none⟩) _ _=>some b
 | _=>none
theorem NZ{cx:Cx}{tab:Tab}{fuel:Nat}{f:FuncId}{vws:List (List AV)}{args:List AV}{ins:List Value}{t:Bool}{cas:List CA}{obs:List Ob}(fG:cx.P.follows .mixedOrders=true)(hmt:vZ cx){K:World->Prop}(hT:Nl cx.P K tab)(hvw:cx.vw=Dj vws)
 (h:AY cx tab fuel f vws args ins=some (t,cas,obs)) (hg:eP ins) (ho:∀ ob∈obs,kF cx.P K ob) (w:World) (gs:List Nat) (hgs:∀ k∈gs,k<w.heap.size) (hK:∀ w1:World,(∀ k∈gs,w1.heap[k]?=w.heap[k]?)->K w1) (ss:List Value)
 (hss:∀(i:Nat) cs,vws[i]?=some cs->∃ v,ss[i]?=some v/\Sl w v (ay (dV ins) cs)) (h1:∀ v∈ss,v.oneCell'=true) {vals:List Value} (hvs:ay (E0 (ρS ins ss)) args=vals) :
 Calls cx.P f vals.toArray w fun e w'=>(∃ us,b_ [] w' us cas/\e=.returned (LQ t us))/\ah w w' []:=by
 unfold AY at h
 cases hc:iK cx fuel f args ⟨.nil,0,aF ins⟩ with
 | none=>rw [hc] at h; cases h
 | some q =>
  obtain⟨v,g',δ⟩:=q;rw [hc] at h;simp only [] at h
  cases hk:(iE 0 args&&wM (aF ins) args&&okV (aF ins) vws) with
  | false=>rw [hk] at h; cases h
  | true =>
   rw [hk] at h;simp only [cond_true] at h;simp only [Bool.and_eq_true] at hk;obtain⟨⟨k1,k2⟩,k3⟩:=hk
   cases hr:tY cx tab δ ins [] with
   | none=>rw [hr] at h; cases h
   | some q2 =>
    obtain⟨ρ,obs'⟩:=q2;rw [hr] at h;simp only [] at h
    cases hlen:Nat.ble (aF ρ) 1000000 with
    | false=>rw [hlen] at h; cases h
    | true =>
     rw [hlen] at h;rw [bn] at hlen;unfold aF at hlen;simp only [cond_true] at h
     cases he:xq g' v with
     | none=>rw [he] at h; cases h
     | some q3 =>
      obtain⟨t',xs⟩:=q3;rw [he] at h;simp only [] at h
      cases hx:ZY (aF ρ) xs with
      | false=>rw [hx] at h; cases h
      | true =>
       rw [hx] at h;injection h with h; injection h with e1 h; injection h with e2 e3;subst e1 e2 e3;have N8:∀ w1:World,(∀ k∈gs++((ss.filterMap dU).filter fun b=>decide (b<w.heap.size)),k<w1.heap.size/\w1.heap[k]?=w.heap[k]?)->K w1:=fun w1 h=>hK w1 fun k hk=>(h k (List.mem_append.2 (.inl hk))).2;obtain⟨⟨τ,hτ⟩,hgρ,_,hrun⟩:=tZ (M:=BX cx.P w (gs++((ss.filterMap dU).filter fun b=>decide (b<w.heap.size))) K N8) (fun s f cas v hs=>hs) hT hr hg ho;have hF:Ext ρ (ρS ρ ss):=V_ ρ ss
       have hone:∀ i,(ρS ρ ss i).oneCell'=true:=fun i=>by
        unfold ρS;split
        . rename_i hi
          simp only [List.getD,List.getElem?_eq_getElem hi,Option.getD_some];exact G8 (hgρ _ (List.getElem_mem hi))
        . cases hj:ss[i - 1000000]? with
          | none=>rw [List.getD,hj]; rfl
          | some u=>rw [List.getD,hj]; exact h1 u (List.mem_of_getElem? hj)
       have hvk:∀ i cs,cx.vw i=some cs->∃ b a n c,ρS ρ ss i=.slice (some ⟨b,a,none⟩) n c/\cs.length<=c/\iE 0 cs=true/\b∈ss.filterMap dU/\b<w.heap.size/\∀ k v,cs[k]?=some v->∀ E:Env,E.ρ=ρS ρ ss->w.cell? ⟨b,a+k,none⟩=some (v.aA E):=fun i cs hi=>by
        rw [hvw] at hi;unfold Dj at hi
        cases hb:Nat.ble 1000000 i with
        | false=>rw [hb] at hi; cases hi
        | true =>
         rw [hb] at hi;rw [bn] at hb;simp only [cond_true] at hi;rw [nD] at hi;obtain⟨z1,z2,z3⟩:=NY k3 hi;obtain⟨u,hu,hsl⟩:=hss _ _ hi;obtain⟨A,c,rfl,hcap,hcell⟩:=hsl;rw [aV] at hcap hcell;obtain⟨b,a,rfl,hcell2⟩:=hcell (by omega);refine⟨b,a,cs.length,c,?_,hcap,z1,?_,?_,?_⟩
         . unfold ρS
           rw [if_neg (by omega),List.getD,hu,aV]; rfl
         . exact List.mem_filterMap.2 ⟨_,List.mem_of_getElem? hu,rfl⟩
         . have:=hcell2 0 (by omega)
           unfold World.cell? at this
           cases hb':w.heap[b]? with
           | none =>
            simp only [hb'] at this;rw [eq_comm,List.getElem?_eq_none_iff,aV] at this;omega
           | some o=>exact lt_of_heap hb'
         . intro k y hy E hE
           have hk':k<cs.length:=(List.getElem?_eq_some_iff.1 hy).1;rw [hcell2 k hk',cO,List.getElem?_map,hy];show some (y.aA (dV ins))=some (y.aA E)
           have Np:Ext ins (ρS ρ ss):=by
            have:=hF;rw [hτ] at this ⊢;exact this.of_append
           have e4:ay (E0 (ρS ρ ss)) cs=ay (dV ins) cs:=jq Np cs z2;rw [cO,cO] at e4;have e5:=congrArg (fun l=>l[k]?) e4;simp only [List.getElem?_map,hy,Option.map_some] at e5;rw [<- e5]
           have z4:y.lt 0=true:=by
            unfold AV.lt;rw [aI,pow_eq];refine dP fun q hq=>?_;have:=kE z1 (fF (List.mem_of_getElem? hy) hq);omega
           rw [n_ (E:=E0 (ρS ρ ss)) (E':=E) z4 hE]
       have hI:(BX cx.P w (gs++((ss.filterMap dU).filter fun b=>decide (b<w.heap.size))) K N8).I () w:=fun k hk=>⟨(List.mem_append.1 hk).elim (hgs k) (fun hk=>by have:=(List.mem_filter.1 hk).2; simpa using this),rfl⟩
       obtain ⟨_,hcall⟩:=z_ (M:=BX cx.P w (gs ++ ((ss.filterMap dU).filter fun b => decide (b < w.heap.size))) K N8) (ρv:=ρS ρ ss) fG hmt hone (fun i cs hi => by
        obtain⟨b,a,n,c,y1,y2,y3,y4,y5,y6⟩:=hvk i cs hi;refine⟨b,a,n,c,y1,y2,y3,fun s w1 hw1=>?_⟩;have hm:b∈gs++((ss.filterMap dU).filter fun b=>decide (b<w.heap.size)):=List.mem_append.2 (.inr (List.mem_filter.2 ⟨y4,by simpa using y5⟩));refine⟨hm,fun k u hu E hE=>?_⟩;have:=y6 k u hu E hE;unfold World.cell? at this ⊢;rw [show w1.heap[b]?=w.heap[b]? from(hw1 b hm).2]
        exact this) fuel |>.2 f args ⟨.nil,0,aF ins⟩ v g' δ hc
       have hrep:Rep (BX cx.P w (gs++((ss.filterMap dU).filter fun b=>decide (b<w.heap.size))) K N8) (E0 (ρS ρ ss)) () (⟨.nil,0,aF ins⟩:G).at 0 w:=⟨hI,(fun b B hb=>by have:=dQ hb; cases this),(fun b b' B B' hb=>by have:=dQ hb; cases this),(fun b B hb=>by have:=dQ hb; cases this),(fun b B hb=>dQ hb)⟩
       have hcl:=hcall (E0 (ρS ρ ss)) () () w rfl hrep (fun u hu=>by
        unfold AV.lt;rw [aI,pow_eq];refine dP fun q hq=>?_;have:=kE k1 (fF hu hq)
        omega) (hrun _ hF ())
       have H9:ay (E0 (ρS ρ ss)) args=vals:=by
        rw [<- hvs];subst hτ;exact oq hlen args k2
       rw [H9] at hcl;refine hcl.mono ?_;rintro e w' ⟨E',rfl,hw⟩;refine⟨?_,?_⟩
       . have eρ:E'.ρ=ρS ρ ss:=hw.rho
         have fin:∀ {l:List AV},eargs g' l=some xs->b_ [] w' (ay E' l) (xs.map (EA.aA (dV ρ))):=fun {l} hl=>by
          have:=(uO hw.rep hl).nil;rw [eρ,LU hF hx] at this;exact this
         unfold xq at he;split at he
         . rename_i vs _
           cases hvs':eargs g' vs with
           | none=>rw [hvs'] at he; cases he
           | some l =>
            rw [hvs'] at he;injection he with he; injection he with he1 he2;subst he1 he2;exact⟨_,fin hvs',rfl⟩
         . cases hv':GI g' v with
           | none=>rw [hv'] at he; cases he
           | some x =>
            rw [hv'] at he;injection he with he; injection he with he1 he2;subst he1 he2;exact⟨[v.aA E'],fin (l:=[v]) (by simp only [eargs,hv']),rfl⟩
       . refine⟨hw.fr.os,hw.fr.tape,hw.fr.output,hw.fr.size,fun k hk _=>?_⟩
         by_cases hm:k∈gs++((ss.filterMap dU).filter fun b=>decide (b<w.heap.size))
         . exact(hw.rep.sD k hm).2
         . refine hw.fr.block k hk fun hd=>?_
           rcases hd with hd | ⟨b,B,hb,_⟩
           . exact hm hd
           . have:=dQ hb; cases this
end Xi

namespace Xi
open Go Go.RowKit
theorem acW(x:Wd):-9223372036854775808<=x.v%4294967296/\x.v%4294967296<=9223372036854775807:=by omega
noncomputable def arl:eG:=Fb 242 (fun a=>.int .i64 (a.v%4294967296)) (fun a=>LP (acW a)) (fun a w=>(sW a.v w a.ok).mono fun e w' ⟨he,hw⟩=>⟨he,hw▸ah.refl w []⟩)
noncomputable def acX:eG:=ala 78 (fun x=>.int .i32 (kW x).v) (fun x hx=>⟨gK _,fun w=>(yc x w hx).mono fun e w' ⟨he,hw⟩=>⟨he,hw▸ah.refl w []⟩⟩)
def TY:Nat->Int->List Value
 | 0,_=>[]
 | n+1,y=>.int .i64 (IntKind.i64.wrap (y.tmod 2))::TY n (IntKind.i64.wrap (y.tdiv 2))
theorem ajv(a:Wd):bF (dn [] [(242,.one)] []) (aZ [arl]) 200 179 [.opq 0] [.int .i32 a.v]=some (.agg (TY 32 ((kW a.v).v%4294967296)).toArray,[]):=by kernel_rfl
def mY (y:Int):Nat->Nat->List Int
 | _,0=>[]
 | i,n+1=>y / 2 ^ i%2::mY y (i+1) n
theorem Xu:∀(n i:Nat) (y:Int),0<=y->y<9223372036854775808->TY n (y / 2 ^ i)=(mY y i n).map (.int .i64)
 | 0,_,_,_,_=>rfl
 | n+1,i,y,h0,h1=>by
  have hp:(0:Int)<2 ^ i:=Int.pow_pos (by omega);have k0:0<=y / 2 ^ i:=Int.ediv_nonneg h0 (by omega);have k1:y / 2 ^ i<=y:=Int.ediv_le_self _ h0
  have e1:IntKind.i64.wrap ((y / 2 ^ i).tmod 2)=y / 2 ^ i%2:=by
   rw [Int.tmod_eq_emod_of_nonneg k0,IntKind.wrap_i64]; omega
  have e2:IntKind.i64.wrap ((y / 2 ^ i).tdiv 2)=y / 2 ^ (i+1):=by
   rw [Int.tdiv_eq_ediv_of_nonneg k0,Int.ediv_ediv_of_nonneg (by omega),Int.pow_succ,IntKind.wrap_i64];have k2:0<=y / (2 ^ i*2):=Int.ediv_nonneg h0 (by omega);have k3:y / (2 ^ i*2)<=y:=Int.ediv_le_self _ h0;omega
  simp only [TY,mY,List.map_cons];rw [e1,e2,Xu n (i+1) y h0 h1]
def acY(a:Wd):Value:=.agg ((mY (a.v%4294967296) 0 32).map (.int .i64)).toArray
theorem acZ(a:Wd)(w:World):Calls Tryz.prog 179 #[.int .i32 a.v] w fun e w'=>e=.returned (acY a)/\ah w w' []:=by
 have h:=aG _ (ajv a) (fun v hv=>by simp at hv; subst hv; exact g_ a) (fun ob hob=>by cases hob) w;rw [aQ] at h;have e:=Xu 32 0 (a.v%4294967296) (by omega) (by omega);rw [show a.v%4294967296 / 2 ^ 0=a.v%4294967296 by simp] at e;rw [e] at h;exact h
theorem Qo(y:Int):∀(n i:Nat),∀ x∈mY y i n,x=0\/x=1
 | 0,_,x,h=>by cases h
 | n+1,i,x,h=>by
  rcases List.mem_cons.1 h with rfl | h
  . omega
  . exact Qo y n (i+1) x h
theorem xA(y:Int):∀(n i:Nat),(mY y i n).length=n
 | 0,_=>rfl
 | n+1,i=>by simp [mY,xA y n (i+1)]
theorem ac0(a:Wd):iy (acY a):=.inl (.inr ⟨_,rfl,fun u hu=>by
 simp only [List.mem_map] at hu;obtain⟨x,hx,rfl⟩:=hu
 rcases Qo _ _ _ x hx with rfl | rfl<;>exact DW (by omega)⟩)
noncomputable def ac1:eG:=Fb 179 acY ac0 acZ
def Kw:List Int->Int->Int
 | [],n=>n
 | b::l,n=>Kw l (IntKind.i64.wrap (IntKind.i64.wrap (2*n)+b))
theorem of_run(b0 b1 b2 b3 b4 b5 b6 b7 b8 b9 b10 b11 b12 b13 b14 b15 b16 b17 b18 b19 b20 b21 b22 b23 b24 b25 b26 b27 b28 b29 b30 b31:Int):bF (dn [] [(78,.one)] []) (aZ [acX]) 200 181 [.agg (bQ 32 0)] [.int .i64 b0,.int .i64 b1,.int .i64 b2,.int .i64 b3,.int .i64 b4,.int .i64 b5,.int .i64 b6,.int .i64 b7,.int .i64 b8,.int .i64 b9,.int .i64 b10,.int .i64 b11,.int .i64 b12,.int .i64 b13,.int .i64 b14,.int .i64 b15,.int .i64 b16,.int .i64 b17,.int .i64 b18,.int .i64 b19,.int .i64 b20,.int .i64 b21,.int .i64 b22,.int .i64 b23,.int .i64 b24,.int .i64 b25,.int .i64 b26,.int .i64 b27,.int .i64 b28,.int .i64 b29,.int .i64 b30,.int .i64 b31]=some (.int .i32 (kW (Kw [b31,b30,b29,b28,b27,b26,b25,b24,b23,b22,b21,b20,b19,b18,b17,b16,b15,b14,b13,b12,b11,b10,b9,b8,b7,b6,b5,b4,b3,b2,b1,b0] 0)).v,[]):=by kernel_rfl
def JF:List Value->Option (List Int)
 | []=>some []
 | .int .i64 b::l=>match JF l with | some r=>some (b::r) | none=>none
 | _::_=>none
theorem Xv:∀ {l:List Value} {r:List Int},JF l=some r->l=r.map (.int .i64)
 | [],r,h=>by injection h with h; subst h; rfl
 | .int .i64 b::l,r,h=>by
  unfold JF at h
  cases hl:JF l with
  | none=>rw [hl] at h; cases h
  | some q =>
   rw [hl] at h;injection h with h;subst h;rw [Xv hl]; rfl
 | .int .i8 _::_,_,h=>by cases h
 | .int .i16 _::_,_,h=>by cases h
 | .int .i32 _::_,_,h=>by cases h
 | .int .u8 _::_,_,h=>by cases h
 | .int .u16 _::_,_,h=>by cases h
 | .int .u32 _::_,_,h=>by cases h
 | .int .u64 _::_,_,h=>by cases h
 | .bool _::_,_,h=>by cases h
 | .float _ _::_,_,h=>by cases h
 | .complex _ _ _::_,_,h=>by cases h
 | .string _::_,_,h=>by cases h
 | .pointer _::_,_,h=>by cases h
 | .slice _ _ _::_,_,h=>by cases h
 | .map _::_,_,h=>by cases h
 | .chan _::_,_,h=>by cases h
 | .func _ _ _::_,_,h=>by cases h
 | .nilFunc::_,_,h=>by cases h
 | .iface _ _::_,_,h=>by cases h
 | .nilIface::_,_,h=>by cases h
 | .tuple _::_,_,h=>by cases h
 | .agg _::_,_,h=>by cases h
def RU (l:List Int):Value:=.int .i32 (kW (Kw l.reverse 0)).v
def fOf:List Value->Option Value
 | [.agg ds]=>match JF ds.toList with
  | some l=>bif Nat.beq l.length 32 then some (RU l) else none
  | none=>none
 | _=>none
theorem Lu(l:List Int)(hl:l.length=32)(hg:∀ b∈l,dR (.int .i64 b))(w:World):Calls Tryz.prog 181 #[.agg (l.map (.int .i64)).toArray] w fun e w'=>e=.returned (RU l)/\ah w w' []:=by
 match l,hl with
 | [b0,b1,b2,b3,b4,b5,b6,b7,b8,b9,b10,b11,b12,b13,b14,b15,b16,b17,b18,b19,b20,b21,b22,b23,b24,b25,b26,b27,b28,b29,b30,b31],_ =>
  have h:=aG _ (of_run b0 b1 b2 b3 b4 b5 b6 b7 b8 b9 b10 b11 b12 b13 b14 b15 b16 b17 b18 b19 b20 b21 b22 b23 b24 b25 b26 b27 b28 b29 b30 b31) (fun v hv=>by
   have hv':v∈([b0,b1,b2,b3,b4,b5,b6,b7,b8,b9,b10,b11,b12,b13,b14,b15,b16,b17,b18,b19,b20,b21,b22,b23,b24,b25,b26,b27,b28,b29,b30,b31]:List Int).map (Value.int .i64):=hv;obtain⟨b,hb,rfl⟩:=List.mem_map.1 hv'
   exact hg b hb) (fun ob hob=>by cases hob) w
  have e:(ay (dV [.int .i64 b0,.int .i64 b1,.int .i64 b2,.int .i64 b3,.int .i64 b4,.int .i64 b5,.int .i64 b6,.int .i64 b7,.int .i64 b8,.int .i64 b9,.int .i64 b10,.int .i64 b11,.int .i64 b12,.int .i64 b13,.int .i64 b14,.int .i64 b15,.int .i64 b16,.int .i64 b17,.int .i64 b18,.int .i64 b19,.int .i64 b20,.int .i64 b21,.int .i64 b22,.int .i64 b23,.int .i64 b24,.int .i64 b25,.int .i64 b26,.int .i64 b27,.int .i64 b28,.int .i64 b29,.int .i64 b30,.int .i64 b31]) [.agg (bQ 32 0)]).toArray=#[.agg (([b0,b1,b2,b3,b4,b5,b6,b7,b8,b9,b10,b11,b12,b13,b14,b15,b16,b17,b18,b19,b20,b21,b22,b23,b24,b25,b26,b27,b28,b29,b30,b31]:List Int).map (Value.int .i64)).toArray]:=by kernel_rfl
  rw [e] at h;exact h
noncomputable def ofE:eG where
 f:=181
 fn:=fOf
 ok:=fun us v hv hg=>by
  unfold fOf at hv;split at hv
  . rename_i ds
    cases hi:JF ds.toList with
    | none=>rw [hi] at hv; cases hv
    | some l =>
     rw [hi] at hv;simp only [] at hv
     cases hb:Nat.beq l.length 32 with
     | false=>rw [hb] at hv; cases hv
     | true =>
      rw [hb] at hv;injection hv with hv;subst hv;have hd:=Xv hi;refine⟨gK _,fun w=>?_⟩
      have h:=Lu l (beq_iff.1 hb) (fun b hb=>by
       rcases hg (.agg ds) (by simp) with h | ⟨ds',h,hd'⟩
       . cases h
       . injection h with h; subst h
         exact hd' _ (by rw [hd]; exact List.mem_map.2 ⟨b,hb,rfl⟩)) w
      rw [<- hd] at h;exact h
  . cases hv
set_option maxHeartbeats 400000 in
theorem ajw(n:Wd)(w:World):Calls Tryz.prog 180 #[.int .i32 n.v] w fun e w'=>e=.returned (.int .i64 (n.v%32))/\ah w w' []:=by
 have ok:=n.ok;unfold aB at ok;go_enter Tryz.func180,Tryz.ntmps180
 go_wp2_with fail
 refine(xZ n.v 32 _ (by omega) (by omega)).mono ?_;rintro e w' ⟨rfl,rfl⟩;go_wp2;go_ret;exact⟨rfl,ah.refl w []⟩
def Xw (n:Wd) (k:Int):Ob:=.call 180 [.int .i32 n.v] (.int .i64 k)
theorem anF{n:Wd}{k:Int}(h:n.v%32=k):lJ Tryz.prog (Xw n k):=fun w=>by
 have:=ajw n w;rw [h] at this;exact this
def byS(k:Int):List (FuncId×AV):=[(180,.lit (.int .i64 k))]
def aro:List (FuncId×Sh):=[(179,.agg 32),(181,.one)]
noncomputable def arp:List eG:=[ac1,ofE]
theorem anG(a n:Wd):∀ k:Nat,k<32->bF (dn (byS (Int.ofNat k)) aro []) (aZ arp) 400 114 [.opq 0,.opq 1] [.int .i32 a.v,.int .i32 n.v]=some (RU (List.replicate k 0++mY ((kW a.v).v%4294967296) 0 (32 - k)),List.replicate (33 - k) (Xw n (Int.ofNat k)))
 | 0,_=>by kernel_rfl
 | 1,_=>by kernel_rfl
 | 2,_=>by kernel_rfl
 | 3,_=>by kernel_rfl
 | 4,_=>by kernel_rfl
 | 5,_=>by kernel_rfl
 | 6,_=>by kernel_rfl
 | 7,_=>by kernel_rfl
 | 8,_=>by kernel_rfl
 | 9,_=>by kernel_rfl
 | 10,_=>by kernel_rfl
 | 11,_=>by kernel_rfl
 | 12,_=>by kernel_rfl
 | 13,_=>by kernel_rfl
 | 14,_=>by kernel_rfl
 | 15,_=>by kernel_rfl
 | 16,_=>by kernel_rfl
 | 17,_=>by kernel_rfl
 | 18,_=>by kernel_rfl
 | 19,_=>by kernel_rfl
 | 20,_=>by kernel_rfl
 | 21,_=>by kernel_rfl
 | 22,_=>by kernel_rfl
 | 23,_=>by kernel_rfl
 | 24,_=>by kernel_rfl
 | 25,_=>by kernel_rfl
 | 26,_=>by kernel_rfl
 | 27,_=>by kernel_rfl
 | 28,_=>by kernel_rfl
 | 29,_=>by kernel_rfl
 | 30,_=>by kernel_rfl
 | 31,_=>by kernel_rfl
 | k+32,h=>absurd h (by omega)
theorem anH(a n:Wd):∀ k:Nat,k<32->bF (dn (byS (Int.ofNat k)) aro []) (aZ arp) 400 250 [.opq 0,.opq 1] [.int .i32 a.v,.int .i32 n.v]=some (RU (mY ((kW a.v).v%4294967296) k (32 - k)++List.replicate k 0),List.replicate (65 - 2*k) (Xw n (Int.ofNat k)))
 | 0,_=>by kernel_rfl
 | 1,_=>by kernel_rfl
 | 2,_=>by kernel_rfl
 | 3,_=>by kernel_rfl
 | 4,_=>by kernel_rfl
 | 5,_=>by kernel_rfl
 | 6,_=>by kernel_rfl
 | 7,_=>by kernel_rfl
 | 8,_=>by kernel_rfl
 | 9,_=>by kernel_rfl
 | 10,_=>by kernel_rfl
 | 11,_=>by kernel_rfl
 | 12,_=>by kernel_rfl
 | 13,_=>by kernel_rfl
 | 14,_=>by kernel_rfl
 | 15,_=>by kernel_rfl
 | 16,_=>by kernel_rfl
 | 17,_=>by kernel_rfl
 | 18,_=>by kernel_rfl
 | 19,_=>by kernel_rfl
 | 20,_=>by kernel_rfl
 | 21,_=>by kernel_rfl
 | 22,_=>by kernel_rfl
 | 23,_=>by kernel_rfl
 | 24,_=>by kernel_rfl
 | 25,_=>by kernel_rfl
 | 26,_=>by kernel_rfl
 | 27,_=>by kernel_rfl
 | 28,_=>by kernel_rfl
 | 29,_=>by kernel_rfl
 | 30,_=>by kernel_rfl
 | 31,_=>by kernel_rfl
 | k+32,h=>absurd h (by omega)
def g2p (R:Int->Int->Value):List Value->Option Value
 | [.int .i64 a,.int .i64 b]=>bif decide (0<b) then some (R a b) else none
 | _=>none
noncomputable def Qp:eG where
 f:=138
 fn:=g2p fun x n=>.int .i64 (x%n)
 ok:=fun us v hv hg=>by
  unfold g2p at hv;split at hv
  . rename_i a b
    cases hb:decide (0<b) with
    | false=>rw [hb] at hv; cases hv
    | true =>
     rw [hb] at hv;injection hv with hv;subst hv;have h0:=of_decide_eq_true hb;have ha:=uX (h_ (hg (.int .i64 a) (by simp)));have h1:=uX (h_ (hg (.int .i64 b) (by simp)));have k0:=Int.emod_nonneg a (by omega:b≠0);have k1:=Int.emod_lt_of_pos a h0;refine⟨LP (by omega),fun w=>(xZ a b w ha ⟨h0,h1.2⟩).mono fun e w' ⟨he,hw⟩=>⟨he,hw▸ah.refl w []⟩⟩
  . cases hv
def arq(x m:Int):Value:=.int .i32 (IntKind.i32.wrap (IntKind.i64.wrap ((IntKind.i64.wrap (IntKind.i64.wrap x - IntKind.i64.wrap x%m)).tdiv m)))
theorem anI(a n:Wd):∀ k:Nat,k<32->bF (dn (byS (Int.ofNat k)) [(138,.one)] []) (aZ [Qp]) 400 123 [.opq 0,.opq 1] [.int .i32 a.v,.int .i32 n.v]=some (arq a.v (Int.ofNat (2 ^ k)),List.replicate (k+1) (Xw n (Int.ofNat k)))
 | 0,_=>by kernel_rfl
 | 1,_=>by kernel_rfl
 | 2,_=>by kernel_rfl
 | 3,_=>by kernel_rfl
 | 4,_=>by kernel_rfl
 | 5,_=>by kernel_rfl
 | 6,_=>by kernel_rfl
 | 7,_=>by kernel_rfl
 | 8,_=>by kernel_rfl
 | 9,_=>by kernel_rfl
 | 10,_=>by kernel_rfl
 | 11,_=>by kernel_rfl
 | 12,_=>by kernel_rfl
 | 13,_=>by kernel_rfl
 | 14,_=>by kernel_rfl
 | 15,_=>by kernel_rfl
 | 16,_=>by kernel_rfl
 | 17,_=>by kernel_rfl
 | 18,_=>by kernel_rfl
 | 19,_=>by kernel_rfl
 | 20,_=>by kernel_rfl
 | 21,_=>by kernel_rfl
 | 22,_=>by kernel_rfl
 | 23,_=>by kernel_rfl
 | 24,_=>by kernel_rfl
 | 25,_=>by kernel_rfl
 | 26,_=>by kernel_rfl
 | 27,_=>by kernel_rfl
 | 28,_=>by kernel_rfl
 | 29,_=>by kernel_rfl
 | 30,_=>by kernel_rfl
 | 31,_=>by kernel_rfl
 | k+32,h=>absurd h (by omega)
def pR:List Int->Int
 | []=>0
 | b::l=>b+2*pR l
def b01(l:List Int):Prop:=∀ b∈l,b=0\/b=1
theorem aaE:∀ {l:List Int},b01 l->0<=pR l/\pR l<2 ^ l.length
 | [],_=>by simp [pR]
 | b::l,h=>by
  have hb:=h b (by simp);obtain⟨h1,h2⟩:=aaE (l:=l) (fun x hx=>h x (by simp [hx]));simp only [pR,List.length_cons,Int.pow_succ];rcases hb with rfl | rfl<;>omega
theorem OG:∀(x y:List Int) (n:Int),Kw (x++y) n=Kw y (Kw x n)
 | [],y,n=>rfl
 | b::x,y,n=>by simp only [List.cons_append,Kw]; exact OG x y _
theorem Qq:∀ {l:List Int},b01 l->l.length<=40->Kw l.reverse 0=pR l
 | [],_,_=>rfl
 | b::l,h,hn=>by
  have hb:=h b (by simp);have hl:b01 l:=fun x hx=>h x (by simp [hx]);simp only [List.length_cons] at hn;obtain⟨h1,h2⟩:=aaE hl;have h3:(2:Int) ^ l.length<=2 ^ 40:=by exact_mod_cast Nat.pow_le_pow_right (by omega:1<=2) (by omega:l.length<=40)
  rw [List.reverse_cons,OG,Qq hl (by omega)];simp only [Kw,pR];rw [IntKind.wrap_i64,IntKind.wrap_i64];rcases hb with rfl | rfl<;>omega
theorem ac2(k:Nat)(l:List Int):pR (List.replicate k 0++l)=2 ^ k*pR l:=by
 induction k with
 | zero=>simp
 | succ k ih=>rw [List.replicate_succ,List.cons_append,pR,ih,Int.pow_succ,Int.mul_comm (2 ^ k) 2,Int.mul_assoc]; omega
theorem Ky:∀(l:List Int) (k:Nat),pR (l++List.replicate k 0)=pR l
 | [],k=>by
  induction k with
  | zero=>rfl
  | succ k ih=>rw [List.replicate_succ]; simp only [List.nil_append,pR] at *; rw [ih]; rfl
 | b::l,k=>by simp only [List.cons_append,pR]; rw [Ky l k]
theorem CG(y:Int):∀(n i:Nat),pR (mY y i n)=y / 2 ^ i%2 ^ n
 | 0,i=>by simp [mY,pR]
 | n+1,i=>by
  have hp:(0:Int)<2 ^ i:=Int.pow_pos (by omega);have hq:(0:Int)<2 ^ n:=Int.pow_pos (by omega);simp only [mY,pR];rw [CG y n (i+1),Int.pow_succ,Int.pow_succ,<- Int.ediv_ediv_of_nonneg (by omega)];generalize y / 2 ^ i=z;rw [Int.mul_comm (2 ^ n) 2];have e:z=2*(z / 2)+z%2:=by omega
  have e2:=Int.emod_add_mul_ediv (z / 2) (2 ^ n);have r0:=Int.emod_nonneg (z / 2) (by omega:(2:Int) ^ n≠0);have r1:=Int.emod_lt_of_pos (z / 2) hq
  have e3:z=(z%2+2*(z / 2%2 ^ n))+(2*2 ^ n)*(z / 2 / 2 ^ n):=by
   rw [Int.mul_assoc];generalize 2 ^ n*(z / 2 / 2 ^ n)=t at *;omega
  have e4:z%(2*2 ^ n)=(z%2+2*(z / 2%2 ^ n))%(2*2 ^ n):=by
   conv=>lhs; rw [e3]
   exact Int.add_mul_emod_self_left _ _ _
  have m0:0<=z%2:=by omega
  have m1:z%2<2:=by omega
  rw [e4];clear e e2 e3 e4;generalize z / 2%2 ^ n=r at *;generalize (2:Int) ^ n=p at *;exact(Int.emod_eq_of_lt (by omega) (by omega)).symm
theorem Me (y:Int) (i n:Nat):b01 (mY y i n):=Qo y n i
theorem OH{x y:List Int}(h:b01 x)(h':b01 y):b01 (x++y):=fun b hb=>(List.mem_append.1 hb).elim (h b) (h' b)
theorem RX(k:Nat):b01 (List.replicate k 0):=fun b hb=>.inl (List.eq_of_mem_replicate hb)
theorem aaF{l:List Int}(h:b01 l)(hl:l.length<=40):RU l=.int .i32 (kW (pR l)).v:=by unfold RU; rw [Qq h hl]
theorem ars(b:Int):bits BinOp.and IntKind.i32 b 31=b%32:=by
 show IntKind.i32.wrap ((BitVec.ofInt 32 b &&& BitVec.ofInt 32 31).toNat:Int)=_;have h2:(BitVec.ofInt 32 31).toNat=2 ^ 5 - 1:=by decide
 rw [BitVec.toNat_and,h2,Nat.and_two_pow_sub_one_eq_mod,IntKind.wrap_i32,BitVec.toNat_ofInt];omega
theorem T_(b:Int):sh b=(b%32).toNat:=by
 unfold sh;rw [ars]
 have:IntKind.u64.wrap (b%32)=b%32:=by
  simp only [IntKind.wrap,IntKind.signed,IntKind.bits];simp;omega
 rw [this];omega
theorem aru(a n:Wd)(k:Nat)(hk:n.v%32=k)(h:k<32):RU (List.replicate k 0++mY (a.v%4294967296) 0 (32 - k))=.int .i32 (nP a n).v:=by
 rw [aaF (OH (RX k) (Me _ _ _)) (by simp [xA]; omega),ac2,CG];show Value.int .i32 (wrap32 _)=.int .i32 (ug a.v n.v);unfold ug;rw [T_,hk,Int.toNat_natCast];congr 2;have e:(4294967296:Int)=2 ^ (32 - k)*2 ^ k:=by rw [<- Int.pow_add,Nat.sub_add_cancel (by omega)]; decide
 generalize a.v%4294967296=y;rw [e,Int.mul_comm y,Int.mul_comm (2 ^ (32 - k)),Int.mul_emod_mul_of_pos _ _ (Int.pow_pos (by omega))];simp
theorem arv(a n:Wd)(k:Nat)(hk:n.v%32=k)(h:k<32):RU (mY (a.v%4294967296) k (32 - k)++List.replicate k 0)=.int .i32 (wK a n).v:=by
 rw [aaF (OH (Me _ _ _) (RX k)) (by simp [xA]; omega),Ky,CG];show Value.int .i32 (wrap32 _)=.int .i32 (wI a.v n.v);unfold wI;rw [T_,hk,Int.toNat_natCast];have h0:0<=a.v%4294967296:=by omega
 have h1:a.v%4294967296<4294967296:=by omega
 generalize a.v%4294967296=y at *;have hp:(0:Int)<2 ^ k:=Int.pow_pos (by omega);rw [Int.emod_eq_of_lt (Int.ediv_nonneg h0 (by omega))];refine Int.ediv_lt_of_lt_mul hp ?_;have e:(4294967296:Int)=2 ^ (32 - k)*2 ^ k:=by rw [<- Int.pow_add,Nat.sub_add_cancel (by omega)]; decide
 omega
theorem arw(a n:Wd)(k:Nat)(hk:n.v%32=k)(h:k<32):arq a.v (Int.ofNat (2 ^ k))=.int .i32 (wL a n).v:=by
 have ok:=a.ok;unfold aB at ok;show Value.int .i32 _=.int .i32 (wH a.v n.v);unfold wH;rw [T_,hk,Int.toNat_natCast];have hp:(0:Int)<2 ^ k:=Int.pow_pos (by omega)
 have hq:(2:Int) ^ k<=2147483648:=by
  have:(2:Int) ^ k<=2 ^ 31:=by exact_mod_cast Nat.pow_le_pow_right (by omega:1<=2) (by omega:k<=31)
  simpa using this
 have em:Int.ofNat (2 ^ k)=(2:Int) ^ k:=by simp
 rw [em];have w0:IntKind.i64.wrap a.v=a.v:=by rw [IntKind.wrap_i64]; omega
 have r0:=Int.emod_nonneg a.v (by omega:(2:Int) ^ k≠0);have r1:=Int.emod_lt_of_pos a.v hp;have w1:IntKind.i64.wrap (a.v - a.v%2 ^ k)=a.v - a.v%2 ^ k:=by rw [IntKind.wrap_i64]; omega
 have e1:a.v - a.v%2 ^ k=2 ^ k*(a.v / 2 ^ k):=by have:=Int.emod_add_mul_ediv a.v (2 ^ k); omega
 have e2:(a.v - a.v%2 ^ k).tdiv (2 ^ k)=a.v / 2 ^ k:=by rw [e1,Int.mul_tdiv_cancel_left _ (by omega)]
 have hs:=wL a n;have b0:=(Vp a.v n.v a.ok)
 unfold wH aB at b0;rw [T_,hk,Int.toNat_natCast] at b0;rw [w0,w1,e2];congr 1;rw [IntKind.wrap_i32,IntKind.wrap_i64];omega
theorem je(a n:Wd):eP [.int .i32 a.v,.int .i32 n.v]:=fun v hv=>by
 simp at hv;rcases hv with rfl | rfl
 . exact g_ a
 . exact g_ n
theorem Xx{n:Wd}{k m:Nat}(h:n.v%32=k):∀ ob∈List.replicate m (Xw n (Int.ofNat k)),lJ Tryz.prog ob:=fun ob hob=>by
 rw [List.eq_of_mem_replicate hob];exact anF h
theorem ac3(n:Wd):∃ k:Nat,n.v%32=k/\k<32:=⟨(n.v%32).toNat,by omega,by omega⟩
theorem agn(a n:Wd)(w:World):Calls Tryz.prog 114 #[.int .i32 a.v,.int .i32 n.v] w fun e w'=>e=.returned (.int .i32 (nP a n).v)/\ah w w' []:=by
 obtain⟨k,hk,h⟩:=ac3 n;have:=aG _ (anG a n k h) (je a n) (Xx hk) w;rw [aQ,aru a n k hk h] at this;exact this
theorem arx(a n:Wd)(w:World):Calls Tryz.prog 250 #[.int .i32 a.v,.int .i32 n.v] w fun e w'=>e=.returned (.int .i32 (wK a n).v)/\ah w w' []:=by
 obtain⟨k,hk,h⟩:=ac3 n;have:=aG _ (anH a n k h) (je a n) (Xx hk) w;rw [aQ,arv a n k hk h] at this;exact this
theorem agp(a n:Wd)(w:World):Calls Tryz.prog 123 #[.int .i32 a.v,.int .i32 n.v] w fun e w'=>e=.returned (.int .i32 (wL a n).v)/\ah w w' []:=by
 obtain⟨k,hk,h⟩:=ac3 n;have:=aG _ (anI a n k h) (je a n) (Xx hk) w;rw [arw a n k hk h] at this;exact this
noncomputable def ac4:eG:=AX 114 (fun a b=>.int .i32 (nP a b).v) (fun _ _=>gK _) agn
noncomputable def arz:eG:=AX 250 (fun a b=>.int .i32 (wK a b).v) (fun _ _=>gK _) arx
noncomputable def ac5:eG:=AX 123 (fun a b=>.int .i32 (wL a b).v) (fun _ _=>gK _) agp
theorem auo(T:TypeId)(k:IntKind)(a b:Int):uJ Tryz.prog (.bin .eql T) [.int k a,.int k b] (.bool (a==b)):=fun x y w=>by simp [eqGuard,binOp,Op.intCmp]
theorem aup(T:TypeId)(k:IntKind)(a b:Int):uJ Tryz.prog (.bin .lss T) [.int k a,.int k b] (.bool (decide (a<b))):=fun x y w=>by simp [eqGuard,binOp,Op.intCmp]
theorem auq(T:TypeId)(k:IntKind)(a b:Int):uJ Tryz.prog (.bin .gtr T) [.int k a,.int k b] (.bool (decide (b<a))):=fun x y w=>by simp [eqGuard,binOp,Op.intCmp]
theorem aur(T:TypeId)(k:IntKind)(a b:Int):uJ Tryz.prog (.bin .geq T) [.int k a,.int k b] (.bool (decide (b<=a))):=fun x y w=>by simp [eqGuard,binOp,Op.intCmp]
def ajx (T:TypeId) (k:IntKind) (a b:Int) (r:Bool):Ob:=.test (.bin .eql T) [.int k a,.int k b] (.bool r)
def dh (T:TypeId) (k:IntKind) (a b:Int) (r:Bool):Ob:=.test (.bin .lss T) [.int k a,.int k b] (.bool r)
def lq (T:TypeId) (k:IntKind) (a b:Int) (r:Bool):Ob:=.test (.bin .gtr T) [.int k a,.int k b] (.bool r)
def Dq (T:TypeId) (k:IntKind) (a b:Int) (r:Bool):Ob:=.test (.bin .geq T) [.int k a,.int k b] (.bool r)
theorem aaG{T:TypeId}{k:IntKind}{a b:Int}{r:Bool}(h:(a==b)=r):lJ Tryz.prog (ajx T k a b r):=by subst h; exact auo T k a b
theorem aU{T:TypeId}{k:IntKind}{a b:Int}{r:Bool}(h:decide (a<b)=r):lJ Tryz.prog (dh T k a b r):=by subst h; exact aup T k a b
theorem fV{T:TypeId}{k:IntKind}{a b:Int}{r:Bool}(h:decide (b<a)=r):lJ Tryz.prog (lq T k a b r):=by subst h; exact auq T k a b
theorem rW{T:TypeId}{k:IntKind}{a b:Int}{r:Bool}(h:decide (b<=a)=r):lJ Tryz.prog (Dq T k a b r):=by subst h; exact aur T k a b
theorem pU:∀ ob∈([]:List Ob),lJ Tryz.prog ob:=fun ob h=>by cases h
theorem gI{a:Ob}(ha:lJ Tryz.prog a):∀ ob∈[a],lJ Tryz.prog ob:=fun ob h=>by simp at h; subst h; exact ha
theorem eF{a:Ob}{l:List Ob}(ha:lJ Tryz.prog a)(hl:∀ ob∈l,lJ Tryz.prog ob):∀ ob∈a::l,lJ Tryz.prog ob:=fun ob h=>by
 rcases List.mem_cons.1 h with rfl | h
 . exact ha
 . exact hl ob h
theorem Bd(a:Wd):eP [.int .i32 a.v]:=fun v hv=>by simp at hv; subst hv; exact g_ a
theorem Qr(a b c:Wd):eP [.int .i32 a.v,.int .i32 b.v,.int .i32 c.v]:=fun v hv=>by
 simp at hv;rcases hv with rfl | rfl | rfl
 . exact g_ a
 . exact g_ b
 . exact g_ c
theorem Xy{x:Int}(h:-9223372036854775808<=x/\x<=9223372036854775807):eP [.int .i64 x]:=fun v hv=>by simp at hv; subst hv; exact DW h
def Ir (x:Int):Wd:=⟨jZ x,Ht x⟩
theorem ajy(x:Int):bF (dn [] [] [(1,true)]) (aZ []) 100 195 [.opq 0] [.int .i64 x]=some (.int .i32 (-2147483648),[dh 2 .i64 x (-2147483648) true]):=by kernel_rfl
theorem ajz(x:Int):bF (dn [] [] [(1,false),(2,true)]) (aZ []) 100 195 [.opq 0] [.int .i64 x]=some (.int .i32 2147483647,[lq 2 .i64 x 2147483647 true,dh 2 .i64 x (-2147483648) false]):=by kernel_rfl
theorem ajA(x:Int):bF (dn [] [] [(1,false),(2,false)]) (aZ []) 100 195 [.opq 0] [.int .i64 x]=some (.int .i32 (IntKind.i32.wrap x),[lq 2 .i64 x 2147483647 false,dh 2 .i64 x (-2147483648) false]):=by kernel_rfl
theorem arA(x:Int)(hx:-9223372036854775808<=x/\x<=9223372036854775807)(w:World):Calls Tryz.prog 195 #[.int .i64 x] w fun e w'=>e=.returned (.int .i32 (Ir x).v)/\ah w w' []:=by
 have hv:(Ir x).v=min (max x (-2147483648)) 2147483647:=rfl;rw [hv];by_cases h0:x < -2147483648
 . rw [show min (max x (-2147483648)) 2147483647=-2147483648 by omega]
   exact aG _ (ajy x) (Xy hx) (gI (aU (by simpa using h0))) w
 . by_cases h1:2147483647<x
   . rw [show min (max x (-2147483648)) 2147483647=2147483647 by omega]
     exact aG _ (ajz x) (Xy hx) (eF (fV (by simpa using h1)) (gI (aU (by simpa using h0)))) w
   . rw [show min (max x (-2147483648)) 2147483647=IntKind.i32.wrap x by rw [IntKind.wrap_i32]; omega]
     exact aG _ (ajA x) (Xy hx) (eF (fV (by simpa using h1)) (gI (aU (by simpa using h0)))) w
noncomputable def ac6:eG:=ala 195 (fun x=>.int .i32 (Ir x).v) (fun x hx=>⟨gK _,arA x hx⟩)
def ajB:List (FuncId×Sh):=[(195,.one)]
theorem anJ(a b:Wd):bF (dn [] ajB []) (aZ [ac6]) 100 120 [.opq 0,.opq 1] [.int .i32 a.v,.int .i32 b.v]=some (.int .i32 (Ir (IntKind.i64.wrap (IntKind.i64.wrap a.v+IntKind.i64.wrap b.v))).v,[]):=by kernel_rfl
theorem anK(a b:Wd):bF (dn [] ajB []) (aZ [ac6]) 100 125 [.opq 0,.opq 1] [.int .i32 a.v,.int .i32 b.v]=some (.int .i32 (Ir (IntKind.i64.wrap (IntKind.i64.wrap a.v - IntKind.i64.wrap b.v))).v,[]):=by kernel_rfl
theorem anL(a:Wd):bF (dn [] ajB []) (aZ [ac6]) 100 194 [.opq 0] [.int .i32 a.v]=some (.int .i32 (Ir (IntKind.i64.wrap (0 - IntKind.i64.wrap a.v))).v,[]):=by kernel_rfl
theorem w64(a:Wd):IntKind.i64.wrap a.v=a.v:=by have:=a.ok; unfold aB at this; rw [IntKind.wrap_i64]; omega
theorem agq(a b:Wd)(w:World):Calls Tryz.prog 120 #[.int .i32 a.v,.int .i32 b.v] w fun e w'=>e=.returned (.int .i32 (gV a b).v)/\ah w w' []:=by
 have h:=aG _ (anJ a b) (je a b) pU w;have ha:=a.ok;have hb:=b.ok;unfold aB at ha hb;rw [w64,w64,show IntKind.i64.wrap (a.v+b.v)=a.v+b.v by rw [IntKind.wrap_i64]; omega] at h;exact h
theorem agr(a b:Wd)(w:World):Calls Tryz.prog 125 #[.int .i32 a.v,.int .i32 b.v] w fun e w'=>e=.returned (.int .i32 (rP a b).v)/\ah w w' []:=by
 have h:=aG _ (anK a b) (je a b) pU w;have ha:=a.ok;have hb:=b.ok;unfold aB at ha hb;rw [w64,w64,show IntKind.i64.wrap (a.v - b.v)=a.v - b.v by rw [IntKind.wrap_i64]; omega] at h;exact h
theorem arB(a:Wd)(w:World):Calls Tryz.prog 194 #[.int .i32 a.v] w fun e w'=>e=.returned (.int .i32 (j_ a).v)/\ah w w' []:=by
 have h:=aG _ (anL a) (Bd a) pU w;have ha:=a.ok;unfold aB at ha;rw [w64,show IntKind.i64.wrap (0 - a.v)=-a.v by rw [IntKind.wrap_i64]; omega] at h;exact h
noncomputable def ac7:eG:=AX 120 (fun a b=>.int .i32 (gV a b).v) (fun _ _=>gK _) agq
noncomputable def ajC:eG:=AX 125 (fun a b=>.int .i32 (rP a b).v) (fun _ _=>gK _) agr
noncomputable def ajD:eG:=Fb 194 (fun a=>.int .i32 (j_ a).v) (fun _=>gK _) arB
theorem ajE(a:Wd):bF (dn [] [(194,.one)] [(1,true)]) (aZ [ajD]) 100 199 [.opq 0] [.int .i32 a.v]=some (.int .i32 (j_ (kW a.v)).v,[dh 21 .i32 a.v 0 true]):=by kernel_rfl
theorem ajF(a:Wd):bF (dn [] [(194,.one)] [(1,false)]) (aZ [ajD]) 100 199 [.opq 0] [.int .i32 a.v]=some (.int .i32 a.v,[dh 21 .i32 a.v 0 false]):=by kernel_rfl
theorem arC(a:Wd)(w:World):Calls Tryz.prog 199 #[.int .i32 a.v] w fun e w'=>e=.returned (.int .i32 (iT a).v)/\ah w w' []:=by
 have ha:=a.ok;unfold aB at ha;have hv:(iT a).v=max a.v (min (max (-a.v) (-2147483648)) 2147483647):=rfl;by_cases h0:a.v<0
 . have h:=aG _ (ajE a) (Bd a) (gI (aU (by simpa using h0))) w
   rw [aQ] at h;have e:(j_ a).v=(iT a).v:=by rw [hv]; show min (max (-a.v) (-2147483648)) 2147483647=_; omega
   rw [e] at h;exact h
 . have h:=aG _ (ajF a) (Bd a) (gI (aU (by simpa using h0))) w
   have e:a.v=(iT a).v:=by rw [hv]; omega
   rw [<- e];exact h
noncomputable def arD:eG:=Fb 199 (fun a=>.int .i32 (iT a).v) (fun _=>gK _) arC
def vF(x:Int):Int:=bif decide (536870912<=x%1073741824) then IntKind.i64.wrap (IntKind.i64.wrap ((IntKind.i64.wrap (x - x%1073741824)).tdiv 1073741824)+1) else IntKind.i64.wrap ((IntKind.i64.wrap (x - x%1073741824)).tdiv 1073741824)
theorem ac8(x:Int):bF (dn [] [(138,.one)] [(4,true)]) (aZ [Qp]) 200 281 [.opq 0,.lit (.int .i64 30)] [.int .i64 x]=some (.int .i64 (IntKind.i64.wrap (IntKind.i64.wrap ((IntKind.i64.wrap (x - x%1073741824)).tdiv 1073741824)+1)),[Dq 2 .i64 (x%1073741824) 536870912 true]):=by kernel_rfl
theorem ac9(x:Int):bF (dn [] [(138,.one)] [(4,false)]) (aZ [Qp]) 200 281 [.opq 0,.lit (.int .i64 30)] [.int .i64 x]=some (.int .i64 (IntKind.i64.wrap ((IntKind.i64.wrap (x - x%1073741824)).tdiv 1073741824)),[Dq 2 .i64 (x%1073741824) 536870912 false]):=by kernel_rfl
theorem ajG(x:Int)(hx:-9223372036854775808<=x/\x<=9223372036854775807)(w:World):Calls Tryz.prog 281 #[.int .i64 x,.int .i64 30] w fun e w'=>e=.returned (.int .i64 (vF x))/\ah w w' []:=by
 by_cases h:536870912<=x%1073741824
 . have hr:vF x=IntKind.i64.wrap (IntKind.i64.wrap ((IntKind.i64.wrap (x - x%1073741824)).tdiv 1073741824)+1):=by unfold vF; rw [decide_eq_true h]; rfl
   rw [hr];exact aG _ (ac8 x) (Xy hx) (gI (rW (by simpa using h))) w
 . have hr:vF x=IntKind.i64.wrap ((IntKind.i64.wrap (x - x%1073741824)).tdiv 1073741824):=by unfold vF; rw [decide_eq_false h]; rfl
   rw [hr];exact aG _ (ac9 x) (Xy hx) (gI (rW (by simpa using h))) w
def ags:List Value->Option Value
 | [.int .i64 a,.int .i64 b]=>bif decide (b=30) then some (.int .i64 (vF a)) else none
 | _=>none
theorem anM (x:Int):-9223372036854775808<=vF x/\vF x<=9223372036854775807:=by
 unfold vF;generalize (IntKind.i64.wrap (x - x%1073741824)).tdiv 1073741824=q
 cases decide (536870912<=x%1073741824)<;>simp only [cond_true,cond_false,IntKind.wrap_i64]<;>omega
noncomputable def arE:eG where
 f:=281
 fn:=ags
 ok:=fun us v hv hg=>by
  unfold ags at hv;split at hv
  . rename_i a b
    cases hb:decide (b=30) with
    | false=>rw [hb] at hv; cases hv
    | true =>
     rw [hb] at hv;injection hv with hv;subst hv;obtain rfl:=of_decide_eq_true hb;exact⟨LP (anM a),ajG a (uX (h_ (hg (.int .i64 a) (by simp))))⟩
  . cases hv
theorem ajH(a b:Wd):bF (dn [] [(195,.one),(281,.one)] []) (aZ [ac6,arE]) 100 243 [.opq 0,.opq 1] [.int .i32 a.v,.int .i32 b.v]=some (.int .i32 (Ir (vF (IntKind.i64.wrap (IntKind.i64.wrap a.v*IntKind.i64.wrap b.v)))).v,[]):=by kernel_rfl
theorem anN{p:Int}(h:-4611686018427387904<=p/\p<=4611686018427387904):vF p=p / 1073741824+p / 536870912%2:=by
 have e1:IntKind.i64.wrap (p - p%1073741824)=1073741824*(p / 1073741824):=by rw [IntKind.wrap_i64]; omega
 have e2:IntKind.i64.wrap ((1073741824*(p / 1073741824)).tdiv 1073741824)=p / 1073741824:=by rw [Int.mul_tdiv_cancel_left _ (by omega),IntKind.wrap_i64]; omega
 unfold vF;rw [e1,e2];by_cases h2:536870912<=p%1073741824
 . rw [decide_eq_true h2]
   simp only [cond_true,IntKind.wrap_i64];omega
 . rw [decide_eq_false h2]
   simp only [cond_false];omega
theorem anO(a b:Wd)(w:World):Calls Tryz.prog 243 #[.int .i32 a.v,.int .i32 b.v] w fun e w'=>e=.returned (.int .i32 (aP a b).v)/\ah w w' []:=by
 have h:=aG _ (ajH a b) (je a b) pU w;have hp:=prod_bound a.ok b.ok;rw [w64,w64,show IntKind.i64.wrap (a.v*b.v)=a.v*b.v by rw [IntKind.wrap_i64]; generalize a.v*b.v=p at *; omega] at h
 have e:(Ir (vF (a.v*b.v))).v=(aP a b).v:=by
  show jZ (vF (a.v*b.v))=jZ (a.v*b.v / 1073741824+a.v*b.v / 536870912%2);rw [anN hp]
 rw [e] at h;exact h
noncomputable def ac_:eG:=AX 243 (fun a b=>.int .i32 (aP a b).v) (fun _ _=>gK _) anO
end Xi

namespace Xi
open Go Go.RowKit
inductive MA where
 | arZ (p:Addr)
 | bare (p:Addr)
 | w (x:Wd)
 | a (l:List Wd)
inductive MO where
 | w (x:Wd)
 | a (l:List Wd)
 | t (l:List MO)
 | v (x:Value)
def wv (x:Wd):Value:=.int .i32 x.v
def OT (l:List Wd):List Value:=l.map wv
def MA.val:MA->Value
 | .arZ p=>.agg #[.iface 21 (.pointer (some p))]
 | .bare p=>.pointer (some p)
 | .w x=>wv x
 | .a l=>.agg (OT l).toArray
mutual
def MO.val:MO->Value
 | .w x=>wv x
 | .a l=>.agg (OT l).toArray
 | .t l=>.tuple (MO.vals l).toArray
 | .v x=>x
def MO.vals:List MO->List Value
 | []=>[]
 | o::l=>o.val::MO.vals l
end
def pw (ρ:List Wd):AV->Option Wd
 | .opq i=>nth ρ i
 | .lit (.int .i32 n)=>bif(Lit.int .i32 n).wf then some (kW n) else none
 | _=>none
def Iu (ρ:List Wd):List AV->Option (List Wd)
 | []=>some []
 | a::l=>match pw ρ a,Iu ρ l with | some x,some xs=>some (x::xs) | _,_=>none
def pm (ρ:List Wd):EA->Option MA
 | .v (.agg [.qC t (.lit (.pointer (some p)))])=>bif Nat.beq t 21 then some (.arZ p) else none
 | .v (.lit (.pointer (some p)))=>some (.bare p)
 | .v (.agg cs)=>match Iu ρ cs with | some xs=>some (.a xs) | none=>none
 | .v a=>match pw ρ a with | some x=>some (.w x) | none=>none
 | .l _=>none
def XK (ρ:List Wd):List EA->Option (List MA)
 | []=>some []
 | a::l=>match pm ρ a,XK ρ l with | some x,some xs=>some (x::xs) | _,_=>none
def bw:List AV->List Wd->List Wd->Option (List Wd)
 | [],[],ρ=>some ρ
 | .opq i::l,x::xs,ρ=>bif Nat.beq i (aF ρ) then fL (ρ++[x]) fun ρ=>bw l xs ρ else none
 | _,_,_=>none
def b1:AV->MO->List Wd->Option (List Wd)
 | .opq i,.w x,ρ=>bw [.opq i] [x] ρ
 | .agg cs,.a xs,ρ=>bw cs xs ρ
 | _,_,_=>none
def bl:List AV->List MO->List Wd->Option (List Wd)
 | [],[],ρ=>some ρ
 | a::l,o::os,ρ=>match b1 a o ρ with | some ρ'=>bl l os ρ' | none=>none
 | _,_,_=>none
def bo:AV->MO->List Wd->Option (List Wd)
 | .jm l,.t os,ρ=>bl l os ρ
 | a,o,ρ=>b1 a o ρ
def OU (ρ:List Wd):AV->Option MO
 | .agg cs=>match Iu ρ cs with | some xs=>some (.a xs) | none=>none
 | a=>match pw ρ a with
  | some x=>some (.w x)
  | none=>match a with | .lit v=>some (.v v) | _=>none
def FT (ρ:List Wd):List AV->Option (List MO)
 | []=>some []
 | a::l=>match OU ρ a,FT ρ l with | some x,some os=>some (x::os) | _,_=>none
def adp (ρ:List Wd):AV->Option MO
 | .jm vs=>match FT ρ vs with | some os=>some (.t os) | none=>none
 | a=>OU ρ a
mutual
def inb (n:Nat):AV->Bool
 | .lit _=>true
 | .opq i=>Nat.blt i n
 | .qC _ v=>inb n v
 | .agg cs=>MB n cs
 | .jm vs=>MB n vs
 | _=>false
def MB (n:Nat):List AV->Bool
 | []=>true
 | v::l=>inb n v&&MB n l
end
def Bg(ρ:List Wd):Env:=E0 fun i=>wv (ρ.getD i (kW 0))
def oQ(ρ:List Wd)(ρF:Nat->Value):Prop:=∀ i x,ρ[i]?=some x->ρF i=wv x
theorem oQ.of_append{ρ τ:List Wd}{ρF:Nat->Value}(h:oQ (ρ++τ) ρF):oQ ρ ρF:=fun i v hv=>h i v (by
 have:=(List.getElem?_eq_some_iff.1 hv).1
 rw [List.getElem?_append_left this]; exact hv)
mutual
theorem XL{ρ:List Wd}{ρF:Nat->Value}(hF:oQ ρ ρF):∀(a:AV),inb (aF ρ) a=true->a.aA (E0 ρF)=a.aA (Bg ρ)
 | .lit v,_=>rfl
 | .opq i,h=>by
  have hi:i<ρ.length:=by have:Nat.blt i (aF ρ)=true:=h; rwa [aI] at this
  show ρF i=wv (ρ.getD i _);rw [hF i ρ[i] (List.getElem?_eq_getElem hi)];simp [List.getD,List.getElem?_eq_getElem hi]
 | .qC t v,h=>by simp only [AV.aA]; rw [XL hF v h]
 | .agg cs,h=>by simp only [AV.aA]; rw [CO hF cs h]
 | .jm vs,h=>by simp only [AV.aA]; rw [CO hF vs h]
 | .ptr _ _,h=>by cases h
 | .slc _ _ _ _,h=>by cases h
 | .row _ _,h=>by cases h
 | .fn _ _ _,h=>by cases h
theorem CO{ρ:List Wd}{ρF:Nat->Value}(hF:oQ ρ ρF):∀(l:List AV),MB (aF ρ) l=true->ay (E0 ρF) l=ay (Bg ρ) l
 | [],_=>rfl
 | v::l,h=>by
  simp only [MB,Bool.and_eq_true] at h;simp only [ay];rw [XL hF v h.1,CO hF l h.2]
end
theorem auB{n:Int}(h:(Lit.int .i32 n).wf=true):(kW n).v=n:=by
 apply jl;simp only [Lit.wf,IntKind.min,IntKind.max,IntKind.signed,IntKind.bits] at h;simp at h;unfold aB;omega
theorem adq{ρ:List Wd}{ρF:Nat->Value}(hF:oQ ρ ρF){a:AV}{x:Wd}(h:pw ρ a=some x):a.aA (E0 ρF)=wv x:=by
 unfold pw at h;split at h
 . rename_i i
   rw [nD] at h;exact hF i x h
 . rename_i n
   cases hw:(Lit.int .i32 n).wf with
   | false=>rw [hw] at h; cases h
   | true =>
    rw [hw] at h;injection h with h;subst h;show Value.int .i32 n=.int .i32 (kW n).v;rw [auB hw]
 . cases h
theorem OV{ρ:List Wd}{ρF:Nat->Value}(hF:oQ ρ ρF):∀ {l:List AV} {xs:List Wd},Iu ρ l=some xs->ay (E0 ρF) l=OT xs
 | [],xs,h=>by unfold Iu at h; injection h with h; subst h; rfl
 | a::l,xs,h=>by
  unfold Iu at h
  cases h1:pw ρ a with
  | none=>rw [h1] at h; cases h
  | some x =>
   cases h2:Iu ρ l with
   | none=>rw [h1,h2] at h; cases h
   | some ys =>
    rw [h1,h2] at h;injection h with h;subst h;show a.aA (E0 ρF)::ay (E0 ρF) l=wv x::OT ys;rw [adq hF h1,OV hF h2]
theorem auC{ρ:List Wd}{ρF:Nat->Value}(hF:oQ ρ ρF){fp:List Nat}{w:World}{v:Value}{a:EA}{m:MA}(h:pm ρ a=some m)(hv:MR fp w v (a.aA (E0 ρF))):v=m.val:=by
 unfold pm at h;split at h
 . rename_i t p
   cases ht:Nat.beq t 21 with
   | false=>rw [ht] at h; cases h
   | true =>
    rw [ht] at h;injection h with h;subst h;rw [beq_iff] at ht;subst ht;exact hv
 . rename_i p
   injection h with h;subst h;exact hv
 . rename_i cs hne
   cases hp:Iu ρ cs with
   | none=>rw [hp] at h; cases h
   | some xs =>
    rw [hp] at h;injection h with h;subst h;have e:v=.agg (ay (E0 ρF) cs).toArray:=hv;rw [e,OV hF hp];rfl
 . rename_i a' h1 h2 h3
   cases hp:pw ρ a' with
   | none=>rw [hp] at h; cases h
   | some x =>
    rw [hp] at h;injection h with h;subst h;have e:v=a'.aA (E0 ρF):=hv;rw [e,adq hF hp];rfl
 . cases h
theorem XM{ρ:List Wd}{ρF:Nat->Value}(hF:oQ ρ ρF){fp:List Nat}{w:World}:∀ {l:List EA} {us:List MA} {args:List Value},XK ρ l=some us->b_ fp w args (l.map (EA.aA (E0 ρF)))->args=us.map MA.val
 | [],us,args,h,ha=>by
  unfold XK at h; injection h with h; subst h
  cases args with
  | nil=>rfl
  | cons _ _=>exact ha.elim
 | a::l,us,args,h,ha=>by
  unfold XK at h
  cases h1:pm ρ a with
  | none=>rw [h1] at h; cases h
  | some x =>
   cases h2:XK ρ l with
   | none=>rw [h1,h2] at h; cases h
   | some ys =>
    rw [h1,h2] at h;injection h with h;subst h
    cases args with
    | nil=>exact ha.elim
    | cons v vs =>
     obtain⟨hv,hvs⟩:=ha;rw [auC hF h1 hv,XM hF h2 hvs];rfl
theorem adr:∀ {l:List AV} {xs ρ ρ':List Wd},bw l xs ρ=some ρ'->∃ τ,ρ'=ρ++τ/\∀ ρF,oQ ρ' ρF->ay (E0 ρF) l=OT xs
 | [],[],ρ,ρ',h=>by
  unfold bw at h; injection h with h; subst h;exact⟨[],by simp,fun _ _=>rfl⟩
 | .opq i::l,x::xs,ρ,ρ',h=>by
  unfold bw at h;simp only [oG] at h
  cases hi:Nat.beq i (aF ρ) with
  | false=>rw [hi] at h; cases h
  | true =>
   rw [hi] at h;rw [beq_iff] at hi;obtain⟨τ,rfl,h3⟩:=adr (l:=l) h;refine⟨x::τ,by simp,fun ρF hF=>?_⟩;have:ρF i=wv x:=hF i x (by rw [hi]; unfold aF; simp);show ρF i::ay (E0 ρF) l=wv x::OT xs;rw [h3 ρF hF,this]
 | .opq _::_,[],_,_,h=>by cases h
 | [],_::_,_,_,h=>by cases h
 | .lit _::_,_,_,_,h=>by unfold bw at h; cases h
 | .ptr _ _::_,_,_,_,h=>by unfold bw at h; cases h
 | .slc _ _ _ _::_,_,_,_,h=>by unfold bw at h; cases h
 | .row _ _::_,_,_,_,h=>by unfold bw at h; cases h
 | .fn _ _ _::_,_,_,_,h=>by unfold bw at h; cases h
 | .qC _ _::_,_,_,_,h=>by unfold bw at h; cases h
 | .agg _::_,_,_,_,h=>by unfold bw at h; cases h
 | .jm _::_,_,_,_,h=>by unfold bw at h; cases h
theorem aly{a:AV}{o:MO}{ρ ρ':List Wd}(h:b1 a o ρ=some ρ'):∃ τ,ρ'=ρ++τ/\∀ ρF,oQ ρ' ρF->a.aA (E0 ρF)=o.val:=by
 unfold b1 at h;split at h
 . rename_i i x
   obtain⟨τ,h1,h2⟩:=adr h;refine⟨τ,h1,fun ρF hF=>?_⟩;have:=h2 ρF hF;injection this
 . rename_i cs xs
   obtain⟨τ,h1,h2⟩:=adr h;refine⟨τ,h1,fun ρF hF=>?_⟩;show Value.agg (ay (E0 ρF) cs).toArray=.agg (OT xs).toArray;rw [h2 ρF hF]
 . cases h
theorem alz:∀ {l:List AV} {os:List MO} {ρ ρ':List Wd},bl l os ρ=some ρ'->∃ τ,ρ'=ρ++τ/\∀ ρF,oQ ρ' ρF->ay (E0 ρF) l=MO.vals os
 | [],[],ρ,ρ',h=>by
  unfold bl at h; injection h with h; subst h;exact⟨[],by simp,fun _ _=>rfl⟩
 | a::l,o::os,ρ,ρ',h=>by
  unfold bl at h
  cases hb:b1 a o ρ with
  | none=>rw [hb] at h; cases h
  | some ρ1 =>
   rw [hb] at h;obtain⟨τ1,rfl,c1⟩:=aly hb;obtain⟨τ,rfl,c2⟩:=alz (l:=l) h;refine⟨τ1++τ,by simp,fun ρF hF=>?_⟩;show a.aA (E0 ρF)::ay (E0 ρF) l=o.val::MO.vals os;rw [c1 ρF hF.of_append,c2 ρF hF]
 | [],_::_,_,_,h=>by cases h
 | _::_,[],_,_,h=>by cases h
theorem auD{a:AV}{o:MO}{ρ ρ':List Wd}(h:bo a o ρ=some ρ'):∃ τ,ρ'=ρ++τ/\∀ ρF,oQ ρ' ρF->a.aA (E0 ρF)=o.val:=by
 unfold bo at h;split at h
 . rename_i l os
   obtain⟨τ,h1,h2⟩:=alz h;refine⟨τ,h1,fun ρF hF=>?_⟩;show Value.tuple (ay (E0 ρF) l).toArray=.tuple (MO.vals os).toArray;rw [h2 ρF hF]
 . exact aly h
theorem XO{ρ:List Wd}{ρF:Nat->Value}(hF:oQ ρ ρF){a:AV}{o:MO}(h:OU ρ a=some o):a.aA (E0 ρF)=o.val:=by
 unfold OU at h;split at h
 . rename_i cs
   cases hc:Iu ρ cs with
   | none=>rw [hc] at h; cases h
   | some xs =>
    rw [hc] at h;injection h with h;subst h;show Value.agg (ay (E0 ρF) cs).toArray=.agg (OT xs).toArray;rw [OV hF hc]
 . cases hc:pw ρ a with
   | some x =>
    rw [hc] at h;injection h with h;subst h;exact adq hF hc
   | none =>
    rw [hc] at h;simp only [] at h;split at h
    . injection h with h
      subst h;rfl
    . cases h
theorem XP{ρ:List Wd}{ρF:Nat->Value}(hF:oQ ρ ρF):∀ {l:List AV} {os:List MO},FT ρ l=some os->ay (E0 ρF) l=MO.vals os
 | [],os,h=>by unfold FT at h; injection h with h; subst h; rfl
 | a::l,os,h=>by
  unfold FT at h
  cases hc:OU ρ a with
  | none=>rw [hc] at h; cases h
  | some x =>
   cases hl:FT ρ l with
   | none=>rw [hc,hl] at h; cases h
   | some qs =>
    rw [hc,hl] at h;injection h with h;subst h;show a.aA (E0 ρF)::ay (E0 ρF) l=x.val::MO.vals qs;rw [XO hF hc,XP hF hl]
theorem an1{ρ:List Wd}{ρF:Nat->Value}(hF:oQ ρ ρF){a:AV}{o:MO}(h:adp ρ a=some o):a.aA (E0 ρF)=o.val:=by
 unfold adp at h;split at h
 . rename_i vs
   cases hc:FT ρ vs with
   | none=>rw [hc] at h; cases h
   | some os =>
    rw [hc] at h;injection h with h;subst h;show Value.tuple (ay (E0 ρF) vs).toArray=.tuple (MO.vals os).toArray;rw [XP hF hc]
 . exact XO hF h
structure pV where
 f:FuncId
 fn:List MA->Option MO
 ok:∀ us o,fn us=some o->∀ w:World,Calls Tryz.prog f (us.map MA.val).toArray w fun e w'=>e=.returned o.val/\ah w w' []
def OX:List pV->FuncId->Option pV
 | [],_=>none
 | e::l,f=>bif Nat.beq e.f f then some e else OX l f
theorem XQ:∀ {l:List pV} {f:FuncId} {e:pV},OX l f=some e->e.f=f
 | [],f,e,h=>by cases h
 | x::l,f,e,h=>by
  unfold OX at h
  cases hb:Nat.beq x.f f with
  | true =>
   rw [hb] at h;injection h with h;subst h;exact beq_iff.1 hb
  | false=>rw [hb] at h; exact XQ h
inductive OW where
 | call (f:FuncId) (us:List MA) (v:Value)
 | test (p:Pr) (xs:List Wd) (b:Bool)
def Bh:OW->Prop
 | .call f us v=>∀ w:World,Calls Tryz.prog f (us.map MA.val).toArray w fun e w'=>e=.returned v/\ah w w' []
 | .test p xs b=>uJ Tryz.prog p (OT xs) (.bool b)
def ar0:AV->Option Value
 | .lit v=>some v
 | _=>none
def Dt(tab:List pV):List Ev->List Wd->List OW->Option (List Wd×List OW)
 | [],ρ,obs=>some (ρ,obs)
 | .call f args out::l,ρ,obs=>match XK ρ args with
  | none=>none
  | some us=>match OX tab f with
   | some e=>match e.fn us with
    | some o=>match bo out o ρ with | some ρ'=>fL ρ' fun ρ'=>Dt tab l ρ' obs | none=>none
    | none=>none
   | none=>match ar0 out with | some v=>Dt tab l ρ (.call f us v::obs) | none=>none
 | .yx p xs out::l,ρ,obs=>match Iu ρ xs,out with
  | some ws,.lit (.bool b)=>fL (ρ++[kW 0]) fun ρ'=>Dt tab l ρ' (.test p ws b::obs)
  | _,_=>none
 | .loop _ _ _ _ _::_,_,_=>none
theorem JG{tab:List pV}:∀ {δ:List Ev} {ρ ρ':List Wd} {obs obs':List OW},Dt tab δ ρ obs=some (ρ',obs')->(∀ ob∈obs',Bh ob) ->
 (∃ τ,ρ'=ρ++τ)/\(∀ ob∈obs,Bh ob)/\∀ ρF,oQ ρ' ρF->gX (EF Tryz.prog) ρF δ () ()
 | [],ρ,ρ',obs,obs',h,ho=>by
  unfold Dt at h;injection h with h; injection h with h1 h2;subst h1 h2;exact⟨⟨[],by simp⟩,ho,fun _ _=>rfl⟩
 | .loop _ _ _ _ _::_,ρ,ρ',obs,obs',h,ho=>by unfold Dt at h; cases h
 | .call f args out::l,ρ,ρ',obs,obs',h,ho=>by
  unfold Dt at h
  cases ha:XK ρ args with
  | none=>rw [ha] at h; cases h
  | some us =>
   rw [ha] at h;simp only [] at h
   cases hf:OX tab f with
   | some e =>
    rw [hf] at h;simp only [] at h
    cases hv:e.fn us with
    | none=>rw [hv] at h; cases h
    | some o =>
     rw [hv] at h;simp only [] at h
     cases hb:bo out o ρ with
     | none=>rw [hb] at h; cases h
     | some ρ1 =>
      rw [hb] at h;simp only [oG] at h;obtain⟨τ1,rfl,c1⟩:=auD hb;obtain⟨⟨τ,rfl⟩,h3,h4⟩:=JG (δ:=l) h ho;refine⟨⟨τ1++τ,by simp⟩,h3,fun ρF hF=>⟨(),?_,h4 ρF hF⟩⟩;intro w xs hxs;have e1:=XM hF.of_append.of_append ha hxs;subst e1;rw [c1 ρF hF.of_append];have:=e.ok us o hv w;rw [XQ hf] at this;exact this
   | none =>
    rw [hf] at h;simp only [] at h
    cases hl:ar0 out with
    | none=>rw [hl] at h; cases h
    | some v =>
     rw [hl] at h;simp only [] at h;obtain⟨⟨τ,rfl⟩,h3,h4⟩:=JG (δ:=l) h ho;refine⟨⟨τ,rfl⟩,fun ob hob=>h3 ob (by simp [hob]),fun ρF hF=>⟨(),?_,h4 ρF hF⟩⟩;intro w xs hxs;have e1:=XM hF.of_append ha hxs;subst e1
     have e2:out=.lit v:=by
      cases out<;>first | (injection hl with hl; rw [hl]) | cases hl
     subst e2;have h5:Bh (.call f us v):=h3 _ (by simp);exact h5 w
 | .yx p xs out::l,ρ,ρ',obs,obs',h,ho=>by
  unfold Dt at h
  cases hx:Iu ρ xs with
  | none=>rw [hx] at h; cases h
  | some ws =>
   rw [hx] at h;split at h
   . rename_i ws' b heq
     injection heq with heq;subst heq;simp only [oG] at h;obtain⟨⟨τ,rfl⟩,h3,h4⟩:=JG (δ:=l) h ho;refine⟨⟨kW 0::τ,by simp⟩,fun ob hob=>h3 ob (by simp [hob]),fun ρF hF=>⟨(),⟨?_,rfl⟩,h4 ρF hF⟩⟩;rw [OV hF.of_append.of_append hx];have h5:Bh (.test p ws b):=h3 _ (by simp);exact h5
   . cases h
def FU(cx:Cx)(tab:List pV)(fuel:Nat)(f:FuncId)(args:List AV)(ins:List Wd):Option (MO×List OW) :=
 match iK cx fuel f args ⟨.nil,0,aF ins⟩ with
 | some (v,_,δ)=>bif v.lt 0&&iE 0 args&&MB (aF ins) args then(match Dt tab δ ins [] with
  | some (ρ,obs)=>match adp ρ v with | some o=>some (o,obs) | none=>none
  | none=>none) else none
 | none=>none
theorem sZ{lits:List (FuncId×AV)}{shs:List (FuncId×Sh)}{br:List (Nat×Bool)}{tab:List pV}{fuel:Nat}{f:FuncId}{args:List AV}{ins:List Wd}{o:MO}{obs:List OW}
 (h:FU (dn lits shs br) tab fuel f args ins=some (o,obs)) (ho:∀ ob∈obs,Bh ob) {vs:List Value} (hvs:ay (Bg ins) args=vs) (w:World) :
 Calls Tryz.prog f vs.toArray w fun e w'=>e=.returned o.val/\ah w w' []:=by
 unfold FU at h
 cases hc:iK (dn lits shs br) fuel f args ⟨.nil,0,aF ins⟩ with
 | none=>rw [hc] at h; cases h
 | some q =>
  obtain⟨v,g',δ⟩:=q;rw [hc] at h;simp only [] at h
  cases hk:(v.lt 0&&iE 0 args&&MB (aF ins) args) with
  | false=>rw [hk] at h; cases h
  | true =>
   rw [hk] at h;simp only [cond_true] at h;simp only [Bool.and_eq_true] at hk;obtain⟨⟨k1,k2⟩,k3⟩:=hk
   cases hr:Dt tab δ ins [] with
   | none=>rw [hr] at h; cases h
   | some q2 =>
    obtain⟨ρ,obs'⟩:=q2;rw [hr] at h;simp only [] at h
    cases hpo:adp ρ v with
    | none=>rw [hpo] at h; cases h
    | some o' =>
     rw [hpo] at h;injection h with h; injection h with h1 h2;subst h1 h2;obtain⟨⟨τ,hτ⟩,_,hrun⟩:=JG hr ho
     have hF:oQ ρ (Bg ρ).ρ:=fun i x hx=>by
      show wv (ρ.getD i _)=wv x;simp [List.getD,hx]
     obtain⟨_,hcall⟩:=z_ (cx:=dn lits shs br) (M:=EF Tryz.prog) (ρv:=(Bg ρ).ρ) (by kernel_rfl) (fun t n g h=>by cases h) (fun i=>rfl) (tX.none fun _=>rfl) fuel |>.2 f args ⟨.nil,0,aF ins⟩ v g' δ hc;have hrep:Rep (EF Tryz.prog) (Bg ρ) () (⟨.nil,0,aF ins⟩:G).at 0 w:=⟨trivial,(fun b B hb=>by have:=dQ hb; cases this),(fun b b' B B' hb=>by have:=dQ hb; cases this),(fun b B hb=>by have:=dQ hb; cases this),(fun b B hb=>dQ hb)⟩
     have hcl:=hcall (Bg ρ) () () w rfl hrep (fun u hu=>by
      unfold AV.lt;rw [aI,pow_eq];refine dP fun q hq=>?_;have:=kE k2 (fF hu hq)
      omega) (hrun _ hF)
     have Np:oQ ins (Bg ρ).ρ:=by subst hτ; exact hF.of_append
     have eargs:ay (Bg ρ) args=vs:=by
      rw [<- hvs];exact CO Np args k3
     rw [eargs] at hcl;refine hcl.mono ?_;rintro e w' ⟨E',rfl,hw⟩;refine⟨?_,?_⟩
     . rw [n_ (E:=Bg ρ) (E':=E') k1 hw.rho]
       have:=an1 hF hpo;rw [show v.aA (Bg ρ)=o'.val from this]
     . refine Fr.aj (hw.fr.more fun k _ hk=>?_)
       rcases hk with hk | ⟨b,B,hb,_⟩
       . exact hk
       . have:=dQ hb; cases this
def W1 (F:Wd->MO):List MA->Option MO
 | [.w a]=>some (F a)
 | _=>none
def W2 (F:Wd->Wd->MO):List MA->Option MO
 | [.w a,.w b]=>some (F a b)
 | _=>none
def W3 (F:Wd->Wd->Wd->MO):List MA->Option MO
 | [.w a,.w b,.w c]=>some (F a b c)
 | _=>none
def WA3 (F:Wd->Wd->Wd->MO):List MA->Option MO
 | [.a [a,b,c]]=>some (F a b c)
 | _=>none
def WA4 (F:Wd->Wd->Wd->Wd->MO):List MA->Option MO
 | [.a [a,b,c,d]]=>some (F a b c d)
 | _=>none
def ar1 (F:Wd->Wd->Wd->Wd->Wd->Wd->Wd->MO):List MA->Option MO
 | [.a [a,b,c,d],.a [x,y,z]]=>some (F a b c d x y z)
 | _=>none
def ew1(f:FuncId)(F:Wd->MO)(h:∀(a:Wd) (w:World),Calls Tryz.prog f #[.int .i32 a.v] w fun e w'=>e=.returned (F a).val/\ah w w' []):pV where
 f:=f
 fn:=W1 F
 ok:=fun us o hv w=>by
  unfold W1 at hv;split at hv
  . injection hv with hv; subst hv; exact h _ w
  . cases hv
def ew2(f:FuncId)(F:Wd->Wd->MO)(h:∀(a b:Wd) (w:World),Calls Tryz.prog f #[.int .i32 a.v,.int .i32 b.v] w fun e w'=>e=.returned (F a b).val/\ah w w' []):pV where
 f:=f
 fn:=W2 F
 ok:=fun us o hv w=>by
  unfold W2 at hv;split at hv
  . injection hv with hv; subst hv; exact h _ _ w
  . cases hv
def ew3(f:FuncId)(F:Wd->Wd->Wd->MO)(h:∀(a b c:Wd) (w:World),Calls Tryz.prog f #[.int .i32 a.v,.int .i32 b.v,.int .i32 c.v] w fun e w'=>e=.returned (F a b c).val/\ah w w' []):pV where
 f:=f
 fn:=W3 F
 ok:=fun us o hv w=>by
  unfold W3 at hv;split at hv
  . injection hv with hv; subst hv; exact h _ _ _ w
  . cases hv
def axo(f:FuncId)(F:Wd->Wd->Wd->MO)(h:∀(a b c:Wd) (w:World),Calls Tryz.prog f #[.agg #[.int .i32 a.v,.int .i32 b.v,.int .i32 c.v]] w fun e w'=>e=.returned (F a b c).val/\ah w w' []):pV where
 f:=f
 fn:=WA3 F
 ok:=fun us o hv w=>by
  unfold WA3 at hv;split at hv
  . injection hv with hv; subst hv; exact h _ _ _ w
  . cases hv
def aj9(f:FuncId)(F:Wd->Wd->Wd->Wd->MO)(h:∀(a b c d:Wd) (w:World),Calls Tryz.prog f #[.agg #[.int .i32 a.v,.int .i32 b.v,.int .i32 c.v,.int .i32 d.v]] w fun e w'=>e=.returned (F a b c d).val/\ah w w' []):pV where
 f:=f
 fn:=WA4 F
 ok:=fun us o hv w=>by
  unfold WA4 at hv;split at hv
  . injection hv with hv; subst hv; exact h _ _ _ _ w
  . cases hv
def ads(f:FuncId)(F:Wd->Wd->Wd->Wd->Wd->Wd->Wd->MO)(h:∀(a b c d x y z:Wd) (w:World),Calls Tryz.prog f #[.agg #[.int .i32 a.v,.int .i32 b.v,.int .i32 c.v,.int .i32 d.v],.agg #[.int .i32 x.v,.int .i32 y.v,.int .i32 z.v]] w fun e w'=>e=.returned (F a b c d x y z).val/\ah w w' []):pV where
 f:=f
 fn:=ar1 F
 ok:=fun us o hv w=>by
  unfold ar1 at hv;split at hv
  . injection hv with hv; subst hv; exact h _ _ _ _ _ _ _ w
  . cases hv
theorem XR:∀ ob∈([]:List OW),Bh ob:=fun ob h=>by cases h
theorem Iw{a:OW}{l:List OW}(ha:Bh a)(hl:∀ ob∈l,Bh ob):∀ ob∈a::l,Bh ob:=fun ob h=>by
 rcases List.mem_cons.1 h with rfl | h
 . exact ha
 . exact hl ob h
