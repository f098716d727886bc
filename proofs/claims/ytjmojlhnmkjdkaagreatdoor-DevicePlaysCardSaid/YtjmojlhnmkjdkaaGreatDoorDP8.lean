/- Texts of this claim, side by side. -/
import Derived.RangeFuncNested
import Derived.OrdersIn
import Derived.Test.YtjmojlhnmkjdkaaGreatDoorXiVD
set_option linter.unusedVariables false
namespace Go.Proofs.YtjmojlhnmkjdkaaGreatDoor
namespace Xi
open Go Go.RowKit
theorem amq{ops:Array Oper}(h:backward 0 ops.toList=true)(i:Nat)(o:Oper)(ho:ops[i]?=some o)(e:Edge)(he:e∈o.after)(hb:Region.binds .any e=true):e.on<i:=by
 have:=yD h i o (by rwa [Array.getElem?_toList]) e he hb;omega
def xP (t:Nat):List Oper->Nat->Option Nat
 | [],_=>none
 | o::l,i=>match o.dst with
  | some d=>bif Nat.beq d t then some i else xP t l (i+1)
  | none=>xP t l (i+1)
def xQ (ops:Array Oper) (t:Nat):Option Nat:=xP t ops.toList 0
theorem sK{t:Nat}:∀ {l:List Oper} {i k:Nat},xP t l i=some k->∃ o,l[k - i]?=some o/\o.dst=some t/\i<=k
 | [],i,k,h=>by cases h
 | o::l,i,k,h=>by
  unfold xP at h;split at h
  . rename_i d hd
    cases hb:Nat.beq d t with
    | true =>
     rw [hb] at h;injection h with h;subst h;exact⟨o,by simp,by rw [hd,beq_iff.1 hb],Nat.le_refl _⟩
    | false =>
     rw [hb] at h;obtain⟨o',h1,h2,h3⟩:=sK (l:=l) h;refine⟨o',?_,h2,by omega⟩;rw [show k - i=(k - (i+1))+1 by omega]
     simpa using h1
  . obtain⟨o',h1,h2,h3⟩:=sK (l:=l) h
    refine⟨o',?_,h2,by omega⟩;rw [show k - i=(k - (i+1))+1 by omega]
    simpa using h1
def ownB(ops:Array Oper)(n:Nat):Bool:=(List.range ops.size).all fun i=>match ops[i]? with
 | some o=>match o.dst with
  | some d=>Nat.blt d n&&(xQ ops d==some i)
  | none=>true
 | none=>true
theorem aeU{ops:Array Oper}{n:Nat}(h:ownB ops n=true){i:Nat}{o:Oper}{d:Nat}(ho:ops[i]?=some o)(hd:o.dst=some d):d<n/\xQ ops d=some i:=by
 have hi:i<ops.size:=(Array.getElem?_eq_some_iff.1 ho).1;have:=List.all_eq_true.1 h i (List.mem_range.2 hi);simp only [ho,hd,Bool.and_eq_true,aI] at this;exact⟨this.1,by simpa using this.2⟩
section
variable {Γ:Type} (ops:Array Oper) (t0:Array Value) (val:Γ->Nat->Value)
def uT (γ:Γ) (L:Nat->Bool) (t:Nat):Value:=match xQ ops t with
 | some i=>bif L i then val γ i else t0.getD t undef
 | none=>t0.getD t undef
def EP(n:Nat)(γ:Γ):Array Value:=((List.range n).map (uT ops t0 val γ fun _=>true)).toArray
structure awU (df:List Deferred) (n:Nat) (Wd:Γ->(Nat->Bool)->World->Prop) (L:Nat->Bool) (a:Act) (w:World) (γ:Γ):Prop where
 df:a.defers=df
 sz:a.tmps.size=n
 tm:∀ t,t<n->a.tmps.getD t undef=uT ops t0 val γ L t
 wd:Wd γ L w
end
theorem amr{Γ:Type}{ops:Array Oper}{t0:Array Value}{val:Γ->Nat->Value}{γ:Γ}{L:Nat->Bool}{a:Act}(ak:∀ t,t<t0.size->a.tmps.getD t undef=uT ops t0 val γ L t){t i:Nat}(ht:Nat.blt t t0.size=true)(hs:xQ ops t=some i)(hL:L i=true):a.tmps.getD t undef=val γ i:=by
 rw [ak t (aI.1 ht)];unfold uT;rw [hs];simp only [hL,cond_true]
theorem aeV{Γ:Type}{ops:Array Oper}{t0:Array Value}{val:Γ->Nat->Value}{γ:Γ}{L:Nat->Bool}{a:Act}(ak:∀ t,t<t0.size->a.tmps.getD t undef=uT ops t0 val γ L t){t:Nat}(ht:Nat.blt t t0.size=true)(hs:xQ ops t=none):a.tmps.getD t undef=t0.getD t undef:=by
 rw [ak t (aI.1 ht)];unfold uT;rw [hs]
theorem aJ{Γ:Type}{ops:Array Oper}{t0:Array Value}{val:Γ->Nat->Value}{γ:Γ}{L:Nat->Bool}{a:Act}(ak:∀ t,t<t0.size->a.tmps.getD t undef=uT ops t0 val γ L t)(t i:Nat)(h:(Nat.blt t t0.size&&xQ ops t==some i)=true)(hL:L i=true):a.tmps.getD t undef=val γ i:=by
 rw [Bool.and_eq_true] at h;exact amr ak h.1 (by simpa using h.2) hL
theorem fM{Γ:Type}{ops:Array Oper}{t0:Array Value}{val:Γ->Nat->Value}{γ:Γ}{L:Nat->Bool}{a:Act}(ak:∀ t,t<t0.size->a.tmps.getD t undef=uT ops t0 val γ L t)(t:Nat)(h:(Nat.blt t t0.size&&xQ ops t==none)=true):a.tmps.getD t undef=t0.getD t undef:=by
 rw [Bool.and_eq_true] at h;exact aeV ak h.1 (by simpa using h.2)
theorem au{P:Program}{o:Oper}{a:Act}{w w':World}{K:Act->World->Prop}{Q:Exit->Act->World->Prop}{v:Value}(he:(execOp a.eval o).run P w=.ok (.value v) w')(hk:K (a.put o.dst v) w'):o.wp P a w K Q:=by
 unfold Oper.wp;rw [he];exact hk
theorem uf{P:Program}{o:Oper}{a:Act}{w w':World}{K:Act->World->Prop}{Q:Exit->Act->World->Prop}(he:(execOp a.eval o).run P w=.ok .skip w')(hk:K (a.put o.dst undef) w'):o.wp P a w K Q:=by
 unfold Oper.wp;rw [he];exact hk
theorem gU{P:Program}{o:Oper}{a:Act}{w:World}{K:Act->World->Prop}{Q:Exit->Act->World->Prop}{f:FuncId}{args:Array Value}{R:Ending->World->Prop}(he:(execOp a.eval o).run P w=.ok (.enter f args) w)(hc:Calls P f args w R)
 (hk:∀ e w',R e w'->∃ v,e=.returned v/\K (a.put o.dst v) w'):o.wp P a w K Q:=by
 unfold Oper.wp;rw [he];refine hc.mono fun e w' hr=>?_;obtain⟨v,rfl,h⟩:=hk e w' hr;exact h
def akW {Γ:Type} (P:Program) (ops:Array Oper) (t0:Array Value) (val:Γ->Nat->Value) (Wd:Γ->(Nat->Bool)->World->Prop) (i:Nat) (o:Oper):Prop :=
 ∀(L:Nat->Bool) (a:Act) (w:World) (γ:Γ),qF ops (fun j=>L j=true)->(∀ t,t<t0.size->a.tmps.getD t undef=uT ops t0 val γ L t)->Wd γ L w->L i=false->(∀ e∈o.after,Region.binds .any e=true->L e.on=true) ->
  (∀(K:Act->World->Prop) (Q:Exit->Act->World->Prop),(∀ γ' w',(∀ j,L j=true->val γ' j=val γ j)->Wd γ' (fun j=>if j=i then true else L j) w'->K (a.put o.dst (match o.dst with | some _=>val γ' i | none=>undef)) w')->o.wp P a w K Q)
def ER:List (Nat×Bool)->Nat->Option Bool
 | [],_=>none
 | (k,v)::l,n=>bif Nat.beq k n then some v else ER l n
theorem Vj{k:Nat}{v:Bool}:∀ {l:List (Nat×Bool)},ER l k=some v->(k,v)∈l
 | [],h=>by cases h
 | (k',v')::l,h=>by
  unfold ER at h
  cases hb:Nat.beq k' k with
  | true =>
   rw [hb] at h;injection h with h;rw [beq_iff.1 hb,h];exact List.mem_cons_self
  | false =>
   rw [hb] at h;exact List.mem_cons_of_mem _ (Vj h)
def Jg(gs:List (Nat×Bool))(o:Oper):Bool:=match o.guard with
 | none=>true
 | some (k,b)=>ER gs k==some b
def PW(ops:Array Oper)(gs:List (Nat×Bool)):Bool:=ops.toList.all fun o=>match o.guard with
 | none=>true
 | some (k,_)=>(ER gs k).isSome&&(o.after.toList.any fun e=>Nat.beq e.on k&&Region.binds .any e)&&(match ops[k]? with | some og=>og.dst.isSome | none=>false)
theorem aeW{ops:Array Oper}{gs:List (Nat×Bool)}(h:PW ops gs=true){i:Nat}{o:Oper}(ho:ops[i]?=some o){k:Nat}{b:Bool}(hg:o.guard=some (k,b)) :
 ∃ v,ER gs k=some v/\(∃ e∈o.after,e.on=k/\Region.binds .any e=true)/\∃ og d,ops[k]?=some og/\og.dst=some d:=by
 have hm:o∈ops.toList:=by
  rw [<- Array.getElem?_toList] at ho;exact List.mem_of_getElem? ho
 have:=List.all_eq_true.1 h o hm;rw [hg] at this;simp only [Bool.and_eq_true,List.any_eq_true] at this;obtain⟨⟨h1,e,he,h2⟩,h3⟩:=this
 cases hv:ER gs k with
 | none=>rw [hv] at h1; cases h1
 | some v =>
 refine⟨v,rfl,⟨e,by simpa using he,beq_iff.1 h2.1,h2.2⟩,?_⟩
 cases hk:ops[k]? with
 | none=>rw [hk] at h3; cases h3
 | some og =>
  rw [hk] at h3
  cases hd:og.dst with
  | none=>simp only [hd] at h3; cases h3
  | some d=>exact⟨og,d,rfl,hd⟩
theorem abK{Γ:Type}{P:Program}{ops:Array Oper}{id:Nat}{Q:Exit->Act->World->Prop}(hm:P.follows .mixedOrders=true)(t0:Array Value)(df:List Deferred)(val:Γ->Nat->Value)(Wd:Γ->(Nat->Bool)->World->Prop)(γ0:Γ){w:World}
 (hback:backward 0 ops.toList=true) (gs:List (Nat×Bool)) (hguard:PW ops gs=true) (hgs:∀ p∈gs,∀ γ,val γ p.1=.bool p.2) (hown:ownB ops t0.size=true)
 (hstep:∀ i o,ops[i]?=some o->Jg gs o=true->akW P ops t0 val Wd i o)
 (hskip:∀ i o,ops[i]?=some o->Jg gs o=false->∀ γ,val γ i=undef/\∀ L w,Wd γ L w->Wd γ (fun j=>if j=i then true else L j) w)
 (h0:Wd γ0 (fun _=>false) w.drew)
 (hend:∀ γ w',Wd γ (fun _=>true) w'->Q .normal { tmps:=EP ops t0 val t0.size γ,defers:=df } w')
 (hext:∀ γ (L L':Nat->Bool) w',(∀ j,j<ops.size->L j=L' j)->Wd γ L w'->Wd γ L' w') :
 (Code.region id ops true).wp P Q { tmps:=t0,defers:=df } w:=by
 refine wp_region_any hm ?_;refine Zt (fun L a w=>∃ γ,awU ops t0 val df t0.size Wd L a w γ) (fun i o ho e he hb=>amq hback i o ho e he hb) ?_ ?_ ops.size _ _ _ (by simp) ?_ ?_ ?_
 . intro L a w' i o K hLs hdn hJ ho hL hpre hK
   obtain⟨γ,hI⟩:=hJ;have hin:i<ops.size:=(Array.getElem?_eq_some_iff.1 ho).1;unfold wpOp;rw [ho]
   have hw:Region.wanted o (yielded ops a.tmps)=Jg gs o:=by
    unfold Region.wanted Jg
    cases hg:o.guard with
    | none=>rfl
    | some q =>
     obtain⟨k,b⟩:=q;obtain⟨v,hmem,⟨e,he,hk,hb⟩,og,d,hog,hd⟩:=aeW hguard ho hg;have hLk:L.getD k false=true:=by have:=hpre e he hb; rwa [hk] at this
     obtain⟨hdn',hso⟩:=aeU hown hog hd;have ht:=hI.tm d hdn';unfold uT at ht;rw [hso] at ht;simp only [hLk,cond_true] at ht;rw [hgs _ (Vj hmem) γ,Array.getD_eq_getD_getElem?,Array.getElem?_eq_getElem (by rw [hI.sz]; exact hdn'),Option.getD_some] at ht
     have hy:yielded ops a.tmps k=some v:=by
      unfold yielded;rw [hog];simp only [Option.bind_some,hd];rw [Array.getElem?_eq_getElem (by rw [hI.sz]; exact hdn'),ht]
     simp only [hy,hmem]
   have done:∀ γ' w2 a',(∀ j,L.getD j false=true->val γ' j=val γ j)->Wd γ' (fun j=>if j=i then true else L.getD j false) w2->a'=a.put o.dst (match o.dst with | some _=>val γ' i | none=>undef)->K a' w2:=fun γ' w2 a' hval hwd ha=>by
    subst ha;refine hK _ _ ⟨γ',?_⟩
    have e:(fun j=>(L.setIfInBounds i true).getD j false)=fun j=>if j=i then true else L.getD j false:=by
     funext j;exact G5 L i j (by omega)
    rw [e];refine⟨?_,?_,fun t ht=>?_,hwd⟩
    . cases hd:o.dst<;>simp [Act.put,hI.df]
    . cases hd:o.dst<;>simp [Act.put,hI.sz]
    . have ak:=hI.tm t ht
      have hold:uT ops t0 val γ (fun j=>L.getD j false) t=uT ops t0 val γ' (fun j=>L.getD j false) t:=by
       unfold uT;split
       . rename_i k hk
         cases hLk:L.getD k false with
         | false=>simp only [hLk,cond_false]
         | true=>simp only [hLk,cond_true]; exact(hval k hLk).symm
       . rfl
      cases hd:o.dst with
      | none =>
       show a.tmps.getD t undef=_;rw [ak,hold];unfold uT;split
       . rename_i k hk
         obtain⟨o',h1,h2,_⟩:=sK hk
         have hne:k≠i:=fun e=>by
          subst e;rw [Nat.sub_zero,Array.getElem?_toList] at h1;rw [ho] at h1;injection h1 with h1;subst h1;rw [hd] at h2;cases h2
         simp only [if_neg hne]
       . rfl
      | some d =>
       obtain⟨hdn',hso⟩:=aeU hown ho hd;by_cases hdt:d=t
       . subst hdt
         simp only [Act.put,Array.getD_eq_getD_getElem?];rw [Array.getElem?_setIfInBounds_self_of_lt (by rw [hI.sz]; exact hdn')];unfold uT;rw [hso];simp
       . have e2 : (a.put (some d) (val γ' i)).tmps.getD t undef=a.tmps.getD t undef := by
          simp only [Act.put,Array.getD_eq_getD_getElem?];rw [Array.getElem?_setIfInBounds_ne hdt]
         show(a.put (some d) (val γ' i)).tmps.getD t undef=_;rw [e2,ak,hold];unfold uT;split
         . rename_i k hk
           have hne:k≠i:=fun e=>by
            subst e;obtain⟨o',h1,h2,_⟩:=sK hk;rw [Nat.sub_zero,Array.getElem?_toList] at h1;rw [ho] at h1;injection h1 with h1;subst h1;rw [hd] at h2;injection h2 with h2;exact hdt h2
           simp only [if_neg hne]
         . rfl
   cases hwn:Jg gs o with
   | true =>
    simp only [hw,hwn,if_true];exact .inl (hstep i o ho hwn (fun j=>L.getD j false) a w' γ hdn hI.tm hI.wd hL hpre K Q fun γ' w2 hval hwd=>done γ' w2 _ hval hwd rfl)
   | false =>
    simp only [hw,hwn];obtain⟨hu,hwd⟩:=hskip i o ho hwn γ;refine done γ w' _ (fun _ _=>rfl) (hwd _ _ hI.wd) ?_
    cases hd:o.dst with
    | none=>rfl
    | some d=>simp only [hu]
 . intro L a w' hLs hall hJ
   obtain⟨γ,hI⟩:=hJ
   have e:a={ tmps:=EP ops t0 val t0.size γ,defers:=df }:=by
    have h1:a.tmps=EP ops t0 val t0.size γ:=by
     apply Array.ext
     . rw [hI.sz]; simp [EP]
     . intro t ht1 ht2
       have ht:t<t0.size:=by rw [<- hI.sz]; exact ht1
       have:=hI.tm t ht;rw [Array.getD_eq_getD_getElem?,Array.getElem?_eq_getElem ht1] at this;simp only [Option.getD_some] at this;rw [this];simp only [EP,List.getElem_toArray,List.getElem_map,List.getElem_range];unfold uT;split
       . rename_i k hk
         obtain⟨o',h1,_,_⟩:=sK hk;rw [Nat.sub_zero,Array.getElem?_toList] at h1;show(bif L.getD k false then val γ k else t0.getD t undef)=_;rw [hall k (Array.getElem?_eq_some_iff.1 h1).1]
       . rfl
    have h2:=hI.df;cases a;simp only at h1 h2;rw [h1,h2]
   rw [e];exact hend γ w' (hext γ _ _ w' (fun j hj=>hall j hj) hI.wd)
 . unfold unl
   exact Nat.le_trans (List.length_filter_le _ _) (by simp)
 . intro k o hk hl
   simp [Array.getD] at hl
 . have e : (fun j=>(Array.replicate ops.size false).getD j false)=fun _=>false := by
    funext j;simp [Array.getD]
   rw [e];refine⟨γ0,rfl,rfl,fun t ht=>?_,h0⟩;unfold uT;split<;>rfl
theorem iC{Γ:Type}{P:Program}{ops:Array Oper}{id:Nat}{Q:Exit->Act->World->Prop}(hm:P.follows .mixedOrders=true)(t0:Array Value)(df:List Deferred)(val:Γ->Nat->Value)(Wd:Γ->(Nat->Bool)->World->Prop)(γ0:Γ){w:World}
 (hback:backward 0 ops.toList=true) (gs:List (Nat×Bool)) (hguard:(PW ops gs&&ops.toList.all (Jg gs))=true) (hgs:∀ p∈gs,∀ γ,val γ p.1=.bool p.2) (hown:ownB ops t0.size=true)
 (hstep:∀ i o,ops[i]?=some o->akW P ops t0 val Wd i o)
 (h0:Wd γ0 (fun _=>false) w.drew)
 (hend:∀ γ w',Wd γ (fun _=>true) w'->Q .normal { tmps:=EP ops t0 val t0.size γ,defers:=df } w')
 (hext:∀ γ (L L':Nat->Bool) w',(∀ j,j<ops.size->L j=L' j)->Wd γ L w'->Wd γ L' w') :
 (Code.region id ops true).wp P Q { tmps:=t0,defers:=df } w:=by
 rw [Bool.and_eq_true] at hguard;refine abK hm t0 df val Wd γ0 hback gs hguard.1 hgs hown (fun i o ho _=>hstep i o ho) (fun i o ho h=>?_) h0 hend hext
 have hmem:o∈ops.toList:=by
  rw [<- Array.getElem?_toList] at ho;exact List.mem_of_getElem? ho
 rw [List.all_eq_true.1 hguard.2 o hmem] at h;cases h
end Xi

namespace Xi
open Go Go.RowKit
def zo (v:Nat->Value):List Oper->Nat->Array Value->Array Value
 | [],_,t=>t
 | o::l,i,t=>match o.dst with
  | some d=>(zo v l (i+1) t).setIfInBounds d (v i)
  | none=>zo v l (i+1) t
theorem uU(v:Nat->Value):∀(l:List Oper) (i:Nat) (t:Array Value),(zo v l i t).size=t.size
 | [],_,_=>rfl
 | o::l,i,t=>by
  unfold zo;split
  . rw [Array.size_setIfInBounds,uU v l]
  . exact uU v l _ _
theorem Vk(v:Nat->Value)(t:Array Value)(k:Nat)(hk:k<t.size):∀(l:List Oper) (i:Nat),(zo v l i t).getD k undef=match xP k l i with
  | some m=>v m
  | none=>t.getD k undef
 | [],_=>rfl
 | o::l,i=>by
  have ih:=Vk v t k hk l (i+1);unfold zo xP
  cases hd:o.dst with
  | none=>exact ih
  | some d =>
   simp only
   cases hb:Nat.beq d k with
   | true =>
    have e:d=k:=beq_iff.1 hb;subst e;simp only [cond_true,Array.getD_eq_getD_getElem?];rw [Array.getElem?_setIfInBounds_self_of_lt (by rw [uU]; exact hk)];rfl
   | false =>
    have e:d≠k:=fun e=>by rw [e,beq_iff.2 rfl] at hb; cases hb
    simp only [cond_false];rw [<- ih];simp only [Array.getD_eq_getD_getElem?];rw [Array.getElem?_setIfInBounds_ne e]
theorem jc{Γ:Type}(ops:Array Oper)(t0:Array Value)(val:Γ->Nat->Value)(γ:Γ):EP ops t0 val t0.size γ=zo (val γ) ops.toList 0 t0:=by
 apply Array.ext
 . rw [uU]; simp [EP]
 . intro k h1 h2
   have hk:k<t0.size:=by rw [uU] at h2; exact h2
   have e:=Vk (val γ) t0 k hk ops.toList 0;rw [Array.getD_eq_getD_getElem?,Array.getElem?_eq_getElem h2,Option.getD_some] at e;rw [e];simp only [EP,List.getElem_toArray,List.getElem_map,List.getElem_range];unfold uT xQ
   cases xP k ops.toList 0<;>rfl
def Jh (v:Nat->Value):List Oper->Nat->List Value->List Value
 | [],_,t=>t
 | o::l,i,t=>match o.dst with
  | some d=>(Jh v l (i+1) t).set d (v i)
  | none=>Jh v l (i+1) t
theorem gy(v:Nat->Value):∀(l:List Oper) (i:Nat) (t:List Value),zo v l i t.toArray=(Jh v l i t).toArray
 | [],_,_=>rfl
 | o::l,i,t=>by
  unfold zo Jh
  cases o.dst with
  | none=>exact gy v l (i+1) t
  | some d=>simp only [gy v l (i+1) t,List.setIfInBounds_toArray]
def oK (v:Nat->Value):List (Option Nat)->Nat->List Value->List Value
 | [],_,t=>t
 | o::l,i,t=>match o with
  | some d=>(oK v l (i+1) t).set d (v i)
  | none=>oK v l (i+1) t
theorem iM(v:Nat->Value):∀(l:List Oper) (i:Nat) (t:List Value),Jh v l i t=oK v (l.map (·.dst)) i t
 | [],_,_=>rfl
 | o::l,i,t=>by
  unfold Jh;rw [List.map_cons];unfold oK;rw [iM v l (i+1) t]
  cases o.dst<;>rfl
def aX (L:Nat->Bool):List Nat->Nat
 | []=>0
 | e::l=>match L e with
  | true=>aX L l+1
  | false=>0
theorem fC{L:Nat->Bool}{i:Nat}:∀ {es:List Nat},i∉es->aX (fun j=>if j=i then true else L j) es=aX L es
 | [],_=>rfl
 | e::l,h=>by
  unfold aX;have he:e≠i:=fun h'=>h (by simp [h']);have hl:i∉l:=fun h'=>h (by simp [h']);simp only [if_neg he,fC hl]
theorem FD{L L':Nat->Bool}:∀ {es:List Nat},(∀ e∈es,L e=L' e)->aX L es=aX L' es
 | [],_=>rfl
 | e::l,h=>by
  unfold aX;rw [h e (by simp),FD fun x hx=>h x (by simp [hx])]
