/- Texts of this claim, side by side: RoundIn, RegG, RegH, RegL. -/
import Derived.RangeFuncNested
import Derived.RangeFuncCalls
import Derived.OrdersIn
import Derived.TacticsIn
import Derived.Test.YtjegdngblndkcaaGreatDoorXiV
/- A region in whatever order, inside a round of a range over a function. -/
namespace Go.Proofs.YtjegdngblndkcaaGreatDoor.Xi
open Go Go.RowKit
set_option linter.unusedVariables false
theorem afJ {ops:Array Oper} (h:backward 0 ops.toList = true) (i:Nat) (o:Oper) (ho:ops[i]? = some o) (e:Edge) (he:e∈o.after) (hb:Region.binds .any e = true):e.on < i:=by
 have:=uV h i o (by rwa [Array.getElem?_toList]) e he hb
 omega
def uG (t:Nat):List Oper→Nat→Option Nat
 | [],_ => none
 | o :: l,i => match o.dst with
  | some d => bif Nat.beq d t then some i else uG t l (i + 1)
  | none => uG t l (i + 1)
def uH (ops:Array Oper) (t:Nat):Option Nat:=uG t ops.toList 0
theorem pF {t:Nat}:∀ {l:List Oper} {i k:Nat},uG t l i = some k→∃ o,l[k - i]? = some o∧o.dst = some t∧i≤k
 | [],i,k,h => by cases h
 | o :: l,i,k,h => by
  unfold uG at h
  split at h
  · rename_i d hd
    cases hb:Nat.beq d t with
    | true =>
     rw [hb] at h
     injection h with h
     subst h
     exact ⟨o,by simp,by rw [hd,beq_iff.1 hb],Nat.le_refl _⟩
    | false =>
     rw [hb] at h
     obtain ⟨o',h1,h2,h3⟩:=pF (l:=l) h
     refine ⟨o',?_,h2,by omega⟩
     rw [show k - i = (k - (i + 1)) + 1 by omega]
     simpa using h1
  · obtain ⟨o',h1,h2,h3⟩:=pF (l:=l) h
    refine ⟨o',?_,h2,by omega⟩
    rw [show k - i = (k - (i + 1)) + 1 by omega]
    simpa using h1
def ownB (ops:Array Oper) (n:Nat):Bool:=(List.range ops.size).all fun i => match ops[i]? with
 | some o => match o.dst with
  | some d => Nat.blt d n && (uH ops d == some i)
  | none => true
 | none => true
theorem ZO {ops:Array Oper} {n:Nat} (h:ownB ops n = true) {i:Nat} {o:Oper} {d:Nat} (ho:ops[i]? = some o) (hd:o.dst = some d):d < n∧uH ops d = some i:=by
 have hi:i < ops.size:=(Array.getElem?_eq_some_iff.1 ho).1
 have:=List.all_eq_true.1 h i (List.mem_range.2 hi)
 simp only [ho,hd,Bool.and_eq_true,aH] at this
 exact ⟨this.1,by simpa using this.2⟩
section
variable {Γ:Type} (ops:Array Oper) (t0:Array Value) (val:Γ→Nat→Value)
def qW (γ:Γ) (L:Nat→Bool) (t:Nat):Value:=match uH ops t with
 | some i => bif L i then val γ i else t0.getD t undef
 | none => t0.getD t undef
def BA (n:Nat) (γ:Γ):Array Value:=((List.range n).map (qW ops t0 val γ fun _ => true)).toArray
structure am8 (df:List Deferred) (n:Nat) (Wd:Γ→(Nat→Bool)→World→Prop) (L:Nat→Bool) (a:Act) (w:World) (γ:Γ):Prop where
 df:a.defers = df
 sz:a.tmps.size = n
 tm:∀ t,t < n→a.tmps.getD t undef = qW ops t0 val γ L t
 wd:Wd γ L w
end
theorem afK {Γ:Type} {ops:Array Oper} {t0:Array Value} {val:Γ→Nat→Value} {γ:Γ} {L:Nat→Bool} {a:Act} (ak:∀ t,t < t0.size→a.tmps.getD t undef = qW ops t0 val γ L t) {t i:Nat} (ht:Nat.blt t t0.size = true) (hs:uH ops t = some i) (hL:L i = true):a.tmps.getD t undef = val γ i:=by
 rw [ak t (aH.1 ht)]
 unfold qW
 rw [hs]
 simp only [hL,cond_true]
theorem ZP {Γ:Type} {ops:Array Oper} {t0:Array Value} {val:Γ→Nat→Value} {γ:Γ} {L:Nat→Bool} {a:Act} (ak:∀ t,t < t0.size→a.tmps.getD t undef = qW ops t0 val γ L t) {t:Nat} (ht:Nat.blt t t0.size = true) (hs:uH ops t = none):a.tmps.getD t undef = t0.getD t undef:=by
 rw [ak t (aH.1 ht)]
 unfold qW
 rw [hs]
theorem aO {Γ:Type} {ops:Array Oper} {t0:Array Value} {val:Γ→Nat→Value} {γ:Γ} {L:Nat→Bool} {a:Act} (ak:∀ t,t < t0.size→a.tmps.getD t undef = qW ops t0 val γ L t) (t i:Nat) (h:(Nat.blt t t0.size && uH ops t == some i) = true) (hL:L i = true):a.tmps.getD t undef = val γ i:=by
 rw [Bool.and_eq_true] at h
 exact afK ak h.1 (by simpa using h.2) hL
theorem g_ {Γ:Type} {ops:Array Oper} {t0:Array Value} {val:Γ→Nat→Value} {γ:Γ} {L:Nat→Bool} {a:Act} (ak:∀ t,t < t0.size→a.tmps.getD t undef = qW ops t0 val γ L t) (t:Nat) (h:(Nat.blt t t0.size && uH ops t == none) = true):a.tmps.getD t undef = t0.getD t undef:=by
 rw [Bool.and_eq_true] at h
 exact ZP ak h.1 (by simpa using h.2)
theorem ay {P:Program} {o:Oper} {a:Act} {w w':World} {K:Act→World→Prop} {Q:Exit→Act→World→Prop} {v:Value} (he:(execOp a.eval o).run P w = .ok (.value v) w') (hk:K (a.put o.dst v) w'):o.wp P a w K Q:=by
 unfold Oper.wp
 rw [he]
 exact hk
theorem sU {P:Program} {o:Oper} {a:Act} {w w':World} {K:Act→World→Prop} {Q:Exit→Act→World→Prop} (he:(execOp a.eval o).run P w = .ok .skip w') (hk:K (a.put o.dst undef) w'):o.wp P a w K Q:=by
 unfold Oper.wp
 rw [he]
 exact hk
theorem fV {P:Program} {o:Oper} {a:Act} {w:World} {K:Act→World→Prop} {Q:Exit→Act→World→Prop} {f:FuncId} {args:Array Value} {R:Ending→World→Prop} (he:(execOp a.eval o).run P w = .ok (.enter f args) w) (hc:Calls P f args w R)
 (hk:∀ e w',R e w'→∃ v,e = .returned v∧K (a.put o.dst v) w'):o.wp P a w K Q:=by
 unfold Oper.wp
 rw [he]
 refine hc.mono fun e w' hr => ?_
 obtain ⟨v,rfl,h⟩:=hk e w' hr
 exact h
def aeK {Γ:Type} (P:Program) (ops:Array Oper) (t0:Array Value) (val:Γ→Nat→Value) (Wd:Γ→(Nat→Bool)→World→Prop) (i:Nat) (o:Oper):Prop :=
 ∀ (L:Nat→Bool) (a:Act) (w:World) (γ:Γ),nR ops (fun j => L j = true)→(∀ t,t < t0.size→a.tmps.getD t undef = qW ops t0 val γ L t)→Wd γ L w→L i = false→(∀ e∈o.after,Region.binds .any e = true→L e.on = true) →
  (∀ (K:Act→World→Prop) (Q:Exit→Act→World→Prop),(∀ γ' w',(∀ j,L j = true→val γ' j = val γ j)→Wd γ' (fun j => if j = i then true else L j) w'→K (a.put o.dst (match o.dst with | some _ => val γ' i | none => undef)) w')→o.wp P a w K Q)
def BD:List (Nat × Bool)→Nat→Option Bool
 | [],_ => none
 | (k,v) :: l,n => bif Nat.beq k n then some v else BD l n
theorem Qq {k:Nat} {v:Bool}:∀ {l:List (Nat × Bool)},BD l k = some v→(k,v)∈l
 | [],h => by cases h
 | (k',v') :: l,h => by
  unfold BD at h
  cases hb:Nat.beq k' k with
  | true =>
   rw [hb] at h
   injection h with h
   rw [beq_iff.1 hb,h]
   exact List.mem_cons_self
  | false =>
   rw [hb] at h
   exact List.mem_cons_of_mem _ (Qq h)
def EY (gs:List (Nat × Bool)) (o:Oper):Bool:=match o.guard with
 | none => true
 | some (k,b) => BD gs k == some b
def KU (ops:Array Oper) (gs:List (Nat × Bool)):Bool:=ops.toList.all fun o => match o.guard with
 | none => true
 | some (k,_) => (BD gs k).isSome && (o.after.toList.any fun e => Nat.beq e.on k && Region.binds .any e) && (match ops[k]? with | some og => og.dst.isSome | none => false)
theorem ZQ {ops:Array Oper} {gs:List (Nat × Bool)} (h:KU ops gs = true) {i:Nat} {o:Oper} (ho:ops[i]? = some o) {k:Nat} {b:Bool} (hg:o.guard = some (k,b)) :
 ∃ v,BD gs k = some v∧(∃ e∈o.after,e.on = k∧Region.binds .any e = true)∧∃ og d,ops[k]? = some og∧og.dst = some d:=by
 have hm:o∈ops.toList:=by
  rw [← Array.getElem?_toList] at ho
  exact List.mem_of_getElem? ho
 have:=List.all_eq_true.1 h o hm
 rw [hg] at this
 simp only [Bool.and_eq_true,List.any_eq_true] at this
 obtain ⟨⟨h1,e,he,h2⟩,h3⟩:=this
 cases hv:BD gs k with
 | none => rw [hv] at h1; cases h1
 | some v =>
 refine ⟨v,rfl,⟨e,by simpa using he,beq_iff.1 h2.1,h2.2⟩,?_⟩
 cases hk:ops[k]? with
 | none => rw [hk] at h3; cases h3
 | some og =>
  rw [hk] at h3
  cases hd:og.dst with
  | none => simp only [hd] at h3; cases h3
  | some d => exact ⟨og,d,rfl,hd⟩
theorem Xo {Γ:Type} {P:Program} {ops:Array Oper} {id:Nat} {Q:Exit→Act→World→Prop} (hm:P.follows .mixedOrders = true) (t0:Array Value) (df:List Deferred) (val:Γ→Nat→Value) (Wd:Γ→(Nat→Bool)→World→Prop) (γ0:Γ) {w:World}
 (hback:backward 0 ops.toList = true) (gs:List (Nat × Bool)) (hguard:KU ops gs = true) (hgs:∀ p∈gs,∀ γ,val γ p.1 = .bool p.2) (hown:ownB ops t0.size = true)
 (hstep:∀ i o,ops[i]? = some o→EY gs o = true→aeK P ops t0 val Wd i o)
 (hskip:∀ i o,ops[i]? = some o→EY gs o = false→∀ γ,val γ i = undef∧∀ L w,Wd γ L w→Wd γ (fun j => if j = i then true else L j) w)
 (h0:Wd γ0 (fun _ => false) w.drew)
 (hend:∀ γ w',Wd γ (fun _ => true) w'→Q .normal { tmps:=BA ops t0 val t0.size γ,defers:=df } w')
 (hext:∀ γ (L L':Nat→Bool) w',(∀ j,j < ops.size→L j = L' j)→Wd γ L w'→Wd γ L' w') :
 (Code.region id ops true).wp P Q { tmps:=t0,defers:=df } w:=by
 refine wp_region_any hm ?_
 refine UY (fun L a w => ∃ γ,am8 ops t0 val df t0.size Wd L a w γ) (fun i o ho e he hb => afJ hback i o ho e he hb) ?_ ?_ ops.size _ _ _ (by simp) ?_ ?_ ?_
 · intro L a w' i o K hLs hdn hJ ho hL hpre hK
   obtain ⟨γ,hI⟩:=hJ
   have hin:i < ops.size:=(Array.getElem?_eq_some_iff.1 ho).1
   unfold wpOp
   rw [ho]
   have hw:Region.wanted o (yielded ops a.tmps) = EY gs o:=by
    unfold Region.wanted EY
    cases hg:o.guard with
    | none => rfl
    | some q =>
     obtain ⟨k,b⟩:=q
     obtain ⟨v,hmem,⟨e,he,hk,hb⟩,og,d,hog,hd⟩:=ZQ hguard ho hg
     have hLk:L.getD k false = true:=by have:=hpre e he hb; rwa [hk] at this
     obtain ⟨hdn',hso⟩:=ZO hown hog hd
     have ht:=hI.tm d hdn'
     unfold qW at ht
     rw [hso] at ht
     simp only [hLk,cond_true] at ht
     rw [hgs _ (Qq hmem) γ,Array.getD_eq_getD_getElem?,Array.getElem?_eq_getElem (by rw [hI.sz]; exact hdn'),Option.getD_some] at ht
     have hy:yielded ops a.tmps k = some v:=by
      unfold yielded
      rw [hog]
      simp only [Option.bind_some,hd]
      rw [Array.getElem?_eq_getElem (by rw [hI.sz]; exact hdn'),ht]
     simp only [hy,hmem]
   have done:∀ γ' w2 a',(∀ j,L.getD j false = true→val γ' j = val γ j)→Wd γ' (fun j => if j = i then true else L.getD j false) w2→a' = a.put o.dst (match o.dst with | some _ => val γ' i | none => undef)→K a' w2:=fun γ' w2 a' hval hwd ha => by
    subst ha
    refine hK _ _ ⟨γ',?_⟩
    have e:(fun j => (L.setIfInBounds i true).getD j false) = fun j => if j = i then true else L.getD j false:=by
     funext j
     exact DC L i j (by omega)
    rw [e]
    refine ⟨?_,?_,fun t ht => ?_,hwd⟩
    · cases hd:o.dst <;> simp [Act.put,hI.df]
    · cases hd:o.dst <;> simp [Act.put,hI.sz]
    · have ak:=hI.tm t ht
      have hold:qW ops t0 val γ (fun j => L.getD j false) t = qW ops t0 val γ' (fun j => L.getD j false) t:=by
       unfold qW
       split
       · rename_i k hk
         cases hLk:L.getD k false with
         | false => simp only [hLk,cond_false]
         | true => simp only [hLk,cond_true]; exact (hval k hLk).symm
       · rfl
      cases hd:o.dst with
      | none =>
       show a.tmps.getD t undef = _
       rw [ak,hold]
       unfold qW
       split
       · rename_i k hk
         obtain ⟨o',h1,h2,_⟩:=pF hk
         have hne:k≠i:=fun e => by
          subst e
          rw [Nat.sub_zero,Array.getElem?_toList] at h1
          rw [ho] at h1
          injection h1 with h1
          subst h1
          rw [hd] at h2
          cases h2
         simp only [if_neg hne]
       · rfl
      | some d =>
       obtain ⟨hdn',hso⟩:=ZO hown ho hd
       by_cases hdt:d = t
       · subst hdt
         simp only [Act.put,Array.getD_eq_getD_getElem?]
         rw [Array.getElem?_setIfInBounds_self_of_lt (by rw [hI.sz]; exact hdn')]
         unfold qW
         rw [hso]
         simp
       · have e2 : (a.put (some d) (val γ' i)).tmps.getD t undef = a.tmps.getD t undef := by
          simp only [Act.put,Array.getD_eq_getD_getElem?]
          rw [Array.getElem?_setIfInBounds_ne hdt]
         show (a.put (some d) (val γ' i)).tmps.getD t undef = _
         rw [e2,ak,hold]
         unfold qW
         split
         · rename_i k hk
           have hne:k≠i:=fun e => by
            subst e
            obtain ⟨o',h1,h2,_⟩:=pF hk
            rw [Nat.sub_zero,Array.getElem?_toList] at h1
            rw [ho] at h1
            injection h1 with h1
            subst h1
            rw [hd] at h2
            injection h2 with h2
            exact hdt h2
           simp only [if_neg hne]
         · rfl
   cases hwn:EY gs o with
   | true =>
    simp only [hw,hwn,if_true]
    exact .inl (hstep i o ho hwn (fun j => L.getD j false) a w' γ hdn hI.tm hI.wd hL hpre K Q fun γ' w2 hval hwd => done γ' w2 _ hval hwd rfl)
   | false =>
    simp only [hw,hwn]
    obtain ⟨hu,hwd⟩:=hskip i o ho hwn γ
    refine done γ w' _ (fun _ _ => rfl) (hwd _ _ hI.wd) ?_
    cases hd:o.dst with
    | none => rfl
    | some d => simp only [hu]
 · intro L a w' hLs hall hJ
   obtain ⟨γ,hI⟩:=hJ
   have e:a = { tmps:=BA ops t0 val t0.size γ,defers:=df }:=by
    have h1:a.tmps = BA ops t0 val t0.size γ:=by
     apply Array.ext
     · rw [hI.sz]; simp [BA]
     · intro t ht1 ht2
       have ht:t < t0.size:=by rw [← hI.sz]; exact ht1
       have:=hI.tm t ht
       rw [Array.getD_eq_getD_getElem?,Array.getElem?_eq_getElem ht1] at this
       simp only [Option.getD_some] at this
       rw [this]
       simp only [BA,List.getElem_toArray,List.getElem_map,List.getElem_range]
       unfold qW
       split
       · rename_i k hk
         obtain ⟨o',h1,_,_⟩:=pF hk
         rw [Nat.sub_zero,Array.getElem?_toList] at h1
         show (bif L.getD k false then val γ k else t0.getD t undef) = _
         rw [hall k (Array.getElem?_eq_some_iff.1 h1).1]
       · rfl
    have h2:=hI.df
    cases a
    simp only at h1 h2
    rw [h1,h2]
   rw [e]
   exact hend γ w' (hext γ _ _ w' (fun j hj => hall j hj) hI.wd)
 · unfold Y6
   exact Nat.le_trans (List.length_filter_le _ _) (by simp)
 · intro k o hk hl
   simp [Array.getD] at hl
 · have e : (fun j => (Array.replicate ops.size false).getD j false) = fun _ => false := by
    funext j
    simp [Array.getD]
   rw [e]
   refine ⟨γ0,rfl,rfl,fun t ht => ?_,h0⟩
   unfold qW
   split <;> rfl
theorem iR {Γ:Type} {P:Program} {ops:Array Oper} {id:Nat} {Q:Exit→Act→World→Prop} (hm:P.follows .mixedOrders = true) (t0:Array Value) (df:List Deferred) (val:Γ→Nat→Value) (Wd:Γ→(Nat→Bool)→World→Prop) (γ0:Γ) {w:World}
 (hback:backward 0 ops.toList = true) (gs:List (Nat × Bool)) (hguard:(KU ops gs && ops.toList.all (EY gs)) = true) (hgs:∀ p∈gs,∀ γ,val γ p.1 = .bool p.2) (hown:ownB ops t0.size = true)
 (hstep:∀ i o,ops[i]? = some o→aeK P ops t0 val Wd i o)
 (h0:Wd γ0 (fun _ => false) w.drew)
 (hend:∀ γ w',Wd γ (fun _ => true) w'→Q .normal { tmps:=BA ops t0 val t0.size γ,defers:=df } w')
 (hext:∀ γ (L L':Nat→Bool) w',(∀ j,j < ops.size→L j = L' j)→Wd γ L w'→Wd γ L' w') :
 (Code.region id ops true).wp P Q { tmps:=t0,defers:=df } w:=by
 rw [Bool.and_eq_true] at hguard
 refine Xo hm t0 df val Wd γ0 hback gs hguard.1 hgs hown (fun i o ho _ => hstep i o ho) (fun i o ho h => ?_) h0 hend hext
 have hmem:o∈ops.toList:=by
  rw [← Array.getElem?_toList] at ho
  exact List.mem_of_getElem? ho
 rw [List.all_eq_true.1 hguard.2 o hmem] at h
 cases h
end Go.Proofs.YtjegdngblndkcaaGreatDoor.Xi

/- The slots after a region of open order, as puts on what stood there: no list of them need be written. -/
namespace Go.Proofs.YtjegdngblndkcaaGreatDoor.Xi
open Go Go.RowKit
set_option linter.unusedVariables false
def wE (v:Nat→Value):List Oper→Nat→Array Value→Array Value
 | [],_,t => t
 | o :: l,i,t => match o.dst with
  | some d => (wE v l (i + 1) t).setIfInBounds d (v i)
  | none => wE v l (i + 1) t
theorem qX (v:Nat→Value):∀ (l:List Oper) (i:Nat) (t:Array Value),(wE v l i t).size = t.size
 | [],_,_ => rfl
 | o :: l,i,t => by
  unfold wE
  split
  · rw [Array.size_setIfInBounds,qX v l]
  · exact qX v l _ _
theorem Qr (v:Nat→Value) (t:Array Value) (k:Nat) (hk:k < t.size):∀ (l:List Oper) (i:Nat),(wE v l i t).getD k undef = match uG k l i with
  | some m => v m
  | none => t.getD k undef
 | [],_ => rfl
 | o :: l,i => by
  have ih:=Qr v t k hk l (i + 1)
  unfold wE uG
  cases hd:o.dst with
  | none => exact ih
  | some d =>
   simp only
   cases hb:Nat.beq d k with
   | true =>
    have e:d = k:=beq_iff.1 hb
    subst e
    simp only [cond_true,Array.getD_eq_getD_getElem?]
    rw [Array.getElem?_setIfInBounds_self_of_lt (by rw [qX]; exact hk)]
    rfl
   | false =>
    have e:d≠k:=fun e => by rw [e,beq_iff.2 rfl] at hb; cases hb
    simp only [cond_false]
    rw [← ih]
    simp only [Array.getD_eq_getD_getElem?]
    rw [Array.getElem?_setIfInBounds_ne e]
theorem jr {Γ:Type} (ops:Array Oper) (t0:Array Value) (val:Γ→Nat→Value) (γ:Γ):BA ops t0 val t0.size γ = wE (val γ) ops.toList 0 t0:=by
 apply Array.ext
 · rw [qX]; simp [BA]
 · intro k h1 h2
   have hk:k < t0.size:=by rw [qX] at h2; exact h2
   have e:=Qr (val γ) t0 k hk ops.toList 0
   rw [Array.getD_eq_getD_getElem?,Array.getElem?_eq_getElem h2,Option.getD_some] at e
   rw [e]
   simp only [BA,List.getElem_toArray,List.getElem_map,List.getElem_range]
   unfold qW uH
   cases uG k ops.toList 0 <;> rfl
def EZ (v:Nat→Value):List Oper→Nat→List Value→List Value
 | [],_,t => t
 | o :: l,i,t => match o.dst with
  | some d => (EZ v l (i + 1) t).set d (v i)
  | none => EZ v l (i + 1) t
theorem fK (v:Nat→Value):∀ (l:List Oper) (i:Nat) (t:List Value),wE v l i t.toArray = (EZ v l i t).toArray
 | [],_,_ => rfl
 | o :: l,i,t => by
  unfold wE EZ
  cases o.dst with
  | none => exact fK v l (i + 1) t
  | some d => simp only [fK v l (i + 1) t,List.setIfInBounds_toArray]
def oU (v:Nat→Value):List (Option Nat)→Nat→List Value→List Value
 | [],_,t => t
 | o :: l,i,t => match o with
  | some d => (oU v l (i + 1) t).set d (v i)
  | none => oU v l (i + 1) t
theorem iZ (v:Nat→Value):∀ (l:List Oper) (i:Nat) (t:List Value),EZ v l i t = oU v (l.map (·.dst)) i t
 | [],_,_ => rfl
 | o :: l,i,t => by
  unfold EZ
  rw [List.map_cons]
  unfold oU
  rw [iZ v l (i + 1) t]
  cases o.dst <;> rfl
def bF (L:Nat→Bool):List Nat→Nat
 | [] => 0
 | e :: l => match L e with
  | true => bF L l + 1
  | false => 0
theorem dM {L:Nat→Bool} {i:Nat}:∀ {es:List Nat},i∉es→bF (fun j => if j = i then true else L j) es = bF L es
 | [],_ => rfl
 | e :: l,h => by
  unfold bF
  have he:e≠i:=fun h' => h (by simp [h'])
  have hl:i∉l:=fun h' => h (by simp [h'])
  simp only [if_neg he,dM hl]
theorem Ij {L L':Nat→Bool}:∀ {es:List Nat},(∀ e∈es,L e = L' e)→bF L es = bF L' es
 | [],_ => rfl
 | e :: l,h => by
  unfold bF
  rw [h e (by simp),Ij fun x hx => h x (by simp [hx])]
end Go.Proofs.YtjegdngblndkcaaGreatDoor.Xi
