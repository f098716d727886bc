/- How arguments are opened to cells, where the kit's own words for it do not reach: slices of structs. -/
import Derived.Test.YtjmojlhnmkjdkaaGreatDoorDP1
import Derived.ProofKit
import Derived.OpenShut
import Derived.Deep.Slices
namespace Go.Proofs.YtjmojlhnmkjdkaaGreatDoor
open Go.ChangeShapes Go.WideShapes Go.ChangeAt Go.RowKit
section
variable {H:Type} {enc:TypeId×Value->H} {P:Program} {w:World} {base:Nat} {spare:Nat->Bool} {held:Bool}
theorem adT{t e:TypeId}{fuel C:Nat}{a0:Option Addr}{n c:Nat}{x:DataW H×List MemPlace}(ht:P.underlying t=some (.slice e))(hC:P.cellsOf e=C)(h0:0<C)
 (h:DataW.trod enc P w base spare held fuel t [.slice a0 n c]=some x) :
 n<=c/\c<=maxLen/\(0<n->∃ b off,a0=some ⟨b,off,none⟩/\∀ i,i<n->∃ cs m y,cs.length=C /\
  (∀ j,j<C->w.cell? ⟨b,off+(i*C+j),none⟩=cs[j]?)/\DataW.trod enc P w base spare held m e cs=some y):=by
 subst hC;rcases Go.Deep.open_slice ht h with⟨hcs,_⟩ | ⟨a,len,cap,m,k,D,Pl,hcs,hb,hl,hm,hmm,_,hi⟩
 . simp at hcs
   obtain⟨rfl,rfl,rfl⟩:=hcs;exact⟨Nat.le_refl _,by simp [maxLen],fun h=>absurd h (by omega)⟩
 . simp at hcs
   obtain⟨rfl,rfl,rfl⟩:=hcs;refine⟨hl,hm,fun hn=>?_⟩
   have hat:∀ i,i<n->∃ cs m y,cs.length=P.cellsOf e/\(∀ j,j<P.cellsOf e->w.cell? (a.add (i*P.cellsOf e+j))=cs[j]?)/\DataW.trod enc P w base spare held m e cs=some y:=by
    intro i hin;obtain⟨cs,hc,ht'⟩:=hi i (by rw [hmm]; split<;>omega);obtain⟨_,hcl,hat⟩:=World.cells?_some hc;refine⟨cs,k,_,hcl,fun j hj=>?_,ht'⟩;rw [<- hat j hj,<- Go.Deep.add_add]
   have ha:a=⟨a.block,a.off,none⟩:=by
    obtain⟨cs,_,_,hl,hc,_⟩:=hat 0 hn;have h1:=hc 0 h0;rw [List.getElem?_eq_getElem (by omega),show a.add (0*P.cellsOf e+0)=a by simp [Addr.add]] at h1;exact plain_of_cell h1
   refine⟨a.block,a.off,by rw [<- ha],fun i hin=>?_⟩;obtain⟨cs,m,y,hl,hc,ht'⟩:=hat i hin;refine⟨cs,m,y,hl,fun j hj=>?_,ht'⟩;rw [<- hc j hj,ha,add_plain]
theorem as1{r:Reach}{b0:Nat}{t:TypeId}{v:Value}{n:Nat}{e:TypeId}(ht:P.underlying t=some (.array n e))(h:Value.okWide P w r b0 t v):∃ cs,v=.agg cs/\cs.size=P.cellsOf t:=by
 simp only [Value.okWide,ht] at h;obtain⟨cs,h1,h2,_⟩:=h;exact⟨cs,h1,h2⟩
theorem axC{cs:Array Value}{vs:List Value}(hl:cs.size=vs.length)(h:∀ j (hj:j<vs.length),cs.toList[j]?=some vs[j]):cs=vs.toArray:=by
 apply Array.ext
 . simpa using hl
 . intro i h1 h2
   have h3:=h i (by simpa using h2);rw [Array.getElem?_toList,Array.getElem?_eq_getElem h1] at h3;injection h3 with h3
def leaves (P:Program):Nat->TypeId->List TypeId
 | 0,t=>[t]
 | d+1,t=>match P.underlying t with
  | some (.struct fs)=>(fs.toList.map fun f=>leaves P d f.type).flatten
  | some (.array n e)=>(List.replicate n (leaves P d e)).flatten
  | _=>[t]
def Gf (P:Program) (ok:TypeId->Bool) (lv:TypeId->List TypeId):List Field->Nat->Bool
 | [],_=>true
 | f::fs,off=>f.offset==off&&P.cellsOf f.type==(lv f.type).length&&ok f.type&&Gf P ok lv fs (off+(lv f.type).length)
def uo (P:Program):Nat->TypeId->Bool
 | 0,t=>P.cellsOf t==1
 | d+1,t=>match P.underlying t with
  | some (.struct fs)=>P.cellsOf t==(leaves P (d+1) t).length&&Gf P (uo P d) (leaves P d) fs.toList 0
  | some (.array n e)=>P.cellsOf e==(leaves P d e).length&&P.cellsOf t==n*P.cellsOf e&&uo P d e
  | _=>true
def yu(enc:TypeId×Value->H)(P:Program)(w:World)(base:Nat)(spare:Nat->Bool)(held:Bool)(cs:List Value)(j:Nat)(t:TypeId):Prop :=
 ∃ m y v,cs[j]?=some v/\DataW.trod enc P w base spare held m t [v]=some y
theorem ahd{cs:List Value}{off C j:Nat}{v:Value}(h:((cs.drop off).take C)[j]?=some v):cs[off+j]?=some v:=by
 rw [List.getElem?_take] at h;split at h
 . rw [List.getElem?_drop] at h; exact h
 . cases h
theorem Tc{d:Nat}(ih:∀ t,uo P d t=true->∀ fuel cs x,cs.length=(leaves P d t).length->DataW.trod enc P w base spare held fuel t cs=some x->∀ j lt,(leaves P d t)[j]?=some lt->yu enc P w base spare held cs j lt)
 (cs:List Value):∀(fs:List Field) (off:Nat),Gf P (uo P d) (leaves P d) fs off=true->off+((fs.map fun f=>leaves P d f.type).flatten).length<=cs.length ->
   (∀ f∈fs,∃ m y,DataW.trod enc P w base spare held m f.type ((cs.drop f.offset).take (P.cellsOf f.type))=some y) ->
   ∀ j lt,((fs.map fun f=>leaves P d f.type).flatten)[j]?=some lt->yu enc P w base spare held cs (off+j) lt:=by
 intro fs
 induction fs with
 | nil=>intro off _ _ _ j lt h; simp at h
 | cons f fs ihf =>
  intro off hok hlen hall j lt hj;simp only [Gf,Bool.and_eq_true,beq_iff_eq] at hok;obtain⟨⟨⟨ho,hc⟩,hl⟩,hrest⟩:=hok;simp only [List.map_cons,List.flatten_cons,List.length_append] at hlen;simp only [List.map_cons,List.flatten_cons] at hj;by_cases hjl:j<(leaves P d f.type).length
  . rw [List.getElem?_append_left hjl] at hj
    obtain⟨m,y,ht⟩:=hall f (by simp);rw [ho,hc] at ht;obtain⟨m',y',v,hv,ht'⟩:=ih f.type hl m _ y (by simp; omega) ht j lt hj;exact⟨m',y',v,ahd hv,ht'⟩
  . rw [List.getElem?_append_right (by omega)] at hj
    have:=ihf (off+(leaves P d f.type).length) hrest (by omega) (fun g hg=>hall g (by simp [hg])) _ lt hj;rwa [show off+(leaves P d f.type).length+(j - (leaves P d f.type).length)=off+j by omega] at this
theorem Yj{d:Nat}{e:TypeId}(ih:∀ fuel cs x,cs.length=(leaves P d e).length->DataW.trod enc P w base spare held fuel e cs=some x->∀ j lt,(leaves P d e)[j]?=some lt->yu enc P w base spare held cs j lt)
 (hC:P.cellsOf e=(leaves P d e).length) (cs:List Value):∀(n off:Nat),off+n*P.cellsOf e<=cs.length ->
   (∀ i,i<n->∃ m y,DataW.trod enc P w base spare held m e ((cs.drop (off+i*P.cellsOf e)).take (P.cellsOf e))=some y) ->
   ∀ j lt,((List.replicate n (leaves P d e)).flatten)[j]?=some lt->yu enc P w base spare held cs (off+j) lt:=by
 intro n
 induction n with
 | zero=>intro off _ _ j lt h; simp at h
 | succ n ihn =>
  intro off hlen hall j lt hj;rw [List.replicate_succ,List.flatten_cons] at hj;rw [Nat.succ_mul] at hlen;by_cases hjl:j<(leaves P d e).length
  . rw [List.getElem?_append_left hjl] at hj
    obtain⟨m,y,ht⟩:=hall 0 (by omega);rw [Nat.zero_mul,Nat.add_zero] at ht;obtain⟨m',y',v,hv,ht'⟩:=ih m _ y (by rw [<- hC]; simp; omega) ht j lt hj;exact⟨m',y',v,ahd hv,ht'⟩
  . rw [List.getElem?_append_right (by omega)] at hj
    have:=ihn (off+P.cellsOf e) (by omega) (fun i hi=>by
     obtain⟨m,y,ht⟩:=hall (i+1) (by omega);rw [Nat.succ_mul] at ht
     exact⟨m,y,by rw [show off+P.cellsOf e+i*P.cellsOf e=off+(i*P.cellsOf e+P.cellsOf e) by omega]; exact ht⟩) _ lt hj
    rwa [show off+P.cellsOf e+(j - (leaves P d e).length)=off+j by omega] at this
theorem Zi:∀(d:Nat) (t:TypeId),uo P d t=true->∀ fuel cs x,cs.length=(leaves P d t).length->DataW.trod enc P w base spare held fuel t cs=some x ->
 ∀ j lt,(leaves P d t)[j]?=some lt->yu enc P w base spare held cs j lt:=by
 intro d
 induction d with
 | zero =>
  intro t _ fuel cs x hl h j lt hj
  match cs,hl with
  | [v],_ =>
   match j,hj with
   | 0,hj=>injection hj with hj; subst hj; exact⟨fuel,x,v,rfl,h⟩
 | succ d ih =>
  intro t hok fuel cs x hl h j lt hj;unfold uo at hok
  cases hu:P.underlying t with
  | none => unfold leaves at hl hj; rw [hu] at hl hj
            match cs,hl with
            | [v],_ =>
             match j,hj with
             | 0,hj=>injection hj with hj; subst hj; exact⟨fuel,x,v,rfl,h⟩
  | some u =>
   by_cases hs:∃ fs,u=.struct fs
   . obtain⟨fs,rfl⟩:=hs
     rw [hu] at hok;simp only [Bool.and_eq_true,beq_iff_eq] at hok;obtain⟨xs,n,_,_,hlen,hxl,hf⟩:=DataW.trod_struct hu h;have hlv:leaves P (d+1) t=(fs.toList.map fun f=>leaves P d f.type).flatten:=by rw [leaves]; rw [hu]
     rw [hlv] at hj hl
     have:=Tc ih cs fs.toList 0 hok.2 (by omega) (fun f hf'=>by
      obtain⟨i,hi,rfl⟩:=List.getElem_of_mem hf';have hi':i<fs.size:=by simpa using hi
      have h1:=hf i _ (Array.getElem?_eq_getElem hi');rw [List.getElem?_eq_getElem (by omega)] at h1
      exact⟨n,_,by simpa using h1⟩) j lt hj
     simpa using this
   . by_cases ha:∃ n e,u=.array n e
     . obtain⟨n,e,rfl⟩:=ha
       rw [hu] at hok;simp only [Bool.and_eq_true,beq_iff_eq] at hok;obtain⟨xs,m,_,_,hlen,hxl,hf⟩:=DataW.trod_array hu h;have hlv:leaves P (d+1) t=(List.replicate n (leaves P d e)).flatten:=by rw [leaves]; rw [hu]
       rw [hlv] at hj
       have:=Yj (fun fuel cs x=>ih e hok.2 fuel cs x) hok.1.1 cs n 0 (by rw [hlen,hok.1.2]; omega) (fun i hi=>by
        have h1:=hf i hi;rw [List.getElem?_eq_getElem (by omega)] at h1
        exact⟨m,_,by rw [Nat.zero_add]; exact h1⟩) j lt hj
       simpa using this
     . have hlv : leaves P (d+1) t=[t] := by
        rw [leaves]; rw [hu]
        cases u<;>first | rfl | (exfalso; exact hs ⟨_,rfl⟩) | (exfalso; exact ha ⟨_,_,rfl⟩)
       rw [hlv] at hj hl
       match cs,hl with
       | [v],_ =>
        match j,hj with
        | 0,hj=>injection hj with hj; subst hj; exact⟨fuel,x,v,rfl,h⟩
theorem axD{cs:List Value}{j:Nat}{t:TypeId}{k:IntKind}(ht:P.underlying t=some (.int k))(h:yu enc P w base spare held cs j t):∃ n,cs[j]?=some (.int k n)/\(Lit.int k n).wf=true:=by
 obtain⟨m,y,v,hv,h⟩:=h;obtain⟨n,e,_,hw⟩:=DataW.trod_int ht h;injection e with e _;subst e;exact⟨n,hv,hw⟩
theorem ahe{cs:List Value}{j:Nat}{t:TypeId}(ht:P.underlying t=some .bool)(h:yu enc P w base spare held cs j t):∃ b,cs[j]?=some (.bool b):=by
 obtain⟨m,y,v,hv,h⟩:=h;obtain⟨b,e,_⟩:=DataW.trod_bool ht h;injection e with e _;subst e;exact⟨b,hv⟩
theorem atp{cs:List Value}{j:Nat}{t:TypeId}(ht:P.underlying t=some .string)(h:yu enc P w base spare held cs j t):∃ s:ByteArray,cs[j]?=some (.string s)/\s.size<=maxLen:=by
 obtain⟨m,y,v,hv,h⟩:=h;obtain⟨s,e,_,hs⟩:=DataW.trod_string ht h;injection e with e _;subst e;exact⟨s,hv,hs⟩
