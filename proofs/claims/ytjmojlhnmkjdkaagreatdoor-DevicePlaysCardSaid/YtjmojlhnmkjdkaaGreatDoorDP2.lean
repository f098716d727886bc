/- Texts of this claim, side by side. -/
import Derived.Test.YtjmojlhnmkjdkaaGreatDoorLabPD
import Derived.Test.YtjmojlhnmkjdkaaGreatDoorShelfKD
import Derived.Deep.AppendLies
set_option linter.unusedVariables false
set_option maxRecDepth 100000
namespace Go.Proofs.YtjmojlhnmkjdkaaGreatDoor
section
open Go.RowKit Go.Deep Go.Maps
attribute [local go_sem] Oper.semAt_some
def bH (l:List UInt8):Value:=.string ⟨l.toArray⟩
theorem U1(l:List UInt8)(w:World)(hl:l.length<=1000000):Calls Tryz.prog 216 #[bH l] w fun e w'=>e=.returned (.bool (qJ l))/\ah w w' []:=by
 match l with
 | [] =>
  unfold bH;go_enter Tryz.func216,Tryz.ntmps216
  go_wp2;go_ret;exact⟨rfl,ah.refl _ _⟩
 | c::r =>
  have hsz:(⟨(c::r).toArray⟩:ByteArray).size=r.length+1:=rfl;have hlen:(c::r).length=r.length+1:=rfl;rw [hlen] at hl;by_cases h24:r.length<24
  . have hcon:=Tryz.strings_Contains_one ⟨smalls.toArray⟩ c w
    have hx:(⟨(c::r).toArray⟩:ByteArray).extract 0 1=⟨#[c]⟩:=by
     apply ByteArray.ext;rw [ByteArray.data_extract];simp
    have e1:decide (0<=Lib.indexByte (⟨smalls.toArray⟩:ByteArray).data.toList c)=xG c:=ahV c;rw [e1] at hcon;have HE:=hide (UZ c r);have awQ:¬ 24<r.length+1:=by omega
    unfold smalls at hcon
    cases hsm:xG c with
    | false =>
     have HS:=hide hsm;rw [hsm] at hcon;clear hsm e1 hlen;unfold bH;go_enter Tryz.func216,Tryz.ntmps216
     go_wp2_with (go_at_call 270; refine hcon.mono ?_; rintro e w1 ⟨rfl,hw⟩; rw [hw]);go_ret;refine⟨zO ?_,ah.refl _ _⟩;rw [HE.out,HS.out]; simp
    | true =>
     have HS:=hide hsm;rw [hsm] at hcon
     have htr:=Tryz.strings_Trim_laid ⟨(c::r).toArray⟩ ⟨lT.toArray⟩ w (by rw [hsz]; omega) (by decide) (fun j b hb=>by
      have hm:b∈lT:=List.mem_of_getElem? hb;have:∀ x∈lT,x.toNat<128:=by decide
      exact this b hm)
     have htl:(⟨(Lib.trimS (⟨(c::r).toArray⟩:ByteArray).data.toList (⟨lT.toArray⟩:ByteArray).data.toList).toArray⟩:ByteArray)=⟨(Lib.trimS (c::r) lT).toArray⟩:=rfl;rw [htl] at htr;have HT:=hide (aen (c::r));have hO:lT=[97,98,99,100,101,102,103,104,105,106,107,108,109,110,111,112,113,114,115,116,117,118,119,120,121,122,48,49,50,51,52,53,54,55,56,57,95]:=rfl;have htr:Calls Tryz.prog 271 #[.string ⟨(c::r).toArray⟩,.string ⟨#[97,98,99,100,101,102,103,104,105,106,107,108,109,110,111,112,113,114,115,116,117,118,119,120,121,122,48,49,50,51,52,53,54,55,56,57,95]⟩] w fun e w'=>e=.returned (.string ⟨(Lib.trimS (c::r) lT).toArray⟩)/\Below w.heap.size w w':=htr;generalize hT:Lib.trimS (c::r) lT=T at *;clear hT;have HTR:=hide htr;clear hsm e1 hlen htl htr hO;unfold bH;go_enter Tryz.func216,Tryz.ntmps216
     go_wp2_with (go_at_call 270; refine hcon.mono ?_; rintro e w1 ⟨rfl,hw⟩; rw [hw]);go_at_call 271;refine HTR.out.mono ?_;rintro e w1 ⟨rfl,hb⟩;go_wp2;go_ret;refine⟨zO ?_,ah.of_below hb⟩;rw [HE.out,HS.out];rw [HT.out,List.all_cons,U0 c HS.out,decide_eq_true h24];simp
  . have HE:=hide (UZ c r)
    have awQ:24<r.length+1:=by omega
    unfold bH;go_enter Tryz.func216,Tryz.ntmps216
    go_wp2;go_ret;refine⟨zO ?_,ah.refl _ _⟩;rw [HE.out];simp [h24]
def Af(l:List (Nm×Int)):Lit->Option Int
 | .string s=>gJ l s
 | _=>none
theorem abm(l:List (Nm×Int))(s k:Nm)(v:Int):gJ (l++[(s,v)]) k=match gJ l k with | some x=>some x | none=>if s=k then some v else none:=by
 unfold gJ;rw [List.find?_append]
 cases h:l.find? (fun p=>p.1==k) with
 | some p=>simp
 | none =>
  by_cases e:s=k
  . simp [e]
  . simp [e]
open Classical in
theorem ahY(l:List (Nm×Int))(s:Nm)(v:Int)(h:gJ l s=none):Lr (Af l) (.string s) v=Af (l++[(s,v)]):=by
 funext k;unfold Lr
 cases k with
 | string k =>
  show(if Lit.string k=Lit.string s then some v else gJ l k)=gJ (l++[(s,v)]) k;rw [abm];by_cases e:k=s
  . subst e; simp [h]
  . have:¬ (s=k):=fun e'=>e e'.symm
    rw [if_neg (by simpa using e)]
    cases gJ l k<;>simp [this]
 | _=>rw [if_neg (by simp)]; rfl
def useCells(l:List (Nm×Int)):List Value:=l.flatMap fun p=>[bH p.1,.int .i64 p.2]
theorem SB(l:List (Nm×Int))(p:Nm×Int):useCells (l++[p])=useCells l++[bH p.1,.int .i64 p.2]:=by simp [useCells]
structure PT (w:World) (t m:Nat) (uv:Value) (n:Nat) (defs uses:List (Nm×Int)):Prop where
 blk:aC w t 273 [.map (some m),uv]
 map:lK w 9 m n (Af defs)
 row:w.ownsRow 0 325 2 uv uses.length (useCells uses)
theorem aH{w w':World}{D:List Nat}{base:Nat}{e:TypeId}{size:Nat}{v:Value}{n:Nat}{xs:List Value}(h:w.ownsRow base e size v n xs)(hc:ah w w' D)(hD:∀ g,v.ownBlock=some g->g∉D):w'.ownsRow base e size v n xs:=by
 refine⟨h.1,?_⟩;rcases h.2 with hn | ⟨g,cap,cur,rfl,hb,hgg,rest⟩
 . exact .inl hn
 . exact .inr ⟨g,cap,cur,rfl,hb,hc.heap hgg (hD g rfl),rest⟩
theorem bK{w:World}{base e size n:Nat}{v:Value}{xs:List Value}(h:w.ownsRow base e size v n xs):∃ A c,v=.slice A n c:=by
 rcases h.2 with⟨rfl,h0⟩ | ⟨g,cap,cur,rfl,_⟩
 . exact⟨none,0,by rw [h0]⟩
 . exact⟨_,cap,rfl⟩
def pY(t m:Nat)(uv:Value):List Nat:=[t,m]++uv.ownBlock.toList
theorem PT.aj{w w':World}{t m n:Nat}{uv:Value}{defs uses:List (Nm×Int)}{D:List Nat}(h:PT w t m uv n defs uses)(hc:ah w w' D)(hD:∀ k∈pY t m uv,k∉D):PT w' t m uv n defs uses where
 blk:=h.blk.aj hc (hD t (by simp [pY]))
 map:=h.map.aj hc (hD m (by simp [pY]))
 row:=aH h.row hc (fun g hg=>hD g (by simp [pY,hg]))
theorem PT.ne{w:World}{t m n:Nat}{uv:Value}{defs uses:List (Nm×Int)}(h:PT w t m uv n defs uses):t≠m/\uv.ownBlock≠some t/\uv.ownBlock≠some m:=by
 obtain⟨es,c,hm⟩:=h.map.obj;refine⟨fun e=>?_,fun e=>?_,fun e=>?_⟩
 . have:=h.blk
   unfold aC at this;rw [e,hm] at this;injection this with this;cases this
 . rcases h.row.2 with⟨rfl,_⟩ | ⟨g,cap,cur,rfl,_,h2,_⟩
   . simp [Value.ownBlock] at e
   . simp [Value.ownBlock] at e
     subst e;have:=h.blk;unfold aC at this;rw [h2] at this;injection this with this;injection this with _ this;exact absurd this (by decide)
 . rcases h.row.2 with⟨rfl,_⟩ | ⟨g,cap,cur,rfl,_,h2,_⟩
   . simp [Value.ownBlock] at e
   . simp [Value.ownBlock] at e
     subst e;rw [h2] at hm;injection hm with hm;cases hm
theorem BK:Keyed Tryz.prog 9:=string_keyed Tryz.underlying9
theorem Zv(s:Nm)(hs:s.length<=1000000):keyOf Tryz.prog 9 (bH s)=some (.string s):=Go.WideMaps.keyOf_string_mk Tryz.underlying9 (s:=⟨s.toArray⟩) (by show s.length<=maxLen; unfold maxLen; omega)
theorem PI(W:World)(m:Nat):(binOp .neq 270 (.map (some m)) (.map none)).run Tryz.prog W=.ok (.bool true) W:=run_neq_map_nil W _ _ _ _ Tryz.underlying270
section
variable {w:World} {t m n:Nat} {uv:Value} {defs uses:List (Nm×Int)}
theorem EJ(h:PT w t m uv n defs uses):Calls Tryz.prog 238 #[.pointer (some ⟨t,0,none⟩)] w fun e w'=>e=.returned (.bool true)/\w=w':=by
 have c0:=h.blk.cell' (i:=0) rfl;have hn:∀ W:World,(binOp .neq 270 (.map (some m)) (.map none)).run Tryz.prog W=.ok (.bool true) W:=fun W=>PI W m;clear h;go_enter Tryz.func238,Tryz.ntmps238
 go_wp2;go_ret;exact⟨rfl,rfl⟩
def t_(s:Nm):Int:=if qJ s=true then 0 else 8
theorem QM(h:PT w t m uv n defs uses)(s:Nm)(hs:s.length<=1000000):Calls Tryz.prog 394 #[.pointer (some ⟨t,0,none⟩),bH s] w fun e w'=>e=.returned (.int .i64 (t_ s))/\ah w w' []:=by
 have hl:=EJ h;have hi:=U1 s w hs;clear h;unfold t_
 cases hb:qJ s with
 | true =>
  rw [hb] at hi;clear hb;unfold bH at *;go_enter Tryz.func394,Tryz.ntmps394
  go_wp2_with (first | (go_at_call 238; refine hl.mono ?_; rintro e w1 ⟨rfl,rfl⟩) | (go_at_call 216; refine hi.mono ?_));rintro e w1 ⟨rfl,hc⟩;go_wp2;go_ret;exact⟨rfl,hc⟩
 | false =>
  rw [hb] at hi;clear hb;unfold bH at *;go_enter Tryz.func394,Tryz.ntmps394
  go_wp2_with (first | (go_at_call 238; refine hl.mono ?_; rintro e w1 ⟨rfl,rfl⟩) | (go_at_call 216; refine hi.mono ?_));rintro e w1 ⟨rfl,hc⟩;go_wp2;go_ret;exact⟨rfl,hc⟩
theorem Yv (h:PT w t m uv n defs uses) (s:Nm) (hs:s.length<=1000000) :
 Calls Tryz.prog 274 #[.pointer (some ⟨t,0,none⟩),bH s] w fun e w'=>e=.returned (.tuple #[.int .i64 ((gJ defs s).getD 0),.bool (gJ defs s).isSome])/\w=w':=by
 have hl:=EJ h;have c0:=h.blk.cell' (i:=0) rfl;have hk:=Zv s hs;have HM:=hide h.map;clear h;unfold bH at *;go_enter Tryz.func274,Tryz.ntmps274
 go_wp2_with (first | (go_at_call 238; refine hl.mono ?_; rintro e w1 ⟨rfl,rfl⟩) | (at_lookup; refine qK rfl _ _ 270 rfl 9 BK Tryz.underlying270 m n (Af defs) rfl HM.out _ (.string s) rfl hk trivial ?_));go_wp2;go_ret2;exact⟨rfl,rfl⟩
def C9(defs:List (Nm×Int))(s:Nm):Int:=if qJ s=false then 8 else if(gJ defs s).isSome then 9 else 0
def Ag(defs:List (Nm×Int))(s:Nm)(p:Int):List (Nm×Int):=if C9 defs s=0 then defs++[(s,p)] else defs
theorem U2(h:PT w t m uv n defs uses)(s:Nm)(p:Int)(hs:s.length<=1000000)(hn:n<=1000000)(hp:(Lit.int .i64 p).wf=true) :
 Calls Tryz.prog 391 #[.pointer (some ⟨t,0,none⟩),bH s,.int .i64 p] w fun e w'=>e=.returned (.int .i64 (C9 defs s))/\ah w w' [m]/\∃ n',n'+defs.length<=n+(Ag defs s p).length/\PT w' t m uv n' (Ag defs s p) uses:=by
 have hmay:=QM h s hs
 cases hb:qJ s with
 | false =>
  have e0:C9 defs s=8:=by unfold C9; rw [hb]; rfl
  have e1:Ag defs s p=defs:=by unfold Ag; rw [e0]; rfl
  have H:=hide h;have em:t_ s=8:=by unfold t_; rw [hb]; rfl
  rw [em] at hmay;rw [e0,e1];clear em;clear hb e0 e1 h hp;unfold bH at *;go_enter Tryz.func391,Tryz.ntmps391
  go_wp2_with (go_at_call 394; refine hmay.mono ?_);rintro e w1 ⟨rfl,hc⟩;go_wp2;go_ret;exact⟨rfl,hc.more (by simp),n,Nat.le_refl _,H.out.aj hc (by simp)⟩
 | true =>
  have em:t_ s=0:=by unfold t_; rw [hb]; rfl
  rw [em] at hmay;clear em;have hk:=Zv s hs;have H:=hide h
  cases hf:gJ defs s with
  | some q =>
   have e0:C9 defs s=9:=by unfold C9; rw [hb,hf]; rfl
   have e1:Ag defs s p=defs:=by unfold Ag; rw [e0]; rfl
   have hfd:Af defs (.string s)=some q:=hf;rw [e0,e1];clear hb e0 e1 h hp hf;unfold bH at *;go_enter Tryz.func391,Tryz.ntmps391
   go_wp2_with (go_at_call 394; refine hmay.mono ?_);rintro e w1 ⟨rfl,hc⟩;have H1:=hide (H.out.aj hc (by simp));have HC:=hide hc;have c0:=H1.out.blk.cell' (i:=0) rfl;clear hc;go_wp2_with (at_lookup; refine qK rfl _ _ 270 rfl 9 BK Tryz.underlying270 m n (Af defs) rfl H1.out.map _ (.string s) rfl hk trivial ?_; rw [hfd]);go_wp2;go_ret;exact⟨rfl,HC.out.more (by simp),n,Nat.le_refl _,H1.out⟩
  | none =>
   have e0:C9 defs s=0:=by unfold C9; rw [hb,hf]; rfl
   have e1:Ag defs s p=defs++[(s,p)]:=by unfold Ag; rw [e0]; rfl
   have hfd:Af defs (.string s)=none:=hf;have HP:=hide (ahY defs s p hf);rw [e0,e1];clear hb e0 e1 h hf;unfold bH at *;go_enter Tryz.func391,Tryz.ntmps391
   go_wp2_with (go_at_call 394; refine hmay.mono ?_);rintro e w1 ⟨rfl,hc⟩;have H1:=hide (H.out.aj hc (by simp));have HC:=hide hc;have c0:=H1.out.blk.cell' (i:=0) rfl;clear hc;go_wp2_with (first | (at_lookup; refine qK rfl _ _ 270 rfl 9 BK Tryz.underlying270 m n (Af defs) rfl H1.out.map _ (.string s) rfl hk trivial ?_; rw [hfd]) | (at_mapUpdate; refine JZ rfl _ _ _ 270 rfl 9 BK Tryz.underlying270 m n (Af defs) rfl H1.out.map (by unfold maxLen; omega) _ (.string s) rfl hk trivial p rfl hp ?_));intro w2 hm2 hc2;rw [HP.out] at hm2;have QN:=hide hm2;have HC2:=hide hc2;clear hm2 hc2;go_wp2;go_ret;refine⟨rfl,(HC.out.more (D':=[m]) (by simp)).trans HC2.out (by simp),n+1,by rw [List.length_append]; simp; omega,?_⟩;obtain⟨n1,n2,n3⟩:=H1.out.ne;exact⟨H1.out.blk.aj HC2.out (by simpa using n1),QN.out,aH H1.out.row HC2.out (fun g hg=>by simp; rintro rfl; exact n3 hg)⟩
end
end

section
open Go.RowKit Go.Deep Go.Maps
attribute [local go_sem] Oper.semAt_some
theorem ahZ:(Tryz.prog.info? 325).map (fun i=>(i.zero,i.size,i.bytes))=some (some (.agg #[.string ⟨#[]⟩,.int .i64 0]),2,24):=by kernel_rfl
def EK(uses:List (Nm×Int))(s:Nm)(p:Int):List (Nm×Int):=if qJ s=true then uses++[(s,p)] else uses
def Ns(w:World)(v v':Value):Prop:=v'.ownBlock=v.ownBlock\/∃ g,v'.ownBlock=some g/\w.heap.size<=g
theorem Ns.refl (w:World) (v:Value):Ns w v v:=.inl rfl
theorem amd{w:World}{a b:Value}{t:TypeId}:∀ j u,[a,b][j]?=some u->(w.alloc (.cells #[a,b] t)).cell? ((⟨w.heap.size,0,none⟩:Addr).add j)=some u:=by
 intro j u hj
 match j,hj with
 | 0,hj=>simp at hj; subst hj; simp [Addr.add]
 | 1,hj=>simp at hj; subst hj; simp [Addr.add]
theorem QO{w:World}{t m n:Nat}{uv:Value}{defs uses:List (Nm×Int)}(h:PT w t m uv n defs uses)(s:Nm)(p:Int)(hs:s.length<=1000000)(hn:uses.length<=1000000) :
 Calls Tryz.prog 396 #[.pointer (some ⟨t,0,none⟩),bH s,.int .i64 p] w fun e w'=>e=.returned (.int .i64 (t_ s))/\ah w w' ([t]++uv.ownBlock.toList)/\∃ uv',Ns w uv uv'/\PT w' t m uv' n defs (EK uses s p):=by
 obtain⟨i0,hi,hz0,hz1,hz2⟩:=info_parts ahZ;have hmay:=QM h s hs;have H:=hide h
 cases hb:qJ s with
 | false =>
  have em:t_ s=8:=by unfold t_; rw [hb]; rfl
  have e1:EK uses s p=uses:=by unfold EK; rw [hb]; rfl
  rw [em] at hmay;rw [em,e1];clear hb em e1 h;unfold bH at *;go_enter Tryz.func396,Tryz.ntmps396
  go_wp2_with (go_at_call 394; refine hmay.mono ?_);rintro e w1 ⟨rfl,hc⟩;go_wp2;go_ret;exact⟨rfl,hc.more (by simp),uv,Ns.refl _ _,H.out.aj hc (by simp)⟩
 | true =>
  have em:t_ s=0:=by unfold t_; rw [hb]; rfl
  have e1:EK uses s p=uses++[(s,p)]:=by unfold EK; rw [hb]; rfl
  rw [em] at hmay;rw [em,e1];clear hb em e1 h;unfold bH at *;go_enter Tryz.func396,Tryz.ntmps396
  go_wp2_with (go_at_call 394; refine hmay.mono ?_);rintro e w1 ⟨rfl,hc⟩;have H1:=hide (H.out.aj hc (by simp));have HC:=hide hc;have c1:=H1.out.blk.cell' (i:=1) rfl;have f1:=H1.out.blk.frozen 1;obtain⟨A,c,rfl⟩:=bK H1.out.row;clear hc;go_wp2_with (at_builtin; refine wpList_append_lies _ rfl _ _ 271 rfl 0 325 i0 (.agg #[.string ⟨#[]⟩,.int .i64 0]) 2 24 Tryz.underlying271 hi hz0 hz1 hz2 rfl (by decide) _ uses.length _ rfl (H1.out.row.alloc _) ⟨w1.heap.size,0,none⟩ 1 1 [.string ⟨s.toArray⟩,.int .i64 p] rfl rfl amd (by intro u hu; simp at hu; rcases hu with rfl | rfl<;>rfl) (by decide) (by unfold maxLen; omega) (by omega) (Nat.zero_le _) _ rfl ?_);intro g cap w2 hown hgr hg2 hg3;obtain⟨n1,n2,n3⟩:=H1.out.ne;have hc2:ah w1 w2 (Value.slice A uses.length c).ownBlock.toList:=((ah.refl w1 _).alloc _).trans (ah.fZ hgr (fun k hk=>.inl (by simp [hk]))) (fun k hk=>.inl hk);have hb2:=H1.out.blk.aj hc2 (by simpa using fun e=>n2 e);have hm2:=H1.out.map.aj hc2 (by simpa using fun e=>n3 e);have d1:=hb2.cell' (i:=1) rfl;have k1:=hb2.frozen 1;have HB2:=hide hb2;have QN:=hide hm2;have HC2:=hide hc2;have G_:=hide hown;have HG:=hide hg2
  have htg:t≠g:=fun e=>by
   subst e;rcases hg2 with h | h
   . exact n2 h
   . have:=H1.out.blk.lt
     omega
  have HN:=hide n1;clear hown hgr hb2 hm2 hc2 hg2 n1 n2 n3;go_wp2;go_ret;have hc3:ah w2 (w2.setCell ⟨t,1,none⟩ (.slice (some ⟨g,0,none⟩) (uses.length+1) cap)) [t]:=(ah.refl w2 _).setCell _ _ (by simp);refine⟨rfl,?_,_,?_,⟨HB2.out.aK 1 _,QN.out.aj hc3 (by simpa using fun e=>HN.out e.symm),?_⟩⟩
  . refine(HC.out.more (D':=[t]++(Value.slice A uses.length c).ownBlock.toList) (by simp)).trans ((HC2.out.more (D':=[t]++(Value.slice A uses.length c).ownBlock.toList) (fun k hk=>.inl (List.mem_append_right _ hk))).trans (hc3.more (D':=[t]++(Value.slice A uses.length c).ownBlock.toList) (fun k hk=>.inl (List.mem_append_left _ hk))) (fun k hk=>.inl hk)) (fun k hk=>.inl hk)
  . rcases HG.out with h | h
    . exact .inl h.symm
    . exact .inr ⟨g,rfl,by have:=HC.out.size; omega⟩
  . rw [SB,List.length_append]
    exact aH G_.out hc3 (fun k hk=>by simp [Value.ownBlock] at hk; subst hk; simpa using fun e=>htg e.symm)
theorem ah0:(Tryz.prog.info? 243).map (fun i=>(i.zero,i.size,i.bytes))=some (some (.agg #[.int .i64 0,.int .i64 0]),2,16):=by kernel_rfl
def wu(l:List (Int×Int)):List Value:=l.flatMap fun p=>[.int .i64 p.1,.int .i64 p.2]
theorem SC(l:List (Int×Int))(p:Int×Int):wu (l++[p])=wu l++[.int .i64 p.1,.int .i64 p.2]:=by simp [wu]
theorem PK{α:Type}(f:α->Value)(h:α->Value):∀(l:List α) (k:Nat) (x:α),l[k]?=some x->(l.flatMap fun p=>[f p,h p])[k*2]?=some (f x)/\(l.flatMap fun p=>[f p,h p])[k*2+1]?=some (h x)
 | [],k,x,e=>by simp at e
 | y::l,0,x,e=>by simp at e; subst e; exact⟨rfl,rfl⟩
 | y::l,k+1,x,e=>by
  have:=PK f h l k x (by simpa using e);rw [List.flatMap_cons,show(k+1)*2=k*2+2 by omega];exact this
theorem oH{w:World}{base e size n:Nat}{v:Value}{xs:List Value}(h:w.ownsRow base e size v n xs):∃ A c,v=.slice A n c/\(0<n->∃ g,A=some ⟨g,0,none⟩/\g<w.heap.size/\v.ownBlock=some g/\∀ i u,xs[i]?=some u->w.cell? ⟨g,i,none⟩=some u):=by
 rcases h.2 with⟨rfl,h0⟩ | ⟨g,cap,cur,rfl,h1,h2,_⟩
 . exact⟨none,0,by rw [h0],fun hp=>by omega⟩
 . refine⟨_,cap,rfl,fun _=>⟨g,rfl,lt_of_heap h2,rfl,fun i u hu=>?_⟩⟩
   have:=h.cells (g:=g) rfl i u hu;rwa [add_plain,Nat.zero_add] at this
theorem QS{defs:List (Nm×Int)}{s:Nm}{p:Int}{r:List (Nm×Int)}(h:gJ defs s=none):mP defs ((s,p)::r)=.error s:=by rw [mP,h]
theorem QT{defs:List (Nm×Int)}{s:Nm}{p q:Int}{r:List (Nm×Int)}(h:gJ defs s=some q):mP defs ((s,p)::r)=match mP defs r with | .error e=>.error e | .ok l=>.ok ((p,q)::l):=by rw [mP]; simp only [h]; cases mP defs r<;>rfl
def zJ(acc:List (Int×Int)):Except Nm (List (Int×Int))->Except Nm (List (Int×Int))
 | .error e=>.error e
 | .ok l=>.ok (acc++l)
theorem U3(acc:List (Int×Int))(p q:Int)(x:Except Nm (List (Int×Int))):zJ acc (match x with | .error e=>.error e | .ok l=>.ok ((p,q)::l))=zJ (acc++[(p,q)]) x:=by
 cases x<;>simp [zJ]
def awR(r:Except Nm (List (Int×Int)))(w:World)(e:Ending)(w':World):Prop :=
 ah w w' []/\((∃ s q,r=.error s/\e=.returned (.tuple #[.slice none 0 0,.iface 292 (.pointer (some ⟨q,0,none⟩))])/\aC w' q 296 [bH s]) \/
  (∃ fx v,r=.ok fx/\e=.returned (.tuple #[v,.nilIface])/\w'.ownsRow w.heap.size 243 2 v fx.length (wu fx)))
theorem Yw{w:World}{t m n:Nat}{uv:Value}{defs uses:List (Nm×Int)}(h:PT w t m uv n defs uses)(hs:∀ p∈uses,p.1.length<=1000000)(hn:uses.length<=1000000) :
 Calls Tryz.prog 239 #[.pointer (some ⟨t,0,none⟩)] w (awR (mP defs uses) w):=by
 obtain⟨i0,hi,hz0,hz1,hz2⟩:=info_parts ah0;have H:=hide h;have HS:=hide hs;have c1:=h.blk.cell' (i:=1) rfl;obtain⟨A,c,rfl,hx⟩:=oH h.row;have HX:=hide hx;clear h hs hx;go_enter Tryz.func239,Tryz.ntmps239
 go_wp2;go_loopw [4,14] (fun v i wr=>∃(k:Nat) (acc:List (Int×Int)),k<=uses.length/\i=.int .i64 k/\acc.length<=k/\Hid (wr.ownsRow w.heap.size 243 2 v acc.length (wu acc))/\Hid (ah w wr [])/\Hid (mP defs uses=zJ acc (mP defs (uses.drop k)))) (fun _ i _=>uses.length - (intOf i).toNat)
 case atStart=>exact⟨0,[],Nat.zero_le _,rfl,Nat.le_refl _,hide (World.ownsRow_nil _ _ _ _),hide (ah.refl _ _),hide (by cases h:mP defs uses<;>simp [zJ,h])⟩
 case round =>
  obtain⟨k,acc,hk,rfl,hacc,HO,HR,HI⟩:=hrel;by_cases hlt:k<uses.length
  . obtain⟨g,rfl,hgl,hgb,hcells⟩:=HX.out (by omega)
    obtain⟨⟨s,p⟩,hsp⟩:∃ x,uses[k]?=some x:=⟨uses[k],by simp [hlt]⟩
    obtain⟨q0,q1⟩:=PK (fun p:Nm×Int=>bH p.1) (fun p=>.int .i64 p.2) uses k (s,p) hsp;have ca:=HR.out.cell (hcells _ _ q0) (by simp);have cb:=HR.out.cell (hcells _ _ q1) (by simp);have hsl:=HS.out (s,p) (List.mem_of_getElem? hsp)
    have HDR:Hid (uses.drop k=(s,p)::uses.drop (k+1)):=hide (by
     rw [List.drop_eq_getElem_cons hlt];congr 1;rw [List.getElem?_eq_getElem hlt] at hsp
     injection hsp)
    have hgr:g<wr.heap.size:=by have:=HR.out.size; omega
    have hpl:=Yv ((H.out.aj HR.out (by simp)).aj ((ah.refl wr []).alloc (.cells #[bH s,.int .i64 p] 325)) (by simp)) s hsl;clear hcells hsp q0 q1 hsl
    cases hf:gJ defs s with
    | none =>
     rw [hf] at hpl;have HE:=hide (QS (p:=p) (r:=uses.drop (k+1)) hf);clear hf;unfold bH at *;go_wp2_with (go_at_call 274; refine hpl.mono ?_; rintro e w1 ⟨rfl,rfl⟩);go_region_with (fail)
     all_goals
      go_wp2;go_ret2;refine⟨?_,.inl ⟨s,wr.heap.size+1,by rw [HI.out,HDR.out,HE.out]; rfl,rfl,?_⟩⟩
      . first
         | exact((HR.out.alloc _).alloc _).drew
         | exact((HR.out.alloc _).drew.alloc _)
      . first
         | (have hb:=(aC.new (wr.alloc (.cells #[bH s,.int .i64 p] 325)) 296 [bH s]).drew; rw [size_alloc] at hb; exact hb)
    | some q =>
     rw [hf] at hpl;have HE:=hide (QT (p:=p) (r:=uses.drop (k+1)) hf);clear hf;unfold bH at *;go_wp2_with (first | (go_at_call 274; refine hpl.mono ?_; rintro e w1 ⟨rfl,rfl⟩) | (at_builtin; refine wpList_append_own _ rfl _ _ 238 rfl w.heap.size 243 i0 (.agg #[.int .i64 0,.int .i64 0]) 2 16 Tryz.underlying238 hi hz0 hz1 hz2 rfl (by decide) _ acc.length _ rfl ((HO.out.alloc _).alloc _) ⟨wr.heap.size+1,0,none⟩ 1 1 [.int .i64 p,.int .i64 q] rfl rfl ?c1 ?c2 ?c3 ?c4 ?c5 ?_))
     case c1 =>
      intro j u hj
      match j,hj with
      | 0,hj=>simp at hj; subst hj; simp [Addr.add]
      | 1,hj=>simp at hj; subst hj; simp [Addr.add]
     case c2=>intro u hu; simp at hu; rcases hu with rfl | rfl<;>rfl
     case c3=>unfold maxLen; omega
     case c4=>omega
     case c5=>have:=HR.out.size; simp; omega
     intro v' w4 hown' hgrow _;have HG:Hid (ah w w4 []):=hide ((((HR.out.alloc _).alloc _).trans (D':=u4.ownBlock.toList) (ah.fZ hgrow (fun k hk=>.inl (by simp [hk]))) (fun k hk=>.inr (HO.out.lt k (by simpa using hk)).1)));have qc:=hide hown';obtain⟨A6,c6,rfl⟩:=bK hown';clear hown' hgrow;go_wp2;go_roundw
     case rel =>
      refine⟨k+1,acc++[(p,q)],by omega,by go_num,by simp; omega,?_,HG,hide ?_⟩
      . rw [List.length_append,SC]; exact qc
      . rw [HI.out,HDR.out,HE.out,U3]
     case measure=>simp [intOf]; omega
  . have hk2:k=uses.length:=by omega
    subst hk2;go_wp2;go_ret2;have hi:=HI.out;rw [List.drop_length,mP] at hi;refine⟨HR.out,.inr ⟨acc,_,?_,rfl,HO.out⟩⟩;rw [hi];simp [zJ]
