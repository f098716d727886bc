/- The law on audit.Price. -/
import Derived.Test.YtbhikopphamgjaaGreatDoorAudV
set_option linter.unusedVariables false
set_option linter.unusedSimpArgs false
namespace Go.Proofs.YtbhikopphamgjaaGreatDoor
open Go Go.RowKit Go.Deep Go.Maps Go.Shelf Ab Xi
attribute [local go_sem] Oper.semAt_some
theorem adh {w:World} (hg:iZ w) {d n:Nat} {G:List Nat} (h:kH w d n G) {b:List Nat} (hn:n < 100) {B:Option Addr} {cb:Nat} (hl:b.length<=maxLen) (hb:∀ y∈b,y < 256) (hin:Sl w (.slice B b.length cb) (dB b)) :
 Calls Tryz.prog 14 #[.pointer (some ⟨d,0,none⟩),.slice B b.length cb] w fun e w' => ∃ v G' D,e = .returned v/\ah w w' D/\(∀ k∈D,k∈G/\11<=k)/\Sub G' G w/\kH w' d (n + bV (true,b)) G':=by
 obtain ⟨c,x,s,ran,F,I,h,rfl⟩:=h;by_cases h20:b.length = 20
 . have hr:bV (true,b) = 1:=by unfold bV; simp [h20]
   rw [hr];simp only [h20] at hin ⊢;refine (Ie hg h hn h20 hb hin).mono ?_;rintro e w' ⟨v,F',s',rfl,hc,hs,hd,_⟩;refine ⟨_,_,d :: F,rfl,hc,fun k hk => ⟨LC hk,h.Qg k hk⟩,?_,⟨c,_,_,_,F',I,hd,rfl⟩⟩;intro k hk;rcases List.mem_cons.1 hk with rfl | hk
   . exact .inl (by simp)
   . rcases List.mem_append.1 hk with hk | hk
     . exact (hs k hk).imp_left (fun h => by simp [h])
     . exact .inl (by simp [hk])
 . have hr:bV (true,b) = 0:=by unfold bV; simp [h20]
   rw [hr];refine (OH h (A:=B) (m:=cb) h20 hl).mono ?_;rintro e w' ⟨rfl,hc⟩;exact ⟨_,d :: (F ++ I),[],rfl,hc,by simp,fun k hk => .inl hk,⟨c,x,s,ran,F,I,h.bC hc,rfl⟩⟩
theorem aam {w:World} (hg:iZ w) {d n:Nat} {G:List Nat} (h:kH w d n G) :
 Calls Tryz.prog 15 #[.pointer (some ⟨d,0,none⟩)] w fun e w' => ∃ v G' D,e = .returned v/\ah w w' D/\(∀ k∈D,k∈G/\11<=k)/\Sub G' G w/\kH w' d n G':=by
 obtain ⟨c,x,s,ran,F,I,h,rfl⟩:=h;refine (Fp hg h).mono ?_;rintro e w' ⟨rfl,hc,F',hs,hd⟩;refine ⟨_,_,d :: F,rfl,hc,fun k hk => ⟨LC hk,h.Qg k hk⟩,?_,⟨c,_,_,_,F',I,hd,rfl⟩⟩;intro k hk;rcases List.mem_cons.1 hk with rfl | hk
 . exact .inl (by simp)
 . rcases List.mem_append.1 hk with hk | hk
   . exact (hs k hk).imp_left (fun h => by simp [h])
   . exact .inl (by simp [hk])
def FU (w1 w:World) (d n:Nat):Prop:=∃ G,kH w d n G/\∀ k∈G,w1.heap.size<=k
theorem FU.step {w1 w w':World} {d m:Nat} {G G' D:List Nat} (hc1:ah w1 w []) (hG:∀ k∈G,w1.heap.size<=k) (hc:ah w w' D) (hD:∀ k∈D,k∈G/\11<=k) (hs:Sub G' G w) (hd:kH w' d m G'):FU w1 w' d m/\ah w1 w' [] :=
 ⟨⟨G',hd,fun k hk => (hs k hk).elim (hG k) (fun h => Nat.le_trans hc1.size h)⟩,hc1.trans hc (fun k hk => .inr (hG k (hD k hk).1))⟩
theorem FU.cost {w1 w:World} {d n:Nat} (h:FU w1 w d n):Calls Tryz.prog 16 #[.pointer (some ⟨d,0,none⟩)] w fun e w' => e = .returned (.int .i64 (bG n))/\w = w':=by
 obtain ⟨G,⟨c,x,s,ran,F,I,h1,_⟩,_⟩:=h;exact Ic h1
set_option maxRecDepth 100000 in
set_option maxHeartbeats 8000000 in
theorem G7 {w:World} (hg:iZ w) {A:Option Addr} {c:Nat} {ds:List aP} (h:r_ w A ds) (hl:ds.length<=maxLen) (hln:∀ d∈ds,d.2.length<=maxLen/\∀ y∈d.2,y < 256) :
 Calls Tryz.prog 5 #[.slice A ds.length c] w fun e w' => e = .returned (.bool true)/\ah w w' []:=by
 have hfa:=zM (c:=c) 1100 h hl (fun d hd => (hln d hd).1);have HD:=hide h;have OL:=hide hln;obtain ⟨vs,hr⟩:=jG.of h;have HG:=hide hg;have HR:=hide hr;clear h hln hr hg
 cases ha:yQ ds 1100 with
 | false =>
  rw [ha] at hfa;have yX:=hide hfa;clear hfa ha hl;go_enter Tryz.func5,Tryz.ntmps5
  go_wp2_with fail
  go_at_call 6;refine yX.out.mono ?_;rintro e w0 ⟨rfl,hw0⟩;obtain rfl:=hw0.symm;have haw:=dV HG.out;have nG:=hide haw;clear haw;go_wp2_with fail
  go_at_call 7;refine nG.out.mono ?_;rintro e wz ⟨rfl,hcz⟩;have mg:=hide (hcz);clear hcz;go_wp2;go_ret;exact ⟨rfl,mg.out⟩
 | true =>
  rw [ha] at hfa;have yX:=hide hfa;have hla:=(yR ha).2;clear hfa ha hl;have hla:ds.length<=1100:=by omega
  by_cases h1:1000 < ds.length
  . go_enter Tryz.func5,Tryz.ntmps5
    go_wp2_with fail
    go_at_call 6;refine yX.out.mono ?_;rintro e w0 ⟨rfl,hw0⟩;obtain rfl:=hw0.symm;have hk:=aai (w:=w) (A:=A) (c:=c) h1 (by unfold maxLen; omega);have HK:=hide hk;clear hk;go_wp2_with fail
    go_at_call 11;refine HK.out.mono ?_;rintro e w1 ⟨rfl,hcn⟩;have bg:=hide (hcn);clear hcn HK;have haw:=dV (HG.out.aj bg.out (by simp));have nG:=hide haw;clear haw;go_wp2_with fail
    go_at_call 7;refine nG.out.mono ?_;rintro e wz ⟨rfl,hcz⟩;have mg:=hide (bg.out.trans hcz (D:=[]) (by simp));clear hcz;go_wp2;go_ret;exact ⟨rfl,mg.out⟩
  . have hle:ds.length<=1000:=by omega
    have hrn:=ZW (c:=c) HD.out (by omega) (fun d hd => (OL.out d hd).1);have HRN:=hide hrn;clear hrn;have hpc:=Aq (c:=c) HG.out HR.out hle;obtain ⟨N,hN⟩:∃ N,bQ ds = N:=⟨_,rfl⟩
    rw [hN] at hpc;have HPC:=hide hpc;rw [hN] at HRN;clear hpc;by_cases h6:6 < N
    . go_enter Tryz.func5,Tryz.ntmps5
      go_wp2_with fail
      go_at_call 6;refine yX.out.mono ?_;rintro e w0 ⟨rfl,hw0⟩;obtain rfl:=hw0.symm;go_wp2_with fail
      go_at_call 12;refine HRN.out.mono ?_;rintro e w0 ⟨rfl,hw0⟩;obtain rfl:=hw0;have haw:=dV HG.out;have nG:=hide haw;clear haw;go_wp2_with fail
      go_at_call 7;refine nG.out.mono ?_;rintro e wz ⟨rfl,hcz⟩;have mg:=hide (hcz);clear hcz;go_wp2;go_ret;exact ⟨rfl,mg.out⟩
    . have h6':N<=6:=by omega
      go_enter Tryz.func5,Tryz.ntmps5
      go_wp2_with fail
      go_at_call 6;refine yX.out.mono ?_;rintro e w0 ⟨rfl,hw0⟩;obtain rfl:=hw0.symm;go_wp2_with fail
      go_at_call 12;refine HRN.out.mono ?_;rintro e w0 ⟨rfl,hw0⟩;obtain rfl:=hw0;go_wp2_with fail
      go_at_call 11;refine HPC.out.mono ?_;rintro e w1 ⟨rfl,hc1⟩;have bg:=hide hc1;have hnw:=Dz w1 (HG.out.aj hc1 (by simp));clear hc1;go_wp2_with fail
      go_at_call 13;refine hnw.mono ?_;rintro e w2 ⟨d,cc,F,I,rfl,hc2,hd2,hf2⟩;have HC2:=hide hc2;have HD2:=hide (show FU w1 w2 d 0 from ⟨_,⟨cc,st0,iU,false,F,I,hd2,rfl⟩,hf2⟩);clear hnw hc2 hd2 hf2;go_wp2_with fail
      go_loopw [6] (fun i wr => ∃ j:Nat,j<=ds.length/\i = .int .i64 j/\Hid (ah w1 wr [])/\Hid (FU w1 wr d (bQ (ds.take j)))) (fun i _ => ds.length - (intOf i).toNat)
      case atStart => exact ⟨0,Nat.zero_le _,rfl,HC2,HD2⟩
      case round =>
       clear HC2 HD2;obtain ⟨j,hj,rfl,HC,HF⟩:=hrel;by_cases hlt:j < ds.length
       . obtain ⟨ba,oa,rfl,hxA⟩:=HR.out (by omega)
         have gd:=List.getElem?_eq_getElem hlt;obtain ⟨qa0,qa1,⟨B,c1,ea⟩,qs⟩:=hxA j (ds[j]'hlt) gd;have hmem:=OL.out _ (List.getElem_mem hlt);rw [ea] at qa1 qs;have hrt:=DF gd;have hrl:=Jr (ds.take j)
         have arj:bQ (ds.take j)<=6:=by
          have h0:bQ ds = bQ (ds.take j) + bQ (ds.drop j):=by
           unfold bQ;rw [<- List.length_append,<- List.filter_append,List.take_append_drop]
          omega
         generalize ds[j]'hlt = dd at *;obtain ⟨f,dl⟩:=dd;simp only at qa0 qa1 qs hmem;have hcw:=bg.out.trans HC.out (D:=[]) (by simp);have q0:=hcw.cell qa0 (by simp);have q1:=hcw.cell qa1 (by simp);obtain ⟨G,hG,hGl⟩:=HF.out;have yI:=hide hGl;have HRT:=hide hrt;have afT:=hide (fun (_:f = true) => adh (HG.out.aj hcw (by simp)) hG (by omega) hmem.1 hmem.2 (qs.keep hcw));have afU:=hide (aam (HG.out.aj hcw (by simp)) hG);clear hxA gd ea qa0 qa1 qs hmem hrt hrl hcw hG hGl HF
         cases f with
         | true =>
          go_wp2_with fail
          go_at_call 14;refine (afT.out trivial).mono ?_;rintro e w3 ⟨v,G',D,rfl,hc3,hD3,hs3,hd3⟩;have hst:=FU.step HC.out yI.out hc3 hD3 hs3 hd3;have HST:=hide hst;clear hc3 hD3 hs3 hd3 hst afT afU;go_wp2;go_roundw
          case rel => exact ⟨j + 1,by omega,by go_num,hide HST.out.2,hide (by rw [HRT.out]; exact HST.out.1)⟩
          case measure => simp [intOf]; omega
         | false =>
          go_wp2_with fail
          go_at_call 15;refine afU.out.mono ?_;rintro e w3 ⟨v,G',D,rfl,hc3,hD3,hs3,hd3⟩;have hst:=FU.step HC.out yI.out hc3 hD3 hs3 hd3;have HST:=hide hst;clear hc3 hD3 hs3 hd3 hst afT afU;go_wp2;go_roundw
          case rel => exact ⟨j + 1,by omega,by go_num,hide HST.out.2,hide (by rw [HRT.out,show bV (false,dl) = 0 from rfl]; exact HST.out.1)⟩
          case measure => simp [intOf]; omega
       . have hjl:j = ds.length:=by omega
         subst hjl;have hco:=HF.out.cost;rw [List.take_of_length_le (Nat.le_refl _),hN] at hco;obtain ⟨κ,hκ⟩:∃ κ,bG N = κ:=⟨_,rfl⟩
         simp only [hκ] at hco ⊢;have ER:=hide hco;have dU:=hide (bg.out.trans HC.out (D:=[]) (by simp));clear hco;go_wp2_with fail
         go_at_call 16;refine ER.out.mono ?_;rintro e w4 ⟨rfl,rfl⟩;have haw:=dV (HG.out.aj dU.out (by simp));have nG:=hide haw;clear haw;go_wp2_with fail
         go_at_call 7;refine nG.out.mono ?_;rintro e wz ⟨rfl,hcz⟩;have mg:=hide (dU.out.trans hcz (D:=[]) (by simp));clear hcz;go_wp2;go_ret;exact ⟨rfl,mg.out⟩
end Go.Proofs.YtbhikopphamgjaaGreatDoor
