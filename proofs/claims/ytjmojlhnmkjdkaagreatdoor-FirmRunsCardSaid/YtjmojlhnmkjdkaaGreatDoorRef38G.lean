/- The firm's law: runs in a row answer the model's frames. -/
import Derived.Test.YtjmojlhnmkjdkaaGreatDoorRef38F
set_option linter.unusedVariables false
namespace Go.Proofs.YtjmojlhnmkjdkaaGreatDoor
open Go Go.RowKit Go.Deep Go.Maps Ab Xi
attribute [local go_sem] Oper.semAt_some
theorem O4:∀ (x:Xi.St) (ls:List (List Nat)),∀ f∈dV x ls,f.length=32/\∀ y∈f,y < 256
 | _,[],f,h=>by cases h
 | x,b :: ls,f,h=>by
  rcases List.mem_cons.1 h with rfl | h
  . exact ⟨Xi.j_ _ _,wM _ (Bj _)⟩
  . exact O4 _ ls f h
set_option maxRecDepth 100000 in
set_option maxHeartbeats 4000000 in
theorem Qw {w:World} (hg:qg w) {A:Option Addr} {c:Nat} {ls:List (List Nat)} (h:Rows w (.slice A ls.length c) ls) (hbb:∀ b∈ls,∀ y∈b,y < 256) (hmx:ls.length<=9223372036854775807) :
 Calls Tryz.prog 3 #[.slice A ls.length c] w fun e w'=>e=.returned (.bool true)/\ah w w' []:=by
 have ha:=fun (W:World) (hW:qg W)=>SB hW;by_cases hall:ls.length<=12/\∀ b∈ls,b.length=20
 . obtain ⟨h12,h20⟩:=hall
   have hr:=Y7 h h20 h12;have hbe:=SG hg;have als:=hide h;obtain ⟨A,c,e0,hx⟩:=h.open_;injection e0 with e1 e2 e3;subst e1 e3;have HX:=hide hx;have HG:=hide hg;have H20:=hide h20;have HBB:=hide hbb;have HAW:=hide ha;have hfl:=xk st0 ls;have Gj:=hide hfl;have HFT:=hide (O4 st0 ls);obtain ⟨κ,hκ⟩:∃ κ,gJ bW=κ:=⟨_,rfl⟩
   have HK:=hide (show 0<=κ/\κ<=100000 from hκ ▸ J7);have Hκ:=hide hκ;clear h hg h20 hbb hx ha hκ hfl;go_enter Tryz.func3,Tryz.ntmps3
   go_wp2_with fail
   go_at_call 5;refine hr.mono ?_;rintro e w1 ⟨rfl,rfl⟩;clear hr;go_wp2_with fail
   go_at_call 7;refine hbe.mono ?_;rintro e w1 ⟨q,cc,F0,s1,s2,s3,s4,s5,rfl,hc1,hrow,hq,hF0⟩;have hfr:=Qr (HG.out.aj hc1 (by simp)) (als.out.keep hc1) H20.out HBB.out h12;have dG:=hide hc1;have DU:=hide hF0;have HR1:=hide hrow;have HZF:=hide (show ∀ k∈F0,k < w1.heap.size from fun k hk=>hrow.core.lt k hk);clear hbe hc1 hrow hF0;go_wp2_with fail
   go_at_call 8;refine hfr.mono ?_;rintro e w2 ⟨o,rfl,hc2,ho⟩;have HC2:=hide (dG.out.trans hc2 (by simp));have BK:=hide (ho.own (F':=F0) fun k hk=>List.mem_range.2 (HZF.out k hk));have HR2:=hide (show aj7 w2 w2 q cc F0 st0 s1 s2 s3 s4 s5 from ⟨_,_,HR1.out.cO hc2,Sub.refl _ _⟩)
   obtain ⟨B2,c2,rfl⟩:∃ A c,o=.slice A (dV st0 ls).length c:=by
    obtain ⟨A,c,e,_⟩:=ho.rows.open_;exact ⟨A,c,e⟩
   clear hfr hc2 ho;go_wp2_with fail
   go_loopw [6,7,8,9,10] (fun cst i _ _ _ wr=>∃ j:Nat,j<=ls.length/\i=.int .i64 j/\cst=.int .i64 ((j:Int) * κ)/\Hid (ah w2 wr F0)/\Hid (aj7 w2 wr q cc F0 (gZ st0 (ls.take j)) s1 s2 s3 s4 s5)) (fun _ i _ _ _ _=>ls.length - (intOf i).toNat)
   case atStart=>exact ⟨0,Nat.zero_le _,rfl,by simp,hide (ah.refl w2 F0),HR2⟩
   case round =>
    obtain ⟨j,hj,rfl,rfl,HC,HRW⟩:=hrel;by_cases hlt:j < ls.length
    . obtain ⟨b,hjb⟩:∃ b,ls[j]?=some b:=⟨ls[j],by simp [hlt]⟩
      obtain ⟨bb,off,B,cb,rfl,hcl,hsl⟩:=HX.out j b hjb;have LW:=H20.out b (List.mem_of_getElem? hjb);have hb256:=HBB.out b (List.mem_of_getElem? hjb);have hcw:ah w wr []:=HC2.out.trans HC.out (fun k hk=>.inr (DU.out k hk));have hcl':=hcw.cell hcl (by simp);have hblt:=asz hsl (by omega);obtain ⟨s,F',hrow,hsub⟩:=HRW.out
      have hF':∀ k∈F',w.heap.size<=k:=fun k hk=>by
       rcases hsub k hk with h | h
       . exact DU.out k h
       . exact Nat.le_trans HC2.out.size h
      have hst:gZ st0 (ls.take (j+1))=(gZ st0 (ls.take j)).next b:=by rw [List.take_add_one,hjb]; exact Dt _ _ _
      have hrun:=Y_ (HG.out.aj hcw (by simp)) hrow (Bq CO (ls.take j)) LW hb256 (hsl.keep hcw) (fun k hk hm=>by have:=hblt k hk; have:=hF' k hm; omega);have hfj:=OT st0 ls j b hjb;rw [<- hst] at hrun hfj;rw [LW] at hcl' hrun;have HSB:=hide hsub;have HFJ:=hide hfj;clear hjb hcl hsl LW hb256 hcw hblt hrow hsub hF' hst hfj;go_wp2_with fail
      go_at_call 9;refine hrun.mono ?_;rintro e w3 ⟨u,m,F3,s3',rfl,hc3,hs3,hrow3,hd3,ho3,hm3,hfu,hfm⟩;clear hrun;have Zq:ah w2 w3 F0:=HC.out.trans hc3 (fun k hk=>HSB.out k hk)
      have hS3:Sub F3 F0 w2:=fun k hk=>by
       rcases hs3 k hk with h | h
       . exact HSB.out k h
       . exact .inr (Nat.le_trans HC.out.size h)
      have hwant:=(BK.out.aj Zq hS3).rows;obtain ⟨A9,c9,e9,hx9⟩:=hwant.open_;injection e9 with e91 e92 e93;subst e91 e93;obtain ⟨b9,o9,B9,cb9,rfl,hcl9,hsl9⟩:=hx9 j _ HFJ.out;have O5:=(HFT.out _ (List.mem_of_getElem? HFJ.out)).2;have asC:=(HFT.out _ (List.mem_of_getElem? HFJ.out)).1;rw [asC] at hcl9 hsl9;have hou:=Sl.own ho3;have hsm:=fun (W:World) (hW:ah w3 W [])=>SI (ks:=bW) (by rw [wI]; exact aH hm3 hW (by simp)) aaq (by rw [wI]; omega) (by rw [wI]; omega);have iR:=hide Zq;have HR3:=hide (show ∀ w4,ah w3 w4 []->aj7 w2 w4 q cc F0 (gZ st0 (ls.take (j+1))) s1 s2 s3 s4 s5 from fun w4 h4=>⟨_,_,hrow3.cO h4,hS3⟩);obtain ⟨VU3,vuc3,rfl⟩:=aY ho3;obtain ⟨VM3,vmc3,rfl⟩:=aY hm3;rw [Hκ.out] at hsm;have HSM:=hide hsm;have ss:=XZ;have k1:=zN hou O5;have k2:=zN hsl9 O5;have k3:=fun n:Nat=>zN (hou.keep ((ah.refl w3 []).drewN n)) O5;have k4:=fun n:Nat=>zN (hsl9.keep ((ah.refl w3 []).drewN n)) O5;have hjn:j < (dV st0 ls).length:=by rw [Gj.out]; exact hlt
      have hmul:((j+1:Nat):Int) * κ=(j:Int) * κ+κ:=by push_cast; rw [Int.add_mul,Int.one_mul]
      have hm0:0<=(j:Int) * κ:=Int.mul_nonneg (by omega) HK.out.1;have hm1:(j:Int) * κ<=12 * 100000:=Int.mul_le_mul (by omega) HK.out.2 HK.out.1 (by omega);have ajZ:=hide hmul;have hk0:=HK.out;clear hmul hc3 hs3 hrow3 hd3 ho3 hm3 hfu hfm Zq hS3 hcl' hwant hx9 hou O5 hsl9 asC hsm;generalize (j:Int) * κ=mm at *;have hwr:wrap64 (mm+κ)=mm+κ:=by unfold wrap64; omega
      go_wp2_with fail
      go_quiet (fail)
      go_wp2_with fail
      go_at_call 10;refine (HSM.out _ ((ah.refl w3 []).drewN _)).mono ?_;rintro e w4 ⟨rfl,hc4⟩;have gV:=hide (iR.out.trans (((ah.refl w3 []).drewN _).trans hc4 (by simp)) (D:=F0) (by simp));have HR4:=hide (HR3.out w4 (((ah.refl w3 []).drewN _).trans hc4 (by simp)));clear hc4 HSM HR3;go_wp2;go_roundw
      case rel=>exact ⟨j+1,by omega,by go_num,by rw [ajZ.out],gV,HR4⟩
      case measure=>simp [intOf]; omega
    . have hjl:j=ls.length:=by omega
      clear hlt hj;subst hjl;have hcw:ah w wr []:=HC2.out.trans HC.out (fun k hk=>.inr (DU.out k hk));have adE:=OU (HG.out.aj hcw (by simp)) (als.out.keep hcw) H20.out HBB.out h12;rw [Hκ.out] at adE;have hwant:kD wr w1.heap.size F0 (.slice B2 (dV st0 ls).length c2) (dV st0 ls):=BK.out.aj HC.out (Sub.refl _ _);have HW:=hide hwant;have X8:=hide hcw;have hm0:0<=((ls.length:Nat):Int) * κ:=Int.mul_nonneg (by omega) HK.out.1;have hm1:((ls.length:Nat):Int) * κ<=12 * 100000:=Int.mul_le_mul (by omega) HK.out.2 HK.out.1 (by omega);have hwr:wrap64 (((ls.length:Nat):Int) * κ)=((ls.length:Nat):Int) * κ:=by unfold wrap64; omega
      have HWR:=hide hwr;clear hcw hwant hwr hm0 hm1;go_wp2_with fail
      go_at_call 11;refine adE.mono ?_;rintro e w4 ⟨u,rfl,hc4,hou⟩;have hsame:=SE hou.rows ((HW.out.keep hc4).rows) (fun b hb=>(HFT.out b hb).2) (by rw [Gj.out]; omega)
      obtain ⟨A4,n4,c4,rfl⟩:∃ A n c,u=.slice A n c:=by
       obtain ⟨A,c,e,_⟩:=hou.rows.open_;exact ⟨A,_,c,e⟩
      have gV:=hide (X8.out.trans hc4 (by simp));clear adE hc4 hou;go_wp2_with fail
      go_at_call 12;refine hsame.mono ?_;rintro e w5 ⟨rfl,hc5⟩;have Nh:ah w w5 []:=gV.out.trans hc5 (by simp);have hco:=Y9 (HG.out.aj Nh (by simp));rw [Hκ.out] at hco;have ig:=hide Nh;clear hsame hc5 Nh;go_wp2_with fail
      go_at_call 13;refine hco.mono ?_;rintro e w6 ⟨rfl,hc6⟩;have hC6:ah w w6 []:=ig.out.trans hc6 (by simp);have haw:=HAW.out w6 (HG.out.aj hC6 (by simp));have BN:=hide hC6;have hwr:=HWR.out;clear hco hc6 hC6;go_wp2_with fail
      go_at_call 6;refine haw.mono ?_;rintro e w7 ⟨rfl,hc7⟩;have HC7:=hide (BN.out.trans hc7 (by simp));clear haw hc7;go_wp2;go_ret;exact ⟨rfl,HC7.out⟩
 . have hr:=Za h hmx hall
   have haw:=ha w hg;clear h hg hall ha;go_enter Tryz.func3,Tryz.ntmps3
   go_wp2_with fail
   go_at_call 5;refine hr.mono ?_;rintro e w1 ⟨rfl,rfl⟩;clear hr;go_wp2_with fail
   go_at_call 6;refine haw.mono ?_;rintro e w2 ⟨rfl,hc⟩;have HC:=hide hc;clear haw hc;go_wp2;go_ret;exact ⟨rfl,HC.out⟩
