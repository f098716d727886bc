/- The law on what like scripts leak. -/
import Derived.Test.YtbhikopphamgjaaGreatDoorAudV
set_option linter.unusedVariables false
set_option linter.unusedSimpArgs false
namespace Go.Proofs.YtbhikopphamgjaaGreatDoor
open Go Go.RowKit Go.Deep Go.Maps Go.Shelf Ab Xi
attribute [local go_sem] Oper.semAt_some
theorem adf {ds es:List aP} (h:gJ ds es = true):bQ es = bQ ds:=by
 have h1:=FT ds;have h2:=FT es;have hm:=of_decide_eq_true h
 have e:∀ l:List aP,Ap l (true,20) = ((l.map bW).filter fun k => decide (k = (true,20))).length:=fun l => by
  unfold Ap;rw [List.filter_map,List.length_map];rfl
 rw [<- h1,<- h2,e,e,hm]
set_option maxRecDepth 100000 in
set_option maxHeartbeats 8000000 in
theorem Ju {w:World} (hg:iZ w) {A A':Option Addr} {c c':Nat} {ds es:List aP} (h:r_ w A ds) (h':r_ w A' es) (hl:ds.length<=maxLen) (hl':es.length<=maxLen) (hln:∀ d∈ds,d.2.length<=maxLen/\∀ y∈d.2,y < 256) (hln':∀ d∈es,d.2.length<=maxLen/\∀ y∈d.2,y < 256) :
 Calls Tryz.prog 4 #[.slice A ds.length c,.slice A' es.length c'] w fun e w' => e = .returned (.bool true)/\ah w w' []:=by
 have hfa:=zM (c:=c) 6 h hl (fun d hd => (hln d hd).1);obtain ⟨vs,hr⟩:=jG.of h;obtain ⟨us,hr'⟩:=jG.of h';have hsh:=sF (c:=c) (c':=c') hr hr' hl hl';have HG:=hide hg;have HR:=hide hr;have HR':=hide hr';have OL:=hide hln;have UG:=hide hln';have XL:=hide hsh;clear h h' hln hln' hr hr' hg hsh
 cases ha:yQ ds 6 with
 | false =>
  rw [ha] at hfa;have yX:=hide hfa;clear hfa ha hl hl';go_enter Tryz.func4,Tryz.ntmps4
  go_wp2_with fail
  go_at_call 6;refine yX.out.mono ?_;rintro e w0 ⟨rfl,hw0⟩;obtain rfl:=hw0.symm;have haw:=dV HG.out;have nG:=hide haw;clear haw;go_wp2_with fail
  go_at_call 7;refine nG.out.mono ?_;rintro e wz ⟨rfl,hcz⟩;have mg:=hide (hcz);clear hcz;go_wp2;go_ret;exact ⟨rfl,mg.out⟩
 | true =>
  rw [ha] at hfa;have yX:=hide hfa;have hla:=(yR ha).2;clear hfa ha;have hla:ds.length<=6:=by omega
  cases hS:gJ ds es with
  | false =>
   rw [hS] at XL;clear hl hl';go_enter Tryz.func4,Tryz.ntmps4
   go_wp2_with fail
   go_at_call 6;refine yX.out.mono ?_;rintro e w0 ⟨rfl,hw0⟩;obtain rfl:=hw0.symm;go_wp2_with fail
   go_at_call 9;refine XL.out.mono ?_;rintro e w1 ⟨rfl,hc1⟩;have bg:=hide hc1;clear hc1;have haw:=dV (HG.out.aj bg.out (by simp));have nG:=hide haw;clear haw;go_wp2_with fail
   go_at_call 7;refine nG.out.mono ?_;rintro e wz ⟨rfl,hcz⟩;have mg:=hide (bg.out.trans hcz (D:=[]) (by simp));clear hcz;go_wp2;go_ret;exact ⟨rfl,mg.out⟩
  | true =>
   rw [hS] at XL;have hS':=(Ik ds es).trans hS
   have hle:es.length = ds.length:=by
    have:=congrArg List.length (of_decide_eq_true hS)
    simpa using this.symm
   have hlb:es.length<=6:=by omega
   have hrl:=adf hS;have HRL:=hide hrl;obtain ⟨κ,hκ⟩:∃ κ:Int,bG (bQ ds) = κ:=⟨_,rfl⟩
   have hκ':bG (bQ es) = κ:=by rw [hrl]; exact hκ
   have A_:=hide hκ;have iQ:=hide hκ';have dW:=hide hS;have HS2:=hide hS';have afO:=G5;clear hl hl' hle hrl hκ hκ' hS hS';go_enter Tryz.func4,Tryz.ntmps4
   go_wp2_with fail
   go_at_call 6;refine yX.out.mono ?_;rintro e w0 ⟨rfl,hw0⟩;obtain rfl:=hw0.symm;go_wp2_with fail
   go_at_call 9;refine XL.out.mono ?_;rintro e w1 ⟨rfl,hc1⟩;have bg:=hide hc1;clear hc1;have hk:=Js (c:=c) (c':=c') (HG.out.aj bg.out (by simp)) (HR.out.keep bg.out) (HR'.out.keep bg.out) OL.out UG.out (by omega) dW.out;rw [A_.out] at hk;unfold qE at hk;have HK:=hide hk;clear hk;go_wp2_with fail
   go_at_call 10;refine HK.out.mono ?_;rintro e w2 ⟨rfl,hcn⟩;have HC2:=hide (bg.out.trans hcn (D:=[]) (by simp));clear hcn HK;have hcv:=(ah.refl w2 []).alloc (.cells #[.bool true,.bool true,.int .i64 (-1),.int .i64 κ] 27);have aaj:=hide (HC2.out.trans hcv (D:=[]) (by simp));have HB2:=hide (ay.new w2 27 [.bool true,.bool true,.int .i64 (-1),.int .i64 κ]);clear hcv;have hk:=Js (c:=c') (c':=c) (HG.out.aj aaj.out (by simp)) (HR'.out.keep aaj.out) (HR.out.keep aaj.out) UG.out OL.out (by omega) HS2.out;rw [iQ.out] at hk;unfold qE at hk;have HK:=hide hk;clear hk;go_wp2_with fail
   go_at_call 10;refine HK.out.mono ?_;rintro e w3 ⟨rfl,hcn⟩;have dU:=hide (aaj.out.trans hcn (D:=[]) (by simp));have hcv:=(ah.refl w3 []).alloc (.cells #[.bool true,.bool true,.int .i64 (-1),.int .i64 κ] 27);have afS:=hide (dU.out.trans hcv (D:=[]) (by simp));have HB3:=hide ((HB2.out.aj hcn (by simp)).alloc (.cells #[.bool true,.bool true,.int .i64 (-1),.int .i64 κ] 27));have HE3:=hide (ay.new w3 27 [.bool true,.bool true,.int .i64 (-1),.int .i64 κ]);clear hcn HK hcv HB2;have hk:=Aq (c:=c) (HG.out.aj afS.out (by simp)) (HR.out.keep afS.out) (by omega);rw [A_.out] at hk;have HK:=hide hk;clear hk;go_wp2_with fail
   go_at_call 11;refine HK.out.mono ?_;rintro e w4 ⟨rfl,hcn⟩;have fQ:=hide (afS.out.trans hcn (D:=[]) (by simp));have HB4:=hide (HB3.out.aj hcn (by simp));have HE4:=hide (HE3.out.aj hcn (by simp));clear hcn HK HB3 HE3;have hk:=Aq (c:=c') (HG.out.aj fQ.out (by simp)) (HR'.out.keep fQ.out) (by omega);rw [iQ.out] at hk;have HK:=hide hk;clear hk;go_wp2_with fail
   go_at_call 11;refine HK.out.mono ?_;rintro e w5 ⟨rfl,hcn⟩;have dY:=hide (fQ.out.trans hcn (D:=[]) (by simp));have hb5:=HB4.out.aj hcn (by simp);have he5:=HE4.out.aj hcn (by simp);have y0:=hb5.cell' (i:=0) rfl;have y1:=hb5.cell' (i:=1) rfl;have y2:=hb5.cell' (i:=2) rfl;have y3:=hb5.cell' (i:=3) rfl;have x0:=he5.cell' (i:=0) rfl;have x1:=he5.cell' (i:=1) rfl;have x2:=he5.cell' (i:=2) rfl;have x3:=he5.cell' (i:=3) rfl;clear hcn HK HB4 HE4 hb5 he5;have haw:=dV (HG.out.aj dY.out (by simp));have nG:=hide haw;clear haw;go_wp2_with fail
   go_at_call 7;refine nG.out.mono ?_;rintro e wz ⟨rfl,hcz⟩;have mg:=hide (dY.out.trans hcz (D:=[]) (by simp));clear hcz;go_wp2;go_ret;exact ⟨rfl,mg.out⟩
end Go.Proofs.YtbhikopphamgjaaGreatDoor
