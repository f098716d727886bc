/- The law on audit.Shape. -/
import Derived.Test.YtbhikopphamgjaaGreatDoorAU24
set_option linter.unusedVariables false
set_option linter.unusedSimpArgs false
namespace Go.Proofs.YtbhikopphamgjaaGreatDoor
open Go Go.RowKit Go.Deep Go.Maps Go.Shelf Ab Xi
attribute [local go_sem] Oper.semAt_some
set_option maxRecDepth 100000 in
set_option maxHeartbeats 8000000 in
theorem G6 {w:World} (hg:iZ w) {A A':Option Addr} {c c':Nat} {ds es:List aP} (h:r_ w A ds) (h':r_ w A' es) (hl:ds.length<=maxLen) (hl':es.length<=maxLen) (hln:∀ d∈ds,d.2.length<=maxLen/\∀ y∈d.2,y < 256) (hln':∀ d∈es,d.2.length<=maxLen/\∀ y∈d.2,y < 256) :
 Calls Tryz.prog 3 #[.slice A ds.length c,.slice A' es.length c'] w fun e w' => e = .returned (.bool true)/\ah w w' []:=by
 have hfa:=zM (c:=c) 1100 h hl (fun d hd => (hln d hd).1);have hfb:=zM (c:=c') 1100 h' hl' (fun d hd => (hln' d hd).1);obtain ⟨vs,hr⟩:=jG.of h;obtain ⟨us,hr'⟩:=jG.of h';have HG:=hide hg;have HR:=hide hr;have HR':=hide hr';clear h h' hln hln' hr hr' hg
 cases ha:yQ ds 1100 with
 | false =>
  rw [ha] at hfa;have yX:=hide hfa;clear hfa hfb ha hl hl';go_enter Tryz.func3,Tryz.ntmps3
  go_wp2_with fail
  go_at_call 6;refine yX.out.mono ?_;rintro e w0 ⟨rfl,hw0⟩;obtain rfl:=hw0.symm;have haw:=dV HG.out;have nG:=hide haw;clear haw;go_wp2_with fail
  go_at_call 7;refine nG.out.mono ?_;rintro e wz ⟨rfl,hcz⟩;have mg:=hide (hcz);clear hcz;go_wp2;go_ret;exact ⟨rfl,mg.out⟩
 | true =>
  rw [ha] at hfa;have yX:=hide hfa;have hla:=(yR ha).2;clear hfa ha
  cases hb:yQ es 1100 with
  | false =>
   rw [hb] at hfb;have HFB:=hide hfb;clear hfb hb hl hl' hla;go_enter Tryz.func3,Tryz.ntmps3
   go_wp2_with fail
   go_at_call 6;refine yX.out.mono ?_;rintro e w0 ⟨rfl,hw0⟩;obtain rfl:=hw0.symm;go_wp2_with fail
   go_at_call 6;refine HFB.out.mono ?_;rintro e w0 ⟨rfl,hw0⟩;obtain rfl:=hw0.symm;have haw:=dV HG.out;have nG:=hide haw;clear haw;go_wp2_with fail
   go_at_call 7;refine nG.out.mono ?_;rintro e wz ⟨rfl,hcz⟩;have mg:=hide (hcz);clear hcz;go_wp2;go_ret;exact ⟨rfl,mg.out⟩
  | true =>
   rw [hb] at hfb;have HFB:=hide hfb;have hlb:=(yR hb).2;clear hfb hb hl hl';have hla:ds.length<=1100:=by omega
   have hlb:es.length<=1100:=by omega
   have hsy:=Ik ds es;have hself:=VO ds;obtain ⟨S,hS⟩:∃ S,gJ ds es = S:=⟨_,rfl⟩
   rw [hS] at hsy;go_enter Tryz.func3,Tryz.ntmps3
   go_wp2_with fail
   go_at_call 6;refine yX.out.mono ?_;rintro e w0 ⟨rfl,hw0⟩;obtain rfl:=hw0.symm;go_wp2_with fail
   go_at_call 6;refine HFB.out.mono ?_;rintro e w0 ⟨rfl,hw0⟩;obtain rfl:=hw0.symm;have hk:=lJ (w:=w) (c:=c) (c':=c') (HR.out) (HR'.out) (by unfold maxLen; omega) (by unfold maxLen; omega);rw [hS] at hk;have HK:=hide hk;clear hk;go_wp2_with fail
   go_at_call 8;refine HK.out.mono ?_;rintro e w1 ⟨rfl,hcn⟩;have bg:=hide (hcn);clear hcn HK;have hk:=sF (w:=w1) (c:=c) (c':=c') (HR.out.keep bg.out) (HR'.out.keep bg.out) (by unfold maxLen; omega) (by unfold maxLen; omega);rw [hS] at hk;have HK:=hide hk;clear hk;go_wp2_with fail
   go_at_call 9;refine HK.out.mono ?_;rintro e w2 ⟨rfl,hcn⟩;have HC2:=hide (bg.out.trans hcn (D:=[]) (by simp));clear hcn HK;have hk:=lJ (w:=w2) (c:=c') (c':=c) (HR'.out.keep HC2.out) (HR.out.keep HC2.out) (by unfold maxLen; omega) (by unfold maxLen; omega);rw [hsy] at hk;have HK:=hide hk;clear hk;go_wp2_with fail
   go_at_call 8;refine HK.out.mono ?_;rintro e w3 ⟨rfl,hcn⟩;have dU:=hide (HC2.out.trans hcn (D:=[]) (by simp));clear hcn HK;have hk:=lJ (w:=w3) (c:=c) (c':=c') (HR.out.keep dU.out) (HR'.out.keep dU.out) (by unfold maxLen; omega) (by unfold maxLen; omega);rw [hS] at hk;have HK:=hide hk;clear hk;go_wp2_with fail
   go_at_call 8;refine HK.out.mono ?_;rintro e w4 ⟨rfl,hcn⟩;have fQ:=hide (dU.out.trans hcn (D:=[]) (by simp));clear hcn HK;have hk:=lJ (w:=w4) (c:=c) (c':=c) (HR.out.keep fQ.out) (HR.out.keep fQ.out) (by unfold maxLen; omega) (by unfold maxLen; omega);rw [hself] at hk;have HK:=hide hk;clear hk;go_wp2_with fail
   go_at_call 8;refine HK.out.mono ?_;rintro e w5 ⟨rfl,hcn⟩;have dY:=hide (fQ.out.trans hcn (D:=[]) (by simp));clear hcn HK;have hbne:(S != S) = false:=by cases S <;> rfl
   by_cases hL:1000 < ds.length\/1000 < es.length
   . by_cases h1:1000 < ds.length
     . have hk:=UF (w:=w5) (A:=A) (A':=A') (c:=c) (c':=c') hL (by unfold maxLen; omega) (by unfold maxLen; omega)
       have HK:=hide hk;clear hk;go_wp2_with fail
       go_at_call 10;refine HK.out.mono ?_;rintro e w6 ⟨rfl,hcn⟩;have nX:=hide (dY.out.trans hcn (D:=[]) (by simp));clear hcn HK;have bv:=ay.new w6 27 [.bool false,.bool false,.int .i64 0,.int .i64 0];have y0:=bv.cell' (i:=0) rfl;have y1:=bv.cell' (i:=1) rfl;have y2:=bv.cell' (i:=2) rfl;have y3:=bv.cell' (i:=3) rfl;have hcv:=(ah.refl w6 []).alloc (.cells #[.bool false,.bool false,.int .i64 0,.int .i64 0] 27);have Fa:=hide (nX.out.trans hcv (D:=[]) (by simp));clear bv hcv;have afO:=G5;unfold qE;have haw:=dV (HG.out.aj Fa.out (by simp));have nG:=hide haw;clear haw;go_wp2_with fail
       go_at_call 7;refine nG.out.mono ?_;rintro e wz ⟨rfl,hcz⟩;have mg:=hide (Fa.out.trans hcz (D:=[]) (by simp));clear hcz;go_wp2;go_ret;exact ⟨rfl,mg.out⟩
     . have h2:1000 < es.length:=by omega
       have hk:=UF (w:=w5) (A:=A) (A':=A') (c:=c) (c':=c') hL (by unfold maxLen; omega) (by unfold maxLen; omega);have HK:=hide hk;clear hk;go_wp2_with fail
       go_at_call 10;refine HK.out.mono ?_;rintro e w6 ⟨rfl,hcn⟩;have nX:=hide (dY.out.trans hcn (D:=[]) (by simp));clear hcn HK;have bv:=ay.new w6 27 [.bool false,.bool false,.int .i64 0,.int .i64 0];have y0:=bv.cell' (i:=0) rfl;have y1:=bv.cell' (i:=1) rfl;have y2:=bv.cell' (i:=2) rfl;have y3:=bv.cell' (i:=3) rfl;have hcv:=(ah.refl w6 []).alloc (.cells #[.bool false,.bool false,.int .i64 0,.int .i64 0] 27);have Fa:=hide (nX.out.trans hcv (D:=[]) (by simp));clear bv hcv;have afO:=G5;unfold qE;have haw:=dV (HG.out.aj Fa.out (by simp));have nG:=hide haw;clear haw;go_wp2_with fail
       go_at_call 7;refine nG.out.mono ?_;rintro e wz ⟨rfl,hcz⟩;have mg:=hide (Fa.out.trans hcz (D:=[]) (by simp));clear hcz;go_wp2;go_ret;exact ⟨rfl,mg.out⟩
   . have h1:ds.length<=1000:=by omega
     have h2:es.length<=1000:=by omega
     cases S with
     | true =>
      have hk:=sF (w:=w5) (c:=c) (c':=c') (HR.out.keep dY.out) (HR'.out.keep dY.out) (by unfold maxLen; omega) (by unfold maxLen; omega);rw [hS] at hk;have HK:=hide hk;clear hk;go_wp2_with fail
      go_at_call 9;refine HK.out.mono ?_;rintro e w6 ⟨rfl,hcn⟩;have nX:=hide (dY.out.trans hcn (D:=[]) (by simp));clear hcn HK;have haw:=dV (HG.out.aj nX.out (by simp));have nG:=hide haw;clear haw;go_wp2_with fail
      go_at_call 7;refine nG.out.mono ?_;rintro e wz ⟨rfl,hcz⟩;have mg:=hide (nX.out.trans hcz (D:=[]) (by simp));clear hcz;go_wp2;go_ret;exact ⟨rfl,mg.out⟩
     | false =>
      have hk:=sF (w:=w5) (c:=c) (c':=c') (HR.out.keep dY.out) (HR'.out.keep dY.out) (by unfold maxLen; omega) (by unfold maxLen; omega);rw [hS] at hk;have HK:=hide hk;clear hk;go_wp2_with fail
      go_at_call 9;refine HK.out.mono ?_;rintro e w6 ⟨rfl,hcn⟩;have nX:=hide (dY.out.trans hcn (D:=[]) (by simp));clear hcn HK;have hk:=aac (w:=w6) (c:=c) (c':=c') (HR.out.keep nX.out) (HR'.out.keep nX.out) h1 h2 hS;have HK:=hide hk;clear hk;go_wp2_with fail
      go_at_call 10;refine HK.out.mono ?_;rintro e w7 ⟨rfl,hcn⟩;have Xu:=hide (nX.out.trans hcn (D:=[]) (by simp));clear hcn HK;have bv:=ay.new w7 27 [.bool false,.bool false,.int .i64 (-1),.int .i64 0];have y0:=bv.cell' (i:=0) rfl;have y1:=bv.cell' (i:=1) rfl;have y2:=bv.cell' (i:=2) rfl;have y3:=bv.cell' (i:=3) rfl;have hcv:=(ah.refl w7 []).alloc (.cells #[.bool false,.bool false,.int .i64 (-1),.int .i64 0] 27);have Fa:=hide (Xu.out.trans hcv (D:=[]) (by simp));clear bv hcv;have afO:=G5;unfold qE;have haw:=dV (HG.out.aj Fa.out (by simp));have nG:=hide haw;clear haw;go_wp2_with fail
      go_at_call 7;refine nG.out.mono ?_;rintro e wz ⟨rfl,hcz⟩;have mg:=hide (Fa.out.trans hcz (D:=[]) (by simp));clear hcz;go_wp2;go_ret;exact ⟨rfl,mg.out⟩
end Go.Proofs.YtbhikopphamgjaaGreatDoor
