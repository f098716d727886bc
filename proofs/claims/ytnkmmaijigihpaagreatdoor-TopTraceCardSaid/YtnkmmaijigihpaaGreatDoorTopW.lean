/- The example of the laws at the top. -/
import Derived.Test.YtnkmmaijigihpaaGreatDoorTT24
set_option linter.unusedVariables false
set_option linter.unusedSimpArgs false
namespace Go.Proofs.YtnkmmaijigihpaaGreatDoor
open Go Go.RowKit Go.Deep Go.Maps Ab Xi
attribute [local go_sem] Oper.semAt_some
theorem aqD (x0 x1 x2:Int) (w:World):(Op.equalIn 9999 46 (.agg #[.int .i32 x0,.int .i32 x1,.int .i32 x2]) (.agg #[.int .i32 x0,.int .i32 x1,.int .i32 x2])).run Tryz.prog w = .ok true w:=by
 have u3:=Tryz.underlying21;have k3:=Tryz.isAgg21;have z3:=Tryz.sizeOf21;rw [show (9999:Nat) = 9998 + 1 from rfl,Op.equalIn];simp only [Sem.run_bind,run_underlying Tryz.underlying46,Result.andThen_ok];simp only [Std.Legacy.Range.forIn_eq_forIn_range',Std.Legacy.Range.size,Nat.sub_zero,Nat.add_sub_cancel,Nat.div_one,List.range'_succ,List.range'_zero,List.forIn_cons,List.forIn_nil];go_simp
theorem anh (a b c d q0 q1 q2 q3 x0 x1 x2:Int) (w:World):(Op.equalIn 10000 48 (.agg #[.int .i64 a,.int .i64 b,.int .i64 c,.int .i64 d,.int .i32 q0,.int .i32 q1,.int .i32 q2,.int .i32 q3,.int .i32 x0,.int .i32 x1,.int .i32 x2]) (.agg #[.int .i64 a,.int .i64 b,.int .i64 c,.int .i64 d,.int .i32 q0,.int .i32 q1,.int .i32 q2,.int .i32 q3,.int .i32 x0,.int .i32 x1,.int .i32 x2])).run Tryz.prog w = .ok true w:=by
 have u3:=Tryz.underlying3;have k3:=Tryz.isAgg3;have z3:=Tryz.sizeOf3;have u4:=Tryz.underlying45;have k4:=Tryz.isAgg45;have z4:=Tryz.sizeOf45;have u5:=Tryz.underlying46;have k5:=Tryz.isAgg46;have z5:=Tryz.sizeOf46;have q:=aqp q0 q1 q2 q3 q0 q1 q2 q3 w;have r:=aqD x0 x1 x2 w;rw [show (10000:Nat) = 9999 + 1 from rfl,Op.equalIn];simp only [Sem.run_bind,run_underlying Tryz.underlying48,Result.andThen_ok];go_simp
theorem aoK (a b c:Int):Value.agg #[.int .i64 (1 + bif false then 8 else 0),.int .i64 1,.int .i64 1,.int .i64 0,.int .i32 q1.a.v,.int .i32 q1.b.v,.int .i32 q1.c.v,.int .i32 q1.d.v,.int .i32 a,.int .i32 b,.int .i32 c] = .agg #[.int .i64 1,.int .i64 1,.int .i64 1,.int .i64 0,.int .i32 1073741824,.int .i32 0,.int .i32 0,.int .i32 0,.int .i32 a,.int .i32 b,.int .i32 c]:=by
 rw [show q1.a.v = 1073741824 from mG.1,show q1.b.v = 0 from mG.2,show q1.c.v = 0 from mG.2,show q1.d.v = 0 from mG.2];rfl
theorem aqE:∃ y8 y9 y10:Int,(st0.next z20).rep (lJ z20) = .agg #[.int .i64 1,.int .i64 1,.int .i64 1,.int .i64 0,.int .i32 1073741824,.int .i32 0,.int .i32 0,.int .i32 0,.int .i32 y8,.int .i32 y9,.int .i32 y10]:=by
 rw [afS,ac5];unfold Xi.St.rep;rw [aja];exact ⟨_,_,_,aoK _ _ _⟩
set_option maxRecDepth 100000 in
set_option maxHeartbeats 2000000 in
theorem uF {w:World} (hg:jw w):Calls Tryz.prog 6 #[] w fun e w' => e = .returned (.bool true)/\ah w w' []:=by
 have hmk:=aoF;have hnew:=sD w hg;have HG:=hide hg;clear hg;go_enter Tryz.func6,Tryz.ntmps6
 go_wp2_with fail
 go_at_call 7;refine hnew.mono ?_;rintro e w1 ⟨d,c,F,I,rfl,hc1,hd,hfr⟩;have bD:=hide hc1;have Ot:=hide hfr;have hfd:=Ak ((HG.out.aj hc1 (by simp)).aj (UU _) (by simp)) (hd.aV (UU _)) (by decide) (show z20.length = 20 from rfl) am9 (aoG _);have HFD:=hide hfd;clear hnew hc1 hd hfd hfr;go_wp2_with fail
 go_at_call 9;refine HFD.out.mono ?_;rintro e w2 ⟨u,F2,s2,rfl,hc2,hs2,hd2,hu,_⟩;obtain ⟨Au,ku,rfl,_⟩:=id hu;have HC2:=hide ((bD.out.trans (UU w1) (D:=[]) (by simp)).trans hc2 (D:=[]) (fun k hk => .inr (Ot.out k (E8 hk))));have HD2:=hide hd2;obtain ⟨y8,y9,y10,hrep⟩:=aqE;have hget:=amW (st0.next z20) (Xi.St.xA ES z20) (Xi.ER z20) _ w2 (HG.out.aj HC2.out (by simp)).four hu;rw [hrep] at hget;have XJ:=hide hget;have hqr:=anh;have h0:=Hw;obtain ⟨κ,hκ,hk0⟩:∃ κ:Int,bQ (0 + 1) = κ/\0 < κ:=⟨_,rfl,by unfold bQ; omega⟩
 have hco:=qg hd2;rw [hκ] at hco;have J6:=hide (show ∀ w3,ah w2 w3 []->Calls Tryz.prog 13 #[.pointer (some ⟨d,0,none⟩)] w3 fun e w' => e = .returned (.int .i64 κ)/\w3 = w' from fun w3 hc => by rw [<- hκ]; exact qg (HD2.out.aV hc));clear HFD hc2 hs2 hd2 hu hrep hget h0 hκ hco;generalize (bU _).length = nn at *;go_wp2_with fail
 go_at_call 15;refine XJ.out.mono ?_;rintro e w3 ⟨rfl,hc3⟩;have fU:=hide (HC2.out.trans hc3 (D:=[]) (by simp));have b9:=aA.new w3 48 [.int .i64 1,.int .i64 1,.int .i64 1,.int .i64 0,.int .i32 1073741824,.int .i32 0,.int .i32 0,.int .i32 0,.int .i32 y8,.int .i32 y9,.int .i32 y10];have z0:=b9.cell' (i:=0) rfl;have z1:=b9.cell' (i:=1) rfl;have z2:=b9.cell' (i:=2) rfl;have z3:=b9.cell' (i:=3) rfl;have z4:=b9.cell' (i:=4) rfl;have z5:=b9.cell' (i:=5) rfl;have z6:=b9.cell' (i:=6) rfl;have z7:=b9.cell' (i:=7) rfl;have z8:=b9.cell' (i:=8) rfl;have z9:=b9.cell' (i:=9) rfl;have z10:=b9.cell' (i:=10) rfl;have hcv:=hide ((ah.refl w3 []).alloc (.cells #[.int .i64 1,.int .i64 1,.int .i64 1,.int .i64 0,.int .i32 1073741824,.int .i32 0,.int .i32 0,.int .i32 0,.int .i32 y8,.int .i32 y9,.int .i32 y10] 48));have aqF:=hide hc3;clear XJ hc3 b9;go_wp2_with fail
 go_at_call 13;refine (J6.out _ (aqF.out.trans hcv.out (by simp))).mono ?_;rintro e w4 ⟨rfl,rfl⟩;go_wp2;go_ret;exact ⟨rfl,fU.out.trans hcv.out (by simp)⟩
end Go.Proofs.YtnkmmaijigihpaaGreatDoor
