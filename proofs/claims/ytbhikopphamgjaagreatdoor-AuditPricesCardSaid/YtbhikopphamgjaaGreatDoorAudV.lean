/- audit.Price: what a script costs. -/
import Derived.Test.YtbhikopphamgjaaGreatDoorAU24
set_option linter.unusedVariables false
set_option linter.unusedSimpArgs false
namespace Go.Proofs.YtbhikopphamgjaaGreatDoor
open Go Go.RowKit Go.Deep Go.Maps Go.Shelf Ab Xi
attribute [local go_sem] Oper.semAt_some
def D8 (m:Nat) (f:Bool) (B:Option Addr) (n c:Nat) (l:List (Kd × Nat)) (k:Kd) (_:Unit):Nat->Value
 | 0 => .map (some m)
 | 1 => .agg #[.bool f,.slice B n c]
 | 2 => kV k
 | 3 => .int .i64 (fG l k:Int)
 | 4 => .int .i64 ((fG l k:Int) + 1)
 | 5 => .tuple #[.int .i64 (fG l k:Int),.int .i64 (dL l k:Int)]
 | 6 => .int .i64 (dL l k:Int)
 | _ => undef
theorem amH (v:Nat->Value) (t0 t1 t2 t3 t4 t5 t6 t7 t8 t9 t10 t11 t12 t13 t14 t15 t16 t17 t18 t19 t20 t21 t22 t23 t24 t25 t26 t27 t28 t29 t30 t31 t32 t33:Value):jE v (some 18 :: some 19 :: some 20 :: some 21 :: some 22 :: some 23 :: some 24 :: none :: []) 0 (t0 :: t1 :: t2 :: t3 :: t4 :: t5 :: t6 :: t7 :: t8 :: t9 :: t10 :: t11 :: t12 :: t13 :: t14 :: t15 :: t16 :: t17 :: t18 :: t19 :: t20 :: t21 :: t22 :: t23 :: t24 :: t25 :: t26 :: t27 :: t28 :: t29 :: t30 :: t31 :: t32 :: t33 :: []) = (t0 :: t1 :: t2 :: t3 :: t4 :: t5 :: t6 :: t7 :: t8 :: t9 :: t10 :: t11 :: t12 :: t13 :: t14 :: t15 :: t16 :: t17 :: v 0 :: v 1 :: v 2 :: v 3 :: v 4 :: v 5 :: v 6 :: t25 :: t26 :: t27 :: t28 :: t29 :: t30 :: t31 :: t32 :: t33 :: []):=by kernel_rfl
def wo (m:Nat) (l:List (Kd × Nat)) (k:Kd) (wr:World):Bool->Bool->World->Prop
 | false,false,w' => sG w' m l/\ah wr w' [m]
 | true,false,w' => sG w' m (insL l k)/\ah wr w' [m]
 | _,true,w' => sG w' m (uN l k)/\ah wr w' [m]
theorem wo.aj {m:Nat} {l:List (Kd × Nat)} {k:Kd} {wr w':World}:∀ {p q:Bool},wo m l k wr p q w'->ah wr w' [m]
 | false,false,h => h.2
 | true,false,h => h.2
 | false,true,h => h.2
 | true,true,h => h.2
theorem wo.keep {m:Nat} {l:List (Kd × Nat)} {k:Kd} {wr w' w2:World} (hc:ah w' w2 []):∀ {p q:Bool},wo m l k wr p q w'->wo m l k wr p q w2
 | false,false,h => ⟨h.1.aj hc (by simp),h.2.trans hc (by simp)⟩
 | true,false,h => ⟨h.1.aj hc (by simp),h.2.trans hc (by simp)⟩
 | false,true,h => ⟨h.1.aj hc (by simp),h.2.trans hc (by simp)⟩
 | true,true,h => ⟨h.1.aj hc (by simp),h.2.trans hc (by simp)⟩
def Ap (ds:List aP) (k:Kd):Nat:=(ds.filter fun d => decide (bW d = k)).length
theorem ade {ds:List aP} {j:Nat} {d:aP} (h:ds[j]? = some d) (k:Kd):Ap (ds.take (j + 1)) k = if k = bW d then Ap (ds.take j) (bW d) + 1 else Ap (ds.take j) k:=by
 unfold Ap;rw [List.take_add_one,h,List.filter_append,List.length_append];by_cases e:k = bW d
 . subst e
   simp
 . rw [if_neg e]
   simp [Ne.symm e]
theorem aiJ (ds:List aP) (k:Kd):Ap ds k<=ds.length:=List.length_filter_le _ _
def apU (w:World) (m:Nat) (ds:List aP) (j:Nat):Prop:=∃ l,sG w m l/\∀ k,fG l k = Ap (ds.take j) k
theorem FT (ds:List aP):Ap ds (true,20) = bQ ds:=by
 unfold Ap bQ;congr 1;refine List.filter_congr fun d _ => ?_;obtain ⟨f,l⟩:=d;unfold bW
 cases f <;> simp
set_option maxRecDepth 100000 in
theorem aai {w:World} {A:Option Addr} {n c:Nat} (h:1000 < n) (hl:n<=maxLen):Calls Tryz.prog 11 #[.slice A n c] w fun e w' => e = .returned (.tuple #[.int .i64 0,.int .i64 5])/\ah w w' []:=by
 unfold maxLen at hl;go_enter Tryz.func11,Tryz.ntmps11
 go_wp2;go_ret2;exact ⟨rfl,ah.refl _ _⟩
set_option maxRecDepth 100000 in
set_option maxHeartbeats 4000000 in
theorem Aq {w:World} (hg:iZ w) {A:Option Addr} {c:Nat} {ds:List aP} {vs:Nat->Value} (h:jG w A ds vs) (hl:ds.length<=1000) :
 Calls Tryz.prog 11 #[.slice A ds.length c] w fun e w' => e = .returned (.tuple #[.int .i64 (bG (bQ ds)),.int .i64 0])/\ah w w' []:=by
 have dK:Tryz.prog.follows .mixedOrders = true:=by kernel_rfl
 have HH:=hide h;have HG:=hide hg
 have m0:sG (w.alloc (.map #[] 0)) w.heap.size []:=by
  have:=heap_alloc_new w (.map #[] 0);exact this
 have hc0:=(ah.refl w []).alloc (.map #[] 0);have M0:=hide m0;have jL:=hide hc0;have hmm:=@run_makeMap Tryz.prog;clear h hg m0 hc0;go_enter Tryz.func11,Tryz.ntmps11
 go_wp2_with fail
 go_loopw [14] (fun i wr => ∃ j:Nat,j<=ds.length/\i = .int .i64 j/\Hid (apU wr w.heap.size ds j)/\Hid (ah w wr [])) (fun i _ => ds.length - (intOf i).toNat)
 case atStart => exact ⟨0,Nat.zero_le _,rfl,hide ⟨[],M0.out,fun k => rfl⟩,jL⟩
 case round =>
  clear M0 jL;obtain ⟨j,hj,rfl,HKI,HC⟩:=hrel;obtain ⟨l,hkm,hkl⟩:=HKI.out;have HM:=hide hkm;have HL:=hide hkl;clear hkm hkl HKI;by_cases hlt:j < ds.length
  . obtain ⟨ba,oa,rfl,hxA⟩:=HH.out (by omega)
    have gd:=List.getElem?_eq_getElem hlt;obtain ⟨qa0,qa1,⟨B,c1,ea⟩,_⟩:=hxA j (ds[j]'hlt) gd;rw [ea] at qa1;have hct:=ade gd;generalize ds[j]'hlt = dd at *;obtain ⟨f,dl⟩:=dd;simp only at qa0 qa1;have q0:=HC.out.cell qa0 (by simp);have q1:=HC.out.cell qa1 (by simp);have b6:=ay.new wr 38 [.bool f,.slice B dl.length c1];have hc6:=(ah.refl wr []).alloc (.cells #[.bool f,.slice B dl.length c1] 38);have hlw:w.heap.size < wr.heap.size:=lt_of_heap HM.out;have HM6:=hide (HM.out.aj hc6 (by simp));have nX:=hide (HC.out.trans hc6 (D:=[]) (by simp));have Q6:=hide b6;have amJ:(wr.alloc (.cells #[.bool f,.slice B dl.length c1] 38)).heap.size = wr.heap.size + 1:=by simp
    have yI:=hide (show (fG l (bW (f,dl)):Int)<=1000 by
     have h1:=HL.out (bW (f,dl));have h2:=aiJ (ds.take j) (bW (f,dl));rw [List.length_take] at h2
     omega)
    have HKV:=hide (aiI (f,dl));have Ox:=hide hct;clear hxA gd ea qa0 qa1 hct b6 hc6;obtain ⟨m,hm⟩:∃ m,w.heap.size = m:=⟨_,rfl⟩
    obtain ⟨q,hq⟩:∃ q,wr.heap.size = q:=⟨_,rfl⟩
    obtain ⟨k,hk⟩:∃ k,bW (f,dl) = k:=⟨_,rfl⟩
    rw [hk] at yI HKV Ox;rw [hm] at HM6 hlw;rw [hq] at Q6 amJ hlw;obtain ⟨w6,hw6⟩:∃ w6,wr.alloc (.cells #[.bool f,.slice B dl.length c1] 38) = w6:=⟨_,rfl⟩
    rw [hw6] at HM6 nX Q6 amJ;go_wp2_with fail
    refine gU dK _ _ (fun (_:Unit) => D8 m f B dl.length c1 l k ()) (fun (_:Unit) L w' => wo m l k w6 (L 5) (L 7) w') () (by kernel_rfl) [] (by kernel_rfl) (fun p hp γ => by simp at hp) (by kernel_rfl) ?step ?start ?fin ?ext
    case start => exact ⟨HM6.out,(ah.refl w6 _).drew⟩
    case ext =>
     intro γ L L' w' h hw;have hw':wo m l k w6 (L 5) (L 7) w':=hw;rw [h 5 (by decide),h 7 (by decide)] at hw';exact hw'
    case step =>
     intro i_ o_ ho_ L av w1 γ hdn ak hW hL hpre K' Q' hK;have hW:wo m l k w6 (L 5) (L 7) w1:=hW
     match i_,ho_ with
      | 0,ho =>
       injection ho with ho; subst ho;have b4:av.tmps.getD 4 undef = .map (some m):=dM ak 4 (by kernel_rfl);clear ak;refine au (v:=.map (some m)) (w':=w1) ?_ (hK () w1 (fun _ _ => rfl) (show wo m l k w6 (if (5:Nat) = 0 then true else L 5) (if (7:Nat) = 0 then true else L 7) _ from by rw [if_neg (by decide),if_neg (by decide)]; exact hW));go_simp
      | 1,ho =>
       injection ho with ho; subst ho;have b6:av.tmps.getD 6 undef = .pointer (some ⟨q,0,none⟩):=dM ak 6 (by kernel_rfl);clear ak;have hb:=Q6.out.aj hW.aj (by simp; omega);have y0:=hb.cell' (i:=0) rfl;have y1:=hb.cell' (i:=1) rfl;refine au (v:=.agg #[.bool f,.slice B dl.length c1]) (w':=w1) ?_ (hK () w1 (fun _ _ => rfl) (show wo m l k w6 (if (5:Nat) = 1 then true else L 5) (if (7:Nat) = 1 then true else L 7) _ from by rw [if_neg (by decide),if_neg (by decide)]; exact hW));go_simp
      | 2,ho =>
       injection ho with ho; subst ho;have s1:=aG ak 19 1 (by kernel_rfl) (hpre ⟨1,.data⟩ (by simp) rfl);simp only [D8] at s1;clear ak;refine dZ ?_ (FK f B dl.length c1) ?_
       . go_simp
       rintro e w2 ⟨rfl,hc2⟩;refine ⟨_,rfl,?_⟩;rw [HKV.out];exact hK () w2 (fun _ _ => rfl) (show wo m l k w6 (if (5:Nat) = 2 then true else L 5) (if (7:Nat) = 2 then true else L 7) _ from by rw [if_neg (by decide),if_neg (by decide)]; exact hW.keep hc2)
      | 3,ho =>
       injection ho with ho; subst ho;have s0:=aG ak 18 0 (by kernel_rfl) (hpre ⟨0,.data⟩ (by simp) rfl);simp only [D8] at s0;have s2:=aG ak 20 2 (by kernel_rfl) (hpre ⟨2,.data⟩ (by simp) rfl);simp only [D8] at s2;clear ak
       have h7:L 7 = false:=by
        cases h:L 7 with
        | false => rfl
        | true => (have h4:=hdn 7 _ rfl h ⟨4,.data⟩ (by simp) rfl; have hx:L 3 = true:=hdn 4 _ rfl h4 ⟨3,.data⟩ (by simp) rfl; rw [hL] at hx; cases hx)
       have hlk:(Instr.lookup 54 (.map (some m)) (kV k) false).run Tryz.prog w1 = .ok (.int .i64 (fG l k:Int)) w1:=by
        have hW':=hW;rw [h7] at hW'
        cases h5:L 5 with
        | false => rw [h5] at hW'; exact FQ hW'.1 k
        | true => rw [h5] at hW'; rw [<- afR l k]; exact FQ hW'.1 k
       refine au (v:=.int .i64 (fG l k:Int)) (w':=w1) ?_ (hK () w1 (fun _ _ => rfl) (show wo m l k w6 (if (5:Nat) = 3 then true else L 5) (if (7:Nat) = 3 then true else L 7) _ from by rw [if_neg (by decide),if_neg (by decide)]; exact hW));go_simp
      | 4,ho =>
       injection ho with ho; subst ho;have s3:=aG ak 21 3 (by kernel_rfl) (hpre ⟨3,.data⟩ (by simp) rfl);simp only [D8] at s3;clear ak;have hgl:=yI.out;refine au (v:=.int .i64 ((fG l k:Int) + 1)) (w':=w1) ?_ (hK () w1 (fun _ _ => rfl) (show wo m l k w6 (if (5:Nat) = 4 then true else L 5) (if (7:Nat) = 4 then true else L 7) _ from by rw [if_neg (by decide),if_neg (by decide)]; exact hW));go_simp
       try (rw [IntKind.wrap_i64]; omega)
      | 5,ho =>
       injection ho with ho; subst ho;have s0:=aG ak 18 0 (by kernel_rfl) (hpre ⟨0,.data⟩ (by simp) rfl);simp only [D8] at s0;have s2:=aG ak 20 2 (by kernel_rfl) (hpre ⟨2,.data⟩ (by simp) rfl);simp only [D8] at s2;clear ak
       have h7:L 7 = false:=by
        cases h:L 7 with
        | false => rfl
        | true => (have hx:L 5 = true:=hdn 7 _ rfl h ⟨5,.chain⟩ (by simp) rfl; rw [hL] at hx; cases hx)
       have hW':=hW;rw [hL,h7] at hW';have hen:=aaf hW'.1 k;refine au (v:=.tuple #[.int .i64 (fG l k:Int),.int .i64 (dL l k:Int)]) (w':=FP w1 m (insL l k)) ?_ (hK () _ (fun _ _ => rfl) (show wo m l k w6 (if (5:Nat) = 5 then true else L 5) (if (7:Nat) = 5 then true else L 7) _ from by rw [if_pos rfl,if_neg (by decide),h7]; exact ⟨UW hW'.1,hW'.2.trans (UY w1 m _) (fun k hk => .inl hk)⟩));go_simp
      | 6,ho =>
       injection ho with ho; subst ho;have s5:=aG ak 23 5 (by kernel_rfl) (hpre ⟨5,.data⟩ (by simp) rfl);simp only [D8] at s5;clear ak;refine au (v:=.int .i64 (dL l k:Int)) (w':=w1) ?_ (hK () w1 (fun _ _ => rfl) (show wo m l k w6 (if (5:Nat) = 6 then true else L 5) (if (7:Nat) = 6 then true else L 7) _ from by rw [if_neg (by decide),if_neg (by decide)]; exact hW));go_simp
      | 7,ho =>
       injection ho with ho; subst ho;have s0:=aG ak 18 0 (by kernel_rfl) (hpre ⟨0,.data⟩ (by simp) rfl);simp only [D8] at s0;have s6:=aG ak 24 6 (by kernel_rfl) (hpre ⟨6,.data⟩ (by simp) rfl);simp only [D8] at s6;have s4:=aG ak 22 4 (by kernel_rfl) (hpre ⟨4,.data⟩ (by simp) rfl);simp only [D8] at s4;clear ak;have l5:L 5 = true:=hpre ⟨5,.chain⟩ (by simp) rfl;have hW':=hW;rw [hL,l5] at hW';have hes:=aag hW'.1;refine oO (w':=FP w1 m (uN l k)) ?_ (hK () _ (fun _ _ => rfl) (show wo m l k w6 (if (5:Nat) = 7 then true else L 5) (if (7:Nat) = 7 then true else L 7) _ from by rw [if_pos rfl,if_neg (by decide),l5]; exact ⟨UW hW'.1,hW'.2.trans (UY w1 m _) (fun k hk => .inl hk)⟩));go_simp
      | _ + 8,ho => cases ho
    case fin =>
     intro γ w2 hW;have hW:sG w2 m (uN l k)/\ah w6 w2 [m]:=hW;have HW1:=hide hW.1;have HW2:=hide (nX.out.trans hW.2 (D:=[]) (fun k hk => .inr (by simp at hk; omega)));rw [fK,dJ,eP];simp only [List.map_cons,List.map_nil];rw [amH];simp only [D8];clear hW;go_wp2;go_roundw
     case rel => exact ⟨j + 1,by omega,by go_num,hide ⟨uN l k,HW1.out,fun k' => by
      rw [ac9,Ox.out k',HL.out k,HL.out k']⟩⟩
     case measure => simp [intOf]; omega
  . have hjl:j = ds.length:=by omega
    subst hjl;have hN:=HL.out (true,20);rw [List.take_of_length_le (Nat.le_refl _),FT] at hN;have hlk:=FQ HM.out (true,20);rw [hN] at hlk;have hle:=Jr ds;obtain ⟨N,hNN⟩:∃ N,bQ ds = N:=⟨_,rfl⟩
    rw [hNN] at hlk hle;replace hlk:(Instr.lookup 54 (.map (some w.heap.size)) (.agg #[.bool true,.int .i64 20]) false).run Tryz.prog wr = .ok (.int .i64 (N:Int)) wr:=hlk;have hfc:=VU (HG.out.aj HC.out (by simp));obtain ⟨κ,hκ,hκb⟩:∃ κ:Int,iE aW = κ/\(0<=κ/\κ<=100000):=⟨_,rfl,Ak⟩
    have hco:bG N = N * κ:=by unfold bG; rw [hκ]
    have hb1:0<=(N:Int) * κ:=Int.mul_nonneg (by omega) hκb.1;have hb2:(N:Int) * κ<=1000 * 100000:=Int.mul_le_mul (by omega) hκb.2 hκb.1 (by omega);rw [hκ] at hfc;by_cases h0:N = 0
    . subst h0
      have e0:bG 0 = 0:=by unfold bG; simp
      clear hN hfc hco hb1 hb2;go_wp2;go_ret2;exact ⟨by rw [hNN,e0]; rfl,HC.out⟩
    . have hN0:((N:Int) == 0) = false:=by rw [beq_eq_false_iff_ne]; omega
      have XI:=hide hfc;have ER:=hide hco;clear hN hfc hco;go_wp2_with fail
      go_at_call 22;refine XI.out.mono ?_;rintro e w3 ⟨rfl,hc3⟩;have dU:=hide (HC.out.trans hc3 (D:=[]) (by simp));have hwr:wrap64 ((N:Int) * κ) = (N:Int) * κ:=by unfold wrap64; omega
      have ari:IntKind.i64.wrap ((N:Int) * κ) = (N:Int) * κ:=by rw [IntKind.wrap_i64]; omega
      clear hc3 XI;go_wp2;go_ret2;exact ⟨by rw [hNN,ER.out]; rfl,dU.out⟩
end Go.Proofs.YtbhikopphamgjaaGreatDoor
