/- Texts of this claim, side by side: ImgFirm, FirmN, ImgFirm2, FirmK, FirmE, EmA, MakI, FirmB, EmC, EmB, RefCost. -/
import Derived.Test.YtnkmmaijigihpaaGreatDoorImgFA
import Derived.Test.YtnkmmaijigihpaaGreatDoorImgFB
import Derived.Test.YtnkmmaijigihpaaGreatDoorImgFD
import Derived.Test.YtnkmmaijigihpaaGreatDoorImgFE
import Derived.Test.YtnkmmaijigihpaaGreatDoorImgFC
import Derived.Test.YtnkmmaijigihpaaGreatDoorCoreT
set_option linter.unusedVariables false
set_option maxRecDepth 100000
set_option maxHeartbeats 8000000
namespace Go.Proofs.YtnkmmaijigihpaaGreatDoor
section
open Go Go.RowKit Ab Xi
set_option maxRecDepth 100000
def xu (b:MP):KS:=Xd
theorem Gs {r:Option (AV × G × List Xi.Ev)} {ρ ρ':List Nat} {ps ps':List Addr} {s s':KS} {t:Bool} {os:List KE} (h:ZB r ρ ps s = some (t,os,ρ',ps',s')):∃ v g δ xs,r = some (v,g,δ)/\zB g v = some (t,xs)/\CZ ρ xs = some os/\ρ = ρ'/\ps = ps'/\s = s':=by
 unfold ZB at h
 cases r with
 | none => cases h
 | some q =>
  obtain ⟨v,g,δ⟩:=q;simp only [] at h
  cases he:zB g v with
  | none => rw [he] at h; cases h
  | some q3 =>
   obtain ⟨t',xs⟩:=q3;rw [he] at h;simp only [] at h
   cases hx:CZ ρ xs with
   | none => rw [hx] at h; cases h
   | some os' =>
    rw [hx] at h;have e:=Option.some.inj h;have e1:=congrArg Prod.fst e;have e2:=congrArg (fun q => q.2.1) e;have e3:=congrArg (fun q => q.2.2.1) e;have e4:=congrArg (fun q => q.2.2.2.1) e;have e5:=congrArg (fun q => q.2.2.2.2) e;exact ⟨v,g,δ,xs,rfl,by rw [he]; exact congrArg some (Prod.ext e1 rfl),by rw [hx]; exact congrArg some e2,e3,e4,e5⟩
theorem alX:MI = Zz ++ MI.drop 93:=by decide +kernel
theorem alY:rhoC = MI ++ rhoC.drop 99:=by decide +kernel
theorem afe:rhoC = [0,1,2,3,4,5,6,7,8,9,10,11,12,13,14,15,16,17,18,19,27,28,29,30,31,32,33] ++ rhoC.drop 27:=by decide +kernel
theorem aiD:Dh = Ko ++ Dh.drop 176:=by decide +kernel
theorem aiE:zD = Dh ++ zD.drop 340:=by decide +kernel
theorem aff:zD = [27,28,29,30,63,66,69,72,75,78,81,84,87] ++ zD.drop 13:=by decide +kernel
theorem afg (b:MP) (H:Nat->Option Obj) (X:List Nat) (ρF:Nat->Value) (h:kG zD ρF):gy (oL b H X) ρF (dF (rS b)) stA stB:=by
 have hB:kG Dh ρF:=by rw [aiE] at h; exact h.of_append
 have hA:kG Ko ρF:=by
  have h':=hB;rw [aiD] at h';exact h'.of_append
 have e:dF (rS b) = (dF (rS b)).take 141 ++ (((dF (rS b)).drop 141).take 153 ++ ((dF (rS b)).drop 141).drop 153):=by rw [List.take_append_drop,List.take_append_drop]
 rw [e];refine (lq (M:=oL b H X)).2 ⟨Zx,?_,?_⟩
 . obtain ⟨ρ',ps',s',h1,_,_,h4⟩:=lV (b:=b) (G:=H) (X:=X) 5000 (aoe b)
   have q:=Option.some.inj h1;have q1:ρ' = Ko:=congrArg Prod.fst q;have q2:ps' = List.replicate 165 ⟨b.a,0,none⟩:=congrArg (fun q => q.2.1) q;have q3:s' = Zx:=congrArg (fun q => q.2.2) q;subst q1 q2 q3;exact h4 ρF (fun p hp => (List.mem_replicate.1 hp).2) hA
 refine (lq (M:=oL b H X)).2 ⟨Zy,?_,?_⟩
 . obtain ⟨ρ',ps',s',h1,_,_,h4⟩:=lV (b:=b) (G:=H) (X:=X) 5000 (aof b)
   have q:=Option.some.inj h1;have q1:ρ' = Dh:=congrArg Prod.fst q;have q2:ps' = List.replicate 165 ⟨b.a,0,none⟩:=congrArg (fun q => q.2.1) q;have q3:s' = Zy:=congrArg (fun q => q.2.2) q;subst q1 q2 q3;exact h4 ρF (fun p hp => (List.mem_replicate.1 hp).2) hB
 . obtain ⟨ρ',ps',s',h1,_,_,h4⟩:=lV (b:=b) (G:=H) (X:=X) 5000 (ag3 b)
   obtain ⟨_,_,_,_,_,_,_,q1,q2,q3⟩:=Gs h1;subst q1 q2 q3;exact h4 ρF (fun p hp => (List.mem_replicate.1 hp).2) h
theorem ZC {b:MP} (w:World) {F:List Nat} (hk:KR w b stA F) (ss:List Value)
 (hss:∀ (i:Nat) cs,([]:List (List AV))[i]? = some cs->∃ v,ss[i]? = some v/\Sl w v (aB (dY (([27,28,29,30,63,66,69,72,75,78,81,84,87]:List Nat).map gY)) cs)) (hsF:∀ v∈ss,∀ k,fJ v = some k->k∉F) (h1:∀ v∈ss,v.oneCell' = true) {vals:List Value} (hvs:aB (E0 (ρS (([27,28,29,30,63,66,69,72,75,78,81,84,87]:List Nat).map gY) ss)) (ZA b) = vals) :
 Calls Tryz.prog 75 vals.toArray w fun e w' => ∃ us F',e = .returned (Ti true us)/\ah w w' F/\Sub F' F w/\KR w' b stB F'/\eF F' w' us ([KE.arr [493,495,497,499],KE.num 98,KE.num 109].map KE.ca):=by
 obtain ⟨ρ',ps',s',hend,_,_,_⟩:=lV (b:=b) (G:=fun _ => none) (X:=[]) 5000 (ag3 b);obtain ⟨v,g,δ,xs,hr,he,hx,q1,_,_⟩:=Gs hend;subst q1;have hd:dF (rS b) = δ:=by rw [hr]; rfl
 have hr':iG (Zl []) 5000 75 (ZA b) ⟨.nil,0,aG [27,28,29,30,63,66,69,72,75,78,81,84,87]⟩ = some (v,g,δ):=hr;refine DJ (cx:=Zl []) (s':=stB) rfl (show Tryz.prog.follows .mixedOrders = true by kernel_rfl) (fun t n g h a w => abW t n g h a w) rfl hr' (by kernel_rfl) aff (by decide +kernel) he hx (fun H X ρF hF => ?_) w hk ss hss hsF h1 hvs;rw [<- hd];exact afg b H X ρF hF
theorem aco (b:MP) (H:Nat->Option Obj) (X:List Nat) (ρF:Nat->Value) (h:kG MI ρF):ajs (oL b H X) ρF (.call 75 [.v (JY b),.v (.agg [.opq 20,.opq 21,.opq 22,.opq 23]),.v (.agg [.opq 60,.opq 64,.opq 68]),.v (.agg [.opq 72,.opq 76,.opq 80]),.v (.agg [.opq 84,.opq 88,.opq 92])] (.jk [.agg (kH 4 93),.opq 97,.opq 98])) stA stB:=by
 have e20:ρF 20 = .int .i64 (27:Nat):=h 20 27 rfl;have e21:ρF 21 = .int .i64 (28:Nat):=h 21 28 rfl;have e22:ρF 22 = .int .i64 (29:Nat):=h 22 29 rfl;have e23:ρF 23 = .int .i64 (30:Nat):=h 23 30 rfl;have e60:ρF 60 = .int .i64 (63:Nat):=h 60 63 rfl;have e64:ρF 64 = .int .i64 (66:Nat):=h 64 66 rfl;have e68:ρF 68 = .int .i64 (69:Nat):=h 68 69 rfl;have e72:ρF 72 = .int .i64 (72:Nat):=h 72 72 rfl;have e76:ρF 76 = .int .i64 (75:Nat):=h 76 75 rfl;have e80:ρF 80 = .int .i64 (78:Nat):=h 80 78 rfl;have e84:ρF 84 = .int .i64 (81:Nat):=h 84 81 rfl;have e88:ρF 88 = .int .i64 (84:Nat):=h 88 84 rfl;have e92:ρF 92 = .int .i64 (87:Nat):=h 92 87 rfl;have e93:ρF 93 = .int .i64 (493:Nat):=h 93 493 rfl;have e94:ρF 94 = .int .i64 (495:Nat):=h 94 495 rfl;have e95:ρF 95 = .int .i64 (497:Nat):=h 95 497 rfl;have e96:ρF 96 = .int .i64 (499:Nat):=h 96 499 rfl;have e97:ρF 97 = .int .i64 (98:Nat):=h 97 98 rfl;have e98:ρF 98 = .int .i64 (109:Nat):=h 98 109 rfl
 have cq:AV.ay (E0 ρF) (.agg [.opq 20,.opq 21,.opq 22,.opq 23]) = .agg #[.int .i64 27,.int .i64 28,.int .i64 29,.int .i64 30]:=by
  show Value.agg #[ρF 20,ρF 21,ρF 22,ρF 23] = _;rw [e20,e21,e22,e23];rfl
 have ct:AV.ay (E0 ρF) (.agg [.opq 60,.opq 64,.opq 68]) = .agg #[.int .i64 63,.int .i64 66,.int .i64 69]:=by
  show Value.agg #[ρF 60,ρF 64,ρF 68] = _;rw [e60,e64,e68];rfl
 have cp:AV.ay (E0 ρF) (.agg [.opq 72,.opq 76,.opq 80]) = .agg #[.int .i64 72,.int .i64 75,.int .i64 78]:=by
  show Value.agg #[ρF 72,ρF 76,ρF 80] = _;rw [e72,e76,e80];rfl
 have cf:AV.ay (E0 ρF) (.agg [.opq 84,.opq 88,.opq 92]) = .agg #[.int .i64 81,.int .i64 84,.int .i64 87]:=by
  show Value.agg #[ρF 84,ρF 88,ρF 92] = _;rw [e84,e88,e92];rfl
 have co:AV.ay (E0 ρF) (.jk [.agg (kH 4 93),.opq 97,.opq 98]) = .tuple #[.agg #[.int .i64 493,.int .i64 495,.int .i64 497,.int .i64 499],.int .i64 98,.int .i64 109]:=by
  show Value.tuple #[Value.agg #[ρF 93,ρF 94,ρF 95,ρF 96],ρF 97,ρF 98] = _;rw [e93,e94,e95,e96,e97,e98];rfl
 intro w xs F hk ha
 match xs,ha with
 | [x0,x1,x2,x3,x4],ha =>
  obtain ⟨h0,h1,h2,h3,h4,_⟩:=ha;have h0:x0 = AV.ay (E0 ρF) (JY b):=h0;have h1:x1 = AV.ay (E0 ρF) (.agg [.opq 20,.opq 21,.opq 22,.opq 23]):=h1;have h2:x2 = AV.ay (E0 ρF) (.agg [.opq 60,.opq 64,.opq 68]):=h2;have h3:x3 = AV.ay (E0 ρF) (.agg [.opq 72,.opq 76,.opq 80]):=h3;have h4:x4 = AV.ay (E0 ρF) (.agg [.opq 84,.opq 88,.opq 92]):=h4;rw [cq] at h1;rw [ct] at h2;rw [cp] at h3;rw [cf] at h4;subst h0 h1 h2 h3 h4;rw [co];refine (ZC w hk [] (fun i cs hi => by simp at hi) (fun v hv => by cases hv) (fun v hv => by cases hv) (vals:=[AV.ay (E0 ρF) (JY b),.agg #[.int .i64 27,.int .i64 28,.int .i64 29,.int .i64 30],.agg #[.int .i64 63,.int .i64 66,.int .i64 69],.agg #[.int .i64 72,.int .i64 75,.int .i64 78],.agg #[.int .i64 81,.int .i64 84,.int .i64 87]]) rfl).mono ?_;rintro e w' ⟨us,F',rfl,hc,hs,hk',hu⟩
  match us,hu with
  | [u0,u1,u2],hu =>
   obtain ⟨g0,g1,g2,_⟩:=hu;have g0:u0 = .agg #[.int .i64 493,.int .i64 495,.int .i64 497,.int .i64 499]:=g0;have g1:u1 = .int .i64 98:=g1;have g2:u2 = .int .i64 109:=g2;subst g0 g1 g2;exact ⟨rfl,hc,F',hs,hk'⟩
theorem aiF (b:MP) (H:Nat->Option Obj) (X:List Nat) (ρF:Nat->Value) (h:kG rhoC ρF):gy (oL b H X) ρF (dF (rF b)) Bg Xd:=by
 have hB:kG MI ρF:=by rw [alY] at h; exact h.of_append
 have hA:kG Zz ρF:=by
  have h':=hB;rw [alX] at h';exact h'.of_append
 have e:dF (rF b) = (dF (rF b)).take 49 ++ (.call 75 [.v (JY b),.v (.agg [.opq 20,.opq 21,.opq 22,.opq 23]),.v (.agg [.opq 60,.opq 64,.opq 68]),.v (.agg [.opq 72,.opq 76,.opq 80]),.v (.agg [.opq 84,.opq 88,.opq 92])] (.jk [.agg (kH 4 93),.opq 97,.opq 98]) :: (dF (rF b)).drop 50):=by rw [<- evF b,List.take_append_drop]
 rw [e];refine (lq (M:=oL b H X)).2 ⟨stA,?_,stB,aco b H X ρF hB,?_⟩
 . obtain ⟨ρ',ps',s',h1,_,_,h4⟩:=lV (b:=b) (G:=H) (X:=X) 5000 (Cj b)
   have q:=Option.some.inj h1;have q1:ρ' = Zz:=congrArg Prod.fst q;have q2:ps' = List.replicate 68 ⟨b.a,0,none⟩:=congrArg (fun q => q.2.1) q;have q3:s' = stA:=congrArg (fun q => q.2.2) q;subst q1 q2 q3;exact h4 ρF (fun p hp => (List.mem_replicate.1 hp).2) hA
 . obtain ⟨ρ',ps',s',h1,_,_,h4⟩:=lV (b:=b) (G:=H) (X:=X) 5000 (alW b)
   obtain ⟨_,_,_,_,_,_,_,q1,q2,q3⟩:=Gs h1;subst q1 q2 q3;exact h4 ρF (fun p hp => (List.mem_replicate.1 hp).2) h
theorem alZ:vM cxF:=fun t n g h a w => abW t n g h a w
theorem acp {b:MP} (w:World) {F:List Nat} (hk:KR w b Bg F) (ss:List Value)
 (hss:∀ (i:Nat) cs,([kH 20 0]:List (List AV))[i]? = some cs->∃ v,ss[i]? = some v/\Sl w v (aB (dY (([0,1,2,3,4,5,6,7,8,9,10,11,12,13,14,15,16,17,18,19,27,28,29,30,31,32,33]:List Nat).map gY)) cs)) (hsF:∀ v∈ss,∀ k,fJ v = some k->k∉F) (h1:∀ v∈ss,v.oneCell' = true) {vals:List Value} (hvs:aB (E0 (ρS (([0,1,2,3,4,5,6,7,8,9,10,11,12,13,14,15,16,17,18,19,27,28,29,30,31,32,33]:List Nat).map gY) ss)) [JY b,.lit (.int .i64 0),.vw 1000000 0 20,.agg (kH 7 20)] = vals) :
 Calls Tryz.prog 40 vals.toArray w fun e w' => ∃ us F',e = .returned (Ti true us)/\ah w w' F/\Sub F' F w/\KR w' b (xu b) F'/\eF F' w' us ([KE.arr yJ,KE.sli dL].map KE.ca):=by
 obtain ⟨ρ',ps',s',hend,_,_,_⟩:=lV (b:=b) (G:=fun _ => none) (X:=[]) 5000 (alW b);obtain ⟨v,g,δ,xs,hr,he,hx,q1,_,_⟩:=Gs hend;subst q1;have hd:dF (rF b) = δ:=by rw [hr]; rfl
 have hr':iG cxF 5000 40 [JY b,.lit (.int .i64 0),.vw 1000000 0 20,.agg (kH 7 20)] ⟨.nil,0,aG [0,1,2,3,4,5,6,7,8,9,10,11,12,13,14,15,16,17,18,19,27,28,29,30,31,32,33]⟩ = some (v,g,δ):=hr;refine DJ (cx:=cxF) (s':=Xd) rfl (show Tryz.prog.follows .mixedOrders = true by kernel_rfl) alZ rfl hr' (by kernel_rfl) afe (by decide +kernel) he hx (fun H X ρF hF => ?_) w hk ss hss hsF h1 hvs;rw [<- hd];exact aiF b H X ρF hF
end

section
open Go Go.RowKit Ab Xi
def ag4 (s:KS):KS:=(((((((s.set 20 502).set 21 505).set 22 508).set 23 511).set 24 514).set 25 520).set 26 517)
def Kq (b:MP):KS:=ag4 (xu b)
def lY (b:MP):KS:=(Kq b).answer dL
theorem al0 (s:KS) (c v:Nat):(s.set c v).rc = ⟨35,((1:Nat):Int),0,0,(c:Nat)⟩ :: ⟨34,((1:Nat):Int),0,0,(v:Nat)⟩ :: s.rc:=rfl
theorem al1 (s:KS) (i:aO):(s.ins i).rc = i :: s.rc:=rfl
theorem acr (s:KS) (l:List Nat):(s.answer l).rc = s.rc:=rfl
def Kr (w:Nat):Bool:=decide (jl (gI w) = 0) && decide (encI (gI w) = (w:Int))
set_option maxRecDepth 100000
theorem aog:((wordsOf aP 2921).take 750).all Kr = true:=by kernel_rfl
theorem aoh:(((wordsOf aP 2921).drop 750).take 750).all Kr = true:=by kernel_rfl
theorem aoi:((((wordsOf aP 2921).drop 750).drop 750).take 750).all Kr = true:=by kernel_rfl
theorem aoj:((((wordsOf aP 2921).drop 750).drop 750).drop 750).all Kr = true:=by kernel_rfl
theorem aqh {p:Nat->Bool} {l:List Nat} (h0:(l.take 750).all p = true) (h1:((l.drop 750).take 750).all p = true) (h2:(((l.drop 750).drop 750).take 750).all p = true) (h3:(((l.drop 750).drop 750).drop 750).all p = true):l.all p = true:=by
 rw [<- List.take_append_drop 750 l,List.all_append,h0,<- List.take_append_drop 750 (l.drop 750),List.all_append,h1,<- List.take_append_drop 750 ((l.drop 750).drop 750),List.all_append,h2,h3];rfl
theorem TR:∀ w∈wordsOf aP 2921,jl (gI w) = 0/\encI (gI w) = (w:Int):=fun w hw => by
 have h:=List.all_eq_true.1 (aqh aog aoh aoi aoj) w hw;unfold Kr at h;rw [Bool.and_eq_true] at h;exact ⟨of_decide_eq_true h.1,of_decide_eq_true h.2⟩
theorem aiG:((wordsOf aP 2921).map gI).map encI = (wordsOf aP 2921).map fun n:Nat => (n:Int):=by
 rw [List.map_map];exact List.map_congr_left fun w hw => (TR w hw).2
theorem aiH:∀ i∈(wordsOf aP 2921).map gI,jl i = 0:=fun i hi => by
 obtain ⟨w,hw,rfl⟩:=List.mem_map.1 hi;exact (TR w hw).1
def Qe:List (Nat × Nat)->Nat->Option Nat->Option Nat
 | [],_,acc => acc
 | p :: l,k,acc => Qe l k (bif Nat.beq p.1 k then some p.2 else acc)
theorem TS (k:Nat):∀ (fx:List (Nat × Nat)) (acc:Option Nat),(fx.map Ry).foldl (fun acc p => if p.1 = (k:Int) then some p.2 else acc) (acc.map fun n:Nat => (n:Int)) = (Qe fx k acc).map fun n:Nat => (n:Int)
 | [],_ => rfl
 | p :: l,acc => by
  rw [List.map_cons,List.foldl_cons]
  have e:(if (Ry p).1 = (k:Int) then some (Ry p).2 else acc.map fun n:Nat => (n:Int)) = ((bif Nat.beq p.1 k then some p.2 else acc):Option Nat).map fun n:Nat => (n:Int):=by
   cases h:Nat.beq p.1 k with
   | true =>
    have h':=beq_iff.1 h;rw [if_pos (by show ((p.1:Nat):Int) = _; rw [h'])];rfl
   | false =>
    have h':p.1≠k:=fun e => by rw [beq_iff.2 e] at h; cases h
    rw [if_neg (by show ((p.1:Nat):Int)≠_; omega)];rfl
  rw [e];exact TS k l _
def ZE (fx:List (Nat × Nat)):Nat->List Nat->Bool
 | _,[] => true
 | k,w :: l => (match Qe fx k none with | some t => Nat.beq (fZ w) 38 && Nat.beq t (nN w) | none => bif Nat.beq (fZ w) 38 then false else true) && fP (Nat.add k 1) fun k' => ZE fx k' l
theorem Xe {fx:List (Nat × Nat)}:∀ {l:List Nat} {k:Nat},ZE fx k l = true->∀ (i w:Nat),l[i]? = some w->patched (fx.map Ry) (k + i) (Df w) = gI w
 | [],_,_,i,w,h => by simp at h
 | w0 :: l,k,h,i,w,hw => by
  unfold ZE at h;rw [Bool.and_eq_true,wS] at h;obtain ⟨h1,h2⟩:=h
  cases i with
  | zero =>
   have e:w0 = w:=by simpa using hw
   subst e;unfold patched wQ;have hl:=TS k fx none;rw [show ((none:Option Nat).map fun n:Nat => (n:Int)) = none from rfl] at hl;rw [Nat.add_zero,hl]
   cases hk:Qe fx k none with
   | some t =>
    rw [hk] at h1;simp only [Bool.and_eq_true] at h1;have e1:=beq_iff.1 h1.1;have e2:=beq_iff.1 h1.2;show ({ Df w0 with n:=(t:Int) }:aO) = _;unfold Df gI;rw [h1.1,e1,e2];rfl
   | none =>
    rw [hk] at h1;simp only [] at h1
    cases hb:Nat.beq (fZ w0) 38 with
    | true => rw [hb] at h1; cases h1
    | false =>
     show Df w0 = _;unfold Df;rw [hb];rfl
  | succ i =>
   have:=Xe h2 i w (by simpa using hw);rw [show k + (i + 1) = Nat.add k 1 + i by show _ = k + 1 + i; omega];exact this
def fxF:List (Nat × Nat):=[(77,44),(79,26),(345,311),(613,579),(934,900),(1396,1362),(1716,1682),(2016,1952),(2145,2111),(2269,2205),(2434,2370),(2885,2852),(2887,2834)]
theorem aqi:ZE fxF 0 (wordsOf aP 2921) = true:=by kernel_rfl
theorem codeF:rJ (fxF.map Ry) ((wordsOf aP 2921).map Df) = (wordsOf aP 2921).map fun w:Nat => (w:Int):=by
 apply List.ext_getElem?;intro k;unfold rJ;rw [List.getElem?_mapIdx,List.getElem?_map,List.getElem?_map]
 cases hw:(wordsOf aP 2921)[k]? with
 | none => rfl
 | some w =>
  have:=Xe aqi k w hw;rw [Nat.zero_add] at this;simp only [Option.map_some,this];rw [(TR w (List.mem_of_getElem? hw)).2]
theorem al3:Xd.rc = (((wordsOf aP 2921).take 2906).map Df).reverse:=by unfold Xd MH; rfl
theorem acs (b:MP):((lY b).ins ⟨43,0,0,0,0⟩).rc.reverse = (wordsOf aP 2921).map Df:=by
 unfold lY Kq ag4 xu;simp only [al1,acr,al0,List.reverse_cons,List.append_assoc,List.cons_append,List.nil_append];rw [al3,List.reverse_reverse]
 conv => rhs; rw [<- List.take_append_drop 2906 (wordsOf aP 2921),List.map_append]
 congr 1
theorem aiI (b:MP):Ec ((lY b).ins ⟨43,0,0,0,0⟩).rd.reverse ((lY b).ins ⟨43,0,0,0,0⟩).ru.reverse = some fxF:=by kernel_rfl
theorem aiJ (b:MP):Rz ((lY b).ins ⟨43,0,0,0,0⟩) = some ((wordsOf aP 2921).map fun w:Nat => (w:Int)):=by
 unfold Rz;rw [aiI];have hl:((lY b).ins ⟨43,0,0,0,0⟩).rc.length = 2921:=by rw [<- List.length_reverse,acs,List.length_map,Oo]
 simp only [];rw [hl,acs,codeF];rfl
end

section
open Go Go.RowKit Ab Xi
set_option maxRecDepth 100000
theorem al4 (b:MP):((lY b).ins ⟨43,0,0,0,0⟩).JV = true:=by kernel_rfl
theorem al5 (b:MP):Nat.ble (lY b).ru.length 100000 = true:=by kernel_rfl
theorem al6 (b:MP):Nat.ble (xu b).nc 700000 = true:=by kernel_rfl
theorem al7 (b:MP):Nat.ble ((Kq b).ro.length + dL.length) 2048 = true:=by kernel_rfl
theorem aiK (b:MP):FY (lY b) = bW:=by kernel_rfl
theorem afh (b:MP):dQ (lY b).rr.reverse = iQ:=by kernel_rfl
theorem aiL (b:MP):(lY b).ri.reverse = [0,1,2,3,4,5,6,7,8,9,10,11,12,13,14,15,16,17,18,19]:=by kernel_rfl
theorem afi (b:MP):(lY b).ro.reverse = dL:=by kernel_rfl
end

section
open Go Go.RowKit Go.Deep Go.Maps Ab Xi
attribute [local go_sem] Oper.semAt_some
def kS:Nat->KS
 | 0 => NQ.given 20
 | 1 => (NQ.given 20).stays 1073741824
 | j + 2 => (kS (j + 1)).stays 0
theorem Kv:∀ j,j < 7->(kS j).can 1 = true:=fun j hj => by
 rcases (by omega:j = 0\/j = 1\/j = 2\/j = 3\/j = 4\/j = 5\/j = 6) with rfl | rfl | rfl | rfl | rfl | rfl | rfl <;> kernel_rfl
theorem Gt:∀ j,j<=7->(kS j).used = 20 + j:=fun j hj => by
 rcases (by omega:j = 0\/j = 1\/j = 2\/j = 3\/j = 4\/j = 5\/j = 6\/j = 7) with rfl | rfl | rfl | rfl | rfl | rfl | rfl | rfl <;> kernel_rfl
theorem aiR (j:Nat):(kS j).stays (if j = 0 then 1073741824 else 0) = kS (j + 1):=by
 rcases j with _ | j
 . rfl
 . rfl
def dw (j:Nat):List Value:=(List.range 7).map fun i => .int .i64 (if i < j then ((20 + i:Nat):Int) else 0)
theorem acA (j:Nat):(dw j).length = 7:=by simp [dw]
theorem vH:∀ j,j < 7->(dw j).set j (.int .i64 ((20 + j:Nat):Int)) = dw (j + 1):=fun j hj => by
 match j,hj with
 | 0,_ => rfl
 | 1,_ => rfl
 | 2,_ => rfl
 | 3,_ => rfl
 | 4,_ => rfl
 | 5,_ => rfl
 | 6,_ => rfl
theorem VL {w:World} {b:MP} {F:List Nat} (hQ:11<=w.heap.size) (h:KR w b (NQ.given 20) F) :
 Calls Tryz.prog 36 #[.pointer (some ⟨b.a,0,none⟩)] w (gW (.agg (dw 7).toArray) TQ b F w):=by
 have hs0:=(aA.new w 85 (dw 0)).alloc (.cells (dw 0).toArray 85);have hs1:=aA.new (w.alloc (.cells (dw 0).toArray 85)) 85 (dw 0);have hz:(w.alloc (.cells (dw 0).toArray 85)).heap.size = w.heap.size + 1:=size_alloc _ _;rw [hz] at hs1;have hc0:ah w ((w.alloc (.cells (dw 0).toArray 85)).alloc (.cells (dw 0).toArray 85)) []:=((ah.refl w []).alloc _).alloc _;have hk0:=h.aV hc0;have he:dw 0 = [.int .i64 0,.int .i64 0,.int .i64 0,.int .i64 0,.int .i64 0,.int .i64 0,.int .i64 0]:=rfl;have hq0:11<=w.heap.size:=hQ;have sH:=hide (show ∀ k∈F,k < w.heap.size from fun k hk => h.lt k hk);rw [he] at hs0 hs1 hc0 hk0 hz;have H0:=hide hs0;have H1:=hide hs1;have kX:=hide hc0;have HK0:=hide hk0;have HQ:=hide hq0;clear hq0 hQ h hs0 hs1 hc0 hk0 he;go_enter Tryz.func36,Tryz.ntmps36
 go_wp2_with fail
 generalize hM:w.heap.size = M at *;have Xo:=hide hM;generalize hW:(w.alloc (.cells #[.int .i64 0,.int .i64 0,.int .i64 0,.int .i64 0,.int .i64 0,.int .i64 0,.int .i64 0] 85)).alloc (.cells #[.int .i64 0,.int .i64 0,.int .i64 0,.int .i64 0,.int .i64 0,.int .i64 0,.int .i64 0] 85) = W0 at *;have hzW:W0.heap.size = M + 2:=by rw [<- hW,size_alloc,hz]
 have wu:=hide (show ∀ k,M<=k->k < M + 2->∀ F',Sub F' F W0->k∉F' from fun k h1 h2 F' hs hm => by
  rcases hs k hm with h | h
  . have:=sH.out k h; omega
  . omega)
 clear hW hzW hz;go_loopw [4,5,8] (fun _ _ i wr => ∃ j:Nat,j<=4/\i = .int .i64 j/\Hid (ah W0 wr ((M + 1) :: F))/\Hid (∃ F',Sub F' F W0/\KR wr b (kS j) F')/\Hid (aA wr (M + 1) 85 (dw j))/\Hid (aA wr M 85 (dw 0))) (fun _ _ i _ => 4 - (intOf i).toNat)
 case atStart => exact ⟨0,Nat.zero_le _,rfl,hide (ah.refl _ _),hide ⟨F,Sub.refl _ _,HK0.out⟩,H1,H0⟩
 case round =>
  clear HK0 H0 H1;obtain ⟨j,hj,rfl,HC,HK,HB,HR⟩:=hrel;by_cases hlt:j < 4
  . obtain ⟨F1,hs1,hk1⟩:=HK.out
    have hst:=uO hk1 (if j = 0 then 1073741824 else 0) (by split <;> (unfold aC; omega)) (Kv j (by omega));rw [aiR,Gt j (by omega)] at hst;obtain ⟨y,hy⟩:∃ y,(dw j)[j]? = some y:=⟨(dw j)[j]'(by rw [acA]; omega),by simp⟩
    have dV:=hide hs1;have iM:=hide (show M + 1∉F1/\M∉F1 from ⟨fun hm => wu.out (M + 1) (by omega) (by omega) F1 hs1 hm,fun hm => wu.out M (by omega) (by omega) F1 hs1 hm⟩);clear hs1 hk1;by_cases h0:j = 0
    . subst h0
      rw [if_pos rfl] at hst;clear hj hlt;go_wp2_with fail
      go_at_call 67;refine hst.mono ?_;rintro e w2 ⟨rfl,hc2,F2,hs2,hk2⟩;have hb2:=HB.out.aj hc2 iM.out.1;have HR2:=hide (HR.out.aj hc2 iM.out.2);have z:=hb2.cell' hy;have f:=hb2.frozen 0;have hbl:=hb2.lt;have hset:=vH 0 (by omega);have qQ:=hide (show aA (w2.setCell ⟨M + 1,0,none⟩ (.int .i64 ((20 + 0:Nat):Int))) (M + 1) 85 (dw (0 + 1)) from hset ▸ hb2.aK 0 _);have hS:ah w2 (w2.setCell ⟨M + 1,0,none⟩ (.int .i64 ((20 + 0:Nat):Int))) [M + 1]:=(ah.refl w2 [M + 1]).setCell _ _ (.inl (List.mem_singleton.2 rfl));have HC2:=hide (show ah W0 (w2.setCell ⟨M + 1,0,none⟩ (.int .i64 ((20 + 0:Nat):Int))) ((M + 1) :: F) from (HC.out.trans hc2 (fun k hk => (dV.out k hk).imp_left fun h => List.mem_cons_of_mem _ h)).trans hS (fun k hk => .inl (by simp at hk; simp [hk])))
      have HS2:=hide (show Sub F2 F W0 from fun k hk => by
       rcases hs2 k hk with h | h
       . exact dV.out k h
       . exact .inr (Nat.le_trans HC.out.size h))
      have HF2:=hide (show M + 1∉F2/\M∉F2 from ⟨fun hm => wu.out (M + 1) (by omega) (by omega) F2 HS2.out hm,fun hm => wu.out M (by omega) (by omega) F2 HS2.out hm⟩);have gQ:=hide (hk2.aj hS (fun k hk hm => HF2.out.1 (by simp at hm; exact hm ▸ hk)) (fun k hk => by have:=HQ.out; simp at hk; omega));have HR3:=hide (HR2.out.aj hS (by simp));clear hst hc2 hs2 hk2 hb2 hset hS hy;go_wp2;go_roundw
      case rel => exact ⟨0 + 1,by omega,by go_num,HC2,hide ⟨F2,HS2.out,gQ.out⟩,qQ,HR3⟩
      case measure => simp [intOf]
    . rw [if_neg h0] at hst
      have t0:((j:Int) == 0) = false:=by simp; omega
      clear h0;go_wp2_with fail
      go_at_call 67;refine hst.mono ?_;rintro e w2 ⟨rfl,hc2,F2,hs2,hk2⟩;have hb2:=HB.out.aj hc2 iM.out.1;have HR2:=hide (HR.out.aj hc2 iM.out.2);have z:=hb2.cell' hy;have f:=hb2.frozen j;have hbl:=hb2.lt;have hset:=vH j (by omega);have qQ:=hide (show aA (w2.setCell ⟨M + 1,j,none⟩ (.int .i64 ((20 + j:Nat):Int))) (M + 1) 85 (dw (j + 1)) from hset ▸ hb2.aK j _);have hS:ah w2 (w2.setCell ⟨M + 1,j,none⟩ (.int .i64 ((20 + j:Nat):Int))) [M + 1]:=(ah.refl w2 [M + 1]).setCell _ _ (.inl (List.mem_singleton.2 rfl));have HC2:=hide (show ah W0 (w2.setCell ⟨M + 1,j,none⟩ (.int .i64 ((20 + j:Nat):Int))) ((M + 1) :: F) from (HC.out.trans hc2 (fun k hk => (dV.out k hk).imp_left fun h => List.mem_cons_of_mem _ h)).trans hS (fun k hk => .inl (by simp at hk; simp [hk])))
      have HS2:=hide (show Sub F2 F W0 from fun k hk => by
       rcases hs2 k hk with h | h
       . exact dV.out k h
       . exact .inr (Nat.le_trans HC.out.size h))
      have HF2:=hide (show M + 1∉F2/\M∉F2 from ⟨fun hm => wu.out (M + 1) (by omega) (by omega) F2 HS2.out hm,fun hm => wu.out M (by omega) (by omega) F2 HS2.out hm⟩);have gQ:=hide (hk2.aj hS (fun k hk hm => HF2.out.1 (by simp at hm; exact hm ▸ hk)) (fun k hk => by have:=HQ.out; simp at hk; omega));have HR3:=hide (HR2.out.aj hS (by simp));clear hst hc2 hs2 hk2 hb2 hset hS hy;go_wp2;go_roundw
      case rel => exact ⟨j + 1,by omega,by go_num,HC2,hide ⟨F2,HS2.out,gQ.out⟩,qQ,HR3⟩
      case measure => simp [intOf]; omega
  . obtain rfl:j = 4:=by omega
    have ig:=HC;have HK4:=HK;have HB4:=HB;have HR4:=HR;clear HC HK HB HR hlt hj;go_wp2_with fail
    go_loopw [7,24] (fun _ i wr => ∃ j:Nat,j<=3/\i = .int .i64 j/\Hid (ah W0 wr ((M + 1) :: F))/\Hid (∃ F',Sub F' F W0/\KR wr b (kS (4 + j)) F')/\Hid (aA wr (M + 1) 85 (dw (4 + j)))/\Hid (aA wr M 85 (dw 0))) (fun _ i _ => 3 - (intOf i).toNat)
    case atStart => exact ⟨0,Nat.zero_le _,rfl,ig,HK4,HB4,HR4⟩
    case round =>
     clear ig HK4 HB4 HR4;obtain ⟨j,hj,rfl,HC,HK,HB,HR⟩:=hrel;by_cases hlt:j < 3
     . obtain ⟨F1,hs1,hk1⟩:=HK.out
       have dV:=hide hs1;have iM:=hide (show M + 1∉F1/\M∉F1 from ⟨fun hm => wu.out (M + 1) (by omega) (by omega) F1 hs1 hm,fun hm => wu.out M (by omega) (by omega) F1 hs1 hm⟩);rcases (by omega:j = 0\/j = 1\/j = 2) with rfl | rfl | rfl
       . have hst:=uO hk1 0 (by unfold aC; omega) (Kv 4 (by omega))
         rw [show (kS 4).stays 0 = kS 5 from rfl,Gt 4 (by omega)] at hst;obtain ⟨y,hy⟩:∃ y,(dw 4)[4]? = some y:=⟨_,rfl⟩
         clear hs1 hk1 hj hlt;have hix:∀ w:World,(Instr.index 137 (.agg #[.pointer (some ⟨M + 1,4,none⟩),.pointer (some ⟨M + 1,5,none⟩),.pointer (some ⟨M + 1,6,none⟩)]) (.int .i64 0)).run Tryz.prog w = .ok (.pointer (some ⟨M + 1,4,none⟩)) w:=fun _ => by kernel_rfl
         go_wp2_with fail
         go_at_call 67;refine hst.mono ?_;rintro e w2 ⟨rfl,hc2,F2,hs2,hk2⟩;have hb2:=HB.out.aj hc2 iM.out.1;have HR2:=hide (HR.out.aj hc2 iM.out.2);have z:=hb2.cell' hy;have f:=hb2.frozen 4;have hbl:=hb2.lt;have hset:=vH 4 (by omega);have qQ:=hide (show aA (w2.setCell ⟨M + 1,4,none⟩ (.int .i64 ((20 + 4:Nat):Int))) (M + 1) 85 (dw (4 + 1)) from hset ▸ hb2.aK 4 _);have hS:ah w2 (w2.setCell ⟨M + 1,4,none⟩ (.int .i64 ((20 + 4:Nat):Int))) [M + 1]:=(ah.refl w2 [M + 1]).setCell _ _ (.inl (List.mem_singleton.2 rfl));have HC2:=hide (show ah W0 (w2.setCell ⟨M + 1,4,none⟩ (.int .i64 ((20 + 4:Nat):Int))) ((M + 1) :: F) from (HC.out.trans hc2 (fun k hk => (dV.out k hk).imp_left fun h => List.mem_cons_of_mem _ h)).trans hS (fun k hk => .inl (by simp at hk; simp [hk])))
         have HS2:=hide (show Sub F2 F W0 from fun k hk => by
          rcases hs2 k hk with h | h
          . exact dV.out k h
          . exact .inr (Nat.le_trans HC.out.size h))
         have HF2:=hide (show M + 1∉F2/\M∉F2 from ⟨fun hm => wu.out (M + 1) (by omega) (by omega) F2 HS2.out hm,fun hm => wu.out M (by omega) (by omega) F2 HS2.out hm⟩);have gQ:=hide (hk2.aj hS (fun k hk hm => HF2.out.1 (by simp at hm; exact hm ▸ hk)) (fun k hk => by have:=HQ.out; simp at hk; omega));have HR3:=hide (HR2.out.aj hS (by simp));clear hst hc2 hs2 hk2 hb2 hset hS hy;go_wp2;refine ⟨⟨_,_,_,_,_,_,_,_,_,⟨0 + 1,by omega,by go_num,HC2,hide ⟨F2,HS2.out,gQ.out⟩,qQ,HR3⟩,rfl⟩,?_⟩;simp [intOf]
       . have hst:=uO hk1 0 (by unfold aC; omega) (Kv 5 (by omega))
         rw [show (kS 5).stays 0 = kS 6 from rfl,Gt 5 (by omega)] at hst;obtain ⟨y,hy⟩:∃ y,(dw 5)[5]? = some y:=⟨_,rfl⟩
         clear hs1 hk1 hj hlt;have hix:∀ w:World,(Instr.index 137 (.agg #[.pointer (some ⟨M + 1,4,none⟩),.pointer (some ⟨M + 1,5,none⟩),.pointer (some ⟨M + 1,6,none⟩)]) (.int .i64 1)).run Tryz.prog w = .ok (.pointer (some ⟨M + 1,5,none⟩)) w:=fun _ => by kernel_rfl
         go_wp2_with fail
         go_at_call 67;refine hst.mono ?_;rintro e w2 ⟨rfl,hc2,F2,hs2,hk2⟩;have hb2:=HB.out.aj hc2 iM.out.1;have HR2:=hide (HR.out.aj hc2 iM.out.2);have z:=hb2.cell' hy;have f:=hb2.frozen 5;have hbl:=hb2.lt;have hset:=vH 5 (by omega);have qQ:=hide (show aA (w2.setCell ⟨M + 1,5,none⟩ (.int .i64 ((20 + 5:Nat):Int))) (M + 1) 85 (dw (5 + 1)) from hset ▸ hb2.aK 5 _);have hS:ah w2 (w2.setCell ⟨M + 1,5,none⟩ (.int .i64 ((20 + 5:Nat):Int))) [M + 1]:=(ah.refl w2 [M + 1]).setCell _ _ (.inl (List.mem_singleton.2 rfl));have HC2:=hide (show ah W0 (w2.setCell ⟨M + 1,5,none⟩ (.int .i64 ((20 + 5:Nat):Int))) ((M + 1) :: F) from (HC.out.trans hc2 (fun k hk => (dV.out k hk).imp_left fun h => List.mem_cons_of_mem _ h)).trans hS (fun k hk => .inl (by simp at hk; simp [hk])))
         have HS2:=hide (show Sub F2 F W0 from fun k hk => by
          rcases hs2 k hk with h | h
          . exact dV.out k h
          . exact .inr (Nat.le_trans HC.out.size h))
         have HF2:=hide (show M + 1∉F2/\M∉F2 from ⟨fun hm => wu.out (M + 1) (by omega) (by omega) F2 HS2.out hm,fun hm => wu.out M (by omega) (by omega) F2 HS2.out hm⟩);have gQ:=hide (hk2.aj hS (fun k hk hm => HF2.out.1 (by simp at hm; exact hm ▸ hk)) (fun k hk => by have:=HQ.out; simp at hk; omega));have HR3:=hide (HR2.out.aj hS (by simp));clear hst hc2 hs2 hk2 hb2 hset hS hy;go_wp2;refine ⟨⟨_,_,_,_,_,_,_,_,_,⟨1 + 1,by omega,by go_num,HC2,hide ⟨F2,HS2.out,gQ.out⟩,qQ,HR3⟩,rfl⟩,?_⟩;simp [intOf]
       . have hst:=uO hk1 0 (by unfold aC; omega) (Kv 6 (by omega))
         rw [show (kS 6).stays 0 = kS 7 from rfl,Gt 6 (by omega)] at hst;obtain ⟨y,hy⟩:∃ y,(dw 6)[6]? = some y:=⟨_,rfl⟩
         clear hs1 hk1 hj hlt;have hix:∀ w:World,(Instr.index 137 (.agg #[.pointer (some ⟨M + 1,4,none⟩),.pointer (some ⟨M + 1,5,none⟩),.pointer (some ⟨M + 1,6,none⟩)]) (.int .i64 2)).run Tryz.prog w = .ok (.pointer (some ⟨M + 1,6,none⟩)) w:=fun _ => by kernel_rfl
         go_wp2_with fail
         go_at_call 67;refine hst.mono ?_;rintro e w2 ⟨rfl,hc2,F2,hs2,hk2⟩;have hb2:=HB.out.aj hc2 iM.out.1;have HR2:=hide (HR.out.aj hc2 iM.out.2);have z:=hb2.cell' hy;have f:=hb2.frozen 6;have hbl:=hb2.lt;have hset:=vH 6 (by omega);have qQ:=hide (show aA (w2.setCell ⟨M + 1,6,none⟩ (.int .i64 ((20 + 6:Nat):Int))) (M + 1) 85 (dw (6 + 1)) from hset ▸ hb2.aK 6 _);have hS:ah w2 (w2.setCell ⟨M + 1,6,none⟩ (.int .i64 ((20 + 6:Nat):Int))) [M + 1]:=(ah.refl w2 [M + 1]).setCell _ _ (.inl (List.mem_singleton.2 rfl));have HC2:=hide (show ah W0 (w2.setCell ⟨M + 1,6,none⟩ (.int .i64 ((20 + 6:Nat):Int))) ((M + 1) :: F) from (HC.out.trans hc2 (fun k hk => (dV.out k hk).imp_left fun h => List.mem_cons_of_mem _ h)).trans hS (fun k hk => .inl (by simp at hk; simp [hk])))
         have HS2:=hide (show Sub F2 F W0 from fun k hk => by
          rcases hs2 k hk with h | h
          . exact dV.out k h
          . exact .inr (Nat.le_trans HC.out.size h))
         have HF2:=hide (show M + 1∉F2/\M∉F2 from ⟨fun hm => wu.out (M + 1) (by omega) (by omega) F2 HS2.out hm,fun hm => wu.out M (by omega) (by omega) F2 HS2.out hm⟩);have gQ:=hide (hk2.aj hS (fun k hk hm => HF2.out.1 (by simp at hm; exact hm ▸ hk)) (fun k hk => by have:=HQ.out; simp at hk; omega));have HR3:=hide (HR2.out.aj hS (by simp));clear hst hc2 hs2 hk2 hb2 hset hS hy;go_wp2;refine ⟨⟨_,_,_,_,_,_,_,_,_,⟨2 + 1,by omega,by go_num,HC2,hide ⟨F2,HS2.out,gQ.out⟩,qQ,HR3⟩,rfl⟩,?_⟩;simp [intOf]
     . obtain rfl:j = 3:=by omega
       obtain ⟨F1,hs1,hk1⟩:=HK.out;have dV:=hide hs1;have sK:=hide hk1;have iM:=hide (show M + 1∉F1/\M∉F1 from ⟨fun hm => wu.out (M + 1) (by omega) (by omega) F1 hs1 hm,fun hm => wu.out M (by omega) (by omega) F1 hs1 hm⟩);have hb:=HB.out;have hr:=HR.out;clear hs1 hk1 hj hlt;go_wp2_with (refine wpList_load_row rfl 85 (.tmp 3) rfl (M + 1) rfl 85 (dw 7).toArray (0,0) _ hb Tryz.underlying85 rfl (by kernel_rfl) ?_; refine wpList_store_row rfl 85 _ _ rfl M (dw 7).toArray rfl rfl 85 _ hr (by kernel_rfl) (by rfl) (by kernel_rfl) ?_);have hb':aA (wr.setRow M (dw 7).toArray) M 85 (dw 7):=setRow_heap wr M _ _ _ _ hr;have hc':=Ku wr M (dw 7).toArray;generalize wr.setRow M (dw 7).toArray = w9 at *;have HB9:=hide hb';have HC9:=hide hc';clear hb hr hb' hc';go_wp2;refine bodyPost_ret (v:=.agg (dw 7).toArray) (results_cell_row rfl _ _ M 85 _ (0,0) _ rfl HB9.out Tryz.underlying85 rfl (by kernel_rfl)) rfl ?_;have hch:ah W0 w9 (M :: (M + 1) :: F):=(HC.out.more (fun k hk => .inl (List.mem_cons_of_mem _ hk))).trans HC9.out (fun k hk => .inl (by simp at hk; simp [hk]));refine ⟨rfl,(kX.out.more (D':=F) (by simp)).trans hch (fun k hk => ?_),F1,fun k hk => ?_,?_⟩
       . simp only [List.mem_cons] at hk
         have:=Xo.out;rcases hk with rfl | rfl | hk
         . exact .inr (by omega)
         . exact .inr (by omega)
         . exact .inl hk
       . rcases dV.out k hk with h | h
         . exact .inl h
         . exact .inr (Nat.le_trans kX.out.size h)
       . exact sK.out.aj HC9.out (fun k hk hm => iM.out.2 (by simp at hm; exact hm ▸ hk)) (fun k hk => by have:=HQ.out; have:=Xo.out; simp at hk; omega)
theorem VN {w:World} (a b kk:Nat) (Inv:Nat->World->Prop) (hst:∀ j w w',Inv j w->ah w w' []->Inv j w')
 (hdo:∀ j,j < 7->∀ w,Inv j w->Calls Tryz.prog 38 #[.pointer (some ⟨a,j,none⟩),.pointer (some ⟨b,j,none⟩),.pointer (some ⟨kk,0,none⟩)] w fun e w' => (∃ v,e = .returned v)/\Inv (j + 1) w') (h:Inv 0 w) :
 Calls Tryz.prog 37 #[.pointer (some ⟨a,0,none⟩),.pointer (some ⟨b,0,none⟩),.func (.func 38) #[] #[.pointer (some ⟨kk,0,none⟩)]] w fun e w' => (∃ v,e = .returned v)/\Inv 7 w':=by
 have HST:=hide hst;have nU:=hide hdo;have HI:=hide h;clear hst hdo h;go_enter Tryz.func37,Tryz.ntmps37
 go_wp2_with fail
 go_loopw [6,7] (fun _ i wr => ∃ j:Nat,j<=4/\i = .int .i64 j/\Hid (Inv j wr)) (fun _ i _ => 4 - (intOf i).toNat)
 case atStart => exact ⟨0,Nat.zero_le _,rfl,HI⟩
 case round =>
  clear HI;obtain ⟨j,hj,rfl,HJ⟩:=hrel;by_cases hlt:j < 4
  . have hc:=nU.out j (by omega) wr.drew (HST.out _ _ _ HJ.out (ah.refl wr []).drew)
    go_wp2_with fail
    go_still_tail 11,(by kernel_rfl)
    change wpList _ _ _ _ _ wr.drew;go_wp2_with fail
    go_at_call 38;refine hc.mono ?_;rintro e w1 ⟨⟨v,rfl⟩,hi⟩;have HN:=hide hi;clear hc hi;go_wp2;go_roundw
    case rel => exact ⟨j + 1,by omega,by go_num,HN⟩
    case measure => simp [intOf]; omega
  . obtain rfl:j = 4:=by omega
    have wrI:=HJ.out;clear hlt hj;have hc4:=nU.out 4 (by omega) wr.drew (HST.out _ _ _ wrI (ah.refl wr []).drew);go_wp2_with fail
    go_still_tail 7,(by kernel_rfl)
    change wpList _ _ _ _ _ wr.drew;go_wp2_with fail
    go_at_call 38;refine hc4.mono ?_;rintro e v4 ⟨⟨x4,rfl⟩,v4I⟩;clear hc4;have hc5:=nU.out 5 (by omega) v4.drew (HST.out _ _ _ v4I (ah.refl v4 []).drew);go_wp2_with fail
    go_still_tail 7,(by kernel_rfl)
    change wpList _ _ _ _ _ v4.drew;go_wp2_with fail
    go_at_call 38;refine hc5.mono ?_;rintro e v5 ⟨⟨x5,rfl⟩,v5I⟩;clear hc5;have hc6:=nU.out 6 (by omega) v5.drew (HST.out _ _ _ v5I (ah.refl v5 []).drew);go_wp2_with fail
    go_still_tail 7,(by kernel_rfl)
    change wpList _ _ _ _ _ v5.drew;go_wp2_with fail
    go_at_call 38;refine hc6.mono ?_;rintro e v6 ⟨⟨x6,rfl⟩,v6I⟩;clear hc6;have HN:=hide v6I;clear v6I wrI v4I v5I;go_wp2;refine bodyPost_end (results_none rfl _ _ _) rfl ⟨⟨_,rfl⟩,HN.out⟩
theorem VO {w:World} (a b kk:Nat) (Inv:Nat->World->Prop) (hst:∀ j w w',Inv j w->ah w w' []->Inv j w')
 (hdo:∀ j,j < 7->∀ w,Inv j w->Calls Tryz.prog 42 #[.pointer (some ⟨a,j,none⟩),.pointer (some ⟨b,j,none⟩),.pointer (some ⟨kk,0,none⟩)] w fun e w' => (∃ v,e = .returned v)/\Inv (j + 1) w') (h:Inv 0 w) :
 Calls Tryz.prog 37 #[.pointer (some ⟨a,0,none⟩),.pointer (some ⟨b,0,none⟩),.func (.func 42) #[] #[.pointer (some ⟨kk,0,none⟩)]] w fun e w' => (∃ v,e = .returned v)/\Inv 7 w':=by
 have HST:=hide hst;have nU:=hide hdo;have HI:=hide h;clear hst hdo h;go_enter Tryz.func37,Tryz.ntmps37
 go_wp2_with fail
 go_loopw [6,7] (fun _ i wr => ∃ j:Nat,j<=4/\i = .int .i64 j/\Hid (Inv j wr)) (fun _ i _ => 4 - (intOf i).toNat)
 case atStart => exact ⟨0,Nat.zero_le _,rfl,HI⟩
 case round =>
  clear HI;obtain ⟨j,hj,rfl,HJ⟩:=hrel;by_cases hlt:j < 4
  . have hc:=nU.out j (by omega) wr.drew (HST.out _ _ _ HJ.out (ah.refl wr []).drew)
    go_wp2_with fail
    go_still_tail 11,(by kernel_rfl)
    change wpList _ _ _ _ _ wr.drew;go_wp2_with fail
    go_at_call 42;refine hc.mono ?_;rintro e w1 ⟨⟨v,rfl⟩,hi⟩;have HN:=hide hi;clear hc hi;go_wp2;go_roundw
    case rel => exact ⟨j + 1,by omega,by go_num,HN⟩
    case measure => simp [intOf]; omega
  . obtain rfl:j = 4:=by omega
    have wrI:=HJ.out;clear hlt hj;have hc4:=nU.out 4 (by omega) wr.drew (HST.out _ _ _ wrI (ah.refl wr []).drew);go_wp2_with fail
    go_still_tail 7,(by kernel_rfl)
    change wpList _ _ _ _ _ wr.drew;go_wp2_with fail
    go_at_call 42;refine hc4.mono ?_;rintro e v4 ⟨⟨x4,rfl⟩,v4I⟩;clear hc4;have hc5:=nU.out 5 (by omega) v4.drew (HST.out _ _ _ v4I (ah.refl v4 []).drew);go_wp2_with fail
    go_still_tail 7,(by kernel_rfl)
    change wpList _ _ _ _ _ v4.drew;go_wp2_with fail
    go_at_call 42;refine hc5.mono ?_;rintro e v5 ⟨⟨x5,rfl⟩,v5I⟩;clear hc5;have hc6:=nU.out 6 (by omega) v5.drew (HST.out _ _ _ v5I (ah.refl v5 []).drew);go_wp2_with fail
    go_still_tail 7,(by kernel_rfl)
    change wpList _ _ _ _ _ v5.drew;go_wp2_with fail
    go_at_call 42;refine hc6.mono ?_;rintro e v6 ⟨⟨x6,rfl⟩,v6I⟩;clear hc6;have HN:=hide v6I;clear v6I wrI v4I v5I;go_wp2;refine bodyPost_end (results_none rfl _ _ _) rfl ⟨⟨_,rfl⟩,HN.out⟩
def Xp (a c kk j x u:Nat) (b:MP):Nat->Value
 | 0 => .pointer (some ⟨a,j,none⟩)
 | 1 => .pointer (some ⟨b.a,0,none⟩)
 | 2 => .pointer (some ⟨c,j,none⟩)
 | 3 => .pointer (some ⟨c,j,none⟩)
 | 4 => .int .i64 (x:Int)
 | 5 => .int .i64 (u:Int)
 | 6 => .pointer (some ⟨a,j,none⟩)
 | 7 => undef
 | _ => undef
def yK (w:World) (F:List Nat) (b:MP) (s:KS) (a j x u:Nat) (cs:List Value) (k:Nat) (w':World):Prop:=match k with
 | 0 => ah w w' []
 | 1 => ah w w' F/\∃ F',Sub F' F w/\KR w' b (s.cell x) F'
 | _ => ah w w' (a :: F)/\(∃ F',Sub F' F w/\KR w' b (s.cell x) F')/\aA w' a 85 (cs.set j (.int .i64 (u:Int)))
theorem TU {w:World} {b:MP} {s:KS} {F:List Nat} (h:KR w b s F) (a c kk j x:Nat) (cs ds:List Value) (ha:aA w a 85 cs) (hc:aA w c 85 ds) (hk:aA w kk 79 [.pointer (some ⟨b.a,0,none⟩)]) (haF:a∉F) (DF:c∉F) (hkF:kk∉F) (hac:a≠c) (hak:a≠kk) (hQ:11<=a) (hj:j < 7) (hcl:cs.length = 7) (hx:ds[j]? = some (.int .i64 (x:Int))) (hxl:x<=2048) (hcan:s.can 1 = true) :
 Calls Tryz.prog 38 #[.pointer (some ⟨a,j,none⟩),.pointer (some ⟨c,j,none⟩),.pointer (some ⟨kk,0,none⟩)] w fun e w' => (∃ v,e = .returned v)/\ah w w' (a :: F)/\(∃ F',Sub F' F w/\KR w' b (s.cell x) F')/\aA w' a 85 (cs.set j (.int .i64 (s.used:Int))):=by
 have dI:=hide (show Tryz.prog.follows .mixedOrders = true by kernel_rfl);have HG:=hide (fun w1 (hw:ah w w1 []) => NY (h.aV hw) x hxl hcan);have G6:=hide hc;have HKK:=hide hk;have HA:=hide ha;have HX:=hide hx;have HCL:=hide hcl;have HN:=hide (show a∉F/\c∉F/\kk∉F from ⟨haF,DF,hkF⟩);have HQ:=hide hQ;have WE:=hide h;clear h hc hk ha hx haF DF hkF hcl hQ;generalize hu:s.used = u at *;clear hu;go_enter Tryz.func38,Tryz.ntmps38
 go_upto_region 0 with (fail)
 refine gV dI.out _ _ (fun (_:Nat) => Xp a c kk j x u b) (fun (q:Nat) L w' => yK w F b s a j x u cs (bI L [5,7]) w') 0 (by kernel_rfl) [] (by kernel_rfl) (fun p hp γ => by simp at hp) (by kernel_rfl) ?step ?start ?fin ?ext
 case start => exact (ah.refl w []).drew
 case ext =>
  intro γ L L' w' h hw;have e:bI L [5,7] = bI L' [5,7]:=I8 fun x hx => h x (by simp at hx; rcases hx with rfl | rfl <;> decide);have hw':yK w F b s a j x u cs (bI L [5,7]) w':=hw;rw [e] at hw';exact hw'
 case step =>
  intro i o ho L av w1 γ hdn ak hW hL hpre K Q hK
  match i,ho with
  | 0,ho =>
   injection ho with ho; subst ho;have b0:av.tmps.getD 0 undef = .pointer (some ⟨a,j,none⟩):=dH ak 0 (by kernel_rfl);clear ak;refine au ?_ (hK γ w1 (fun _ _ => rfl) (by show yK w F b s a j x u cs (bI _ [5,7]) w1; rw [eX (by decide)]; exact hW)); go_simp; rfl
  | 1,ho =>
   injection ho with ho; subst ho;have b2:av.tmps.getD 2 undef = .pointer (some ⟨kk,0,none⟩):=dH ak 2 (by kernel_rfl);clear ak
   have n5:L 5 = false:=by
    cases h:L 5 with
    | false => rfl
    | true => have hx:L 1 = true:=hdn 5 _ rfl h ⟨1,.data⟩ (by simp) rfl; rw [hL] at hx; cases hx
   have hS:yK w F b s a j x u cs 0 w1:=by
    have:=hW;simp only [bI,n5] at this;exact this
   have hq:ah w w1 []:=hS;have y:=(HKK.out.aj hq (by simp)).cell' (i:=0) rfl;clear hS hq;refine au ?_ (hK γ w1 (fun _ _ => rfl) (by show yK w F b s a j x u cs (bI _ [5,7]) w1; rw [eX (by decide)]; exact hW)); go_simp; rfl
  | 2,ho =>
   injection ho with ho; subst ho;have b1:av.tmps.getD 1 undef = .pointer (some ⟨c,j,none⟩):=dH ak 1 (by kernel_rfl);clear ak;refine au ?_ (hK γ w1 (fun _ _ => rfl) (by show yK w F b s a j x u cs (bI _ [5,7]) w1; rw [eX (by decide)]; exact hW)); go_simp; rfl
  | 3,ho =>
   injection ho with ho; subst ho;have s2:=aF ak 7 2 (by kernel_rfl) (hpre ⟨2,.data⟩ (by simp) rfl);simp only [Xp] at s2;clear ak;refine au ?_ (hK γ w1 (fun _ _ => rfl) (by show yK w F b s a j x u cs (bI _ [5,7]) w1; rw [eX (by decide)]; exact hW)); go_simp; rfl
  | 4,ho =>
   injection ho with ho; subst ho;have s3:=aF ak 8 3 (by kernel_rfl) (hpre ⟨3,.data⟩ (by simp) rfl);simp only [Xp] at s3;clear ak
   have n5:L 5 = false:=by
    cases h:L 5 with
    | false => rfl
    | true => have hx:L 4 = true:=hdn 5 _ rfl h ⟨4,.data⟩ (by simp) rfl; rw [hL] at hx; cases hx
   have hS:yK w F b s a j x u cs 0 w1:=by
    have:=hW;simp only [bI,n5] at this;exact this
   have hq:ah w w1 []:=hS;have y:=(G6.out.aj hq (by simp)).cell' HX.out;clear hS hq;refine au ?_ (hK γ w1 (fun _ _ => rfl) (by show yK w F b s a j x u cs (bI _ [5,7]) w1; rw [eX (by decide)]; exact hW)); go_simp; rfl
  | 5,ho =>
   injection ho with ho; subst ho;have s1:=aF ak 6 1 (by kernel_rfl) (hpre ⟨1,.data⟩ (by simp) rfl);have s4:=aF ak 9 4 (by kernel_rfl) (hpre ⟨4,.data⟩ (by simp) rfl);simp only [Xp] at s1 s4;clear ak
   have n7:L 7 = false:=by
    cases h:L 7 with
    | false => rfl
    | true => have hx:L 5 = true:=hdn 7 _ rfl h ⟨5,.data⟩ (by simp) rfl; rw [hL] at hx; cases hx
   have hS:yK w F b s a j x u cs 0 w1:=by
    have:=hW;simp only [bI,hL] at this;exact this
   have hq:ah w w1 []:=hS;refine dK (f:=39) (args:=#[.pointer (some ⟨b.a,0,none⟩),.int .i64 (x:Int)]) ?_ (HG.out w1 hq) ?_
   . go_simp
   . rintro e w2 ⟨rfl,hc,F3,hs3,hk3⟩
     exact ⟨_,rfl,hK γ w2 (fun _ _ => rfl) (show yK w F b s a j x u cs (bI (fun j => if j = 5 then true else L j) [5,7]) _ from by
      rw [show bI (fun j => if j = 5 then true else L j) [5,7] = 1 by simp [bI,n7]]
      exact ⟨(hq.more (by simp)).trans hc (fun k hk => .inl hk),F3,fun k hk => (hs3 k hk).imp_right (fun h => Nat.le_trans hq.size h),hk3⟩)⟩
  | 6,ho =>
   injection ho with ho; subst ho;have s0:=aF ak 5 0 (by kernel_rfl) (hpre ⟨0,.data⟩ (by simp) rfl);simp only [Xp] at s0;clear ak;refine au ?_ (hK γ w1 (fun _ _ => rfl) (by show yK w F b s a j x u cs (bI _ [5,7]) w1; rw [eX (by decide)]; exact hW)); go_simp; rfl
  | 7,ho =>
   injection ho with ho; subst ho;have s6:=aF ak 11 6 (by kernel_rfl) (hpre ⟨6,.data⟩ (by simp) rfl);have l5:=hpre ⟨5,.data⟩ (by simp) rfl;have s5:=aF ak 10 5 (by kernel_rfl) l5;simp only [Xp] at s6 s5;clear ak;have l5:L 5 = true:=hpre ⟨5,.data⟩ (by simp) rfl
   have hS:yK w F b s a j x u cs 1 w1:=by
    have:=hW;simp only [bI,l5,hL] at this;exact this
   obtain ⟨hc1,F3,hs3,hk3⟩:=hS;have hb:=HA.out.aj hc1 HN.out.1;obtain ⟨y,hy⟩:∃ y,cs[j]? = some y:=⟨cs[j]'(by have:=HCL.out; omega),by simp⟩
   have z:=hb.cell' hy;have f:=hb.frozen j;have hbl:=hb.lt;have hcs:ah w1 (w1.setCell ⟨a,j,none⟩ (.int .i64 (u:Int))) [a]:=(ah.refl w1 [a]).setCell _ _ (.inl (List.mem_singleton.2 rfl))
   have ama:a∉F3:=fun hm => by
    rcases hs3 a hm with h | h
    . exact HN.out.1 h
    . have:=HA.out.lt; omega
   have hW2:yK w F b s a j x u cs (bI (fun j => if j = 7 then true else L j) [5,7]) (w1.setCell ⟨a,j,none⟩ (.int .i64 (u:Int))):=by
    rw [show bI (fun j => if j = 7 then true else L j) [5,7] = 2 by simp [bI,l5]];exact ⟨(hc1.more (fun k hk => .inl (List.mem_cons_of_mem _ hk))).trans hcs (fun k hk => .inl (by simp at hk; simp [hk])),⟨F3,hs3,hk3.aj hcs (fun k hk hm => ama (by simp at hm; exact hm ▸ hk)) (fun k hk => by have:=HQ.out; simp at hk; omega)⟩,hb.aK j _⟩
   clear hcs ama hb hy hk3 hs3 hc1;refine qC (w':=w1.setCell ⟨a,j,none⟩ (.int .i64 (u:Int))) ?_ (hK γ _ (fun _ _ => rfl) hW2);go_simp
  | _ + 8,ho => cases ho
 case fin =>
 intro γ w9 hW;have hS:yK w F b s a j x u cs 2 w9:=hW;obtain ⟨h1,h2,h3⟩:=hS;have H1:=hide h1;have H2:=hide h2;have H3:=hide h3;clear hW h1 h2 h3;rw [fK,dM,eP];simp only [List.map_cons,List.map_nil];go_wp2;refine bodyPost_end (results_none rfl _ _ _) rfl ⟨⟨_,rfl⟩,H1.out,H2.out,H3.out⟩
theorem TV {w:World} {b:MP} {s:KS} {F:List Nat} (h:KR w b s F) (a c kk j x y:Nat) (cs ds:List Value) (ha:aA w a 85 cs) (hc:aA w c 85 ds) (hk:aA w kk 79 [.pointer (some ⟨b.a,0,none⟩)]) (hx:cs[j]? = some (.int .i64 (x:Int))) (hy:ds[j]? = some (.int .i64 (y:Int))) (hxl:x<=2048) (hyl:y<=2048) (hn:s.nc<=799990) :
 Calls Tryz.prog 42 #[.pointer (some ⟨a,j,none⟩),.pointer (some ⟨c,j,none⟩),.pointer (some ⟨kk,0,none⟩)] w fun e w' => (∃ v,e = .returned v)/\ah w w' F/\∃ F',Sub F' F w/\KR w' b (s.set x y) F':=by
 have hm:=CJ (h.aV (ah.refl w []).drew) x y hxl hyl hn;have z1:=ha.cell' hx;have z2:=hc.cell' hy;have z3:=hk.cell' (i:=0) rfl;clear h ha hc hk hx hy;go_enter Tryz.func42,Tryz.ntmps42
 go_wp2_with fail
 go_still_tail 7,(by kernel_rfl)
 change wpList _ _ _ _ _ w.drew;go_wp2_with fail
 go_at_call 43;refine hm.mono ?_;rintro e w2 ⟨rfl,hc,F3,hs3,hk3⟩;have HC:=hide (((ah.refl w F).drew).trans hc (fun k hk => .inl hk));have HS:=hide hs3;have HK:=hide hk3;clear hm hc hs3 hk3;go_wp2;refine bodyPost_end (results_none rfl _ _ _) rfl ⟨⟨_,rfl⟩,HC.out,F3,HS.out,HK.out⟩
end

section
open Go Go.RowKit Go.Deep Go.Maps Ab
attribute [local go_sem] Oper.semAt_some
def jV:List Nat->List Int->List Int->List Int
 | a :: aS,x :: xs,ws => jV aS xs (ws.set a x)
 | _,_,ws => ws
theorem Ov:∀ (aS:List Nat) (xs ws:List Int),(jV aS xs ws).length = ws.length
 | [],_,_ => rfl
 | _ :: _,[],_ => rfl
 | a :: aS,x :: xs,ws => by
  show (jV aS xs (ws.set a x)).length = _;rw [Ov aS xs,List.length_set]
theorem Kw:∀ (aS:List Nat) (xs ws:List Int) (a:Nat) (x:Int),aS.length = xs.length->jV (aS ++ [a]) (xs ++ [x]) ws = (jV aS xs ws).set a x
 | [],[],ws,a,x,_ => rfl
 | [],_ :: _,_,_,_,h => by simp at h
 | _ :: _,[],_,_,_,h => by simp at h
 | b :: aS,y :: xs,ws,a,x,h => Kw aS xs (ws.set b y) a x (by simpa using h)
theorem uM.keep {w w':World} {v:Value} {code data:List Int} {sec:List Bool} {ins outs:List Nat} (h:uM w v code data sec ins outs) (hc:ah w w' []):uM w' v code data sec ins outs:=by
 obtain ⟨c,d,se,i,o,rfl,h1,h2,h3,h4,h5⟩:=h;exact ⟨c,d,se,i,o,rfl,h1.keep hc,h2.keep hc,h3.keep hc,h4.keep hc,h5.keep hc⟩
theorem xH {w:World} {v:Value} {xs:List Value} (h:Sl w v xs):∃ A c,v = .slice A xs.length c/\∀ (j:Nat) (u:Value),xs[j]? = some u->∃ b off,A = some ⟨b,off,none⟩/\w.cell? ⟨b,off + j,none⟩ = some u/\b < w.heap.size:=by
 obtain ⟨A,c,rfl,_⟩:=id h;exact ⟨A,c,rfl,fun j u hj => h.at_ hj⟩
theorem ints_at {l:List Nat} {j a:Nat} (h:l[j]? = some a):(ints l)[j]? = some (.int .i64 (a:Int)):=by simp [ints,h]
theorem lG (l:List Nat):(ints l).length = l.length:=List.length_map ..
theorem nJ (l:List Int):(bF l).length = l.length:=List.length_map ..
theorem Xu {w:World} {base base' e size n:Nat} {v:Value} {xs:List Value} (h:w.ownsRow base e size v n xs) (hb:base'<=base):w.ownsRow base' e size v n xs:=by
 refine ⟨h.1,?_⟩;rcases h.2 with hn | ⟨g,cap,cur,rfl,hg,rest⟩
 . exact .inl hn
 . exact .inr ⟨g,cap,cur,rfl,Nat.le_trans hb hg,rest⟩
section
variable {w0 w:World} {c:Nat} {words:List Nat} {s:CS} {ws:List Int} {F:List Nat}
end
end

section
open Go Go.RowKit Go.Deep Go.Maps Ab
theorem aiV:(Tryz.prog.info? 5).map (fun i => (i.zero,i.size,i.bytes)) = some (some (.int .u8 0),1,1):=by kernel_rfl
theorem afw (n:Nat) (w:World) (hl:n<=500000):(Instr.makeSlice 52 (.int .i64 n) (.int .i64 n)).run Tryz.prog w = .ok (.slice (some ⟨w.heap.size,0,none⟩) n n) (w.alloc (.cells (zeros (.int .i32 0) n).toArray 21)):=by
 obtain ⟨i0,hi,hz0,hz1,hz2⟩:=info_parts ug;have h:=run_makeSlice (P:=Tryz.prog) w 52 21 i0 (.int .i32 0) Tryz.underlying52 hi hz0 .i64 .i64 n n (by omega) (by omega) (by rw [hz1]; omega) (by rw [hz2]; omega) (by omega);rw [h,hz1,<- kP];simp [Value.cells]
def jZ (l:List Nat) (j:Nat):List Value:=((l.take j).map fun n:Nat => Value.int .i32 (n:Int)) ++ zeros (.int .i32 0) (l.length - j)
theorem acG (l:List Nat) (j:Nat) (h:j<=l.length):(jZ l j).length = l.length:=by simp [jZ,zeros]; omega
theorem acH (l:List Nat) (j x:Nat) (h:l[j]? = some x):(jZ l j).set j (.int .i32 (x:Int)) = jZ l (j + 1):=by
 obtain ⟨hj,hx⟩:=List.getElem?_eq_some_iff.1 h;unfold jZ;have hl:((l.take j).map fun n:Nat => Value.int .i32 (n:Int)).length = j:=by simp; omega
 rw [List.set_append_right _ _ (by omega),hl,Nat.sub_self,List.take_add_one,h];obtain ⟨m,hm⟩:∃ m,l.length - j = m + 1:=⟨l.length - j - 1,by omega⟩
 rw [hm,show l.length - (j + 1) = m by omega];show _ ++ (Value.int .i32 0 :: zeros _ m).set 0 _ = _;simp
theorem acI (l:List Nat):jZ l l.length = l.map fun n:Nat => Value.int .i32 (n:Int):=by simp [jZ,zeros]
theorem aiW (n:Nat) (w:World) (hl:n<=500000):(Instr.makeSlice 28 (.int .i64 n) (.int .i64 n)).run Tryz.prog w = .ok (.slice (some ⟨w.heap.size,0,none⟩) n n) (w.alloc (.cells (zeros (.int .u8 0) n).toArray 5)):=by
 obtain ⟨i0,hi,hz0,hz1,hz2⟩:=info_parts aiV;have h:=run_makeSlice (P:=Tryz.prog) w 28 5 i0 (.int .u8 0) Tryz.underlying28 hi hz0 .i64 .i64 n n (by omega) (by omega) (by rw [hz1]; omega) (by rw [hz2]; omega) (by omega);rw [h,hz1,<- kP];simp [Value.cells]
def n_ (l:List Nat) (j:Nat):List Value:=((l.take j).map fun n:Nat => Value.int .u8 (n:Int)) ++ zeros (.int .u8 0) (l.length - j)
theorem acJ (l:List Nat) (j:Nat) (h:j<=l.length):(n_ l j).length = l.length:=by simp [n_,zeros]; omega
theorem acK (l:List Nat) (j x:Nat) (h:l[j]? = some x):(n_ l j).set j (.int .u8 (x:Int)) = n_ l (j + 1):=by
 obtain ⟨hj,hx⟩:=List.getElem?_eq_some_iff.1 h;unfold n_;have hl:((l.take j).map fun n:Nat => Value.int .u8 (n:Int)).length = j:=by simp; omega
 rw [List.set_append_right _ _ (by omega),hl,Nat.sub_self,List.take_add_one,h];obtain ⟨m,hm⟩:∃ m,l.length - j = m + 1:=⟨l.length - j - 1,by omega⟩
 rw [hm,show l.length - (j + 1) = m by omega];show _ ++ (Value.int .u8 0 :: zeros _ m).set 0 _ = _;simp
theorem acL (l:List Nat):n_ l l.length = l.map fun n:Nat => Value.int .u8 (n:Int):=by simp [n_,zeros]
end

section
open Go Go.RowKit Go.Deep Go.Maps Ab
attribute [local go_sem] Oper.semAt_some
theorem Ue {w:World} {v:Value} {l:List Nat} (h:Sl w v (bU l)) (hb:∀ x∈l,x < 256) (hl:l.length<=10000) :
 Calls Tryz.prog 22 #[v] w fun e w' => ∃ u,e = .returned u/\ah w w' []/\Sl w' u (bF (l.map fun n:Nat => (n:Int)))/\∀ A n c,u = .slice (some A) n c->w.heap.size<=A.block:=by
 obtain ⟨A,c,rfl,hx⟩:=xH h;have hln:(bU l).length = l.length:=by simp [bU]
 rw [hln];have hm1:=afw l.length w (by omega);have HX:=hide hx;have HB:=hide hb;have hf0:jZ l 0 = zeros (.int .i32 0) l.length:=by simp [jZ]
 have hbl:=aA.new w 21 (zeros (.int .i32 0) l.length);rw [<- hf0] at hbl;have Ox:=hide hbl;have G8:=hide ((ah.refl w []).alloc (.cells (zeros (.int .i32 0) l.length).toArray 21));rw [<- hf0] at hm1 G8;clear h hx hb hf0 hbl hln;go_enter Tryz.func22,Tryz.ntmps22
 go_wp2_with fail
 clear hm1;generalize w.alloc (.cells (jZ l 0).toArray 21) = W2 at *;generalize hM:w.heap.size = M at *;have Xo:=hide hM;go_loopw [4,5,11] (fun _ _ i wr => ∃ j:Nat,j<=l.length/\i = .int .i64 j/\Hid (ah w wr [])/\Hid (aA wr M 21 (jZ l j))) (fun _ _ i _ => l.length - (intOf i).toNat)
 case atStart => exact ⟨0,Nat.zero_le _,rfl,G8,Ox⟩
 case round =>
  clear G8 Ox;obtain ⟨j,hj,rfl,HC,HK⟩:=hrel;by_cases hlt:j < l.length
  . obtain ⟨x,hjx⟩:∃ x,l[j]? = some x:=⟨l[j],by simp [hlt]⟩
    obtain ⟨b,o,rfl,hcx,hbb⟩:=HX.out j _ (show (bU l)[j]? = some (.int .u8 (x:Int)) by simp [bU,hjx]);have c1:=HC.out.cell hcx (by simp);have hx256:=HB.out x (List.mem_of_getElem? hjx);have hwr:IntKind.i32.wrap (x:Int) = (x:Int):=by rw [IntKind.wrap_i32]; omega
    obtain ⟨y,hy⟩:∃ y,(jZ l j)[j]? = some y:=⟨(jZ l j)[j]'(by rw [acG l j hj]; exact hlt),by simp⟩
    have z:=HK.out.cell' hy;have f:=HK.out.frozen j;have hbl:=HK.out.lt;have hset:=acH l j x hjx;have Xv:=hide (show aA (wr.setCell ⟨M,j,none⟩ (.int .i32 (x:Int))) M 21 (jZ l (j + 1)) from hset ▸ HK.out.aK j (.int .i32 (x:Int)));have HCS:=hide (show ah w (wr.setCell ⟨M,j,none⟩ (.int .i32 (x:Int))) [] from HC.out.trans ((ah.refl wr [M]).setCell _ _ (.inl (List.mem_singleton.2 rfl))) (fun k hk => .inr (by simp at hk; omega)));clear hcx hjx hy hset;go_wp2;go_roundw
    case rel => exact ⟨j + 1,by omega,by go_num,HCS,Xv⟩
    case measure => simp [intOf]; omega
  . have hjl:j = l.length:=by omega
    subst hjl;rw [acI] at HK
    have hin:Sl wr (.slice (some ⟨M,0,none⟩) l.length l.length) (bF (l.map fun n:Nat => (n:Int))):=by
     have:=Sl.blk' (n:=l.length) (c:=l.length) HK.out (by simp) (Nat.le_refl _)
     simpa [bF,List.map_map,Function.comp_def] using this
    have TT:=hide hin;clear hin;go_wp2;go_ret;exact ⟨_,rfl,HC.out,TT.out,fun A n c h => by injection h with h; injection h with h; subst h; exact Nat.le_of_eq Xo.out⟩
theorem Uf {w:World} {v:Value} {l:List Nat} (h:Sl w v (bF (l.map fun n:Nat => (n:Int)))) (hb:∀ x∈l,x < 256) (hl:l.length<=10000) :
 Calls Tryz.prog 20 #[v] w fun e w' => ∃ u,e = .returned u/\ah w w' []/\Sl w' u (bU l)/\∀ A n c,u = .slice (some A) n c->w.heap.size<=A.block:=by
 obtain ⟨A,c,rfl,hx⟩:=xH h;have hln:(bF (l.map fun n:Nat => (n:Int))).length = l.length:=by simp [bF]
 rw [hln];have hm1:=aiW l.length w (by omega);have HX:=hide hx;have HB:=hide hb;have hf0:n_ l 0 = zeros (.int .u8 0) l.length:=by simp [n_]
 have hbl:=aA.new w 5 (zeros (.int .u8 0) l.length);rw [<- hf0] at hbl;have Ox:=hide hbl;have G8:=hide ((ah.refl w []).alloc (.cells (zeros (.int .u8 0) l.length).toArray 5));rw [<- hf0] at hm1 G8;clear h hx hb hf0 hbl hln;go_enter Tryz.func20,Tryz.ntmps20
 go_wp2_with fail
 clear hm1;generalize w.alloc (.cells (n_ l 0).toArray 5) = W2 at *;generalize hM:w.heap.size = M at *;have Xo:=hide hM;go_loopw [4,5,11] (fun _ _ i wr => ∃ j:Nat,j<=l.length/\i = .int .i64 j/\Hid (ah w wr [])/\Hid (aA wr M 5 (n_ l j))) (fun _ _ i _ => l.length - (intOf i).toNat)
 case atStart => exact ⟨0,Nat.zero_le _,rfl,G8,Ox⟩
 case round =>
  clear G8 Ox;obtain ⟨j,hj,rfl,HC,HK⟩:=hrel;by_cases hlt:j < l.length
  . obtain ⟨x,hjx⟩:∃ x,l[j]? = some x:=⟨l[j],by simp [hlt]⟩
    obtain ⟨b,o,rfl,hcx,hbb⟩:=HX.out j _ (show (bF (l.map fun n:Nat => (n:Int)))[j]? = some (.int .i32 (x:Int)) by simp [bF,hjx]);have c1:=HC.out.cell hcx (by simp);have hx256:=HB.out x (List.mem_of_getElem? hjx);have hwr:IntKind.u8.wrap (x:Int) = (x:Int):=by rw [IntKind.wrap_u8]; omega
    obtain ⟨y,hy⟩:∃ y,(n_ l j)[j]? = some y:=⟨(n_ l j)[j]'(by rw [acJ l j hj]; exact hlt),by simp⟩
    have z:=HK.out.cell' hy;have f:=HK.out.frozen j;have hbl:=HK.out.lt;have hset:=acK l j x hjx;have Xv:=hide (show aA (wr.setCell ⟨M,j,none⟩ (.int .u8 (x:Int))) M 5 (n_ l (j + 1)) from hset ▸ HK.out.aK j (.int .u8 (x:Int)));have HCS:=hide (show ah w (wr.setCell ⟨M,j,none⟩ (.int .u8 (x:Int))) [] from HC.out.trans ((ah.refl wr [M]).setCell _ _ (.inl (List.mem_singleton.2 rfl))) (fun k hk => .inr (by simp at hk; omega)));clear hcx hjx hy hset;go_wp2;go_roundw
    case rel => exact ⟨j + 1,by omega,by go_num,HCS,Xv⟩
    case measure => simp [intOf]; omega
  . have hjl:j = l.length:=by omega
    subst hjl;rw [acL] at HK
    have hin:Sl wr (.slice (some ⟨M,0,none⟩) l.length l.length) (bU l):=by
     have:=Sl.blk' (n:=l.length) (c:=l.length) HK.out (by simp) (Nat.le_refl _)
     simpa [bU,List.map_map,Function.comp_def] using this
    have TT:=hide hin;clear hin;go_wp2;go_ret;exact ⟨_,rfl,HC.out,TT.out,fun A n c h => by injection h with h; injection h with h; subst h; exact Nat.le_of_eq Xo.out⟩
def qH:Value->List Nat
 | .agg cs => cs.toList.filterMap Xi.fJ
 | _ => []
theorem KN:∀ (aS bS:List Nat) (xs ws:List Int),xs.length<=aS.length->jV (aS ++ bS) xs ws = jV aS xs ws
 | [],bS,[],ws,_ => by cases bS <;> rfl
 | [],_,_ :: _,_,h => by simp at h
 | _ :: _,_,[],_,_ => rfl
 | a :: aS,bS,x :: xs,ws,h => KN aS bS xs (ws.set a x) (by simpa using h)
section
variable {w:World} {c:Nat} {words:List Nat} {s:CS} {ws:List Int} {F:List Nat}
theorem UF (h:dW w c words s ws F) (hg:jw w) {v vin:Value} {code data:List Int} {sec:List Bool} {ins outs:List Nat} {xs:List Int} (him:uM w v code data sec ins outs) (vS:∀ k∈qH v,k∉F) (hin:Sl w vin (bF xs)) (hfin:∀ k,Xi.fJ vin = some k->k∉F) (hl:xs.length<=ins.length)
 (hins:∀ a∈ins,a < ws.length) (hil:ins.length<=2048) (hol:outs.length<=2048) {mem:List Wd} (hm:mem.map (·.v) = jV ins xs ws) {N:Nat} {m':Ma} (hr:Ab.Reach (Nx words) N (sN mem) m') (hst:m'.st = 1) (hwl:words.length<=60000) (hN:N<=1048000)
 {vals:List Int} (hvl:vals.length = outs.length) (hv:∀ (j a:Nat) (x:Int),outs[j]? = some a->vals[j]? = some x->(mg m')[a]? = some x) :
 Calls Tryz.prog 21 #[.pointer (some ⟨c,0,none⟩),v,vin] w fun e w' => ∃ u F',e = .returned u/\ah w w' F/\Sub F' F w/\dW w' c words (iE m') (mg m') F'/\w'.ownsRow w.heap.size 21 1 u outs.length (bF vals):=by
 obtain ⟨i0,hi0,hz0,hz1,hz2⟩:=info_parts ug;obtain ⟨vc,vd,vs,vi,vo,rfl,g1,g2,g3,g4,g5⟩:=him;obtain ⟨Ac,cc,rfl,_⟩:=id g1;obtain ⟨Ad,cd,rfl,_⟩:=id g2;obtain ⟨As,cs,rfl,_⟩:=id g3;obtain ⟨Ai,ci,rfl,hi⟩:=xH g4;obtain ⟨Ao,co,rfl,ho⟩:=xH g5;obtain ⟨Ax,cx,rfl,hx⟩:=xH hin;have HFI:=hide (show ∀ b off,Ai = some ⟨b,off,none⟩->b∉F from fun b off e => vS b (by subst e; simp [qH,Xi.fJ]));have HFO:=hide (show ∀ b off,Ao = some ⟨b,off,none⟩->b∉F from fun b off e => vS b (by subst e; simp [qH,Xi.fJ]));have HFX:=hide (show ∀ b off,Ax = some ⟨b,off,none⟩->b∉F from fun b off e => hfin b (by subst e; rfl));have HL:=hide hl;simp only [nJ,lG] at *;clear hl;have H:=hide h;have HI:=hide hi;have HO:=hide ho;have HX:=hide hx;have aqr:=hide hins;have HV:=hide hv;have HM:=hide hm;have HR:=hide hr;have HQ:=hide hg.size;clear h vS hfin hi ho hx hins hv hm hr g1 g2 g3 g4 g5 hin hg;go_enter Tryz.func21,Tryz.ntmps21
 have hq:=aA.new w 56 [.slice Ac (iP code).length cc,.slice Ad data.length cd,.slice As (bools sec).length cs,.slice Ai ins.length ci,.slice Ao outs.length co];have HQI:=hide hq;have hHF:=fun k hk => H.out.lt k hk;have sH:=hide hHF;clear hq hHF;go_wp2_with fail
 go_loopw [7,8,17] (fun _ _ i wr => ∃ j:Nat,j<=ins.length/\i = .int .i64 j/\Hid (ah w wr F)/\Hid (dW wr c words s (jV (ins.take j) (xs.take j) ws) F)/\Hid (aA wr w.heap.size 56 [.slice Ac (iP code).length cc,.slice Ad data.length cd,.slice As (bools sec).length cs,.slice Ai ins.length ci,.slice Ao outs.length co])) (fun _ _ i _ => ins.length - (intOf i).toNat)
 case atStart => exact ⟨0,Nat.zero_le _,rfl,hide ((ah.refl w F).alloc _),hide (by simp only [List.take_zero]; exact H.out.aV ((ah.refl w []).alloc _)),HQI⟩
 case round =>
  obtain ⟨j,hj,rfl,HC,HK,HB⟩:=hrel;by_cases hlt:j < ins.length
  . obtain ⟨a,hja⟩:∃ a,ins[j]? = some a:=⟨ins[j],by simp [hlt]⟩
    by_cases hlx:j < xs.length
    . obtain ⟨x,hjx⟩:∃ x,xs[j]? = some x:=⟨xs[j]'hlx,by simp⟩
      obtain ⟨bi,oi,rfl,hci,hbi⟩:=HI.out j _ (ints_at hja);obtain ⟨bx,ox,rfl,hcx,hbx⟩:=HX.out j _ (show (bF xs)[j]? = some (.int .i32 x) by simp [bF,hjx]);have ci:=HC.out.cell hci (HFI.out _ _ rfl);have cx':=HC.out.cell hcx (HFX.out _ _ rfl);have hpk:=Ag HK.out a x (by rw [Ov]; exact aqr.out a (List.mem_of_getElem? hja))
      have hset:(jV (ins.take j) (xs.take j) ws).set a x = jV (ins.take (j + 1)) (xs.take (j + 1)) ws:=by
       rw [List.take_add_one,hja,List.take_add_one,hjx];exact (Kw _ _ _ a x (by simp; omega)).symm
      rw [hset] at hpk;clear hset hci hcx hja hjx;go_wp2_with fail
      go_at_call 47;refine hpk.mono ?_;rintro e w2 ⟨rfl,hc2,hk2⟩;have HC2:=hide hc2;have gQ:=hide hk2;clear hc2 hk2 hpk;go_wp2;go_roundw
      case rel => exact ⟨j + 1,by omega,by go_num,hide (HC.out.trans HC2.out (fun k hk => .inl hk)),gQ,hide (HB.out.aj HC2.out (fun hm => by have:=sH.out _ hm; omega))⟩
      case measure => simp [intOf]; omega
    . have hset : jV (ins.take j) (xs.take j) ws = jV (ins.take (j + 1)) (xs.take (j + 1)) ws := by
       rw [List.take_of_length_le (show xs.length<=j by omega),List.take_of_length_le (show xs.length<=j + 1 by omega),List.take_add_one];exact (KN _ _ xs ws (by simp; omega)).symm
      obtain ⟨bi,oi,rfl,hci,hbi⟩:=HI.out j _ (ints_at hja);have ci:=HC.out.cell hci (HFI.out _ _ rfl);have HK':=hide (hset ▸ HK.out);clear hset hci hja;go_wp2;go_roundw
      case rel => exact ⟨j + 1,by omega,by go_num,HC,HK',HB⟩
      case measure => simp [intOf]; omega
  . have hjl:j = ins.length:=by omega
    subst hjl;rw [List.take_length,List.take_of_length_le HL.out] at HK;have hbg:=yL HK.out;have bD:=HC;have HB1:=HB;go_wp2_with fail
    go_at_call 48;refine hbg.mono ?_;rintro e w2 ⟨rfl,hc2,F2,hs2,hk2⟩;have hc12:ah w w2 F:=HC.out.trans hc2 (fun k hk => .inl hk);have hb2:=HB.out.aj hc2 (fun hm => by have:=sH.out _ hm; omega);have amS:Sub F2 F w:=fun k hk => (hs2 k hk).imp_right (fun h => Nat.le_trans HC.out.size h);have hq2:w.heap.size∉F2:=je hs2 (fun hm => by have:=sH.out _ hm; omega) HB.out.lt;have hrn:=ZN hk2 (by have:=HQ.out; have:=hc12.size; omega) HM.out HR.out hst hwl hN;have HC2:=hide hc12;have HB2:=hide hb2;have HS2:=hide amS;have WL:=hide hq2;clear hc2 hs2 hk2 hbg hc12 hb2 amS hq2;go_wp2_with fail
    go_at_call 51;refine hrn.mono ?_;rintro e w3 ⟨⟨n,rfl⟩,hc3,F3,hs3,hk3⟩;have fU:Hid (ah w w3 F):=hide (HC2.out.trans hc3 (fun k hk => HS2.out k hk));have HB3:=hide (HB2.out.aj hc3 WL.out)
    have Rn:Hid (Sub F3 F w):=hide (fun k hk => by
     rcases hs3 k hk with h | h
     . exact HS2.out k h
     . exact .inr (Nat.le_trans HC2.out.size h))
    have DC:=hide hk3;clear hc3 hs3 hk3 hrn;have y4:=HB3.out.cell' (i:=4) rfl;go_wp2_with fail
    go_loopw [9,11,12,13,41] (fun v _ _ _ i wr => ∃ j:Nat,j<=outs.length/\i = .int .i64 j/\Hid (ah w3 wr [])/\Hid (wr.ownsRow w3.heap.size 21 1 v j (bF (vals.take j)))) (fun _ _ _ _ i _ => outs.length - (intOf i).toNat)
    case atStart => exact ⟨0,Nat.zero_le _,rfl,hide (ah.refl _ _),hide (World.ownsRow_nil _ _ _ _)⟩
    case round =>
     obtain ⟨j,hj,rfl,HR3,GX⟩:=hrel;by_cases hlt:j < outs.length
     . obtain ⟨a,hja⟩:∃ a,outs[j]? = some a:=⟨outs[j],by simp [hlt]⟩
       obtain ⟨x,hjx⟩:∃ x,vals[j]? = some x:=⟨vals[j]'(by omega),by simp⟩
       obtain ⟨bo,oo,rfl,hco,hbo⟩:=HO.out j _ (ints_at hja);have co':=HR3.out.cell (fU.out.cell hco (HFO.out _ _ rfl)) (by simp);have hld:=VP (DC.out.aV HR3.out) a x (HV.out j a x hja hjx)
       have htk:bF (vals.take (j + 1)) = bF (vals.take j) ++ [.int .i32 x]:=by
        rw [List.take_add_one,hjx];simp [bF]
       have HTK:=hide htk;obtain ⟨V,vc,rfl⟩:=bG GX.out;have hzw:w.heap.size<=w3.heap.size:=fU.out.size;have HZW:=hide hzw;clear hja hjx hco htk hzw;go_wp2_with fail
       go_at_call 52;refine hld.mono ?_;rintro e w4 ⟨rfl,hc4⟩;have ig:=hide (HR3.out.trans hc4 (by simp));have nT:=hide (aH GX.out hc4 (by simp));clear hc4 hld;go_wp2_with (at_builtin; refine wpList_append_own _ rfl _ _ 52 rfl w3.heap.size 21 i0 (.int .i32 0) 1 4 Tryz.underlying52 hi0 hz0 hz1 hz2 rfl (by decide) _ j _ rfl (nT.out.alloc _) ⟨w4.heap.size,0,none⟩ 1 1 [.int .i32 x] rfl rfl ?c1 ?c2 ?c3 ?c4 ?c5 ?_)
       case c1 =>
        intro j u hj
        match j,hj with
        | 0,hj => simp at hj; subst hj; simp [Addr.add]
       case c2 => intro u hu; simp at hu; subst hu; rfl
       case c3 => unfold maxLen; omega
       case c4 => omega
       case c5 => have:=ig.out.size; have:=HZW.out; simp; omega
       intro v' w5 hown' hgrow _;have HG:Hid (ah w3 w5 []):=hide ((ig.out.alloc _).trans (D':=(Value.slice V j vc).ownBlock.toList) (ah.dA hgrow (fun k hk => .inl (by simp [hk]))) (fun k hk => .inr (nT.out.lt k (by simpa using hk)).1));have NP:=hide hown';obtain ⟨A6,c6,hv'⟩:=bG hown';clear hown' hgrow;go_wp2;go_roundw
       case rel => exact ⟨j + 1,by omega,by go_num,HG,hide (by rw [HTK.out]; exact NP.out)⟩
       case measure => simp [intOf]; omega
     . have hjl:j = outs.length:=by omega
       subst hjl;go_wp2;go_ret;have ho:=GX.out;rw [List.take_of_length_le (by omega)] at ho;exact ⟨_,F3,rfl,fU.out.trans HR3.out (by simp),Rn.out,DC.out.aV HR3.out,Xu ho fU.out.size⟩
end
end

section
open Go Go.RowKit Go.Deep Go.Maps Ab
attribute [local go_sem] Oper.semAt_some
structure Way (words:List Nat) (data:List Int) (ins outs:List Nat) (xs vals:List Int) (ks:List Mk):Prop where
 enc:(words.map gI).map encI = words.map fun n:Nat => (n:Int)
 chk:∀ i∈words.map gI,jl i = 0
 wl:words.length<=16384
 dl:data.length<=2048
 il:ins.length<=2048
 ol:outs.length<=2048
 xl:xs.length = ins.length
 asc:∀ a∈ins,a < data.length
 vl:vals.length = outs.length
 k0:0 < ks.length
 kl:ks.length<=1048576
 run:∃ mem N m',mem.map (·.v) = jV ins xs data/\Ab.Reach (Nx words) N (sN mem) m'/\m'.st = 1/\N<=1048000/\m'.ks = ks/\(∀ (j a:Nat) (x:Int),outs[j]? = some a->vals[j]? = some x->(mg m')[a]? = some x)
section
variable {w:World} {words:List Nat} {data:List Int} {ins outs:List Nat} {xs vals:List Int} {ks:List Mk}
end
end

section
open Go Go.RowKit Go.Deep Go.Maps Ab
attribute [local go_sem] Oper.semAt_some
theorem yP:∀ (l:List (Int × Int × Int)) (j:Nat) (p:Int × Int × Int),l[j]? = some p->(bH l)[j * 3]? = some (.int .i64 p.1)/\(bH l)[j * 3 + 1]? = some (.int .i64 p.2.1)/\(bH l)[j * 3 + 2]? = some (.int .i64 p.2.2)
 | [],j,p,h => by simp at h
 | q :: l,0,p,h => by
  simp at h; subst h;exact ⟨rfl,rfl,rfl⟩
 | q :: l,j + 1,p,h => by
  have:=yP l j p (by simpa using h);have e:bH (q :: l) = .int .i64 q.1 :: .int .i64 q.2.1 :: .int .i64 q.2.2 :: bH l:=rfl;rw [e,show (j + 1) * 3 = j * 3 + 1 + 1 + 1 from by omega]
  simpa using this
section
variable {w:World} {b:Nat} {v:Value} {ks:List Mk}
end
end
end Go.Proofs.YtnkmmaijigihpaaGreatDoor
