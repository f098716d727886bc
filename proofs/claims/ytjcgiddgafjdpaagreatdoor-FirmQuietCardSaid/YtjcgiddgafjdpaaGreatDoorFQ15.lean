/- Texts of this claim, side by side: ImgFirm, FirmN, ImgFirm2, FirmK, FirmE, EmC, EmB, RefCost. -/
import Derived.Test.YtjcgiddgafjdpaaGreatDoorImgFA
import Derived.Test.YtjcgiddgafjdpaaGreatDoorImgFB
import Derived.Test.YtjcgiddgafjdpaaGreatDoorImgFD
import Derived.Test.YtjcgiddgafjdpaaGreatDoorImgFE
import Derived.Test.YtjcgiddgafjdpaaGreatDoorImgFC
import Derived.Test.YtjcgiddgafjdpaaGreatDoorFQ14
import Derived.Test.YtjcgiddgafjdpaaGreatDoorFQ13
import Derived.Test.YtjcgiddgafjdpaaGreatDoorFQ9
import Derived.Laws.Rows
import Derived.Test.YtjcgiddgafjdpaaGreatDoorFQ5
import Derived.StillTailTactics
import Derived.Test.YtjcgiddgafjdpaaGreatDoorFQ16
/- The work of the filter on a maker: put together. -/
namespace Go.Proofs.YtjcgiddgafjdpaaGreatDoor
open Go Go.RowKit Go.Proofs.YtjcgiddgafjdpaaGreatDoor.Ab Go.Proofs.YtjcgiddgafjdpaaGreatDoor.Xi
set_option linter.unusedVariables false
set_option maxRecDepth 100000
def wQ (b:MP):KS:=Ws
theorem Fe {r:Option (AV × G × List Xi.Ev)} {ρ ρ':List Nat} {ps ps':List Addr} {s s':KS} {t:Bool} {os:List KE} (h:YV r ρ ps s = some (t,os,ρ',ps',s')):∃ v g δ xs,r = some (v,g,δ)∧yU g v = some (t,xs)∧BR ρ xs = some os∧ρ = ρ'∧ps = ps'∧s = s':=by
 unfold YV at h
 cases r with
 | none => cases h
 | some q =>
  obtain ⟨v,g,δ⟩:=q
  simp only [] at h
  cases he:yU g v with
  | none => rw [he] at h; cases h
  | some q3 =>
   obtain ⟨t',xs⟩:=q3
   rw [he] at h
   simp only [] at h
   cases hx:BR ρ xs with
   | none => rw [hx] at h; cases h
   | some os' =>
    rw [hx] at h
    have e:=Option.some.inj h
    have e1:=congrArg Prod.fst e
    have e2:=congrArg (fun q => q.2.1) e
    have e3:=congrArg (fun q => q.2.2.1) e
    have e4:=congrArg (fun q => q.2.2.2.1) e
    have e5:=congrArg (fun q => q.2.2.2.2) e
    exact ⟨v,g,δ,xs,rfl,by rw [he]; exact congrArg some (Prod.ext e1 rfl),by rw [hx]; exact congrArg some e2,e3,e4,e5⟩
theorem akW:Lj = YT ++ Lj.drop 93:=by decide +kernel
theorem akX:rhoC = Lj ++ rhoC.drop 99:=by decide +kernel
theorem aek:rhoC = [0,1,2,3,4,5,6,7,8,9,10,11,12,13,14,15,16,17,18,19,27,28,29,30,31,32,33] ++ rhoC.drop 27:=by decide +kernel
theorem ahD:BZ = Jw ++ BZ.drop 176:=by decide +kernel
theorem ahE:yV = BZ ++ yV.drop 340:=by decide +kernel
theorem ael:yV = [27,28,29,30,63,66,69,72,75,78,81,84,87] ++ yV.drop 13:=by decide +kernel
theorem aem (b:MP) (H:Nat→Option Obj) (X:List Nat) (ρF:Nat→Value) (h:jY yV ρF):fF (oG b H X) ρF (dF (rS b)) stA stB:=by
 have hB:jY BZ ρF:=by rw [ahE] at h; exact h.of_append
 have hA:jY Jw ρF:=by
  have h':=hB
  rw [ahD] at h'
  exact h'.of_append
 have e:dF (rS b) = (dF (rS b)).take 141 ++ (((dF (rS b)).drop 141).take 153 ++ ((dF (rS b)).drop 141).drop 153):=by rw [List.take_append_drop,List.take_append_drop]
 rw [e]
 refine (kV (M:=oG b H X)).2 ⟨YR,?_,?_⟩
 · obtain ⟨ρ',ps',s',h1,_,_,h4⟩:=lM (b:=b) (G:=H) (X:=X) 5000 (anx b)
   have q:=Option.some.inj h1
   have q1:ρ' = Jw:=congrArg Prod.fst q
   have q2:ps' = List.replicate 165 ⟨b.a,0,none⟩:=congrArg (fun q => q.2.1) q
   have q3:s' = YR:=congrArg (fun q => q.2.2) q
   subst q1 q2 q3
   exact h4 ρF (fun p hp => (List.mem_replicate.1 hp).2) hA
 refine (kV (M:=oG b H X)).2 ⟨YS,?_,?_⟩
 · obtain ⟨ρ',ps',s',h1,_,_,h4⟩:=lM (b:=b) (G:=H) (X:=X) 5000 (anz b)
   have q:=Option.some.inj h1
   have q1:ρ' = BZ:=congrArg Prod.fst q
   have q2:ps' = List.replicate 165 ⟨b.a,0,none⟩:=congrArg (fun q => q.2.1) q
   have q3:s' = YS:=congrArg (fun q => q.2.2) q
   subst q1 q2 q3
   exact h4 ρF (fun p hp => (List.mem_replicate.1 hp).2) hB
 · obtain ⟨ρ',ps',s',h1,_,_,h4⟩:=lM (b:=b) (G:=H) (X:=X) 5000 (afU b)
   obtain ⟨_,_,_,_,_,_,_,q1,q2,q3⟩:=Fe h1
   subst q1 q2 q3
   exact h4 ρF (fun p hp => (List.mem_replicate.1 hp).2) h
theorem YW {b:MP} (w:World) {F:List Nat} (hk:KR w b stA F) (ss:List Value)
 (hss:∀ (i:Nat) cs,([]:List (List AV))[i]? = some cs→∃ v,ss[i]? = some v∧Sl w v (aA (dL (([27,28,29,30,63,66,69,72,75,78,81,84,87]:List Nat).map gG)) cs)) (hsF:∀ v∈ss,∀ k,dK v = some k→k∉F) (h1:∀ v∈ss,v.oneCell' = true) {vals:List Value} (hvs:aA (E0 (ρS (([27,28,29,30,63,66,69,72,75,78,81,84,87]:List Nat).map gG) ss)) (YU b) = vals) :
 Calls Tryz.prog 84 vals.toArray w fun e w' => ∃ us F',e = .returned (RZ true us)∧ah w w' F∧Sub F' F w∧KR w' b stB F'∧dQ F' w' us ([KE.arr [493,495,497,499],KE.num 98,KE.num 109].map KE.ca):=by
 obtain ⟨ρ',ps',s',hend,_,_,_⟩:=lM (b:=b) (G:=fun _ => none) (X:=[]) 5000 (afU b)
 obtain ⟨v,g,δ,xs,hr,he,hx,q1,_,_⟩:=Fe hend
 subst q1
 have hd:dF (rS b) = δ:=by rw [hr]; rfl
 have hr':g_ (YO []) 5000 84 (YU b) ⟨.nil,0,aG [27,28,29,30,63,66,69,72,75,78,81,84,87]⟩ = some (v,g,δ):=hr
 refine CV (cx:=YO []) (s':=stB) rfl (show Tryz.prog.follows .mixedOrders = true by kernel_rfl) (fun t n g h a w => abz t n g h a w) rfl hr' (by kernel_rfl) ael (by decide +kernel) he hx (fun H X ρF hF => ?_) w hk ss hss hsF h1 hvs
 rw [← hd]
 exact aem b H X ρF hF
theorem abK (b:MP) (H:Nat→Option Obj) (X:List Nat) (ρF:Nat→Value) (h:jY Lj ρF):aix (oG b H X) ρF (.call 84 [.v (Jo b),.v (.agg [.opq 20,.opq 21,.opq 22,.opq 23]),.v (.agg [.opq 60,.opq 64,.opq 68]),.v (.agg [.opq 72,.opq 76,.opq 80]),.v (.agg [.opq 84,.opq 88,.opq 92])] (.iW [.agg (jZ 4 93),.opq 97,.opq 98])) stA stB:=by
 have e20:ρF 20 = .int .i64 (27:Nat):=h 20 27 rfl
 have e21:ρF 21 = .int .i64 (28:Nat):=h 21 28 rfl
 have e22:ρF 22 = .int .i64 (29:Nat):=h 22 29 rfl
 have e23:ρF 23 = .int .i64 (30:Nat):=h 23 30 rfl
 have e60:ρF 60 = .int .i64 (63:Nat):=h 60 63 rfl
 have e64:ρF 64 = .int .i64 (66:Nat):=h 64 66 rfl
 have e68:ρF 68 = .int .i64 (69:Nat):=h 68 69 rfl
 have e72:ρF 72 = .int .i64 (72:Nat):=h 72 72 rfl
 have e76:ρF 76 = .int .i64 (75:Nat):=h 76 75 rfl
 have e80:ρF 80 = .int .i64 (78:Nat):=h 80 78 rfl
 have e84:ρF 84 = .int .i64 (81:Nat):=h 84 81 rfl
 have e88:ρF 88 = .int .i64 (84:Nat):=h 88 84 rfl
 have e92:ρF 92 = .int .i64 (87:Nat):=h 92 87 rfl
 have e93:ρF 93 = .int .i64 (493:Nat):=h 93 493 rfl
 have e94:ρF 94 = .int .i64 (495:Nat):=h 94 495 rfl
 have e95:ρF 95 = .int .i64 (497:Nat):=h 95 497 rfl
 have e96:ρF 96 = .int .i64 (499:Nat):=h 96 499 rfl
 have e97:ρF 97 = .int .i64 (98:Nat):=h 97 98 rfl
 have e98:ρF 98 = .int .i64 (109:Nat):=h 98 109 rfl
 have cq:AV.au (E0 ρF) (.agg [.opq 20,.opq 21,.opq 22,.opq 23]) = .agg #[.int .i64 27,.int .i64 28,.int .i64 29,.int .i64 30]:=by
  show Value.agg #[ρF 20,ρF 21,ρF 22,ρF 23] = _
  rw [e20,e21,e22,e23]
  rfl
 have ct:AV.au (E0 ρF) (.agg [.opq 60,.opq 64,.opq 68]) = .agg #[.int .i64 63,.int .i64 66,.int .i64 69]:=by
  show Value.agg #[ρF 60,ρF 64,ρF 68] = _
  rw [e60,e64,e68]
  rfl
 have cp:AV.au (E0 ρF) (.agg [.opq 72,.opq 76,.opq 80]) = .agg #[.int .i64 72,.int .i64 75,.int .i64 78]:=by
  show Value.agg #[ρF 72,ρF 76,ρF 80] = _
  rw [e72,e76,e80]
  rfl
 have cf:AV.au (E0 ρF) (.agg [.opq 84,.opq 88,.opq 92]) = .agg #[.int .i64 81,.int .i64 84,.int .i64 87]:=by
  show Value.agg #[ρF 84,ρF 88,ρF 92] = _
  rw [e84,e88,e92]
  rfl
 have co:AV.au (E0 ρF) (.iW [.agg (jZ 4 93),.opq 97,.opq 98]) = .tuple #[.agg #[.int .i64 493,.int .i64 495,.int .i64 497,.int .i64 499],.int .i64 98,.int .i64 109]:=by
  show Value.tuple #[Value.agg #[ρF 93,ρF 94,ρF 95,ρF 96],ρF 97,ρF 98] = _
  rw [e93,e94,e95,e96,e97,e98]
  rfl
 intro w xs F hk ha
 match xs,ha with
 | [x0,x1,x2,x3,x4],ha =>
  obtain ⟨h0,h1,h2,h3,h4,_⟩:=ha
  have h0:x0 = AV.au (E0 ρF) (Jo b):=h0
  have h1:x1 = AV.au (E0 ρF) (.agg [.opq 20,.opq 21,.opq 22,.opq 23]):=h1
  have h2:x2 = AV.au (E0 ρF) (.agg [.opq 60,.opq 64,.opq 68]):=h2
  have h3:x3 = AV.au (E0 ρF) (.agg [.opq 72,.opq 76,.opq 80]):=h3
  have h4:x4 = AV.au (E0 ρF) (.agg [.opq 84,.opq 88,.opq 92]):=h4
  rw [cq] at h1
  rw [ct] at h2
  rw [cp] at h3
  rw [cf] at h4
  subst h0 h1 h2 h3 h4
  rw [co]
  refine (YW w hk [] (fun i cs hi => by simp at hi) (fun v hv => by cases hv) (fun v hv => by cases hv) (vals:=[AV.au (E0 ρF) (Jo b),.agg #[.int .i64 27,.int .i64 28,.int .i64 29,.int .i64 30],.agg #[.int .i64 63,.int .i64 66,.int .i64 69],.agg #[.int .i64 72,.int .i64 75,.int .i64 78],.agg #[.int .i64 81,.int .i64 84,.int .i64 87]]) rfl).mono ?_
  rintro e w' ⟨us,F',rfl,hc,hs,hk',hu⟩
  match us,hu with
  | [u0,u1,u2],hu =>
   obtain ⟨g0,g1,g2,_⟩:=hu
   have g0:u0 = .agg #[.int .i64 493,.int .i64 495,.int .i64 497,.int .i64 499]:=g0
   have g1:u1 = .int .i64 98:=g1
   have g2:u2 = .int .i64 109:=g2
   subst g0 g1 g2
   exact ⟨rfl,hc,F',hs,hk'⟩
theorem ahF (b:MP) (H:Nat→Option Obj) (X:List Nat) (ρF:Nat→Value) (h:jY rhoC ρF):fF (oG b H X) ρF (dF (rF b)) Aj Ws:=by
 have hB:jY Lj ρF:=by rw [akX] at h; exact h.of_append
 have hA:jY YT ρF:=by
  have h':=hB
  rw [akW] at h'
  exact h'.of_append
 have e:dF (rF b) = (dF (rF b)).take 49 ++ (.call 84 [.v (Jo b),.v (.agg [.opq 20,.opq 21,.opq 22,.opq 23]),.v (.agg [.opq 60,.opq 64,.opq 68]),.v (.agg [.opq 72,.opq 76,.opq 80]),.v (.agg [.opq 84,.opq 88,.opq 92])] (.iW [.agg (jZ 4 93),.opq 97,.opq 98]) :: (dF (rF b)).drop 50):=by rw [← evF b,List.take_append_drop]
 rw [e]
 refine (kV (M:=oG b H X)).2 ⟨stA,?_,stB,abK b H X ρF hB,?_⟩
 · obtain ⟨ρ',ps',s',h1,_,_,h4⟩:=lM (b:=b) (G:=H) (X:=X) 5000 (Bq b)
   have q:=Option.some.inj h1
   have q1:ρ' = YT:=congrArg Prod.fst q
   have q2:ps' = List.replicate 68 ⟨b.a,0,none⟩:=congrArg (fun q => q.2.1) q
   have q3:s' = stA:=congrArg (fun q => q.2.2) q
   subst q1 q2 q3
   exact h4 ρF (fun p hp => (List.mem_replicate.1 hp).2) hA
 · obtain ⟨ρ',ps',s',h1,_,_,h4⟩:=lM (b:=b) (G:=H) (X:=X) 5000 (akV b)
   obtain ⟨_,_,_,_,_,_,_,q1,q2,q3⟩:=Fe h1
   subst q1 q2 q3
   exact h4 ρF (fun p hp => (List.mem_replicate.1 hp).2) h
theorem akY:vg cxF:=fun t n g h a w => abz t n g h a w
theorem abL {b:MP} (w:World) {F:List Nat} (hk:KR w b Aj F) (ss:List Value)
 (hss:∀ (i:Nat) cs,([jZ 20 0]:List (List AV))[i]? = some cs→∃ v,ss[i]? = some v∧Sl w v (aA (dL (([0,1,2,3,4,5,6,7,8,9,10,11,12,13,14,15,16,17,18,19,27,28,29,30,31,32,33]:List Nat).map gG)) cs)) (hsF:∀ v∈ss,∀ k,dK v = some k→k∉F) (h1:∀ v∈ss,v.oneCell' = true) {vals:List Value} (hvs:aA (E0 (ρS (([0,1,2,3,4,5,6,7,8,9,10,11,12,13,14,15,16,17,18,19,27,28,29,30,31,32,33]:List Nat).map gG) ss)) [Jo b,.lit (.int .i64 0),.vw 1000000 0 20,.agg (jZ 7 20)] = vals) :
 Calls Tryz.prog 47 vals.toArray w fun e w' => ∃ us F',e = .returned (RZ true us)∧ah w w' F∧Sub F' F w∧KR w' b (wQ b) F'∧dQ F' w' us ([KE.arr yu,KE.sli bD].map KE.ca):=by
 obtain ⟨ρ',ps',s',hend,_,_,_⟩:=lM (b:=b) (G:=fun _ => none) (X:=[]) 5000 (akV b)
 obtain ⟨v,g,δ,xs,hr,he,hx,q1,_,_⟩:=Fe hend
 subst q1
 have hd:dF (rF b) = δ:=by rw [hr]; rfl
 have hr':g_ cxF 5000 47 [Jo b,.lit (.int .i64 0),.vw 1000000 0 20,.agg (jZ 7 20)] ⟨.nil,0,aG [0,1,2,3,4,5,6,7,8,9,10,11,12,13,14,15,16,17,18,19,27,28,29,30,31,32,33]⟩ = some (v,g,δ):=hr
 refine CV (cx:=cxF) (s':=Ws) rfl (show Tryz.prog.follows .mixedOrders = true by kernel_rfl) akY rfl hr' (by kernel_rfl) aek (by decide +kernel) he hx (fun H X ρF hF => ?_) w hk ss hss hsF h1 hvs
 rw [← hd]
 exact ahF b H X ρF hF
end Go.Proofs.YtjcgiddgafjdpaaGreatDoor

/- The filter's code: what the maker's instructions come to, word by word. -/
namespace Go.Proofs.YtjcgiddgafjdpaaGreatDoor
open Go Go.RowKit Go.Proofs.YtjcgiddgafjdpaaGreatDoor.Ab Go.Proofs.YtjcgiddgafjdpaaGreatDoor.Xi
set_option linter.unusedVariables false
def afV (s:KS):KS:=(((((((s.set 20 502).set 21 505).set 22 508).set 23 511).set 24 514).set 25 520).set 26 517)
def Jy (b:MP):KS:=afV (wQ b)
def lQ (b:MP):KS:=(Jy b).answer bD
theorem akZ (s:KS) (c v:Nat):(s.set c v).rc = ⟨35,((1:Nat):Int),0,0,(c:Nat)⟩ :: ⟨34,((1:Nat):Int),0,0,(v:Nat)⟩ :: s.rc:=rfl
theorem ak0 (s:KS) (i:aI):(s.ins i).rc = i :: s.rc:=rfl
theorem abM (s:KS) (l:List Nat):(s.answer l).rc = s.rc:=rfl
def Jz (w:Nat):Bool:=decide (iV (fK w) = 0) && decide (encI (fK w) = (w:Int))
set_option maxRecDepth 100000
theorem anA:((wordsOf aK 2921).take 750).all Jz = true:=by kernel_rfl
theorem anB:(((wordsOf aK 2921).drop 750).take 750).all Jz = true:=by kernel_rfl
theorem anC:((((wordsOf aK 2921).drop 750).drop 750).take 750).all Jz = true:=by kernel_rfl
theorem anD:((((wordsOf aK 2921).drop 750).drop 750).drop 750).all Jz = true:=by kernel_rfl
theorem apF {p:Nat→Bool} {l:List Nat} (h0:(l.take 750).all p = true) (h1:((l.drop 750).take 750).all p = true) (h2:(((l.drop 750).drop 750).take 750).all p = true) (h3:(((l.drop 750).drop 750).drop 750).all p = true):l.all p = true:=by
 rw [← List.take_append_drop 750 l,List.all_append,h0,← List.take_append_drop 750 (l.drop 750),List.all_append,h1,← List.take_append_drop 750 ((l.drop 750).drop 750),List.all_append,h2,h3]
 rfl
theorem SI:∀ w∈wordsOf aK 2921,iV (fK w) = 0∧encI (fK w) = (w:Int):=fun w hw => by
 have h:=List.all_eq_true.1 (apF anA anB anC anD) w hw
 unfold Jz at h
 rw [Bool.and_eq_true] at h
 exact ⟨of_decide_eq_true h.1,of_decide_eq_true h.2⟩
theorem ahG:((wordsOf aK 2921).map fK).map encI = (wordsOf aK 2921).map fun n:Nat => (n:Int):=by
 rw [List.map_map]
 exact List.map_congr_left fun w hw => (SI w hw).2
theorem ahH:∀ i∈(wordsOf aK 2921).map fK,iV i = 0:=fun i hi => by
 obtain ⟨w,hw,rfl⟩:=List.mem_map.1 hi
 exact (SI w hw).1
def OT:List (Nat × Nat)→Nat→Option Nat→Option Nat
 | [],_,acc => acc
 | p :: l,k,acc => OT l k (bif Nat.beq p.1 k then some p.2 else acc)
theorem SK (k:Nat):∀ (fx:List (Nat × Nat)) (acc:Option Nat),(fx.map QY).foldl (fun acc p => if p.1 = (k:Int) then some p.2 else acc) (acc.map fun n:Nat => (n:Int)) = (OT fx k acc).map fun n:Nat => (n:Int)
 | [],_ => rfl
 | p :: l,acc => by
  rw [List.map_cons,List.foldl_cons]
  have e:(if (QY p).1 = (k:Int) then some (QY p).2 else acc.map fun n:Nat => (n:Int)) = ((bif Nat.beq p.1 k then some p.2 else acc):Option Nat).map fun n:Nat => (n:Int):=by
   cases h:Nat.beq p.1 k with
   | true =>
    have h':=beq_iff.1 h
    rw [if_pos (by show ((p.1:Nat):Int) = _; rw [h'])]
    rfl
   | false =>
    have h':p.1≠k:=fun e => by rw [beq_iff.2 e] at h; cases h
    rw [if_neg (by show ((p.1:Nat):Int)≠_; omega)]
    rfl
  rw [e]
  exact SK k l _
def YX (fx:List (Nat × Nat)):Nat→List Nat→Bool
 | _,[] => true
 | k,w :: l => (match OT fx k none with | some t => Nat.beq (eX w) 38 && Nat.beq t (nN w) | none => bif Nat.beq (eX w) 38 then false else true) && fP (Nat.add k 1) fun k' => YX fx k' l
theorem Wu {fx:List (Nat × Nat)}:∀ {l:List Nat} {k:Nat},YX fx k l = true→∀ (i w:Nat),l[i]? = some w→patched (fx.map QY) (k + i) (BX w) = fK w
 | [],_,_,i,w,h => by simp at h
 | w0 :: l,k,h,i,w,hw => by
  unfold YX at h
  rw [Bool.and_eq_true,wH] at h
  obtain ⟨h1,h2⟩:=h
  cases i with
  | zero =>
   have e:w0 = w:=by simpa using hw
   subst e
   unfold patched vV
   have hl:=SK k fx none
   rw [show ((none:Option Nat).map fun n:Nat => (n:Int)) = none from rfl] at hl
   rw [Nat.add_zero,hl]
   cases hk:OT fx k none with
   | some t =>
    rw [hk] at h1
    simp only [Bool.and_eq_true] at h1
    have e1:=beq_iff.1 h1.1
    have e2:=beq_iff.1 h1.2
    show ({ BX w0 with n:=(t:Int) }:aI) = _
    unfold BX fK
    rw [h1.1,e1,e2]
    rfl
   | none =>
    rw [hk] at h1
    simp only [] at h1
    cases hb:Nat.beq (eX w0) 38 with
    | true => rw [hb] at h1; cases h1
    | false =>
     show BX w0 = _
     unfold BX
     rw [hb]
     rfl
  | succ i =>
   have:=Wu h2 i w (by simpa using hw)
   rw [show k + (i + 1) = Nat.add k 1 + i by show _ = k + 1 + i; omega]
   exact this
def fxF:List (Nat × Nat):=[(77,44),(79,26),(345,311),(613,579),(934,900),(1396,1362),(1716,1682),(2016,1952),(2145,2111),(2269,2205),(2434,2370),(2885,2852),(2887,2834)]
theorem apG:YX fxF 0 (wordsOf aK 2921) = true:=by kernel_rfl
theorem codeF:qV (fxF.map QY) ((wordsOf aK 2921).map BX) = (wordsOf aK 2921).map fun w:Nat => (w:Int):=by
 apply List.ext_getElem?
 intro k
 unfold qV
 rw [List.getElem?_mapIdx,List.getElem?_map,List.getElem?_map]
 cases hw:(wordsOf aK 2921)[k]? with
 | none => rfl
 | some w =>
  have:=Wu apG k w hw
  rw [Nat.zero_add] at this
  simp only [Option.map_some,this]
  rw [(SI w (List.mem_of_getElem? hw)).2]
theorem ak2:Ws.rc = (((wordsOf aK 2921).take 2906).map BX).reverse:=by unfold Ws Lh; rfl
theorem abN (b:MP):((lQ b).ins ⟨43,0,0,0,0⟩).rc.reverse = (wordsOf aK 2921).map BX:=by
 unfold lQ Jy afV wQ
 simp only [ak0,abM,akZ,List.reverse_cons,List.append_assoc,List.cons_append,List.nil_append]
 rw [ak2,List.reverse_reverse]
 conv => rhs; rw [← List.take_append_drop 2906 (wordsOf aK 2921),List.map_append]
 congr 1
theorem ahI (b:MP):DR ((lQ b).ins ⟨43,0,0,0,0⟩).rd.reverse ((lQ b).ins ⟨43,0,0,0,0⟩).ru.reverse = some fxF:=by kernel_rfl
theorem ahJ (b:MP):QZ ((lQ b).ins ⟨43,0,0,0,0⟩) = some ((wordsOf aK 2921).map fun w:Nat => (w:Int)):=by
 unfold QZ
 rw [ahI]
 have hl:((lQ b).ins ⟨43,0,0,0,0⟩).rc.length = 2921:=by rw [← List.length_reverse,abN,List.length_map,Ea]
 simp only []
 rw [hl,abN,codeF]
 rfl
end Go.Proofs.YtjcgiddgafjdpaaGreatDoor

/- The filter's image. -/
namespace Go.Proofs.YtjcgiddgafjdpaaGreatDoor
open Go Go.RowKit Go.Proofs.YtjcgiddgafjdpaaGreatDoor.Ab Go.Proofs.YtjcgiddgafjdpaaGreatDoor.Xi
set_option linter.unusedVariables false
set_option maxRecDepth 100000
theorem ak3 (b:MP):((lQ b).ins ⟨43,0,0,0,0⟩).Jk = true:=by kernel_rfl
theorem ak4 (b:MP):Nat.ble (lQ b).ru.length 100000 = true:=by kernel_rfl
theorem ak5 (b:MP):Nat.ble (wQ b).nc 700000 = true:=by kernel_rfl
theorem ak6 (b:MP):Nat.ble ((Jy b).ro.length + bD.length) 2048 = true:=by kernel_rfl
theorem ahK (b:MP):EY (lQ b) = iy:=by kernel_rfl
theorem aen (b:MP):dA (lQ b).rr.reverse = ji:=by kernel_rfl
theorem ahL (b:MP):(lQ b).ri.reverse = [0,1,2,3,4,5,6,7,8,9,10,11,12,13,14,15,16,17,18,19]:=by kernel_rfl
theorem aeo (b:MP):(lQ b).ro.reverse = bD:=by kernel_rfl
end Go.Proofs.YtjcgiddgafjdpaaGreatDoor

/- firm.keep: words that stay from run to run. -/
namespace Go.Proofs.YtjcgiddgafjdpaaGreatDoor
open Go Go.RowKit Go.Deep Go.Maps Go.Proofs.YtjcgiddgafjdpaaGreatDoor.Ab Go.Proofs.YtjcgiddgafjdpaaGreatDoor.Xi
set_option linter.unusedVariables false
attribute [local go_sem] Oper.semAt_some
def kS:Nat→KS
 | 0 => MN.given 20
 | 1 => (MN.given 20).stays 1073741824
 | j + 2 => (kS (j + 1)).stays 0
theorem JA:∀ j,j < 7→(kS j).can 1 = true:=fun j hj => by
 rcases (by omega:j = 0∨j = 1∨j = 2∨j = 3∨j = 4∨j = 5∨j = 6) with rfl | rfl | rfl | rfl | rfl | rfl | rfl <;> kernel_rfl
theorem Fg:∀ j,j≤7→(kS j).used = 20 + j:=fun j hj => by
 rcases (by omega:j = 0∨j = 1∨j = 2∨j = 3∨j = 4∨j = 5∨j = 6∨j = 7) with rfl | rfl | rfl | rfl | rfl | rfl | rfl | rfl <;> kernel_rfl
theorem ahN (j:Nat):(kS j).stays (if j = 0 then 1073741824 else 0) = kS (j + 1):=by
 rcases j with _ | j
 · rfl
 · rfl
def bZ (j:Nat):List Value:=(List.range 7).map fun i => .int .i64 (if i < j then ((20 + i:Nat):Int) else 0)
theorem abO (j:Nat):(bZ j).length = 7:=by simp [bZ]
theorem uS:∀ j,j < 7→(bZ j).set j (.int .i64 ((20 + j:Nat):Int)) = bZ (j + 1):=fun j hj => by
 match j,hj with
 | 0,_ => rfl
 | 1,_ => rfl
 | 2,_ => rfl
 | 3,_ => rfl
 | 4,_ => rfl
 | 5,_ => rfl
 | 6,_ => rfl
set_option maxRecDepth 100000 in
set_option maxHeartbeats 2000000 in
theorem U1 {w:World} {b:MP} {F:List Nat} (hQ:8≤w.heap.size) (h:KR w b (MN.given 20) F) :
 Calls Tryz.prog 43 #[.pointer (some ⟨b.a,0,none⟩)] w (gu (.agg (bZ 7).toArray) SH b F w):=by
 have hs0:=(aC.new w 94 (bZ 0)).alloc (.cells (bZ 0).toArray 94)
 have hs1:=aC.new (w.alloc (.cells (bZ 0).toArray 94)) 94 (bZ 0)
 have hz:(w.alloc (.cells (bZ 0).toArray 94)).heap.size = w.heap.size + 1:=size_alloc _ _
 rw [hz] at hs1
 have hc0:ah w ((w.alloc (.cells (bZ 0).toArray 94)).alloc (.cells (bZ 0).toArray 94)) []:=((ah.refl w []).alloc _).alloc _
 have hk0:=h.bK hc0
 have he:bZ 0 = [.int .i64 0,.int .i64 0,.int .i64 0,.int .i64 0,.int .i64 0,.int .i64 0,.int .i64 0]:=rfl
 have hq0:8≤w.heap.size:=hQ
 have vJ:=hide (show ∀ k∈F,k < w.heap.size from fun k hk => h.lt k hk)
 rw [he] at hs0 hs1 hc0 hk0 hz
 have H0:=hide hs0
 have H1:=hide hs1
 have kF:=hide hc0
 have HK0:=hide hk0
 have HQ:=hide hq0
 clear hq0 hQ h hs0 hs1 hc0 hk0 he
 go_enter Tryz.func43,Tryz.ntmps43
 go_wp2_with fail
 generalize hM:w.heap.size = M at *
 have Nk:=hide hM
 generalize hW:(w.alloc (.cells #[.int .i64 0,.int .i64 0,.int .i64 0,.int .i64 0,.int .i64 0,.int .i64 0,.int .i64 0] 94)).alloc (.cells #[.int .i64 0,.int .i64 0,.int .i64 0,.int .i64 0,.int .i64 0,.int .i64 0,.int .i64 0] 94) = W0 at *
 have hzW:W0.heap.size = M + 2:=by rw [← hW,size_alloc,hz]
 have vO:=hide (show ∀ k,M≤k→k < M + 2→∀ F',Sub F' F W0→k∉F' from fun k h1 h2 F' hs hm => by
  rcases hs k hm with h | h
  · have:=vJ.out k h; omega
  · omega)
 clear hW hzW hz
 go_loopw [4,5,8] (fun _ _ i wr => ∃ j:Nat,j≤4∧i = .int .i64 j∧Hid (ah W0 wr ((M + 1) :: F))∧Hid (∃ F',Sub F' F W0∧KR wr b (kS j) F')∧Hid (aC wr (M + 1) 94 (bZ j))∧Hid (aC wr M 94 (bZ 0))) (fun _ _ i _ => 4 - (intOf i).toNat)
 case atStart => exact ⟨0,Nat.zero_le _,rfl,hide (ah.refl _ _),hide ⟨F,Sub.refl _ _,HK0.out⟩,H1,H0⟩
 case round =>
  clear HK0 H0 H1
  obtain ⟨j,hj,rfl,HC,HK,HB,HR⟩:=hrel
  by_cases hlt:j < 4
  · obtain ⟨F1,hs1,hk1⟩:=HK.out
    have hst:=uy hk1 (if j = 0 then 1073741824 else 0) (by split <;> (unfold aB; omega)) (JA j (by omega))
    rw [ahN,Fg j (by omega)] at hst
    obtain ⟨y,hy⟩:∃ y,(bZ j)[j]? = some y:=⟨(bZ j)[j]'(by rw [abO]; omega),by simp⟩
    have dH:=hide hs1
    have jw:=hide (show M + 1∉F1∧M∉F1 from ⟨fun hm => vO.out (M + 1) (by omega) (by omega) F1 hs1 hm,fun hm => vO.out M (by omega) (by omega) F1 hs1 hm⟩)
    clear hs1 hk1
    by_cases h0:j = 0
    · subst h0
      rw [if_pos rfl] at hst
      clear hj hlt
      go_wp2_with fail
      go_at_call 76
      refine hst.mono ?_
      rintro e w2 ⟨rfl,hc2,F2,hs2,hk2⟩
      have hb2:=HB.out.aj hc2 jw.out.1
      have HR2:=hide (HR.out.aj hc2 jw.out.2)
      have z:=hb2.cell' hy
      have f:=hb2.frozen 0
      have hbl:=hb2.lt
      have hset:=uS 0 (by omega)
      have qO:=hide (show aC (w2.setCell ⟨M + 1,0,none⟩ (.int .i64 ((20 + 0:Nat):Int))) (M + 1) 94 (bZ (0 + 1)) from hset ▸ hb2.bg 0 _)
      have hS:ah w2 (w2.setCell ⟨M + 1,0,none⟩ (.int .i64 ((20 + 0:Nat):Int))) [M + 1]:=(ah.refl w2 [M + 1]).setCell _ _ (.inl (List.mem_singleton.2 rfl))
      have HC2:=hide (show ah W0 (w2.setCell ⟨M + 1,0,none⟩ (.int .i64 ((20 + 0:Nat):Int))) ((M + 1) :: F) from (HC.out.trans hc2 (fun k hk => (dH.out k hk).imp_left fun h => List.mem_cons_of_mem _ h)).trans hS (fun k hk => .inl (by simp at hk; simp [hk])))
      have HS2:=hide (show Sub F2 F W0 from fun k hk => by
       rcases hs2 k hk with h | h
       · exact dH.out k h
       · exact .inr (Nat.le_trans HC.out.size h))
      have HF2:=hide (show M + 1∉F2∧M∉F2 from ⟨fun hm => vO.out (M + 1) (by omega) (by omega) F2 HS2.out hm,fun hm => vO.out M (by omega) (by omega) F2 HS2.out hm⟩)
      have lJ:=hide (hk2.aj hS (fun k hk hm => HF2.out.1 (by simp at hm; exact hm ▸ hk)) (fun k hk => by have:=HQ.out; simp at hk; omega))
      have HR3:=hide (HR2.out.aj hS (by simp))
      clear hst hc2 hs2 hk2 hb2 hset hS hy
      go_wp2
      go_roundw
      case rel => exact ⟨0 + 1,by omega,by go_num,HC2,hide ⟨F2,HS2.out,lJ.out⟩,qO,HR3⟩
      case measure => simp [intOf]
    · rw [if_neg h0] at hst
      have t0:((j:Int) == 0) = false:=by simp; omega
      clear h0
      go_wp2_with fail
      go_at_call 76
      refine hst.mono ?_
      rintro e w2 ⟨rfl,hc2,F2,hs2,hk2⟩
      have hb2:=HB.out.aj hc2 jw.out.1
      have HR2:=hide (HR.out.aj hc2 jw.out.2)
      have z:=hb2.cell' hy
      have f:=hb2.frozen j
      have hbl:=hb2.lt
      have hset:=uS j (by omega)
      have qO:=hide (show aC (w2.setCell ⟨M + 1,j,none⟩ (.int .i64 ((20 + j:Nat):Int))) (M + 1) 94 (bZ (j + 1)) from hset ▸ hb2.bg j _)
      have hS:ah w2 (w2.setCell ⟨M + 1,j,none⟩ (.int .i64 ((20 + j:Nat):Int))) [M + 1]:=(ah.refl w2 [M + 1]).setCell _ _ (.inl (List.mem_singleton.2 rfl))
      have HC2:=hide (show ah W0 (w2.setCell ⟨M + 1,j,none⟩ (.int .i64 ((20 + j:Nat):Int))) ((M + 1) :: F) from (HC.out.trans hc2 (fun k hk => (dH.out k hk).imp_left fun h => List.mem_cons_of_mem _ h)).trans hS (fun k hk => .inl (by simp at hk; simp [hk])))
      have HS2:=hide (show Sub F2 F W0 from fun k hk => by
       rcases hs2 k hk with h | h
       · exact dH.out k h
       · exact .inr (Nat.le_trans HC.out.size h))
      have HF2:=hide (show M + 1∉F2∧M∉F2 from ⟨fun hm => vO.out (M + 1) (by omega) (by omega) F2 HS2.out hm,fun hm => vO.out M (by omega) (by omega) F2 HS2.out hm⟩)
      have lJ:=hide (hk2.aj hS (fun k hk hm => HF2.out.1 (by simp at hm; exact hm ▸ hk)) (fun k hk => by have:=HQ.out; simp at hk; omega))
      have HR3:=hide (HR2.out.aj hS (by simp))
      clear hst hc2 hs2 hk2 hb2 hset hS hy
      go_wp2
      go_roundw
      case rel => exact ⟨j + 1,by omega,by go_num,HC2,hide ⟨F2,HS2.out,lJ.out⟩,qO,HR3⟩
      case measure => simp [intOf]; omega
  · obtain rfl:j = 4:=by omega
    have fE:=HC
    have HK4:=HK
    have HB4:=HB
    have HR4:=HR
    clear HC HK HB HR hlt hj
    go_wp2_with fail
    go_loopw [7,24] (fun _ i wr => ∃ j:Nat,j≤3∧i = .int .i64 j∧Hid (ah W0 wr ((M + 1) :: F))∧Hid (∃ F',Sub F' F W0∧KR wr b (kS (4 + j)) F')∧Hid (aC wr (M + 1) 94 (bZ (4 + j)))∧Hid (aC wr M 94 (bZ 0))) (fun _ i _ => 3 - (intOf i).toNat)
    case atStart => exact ⟨0,Nat.zero_le _,rfl,fE,HK4,HB4,HR4⟩
    case round =>
     clear fE HK4 HB4 HR4
     obtain ⟨j,hj,rfl,HC,HK,HB,HR⟩:=hrel
     by_cases hlt:j < 3
     · obtain ⟨F1,hs1,hk1⟩:=HK.out
       have dH:=hide hs1
       have jw:=hide (show M + 1∉F1∧M∉F1 from ⟨fun hm => vO.out (M + 1) (by omega) (by omega) F1 hs1 hm,fun hm => vO.out M (by omega) (by omega) F1 hs1 hm⟩)
       rcases (by omega:j = 0∨j = 1∨j = 2) with rfl | rfl | rfl
       · have hst:=uy hk1 0 (by unfold aB; omega) (JA 4 (by omega))
         rw [show (kS 4).stays 0 = kS 5 from rfl,Fg 4 (by omega)] at hst
         obtain ⟨y,hy⟩:∃ y,(bZ 4)[4]? = some y:=⟨_,rfl⟩
         clear hs1 hk1 hj hlt
         have hix:∀ w:World,(Instr.index 159 (.agg #[.pointer (some ⟨M + 1,4,none⟩),.pointer (some ⟨M + 1,5,none⟩),.pointer (some ⟨M + 1,6,none⟩)]) (.int .i64 0)).run Tryz.prog w = .ok (.pointer (some ⟨M + 1,4,none⟩)) w:=fun _ => by kernel_rfl
         go_wp2_with fail
         go_at_call 76
         refine hst.mono ?_
         rintro e w2 ⟨rfl,hc2,F2,hs2,hk2⟩
         have hb2:=HB.out.aj hc2 jw.out.1
         have HR2:=hide (HR.out.aj hc2 jw.out.2)
         have z:=hb2.cell' hy
         have f:=hb2.frozen 4
         have hbl:=hb2.lt
         have hset:=uS 4 (by omega)
         have qO:=hide (show aC (w2.setCell ⟨M + 1,4,none⟩ (.int .i64 ((20 + 4:Nat):Int))) (M + 1) 94 (bZ (4 + 1)) from hset ▸ hb2.bg 4 _)
         have hS:ah w2 (w2.setCell ⟨M + 1,4,none⟩ (.int .i64 ((20 + 4:Nat):Int))) [M + 1]:=(ah.refl w2 [M + 1]).setCell _ _ (.inl (List.mem_singleton.2 rfl))
         have HC2:=hide (show ah W0 (w2.setCell ⟨M + 1,4,none⟩ (.int .i64 ((20 + 4:Nat):Int))) ((M + 1) :: F) from (HC.out.trans hc2 (fun k hk => (dH.out k hk).imp_left fun h => List.mem_cons_of_mem _ h)).trans hS (fun k hk => .inl (by simp at hk; simp [hk])))
         have HS2:=hide (show Sub F2 F W0 from fun k hk => by
          rcases hs2 k hk with h | h
          · exact dH.out k h
          · exact .inr (Nat.le_trans HC.out.size h))
         have HF2:=hide (show M + 1∉F2∧M∉F2 from ⟨fun hm => vO.out (M + 1) (by omega) (by omega) F2 HS2.out hm,fun hm => vO.out M (by omega) (by omega) F2 HS2.out hm⟩)
         have lJ:=hide (hk2.aj hS (fun k hk hm => HF2.out.1 (by simp at hm; exact hm ▸ hk)) (fun k hk => by have:=HQ.out; simp at hk; omega))
         have HR3:=hide (HR2.out.aj hS (by simp))
         clear hst hc2 hs2 hk2 hb2 hset hS hy
         go_wp2
         refine ⟨⟨_,_,_,_,_,_,_,_,_,⟨0 + 1,by omega,by go_num,HC2,hide ⟨F2,HS2.out,lJ.out⟩,qO,HR3⟩,rfl⟩,?_⟩
         simp [intOf]
       · have hst:=uy hk1 0 (by unfold aB; omega) (JA 5 (by omega))
         rw [show (kS 5).stays 0 = kS 6 from rfl,Fg 5 (by omega)] at hst
         obtain ⟨y,hy⟩:∃ y,(bZ 5)[5]? = some y:=⟨_,rfl⟩
         clear hs1 hk1 hj hlt
         have hix:∀ w:World,(Instr.index 159 (.agg #[.pointer (some ⟨M + 1,4,none⟩),.pointer (some ⟨M + 1,5,none⟩),.pointer (some ⟨M + 1,6,none⟩)]) (.int .i64 1)).run Tryz.prog w = .ok (.pointer (some ⟨M + 1,5,none⟩)) w:=fun _ => by kernel_rfl
         go_wp2_with fail
         go_at_call 76
         refine hst.mono ?_
         rintro e w2 ⟨rfl,hc2,F2,hs2,hk2⟩
         have hb2:=HB.out.aj hc2 jw.out.1
         have HR2:=hide (HR.out.aj hc2 jw.out.2)
         have z:=hb2.cell' hy
         have f:=hb2.frozen 5
         have hbl:=hb2.lt
         have hset:=uS 5 (by omega)
         have qO:=hide (show aC (w2.setCell ⟨M + 1,5,none⟩ (.int .i64 ((20 + 5:Nat):Int))) (M + 1) 94 (bZ (5 + 1)) from hset ▸ hb2.bg 5 _)
         have hS:ah w2 (w2.setCell ⟨M + 1,5,none⟩ (.int .i64 ((20 + 5:Nat):Int))) [M + 1]:=(ah.refl w2 [M + 1]).setCell _ _ (.inl (List.mem_singleton.2 rfl))
         have HC2:=hide (show ah W0 (w2.setCell ⟨M + 1,5,none⟩ (.int .i64 ((20 + 5:Nat):Int))) ((M + 1) :: F) from (HC.out.trans hc2 (fun k hk => (dH.out k hk).imp_left fun h => List.mem_cons_of_mem _ h)).trans hS (fun k hk => .inl (by simp at hk; simp [hk])))
         have HS2:=hide (show Sub F2 F W0 from fun k hk => by
          rcases hs2 k hk with h | h
          · exact dH.out k h
          · exact .inr (Nat.le_trans HC.out.size h))
         have HF2:=hide (show M + 1∉F2∧M∉F2 from ⟨fun hm => vO.out (M + 1) (by omega) (by omega) F2 HS2.out hm,fun hm => vO.out M (by omega) (by omega) F2 HS2.out hm⟩)
         have lJ:=hide (hk2.aj hS (fun k hk hm => HF2.out.1 (by simp at hm; exact hm ▸ hk)) (fun k hk => by have:=HQ.out; simp at hk; omega))
         have HR3:=hide (HR2.out.aj hS (by simp))
         clear hst hc2 hs2 hk2 hb2 hset hS hy
         go_wp2
         refine ⟨⟨_,_,_,_,_,_,_,_,_,⟨1 + 1,by omega,by go_num,HC2,hide ⟨F2,HS2.out,lJ.out⟩,qO,HR3⟩,rfl⟩,?_⟩
         simp [intOf]
       · have hst:=uy hk1 0 (by unfold aB; omega) (JA 6 (by omega))
         rw [show (kS 6).stays 0 = kS 7 from rfl,Fg 6 (by omega)] at hst
         obtain ⟨y,hy⟩:∃ y,(bZ 6)[6]? = some y:=⟨_,rfl⟩
         clear hs1 hk1 hj hlt
         have hix:∀ w:World,(Instr.index 159 (.agg #[.pointer (some ⟨M + 1,4,none⟩),.pointer (some ⟨M + 1,5,none⟩),.pointer (some ⟨M + 1,6,none⟩)]) (.int .i64 2)).run Tryz.prog w = .ok (.pointer (some ⟨M + 1,6,none⟩)) w:=fun _ => by kernel_rfl
         go_wp2_with fail
         go_at_call 76
         refine hst.mono ?_
         rintro e w2 ⟨rfl,hc2,F2,hs2,hk2⟩
         have hb2:=HB.out.aj hc2 jw.out.1
         have HR2:=hide (HR.out.aj hc2 jw.out.2)
         have z:=hb2.cell' hy
         have f:=hb2.frozen 6
         have hbl:=hb2.lt
         have hset:=uS 6 (by omega)
         have qO:=hide (show aC (w2.setCell ⟨M + 1,6,none⟩ (.int .i64 ((20 + 6:Nat):Int))) (M + 1) 94 (bZ (6 + 1)) from hset ▸ hb2.bg 6 _)
         have hS:ah w2 (w2.setCell ⟨M + 1,6,none⟩ (.int .i64 ((20 + 6:Nat):Int))) [M + 1]:=(ah.refl w2 [M + 1]).setCell _ _ (.inl (List.mem_singleton.2 rfl))
         have HC2:=hide (show ah W0 (w2.setCell ⟨M + 1,6,none⟩ (.int .i64 ((20 + 6:Nat):Int))) ((M + 1) :: F) from (HC.out.trans hc2 (fun k hk => (dH.out k hk).imp_left fun h => List.mem_cons_of_mem _ h)).trans hS (fun k hk => .inl (by simp at hk; simp [hk])))
         have HS2:=hide (show Sub F2 F W0 from fun k hk => by
          rcases hs2 k hk with h | h
          · exact dH.out k h
          · exact .inr (Nat.le_trans HC.out.size h))
         have HF2:=hide (show M + 1∉F2∧M∉F2 from ⟨fun hm => vO.out (M + 1) (by omega) (by omega) F2 HS2.out hm,fun hm => vO.out M (by omega) (by omega) F2 HS2.out hm⟩)
         have lJ:=hide (hk2.aj hS (fun k hk hm => HF2.out.1 (by simp at hm; exact hm ▸ hk)) (fun k hk => by have:=HQ.out; simp at hk; omega))
         have HR3:=hide (HR2.out.aj hS (by simp))
         clear hst hc2 hs2 hk2 hb2 hset hS hy
         go_wp2
         refine ⟨⟨_,_,_,_,_,_,_,_,_,⟨2 + 1,by omega,by go_num,HC2,hide ⟨F2,HS2.out,lJ.out⟩,qO,HR3⟩,rfl⟩,?_⟩
         simp [intOf]
     · obtain rfl:j = 3:=by omega
       obtain ⟨F1,hs1,hk1⟩:=HK.out
       have dH:=hide hs1
       have CQ:=hide hk1
       have jw:=hide (show M + 1∉F1∧M∉F1 from ⟨fun hm => vO.out (M + 1) (by omega) (by omega) F1 hs1 hm,fun hm => vO.out M (by omega) (by omega) F1 hs1 hm⟩)
       have hb:=HB.out
       have hr:=HR.out
       clear hs1 hk1 hj hlt
       go_wp2_with (refine wpList_load_row rfl 94 (.tmp 3) rfl (M + 1) rfl 94 (bZ 7).toArray (0,0) _ hb Tryz.underlying94 rfl (by kernel_rfl) ?_; refine wpList_store_row rfl 94 _ _ rfl M (bZ 7).toArray rfl rfl 94 _ hr (by kernel_rfl) (by rfl) (by kernel_rfl) ?_)
       have hb':aC (wr.setRow M (bZ 7).toArray) M 94 (bZ 7):=setRow_heap wr M _ _ _ _ hr
       have hc':=Ja wr M (bZ 7).toArray
       generalize wr.setRow M (bZ 7).toArray = w9 at *
       have HB9:=hide hb'
       have HC9:=hide hc'
       clear hb hr hb' hc'
       go_wp2
       refine bodyPost_ret (v:=.agg (bZ 7).toArray) (results_cell_row rfl _ _ M 94 _ (0,0) _ rfl HB9.out Tryz.underlying94 rfl (by kernel_rfl)) rfl ?_
       have hch:ah W0 w9 (M :: (M + 1) :: F):=(HC.out.more (fun k hk => .inl (List.mem_cons_of_mem _ hk))).trans HC9.out (fun k hk => .inl (by simp at hk; simp [hk]))
       refine ⟨rfl,(kF.out.more (D':=F) (by simp)).trans hch (fun k hk => ?_),F1,fun k hk => ?_,?_⟩
       · simp only [List.mem_cons] at hk
         have:=Nk.out
         rcases hk with rfl | rfl | hk
         · exact .inr (by omega)
         · exact .inr (by omega)
         · exact .inl hk
       · rcases dH.out k hk with h | h
         · exact .inl h
         · exact .inr (Nat.le_trans kF.out.size h)
       · exact CQ.out.aj HC9.out (fun k hk hm => jw.out.2 (by simp at hm; exact hm ▸ hk)) (fun k hk => by have:=HQ.out; have:=Nk.out; simp at hk; omega)
set_option maxRecDepth 100000 in
set_option maxHeartbeats 1000000 in
theorem U2 {w:World} (a b kk:Nat) (Inv:Nat→World→Prop) (hst:∀ j w w',Inv j w→ah w w' []→Inv j w')
 (hdo:∀ j,j < 7→∀ w,Inv j w→Calls Tryz.prog 45 #[.pointer (some ⟨a,j,none⟩),.pointer (some ⟨b,j,none⟩),.pointer (some ⟨kk,0,none⟩)] w fun e w' => (∃ v,e = .returned v)∧Inv (j + 1) w') (h:Inv 0 w) :
 Calls Tryz.prog 44 #[.pointer (some ⟨a,0,none⟩),.pointer (some ⟨b,0,none⟩),.func (.func 45) #[] #[.pointer (some ⟨kk,0,none⟩)]] w fun e w' => (∃ v,e = .returned v)∧Inv 7 w':=by
 have HST:=hide hst
 have nJ:=hide hdo
 have HI:=hide h
 clear hst hdo h
 go_enter Tryz.func44,Tryz.ntmps44
 go_wp2_with fail
 go_loopw [6,7] (fun _ i wr => ∃ j:Nat,j≤4∧i = .int .i64 j∧Hid (Inv j wr)) (fun _ i _ => 4 - (intOf i).toNat)
 case atStart => exact ⟨0,Nat.zero_le _,rfl,HI⟩
 case round =>
  clear HI
  obtain ⟨j,hj,rfl,HJ⟩:=hrel
  by_cases hlt:j < 4
  · have hc:=nJ.out j (by omega) wr.drew (HST.out _ _ _ HJ.out (ah.refl wr []).drew)
    go_wp2_with fail
    go_still_tail 11,(by kernel_rfl)
    change wpList _ _ _ _ _ wr.drew
    go_wp2_with fail
    go_at_call 45
    refine hc.mono ?_
    rintro e w1 ⟨⟨v,rfl⟩,hi⟩
    have HN:=hide hi
    clear hc hi
    go_wp2
    go_roundw
    case rel => exact ⟨j + 1,by omega,by go_num,HN⟩
    case measure => simp [intOf]; omega
  · obtain rfl:j = 4:=by omega
    have wrI:=HJ.out
    clear hlt hj
    have hc4:=nJ.out 4 (by omega) wr.drew (HST.out _ _ _ wrI (ah.refl wr []).drew)
    go_wp2_with fail
    go_still_tail 7,(by kernel_rfl)
    change wpList _ _ _ _ _ wr.drew
    go_wp2_with fail
    go_at_call 45
    refine hc4.mono ?_
    rintro e v4 ⟨⟨x4,rfl⟩,v4I⟩
    clear hc4
    have hc5:=nJ.out 5 (by omega) v4.drew (HST.out _ _ _ v4I (ah.refl v4 []).drew)
    go_wp2_with fail
    go_still_tail 7,(by kernel_rfl)
    change wpList _ _ _ _ _ v4.drew
    go_wp2_with fail
    go_at_call 45
    refine hc5.mono ?_
    rintro e v5 ⟨⟨x5,rfl⟩,v5I⟩
    clear hc5
    have hc6:=nJ.out 6 (by omega) v5.drew (HST.out _ _ _ v5I (ah.refl v5 []).drew)
    go_wp2_with fail
    go_still_tail 7,(by kernel_rfl)
    change wpList _ _ _ _ _ v5.drew
    go_wp2_with fail
    go_at_call 45
    refine hc6.mono ?_
    rintro e v6 ⟨⟨x6,rfl⟩,v6I⟩
    clear hc6
    have HN:=hide v6I
    clear v6I wrI v4I v5I
    go_wp2
    refine bodyPost_end (results_none rfl _ _ _) rfl ⟨⟨_,rfl⟩,HN.out⟩
set_option maxRecDepth 100000 in
set_option maxHeartbeats 1000000 in
theorem U3 {w:World} (a b kk:Nat) (Inv:Nat→World→Prop) (hst:∀ j w w',Inv j w→ah w w' []→Inv j w')
 (hdo:∀ j,j < 7→∀ w,Inv j w→Calls Tryz.prog 49 #[.pointer (some ⟨a,j,none⟩),.pointer (some ⟨b,j,none⟩),.pointer (some ⟨kk,0,none⟩)] w fun e w' => (∃ v,e = .returned v)∧Inv (j + 1) w') (h:Inv 0 w) :
 Calls Tryz.prog 44 #[.pointer (some ⟨a,0,none⟩),.pointer (some ⟨b,0,none⟩),.func (.func 49) #[] #[.pointer (some ⟨kk,0,none⟩)]] w fun e w' => (∃ v,e = .returned v)∧Inv 7 w':=by
 have HST:=hide hst
 have nJ:=hide hdo
 have HI:=hide h
 clear hst hdo h
 go_enter Tryz.func44,Tryz.ntmps44
 go_wp2_with fail
 go_loopw [6,7] (fun _ i wr => ∃ j:Nat,j≤4∧i = .int .i64 j∧Hid (Inv j wr)) (fun _ i _ => 4 - (intOf i).toNat)
 case atStart => exact ⟨0,Nat.zero_le _,rfl,HI⟩
 case round =>
  clear HI
  obtain ⟨j,hj,rfl,HJ⟩:=hrel
  by_cases hlt:j < 4
  · have hc:=nJ.out j (by omega) wr.drew (HST.out _ _ _ HJ.out (ah.refl wr []).drew)
    go_wp2_with fail
    go_still_tail 11,(by kernel_rfl)
    change wpList _ _ _ _ _ wr.drew
    go_wp2_with fail
    go_at_call 49
    refine hc.mono ?_
    rintro e w1 ⟨⟨v,rfl⟩,hi⟩
    have HN:=hide hi
    clear hc hi
    go_wp2
    go_roundw
    case rel => exact ⟨j + 1,by omega,by go_num,HN⟩
    case measure => simp [intOf]; omega
  · obtain rfl:j = 4:=by omega
    have wrI:=HJ.out
    clear hlt hj
    have hc4:=nJ.out 4 (by omega) wr.drew (HST.out _ _ _ wrI (ah.refl wr []).drew)
    go_wp2_with fail
    go_still_tail 7,(by kernel_rfl)
    change wpList _ _ _ _ _ wr.drew
    go_wp2_with fail
    go_at_call 49
    refine hc4.mono ?_
    rintro e v4 ⟨⟨x4,rfl⟩,v4I⟩
    clear hc4
    have hc5:=nJ.out 5 (by omega) v4.drew (HST.out _ _ _ v4I (ah.refl v4 []).drew)
    go_wp2_with fail
    go_still_tail 7,(by kernel_rfl)
    change wpList _ _ _ _ _ v4.drew
    go_wp2_with fail
    go_at_call 49
    refine hc5.mono ?_
    rintro e v5 ⟨⟨x5,rfl⟩,v5I⟩
    clear hc5
    have hc6:=nJ.out 6 (by omega) v5.drew (HST.out _ _ _ v5I (ah.refl v5 []).drew)
    go_wp2_with fail
    go_still_tail 7,(by kernel_rfl)
    change wpList _ _ _ _ _ v5.drew
    go_wp2_with fail
    go_at_call 49
    refine hc6.mono ?_
    rintro e v6 ⟨⟨x6,rfl⟩,v6I⟩
    clear hc6
    have HN:=hide v6I
    clear v6I wrI v4I v5I
    go_wp2
    refine bodyPost_end (results_none rfl _ _ _) rfl ⟨⟨_,rfl⟩,HN.out⟩
def Wv (a c kk j x u:Nat) (b:MP):Nat→Value
 | 0 => .pointer (some ⟨a,j,none⟩)
 | 1 => .pointer (some ⟨b.a,0,none⟩)
 | 2 => .pointer (some ⟨c,j,none⟩)
 | 3 => .pointer (some ⟨c,j,none⟩)
 | 4 => .int .i64 (x:Int)
 | 5 => .int .i64 (u:Int)
 | 6 => .pointer (some ⟨a,j,none⟩)
 | 7 => undef
 | _ => undef
def yw (w:World) (F:List Nat) (b:MP) (s:KS) (a j x u:Nat) (cs:List Value) (k:Nat) (w':World):Prop:=match k with
 | 0 => ah w w' []
 | 1 => ah w w' F∧∃ F',Sub F' F w∧KR w' b (s.cell x) F'
 | _ => ah w w' (a :: F)∧(∃ F',Sub F' F w∧KR w' b (s.cell x) F')∧aC w' a 94 (cs.set j (.int .i64 (u:Int)))
set_option maxRecDepth 100000 in
set_option maxHeartbeats 1000000 in
theorem SL {w:World} {b:MP} {s:KS} {F:List Nat} (h:KR w b s F) (a c kk j x:Nat) (cs ds:List Value) (ha:aC w a 94 cs) (hc:aC w c 94 ds) (hk:aC w kk 88 [.pointer (some ⟨b.a,0,none⟩)]) (haF:a∉F) (Nj:c∉F) (hkF:kk∉F) (hac:a≠c) (hak:a≠kk) (hQ:8≤a) (hj:j < 7) (hcl:cs.length = 7) (hx:ds[j]? = some (.int .i64 (x:Int))) (hxl:x≤2048) (hcan:s.can 1 = true) :
 Calls Tryz.prog 45 #[.pointer (some ⟨a,j,none⟩),.pointer (some ⟨c,j,none⟩),.pointer (some ⟨kk,0,none⟩)] w fun e w' => (∃ v,e = .returned v)∧ah w w' (a :: F)∧(∃ F',Sub F' F w∧KR w' b (s.cell x) F')∧aC w' a 94 (cs.set j (.int .i64 (s.used:Int))):=by
 have dW:=hide (show Tryz.prog.follows .mixedOrders = true by kernel_rfl)
 have HG:=hide (fun w1 (hw:ah w w1 []) => MW (h.bK hw) x hxl hcan)
 have MZ:=hide hc
 have HKK:=hide hk
 have HA:=hide ha
 have HX:=hide hx
 have HCL:=hide hcl
 have HN:=hide (show a∉F∧c∉F∧kk∉F from ⟨haF,Nj,hkF⟩)
 have HQ:=hide hQ
 have VX:=hide h
 clear h hc hk ha hx haF Nj hkF hcl hQ
 generalize hu:s.used = u at *
 clear hu
 go_enter Tryz.func45,Tryz.ntmps45
 go_upto_region 0 with (fail)
 refine iU dW.out _ _ (fun (_:Nat) => Wv a c kk j x u b) (fun (q:Nat) L w' => yw w F b s a j x u cs (aU L [5,7]) w') 0 (by kernel_rfl) [] (by kernel_rfl) (fun p hp γ => by simp at hp) (by kernel_rfl) ?step ?start ?fin ?ext
 case start => exact (ah.refl w []).drew
 case ext =>
  intro γ L L' w' h hw
  have e:aU L [5,7] = aU L' [5,7]:=B_ fun x hx => h x (by simp at hx; rcases hx with rfl | rfl <;> decide)
  have hw':yw w F b s a j x u cs (aU L [5,7]) w':=hw
  rw [e] at hw'
  exact hw'
 case step =>
  intro i o ho L av w1 γ hdn ak hW hL hpre K Q hK
  match i,ho with
  | 0,ho =>
   injection ho with ho; subst ho
   have b0:av.tmps.getD 0 undef = .pointer (some ⟨a,j,none⟩):=gJ ak 0 (by kernel_rfl)
   clear ak
   refine ay ?_ (hK γ w1 (fun _ _ => rfl) (by show yw w F b s a j x u cs (aU _ [5,7]) w1; rw [fA (by decide)]; exact hW)); go_simp; rfl
  | 1,ho =>
   injection ho with ho; subst ho
   have b2:av.tmps.getD 2 undef = .pointer (some ⟨kk,0,none⟩):=gJ ak 2 (by kernel_rfl)
   clear ak
   have n5:L 5 = false:=by
    cases h:L 5 with
    | false => rfl
    | true => have hx:L 1 = true:=hdn 5 _ rfl h ⟨1,.data⟩ (by simp) rfl; rw [hL] at hx; cases hx
   have hS:yw w F b s a j x u cs 0 w1:=by
    have:=hW
    simp only [aU,n5] at this
    exact this
   have hq:ah w w1 []:=hS
   have y:=(HKK.out.aj hq (by simp)).cell' (i:=0) rfl
   clear hS hq
   refine ay ?_ (hK γ w1 (fun _ _ => rfl) (by show yw w F b s a j x u cs (aU _ [5,7]) w1; rw [fA (by decide)]; exact hW)); go_simp; rfl
  | 2,ho =>
   injection ho with ho; subst ho
   have b1:av.tmps.getD 1 undef = .pointer (some ⟨c,j,none⟩):=gJ ak 1 (by kernel_rfl)
   clear ak
   refine ay ?_ (hK γ w1 (fun _ _ => rfl) (by show yw w F b s a j x u cs (aU _ [5,7]) w1; rw [fA (by decide)]; exact hW)); go_simp; rfl
  | 3,ho =>
   injection ho with ho; subst ho
   have s2:=aJ ak 7 2 (by kernel_rfl) (hpre ⟨2,.data⟩ (by simp) rfl)
   simp only [Wv] at s2
   clear ak
   refine ay ?_ (hK γ w1 (fun _ _ => rfl) (by show yw w F b s a j x u cs (aU _ [5,7]) w1; rw [fA (by decide)]; exact hW)); go_simp; rfl
  | 4,ho =>
   injection ho with ho; subst ho
   have s3:=aJ ak 8 3 (by kernel_rfl) (hpre ⟨3,.data⟩ (by simp) rfl)
   simp only [Wv] at s3
   clear ak
   have n5:L 5 = false:=by
    cases h:L 5 with
    | false => rfl
    | true => have hx:L 4 = true:=hdn 5 _ rfl h ⟨4,.data⟩ (by simp) rfl; rw [hL] at hx; cases hx
   have hS:yw w F b s a j x u cs 0 w1:=by
    have:=hW
    simp only [aU,n5] at this
    exact this
   have hq:ah w w1 []:=hS
   have y:=(MZ.out.aj hq (by simp)).cell' HX.out
   clear hS hq
   refine ay ?_ (hK γ w1 (fun _ _ => rfl) (by show yw w F b s a j x u cs (aU _ [5,7]) w1; rw [fA (by decide)]; exact hW)); go_simp; rfl
  | 5,ho =>
   injection ho with ho; subst ho
   have s1:=aJ ak 6 1 (by kernel_rfl) (hpre ⟨1,.data⟩ (by simp) rfl)
   have s4:=aJ ak 9 4 (by kernel_rfl) (hpre ⟨4,.data⟩ (by simp) rfl)
   simp only [Wv] at s1 s4
   clear ak
   have n7:L 7 = false:=by
    cases h:L 7 with
    | false => rfl
    | true => have hx:L 5 = true:=hdn 7 _ rfl h ⟨5,.data⟩ (by simp) rfl; rw [hL] at hx; cases hx
   have hS:yw w F b s a j x u cs 0 w1:=by
    have:=hW
    simp only [aU,hL] at this
    exact this
   have hq:ah w w1 []:=hS
   refine iw (f:=46) (args:=#[.pointer (some ⟨b.a,0,none⟩),.int .i64 (x:Int)]) ?_ (HG.out w1 hq) ?_
   · go_simp
   · rintro e w2 ⟨rfl,hc,F3,hs3,hk3⟩
     exact ⟨_,rfl,hK γ w2 (fun _ _ => rfl) (show yw w F b s a j x u cs (aU (fun j => if j = 5 then true else L j) [5,7]) _ from by
      rw [show aU (fun j => if j = 5 then true else L j) [5,7] = 1 by simp [aU,n7]]
      exact ⟨(hq.more (by simp)).trans hc (fun k hk => .inl hk),F3,fun k hk => (hs3 k hk).imp_right (fun h => Nat.le_trans hq.size h),hk3⟩)⟩
  | 6,ho =>
   injection ho with ho; subst ho
   have s0:=aJ ak 5 0 (by kernel_rfl) (hpre ⟨0,.data⟩ (by simp) rfl)
   simp only [Wv] at s0
   clear ak
   refine ay ?_ (hK γ w1 (fun _ _ => rfl) (by show yw w F b s a j x u cs (aU _ [5,7]) w1; rw [fA (by decide)]; exact hW)); go_simp; rfl
  | 7,ho =>
   injection ho with ho; subst ho
   have s6:=aJ ak 11 6 (by kernel_rfl) (hpre ⟨6,.data⟩ (by simp) rfl)
   have l5:=hpre ⟨5,.data⟩ (by simp) rfl
   have s5:=aJ ak 10 5 (by kernel_rfl) l5
   simp only [Wv] at s6 s5
   clear ak
   have l5:L 5 = true:=hpre ⟨5,.data⟩ (by simp) rfl
   have hS:yw w F b s a j x u cs 1 w1:=by
    have:=hW
    simp only [aU,l5,hL] at this
    exact this
   obtain ⟨hc1,F3,hs3,hk3⟩:=hS
   have hb:=HA.out.aj hc1 HN.out.1
   obtain ⟨y,hy⟩:∃ y,cs[j]? = some y:=⟨cs[j]'(by have:=HCL.out; omega),by simp⟩
   have z:=hb.cell' hy
   have f:=hb.frozen j
   have hbl:=hb.lt
   have hcs:ah w1 (w1.setCell ⟨a,j,none⟩ (.int .i64 (u:Int))) [a]:=(ah.refl w1 [a]).setCell _ _ (.inl (List.mem_singleton.2 rfl))
   have ak7:a∉F3:=fun hm => by
    rcases hs3 a hm with h | h
    · exact HN.out.1 h
    · have:=HA.out.lt; omega
   have hW2:yw w F b s a j x u cs (aU (fun j => if j = 7 then true else L j) [5,7]) (w1.setCell ⟨a,j,none⟩ (.int .i64 (u:Int))):=by
    rw [show aU (fun j => if j = 7 then true else L j) [5,7] = 2 by simp [aU,l5]]
    exact ⟨(hc1.more (fun k hk => .inl (List.mem_cons_of_mem _ hk))).trans hcs (fun k hk => .inl (by simp at hk; simp [hk])),⟨F3,hs3,hk3.aj hcs (fun k hk hm => ak7 (by simp at hm; exact hm ▸ hk)) (fun k hk => by have:=HQ.out; simp at hk; omega)⟩,hb.bg j _⟩
   clear hcs ak7 hb hy hk3 hs3 hc1
   refine G_ (w':=w1.setCell ⟨a,j,none⟩ (.int .i64 (u:Int))) ?_ (hK γ _ (fun _ _ => rfl) hW2)
   go_simp
  | _ + 8,ho => cases ho
 case fin =>
 intro γ w9 hW
 have hS:yw w F b s a j x u cs 2 w9:=hW
 obtain ⟨h1,h2,h3⟩:=hS
 have H1:=hide h1
 have H2:=hide h2
 have H3:=hide h3
 clear hW h1 h2 h3
 rw [jC,f_,iY]
 simp only [List.map_cons,List.map_nil]
 go_wp2
 refine bodyPost_end (results_none rfl _ _ _) rfl ⟨⟨_,rfl⟩,H1.out,H2.out,H3.out⟩
set_option maxRecDepth 100000 in
set_option maxHeartbeats 1000000 in
theorem SN {w:World} {b:MP} {s:KS} {F:List Nat} (h:KR w b s F) (a c kk j x y:Nat) (cs ds:List Value) (ha:aC w a 94 cs) (hc:aC w c 94 ds) (hk:aC w kk 88 [.pointer (some ⟨b.a,0,none⟩)]) (hx:cs[j]? = some (.int .i64 (x:Int))) (hy:ds[j]? = some (.int .i64 (y:Int))) (hxl:x≤2048) (hyl:y≤2048) (hn:s.nc≤799990) :
 Calls Tryz.prog 49 #[.pointer (some ⟨a,j,none⟩),.pointer (some ⟨c,j,none⟩),.pointer (some ⟨kk,0,none⟩)] w fun e w' => (∃ v,e = .returned v)∧ah w w' F∧∃ F',Sub F' F w∧KR w' b (s.set x y) F':=by
 have hm:=BI (h.bK (ah.refl w []).drew) x y hxl hyl hn
 have z1:=ha.cell' hx
 have z2:=hc.cell' hy
 have z3:=hk.cell' (i:=0) rfl
 clear h ha hc hk hx hy
 go_enter Tryz.func49,Tryz.ntmps49
 go_wp2_with fail
 go_still_tail 7,(by kernel_rfl)
 change wpList _ _ _ _ _ w.drew
 go_wp2_with fail
 go_at_call 50
 refine hm.mono ?_
 rintro e w2 ⟨rfl,hc,F3,hs3,hk3⟩
 have HC:=hide (((ah.refl w F).drew).trans hc (fun k hk => .inl hk))
 have HS:=hide hs3
 have HK:=hide hk3
 clear hm hc hs3 hk3
 go_wp2
 refine bodyPost_end (results_none rfl _ _ _) rfl ⟨⟨_,rfl⟩,HC.out,F3,HS.out,HK.out⟩
end Go.Proofs.YtjcgiddgafjdpaaGreatDoor

/- emit.Again, whatever was there first. -/
namespace Go.Proofs.YtjcgiddgafjdpaaGreatDoor
open Go Go.RowKit Go.Deep Go.Maps Go.Proofs.YtjcgiddgafjdpaaGreatDoor.Ab
set_option linter.unusedVariables false
attribute [local go_sem] Oper.semAt_some
def yA:Value→List Nat
 | .agg cs => cs.toList.filterMap Xi.dK
 | _ => []
theorem JV:∀ (aS bS:List Nat) (xs ws:List Int),xs.length≤aS.length→gK (aS ++ bS) xs ws = gK aS xs ws
 | [],bS,[],ws,_ => by cases bS <;> rfl
 | [],_,_ :: _,_,h => by simp at h
 | _ :: _,_,[],_,_ => rfl
 | a :: aS,bS,x :: xs,ws,h => JV aS bS xs (ws.set a x) (by simpa using h)
section
variable {w:World} {c:Nat} {words:List Nat} {s:CS} {ws:List Int} {F:List Nat}
set_option maxRecDepth 100000 in
set_option maxHeartbeats 4000000 in
theorem TT (h:dX w c words s ws F) (hg:qK w) {v vin:Value} {code data:List Int} {sec:List Bool} {ins outs:List Nat} {xs:List Int} (him:um w v code data sec ins outs) (mG:∀ k∈yA v,k∉F) (hin:Sl w vin (aZ xs)) (hfin:∀ k,Xi.dK vin = some k→k∉F) (hl:xs.length≤ins.length)
 (hins:∀ a∈ins,a < ws.length) (hil:ins.length≤2048) (hol:outs.length≤2048) {mem:List Wd} (hm:mem.map (·.v) = gK ins xs ws) {N:Nat} {m':Ma} (hr:Ab.Reach (Nx words) N (qN mem) m') (hst:m'.st = 1) (hwl:words.length≤60000) (hN:N≤1048000)
 {vals:List Int} (hvl:vals.length = outs.length) (hv:∀ (j a:Nat) (x:Int),outs[j]? = some a→vals[j]? = some x→(kZ m')[a]? = some x) :
 Calls Tryz.prog 22 #[.pointer (some ⟨c,0,none⟩),v,vin] w fun e w' => ∃ u F',e = .returned u∧ah w w' F∧Sub F' F w∧dX w' c words (fV m') (kZ m') F'∧w'.ownsRow w.heap.size 21 1 u outs.length (aZ vals):=by
 obtain ⟨i0,hi0,hz0,hz1,hz2⟩:=info_parts qp
 obtain ⟨vc,vd,vs,vi,vo,rfl,g1,g2,g3,g4,g5⟩:=him
 obtain ⟨Ac,cc,rfl,_⟩:=id g1
 obtain ⟨Ad,cd,rfl,_⟩:=id g2
 obtain ⟨As,cs,rfl,_⟩:=id g3
 obtain ⟨Ai,ci,rfl,hi⟩:=lK g4
 obtain ⟨Ao,co,rfl,ho⟩:=lK g5
 obtain ⟨Ax,cx,rfl,hx⟩:=lK hin
 have HFI:=hide (show ∀ b off,Ai = some ⟨b,off,none⟩→b∉F from fun b off e => mG b (by subst e; simp [yA,Xi.dK]))
 have HFO:=hide (show ∀ b off,Ao = some ⟨b,off,none⟩→b∉F from fun b off e => mG b (by subst e; simp [yA,Xi.dK]))
 have QV:=hide (show ∀ b off,Ax = some ⟨b,off,none⟩→b∉F from fun b off e => hfin b (by subst e; rfl))
 have HL:=hide hl
 simp only [uo,pW] at *
 clear hl
 have H:=hide h
 have HI:=hide hi
 have HO:=hide ho
 have HX:=hide hx
 have apU:=hide hins
 have HV:=hide hv
 have HM:=hide hm
 have HR:=hide hr
 have HQ:=hide hg.size
 clear h mG hfin hi ho hx hins hv hm hr g1 g2 g3 g4 g5 hin hg
 go_enter Tryz.func22,Tryz.ntmps22
 have hq:=aC.new w 42 [.slice Ac (iG code).length cc,.slice Ad data.length cd,.slice As (bools sec).length cs,.slice Ai ins.length ci,.slice Ao outs.length co]
 have HQI:=hide hq
 have hHF:=fun k hk => H.out.lt k hk
 have vJ:=hide hHF
 clear hq hHF
 go_wp2_with fail
 go_loopw [7,8,17] (fun _ _ i wr => ∃ j:Nat,j≤ins.length∧i = .int .i64 j∧Hid (ah w wr F)∧Hid (dX wr c words s (gK (ins.take j) (xs.take j) ws) F)∧Hid (aC wr w.heap.size 42 [.slice Ac (iG code).length cc,.slice Ad data.length cd,.slice As (bools sec).length cs,.slice Ai ins.length ci,.slice Ao outs.length co])) (fun _ _ i _ => ins.length - (intOf i).toNat)
 case atStart => exact ⟨0,Nat.zero_le _,rfl,hide ((ah.refl w F).alloc _),hide (by simp only [List.take_zero]; exact H.out.bK ((ah.refl w []).alloc _)),HQI⟩
 case round =>
  obtain ⟨j,hj,rfl,HC,HK,HB⟩:=hrel
  by_cases hlt:j < ins.length
  · obtain ⟨a,hja⟩:∃ a,ins[j]? = some a:=⟨ins[j],by simp [hlt]⟩
    by_cases hlx:j < xs.length
    · obtain ⟨x,kP⟩:∃ x,xs[j]? = some x:=⟨xs[j]'hlx,by simp⟩
      obtain ⟨bi,oi,rfl,hci,hbi⟩:=HI.out j _ (ints_at hja)
      obtain ⟨bx,ox,rfl,hcx,hbx⟩:=HX.out j _ (show (aZ xs)[j]? = some (.int .i32 x) by simp [aZ,kP])
      have ci:=HC.out.cell hci (HFI.out _ _ rfl)
      have cx':=HC.out.cell hcx (QV.out _ _ rfl)
      have hpk:=FY HK.out a x (by rw [D6]; exact apU.out a (List.mem_of_getElem? hja))
      have hset:(gK (ins.take j) (xs.take j) ws).set a x = gK (ins.take (j + 1)) (xs.take (j + 1)) ws:=by
       rw [List.take_add_one,hja,List.take_add_one,kP]
       exact (BN _ _ _ a x (by simp; omega)).symm
      rw [hset] at hpk
      clear hset hci hcx hja kP
      go_wp2_with fail
      go_at_call 25
      refine hpk.mono ?_
      rintro e w2 ⟨rfl,hc2,hk2⟩
      have HC2:=hide hc2
      have lJ:=hide hk2
      clear hc2 hk2 hpk
      go_wp2
      go_roundw
      case rel => exact ⟨j + 1,by omega,by go_num,hide (HC.out.trans HC2.out (fun k hk => .inl hk)),lJ,hide (HB.out.aj HC2.out (fun hm => by have:=vJ.out _ hm; omega))⟩
      case measure => simp [intOf]; omega
    · have hset : gK (ins.take j) (xs.take j) ws = gK (ins.take (j + 1)) (xs.take (j + 1)) ws := by
       rw [List.take_of_length_le (show xs.length≤j by omega),List.take_of_length_le (show xs.length≤j + 1 by omega),List.take_add_one]
       exact (JV _ _ xs ws (by simp; omega)).symm
      obtain ⟨bi,oi,rfl,hci,hbi⟩:=HI.out j _ (ints_at hja)
      have ci:=HC.out.cell hci (HFI.out _ _ rfl)
      have HK':=hide (hset ▸ HK.out)
      clear hset hci hja
      go_wp2
      go_roundw
      case rel => exact ⟨j + 1,by omega,by go_num,HC,HK',HB⟩
      case measure => simp [intOf]; omega
  · have hjl:j = ins.length:=by omega
    subst hjl
    rw [List.take_length,List.take_of_length_le HL.out] at HK
    have hbg:=DV HK.out
    have cZ:=HC
    have HB1:=HB
    go_wp2_with fail
    go_at_call 26
    refine hbg.mono ?_
    rintro e w2 ⟨rfl,hc2,F2,hs2,hk2⟩
    have hc12:ah w w2 F:=HC.out.trans hc2 (fun k hk => .inl hk)
    have hb2:=HB.out.aj hc2 (fun hm => by have:=vJ.out _ hm; omega)
    have ami:Sub F2 F w:=fun k hk => (hs2 k hk).imp_right (fun h => Nat.le_trans HC.out.size h)
    have hq2:w.heap.size∉F2:=o8 hs2 (fun hm => by have:=vJ.out _ hm; omega) HB.out.lt
    have hrn:=Jd hk2 (by have:=HQ.out; have:=hc12.size; omega) HM.out HR.out hst hwl hN
    have HC2:=hide hc12
    have HB2:=hide hb2
    have HS2:=hide ami
    have V6:=hide hq2
    clear hc2 hs2 hk2 hbg hc12 hb2 ami hq2
    go_wp2_with fail
    go_at_call 27
    refine hrn.mono ?_
    rintro e w3 ⟨⟨n,rfl⟩,hc3,F3,hs3,hk3⟩
    have fU:Hid (ah w w3 F):=hide (HC2.out.trans hc3 (fun k hk => HS2.out k hk))
    have HB3:=hide (HB2.out.aj hc3 V6.out)
    have DL:Hid (Sub F3 F w):=hide (fun k hk => by
     rcases hs3 k hk with h | h
     · exact HS2.out k h
     · exact .inr (Nat.le_trans HC2.out.size h))
    have yh:=hide hk3
    clear hc3 hs3 hk3 hrn
    have y4:=HB3.out.cell' (i:=4) rfl
    go_wp2_with fail
    go_loopw [9,11,12,13,41] (fun v _ _ _ i wr => ∃ j:Nat,j≤outs.length∧i = .int .i64 j∧Hid (ah w3 wr [])∧Hid (wr.ownsRow w3.heap.size 21 1 v j (aZ (vals.take j)))) (fun _ _ _ _ i _ => outs.length - (intOf i).toNat)
    case atStart => exact ⟨0,Nat.zero_le _,rfl,hide (ah.refl _ _),hide (World.ownsRow_nil _ _ _ _)⟩
    case round =>
     obtain ⟨j,hj,rfl,HR3,yS⟩:=hrel
     by_cases hlt:j < outs.length
     · obtain ⟨a,hja⟩:∃ a,outs[j]? = some a:=⟨outs[j],by simp [hlt]⟩
       obtain ⟨x,kP⟩:∃ x,vals[j]? = some x:=⟨vals[j]'(by omega),by simp⟩
       obtain ⟨bo,oo,rfl,hco,hbo⟩:=HO.out j _ (ints_at hja)
       have co':=HR3.out.cell (fU.out.cell hco (HFO.out _ _ rfl)) (by simp)
       have hld:=FZ (yh.out.bK HR3.out) a x (HV.out j a x hja kP)
       have htk:aZ (vals.take (j + 1)) = aZ (vals.take j) ++ [.int .i32 x]:=by
        rw [List.take_add_one,kP]
        simp [aZ]
       have QN:=hide htk
       obtain ⟨V,vc,rfl⟩:=aO yS.out
       have hzw:w.heap.size≤w3.heap.size:=fU.out.size
       have HZW:=hide hzw
       clear hja kP hco htk hzw
       go_wp2_with fail
       go_at_call 28
       refine hld.mono ?_
       rintro e w4 ⟨rfl,hc4⟩
       have fE:=hide (HR3.out.trans hc4 (by simp))
       have kE:=hide (aF yS.out hc4 (by simp))
       clear hc4 hld
       go_wp2_with (at_builtin; refine wpList_append_own _ rfl _ _ 38 rfl w3.heap.size 21 i0 (.int .i32 0) 1 4 Tryz.underlying38 hi0 hz0 hz1 hz2 rfl (by decide) _ j _ rfl (kE.out.alloc _) ⟨w4.heap.size,0,none⟩ 1 1 [.int .i32 x] rfl rfl ?c1 ?c2 ?c3 ?c4 ?c5 ?_)
       case c1 =>
        intro j u hj
        match j,hj with
        | 0,hj => simp at hj; subst hj; simp [Addr.add]
       case c2 => intro u hu; simp at hu; subst hu; rfl
       case c3 => unfold maxLen; omega
       case c4 => omega
       case c5 => have:=fE.out.size; have:=HZW.out; simp; omega
       intro v' w5 hown' hgrow _
       have HG:Hid (ah w3 w5 []):=hide ((fE.out.alloc _).trans (D':=(Value.slice V j vc).ownBlock.toList) (ah.dG hgrow (fun k hk => .inl (by simp [hk]))) (fun k hk => .inr (kE.out.lt k (by simpa using hk)).1))
       have uK:=hide hown'
       obtain ⟨A6,c6,hv'⟩:=aO hown'
       clear hown' hgrow
       go_wp2
       go_roundw
       case rel => exact ⟨j + 1,by omega,by go_num,HG,hide (by rw [QN.out]; exact uK.out)⟩
       case measure => simp [intOf]; omega
     · have hjl:j = outs.length:=by omega
       subst hjl
       go_wp2
       go_ret
       have ho:=yS.out
       rw [List.take_of_length_le (by omega)] at ho
       exact ⟨_,F3,rfl,fU.out.trans HR3.out (by simp),DL.out,yh.out.bK HR3.out,EZ ho fU.out.size⟩
end
end Go.Proofs.YtjcgiddgafjdpaaGreatDoor

/- emit.Run. -/
namespace Go.Proofs.YtjcgiddgafjdpaaGreatDoor
open Go Go.RowKit Go.Deep Go.Maps Go.Proofs.YtjcgiddgafjdpaaGreatDoor.Ab
set_option linter.unusedVariables false
attribute [local go_sem] Oper.semAt_some
structure Way (words:List Nat) (data:List Int) (ins outs:List Nat) (xs vals:List Int) (ks:List Mk):Prop where
 enc:(words.map fK).map encI = words.map fun n:Nat => (n:Int)
 chk:∀ i∈words.map fK,iV i = 0
 wl:words.length≤16384
 dl:data.length≤2048
 il:ins.length≤2048
 ol:outs.length≤2048
 xl:xs.length = ins.length
 arB:∀ a∈ins,a < data.length
 vl:vals.length = outs.length
 k0:0 < ks.length
 kl:ks.length≤1048576
 run:∃ mem N m',mem.map (·.v) = gK ins xs data∧Ab.Reach (Nx words) N (qN mem) m'∧m'.st = 1∧N≤1048000∧m'.ks = ks∧(∀ (j a:Nat) (x:Int),outs[j]? = some a→vals[j]? = some x→(kZ m')[a]? = some x)
section
variable {w:World} {words:List Nat} {data:List Int} {ins outs:List Nat} {xs vals:List Int} {ks:List Mk}
end
end Go.Proofs.YtjcgiddgafjdpaaGreatDoor

/- The reference's Cost: what a list of leaks comes to. -/
namespace Go.Proofs.YtjcgiddgafjdpaaGreatDoor
open Go Go.RowKit Go.Deep Go.Maps Go.Proofs.YtjcgiddgafjdpaaGreatDoor.Ab
set_option linter.unusedVariables false
attribute [local go_sem] Oper.semAt_some
theorem Ep:∀ (l:List (Int × Int × Int)) (j:Nat) (p:Int × Int × Int),l[j]? = some p→(cO l)[j * 3]? = some (.int .i64 p.1)∧(cO l)[j * 3 + 1]? = some (.int .i64 p.2.1)∧(cO l)[j * 3 + 2]? = some (.int .i64 p.2.2)
 | [],j,p,h => by simp at h
 | q :: l,0,p,h => by
  simp at h; subst h
  exact ⟨rfl,rfl,rfl⟩
 | q :: l,j + 1,p,h => by
  have:=Ep l j p (by simpa using h)
  have e:cO (q :: l) = .int .i64 q.1 :: .int .i64 q.2.1 :: .int .i64 q.2.2 :: cO l:=rfl
  rw [e,show (j + 1) * 3 = j * 3 + 1 + 1 + 1 from by omega]
  simpa using this
section
variable {w:World} {b:Nat} {v:Value} {ks:List Mk}
end
end Go.Proofs.YtjcgiddgafjdpaaGreatDoor
