/- Texts of this claim, side by side: AudP, AudF, AudT, AudN, AudU, AudQ, AudX. -/
import Derived.Test.YtbhikopphamgjaaGreatDoorDevL
import Derived.Test.YtbhikopphamgjaaGreatDoorAU23
set_option linter.unusedVariables false
set_option linter.unusedSimpArgs false
set_option maxRecDepth 100000
set_option maxHeartbeats 8000000
namespace Go.Proofs.YtbhikopphamgjaaGreatDoor
section
open Go Go.RowKit Go.Deep Go.Maps Ab Xi
theorem ac2 {w:World} {g:Nat} {t:TypeId} {cs:List Value} (h:ay w g t cs):jy w g:=⟨_,_,_,h⟩
theorem Z4 {w:World} {c:Nat} {words:List Nat} {s:CS} {ws:List Int} {F:List Nat} (h:dI w c words s ws F):∀ k∈F,jy w k:=by
 obtain ⟨b,r,cv,mv,h,rfl,_⟩:=h;intro k hk;simp only [jZ,List.mem_append,List.mem_cons,List.not_mem_nil,or_false] at hk;rcases hk with (rfl | rfl) | hk
 . exact ⟨_,_,_,h.sN.head⟩
 . exact ⟨_,_,_,h.sN.row⟩
 . obtain ⟨cs,t,h1,_⟩:=h.core.typed k hk
   exact ⟨_,_,_,h1⟩
theorem yU {w:World} {v:Value} {xs:List Value} (h:Sl w v xs) (hx:0 < xs.length) {A:Addr} {m q:Nat} (e:v = .slice (some A) m q):jy w A.block:=by
 subst e;obtain ⟨b,off,e1,hc,_⟩:=h.at_ (k:=0) (u:=xs[0]'hx) (by simp);injection e1 with e1;subst e1;exact LD hc
theorem Z5 {w:World} {v:Value} (h:uo w v):∀ k∈pV v,jy w k:=by
 obtain ⟨v1,v2,v3,v4,v5,rfl,g1,g2,g3,g4,g5⟩:=h;intro k hk;obtain ⟨u,hu,hub⟩:=List.mem_filterMap.1 hk;obtain ⟨A,m,q,e,rfl⟩:=OG hub;simp only [List.mem_cons,List.not_mem_nil,or_false] at hu;rcases hu with rfl | rfl | rfl | rfl | rfl
 . exact yU g1 (by simp only [gY,List.length_map,m_]; omega) e
 . exact yU g2 (by rw [lI,qX]; omega) e
 . exact yU g3 (by rw [show (bools iq).length = iq.length by simp [bools],show iq.length = 908 by decide +kernel]; omega) e
 . exact yU g4 (by rw [lH]; decide) e
 . exact yU g5 (by rw [lH,show bP.length = 32 by decide +kernel]; omega) e
theorem dX.cells {w:World} {d c:Nat} {x:Xi.St} {s:CS} {ran:Bool} {n:Nat} {F I:List Nat} (h:dX w d c x s ran n F I):∀ k∈d :: (F ++ I),jy w k:=fun k hk => by
 obtain ⟨a1,a2,a3,a4,a5,n1,c1,n2,c2,n3,c3,n4,c4,n5,c5,h1,h2,h3⟩:=h.ex;obtain ⟨mem,hk0,_⟩:=h.core;simp only [List.mem_cons,List.mem_append] at hk;rcases hk with rfl | hk | hk
 . exact ac2 h1
 . exact Z4 hk0 k hk
 . exact Z5 h2 k (h3 ▸ hk)
end

section
open Go Go.RowKit Go.Deep Go.Maps Ab Xi
attribute [local go_sem] Oper.semAt_some
theorem Z7 {w:World} {b b':Nat} {v v':Value} (h:w.ownsRow b 81 3 v aW.length (bZ (aW.map Bo))) (h':w.ownsRow b' 81 3 v' aW.length (bZ (aW.map Bo))) :
 Calls Tryz.prog 20 #[v,v'] w fun e w' => e = .returned (.int .i64 (-1))/\ah w w' []:=by
 have hml:=Du;generalize aW = ks at *;have h0:0 < ks.length:=by omega
 obtain ⟨A,c,rfl,hx⟩:=lD h;obtain ⟨g,rfl,hgl,hgb,hcells⟩:=hx h0;obtain ⟨A',c',rfl,hx'⟩:=lD h';obtain ⟨g',rfl,hgl',hgb',hcells'⟩:=hx' h0;have HX:=hide hcells;have HX':=hide hcells';clear h hx hcells h' hx' hcells';rw [hml];go_enter Tryz.func20,Tryz.ntmps20
 go_wp2_with fail
 go_loopw [6,13] (fun _ i wr => ∃ j:Nat,j<=22724/\i = .int .i64 j/\Hid (ah w wr [])) (fun _ i _ => 22724 - (intOf i).toNat)
 case atStart => exact ⟨0,Nat.zero_le _,rfl,hide (ah.refl w [])⟩
 case round =>
  obtain ⟨j,hj,rfl,HC⟩:=hrel;by_cases hlt:j < 22724
  . obtain ⟨k,hk⟩:∃ k,ks[j]? = some k:=⟨ks[j]'(by omega),by simp⟩
    have hm:=Fv (ks.map Bo) j (Bo k) (by simp [hk]);have c0:wr.cell? ⟨g,j * 3,none⟩ = some (.int .i64 (k.pc:Int)):=HC.out.cell (HX.out _ _ hm.1) (by simp);have c1:wr.cell? ⟨g,j * 3 + 1,none⟩ = some (.int .i64 ((k.ad:Int) - 1)):=HC.out.cell (HX.out _ _ hm.2.1) (by simp);have c2:wr.cell? ⟨g,j * 3 + 2,none⟩ = some (.int .i64 (k.co:Int)):=HC.out.cell (HX.out _ _ hm.2.2) (by simp);have d0:wr.cell? ⟨g',j * 3,none⟩ = some (.int .i64 (k.pc:Int)):=HC.out.cell (HX'.out _ _ hm.1) (by simp);have d1:wr.cell? ⟨g',j * 3 + 1,none⟩ = some (.int .i64 ((k.ad:Int) - 1)):=HC.out.cell (HX'.out _ _ hm.2.1) (by simp);have d2:wr.cell? ⟨g',j * 3 + 2,none⟩ = some (.int .i64 (k.co:Int)):=HC.out.cell (HX'.out _ _ hm.2.2) (by simp);clear hm hk;have qM:=fun (x0 x1 x2 y0 y1 y2:Int) (w:World) => amm x0 x1 x2 y0 y1 y2 w;go_wp2_with fail
    go_quiet (fail)
    go_wp2;go_roundw
    case rel => exact ⟨j + 1,by omega,by go_num,hide (HC.out.drewN _)⟩
    case measure => simp [intOf]; omega
  . have hjl:j = 22724:=by omega
    subst hjl;go_wp2;go_ret;exact ⟨rfl,HC.out⟩
theorem ac3 (w:World):Calls Tryz.prog 20 #[.slice none 0 0,.slice none 0 0] w fun e w' => e = .returned (.int .i64 (-1))/\ah w w' []:=by
 go_enter Tryz.func20,Tryz.ntmps20
 go_wp2_with fail
 go_loopw [6,13] (fun _ i wr => i = .int .i64 0/\w = wr) (fun _ i _ => 0)
 case atStart => exact ⟨rfl,rfl⟩
 case round =>
  obtain ⟨rfl,rfl⟩:=hrel;go_wp2;go_ret;exact ⟨rfl,ah.refl _ _⟩
section
variable {w:World} {d c:Nat} {x:Xi.St} {s:CS} {ran:Bool} {n:Nat} {F I:List Nat}
theorem UA (hg:iZ w) (h:dX w d c x s ran n F I) (B:Option Addr) (k m:Nat):Calls Tryz.prog 21 #[.pointer (some ⟨d,0,none⟩),.agg #[.bool false,.slice B k m]] w fun e w' => e = .returned (.slice none 0 0)/\ah w w' (d :: F)/\∃ F',Sub F' F w/\dX w' d c st0 iU false n F' I:=by
 have b0:=ay.new w 38 [.bool false,.slice B k m];have z0:=b0.cell' (i:=0) rfl;have hc:=(ah.refl w []).alloc (.cells #[.bool false,.slice B k m] 38);have hr:=Fp (hg.aj hc (by simp)) (h.bC hc);have HC:=hide hc;have HR:=hide hr;clear hr hc h hg b0;go_enter Tryz.func21,Tryz.ntmps21
 go_wp2_with fail
 go_at_call 15;refine HR.out.mono ?_;rintro e w2 ⟨rfl,hc2,F2,hs2,hd2⟩;have HD:=hide hd2;have HS:=hide hs2;have HC2:=hide (show ah w w2 (d :: F) from (HC.out.more (D':=d :: F) (by simp)).trans hc2 (fun k hk => .inl hk));clear HR hc2 hs2 hd2 z0;go_wp2;go_ret;exact ⟨rfl,HC2.out,F2,fun k hk => (HS.out k hk).imp_right (fun h => Nat.le_trans HC.out.size h),HD.out⟩
theorem Z8 (h:dX w d c x s ran n F I) {B:Option Addr} {k m:Nat} (hk:k≠20) (hl:k<=maxLen):Calls Tryz.prog 21 #[.pointer (some ⟨d,0,none⟩),.agg #[.bool true,.slice B k m]] w fun e w' => e = .returned (.slice none 0 0)/\ah w w' []:=by
 have b0:=ay.new w 38 [.bool true,.slice B k m];have z0:=b0.cell' (i:=0) rfl;have z1:=b0.cell' (i:=1) rfl;have hc:=(ah.refl w []).alloc (.cells #[.bool true,.slice B k m] 38);have hr:=OH (h.bC hc) (A:=B) (m:=m) hk hl;have hn:(ql k != 0) = true:=by unfold ql; split <;> rfl
 obtain ⟨E,hE⟩:∃ E,ql k = E:=⟨_,rfl⟩
 rw [hE] at hn hr;have HC:=hide hc;have HR:=hide hr;clear hr hc h hE b0;go_enter Tryz.func21,Tryz.ntmps21
 go_wp2_with fail
 go_at_call 14;refine HR.out.mono ?_;rintro e w2 ⟨rfl,hc2⟩;have HC2:=hide (HC.out.trans hc2 (D:=[]) (by simp));clear HR hc2 z0 z1;go_wp2;go_ret;exact ⟨rfl,HC2.out⟩
theorem VN (hg:iZ w) (h:dX w d c x s ran n F I) (hn:n < 100) {B:Option Addr} {cb:Nat} {b:List Nat} (hl:b.length = 20) (hb:∀ y∈b,y < 256) (hin:Sl w (.slice B 20 cb) (dB b)) :
 Calls Tryz.prog 21 #[.pointer (some ⟨d,0,none⟩),.agg #[.bool true,.slice B 20 cb]] w fun e w' => ∃ v F' s',e = .returned v/\ah w w' (d :: F)/\Sub F' F w/\dX w' d c (x.next b) s' true (n + 1) F' I/\w'.ownsRow w.heap.size 81 3 v aW.length (bZ (aW.map Bo)):=by
 have b0:=ay.new w 38 [.bool true,.slice B 20 cb];have z0:=b0.cell' (i:=0) rfl;have z1:=b0.cell' (i:=1) rfl;have hc:=(ah.refl w []).alloc (.cells #[.bool true,.slice B 20 cb] 38);have hr:=Ie (hg.aj hc (by simp)) (h.bC hc) hn hl hb (hin.keep hc);have HC:=hide hc;have HR:=hide hr;clear hr hc h hg b0 hin;go_enter Tryz.func21,Tryz.ntmps21
 go_wp2_with fail
 go_at_call 14;refine HR.out.mono ?_;rintro e w2 ⟨u,F2,s2,rfl,hc2,hs2,hd2,hu,_⟩;obtain ⟨Au,ku,rfl,_⟩:=id hu;have HD:=hide hd2;have HS:=hide (show Sub F2 F w from fun k hk => (hs2 k hk).imp_right (fun h => Nat.le_trans HC.out.size h));have HC2:=hide (show ah w w2 (d :: F) from (HC.out.more (D':=d :: F) (by simp)).trans hc2 (fun k hk => .inl hk));have hmk:=Us hd2;clear HR hc2 hs2 hd2 hu z0 z1;generalize (dB _).length = n9 at *;go_wp2_with fail
 go_at_call 33;refine hmk.mono ?_;rintro e w3 ⟨v3,rfl,hc3,ho3⟩;have dU:=hide (HC2.out.trans hc3 (by simp));have HD3:=hide (HD.out.bC hc3);have HO:=hide (Xw ho3 HC2.out.size);clear hmk hc3 ho3;go_wp2;go_ret;exact ⟨_,F2,s2,rfl,dU.out,HS.out,HD3.out,HO.out⟩
end
end

section
open Go Go.RowKit Go.Deep Go.Maps Ab Xi
def MV (r base:Nat) (v:Value) (w:World):Prop:=if r = 0 then v = .slice none 0 0 else w.ownsRow base 81 3 v aW.length (bZ (aW.map Bo))
theorem MV.aj {r base:Nat} {v:Value} {w w':World} {D:List Nat} (h:MV r base v w) (hc:ah w w' D) (hD:∀ k∈D,k < base):MV r base v w':=by
 unfold MV at h ⊢;split
 . rwa [if_pos ‹_›] at h
 . rw [if_neg ‹_›] at h
   refine aF h hc (fun g hg hm => ?_);rcases h.2 with ⟨rfl,h0⟩ | ⟨g',cap,cur,rfl,h1,_⟩
   . cases hg
   . injection hg with hg
     subst hg;have:=hD _ hm;simp only at this;omega
theorem afM {r b b':Nat} {v v':Value} {w:World} (h:MV r b v w) (h':MV r b' v' w):Calls Tryz.prog 20 #[v,v'] w fun e w' => e = .returned (.int .i64 (-1))/\ah w w' []:=by
 unfold MV at h h';split at h
 . rw [if_pos ‹_›] at h'
   subst h; subst h';exact ac3 w
 . rw [if_neg ‹_›] at h'
   exact Z7 h h'
def kH (w:World) (d n:Nat) (G:List Nat):Prop:=∃ c x s ran F I,dX w d c x s ran n F I/\G = d :: (F ++ I)
theorem kH.cells {w:World} {d n:Nat} {G:List Nat} (h:kH w d n G):∀ k∈G,jy w k:=by
 obtain ⟨c,x,s,ran,F,I,h,rfl⟩:=h;exact h.cells
theorem kH.low {w:World} {d n:Nat} {G:List Nat} (h:kH w d n G):∀ k∈G,k < w.heap.size:=by
 obtain ⟨c,x,s,ran,F,I,h,rfl⟩:=h;exact h.low
theorem kH.aj {w w':World} {d n:Nat} {G D:List Nat} (h:kH w d n G) (hc:ah w w' D) (hD:∀ k∈G,k∉D) (hG:∀ k∈D,11<=k):kH w' d n G:=by
 obtain ⟨c,x,s,ran,F,I,h,rfl⟩:=h;exact ⟨c,x,s,ran,F,I,h.apR hc hD hG,rfl⟩
theorem FM {w:World} (hg:iZ w) {d n:Nat} {G:List Nat} (h:kH w d n G) {dd:aP} (hn:n < 100) {B:Option Addr} {cb:Nat} (hl:dd.2.length<=maxLen) (hb:∀ y∈dd.2,y < 256) (hin:Sl w (.slice B dd.2.length cb) (dB dd.2)) :
 Calls Tryz.prog 21 #[.pointer (some ⟨d,0,none⟩),.agg #[.bool dd.1,.slice B dd.2.length cb]] w fun e w' => ∃ v G' D,e = .returned v/\ah w w' D/\(∀ k∈D,k∈G/\11<=k)/\Sub G' G w/\kH w' d (n + bV dd) G'/\MV (bV dd) w.heap.size v w':=by
 obtain ⟨c,x,s,ran,F,I,h,rfl⟩:=h;obtain ⟨f,b⟩:=dd
 cases f with
 | false =>
  refine (UA hg h B b.length cb).mono ?_;rintro e w' ⟨rfl,hc,F',hs,hd⟩;refine ⟨_,_,d :: F,rfl,hc,fun k hk => ⟨LC hk,h.Qg k hk⟩,?_,⟨c,_,_,_,F',I,hd,rfl⟩,rfl⟩;intro k hk;rcases List.mem_cons.1 hk with rfl | hk
  . exact .inl (by simp)
  . rcases List.mem_append.1 hk with hk | hk
    . exact (hs k hk).imp_left (fun h => by simp [h])
    . exact .inl (by simp [hk])
 | true =>
  by_cases h20:b.length = 20
  . have hr:bV (true,b) = 1:=by unfold bV; simp [h20]
    rw [hr];simp only [h20] at hin ⊢;refine (VN hg h hn h20 hb hin).mono ?_;rintro e w' ⟨v,F',s',rfl,hc,hs,hd,ho⟩;refine ⟨_,_,d :: F,rfl,hc,fun k hk => ⟨LC hk,h.Qg k hk⟩,?_,⟨c,_,_,_,F',I,hd,rfl⟩,ho⟩;intro k hk;rcases List.mem_cons.1 hk with rfl | hk
    . exact .inl (by simp)
    . rcases List.mem_append.1 hk with hk | hk
      . exact (hs k hk).imp_left (fun h => by simp [h])
      . exact .inl (by simp [hk])
  . have hr:bV (true,b) = 0:=by unfold bV; simp [h20]
    rw [hr];refine (Z8 h (B:=B) (m:=cb) h20 hl).mono ?_;rintro e w' ⟨rfl,hc⟩;exact ⟨_,d :: (F ++ I),[],rfl,hc,by simp,fun k hk => .inl hk,⟨c,x,s,ran,F,I,h.bC hc,rfl⟩,rfl⟩
def Two (w:World) (d1 d2 n1 n2 b:Nat) (X:List Nat):Prop:=∃ G1 G2,kH w d1 n1 G1/\kH w d2 n2 G2/\(∀ k∈G1,k∉G2/\b<=k/\k∉X)/\(∀ k∈G2,b<=k/\k∉X)/\b<=w.heap.size/\11<=b/\∀ k∈X,k < w.heap.size
def Z9 (w:World) (d1 d2 n1 n2 b:Nat) (X:List Nat) (m:Nat):Prop:=∃ G1 G2,kH w d1 n1 G1/\kH w d2 n2 G2/\(∀ k∈G1,k∉G2/\b<=k/\k∉X)/\(∀ k∈G2,b<=k/\k∉X)/\b<=w.heap.size/\11<=b/\(∀ k∈X,k < w.heap.size)/\∀ k∈G2,k < m
section
variable {w w':World} {d1 d2 n1 n2 b m:Nat} {X D:List Nat}
theorem Two.aj (h:Two w d1 d2 n1 n2 b X) (hc:ah w w' D) (hD:∀ k∈D,(k∈X\/k < b\/w.heap.size<=k\/¬ jy w k)/\11<=k):Two w' d1 d2 n1 n2 b X:=by
 obtain ⟨G1,G2,h1,h2,h3,h4,h5,h6,h7⟩:=h;refine ⟨G1,G2,h1.aj hc (fun k hk hm => ?_) (fun k hk => (hD k hk).2),h2.aj hc (fun k hk hm => ?_) (fun k hk => (hD k hk).2),h3,h4,Nat.le_trans h5 hc.size,h6,fun k hk => Nat.lt_of_lt_of_le (h7 k hk) hc.size⟩
 . have h30:=h3 k hk
   have:=h1.low k hk;have hcl:=h1.cells k hk;rcases (hD k hm).1 with h | h | h | h
   . exact h30.2.2 h
   . omega
   . omega
   . exact h hcl
 . have h30:=h4 k hk
   have:=h2.low k hk;have hcl:=h2.cells k hk;rcases (hD k hm).1 with h | h | h | h
   . exact h30.2 h
   . omega
   . omega
   . exact h hcl
theorem Two.bC (h:Two w d1 d2 n1 n2 b X) (hc:ah w w' []):Two w' d1 d2 n1 n2 b X:=h.aj hc (by simp)
theorem Two.new (h:Two w d1 d2 n1 n2 b X) (hc:ah w w' []) (Y:List Nat) (hY:∀ k∈Y,w.heap.size<=k/\k < w'.heap.size):Two w' d1 d2 n1 n2 b (Y ++ X):=by
 obtain ⟨G1,G2,h1,h2,h3,h4,h5,h6,h7⟩:=h;refine ⟨G1,G2,h1.aj hc (by simp) (by simp),h2.aj hc (by simp) (by simp),fun k hk => ⟨(h3 k hk).1,(h3 k hk).2.1,fun hm => ?_⟩,fun k hk => ⟨(h4 k hk).1,fun hm => ?_⟩,Nat.le_trans h5 hc.size,h6,fun k hk => ?_⟩
 . rcases List.mem_append.1 hm with hm | hm
   . have:=(hY k hm).1; have:=h1.low k hk; omega
   . exact (h3 k hk).2.2 hm
 . rcases List.mem_append.1 hm with hm | hm
   . have:=(hY k hm).1; have:=h2.low k hk; omega
   . exact (h4 k hk).2 hm
 . rcases List.mem_append.1 hk with hk | hk
   . exact (hY k hk).2
   . exact Nat.lt_of_lt_of_le (h7 k hk) hc.size
theorem Two.less (h:Two w d1 d2 n1 n2 b X) (Y:List Nat) (hY:∀ k∈Y,k∈X):Two w d1 d2 n1 n2 b Y:=by
 obtain ⟨G1,G2,h1,h2,h3,h4,h5,h6,h7⟩:=h;exact ⟨G1,G2,h1,h2,fun k hk => ⟨(h3 k hk).1,(h3 k hk).2.1,fun hm => (h3 k hk).2.2 (hY k hm)⟩,fun k hk => ⟨(h4 k hk).1,fun hm => (h4 k hk).2 (hY k hm)⟩,h5,h6,fun k hk => h7 k (hY k hk)⟩
theorem Two.amv (hg:iZ w) (h:Two w d1 d2 n1 n2 b X) {dd:aP} (hn:n1 < 100) {B:Option Addr} {cb:Nat} (hl:dd.2.length<=maxLen) (hb:∀ y∈dd.2,y < 256) (hin:Sl w (.slice B dd.2.length cb) (dB dd.2)) :
 Calls Tryz.prog 21 #[.pointer (some ⟨d1,0,none⟩),.agg #[.bool dd.1,.slice B dd.2.length cb]] w fun e w' => ∃ v D,e = .returned v/\ah w w' D/\(∀ k∈D,(b<=k/\k∉X/\k < w.heap.size)/\jy w k)/\Z9 w' d1 d2 (n1 + bV dd) n2 b X w.heap.size/\MV (bV dd) w.heap.size v w':=by
 obtain ⟨G1,G2,h1,h2,h3,h4,h5,h6,h7⟩:=h;refine (FM hg h1 hn hl hb hin).mono ?_;rintro e w' ⟨v,G',D,rfl,hc,hD,hs,hd,hm⟩;refine ⟨v,D,rfl,hc,fun k hk => ⟨⟨(h3 k (hD k hk).1).2.1,(h3 k (hD k hk).1).2.2,h1.low k (hD k hk).1⟩,h1.cells k (hD k hk).1⟩,⟨G',G2,hd,h2.aj hc (fun k hk hm => (h3 k (hD k hm).1).1 hk) (fun k hk => (hD k hk).2),fun k hk => ?_,h4,Nat.le_trans h5 hc.size,h6,fun k hk => Nat.lt_of_lt_of_le (h7 k hk) hc.size,h2.low⟩,hm⟩;rcases hs k hk with h | h
 . exact h3 k h
 . exact ⟨fun hm => by have:=h2.low k hm; omega,by omega,fun hm => by have:=h7 k hm; omega⟩
theorem Z9.amw (hg:iZ w) (h:Z9 w d1 d2 n1 n2 b X m) {dd:aP} (hn:n2 < 100) {B:Option Addr} {cb:Nat} (hl:dd.2.length<=maxLen) (hb:∀ y∈dd.2,y < 256) (hin:Sl w (.slice B dd.2.length cb) (dB dd.2)) :
 Calls Tryz.prog 21 #[.pointer (some ⟨d2,0,none⟩),.agg #[.bool dd.1,.slice B dd.2.length cb]] w fun e w' => ∃ v D,e = .returned v/\ah w w' D/\(∀ k∈D,(b<=k/\k∉X/\k < m)/\jy w k)/\Two w' d1 d2 n1 (n2 + bV dd) b X/\MV (bV dd) w.heap.size v w':=by
 obtain ⟨G1,G2,h1,h2,h3,h4,h5,h6,h7,h8⟩:=h;refine (FM hg h2 hn hl hb hin).mono ?_;rintro e w' ⟨v,G',D,rfl,hc,hD,hs,hd,hmv⟩;refine ⟨v,D,rfl,hc,fun k hk => ⟨⟨(h4 k (hD k hk).1).1,(h4 k (hD k hk).1).2,h8 k (hD k hk).1⟩,h2.cells k (hD k hk).1⟩,⟨G1,G',h1.aj hc (fun k hk hm => (h3 k hk).1 (hD k hm).1) (fun k hk => (hD k hk).2),hd,fun k hk => ⟨fun hm => ?_,(h3 k hk).2⟩,fun k hk => ?_,Nat.le_trans h5 hc.size,h6,fun k hk => Nat.lt_of_lt_of_le (h7 k hk) hc.size⟩,hmv⟩
 . rcases hs k hm with h | h
   . exact (h3 k hk).1 h
   . have:=h1.low k hk; omega
 . rcases hs k hk with h | h
   . exact h4 k h
   . exact ⟨by omega,fun hm => by have:=h7 k hm; omega⟩
theorem Two.cost (h:Two w d1 d2 n1 n2 b X):Calls Tryz.prog 16 #[.pointer (some ⟨d1,0,none⟩)] w fun e w' => e = .returned (.int .i64 (bG n1))/\w = w':=by
 obtain ⟨G1,G2,⟨c,x,s,ran,F,I,h1,_⟩,_⟩:=h;exact Ic h1
end
def sD (ds:List aP) (l:List Nat):Nat:=(l.map fun k => bV (ds.getD k (false,[]))).sum
theorem OJ (ds:List aP) (l:List Nat) {k:Nat} {d:aP} (h:ds[k]? = some d):sD ds (l ++ [k]) = sD ds l + bV d:=by
 unfold sD;rw [List.map_append,List.sum_append,List.map_cons,List.map_nil,List.sum_cons,List.sum_nil,Nat.add_zero,List.getD_eq_getElem?_getD,h];rfl
theorem aiF (d:aP):bV d<=1:=by
 unfold bV
 cases d.1 && decide (d.2.length = 20) <;> decide
theorem aiG (ds:List aP) (l:List Nat):sD ds l<=l.length:=by
 unfold sD
 induction l with
 | nil => exact Nat.le_refl _
 | cons a l ih => have:=aiF (ds.getD a (false,[])); simp only [List.map_cons,List.sum_cons,List.length_cons]; omega
theorem Z_ (ds:List aP):∀ k,k<=ds.length->sD ds (List.range k) = bQ (ds.take k):=fun k => by
 induction k with
 | zero => intro _; rfl
 | succ k ih =>
  intro hk;have h:=List.getElem?_eq_getElem (l:=ds) (i:=k) (by omega);rw [List.range_succ,OJ ds _ h,ih (by omega),DF h]
theorem ac4 {d e:aP} (h:bW d = bW e):bV d = bV e:=by
 obtain ⟨f,l⟩:=d;obtain ⟨f',l'⟩:=e;unfold bW at h;injection h with h1 h2;simp only at h1 h2;subst h1;unfold bV
 cases f with
 | false => rfl
 | true => simp only [if_true] at h2; simp only [h2]
end

section
open Go Go.RowKit Go.Deep Go.Maps Go.Shelf Ab Xi
attribute [local go_sem] Oper.semAt_some
def qE (s m:Bool) (f c:Int):Value:=.agg #[.bool s,.bool m,.int .i64 f,.int .i64 c]
def GZ (s m:Bool) (f c:Int):List Value:=[.bool s,.bool m,.int .i64 f,.int .i64 c]
theorem zQ {w:World} {g:Nat} {s m:Bool} {f c:Int} (h:ay w g 27 (GZ s m f c)):(loadVar 27 ⟨g,0,none⟩).run Tryz.prog w = .ok (qE s m f c) w:=by
 have z0:=h.cell' (i:=0) rfl;have z1:=h.cell' (i:=1) rfl;have z2:=h.cell' (i:=2) rfl;have z3:=h.cell' (i:=3) rfl;unfold qE;go_simp
theorem amx {w:World} {g:Nat} {t:TypeId} {x0 x1 x2 x3:Value} (h:ay w g t [x0,x1,x2,x3]) (a0 a1 a2 a3:Value):ay ((((w.setCell ⟨g,0,none⟩ a0).setCell ⟨g,1,none⟩ a1).setCell ⟨g,2,none⟩ a2).setCell ⟨g,3,none⟩ a3) g t [a0,a1,a2,a3]:=(((h.aJ 0 a0).aJ 1 a1).aJ 2 a2).aJ 3 a3
theorem UE {w0 w:World} {D:List Nat} (h:ah w0 w D) {g:Nat} (hg:g∈D\/w0.heap.size<=g) (a0 a1 a2 a3:Value):ah w0 ((((w.setCell ⟨g,0,none⟩ a0).setCell ⟨g,1,none⟩ a1).setCell ⟨g,2,none⟩ a2).setCell ⟨g,3,none⟩ a3) D:=(((h.setCell ⟨g,0,none⟩ a0 hg).setCell ⟨g,1,none⟩ a1 hg).setCell ⟨g,2,none⟩ a2 hg).setCell ⟨g,3,none⟩ a3 hg
theorem UF {w:World} {A A':Option Addr} {c c' n n':Nat} (h:1000 < n\/1000 < n') (hl:n<=maxLen) (hl':n'<=maxLen) :
 Calls Tryz.prog 10 #[.slice A n c,.slice A' n' c'] w fun e w' => e = .returned (.tuple #[qE false false 0 0,.int .i64 5])/\ah w w' []:=by
 have b0:=ay.new w 27 [.bool false,.bool false,.int .i64 0,.int .i64 0];have z0:=b0.cell' (i:=0) rfl;have z1:=b0.cell' (i:=1) rfl;have z2:=b0.cell' (i:=2) rfl;have z3:=b0.cell' (i:=3) rfl;have f0:=b0.frozen 0;have hc:=(ah.refl w []).alloc (.cells #[.bool false,.bool false,.int .i64 0,.int .i64 0] 27);unfold maxLen at hl hl';by_cases h1:1000 < n
 . go_enter Tryz.func10,Tryz.ntmps10
   go_wp2;exact bodyPost_ret (rZ rfl _ _ _ (A:=⟨w.heap.size,0,none⟩) rfl (zQ (s:=false) (m:=false) (f:=0) (c:=0) b0)) rfl ⟨rfl,hc⟩
 . have h2:1000 < n':=by omega
   go_enter Tryz.func10,Tryz.ntmps10
   go_wp2;exact bodyPost_ret (rZ rfl _ _ _ (A:=⟨w.heap.size,0,none⟩) rfl (zQ (s:=false) (m:=false) (f:=0) (c:=0) b0)) rfl ⟨rfl,hc⟩
theorem aac {w:World} {A A':Option Addr} {c c':Nat} {ds es:List aP} {vs us:Nat->Value} (h:jG w A ds vs) (h':jG w A' es us) (hl:ds.length<=1000) (hl':es.length<=1000) (hs:gJ ds es = false) :
 Calls Tryz.prog 10 #[.slice A ds.length c,.slice A' es.length c'] w fun e w' => e = .returned (.tuple #[qE false false (-1) 0,.int .i64 0])/\ah w w' []:=by
 have hc1:=(ah.refl w []).alloc (.cells #[.bool false,.bool false,.int .i64 0,.int .i64 0] 27);have hc:=hc1.alloc (.cells #[.bool false,.bool false,.int .i64 (-1),.int .i64 0] 27);have b0:=(ay.new w 27 [.bool false,.bool false,.int .i64 0,.int .i64 0]).alloc (.cells #[.bool false,.bool false,.int .i64 (-1),.int .i64 0] 27);have b1:=ay.new (w.alloc (.cells #[.bool false,.bool false,.int .i64 0,.int .i64 0] 27)) 27 [.bool false,.bool false,.int .i64 (-1),.int .i64 0];rw [size_alloc] at b1;have hsc:=lJ (c:=c) (c':=c') (h.keep hc) (h'.keep hc) (by unfold maxLen; omega) (by unfold maxLen; omega);rw [hs] at hsc;clear h h';go_enter Tryz.func10,Tryz.ntmps10
 go_wp2_with fail
 go_at_call 8;refine hsc.mono ?_;rintro e w2 ⟨rfl,hc2⟩;have B0:=b0.aj hc2 (by simp);have B1:=b1.aj hc2 (by simp);have HC:=hide (hc.trans hc2 (D:=[]) (by simp));clear hsc hc hc1 hc2 b0 b1;have y0:=B1.cell' (i:=0) rfl;have y1:=B1.cell' (i:=1) rfl;have y2:=B1.cell' (i:=2) rfl;have y3:=B1.cell' (i:=3) rfl;have x0:=B0.cell' (i:=0) rfl;have x1:=B0.cell' (i:=1) rfl;have x2:=B0.cell' (i:=2) rfl;have x3:=B0.cell' (i:=3) rfl;have f0:=B0.frozen 0;have f1:=B0.frozen 1;have f2:=B0.frozen 2;have f3:=B0.frozen 3;go_wp2;exact bodyPost_ret (rZ rfl _ _ _ (A:=⟨w.heap.size,0,none⟩) rfl (zQ (s:=false) (m:=false) (f:=-1) (c:=0) (amx B0 (.bool false) (.bool false) (.int .i64 (-1)) (.int .i64 0)))) rfl ⟨rfl,UE HC.out (.inr (Nat.le_refl _)) _ _ _ _⟩
end

section
open Go Go.RowKit Go.Deep Go.Maps Go.Shelf Ab Xi
theorem ac5 {n m:Nat} (h:bG n = bG m):n = m:=by
 unfold bG at h;have:=Int.eq_of_mul_eq_mul_right (by have:=Ib; omega) h;omega
theorem kH.inj {w:World} {d n m:Nat} {G G':List Nat} (h:kH w d n G) (h':kH w d m G'):n = m:=by
 obtain ⟨c,x,s,ran,F,I,h,_⟩:=h;obtain ⟨a1,a2,a3,a4,a5,n1,c1,n2,c2,n3,c3,n4,c4,n5,c5,h1,_⟩:=h.ex;obtain ⟨c',x',s',ran',F',I',h',_⟩:=h';obtain ⟨a1',a2',a3',a4',a5',n1',c1',n2',c2',n3',c3',n4',c4',n5',c5',h1',_⟩:=h'.ex;have z:=h1.cell' (i:=14) rfl;have z':=h1'.cell' (i:=14) rfl;refine ac5 ?_;generalize bG n = p at *;generalize bG m = q at *;rw [z] at z';injection z' with z';injection z' with _ z'
def Far (b:Nat) (X:List Nat) (w w':World):Prop:=∃ D,ah w w' D/\∀ k∈D,(b<=k/\k∉X)/\jy w k
section
variable {b B:Nat} {X K:List Nat} {w0 w w1 w2:World}
theorem Far.of (hc:ah w w1 []):Far b X w w1:=⟨[],hc,by simp⟩
theorem Far.trans (h:Far b X w w1) (h':Far b X w1 w2):Far b X w w2:=by
 obtain ⟨D,hc,hD⟩:=h;obtain ⟨D',hc',hD'⟩:=h';refine ⟨D ++ D'.filter (fun k => decide (k < w.heap.size)),(hc.more (fun k hk => .inl (by simp [hk]))).trans hc' (fun k hk => ?_),fun k hk => ?_⟩
 . by_cases hl:k < w.heap.size
   . exact .inl (by simp [hk,hl])
   . exact .inr (by omega)
 . rcases List.mem_append.1 hk with hk | hk
   . exact hD k hk
   . obtain ⟨hk,hl⟩:=List.mem_filter.1 hk
     have hl:=of_decide_eq_true hl;refine ⟨(hD' k hk).1,?_⟩;by_cases hm:k∈D
     . exact (hD k hm).2
     . obtain ⟨cs,t,fr,h1⟩:=(hD' k hk).2
       exact ⟨cs,t,fr,(hc.block k hl hm).symm.trans h1⟩
theorem Far.keeps (h:Far b X w w1):KeepsFrom B w w1:=by
 obtain ⟨D,hc,hD⟩:=h;exact yT hc (fun k hk => (hD k hk).2)
theorem Far.blk (h:Far b X w w1) {g:Nat} {t:TypeId} {cs:List Value} (hb:ay w g t cs) (hg:g < b\/g∈X):ay w1 g t cs:=by
 obtain ⟨D,hc,hD⟩:=h;refine hb.aj hc (fun hm => ?_);have:=(hD g hm).1;rcases hg with hg | hg
 . omega
 . exact this.2 hg
theorem Far.ks (h:Far b X w w1) (hK:∀ k∈K,k < b\/k∈X):KS K w w1:=by
 obtain ⟨D,hc,hD⟩:=h;refine KS.aj hc (fun k hk hm => ?_);have:=(hD k hm).1;rcases hK k hk with hg | hg
 . omega
 . exact this.2 hg
theorem Far.bC (h:Far b X w w1) (h0:ah w0 w []) (hb:w0.heap.size<=b):ah w0 w1 []:=by
 obtain ⟨D,hc,hD⟩:=h;exact h0.trans hc (fun k hk => .inr (Nat.le_trans hb (hD k hk).1.1))
end
def AuI (w:World) (s d1 d2 b:Nat) (ds:List aP) (pre:List Nat) (W:World):Prop :=
 ay W w.heap.size 27 (GZ false false 0 0)/\ay W (w.heap.size + 1) 27 (GZ false false (-1) 0)/\ay W s 34 [.pointer (some ⟨d1,0,none⟩)]/\ay W (s + 1) 34 [.pointer (some ⟨d2,0,none⟩)]/\ay W (s + 2) 3 [.int .i64 (pre.length:Int)]/\Two W d1 d2 (sD ds pre) (sD ds pre) b [s,s + 1,s + 2,s + 3,s + 4]/\ah w W []/\w.heap.size + 2<=b/\b<=s
theorem xG {B:Nat} {X:World} {row:Option Nat} (hr:∀ r,row = some r->B<=r/\∃ o:Obj,X.heap[r]? = some o/\o.isCells = false) {k:Nat} (h:jy X k):k∉row.toList:=fun hm => by
 obtain ⟨_,o,ho,hc⟩:=hr k (by simpa using hm);obtain ⟨cs,t,fr,h⟩:=h;rw [h] at ho;cases ho;simp [Obj.isCells] at hc
theorem Two.grow {w w':World} {d1 d2 n1 n2 b B:Nat} {X:List Nat} (h:Two w d1 d2 n1 n2 b X) {row:Option Nat} (hg:w.grownBy w' row) (hr:∀ r,row = some r->B<=r/\∃ o:Obj,w.heap[r]? = some o/\o.isCells = false) (hQ:11<=B):Two w' d1 d2 n1 n2 b X :=
 h.aj (ah.dh (D:=row.toList) hg (fun k hk => .inl (by simp [hk]))) (fun k hk => ⟨.inr (.inr (.inr fun hc => xG hr hc hk)),Nat.le_trans hQ (hr k (by simpa using hk)).1⟩)
theorem AuI.own {β:Type} {w:World} {s d1 d2 b B:Nat} {ds:List aP} (g:β->List Nat) (hB:w.heap.size<=B) (hQ:11<=B):OwnFrom B (fun x W => AuI w s d1 d2 b ds (g x) W):=fun x X Y row h hg hr => by
 obtain ⟨h1,h2,h3,h4,h5,h6,h7,h8⟩:=h;have hc:ah X Y row.toList:=ah.dh hg (fun k hk => .inl (by simp [hk]));exact ⟨h1.aj hc (xG hr ⟨_,_,_,h1⟩),h2.aj hc (xG hr ⟨_,_,_,h2⟩),h3.aj hc (xG hr ⟨_,_,_,h3⟩),h4.aj hc (xG hr ⟨_,_,_,h4⟩),h5.aj hc (xG hr ⟨_,_,_,h5⟩),h6.grow hg hr hQ,h7.trans hc (fun k hk => .inr (by have:=(hr k (by simpa using hk)).1; omega)),h8⟩
theorem ac7 {w W:World} {D:Nat} {s m:Bool} {f c:Int} {ts:Array Value} {R:Ending->World->Prop} (h4:ts.getD 4 undef = .pointer (some ⟨w.heap.size,0,none⟩)) (h5:ts.getD 5 undef = .int .i64 0) (hc:ah w W []) (hD:w.heap.size < D) (hb:ay W w.heap.size 27 (GZ s m f c)) (hK:W.heap[D]? = some (.deferred (some []))) (hR:∀ w',ah w w' []->R (.returned (.tuple #[qE s m f c,.int .i64 0])) w') :
 bodyPostM Fence.wide 6 Tryz.prog Tryz.f10 R .ret { tmps:=ts,defers:=[{ target:=.collected D,args:=#[] }] } W:=by
 have hp:ay (W.putObj D (.deferred none)) w.heap.size 27 (GZ s m f c):=(World.putObj_heap_other (by omega)).trans hb;refine ⟨by simp,.inl ⟨_,_,rfl,run_takeDeferred hK,?_⟩⟩;refine ⟨_,rZ rfl _ _ _ h4 (zQ hp),?_⟩;rw [h5];exact hR _ (hc.trans (ah.dh (D:=[D]) (grownBy_putObj' _ D (.deferred none)) (fun k e => by cases e; exact .inl (by simp))) (fun k hk => .inr (by simp at hk; omega)))
end

section
open Go Go.RowKit Go.Deep Go.Maps Go.Shelf Ab Xi
attribute [local go_sem] Oper.semAt_some
def vY (d1 d2:Nat) (f:Bool) (E:Option Addr) (l cE:Nat) (f':Bool) (E':Option Addr) (l' cE':Nat) (γ:Value × Value):Nat->Value
 | 0 => .pointer (some ⟨d1,0,none⟩)
 | 1 => .agg #[.bool f,.slice E l cE]
 | 2 => γ.1
 | 3 => .pointer (some ⟨d2,0,none⟩)
 | 4 => .agg #[.bool f',.slice E' l' cE']
 | 5 => γ.2
 | 6 => .int .i64 (-1)
 | 7 => .bool false
 | 8 => .bool false
 | 12 => .bool false
 | _ => undef
theorem anR (d1 d2:Nat) (f:Bool) (E:Option Addr) (l cE:Nat) (f':Bool) (E':Option Addr) (l' cE':Nat) (γ:Value × Value) (v:Value):∀ j,j∉([2]:List Nat)->vY d1 d2 f E l cE f' E' l' cE' (v,γ.2) j = vY d1 d2 f E l cE f' E' l' cE' γ j:=fun j hj => by
 match j,hj with
 | 0,_ => rfl
 | 1,_ => rfl
 | 2,hj => exact absurd (by decide) hj
 | 3,_ => rfl
 | 4,_ => rfl
 | 5,_ => rfl
 | 6,_ => rfl
 | 7,_ => rfl
 | 8,_ => rfl
 | 9,_ => rfl
 | 10,_ => rfl
 | 11,_ => rfl
 | 12,_ => rfl
 | _ + 13,_ => rfl
theorem anS (d1 d2:Nat) (f:Bool) (E:Option Addr) (l cE:Nat) (f':Bool) (E':Option Addr) (l' cE':Nat) (γ:Value × Value) (v:Value):∀ j,j∉([5]:List Nat)->vY d1 d2 f E l cE f' E' l' cE' (γ.1,v) j = vY d1 d2 f E l cE f' E' l' cE' γ j:=fun j hj => by
 match j,hj with
 | 0,_ => rfl
 | 1,_ => rfl
 | 2,_ => rfl
 | 3,_ => rfl
 | 4,_ => rfl
 | 5,hj => exact absurd (by decide) hj
 | 6,_ => rfl
 | 7,_ => rfl
 | 8,_ => rfl
 | 9,_ => rfl
 | 10,_ => rfl
 | 11,_ => rfl
 | 12,_ => rfl
 | _ + 13,_ => rfl
theorem amy (v:Nat->Value) (t0 t1 t2 t3 t4 t5 t6 t7 t8 t9 t10 t11 t12 t13 t14 t15 t16 t17 t18 t19 t20 t21 t22 t23 t24 t25 t26 t27 t28 t29 t30 t31 t32 t33 t34 t35 t36 t37 t38 t39 t40 t41 t42 t43 t44 t45 t46 t47 t48 t49 t50 t51 t52 t53 t54 t55 t56 t57 t58 t59:Value):jE v (some 34 :: some 35 :: some 36 :: some 37 :: some 38 :: some 39 :: some 40 :: some 41 :: some 42 :: some 43 :: some 44 :: some 45 :: some 46 :: []) 0 (t0 :: t1 :: t2 :: t3 :: t4 :: t5 :: t6 :: t7 :: t8 :: t9 :: t10 :: t11 :: t12 :: t13 :: t14 :: t15 :: t16 :: t17 :: t18 :: t19 :: t20 :: t21 :: t22 :: t23 :: t24 :: t25 :: t26 :: t27 :: t28 :: t29 :: t30 :: t31 :: t32 :: t33 :: t34 :: t35 :: t36 :: t37 :: t38 :: t39 :: t40 :: t41 :: t42 :: t43 :: t44 :: t45 :: t46 :: t47 :: t48 :: t49 :: t50 :: t51 :: t52 :: t53 :: t54 :: t55 :: t56 :: t57 :: t58 :: t59 :: []) = (t0 :: t1 :: t2 :: t3 :: t4 :: t5 :: t6 :: t7 :: t8 :: t9 :: t10 :: t11 :: t12 :: t13 :: t14 :: t15 :: t16 :: t17 :: t18 :: t19 :: t20 :: t21 :: t22 :: t23 :: t24 :: t25 :: t26 :: t27 :: t28 :: t29 :: t30 :: t31 :: t32 :: t33 :: v 0 :: v 1 :: v 2 :: v 3 :: v 4 :: v 5 :: v 6 :: v 7 :: v 8 :: v 9 :: v 10 :: v 11 :: v 12 :: t47 :: t48 :: t49 :: t50 :: t51 :: t52 :: t53 :: t54 :: t55 :: t56 :: t57 :: t58 :: t59 :: []):=by kernel_rfl
def Ij (g d1:Nat) (κ:Int):Nat->Value
 | 0 => .pointer (some ⟨g,2,none⟩)
 | 1 => .int .i64 (-1)
 | 2 => .bool true
 | 3 => .pointer (some ⟨d1,0,none⟩)
 | 4 => .int .i64 κ
 | 5 => .pointer (some ⟨g,0,none⟩)
 | 7 => .pointer (some ⟨g,1,none⟩)
 | 9 => .pointer (some ⟨g,3,none⟩)
 | _ => undef
theorem amA (v:Nat->Value) (t0 t1 t2 t3 t4 t5 t6 t7 t8 t9 t10 t11 t12 t13 t14 t15 t16 t17 t18 t19 t20 t21 t22 t23 t24 t25 t26 t27 t28 t29 t30 t31 t32 t33 t34 t35 t36 t37 t38 t39 t40 t41 t42 t43 t44 t45 t46 t47 t48 t49 t50 t51 t52 t53 t54 t55 t56 t57 t58 t59:Value):jE v (some 51 :: some 52 :: some 53 :: some 54 :: some 55 :: some 56 :: none :: some 57 :: none :: some 58 :: none :: []) 0 (t0 :: t1 :: t2 :: t3 :: t4 :: t5 :: t6 :: t7 :: t8 :: t9 :: t10 :: t11 :: t12 :: t13 :: t14 :: t15 :: t16 :: t17 :: t18 :: t19 :: t20 :: t21 :: t22 :: t23 :: t24 :: t25 :: t26 :: t27 :: t28 :: t29 :: t30 :: t31 :: t32 :: t33 :: t34 :: t35 :: t36 :: t37 :: t38 :: t39 :: t40 :: t41 :: t42 :: t43 :: t44 :: t45 :: t46 :: t47 :: t48 :: t49 :: t50 :: t51 :: t52 :: t53 :: t54 :: t55 :: t56 :: t57 :: t58 :: t59 :: []) = (t0 :: t1 :: t2 :: t3 :: t4 :: t5 :: t6 :: t7 :: t8 :: t9 :: t10 :: t11 :: t12 :: t13 :: t14 :: t15 :: t16 :: t17 :: t18 :: t19 :: t20 :: t21 :: t22 :: t23 :: t24 :: t25 :: t26 :: t27 :: t28 :: t29 :: t30 :: t31 :: t32 :: t33 :: t34 :: t35 :: t36 :: t37 :: t38 :: t39 :: t40 :: t41 :: t42 :: t43 :: t44 :: t45 :: t46 :: t47 :: t48 :: t49 :: t50 :: v 0 :: v 1 :: v 2 :: v 3 :: v 4 :: v 5 :: v 7 :: v 9 :: t59 :: []):=by kernel_rfl
def vZ (b:Nat) (X:List Nat) (d1 d2 n1 n2 r1 r2:Nat) (wr:World) (γ:Value × Value):Bool->Bool->World->Prop
 | false,_,w' => w' = wr.drew
 | true,false,w' => Far b X wr w'/\Z9 w' d1 d2 (n1 + r1) n2 b X wr.heap.size/\MV r1 wr.heap.size γ.1 w'
 | true,true,w' => Far b X wr w'/\Two w' d1 d2 (n1 + r1) (n2 + r2) b X/\MV r1 wr.heap.size γ.1 w'/\∃ q,MV r2 q γ.2 w'
theorem vZ.far {b:Nat} {X:List Nat} {d1 d2 n1 n2 r1 r2:Nat} {wr w':World} {γ:Value × Value}:∀ {p q:Bool},vZ b X d1 d2 n1 n2 r1 r2 wr γ p q w'->Far b X wr w'
 | false,_,h => by obtain rfl:w' = wr.drew:=h; exact .of (ah.refl wr []).drew
 | true,false,h => h.1
 | true,true,h => h.1
def yV (g:Nat) (W:World) (κ:Int) (a b c:Bool) (w':World):Prop:=ay w' g 27 (GZ a b (-1) (bif c then κ else 0))/\ah W w' [g]
theorem Js {w:World} (hg:iZ w) {A A':Option Addr} {c c':Nat} {ds es:List aP} {vs us:Nat->Value} (h:jG w A ds vs) (h':jG w A' es us) (hln:∀ d∈ds,d.2.length<=maxLen/\∀ y∈d.2,y < 256) (hln':∀ d∈es,d.2.length<=maxLen/\∀ y∈d.2,y < 256) (hl:ds.length < 100) (hs:gJ ds es = true) :
 Calls Tryz.prog 10 #[.slice A ds.length c,.slice A' es.length c'] w fun e w' => e = .returned (.tuple #[qE true true (-1) (bG (bQ ds)),.int .i64 0])/\ah w w' []:=by
 have dK:Tryz.prog.follows .mixedOrders = true:=by kernel_rfl
 have hQ0:11<=w.heap.size:=hg.size
 have hle:es.length = ds.length:=by
  have:=congrArg List.length (of_decide_eq_true hs)
  simpa using this.symm
 have HLE:=hide hle;have hl':es.length < 100:=by omega
 clear hle;have hc1:=(ah.refl w []).alloc (.cells #[.bool false,.bool false,.int .i64 0,.int .i64 0] 27);have hc:=hc1.alloc (.cells #[.bool false,.bool false,.int .i64 (-1),.int .i64 0] 27);have b0:=(ay.new w 27 [.bool false,.bool false,.int .i64 0,.int .i64 0]).alloc (.cells #[.bool false,.bool false,.int .i64 (-1),.int .i64 0] 27);have b1:=ay.new (w.alloc (.cells #[.bool false,.bool false,.int .i64 0,.int .i64 0] 27)) 27 [.bool false,.bool false,.int .i64 (-1),.int .i64 0];rw [size_alloc] at b1;have hsc:=lJ (c:=c) (c':=c') (h.keep hc) (h'.keep hc) (by unfold maxLen; omega) (by unfold maxLen; omega);rw [hs] at hsc;have H:=hide h;have H':=hide h';have HS:=hide hs;have HG:=hide hg;have OL:=hide hln;have UG:=hide hln';clear h h' hs hg hln hln';refine (callsIn_wide (n:=6)).1 ?_;refine callsIn_of_wp_marks Tryz.func10 rfl trivial ?_ rfl;simp only [Tryz.ntmps10,List.size_toArray,List.length_cons,List.length_nil,Nat.reduceAdd,Nat.reduceSub,Array.replicate_succ,Array.replicate_zero,List.push_toArray,List.append_toArray,List.nil_append,List.cons_append]
 gi_wp2_with fail
 refine ⟨trivial,?_⟩;refine (callsIn_wide.2 hsc).mono ?_;rintro e w2 ⟨rfl,hc2⟩;have B0:=hide (b0.aj hc2 (by simp));have B1:=hide (b1.aj hc2 (by simp));have HC2:=hide (hc.trans hc2 (D:=[]) (by simp));clear hsc hc hc1 hc2 b0 b1;have hnw:=Dz w2 (HG.out.aj HC2.out (by simp))
 gi_wp2_with fail
 refine ⟨trivial,?_⟩;refine (callsIn_wide.2 hnw).mono ?_;rintro e w3 ⟨d1,e1,F1,I1,rfl,hc3,hd1,hf1⟩;have dU:=hide hc3;have HD1:=hide hd1;have jg:=hide hf1;have amB:=Dz w3 ((HG.out.aj HC2.out (by simp)).aj hc3 (by simp));clear hnw hc3 hd1 hf1
 gi_wp2_with fail
 refine ⟨trivial,?_⟩;refine (callsIn_wide.2 amB).mono ?_;rintro e w4 ⟨d2,e2,F2,I2,rfl,hc4,hd2,hf2⟩;have fQ:=hide hc4;have HD2:=hide hd2;have HF2:=hide hf2;clear amB hc4 hd2 hf2
 gi_wp2_with fail
 refine ⟨trivial,?_⟩;refine (callsIn_wide.2 (Ih _ _ _ _ _ _ _)).mono ?_;rintro e w5 ⟨rfl,hw5⟩;have hs2:w.heap.size + 2<=w2.heap.size:=by have h0:=B1.out.lt; omega
 have hs3:=dU.out.size;have hs4:=fQ.out.size;have ht4:Two w4 d1 d2 0 0 w2.heap.size []:=⟨_,_,⟨e1,st0,iU,false,F1,I1,HD1.out.bC fQ.out,rfl⟩,⟨e2,st0,iU,false,F2,I2,HD2.out,rfl⟩,fun k hk => ⟨fun hm => by have h1:=HD1.out.low k hk; have h2:=HF2.out k hm; omega,jg.out k hk,by simp⟩,fun k hk => ⟨Nat.le_trans hs3 (HF2.out k hk),by simp⟩,by omega,by omega,by simp⟩
 have hc5:=(((((ah.refl w4 []).alloc (.cells #[.pointer (some ⟨d1,0,none⟩)] 34)).alloc (.cells #[.pointer (some ⟨d2,0,none⟩)] 34)).alloc (.cells #[.int .i64 0] 3)).alloc (.cells #[.slice A ds.length c] 22)).alloc (.cells #[.slice A' es.length c'] 22);have q7:=((((ay.new w4 34 [.pointer (some ⟨d1,0,none⟩)]).alloc (.cells #[.pointer (some ⟨d2,0,none⟩)] 34)).alloc (.cells #[.int .i64 0] 3)).alloc (.cells #[.slice A ds.length c] 22)).alloc (.cells #[.slice A' es.length c'] 22);have q8:=(((ay.new (w4.alloc (.cells #[.pointer (some ⟨d1,0,none⟩)] 34)) 34 [.pointer (some ⟨d2,0,none⟩)]).alloc (.cells #[.int .i64 0] 3)).alloc (.cells #[.slice A ds.length c] 22)).alloc (.cells #[.slice A' es.length c'] 22);have q9:=((ay.new ((w4.alloc (.cells #[.pointer (some ⟨d1,0,none⟩)] 34)).alloc (.cells #[.pointer (some ⟨d2,0,none⟩)] 34)) 3 [.int .i64 0]).alloc (.cells #[.slice A ds.length c] 22)).alloc (.cells #[.slice A' es.length c'] 22);have p0:=(ay.new (((w4.alloc (.cells #[.pointer (some ⟨d1,0,none⟩)] 34)).alloc (.cells #[.pointer (some ⟨d2,0,none⟩)] 34)).alloc (.cells #[.int .i64 0] 3)) 22 [.slice A ds.length c]).alloc (.cells #[.slice A' es.length c'] 22);have p1:=ay.new ((((w4.alloc (.cells #[.pointer (some ⟨d1,0,none⟩)] 34)).alloc (.cells #[.pointer (some ⟨d2,0,none⟩)] 34)).alloc (.cells #[.int .i64 0] 3)).alloc (.cells #[.slice A ds.length c] 22)) 22 [.slice A' es.length c'];have afN:w5 = ((((w4.alloc (.cells #[.pointer (some ⟨d1,0,none⟩)] 34)).alloc (.cells #[.pointer (some ⟨d2,0,none⟩)] 34)).alloc (.cells #[.int .i64 0] 3)).alloc (.cells #[.slice A ds.length c] 22)).alloc (.cells #[.slice A' es.length c'] 22):=hw5;rw [<- afN] at hc5 q7 q8 q9 p0 p1;have hs5:w5.heap.size = w4.heap.size + 5:=by rw [afN]; simp
 clear hw5 afN;simp only [size_alloc] at q7 q8 q9 p0 p1 ⊢;have dY:=hide (((HC2.out.trans dU.out (D:=[]) (by simp)).trans fQ.out (by simp)).trans hc5 (by simp));have BB0:=hide (((B0.out.aj dU.out (by simp)).aj fQ.out (by simp)).aj hc5 (by simp));have BB1:=hide (((B1.out.aj dU.out (by simp)).aj fQ.out (by simp)).aj hc5 (by simp));have ht5:=ht4.new hc5 [w4.heap.size,w4.heap.size + 1,w4.heap.size + 2,w4.heap.size + 3,w4.heap.size + 4] (by intro k hk; simp only [List.mem_cons,List.not_mem_nil,or_false] at hk; omega);have HP0:=hide p0;have cO:=hide p1;have HI:=hide (show AuI w w4.heap.size d1 d2 w2.heap.size ds [] w5 from ⟨BB0.out,BB1.out,q7,q8,q9,ht5,dY.out,hs2,by omega⟩);clear hc5 q7 q8 q9 p0 p1 ht4 ht5 BB0 BB1 B0 B1 HC2 dU fQ HD1 HD2 jg HF2;generalize hsE:w4.heap.size = s at *;generalize hbE:w2.heap.size = b at *;clear hsE
 gi_wp2_with fail
 refine wpIn_rangeFunc_ownH rfl (by decide) (gf:=32) (lb:=#[.pointer (some ⟨s + 1 + 1 + 1,0,none⟩),.pointer (some ⟨s + 1 + 1 + 1 + 1,0,none⟩)]) rfl trivial (enters_of Tryz.func32 (by kernel_rfl) rfl)
  (pairs_stops (6 - 1) (by decide) (s + 3) (s + 4) (HP0.out.cell' (i:=0) rfl) (cO.out.cell' (i:=0) rfl) (H.out.keep dY.out) (H'.out.keep dY.out) ((s + 3) :: (s + 4) :: List.range w.heap.size) (by simp) (by simp) ?kA ?kB (by unfold maxLen; omega) (by unfold maxLen; omega)) KS.trans (fun W l o o' hl h0 hc hw => KS.putObj W l o o' h0 hc) (Below.refl _ _) (fun _ => rfl)
  (fun (pre:List (Fin (min ds.length es.length))) W => AuI w s d1 d2 b ds (pre.map (·.val)) W)
  (fun _ _ _ => False)
  (AuI.own (fun (pre:List (Fin (min ds.length es.length))) => pre.map (·.val)) (by omega) (by omega))
  (fun _ _ _ _ _ hs _ _ => hs)
  HI.out
  (fun x a' W => ∃ B1 B2 n1 n2,s + 4 < B1/\s + 4 < B2/\B1≠B2/\Two W d1 d2 n1 n2 b (B1 :: B2 :: [s,s + 1,s + 2,s + 3,s + 4])/\ay W B1 38 [.bool (ds[x.val]'(by omega)).1,vs x.val]/\ay W B2 38 [.bool (es[x.val]'(by omega)).1,us x.val]/\a' = { tmps:=#[.slice A ds.length c,.slice A' es.length c',undef,undef,.pointer (some ⟨w.heap.size,0,none⟩),.int .i64 0,.pointer (some ⟨w.heap.size + 1,0,none⟩),.pointer (some ⟨s,0,none⟩),.pointer (some ⟨s + 1,0,none⟩),.pointer (some ⟨s + 1 + 1,0,none⟩),.pointer (some ⟨B1,0,none⟩),.pointer (some ⟨B2,0,none⟩),.slice A ds.length c,.int .i64 (ds.length:Int),.bool (decide ((1000:Int) < (ds.length:Int))),.bool (decide ((1000:Int) < (ds.length:Int))),.slice A' es.length c',.int .i64 (es.length:Int),.bool (decide ((1000:Int) < (es.length:Int))),.bool (decide ((1000:Int) < (ds.length:Int)) || decide ((1000:Int) < (es.length:Int))),undef,.agg #[.bool false,.bool false,.int .i64 (-1),.int .i64 0],.slice A ds.length c,.slice A' es.length c',.bool true,.bool false,undef,.pointer (some ⟨d1,0,none⟩),.pointer (some ⟨d2,0,none⟩),.slice A ds.length c,.slice A' es.length c',.func (.func 32) #[] #[.pointer (some ⟨s + 1 + 1 + 1,0,none⟩),.pointer (some ⟨s + 1 + 1 + 1 + 1,0,none⟩)],(.agg #[.bool (ds[x.val]'(by omega)).1,vs x.val]),(.agg #[.bool (es[x.val]'(by omega)).1,us x.val]),undef,undef,undef,undef,undef,undef,undef,undef,undef,undef,undef,undef,undef,undef,undef,undef,undef,undef,undef,undef,undef,undef,undef,undef,undef,undef],defers:=[] })
  (fun x a' _ X Y row hs hg hr => by
    obtain ⟨B1,B2,n1,n2,h1,h2,h3,h4,h5,h6,h7⟩:=hs
    exact ⟨B1,B2,n1,n2,h1,h2,h3,h4.grow hg hr (by omega),uw B1 _ (fun (_:Unit) => _) () X Y row h5 hg (fun r e => (hr r e).2),uw B2 _ (fun (_:Unit) => _) () X Y row h6 hg (fun r e => (hr r e).2),h7⟩)
  ?assign ?body ?done ?stop
 case kA =>
  rintro h0 b o rfl;obtain ⟨b',o',e,hx⟩:=H.out h0;injection e with e; injection e with e1 e2;subst e1;have:=World.block_lt_of_cell? w _ (hx 0 (ds[0]'h0) (by simp)).1;simp only at this;simp only [List.mem_cons,List.mem_range];exact .inr (.inr this)
 case kB =>
  rintro h0 b o rfl;obtain ⟨b',o',e,hx⟩:=H'.out h0;injection e with e; injection e with e1 e2;subst e1;have:=World.block_lt_of_cell? w _ (hx 0 (es[0]'h0) (by simp)).1;simp only at this;simp only [List.mem_cons,List.mem_range];exact .inr (.inr this)
 case assign =>
  rintro l pre x W K hI hK;have hxl:=x.isLt;have hxd:x.val < ds.length:=by omega
  have hxe:x.val < es.length:=by omega
  obtain ⟨bA,oA,rfl,hxA⟩:=H.out (by omega);obtain ⟨bE,oE,rfl,hxE⟩:=H'.out (by omega);obtain ⟨_,_,⟨E,cE,ev⟩,_⟩:=hxA x.val (ds[x.val]'hxd) (List.getElem?_eq_getElem hxd);obtain ⟨_,_,⟨E',cE',ev'⟩,_⟩:=hxE x.val (es[x.val]'hxe) (List.getElem?_eq_getElem hxe);obtain ⟨i1,i2,i3,i4,i5,i6,i7,i8,i9⟩:=hI
  have hlow:s + 4 < W.heap.size:=by
   obtain ⟨_,_,_,_,_,_,_,_,h7⟩:=i6;exact h7 (s + 4) (by simp)
  unfold ZY;simp only [ev,ev'] at hK ⊢;clear hxA hxE;have hK:=hide hK
  gi_wp2
  have z1:=(ay.new W 38 [.bool (ds[x.val]'hxd).1,.slice E (ds[x.val]'hxd).2.length cE]).alloc (.cells #[.bool (es[x.val]'hxe).1,.slice E' (es[x.val]'hxe).2.length cE'] 38);have z2:=ay.new (W.alloc (.cells #[.bool (ds[x.val]'hxd).1,.slice E (ds[x.val]'hxd).2.length cE] 38)) 38 [.bool (es[x.val]'hxe).1,.slice E' (es[x.val]'hxe).2.length cE'];have hcn:=((ah.refl W []).alloc (.cells #[.bool (ds[x.val]'hxd).1,.slice E (ds[x.val]'hxd).2.length cE] 38)).alloc (.cells #[.bool (es[x.val]'hxe).1,.slice E' (es[x.val]'hxe).2.length cE'] 38);simp only [size_alloc] at z2;refine hK.out _ _ (vT hcn) (KS.aj hcn (by simp)) ⟨i1.aj hcn (by simp),i2.aj hcn (by simp),i3.aj hcn (by simp),i4.aj hcn (by simp),i5.aj hcn (by simp),i6.bC hcn,i7.trans hcn (by simp),i8,i9⟩ ⟨W.heap.size,W.heap.size + 1,_,_,hlow,by omega,by omega,i6.new hcn [W.heap.size,W.heap.size + 1] (by intro k hk; simp only [List.mem_cons,List.not_mem_nil,or_false] at hk; simp only [size_alloc]; omega),z1,z2,rfl⟩
 case body =>
  rintro l pre x a' W hl0 ⟨r,hr⟩ hI ⟨B1,B2,n1,n2,h1,h2,h3,ht,x1,x2,rfl⟩ hlt;obtain ⟨i1,i2,i3,i4,i5,i6,i7,i8,i9⟩:=hI
  have hn1:n1 = sD ds (pre.map (·.val)):=by
   obtain ⟨_,_,g1,_⟩:=ht;obtain ⟨_,_,g1',_⟩:=i6;exact g1.inj g1'
  have hn2:n2 = sD ds (pre.map (·.val)):=by
   obtain ⟨_,_,_,g1,_⟩:=ht;obtain ⟨_,_,_,g1',_⟩:=i6;exact g1.inj g1'
  subst hn2;rw [hn1] at ht;clear hn1;have hxl:=x.isLt;have hxd:x.val < ds.length:=by omega
  have hxe:x.val < es.length:=by omega
  have hnb:=aiG ds (pre.map (·.val))
  rw [List.length_map] at hnb;obtain ⟨bA,oA,rfl,hxA⟩:=H.out (by omega);obtain ⟨bE,oE,rfl,hxE⟩:=H'.out (by omega);have gd:=List.getElem?_eq_getElem hxd;have ge:=List.getElem?_eq_getElem hxe;obtain ⟨_,_,⟨E,cE,ev⟩,slE⟩:=hxA x.val (ds[x.val]'hxd) gd;obtain ⟨_,_,⟨E',cE',ev'⟩,slE'⟩:=hxE x.val (es[x.val]'hxe) ge
  have hk:bW (ds[x.val]'hxd) = bW (es[x.val]'hxe):=by
   have hm:=congrArg (fun l:List (Bool × Nat) => l[x.val]?) (of_decide_eq_true HS.out);simp only [List.getElem?_map,gd,ge,Option.map_some] at hm;exact Option.some.inj hm
  have hrk:=ac4 hk;have hby:=OL.out _ (List.getElem_mem hxd);have aad:=UG.out _ (List.getElem_mem hxe);rw [ev] at x1 slE ⊢;rw [ev'] at x2 slE' ⊢;have hsn:=OJ ds (pre.map (·.val)) gd
  clear hxA hxE ev ev' hk;generalize ds[x.val]'hxd = dd at *;generalize es[x.val]'hxe = ee at *;obtain ⟨f,dl⟩:=dd;obtain ⟨f',el⟩:=ee;simp only at x1 x2 slE slE' hby aad ⊢;have HX:=hide (show dl.length<=maxLen/\(∀ y∈dl,y < 256)/\Sl w (.slice E dl.length cE) (dB dl) from ⟨hby.1,hby.2,slE⟩);have HY:=hide (show el.length<=maxLen/\(∀ y∈el,y < 256)/\Sl w (.slice E' el.length cE') (dB el) from ⟨aad.1,aad.2,slE'⟩);have hcount:sD ds ((pre ++ [x]).map (·.val)) = sD ds (pre.map (·.val)) + bV (f,dl):=by rw [List.map_append]; exact hsn
  obtain ⟨N,hN⟩:∃ N,sD ds (pre.map (·.val)) = N:=⟨_,rfl⟩
  rw [hN] at hcount ht i6 hnb;have HN:=hide (show N < 100 by omega);have HR:=hide hrk;have ER:=hide hcount;have X1:=hide x1;have X2:=hide x2;have Q7:=hide i3;have Q8:=hide i4;have Q9:=hide i5;have TW:=hide ht;have OM:=hide i7;have HGW:=hide (HG.out.aj i7 (by simp));have I1:=hide i1;have I2:=hide i2;have hlb:pre.length < 100:=by omega
  clear hcount hrk hsn gd ge hby aad slE slE' x1 x2 i1 i2 i3 i4 i5 i6 i7 hxl hxd hxe ht HI HP0 cO hN hnb hr hl0 hlt
  gi_wp2_with fail
  refine FH (F:=Fence.wide.inRound l) (fun _ => trivial) dK _ _ (fun (γ:Value × Value) => vY d1 d2 f E dl.length cE f' E' el.length cE' γ) (fun (γ:Value × Value) L w' => vZ b [B1,B2,s,s + 1,s + 2,s + 3,s + 4] d1 d2 N N (bV (f,dl)) (bV (f',el)) W γ (L 2) (L 5) w') (undef,undef) (by kernel_rfl) [(8,false)] (by kernel_rfl) (fun p hp γ => by obtain rfl:p = (8,false):=(by simpa using hp); rfl) (by kernel_rfl) ?step ?skip ?start ?fin ?ext
  case start => rfl
  case ext =>
   intro γ L L' w' h hw;have hw':vZ b [B1,B2,s,s + 1,s + 2,s + 3,s + 4] d1 d2 N N (bV (f,dl)) (bV (f',el)) W γ (L 2) (L 5) w':=hw;rw [h 2 (by decide),h 5 (by decide)] at hw';exact hw'
  case skip =>
   intro i_ o_ ho_ hw γ
   match i_,ho_,hw with
   | 0,ho,hw => injection ho with ho; subst ho; cases hw
   | 1,ho,hw => injection ho with ho; subst ho; cases hw
   | 2,ho,hw => injection ho with ho; subst ho; cases hw
   | 3,ho,hw => injection ho with ho; subst ho; cases hw
   | 4,ho,hw => injection ho with ho; subst ho; cases hw
   | 5,ho,hw => injection ho with ho; subst ho; cases hw
   | 6,ho,hw => injection ho with ho; subst ho; cases hw
   | 7,ho,hw => injection ho with ho; subst ho; cases hw
   | 8,ho,hw => injection ho with ho; subst ho; cases hw
   | 9,ho,hw => exact ⟨rfl,fun L w' h => h⟩
   | 10,ho,hw => exact ⟨rfl,fun L w' h => h⟩
   | 11,ho,hw => exact ⟨rfl,fun L w' h => h⟩
   | 12,ho,hw => injection ho with ho; subst ho; cases hw
   | _ + 13,ho,_ => cases ho
  case step =>
   intro i_ o_ ho_ hwt L av w1 γ hdn ak hW hL hpre K' Q' hK;have hW:vZ b [B1,B2,s,s + 1,s + 2,s + 3,s + 4] d1 d2 N N (bV (f,dl)) (bV (f',el)) W γ (L 2) (L 5) w1:=hW
   match i_,ho_,hwt with
    | 0,ho,hw =>
     injection ho with ho; subst ho;have b7:av.tmps.getD 7 undef = .pointer (some ⟨s,0,none⟩):=dM ak 7 (by kernel_rfl);clear ak;have hb:=hW.far.blk Q7.out (.inr (by simp));have y0:=hb.cell' (i:=0) rfl;refine qw (v:=.pointer (some ⟨d1,0,none⟩)) (w':=w1) (fun _ h => by cases h) ?_ (hK γ w1 (fun _ _ => rfl) (show vZ b [B1,B2,s,s + 1,s + 2,s + 3,s + 4] d1 d2 N N (bV (f,dl)) (bV (f',el)) W γ (if (2:Nat) = 0 then true else L 2) (if (5:Nat) = 0 then true else L 5) _ from by rw [if_neg (by decide),if_neg (by decide)]; exact hW));go_simp
    | 1,ho,hw =>
     injection ho with ho; subst ho;have b10:av.tmps.getD 10 undef = .pointer (some ⟨B1,0,none⟩):=dM ak 10 (by kernel_rfl);clear ak;have hb:=hW.far.blk X1.out (.inr (by simp));have y0:=hb.cell' (i:=0) rfl;have y1:=hb.cell' (i:=1) rfl;refine qw (v:=.agg #[.bool f,.slice E dl.length cE]) (w':=w1) (fun _ h => by cases h) ?_ (hK γ w1 (fun _ _ => rfl) (show vZ b [B1,B2,s,s + 1,s + 2,s + 3,s + 4] d1 d2 N N (bV (f,dl)) (bV (f',el)) W γ (if (2:Nat) = 1 then true else L 2) (if (5:Nat) = 1 then true else L 5) _ from by rw [if_neg (by decide),if_neg (by decide)]; exact hW));go_simp
    | 2,ho,hw =>
     injection ho with ho; subst ho;have s0:=aG ak 34 0 (by kernel_rfl) (hpre ⟨0,.data⟩ (by simp) rfl);simp only [vY] at s0;have s1:=aG ak 35 1 (by kernel_rfl) (hpre ⟨1,.data⟩ (by simp) rfl);simp only [vY] at s1;clear ak
     have h5:L 5 = false:=by
      cases h:L 5 with
      | false => rfl
      | true => (have hx:L 2 = true:=hdn 5 _ rfl h ⟨2,.chain⟩ (by simp) rfl; rw [hL] at hx; cases hx)
     have hW':=hW;rw [hL] at hW';obtain rfl:w1 = W.drew:=hW';have hm:=(TW.out.bC (ah.refl W []).drew).amv (dd:=(f,dl)) (HGW.out.aj (ah.refl W []).drew (by simp)) HN.out HX.out.1 HX.out.2.1 (HX.out.2.2.keep OM.out.drew);refine BH (fun _ h => by cases h) ?_ hm ?_
     . go_simp
     rintro e w2 ⟨v,D,rfl,hc,hD,ht,hmv⟩
     refine ⟨_,rfl,hK (v,γ.2) w2 (fun j hj => anR _ _ _ _ _ _ _ _ _ _ _ _ j (by
      intro hm;obtain rfl:j = 2:=by simpa using hm
      rw [hL] at hj; cases hj)) (show vZ b [B1,B2,s,s + 1,s + 2,s + 3,s + 4] d1 d2 N N (bV (f,dl)) (bV (f',el)) W (v,γ.2) (if (2:Nat) = 2 then true else L 2) (if (5:Nat) = 2 then true else L 5) w2 from ?_)⟩
     rw [if_pos rfl,if_neg (by decide),h5];exact ⟨⟨D,ah.Nw hc,fun k hk => ⟨⟨(hD k hk).1.1,(hD k hk).1.2.1⟩,(hD k hk).2⟩⟩,ht,hmv⟩
    | 3,ho,hw =>
     injection ho with ho; subst ho;have b8:av.tmps.getD 8 undef = .pointer (some ⟨s + 1,0,none⟩):=dM ak 8 (by kernel_rfl);clear ak;have hb:=hW.far.blk Q8.out (.inr (by simp));have y0:=hb.cell' (i:=0) rfl;refine qw (v:=.pointer (some ⟨d2,0,none⟩)) (w':=w1) (fun _ h => by cases h) ?_ (hK γ w1 (fun _ _ => rfl) (show vZ b [B1,B2,s,s + 1,s + 2,s + 3,s + 4] d1 d2 N N (bV (f,dl)) (bV (f',el)) W γ (if (2:Nat) = 3 then true else L 2) (if (5:Nat) = 3 then true else L 5) _ from by rw [if_neg (by decide),if_neg (by decide)]; exact hW));go_simp
    | 4,ho,hw =>
     injection ho with ho; subst ho;have b11:av.tmps.getD 11 undef = .pointer (some ⟨B2,0,none⟩):=dM ak 11 (by kernel_rfl);clear ak;have hb:=hW.far.blk X2.out (.inr (by simp));have y0:=hb.cell' (i:=0) rfl;have y1:=hb.cell' (i:=1) rfl;refine qw (v:=.agg #[.bool f',.slice E' el.length cE']) (w':=w1) (fun _ h => by cases h) ?_ (hK γ w1 (fun _ _ => rfl) (show vZ b [B1,B2,s,s + 1,s + 2,s + 3,s + 4] d1 d2 N N (bV (f,dl)) (bV (f',el)) W γ (if (2:Nat) = 4 then true else L 2) (if (5:Nat) = 4 then true else L 5) _ from by rw [if_neg (by decide),if_neg (by decide)]; exact hW));go_simp
    | 5,ho,hw =>
     injection ho with ho; subst ho;have s3:=aG ak 37 3 (by kernel_rfl) (hpre ⟨3,.data⟩ (by simp) rfl);simp only [vY] at s3;have s4:=aG ak 38 4 (by kernel_rfl) (hpre ⟨4,.data⟩ (by simp) rfl);simp only [vY] at s4;clear ak;have l2:L 2 = true:=hpre ⟨2,.chain⟩ (by simp) rfl;have hW':=hW;rw [hL,l2] at hW';obtain ⟨hf,ht,hmv⟩:=hW';have hm:=ht.amw (dd:=(f',el)) (HG.out.aj (hf.bC OM.out (by omega)) (by simp)) HN.out HY.out.1 HY.out.2.1 (HY.out.2.2.keep (hf.bC OM.out (by omega)));refine BH (fun _ h => by cases h) ?_ hm ?_
     . go_simp
     rintro e w2 ⟨v,D,rfl,hc,hD,ht2,hmv2⟩
     refine ⟨_,rfl,hK (γ.1,v) w2 (fun j hj => anS _ _ _ _ _ _ _ _ _ _ _ _ j (by
      intro hm;obtain rfl:j = 5:=by simpa using hm
      rw [hL] at hj; cases hj)) (show vZ b [B1,B2,s,s + 1,s + 2,s + 3,s + 4] d1 d2 N N (bV (f,dl)) (bV (f',el)) W (γ.1,v) (if (2:Nat) = 5 then true else L 2) (if (5:Nat) = 5 then true else L 5) w2 from ?_)⟩
     rw [if_pos rfl,if_neg (by decide),l2];exact ⟨hf.trans ⟨D,hc,fun k hk => ⟨⟨(hD k hk).1.1,(hD k hk).1.2.1⟩,(hD k hk).2⟩⟩,ht2,hmv.aj hc (fun k hk => (hD k hk).1.2.2),_,hmv2⟩
    | 6,ho,hw =>
     injection ho with ho; subst ho;have s2:=aG ak 36 2 (by kernel_rfl) (hpre ⟨2,.data⟩ (by simp) rfl);simp only [vY] at s2;have s5:=aG ak 39 5 (by kernel_rfl) (hpre ⟨5,.data⟩ (by simp) rfl);simp only [vY] at s5;clear ak;have l2:L 2 = true:=hdn 5 _ rfl (hpre ⟨5,.data⟩ (by simp) rfl) ⟨2,.chain⟩ (by simp) rfl;have l5:L 5 = true:=hpre ⟨5,.data⟩ (by simp) rfl;have hW':=hW;rw [l5,l2] at hW';obtain ⟨hf,ht,hmv,q,hmv2⟩:=hW';rw [<- HR.out] at hmv2;have hm:=afM hmv hmv2;refine BH (fun _ h => by cases h) ?_ hm ?_
     . go_simp
     rintro e w2 ⟨rfl,hc⟩;refine ⟨_,rfl,hK γ w2 (fun _ _ => rfl) (show vZ b [B1,B2,s,s + 1,s + 2,s + 3,s + 4] d1 d2 N N (bV (f,dl)) (bV (f',el)) W γ (if (2:Nat) = 6 then true else L 2) (if (5:Nat) = 6 then true else L 5) w2 from ?_)⟩;rw [if_neg (by decide),if_neg (by decide),l2,l5];exact ⟨hf.trans (.of hc),ht.bC hc,hmv.aj hc (by simp),q,by rw [<- HR.out]; exact hmv2.aj hc (by simp)⟩
    | 7,ho,hw =>
     injection ho with ho; subst ho;have s6:=aG ak 40 6 (by kernel_rfl) (hpre ⟨6,.data⟩ (by simp) rfl);simp only [vY] at s6;clear ak;refine qw (v:=.bool false) (w':=w1) (fun _ h => by cases h) ?_ (hK γ w1 (fun _ _ => rfl) (show vZ b [B1,B2,s,s + 1,s + 2,s + 3,s + 4] d1 d2 N N (bV (f,dl)) (bV (f',el)) W γ (if (2:Nat) = 7 then true else L 2) (if (5:Nat) = 7 then true else L 5) _ from by rw [if_neg (by decide),if_neg (by decide)]; exact hW));go_simp
    | 8,ho,hw =>
     injection ho with ho; subst ho;have s7:=aG ak 41 7 (by kernel_rfl) (hpre ⟨7,.data⟩ (by simp) rfl);simp only [vY] at s7;clear ak;refine qw (v:=.bool false) (w':=w1) (fun _ h => by cases h) ?_ (hK γ w1 (fun _ _ => rfl) (show vZ b [B1,B2,s,s + 1,s + 2,s + 3,s + 4] d1 d2 N N (bV (f,dl)) (bV (f',el)) W γ (if (2:Nat) = 8 then true else L 2) (if (5:Nat) = 8 then true else L 5) _ from by rw [if_neg (by decide),if_neg (by decide)]; exact hW));go_simp
    | 12,ho,hw =>
     injection ho with ho; subst ho;have s8:=aG ak 42 8 (by kernel_rfl) (hpre ⟨8,.data⟩ (by simp) rfl);simp only [vY] at s8;have s11:=aG ak 45 11 (by kernel_rfl) (hpre ⟨11,.data⟩ (by simp) rfl);simp only [vY] at s11;clear ak;refine qw (v:=.bool false) (w':=w1) (fun _ h => by cases h) ?_ (hK γ w1 (fun _ _ => rfl) (show vZ b [B1,B2,s,s + 1,s + 2,s + 3,s + 4] d1 d2 N N (bV (f,dl)) (bV (f',el)) W γ (if (2:Nat) = 12 then true else L 2) (if (5:Nat) = 12 then true else L 5) _ from by rw [if_neg (by decide),if_neg (by decide)]; exact hW));go_simp
    | 9,ho,hw => injection ho with ho; subst ho; cases hw
    | 10,ho,hw => injection ho with ho; subst ho; cases hw
    | 11,ho,hw => injection ho with ho; subst ho; cases hw
    | _ + 13,ho,_ => cases ho
  case fin =>
   intro γ w2 hW;have hW:vZ b [B1,B2,s,s + 1,s + 2,s + 3,s + 4] d1 d2 N N (bV (f,dl)) (bV (f',el)) W γ true true w2:=hW;obtain ⟨hf,ht,_,_,_⟩:=hW;rw [fK,dJ,eP];simp only [List.map_cons,List.map_nil];rw [amy];simp only [vY];have k9:=hf.blk Q9.out (.inr (by simp));have y9:=k9.cell' (i:=0) rfl;have f9:=k9.frozen 0;have k9':=k9.aJ 0 (.int .i64 ((pre.length:Int) + 1));have HF:=hide hf;have HT:=hide ht;clear hf ht k9
   gi_wp2
   have h9:=(ah.refl w2 [s + 2]).setCell ⟨s + 2,0,none⟩ (.int .i64 ((pre.length:Int) + 1)) (.inl (by simp));have c9:jy w2 (s + 2):=⟨_,_,_,HF.out.blk Q9.out (.inr (by simp))⟩
   refine ⟨HF.out.keeps.trans (yT h9 (fun k hk => by obtain rfl:k = s + 2:=(by simpa using hk); exact c9)),(HF.out.ks (fun k hk => ?_)).trans (KS.aj h9 (fun k hk => ?_)),(HF.out.blk I1.out (.inl (by omega))).aj h9 (by simp; omega),(HF.out.blk I2.out (.inl (by omega))).aj h9 (by simp; omega),(HF.out.blk Q7.out (.inr (by simp))).aj h9 (by simp),(HF.out.blk Q8.out (.inr (by simp))).aj h9 (by simp),?_,?_,(HF.out.bC OM.out (by omega)).trans h9 (fun k hk => .inr (by simp at hk; omega)),i8,i9⟩
   . simp only [List.mem_cons,List.mem_range] at hk ⊢
     omega
   . simp only [List.mem_cons,List.mem_range,List.not_mem_nil,or_false] at hk ⊢
     omega
   . rw [show (((pre ++ [x]).map (·.val)).length:Int) = (pre.length:Int) + 1 by simp]
     exact k9'
   . rw [ER.out]
     have ht:=HT.out.less [s,s + 1,s + 2,s + 3,s + 4] (fun k hk => by simp at hk ⊢; omega);rw [<- HR.out] at ht;exact ht.aj h9 (fun k hk => by obtain rfl:k = s + 2:=(by simpa using hk); exact ⟨.inl (by simp),by omega⟩)
 case done =>
  rintro D ys W hD rfl hI hK
  have hmm:(List.finRange (min ds.length es.length)).map (·.val) = List.range ds.length:=by
   have h0:min ds.length es.length = ds.length:=by have:=HLE.out; omega
   apply List.ext_getElem
   . simp [h0]
   . intro k h1 h2
     simp
  rw [hmm] at hI;obtain ⟨i1,i2,i3,i4,i5,i6,i7,i8,i9⟩:=hI;have hcn:sD ds (List.range ds.length) = bQ ds:=by rw [Z_ ds _ (Nat.le_refl _),List.take_of_length_le (Nat.le_refl _)]
  rw [hcn] at i6;have I1:=hide i1;have I2:=hide i2;have Q7:=hide i3;have TW:=hide i6;have OM:=hide i7;have HKD:=hide hK;have hQb:11<=w.heap.size + 1:=by omega
  clear hcn i1 i2 i3 i4 i5 i6 i7 HI HP0 cO hmm hK H H' HS OL UG
  gi_wp2_with fail
  refine yS (F:=Fence.wide) (fun _ => trivial) dK _ _ (fun (_:Unit) => Ij (w.heap.size + 1) d1 (bG (bQ ds))) (fun (_:Unit) L w' => yV (w.heap.size + 1) W (bG (bQ ds)) (L 6) (L 8) (L 10) w') () (by kernel_rfl) [] (by kernel_rfl) (fun p hp γ => by simp at hp) (by kernel_rfl) ?step ?start ?fin ?ext
  case start => exact ⟨I2.out,(ah.refl W _).drew⟩
  case ext =>
   intro γ L L' w' h hw;have hw':yV (w.heap.size + 1) W (bG (bQ ds)) (L 6) (L 8) (L 10) w':=hw;rw [h 6 (by decide),h 8 (by decide),h 10 (by decide)] at hw';exact hw'
  case step =>
   intro i_ o_ ho_ L av w1 γ hdn ak hW hL hpre K' Q' hK;have hW:yV (w.heap.size + 1) W (bG (bQ ds)) (L 6) (L 8) (L 10) w1:=hW
   match i_,ho_ with
    | 0,ho =>
     injection ho with ho; subst ho;have b6:av.tmps.getD 6 undef = .pointer (some ⟨w.heap.size + 1,0,none⟩):=dM ak 6 (by kernel_rfl);clear ak;refine fZ (v:=.pointer (some ⟨w.heap.size + 1,2,none⟩)) (w':=w1) ?_ (hK () w1 (fun _ _ => rfl) (show yV (w.heap.size + 1) W (bG (bQ ds)) (if (6:Nat) = 0 then true else L 6) (if (8:Nat) = 0 then true else L 8) (if (10:Nat) = 0 then true else L 10) _ from by rw [if_neg (show ¬(6:Nat) = 0 by decide),if_neg (show ¬(8:Nat) = 0 by decide),if_neg (show ¬(10:Nat) = 0 by decide)]; exact hW));go_simp
    | 1,ho =>
     injection ho with ho; subst ho;have s0:=aG ak 51 0 (by kernel_rfl) (hpre ⟨0,.data⟩ (by simp) rfl);simp only [Ij] at s0;clear ak;have y2:=hW.1.cell' (i:=2) rfl;refine fZ (v:=.int .i64 (-1)) (w':=w1) ?_ (hK () w1 (fun _ _ => rfl) (show yV (w.heap.size + 1) W (bG (bQ ds)) (if (6:Nat) = 1 then true else L 6) (if (8:Nat) = 1 then true else L 8) (if (10:Nat) = 1 then true else L 10) _ from by rw [if_neg (show ¬(6:Nat) = 1 by decide),if_neg (show ¬(8:Nat) = 1 by decide),if_neg (show ¬(10:Nat) = 1 by decide)]; exact hW));go_simp
    | 2,ho =>
     injection ho with ho; subst ho;have s1:=aG ak 52 1 (by kernel_rfl) (hpre ⟨1,.data⟩ (by simp) rfl);simp only [Ij] at s1;clear ak;refine fZ (v:=.bool true) (w':=w1) ?_ (hK () w1 (fun _ _ => rfl) (show yV (w.heap.size + 1) W (bG (bQ ds)) (if (6:Nat) = 2 then true else L 6) (if (8:Nat) = 2 then true else L 8) (if (10:Nat) = 2 then true else L 10) _ from by rw [if_neg (show ¬(6:Nat) = 2 by decide),if_neg (show ¬(8:Nat) = 2 by decide),if_neg (show ¬(10:Nat) = 2 by decide)]; exact hW));go_simp
    | 3,ho =>
     injection ho with ho; subst ho;have b7:av.tmps.getD 7 undef = .pointer (some ⟨s,0,none⟩):=dM ak 7 (by kernel_rfl);clear ak;have y7:=(Q7.out.aj hW.2 (by simp; omega)).cell' (i:=0) rfl;refine fZ (v:=.pointer (some ⟨d1,0,none⟩)) (w':=w1) ?_ (hK () w1 (fun _ _ => rfl) (show yV (w.heap.size + 1) W (bG (bQ ds)) (if (6:Nat) = 3 then true else L 6) (if (8:Nat) = 3 then true else L 8) (if (10:Nat) = 3 then true else L 10) _ from by rw [if_neg (show ¬(6:Nat) = 3 by decide),if_neg (show ¬(8:Nat) = 3 by decide),if_neg (show ¬(10:Nat) = 3 by decide)]; exact hW));go_simp
    | 4,ho =>
     injection ho with ho; subst ho;have s3:=aG ak 54 3 (by kernel_rfl) (hpre ⟨3,.data⟩ (by simp) rfl);simp only [Ij] at s3;clear ak;have hm:=(TW.out.aj hW.2 (fun k hk => by simp at hk; exact ⟨.inr (.inl (by omega)),by omega⟩)).cost;refine ac1 ?_ hm ?_
     . go_simp
     rintro e w2 ⟨rfl,rfl⟩;refine ⟨_,rfl,?_⟩;exact hK () w1 (fun _ _ => rfl) (show yV (w.heap.size + 1) W (bG (bQ ds)) (if (6:Nat) = 4 then true else L 6) (if (8:Nat) = 4 then true else L 8) (if (10:Nat) = 4 then true else L 10) _ from by rw [if_neg (show ¬(6:Nat) = 4 by decide),if_neg (show ¬(8:Nat) = 4 by decide),if_neg (show ¬(10:Nat) = 4 by decide)]; exact hW)
    | 5,ho =>
     injection ho with ho; subst ho;have b6:av.tmps.getD 6 undef = .pointer (some ⟨w.heap.size + 1,0,none⟩):=dM ak 6 (by kernel_rfl);clear ak;refine fZ (v:=.pointer (some ⟨w.heap.size + 1,0,none⟩)) (w':=w1) ?_ (hK () w1 (fun _ _ => rfl) (show yV (w.heap.size + 1) W (bG (bQ ds)) (if (6:Nat) = 5 then true else L 6) (if (8:Nat) = 5 then true else L 8) (if (10:Nat) = 5 then true else L 10) _ from by rw [if_neg (show ¬(6:Nat) = 5 by decide),if_neg (show ¬(8:Nat) = 5 by decide),if_neg (show ¬(10:Nat) = 5 by decide)]; exact hW));go_simp
    | 6,ho =>
     injection ho with ho; subst ho;have s5:=aG ak 56 5 (by kernel_rfl) (hpre ⟨5,.data⟩ (by simp) rfl);simp only [Ij] at s5;clear ak;have f0:=hW.1.frozen 0;have y0:=hW.1.cell' (i:=0) rfl;have hw2:=hW.1.aJ 0 (.bool true);have hc2:=hW.2.setCell ⟨w.heap.size + 1,0,none⟩ (.bool true) (.inl (by simp));refine FD (w':=w1.setCell ⟨w.heap.size + 1,0,none⟩ (.bool true)) ?_ (hK () _ (fun _ _ => rfl) ?_)
     . go_simp
     . show yV (w.heap.size + 1) W (bG (bQ ds)) (if (6:Nat) = 6 then true else L 6) (if (8:Nat) = 6 then true else L 8) (if (10:Nat) = 6 then true else L 10) _
       rw [if_pos rfl,if_neg (show ¬(8:Nat) = 6 by decide),if_neg (show ¬(10:Nat) = 6 by decide)];exact ⟨hw2,hc2⟩
    | 7,ho =>
     injection ho with ho; subst ho;have b6:av.tmps.getD 6 undef = .pointer (some ⟨w.heap.size + 1,0,none⟩):=dM ak 6 (by kernel_rfl);clear ak;refine fZ (v:=.pointer (some ⟨w.heap.size + 1,1,none⟩)) (w':=w1) ?_ (hK () w1 (fun _ _ => rfl) (show yV (w.heap.size + 1) W (bG (bQ ds)) (if (6:Nat) = 7 then true else L 6) (if (8:Nat) = 7 then true else L 8) (if (10:Nat) = 7 then true else L 10) _ from by rw [if_neg (show ¬(6:Nat) = 7 by decide),if_neg (show ¬(8:Nat) = 7 by decide),if_neg (show ¬(10:Nat) = 7 by decide)]; exact hW));go_simp
    | 8,ho =>
     injection ho with ho; subst ho;have s7:=aG ak 57 7 (by kernel_rfl) (hpre ⟨7,.data⟩ (by simp) rfl);simp only [Ij] at s7;have s2:=aG ak 53 2 (by kernel_rfl) (hpre ⟨2,.data⟩ (by simp) rfl);simp only [Ij] at s2;clear ak;have f0:=hW.1.frozen 1;have y0:=hW.1.cell' (i:=1) rfl;have hw2:=hW.1.aJ 1 (.bool true);have hc2:=hW.2.setCell ⟨w.heap.size + 1,1,none⟩ (.bool true) (.inl (by simp));refine FD (w':=w1.setCell ⟨w.heap.size + 1,1,none⟩ (.bool true)) ?_ (hK () _ (fun _ _ => rfl) ?_)
     . go_simp
     . show yV (w.heap.size + 1) W (bG (bQ ds)) (if (6:Nat) = 8 then true else L 6) (if (8:Nat) = 8 then true else L 8) (if (10:Nat) = 8 then true else L 10) _
       rw [if_neg (show ¬(6:Nat) = 8 by decide),if_pos rfl,if_neg (show ¬(10:Nat) = 8 by decide)];exact ⟨hw2,hc2⟩
    | 9,ho =>
     injection ho with ho; subst ho;have b6:av.tmps.getD 6 undef = .pointer (some ⟨w.heap.size + 1,0,none⟩):=dM ak 6 (by kernel_rfl);clear ak;refine fZ (v:=.pointer (some ⟨w.heap.size + 1,3,none⟩)) (w':=w1) ?_ (hK () w1 (fun _ _ => rfl) (show yV (w.heap.size + 1) W (bG (bQ ds)) (if (6:Nat) = 9 then true else L 6) (if (8:Nat) = 9 then true else L 8) (if (10:Nat) = 9 then true else L 10) _ from by rw [if_neg (show ¬(6:Nat) = 9 by decide),if_neg (show ¬(8:Nat) = 9 by decide),if_neg (show ¬(10:Nat) = 9 by decide)]; exact hW));go_simp
    | 10,ho =>
     injection ho with ho; subst ho;have s9:=aG ak 58 9 (by kernel_rfl) (hpre ⟨9,.data⟩ (by simp) rfl);simp only [Ij] at s9;have s4:=aG ak 55 4 (by kernel_rfl) (hpre ⟨4,.data⟩ (by simp) rfl);simp only [Ij] at s4;clear ak;have f0:=hW.1.frozen 3;have y0:=hW.1.cell' (i:=3) rfl;have hw2:=hW.1.aJ 3 (.int .i64 (bG (bQ ds)));have hc2:=hW.2.setCell ⟨w.heap.size + 1,3,none⟩ (.int .i64 (bG (bQ ds))) (.inl (by simp));refine FD (w':=w1.setCell ⟨w.heap.size + 1,3,none⟩ (.int .i64 (bG (bQ ds)))) ?_ (hK () _ (fun _ _ => rfl) ?_)
     . go_simp
     . show yV (w.heap.size + 1) W (bG (bQ ds)) (if (6:Nat) = 10 then true else L 6) (if (8:Nat) = 10 then true else L 8) (if (10:Nat) = 10 then true else L 10) _
       rw [if_neg (show ¬(6:Nat) = 10 by decide),if_neg (show ¬(8:Nat) = 10 by decide),if_pos rfl];exact ⟨hw2,hc2⟩
    | _ + 11,ho => cases ho
  case fin =>
   intro γ w2 hW;have hW:yV (w.heap.size + 1) W (bG (bQ ds)) true true true w2:=hW;obtain ⟨hb,hc⟩:=hW;rw [fK,dJ,eP];simp only [List.map_cons,List.map_nil];rw [amA];simp only [Ij];have y0:=hb.cell' (i:=0) rfl;have y1:=hb.cell' (i:=1) rfl;have y2:=hb.cell' (i:=2) rfl;have y3:=hb.cell' (i:=3) rfl;have k0:=I1.out.aj hc (by simp);have x0:=k0.cell' (i:=0) rfl;have x1:=k0.cell' (i:=1) rfl;have x2:=k0.cell' (i:=2) rfl;have x3:=k0.cell' (i:=3) rfl;have f0:=k0.frozen 0;have f1:=k0.frozen 1;have f2:=k0.frozen 2;have f3:=k0.frozen 3;have Ht:=hide hc;have HB:=hide hb;have K0:=hide k0;clear hb hc k0;obtain ⟨κ,hκ⟩:∃ κ,bG (bQ ds) = κ:=⟨_,rfl⟩
   simp only [hκ] at y3 HB ⊢
   gi_wp2
   have h9:=UE ((Ht.out.more (D':=[w.heap.size + 1,w.heap.size]) (fun k hk => .inl (by simp at hk; simp [hk])))) (g:=w.heap.size) (.inl (by simp)) (.bool true) (.bool true) (.int .i64 (-1)) (.int .i64 κ);exact ac7 (w:=w) rfl rfl (OM.out.trans h9 (fun k hk => .inr (by simp at hk; omega))) (by omega) (amx K0.out (.bool true) (.bool true) (.int .i64 (-1)) (.int .i64 κ)) (h9.heap HKD.out (by simp; omega)) (fun w' h => ⟨rfl,h⟩)
 case stop =>
  rintro D c pre W hD _ hf hK;exact hf.elim
theorem G5 (a b:Bool) (c d:Int) (a' b':Bool) (c' d':Int) (w:World):(Op.equalIn 10000 27 (.agg #[.bool a,.bool b,.int .i64 c,.int .i64 d]) (.agg #[.bool a',.bool b',.int .i64 c',.int .i64 d'])).run Tryz.prog w = .ok (a == a' && (b == b' && (c == c' && d == d'))) w:=by
 have u3:=Tryz.underlying3;have k3:=Tryz.isAgg3;have z3:=Tryz.sizeOf3;have u4:=Tryz.underlying4;have k4:=Tryz.isAgg4;have z4:=Tryz.sizeOf4;rw [show (10000:Nat) = 9999 + 1 from rfl,Op.equalIn];simp only [Sem.run_bind,run_underlying Tryz.underlying27,Result.andThen_ok];go_simp;by_cases h0:a = a' <;> by_cases h1:b = b' <;> by_cases h2:c = c' <;> by_cases h3:d = d' <;> simp [h0,h1,h2,h3]
theorem Ik (ds es:List aP):gJ es ds = gJ ds es:=by
 unfold gJ;congr 1;exact propext ⟨Eq.symm,Eq.symm⟩
theorem VO (ds:List aP):gJ ds ds = true:=decide_eq_true rfl
def o20:List Nat:=List.replicate 20 1
theorem amD:∀ y∈o20,y < 256:=fun y hy => by rw [List.eq_of_mem_replicate hy]; decide
theorem one_row {w:World} {B:Option Addr} {b:List Nat} {cb g:Nat} (hb:ay w g 38 [.bool true,.slice B b.length cb]) (hs:Sl w (.slice B b.length cb) (dB b)):jG w (some ⟨g,0,none⟩) [(true,b)] (fun _ => .slice B b.length cb):=fun _ => ⟨g,0,rfl,fun k d hk => by
 match k,hk with
 | 0,hk =>
  injection hk with hk;subst hk;exact ⟨hb.cell' (i:=0) rfl,hb.cell' (i:=1) rfl,⟨B,cb,rfl⟩,hs⟩
 | k + 1,hk => cases hk⟩
def wA (w:World):World:=(w.alloc (.cells #[.int .u8 0,.int .u8 0,.int .u8 0,.int .u8 0,.int .u8 0,.int .u8 0,.int .u8 0,.int .u8 0,.int .u8 0,.int .u8 0,.int .u8 0,.int .u8 0,.int .u8 0,.int .u8 0,.int .u8 0,.int .u8 0,.int .u8 0,.int .u8 0,.int .u8 0,.int .u8 0] 5)).alloc (.cells #[.bool true,.slice (some ⟨w.heap.size,0,none⟩) 20 20] 38)
def wB (w:World):World:=((wA w).alloc (.cells #[.int .u8 1,.int .u8 1,.int .u8 1,.int .u8 1,.int .u8 1,.int .u8 1,.int .u8 1,.int .u8 1,.int .u8 1,.int .u8 1,.int .u8 1,.int .u8 1,.int .u8 1,.int .u8 1,.int .u8 1,.int .u8 1,.int .u8 1,.int .u8 1,.int .u8 1,.int .u8 1] 5)).alloc (.cells #[.bool true,.slice (some ⟨w.heap.size + 1 + 1,0,none⟩) 20 20] 38)
theorem aiH (w:World):ah w (wB w) []/\jG (wB w) (some ⟨w.heap.size + 1,0,none⟩) [(true,z20)] (fun _ => .slice (some ⟨w.heap.size,0,none⟩) 20 20)/\jG (wB w) (some ⟨w.heap.size + 1 + 1 + 1,0,none⟩) [(true,o20)] (fun _ => .slice (some ⟨w.heap.size + 1 + 1,0,none⟩) 20 20):=by
 have hc1:=(ah.refl (wA w) []).alloc (.cells #[.int .u8 1,.int .u8 1,.int .u8 1,.int .u8 1,.int .u8 1,.int .u8 1,.int .u8 1,.int .u8 1,.int .u8 1,.int .u8 1,.int .u8 1,.int .u8 1,.int .u8 1,.int .u8 1,.int .u8 1,.int .u8 1,.int .u8 1,.int .u8 1,.int .u8 1,.int .u8 1] 5);have hcB:ah (wA w) (wB w) []:=hc1.alloc _;have hcA:ah w (wA w) []:=((ah.refl w []).alloc _).alloc _;have hszA:(wA w).heap.size = w.heap.size + 1 + 1:=by unfold wA; simp
 have a1:ay (wA w) (w.heap.size + 1) 38 [.bool true,.slice (some ⟨w.heap.size,0,none⟩) 20 20]:=by
  have:=ay.new (w.alloc (.cells #[.int .u8 0,.int .u8 0,.int .u8 0,.int .u8 0,.int .u8 0,.int .u8 0,.int .u8 0,.int .u8 0,.int .u8 0,.int .u8 0,.int .u8 0,.int .u8 0,.int .u8 0,.int .u8 0,.int .u8 0,.int .u8 0,.int .u8 0,.int .u8 0,.int .u8 0,.int .u8 0] 5)) 38 [.bool true,.slice (some ⟨w.heap.size,0,none⟩) 20 20];rw [size_alloc] at this;exact this
 have a0:Sl (wA w) (.slice (some ⟨w.heap.size,0,none⟩) 20 20) (dB z20):=Sl.blk' ((ay.new w 5 (dB z20)).alloc _) rfl (by decide)
 have b1:ay (wB w) (w.heap.size + 1 + 1 + 1) 38 [.bool true,.slice (some ⟨w.heap.size + 1 + 1,0,none⟩) 20 20]:=by
  have:=ay.new ((wA w).alloc (.cells #[.int .u8 1,.int .u8 1,.int .u8 1,.int .u8 1,.int .u8 1,.int .u8 1,.int .u8 1,.int .u8 1,.int .u8 1,.int .u8 1,.int .u8 1,.int .u8 1,.int .u8 1,.int .u8 1,.int .u8 1,.int .u8 1,.int .u8 1,.int .u8 1,.int .u8 1,.int .u8 1] 5)) 38 [.bool true,.slice (some ⟨w.heap.size + 1 + 1,0,none⟩) 20 20];rw [size_alloc,hszA] at this;exact this
 have b0:Sl (wB w) (.slice (some ⟨w.heap.size + 1 + 1,0,none⟩) 20 20) (dB o20):=by
  have:=(ay.new (wA w) 5 (dB o20)).alloc (.cells #[.bool true,.slice (some ⟨w.heap.size + 1 + 1,0,none⟩) 20 20] 38);rw [hszA] at this;exact Sl.blk' this rfl (by decide)
 exact ⟨hcA.trans hcB (by simp),one_row (b:=z20) (a1.aj hcB (by simp)) (a0.keep hcB),one_row (b:=o20) b1 b0⟩
theorem dV {w:World} (hg:iZ w):Calls Tryz.prog 7 #[] w fun e w' => e = .returned (.bool true)/\ah w w' []:=by
 have hmk:=anP;obtain ⟨hcb,hA,hB⟩:=aiH w
 have hm:∀ b:List Nat,b.length<=maxLen->(∀ y∈b,y < 256)->∀ d∈[((true,b):aP)],d.2.length<=maxLen/\∀ y∈d.2,y < 256:=fun b h1 h2 d hd => by
  obtain rfl:d = (true,b):=(by simpa using hd)
  exact ⟨h1,h2⟩
 have hrun:=Js (c:=1) (c':=1) (hg.aj hcb (by simp)) hA hB (hm z20 (by decide) amn) (hm o20 (by decide) amD) (by decide) (by decide)
 obtain ⟨κ,hκ,h0⟩:∃ κ:Int,bG (bQ [(true,z20)]) = κ/\0 < κ:=⟨_,rfl,by
  have:=Ib;rw [show bQ [(true,z20)] = 1 by decide];unfold bG
  omega⟩
 rw [hκ] at hrun;have HCB:=hide hcb;have HA:=hide hA;clear hg hB hκ hcb hA hm;go_enter Tryz.func7,Tryz.ntmps7
 go_wp2_with fail
 go_at_call 10;refine hrun.mono ?_;rintro e w2 ⟨rfl,hc⟩;have HC:=hide (HCB.out.trans hc (D:=[]) (by simp));have hsh:=fun w3 (hc3:ah w2 w3 []) => lJ (w:=w3) (c:=1) (c':=0) ((HA.out.keep hc).keep hc3) (A':=none) (es:=[]) (us:=fun _ => undef) (fun h => absurd h (by decide)) (by decide) (by decide);rw [show gJ [(true,z20)] [] = false by decide] at hsh;have XL:=hide hsh;have bv:=ay.new w2 27 [.bool true,.bool true,.int .i64 (-1),.int .i64 κ];have y0:=bv.cell' (i:=0) rfl;have y1:=bv.cell' (i:=1) rfl;have y2:=bv.cell' (i:=2) rfl;have y3:=bv.cell' (i:=3) rfl;have hcv:=(ah.refl w2 []).alloc (.cells #[.bool true,.bool true,.int .i64 (-1),.int .i64 κ] 27);clear hrun hc hsh bv;unfold qE;go_wp2_with fail
 go_at_call 8;refine (XL.out _ hcv).mono ?_;rintro e w3 ⟨rfl,hc3⟩;have dU:=hide ((HC.out.trans hcv (D:=[]) (by simp)).trans hc3 (D:=[]) (by simp));clear hc3 hcv;go_wp2;go_ret;exact ⟨rfl,dU.out⟩
end
end Go.Proofs.YtbhikopphamgjaaGreatDoor
