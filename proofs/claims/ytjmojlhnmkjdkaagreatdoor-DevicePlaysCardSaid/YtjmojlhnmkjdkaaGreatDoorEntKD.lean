/- Tables of calls that answer values in worlds of a kind; a sum's step, of any word, the program's and the reference's. -/
import Derived.Test.YtjmojlhnmkjdkaaGreatDoorDP6
import Derived.Test.YtjmojlhnmkjdkaaGreatDoorDP14
set_option linter.unusedVariables false
set_option maxRecDepth 100000
set_option maxHeartbeats 8000000
namespace Go.Proofs.YtjmojlhnmkjdkaaGreatDoor
section
open Go.RowKit Go.Deep
theorem agl{i:Nat}(h:i<16):2 ^ i<65536:=by
 have:=Nat.pow_le_pow_right (n:=2) (by omega) (show i<=15 by omega);omega
theorem wrapN(n:Nat)(h:n<=100000):IntKind.i64.wrap (n:Int)=(n:Int):=by rw [IntKind.wrap_i64]; omega
theorem OE(a b:Nat)(ha:a<65536)(hb:b<65536)(w:World) :
 Calls Tryz.prog 267 #[.int .i64 a,.int .i64 b] w fun e w'=>e=.returned (.int .i64 ((a ^^^ b:Nat):Int))/\ah w w' []:=by
 have HC:=hide (ah.refl w []);go_enter Tryz.func267,Tryz.ntmps267
 go_wp2_with fail
 go_loopw [5,6] (fun o m wr=>∃ i:Nat,i<=16/\o=.int .i64 (((a ^^^ b)%2 ^ i:Nat):Int)/\m=.int .i64 ((2 ^ i:Nat):Int)/\Hid (ah w wr [])) (fun o m _=>65537 - (intOf m).toNat)
 case atStart=>exact⟨0,by omega,by simp [Nat.mod_one],rfl,HC⟩
 case round =>
  clear HC;obtain⟨i,hi,rfl,rfl,HC⟩:=hrel;by_cases hlt:i<16
  . have hp:=agl hlt
    have hp0:0<2 ^ i:=Nat.pow_pos (by omega);have hm:=ajs a b i;have hs:2 ^ (i+1)=2*2 ^ i:=by rw [Nat.pow_succ,Nat.mul_comm]
    have hl:=Nat.mod_lt (a ^^^ b) hp0;have hi1:i+1<=16:=by omega
    rw [hs] at hm;have REL:=hide (show ∃ j:Nat,j<=16/\(a ^^^ b)%(2*2 ^ i)=(a ^^^ b)%2 ^ j/\2*2 ^ i=2 ^ j from⟨i+1,hi1,by rw [hs],hs.symm⟩);clear hs hi hi1 hlt;generalize 2 ^ i=p at *;have k0:decide ((p:Int)<65536)=true:=by simp; omega
    have da:(a:Int).tdiv p=((a / p:Nat):Int):=by rw [Int.ofNat_tdiv]
    have db:(b:Int).tdiv p=((b / p:Nat):Int):=by rw [Int.ofNat_tdiv]
    have p0:((p:Int)==0)=false:=by simp; omega
    have p1:¬ (p:Int)=0:=by omega
    have la:a / p<=a:=Nat.div_le_self _ _;have lb:b / p<=b:=Nat.div_le_self _ _;have wa:=wrapN (a / p) (by omega);have wb:=wrapN (b / p) (by omega);have ma:((a / p:Nat):Int).tmod 2=((a / p%2:Nat):Int):=by rw [Int.ofNat_tmod]; rfl
    have mb:((b / p:Nat):Int).tmod 2=((b / p%2:Nat):Int):=by rw [Int.ofNat_tmod]; rfl
    have hne:(((a / p%2:Nat):Int) != ((b / p%2:Nat):Int))=!(a / p%2==b / p%2):=bne_cast _ _
    have FIN:∀ {o':Int},o'=(((a ^^^ b)%(2*p):Nat):Int)->∀ w1,Hid (ah w w1 [])->∃ i,i<=16/\Value.int IntKind.i64 o'=Value.int IntKind.i64 (((a ^^^ b)%2 ^ i:Nat):Int)/\Value.int IntKind.i64 (2*(p:Int))=Value.int IntKind.i64 ((2 ^ i:Nat):Int)/\Hid (ah w w1 []):=fun {o'} ho w1 hw=>by
     obtain⟨j,h1,h2,h3⟩:=REL.out;exact⟨j,h1,by rw [ho,h2],by rw [<- h3]; rfl,hw⟩
    clear REL
    cases he:a / p%2==b / p%2 with
    | true =>
     rw [he] at hne;rw [if_pos (by simpa using he)] at hm;have hm':(((a ^^^ b)%(2*p):Nat):Int)=(((a ^^^ b)%p:Nat):Int):=by rw [hm]; rfl
     have F:=hide (FIN hm'.symm);clear FIN hm hm' he la lb hl hp0;generalize ((a / p%2:Nat):Int)=A2 at *;generalize ((b / p%2:Nat):Int)=B2 at *;generalize ((a / p:Nat):Int)=A at *;generalize ((b / p:Nat):Int)=B at *;generalize (((a ^^^ b)%p:Nat):Int)=o at *;go_wp2_with fail
     go_quiet (fail)
     go_wp2_with fail
     go_roundw
     case rel=>exact F.out _ (hide (HC.out.drewN _))
     case measure=>simp [intOf]; omega
    | false =>
     rw [he] at hne;rw [if_neg (by simpa using he)] at hm;have hm':(((a ^^^ b)%(2*p):Nat):Int)=(((a ^^^ b)%p:Nat):Int)+(p:Int):=by rw [hm]; rfl
     have hol:(a ^^^ b)%p<65536:=by omega
     have F:=hide (FIN hm'.symm);clear FIN hm hm' he la lb hl hp0;generalize ((a / p%2:Nat):Int)=A2 at *;generalize ((b / p%2:Nat):Int)=B2 at *;generalize ((a / p:Nat):Int)=A at *;generalize ((b / p:Nat):Int)=B at *;generalize (a ^^^ b)%p=o at *;go_wp2_with fail
     go_quiet (fail)
     go_wp2_with fail
     go_roundw
     case rel =>
      exact F.out _ (hide (HC.out.drewN _))
     case measure=>simp [intOf]; omega
  . obtain rfl:i=16:=by omega
    have hx:(a ^^^ b)%2 ^ 16=a ^^^ b:=Nat.mod_eq_of_lt (Nat.xor_lt_two_pow (by omega) (by omega));rw [hx,show((2 ^ 16:Nat):Int)=65536 from rfl];generalize hO:(((a ^^^ b):Nat):Int)=o at *;have O:=hide hO;clear hO;go_wp2_with fail
    go_ret;exact⟨O.out.symm▸rfl,HC.out⟩
theorem acU(c:Nat)(C:Int)(b:Nat)(hc:c<65536)(hC:-2147483648<=C/\C<=2147483647)(he:C%65536=c)(hb:b<256)(w:World) :
 Calls Tryz.prog 214 #[.int .i32 C,.int .u8 b] w fun e w'=>e=.returned (.int .i32 (rO c b:Nat))/\ah w w' []:=by
 have hx0:c ^^^ (256*b)<65536:=Nat.xor_lt_two_pow (n:=16) hc (by omega);have HM:=hide (xZ C 65536 w (by omega) (by omega));rw [he] at HM;have e1:wrap64 (256*(b:Int))=((256*b:Nat):Int):=by unfold wrap64; omega
 have e2:IntKind.i64.wrap (b:Int)=b:=wrapN b (by omega);have e3:IntKind.i64.wrap C=C:=by rw [IntKind.wrap_i64]; omega
 have HX:=hide (OE c (256*b) hc (by omega) w);rw [RP hc hb];generalize c ^^^ (256*b)=x0 at *;clear he;go_enter Tryz.func214,Tryz.ntmps214
 go_wp2_with fail
 refine HM.out.mono ?_;rintro e w1 ⟨rfl,rfl⟩;go_wp2_with fail
 refine HX.out.mono ?_;rintro e w1 ⟨rfl,hc1⟩;have HC:=hide hc1;clear hc1 HX HM;clear e1 e2 e3 hc hb hC;go_wp2_with fail
 go_loopw [5,6] (fun x m wr=>∃ i:Nat,i<=8/\x=.int .i64 ((lH i x0:Nat):Int)/\m=.int .i64 ((i:Nat):Int)/\Hid (ah w wr [])) (fun x m _=>8 - (intOf m).toNat)
 case atStart=>exact⟨0,by omega,rfl,rfl,HC⟩
 case round =>
  clear HC;obtain⟨i,hi,rfl,rfl,HC⟩:=hrel;by_cases hlt:i<8
  . have hx:=ark hx0 i
    have hn:lH (i+1) x0=nX (lH i x0):=rfl;have k0:decide ((i:Int)<8)=true:=by simp; omega
    have ei:wrap64 ((i:Int)+1)=((i+1:Nat):Int):=by unfold wrap64; omega
    by_cases hg:32768<=lH i x0
    . have hb1:nX (lH i x0)=(2*lH i x0%65536) ^^^ 4129:=by unfold nX; rw [if_pos hg]
      rw [hb1] at hn;have HX:=hide (OE (2*lH i x0%65536) 4129 (Nat.mod_lt _ (by omega)) (by omega) wr);have kg:decide (((lH i x0:Nat):Int) >= 32768)=true:=by simp; omega
      have m1:(2*((lH i x0:Nat):Int)).tmod 65536=((2*lH i x0%65536:Nat):Int):=by rw [Int.tmod_eq_emod_of_nonneg (by omega)]; omega
      have m2:2*((lH i x0:Nat):Int)%65536=((2*lH i x0%65536:Nat):Int):=by omega
      have w2:wrap64 (2*((lH i x0:Nat):Int))=2*((lH i x0:Nat):Int):=by unfold wrap64; omega
      have N:=hide hn;clear hb1 hn;generalize ((2*lH i x0%65536:Nat):Int)=M at *;generalize lH i x0=x at *;go_wp2_with fail
      refine HX.out.mono ?_;rintro e w2 ⟨rfl,hc2⟩;have HC2:=hide (HC.out.trans hc2 (D:=[]) (by simp));rw [<- N.out];clear hc2 HX N;go_wp2_with fail
      go_roundw
      case rel=>exact⟨i+1,by omega,rfl,by go_num,HC2⟩
      case measure=>simp [intOf]; omega
    . have hb1:nX (lH i x0)=2*lH i x0%65536:=by unfold nX; rw [if_neg hg]
      rw [hb1] at hn;have kg:decide (((lH i x0:Nat):Int) >= 32768)=false:=by simp; omega
      have m1:(2*((lH i x0:Nat):Int)).tmod 65536=((lH (i+1) x0:Nat):Int):=by rw [Int.tmod_eq_emod_of_nonneg (by omega),hn]; omega
      have m2:2*((lH i x0:Nat):Int)%65536=((lH (i+1) x0:Nat):Int):=by rw [hn]; omega
      have w2:wrap64 (2*((lH i x0:Nat):Int))=2*((lH i x0:Nat):Int):=by unfold wrap64; omega
      clear hb1 hn;generalize hY:((lH (i+1) x0:Nat):Int)=y at *;have Y:=hide hY;clear hY;generalize lH i x0=x at *;go_wp2_with fail
      go_roundw
      case rel=>exact⟨i+1,by omega,by rw [<- Y.out],by go_num,HC⟩
      case measure=>simp [intOf]; omega
  . obtain rfl:i=8:=by omega
    rw [aun];have hl:Iq x0<65536:=anD _;have e4:IntKind.i32.wrap ((Iq x0:Nat):Int)=((Iq x0:Nat):Int):=by rw [IntKind.wrap_i32]; omega
    generalize hO:((Iq x0:Nat):Int)=o at *;have O:=hide hO;clear hO;go_wp2_with fail
    go_ret;exact⟨O.out.symm▸rfl,HC.out⟩
end

section
open Go.RowKit Go.Deep
def vC(c b:Int):Int:=(rO (c%65536).toNat b.toNat:Nat)
theorem agm(n b:Nat)(h:n<65536):vC n b=(rO n b:Nat):=by
 unfold vC;rw [show((n:Int)%65536).toNat=n by omega,show(b:Int).toNat=b by omega]
theorem ajt(c b:Int):0<=vC c b/\vC c b<65536:=by
 unfold vC;have:=Ls (c%65536).toNat b.toNat;omega
set_option maxHeartbeats 1000000 in
theorem Xt (c b:Int) (hc:-2147483648<=c/\c<=2147483647) (hb:0<=b/\b<=255) (w:World) :
 Calls Tryz.prog 214 #[.int .i32 c,.int .u8 b] w fun e w'=>e=.returned (.int .i32 (vC c b))/\ah w w' []:=by
 obtain⟨b,rfl⟩:∃ n:Nat,b=n:=⟨b.toNat,by omega⟩
 have h:=acU (c%65536).toNat c b (by omega) hc (by omega) (by omega) w;unfold vC;rw [show(b:Int).toNat=b by omega];exact h
end
namespace Xi
open Go Go.RowKit
structure Ql (K:World->Prop) where
 f:FuncId
 fn:List Value->Option Value
 ok:∀ us v,fn us=some v->(∀ u∈us,good1 u)->iy v/\∀ w:World,K w->Calls Tryz.prog f us.toArray w fun e w'=>e=.returned v/\ah w w' []
def eG.k{K:World->Prop}(e:eG):Ql K:=⟨e.f,e.fn,fun us v h hg=>⟨(e.ok us v h hg).1,fun w _=>(e.ok us v h hg).2 w⟩⟩
def Dp {K:World->Prop}:List (Ql K)->Tab
 | [],_,_=>none
 | e::l,f,us=>bif Nat.beq e.f f then e.fn us else Dp l f us
theorem Qm {K:World->Prop}:∀ l:List (Ql K),Nl Tryz.prog K (Dp l)
 | [],f,us,v,h,hg=>by cases h
 | e::l,f,us,v,h,hg=>by
  unfold Dp at h
  cases hb:Nat.beq e.f f with
  | true =>
   rw [hb] at h;obtain rfl:=beq_iff.1 hb;exact e.ok us v h hg
  | false =>
   rw [hb] at h;exact Qm l f us v h hg
def aln:List Value->Option Value
 | [.int .i32 c,.int .u8 b]=>some (.int .i32 (vC c b))
 | _=>none
theorem Qn {b:Int} (h:dR (.int .u8 b)):0<=b/\b<=255:=by
 simp only [dR,Lit.wf,IntKind.min,IntKind.max,IntKind.signed,IntKind.bits] at h;simp at h;omega
theorem Md {b:Int} (h:0<=b/\b<=255):dR (.int .u8 b):=by
 simp only [dR,Lit.wf,IntKind.min,IntKind.max,IntKind.signed,IntKind.bits];simp;omega
theorem aju {b:Int} (h:dR (.int .i32 b)):-2147483648<=b/\b<=2147483647:=by
 have:=NV h;unfold aB at this;omega
theorem RS {b:Int} (h:-2147483648<=b/\b<=2147483647):dR (.int .i32 b):=by
 simp only [dR,Lit.wf,IntKind.min,IntKind.max,IntKind.signed,IntKind.bits];simp;omega
theorem acV (c b:Int):iy (.int .i32 (vC c b)):=.inl (.inl (RS (by have:=ajt c b; omega)))
