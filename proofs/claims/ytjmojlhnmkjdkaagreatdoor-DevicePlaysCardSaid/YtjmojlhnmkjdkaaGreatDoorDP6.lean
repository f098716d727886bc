/- Texts of this claim, side by side. -/
import Derived.Test.YtjmojlhnmkjdkaaGreatDoorDP1
import Derived.Lib.LaidTab
set_option linter.unusedVariables false
set_option linter.unusedSimpArgs false
set_option maxRecDepth 100000
set_option maxHeartbeats 8000000
namespace Go.Proofs.YtjmojlhnmkjdkaaGreatDoor
section
open Go.RowKit Go.Deep
def Hg (op:Int):Bool:=decide (1<=op/\op<=43)
theorem J5(op:Int)(w:World):Calls Tryz.prog 174 #[.int .i64 op] w fun e w'=>e=.returned (.bool (Hg op))/\w=w':=by
 by_cases h0:1<=op
 . have d0:decide (op >= 1)=true:=by simpa using h0
   have e:Hg op=decide (op<=43):=by unfold Hg; simp [h0]
   rw [e];go_enter Tryz.func174,Tryz.ntmps174
   go_wp2;go_ret;exact⟨rfl,rfl⟩
 . have d0:decide (op >= 1)=false:=by simpa using h0
   have e:Hg op=false:=by unfold Hg; simp; omega
   rw [e];go_enter Tryz.func174,Tryz.ntmps174
   go_wp2;go_ret;exact⟨rfl,rfl⟩
def Hl:List Int:=[1,1,1,1,1,1,1,1,1,1,1,1,1,1,1,1,1,3,3,3,3,2,2,1,1,1,1,1,1,1,1,1,1,2,2,1,1,1,3,3,3,1,1]
abbrev wG (w : World) : Prop := Lib.TabIs Tryz.prog w "astrolabe/ops.costs" .i64 Hl
def l3:List Int:=[18,19,20,21,39,40,41]
def l2:List Int:=[22,23,34,35]
def sJ(op:Int):Int:=if Hg op=true then(if op∈l3 then 3 else if op∈l2 then 2 else 1) else 0
theorem aeR:((List.range 43).all fun k=>decide (sJ ((k:Int)+1)=Hl.getD k 0))=true:=by kernel_rfl
theorem amo(op:Int)(h:Hg op=true):sJ op=Hl.getD (op - 1).toNat 0:=by
 have h:=of_decide_eq_true h;have:=of_decide_eq_true (List.all_eq_true.1 aeR (op - 1).toNat (List.mem_range.2 (by omega)));rwa [show(((op - 1).toNat:Nat):Int)+1=op by omega] at this
theorem zn(op:Int)(w:World)(hc:wG w):Calls Tryz.prog 263 #[.int .i64 op] w fun e w'=>e=.returned (.int .i64 (sJ op))/\w=w':=by
 cases h:Hg op with
 | false =>
  have e:sJ op=0:=by unfold sJ; rw [h]; rfl
  rw [e];clear hc;go_enter Tryz.func263,Tryz.ntmps263
  go_wp2_with fail
  refine(J5 _ _).mono ?_;rintro e w1 ⟨rfl,rfl⟩;rw [h];go_wp2;go_ret;exact⟨rfl,rfl⟩
 | true =>
  have e:=amo op h;rw [e];have h':=of_decide_eq_true h;have hcell:=hc.cell (g:=3) (by kernel_rfl) (op - 1).toNat (show _<43 by omega);have hw:wrap64 (op - 1)=((op - 1).toNat:Int):=by unfold wrap64; omega
  have hk:(op - 1).toNat<43:=by omega
  generalize (op - 1).toNat=k at *;generalize Hl.getD k 0=x at *;clear hc e h';go_enter Tryz.func263,Tryz.ntmps263
  go_wp2_with fail
  refine(J5 _ _).mono ?_;rintro e w1 ⟨rfl,rfl⟩;rw [h];clear h;go_wp2;go_ret;exact⟨rfl,rfl⟩
def TJ:List Int:=[0,4129,8258,12387,16516,20645,24774,28903,33032,37161,41290,45419,49548,53677,57806,61935]
abbrev gZ (w : World) : Prop := Lib.TabIs Tryz.prog w "astrolabe/crc.four" .i32 TJ
theorem gZ.lt{w:World}(h:gZ w):4<w.heap.size:=World.block_lt_of_cell? w _ (h.cell (g:=4) (by kernel_rfl) 0 (by decide))
theorem Ho(a b:Nat)(ha:a<2147483648)(hb:b<2147483648):bits BinOp.xor IntKind.i32 a b=((a ^^^ b:Nat):Int):=by
 show IntKind.i32.wrap (((BitVec.ofInt 32 (a:Int)) ^^^ (BitVec.ofInt 32 (b:Int))).toNat:Int)=_;have hx:a ^^^ b<2 ^ 31:=Nat.xor_lt_two_pow (by omega) (by omega);rw [BitVec.ofInt_natCast,BitVec.ofInt_natCast,BitVec.toNat_xor,BitVec.toNat_ofNat,BitVec.toNat_ofNat,Nat.mod_eq_of_lt (by omega:a<2 ^ 32),Nat.mod_eq_of_lt (by omega:b<2 ^ 32),IntKind.wrap_i32];omega
theorem Ak(a b:Nat)(ha:a<2147483648)(hb:b<2147483648):bits BinOp.and IntKind.i32 a b=((a &&& b:Nat):Int):=by
 show IntKind.i32.wrap (((BitVec.ofInt 32 (a:Int)) &&& (BitVec.ofInt 32 (b:Int))).toNat:Int)=_;have hx:a &&& b<=a:=Nat.and_le_left;rw [BitVec.ofInt_natCast,BitVec.ofInt_natCast,BitVec.toNat_and,BitVec.toNat_ofNat,BitVec.toNat_ofNat,Nat.mod_eq_of_lt (by omega:a<2 ^ 32),Nat.mod_eq_of_lt (by omega:b<2 ^ 32),IntKind.wrap_i32];omega
theorem aeS(a:Nat):a &&& 15=a%16:=Nat.and_two_pow_sub_one_eq_mod a 4
theorem Q8(a:Nat):a &&& 65535=a%65536:=Nat.and_two_pow_sub_one_eq_mod a 16
def wZ (i:Nat):Nat:=(TJ.getD i 0).toNat
theorem Q9:∀ i,i<16->TJ.getD i 0=(wZ i:Int)/\wZ i<65536:=by decide
def uQ(c n:Nat):Nat:=((c*16) ^^^ wZ ((c / 4096) ^^^ n))%65536
theorem PS(c n:Nat):uQ c n<65536:=Nat.mod_lt _ (by decide)
def rO(c b:Nat):Nat:=uQ (uQ c (b / 16)) (b%16)
theorem Ls(c b:Nat):rO c b<65536:=PS _ _
theorem BN(c n:Nat)(hc:c<65536)(hn:n<16)(w:World)(ht:gZ w):Calls Tryz.prog 266 #[.int .i32 c,.int .i32 n] w fun e w'=>e=.returned (.int .i32 (uQ c n))/\w=w':=by
 have hk:(c / 4096) ^^^ n<2 ^ 4:=Nat.xor_lt_two_pow (by omega) (by omega);have e1:IntKind.i32.wrap ((c:Int)*16)=((c*16:Nat):Int):=by rw [IntKind.wrap_i32]; omega
 have e1':IntKind.i32.wrap ((c:Int)*2 ^ 4)=((c*16:Nat):Int):=e1;have e2:(c:Int) / 4096=((c / 4096:Nat):Int):=by omega
 have e3:bits BinOp.xor IntKind.i32 ((c / 4096:Nat):Int) n=(((c / 4096) ^^^ n:Nat):Int):=Ho _ _ (by omega) (by omega)
 have e4:bits BinOp.and IntKind.i32 (((c / 4096) ^^^ n:Nat):Int) 15=(((c / 4096) ^^^ n:Nat):Int):=by
  have:=Ak ((c / 4096) ^^^ n) 15 (by omega) (by omega);rw [aeS,Nat.mod_eq_of_lt (by omega)] at this;exact this
 have hcell:=ht.cell (g:=4) (by kernel_rfl) ((c / 4096) ^^^ n) (show _<16 by omega);obtain⟨f1,f2⟩:=Q9 _ (show(c / 4096) ^^^ n<16 by omega);rw [f1] at hcell;have e5:bits BinOp.xor IntKind.i32 ((c*16:Nat):Int) (wZ ((c / 4096) ^^^ n))=(((c*16) ^^^ wZ ((c / 4096) ^^^ n):Nat):Int):=Ho _ _ (by omega) (by omega);have hx:(c*16) ^^^ wZ ((c / 4096) ^^^ n)<2 ^ 20:=Nat.xor_lt_two_pow (by omega) (by omega)
 have e6:bits BinOp.and IntKind.i32 (((c*16) ^^^ wZ ((c / 4096) ^^^ n):Nat):Int) 65535=(uQ c n:Int):=by
  have:=Ak ((c*16) ^^^ wZ ((c / 4096) ^^^ n)) 65535 (by omega) (by omega);rw [Q8] at this;exact this
 generalize uQ c n=r at *;have ayR:(c / 4096) ^^^ n<16:=by omega
 generalize hi:(c / 4096) ^^^ n=i at *;clear f1 hk hi ht hc hn f2 hx;generalize wZ i=x at *;generalize (c*16) ^^^ x=y at *;generalize ((c*16:Nat):Int)=Y at *;generalize ((c / 4096:Nat):Int)=Q at *;generalize (c:Int)=C at *;generalize (n:Int)=N at *;generalize (x:Int)=X at *;generalize (y:Int)=V at *;generalize (r:Int)=R at *;go_enter Tryz.func266,Tryz.ntmps266
 go_wp2;go_ret;exact⟨rfl,rfl⟩
theorem aij(b:Nat)(hb:b<256):bits BinOp.and IntKind.u8 b 15=((b%16:Nat):Int):=by
 show IntKind.u8.wrap (((BitVec.ofInt 8 (b:Int)) &&& (BitVec.ofInt 8 15)).toNat:Int)=_;rw [show BitVec.ofInt 8 15=BitVec.ofNat 8 15 from rfl,BitVec.ofInt_natCast,BitVec.toNat_and,BitVec.toNat_ofNat,BitVec.toNat_ofNat,Nat.mod_eq_of_lt (by omega:b<2 ^ 8),show 15%2 ^ 8=15 from rfl,aeS,IntKind.wrap_u8];omega
theorem SK(c b:Nat)(hc:c<65536)(hb:b<256)(w:World)(ht:gZ w):Calls Tryz.prog 211 #[.int .i32 c,.int .u8 b] w fun e w'=>e=.returned (.int .i32 (rO c b))/\w=w':=by
 have n1:=BN c (b / 16) hc (by omega) w ht;have n2:=BN (uQ c (b / 16)) (b%16) (PS _ _) (by omega) w ht
 have g1:bits BinOp.and IntKind.i32 (c:Int) 65535=(c:Int):=by
  have:=Ak c 65535 (by omega) (by omega);rw [Q8,Nat.mod_eq_of_lt hc] at this;exact this
 have g2:(b:Int) / 16=((b / 16:Nat):Int):=by omega
 have g3:IntKind.i32.wrap ((b / 16:Nat):Int)=((b / 16:Nat):Int):=by rw [IntKind.wrap_i32]; omega
 have g4:=aij b hb;have g5:IntKind.i32.wrap ((b%16:Nat):Int)=((b%16:Nat):Int):=by rw [IntKind.wrap_i32]; omega
 show Calls Tryz.prog 211 #[.int .i32 c,.int .u8 b] w fun e w'=>e=.returned (.int .i32 (uQ (uQ c (b / 16)) (b%16):Nat))/\w=w';generalize ((uQ (uQ c (b / 16)) (b%16):Nat):Int)=R at *;generalize ((uQ c (b / 16):Nat):Int)=M at *;generalize ((b / 16:Nat):Int)=H at *;generalize ((b%16:Nat):Int)=L at *;generalize (c:Int)=C at *;generalize (b:Int)=B at *;have N1:=hide n1;have N2:=hide n2;clear n1 n2 hc hb ht;go_enter Tryz.func211,Tryz.ntmps211
 go_wp2_with fail
 refine N1.out.mono ?_;rintro e w1 ⟨rfl,rfl⟩;go_wp2_with fail
 refine N2.out.mono ?_;rintro e w1 ⟨rfl,rfl⟩;go_wp2;go_ret;exact⟨rfl,rfl⟩
def bU(xs:List Nat):List Value:=xs.map fun x=>.int .u8 (x:Nat)
theorem fD(xs:List Nat):(bU xs).length=xs.length:=by simp [bU]
theorem af7(xs:List Nat)(k:Nat)(h:k<xs.length):(bU xs)[k]?=some (.int .u8 (xs[k]:Nat)):=by simp [bU,h]
def bP (c:Nat) (xs:List Nat):Nat:=xs.foldl rO c
theorem FM{c:Nat}(h:c<65536)(xs:List Nat):bP c xs<65536:=by
 unfold bP
 induction xs generalizing c with
 | nil=>exact h
 | cons x l ih=>exact ih (Ls _ _)
theorem acN(c:Nat)(xs:List Nat)(k:Nat)(h:k<xs.length):bP c (xs.take (k+1))=rO (bP c (xs.take k)) xs[k]:=by
 unfold bP;rw [List.take_add_one,List.getElem?_eq_getElem h,List.foldl_append];rfl
theorem gZ.aj {w w':World} {D:List Nat} (h:gZ w) (hc:ah w w' D) (hD:4∉D):gZ w':=by
 have hl:=h.lt;have h' : w.var? Tryz.prog "astrolabe/crc.four" = some _ := h;show w'.var? Tryz.prog "astrolabe/crc.four" = some _;unfold World.var? at h' ⊢;rw [show Tryz.prog.globalNamed "astrolabe/crc.four" = some 4 by kernel_rfl] at h' ⊢;simp only [Option.bind_some] at h' ⊢;rw [hc.block _ hl hD]; exact h'
theorem WX(p c:Nat)(xs:List Nat)(A:Option Addr)(n m:Nat)(w:World)(hc:c<65536)(hx:∀ x∈xs,x<256)(hv:Sl w (.slice A n m) (bU xs))(hA:0<xs.length->∀ a,A=some a->a.block≠p)(hn:n<=100000)(hp:aC w p 21 [.int .i32 c])(ht:gZ w)(hg:p≠4) :
 Calls Tryz.prog 210 #[.slice A n m,.pointer (some ⟨p,0,none⟩)] w fun e w'=>e=.returned (.int .i32 (bP c xs:Nat))/\ah w w' [p]/\aC w' p 21 [.int .i32 (bP c xs:Nat)]:=by
 have hlen:n=xs.length:=by
  obtain⟨A',c',he,_,_⟩:=hv;injection he with _ e _;rw [e,fD]
 subst hlen;have HC:=hide (ah.refl w [p]);have HV:=hide hv;have HT:=hide ht;have HP:=hide hp;clear hv ht hp;go_enter Tryz.func210,Tryz.ntmps210
 go_wp2_with fail
 go_loopw [8] (fun v wr=>∃ i:Nat,v=.int .i64 i/\i<=xs.length/\Hid (ah w wr [p])/\Hid (aC wr p 21 [.int .i32 (bP c (xs.take i):Nat)])) (fun v _=>(xs.length - intOf v).toNat)
 case atStart=>exact⟨0,rfl,by omega,HC,by simpa [bP] using HP⟩
 case round =>
  obtain⟨i,rfl,hi,hcw,hb⟩:=hrel;by_cases h:i<xs.length
  . have hk:decide ((i:Int)<(xs.length:Int))=true:=by simpa using h
    obtain⟨b,off,rfl,hcell,_⟩:=(HV.out.aj hcw.out (fun A n c he=>by injection he with he _ _; simpa using hA (by omega) A he)).at_ (af7 xs i h);have hx1:=hx xs[i] (List.getElem_mem h);have hbl:=hb.out.cell' (i:=0) rfl;have hfz:=hb.out.frozen 0;have hs:=SK (bP c (xs.take i)) xs[i] (FM hc _) hx1 _ (HT.out.aj hcw.out (by simpa using Ne.symm hg));have hfin:=hide (acN c xs i h);have hb2:=hide (hb.out.aK 0 (.int .i32 (rO (bP c (xs.take i)) xs[i]:Nat)));have hc2:=hide (hcw.out.setCell ⟨p,0,none⟩ (.int .i32 (rO (bP c (xs.take i)) xs[i]:Nat)) (.inl (by simp)));have hw:wrap64 ((i:Int)+1)=((i+1:Nat):Int):=by unfold wrap64; omega
    generalize bP c (xs.take i)=f at *;generalize xs[i]=x at *;have HS:=hide hs;clear hs hx1 hcw hb;go_wp2_with fail
    refine HS.out.mono ?_;rintro e w1 ⟨rfl,rfl⟩;clear HS;go_wp2;go_roundw
    case rel=>exact⟨i+1,by go_num,by omega,hc2,by rw [hfin.out]; exact hb2⟩
    case measure=>simp [intOf]; omega
  . have hk:decide ((i:Int)<(xs.length:Int))=false:=by simpa using h
    have hi':i=xs.length:=by omega
    subst hi';have hbl:=hb.out.cell' (i:=0) rfl;rw [List.take_length] at hb hbl;go_wp2;go_ret;exact⟨rfl,hcw.out,hb.out⟩
theorem Qe(w:World):Calls Tryz.prog 133 #[] w fun e w'=>e=.returned (.func (.func 210) #[] #[.pointer (some ⟨w.heap.size,0,none⟩)])/\ah w w' []/\aC w' w.heap.size 21 [.int .i32 65535]:=by
 go_enter Tryz.func133,Tryz.ntmps133
 go_wp2;go_ret;exact⟨rfl,(ah.refl w []).alloc _,aC.new w _ _⟩
theorem aaC(xs:List Nat)(k:Nat)(h:k<xs.length):(bU xs)[k]?=some (.int .u8 (xs.getD k 0:Nat)):=by simp [bU,h,List.getD]
theorem info_parts'{t:TypeId}{z:Value}{n m:Nat}(h:(Tryz.prog.info? t).map (fun i=>(i.zero,i.size,i.bytes))=some (some z,n,m)) :
 ∃ i,Tryz.prog.info? t=some i/\i.zero=some z/\i.size=n/\i.bytes=m:=by
 cases hi:Tryz.prog.info? t with
 | none=>rw [hi] at h; cases h
 | some i =>
  rw [hi] at h;simp only [Option.map_some,Option.some.injEq,Prod.mk.injEq] at h;exact⟨i,rfl,h.1,h.2.1,h.2.2⟩
theorem agk:(Tryz.prog.info? 5).map (fun i=>(i.zero,i.size,i.bytes))=some (some (.int .u8 0),1,1):=by kernel_rfl
theorem anC(xs:List Nat):∀ u∈bU xs,u.oneCell'=true:=fun u hu=>by
 unfold bU at hu;obtain⟨x,_,rfl⟩:=List.mem_map.1 hu;rfl
theorem row0 (w:World):(w.alloc (.cells #[] 5)).ownsRow w.heap.size 5 1 (.slice (some ⟨w.heap.size,0,none⟩) 0 0) 0 [] :=
 ⟨rfl,.inr ⟨w.heap.size,0,#[],rfl,Nat.le_refl _,heap_alloc_new w _,Nat.le_refl _,Nat.zero_le _,rfl,rfl⟩⟩
theorem bne_cast(a b:Nat):((a:Int) != (b:Int))=!(a==b):=by
 cases h:a==b with
 | true =>
  have e:a=b:=by simpa using h
  subst e;simp
 | false =>
  have e:a≠b:=by simpa using h
  have e2:(a:Int)≠b:=by omega
  simpa using e2
def ny(xs:List Nat)(n:Nat):Bool:=bP 65535 (xs.take n) / 256==xs.getD n 0&&bP 65535 (xs.take n)%256==xs.getD (n+1) 0
theorem S_(xs:List Nat)(n:Nat)(g off m:Nat)(w:World)(hlen:xs.length=n+2)(hx:∀ x∈xs,x<256)(hv:Sl w (.slice (some ⟨g,off,none⟩) (n+2) m) (bU xs))(hn:n<=10000)(ht:gZ w) :
 Calls Tryz.prog 74 #[.slice (some ⟨g,off,none⟩) (n+2) m] w fun e w'=>ah w w' []/\∃ y,e=.returned (.tuple #[y,.int .i64 (bif ny xs n then 0 else 7)])/\Sl w' y (bif ny xs n then bU (xs.take n) else []):=by
 have HV:=hide hv;have HT:=hide ht;clear hv ht;have k1:decide (((n+2:Nat):Int)<2)=false:=by simp; omega
 have e1:wrap64 (((n+2:Nat):Int) - 2)=(n:Int):=by unfold wrap64; omega
 go_enter Tryz.func74,Tryz.ntmps74
 go_wp2_with fail
 refine(Qe _).mono ?_;rintro e w1 ⟨rfl,hc1,hb1⟩
 have hm:n+2<=m:=by
  obtain⟨A',c',he,h1,_⟩:=HV.out;injection he with _ _ e;rw [fD] at h1;omega
 have hm1:(n:Int)<=(m:Int):=by omega
 have hm0:¬ m=0:=by omega
 have hgl:g<w.heap.size:=by
  obtain⟨b,o,hb,_,hlt⟩:=HV.out.at_ (af7 xs 0 (by omega));injection hb with hb;injection hb with hb;omega
 have HV1:=hide (HV.out.keep hc1)
 have hsub:Sl w1 (.slice (some ⟨g,off,none⟩) n m) (bU (xs.take n)):=by
  obtain⟨A',c',he,h1,h2⟩:=HV1.out;injection he with e1 e2 e3;subst e1 e3;have hl:(bU (xs.take n)).length=n:=by rw [fD,List.length_take]; omega
  refine⟨_,m,by rw [hl],by rw [hl]; omega,fun h0=>?_⟩;obtain⟨b,o,hb,hk⟩:=h2 (by rw [fD]; omega);refine⟨b,o,hb,fun k hk'=>?_⟩;rw [hl] at hk';rw [hk k (by rw [fD]; omega)];unfold bU;rw [List.map_take,List.getElem?_take,if_pos hk']
 have HS:=hide hsub;have hF:=FM (c:=65535) (by decide) (xs.take n);have A:=hide (WX w.heap.size 65535 (xs.take n) (some ⟨g,off,none⟩) n m w1 (by decide) (fun x h=>hx x (List.mem_of_mem_take h)) hsub (fun _ a ha=>by injection ha with ha; subst ha; show g≠_; omega) (by omega) hb1 (HT.out.aj hc1 (by simp)) (by have:=HT.out.lt; omega));have hx0:=HV1.out.at_ (aaC xs n (by omega));have hx1:=HV1.out.at_ (aaC xs (n+1) (by omega));obtain⟨_,_,hb0,hc0,_⟩:=hx0;injection hb0 with hb0;injection hb0 with hb0 hb0';subst hb0 hb0';obtain⟨_,_,hb0,hc0',_⟩:=hx1;injection hb0 with hb0;injection hb0 with hb0 hb0';subst hb0 hb0';have HC:=hide hc1;clear hb1 hc1 hsub HV HT;go_wp2_with fail
 refine A.out.mono ?_;rintro e w2 ⟨rfl,hc2,_⟩;have X0:=hc2.cell hc0 (by simp; omega);have X1:=hc2.cell hc0' (by simp; omega);have HS2:=hide (HS.out.aj hc2 (fun A n c he=>by injection he with he _ _; injection he with he; subst he; simp; omega));have HC2:=hide (HC.out.trans hc2 (D:=[]) (fun k hk=>by simp at hk; subst hk; exact .inr (Nat.le_refl _)));clear A HV1 HS HC hc2;have q1:((bP 65535 (xs.take n):Nat):Int) / 256=((bP 65535 (xs.take n) / 256:Nat):Int):=by omega
 have q2:IntKind.u8.wrap ((bP 65535 (xs.take n) / 256:Nat):Int)=((bP 65535 (xs.take n) / 256:Nat):Int):=by rw [IntKind.wrap_u8]; omega
 have q3:IntKind.u8.wrap ((bP 65535 (xs.take n):Nat):Int)=((bP 65535 (xs.take n)%256:Nat):Int):=by rw [IntKind.wrap_u8]; omega
 have e2:wrap64 ((n:Int)+1)=((n+1:Nat):Int):=by unfold wrap64; omega
 have Qj:=hide (show ny xs n=((bP 65535 (xs.take n) / 256==xs.getD n 0)&&(bP 65535 (xs.take n)%256==xs.getD (n+1) 0)) from rfl);generalize bP 65535 (xs.take n)=F at *;generalize xs.getD n 0=x0 at *;generalize xs.getD (n+1) 0=x1 at *
 have gen:∀ b1 b2:Bool,(F / 256==x0)=b1->(F%256==x1)=b2->(((F / 256:Nat):Int) != (x0:Int))=!b1/\(((F%256:Nat):Int) != (x1:Int))=!b2:=fun b1 b2 h1 h2=>by
  rw [<- h1,<- h2];exact⟨bne_cast _ _,bne_cast _ _⟩
 clear hc0 hc0'
 cases h1:F / 256==x0 with
 | false =>
  obtain⟨k2,_⟩:=gen _ _ h1 rfl;rw [h1] at Qj;clear h1 hF gen;generalize ((F / 256:Nat):Int)=H at *;generalize ((F%256:Nat):Int)=L at *;generalize (F:Int)=C at *;go_wp2;go_ret2;rw [Qj.out];exact⟨HC2.out,_,rfl,none,0,rfl,Nat.le_refl _,fun h=>absurd h (by simp)⟩
 | true =>
  cases h2:F%256==x1 with
  | false =>
   obtain⟨k2,k3⟩:=gen _ _ h1 h2;rw [h1,h2] at Qj;clear h1 h2 hF gen;generalize ((F / 256:Nat):Int)=H at *;generalize ((F%256:Nat):Int)=L at *;generalize (F:Int)=C at *;go_wp2;go_ret2;rw [Qj.out];exact⟨HC2.out,_,rfl,none,0,rfl,Nat.le_refl _,fun h=>absurd h (by simp)⟩
  | true =>
   obtain⟨k2,k3⟩:=gen _ _ h1 h2;rw [h1,h2] at Qj;clear h1 h2 hF gen;generalize ((F / 256:Nat):Int)=H at *;generalize ((F%256:Nat):Int)=L at *;generalize (F:Int)=C at *;have hrow:=row0 w2;have hsl:=HS2.out.keep ((ah.refl w2 []).alloc (.cells #[] 5));have hl:(bU (xs.take n)).length=n:=by rw [fD,List.length_take]; omega
   have h63:0+(bU (xs.take n)).length<=maxLen:=by rw [hl]; exact Nat.le_trans (by omega:0+n<=10000) (by decide)
   have hby:(0+(bU (xs.take n)).length)*1<=140737488355328:=by rw [hl]; omega
   have hbs:w2.heap.size<=(w2.alloc (.cells #[] 5)).heap.size:=by rw [size_alloc]; omega
   obtain⟨i0,hi0,hz0,hz1,hz2⟩:=info_parts' agk;go_wp2_with (at_builtin; refine KN rfl (.tmp 37) (.tmp 40) 29 rfl w2.heap.size 5 i0 (.int .u8 0) 1 Tryz.underlying29 hi0 hz0 hz1 hz2 rfl (.slice (some ⟨w2.heap.size,0,none⟩) 0 0) 0 [] rfl hrow (.slice (some ⟨g,off,none⟩) n m) (bU (xs.take n)) rfl hsl (anC _) h63 hby hbs ?_; intro v1 w3 hown hgr hat);go_ret2;rw [Qj.out];have hc3:=ah.fZ (D:=[w2.heap.size]) hgr.out (fun k hk=>by injection hk with hk; subst hk; exact .inl (by simp));exact⟨HC2.out.trans (((ah.refl w2 []).alloc (.cells #[] 5)).trans hc3 (D:=[]) (fun k hk=>by simp at hk; subst hk; exact .inr (Nat.le_refl _))) (D:=[]) (by simp),_,rfl,by have:=Sl.own hown.out; simpa using this⟩
def vk(xs:List Nat):List Nat:=xs++[bP 65535 xs / 256,bP 65535 xs%256]
end

section
open Go.RowKit
def nX(x:Nat):Nat:=if 32768<=x then(2*x%65536) ^^^ 4129 else 2*x%65536
theorem uF(x:Nat):nX x<65536:=by
 unfold nX;split
 . exact Nat.xor_lt_two_pow (n:=16) (Nat.mod_lt _ (by decide)) (by decide)
 . exact Nat.mod_lt _ (by decide)
def fB (v:BitVec 16):BitVec 16:=(v <<< 1) ^^^ (bif v.msb then 4129#16 else 0#16)
theorem arj(u v:BitVec 16):fB (u ^^^ v)=fB u ^^^ fB v:=by
 unfold fB;rw [BitVec.msb_xor,BitVec.shiftLeft_xor_distrib]
 cases u.msb<;>cases v.msb<;>simp only [Bool.xor_false,Bool.false_xor,Bool.xor_self,Bool.bne_true,Bool.bne_false,Bool.not_false,Bool.not_true,cond_true,cond_false,BitVec.xor_zero]<;>(ext i hi; simp<;>grind)
theorem Qk(v:BitVec 16):nX v.toNat=(fB v).toNat:=by
 have hv:=v.isLt;unfold nX fB
 have e:(v <<< 1).toNat=2*v.toNat%65536:=by
  rw [BitVec.toNat_shiftLeft,Nat.shiftLeft_eq]; omega
 have m:v.msb=decide (32768<=v.toNat):=by rw [BitVec.msb_eq_decide]
 rw [BitVec.toNat_xor,e,m];by_cases h:32768<=v.toNat
 . rw [if_pos h,decide_eq_true h]; rfl
 . rw [if_neg h,decide_eq_false h]; simp
theorem FQ{x y:Nat}(hx:x<65536)(hy:y<65536):nX (x ^^^ y)=nX x ^^^ nX y:=by
 have ex:(BitVec.ofNat 16 x).toNat=x:=by rw [BitVec.toNat_ofNat]; exact Nat.mod_eq_of_lt hx
 have ey:(BitVec.ofNat 16 y).toNat=y:=by rw [BitVec.toNat_ofNat]; exact Nat.mod_eq_of_lt hy
 have h:=Qk (BitVec.ofNat 16 x ^^^ BitVec.ofNat 16 y);rw [arj,BitVec.toNat_xor,BitVec.toNat_xor,<- Qk,<- Qk,ex,ey] at h;exact h
def yI (x:Nat):Nat:=nX (nX (nX (nX x)))
theorem anD(x:Nat):yI x<65536:=uF _
theorem Xn{x y:Nat}(hx:x<65536)(hy:y<65536):yI (x ^^^ y)=yI x ^^^ yI y:=by
 unfold yI;rw [FQ hx hy,FQ (uF _) (uF _),FQ (uF _) (uF _),FQ (uF _) (uF _)]
theorem ajr:∀ i,i<16->yI (4096*i)=wZ i:=by decide +kernel
theorem Xo{x:Nat}(h:x<4096):yI x=16*x:=by
 unfold yI;have s:∀ y,y<32768->nX y=2*y:=fun y hy=>by unfold nX; rw [if_neg (by omega)]; omega
 rw [s x (by omega),s (2*x) (by omega),s (2*(2*x)) (by omega),s (2*(2*(2*x))) (by omega)];omega
theorem aaD(x:Nat):x=(4096*(x / 4096)) ^^^ (x%4096):=by
 have h:=Nat.two_pow_add_eq_or_of_lt (i:=12) (b:=x%4096) (Nat.mod_lt _ (by decide)) (x / 4096)
 have h2:(4096*(x / 4096)) ^^^ (x%4096)=(4096*(x / 4096)) ||| (x%4096):=by
  apply Nat.eq_of_testBit_eq;intro i;rw [Nat.testBit_xor,Nat.testBit_or];by_cases hi:i<12
  . have : (4096*(x / 4096)).testBit i=false := by
     have:=Nat.testBit_two_pow_mul (i:=12) (a:=x / 4096) (j:=i);rw [show(2:Nat) ^ 12=4096 from rfl] at this;rw [this]; simp; omega
    rw [this]; simp
  . have : (x%4096).testBit i=false := Nat.testBit_lt_two_pow (Nat.lt_of_lt_of_le (Nat.mod_lt _ (by decide)) (by
     have:=Nat.pow_le_pow_right (n:=2) (by decide) (show 12<=i by omega)
     simpa using this))
    rw [this]; simp
 rw [h2,<- show 2 ^ 12*(x / 4096) ||| x%4096=4096*(x / 4096) ||| x%4096 from rfl,<- h];omega
theorem Xp{c n:Nat}(hc:c<65536)(hn:n<16):uQ c n=yI (c ^^^ (4096*n)):=by
 have hx:c / 4096 ^^^ n<16:=Nat.xor_lt_two_pow (n:=4) (by omega) hn
 have e:c ^^^ (4096*n)=(4096*(c / 4096 ^^^ n)) ^^^ (c%4096):=by
  have h1:4096*(c / 4096 ^^^ n)=(4096*(c / 4096)) ^^^ (4096*n):=by
   have:=Nat.shiftLeft_xor_distrib (a:=c / 4096) (b:=n) (i:=12);simp only [Nat.shiftLeft_eq] at this;rw [Nat.mul_comm 4096,Nat.mul_comm 4096 (c / 4096),Nat.mul_comm 4096 n];exact this
  rw [h1]
  conv=>lhs; rw [aaD c]
  rw [Nat.xor_assoc,Nat.xor_assoc,Nat.xor_comm (c%4096)]
 rw [e,Xn (by omega) (by omega),ajr _ hx,Xo (Nat.mod_lt _ (by decide))];unfold uQ;have h3:∀ a b:Nat,(a ^^^ b)%65536=(a%65536) ^^^ (b%65536):=fun a b=>Nat.xor_mod_two_pow (n:=16);rw [h3,Nat.mod_eq_of_lt (Q9 _ hx).2,Nat.xor_comm,show c*16%65536=16*(c%4096) by omega]
def Iq (x:Nat):Nat:=yI (yI x)
theorem RP{c b:Nat}(hc:c<65536)(hb:b<256):rO c b=Iq (c ^^^ (256*b)):=by
 unfold rO Iq
 have h1:256*b=(4096*(b / 16)) ^^^ (256*(b%16)):=by
  have:=aaD (256*b);rw [show 256*b / 4096=b / 16 by omega,show 256*b%4096=256*(b%16) by omega] at this;exact this
 have l1:c ^^^ (4096*(b / 16))<65536:=Nat.xor_lt_two_pow (n:=16) hc (by omega);rw [Xp (PS _ _) (by omega),Xp hc (by omega),h1,<- Nat.xor_assoc,Xn (x:=c ^^^ 4096*(b / 16)) l1 (by omega),Xo (x:=256*(b%16)) (by omega),show 16*(256*(b%16))=4096*(b%16) by omega]
end

section
open Go.RowKit
theorem anE(a b i:Nat):(a ^^^ b) / 2 ^ i%2=if a / 2 ^ i%2=b / 2 ^ i%2 then 0 else 1:=by
 have h:=Nat.testBit_xor a b i;rw [Nat.testBit_eq_decide_div_mod_eq,Nat.testBit_eq_decide_div_mod_eq,Nat.testBit_eq_decide_div_mod_eq] at h;have hx:=Nat.mod_lt ((a ^^^ b) / 2 ^ i) (show 0<2 by decide);have ha:=Nat.mod_lt (a / 2 ^ i) (show 0<2 by decide);have hb:=Nat.mod_lt (b / 2 ^ i) (show 0<2 by decide);generalize (a ^^^ b) / 2 ^ i%2=x at *;generalize a / 2 ^ i%2=y at *;generalize b / 2 ^ i%2=z at *;rcases (by omega:x=0\/x=1) with rfl | rfl<;>rcases (by omega:y=0\/y=1) with rfl | rfl<;>rcases (by omega:z=0\/z=1) with rfl | rfl<;>simp_all
theorem ajs(a b i:Nat):(a ^^^ b)%2 ^ (i+1)=(a ^^^ b)%2 ^ i+(if a / 2 ^ i%2=b / 2 ^ i%2 then 0 else 2 ^ i):=by
 have h:(a ^^^ b)%2 ^ (i+1)=(a ^^^ b)%2 ^ i+2 ^ i*((a ^^^ b) / 2 ^ i%2):=by rw [Nat.pow_succ,Nat.mod_mul]
 rw [h,anE];split<;>simp
def lH:Nat->Nat->Nat
 | 0,x=>x
 | i+1,x=>nX (lH i x)
theorem aun(x:Nat):lH 8 x=Iq x:=rfl
theorem ark{x:Nat}(h:x<65536):∀ i,lH i x<65536
 | 0=>h
 | i+1=>uF _
