/- errors.As at a target of the table's own kind of error (the kit's worked example of it, turned to this program). -/
import Derived.Test.YtnkmmaijigihpaaGreatDoorProg
import Derived.WalkKit
import Derived.Stop.Asserts
import Derived.RowKitTokens
namespace Go.Proofs.YtnkmmaijigihpaaGreatDoor
open Go.RowKit Go.Extern.Stop Go.Stop Go.Extern
theorem as_nil (t:Value) (w:World) :
 Calls Tryz.prog 177 #[.nilIface,t] w fun e w' => e = .returned (.bool false)/\w' = w:=by
 go_enter Tryz.func177,Tryz.ntmps177
 go_wp2;go_ret;exact ⟨rfl,rfl⟩
theorem Rk (t:Addr) (w:World):(ReflectliteValue.unpack (.iface 254 (.pointer (some t)))).run Tryz.prog w
 = .ok (.agg #[.pointer (some ⟨11,254,none⟩),.pointer (some ⟨w.heap.size,0,none⟩),.int .u64 150]) (w.alloc (.cells #[.pointer (some t)] 254)):=by kernel_rfl
theorem aaR (a : Addr) (w : World) : (ReflectliteValue.methodAny (ReflectliteValue.valueError "reflectlite.Value.Type" 0) (fun t _ _ _ => ReflectliteType.toType t) #[.agg #[.pointer (some ⟨11, 254, none⟩), .pointer (some a), .int .u64 150]]).run Tryz.prog w
 = .ok (.iface 263 (.agg #[.pointer (some ⟨11,254,none⟩)])) w:=by kernel_rfl
theorem OX (h : Value) (w : World) : (Go.method 494 263 (.agg #[h]) "Kind").run Tryz.prog w = .ok (312, h) w := by kernel_rfl
theorem aaS (w:World):((ReflectliteType.abiMethod fun t => (fun a:Nat => Value.int IntKind.u8 (a:Int)) <$> Rtype.kind t) #[.pointer (some ⟨11,254,none⟩)]).run Tryz.prog w = .ok (.int .u8 22) w:=by kernel_rfl
theorem aaT (w:World):((ReflectliteType.abiMethod fun t => (fun a:Nat => Value.int IntKind.u8 (a:Int)) <$> Rtype.kind t) #[.pointer (some ⟨11,252,none⟩)]).run Tryz.prog w = .ok (.int .u8 22) w:=by kernel_rfl
theorem rlm (z:Sem Value) (f:TypeId->Addr->Nat->Nat->Sem Value) (v:Value) :
 ReflectliteValue.method z f #[v] = (do match <- ReflectliteValue.parts v with | none => z | some (t,a,fl) => f t a fl (fl % 32)):=rfl
theorem JD (a:Addr) (w:World):(ReflectliteValue.parts (.agg #[.pointer (some ⟨11,254,none⟩),.pointer (some a),.int .u64 150])).run Tryz.prog w = .ok (some (254,a,150)) w:=by kernel_rfl
theorem Ym (a p:Addr) (W:World) (ha:W.cell? a = some (.pointer (some p))) :
 (ReflectliteValue.method (ReflectliteValue.valueError "reflectlite.Value.IsNil" 0) ReflectliteValue.isNil #[.agg #[.pointer (some ⟨11, 254, none⟩), .pointer (some a), .int .u64 150]]).run Tryz.prog W = .ok (.bool false) W := by
 rw [rlm];simp only [Sem.run_bind,JD,Result.andThen];simp [ReflectliteValue.isNil,loadVar,isAgg,underlying,Tryz.underlying254,ha,Result.andThen]
theorem OY (h : Value) (w : World) : (Go.method 494 263 (.agg #[h]) "Elem").run Tryz.prog w = .ok (340, .agg #[h]) w := by kernel_rfl
theorem DN (h : Value) (w : World) : (Go.method 494 263 (.agg #[h]) "Implements").run Tryz.prog w = .ok (341, .agg #[h]) w := by kernel_rfl
theorem AP (h : Value) (w : World) : (Go.method 494 263 (.agg #[h]) "AssignableTo").run Tryz.prog w = .ok (338, .agg #[h]) w := by kernel_rfl
theorem aaU (w:World):(ReflectliteType.method ReflectliteType.elem #[.agg #[.pointer (some ⟨11,254,none⟩)]]).run Tryz.prog w = .ok (.iface 263 (.agg #[.pointer (some ⟨11,252,none⟩)])) w:=by kernel_rfl
theorem JE (w : World) : (ReflectliteType.relation "Implements" ReflectliteType.implements_ #[.agg #[.pointer (some ⟨11, 252, none⟩)], .iface 263 (.agg #[.pointer (some ⟨11, 113, none⟩)])]).run Tryz.prog w = .ok (.bool true) w := by kernel_rfl
theorem Va (v:Value) (w:World):(ReflectliteType.typeOf #[.iface 252 v]).run Tryz.prog w = .ok (.iface 263 (.agg #[.pointer (some ⟨11,252,none⟩)])) w:=by kernel_rfl
theorem JF (w : World) : (ReflectliteType.relation "AssignableTo" ReflectliteType.assignableTo #[.agg #[.pointer (some ⟨11, 252, none⟩)], .iface 263 (.agg #[.pointer (some ⟨11, 252, none⟩)])]).run Tryz.prog w = .ok (.bool true) w := by kernel_rfl
theorem Rl (e:Addr) (w:World):(ReflectliteValue.unpack (.iface 252 (.pointer (some e)))).run Tryz.prog w
 = .ok (.agg #[.pointer (some ⟨11,252,none⟩),.pointer (some ⟨w.heap.size,0,none⟩),.int .u64 150]) (w.alloc (.cells #[.pointer (some e)] 252)):=by kernel_rfl
theorem Vb (w:World):(Rtype.elem? 254).run Tryz.prog w = .ok (some 252) w:=by kernel_rfl
theorem ahD (p:Addr) (w:World):(ReflectliteValue.mk 252 p ReflectliteValue.flagAddr).run Tryz.prog w = .ok (.agg #[.pointer (some ⟨11,252,none⟩),.pointer (some p),.int .u64 406]) w:=by kernel_rfl
theorem Yn (a p:Addr) (W:World) (ha:W.cell? a = some (.pointer (some p))) :
 (ReflectliteValue.method (ReflectliteValue.valueError "reflectlite.Value.Elem" 0) ReflectliteValue.elem #[.agg #[.pointer (some ⟨11, 254, none⟩), .pointer (some a), .int .u64 150]]).run Tryz.prog W
   = .ok (.agg #[.pointer (some ⟨11,252,none⟩),.pointer (some p),.int .u64 406]) W:=by
 rw [rlm];simp only [Sem.run_bind,JD,Result.andThen];simp [ReflectliteValue.elem,loadVar,isAgg,underlying,Tryz.underlying254,ha,Result.andThen,Vb,ahD]
theorem rls (v x:Value):ReflectliteValue.set #[v,x] = (do
 let (some (dst,a,fl),some (src,b,_)):=(<- ReflectliteValue.parts v,<- ReflectliteValue.parts x)
  | unsupported (.noEntry "extern/(internal/reflectlite.Value).Set.zeroValue")
 if fl / ReflectliteValue.flagAddr % 2 == 0 then unsupported (.noEntry "extern/(internal/reflectlite.Value).Set.unaddressable")
 let val <- loadVar src b
 if <- Rtype.directlyAssignable dst src then storeVar dst a val
 else if <- Rtype.implements dst src then
  if (<- Rtype.kind src) == 20 then
   match val with
   | .nilIface => unsupported (.noEntry "extern/reflectlite: a nil value of one interface type handed on as a value of another")
   | _ => storeVar dst a val
  else storeVar dst a (.iface src val)
 else panicString ("reflectlite.Set: value of type " ++ (← Rtype.spelt src) ++ " is not assignable to type " ++ (← Rtype.spelt dst))
 pure (.tuple #[])):=rfl
theorem Vd (a:Addr) (w:World):(ReflectliteValue.parts (.agg #[.pointer (some ⟨11,252,none⟩),.pointer (some a),.int .u64 406])).run Tryz.prog w = .ok (some (252,a,406)) w:=by kernel_rfl
theorem Yo (a:Addr) (w:World):(ReflectliteValue.parts (.agg #[.pointer (some ⟨11,252,none⟩),.pointer (some a),.int .u64 150])).run Tryz.prog w = .ok (some (252,a,150)) w:=by kernel_rfl
theorem Ve (w:World):(Rtype.directlyAssignable 252 252).run Tryz.prog w = .ok true w:=by kernel_rfl
theorem aea (ta b e:Addr) (old:Value) (W:World) (hb:W.cell? b = some (.pointer (some e))) (ht:W.cell? ta = some old) (hf:W.frozen? ta = false) :
 (ReflectliteValue.set #[.agg #[.pointer (some ⟨11,252,none⟩),.pointer (some ta),.int .u64 406],.agg #[.pointer (some ⟨11,252,none⟩),.pointer (some b),.int .u64 150]]).run Tryz.prog W
   = .ok (.tuple #[]) (W.setCell ta (.pointer (some e))):=by
 rw [rls];simp only [Sem.run_bind,Vd,Yo,Result.andThen];simp [ReflectliteValue.flagAddr,loadVar,isAgg,underlying,Tryz.underlying252,hb,Result.andThen,Ve,storeVar,Value.cells,storeCells,Addr.add];rw [run_store Tryz.prog W ta _ _ (by rfl)];simp [ht,hf]
set_option maxHeartbeats 4000000 in
theorem as_hit (e t:Addr) (old:Value) (w:World) (hg:w.cell? ⟨2,0,none⟩ = some (.iface 263 (.agg #[.pointer (some ⟨11,113,none⟩)]))) (ht0:w.cell? t = some old) (hf0:w.frozen? t = false) :
 Calls Tryz.prog 177 #[.iface 252 (.pointer (some e)),.iface 254 (.pointer (some t))] w fun ev w' => ev = .returned (.bool true)/\w' = ((((w.alloc (.cells #[.pointer (some t)] 254)).alloc (.cells #[.pointer (some ⟨11,254,none⟩),.pointer (some ⟨w.heap.size,0,none⟩),.int .u64 150] 284)).alloc (.cells #[.pointer (some ⟨11,254,none⟩),.pointer (some ⟨w.heap.size,0,none⟩),.int .u64 150] 284)).alloc (.cells #[.pointer (some e)] 252)).setCell t (.pointer (some e)):=by
 have h6:=@run_callFunc_extern Tryz.prog 200 _ (fun args => ReflectliteValue.unpack (args.getD 0 (.tuple #[]))) Tryz.func200 (by kernel_rfl) (by kernel_rfl) (by kernel_rfl) (by kernel_rfl);have h7 := @run_callFunc_extern Tryz.prog 201 _ (ReflectliteValue.methodAny (ReflectliteValue.valueError "reflectlite.Value.Type" 0) (fun t _ _ _ => ReflectliteType.toType t)) Tryz.func201 (by kernel_rfl) (by kernel_rfl) (by kernel_rfl) (by kernel_rfl);have h8 := @run_callFunc_extern Tryz.prog 202 _ (ReflectliteValue.method (ReflectliteValue.valueError "reflectlite.Value.IsNil" 0) ReflectliteValue.isNil) Tryz.func202 (by kernel_rfl) (by kernel_rfl) (by kernel_rfl) (by kernel_rfl);have h27:=@run_callFunc_extern Tryz.prog 312 _ (ReflectliteType.abiMethod fun t => do pure (.int .u8 (← Rtype.kind t))) Tryz.func312 (by kernel_rfl) (by kernel_rfl) (by kernel_rfl) (by kernel_rfl);have h37:=@run_callFunc_extern Tryz.prog 340 _ (ReflectliteType.method ReflectliteType.elem) Tryz.func340 (by kernel_rfl) (by kernel_rfl) (by kernel_rfl) (by kernel_rfl);have h38 := @run_callFunc_extern Tryz.prog 341 _ (ReflectliteType.relation "Implements" ReflectliteType.implements_) Tryz.func341 (by kernel_rfl) (by kernel_rfl) (by kernel_rfl) (by kernel_rfl);have h10:=@run_callFunc_extern Tryz.prog 149 _ ReflectliteType.typeOf Tryz.func149 (by kernel_rfl) (by kernel_rfl) (by kernel_rfl) (by kernel_rfl);have h35 := @run_callFunc_extern Tryz.prog 338 _ (ReflectliteType.relation "AssignableTo" ReflectliteType.assignableTo) Tryz.func338 (by kernel_rfl) (by kernel_rfl) (by kernel_rfl) (by kernel_rfl);have h11 := @run_callFunc_extern Tryz.prog 230 _ (ReflectliteValue.method (ReflectliteValue.valueError "reflectlite.Value.Elem" 0) ReflectliteValue.elem) Tryz.func230 (by kernel_rfl) (by kernel_rfl) (by kernel_rfl) (by kernel_rfl);have h12:=@run_callFunc_extern Tryz.prog 231 _ ReflectliteValue.set Tryz.func231 (by kernel_rfl) (by kernel_rfl) (by kernel_rfl) (by kernel_rfl);have tO:=Va;have mA:=AP;have a25:=JF;have v25:=Rl;have f6:=Rk;have f7:=aaR;have mK:=OX;have mE:=OY;have mI:=DN;have k27:=aaS;have k25:=aaT;have e27:=aaU;have i25:=JE;have n8:=Ym ⟨w.heap.size,0,none⟩ t ((w.alloc (.cells #[.pointer (some t)] 254)).alloc (.cells #[.pointer (some ⟨11,254,none⟩),.pointer (some ⟨w.heap.size,0,none⟩),.int .u64 150] 284)) (by simp);have hlt:2 < w.heap.size:=World.block_lt_of_cell? w _ hg
 have hg2:((w.alloc (.cells #[.pointer (some t)] 254)).alloc (.cells #[.pointer (some ⟨11,254,none⟩),.pointer (some ⟨w.heap.size,0,none⟩),.int .u64 150] 284)).cell? ⟨2,0,none⟩ = some (.iface 263 (.agg #[.pointer (some ⟨11,113,none⟩)])):=by
  rw [World.cell?_alloc_lt _ _ ⟨2,0,none⟩ (by simp; omega),World.cell?_alloc_lt _ _ ⟨2,0,none⟩ hlt]; exact hg
 have htl:t.block < w.heap.size:=by
  rcases Nat.lt_or_ge t.block w.heap.size with h | h
  . exact h
  . simp [World.cell?,Array.getElem?_eq_none h] at ht0
 have el:=Yn ⟨w.heap.size,0,none⟩ t (((w.alloc (.cells #[.pointer (some t)] 254)).alloc (.cells #[.pointer (some ⟨11,254,none⟩),.pointer (some ⟨w.heap.size,0,none⟩),.int .u64 150] 284)).alloc (.cells #[.pointer (some ⟨11,254,none⟩),.pointer (some ⟨w.heap.size,0,none⟩),.int .u64 150] 284)) (by rw [World.cell?_alloc_lt _ _ ⟨w.heap.size,0,none⟩ (by simp; omega)]; simp)
 have st:=aea t ⟨w.heap.size + 1 + 1 + 1,0,none⟩ e old ((((w.alloc (.cells #[.pointer (some t)] 254)).alloc (.cells #[.pointer (some ⟨11,254,none⟩),.pointer (some ⟨w.heap.size,0,none⟩),.int .u64 150] 284)).alloc (.cells #[.pointer (some ⟨11,254,none⟩),.pointer (some ⟨w.heap.size,0,none⟩),.int .u64 150] 284)).alloc (.cells #[.pointer (some e)] 252))
  (by rw [World.cell?_alloc_at _ _ _ _ (by simp)]; rfl)
  (by rw [World.cell?_alloc_lt _ _ t (by simp; omega),World.cell?_alloc_lt _ _ t (by simp; omega),World.cell?_alloc_lt _ _ t (by simp; omega),World.cell?_alloc_lt _ _ t htl]; exact ht0)
  (by rw [World.frozen?_alloc_old _ _ t (by simp; omega),World.frozen?_alloc_old _ _ t (by simp; omega),World.frozen?_alloc_old _ _ t (by simp; omega),World.frozen?_alloc_old _ _ t (Nat.ne_of_lt htl)]; exact hf0)
 go_enter Tryz.func177,Tryz.ntmps177
 go_wp2;refine wp_loop_rounds 1 ?_;rw [rounds_succ];go_wp2;go_ret;exact ⟨rfl,rfl⟩
end Go.Proofs.YtnkmmaijigihpaaGreatDoor
