/- works.Fed ahead of works.Sensed, reckoned by the kernel. -/
import Derived.Test.YtjmojlhnmkjdkaaGreatDoorDP11
set_option linter.unusedVariables false
namespace Go.Proofs.YtjmojlhnmkjdkaaGreatDoor
open Go Go.RowKit Ab Xi
set_option maxRecDepth 100000
theorem EN(b:MP):runK 5000 ((dF (rF b)).take 49) [0,1,2,3,4,5,6,7,8,9,10,11,12,13,14,15,16,17,18,19,27,28,29,30,31,32,33] [] D7 (fun ρ ps s=>some (ρ,ps,s))=some (acD,List.replicate 68 ⟨b.a,0,none⟩,stA):=by kernel_rfl
theorem evF(b:MP):(dF (rF b)).drop 49=.call 92 [.v (NT b),.v (.agg [.opq 20,.opq 21,.opq 22,.opq 23]),.v (.agg [.opq 60,.opq 64,.opq 68]),.v (.agg [.opq 72,.opq 76,.opq 80]),.v (.agg [.opq 84,.opq 88,.opq 92])] (.jm [.agg (bQ 4 93),.opq 97,.opq 98])::(dF (rF b)).drop 50:=by kernel_rfl
