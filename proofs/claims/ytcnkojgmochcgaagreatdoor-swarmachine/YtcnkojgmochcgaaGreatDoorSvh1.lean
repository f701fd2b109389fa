import Derived.Test.YtcnkojgmochcgaaGreatDoorSvY
noncomputable section
namespace Go.Proofs.Vq
open Go.Ab Go.Ab.Lf Go.Proofs.Sw
set_option maxRecDepth 1000000
def y1:List (Nat×Nat×Nat):=[(64887,8,23),(64888,8,24),(64889,8,25),(64891,8,27),(64910,16,14),(64911,16,15),(64912,16,16)]
theorem alO:Al Fb y1:=by
 unfold y1
 repeat refine .cons ⟨⟨by kernel_rfl,by kernel_rfl,fun b=>by kernel_rfl,by kernel_rfl⟩,by kernel_rfl,by unfold Kq;decide,by kernel_rfl⟩ ?_
 exact .nil
def y5:List (Nat×Nat×Nat):=[(64864,8,0),(64865,8,1),(64866,8,2),(64896,16,0),(64897,16,1),(64928,32,0),(64929,32,1)]
theorem alP:Al Fu y5:=by
 unfold y5
 repeat refine .cons ⟨⟨by kernel_rfl,by kernel_rfl,fun b=>by kernel_rfl,by kernel_rfl⟩,by kernel_rfl,by decide,by kernel_rfl⟩ ?_
 exact .nil
def y9:List (Nat×Nat×Nat):=[(64803,8,0),(64804,8,1),(64805,8,2),(64806,8,3),(64807,8,4),(64808,8,5),(64809,8,6)]
theorem alQ:Al Fc y9:=by
 unfold y9
 repeat refine .cons ⟨⟨by kernel_rfl,by kernel_rfl,fun b=>by kernel_rfl,by kernel_rfl⟩,by kernel_rfl,by decide,by kernel_rfl,by kernel_rfl⟩ ?_
 exact .nil
def y13:List (Nat×Nat×Nat):=[(64831,32,8),(64832,32,9),(64982,64,0),(64983,64,1),(64984,64,2),(64985,64,4),(64986,64,6)]
theorem af9:Al Fc y13:=by
 unfold y13
 repeat refine .cons ⟨⟨by kernel_rfl,by kernel_rfl,fun b=>by kernel_rfl,by kernel_rfl⟩,by kernel_rfl,by decide,by kernel_rfl,by kernel_rfl⟩ ?_
 exact .nil
end Go.Proofs.Vq
