import Derived.Test.YtcnkojgmochcgaaGreatDoorSvY
noncomputable section
namespace Go.Proofs.Vq
open Go.Ab Go.Ab.Lf Go.Proofs.Sw
set_option maxRecDepth 1000000
def y2:List (Nat×Nat×Nat):=[(64913,16,17),(64914,16,18),(64915,16,19),(64917,16,21),(64918,16,22),(64919,16,23),(64920,16,24)]
theorem alR:Al Fb y2:=by
 unfold y2
 repeat refine .cons ⟨⟨by kernel_rfl,by kernel_rfl,fun b=>by kernel_rfl,by kernel_rfl⟩,by kernel_rfl,by unfold Kq;decide,by kernel_rfl⟩ ?_
 exact .nil
def y6:List (Nat×Nat×Nat):=[(64960,64,0),(64961,64,1)]
theorem alS:Al Fu y6:=by
 unfold y6
 repeat refine .cons ⟨⟨by kernel_rfl,by kernel_rfl,fun b=>by kernel_rfl,by kernel_rfl⟩,by kernel_rfl,by decide,by kernel_rfl⟩ ?_
 exact .nil
def y10:List (Nat×Nat×Nat):=[(64810,8,7),(64811,8,8),(64812,8,9),(64813,16,0),(64814,16,1),(64815,16,2),(64816,16,3)]
theorem af':Al Fc y10:=by
 unfold y10
 repeat refine .cons ⟨⟨by kernel_rfl,by kernel_rfl,fun b=>by kernel_rfl,by kernel_rfl⟩,by kernel_rfl,by decide,by kernel_rfl,by kernel_rfl⟩ ?_
 exact .nil
def y14:List (Nat×Nat×Nat):=[(64987,64,8)]
theorem aga:Al Fc y14:=by
 unfold y14
 repeat refine .cons ⟨⟨by kernel_rfl,by kernel_rfl,fun b=>by kernel_rfl,by kernel_rfl⟩,by kernel_rfl,by decide,by kernel_rfl,by kernel_rfl⟩ ?_
 exact .nil
end Go.Proofs.Vq
