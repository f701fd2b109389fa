import Derived.Test.YtcnkojgmochcgaaGreatDoorSvY
noncomputable section
namespace Go.Proofs.Vq
open Go.Ab Go.Ab.Lf Go.Proofs.Sw
set_option maxRecDepth 1000000
def y3:List (Nat×Nat×Nat):=[(64921,16,25),(64923,16,27),(64942,32,14),(64945,32,17),(64949,32,21),(64950,32,22),(64951,32,23)]
theorem alT:Al Fb y3:=by
 unfold y3
 repeat refine .cons ⟨⟨by kernel_rfl,by kernel_rfl,fun b=>by kernel_rfl,by kernel_rfl⟩,by kernel_rfl,by unfold Kq;decide,by kernel_rfl⟩ ?_
 exact .nil
def y7:List (Nat×Nat×Nat):=[(64875,8,11),(64876,8,12),(64877,8,13),(64907,16,11),(64908,16,12),(64909,16,13),(64939,32,11)]
theorem alU:Al Fs y7:=by
 unfold y7
 repeat refine .cons ⟨⟨by kernel_rfl,by kernel_rfl,fun b=>by kernel_rfl,by kernel_rfl⟩,by kernel_rfl,by decide,by kernel_rfl⟩ ?_
 exact .nil
def y11:List (Nat×Nat×Nat):=[(64817,16,4),(64818,16,5),(64819,16,6),(64820,16,7),(64821,16,8),(64822,16,9),(64823,32,0)]
theorem agb:Al Fc y11:=by
 unfold y11
 repeat refine .cons ⟨⟨by kernel_rfl,by kernel_rfl,fun b=>by kernel_rfl,by kernel_rfl⟩,by kernel_rfl,by decide,by kernel_rfl,by kernel_rfl⟩ ?_
 exact .nil
def y15:List (Nat×Nat×Nat):=[(64867,8,3),(64868,8,4),(64899,16,3),(64900,16,4),(64931,32,3),(64932,32,4),(64963,64,3)]
theorem agc:Al Ft y15:=by
 unfold y15
 repeat refine .cons ⟨⟨by kernel_rfl,by kernel_rfl,fun b=>by kernel_rfl,by kernel_rfl⟩,by kernel_rfl,by decide,by kernel_rfl⟩ ?_
 exact .nil
end Go.Proofs.Vq
