import Derived.Test.YtcnkojgmochcgaaGreatDoorSvY
noncomputable section
namespace Go.Proofs.Vq
open Go.Ab Go.Ab.Lf Go.Proofs.Sw
set_option maxRecDepth 1000000
def y0:List (Nat×Nat×Nat):=[(64878,8,14),(64879,8,15),(64880,8,16),(64881,8,17),(64882,8,18),(64883,8,19),(64886,8,22)]
theorem alL:Al Fb y0:=by
 unfold y0
 repeat refine .cons ⟨⟨by kernel_rfl,by kernel_rfl,fun b=>by kernel_rfl,by kernel_rfl⟩,by kernel_rfl,by unfold Kq;decide,by kernel_rfl⟩ ?_
 exact .nil
def y4:List (Nat×Nat×Nat):=[(64952,32,24),(64953,32,25),(64974,64,14),(64977,64,17),(64981,64,21)]
theorem alM:Al Fb y4:=by
 unfold y4
 repeat refine .cons ⟨⟨by kernel_rfl,by kernel_rfl,fun b=>by kernel_rfl,by kernel_rfl⟩,by kernel_rfl,by unfold Kq;decide,by kernel_rfl⟩ ?_
 exact .nil
def y8:List (Nat×Nat×Nat):=[(64940,32,12),(64941,32,13),(64971,64,11),(64972,64,12),(64973,64,13)]
theorem alN:Al Fs y8:=by
 unfold y8
 repeat refine .cons ⟨⟨by kernel_rfl,by kernel_rfl,fun b=>by kernel_rfl,by kernel_rfl⟩,by kernel_rfl,by decide,by kernel_rfl⟩ ?_
 exact .nil
def y12:List (Nat×Nat×Nat):=[(64824,32,1),(64825,32,2),(64826,32,3),(64827,32,4),(64828,32,5),(64829,32,6),(64830,32,7)]
theorem af7:Al Fc y12:=by
 unfold y12
 repeat refine .cons ⟨⟨by kernel_rfl,by kernel_rfl,fun b=>by kernel_rfl,by kernel_rfl⟩,by kernel_rfl,by decide,by kernel_rfl,by kernel_rfl⟩ ?_
 exact .nil
def y16:List (Nat×Nat×Nat):=[(64964,64,4)]
theorem af8:Al Ft y16:=by
 unfold y16
 repeat refine .cons ⟨⟨by kernel_rfl,by kernel_rfl,fun b=>by kernel_rfl,by kernel_rfl⟩,by kernel_rfl,by decide,by kernel_rfl⟩ ?_
 exact .nil
end Go.Proofs.Vq
