import Derived.Test.YtjeanplhkkpdmaaGreatDoorVvJ
noncomputable section
namespace Go.Proofs.Vv
open Go.Ab Go.Ab.Lf Go.Proofs.Vd
set_option maxRecDepth 1000000
theorem ZM:TB 64924:=sM (W:=16) (N:=8) (w:=8) (b:=0) (sd:=true) fun a b=>by kernel_rfl
theorem ZN:TB 64926:=sM (W:=16) (N:=8) (w:=8) (b:=0) (sd:=false) fun a b=>by kernel_rfl
theorem ZO:TB 64956:=sM (W:=32) (N:=4) (w:=16) (b:=0) (sd:=true) fun a b=>by kernel_rfl
theorem ZP:TB 64958:=sM (W:=32) (N:=4) (w:=16) (b:=0) (sd:=false) fun a b=>by kernel_rfl
theorem ZQ:TB 64988:=sM (W:=64) (N:=2) (w:=32) (b:=0) (sd:=true) fun a b=>by kernel_rfl
theorem ZR:TB 64990:=sM (W:=64) (N:=2) (w:=32) (b:=0) (sd:=false) fun a b=>by kernel_rfl
theorem ZS:TU 64893:=Kx (W:=16) (N:=8) (w:=8) (sd:=false) fun y=>by kernel_rfl
theorem ZT:TB 64954:=aoG (W:=32) (N:=4) fun a b=>by kernel_rfl
theorem ZU:TB 64902:=Ky (w:=16) (l:=(0)) (h:=65535) fun a b=>by kernel_rfl
theorem ZV:TE 64793 8:=IC (w:=16) (n:=8) (.inr (.inl rfl)) rfl (fun A y=>gX (vO y) 16 A) fun A y=>by kernel_rfl
theorem ZW:TR 64794 8:=Rb (w:=16) (n:=8) (.inr (.inl rfl)) rfl fun A x y=>by kernel_rfl
theorem ZX:TS 64784:=fun x=>by rw[show(t152 (64784,x,())).val=goW 16 (fun _ _=>[]) (fun _=>x) 8 0 zV from by kernel_rfl];exact zY (fun _ _ _ h=>by cases h) _ _ _
theorem ZY:TU 64904:=sL (W:=16) (N:=8) (w:=8) (b:=1) (sd:=true) fun y=>by kernel_rfl
theorem ZZ:TU 64906:=sL (W:=16) (N:=8) (w:=8) (b:=1) (sd:=false) fun y=>by kernel_rfl
theorem Z0:TU 64936:=sL (W:=32) (N:=4) (w:=16) (b:=1) (sd:=true) fun y=>by kernel_rfl
theorem Z1:TU 64938:=sL (W:=32) (N:=4) (w:=16) (b:=1) (sd:=false) fun y=>by kernel_rfl
theorem Z2:TU 64968:=sL (W:=64) (N:=2) (w:=32) (b:=1) (sd:=true) fun y=>by kernel_rfl
theorem Z3:TU 64970:=sL (W:=64) (N:=2) (w:=32) (b:=1) (sd:=false) fun y=>by kernel_rfl
theorem Z4:TU 64894:=Kx (W:=32) (N:=4) (w:=16) (sd:=true) fun y=>by kernel_rfl
theorem Z5:TB 64869:=Ky (w:=8) (l:=(-128)) (h:=127) fun a b=>by kernel_rfl
theorem Z6:TE 64789 16:=IC (w:=8) (n:=16) (.inl rfl) rfl (fun A y=>cI .u64 (cI .u32 (sw (sX (vO y) 8 A)).1)) fun A y=>by kernel_rfl
theorem Z7:TE 64795 4:=IC (w:=32) (n:=4) (.inr (.inr (.inl rfl))) rfl (fun A y=>gX (vO y) 32 A) fun A y=>by kernel_rfl
theorem Z8:TR 64796 4:=Rb (w:=32) (n:=4) (.inr (.inr (.inl rfl))) rfl fun A x y=>by kernel_rfl
theorem Z9:TS 64785:=fun x=>by rw[show(t152 (64785,x,())).val=goW 32 (fun _ _=>[]) (fun _=>x) 4 0 zV from by kernel_rfl];exact zY (fun _ _ _ h=>by cases h) _ _ _
theorem Z':TB 64925:=sM (W:=16) (N:=8) (w:=8) (b:=1) (sd:=true) fun a b=>by kernel_rfl
theorem aaa:TB 64927:=sM (W:=16) (N:=8) (w:=8) (b:=1) (sd:=false) fun a b=>by kernel_rfl
theorem aab:TB 64957:=sM (W:=32) (N:=4) (w:=16) (b:=1) (sd:=true) fun a b=>by kernel_rfl
theorem aac:TB 64959:=sM (W:=32) (N:=4) (w:=16) (b:=1) (sd:=false) fun a b=>by kernel_rfl
theorem aad:TB 64989:=sM (W:=64) (N:=2) (w:=32) (b:=1) (sd:=true) fun a b=>by kernel_rfl
theorem aae:TB 64991:=sM (W:=64) (N:=2) (w:=32) (b:=1) (sd:=false) fun a b=>by kernel_rfl
theorem aaf:TU 64895:=Kx (W:=32) (N:=4) (w:=16) (sd:=false) fun y=>by kernel_rfl
theorem aag:TB 64870:=Ky (w:=8) (l:=(0)) (h:=255) fun a b=>by kernel_rfl
theorem aah:TE 64790 16:=IC (w:=8) (n:=16) (.inl rfl) rfl (fun A y=>gX (vO y) 8 A) fun A y=>by kernel_rfl
theorem aai:TE 64797 2:=IC (w:=64) (n:=2) (.inr (.inr (.inr rfl))) rfl (fun A y=>gX (vO y) 64 A) fun A y=>by kernel_rfl
theorem aaj:TR 64798 2:=Rb (w:=64) (n:=2) (.inr (.inr (.inr rfl))) rfl fun A x y=>by kernel_rfl
theorem aak:TS 64786:=fun x=>by rw[show(t152 (64786,x,())).val=goW 64 (fun _ _=>[]) (fun _=>x) 2 0 zV from by kernel_rfl];exact zY (fun _ _ _ h=>by cases h) _ _ _
end Go.Proofs.Vv
