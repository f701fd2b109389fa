import Derived.Test.YtcnkojgmochcgaaGreatDoorLfN
import Derived.Test.YtcnkojgmochcgaaGreatDoorVrT
noncomputable section
namespace Go.Ab
open Go.Ab.Lf
instance Fv:Io:=⟨fun _=>0,[(0,Lib.deBruijn32tab.map fun n:Nat=>Value.int .u8 (n:Int)),(1,Lib.deBruijn64tab.map fun n:Nat=>Value.int .u8 (n:Int))]⟩
theorem TU{g:G}{w:World}(h: @tF Fv g w):Go.Proofs.TabAt 0 Lib.deBruijn32tab w/\Go.Proofs.TabAt 1 Lib.deBruijn64tab w:=by
 have key: ∀ (b:Nat) (l:List Nat),oc w b 0 (l.map fun n:Nat=>Value.int .u8 (n:Int))->Go.Proofs.TabAt b l w:=by
  intro b l h j hj
  have:=h j (Value.int .u8 ((l.getD j 0:Nat):Int)) (by
   rw[List.getElem?_map,List.getElem?_eq_getElem hj,List.getD_eq_getElem?_getD,List.getElem?_eq_getElem hj]
   rfl)
  simpa using this
 exact⟨key _ _ (h _ (List.mem_cons_self)).2,key _ _ (h _ (List.mem_cons_of_mem _ List.mem_cons_self)).2⟩
end Go.Ab
namespace Go.Proofs.Vq
open Go.Ab Go.Ab.Lf Go.RowKit
set_option maxRecDepth 100000
theorem xC{w:Go.World}:K3 w w:=⟨rfl,rfl,rfl,Nat.le_refl _,fun _ _=>rfl⟩
theorem arT(x:Int)(h0:0<=x)(h1:x<=4294967295): @oL Fv Tryz.prog 49 [.int .u32 x] (.int .i64 (lz 32 x)):=by
 refine⟨Tryz.call49,fun g w vs hi ht hv=>?_⟩
 simp only[cJ,VR]at hv
 obtain⟨v,l,rfl,rfl,rfl⟩:=hv
 refine(Any.bits_LeadingZeros32 Tryz.Yu x w h0 h1).mono ?_
 rintro e w' ⟨rfl,rfl⟩
 exact⟨_,rfl,xC,by simp only[VR];rfl⟩
theorem arU(x:Int)(h0:0<=x)(h1:x<=18446744073709551615): @oL Fv Tryz.prog 52 [.int .u64 x] (.int .i64 (lz 64 x)):=by
 refine⟨Tryz.call52,fun g w vs hi ht hv=>?_⟩
 simp only[cJ,VR]at hv
 obtain⟨v,l,rfl,rfl,rfl⟩:=hv
 refine(Any.bits_LeadingZeros64 Tryz.Yv x w h0 h1).mono ?_
 rintro e w' ⟨rfl,rfl⟩
 exact⟨_,rfl,xC,by simp only[VR];rfl⟩
theorem arV(x:Int)(h0:0<=x)(h1:x<=4294967295): @oL Fv Tryz.prog 50 [.int .u32 x] (.int .i64 (tz 32 x)):=by
 refine⟨Tryz.call50,fun g w vs hi ht hv=>?_⟩
 simp only[cJ,VR]at hv
 obtain⟨v,l,rfl,rfl,rfl⟩:=hv
 obtain⟨a,rfl⟩:=Int.eq_ofNat_of_zero_le h0
 refine(Any7.bits_TrailingZeros32 Tryz.aep a (by omega) w fun _=>(TU ht).1).mono ?_
 rintro e w' ⟨rfl,rfl⟩
 exact⟨_,rfl,xC,by simp only[VR];rfl⟩
theorem arW(x:Int)(h0:0<=x)(h1:x<=18446744073709551615): @oL Fv Tryz.prog 53 [.int .u64 x] (.int .i64 (tz 64 x)):=by
 refine⟨Tryz.call53,fun g w vs hi ht hv=>?_⟩
 simp only[cJ,VR]at hv
 obtain⟨v,l,rfl,rfl,rfl⟩:=hv
 obtain⟨a,rfl⟩:=Int.eq_ofNat_of_zero_le h0
 refine(Any7.bits_TrailingZeros64 Tryz.aeq a (by omega) w fun _=>(TU ht).2).mono ?_
 rintro e w' ⟨rfl,rfl⟩
 exact⟨_,rfl,xC,by simp only[VR];rfl⟩
abbrev Zb:Ty:=.pair (.cq nd) (.pair (.cq BC) (.pair (.cq i64) (.pair (.cq uJ) (.pair (.cq uJ) (.pair (.cq BD) (.pair (.cq BE) (.pair i64 (.pair (.cq BG) (.pair (.cq BH) (.cq BI))))))))))
def Jy:den Zb:=(ng.1,ng.2.1,ng.2.2.1,ng.2.2.2.1,ng.2.2.2.2.1,ng.2.2.2.2.2.1,ng.2.2.2.2.2.2.1,ng.2.2.2.2.2.2.2.1,ng.2.2.2.2.2.2.2.2.1,ng.2.2.2.2.2.2.2.2.2.1,ng.2.2.2.2.2.2.2.2.2.2.1)
def VW(f:FuncId):Bool:=Nat.beq f 67||Nat.beq f 69||Nat.beq f 70||Nat.beq f 71||Nat.beq f 72||Nat.beq f 116||Nat.beq f 117||Nat.beq f 118||Nat.beq f 120||Nat.beq f 121||Nat.beq f 122||Nat.beq f 123||Nat.beq f 124||Nat.beq f 221
theorem aeY[Io]{f:FuncId}(h:VW f=true):oL Tryz.prog f [.qi] .qi/\oL Tryz.prog f [.sU 0 []] .qi:=by
 unfold VW at h
 simp only[Bool.or_eq_true]at h
 rcases h with((((((((((((h|h)|h)|h)|h)|h)|h)|h)|h)|h)|h)|h)|h)|h
 ·obtain rfl:=Nat.eq_of_beq_eq_true h;exact Tryz.M6 Tryz.call67 Tryz.ark
 ·obtain rfl:=Nat.eq_of_beq_eq_true h;exact Tryz.M6 Tryz.call69 Tryz.arl
 ·obtain rfl:=Nat.eq_of_beq_eq_true h;exact Tryz.M6 Tryz.call70 Tryz.arn
 ·obtain rfl:=Nat.eq_of_beq_eq_true h;exact Tryz.M6 Tryz.call71 Tryz.aro
 ·obtain rfl:=Nat.eq_of_beq_eq_true h;exact Tryz.M6 Tryz.call72 Tryz.arp
 ·obtain rfl:=Nat.eq_of_beq_eq_true h;exact Tryz.M6 Tryz.call116 Tryz.aiy
 ·obtain rfl:=Nat.eq_of_beq_eq_true h;exact Tryz.M6 Tryz.call117 Tryz.aiz
 ·obtain rfl:=Nat.eq_of_beq_eq_true h;exact Tryz.M6 Tryz.call118 Tryz.aiA
 ·obtain rfl:=Nat.eq_of_beq_eq_true h;exact Tryz.M6 Tryz.call120 Tryz.aiB
 ·obtain rfl:=Nat.eq_of_beq_eq_true h;exact Tryz.M6 Tryz.call121 Tryz.aiC
 ·obtain rfl:=Nat.eq_of_beq_eq_true h;exact Tryz.M6 Tryz.call122 Tryz.aiD
 ·obtain rfl:=Nat.eq_of_beq_eq_true h;exact Tryz.M6 Tryz.call123 Tryz.aiE
 ·obtain rfl:=Nat.eq_of_beq_eq_true h;exact Tryz.M6 Tryz.call124 Tryz.aiF
 ·obtain rfl:=Nat.eq_of_beq_eq_true h;exact Tryz.M6 Tryz.call221 Tryz.aiG
def Zc(f:FuncId)(az:List AV):Option AV:=bif VW f then(bif q7 [.qi] az then some .qi else(bif q7 [.sU 0 []] az then some .qi else none))else none
theorem LH[Io]: ∀ f az v,Zc f az=some v->oL Tryz.prog f az v:=by
 intro f az v h
 unfold Zc at h
 cases hc:VW f with
 |false=>rw[hc]at h;cases h
 |true=>
  obtain⟨k1,k2⟩:=aeY hc
  rw[hc,cond_true]at h
  cases h1:q7 [.qi] az with
  |true=>rw[h1]at h;cases h;obtain rfl:=qD _ _ h1;exact k1
  |false=>
   rw[h1,cond_false]at h
   cases h2:q7 [.sU 0 []] az with
   |true=>rw[h2]at h;cases h;obtain rfl:=qD _ _ h2;exact k2
   |false=>rw[h2]at h;cases h
def arY(n d:Nat):nv:=Kj Zc (wG Tryz.gt (Kj Zc) n d)
theorem Zd[Io](n d:Nat):nP Tryz.prog (arY n d):=Dz LH (wH (B5 Tryz.mixed) Tryz.gts (fun _ hc=>Dz LH hc) n d)
theorem arZ[Io]:oL Tryz.prog 41 [] (.bool true):=AK (Za 100 40) (by kernel_rfl) (by kernel_rfl)
theorem aju[Io]:oL Tryz.prog 56 [.agg (canon Zb Jy)] (.int .i64 0):=AK (Zd 1000 60) (by kernel_rfl) (by kernel_rfl)
theorem ar0[Io]{m:List AV}(h:EV N0 Zb Jy m):oL Tryz.prog 56 [.agg m] (.int .i64 0):=by
 refine⟨Tryz.call56,fun g w vs hi ht hv=>aju.2 g w vs hi ht ?_⟩
 simp only[cJ,VR]at hv ⊢
 obtain⟨v,l,rfl,⟨us,rfl,hu⟩,rfl⟩:=hv
 exact⟨_,_,rfl,⟨us,rfl,zW Zb Jy m _ h hu⟩,rfl⟩
end Go.Proofs.Vq
